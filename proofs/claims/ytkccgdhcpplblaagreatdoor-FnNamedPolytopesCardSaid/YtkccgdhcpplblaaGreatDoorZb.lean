/-
 Lemmas. Conditions: as each states them.
-/
import Derived.Test.YtkccgdhcpplblaaGreatDoorInst
import Derived.Laws.IdiomCopy
import Derived.Shelf.Bits.Mul64
set_option maxHeartbeats 8000000
namespace Go.Proofs.YtkccgdhcpplblaaGreatDoor.Vc
open Tryz
section
open Go.RowKit
variable{p S:ai}{k:Nat}
theorem ah7(n lo hi:Int)(w:aa):aJ prog 129 [ak n,ak lo,ak hi] w (fun v w'=>v= .bool (decide (lo<=n/\n<=hi))/\w'=w):=by
 refine bC func129 O ntmps129 O (df O) (bh O ?_);refine dI 10 O (fun h=>?_) (fun h=>?_)
 ·refine aw O (ar O (aw O (ar O (aw O (bH O ?_)))));refine dq O ?_;exact⟨by simp [h],O⟩
 refine aK O (aK O (aK O (bH O ?_)));refine dq O ?_;exact⟨by simp [h],O⟩
theorem zv(n lo hi:Int)(w:aa):aJ prog 115 [ak n,ak lo,ak hi] w (fun v w'=>v= .bool (decide (lo<=n/\n<=hi))/\w'=w):=by
 refine bC func115 O ntmps115 O (df O) (bh O ?_);refine dI 10 O (fun h=>?_) (fun h=>?_)
 ·refine aw O (ar O (aw O (ar O (aw O (bH O ?_)))));refine dq O ?_;exact⟨by simp [h],O⟩
 refine aK O (aK O (aK O (bH O ?_)));refine dq O ?_;exact⟨by simp [h],O⟩
def kL(p:ai):Prop:=p.length<=400/\(∀x∈p,0<=x/\x<p.length)/\p.Nodup
instance (p:ai):Decidable (kL p):=by unfold kL;exact inferInstance
def Seen(p:ai)(k:Nat)(S:List Bool):Prop:=
 S.length=p.length/\(∀x∈p.take k,0<=x/\x<p.length)/\(p.take k).Nodup/\∀x:Int,0<=x->x<p.length->(gb S x=true↔x∈p.take k)
theorem bV(h:k<p.length):gi p k=p[k]:=by simp [gi,dm,fq h]
theorem wE(h:k<p.length):p.take (k+1)=p.take k++ [gi p k]:=by rw [bV h,nM h]
theorem FV{S:List Bool}{x y:Int}{b:Bool}(hx:0<=x)(eQ:x<S.length)(hy:0<=y):gb (S.set x.toNat b) y=if x=y then b else gb S y:=by
 simp only [gb,dm,mR]
 by_cases e:x=y
 ·subst e;rw [aB rfl,aB rfl,aB (by omega)];rfl
 rw [az (by omega),az e]
theorem mD{x y:Int}{b:Int}(hx:0<=x)(eQ:x<S.length)(hy:0<=y):gi (S.set x.toNat b) y=if x=y then b else gi S y:=by
 simp only [gi,dm,mR]
 by_cases e:x=y
 ·subst e;rw [aB rfl,aB rfl,aB (by omega)];rfl
 rw [az (by omega),az e]
theorem Seen.zero(p:ai):Seen p 0 (List.replicate p.length false):=⟨by simp,by simp,by simp,fun x h0 h1=>by
 simp [gb,dm,List.getElem?_replicate];split<;>simp⟩
theorem Seen.bad{S:List Bool}(h:Seen p k S)(hk:k<p.length)(hb:¬(0<=gi p k/\gi p k<=p.length - 1)):¬kL p:=fun hp=>by
 have:=hp.2.1 (gi p k) (by rw [bV hk];exact dK hk);omega
theorem Seen.YO{S:List Bool}(h:Seen p k S)(hk:k<p.length)(h0:0<=gi p k/\gi p k<=p.length - 1)(hb:gb S (gi p k)=true):¬kL p:=fun hp=>by
 have h1:=(h.2.2.2 (gi p k) h0.1 am).1 hb;have h2:(p.take (k+1)).Nodup:=hp.2.2.sublist (List.take_sublist _ _);rw [wE hk,List.nodup_append]at h2;exact h2.2.2 _ h1 _ (by simp) O
theorem Seen.step{S:List Bool}(h:Seen p k S)(hk:k<p.length)(h0:0<=gi p k/\gi p k<=p.length - 1)(hb:gb S (gi p k)=false):Seen p (k+1) (S.set (gi p k).toNat true):=by
 obtain⟨h1,h2,h3,h4⟩:=h;have h5:¬gi p k∈p.take k:=fun hm=>by have:=(h4 _ h0.1 am).2 hm;rw [hb]at this;cases this
 refine⟨by simpa using h1,?_,?_,fun x hx eQ=>?_⟩
 ·rw [wE hk];intro x hx;rcases jd.1 hx with hx | hx
  ·exact h2 x hx
  simp at hx;subst hx;omega
 ·rw [wE hk,List.nodup_append];refine⟨h3,by simp,fun a ha b yw=>?_⟩;simp at yw;subst yw;intro e;subst e;exact h5 ha
 rw [FV h0.1 (by omega) hx,wE hk,jd]
 by_cases e:gi p k=x
 ·simp [e]
 rw [az e,h4 x hx eQ];simp;intro h;exact absurd h.symm e
theorem Seen.done{S:List Bool}(h:Seen p k S)(hk:¬k<p.length)(hl:p.length<=400):kL p:=by
 obtain⟨h1,h2,h3,h4⟩:=h;rw [iY (by omega)]at h2 h3;exact⟨hl,h2,h3⟩
theorem OS(A:aj)(n c:Nat)(p:ai)(w:aa)(hR:cL w A n p):aJ prog 136 [.slice A n c] w (fun v w'=>v= .bool (decide (kL p))/\St w w' []):=by
 have hl:=hR.1;subst hl;refine bC func136 O ntmps136 O (df O) ?_;refine bh O (a8 O O (aC O ?_));refine aM _ O (fun h=>?_) (fun h=>?_)
 ·refine dM O (dq O ?_);exact⟨by rw [cT (fun hp:kL p=>by have:=hp.1;omega)],St.refl _⟩
 refine aA O (a8 O O ?_);refine zD p.length (St.refl w) O O am fun A1 w1 aH=>aC O (Cd.loop (α:=Nat×List Bool) (fun s=> [(0,.slice A p.length c),(3,.slice A1 p.length p.length),(4,ak (s.1:Int))]) (fun s w'=>St w w' [gK 4 A1 p.length p.length s.2]/\s.1<=p.length/\Seen p s.1 s.2) (fun s=>p.length - s.1) (0,List.replicate p.length false) (aqv O) ⟨aH,bg _,Seen.zero p⟩ ?_);rintro⟨k,S⟩ e w2 ⟨aF,hk,hI⟩;dsimp only at aF hk hI|-;refine bh O (a8 O O (aC O ?_));refine aM _ O (fun h1=>?_) (fun h1=>?_)
 ·refine aA O (aqj (aF.gA hR).2 O O O am h1 (aY (aF.gA hR) O ?_));refine ar O (a8 O O (dZ O ?_));refine aL (ah7 _ _ _ _) O ?_;rintro _ _ ⟨rfl,rfl⟩
  first | refine fv rfl rfl ?_ | refine gz rfl rfl ?_
  refine ar O (dI 26 O (fun h2=>?_) (fun h2=>?_))
  ·refine aK O (aK O (aK O (aK O (aK O (aK O (aK O (aC O ?_)))))));refine Cd.gu O (dM O (fB (fe ?_)));refine dq O ?_;exact⟨by rw [cT (hI.bad (by omega) (by omega))],aF.none⟩
  refine aw O (ar O (aw O (ar O (aw O (ar O (aw O ?_))))));refine aqj (aF.gA hR).2 O O O am h1 (aw O (aY (aF.gA hR) O (aw O (aD (aF.jA 0 O).2 O (aw O (sM (aF.jA 0 O) O am O O (aC O ?_)))))));refine Cd.cond O (fun h3=>?_) (fun h3=>?_)
  ·refine dM O (fB (fe ?_));refine dq O ?_;exact⟨by rw [cT (hI.YO (by omega) (by omega) h3)],aF.none⟩
  refine aA O (aqj (aF.gA hR).2 O O O am h1 (aY (aF.gA hR) O (aD (aF.jA 0 O).2 O (uK 0 aF O O O am ?_))));intro w3 aQ;refine ar O (aI O (aT O (tQ ?_)));exact⟨(k+1,S.set (gi p k).toNat true),by show p.length - (k+1)<p.length - k;omega,(aqv O),aQ,by show k+1<=_;omega,hI.step am am h3⟩
 refine bp O (bt (gw O ?_));refine dq O ?_;exact⟨by rw [dz (hI.done (by omega) (by omega))],aF.none⟩
def fill{α:Type}(k:Nat)(xs:List α)(d:α):List α:=xs.take k++List.replicate (xs.length - k) d
theorem bR{p:ah}(h:k<p.length):gl p k=p[k]:=by simp [gl,dm,fq h]
theorem Qy{p:ah}(h:k<p.length):p.take (k+1)=p.take k++ [gl p k]:=by rw [bR h,nM h]
theorem xO(A:aj)(n c:Nat)(w:aa):aJ prog 72 [.slice A n c] w (fun v w'=>v=ak n/\w'=w):=by
 refine bC func72 O ntmps72 O (df O) ?_;refine bh O (a8 O O (bH O ?_));exact iH O ⟨O,O⟩
theorem Hr(A:aj)(n c:Nat)(w:aa):aJ prog 75 [.slice A n c] w (fun v w'=>v=ak n/\w'=w):=by
 refine bC func75 O ntmps75 O (df O) ?_;refine bh O (a8 O O (bH O ?_));exact iH O ⟨O,O⟩
theorem ahw(A:aj)(n c:Nat)(p:ai)(w:aa)(hR:cL w A n p):aJ prog 189 [.slice A n c] w (fun v w'=>v= .bool (decide (kL p))/\St w w' []):=by
 have hl:=hR.1;subst hl;refine bC func189 O ntmps189 O (df O) ?_;refine bh O (a8 O O (aC O ?_));refine aM _ O (fun h=>?_) (fun h=>?_)
 ·refine dM O (dq O ?_);exact⟨by rw [cT (fun hp:kL p=>by have:=hp.1;omega)],St.refl _⟩
 refine aA O (a8 O O ?_);refine zD p.length (St.refl w) O O am fun A1 w1 aH=>ar O (a8 O O (aC O ?_));refine Cd.loop (α:=Nat×List Bool) (fun s=> [(0,.slice A p.length c),(3,.slice A1 p.length p.length),(12,.slice A p.length c),(13,ak (p.length:Int)),(14,ak (s.1:Int))]) (fun s w'=>St w w' [gK 4 A1 p.length p.length s.2]/\s.1<=p.length/\Seen p s.1 s.2) (fun s=>p.length - s.1) (0,List.replicate p.length false) (aqv O) ⟨aH,bg _,Seen.zero p⟩ ?_;rintro⟨k,S⟩ e w2 ⟨aF,hk,hI⟩;dsimp only at aF hk hI|-;refine bL O (aM _ O (fun h1=>?_) (fun h1=>?_))
 ·refine aA O (aqj (aF.gA hR).2 O O O am h1 (aY (aF.gA hR) O (ar O (aL (xO _ _ _ _) O ?_))));rintro _ _ ⟨rfl,rfl⟩;refine dZ O (aL (zv _ _ _ _) O ?_);rintro _ _ ⟨rfl,rfl⟩
  first | refine fv rfl rfl ?_ | refine gz rfl rfl ?_
  refine ar O (dI 24 O (fun h2=>?_) (fun h2=>?_))
  ·refine aK O (aK O (aK O (aK O (aC O ?_))));refine Cd.gu O (dM O (fB (fe ?_)));refine dq O ?_;exact⟨by rw [cT (hI.bad (by omega) (by omega))],aF.none⟩
  refine aw O (ar O (aw O (ar O (aw O ?_))));refine aD (aF.jA 0 O).2 O (aw O (sM (aF.jA 0 O) O am O O (aC O ?_)));refine Cd.cond O (fun h3=>?_) (fun h3=>?_)
  ·refine dM O (fB (fe ?_));refine dq O ?_;exact⟨by rw [cT (hI.YO (by omega) (by omega) h3)],aF.none⟩
  refine aA O (aD (aF.jA 0 O).2 O (uK 0 aF O O O am ?_));intro w3 aQ;refine ar O (aI O (aT O (tQ ?_)));exact⟨(k+1,S.set (gi p k).toNat true),by show p.length - (k+1)<p.length - k;omega,(aqv O),aQ,by show k+1<=_;omega,hI.step am am h3⟩
 refine bp O (bt (gw O ?_));refine dq O ?_;exact⟨by rw [dz (hI.done (by omega) (by omega))],aF.none⟩
def pg(p:ai):Prop:=∀i:Nat,i<p.length->gi p i≠i/\gi p (gi p i)=i
instance (p:ai):Decidable (pg p):=by unfold pg;exact inferInstance
theorem kL.range(h:kL p){i:Int}(h0:0<=i)(h1:i<p.length):0<=gi p i/\gi p i<p.length:=by
 have e:gi p i=p[i.toNat]' am:=by simp [gi,dm,fq (show i.toNat<p.length by omega)]
 rw [e];exact h.2.1 _ (dK _)
theorem Wk(A:aj)(n c:Nat)(p:ai)(w:aa)(hR:cL w A n p)(hp:kL p):aJ prog 137 [.slice A n c] w (fun v w'=>v= .bool (decide (pg p))/\w'=w):=by
 have hl:=hR.1;subst hl;have Et:=hp.1;refine bC func137 O ntmps137 O (df O) (bL O ?_);refine Cd.loop (α:=Nat) (fun k=> [(0,.slice A p.length c),(3,ak k)]) (fun k w'=>w'=w/\k<=p.length/\∀i,i<k->gi p i≠i/\gi p (gi p i)=i) (fun k=>p.length - k) 0 (aqv O) ⟨O,bg _,fun i hi=>by omega⟩ ?_;rintro k e w2 ⟨rfl,hk,hI⟩;refine bh O (a8 O O (aC O ?_));refine aM _ O (fun h1=>?_) (fun h1=>?_)
 ·have hr:=hp.range (i:=k) am h1;refine aA O (aqj hR.2 O O O am h1 (aY hR O (ar O ?_)));refine dI 16 O (fun h2=>?_) (fun h2=>?_)
  ·refine aK O (aK O (aK O (aK O (aK O (aK O (aK O (aK O (aK O (aC O ?_)))))))));refine Cd.gu O (dM O (fB (fe ?_)));refine dq O ?_;exact⟨by rw [cT (fun hf:pg p=> (hf k (by omega)).1 h2)],O⟩
  refine aw O (ar O (aw O (ar O (aw O (ar O (aw O ?_))))));refine aqj hR.2 O O O am h1 (aw O (aY hR O (aw O (aD hR.2 O (aw O (aY hR O ?_))))));refine aw O (ar O (aw O (aC O ?_)));refine aM _ O (fun h3=>?_) (fun h3=>?_)
  ·refine dM O (fB (fe ?_));refine dq O ?_;exact⟨by rw [cT (fun hf:pg p=>h3 (hf k (by omega)).2)],O⟩
  refine aA O (aI O (aT O (tQ ?_)));refine⟨k+1,am,(aqv O),O,am,fun i hi=>?_⟩
  by_cases e:i=k
  ·subst e;exact⟨h2,jR.1 h3⟩
  exact hI i am
 refine bp O (bt (gw O ?_));refine dq O ?_;exact⟨by rw [dz (show pg p from fun i hi=>hI i (by omega))],O⟩
theorem ahq(A:aj)(n c:Nat)(p:ai)(w:aa)(hR:cL w A n p):aJ prog 117 [.slice A n c] w (fun v w'=>v= .bool (decide (kL p/\pg p))/\St w w' []):=by
 have hl:=hR.1;subst hl;refine bC func117 O ntmps117 O (df O) (bh O (aL (ahw _ _ _ _ _ hR) O ?_));rintro _ w1 ⟨rfl,aH⟩
 first | refine fv rfl rfl ?_ | refine gz rfl rfl ?_
 refine aC O (aM _ O (fun hp=>?_) (fun hp=>?_))
 ·refine dM O (dq O ?_);exact⟨by rw [cT (fun h=>hp h.1)],aH⟩
 have hp:=jR.1 hp;have Et:=hp.1;refine aA O (a8 O O (aC O ?_));refine Cd.loop (α:=Nat) (fun k=> [(0,.slice A p.length c),(8,.slice A p.length c),(9,ak (p.length:Int)),(10,ak k)]) (fun k w'=>St w w' []/\k<=p.length/\∀i,i<k->gi p i≠i/\gi p (gi p i)=i) (fun k=>p.length - k) 0 (aqv O) ⟨aH,bg _,fun i hi=>by omega⟩ ?_;rintro k e w2 ⟨aF,hk,hI⟩;refine bL O (aM _ O (fun h1=>?_) (fun h1=>?_))
 ·have hr:=hp.range (i:=k) am h1;have hA:=aF.gA hR;refine aA O (aqj hA.2 O O O am h1 (aY hA O (ar O ?_)));refine dI 18 O (fun h2=>?_) (fun h2=>?_)
  ·refine aK O (aK O (aK O (aK O (aK O (aK O (aC O ?_))))));refine Cd.gu O (dM O (fB (fe ?_)));refine dq O ?_;exact⟨by rw [cT (fun hf:kL p/\pg p=> (hf.2 k (by omega)).1 h2)],aF⟩
  refine aw O (ar O (aw O (ar O (aw O ?_))));refine aD hA.2 O (aw O (aY hA O ?_));refine aw O (ar O (aw O (aC O ?_)));refine aM _ O (fun h3=>?_) (fun h3=>?_)
  ·refine dM O (fB (fe ?_));refine dq O ?_;exact⟨by rw [cT (fun hf:kL p/\pg p=>h3 (hf.2 k (by omega)).2)],aF⟩
  refine aA O (aI O (aT O (tQ ?_)));refine⟨k+1,am,(aqv O),aF,am,fun i hi=>?_⟩
  by_cases e:i=k
  ·subst e;exact⟨h2,jR.1 h3⟩
  exact hI i am
 refine bp O (bt (gw O ?_));refine dq O ?_;exact⟨by rw [dz (show kL p/\pg p from⟨hp,fun i hi=>hI i (by omega)⟩)],aF⟩
theorem ER(A Am:aj)(n c:Nat)(f:Nat->ad)(w:aa)(hR:Rd w A 1 f)(hf:f 0= .slice Am n c):aJ prog 116 [.pointer A] w (fun v w'=>v=ak n/\w'=w):=by
 refine bC func116 O ntmps116 O (df O) (bh O ?_);refine lN hR an O O (aV hR O (aqp hR O O hf O O (aL (Hr _ _ _ _) O ?_)));rintro _ _ ⟨rfl,rfl⟩;refine bH O (iH O ?_);exact⟨O,O⟩
theorem uU(A Am:aj)(n c:Nat)(rs:List aO)(xss:ah)(f:Nat->ad)(w:aa)(hR:Rd w A 1 f)(hf:f 0= .slice Am n c)(hM:bF w Am n rs xss)(hn:0<n):aJ prog 78 [.pointer A] w (fun v w'=>v=ak ((rg rs 0).n:Int)/\w'=w):=by
 refine bC func78 O ntmps78 O (df O) (bh O ?_);refine lN hR an O O (aV hR O (aqp hR O O hf O O (aD hM.top.2 O (b9 hM.top O (aL (xO _ _ _ _) O ?_)))));rintro _ _ ⟨rfl,rfl⟩;refine bH O (iH O ?_);exact⟨O,O⟩
end
section
variable{N i:Nat}{l p b:ai}{x y z pt:Int}
theorem Pl:∀(n:Nat) (l:List Nat),l.Nodup->(∀x∈l,x<n)->l.length<=n
 | 0,l,_,h=>by
  cases l with
  | nil=>simp
  | cons a l=>exact absurd (h a (by simp)) am
 | n+1,l,hn,h=>by
  have h1:=Pl n (l.erase n) (hn.erase n) (fun x hx=>by
   have h2:=(hn.mem_erase_iff).1 hx;have:=h x h2.2;omega)
  have:=List.length_erase_le (a:=n) (l:=l);rw [List.length_erase]at h1
  split at h1<;>omega
theorem q8(hn:l.Nodup)(h:∀x∈l,0<=x/\x<N):l.length<=N:=by
 have:=Pl N (l.map Int.toNat) (by
  rw [List.nodup_iff_pairwise_ne,oD];refine List.Pairwise.imp_of_mem ?_ hn;intro a b ha hb eA e;have:=h a ha;have:=h b hb;omega) (fun x hx=>by
  obtain⟨y,hy,rfl⟩:=dF.1 hx;have:=h y hy;omega)
 simpa using this
def Sys(N:Nat)(xss:ah):Prop:=∀p∈xss,p.length=N/\∀x:Int,0<=x->x<N->0<=gi p x/\gi p x<N
inductive Reach(xss:ah)(x:Int):Int->Prop where
 | refl:Reach xss x x
 | step {y:Int} {p:ai}:Reach xss x y->p∈xss->Reach xss x (gi p y)
theorem Reach.trans{xss:ah}(h:Reach xss x y)(h':Reach xss y z):Reach xss x z:=by
 induction h' with
 | refl=>exact h
 | step _ hp ih=>exact .step ih hp
def jP(out:ai)(y:Int):ai:=if y∈out then out else out++ [y]
def expand(xss:ah)(x:Int)(out:ai):ai:=xss.foldl (fun o p=>jP o (gi p x)) out
def oI(xss:ah):Nat->Nat->ai->ai
 | 0,_,out=>out
 | f+1,i,out=>if i<out.length then oI xss f (i+1) (expand xss (gi out i) out)else out
def cC(N:Nat)(xss:ah)(pt:Int):ai:=oI xss (N+1) 0 [pt]
theorem KD{out:ai}:z∈jP out y↔z∈out\/z=y:=by
 unfold jP
 split
 ·constructor
  ·exact Or.inl
  rintro(h | rfl)
  ·exact h
  assumption
 simp
theorem alH{out:ai}(h:out.Nodup):(jP out y).Nodup:=by
 unfold jP
 split
 ·exact h
 rename_i hy;rw [List.nodup_append];refine⟨h,by simp,fun a ha b hb=>?_⟩;simp at hb;subst hb;rintro rfl;exact hy ha
theorem PK(out:ai)(y:Int):out<+:jP out y:=by
 unfold jP
 split
 ·exact List.prefix_rfl
 exact List.prefix_append _ _
structure Good(N:Nat)(xss:ah)(pt:Int)(out:ai):Prop where
 nodup:out.Nodup
 range:∀x∈out,0<=x/\x< (N:Int)
 reach:∀x∈out,Reach xss pt x
theorem Good.push{xss:ah}{out:ai}(h:Good N xss pt out)(hs:Sys N xss)(hx:x∈out)(hp:p∈xss):Good N xss pt (jP out (gi p x)):=
 ⟨alH h.nodup,fun z hz=>by
  rcases KD.1 hz with hz | rfl
  ·exact h.range z hz
  ·exact(hs p hp).2 x (h.range x hx).1 (h.range x hx).2,fun z hz=>by
  rcases KD.1 hz with hz | rfl
  ·exact h.reach z hz
  exact .step (h.reach x hx) hp⟩
theorem Good.len{xss:ah}{out:ai}(h:Good N xss pt out):out.length<=N:=q8 h.nodup h.range
theorem foldl_push{N:Nat}{xss:ah}{pt:Int}(hs:Sys N xss){x:Int}:∀(ps:ah) (out:ai),(∀p∈ps,p∈xss)->Good N xss pt out->x∈out->
 Good N xss pt (ps.foldl (fun o p=>jP o (gi p x)) out)/\out<+:ps.foldl (fun o p=>jP o (gi p x)) out/\∀p∈ps,gi p x∈ps.foldl (fun o p=>jP o (gi p x)) out
 | [],out,_,h,_=> ⟨h,List.prefix_rfl,fun p hp=>by cases hp⟩
 | q::ps,out,Vq,h,hx=>by
  have h1:=h.push hs hx (Vq q (by simp));have mW:=PK out (gi q x);obtain⟨g1,g2,g3⟩:=foldl_push hs ps (jP out (gi q x)) (fun p hp=>Vq p (by simp [hp])) h1 (mW.subset hx);refine⟨g1,mW.trans g2,fun p hp=>?_⟩;rcases iX.1 hp with rfl | hp
  ·exact g2.subset (KD.2 (Or.inr O))
  ·exact g3 p hp
theorem gi_in{out:ai}(h:i<out.length):gi out i∈out:=by rw [bV h];exact dK h
theorem BQ{a:ai}(h:a<+:b)(hi:i<a.length):gi b i=gi a i:=by
 rw [bV hi,bV (Nat.lt_of_lt_of_le hi h.length_le)];obtain⟨t,rfl⟩:=h;rw [List.getElem_append_left hi]
theorem RO{N:Nat}{xss:ah}{pt:Int}(hs:Sys N xss):∀(f i:Nat) (out:ai),Good N xss pt out->N<f+i->(∀j,j<i->j<out.length->∀p∈xss,gi p (gi out j)∈out)->
 Good N xss pt (oI xss f i out)/\out<+:oI xss f i out/\∀x∈oI xss f i out,∀p∈xss,gi p x∈oI xss f i out
 | 0,i,out,h,hf,hc=>by
  simp only [oI];refine⟨h,List.prefix_rfl,fun x hx p hp=>?_⟩;obtain⟨j,hj,rfl⟩:=gC.1 hx;have:=h.len;have:=hc j am hj p hp;rw [bV hj]at this;exact this
 | f+1,i,out,h,hf,hc=>by
  simp only [oI]
  split
  ·rename_i hi;obtain⟨g1,g2,g3⟩:=foldl_push hs xss out (fun p hp=>hp) h (gi_in hi);replace g2:out<+:expand xss (gi out i) out:=g2;obtain⟨k1,k2,k3⟩:=RO hs f (i+1) (expand xss (gi out i) out) g1 am (fun j hj mn p hp=>by
    by_cases u9:j=i
    ·subst u9;show gi p (gi (expand xss _ out) _)∈expand xss _ out;rw [BQ g2 hi];exact g3 p hp
    ·have U3:j<out.length:=by omega
     show gi p (gi (expand xss _ out) _)∈expand xss _ out;rw [BQ g2 U3];exact g2.subset (hc j am U3 p hp))
   exact⟨k1,g2.trans k2,k3⟩
  ·rename_i hi;refine⟨h,List.prefix_rfl,fun x hx p hp=>?_⟩;obtain⟨j,hj,rfl⟩:=gC.1 hx;have:=hc j am hj p hp;rw [bV hj]at this;exact this
theorem IW{xss:ah}(h0:0<=pt)(h1:pt<N):Good N xss pt [pt]:=
 ⟨by simp,fun x hx=>by simp at hx;subst hx;exact⟨h0,h1⟩,fun x hx=>by simp at hx;subst hx;exact .refl⟩
theorem tx{xss:ah}(hs:Sys N xss)(h0:0<=pt)(h1:pt<N):
 Good N xss pt (cC N xss pt)/\ [pt]<+:cC N xss pt/\∀x,x∈cC N xss pt↔Reach xss pt x:=by
 obtain⟨g1,g2,g3⟩:=RO (N:=N) hs (N+1) 0 [pt] (IW h0 h1) am (fun j hj=>by omega);refine⟨g1,g2,fun x=> ⟨g1.reach x,fun hr=>?_⟩⟩
 induction hr with
 | refl=>exact g2.subset (by simp)
 | step _ hp ih=>exact g3 _ ih _ hp
end
section
open Go.RowKit
section
variable{t:ae}{z z0:ad}{b c0 m c':Nat}
variable {P:Program} {N:Nat} {ops:Array Oper} {K:Env->aa->Prop} {rest:List Oper} {e:Env} {w0 w w':aa} {ks:List Ck} {d:Nat} {ty:ae} {pos:String} {af:Array Edge}
theorem eL{el:ae}[bA P t (.slice el)][bq P el z 1 b]{x0:ag}{i:Int}(hS:St w0 w ks)(h0:ev e x0=ak i)(hz:z.cells= #[z])(hb:Nat.blt d N=true)(hK:∀A w',St w0 w' (ax el A 1 1 [i]::ks)->ao P N ops K rest (bn e d (.slice A 1 1)) w'):ao P N ops K (⟨some d,.buildSlice t 1 #[(0,x0)],ty,pos,af,none⟩::rest) e w:=
 .LH hS h0 rfl hz hb hK
theorem lp{el:ae}[bA P t (.slice el)][bq P el z 1 b]{x0:ag}{A0:aj}{n0:Nat}(hS:St w0 w ks)(h0:ev e x0= .slice A0 n0 c0)(hz:z.cells= #[z])(hb:Nat.blt d N=true)(hK:∀A w',St w0 w' (cg el A 1 1 [⟨A0,n0,c0⟩]::ks)->ao P N ops K rest (bn e d (.slice A 1 1)) w'):ao P N ops K (⟨some d,.buildSlice t 1 #[(0,x0)],ty,pos,af,none⟩::rest) e w:=
 .LH hS h0 rfl hz hb hK
theorem ajc{ys:ai}(h:ys.length=m):(List.range m).map (fun j=>Value.int .i64 (ys.getD j 0))=ys.map (ak):=by
 subst h;apply jE
 ·simp
 intro i h1 h2;simp [dm,fq (show i<ys.length by simpa using h1)]
theorem ajd{ys:List aO}(h:ys.length=m):(List.range m).map (fun j=> (ys.getD j eY).v)=ys.map aO.v:=by
 subst h;apply jE
 ·simp
 intro i h1 h2;simp [dm,fq (show i<ys.length by simpa using h1)]
theorem aqs{el:ae}[hU:bA P t (.slice el)][bq P el z 1 b]{x y:ag}(i:Nat){A:aj}{n c:Nat}{xs:ai}{A':aj}{ys:ai}(hS:St w0 w ks)(hk:ks[i]?=some (ax el A n c xs))(hR:cL w A' m ys)(hx:ev e x= .slice A n c)(hy:ev e y= .slice A' m c')(hz:z.cells= #[z])(rK:n+m<=9223372036854775807)(pA:(n+m)*b<=140737488355328)(hb:Nat.blt d N=true)(hK:∀A2 c2 w',St w0 w' (ks.set i (ax el A2 (n+m) c2 (xs++ys)))->ao P N ops K rest (bn e d (.slice A2 (n+m) c2)) w'):
 ao P N ops K (⟨some d,.call ⟨.builtin .append, #[x,y], #[t,t]⟩,ty,pos,af,none⟩::rest) e w:=
 .app i hS hk hR.2 hx hy rfl hz (fun _ _=>rfl) (by simpa [maxLen]using rK) pA hb fun A2 c2 w' h=>hK A2 c2 w' (by
  rw [ajc hR.1]at h;simpa [ax]using h)
theorem fu{el:ae}[hU:bA P t (.slice el)][bq P el z 1 b]{x y:ag}(i:Nat){A:aj}{n c:Nat}{xs:ai}{A':aj}{ys:ai}(hS:St w0 w ks)(hk:ks[i]?=some (ax el A n c xs))(hR:cL w A' m ys)(hx:ev e x= .slice A n c)(hy:ev e y= .slice A' m c')(q9:(z.cells,Nat.blt d N)=(#[z],true))(hK:∀A2 c2 w',St w0 w' (ks.set i (ax el A2 (n+m) c2 (xs++ys)))->ao P N ops K rest (bn e d (.slice A2 (n+m) c2)) w')(rK:n+m<=9223372036854775807:=by omega)(pA:(n+m)*b<=140737488355328:=by omega):ao P N ops K (⟨some d,.call ⟨.builtin .append, #[x,y], #[t,t]⟩,ty,pos,af,none⟩::rest) e w:=aqs i hS hk hR hx hy (congrArg (fun p=>p.1) q9) rK pA (congrArg (fun p=>p.2) q9) hK
theorem lK{el:ae}[hU:bA P t (.slice el)][bq P el z 1 b]{x y:ag}(i:Nat){A:aj}{n c:Nat}{xs:List aO}{A':aj}{ys:List aO}(hS:St w0 w ks)(hk:ks[i]?=some (cg el A n c xs))(hR:mT w A' m ys)(hx:ev e x= .slice A n c)(hy:ev e y= .slice A' m c')(hz:z.cells= #[z0])(rK:n+m<=9223372036854775807)(pA:(n+m)*b<=140737488355328)(hb:Nat.blt d N=true)(hK:∀A2 c2 w',St w0 w' (ks.set i (cg el A2 (n+m) c2 (xs++ys)))->ao P N ops K rest (bn e d (.slice A2 (n+m) c2)) w'):
 ao P N ops K (⟨some d,.call ⟨.builtin .append, #[x,y], #[t,t]⟩,ty,pos,af,none⟩::rest) e w:=
 .app i hS hk hR.2 hx hy rfl hz (fun _ _=>rfl) (by simpa [maxLen]using rK) pA hb fun A2 c2 w' h=>hK A2 c2 w' (by
  rw [ajd hR.1]at h;simpa [cg]using h)
end
def vH(M:Nat)(S:List Bool)(out:ai):Prop:=S.length=M/\∀x:Int,0<=x->x<M->(gb S x=true↔x∈out)
theorem vH.init{M:Nat}{pt:Int}(h0:0<=pt)(h1:pt<M):vH M ((List.replicate M false).set pt.toNat true) [pt]:=by
 refine⟨by simp,fun x hx eQ=>?_⟩;rw [FV h0 (by simpa using h1) hx]
 by_cases e:pt=x
 ·simp [e]
 rw [az e];have:x≠pt:=fun h=>e h.symm
 simp [gb,dm,List.getElem?_replicate,this]
 split<;>simp
theorem vH.push{M:Nat}{S:List Bool}{out:ai}{y:Int}(h:vH M S out)(h0:0<=y)(h1:y<M):vH M (S.set y.toNat true) (out++ [y]):=by
 refine⟨by simpa using h.1,fun x hx eQ=>?_⟩;rw [FV h0 (by rw [h.1];exact h1) hx,jd]
 by_cases e:y=x
 ·simp [e]
 rw [az e,h.2 x hx eQ];have:x≠y:=fun h=>e h.symm
 simp [this]
theorem RN{xss:ah}{f i:Nat}{out:ai}(h:¬i<out.length):oI xss f i out=out:=by
 cases f with
 | zero=>rfl
 | succ f=>simp only [oI];rw [az h]
theorem bF.nI{w:aa}{A:aj}{n:Nat}{rs:List aO}{xss:ah}(h:bF w A n rs xss){k:Int}(h0:0<=k)(h1:k<n):(gl xss k).length=(rg rs k).n:=(h.at_ h0 h1).1
theorem oQ{xss:ah}{k:Int}(h0:0<=k)(h:k<xss.length):gl xss k∈xss:=by
 obtain⟨j,rfl⟩:∃j:Nat,k=j:=⟨k.toNat,am⟩;rw [bR (by omega)];exact dK _
theorem OR(A:aj)(n c:Nat)(rs:List aO)(xss:ah)(N:Nat)(pt:Int)(w:aa)(hR:bF w A n rs xss)(hn:n<=9223372036854775807)(hs:Sys N xss)(hN:N<=1000000000)(h0:0<=pt)(h1:pt<N):
 aJ prog 138 [.slice A n c,ak pt] w (fun v w'=>∃A' c',v= .slice A' (cC N xss pt).length c'/\St w w' [ax 2 A' (cC N xss pt).length c' (cC N xss pt)]):=by
 have cn:∀k:Int,0<=k->k<n->(rg rs k).n=N:=fun k tm hk=>by
  rw [<-hR.nI tm hk];exact(hs _ (oQ tm (by rw [hR.len];exact hk))).1
 refine bC func138 O ntmps138 O (df O) (bh O (eL (St.refl w) O O O ?_));intro A1 w1 aH;refine Fg 2 O (uF (α:=Nat) (fun s=> [(0,.slice A n c),(1,ak pt),(5,.slice A1 1 1),(6,ak s)]) (fun s w'=>w'=w1/\s<=N/\(0<n->s=N)) ?_ ?_)
 ·refine bh O (a8 O O (aC O ?_));refine aM _ O (fun h2=>?_) (fun h2=>?_)
  ·refine aA O (aD (aH.Pw hR.top).2 O (b9 (aH.Pw hR.top) O ?_));refine a8 O O (aT O (tQ ?_));exact⟨N,⟨O,O,O,by rw [cn 0 (by omega) (by omega)];rfl,au⟩,O,br _,fun _=>O⟩
  refine oC O (tQ ?_);exact⟨0,(aqv O),O,bg _,fun h=>by omega⟩
 rintro s e1 w2 ⟨rfl,hsN,o6⟩;have mX:n=0->N=N:=fun _=>O
 refine aA O (aI O (aI O ?_));refine zD (s+pt.toNat+1) aH (by show Value.int .i64 _=Value.int .i64 _;congr 1;omega) O am ?_;intro A2 w3 aQ;refine ar O (aD (aQ.jA 0 O).2 O (uK 0 aQ O O O am ?_));intro w4 aX;refine aC O (Cd.loop (α:=Nat×ai×aj×Nat×List Bool) (fun q=> [(0,.slice A n c),(5,.slice q.2.2.1 q.2.1.length q.2.2.2.1),(7,.slice A2 (s+pt.toNat+1) (s+pt.toNat+1)),(8,ak (q.1:Int))]) (fun q w'=>St w w' [gK 4 A2 (s+pt.toNat+1) (s+pt.toNat+1) q.2.2.2.2,ax 2 q.2.2.1 q.2.1.length q.2.2.2.1 q.2.1]/\q.1<=q.2.1.length/\Good N xss pt q.2.1/\vH (s+pt.toNat+1) q.2.2.2.2 q.2.1/\oI xss (N+1 - q.1) q.1 q.2.1=cC N xss pt) (fun q=>N+1 - q.1) (0,[pt],A1,1,(List.replicate (s+pt.toNat+1) false).set pt.toNat true) (aqv O) ⟨aX,bg _,IW h0 h1,vH.init h0 am,O⟩ ?_);rintro⟨i,out,Ao,co,S⟩ e2 w5 ⟨ba,hi,hg,hm,hb⟩;dsimp only at ba hi hg hm hb|-;have hlen:=hg.len;refine bh O (a8 O O (aC O ?_));refine aM _ O (fun h2=>?_) (fun h2=>?_)
 ·refine dA O (Cd.loop (α:=Nat×ai×aj×Nat×List Bool) (fun q=> [(0,.slice A n c),(5,.slice q.2.2.1 q.2.1.length q.2.2.2.1),(7,.slice A2 (s+pt.toNat+1) (s+pt.toNat+1)),(8,ak i),(9,ak (q.1:Int))]) (fun q w'=>St w w' [gK 4 A2 (s+pt.toNat+1) (s+pt.toNat+1) q.2.2.2.2,ax 2 q.2.2.1 q.2.1.length q.2.2.2.1 q.2.1]/\q.1<=n/\Good N xss pt q.2.1/\vH (s+pt.toNat+1) q.2.2.2.2 q.2.1/\out<+:q.2.1/\(xss.drop q.1).foldl (fun o p=>jP o (gi p (gi out i))) q.2.1=expand xss (gi out i) out) (fun q=>n - q.1) (0,out,Ao,co,S) (aqv O) ⟨ba,bg _,hg,hm,List.prefix_rfl,O⟩ ?_);rintro⟨k,iE,Bp,DI,S'⟩ e3 w6 ⟨bo,hk,od,jj,lD,hf⟩;dsimp only at bo hk od jj lD hf|-;have yJ:=od.len;refine bh O (a8 O O (aC O ?_));refine aM _ O (fun h3=>?_) (fun h3=>?_)
  ·have JH:i<iE.length:=by have:=lD.length_le;omega
   have Gp:gi iE i=gi out i:=BQ lD am;have gE:=hg.range _ (gi_in (i:=i) am);have lC:gl xss k∈xss:=oQ am (by rw [hR.len];omega);have hy:=(hs _ lC).2 (gi out i) gE.1 gE.2;have jx:=cn k am am;have hsN:s=N:=o6 am;have hT:=(bo.b7 hR);have hO:=bo.bz 1 O;have bS:=hT.at_ (i:=k) am am;refine dA O ?_;refine dU [xS (A) (n) (c),xI ((k:Int)),xP (ay (A) ((k:Int)).toNat),xS ((rg (rs) ((k:Int))).a) ((rg (rs) ((k:Int))).n) ((rg (rs) ((k:Int))).c),xS (Bp) (iE.length) (DI),xI ((i:Int)),xP (ay (Bp) ((i:Int)).toNat),xI (gi (iE) ((i:Int))),xP (ay ((rg (rs) ((k:Int))).a) (gi (iE) ((i:Int))).toNat),xI (gi (gl xss k) (gi (iE) ((i:Int)))),xI (gi (gl xss k) (gi (iE) ((i:Int))))] O (eG O) ?_ ?_
   ·exact⟨Dr O,Dr O,fun _ _ hb _ _=>aD (hT.top.aq hb).2 O Az,fun _ _ hb _ _=>b9 (hT.top.aq hb) O Az,Dr O,Dr O,fun _ _ hb _ _=>aD (hO.aq hb).2 O Az,fun _ _ hb _ _=>aY (hO.aq hb) O Az,fun _ _ hb _ _=>aqj (bS.aq hb).2 O O O (by rw [Gp];omega) (by rw [Gp,jx];omega) Az,fun _ _ hb _ _=>aY (bS.aq hb) O Az,Dr O,au⟩
   intro u w7 yx _;have bK:=bo.aq yx;rw [Gp];have yE:(xss.drop (k+1)).foldl (fun o p=>jP o (gi p (gi out i))) (jP iE (gi (gl xss k) (gi out i)))=expand xss (gi out i) out:=by
    rw [<-hf,List.drop_eq_getElem_cons (show k<xss.length by rw [hR.len];omega),List.foldl_cons,bR (by rw [hR.len];omega)]
   refine jD O (aD (bK.jA 0 O).2 O (sM (bK.jA 0 O) O am O O ?_))
   first | refine fv rfl rfl ?_ | refine gz rfl rfl ?_
   refine aC O (Cd.cond O (fun h4=>?_) (fun h4=>?_))
   ·have N7:¬gi (gl xss k) (gi out i)∈iE:=fun cI=>by
     have:=(jj.2 _ hy.1 am).2 cI;rw [this]at h4;cases h4
    have Cs:jP iE (gi (gl xss k) (gi out i))=iE++ [gi (gl xss k) (gi out i)]:=by unfold jP;rw [if_neg N7]
    have yF:=od.push hs (lD.subset (gi_in (i:=i) am)) lC;have GC:=lD.trans (PK iE (gi (gl xss k) (gi out i)));rw [Cs]at yE yF GC;have NZ:=yF.len;simp only [ck,List.length_singleton]at NZ;refine aA O (aD (bK.jA 0 O).2 O (uK 0 bK O O O am ?_));intro w8 cj;refine ar O (eL cj O O O ?_);intro A3 w9 bT;refine fu 2 bT O (bT.bz 0 O) O O O fun A4 c4 dY bW=>ar O (aI O (aT O (tQ ?_)));refine⟨(k+1,iE++ [gi (gl xss k) (gi out i)],A4,c4,S'.set (gi (gl xss k) (gi out i)).toNat true),by show n - (k+1)<n - k;omega,⟨O,by rw [ck];rfl,O,O,O,au⟩,?_,by show k+1<=n;omega,yF,jj.push hy.1 am,GC,yE⟩;have kl:=bW.tail;simp only [ck,List.length_singleton];exact kl
   have cI:gi (gl xss k) (gi out i)∈iE:=(jj.2 _ hy.1 am).1 (by simpa using h4);have Cs:jP iE (gi (gl xss k) (gi out i))=iE:=by unfold jP;rw [if_pos cI]
   rw [Cs]at yE;refine aA O (aI O (aT O (tQ ?_)));exact⟨(k+1,iE,Bp,DI,S'),by show n - (k+1)<n - k;omega,(aqv O),bK,by show k+1<=n;omega,od,jj,lD,yE⟩
  refine bp O (bt (cS O (aI O (aT O (tQ ?_)))));have eI:k=n:=by omega
  rw [eI,<-hR.len,List.drop_length,List.foldl_nil]at hf;refine⟨(i+1,iE,Bp,DI,S'),by show N+1 - (i+1)<N+1 - i;omega,(aqv O),bo,?_,od,jj,?_⟩
  ·have:=lD.length_le;show i+1<=iE.length;omega
  show oI xss (N+1 - (i+1)) (i+1) iE=cC N xss pt;rw [<-hb,hf];have e:N+1 - i=(N+1 - (i+1))+1:=by omega
  rw [e];simp only [oI];rw [aB (by omega)]
 refine bp O (bt (gw O ?_));refine gJ O ?_;rw [RN (by omega)]at hb;exact⟨Ao,co,by rw [hb],by rw [<-hb];exact ba.tail⟩
section
variable {P:Program} {N:Nat} {e:Env} {w:aa}
end
section
variable{t t':ae}
variable {P:Program} {N:Nat} {ops:Array Oper} {K:Env->aa->Prop} {rest:List Oper} {e:Env} {w0 w w':aa} {ks:List Ck} {d:Nat} {ty:ae} {pos:String} {af:Array Edge}
theorem E9{Q:jX}{c:ag}{x y:Code}{p:Prop}[Decidable p](hc:ev e c= .bool (decide p))(hp:p)(h1:Cd P N x Q e w):Cd P N (.cond c x y) Q e w:= .gu (by rw [hc,dz hp]) h1
theorem qC{Q:jX}{c:ag}{x y:Code}{p:Prop}[Decidable p](hc:ev e c= .bool (decide p))(hp:¬p)(h1:Cd P N y Q e w):Cd P N (.cond c x y) Q e w:= .fg (by rw [hc,cT hp]) h1
theorem ab5(A:aj)(c:Nat):cutAt A c 0=A:=by
 unfold cutAt
 split
 ·rfl
 cases A<;>simp [ay,Addr.add]
theorem ahs{vs fs:List ad}{l q:Nat}(hM:eU vs=false)(h1:∀u∈fs,u.oneCell'=true)(hq:l=0->fs≠[]:=by first | assumption | (intro _ hn;have:=aE List.length hn;simp at this;omega)):eU (vs.take l++fs++vs.drop q)=false:=by
 by_cases hl:l=0
 ·subst hl;rw [List.take_zero,List.nil_append];exact CD (yY h1) (hq O)
 ·cases vs with
  | nil=>simp only [List.take_nil,List.drop_nil,List.nil_append,fI];exact yY h1
  | cons v r=>
   obtain⟨m,rfl⟩:∃m,l=m+1:=⟨l - 1,am⟩;cases v<;>simp_all [eU]
theorem amo{el:ae}{z:ad}{b:Nat}[hU:bA P t (.slice el)][bq P el z 1 b]{k:Ck}(i l:Nat)(hS:St w0 w ks)(hk:ks[i]?=some k)(hM:eU k.vs=false)(hl:l<=k.n){A':aj}{m dc c':Nat}{f:Nat->ad}(hR:Rd w A' m f)(h1:∀j,j<m->(f j).oneCell'=true)(ty:ae)(q:Nat)(hq:q=min m (k.n - l)):
 ∃w',(Builtin.copy_ #[t,t'] ty #[.slice (cutAt k.A k.c l) (k.n - l) dc,.slice A' m c']).run P w= .ok (ak q) w'/\St w0 w' (ks.set i { k with vs:=k.vs.take l++ (List.range q).map f++k.vs.drop (l+q) }):=by
 obtain⟨inf,hi,dX,hs,gR⟩:=bq.get P el;have Cr:=hS.qh hk hM;obtain⟨Kb,mG,oW,h4⟩:=Cr;have yG:=(gx.1 hk).1;have wo:(P.info? el).map (·.size)=some 1:=by simp [hi,hs]
 by_cases Of:q=0
 ·have hr:=run_copy_none (P:=P) w t t' ty el (cutAt k.A k.c l) A' (k.n - l) dc m c' hU.out wo (by show min m (k.n - l)=0;omega);refine⟨w,by rw [hr,Of];rfl,?_⟩;have h5:({ k with vs:=k.vs.take l++ (List.range q).map f++k.vs.drop (l+q) }:Ck)=k:=by subst Of;simp [List.take_append_drop]
  have:ks.set i { k with vs:=k.vs.take l++ (List.range q).map f++k.vs.drop (l+q) }=ks:=by
   rw [h5];apply List.ext_getElem?;intro j;rw [mR]
   split
   ·rename_i e;subst e;rw [hk]
    try simp [yG]
   rfl
  rw [this];exact hS
 obtain⟨a,rfl⟩:∃a,A'=some a:=by
  obtain⟨p,hp,_⟩:=hR 0 am;cases A' with | none=>simp [ay]at hp | some q=>exact⟨q,rfl⟩
 rcases h4 with⟨hA,h0⟩ | ⟨g,o,cur,hA,hg,hh,mr,hc⟩
 ·omega
 have hD:cutAt k.A k.c l=some ⟨g,o+l,none⟩:=by
  unfold cutAt;rw [az (by omega),hA];simp [ay,BA]
 have gX:((List.range q).map f).length=q:=by simp
 have ue:∀j v,((List.range q).map f)[j]?=some v->w.cell? (a.add j)=some v:=by
  intro j v hj;have vd:j<q:=by have:=(gx.1 hj).1;simpa using this
  obtain⟨p,hp,hc⟩:=hR j am;simp only [ay,Option.map_some,mB]at hp;rw [hp,hc,<-hj];simp [vd]
 have vT:∀u∈(List.range q).map f,u.oneCell'=true:=by
  intro u hu;obtain⟨j,hj,rfl⟩:=dF.1 hu;have NS:j<q:=by simpa using hj
  exact h1 j am
 have hr:=run_copy_row (P:=P) w t t' ty el g (o+l) (k.n - l) dc a m c' cur k.e ((List.range q).map f) hU.out wo hh (by rw [gX,hq]) ue (by rw [gX];omega) vT;rw [gX]at hr;rw [hD];refine⟨w.setRow g (cur.toList.take (o+l)++ (List.range q).map f++cur.toList.drop (o+l+q)).toArray,hr,hS.turn (k:=k) (k':= { k with vs:=k.vs.take l++ (List.range q).map f++k.vs.drop (l+q) }) (g:=g) hk (by simp [Ck.ij,hA]) (by simp [Ck.ij,hA]) ⟨⟨O,O,O,by simp,fun x _ hx=>setRow_other w g x _ (fun e=>hx (by rw [e]))⟩,br _⟩ ?_⟩;refine .q9 (ahs hM vT) ⟨by simp [Kb];omega,mG,oW,.inr ⟨g,o,_,hA,hg,setRow_heap w g cur _ k.e _ hh,?_,fun j hj=>?_⟩⟩
 ·simp;omega
 have gW:j<k.n:=hj;have de:cur.toList.length=cur.size:=by simp
 show((cur.toList.take (o+l)++ (List.range q).map f++cur.toList.drop (o+l+q)).toArray)[o+j]?=(k.vs.take l++ (List.range q).map f++k.vs.drop (l+q))[j]?;rw [List.getElem?_toArray,gV,gV]
 by_cases mn:j<l
 ·rw [ma (by simp;omega),rz,aB (by omega),ma (by simp;omega),rz,aB mn,Array.getElem?_toList];exact hc j gW
 have e1:o+j - (cur.toList.take (o+l)).length=j - l:=by simp;omega
 have e2:j - (k.vs.take l).length=j - l:=by simp;omega
 have e3:(cur.toList.take (o+l)++ ((List.range q).map f++cur.toList.drop (o+l+q)))[o+j]?=((List.range q).map f++cur.toList.drop (o+l+q))[j - l]?:=by
  rw [mc (by simp;omega),e1]
 have e4:(k.vs.take l++ ((List.range q).map f++k.vs.drop (l+q)))[j]?=((List.range q).map f++k.vs.drop (l+q))[j - l]?:=by
  rw [mc (by simp;omega),e2]
 rw [e3,e4]
 by_cases NS:j - l<q
 ·rw [ma (by simpa using NS),ma (by simpa using NS)]
 rw [mc (by rw [gX];omega),mc (by rw [gX];omega),gX,List.getElem?_drop,List.getElem?_drop,Array.getElem?_toList,show o+l+q+ (j - l - q)=o+j by omega,show l+q+ (j - l - q)=j by omega];exact hc j gW
theorem Ra{el:ae}{z:ad}{b:Nat}[hU:bA P t (.slice el)][bq P el z 1 b]{x y:ag}{k:Ck}(i l:Nat){A':aj}{m dc c':Nat}{f:Nat->ad}(q:Nat)(hS:St w0 w ks)(hk:ks[i]?=some k)(hR:Rd w A' m f)(hl:l<=k.n)(hx:ev e x= .slice (cutAt k.A k.c l) (k.n - l) dc)(hy:ev e y= .slice A' m c')(h1:∀j,j<m->(f j).oneCell'=true)(hq:q=min m (k.n - l))(hb:Nat.blt d N=true)(hK:∀w',St w0 w' (ks.set i { k with vs:=k.vs.take l++ (List.range q).map f++k.vs.drop (l+q) })->ao P N ops K rest (bn e d (ak q)) w')(hM:eU k.vs=false:=by first | rfl | exact uk _ | exact G0 _ | exact yX _):
 ao P N ops K (⟨some d,.call ⟨.builtin .copy, #[x,y], #[t,t']⟩,ty,pos,af,none⟩::rest) e w:=by
 obtain⟨w',hr,kU⟩:=amo (P:=P) (t:=t) (t':=t') (dc:=dc) (c':=c') i l hS hk hM hl hR h1 ty q hq;refine .val (w':=w') ?_ hb (hK _ kU);simp [execOp,resolve,invoke,builtin,hx,hy,hr]
theorem Z4{x y:ag}{i j:Int}(hx:ev e x=ak i)(hy:ev e y=ak j)(hb:Nat.blt d N=true)(hK:ao P N ops K rest (bn e d (ak (min i j))) w):
 ao P N ops K (⟨some d,.call ⟨.builtin .min, #[x,y], #[t,t']⟩,ty,pos,af,none⟩::rest) e w:=by
 have hm:(if j<i then j else i)=min i j:=by split<;>omega
 refine .val (w':=w) ?_ hb hK;simp [execOp,resolve,invoke,builtin,hx,hy,Builtin.min_,Builtin.min2,hm]
section
variable {x y:ag} {xt yt:ae} {i j:Int}
theorem xT(i:Int)(h:0<=i/\i<=18446744073709551615):IntKind.u64.wrap i=i:=by rw [IntKind.wrap_u64];omega
theorem HM(r:Int)(hx:ev e x= .int .u64 i)(hy:ev e y= .int .u64 j)(hb:Nat.blt d N=true)(he:i+j=r)(hr:0<=r/\r<=18446744073709551615)(hK:ao P N ops K rest (bn e d (.int .u64 r)) w):
 ao P N ops K (⟨some d,.binOp .add xt x y yt,ty,pos,af,none⟩::rest) e w:=
 .val (by simp [execOp,hx,hy,eqGuard,binOp,Op.intArith,he,xT _ hr]) hb hK
theorem Fp(r:Int)(hx:ev e x= .int .u64 i)(hy:ev e y= .int .u64 j)(hb:Nat.blt d N=true)(he:i*j=r)(hr:0<=r/\r<=18446744073709551615)(hK:ao P N ops K rest (bn e d (.int .u64 r)) w):
 ao P N ops K (⟨some d,.binOp .mul xt x y yt,ty,pos,af,none⟩::rest) e w:=
 .val (by simp [execOp,hx,hy,eqGuard,binOp,Op.intArith,he,xT _ hr]) hb hK
theorem Lc(r:Int)(hx:ev e x= .int .u64 i)(hy:ev e y= .int .u64 4294967295)(hb:Nat.blt d N=true)(hr:0<=i/\i<=18446744073709551615)(he:i%4294967296=r)(hK:ao P N ops K rest (bn e d (.int .u64 r)) w):
 ao P N ops K (⟨some d,.binOp .and xt x y yt,ty,pos,af,none⟩::rest) e w:=by
 subst he;obtain⟨a,rfl⟩:∃a:Nat,i=a:=⟨i.toNat,am⟩;have h:=Mul64.maskN a am;rw [show((a%4294967296:Nat):Int)=(a:Int)%4294967296 by omega]at h;refine .val ?_ hb hK;simp only [execOp,hx,hy,eqGuard,binOp,intBits_and,h];simp
theorem Ft(r:Int)(hx:ev e x= .int .u64 i)(hy:ev e y= .int .u64 32)(hb:Nat.blt d N=true)(hr:0<=i)(he:i / 4294967296=r)(hK:ao P N ops K rest (bn e d (.int .u64 r)) w):
 ao P N ops K (⟨some d,.binOp .shr xt x y yt,ty,pos,af,none⟩::rest) e w:=by
 subst he;refine .val ?_ hb hK;have e1:min 32 IntKind.u64.bits=32:=by decide
 have e2:i.fdiv (2^32)=i / 4294967296:=by rw [Int.fdiv_eq_ediv_of_nonneg _ (by decide)];rfl
 have e2':i.fdiv 4294967296=i / 4294967296:=e2;simp [execOp,hx,hy,eqGuard,binOp,Op.shift,e1,e2']
theorem qc{k k':IntKind}[bA P yt (.int k')](hx:ev e x= .int k i)(hb:Nat.blt d N=true)(hw:k'.wrap i=i){u:TypeDesc}[bA P xt u](hK:ao P N ops K rest (bn e d (.int k' i)) w):
 ao P N ops K (⟨some d,.convert xt yt x,ty,pos,af,none⟩::rest) e w:=
 .val (by simp [execOp,hx,convert,run_underlying (bA.out (P:=P) (t:=xt)),run_underlying (bA.out (P:=P) (t:=yt)),Conv.intToInt,hw]) hb hK
end
end
def jJ(l:List Oper):List Nat:=l.filterMap (·.dst)
theorem Mi{α β:Type}(f:α->Option β):∀(l:List α),(l.filterMap f).Nodup->∀(i j:Nat) (a b:α) (d:β),l[i]?=some a->l[j]?=some b->f a=some d->f b=some d->i=j
 | [],_,i,j,a,b,d,hi,_,_,_=>by simp at hi
 | x::l,hn,i,j,a,b,d,hi,hj,ha,hb=>by
  have mem:∀(k:Nat) (c:α),l[k]?=some c->f c=some d->d∈l.filterMap f:=fun k c hk hc=>List.mem_filterMap.2 ⟨c,List.mem_of_getElem? hk,hc⟩
  cases hx:f x with
  | none=>
   rw [List.filterMap_cons,hx]at hn;cases i with
   | zero=>simp at hi;subst hi;rw [hx]at ha;cases ha
   | succ i=>
    cases j with
    | zero=>simp at hj;subst hj;rw [hx]at hb;cases hb
    | succ j=>rw [Mi f l hn i j a b d (by simpa using hi) (by simpa using hj) ha hb]
  | some y=>
   rw [List.filterMap_cons,hx]at hn;simp only [mf]at hn;cases i with
   | zero=>
    simp at hi;subst hi;rw [hx]at ha;cases ha;cases j with
    | zero=>rfl
    | succ j=>exact absurd (mem j b (by simpa using hj) hb) hn.1
   | succ i=>
    cases j with
    | zero=>
     simp at hj;subst hj;rw [hx]at hb;cases hb;exact absurd (mem i a (by simpa using hi) ha) hn.1
    | succ j=>rw [Mi f l hn.2 i j a b d (by simpa using hi) (by simpa using hj) ha hb]
def valOf(o:Oper)(e:Env):ad:=match o.dst with
 | some d=>e d
 | none=>undef
def V8:Yd->Bool
 | .ex _=>true
 | .pr _=>false
def Ko(l:List Oper)(ms:List Nat)(k:Nat):Nat:=ms.countP fun m=>jY l l.length k m
def Ee(l:List Oper)(ms:List Nat)(k:Nat):Nat:=ms.countP fun m=>!(jY l l.length m k) && !(Nat.beq m k)
def nj(l:List Oper)(ms:List Nat)(k:Nat):Nat:=ms.countP fun m=>Nat.beq m k || jY l l.length k m
def DE(l:List Oper)(ms:List Nat)(m:Nat):Bool:=ms.all fun m'=>Nat.beq m' m || jY l l.length m m' || jY l l.length m' m
def Yd.at_(c ph:Nat):Yd->ad->aa->Prop
 | .ex v,u,_=>u=v
 | .pr p,u,w=>c=ph->p u w
theorem qZ{a b c:Nat}(h:c<=a)(e:a=b):c<=b:=e▸h
theorem cc_of{a b c d:Nat}(h:a<=c)(k:c<=d)(e:a=b:=by kernel_rfl)(f:d=b:=by kernel_rfl):c=b:=by omega
section
variable {P:Program} {N:Nat} {e:Env} {w:aa}
theorem YT(e1:Env)(d:Nat)(v:ad):bn e1 d v d=v:=by unfold bn;rw [Nat.beq_refl];rfl
theorem YU(e1:Env){d j:Nat}(v:ad)(h:j≠d):bn e1 d v j=e1 j:=by
 have:Nat.beq j d=false:=by
  cases hb:Nat.beq j d with
  | false=>rfl
  | true=>exact absurd (pk hb) h
 unfold bn;rw [this];rfl
theorem Io{ms:List Nat}{p q:Nat->Bool}(h:∀m∈ms,p m=true->q m=true):ms.countP p<=ms.countP q:=List.countP_mono_left h
end
inductive Ye where
 | ex (v:ad)
 | pr (p:ad->aa->Prop)
 | p2 (j:Nat) (p:ad->ad->aa->Prop)
 | al (q:ad->Prop) (p:ad->aa->Prop)
def vl(l:List Oper)(e:Env)(k:Nat):ad:=match l[k]? with
 | some o=>valOf o e
 | none=>undef
def Ye.holds(uu:Nat->ad):Ye->ad->aa->Prop
 | .ex v,u,_=>u=v
 | .pr p,u,w=>p u w
 | .p2 j p,u,w=>p (uu j) u w
 | .al q p,u,w=>q u/\p u w
def Ye.r6:Ye->Prop
 | .ex _=>True
 | .pr p=>∀v w w',p v w->Below w.heap.size w w'->p v w'
 | .p2 _ p=>∀a v w w',p a v w->Below w.heap.size w w'->p a v w'
 | .al _ p=>∀v w w',p v w->Below w.heap.size w w'->p v w'
theorem Ye.aiD(v:ad):(Ye.ex v).r6:=True.intro
theorem ly{v:ad}{l:List Ye}(h:∀y∈l,y.r6):∀y∈Ye.ex v::l,y.r6:=cH.2 ⟨True.intro,h⟩
theorem Ye.cJ{p:ad->aa->Prop}(h:∀v w w',p v w->Below w.heap.size w w'->p v w'):(Ye.pr p).r6:=h
abbrev yU:Ye:= .ex undef
abbrev yI(i:Int):Ye:= .ex (ak i)
abbrev yB(b:Bool):Ye:= .ex (.bool b)
abbrev yP(a:aj):Ye:= .ex (.pointer a)
abbrev yS(a:aj)(n c:Nat):Ye:= .ex (.slice a n c)
theorem Rn{j:Nat}{p:ad->ad->aa->Prop}(h:∀a v w w',p a v w->Below w.heap.size w w'->p a v w'):(Ye.p2 j p).r6:=h
theorem aas{q:ad->Prop}{p:ad->aa->Prop}(h:∀v w w',p v w->Below w.heap.size w w'->p v w'):(Ye.al q p).r6:=h
def ON:Ye->Bool
 | .ex _=>true
 | .pr _=>false
 | .p2 ..=>false
 | .al ..=>false
def Sw(N:Nat)(l:List Oper)(ys:List Ye)(ms:List Nat):Bool:=
 l.all (fun o=>match o.dst with | some d=>Nat.blt d N | none=>true) && decide ((jJ l).Nodup) && (l.zipIdx.all fun p=> (fU p.1).all fun ed=>Nat.blt ed.on p.2) && Nat.beq l.length ys.length && (l.zip ys).all (fun p=>p.1.dst.isSome || !ON p.2) && decide ms.Nodup && ms.all (fun m=>Nat.blt m l.length) && (ys.zipIdx.all fun p=>!(ON p.1) || !(ms.contains p.2)) && (ys.zipIdx.all fun p=>match p.1 with | .p2 j _=>jY l l.length p.2 j && Nat.blt j l.length | _=>true)
def Ye.at_(c ph:Nat)(uu:Nat->ad):Ye->ad->aa->Prop
 | .ex v,u,_=>u=v
 | .pr p,u,w=>c=ph->p u w
 | .p2 j p,u,w=>c=ph->p (uu j) u w
 | .al q p,u,w=>q u/\(c=ph->p u w)
def rG:List Oper->List Ye->(Nat->ad)->Nat->List (Nat×ad)
 | o::l,y::ys,u,i=>match o.dst,y with
  | some d,.ex v=> (d,v)::rG l ys u (i+1)
  | some d,.pr _=> (d,u i)::rG l ys u (i+1)
  | some d,.p2 ..=> (d,u i)::rG l ys u (i+1)
  | some d,.al ..=> (d,u i)::rG l ys u (i+1)
  | none,_=>rG l ys u (i+1)
 | _,_,_,_=> []
def oM(l:List Oper)(ys:List Ye):List Edge->List (Nat×ad)
 | []=> []
 | ed::r=>match ys[ed.on]?,(l[ed.on]?).bind (·.dst)with
  | some (.ex v),some d=> (d,v)::oM l ys r
  | _,_=>oM l ys r
section
variable{o:Oper}{y:Ye}{w1 w2:aa}{d i id:Nat}{l:List Oper}{ys:List Ye}{ms:List Nat}
variable {P:Program} {N:Nat} {e:Env} {w:aa}
def fM(o:Oper)(y:Ye)(uu:Nat->ad)(e1:Env)(w1:aa):Env->aa->Prop:=fun e2 w2=>Below w1.heap.size w1 w2/\y.holds uu (valOf o e2) w2/\∀j,o.dst≠some j->e2 j=e1 j
def gn(o:Oper)(y:Ye)(uu:Nat->ad)(e1:Env):Env->aa->Prop:=fun e2 w2=>y.holds uu (valOf o e2) w2/\∀j,o.dst≠some j->e2 j=e1 j
theorem fM.dn{uu:Nat->ad}{e1:Env}{v:ad}(hd:o.dst=some d)(hb:Below w1.heap.size w1 w2)(hv:y.holds uu v w2):fM o y uu e1 w1 (bn e1 d v) w2:=by
 refine⟨hb,?_,fun j hj=>YU e1 v (fun h=>hj (by rw [hd,h]))⟩;unfold valOf;rw [hd];show y.holds uu (bn e1 d v d) w2;rw [YT];exact hv
theorem iz{uu:Nat->ad}{e1:Env}{v:ad}(hd:o.dst=some d)(hv:y.holds uu v w1):fM o y uu e1 w1 (bn e1 d v) w1:=fM.dn hd (Below.refl _ _) hv
theorem gn.dn{uu:Nat->ad}{e1:Env}{v:ad}(hd:o.dst=some d)(hv:y.holds uu v w2):gn o y uu e1 (bn e1 d v) w2:=by
 refine⟨?_,fun j hj=>YU e1 v (fun h=>hj (by rw [hd,h]))⟩;unfold valOf;rw [hd];show y.holds uu (bn e1 d v d) w2;rw [YT];exact hv
theorem gn.st{uu:Nat->ad}{e1:Env}(hd:o.dst=none)(hv:y.holds uu undef w2):gn o y uu e1 e1 w2:=by
 refine⟨?_,fun j _=>O⟩;unfold valOf;rw [hd];exact hv
def zF(P:Program)(N:Nat)(l:List Oper)(ys:List Ye)(ms:List Nat)(e:Env)(w:aa)(i:Nat)(o:Oper):Prop:=
 ∀(e1:Env) (w1:aa) (c:Nat),Ko l ms i<=c->c<=Ee l ms i->(c=0->Below w.heap.size w w1)->(∀(j:Nat) (y:Ye) (o':Oper),jY l l.length i j=true->ys[j]?=some y->l[j]?=some o'->y.at_ c (nj l ms j) (vl l e1) (valOf o' e1) w1)->(∀(j:Nat) (o':Oper),l[j]?=some o'->jY l l.length j i=true->valOf o' e1=valOf o' e)->(∀(m:Nat) (y:Ye) (o':Oper),gY ms m=true->DE l ms m=true->nj l ms m=c->ys[m]?=some y->l[m]?=some o'->y.at_ c (nj l ms m) (vl l e1) (valOf o' e1) w1)->
  bif gY ms i then ao P N l.toArray (gn o (ys.getD i (.pr fun _ _=>True)) (vl l e1) (ext (mix e1 e (jJ l)) (oM l ys (fU o)))) [o] (ext (mix e1 e (jJ l)) (oM l ys (fU o))) w1
  else ao P N l.toArray (fM o (ys.getD i (.pr fun _ _=>True)) (vl l e1) (ext (mix e1 e (jJ l)) (oM l ys (fU o))) w1) [o] (ext (mix e1 e (jJ l)) (oM l ys (fU o))) w1
theorem Zp{ops:Array Oper}{uu:Nat->ad}{e1:Env}{v:ad}(h:wC ops N e1 o=some (d,v))(hv:y.holds uu v w1):ao P N ops (fM o y uu e1 w1) [o] e1 w1:= .wC h (fM.dn (Yq h) (Below.refl _ _) hv)
theorem bG{ops:Array Oper}{uu:Nat->ad}{e1:Env}{v:ad}(hd:o.dst=some d)(hv:y.holds uu v w1):ao P N ops (fM o y uu e1 w1) [] (bn e1 d v) w1:=ao.n (fM.dn hd (Below.refl _ _) hv)
theorem bZ{v:ad}(h:((gY ms i,(ys.getD i (.pr fun _ _=>True))),fun e1=>wC l.toArray N (ext (mix e1 e (jJ l)) (oM l ys (fU o))) o)=((false,.ex v),fun _=>some (d,v))):zF P N l ys ms e w i o:=fun e1 w1 c _ _ _ _ _ _=>by
 have h1:=congrFun (Prod.mk.inj h).2 e1;rw [(Prod.mk.inj (Prod.mk.inj h).1).1,(Prod.mk.inj (Prod.mk.inj h).1).2];exact Zp h1 O
theorem cP(h:∀(e1:Env) (w1:aa),Below w.heap.size w w1->(∀(j:Nat) (y:Ye) (o':Oper),jY l l.length i j=true->ys[j]?=some y->l[j]?=some o'->y.at_ 0 (nj l ms j) (vl l e1) (valOf o' e1) w1)->(∀(j:Nat) (o':Oper),l[j]?=some o'->jY l l.length j i=true->valOf o' e1=valOf o' e)->(∀(m:Nat) (y:Ye) (o':Oper),gY ms m=true->DE l ms m=true->nj l ms m=0->ys[m]?=some y->l[m]?=some o'->y.at_ 0 (nj l ms m) (vl l e1) (valOf o' e1) w1)->
 ao P N l.toArray (fM o (ys.getD i (.pr fun _ _=>True)) (vl l e1) (ext (mix e1 e (jJ l)) (oM l ys (fU o))) w1) [o] (ext (mix e1 e (jJ l)) (oM l ys (fU o))) w1) (ht:gY ms i=false:=by kernel_rfl) (hh:Ee l ms i=0:=by kernel_rfl):zF P N l ys ms e w i o:=fun e1 w1 c _ dv hb hp aU hq=>by
 obtain rfl:c=0:=by omega
 rw [ht];exact h e1 w1 (hb rfl) hp aU hq
theorem kO(h:∀(e1:Env) (w1:aa),Below w.heap.size w w1->(∀(j:Nat) (y:Ye) (o':Oper),jY l l.length i j=true->ys[j]?=some y->l[j]?=some o'->y.at_ 0 (nj l ms j) (vl l e1) (valOf o' e1) w1)->(∀(j:Nat) (o':Oper),l[j]?=some o'->jY l l.length j i=true->valOf o' e1=valOf o' e)->(∀(m:Nat) (y:Ye) (o':Oper),gY ms m=true->DE l ms m=true->nj l ms m=0->ys[m]?=some y->l[m]?=some o'->y.at_ 0 (nj l ms m) (vl l e1) (valOf o' e1) w1)->
 ao P N l.toArray (gn o (ys.getD i (.pr fun _ _=>True)) (vl l e1) (ext (mix e1 e (jJ l)) (oM l ys (fU o)))) [o] (ext (mix e1 e (jJ l)) (oM l ys (fU o))) w1) (ht:gY ms i=true:=by kernel_rfl) (hh:Ee l ms i=0:=by kernel_rfl):zF P N l ys ms e w i o:=fun e1 w1 c _ dv hb hp aU hq=>by
 obtain rfl:c=0:=by omega
 rw [ht];exact h e1 w1 (hb rfl) hp aU hq
theorem dP(b:Nat)(h:∀(e1:Env) (w1:aa),(∀(j:Nat) (y:Ye) (o':Oper),jY l l.length i j=true->ys[j]?=some y->l[j]?=some o'->y.at_ b (nj l ms j) (vl l e1) (valOf o' e1) w1)->(∀(j:Nat) (o':Oper),l[j]?=some o'->jY l l.length j i=true->valOf o' e1=valOf o' e)->(∀(m:Nat) (y:Ye) (o':Oper),gY ms m=true->DE l ms m=true->nj l ms m=b->ys[m]?=some y->l[m]?=some o'->y.at_ b (nj l ms m) (vl l e1) (valOf o' e1) w1)->
 ao P N l.toArray (fM o (ys.getD i (.pr fun _ _=>True)) (vl l e1) (ext (mix e1 e (jJ l)) (oM l ys (fU o))) w1) [o] (ext (mix e1 e (jJ l)) (oM l ys (fU o))) w1) (ht:gY ms i=false:=by kernel_rfl) (hl:Ko l ms i=b:=by kernel_rfl) (hh:Ee l ms i=b:=by kernel_rfl):zF P N l ys ms e w i o:=fun e1 w1 c fo dv _ hp aU hq=>by
 obtain rfl:c=b:=by omega
 rw [ht];exact h e1 w1 hp aU hq
theorem sS(b:Nat)(h:∀(e1:Env) (w1:aa),(∀(j:Nat) (y:Ye) (o':Oper),jY l l.length i j=true->ys[j]?=some y->l[j]?=some o'->y.at_ b (nj l ms j) (vl l e1) (valOf o' e1) w1)->(∀(j:Nat) (o':Oper),l[j]?=some o'->jY l l.length j i=true->valOf o' e1=valOf o' e)->(∀(m:Nat) (y:Ye) (o':Oper),gY ms m=true->DE l ms m=true->nj l ms m=b->ys[m]?=some y->l[m]?=some o'->y.at_ b (nj l ms m) (vl l e1) (valOf o' e1) w1)->
 ao P N l.toArray (gn o (ys.getD i (.pr fun _ _=>True)) (vl l e1) (ext (mix e1 e (jJ l)) (oM l ys (fU o)))) [o] (ext (mix e1 e (jJ l)) (oM l ys (fU o))) w1) (ht:gY ms i=true:=by kernel_rfl) (hl:Ko l ms i=b:=by kernel_rfl) (hh:Ee l ms i=b:=by kernel_rfl):zF P N l ys ms e w i o:=fun e1 w1 c fo dv _ hp aU hq=>by
 obtain rfl:c=b:=by omega
 rw [ht];exact h e1 w1 hp aU hq
theorem aP(h:∀(e1:Env) (w1:aa),ao P N l.toArray (fM o (ys.getD i (.pr fun _ _=>True)) (vl l e1) (ext (mix e1 e (jJ l)) (oM l ys (fU o))) w1) [o] (ext (mix e1 e (jJ l)) (oM l ys (fU o))) w1)(ht:gY ms i=false:=by kernel_rfl):zF P N l ys ms e w i o:=fun e1 w1 c _ _ _ _ _ _=>by
 rw [ht];exact h e1 w1
def Fz(P:Program)(N:Nat)(l:List Oper)(ys:List Ye)(ms:List Nat)(e:Env)(w:aa):Nat->List Oper->Prop
 | _,[]=>True
 | i,o::r=>zF P N l ys ms e w i o/\Fz P N l ys ms e w (i+1) r
theorem Fz.get:∀ {r:List Oper} {i:Nat},Fz P N l ys ms e w i r->∀k o,r[k]?=some o->zF P N l ys ms e w (i+k) o
 | [],_,_,k,o,hk=>by simp at hk
 | x::r,i,h,0,o,hk=>by simp at hk;subst hk;exact h.1
 | x::r,i,h,k+1,o,hk=>by
  have:=Fz.get h.2 k o (by simpa using hk);rw [show i+1+k=i+ (k+1) by omega]at this;exact this
theorem Ss{l:List Oper}{ys:List Ye}{e1:Env}:∀(af:List Edge),(∀ed∈af,∀(v:ad) (o':Oper),ys[ed.on]?=some (.ex v)->l[ed.on]?=some o'->valOf o' e1=v)->Mt e1 (oM l ys af)
 | [],_=>au
 | ed::r,h=>by
  have hr:=Ss r (fun x hx=>h x (rB _ hx));unfold oM
  split
  ·rename_i v d hy hd;refine⟨?_,hr⟩;cases ho:l[ed.on]? with
   | none=>rw [ho]at hd;cases hd
   | some o'=>
    rw [ho]at hd;have oY:o'.dst=some d:=hd;have:=h ed (by simp) v o' hy ho;unfold valOf at this;rw [oY]at this;exact this
  ·exact hr
theorem SE{e1 e:Env}:∀(l:List Oper) (ys:List Ye) (i:Nat),l.length=ys.length->(jJ l).Nodup->(∀(k:Nat) (v:ad) (o:Oper),ys[k]?=some (.ex v)->l[k]?=some o->valOf o e1=v\/o.dst=none)->
 ∃u:Nat->ad,ext e (rG l ys u i)=mix e1 e (jJ l)/\(∀(k:Nat) (o:Oper),l[k]?=some o->u (i+k)=valOf o e1)
 | [],[],i,_,_,_=> ⟨fun _=>undef,by funext j;rfl,fun k o h=>by simp at h⟩
 | [],y::ys,i,hl,_,_=>by simp at hl
 | o::l,[],i,hl,_,_=>by simp at hl
 | o::l,y::ys,i,hl,hn,h=>by
  have Cp:(jJ l).Nodup:=by
   unfold jJ at hn|-;rw [List.filterMap_cons]at hn
   split at hn
   ·exact hn
   ·exact(mf.1 hn).2
  obtain⟨u,hu,lb⟩:=SE (e1:=e1) (e:=e) l ys (i+1) (by simpa using hl) Cp (fun k v o' hy ho=>h (k+1) v o' (by simpa using hy) (by simpa using ho));have LO:∀(l:List Oper) (ys:List Ye) (i:Nat) (u u':Nat->ad),(∀k,i<=k->u k=u' k)->rG l ys u i=rG l ys u' i:=by
   intro l
   induction l with
   | nil=>intros;rfl
   | cons o l ih=>
    intro ys i u u' hk;cases ys with
    | nil=>rfl
    | cons y ys=>
     have h1:=ih ys (i+1) u u' (fun k eI=>hk k am);simp only [rG];rw [h1,hk i (by omega)]
  have hc:=LO l ys (i+1) (fun k=>if k=i then valOf o e1 else u k) u (fun k hk=>by show(if k=i then _ else _)=_;rw [az (by omega)]);refine⟨fun k=>if k=i then valOf o e1 else u k,?_,fun k o' hk=>?_⟩
  ·cases hd:o.dst with
   | none=>
    have L8:jJ (o::l)=jJ l:=by unfold jJ;rw [List.filterMap_cons,hd]
    simp only [rG,hd,hc,hu,L8]
   | some d=>
    have L8:jJ (o::l)=d::jJ l:=by unfold jJ;rw [List.filterMap_cons,hd]
    have qX:valOf o e1=e1 d:=by unfold valOf;rw [hd]
    have pK:∀v,v=e1 d->bn (mix e1 e (jJ l)) d v=mix e1 e (d::jJ l):=by
     intro v hv;funext j;simp only [bn,mix,gY];cases hb:Nat.beq j d with
     | true=>rw [pk hb,hv];rfl
     | false=>rfl
    rw [L8];cases y with
    | ex v=>
     have h0:=h 0 v o O O;simp only [rG,hd,ext,hc,hu];refine pK v ?_;rcases h0 with h0 | h0
     ·rw [<-h0,qX]
     ·rw [hd]at h0;cases h0
    | pr p=>
     simp only [rG,hd,ext,hc,hu,aB];exact pK _ qX
    | p2 j p=>
     simp only [rG,hd,ext,hc,hu,aB];exact pK _ qX
    | al q p=>
     simp only [rG,hd,ext,hc,hu,aB];exact pK _ qX
  ·cases k with
   | zero=>simp at hk;subst hk;simp
   | succ k=>
    have:=lb k o' (by simpa using hk);show(if i+ (k+1)=i then _ else u (i+ (k+1)))=_;rw [az (by omega),<-this];congr 1;omega
theorem aqt{Q:jX}(ms:List Nat)(ys:List Ye)(hm:P.follows .mixedOrders=true)(dp:Sw N l ys ms=true)(NY:∀y∈ys,y.r6)
 (On:Fz P N l ys ms e w 0 l) (Cg:∀u w1,(ms=[]->Below w.heap.size w w1)->(∀(k:Nat) (p:ad->aa->Prop),ys[k]?=some (Ye.pr p)->nj l ms k=ms.length->p (u k) w1)->(∀(k j:Nat) (p:ad->ad->aa->Prop),ys[k]?=some (Ye.p2 j p)->nj l ms k=ms.length->p (u j) (u k) w1)->(∀(k:Nat) (q:ad->Prop) (p:ad->aa->Prop),ys[k]?=some (Ye.al q p)->q (u k)/\(nj l ms k=ms.length->p (u k) w1))->Q .normal (ext e (rG l ys u 0)) w1):Cd P N (.region id l.toArray true) Q e w:= .mk' fun a ha=>by
 simp only [Sw,Bool.and_eq_true,List.all_eq_true,kB]at dp;obtain⟨⟨⟨⟨⟨⟨⟨⟨h1,h2⟩,h3⟩,hlen⟩,af7⟩,Eo⟩,kY⟩,hmy⟩,jL⟩:=dp;have Oc:∀(k j:Nat) (p:ad->ad->aa->Prop),ys[k]?=some (.p2 j p)->jY l l.length k j=true/\j<l.length:=by
  intro k j p hk;have:=jL (.p2 j p,k) (by rw [List.mem_iff_getElem?];exact⟨k,by simp [hk]⟩);simpa [Nat.blt_eq]using this
 have yJ:l.length=ys.length:=pk hlen;have yy:∀(i:Nat) (o:Oper),l[i]?=some o->∀ed∈fU o,ed.on<i:=by
  intro i o ho ed gq;have:=h3 (o,i) (by
   obtain⟨hi,JH⟩:=gx.1 ho;rw [List.mem_iff_getElem?];exact⟨i,by simp [ho]⟩)
  simpa [Nat.blt_eq]using this ed gq
 have hdN:∀(i:Nat) (o:Oper) (d:Nat),l[i]?=some o->o.dst=some d->d<N:=by
  intro i o d ho hd;have:=h1 o (List.mem_of_getElem? ho);rw [hd]at this;simpa [Nat.blt_eq]using this
 have hexd:∀(i:Nat) (o:Oper) (v:ad),l[i]?=some o->ys[i]?=some (.ex v)->o.dst≠none:=by
  intro i o v ho hy hd;have:=af7 (o,.ex v) (by
   rw [List.mem_iff_getElem?];exact⟨i,by rw [List.getElem?_zip_eq_some];exact⟨ho,hy⟩⟩)
  simp [hd,ON]at this
 refine wp_region_any hm ?_
 let nT:Array Bool->Nat:=fun listed=>ms.countP fun m=>listed.getD m false
 have key:∀(fuel:Nat) (listed:Array Bool) (a1:Act) (e1:Env) (w1:aa),kj N a1 e1->(nT listed=0->Below w.heap.size w w1)->(∀j,gY (jJ l) j=false->e1 j=e j)->listed.size=l.length->
  (∀(i:Nat) (y:Ye) (o:Oper),listed.getD i false=true->ys[i]?=some y->l[i]?=some o->y.at_ (nT listed) (nj l ms i) (vl l e1) (valOf o e1) w1)->(∀(i:Nat) (o:Oper),listed.getD i false=true->l[i]?=some o->∀ed∈fU o,listed.getD ed.on false=true)->(∀(i:Nat) (o:Oper),listed.getD i false=false->l[i]?=some o->valOf o e1=valOf o e)->(l.length - fuel<=(List.range l.length).countP fun i=>listed.getD i false)->
  wpAny P .any l.toArray (low N Q) fuel listed a1 w1:=by
  have oc:∀(listed:Array Bool) (a1:Act) (e1:Env) (w1:aa),kj N a1 e1->(nT listed=0->Below w.heap.size w w1)->(∀j,gY (jJ l) j=false->e1 j=e j)->
   (∀(i:Nat) (y:Ye) (o:Oper),listed.getD i false=true->ys[i]?=some y->l[i]?=some o->y.at_ (nT listed) (nj l ms i) (vl l e1) (valOf o e1) w1)->(∀i,i<l.length->listed.getD i false=true)->low N Q .normal a1 w1:=by
   intro listed a1 e1 w1 hr hb pz hS dt;have oX:nT listed=ms.length:=by
    show ms.countP _=ms.length;rw [List.countP_eq_length];intro m Co;exact dt m (by simpa [Nat.blt_eq]using kY m Co)
   obtain⟨u,hu,lb⟩:=SE (e1:=e1) (e:=e) l ys 0 yJ h2 (fun k v o hy ho=> .inl (hS k _ o (dt k (gx.1 ho).1) hy ho));refine⟨e1,hr,?_⟩;have:=Cg u w1 (fun h0=>hb (by rw [oX,h0];rfl)) (fun k p hk fh=>by
    have lB:k<l.length:=by rw [yJ];exact(gx.1 hk).1
    have h5:=hS k _ l[k] (dt k lB) hk (fq lB);have h6:=lb k l[k] (fq lB);rw [Nat.zero_add]at h6;rw [h6];exact h5 (by rw [oX,fh])) (fun k j p hk fh=>by
    have lB:k<l.length:=by rw [yJ];exact(gx.1 hk).1
    have hj:=Oc k j p hk;have h5:=hS k _ l[k] (dt k lB) hk (fq lB);have h6:=lb k l[k] (fq lB);have h7:=lb j l[j] (fq hj.2);rw [Nat.zero_add]at h6 h7;have h8:vl l e1 j=valOf l[j] e1:=by unfold vl;rw [List.getElem?_eq_getElem hj.2]
    rw [h6,h7,<-h8];exact h5 (by rw [oX,fh])) (fun k q p hk=>by
    have lB:k<l.length:=by rw [yJ];exact(gx.1 hk).1
    have h5:=hS k _ l[k] (dt k lB) hk (fq lB);have h6:=lb k l[k] (fq lB);rw [Nat.zero_add]at h6;rw [h6];exact⟨h5.1,fun fh=>h5.2 (by rw [oX,fh])⟩)
   rw [hu,Kq pz]at this;exact this
  have GK:∀(listed:Array Bool),listed.size=l.length->Region.ready .any l.toArray listed=[]->∀i,i<l.length->listed.getD i false=true:=by
   intro listed mr wi i
   induction i using Nat.strongRecOn with
   | _ i ih=>
    intro hi;cases Al:listed.getD i false with
    | true=>rfl
    | false=>
     exfalso;have:i∈Region.ready .any l.toArray listed:=by
      rw [mem_ready];refine⟨?_,l[i],by simp [hi],fun ed gq qk=>ih ed.on (yy i _ (fq hi) ed (sb.2 ⟨gq,qk⟩)) (by have:=yy i _ (fq hi) ed (sb.2 ⟨gq,qk⟩);omega)⟩;rw [jn,sG (by omega)]at Al|-;exact Al
     rw [wi]at this;cases this
  intro fuel
  induction fuel with
  | zero=>
   intro listed a1 e1 w1 hr hb pz mr hS de Cz oX;have dt:∀i,i<l.length->listed.getD i false=true:=by
    have h4:(List.range l.length).countP (fun i=>listed.getD i false)=(List.range l.length).length:=by
     have:=List.countP_le_length (p:=fun i=>listed.getD i false) (l:=List.range l.length);simp at this oX|-;omega
    rw [List.countP_eq_length]at h4;intro i hi;exact h4 i (by simpa using hi)
   refine⟨?_,oc listed a1 e1 w1 hr hb pz hS dt⟩;rw [List.eq_nil_iff_forall_not_mem];intro i hi;obtain⟨h5,o,ho,_⟩:=mem_ready.1 hi;have tj:i<l.length:=by
    rcases Nat.lt_or_ge i l.length with h | h
    ·exact h
    ·simp [me h]at ho
   have h6:=dt i tj;rw [jn,sG (by omega)]at h5 h6;simp at h5 h6;rw [h5]at h6;cases h6
  | succ fuel ih=>
   intro listed a1 e1 w1 hr hb pz mr hS de Cz oX;refine⟨fun wi=>oc listed a1 e1 w1 hr hb pz hS (GK listed mr wi),fun i hi=>?_⟩;obtain⟨aU,o,ho,z8⟩:=mem_ready.1 hi;have iK:l[i]?=some o:=by simpa using ho
   have tj:i<l.length:=(gx.1 iK).1;have pJ:∀ed∈fU o,listed.getD ed.on false=true:=fun ed gq=>z8 ed (sb.1 gq).1 (sb.1 gq).2
   have vm:listed.getD i false=false:=by
    have h5:=aU;rw [jn,sG (by omega)]at h5|-;exact h5
   have qR:∀k,(listed.setIfInBounds i true).getD k false=if k=i then true else listed.getD k false:=by
    intro k;rw [jn,uE]
    by_cases fX:k=i
    ·subst fX;rw [aB rfl,aB (by omega),aB rfl];rfl
    ·rw [az (fun e=>fX e.symm),az fX,<-jn]
   have fo:Ko l ms i<=nT listed:=Io fun m _ h=>Lu de iK pJ _ _ h
   have dv:nT listed<=Ee l ms i:=Io fun m _ h=>by
    have bP:Nat.beq m i=false:=by
     cases hb:Nat.beq m i with
     | false=>rfl
     | true=>rw [pk hb,vm]at h;cases h
    have yu:jY l l.length m i=false:=by
     cases hb:jY l l.length m i with
     | false=>rfl
     | true=>have:=zG de _ _ _ hb h;rw [vm]at this;cases this
    simp [bP,yu]
   have fh:∀(j:Nat),listed.getD j false=true->nj l ms j<=nT listed:=fun j hj=>Io fun m _ h=>by
    rw [Bool.or_eq_true]at h;rcases h with h | h
    ·rw [pk h];exact hj
    ·exact zG de _ _ _ h hj
   have av:=On.get i o iK e1 w1 (nT listed);rw [Nat.zero_add]at av;have av:=av fo dv hb (fun j y o' yu hy xv=>hS j y o' (Lu de iK pJ _ _ yu) hy xv) (fun j o' hj yu=>by
    refine Cz j o' ?_ hj;cases yK:listed.getD j false with
    | false=>rfl
    | true=>have:=zG de _ _ _ yu yK;rw [vm]at this;cases this) (fun m y o' hm Gj hphm hy Vn=>by
    refine hS m y o' ?_ hy Vn;cases U8:listed.getD m false with
    | true=>rfl
    | false=>
     exfalso;have h8:=DJ (fun k=>listed.getD k false) (fun k=>if k=m then true else listed.getD k false) m U8 (fun k=>O) ms Eo (AP.1 hm);have h9:ms.countP (fun k=>if k=m then true else listed.getD k false)<=nj l ms m:=Io fun m' jj h=>by
      by_cases e:m'=m
      ·rw [e,Nat.beq_refl];rfl
      ·rw [az e]at h;simp only [DE,List.all_eq_true]at Gj;have fz:=Gj m' jj;cases kl:jY l l.length m m' with
       | true=>rw [Bool.or_true]
       | false=>
        rw [kl,Bool.or_false,Bool.or_eq_true]at fz;rcases fz with fz | fz
        ·exact absurd (pk fz) e
        ·have:=zG de _ _ _ fz h;rw [U8]at this;cases this
     have xi:ms.countP (fun k=>listed.getD k false)=nT listed:=O;omega)
   rw [Kq pz,zM (Ss (fU o) (fun ed gq v o' hy xv=>hS ed.on _ o' (pJ ed gq) hy xv))]at av
   let turns:Prop:=gY ms i=true
   let KK:Env->aa->Prop:=fun e2 w2=> (gY ms i=false->Below w1.heap.size w1 w2)/\(ys.getD i (.pr fun _ _=>True)).holds (vl l e1) (valOf o e2) w2/\∀j,o.dst≠some j->e2 j=e1 j
   have ag2:∃K:Env->aa->Prop,(∀e2 w2,K e2 w2->KK e2 w2)/\ao P N l.toArray K [o] e1 w1:=by
    cases kF:gY ms i with
    | true=>
     rw [kF]at av;exact⟨_,fun e2 w2 h=> ⟨fun h0=> (by rw [kF]at h0;cases h0),h.1,h.2⟩,av⟩
    | false=>
     rw [kF]at av;exact⟨_,fun e2 w2 h=> ⟨fun _=>h.1,h.2.1,h.2.2⟩,av⟩
   obtain⟨K,s7,agJ⟩:=ag2;have mJ:=agJ.run a1 hr;have Ju:nT (listed.setIfInBounds i true)=if gY ms i=true then nT listed+1 else nT listed:=by
    show ms.countP _=_
    by_cases kF:gY ms i=true
    ·rw [aB kF];exact DJ (fun m=>listed.getD m false) (fun m=> (listed.setIfInBounds i true).getD m false) i vm qR ms Eo (AP.1 kF)
    ·rw [az kF];refine List.countP_congr fun m Co=>?_
     rw [qR,az (fun e=>kF (AP.2 (by rw [<-e];exact Co)))]
   have xq:∀a2 w2,(∃e2,kj N a2 e2/\K e2 w2)->wpAny P .any l.toArray (low N Q) fuel (listed.setIfInBounds i true) a2 w2:=by
    intro a2 w2 ⟨e2,qV,hK2⟩;obtain⟨nA,yV,D7⟩:=s7 _ _ hK2;have Ob:∀(k:Nat) (o':Oper),l[k]?=some o'->k≠i->valOf o' e2=valOf o' e1:=by
     intro k o' dp fX;unfold valOf;cases hd:o'.dst with
     | none=>rfl
     | some d=>exact D7 d (fun h=>fX (Mi _ l h2 k i o' o d dp iK hd h))
    have Kb:∀j,j≠i->vl l e2 j=vl l e1 j:=by
     intro j hj;unfold vl;cases xv:l[j]? with
     | none=>rfl
     | some o'=>exact Ob j o' xv hj
    refine ih _ a2 e2 w2 qV (fun h0=>?_) (fun j hj=>?_) (by simpa using mr) (fun k y o' hk hy dp=>?_) (fun k o' hk dp ed gq=>?_) (fun k o' hk dp=>?_) ?_
    ·rw [Ju]at h0
     by_cases kF:gY ms i=true
     ·rw [aB kF]at h0;omega
     ·rw [az kF]at h0;have:=nA (by simpa using kF);exact(hb h0).trans (this.mono (hb h0).size)
    ·have bP:o.dst≠some j:=by
      intro hd;have:gY (jJ l) j=true:=by rw [AP];exact List.mem_filterMap.2 ⟨o,List.mem_of_getElem? iK,hd⟩
      rw [this]at hj;cases hj
     rw [D7 j bP];exact pz j hj
    ·by_cases fX:k=i
     ·subst fX;rw [iK]at dp;cases dp;have:ys.getD k (.pr fun _ _=>True)=y:=by simp [dm,hy]
      rw [this]at yV;cases y with
      | ex v=>exact yV
      | pr p=>exact fun _=>yV
      | p2 j p=>
       have hj:=Oc k j p hy;have yK:listed.getD j false=true:=Lu de iK pJ _ _ hj.1;have u9:j≠k:=fun e=>by rw [e,vm]at yK;cases yK
       exact fun _=>by rw [Kb j u9];exact yV
      | al q p=>exact⟨yV.1,fun _=>yV.2⟩
     ·have eI:listed.getD k false=true:=by rw [qR,az fX]at hk;exact hk
      have h7:=hS k y o' eI hy dp;rw [Ob k o' dp fX];cases y with
      | ex v=>exact h7
      | pr p=>
       intro hc;rw [Ju]at hc
       by_cases kF:gY ms i=true
       ·rw [aB kF]at hc;have:=fh k eI;omega
       ·rw [az kF]at hc;have hl:=NY _ (List.mem_of_getElem? hy);exact hl _ _ _ (h7 hc) (nA (by simpa using kF))
      | p2 j p=>
       have hj:=Oc k j p hy;have yK:listed.getD j false=true:=zG de _ _ _ hj.1 eI;have u9:j≠i:=fun e=>by rw [e,vm]at yK;cases yK
       intro hc;rw [Kb j u9];rw [Ju]at hc
       by_cases kF:gY ms i=true
       ·rw [aB kF]at hc;have:=fh k eI;omega
       ·rw [az kF]at hc;have hl:=NY _ (List.mem_of_getElem? hy);exact hl _ _ _ _ (h7 hc) (nA (by simpa using kF))
      | al q p=>
       refine⟨h7.1,fun hc=>?_⟩;rw [Ju]at hc
       by_cases kF:gY ms i=true
       ·rw [aB kF]at hc;have:=fh k eI;omega
       ·rw [az kF]at hc;have hl:=NY _ (List.mem_of_getElem? hy);exact hl _ _ _ (h7.2 hc) (nA (by simpa using kF))
    ·rw [qR]
     by_cases Ah:ed.on=i
     ·rw [aB Ah]
     ·rw [az Ah]
      by_cases fX:k=i
      ·subst fX;rw [iK]at dp;cases dp;exact pJ ed gq
      ·rw [qR,az fX]at hk;exact de k o' hk dp ed gq
    ·rw [qR]at hk
     by_cases fX:k=i
     ·rw [aB fX]at hk;cases hk
     ·rw [az fX]at hk;rw [Ob k o' dp fX];exact Cz k o' hk dp
    ·have Gk:(List.range l.length).countP (fun k=> (listed.setIfInBounds i true).getD k false)=(List.range l.length).countP (fun k=>listed.getD k false)+1:=
      DJ (fun k=>listed.getD k false) (fun k=> (listed.setIfInBounds i true).getD k false) i vm qR _ List.nodup_range (by simpa using tj)
     rw [Gk];omega
   unfold wpOp;rw [ho];unfold wpList at mJ;show if _ then _ else _
   by_cases hw:Region.wanted o (yielded l.toArray a1.tmps)=true
   ·rw [aB hw]at mJ|-;rcases mJ with h5 | ⟨_,a0,w0,h5⟩
    ·refine .inl (Lb h5 (fun a2 w2 hx=>?_) (fun x a w hx hq=>hx hq.1));exact xq a2 w2 hx.2
    ·exact absurd h5.1 (by simp)
   ·rw [az hw]at mJ|-;exact xq _ _ mJ.2
 refine key l.length (Array.replicate l.length false) a e _ ha (fun _=> ⟨⟨O,O,O,br _,fun _ _=>O⟩,fun _=>Nat.le_add_right _ _⟩) (fun _ _=>O) (by simp) (fun i y o hi=>?_) (fun i o hi=>?_) (fun _ _ _ _=>O) am
 ·exfalso;rw [jn,Array.getElem?_replicate]at hi
  split at hi<;>simp at hi
 ·exfalso;rw [jn,Array.getElem?_replicate]at hi
  split at hi<;>simp at hi
theorem kK{Q:jX}(ms:List Nat)(ys:List Ye)(NY:∀y∈ys,y.r6)(On:Fz P N l ys ms e w 0 l)(Cg:∀u w1,(ms=[]->Below w.heap.size w w1)->(∀(k:Nat) (p:ad->aa->Prop),ys[k]?=some (Ye.pr p)->nj l ms k=ms.length->p (u k) w1)->(∀(k j:Nat) (p:ad->ad->aa->Prop),ys[k]?=some (Ye.p2 j p)->nj l ms k=ms.length->p (u j) (u k) w1)->(∀(k:Nat) (q:ad->Prop) (p:ad->aa->Prop),ys[k]?=some (Ye.al q p)->q (u k)/\(nj l ms k=ms.length->p (u k) w1))->Q .normal (ext e (rG l ys u 0)) w1)(hm:P.follows .mixedOrders=true:=by kernel_rfl)(dp:Sw N l ys ms=true:=by kernel_rfl):Cd P N (.region id l.toArray true) Q e w:=aqt ms ys hm dp NY On Cg
end
theorem ZE(x y:Int)(w:aa)(hx:0<=x/\x<=1048576)(hy:0<=y/\y<=1048576):aJ prog 247 [.int .u64 x,.int .u64 y] w (fun v w'=>v= .tuple #[.int .u64 0,.int .u64 (x*y)]/\w'=w):=by
 have kq:0<=x*y/\x*y<=1099511627776:=⟨Int.mul_nonneg hx.1 hy.1,Int.le_trans (Int.mul_le_mul hx.2 hy.2 hy.1 am) an⟩;have ex:x%4294967296=x:=by omega
 have ey:y%4294967296=y:=by omega
 have dx:x / 4294967296=0:=by omega
 have dy:y / 4294967296=0:=by omega
 refine bC func247 O ntmps247 O (pV O) (bh O (Lc (x) O O O am am (ar O (Ft (0) O O O am am (ar O (Lc (y) O O O am am (ar O (Ft (0) O O O am am (ar O ?_)))))))));refine Fp (x*y) O O O (by simp) am ?_;refine ar O ?_;refine Fp (0) O O O (by simp) am ?_;refine ar O (Ft (x*y / 4294967296) O O O am am ?_);refine HM (x*y / 4294967296) O O O (by simp) am ?_;refine ar O (Lc (x*y / 4294967296) O O O am am (ar O (Ft (0) O O O am am (ar O ?_))));refine Fp (0) O O O (by simp) am ?_;refine HM (x*y / 4294967296) O O O (by simp) am ?_;refine ar O ?_;refine Fp (0) O O O (by simp) am ?_;refine ar O ?_;refine HM (0) O O O (by simp) am ?_;refine ar O (Ft (0) O O O am am ?_);refine HM (0) O O O (by simp) am ?_;refine ar O ?_;refine Fp (x*y) O O O (by simp) am ?_;refine bH O (PX O O ?_);exact⟨O,O⟩
theorem ZF(x y:Int)(w:aa)(hx:0<=x/\x<=1048576)(hy:0<=y/\y<=1048576):aJ prog 192 [.int .u64 x,.int .u64 y] w (fun v w'=>v= .tuple #[.int .u64 0,.int .u64 (x*y)]/\w'=w):=by
 refine bC func192 O ntmps192 O (pV O) (bL O (Cd.fg O (aA O (aL (ZE x y w hx hy) O ?_))));rintro _ _ ⟨rfl,rfl⟩;refine bH O (PX O O ?_);exact⟨O,O⟩
def rep(a n:Nat)(x v:Int):ai:=List.replicate a x++List.replicate (n - a) v
theorem al3{m n q:Nat}{x v:Int}(hm:m<=n)(hq:q<=n - m):((rep m n x v).map (Value.int .i64)).take m++ (List.range q).map (fun _=>Value.int .i64 x)++ ((rep m n x v).map (Value.int .i64)).drop (m+q)=(rep (m+q) n x v).map (Value.int .i64):=by
 have e1:(rep m n x v).map (Value.int .i64)=List.replicate m (Value.int .i64 x)++List.replicate (n - m) (Value.int .i64 v):=by simp [rep]
 have e2:(List.range q).map (fun _=>Value.int .i64 x)=List.replicate q (Value.int .i64 x):=by
  apply jE<;>simp
 rw [e1,e2,wN (by simp),List.drop_append];simp only [rep,iI,List.map_replicate,List.length_replicate,List.take_replicate,List.drop_replicate,Nat.min_self];rw [show m - (m+q)=0 by omega,show m+q - m=q by omega,show n - m - q=n - (m+q) by omega];simp
theorem Fx(A:aj)(c:Nat)(x:Int)(n:Nat)(w:aa)(hR:cL w A 1 [x])(hn:n<=1048576):
 aJ prog 124 [.slice A 1 c,ak n] w (fun v w'=>∃A',v= .slice A' n n/\St w w' [ax 2 A' n n (List.replicate n x)]):=by
 refine bC func124 O ntmps124 O (df O) (bL O (qC O am ?_));refine aA O (a8 O O ?_);refine qc (i:=1) O O an (ar O (qc (i:=(n:Int)) O O (xT _ am) (aL (ZF 1 n _ am am) O ?_)));rintro _ w ⟨rfl,rfl⟩;rw [Int.one_mul];refine ar O (ao.gtr O O O (ar O ?_));refine dI 23 O (fun h=>absurd h an) (fun _=>?_);refine aw O (ar O (aw O (ao.gtr O O O (aC O ?_))));refine qC O am (aA O (qc (i:=(n:Int)) O O (IntWalk.i64_in _ am) (x4 n (St.refl w) O O am ?_)));intro A1 w1 aH;refine ar O ?_;refine Ra 0 0 (min 1 n) aH O (aH.gA hR).2 (bg _) (by rw [ab5];rfl) O (fun _ _=>O) O O ?_;intro w2 aF;refine aC O ?_;have h3:St w w2 [ax 2 A1 n n (rep (min 1 n) n x 0)]:=by
  have e:([ax 2 A1 n n (List.replicate n 0)].set 0 { ax 2 A1 n n (List.replicate n 0)with vs:=(ax 2 A1 n n (List.replicate n 0)).vs.take 0++ (List.range (min 1 n)).map (fun j=>Value.int .i64 ([x].getD j 0))++ (ax 2 A1 n n (List.replicate n 0)).vs.drop (0+min 1 n) })=[ax 2 A1 n n (rep (min 1 n) n x 0)]:=by
   by_cases h0:n=0
   ·subst h0;rfl
   have h1:min 1 n=1:=by omega
   rw [h1];simp [ax,rep,jU]
  rw [<-e];exact aF
 refine Cd.loop (α:=Nat) (fun m=> [(7,.slice A1 n n),(8,ak m)]) (fun m w'=>St w w' [ax 2 A1 n n (rep m n x 0)]/\m<=n/\(0<n->0<m)) (fun m=>n - m) (min 1 n) (aqv O) ⟨h3,am,am⟩ ?_;rintro m e w3 ⟨aQ,hm,hm0⟩;refine bh O (a8 O O (aC O ?_));refine aM _ O (fun h4=>?_) (fun h4=>?_)
 ·refine dA O ?_;have hlen:(rep m n x 0).length=n:=aQ.EH 0 O;have lZ:∀ {w1:aa},Below w3.heap.size w3 w1->Rd w1 A1 m (fun _=>ak x):=fun hb j hj=>by
   have h5:=(aQ.aq hb).rd 0 O j (by show j<n;omega);have h6:((rep m n x 0).map (Value.int .i64)).getD j undef=ak x:=by simp [rep,dm,ma,hj]
   obtain⟨p,hp,hc⟩:=h5;exact⟨p,hp,hc.trans (aE some h6)⟩
  have iZ:=al3 (n:=n) (m:=m) (q:=min m (n - m)) (x:=x) (v:=0) hm am;refine kK [7] [yI ((m:Int)),yS (A1) (n) (n),yI ((m:Int)),yS (cutAt A1 n m) (n - m) (n - m),yS (A1) (n) (n),yI ((m:Int)),yS (A1) (m) (n),.pr (fun v w'=>v=ak ((min m (n - m):Nat):Int)/\St w w' [ax 2 A1 n n (rep (m+min m (n - m)) n x 0)]),yI ((m:Int)+ ((min m (n - m):Nat):Int)),yI ((m:Int)+ ((min m (n - m):Nat):Int))] (ly (ly (ly (ly (ly (ly (ly (cH.2 ⟨Ye.cJ (fun v w w' h hb=> ⟨h.1,h.2.aq hb⟩),(ly (ly (fun _ h=>by cases h)))⟩)))))))) ?_ ?_
  ·refine⟨?_,bZ O,?_,aP fun _ _=>Fo O O O am (bG O O),bZ O,?_,aP fun _ _=>Lf O O O am (bG O O),?_,?_,bZ O,au⟩
   ·intro e1 w1 cc fo dv fL hp aU hq;show ao _ _ _ _ _ _ _;refine qG O (by exact aU 9 _ O (by kernel_rfl)) O (ao.n (iz O (by exact O)))
   ·intro e1 w1 cc fo dv fL hp aU hq;show ao _ _ _ _ _ _ _;refine qG O (by exact aU 9 _ O (by kernel_rfl)) O (ao.n (iz O (by exact O)))
   ·intro e1 w1 cc fo dv fL hp aU hq;show ao _ _ _ _ _ _ _;refine qG O (by exact aU 9 _ O (by kernel_rfl)) O (ao.n (iz O (by exact O)))
   ·refine kO fun e1 w1 hb hp aU hq=>?_
    refine Ra 0 m (min m (n - m)) (aQ.aq hb) O (f:=fun _=>ak x) (lZ hb) am O O (fun _ _=>O) O O fun w5 ba=>ao.n ?_;exact gn.dn O ⟨O,by show St w w5 [⟨A1,n,n,_,(rep (m+min m (n - m)) n x 0).map (Value.int .i64)⟩];rw [<-iZ];exact ba⟩
   refine dP 1 fun e1 w1 hp aU hq=>?_
   have fh:=hp 7 _ _ (by kernel_rfl) O O (by kernel_rfl);refine aqn O (by exact fh.1) O am (ao.n (iz O (by exact O)))
  intro u w5 _ hu _ _;have ba:=(hu 7 _ O (by kernel_rfl)).2;refine Zu O (tQ ?_);exact⟨m+min m (n - m),by have:=hm0 am;omega,⟨O,by show Value.int .i64 _=Value.int .i64 _;congr 1,au⟩,ba,am,am⟩
 refine bp O (bt (gw O ?_));refine gJ O ?_;have:m=n:=by omega
 subst this;refine⟨A1,O,?_⟩;have e:rep m m x 0=List.replicate m x:=by simp [rep]
 rw [<-e];exact aQ
end
section
variable{N i:Nat}{x y:Int}
theorem Hu{α:Type}[DecidableEq α]:∀(a b:List α),a.Nodup->(∀x∈a,x∈b)->a.length<=b.length
 | [],_,_,_=>bg _
 | x::a,b,hn,h=>by
  simp only [mf]at hn;have h1:=Hu a (b.erase x) hn.2 (fun y hy=>by
   rw [List.mem_erase_of_ne (fun e=>hn.1 (by rw [<-e];exact hy))];exact h y (by simp [hy]))
  have hx:=h x (by simp);have h2:=List.length_erase_of_mem hx;have h3:=List.length_pos_of_mem hx;simp only [List.length_cons];omega
theorem Yr{α:Type}[DecidableEq α]{a b:List α}(hn:a.Nodup)(h:∀x∈a,x∈b)(hl:b.length<=a.length):∀x∈b,x∈a:=by
 intro y hy;apply qD;intro OE;have:=Hu (y::a) b (by simp [OE,hn]) (fun x hx=>by
  rcases iX.1 hx with rfl | hx
  ·exact hy
  exact h x hx)
 simp at this;omega
def rv(N:Nat)(xss:ah):Prop:=∀p∈xss,∀x y:Int,0<=x->x<N->0<=y->y<N->gi p x=gi p y->x=y
theorem Reach.range{xss:ah}(hs:Sys N xss)(h0:0<=x)(h1:x<N)(h:Reach xss x y):0<=y/\y<N:=by
 induction h with
 | refl=>exact⟨h0,h1⟩
 | step _ hp ih=>exact(hs _ hp).2 _ ih.1 ih.2
theorem Reach.back{xss:ah}(hs:Sys N xss)(hi:rv N xss)(h0:0<=x)(h1:x<N){p:ai}(hp:p∈xss):Reach xss (gi p x) x:=by
 have hy:=(hs p hp).2 x h0 h1;obtain⟨g,_,hm⟩:=tx hs hy.1 hy.2;have key:=Yr (a:=(cC N xss (gi p x)).map (gi p)) (b:=cC N xss (gi p x)) (by
  rw [List.nodup_iff_pairwise_ne,oD];refine List.Pairwise.imp_of_mem ?_ g.nodup;intro a b ha hb eA e;exact eA (hi p hp a b (g.range a ha).1 (g.range a ha).2 (g.range b hb).1 (g.range b hb).2 e))
  (fun z hz=>by
    obtain⟨u,hu,rfl⟩:=dF.1 hz;exact(hm _).2 (.step ((hm u).1 hu) hp)) (by simp)
 obtain⟨u,hu,e⟩:=dF.1 (key (gi p x) ((hm _).2 .refl));have:=hi p hp u x (g.range u hu).1 (g.range u hu).2 h0 h1 e;subst this;exact(hm u).1 hu
theorem Reach.symm{xss:ah}(hs:Sys N xss)(hi:rv N xss)(h0:0<=x)(h1:x<N)(h:Reach xss x y):Reach xss y x:=by
 induction h with
 | refl=>exact .refl
 | step hr hp ih=>
  have hy:=hr.range hs h0 h1;exact(Reach.back hs hi hy.1 hy.2 hp).trans ih
def pT(L:ai)(c:Int):ai->ai
 | []=>L
 | x::xs=>pT (L.set x.toNat c) c xs
theorem Pz:∀(xs L:ai) (c:Int),(pT L c xs).length=L.length
 | [],_,_=>rfl
 | x::xs,L,c=>by rw [pT,Pz xs];simp
theorem xg{N:Nat}:∀(xs L:ai) (c:Int),L.length=N->(∀x∈xs,0<=x/\x<N)->∀x:Int,0<=x->gi (pT L c xs) x=if x∈xs then c else gi L x
 | [],_,_,_,_,x,_=>by simp [pT]
 | y::xs,L,c,hl,h,x,hx=>by
  have hy:=h y (by simp);rw [pT,xg xs (L.set y.toNat c) c (by simpa using hl) (fun z hz=>h z (by simp [hz])) x hx,mD hy.1 (by rw [hl];exact hy.2) hx]
  by_cases h1:x∈xs
  ·simp [h1]
  ·rw [az h1]
   by_cases h2:y=x
   ·subst h2;simp
   ·rw [az h2,az];simp only [iX,not_or];exact⟨fun e=>h2 e.symm,h1⟩
def bw(N:Nat)(xss:ah):Nat->ai×Int
 | 0=> (List.replicate N (-1),0)
 | i+1=>if 0<=gi (bw N xss i).1 i then bw N xss i else(pT (bw N xss i).1 (bw N xss i).2 (cC N xss i),(bw N xss i).2+1)
theorem xF{xss:ah}(h:¬0<=gi (bw N xss i).1 i):bw N xss (i+1)=(pT (bw N xss i).1 (bw N xss i).2 (cC N xss i),(bw N xss i).2+1):=by
 show(if _ then _ else _)=_;rw [az h]
theorem zd{xss:ah}(h:0<=gi (bw N xss i).1 i):bw N xss (i+1)=bw N xss i:=by
 show(if _ then _ else _)=_;rw [aB h]
theorem qu(N:Nat)(xss:ah):∀i,(bw N xss i).1.length=N
 | 0=>by simp [bw]
 | i+1=>by
  simp only [bw]
  split
  ·exact qu N xss i
  ·rw [Pz];exact qu N xss i
theorem y8(N:Nat)(xss:ah):∀i,0<=(bw N xss i).2/\(bw N xss i).2<=i
 | 0=>by simp [bw]
 | i+1=>by
  have:=y8 N xss i;simp only [bw]
  split
  ·omega
  ·simp only;omega
theorem vS{v:Int}(h0:0<=x)(h1:x<N):gi (List.replicate N v) x=v:=by
 simp [gi,dm,List.getElem?_replicate,show x.toNat<N by omega]
theorem zc{N:Nat}{xss:ah}(hs:Sys N xss):∀i,i<=N->∀x:Int,0<=x->x<N->(0<=gi (bw N xss i).1 x↔∃j:Nat,j<i/\Reach xss j x)
 | 0,_,x,h0,h1=>by
  simp only [bw,vS h0 h1];constructor
  ·intro h;omega
  ·rintro⟨j,hj,_⟩;omega
 | i+1,hi,x,h0,h1=>by
  have ih:=zc hs i am;have hc:=y8 N xss i;have ho:=tx hs (pt:=(i:Int)) am am;simp only [bw]
  split
  ·rename_i hl;rw [ih x h0 h1];constructor
   ·rintro⟨j,hj,hr⟩;exact⟨j,am,hr⟩
   ·rintro⟨j,hj,hr⟩
    by_cases u9:j=i
    ·subst u9;obtain⟨j',gW,fP⟩:=(ih j am am).1 hl;exact⟨j',gW,fP.trans hr⟩
    ·exact⟨j,am,hr⟩
  ·simp only;rw [xg _ _ _ (qu N xss i) ho.1.range x h0]
   by_cases hm:x∈cC N xss i
   ·rw [aB hm];exact⟨fun _=> ⟨i,am,(ho.2.2 x).1 hm⟩,fun _=>hc.1⟩
   ·rw [az hm,ih x h0 h1];constructor
    ·rintro⟨j,hj,hr⟩;exact⟨j,am,hr⟩
    ·rintro⟨j,hj,hr⟩
     by_cases u9:j=i
     ·subst u9;exact absurd ((ho.2.2 x).2 hr) hm
     ·exact⟨j,am,hr⟩
theorem aiw{xss:ah}(hs:Sys N xss)(hN:0<N):(bw N xss N).2=1↔∀x:Int,0<=x->x<N->Reach xss 0 x:=by
 have h1:(bw N xss 1).2=1:=by
  have:¬(0:Int)<=gi (bw N xss 0).1 (0:Nat):=by
   rw [show(bw N xss 0).1=List.replicate N (-1) from rfl,vS (by omega) (by omega)];omega
  rw [show(1:Nat)=0+1 from rfl,xF this];rfl
 constructor
 ·intro hc;have mono:∀i j,i<=j->(bw N xss i).2<=(bw N xss j).2:=by
   intro i j iy
   induction j with
   | zero=>
    have:i=0:=by omega
    subst this;omega
   | succ j ih=>
    by_cases e:i=j+1
    ·subst e;omega
    ·have:=ih am;have h2:(bw N xss j).2<=(bw N xss (j+1)).2:=by
      simp only [bw];split
      ·omega
      ·simp only;omega
     omega
  have key:∀i:Nat,i<N->Reach xss 0 (i:Int):=by
   intro i
   induction i using Nat.strongRecOn with
   | _ i ih=>
    intro hi
    by_cases h0:i=0
    ·subst h0;exact .refl
    ·have hl:0<=gi (bw N xss i).1 i:=by
      apply qD;intro hn;have h2:=mono 1 i am;have h3:=mono (i+1) N am;have h4:(bw N xss (i+1)).2=(bw N xss i).2+1:=by rw [xF hn]
      omega
     obtain⟨j,hj,hr⟩:=(zc hs i am i am am).1 hl;exact(ih j hj am).trans hr
  intro x h0 h2;have:=key x.toNat am;rw [Int.toNat_of_nonneg h0]at this;exact this
 ·intro h;have key:∀i,1<=i->i<=N->(bw N xss i).2=1:=by
   intro i
   induction i with
   | zero=>intro h;omega
   | succ i ih=>
    intro _ hi
    by_cases e:i=0
    ·subst e;exact h1
    ·have hl:=(zc hs i am i am am).2 ⟨0,am,h i am am⟩;rw [zd hl];exact ih am am
  exact key N am (br _)
theorem CN{xss:ah}(hs:Sys N xss)(hN:0<N):(cC N xss 0).length=N↔∀x:Int,0<=x->x<N->Reach xss 0 x:=by
 obtain⟨g,_,hm⟩:=tx hs (pt:=0) am am;have JY:∀x:Int,x∈(List.range N).map (fun i:Nat=> (i:Int))↔0<=x/\x<N:=by
  intro x;rw [dF];constructor
  ·rintro⟨i,hi,rfl⟩;have:i<N:=by simpa using hi
   omega
  intro h;exact⟨x.toNat,by simp;omega,am⟩
 have jk:((List.range N).map (fun i:Nat=> (i:Int))).Nodup:=by
  rw [List.nodup_iff_pairwise_ne,oD];refine List.Pairwise.imp ?_ (List.nodup_iff_pairwise_ne.1 List.nodup_range);intro a b eA;omega
 constructor
 ·intro hl x h0 h1;have:=Yr g.nodup (b:=(List.range N).map (fun i:Nat=> (i:Int))) (fun z hz=> (JY z).2 (g.range z hz)) (by simp [hl]) x ((JY x).2 ⟨h0,h1⟩);exact(hm x).1 this
 intro h;have h1:=Hu _ (cC N xss 0) jk (fun z hz=>by
  have:=(JY z).1 hz;exact(hm z).2 (h z this.1 this.2))
 have h2:=g.len;simp at h1;omega
structure oB(N:Nat)(xss:ah)(i c:Int)(L0 L op:ai)(bx:Int)(k:Nat):Prop where
 len:L.length=N
 sd:∀x:Int,0<=x->x<N->0<=gi L0 x->gi L x=gi L0 x
 new:∀x:Int,0<=x->x<N->gi L0 x<0->gi L x=gi L0 x\/(gi L x=c/\Reach xss i x)
 start:gi L i=c
 zl:∀x∈op,0<=x/\x<N/\gi L0 x<0/\gi L x=c
 x9:∀x:Int,0<=x->x<N->gi L0 x<0->gi L x=c->x∉op->∀p∈(if x=bx then xss.take k else xss),0<=gi L (gi p x)
section
variable {N:Nat} {xss:ah} {i c:Int} {L0 L op:ai} {bx:Int} {k:Nat}
theorem oB.init(hl:L0.length=N)(h0:0<=i)(h1:i<N)(hi:gi L0 i<0)(hc:0<=c):oB N xss i c L0 (L0.set i.toNat c) [i] (-1) 0 where
 len:=by simpa using hl
 sd x hx _ h:=by
  rw [mD h0 (by rw [hl];exact h1) hx]
  split
  ·rename_i e;subst e;omega
  rfl
 new x hx _ h:=by
  rw [mD h0 (by rw [hl];exact h1) hx]
  split
  ·rename_i e;subst e;exact .inr ⟨rfl,.refl⟩
  exact .inl O
 start:=by rw [mD h0 (by rw [hl];exact h1) h0,aB rfl]
 zl x hx:=by
  simp at hx;subst hx;exact⟨h0,h1,hi,by rw [mD h0 (by rw [hl];exact h1) h0,aB O]⟩
 x9 x hx eQ h qm gv:=by
  rw [mD h0 (by rw [hl];exact h1) hx]at qm
  split at qm
  ·rename_i e;subst e;simp at gv
  omega
theorem oB.alk{x:Int}(h:oB N xss i c L0 L (op++ [x]) (-1) 0):oB N xss i c L0 L op x 0 where
 len:=h.len
 sd:=h.sd
 new:=h.new
 start:=h.start
 zl y hy:=h.zl y (by simp [hy])
 x9 y hy lG h0 hc gv:=by
  split
  ·simp
  rename_i bP;have:=h.x9 y hy lG h0 hc (by simp [gv,bP]);rw [az (by omega)]at this;exact this
theorem oB.rest(h:oB N xss i c L0 L op bx xss.length):oB N xss i c L0 L op (-1) 0 where
 len:=h.len
 sd:=h.sd
 new:=h.new
 start:=h.start
 zl:=h.zl
 x9 y hy lG h0 hc gv:=by
  rw [az (by omega)];have:=h.x9 y hy lG h0 hc gv;rw [List.take_length]at this;simpa using this
theorem oB.skip(h:oB N xss i c L0 L op bx k)(hk:k<xss.length)(hy:0<=gi L (gi (gl xss k) bx)):oB N xss i c L0 L op bx (k+1) where
 len:=h.len
 sd:=h.sd
 new:=h.new
 start:=h.start
 zl:=h.zl
 x9 y lG ag7 h0 hc gv p hp:=by
  have:=h.x9 y lG ag7 h0 hc gv
  split at hp
  ·rename_i e;rw [aB e]at this;rw [Qy hk,jd]at hp;rcases hp with hp | hp
   ·exact this p hp
   simp at hp;subst hp;subst e;exact hy
  rename_i e;rw [az e]at this;exact this p hp
theorem oB.push(hs:Sys N xss)(fm:0<=i)(h:oB N xss i c L0 L op bx k)(hk:k<xss.length)(fL:0<=bx)(dE:bx<N)(hb:gi L0 bx<0)(yz:gi L bx=c)(kV:0<=c)(hy:gi L (gi (gl xss k) bx)<0):
 oB N xss i c L0 (L.set (gi (gl xss k) bx).toNat c) (op++ [gi (gl xss k) bx]) bx (k+1):=by
 have lC:gl xss k∈xss:=by rw [bR hk];exact dK _
 have uj:=(hs _ lC).2 bx fL dE;have hg:∀z:Int,0<=z->gi (L.set (gi (gl xss k) bx).toNat c) z=if gi (gl xss k) bx=z then c else gi L z:=fun z hz=>mD uj.1 (by rw [h.len];exact uj.2) hz
 have Jt:Reach xss i bx:=by
  rcases h.new bx fL dE hb with h1 | h1
  ·omega
  exact h1.2
 have GW:gi L0 (gi (gl xss k) bx)<0:=by
  apply qD;intro hn;have:=h.sd _ uj.1 uj.2 am;omega
 have pos:∀z:Int,0<=z->0<=gi L z->0<=gi (L.set (gi (gl xss k) bx).toNat c) z:=fun z hz h1=>by
  rw [hg z hz];split<;>omega
 refine⟨by simpa using h.len,fun x hx eQ h0=>?_,fun x hx eQ h0=>?_,?_,fun x hx=>?_,fun x hx eQ h0 hc gv p hp=>?_⟩
 ·rw [hg x hx,az (fun e=>by subst e;omega)];exact h.sd x hx eQ h0
 ·rw [hg x hx]
  split
  ·rename_i e;subst e;exact .inr ⟨rfl,.step Jt lC⟩
  exact h.new x hx eQ h0
 ·rw [hg i fm];split
  ·rfl
  exact h.start
 ·rcases jd.1 hx with hx | hx
  ·have:=h.zl x hx;refine⟨this.1,this.2.1,this.2.2.1,?_⟩;rw [hg x this.1];split
   ·rfl
   exact this.2.2.2
  simp at hx;subst hx;exact⟨uj.1,uj.2,GW,by rw [hg _ uj.1,aB O]⟩
 have bP:gi (gl xss k) bx≠x:=fun e=>gv (by subst e;simp)
 rw [hg x hx,az bP]at hc;have af5:x∉op:=fun hm=>gv (by simp [hm])
 have h1:=h.x9 x hx eQ h0 hc af5
 split at hp
 ·rename_i e;rw [aB e]at h1;rw [Qy hk,jd]at hp;rcases hp with hp | hp
  ·exact pos _ ((hs p (List.mem_of_mem_take hp)).2 x hx eQ).1 (h1 p hp)
  simp at hp;subst hp;subst e;rw [hg _ uj.1,aB rfl];exact kV
 rename_i e;rw [az e]at h1;exact pos _ ((hs p hp).2 x hx eQ).1 (h1 p hp)
theorem oB.done(hs:Sys N xss)(hi:rv N xss){j:Nat}(hj:j<N)(yL:¬0<=gi (bw N xss j).1 j)(h:oB N xss j (bw N xss j).2 (bw N xss j).1 L [] (-1) 0):L=(bw N xss (j+1)).1:=by
 have hc:=y8 N xss j;have ho:=tx hs (pt:=(j:Int)) am am;have hm:=zc hs j am;rw [xF yL];apply jE
 ·rw [h.len,Pz,qu]
 intro x h1 h2;have hx:x<N:=by rw [<-h.len];exact h1
 have e1:=bV (p:=L) (k:=x) h1;have e2:=bV (p:=pT (bw N xss j).1 (bw N xss j).2 (cC N xss j)) (k:=x) h2;rw [<-e1];show _=(pT (bw N xss j).1 (bw N xss j).2 (cC N xss j))[x];rw [<-e2,xg _ _ _ (qu N xss j) ho.1.range x (by omega)];have reached:∀y,Reach xss j y->gi (bw N xss j).1 y<0/\gi L y=(bw N xss j).2:=by
  intro y hr
  induction hr with
  | refl=>exact⟨am,h.start⟩
  | @step y p hr hp ih=>
   have hy:=hr.range hs am am;have JV:=(hs p hp).2 y hy.1 hy.2;have Vh:gi (bw N xss j).1 (gi p y)<0:=by
    apply qD;intro hn;obtain⟨m,hmj,Ar⟩:=(hm _ JV.1 JV.2).1 am;have:=(hm y hy.1 hy.2).2 ⟨m,hmj,Ar.trans (Reach.back hs hi hy.1 hy.2 hp)⟩;omega
   refine⟨Vh,?_⟩;have h3:=h.x9 y hy.1 hy.2 ih.1 ih.2 (by simp) p (by rw [az (by omega)];exact hp);rcases h.new _ JV.1 JV.2 Vh with h4 | h4
   ·omega
   ·exact h4.1
 split
 ·rename_i lC;exact(reached _ ((ho.2.2 _).1 lC)).2
 ·rename_i lC;have hnr:¬Reach xss j x:=fun hr=>lC ((ho.2.2 _).2 hr)
  by_cases h5:0<=gi (bw N xss j).1 x
  ·exact h.sd x am am h5
  ·rcases h.new x am am am with h6 | h6
   ·exact h6
   ·exact absurd h6.2 hnr
end
def uC(L:ai):Nat:=L.countP (fun x=>decide (x<0))
theorem YR{L:ai}{x c:Int}(h0:0<=x)(h1:x<L.length)(hx:gi L x<0)(hc:0<=c):uC (L.set x.toNat c)+1=uC L:=by
 obtain⟨k,rfl⟩:∃k:Nat,x=k:=⟨x.toNat,am⟩;have hk:k<L.length:=by omega
 rw [bV hk]at hx;simp only [uC,jq];rw [List.countP_set (h:=hk)];have:0<L.countP (fun x=>decide (x<0)):=List.countP_pos_iff.2 ⟨L[k],dK _,by simpa using hx⟩;simp [hx,show ¬c<0 by omega];omega
end
section
open Go.RowKit
variable{k:Nat}
theorem St.shrink{w0 w:aa}{ks:List Ck}{k:Ck}(h:St w0 w ks)(i:Nat)(hk:ks[i]?=some k)(m:Nat)(hm:m<=k.n)(hM:eU k.vs=false):St w0 w (ks.set i { k with n:=m,vs:=k.vs.take m }):=by
 have yG:=(gx.1 hk).1;refine⟨h.below,fun x hx=>?_,?_⟩
 ·obtain⟨j,hj,rfl⟩:=gC.1 hx;have gW:j<ks.length:=by simpa using hj
  rw [List.getElem_set]
  split
  ·obtain⟨h1,h2,h3,h4⟩:=h.qh hk hM;refine .q9 (V9 m hM) ⟨by simp;omega,by show m<=k.c;omega,h3,?_⟩;rcases h4 with h4 | ⟨g,o,cur,hA,hg,hh,hs,hc⟩
   ·exact .inl h4
   refine .inr ⟨g,o,cur,hA,hg,hh,hs,fun j hj=>?_⟩;have hj:j<m:=hj;show _=(k.vs.take m)[j]?;rw [hc j (by omega),rz,aB hj]
  exact h.own _ (dK _)
 rw [IG Ck.ij ks i k { k with n:=m,vs:=k.vs.take m } hk rfl];exact h.apart
theorem St.amF{w0 w:aa}{ks:List Ck}{t:ae}{A:aj}{n c:Nat}{xs:ai}(h:St w0 w ks)(i:Nat)(hk:ks[i]?=some (ax t A n c xs))(m:Nat)(hm:m<=n):St w0 w (ks.set i (ax t A m c (xs.take m))):=by
 have:=h.shrink i hk m hm (uk _);simpa [ax]using this
theorem abX(op:ai)(h:0<op.length):∃o x,op=o++ [x]:=⟨op.dropLast,op.getLast (by intro e;simp [e]at h),(List.dropLast_concat_getLast _).symm⟩
theorem Kv(A:aj)(n c:Nat)(rs:List aO)(xss:ah)(N:Nat)(w:aa)(hR:bF w A n rs xss)(hn:n<=9223372036854775807)(hs:Sys N xss)(Ef:rv N xss)(hN:N<=1048576):
 aJ prog 118 [ak N,.slice A n c] w (fun v w'=>∃A',v= .tuple #[.slice A' N N,ak (bw N xss N).2]/\St w w' [ax 2 A' N N (bw N xss N).1]):=by
 have cn:∀k:Int,0<=k->k<n->(rg rs k).n=N:=fun k tm hk=>by
  rw [<-hR.nI tm hk];exact(hs _ (oQ tm (by rw [hR.len];exact hk))).1
 refine bC func118 O ntmps118 O (pV O) (bh O (eL (St.refl w) O O O ?_));intro A1 w1 aH;refine ar O (aL (Fx A1 1 (-1) N w1 (aH.bz 0 O) hN) O ?_);rintro _ w2 ⟨A6,rfl,aF⟩;have aF:=(aH.call2 aF).tail;refine aC O (Cd.loop (α:=Nat) (fun i=> [(1,.slice A n c),(6,.slice A6 N N),(7,ak (bw N xss i).2),(17,ak N),(18,ak i)]) (fun i w'=>St w w' [ax 2 A6 N N (bw N xss i).1]/\i<=N) (fun i=>N - i) 0 (aqv O) ⟨aF,bg _⟩ ?_);rintro i e w3 ⟨aQ,hi⟩;have oX:=y8 N xss i;refine bL O (aM _ O (fun h1=>?_) (fun h1=>?_))
 ·refine aA O (aD (aQ.bz 0 O).2 O (aY (aQ.bz 0 O) O (aC O ?_)));refine aM _ O (fun h2=>?_) (fun h2=>?_)
  ·refine aA O (aI O (aT O (tQ ?_)));exact⟨i+1,am,⟨O,O,by rw [zd h2];rfl,O,O,au⟩,by rw [zd h2];exact aQ,am⟩
  refine aA O (aD (aQ.bz 0 O).2 O (kN 0 aQ O O O am ?_));intro w4 aX;refine ar O (eL aX O O O ?_);intro A9 w5 ba;refine aC O ?_;have aU:uC (bw N xss i).1<=N:=by
   have:=List.countP_le_length (p:=fun x:Int=>decide (x<0)) (l:=(bw N xss i).1);rw [qu]at this;exact this
  have hun1:=YR (L:=(bw N xss i).1) (x:=i) (c:=(bw N xss i).2) am (by rw [qu];omega) am oX.1;refine Cd.loop (α:=ai×ai×aj×Nat) (fun q=> [(1,.slice A n c),(6,.slice A6 N N),(7,ak (bw N xss i).2),(9,.slice q.2.2.1 q.2.1.length q.2.2.2),(17,ak N),(18,ak i)]) (fun q w'=>St w w' [ax 2 q.2.2.1 q.2.1.length q.2.2.2 q.2.1,ax 2 A6 N N q.1]/\oB N xss i (bw N xss i).2 (bw N xss i).1 q.1 q.2.1 (-1) 0/\uC q.1+q.2.1.length<=N) (fun q=>uC q.1+q.2.1.length) ((bw N xss i).1.set (i:Int).toNat (bw N xss i).2,[(i:Int)],A9,1) (aqv O) ⟨ba,oB.init (qu N xss i) am am am oX.1,by show uC ((bw N xss i).1.set (i:Int).toNat (bw N xss i).2)+1<=N;omega⟩ ?_;rintro⟨L,op,A9,c9⟩ e2 w6 ⟨bo,hD,hu⟩;dsimp only at bo hD hu|-;refine bh O (a8 O O (aC O ?_));refine aM _ O (fun h3=>?_) (fun h3=>?_)
  ·obtain⟨o,x,rfl⟩:=abX op am;have Es:(o++ [x]).length=o.length+1:=by simp
   have hx:gi (o++ [x]) (((o++ [x]).length:Int) - 1)=x:=by
    rw [show(((o++ [x]).length:Nat):Int) - 1=((o.length:Nat):Int) by omega,bV (by omega)];simp
   have rZ:=hD.zl x (by simp);refine aA O (a8 O O (dZ O ?_));refine aD (bo.bz 0 O).2 O (aY (bo.bz 0 O) O ?_);rw [hx];refine ar O (a8 O O (dZ O ?_));refine Lf O O O (by have:=(bo.cap 0 O).1;dsimp only at this;omega) ?_;have bK:=bo.amF 0 O o.length am;rw [List.take_left]at bK;rw [show(((o++ [x]).length:Nat):Int) - 1=((o.length:Nat):Int) by omega,jq];refine ar O (a8 O O (aC O ?_));refine Cd.loop (α:=Nat×ai×ai×aj×Nat) (fun q=> [(1,.slice A n c),(6,.slice A6 N N),(7,ak (bw N xss i).2),(9,.slice q.2.2.2.1 q.2.2.1.length q.2.2.2.2),(10,ak x),(17,ak N),(18,ak i),(46,.slice A n c),(47,ak n),(48,ak (q.1:Int))]) (fun q w'=>St w w' [ax 2 q.2.2.2.1 q.2.2.1.length q.2.2.2.2 q.2.2.1,ax 2 A6 N N q.2.1]/\oB N xss i (bw N xss i).2 (bw N xss i).1 q.2.1 q.2.2.1 x q.1/\q.1<=n/\gi q.2.1 x=(bw N xss i).2/\uC q.2.1+q.2.2.1.length=uC L+o.length) (fun q=>n - q.1) (0,L,o,A9,c9) (aqv O) ⟨bK,hD.alk,bg _,rZ.2.2.2,O⟩ ?_;rintro⟨k,L',o',A',c'⟩ e3 w8 ⟨cj,DZ,hk,Kd,VO⟩;dsimp only at cj DZ hk Kd VO|-;refine bL O (aM _ O (fun h4=>?_) (fun h4=>?_))
   ·have hM:=cj.b7 hR;have bS:=hM.at_ (i:=k) am h4;have jx:=cn k am h4;have lC:gl xss k∈xss:=oQ am (by rw [hR.len];exact h4);have hy:=(hs _ lC).2 x rZ.1 rZ.2.1;refine aA O (aqj hM.top.2 O O O am h4 (b9 hM.top O (ar O (aD bS.2 O (aY bS O (ar O (aD (cj.bz 1 O).2 O (aY (cj.bz 1 O) O (aC O ?_)))))))));refine aM _ O (fun h5=>?_) (fun h5=>?_)
    ·refine aA O (aD (cj.bz 1 O).2 O (kN 1 cj O O O am ?_));intro w9 bT;refine ar O (eL bT O O O ?_);intro bN dY bW;refine fu 1 bW O (bW.bz 0 O) O O O fun cG gO eF eH=>ar O (aI O (aT O (tQ ?_)));have hu9:=YR (L:=L') (x:=gi (gl xss k) x) (c:=(bw N xss i).2) hy.1 (by rw [DZ.len];exact hy.2) h5 oX.1;refine⟨(k+1,L'.set (gi (gl xss k) x).toNat (bw N xss i).2,o'++ [gi (gl xss k) x],cG,gO),by show n - (k+1)<n - k;omega,⟨O,O,O,by rw [ck];rfl,O,O,O,O,O,O,au⟩,?_,DZ.push hs am (by rw [hR.len];omega) rZ.1 rZ.2.1 rZ.2.2.1 Kd oX.1 h5,by show k+1<=n;omega,?_,?_⟩
     ·have kl:=eH.tail;simp only [ck,List.length_singleton];exact kl
     ·show gi (L'.set _ _) x=_;rw [mD hy.1 (by rw [DZ.len];exact hy.2) rZ.1]
      split
      ·rfl
      exact Kd
     show uC (L'.set _ _)+ (o'++ [_]).length=_;simp only [ck,List.length_singleton];omega
    refine aA O (aI O (aT O (tQ ?_)));exact⟨(k+1,L',o',A',c'),by show n - (k+1)<n - k;omega,(aqv O),cj,DZ.skip (by rw [hR.len];omega) am,by show k+1<=n;omega,Kd,VO⟩
   refine bp O (bt (Da O (tQ ?_)));have eI:k=xss.length:=by rw [hR.len];omega
   subst eI;exact⟨(L',o',A',c'),by show uC L'+o'.length<uC L+ (o++ [x]).length;omega,(aqv O),cj,DZ.rest,by show uC L'+o'.length<=N;omega⟩
  have o4:op=[]:=qE am;subst o4;have hL:=hD.done hs Ef am h2;refine bp O (bt (cS O (aI O (ar O (aI O (aT O (tQ ?_)))))));refine⟨i+1,am,⟨O,O,by rw [xF h2];rfl,O,O,au⟩,?_,am⟩;rw [<-hL];exact bo.tail
 refine bp O (bt (gw O ?_));refine CX O O ?_;have:i=N:=by omega
 subst this;exact⟨A6,O,aQ⟩
def Comm(xss:ah)(i k f:Nat):Prop:=gi (gl xss k) (gi (gl xss i) f)=gi (gl xss i) (gi (gl xss k) f)/\gi (gl xss i) f≠gi (gl xss k) f
instance (xss:ah)(i k f:Nat):Decidable (Comm xss i k f):=by unfold Comm;exact inferInstance
def wW(xss:ah):Prop:=∀p∈xss,p.length=(gl xss 0).length/\kL p/\pg p
instance (xss:ah):Decidable (wW xss):=by unfold wW;exact inferInstance
def bI(xss:ah):Prop:=(1<=xss.length/\xss.length<=5)/\(2<=(gl xss 0).length/\(gl xss 0).length<=400)/\wW xss/\(∀i,i<xss.length->∀k,k<xss.length->i+2<=k->∀f,f< (gl xss 0).length->Comm xss i k f)/\(cC (gl xss 0).length xss 0).length=(gl xss 0).length
instance (xss:ah):Decidable (bI xss):=by unfold bI;exact inferInstance
theorem kL.inj{p:ai}(h:kL p){x y:Int}(hx:0<=x)(eQ:x<p.length)(hy:0<=y)(lG:y<p.length)(e:gi p x=gi p y):x=y:=by
 obtain⟨a,rfl⟩:∃a:Nat,x=a:=⟨x.toNat,am⟩;obtain⟨b,rfl⟩:∃b:Nat,y=b:=⟨y.toNat,am⟩;rw [bV (by omega),bV (by omega)]at e;have:=(List.getElem_inj (h₀:=by omega) (h₁:=by omega) h.2.2).1 e;omega
theorem wW.sys{xss:ah}(h:wW xss):Sys (gl xss 0).length xss:=fun p hp=>by
 have h1:=h p hp;refine⟨h1.1,fun x h0 hx=>?_⟩;have:=h1.2.1.range (i:=x) h0 am;omega
theorem wW.inj{xss:ah}(h:wW xss):rv (gl xss 0).length xss:=fun p hp x y hx eQ hy lG e=>by
 have h1:=h p hp;exact h1.2.1.inj hx am hy am e
def Part(xss:ah)(k:Nat):Prop:=∀p∈xss.take k,p.length=(gl xss 0).length/\kL p/\pg p
theorem Part.step{xss:ah}(h:Part xss k)(hk:k<xss.length)(h1:(gl xss k).length=(gl xss 0).length)(h2:kL (gl xss k))(h3:pg (gl xss k)):Part xss (k+1):=by
 intro p hp;rw [Qy hk,jd]at hp;rcases hp with hp | hp
 ·exact h p hp
 simp at hp;subst hp;exact⟨h1,h2,h3⟩
theorem Part.all{xss:ah}(h:Part xss k)(hk:xss.length<=k):wW xss:=by
 intro p hp;refine h p ?_;rw [iY hk];exact hp
theorem wW.at_{xss:ah}(h:wW xss)(hk:k<xss.length):(gl xss k).length=(gl xss 0).length/\kL (gl xss k)/\pg (gl xss k):=h _ (by rw [bR hk];exact dK _)
theorem Wl(A:aj)(n c:Nat)(rs:List aO)(xss:ah)(w:aa)(hR:bF w A n rs xss)(hn:n<=9223372036854775807):
 aJ prog 69 [.agg #[.slice A n c]] w (fun v w'=>v= .bool (decide (bI xss))/\St w w' []):=by
 have iU:=hR.len;have r0:0<n->(gl xss 0).length=(rg rs 0).n:=fun h=>hR.nI am am
 refine bC func69 O ntmps69 O (df O) (bh O (jH (St.refl w) O O ?_));intro Ab w1 hS;refine ar O (aV (hS.rd 0 O) O (bj (hS.rd 0 O) O ?_));refine a8 O O (ar O ?_);refine dI 13 O (fun h1=>?_) (fun h1=>?_)
 ·refine aK O (aK O (ar O (aK O (aK O (aK O (aK O (aK O (aK O (ar O (aK O (aK O ?_)))))))))));refine aK O (aK O (aK O (aK O (aC O ?_))));refine Cd.gu O (dM O (dq O ?_));exact⟨by rw [cT (fun h:bI xss=>by have:=h.1.1;omega)],hS.none⟩
 refine aw O (ar O (aw O (ar O ?_)));refine dI 17 O (fun h2=>?_) (fun h2=>?_)
 ·refine aK O (aK O (aK O (aK O (aK O (aK O (ar O (aK O (aK O (aK O (aK O (aK O ?_)))))))))));refine aK O (aC O ?_);refine Cd.gu O (dM O (dq O ?_));exact⟨by rw [cT (fun h:bI xss=>by have:=h.1.2;omega)],hS.none⟩
 have hM:=hS.b7 hR;have r0:=r0 am;refine aw O (aV (hS.rd 0 O) O (aw O (bj (hS.rd 0 O) O (aw O (aD hM.top.2 O (aw O (b9 hM.top O ?_)))))));refine aw O (a8 O O (aw O (ar O ?_)));refine dI 25 O (fun h3=>?_) (fun h3=>?_)
 ·refine aK O (aK O (aK O (aK O (aK O (aK O (aC O ?_))))));refine Cd.gu O (dM O (dq O ?_));exact⟨by rw [cT (fun h:bI xss=>by have:=h.2.1.1;omega)],hS.none⟩
 refine aw O (aV (hS.rd 0 O) O (aw O (bj (hS.rd 0 O) O (aw O (aD hM.top.2 O (aw O (b9 hM.top O ?_)))))));refine aw O (a8 O O (aw O (aC O ?_)));refine aM _ O (fun h4=>?_) (fun h4=>?_)
 ·refine dM O (dq O ?_);exact⟨by rw [cT (fun h:bI xss=>by have:=h.2.1.2;omega)],hS.none⟩
 refine dA O ?_;refine Cd.loop (α:=Nat) (fun k=> [(1,.pointer Ab),(3,ak n),(4,ak k)]) (fun k w'=>St w w' [Bx 24 1 Ab [.slice A n c]]/\k<=n/\Part xss k) (fun k=>n - k) 0 (aqv O) ⟨hS,bg _,fun p hp=>by simp at hp⟩ ?_;rintro k e w2 ⟨aF,hk,hP⟩;have hM:=aF.b7 hR;have hB:=aF.rd 0 O;refine bL O (aM _ O (fun h5=>?_) (fun h5=>?_))
 ·have pH:k<xss.length:=by omega
  have rk:=hR.nI (k:=(k:Int)) am am;have bS:=hM.at_ (i:=k) am h5;refine dA O ?_
  by_cases h6:((rg rs k).n:Int)=(rg rs 0).n
  ·by_cases h7:kL (gl xss k)
   ·by_cases h8:pg (gl xss k)
    ·
     refine dU [xP (ay (Ab) 0),xS (A) (n) (c),xI ((k:Int)),xP (ay (A) ((k:Int)).toNat),xS ((rg (rs) ((k:Int))).a) ((rg (rs) ((k:Int))).n) ((rg (rs) ((k:Int))).c),xI ((((rg (rs) ((k:Int))).n:Nat):Int)),xP (ay (Ab) 0),xS (A) (n) (c),xP (ay (A) ((0:Int)).toNat),xS ((rg (rs) ((0:Int))).a) ((rg (rs) ((0:Int))).n) ((rg (rs) ((0:Int))).c),xI ((((rg (rs) ((0:Int))).n:Nat):Int)),xB (false),xB (false),xP (ay (Ab) 0),xS (A) (n) (c),xI ((k:Int)),xP (ay (A) ((k:Int)).toNat),xS ((rg (rs) ((k:Int))).a) ((rg (rs) ((k:Int))).n) ((rg (rs) ((k:Int))).c),xB (decide (kL (gl xss k))),xB (false),xB (false),xB (false),xP (ay (Ab) 0),xS (A) (n) (c),xI ((k:Int)),xP (ay (A) ((k:Int)).toNat),xS ((rg (rs) ((k:Int))).a) ((rg (rs) ((k:Int))).n) ((rg (rs) ((k:Int))).c),xB (decide (pg (gl xss k))),xB (false),xB (false)] O (eG O) ?_ ?_
     ·refine⟨fun _ _ hb _ _=>aV (hB.below hb) O Az,fun _ _ hb _ _=>bj (hB.below hb) O Az,Dr O,fun _ _ hb _ _=>aD (hM.top.aq hb).2 O Az,fun _ _ hb _ _=>b9 (hM.top.aq hb) O Az,fun _ _ _ _ _=>a8 O O Az,fun _ _ hb _ _=>aV (hB.below hb) O Az,fun _ _ hb _ _=>bj (hB.below hb) O Az,fun _ _ hb _ _=>aD (hM.top.aq hb).2 O Az,fun _ _ hb _ _=>b9 (hM.top.aq hb) O Az,fun _ _ _ _ _=>a8 O O Az,fun _ _ _ _ _=>Dk O (by exact aE Value.bool (cT am)),Dr O,fun _ _ hb _ _=>aw O (aV (hB.below hb) O Az),fun _ _ hb _ _=>aw O (bj (hB.below hb) O Az),Dr O,fun _ _ hb _ _=>aw O (aD (hM.top.aq hb).2 O Az),fun _ _ hb _ _=>aw O (b9 (hM.top.aq hb) O Az),?_,fun _ _ _ _ _=>aw O (fv O O (Az (by exact aE Value.bool (cT (fun h=>h h7))))),Dr O,Dr O,fun _ _ hb _ _=>aw O (aV (hB.below hb) O Az),fun _ _ hb _ _=>aw O (bj (hB.below hb) O Az),Dr O,fun _ _ hb _ _=>aw O (aD (hM.top.aq hb).2 O Az),fun _ _ hb _ _=>aw O (b9 (hM.top.aq hb) O Az),?_,fun _ _ _ _ _=>aw O (fv O O (Az (by exact aE Value.bool (cT (fun h=>h h8))))),Dr O,au⟩
      ·intro e1 w1 hb hp aU;refine aw O (aL (OS _ _ _ _ _ (bS.aq hb)) O ?_);rintro _ w2 ⟨rfl,av⟩;refine ao.n ?_;exact eP.dn av.below (by exact O)
      intro e1 w1 hb hp aU;refine aw O (aL (Wk _ _ _ _ _ (bS.aq hb) h7) O ?_);rintro _ w2 ⟨rfl,av⟩;subst av;refine ao.n (d0 (by exact O))
     intro u w3 gI _;have aQ:=aF.aq gI;refine eS O (Cd.fg O ?_);refine aA O (aI O (aT O (tQ ?_)));exact⟨k+1,am,(aqv O),aQ,am,hP.step pH am h7 h8⟩
    refine dU [xP (ay (Ab) 0),xS (A) (n) (c),xI ((k:Int)),xP (ay (A) ((k:Int)).toNat),xS ((rg (rs) ((k:Int))).a) ((rg (rs) ((k:Int))).n) ((rg (rs) ((k:Int))).c),xI ((((rg (rs) ((k:Int))).n:Nat):Int)),xP (ay (Ab) 0),xS (A) (n) (c),xP (ay (A) ((0:Int)).toNat),xS ((rg (rs) ((0:Int))).a) ((rg (rs) ((0:Int))).n) ((rg (rs) ((0:Int))).c),xI ((((rg (rs) ((0:Int))).n:Nat):Int)),xB (false),xB (false),xP (ay (Ab) 0),xS (A) (n) (c),xI ((k:Int)),xP (ay (A) ((k:Int)).toNat),xS ((rg (rs) ((k:Int))).a) ((rg (rs) ((k:Int))).n) ((rg (rs) ((k:Int))).c),xB (decide (kL (gl xss k))),xB (false),xB (false),xB (false),xP (ay (Ab) 0),xS (A) (n) (c),xI ((k:Int)),xP (ay (A) ((k:Int)).toNat),xS ((rg (rs) ((k:Int))).a) ((rg (rs) ((k:Int))).n) ((rg (rs) ((k:Int))).c),xB (decide (pg (gl xss k))),xB (true),xB (true)] O (eG O) ?_ ?_
    ·refine⟨fun _ _ hb _ _=>aV (hB.below hb) O Az,fun _ _ hb _ _=>bj (hB.below hb) O Az,Dr O,fun _ _ hb _ _=>aD (hM.top.aq hb).2 O Az,fun _ _ hb _ _=>b9 (hM.top.aq hb) O Az,fun _ _ _ _ _=>a8 O O Az,fun _ _ hb _ _=>aV (hB.below hb) O Az,fun _ _ hb _ _=>bj (hB.below hb) O Az,fun _ _ hb _ _=>aD (hM.top.aq hb).2 O Az,fun _ _ hb _ _=>b9 (hM.top.aq hb) O Az,fun _ _ _ _ _=>a8 O O Az,fun _ _ _ _ _=>Dk O (by exact aE Value.bool (cT am)),Dr O,fun _ _ hb _ _=>aw O (aV (hB.below hb) O Az),fun _ _ hb _ _=>aw O (bj (hB.below hb) O Az),Dr O,fun _ _ hb _ _=>aw O (aD (hM.top.aq hb).2 O Az),fun _ _ hb _ _=>aw O (b9 (hM.top.aq hb) O Az),?_,fun _ _ _ _ _=>aw O (fv O O (Az (by exact aE Value.bool (cT (fun h=>h h7))))),Dr O,Dr O,fun _ _ hb _ _=>aw O (aV (hB.below hb) O Az),fun _ _ hb _ _=>aw O (bj (hB.below hb) O Az),Dr O,fun _ _ hb _ _=>aw O (aD (hM.top.aq hb).2 O Az),fun _ _ hb _ _=>aw O (b9 (hM.top.aq hb) O Az),?_,fun _ _ _ _ _=>aw O (fv O O (Az (by exact aE Value.bool (dz h8)))),Dr O,au⟩
     ·intro e1 w1 hb hp aU;refine aw O (aL (OS _ _ _ _ _ (bS.aq hb)) O ?_);rintro _ w2 ⟨rfl,av⟩;refine ao.n ?_;exact eP.dn av.below (by exact O)
     intro e1 w1 hb hp aU;refine aw O (aL (Wk _ _ _ _ _ (bS.aq hb) h7) O ?_);rintro _ w2 ⟨rfl,av⟩;subst av;refine ao.n (d0 (by exact O))
    intro u w3 gI _;have aQ:=aF.aq gI;refine eS O (Cd.gu O ?_);refine dM O (fB (fe ?_));refine dq O ?_;exact⟨by rw [cT (fun h:bI xss=>h8 (h.2.2.1.at_ pH).2.2)],aQ.none⟩
   refine dU [xP (ay (Ab) 0),xS (A) (n) (c),xI ((k:Int)),xP (ay (A) ((k:Int)).toNat),xS ((rg (rs) ((k:Int))).a) ((rg (rs) ((k:Int))).n) ((rg (rs) ((k:Int))).c),xI ((((rg (rs) ((k:Int))).n:Nat):Int)),xP (ay (Ab) 0),xS (A) (n) (c),xP (ay (A) ((0:Int)).toNat),xS ((rg (rs) ((0:Int))).a) ((rg (rs) ((0:Int))).n) ((rg (rs) ((0:Int))).c),xI ((((rg (rs) ((0:Int))).n:Nat):Int)),xB (false),xB (false),xP (ay (Ab) 0),xS (A) (n) (c),xI ((k:Int)),xP (ay (A) ((k:Int)).toNat),xS ((rg (rs) ((k:Int))).a) ((rg (rs) ((k:Int))).n) ((rg (rs) ((k:Int))).c),xB (decide (kL (gl xss k))),xB (true),xB (true),xB (true),xU,xU,xU,xU,xU,xU,xU,xB (true)] O (eG O) ?_ ?_
   ·refine⟨fun _ _ hb _ _=>aV (hB.below hb) O Az,fun _ _ hb _ _=>bj (hB.below hb) O Az,Dr O,fun _ _ hb _ _=>aD (hM.top.aq hb).2 O Az,fun _ _ hb _ _=>b9 (hM.top.aq hb) O Az,fun _ _ _ _ _=>a8 O O Az,fun _ _ hb _ _=>aV (hB.below hb) O Az,fun _ _ hb _ _=>bj (hB.below hb) O Az,fun _ _ hb _ _=>aD (hM.top.aq hb).2 O Az,fun _ _ hb _ _=>b9 (hM.top.aq hb) O Az,fun _ _ _ _ _=>a8 O O Az,fun _ _ _ _ _=>Dk O (by exact aE Value.bool (cT am)),Dr O,fun _ _ hb _ _=>aw O (aV (hB.below hb) O Az),fun _ _ hb _ _=>aw O (bj (hB.below hb) O Az),Dr O,fun _ _ hb _ _=>aw O (aD (hM.top.aq hb).2 O Az),fun _ _ hb _ _=>aw O (b9 (hM.top.aq hb) O Az),?_,fun _ _ _ _ _=>aw O (fv O O (Az (by exact aE Value.bool (dz h7)))),Dr O,Dr O,Dr O,Dr O,Dr O,Dr O,Dr O,Dr O,Dr O,Dr O,au⟩;intro e1 w1 hb hp aU;refine aw O (aL (OS _ _ _ _ _ (bS.aq hb)) O ?_);rintro _ w2 ⟨rfl,av⟩;refine ao.n ?_;exact eP.dn av.below (by exact O)
   intro u w3 gI _;have aQ:=aF.aq gI;refine eS O (Cd.gu O ?_);refine dM O (fB (fe ?_));refine dq O ?_;exact⟨by rw [cT (fun h:bI xss=>h7 (h.2.2.1.at_ pH).2.1)],aQ.none⟩
  refine dU [xP (ay (Ab) 0),xS (A) (n) (c),xI ((k:Int)),xP (ay (A) ((k:Int)).toNat),xS ((rg (rs) ((k:Int))).a) ((rg (rs) ((k:Int))).n) ((rg (rs) ((k:Int))).c),xI ((((rg (rs) ((k:Int))).n:Nat):Int)),xP (ay (Ab) 0),xS (A) (n) (c),xP (ay (A) ((0:Int)).toNat),xS ((rg (rs) ((0:Int))).a) ((rg (rs) ((0:Int))).n) ((rg (rs) ((0:Int))).c),xI ((((rg (rs) ((0:Int))).n:Nat):Int)),xB (true),xB (true),xU,xU,xU,xU,xU,xU,xU,xB (true),xB (true),xU,xU,xU,xU,xU,xU,xU,xB (true)] O (eG O) ?_ ?_
  ·exact⟨fun _ _ hb _ _=>aV (hB.below hb) O Az,fun _ _ hb _ _=>bj (hB.below hb) O Az,Dr O,fun _ _ hb _ _=>aD (hM.top.aq hb).2 O Az,fun _ _ hb _ _=>b9 (hM.top.aq hb) O Az,fun _ _ _ _ _=>a8 O O Az,fun _ _ hb _ _=>aV (hB.below hb) O Az,fun _ _ hb _ _=>bj (hB.below hb) O Az,fun _ _ hb _ _=>aD (hM.top.aq hb).2 O Az,fun _ _ hb _ _=>b9 (hM.top.aq hb) O Az,fun _ _ _ _ _=>a8 O O Az,fun _ _ _ _ _=>Dk O (by exact aE Value.bool (dz h6)),Dr O,Dr O,Dr O,Dr O,Dr O,Dr O,Dr O,Dr O,Dr O,Dr O,Dr O,Dr O,Dr O,Dr O,Dr O,Dr O,Dr O,Dr O,au⟩
  intro u w3 gI _;have aQ:=aF.aq gI;refine eS O (Cd.gu O ?_);refine dM O (fB (fe ?_));refine dq O ?_;exact⟨by rw [cT (fun h:bI xss=>by have:=(h.2.2.1.at_ pH).1;omega)],aQ.none⟩
 have kZ:=hP.all am;have hs:=kZ.sys;have jx:∀i:Int,0<=i->i<n->(rg rs i).n=(rg rs 0).n:=fun i h0 h1=>by
  have e1:=hR.nI h0 h1;have e2:=(kZ _ (oQ h0 am)).1;omega
 refine bp O (bt (sI O ?_));refine Cd.loop (α:=Nat) (fun i=> [(1,.pointer Ab),(3,ak n),(5,ak i)]) (fun i w'=>St w w' [Bx 24 1 Ab [.slice A n c]]/\i<=n/\∀i',i'<i->∀k,k<n->i'+2<=k->∀f,f< (gl xss 0).length->Comm xss i' k f) (fun i=>n - i) 0 (aqv O) ⟨aF,bg _,fun i' dw=>by omega⟩ ?_;rintro i e w3 ⟨aQ,hi,hC⟩;refine bL O (aM _ O (fun h6=>?_) (fun h6=>?_))
 ·refine aA O (aI O (aC O ?_));refine Cd.loop (α:=Nat) (fun k=> [(1,.pointer Ab),(3,ak n),(5,ak i),(6,ak k)]) (fun k w'=>St w w' [Bx 24 1 Ab [.slice A n c]]/\i+2<=k/\∀k',k'<k->k'<n->i+2<=k'->∀f,f< (gl xss 0).length->Comm xss i k' f) (fun k=>n+1 - k) (i+2) (aqv O) ⟨aQ,br _,fun k' _ _ _=>by omega⟩ ?_;rintro k e w4 ⟨aX,nB,F3⟩;refine bL O (aM _ O (fun h7=>?_) (fun h7=>?_))
  ·have rki:=jx i am h6;have rkk:=jx k am h7;refine dA O ?_;refine Cd.loop (α:=Nat) (fun f=> [(1,.pointer Ab),(3,ak n),(5,ak i),(6,ak k),(7,ak f)]) (fun f w'=>St w w' [Bx 24 1 Ab [.slice A n c]]/\f<=(gl xss 0).length/\∀f',f'<f->Comm xss i k f') (fun f=> (gl xss 0).length - f) 0 (aqv O) ⟨aX,bg _,fun f' iD=>by omega⟩ ?_;rintro f e w5 ⟨ba,hf,F4⟩;have hM:=ba.b7 hR;have hB:=ba.rd 0 O;have gm:=hM.at_ (i:=i) am h6;have jM:=hM.at_ (i:=k) am h7;refine bh O (aV (ba.rd 0 O) O (bj (ba.rd 0 O) O (aD hM.top.2 O (b9 hM.top O ?_))));refine a8 O O (aC O ?_);refine aM _ O (fun h8=>?_) (fun h8=>?_)
   ·have hii:=(hs _ (oQ (k:=(i:Int)) am am)).2 (f:Int) am am;have Ek:=(hs _ (oQ (k:=(k:Int)) am am)).2 (f:Int) am am;refine dA O ?_
    by_cases h9:gi (gl xss k) (gi (gl xss i) f)=gi (gl xss i) (gi (gl xss k) f)
    ·by_cases fz:gi (gl xss i) f=gi (gl xss k) f
     ·
      refine dU [xP (ay (Ab) 0),xS (A) (n) (c),xI ((k:Int)),xP (ay (A) ((k:Int)).toNat),xS ((rg (rs) ((k:Int))).a) ((rg (rs) ((k:Int))).n) ((rg (rs) ((k:Int))).c),xP (ay (Ab) 0),xS (A) (n) (c),xI ((i:Int)),xP (ay (A) ((i:Int)).toNat),xS ((rg (rs) ((i:Int))).a) ((rg (rs) ((i:Int))).n) ((rg (rs) ((i:Int))).c),xI ((f:Int)),xP (ay ((rg (rs) ((i:Int))).a) ((f:Int)).toNat),xI (gi (gl xss i) ((f:Int))),xP (ay ((rg (rs) ((k:Int))).a) (gi (gl xss i) ((f:Int))).toNat),xI (gi (gl xss k) (gi (gl xss i) ((f:Int)))),xP (ay (Ab) 0),xS (A) (n) (c),xI ((i:Int)),xP (ay (A) ((i:Int)).toNat),xS ((rg (rs) ((i:Int))).a) ((rg (rs) ((i:Int))).n) ((rg (rs) ((i:Int))).c),xP (ay (Ab) 0),xS (A) (n) (c),xI ((k:Int)),xP (ay (A) ((k:Int)).toNat),xS ((rg (rs) ((k:Int))).a) ((rg (rs) ((k:Int))).n) ((rg (rs) ((k:Int))).c),xI ((f:Int)),xP (ay ((rg (rs) ((k:Int))).a) ((f:Int)).toNat),xI (gi (gl xss k) ((f:Int))),xP (ay ((rg (rs) ((i:Int))).a) (gi (gl xss k) ((f:Int))).toNat),xI (gi (gl xss i) (gi (gl xss k) ((f:Int)))),xB (false),xB (false),xP (ay (Ab) 0),xS (A) (n) (c),xI ((i:Int)),xP (ay (A) ((i:Int)).toNat),xS ((rg (rs) ((i:Int))).a) ((rg (rs) ((i:Int))).n) ((rg (rs) ((i:Int))).c),xI ((f:Int)),xP (ay ((rg (rs) ((i:Int))).a) ((f:Int)).toNat),xI (gi (gl xss i) ((f:Int))),xP (ay (Ab) 0),xS (A) (n) (c),xI ((k:Int)),xP (ay (A) ((k:Int)).toNat),xS ((rg (rs) ((k:Int))).a) ((rg (rs) ((k:Int))).n) ((rg (rs) ((k:Int))).c),xI ((f:Int)),xP (ay ((rg (rs) ((k:Int))).a) ((f:Int)).toNat),xI (gi (gl xss k) ((f:Int))),xB (true),xB (true)] O (eG O) ?_ ?_
      ·exact⟨fun _ _ hb _ _=>aV (hB.below hb) O Az,fun _ _ hb _ _=>bj (hB.below hb) O Az,Dr O,fun _ _ hb _ _=>aD (hM.top.aq hb).2 O Az,fun _ _ hb _ _=>b9 (hM.top.aq hb) O Az,fun _ _ hb _ _=>aV (hB.below hb) O Az,fun _ _ hb _ _=>bj (hB.below hb) O Az,Dr O,fun _ _ hb _ _=>aD (hM.top.aq hb).2 O Az,fun _ _ hb _ _=>b9 (hM.top.aq hb) O Az,Dr O,fun _ _ hb _ _=>aD (gm.aq hb).2 O Az,fun _ _ hb _ _=>aY (gm.aq hb) O Az,fun _ _ hb _ _=>aD (jM.aq hb).2 O Az,fun _ _ hb _ _=>aY (jM.aq hb) O Az,fun _ _ hb _ _=>aV (hB.below hb) O Az,fun _ _ hb _ _=>bj (hB.below hb) O Az,Dr O,fun _ _ hb _ _=>aD (hM.top.aq hb).2 O Az,fun _ _ hb _ _=>b9 (hM.top.aq hb) O Az,fun _ _ hb _ _=>aV (hB.below hb) O Az,fun _ _ hb _ _=>bj (hB.below hb) O Az,Dr O,fun _ _ hb _ _=>aD (hM.top.aq hb).2 O Az,fun _ _ hb _ _=>b9 (hM.top.aq hb) O Az,Dr O,fun _ _ hb _ _=>aD (jM.aq hb).2 O Az,fun _ _ hb _ _=>aY (jM.aq hb) O Az,fun _ _ hb _ _=>aD (gm.aq hb).2 O Az,fun _ _ hb _ _=>aY (gm.aq hb) O Az,fun _ _ _ _ _=>Dk O (by exact aE Value.bool (cT (fun h=>h h9))),Dr O,fun _ _ hb _ _=>aw O (aV (hB.below hb) O Az),fun _ _ hb _ _=>aw O (bj (hB.below hb) O Az),Dr O,fun _ _ hb _ _=>aw O (aD (hM.top.aq hb).2 O Az),fun _ _ hb _ _=>aw O (b9 (hM.top.aq hb) O Az),Dr O,fun _ _ hb _ _=>aw O (aD (gm.aq hb).2 O Az),fun _ _ hb _ _=>aw O (aY (gm.aq hb) O Az),fun _ _ hb _ _=>aw O (aV (hB.below hb) O Az),fun _ _ hb _ _=>aw O (bj (hB.below hb) O Az),Dr O,fun _ _ hb _ _=>aw O (aD (hM.top.aq hb).2 O Az),fun _ _ hb _ _=>aw O (b9 (hM.top.aq hb) O Az),Dr O,fun _ _ hb _ _=>aw O (aD (jM.aq hb).2 O Az),fun _ _ hb _ _=>aw O (aY (jM.aq hb) O Az),fun _ _ _ _ _=>Dk O (by exact aE Value.bool (dz fz)),Dr O,au⟩
      intro u w6 ob _;have bo:=ba.aq ob;refine eS O (Cd.gu O ?_);refine dM O (fB (fe (fB (fe (fB (fe ?_))))));refine dq O ?_;exact⟨by rw [cT (fun h:bI xss=> (h.2.2.2.1 i (by omega) k (by omega) nB f (by omega)).2 fz)],bo.none⟩
     refine dU [xP (ay (Ab) 0),xS (A) (n) (c),xI ((k:Int)),xP (ay (A) ((k:Int)).toNat),xS ((rg (rs) ((k:Int))).a) ((rg (rs) ((k:Int))).n) ((rg (rs) ((k:Int))).c),xP (ay (Ab) 0),xS (A) (n) (c),xI ((i:Int)),xP (ay (A) ((i:Int)).toNat),xS ((rg (rs) ((i:Int))).a) ((rg (rs) ((i:Int))).n) ((rg (rs) ((i:Int))).c),xI ((f:Int)),xP (ay ((rg (rs) ((i:Int))).a) ((f:Int)).toNat),xI (gi (gl xss i) ((f:Int))),xP (ay ((rg (rs) ((k:Int))).a) (gi (gl xss i) ((f:Int))).toNat),xI (gi (gl xss k) (gi (gl xss i) ((f:Int)))),xP (ay (Ab) 0),xS (A) (n) (c),xI ((i:Int)),xP (ay (A) ((i:Int)).toNat),xS ((rg (rs) ((i:Int))).a) ((rg (rs) ((i:Int))).n) ((rg (rs) ((i:Int))).c),xP (ay (Ab) 0),xS (A) (n) (c),xI ((k:Int)),xP (ay (A) ((k:Int)).toNat),xS ((rg (rs) ((k:Int))).a) ((rg (rs) ((k:Int))).n) ((rg (rs) ((k:Int))).c),xI ((f:Int)),xP (ay ((rg (rs) ((k:Int))).a) ((f:Int)).toNat),xI (gi (gl xss k) ((f:Int))),xP (ay ((rg (rs) ((i:Int))).a) (gi (gl xss k) ((f:Int))).toNat),xI (gi (gl xss i) (gi (gl xss k) ((f:Int)))),xB (false),xB (false),xP (ay (Ab) 0),xS (A) (n) (c),xI ((i:Int)),xP (ay (A) ((i:Int)).toNat),xS ((rg (rs) ((i:Int))).a) ((rg (rs) ((i:Int))).n) ((rg (rs) ((i:Int))).c),xI ((f:Int)),xP (ay ((rg (rs) ((i:Int))).a) ((f:Int)).toNat),xI (gi (gl xss i) ((f:Int))),xP (ay (Ab) 0),xS (A) (n) (c),xI ((k:Int)),xP (ay (A) ((k:Int)).toNat),xS ((rg (rs) ((k:Int))).a) ((rg (rs) ((k:Int))).n) ((rg (rs) ((k:Int))).c),xI ((f:Int)),xP (ay ((rg (rs) ((k:Int))).a) ((f:Int)).toNat),xI (gi (gl xss k) ((f:Int))),xB (false),xB (false)] O (eG O) ?_ ?_
     ·exact⟨fun _ _ hb _ _=>aV (hB.below hb) O Az,fun _ _ hb _ _=>bj (hB.below hb) O Az,Dr O,fun _ _ hb _ _=>aD (hM.top.aq hb).2 O Az,fun _ _ hb _ _=>b9 (hM.top.aq hb) O Az,fun _ _ hb _ _=>aV (hB.below hb) O Az,fun _ _ hb _ _=>bj (hB.below hb) O Az,Dr O,fun _ _ hb _ _=>aD (hM.top.aq hb).2 O Az,fun _ _ hb _ _=>b9 (hM.top.aq hb) O Az,Dr O,fun _ _ hb _ _=>aD (gm.aq hb).2 O Az,fun _ _ hb _ _=>aY (gm.aq hb) O Az,fun _ _ hb _ _=>aD (jM.aq hb).2 O Az,fun _ _ hb _ _=>aY (jM.aq hb) O Az,fun _ _ hb _ _=>aV (hB.below hb) O Az,fun _ _ hb _ _=>bj (hB.below hb) O Az,Dr O,fun _ _ hb _ _=>aD (hM.top.aq hb).2 O Az,fun _ _ hb _ _=>b9 (hM.top.aq hb) O Az,fun _ _ hb _ _=>aV (hB.below hb) O Az,fun _ _ hb _ _=>bj (hB.below hb) O Az,Dr O,fun _ _ hb _ _=>aD (hM.top.aq hb).2 O Az,fun _ _ hb _ _=>b9 (hM.top.aq hb) O Az,Dr O,fun _ _ hb _ _=>aD (jM.aq hb).2 O Az,fun _ _ hb _ _=>aY (jM.aq hb) O Az,fun _ _ hb _ _=>aD (gm.aq hb).2 O Az,fun _ _ hb _ _=>aY (gm.aq hb) O Az,fun _ _ _ _ _=>Dk O (by exact aE Value.bool (cT (fun h=>h h9))),Dr O,fun _ _ hb _ _=>aw O (aV (hB.below hb) O Az),fun _ _ hb _ _=>aw O (bj (hB.below hb) O Az),Dr O,fun _ _ hb _ _=>aw O (aD (hM.top.aq hb).2 O Az),fun _ _ hb _ _=>aw O (b9 (hM.top.aq hb) O Az),Dr O,fun _ _ hb _ _=>aw O (aD (gm.aq hb).2 O Az),fun _ _ hb _ _=>aw O (aY (gm.aq hb) O Az),fun _ _ hb _ _=>aw O (aV (hB.below hb) O Az),fun _ _ hb _ _=>aw O (bj (hB.below hb) O Az),Dr O,fun _ _ hb _ _=>aw O (aD (hM.top.aq hb).2 O Az),fun _ _ hb _ _=>aw O (b9 (hM.top.aq hb) O Az),Dr O,fun _ _ hb _ _=>aw O (aD (jM.aq hb).2 O Az),fun _ _ hb _ _=>aw O (aY (jM.aq hb) O Az),fun _ _ _ _ _=>Dk O (by exact aE Value.bool (cT fz)),Dr O,au⟩
     intro u w6 ob _;have bo:=ba.aq ob;refine eS O (Cd.fg O ?_);refine aA O (aI O (aT O (tQ ?_)));refine⟨f+1,am,(aqv O),bo,am,fun f' iD=>?_⟩
     by_cases ef:f'=f
     ·subst ef;exact⟨h9,fz⟩
     exact F4 f' am
    refine dU [xP (ay (Ab) 0),xS (A) (n) (c),xI ((k:Int)),xP (ay (A) ((k:Int)).toNat),xS ((rg (rs) ((k:Int))).a) ((rg (rs) ((k:Int))).n) ((rg (rs) ((k:Int))).c),xP (ay (Ab) 0),xS (A) (n) (c),xI ((i:Int)),xP (ay (A) ((i:Int)).toNat),xS ((rg (rs) ((i:Int))).a) ((rg (rs) ((i:Int))).n) ((rg (rs) ((i:Int))).c),xI ((f:Int)),xP (ay ((rg (rs) ((i:Int))).a) ((f:Int)).toNat),xI (gi (gl xss i) ((f:Int))),xP (ay ((rg (rs) ((k:Int))).a) (gi (gl xss i) ((f:Int))).toNat),xI (gi (gl xss k) (gi (gl xss i) ((f:Int)))),xP (ay (Ab) 0),xS (A) (n) (c),xI ((i:Int)),xP (ay (A) ((i:Int)).toNat),xS ((rg (rs) ((i:Int))).a) ((rg (rs) ((i:Int))).n) ((rg (rs) ((i:Int))).c),xP (ay (Ab) 0),xS (A) (n) (c),xI ((k:Int)),xP (ay (A) ((k:Int)).toNat),xS ((rg (rs) ((k:Int))).a) ((rg (rs) ((k:Int))).n) ((rg (rs) ((k:Int))).c),xI ((f:Int)),xP (ay ((rg (rs) ((k:Int))).a) ((f:Int)).toNat),xI (gi (gl xss k) ((f:Int))),xP (ay ((rg (rs) ((i:Int))).a) (gi (gl xss k) ((f:Int))).toNat),xI (gi (gl xss i) (gi (gl xss k) ((f:Int)))),xB (true),xB (true),xU,xU,xU,xU,xU,xU,xU,xU,xU,xU,xU,xU,xU,xU,xU,xU,xU,xB (true)] O (eG O) ?_ ?_
    ·exact⟨fun _ _ hb _ _=>aV (hB.below hb) O Az,fun _ _ hb _ _=>bj (hB.below hb) O Az,Dr O,fun _ _ hb _ _=>aD (hM.top.aq hb).2 O Az,fun _ _ hb _ _=>b9 (hM.top.aq hb) O Az,fun _ _ hb _ _=>aV (hB.below hb) O Az,fun _ _ hb _ _=>bj (hB.below hb) O Az,Dr O,fun _ _ hb _ _=>aD (hM.top.aq hb).2 O Az,fun _ _ hb _ _=>b9 (hM.top.aq hb) O Az,Dr O,fun _ _ hb _ _=>aD (gm.aq hb).2 O Az,fun _ _ hb _ _=>aY (gm.aq hb) O Az,fun _ _ hb _ _=>aD (jM.aq hb).2 O Az,fun _ _ hb _ _=>aY (jM.aq hb) O Az,fun _ _ hb _ _=>aV (hB.below hb) O Az,fun _ _ hb _ _=>bj (hB.below hb) O Az,Dr O,fun _ _ hb _ _=>aD (hM.top.aq hb).2 O Az,fun _ _ hb _ _=>b9 (hM.top.aq hb) O Az,fun _ _ hb _ _=>aV (hB.below hb) O Az,fun _ _ hb _ _=>bj (hB.below hb) O Az,Dr O,fun _ _ hb _ _=>aD (hM.top.aq hb).2 O Az,fun _ _ hb _ _=>b9 (hM.top.aq hb) O Az,Dr O,fun _ _ hb _ _=>aD (jM.aq hb).2 O Az,fun _ _ hb _ _=>aY (jM.aq hb) O Az,fun _ _ hb _ _=>aD (gm.aq hb).2 O Az,fun _ _ hb _ _=>aY (gm.aq hb) O Az,fun _ _ _ _ _=>Dk O (by exact aE Value.bool (dz h9)),Dr O,Dr O,Dr O,Dr O,Dr O,Dr O,Dr O,Dr O,Dr O,Dr O,Dr O,Dr O,Dr O,Dr O,Dr O,Dr O,Dr O,Dr O,Dr O,au⟩
    intro u w6 ob _;have bo:=ba.aq ob;refine eS O (Cd.gu O ?_);refine dM O (fB (fe (fB (fe (fB (fe ?_))))));refine dq O ?_;exact⟨by rw [cT (fun h:bI xss=>h9 (h.2.2.2.1 i (by omega) k (by omega) nB f (by omega)).1)],bo.none⟩
   refine bp O (bt (cS O (aI O (aT O (tQ ?_)))));refine⟨k+1,am,(aqv O),ba,am,fun k' eI jb uc f' iD=>?_⟩
   by_cases ek:k'=k
   ·subst ek;exact F4 f' am
   exact F3 k' am jb uc f' iD
  refine bp O (bt (cS O (aI O (aT O (tQ ?_)))));refine⟨i+1,am,(aqv O),aX,am,fun i' dw k' eI uc f' iD=>?_⟩
  by_cases ei:i'=i
  ·subst ei;exact F3 k' am eI uc f' iD
  exact hC i' am k' eI uc f' iD
 have hM:=aQ.b7 hR;have hB:=aQ.rd 0 O;refine bp O (bt (sI O ?_));refine dU [xP (ay (Ab) 0),xS (A) (n) (c),.pr (fun v _=>∃A' c',v= .slice A' (cC (gl xss 0).length xss 0).length c'),xI (((cC (gl xss 0).length xss 0).length:Int)),xP (ay (Ab) 0),xS (A) (n) (c),xP (ay (A) ((0:Int)).toNat),xS ((rg (rs) ((0:Int))).a) ((rg (rs) ((0:Int))).n) ((rg (rs) ((0:Int))).c),xI ((((rg (rs) ((0:Int))).n:Nat):Int)),xB (decide ((((cC (gl xss 0).length xss 0).length:Int))=((((rg (rs) ((0:Int))).n:Nat):Int)))),xB (decide ((((cC (gl xss 0).length xss 0).length:Int))=((((rg (rs) ((0:Int))).n:Nat):Int))))] rfl (lx (lx (cH.2 ⟨Yd.cJ (fun _ _ _ h _=>h),(lx (lx (lx (lx (lx (lx (lx (lx (fun _ h=>by cases h)))))))))⟩))) ?_ ?_
 ·refine⟨fun _ _ hb _ _=>aV (hB.below hb) O Az,fun _ _ hb _ _=>bj (hB.below hb) O Az,?_,?_,fun _ _ hb _ _=>aV (hB.below hb) O Az,fun _ _ hb _ _=>bj (hB.below hb) O Az,fun _ _ hb _ _=>aD (hM.top.aq hb).2 O Az,fun _ _ hb _ _=>b9 (hM.top.aq hb) O Az,fun _ _ _ _ _=>a8 O O Az,Dr O,Dr O,au⟩
  ·intro e1 w1 hb hp aU;refine aL (OR _ _ _ _ _ (gl xss 0).length 0 _ (hM.aq hb) hn hs am am am) O ?_;rintro _ w2 ⟨A',c',rfl,av⟩;exact ao.n (eP.dn av.below ⟨A',c',O⟩)
  intro e1 w1 hb hp aU;obtain⟨A',c',MJ⟩:=(hp 2 an rfl _ _ rfl rfl);refine a8 (by exact MJ) O Az
 intro u w6 ob _;have bo:=aQ.aq ob;refine zz O (dq O ?_);refine⟨?_,bo.none⟩
 congr 1
 refine ju.2 ⟨fun h=> ⟨am,am,kZ,fun i' dw k' eI uc f' iD=>hC i' am k' am uc f' iD,am⟩,fun h=>by have:=h.2.2.2.2;omega⟩
end
section
def cell(M:ah)(i:Nat)(f:Int):Int:=gi (gl M i) f
def X6(M:ah)(i f:Nat)(v:Int):ah:=M.set i ((gl M i).set f v)
def put(M:ah)(i f g:Nat):ah:=X6 (X6 M i f g) i g f
section
variable {n F:Nat} {M:ah}
theorem ads{i k:Nat}{p:ai}(hi:i<M.length):gl (M.set i p) k=if i=k then p else gl M k:=by
 simp only [gl,jq,dm,mR]
 by_cases e:i=k
 ·subst e;simp [hi]
 simp [e]
end
section
variable {n F:Nat} {M:ah} {met at_:Nat}
def grow(n F:Nat)(ok:ah->Nat->Nat->Bool)(fin:ah->Bool):Nat->Nat->Nat->ah->List (ah)
 | 0,_,_,_=> []
 | k+1,at_,met,M=>
  if at_=met*n then(if met=F/\fin M=true then [M]else [])
  else if 0<=cell M (at_%n) (at_ / n:Nat)then grow n F ok fin k (at_+1) met M
  else(List.range' (at_ / n+1) (min met (F - 1) - at_ / n)).flatMap fun g=>
   if 0<=cell M (at_%n) (g:Nat)then []else if ok (put M (at_%n) (at_ / n) g) (at_%n) (at_ / n)=true then grow n F ok fin k (at_+1) (max met (g+1)) (put M (at_%n) (at_ / n) g)else []
end
def kn(M:ah)(i:Nat)(x:Int):Int:=if x<0 then -1 else cell M i x
def K7(M:ah)(i k:Nat)(f:Int):Prop:=(0<=cell M i f->cell M i f≠cell M k f)/\(0<=kn M k (cell M i f)->0<=kn M i (cell M k f)->kn M k (cell M i f)=kn M i (cell M k f))
instance (M:ah)(i k:Nat)(f:Int):Decidable (K7 M i k f):=by unfold K7;exact inferInstance
def QX(M:ah)(f:Int):Prop:=∀i,i<M.length->∀k,k<M.length->i+2<=k->K7 M i k f
instance (M:ah)(f:Int):Decidable (QX M f):=by unfold QX;exact inferInstance
def QU(M:ah)(i k:Nat)(f g:Int):Prop:=cell M k f=g\/(0<=cell M k f/\0<=cell M k g/\0<=cell M i (cell M k f)/\cell M i (cell M k f)≠cell M k g)\/(0<=cell M k f/\0<=cell M k g/\0<=cell M i (cell M k g)/\cell M i (cell M k g)≠cell M k f)
instance (M:ah)(i k:Nat)(f g:Int):Decidable (QU M i k f g):=by unfold QU;exact inferInstance
section
variable {n F:Nat} {L M:ah}
def forms(n F:Nat)(k at_ met:Nat)(M:ah):List (ah):=(grow n F (fun _ _ _=>true) (fun _=>true) k at_ met M).filter fun L=>decide (bI L)
end
end
section
open Go.RowKit
def xN(init:ai)(ix v:Nat->Int):Nat->ai
 | 0=>init
 | k+1=> (xN init ix v k).set (ix k).toNat (v k)
theorem Qj(init:ai)(ix v:Nat->Int):∀k,(xN init ix v k).length=init.length
 | 0=>rfl
 | k+1=>by simp [xN,Qj init ix v k]
theorem X0{init:ai}{ix v:Nat->Int}{N:Nat}(hN:init.length=N):∀k,(∀j,j<k->0<=ix j/\ix j<N)->(∀i j,i<k->j<k->ix i=ix j->i=j)->∀j,j<k->gi (xN init ix v k) (ix j)=v j
 | 0,_,_,j,hj=>by omega
 | k+1,hr,hi,j,hj=>by
  have h1:=hr k am;have h2:=hr j hj;show gi ((xN init ix v k).set (ix k).toNat (v k)) (ix j)=v j;rw [mD h1.1 (by rw [Qj,hN];exact h1.2) h2.1]
  by_cases e:ix k=ix j
  ·rw [aB e,hi k j (by omega) hj e]
  ·rw [az e];have:j≠k:=fun vc=>e (by rw [vc])
   exact X0 hN k (fun j hj=>hr j am) (fun i j h h'=>hi i j am am) j am
def Bi(m:Nat):ai:=(List.range m).map fun(k:Nat)=> (k:Int)
theorem X4(m:Nat):(Bi m).length=m:=by simp [Bi]
theorem X5{m:Nat}{x:Int}:x∈Bi m↔0<=x/\x<m:=by
 simp only [Bi,dF,ig];exact⟨fun⟨k,hk,e⟩=>by omega,fun h=> ⟨x.toNat,am,am⟩⟩
def je(N:Nat)(o:ai):ai:=xN (List.replicate N 0) (fun k=>gi o k) (fun k=> (k:Int)) o.length
theorem RG(N:Nat)(o:ai):(je N o).length=N:=by simp [je,Qj]
structure uL(N:Nat)(o:ai):Prop where
 len:o.length=N
 nodup:o.Nodup
 range:∀x∈o,0<=x/\x< (N:Int)
section
variable {N:Nat} {o:ai}
theorem uL.eE(h:uL N o){k:Nat}(hk:k<N):0<=gi o k/\gi o k<N:=h.range _ (gi_in (by rw [h.len];exact hk))
theorem uL.inj(h:uL N o){i j:Nat}(hi:i<N)(hj:j<N)(e:gi o i=gi o j):i=j:=by
 rw [bV (by rw [h.len];exact hi),bV (by rw [h.len];exact hj)]at e;exact(List.getElem_inj h.nodup).1 e
theorem uL.back(h:uL N o){k:Nat}(hk:k<N):gi (je N o) (gi o k)=k:=
 X0 (N:=N) (by simp) o.length (fun j hj=>h.eE (by rw [<-h.len];exact hj)) (fun i j hi hj e=>h.inj (by rw [<-h.len];exact hi) (by rw [<-h.len];exact hj) e) k (by rw [h.len];exact hk)
theorem uL.JI(h:uL N o){x:Int}(h0:0<=x)(h1:x<N):∃k:Nat,k<N/\gi o k=x:=by
 apply qD;intro bP;have hx:x∉o:=fun hm=>by
  obtain⟨k,hk,e⟩:=gC.1 hm;exact bP ⟨k,by rw [<-h.len];exact hk,by rw [bV hk];exact e⟩
 have:=q8 (N:=N) (l:=x::o) (mf.2 ⟨hx,h.nodup⟩) (fun y hy=>by
  rcases iX.1 hy with rfl | hy
  ·exact⟨h0,h1⟩
  exact h.range y hy)
 rw [List.length_cons,h.len]at this;omega
theorem uL.x6(h:uL N o){x:Int}(h0:0<=x)(h1:x<N):∃k:Nat,k<N/\gi o k=x/\gi (je N o) x=k:=by
 obtain⟨k,hk,e⟩:=h.JI h0 h1;exact⟨k,hk,e,by rw [<-e];exact h.back hk⟩
end
def kf(o b mv:ai):ai:=o.map fun x=>gi b (gi mv x)
def ew(N:Nat)(xss:ah)(f:Int):ah:=xss.map fun mv=>kf (cC N xss f) (je N (cC N xss f)) mv
theorem IK(N:Nat)(xss:ah)(f:Int):(ew N xss f).length=xss.length:=by simp [ew]
def nS(a b:Int):Int:=if a<b then -1 else if b<a then 1 else 0
def jl:ai->ai->Int
 | [],[]=>0
 | [],_::_=> -1
 | _::_,[]=>1
 | a::l,b::r=>if nS a b=0 then jl l r else nS a b
def Wz:ah->ah->Int
 | [],[]=>0
 | [],_::_=> -1
 | _::_,[]=>1
 | a::l,b::r=>if jl a b=0 then Wz l r else jl a b
theorem DH{a b:Int}:nS a b=0↔a=b:=by unfold nS;by_cases h:a<b<;>by_cases h':b<a<;>simp [h,h']<;>omega
theorem Im{a b:Int}:nS a b<0↔a<b:=by unfold nS;by_cases h:a<b<;>by_cases h':b<a<;>simp [h,h']<;>omega
theorem abz(a b:Int):nS b a= - nS a b:=by unfold nS;split<;>split<;>omega
theorem O2:∀ {a b:ai},jl a b=0↔a=b
 | [],[]=>by simp [jl]
 | [],_::_=>by simp [jl]
 | _::_,[]=>by simp [jl]
 | a::l,b::r=>by
  simp only [jl]
  split
  ·rename_i h;rw [O2,DH.1 h];simp
  ·rename_i h;constructor
   ·intro h';exact absurd h' h
   ·intro h';exact absurd (DH.2 (List.cons.inj h').1) h
theorem O1:∀(a b:ai),jl b a= - jl a b
 | [],[]=>rfl
 | [],_::_=>rfl
 | _::_,[]=>rfl
 | a::l,b::r=>by
  simp only [jl];rw [abz a b,O1 l r]
  by_cases h:nS a b=0
  ·rw [aB h,aB (by omega)]
  ·rw [az h,az (by omega)]
theorem WA:∀ {a b c:ai},jl a b<0->jl b c<0->jl a c<0
 | [],[],_,h,_=>by simp [jl]at h
 | [],_::_,[],_,h=>by simp [jl]at h
 | [],_::_,_::_,_,_=>by simp [jl]
 | _::_,[],_,h,_=>by simp [jl]at h
 | _::_,_::_,[],_,h=>by simp [jl]at h
 | a::l,b::r,c::s,h,h'=>by
  simp only [jl]at h h'|-
  by_cases e1:nS a b=0
  ·have:=DH.1 e1;subst this;rw [aB e1]at h
   by_cases e2:nS a c=0
   ·rw [aB e2]at h'|-;exact WA h h'
   ·rw [az e2]at h'|-;exact h'
  ·rw [az e1]at h;have eA:=Im.1 h
   by_cases e2:nS b c=0
   ·have:=DH.1 e2;subst this;rw [az e1];exact h
   ·rw [az e2]at h';have yz:=Im.1 h';have Jn:nS a c<0:=Im.2 am;rw [az (by omega)];exact Jn
section
variable {n F:Nat}
end
theorem al4{rs:List aO}{l m:Nat}{j:Nat}(hj:j<m):rg ((rs.drop l).take m) j=rg rs ((l+j:Nat):Int):=by
 have e:(((l+j:Nat):Int)).toNat=l+j:=by omega
 rw [rg,rg,e];simp [dm,rz,hj]
theorem yZ(A:aj)(n c:Nat)(rs:List aO)(xss:ah)(w:aa)(hR:bF w A n rs xss)(hn:n<=c)(hc:c<=9223372036854775807):
 aJ prog 55 [.agg #[.slice A n c]] w (fun v w'=>v= .bool (decide (bI xss))/\St w w' []):=by
 have iU:=hR.len;have r0:0<n->(gl xss 0).length=(rg rs 0).n:=fun h=>hR.nI am am
 refine bC func55 O ntmps55 O (df O) (bh O (jH (St.refl w) O O ?_));intro Ab w1 hS;refine ar O (aL (ER _ _ _ _ _ _ (hS.rd 0 O) O) O ?_);rintro _ _ ⟨rfl,rfl⟩;refine aL (zv _ _ _ _) O ?_;rintro _ _ ⟨rfl,rfl⟩
 first | refine fv rfl rfl ?_ | refine gz rfl rfl ?_
 refine ar O (dI 15 O (fun h1=>?_) (fun h1=>?_))
 ·refine aK O (aK O (aK O (aC O ?_)));refine Cd.gu O (dM O (dq O ?_));exact⟨by rw [cT (fun h:bI xss=>by have:=h.1;omega)],hS.none⟩
 have hM:=hS.b7 hR;have r0:=r0 am;refine aw O (aL (uU _ _ _ _ _ _ _ _ (hS.rd 0 O) O hM am) O ?_);rintro _ _ ⟨rfl,rfl⟩;refine aw O (aL (zv _ _ _ _) O ?_);rintro _ _ ⟨rfl,rfl⟩;refine aw O ?_
 first | refine fv rfl rfl ?_ | refine gz rfl rfl ?_
 refine aC O (aM _ O (fun h3=>?_) (fun h3=>?_))
 ·refine dM O (dq O ?_);exact⟨by rw [cT (fun h:bI xss=>by have:=h.2.1;omega)],hS.none⟩
 refine aA O (aV (hS.rd 0 O) O (bj (hS.rd 0 O) O ?_));refine a8 O O (aC O ?_);refine Cd.loop (α:=Nat) (fun k=> [(1,.pointer Ab),(21,.slice A n c),(22,ak n),(23,ak k)]) (fun k w'=>St w w' [Bx 24 1 Ab [.slice A n c]]/\k<=n/\Part xss k) (fun k=>n - k) 0 (aqv O) ⟨hS,bg _,fun p hp=>by simp at hp⟩ ?_;rintro k e w2 ⟨aF,hk,hP⟩;have hM:=aF.b7 hR;refine bL O (aM _ O (fun h5=>?_) (fun h5=>?_))
 ·have pH:k<xss.length:=by omega
  have rk:=hR.nI (k:=(k:Int)) am am;have bS:=hM.at_ (i:=k) am h5;refine aA O (aqj hM.top.2 O O O am h5 (b9 hM.top O (ar O (aL (ahq _ _ _ _ _ bS) O ?_))));rintro _ w3 ⟨rfl,av⟩;have aQ:=aF.aq av.below;have hM:=aQ.b7 hR
  first | refine fv rfl rfl ?_ | refine gz rfl rfl ?_
  refine ar O (dI 30 O (fun h6=>?_) (fun h6=>?_))
  ·refine aK O (aK O (aK O (aK O (aC O ?_))));refine Cd.gu O (dM O (fB (fe ?_)));refine dq O ?_;exact⟨by rw [cT (fun h:bI xss=>h6 ⟨(h.2.2.1.at_ pH).2.1,(h.2.2.1.at_ pH).2.2⟩)],aQ.none⟩
  have h6:=jR.1 h6;refine aw O (ar O (aw O ?_));refine aL (xO _ _ _ _) O ?_;rintro _ _ ⟨rfl,rfl⟩;refine aw O (aL (uU _ _ _ _ _ _ _ _ (aQ.rd 0 O) O hM am) O ?_);rintro _ _ ⟨rfl,rfl⟩;refine aw O (aC O ?_);refine aM _ O (fun h7=>?_) (fun h7=>?_)
  ·refine dM O (fB (fe ?_));refine dq O ?_;exact⟨by rw [cT (fun h:bI xss=>h7 (by have:=(h.2.2.1.at_ pH).1;omega))],aQ.none⟩
  refine aA O (aI O (aT O (tQ ?_)));exact⟨k+1,am,(aqv O),aQ,am,hP.step pH am h6.1 h6.2⟩
 have kZ:=hP.all am;have hs:=kZ.sys;have jx:∀i:Int,0<=i->i<n->(rg rs i).n=(rg rs 0).n:=fun i h0 h1=>by
  have e1:=hR.nI h0 h1;have e2:=(kZ _ (oQ h0 am)).1;omega
 refine bp O (bt (cS O ?_));refine aV (aF.rd 0 O) O (bj (aF.rd 0 O) O ?_);refine a8 O O (aC O ?_);refine Cd.loop (α:=Nat) (fun i=> [(1,.pointer Ab),(38,.slice A n c),(39,ak n),(40,ak i)]) (fun i w'=>St w w' [Bx 24 1 Ab [.slice A n c]]/\i<=n/\∀i',i'<i->∀k,k<n->i'+2<=k->∀f,f< (gl xss 0).length->Comm xss i' k f) (fun i=>n - i) 0 (aqv O) ⟨aF,bg _,fun i' dw=>by omega⟩ ?_;rintro i e w3 ⟨aQ,hi,hC⟩;have hM:=aQ.b7 hR;refine bL O (aM _ O (fun h6=>?_) (fun h6=>?_))
 ·refine aA O (aqj hM.top.2 O O O am h6 (b9 hM.top O (ar O (aV (aQ.rd 0 O) O (bj (aQ.rd 0 O) O ?_)))));refine ar O (aI O ?_);refine aV (aQ.rd 0 O) O (bj (aQ.rd 0 O) O (a8 O O (Z4 O O O ?_)));obtain⟨l,hl,nC,pI⟩:∃l:Nat,min ((i:Int)+2) (n:Int)=(l:Int)/\l<=n/\(l=i+2\/(l=n/\n<=i+2)):=⟨min (i+2) n,am,am,am⟩;rw [hl];refine Fo O O O am ?_;rw [jq];refine a8 O O (aC O ?_);refine Cd.loop (α:=Nat) (fun j=> [(1,.pointer Ab),(38,.slice A n c),(39,ak n),(40,ak i),(6,.slice (rg rs i).a (rg rs i).n (rg rs i).c),(53,.slice (cutAt A c l) (n - l) (c - l)),(54,ak ((n - l:Nat):Int)),(55,ak j)]) (fun j w'=>St w w' [Bx 24 1 Ab [.slice A n c]]/\j<=n - l/\∀k',k'<l+j->k'<n->i+2<=k'->∀f,f< (gl xss 0).length->Comm xss i k' f) (fun j=>n - l - j) 0 (aqv O) ⟨aQ,bg _,fun k' h1 _ _=>by omega⟩ ?_;rintro j e w4 ⟨aX,hj,F3⟩;have hM:=aX.b7 hR;have uZ:=hM.top.cut (c:=c) nC (br n) hn;refine bL O (aM _ O (fun h7=>?_) (fun h7=>?_))
  ·have mn:j<n - l:=by omega
   have hk:l+j<n:=by omega
   have nB:i+2<=l+j:=by omega
   refine aA O (aqj uZ.2 O O O am h7 (b9 uZ O ?_));rw [al4 mn];generalize Ei:l+j=k at hk nB;have rki:=jx i am h6;have rkk:=jx k am am;refine ar O (aL (uU _ _ _ _ _ _ _ _ (aX.rd 0 O) O hM am) O ?_);rintro _ w4 ⟨rfl,rfl⟩;refine aC O ?_;refine Cd.loop (α:=Nat) (fun f=> [(1,.pointer Ab),(38,.slice A n c),(39,ak n),(40,ak i),(6,.slice (rg rs i).a (rg rs i).n (rg rs i).c),(53,.slice (cutAt A c l) (n - l) (c - l)),(54,ak ((n - l:Nat):Int)),(55,ak j),(8,.slice (rg rs k).a (rg rs k).n (rg rs k).c),(59,ak ((rg rs 0).n:Int)),(60,ak f)]) (fun f w'=>St w w' [Bx 24 1 Ab [.slice A n c]]/\f<=(gl xss 0).length/\∀f',f'<f->Comm xss i k f') (fun f=> (gl xss 0).length - f) 0 (aqv O) ⟨aX,bg _,fun f' iD=>by omega⟩ ?_;rintro f e w5 ⟨ba,hf,F4⟩;have hM:=ba.b7 hR;have gm:=hM.at_ (i:=i) am h6;have jM:=hM.at_ (i:=k) am am;refine bL O (aM _ O (fun h8=>?_) (fun h8=>?_))
   ·have hii:=(hs _ (oQ (k:=(i:Int)) am am)).2 (f:Int) am am;have Ek:=(hs _ (oQ (k:=(k:Int)) am am)).2 (f:Int) am am;refine dA O ?_
    by_cases fz:gi (gl xss i) f=gi (gl xss k) f
    ·
     refine dU [xS ((rg rs i).a) ((rg rs i).n) ((rg rs i).c),xI ((f:Int)),xP (ay ((rg rs i).a) ((f:Int)).toNat),xI (gi (gl xss i) ((f:Int))),xS ((rg rs k).a) ((rg rs k).n) ((rg rs k).c),xI ((f:Int)),xP (ay ((rg rs k).a) ((f:Int)).toNat),xI (gi (gl xss k) ((f:Int))),xB (true),xB (true),xU,xU,xU,xU,xU,xU,xU,xU,xU,xU,xU,xU,xU,xU,xU,xB (true)] O (eG O) ?_ ?_
     ·exact⟨Dr O,Dr O,fun _ _ hb _ _=>aD (gm.aq hb).2 O Az,fun _ _ hb _ _=>aY (gm.aq hb) O Az,Dr O,Dr O,fun _ _ hb _ _=>aD (jM.aq hb).2 O Az,fun _ _ hb _ _=>aY (jM.aq hb) O Az,fun _ _ _ _ _=>Dk O (by exact aE Value.bool (dz fz)),Dr O,Dr O,Dr O,Dr O,Dr O,Dr O,Dr O,Dr O,Dr O,Dr O,Dr O,Dr O,Dr O,Dr O,Dr O,Dr O,Dr O,au⟩
     intro u w6 ob _;have bo:=ba.aq ob;refine eS O (Cd.gu O ?_);refine dM O (fB (fe (fB (fe (fB (fe ?_))))));refine dq O ?_;exact⟨by rw [cT (fun h:bI xss=> (h.2.2.2.1 i (by omega) k (by omega) nB f (by omega)).2 fz)],bo.none⟩
    by_cases h9:gi (gl xss k) (gi (gl xss i) f)=gi (gl xss i) (gi (gl xss k) f)
    ·refine dU [xS ((rg rs i).a) ((rg rs i).n) ((rg rs i).c),xI ((f:Int)),xP (ay ((rg rs i).a) ((f:Int)).toNat),xI (gi (gl xss i) ((f:Int))),xS ((rg rs k).a) ((rg rs k).n) ((rg rs k).c),xI ((f:Int)),xP (ay ((rg rs k).a) ((f:Int)).toNat),xI (gi (gl xss k) ((f:Int))),xB (false),xB (false),xS ((rg rs k).a) ((rg rs k).n) ((rg rs k).c),xS ((rg rs i).a) ((rg rs i).n) ((rg rs i).c),xI ((f:Int)),xP (ay ((rg rs i).a) ((f:Int)).toNat),xI (gi (gl xss i) ((f:Int))),xP (ay ((rg rs k).a) (gi (gl xss i) ((f:Int))).toNat),xI (gi (gl xss k) (gi (gl xss i) ((f:Int)))),xS ((rg rs i).a) ((rg rs i).n) ((rg rs i).c),xS ((rg rs k).a) ((rg rs k).n) ((rg rs k).c),xI ((f:Int)),xP (ay ((rg rs k).a) ((f:Int)).toNat),xI (gi (gl xss k) ((f:Int))),xP (ay ((rg rs i).a) (gi (gl xss k) ((f:Int))).toNat),xI (gi (gl xss i) (gi (gl xss k) ((f:Int)))),xB (false),xB (false)] O (eG O) ?_ ?_
     ·exact⟨Dr O,Dr O,fun _ _ hb _ _=>aD (gm.aq hb).2 O Az,fun _ _ hb _ _=>aY (gm.aq hb) O Az,Dr O,Dr O,fun _ _ hb _ _=>aD (jM.aq hb).2 O Az,fun _ _ hb _ _=>aY (jM.aq hb) O Az,fun _ _ _ _ _=>Dk O (by exact aE Value.bool (cT fz)),Dr O,Dr O,Dr O,Dr O,fun _ _ hb _ _=>aw O (aD (gm.aq hb).2 O Az),fun _ _ hb _ _=>aw O (aY (gm.aq hb) O Az),fun _ _ hb _ _=>aw O (aD (jM.aq hb).2 O Az),fun _ _ hb _ _=>aw O (aY (jM.aq hb) O Az),Dr O,Dr O,Dr O,fun _ _ hb _ _=>aw O (aD (jM.aq hb).2 O Az),fun _ _ hb _ _=>aw O (aY (jM.aq hb) O Az),fun _ _ hb _ _=>aw O (aD (gm.aq hb).2 O Az),fun _ _ hb _ _=>aw O (aY (gm.aq hb) O Az),fun _ _ _ _ _=>Dk O (by exact aE Value.bool (cT (fun h=>h h9))),Dr O,au⟩
     intro u w6 ob _;have bo:=ba.aq ob;refine eS O (Cd.fg O ?_);refine aA O (aI O (aT O (tQ ?_)));refine⟨f+1,am,(aqv O),bo,am,fun f' iD=>?_⟩
     by_cases ef:f'=f
     ·subst ef;exact⟨h9,fz⟩
     exact F4 f' am
    refine dU [xS ((rg rs i).a) ((rg rs i).n) ((rg rs i).c),xI ((f:Int)),xP (ay ((rg rs i).a) ((f:Int)).toNat),xI (gi (gl xss i) ((f:Int))),xS ((rg rs k).a) ((rg rs k).n) ((rg rs k).c),xI ((f:Int)),xP (ay ((rg rs k).a) ((f:Int)).toNat),xI (gi (gl xss k) ((f:Int))),xB (false),xB (false),xS ((rg rs k).a) ((rg rs k).n) ((rg rs k).c),xS ((rg rs i).a) ((rg rs i).n) ((rg rs i).c),xI ((f:Int)),xP (ay ((rg rs i).a) ((f:Int)).toNat),xI (gi (gl xss i) ((f:Int))),xP (ay ((rg rs k).a) (gi (gl xss i) ((f:Int))).toNat),xI (gi (gl xss k) (gi (gl xss i) ((f:Int)))),xS ((rg rs i).a) ((rg rs i).n) ((rg rs i).c),xS ((rg rs k).a) ((rg rs k).n) ((rg rs k).c),xI ((f:Int)),xP (ay ((rg rs k).a) ((f:Int)).toNat),xI (gi (gl xss k) ((f:Int))),xP (ay ((rg rs i).a) (gi (gl xss k) ((f:Int))).toNat),xI (gi (gl xss i) (gi (gl xss k) ((f:Int)))),xB (true),xB (true)] O (eG O) ?_ ?_
    ·exact⟨Dr O,Dr O,fun _ _ hb _ _=>aD (gm.aq hb).2 O Az,fun _ _ hb _ _=>aY (gm.aq hb) O Az,Dr O,Dr O,fun _ _ hb _ _=>aD (jM.aq hb).2 O Az,fun _ _ hb _ _=>aY (jM.aq hb) O Az,fun _ _ _ _ _=>Dk O (by exact aE Value.bool (cT fz)),Dr O,Dr O,Dr O,Dr O,fun _ _ hb _ _=>aw O (aD (gm.aq hb).2 O Az),fun _ _ hb _ _=>aw O (aY (gm.aq hb) O Az),fun _ _ hb _ _=>aw O (aD (jM.aq hb).2 O Az),fun _ _ hb _ _=>aw O (aY (jM.aq hb) O Az),Dr O,Dr O,Dr O,fun _ _ hb _ _=>aw O (aD (jM.aq hb).2 O Az),fun _ _ hb _ _=>aw O (aY (jM.aq hb) O Az),fun _ _ hb _ _=>aw O (aD (gm.aq hb).2 O Az),fun _ _ hb _ _=>aw O (aY (gm.aq hb) O Az),fun _ _ _ _ _=>Dk O (by exact aE Value.bool (dz h9)),Dr O,au⟩
    intro u w6 ob _;have bo:=ba.aq ob;refine eS O (Cd.gu O ?_);refine dM O (fB (fe (fB (fe (fB (fe ?_))))));refine dq O ?_;exact⟨by rw [cT (fun h:bI xss=>h9 (h.2.2.2.1 i (by omega) k (by omega) nB f (by omega)).1)],bo.none⟩
   refine bp O (bt (cS O (aI O (aT O (tQ ?_)))));refine⟨j+1,am,(aqv O),ba,am,fun k' eI jb uc f' iD=>?_⟩
   by_cases ek:k'=k
   ·subst ek;exact F4 f' am
   exact F3 k' am jb uc f' iD
  refine bp O (bt (cS O (aI O (aT O (tQ ?_)))));refine⟨i+1,am,(aqv O),aX,am,fun i' dw k' eI uc f' iD=>?_⟩
  by_cases ei:i'=i
  ·subst ei;exact F3 k' am eI uc f' iD
  exact hC i' am k' eI uc f' iD
 have hB:=aQ.rd 0 O;refine bp O (bt (sI O ?_));refine dU [xI (((rg rs 0).n:Int)),xP (ay (Ab) 0),xS (A) (n) (c),.pr (fun v _=>∃A',v= .tuple #[.slice A' (gl xss 0).length (gl xss 0).length,ak (bw (gl xss 0).length xss (gl xss 0).length).2]),.pr (fun v _=>∃A',v= .tuple #[.slice A' (gl xss 0).length (gl xss 0).length,ak (bw (gl xss 0).length xss (gl xss 0).length).2]),.pr (fun v _=>∃A',v= .slice A' (gl xss 0).length (gl xss 0).length),xI ((bw (gl xss 0).length xss (gl xss 0).length).2),.pr (fun v _=>∃A',v= .slice A' (gl xss 0).length (gl xss 0).length),xI ((bw (gl xss 0).length xss (gl xss 0).length).2)] rfl (lx (lx (lx (cH.2 ⟨Yd.cJ (fun _ _ _ h _=>h),(cH.2 ⟨Yd.cJ (fun _ _ _ h _=>h),(cH.2 ⟨Yd.cJ (fun _ _ _ h _=>h),(lx (cH.2 ⟨Yd.cJ (fun _ _ _ h _=>h),(lx (fun _ h=>by cases h))⟩))⟩)⟩)⟩)))) ?_ ?_
 ·refine⟨?_,fun _ _ hb _ _=>aV (hB.below hb) O Az,fun _ _ hb _ _=>bj (hB.below hb) O Az,?_,?_,?_,?_,?_,Dr O,au⟩
  ·intro e1 w1 hb hp aU;refine aL (uU _ _ _ _ _ _ _ _ (hB.below hb) O (hM.aq hb) am) O ?_;rintro _ w2 ⟨rfl,av⟩;subst av;refine ao.n (d0 (by exact O))
  ·intro e1 w1 hb hp aU;refine aqm (Kv A n c rs xss (gl xss 0).length _ (hM.aq hb) am hs kZ.inj am) O (by rw [r0];rfl) O ?_;rintro _ w2 ⟨A',rfl,av⟩;exact ao.n (eP.dn av.below ⟨A',O⟩)
  ·intro e1 w1 hb hp aU;obtain⟨A',h96⟩:=(hp 3 an rfl _ _ rfl rfl);refine Rj O (by exact h96) O (ao.n ?_);exact eP.dn (Below.refl _ _) ⟨A',O⟩
  ·intro e1 w1 hb hp aU;obtain⟨A',MP⟩:=(hp 4 an rfl _ _ rfl rfl);refine ao.extract (by exact MP) O O (ao.n ?_);exact eP.dn (Below.refl _ _) ⟨A',O⟩
  ·intro e1 w1 hb hp aU;obtain⟨A',MP⟩:=(hp 4 an rfl _ _ rfl rfl);refine ao.extract (by exact MP) O O Az
  intro e1 w1 hb hp aU;obtain⟨A',h97⟩:=(hp 5 an rfl _ _ rfl rfl);refine lM O (by exact h97) O (ao.n ?_);exact eP.dn (Below.refl _ _) ⟨A',O⟩
 intro u w6 ob _;have bo:=aQ.aq ob;refine zz O (dq O ?_);refine⟨?_,bo.none⟩
 congr 1
 have ho:=CN hs am;have hl:=aiw hs am;exact ju.2 ⟨fun h=> ⟨am,am,kZ,fun i' dw k' eI uc f' iD=>hC i' am k' am uc f' iD,ho.2 (hl.1 h)⟩,fun h=>hl.2 (ho.1 h.2.2.2.2)⟩
section
variable {P:Program} {N:Nat} {ops:Array Oper} {K:Env->aa->Prop} {rest:List Oper} {e:Env} {w:aa} {d:Nat} {ty:ae} {pos:String} {af:Array Edge} {x y:ag} {xt yt:ae}
theorem run_equal_bool[bA P xt .bool](a b:Bool):(Op.equal xt (.bool a) (.bool b)).run P w= .ok (a==b) w:=
 run_equalIn_bool w 9999 xt a b bA.out
theorem ao.ajP[bA P xt .bool]{a b:Bool}(hx:ev e x= .bool a)(hy:ev e y= .bool b)(hb:Nat.blt d N=true)(hK:ao P N ops K rest (bn e d (.bool (!(a==b)))) w):
 ao P N ops K (⟨some d,.binOp .neq xt x y yt,ty,pos,af,none⟩::rest) e w:=
 .val (by simp [execOp,hx,hy,eqGuard,binOp,run_equal_bool]) hb hK
theorem ao.SG[bA P xt .bool]{a b:Bool}(hx:ev e x= .bool a)(hy:ev e y= .bool b)(hb:Nat.blt d N=true)(hK:ao P N ops K rest (bn e d (.bool (a==b))) w):
 ao P N ops K (⟨some d,.binOp .eql xt x y yt,ty,pos,af,none⟩::rest) e w:=
 .val (by simp [execOp,hx,hy,eqGuard,binOp,run_equal_bool]) hb hK
end
section
variable {P:Program} {N:Nat} {ops:Array Oper} {K:Env->aa->Prop} {rest:List Oper} {e:Env} {w0 w w':aa} {ks:List Ck} {d:Nat} {ty:ae} {pos:String} {af:Array Edge}
theorem Fm{t:ae}{f0:Field}{z0 zf:ad}{b bf:Nat}[bA P t (.struct #[f0])][bq P t (.agg #[z0]) 1 b]{x0:ag}{v0:ad}(hI:bq P f0.type zf 1 bf)(ho:f0.offset=0)(h0:ev e x0=v0)(c0:v0.oneCell'=true)(hb:Nat.blt d N=true)(hK:ao P N ops K rest (bn e d (.agg #[v0])) w):ao P N ops K (⟨some d,.build t #[(0,x0)],ty,pos,af,none⟩::rest) e w:=by
 obtain⟨inf,hi,dX,hs,gR⟩:=bq.get P t;obtain⟨ahn,dw,ahb,wo,ae7⟩:=hI.get P f0.type;have e0:v0.cells= #[v0]:=by cases v0<;>simp [Value.oneCell']at c0<;>rfl
 have ez:(Value.agg #[z0]).cells= #[z0]:=O;refine .val (w':=w) ?_ hb hK;simp [execOp,Instr.build,run_underlying (bA.out (P:=P) (t:=t)),sizeOf,typeInfo,zeroValue,hi,dX,dw,wo,ho,h0,e0,ez,Instr.fill]
theorem Dg{t t' el:ae}[bA P t (.slice el)]{x y:ag}{A:aj}{n c:Nat}(hx:ev e x= .slice A n c)(hy:ev e y= .slice none 0 0)(hb:Nat.blt d N=true)(hK:ao P N ops K rest (bn e d (.bool A.isNone)) w):
 ao P N ops K (⟨some d,.binOp .eql t x y t',ty,pos,af,none⟩::rest) e w:=by
 have hr:(Op.equal t (.slice A n c) (.slice none 0 0)).run P w= .ok A.isNone w:=by
  show(Op.equalIn (9999+1) t (.slice A n c) (.slice none 0 0)).run P w=_;rw [Op.equalIn];cases A<;>simp [run_underlying (bA.out (P:=P) (t:=t))]
 exact .val (by simp [execOp,hx,hy,eqGuard,binOp,hr]) hb hK
end
theorem G4{t1 t2:ae}{A:aj}{n c:Nat}{rs:List aO}{xss:ah}{pre ks:List Ck}{i:Nat}(hr:rs.length=xss.length)(hi:i<rs.length):(pre++ (aS t1 t2 A n c rs xss++ks))[pre.length+1+i]?=some (ax t2 (rs.getD i eY).a (rs.getD i eY).n (rs.getD i eY).c (xss.getD i [])):=by
 rw [mc (by omega),show pre.length+1+i - pre.length=i+1 by omega,ma (by simp [aS,CZ hr];omega)];simpa [aS]using EU (t:=t2) hr hi
section
variable {P:Program} {N:Nat} {ops:Array Oper} {K:Env->aa->Prop} {rest:List Oper} {e:Env} {w0 w w':aa} {ks pre:List Ck} {ty:ae} {pos:String} {af:Array Edge}
end
structure HL where
 top:aO
 rs:List aO
 xss:ah
def HL.ok(m:HL):Prop:=m.xss.length=m.top.n
def HL.po(t1 t2:ae)(m:HL):List Ck:=aS t1 t2 m.top.a m.top.n m.top.c m.rs m.xss
theorem Kl(A:aj)(n c:Nat)(xs:ai)(w:aa)(hR:cL w A n xs)(hn:n<=1000000000):aJ prog 132 [.slice A n c] w (fun v w'=>∃A' c',v= .slice A' n c'/\St w w' [ax 2 A' n c' xs]):=by
 refine bC func132 O ntmps132 O (df O) (bh O (jr (St.refl w) O ?_));intro A1 w1 aH;have aH:St w w1 [ax 2 A1 0 0 []]:=aH;refine ar O (fu 0 aH O (aH.gA hR) O O O ?_);intro A2 c2 w2 aF;rw [Nat.zero_add]at aF|-;refine bH O (gJ O ?_);exact⟨A2,c2,O,aF⟩
def body(n F:Nat)(ok:ah->Nat->Nat->Bool)(fin:ah->Bool)(k at_ met:Nat)(M:ah)(g:Nat):List (ah):=
 if 0<=cell M (at_%n) (g:Nat)then []else if ok (put M (at_%n) (at_ / n) g) (at_%n) (at_ / n)=true then grow n F ok fin k (at_+1) (max met (g+1)) (put M (at_%n) (at_ / n) g)else []
end
section
section
variable {n F:Nat} {M:ah} {met at_:Nat}
end
end
section
open Go.RowKit
def Small(KH flags:Int):Prop:=(1<=KH/\KH<=4)/\(2<=flags/\flags<=12)
instance (KH flags:Int):Decidable (Small KH flags):=by unfold Small;exact inferInstance
theorem HI(A:aj)(n c:Nat)(xs:ai)(w:aa)(hR:cL w A n xs)(hn:n<=1000000000):aJ prog 83 [.slice A n c] w (fun v w'=>∃A' c',v= .slice A' n c'/\St w w' [ax 2 A' n c' xs]):=by
 cases hA:A with
 | none=>
  subst hA;have oe:n=0:=by
   apply qD;intro h;obtain⟨p,hp,_⟩:=hR.2 0 am;simp [ay]at hp
  subst oe;have hx:xs=[]:=qE hR.1;subst hx;refine bC func83 O ntmps83 O (df O) (bh O (Dg O O O (aC O (Cd.gu O (dM O (gJ O ?_))))));exact⟨none,0,O,(St.refl w).nil _⟩
 | some a=>
  subst hA;refine bC func83 O ntmps83 O (df O) (bh O (Dg O O O (aC O (Cd.fg O (aA O (jr (St.refl w) O ?_))))));intro A1 w1 aH;have aH:St w w1 [ax 2 A1 0 0 []]:=aH;refine ar O (fu 0 aH O (aH.gA hR) O O O ?_);intro A2 c2 w2 aF;rw [Nat.zero_add]at aF|-;refine bH O (gJ O ?_);exact⟨A2,c2,O,aF⟩
section
variable {P:Program} {N:Nat} {ops:Array Oper} {K:Env->aa->Prop} {rest:List Oper} {e:Env} {w:aa} {d:Nat} {ty:ae} {pos:String} {af:Array Edge}
theorem wR{t:ae}{f0:Field}{z0 zf:ad}{b bf:Nat}[bA P t (.struct #[f0])][bq P t (.agg #[z0]) 1 b](hI:bq P f0.type zf 1 bf)(hb:Nat.blt d N=true)(hK:ao P N ops K rest (bn e d (.agg #[z0])) w):ao P N ops K (⟨some d,.build t #[],ty,pos,af,none⟩::rest) e w:=by
 obtain⟨inf,hi,dX,hs,gR⟩:=bq.get P t;obtain⟨ahn,dw,ahb,wo,ae7⟩:=hI.get P f0.type;have ez:(Value.agg #[z0]).cells= #[z0]:=O;refine .val (w':=w) ?_ hb hK;simp [execOp,Instr.build,run_underlying (bA.out (P:=P) (t:=t)),sizeOf,typeInfo,zeroValue,hi,dX,hs,dw,wo,ez,Instr.fill]
end
end
end Go.Proofs.YtkccgdhcpplblaaGreatDoor.Vc
