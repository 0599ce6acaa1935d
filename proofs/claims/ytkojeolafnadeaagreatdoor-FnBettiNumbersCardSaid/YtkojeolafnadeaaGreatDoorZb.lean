/-
 Lemmas. Conditions: as each states them.
-/
import Derived.Test.YtkojeolafnadeaaGreatDoorInst
set_option maxHeartbeats 8000000
namespace Go.Proofs.YtkojeolafnadeaaGreatDoor.Vc
open Tryz
section
open Go.RowKit
variable{p S:ah}
theorem oC(n lo hi:Int)(w:aa):aG prog 93 [aj n,aj lo,aj hi] w (fun v w'=>v= .bool (decide (lo<=n/\n<=hi))/\w'=w):=by
 refine bw func93 O ntmps93 O (b7 O) (bb O ?_);refine cz 10 O (fun h=>?_) (fun h=>?_)
 ·refine au O (aq O (au O (aq O (au O (bD O ?_)))));refine ck O ?_;exact⟨by simp [h],O⟩
 refine ay O (ay O (ay O (bD O ?_)));refine ck O ?_;exact⟨by simp [h],O⟩
theorem qm(n lo hi:Int)(w:aa):aG prog 84 [aj n,aj lo,aj hi] w (fun v w'=>v= .bool (decide (lo<=n/\n<=hi))/\w'=w):=by
 refine bw func84 O ntmps84 O (b7 O) (bb O ?_);refine cz 10 O (fun h=>?_) (fun h=>?_)
 ·refine au O (aq O (au O (aq O (au O (bD O ?_)))));refine ck O ?_;exact⟨by simp [h],O⟩
 refine ay O (ay O (ay O (bD O ?_)));refine ck O ?_;exact⟨by simp [h],O⟩
def jL(p:ah):Prop:=p.length<=400/\(∀x∈p,0<=x/\x<p.length)/\p.Nodup
instance (p:ah):Decidable (jL p):=by unfold jL;exact inferInstance
def Seen(p:ah)(k:Nat)(S:List Bool):Prop:=
 S.length=p.length/\(∀x∈p.take k,0<=x/\x<p.length)/\(p.take k).Nodup/\∀x:Int,0<=x->x<p.length->(gb S x=true↔x∈p.take k)
theorem bX{k:Nat}(h:k<p.length):gi p k=p[k]:=by simp [gi,dt,fU h]
theorem pg{k:Nat}(h:k<p.length):p.take (k+1)=p.take k++ [gi p k]:=by rw [bX h,rC h]
theorem Fp{S:List Bool}{x y:Int}{b:Bool}(hx:0<=x)(gR:x<S.length)(hy:0<=y):gb (S.set x.toNat b) y=if x=y then b else gb S y:=by
 simp only [gb,dt,n3]
 by_cases e:x=y
 ·subst e;rw [aT rfl,aT rfl,aT (by omega)];rfl
 rw [aR (by omega),aR e]
theorem tU{x y:Int}{b:Int}(hx:0<=x)(gR:x<S.length)(hy:0<=y):gi (S.set x.toNat b) y=if x=y then b else gi S y:=by
 simp only [gi,dt,n3]
 by_cases e:x=y
 ·subst e;rw [aT rfl,aT rfl,aT (by omega)];rfl
 rw [aR (by omega),aR e]
theorem Seen.zero(p:ah):Seen p 0 (List.replicate p.length false):=⟨by simp,by simp,by simp,fun x h0 h1=>by
 simp [gb,dt,List.getElem?_replicate];split<;>simp⟩
theorem Seen.bad{k:Nat}{S:List Bool}(h:Seen p k S)(hk:k<p.length)(hb:¬(0<=gi p k/\gi p k<=p.length - 1)):¬jL p:=fun hp=>by
 have:=hp.2.1 (gi p k) (by rw [bX hk];exact fe hk);omega
theorem Seen.TM{k:Nat}{S:List Bool}(h:Seen p k S)(hk:k<p.length)(h0:0<=gi p k/\gi p k<=p.length - 1)(hb:gb S (gi p k)=true):¬jL p:=fun hp=>by
 have h1:=(h.2.2.2 (gi p k) h0.1 (by omega)).1 hb;have h2:(p.take (k+1)).Nodup:=hp.2.2.sublist (List.take_sublist _ _);rw [pg hk,List.nodup_append]at h2;exact h2.2.2 _ h1 _ (by simp) O
theorem Seen.step{k:Nat}{S:List Bool}(h:Seen p k S)(hk:k<p.length)(h0:0<=gi p k/\gi p k<=p.length - 1)(hb:gb S (gi p k)=false):Seen p (k+1) (S.set (gi p k).toNat true):=by
 obtain⟨h1,h2,h3,h4⟩:=h;have h5:¬gi p k∈p.take k:=fun hm=>by have:=(h4 _ h0.1 (by omega)).2 hm;rw [hb]at this;cases this
 refine⟨by simpa using h1,?_,?_,fun x hx gR=>?_⟩
 ·rw [pg hk];intro x hx;rcases eD.1 hx with hx | hx
  ·exact h2 x hx
  simp at hx;subst hx;omega
 ·rw [pg hk,List.nodup_append];refine⟨h3,by simp,fun a ha b AW=>?_⟩;simp at AW;subst AW;intro e;subst e;exact h5 ha
 rw [Fp h0.1 (by omega) hx,pg hk,eD]
 by_cases e:gi p k=x
 ·simp [e]
 rw [aR e,h4 x hx gR];simp;intro h;exact absurd h.symm e
theorem Seen.done{k:Nat}{S:List Bool}(h:Seen p k S)(hk:¬k<p.length)(hl:p.length<=400):jL p:=by
 obtain⟨h1,h2,h3,h4⟩:=h;rw [kA (by omega)]at h2 h3;exact⟨hl,h2,h3⟩
theorem Gw(A:ai)(n c:Nat)(p:ah)(w:aa)(hR:bt w A n p):aG prog 100 [.slice A n c] w (fun v w'=>v= .bool (decide (jL p))/\St w w' []):=by
 have hl:=hR.1;subst hl;refine bw func100 O ntmps100 O (b7 O) ?_;refine bb O (ba O O (az O ?_));refine aM _ O (fun h=>?_) (fun h=>?_)
 ·refine dB O (ck O ?_);exact⟨by rw [cM (fun hp:jL p=>by have:=hp.1;omega)],St.refl _⟩
 refine aD O (ba O O ?_);refine zH p.length (St.refl w) O O (by omega) fun A1 w1 aC=>az O (Cd.loop (α:=Nat×List Bool) (fun s=> [(0,.slice A p.length c),(3,.slice A1 p.length p.length),(4,aj (s.1:Int))]) (fun s w'=>St w w' [iy 4 A1 p.length p.length s.2]/\s.1<=p.length/\Seen p s.1 s.2) (fun s=>p.length - s.1) (0,List.replicate p.length false) (ajz O) ⟨aC,bu _,Seen.zero p⟩ ?_);rintro⟨k,S⟩ e w2 ⟨aE,hk,hI⟩;dsimp only at aE hk hI|-;refine bb O (ba O O (az O ?_));refine aM _ O (fun h1=>?_) (fun h1=>?_)
 ·refine aD O (ajn (aE.b9 hR).2 O O O (by omega) h1 (aY (aE.b9 hR) O ?_));refine aq O (ba O O (dq O ?_));refine aF (oC _ _ _ _) O ?_;rintro _ _ ⟨rfl,rfl⟩
  first | refine de rfl rfl ?_ | refine dV rfl rfl ?_
  refine aq O (cz 26 O (fun h2=>?_) (fun h2=>?_))
  ·refine ay O (ay O (ay O (ay O (ay O (ay O (ay O (az O ?_)))))));refine Cd.eH O (dB O (dO (dJ ?_)));refine ck O ?_;exact⟨by rw [cM (hI.bad (by omega) (by omega))],aE.none⟩
  refine au O (aq O (au O (aq O (au O (aq O (au O ?_))))));refine ajn (aE.b9 hR).2 O O O (by omega) h1 (au O (aY (aE.b9 hR) O (au O (aA (aE.kY 0 O).2 O (au O (uV (aE.kY 0 O) O (by omega) O O (az O ?_)))))));refine Cd.cond O (fun h3=>?_) (fun h3=>?_)
  ·refine dB O (dO (dJ ?_));refine ck O ?_;exact⟨by rw [cM (hI.TM (by omega) (by omega) h3)],aE.none⟩
  refine aD O (ajn (aE.b9 hR).2 O O O (by omega) h1 (aY (aE.b9 hR) O (aA (aE.kY 0 O).2 O (wv 0 aE O O O (by omega) ?_))));intro w3 aH;refine aq O (aK O (aS O (tQ ?_)));exact⟨(k+1,S.set (gi p k).toNat true),by show p.length - (k+1)<p.length - k;omega,(ajz O),aH,by show k+1<=_;omega,hI.step (by omega) (by omega) h3⟩
 refine bo O (bn (eG O ?_));refine ck O ?_;exact⟨by rw [eC (hI.done (by omega) (by omega))],aE.none⟩
def fill{α:Type}(k:Nat)(xs:List α)(d:α):List α:=xs.take k++List.replicate (xs.length - k) d
theorem fm{p:ag}{k:Nat}(h:k<p.length):gl p k=p[k]:=by simp [gl,dt,fU h]
theorem L8{p:ag}{k:Nat}(h:k<p.length):p.take (k+1)=p.take k++ [gl p k]:=by rw [fm h,rC h]
theorem xX(A:ai)(n c:Nat)(w:aa):aG prog 49 [.slice A n c] w (fun v w'=>v=aj n/\w'=w):=by
 refine bw func49 O ntmps49 O (b7 O) ?_;refine bb O (ba O O (bD O ?_));exact iY O ⟨O,O⟩
theorem Er(A:ai)(n c:Nat)(w:aa):aG prog 52 [.slice A n c] w (fun v w'=>v=aj n/\w'=w):=by
 refine bw func52 O ntmps52 O (b7 O) ?_;refine bb O (ba O O (bD O ?_));exact iY O ⟨O,O⟩
theorem acM(A:ai)(n c:Nat)(p:ah)(w:aa)(hR:bt w A n p):aG prog 149 [.slice A n c] w (fun v w'=>v= .bool (decide (jL p))/\St w w' []):=by
 have hl:=hR.1;subst hl;refine bw func149 O ntmps149 O (b7 O) ?_;refine bb O (ba O O (az O ?_));refine aM _ O (fun h=>?_) (fun h=>?_)
 ·refine dB O (ck O ?_);exact⟨by rw [cM (fun hp:jL p=>by have:=hp.1;omega)],St.refl _⟩
 refine aD O (ba O O ?_);refine zH p.length (St.refl w) O O (by omega) fun A1 w1 aC=>aq O (ba O O (az O ?_));refine Cd.loop (α:=Nat×List Bool) (fun s=> [(0,.slice A p.length c),(3,.slice A1 p.length p.length),(12,.slice A p.length c),(13,aj (p.length:Int)),(14,aj (s.1:Int))]) (fun s w'=>St w w' [iy 4 A1 p.length p.length s.2]/\s.1<=p.length/\Seen p s.1 s.2) (fun s=>p.length - s.1) (0,List.replicate p.length false) (ajz O) ⟨aC,bu _,Seen.zero p⟩ ?_;rintro⟨k,S⟩ e w2 ⟨aE,hk,hI⟩;dsimp only at aE hk hI|-;refine b8 O (aM _ O (fun h1=>?_) (fun h1=>?_))
 ·refine aD O (ajn (aE.b9 hR).2 O O O (by omega) h1 (aY (aE.b9 hR) O (aq O (aF (xX _ _ _ _) O ?_))));rintro _ _ ⟨rfl,rfl⟩;refine dq O (aF (qm _ _ _ _) O ?_);rintro _ _ ⟨rfl,rfl⟩
  first | refine de rfl rfl ?_ | refine dV rfl rfl ?_
  refine aq O (cz 24 O (fun h2=>?_) (fun h2=>?_))
  ·refine ay O (ay O (ay O (ay O (az O ?_))));refine Cd.eH O (dB O (dO (dJ ?_)));refine ck O ?_;exact⟨by rw [cM (hI.bad (by omega) (by omega))],aE.none⟩
  refine au O (aq O (au O (aq O (au O ?_))));refine aA (aE.kY 0 O).2 O (au O (uV (aE.kY 0 O) O (by omega) O O (az O ?_)));refine Cd.cond O (fun h3=>?_) (fun h3=>?_)
  ·refine dB O (dO (dJ ?_));refine ck O ?_;exact⟨by rw [cM (hI.TM (by omega) (by omega) h3)],aE.none⟩
  refine aD O (aA (aE.kY 0 O).2 O (wv 0 aE O O O (by omega) ?_));intro w3 aH;refine aq O (aK O (aS O (tQ ?_)));exact⟨(k+1,S.set (gi p k).toNat true),by show p.length - (k+1)<p.length - k;omega,(ajz O),aH,by show k+1<=_;omega,hI.step (by omega) (by omega) h3⟩
 refine bo O (bn (eG O ?_));refine ck O ?_;exact⟨by rw [eC (hI.done (by omega) (by omega))],aE.none⟩
def ns(p:ah):Prop:=∀i:Nat,i<p.length->gi p i≠i/\gi p (gi p i)=i
instance (p:ah):Decidable (ns p):=by unfold ns;exact inferInstance
theorem jL.range(h:jL p){i:Int}(h0:0<=i)(h1:i<p.length):0<=gi p i/\gi p i<p.length:=by
 have e:gi p i=p[i.toNat]'(by omega):=by simp [gi,dt,fU (show i.toNat<p.length by omega)]
 rw [e];exact h.2.1 _ (fe _)
theorem RQ(A:ai)(n c:Nat)(p:ah)(w:aa)(hR:bt w A n p)(hp:jL p):aG prog 101 [.slice A n c] w (fun v w'=>v= .bool (decide (ns p))/\w'=w):=by
 have hl:=hR.1;subst hl;have hp1:=hp.1;refine bw func101 O ntmps101 O (b7 O) (b8 O ?_);refine Cd.loop (α:=Nat) (fun k=> [(0,.slice A p.length c),(3,aj k)]) (fun k w'=>w'=w/\k<=p.length/\∀i,i<k->gi p i≠i/\gi p (gi p i)=i) (fun k=>p.length - k) 0 (ajz O) ⟨O,bu _,fun i hi=>by omega⟩ ?_;rintro k e w2 ⟨rfl,hk,hI⟩;refine bb O (ba O O (az O ?_));refine aM _ O (fun h1=>?_) (fun h1=>?_)
 ·have hr:=hp.range (i:=k) (by omega) h1;refine aD O (ajn hR.2 O O O (by omega) h1 (aY hR O (aq O ?_)));refine cz 16 O (fun h2=>?_) (fun h2=>?_)
  ·refine ay O (ay O (ay O (ay O (ay O (ay O (ay O (ay O (ay O (az O ?_)))))))));refine Cd.eH O (dB O (dO (dJ ?_)));refine ck O ?_;exact⟨by rw [cM (fun hf:ns p=> (hf k (by omega)).1 h2)],O⟩
  refine au O (aq O (au O (aq O (au O (aq O (au O ?_))))));refine ajn hR.2 O O O (by omega) h1 (au O (aY hR O (au O (aA hR.2 O (au O (aY hR O ?_))))));refine au O (aq O (au O (az O ?_)));refine aM _ O (fun h3=>?_) (fun h3=>?_)
  ·refine dB O (dO (dJ ?_));refine ck O ?_;exact⟨by rw [cM (fun hf:ns p=>h3 (hf k (by omega)).2)],O⟩
  refine aD O (aK O (aS O (tQ ?_)));refine⟨k+1,by omega,(ajz O),O,by omega,fun i hi=>?_⟩
  by_cases e:i=k
  ·subst e;exact⟨h2,mM.1 h3⟩
  exact hI i (by omega)
 refine bo O (bn (eG O ?_));refine ck O ?_;exact⟨by rw [eC (show ns p from fun i hi=>hI i (by omega))],O⟩
theorem acJ(A:ai)(n c:Nat)(p:ah)(w:aa)(hR:bt w A n p):aG prog 91 [.slice A n c] w (fun v w'=>v= .bool (decide (jL p/\ns p))/\St w w' []):=by
 have hl:=hR.1;subst hl;refine bw func91 O ntmps91 O (b7 O) (bb O (aF (acM _ _ _ _ _ hR) O ?_));rintro _ w1 ⟨rfl,aC⟩
 first | refine de rfl rfl ?_ | refine dV rfl rfl ?_
 refine az O (aM _ O (fun hp=>?_) (fun hp=>?_))
 ·refine dB O (ck O ?_);exact⟨by rw [cM (fun h=>hp h.1)],aC⟩
 have hp:=mM.1 hp;have hp1:=hp.1;refine aD O (ba O O (az O ?_));refine Cd.loop (α:=Nat) (fun k=> [(0,.slice A p.length c),(8,.slice A p.length c),(9,aj (p.length:Int)),(10,aj k)]) (fun k w'=>St w w' []/\k<=p.length/\∀i,i<k->gi p i≠i/\gi p (gi p i)=i) (fun k=>p.length - k) 0 (ajz O) ⟨aC,bu _,fun i hi=>by omega⟩ ?_;rintro k e w2 ⟨aE,hk,hI⟩;refine b8 O (aM _ O (fun h1=>?_) (fun h1=>?_))
 ·have hr:=hp.range (i:=k) (by omega) h1;have hA:=aE.b9 hR;refine aD O (ajn hA.2 O O O (by omega) h1 (aY hA O (aq O ?_)));refine cz 18 O (fun h2=>?_) (fun h2=>?_)
  ·refine ay O (ay O (ay O (ay O (ay O (ay O (az O ?_))))));refine Cd.eH O (dB O (dO (dJ ?_)));refine ck O ?_;exact⟨by rw [cM (fun hf:jL p/\ns p=> (hf.2 k (by omega)).1 h2)],aE⟩
  refine au O (aq O (au O (aq O (au O ?_))));refine aA hA.2 O (au O (aY hA O ?_));refine au O (aq O (au O (az O ?_)));refine aM _ O (fun h3=>?_) (fun h3=>?_)
  ·refine dB O (dO (dJ ?_));refine ck O ?_;exact⟨by rw [cM (fun hf:jL p/\ns p=>h3 (hf.2 k (by omega)).2)],aE⟩
  refine aD O (aK O (aS O (tQ ?_)));refine⟨k+1,by omega,(ajz O),aE,by omega,fun i hi=>?_⟩
  by_cases e:i=k
  ·subst e;exact⟨h2,mM.1 h3⟩
  exact hI i (by omega)
 refine bo O (bn (eG O ?_));refine ck O ?_;exact⟨by rw [eC (show jL p/\ns p from⟨hp,fun i hi=>hI i (by omega)⟩)],aE⟩
theorem GV(A Am:ai)(n c:Nat)(f:Nat->ab)(w:aa)(hR:Rd w A 1 f)(hf:f 0= .slice Am n c):aG prog 90 [.pointer A] w (fun v w'=>v=aj n/\w'=w):=by
 refine bw func90 O ntmps90 O (b7 O) (bb O ?_);refine ik hR (by decide) O O (aI hR O (ajt hR O O hf O O (aF (Er _ _ _ _) O ?_)));rintro _ _ ⟨rfl,rfl⟩;refine bD O (iY O ?_);exact⟨O,O⟩
theorem yp(A Am:ai)(n c:Nat)(rs:List aX)(xss:ag)(f:Nat->ab)(w:aa)(hR:Rd w A 1 f)(hf:f 0= .slice Am n c)(hM:bL w Am n rs xss)(hn:0<n):aG prog 55 [.pointer A] w (fun v w'=>v=aj ((rg rs 0).n:Int)/\w'=w):=by
 refine bw func55 O ntmps55 O (b7 O) (bb O ?_);refine ik hR (by decide) O O (aI hR O (ajt hR O O hf O O (aA hM.top.2 O (bQ hM.top O (aF (xX _ _ _ _) O ?_)))));rintro _ _ ⟨rfl,rfl⟩;refine bD O (iY O ?_);exact⟨O,O⟩
end
section
variable{p:ah}{x y z pt:Int}
theorem GL:∀(n:Nat) (l:List Nat),l.Nodup->(∀x∈l,x<n)->l.length<=n
 | 0,l,_,h=>by
  cases l with
  | nil=>simp
  | cons a l=>exact absurd (h a (by simp)) (by omega)
 | n+1,l,hn,h=>by
  have h1:=GL n (l.erase n) (hn.erase n) (fun x hx=>by
   have h2:=(hn.mem_erase_iff).1 hx;have:=h x h2.2;omega)
  have:=List.length_erase_le (a:=n) (l:=l);rw [List.length_erase]at h1
  split at h1<;>omega
theorem sy{N:Nat}{l:ah}(hn:l.Nodup)(h:∀x∈l,0<=x/\x<N):l.length<=N:=by
 have:=GL N (l.map Int.toNat) (by
  rw [List.nodup_iff_pairwise_ne,List.pairwise_map];refine List.Pairwise.imp_of_mem ?_ hn;intro a b ha hb kl e;have:=h a ha;have:=h b hb;omega) (fun x hx=>by
  obtain⟨y,hy,rfl⟩:=eh.1 hx;have:=h y hy;omega)
 simpa using this
def Sys(N:Nat)(xss:ag):Prop:=∀p∈xss,p.length=N/\∀x:Int,0<=x->x<N->0<=gi p x/\gi p x<N
inductive Reach(xss:ag)(x:Int):Int->Prop where
 | refl:Reach xss x x
 | step {y:Int} {p:ah}:Reach xss x y->p∈xss->Reach xss x (gi p y)
theorem Reach.trans{xss:ag}(h:Reach xss x y)(h':Reach xss y z):Reach xss x z:=by
 induction h' with
 | refl=>exact h
 | step _ hp ih=>exact .step ih hp
def mG(out:ah)(y:Int):ah:=if y∈out then out else out++ [y]
def expand(xss:ag)(x:Int)(out:ah):ah:=xss.foldl (fun o p=>mG o (gi p x)) out
def qF(xss:ag):Nat->Nat->ah->ah
 | 0,_,out=>out
 | f+1,i,out=>if i<out.length then qF xss f (i+1) (expand xss (gi out i) out)else out
def fG(N:Nat)(xss:ag)(pt:Int):ah:=qF xss (N+1) 0 [pt]
theorem LA{out:ah}:z∈mG out y↔z∈out\/z=y:=by
 unfold mG
 split
 ·constructor
  ·exact Or.inl
  rintro(h | rfl)
  ·exact h
  assumption
 simp
theorem afs{out:ah}(h:out.Nodup):(mG out y).Nodup:=by
 unfold mG
 split
 ·exact h
 rename_i hy;rw [List.nodup_append];refine⟨h,by simp,fun a ha b hb=>?_⟩;simp at hb;subst hb;rintro rfl;exact hy ha
theorem SY(out:ah)(y:Int):out<+:mG out y:=by
 unfold mG
 split
 ·exact List.prefix_rfl
 exact List.prefix_append _ _
structure Good(N:Nat)(xss:ag)(pt:Int)(out:ah):Prop where
 nodup:out.Nodup
 range:∀x∈out,0<=x/\x< (N:Int)
 reach:∀x∈out,Reach xss pt x
theorem Good.push{N:Nat}{xss:ag}{out:ah}(h:Good N xss pt out)(hs:Sys N xss)(hx:x∈out)(hp:p∈xss):Good N xss pt (mG out (gi p x)):=
 ⟨afs h.nodup,fun z hz=>by
  rcases LA.1 hz with hz | rfl
  ·exact h.range z hz
  ·exact(hs p hp).2 x (h.range x hx).1 (h.range x hx).2,fun z hz=>by
  rcases LA.1 hz with hz | rfl
  ·exact h.reach z hz
  exact .step (h.reach x hx) hp⟩
theorem Good.len{N:Nat}{xss:ag}{out:ah}(h:Good N xss pt out):out.length<=N:=sy h.nodup h.range
theorem foldl_push{N:Nat}{xss:ag}{pt:Int}(hs:Sys N xss){x:Int}:∀(ps:ag) (out:ah),(∀p∈ps,p∈xss)->Good N xss pt out->x∈out->
 Good N xss pt (ps.foldl (fun o p=>mG o (gi p x)) out)/\out<+:ps.foldl (fun o p=>mG o (gi p x)) out/\∀p∈ps,gi p x∈ps.foldl (fun o p=>mG o (gi p x)) out
 | [],out,_,h,_=> ⟨h,List.prefix_rfl,fun p hp=>by cases hp⟩
 | q::ps,out,kp,h,hx=>by
  have h1:=h.push hs hx (kp q (by simp));have iW:=SY out (gi q x);obtain⟨g1,g2,g3⟩:=foldl_push hs ps (mG out (gi q x)) (fun p hp=>kp p (by simp [hp])) h1 (iW.subset hx);refine⟨g1,iW.trans g2,fun p hp=>?_⟩;rcases ij.1 hp with rfl | hp
  ·exact g2.subset (LA.2 (Or.inr O))
  ·exact g3 p hp
theorem gi_in{out:ah}{i:Nat}(h:i<out.length):gi out i∈out:=by rw [bX h];exact fe h
theorem IU{a b:ah}(h:a<+:b){i:Nat}(hi:i<a.length):gi b i=gi a i:=by
 rw [bX hi,bX (Nat.lt_of_lt_of_le hi h.length_le)];obtain⟨t,rfl⟩:=h;rw [List.getElem_append_left hi]
theorem Nh{N:Nat}{xss:ag}{pt:Int}(hs:Sys N xss):∀(f i:Nat) (out:ah),Good N xss pt out->N<f+i->(∀j,j<i->j<out.length->∀p∈xss,gi p (gi out j)∈out)->
 Good N xss pt (qF xss f i out)/\out<+:qF xss f i out/\∀x∈qF xss f i out,∀p∈xss,gi p x∈qF xss f i out
 | 0,i,out,h,hf,hc=>by
  simp only [qF];refine⟨h,List.prefix_rfl,fun x hx p hp=>?_⟩;obtain⟨j,hj,rfl⟩:=gj.1 hx;have:=h.len;have:=hc j (by omega) hj p hp;rw [bX hj]at this;exact this
 | f+1,i,out,h,hf,hc=>by
  simp only [qF]
  split
  ·rename_i hi;obtain⟨g1,g2,g3⟩:=foldl_push hs xss out (fun p hp=>hp) h (gi_in hi);replace g2:out<+:expand xss (gi out i) out:=g2;obtain⟨k1,k2,k3⟩:=Nh hs f (i+1) (expand xss (gi out i) out) g1 (by omega) (fun j hj nG p hp=>by
    by_cases ou:j=i
    ·subst ou;show gi p (gi (expand xss _ out) _)∈expand xss _ out;rw [IU g2 hi];exact g3 p hp
    ·have DF:j<out.length:=by omega
     show gi p (gi (expand xss _ out) _)∈expand xss _ out;rw [IU g2 DF];exact g2.subset (hc j (by omega) DF p hp))
   exact⟨k1,g2.trans k2,k3⟩
  ·rename_i hi;refine⟨h,List.prefix_rfl,fun x hx p hp=>?_⟩;obtain⟨j,hj,rfl⟩:=gj.1 hx;have:=hc j (by omega) hj p hp;rw [bX hj]at this;exact this
theorem OI{N:Nat}{xss:ag}(h0:0<=pt)(h1:pt<N):Good N xss pt [pt]:=
 ⟨by simp,fun x hx=>by simp at hx;subst hx;exact⟨h0,h1⟩,fun x hx=>by simp at hx;subst hx;exact .refl⟩
theorem uJ{N:Nat}{xss:ag}(hs:Sys N xss)(h0:0<=pt)(h1:pt<N):
 Good N xss pt (fG N xss pt)/\ [pt]<+:fG N xss pt/\∀x,x∈fG N xss pt↔Reach xss pt x:=by
 obtain⟨g1,g2,g3⟩:=Nh (N:=N) hs (N+1) 0 [pt] (OI h0 h1) (by omega) (fun j hj=>by omega);refine⟨g1,g2,fun x=> ⟨g1.reach x,fun hr=>?_⟩⟩
 induction hr with
 | refl=>exact g2.subset (by simp)
 | step _ hp ih=>exact g3 _ ih _ hp
end
section
open Go.RowKit
def wq(M:Nat)(S:List Bool)(out:ah):Prop:=S.length=M/\∀x:Int,0<=x->x<M->(gb S x=true↔x∈out)
theorem wq.init{M:Nat}{pt:Int}(h0:0<=pt)(h1:pt<M):wq M ((List.replicate M false).set pt.toNat true) [pt]:=by
 refine⟨by simp,fun x hx gR=>?_⟩;rw [Fp h0 (by simpa using h1) hx]
 by_cases e:pt=x
 ·simp [e]
 rw [aR e];have:x≠pt:=fun h=>e h.symm
 simp [gb,dt,List.getElem?_replicate,this]
 split<;>simp
theorem wq.push{M:Nat}{S:List Bool}{out:ah}{y:Int}(h:wq M S out)(h0:0<=y)(h1:y<M):wq M (S.set y.toNat true) (out++ [y]):=by
 refine⟨by simpa using h.1,fun x hx gR=>?_⟩;rw [Fp h0 (by rw [h.1];exact h1) hx,eD]
 by_cases e:y=x
 ·simp [e]
 rw [aR e,h.2 x hx gR];have:x≠y:=fun h=>e h.symm
 simp [this]
theorem Wo{xss:ag}{f i:Nat}{out:ah}(h:¬i<out.length):qF xss f i out=out:=by
 cases f with
 | zero=>rfl
 | succ f=>simp only [qF];rw [aR h]
theorem bL.ql{w:aa}{A:ai}{n:Nat}{rs:List aX}{xss:ag}(h:bL w A n rs xss){k:Int}(h0:0<=k)(h1:k<n):(gl xss k).length=(rg rs k).n:=(h.at_ h0 h1).1
theorem sS{xss:ag}{k:Int}(h0:0<=k)(h:k<xss.length):gl xss k∈xss:=by
 obtain⟨j,rfl⟩:∃j:Nat,k=j:=⟨k.toNat,by omega⟩;rw [fm (by omega)];exact fe _
theorem KU(A:ai)(n c:Nat)(rs:List aX)(xss:ag)(N:Nat)(pt:Int)(w:aa)(hR:bL w A n rs xss)(hn:n<=9223372036854775807)(hs:Sys N xss)(hN:N<=1000000000)(h0:0<=pt)(h1:pt<N):
 aG prog 102 [.slice A n c,aj pt] w (fun v w'=>∃A' c',v= .slice A' (fG N xss pt).length c'/\St w w' [ar 2 A' (fG N xss pt).length c' (fG N xss pt)]):=by
 have bT:∀k:Int,0<=k->k<n->(rg rs k).n=N:=fun k mZ hk=>by
  rw [<-hR.ql mZ hk];exact(hs _ (sS mZ (by rw [hR.len];exact hk))).1
 refine bw func102 O ntmps102 O (b7 O) (bb O (dE (St.refl w) O O O ?_));intro A1 w1 aC;refine zC 2 O (nq (α:=Nat) (fun s=> [(0,.slice A n c),(1,aj pt),(5,.slice A1 1 1),(6,aj s)]) (fun s w'=>w'=w1/\s<=N/\(0<n->s=N)) ?_ ?_)
 ·refine bb O (ba O O (az O ?_));refine aM _ O (fun h2=>?_) (fun h2=>?_)
  ·refine aD O (aA (aC.BP hR.top).2 O (bQ (aC.BP hR.top) O ?_));refine ba O O (aS O (tQ ?_));exact⟨N,⟨O,O,O,by rw [bT 0 (by omega) (by omega)];rfl,aw⟩,O,dC _,fun _=>O⟩
  refine mN O (tQ ?_);exact⟨0,(ajz O),O,bu _,fun h=>by omega⟩
 rintro s e1 w2 ⟨rfl,hsN,oz⟩;have se:n=0->N=N:=fun _=>O
 refine aD O (aK O (aK O ?_));refine zH (s+pt.toNat+1) aC (by show Value.int .i64 _=Value.int .i64 _;congr 1;omega) O (by omega) ?_;intro A2 w3 aH;refine aq O (aA (aH.kY 0 O).2 O (wv 0 aH O O O (by omega) ?_));intro w4 aQ;refine az O (Cd.loop (α:=Nat×ah×ai×Nat×List Bool) (fun q=> [(0,.slice A n c),(5,.slice q.2.2.1 q.2.1.length q.2.2.2.1),(7,.slice A2 (s+pt.toNat+1) (s+pt.toNat+1)),(8,aj (q.1:Int))]) (fun q w'=>St w w' [iy 4 A2 (s+pt.toNat+1) (s+pt.toNat+1) q.2.2.2.2,ar 2 q.2.2.1 q.2.1.length q.2.2.2.1 q.2.1]/\q.1<=q.2.1.length/\Good N xss pt q.2.1/\wq (s+pt.toNat+1) q.2.2.2.2 q.2.1/\qF xss (N+1 - q.1) q.1 q.2.1=fG N xss pt) (fun q=>N+1 - q.1) (0,[pt],A1,1,(List.replicate (s+pt.toNat+1) false).set pt.toNat true) (ajz O) ⟨aQ,bu _,OI h0 h1,wq.init h0 (by omega),O⟩ ?_);rintro⟨i,out,Ao,co,S⟩ e2 w5 ⟨a8,hi,hg,hm,hb⟩;dsimp only at a8 hi hg hm hb|-;have hlen:=hg.len;refine bb O (ba O O (az O ?_));refine aM _ O (fun h2=>?_) (fun h2=>?_)
 ·refine cW O (Cd.loop (α:=Nat×ah×ai×Nat×List Bool) (fun q=> [(0,.slice A n c),(5,.slice q.2.2.1 q.2.1.length q.2.2.2.1),(7,.slice A2 (s+pt.toNat+1) (s+pt.toNat+1)),(8,aj i),(9,aj (q.1:Int))]) (fun q w'=>St w w' [iy 4 A2 (s+pt.toNat+1) (s+pt.toNat+1) q.2.2.2.2,ar 2 q.2.2.1 q.2.1.length q.2.2.2.1 q.2.1]/\q.1<=n/\Good N xss pt q.2.1/\wq (s+pt.toNat+1) q.2.2.2.2 q.2.1/\out<+:q.2.1/\(xss.drop q.1).foldl (fun o p=>mG o (gi p (gi out i))) q.2.1=expand xss (gi out i) out) (fun q=>n - q.1) (0,out,Ao,co,S) (ajz O) ⟨a8,bu _,hg,hm,List.prefix_rfl,O⟩ ?_);rintro⟨k,mc,EG,Ii,S'⟩ e3 w6 ⟨bg,hk,rZ,kU,jj,hf⟩;dsimp only at bg hk rZ kU jj hf|-;have qR:=rZ.len;refine bb O (ba O O (az O ?_));refine aM _ O (fun h3=>?_) (fun h3=>?_)
  ·have xn:i<mc.length:=by have:=jj.length_le;omega
   have Bg:gi mc i=gi out i:=IU jj (by omega);have sq:=hg.range _ (gi_in (i:=i) (by omega));have gp:gl xss k∈xss:=sS (by omega) (by rw [hR.len];omega);have hy:=(hs _ gp).2 (gi out i) sq.1 sq.2;have ew:=bT k (by omega) (by omega);have hsN:s=N:=oz (by omega);have hT:=(bg.cV hR);have hO:=bg.bk 1 O;have bM:=hT.at_ (i:=k) (by omega) (by omega);refine cW O ?_;refine dQ [xS (A) (n) (c),xI ((k:Int)),xP (aB (A) ((k:Int)).toNat),xS ((rg (rs) ((k:Int))).a) ((rg (rs) ((k:Int))).n) ((rg (rs) ((k:Int))).c),xS (EG) (mc.length) (Ii),xI ((i:Int)),xP (aB (EG) ((i:Int)).toNat),xI (gi (mc) ((i:Int))),xP (aB ((rg (rs) ((k:Int))).a) (gi (mc) ((i:Int))).toNat),xI (gi (gl xss k) (gi (mc) ((i:Int)))),xI (gi (gl xss k) (gi (mc) ((i:Int))))] O (eE O) ?_ ?_
   ·exact⟨Dr O,Dr O,fun _ _ hb _ _=>aA (hT.top.ao hb).2 O Az,fun _ _ hb _ _=>bQ (hT.top.ao hb) O Az,Dr O,Dr O,fun _ _ hb _ _=>aA (hO.ao hb).2 O Az,fun _ _ hb _ _=>aY (hO.ao hb) O Az,fun _ _ hb _ _=>ajn (bM.ao hb).2 O O O (by rw [Bg];omega) (by rw [Bg,ew];omega) Az,fun _ _ hb _ _=>aY (bM.ao hb) O Az,Dr O,aw⟩
   intro u w7 xh _;have bl:=bg.ao xh;rw [Bg];have F2:(xss.drop (k+1)).foldl (fun o p=>mG o (gi p (gi out i))) (mG mc (gi (gl xss k) (gi out i)))=expand xss (gi out i) out:=by
    rw [<-hf,List.drop_eq_getElem_cons (show k<xss.length by rw [hR.len];omega),List.foldl_cons,fm (by rw [hR.len];omega)]
   refine fJ O (aA (bl.kY 0 O).2 O (uV (bl.kY 0 O) O (by omega) O O ?_))
   first | refine de rfl rfl ?_ | refine dV rfl rfl ?_
   refine az O (Cd.cond O (fun h4=>?_) (fun h4=>?_))
   ·have abo:¬gi (gl xss k) (gi out i)∈mc:=fun da=>by
     have:=(kU.2 _ hy.1 (by omega)).2 da;rw [this]at h4;cases h4
    have Kj:mG mc (gi (gl xss k) (gi out i))=mc++ [gi (gl xss k) (gi out i)]:=by unfold mG;rw [if_neg abo]
    have Dy:=rZ.push hs (jj.subset (gi_in (i:=i) (by omega))) gp;have QV:=jj.trans (SY mc (gi (gl xss k) (gi out i)));rw [Kj]at F2 Dy QV;have aa3:=Dy.len;simp only [dh,List.length_singleton]at aa3;refine aD O (aA (bl.kY 0 O).2 O (wv 0 bl O O O (by omega) ?_));intro w8 bK;refine aq O (dE bK O O O ?_);intro A3 w9 bh;refine dS 2 bh O (bh.bk 0 O) O O O fun A4 c4 dA cj=>aq O (aK O (aS O (tQ ?_)));refine⟨(k+1,mc++ [gi (gl xss k) (gi out i)],A4,c4,S'.set (gi (gl xss k) (gi out i)).toNat true),by show n - (k+1)<n - k;omega,⟨O,by rw [dh];rfl,O,O,O,aw⟩,?_,by show k+1<=n;omega,Dy,kU.push hy.1 (by omega),QV,F2⟩;have pI:=cj.tail;simp only [dh,List.length_singleton];exact pI
   have da:gi (gl xss k) (gi out i)∈mc:=(kU.2 _ hy.1 (by omega)).1 (by simpa using h4);have Kj:mG mc (gi (gl xss k) (gi out i))=mc:=by unfold mG;rw [if_pos da]
   rw [Kj]at F2;refine aD O (aK O (aS O (tQ ?_)));exact⟨(k+1,mc,EG,Ii,S'),by show n - (k+1)<n - k;omega,(ajz O),bl,by show k+1<=n;omega,rZ,kU,jj,F2⟩
  refine bo O (bn (cJ O (aK O (aS O (tQ ?_)))));have eN:k=n:=by omega
  rw [eN,<-hR.len,List.drop_length,List.foldl_nil]at hf;refine⟨(i+1,mc,EG,Ii,S'),by show N+1 - (i+1)<N+1 - i;omega,(ajz O),bg,?_,rZ,kU,?_⟩
  ·have:=jj.length_le;show i+1<=mc.length;omega
  show qF xss (N+1 - (i+1)) (i+1) mc=fG N xss pt;rw [<-hb,hf];have e:N+1 - i=(N+1 - (i+1))+1:=by omega
  rw [e];simp only [qF];rw [aT (by omega)]
 refine bo O (bn (eG O ?_));refine fb O ?_;rw [Wo (by omega)]at hb;exact⟨Ao,co,by rw [hb],by rw [<-hb];exact a8.tail⟩
def iU(l:List Oper):List Nat:=l.filterMap (·.dst)
theorem IB{α β:Type}(f:α->Option β):∀(l:List α),(l.filterMap f).Nodup->∀(i j:Nat) (a b:α) (d:β),l[i]?=some a->l[j]?=some b->f a=some d->f b=some d->i=j
 | [],_,i,j,a,b,d,hi,_,_,_=>by simp at hi
 | x::l,hn,i,j,a,b,d,hi,hj,ha,hb=>by
  have mem:∀(k:Nat) (c:α),l[k]?=some c->f c=some d->d∈l.filterMap f:=fun k c hk hc=>List.mem_filterMap.2 ⟨c,List.mem_of_getElem? hk,hc⟩
  cases hx:f x with
  | none=>
   rw [List.filterMap_cons,hx]at hn;cases i with
   | zero=>simp at hi;subst hi;rw [hx]at ha;cases ha
   | succ i=>
    cases j with
    | zero=>simp at hj;subst hj;rw [hx]at hb;cases hb
    | succ j=>rw [IB f l hn i j a b d (by simpa using hi) (by simpa using hj) ha hb]
  | some y=>
   rw [List.filterMap_cons,hx]at hn;simp only [kz]at hn;cases i with
   | zero=>
    simp at hi;subst hi;rw [hx]at ha;cases ha;cases j with
    | zero=>rfl
    | succ j=>exact absurd (mem j b (by simpa using hj) hb) hn.1
   | succ i=>
    cases j with
    | zero=>
     simp at hj;subst hj;rw [hx]at hb;cases hb;exact absurd (mem i a (by simpa using hi) ha) hn.1
    | succ j=>rw [IB f l hn.2 i j a b d (by simpa using hi) (by simpa using hj) ha hb]
def valOf(o:Oper)(e:Env):ab:=match o.dst with
 | some d=>e d
 | none=>undef
def RE:Yd->Bool
 | .ex _=>true
 | .pr _=>false
def GF(l:List Oper)(ms:List Nat)(k:Nat):Nat:=ms.countP fun m=>jd l l.length k m
def Bj(l:List Oper)(ms:List Nat)(k:Nat):Nat:=ms.countP fun m=>!(jd l l.length m k) && !(Nat.beq m k)
def lG(l:List Oper)(ms:List Nat)(k:Nat):Nat:=ms.countP fun m=>Nat.beq m k || jd l l.length k m
def zU(l:List Oper)(ms:List Nat)(m:Nat):Bool:=ms.all fun m'=>Nat.beq m' m || jd l l.length m m' || jd l l.length m' m
def Yd.at_(c ph:Nat):Yd->ab->aa->Prop
 | .ex v,u,_=>u=v
 | .pr p,u,w=>c=ph->p u w
theorem tg{a b c:Nat}(h:c<=a)(e:a=b):c<=b:=e▸h
theorem cc_of{a b c d:Nat}(h:a<=c)(k:c<=d)(e:a=b:=by kernel_rfl)(f:d=b:=by kernel_rfl):c=b:=by omega
section
variable {P:Program} {N:Nat} {e:Env} {w:aa}
theorem TW(e1:Env)(d:Nat)(v:ab):bC e1 d v d=v:=by unfold bC;rw [Nat.beq_refl];rfl
theorem TX(e1:Env){d j:Nat}(v:ab)(h:j≠d):bC e1 d v j=e1 j:=by
 have:Nat.beq j d=false:=by
  cases hb:Nat.beq j d with
  | false=>rfl
  | true=>exact absurd (mO hb) h
 unfold bC;rw [this];rfl
theorem Fc{ms:List Nat}{p q:Nat->Bool}(h:∀m∈ms,p m=true->q m=true):ms.countP p<=ms.countP q:=List.countP_mono_left h
end
inductive Ye where
 | ex (v:ab)
 | pr (p:ab->aa->Prop)
 | p2 (j:Nat) (p:ab->ab->aa->Prop)
 | al (q:ab->Prop) (p:ab->aa->Prop)
def vl(l:List Oper)(e:Env)(k:Nat):ab:=match l[k]? with
 | some o=>valOf o e
 | none=>undef
def Ye.holds(uu:Nat->ab):Ye->ab->aa->Prop
 | .ex v,u,_=>u=v
 | .pr p,u,w=>p u w
 | .p2 j p,u,w=>p (uu j) u w
 | .al q p,u,w=>q u/\p u w
def Ye.o7:Ye->Prop
 | .ex _=>True
 | .pr p=>∀v w w',p v w->Below w.heap.size w w'->p v w'
 | .p2 _ p=>∀a v w w',p a v w->Below w.heap.size w w'->p a v w'
 | .al _ p=>∀v w w',p v w->Below w.heap.size w w'->p v w'
theorem Ye.aee(v:ab):(Ye.ex v).o7:=True.intro
theorem ly{v:ab}{l:List Ye}(h:∀y∈l,y.o7):∀y∈Ye.ex v::l,y.o7:=cg.2 ⟨True.intro,h⟩
theorem Ye.cH{p:ab->aa->Prop}(h:∀v w w',p v w->Below w.heap.size w w'->p v w'):(Ye.pr p).o7:=h
abbrev yU:Ye:= .ex undef
abbrev yI(i:Int):Ye:= .ex (aj i)
abbrev yB(b:Bool):Ye:= .ex (.bool b)
abbrev yP(a:ai):Ye:= .ex (.pointer a)
abbrev yS(a:ai)(n c:Nat):Ye:= .ex (.slice a n c)
theorem VH{j:Nat}{p:ab->ab->aa->Prop}(h:∀a v w w',p a v w->Below w.heap.size w w'->p a v w'):(Ye.p2 j p).o7:=h
theorem VG{q:ab->Prop}{p:ab->aa->Prop}(h:∀v w w',p v w->Below w.heap.size w w'->p v w'):(Ye.al q p).o7:=h
def KM:Ye->Bool
 | .ex _=>true
 | .pr _=>false
 | .p2 ..=>false
 | .al ..=>false
def N0(N:Nat)(l:List Oper)(ys:List Ye)(ms:List Nat):Bool:=
 l.all (fun o=>match o.dst with | some d=>Nat.blt d N | none=>true) && decide ((iU l).Nodup) && (l.zipIdx.all fun p=> (fk p.1).all fun ed=>Nat.blt ed.on p.2) && Nat.beq l.length ys.length && (l.zip ys).all (fun p=>p.1.dst.isSome || !KM p.2) && decide ms.Nodup && ms.all (fun m=>Nat.blt m l.length) && (ys.zipIdx.all fun p=>!(KM p.1) || !(ms.contains p.2)) && (ys.zipIdx.all fun p=>match p.1 with | .p2 j _=>jd l l.length p.2 j && Nat.blt j l.length | _=>true)
def Ye.at_(c ph:Nat)(uu:Nat->ab):Ye->ab->aa->Prop
 | .ex v,u,_=>u=v
 | .pr p,u,w=>c=ph->p u w
 | .p2 j p,u,w=>c=ph->p (uu j) u w
 | .al q p,u,w=>q u/\(c=ph->p u w)
def oV:List Oper->List Ye->(Nat->ab)->Nat->List (Nat×ab)
 | o::l,y::ys,u,i=>match o.dst,y with
  | some d,.ex v=> (d,v)::oV l ys u (i+1)
  | some d,.pr _=> (d,u i)::oV l ys u (i+1)
  | some d,.p2 ..=> (d,u i)::oV l ys u (i+1)
  | some d,.al ..=> (d,u i)::oV l ys u (i+1)
  | none,_=>oV l ys u (i+1)
 | _,_,_,_=> []
def mo(l:List Oper)(ys:List Ye):List Edge->List (Nat×ab)
 | []=> []
 | ed::r=>match ys[ed.on]?,(l[ed.on]?).bind (·.dst)with
  | some (.ex v),some d=> (d,v)::mo l ys r
  | _,_=>mo l ys r
section
variable{o:Oper}{y:Ye}{e1:Env}{w1 w2:aa}{id:Nat}{ys:List Ye}{ms:List Nat}
variable {P:Program} {N:Nat} {e:Env} {w:aa}
def fu(o:Oper)(y:Ye)(uu:Nat->ab)(e1:Env)(w1:aa):Env->aa->Prop:=fun e2 w2=>Below w1.heap.size w1 w2/\y.holds uu (valOf o e2) w2/\∀j,o.dst≠some j->e2 j=e1 j
def fF(o:Oper)(y:Ye)(uu:Nat->ab)(e1:Env):Env->aa->Prop:=fun e2 w2=>y.holds uu (valOf o e2) w2/\∀j,o.dst≠some j->e2 j=e1 j
theorem fu.dn{uu:Nat->ab}{d:Nat}{v:ab}(hd:o.dst=some d)(hb:Below w1.heap.size w1 w2)(hv:y.holds uu v w2):fu o y uu e1 w1 (bC e1 d v) w2:=by
 refine⟨hb,?_,fun j hj=>TX e1 v (fun h=>hj (by rw [hd,h]))⟩;unfold valOf;rw [hd];show y.holds uu (bC e1 d v d) w2;rw [TW];exact hv
theorem gh{uu:Nat->ab}{d:Nat}{v:ab}(hd:o.dst=some d)(hv:y.holds uu v w1):fu o y uu e1 w1 (bC e1 d v) w1:=fu.dn hd (Below.refl _ _) hv
theorem fF.dn{uu:Nat->ab}{d:Nat}{v:ab}(hd:o.dst=some d)(hv:y.holds uu v w2):fF o y uu e1 (bC e1 d v) w2:=by
 refine⟨?_,fun j hj=>TX e1 v (fun h=>hj (by rw [hd,h]))⟩;unfold valOf;rw [hd];show y.holds uu (bC e1 d v d) w2;rw [TW];exact hv
theorem fF.st{uu:Nat->ab}(hd:o.dst=none)(hv:y.holds uu undef w2):fF o y uu e1 e1 w2:=by
 refine⟨?_,fun j _=>O⟩;unfold valOf;rw [hd];exact hv
def wy(P:Program)(N:Nat)(l:List Oper)(ys:List Ye)(ms:List Nat)(e:Env)(w:aa)(i:Nat)(o:Oper):Prop:=
 ∀(e1:Env) (w1:aa) (c:Nat),GF l ms i<=c->c<=Bj l ms i->(c=0->Below w.heap.size w w1)->(∀(j:Nat) (y:Ye) (o':Oper),jd l l.length i j=true->ys[j]?=some y->l[j]?=some o'->y.at_ c (lG l ms j) (vl l e1) (valOf o' e1) w1)->(∀(j:Nat) (o':Oper),l[j]?=some o'->jd l l.length j i=true->valOf o' e1=valOf o' e)->(∀(m:Nat) (y:Ye) (o':Oper),gg ms m=true->zU l ms m=true->lG l ms m=c->ys[m]?=some y->l[m]?=some o'->y.at_ c (lG l ms m) (vl l e1) (valOf o' e1) w1)->
  bif gg ms i then ak P N l.toArray (fF o (ys.getD i (.pr fun _ _=>True)) (vl l e1) (ext (mix e1 e (iU l)) (mo l ys (fk o)))) [o] (ext (mix e1 e (iU l)) (mo l ys (fk o))) w1
  else ak P N l.toArray (fu o (ys.getD i (.pr fun _ _=>True)) (vl l e1) (ext (mix e1 e (iU l)) (mo l ys (fk o))) w1) [o] (ext (mix e1 e (iU l)) (mo l ys (fk o))) w1
theorem Ur{ops:Array Oper}{uu:Nat->ab}{d:Nat}{v:ab}(h:tv ops N e1 o=some (d,v))(hv:y.holds uu v w1):ak P N ops (fu o y uu e1 w1) [o] e1 w1:= .tv h (fu.dn (TD h) (Below.refl _ _) hv)
theorem bq{ops:Array Oper}{uu:Nat->ab}{d:Nat}{v:ab}(hd:o.dst=some d)(hv:y.holds uu v w1):ak P N ops (fu o y uu e1 w1) [] (bC e1 d v) w1:=ak.n (fu.dn hd (Below.refl _ _) hv)
theorem bZ{l:List Oper}{i:Nat}{d:Nat}{v:ab}(h:((gg ms i,(ys.getD i (.pr fun _ _=>True))),fun e1=>tv l.toArray N (ext (mix e1 e (iU l)) (mo l ys (fk o))) o)=((false,.ex v),fun _=>some (d,v))):wy P N l ys ms e w i o:=fun e1 w1 c _ _ _ _ _ _=>by
 have h1:=congrFun (Prod.mk.inj h).2 e1;rw [(Prod.mk.inj (Prod.mk.inj h).1).1,(Prod.mk.inj (Prod.mk.inj h).1).2];exact Ur h1 O
theorem cP{l:List Oper}{i:Nat}(h:∀(e1:Env) (w1:aa),Below w.heap.size w w1->(∀(j:Nat) (y:Ye) (o':Oper),jd l l.length i j=true->ys[j]?=some y->l[j]?=some o'->y.at_ 0 (lG l ms j) (vl l e1) (valOf o' e1) w1)->(∀(j:Nat) (o':Oper),l[j]?=some o'->jd l l.length j i=true->valOf o' e1=valOf o' e)->(∀(m:Nat) (y:Ye) (o':Oper),gg ms m=true->zU l ms m=true->lG l ms m=0->ys[m]?=some y->l[m]?=some o'->y.at_ 0 (lG l ms m) (vl l e1) (valOf o' e1) w1)->
 ak P N l.toArray (fu o (ys.getD i (.pr fun _ _=>True)) (vl l e1) (ext (mix e1 e (iU l)) (mo l ys (fk o))) w1) [o] (ext (mix e1 e (iU l)) (mo l ys (fk o))) w1) (ht:gg ms i=false:=by kernel_rfl) (hh:Bj l ms i=0:=by kernel_rfl):wy P N l ys ms e w i o:=fun e1 w1 c _ ea hb hp bc hq=>by
 obtain rfl:c=0:=by omega
 rw [ht];exact h e1 w1 (hb rfl) hp bc hq
theorem ju{l:List Oper}{i:Nat}(h:∀(e1:Env) (w1:aa),Below w.heap.size w w1->(∀(j:Nat) (y:Ye) (o':Oper),jd l l.length i j=true->ys[j]?=some y->l[j]?=some o'->y.at_ 0 (lG l ms j) (vl l e1) (valOf o' e1) w1)->(∀(j:Nat) (o':Oper),l[j]?=some o'->jd l l.length j i=true->valOf o' e1=valOf o' e)->(∀(m:Nat) (y:Ye) (o':Oper),gg ms m=true->zU l ms m=true->lG l ms m=0->ys[m]?=some y->l[m]?=some o'->y.at_ 0 (lG l ms m) (vl l e1) (valOf o' e1) w1)->
 ak P N l.toArray (fF o (ys.getD i (.pr fun _ _=>True)) (vl l e1) (ext (mix e1 e (iU l)) (mo l ys (fk o)))) [o] (ext (mix e1 e (iU l)) (mo l ys (fk o))) w1) (ht:gg ms i=true:=by kernel_rfl) (hh:Bj l ms i=0:=by kernel_rfl):wy P N l ys ms e w i o:=fun e1 w1 c _ ea hb hp bc hq=>by
 obtain rfl:c=0:=by omega
 rw [ht];exact h e1 w1 (hb rfl) hp bc hq
theorem dP{l:List Oper}{i:Nat}(b:Nat)(h:∀(e1:Env) (w1:aa),(∀(j:Nat) (y:Ye) (o':Oper),jd l l.length i j=true->ys[j]?=some y->l[j]?=some o'->y.at_ b (lG l ms j) (vl l e1) (valOf o' e1) w1)->(∀(j:Nat) (o':Oper),l[j]?=some o'->jd l l.length j i=true->valOf o' e1=valOf o' e)->(∀(m:Nat) (y:Ye) (o':Oper),gg ms m=true->zU l ms m=true->lG l ms m=b->ys[m]?=some y->l[m]?=some o'->y.at_ b (lG l ms m) (vl l e1) (valOf o' e1) w1)->
 ak P N l.toArray (fu o (ys.getD i (.pr fun _ _=>True)) (vl l e1) (ext (mix e1 e (iU l)) (mo l ys (fk o))) w1) [o] (ext (mix e1 e (iU l)) (mo l ys (fk o))) w1) (ht:gg ms i=false:=by kernel_rfl) (hl:GF l ms i=b:=by kernel_rfl) (hh:Bj l ms i=b:=by kernel_rfl):wy P N l ys ms e w i o:=fun e1 w1 c fB ea _ hp bc hq=>by
 obtain rfl:c=b:=by omega
 rw [ht];exact h e1 w1 hp bc hq
theorem sP{l:List Oper}{i:Nat}(b:Nat)(h:∀(e1:Env) (w1:aa),(∀(j:Nat) (y:Ye) (o':Oper),jd l l.length i j=true->ys[j]?=some y->l[j]?=some o'->y.at_ b (lG l ms j) (vl l e1) (valOf o' e1) w1)->(∀(j:Nat) (o':Oper),l[j]?=some o'->jd l l.length j i=true->valOf o' e1=valOf o' e)->(∀(m:Nat) (y:Ye) (o':Oper),gg ms m=true->zU l ms m=true->lG l ms m=b->ys[m]?=some y->l[m]?=some o'->y.at_ b (lG l ms m) (vl l e1) (valOf o' e1) w1)->
 ak P N l.toArray (fF o (ys.getD i (.pr fun _ _=>True)) (vl l e1) (ext (mix e1 e (iU l)) (mo l ys (fk o)))) [o] (ext (mix e1 e (iU l)) (mo l ys (fk o))) w1) (ht:gg ms i=true:=by kernel_rfl) (hl:GF l ms i=b:=by kernel_rfl) (hh:Bj l ms i=b:=by kernel_rfl):wy P N l ys ms e w i o:=fun e1 w1 c fB ea _ hp bc hq=>by
 obtain rfl:c=b:=by omega
 rw [ht];exact h e1 w1 hp bc hq
theorem aP{l:List Oper}{i:Nat}(h:∀(e1:Env) (w1:aa),ak P N l.toArray (fu o (ys.getD i (.pr fun _ _=>True)) (vl l e1) (ext (mix e1 e (iU l)) (mo l ys (fk o))) w1) [o] (ext (mix e1 e (iU l)) (mo l ys (fk o))) w1)(ht:gg ms i=false:=by kernel_rfl):wy P N l ys ms e w i o:=fun e1 w1 c _ _ _ _ _ _=>by
 rw [ht];exact h e1 w1
def CL(P:Program)(N:Nat)(l:List Oper)(ys:List Ye)(ms:List Nat)(e:Env)(w:aa):Nat->List Oper->Prop
 | _,[]=>True
 | i,o::r=>wy P N l ys ms e w i o/\CL P N l ys ms e w (i+1) r
theorem CL.get{l:List Oper}:∀ {r:List Oper} {i:Nat},CL P N l ys ms e w i r->∀k o,r[k]?=some o->wy P N l ys ms e w (i+k) o
 | [],_,_,k,o,hk=>by simp at hk
 | x::r,i,h,0,o,hk=>by simp at hk;subst hk;exact h.1
 | x::r,i,h,k+1,o,hk=>by
  have:=CL.get h.2 k o (by simpa using hk);rw [show i+1+k=i+ (k+1) by omega]at this;exact this
theorem NV{l:List Oper}{ys:List Ye}{e1:Env}:∀(af:List Edge),(∀ed∈af,∀(v:ab) (o':Oper),ys[ed.on]?=some (.ex v)->l[ed.on]?=some o'->valOf o' e1=v)->Mt e1 (mo l ys af)
 | [],_=>aw
 | ed::r,h=>by
  have hr:=NV r (fun x hx=>h x (eb _ hx));unfold mo
  split
  ·rename_i v d hy hd;refine⟨?_,hr⟩;cases ho:l[ed.on]? with
   | none=>rw [ho]at hd;cases hd
   | some o'=>
    rw [ho]at hd;have ug:o'.dst=some d:=hd;have:=h ed (by simp) v o' hy ho;unfold valOf at this;rw [ug]at this;exact this
  ·exact hr
theorem N4{e1 e:Env}:∀(l:List Oper) (ys:List Ye) (i:Nat),l.length=ys.length->(iU l).Nodup->(∀(k:Nat) (v:ab) (o:Oper),ys[k]?=some (.ex v)->l[k]?=some o->valOf o e1=v\/o.dst=none)->
 ∃u:Nat->ab,ext e (oV l ys u i)=mix e1 e (iU l)/\(∀(k:Nat) (o:Oper),l[k]?=some o->u (i+k)=valOf o e1)
 | [],[],i,_,_,_=> ⟨fun _=>undef,by funext j;rfl,fun k o h=>by simp at h⟩
 | [],y::ys,i,hl,_,_=>by simp at hl
 | o::l,[],i,hl,_,_=>by simp at hl
 | o::l,y::ys,i,hl,hn,h=>by
  have uo:(iU l).Nodup:=by
   unfold iU at hn|-;rw [List.filterMap_cons]at hn
   split at hn
   ·exact hn
   ·exact(kz.1 hn).2
  obtain⟨u,hu,pY⟩:=N4 (e1:=e1) (e:=e) l ys (i+1) (by simpa using hl) uo (fun k v o' hy ho=>h (k+1) v o' (by simpa using hy) (by simpa using ho));have Ib:∀(l:List Oper) (ys:List Ye) (i:Nat) (u u':Nat->ab),(∀k,i<=k->u k=u' k)->oV l ys u i=oV l ys u' i:=by
   intro l
   induction l with
   | nil=>intros;rfl
   | cons o l ih=>
    intro ys i u u' hk;cases ys with
    | nil=>rfl
    | cons y ys=>
     have h1:=ih ys (i+1) u u' (fun k eN=>hk k (by omega));simp only [oV];rw [h1,hk i (by omega)]
  have hc:=Ib l ys (i+1) (fun k=>if k=i then valOf o e1 else u k) u (fun k hk=>by show(if k=i then _ else _)=_;rw [aR (by omega)]);refine⟨fun k=>if k=i then valOf o e1 else u k,?_,fun k o' hk=>?_⟩
  ·cases hd:o.dst with
   | none=>
    have Ir:iU (o::l)=iU l:=by unfold iU;rw [List.filterMap_cons,hd]
    simp only [oV,hd,hc,hu,Ir]
   | some d=>
    have Ir:iU (o::l)=d::iU l:=by unfold iU;rw [List.filterMap_cons,hd]
    have ta:valOf o e1=e1 d:=by unfold valOf;rw [hd]
    have ib:∀v,v=e1 d->bC (mix e1 e (iU l)) d v=mix e1 e (d::iU l):=by
     intro v hv;funext j;simp only [bC,mix,gg];cases hb:Nat.beq j d with
     | true=>rw [mO hb,hv];rfl
     | false=>rfl
    rw [Ir];cases y with
    | ex v=>
     have h0:=h 0 v o O O;simp only [oV,hd,ext,hc,hu];refine ib v ?_;rcases h0 with h0 | h0
     ·rw [<-h0,ta]
     ·rw [hd]at h0;cases h0
    | pr p=>
     simp only [oV,hd,ext,hc,hu,aT];exact ib _ ta
    | p2 j p=>
     simp only [oV,hd,ext,hc,hu,aT];exact ib _ ta
    | al q p=>
     simp only [oV,hd,ext,hc,hu,aT];exact ib _ ta
  ·cases k with
   | zero=>simp at hk;subst hk;simp
   | succ k=>
    have:=pY k o' (by simpa using hk);show(if i+ (k+1)=i then _ else u (i+ (k+1)))=_;rw [aR (by omega),<-this];congr 1;omega
theorem ajx{l:List Oper}{Q:jr}(ms:List Nat)(ys:List Ye)(hm:P.follows .mixedOrders=true)(bz:N0 N l ys ms=true)(J5:∀y∈ys,y.o7)
 (DW:CL P N l ys ms e w 0 l) (vx:∀u w1,(ms=[]->Below w.heap.size w w1)->(∀(k:Nat) (p:ab->aa->Prop),ys[k]?=some (Ye.pr p)->lG l ms k=ms.length->p (u k) w1)->(∀(k j:Nat) (p:ab->ab->aa->Prop),ys[k]?=some (Ye.p2 j p)->lG l ms k=ms.length->p (u j) (u k) w1)->(∀(k:Nat) (q:ab->Prop) (p:ab->aa->Prop),ys[k]?=some (Ye.al q p)->q (u k)/\(lG l ms k=ms.length->p (u k) w1))->Q .normal (ext e (oV l ys u 0)) w1):Cd P N (.region id l.toArray true) Q e w:= .mk' fun a ha=>by
 simp only [N0,Bool.and_eq_true,List.all_eq_true,nB]at bz;obtain⟨⟨⟨⟨⟨⟨⟨⟨h1,h2⟩,h3⟩,hlen⟩,Gc⟩,QL⟩,Kb⟩,hmy⟩,gA⟩:=bz;have Kf:∀(k j:Nat) (p:ab->ab->aa->Prop),ys[k]?=some (.p2 j p)->jd l l.length k j=true/\j<l.length:=by
  intro k j p hk;have:=gA (.p2 j p,k) (by rw [List.mem_iff_getElem?];exact⟨k,by simp [hk]⟩);simpa [Nat.blt_eq]using this
 have qR:l.length=ys.length:=mO hlen;have vu:∀(i:Nat) (o:Oper),l[i]?=some o->∀ed∈fk o,ed.on<i:=by
  intro i o ho ed fh;have:=h3 (o,i) (by
   obtain⟨hi,xn⟩:=gw.1 ho;rw [List.mem_iff_getElem?];exact⟨i,by simp [ho]⟩)
  simpa [Nat.blt_eq]using this ed fh
 have hdN:∀(i:Nat) (o:Oper) (d:Nat),l[i]?=some o->o.dst=some d->d<N:=by
  intro i o d ho hd;have:=h1 o (List.mem_of_getElem? ho);rw [hd]at this;simpa [Nat.blt_eq]using this
 have hexd:∀(i:Nat) (o:Oper) (v:ab),l[i]?=some o->ys[i]?=some (.ex v)->o.dst≠none:=by
  intro i o v ho hy hd;have:=Gc (o,.ex v) (by
   rw [List.mem_iff_getElem?];exact⟨i,by rw [List.getElem?_zip_eq_some];exact⟨ho,hy⟩⟩)
  simp [hd,KM]at this
 refine wp_region_any hm ?_
 let qI:Array Bool->Nat:=fun listed=>ms.countP fun m=>listed.getD m false
 have key:∀(fuel:Nat) (listed:Array Bool) (a1:Act) (e1:Env) (w1:aa),js N a1 e1->(qI listed=0->Below w.heap.size w w1)->(∀j,gg (iU l) j=false->e1 j=e j)->listed.size=l.length->
  (∀(i:Nat) (y:Ye) (o:Oper),listed.getD i false=true->ys[i]?=some y->l[i]?=some o->y.at_ (qI listed) (lG l ms i) (vl l e1) (valOf o e1) w1)->(∀(i:Nat) (o:Oper),listed.getD i false=true->l[i]?=some o->∀ed∈fk o,listed.getD ed.on false=true)->(∀(i:Nat) (o:Oper),listed.getD i false=false->l[i]?=some o->valOf o e1=valOf o e)->(l.length - fuel<=(List.range l.length).countP fun i=>listed.getD i false)->
  wpAny P .any l.toArray (low N Q) fuel listed a1 w1:=by
  have iV:∀(listed:Array Bool) (a1:Act) (e1:Env) (w1:aa),js N a1 e1->(qI listed=0->Below w.heap.size w w1)->(∀j,gg (iU l) j=false->e1 j=e j)->
   (∀(i:Nat) (y:Ye) (o:Oper),listed.getD i false=true->ys[i]?=some y->l[i]?=some o->y.at_ (qI listed) (lG l ms i) (vl l e1) (valOf o e1) w1)->(∀i,i<l.length->listed.getD i false=true)->low N Q .normal a1 w1:=by
   intro listed a1 e1 w1 hr hb oZ hS cO;have lq:qI listed=ms.length:=by
    show ms.countP _=ms.length;rw [List.countP_eq_length];intro m yT;exact cO m (by simpa [Nat.blt_eq]using Kb m yT)
   obtain⟨u,hu,pY⟩:=N4 (e1:=e1) (e:=e) l ys 0 qR h2 (fun k v o hy ho=> .inl (hS k _ o (cO k (gw.1 ho).1) hy ho));refine⟨e1,hr,?_⟩;have:=vx u w1 (fun h0=>hb (by rw [lq,h0];rfl)) (fun k p hk fC=>by
    have ji:k<l.length:=by rw [qR];exact(gw.1 hk).1
    have h5:=hS k _ l[k] (cO k ji) hk (fU ji);have h6:=pY k l[k] (fU ji);rw [Nat.zero_add]at h6;rw [h6];exact h5 (by rw [lq,fC])) (fun k j p hk fC=>by
    have ji:k<l.length:=by rw [qR];exact(gw.1 hk).1
    have hj:=Kf k j p hk;have h5:=hS k _ l[k] (cO k ji) hk (fU ji);have h6:=pY k l[k] (fU ji);have h7:=pY j l[j] (fU hj.2);rw [Nat.zero_add]at h6 h7;have h8:vl l e1 j=valOf l[j] e1:=by unfold vl;rw [List.getElem?_eq_getElem hj.2]
    rw [h6,h7,<-h8];exact h5 (by rw [lq,fC])) (fun k q p hk=>by
    have ji:k<l.length:=by rw [qR];exact(gw.1 hk).1
    have h5:=hS k _ l[k] (cO k ji) hk (fU ji);have h6:=pY k l[k] (fU ji);rw [Nat.zero_add]at h6;rw [h6];exact⟨h5.1,fun fC=>h5.2 (by rw [lq,fC])⟩)
   rw [hu,GH oZ]at this;exact this
  have DQ:∀(listed:Array Bool),listed.size=l.length->Region.ready .any l.toArray listed=[]->∀i,i<l.length->listed.getD i false=true:=by
   intro listed lP mx i
   induction i using Nat.strongRecOn with
   | _ i ih=>
    intro hi;cases um:listed.getD i false with
    | true=>rfl
    | false=>
     exfalso;have:i∈Region.ready .any l.toArray listed:=by
      rw [mem_ready];refine⟨?_,l[i],by simp [hi],fun ed fh gQ=>ih ed.on (vu i _ (fU hi) ed (pa.2 ⟨fh,gQ⟩)) (by have:=vu i _ (fU hi) ed (pa.2 ⟨fh,gQ⟩);omega)⟩;rw [iI,pv (by omega)]at um|-;exact um
     rw [mx]at this;cases this
  intro fuel
  induction fuel with
  | zero=>
   intro listed a1 e1 w1 hr hb oZ lP hS bE zc lq;have cO:∀i,i<l.length->listed.getD i false=true:=by
    have h4:(List.range l.length).countP (fun i=>listed.getD i false)=(List.range l.length).length:=by
     have:=List.countP_le_length (p:=fun i=>listed.getD i false) (l:=List.range l.length);simp at this lq|-;omega
    rw [List.countP_eq_length]at h4;intro i hi;exact h4 i (by simpa using hi)
   refine⟨?_,iV listed a1 e1 w1 hr hb oZ hS cO⟩;rw [List.eq_nil_iff_forall_not_mem];intro i hi;obtain⟨h5,o,ho,_⟩:=mem_ready.1 hi;have pP:i<l.length:=by
    rcases Nat.lt_or_ge i l.length with h | h
    ·exact h
    ·simp [qy h]at ho
   have h6:=cO i pP;rw [iI,pv (by omega)]at h5 h6;simp at h5 h6;rw [h5]at h6;cases h6
  | succ fuel ih=>
   intro listed a1 e1 w1 hr hb oZ lP hS bE zc lq;refine⟨fun mx=>iV listed a1 e1 w1 hr hb oZ hS (DQ listed lP mx),fun i hi=>?_⟩;obtain⟨bc,o,ho,AM⟩:=mem_ready.1 hi;have kV:l[i]?=some o:=by simpa using ho
   have pP:i<l.length:=(gw.1 kV).1;have gF:∀ed∈fk o,listed.getD ed.on false=true:=fun ed fh=>AM ed (pa.1 fh).1 (pa.1 fh).2
   have sk:listed.getD i false=false:=by
    have h5:=bc;rw [iI,pv (by omega)]at h5|-;exact h5
   have ot:∀k,(listed.setIfInBounds i true).getD k false=if k=i then true else listed.getD k false:=by
    intro k;rw [iI,ru]
    by_cases fo:k=i
    ·subst fo;rw [aT rfl,aT (by omega),aT rfl];rfl
    ·rw [aR (fun e=>fo e.symm),aR fo,<-iI]
   have fB:GF l ms i<=qI listed:=Fc fun m _ h=>HI bE kV gF _ _ h
   have ea:qI listed<=Bj l ms i:=Fc fun m _ h=>by
    have cS:Nat.beq m i=false:=by
     cases hb:Nat.beq m i with
     | false=>rfl
     | true=>rw [mO hb,sk]at h;cases h
    have ud:jd l l.length m i=false:=by
     cases hb:jd l l.length m i with
     | false=>rfl
     | true=>have:=wA bE _ _ _ hb h;rw [sk]at this;cases this
    simp [cS,ud]
   have fC:∀(j:Nat),listed.getD j false=true->lG l ms j<=qI listed:=fun j hj=>Fc fun m _ h=>by
    rw [Bool.or_eq_true]at h;rcases h with h | h
    ·rw [mO h];exact hj
    ·exact wA bE _ _ _ h hj
   have ax:=DW.get i o kV e1 w1 (qI listed);rw [Nat.zero_add]at ax;have ax:=ax fB ea hb (fun j y o' ud hy yV=>hS j y o' (HI bE kV gF _ _ ud) hy yV) (fun j o' hj ud=>by
    refine zc j o' ?_ hj;cases vA:listed.getD j false with
    | false=>rfl
    | true=>have:=wA bE _ _ _ ud vA;rw [sk]at this;cases this) (fun m y o' hm sW hphm hy QT=>by
    refine hS m y o' ?_ hy QT;cases QF:listed.getD m false with
    | true=>rfl
    | false=>
     exfalso;have h8:=zZ (fun k=>listed.getD k false) (fun k=>if k=m then true else listed.getD k false) m QF (fun k=>O) ms QL (xQ.1 hm);have h9:ms.countP (fun k=>if k=m then true else listed.getD k false)<=lG l ms m:=Fc fun m' kU h=>by
      by_cases e:m'=m
      ·rw [e,Nat.beq_refl];rfl
      ·rw [aR e]at h;simp only [zU,List.all_eq_true]at sW;have fH:=sW m' kU;cases pI:jd l l.length m m' with
       | true=>rw [Bool.or_true]
       | false=>
        rw [pI,Bool.or_false,Bool.or_eq_true]at fH;rcases fH with fH | fH
        ·exact absurd (mO fH) e
        ·have:=wA bE _ _ _ fH h;rw [QF]at this;cases this
     have wL:ms.countP (fun k=>listed.getD k false)=qI listed:=O;omega)
   rw [GH oZ,yo (NV (fk o) (fun ed fh v o' hy yV=>hS ed.on _ o' (gF ed fh) hy yV))]at ax
   let turns:Prop:=gg ms i=true
   let KK:Env->aa->Prop:=fun e2 w2=> (gg ms i=false->Below w1.heap.size w1 w2)/\(ys.getD i (.pr fun _ _=>True)).holds (vl l e1) (valOf o e2) w2/\∀j,o.dst≠some j->e2 j=e1 j
   have acb:∃K:Env->aa->Prop,(∀e2 w2,K e2 w2->KK e2 w2)/\ak P N l.toArray K [o] e1 w1:=by
    cases kG:gg ms i with
    | true=>
     rw [kG]at ax;exact⟨_,fun e2 w2 h=> ⟨fun h0=> (by rw [kG]at h0;cases h0),h.1,h.2⟩,ax⟩
    | false=>
     rw [kG]at ax;exact⟨_,fun e2 w2 h=> ⟨fun _=>h.1,h.2.1,h.2.2⟩,ax⟩
   obtain⟨K,De,Gj⟩:=acb;have mB:=Gj.run a1 hr;have FW:qI (listed.setIfInBounds i true)=if gg ms i=true then qI listed+1 else qI listed:=by
    show ms.countP _=_
    by_cases kG:gg ms i=true
    ·rw [aT kG];exact zZ (fun m=>listed.getD m false) (fun m=> (listed.setIfInBounds i true).getD m false) i sk ot ms QL (xQ.1 kG)
    ·rw [aR kG];refine List.countP_congr fun m yT=>?_
     rw [ot,aR (fun e=>kG (xQ.2 (by rw [<-e];exact yT)))]
   have pR:∀a2 w2,(∃e2,js N a2 e2/\K e2 w2)->wpAny P .any l.toArray (low N Q) fuel (listed.setIfInBounds i true) a2 w2:=by
    intro a2 w2 ⟨e2,xy,eP⟩;obtain⟨mY,uB,AO⟩:=De _ _ eP;have Ke:∀(k:Nat) (o':Oper),l[k]?=some o'->k≠i->valOf o' e2=valOf o' e1:=by
     intro k o' bz fo;unfold valOf;cases hd:o'.dst with
     | none=>rfl
     | some d=>exact AO d (fun h=>fo (IB _ l h2 k i o' o d bz kV hd h))
    have Gl:∀j,j≠i->vl l e2 j=vl l e1 j:=by
     intro j hj;unfold vl;cases yV:l[j]? with
     | none=>rfl
     | some o'=>exact Ke j o' yV hj
    refine ih _ a2 e2 w2 xy (fun h0=>?_) (fun j hj=>?_) (by simpa using lP) (fun k y o' hk hy bz=>?_) (fun k o' hk bz ed fh=>?_) (fun k o' hk bz=>?_) ?_
    ·rw [FW]at h0
     by_cases kG:gg ms i=true
     ·rw [aT kG]at h0;omega
     ·rw [aR kG]at h0;have:=mY (by simpa using kG);exact(hb h0).trans (this.mono (hb h0).size)
    ·have cS:o.dst≠some j:=by
      intro hd;have:gg (iU l) j=true:=by rw [xQ];exact List.mem_filterMap.2 ⟨o,List.mem_of_getElem? kV,hd⟩
      rw [this]at hj;cases hj
     rw [AO j cS];exact oZ j hj
    ·by_cases fo:k=i
     ·subst fo;rw [kV]at bz;cases bz;have:ys.getD k (.pr fun _ _=>True)=y:=by simp [dt,hy]
      rw [this]at uB;cases y with
      | ex v=>exact uB
      | pr p=>exact fun _=>uB
      | p2 j p=>
       have hj:=Kf k j p hy;have vA:listed.getD j false=true:=HI bE kV gF _ _ hj.1;have ou:j≠k:=fun e=>by rw [e,sk]at vA;cases vA
       exact fun _=>by rw [Gl j ou];exact uB
      | al q p=>exact⟨uB.1,fun _=>uB.2⟩
     ·have eN:listed.getD k false=true:=by rw [ot,aR fo]at hk;exact hk
      have h7:=hS k y o' eN hy bz;rw [Ke k o' bz fo];cases y with
      | ex v=>exact h7
      | pr p=>
       intro hc;rw [FW]at hc
       by_cases kG:gg ms i=true
       ·rw [aT kG]at hc;have:=fC k eN;omega
       ·rw [aR kG]at hc;have hl:=J5 _ (List.mem_of_getElem? hy);exact hl _ _ _ (h7 hc) (mY (by simpa using kG))
      | p2 j p=>
       have hj:=Kf k j p hy;have vA:listed.getD j false=true:=wA bE _ _ _ hj.1 eN;have ou:j≠i:=fun e=>by rw [e,sk]at vA;cases vA
       intro hc;rw [Gl j ou];rw [FW]at hc
       by_cases kG:gg ms i=true
       ·rw [aT kG]at hc;have:=fC k eN;omega
       ·rw [aR kG]at hc;have hl:=J5 _ (List.mem_of_getElem? hy);exact hl _ _ _ _ (h7 hc) (mY (by simpa using kG))
      | al q p=>
       refine⟨h7.1,fun hc=>?_⟩;rw [FW]at hc
       by_cases kG:gg ms i=true
       ·rw [aT kG]at hc;have:=fC k eN;omega
       ·rw [aR kG]at hc;have hl:=J5 _ (List.mem_of_getElem? hy);exact hl _ _ _ (h7.2 hc) (mY (by simpa using kG))
    ·rw [ot]
     by_cases xj:ed.on=i
     ·rw [aT xj]
     ·rw [aR xj]
      by_cases fo:k=i
      ·subst fo;rw [kV]at bz;cases bz;exact gF ed fh
      ·rw [ot,aR fo]at hk;exact bE k o' hk bz ed fh
    ·rw [ot]at hk
     by_cases fo:k=i
     ·rw [aT fo]at hk;cases hk
     ·rw [aR fo]at hk;rw [Ke k o' bz fo];exact zc k o' hk bz
    ·have Dt:(List.range l.length).countP (fun k=> (listed.setIfInBounds i true).getD k false)=(List.range l.length).countP (fun k=>listed.getD k false)+1:=
      zZ (fun k=>listed.getD k false) (fun k=> (listed.setIfInBounds i true).getD k false) i sk ot _ List.nodup_range (by simpa using pP)
     rw [Dt];omega
   unfold wpOp;rw [ho];unfold wpList at mB;show if _ then _ else _
   by_cases hw:Region.wanted o (yielded l.toArray a1.tmps)=true
   ·rw [aT hw]at mB|-;rcases mB with h5 | ⟨_,a0,w0,h5⟩
    ·refine .inl (Hu h5 (fun a2 w2 hx=>?_) (fun x a w hx hq=>hx hq.1));exact pR a2 w2 hx.2
    ·exact absurd h5.1 (by simp)
   ·rw [aR hw]at mB|-;exact pR _ _ mB.2
 refine key l.length (Array.replicate l.length false) a e _ ha (fun _=> ⟨⟨O,O,O,dC _,fun _ _=>O⟩,fun _=>Nat.le_add_right _ _⟩) (fun _ _=>O) (by simp) (fun i y o hi=>?_) (fun i o hi=>?_) (fun _ _ _ _=>O) (by omega)
 ·exfalso;rw [iI,Array.getElem?_replicate]at hi
  split at hi<;>simp at hi
 ·exfalso;rw [iI,Array.getElem?_replicate]at hi
  split at hi<;>simp at hi
theorem jm{l:List Oper}{Q:jr}(ms:List Nat)(ys:List Ye)(J5:∀y∈ys,y.o7)(DW:CL P N l ys ms e w 0 l)(vx:∀u w1,(ms=[]->Below w.heap.size w w1)->(∀(k:Nat) (p:ab->aa->Prop),ys[k]?=some (Ye.pr p)->lG l ms k=ms.length->p (u k) w1)->(∀(k j:Nat) (p:ab->ab->aa->Prop),ys[k]?=some (Ye.p2 j p)->lG l ms k=ms.length->p (u j) (u k) w1)->(∀(k:Nat) (q:ab->Prop) (p:ab->aa->Prop),ys[k]?=some (Ye.al q p)->q (u k)/\(lG l ms k=ms.length->p (u k) w1))->Q .normal (ext e (oV l ys u 0)) w1)(hm:P.follows .mixedOrders=true:=by kernel_rfl)(bz:N0 N l ys ms=true:=by kernel_rfl):Cd P N (.region id l.toArray true) Q e w:=ajx ms ys hm bz J5 DW vx
end
theorem UN(x y:Int)(w:aa)(hx:0<=x/\x<=1048576)(hy:0<=y/\y<=1048576):aG prog 193 [.int .u64 x,.int .u64 y] w (fun v w'=>v= .tuple #[.int .u64 0,.int .u64 (x*y)]/\w'=w):=by
 have hxy:0<=x*y/\x*y<=1099511627776:=⟨Int.mul_nonneg hx.1 hy.1,Int.le_trans (Int.mul_le_mul hx.2 hy.2 hy.1 (by omega)) (by decide)⟩;have ex:x%4294967296=x:=by omega
 have ey:y%4294967296=y:=by omega
 have dx:x / 4294967296=0:=by omega
 have dy:y / 4294967296=0:=by omega
 refine bw func193 O ntmps193 O (oF O) (bb O (Hv (x) O O O (by omega) (by omega) (aq O (CG (0) O O O (by omega) (by omega) (aq O (Hv (y) O O O (by omega) (by omega) (aq O (CG (0) O O O (by omega) (by omega) (aq O ?_)))))))));refine CF (x*y) O O O (by simp) (by omega) ?_;refine aq O ?_;refine CF (0) O O O (by simp) (by omega) ?_;refine aq O (CG (x*y / 4294967296) O O O (by omega) (by omega) ?_);refine EL (x*y / 4294967296) O O O (by simp) (by omega) ?_;refine aq O (Hv (x*y / 4294967296) O O O (by omega) (by omega) (aq O (CG (0) O O O (by omega) (by omega) (aq O ?_))));refine CF (0) O O O (by simp) (by omega) ?_;refine EL (x*y / 4294967296) O O O (by simp) (by omega) ?_;refine aq O ?_;refine CF (0) O O O (by simp) (by omega) ?_;refine aq O ?_;refine EL (0) O O O (by simp) (by omega) ?_;refine aq O (CG (0) O O O (by omega) (by omega) ?_);refine EL (0) O O O (by simp) (by omega) ?_;refine aq O ?_;refine CF (x*y) O O O (by simp) (by omega) ?_;refine bD O (zp O O ?_);exact⟨O,O⟩
theorem UO(x y:Int)(w:aa)(hx:0<=x/\x<=1048576)(hy:0<=y/\y<=1048576):aG prog 146 [.int .u64 x,.int .u64 y] w (fun v w'=>v= .tuple #[.int .u64 0,.int .u64 (x*y)]/\w'=w):=by
 refine bw func146 O ntmps146 O (oF O) (b8 O (Cd.dZ O (aD O (aF (UN x y w hx hy) O ?_))));rintro _ _ ⟨rfl,rfl⟩;refine bD O (zp O O ?_);exact⟨O,O⟩
def rep(a n:Nat)(x v:Int):ah:=List.replicate a x++List.replicate (n - a) v
theorem afI{m n q:Nat}{x v:Int}(hm:m<=n)(hq:q<=n - m):((rep m n x v).map (Value.int .i64)).take m++ (List.range q).map (fun _=>Value.int .i64 x)++ ((rep m n x v).map (Value.int .i64)).drop (m+q)=(rep (m+q) n x v).map (Value.int .i64):=by
 have e1:(rep m n x v).map (Value.int .i64)=List.replicate m (Value.int .i64 x)++List.replicate (n - m) (Value.int .i64 v):=by simp [rep]
 have e2:(List.range q).map (fun _=>Value.int .i64 x)=List.replicate q (Value.int .i64 x):=by
  apply jV<;>simp
 rw [e1,e2,zF (by simp),List.drop_append];simp only [rep,qA,List.map_replicate,List.length_replicate,List.take_replicate,List.drop_replicate,Nat.min_self];rw [show m - (m+q)=0 by omega,show m+q - m=q by omega,show n - m - q=n - (m+q) by omega];simp
theorem HD(A:ai)(c:Nat)(x:Int)(n:Nat)(w:aa)(hR:bt w A 1 [x])(hn:n<=1048576):
 aG prog 85 [.slice A 1 c,aj n] w (fun v w'=>∃A',v= .slice A' n n/\St w w' [ar 2 A' n n (List.replicate n x)]):=by
 refine bw func85 O ntmps85 O (b7 O) (b8 O (gV O (by omega) ?_));refine aD O (ba O O ?_);refine lV (i:=1) O O (by decide) (aq O (lV (i:=(n:Int)) O O (nX _ (by omega)) (aF (UO 1 n _ (by omega) (by omega)) O ?_)));rintro _ w ⟨rfl,rfl⟩;rw [Int.one_mul];refine aq O (ak.gtr O O O (aq O ?_));refine cz 23 O (fun h=>absurd h (by decide)) (fun _=>?_);refine au O (aq O (au O (ak.gtr O O O (az O ?_))));refine gV O (by omega) (aD O (lV (i:=(n:Int)) O O (IntWalk.i64_in _ (by omega)) (sJ n (St.refl w) O O (by omega) ?_)));intro A1 w1 aC;refine aq O ?_;refine ML 0 0 (min 1 n) aC O (aC.b9 hR).2 (bu _) (by rw [NR];rfl) O (fun _ _=>O) O O ?_;intro w2 aE;refine az O ?_;have h3:St w w2 [ar 2 A1 n n (rep (min 1 n) n x 0)]:=by
  have e:([ar 2 A1 n n (List.replicate n 0)].set 0 { ar 2 A1 n n (List.replicate n 0)with vs:=(ar 2 A1 n n (List.replicate n 0)).vs.take 0++ (List.range (min 1 n)).map (fun j=>Value.int .i64 ([x].getD j 0))++ (ar 2 A1 n n (List.replicate n 0)).vs.drop (0+min 1 n) })=[ar 2 A1 n n (rep (min 1 n) n x 0)]:=by
   by_cases h0:n=0
   ·subst h0;rfl
   have h1:min 1 n=1:=by omega
   rw [h1];simp [ar,rep,tI]
  rw [<-e];exact aE
 refine Cd.loop (α:=Nat) (fun m=> [(7,.slice A1 n n),(8,aj m)]) (fun m w'=>St w w' [ar 2 A1 n n (rep m n x 0)]/\m<=n/\(0<n->0<m)) (fun m=>n - m) (min 1 n) (ajz O) ⟨h3,by omega,by omega⟩ ?_;rintro m e w3 ⟨aH,hm,hm0⟩;refine bb O (ba O O (az O ?_));refine aM _ O (fun h4=>?_) (fun h4=>?_)
 ·refine cW O ?_;have hlen:(rep m n x 0).length=n:=aH.zl 0 O;have rR:∀ {w1:aa},Below w3.heap.size w3 w1->Rd w1 A1 m (fun _=>aj x):=fun hb j hj=>by
   have h5:=(aH.ao hb).rd 0 O j (by show j<n;omega);have h6:((rep m n x 0).map (Value.int .i64)).getD j undef=aj x:=by simp [rep,dt,lh,hj]
   obtain⟨p,hp,hc⟩:=h5;exact⟨p,hp,hc.trans (aL some h6)⟩
  have jf:=afI (n:=n) (m:=m) (q:=min m (n - m)) (x:=x) (v:=0) hm (by omega);refine jm [7] [yI ((m:Int)),yS (A1) (n) (n),yI ((m:Int)),yS (cutAt A1 n m) (n - m) (n - m),yS (A1) (n) (n),yI ((m:Int)),yS (A1) (m) (n),.pr (fun v w'=>v=aj ((min m (n - m):Nat):Int)/\St w w' [ar 2 A1 n n (rep (m+min m (n - m)) n x 0)]),yI ((m:Int)+ ((min m (n - m):Nat):Int)),yI ((m:Int)+ ((min m (n - m):Nat):Int))] (ly (ly (ly (ly (ly (ly (ly (cg.2 ⟨Ye.cH (fun v w w' h hb=> ⟨h.1,h.2.ao hb⟩),(ly (ly (fun _ h=>by cases h)))⟩)))))))) ?_ ?_
  ·refine⟨?_,bZ O,?_,aP fun _ _=>yd O O O (by omega) (bq O O),bZ O,?_,aP fun _ _=>sI O O O (by omega) (bq O O),?_,?_,bZ O,aw⟩
   ·intro e1 w1 cc fB ea fz hp bc hq;show ak _ _ _ _ _ _ _;refine jq O (by exact bc 9 _ O (by kernel_rfl)) O (ak.n (gh O (by exact O)))
   ·intro e1 w1 cc fB ea fz hp bc hq;show ak _ _ _ _ _ _ _;refine jq O (by exact bc 9 _ O (by kernel_rfl)) O (ak.n (gh O (by exact O)))
   ·intro e1 w1 cc fB ea fz hp bc hq;show ak _ _ _ _ _ _ _;refine jq O (by exact bc 9 _ O (by kernel_rfl)) O (ak.n (gh O (by exact O)))
   ·refine ju fun e1 w1 hb hp bc hq=>?_
    refine ML 0 m (min m (n - m)) (aH.ao hb) O (f:=fun _=>aj x) (rR hb) (by omega) O O (fun _ _=>O) O O fun w5 a8=>ak.n ?_;exact fF.dn O ⟨O,by show St w w5 [⟨A1,n,n,_,(rep (m+min m (n - m)) n x 0).map (Value.int .i64)⟩];rw [<-jf];exact a8⟩
   refine dP 1 fun e1 w1 hp bc hq=>?_
   have fC:=hp 7 _ _ (by kernel_rfl) O O (by kernel_rfl);refine ajr O (by exact fC.1) O (by omega) (ak.n (gh O (by exact O)))
  intro u w5 _ hu _ _;have a8:=(hu 7 _ O (by kernel_rfl)).2;refine Hr O (tQ ?_);exact⟨m+min m (n - m),by have:=hm0 (by omega);omega,⟨O,by show Value.int .i64 _=Value.int .i64 _;congr 1,aw⟩,a8,by omega,by omega⟩
 refine bo O (bn (eG O ?_));refine fb O ?_;have:m=n:=by omega
 subst this;refine⟨A1,O,?_⟩;have e:rep m m x 0=List.replicate m x:=by simp [rep]
 rw [<-e];exact aH
end
section
variable{x y:Int}
theorem Ex{α:Type}[DecidableEq α]:∀(a b:List α),a.Nodup->(∀x∈a,x∈b)->a.length<=b.length
 | [],_,_,_=>bu _
 | x::a,b,hn,h=>by
  simp only [kz]at hn;have h1:=Ex a (b.erase x) hn.2 (fun y hy=>by
   rw [List.mem_erase_of_ne (fun e=>hn.1 (by rw [<-e];exact hy))];exact h y (by simp [hy]))
  have hx:=h x (by simp);have h2:=List.length_erase_of_mem hx;have h3:=List.length_pos_of_mem hx;simp only [List.length_cons];omega
theorem TE{α:Type}[DecidableEq α]{a b:List α}(hn:a.Nodup)(h:∀x∈a,x∈b)(hl:b.length<=a.length):∀x∈b,x∈a:=by
 intro y hy;apply yb;intro KC;have:=Ex (y::a) b (by simp [KC,hn]) (fun x hx=>by
  rcases ij.1 hx with rfl | hx
  ·exact hy
  exact h x hx)
 simp at this;omega
def ry(N:Nat)(xss:ag):Prop:=∀p∈xss,∀x y:Int,0<=x->x<N->0<=y->y<N->gi p x=gi p y->x=y
theorem Reach.range{N:Nat}{xss:ag}(hs:Sys N xss)(h0:0<=x)(h1:x<N)(h:Reach xss x y):0<=y/\y<N:=by
 induction h with
 | refl=>exact⟨h0,h1⟩
 | step _ hp ih=>exact(hs _ hp).2 _ ih.1 ih.2
theorem Reach.back{N:Nat}{xss:ag}(hs:Sys N xss)(hi:ry N xss)(h0:0<=x)(h1:x<N){p:ah}(hp:p∈xss):Reach xss (gi p x) x:=by
 have hy:=(hs p hp).2 x h0 h1;obtain⟨g,_,hm⟩:=uJ hs hy.1 hy.2;have key:=TE (a:=(fG N xss (gi p x)).map (gi p)) (b:=fG N xss (gi p x)) (by
  rw [List.nodup_iff_pairwise_ne,List.pairwise_map];refine List.Pairwise.imp_of_mem ?_ g.nodup;intro a b ha hb kl e;exact kl (hi p hp a b (g.range a ha).1 (g.range a ha).2 (g.range b hb).1 (g.range b hb).2 e))
  (fun z hz=>by
    obtain⟨u,hu,rfl⟩:=eh.1 hz;exact(hm _).2 (.step ((hm u).1 hu) hp)) (by simp)
 obtain⟨u,hu,e⟩:=eh.1 (key (gi p x) ((hm _).2 .refl));have:=hi p hp u x (g.range u hu).1 (g.range u hu).2 h0 h1 e;subst this;exact(hm u).1 hu
theorem Reach.symm{N:Nat}{xss:ag}(hs:Sys N xss)(hi:ry N xss)(h0:0<=x)(h1:x<N)(h:Reach xss x y):Reach xss y x:=by
 induction h with
 | refl=>exact .refl
 | step hr hp ih=>
  have hy:=hr.range hs h0 h1;exact(Reach.back hs hi hy.1 hy.2 hp).trans ih
def nT(L:ah)(c:Int):ah->ah
 | []=>L
 | x::xs=>nT (L.set x.toNat c) c xs
theorem Lv:∀(xs L:ah) (c:Int),(nT L c xs).length=L.length
 | [],_,_=>rfl
 | x::xs,L,c=>by rw [nT,Lv xs];simp
theorem vh{N:Nat}:∀(xs L:ah) (c:Int),L.length=N->(∀x∈xs,0<=x/\x<N)->∀x:Int,0<=x->gi (nT L c xs) x=if x∈xs then c else gi L x
 | [],_,_,_,_,x,_=>by simp [nT]
 | y::xs,L,c,hl,h,x,hx=>by
  have hy:=h y (by simp);rw [nT,vh xs (L.set y.toNat c) c (by simpa using hl) (fun z hz=>h z (by simp [hz])) x hx,tU hy.1 (by rw [hl];exact hy.2) hx]
  by_cases h1:x∈xs
  ·simp [h1]
  ·rw [aR h1]
   by_cases h2:y=x
   ·subst h2;simp
   ·rw [aR h2,aR];simp only [ij,not_or];exact⟨fun e=>h2 e.symm,h1⟩
def bG(N:Nat)(xss:ag):Nat->ah×Int
 | 0=> (List.replicate N (-1),0)
 | i+1=>if 0<=gi (bG N xss i).1 i then bG N xss i else(nT (bG N xss i).1 (bG N xss i).2 (fG N xss i),(bG N xss i).2+1)
theorem xL{N:Nat}{xss:ag}{i:Nat}(h:¬0<=gi (bG N xss i).1 i):bG N xss (i+1)=(nT (bG N xss i).1 (bG N xss i).2 (fG N xss i),(bG N xss i).2+1):=by
 show(if _ then _ else _)=_;rw [aR h]
theorem zj{N:Nat}{xss:ag}{i:Nat}(h:0<=gi (bG N xss i).1 i):bG N xss (i+1)=bG N xss i:=by
 show(if _ then _ else _)=_;rw [aT h]
theorem nQ(N:Nat)(xss:ag):∀i,(bG N xss i).1.length=N
 | 0=>by simp [bG]
 | i+1=>by
  simp only [bG]
  split
  ·exact nQ N xss i
  ·rw [Lv];exact nQ N xss i
theorem uD(N:Nat)(xss:ag):∀i,0<=(bG N xss i).2/\(bG N xss i).2<=i
 | 0=>by simp [bG]
 | i+1=>by
  have:=uD N xss i;simp only [bG]
  split
  ·omega
  ·simp only;omega
theorem wK{N:Nat}{v:Int}(h0:0<=x)(h1:x<N):gi (List.replicate N v) x=v:=by
 simp [gi,dt,List.getElem?_replicate,show x.toNat<N by omega]
theorem xK{N:Nat}{xss:ag}(hs:Sys N xss):∀i,i<=N->∀x:Int,0<=x->x<N->(0<=gi (bG N xss i).1 x↔∃j:Nat,j<i/\Reach xss j x)
 | 0,_,x,h0,h1=>by
  simp only [bG,wK h0 h1];constructor
  ·intro h;omega
  ·rintro⟨j,hj,_⟩;omega
 | i+1,hi,x,h0,h1=>by
  have ih:=xK hs i (by omega);have hc:=uD N xss i;have ho:=uJ hs (pt:=(i:Int)) (by omega) (by omega);simp only [bG]
  split
  ·rename_i hl;rw [ih x h0 h1];constructor
   ·rintro⟨j,hj,hr⟩;exact⟨j,by omega,hr⟩
   ·rintro⟨j,hj,hr⟩
    by_cases ou:j=i
    ·subst ou;obtain⟨j',kF,oy⟩:=(ih j (by omega) (by omega)).1 hl;exact⟨j',kF,oy.trans hr⟩
    ·exact⟨j,by omega,hr⟩
  ·simp only;rw [vh _ _ _ (nQ N xss i) ho.1.range x h0]
   by_cases hm:x∈fG N xss i
   ·rw [aT hm];exact⟨fun _=> ⟨i,by omega,(ho.2.2 x).1 hm⟩,fun _=>hc.1⟩
   ·rw [aR hm,ih x h0 h1];constructor
    ·rintro⟨j,hj,hr⟩;exact⟨j,by omega,hr⟩
    ·rintro⟨j,hj,hr⟩
     by_cases ou:j=i
     ·subst ou;exact absurd ((ho.2.2 x).2 hr) hm
     ·exact⟨j,by omega,hr⟩
theorem ad9{N:Nat}{xss:ag}(hs:Sys N xss)(hN:0<N):(bG N xss N).2=1↔∀x:Int,0<=x->x<N->Reach xss 0 x:=by
 have h1:(bG N xss 1).2=1:=by
  have:¬(0:Int)<=gi (bG N xss 0).1 (0:Nat):=by
   rw [show(bG N xss 0).1=List.replicate N (-1) from rfl,wK (by omega) (by omega)];omega
  rw [show(1:Nat)=0+1 from rfl,xL this];rfl
 constructor
 ·intro hc;have mono:∀i j,i<=j->(bG N xss i).2<=(bG N xss j).2:=by
   intro i j pO
   induction j with
   | zero=>
    have:i=0:=by omega
    subst this;omega
   | succ j ih=>
    by_cases e:i=j+1
    ·subst e;omega
    ·have:=ih (by omega);have h2:(bG N xss j).2<=(bG N xss (j+1)).2:=by
      simp only [bG];split
      ·omega
      ·simp only;omega
     omega
  have key:∀i:Nat,i<N->Reach xss 0 (i:Int):=by
   intro i
   induction i using Nat.strongRecOn with
   | _ i ih=>
    intro hi
    by_cases h0:i=0
    ·subst h0;exact .refl
    ·have hl:0<=gi (bG N xss i).1 i:=by
      apply yb;intro hn;have h2:=mono 1 i (by omega);have h3:=mono (i+1) N (by omega);have h4:(bG N xss (i+1)).2=(bG N xss i).2+1:=by rw [xL hn]
      omega
     obtain⟨j,hj,hr⟩:=(xK hs i (by omega) i (by omega) (by omega)).1 hl;exact(ih j hj (by omega)).trans hr
  intro x h0 h2;have:=key x.toNat (by omega);rw [Int.toNat_of_nonneg h0]at this;exact this
 ·intro h;have key:∀i,1<=i->i<=N->(bG N xss i).2=1:=by
   intro i
   induction i with
   | zero=>intro h;omega
   | succ i ih=>
    intro _ hi
    by_cases e:i=0
    ·subst e;exact h1
    ·have hl:=(xK hs i (by omega) i (by omega) (by omega)).2 ⟨0,by omega,h i (by omega) (by omega)⟩;rw [zj hl];exact ih (by omega) (by omega)
  exact key N (by omega) (dC _)
theorem SF{N:Nat}{xss:ag}(hs:Sys N xss)(hN:0<N):(fG N xss 0).length=N↔∀x:Int,0<=x->x<N->Reach xss 0 x:=by
 obtain⟨g,_,hm⟩:=uJ hs (pt:=0) (by omega) (by omega);have mz:∀x:Int,x∈(List.range N).map (fun i:Nat=> (i:Int))↔0<=x/\x<N:=by
  intro x;rw [eh];constructor
  ·rintro⟨i,hi,rfl⟩;have:i<N:=by simpa using hi
   omega
  intro h;exact⟨x.toNat,by simp;omega,by omega⟩
 have jG:((List.range N).map (fun i:Nat=> (i:Int))).Nodup:=by
  rw [List.nodup_iff_pairwise_ne,List.pairwise_map];refine List.Pairwise.imp ?_ (List.nodup_iff_pairwise_ne.1 List.nodup_range);intro a b kl;omega
 constructor
 ·intro hl x h0 h1;have:=TE g.nodup (b:=(List.range N).map (fun i:Nat=> (i:Int))) (fun z hz=> (mz z).2 (g.range z hz)) (by simp [hl]) x ((mz x).2 ⟨h0,h1⟩);exact(hm x).1 this
 intro h;have h1:=Ex _ (fG N xss 0) jG (fun z hz=>by
  have:=(mz z).1 hz;exact(hm z).2 (h z this.1 this.2))
 have h2:=g.len;simp at h1;omega
structure me(N:Nat)(xss:ag)(i c:Int)(L0 L op:ah)(bx:Int)(k:Nat):Prop where
 len:L.length=N
 nj:∀x:Int,0<=x->x<N->0<=gi L0 x->gi L x=gi L0 x
 new:∀x:Int,0<=x->x<N->gi L0 x<0->gi L x=gi L0 x\/(gi L x=c/\Reach xss i x)
 start:gi L i=c
 vQ:∀x∈op,0<=x/\x<N/\gi L0 x<0/\gi L x=c
 vd:∀x:Int,0<=x->x<N->gi L0 x<0->gi L x=c->x∉op->∀p∈(if x=bx then xss.take k else xss),0<=gi L (gi p x)
section
variable {N:Nat} {xss:ag} {i c:Int} {L0 L op:ah} {bx:Int} {k:Nat}
theorem me.init(hl:L0.length=N)(h0:0<=i)(h1:i<N)(hi:gi L0 i<0)(hc:0<=c):me N xss i c L0 (L0.set i.toNat c) [i] (-1) 0 where
 len:=by simpa using hl
 nj x hx _ h:=by
  rw [tU h0 (by rw [hl];exact h1) hx]
  split
  ·rename_i e;subst e;omega
  rfl
 new x hx _ h:=by
  rw [tU h0 (by rw [hl];exact h1) hx]
  split
  ·rename_i e;subst e;exact .inr ⟨rfl,.refl⟩
  exact .inl O
 start:=by rw [tU h0 (by rw [hl];exact h1) h0,aT rfl]
 vQ x hx:=by
  simp at hx;subst hx;exact⟨h0,h1,hi,by rw [tU h0 (by rw [hl];exact h1) h0,aT O]⟩
 vd x hx gR h P0 gE:=by
  rw [tU h0 (by rw [hl];exact h1) hx]at P0
  split at P0
  ·rename_i e;subst e;simp at gE
  omega
theorem me.afo{x:Int}(h:me N xss i c L0 L (op++ [x]) (-1) 0):me N xss i c L0 L op x 0 where
 len:=h.len
 nj:=h.nj
 new:=h.new
 start:=h.start
 vQ y hy:=h.vQ y (by simp [hy])
 vd y hy uA h0 hc gE:=by
  split
  ·simp
  rename_i cS;have:=h.vd y hy uA h0 hc (by simp [gE,cS]);rw [aR (by omega)]at this;exact this
theorem me.rest(h:me N xss i c L0 L op bx xss.length):me N xss i c L0 L op (-1) 0 where
 len:=h.len
 nj:=h.nj
 new:=h.new
 start:=h.start
 vQ:=h.vQ
 vd y hy uA h0 hc gE:=by
  rw [aR (by omega)];have:=h.vd y hy uA h0 hc gE;rw [List.take_length]at this;simpa using this
theorem me.skip(h:me N xss i c L0 L op bx k)(hk:k<xss.length)(hy:0<=gi L (gi (gl xss k) bx)):me N xss i c L0 L op bx (k+1) where
 len:=h.len
 nj:=h.nj
 new:=h.new
 start:=h.start
 vQ:=h.vQ
 vd y uA acp h0 hc gE p hp:=by
  have:=h.vd y uA acp h0 hc gE
  split at hp
  ·rename_i e;rw [aT e]at this;rw [L8 hk,eD]at hp;rcases hp with hp | hp
   ·exact this p hp
   simp at hp;subst hp;subst e;exact hy
  rename_i e;rw [aR e]at this;exact this p hp
theorem me.push(hs:Sys N xss)(mw:0<=i)(h:me N xss i c L0 L op bx k)(hk:k<xss.length)(fz:0<=bx)(fa:bx<N)(hb:gi L0 bx<0)(hbc:gi L bx=c)(om:0<=c)(hy:gi L (gi (gl xss k) bx)<0):
 me N xss i c L0 (L.set (gi (gl xss k) bx).toNat c) (op++ [gi (gl xss k) bx]) bx (k+1):=by
 have gp:gl xss k∈xss:=by rw [fm hk];exact fe _
 have ra:=(hs _ gp).2 bx fz fa;have hg:∀z:Int,0<=z->gi (L.set (gi (gl xss k) bx).toNat c) z=if gi (gl xss k) bx=z then c else gi L z:=fun z hz=>tU ra.1 (by rw [h.len];exact ra.2) hz
 have AX:Reach xss i bx:=by
  rcases h.new bx fz fa hb with h1 | h1
  ·omega
  exact h1.2
 have D2:gi L0 (gi (gl xss k) bx)<0:=by
  apply yb;intro hn;have:=h.nj _ ra.1 ra.2 (by omega);omega
 have pos:∀z:Int,0<=z->0<=gi L z->0<=gi (L.set (gi (gl xss k) bx).toNat c) z:=fun z hz h1=>by
  rw [hg z hz];split<;>omega
 refine⟨by simpa using h.len,fun x hx gR h0=>?_,fun x hx gR h0=>?_,?_,fun x hx=>?_,fun x hx gR h0 hc gE p hp=>?_⟩
 ·rw [hg x hx,aR (fun e=>by subst e;omega)];exact h.nj x hx gR h0
 ·rw [hg x hx]
  split
  ·rename_i e;subst e;exact .inr ⟨rfl,.step AX gp⟩
  exact h.new x hx gR h0
 ·rw [hg i mw];split
  ·rfl
  exact h.start
 ·rcases eD.1 hx with hx | hx
  ·have:=h.vQ x hx;refine⟨this.1,this.2.1,this.2.2.1,?_⟩;rw [hg x this.1];split
   ·rfl
   exact this.2.2.2
  simp at hx;subst hx;exact⟨ra.1,ra.2,D2,by rw [hg _ ra.1,aT O]⟩
 have cS:gi (gl xss k) bx≠x:=fun e=>gE (by subst e;simp)
 rw [hg x hx,aR cS]at hc;have abt:x∉op:=fun hm=>gE (by simp [hm])
 have h1:=h.vd x hx gR h0 hc abt
 split at hp
 ·rename_i e;rw [aT e]at h1;rw [L8 hk,eD]at hp;rcases hp with hp | hp
  ·exact pos _ ((hs p (List.mem_of_mem_take hp)).2 x hx gR).1 (h1 p hp)
  simp at hp;subst hp;subst e;rw [hg _ ra.1,aT rfl];exact om
 rename_i e;rw [aR e]at h1;exact pos _ ((hs p hp).2 x hx gR).1 (h1 p hp)
theorem me.done(hs:Sys N xss)(hi:ry N xss){j:Nat}(hj:j<N)(abm:¬0<=gi (bG N xss j).1 j)(h:me N xss j (bG N xss j).2 (bG N xss j).1 L [] (-1) 0):L=(bG N xss (j+1)).1:=by
 have hc:=uD N xss j;have ho:=uJ hs (pt:=(j:Int)) (by omega) (by omega);have hm:=xK hs j (by omega);rw [xL abm];apply jV
 ·rw [h.len,Lv,nQ]
 intro x h1 h2;have hx:x<N:=by rw [<-h.len];exact h1
 have e1:=bX (p:=L) (k:=x) h1;have e2:=bX (p:=nT (bG N xss j).1 (bG N xss j).2 (fG N xss j)) (k:=x) h2;rw [<-e1];show _=(nT (bG N xss j).1 (bG N xss j).2 (fG N xss j))[x];rw [<-e2,vh _ _ _ (nQ N xss j) ho.1.range x (by omega)];have reached:∀y,Reach xss j y->gi (bG N xss j).1 y<0/\gi L y=(bG N xss j).2:=by
  intro y hr
  induction hr with
  | refl=>exact⟨by omega,h.start⟩
  | @step y p hr hp ih=>
   have hy:=hr.range hs (by omega) (by omega);have Ge:=(hs p hp).2 y hy.1 hy.2;have QO:gi (bG N xss j).1 (gi p y)<0:=by
    apply yb;intro hn;obtain⟨m,hmj,hmr⟩:=(hm _ Ge.1 Ge.2).1 (by omega);have:=(hm y hy.1 hy.2).2 ⟨m,hmj,hmr.trans (Reach.back hs hi hy.1 hy.2 hp)⟩;omega
   refine⟨QO,?_⟩;have h3:=h.vd y hy.1 hy.2 ih.1 ih.2 (by simp) p (by rw [aR (by omega)];exact hp);rcases h.new _ Ge.1 Ge.2 QO with h4 | h4
   ·omega
   ·exact h4.1
 split
 ·rename_i gp;exact(reached _ ((ho.2.2 _).1 gp)).2
 ·rename_i gp;have s7:¬Reach xss j x:=fun hr=>gp ((ho.2.2 _).2 hr)
  by_cases h5:0<=gi (bG N xss j).1 x
  ·exact h.nj x (by omega) (by omega) h5
  ·rcases h.new x (by omega) (by omega) (by omega)with h6 | h6
   ·exact h6
   ·exact absurd h6.2 s7
end
def rp(L:ah):Nat:=L.countP (fun x=>decide (x<0))
theorem TR{L:ah}{x c:Int}(h0:0<=x)(h1:x<L.length)(hx:gi L x<0)(hc:0<=c):rp (L.set x.toNat c)+1=rp L:=by
 obtain⟨k,rfl⟩:∃k:Nat,x=k:=⟨x.toNat,by omega⟩;have hk:k<L.length:=by omega
 rw [bX hk]at hx;simp only [rp,gB];rw [List.countP_set (h:=hk)];have:0<L.countP (fun x=>decide (x<0)):=List.countP_pos_iff.2 ⟨L[k],fe _,by simpa using hx⟩;simp [hx,show ¬c<0 by omega];omega
end
section
open Go.RowKit
variable{j:Nat}
theorem St.shrink{w0 w:aa}{ks:List Ck}{k:Ck}(h:St w0 w ks)(i:Nat)(hk:ks[i]?=some k)(m:Nat)(hm:m<=k.n)(hM:eT k.vs=false):St w0 w (ks.set i { k with n:=m,vs:=k.vs.take m }):=by
 have yQ:=(gw.1 hk).1;refine⟨h.below,fun x hx=>?_,?_⟩
 ·obtain⟨j,hj,rfl⟩:=gj.1 hx;have kF:j<ks.length:=by simpa using hj
  rw [List.getElem_set]
  split
  ·obtain⟨h1,h2,h3,h4⟩:=h.rI hk hM;refine .qj (RH m hM) ⟨by simp;omega,by show m<=k.c;omega,h3,?_⟩;rcases h4 with h4 | ⟨g,o,cur,hA,hg,hh,hs,hc⟩
   ·exact .inl h4
   refine .inr ⟨g,o,cur,hA,hg,hh,hs,fun j hj=>?_⟩;have hj:j<m:=hj;show _=(k.vs.take m)[j]?;rw [hc j (by omega),rB,aT hj]
  exact h.own _ (fe _)
 rw [Fj Ck.il ks i k { k with n:=m,vs:=k.vs.take m } hk rfl];exact h.apart
theorem St.Ts{w0 w:aa}{ks:List Ck}{t:ad}{A:ai}{n c:Nat}{xs:ah}(h:St w0 w ks)(i:Nat)(hk:ks[i]?=some (ar t A n c xs))(m:Nat)(hm:m<=n):St w0 w (ks.set i (ar t A m c (xs.take m))):=by
 have:=h.shrink i hk m hm (tf _);simpa [ar]using this
theorem W6(op:ah)(h:0<op.length):∃o x,op=o++ [x]:=⟨op.dropLast,op.getLast (by intro e;simp [e]at h),(List.dropLast_concat_getLast _).symm⟩
theorem SE(A:ai)(n c:Nat)(rs:List aX)(xss:ag)(N:Nat)(w:aa)(hR:bL w A n rs xss)(hn:n<=9223372036854775807)(hs:Sys N xss)(aaP:ry N xss)(hN:N<=1048576):
 aG prog 92 [aj N,.slice A n c] w (fun v w'=>∃A',v= .tuple #[.slice A' N N,aj (bG N xss N).2]/\St w w' [ar 2 A' N N (bG N xss N).1]):=by
 have bT:∀k:Int,0<=k->k<n->(rg rs k).n=N:=fun k mZ hk=>by
  rw [<-hR.ql mZ hk];exact(hs _ (sS mZ (by rw [hR.len];exact hk))).1
 refine bw func92 O ntmps92 O (oF O) (bb O (dE (St.refl w) O O O ?_));intro A1 w1 aC;refine aq O (aF (HD A1 1 (-1) N w1 (aC.bk 0 O) hN) O ?_);rintro _ w2 ⟨A6,rfl,aE⟩;have aE:=(aC.call2 aE).tail;refine az O (Cd.loop (α:=Nat) (fun i=> [(1,.slice A n c),(6,.slice A6 N N),(7,aj (bG N xss i).2),(17,aj N),(18,aj i)]) (fun i w'=>St w w' [ar 2 A6 N N (bG N xss i).1]/\i<=N) (fun i=>N - i) 0 (ajz O) ⟨aE,bu _⟩ ?_);rintro i e w3 ⟨aH,hi⟩;have lq:=uD N xss i;refine b8 O (aM _ O (fun h1=>?_) (fun h1=>?_))
 ·refine aD O (aA (aH.bk 0 O).2 O (aY (aH.bk 0 O) O (az O ?_)));refine aM _ O (fun h2=>?_) (fun h2=>?_)
  ·refine aD O (aK O (aS O (tQ ?_)));exact⟨i+1,by omega,⟨O,O,by rw [zj h2];rfl,O,O,aw⟩,by rw [zj h2];exact aH,by omega⟩
  refine aD O (aA (aH.bk 0 O).2 O (ak.iG 0 aH O O O (by omega) ?_));intro w4 aQ;refine aq O (dE aQ O O O ?_);intro A9 w5 a8;refine az O ?_;have bc:rp (bG N xss i).1<=N:=by
   have:=List.countP_le_length (p:=fun x:Int=>decide (x<0)) (l:=(bG N xss i).1);rw [nQ]at this;exact this
  have hun1:=TR (L:=(bG N xss i).1) (x:=i) (c:=(bG N xss i).2) (by omega) (by rw [nQ];omega) (by omega) lq.1;refine Cd.loop (α:=ah×ah×ai×Nat) (fun q=> [(1,.slice A n c),(6,.slice A6 N N),(7,aj (bG N xss i).2),(9,.slice q.2.2.1 q.2.1.length q.2.2.2),(17,aj N),(18,aj i)]) (fun q w'=>St w w' [ar 2 q.2.2.1 q.2.1.length q.2.2.2 q.2.1,ar 2 A6 N N q.1]/\me N xss i (bG N xss i).2 (bG N xss i).1 q.1 q.2.1 (-1) 0/\rp q.1+q.2.1.length<=N) (fun q=>rp q.1+q.2.1.length) ((bG N xss i).1.set (i:Int).toNat (bG N xss i).2,[(i:Int)],A9,1) (ajz O) ⟨a8,me.init (nQ N xss i) (by omega) (by omega) (by omega) lq.1,by show rp ((bG N xss i).1.set (i:Int).toNat (bG N xss i).2)+1<=N;omega⟩ ?_;rintro⟨L,op,A9,c9⟩ e2 w6 ⟨bg,hD,hu⟩;dsimp only at bg hD hu|-;refine bb O (ba O O (az O ?_));refine aM _ O (fun h3=>?_) (fun h3=>?_)
  ·obtain⟨o,x,rfl⟩:=W6 op (by omega);have yY:(o++ [x]).length=o.length+1:=by simp
   have hx:gi (o++ [x]) (((o++ [x]).length:Int) - 1)=x:=by
    rw [show(((o++ [x]).length:Nat):Int) - 1=((o.length:Nat):Int) by omega,bX (by omega)];simp
   have tc:=hD.vQ x (by simp);refine aD O (ba O O (dq O ?_));refine aA (bg.bk 0 O).2 O (aY (bg.bk 0 O) O ?_);rw [hx];refine aq O (ba O O (dq O ?_));refine sI O O O (by have:=(bg.cap 0 O).1;dsimp only at this;omega) ?_;have bl:=bg.Ts 0 O o.length (by omega);rw [List.take_left]at bl;rw [show(((o++ [x]).length:Nat):Int) - 1=((o.length:Nat):Int) by omega,gB];refine aq O (ba O O (az O ?_));refine Cd.loop (α:=Nat×ah×ah×ai×Nat) (fun q=> [(1,.slice A n c),(6,.slice A6 N N),(7,aj (bG N xss i).2),(9,.slice q.2.2.2.1 q.2.2.1.length q.2.2.2.2),(10,aj x),(17,aj N),(18,aj i),(46,.slice A n c),(47,aj n),(48,aj (q.1:Int))]) (fun q w'=>St w w' [ar 2 q.2.2.2.1 q.2.2.1.length q.2.2.2.2 q.2.2.1,ar 2 A6 N N q.2.1]/\me N xss i (bG N xss i).2 (bG N xss i).1 q.2.1 q.2.2.1 x q.1/\q.1<=n/\gi q.2.1 x=(bG N xss i).2/\rp q.2.1+q.2.2.1.length=rp L+o.length) (fun q=>n - q.1) (0,L,o,A9,c9) (ajz O) ⟨bl,hD.afo,bu _,tc.2.2.2,O⟩ ?_;rintro⟨k,L',o',A',c'⟩ e3 w8 ⟨bK,Ak,hk,Gn,Rr⟩;dsimp only at bK Ak hk Gn Rr|-;refine b8 O (aM _ O (fun h4=>?_) (fun h4=>?_))
   ·have hM:=bK.cV hR;have bM:=hM.at_ (i:=k) (by omega) h4;have ew:=bT k (by omega) h4;have gp:gl xss k∈xss:=sS (by omega) (by rw [hR.len];exact h4);have hy:=(hs _ gp).2 x tc.1 tc.2.1;refine aD O (ajn hM.top.2 O O O (by omega) h4 (bQ hM.top O (aq O (aA bM.2 O (aY bM O (aq O (aA (bK.bk 1 O).2 O (aY (bK.bk 1 O) O (az O ?_)))))))));refine aM _ O (fun h5=>?_) (fun h5=>?_)
    ·refine aD O (aA (bK.bk 1 O).2 O (ak.iG 1 bK O O O (by omega) ?_));intro w9 bh;refine aq O (dE bh O O O ?_);intro du dA cj;refine dS 1 cj O (cj.bk 0 O) O O O fun gv og eA eI=>aq O (aK O (aS O (tQ ?_)));have hu9:=TR (L:=L') (x:=gi (gl xss k) x) (c:=(bG N xss i).2) hy.1 (by rw [Ak.len];exact hy.2) h5 lq.1;refine⟨(k+1,L'.set (gi (gl xss k) x).toNat (bG N xss i).2,o'++ [gi (gl xss k) x],gv,og),by show n - (k+1)<n - k;omega,⟨O,O,O,by rw [dh];rfl,O,O,O,O,O,O,aw⟩,?_,Ak.push hs (by omega) (by rw [hR.len];omega) tc.1 tc.2.1 tc.2.2.1 Gn lq.1 h5,by show k+1<=n;omega,?_,?_⟩
     ·have pI:=eI.tail;simp only [dh,List.length_singleton];exact pI
     ·show gi (L'.set _ _) x=_;rw [tU hy.1 (by rw [Ak.len];exact hy.2) tc.1]
      split
      ·rfl
      exact Gn
     show rp (L'.set _ _)+ (o'++ [_]).length=_;simp only [dh,List.length_singleton];omega
    refine aD O (aK O (aS O (tQ ?_)));exact⟨(k+1,L',o',A',c'),by show n - (k+1)<n - k;omega,(ajz O),bK,Ak.skip (by rw [hR.len];omega) (by omega),by show k+1<=n;omega,Gn,Rr⟩
   refine bo O (bn (zD O (tQ ?_)));have eN:k=xss.length:=by rw [hR.len];omega
   subst eN;exact⟨(L',o',A',c'),by show rp L'+o'.length<rp L+ (o++ [x]).length;omega,(ajz O),bK,Ak.rest,by show rp L'+o'.length<=N;omega⟩
  have pS:op=[]:=lg (by omega);subst pS;have hL:=hD.done hs aaP (by omega) h2;refine bo O (bn (cJ O (aK O (aq O (aK O (aS O (tQ ?_)))))));refine⟨i+1,by omega,⟨O,O,by rw [xL h2];rfl,O,O,aw⟩,?_,by omega⟩;rw [<-hL];exact bg.tail
 refine bo O (bn (eG O ?_));refine rh O O ?_;have:i=N:=by omega
 subst this;exact⟨A6,O,aH⟩
def Comm(xss:ag)(i k f:Nat):Prop:=gi (gl xss k) (gi (gl xss i) f)=gi (gl xss i) (gi (gl xss k) f)/\gi (gl xss i) f≠gi (gl xss k) f
instance (xss:ag)(i k f:Nat):Decidable (Comm xss i k f):=by unfold Comm;exact inferInstance
def tL(xss:ag):Prop:=∀p∈xss,p.length=(gl xss 0).length/\jL p/\ns p
instance (xss:ag):Decidable (tL xss):=by unfold tL;exact inferInstance
def dm(xss:ag):Prop:=(1<=xss.length/\xss.length<=5)/\(2<=(gl xss 0).length/\(gl xss 0).length<=400)/\tL xss/\(∀i,i<xss.length->∀k,k<xss.length->i+2<=k->∀f,f< (gl xss 0).length->Comm xss i k f)/\(fG (gl xss 0).length xss 0).length=(gl xss 0).length
instance (xss:ag):Decidable (dm xss):=by unfold dm;exact inferInstance
theorem jL.inj{p:ah}(h:jL p){x y:Int}(hx:0<=x)(gR:x<p.length)(hy:0<=y)(uA:y<p.length)(e:gi p x=gi p y):x=y:=by
 obtain⟨a,rfl⟩:∃a:Nat,x=a:=⟨x.toNat,by omega⟩;obtain⟨b,rfl⟩:∃b:Nat,y=b:=⟨y.toNat,by omega⟩;rw [bX (by omega),bX (by omega)]at e;have:=(List.getElem_inj (h₀:=by omega) (h₁:=by omega) h.2.2).1 e;omega
theorem tL.sys{xss:ag}(h:tL xss):Sys (gl xss 0).length xss:=fun p hp=>by
 have h1:=h p hp;refine⟨h1.1,fun x h0 hx=>?_⟩;have:=h1.2.1.range (i:=x) h0 (by omega);omega
theorem tL.inj{xss:ag}(h:tL xss):ry (gl xss 0).length xss:=fun p hp x y hx gR hy uA e=>by
 have h1:=h p hp;exact h1.2.1.inj hx (by omega) hy (by omega) e
def Part(xss:ag)(k:Nat):Prop:=∀p∈xss.take k,p.length=(gl xss 0).length/\jL p/\ns p
theorem Part.step{xss:ag}{k:Nat}(h:Part xss k)(hk:k<xss.length)(h1:(gl xss k).length=(gl xss 0).length)(h2:jL (gl xss k))(h3:ns (gl xss k)):Part xss (k+1):=by
 intro p hp;rw [L8 hk,eD]at hp;rcases hp with hp | hp
 ·exact h p hp
 simp at hp;subst hp;exact⟨h1,h2,h3⟩
theorem Part.all{xss:ag}{k:Nat}(h:Part xss k)(hk:xss.length<=k):tL xss:=by
 intro p hp;refine h p ?_;rw [kA hk];exact hp
theorem tL.at_{xss:ag}(h:tL xss){k:Nat}(hk:k<xss.length):(gl xss k).length=(gl xss 0).length/\jL (gl xss k)/\ns (gl xss k):=h _ (by rw [fm hk];exact fe _)
theorem Gz(A:ai)(n c:Nat)(rs:List aX)(xss:ag)(w:aa)(hR:bL w A n rs xss)(hn:n<=9223372036854775807):
 aG prog 45 [.agg #[.slice A n c]] w (fun v w'=>v= .bool (decide (dm xss))/\St w w' []):=by
 have di:=hR.len;have r0:0<n->(gl xss 0).length=(rg rs 0).n:=fun h=>hR.ql (by omega) (by omega)
 refine bw func45 O ntmps45 O (b7 O) (bb O (mQ (St.refl w) O O ?_));intro Ab w1 hS;refine aq O (aI (hS.rd 0 O) O (aV (hS.rd 0 O) O ?_));refine ba O O (aq O ?_);refine cz 13 O (fun h1=>?_) (fun h1=>?_)
 ·refine ay O (ay O (aq O (ay O (ay O (ay O (ay O (ay O (ay O (aq O (ay O (ay O ?_)))))))))));refine ay O (ay O (ay O (ay O (az O ?_))));refine Cd.eH O (dB O (ck O ?_));exact⟨by rw [cM (fun h:dm xss=>by have:=h.1.1;omega)],hS.none⟩
 refine au O (aq O (au O (aq O ?_)));refine cz 17 O (fun h2=>?_) (fun h2=>?_)
 ·refine ay O (ay O (ay O (ay O (ay O (ay O (aq O (ay O (ay O (ay O (ay O (ay O ?_)))))))))));refine ay O (az O ?_);refine Cd.eH O (dB O (ck O ?_));exact⟨by rw [cM (fun h:dm xss=>by have:=h.1.2;omega)],hS.none⟩
 have hM:=hS.cV hR;have r0:=r0 (by omega);refine au O (aI (hS.rd 0 O) O (au O (aV (hS.rd 0 O) O (au O (aA hM.top.2 O (au O (bQ hM.top O ?_)))))));refine au O (ba O O (au O (aq O ?_)));refine cz 25 O (fun h3=>?_) (fun h3=>?_)
 ·refine ay O (ay O (ay O (ay O (ay O (ay O (az O ?_))))));refine Cd.eH O (dB O (ck O ?_));exact⟨by rw [cM (fun h:dm xss=>by have:=h.2.1.1;omega)],hS.none⟩
 refine au O (aI (hS.rd 0 O) O (au O (aV (hS.rd 0 O) O (au O (aA hM.top.2 O (au O (bQ hM.top O ?_)))))));refine au O (ba O O (au O (az O ?_)));refine aM _ O (fun h4=>?_) (fun h4=>?_)
 ·refine dB O (ck O ?_);exact⟨by rw [cM (fun h:dm xss=>by have:=h.2.1.2;omega)],hS.none⟩
 refine cW O ?_;refine Cd.loop (α:=Nat) (fun k=> [(1,.pointer Ab),(3,aj n),(4,aj k)]) (fun k w'=>St w w' [Bx 31 1 Ab [.slice A n c]]/\k<=n/\Part xss k) (fun k=>n - k) 0 (ajz O) ⟨hS,bu _,fun p hp=>by simp at hp⟩ ?_;rintro k e w2 ⟨aE,hk,hP⟩;have hM:=aE.cV hR;have hB:=aE.rd 0 O;refine b8 O (aM _ O (fun h5=>?_) (fun h5=>?_))
 ·have pQ:k<xss.length:=by omega
  have rk:=hR.ql (k:=(k:Int)) (by omega) (by omega);have bM:=hM.at_ (i:=k) (by omega) h5;refine cW O ?_
  by_cases h6:((rg rs k).n:Int)=(rg rs 0).n
  ·by_cases h7:jL (gl xss k)
   ·by_cases h8:ns (gl xss k)
    ·
     refine dQ [xP (aB (Ab) 0),xS (A) (n) (c),xI ((k:Int)),xP (aB (A) ((k:Int)).toNat),xS ((rg (rs) ((k:Int))).a) ((rg (rs) ((k:Int))).n) ((rg (rs) ((k:Int))).c),xI ((((rg (rs) ((k:Int))).n:Nat):Int)),xP (aB (Ab) 0),xS (A) (n) (c),xP (aB (A) ((0:Int)).toNat),xS ((rg (rs) ((0:Int))).a) ((rg (rs) ((0:Int))).n) ((rg (rs) ((0:Int))).c),xI ((((rg (rs) ((0:Int))).n:Nat):Int)),xB (false),xB (false),xP (aB (Ab) 0),xS (A) (n) (c),xI ((k:Int)),xP (aB (A) ((k:Int)).toNat),xS ((rg (rs) ((k:Int))).a) ((rg (rs) ((k:Int))).n) ((rg (rs) ((k:Int))).c),xB (decide (jL (gl xss k))),xB (false),xB (false),xB (false),xP (aB (Ab) 0),xS (A) (n) (c),xI ((k:Int)),xP (aB (A) ((k:Int)).toNat),xS ((rg (rs) ((k:Int))).a) ((rg (rs) ((k:Int))).n) ((rg (rs) ((k:Int))).c),xB (decide (ns (gl xss k))),xB (false),xB (false)] O (eE O) ?_ ?_
     ·refine⟨fun _ _ hb _ _=>aI (hB.below hb) O Az,fun _ _ hb _ _=>aV (hB.below hb) O Az,Dr O,fun _ _ hb _ _=>aA (hM.top.ao hb).2 O Az,fun _ _ hb _ _=>bQ (hM.top.ao hb) O Az,fun _ _ _ _ _=>ba O O Az,fun _ _ hb _ _=>aI (hB.below hb) O Az,fun _ _ hb _ _=>aV (hB.below hb) O Az,fun _ _ hb _ _=>aA (hM.top.ao hb).2 O Az,fun _ _ hb _ _=>bQ (hM.top.ao hb) O Az,fun _ _ _ _ _=>ba O O Az,fun _ _ _ _ _=>Dk O (by exact aL Value.bool (cM (by omega))),Dr O,fun _ _ hb _ _=>au O (aI (hB.below hb) O Az),fun _ _ hb _ _=>au O (aV (hB.below hb) O Az),Dr O,fun _ _ hb _ _=>au O (aA (hM.top.ao hb).2 O Az),fun _ _ hb _ _=>au O (bQ (hM.top.ao hb) O Az),?_,fun _ _ _ _ _=>au O (de O O (Az (by exact aL Value.bool (cM (fun h=>h h7))))),Dr O,Dr O,fun _ _ hb _ _=>au O (aI (hB.below hb) O Az),fun _ _ hb _ _=>au O (aV (hB.below hb) O Az),Dr O,fun _ _ hb _ _=>au O (aA (hM.top.ao hb).2 O Az),fun _ _ hb _ _=>au O (bQ (hM.top.ao hb) O Az),?_,fun _ _ _ _ _=>au O (de O O (Az (by exact aL Value.bool (cM (fun h=>h h8))))),Dr O,aw⟩
      ·intro e1 w1 hb hp bc;refine au O (aF (Gw _ _ _ _ _ (bM.ao hb)) O ?_);rintro _ w2 ⟨rfl,ax⟩;refine ak.n ?_;exact e6.dn ax.below (by exact O)
      intro e1 w1 hb hp bc;refine au O (aF (RQ _ _ _ _ _ (bM.ao hb) h7) O ?_);rintro _ w2 ⟨rfl,ax⟩;subst ax;refine ak.n (d0 (by exact O))
     intro u w3 km _;have aH:=aE.ao km;refine fv O (Cd.dZ O ?_);refine aD O (aK O (aS O (tQ ?_)));exact⟨k+1,by omega,(ajz O),aH,by omega,hP.step pQ (by omega) h7 h8⟩
    refine dQ [xP (aB (Ab) 0),xS (A) (n) (c),xI ((k:Int)),xP (aB (A) ((k:Int)).toNat),xS ((rg (rs) ((k:Int))).a) ((rg (rs) ((k:Int))).n) ((rg (rs) ((k:Int))).c),xI ((((rg (rs) ((k:Int))).n:Nat):Int)),xP (aB (Ab) 0),xS (A) (n) (c),xP (aB (A) ((0:Int)).toNat),xS ((rg (rs) ((0:Int))).a) ((rg (rs) ((0:Int))).n) ((rg (rs) ((0:Int))).c),xI ((((rg (rs) ((0:Int))).n:Nat):Int)),xB (false),xB (false),xP (aB (Ab) 0),xS (A) (n) (c),xI ((k:Int)),xP (aB (A) ((k:Int)).toNat),xS ((rg (rs) ((k:Int))).a) ((rg (rs) ((k:Int))).n) ((rg (rs) ((k:Int))).c),xB (decide (jL (gl xss k))),xB (false),xB (false),xB (false),xP (aB (Ab) 0),xS (A) (n) (c),xI ((k:Int)),xP (aB (A) ((k:Int)).toNat),xS ((rg (rs) ((k:Int))).a) ((rg (rs) ((k:Int))).n) ((rg (rs) ((k:Int))).c),xB (decide (ns (gl xss k))),xB (true),xB (true)] O (eE O) ?_ ?_
    ·refine⟨fun _ _ hb _ _=>aI (hB.below hb) O Az,fun _ _ hb _ _=>aV (hB.below hb) O Az,Dr O,fun _ _ hb _ _=>aA (hM.top.ao hb).2 O Az,fun _ _ hb _ _=>bQ (hM.top.ao hb) O Az,fun _ _ _ _ _=>ba O O Az,fun _ _ hb _ _=>aI (hB.below hb) O Az,fun _ _ hb _ _=>aV (hB.below hb) O Az,fun _ _ hb _ _=>aA (hM.top.ao hb).2 O Az,fun _ _ hb _ _=>bQ (hM.top.ao hb) O Az,fun _ _ _ _ _=>ba O O Az,fun _ _ _ _ _=>Dk O (by exact aL Value.bool (cM (by omega))),Dr O,fun _ _ hb _ _=>au O (aI (hB.below hb) O Az),fun _ _ hb _ _=>au O (aV (hB.below hb) O Az),Dr O,fun _ _ hb _ _=>au O (aA (hM.top.ao hb).2 O Az),fun _ _ hb _ _=>au O (bQ (hM.top.ao hb) O Az),?_,fun _ _ _ _ _=>au O (de O O (Az (by exact aL Value.bool (cM (fun h=>h h7))))),Dr O,Dr O,fun _ _ hb _ _=>au O (aI (hB.below hb) O Az),fun _ _ hb _ _=>au O (aV (hB.below hb) O Az),Dr O,fun _ _ hb _ _=>au O (aA (hM.top.ao hb).2 O Az),fun _ _ hb _ _=>au O (bQ (hM.top.ao hb) O Az),?_,fun _ _ _ _ _=>au O (de O O (Az (by exact aL Value.bool (eC h8)))),Dr O,aw⟩
     ·intro e1 w1 hb hp bc;refine au O (aF (Gw _ _ _ _ _ (bM.ao hb)) O ?_);rintro _ w2 ⟨rfl,ax⟩;refine ak.n ?_;exact e6.dn ax.below (by exact O)
     intro e1 w1 hb hp bc;refine au O (aF (RQ _ _ _ _ _ (bM.ao hb) h7) O ?_);rintro _ w2 ⟨rfl,ax⟩;subst ax;refine ak.n (d0 (by exact O))
    intro u w3 km _;have aH:=aE.ao km;refine fv O (Cd.eH O ?_);refine dB O (dO (dJ ?_));refine ck O ?_;exact⟨by rw [cM (fun h:dm xss=>h8 (h.2.2.1.at_ pQ).2.2)],aH.none⟩
   refine dQ [xP (aB (Ab) 0),xS (A) (n) (c),xI ((k:Int)),xP (aB (A) ((k:Int)).toNat),xS ((rg (rs) ((k:Int))).a) ((rg (rs) ((k:Int))).n) ((rg (rs) ((k:Int))).c),xI ((((rg (rs) ((k:Int))).n:Nat):Int)),xP (aB (Ab) 0),xS (A) (n) (c),xP (aB (A) ((0:Int)).toNat),xS ((rg (rs) ((0:Int))).a) ((rg (rs) ((0:Int))).n) ((rg (rs) ((0:Int))).c),xI ((((rg (rs) ((0:Int))).n:Nat):Int)),xB (false),xB (false),xP (aB (Ab) 0),xS (A) (n) (c),xI ((k:Int)),xP (aB (A) ((k:Int)).toNat),xS ((rg (rs) ((k:Int))).a) ((rg (rs) ((k:Int))).n) ((rg (rs) ((k:Int))).c),xB (decide (jL (gl xss k))),xB (true),xB (true),xB (true),xU,xU,xU,xU,xU,xU,xU,xB (true)] O (eE O) ?_ ?_
   ·refine⟨fun _ _ hb _ _=>aI (hB.below hb) O Az,fun _ _ hb _ _=>aV (hB.below hb) O Az,Dr O,fun _ _ hb _ _=>aA (hM.top.ao hb).2 O Az,fun _ _ hb _ _=>bQ (hM.top.ao hb) O Az,fun _ _ _ _ _=>ba O O Az,fun _ _ hb _ _=>aI (hB.below hb) O Az,fun _ _ hb _ _=>aV (hB.below hb) O Az,fun _ _ hb _ _=>aA (hM.top.ao hb).2 O Az,fun _ _ hb _ _=>bQ (hM.top.ao hb) O Az,fun _ _ _ _ _=>ba O O Az,fun _ _ _ _ _=>Dk O (by exact aL Value.bool (cM (by omega))),Dr O,fun _ _ hb _ _=>au O (aI (hB.below hb) O Az),fun _ _ hb _ _=>au O (aV (hB.below hb) O Az),Dr O,fun _ _ hb _ _=>au O (aA (hM.top.ao hb).2 O Az),fun _ _ hb _ _=>au O (bQ (hM.top.ao hb) O Az),?_,fun _ _ _ _ _=>au O (de O O (Az (by exact aL Value.bool (eC h7)))),Dr O,Dr O,Dr O,Dr O,Dr O,Dr O,Dr O,Dr O,Dr O,Dr O,aw⟩;intro e1 w1 hb hp bc;refine au O (aF (Gw _ _ _ _ _ (bM.ao hb)) O ?_);rintro _ w2 ⟨rfl,ax⟩;refine ak.n ?_;exact e6.dn ax.below (by exact O)
   intro u w3 km _;have aH:=aE.ao km;refine fv O (Cd.eH O ?_);refine dB O (dO (dJ ?_));refine ck O ?_;exact⟨by rw [cM (fun h:dm xss=>h7 (h.2.2.1.at_ pQ).2.1)],aH.none⟩
  refine dQ [xP (aB (Ab) 0),xS (A) (n) (c),xI ((k:Int)),xP (aB (A) ((k:Int)).toNat),xS ((rg (rs) ((k:Int))).a) ((rg (rs) ((k:Int))).n) ((rg (rs) ((k:Int))).c),xI ((((rg (rs) ((k:Int))).n:Nat):Int)),xP (aB (Ab) 0),xS (A) (n) (c),xP (aB (A) ((0:Int)).toNat),xS ((rg (rs) ((0:Int))).a) ((rg (rs) ((0:Int))).n) ((rg (rs) ((0:Int))).c),xI ((((rg (rs) ((0:Int))).n:Nat):Int)),xB (true),xB (true),xU,xU,xU,xU,xU,xU,xU,xB (true),xB (true),xU,xU,xU,xU,xU,xU,xU,xB (true)] O (eE O) ?_ ?_
  ·exact⟨fun _ _ hb _ _=>aI (hB.below hb) O Az,fun _ _ hb _ _=>aV (hB.below hb) O Az,Dr O,fun _ _ hb _ _=>aA (hM.top.ao hb).2 O Az,fun _ _ hb _ _=>bQ (hM.top.ao hb) O Az,fun _ _ _ _ _=>ba O O Az,fun _ _ hb _ _=>aI (hB.below hb) O Az,fun _ _ hb _ _=>aV (hB.below hb) O Az,fun _ _ hb _ _=>aA (hM.top.ao hb).2 O Az,fun _ _ hb _ _=>bQ (hM.top.ao hb) O Az,fun _ _ _ _ _=>ba O O Az,fun _ _ _ _ _=>Dk O (by exact aL Value.bool (eC h6)),Dr O,Dr O,Dr O,Dr O,Dr O,Dr O,Dr O,Dr O,Dr O,Dr O,Dr O,Dr O,Dr O,Dr O,Dr O,Dr O,Dr O,Dr O,aw⟩
  intro u w3 km _;have aH:=aE.ao km;refine fv O (Cd.eH O ?_);refine dB O (dO (dJ ?_));refine ck O ?_;exact⟨by rw [cM (fun h:dm xss=>by have:=(h.2.2.1.at_ pQ).1;omega)],aH.none⟩
 have nK:=hP.all (by omega);have hs:=nK.sys;have ew:∀i:Int,0<=i->i<n->(rg rs i).n=(rg rs 0).n:=fun i h0 h1=>by
  have e1:=hR.ql h0 h1;have e2:=(nK _ (sS h0 (by omega))).1;omega
 refine bo O (bn (nY O ?_));refine Cd.loop (α:=Nat) (fun i=> [(1,.pointer Ab),(3,aj n),(5,aj i)]) (fun i w'=>St w w' [Bx 31 1 Ab [.slice A n c]]/\i<=n/\∀i',i'<i->∀k,k<n->i'+2<=k->∀f,f< (gl xss 0).length->Comm xss i' k f) (fun i=>n - i) 0 (ajz O) ⟨aE,bu _,fun i' dI=>by omega⟩ ?_;rintro i e w3 ⟨aH,hi,hC⟩;refine b8 O (aM _ O (fun h6=>?_) (fun h6=>?_))
 ·refine aD O (aK O (az O ?_));refine Cd.loop (α:=Nat) (fun k=> [(1,.pointer Ab),(3,aj n),(5,aj i),(6,aj k)]) (fun k w'=>St w w' [Bx 31 1 Ab [.slice A n c]]/\i+2<=k/\∀k',k'<k->k'<n->i+2<=k'->∀f,f< (gl xss 0).length->Comm xss i k' f) (fun k=>n+1 - k) (i+2) (ajz O) ⟨aH,dC _,fun k' _ _ _=>by omega⟩ ?_;rintro k e w4 ⟨aQ,o0,Db⟩;refine b8 O (aM _ O (fun h7=>?_) (fun h7=>?_))
  ·have rki:=ew i (by omega) h6;have rkk:=ew k (by omega) h7;refine cW O ?_;refine Cd.loop (α:=Nat) (fun f=> [(1,.pointer Ab),(3,aj n),(5,aj i),(6,aj k),(7,aj f)]) (fun f w'=>St w w' [Bx 31 1 Ab [.slice A n c]]/\f<=(gl xss 0).length/\∀f',f'<f->Comm xss i k f') (fun f=> (gl xss 0).length - f) 0 (ajz O) ⟨aQ,bu _,fun f' nF=>by omega⟩ ?_;rintro f e w5 ⟨a8,hf,Dc⟩;have hM:=a8.cV hR;have hB:=a8.rd 0 O;have ir:=hM.at_ (i:=i) (by omega) h6;have iX:=hM.at_ (i:=k) (by omega) h7;refine bb O (aI (a8.rd 0 O) O (aV (a8.rd 0 O) O (aA hM.top.2 O (bQ hM.top O ?_))));refine ba O O (az O ?_);refine aM _ O (fun h8=>?_) (fun h8=>?_)
   ·have JZ:=(hs _ (sS (k:=(i:Int)) (by omega) (by omega))).2 (f:Int) (by omega) (by omega);have cL:=(hs _ (sS (k:=(k:Int)) (by omega) (by omega))).2 (f:Int) (by omega) (by omega);refine cW O ?_
    by_cases h9:gi (gl xss k) (gi (gl xss i) f)=gi (gl xss i) (gi (gl xss k) f)
    ·by_cases fH:gi (gl xss i) f=gi (gl xss k) f
     ·
      refine dQ [xP (aB (Ab) 0),xS (A) (n) (c),xI ((k:Int)),xP (aB (A) ((k:Int)).toNat),xS ((rg (rs) ((k:Int))).a) ((rg (rs) ((k:Int))).n) ((rg (rs) ((k:Int))).c),xP (aB (Ab) 0),xS (A) (n) (c),xI ((i:Int)),xP (aB (A) ((i:Int)).toNat),xS ((rg (rs) ((i:Int))).a) ((rg (rs) ((i:Int))).n) ((rg (rs) ((i:Int))).c),xI ((f:Int)),xP (aB ((rg (rs) ((i:Int))).a) ((f:Int)).toNat),xI (gi (gl xss i) ((f:Int))),xP (aB ((rg (rs) ((k:Int))).a) (gi (gl xss i) ((f:Int))).toNat),xI (gi (gl xss k) (gi (gl xss i) ((f:Int)))),xP (aB (Ab) 0),xS (A) (n) (c),xI ((i:Int)),xP (aB (A) ((i:Int)).toNat),xS ((rg (rs) ((i:Int))).a) ((rg (rs) ((i:Int))).n) ((rg (rs) ((i:Int))).c),xP (aB (Ab) 0),xS (A) (n) (c),xI ((k:Int)),xP (aB (A) ((k:Int)).toNat),xS ((rg (rs) ((k:Int))).a) ((rg (rs) ((k:Int))).n) ((rg (rs) ((k:Int))).c),xI ((f:Int)),xP (aB ((rg (rs) ((k:Int))).a) ((f:Int)).toNat),xI (gi (gl xss k) ((f:Int))),xP (aB ((rg (rs) ((i:Int))).a) (gi (gl xss k) ((f:Int))).toNat),xI (gi (gl xss i) (gi (gl xss k) ((f:Int)))),xB (false),xB (false),xP (aB (Ab) 0),xS (A) (n) (c),xI ((i:Int)),xP (aB (A) ((i:Int)).toNat),xS ((rg (rs) ((i:Int))).a) ((rg (rs) ((i:Int))).n) ((rg (rs) ((i:Int))).c),xI ((f:Int)),xP (aB ((rg (rs) ((i:Int))).a) ((f:Int)).toNat),xI (gi (gl xss i) ((f:Int))),xP (aB (Ab) 0),xS (A) (n) (c),xI ((k:Int)),xP (aB (A) ((k:Int)).toNat),xS ((rg (rs) ((k:Int))).a) ((rg (rs) ((k:Int))).n) ((rg (rs) ((k:Int))).c),xI ((f:Int)),xP (aB ((rg (rs) ((k:Int))).a) ((f:Int)).toNat),xI (gi (gl xss k) ((f:Int))),xB (true),xB (true)] O (eE O) ?_ ?_
      ·exact⟨fun _ _ hb _ _=>aI (hB.below hb) O Az,fun _ _ hb _ _=>aV (hB.below hb) O Az,Dr O,fun _ _ hb _ _=>aA (hM.top.ao hb).2 O Az,fun _ _ hb _ _=>bQ (hM.top.ao hb) O Az,fun _ _ hb _ _=>aI (hB.below hb) O Az,fun _ _ hb _ _=>aV (hB.below hb) O Az,Dr O,fun _ _ hb _ _=>aA (hM.top.ao hb).2 O Az,fun _ _ hb _ _=>bQ (hM.top.ao hb) O Az,Dr O,fun _ _ hb _ _=>aA (ir.ao hb).2 O Az,fun _ _ hb _ _=>aY (ir.ao hb) O Az,fun _ _ hb _ _=>aA (iX.ao hb).2 O Az,fun _ _ hb _ _=>aY (iX.ao hb) O Az,fun _ _ hb _ _=>aI (hB.below hb) O Az,fun _ _ hb _ _=>aV (hB.below hb) O Az,Dr O,fun _ _ hb _ _=>aA (hM.top.ao hb).2 O Az,fun _ _ hb _ _=>bQ (hM.top.ao hb) O Az,fun _ _ hb _ _=>aI (hB.below hb) O Az,fun _ _ hb _ _=>aV (hB.below hb) O Az,Dr O,fun _ _ hb _ _=>aA (hM.top.ao hb).2 O Az,fun _ _ hb _ _=>bQ (hM.top.ao hb) O Az,Dr O,fun _ _ hb _ _=>aA (iX.ao hb).2 O Az,fun _ _ hb _ _=>aY (iX.ao hb) O Az,fun _ _ hb _ _=>aA (ir.ao hb).2 O Az,fun _ _ hb _ _=>aY (ir.ao hb) O Az,fun _ _ _ _ _=>Dk O (by exact aL Value.bool (cM (fun h=>h h9))),Dr O,fun _ _ hb _ _=>au O (aI (hB.below hb) O Az),fun _ _ hb _ _=>au O (aV (hB.below hb) O Az),Dr O,fun _ _ hb _ _=>au O (aA (hM.top.ao hb).2 O Az),fun _ _ hb _ _=>au O (bQ (hM.top.ao hb) O Az),Dr O,fun _ _ hb _ _=>au O (aA (ir.ao hb).2 O Az),fun _ _ hb _ _=>au O (aY (ir.ao hb) O Az),fun _ _ hb _ _=>au O (aI (hB.below hb) O Az),fun _ _ hb _ _=>au O (aV (hB.below hb) O Az),Dr O,fun _ _ hb _ _=>au O (aA (hM.top.ao hb).2 O Az),fun _ _ hb _ _=>au O (bQ (hM.top.ao hb) O Az),Dr O,fun _ _ hb _ _=>au O (aA (iX.ao hb).2 O Az),fun _ _ hb _ _=>au O (aY (iX.ao hb) O Az),fun _ _ _ _ _=>Dk O (by exact aL Value.bool (eC fH)),Dr O,aw⟩
      intro u w6 jR _;have bg:=a8.ao jR;refine fv O (Cd.eH O ?_);refine dB O (dO (dJ (dO (dJ (dO (dJ ?_))))));refine ck O ?_;exact⟨by rw [cM (fun h:dm xss=> (h.2.2.2.1 i (by omega) k (by omega) o0 f (by omega)).2 fH)],bg.none⟩
     refine dQ [xP (aB (Ab) 0),xS (A) (n) (c),xI ((k:Int)),xP (aB (A) ((k:Int)).toNat),xS ((rg (rs) ((k:Int))).a) ((rg (rs) ((k:Int))).n) ((rg (rs) ((k:Int))).c),xP (aB (Ab) 0),xS (A) (n) (c),xI ((i:Int)),xP (aB (A) ((i:Int)).toNat),xS ((rg (rs) ((i:Int))).a) ((rg (rs) ((i:Int))).n) ((rg (rs) ((i:Int))).c),xI ((f:Int)),xP (aB ((rg (rs) ((i:Int))).a) ((f:Int)).toNat),xI (gi (gl xss i) ((f:Int))),xP (aB ((rg (rs) ((k:Int))).a) (gi (gl xss i) ((f:Int))).toNat),xI (gi (gl xss k) (gi (gl xss i) ((f:Int)))),xP (aB (Ab) 0),xS (A) (n) (c),xI ((i:Int)),xP (aB (A) ((i:Int)).toNat),xS ((rg (rs) ((i:Int))).a) ((rg (rs) ((i:Int))).n) ((rg (rs) ((i:Int))).c),xP (aB (Ab) 0),xS (A) (n) (c),xI ((k:Int)),xP (aB (A) ((k:Int)).toNat),xS ((rg (rs) ((k:Int))).a) ((rg (rs) ((k:Int))).n) ((rg (rs) ((k:Int))).c),xI ((f:Int)),xP (aB ((rg (rs) ((k:Int))).a) ((f:Int)).toNat),xI (gi (gl xss k) ((f:Int))),xP (aB ((rg (rs) ((i:Int))).a) (gi (gl xss k) ((f:Int))).toNat),xI (gi (gl xss i) (gi (gl xss k) ((f:Int)))),xB (false),xB (false),xP (aB (Ab) 0),xS (A) (n) (c),xI ((i:Int)),xP (aB (A) ((i:Int)).toNat),xS ((rg (rs) ((i:Int))).a) ((rg (rs) ((i:Int))).n) ((rg (rs) ((i:Int))).c),xI ((f:Int)),xP (aB ((rg (rs) ((i:Int))).a) ((f:Int)).toNat),xI (gi (gl xss i) ((f:Int))),xP (aB (Ab) 0),xS (A) (n) (c),xI ((k:Int)),xP (aB (A) ((k:Int)).toNat),xS ((rg (rs) ((k:Int))).a) ((rg (rs) ((k:Int))).n) ((rg (rs) ((k:Int))).c),xI ((f:Int)),xP (aB ((rg (rs) ((k:Int))).a) ((f:Int)).toNat),xI (gi (gl xss k) ((f:Int))),xB (false),xB (false)] O (eE O) ?_ ?_
     ·exact⟨fun _ _ hb _ _=>aI (hB.below hb) O Az,fun _ _ hb _ _=>aV (hB.below hb) O Az,Dr O,fun _ _ hb _ _=>aA (hM.top.ao hb).2 O Az,fun _ _ hb _ _=>bQ (hM.top.ao hb) O Az,fun _ _ hb _ _=>aI (hB.below hb) O Az,fun _ _ hb _ _=>aV (hB.below hb) O Az,Dr O,fun _ _ hb _ _=>aA (hM.top.ao hb).2 O Az,fun _ _ hb _ _=>bQ (hM.top.ao hb) O Az,Dr O,fun _ _ hb _ _=>aA (ir.ao hb).2 O Az,fun _ _ hb _ _=>aY (ir.ao hb) O Az,fun _ _ hb _ _=>aA (iX.ao hb).2 O Az,fun _ _ hb _ _=>aY (iX.ao hb) O Az,fun _ _ hb _ _=>aI (hB.below hb) O Az,fun _ _ hb _ _=>aV (hB.below hb) O Az,Dr O,fun _ _ hb _ _=>aA (hM.top.ao hb).2 O Az,fun _ _ hb _ _=>bQ (hM.top.ao hb) O Az,fun _ _ hb _ _=>aI (hB.below hb) O Az,fun _ _ hb _ _=>aV (hB.below hb) O Az,Dr O,fun _ _ hb _ _=>aA (hM.top.ao hb).2 O Az,fun _ _ hb _ _=>bQ (hM.top.ao hb) O Az,Dr O,fun _ _ hb _ _=>aA (iX.ao hb).2 O Az,fun _ _ hb _ _=>aY (iX.ao hb) O Az,fun _ _ hb _ _=>aA (ir.ao hb).2 O Az,fun _ _ hb _ _=>aY (ir.ao hb) O Az,fun _ _ _ _ _=>Dk O (by exact aL Value.bool (cM (fun h=>h h9))),Dr O,fun _ _ hb _ _=>au O (aI (hB.below hb) O Az),fun _ _ hb _ _=>au O (aV (hB.below hb) O Az),Dr O,fun _ _ hb _ _=>au O (aA (hM.top.ao hb).2 O Az),fun _ _ hb _ _=>au O (bQ (hM.top.ao hb) O Az),Dr O,fun _ _ hb _ _=>au O (aA (ir.ao hb).2 O Az),fun _ _ hb _ _=>au O (aY (ir.ao hb) O Az),fun _ _ hb _ _=>au O (aI (hB.below hb) O Az),fun _ _ hb _ _=>au O (aV (hB.below hb) O Az),Dr O,fun _ _ hb _ _=>au O (aA (hM.top.ao hb).2 O Az),fun _ _ hb _ _=>au O (bQ (hM.top.ao hb) O Az),Dr O,fun _ _ hb _ _=>au O (aA (iX.ao hb).2 O Az),fun _ _ hb _ _=>au O (aY (iX.ao hb) O Az),fun _ _ _ _ _=>Dk O (by exact aL Value.bool (cM fH)),Dr O,aw⟩
     intro u w6 jR _;have bg:=a8.ao jR;refine fv O (Cd.dZ O ?_);refine aD O (aK O (aS O (tQ ?_)));refine⟨f+1,by omega,(ajz O),bg,by omega,fun f' nF=>?_⟩
     by_cases ef:f'=f
     ·subst ef;exact⟨h9,fH⟩
     exact Dc f' (by omega)
    refine dQ [xP (aB (Ab) 0),xS (A) (n) (c),xI ((k:Int)),xP (aB (A) ((k:Int)).toNat),xS ((rg (rs) ((k:Int))).a) ((rg (rs) ((k:Int))).n) ((rg (rs) ((k:Int))).c),xP (aB (Ab) 0),xS (A) (n) (c),xI ((i:Int)),xP (aB (A) ((i:Int)).toNat),xS ((rg (rs) ((i:Int))).a) ((rg (rs) ((i:Int))).n) ((rg (rs) ((i:Int))).c),xI ((f:Int)),xP (aB ((rg (rs) ((i:Int))).a) ((f:Int)).toNat),xI (gi (gl xss i) ((f:Int))),xP (aB ((rg (rs) ((k:Int))).a) (gi (gl xss i) ((f:Int))).toNat),xI (gi (gl xss k) (gi (gl xss i) ((f:Int)))),xP (aB (Ab) 0),xS (A) (n) (c),xI ((i:Int)),xP (aB (A) ((i:Int)).toNat),xS ((rg (rs) ((i:Int))).a) ((rg (rs) ((i:Int))).n) ((rg (rs) ((i:Int))).c),xP (aB (Ab) 0),xS (A) (n) (c),xI ((k:Int)),xP (aB (A) ((k:Int)).toNat),xS ((rg (rs) ((k:Int))).a) ((rg (rs) ((k:Int))).n) ((rg (rs) ((k:Int))).c),xI ((f:Int)),xP (aB ((rg (rs) ((k:Int))).a) ((f:Int)).toNat),xI (gi (gl xss k) ((f:Int))),xP (aB ((rg (rs) ((i:Int))).a) (gi (gl xss k) ((f:Int))).toNat),xI (gi (gl xss i) (gi (gl xss k) ((f:Int)))),xB (true),xB (true),xU,xU,xU,xU,xU,xU,xU,xU,xU,xU,xU,xU,xU,xU,xU,xU,xU,xB (true)] O (eE O) ?_ ?_
    ·exact⟨fun _ _ hb _ _=>aI (hB.below hb) O Az,fun _ _ hb _ _=>aV (hB.below hb) O Az,Dr O,fun _ _ hb _ _=>aA (hM.top.ao hb).2 O Az,fun _ _ hb _ _=>bQ (hM.top.ao hb) O Az,fun _ _ hb _ _=>aI (hB.below hb) O Az,fun _ _ hb _ _=>aV (hB.below hb) O Az,Dr O,fun _ _ hb _ _=>aA (hM.top.ao hb).2 O Az,fun _ _ hb _ _=>bQ (hM.top.ao hb) O Az,Dr O,fun _ _ hb _ _=>aA (ir.ao hb).2 O Az,fun _ _ hb _ _=>aY (ir.ao hb) O Az,fun _ _ hb _ _=>aA (iX.ao hb).2 O Az,fun _ _ hb _ _=>aY (iX.ao hb) O Az,fun _ _ hb _ _=>aI (hB.below hb) O Az,fun _ _ hb _ _=>aV (hB.below hb) O Az,Dr O,fun _ _ hb _ _=>aA (hM.top.ao hb).2 O Az,fun _ _ hb _ _=>bQ (hM.top.ao hb) O Az,fun _ _ hb _ _=>aI (hB.below hb) O Az,fun _ _ hb _ _=>aV (hB.below hb) O Az,Dr O,fun _ _ hb _ _=>aA (hM.top.ao hb).2 O Az,fun _ _ hb _ _=>bQ (hM.top.ao hb) O Az,Dr O,fun _ _ hb _ _=>aA (iX.ao hb).2 O Az,fun _ _ hb _ _=>aY (iX.ao hb) O Az,fun _ _ hb _ _=>aA (ir.ao hb).2 O Az,fun _ _ hb _ _=>aY (ir.ao hb) O Az,fun _ _ _ _ _=>Dk O (by exact aL Value.bool (eC h9)),Dr O,Dr O,Dr O,Dr O,Dr O,Dr O,Dr O,Dr O,Dr O,Dr O,Dr O,Dr O,Dr O,Dr O,Dr O,Dr O,Dr O,Dr O,Dr O,aw⟩
    intro u w6 jR _;have bg:=a8.ao jR;refine fv O (Cd.eH O ?_);refine dB O (dO (dJ (dO (dJ (dO (dJ ?_))))));refine ck O ?_;exact⟨by rw [cM (fun h:dm xss=>h9 (h.2.2.2.1 i (by omega) k (by omega) o0 f (by omega)).1)],bg.none⟩
   refine bo O (bn (cJ O (aK O (aS O (tQ ?_)))));refine⟨k+1,by omega,(ajz O),a8,by omega,fun k' eN qQ qP f' nF=>?_⟩
   by_cases ek:k'=k
   ·subst ek;exact Dc f' (by omega)
   exact Db k' (by omega) qQ qP f' nF
  refine bo O (bn (cJ O (aK O (aS O (tQ ?_)))));refine⟨i+1,by omega,(ajz O),aQ,by omega,fun i' dI k' eN qP f' nF=>?_⟩
  by_cases ei:i'=i
  ·subst ei;exact Db k' (by omega) eN qP f' nF
  exact hC i' (by omega) k' eN qP f' nF
 have hM:=aH.cV hR;have hB:=aH.rd 0 O;refine bo O (bn (nY O ?_));refine dQ [xP (aB (Ab) 0),xS (A) (n) (c),.pr (fun v _=>∃A' c',v= .slice A' (fG (gl xss 0).length xss 0).length c'),xI (((fG (gl xss 0).length xss 0).length:Int)),xP (aB (Ab) 0),xS (A) (n) (c),xP (aB (A) ((0:Int)).toNat),xS ((rg (rs) ((0:Int))).a) ((rg (rs) ((0:Int))).n) ((rg (rs) ((0:Int))).c),xI ((((rg (rs) ((0:Int))).n:Nat):Int)),xB (decide ((((fG (gl xss 0).length xss 0).length:Int))=((((rg (rs) ((0:Int))).n:Nat):Int)))),xB (decide ((((fG (gl xss 0).length xss 0).length:Int))=((((rg (rs) ((0:Int))).n:Nat):Int))))] rfl (lx (lx (cg.2 ⟨Yd.cH (fun _ _ _ h _=>h),(lx (lx (lx (lx (lx (lx (lx (lx (fun _ h=>by cases h)))))))))⟩))) ?_ ?_
 ·refine⟨fun _ _ hb _ _=>aI (hB.below hb) O Az,fun _ _ hb _ _=>aV (hB.below hb) O Az,?_,?_,fun _ _ hb _ _=>aI (hB.below hb) O Az,fun _ _ hb _ _=>aV (hB.below hb) O Az,fun _ _ hb _ _=>aA (hM.top.ao hb).2 O Az,fun _ _ hb _ _=>bQ (hM.top.ao hb) O Az,fun _ _ _ _ _=>ba O O Az,Dr O,Dr O,aw⟩
  ·intro e1 w1 hb hp bc;refine aF (KU _ _ _ _ _ (gl xss 0).length 0 _ (hM.ao hb) hn hs (by omega) (by omega) (by omega)) O ?_;rintro _ w2 ⟨A',c',rfl,ax⟩;exact ak.n (e6.dn ax.below ⟨A',c',O⟩)
  intro e1 w1 hb hp bc;obtain⟨A',c',I1⟩:=(hp 2 (by decide) rfl _ _ rfl rfl);refine ba (by exact I1) O Az
 intro u w6 jR _;have bg:=aH.ao jR;refine Cv O (ck O ?_);refine⟨?_,bg.none⟩
 congr 1
 refine nA.2 ⟨fun h=> ⟨by omega,by omega,nK,fun i' dI k' eN qP f' nF=>hC i' (by omega) k' (by omega) qP f' nF,by omega⟩,fun h=>by have:=h.2.2.2.2;omega⟩
theorem afM{rs:List aX}{l m:Nat}(hj:j<m):rg ((rs.drop l).take m) j=rg rs ((l+j:Nat):Int):=by
 have e:(((l+j:Nat):Int)).toNat=l+j:=by omega
 rw [rg,rg,e];simp [dt,rB,hj]
theorem Gt(A:ai)(n c:Nat)(rs:List aX)(xss:ag)(w:aa)(hR:bL w A n rs xss)(hn:n<=c)(hc:c<=9223372036854775807):
 aG prog 40 [.agg #[.slice A n c]] w (fun v w'=>v= .bool (decide (dm xss))/\St w w' []):=by
 have di:=hR.len;have r0:0<n->(gl xss 0).length=(rg rs 0).n:=fun h=>hR.ql (by omega) (by omega)
 refine bw func40 O ntmps40 O (b7 O) (bb O (mQ (St.refl w) O O ?_));intro Ab w1 hS;refine aq O (aF (GV _ _ _ _ _ _ (hS.rd 0 O) O) O ?_);rintro _ _ ⟨rfl,rfl⟩;refine aF (qm _ _ _ _) O ?_;rintro _ _ ⟨rfl,rfl⟩
 first | refine de rfl rfl ?_ | refine dV rfl rfl ?_
 refine aq O (cz 15 O (fun h1=>?_) (fun h1=>?_))
 ·refine ay O (ay O (ay O (az O ?_)));refine Cd.eH O (dB O (ck O ?_));exact⟨by rw [cM (fun h:dm xss=>by have:=h.1;omega)],hS.none⟩
 have hM:=hS.cV hR;have r0:=r0 (by omega);refine au O (aF (yp _ _ _ _ _ _ _ _ (hS.rd 0 O) O hM (by omega)) O ?_);rintro _ _ ⟨rfl,rfl⟩;refine au O (aF (qm _ _ _ _) O ?_);rintro _ _ ⟨rfl,rfl⟩;refine au O ?_
 first | refine de rfl rfl ?_ | refine dV rfl rfl ?_
 refine az O (aM _ O (fun h3=>?_) (fun h3=>?_))
 ·refine dB O (ck O ?_);exact⟨by rw [cM (fun h:dm xss=>by have:=h.2.1;omega)],hS.none⟩
 refine aD O (aI (hS.rd 0 O) O (aV (hS.rd 0 O) O ?_));refine ba O O (az O ?_);refine Cd.loop (α:=Nat) (fun k=> [(1,.pointer Ab),(21,.slice A n c),(22,aj n),(23,aj k)]) (fun k w'=>St w w' [Bx 31 1 Ab [.slice A n c]]/\k<=n/\Part xss k) (fun k=>n - k) 0 (ajz O) ⟨hS,bu _,fun p hp=>by simp at hp⟩ ?_;rintro k e w2 ⟨aE,hk,hP⟩;have hM:=aE.cV hR;refine b8 O (aM _ O (fun h5=>?_) (fun h5=>?_))
 ·have pQ:k<xss.length:=by omega
  have rk:=hR.ql (k:=(k:Int)) (by omega) (by omega);have bM:=hM.at_ (i:=k) (by omega) h5;refine aD O (ajn hM.top.2 O O O (by omega) h5 (bQ hM.top O (aq O (aF (acJ _ _ _ _ _ bM) O ?_))));rintro _ w3 ⟨rfl,ax⟩;have aH:=aE.ao ax.below;have hM:=aH.cV hR
  first | refine de rfl rfl ?_ | refine dV rfl rfl ?_
  refine aq O (cz 30 O (fun h6=>?_) (fun h6=>?_))
  ·refine ay O (ay O (ay O (ay O (az O ?_))));refine Cd.eH O (dB O (dO (dJ ?_)));refine ck O ?_;exact⟨by rw [cM (fun h:dm xss=>h6 ⟨(h.2.2.1.at_ pQ).2.1,(h.2.2.1.at_ pQ).2.2⟩)],aH.none⟩
  have h6:=mM.1 h6;refine au O (aq O (au O ?_));refine aF (xX _ _ _ _) O ?_;rintro _ _ ⟨rfl,rfl⟩;refine au O (aF (yp _ _ _ _ _ _ _ _ (aH.rd 0 O) O hM (by omega)) O ?_);rintro _ _ ⟨rfl,rfl⟩;refine au O (az O ?_);refine aM _ O (fun h7=>?_) (fun h7=>?_)
  ·refine dB O (dO (dJ ?_));refine ck O ?_;exact⟨by rw [cM (fun h:dm xss=>h7 (by have:=(h.2.2.1.at_ pQ).1;omega))],aH.none⟩
  refine aD O (aK O (aS O (tQ ?_)));exact⟨k+1,by omega,(ajz O),aH,by omega,hP.step pQ (by omega) h6.1 h6.2⟩
 have nK:=hP.all (by omega);have hs:=nK.sys;have ew:∀i:Int,0<=i->i<n->(rg rs i).n=(rg rs 0).n:=fun i h0 h1=>by
  have e1:=hR.ql h0 h1;have e2:=(nK _ (sS h0 (by omega))).1;omega
 refine bo O (bn (cJ O ?_));refine aI (aE.rd 0 O) O (aV (aE.rd 0 O) O ?_);refine ba O O (az O ?_);refine Cd.loop (α:=Nat) (fun i=> [(1,.pointer Ab),(38,.slice A n c),(39,aj n),(40,aj i)]) (fun i w'=>St w w' [Bx 31 1 Ab [.slice A n c]]/\i<=n/\∀i',i'<i->∀k,k<n->i'+2<=k->∀f,f< (gl xss 0).length->Comm xss i' k f) (fun i=>n - i) 0 (ajz O) ⟨aE,bu _,fun i' dI=>by omega⟩ ?_;rintro i e w3 ⟨aH,hi,hC⟩;have hM:=aH.cV hR;refine b8 O (aM _ O (fun h6=>?_) (fun h6=>?_))
 ·refine aD O (ajn hM.top.2 O O O (by omega) h6 (bQ hM.top O (aq O (aI (aH.rd 0 O) O (aV (aH.rd 0 O) O ?_)))));refine aq O (aK O ?_);refine aI (aH.rd 0 O) O (aV (aH.rd 0 O) O (ba O O (MO O O O ?_)));obtain⟨l,hl,QA,F8⟩:∃l:Nat,min ((i:Int)+2) (n:Int)=(l:Int)/\l<=n/\(l=i+2\/(l=n/\n<=i+2)):=⟨min (i+2) n,by omega,by omega,by omega⟩;rw [hl];refine yd O O O (by omega) ?_;rw [gB];refine ba O O (az O ?_);refine Cd.loop (α:=Nat) (fun j=> [(1,.pointer Ab),(38,.slice A n c),(39,aj n),(40,aj i),(6,.slice (rg rs i).a (rg rs i).n (rg rs i).c),(53,.slice (cutAt A c l) (n - l) (c - l)),(54,aj ((n - l:Nat):Int)),(55,aj j)]) (fun j w'=>St w w' [Bx 31 1 Ab [.slice A n c]]/\j<=n - l/\∀k',k'<l+j->k'<n->i+2<=k'->∀f,f< (gl xss 0).length->Comm xss i k' f) (fun j=>n - l - j) 0 (ajz O) ⟨aH,bu _,fun k' h1 _ _=>by omega⟩ ?_;rintro j e w4 ⟨aQ,hj,Db⟩;have hM:=aQ.cV hR;have Be:=hM.top.cut (c:=c) QA (dC n) hn;refine b8 O (aM _ O (fun h7=>?_) (fun h7=>?_))
  ·have nG:j<n - l:=by omega
   have hk:l+j<n:=by omega
   have o0:i+2<=l+j:=by omega
   refine aD O (ajn Be.2 O O O (by omega) h7 (bQ Be O ?_));rw [afM nG];generalize hke:l+j=k at hk o0;have rki:=ew i (by omega) h6;have rkk:=ew k (by omega) (by omega);refine aq O (aF (yp _ _ _ _ _ _ _ _ (aQ.rd 0 O) O hM (by omega)) O ?_);rintro _ w4 ⟨rfl,rfl⟩;refine az O ?_;refine Cd.loop (α:=Nat) (fun f=> [(1,.pointer Ab),(38,.slice A n c),(39,aj n),(40,aj i),(6,.slice (rg rs i).a (rg rs i).n (rg rs i).c),(53,.slice (cutAt A c l) (n - l) (c - l)),(54,aj ((n - l:Nat):Int)),(55,aj j),(8,.slice (rg rs k).a (rg rs k).n (rg rs k).c),(59,aj ((rg rs 0).n:Int)),(60,aj f)]) (fun f w'=>St w w' [Bx 31 1 Ab [.slice A n c]]/\f<=(gl xss 0).length/\∀f',f'<f->Comm xss i k f') (fun f=> (gl xss 0).length - f) 0 (ajz O) ⟨aQ,bu _,fun f' nF=>by omega⟩ ?_;rintro f e w5 ⟨a8,hf,Dc⟩;have hM:=a8.cV hR;have ir:=hM.at_ (i:=i) (by omega) h6;have iX:=hM.at_ (i:=k) (by omega) (by omega);refine b8 O (aM _ O (fun h8=>?_) (fun h8=>?_))
   ·have JZ:=(hs _ (sS (k:=(i:Int)) (by omega) (by omega))).2 (f:Int) (by omega) (by omega);have cL:=(hs _ (sS (k:=(k:Int)) (by omega) (by omega))).2 (f:Int) (by omega) (by omega);refine cW O ?_
    by_cases fH:gi (gl xss i) f=gi (gl xss k) f
    ·
     refine dQ [xS ((rg rs i).a) ((rg rs i).n) ((rg rs i).c),xI ((f:Int)),xP (aB ((rg rs i).a) ((f:Int)).toNat),xI (gi (gl xss i) ((f:Int))),xS ((rg rs k).a) ((rg rs k).n) ((rg rs k).c),xI ((f:Int)),xP (aB ((rg rs k).a) ((f:Int)).toNat),xI (gi (gl xss k) ((f:Int))),xB (true),xB (true),xU,xU,xU,xU,xU,xU,xU,xU,xU,xU,xU,xU,xU,xU,xU,xB (true)] O (eE O) ?_ ?_
     ·exact⟨Dr O,Dr O,fun _ _ hb _ _=>aA (ir.ao hb).2 O Az,fun _ _ hb _ _=>aY (ir.ao hb) O Az,Dr O,Dr O,fun _ _ hb _ _=>aA (iX.ao hb).2 O Az,fun _ _ hb _ _=>aY (iX.ao hb) O Az,fun _ _ _ _ _=>Dk O (by exact aL Value.bool (eC fH)),Dr O,Dr O,Dr O,Dr O,Dr O,Dr O,Dr O,Dr O,Dr O,Dr O,Dr O,Dr O,Dr O,Dr O,Dr O,Dr O,Dr O,aw⟩
     intro u w6 jR _;have bg:=a8.ao jR;refine fv O (Cd.eH O ?_);refine dB O (dO (dJ (dO (dJ (dO (dJ ?_))))));refine ck O ?_;exact⟨by rw [cM (fun h:dm xss=> (h.2.2.2.1 i (by omega) k (by omega) o0 f (by omega)).2 fH)],bg.none⟩
    by_cases h9:gi (gl xss k) (gi (gl xss i) f)=gi (gl xss i) (gi (gl xss k) f)
    ·refine dQ [xS ((rg rs i).a) ((rg rs i).n) ((rg rs i).c),xI ((f:Int)),xP (aB ((rg rs i).a) ((f:Int)).toNat),xI (gi (gl xss i) ((f:Int))),xS ((rg rs k).a) ((rg rs k).n) ((rg rs k).c),xI ((f:Int)),xP (aB ((rg rs k).a) ((f:Int)).toNat),xI (gi (gl xss k) ((f:Int))),xB (false),xB (false),xS ((rg rs k).a) ((rg rs k).n) ((rg rs k).c),xS ((rg rs i).a) ((rg rs i).n) ((rg rs i).c),xI ((f:Int)),xP (aB ((rg rs i).a) ((f:Int)).toNat),xI (gi (gl xss i) ((f:Int))),xP (aB ((rg rs k).a) (gi (gl xss i) ((f:Int))).toNat),xI (gi (gl xss k) (gi (gl xss i) ((f:Int)))),xS ((rg rs i).a) ((rg rs i).n) ((rg rs i).c),xS ((rg rs k).a) ((rg rs k).n) ((rg rs k).c),xI ((f:Int)),xP (aB ((rg rs k).a) ((f:Int)).toNat),xI (gi (gl xss k) ((f:Int))),xP (aB ((rg rs i).a) (gi (gl xss k) ((f:Int))).toNat),xI (gi (gl xss i) (gi (gl xss k) ((f:Int)))),xB (false),xB (false)] O (eE O) ?_ ?_
     ·exact⟨Dr O,Dr O,fun _ _ hb _ _=>aA (ir.ao hb).2 O Az,fun _ _ hb _ _=>aY (ir.ao hb) O Az,Dr O,Dr O,fun _ _ hb _ _=>aA (iX.ao hb).2 O Az,fun _ _ hb _ _=>aY (iX.ao hb) O Az,fun _ _ _ _ _=>Dk O (by exact aL Value.bool (cM fH)),Dr O,Dr O,Dr O,Dr O,fun _ _ hb _ _=>au O (aA (ir.ao hb).2 O Az),fun _ _ hb _ _=>au O (aY (ir.ao hb) O Az),fun _ _ hb _ _=>au O (aA (iX.ao hb).2 O Az),fun _ _ hb _ _=>au O (aY (iX.ao hb) O Az),Dr O,Dr O,Dr O,fun _ _ hb _ _=>au O (aA (iX.ao hb).2 O Az),fun _ _ hb _ _=>au O (aY (iX.ao hb) O Az),fun _ _ hb _ _=>au O (aA (ir.ao hb).2 O Az),fun _ _ hb _ _=>au O (aY (ir.ao hb) O Az),fun _ _ _ _ _=>Dk O (by exact aL Value.bool (cM (fun h=>h h9))),Dr O,aw⟩
     intro u w6 jR _;have bg:=a8.ao jR;refine fv O (Cd.dZ O ?_);refine aD O (aK O (aS O (tQ ?_)));refine⟨f+1,by omega,(ajz O),bg,by omega,fun f' nF=>?_⟩
     by_cases ef:f'=f
     ·subst ef;exact⟨h9,fH⟩
     exact Dc f' (by omega)
    refine dQ [xS ((rg rs i).a) ((rg rs i).n) ((rg rs i).c),xI ((f:Int)),xP (aB ((rg rs i).a) ((f:Int)).toNat),xI (gi (gl xss i) ((f:Int))),xS ((rg rs k).a) ((rg rs k).n) ((rg rs k).c),xI ((f:Int)),xP (aB ((rg rs k).a) ((f:Int)).toNat),xI (gi (gl xss k) ((f:Int))),xB (false),xB (false),xS ((rg rs k).a) ((rg rs k).n) ((rg rs k).c),xS ((rg rs i).a) ((rg rs i).n) ((rg rs i).c),xI ((f:Int)),xP (aB ((rg rs i).a) ((f:Int)).toNat),xI (gi (gl xss i) ((f:Int))),xP (aB ((rg rs k).a) (gi (gl xss i) ((f:Int))).toNat),xI (gi (gl xss k) (gi (gl xss i) ((f:Int)))),xS ((rg rs i).a) ((rg rs i).n) ((rg rs i).c),xS ((rg rs k).a) ((rg rs k).n) ((rg rs k).c),xI ((f:Int)),xP (aB ((rg rs k).a) ((f:Int)).toNat),xI (gi (gl xss k) ((f:Int))),xP (aB ((rg rs i).a) (gi (gl xss k) ((f:Int))).toNat),xI (gi (gl xss i) (gi (gl xss k) ((f:Int)))),xB (true),xB (true)] O (eE O) ?_ ?_
    ·exact⟨Dr O,Dr O,fun _ _ hb _ _=>aA (ir.ao hb).2 O Az,fun _ _ hb _ _=>aY (ir.ao hb) O Az,Dr O,Dr O,fun _ _ hb _ _=>aA (iX.ao hb).2 O Az,fun _ _ hb _ _=>aY (iX.ao hb) O Az,fun _ _ _ _ _=>Dk O (by exact aL Value.bool (cM fH)),Dr O,Dr O,Dr O,Dr O,fun _ _ hb _ _=>au O (aA (ir.ao hb).2 O Az),fun _ _ hb _ _=>au O (aY (ir.ao hb) O Az),fun _ _ hb _ _=>au O (aA (iX.ao hb).2 O Az),fun _ _ hb _ _=>au O (aY (iX.ao hb) O Az),Dr O,Dr O,Dr O,fun _ _ hb _ _=>au O (aA (iX.ao hb).2 O Az),fun _ _ hb _ _=>au O (aY (iX.ao hb) O Az),fun _ _ hb _ _=>au O (aA (ir.ao hb).2 O Az),fun _ _ hb _ _=>au O (aY (ir.ao hb) O Az),fun _ _ _ _ _=>Dk O (by exact aL Value.bool (eC h9)),Dr O,aw⟩
    intro u w6 jR _;have bg:=a8.ao jR;refine fv O (Cd.eH O ?_);refine dB O (dO (dJ (dO (dJ (dO (dJ ?_))))));refine ck O ?_;exact⟨by rw [cM (fun h:dm xss=>h9 (h.2.2.2.1 i (by omega) k (by omega) o0 f (by omega)).1)],bg.none⟩
   refine bo O (bn (cJ O (aK O (aS O (tQ ?_)))));refine⟨j+1,by omega,(ajz O),a8,by omega,fun k' eN qQ qP f' nF=>?_⟩
   by_cases ek:k'=k
   ·subst ek;exact Dc f' (by omega)
   exact Db k' (by omega) qQ qP f' nF
  refine bo O (bn (cJ O (aK O (aS O (tQ ?_)))));refine⟨i+1,by omega,(ajz O),aQ,by omega,fun i' dI k' eN qP f' nF=>?_⟩
  by_cases ei:i'=i
  ·subst ei;exact Db k' (by omega) eN qP f' nF
  exact hC i' (by omega) k' eN qP f' nF
 have hB:=aH.rd 0 O;refine bo O (bn (nY O ?_));refine dQ [xI (((rg rs 0).n:Int)),xP (aB (Ab) 0),xS (A) (n) (c),.pr (fun v _=>∃A',v= .tuple #[.slice A' (gl xss 0).length (gl xss 0).length,aj (bG (gl xss 0).length xss (gl xss 0).length).2]),.pr (fun v _=>∃A',v= .tuple #[.slice A' (gl xss 0).length (gl xss 0).length,aj (bG (gl xss 0).length xss (gl xss 0).length).2]),.pr (fun v _=>∃A',v= .slice A' (gl xss 0).length (gl xss 0).length),xI ((bG (gl xss 0).length xss (gl xss 0).length).2),.pr (fun v _=>∃A',v= .slice A' (gl xss 0).length (gl xss 0).length),xI ((bG (gl xss 0).length xss (gl xss 0).length).2)] rfl (lx (lx (lx (cg.2 ⟨Yd.cH (fun _ _ _ h _=>h),(cg.2 ⟨Yd.cH (fun _ _ _ h _=>h),(cg.2 ⟨Yd.cH (fun _ _ _ h _=>h),(lx (cg.2 ⟨Yd.cH (fun _ _ _ h _=>h),(lx (fun _ h=>by cases h))⟩))⟩)⟩)⟩)))) ?_ ?_
 ·refine⟨?_,fun _ _ hb _ _=>aI (hB.below hb) O Az,fun _ _ hb _ _=>aV (hB.below hb) O Az,?_,?_,?_,?_,?_,Dr O,aw⟩
  ·intro e1 w1 hb hp bc;refine aF (yp _ _ _ _ _ _ _ _ (hB.below hb) O (hM.ao hb) (by omega)) O ?_;rintro _ w2 ⟨rfl,ax⟩;subst ax;refine ak.n (d0 (by exact O))
  ·intro e1 w1 hb hp bc;refine ajq (SE A n c rs xss (gl xss 0).length _ (hM.ao hb) (by omega) hs nK.inj (by omega)) O (by rw [r0];rfl) O ?_;rintro _ w2 ⟨A',rfl,ax⟩;exact ak.n (e6.dn ax.below ⟨A',O⟩)
  ·intro e1 w1 hb hp bc;obtain⟨A',YQ⟩:=(hp 3 (by decide) rfl _ _ rfl rfl);refine HA O (by exact YQ) O (ak.n ?_);exact e6.dn (Below.refl _ _) ⟨A',O⟩
  ·intro e1 w1 hb hp bc;obtain⟨A',C9⟩:=(hp 4 (by decide) rfl _ _ rfl rfl);refine ak.extract (by exact C9) O O (ak.n ?_);exact e6.dn (Below.refl _ _) ⟨A',O⟩
  ·intro e1 w1 hb hp bc;obtain⟨A',C9⟩:=(hp 4 (by decide) rfl _ _ rfl rfl);refine ak.extract (by exact C9) O O Az
  intro e1 w1 hb hp bc;obtain⟨A',YR⟩:=(hp 5 (by decide) rfl _ _ rfl rfl);refine kc O (by exact YR) O (ak.n ?_);exact e6.dn (Below.refl _ _) ⟨A',O⟩
 intro u w6 jR _;have bg:=aH.ao jR;refine Cv O (ck O ?_);refine⟨?_,bg.none⟩
 congr 1
 have ho:=SF hs (by omega);have hl:=ad9 hs (by omega);exact nA.2 ⟨fun h=> ⟨by omega,by omega,nK,fun i' dI k' eN qP f' nF=>hC i' (by omega) k' (by omega) qP f' nF,ho.2 (hl.1 h)⟩,fun h=>hl.2 (ho.1 h.2.2.2.2)⟩
section
variable {P:Program} {N:Nat} {ops:Array Oper} {K:Env->aa->Prop} {rest:List Oper} {e:Env} {w:aa} {d:Nat} {ty:ad} {pos:String} {af:Array Edge} {x y:ae} {xt yt:ad}
theorem run_equal_bool[bP P xt .bool](a b:Bool):(Op.equal xt (.bool a) (.bool b)).run P w= .ok (a==b) w:=
 run_equalIn_bool w 9999 xt a b bP.out
theorem U9[bP P xt .bool]{a b:Bool}(hx:ev e x= .bool a)(hy:ev e y= .bool b)(hb:Nat.blt d N=true)(hK:ak P N ops K rest (bC e d (.bool (a==b))) w):
 ak P N ops K (⟨some d,.binOp .eql xt x y yt,ty,pos,af,none⟩::rest) e w:=
 .val (by simp [execOp,hx,hy,eqGuard,binOp,run_equal_bool]) hb hK
end
section
variable{t t':ad}
variable {P:Program} {N:Nat} {ops:Array Oper} {K:Env->aa->Prop} {rest:List Oper} {e:Env} {w0 w w':aa} {ks:List Ck} {d:Nat} {ty:ad} {pos:String} {af:Array Edge}
theorem EN{f0:Field}{z0 zf:ab}{b bf:Nat}[bP P t (.struct #[f0])][bO P t (.agg #[z0]) 1 b]{x0:ae}{v0:ab}(hI:bO P f0.type zf 1 bf)(ho:f0.offset=0)(h0:ev e x0=v0)(c0:v0.oneCell'=true)(hb:Nat.blt d N=true)(hK:ak P N ops K rest (bC e d (.agg #[v0])) w):ak P N ops K (⟨some d,.build t #[(0,x0)],ty,pos,af,none⟩::rest) e w:=by
 obtain⟨inf,hi,fp,hs,iq⟩:=bO.get P t;obtain⟨acB,dI,acs,BA,aad⟩:=hI.get P f0.type;have e0:v0.cells= #[v0]:=by cases v0<;>simp [Value.oneCell']at c0<;>rfl
 have ez:(Value.agg #[z0]).cells= #[z0]:=O;refine .val (w':=w) ?_ hb hK;simp [execOp,Instr.build,run_underlying (bP.out (P:=P) (t:=t)),sizeOf,typeInfo,zeroValue,hi,fp,dI,BA,ho,h0,e0,ez,Instr.fill]
theorem Vg{x y:ae}{i j:Int}(hx:ev e x=aj i)(hy:ev e y=aj j)(hb:Nat.blt d N=true)(hK:ak P N ops K rest (bC e d (aj (max i j))) w):
 ak P N ops K (⟨some d,.call ⟨.builtin .max, #[x,y], #[t,t']⟩,ty,pos,af,none⟩::rest) e w:=by
 have hm:(if i<j then j else i)=max i j:=by split<;>omega
 refine .val (w':=w) ?_ hb hK;simp [execOp,resolve,invoke,builtin,hx,hy,Builtin.max_,Builtin.max2,hm]
theorem CE{el:ad}[bP P t (.slice el)]{x y:ae}{A:ai}{n c:Nat}(hx:ev e x= .slice A n c)(hy:ev e y= .slice none 0 0)(hb:Nat.blt d N=true)(hK:ak P N ops K rest (bC e d (.bool A.isNone)) w):
 ak P N ops K (⟨some d,.binOp .eql t x y t',ty,pos,af,none⟩::rest) e w:=by
 have hr:(Op.equal t (.slice A n c) (.slice none 0 0)).run P w= .ok A.isNone w:=by
  show(Op.equalIn (9999+1) t (.slice A n c) (.slice none 0 0)).run P w=_;rw [Op.equalIn];cases A<;>simp [run_underlying (bP.out (P:=P) (t:=t))]
 exact .val (by simp [execOp,hx,hy,eqGuard,binOp,hr]) hb hK
end
theorem Td{t:ad}:∀ {rs:List aX} {xss:ag} {i:Nat} {xs:ah},rs.length=xss.length->i<rs.length->(bF t rs xss).set i (ar t (rs.getD i bW).a (rs.getD i bW).n (rs.getD i bW).c xs)=bF t rs (xss.set i xs)
 | [],_,_,_,_,h=>by simp at h
 | r::rs,[],_,_,h,_=>by simp at h
 | r::rs,x::xss,0,xs,_,_=>rfl
 | r::rs,x::xss,i+1,xs,h,hi=>by
  have:=Td (t:=t) (rs:=rs) (xss:=xss) (i:=i) (xs:=xs) (by simpa using h) (by simpa using hi);simpa [bF]using this
theorem BJ{t1 t2:ad}{A:ai}{n c:Nat}{rs:List aX}{xss:ag}{pre ks:List Ck}{i:Nat}(hr:rs.length=xss.length)(hi:i<rs.length):(pre++ (aU t1 t2 A n c rs xss++ks))[pre.length+1+i]?=some (ar t2 (rs.getD i bW).a (rs.getD i bW).n (rs.getD i bW).c (xss.getD i [])):=by
 rw [jW (by omega),show pre.length+1+i - pre.length=i+1 by omega,lh (by simp [aU,tq hr];omega)];simpa [aU]using vU (t:=t2) hr hi
theorem aeB{t1 t2:ad}{A:ai}{n c:Nat}{rs:List aX}{xss:ag}{pre ks:List Ck}{i:Nat}{xs:ah}(hr:rs.length=xss.length)(hi:i<rs.length):(pre++ (aU t1 t2 A n c rs xss++ks)).set (pre.length+1+i) (ar t2 (rs.getD i bW).a (rs.getD i bW).n (rs.getD i bW).c xs)=pre++ (aU t1 t2 A n c rs (xss.set i xs)++ks):=by
 rw [List.set_append_right _ _ (by omega),show pre.length+1+i - pre.length=i+1 by omega,List.set_append_left _ _ (by simp [aU,tq hr];omega)]
 congr 2
 simp only [aU,List.set_cons_succ];rw [Td hr hi]
section
variable {P:Program} {N:Nat} {ops:Array Oper} {K:Env->aa->Prop} {rest:List Oper} {e:Env} {w0 w w':aa} {ks pre:List Ck} {ty:ad} {pos:String} {af:Array Edge}
theorem CH{t t1 t2:ad}{z:ab}{b:Nat}[bO P t z 1 b]{a x:ae}{A:ai}{n c:Nat}{rs:List aX}{xss:ag}(i:Nat){f u:Int}(hS:St w0 w (pre++ (aU t1 t2 A n c rs xss++ks)))(hr:rs.length=xss.length)(hi:i<rs.length)(ha:ev e a= .pointer (aB (rg rs i).a f.toNat))(hx:ev e x=aj u)(hj:f.toNat< (rg rs i).n)(hK:∀w',St w0 w' (pre++ (aU t1 t2 A n c rs (xss.set i ((gl xss i).set f.toNat u))++ks))->ak P N ops K rest e w'):ak P N ops K (⟨none,.store t a x,ty,pos,af,none⟩::rest) e w:=
 .iG (pre.length+1+i) hS (BJ hr hi) ha hx hj fun w' h=>hK w' (by
  have e1:gl xss i=xss.getD i []:=by simp [gl]
  rw [e1,<-aeB (pre:=pre) (ks:=ks) hr hi];exact h)
end
structure EK where
 top:aX
 rs:List aX
 xss:ag
def EK.ok(m:EK):Prop:=m.xss.length=m.top.n
def EK.dH(t1 t2:ad)(m:EK):List Ck:=aU t1 t2 m.top.a m.top.n m.top.c m.rs m.xss
section
variable {P:Program} {N:Nat} {ops:Array Oper} {K:Env->aa->Prop} {rest:List Oper} {e:Env} {w0 w w':aa} {ks:List Ck} {d:Nat} {ty:ad} {pos:String} {af:Array Edge}
def S6(a n u:Nat)(R:ab->aa->Prop):jr
 | .normal,e,w=>∃A f,e a= .pointer A/\Rd w A n f/\R (.tuple #[.agg ((List.range n).map f).toArray,e u]) w
 | .ret,e,w=>∃A f,e a= .pointer A/\Rd w A n f/\R (.tuple #[.agg ((List.range n).map f).toArray,e u]) w
 | _,_,_=>False
theorem mH{a n u:Nat}{R:ab->aa->Prop}{A:ai}{f:Nat->ab}{v:ab}(h:e a= .pointer A)(hR:Rd w A n f)(hv:e u=v)(h2:R (.tuple #[.agg ((List.range n).map f).toArray,v]) w):S6 a n u R .ret e w:=⟨A,f,h,hR,by rw [hv];exact h2⟩
theorem tm{fn:Func}{R:ab->aa->Prop}{a t n b u:Nat}{fs:Array Field}{z:ab}[bP P t (.struct fs)][bO P t z n b](hr:fn.results= #[.cell a t,.tmp u])(uo:Nat.blt 0 n=true):∀x a1 e w,js N a1 e->S6 a n u R x e w->bodyPost P fn (fun x w'=>∃v,x= .returned v/\R v w') x a1 w:=by
 intro x a1 e w he q;have hn:0<n:=by simpa [Nat.blt_eq]using uo
 have hg:=he.get a;have hh:=he.get u;have key:∀(A:ai) (f:Nat->ab),e a= .pointer A->Rd w A n f->(results fn a1.tmps).run P w= .ok (.tuple #[.agg ((List.range n).map f).toArray,e u]) w:=by
  intro A f hA hR;obtain⟨q,rfl,hl⟩:=Ti (P:=P) (t:=t) hn hR;rw [iI]at hg hh;simp [results,hr,hg,hh,hA,asAddr,hl]
 cases x<;>first
  | exact q.elim
  | (
   obtain⟨A,f,hA,hR,h2⟩:=q;exact⟨he.defers,_,key A f hA hR,_,O,h2⟩)
end
section
variable{t:ad}{b0 b1 b2:Nat}{bs:ah}
variable {P:Program} {N:Nat} {ops:Array Oper} {K:Env->aa->Prop} {rest:List Oper} {e:Env} {w0 w w':aa} {ks:List Ck} {d:Nat} {ty:ad} {pos:String} {af:Array Edge}
theorem U0{el:ad}{x:ae}{v0 v1 v2:ab}(hS:St w0 w ks)(hx:ev e x= .agg #[v0,v1,v2])(hb:Nat.blt d N=true)(hK:∀A w',St w0 w' (Bx el 3 A [v0,v1,v2]::ks)->ak P N ops K rest (bC e d (.pointer A)) w')(hM:eT [v0,v1,v2]=false:=by rfl):ak P N ops K (⟨some d,.box el x,ty,pos,af,none⟩::rest) e w:= .CT hS hx hb rfl hK hM
variable {x y:ae} {xt yt:ad} {i j:Int}
theorem T0(i:Int):0<=IntKind.u64.wrap i/\IntKind.u64.wrap i<=18446744073709551615:=by rw [IntKind.wrap_u64];omega
theorem MP(hx:ev e x= .int .u64 i)(hy:ev e y= .int .u64 j)(hb:Nat.blt d N=true)(hK:∀r:Int,0<=r/\r<=18446744073709551615->ak P N ops K rest (bC e d (.int .u64 r)) w):
 ak P N ops K (⟨some d,.binOp .mul xt x y yt,ty,pos,af,none⟩::rest) e w:=
 .val (by simp [execOp,hx,hy,eqGuard,binOp,Op.intArith]) hb (hK _ (T0 (i*j)))
theorem EM(hx:ev e x= .int .u64 i)(hy:ev e y= .int .u64 j)(hb:Nat.blt d N=true)(hK:∀r:Int,0<=r/\r<=18446744073709551615->ak P N ops K rest (bC e d (.int .u64 r)) w):
 ak P N ops K (⟨some d,.binOp .add xt x y yt,ty,pos,af,none⟩::rest) e w:=
 .val (by simp [execOp,hx,hy,eqGuard,binOp,Op.intArith]) hb (hK _ (T0 (i+j)))
theorem Wq(i:Int):0<=bits .and .u64 i 16777215/\bits .and .u64 i 16777215<=16777215:=by
 have h:∀a:BitVec 64,(a &&& BitVec.ofInt 64 16777215).toNat<=16777215:=fun a=>by
  rw [BitVec.toNat_and];exact Nat.and_le_right
 have e:bits .and .u64 i 16777215=IntKind.u64.wrap ((BitVec.ofInt 64 i &&& BitVec.ofInt 64 16777215).toNat:Int):=O;have:=h (BitVec.ofInt 64 i);rw [e,IntKind.wrap_u64];omega
theorem UR(hx:ev e x= .int .u64 i)(hy:ev e y= .int .u64 16777215)(hb:Nat.blt d N=true)(hK:∀r:Int,0<=r/\r<=16777215->ak P N ops K rest (bC e d (.int .u64 r)) w):
 ak P N ops K (⟨some d,.binOp .and xt x y yt,ty,pos,af,none⟩::rest) e w:=
 .val (by simp only [execOp,hx,hy,eqGuard,binOp,intBits_and];simp) hb (hK _ (Wq i))
theorem Vk{k:IntKind}(hx:ev e x= .int .u64 i)(hy:ev e y= .int k 33)(hb:Nat.blt d N=true)(hK:∀r:Int,ak P N ops K rest (bC e d (.int .u64 r)) w):
 ak P N ops K (⟨some d,.binOp .shr xt x y yt,ty,pos,af,none⟩::rest) e w:=by
 refine .val (v:= .int .u64 (i.fdiv (2^33))) ?_ hb (hK _);have e1:min 33 IntKind.u64.bits=33:=by decide
 simp [execOp,hx,hy,eqGuard,binOp,Op.shift,e1]
def nv(w:aa)(A:ai)(n:Nat)(bs:ah):Prop:=bs.length=n/\(∀b∈bs,0<=b/\b<=255)/\Rd w A n (fun j=> .int .u8 (bs.getD j 0))
theorem nv.below{w w':aa}{A:ai}{n:Nat}(h:nv w A n bs)(hb:Below w.heap.size w w'):nv w' A n bs:=⟨h.1,h.2.1,Rd.below h.2.2 hb⟩
theorem nv.at_{A:ai}{n:Nat}(h:nv w A n bs){j:Int}(h0:0<=j)(h1:j<n):0<=bs.getD j.toNat 0/\bs.getD j.toNat 0<=255:=by
 have hl:j.toNat<bs.length:=by rw [h.1];omega
 rw [dt,fU hl];exact h.2.1 _ (fe hl)
theorem MN{u:TypeDesc}[bP P t u]{A:ai}{n:Nat}(hR:nv w A n bs)(hx:ev e x= .pointer (aB A i.toNat))(h1:i.toNat<n)(hp:uK u=true)(hb:Nat.blt d N=true)(hK:ak P N ops K rest (bC e d (.int .u8 (bs.getD i.toNat 0))) w):ak P N ops K (⟨some d,.load t x,ty,pos,af,none⟩::rest) e w:=
 .ld hR.2.2 hx h1 rfl hp hb hK
def zh:Nat->ah->List (Nat×ab)
 | _,[]=> []
 | k,v::r=> (k,.int .i64 v)::zh (k+1) r
theorem Ol:∀(vs:ah) (k:Nat) (cells:Array ab),k+vs.length<=cells.size->∃out,Instr.fill (fun i=>some (i*1,1)) cells (zh k vs)=some out/\out.size=cells.size/\(∀j,j<k->out[j]?=cells[j]?)/\(∀j,j<vs.length->out[k+j]?=vs[j]?.map (Value.int .i64))/\(∀j,k+vs.length<=j->out[j]?=cells[j]?)
 | [],k,cells,_=> ⟨cells,rfl,rfl,fun _ _=>rfl,fun j hj=>absurd hj (mg _),fun _ _=>rfl⟩
 | v::r,k,cells,h=>by
  have hk:k<cells.size:=by simp at h;omega
  obtain⟨out,h1,h2,h3,h4,h5⟩:=Ol r (k+1) (cells.setIfInBounds k (aj v)) (by simp at h|-;omega);refine⟨out,?_,by rw [h2];simp,fun j hj=>?_,fun j hj=>?_,fun j hj=>?_⟩
  ·show Instr.fill _ cells ((k,aj v)::zh (k+1) r)=some out;rw [<-h1];simp [Instr.fill,Value.cells,show ¬cells.size<k+1 by omega]
  ·rw [h3 j (by omega),ru,aR (by omega)]
  ·cases j with
   | zero=>rw [Nat.add_zero,h3 k (by omega),ru,aT rfl,aT hk];rfl
   | succ q=>
    have:=h4 q (by simpa using hj);rw [show k+ (q+1)=k+1+q by omega,this]
    rfl
  ·rw [h5 j (by simp at hj|-;omega),ru,aR (by simp at hj;omega)]
theorem XH(vs:ah)(cells:Array ab)(h:cells.size=vs.length):Instr.fill (fun i=>some (i*1,1)) cells (zh 0 vs)=some (vs.map (Value.int .i64)).toArray:=by
 obtain⟨out,h1,h2,_,h4,_⟩:=Ol vs 0 cells (by omega);rw [h1]
 congr 1
 apply Array.ext';apply List.ext_getElem?;intro j
 by_cases hj:j<vs.length
 ·have:=h4 j hj;rw [Nat.zero_add]at this;simpa using this
 rw [qy (by simpa [h2,h]using hj),qy (by simpa using hj)]
theorem lj{el:ad}{z:ab}{b n:Nat}[bP P t (.slice el)][bO P el z 1 b]{ps:Array (Nat×ae)}(vs:ah)(hS:St w0 w ks)(hv:(ps.toList.map fun p=> (p.1,ev e p.2))=zh 0 vs)(hn:vs.length=n)(qT:n≠0)(vD:n<=1000)(hz:z.cells= #[z])(hb:Nat.blt d N=true)(hK:∀A w',St w0 w' (ar el A n n vs::ks)->ak P N ops K rest (bC e d (.slice A n n)) w'):ak P N ops K (⟨some d,.buildSlice t n ps,ty,pos,af,none⟩::rest) e w:=by
 subst hn;obtain⟨inf,hi,fp,hs,iq⟩:=bO.get P el;have hA:=hS.alloc (vs.map (Value.int .i64)) el (by simp [maxLen];omega) (tf _);refine .val (w':=w.alloc (.cells (vs.map (Value.int .i64)).toArray el)) ?_ hb (hK _ _ (by simpa [ar]using hA));have hf:=XH vs ((Array.range (vs.length*1)).map ((#[z]:Array ab)[· % (#[z]:Array ab).size]!)) (by simp);have qX:(ps.map fun p=> (p.1,ev e p.2)).toList=zh 0 vs:=by rw [Array.toList_map];exact hv
 have rK:¬16777216<vs.length:=by omega
 simp only [Nat.mul_one]at hf;simp [execOp,Instr.buildSlice,run_underlying (bP.out (P:=P) (t:=t)),sizeOf,typeInfo,zeroValue,hi,hs,fp,hz,newRow,hv,rK,qT];simp at hf;simp [hf]
theorem UY{f0 f1 f2:Field}{z0 z1 z2 y0 y1 y2:ab}{b:Nat}[bP P t (.struct #[f0,f1,f2])][bO P t (.agg #[z0,z1,z2]) 3 b]{x0 x2:ae}{v0 v2:ab}(rM:bO P f0.type y0 1 b0)(pK:bO P f1.type y1 1 b1)(rN:bO P f2.type y2 1 b2)(ho:f0.offset=0)(ow:f1.offset=1)(xq:f2.offset=2)(h0:ev e x0=v0)(h2:ev e x2=v2)(c0:v0.oneCell'=true)(c2:v2.oneCell'=true)(hb:Nat.blt d N=true)(hK:ak P N ops K rest (bC e d (.agg #[v0,z1,v2])) w):ak P N ops K (⟨some d,.build t #[(0,x0),(2,x2)],ty,pos,af,none⟩::rest) e w:=by
 obtain⟨inf,hi,fp,hs,iq⟩:=bO.get P t;obtain⟨D5,mw,_,oz,_⟩:=rM.get P f0.type;obtain⟨D6,kE,_,s9,_⟩:=pK.get P f1.type;obtain⟨Gq,r5,_,y8,_⟩:=rN.get P f2.type;have e0:v0.cells= #[v0]:=by cases v0<;>simp [Value.oneCell']at c0<;>rfl
 have e2:v2.cells= #[v2]:=by cases v2<;>simp [Value.oneCell']at c2<;>rfl
 have ez:(Value.agg #[z0,z1,z2]).cells= #[z0,z1,z2]:=O;refine .val (w':=w) ?_ hb hK;simp [execOp,Instr.build,run_underlying (bP.out (P:=P) (t:=t)),sizeOf,typeInfo,zeroValue,hi,fp,mw,oz,kE,s9,r5,y8,ho,ow,xq,h0,e0,h2,e2,ez,Instr.fill]
end
section
variable {P:Program} {N:Nat} {ops:Array Oper} {K:Env->aa->Prop} {rest:List Oper} {e:Env} {w:aa} {d:Nat} {ty:ad} {pos:String} {af:Array Edge} {x y:ae} {xt yt:ad}
theorem uX{m i:Nat}(hx:ev e x=aj m)(hy:ev e y= .int .u64 (i:Int))(hi:i<=5)(hm:m<=32)(hb:Nat.blt d N=true)(hK:ak P N ops K rest (bC e d (aj ((m / 2^i:Nat):Int))) w):
 ak P N ops K (⟨some d,.binOp .shr xt x y yt,ty,pos,af,none⟩::rest) e w:=by
 refine .val (v:=aj ((m / 2^i:Nat):Int)) ?_ hb hK;have e1:min i IntKind.i64.bits=i:=Nat.min_eq_left (iS hi (by decide));have e2:¬(i:Int)<0:=by omega
 have e3:(m:Int).fdiv (2^i)=((m / 2^i:Nat):Int):=by
  rw [Int.fdiv_eq_ediv_of_nonneg _ (by have:=Int.pow_nonneg (n:=2) (m:=i) (by decide);omega)];simp
 simp [execOp,hx,hy,eqGuard,binOp,Op.shift,e1,e2,e3]
theorem MQ{i:Nat}(hx:ev e x=aj 1)(hy:ev e y= .int .u64 (i:Int))(hi:i<=5)(hb:Nat.blt d N=true)(hK:ak P N ops K rest (bC e d (aj ((2^i:Nat):Int))) w):
 ak P N ops K (⟨some d,.binOp .shl xt x y yt,ty,pos,af,none⟩::rest) e w:=by
 refine .val (v:=aj ((2^i:Nat):Int)) ?_ hb hK;have e1:min i IntKind.i64.bits=i:=Nat.min_eq_left (iS hi (by decide));have e2:¬(i:Int)<0:=by omega
 have e3:IntKind.i64.wrap ((1:Int)*2^i)=((2^i:Nat):Int):=by
  rcases(by omega:i=0\/i=1\/i=2\/i=3\/i=4\/i=5)with rfl | rfl | rfl | rfl | rfl | rfl<;>decide
 rw [Int.one_mul]at e3;simp [execOp,hx,hy,eqGuard,binOp,Op.shift,e1,e2,e3]
theorem VW:∀m:Nat,m<33->bits .and .i64 (m:Int) 1=((m%2:Nat):Int):=by decide
theorem uU{m:Nat}(hx:ev e x=aj m)(hy:ev e y=aj 1)(hm:m<=32)(hb:Nat.blt d N=true)(hK:ak P N ops K rest (bC e d (aj ((m%2:Nat):Int))) w):
 ak P N ops K (⟨some d,.binOp .and xt x y yt,ty,pos,af,none⟩::rest) e w:=
 .val (by simp only [execOp,hx,hy,eqGuard,binOp,intBits_and,VW m (by omega)];simp) hb hK
end
end
section
def cell(M:ag)(i:Nat)(f:Int):Int:=gi (gl M i) f
def To(M:ag)(i f:Nat)(v:Int):ag:=M.set i ((gl M i).set f v)
def put(M:ag)(i f g:Nat):ag:=To (To M i f g) i g f
section
variable {n F:Nat} {M:ag}
theorem IW{i k:Nat}{p:ah}(hi:i<M.length):gl (M.set i p) k=if i=k then p else gl M k:=by
 simp only [gl,gB,dt,n3]
 by_cases e:i=k
 ·subst e;simp [hi]
 simp [e]
end
section
variable {n F:Nat} {M:ag} {met at_:Nat}
def grow(n F:Nat)(ok:ag->Nat->Nat->Bool)(fin:ag->Bool):Nat->Nat->Nat->ag->List (ag)
 | 0,_,_,_=> []
 | k+1,at_,met,M=>
  if at_=met*n then(if met=F/\fin M=true then [M]else [])
  else if 0<=cell M (at_%n) (at_ / n:Nat)then grow n F ok fin k (at_+1) met M
  else(List.range' (at_ / n+1) (min met (F - 1) - at_ / n)).flatMap fun g=>
   if 0<=cell M (at_%n) (g:Nat)then []else if ok (put M (at_%n) (at_ / n) g) (at_%n) (at_ / n)=true then grow n F ok fin k (at_+1) (max met (g+1)) (put M (at_%n) (at_ / n) g)else []
end
def kn(M:ag)(i:Nat)(x:Int):Int:=if x<0 then -1 else cell M i x
def Hq(M:ag)(i k:Nat)(f:Int):Prop:=(0<=cell M i f->cell M i f≠cell M k f)/\(0<=kn M k (cell M i f)->0<=kn M i (cell M k f)->kn M k (cell M i f)=kn M i (cell M k f))
instance (M:ag)(i k:Nat)(f:Int):Decidable (Hq M i k f):=by unfold Hq;exact inferInstance
def My(M:ag)(f:Int):Prop:=∀i,i<M.length->∀k,k<M.length->i+2<=k->Hq M i k f
instance (M:ag)(f:Int):Decidable (My M f):=by unfold My;exact inferInstance
def Mp(M:ag)(i k:Nat)(f g:Int):Prop:=cell M k f=g\/(0<=cell M k f/\0<=cell M k g/\0<=cell M i (cell M k f)/\cell M i (cell M k f)≠cell M k g)\/(0<=cell M k f/\0<=cell M k g/\0<=cell M i (cell M k g)/\cell M i (cell M k g)≠cell M k f)
instance (M:ag)(i k:Nat)(f g:Int):Decidable (Mp M i k f g):=by unfold Mp;exact inferInstance
section
variable {n F:Nat} {L M:ag}
def forms(n F:Nat)(k at_ met:Nat)(M:ag):List (ag):=(grow n F (fun _ _ _=>true) (fun _=>true) k at_ met M).filter fun L=>decide (dm L)
end
end
section
open Go.RowKit
def xV(init:ah)(ix v:Nat->Int):Nat->ah
 | 0=>init
 | k+1=> (xV init ix v k).set (ix k).toNat (v k)
def V7(N:Nat)(o:ah):ah:=xV (List.replicate N 0) (fun k=>gi o k) (fun k=> (k:Int)) o.length
section
variable {N:Nat} {o:ah}
end
def afU(o b mv:ah):ah:=o.map fun x=>gi b (gi mv x)
def pd(N:Nat)(p mv:ah):ah:=xV (List.replicate N 0) (fun f=>gi p f) (fun f=>gi p (gi mv f)) N
def XT(N:Nat)(xss:ag)(f:Int):ag:=xss.map fun mv=>afU (fG N xss f) (V7 N (fG N xss f)) mv
def zY(a b:Int):Int:=if a<b then -1 else if b<a then 1 else 0
def uE:ah->ah->Int
 | [],[]=>0
 | [],_::_=> -1
 | _::_,[]=>1
 | a::l,b::r=>if zY a b=0 then uE l r else zY a b
def Sj:ag->ag->Int
 | [],[]=>0
 | [],_::_=> -1
 | _::_,[]=>1
 | a::l,b::r=>if uE a b=0 then Sj l r else uE a b
theorem Fa{a b:Int}:zY a b=0↔a=b:=by unfold zY;by_cases h:a<b<;>by_cases h':b<a<;>simp [h,h']<;>omega
theorem WX{a b:Int}:zY a b<0↔a<b:=by unfold zY;by_cases h:a<b<;>by_cases h':b<a<;>simp [h,h']<;>omega
theorem Sk:∀ {a b:ah},uE a b=0↔a=b
 | [],[]=>by simp [uE]
 | [],_::_=>by simp [uE]
 | _::_,[]=>by simp [uE]
 | a::l,b::r=>by
  simp only [uE]
  split
  ·rename_i h;rw [Sk,Fa.1 h];simp
  ·rename_i h;constructor
   ·intro h';exact absurd h' h
   ·intro h';exact absurd (Fa.2 (List.cons.inj h').1) h
section
variable {n F:Nat}
end
theorem RU(A:ai)(n c:Nat)(xs:ah)(w:aa)(hR:bt w A n xs)(hn:n<=1000000000):aG prog 96 [.slice A n c] w (fun v w'=>∃A' c',v= .slice A' n c'/\St w w' [ar 2 A' n c' xs]):=by
 refine bw func96 O ntmps96 O (b7 O) (bb O (fZ (St.refl w) O ?_));intro A1 w1 aC;have aC:St w w1 [ar 2 A1 0 0 []]:=aC;refine aq O (dS 0 aC O (aC.b9 hR) O O O ?_);intro A2 c2 w2 aE;rw [Nat.zero_add]at aE|-;refine bD O (fb O ?_);exact⟨A2,c2,O,aE⟩
theorem adu(A:ai)(n c:Nat)(rs:List aX)(xss:ag)(w:aa)(hR:bL w A n rs xss)(hn:n<=1000000000)(hr:∀i,i<n->(rs.getD i bW).n<=1000000000):
 aG prog 95 [.slice A n c] w (fun v w'=>∃A' c' rs',v= .slice A' n c'/\rs'.length=n/\St w w' (aU 24 2 A' n c' rs' xss)):=by
 refine bw func95 O ntmps95 O (b7 O) (bb O (fZ (St.refl w) O ?_));intro A1 w1 aC;have aC:St w w1 [br 24 A1 0 0 []]:=aC;refine az O (Cd.loop (α:=Nat×ai×Nat×List aX) (fun s=> [(0,.slice A n c),(3,.slice s.2.1 s.1 s.2.2.1),(4,aj (s.1:Int))]) (fun s w'=>St w w' (br 24 s.2.1 s.1 s.2.2.1 s.2.2.2::bF 2 s.2.2.2 (xss.take s.1))/\s.1<=n/\s.2.2.2.length=s.1) (fun s=>n - s.1) (0,A1,0,[]) (ajz O) ⟨aC,bu _,O⟩ ?_);rintro⟨k,A3,c3,dX⟩ e w2 ⟨aE,hk,hlen⟩;dsimp only at aE hk hlen|-;refine bb O (ba O O (az O ?_));refine aM _ O (fun h1=>?_) (fun h1=>?_)
 ·have eN:k<n:=by omega
  have hx:k<xss.length:=by rw [hR.len];exact eN
  refine aD O (ajn (aE.BP hR.top).2 O O O (by omega) h1 (bQ (aE.BP hR.top) O (aF (RU _ _ _ _ _ (aE.b9 (hR.at_ (i:=k) (by omega) h1)) (hr k eN)) O ?_)));rintro _ w3 ⟨A4,c4,rfl,aH⟩;have aH:=aE.call aH;refine lU aH O O O fun A5 w4 aQ=>lS 2 aQ O (aQ.fq 0 O) O O O (by omega) (by omega) O fun A6 c6 w5 a8=>aq O (aK O (aS O (tQ ?_)));refine⟨(k+1,A6,c6,dX++ [⟨A4,(rg rs k).n,c4⟩]),by show n - (k+1)<n - k;omega,(ajz O),?_,eN,by simp [hlen]⟩;have e2:gl xss k=xss[k]:=by simp [gl,dt,fU hx]
  show St w w5 (br _ A6 (k+1) c6 (dX++ [_])::bF _ (dX++ [_]) (xss.take (k+1)));rw [rC hx,tp (by simp [hlen];omega)];have h5:St w w5 (ar 2 A4 (rg rs k).n c4 (gl xss k)::br 24 A6 (k+1) c6 (dX++ [⟨A4,(rg rs k).n,c4⟩])::bF 2 dX (xss.take k)):=a8.tail;rw [e2]at h5;refine h5.perm ((List.Perm.swap _ _ _).trans (List.Perm.cons _ ?_));exact iK (l₁:=[_])
 refine bo O (bn (eG O ?_));refine fb O ?_;have:k=n:=by omega
 subst this;rw [<-hR.len,List.take_length]at aE;exact⟨A3,c3,dX,O,hlen,by rw [<-hR.len];exact aE⟩
def body(n F:Nat)(ok:ag->Nat->Nat->Bool)(fin:ag->Bool)(k at_ met:Nat)(M:ag)(g:Nat):List (ag):=
 if 0<=cell M (at_%n) (g:Nat)then []else if ok (put M (at_%n) (at_ / n) g) (at_%n) (at_ / n)=true then grow n F ok fin k (at_+1) (max met (g+1)) (put M (at_%n) (at_ / n) g)else []
end
section
section
variable {n F:Nat} {M:ag} {met at_:Nat}
end
end
section
open Go.RowKit
def Small(GU flags:Int):Prop:=(1<=GU/\GU<=4)/\(2<=flags/\flags<=12)
instance (GU flags:Int):Decidable (Small GU flags):=by unfold Small;exact inferInstance
theorem Ho(A:ai)(n c:Nat)(xs:ah)(w:aa)(hR:bt w A n xs)(hn:n<=1000000000):aG prog 61 [.slice A n c] w (fun v w'=>∃A' c',v= .slice A' n c'/\St w w' [ar 2 A' n c' xs]):=by
 cases hA:A with
 | none=>
  subst hA;have qT:n=0:=by
   apply yb;intro h;obtain⟨p,hp,_⟩:=hR.2 0 (by omega);simp [aB]at hp
  subst qT;have hx:xs=[]:=lg hR.1;subst hx;refine bw func61 O ntmps61 O (b7 O) (bb O (CE O O O (az O (Cd.eH O (dB O (fb O ?_))))));exact⟨none,0,O,(St.refl w).nil _⟩
 | some a=>
  subst hA;refine bw func61 O ntmps61 O (b7 O) (bb O (CE O O O (az O (Cd.dZ O (aD O (fZ (St.refl w) O ?_))))));intro A1 w1 aC;have aC:St w w1 [ar 2 A1 0 0 []]:=aC;refine aq O (dS 0 aC O (aC.b9 hR) O O O ?_);intro A2 c2 w2 aE;rw [Nat.zero_add]at aE|-;refine bD O (fb O ?_);exact⟨A2,c2,O,aE⟩
end
end Go.Proofs.YtkojeolafnadeaaGreatDoor.Vc
