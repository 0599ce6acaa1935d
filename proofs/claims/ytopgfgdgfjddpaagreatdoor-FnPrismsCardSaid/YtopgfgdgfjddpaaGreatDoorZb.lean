/-
 Lemmas. Conditions: as each states them.
-/
import Derived.Test.YtopgfgdgfjddpaaGreatDoorInst
import Derived.Laws.IdiomCopy
import Derived.Shelf.Bits.Mul64
set_option maxHeartbeats 8000000
namespace Go.Proofs.YtopgfgdgfjddpaaGreatDoor.Vc
open Tryz
section
open Go.RowKit
variable{p S:ai}
theorem U0(n lo hi:Int)(w:aa):aN prog 72 [ak n,ak lo,ak hi] w (fun v w'=>v= .bool (decide (lo<=n/\n<=hi))/\w'=w):=by
 refine bI func72 O ntmps72 O (du O) (bc O ?_);refine cT 10 O (fun h=>?_) (fun h=>?_)
 ·refine au O (ar O (au O (ar O (au O (bM O ?_)))));refine dz O ?_;exact⟨by simp [h],O⟩
 refine aA O (aA O (aA O (bM O ?_)));refine dz O ?_;exact⟨by simp [h],O⟩
theorem yV(n lo hi:Int)(w:aa):aN prog 74 [ak n,ak lo,ak hi] w (fun v w'=>v= .bool (decide (lo<=n/\n<=hi))/\w'=w):=by
 refine bI func74 O ntmps74 O (du O) (bc O ?_);refine cT 10 O (fun h=>?_) (fun h=>?_)
 ·refine au O (ar O (au O (ar O (au O (bM O ?_)))));refine dz O ?_;exact⟨by simp [h],O⟩
 refine aA O (aA O (aA O (bM O ?_)));refine dz O ?_;exact⟨by simp [h],O⟩
def lk(p:ai):Prop:=p.length<=400/\(∀x∈p,0<=x/\x<p.length)/\p.Nodup
instance (p:ai):Decidable (lk p):=by unfold lk;exact inferInstance
def Seen(p:ai)(k:Nat)(S:List Bool):Prop:=
 S.length=p.length/\(∀x∈p.take k,0<=x/\x<p.length)/\(p.take k).Nodup/\∀x:Int,0<=x->x<p.length->(gb S x=true↔x∈p.take k)
theorem cd{k:Nat}(h:k<p.length):gi p k=p[k]:=by simp [gi,dd,gO h]
theorem yR{k:Nat}(h:k<p.length):p.take (k+1)=p.take k++ [gi p k]:=by rw [cd h,su h]
theorem Fe{S:List Bool}{x y:Int}{b:Bool}(hx:0<=x)(eE:x<S.length)(hy:0<=y):gb (S.set x.toNat b) y=if x=y then b else gb S y:=by
 simp only [gb,dd,pA]
 by_cases e:x=y
 ·subst e;rw [ay rfl,ay rfl,ay (by omega)];rfl
 rw [aw (by omega),aw e]
theorem qK{x y:Int}{b:Int}(hx:0<=x)(eE:x<S.length)(hy:0<=y):gi (S.set x.toNat b) y=if x=y then b else gi S y:=by
 simp only [gi,dd,pA]
 by_cases e:x=y
 ·subst e;rw [ay rfl,ay rfl,ay (by omega)];rfl
 rw [aw (by omega),aw e]
theorem Seen.zero(p:ai):Seen p 0 (List.replicate p.length false):=⟨by simp,by simp,by simp,fun x h0 h1=>by
 simp [gb,dd,List.getElem?_replicate];split<;>simp⟩
theorem Seen.bad{k:Nat}{S:List Bool}(h:Seen p k S)(hk:k<p.length)(hb:¬(0<=gi p k/\gi p k<=p.length - 1)):¬lk p:=fun hp=>by
 have:=hp.2.1 (gi p k) (by rw [cd hk];exact dH hk);omega
theorem Seen.W9{k:Nat}{S:List Bool}(h:Seen p k S)(hk:k<p.length)(h0:0<=gi p k/\gi p k<=p.length - 1)(hb:gb S (gi p k)=true):¬lk p:=fun hp=>by
 have h1:=(h.2.2.2 (gi p k) h0.1 (by omega)).1 hb;have h2:(p.take (k+1)).Nodup:=hp.2.2.sublist (List.take_sublist _ _);rw [yR hk,List.nodup_append]at h2;exact h2.2.2 _ h1 _ (by simp) O
theorem Seen.step{k:Nat}{S:List Bool}(h:Seen p k S)(hk:k<p.length)(h0:0<=gi p k/\gi p k<=p.length - 1)(hb:gb S (gi p k)=false):Seen p (k+1) (S.set (gi p k).toNat true):=by
 obtain⟨h1,h2,h3,h4⟩:=h;have h5:¬gi p k∈p.take k:=fun hm=>by have:=(h4 _ h0.1 (by omega)).2 hm;rw [hb]at this;cases this
 refine⟨by simpa using h1,?_,?_,fun x hx eE=>?_⟩
 ·rw [yR hk];intro x hx;rcases iR.1 hx with hx | hx
  ·exact h2 x hx
  simp at hx;subst hx;omega
 ·rw [yR hk,List.nodup_append];refine⟨h3,by simp,fun a ha b uP=>?_⟩;simp at uP;subst uP;intro e;subst e;exact h5 ha
 rw [Fe h0.1 (by omega) hx,yR hk,iR]
 by_cases e:gi p k=x
 ·simp [e]
 rw [aw e,h4 x hx eE];simp;intro h;exact absurd h.symm e
theorem Seen.done{k:Nat}{S:List Bool}(h:Seen p k S)(hk:¬k<p.length)(hl:p.length<=400):lk p:=by
 obtain⟨h1,h2,h3,h4⟩:=h;rw [lp (by omega)]at h2 h3;exact⟨hl,h2,h3⟩
theorem NL(A:aj)(n c:Nat)(p:ai)(w:aa)(hR:di w A n p):aN prog 170 [.slice A n c] w (fun v w'=>v= .bool (decide (lk p))/\St w w' []):=by
 have hl:=hR.1;subst hl;refine bI func170 O ntmps170 O (du O) ?_;refine bc O (bk O O (aI O ?_));refine aR _ O (fun h=>?_) (fun h=>?_)
 ·refine eF O (dz O ?_);exact⟨by rw [dk (fun hp:lk p=>by have:=hp.1;omega)],St.refl _⟩
 refine aG O (bk O O ?_);refine xA p.length (St.refl w) O O (by omega) fun A1 w1 aE=>aI O (Cd.loop (α:=Nat×List Bool) (fun s=> [(0,.slice A p.length c),(3,.slice A1 p.length p.length),(4,ak (s.1:Int))]) (fun s w'=>St w w' [gm 4 A1 p.length p.length s.2]/\s.1<=p.length/\Seen p s.1 s.2) (fun s=>p.length - s.1) (0,List.replicate p.length false) (alH O) ⟨aE,bm _,Seen.zero p⟩ ?_);rintro⟨k,S⟩ e w2 ⟨aD,hk,hI⟩;dsimp only at aD hk hI|-;refine bc O (bk O O (aI O ?_));refine aR _ O (fun h1=>?_) (fun h1=>?_)
 ·refine aG O (alp (aD.gH hR).2 O O O (by omega) h1 (bh (aD.gH hR) O ?_));refine ar O (bk O O (dT O ?_));refine aL (U0 _ _ _ _) O ?_;rintro _ _ ⟨rfl,rfl⟩
  first | refine eZ rfl rfl ?_ | refine fY rfl rfl ?_
  refine ar O (cT 26 O (fun h2=>?_) (fun h2=>?_))
  ·refine aA O (aA O (aA O (aA O (aA O (aA O (aA O (aI O ?_)))))));refine Cd.im O (eF O (fD (e6 ?_)));refine dz O ?_;exact⟨by rw [dk (hI.bad (by omega) (by omega))],aD.none⟩
  refine au O (ar O (au O (ar O (au O (ar O (au O ?_))))));refine alp (aD.gH hR).2 O O O (by omega) h1 (au O (bh (aD.gH hR) O (au O (aF (aD.ji 0 O).2 O (au O (rG (aD.ji 0 O) O (by omega) O O (aI O ?_)))))));refine Cd.cond O (fun h3=>?_) (fun h3=>?_)
  ·refine eF O (fD (e6 ?_));refine dz O ?_;exact⟨by rw [dk (hI.W9 (by omega) (by omega) h3)],aD.none⟩
  refine aG O (alp (aD.gH hR).2 O O O (by omega) h1 (bh (aD.gH hR) O (aF (aD.ji 0 O).2 O (tn 0 aD O O O (by omega) ?_))));intro w3 aM;refine ar O (aJ O (aT O (tQ ?_)));exact⟨(k+1,S.set (gi p k).toNat true),by show p.length - (k+1)<p.length - k;omega,(alH O),aM,by show k+1<=_;omega,hI.step (by omega) (by omega) h3⟩
 refine bw O (bA (ij O ?_));refine dz O ?_;exact⟨by rw [eP (hI.done (by omega) (by omega))],aD.none⟩
def fill{α:Type}(k:Nat)(xs:List α)(d:α):List α:=xs.take k++List.replicate (xs.length - k) d
theorem cK{p:ah}{k:Nat}(h:k<p.length):gl p k=p[k]:=by simp [gl,dd,gO h]
theorem OZ{p:ah}{k:Nat}(h:k<p.length):p.take (k+1)=p.take k++ [gl p k]:=by rw [cK h,su h]
theorem CA(A:aj)(n c:Nat)(w:aa):aN prog 138 [.slice A n c] w (fun v w'=>v=ak n/\w'=w):=by
 refine bI func138 O ntmps138 O (du O) ?_;refine bc O (bk O O (bM O ?_));exact jj O ⟨O,O⟩
theorem G2(A:aj)(n c:Nat)(w:aa):aN prog 152 [.slice A n c] w (fun v w'=>v=ak n/\w'=w):=by
 refine bI func152 O ntmps152 O (du O) ?_;refine bc O (bk O O (bM O ?_));exact jj O ⟨O,O⟩
theorem aeB(A:aj)(n c:Nat)(p:ai)(w:aa)(hR:di w A n p):aN prog 214 [.slice A n c] w (fun v w'=>v= .bool (decide (lk p))/\St w w' []):=by
 have hl:=hR.1;subst hl;refine bI func214 O ntmps214 O (du O) ?_;refine bc O (bk O O (aI O ?_));refine aR _ O (fun h=>?_) (fun h=>?_)
 ·refine eF O (dz O ?_);exact⟨by rw [dk (fun hp:lk p=>by have:=hp.1;omega)],St.refl _⟩
 refine aG O (bk O O ?_);refine xA p.length (St.refl w) O O (by omega) fun A1 w1 aE=>ar O (bk O O (aI O ?_));refine Cd.loop (α:=Nat×List Bool) (fun s=> [(0,.slice A p.length c),(3,.slice A1 p.length p.length),(12,.slice A p.length c),(13,ak (p.length:Int)),(14,ak (s.1:Int))]) (fun s w'=>St w w' [gm 4 A1 p.length p.length s.2]/\s.1<=p.length/\Seen p s.1 s.2) (fun s=>p.length - s.1) (0,List.replicate p.length false) (alH O) ⟨aE,bm _,Seen.zero p⟩ ?_;rintro⟨k,S⟩ e w2 ⟨aD,hk,hI⟩;dsimp only at aD hk hI|-;refine b8 O (aR _ O (fun h1=>?_) (fun h1=>?_))
 ·refine aG O (alp (aD.gH hR).2 O O O (by omega) h1 (bh (aD.gH hR) O (ar O (aL (CA _ _ _ _) O ?_))));rintro _ _ ⟨rfl,rfl⟩;refine dT O (aL (yV _ _ _ _) O ?_);rintro _ _ ⟨rfl,rfl⟩
  first | refine eZ rfl rfl ?_ | refine fY rfl rfl ?_
  refine ar O (cT 24 O (fun h2=>?_) (fun h2=>?_))
  ·refine aA O (aA O (aA O (aA O (aI O ?_))));refine Cd.im O (eF O (fD (e6 ?_)));refine dz O ?_;exact⟨by rw [dk (hI.bad (by omega) (by omega))],aD.none⟩
  refine au O (ar O (au O (ar O (au O ?_))));refine aF (aD.ji 0 O).2 O (au O (rG (aD.ji 0 O) O (by omega) O O (aI O ?_)));refine Cd.cond O (fun h3=>?_) (fun h3=>?_)
  ·refine eF O (fD (e6 ?_));refine dz O ?_;exact⟨by rw [dk (hI.W9 (by omega) (by omega) h3)],aD.none⟩
  refine aG O (aF (aD.ji 0 O).2 O (tn 0 aD O O O (by omega) ?_));intro w3 aM;refine ar O (aJ O (aT O (tQ ?_)));exact⟨(k+1,S.set (gi p k).toNat true),by show p.length - (k+1)<p.length - k;omega,(alH O),aM,by show k+1<=_;omega,hI.step (by omega) (by omega) h3⟩
 refine bw O (bA (ij O ?_));refine dz O ?_;exact⟨by rw [eP (hI.done (by omega) (by omega))],aD.none⟩
def pz(p:ai):Prop:=∀i:Nat,i<p.length->gi p i≠i/\gi p (gi p i)=i
instance (p:ai):Decidable (pz p):=by unfold pz;exact inferInstance
theorem lk.range(h:lk p){i:Int}(h0:0<=i)(h1:i<p.length):0<=gi p i/\gi p i<p.length:=by
 have e:gi p i=p[i.toNat]'(by omega):=by simp [gi,dd,gO (show i.toNat<p.length by omega)]
 rw [e];exact h.2.1 _ (dH _)
theorem UZ(A:aj)(n c:Nat)(p:ai)(w:aa)(hR:di w A n p)(hp:lk p):aN prog 171 [.slice A n c] w (fun v w'=>v= .bool (decide (pz p))/\w'=w):=by
 have hl:=hR.1;subst hl;have zV:=hp.1;refine bI func171 O ntmps171 O (du O) (b8 O ?_);refine Cd.loop (α:=Nat) (fun k=> [(0,.slice A p.length c),(3,ak k)]) (fun k w'=>w'=w/\k<=p.length/\∀i,i<k->gi p i≠i/\gi p (gi p i)=i) (fun k=>p.length - k) 0 (alH O) ⟨O,bm _,fun i hi=>by omega⟩ ?_;rintro k e w2 ⟨rfl,hk,hI⟩;refine bc O (bk O O (aI O ?_));refine aR _ O (fun h1=>?_) (fun h1=>?_)
 ·have hr:=hp.range (i:=k) (by omega) h1;refine aG O (alp hR.2 O O O (by omega) h1 (bh hR O (ar O ?_)));refine cT 16 O (fun h2=>?_) (fun h2=>?_)
  ·refine aA O (aA O (aA O (aA O (aA O (aA O (aA O (aA O (aA O (aI O ?_)))))))));refine Cd.im O (eF O (fD (e6 ?_)));refine dz O ?_;exact⟨by rw [dk (fun hf:pz p=> (hf k (by omega)).1 h2)],O⟩
  refine au O (ar O (au O (ar O (au O (ar O (au O ?_))))));refine alp hR.2 O O O (by omega) h1 (au O (bh hR O (au O (aF hR.2 O (au O (bh hR O ?_))))));refine au O (ar O (au O (aI O ?_)));refine aR _ O (fun h3=>?_) (fun h3=>?_)
  ·refine eF O (fD (e6 ?_));refine dz O ?_;exact⟨by rw [dk (fun hf:pz p=>h3 (hf k (by omega)).2)],O⟩
  refine aG O (aJ O (aT O (tQ ?_)));refine⟨k+1,by omega,(alH O),O,by omega,fun i hi=>?_⟩
  by_cases e:i=k
  ·subst e;exact⟨h2,jl.1 h3⟩
  exact hI i (by omega)
 refine bw O (bA (ij O ?_));refine dz O ?_;exact⟨by rw [eP (show pz p from fun i hi=>hI i (by omega))],O⟩
theorem aew(A:aj)(n c:Nat)(p:ai)(w:aa)(hR:di w A n p):aN prog 156 [.slice A n c] w (fun v w'=>v= .bool (decide (lk p/\pz p))/\St w w' []):=by
 have hl:=hR.1;subst hl;refine bI func156 O ntmps156 O (du O) (bc O (aL (aeB _ _ _ _ _ hR) O ?_));rintro _ w1 ⟨rfl,aE⟩
 first | refine eZ rfl rfl ?_ | refine fY rfl rfl ?_
 refine aI O (aR _ O (fun hp=>?_) (fun hp=>?_))
 ·refine eF O (dz O ?_);exact⟨by rw [dk (fun h=>hp h.1)],aE⟩
 have hp:=jl.1 hp;have zV:=hp.1;refine aG O (bk O O (aI O ?_));refine Cd.loop (α:=Nat) (fun k=> [(0,.slice A p.length c),(8,.slice A p.length c),(9,ak (p.length:Int)),(10,ak k)]) (fun k w'=>St w w' []/\k<=p.length/\∀i,i<k->gi p i≠i/\gi p (gi p i)=i) (fun k=>p.length - k) 0 (alH O) ⟨aE,bm _,fun i hi=>by omega⟩ ?_;rintro k e w2 ⟨aD,hk,hI⟩;refine b8 O (aR _ O (fun h1=>?_) (fun h1=>?_))
 ·have hr:=hp.range (i:=k) (by omega) h1;have hA:=aD.gH hR;refine aG O (alp hA.2 O O O (by omega) h1 (bh hA O (ar O ?_)));refine cT 18 O (fun h2=>?_) (fun h2=>?_)
  ·refine aA O (aA O (aA O (aA O (aA O (aA O (aI O ?_))))));refine Cd.im O (eF O (fD (e6 ?_)));refine dz O ?_;exact⟨by rw [dk (fun hf:lk p/\pz p=> (hf.2 k (by omega)).1 h2)],aD⟩
  refine au O (ar O (au O (ar O (au O ?_))));refine aF hA.2 O (au O (bh hA O ?_));refine au O (ar O (au O (aI O ?_)));refine aR _ O (fun h3=>?_) (fun h3=>?_)
  ·refine eF O (fD (e6 ?_));refine dz O ?_;exact⟨by rw [dk (fun hf:lk p/\pz p=>h3 (hf.2 k (by omega)).2)],aD⟩
  refine aG O (aJ O (aT O (tQ ?_)));refine⟨k+1,by omega,(alH O),aD,by omega,fun i hi=>?_⟩
  by_cases e:i=k
  ·subst e;exact⟨h2,jl.1 h3⟩
  exact hI i (by omega)
 refine bw O (bA (ij O ?_));refine dz O ?_;exact⟨by rw [eP (show lk p/\pz p from⟨hp,fun i hi=>hI i (by omega)⟩)],aD⟩
theorem Ef(A Am:aj)(n c:Nat)(f:Nat->ad)(w:aa)(hR:Rd w A 1 f)(hf:f 0= .slice Am n c):aN prog 122 [.pointer A] w (fun v w'=>v=ak n/\w'=w):=by
 refine bI func122 O ntmps122 O (du O) (bc O ?_);refine oh hR (by decide) O O (aW hR O (alw hR O O hf O O (aL (G2 _ _ _ _) O ?_)));rintro _ _ ⟨rfl,rfl⟩;refine bM O (jj O ?_);exact⟨O,O⟩
theorem vq(A Am:aj)(n c:Nat)(rs:List aQ)(xss:ah)(f:Nat->ad)(w:aa)(hR:Rd w A 1 f)(hf:f 0= .slice Am n c)(hM:bz w Am n rs xss)(hn:0<n):aN prog 98 [.pointer A] w (fun v w'=>v=ak ((rg rs 0).n:Int)/\w'=w):=by
 refine bI func98 O ntmps98 O (du O) (bc O ?_);refine oh hR (by decide) O O (aW hR O (alw hR O O hf O O (aF hM.top.2 O (b6 hM.top O (aL (CA _ _ _ _) O ?_)))));rintro _ _ ⟨rfl,rfl⟩;refine bM O (jj O ?_);exact⟨O,O⟩
end
section
variable{i:Nat}{p b:ai}{x y z pt:Int}
theorem JA:∀(n:Nat) (l:List Nat),l.Nodup->(∀x∈l,x<n)->l.length<=n
 | 0,l,_,h=>by
  cases l with
  | nil=>simp
  | cons a l=>exact absurd (h a (by simp)) (by omega)
 | n+1,l,hn,h=>by
  have h1:=JA n (l.erase n) (hn.erase n) (fun x hx=>by
   have h2:=(hn.mem_erase_iff).1 hx;have:=h x h2.2;omega)
  have:=List.length_erase_le (a:=n) (l:=l);rw [List.length_erase]at h1
  split at h1<;>omega
theorem qA{N:Nat}{l:ai}(hn:l.Nodup)(h:∀x∈l,0<=x/\x<N):l.length<=N:=by
 have:=JA N (l.map Int.toNat) (by
  rw [List.nodup_iff_pairwise_ne,nB];refine List.Pairwise.imp_of_mem ?_ hn;intro a b ha hb eG e;have:=h a ha;have:=h b hb;omega) (fun x hx=>by
  obtain⟨y,hy,rfl⟩:=dv.1 hx;have:=h y hy;omega)
 simpa using this
def Sys(N:Nat)(xss:ah):Prop:=∀p∈xss,p.length=N/\∀x:Int,0<=x->x<N->0<=gi p x/\gi p x<N
inductive Reach(xss:ah)(x:Int):Int->Prop where
 | refl:Reach xss x x
 | step {y:Int} {p:ai}:Reach xss x y->p∈xss->Reach xss x (gi p y)
theorem Reach.trans{xss:ah}(h:Reach xss x y)(h':Reach xss y z):Reach xss x z:=by
 induction h' with
 | refl=>exact h
 | step _ hp ih=>exact .step ih hp
def jV(out:ai)(y:Int):ai:=if y∈out then out else out++ [y]
def expand(xss:ah)(x:Int)(out:ai):ai:=xss.foldl (fun o p=>jV o (gi p x)) out
def oU(xss:ah):Nat->Nat->ai->ai
 | 0,_,out=>out
 | f+1,i,out=>if i<out.length then oU xss f (i+1) (expand xss (gi out i) out)else out
def dw(N:Nat)(xss:ah)(pt:Int):ai:=oU xss (N+1) 0 [pt]
theorem JH{out:ai}:z∈jV out y↔z∈out\/z=y:=by
 unfold jV
 split
 ·constructor
  ·exact Or.inl
  rintro(h | rfl)
  ·exact h
  assumption
 simp
theorem ahI{out:ai}(h:out.Nodup):(jV out y).Nodup:=by
 unfold jV
 split
 ·exact h
 rename_i hy;rw [List.nodup_append];refine⟨h,by simp,fun a ha b hb=>?_⟩;simp at hb;subst hb;rintro rfl;exact hy ha
theorem Ou(out:ai)(y:Int):out<+:jV out y:=by
 unfold jV
 split
 ·exact List.prefix_rfl
 exact List.prefix_append _ _
structure Good(N:Nat)(xss:ah)(pt:Int)(out:ai):Prop where
 nodup:out.Nodup
 range:∀x∈out,0<=x/\x< (N:Int)
 reach:∀x∈out,Reach xss pt x
theorem Good.push{N:Nat}{xss:ah}{out:ai}(h:Good N xss pt out)(hs:Sys N xss)(hx:x∈out)(hp:p∈xss):Good N xss pt (jV out (gi p x)):=
 ⟨ahI h.nodup,fun z hz=>by
  rcases JH.1 hz with hz | rfl
  ·exact h.range z hz
  ·exact(hs p hp).2 x (h.range x hx).1 (h.range x hx).2,fun z hz=>by
  rcases JH.1 hz with hz | rfl
  ·exact h.reach z hz
  exact .step (h.reach x hx) hp⟩
theorem Good.len{N:Nat}{xss:ah}{out:ai}(h:Good N xss pt out):out.length<=N:=qA h.nodup h.range
theorem foldl_push{N:Nat}{xss:ah}{pt:Int}(hs:Sys N xss){x:Int}:∀(ps:ah) (out:ai),(∀p∈ps,p∈xss)->Good N xss pt out->x∈out->
 Good N xss pt (ps.foldl (fun o p=>jV o (gi p x)) out)/\out<+:ps.foldl (fun o p=>jV o (gi p x)) out/\∀p∈ps,gi p x∈ps.foldl (fun o p=>jV o (gi p x)) out
 | [],out,_,h,_=> ⟨h,List.prefix_rfl,fun p hp=>by cases hp⟩
 | q::ps,out,kl,h,hx=>by
  have h1:=h.push hs hx (kl q (by simp));have pf:=Ou out (gi q x);obtain⟨g1,g2,g3⟩:=foldl_push hs ps (jV out (gi q x)) (fun p hp=>kl p (by simp [hp])) h1 (pf.subset hx);refine⟨g1,pf.trans g2,fun p hp=>?_⟩;rcases jn.1 hp with rfl | hp
  ·exact g2.subset (JH.2 (Or.inr O))
  ·exact g3 p hp
theorem gi_in{out:ai}(h:i<out.length):gi out i∈out:=by rw [cd h];exact dH h
theorem Bq{a:ai}(h:a<+:b)(hi:i<a.length):gi b i=gi a i:=by
 rw [cd hi,cd (Nat.lt_of_lt_of_le hi h.length_le)];obtain⟨t,rfl⟩:=h;rw [List.getElem_append_left hi]
theorem Qn{N:Nat}{xss:ah}{pt:Int}(hs:Sys N xss):∀(f i:Nat) (out:ai),Good N xss pt out->N<f+i->(∀j,j<i->j<out.length->∀p∈xss,gi p (gi out j)∈out)->
 Good N xss pt (oU xss f i out)/\out<+:oU xss f i out/\∀x∈oU xss f i out,∀p∈xss,gi p x∈oU xss f i out
 | 0,i,out,h,hf,hc=>by
  simp only [oU];refine⟨h,List.prefix_rfl,fun x hx p hp=>?_⟩;obtain⟨j,hj,rfl⟩:=fV.1 hx;have:=h.len;have:=hc j (by omega) hj p hp;rw [cd hj]at this;exact this
 | f+1,i,out,h,hf,hc=>by
  simp only [oU]
  split
  ·rename_i hi;obtain⟨g1,g2,g3⟩:=foldl_push hs xss out (fun p hp=>hp) h (gi_in hi);replace g2:out<+:expand xss (gi out i) out:=g2;obtain⟨k1,k2,k3⟩:=Qn hs f (i+1) (expand xss (gi out i) out) g1 (by omega) (fun j hj lR p hp=>by
    by_cases sO:j=i
    ·subst sO;show gi p (gi (expand xss _ out) _)∈expand xss _ out;rw [Bq g2 hi];exact g3 p hp
    ·have Ty:j<out.length:=by omega
     show gi p (gi (expand xss _ out) _)∈expand xss _ out;rw [Bq g2 Ty];exact g2.subset (hc j (by omega) Ty p hp))
   exact⟨k1,g2.trans k2,k3⟩
  ·rename_i hi;refine⟨h,List.prefix_rfl,fun x hx p hp=>?_⟩;obtain⟨j,hj,rfl⟩:=fV.1 hx;have:=hc j (by omega) hj p hp;rw [cd hj]at this;exact this
theorem H8{N:Nat}{xss:ah}(h0:0<=pt)(h1:pt<N):Good N xss pt [pt]:=
 ⟨by simp,fun x hx=>by simp at hx;subst hx;exact⟨h0,h1⟩,fun x hx=>by simp at hx;subst hx;exact .refl⟩
theorem sd{N:Nat}{xss:ah}(hs:Sys N xss)(h0:0<=pt)(h1:pt<N):
 Good N xss pt (dw N xss pt)/\ [pt]<+:dw N xss pt/\∀x,x∈dw N xss pt↔Reach xss pt x:=by
 obtain⟨g1,g2,g3⟩:=Qn (N:=N) hs (N+1) 0 [pt] (H8 h0 h1) (by omega) (fun j hj=>by omega);refine⟨g1,g2,fun x=> ⟨g1.reach x,fun hr=>?_⟩⟩
 induction hr with
 | refl=>exact g2.subset (by simp)
 | step _ hp ih=>exact g3 _ ih _ hp
end
section
open Go.RowKit
section
variable{t:ae}{z z0:ad}{b c0 c':Nat}
variable {P:Program} {N:Nat} {ops:Array Oper} {K:Env->aa->Prop} {rest:List Oper} {e:Env} {w0 w w':aa} {ks:List Ck} {d:Nat} {ty:ae} {pos:String} {af:Array Edge}
theorem dV{el:ae}[bV P t (.slice el)][bR P el z 1 b]{x0:ag}{i:Int}(hS:St w0 w ks)(h0:ev e x0=ak i)(hz:z.cells= #[z])(hb:Nat.blt d N=true)(hK:∀A w',St w0 w' (az el A 1 1 [i]::ks)->ao P N ops K rest (bG e d (.slice A 1 1)) w'):ao P N ops K (⟨some d,.buildSlice t 1 #[(0,x0)],ty,pos,af,none⟩::rest) e w:=
 .KH hS h0 rfl hz hb hK
theorem mr{el:ae}[bV P t (.slice el)][bR P el z 1 b]{x0:ag}{A0:aj}{n0:Nat}(hS:St w0 w ks)(h0:ev e x0= .slice A0 n0 c0)(hz:z.cells= #[z])(hb:Nat.blt d N=true)(hK:∀A w',St w0 w' (b9 el A 1 1 [⟨A0,n0,c0⟩]::ks)->ao P N ops K rest (bG e d (.slice A 1 1)) w'):ao P N ops K (⟨some d,.buildSlice t 1 #[(0,x0)],ty,pos,af,none⟩::rest) e w:=
 .KH hS h0 rfl hz hb hK
theorem af8{ys:ai}{m:Nat}(h:ys.length=m):(List.range m).map (fun j=>Value.int .i64 (ys.getD j 0))=ys.map (ak):=by
 subst h;apply jX
 ·simp
 intro i h1 h2;simp [dd,gO (show i<ys.length by simpa using h1)]
theorem af9{ys:List aQ}{m:Nat}(h:ys.length=m):(List.range m).map (fun j=> (ys.getD j eA).v)=ys.map aQ.v:=by
 subst h;apply jX
 ·simp
 intro i h1 h2;simp [dd,gO (show i<ys.length by simpa using h1)]
theorem alz{el:ae}[hU:bV P t (.slice el)][bR P el z 1 b]{x y:ag}(i:Nat){A:aj}{n c:Nat}{xs:ai}{A':aj}{m:Nat}{ys:ai}(hS:St w0 w ks)(hk:ks[i]?=some (az el A n c xs))(hR:di w A' m ys)(hx:ev e x= .slice A n c)(hy:ev e y= .slice A' m c')(hz:z.cells= #[z])(vt:n+m<=9223372036854775807)(tI:(n+m)*b<=140737488355328)(hb:Nat.blt d N=true)(hK:∀A2 c2 w',St w0 w' (ks.set i (az el A2 (n+m) c2 (xs++ys)))->ao P N ops K rest (bG e d (.slice A2 (n+m) c2)) w'):
 ao P N ops K (⟨some d,.call ⟨.builtin .append, #[x,y], #[t,t]⟩,ty,pos,af,none⟩::rest) e w:=
 .app i hS hk hR.2 hx hy rfl hz (fun _ _=>rfl) (by simpa [maxLen]using vt) tI hb fun A2 c2 w' h=>hK A2 c2 w' (by
  rw [af8 hR.1]at h;simpa [az]using h)
theorem fp{el:ae}[hU:bV P t (.slice el)][bR P el z 1 b]{x y:ag}(i:Nat){A:aj}{n c:Nat}{xs:ai}{A':aj}{m:Nat}{ys:ai}(hS:St w0 w ks)(hk:ks[i]?=some (az el A n c xs))(hR:di w A' m ys)(hx:ev e x= .slice A n c)(hy:ev e y= .slice A' m c')(q9:(z.cells,Nat.blt d N)=(#[z],true))(hK:∀A2 c2 w',St w0 w' (ks.set i (az el A2 (n+m) c2 (xs++ys)))->ao P N ops K rest (bG e d (.slice A2 (n+m) c2)) w')(vt:n+m<=9223372036854775807:=by omega)(tI:(n+m)*b<=140737488355328:=by omega):ao P N ops K (⟨some d,.call ⟨.builtin .append, #[x,y], #[t,t]⟩,ty,pos,af,none⟩::rest) e w:=alz i hS hk hR hx hy (congrArg (fun p=>p.1) q9) vt tI (congrArg (fun p=>p.2) q9) hK
theorem oe{el:ae}[hU:bV P t (.slice el)][bR P el z 1 b]{x y:ag}(i:Nat){A:aj}{n c:Nat}{xs:List aQ}{A':aj}{m:Nat}{ys:List aQ}(hS:St w0 w ks)(hk:ks[i]?=some (b9 el A n c xs))(hR:jo w A' m ys)(hx:ev e x= .slice A n c)(hy:ev e y= .slice A' m c')(hz:z.cells= #[z0])(vt:n+m<=9223372036854775807)(tI:(n+m)*b<=140737488355328)(hb:Nat.blt d N=true)(hK:∀A2 c2 w',St w0 w' (ks.set i (b9 el A2 (n+m) c2 (xs++ys)))->ao P N ops K rest (bG e d (.slice A2 (n+m) c2)) w'):
 ao P N ops K (⟨some d,.call ⟨.builtin .append, #[x,y], #[t,t]⟩,ty,pos,af,none⟩::rest) e w:=
 .app i hS hk hR.2 hx hy rfl hz (fun _ _=>rfl) (by simpa [maxLen]using vt) tI hb fun A2 c2 w' h=>hK A2 c2 w' (by
  rw [af9 hR.1]at h;simpa [b9]using h)
end
def vd(M:Nat)(S:List Bool)(out:ai):Prop:=S.length=M/\∀x:Int,0<=x->x<M->(gb S x=true↔x∈out)
theorem vd.init{M:Nat}{pt:Int}(h0:0<=pt)(h1:pt<M):vd M ((List.replicate M false).set pt.toNat true) [pt]:=by
 refine⟨by simp,fun x hx eE=>?_⟩;rw [Fe h0 (by simpa using h1) hx]
 by_cases e:pt=x
 ·simp [e]
 rw [aw e];have:x≠pt:=fun h=>e h.symm
 simp [gb,dd,List.getElem?_replicate,this]
 split<;>simp
theorem vd.push{M:Nat}{S:List Bool}{out:ai}{y:Int}(h:vd M S out)(h0:0<=y)(h1:y<M):vd M (S.set y.toNat true) (out++ [y]):=by
 refine⟨by simpa using h.1,fun x hx eE=>?_⟩;rw [Fe h0 (by rw [h.1];exact h1) hx,iR]
 by_cases e:y=x
 ·simp [e]
 rw [aw e,h.2 x hx eE];have:x≠y:=fun h=>e h.symm
 simp [this]
theorem Qm{xss:ah}{f i:Nat}{out:ai}(h:¬i<out.length):oU xss f i out=out:=by
 cases f with
 | zero=>rfl
 | succ f=>simp only [oU];rw [aw h]
theorem bz.ny{w:aa}{A:aj}{n:Nat}{rs:List aQ}{xss:ah}(h:bz w A n rs xss){k:Int}(h0:0<=k)(h1:k<n):(gl xss k).length=(rg rs k).n:=(h.at_ h0 h1).1
theorem rP{xss:ah}{k:Int}(h0:0<=k)(h:k<xss.length):gl xss k∈xss:=by
 obtain⟨j,rfl⟩:∃j:Nat,k=j:=⟨k.toNat,by omega⟩;rw [cK (by omega)];exact dH _
theorem NK(A:aj)(n c:Nat)(rs:List aQ)(xss:ah)(N:Nat)(pt:Int)(w:aa)(hR:bz w A n rs xss)(hn:n<=9223372036854775807)(hs:Sys N xss)(hN:N<=1000000000)(h0:0<=pt)(h1:pt<N):
 aN prog 172 [.slice A n c,ak pt] w (fun v w'=>∃A' c',v= .slice A' (dw N xss pt).length c'/\St w w' [az 2 A' (dw N xss pt).length c' (dw N xss pt)]):=by
 have b5:∀k:Int,0<=k->k<n->(rg rs k).n=N:=fun k sP hk=>by
  rw [<-hR.ny sP hk];exact(hs _ (rP sP (by rw [hR.len];exact hk))).1
 refine bI func172 O ntmps172 O (du O) (bc O (dV (St.refl w) O O O ?_));intro A1 w1 aE;refine xr 2 O (nY (α:=Nat) (fun s=> [(0,.slice A n c),(1,ak pt),(5,.slice A1 1 1),(6,ak s)]) (fun s w'=>w'=w1/\s<=N/\(0<n->s=N)) ?_ ?_)
 ·refine bc O (bk O O (aI O ?_));refine aR _ O (fun h2=>?_) (fun h2=>?_)
  ·refine aG O (aF (aE.Oi hR.top).2 O (b6 (aE.Oi hR.top) O ?_));refine bk O O (aT O (tQ ?_));exact⟨N,⟨O,O,O,by rw [b5 0 (by omega) (by omega)];rfl,av⟩,O,bB _,fun _=>O⟩
  refine mU O (tQ ?_);exact⟨0,(alH O),O,bm _,fun h=>by omega⟩
 rintro s e1 w2 ⟨rfl,hsN,qy⟩;have lS:n=0->N=N:=fun _=>O
 refine aG O (aJ O (aJ O ?_));refine xA (s+pt.toNat+1) aE (by show Value.int .i64 _=Value.int .i64 _;congr 1;omega) O (by omega) ?_;intro A2 w3 aM;refine ar O (aF (aM.ji 0 O).2 O (tn 0 aM O O O (by omega) ?_));intro w4 aU;refine aI O (Cd.loop (α:=Nat×ai×aj×Nat×List Bool) (fun q=> [(0,.slice A n c),(5,.slice q.2.2.1 q.2.1.length q.2.2.2.1),(7,.slice A2 (s+pt.toNat+1) (s+pt.toNat+1)),(8,ak (q.1:Int))]) (fun q w'=>St w w' [gm 4 A2 (s+pt.toNat+1) (s+pt.toNat+1) q.2.2.2.2,az 2 q.2.2.1 q.2.1.length q.2.2.2.1 q.2.1]/\q.1<=q.2.1.length/\Good N xss pt q.2.1/\vd (s+pt.toNat+1) q.2.2.2.2 q.2.1/\oU xss (N+1 - q.1) q.1 q.2.1=dw N xss pt) (fun q=>N+1 - q.1) (0,[pt],A1,1,(List.replicate (s+pt.toNat+1) false).set pt.toNat true) (alH O) ⟨aU,bm _,H8 h0 h1,vd.init h0 (by omega),O⟩ ?_);rintro⟨i,out,Ao,co,S⟩ e2 w5 ⟨aV,hi,hg,hm,hb⟩;dsimp only at aV hi hg hm hb|-;have hlen:=hg.len;refine bc O (bk O O (aI O ?_));refine aR _ O (fun h2=>?_) (fun h2=>?_)
 ·refine cM O (Cd.loop (α:=Nat×ai×aj×Nat×List Bool) (fun q=> [(0,.slice A n c),(5,.slice q.2.2.1 q.2.1.length q.2.2.2.1),(7,.slice A2 (s+pt.toNat+1) (s+pt.toNat+1)),(8,ak i),(9,ak (q.1:Int))]) (fun q w'=>St w w' [gm 4 A2 (s+pt.toNat+1) (s+pt.toNat+1) q.2.2.2.2,az 2 q.2.2.1 q.2.1.length q.2.2.2.1 q.2.1]/\q.1<=n/\Good N xss pt q.2.1/\vd (s+pt.toNat+1) q.2.2.2.2 q.2.1/\out<+:q.2.1/\(xss.drop q.1).foldl (fun o p=>jV o (gi p (gi out i))) q.2.1=expand xss (gi out i) out) (fun q=>n - q.1) (0,out,Ao,co,S) (alH O) ⟨aV,bm _,hg,hm,List.prefix_rfl,O⟩ ?_);rintro⟨k,iT,Ba,Db,S'⟩ e3 w6 ⟨aZ,hk,mI,jw,nm,hf⟩;dsimp only at aZ hk mI jw nm hf|-;have yi:=mI.len;refine bc O (bk O O (aI O ?_));refine aR _ O (fun h3=>?_) (fun h3=>?_)
  ·have IQ:i<iT.length:=by have:=nm.length_le;omega
   have zO:gi iT i=gi out i:=Bq nm (by omega);have gw:=hg.range _ (gi_in (i:=i) (by omega));have kV:gl xss k∈xss:=rP (by omega) (by rw [hR.len];omega);have hy:=(hs _ kV).2 (gi out i) gw.1 gw.2;have jG:=b5 k (by omega) (by omega);have hsN:s=N:=qy (by omega);have hT:=(aZ.bS hR);have hO:=aZ.bF 1 O;have cJ:=hT.at_ (i:=k) (by omega) (by omega);refine cM O ?_;refine eB [xS (A) (n) (c),xI ((k:Int)),xP (aB (A) ((k:Int)).toNat),xS ((rg (rs) ((k:Int))).a) ((rg (rs) ((k:Int))).n) ((rg (rs) ((k:Int))).c),xS (Ba) (iT.length) (Db),xI ((i:Int)),xP (aB (Ba) ((i:Int)).toNat),xI (gi (iT) ((i:Int))),xP (aB ((rg (rs) ((k:Int))).a) (gi (iT) ((i:Int))).toNat),xI (gi (gl xss k) (gi (iT) ((i:Int)))),xI (gi (gl xss k) (gi (iT) ((i:Int))))] O (eQ O) ?_ ?_
   ·exact⟨Dr O,Dr O,fun _ _ hb _ _=>aF (hT.top.aq hb).2 O Az,fun _ _ hb _ _=>b6 (hT.top.aq hb) O Az,Dr O,Dr O,fun _ _ hb _ _=>aF (hO.aq hb).2 O Az,fun _ _ hb _ _=>bh (hO.aq hb) O Az,fun _ _ hb _ _=>alp (cJ.aq hb).2 O O O (by rw [zO];omega) (by rw [zO,jG];omega) Az,fun _ _ hb _ _=>bh (cJ.aq hb) O Az,Dr O,av⟩
   intro u w7 x8 _;have a6:=aZ.aq x8;rw [zO];have ye:(xss.drop (k+1)).foldl (fun o p=>jV o (gi p (gi out i))) (jV iT (gi (gl xss k) (gi out i)))=expand xss (gi out i) out:=by
    rw [<-hf,List.drop_eq_getElem_cons (show k<xss.length by rw [hR.len];omega),List.foldl_cons,cK (by rw [hR.len];omega)]
   refine iV O (aF (a6.ji 0 O).2 O (rG (a6.ji 0 O) O (by omega) O O ?_))
   first | refine eZ rfl rfl ?_ | refine fY rfl rfl ?_
   refine aI O (Cd.cond O (fun h4=>?_) (fun h4=>?_))
   ·have MY:¬gi (gl xss k) (gi out i)∈iT:=fun db=>by
     have:=(jw.2 _ hy.1 (by omega)).2 db;rw [this]at h4;cases h4
    have Cb:jV iT (gi (gl xss k) (gi out i))=iT++ [gi (gl xss k) (gi out i)]:=by unfold jV;rw [if_neg MY]
    have yf:=mI.push hs (nm.subset (gi_in (i:=i) (by omega))) kV;have Gf:=nm.trans (Ou iT (gi (gl xss k) (gi out i)));rw [Cb]at ye yf Gf;have MR:=yf.len;simp only [dI,List.length_singleton]at MR;refine aG O (aF (a6.ji 0 O).2 O (tn 0 a6 O O O (by omega) ?_));intro w8 bL;refine ar O (dV bL O O O ?_);intro A3 w9 a7;refine fp 2 a7 O (a7.bF 0 O) O O O fun A4 c4 dQ bO=>ar O (aJ O (aT O (tQ ?_)));refine⟨(k+1,iT++ [gi (gl xss k) (gi out i)],A4,c4,S'.set (gi (gl xss k) (gi out i)).toNat true),by show n - (k+1)<n - k;omega,⟨O,by rw [dI];rfl,O,O,O,av⟩,?_,by show k+1<=n;omega,yf,jw.push hy.1 (by omega),Gf,ye⟩;have tz:=bO.tail;simp only [dI,List.length_singleton];exact tz
   have db:gi (gl xss k) (gi out i)∈iT:=(jw.2 _ hy.1 (by omega)).1 (by simpa using h4);have Cb:jV iT (gi (gl xss k) (gi out i))=iT:=by unfold jV;rw [if_pos db]
   rw [Cb]at ye;refine aG O (aJ O (aT O (tQ ?_)));exact⟨(k+1,iT,Ba,Db,S'),by show n - (k+1)<n - k;omega,(alH O),a6,by show k+1<=n;omega,mI,jw,nm,ye⟩
  refine bw O (bA (dh O (aJ O (aT O (tQ ?_)))));have eM:k=n:=by omega
  rw [eM,<-hR.len,List.drop_length,List.foldl_nil]at hf;refine⟨(i+1,iT,Ba,Db,S'),by show N+1 - (i+1)<N+1 - i;omega,(alH O),aZ,?_,mI,jw,?_⟩
  ·have:=nm.length_le;show i+1<=iT.length;omega
  show oU xss (N+1 - (i+1)) (i+1) iT=dw N xss pt;rw [<-hb,hf];have e:N+1 - i=(N+1 - (i+1))+1:=by omega
  rw [e];simp only [oU];rw [ay (by omega)]
 refine bw O (bA (ij O ?_));refine gK O ?_;rw [Qm (by omega)]at hb;exact⟨Ao,co,by rw [hb],by rw [<-hb];exact aV.tail⟩
section
variable {P:Program} {N:Nat} {e:Env} {w:aa}
end
section
variable{t t':ae}
variable {P:Program} {N:Nat} {ops:Array Oper} {K:Env->aa->Prop} {rest:List Oper} {e:Env} {w0 w w':aa} {ks:List Ck} {d:Nat} {ty:ae} {pos:String} {af:Array Edge}
theorem CK{Q:kb}{c:ag}{x y:Code}{p:Prop}[Decidable p](hc:ev e c= .bool (decide p))(hp:p)(h1:Cd P N x Q e w):Cd P N (.cond c x y) Q e w:= .im (by rw [hc,eP hp]) h1
theorem oM{Q:kb}{c:ag}{x y:Code}{p:Prop}[Decidable p](hc:ev e c= .bool (decide p))(hp:¬p)(h1:Cd P N y Q e w):Cd P N (.cond c x y) Q e w:= .gq (by rw [hc,dk hp]) h1
theorem Z1(A:aj)(c:Nat):cutAt A c 0=A:=by
 unfold cutAt
 split
 ·rfl
 cases A<;>simp [aB,Addr.add]
theorem aex{vs fs:List ad}{l q:Nat}(hM:fw vs=false)(h1:∀u∈fs,u.oneCell'=true)(hq:l=0->fs≠[]:=by first | assumption | (intro _ hn;have:=aK List.length hn;simp at this;omega)):fw (vs.take l++fs++vs.drop q)=false:=by
 by_cases hl:l=0
 ·subst hl;rw [List.take_zero,List.nil_append];exact Gx (yu h1) (hq O)
 ·cases vs with
  | nil=>simp only [List.take_nil,List.drop_nil,List.nil_append,eu];exact yu h1
  | cons v r=>
   obtain⟨m,rfl⟩:∃m,l=m+1:=⟨l - 1,by omega⟩;cases v<;>simp_all [fw]
theorem aiu{el:ae}{z:ad}{b:Nat}[hU:bV P t (.slice el)][bR P el z 1 b]{k:Ck}(i l:Nat)(hS:St w0 w ks)(hk:ks[i]?=some k)(hM:fw k.vs=false)(hl:l<=k.n){A':aj}{m dc c':Nat}{f:Nat->ad}(hR:Rd w A' m f)(h1:∀j,j<m->(f j).oneCell'=true)(ty:ae)(q:Nat)(hq:q=min m (k.n - l)):
 ∃w',(Builtin.copy_ #[t,t'] ty #[.slice (cutAt k.A k.c l) (k.n - l) dc,.slice A' m c']).run P w= .ok (ak q) w'/\St w0 w' (ks.set i { k with vs:=k.vs.take l++ (List.range q).map f++k.vs.drop (l+q) }):=by
 obtain⟨inf,hi,fS,hs,jv⟩:=bR.get P el;have Ge:=hS.sD hk hM;obtain⟨Ji,rU,oz,h4⟩:=Ge;have BQ:=(iQ.1 hk).1;have nL:(P.info? el).map (·.size)=some 1:=by simp [hi,hs]
 by_cases DQ:q=0
 ·have hr:=run_copy_none (P:=P) w t t' ty el (cutAt k.A k.c l) A' (k.n - l) dc m c' hU.out nL (by show min m (k.n - l)=0;omega);refine⟨w,by rw [hr,DQ];rfl,?_⟩;have h5:({ k with vs:=k.vs.take l++ (List.range q).map f++k.vs.drop (l+q) }:Ck)=k:=by subst DQ;simp [List.take_append_drop]
  have:ks.set i { k with vs:=k.vs.take l++ (List.range q).map f++k.vs.drop (l+q) }=ks:=by
   rw [h5];apply List.ext_getElem?;intro j;rw [pA]
   split
   ·rename_i e;subst e;rw [hk]
    try simp [BQ]
   rfl
  rw [this];exact hS
 obtain⟨a,rfl⟩:∃a,A'=some a:=by
  obtain⟨p,hp,_⟩:=hR 0 (by omega);cases A' with | none=>simp [aB]at hp | some q=>exact⟨q,rfl⟩
 rcases h4 with⟨hA,h0⟩ | ⟨g,o,cur,hA,hg,hh,nN,hc⟩
 ·omega
 have hD:cutAt k.A k.c l=some ⟨g,o+l,none⟩:=by
  unfold cutAt;rw [aw (by omega),hA];simp [aB,CT]
 have iZ:((List.range q).map f).length=q:=by simp
 have yk:∀j v,((List.range q).map f)[j]?=some v->w.cell? (a.add j)=some v:=by
  intro j v hj;have wO:j<q:=by have:=(iQ.1 hj).1;simpa using this
  obtain⟨p,hp,hc⟩:=hR j (by omega);simp only [aB,Option.map_some,qo]at hp;rw [hp,hc,<-hj];simp [wO]
 have xQ:∀u∈(List.range q).map f,u.oneCell'=true:=by
  intro u hu;obtain⟨j,hj,rfl⟩:=dv.1 hu;have ML:j<q:=by simpa using hj
  exact h1 j (by omega)
 have hr:=run_copy_row (P:=P) w t t' ty el g (o+l) (k.n - l) dc a m c' cur k.e ((List.range q).map f) hU.out nL hh (by rw [iZ,hq]) yk (by rw [iZ];omega) xQ;rw [iZ]at hr;rw [hD];refine⟨w.setRow g (cur.toList.take (o+l)++ (List.range q).map f++cur.toList.drop (o+l+q)).toArray,hr,hS.turn (k:=k) (k':= { k with vs:=k.vs.take l++ (List.range q).map f++k.vs.drop (l+q) }) (g:=g) hk (by simp [Ck.iX,hA]) (by simp [Ck.iX,hA]) ⟨⟨O,O,O,by simp,fun x _ hx=>setRow_other w g x _ (fun e=>hx (by rw [e]))⟩,bB _⟩ ?_⟩;refine .s5 (aex hM xQ) ⟨by simp [Ji];omega,rU,oz,.inr ⟨g,o,_,hA,hg,setRow_heap w g cur _ k.e _ hh,?_,fun j hj=>?_⟩⟩
 ·simp;omega
 have ll:j<k.n:=hj;have da:cur.toList.length=cur.size:=by simp
 show((cur.toList.take (o+l)++ (List.range q).map f++cur.toList.drop (o+l+q)).toArray)[o+j]?=(k.vs.take l++ (List.range q).map f++k.vs.drop (l+q))[j]?;rw [List.getElem?_toArray,gN,gN]
 by_cases lR:j<l
 ·rw [mq (by simp;omega),tl,ay (by omega),mq (by simp;omega),tl,ay lR,Array.getElem?_toList];exact hc j ll
 have e1:o+j - (cur.toList.take (o+l)).length=j - l:=by simp;omega
 have e2:j - (k.vs.take l).length=j - l:=by simp;omega
 have e3:(cur.toList.take (o+l)++ ((List.range q).map f++cur.toList.drop (o+l+q)))[o+j]?=((List.range q).map f++cur.toList.drop (o+l+q))[j - l]?:=by
  rw [kN (by simp;omega),e1]
 have e4:(k.vs.take l++ ((List.range q).map f++k.vs.drop (l+q)))[j]?=((List.range q).map f++k.vs.drop (l+q))[j - l]?:=by
  rw [kN (by simp;omega),e2]
 rw [e3,e4]
 by_cases ML:j - l<q
 ·rw [mq (by simpa using ML),mq (by simpa using ML)]
 rw [kN (by rw [iZ];omega),kN (by rw [iZ];omega),iZ,List.getElem?_drop,List.getElem?_drop,Array.getElem?_toList,show o+l+q+ (j - l - q)=o+j by omega,show l+q+ (j - l - q)=j by omega];exact hc j ll
theorem PJ{el:ae}{z:ad}{b:Nat}[hU:bV P t (.slice el)][bR P el z 1 b]{x y:ag}{k:Ck}(i l:Nat){A':aj}{m dc c':Nat}{f:Nat->ad}(q:Nat)(hS:St w0 w ks)(hk:ks[i]?=some k)(hR:Rd w A' m f)(hl:l<=k.n)(hx:ev e x= .slice (cutAt k.A k.c l) (k.n - l) dc)(hy:ev e y= .slice A' m c')(h1:∀j,j<m->(f j).oneCell'=true)(hq:q=min m (k.n - l))(hb:Nat.blt d N=true)(hK:∀w',St w0 w' (ks.set i { k with vs:=k.vs.take l++ (List.range q).map f++k.vs.drop (l+q) })->ao P N ops K rest (bG e d (ak q)) w')(hM:fw k.vs=false:=by first | rfl | exact tW _ | exact Gw _ | exact Cg _):
 ao P N ops K (⟨some d,.call ⟨.builtin .copy, #[x,y], #[t,t']⟩,ty,pos,af,none⟩::rest) e w:=by
 obtain⟨w',hr,o9⟩:=aiu (P:=P) (t:=t) (t':=t') (dc:=dc) (c':=c') i l hS hk hM hl hR h1 ty q hq;refine .val (w':=w') ?_ hb (hK _ o9);simp [execOp,resolve,invoke,builtin,hx,hy,hr]
theorem Yl{x y:ag}{i j:Int}(hx:ev e x=ak i)(hy:ev e y=ak j)(hb:Nat.blt d N=true)(hK:ao P N ops K rest (bG e d (ak (min i j))) w):
 ao P N ops K (⟨some d,.call ⟨.builtin .min, #[x,y], #[t,t']⟩,ty,pos,af,none⟩::rest) e w:=by
 have hm:(if j<i then j else i)=min i j:=by split<;>omega
 refine .val (w':=w) ?_ hb hK;simp [execOp,resolve,invoke,builtin,hx,hy,Builtin.min_,Builtin.min2,hm]
section
variable {x y:ag} {xt yt:ae} {i j:Int}
theorem uh(i:Int)(h:0<=i/\i<=18446744073709551615):IntKind.u64.wrap i=i:=by rw [IntKind.wrap_u64];omega
theorem Hl(r:Int)(hx:ev e x= .int .u64 i)(hy:ev e y= .int .u64 j)(hb:Nat.blt d N=true)(he:i+j=r)(hr:0<=r/\r<=18446744073709551615)(hK:ao P N ops K rest (bG e d (.int .u64 r)) w):
 ao P N ops K (⟨some d,.binOp .add xt x y yt,ty,pos,af,none⟩::rest) e w:=
 .val (by simp [execOp,hx,hy,eqGuard,binOp,Op.intArith,he,uh _ hr]) hb hK
theorem EK(r:Int)(hx:ev e x= .int .u64 i)(hy:ev e y= .int .u64 j)(hb:Nat.blt d N=true)(he:i*j=r)(hr:0<=r/\r<=18446744073709551615)(hK:ao P N ops K rest (bG e d (.int .u64 r)) w):
 ao P N ops K (⟨some d,.binOp .mul xt x y yt,ty,pos,af,none⟩::rest) e w:=
 .val (by simp [execOp,hx,hy,eqGuard,binOp,Op.intArith,he,uh _ hr]) hb hK
theorem Kh(r:Int)(hx:ev e x= .int .u64 i)(hy:ev e y= .int .u64 4294967295)(hb:Nat.blt d N=true)(hr:0<=i/\i<=18446744073709551615)(he:i%4294967296=r)(hK:ao P N ops K rest (bG e d (.int .u64 r)) w):
 ao P N ops K (⟨some d,.binOp .and xt x y yt,ty,pos,af,none⟩::rest) e w:=by
 subst he;obtain⟨a,rfl⟩:∃a:Nat,i=a:=⟨i.toNat,by omega⟩;have h:=Mul64.maskN a (by omega);rw [show((a%4294967296:Nat):Int)=(a:Int)%4294967296 by omega]at h;refine .val ?_ hb hK;simp only [execOp,hx,hy,eqGuard,binOp,intBits_and,h];simp
theorem EM(r:Int)(hx:ev e x= .int .u64 i)(hy:ev e y= .int .u64 32)(hb:Nat.blt d N=true)(hr:0<=i)(he:i / 4294967296=r)(hK:ao P N ops K rest (bG e d (.int .u64 r)) w):
 ao P N ops K (⟨some d,.binOp .shr xt x y yt,ty,pos,af,none⟩::rest) e w:=by
 subst he;refine .val ?_ hb hK;have e1:min 32 IntKind.u64.bits=32:=by decide
 have e2:i.fdiv (2^32)=i / 4294967296:=by rw [Int.fdiv_eq_ediv_of_nonneg _ (by decide)];rfl
 have e2':i.fdiv 4294967296=i / 4294967296:=e2;simp [execOp,hx,hy,eqGuard,binOp,Op.shift,e1,e2']
theorem og{k k':IntKind}[bV P yt (.int k')](hx:ev e x= .int k i)(hb:Nat.blt d N=true)(hw:k'.wrap i=i){u:TypeDesc}[bV P xt u](hK:ao P N ops K rest (bG e d (.int k' i)) w):
 ao P N ops K (⟨some d,.convert xt yt x,ty,pos,af,none⟩::rest) e w:=
 .val (by simp [execOp,hx,convert,run_underlying (bV.out (P:=P) (t:=xt)),run_underlying (bV.out (P:=P) (t:=yt)),Conv.intToInt,hw]) hb hK
end
end
def jQ(l:List Oper):List Nat:=l.filterMap (·.dst)
theorem Lg{α β:Type}(f:α->Option β):∀(l:List α),(l.filterMap f).Nodup->∀(i j:Nat) (a b:α) (d:β),l[i]?=some a->l[j]?=some b->f a=some d->f b=some d->i=j
 | [],_,i,j,a,b,d,hi,_,_,_=>by simp at hi
 | x::l,hn,i,j,a,b,d,hi,hj,ha,hb=>by
  have mem:∀(k:Nat) (c:α),l[k]?=some c->f c=some d->d∈l.filterMap f:=fun k c hk hc=>List.mem_filterMap.2 ⟨c,List.mem_of_getElem? hk,hc⟩
  cases hx:f x with
  | none=>
   rw [List.filterMap_cons,hx]at hn;cases i with
   | zero=>simp at hi;subst hi;rw [hx]at ha;cases ha
   | succ i=>
    cases j with
    | zero=>simp at hj;subst hj;rw [hx]at hb;cases hb
    | succ j=>rw [Lg f l hn i j a b d (by simpa using hi) (by simpa using hj) ha hb]
  | some y=>
   rw [List.filterMap_cons,hx]at hn;simp only [oS]at hn;cases i with
   | zero=>
    simp at hi;subst hi;rw [hx]at ha;cases ha;cases j with
    | zero=>rfl
    | succ j=>exact absurd (mem j b (by simpa using hj) hb) hn.1
   | succ i=>
    cases j with
    | zero=>
     simp at hj;subst hj;rw [hx]at hb;cases hb;exact absurd (mem i a (by simpa using hi) ha) hn.1
    | succ j=>rw [Lg f l hn.2 i j a b d (by simpa using hi) (by simpa using hj) ha hb]
def valOf(o:Oper)(e:Env):ad:=match o.dst with
 | some d=>e d
 | none=>undef
def UH:Yd->Bool
 | .ex _=>true
 | .pr _=>false
def Js(l:List Oper)(ms:List Nat)(k:Nat):Nat:=ms.countP fun m=>kc l l.length k m
def DH(l:List Oper)(ms:List Nat)(k:Nat):Nat:=ms.countP fun m=>!(kc l l.length m k) && !(Nat.beq m k)
def nv(l:List Oper)(ms:List Nat)(k:Nat):Nat:=ms.countP fun m=>Nat.beq m k || kc l l.length k m
def C6(l:List Oper)(ms:List Nat)(m:Nat):Bool:=ms.all fun m'=>Nat.beq m' m || kc l l.length m m' || kc l l.length m' m
def Yd.at_(c ph:Nat):Yd->ad->aa->Prop
 | .ex v,u,_=>u=v
 | .pr p,u,w=>c=ph->p u w
theorem pj{a b c:Nat}(h:c<=a)(e:a=b):c<=b:=e▸h
theorem cc_of{a b c d:Nat}(h:a<=c)(k:c<=d)(e:a=b:=by kernel_rfl)(f:d=b:=by kernel_rfl):c=b:=by omega
section
variable {P:Program} {N:Nat} {e:Env} {w:aa}
theorem Xe(e1:Env)(d:Nat)(v:ad):bG e1 d v d=v:=by unfold bG;rw [Nat.beq_refl];rfl
theorem Xf(e1:Env){d j:Nat}(v:ad)(h:j≠d):bG e1 d v j=e1 j:=by
 have:Nat.beq j d=false:=by
  cases hb:Nat.beq j d with
  | false=>rfl
  | true=>exact absurd (pD hb) h
 unfold bG;rw [this];rfl
theorem HK{ms:List Nat}{p q:Nat->Bool}(h:∀m∈ms,p m=true->q m=true):ms.countP p<=ms.countP q:=List.countP_mono_left h
end
inductive Ye where
 | ex (v:ad)
 | pr (p:ad->aa->Prop)
 | p2 (j:Nat) (p:ad->ad->aa->Prop)
 | al (q:ad->Prop) (p:ad->aa->Prop)
def vl(l:List Oper)(e:Env)(k:Nat):ad:=match l[k]? with
 | some o=>valOf o e
 | none=>undef
def Ye.holds(uu:Nat->ad):Ye->ad->aa->Prop
 | .ex v,u,_=>u=v
 | .pr p,u,w=>p u w
 | .p2 j p,u,w=>p (uu j) u w
 | .al q p,u,w=>q u/\p u w
def Ye.r5:Ye->Prop
 | .ex _=>True
 | .pr p=>∀v w w',p v w->Below w.heap.size w w'->p v w'
 | .p2 _ p=>∀a v w w',p a v w->Below w.heap.size w w'->p a v w'
 | .al _ p=>∀v w w',p v w->Below w.heap.size w w'->p v w'
theorem Ye.afJ(v:ad):(Ye.ex v).r5:=True.intro
theorem ly{v:ad}{l:List Ye}(h:∀y∈l,y.r5):∀y∈Ye.ex v::l,y.r5:=cj.2 ⟨True.intro,h⟩
theorem Ye.cN{p:ad->aa->Prop}(h:∀v w w',p v w->Below w.heap.size w w'->p v w'):(Ye.pr p).r5:=h
abbrev yU:Ye:= .ex undef
abbrev yI(i:Int):Ye:= .ex (ak i)
abbrev yB(b:Bool):Ye:= .ex (.bool b)
abbrev yP(a:aj):Ye:= .ex (.pointer a)
abbrev yS(a:aj)(n c:Nat):Ye:= .ex (.slice a n c)
theorem Hs{j:Nat}{p:ad->ad->aa->Prop}(h:∀a v w w',p a v w->Below w.heap.size w w'->p a v w'):(Ye.p2 j p).r5:=h
theorem Hr{q:ad->Prop}{p:ad->aa->Prop}(h:∀v w w',p v w->Below w.heap.size w w'->p v w'):(Ye.al q p).r5:=h
def NH:Ye->Bool
 | .ex _=>true
 | .pr _=>false
 | .p2 ..=>false
 | .al ..=>false
def QV(N:Nat)(l:List Oper)(ys:List Ye)(ms:List Nat):Bool:=
 l.all (fun o=>match o.dst with | some d=>Nat.blt d N | none=>true) && decide ((jQ l).Nodup) && (l.zipIdx.all fun p=> (fO p.1).all fun ed=>Nat.blt ed.on p.2) && Nat.beq l.length ys.length && (l.zip ys).all (fun p=>p.1.dst.isSome || !NH p.2) && decide ms.Nodup && ms.all (fun m=>Nat.blt m l.length) && (ys.zipIdx.all fun p=>!(NH p.1) || !(ms.contains p.2)) && (ys.zipIdx.all fun p=>match p.1 with | .p2 j _=>kc l l.length p.2 j && Nat.blt j l.length | _=>true)
def Ye.at_(c ph:Nat)(uu:Nat->ad):Ye->ad->aa->Prop
 | .ex v,u,_=>u=v
 | .pr p,u,w=>c=ph->p u w
 | .p2 j p,u,w=>c=ph->p (uu j) u w
 | .al q p,u,w=>q u/\(c=ph->p u w)
def rK:List Oper->List Ye->(Nat->ad)->Nat->List (Nat×ad)
 | o::l,y::ys,u,i=>match o.dst,y with
  | some d,.ex v=> (d,v)::rK l ys u (i+1)
  | some d,.pr _=> (d,u i)::rK l ys u (i+1)
  | some d,.p2 ..=> (d,u i)::rK l ys u (i+1)
  | some d,.al ..=> (d,u i)::rK l ys u (i+1)
  | none,_=>rK l ys u (i+1)
 | _,_,_,_=> []
def o0(l:List Oper)(ys:List Ye):List Edge->List (Nat×ad)
 | []=> []
 | ed::r=>match ys[ed.on]?,(l[ed.on]?).bind (·.dst)with
  | some (.ex v),some d=> (d,v)::o0 l ys r
  | _,_=>o0 l ys r
section
variable{o:Oper}{y:Ye}{w1 w2:aa}{i id:Nat}{ms:List Nat}
variable {P:Program} {N:Nat} {e:Env} {w:aa}
def eO(o:Oper)(y:Ye)(uu:Nat->ad)(e1:Env)(w1:aa):Env->aa->Prop:=fun e2 w2=>Below w1.heap.size w1 w2/\y.holds uu (valOf o e2) w2/\∀j,o.dst≠some j->e2 j=e1 j
def fH(o:Oper)(y:Ye)(uu:Nat->ad)(e1:Env):Env->aa->Prop:=fun e2 w2=>y.holds uu (valOf o e2) w2/\∀j,o.dst≠some j->e2 j=e1 j
theorem eO.dn{uu:Nat->ad}{e1:Env}{d:Nat}{v:ad}(hd:o.dst=some d)(hb:Below w1.heap.size w1 w2)(hv:y.holds uu v w2):eO o y uu e1 w1 (bG e1 d v) w2:=by
 refine⟨hb,?_,fun j hj=>Xf e1 v (fun h=>hj (by rw [hd,h]))⟩;unfold valOf;rw [hd];show y.holds uu (bG e1 d v d) w2;rw [Xe];exact hv
theorem fL{uu:Nat->ad}{e1:Env}{d:Nat}{v:ad}(hd:o.dst=some d)(hv:y.holds uu v w1):eO o y uu e1 w1 (bG e1 d v) w1:=eO.dn hd (Below.refl _ _) hv
theorem fH.dn{uu:Nat->ad}{e1:Env}{d:Nat}{v:ad}(hd:o.dst=some d)(hv:y.holds uu v w2):fH o y uu e1 (bG e1 d v) w2:=by
 refine⟨?_,fun j hj=>Xf e1 v (fun h=>hj (by rw [hd,h]))⟩;unfold valOf;rw [hd];show y.holds uu (bG e1 d v d) w2;rw [Xe];exact hv
theorem fH.st{uu:Nat->ad}{e1:Env}(hd:o.dst=none)(hv:y.holds uu undef w2):fH o y uu e1 e1 w2:=by
 refine⟨?_,fun j _=>O⟩;unfold valOf;rw [hd];exact hv
def zn(P:Program)(N:Nat)(l:List Oper)(ys:List Ye)(ms:List Nat)(e:Env)(w:aa)(i:Nat)(o:Oper):Prop:=
 ∀(e1:Env) (w1:aa) (c:Nat),Js l ms i<=c->c<=DH l ms i->(c=0->Below w.heap.size w w1)->(∀(j:Nat) (y:Ye) (o':Oper),kc l l.length i j=true->ys[j]?=some y->l[j]?=some o'->y.at_ c (nv l ms j) (vl l e1) (valOf o' e1) w1)->(∀(j:Nat) (o':Oper),l[j]?=some o'->kc l l.length j i=true->valOf o' e1=valOf o' e)->(∀(m:Nat) (y:Ye) (o':Oper),iz ms m=true->C6 l ms m=true->nv l ms m=c->ys[m]?=some y->l[m]?=some o'->y.at_ c (nv l ms m) (vl l e1) (valOf o' e1) w1)->
  bif iz ms i then ao P N l.toArray (fH o (ys.getD i (.pr fun _ _=>True)) (vl l e1) (ext (mix e1 e (jQ l)) (o0 l ys (fO o)))) [o] (ext (mix e1 e (jQ l)) (o0 l ys (fO o))) w1
  else ao P N l.toArray (eO o (ys.getD i (.pr fun _ _=>True)) (vl l e1) (ext (mix e1 e (jQ l)) (o0 l ys (fO o))) w1) [o] (ext (mix e1 e (jQ l)) (o0 l ys (fO o))) w1
theorem XI{ops:Array Oper}{uu:Nat->ad}{e1:Env}{d:Nat}{v:ad}(h:wb ops N e1 o=some (d,v))(hv:y.holds uu v w1):ao P N ops (eO o y uu e1 w1) [o] e1 w1:= .wb h (eO.dn (WT h) (Below.refl _ _) hv)
theorem bq{ops:Array Oper}{uu:Nat->ad}{e1:Env}{d:Nat}{v:ad}(hd:o.dst=some d)(hv:y.holds uu v w1):ao P N ops (eO o y uu e1 w1) [] (bG e1 d v) w1:=ao.n (eO.dn hd (Below.refl _ _) hv)
theorem bQ{l:List Oper}{ys:List Ye}{d:Nat}{v:ad}(h:((iz ms i,(ys.getD i (.pr fun _ _=>True))),fun e1=>wb l.toArray N (ext (mix e1 e (jQ l)) (o0 l ys (fO o))) o)=((false,.ex v),fun _=>some (d,v))):zn P N l ys ms e w i o:=fun e1 w1 c _ _ _ _ _ _=>by
 have h1:=congrFun (Prod.mk.inj h).2 e1;rw [(Prod.mk.inj (Prod.mk.inj h).1).1,(Prod.mk.inj (Prod.mk.inj h).1).2];exact XI h1 O
theorem cP{l:List Oper}{ys:List Ye}(h:∀(e1:Env) (w1:aa),Below w.heap.size w w1->(∀(j:Nat) (y:Ye) (o':Oper),kc l l.length i j=true->ys[j]?=some y->l[j]?=some o'->y.at_ 0 (nv l ms j) (vl l e1) (valOf o' e1) w1)->(∀(j:Nat) (o':Oper),l[j]?=some o'->kc l l.length j i=true->valOf o' e1=valOf o' e)->(∀(m:Nat) (y:Ye) (o':Oper),iz ms m=true->C6 l ms m=true->nv l ms m=0->ys[m]?=some y->l[m]?=some o'->y.at_ 0 (nv l ms m) (vl l e1) (valOf o' e1) w1)->
 ao P N l.toArray (eO o (ys.getD i (.pr fun _ _=>True)) (vl l e1) (ext (mix e1 e (jQ l)) (o0 l ys (fO o))) w1) [o] (ext (mix e1 e (jQ l)) (o0 l ys (fO o))) w1) (ht:iz ms i=false:=by kernel_rfl) (hh:DH l ms i=0:=by kernel_rfl):zn P N l ys ms e w i o:=fun e1 w1 c _ cI hb hp aY hq=>by
 obtain rfl:c=0:=by omega
 rw [ht];exact h e1 w1 (hb rfl) hp aY hq
theorem jC{l:List Oper}{ys:List Ye}(h:∀(e1:Env) (w1:aa),Below w.heap.size w w1->(∀(j:Nat) (y:Ye) (o':Oper),kc l l.length i j=true->ys[j]?=some y->l[j]?=some o'->y.at_ 0 (nv l ms j) (vl l e1) (valOf o' e1) w1)->(∀(j:Nat) (o':Oper),l[j]?=some o'->kc l l.length j i=true->valOf o' e1=valOf o' e)->(∀(m:Nat) (y:Ye) (o':Oper),iz ms m=true->C6 l ms m=true->nv l ms m=0->ys[m]?=some y->l[m]?=some o'->y.at_ 0 (nv l ms m) (vl l e1) (valOf o' e1) w1)->
 ao P N l.toArray (fH o (ys.getD i (.pr fun _ _=>True)) (vl l e1) (ext (mix e1 e (jQ l)) (o0 l ys (fO o)))) [o] (ext (mix e1 e (jQ l)) (o0 l ys (fO o))) w1) (ht:iz ms i=true:=by kernel_rfl) (hh:DH l ms i=0:=by kernel_rfl):zn P N l ys ms e w i o:=fun e1 w1 c _ cI hb hp aY hq=>by
 obtain rfl:c=0:=by omega
 rw [ht];exact h e1 w1 (hb rfl) hp aY hq
theorem dP{l:List Oper}{ys:List Ye}(b:Nat)(h:∀(e1:Env) (w1:aa),(∀(j:Nat) (y:Ye) (o':Oper),kc l l.length i j=true->ys[j]?=some y->l[j]?=some o'->y.at_ b (nv l ms j) (vl l e1) (valOf o' e1) w1)->(∀(j:Nat) (o':Oper),l[j]?=some o'->kc l l.length j i=true->valOf o' e1=valOf o' e)->(∀(m:Nat) (y:Ye) (o':Oper),iz ms m=true->C6 l ms m=true->nv l ms m=b->ys[m]?=some y->l[m]?=some o'->y.at_ b (nv l ms m) (vl l e1) (valOf o' e1) w1)->
 ao P N l.toArray (eO o (ys.getD i (.pr fun _ _=>True)) (vl l e1) (ext (mix e1 e (jQ l)) (o0 l ys (fO o))) w1) [o] (ext (mix e1 e (jQ l)) (o0 l ys (fO o))) w1) (ht:iz ms i=false:=by kernel_rfl) (hl:Js l ms i=b:=by kernel_rfl) (hh:DH l ms i=b:=by kernel_rfl):zn P N l ys ms e w i o:=fun e1 w1 c dS cI _ hp aY hq=>by
 obtain rfl:c=b:=by omega
 rw [ht];exact h e1 w1 hp aY hq
theorem rJ{l:List Oper}{ys:List Ye}(b:Nat)(h:∀(e1:Env) (w1:aa),(∀(j:Nat) (y:Ye) (o':Oper),kc l l.length i j=true->ys[j]?=some y->l[j]?=some o'->y.at_ b (nv l ms j) (vl l e1) (valOf o' e1) w1)->(∀(j:Nat) (o':Oper),l[j]?=some o'->kc l l.length j i=true->valOf o' e1=valOf o' e)->(∀(m:Nat) (y:Ye) (o':Oper),iz ms m=true->C6 l ms m=true->nv l ms m=b->ys[m]?=some y->l[m]?=some o'->y.at_ b (nv l ms m) (vl l e1) (valOf o' e1) w1)->
 ao P N l.toArray (fH o (ys.getD i (.pr fun _ _=>True)) (vl l e1) (ext (mix e1 e (jQ l)) (o0 l ys (fO o)))) [o] (ext (mix e1 e (jQ l)) (o0 l ys (fO o))) w1) (ht:iz ms i=true:=by kernel_rfl) (hl:Js l ms i=b:=by kernel_rfl) (hh:DH l ms i=b:=by kernel_rfl):zn P N l ys ms e w i o:=fun e1 w1 c dS cI _ hp aY hq=>by
 obtain rfl:c=b:=by omega
 rw [ht];exact h e1 w1 hp aY hq
theorem aP{l:List Oper}{ys:List Ye}(h:∀(e1:Env) (w1:aa),ao P N l.toArray (eO o (ys.getD i (.pr fun _ _=>True)) (vl l e1) (ext (mix e1 e (jQ l)) (o0 l ys (fO o))) w1) [o] (ext (mix e1 e (jQ l)) (o0 l ys (fO o))) w1)(ht:iz ms i=false:=by kernel_rfl):zn P N l ys ms e w i o:=fun e1 w1 c _ _ _ _ _ _=>by
 rw [ht];exact h e1 w1
def EP(P:Program)(N:Nat)(l:List Oper)(ys:List Ye)(ms:List Nat)(e:Env)(w:aa):Nat->List Oper->Prop
 | _,[]=>True
 | i,o::r=>zn P N l ys ms e w i o/\EP P N l ys ms e w (i+1) r
theorem EP.get{l:List Oper}{ys:List Ye}:∀ {r:List Oper} {i:Nat},EP P N l ys ms e w i r->∀k o,r[k]?=some o->zn P N l ys ms e w (i+k) o
 | [],_,_,k,o,hk=>by simp at hk
 | x::r,i,h,0,o,hk=>by simp at hk;subst hk;exact h.1
 | x::r,i,h,k+1,o,hk=>by
  have:=EP.get h.2 k o (by simpa using hk);rw [show i+1+k=i+ (k+1) by omega]at this;exact this
theorem QR{l:List Oper}{ys:List Ye}{e1:Env}:∀(af:List Edge),(∀ed∈af,∀(v:ad) (o':Oper),ys[ed.on]?=some (.ex v)->l[ed.on]?=some o'->valOf o' e1=v)->Mt e1 (o0 l ys af)
 | [],_=>av
 | ed::r,h=>by
  have hr:=QR r (fun x hx=>h x (pC _ hx));unfold o0
  split
  ·rename_i v d hy hd;refine⟨?_,hr⟩;cases ho:l[ed.on]? with
   | none=>rw [ho]at hd;cases hd
   | some o'=>
    rw [ho]at hd;have pe:o'.dst=some d:=hd;have:=h ed (by simp) v o' hy ho;unfold valOf at this;rw [pe]at this;exact this
  ·exact hr
theorem Q6{e1 e:Env}:∀(l:List Oper) (ys:List Ye) (i:Nat),l.length=ys.length->(jQ l).Nodup->(∀(k:Nat) (v:ad) (o:Oper),ys[k]?=some (.ex v)->l[k]?=some o->valOf o e1=v\/o.dst=none)->
 ∃u:Nat->ad,ext e (rK l ys u i)=mix e1 e (jQ l)/\(∀(k:Nat) (o:Oper),l[k]?=some o->u (i+k)=valOf o e1)
 | [],[],i,_,_,_=> ⟨fun _=>undef,by funext j;rfl,fun k o h=>by simp at h⟩
 | [],y::ys,i,hl,_,_=>by simp at hl
 | o::l,[],i,hl,_,_=>by simp at hl
 | o::l,y::ys,i,hl,hn,h=>by
  have BZ:(jQ l).Nodup:=by
   unfold jQ at hn|-;rw [List.filterMap_cons]at hn
   split at hn
   ·exact hn
   ·exact(oS.1 hn).2
  obtain⟨u,hu,jx⟩:=Q6 (e1:=e1) (e:=e) l ys (i+1) (by simpa using hl) BZ (fun k v o' hy ho=>h (k+1) v o' (by simpa using hy) (by simpa using ho));have KN:∀(l:List Oper) (ys:List Ye) (i:Nat) (u u':Nat->ad),(∀k,i<=k->u k=u' k)->rK l ys u i=rK l ys u' i:=by
   intro l
   induction l with
   | nil=>intros;rfl
   | cons o l ih=>
    intro ys i u u' hk;cases ys with
    | nil=>rfl
    | cons y ys=>
     have h1:=ih ys (i+1) u u' (fun k eM=>hk k (by omega));simp only [rK];rw [h1,hk i (by omega)]
  have hc:=KN l ys (i+1) (fun k=>if k=i then valOf o e1 else u k) u (fun k hk=>by show(if k=i then _ else _)=_;rw [aw (by omega)]);refine⟨fun k=>if k=i then valOf o e1 else u k,?_,fun k o' hk=>?_⟩
  ·cases hd:o.dst with
   | none=>
    have K4:jQ (o::l)=jQ l:=by unfold jQ;rw [List.filterMap_cons,hd]
    simp only [rK,hd,hc,hu,K4]
   | some d=>
    have K4:jQ (o::l)=d::jQ l:=by unfold jQ;rw [List.filterMap_cons,hd]
    have q9:valOf o e1=e1 d:=by unfold valOf;rw [hd]
    have qY:∀v,v=e1 d->bG (mix e1 e (jQ l)) d v=mix e1 e (d::jQ l):=by
     intro v hv;funext j;simp only [bG,mix,iz];cases hb:Nat.beq j d with
     | true=>rw [pD hb,hv];rfl
     | false=>rfl
    rw [K4];cases y with
    | ex v=>
     have h0:=h 0 v o O O;simp only [rK,hd,ext,hc,hu];refine qY v ?_;rcases h0 with h0 | h0
     ·rw [<-h0,q9]
     ·rw [hd]at h0;cases h0
    | pr p=>
     simp only [rK,hd,ext,hc,hu,ay];exact qY _ q9
    | p2 j p=>
     simp only [rK,hd,ext,hc,hu,ay];exact qY _ q9
    | al q p=>
     simp only [rK,hd,ext,hc,hu,ay];exact qY _ q9
  ·cases k with
   | zero=>simp at hk;subst hk;simp
   | succ k=>
    have:=jx k o' (by simpa using hk);show(if i+ (k+1)=i then _ else u (i+ (k+1)))=_;rw [aw (by omega),<-this];congr 1;omega
theorem alA{l:List Oper}{Q:kb}(ms:List Nat)(ys:List Ye)(hm:P.follows .mixedOrders=true)(dK:QV N l ys ms=true)(MQ:∀y∈ys,y.r5)
 (Nk:EP P N l ys ms e w 0 l) (yc:∀u w1,(ms=[]->Below w.heap.size w w1)->(∀(k:Nat) (p:ad->aa->Prop),ys[k]?=some (Ye.pr p)->nv l ms k=ms.length->p (u k) w1)->(∀(k j:Nat) (p:ad->ad->aa->Prop),ys[k]?=some (Ye.p2 j p)->nv l ms k=ms.length->p (u j) (u k) w1)->(∀(k:Nat) (q:ad->Prop) (p:ad->aa->Prop),ys[k]?=some (Ye.al q p)->q (u k)/\(nv l ms k=ms.length->p (u k) w1))->Q .normal (ext e (rK l ys u 0)) w1):Cd P N (.region id l.toArray true) Q e w:= .mk' fun a ha=>by
 simp only [QV,Bool.and_eq_true,List.all_eq_true,kz]at dK;obtain⟨⟨⟨⟨⟨⟨⟨⟨h1,h2⟩,h3⟩,hlen⟩,adr⟩,rT⟩,kW⟩,hmy⟩,iy⟩:=dK;have M6:∀(k j:Nat) (p:ad->ad->aa->Prop),ys[k]?=some (.p2 j p)->kc l l.length k j=true/\j<l.length:=by
  intro k j p hk;have:=iy (.p2 j p,k) (by rw [List.mem_iff_getElem?];exact⟨k,by simp [hk]⟩);simpa [Nat.blt_eq]using this
 have yi:l.length=ys.length:=pD hlen;have ya:∀(i:Nat) (o:Oper),l[i]?=some o->∀ed∈fO o,ed.on<i:=by
  intro i o ho ed gv;have:=h3 (o,i) (by
   obtain⟨hi,IQ⟩:=iQ.1 ho;rw [List.mem_iff_getElem?];exact⟨i,by simp [ho]⟩)
  simpa [Nat.blt_eq]using this ed gv
 have hdN:∀(i:Nat) (o:Oper) (d:Nat),l[i]?=some o->o.dst=some d->d<N:=by
  intro i o d ho hd;have:=h1 o (List.mem_of_getElem? ho);rw [hd]at this;simpa [Nat.blt_eq]using this
 have hexd:∀(i:Nat) (o:Oper) (v:ad),l[i]?=some o->ys[i]?=some (.ex v)->o.dst≠none:=by
  intro i o v ho hy hd;have:=adr (o,.ex v) (by
   rw [List.mem_iff_getElem?];exact⟨i,by rw [List.getElem?_zip_eq_some];exact⟨ho,hy⟩⟩)
  simp [hd,NH]at this
 refine wp_region_any hm ?_
 let qI:Array Bool->Nat:=fun listed=>ms.countP fun m=>listed.getD m false
 have key:∀(fuel:Nat) (listed:Array Bool) (a1:Act) (e1:Env) (w1:aa),ky N a1 e1->(qI listed=0->Below w.heap.size w w1)->(∀j,iz (jQ l) j=false->e1 j=e j)->listed.size=l.length->
  (∀(i:Nat) (y:Ye) (o:Oper),listed.getD i false=true->ys[i]?=some y->l[i]?=some o->y.at_ (qI listed) (nv l ms i) (vl l e1) (valOf o e1) w1)->(∀(i:Nat) (o:Oper),listed.getD i false=true->l[i]?=some o->∀ed∈fO o,listed.getD ed.on false=true)->(∀(i:Nat) (o:Oper),listed.getD i false=false->l[i]?=some o->valOf o e1=valOf o e)->(l.length - fuel<=(List.range l.length).countP fun i=>listed.getD i false)->
  wpAny P .any l.toArray (low N Q) fuel listed a1 w1:=by
  have oC:∀(listed:Array Bool) (a1:Act) (e1:Env) (w1:aa),ky N a1 e1->(qI listed=0->Below w.heap.size w w1)->(∀j,iz (jQ l) j=false->e1 j=e j)->
   (∀(i:Nat) (y:Ye) (o:Oper),listed.getD i false=true->ys[i]?=some y->l[i]?=some o->y.at_ (qI listed) (nv l ms i) (vl l e1) (valOf o e1) w1)->(∀i,i<l.length->listed.getD i false=true)->low N Q .normal a1 w1:=by
   intro listed a1 e1 w1 hr hb pM hS dO;have pd:qI listed=ms.length:=by
    show ms.countP _=ms.length;rw [List.countP_eq_length];intro m BX;exact dO m (by simpa [Nat.blt_eq]using kW m BX)
   obtain⟨u,hu,jx⟩:=Q6 (e1:=e1) (e:=e) l ys 0 yi h2 (fun k v o hy ho=> .inl (hS k _ o (dO k (iQ.1 ho).1) hy ho));refine⟨e1,hr,?_⟩;have:=yc u w1 (fun h0=>hb (by rw [pd,h0];rfl)) (fun k p hk fe=>by
    have kF:k<l.length:=by rw [yi];exact(iQ.1 hk).1
    have h5:=hS k _ l[k] (dO k kF) hk (gO kF);have h6:=jx k l[k] (gO kF);rw [Nat.zero_add]at h6;rw [h6];exact h5 (by rw [pd,fe])) (fun k j p hk fe=>by
    have kF:k<l.length:=by rw [yi];exact(iQ.1 hk).1
    have hj:=M6 k j p hk;have h5:=hS k _ l[k] (dO k kF) hk (gO kF);have h6:=jx k l[k] (gO kF);have h7:=jx j l[j] (gO hj.2);rw [Nat.zero_add]at h6 h7;have h8:vl l e1 j=valOf l[j] e1:=by unfold vl;rw [List.getElem?_eq_getElem hj.2]
    rw [h6,h7,<-h8];exact h5 (by rw [pd,fe])) (fun k q p hk=>by
    have kF:k<l.length:=by rw [yi];exact(iQ.1 hk).1
    have h5:=hS k _ l[k] (dO k kF) hk (gO kF);have h6:=jx k l[k] (gO kF);rw [Nat.zero_add]at h6;rw [h6];exact⟨h5.1,fun fe=>h5.2 (by rw [pd,fe])⟩)
   rw [hu,Jt pM]at this;exact this
  have Gj:∀(listed:Array Bool),listed.size=l.length->Region.ready .any l.toArray listed=[]->∀i,i<l.length->listed.getD i false=true:=by
   intro listed nN vO i
   induction i using Nat.strongRecOn with
   | _ i ih=>
    intro hi;cases zR:listed.getD i false with
    | true=>rfl
    | false=>
     exfalso;have:i∈Region.ready .any l.toArray listed:=by
      rw [mem_ready];refine⟨?_,l[i],by simp [hi],fun ed gv qQ=>ih ed.on (ya i _ (gO hi) ed (sb.2 ⟨gv,qQ⟩)) (by have:=ya i _ (gO hi) ed (sb.2 ⟨gv,qQ⟩);omega)⟩;rw [jy,sr (by omega)]at zR|-;exact zR
     rw [vO]at this;cases this
  intro fuel
  induction fuel with
  | zero=>
   intro listed a1 e1 w1 hr hb pM nN hS da Cc pd;have dO:∀i,i<l.length->listed.getD i false=true:=by
    have h4:(List.range l.length).countP (fun i=>listed.getD i false)=(List.range l.length).length:=by
     have:=List.countP_le_length (p:=fun i=>listed.getD i false) (l:=List.range l.length);simp at this pd|-;omega
    rw [List.countP_eq_length]at h4;intro i hi;exact h4 i (by simpa using hi)
   refine⟨?_,oC listed a1 e1 w1 hr hb pM hS dO⟩;rw [List.eq_nil_iff_forall_not_mem];intro i hi;obtain⟨h5,o,ho,_⟩:=mem_ready.1 hi;have sM:i<l.length:=by
    rcases Nat.lt_or_ge i l.length with h | h
    ·exact h
    ·simp [qm h]at ho
   have h6:=dO i sM;rw [jy,sr (by omega)]at h5 h6;simp at h5 h6;rw [h5]at h6;cases h6
  | succ fuel ih=>
   intro listed a1 e1 w1 hr hb pM nN hS da Cc pd;refine⟨fun vO=>oC listed a1 e1 w1 hr hb pM hS (Gj listed nN vO),fun i hi=>?_⟩;obtain⟨aY,o,ho,x6⟩:=mem_ready.1 hi;have ja:l[i]?=some o:=by simpa using ho
   have sM:i<l.length:=(iQ.1 ja).1;have lT:∀ed∈fO o,listed.getD ed.on false=true:=fun ed gv=>x6 ed (sb.1 gv).1 (sb.1 gv).2
   have uZ:listed.getD i false=false:=by
    have h5:=aY;rw [jy,sr (by omega)]at h5|-;exact h5
   have qU:∀k,(listed.setIfInBounds i true).getD k false=if k=i then true else listed.getD k false:=by
    intro k;rw [jy,uj]
    by_cases eN:k=i
    ·subst eN;rw [ay rfl,ay (by omega),ay rfl];rfl
    ·rw [aw (fun e=>eN e.symm),aw eN,<-jy]
   have dS:Js l ms i<=qI listed:=HK fun m _ h=>Kv da ja lT _ _ h
   have cI:qI listed<=DH l ms i:=HK fun m _ h=>by
    have bt:Nat.beq m i=false:=by
     cases hb:Nat.beq m i with
     | false=>rfl
     | true=>rw [pD hb,uZ]at h;cases h
    have x7:kc l l.length m i=false:=by
     cases hb:kc l l.length m i with
     | false=>rfl
     | true=>have:=zo da _ _ _ hb h;rw [uZ]at this;cases this
    simp [bt,x7]
   have fe:∀(j:Nat),listed.getD j false=true->nv l ms j<=qI listed:=fun j hj=>HK fun m _ h=>by
    rw [Bool.or_eq_true]at h;rcases h with h | h
    ·rw [pD h];exact hj
    ·exact zo da _ _ _ h hj
   have ax:=Nk.get i o ja e1 w1 (qI listed);rw [Nat.zero_add]at ax;have ax:=ax dS cI hb (fun j y o' x7 hy wT=>hS j y o' (Kv da ja lT _ _ x7) hy wT) (fun j o' hj x7=>by
    refine Cc j o' ?_ hj;cases wR:listed.getD j false with
    | false=>rfl
    | true=>have:=zo da _ _ _ x7 wR;rw [uZ]at this;cases this) (fun m y o' hm FQ hphm hy TU=>by
    refine hS m y o' ?_ hy TU;cases MT:listed.getD m false with
    | true=>rfl
    | false=>
     exfalso;have h8:=Dd (fun k=>listed.getD k false) (fun k=>if k=m then true else listed.getD k false) m MT (fun k=>O) ms rT (An.1 hm);have h9:ms.countP (fun k=>if k=m then true else listed.getD k false)<=nv l ms m:=HK fun m' jw h=>by
      by_cases e:m'=m
      ·rw [e,Nat.beq_refl];rfl
      ·rw [aw e]at h;simp only [C6,List.all_eq_true]at FQ;have gZ:=FQ m' jw;cases tz:kc l l.length m m' with
       | true=>rw [Bool.or_true]
       | false=>
        rw [tz,Bool.or_false,Bool.or_eq_true]at gZ;rcases gZ with gZ | gZ
        ·exact absurd (pD gZ) e
        ·have:=zo da _ _ _ gZ h;rw [MT]at this;cases this
     have Dj:ms.countP (fun k=>listed.getD k false)=qI listed:=O;omega)
   rw [Jt pM,zv (QR (fO o) (fun ed gv v o' hy wT=>hS ed.on _ o' (lT ed gv) hy wT))]at ax
   let turns:Prop:=iz ms i=true
   let KK:Env->aa->Prop:=fun e2 w2=> (iz ms i=false->Below w1.heap.size w1 w2)/\(ys.getD i (.pr fun _ _=>True)).holds (vl l e1) (valOf o e2) w2/\∀j,o.dst≠some j->e2 j=e1 j
   have aea:∃K:Env->aa->Prop,(∀e2 w2,K e2 w2->KK e2 w2)/\ao P N l.toArray K [o] e1 w1:=by
    cases mb:iz ms i with
    | true=>
     rw [mb]at ax;exact⟨_,fun e2 w2 h=> ⟨fun h0=> (by rw [mb]at h0;cases h0),h.1,h.2⟩,ax⟩
    | false=>
     rw [mb]at ax;exact⟨_,fun e2 w2 h=> ⟨fun _=>h.1,h.2.1,h.2.2⟩,ax⟩
   obtain⟨K,sH,adV⟩:=aea;have qz:=adV.run a1 hr;have IF:qI (listed.setIfInBounds i true)=if iz ms i=true then qI listed+1 else qI listed:=by
    show ms.countP _=_
    by_cases mb:iz ms i=true
    ·rw [ay mb];exact Dd (fun m=>listed.getD m false) (fun m=> (listed.setIfInBounds i true).getD m false) i uZ qU ms rT (An.1 mb)
    ·rw [aw mb];refine List.countP_congr fun m BX=>?_
     rw [qU,aw (fun e=>mb (An.2 (by rw [<-e];exact BX)))]
   have uV:∀a2 w2,(∃e2,ky N a2 e2/\K e2 w2)->wpAny P .any l.toArray (low N Q) fuel (listed.setIfInBounds i true) a2 w2:=by
    intro a2 w2 ⟨e2,sS,gR⟩;obtain⟨ki,yq,Dx⟩:=sH _ _ gR;have M5:∀(k:Nat) (o':Oper),l[k]?=some o'->k≠i->valOf o' e2=valOf o' e1:=by
     intro k o' dK eN;unfold valOf;cases hd:o'.dst with
     | none=>rfl
     | some d=>exact Dx d (fun h=>eN (Lg _ l h2 k i o' o d dK ja hd h))
    have Ji:∀j,j≠i->vl l e2 j=vl l e1 j:=by
     intro j hj;unfold vl;cases wT:l[j]? with
     | none=>rfl
     | some o'=>exact M5 j o' wT hj
    refine ih _ a2 e2 w2 sS (fun h0=>?_) (fun j hj=>?_) (by simpa using nN) (fun k y o' hk hy dK=>?_) (fun k o' hk dK ed gv=>?_) (fun k o' hk dK=>?_) ?_
    ·rw [IF]at h0
     by_cases mb:iz ms i=true
     ·rw [ay mb]at h0;omega
     ·rw [aw mb]at h0;have:=ki (by simpa using mb);exact(hb h0).trans (this.mono (hb h0).size)
    ·have bt:o.dst≠some j:=by
      intro hd;have:iz (jQ l) j=true:=by rw [An];exact List.mem_filterMap.2 ⟨o,List.mem_of_getElem? ja,hd⟩
      rw [this]at hj;cases hj
     rw [Dx j bt];exact pM j hj
    ·by_cases eN:k=i
     ·subst eN;rw [ja]at dK;cases dK;have:ys.getD k (.pr fun _ _=>True)=y:=by simp [dd,hy]
      rw [this]at yq;cases y with
      | ex v=>exact yq
      | pr p=>exact fun _=>yq
      | p2 j p=>
       have hj:=M6 k j p hy;have wR:listed.getD j false=true:=Kv da ja lT _ _ hj.1;have sO:j≠k:=fun e=>by rw [e,uZ]at wR;cases wR
       exact fun _=>by rw [Ji j sO];exact yq
      | al q p=>exact⟨yq.1,fun _=>yq.2⟩
     ·have eM:listed.getD k false=true:=by rw [qU,aw eN]at hk;exact hk
      have h7:=hS k y o' eM hy dK;rw [M5 k o' dK eN];cases y with
      | ex v=>exact h7
      | pr p=>
       intro hc;rw [IF]at hc
       by_cases mb:iz ms i=true
       ·rw [ay mb]at hc;have:=fe k eM;omega
       ·rw [aw mb]at hc;have hl:=MQ _ (List.mem_of_getElem? hy);exact hl _ _ _ (h7 hc) (ki (by simpa using mb))
      | p2 j p=>
       have hj:=M6 k j p hy;have wR:listed.getD j false=true:=zo da _ _ _ hj.1 eM;have sO:j≠i:=fun e=>by rw [e,uZ]at wR;cases wR
       intro hc;rw [Ji j sO];rw [IF]at hc
       by_cases mb:iz ms i=true
       ·rw [ay mb]at hc;have:=fe k eM;omega
       ·rw [aw mb]at hc;have hl:=MQ _ (List.mem_of_getElem? hy);exact hl _ _ _ _ (h7 hc) (ki (by simpa using mb))
      | al q p=>
       refine⟨h7.1,fun hc=>?_⟩;rw [IF]at hc
       by_cases mb:iz ms i=true
       ·rw [ay mb]at hc;have:=fe k eM;omega
       ·rw [aw mb]at hc;have hl:=MQ _ (List.mem_of_getElem? hy);exact hl _ _ _ (h7.2 hc) (ki (by simpa using mb))
    ·rw [qU]
     by_cases zL:ed.on=i
     ·rw [ay zL]
     ·rw [aw zL]
      by_cases eN:k=i
      ·subst eN;rw [ja]at dK;cases dK;exact lT ed gv
      ·rw [qU,aw eN]at hk;exact da k o' hk dK ed gv
    ·rw [qU]at hk
     by_cases eN:k=i
     ·rw [ay eN]at hk;cases hk
     ·rw [aw eN]at hk;rw [M5 k o' dK eN];exact Cc k o' hk dK
    ·have FR:(List.range l.length).countP (fun k=> (listed.setIfInBounds i true).getD k false)=(List.range l.length).countP (fun k=>listed.getD k false)+1:=
      Dd (fun k=>listed.getD k false) (fun k=> (listed.setIfInBounds i true).getD k false) i uZ qU _ List.nodup_range (by simpa using sM)
     rw [FR];omega
   unfold wpOp;rw [ho];unfold wpList at qz;show if _ then _ else _
   by_cases hw:Region.wanted o (yielded l.toArray a1.tmps)=true
   ·rw [ay hw]at qz|-;rcases qz with h5 | ⟨_,a0,w0,h5⟩
    ·refine .inl (Kg h5 (fun a2 w2 hx=>?_) (fun x a w hx hq=>hx hq.1));exact uV a2 w2 hx.2
    ·exact absurd h5.1 (by simp)
   ·rw [aw hw]at qz|-;exact uV _ _ qz.2
 refine key l.length (Array.replicate l.length false) a e _ ha (fun _=> ⟨⟨O,O,O,bB _,fun _ _=>O⟩,fun _=>Nat.le_add_right _ _⟩) (fun _ _=>O) (by simp) (fun i y o hi=>?_) (fun i o hi=>?_) (fun _ _ _ _=>O) (by omega)
 ·exfalso;rw [jy,Array.getElem?_replicate]at hi
  split at hi<;>simp at hi
 ·exfalso;rw [jy,Array.getElem?_replicate]at hi
  split at hi<;>simp at hi
theorem jA{l:List Oper}{Q:kb}(ms:List Nat)(ys:List Ye)(MQ:∀y∈ys,y.r5)(Nk:EP P N l ys ms e w 0 l)(yc:∀u w1,(ms=[]->Below w.heap.size w w1)->(∀(k:Nat) (p:ad->aa->Prop),ys[k]?=some (Ye.pr p)->nv l ms k=ms.length->p (u k) w1)->(∀(k j:Nat) (p:ad->ad->aa->Prop),ys[k]?=some (Ye.p2 j p)->nv l ms k=ms.length->p (u j) (u k) w1)->(∀(k:Nat) (q:ad->Prop) (p:ad->aa->Prop),ys[k]?=some (Ye.al q p)->q (u k)/\(nv l ms k=ms.length->p (u k) w1))->Q .normal (ext e (rK l ys u 0)) w1)(hm:P.follows .mixedOrders=true:=by kernel_rfl)(dK:QV N l ys ms=true:=by kernel_rfl):Cd P N (.region id l.toArray true) Q e w:=alA ms ys hm dK MQ Nk yc
end
theorem XV(x y:Int)(w:aa)(hx:0<=x/\x<=1048576)(hy:0<=y/\y<=1048576):aN prog 241 [.int .u64 x,.int .u64 y] w (fun v w'=>v= .tuple #[.int .u64 0,.int .u64 (x*y)]/\w'=w):=by
 have jT:0<=x*y/\x*y<=1099511627776:=⟨Int.mul_nonneg hx.1 hy.1,Int.le_trans (Int.mul_le_mul hx.2 hy.2 hy.1 (by omega)) (by decide)⟩;have ex:x%4294967296=x:=by omega
 have ey:y%4294967296=y:=by omega
 have dx:x / 4294967296=0:=by omega
 have dy:y / 4294967296=0:=by omega
 refine bI func241 O ntmps241 O (vZ O) (bc O (Kh (x) O O O (by omega) (by omega) (ar O (EM (0) O O O (by omega) (by omega) (ar O (Kh (y) O O O (by omega) (by omega) (ar O (EM (0) O O O (by omega) (by omega) (ar O ?_)))))))));refine EK (x*y) O O O (by simp) (by omega) ?_;refine ar O ?_;refine EK (0) O O O (by simp) (by omega) ?_;refine ar O (EM (x*y / 4294967296) O O O (by omega) (by omega) ?_);refine Hl (x*y / 4294967296) O O O (by simp) (by omega) ?_;refine ar O (Kh (x*y / 4294967296) O O O (by omega) (by omega) (ar O (EM (0) O O O (by omega) (by omega) (ar O ?_))));refine EK (0) O O O (by simp) (by omega) ?_;refine Hl (x*y / 4294967296) O O O (by simp) (by omega) ?_;refine ar O ?_;refine EK (0) O O O (by simp) (by omega) ?_;refine ar O ?_;refine Hl (0) O O O (by simp) (by omega) ?_;refine ar O (EM (0) O O O (by omega) (by omega) ?_);refine Hl (0) O O O (by simp) (by omega) ?_;refine ar O ?_;refine EK (x*y) O O O (by simp) (by omega) ?_;refine bM O (Wt O O ?_);exact⟨O,O⟩
theorem XW(x y:Int)(w:aa)(hx:0<=x/\x<=1048576)(hy:0<=y/\y<=1048576):aN prog 215 [.int .u64 x,.int .u64 y] w (fun v w'=>v= .tuple #[.int .u64 0,.int .u64 (x*y)]/\w'=w):=by
 refine bI func215 O ntmps215 O (vZ O) (b8 O (Cd.gq O (aG O (aL (XV x y w hx hy) O ?_))));rintro _ _ ⟨rfl,rfl⟩;refine bM O (Wt O O ?_);exact⟨O,O⟩
def rep(a n:Nat)(x v:Int):ai:=List.replicate a x++List.replicate (n - a) v
theorem ah6{m n q:Nat}{x v:Int}(hm:m<=n)(hq:q<=n - m):((rep m n x v).map (Value.int .i64)).take m++ (List.range q).map (fun _=>Value.int .i64 x)++ ((rep m n x v).map (Value.int .i64)).drop (m+q)=(rep (m+q) n x v).map (Value.int .i64):=by
 have e1:(rep m n x v).map (Value.int .i64)=List.replicate m (Value.int .i64 x)++List.replicate (n - m) (Value.int .i64 v):=by simp [rep]
 have e2:(List.range q).map (fun _=>Value.int .i64 x)=List.replicate q (Value.int .i64 x):=by
  apply jX<;>simp
 rw [e1,e2,ze (by simp),List.drop_append];simp only [rep,jm,List.map_replicate,List.length_replicate,List.take_replicate,List.drop_replicate,Nat.min_self];rw [show m - (m+q)=0 by omega,show m+q - m=q by omega,show n - m - q=n - (m+q) by omega];simp
theorem Hq(A:aj)(c:Nat)(x:Int)(n:Nat)(w:aa)(hR:di w A 1 [x])(hn:n<=1048576):
 aN prog 158 [.slice A 1 c,ak n] w (fun v w'=>∃A',v= .slice A' n n/\St w w' [az 2 A' n n (List.replicate n x)]):=by
 refine bI func158 O ntmps158 O (du O) (b8 O (oM O (by omega) ?_));refine aG O (bk O O ?_);refine og (i:=1) O O (by decide) (ar O (og (i:=(n:Int)) O O (uh _ (by omega)) (aL (XW 1 n _ (by omega) (by omega)) O ?_)));rintro _ w ⟨rfl,rfl⟩;rw [Int.one_mul];refine ar O (ao.gtr O O O (ar O ?_));refine cT 23 O (fun h=>absurd h (by decide)) (fun _=>?_);refine au O (ar O (au O (ao.gtr O O O (aI O ?_))));refine oM O (by omega) (aG O (og (i:=(n:Int)) O O (IntWalk.i64_in _ (by omega)) (zh n (St.refl w) O O (by omega) ?_)));intro A1 w1 aE;refine ar O ?_;refine PJ 0 0 (min 1 n) aE O (aE.gH hR).2 (bm _) (by rw [Z1];rfl) O (fun _ _=>O) O O ?_;intro w2 aD;refine aI O ?_;have h3:St w w2 [az 2 A1 n n (rep (min 1 n) n x 0)]:=by
  have e:([az 2 A1 n n (List.replicate n 0)].set 0 { az 2 A1 n n (List.replicate n 0)with vs:=(az 2 A1 n n (List.replicate n 0)).vs.take 0++ (List.range (min 1 n)).map (fun j=>Value.int .i64 ([x].getD j 0))++ (az 2 A1 n n (List.replicate n 0)).vs.drop (0+min 1 n) })=[az 2 A1 n n (rep (min 1 n) n x 0)]:=by
   by_cases h0:n=0
   ·subst h0;rfl
   have h1:min 1 n=1:=by omega
   rw [h1];simp [az,rep,nZ]
  rw [<-e];exact aD
 refine Cd.loop (α:=Nat) (fun m=> [(7,.slice A1 n n),(8,ak m)]) (fun m w'=>St w w' [az 2 A1 n n (rep m n x 0)]/\m<=n/\(0<n->0<m)) (fun m=>n - m) (min 1 n) (alH O) ⟨h3,by omega,by omega⟩ ?_;rintro m e w3 ⟨aM,hm,hm0⟩;refine bc O (bk O O (aI O ?_));refine aR _ O (fun h4=>?_) (fun h4=>?_)
 ·refine cM O ?_;have hlen:(rep m n x 0).length=n:=aM.D6 0 O;have qP:∀ {w1:aa},Below w3.heap.size w3 w1->Rd w1 A1 m (fun _=>ak x):=fun hb j hj=>by
   have h5:=(aM.aq hb).rd 0 O j (by show j<n;omega);have h6:((rep m n x 0).map (Value.int .i64)).getD j undef=ak x:=by simp [rep,dd,mq,hj]
   obtain⟨p,hp,hc⟩:=h5;exact⟨p,hp,hc.trans (aK some h6)⟩
  have iD:=ah6 (n:=n) (m:=m) (q:=min m (n - m)) (x:=x) (v:=0) hm (by omega);refine jA [7] [yI ((m:Int)),yS (A1) (n) (n),yI ((m:Int)),yS (cutAt A1 n m) (n - m) (n - m),yS (A1) (n) (n),yI ((m:Int)),yS (A1) (m) (n),.pr (fun v w'=>v=ak ((min m (n - m):Nat):Int)/\St w w' [az 2 A1 n n (rep (m+min m (n - m)) n x 0)]),yI ((m:Int)+ ((min m (n - m):Nat):Int)),yI ((m:Int)+ ((min m (n - m):Nat):Int))] (ly (ly (ly (ly (ly (ly (ly (cj.2 ⟨Ye.cN (fun v w w' h hb=> ⟨h.1,h.2.aq hb⟩),(ly (ly (fun _ h=>by cases h)))⟩)))))))) ?_ ?_
  ·refine⟨?_,bQ O,?_,aP fun _ _=>EI O O O (by omega) (bq O O),bQ O,?_,aP fun _ _=>Kj O O O (by omega) (bq O O),?_,?_,bQ O,av⟩
   ·intro e1 w1 cc dS cI dX hp aY hq;show ao _ _ _ _ _ _ _;refine rH O (by exact aY 9 _ O (by kernel_rfl)) O (ao.n (fL O (by exact O)))
   ·intro e1 w1 cc dS cI dX hp aY hq;show ao _ _ _ _ _ _ _;refine rH O (by exact aY 9 _ O (by kernel_rfl)) O (ao.n (fL O (by exact O)))
   ·intro e1 w1 cc dS cI dX hp aY hq;show ao _ _ _ _ _ _ _;refine rH O (by exact aY 9 _ O (by kernel_rfl)) O (ao.n (fL O (by exact O)))
   ·refine jC fun e1 w1 hb hp aY hq=>?_
    refine PJ 0 m (min m (n - m)) (aM.aq hb) O (f:=fun _=>ak x) (qP hb) (by omega) O O (fun _ _=>O) O O fun w5 aV=>ao.n ?_;exact fH.dn O ⟨O,by show St w w5 [⟨A1,n,n,_,(rep (m+min m (n - m)) n x 0).map (Value.int .i64)⟩];rw [<-iD];exact aV⟩
   refine dP 1 fun e1 w1 hp aY hq=>?_
   have fe:=hp 7 _ _ (by kernel_rfl) O O (by kernel_rfl);refine alu O (by exact fe.1) O (by omega) (ao.n (fL O (by exact O)))
  intro u w5 _ hu _ _;have aV:=(hu 7 _ O (by kernel_rfl)).2;refine Pv O (tQ ?_);exact⟨m+min m (n - m),by have:=hm0 (by omega);omega,⟨O,by show Value.int .i64 _=Value.int .i64 _;congr 1,av⟩,aV,by omega,by omega⟩
 refine bw O (bA (ij O ?_));refine gK O ?_;have:m=n:=by omega
 subst this;refine⟨A1,O,?_⟩;have e:rep m m x 0=List.replicate m x:=by simp [rep]
 rw [<-e];exact aM
end
section
variable{i:Nat}{x y:Int}
theorem JY{α:Type}[DecidableEq α]:∀(a b:List α),a.Nodup->(∀x∈a,x∈b)->a.length<=b.length
 | [],_,_,_=>bm _
 | x::a,b,hn,h=>by
  simp only [oS]at hn;have h1:=JY a (b.erase x) hn.2 (fun y hy=>by
   rw [List.mem_erase_of_ne (fun e=>hn.1 (by rw [<-e];exact hy))];exact h y (by simp [hy]))
  have hx:=h x (by simp);have h2:=List.length_erase_of_mem hx;have h3:=List.length_pos_of_mem hx;simp only [List.length_cons];omega
theorem OV{α:Type}[DecidableEq α]{a b:List α}(hn:a.Nodup)(h:∀x∈a,x∈b)(hl:b.length<=a.length):∀x∈b,x∈a:=by
 intro y hy;apply nA;intro Gt;have:=JY (y::a) b (by simp [Gt,hn]) (fun x hx=>by
  rcases jn.1 hx with rfl | hx
  ·exact hy
  exact h x hx)
 simp at this;omega
def tk(N:Nat)(xss:ah):Prop:=∀p∈xss,∀x y:Int,0<=x->x<N->0<=y->y<N->gi p x=gi p y->x=y
theorem Reach.range{N:Nat}{xss:ah}(hs:Sys N xss)(h0:0<=x)(h1:x<N)(h:Reach xss x y):0<=y/\y<N:=by
 induction h with
 | refl=>exact⟨h0,h1⟩
 | step _ hp ih=>exact(hs _ hp).2 _ ih.1 ih.2
theorem Reach.back{N:Nat}{xss:ah}(hs:Sys N xss)(hi:tk N xss)(h0:0<=x)(h1:x<N){p:ai}(hp:p∈xss):Reach xss (gi p x) x:=by
 have hy:=(hs p hp).2 x h0 h1;obtain⟨g,_,hm⟩:=sd hs hy.1 hy.2;have key:=OV (a:=(dw N xss (gi p x)).map (gi p)) (b:=dw N xss (gi p x)) (by
  rw [List.nodup_iff_pairwise_ne,nB];refine List.Pairwise.imp_of_mem ?_ g.nodup;intro a b ha hb eG e;exact eG (hi p hp a b (g.range a ha).1 (g.range a ha).2 (g.range b hb).1 (g.range b hb).2 e))
  (fun z hz=>by
    obtain⟨u,hu,rfl⟩:=dv.1 hz;exact(hm _).2 (.step ((hm u).1 hu) hp)) (by simp)
 obtain⟨u,hu,e⟩:=dv.1 (key (gi p x) ((hm _).2 .refl));have:=hi p hp u x (g.range u hu).1 (g.range u hu).2 h0 h1 e;subst this;exact(hm u).1 hu
theorem Reach.symm{N:Nat}{xss:ah}(hs:Sys N xss)(hi:tk N xss)(h0:0<=x)(h1:x<N)(h:Reach xss x y):Reach xss y x:=by
 induction h with
 | refl=>exact .refl
 | step hr hp ih=>
  have hy:=hr.range hs h0 h1;exact(Reach.back hs hi hy.1 hy.2 hp).trans ih
def pX(L:ai)(c:Int):ai->ai
 | []=>L
 | x::xs=>pX (L.set x.toNat c) c xs
theorem GI:∀(xs L:ai) (c:Int),(pX L c xs).length=L.length
 | [],_,_=>rfl
 | x::xs,L,c=>by rw [pX,GI xs];simp
theorem wF{N:Nat}:∀(xs L:ai) (c:Int),L.length=N->(∀x∈xs,0<=x/\x<N)->∀x:Int,0<=x->gi (pX L c xs) x=if x∈xs then c else gi L x
 | [],_,_,_,_,x,_=>by simp [pX]
 | y::xs,L,c,hl,h,x,hx=>by
  have hy:=h y (by simp);rw [pX,wF xs (L.set y.toNat c) c (by simpa using hl) (fun z hz=>h z (by simp [hz])) x hx,qK hy.1 (by rw [hl];exact hy.2) hx]
  by_cases h1:x∈xs
  ·simp [h1]
  ·rw [aw h1]
   by_cases h2:y=x
   ·subst h2;simp
   ·rw [aw h2,aw];simp only [jn,not_or];exact⟨fun e=>h2 e.symm,h1⟩
def bD(N:Nat)(xss:ah):Nat->ai×Int
 | 0=> (List.replicate N (-1),0)
 | i+1=>if 0<=gi (bD N xss i).1 i then bD N xss i else(pX (bD N xss i).1 (bD N xss i).2 (dw N xss i),(bD N xss i).2+1)
theorem yw{N:Nat}{xss:ah}(h:¬0<=gi (bD N xss i).1 i):bD N xss (i+1)=(pX (bD N xss i).1 (bD N xss i).2 (dw N xss i),(bD N xss i).2+1):=by
 show(if _ then _ else _)=_;rw [aw h]
theorem Ah{N:Nat}{xss:ah}(h:0<=gi (bD N xss i).1 i):bD N xss (i+1)=bD N xss i:=by
 show(if _ then _ else _)=_;rw [ay h]
theorem rh(N:Nat)(xss:ah):∀i,(bD N xss i).1.length=N
 | 0=>by simp [bD]
 | i+1=>by
  simp only [bD]
  split
  ·exact rh N xss i
  ·rw [GI];exact rh N xss i
theorem Ag(N:Nat)(xss:ah):∀i,0<=(bD N xss i).2/\(bD N xss i).2<=i
 | 0=>by simp [bD]
 | i+1=>by
  have:=Ag N xss i;simp only [bD]
  split
  ·omega
  ·simp only;omega
theorem zA{N:Nat}{v:Int}(h0:0<=x)(h1:x<N):gi (List.replicate N v) x=v:=by
 simp [gi,dd,List.getElem?_replicate,show x.toNat<N by omega]
theorem Cl{N:Nat}{xss:ah}(hs:Sys N xss):∀i,i<=N->∀x:Int,0<=x->x<N->(0<=gi (bD N xss i).1 x↔∃j:Nat,j<i/\Reach xss j x)
 | 0,_,x,h0,h1=>by
  simp only [bD,zA h0 h1];constructor
  ·intro h;omega
  ·rintro⟨j,hj,_⟩;omega
 | i+1,hi,x,h0,h1=>by
  have ih:=Cl hs i (by omega);have hc:=Ag N xss i;have ho:=sd hs (pt:=(i:Int)) (by omega) (by omega);simp only [bD]
  split
  ·rename_i hl;rw [ih x h0 h1];constructor
   ·rintro⟨j,hj,hr⟩;exact⟨j,by omega,hr⟩
   ·rintro⟨j,hj,hr⟩
    by_cases sO:j=i
    ·subst sO;obtain⟨j',ll,gg⟩:=(ih j (by omega) (by omega)).1 hl;exact⟨j',ll,gg.trans hr⟩
    ·exact⟨j,by omega,hr⟩
  ·simp only;rw [wF _ _ _ (rh N xss i) ho.1.range x h0]
   by_cases hm:x∈dw N xss i
   ·rw [ay hm];exact⟨fun _=> ⟨i,by omega,(ho.2.2 x).1 hm⟩,fun _=>hc.1⟩
   ·rw [aw hm,ih x h0 h1];constructor
    ·rintro⟨j,hj,hr⟩;exact⟨j,by omega,hr⟩
    ·rintro⟨j,hj,hr⟩
     by_cases sO:j=i
     ·subst sO;exact absurd ((ho.2.2 x).2 hr) hm
     ·exact⟨j,by omega,hr⟩
theorem afF{N:Nat}{xss:ah}(hs:Sys N xss)(hN:0<N):(bD N xss N).2=1↔∀x:Int,0<=x->x<N->Reach xss 0 x:=by
 have h1:(bD N xss 1).2=1:=by
  have:¬(0:Int)<=gi (bD N xss 0).1 (0:Nat):=by
   rw [show(bD N xss 0).1=List.replicate N (-1) from rfl,zA (by omega) (by omega)];omega
  rw [show(1:Nat)=0+1 from rfl,yw this];rfl
 constructor
 ·intro hc;have mono:∀i j,i<=j->(bD N xss i).2<=(bD N xss j).2:=by
   intro i j iJ
   induction j with
   | zero=>
    have:i=0:=by omega
    subst this;omega
   | succ j ih=>
    by_cases e:i=j+1
    ·subst e;omega
    ·have:=ih (by omega);have h2:(bD N xss j).2<=(bD N xss (j+1)).2:=by
      simp only [bD];split
      ·omega
      ·simp only;omega
     omega
  have key:∀i:Nat,i<N->Reach xss 0 (i:Int):=by
   intro i
   induction i using Nat.strongRecOn with
   | _ i ih=>
    intro hi
    by_cases h0:i=0
    ·subst h0;exact .refl
    ·have hl:0<=gi (bD N xss i).1 i:=by
      apply nA;intro hn;have h2:=mono 1 i (by omega);have h3:=mono (i+1) N (by omega);have h4:(bD N xss (i+1)).2=(bD N xss i).2+1:=by rw [yw hn]
      omega
     obtain⟨j,hj,hr⟩:=(Cl hs i (by omega) i (by omega) (by omega)).1 hl;exact(ih j hj (by omega)).trans hr
  intro x h0 h2;have:=key x.toNat (by omega);rw [Int.toNat_of_nonneg h0]at this;exact this
 ·intro h;have key:∀i,1<=i->i<=N->(bD N xss i).2=1:=by
   intro i
   induction i with
   | zero=>intro h;omega
   | succ i ih=>
    intro _ hi
    by_cases e:i=0
    ·subst e;exact h1
    ·have hl:=(Cl hs i (by omega) i (by omega) (by omega)).2 ⟨0,by omega,h i (by omega) (by omega)⟩;rw [Ah hl];exact ih (by omega) (by omega)
  exact key N (by omega) (bB _)
theorem Cs{N:Nat}{xss:ah}(hs:Sys N xss)(hN:0<N):(dw N xss 0).length=N↔∀x:Int,0<=x->x<N->Reach xss 0 x:=by
 obtain⟨g,_,hm⟩:=sd hs (pt:=0) (by omega) (by omega);have sT:∀x:Int,x∈(List.range N).map (fun i:Nat=> (i:Int))↔0<=x/\x<N:=by
  intro x;rw [dv];constructor
  ·rintro⟨i,hi,rfl⟩;have:i<N:=by simpa using hi
   omega
  intro h;exact⟨x.toNat,by simp;omega,by omega⟩
 have iS:((List.range N).map (fun i:Nat=> (i:Int))).Nodup:=by
  rw [List.nodup_iff_pairwise_ne,nB];refine List.Pairwise.imp ?_ (List.nodup_iff_pairwise_ne.1 List.nodup_range);intro a b eG;omega
 constructor
 ·intro hl x h0 h1;have:=OV g.nodup (b:=(List.range N).map (fun i:Nat=> (i:Int))) (fun z hz=> (sT z).2 (g.range z hz)) (by simp [hl]) x ((sT x).2 ⟨h0,h1⟩);exact(hm x).1 this
 intro h;have h1:=JY _ (dw N xss 0) iS (fun z hz=>by
  have:=(sT z).1 hz;exact(hm z).2 (h z this.1 this.2))
 have h2:=g.len;simp at h1;omega
structure oN(N:Nat)(xss:ah)(i c:Int)(L0 L op:ai)(bx:Int)(k:Nat):Prop where
 len:L.length=N
 sc:∀x:Int,0<=x->x<N->0<=gi L0 x->gi L x=gi L0 x
 new:∀x:Int,0<=x->x<N->gi L0 x<0->gi L x=gi L0 x\/(gi L x=c/\Reach xss i x)
 start:gi L i=c
 yE:∀x∈op,0<=x/\x<N/\gi L0 x<0/\gi L x=c
 xH:∀x:Int,0<=x->x<N->gi L0 x<0->gi L x=c->x∉op->∀p∈(if x=bx then xss.take k else xss),0<=gi L (gi p x)
section
variable {N:Nat} {xss:ah} {i c:Int} {L0 L op:ai} {bx:Int} {k:Nat}
theorem oN.init(hl:L0.length=N)(h0:0<=i)(h1:i<N)(hi:gi L0 i<0)(hc:0<=c):oN N xss i c L0 (L0.set i.toNat c) [i] (-1) 0 where
 len:=by simpa using hl
 sc x hx _ h:=by
  rw [qK h0 (by rw [hl];exact h1) hx]
  split
  ·rename_i e;subst e;omega
  rfl
 new x hx _ h:=by
  rw [qK h0 (by rw [hl];exact h1) hx]
  split
  ·rename_i e;subst e;exact .inr ⟨rfl,.refl⟩
  exact .inl O
 start:=by rw [qK h0 (by rw [hl];exact h1) h0,ay rfl]
 yE x hx:=by
  simp at hx;subst hx;exact⟨h0,h1,hi,by rw [qK h0 (by rw [hl];exact h1) h0,ay O]⟩
 xH x hx eE h pc iF:=by
  rw [qK h0 (by rw [hl];exact h1) hx]at pc
  split at pc
  ·rename_i e;subst e;simp at iF
  omega
theorem oN.aho{x:Int}(h:oN N xss i c L0 L (op++ [x]) (-1) 0):oN N xss i c L0 L op x 0 where
 len:=h.len
 sc:=h.sc
 new:=h.new
 start:=h.start
 yE y hy:=h.yE y (by simp [hy])
 xH y hy kX h0 hc iF:=by
  split
  ·simp
  rename_i bt;have:=h.xH y hy kX h0 hc (by simp [iF,bt]);rw [aw (by omega)]at this;exact this
theorem oN.rest(h:oN N xss i c L0 L op bx xss.length):oN N xss i c L0 L op (-1) 0 where
 len:=h.len
 sc:=h.sc
 new:=h.new
 start:=h.start
 yE:=h.yE
 xH y hy kX h0 hc iF:=by
  rw [aw (by omega)];have:=h.xH y hy kX h0 hc iF;rw [List.take_length]at this;simpa using this
theorem oN.skip(h:oN N xss i c L0 L op bx k)(hk:k<xss.length)(hy:0<=gi L (gi (gl xss k) bx)):oN N xss i c L0 L op bx (k+1) where
 len:=h.len
 sc:=h.sc
 new:=h.new
 start:=h.start
 yE:=h.yE
 xH y kX aeg h0 hc iF p hp:=by
  have:=h.xH y kX aeg h0 hc iF
  split at hp
  ·rename_i e;rw [ay e]at this;rw [OZ hk,iR]at hp;rcases hp with hp | hp
   ·exact this p hp
   simp at hp;subst hp;subst e;exact hy
  rename_i e;rw [aw e]at this;exact this p hp
theorem oN.push(hs:Sys N xss)(fG:0<=i)(h:oN N xss i c L0 L op bx k)(hk:k<xss.length)(dX:0<=bx)(df:bx<N)(hb:gi L0 bx<0)(BJ:gi L bx=c)(nJ:0<=c)(hy:gi L (gi (gl xss k) bx)<0):
 oN N xss i c L0 (L.set (gi (gl xss k) bx).toNat c) (op++ [gi (gl xss k) bx]) bx (k+1):=by
 have kV:gl xss k∈xss:=by rw [cK hk];exact dH _
 have tU:=(hs _ kV).2 bx dX df;have hg:∀z:Int,0<=z->gi (L.set (gi (gl xss k) bx).toNat c) z=if gi (gl xss k) bx=z then c else gi L z:=fun z hz=>qK tU.1 (by rw [h.len];exact tU.2) hz
 have S9:Reach xss i bx:=by
  rcases h.new bx dX df hb with h1 | h1
  ·omega
  exact h1.2
 have Ny:gi L0 (gi (gl xss k) bx)<0:=by
  apply nA;intro hn;have:=h.sc _ tU.1 tU.2 (by omega);omega
 have pos:∀z:Int,0<=z->0<=gi L z->0<=gi (L.set (gi (gl xss k) bx).toNat c) z:=fun z hz h1=>by
  rw [hg z hz];split<;>omega
 refine⟨by simpa using h.len,fun x hx eE h0=>?_,fun x hx eE h0=>?_,?_,fun x hx=>?_,fun x hx eE h0 hc iF p hp=>?_⟩
 ·rw [hg x hx,aw (fun e=>by subst e;omega)];exact h.sc x hx eE h0
 ·rw [hg x hx]
  split
  ·rename_i e;subst e;exact .inr ⟨rfl,.step S9 kV⟩
  exact h.new x hx eE h0
 ·rw [hg i fG];split
  ·rfl
  exact h.start
 ·rcases iR.1 hx with hx | hx
  ·have:=h.yE x hx;refine⟨this.1,this.2.1,this.2.2.1,?_⟩;rw [hg x this.1];split
   ·rfl
   exact this.2.2.2
  simp at hx;subst hx;exact⟨tU.1,tU.2,Ny,by rw [hg _ tU.1,ay O]⟩
 have bt:gi (gl xss k) bx≠x:=fun e=>iF (by subst e;simp)
 rw [hg x hx,aw bt]at hc;have adq:x∉op:=fun hm=>iF (by simp [hm])
 have h1:=h.xH x hx eE h0 hc adq
 split at hp
 ·rename_i e;rw [ay e]at h1;rw [OZ hk,iR]at hp;rcases hp with hp | hp
  ·exact pos _ ((hs p (List.mem_of_mem_take hp)).2 x hx eE).1 (h1 p hp)
  simp at hp;subst hp;subst e;rw [hg _ tU.1,ay rfl];exact nJ
 rename_i e;rw [aw e]at h1;exact pos _ ((hs p hp).2 x hx eE).1 (h1 p hp)
theorem oN.done(hs:Sys N xss)(hi:tk N xss){j:Nat}(hj:j<N)(yj:¬0<=gi (bD N xss j).1 j)(h:oN N xss j (bD N xss j).2 (bD N xss j).1 L [] (-1) 0):L=(bD N xss (j+1)).1:=by
 have hc:=Ag N xss j;have ho:=sd hs (pt:=(j:Int)) (by omega) (by omega);have hm:=Cl hs j (by omega);rw [yw yj];apply jX
 ·rw [h.len,GI,rh]
 intro x h1 h2;have hx:x<N:=by rw [<-h.len];exact h1
 have e1:=cd (p:=L) (k:=x) h1;have e2:=cd (p:=pX (bD N xss j).1 (bD N xss j).2 (dw N xss j)) (k:=x) h2;rw [<-e1];show _=(pX (bD N xss j).1 (bD N xss j).2 (dw N xss j))[x];rw [<-e2,wF _ _ _ (rh N xss j) ho.1.range x (by omega)];have reached:∀y,Reach xss j y->gi (bD N xss j).1 y<0/\gi L y=(bD N xss j).2:=by
  intro y hr
  induction hr with
  | refl=>exact⟨by omega,h.start⟩
  | @step y p hr hp ih=>
   have hy:=hr.range hs (by omega) (by omega);have I6:=(hs p hp).2 y hy.1 hy.2;have TM:gi (bD N xss j).1 (gi p y)<0:=by
    apply nA;intro hn;obtain⟨m,hmj,TJ⟩:=(hm _ I6.1 I6.2).1 (by omega);have:=(hm y hy.1 hy.2).2 ⟨m,hmj,TJ.trans (Reach.back hs hi hy.1 hy.2 hp)⟩;omega
   refine⟨TM,?_⟩;have h3:=h.xH y hy.1 hy.2 ih.1 ih.2 (by simp) p (by rw [aw (by omega)];exact hp);rcases h.new _ I6.1 I6.2 TM with h4 | h4
   ·omega
   ·exact h4.1
 split
 ·rename_i kV;exact(reached _ ((ho.2.2 _).1 kV)).2
 ·rename_i kV;have Gb:¬Reach xss j x:=fun hr=>kV ((ho.2.2 _).2 hr)
  by_cases h5:0<=gi (bD N xss j).1 x
  ·exact h.sc x (by omega) (by omega) h5
  ·rcases h.new x (by omega) (by omega) (by omega)with h6 | h6
   ·exact h6
   ·exact absurd h6.2 Gb
end
def ug(L:ai):Nat:=L.countP (fun x=>decide (x<0))
theorem Xb{L:ai}{x c:Int}(h0:0<=x)(h1:x<L.length)(hx:gi L x<0)(hc:0<=c):ug (L.set x.toNat c)+1=ug L:=by
 obtain⟨k,rfl⟩:∃k:Nat,x=k:=⟨x.toNat,by omega⟩;have hk:k<L.length:=by omega
 rw [cd hk]at hx;simp only [ug,gI];rw [List.countP_set (h:=hk)];have:0<L.countP (fun x=>decide (x<0)):=List.countP_pos_iff.2 ⟨L[k],dH _,by simpa using hx⟩;simp [hx,show ¬c<0 by omega];omega
end
section
open Go.RowKit
theorem St.shrink{w0 w:aa}{ks:List Ck}{k:Ck}(h:St w0 w ks)(i:Nat)(hk:ks[i]?=some k)(m:Nat)(hm:m<=k.n)(hM:fw k.vs=false):St w0 w (ks.set i { k with n:=m,vs:=k.vs.take m }):=by
 have BQ:=(iQ.1 hk).1;refine⟨h.below,fun x hx=>?_,?_⟩
 ·obtain⟨j,hj,rfl⟩:=fV.1 hx;have ll:j<ks.length:=by simpa using hj
  rw [List.getElem_set]
  split
  ·obtain⟨h1,h2,h3,h4⟩:=h.sD hk hM;refine .s5 (UJ m hM) ⟨by simp;omega,by show m<=k.c;omega,h3,?_⟩;rcases h4 with h4 | ⟨g,o,cur,hA,hg,hh,hs,hc⟩
   ·exact .inl h4
   refine .inr ⟨g,o,cur,hA,hg,hh,hs,fun j hj=>?_⟩;have hj:j<m:=hj;show _=(k.vs.take m)[j]?;rw [hc j (by omega),tl,ay hj]
  exact h.own _ (dH _)
 rw [HW Ck.iX ks i k { k with n:=m,vs:=k.vs.take m } hk rfl];exact h.apart
theorem St.aiE{w0 w:aa}{ks:List Ck}{t:ae}{A:aj}{n c:Nat}{xs:ai}(h:St w0 w ks)(i:Nat)(hk:ks[i]?=some (az t A n c xs))(m:Nat)(hm:m<=n):St w0 w (ks.set i (az t A m c (xs.take m))):=by
 have:=h.shrink i hk m hm (tW _);simpa [az]using this
theorem ZS(op:ai)(h:0<op.length):∃o x,op=o++ [x]:=⟨op.dropLast,op.getLast (by intro e;simp [e]at h),(List.dropLast_concat_getLast _).symm⟩
theorem VP(A:aj)(n c:Nat)(rs:List aQ)(xss:ah)(N:Nat)(w:aa)(hR:bz w A n rs xss)(hn:n<=9223372036854775807)(hs:Sys N xss)(DI:tk N xss)(hN:N<=1048576):
 aN prog 157 [ak N,.slice A n c] w (fun v w'=>∃A',v= .tuple #[.slice A' N N,ak (bD N xss N).2]/\St w w' [az 2 A' N N (bD N xss N).1]):=by
 have b5:∀k:Int,0<=k->k<n->(rg rs k).n=N:=fun k sP hk=>by
  rw [<-hR.ny sP hk];exact(hs _ (rP sP (by rw [hR.len];exact hk))).1
 refine bI func157 O ntmps157 O (vZ O) (bc O (dV (St.refl w) O O O ?_));intro A1 w1 aE;refine ar O (aL (Hq A1 1 (-1) N w1 (aE.bF 0 O) hN) O ?_);rintro _ w2 ⟨A6,rfl,aD⟩;have aD:=(aE.call2 aD).tail;refine aI O (Cd.loop (α:=Nat) (fun i=> [(1,.slice A n c),(6,.slice A6 N N),(7,ak (bD N xss i).2),(17,ak N),(18,ak i)]) (fun i w'=>St w w' [az 2 A6 N N (bD N xss i).1]/\i<=N) (fun i=>N - i) 0 (alH O) ⟨aD,bm _⟩ ?_);rintro i e w3 ⟨aM,hi⟩;have pd:=Ag N xss i;refine b8 O (aR _ O (fun h1=>?_) (fun h1=>?_))
 ·refine aG O (aF (aM.bF 0 O).2 O (bh (aM.bF 0 O) O (aI O ?_)));refine aR _ O (fun h2=>?_) (fun h2=>?_)
  ·refine aG O (aJ O (aT O (tQ ?_)));exact⟨i+1,by omega,⟨O,O,by rw [Ah h2];rfl,O,O,av⟩,by rw [Ah h2];exact aM,by omega⟩
  refine aG O (aF (aM.bF 0 O).2 O (lu 0 aM O O O (by omega) ?_));intro w4 aU;refine ar O (dV aU O O O ?_);intro A9 w5 aV;refine aI O ?_;have aY:ug (bD N xss i).1<=N:=by
   have:=List.countP_le_length (p:=fun x:Int=>decide (x<0)) (l:=(bD N xss i).1);rw [rh]at this;exact this
  have hun1:=Xb (L:=(bD N xss i).1) (x:=i) (c:=(bD N xss i).2) (by omega) (by rw [rh];omega) (by omega) pd.1;refine Cd.loop (α:=ai×ai×aj×Nat) (fun q=> [(1,.slice A n c),(6,.slice A6 N N),(7,ak (bD N xss i).2),(9,.slice q.2.2.1 q.2.1.length q.2.2.2),(17,ak N),(18,ak i)]) (fun q w'=>St w w' [az 2 q.2.2.1 q.2.1.length q.2.2.2 q.2.1,az 2 A6 N N q.1]/\oN N xss i (bD N xss i).2 (bD N xss i).1 q.1 q.2.1 (-1) 0/\ug q.1+q.2.1.length<=N) (fun q=>ug q.1+q.2.1.length) ((bD N xss i).1.set (i:Int).toNat (bD N xss i).2,[(i:Int)],A9,1) (alH O) ⟨aV,oN.init (rh N xss i) (by omega) (by omega) (by omega) pd.1,by show ug ((bD N xss i).1.set (i:Int).toNat (bD N xss i).2)+1<=N;omega⟩ ?_;rintro⟨L,op,A9,c9⟩ e2 w6 ⟨aZ,hD,hu⟩;dsimp only at aZ hD hu|-;refine bc O (bk O O (aI O ?_));refine aR _ O (fun h3=>?_) (fun h3=>?_)
  ·obtain⟨o,x,rfl⟩:=ZS op (by omega);have I3:(o++ [x]).length=o.length+1:=by simp
   have hx:gi (o++ [x]) (((o++ [x]).length:Int) - 1)=x:=by
    rw [show(((o++ [x]).length:Nat):Int) - 1=((o.length:Nat):Int) by omega,cd (by omega)];simp
   have vS:=hD.yE x (by simp);refine aG O (bk O O (dT O ?_));refine aF (aZ.bF 0 O).2 O (bh (aZ.bF 0 O) O ?_);rw [hx];refine ar O (bk O O (dT O ?_));refine Kj O O O (by have:=(aZ.cap 0 O).1;dsimp only at this;omega) ?_;have a6:=aZ.aiE 0 O o.length (by omega);rw [List.take_left]at a6;rw [show(((o++ [x]).length:Nat):Int) - 1=((o.length:Nat):Int) by omega,gI];refine ar O (bk O O (aI O ?_));refine Cd.loop (α:=Nat×ai×ai×aj×Nat) (fun q=> [(1,.slice A n c),(6,.slice A6 N N),(7,ak (bD N xss i).2),(9,.slice q.2.2.2.1 q.2.2.1.length q.2.2.2.2),(10,ak x),(17,ak N),(18,ak i),(46,.slice A n c),(47,ak n),(48,ak (q.1:Int))]) (fun q w'=>St w w' [az 2 q.2.2.2.1 q.2.2.1.length q.2.2.2.2 q.2.2.1,az 2 A6 N N q.2.1]/\oN N xss i (bD N xss i).2 (bD N xss i).1 q.2.1 q.2.2.1 x q.1/\q.1<=n/\gi q.2.1 x=(bD N xss i).2/\ug q.2.1+q.2.2.1.length=ug L+o.length) (fun q=>n - q.1) (0,L,o,A9,c9) (alH O) ⟨a6,hD.aho,bm _,vS.2.2.2,O⟩ ?_;rintro⟨k,L',o',A',c'⟩ e3 w8 ⟨bL,Dp,hk,Jk,Up⟩;dsimp only at bL Dp hk Jk Up|-;refine b8 O (aR _ O (fun h4=>?_) (fun h4=>?_))
   ·have hM:=bL.bS hR;have cJ:=hM.at_ (i:=k) (by omega) h4;have jG:=b5 k (by omega) h4;have kV:gl xss k∈xss:=rP (by omega) (by rw [hR.len];exact h4);have hy:=(hs _ kV).2 x vS.1 vS.2.1;refine aG O (alp hM.top.2 O O O (by omega) h4 (b6 hM.top O (ar O (aF cJ.2 O (bh cJ O (ar O (aF (bL.bF 1 O).2 O (bh (bL.bF 1 O) O (aI O ?_)))))))));refine aR _ O (fun h5=>?_) (fun h5=>?_)
    ·refine aG O (aF (bL.bF 1 O).2 O (lu 1 bL O O O (by omega) ?_));intro w9 a7;refine ar O (dV a7 O O O ?_);intro bT dQ bO;refine fp 1 bO O (bO.bF 0 O) O O O fun dL gn eI dB=>ar O (aJ O (aT O (tQ ?_)));have hu9:=Xb (L:=L') (x:=gi (gl xss k) x) (c:=(bD N xss i).2) hy.1 (by rw [Dp.len];exact hy.2) h5 pd.1;refine⟨(k+1,L'.set (gi (gl xss k) x).toNat (bD N xss i).2,o'++ [gi (gl xss k) x],dL,gn),by show n - (k+1)<n - k;omega,⟨O,O,O,by rw [dI];rfl,O,O,O,O,O,O,av⟩,?_,Dp.push hs (by omega) (by rw [hR.len];omega) vS.1 vS.2.1 vS.2.2.1 Jk pd.1 h5,by show k+1<=n;omega,?_,?_⟩
     ·have tz:=dB.tail;simp only [dI,List.length_singleton];exact tz
     ·show gi (L'.set _ _) x=_;rw [qK hy.1 (by rw [Dp.len];exact hy.2) vS.1]
      split
      ·rfl
      exact Jk
     show ug (L'.set _ _)+ (o'++ [_]).length=_;simp only [dI,List.length_singleton];omega
    refine aG O (aJ O (aT O (tQ ?_)));exact⟨(k+1,L',o',A',c'),by show n - (k+1)<n - k;omega,(alH O),bL,Dp.skip (by rw [hR.len];omega) (by omega),by show k+1<=n;omega,Jk,Up⟩
   refine bw O (bA (EE O (tQ ?_)));have eM:k=xss.length:=by rw [hR.len];omega
   subst eM;exact⟨(L',o',A',c'),by show ug L'+o'.length<ug L+ (o++ [x]).length;omega,(alH O),bL,Dp.rest,by show ug L'+o'.length<=N;omega⟩
  have sQ:op=[]:=uq (by omega);subst sQ;have hL:=hD.done hs DI (by omega) h2;refine bw O (bA (dh O (aJ O (ar O (aJ O (aT O (tQ ?_)))))));refine⟨i+1,by omega,⟨O,O,by rw [yw h2];rfl,O,O,av⟩,?_,by omega⟩;rw [<-hL];exact aZ.tail
 refine bw O (bA (ij O ?_));refine GW O O ?_;have:i=N:=by omega
 subst this;exact⟨A6,O,aM⟩
def Comm(xss:ah)(i k f:Nat):Prop:=gi (gl xss k) (gi (gl xss i) f)=gi (gl xss i) (gi (gl xss k) f)/\gi (gl xss i) f≠gi (gl xss k) f
instance (xss:ah)(i k f:Nat):Decidable (Comm xss i k f):=by unfold Comm;exact inferInstance
def vg(xss:ah):Prop:=∀p∈xss,p.length=(gl xss 0).length/\lk p/\pz p
instance (xss:ah):Decidable (vg xss):=by unfold vg;exact inferInstance
def bg(xss:ah):Prop:=(1<=xss.length/\xss.length<=5)/\(2<=(gl xss 0).length/\(gl xss 0).length<=400)/\vg xss/\(∀i,i<xss.length->∀k,k<xss.length->i+2<=k->∀f,f< (gl xss 0).length->Comm xss i k f)/\(dw (gl xss 0).length xss 0).length=(gl xss 0).length
instance (xss:ah):Decidable (bg xss):=by unfold bg;exact inferInstance
theorem lk.inj{p:ai}(h:lk p){x y:Int}(hx:0<=x)(eE:x<p.length)(hy:0<=y)(kX:y<p.length)(e:gi p x=gi p y):x=y:=by
 obtain⟨a,rfl⟩:∃a:Nat,x=a:=⟨x.toNat,by omega⟩;obtain⟨b,rfl⟩:∃b:Nat,y=b:=⟨y.toNat,by omega⟩;rw [cd (by omega),cd (by omega)]at e;have:=(List.getElem_inj (h₀:=by omega) (h₁:=by omega) h.2.2).1 e;omega
theorem vg.sys{xss:ah}(h:vg xss):Sys (gl xss 0).length xss:=fun p hp=>by
 have h1:=h p hp;refine⟨h1.1,fun x h0 hx=>?_⟩;have:=h1.2.1.range (i:=x) h0 (by omega);omega
theorem vg.inj{xss:ah}(h:vg xss):tk (gl xss 0).length xss:=fun p hp x y hx eE hy kX e=>by
 have h1:=h p hp;exact h1.2.1.inj hx (by omega) hy (by omega) e
def Part(xss:ah)(k:Nat):Prop:=∀p∈xss.take k,p.length=(gl xss 0).length/\lk p/\pz p
theorem Part.step{xss:ah}{k:Nat}(h:Part xss k)(hk:k<xss.length)(h1:(gl xss k).length=(gl xss 0).length)(h2:lk (gl xss k))(h3:pz (gl xss k)):Part xss (k+1):=by
 intro p hp;rw [OZ hk,iR]at hp;rcases hp with hp | hp
 ·exact h p hp
 simp at hp;subst hp;exact⟨h1,h2,h3⟩
theorem Part.all{xss:ah}{k:Nat}(h:Part xss k)(hk:xss.length<=k):vg xss:=by
 intro p hp;refine h p ?_;rw [lp hk];exact hp
theorem vg.at_{xss:ah}(h:vg xss){k:Nat}(hk:k<xss.length):(gl xss k).length=(gl xss 0).length/\lk (gl xss k)/\pz (gl xss k):=h _ (by rw [cK hk];exact dH _)
theorem NM(A:aj)(n c:Nat)(rs:List aQ)(xss:ah)(w:aa)(hR:bz w A n rs xss)(hn:n<=9223372036854775807):
 aN prog 110 [.agg #[.slice A n c]] w (fun v w'=>v= .bool (decide (bg xss))/\St w w' []):=by
 have dG:=hR.len;have r0:0<n->(gl xss 0).length=(rg rs 0).n:=fun h=>hR.ny (by omega) (by omega)
 refine bI func110 O ntmps110 O (du O) (bc O (ik (St.refl w) O O ?_));intro Ab w1 hS;refine ar O (aW (hS.rd 0 O) O (a8 (hS.rd 0 O) O ?_));refine bk O O (ar O ?_);refine cT 13 O (fun h1=>?_) (fun h1=>?_)
 ·refine aA O (aA O (ar O (aA O (aA O (aA O (aA O (aA O (aA O (ar O (aA O (aA O ?_)))))))))));refine aA O (aA O (aA O (aA O (aI O ?_))));refine Cd.im O (eF O (dz O ?_));exact⟨by rw [dk (fun h:bg xss=>by have:=h.1.1;omega)],hS.none⟩
 refine au O (ar O (au O (ar O ?_)));refine cT 17 O (fun h2=>?_) (fun h2=>?_)
 ·refine aA O (aA O (aA O (aA O (aA O (aA O (ar O (aA O (aA O (aA O (aA O (aA O ?_)))))))))));refine aA O (aI O ?_);refine Cd.im O (eF O (dz O ?_));exact⟨by rw [dk (fun h:bg xss=>by have:=h.1.2;omega)],hS.none⟩
 have hM:=hS.bS hR;have r0:=r0 (by omega);refine au O (aW (hS.rd 0 O) O (au O (a8 (hS.rd 0 O) O (au O (aF hM.top.2 O (au O (b6 hM.top O ?_)))))));refine au O (bk O O (au O (ar O ?_)));refine cT 25 O (fun h3=>?_) (fun h3=>?_)
 ·refine aA O (aA O (aA O (aA O (aA O (aA O (aI O ?_))))));refine Cd.im O (eF O (dz O ?_));exact⟨by rw [dk (fun h:bg xss=>by have:=h.2.1.1;omega)],hS.none⟩
 refine au O (aW (hS.rd 0 O) O (au O (a8 (hS.rd 0 O) O (au O (aF hM.top.2 O (au O (b6 hM.top O ?_)))))));refine au O (bk O O (au O (aI O ?_)));refine aR _ O (fun h4=>?_) (fun h4=>?_)
 ·refine eF O (dz O ?_);exact⟨by rw [dk (fun h:bg xss=>by have:=h.2.1.2;omega)],hS.none⟩
 refine cM O ?_;refine Cd.loop (α:=Nat) (fun k=> [(1,.pointer Ab),(3,ak n),(4,ak k)]) (fun k w'=>St w w' [Bx 24 1 Ab [.slice A n c]]/\k<=n/\Part xss k) (fun k=>n - k) 0 (alH O) ⟨hS,bm _,fun p hp=>by simp at hp⟩ ?_;rintro k e w2 ⟨aD,hk,hP⟩;have hM:=aD.bS hR;have hB:=aD.rd 0 O;refine b8 O (aR _ O (fun h5=>?_) (fun h5=>?_))
 ·have pP:k<xss.length:=by omega
  have rk:=hR.ny (k:=(k:Int)) (by omega) (by omega);have cJ:=hM.at_ (i:=k) (by omega) h5;refine cM O ?_
  by_cases h6:((rg rs k).n:Int)=(rg rs 0).n
  ·by_cases h7:lk (gl xss k)
   ·by_cases h8:pz (gl xss k)
    ·
     refine eB [xP (aB (Ab) 0),xS (A) (n) (c),xI ((k:Int)),xP (aB (A) ((k:Int)).toNat),xS ((rg (rs) ((k:Int))).a) ((rg (rs) ((k:Int))).n) ((rg (rs) ((k:Int))).c),xI ((((rg (rs) ((k:Int))).n:Nat):Int)),xP (aB (Ab) 0),xS (A) (n) (c),xP (aB (A) ((0:Int)).toNat),xS ((rg (rs) ((0:Int))).a) ((rg (rs) ((0:Int))).n) ((rg (rs) ((0:Int))).c),xI ((((rg (rs) ((0:Int))).n:Nat):Int)),xB (false),xB (false),xP (aB (Ab) 0),xS (A) (n) (c),xI ((k:Int)),xP (aB (A) ((k:Int)).toNat),xS ((rg (rs) ((k:Int))).a) ((rg (rs) ((k:Int))).n) ((rg (rs) ((k:Int))).c),xB (decide (lk (gl xss k))),xB (false),xB (false),xB (false),xP (aB (Ab) 0),xS (A) (n) (c),xI ((k:Int)),xP (aB (A) ((k:Int)).toNat),xS ((rg (rs) ((k:Int))).a) ((rg (rs) ((k:Int))).n) ((rg (rs) ((k:Int))).c),xB (decide (pz (gl xss k))),xB (false),xB (false)] O (eQ O) ?_ ?_
     ·refine⟨fun _ _ hb _ _=>aW (hB.below hb) O Az,fun _ _ hb _ _=>a8 (hB.below hb) O Az,Dr O,fun _ _ hb _ _=>aF (hM.top.aq hb).2 O Az,fun _ _ hb _ _=>b6 (hM.top.aq hb) O Az,fun _ _ _ _ _=>bk O O Az,fun _ _ hb _ _=>aW (hB.below hb) O Az,fun _ _ hb _ _=>a8 (hB.below hb) O Az,fun _ _ hb _ _=>aF (hM.top.aq hb).2 O Az,fun _ _ hb _ _=>b6 (hM.top.aq hb) O Az,fun _ _ _ _ _=>bk O O Az,fun _ _ _ _ _=>Dk O (by exact aK Value.bool (dk (by omega))),Dr O,fun _ _ hb _ _=>au O (aW (hB.below hb) O Az),fun _ _ hb _ _=>au O (a8 (hB.below hb) O Az),Dr O,fun _ _ hb _ _=>au O (aF (hM.top.aq hb).2 O Az),fun _ _ hb _ _=>au O (b6 (hM.top.aq hb) O Az),?_,fun _ _ _ _ _=>au O (eZ O O (Az (by exact aK Value.bool (dk (fun h=>h h7))))),Dr O,Dr O,fun _ _ hb _ _=>au O (aW (hB.below hb) O Az),fun _ _ hb _ _=>au O (a8 (hB.below hb) O Az),Dr O,fun _ _ hb _ _=>au O (aF (hM.top.aq hb).2 O Az),fun _ _ hb _ _=>au O (b6 (hM.top.aq hb) O Az),?_,fun _ _ _ _ _=>au O (eZ O O (Az (by exact aK Value.bool (dk (fun h=>h h8))))),Dr O,av⟩
      ·intro e1 w1 hb hp aY;refine au O (aL (NL _ _ _ _ _ (cJ.aq hb)) O ?_);rintro _ w2 ⟨rfl,ax⟩;refine ao.n ?_;exact iB.dn ax.below (by exact O)
      intro e1 w1 hb hp aY;refine au O (aL (UZ _ _ _ _ _ (cJ.aq hb) h7) O ?_);rintro _ w2 ⟨rfl,ax⟩;subst ax;refine ao.n (d0 (by exact O))
     intro u w3 ib _;have aM:=aD.aq ib;refine fh O (Cd.gq O ?_);refine aG O (aJ O (aT O (tQ ?_)));exact⟨k+1,by omega,(alH O),aM,by omega,hP.step pP (by omega) h7 h8⟩
    refine eB [xP (aB (Ab) 0),xS (A) (n) (c),xI ((k:Int)),xP (aB (A) ((k:Int)).toNat),xS ((rg (rs) ((k:Int))).a) ((rg (rs) ((k:Int))).n) ((rg (rs) ((k:Int))).c),xI ((((rg (rs) ((k:Int))).n:Nat):Int)),xP (aB (Ab) 0),xS (A) (n) (c),xP (aB (A) ((0:Int)).toNat),xS ((rg (rs) ((0:Int))).a) ((rg (rs) ((0:Int))).n) ((rg (rs) ((0:Int))).c),xI ((((rg (rs) ((0:Int))).n:Nat):Int)),xB (false),xB (false),xP (aB (Ab) 0),xS (A) (n) (c),xI ((k:Int)),xP (aB (A) ((k:Int)).toNat),xS ((rg (rs) ((k:Int))).a) ((rg (rs) ((k:Int))).n) ((rg (rs) ((k:Int))).c),xB (decide (lk (gl xss k))),xB (false),xB (false),xB (false),xP (aB (Ab) 0),xS (A) (n) (c),xI ((k:Int)),xP (aB (A) ((k:Int)).toNat),xS ((rg (rs) ((k:Int))).a) ((rg (rs) ((k:Int))).n) ((rg (rs) ((k:Int))).c),xB (decide (pz (gl xss k))),xB (true),xB (true)] O (eQ O) ?_ ?_
    ·refine⟨fun _ _ hb _ _=>aW (hB.below hb) O Az,fun _ _ hb _ _=>a8 (hB.below hb) O Az,Dr O,fun _ _ hb _ _=>aF (hM.top.aq hb).2 O Az,fun _ _ hb _ _=>b6 (hM.top.aq hb) O Az,fun _ _ _ _ _=>bk O O Az,fun _ _ hb _ _=>aW (hB.below hb) O Az,fun _ _ hb _ _=>a8 (hB.below hb) O Az,fun _ _ hb _ _=>aF (hM.top.aq hb).2 O Az,fun _ _ hb _ _=>b6 (hM.top.aq hb) O Az,fun _ _ _ _ _=>bk O O Az,fun _ _ _ _ _=>Dk O (by exact aK Value.bool (dk (by omega))),Dr O,fun _ _ hb _ _=>au O (aW (hB.below hb) O Az),fun _ _ hb _ _=>au O (a8 (hB.below hb) O Az),Dr O,fun _ _ hb _ _=>au O (aF (hM.top.aq hb).2 O Az),fun _ _ hb _ _=>au O (b6 (hM.top.aq hb) O Az),?_,fun _ _ _ _ _=>au O (eZ O O (Az (by exact aK Value.bool (dk (fun h=>h h7))))),Dr O,Dr O,fun _ _ hb _ _=>au O (aW (hB.below hb) O Az),fun _ _ hb _ _=>au O (a8 (hB.below hb) O Az),Dr O,fun _ _ hb _ _=>au O (aF (hM.top.aq hb).2 O Az),fun _ _ hb _ _=>au O (b6 (hM.top.aq hb) O Az),?_,fun _ _ _ _ _=>au O (eZ O O (Az (by exact aK Value.bool (eP h8)))),Dr O,av⟩
     ·intro e1 w1 hb hp aY;refine au O (aL (NL _ _ _ _ _ (cJ.aq hb)) O ?_);rintro _ w2 ⟨rfl,ax⟩;refine ao.n ?_;exact iB.dn ax.below (by exact O)
     intro e1 w1 hb hp aY;refine au O (aL (UZ _ _ _ _ _ (cJ.aq hb) h7) O ?_);rintro _ w2 ⟨rfl,ax⟩;subst ax;refine ao.n (d0 (by exact O))
    intro u w3 ib _;have aM:=aD.aq ib;refine fh O (Cd.im O ?_);refine eF O (fD (e6 ?_));refine dz O ?_;exact⟨by rw [dk (fun h:bg xss=>h8 (h.2.2.1.at_ pP).2.2)],aM.none⟩
   refine eB [xP (aB (Ab) 0),xS (A) (n) (c),xI ((k:Int)),xP (aB (A) ((k:Int)).toNat),xS ((rg (rs) ((k:Int))).a) ((rg (rs) ((k:Int))).n) ((rg (rs) ((k:Int))).c),xI ((((rg (rs) ((k:Int))).n:Nat):Int)),xP (aB (Ab) 0),xS (A) (n) (c),xP (aB (A) ((0:Int)).toNat),xS ((rg (rs) ((0:Int))).a) ((rg (rs) ((0:Int))).n) ((rg (rs) ((0:Int))).c),xI ((((rg (rs) ((0:Int))).n:Nat):Int)),xB (false),xB (false),xP (aB (Ab) 0),xS (A) (n) (c),xI ((k:Int)),xP (aB (A) ((k:Int)).toNat),xS ((rg (rs) ((k:Int))).a) ((rg (rs) ((k:Int))).n) ((rg (rs) ((k:Int))).c),xB (decide (lk (gl xss k))),xB (true),xB (true),xB (true),xU,xU,xU,xU,xU,xU,xU,xB (true)] O (eQ O) ?_ ?_
   ·refine⟨fun _ _ hb _ _=>aW (hB.below hb) O Az,fun _ _ hb _ _=>a8 (hB.below hb) O Az,Dr O,fun _ _ hb _ _=>aF (hM.top.aq hb).2 O Az,fun _ _ hb _ _=>b6 (hM.top.aq hb) O Az,fun _ _ _ _ _=>bk O O Az,fun _ _ hb _ _=>aW (hB.below hb) O Az,fun _ _ hb _ _=>a8 (hB.below hb) O Az,fun _ _ hb _ _=>aF (hM.top.aq hb).2 O Az,fun _ _ hb _ _=>b6 (hM.top.aq hb) O Az,fun _ _ _ _ _=>bk O O Az,fun _ _ _ _ _=>Dk O (by exact aK Value.bool (dk (by omega))),Dr O,fun _ _ hb _ _=>au O (aW (hB.below hb) O Az),fun _ _ hb _ _=>au O (a8 (hB.below hb) O Az),Dr O,fun _ _ hb _ _=>au O (aF (hM.top.aq hb).2 O Az),fun _ _ hb _ _=>au O (b6 (hM.top.aq hb) O Az),?_,fun _ _ _ _ _=>au O (eZ O O (Az (by exact aK Value.bool (eP h7)))),Dr O,Dr O,Dr O,Dr O,Dr O,Dr O,Dr O,Dr O,Dr O,Dr O,av⟩;intro e1 w1 hb hp aY;refine au O (aL (NL _ _ _ _ _ (cJ.aq hb)) O ?_);rintro _ w2 ⟨rfl,ax⟩;refine ao.n ?_;exact iB.dn ax.below (by exact O)
   intro u w3 ib _;have aM:=aD.aq ib;refine fh O (Cd.im O ?_);refine eF O (fD (e6 ?_));refine dz O ?_;exact⟨by rw [dk (fun h:bg xss=>h7 (h.2.2.1.at_ pP).2.1)],aM.none⟩
  refine eB [xP (aB (Ab) 0),xS (A) (n) (c),xI ((k:Int)),xP (aB (A) ((k:Int)).toNat),xS ((rg (rs) ((k:Int))).a) ((rg (rs) ((k:Int))).n) ((rg (rs) ((k:Int))).c),xI ((((rg (rs) ((k:Int))).n:Nat):Int)),xP (aB (Ab) 0),xS (A) (n) (c),xP (aB (A) ((0:Int)).toNat),xS ((rg (rs) ((0:Int))).a) ((rg (rs) ((0:Int))).n) ((rg (rs) ((0:Int))).c),xI ((((rg (rs) ((0:Int))).n:Nat):Int)),xB (true),xB (true),xU,xU,xU,xU,xU,xU,xU,xB (true),xB (true),xU,xU,xU,xU,xU,xU,xU,xB (true)] O (eQ O) ?_ ?_
  ·exact⟨fun _ _ hb _ _=>aW (hB.below hb) O Az,fun _ _ hb _ _=>a8 (hB.below hb) O Az,Dr O,fun _ _ hb _ _=>aF (hM.top.aq hb).2 O Az,fun _ _ hb _ _=>b6 (hM.top.aq hb) O Az,fun _ _ _ _ _=>bk O O Az,fun _ _ hb _ _=>aW (hB.below hb) O Az,fun _ _ hb _ _=>a8 (hB.below hb) O Az,fun _ _ hb _ _=>aF (hM.top.aq hb).2 O Az,fun _ _ hb _ _=>b6 (hM.top.aq hb) O Az,fun _ _ _ _ _=>bk O O Az,fun _ _ _ _ _=>Dk O (by exact aK Value.bool (eP h6)),Dr O,Dr O,Dr O,Dr O,Dr O,Dr O,Dr O,Dr O,Dr O,Dr O,Dr O,Dr O,Dr O,Dr O,Dr O,Dr O,Dr O,Dr O,av⟩
  intro u w3 ib _;have aM:=aD.aq ib;refine fh O (Cd.im O ?_);refine eF O (fD (e6 ?_));refine dz O ?_;exact⟨by rw [dk (fun h:bg xss=>by have:=(h.2.2.1.at_ pP).1;omega)],aM.none⟩
 have kG:=hP.all (by omega);have hs:=kG.sys;have jG:∀i:Int,0<=i->i<n->(rg rs i).n=(rg rs 0).n:=fun i h0 h1=>by
  have e1:=hR.ny h0 h1;have e2:=(kG _ (rP h0 (by omega))).1;omega
 refine bw O (bA (oO O ?_));refine Cd.loop (α:=Nat) (fun i=> [(1,.pointer Ab),(3,ak n),(5,ak i)]) (fun i w'=>St w w' [Bx 24 1 Ab [.slice A n c]]/\i<=n/\∀i',i'<i->∀k,k<n->i'+2<=k->∀f,f< (gl xss 0).length->Comm xss i' k f) (fun i=>n - i) 0 (alH O) ⟨aD,bm _,fun i' dt=>by omega⟩ ?_;rintro i e w3 ⟨aM,hi,hC⟩;refine b8 O (aR _ O (fun h6=>?_) (fun h6=>?_))
 ·refine aG O (aJ O (aI O ?_));refine Cd.loop (α:=Nat) (fun k=> [(1,.pointer Ab),(3,ak n),(5,ak i),(6,ak k)]) (fun k w'=>St w w' [Bx 24 1 Ab [.slice A n c]]/\i+2<=k/\∀k',k'<k->k'<n->i+2<=k'->∀f,f< (gl xss 0).length->Comm xss i k' f) (fun k=>n+1 - k) (i+2) (alH O) ⟨aM,bB _,fun k' _ _ _=>by omega⟩ ?_;rintro k e w4 ⟨aU,mJ,Fu⟩;refine b8 O (aR _ O (fun h7=>?_) (fun h7=>?_))
  ·have rki:=jG i (by omega) h6;have rkk:=jG k (by omega) h7;refine cM O ?_;refine Cd.loop (α:=Nat) (fun f=> [(1,.pointer Ab),(3,ak n),(5,ak i),(6,ak k),(7,ak f)]) (fun f w'=>St w w' [Bx 24 1 Ab [.slice A n c]]/\f<=(gl xss 0).length/\∀f',f'<f->Comm xss i k f') (fun f=> (gl xss 0).length - f) 0 (alH O) ⟨aU,bm _,fun f' kS=>by omega⟩ ?_;rintro f e w5 ⟨aV,hf,Fv⟩;have hM:=aV.bS hR;have hB:=aV.rd 0 O;have fR:=hM.at_ (i:=i) (by omega) h6;have jS:=hM.at_ (i:=k) (by omega) h7;refine bc O (aW (aV.rd 0 O) O (a8 (aV.rd 0 O) O (aF hM.top.2 O (b6 hM.top O ?_))));refine bk O O (aI O ?_);refine aR _ O (fun h8=>?_) (fun h8=>?_)
   ·have hii:=(hs _ (rP (k:=(i:Int)) (by omega) (by omega))).2 (f:Int) (by omega) (by omega);have dY:=(hs _ (rP (k:=(k:Int)) (by omega) (by omega))).2 (f:Int) (by omega) (by omega);refine cM O ?_
    by_cases h9:gi (gl xss k) (gi (gl xss i) f)=gi (gl xss i) (gi (gl xss k) f)
    ·by_cases gZ:gi (gl xss i) f=gi (gl xss k) f
     ·
      refine eB [xP (aB (Ab) 0),xS (A) (n) (c),xI ((k:Int)),xP (aB (A) ((k:Int)).toNat),xS ((rg (rs) ((k:Int))).a) ((rg (rs) ((k:Int))).n) ((rg (rs) ((k:Int))).c),xP (aB (Ab) 0),xS (A) (n) (c),xI ((i:Int)),xP (aB (A) ((i:Int)).toNat),xS ((rg (rs) ((i:Int))).a) ((rg (rs) ((i:Int))).n) ((rg (rs) ((i:Int))).c),xI ((f:Int)),xP (aB ((rg (rs) ((i:Int))).a) ((f:Int)).toNat),xI (gi (gl xss i) ((f:Int))),xP (aB ((rg (rs) ((k:Int))).a) (gi (gl xss i) ((f:Int))).toNat),xI (gi (gl xss k) (gi (gl xss i) ((f:Int)))),xP (aB (Ab) 0),xS (A) (n) (c),xI ((i:Int)),xP (aB (A) ((i:Int)).toNat),xS ((rg (rs) ((i:Int))).a) ((rg (rs) ((i:Int))).n) ((rg (rs) ((i:Int))).c),xP (aB (Ab) 0),xS (A) (n) (c),xI ((k:Int)),xP (aB (A) ((k:Int)).toNat),xS ((rg (rs) ((k:Int))).a) ((rg (rs) ((k:Int))).n) ((rg (rs) ((k:Int))).c),xI ((f:Int)),xP (aB ((rg (rs) ((k:Int))).a) ((f:Int)).toNat),xI (gi (gl xss k) ((f:Int))),xP (aB ((rg (rs) ((i:Int))).a) (gi (gl xss k) ((f:Int))).toNat),xI (gi (gl xss i) (gi (gl xss k) ((f:Int)))),xB (false),xB (false),xP (aB (Ab) 0),xS (A) (n) (c),xI ((i:Int)),xP (aB (A) ((i:Int)).toNat),xS ((rg (rs) ((i:Int))).a) ((rg (rs) ((i:Int))).n) ((rg (rs) ((i:Int))).c),xI ((f:Int)),xP (aB ((rg (rs) ((i:Int))).a) ((f:Int)).toNat),xI (gi (gl xss i) ((f:Int))),xP (aB (Ab) 0),xS (A) (n) (c),xI ((k:Int)),xP (aB (A) ((k:Int)).toNat),xS ((rg (rs) ((k:Int))).a) ((rg (rs) ((k:Int))).n) ((rg (rs) ((k:Int))).c),xI ((f:Int)),xP (aB ((rg (rs) ((k:Int))).a) ((f:Int)).toNat),xI (gi (gl xss k) ((f:Int))),xB (true),xB (true)] O (eQ O) ?_ ?_
      ·exact⟨fun _ _ hb _ _=>aW (hB.below hb) O Az,fun _ _ hb _ _=>a8 (hB.below hb) O Az,Dr O,fun _ _ hb _ _=>aF (hM.top.aq hb).2 O Az,fun _ _ hb _ _=>b6 (hM.top.aq hb) O Az,fun _ _ hb _ _=>aW (hB.below hb) O Az,fun _ _ hb _ _=>a8 (hB.below hb) O Az,Dr O,fun _ _ hb _ _=>aF (hM.top.aq hb).2 O Az,fun _ _ hb _ _=>b6 (hM.top.aq hb) O Az,Dr O,fun _ _ hb _ _=>aF (fR.aq hb).2 O Az,fun _ _ hb _ _=>bh (fR.aq hb) O Az,fun _ _ hb _ _=>aF (jS.aq hb).2 O Az,fun _ _ hb _ _=>bh (jS.aq hb) O Az,fun _ _ hb _ _=>aW (hB.below hb) O Az,fun _ _ hb _ _=>a8 (hB.below hb) O Az,Dr O,fun _ _ hb _ _=>aF (hM.top.aq hb).2 O Az,fun _ _ hb _ _=>b6 (hM.top.aq hb) O Az,fun _ _ hb _ _=>aW (hB.below hb) O Az,fun _ _ hb _ _=>a8 (hB.below hb) O Az,Dr O,fun _ _ hb _ _=>aF (hM.top.aq hb).2 O Az,fun _ _ hb _ _=>b6 (hM.top.aq hb) O Az,Dr O,fun _ _ hb _ _=>aF (jS.aq hb).2 O Az,fun _ _ hb _ _=>bh (jS.aq hb) O Az,fun _ _ hb _ _=>aF (fR.aq hb).2 O Az,fun _ _ hb _ _=>bh (fR.aq hb) O Az,fun _ _ _ _ _=>Dk O (by exact aK Value.bool (dk (fun h=>h h9))),Dr O,fun _ _ hb _ _=>au O (aW (hB.below hb) O Az),fun _ _ hb _ _=>au O (a8 (hB.below hb) O Az),Dr O,fun _ _ hb _ _=>au O (aF (hM.top.aq hb).2 O Az),fun _ _ hb _ _=>au O (b6 (hM.top.aq hb) O Az),Dr O,fun _ _ hb _ _=>au O (aF (fR.aq hb).2 O Az),fun _ _ hb _ _=>au O (bh (fR.aq hb) O Az),fun _ _ hb _ _=>au O (aW (hB.below hb) O Az),fun _ _ hb _ _=>au O (a8 (hB.below hb) O Az),Dr O,fun _ _ hb _ _=>au O (aF (hM.top.aq hb).2 O Az),fun _ _ hb _ _=>au O (b6 (hM.top.aq hb) O Az),Dr O,fun _ _ hb _ _=>au O (aF (jS.aq hb).2 O Az),fun _ _ hb _ _=>au O (bh (jS.aq hb) O Az),fun _ _ _ _ _=>Dk O (by exact aK Value.bool (eP gZ)),Dr O,av⟩
      intro u w6 pa _;have aZ:=aV.aq pa;refine fh O (Cd.im O ?_);refine eF O (fD (e6 (fD (e6 (fD (e6 ?_))))));refine dz O ?_;exact⟨by rw [dk (fun h:bg xss=> (h.2.2.2.1 i (by omega) k (by omega) mJ f (by omega)).2 gZ)],aZ.none⟩
     refine eB [xP (aB (Ab) 0),xS (A) (n) (c),xI ((k:Int)),xP (aB (A) ((k:Int)).toNat),xS ((rg (rs) ((k:Int))).a) ((rg (rs) ((k:Int))).n) ((rg (rs) ((k:Int))).c),xP (aB (Ab) 0),xS (A) (n) (c),xI ((i:Int)),xP (aB (A) ((i:Int)).toNat),xS ((rg (rs) ((i:Int))).a) ((rg (rs) ((i:Int))).n) ((rg (rs) ((i:Int))).c),xI ((f:Int)),xP (aB ((rg (rs) ((i:Int))).a) ((f:Int)).toNat),xI (gi (gl xss i) ((f:Int))),xP (aB ((rg (rs) ((k:Int))).a) (gi (gl xss i) ((f:Int))).toNat),xI (gi (gl xss k) (gi (gl xss i) ((f:Int)))),xP (aB (Ab) 0),xS (A) (n) (c),xI ((i:Int)),xP (aB (A) ((i:Int)).toNat),xS ((rg (rs) ((i:Int))).a) ((rg (rs) ((i:Int))).n) ((rg (rs) ((i:Int))).c),xP (aB (Ab) 0),xS (A) (n) (c),xI ((k:Int)),xP (aB (A) ((k:Int)).toNat),xS ((rg (rs) ((k:Int))).a) ((rg (rs) ((k:Int))).n) ((rg (rs) ((k:Int))).c),xI ((f:Int)),xP (aB ((rg (rs) ((k:Int))).a) ((f:Int)).toNat),xI (gi (gl xss k) ((f:Int))),xP (aB ((rg (rs) ((i:Int))).a) (gi (gl xss k) ((f:Int))).toNat),xI (gi (gl xss i) (gi (gl xss k) ((f:Int)))),xB (false),xB (false),xP (aB (Ab) 0),xS (A) (n) (c),xI ((i:Int)),xP (aB (A) ((i:Int)).toNat),xS ((rg (rs) ((i:Int))).a) ((rg (rs) ((i:Int))).n) ((rg (rs) ((i:Int))).c),xI ((f:Int)),xP (aB ((rg (rs) ((i:Int))).a) ((f:Int)).toNat),xI (gi (gl xss i) ((f:Int))),xP (aB (Ab) 0),xS (A) (n) (c),xI ((k:Int)),xP (aB (A) ((k:Int)).toNat),xS ((rg (rs) ((k:Int))).a) ((rg (rs) ((k:Int))).n) ((rg (rs) ((k:Int))).c),xI ((f:Int)),xP (aB ((rg (rs) ((k:Int))).a) ((f:Int)).toNat),xI (gi (gl xss k) ((f:Int))),xB (false),xB (false)] O (eQ O) ?_ ?_
     ·exact⟨fun _ _ hb _ _=>aW (hB.below hb) O Az,fun _ _ hb _ _=>a8 (hB.below hb) O Az,Dr O,fun _ _ hb _ _=>aF (hM.top.aq hb).2 O Az,fun _ _ hb _ _=>b6 (hM.top.aq hb) O Az,fun _ _ hb _ _=>aW (hB.below hb) O Az,fun _ _ hb _ _=>a8 (hB.below hb) O Az,Dr O,fun _ _ hb _ _=>aF (hM.top.aq hb).2 O Az,fun _ _ hb _ _=>b6 (hM.top.aq hb) O Az,Dr O,fun _ _ hb _ _=>aF (fR.aq hb).2 O Az,fun _ _ hb _ _=>bh (fR.aq hb) O Az,fun _ _ hb _ _=>aF (jS.aq hb).2 O Az,fun _ _ hb _ _=>bh (jS.aq hb) O Az,fun _ _ hb _ _=>aW (hB.below hb) O Az,fun _ _ hb _ _=>a8 (hB.below hb) O Az,Dr O,fun _ _ hb _ _=>aF (hM.top.aq hb).2 O Az,fun _ _ hb _ _=>b6 (hM.top.aq hb) O Az,fun _ _ hb _ _=>aW (hB.below hb) O Az,fun _ _ hb _ _=>a8 (hB.below hb) O Az,Dr O,fun _ _ hb _ _=>aF (hM.top.aq hb).2 O Az,fun _ _ hb _ _=>b6 (hM.top.aq hb) O Az,Dr O,fun _ _ hb _ _=>aF (jS.aq hb).2 O Az,fun _ _ hb _ _=>bh (jS.aq hb) O Az,fun _ _ hb _ _=>aF (fR.aq hb).2 O Az,fun _ _ hb _ _=>bh (fR.aq hb) O Az,fun _ _ _ _ _=>Dk O (by exact aK Value.bool (dk (fun h=>h h9))),Dr O,fun _ _ hb _ _=>au O (aW (hB.below hb) O Az),fun _ _ hb _ _=>au O (a8 (hB.below hb) O Az),Dr O,fun _ _ hb _ _=>au O (aF (hM.top.aq hb).2 O Az),fun _ _ hb _ _=>au O (b6 (hM.top.aq hb) O Az),Dr O,fun _ _ hb _ _=>au O (aF (fR.aq hb).2 O Az),fun _ _ hb _ _=>au O (bh (fR.aq hb) O Az),fun _ _ hb _ _=>au O (aW (hB.below hb) O Az),fun _ _ hb _ _=>au O (a8 (hB.below hb) O Az),Dr O,fun _ _ hb _ _=>au O (aF (hM.top.aq hb).2 O Az),fun _ _ hb _ _=>au O (b6 (hM.top.aq hb) O Az),Dr O,fun _ _ hb _ _=>au O (aF (jS.aq hb).2 O Az),fun _ _ hb _ _=>au O (bh (jS.aq hb) O Az),fun _ _ _ _ _=>Dk O (by exact aK Value.bool (dk gZ)),Dr O,av⟩
     intro u w6 pa _;have aZ:=aV.aq pa;refine fh O (Cd.gq O ?_);refine aG O (aJ O (aT O (tQ ?_)));refine⟨f+1,by omega,(alH O),aZ,by omega,fun f' kS=>?_⟩
     by_cases ef:f'=f
     ·subst ef;exact⟨h9,gZ⟩
     exact Fv f' (by omega)
    refine eB [xP (aB (Ab) 0),xS (A) (n) (c),xI ((k:Int)),xP (aB (A) ((k:Int)).toNat),xS ((rg (rs) ((k:Int))).a) ((rg (rs) ((k:Int))).n) ((rg (rs) ((k:Int))).c),xP (aB (Ab) 0),xS (A) (n) (c),xI ((i:Int)),xP (aB (A) ((i:Int)).toNat),xS ((rg (rs) ((i:Int))).a) ((rg (rs) ((i:Int))).n) ((rg (rs) ((i:Int))).c),xI ((f:Int)),xP (aB ((rg (rs) ((i:Int))).a) ((f:Int)).toNat),xI (gi (gl xss i) ((f:Int))),xP (aB ((rg (rs) ((k:Int))).a) (gi (gl xss i) ((f:Int))).toNat),xI (gi (gl xss k) (gi (gl xss i) ((f:Int)))),xP (aB (Ab) 0),xS (A) (n) (c),xI ((i:Int)),xP (aB (A) ((i:Int)).toNat),xS ((rg (rs) ((i:Int))).a) ((rg (rs) ((i:Int))).n) ((rg (rs) ((i:Int))).c),xP (aB (Ab) 0),xS (A) (n) (c),xI ((k:Int)),xP (aB (A) ((k:Int)).toNat),xS ((rg (rs) ((k:Int))).a) ((rg (rs) ((k:Int))).n) ((rg (rs) ((k:Int))).c),xI ((f:Int)),xP (aB ((rg (rs) ((k:Int))).a) ((f:Int)).toNat),xI (gi (gl xss k) ((f:Int))),xP (aB ((rg (rs) ((i:Int))).a) (gi (gl xss k) ((f:Int))).toNat),xI (gi (gl xss i) (gi (gl xss k) ((f:Int)))),xB (true),xB (true),xU,xU,xU,xU,xU,xU,xU,xU,xU,xU,xU,xU,xU,xU,xU,xU,xU,xB (true)] O (eQ O) ?_ ?_
    ·exact⟨fun _ _ hb _ _=>aW (hB.below hb) O Az,fun _ _ hb _ _=>a8 (hB.below hb) O Az,Dr O,fun _ _ hb _ _=>aF (hM.top.aq hb).2 O Az,fun _ _ hb _ _=>b6 (hM.top.aq hb) O Az,fun _ _ hb _ _=>aW (hB.below hb) O Az,fun _ _ hb _ _=>a8 (hB.below hb) O Az,Dr O,fun _ _ hb _ _=>aF (hM.top.aq hb).2 O Az,fun _ _ hb _ _=>b6 (hM.top.aq hb) O Az,Dr O,fun _ _ hb _ _=>aF (fR.aq hb).2 O Az,fun _ _ hb _ _=>bh (fR.aq hb) O Az,fun _ _ hb _ _=>aF (jS.aq hb).2 O Az,fun _ _ hb _ _=>bh (jS.aq hb) O Az,fun _ _ hb _ _=>aW (hB.below hb) O Az,fun _ _ hb _ _=>a8 (hB.below hb) O Az,Dr O,fun _ _ hb _ _=>aF (hM.top.aq hb).2 O Az,fun _ _ hb _ _=>b6 (hM.top.aq hb) O Az,fun _ _ hb _ _=>aW (hB.below hb) O Az,fun _ _ hb _ _=>a8 (hB.below hb) O Az,Dr O,fun _ _ hb _ _=>aF (hM.top.aq hb).2 O Az,fun _ _ hb _ _=>b6 (hM.top.aq hb) O Az,Dr O,fun _ _ hb _ _=>aF (jS.aq hb).2 O Az,fun _ _ hb _ _=>bh (jS.aq hb) O Az,fun _ _ hb _ _=>aF (fR.aq hb).2 O Az,fun _ _ hb _ _=>bh (fR.aq hb) O Az,fun _ _ _ _ _=>Dk O (by exact aK Value.bool (eP h9)),Dr O,Dr O,Dr O,Dr O,Dr O,Dr O,Dr O,Dr O,Dr O,Dr O,Dr O,Dr O,Dr O,Dr O,Dr O,Dr O,Dr O,Dr O,Dr O,av⟩
    intro u w6 pa _;have aZ:=aV.aq pa;refine fh O (Cd.im O ?_);refine eF O (fD (e6 (fD (e6 (fD (e6 ?_))))));refine dz O ?_;exact⟨by rw [dk (fun h:bg xss=>h9 (h.2.2.2.1 i (by omega) k (by omega) mJ f (by omega)).1)],aZ.none⟩
   refine bw O (bA (dh O (aJ O (aT O (tQ ?_)))));refine⟨k+1,by omega,(alH O),aV,by omega,fun k' eM mK tL f' kS=>?_⟩
   by_cases ek:k'=k
   ·subst ek;exact Fv f' (by omega)
   exact Fu k' (by omega) mK tL f' kS
  refine bw O (bA (dh O (aJ O (aT O (tQ ?_)))));refine⟨i+1,by omega,(alH O),aU,by omega,fun i' dt k' eM tL f' kS=>?_⟩
  by_cases ei:i'=i
  ·subst ei;exact Fu k' (by omega) eM tL f' kS
  exact hC i' (by omega) k' eM tL f' kS
 have hM:=aM.bS hR;have hB:=aM.rd 0 O;refine bw O (bA (oO O ?_));refine eB [xP (aB (Ab) 0),xS (A) (n) (c),.pr (fun v _=>∃A' c',v= .slice A' (dw (gl xss 0).length xss 0).length c'),xI (((dw (gl xss 0).length xss 0).length:Int)),xP (aB (Ab) 0),xS (A) (n) (c),xP (aB (A) ((0:Int)).toNat),xS ((rg (rs) ((0:Int))).a) ((rg (rs) ((0:Int))).n) ((rg (rs) ((0:Int))).c),xI ((((rg (rs) ((0:Int))).n:Nat):Int)),xB (decide ((((dw (gl xss 0).length xss 0).length:Int))=((((rg (rs) ((0:Int))).n:Nat):Int)))),xB (decide ((((dw (gl xss 0).length xss 0).length:Int))=((((rg (rs) ((0:Int))).n:Nat):Int))))] rfl (lx (lx (cj.2 ⟨Yd.cN (fun _ _ _ h _=>h),(lx (lx (lx (lx (lx (lx (lx (lx (fun _ h=>by cases h)))))))))⟩))) ?_ ?_
 ·refine⟨fun _ _ hb _ _=>aW (hB.below hb) O Az,fun _ _ hb _ _=>a8 (hB.below hb) O Az,?_,?_,fun _ _ hb _ _=>aW (hB.below hb) O Az,fun _ _ hb _ _=>a8 (hB.below hb) O Az,fun _ _ hb _ _=>aF (hM.top.aq hb).2 O Az,fun _ _ hb _ _=>b6 (hM.top.aq hb) O Az,fun _ _ _ _ _=>bk O O Az,Dr O,Dr O,av⟩
  ·intro e1 w1 hb hp aY;refine aL (NK _ _ _ _ _ (gl xss 0).length 0 _ (hM.aq hb) hn hs (by omega) (by omega) (by omega)) O ?_;rintro _ w2 ⟨A',c',rfl,ax⟩;exact ao.n (iB.dn ax.below ⟨A',c',O⟩)
  intro e1 w1 hb hp aY;obtain⟨A',c',LG⟩:=(hp 2 (by decide) rfl _ _ rfl rfl);refine bk (by exact LG) O Az
 intro u w6 pa _;have aZ:=aM.aq pa;refine zd O (dz O ?_);refine⟨?_,aZ.none⟩
 congr 1
 refine ke.2 ⟨fun h=> ⟨by omega,by omega,kG,fun i' dt k' eM tL f' kS=>hC i' (by omega) k' (by omega) tL f' kS,by omega⟩,fun h=>by have:=h.2.2.2.2;omega⟩
end
section
def cell(M:ah)(i:Nat)(f:Int):Int:=gi (gl M i) f
def WM(M:ah)(i f:Nat)(v:Int):ah:=M.set i ((gl M i).set f v)
def put(M:ah)(i f g:Nat):ah:=WM (WM M i f g) i g f
def EO(n F:Nat)(M:ah):Prop:=M.length=n/\∀p∈M,p.length=F
section
variable {n F:Nat} {M:ah}
theorem EO.row(h:EO n F M){i:Nat}(hi:i<n):(gl M i).length=F:=h.2 _ (by rw [cK (by rw [h.1];exact hi)];exact dH _)
theorem aa6{i k:Nat}{p:ai}(hi:i<M.length):gl (M.set i p) k=if i=k then p else gl M k:=by
 simp only [gl,gI,dd,pA]
 by_cases e:i=k
 ·subst e;simp [hi]
 simp [e]
end
inductive Bb(n:Nat)(M:ah):Int->Prop where
 | zero:Bb n M 0
 | step {y:Int} {i:Nat}:Bb n M y->i<n->0<=y->0<=cell M i y->Bb n M (cell M i y)
structure Inv(n F:Nat)(M:ah)(met at_:Nat):Prop where
 Ep:EO n F M
 n0:0<n
 met1:1<=met
 metF:met<=F
 cells:∀(i:Nat) (f:Int),i<n->0<=f->f<F->cell M i f= -1\/(0<=cell M i f/\cell M i f<met/\f<met/\cell M i (cell M i f)=f/\cell M i f≠f)
 known:∀a:Nat,a<at_->0<=cell M (a%n) (a / n:Nat)
 Bj:∀f:Nat,f<met->Bb n M f
 le:at_<=met*n
section
variable {n F:Nat} {M:ah} {met at_:Nat}
def grow(n F:Nat)(ok:ah->Nat->Nat->Bool)(fin:ah->Bool):Nat->Nat->Nat->ah->List (ah)
 | 0,_,_,_=> []
 | k+1,at_,met,M=>
  if at_=met*n then(if met=F/\fin M=true then [M]else [])
  else if 0<=cell M (at_%n) (at_ / n:Nat)then grow n F ok fin k (at_+1) met M
  else(List.range' (at_ / n+1) (min met (F - 1) - at_ / n)).flatMap fun g=>
   if 0<=cell M (at_%n) (g:Nat)then []else if ok (put M (at_%n) (at_ / n) g) (at_%n) (at_ / n)=true then grow n F ok fin k (at_+1) (max met (g+1)) (put M (at_%n) (at_ / n) g)else []
end
def kn(M:ah)(i:Nat)(x:Int):Int:=if x<0 then -1 else cell M i x
def Ke(M:ah)(i k:Nat)(f:Int):Prop:=(0<=cell M i f->cell M i f≠cell M k f)/\(0<=kn M k (cell M i f)->0<=kn M i (cell M k f)->kn M k (cell M i f)=kn M i (cell M k f))
instance (M:ah)(i k:Nat)(f:Int):Decidable (Ke M i k f):=by unfold Ke;exact inferInstance
def Kd(M:ah)(f:Int):Prop:=∀i,i<M.length->∀k,k<M.length->i+2<=k->Ke M i k f
instance (M:ah)(f:Int):Decidable (Kd M f):=by unfold Kd;exact inferInstance
def Pr(M:ah)(i k:Nat)(f g:Int):Prop:=cell M k f=g\/(0<=cell M k f/\0<=cell M k g/\0<=cell M i (cell M k f)/\cell M i (cell M k f)≠cell M k g)\/(0<=cell M k f/\0<=cell M k g/\0<=cell M i (cell M k g)/\cell M i (cell M k g)≠cell M k f)
instance (M:ah)(i k:Nat)(f g:Int):Decidable (Pr M i k f g):=by unfold Pr;exact inferInstance
section
variable {n F:Nat} {L M:ah}
theorem Inv.full(h:Inv n F L F (F*n)){i:Nat}{f:Int}(hi:i<n)(h0:0<=f)(hf:f<F):0<=cell L i f:=by
 obtain⟨q,rfl⟩:∃q:Nat,f=q:=⟨f.toNat,by omega⟩;have h1:q*n+i<F*n:=by
  have:(q+1)*n<=F*n:=Nat.mul_le_mul_right n (by omega);rw [Nat.succ_mul]at this;omega
 have h2:=h.known (q*n+i) h1;rw [Nat.add_comm,Nat.add_mul_mod_self_right,Nat.mod_eq_of_lt hi,Nat.add_mul_div_right _ _ h.n0,Nat.div_eq_of_lt hi,Nat.zero_add]at h2;exact h2
theorem Inv.inv(h:Inv n F L F (F*n)){i:Nat}{f:Int}(hi:i<n)(h0:0<=f)(hf:f<F):0<=cell L i f/\cell L i f<F/\cell L i (cell L i f)=f/\cell L i f≠f:=by
 have h1:=h.full hi h0 hf;rcases h.cells i f hi h0 hf with h2 | h2
 ·omega
 exact⟨h2.1,h2.2.1,h2.2.2.2.1,h2.2.2.2.2⟩
theorem Inv.aip(h:Inv n F L F (F*n))(hF:F<=400):vg L:=by
 intro p hp;obtain⟨i,hi,rfl⟩:=fV.1 hp;have db:i<n:=by rw [<-h.Ep.1];exact hi
 have e:L[i]=gl L i:=(cK hi).symm;rw [e];have hl:=h.Ep.row db;have rS:=h.Ep.row h.n0;have hinv:∀f:Int,0<=f->f<F->0<=gi (gl L i) f/\gi (gl L i) f<F/\gi (gl L i) (gi (gl L i) f)=f/\gi (gl L i) f≠f:=fun f h0 hf=>h.inv db h0 hf
 refine⟨by rw [hl,<-rS];rfl,⟨by omega,fun x hx=>?_,?_⟩,fun k hk=>?_⟩
 ·obtain⟨k,hk,rfl⟩:=fV.1 hx;rw [<-cd hk];have:=hinv k (by omega) (by omega);omega
 ·rw [List.nodup_iff_pairwise_ne,List.pairwise_iff_getElem];intro a b ha hb eG e2;rw [<-cd ha,<-cd hb]at e2;have e3:=(hinv a (by omega) (by omega)).2.2.1;have e4:=(hinv b (by omega) (by omega)).2.2.1;rw [e2,e4]at e3;omega
 have:=hinv k (by omega) (by omega);exact⟨this.2.2.2,this.2.2.1⟩
theorem Bb.reach(h:L.length=n){x:Int}(hc:Bb n L x):Reach L 0 x:=by
 induction hc with
 | zero=>exact .refl
 | step _ hi _ _ ih=>exact .step ih (rP (by omega) (by omega))
theorem Inv.vW(h:Inv n F L F (F*n))(hn:n<=5)(hF:2<=F/\F<=400)(hJ:∀e:Nat,e<F->Kd L e):bg L:=by
 have rS:(gl L 0).length=F:=h.Ep.row h.n0;have hr:=h.aip hF.2;have hs:=hr.sys;have hlen:=h.Ep.1;have qx:=h.n0;refine⟨⟨by omega,by omega⟩,⟨by omega,by omega⟩,hr,fun i hi k hk mJ f hf=>?_,?_⟩
 ·have h1:=hJ f (by omega) i hi k hk mJ;have ci:=h.inv (i:=i) (f:=f) (by omega) (by omega) (by omega);have ck:=h.inv (i:=k) (f:=f) (by omega) (by omega) (by omega);have Zw:=h.inv (i:=k) (f:=cell L i f) (by omega) ci.1 ci.2.1;have Zv:=h.inv (i:=i) (f:=cell L k f) (by omega) ck.1 ck.2.1;have e1:kn L k (cell L i f)=cell L k (cell L i f):=by unfold kn;rw [if_neg (by omega)]
  have e2:kn L i (cell L k f)=cell L i (cell L k f):=by unfold kn;rw [if_neg (by omega)]
  have h2:=h1.2;rw [e1,e2]at h2;exact⟨h2 Zw.1 Zv.1,h1.1 ci.1⟩
 rw [rS]at hs|-;rw [Cs hs (by omega)];intro x h0 hx;have:=h.Bj x.toNat (by omega);rw [Int.toNat_of_nonneg h0]at this;exact this.reach hlen
def forms(n F:Nat)(k at_ met:Nat)(M:ah):List (ah):=(grow n F (fun _ _ _=>true) (fun _=>true) k at_ met M).filter fun L=>decide (bg L)
end
end
section
open Go.RowKit
def s8(init:ai)(ix v:Nat->Int):Nat->ai
 | 0=>init
 | k+1=> (s8 init ix v k).set (ix k).toNat (v k)
theorem OL(init:ai)(ix v:Nat->Int):∀k,(s8 init ix v k).length=init.length
 | 0=>rfl
 | k+1=>by simp [s8,OL init ix v k]
theorem WJ{init:ai}{ix v:Nat->Int}{N:Nat}(hN:init.length=N):∀k,(∀j,j<k->0<=ix j/\ix j<N)->(∀i j,i<k->j<k->ix i=ix j->i=j)->∀j,j<k->gi (s8 init ix v k) (ix j)=v j
 | 0,_,_,j,hj=>by omega
 | k+1,hr,hi,j,hj=>by
  have h1:=hr k (by omega);have h2:=hr j hj;show gi ((s8 init ix v k).set (ix k).toNat (v k)) (ix j)=v j;rw [qK h1.1 (by rw [OL,hN];exact h1.2) h2.1]
  by_cases e:ix k=ix j
  ·rw [ay e,hi k j (by omega) hj e]
  ·rw [aw e];have:j≠k:=fun uS=>e (by rw [uS])
   exact WJ hN k (fun j hj=>hr j (by omega)) (fun i j h h'=>hi i j (by omega) (by omega)) j (by omega)
def AK(m:Nat):ai:=(List.range m).map fun(k:Nat)=> (k:Int)
theorem OM(m:Nat):(AK m).length=m:=by simp [AK]
theorem WL{m:Nat}{x:Int}:x∈AK m↔0<=x/\x<m:=by
 simp only [AK,dv,gP];exact⟨fun⟨k,hk,e⟩=>by omega,fun h=> ⟨x.toNat,by omega,by omega⟩⟩
def rI(N:Nat)(o:ai):ai:=s8 (List.replicate N 0) (fun k=>gi o k) (fun k=> (k:Int)) o.length
theorem Y4(N:Nat)(o:ai):(rI N o).length=N:=by simp [rI,OL]
structure ve(N:Nat)(o:ai):Prop where
 len:o.length=N
 nodup:o.Nodup
 range:∀x∈o,0<=x/\x< (N:Int)
section
variable {N:Nat} {o:ai}
theorem ve.dp(h:ve N o){k:Nat}(hk:k<N):0<=gi o k/\gi o k<N:=h.range _ (gi_in (by rw [h.len];exact hk))
theorem ve.inj(h:ve N o){i j:Nat}(hi:i<N)(hj:j<N)(e:gi o i=gi o j):i=j:=by
 rw [cd (by rw [h.len];exact hi),cd (by rw [h.len];exact hj)]at e;exact(List.getElem_inj h.nodup).1 e
theorem ve.back(h:ve N o){k:Nat}(hk:k<N):gi (rI N o) (gi o k)=k:=
 WJ (N:=N) (by simp) o.length (fun j hj=>h.dp (by rw [<-h.len];exact hj)) (fun i j hi hj e=>h.inj (by rw [<-h.len];exact hi) (by rw [<-h.len];exact hj) e) k (by rw [h.len];exact hk)
theorem ve.IU(h:ve N o){x:Int}(h0:0<=x)(h1:x<N):∃k:Nat,k<N/\gi o k=x:=by
 apply nA;intro bt;have hx:x∉o:=fun hm=>by
  obtain⟨k,hk,e⟩:=fV.1 hm;exact bt ⟨k,by rw [<-h.len];exact hk,by rw [cd hk];exact e⟩
 have:=qA (N:=N) (l:=x::o) (oS.2 ⟨hx,h.nodup⟩) (fun y hy=>by
  rcases jn.1 hy with rfl | hy
  ·exact⟨h0,h1⟩
  exact h.range y hy)
 rw [List.length_cons,h.len]at this;omega
theorem ve.C1(h:ve N o){x:Int}(h0:0<=x)(h1:x<N):∃k:Nat,k<N/\gi o k=x/\gi (rI N o) x=k:=by
 obtain⟨k,hk,e⟩:=h.IU h0 h1;exact⟨k,hk,e,by rw [<-e];exact h.back hk⟩
end
def rz(o b mv:ai):ai:=o.map fun x=>gi b (gi mv x)
def nV(N:Nat)(p mv:ai):ai:=s8 (List.replicate N 0) (fun f=>gi p f) (fun f=>gi p (gi mv f)) N
def my(N:Nat)(xss:ah)(f:Int):ah:=xss.map fun mv=>rz (dw N xss f) (rI N (dw N xss f)) mv
theorem Bp(N:Nat)(xss:ah)(f:Int):(my N xss f).length=xss.length:=by simp [my]
def Da(a b:Int):Int:=if a<b then -1 else if b<a then 1 else 0
def xe:ai->ai->Int
 | [],[]=>0
 | [],_::_=> -1
 | _::_,[]=>1
 | a::l,b::r=>if Da a b=0 then xe l r else Da a b
def Vi:ah->ah->Int
 | [],[]=>0
 | [],_::_=> -1
 | _::_,[]=>1
 | a::l,b::r=>if xe a b=0 then Vi l r else xe a b
theorem HI{a b:Int}:Da a b=0↔a=b:=by unfold Da;by_cases h:a<b<;>by_cases h':b<a<;>simp [h,h']<;>omega
theorem ZD{a b:Int}:Da a b<0↔a<b:=by unfold Da;by_cases h:a<b<;>by_cases h':b<a<;>simp [h,h']<;>omega
theorem Vj:∀ {a b:ai},xe a b=0↔a=b
 | [],[]=>by simp [xe]
 | [],_::_=>by simp [xe]
 | _::_,[]=>by simp [xe]
 | a::l,b::r=>by
  simp only [xe]
  split
  ·rename_i h;rw [Vj,HI.1 h];simp
  ·rename_i h;constructor
   ·intro h';exact absurd h' h
   ·intro h';exact absurd (HI.2 (List.cons.inj h').1) h
section
variable {n F:Nat}
end
end
section
abbrev Mx:=ah
def PV(N:Nat)(xss:Mx):Prop:=∀f,f<N->¬Vi (my N xss (f:Nat)) xss<0
instance (N:Nat)(xss:Mx):Decidable (PV N xss):=by unfold PV;exact inferInstance
end
section
open Go.RowKit
theorem aic{rs:List aQ}{l m:Nat}{j:Nat}(hj:j<m):rg ((rs.drop l).take m) j=rg rs ((l+j:Nat):Int):=by
 have e:(((l+j:Nat):Int)).toNat=l+j:=by omega
 rw [rg,rg,e];simp [dd,tl,hj]
theorem Ch(A:aj)(n c:Nat)(rs:List aQ)(xss:ah)(w:aa)(hR:bz w A n rs xss)(hn:n<=c)(hc:c<=9223372036854775807):
 aN prog 91 [.agg #[.slice A n c]] w (fun v w'=>v= .bool (decide (bg xss))/\St w w' []):=by
 have dG:=hR.len;have r0:0<n->(gl xss 0).length=(rg rs 0).n:=fun h=>hR.ny (by omega) (by omega)
 refine bI func91 O ntmps91 O (du O) (bc O (ik (St.refl w) O O ?_));intro Ab w1 hS;refine ar O (aL (Ef _ _ _ _ _ _ (hS.rd 0 O) O) O ?_);rintro _ _ ⟨rfl,rfl⟩;refine aL (yV _ _ _ _) O ?_;rintro _ _ ⟨rfl,rfl⟩
 first | refine eZ rfl rfl ?_ | refine fY rfl rfl ?_
 refine ar O (cT 15 O (fun h1=>?_) (fun h1=>?_))
 ·refine aA O (aA O (aA O (aI O ?_)));refine Cd.im O (eF O (dz O ?_));exact⟨by rw [dk (fun h:bg xss=>by have:=h.1;omega)],hS.none⟩
 have hM:=hS.bS hR;have r0:=r0 (by omega);refine au O (aL (vq _ _ _ _ _ _ _ _ (hS.rd 0 O) O hM (by omega)) O ?_);rintro _ _ ⟨rfl,rfl⟩;refine au O (aL (yV _ _ _ _) O ?_);rintro _ _ ⟨rfl,rfl⟩;refine au O ?_
 first | refine eZ rfl rfl ?_ | refine fY rfl rfl ?_
 refine aI O (aR _ O (fun h3=>?_) (fun h3=>?_))
 ·refine eF O (dz O ?_);exact⟨by rw [dk (fun h:bg xss=>by have:=h.2.1;omega)],hS.none⟩
 refine aG O (aW (hS.rd 0 O) O (a8 (hS.rd 0 O) O ?_));refine bk O O (aI O ?_);refine Cd.loop (α:=Nat) (fun k=> [(1,.pointer Ab),(21,.slice A n c),(22,ak n),(23,ak k)]) (fun k w'=>St w w' [Bx 24 1 Ab [.slice A n c]]/\k<=n/\Part xss k) (fun k=>n - k) 0 (alH O) ⟨hS,bm _,fun p hp=>by simp at hp⟩ ?_;rintro k e w2 ⟨aD,hk,hP⟩;have hM:=aD.bS hR;refine b8 O (aR _ O (fun h5=>?_) (fun h5=>?_))
 ·have pP:k<xss.length:=by omega
  have rk:=hR.ny (k:=(k:Int)) (by omega) (by omega);have cJ:=hM.at_ (i:=k) (by omega) h5;refine aG O (alp hM.top.2 O O O (by omega) h5 (b6 hM.top O (ar O (aL (aew _ _ _ _ _ cJ) O ?_))));rintro _ w3 ⟨rfl,ax⟩;have aM:=aD.aq ax.below;have hM:=aM.bS hR
  first | refine eZ rfl rfl ?_ | refine fY rfl rfl ?_
  refine ar O (cT 30 O (fun h6=>?_) (fun h6=>?_))
  ·refine aA O (aA O (aA O (aA O (aI O ?_))));refine Cd.im O (eF O (fD (e6 ?_)));refine dz O ?_;exact⟨by rw [dk (fun h:bg xss=>h6 ⟨(h.2.2.1.at_ pP).2.1,(h.2.2.1.at_ pP).2.2⟩)],aM.none⟩
  have h6:=jl.1 h6;refine au O (ar O (au O ?_));refine aL (CA _ _ _ _) O ?_;rintro _ _ ⟨rfl,rfl⟩;refine au O (aL (vq _ _ _ _ _ _ _ _ (aM.rd 0 O) O hM (by omega)) O ?_);rintro _ _ ⟨rfl,rfl⟩;refine au O (aI O ?_);refine aR _ O (fun h7=>?_) (fun h7=>?_)
  ·refine eF O (fD (e6 ?_));refine dz O ?_;exact⟨by rw [dk (fun h:bg xss=>h7 (by have:=(h.2.2.1.at_ pP).1;omega))],aM.none⟩
  refine aG O (aJ O (aT O (tQ ?_)));exact⟨k+1,by omega,(alH O),aM,by omega,hP.step pP (by omega) h6.1 h6.2⟩
 have kG:=hP.all (by omega);have hs:=kG.sys;have jG:∀i:Int,0<=i->i<n->(rg rs i).n=(rg rs 0).n:=fun i h0 h1=>by
  have e1:=hR.ny h0 h1;have e2:=(kG _ (rP h0 (by omega))).1;omega
 refine bw O (bA (dh O ?_));refine aW (aD.rd 0 O) O (a8 (aD.rd 0 O) O ?_);refine bk O O (aI O ?_);refine Cd.loop (α:=Nat) (fun i=> [(1,.pointer Ab),(38,.slice A n c),(39,ak n),(40,ak i)]) (fun i w'=>St w w' [Bx 24 1 Ab [.slice A n c]]/\i<=n/\∀i',i'<i->∀k,k<n->i'+2<=k->∀f,f< (gl xss 0).length->Comm xss i' k f) (fun i=>n - i) 0 (alH O) ⟨aD,bm _,fun i' dt=>by omega⟩ ?_;rintro i e w3 ⟨aM,hi,hC⟩;have hM:=aM.bS hR;refine b8 O (aR _ O (fun h6=>?_) (fun h6=>?_))
 ·refine aG O (alp hM.top.2 O O O (by omega) h6 (b6 hM.top O (ar O (aW (aM.rd 0 O) O (a8 (aM.rd 0 O) O ?_)))));refine ar O (aJ O ?_);refine aW (aM.rd 0 O) O (a8 (aM.rd 0 O) O (bk O O (Yl O O O ?_)));obtain⟨l,hl,qV,wP⟩:∃l:Nat,min ((i:Int)+2) (n:Int)=(l:Int)/\l<=n/\(l=i+2\/(l=n/\n<=i+2)):=⟨min (i+2) n,by omega,by omega,by omega⟩;rw [hl];refine EI O O O (by omega) ?_;rw [gI];refine bk O O (aI O ?_);refine Cd.loop (α:=Nat) (fun j=> [(1,.pointer Ab),(38,.slice A n c),(39,ak n),(40,ak i),(6,.slice (rg rs i).a (rg rs i).n (rg rs i).c),(53,.slice (cutAt A c l) (n - l) (c - l)),(54,ak ((n - l:Nat):Int)),(55,ak j)]) (fun j w'=>St w w' [Bx 24 1 Ab [.slice A n c]]/\j<=n - l/\∀k',k'<l+j->k'<n->i+2<=k'->∀f,f< (gl xss 0).length->Comm xss i k' f) (fun j=>n - l - j) 0 (alH O) ⟨aM,bm _,fun k' h1 _ _=>by omega⟩ ?_;rintro j e w4 ⟨aU,hj,Fu⟩;have hM:=aU.bS hR;have uR:=hM.top.cut (c:=c) qV (bB n) hn;refine b8 O (aR _ O (fun h7=>?_) (fun h7=>?_))
  ·have lR:j<n - l:=by omega
   have hk:l+j<n:=by omega
   have mJ:i+2<=l+j:=by omega
   refine aG O (alp uR.2 O O O (by omega) h7 (b6 uR O ?_));rw [aic lR];generalize zQ:l+j=k at hk mJ;have rki:=jG i (by omega) h6;have rkk:=jG k (by omega) (by omega);refine ar O (aL (vq _ _ _ _ _ _ _ _ (aU.rd 0 O) O hM (by omega)) O ?_);rintro _ w4 ⟨rfl,rfl⟩;refine aI O ?_;refine Cd.loop (α:=Nat) (fun f=> [(1,.pointer Ab),(38,.slice A n c),(39,ak n),(40,ak i),(6,.slice (rg rs i).a (rg rs i).n (rg rs i).c),(53,.slice (cutAt A c l) (n - l) (c - l)),(54,ak ((n - l:Nat):Int)),(55,ak j),(8,.slice (rg rs k).a (rg rs k).n (rg rs k).c),(59,ak ((rg rs 0).n:Int)),(60,ak f)]) (fun f w'=>St w w' [Bx 24 1 Ab [.slice A n c]]/\f<=(gl xss 0).length/\∀f',f'<f->Comm xss i k f') (fun f=> (gl xss 0).length - f) 0 (alH O) ⟨aU,bm _,fun f' kS=>by omega⟩ ?_;rintro f e w5 ⟨aV,hf,Fv⟩;have hM:=aV.bS hR;have fR:=hM.at_ (i:=i) (by omega) h6;have jS:=hM.at_ (i:=k) (by omega) (by omega);refine b8 O (aR _ O (fun h8=>?_) (fun h8=>?_))
   ·have hii:=(hs _ (rP (k:=(i:Int)) (by omega) (by omega))).2 (f:Int) (by omega) (by omega);have dY:=(hs _ (rP (k:=(k:Int)) (by omega) (by omega))).2 (f:Int) (by omega) (by omega);refine cM O ?_
    by_cases gZ:gi (gl xss i) f=gi (gl xss k) f
    ·
     refine eB [xS ((rg rs i).a) ((rg rs i).n) ((rg rs i).c),xI ((f:Int)),xP (aB ((rg rs i).a) ((f:Int)).toNat),xI (gi (gl xss i) ((f:Int))),xS ((rg rs k).a) ((rg rs k).n) ((rg rs k).c),xI ((f:Int)),xP (aB ((rg rs k).a) ((f:Int)).toNat),xI (gi (gl xss k) ((f:Int))),xB (true),xB (true),xU,xU,xU,xU,xU,xU,xU,xU,xU,xU,xU,xU,xU,xU,xU,xB (true)] O (eQ O) ?_ ?_
     ·exact⟨Dr O,Dr O,fun _ _ hb _ _=>aF (fR.aq hb).2 O Az,fun _ _ hb _ _=>bh (fR.aq hb) O Az,Dr O,Dr O,fun _ _ hb _ _=>aF (jS.aq hb).2 O Az,fun _ _ hb _ _=>bh (jS.aq hb) O Az,fun _ _ _ _ _=>Dk O (by exact aK Value.bool (eP gZ)),Dr O,Dr O,Dr O,Dr O,Dr O,Dr O,Dr O,Dr O,Dr O,Dr O,Dr O,Dr O,Dr O,Dr O,Dr O,Dr O,Dr O,av⟩
     intro u w6 pa _;have aZ:=aV.aq pa;refine fh O (Cd.im O ?_);refine eF O (fD (e6 (fD (e6 (fD (e6 ?_))))));refine dz O ?_;exact⟨by rw [dk (fun h:bg xss=> (h.2.2.2.1 i (by omega) k (by omega) mJ f (by omega)).2 gZ)],aZ.none⟩
    by_cases h9:gi (gl xss k) (gi (gl xss i) f)=gi (gl xss i) (gi (gl xss k) f)
    ·refine eB [xS ((rg rs i).a) ((rg rs i).n) ((rg rs i).c),xI ((f:Int)),xP (aB ((rg rs i).a) ((f:Int)).toNat),xI (gi (gl xss i) ((f:Int))),xS ((rg rs k).a) ((rg rs k).n) ((rg rs k).c),xI ((f:Int)),xP (aB ((rg rs k).a) ((f:Int)).toNat),xI (gi (gl xss k) ((f:Int))),xB (false),xB (false),xS ((rg rs k).a) ((rg rs k).n) ((rg rs k).c),xS ((rg rs i).a) ((rg rs i).n) ((rg rs i).c),xI ((f:Int)),xP (aB ((rg rs i).a) ((f:Int)).toNat),xI (gi (gl xss i) ((f:Int))),xP (aB ((rg rs k).a) (gi (gl xss i) ((f:Int))).toNat),xI (gi (gl xss k) (gi (gl xss i) ((f:Int)))),xS ((rg rs i).a) ((rg rs i).n) ((rg rs i).c),xS ((rg rs k).a) ((rg rs k).n) ((rg rs k).c),xI ((f:Int)),xP (aB ((rg rs k).a) ((f:Int)).toNat),xI (gi (gl xss k) ((f:Int))),xP (aB ((rg rs i).a) (gi (gl xss k) ((f:Int))).toNat),xI (gi (gl xss i) (gi (gl xss k) ((f:Int)))),xB (false),xB (false)] O (eQ O) ?_ ?_
     ·exact⟨Dr O,Dr O,fun _ _ hb _ _=>aF (fR.aq hb).2 O Az,fun _ _ hb _ _=>bh (fR.aq hb) O Az,Dr O,Dr O,fun _ _ hb _ _=>aF (jS.aq hb).2 O Az,fun _ _ hb _ _=>bh (jS.aq hb) O Az,fun _ _ _ _ _=>Dk O (by exact aK Value.bool (dk gZ)),Dr O,Dr O,Dr O,Dr O,fun _ _ hb _ _=>au O (aF (fR.aq hb).2 O Az),fun _ _ hb _ _=>au O (bh (fR.aq hb) O Az),fun _ _ hb _ _=>au O (aF (jS.aq hb).2 O Az),fun _ _ hb _ _=>au O (bh (jS.aq hb) O Az),Dr O,Dr O,Dr O,fun _ _ hb _ _=>au O (aF (jS.aq hb).2 O Az),fun _ _ hb _ _=>au O (bh (jS.aq hb) O Az),fun _ _ hb _ _=>au O (aF (fR.aq hb).2 O Az),fun _ _ hb _ _=>au O (bh (fR.aq hb) O Az),fun _ _ _ _ _=>Dk O (by exact aK Value.bool (dk (fun h=>h h9))),Dr O,av⟩
     intro u w6 pa _;have aZ:=aV.aq pa;refine fh O (Cd.gq O ?_);refine aG O (aJ O (aT O (tQ ?_)));refine⟨f+1,by omega,(alH O),aZ,by omega,fun f' kS=>?_⟩
     by_cases ef:f'=f
     ·subst ef;exact⟨h9,gZ⟩
     exact Fv f' (by omega)
    refine eB [xS ((rg rs i).a) ((rg rs i).n) ((rg rs i).c),xI ((f:Int)),xP (aB ((rg rs i).a) ((f:Int)).toNat),xI (gi (gl xss i) ((f:Int))),xS ((rg rs k).a) ((rg rs k).n) ((rg rs k).c),xI ((f:Int)),xP (aB ((rg rs k).a) ((f:Int)).toNat),xI (gi (gl xss k) ((f:Int))),xB (false),xB (false),xS ((rg rs k).a) ((rg rs k).n) ((rg rs k).c),xS ((rg rs i).a) ((rg rs i).n) ((rg rs i).c),xI ((f:Int)),xP (aB ((rg rs i).a) ((f:Int)).toNat),xI (gi (gl xss i) ((f:Int))),xP (aB ((rg rs k).a) (gi (gl xss i) ((f:Int))).toNat),xI (gi (gl xss k) (gi (gl xss i) ((f:Int)))),xS ((rg rs i).a) ((rg rs i).n) ((rg rs i).c),xS ((rg rs k).a) ((rg rs k).n) ((rg rs k).c),xI ((f:Int)),xP (aB ((rg rs k).a) ((f:Int)).toNat),xI (gi (gl xss k) ((f:Int))),xP (aB ((rg rs i).a) (gi (gl xss k) ((f:Int))).toNat),xI (gi (gl xss i) (gi (gl xss k) ((f:Int)))),xB (true),xB (true)] O (eQ O) ?_ ?_
    ·exact⟨Dr O,Dr O,fun _ _ hb _ _=>aF (fR.aq hb).2 O Az,fun _ _ hb _ _=>bh (fR.aq hb) O Az,Dr O,Dr O,fun _ _ hb _ _=>aF (jS.aq hb).2 O Az,fun _ _ hb _ _=>bh (jS.aq hb) O Az,fun _ _ _ _ _=>Dk O (by exact aK Value.bool (dk gZ)),Dr O,Dr O,Dr O,Dr O,fun _ _ hb _ _=>au O (aF (fR.aq hb).2 O Az),fun _ _ hb _ _=>au O (bh (fR.aq hb) O Az),fun _ _ hb _ _=>au O (aF (jS.aq hb).2 O Az),fun _ _ hb _ _=>au O (bh (jS.aq hb) O Az),Dr O,Dr O,Dr O,fun _ _ hb _ _=>au O (aF (jS.aq hb).2 O Az),fun _ _ hb _ _=>au O (bh (jS.aq hb) O Az),fun _ _ hb _ _=>au O (aF (fR.aq hb).2 O Az),fun _ _ hb _ _=>au O (bh (fR.aq hb) O Az),fun _ _ _ _ _=>Dk O (by exact aK Value.bool (eP h9)),Dr O,av⟩
    intro u w6 pa _;have aZ:=aV.aq pa;refine fh O (Cd.im O ?_);refine eF O (fD (e6 (fD (e6 (fD (e6 ?_))))));refine dz O ?_;exact⟨by rw [dk (fun h:bg xss=>h9 (h.2.2.2.1 i (by omega) k (by omega) mJ f (by omega)).1)],aZ.none⟩
   refine bw O (bA (dh O (aJ O (aT O (tQ ?_)))));refine⟨j+1,by omega,(alH O),aV,by omega,fun k' eM mK tL f' kS=>?_⟩
   by_cases ek:k'=k
   ·subst ek;exact Fv f' (by omega)
   exact Fu k' (by omega) mK tL f' kS
  refine bw O (bA (dh O (aJ O (aT O (tQ ?_)))));refine⟨i+1,by omega,(alH O),aU,by omega,fun i' dt k' eM tL f' kS=>?_⟩
  by_cases ei:i'=i
  ·subst ei;exact Fu k' (by omega) eM tL f' kS
  exact hC i' (by omega) k' eM tL f' kS
 have hB:=aM.rd 0 O;refine bw O (bA (oO O ?_));refine eB [xI (((rg rs 0).n:Int)),xP (aB (Ab) 0),xS (A) (n) (c),.pr (fun v _=>∃A',v= .tuple #[.slice A' (gl xss 0).length (gl xss 0).length,ak (bD (gl xss 0).length xss (gl xss 0).length).2]),.pr (fun v _=>∃A',v= .tuple #[.slice A' (gl xss 0).length (gl xss 0).length,ak (bD (gl xss 0).length xss (gl xss 0).length).2]),.pr (fun v _=>∃A',v= .slice A' (gl xss 0).length (gl xss 0).length),xI ((bD (gl xss 0).length xss (gl xss 0).length).2),.pr (fun v _=>∃A',v= .slice A' (gl xss 0).length (gl xss 0).length),xI ((bD (gl xss 0).length xss (gl xss 0).length).2)] rfl (lx (lx (lx (cj.2 ⟨Yd.cN (fun _ _ _ h _=>h),(cj.2 ⟨Yd.cN (fun _ _ _ h _=>h),(cj.2 ⟨Yd.cN (fun _ _ _ h _=>h),(lx (cj.2 ⟨Yd.cN (fun _ _ _ h _=>h),(lx (fun _ h=>by cases h))⟩))⟩)⟩)⟩)))) ?_ ?_
 ·refine⟨?_,fun _ _ hb _ _=>aW (hB.below hb) O Az,fun _ _ hb _ _=>a8 (hB.below hb) O Az,?_,?_,?_,?_,?_,Dr O,av⟩
  ·intro e1 w1 hb hp aY;refine aL (vq _ _ _ _ _ _ _ _ (hB.below hb) O (hM.aq hb) (by omega)) O ?_;rintro _ w2 ⟨rfl,ax⟩;subst ax;refine ao.n (d0 (by exact O))
  ·intro e1 w1 hb hp aY;refine als (VP A n c rs xss (gl xss 0).length _ (hM.aq hb) (by omega) hs kG.inj (by omega)) O (by rw [r0];rfl) O ?_;rintro _ w2 ⟨A',rfl,ax⟩;exact ao.n (iB.dn ax.below ⟨A',O⟩)
  ·intro e1 w1 hb hp aY;obtain⟨A',h96⟩:=(hp 3 (by decide) rfl _ _ rfl rfl);refine Ho O (by exact h96) O (ao.n ?_);exact iB.dn (Below.refl _ _) ⟨A',O⟩
  ·intro e1 w1 hb hp aY;obtain⟨A',LP⟩:=(hp 4 (by decide) rfl _ _ rfl rfl);refine ao.extract (by exact LP) O O (ao.n ?_);exact iB.dn (Below.refl _ _) ⟨A',O⟩
  ·intro e1 w1 hb hp aY;obtain⟨A',LP⟩:=(hp 4 (by decide) rfl _ _ rfl rfl);refine ao.extract (by exact LP) O O Az
  intro e1 w1 hb hp aY;obtain⟨A',h97⟩:=(hp 5 (by decide) rfl _ _ rfl rfl);refine pF O (by exact h97) O (ao.n ?_);exact iB.dn (Below.refl _ _) ⟨A',O⟩
 intro u w6 pa _;have aZ:=aM.aq pa;refine zd O (dz O ?_);refine⟨?_,aZ.none⟩
 congr 1
 have ho:=Cs hs (by omega);have hl:=afF hs (by omega);exact ke.2 ⟨fun h=> ⟨by omega,by omega,kG,fun i' dt k' eM tL f' kS=>hC i' (by omega) k' (by omega) tL f' kS,ho.2 (hl.1 h)⟩,fun h=>hl.2 (ho.1 h.2.2.2.2)⟩
section
variable {P:Program} {N:Nat} {ops:Array Oper} {K:Env->aa->Prop} {rest:List Oper} {e:Env} {w:aa} {d:Nat} {ty:ae} {pos:String} {af:Array Edge} {x y:ag} {xt yt:ae}
theorem run_equal_bool[bV P xt .bool](a b:Bool):(Op.equal xt (.bool a) (.bool b)).run P w= .ok (a==b) w:=
 run_equalIn_bool w 9999 xt a b bV.out
theorem PO[bV P xt .bool]{a b:Bool}(hx:ev e x= .bool a)(hy:ev e y= .bool b)(hb:Nat.blt d N=true)(hK:ao P N ops K rest (bG e d (.bool (!(a==b)))) w):
 ao P N ops K (⟨some d,.binOp .neq xt x y yt,ty,pos,af,none⟩::rest) e w:=
 .val (by simp [execOp,hx,hy,eqGuard,binOp,run_equal_bool]) hb hK
theorem Yf[bV P xt .bool]{a b:Bool}(hx:ev e x= .bool a)(hy:ev e y= .bool b)(hb:Nat.blt d N=true)(hK:ao P N ops K rest (bG e d (.bool (a==b))) w):
 ao P N ops K (⟨some d,.binOp .eql xt x y yt,ty,pos,af,none⟩::rest) e w:=
 .val (by simp [execOp,hx,hy,eqGuard,binOp,run_equal_bool]) hb hK
end
section
variable {P:Program} {N:Nat} {ops:Array Oper} {K:Env->aa->Prop} {rest:List Oper} {e:Env} {w0 w w':aa} {ks:List Ck} {d:Nat} {ty:ae} {pos:String} {af:Array Edge}
theorem EG{t:ae}{f0:Field}{z0 zf:ad}{b bf:Nat}[bV P t (.struct #[f0])][bR P t (.agg #[z0]) 1 b]{x0:ag}{v0:ad}(hI:bR P f0.type zf 1 bf)(ho:f0.offset=0)(h0:ev e x0=v0)(c0:v0.oneCell'=true)(hb:Nat.blt d N=true)(hK:ao P N ops K rest (bG e d (.agg #[v0])) w):ao P N ops K (⟨some d,.build t #[(0,x0)],ty,pos,af,none⟩::rest) e w:=by
 obtain⟨inf,hi,fS,hs,jv⟩:=bR.get P t;obtain⟨aeu,dt,ael,nL,acz⟩:=hI.get P f0.type;have e0:v0.cells= #[v0]:=by cases v0<;>simp [Value.oneCell']at c0<;>rfl
 have ez:(Value.agg #[z0]).cells= #[z0]:=O;refine .val (w':=w) ?_ hb hK;simp [execOp,Instr.build,run_underlying (bV.out (P:=P) (t:=t)),sizeOf,typeInfo,zeroValue,hi,fS,dt,nL,ho,h0,e0,ez,Instr.fill]
theorem EJ{t t' el:ae}[bV P t (.slice el)]{x y:ag}{A:aj}{n c:Nat}(hx:ev e x= .slice A n c)(hy:ev e y= .slice none 0 0)(hb:Nat.blt d N=true)(hK:ao P N ops K rest (bG e d (.bool A.isNone)) w):
 ao P N ops K (⟨some d,.binOp .eql t x y t',ty,pos,af,none⟩::rest) e w:=by
 have hr:(Op.equal t (.slice A n c) (.slice none 0 0)).run P w= .ok A.isNone w:=by
  show(Op.equalIn (9999+1) t (.slice A n c) (.slice none 0 0)).run P w=_;rw [Op.equalIn];cases A<;>simp [run_underlying (bV.out (P:=P) (t:=t))]
 exact .val (by simp [execOp,hx,hy,eqGuard,binOp,hr]) hb hK
end
theorem D7{t1 t2:ae}{A:aj}{n c:Nat}{rs:List aQ}{xss:ah}{pre ks:List Ck}{i:Nat}(hr:rs.length=xss.length)(hi:i<rs.length):(pre++ (aO t1 t2 A n c rs xss++ks))[pre.length+1+i]?=some (az t2 (rs.getD i eA).a (rs.getD i eA).n (rs.getD i eA).c (xss.getD i [])):=by
 rw [kN (by omega),show pre.length+1+i - pre.length=i+1 by omega,mq (by simp [aO,Ek hr];omega)];simpa [aO]using JT (t:=t2) hr hi
section
variable {P:Program} {N:Nat} {ops:Array Oper} {K:Env->aa->Prop} {rest:List Oper} {e:Env} {w0 w w':aa} {ks pre:List Ck} {ty:ae} {pos:String} {af:Array Edge}
end
structure PC where
 top:aQ
 rs:List aQ
 xss:ah
def PC.ok(m:PC):Prop:=m.xss.length=m.top.n
theorem U4(A:aj)(n c:Nat)(xs:ai)(w:aa)(hR:di w A n xs)(hn:n<=1000000000):aN prog 237 [.slice A n c] w (fun v w'=>∃A' c',v= .slice A' n c'/\St w w' [az 2 A' n c' xs]):=by
 refine bI func237 O ntmps237 O (du O) (bc O (jO (St.refl w) O ?_));intro A1 w1 aE;have aE:St w w1 [az 2 A1 0 0 []]:=aE;refine ar O (fp 0 aE O (aE.gH hR) O O O ?_);intro A2 c2 w2 aD;rw [Nat.zero_add]at aD|-;refine bM O (gK O ?_);exact⟨A2,c2,O,aD⟩
def body(n F:Nat)(ok:ah->Nat->Nat->Bool)(fin:ah->Bool)(k at_ met:Nat)(M:ah)(g:Nat):List (ah):=
 if 0<=cell M (at_%n) (g:Nat)then []else if ok (put M (at_%n) (at_ / n) g) (at_%n) (at_ / n)=true then grow n F ok fin k (at_+1) (max met (g+1)) (put M (at_%n) (at_ / n) g)else []
end
section
def prod:List Nat->Nat
 | []=>1
 | x::l=>x*prod l
section
variable {n F:Nat} {M:ah} {met at_:Nat}
end
end
section
open Go.RowKit
def Small(JL flags:Int):Prop:=(1<=JL/\JL<=4)/\(2<=flags/\flags<=12)
instance (JL flags:Int):Decidable (Small JL flags):=by unfold Small;exact inferInstance
end
end Go.Proofs.YtopgfgdgfjddpaaGreatDoor.Vc
