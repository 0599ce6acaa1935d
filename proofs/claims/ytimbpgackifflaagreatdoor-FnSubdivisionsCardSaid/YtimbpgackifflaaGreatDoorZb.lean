/-
 Lemmas. Conditions: as each states them.
-/
import Derived.Test.YtimbpgackifflaaGreatDoorInst
set_option maxHeartbeats 8000000
namespace Go.Proofs.YtimbpgackifflaaGreatDoor.Vc
open Tryz
section
open Go.RowKit
variable{p S:ah}
theorem y4(n lo hi:Int)(w:aa):aF prog 70 [aj n,aj lo,aj hi] w (λv w'=>v=.bool (decide (lo<=n/\n<=hi))/\w'=w):=by
 refine bn func70 O ntmps70 O (bM O) (aY O ?_);refine b9 10 O (λh=>?_) (λh=>?_)
 ·refine ar O (aq O (ar O (aq O (ar O (bR O ?_)))));refine cK O ?_;exact⟨by simp[h],O⟩
 refine aB O (aB O (aB O (bR O ?_)));refine cK O ?_;exact⟨by simp[h],O⟩
theorem uU(n lo hi:Int)(w:aa):aF prog 56 [aj n,aj lo,aj hi] w (λv w'=>v=.bool (decide (lo<=n/\n<=hi))/\w'=w):=by
 refine bn func56 O ntmps56 O (bM O) (aY O ?_);refine b9 10 O (λh=>?_) (λh=>?_)
 ·refine ar O (aq O (ar O (aq O (ar O (bR O ?_)))));refine cK O ?_;exact⟨by simp[h],O⟩
 refine aB O (aB O (aB O (bR O ?_)));refine cK O ?_;exact⟨by simp[h],O⟩
def mL(p:ah):Prop:=p.length<=400/\(∀x∈p,0<=x/\x<p.length)/\p.Nodup
instance (p:ah):Decidable (mL p):=by unfold mL;exact inferInstance
def Seen(p:ah)(k:Nat)(S:List Bool):Prop:=
 S.length=p.length/\(∀x∈p.take k,0<=x/\x<p.length)/\(p.take k).Nodup/\∀x:Int,0<=x->x<p.length->(gb S x=true↔x∈p.take k)
theorem b7{k:Nat}(h:k<p.length):gi p k=p[k]:=by simp[gi,b5,fL h]
theorem lG{k:Nat}(h:k<p.length):p.take (k+1)=p.take k++[gi p k]:=by rw[b7 h,oQ h]
theorem F4{S:List Bool}{x y:Int}{b:Bool}(hx:0<=x)(jT:x<S.length)(hy:0<=y):gb (S.set x.toNat b) y=if x=y then b else gb S y:=by
 simp only[gb,b5,lI]
 by_cases e:x=y
 ·subst e;rw[aG rfl,aG rfl,aG (by omega)];rfl
 rw[aD (by omega),aD e]
theorem wE{x y:Int}{b:Int}(hx:0<=x)(jT:x<S.length)(hy:0<=y):gi (S.set x.toNat b) y=if x=y then b else gi S y:=by
 simp only[gi,b5,lI]
 by_cases e:x=y
 ·subst e;rw[aG rfl,aG rfl,aG (by omega)];rfl
 rw[aD (by omega),aD e]
theorem Seen.zero(p:ah):Seen p 0 (List.replicate p.length false):=⟨by simp,by simp,by simp,λx h0 h1=>by
 simp[gb,b5,List.getElem?_replicate];split<;>simp⟩
theorem Seen.bad{k:Nat}{S:List Bool}(h:Seen p k S)(hk:k<p.length)(hb:¬(0<=gi p k/\gi p k<=p.length-1)):¬mL p:=λhp=>by
 have:=hp.2.1 (gi p k) (by rw[b7 hk];exact dt hk);omega
theorem Seen.abL{k:Nat}{S:List Bool}(h:Seen p k S)(hk:k<p.length)(h0:0<=gi p k/\gi p k<=p.length-1)(hb:gb S (gi p k)=true):¬mL p:=λhp=>by
 have h1:=(h.2.2.2 (gi p k) h0.1 ac).1 hb;have h2:(p.take (k+1)).Nodup:=hp.2.2.sublist (List.take_sublist _ _);rw[lG hk,List.nodup_append]at h2;exact h2.2.2 _ h1 _ (by simp) O
theorem Seen.step{k:Nat}{S:List Bool}(h:Seen p k S)(hk:k<p.length)(h0:0<=gi p k/\gi p k<=p.length-1)(hb:gb S (gi p k)=false):Seen p (k+1) (S.set (gi p k).toNat true):=by
 obtain⟨h1,h2,h3,h4⟩:=h;have h5:¬gi p k∈p.take k:=λhm=>by have:=(h4 _ h0.1 ac).2 hm;rw[hb]at this;cases this
 refine⟨by simpa using h1,?_,?_,λx hx jT=>?_⟩
 ·rw[lG hk];intro x hx;rcases dF.1 hx with hx|hx
  ·exact h2 x hx
  simp at hx;subst hx;omega
 ·rw[lG hk,List.nodup_append];refine⟨h3,by simp,λa ha b J8=>?_⟩;simp at J8;subst J8;intro e;subst e;exact h5 ha
 rw[F4 h0.1 (by omega) hx,lG hk,dF]
 by_cases e:gi p k=x
 ·simp[e]
 rw[aD e,h4 x hx jT];simp;intro h;exact absurd h.symm e
theorem Seen.done{k:Nat}{S:List Bool}(h:Seen p k S)(hk:¬k<p.length)(hl:p.length<=400):mL p:=by
 obtain⟨h1,h2,h3,h4⟩:=h;rw[jw (by omega)]at h2 h3;exact⟨hl,h2,h3⟩
theorem amB(A:ai)(n c:Nat)(p:ah)(w:aa)(hR:bu w A n p):aF prog 77 [.slice A n c] w (λv w'=>v=.bool (decide (mL p))/\St w w' []):=by
 have hl:=hR.1;subst hl;refine bn func77 O ntmps77 O (bM O) ?_;refine aY O (aR O O (ay O ?_));refine aK _ O (λh=>?_) (λh=>?_)
 ·refine dE O (cK O ?_);exact⟨by rw[db (λhp:mL p=>by have:=hp.1;omega)],St.refl _⟩
 refine aC O (aR O O ?_);refine wb p.length (St.refl w) O O ac λA1 w1 ax=>ay O (Cd.loop (α:=Nat×List Bool) (λs=>[(0,.slice A p.length c),(3,.slice A1 p.length p.length),(4,aj (s.1:Int))]) (λs w'=>St w w' [fB 4 A1 p.length p.length s.2]/\s.1<=p.length/\Seen p s.1 s.2) (λs=>p.length-s.1) (0,List.replicate p.length false) (auV O) ⟨ax,bl _,Seen.zero p⟩ ?_);rintro⟨k,S⟩ e w2 ⟨az,hk,hI⟩;dsimp only at az hk hI|-;refine aY O (aR O O (ay O ?_));refine aK _ O (λh1=>?_) (λh1=>?_)
 ·refine aC O (auJ (az.dq hR).2 O O O ac h1 (bg (az.dq hR) O ?_));refine aq O (aR O O (cV O ?_));refine aI (y4 _ _ _ _) O ?_;rintro _ _ ⟨rfl,rfl⟩
  first|refine cO rfl rfl ?_|refine dv rfl rfl ?_
  refine aq O (b9 26 O (λh2=>?_) (λh2=>?_))
  ·refine aB O (aB O (aB O (aB O (aB O (aB O (aB O (ay O ?_)))))));refine Cd.iw O (dE O (fz (fe ?_)));refine cK O ?_;exact⟨by rw[db (hI.bad (by omega) (by omega))],az.none⟩
  refine ar O (aq O (ar O (aq O (ar O (aq O (ar O ?_))))));refine auJ (az.dq hR).2 O O O ac h1 (ar O (bg (az.dq hR) O (ar O (aA (az.iQ 0 O).2 O (ar O (rj (az.iQ 0 O) O ac O O (ay O ?_)))))));refine Cd.cond O (λh3=>?_) (λh3=>?_)
  ·refine dE O (fz (fe ?_));refine cK O ?_;exact⟨by rw[db (hI.abL (by omega) (by omega) h3)],az.none⟩
  refine aC O (auJ (az.dq hR).2 O O O ac h1 (bg (az.dq hR) O (aA (az.iQ 0 O).2 O (pn 0 az O O O ac ?_))));intro w3 aM;refine aq O (aJ O (aN O (tQ ?_)));exact⟨(k+1,S.set (gi p k).toNat true),by show p.length-(k+1)<p.length-k;omega,(auV O),aM,by show k+1<=_;omega,hI.step ac ac h3⟩
 refine ba O (bc (ew O ?_));refine cK O ?_;exact⟨by rw[dB (hI.done (by omega) (by omega))],az.none⟩
def fill{α:Type}(k:Nat)(xs:List α)(d:α):List α:=xs.take k++List.replicate (xs.length-k) d
theorem df{p:ag}{k:Nat}(h:k<p.length):gl p k=p[k]:=by simp[gl,b5,fL h]
theorem nV{p:ag}{k:Nat}(h:k<p.length):p.take (k+1)=p.take k++[gl p k]:=by rw[df h,oQ h]
theorem oK(A:ai)(n c:Nat)(w:aa):aF prog 57 [.slice A n c] w (λv w'=>v=aj n/\w'=w):=by
 refine bn func57 O ntmps57 O (bM O) ?_;refine aY O (aR O O (bR O ?_));exact gj O ⟨O,O⟩
theorem BH(A:ai)(n c:Nat)(w:aa):aF prog 95 [.slice A n c] w (λv w'=>v=aj n/\w'=w):=by
 refine bn func95 O ntmps95 O (bM O) ?_;refine aY O (aR O O (bR O ?_));exact gj O ⟨O,O⟩
theorem alO(A:ai)(n c:Nat)(p:ah)(w:aa)(hR:bu w A n p):aF prog 123 [.slice A n c] w (λv w'=>v=.bool (decide (mL p))/\St w w' []):=by
 have hl:=hR.1;subst hl;refine bn func123 O ntmps123 O (bM O) ?_;refine aY O (aR O O (ay O ?_));refine aK _ O (λh=>?_) (λh=>?_)
 ·refine dE O (cK O ?_);exact⟨by rw[db (λhp:mL p=>by have:=hp.1;omega)],St.refl _⟩
 refine aC O (aR O O ?_);refine wb p.length (St.refl w) O O ac λA1 w1 ax=>aq O (aR O O (ay O ?_));refine Cd.loop (α:=Nat×List Bool) (λs=>[(0,.slice A p.length c),(3,.slice A1 p.length p.length),(12,.slice A p.length c),(13,aj (p.length:Int)),(14,aj (s.1:Int))]) (λs w'=>St w w' [fB 4 A1 p.length p.length s.2]/\s.1<=p.length/\Seen p s.1 s.2) (λs=>p.length-s.1) (0,List.replicate p.length false) (auV O) ⟨ax,bl _,Seen.zero p⟩ ?_;rintro⟨k,S⟩ e w2 ⟨az,hk,hI⟩;dsimp only at az hk hI|-;refine bC O (aK _ O (λh1=>?_) (λh1=>?_))
 ·refine aC O (auJ (az.dq hR).2 O O O ac h1 (bg (az.dq hR) O (aq O (aI (oK _ _ _ _) O ?_))));rintro _ _ ⟨rfl,rfl⟩;refine cV O (aI (uU _ _ _ _) O ?_);rintro _ _ ⟨rfl,rfl⟩
  first|refine cO rfl rfl ?_|refine dv rfl rfl ?_
  refine aq O (b9 24 O (λh2=>?_) (λh2=>?_))
  ·refine aB O (aB O (aB O (aB O (ay O ?_))));refine Cd.iw O (dE O (fz (fe ?_)));refine cK O ?_;exact⟨by rw[db (hI.bad (by omega) (by omega))],az.none⟩
  refine ar O (aq O (ar O (aq O (ar O ?_))));refine aA (az.iQ 0 O).2 O (ar O (rj (az.iQ 0 O) O ac O O (ay O ?_)));refine Cd.cond O (λh3=>?_) (λh3=>?_)
  ·refine dE O (fz (fe ?_));refine cK O ?_;exact⟨by rw[db (hI.abL (by omega) (by omega) h3)],az.none⟩
  refine aC O (aA (az.iQ 0 O).2 O (pn 0 az O O O ac ?_));intro w3 aM;refine aq O (aJ O (aN O (tQ ?_)));exact⟨(k+1,S.set (gi p k).toNat true),by show p.length-(k+1)<p.length-k;omega,(auV O),aM,by show k+1<=_;omega,hI.step ac ac h3⟩
 refine ba O (bc (ew O ?_));refine cK O ?_;exact⟨by rw[dB (hI.done (by omega) (by omega))],az.none⟩
def sQ(p:ah):Prop:=∀i:Nat,i<p.length->gi p i≠i/\gi p (gi p i)=i
instance (p:ah):Decidable (sQ p):=by unfold sQ;exact inferInstance
theorem mL.range(h:mL p){i:Int}(h0:0<=i)(h1:i<p.length):0<=gi p i/\gi p i<p.length:=by
 have e:gi p i=p[i.toNat]' ac:=by simp[gi,b5,fL (show i.toNat<p.length by omega)]
 rw[e];exact h.2.1 _ (dt _)
theorem amv(A:ai)(n c:Nat)(p:ah)(w:aa)(hR:bu w A n p)(hp:mL p):aF prog 78 [.slice A n c] w (λv w'=>v=.bool (decide (sQ p))/\w'=w):=by
 have hl:=hR.1;subst hl;have Bc:=hp.1;refine bn func78 O ntmps78 O (bM O) (bC O ?_);refine Cd.loop (α:=Nat) (λk=>[(0,.slice A p.length c),(3,aj k)]) (λk w'=>w'=w/\k<=p.length/\∀i,i<k->gi p i≠i/\gi p (gi p i)=i) (λk=>p.length-k) 0 (auV O) ⟨O,bl _,λi hi=>by omega⟩ ?_;rintro k e w2 ⟨rfl,hk,hI⟩;refine aY O (aR O O (ay O ?_));refine aK _ O (λh1=>?_) (λh1=>?_)
 ·have hr:=hp.range (i:=k) ac h1;refine aC O (auJ hR.2 O O O ac h1 (bg hR O (aq O ?_)));refine b9 16 O (λh2=>?_) (λh2=>?_)
  ·refine aB O (aB O (aB O (aB O (aB O (aB O (aB O (aB O (aB O (ay O ?_)))))))));refine Cd.iw O (dE O (fz (fe ?_)));refine cK O ?_;exact⟨by rw[db (λhf:sQ p=>(hf k (by omega)).1 h2)],O⟩
  refine ar O (aq O (ar O (aq O (ar O (aq O (ar O ?_))))));refine auJ hR.2 O O O ac h1 (ar O (bg hR O (ar O (aA hR.2 O (ar O (bg hR O ?_))))));refine ar O (aq O (ar O (ay O ?_)));refine aK _ O (λh3=>?_) (λh3=>?_)
  ·refine dE O (fz (fe ?_));refine cK O ?_;exact⟨by rw[db (λhf:sQ p=>h3 (hf k (by omega)).2)],O⟩
  refine aC O (aJ O (aN O (tQ ?_)));refine⟨k+1,ac,(auV O),O,ac,λi hi=>?_⟩
  by_cases e:i=k
  ·subst e;exact⟨h2,kW.1 h3⟩
  exact hI i ac
 refine ba O (bc (ew O ?_));refine cK O ?_;exact⟨by rw[dB (show sQ p from λi hi=>hI i (by omega))],O⟩
theorem alM(A:ai)(n c:Nat)(p:ah)(w:aa)(hR:bu w A n p):aF prog 68 [.slice A n c] w (λv w'=>v=.bool (decide (mL p/\sQ p))/\St w w' []):=by
 have hl:=hR.1;subst hl;refine bn func68 O ntmps68 O (bM O) (aY O (aI (alO _ _ _ _ _ hR) O ?_));rintro _ w1 ⟨rfl,ax⟩
 first|refine cO rfl rfl ?_|refine dv rfl rfl ?_
 refine ay O (aK _ O (λhp=>?_) (λhp=>?_))
 ·refine dE O (cK O ?_);exact⟨by rw[db (λh=>hp h.1)],ax⟩
 have hp:=kW.1 hp;have Bc:=hp.1;refine aC O (aR O O (ay O ?_));refine Cd.loop (α:=Nat) (λk=>[(0,.slice A p.length c),(8,.slice A p.length c),(9,aj (p.length:Int)),(10,aj k)]) (λk w'=>St w w' []/\k<=p.length/\∀i,i<k->gi p i≠i/\gi p (gi p i)=i) (λk=>p.length-k) 0 (auV O) ⟨ax,bl _,λi hi=>by omega⟩ ?_;rintro k e w2 ⟨az,hk,hI⟩;refine bC O (aK _ O (λh1=>?_) (λh1=>?_))
 ·have hr:=hp.range (i:=k) ac h1;have hA:=az.dq hR;refine aC O (auJ hA.2 O O O ac h1 (bg hA O (aq O ?_)));refine b9 18 O (λh2=>?_) (λh2=>?_)
  ·refine aB O (aB O (aB O (aB O (aB O (aB O (ay O ?_))))));refine Cd.iw O (dE O (fz (fe ?_)));refine cK O ?_;exact⟨by rw[db (λhf:mL p/\sQ p=>(hf.2 k (by omega)).1 h2)],az⟩
  refine ar O (aq O (ar O (aq O (ar O ?_))));refine aA hA.2 O (ar O (bg hA O ?_));refine ar O (aq O (ar O (ay O ?_)));refine aK _ O (λh3=>?_) (λh3=>?_)
  ·refine dE O (fz (fe ?_));refine cK O ?_;exact⟨by rw[db (λhf:mL p/\sQ p=>h3 (hf.2 k (by omega)).2)],az⟩
  refine aC O (aJ O (aN O (tQ ?_)));refine⟨k+1,ac,(auV O),az,ac,λi hi=>?_⟩
  by_cases e:i=k
  ·subst e;exact⟨h2,kW.1 h3⟩
  exact hI i ac
 refine ba O (bc (ew O ?_));refine cK O ?_;exact⟨by rw[dB (show mL p/\sQ p from⟨hp,λi hi=>hI i (by omega)⟩)],az⟩
theorem Ly(A Am:ai)(n c:Nat)(f:Nat->ab)(w:aa)(hR:Rd w A 1 f)(hf:f 0=.slice Am n c):aF prog 66 [.pointer A] w (λv w'=>v=aj n/\w'=w):=by
 refine bn func66 O ntmps66 O (bM O) (aY O ?_);refine dX hR am O O (aS hR O (auP hR O O hf O O (aI (BH _ _ _ _) O ?_)));rintro _ _ ⟨rfl,rfl⟩;refine bR O (gj O ?_);exact⟨O,O⟩
theorem Cf(A Am:ai)(n c:Nat)(rs:List aE)(xss:ag)(f:Nat->ab)(w:aa)(hR:Rd w A 1 f)(hf:f 0=.slice Am n c)(hM:bH w Am n rs xss)(hn:0<n):aF prog 67 [.pointer A] w (λv w'=>v=aj ((rg rs 0).n:Int)/\w'=w):=by
 refine bn func67 O ntmps67 O (bM O) (aY O ?_);refine dX hR am O O (aS hR O (auP hR O O hf O O (aA hM.top.2 O (bw hM.top O (aI (oK _ _ _ _) O ?_)))));rintro _ _ ⟨rfl,rfl⟩;refine bR O (gj O ?_);exact⟨O,O⟩
end
section
variable{N:Nat}{l p b:ah}{y pt:Int}
theorem Q7:∀(n:Nat)(l:List Nat),l.Nodup->(∀x∈l,x<n)->l.length<=n
 |0,l,_,h=>by
  cases l with
  |nil=>simp
  |cons a l=>exact absurd (h a (by simp)) ac
 |n+1,l,hn,h=>by
  have h1:=Q7 n (l.erase n) (hn.erase n) (λx hx=>by
   have h2:=(hn.mem_erase_iff).1 hx;have:=h x h2.2;omega)
  have:=List.length_erase_le (a:=n) (l:=l);rw[List.length_erase]at h1
  split at h1<;>omega
theorem tv(hn:l.Nodup)(h:∀x∈l,0<=x/\x<N):l.length<=N:=by
 have:=Q7 N (l.map Int.toNat) (by
  rw[List.nodup_iff_pairwise_ne,rV];refine List.Pairwise.imp_of_mem ?_ hn;intro a b ha hb gr e;have:=h a ha;have:=h b hb;omega) (λx hx=>by
  obtain⟨y,hy,rfl⟩:=de.1 hx;have:=h y hy;omega)
 simpa using this
def Sys(N:Nat)(xss:ag):Prop:=∀p∈xss,p.length=N/\∀x:Int,0<=x->x<N->0<=gi p x/\gi p x<N
inductive Reach(xss:ag)(x:Int):Int->Prop where
 |refl:Reach xss x x
 |step {y:Int}{p:ah}:Reach xss x y->p∈xss->Reach xss x (gi p y)
theorem Reach.trans{xss:ag}{x z:Int}(h:Reach xss x y)(h':Reach xss y z):Reach xss x z:=by
 induction h' with
 |refl=>exact h
 |step _ hp ih=>exact .step ih hp
def oG(out:ah)(y:Int):ah:=if y∈out then out else out++[y]
def expand(xss:ag)(x:Int)(out:ah):ah:=xss.foldl (λo p=>oG o (gi p x)) out
def sV(xss:ag):Nat->Nat->ah->ah
 |0,_,out=>out
 |f+1,i,out=>if i<out.length then sV xss f (i+1) (expand xss (gi out i) out)else out
def gw(N:Nat)(xss:ag)(pt:Int):ah:=sV xss (N+1) 0 [pt]
theorem Ru{out:ah}{z:Int}:z∈oG out y↔z∈out\/z=y:=by
 unfold oG
 split
 ·constructor
  ·exact Or.inl
  rintro(h|rfl)
  ·exact h
  assumption
 simp
theorem api{out:ah}(h:out.Nodup):(oG out y).Nodup:=by
 unfold oG
 split
 ·exact h
 rename_i hy;rw[List.nodup_append];refine⟨h,by simp,λa ha b hb=>?_⟩;simp at hb;subst hb;rintro rfl;exact hy ha
theorem aaA(out:ah)(y:Int):out<+:oG out y:=by
 unfold oG
 split
 ·exact List.prefix_rfl
 exact List.prefix_append _ _
structure Good(N:Nat)(xss:ag)(pt:Int)(out:ah):Prop where
 nodup:out.Nodup
 range:∀x∈out,0<=x/\x<(N:Int)
 reach:∀x∈out,Reach xss pt x
theorem Good.push{xss:ag}{out:ah}(h:Good N xss pt out)(hs:Sys N xss){x:Int}(hx:x∈out)(hp:p∈xss):Good N xss pt (oG out (gi p x)):=
 ⟨api h.nodup,λz hz=>by
  rcases Ru.1 hz with hz|rfl
  ·exact h.range z hz
  ·exact(hs p hp).2 x (h.range x hx).1 (h.range x hx).2,λz hz=>by
  rcases Ru.1 hz with hz|rfl
  ·exact h.reach z hz
  exact .step (h.reach x hx) hp⟩
theorem Good.len{xss:ag}{out:ah}(h:Good N xss pt out):out.length<=N:=tv h.nodup h.range
theorem foldl_push{N:Nat}{xss:ag}{pt:Int}(hs:Sys N xss){x:Int}:∀(ps:ag)(out:ah),(∀p∈ps,p∈xss)->Good N xss pt out->x∈out->
 Good N xss pt (ps.foldl (λo p=>oG o (gi p x)) out)/\out<+:ps.foldl (λo p=>oG o (gi p x)) out/\∀p∈ps,gi p x∈ps.foldl (λo p=>oG o (gi p x)) out
 |[],out,_,h,_=>⟨h,List.prefix_rfl,λp hp=>by cases hp⟩
 |q::ps,out,wW,h,hx=>by
  have h1:=h.push hs hx (wW q (by simp));have fx:=aaA out (gi q x);obtain⟨g1,g2,g3⟩:=foldl_push hs ps (oG out (gi q x)) (λp hp=>wW p (by simp[hp])) h1 (fx.subset hx);refine⟨g1,fx.trans g2,λp hp=>?_⟩;rcases gW.1 hp with rfl|hp
  ·exact g2.subset (Ru.2 (Or.inr O))
  ·exact g3 p hp
theorem gi_in{out:ah}{i:Nat}(h:i<out.length):gi out i∈out:=by rw[b7 h];exact dt h
theorem NW{a:ah}(h:a<+:b){i:Nat}(hi:i<a.length):gi b i=gi a i:=by
 rw[b7 hi,b7 (Nat.lt_of_lt_of_le hi h.length_le)];obtain⟨t,rfl⟩:=h;rw[List.getElem_append_left hi]
theorem TM{N:Nat}{xss:ag}{pt:Int}(hs:Sys N xss):∀(f i:Nat)(out:ah),Good N xss pt out->N<f+i->(∀j,j<i->j<out.length->∀p∈xss,gi p (gi out j)∈out)->
 Good N xss pt (sV xss f i out)/\out<+:sV xss f i out/\∀x∈sV xss f i out,∀p∈xss,gi p x∈sV xss f i out
 |0,i,out,h,hf,hc=>by
  simp only[sV];refine⟨h,List.prefix_rfl,λx hx p hp=>?_⟩;obtain⟨j,hj,rfl⟩:=fS.1 hx;have:=h.len;have:=hc j ac hj p hp;rw[b7 hj]at this;exact this
 |f+1,i,out,h,hf,hc=>by
  simp only[sV]
  split
  ·rename_i hi;obtain⟨g1,g2,g3⟩:=foldl_push hs xss out (λp hp=>hp) h (gi_in hi);replace g2:out<+:expand xss (gi out i) out:=g2;obtain⟨k1,k2,k3⟩:=TM hs f (i+1) (expand xss (gi out i) out) g1 ac (λj hj gp p hp=>by
    by_cases AO:j=i
    ·subst AO;show gi p (gi (expand xss _ out) _)∈expand xss _ out;rw[NW g2 hi];exact g3 p hp
    ·have GU:j<out.length:=by omega
     show gi p (gi (expand xss _ out) _)∈expand xss _ out;rw[NW g2 GU];exact g2.subset (hc j ac GU p hp))
   exact⟨k1,g2.trans k2,k3⟩
  ·rename_i hi;refine⟨h,List.prefix_rfl,λx hx p hp=>?_⟩;obtain⟨j,hj,rfl⟩:=fS.1 hx;have:=hc j ac hj p hp;rw[b7 hj]at this;exact this
theorem VE{xss:ag}(h0:0<=pt)(h1:pt<N):Good N xss pt [pt]:=
 ⟨by simp,λx hx=>by simp at hx;subst hx;exact⟨h0,h1⟩,λx hx=>by simp at hx;subst hx;exact .refl⟩
theorem zd{xss:ag}(hs:Sys N xss)(h0:0<=pt)(h1:pt<N):
 Good N xss pt (gw N xss pt)/\ [pt]<+:gw N xss pt/\∀x,x∈gw N xss pt↔Reach xss pt x:=by
 obtain⟨g1,g2,g3⟩:=TM (N:=N) hs (N+1) 0 [pt] (VE h0 h1) ac (λj hj=>by omega);refine⟨g1,g2,λx=>⟨g1.reach x,λhr=>?_⟩⟩
 induction hr with
 |refl=>exact g2.subset (by simp)
 |step _ hp ih=>exact g3 _ ih _ hp
end
section
open Go.RowKit
variable{M b d:Nat}
def zG(M:Nat)(S:List Bool)(out:ah):Prop:=S.length=M/\∀x:Int,0<=x->x<M->(gb S x=true↔x∈out)
theorem zG.init{pt:Int}(h0:0<=pt)(h1:pt<M):zG M ((List.replicate M false).set pt.toNat true) [pt]:=by
 refine⟨by simp,λx hx jT=>?_⟩;rw[F4 h0 (by simpa using h1) hx]
 by_cases e:pt=x
 ·simp[e]
 rw[aD e];have:x≠pt:=λh=>e h.symm
 simp[gb,b5,List.getElem?_replicate,this]
 split<;>simp
theorem zG.push{S:List Bool}{out:ah}{y:Int}(h:zG M S out)(h0:0<=y)(h1:y<M):zG M (S.set y.toNat true) (out++[y]):=by
 refine⟨by simpa using h.1,λx hx jT=>?_⟩;rw[F4 h0 (by rw[h.1];exact h1) hx,dF]
 by_cases e:y=x
 ·simp[e]
 rw[aD e,h.2 x hx jT];have:x≠y:=λh=>e h.symm
 simp[this]
theorem aea{xss:ag}{f i:Nat}{out:ah}(h:¬i<out.length):sV xss f i out=out:=by
 cases f with
 |zero=>rfl
 |succ f=>simp only[sV];rw[aD h]
theorem bH.qc{w:aa}{A:ai}{n:Nat}{rs:List aE}{xss:ag}(h:bH w A n rs xss){k:Int}(h0:0<=k)(h1:k<n):(gl xss k).length=(rg rs k).n:=(h.at_ h0 h1).1
theorem rD{xss:ag}{k:Int}(h0:0<=k)(h:k<xss.length):gl xss k∈xss:=by
 obtain⟨j,rfl⟩:∃j:Nat,k=j:=⟨k.toNat,ac⟩;rw[df (by omega)];exact dt _
theorem Zc(A:ai)(n c:Nat)(rs:List aE)(xss:ag)(N:Nat)(pt:Int)(w:aa)(hR:bH w A n rs xss)(hn:n<=9223372036854775807)(hs:Sys N xss)(hN:N<=1000000000)(h0:0<=pt)(h1:pt<N):
 aF prog 79 [.slice A n c,aj pt] w (λv w'=>∃A' c',v=.slice A' (gw N xss pt).length c'/\St w w' [av 2 A' (gw N xss pt).length c' (gw N xss pt)]):=by
 have bT:∀k:Int,0<=k->k<n->(rg rs k).n=N:=λk ue hk=>by
  rw[<-hR.qc ue hk];exact(hs _ (rD ue (by rw[hR.len];exact hk))).1
 refine bn func79 O ntmps79 O (bM O) (aY O (eh (St.refl w) O O O ?_));intro A1 w1 ax;refine tG 2 O (lH (α:=Nat) (λs=>[(0,.slice A n c),(1,aj pt),(5,.slice A1 1 1),(6,aj s)]) (λs w'=>w'=w1/\s<=N/\(0<n->s=N)) ?_ ?_)
 ·refine aY O (aR O O (ay O ?_));refine aK _ O (λh2=>?_) (λh2=>?_)
  ·refine aC O (aA (ax.pc hR.top).2 O (bw (ax.pc hR.top) O ?_));refine aR O O (aN O (tQ ?_));exact⟨N,⟨O,O,O,by rw[bT 0 (by omega) (by omega)];rfl,au⟩,O,cJ _,λ_=>O⟩
  refine jE O (tQ ?_);exact⟨0,(auV O),O,bl _,λh=>by omega⟩
 rintro s e1 w2 ⟨rfl,hsN,l7⟩;have wX:n=0->N=N:=λ_=>O
 refine aC O (aJ O (aJ O ?_));refine wb (s+pt.toNat+1) ax (by show Value.int .i64 _=Value.int .i64 _;congr 1;omega) O ac ?_;intro A2 w3 aM;refine aq O (aA (aM.iQ 0 O).2 O (pn 0 aM O O O ac ?_));intro w4 aU;refine ay O (Cd.loop (α:=Nat×ah×ai×Nat×List Bool) (λq=>[(0,.slice A n c),(5,.slice q.2.2.1 q.2.1.length q.2.2.2.1),(7,.slice A2 (s+pt.toNat+1) (s+pt.toNat+1)),(8,aj (q.1:Int))]) (λq w'=>St w w' [fB 4 A2 (s+pt.toNat+1) (s+pt.toNat+1) q.2.2.2.2,av 2 q.2.2.1 q.2.1.length q.2.2.2.1 q.2.1]/\q.1<=q.2.1.length/\Good N xss pt q.2.1/\zG (s+pt.toNat+1) q.2.2.2.2 q.2.1/\sV xss (N+1-q.1) q.1 q.2.1=gw N xss pt) (λq=>N+1-q.1) (0,[pt],A1,1,(List.replicate (s+pt.toNat+1) false).set pt.toNat true) (auV O) ⟨aU,bl _,VE h0 h1,zG.init h0 ac,O⟩ ?_);rintro⟨i,out,Ao,co,S⟩ e2 w5 ⟨aO,hi,hg,hm,hb⟩;dsimp only at aO hi hg hm hb|-;have hlen:=hg.len;refine aY O (aR O O (ay O ?_));refine aK _ O (λh2=>?_) (λh2=>?_)
 ·refine cM O (Cd.loop (α:=Nat×ah×ai×Nat×List Bool) (λq=>[(0,.slice A n c),(5,.slice q.2.2.1 q.2.1.length q.2.2.2.1),(7,.slice A2 (s+pt.toNat+1) (s+pt.toNat+1)),(8,aj i),(9,aj (q.1:Int))]) (λq w'=>St w w' [fB 4 A2 (s+pt.toNat+1) (s+pt.toNat+1) q.2.2.2.2,av 2 q.2.2.1 q.2.1.length q.2.2.2.1 q.2.1]/\q.1<=n/\Good N xss pt q.2.1/\zG (s+pt.toNat+1) q.2.2.2.2 q.2.1/\out<+:q.2.1/\(xss.drop q.1).foldl (λo p=>oG o (gi p (gi out i))) q.2.1=expand xss (gi out i) out) (λq=>n-q.1) (0,out,Ao,co,S) (auV O) ⟨aO,bl _,hg,hm,List.prefix_rfl,O⟩ ?_);rintro⟨k,nQ,Io,Nf,S'⟩ e3 w6 ⟨bk,hk,ud,jS,gR,hf⟩;dsimp only at bk hk ud jS gR hf|-;have oy:=ud.len;refine aY O (aR O O (ay O ?_));refine aK _ O (λh3=>?_) (λh3=>?_)
  ·have CN:i<nQ.length:=by have:=gR.length_le;omega
   have Ps:gi nQ i=gi out i:=NW gR ac;have qO:=hg.range _ (gi_in (i:=i) ac);have iq:gl xss k∈xss:=rD ac (by rw[hR.len];omega);have hy:=(hs _ iq).2 (gi out i) qO.1 qO.2;have e6:=bT k ac ac;have hsN:s=N:=l7 ac;have hT:=(bk.bU hR);have hO:=bk.bF 1 O;have br:=hT.at_ (i:=k) ac ac;refine cM O ?_;refine ec [xS (A) (n) (c),xI ((k:Int)),xP (aH (A) ((k:Int)).toNat),xS ((rg (rs) ((k:Int))).a) ((rg (rs) ((k:Int))).n) ((rg (rs) ((k:Int))).c),xS (Io) (nQ.length) (Nf),xI ((i:Int)),xP (aH (Io) ((i:Int)).toNat),xI (gi (nQ) ((i:Int))),xP (aH ((rg (rs) ((k:Int))).a) (gi (nQ) ((i:Int))).toNat),xI (gi (gl xss k) (gi (nQ) ((i:Int)))),xI (gi (gl xss k) (gi (nQ) ((i:Int))))] O (eK O) ?_ ?_
   ·exact⟨Dr O,Dr O,λ_ _ hb _ _=>aA (hT.top.ao hb).2 O Az,λ_ _ hb _ _=>bw (hT.top.ao hb) O Az,Dr O,Dr O,λ_ _ hb _ _=>aA (hO.ao hb).2 O Az,λ_ _ hb _ _=>bg (hO.ao hb) O Az,λ_ _ hb _ _=>auJ (br.ao hb).2 O O O (by rw[Ps];omega) (by rw[Ps,e6];omega) Az,λ_ _ hb _ _=>bg (br.ao hb) O Az,Dr O,au⟩
   intro u w7 s9 _;have bp:=bk.ao s9;rw[Ps];have Kg:(xss.drop (k+1)).foldl (λo p=>oG o (gi p (gi out i))) (oG nQ (gi (gl xss k) (gi out i)))=expand xss (gi out i) out:=by
    rw[<-hf,List.drop_eq_getElem_cons (show k<xss.length by rw[hR.len];omega),List.foldl_cons,df (by rw[hR.len];omega)]
   refine gq O (aA (bp.iQ 0 O).2 O (rj (bp.iQ 0 O) O ac O O ?_))
   first|refine cO rfl rfl ?_|refine dv rfl rfl ?_
   refine ay O (Cd.cond O (λh4=>?_) (λh4=>?_))
   ·have akf:¬gi (gl xss k) (gi out i)∈nQ:=λcE=>by
     have:=(jS.2 _ hy.1 ac).2 cE;rw[this]at h4;cases h4
    have P7:oG nQ (gi (gl xss k) (gi out i))=nQ++[gi (gl xss k) (gi out i)]:=by unfold oG;rw[if_neg akf]
    have GM:=ud.push hs (gR.subset (gi_in (i:=i) ac)) iq;have XP:=gR.trans (aaA nQ (gi (gl xss k) (gi out i)));rw[P7]at Kg GM XP;have ajY:=GM.len;simp only[cj,List.length_singleton]at ajY;refine aC O (aA (bp.iQ 0 O).2 O (pn 0 bp O O O ac ?_));intro w8 bB;refine aq O (eh bB O O O ?_);intro A3 w9 bj;refine eQ 2 bj O (bj.bF 0 O) O O O λA4 c4 dJ cQ=>aq O (aJ O (aN O (tQ ?_)));refine⟨(k+1,nQ++[gi (gl xss k) (gi out i)],A4,c4,S'.set (gi (gl xss k) (gi out i)).toNat true),by show n-(k+1)<n-k;omega,⟨O,by rw[cj];rfl,O,O,O,au⟩,?_,by show k+1<=n;omega,GM,jS.push hy.1 ac,XP,Kg⟩;have sZ:=cQ.tail;simp only[cj,List.length_singleton];exact sZ
   have cE:gi (gl xss k) (gi out i)∈nQ:=(jS.2 _ hy.1 ac).1 (by simpa using h4);have P7:oG nQ (gi (gl xss k) (gi out i))=nQ:=by unfold oG;rw[if_pos cE]
   rw[P7]at Kg;refine aC O (aJ O (aN O (tQ ?_)));exact⟨(k+1,nQ,Io,Nf,S'),by show n-(k+1)<n-k;omega,(auV O),bp,by show k+1<=n;omega,ud,jS,gR,Kg⟩
  refine ba O (bc (bY O (aJ O (aN O (tQ ?_)))));have fU:k=n:=by omega
  rw[fU,<-hR.len,List.drop_length,List.foldl_nil]at hf;refine⟨(i+1,nQ,Io,Nf,S'),by show N+1-(i+1)<N+1-i;omega,(auV O),bk,?_,ud,jS,?_⟩
  ·have:=gR.length_le;show i+1<=nQ.length;omega
  show sV xss (N+1-(i+1)) (i+1) nQ=gw N xss pt;rw[<-hb,hf];have e:N+1-i=(N+1-(i+1))+1:=by omega
  rw[e];simp only[sV];rw[aG (by omega)]
 refine ba O (bc (ew O ?_));refine dV O ?_;rw[aea (by omega)]at hb;exact⟨Ao,co,by rw[hb],by rw[<-hb];exact aO.tail⟩
def jN(l:List Oper):List Nat:=l.filterMap (·.dst)
theorem NC{α β:Type}(f:α->Option β):∀(l:List α),(l.filterMap f).Nodup->∀(i j:Nat)(a b:α)(d:β),l[i]?=some a->l[j]?=some b->f a=some d->f b=some d->i=j
 |[],_,i,j,a,b,d,hi,_,_,_=>by simp at hi
 |x::l,hn,i,j,a,b,d,hi,hj,ha,hb=>by
  have mem:∀(k:Nat)(c:α),l[k]?=some c->f c=some d->d∈l.filterMap f:=λk c hk hc=>List.mem_filterMap.2 ⟨c,List.mem_of_getElem? hk,hc⟩
  cases hx:f x with
  |none=>
   rw[List.filterMap_cons,hx]at hn;cases i with
   |zero=>simp at hi;subst hi;rw[hx]at ha;cases ha
   |succ i=>
    cases j with
    |zero=>simp at hj;subst hj;rw[hx]at hb;cases hb
    |succ j=>rw[NC f l hn i j a b d (by simpa using hi) (by simpa using hj) ha hb]
  |some y=>
   rw[List.filterMap_cons,hx]at hn;simp only[mj]at hn;cases i with
   |zero=>
    simp at hi;subst hi;rw[hx]at ha;cases ha;cases j with
    |zero=>rfl
    |succ j=>exact absurd (mem j b (by simpa using hj) hb) hn.1
   |succ i=>
    cases j with
    |zero=>
     simp at hj;subst hj;rw[hx]at hb;cases hb;exact absurd (mem i a (by simpa using hi) ha) hn.1
    |succ j=>rw[NC f l hn.2 i j a b d (by simpa using hi) (by simpa using hj) ha hb]
def valOf(o:Oper)(e:Env):ab:=match o.dst with
 |some d=>e d
 |none=>undef
def YQ:Yd->Bool
 | .ex _=>true
 | .pr _=>false
def Lc(l:List Oper)(ms:List Nat)(k:Nat):Nat:=ms.countP λm=>ij l l.length k m
def Et(l:List Oper)(ms:List Nat)(k:Nat):Nat:=ms.countP λm=>!(ij l l.length m k) && !(Nat.beq m k)
def lC(l:List Oper)(ms:List Nat)(k:Nat):Nat:=ms.countP λm=>Nat.beq m k||ij l l.length k m
def DM(l:List Oper)(ms:List Nat)(m:Nat):Bool:=ms.all λm'=>Nat.beq m' m||ij l l.length m m'||ij l l.length m' m
def Yd.at_(c ph:Nat):Yd->ab->aa->Prop
 | .ex v,u,_=>u=v
 | .pr p,u,w=>c=ph->p u w
theorem auG{a c:Nat}(h:a<=c)(e:a=b):b<=c:=e▸h
theorem lz{a c:Nat}(h:c<=a)(e:a=b):c<=b:=e▸h
theorem M8{a c:Nat}(h:a<=c)(k:c<=d)(e:a=b:=by kernel_rfl)(f:d=b:=by kernel_rfl):c=b:=by omega
section
variable {P:Program}{N:Nat}{e:Env}{w:aa}
theorem abP(e1:Env)(d:Nat)(v:ab):bE e1 d v d=v:=by unfold bE;rw[Nat.beq_refl];rfl
theorem abQ(e1:Env){d j:Nat}(v:ab)(h:j≠d):bE e1 d v j=e1 j:=by
 have:Nat.beq j d=false:=by
  cases hb:Nat.beq j d with
  |false=>rfl
  |true=>exact absurd (lg hb) h
 unfold bE;rw[this];rfl
theorem Jd{ms:List Nat}{p q:Nat->Bool}(h:∀m∈ms,p m=true->q m=true):ms.countP p<=ms.countP q:=List.countP_mono_left h
end
inductive Ye where
 |ex (v:ab)
 |pr (p:ab->aa->Prop)
 |p2 (j:Nat) (p:ab->ab->aa->Prop)
 |al (q:ab->Prop) (p:ab->aa->Prop)
def vl(l:List Oper)(e:Env)(k:Nat):ab:=match l[k]? with
 |some o=>valOf o e
 |none=>undef
def Ye.holds(uu:Nat->ab):Ye->ab->aa->Prop
 | .ex v,u,_=>u=v
 | .pr p,u,w=>p u w
 | .p2 j p,u,w=>p (uu j) u w
 | .al q p,u,w=>q u/\p u w
def Ye.rN:Ye->Prop
 | .ex _=>True
 | .pr p=>∀v w w',p v w->Below w.heap.size w w'->p v w'
 | .p2 _ p=>∀a v w w',p a v w->Below w.heap.size w w'->p a v w'
 | .al _ p=>∀v w w',p v w->Below w.heap.size w w'->p v w'
theorem Ye.ank(v:ab):(Ye.ex v).rN:=True.intro
theorem ly{v:ab}{l:List Ye}(h:∀y∈l,y.rN):∀y∈Ye.ex v::l,y.rN:=bV.2 ⟨True.intro,h⟩
theorem Ye.bW{p:ab->aa->Prop}(h:∀v w w',p v w->Below w.heap.size w w'->p v w'):(Ye.pr p).rN:=h
abbrev yU:Ye:=.ex undef
abbrev yI(i:Int):Ye:=.ex (aj i)
abbrev yB(b:Bool):Ye:=.ex (.bool b)
abbrev yP(a:ai):Ye:=.ex (.pointer a)
abbrev yS(a:ai)(n c:Nat):Ye:=.ex (.slice a n c)
theorem adb{q:ab->Prop}{p:ab->aa->Prop}(h:∀v w w',p v w->Below w.heap.size w w'->p v w'):(Ye.al q p).rN:=h
def YR:Ye->Bool
 | .ex _=>true
 | .pr _=>false
 | .p2 ..=>false
 | .al ..=>false
def Uz(N:Nat)(l:List Oper)(ys:List Ye)(ms:List Nat):Bool:=
 l.all (λo=>match o.dst with|some d=>Nat.blt d N|none=>true) && decide ((jN l).Nodup) &&(l.zipIdx.all λp=>(eS p.1).all λed=>Nat.blt ed.on p.2) && Nat.beq l.length ys.length &&(l.zip ys).all (λp=>p.1.dst.isSome|| !YR p.2) && decide ms.Nodup && ms.all (λm=>Nat.blt m l.length) &&(ys.zipIdx.all λp=>!(YR p.1)|| !(ms.contains p.2)) &&(ys.zipIdx.all λp=>match p.1 with| .p2 j _=>ij l l.length p.2 j && Nat.blt j l.length|_=>true)
def Ye.at_(c ph:Nat)(uu:Nat->ab):Ye->ab->aa->Prop
 | .ex v,u,_=>u=v
 | .pr p,u,w=>c=ph->p u w
 | .p2 j p,u,w=>c=ph->p (uu j) u w
 | .al q p,u,w=>q u/\(c=ph->p u w)
def rB:List Oper->List Ye->(Nat->ab)->Nat->List (Nat×ab)
 |o::l,y::ys,u,i=>match o.dst,y with
  |some d,.ex v=>(d,v)::rB l ys u (i+1)
  |some d,.pr _=>(d,u i)::rB l ys u (i+1)
  |some d,.p2 ..=>(d,u i)::rB l ys u (i+1)
  |some d,.al ..=>(d,u i)::rB l ys u (i+1)
  |none,_=>rB l ys u (i+1)
 |_,_,_,_=>[]
def om(l:List Oper)(ys:List Ye):List Edge->List (Nat×ab)
 |[]=>[]
 |ed::r=>match ys[ed.on]?,(l[ed.on]?).bind (·.dst)with
  |some (.ex v),some d=>(d,v)::om l ys r
  |_,_=>om l ys r
section
variable{o:Oper}{y:Ye}{e1:Env}{w1 w2:aa}{d id:Nat}{l:List Oper}{ys:List Ye}{ms:List Nat}
variable {P:Program}{N:Nat}{e:Env}{w:aa}
def eD(o:Oper)(y:Ye)(uu:Nat->ab)(e1:Env)(w1:aa):Env->aa->Prop:=λe2 w2=>Below w1.heap.size w1 w2/\y.holds uu (valOf o e2) w2/\∀j,o.dst≠some j->e2 j=e1 j
def dS(o:Oper)(y:Ye)(uu:Nat->ab)(e1:Env):Env->aa->Prop:=λe2 w2=>y.holds uu (valOf o e2) w2/\∀j,o.dst≠some j->e2 j=e1 j
theorem eD.dn{uu:Nat->ab}{v:ab}(hd:o.dst=some d)(hb:Below w1.heap.size w1 w2)(hv:y.holds uu v w2):eD o y uu e1 w1 (bE e1 d v) w2:=by
 refine⟨hb,?_,λj hj=>abQ e1 v (λh=>hj (by rw[hd,h]))⟩;unfold valOf;rw[hd];show y.holds uu (bE e1 d v d) w2;rw[abP];exact hv
theorem fp{uu:Nat->ab}{v:ab}(hd:o.dst=some d)(hv:y.holds uu v w1):eD o y uu e1 w1 (bE e1 d v) w1:=eD.dn hd (Below.refl _ _) hv
theorem dS.dn{uu:Nat->ab}{v:ab}(hd:o.dst=some d)(hv:y.holds uu v w2):dS o y uu e1 (bE e1 d v) w2:=by
 refine⟨?_,λj hj=>abQ e1 v (λh=>hj (by rw[hd,h]))⟩;unfold valOf;rw[hd];show y.holds uu (bE e1 d v d) w2;rw[abP];exact hv
theorem dS.st{uu:Nat->ab}(hd:o.dst=none)(hv:y.holds uu undef w2):dS o y uu e1 e1 w2:=by
 refine⟨?_,λj _=>O⟩;unfold valOf;rw[hd];exact hv
def zJ(P:Program)(N:Nat)(l:List Oper)(ys:List Ye)(ms:List Nat)(e:Env)(w:aa)(i:Nat)(o:Oper):Prop:=
 ∀(e1:Env)(w1:aa)(c:Nat),Lc l ms i<=c->c<=Et l ms i->(c=0->Below w.heap.size w w1)->(∀(j:Nat)(y:Ye)(o':Oper),ij l l.length i j=true->ys[j]?=some y->l[j]?=some o'->y.at_ c (lC l ms j) (vl l e1) (valOf o' e1) w1)->(∀(j:Nat)(o':Oper),l[j]?=some o'->ij l l.length j i=true->valOf o' e1=valOf o' e)->(∀(m:Nat)(y:Ye)(o':Oper),ir ms m=true->DM l ms m=true->lC l ms m=c->ys[m]?=some y->l[m]?=some o'->y.at_ c (lC l ms m) (vl l e1) (valOf o' e1) w1)->
  bif ir ms i then ak P N l.toArray (dS o (ys.getD i (.pr λ_ _=>True)) (vl l e1) (ext (mix e1 e (jN l)) (om l ys (eS o)))) [o] (ext (mix e1 e (jN l)) (om l ys (eS o))) w1
  else ak P N l.toArray (eD o (ys.getD i (.pr λ_ _=>True)) (vl l e1) (ext (mix e1 e (jN l)) (om l ys (eS o))) w1) [o] (ext (mix e1 e (jN l)) (om l ys (eS o))) w1
theorem DkP{ops:Array Oper}{uu:Nat->ab}{v:ab}(h:vT ops N e1 o=some (d,v))(hv:y.holds uu v w1):ak P N ops (eD o y uu e1 w1) [o] e1 w1:=.vT h (eD.dn (abA h) (Below.refl _ _) hv)
theorem bA{ops:Array Oper}{uu:Nat->ab}{v:ab}(hd:o.dst=some d)(hv:y.holds uu v w1):ak P N ops (eD o y uu e1 w1) [] (bE e1 d v) w1:=ak.n (eD.dn hd (Below.refl _ _) hv)
theorem bP{i:Nat}{v:ab}(h:((ir ms i,(ys.getD i (.pr λ_ _=>True))),λe1=>vT l.toArray N (ext (mix e1 e (jN l)) (om l ys (eS o))) o)=((false,.ex v),λ_=>some (d,v))):zJ P N l ys ms e w i o:=λe1 w1 c _ _ _ _ _ _=>by
 have h1:=congrFun (Prod.mk.inj h).2 e1;rw[(Prod.mk.inj (Prod.mk.inj h).1).1,(Prod.mk.inj (Prod.mk.inj h).1).2];exact DkP h1 O
theorem cP{i:Nat}(h:∀(e1:Env)(w1:aa),Below w.heap.size w w1->(∀(j:Nat)(y:Ye)(o':Oper),ij l l.length i j=true->ys[j]?=some y->l[j]?=some o'->y.at_ 0 (lC l ms j) (vl l e1) (valOf o' e1) w1)->(∀(j:Nat)(o':Oper),l[j]?=some o'->ij l l.length j i=true->valOf o' e1=valOf o' e)->(∀(m:Nat)(y:Ye)(o':Oper),ir ms m=true->DM l ms m=true->lC l ms m=0->ys[m]?=some y->l[m]?=some o'->y.at_ 0 (lC l ms m) (vl l e1) (valOf o' e1) w1)->
 ak P N l.toArray (eD o (ys.getD i (.pr λ_ _=>True)) (vl l e1) (ext (mix e1 e (jN l)) (om l ys (eS o))) w1) [o] (ext (mix e1 e (jN l)) (om l ys (eS o))) w1) (ht:ir ms i=false:=by kernel_rfl) (hh:Et l ms i=0:=by kernel_rfl):zJ P N l ys ms e w i o:=λe1 w1 c _ cI hb hp aW hq=>by
 obtain rfl:c=0:=by omega
 rw[ht];exact h e1 w1 (hb rfl) hp aW hq
theorem iF{i:Nat}(h:∀(e1:Env)(w1:aa),Below w.heap.size w w1->(∀(j:Nat)(y:Ye)(o':Oper),ij l l.length i j=true->ys[j]?=some y->l[j]?=some o'->y.at_ 0 (lC l ms j) (vl l e1) (valOf o' e1) w1)->(∀(j:Nat)(o':Oper),l[j]?=some o'->ij l l.length j i=true->valOf o' e1=valOf o' e)->(∀(m:Nat)(y:Ye)(o':Oper),ir ms m=true->DM l ms m=true->lC l ms m=0->ys[m]?=some y->l[m]?=some o'->y.at_ 0 (lC l ms m) (vl l e1) (valOf o' e1) w1)->
 ak P N l.toArray (dS o (ys.getD i (.pr λ_ _=>True)) (vl l e1) (ext (mix e1 e (jN l)) (om l ys (eS o)))) [o] (ext (mix e1 e (jN l)) (om l ys (eS o))) w1) (ht:ir ms i=true:=by kernel_rfl) (hh:Et l ms i=0:=by kernel_rfl):zJ P N l ys ms e w i o:=λe1 w1 c _ cI hb hp aW hq=>by
 obtain rfl:c=0:=by omega
 rw[ht];exact h e1 w1 (hb rfl) hp aW hq
theorem dP{i:Nat}(b:Nat)(h:∀(e1:Env)(w1:aa),(∀(j:Nat)(y:Ye)(o':Oper),ij l l.length i j=true->ys[j]?=some y->l[j]?=some o'->y.at_ b (lC l ms j) (vl l e1) (valOf o' e1) w1)->(∀(j:Nat)(o':Oper),l[j]?=some o'->ij l l.length j i=true->valOf o' e1=valOf o' e)->(∀(m:Nat)(y:Ye)(o':Oper),ir ms m=true->DM l ms m=true->lC l ms m=b->ys[m]?=some y->l[m]?=some o'->y.at_ b (lC l ms m) (vl l e1) (valOf o' e1) w1)->
 ak P N l.toArray (eD o (ys.getD i (.pr λ_ _=>True)) (vl l e1) (ext (mix e1 e (jN l)) (om l ys (eS o))) w1) [o] (ext (mix e1 e (jN l)) (om l ys (eS o))) w1) (ht:ir ms i=false:=by kernel_rfl) (hl:Lc l ms i=b:=by kernel_rfl) (hh:Et l ms i=b:=by kernel_rfl):zJ P N l ys ms e w i o:=λe1 w1 c eL cI _ hp aW hq=>by
 obtain rfl:c=b:=by omega
 rw[ht];exact h e1 w1 hp aW hq
theorem kB{i:Nat}(b:Nat)(h:∀(e1:Env)(w1:aa),(∀(j:Nat)(y:Ye)(o':Oper),ij l l.length i j=true->ys[j]?=some y->l[j]?=some o'->y.at_ b (lC l ms j) (vl l e1) (valOf o' e1) w1)->(∀(j:Nat)(o':Oper),l[j]?=some o'->ij l l.length j i=true->valOf o' e1=valOf o' e)->(∀(m:Nat)(y:Ye)(o':Oper),ir ms m=true->DM l ms m=true->lC l ms m=b->ys[m]?=some y->l[m]?=some o'->y.at_ b (lC l ms m) (vl l e1) (valOf o' e1) w1)->
 ak P N l.toArray (dS o (ys.getD i (.pr λ_ _=>True)) (vl l e1) (ext (mix e1 e (jN l)) (om l ys (eS o)))) [o] (ext (mix e1 e (jN l)) (om l ys (eS o))) w1) (ht:ir ms i=true:=by kernel_rfl) (hl:Lc l ms i=b:=by kernel_rfl) (hh:Et l ms i=b:=by kernel_rfl):zJ P N l ys ms e w i o:=λe1 w1 c eL cI _ hp aW hq=>by
 obtain rfl:c=b:=by omega
 rw[ht];exact h e1 w1 hp aW hq
theorem aP{i:Nat}(h:∀(e1:Env)(w1:aa),ak P N l.toArray (eD o (ys.getD i (.pr λ_ _=>True)) (vl l e1) (ext (mix e1 e (jN l)) (om l ys (eS o))) w1) [o] (ext (mix e1 e (jN l)) (om l ys (eS o))) w1)(ht:ir ms i=false:=by kernel_rfl):zJ P N l ys ms e w i o:=λe1 w1 c _ _ _ _ _ _=>by
 rw[ht];exact h e1 w1
def FN(P:Program)(N:Nat)(l:List Oper)(ys:List Ye)(ms:List Nat)(e:Env)(w:aa):Nat->List Oper->Prop
 |_,[]=>True
 |i,o::r=>zJ P N l ys ms e w i o/\FN P N l ys ms e w (i+1) r
theorem FN.get:∀{r:List Oper}{i:Nat},FN P N l ys ms e w i r->∀k o,r[k]?=some o->zJ P N l ys ms e w (i+k) o
 |[],_,_,k,o,hk=>by simp at hk
 |x::r,i,h,0,o,hk=>by simp at hk;subst hk;exact h.1
 |x::r,i,h,k+1,o,hk=>by
  have:=FN.get h.2 k o (by simpa using hk);rw[show i+1+k=i+(k+1) by omega]at this;exact this
theorem Ux{l:List Oper}{ys:List Ye}{e1:Env}:∀(af:List Edge),(∀ed∈af,∀(v:ab)(o':Oper),ys[ed.on]?=some (.ex v)->l[ed.on]?=some o'->valOf o' e1=v)->Mt e1 (om l ys af)
 |[],_=>au
 |ed::r,h=>by
  have hr:=Ux r (λx hx=>h x (fE _ hx));unfold om
  split
  ·rename_i v d hy hd;refine⟨?_,hr⟩;cases ho:l[ed.on]? with
   |none=>rw[ho]at hd;cases hd
   |some o'=>
    rw[ho]at hd;have wM:o'.dst=some d:=hd;have:=h ed (by simp) v o' hy ho;unfold valOf at this;rw[wM]at this;exact this
  ·exact hr
theorem UD{e1 e:Env}:∀(l:List Oper)(ys:List Ye)(i:Nat),l.length=ys.length->(jN l).Nodup->(∀(k:Nat)(v:ab)(o:Oper),ys[k]?=some (.ex v)->l[k]?=some o->valOf o e1=v\/o.dst=none)->
 ∃u:Nat->ab,ext e (rB l ys u i)=mix e1 e (jN l)/\(∀(k:Nat)(o:Oper),l[k]?=some o->u (i+k)=valOf o e1)
 |[],[],i,_,_,_=>⟨λ_=>undef,by funext j;rfl,λk o h=>by simp at h⟩
 |[],y::ys,i,hl,_,_=>by simp at hl
 |o::l,[],i,hl,_,_=>by simp at hl
 |o::l,y::ys,i,hl,hn,h=>by
  have tj:(jN l).Nodup:=by
   unfold jN at hn|-;rw[List.filterMap_cons]at hn
   split at hn
   ·exact hn
   ·exact(mj.1 hn).2
  obtain⟨u,hu,xg⟩:=UD (e1:=e1) (e:=e) l ys (i+1) (by simpa using hl) tj (λk v o' hy ho=>h (k+1) v o' (by simpa using hy) (by simpa using ho));have Nd:∀(l:List Oper)(ys:List Ye)(i:Nat)(u u':Nat->ab),(∀k,i<=k->u k=u' k)->rB l ys u i=rB l ys u' i:=by
   intro l
   induction l with
   |nil=>intros;rfl
   |cons o l ih=>
    intro ys i u u' hk;cases ys with
    |nil=>rfl
    |cons y ys=>
     have h1:=ih ys (i+1) u u' (λk fU=>hk k ac);simp only[rB];rw[h1,hk i (by omega)]
  have hc:=Nd l ys (i+1) (λk=>if k=i then valOf o e1 else u k) u (λk hk=>by show(if k=i then _ else _)=_;rw[aD (by omega)]);refine⟨λk=>if k=i then valOf o e1 else u k,?_,λk o' hk=>?_⟩
  ·cases hd:o.dst with
   |none=>
    have Nq:jN (o::l)=jN l:=by unfold jN;rw[List.filterMap_cons,hd]
    simp only[rB,hd,hc,hu,Nq]
   |some d=>
    have Nq:jN (o::l)=d::jN l:=by unfold jN;rw[List.filterMap_cons,hd]
    have vE:valOf o e1=e1 d:=by unfold valOf;rw[hd]
    have ku:∀v,v=e1 d->bE (mix e1 e (jN l)) d v=mix e1 e (d::jN l):=by
     intro v hv;funext j;simp only[bE,mix,ir];cases hb:Nat.beq j d with
     |true=>rw[lg hb,hv];rfl
     |false=>rfl
    rw[Nq];cases y with
    |ex v=>
     have h0:=h 0 v o O O;simp only[rB,hd,ext,hc,hu];refine ku v ?_;rcases h0 with h0|h0
     ·rw[<-h0,vE]
     ·rw[hd]at h0;cases h0
    |pr p=>
     simp only[rB,hd,ext,hc,hu,aG];exact ku _ vE
    |p2 j p=>
     simp only[rB,hd,ext,hc,hu,aG];exact ku _ vE
    |al q p=>
     simp only[rB,hd,ext,hc,hu,aG];exact ku _ vE
  ·cases k with
   |zero=>simp at hk;subst hk;simp
   |succ k=>
    have:=xg k o' (by simpa using hk);show(if i+(k+1)=i then _ else u (i+(k+1)))=_;rw[aD (by omega),<-this];congr 1;omega
theorem auU{Q:jo}(ms:List Nat)(ys:List Ye)(hm:P.follows .mixedOrders=true)(bD:Uz N l ys ms=true)(PI:∀y∈ys,y.rN)
 (Hq:FN P N l ys ms e w 0 l) (ow:∀u w1,(ms=[]->Below w.heap.size w w1)->(∀(k:Nat)(p:ab->aa->Prop),ys[k]?=some (Ye.pr p)->lC l ms k=ms.length->p (u k) w1)->(∀(k j:Nat)(p:ab->ab->aa->Prop),ys[k]?=some (Ye.p2 j p)->lC l ms k=ms.length->p (u j) (u k) w1)->(∀(k:Nat)(q:ab->Prop)(p:ab->aa->Prop),ys[k]?=some (Ye.al q p)->q (u k)/\(lC l ms k=ms.length->p (u k) w1))->Q .normal (ext e (rB l ys u 0)) w1):Cd P N (.region id l.toArray true) Q e w:=by
 simp only[Uz,Bool.and_eq_true,List.all_eq_true,k5]at bD;obtain⟨⟨⟨⟨⟨⟨⟨⟨h1,h2⟩,h3⟩,hlen⟩,EC⟩,Xz⟩,EA⟩,hmy⟩,kQ⟩:=bD;have P0:∀(k j:Nat)(p:ab->ab->aa->Prop),ys[k]?=some (.p2 j p)->ij l l.length k j=true/\j<l.length:=by
  intro k j p hk;have:=kQ (.p2 j p,k) (by rw[List.mem_iff_getElem?];exact⟨k,by simp[hk]⟩);simpa[Nat.blt_eq]using this
 have oy:l.length=ys.length:=lg hlen;have ta:B3 l=true:=by simp only[B3,List.all_eq_true];exact h3
 let mo:(Nat->Bool)->Nat:=λS=>ms.countP S
 refine Ip hm ta (λS e1 w1=>(mo S=0->Below w.heap.size w w1)/\(∀j,ir (jN l) j=false->e1 j=e j)/\(∀(i:Nat)(y:Ye)(o:Oper),S i=true->ys[i]?=some y->l[i]?=some o->y.at_ (mo S) (lC l ms i) (vl l e1) (valOf o e1) w1)/\∀(i:Nat)(o:Oper),S i=false->l[i]?=some o->valOf o e1=valOf o e) (λw1 hb=>⟨λ_=>hb,λ_ _=>O,λ_ _ _ h=>(nomatch h),λ_ _ _ _=>O⟩) ?_ ?_
 ·rintro S i o e1 w1 ho o0 gI b8 ⟨hb,qv,hS,Yw⟩;have eL:Lc l ms i<=mo S:=Jd λm _ h=>IM b8 ho gI _ _ h
  have cI:mo S<=Et l ms i:=Jd λm _ h=>by
   have bN:Nat.beq m i=false:=by
    cases hb:Nat.beq m i with
    |false=>rfl
    |true=>rw[lg hb,o0]at h;cases h
   have o6:ij l l.length m i=false:=by
    cases hb:ij l l.length m i with
    |false=>rfl
    |true=>have:=xX b8 _ _ _ hb h;rw[o0]at this;cases this
   simp[bN,o6]
  have cg:∀(j:Nat),S j=true->lC l ms j<=mo S:=λj hj=>Jd λm _ h=>by
   rw[Bool.or_eq_true]at h;rcases h with h|h
   ·rw[lg h];exact hj
   ·exact xX b8 _ _ _ h hj
  have aw:=Hq.get i o ho e1 w1 (mo S);rw[Nat.zero_add]at aw;have aw:=aw eL cI hb (λj y o' o6 hy CW=>hS j y o' (IM b8 ho gI _ _ o6) hy CW) (λj o' hj o6=>Yw j o' (MG b8 o0 o6) hj) (λm y o' hm tc hphm hy XN=>by
   refine hS m y o' ?_ hy XN;cases yA:S m with
   |true=>rfl
   |false=>
    exfalso;have h8:=Je S (λk=>if k=m then true else S k) m yA (λk=>O) ms Xz (y8.1 hm);have h9:ms.countP (λk=>if k=m then true else S k)<=lC l ms m:=Jd λm' jS h=>by
     by_cases e:m'=m
     ·rw[e,Nat.beq_refl];rfl
     ·rw[aD e]at h;simp only[DM,List.all_eq_true]at tc;have ik:=tc m' jS;cases sZ:ij l l.length m m' with
      |true=>rw[Bool.or_true]
      |false=>
       rw[sZ,Bool.or_false,Bool.or_eq_true]at ik;rcases ik with ik|ik
       ·exact absurd (lg ik) e
       ·have:=xX b8 _ _ _ ik h;rw[yA]at this;cases this
    have VO:ms.countP S=mo S:=O;omega)
  rw[HJ qv,yb (Ux (eS o) (λed mx v o' hy CW=>hS ed.on _ o' (gI ed mx) hy CW))]at aw;have pa:∃K:Env->aa->Prop,ak P N l.toArray K [o] e1 w1/\∀e2 w2,K e2 w2->(ir ms i=false->Below w1.heap.size w1 w2)/\(ys.getD i (.pr λ_ _=>True)).holds (vl l e1) (valOf o e2) w2/\∀j,o.dst≠some j->e2 j=e1 j:=by
   cases pN:ir ms i with
   |true=>
    rw[pN]at aw;exact⟨_,aw,λe2 w2 h=>⟨λh0=>(nomatch h0),h.1,h.2⟩⟩
   |false=>
    rw[pN]at aw;exact⟨_,aw,λe2 w2 h=>⟨λ_=>h.1,h.2.1,h.2.2⟩⟩
  obtain⟨K,aw,hK⟩:=pa;refine⟨K,aw,λe2 w2 D8=>?_⟩;obtain⟨ov,nN,wL⟩:=hK _ _ D8;have WV:mo (λk=>Nat.beq k i||S k)=if ir ms i=true then mo S+1 else mo S:=by
   by_cases pN:ir ms i=true
   ·rw[aG pN];refine Je S _ i o0 (λk=>?_) ms Xz (y8.1 pN)
    by_cases fV:k=i
    ·rw[aG fV,fV,Nat.beq_refl];rfl
    ·rw[aD fV];cases hb:Nat.beq k i with
     |false=>rfl
     |true=>exact absurd (lg hb) fV
   ·rw[aD pN];refine List.countP_congr λm AX=>⟨λh=>FM h λe=>pN (y8.2 (by rw[<-e];exact AX)),λh=>by rw[h,Bool.or_true]⟩
  have PZ:∀(k:Nat)(o':Oper),l[k]?=some o'->k≠i->valOf o' e2=valOf o' e1:=by
   intro k o' bD fV;unfold valOf;cases hd:o'.dst with
   |none=>rfl
   |some d=>exact wL d (λh=>fV (NC _ l h2 k i o' o d bD ho hd h))
  have C3:∀j,j≠i->vl l e2 j=vl l e1 j:=by
   intro j hj;unfold vl;cases CW:l[j]? with
   |none=>rfl
   |some o'=>exact PZ j o' CW hj
  refine⟨λh0=>?_,λj hj=>?_,λk y o' hk hy bD=>?_,λk o' hk bD=>?_⟩
  ·rw[WV]at h0
   by_cases pN:ir ms i=true
   ·rw[aG pN]at h0;omega
   ·rw[aD pN]at h0;exact(hb h0).trans ((ov (by simpa using pN)).mono (hb h0).size)
  ·rw[wL j λhd=>by rw[show ir (jN l) j=true from y8.2 (List.mem_filterMap.2 ⟨o,List.mem_of_getElem? ho,hd⟩)]at hj;cases hj];exact qv j hj
  ·by_cases fV:k=i
   ·subst fV;cases ho.symm.trans bD;rw[show ys.getD k (.pr λ_ _=>True)=y by simp[b5,hy]]at nN;cases y with
    |ex v=>exact nN
    |pr p=>exact λ_=>nN
    |p2 j p=>
     have hj:=P0 k j p hy;have Ey:=IM b8 ho gI _ _ hj.1;exact λ_=>by rw[C3 j λe=>by rw[e,o0]at Ey;cases Ey];exact nN
    |al q p=>exact⟨nN.1,λ_=>nN.2⟩
   ·have fU:=FM hk fV;have h7:=hS k y o' fU hy bD;have PJ:∀p:aa->Prop,(∀w',p w1->Below w1.heap.size w1 w'->p w')->(mo S=lC l ms k->p w1)->mo (λk=>Nat.beq k i||S k)=lC l ms k->p w2:=λp hp h hc=>by
     rw[WV]at hc
     by_cases pN:ir ms i=true
     ·rw[aG pN]at hc;have:=cg k fU;omega
     ·rw[aD pN]at hc;exact hp _ (h hc) (ov (by simpa using pN))
    rw[PZ k o' bD fV];have hl:=PI _ (List.mem_of_getElem? hy);cases y with
    |ex v=>exact h7
    |pr p=>exact PJ _ (λw' h hb=>hl _ _ _ h hb) h7
    |p2 j p=>
     have hj:=P0 k j p hy;have Ey:=xX b8 _ _ _ hj.1 fU;intro hc;rw[C3 j λe=>by rw[e,o0]at Ey;cases Ey];exact PJ _ (λw' h hb=>hl _ _ _ _ h hb) h7 hc
    |al q p=>exact⟨h7.1,PJ _ (λw' h hb=>hl _ _ _ h hb) h7.2⟩
  ·obtain⟨h5,h6⟩:=ID hk;rw[PZ k o' bD h5];exact Yw k o' h6 bD
 ·rintro S e1 w1 eA ⟨hb,qv,hS,_⟩;have ub:mo S=ms.length:=by
   show ms.countP _=ms.length;rw[List.countP_eq_length];intro m AX;exact eA m (by simpa[Nat.blt_eq]using EA m AX)
  obtain⟨u,hu,xg⟩:=UD (e1:=e1) (e:=e) l ys 0 oy h2 (λk v o hy ho=>.inl (hS k _ o (eA k (iD.1 ho).1) hy ho));have jQ:∀(k:Nat)(y:Ye),ys[k]?=some y->y.at_ ms.length (lC l ms k) (vl l e1) (u k) w1:=λk y hk=>by
   have qG:k<l.length:=by rw[oy];exact(iD.1 hk).1
   have h5:=hS k _ l[k] (eA k qG) hk (fL qG);have h6:=xg k l[k] (fL qG);rw[Nat.zero_add]at h6;rw[h6,<-ub];exact h5
  have:=ow u w1 (λh0=>hb (by rw[ub,h0];rfl)) (λk p hk cg=>jQ k _ hk cg.symm) (λk j p hk cg=>by
   have hj:=P0 k j p hk;have h7:=xg j l[j] (fL hj.2);rw[Nat.zero_add]at h7;have h8:vl l e1 j=valOf l[j] e1:=by unfold vl;rw[List.getElem?_eq_getElem hj.2]
   rw[h7,<-h8];exact jQ k _ hk cg.symm) (λk q p hk=>⟨(jQ k _ hk).1,λcg=>(jQ k _ hk).2 cg.symm⟩)
  rwa[hu,HJ qv]at this
theorem iu{Q:jo}(ms:List Nat)(ys:List Ye)(PI:∀y∈ys,y.rN)(Hq:FN P N l ys ms e w 0 l)(ow:∀u w1,(ms=[]->Below w.heap.size w w1)->(∀(k:Nat)(p:ab->aa->Prop),ys[k]?=some (Ye.pr p)->lC l ms k=ms.length->p (u k) w1)->(∀(k j:Nat)(p:ab->ab->aa->Prop),ys[k]?=some (Ye.p2 j p)->lC l ms k=ms.length->p (u j) (u k) w1)->(∀(k:Nat)(q:ab->Prop)(p:ab->aa->Prop),ys[k]?=some (Ye.al q p)->q (u k)/\(lC l ms k=ms.length->p (u k) w1))->Q .normal (ext e (rB l ys u 0)) w1)(hm:P.follows .mixedOrders=true:=by kernel_rfl)(bD:Uz N l ys ms=true:=by kernel_rfl):Cd P N (.region id l.toArray true) Q e w:=auU ms ys hm bD PI Hq ow
end
theorem acx(x y:Int)(w:aa)(hx:0<=x/\x<=1048576)(hy:0<=y/\y<=1048576):aF prog 163 [.int .u64 x,.int .u64 y] w (λv w'=>v=.tuple #[.int .u64 0,.int .u64 (x*y)]/\w'=w):=by
 have mD:0<=x*y/\x*y<=1099511627776:=⟨Int.mul_nonneg hx.1 hy.1,Int.le_trans (Int.mul_le_mul hx.2 hy.2 hy.1 ac) am⟩;have ex:x%4294967296=x:=by omega
 have ey:y%4294967296=y:=by omega
 have dx:x / 4294967296=0:=by omega
 have dy:y / 4294967296=0:=by omega
 refine bn func163 O ntmps163 O (mI O) (aY O (Mw (x) O O O ac ac (aq O (FJ (0) O O O ac ac (aq O (Mw (y) O O O ac ac (aq O (FJ (0) O O O ac ac (aq O ?_)))))))));refine FH (x*y) O O O (by simp) ac ?_;refine aq O ?_;refine FH (0) O O O (by simp) ac ?_;refine aq O (FJ (x*y / 4294967296) O O O ac ac ?_);refine Iu (x*y / 4294967296) O O O (by simp) ac ?_;refine aq O (Mw (x*y / 4294967296) O O O ac ac (aq O (FJ (0) O O O ac ac (aq O ?_))));refine FH (0) O O O (by simp) ac ?_;refine Iu (x*y / 4294967296) O O O (by simp) ac ?_;refine aq O ?_;refine FH (0) O O O (by simp) ac ?_;refine aq O ?_;refine Iu (0) O O O (by simp) ac ?_;refine aq O (FJ (0) O O O ac ac ?_);refine Iu (0) O O O (by simp) ac ?_;refine aq O ?_;refine FH (x*y) O O O (by simp) ac ?_;refine bR O (LG O O ?_);exact⟨O,O⟩
theorem S9(x y:Int)(w:aa)(hx:0<=x/\x<=1048576)(hy:0<=y/\y<=1048576):aF prog 116 [.int .u64 x,.int .u64 y] w (λv w'=>v=.tuple #[.int .u64 0,.int .u64 (x*y)]/\w'=w):=by
 refine bn func116 O ntmps116 O (mI O) (bC O (Cd.cX O (aC O (aI (acx x y w hx hy) O ?_))));rintro _ _ ⟨rfl,rfl⟩;refine bR O (LG O O ?_);exact⟨O,O⟩
def rep(a n:Nat)(x v:Int):ah:=List.replicate a x++List.replicate (n-a) v
theorem apM{m n q:Nat}{x v:Int}(hm:m<=n)(hq:q<=n-m):((rep m n x v).map (Value.int .i64)).take m++(List.range q).map (λ_=>Value.int .i64 x)++((rep m n x v).map (Value.int .i64)).drop (m+q)=(rep (m+q) n x v).map (Value.int .i64):=by
 have e1:(rep m n x v).map (Value.int .i64)=List.replicate m (Value.int .i64 x)++List.replicate (n-m) (Value.int .i64 v):=by simp[rep]
 have e2:(List.range q).map (λ_=>Value.int .i64 x)=List.replicate q (Value.int .i64 x):=by
  apply iC<;>simp
 rw[e1,e2,zF (by simp),List.drop_append];simp only[rep,iE,List.map_replicate,List.length_replicate,List.take_replicate,List.drop_replicate,Nat.min_self];rw[show m-(m+q)=0 by omega,show m+q-m=q by omega,show n-m-q=n-(m+q) by omega];simp
theorem FL(A:ai)(c:Nat)(x:Int)(n:Nat)(w:aa)(hR:bu w A 1 [x])(hn:n<=1048576):
 aF prog 58 [.slice A 1 c,aj n] w (λv w'=>∃A',v=.slice A' n n/\St w w' [av 2 A' n n (List.replicate n x)]):=by
 refine bn func58 O ntmps58 O (bM O) (bC O (fq O ?_));refine aC O (aR O O ?_);refine lL (i:=1) O O am (aq O (lL (i:=(n:Int)) O O (rS _ ac) (aI (S9 1 n _ ac ac) O ?_)));rintro _ w ⟨rfl,rfl⟩;rw[Int.one_mul];refine aq O (ak.gtr O O O (aq O ?_));refine b9 23 O (λh=>absurd h am) (λ_=>?_);refine ar O (aq O (ar O (ak.gtr O O O (ay O ?_))));refine fq O (aC O (lL (i:=(n:Int)) O O (IntWalk.i64_in _ ac) (FG n (St.refl w) O O ac ?_)));intro A1 w1 ax;refine aq O ?_;refine Ix 0 0 (min 1 n) ax O (ax.dq hR).2 (bl _) (by rw[Ui];rfl) O (λ_ _=>O) O O ?_;intro w2 az;refine ay O ?_;have h3:St w w2 [av 2 A1 n n (rep (min 1 n) n x 0)]:=by
  have e:([av 2 A1 n n (List.replicate n 0)].set 0 { av 2 A1 n n (List.replicate n 0)with vs:=(av 2 A1 n n (List.replicate n 0)).vs.take 0++(List.range (min 1 n)).map (λj=>Value.int .i64 ([x].getD j 0))++(av 2 A1 n n (List.replicate n 0)).vs.drop (0+min 1 n) })=[av 2 A1 n n (rep (min 1 n) n x 0)]:=by
   by_cases h0:n=0
   ·subst h0;rfl
   have h1:min 1 n=1:=by omega
   rw[h1];simp[av,rep,lK]
  rw[<-e];exact az
 refine Cd.loop (α:=Nat) (λm=>[(7,.slice A1 n n),(8,aj m)]) (λm w'=>St w w' [av 2 A1 n n (rep m n x 0)]/\m<=n/\(0<n->0<m)) (λm=>n-m) (min 1 n) (auV O) ⟨h3,ac,ac⟩ ?_;rintro m e w3 ⟨aM,hm,G0⟩;refine aY O (aR O O (ay O ?_));refine aK _ O (λh4=>?_) (λh4=>?_)
 ·refine cM O ?_;have hlen:(rep m n x 0).length=n:=aM.Bw 0 O;have nK:∀{w1:aa},Below w3.heap.size w3 w1->Rd w1 A1 m (λ_=>aj x):=λhb j hj=>by
   have h5:=(aM.ao hb).rd 0 O j (by show j<n;omega);have h6:((rep m n x 0).map (Value.int .i64)).getD j undef=aj x:=by simp[rep,b5,jF,hj]
   obtain⟨p,hp,hc⟩:=h5;exact⟨p,hp,hc.trans (aQ some h6)⟩
  have jg:=apM (n:=n) (m:=m) (q:=min m (n-m)) (x:=x) (v:=0) hm ac;refine iu [7] [yI ((m:Int)),yS (A1) (n) (n),yI ((m:Int)),yS (cutAt A1 n m) (n-m) (n-m),yS (A1) (n) (n),yI ((m:Int)),yS (A1) (m) (n),.pr (λv w'=>v=aj ((min m (n-m):Nat):Int)/\St w w' [av 2 A1 n n (rep (m+min m (n-m)) n x 0)]),yI ((m:Int)+((min m (n-m):Nat):Int)),yI ((m:Int)+((min m (n-m):Nat):Int))] (ly (ly (ly (ly (ly (ly (ly (bV.2 ⟨Ye.bW (λv w w' h hb=>⟨h.1,h.2.ao hb⟩),(ly (ly (λ_ h=>by cases h)))⟩)))))))) ?_ ?_
  ·refine⟨?_,bP O,?_,aP λ_ _=>uY O O O ac (bA O O),bP O,?_,aP λ_ _=>rW O O O ac (bA O O),?_,?_,bP O,au⟩
   ·intro e1 w1 cc eL cI dC hp aW hq;show ak _ _ _ _ _ _ _;refine uZ O (by exact aW 9 _ O an) O (ak.n (fp O ap))
   ·intro e1 w1 cc eL cI dC hp aW hq;show ak _ _ _ _ _ _ _;refine uZ O (by exact aW 9 _ O an) O (ak.n (fp O ap))
   ·intro e1 w1 cc eL cI dC hp aW hq;show ak _ _ _ _ _ _ _;refine uZ O (by exact aW 9 _ O an) O (ak.n (fp O ap))
   ·refine iF λe1 w1 hb hp aW hq=>?_
    refine Ix 0 m (min m (n-m)) (aM.ao hb) O (f:=λ_=>aj x) (nK hb) ac O O (λ_ _=>O) O O λw5 aO=>ak.n ?_;exact dS.dn O ⟨O,by show St w w5 [⟨A1,n,n,_,(rep (m+min m (n-m)) n x 0).map (Value.int .i64)⟩];rw[<-jg];exact aO⟩
   refine dP 1 λe1 w1 hp aW hq=>?_
   have cg:=hp 7 _ _ an O O an;refine auN O (by exact cg.1) O ac (ak.n (fp O ap))
  intro u w5 _ hu _ _;have aO:=(hu 7 _ O an).2;refine Ir O (tQ ?_);exact⟨m+min m (n-m),by have:=G0 ac;omega,⟨O,by show Value.int .i64 _=Value.int .i64 _;congr 1,au⟩,aO,ac,ac⟩
 refine ba O (bc (ew O ?_));refine dV O ?_;have:m=n:=by omega
 subst this;refine⟨A1,O,?_⟩;have e:rep m m x 0=List.replicate m x:=by simp[rep]
 rw[<-e];exact aM
end
section
variable{N:Nat}{y:Int}
theorem Fg{α:Type}[DecidableEq α]:∀(a b:List α),a.Nodup->(∀x∈a,x∈b)->a.length<=b.length
 |[],_,_,_=>bl _
 |x::a,b,hn,h=>by
  simp only[mj]at hn;have h1:=Fg a (b.erase x) hn.2 (λy hy=>by
   rw[List.mem_erase_of_ne (λe=>hn.1 (by rw[<-e];exact hy))];exact h y (by simp[hy]))
  have hx:=h x (by simp);have h2:=List.length_erase_of_mem hx;have h3:=List.length_pos_of_mem hx;simp only[List.length_cons];omega
theorem abB{α:Type}[DecidableEq α]{a b:List α}(hn:a.Nodup)(h:∀x∈a,x∈b)(hl:b.length<=a.length):∀x∈b,x∈a:=by
 intro y hy;apply qi;intro Hv;have:=Fg (y::a) b (by simp[Hv,hn]) (λx hx=>by
  rcases gW.1 hx with rfl|hx
  ·exact hy
  exact h x hx)
 simp at this;omega
def tH(N:Nat)(xss:ag):Prop:=∀p∈xss,∀x y:Int,0<=x->x<N->0<=y->y<N->gi p x=gi p y->x=y
theorem Reach.range{xss:ag}(hs:Sys N xss){x:Int}(h0:0<=x)(h1:x<N)(h:Reach xss x y):0<=y/\y<N:=by
 induction h with
 |refl=>exact⟨h0,h1⟩
 |step _ hp ih=>exact(hs _ hp).2 _ ih.1 ih.2
theorem Reach.back{xss:ag}(hs:Sys N xss)(hi:tH N xss){x:Int}(h0:0<=x)(h1:x<N){p:ah}(hp:p∈xss):Reach xss (gi p x) x:=by
 have hy:=(hs p hp).2 x h0 h1;obtain⟨g,_,hm⟩:=zd hs hy.1 hy.2;have key:=abB (a:=(gw N xss (gi p x)).map (gi p)) (b:=gw N xss (gi p x)) (by
  rw[List.nodup_iff_pairwise_ne,rV];refine List.Pairwise.imp_of_mem ?_ g.nodup;intro a b ha hb gr e;exact gr (hi p hp a b (g.range a ha).1 (g.range a ha).2 (g.range b hb).1 (g.range b hb).2 e))
  (λz hz=>by
    obtain⟨u,hu,rfl⟩:=de.1 hz;exact(hm _).2 (.step ((hm u).1 hu) hp)) (by simp)
 obtain⟨u,hu,e⟩:=de.1 (key (gi p x) ((hm _).2 .refl));have:=hi p hp u x (g.range u hu).1 (g.range u hu).2 h0 h1 e;subst this;exact(hm u).1 hu
theorem Reach.symm{xss:ag}(hs:Sys N xss)(hi:tH N xss){x:Int}(h0:0<=x)(h1:x<N)(h:Reach xss x y):Reach xss y x:=by
 induction h with
 |refl=>exact .refl
 |step hr hp ih=>
  have hy:=hr.range hs h0 h1;exact(Reach.back hs hi hy.1 hy.2 hp).trans ih
def pZ(L:ah)(c:Int):ah->ah
 |[]=>L
 |x::xs=>pZ (L.set x.toNat c) c xs
theorem Rg:∀(xs L:ah)(c:Int),(pZ L c xs).length=L.length
 |[],_,_=>rfl
 |x::xs,L,c=>by rw[pZ,Rg xs];simp
theorem yd{N:Nat}:∀(xs L:ah)(c:Int),L.length=N->(∀x∈xs,0<=x/\x<N)->∀x:Int,0<=x->gi (pZ L c xs) x=if x∈xs then c else gi L x
 |[],_,_,_,_,x,_=>by simp[pZ]
 |y::xs,L,c,hl,h,x,hx=>by
  have hy:=h y (by simp);rw[pZ,yd xs (L.set y.toNat c) c (by simpa using hl) (λz hz=>h z (by simp[hz])) x hx,wE hy.1 (by rw[hl];exact hy.2) hx]
  by_cases h1:x∈xs
  ·simp[h1]
  ·rw[aD h1]
   by_cases h2:y=x
   ·subst h2;simp
   ·rw[aD h2,aD];simp only[gW,not_or];exact⟨λe=>h2 e.symm,h1⟩
def bO(N:Nat)(xss:ag):Nat->ah×Int
 |0=>(List.replicate N (-1),0)
 |i+1=>if 0<=gi (bO N xss i).1 i then bO N xss i else(pZ (bO N xss i).1 (bO N xss i).2 (gw N xss i),(bO N xss i).2+1)
theorem Bv{xss:ag}{i:Nat}(h:¬0<=gi (bO N xss i).1 i):bO N xss (i+1)=(pZ (bO N xss i).1 (bO N xss i).2 (gw N xss i),(bO N xss i).2+1):=by
 show(if _ then _ else _)=_;rw[aD h]
theorem Da{xss:ag}{i:Nat}(h:0<=gi (bO N xss i).1 i):bO N xss (i+1)=bO N xss i:=by
 show(if _ then _ else _)=_;rw[aG h]
theorem qP(N:Nat)(xss:ag):∀i,(bO N xss i).1.length=N
 |0=>by simp[bO]
 |i+1=>by
  simp only[bO]
  split
  ·exact qP N xss i
  ·rw[Rg];exact qP N xss i
theorem y5(N:Nat)(xss:ag):∀i,0<=(bO N xss i).2/\(bO N xss i).2<=i
 |0=>by simp[bO]
 |i+1=>by
  have:=y5 N xss i;simp only[bO]
  split
  ·omega
  ·simp only;omega
theorem wD{v:Int}{x:Int}(h0:0<=x)(h1:x<N):gi (List.replicate N v) x=v:=by
 simp[gi,b5,List.getElem?_replicate,show x.toNat<N by omega]
theorem Bu{N:Nat}{xss:ag}(hs:Sys N xss):∀i,i<=N->∀x:Int,0<=x->x<N->(0<=gi (bO N xss i).1 x↔∃j:Nat,j<i/\Reach xss j x)
 |0,_,x,h0,h1=>by
  simp only[bO,wD h0 h1];constructor
  ·intro h;omega
  ·rintro⟨j,hj,_⟩;omega
 |i+1,hi,x,h0,h1=>by
  have ih:=Bu hs i ac;have hc:=y5 N xss i;have ho:=zd hs (pt:=(i:Int)) ac ac;simp only[bO]
  split
  ·rename_i hl;rw[ih x h0 h1];constructor
   ·rintro⟨j,hj,hr⟩;exact⟨j,ac,hr⟩
   ·rintro⟨j,hj,hr⟩
    by_cases AO:j=i
    ·subst AO;obtain⟨j',iJ,dw⟩:=(ih j ac ac).1 hl;exact⟨j',iJ,dw.trans hr⟩
    ·exact⟨j,ac,hr⟩
  ·simp only;rw[yd _ _ _ (qP N xss i) ho.1.range x h0]
   by_cases hm:x∈gw N xss i
   ·rw[aG hm];exact⟨λ_=>⟨i,ac,(ho.2.2 x).1 hm⟩,λ_=>hc.1⟩
   ·rw[aD hm,ih x h0 h1];constructor
    ·rintro⟨j,hj,hr⟩;exact⟨j,ac,hr⟩
    ·rintro⟨j,hj,hr⟩
     by_cases AO:j=i
     ·subst AO;exact absurd ((ho.2.2 x).2 hr) hm
     ·exact⟨j,ac,hr⟩
theorem anf{xss:ag}(hs:Sys N xss)(hN:0<N):(bO N xss N).2=1↔∀x:Int,0<=x->x<N->Reach xss 0 x:=by
 have h1:(bO N xss 1).2=1:=by
  have:¬(0:Int)<=gi (bO N xss 0).1 (0:Nat):=by
   rw[show(bO N xss 0).1=List.replicate N (-1)from rfl,wD (by omega) (by omega)];omega
  rw[show(1:Nat)=0+1 from rfl,Bv this];rfl
 constructor
 ·intro hc;have mono:∀i j,i<=j->(bO N xss i).2<=(bO N xss j).2:=by
   intro i j jC
   induction j with
   |zero=>
    have:i=0:=by omega
    subst this;omega
   |succ j ih=>
    by_cases e:i=j+1
    ·subst e;omega
    ·have:=ih ac;have h2:(bO N xss j).2<=(bO N xss (j+1)).2:=by
      simp only[bO];split
      ·omega
      ·simp only;omega
     omega
  have key:∀i:Nat,i<N->Reach xss 0 (i:Int):=by
   intro i
   induction i using Nat.strongRecOn with
   |_ i ih=>
    intro hi
    by_cases h0:i=0
    ·subst h0;exact .refl
    ·have hl:0<=gi (bO N xss i).1 i:=by
      apply qi;intro hn;have h2:=mono 1 i ac;have h3:=mono (i+1) N ac;have h4:(bO N xss (i+1)).2=(bO N xss i).2+1:=by rw[Bv hn]
      omega
     obtain⟨j,hj,hr⟩:=(Bu hs i ac i ac ac).1 hl;exact(ih j hj ac).trans hr
  intro x h0 h2;have:=key x.toNat ac;rw[Int.toNat_of_nonneg h0]at this;exact this
 ·intro h;have key:∀i,1<=i->i<=N->(bO N xss i).2=1:=by
   intro i
   induction i with
   |zero=>intro h;omega
   |succ i ih=>
    intro _ hi
    by_cases e:i=0
    ·subst e;exact h1
    ·have hl:=(Bu hs i ac i ac ac).2 ⟨0,ac,h i ac ac⟩;rw[Da hl];exact ih ac ac
  exact key N ac (cJ _)
theorem aoy{xss:ag}(hs:Sys N xss)(hN:0<N):(gw N xss 0).length=N↔∀x:Int,0<=x->x<N->Reach xss 0 x:=by
 obtain⟨g,_,hm⟩:=zd hs (pt:=0) ac ac;have um:∀x:Int,x∈(List.range N).map (λi:Nat=>(i:Int))↔0<=x/\x<N:=by
  intro x;rw[de];constructor
  ·rintro⟨i,hi,rfl⟩;have:i<N:=by simpa using hi
   omega
  intro h;exact⟨x.toNat,by simp;omega,ac⟩
 have jb:((List.range N).map (λi:Nat=>(i:Int))).Nodup:=by
  rw[List.nodup_iff_pairwise_ne,rV];refine List.Pairwise.imp ?_ (List.nodup_iff_pairwise_ne.1 List.nodup_range);intro a b gr;omega
 constructor
 ·intro hl x h0 h1;have:=abB g.nodup (b:=(List.range N).map (λi:Nat=>(i:Int))) (λz hz=>(um z).2 (g.range z hz)) (by simp[hl]) x ((um x).2 ⟨h0,h1⟩);exact(hm x).1 this
 intro h;have h1:=Fg _ (gw N xss 0) jb (λz hz=>by
  have:=(um z).1 hz;exact(hm z).2 (h z this.1 this.2))
 have h2:=g.len;simp at h1;omega
structure nZ(N:Nat)(xss:ag)(i c:Int)(L0 L op:ah)(bx:Int)(k:Nat):Prop where
 len:L.length=N
 gS:∀x:Int,0<=x->x<N->0<=gi L0 x->gi L x=gi L0 x
 new:∀x:Int,0<=x->x<N->gi L0 x<0->gi L x=gi L0 x\/(gi L x=c/\Reach xss i x)
 start:gi L i=c
 zc:∀x∈op,0<=x/\x<N/\gi L0 x<0/\gi L x=c
 x5:∀x:Int,0<=x->x<N->gi L0 x<0->gi L x=c->x∉op->∀p∈(if x=bx then xss.take k else xss),0<=gi L (gi p x)
section
variable {N:Nat}{xss:ag}{i c:Int}{L0 L op:ah}{bx:Int}{k:Nat}
theorem nZ.init(hl:L0.length=N)(h0:0<=i)(h1:i<N)(hi:gi L0 i<0)(hc:0<=c):nZ N xss i c L0 (L0.set i.toNat c) [i] (-1) 0 where
 len:=by simpa using hl
 gS x hx _ h:=by
  rw[wE h0 (by rw[hl];exact h1) hx]
  split
  ·rename_i e;subst e;omega
  rfl
 new x hx _ h:=by
  rw[wE h0 (by rw[hl];exact h1) hx]
  split
  ·rename_i e;subst e;exact .inr ⟨rfl,.refl⟩
  exact .inl O
 start:=by rw[wE h0 (by rw[hl];exact h1) h0,aG rfl]
 zc x hx:=by
  simp at hx;subst hx;exact⟨h0,h1,hi,by rw[wE h0 (by rw[hl];exact h1) h0,aG O]⟩
 x5 x hx jT h WQ fI:=by
  rw[wE h0 (by rw[hl];exact h1) hx]at WQ
  split at WQ
  ·rename_i e;subst e;simp at fI
  omega
theorem nZ.apb{x:Int}(h:nZ N xss i c L0 L (op++[x]) (-1) 0):nZ N xss i c L0 L op x 0 where
 len:=h.len
 gS:=h.gS
 new:=h.new
 start:=h.start
 zc y hy:=h.zc y (by simp[hy])
 x5 y hy vG h0 hc fI:=by
  split
  ·simp
  rename_i bN;have:=h.x5 y hy vG h0 hc (by simp[fI,bN]);rw[aD (by omega)]at this;exact this
theorem nZ.rest(h:nZ N xss i c L0 L op bx xss.length):nZ N xss i c L0 L op (-1) 0 where
 len:=h.len
 gS:=h.gS
 new:=h.new
 start:=h.start
 zc:=h.zc
 x5 y hy vG h0 hc fI:=by
  rw[aD (by omega)];have:=h.x5 y hy vG h0 hc fI;rw[List.take_length]at this;simpa using this
theorem nZ.skip(h:nZ N xss i c L0 L op bx k)(hk:k<xss.length)(hy:0<=gi L (gi (gl xss k) bx)):nZ N xss i c L0 L op bx (k+1) where
 len:=h.len
 gS:=h.gS
 new:=h.new
 start:=h.start
 zc:=h.zc
 x5 y vG alg h0 hc fI p hp:=by
  have:=h.x5 y vG alg h0 hc fI
  split at hp
  ·rename_i e;rw[aG e]at this;rw[nV hk,dF]at hp;rcases hp with hp|hp
   ·exact this p hp
   simp at hp;subst hp;subst e;exact hy
  rename_i e;rw[aD e]at this;exact this p hp
theorem nZ.push(hs:Sys N xss)(eU:0<=i)(h:nZ N xss i c L0 L op bx k)(hk:k<xss.length)(dC:0<=bx)(fh:bx<N)(hb:gi L0 bx<0)(hbc:gi L bx=c)(kF:0<=c)(hy:gi L (gi (gl xss k) bx)<0):
 nZ N xss i c L0 (L.set (gi (gl xss k) bx).toNat c) (op++[gi (gl xss k) bx]) bx (k+1):=by
 have iq:gl xss k∈xss:=by rw[df hk];exact dt _
 have tu:=(hs _ iq).2 bx dC fh;have hg:∀z:Int,0<=z->gi (L.set (gi (gl xss k) bx).toNat c) z=if gi (gl xss k) bx=z then c else gi L z:=λz hz=>wE tu.1 (by rw[h.len];exact tu.2) hz
 have CG:Reach xss i bx:=by
  rcases h.new bx dC fh hb with h1|h1
  ·omega
  exact h1.2
 have Bm:gi L0 (gi (gl xss k) bx)<0:=by
  apply qi;intro hn;have:=h.gS _ tu.1 tu.2 ac;omega
 have pos:∀z:Int,0<=z->0<=gi L z->0<=gi (L.set (gi (gl xss k) bx).toNat c) z:=λz hz h1=>by
  rw[hg z hz];split<;>omega
 refine⟨by simpa using h.len,λx hx jT h0=>?_,λx hx jT h0=>?_,?_,λx hx=>?_,λx hx jT h0 hc fI p hp=>?_⟩
 ·rw[hg x hx,aD (λe=>by subst e;omega)];exact h.gS x hx jT h0
 ·rw[hg x hx]
  split
  ·rename_i e;subst e;exact .inr ⟨rfl,.step CG iq⟩
  exact h.new x hx jT h0
 ·rw[hg i eU];split
  ·rfl
  exact h.start
 ·rcases dF.1 hx with hx|hx
  ·have:=h.zc x hx;refine⟨this.1,this.2.1,this.2.2.1,?_⟩;rw[hg x this.1];split
   ·rfl
   exact this.2.2.2
  simp at hx;subst hx;exact⟨tu.1,tu.2,Bm,by rw[hg _ tu.1,aG O]⟩
 have bN:gi (gl xss k) bx≠x:=λe=>fI (by subst e;simp)
 rw[hg x hx,aD bN]at hc;have akg:x∉op:=λhm=>fI (by simp[hm])
 have h1:=h.x5 x hx jT h0 hc akg
 split at hp
 ·rename_i e;rw[aG e]at h1;rw[nV hk,dF]at hp;rcases hp with hp|hp
  ·exact pos _ ((hs p (List.mem_of_mem_take hp)).2 x hx jT).1 (h1 p hp)
  simp at hp;subst hp;subst e;rw[hg _ tu.1,aG rfl];exact kF
 rename_i e;rw[aD e]at h1;exact pos _ ((hs p hp).2 x hx jT).1 (h1 p hp)
theorem nZ.done(hs:Sys N xss)(hi:tH N xss){j:Nat}(hj:j<N)(ake:¬0<=gi (bO N xss j).1 j)(h:nZ N xss j (bO N xss j).2 (bO N xss j).1 L [] (-1) 0):L=(bO N xss (j+1)).1:=by
 have hc:=y5 N xss j;have ho:=zd hs (pt:=(j:Int)) ac ac;have hm:=Bu hs j ac;rw[Bv ake];apply iC
 ·rw[h.len,Rg,qP]
 intro x h1 h2;have hx:x<N:=by rw[<-h.len];exact h1
 have e1:=b7 (p:=L) (k:=x) h1;have e2:=b7 (p:=pZ (bO N xss j).1 (bO N xss j).2 (gw N xss j)) (k:=x) h2;rw[<-e1];show _=(pZ (bO N xss j).1 (bO N xss j).2 (gw N xss j))[x];rw[<-e2,yd _ _ _ (qP N xss j) ho.1.range x (by omega)];have reached:∀y,Reach xss j y->gi (bO N xss j).1 y<0/\gi L y=(bO N xss j).2:=by
  intro y hr
  induction hr with
  |refl=>exact⟨ac,h.start⟩
  | @step y p hr hp ih=>
   have hy:=hr.range hs ac ac;have Kz:=(hs p hp).2 y hy.1 hy.2;have XC:gi (bO N xss j).1 (gi p y)<0:=by
    apply qi;intro hn;obtain⟨m,hmj,hmr⟩:=(hm _ Kz.1 Kz.2).1 ac;have:=(hm y hy.1 hy.2).2 ⟨m,hmj,hmr.trans (Reach.back hs hi hy.1 hy.2 hp)⟩;omega
   refine⟨XC,?_⟩;have h3:=h.x5 y hy.1 hy.2 ih.1 ih.2 (by simp) p (by rw[aD (by omega)];exact hp);rcases h.new _ Kz.1 Kz.2 XC with h4|h4
   ·omega
   ·exact h4.1
 split
 ·rename_i iq;exact(reached _ ((ho.2.2 _).1 iq)).2
 ·rename_i iq;have wV:¬Reach xss j x:=λhr=>iq ((ho.2.2 _).2 hr)
  by_cases h5:0<=gi (bO N xss j).1 x
  ·exact h.gS x ac ac h5
  ·rcases h.new x ac ac ac with h6|h6
   ·exact h6
   ·exact absurd h6.2 wV
end
def oM(L:ah):Nat:=L.countP (λx=>decide (x<0))
theorem Mc{L:ah}{x c:Int}(h0:0<=x)(h1:x<L.length)(hx:gi L x<0)(hc:0<=c):oM (L.set x.toNat c)+1=oM L:=by
 obtain⟨k,rfl⟩:∃k:Nat,x=k:=⟨x.toNat,ac⟩;have hk:k<L.length:=by omega
 rw[b7 hk]at hx;simp only[oM,gx];rw[List.countP_set (h:=hk)];have:0<L.countP (λx=>decide (x<0)):=List.countP_pos_iff.2 ⟨L[k],dt _,by simpa using hx⟩;simp[hx,show ¬c<0 by omega];omega
end
section
open Go.RowKit
theorem St.shrink{w0 w:aa}{ks:List Ck}{k:Ck}(h:St w0 w ks)(i:Nat)(hk:ks[i]?=some k)(m:Nat)(hm:m<=k.n)(hM:eV k.vs=false):St w0 w (ks.set i { k with n:=m,vs:=k.vs.take m }):=by
 have CL:=(iD.1 hk).1;refine⟨h.below,λx hx=>?_,?_⟩
 ·obtain⟨j,hj,rfl⟩:=fS.1 hx;have iJ:j<ks.length:=by simpa using hj
  rw[List.getElem_set]
  split
  ·obtain⟨h1,h2,h3,h4⟩:=h.py hk hM;refine .qS (YY m hM) ⟨by simp;omega,by show m<=k.c;omega,h3,?_⟩;rcases h4 with h4|⟨g,o,cur,hA,hg,hh,hs,hc⟩
   ·exact .inl h4
   refine .inr ⟨g,o,cur,hA,hg,hh,hs,λj hj=>?_⟩;have hj:j<m:=hj;show _=(k.vs.take m)[j]?;rw[hc j (by omega),qk,aG hj]
  exact h.own _ (dt _)
 rw[Ju Ck.iv ks i k { k with n:=m,vs:=k.vs.take m } hk rfl];exact h.apart
theorem St.abo{w0 w:aa}{ks:List Ck}{t:ad}{A:ai}{n c:Nat}{xs:ah}(h:St w0 w ks)(i:Nat)(hk:ks[i]?=some (av t A n c xs))(m:Nat)(hm:m<=n):St w0 w (ks.set i (av t A m c (xs.take m))):=by
 have:=h.shrink i hk m hm (vH _);simpa[av]using this
theorem afa(op:ah)(h:0<op.length):∃o x,op=o++[x]:=⟨op.dropLast,op.getLast (by intro e;simp[e]at h),(List.dropLast_concat_getLast _).symm⟩
theorem aaf(A:ai)(n c:Nat)(rs:List aE)(xss:ag)(N:Nat)(w:aa)(hR:bH w A n rs xss)(hn:n<=9223372036854775807)(hs:Sys N xss)(ajK:tH N xss)(hN:N<=1048576):
 aF prog 69 [aj N,.slice A n c] w (λv w'=>∃A',v=.tuple #[.slice A' N N,aj (bO N xss N).2]/\St w w' [av 2 A' N N (bO N xss N).1]):=by
 have bT:∀k:Int,0<=k->k<n->(rg rs k).n=N:=λk ue hk=>by
  rw[<-hR.qc ue hk];exact(hs _ (rD ue (by rw[hR.len];exact hk))).1
 refine bn func69 O ntmps69 O (mI O) (aY O (eh (St.refl w) O O O ?_));intro A1 w1 ax;refine aq O (aI (FL A1 1 (-1) N w1 (ax.bF 0 O) hN) O ?_);rintro _ w2 ⟨A6,rfl,az⟩;have az:=(ax.call2 az).tail;refine ay O (Cd.loop (α:=Nat) (λi=>[(1,.slice A n c),(6,.slice A6 N N),(7,aj (bO N xss i).2),(17,aj N),(18,aj i)]) (λi w'=>St w w' [av 2 A6 N N (bO N xss i).1]/\i<=N) (λi=>N-i) 0 (auV O) ⟨az,bl _⟩ ?_);rintro i e w3 ⟨aM,hi⟩;have ub:=y5 N xss i;refine bC O (aK _ O (λh1=>?_) (λh1=>?_))
 ·refine aC O (aA (aM.bF 0 O).2 O (bg (aM.bF 0 O) O (ay O ?_)));refine aK _ O (λh2=>?_) (λh2=>?_)
  ·refine aC O (aJ O (aN O (tQ ?_)));exact⟨i+1,ac,⟨O,O,by rw[Da h2];rfl,O,O,au⟩,by rw[Da h2];exact aM,ac⟩
  refine aC O (aA (aM.bF 0 O).2 O (ak.oL 0 aM O O O ac ?_));intro w4 aU;refine aq O (eh aU O O O ?_);intro A9 w5 aO;refine ay O ?_;have aW:oM (bO N xss i).1<=N:=by
   have:=List.countP_le_length (p:=λx:Int=>decide (x<0)) (l:=(bO N xss i).1);rw[qP]at this;exact this
  have hun1:=Mc (L:=(bO N xss i).1) (x:=i) (c:=(bO N xss i).2) ac (by rw[qP];omega) ac ub.1;refine Cd.loop (α:=ah×ah×ai×Nat) (λq=>[(1,.slice A n c),(6,.slice A6 N N),(7,aj (bO N xss i).2),(9,.slice q.2.2.1 q.2.1.length q.2.2.2),(17,aj N),(18,aj i)]) (λq w'=>St w w' [av 2 q.2.2.1 q.2.1.length q.2.2.2 q.2.1,av 2 A6 N N q.1]/\nZ N xss i (bO N xss i).2 (bO N xss i).1 q.1 q.2.1 (-1) 0/\oM q.1+q.2.1.length<=N) (λq=>oM q.1+q.2.1.length) ((bO N xss i).1.set (i:Int).toNat (bO N xss i).2,[(i:Int)],A9,1) (auV O) ⟨aO,nZ.init (qP N xss i) ac ac ac ub.1,by show oM ((bO N xss i).1.set (i:Int).toNat (bO N xss i).2)+1<=N;omega⟩ ?_;rintro⟨L,op,A9,c9⟩ e2 w6 ⟨bk,hD,hu⟩;dsimp only at bk hD hu|-;refine aY O (aR O O (ay O ?_));refine aK _ O (λh3=>?_) (λh3=>?_)
  ·obtain⟨o,x,rfl⟩:=afa op ac;have G8:(o++[x]).length=o.length+1:=by simp
   have hx:gi (o++[x]) (((o++[x]).length:Int)-1)=x:=by
    rw[show(((o++[x]).length:Nat):Int)-1=((o.length:Nat):Int) by omega,b7 (by omega)];simp
   have vF:=hD.zc x (by simp);refine aC O (aR O O (cV O ?_));refine aA (bk.bF 0 O).2 O (bg (bk.bF 0 O) O ?_);rw[hx];refine aq O (aR O O (cV O ?_));refine rW O O O (by have:=(bk.cap 0 O).1;dsimp only at this;omega) ?_;have bp:=bk.abo 0 O o.length ac;rw[List.take_left]at bp;rw[show(((o++[x]).length:Nat):Int)-1=((o.length:Nat):Int) by omega,gx];refine aq O (aR O O (ay O ?_));refine Cd.loop (α:=Nat×ah×ah×ai×Nat) (λq=>[(1,.slice A n c),(6,.slice A6 N N),(7,aj (bO N xss i).2),(9,.slice q.2.2.2.1 q.2.2.1.length q.2.2.2.2),(10,aj x),(17,aj N),(18,aj i),(46,.slice A n c),(47,aj n),(48,aj (q.1:Int))]) (λq w'=>St w w' [av 2 q.2.2.2.1 q.2.2.1.length q.2.2.2.2 q.2.2.1,av 2 A6 N N q.2.1]/\nZ N xss i (bO N xss i).2 (bO N xss i).1 q.2.1 q.2.2.1 x q.1/\q.1<=n/\gi q.2.1 x=(bO N xss i).2/\oM q.2.1+q.2.2.1.length=oM L+o.length) (λq=>n-q.1) (0,L,o,A9,c9) (auV O) ⟨bp,hD.apb,bl _,vF.2.2.2,O⟩ ?_;rintro⟨k,L',o',A',c'⟩ e3 w8 ⟨bB,D6,hk,KR,Yu⟩;dsimp only at bB D6 hk KR Yu|-;refine bC O (aK _ O (λh4=>?_) (λh4=>?_))
   ·have hM:=bB.bU hR;have br:=hM.at_ (i:=k) ac h4;have e6:=bT k ac h4;have iq:gl xss k∈xss:=rD ac (by rw[hR.len];exact h4);have hy:=(hs _ iq).2 x vF.1 vF.2.1;refine aC O (auJ hM.top.2 O O O ac h4 (bw hM.top O (aq O (aA br.2 O (bg br O (aq O (aA (bB.bF 1 O).2 O (bg (bB.bF 1 O) O (ay O ?_)))))))));refine aK _ O (λh5=>?_) (λh5=>?_)
    ·refine aC O (aA (bB.bF 1 O).2 O (ak.oL 1 bB O O O ac ?_));intro w9 bj;refine aq O (eh bj O O O ?_);intro fC dJ cQ;refine eQ 1 cQ O (cQ.bF 0 O) O O O λeP iW eO dA=>aq O (aJ O (aN O (tQ ?_)));have hu9:=Mc (L:=L') (x:=gi (gl xss k) x) (c:=(bO N xss i).2) hy.1 (by rw[D6.len];exact hy.2) h5 ub.1;refine⟨(k+1,L'.set (gi (gl xss k) x).toNat (bO N xss i).2,o'++[gi (gl xss k) x],eP,iW),by show n-(k+1)<n-k;omega,⟨O,O,O,by rw[cj];rfl,O,O,O,O,O,O,au⟩,?_,D6.push hs ac (by rw[hR.len];omega) vF.1 vF.2.1 vF.2.2.1 KR ub.1 h5,by show k+1<=n;omega,?_,?_⟩
     ·have sZ:=dA.tail;simp only[cj,List.length_singleton];exact sZ
     ·show gi (L'.set _ _) x=_;rw[wE hy.1 (by rw[D6.len];exact hy.2) vF.1]
      split
      ·rfl
      exact KR
     show oM (L'.set _ _)+(o'++[_]).length=_;simp only[cj,List.length_singleton];omega
    refine aC O (aJ O (aN O (tQ ?_)));exact⟨(k+1,L',o',A',c'),by show n-(k+1)<n-k;omega,(auV O),bB,D6.skip (by rw[hR.len];omega) ac,by show k+1<=n;omega,KR,Yu⟩
   refine ba O (bc (vZ O (tQ ?_)));have fU:k=xss.length:=by rw[hR.len];omega
   subst fU;exact⟨(L',o',A',c'),by show oM L'+o'.length<oM L+(o++[x]).length;omega,(auV O),bB,D6.rest,by show oM L'+o'.length<=N;omega⟩
  have qI:op=[]:=iL ac;subst qI;have hL:=hD.done hs ajK ac h2;refine ba O (bc (bY O (aJ O (aq O (aJ O (aN O (tQ ?_)))))));refine⟨i+1,ac,⟨O,O,by rw[Bv h2];rfl,O,O,au⟩,?_,ac⟩;rw[<-hL];exact bk.tail
 refine ba O (bc (ew O ?_));refine vQ O O ?_;have:i=N:=by omega
 subst this;exact⟨A6,O,aM⟩
def Comm(xss:ag)(i k f:Nat):Prop:=gi (gl xss k) (gi (gl xss i) f)=gi (gl xss i) (gi (gl xss k) f)/\gi (gl xss i) f≠gi (gl xss k) f
instance (xss:ag)(i k f:Nat):Decidable (Comm xss i k f):=by unfold Comm;exact inferInstance
def xT(xss:ag):Prop:=∀p∈xss,p.length=(gl xss 0).length/\mL p/\sQ p
instance (xss:ag):Decidable (xT xss):=by unfold xT;exact inferInstance
def eY(xss:ag):Prop:=(1<=xss.length/\xss.length<=5)/\(2<=(gl xss 0).length/\(gl xss 0).length<=400)/\xT xss/\(∀i,i<xss.length->∀k,k<xss.length->i+2<=k->∀f,f<(gl xss 0).length->Comm xss i k f)/\(gw (gl xss 0).length xss 0).length=(gl xss 0).length
instance (xss:ag):Decidable (eY xss):=by unfold eY;exact inferInstance
theorem mL.inj{p:ah}(h:mL p){x y:Int}(hx:0<=x)(jT:x<p.length)(hy:0<=y)(vG:y<p.length)(e:gi p x=gi p y):x=y:=by
 obtain⟨a,rfl⟩:∃a:Nat,x=a:=⟨x.toNat,ac⟩;obtain⟨b,rfl⟩:∃b:Nat,y=b:=⟨y.toNat,ac⟩;rw[b7 (by omega),b7 (by omega)]at e;have:=(List.getElem_inj (h₀:=by omega) (h₁:=by omega) h.2.2).1 e;omega
theorem xT.sys{xss:ag}(h:xT xss):Sys (gl xss 0).length xss:=λp hp=>by
 have h1:=h p hp;refine⟨h1.1,λx h0 hx=>?_⟩;have:=h1.2.1.range (i:=x) h0 ac;omega
theorem xT.inj{xss:ag}(h:xT xss):tH (gl xss 0).length xss:=λp hp x y hx jT hy vG e=>by
 have h1:=h p hp;exact h1.2.1.inj hx ac hy ac e
theorem xT.at_{xss:ag}(h:xT xss){k:Nat}(hk:k<xss.length):(gl xss k).length=(gl xss 0).length/\mL (gl xss k)/\sQ (gl xss k):=h _ (by rw[df hk];exact dt _)
theorem apN{rs:List aE}{l m:Nat}{j:Nat}(hj:j<m):rg ((rs.drop l).take m) j=rg rs ((l+j:Nat):Int):=by
 have e:(((l+j:Nat):Int)).toNat=l+j:=by omega
 rw[rg,rg,e];simp[b5,qk,hj]
section
variable {P:Program}{N:Nat}{ops:Array Oper}{K:Env->aa->Prop}{rest:List Oper}{e:Env}{w:aa}{d:Nat}{ty:ad}{pos:String}{af:Array Edge}{x y:ae}{xt yt:ad}
theorem run_equal_bool[bJ P xt .bool](a b:Bool):(Op.equal xt (.bool a) (.bool b)).run P w=.ok (a==b) w:=
 run_equalIn_bool w 9999 xt a b bJ.out
theorem MC[bJ P xt .bool]{a b:Bool}(hx:ev e x=.bool a)(hy:ev e y=.bool b)(hb:Nat.blt d N=true)(hK:ak P N ops K rest (bE e d (.bool (!(a==b)))) w):
 ak P N ops K (⟨some d,.binOp .neq xt x y yt,ty,pos,af,none⟩::rest) e w:=
 .val (by simp[execOp,hx,hy,eqGuard,binOp,run_equal_bool]) hb hK
theorem acP[bJ P xt .bool]{a b:Bool}(hx:ev e x=.bool a)(hy:ev e y=.bool b)(hb:Nat.blt d N=true)(hK:ak P N ops K rest (bE e d (.bool (a==b))) w):
 ak P N ops K (⟨some d,.binOp .eql xt x y yt,ty,pos,af,none⟩::rest) e w:=
 .val (by simp[execOp,hx,hy,eqGuard,binOp,run_equal_bool]) hb hK
end
section
variable{t t':ad}
variable {P:Program}{N:Nat}{ops:Array Oper}{K:Env->aa->Prop}{rest:List Oper}{e:Env}{w0 w w':aa}{ks:List Ck}{d:Nat}{ty:ad}{pos:String}{af:Array Edge}
theorem Td{f0:Field}{z0 zf:ab}{b bf:Nat}[bJ P t (.struct #[f0])][bL P t (.agg #[z0]) 1 b]{x0:ae}{v0:ab}(hI:bL P f0.type zf 1 bf)(ho:f0.offset=0)(h0:ev e x0=v0)(c0:v0.oneCell'=true)(hb:Nat.blt d N=true)(hK:ak P N ops K rest (bE e d (.agg #[v0])) w):ak P N ops K (⟨some d,.build t #[(0,x0)],ty,pos,af,none⟩::rest) e w:=by
 obtain⟨inf,hi,eN,hs,iI⟩:=bL.get P t;obtain⟨inf',fY,hz0',KN,hby'⟩:=hI.get P f0.type;have e0:v0.cells= #[v0]:=by cases v0<;>simp[Value.oneCell']at c0<;>rfl
 have ez:(Value.agg #[z0]).cells= #[z0]:=O;refine .val (w':=w) ?_ hb hK;simp[execOp,Instr.build,run_underlying (bJ.out (P:=P) (t:=t)),sizeOf,typeInfo,zeroValue,hi,eN,fY,KN,ho,h0,e0,ez,Instr.fill]
theorem Tp{x y:ae}{i j:Int}(hx:ev e x=aj i)(hy:ev e y=aj j)(hb:Nat.blt d N=true)(hK:ak P N ops K rest (bE e d (aj (max i j))) w):
 ak P N ops K (⟨some d,.call ⟨.builtin .max, #[x,y], #[t,t']⟩,ty,pos,af,none⟩::rest) e w:=by
 have hm:(if i<j then j else i)=max i j:=by split<;>omega
 refine .val (w':=w) ?_ hb hK;simp[execOp,resolve,invoke,builtin,hx,hy,Builtin.max_,Builtin.max2,hm]
theorem BU{el:ad}[bJ P t (.slice el)]{x y:ae}{A:ai}{n c:Nat}(hx:ev e x=.slice A n c)(hy:ev e y=.slice none 0 0)(hb:Nat.blt d N=true)(hK:ak P N ops K rest (bE e d (.bool A.isNone)) w):
 ak P N ops K (⟨some d,.binOp .eql t x y t',ty,pos,af,none⟩::rest) e w:=by
 have hr:(Op.equal t (.slice A n c) (.slice none 0 0)).run P w=.ok A.isNone w:=by
  show(Op.equalIn (9999+1) t (.slice A n c) (.slice none 0 0)).run P w=_;rw[Op.equalIn];cases A<;>simp[run_underlying (bJ.out (P:=P) (t:=t))]
 exact .val (by simp[execOp,hx,hy,eqGuard,binOp,hr]) hb hK
end
theorem aaV{t:ad}:∀{rs:List aE}{xss:ag}{i:Nat}{xs:ah},rs.length=xss.length->i<rs.length->(cC t rs xss).set i (av t (rs.getD i bI).a (rs.getD i bI).n (rs.getD i bI).c xs)=cC t rs (xss.set i xs)
 |[],_,_,_,_,h=>by simp at h
 |r::rs,[],_,_,h,_=>by simp at h
 |r::rs,x::xss,0,xs,_,_=>rfl
 |r::rs,x::xss,i+1,xs,h,hi=>by
  have:=aaV (t:=t) (rs:=rs) (xss:=xss) (i:=i) (xs:=xs) (by simpa using h) (by simpa using hi);simpa[cC]using this
theorem uB{t1 t2:ad}{A:ai}{n c:Nat}{rs:List aE}{xss:ag}{pre ks:List Ck}{i:Nat}(hr:rs.length=xss.length)(hi:i<rs.length):(pre++(aV t1 t2 A n c rs xss++ks))[pre.length+1+i]?=some (av t2 (rs.getD i bI).a (rs.getD i bI).n (rs.getD i bI).c (xss.getD i [])):=by
 rw[jM (by omega),show pre.length+1+i-pre.length=i+1 by omega,jF (by simp[aV,xA hr];omega)];simpa[aV]using BC (t:=t2) hr hi
theorem anT{t1 t2:ad}{A:ai}{n c:Nat}{rs:List aE}{xss:ag}{pre ks:List Ck}{i:Nat}{xs:ah}(hr:rs.length=xss.length)(hi:i<rs.length):(pre++(aV t1 t2 A n c rs xss++ks)).set (pre.length+1+i) (av t2 (rs.getD i bI).a (rs.getD i bI).n (rs.getD i bI).c xs)=pre++(aV t1 t2 A n c rs (xss.set i xs)++ks):=by
 rw[List.set_append_right _ _ (by omega),show pre.length+1+i-pre.length=i+1 by omega,List.set_append_left _ _ (by simp[aV,xA hr];omega)]
 congr 2
 simp only[aV,List.set_cons_succ];rw[aaV hr hi]
section
variable {P:Program}{N:Nat}{ops:Array Oper}{K:Env->aa->Prop}{rest:List Oper}{e:Env}{w0 w w':aa}{ks pre:List Ck}{ty:ad}{pos:String}{af:Array Edge}
theorem zH{t t1 t2:ad}{z:ab}{b:Nat}[bL P t z 1 b]{a x:ae}{A:ai}{n c:Nat}{rs:List aE}{xss:ag}(i:Nat){f u:Int}(hS:St w0 w (pre++(aV t1 t2 A n c rs xss++ks)))(hr:rs.length=xss.length)(hi:i<rs.length)(ha:ev e a=.pointer (aH (rg rs i).a f.toNat))(hx:ev e x=aj u)(hj:f.toNat<(rg rs i).n)(hK:∀w',St w0 w' (pre++(aV t1 t2 A n c rs (xss.set i ((gl xss i).set f.toNat u))++ks))->ak P N ops K rest e w'):ak P N ops K (⟨none,.store t a x,ty,pos,af,none⟩::rest) e w:=
 .oL (pre.length+1+i) hS (uB hr hi) ha hx hj λw' h=>hK w' (by
  have e1:gl xss i=xss.getD i []:=by simp[gl]
  rw[e1,<-anT (pre:=pre) (ks:=ks) hr hi];exact h)
end
structure It where
 top:aE
 rs:List aE
 xss:ag
def It.ok(m:It):Prop:=m.xss.length=m.top.n
def It.iM(t1 t2:ad)(m:It):List Ck:=aV t1 t2 m.top.a m.top.n m.top.c m.rs m.xss
section
variable {P:Program}{N:Nat}{ops:Array Oper}{K:Env->aa->Prop}{rest:List Oper}{e:Env}{w0 w w':aa}{ks:List Ck}{d:Nat}{ty:ad}{pos:String}{af:Array Edge}
def aaP(a n u:Nat)(R:ab->aa->Prop):jo
 | .normal,e,w=>∃A f,e a=.pointer A/\Rd w A n f/\R (.tuple #[.agg ((List.range n).map f).toArray,e u]) w
 | .ret,e,w=>∃A f,e a=.pointer A/\Rd w A n f/\R (.tuple #[.agg ((List.range n).map f).toArray,e u]) w
 |_,_,_=>False
theorem oI{a n u:Nat}{R:ab->aa->Prop}{A:ai}{f:Nat->ab}{v:ab}(h:e a=.pointer A)(hR:Rd w A n f)(hv:e u=v)(h2:R (.tuple #[.agg ((List.range n).map f).toArray,v]) w):aaP a n u R .ret e w:=⟨A,f,h,hR,by rw[hv];exact h2⟩
theorem tw{fn:Func}{R:ab->aa->Prop}{a t n b u:Nat}{fs:Array Field}{z:ab}[bJ P t (.struct fs)][bL P t z n b](hr:fn.results= #[.cell a t,.tmp u])(tj:Nat.blt 0 n=true):∀x a1 e w,lM N a1 e->aaP a n u R x e w->bodyPost P fn (λx w'=>∃v,x=.returned v/\R v w') x a1 w:=by
 intro x a1 e w he q;have hn:0<n:=by simpa[Nat.blt_eq]using tj
 have hg:=he.get a;have hh:=he.get u;have key:∀(A:ai)(f:Nat->ab),e a=.pointer A->Rd w A n f->(results fn a1.tmps).run P w=.ok (.tuple #[.agg ((List.range n).map f).toArray,e u]) w:=by
  intro A f hA hR;obtain⟨q,rfl,hl⟩:=aa0 (P:=P) (t:=t) hn hR;rw[sL]at hg hh;simp[results,hr,hg,hh,hA,asAddr,hl]
 cases x<;>first
  |exact q.elim
  |(
   obtain⟨A,f,hA,hR,h2⟩:=q;exact⟨he.defers,_,key A f hA hR,_,O,h2⟩)
end
end
section
def cell(M:ag)(i:Nat)(f:Int):Int:=gi (gl M i) f
def abk(M:ag)(i f:Nat)(v:Int):ag:=M.set i ((gl M i).set f v)
def put(M:ag)(i f g:Nat):ag:=abk (abk M i f g) i g f
section
variable {n F:Nat}{M:ag}
theorem DZ{i k:Nat}{p:ah}(hi:i<M.length):gl (M.set i p) k=if i=k then p else gl M k:=by
 simp only[gl,gx,b5,lI]
 by_cases e:i=k
 ·subst e;simp[hi]
 simp[e]
end
section
variable {n F:Nat}{M:ag}{met at_:Nat}
def grow(n F:Nat)(ok:ag->Nat->Nat->Bool)(fin:ag->Bool):Nat->Nat->Nat->ag->List (ag)
 |0,_,_,_=>[]
 |k+1,at_,met,M=>
  if at_=met*n then(if met=F/\fin M=true then[M]else[])
  else if 0<=cell M (at_%n) (at_ / n:Nat)then grow n F ok fin k (at_+1) met M
  else(List.range' (at_ / n+1) (min met (F-1)-at_ / n)).flatMap λg=>
   if 0<=cell M (at_%n) (g:Nat)then[]else if ok (put M (at_%n) (at_ / n) g) (at_%n) (at_ / n)=true then grow n F ok fin k (at_+1) (max met (g+1)) (put M (at_%n) (at_ / n) g)else[]
end
def kn(M:ag)(i:Nat)(x:Int):Int:=if x<0 then-1 else cell M i x
def Mq(M:ag)(i k:Nat)(f:Int):Prop:=(0<=cell M i f->cell M i f≠cell M k f)/\(0<=kn M k (cell M i f)->0<=kn M i (cell M k f)->kn M k (cell M i f)=kn M i (cell M k f))
instance (M:ag)(i k:Nat)(f:Int):Decidable (Mq M i k f):=by unfold Mq;exact inferInstance
def SZ(M:ag)(f:Int):Prop:=∀i,i<M.length->∀k,k<M.length->i+2<=k->Mq M i k f
instance (M:ag)(f:Int):Decidable (SZ M f):=by unfold SZ;exact inferInstance
def SS(M:ag)(i k:Nat)(f g:Int):Prop:=cell M k f=g\/(0<=cell M k f/\0<=cell M k g/\0<=cell M i (cell M k f)/\cell M i (cell M k f)≠cell M k g)\/(0<=cell M k f/\0<=cell M k g/\0<=cell M i (cell M k g)/\cell M i (cell M k g)≠cell M k f)
instance (M:ag)(i k:Nat)(f g:Int):Decidable (SS M i k f g):=by unfold SS;exact inferInstance
section
variable {n F:Nat}{L M:ag}
def forms(n F:Nat)(k at_ met:Nat)(M:ag):List (ag):=(grow n F (λ_ _ _=>true) (λ_=>true) k at_ met M).filter λL=>decide (eY L)
end
end
section
open Go.RowKit
def abh(init:ah)(ix v:Nat->Int):Nat->ah
 |0=>init
 |k+1=>(abh init ix v k).set (ix k).toNat (v k)
def adI(N:Nat)(o:ah):ah:=abh (List.replicate N 0) (λk=>gi o k) (λk=>(k:Int)) o.length
section
variable {N:Nat}{o:ah}
end
def ap0(o b mv:ah):ah:=o.map λx=>gi b (gi mv x)
def agE(N:Nat)(xss:ag)(f:Int):ag:=xss.map λmv=>ap0 (gw N xss f) (adI N (gw N xss f)) mv
def nG(a b:Int):Int:=if a<b then-1 else if b<a then 1 else 0
def iB:ah->ah->Int
 |[],[]=>0
 |[],_::_=> -1
 |_::_,[]=>1
 |a::l,b::r=>if nG a b=0 then iB l r else nG a b
def Zr:ag->ag->Int
 |[],[]=>0
 |[],_::_=> -1
 |_::_,[]=>1
 |a::l,b::r=>if iB a b=0 then Zr l r else iB a b
theorem zS{a b:Int}:nG a b=0↔a=b:=by unfold nG;by_cases h:a<b<;>by_cases h':b<a<;>simp[h,h']<;>omega
theorem FV{a b:Int}:nG a b<0↔a<b:=by unfold nG;by_cases h:a<b<;>by_cases h':b<a<;>simp[h,h']<;>omega
theorem aeX(a b:Int):nG b a= - nG a b:=by unfold nG;split<;>split<;>omega
theorem QR:∀{a b:ah},iB a b=0↔a=b
 |[],[]=>by simp[iB]
 |[],_::_=>by simp[iB]
 |_::_,[]=>by simp[iB]
 |a::l,b::r=>by
  simp only[iB]
  split
  ·rename_i h;rw[QR,zS.1 h];simp
  ·rename_i h;constructor
   ·intro h';exact absurd h' h
   ·intro h';exact absurd (zS.2 (List.cons.inj h').1) h
theorem QQ:∀(a b:ah),iB b a= - iB a b
 |[],[]=>rfl
 |[],_::_=>rfl
 |_::_,[]=>rfl
 |a::l,b::r=>by
  simp only[iB];rw[aeX a b,QQ l r]
  by_cases h:nG a b=0
  ·rw[aG h,aG (by omega)]
  ·rw[aD h,aD (by omega)]
theorem Zv:∀{a b c:ah},iB a b<0->iB b c<0->iB a c<0
 |[],[],_,h,_=>by simp[iB]at h
 |[],_::_,[],_,h=>by simp[iB]at h
 |[],_::_,_::_,_,_=>by simp[iB]
 |_::_,[],_,h,_=>by simp[iB]at h
 |_::_,_::_,[],_,h=>by simp[iB]at h
 |a::l,b::r,c::s,h,h'=>by
  simp only[iB]at h h'|-
  by_cases e1:nG a b=0
  ·have:=zS.1 e1;subst this;rw[aG e1]at h
   by_cases e2:nG a c=0
   ·rw[aG e2]at h'|-;exact Zv h h'
   ·rw[aD e2]at h'|-;exact h'
  ·rw[aD e1]at h;have gr:=FV.1 h
   by_cases e2:nG b c=0
   ·have:=zS.1 e2;subst this;rw[aD e1];exact h
   ·rw[aD e2]at h';have hbc:=FV.1 h';have J5:nG a c<0:=FV.2 ac;rw[aD (by omega)];exact J5
section
variable {n F:Nat}
end
theorem ER(A:ai)(n c:Nat)(xs:ah)(w:aa)(hR:bu w A n xs)(hn:n<=1000000000):aF prog 73 [.slice A n c] w (λv w'=>∃A' c',v=.slice A' n c'/\St w w' [av 2 A' n c' xs]):=by
 refine bn func73 O ntmps73 O (bM O) (aY O (jy (St.refl w) O ?_));intro A1 w1 ax;have ax:St w w1 [av 2 A1 0 0 []]:=ax;refine aq O (eQ 0 ax O (ax.dq hR) O O O ?_);intro A2 c2 w2 az;rw[Nat.zero_add]at az|-;refine bR O (dV O ?_);exact⟨A2,c2,O,az⟩
theorem amA(A:ai)(n c:Nat)(rs:List aE)(xss:ag)(w:aa)(hR:bH w A n rs xss)(hn:n<=1000000000)(hr:∀i,i<n->(rs.getD i bI).n<=1000000000):
 aF prog 72 [.slice A n c] w (λv w'=>∃A' c' rs',v=.slice A' n c'/\rs'.length=n/\St w w' (aV 27 2 A' n c' rs' xss)):=by
 refine bn func72 O ntmps72 O (bM O) (aY O (jy (St.refl w) O ?_));intro A1 w1 ax;have ax:St w w1 [aX 27 A1 0 0 []]:=ax;refine ay O (Cd.loop (α:=Nat×ai×Nat×List aE) (λs=>[(0,.slice A n c),(3,.slice s.2.1 s.1 s.2.2.1),(4,aj (s.1:Int))]) (λs w'=>St w w' (aX 27 s.2.1 s.1 s.2.2.1 s.2.2.2::cC 2 s.2.2.2 (xss.take s.1))/\s.1<=n/\s.2.2.2.length=s.1) (λs=>n-s.1) (0,A1,0,[]) (auV O) ⟨ax,bl _,O⟩ ?_);rintro⟨k,A3,c3,E6⟩ e w2 ⟨az,hk,hlen⟩;dsimp only at az hk hlen|-;refine aY O (aR O O (ay O ?_));refine aK _ O (λh1=>?_) (λh1=>?_)
 ·have fU:k<n:=by omega
  have hx:k<xss.length:=by rw[hR.len];exact fU
  refine aC O (auJ (az.pc hR.top).2 O O O ac h1 (bw (az.pc hR.top) O (aI (ER _ _ _ _ _ (az.dq (hR.at_ (i:=k) ac h1)) (hr k fU)) O ?_)));rintro _ w3 ⟨A4,c4,rfl,aM⟩;have aM:=az.call aM;refine jW aM O O O λA5 w4 aU=>iT 2 aU O (aU.dm 0 O) O O O ac ac O λA6 c6 w5 aO=>aq O (aJ O (aN O (tQ ?_)));refine⟨(k+1,A6,c6,E6++[⟨A4,(rg rs k).n,c4⟩]),by show n-(k+1)<n-k;omega,(auV O),?_,fU,by simp[hlen]⟩;have e2:gl xss k=xss[k]:=by simp[gl,b5,fL hx]
  show St w w5 (aX _ A6 (k+1) c6 (E6++[_])::cC _ (E6++[_]) (xss.take (k+1)));rw[oQ hx,tA (by simp[hlen];omega)];have h5:St w w5 (av 2 A4 (rg rs k).n c4 (gl xss k)::aX 27 A6 (k+1) c6 (E6++[⟨A4,(rg rs k).n,c4⟩])::cC 2 E6 (xss.take k)):=aO.tail;rw[e2]at h5;refine h5.perm ?_;refine(List.Perm.swap _ _ _).trans (List.Perm.cons _ ?_);exact gL (l₁:=[_])
 refine ba O (bc (ew O ?_));refine dV O ?_;have:k=n:=by omega
 subst this;rw[<-hR.len,List.take_length]at az;exact⟨A3,c3,E6,O,hlen,by rw[<-hR.len];exact az⟩
def body(n F:Nat)(ok:ag->Nat->Nat->Bool)(fin:ag->Bool)(k at_ met:Nat)(M:ag)(g:Nat):List (ag):=
 if 0<=cell M (at_%n) (g:Nat)then[]else if ok (put M (at_%n) (at_ / n) g) (at_%n) (at_ / n)=true then grow n F ok fin k (at_+1) (max met (g+1)) (put M (at_%n) (at_ / n) g)else[]
end
section
section
variable {n F:Nat}{M:ag}{met at_:Nat}
end
end
section
open Go.RowKit
def Small(Lx flags:Int):Prop:=(1<=Lx/\Lx<=4)/\(2<=flags/\flags<=12)
instance (Lx flags:Int):Decidable (Small Lx flags):=by unfold Small;exact inferInstance
theorem DA(A:ai)(n c:Nat)(xs:ah)(w:aa)(hR:bu w A n xs)(hn:n<=1000000000):aF prog 64 [.slice A n c] w (λv w'=>∃A' c',v=.slice A' n c'/\St w w' [av 2 A' n c' xs]):=by
 cases hA:A with
 |none=>
  subst hA;have pP:n=0:=by
   apply qi;intro h;obtain⟨p,hp,_⟩:=hR.2 0 ac;simp[aH]at hp
  subst pP;have hx:xs=[]:=iL hR.1;subst hx;refine bn func64 O ntmps64 O (bM O) (aY O (BU O O O (ay O (Cd.iw O (dE O (dV O ?_))))));exact⟨none,0,O,(St.refl w).nil _⟩
 |some a=>
  subst hA;refine bn func64 O ntmps64 O (bM O) (aY O (BU O O O (ay O (Cd.cX O (aC O (jy (St.refl w) O ?_))))));intro A1 w1 ax;have ax:St w w1 [av 2 A1 0 0 []]:=ax;refine aq O (eQ 0 ax O (ax.dq hR) O O O ?_);intro A2 c2 w2 az;rw[Nat.zero_add]at az|-;refine bR O (dV O ?_);exact⟨A2,c2,O,az⟩
section
variable {P:Program}{N:Nat}{ops:Array Oper}{K:Env->aa->Prop}{rest:List Oper}{e:Env}{w:aa}{d:Nat}{ty:ad}{pos:String}{af:Array Edge}
end
def oN(l:ah):Prop:=l.Pairwise (· <= ·)
def fb(l:ah):ah:=l.mergeSort λx y=>decide (x<=y)
theorem tD(l:ah):(fb l).Perm l:=List.mergeSort_perm _ _
theorem BI(l:ah):oN (fb l):=by
 have:=List.pairwise_mergeSort (le:=λx y:Int=>decide (x<=y)) (λa b c h1 h2=>by simp at h1 h2|-;omega) (λa b=>by simp;omega) l;exact this.imp λh=>by simpa using h
theorem adG{l l':ah}(h:l.Perm l')(h1:oN l)(h2:oN l'):l=l':=
 List.Perm.eq_of_pairwise (le:=(· <= ·)) (λa b _ _ h1 h2=>by omega) h1 h2 h
theorem adF{out:ah}{a:Nat}{v:Int}(h:oN out)(ha:a<=out.length)(hl:∀j:Nat,j<a->gi out j<v)(hg:a<out.length->v<=gi out a):oN (out.take a++(v::out.drop a)):=by
 have key:∀j (hj:j<out.length),gi out j=out[j]:=λj hj=>by simp[gi,b5,fL hj]
 have Xi:∀i j (hi:i<out.length) (hj:j<out.length),i<=j->out[i]<=out[j]:=λi j hi hj jC=>by
  by_cases e:i=j
  ·subst e;exact Int.le_refl _
  exact(List.pairwise_iff_getElem.1 h) i j hi hj ac
 unfold oN;rw[List.pairwise_append,List.pairwise_cons];refine⟨h.sublist (List.take_sublist _ _),⟨λx hx=>?_,h.sublist (List.drop_sublist _ _)⟩,λx hx y hy=>?_⟩
 ·obtain⟨j,hj,rfl⟩:=fS.1 hx;rw[List.length_drop]at hj;rw[List.getElem_drop];have h1:=hg ac;rw[key a (by omega)]at h1;exact Int.le_trans h1 (Xi _ _ ac ac ac)
 obtain⟨j,hj,rfl⟩:=fS.1 hx;rw[jG]at hj;rw[List.getElem_take];have YE:out[j]<v:=by rw[<-key j (by omega)];exact hl j ac
 rcases gW.1 hy with rfl|hy
 ·omega
 obtain⟨m,hm,rfl⟩:=fS.1 hy;rw[List.length_drop]at hm;rw[List.getElem_drop];exact Xi _ _ ac ac ac
theorem apr{out:ah}{a:Nat}{v:Int}:(out.take a++(v::out.drop a)).Perm (out++[v]):=by
 have h1:(out.take a++(v::out.drop a)).Perm (v::(out.take a++out.drop a)):=mO;rw[List.take_append_drop]at h1;exact h1.trans (gL (l₁:=[v]))
def S0(xss:ag):Prop:=eY xss/\2<=xss.length
instance (xss:ag):Decidable (S0 xss):=by unfold S0;exact inferInstance
theorem QH(A:ai)(n c:Nat)(rs:List aE)(xss:ag)(w:aa)(hR:bH w A n rs xss)(hn:0<n):
 aF prog 99 [.agg #[.slice A n c]] w (λv w'=>v=aj ((gl xss 0).length:Int)/\St w w' []):=by
 refine bn func99 O ntmps99 O (bM O) (aY O (rf (St.refl w) O O ?_));intro Ab w1 hS;have eW:=hS.bU hR;have e0:(gl xss 0).length=(rg rs 0).n:=hR.qc ac ac;refine aq O (aS (hS.rd 0 O) O (a6 (hS.rd 0 O) O (aA eW.top.2 O (bw eW.top O ?_))));refine aR O O (bR O ?_);refine gj O ?_;exact⟨by rw[e0],hS.none⟩
theorem bu.drop{w:aa}{A:ai}{n c l:Nat}{xs:ah}(h:bu w A n xs)(hl:l<=n)(hc:n<=c):bu w (cutAt A c l) (n-l) (xs.drop l):=by
 have:=h.cut (l:=l) (h:=n) (c:=c) hl (cJ _) hc
 rwa[jw (by rw[List.length_drop,h.1];omega)]at this
theorem bu.take{w:aa}{A:ai}{n l:Nat}{xs:ah}(h:bu w A n xs)(hl:l<=n):bu w A l (xs.take l):=by
 have:=h.cut (l:=0) (h:=l) (c:=0) (bl _) hl;refine⟨by rw[jG,h.1];omega,λk hk=>?_⟩;obtain⟨q,h1,h2⟩:=h.2 k ac;exact⟨q,h1,by rw[h2];simp[qk,hk,b5]⟩
end
end Go.Proofs.YtimbpgackifflaaGreatDoor.Vc
