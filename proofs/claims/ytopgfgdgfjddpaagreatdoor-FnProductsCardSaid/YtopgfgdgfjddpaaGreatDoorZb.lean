/-
  The texts B1, Law, B2, Orb, B3, Drn, Drp, Rep, Lab, B4, B5, B6, B7, Agg, Rc2, Src, Sr2, Sr3, Drs in one. Conditions: as each part states them.
-/
import Derived.Test.YtopgfgdgfjddpaaGreatDoorZa
import Derived.Test.YtopgfgdgfjddpaaGreatDoorInst
namespace Go.Proofs.YtopgfgdgfjddpaaGreatDoor.Vc
section
open Go.RowKit Tryz
variable{p:List Int}
theorem Sz(n lo hi:Int)(w:World):aA prog 72 [aiD n,aiD lo,aiD hi] w (fun v w'=>v= .bool (decide (lo≤n∧n≤hi))∧w'=w):=by
 refine bk func72 O ntmps72 O (cK O) (aQ O ?_);refine bY 10 O (fun h=>?_) (fun h=>?_)
 ·refine aa.g O O O (ad O (aa.g O O O (ad O (aa.g O O O (bh O ?_)))));refine cM O ?_;exact⟨by simp [h],O⟩
 refine ai O O O O O (ai O O O O O (ai O O O O O (bh O ?_)));refine cM O ?_;exact⟨by simp [h],O⟩
theorem xv(n lo hi:Int)(w:World):aA prog 74 [aiD n,aiD lo,aiD hi] w (fun v w'=>v= .bool (decide (lo≤n∧n≤hi))∧w'=w):=by
 refine bk func74 O ntmps74 O (cK O) (aQ O ?_);refine bY 10 O (fun h=>?_) (fun h=>?_)
 ·refine aa.g O O O (ad O (aa.g O O O (ad O (aa.g O O O (bh O ?_)))));refine cM O ?_;exact⟨by simp [h],O⟩
 refine ai O O O O O (ai O O O O O (ai O O O O O (bh O ?_)));refine cM O ?_;exact⟨by simp [h],O⟩
def kE(p:List Int):Prop:=p.length≤400∧(∀x∈p,0≤x∧x<p.length)∧p.Nodup
instance (p:List Int):Decidable (kE p):=by unfold kE;exact inferInstance
def Seen(p:List Int)(k:Nat)(S:List Bool):Prop:=
 S.length=p.length∧(∀x∈p.take k,0≤x∧x<p.length)∧(p.take k).Nodup∧∀x:Int,0≤x→x<p.length→(gb S x=true↔x∈p.take k)
theorem bX{k:Nat}(h:k<p.length):gi p k=p[k]:=by simp [gi,cJ,gf h]
theorem xr{k:Nat}(h:k<p.length):p.take (k+1)=p.take k++ [gi p k]:=by rw [bX h,rY h]
theorem DB{S:List Bool}{x y:Int}{b:Bool}(hx:0≤x)(jf:x<S.length)(hy:0≤y):gb (S.set x.toNat b) y=if x=y then b else gb S y:=by
 simp only [gb,cJ,oI]
 by_cases e:x=y
 ·subst e;rw [aj rfl,aj rfl,aj (by omega)];rfl
 rw [ag (by omega),ag e]
theorem sf{S:List Int}{x y:Int}{b:Int}(hx:0≤x)(jf:x<S.length)(hy:0≤y):gi (S.set x.toNat b) y=if x=y then b else gi S y:=by
 simp only [gi,cJ,oI]
 by_cases e:x=y
 ·subst e;rw [aj rfl,aj rfl,aj (by omega)];rfl
 rw [ag (by omega),ag e]
theorem Seen.zero(p:List Int):Seen p 0 (List.replicate p.length false):=⟨by simp,by simp,by simp,fun x h0 h1=>by
 simp [gb,cJ,List.getElem?_replicate];split<;>simp⟩
theorem Seen.bad{k:Nat}{S:List Bool}(h:Seen p k S)(hk:k<p.length)(hb:¬(0≤gi p k∧gi p k≤p.length - 1)):¬kE p:=fun hp=>by
 have:=hp.2.1 (gi p k) (by rw [bX hk];exact dQ hk);omega
theorem Seen.UH{k:Nat}{S:List Bool}(h:Seen p k S)(hk:k<p.length)(h0:0≤gi p k∧gi p k≤p.length - 1)(hb:gb S (gi p k)=true):¬kE p:=fun hp=>by
 have h1:=(h.2.2.2 (gi p k) h0.1 (by omega)).1 hb;have h2:(p.take (k+1)).Nodup:=hp.2.2.sublist (List.take_sublist _ _);rw [xr hk,List.nodup_append]at h2;exact h2.2.2 _ h1 _ (by simp) O
theorem Seen.step{k:Nat}{S:List Bool}(h:Seen p k S)(hk:k<p.length)(h0:0≤gi p k∧gi p k≤p.length - 1)(hb:gb S (gi p k)=false):Seen p (k+1) (S.set (gi p k).toNat true):=by
 obtain⟨h1,h2,h3,h4⟩:=h;have h5:¬gi p k∈p.take k:=fun hm=>by have:=(h4 _ h0.1 (by omega)).2 hm;rw [hb]at this;cases this
 refine⟨by simpa using h1,?_,?_,fun x hx jf=>?_⟩
 ·rw [xr hk];intro x hx;rcases iG.1 hx with hx | hx
  ·exact h2 x hx
  simp at hx;subst hx;omega
 ·rw [xr hk,List.nodup_append];refine⟨h3,by simp,fun a ha b zz=>?_⟩;simp at zz;subst zz;intro e;subst e;exact h5 ha
 rw [DB h0.1 (by omega) hx,xr hk,iG]
 by_cases e:gi p k=x
 ·simp [e]
 rw [ag e,h4 x hx jf];simp;intro h;exact absurd h.symm e
theorem Seen.done{k:Nat}{S:List Bool}(h:Seen p k S)(hk:¬k<p.length)(hl:p.length≤400):kE p:=by
 obtain⟨h1,h2,h3,h4⟩:=h;rw [lS (by omega)]at h2 h3;exact⟨hl,h2,h3⟩
theorem LD(A:aiC)(n c:Nat)(p:List Int)(w:World)(hR:bS w A n p):aA prog 170 [.slice A n c] w (fun v w'=>v= .bool (decide (kE p))∧St w w' []):=by
 have hl:=hR.1;subst hl;refine bk func170 O ntmps170 O (cK O) ?_;refine aQ O (aa.len O O (ay O ?_));refine aB _ O (fun h=>?_) (fun h=>?_)
 ·refine dN O (cM O ?_);exact⟨by rw [cd (fun hp:kE p=>by have:=hp.1;omega)],St.refl _⟩
 refine av O (aa.len O O ?_);refine xL p.length (St.refl w) O O (by omega) ?_;intro A1 w1 ao;refine ay O ?_;refine Cd.loop (α:=Nat×List Bool) (fun s=> [(0,.slice A p.length c),(3,.slice A1 p.length p.length),(4,aiD (s.1:Int))]) (fun s w'=>St w w' [fQ 4 A1 p.length p.length s.2]∧s.1≤p.length∧Seen p s.1 s.2) (fun s=>p.length - s.1) (0,List.replicate p.length false) ⟨O,O,O,ae⟩ ⟨ao,aW _,Seen.zero p⟩ ?_;rintro⟨k,S⟩ e w2 ⟨ar,hk,hI⟩;dsimp only at ar hk hI⊢;refine aQ O (aa.len O O (ay O ?_));refine aB _ O (fun h1=>?_) (fun h1=>?_)
 ·refine av O (aw (ar.eY hR).2 O O O (by omega) h1 (aT (ar.eY hR) O (by omega) O O ?_));refine ad O (aa.len O O (aa.sub O O O (by omega) ?_));refine aa.call (Sz _ _ _ _) O O O ?_;rintro _ _ ⟨rfl,rfl⟩
  first | refine eC rfl rfl ?_ | refine aa.not rfl rfl ?_
  refine ad O ?_;refine bY 26 O (fun h2=>?_) (fun h2=>?_)
  ·refine ai O O O O O (ai O O O O O (ai O O O O O (ai O O O O O (ai O O O O O (ai O O O O O (ai O O O O O (ay O ?_)))))));refine Cd.gj O ?_;refine dN O (eZ (eE ?_));refine cM O ?_;exact⟨by rw [cd (hI.bad (by omega) (by omega))],ar.none⟩
  refine aa.g O O O (ad O (aa.g O O O (ad O (aa.g O O O (ad O (aa.g O O O ?_))))));refine aw (ar.eY hR).2 O O O (by omega) h1 (aa.g O O O (aT (ar.eY hR) O (by omega) O O (aa.g O O O (aw (ar.jy 0 O).2 O O O (by omega) (by omega) (aa.g O O O (qN (ar.jy 0 O) O (by omega) O O (ay O ?_)))))));refine Cd.cond O (fun h3=>?_) (fun h3=>?_)
  ·refine dN O (eZ (eE ?_));refine cM O ?_;exact⟨by rw [cd (hI.UH (by omega) (by omega) h3)],ar.none⟩
  refine av O (aw (ar.eY hR).2 O O O (by omega) h1 (aT (ar.eY hR) O (by omega) O O (aw (ar.jy 0 O).2 O O O (by omega) (by omega) (uc 0 ar O O O (by omega) ?_))));intro w3 az;refine ad O (aa.add O O O (by omega) (aF O (tQ ?_)));exact⟨(k+1,S.set (gi p k).toNat true),by show p.length - (k+1)<p.length - k;omega,⟨O,O,O,ae⟩,az,by show k+1≤_;omega,hI.step (by omega) (by omega) h3⟩
 refine aY O (aZ (gE O ?_));refine cM O ?_;exact⟨by rw [dX (hI.done (by omega) (by omega))],ar.none⟩
def fill{α:Type}(k:Nat)(xs:List α)(d:α):List α:=xs.take k++List.replicate (xs.length - k) d
theorem db{p:aiB}{k:Nat}(h:k<p.length):gl p k=p[k]:=by simp [gl,cJ,gf h]
theorem MJ{p:aiB}{k:Nat}(h:k<p.length):p.take (k+1)=p.take k++ [gl p k]:=by rw [db h,rY h]
theorem AA(A:aiC)(n c:Nat)(w:World):aA prog 138 [.slice A n c] w (fun v w'=>v=aiD (n:Int)∧w'=w):=by
 refine bk func138 O ntmps138 O (cK O) ?_;refine aQ O (aa.len O O (bh O ?_));refine gP O ?_;exact⟨O,O⟩
theorem Fa(A:aiC)(n c:Nat)(w:World):aA prog 152 [.slice A n c] w (fun v w'=>v=aiD (n:Int)∧w'=w):=by
 refine bk func152 O ntmps152 O (cK O) ?_;refine aQ O (aa.len O O (bh O ?_));refine gP O ?_;exact⟨O,O⟩
theorem ab1(A:aiC)(n c:Nat)(p:List Int)(w:World)(hR:bS w A n p):aA prog 214 [.slice A n c] w (fun v w'=>v= .bool (decide (kE p))∧St w w' []):=by
 have hl:=hR.1;subst hl;refine bk func214 O ntmps214 O (cK O) ?_;refine aQ O (aa.len O O (ay O ?_));refine aB _ O (fun h=>?_) (fun h=>?_)
 ·refine dN O (cM O ?_);exact⟨by rw [cd (fun hp:kE p=>by have:=hp.1;omega)],St.refl _⟩
 refine av O (aa.len O O ?_);refine xL p.length (St.refl w) O O (by omega) ?_;intro A1 w1 ao;refine ad O (aa.len O O (ay O ?_));refine Cd.loop (α:=Nat×List Bool) (fun s=> [(0,.slice A p.length c),(3,.slice A1 p.length p.length),(12,.slice A p.length c),(13,aiD (p.length:Int)),(14,aiD (s.1:Int))]) (fun s w'=>St w w' [fQ 4 A1 p.length p.length s.2]∧s.1≤p.length∧Seen p s.1 s.2) (fun s=>p.length - s.1) (0,List.replicate p.length false) ⟨O,O,O,O,O,ae⟩ ⟨ao,aW _,Seen.zero p⟩ ?_;rintro⟨k,S⟩ e w2 ⟨ar,hk,hI⟩;dsimp only at ar hk hI⊢;refine bK O ?_;refine aB _ O (fun h1=>?_) (fun h1=>?_)
 ·refine av O (aw (ar.eY hR).2 O O O (by omega) h1 (aT (ar.eY hR) O (by omega) O O (ad O (aa.call (AA _ _ _ _) O O O ?_))));rintro _ _ ⟨rfl,rfl⟩;refine aa.sub O O O (by omega) (aa.call (xv _ _ _ _) O O O ?_);rintro _ _ ⟨rfl,rfl⟩
  first | refine eC rfl rfl ?_ | refine aa.not rfl rfl ?_
  refine ad O ?_;refine bY 24 O (fun h2=>?_) (fun h2=>?_)
  ·refine ai O O O O O (ai O O O O O (ai O O O O O (ai O O O O O (ay O ?_))));refine Cd.gj O ?_;refine dN O (eZ (eE ?_));refine cM O ?_;exact⟨by rw [cd (hI.bad (by omega) (by omega))],ar.none⟩
  refine aa.g O O O (ad O (aa.g O O O (ad O (aa.g O O O ?_))));refine aw (ar.jy 0 O).2 O O O (by omega) (by omega) (aa.g O O O (qN (ar.jy 0 O) O (by omega) O O (ay O ?_)));refine Cd.cond O (fun h3=>?_) (fun h3=>?_)
  ·refine dN O (eZ (eE ?_));refine cM O ?_;exact⟨by rw [cd (hI.UH (by omega) (by omega) h3)],ar.none⟩
  refine av O (aw (ar.jy 0 O).2 O O O (by omega) (by omega) (uc 0 ar O O O (by omega) ?_));intro w3 az;refine ad O (aa.add O O O (by omega) (aF O (tQ ?_)));exact⟨(k+1,S.set (gi p k).toNat true),by show p.length - (k+1)<p.length - k;omega,⟨O,O,O,O,O,ae⟩,az,by show k+1≤_;omega,hI.step (by omega) (by omega) h3⟩
 refine aY O (aZ (gE O ?_));refine cM O ?_;exact⟨by rw [dX (hI.done (by omega) (by omega))],ar.none⟩
def oG(p:List Int):Prop:=∀i:Nat,i<p.length→gi p i≠i∧gi p (gi p i)=i
instance (p:List Int):Decidable (oG p):=by unfold oG;exact inferInstance
theorem kE.range(h:kE p){i:Int}(h0:0≤i)(h1:i<p.length):0≤gi p i∧gi p i<p.length:=by
 have e:gi p i=p[i.toNat]'(by omega):=by simp [gi,cJ,gf (show i.toNat<p.length by omega)]
 rw [e];exact h.2.1 _ (dQ _)
theorem Sy(A:aiC)(n c:Nat)(p:List Int)(w:World)(hR:bS w A n p)(hp:kE p):aA prog 171 [.slice A n c] w (fun v w'=>v= .bool (decide (oG p))∧w'=w):=by
 have hl:=hR.1;subst hl;have wR:=hp.1;refine bk func171 O ntmps171 O (cK O) (bK O ?_);refine Cd.loop (α:=Nat) (fun k=> [(0,.slice A p.length c),(3,aiD (k:Int))]) (fun k w'=>w'=w∧k≤p.length∧∀i,i<k→gi p i≠i∧gi p (gi p i)=i) (fun k=>p.length - k) 0 ⟨O,O,ae⟩ ⟨O,aW _,fun i hi=>by omega⟩ ?_;rintro k e w2 ⟨rfl,hk,hI⟩;refine aQ O (aa.len O O (ay O ?_));refine aB _ O (fun h1=>?_) (fun h1=>?_)
 ·have hr:=hp.range (i:=k) (by omega) h1;refine av O (aw hR.2 O O O (by omega) h1 (aT hR O (by omega) O O (ad O ?_)));refine bY 16 O (fun h2=>?_) (fun h2=>?_)
  ·refine ai O O O O O (ai O O O O O (ai O O O O O (ai O O O O O (ai O O O O O (ai O O O O O (ai O O O O O (ai O O O O O (ai O O O O O (ay O ?_)))))))));refine Cd.gj O ?_;refine dN O (eZ (eE ?_));refine cM O ?_;exact⟨by rw [cd (fun hf:oG p=> (hf k (by omega)).1 h2)],O⟩
  refine aa.g O O O (ad O (aa.g O O O (ad O (aa.g O O O (ad O (aa.g O O O ?_))))));refine aw hR.2 O O O (by omega) h1 (aa.g O O O (aT hR O (by omega) O O (aa.g O O O (aw hR.2 O O O (by omega) (by omega) (aa.g O O O (aT hR O (by omega) O O ?_))))));refine aa.g O O O (ad O (aa.g O O O (ay O ?_)));refine aB _ O (fun h3=>?_) (fun h3=>?_)
  ·refine dN O (eZ (eE ?_));refine cM O ?_;exact⟨by rw [cd (fun hf:oG p=>h3 (hf k (by omega)).2)],O⟩
  refine av O (aa.add O O O (by omega) (aF O (tQ ?_)));refine⟨k+1,by omega,⟨O,O,ae⟩,O,by omega,fun i hi=>?_⟩
  by_cases e:i=k
  ·subst e;exact⟨h2,iP.1 h3⟩
  exact hI i (by omega)
 refine aY O (aZ (gE O ?_));refine cM O ?_;exact⟨by rw [dX (show oG p from fun i hi=>hI i (by omega))],O⟩
theorem abX(A:aiC)(n c:Nat)(p:List Int)(w:World)(hR:bS w A n p):aA prog 156 [.slice A n c] w (fun v w'=>v= .bool (decide (kE p∧oG p))∧St w w' []):=by
 have hl:=hR.1;subst hl;refine bk func156 O ntmps156 O (cK O) (aQ O (aa.call (ab1 _ _ _ _ _ hR) O O O ?_));rintro _ w1 ⟨rfl,ao⟩
 first | refine eC rfl rfl ?_ | refine aa.not rfl rfl ?_
 refine ay O ?_;refine aB _ O (fun hp=>?_) (fun hp=>?_)
 ·refine dN O (cM O ?_);exact⟨by rw [cd (fun h=>hp h.1)],ao⟩
 have hp:=iP.1 hp;have wR:=hp.1;refine av O (aa.len O O (ay O ?_));refine Cd.loop (α:=Nat) (fun k=> [(0,.slice A p.length c),(8,.slice A p.length c),(9,aiD (p.length:Int)),(10,aiD (k:Int))]) (fun k w'=>St w w' []∧k≤p.length∧∀i,i<k→gi p i≠i∧gi p (gi p i)=i) (fun k=>p.length - k) 0 ⟨O,O,O,O,ae⟩ ⟨ao,aW _,fun i hi=>by omega⟩ ?_;rintro k e w2 ⟨ar,hk,hI⟩;refine bK O ?_;refine aB _ O (fun h1=>?_) (fun h1=>?_)
 ·have hr:=hp.range (i:=k) (by omega) h1;have hA:=ar.eY hR;refine av O (aw hA.2 O O O (by omega) h1 (aT hA O (by omega) O O (ad O ?_)));refine bY 18 O (fun h2=>?_) (fun h2=>?_)
  ·refine ai O O O O O (ai O O O O O (ai O O O O O (ai O O O O O (ai O O O O O (ai O O O O O (ay O ?_))))));refine Cd.gj O ?_;refine dN O (eZ (eE ?_));refine cM O ?_;exact⟨by rw [cd (fun hf:kE p∧oG p=> (hf.2 k (by omega)).1 h2)],ar⟩
  refine aa.g O O O (ad O (aa.g O O O (ad O (aa.g O O O ?_))));refine aw hA.2 O O O (by omega) (by omega) (aa.g O O O (aT hA O (by omega) O O ?_));refine aa.g O O O (ad O (aa.g O O O (ay O ?_)));refine aB _ O (fun h3=>?_) (fun h3=>?_)
  ·refine dN O (eZ (eE ?_));refine cM O ?_;exact⟨by rw [cd (fun hf:kE p∧oG p=>h3 (hf.2 k (by omega)).2)],ar⟩
  refine av O (aa.add O O O (by omega) (aF O (tQ ?_)));refine⟨k+1,by omega,⟨O,O,O,O,ae⟩,ar,by omega,fun i hi=>?_⟩
  by_cases e:i=k
  ·subst e;exact⟨h2,iP.1 h3⟩
  exact hI i (by omega)
 refine aY O (aZ (gE O ?_));refine cM O ?_;exact⟨by rw [dX (show kE p∧oG p from⟨hp,fun i hi=>hI i (by omega)⟩)],ar⟩
theorem CR(A Am:aiC)(n c:Nat)(f:Nat→Value)(w:World)(hR:Rd w A 1 f)(hf:f 0= .slice Am n c):aA prog 122 [.pointer A] w (fun v w'=>v=aiD (n:Int)∧w'=w):=by
 refine bk func122 O ntmps122 O (cK O) (aQ O ?_);refine mh hR (by decide) O O ?_;refine aH hR O O O O inferInstance (aM hR O O hf O O (aa.call (Fa _ _ _ _) O O O ?_));rintro _ _ ⟨rfl,rfl⟩;refine bh O (gP O ?_);exact⟨O,O⟩
theorem um(A Am:aiC)(n c:Nat)(rs:List aG)(xss:aiB)(f:Nat→Value)(w:World)(hR:Rd w A 1 f)(hf:f 0= .slice Am n c)(hM:br w Am n rs xss)(hn:0<n):aA prog 98 [.pointer A] w (fun v w'=>v=aiD ((rg rs 0).n:Int)∧w'=w):=by
 refine bk func98 O ntmps98 O (cK O) (aQ O ?_);refine mh hR (by decide) O O ?_;refine aH hR O O O O inferInstance (aM hR O O hf O O (aw hM.top.2 O O O (by omega) (by omega) (bQ hM.top O (by omega) O O (aa.call (AA _ _ _ _) O O O ?_))));rintro _ _ ⟨rfl,rfl⟩;refine bh O (gP O ?_);exact⟨O,O⟩
end
section
open Tryz
variable{y pt:Int}
theorem L8:∀(n:Nat) (l:List Nat),l.Nodup→(∀x∈l,x<n)→l.length≤n
 | 0,l,_,h=>by
  cases l with
  | nil=>simp
  | cons a l=>exact absurd (h a (by simp)) (by omega)
 | n+1,l,hn,h=>by
  have h1:=L8 n (l.erase n) (hn.erase n) (fun x hx=>by
   have h2:=(hn.mem_erase_iff).1 hx;have:=h x h2.2;omega)
  have:=List.length_erase_le (a:=n) (l:=l);rw [List.length_erase]at h1
  split at h1<;>omega
theorem rF{N:Nat}{l:List Int}(hn:l.Nodup)(h:∀x∈l,0≤x∧x<N):l.length≤N:=by
 have:=L8 N (l.map Int.toNat) (by
  rw [List.nodup_iff_pairwise_ne,qd];refine List.Pairwise.imp_of_mem ?_ hn;intro a b ha hb dO e;have:=h a ha;have:=h b hb;omega) (fun x hx=>by
  obtain⟨y,hy,rfl⟩:=dh.1 hx;have:=h y hy;omega)
 simpa using this
def Sys(N:Nat)(xss:aiB):Prop:=∀p∈xss,p.length=N∧∀x:Int,0≤x→x<N→0≤gi p x∧gi p x<N
inductive Reach(xss:aiB)(x:Int):Int→Prop where
 | refl:Reach xss x x
 | step {y:Int} {p:List Int}:Reach xss x y→p∈xss→Reach xss x (gi p y)
theorem Reach.trans{xss:aiB}{x z:Int}(h:Reach xss x y)(h':Reach xss y z):Reach xss x z:=by
 induction h' with
 | refl=>exact h
 | step _ hp ih=>exact .step ih hp
def oB(out:List Int)(y:Int):List Int:=if y∈out then out else out++ [y]
def expand(xss:aiB)(x:Int)(out:List Int):List Int:=xss.foldl (fun o p=>oB o (gi p x)) out
def r8(xss:aiB):Nat→Nat→List Int→List Int
 | 0,_,out=>out
 | f+1,i,out=>if i<out.length then r8 xss f (i+1) (expand xss (gi out i) out)else out
def fS(N:Nat)(xss:aiB)(pt:Int):List Int:=r8 xss (N+1) 0 [pt]
theorem Mk{out:List Int}{z:Int}:z∈oB out y↔z∈out∨z=y:=by
 unfold oB
 split
 ·constructor
  ·exact Or.inl
  rintro(h | rfl)
  ·exact h
  assumption
 simp
theorem aff{out:List Int}(h:out.Nodup):(oB out y).Nodup:=by
 unfold oB
 split
 ·exact h
 rename_i hy;rw [List.nodup_append];refine⟨h,by simp,fun a ha b hb=>?_⟩;simp at hb;subst hb;rintro rfl;exact hy ha
theorem TX(out:List Int)(y:Int):out<+:oB out y:=by
 unfold oB
 split
 ·exact List.prefix_rfl
 exact List.prefix_append _ _
structure Good(N:Nat)(xss:aiB)(pt:Int)(out:List Int):Prop where
 nodup:out.Nodup
 range:∀x∈out,0≤x∧x< (N:Int)
 reach:∀x∈out,Reach xss pt x
theorem Good.push{N:Nat}{xss:aiB}{out:List Int}(h:Good N xss pt out)(hs:Sys N xss){x:Int}(hx:x∈out){p:List Int}(hp:p∈xss):Good N xss pt (oB out (gi p x)):=
 ⟨aff h.nodup,fun z hz=>by
  rcases Mk.1 hz with hz | rfl
  ·exact h.range z hz
  ·exact(hs p hp).2 x (h.range x hx).1 (h.range x hx).2,fun z hz=>by
  rcases Mk.1 hz with hz | rfl
  ·exact h.reach z hz
  exact .step (h.reach x hx) hp⟩
theorem Good.len{N:Nat}{xss:aiB}{out:List Int}(h:Good N xss pt out):out.length≤N:=rF h.nodup h.range
theorem foldl_push{N:Nat}{xss:aiB}{pt:Int}(hs:Sys N xss){x:Int}:∀(ps:aiB) (out:List Int),(∀p∈ps,p∈xss)→Good N xss pt out→x∈out→
 Good N xss pt (ps.foldl (fun o p=>oB o (gi p x)) out)∧out<+:ps.foldl (fun o p=>oB o (gi p x)) out∧∀p∈ps,gi p x∈ps.foldl (fun o p=>oB o (gi p x)) out
 | [],out,_,h,_=> ⟨h,List.prefix_rfl,fun p hp=>by cases hp⟩
 | q::ps,out,jZ,h,hx=>by
  have h1:=h.push hs hx (jZ q (by simp));have sI:=TX out (gi q x);obtain⟨g1,g2,g3⟩:=foldl_push hs ps (oB out (gi q x)) (fun p hp=>jZ p (by simp [hp])) h1 (sI.subset hx);refine⟨g1,sI.trans g2,fun p hp=>?_⟩;rcases iW.1 hp with rfl | hp
  ·exact g2.subset (Mk.2 (Or.inr O))
  ·exact g3 p hp
theorem gi_in{out:List Int}{i:Nat}(h:i<out.length):gi out (i:Int)∈out:=by rw [bX h];exact dQ h
theorem Jn{a b:List Int}(h:a<+:b){i:Nat}(hi:i<a.length):gi b (i:Int)=gi a (i:Int):=by
 rw [bX hi,bX (Nat.lt_of_lt_of_le hi h.length_le)];obtain⟨t,rfl⟩:=h;rw [List.getElem_append_left hi]
theorem NQ{N:Nat}{xss:aiB}{pt:Int}(hs:Sys N xss):∀(f i:Nat) (out:List Int),Good N xss pt out→N<f+i→(∀j,j<i→j<out.length→∀p∈xss,gi p (gi out (j:Int))∈out)→
 Good N xss pt (r8 xss f i out)∧out<+:r8 xss f i out∧∀x∈r8 xss f i out,∀p∈xss,gi p x∈r8 xss f i out
 | 0,i,out,h,hf,hc=>by
  simp only [r8];refine⟨h,List.prefix_rfl,fun x hx p hp=>?_⟩;obtain⟨j,hj,rfl⟩:=gJ.1 hx;have:=h.len;have:=hc j (by omega) hj p hp;rw [bX hj]at this;exact this
 | f+1,i,out,h,hf,hc=>by
  simp only [r8]
  split
  ·rename_i hi;obtain⟨g1,g2,g3⟩:=foldl_push hs xss out (fun p hp=>hp) h (gi_in hi);replace g2:out<+:expand xss (gi out i) out:=g2;obtain⟨k1,k2,k3⟩:=NQ hs f (i+1) (expand xss (gi out i) out) g1 (by omega) (fun j hj ln p hp=>by
    by_cases tF:j=i
    ·subst tF;show gi p (gi (expand xss _ out) _)∈expand xss _ out;rw [Jn g2 hi];exact g3 p hp
    ·have Q7:j<out.length:=by omega
     show gi p (gi (expand xss _ out) _)∈expand xss _ out;rw [Jn g2 Q7];exact g2.subset (hc j (by omega) Q7 p hp))
   exact⟨k1,g2.trans k2,k3⟩
  ·rename_i hi;refine⟨h,List.prefix_rfl,fun x hx p hp=>?_⟩;obtain⟨j,hj,rfl⟩:=gJ.1 hx;have:=hc j (by omega) hj p hp;rw [bX hj]at this;exact this
theorem Pr{N:Nat}{xss:aiB}(h0:0≤pt)(h1:pt<N):Good N xss pt [pt]:=
 ⟨by simp,fun x hx=>by simp at hx;subst hx;exact⟨h0,h1⟩,fun x hx=>by simp at hx;subst hx;exact .refl⟩
theorem vF{N:Nat}{xss:aiB}(hs:Sys N xss)(h0:0≤pt)(h1:pt<N):
 Good N xss pt (fS N xss pt)∧ [pt]<+:fS N xss pt∧∀x,x∈fS N xss pt↔Reach xss pt x:=by
 obtain⟨g1,g2,g3⟩:=NQ (N:=N) hs (N+1) 0 [pt] (Pr h0 h1) (by omega) (fun j hj=>by omega);refine⟨g1,g2,fun x=> ⟨g1.reach x,fun hr=>?_⟩⟩
 induction hr with
 | refl=>exact g2.subset (by simp)
 | step _ hp ih=>exact g3 _ ih _ hp
end
section
open Go.RowKit Tryz
def xH(M:Nat)(S:List Bool)(out:List Int):Prop:=S.length=M∧∀x:Int,0≤x→x<M→(gb S x=true↔x∈out)
theorem xH.init{M:Nat}{pt:Int}(h0:0≤pt)(h1:pt<M):xH M ((List.replicate M false).set pt.toNat true) [pt]:=by
 refine⟨by simp,fun x hx jf=>?_⟩;rw [DB h0 (by simpa using h1) hx]
 by_cases e:pt=x
 ·simp [e]
 rw [ag e];have:x≠pt:=fun h=>e h.symm
 simp [gb,cJ,List.getElem?_replicate,this]
 split<;>simp
theorem xH.push{M:Nat}{S:List Bool}{out:List Int}{y:Int}(h:xH M S out)(h0:0≤y)(h1:y<M):xH M (S.set y.toNat true) (out++ [y]):=by
 refine⟨by simpa using h.1,fun x hx jf=>?_⟩;rw [DB h0 (by rw [h.1];exact h1) hx,iG]
 by_cases e:y=x
 ·simp [e]
 rw [ag e,h.2 x hx jf];have:x≠y:=fun h=>e h.symm
 simp [this]
theorem WC{xss:aiB}{f i:Nat}{out:List Int}(h:¬i<out.length):r8 xss f i out=out:=by
 cases f with
 | zero=>rfl
 | succ f=>simp only [r8];rw [ag h]
theorem br.pE{w:World}{A:aiC}{n:Nat}{rs:List aG}{xss:aiB}(h:br w A n rs xss){k:Int}(h0:0≤k)(h1:k<n):(gl xss k).length=(rg rs k).n:=(h.at_ h0 h1).1
theorem uo{xss:aiB}{k:Int}(h0:0≤k)(h:k<xss.length):gl xss k∈xss:=by
 obtain⟨j,rfl⟩:∃j:Nat,k=j:=⟨k.toNat,by omega⟩;rw [db (by omega)];exact dQ _
theorem LC(A:aiC)(n c:Nat)(rs:List aG)(xss:aiB)(N:Nat)(pt:Int)(w:World)(hR:br w A n rs xss)(hn:n≤9223372036854775807)(hs:Sys N xss)(hN:N≤1000000000)(h0:0≤pt)(h1:pt<N):
 aA prog 172 [.slice A n c,aiD pt] w (fun v w'=>∃A' c',v= .slice A' (fS N xss pt).length c'∧St w w' [ah 2 A' (fS N xss pt).length c' (fS N xss pt)]):=by
 have bW:∀k:Int,0≤k→k<n→(rg rs k).n=N:=fun k uG hk=>by
  rw [←hR.pE uG hk];exact(hs _ (uo uG (by rw [hR.len];exact hk))).1
 refine bk func172 O ntmps172 O (cK O) (aQ O (dJ (St.refl w) O O O ?_));intro A1 w1 ao;refine vb 2 O ?_;refine lC (α:=Nat) (fun s=> [(0,.slice A n c),(1,aiD pt),(5,.slice A1 1 1),(6,aiD (s:Int))]) (fun s w'=>w'=w1∧s≤N∧(0<n→s=N)) ?_ ?_
 ·refine aQ O (aa.len O O (ay O ?_));refine aB _ O (fun h2=>?_) (fun h2=>?_)
  ·refine av O (aw (ao.Mc hR.top).2 O O O (by omega) (by omega) (bQ (ao.Mc hR.top) O (by omega) O O ?_));refine aa.len O O (aF O (tQ ?_));exact⟨N,⟨O,O,O,by rw [bW 0 (by omega) (by omega)];rfl,ae⟩,O,a8 _,fun _=>O⟩
  refine kD O (tQ ?_);exact⟨0,⟨O,O,O,O,ae⟩,O,aW _,fun h=>by omega⟩
 rintro s e1 w2 ⟨rfl,hsN,pA⟩;have mP:n=0→N=N:=fun _=>O
 refine av O (aa.add O O O (by omega) (aa.add O O O (by omega) ?_));refine xL (s+pt.toNat+1) ao (by show Value.int .i64 _=Value.int .i64 _;congr 1;omega) O (by omega) ?_;intro A2 w3 az;refine ad O (aw (az.jy 0 O).2 O O O (by omega) (by omega) (uc 0 az O O O (by omega) ?_));intro w4 aJ;refine ay O ?_;refine Cd.loop (α:=Nat×List Int×aiC×Nat×List Bool) (fun q=> [(0,.slice A n c),(5,.slice q.2.2.1 q.2.1.length q.2.2.2.1),(7,.slice A2 (s+pt.toNat+1) (s+pt.toNat+1)),(8,aiD (q.1:Int))]) (fun q w'=>St w w' [fQ 4 A2 (s+pt.toNat+1) (s+pt.toNat+1) q.2.2.2.2,ah 2 q.2.2.1 q.2.1.length q.2.2.2.1 q.2.1]∧q.1≤q.2.1.length∧Good N xss pt q.2.1∧xH (s+pt.toNat+1) q.2.2.2.2 q.2.1∧r8 xss (N+1 - q.1) q.1 q.2.1=fS N xss pt) (fun q=>N+1 - q.1) (0,[pt],A1,1,(List.replicate (s+pt.toNat+1) false).set pt.toNat true) ⟨O,O,O,O,ae⟩ ⟨aJ,aW _,Pr h0 h1,xH.init h0 (by omega),O⟩ ?_;rintro⟨i,out,Ao,co,S⟩ e2 w5 ⟨aK,hi,hg,hm,hb⟩;dsimp only at aK hi hg hm hb⊢;have hlen:=hg.len;refine aQ O (aa.len O O (ay O ?_));refine aB _ O (fun h2=>?_) (fun h2=>?_)
 ·refine bP O ?_;refine Cd.loop (α:=Nat×List Int×aiC×Nat×List Bool) (fun q=> [(0,.slice A n c),(5,.slice q.2.2.1 q.2.1.length q.2.2.2.1),(7,.slice A2 (s+pt.toNat+1) (s+pt.toNat+1)),(8,aiD (i:Int)),(9,aiD (q.1:Int))]) (fun q w'=>St w w' [fQ 4 A2 (s+pt.toNat+1) (s+pt.toNat+1) q.2.2.2.2,ah 2 q.2.2.1 q.2.1.length q.2.2.2.1 q.2.1]∧q.1≤n∧Good N xss pt q.2.1∧xH (s+pt.toNat+1) q.2.2.2.2 q.2.1∧out<+:q.2.1∧(xss.drop q.1).foldl (fun o p=>oB o (gi p (gi out i))) q.2.1=expand xss (gi out i) out) (fun q=>n - q.1) (0,out,Ao,co,S) ⟨O,O,O,O,O,ae⟩ ⟨aK,aW _,hg,hm,List.prefix_rfl,O⟩ ?_;rintro⟨k,nH,Fq,IU,S'⟩ e3 w6 ⟨aR,hk,tE,ku,tK,hf⟩;dsimp only at aR hk tE ku tK hf⊢;have yl:=tE.len;refine aQ O (aa.len O O (ay O ?_));refine aB _ O (fun h3=>?_) (fun h3=>?_)
  ·have KA:i<nH.length:=by have:=tK.length_le;omega
   have Cf:gi nH i=gi out i:=Jn tK (by omega);have fW:=hg.range _ (gi_in (i:=i) (by omega));have lp:gl xss k∈xss:=uo (by omega) (by rw [hR.len];omega);have hy:=(hs _ lp).2 (gi out i) fW.1 fW.2;have jL:=bW k (by omega) (by omega);have hsN:s=N:=pA (by omega);have hT:=(aR.bF hR);have hO:=aR.bc 1 O;have cj:=hT.at_ (i:=k) (by omega) (by omega);refine bP O ?_;refine dI [xS (A) (n) (c),xI ((k:Int)),xP (aq (A) ((k:Int)).toNat),xS ((rg (rs) ((k:Int))).a) ((rg (rs) ((k:Int))).n) ((rg (rs) ((k:Int))).c),xS (Fq) (nH.length) (IU),xI ((i:Int)),xP (aq (Fq) ((i:Int)).toNat),xI (gi (nH) ((i:Int))),xP (aq ((rg (rs) ((k:Int))).a) (gi (nH) ((i:Int))).toNat),xI (gi (gl xss k) (gi (nH) ((i:Int)))),xI (gi (gl xss k) (gi (nH) ((i:Int))))] (by kernel_rfl) (by kernel_rfl) O (eg O) ?_ ?_
   ·exact⟨Dr O,Dr O,fun _ _ hb _ _=>aw (hT.top.later hb).2 O O O (by omega) (by omega) (Az O),fun _ _ hb _ _=>bQ (hT.top.later hb) O (by omega) O O (Az O),Dr O,Dr O,fun _ _ hb _ _=>aw (hO.later hb).2 O O O (by omega) (by omega) (Az O),fun _ _ hb _ _=>aT (hO.later hb) O (by omega) O O (Az O),fun _ _ hb _ _=>aw (cj.later hb).2 O O O (by rw [Cf];omega) (by rw [Cf,jL];omega) (Az O),fun _ _ hb _ _=>aT (cj.later hb) O (by omega) O O (Az O),Dr O,ae⟩
   intro u w7 wC _;have aV:=aR.later wC;rw [Cf];have GX:(xss.drop (k+1)).foldl (fun o p=>oB o (gi p (gi out i))) (oB nH (gi (gl xss k) (gi out i)))=expand xss (gi out i) out:=by
    rw [←hf,List.drop_eq_getElem_cons (show k<xss.length by rw [hR.len];omega),List.foldl_cons,db (by rw [hR.len];omega)]
   refine iq O (aw (aV.jy 0 O).2 O O O (by omega) (by omega) (qN (aV.jy 0 O) O (by omega) O O ?_))
   first | refine eC rfl rfl ?_ | refine aa.not rfl rfl ?_
   refine ay O ?_;refine Cd.cond O (fun h4=>?_) (fun h4=>?_)
   ·have aaR:¬gi (gl xss k) (gi out i)∈nH:=fun dq=>by
     have:=(ku.2 _ hy.1 (by omega)).2 dq;rw [this]at h4;cases h4
    have K0:oB nH (gi (gl xss k) (gi out i))=nH++ [gi (gl xss k) (gi out i)]:=by unfold oB;rw [if_neg aaR]
    have Ea:=tE.push hs (tK.subset (gi_in (i:=i) (by omega))) lp;have Rz:=tK.trans (TX nH (gi (gl xss k) (gi out i)));rw [K0]at GX Ea Rz;have aaD:=Ea.len;simp only [dm,List.length_singleton]at aaD;refine av O (aw (aV.jy 0 O).2 O O O (by omega) (by omega) (uc 0 aV O O O (by omega) ?_));intro w8 bA;refine ad O (dJ bA O O O ?_);intro A3 w9 aS;refine eK 2 aS O (aS.bc 0 O) O O O (by omega) (by omega) O ?_;intro A4 c4 dB bD;refine ad O (aa.add O O O (by omega) (aF O (tQ ?_)));refine⟨(k+1,nH++ [gi (gl xss k) (gi out i)],A4,c4,S'.set (gi (gl xss k) (gi out i)).toNat true),by show n - (k+1)<n - k;omega,⟨O,by rw [dm];rfl,O,O,O,ae⟩,?_,by show k+1≤n;omega,Ea,ku.push hy.1 (by omega),Rz,GX⟩;have uq:=bD.tail;simp only [dm,List.length_singleton];exact uq
   have dq:gi (gl xss k) (gi out i)∈nH:=(ku.2 _ hy.1 (by omega)).1 (by simpa using h4);have K0:oB nH (gi (gl xss k) (gi out i))=nH:=by unfold oB;rw [if_pos dq]
   rw [K0]at GX;refine av O (aa.add O O O (by omega) (aF O (tQ ?_)));exact⟨(k+1,nH,Fq,IU,S'),by show n - (k+1)<n - k;omega,⟨O,O,O,O,O,ae⟩,aV,by show k+1≤n;omega,tE,ku,tK,GX⟩
  refine aY O (aZ (cL O (aa.add O O O (by omega) (aF O (tQ ?_)))));have fM:k=n:=by omega
  rw [fM,←hR.len,List.drop_length,List.foldl_nil]at hf;refine⟨(i+1,nH,Fq,IU,S'),by show N+1 - (i+1)<N+1 - i;omega,⟨O,O,O,O,ae⟩,aR,?_,tE,ku,?_⟩
  ·have:=tK.length_le;show i+1≤nH.length;omega
  show r8 xss (N+1 - (i+1)) (i+1) nH=fS N xss pt;rw [←hb,hf];have e:N+1 - i=(N+1 - (i+1))+1:=by omega
  rw [e];simp only [r8];rw [aj (by omega)]
 refine aY O (aZ (gE O ?_));refine gB O ?_;rw [WC (by omega)]at hb;exact⟨Ao,co,by rw [hb],by rw [←hb];exact aK.tail⟩
def jq(l:List Oper):List Nat:=l.filterMap (·.dst)
theorem Ja{α β:Type}(f:α→Option β):∀(l:List α),(l.filterMap f).Nodup→∀(i j:Nat) (a b:α) (d:β),l[i]?=some a→l[j]?=some b→f a=some d→f b=some d→i=j
 | [],_,i,j,a,b,d,hi,_,_,_=>by simp at hi
 | x::l,hn,i,j,a,b,d,hi,hj,ha,hb=>by
  have mem:∀(k:Nat) (c:α),l[k]?=some c→f c=some d→d∈l.filterMap f:=fun k c hk hc=>List.mem_filterMap.2 ⟨c,List.mem_of_getElem? hk,hc⟩
  cases hx:f x with
  | none=>
   rw [List.filterMap_cons,hx]at hn;cases i with
   | zero=>simp at hi;subst hi;rw [hx]at ha;cases ha
   | succ i=>
    cases j with
    | zero=>simp at hj;subst hj;rw [hx]at hb;cases hb
    | succ j=>rw [Ja f l hn i j a b d (by simpa using hi) (by simpa using hj) ha hb]
  | some y=>
   rw [List.filterMap_cons,hx]at hn;simp only [pg]at hn;cases i with
   | zero=>
    simp at hi;subst hi;rw [hx]at ha;cases ha;cases j with
    | zero=>rfl
    | succ j=>exact absurd (mem j b (by simpa using hj) hb) hn.1
   | succ i=>
    cases j with
    | zero=>
     simp at hj;subst hj;rw [hx]at hb;cases hb;exact absurd (mem i a (by simpa using hi) ha) hn.1
    | succ j=>rw [Ja f l hn.2 i j a b d (by simpa using hi) (by simpa using hj) ha hb]
def valOf(o:Oper)(e:Env):Value:=match o.dst with
 | some d=>e d
 | none=>undef
def Sh:Yd→Bool
 | .ex _=>true
 | .pr _=>false
def Hw(l:List Oper)(ms:List Nat)(k:Nat):Nat:=ms.countP fun m=>jF l l.length k m
def Cg(l:List Oper)(ms:List Nat)(k:Nat):Nat:=ms.countP fun m=>!(jF l l.length m k) && !(Nat.beq m k)
def mD(l:List Oper)(ms:List Nat)(k:Nat):Nat:=ms.countP fun m=>Nat.beq m k || jF l l.length k m
def Br(l:List Oper)(ms:List Nat)(m:Nat):Bool:=ms.all fun m'=>Nat.beq m' m || jF l l.length m m' || jF l l.length m' m
def Yd.at_(c ph:Nat):Yd→Value→World→Prop
 | .ex v,u,_=>u=v
 | .pr p,u,w=>c=ph→p u w
theorem mw{a b c:Nat}(h:c≤a)(e:a=b):c≤b:=e▸h
theorem cc_of{a b c d:Nat}(h:a≤c)(k:c≤d)(e:a=b:=by kernel_rfl)(f:d=b:=by kernel_rfl):c=b:=by omega
section
variable {P:Program} {N:Nat} {e:Env} {w:World}
theorem UM(e1:Env)(d:Nat)(v:Value):a7 e1 d v d=v:=by unfold a7;rw [Nat.beq_refl];rfl
theorem UN(e1:Env){d j:Nat}(v:Value)(h:j≠d):a7 e1 d v j=e1 j:=by
 have:Nat.beq j d=false:=by
  cases hb:Nat.beq j d with
  | false=>rfl
  | true=>exact absurd (oL hb) h
 unfold a7;rw [this];rfl
theorem F0{ms:List Nat}{p q:Nat→Bool}(h:∀m∈ms,p m=true→q m=true):ms.countP p≤ms.countP q:=List.countP_mono_left h
end
inductive Ye where
 | ex (v:Value)
 | pr (p:Value→World→Prop)
 | p2 (j:Nat) (p:Value→Value→World→Prop)
 | al (q:Value→Prop) (p:Value→World→Prop)
def vl(l:List Oper)(e:Env)(k:Nat):Value:=match l[k]? with
 | some o=>valOf o e
 | none=>undef
def Ye.holds(uu:Nat→Value):Ye→Value→World→Prop
 | .ex v,u,_=>u=v
 | .pr p,u,w=>p u w
 | .p2 j p,u,w=>p (uu j) u w
 | .al q p,u,w=>q u∧p u w
def Ye.qA:Ye→Prop
 | .ex _=>True
 | .pr p=>∀v w w',p v w→Below w.heap.size w w'→p v w'
 | .p2 _ p=>∀a v w w',p a v w→Below w.heap.size w w'→p a v w'
 | .al _ p=>∀v w w',p v w→Below w.heap.size w w'→p v w'
theorem Ye.ada(v:Value):(Ye.ex v).qA:=True.intro
theorem ly{v:Value}{l:List Ye}(h:∀y∈l,y.qA):∀y∈Ye.ex v::l,y.qA:=bV.2 ⟨True.intro,h⟩
theorem Ye.b9{p:Value→World→Prop}(h:∀v w w',p v w→Below w.heap.size w w'→p v w'):(Ye.pr p).qA:=h
abbrev yU:Ye:= .ex undef
abbrev yI(i:Int):Ye:= .ex (aiD i)
abbrev yB(b:Bool):Ye:= .ex (.bool b)
abbrev yP(a:aiC):Ye:= .ex (.pointer a)
abbrev yS(a:aiC)(n c:Nat):Ye:= .ex (.slice a n c)
theorem Nv{j:Nat}{p:Value→Value→World→Prop}(h:∀a v w w',p a v w→Below w.heap.size w w'→p a v w'):(Ye.p2 j p).qA:=h
theorem Im{q:Value→Prop}{p:Value→World→Prop}(h:∀v w w',p v w→Below w.heap.size w w'→p v w'):(Ye.al q p).qA:=h
def Lz:Ye→Bool
 | .ex _=>true
 | .pr _=>false
 | .p2 ..=>false
 | .al ..=>false
def Ou(N:Nat)(l:List Oper)(ys:List Ye)(ms:List Nat):Bool:=
 l.all (fun o=>match o.dst with | some d=>Nat.blt d N | none=>true) && decide ((jq l).Nodup) && (l.zipIdx.all fun p=> (fm p.1).all fun ed=>Nat.blt ed.on p.2) && Nat.beq l.length ys.length && (l.zip ys).all (fun p=>p.1.dst.isSome || !Lz p.2) && decide ms.Nodup && ms.all (fun m=>Nat.blt m l.length) && (ys.zipIdx.all fun p=>!(Lz p.1) || !(ms.contains p.2)) && (ys.zipIdx.all fun p=>match p.1 with | .p2 j _=>jF l l.length p.2 j && Nat.blt j l.length | _=>true)
def Ye.at_(c ph:Nat)(uu:Nat→Value):Ye→Value→World→Prop
 | .ex v,u,_=>u=v
 | .pr p,u,w=>c=ph→p u w
 | .p2 j p,u,w=>c=ph→p (uu j) u w
 | .al q p,u,w=>q u∧(c=ph→p u w)
def qf:List Oper→List Ye→(Nat→Value)→Nat→List (Nat×Value)
 | o::l,y::ys,u,i=>match o.dst,y with
  | some d,.ex v=> (d,v)::qf l ys u (i+1)
  | some d,.pr _=> (d,u i)::qf l ys u (i+1)
  | some d,.p2 ..=> (d,u i)::qf l ys u (i+1)
  | some d,.al ..=> (d,u i)::qf l ys u (i+1)
  | none,_=>qf l ys u (i+1)
 | _,_,_,_=> []
def nX(l:List Oper)(ys:List Ye):List Edge→List (Nat×Value)
 | []=> []
 | ed::r=>match ys[ed.on]?,(l[ed.on]?).bind (·.dst)with
  | some (.ex v),some d=> (d,v)::nX l ys r
  | _,_=>nX l ys r
section
variable{o:Oper}{y:Ye}{uu:Nat→Value}{w1 w2:World}{d i:Nat}{l:List Oper}{ms:List Nat}
variable {P:Program} {N:Nat} {e:Env} {w:World}
def fF(o:Oper)(y:Ye)(uu:Nat→Value)(e1:Env)(w1:World):Env→World→Prop:=fun e2 w2=>Below w1.heap.size w1 w2∧y.holds uu (valOf o e2) w2∧∀j,o.dst≠some j→e2 j=e1 j
def eA(o:Oper)(y:Ye)(uu:Nat→Value)(e1:Env):Env→World→Prop:=fun e2 w2=>y.holds uu (valOf o e2) w2∧∀j,o.dst≠some j→e2 j=e1 j
theorem fF.dn{e1:Env}{v:Value}(hd:o.dst=some d)(hb:Below w1.heap.size w1 w2)(hv:y.holds uu v w2):fF o y uu e1 w1 (a7 e1 d v) w2:=by
 refine⟨hb,?_,fun j hj=>UN e1 v (fun h=>hj (by rw [hd,h]))⟩;unfold valOf;rw [hd];show y.holds uu (a7 e1 d v d) w2;rw [UM];exact hv
theorem fh{e1:Env}{v:Value}(hd:o.dst=some d)(hv:y.holds uu v w1):fF o y uu e1 w1 (a7 e1 d v) w1:=fF.dn hd (Below.refl _ _) hv
theorem eA.dn{e1:Env}{v:Value}(hd:o.dst=some d)(hv:y.holds uu v w2):eA o y uu e1 (a7 e1 d v) w2:=by
 refine⟨?_,fun j hj=>UN e1 v (fun h=>hj (by rw [hd,h]))⟩;unfold valOf;rw [hd];show y.holds uu (a7 e1 d v d) w2;rw [UM];exact hv
theorem eA.st{e1:Env}(hd:o.dst=none)(hv:y.holds uu undef w2):eA o y uu e1 e1 w2:=by
 refine⟨?_,fun j _=>O⟩;unfold valOf;rw [hd];exact hv
def xQ(P:Program)(N:Nat)(l:List Oper)(ys:List Ye)(ms:List Nat)(e:Env)(w:World)(i:Nat)(o:Oper):Prop:=
 ∀(e1:Env) (w1:World) (c:Nat),Hw l ms i≤c→c≤Cg l ms i→(c=0→Below w.heap.size w w1)→(∀(j:Nat) (y:Ye) (o':Oper),jF l l.length i j=true→ys[j]?=some y→l[j]?=some o'→y.at_ c (mD l ms j) (vl l e1) (valOf o' e1) w1)→(∀(j:Nat) (o':Oper),l[j]?=some o'→jF l l.length j i=true→valOf o' e1=valOf o' e)→(∀(m:Nat) (y:Ye) (o':Oper),gz ms m=true→Br l ms m=true→mD l ms m=c→ys[m]?=some y→l[m]?=some o'→y.at_ c (mD l ms m) (vl l e1) (valOf o' e1) w1)→
  bif gz ms i then aa P N l.toArray (eA o (ys.getD i (.pr fun _ _=>True)) (vl l e1) (ext (mix e1 e (jq l)) (nX l ys (fm o)))) [o] (ext (mix e1 e (jq l)) (nX l ys (fm o))) w1
  else aa P N l.toArray (fF o (ys.getD i (.pr fun _ _=>True)) (vl l e1) (ext (mix e1 e (jq l)) (nX l ys (fm o))) w1) [o] (ext (mix e1 e (jq l)) (nX l ys (fm o))) w1
theorem Vd{ops:Array Oper}{e1:Env}{v:Value}(h:u5 ops N e1 o=some (d,v))(hv:y.holds uu v w1):aa P N ops (fF o y uu e1 w1) [o] e1 w1:= .u5 h (fF.dn (Ur h) (Below.refl _ _) hv)
theorem aX{ops:Array Oper}{e1:Env}{v:Value}(hd:o.dst=some d)(hv:y.holds uu v w1):aa P N ops (fF o y uu e1 w1) [] (a7 e1 d v) w1:=aa.n (fF.dn hd (Below.refl _ _) hv)
theorem ba{ys:List Ye}{v:Value}(h:((gz ms i,(ys.getD i (.pr fun _ _=>True))),fun e1=>u5 l.toArray N (ext (mix e1 e (jq l)) (nX l ys (fm o))) o)=((false,.ex v),fun _=>some (d,v))):xQ P N l ys ms e w i o:=fun e1 w1 c _ _ _ _ _ _=>by
 have h1:=congrFun (Prod.mk.inj h).2 e1;rw [(Prod.mk.inj (Prod.mk.inj h).1).1,(Prod.mk.inj (Prod.mk.inj h).1).2];exact Vd h1 O
theorem cP{ys:List Ye}(h:∀(e1:Env) (w1:World),Below w.heap.size w w1→(∀(j:Nat) (y:Ye) (o':Oper),jF l l.length i j=true→ys[j]?=some y→l[j]?=some o'→y.at_ 0 (mD l ms j) (vl l e1) (valOf o' e1) w1)→(∀(j:Nat) (o':Oper),l[j]?=some o'→jF l l.length j i=true→valOf o' e1=valOf o' e)→(∀(m:Nat) (y:Ye) (o':Oper),gz ms m=true→Br l ms m=true→mD l ms m=0→ys[m]?=some y→l[m]?=some o'→y.at_ 0 (mD l ms m) (vl l e1) (valOf o' e1) w1)→
 aa P N l.toArray (fF o (ys.getD i (.pr fun _ _=>True)) (vl l e1) (ext (mix e1 e (jq l)) (nX l ys (fm o))) w1) [o] (ext (mix e1 e (jq l)) (nX l ys (fm o))) w1) (ht:gz ms i=false:=by kernel_rfl) (hh:Cg l ms i=0:=by kernel_rfl):xQ P N l ys ms e w i o:=fun e1 w1 c _ bJ hb hp aL hq=>by
 obtain rfl:c=0:=by omega
 rw [ht];exact h e1 w1 (hb rfl) hp aL hq
theorem iY{ys:List Ye}(h:∀(e1:Env) (w1:World),Below w.heap.size w w1→(∀(j:Nat) (y:Ye) (o':Oper),jF l l.length i j=true→ys[j]?=some y→l[j]?=some o'→y.at_ 0 (mD l ms j) (vl l e1) (valOf o' e1) w1)→(∀(j:Nat) (o':Oper),l[j]?=some o'→jF l l.length j i=true→valOf o' e1=valOf o' e)→(∀(m:Nat) (y:Ye) (o':Oper),gz ms m=true→Br l ms m=true→mD l ms m=0→ys[m]?=some y→l[m]?=some o'→y.at_ 0 (mD l ms m) (vl l e1) (valOf o' e1) w1)→
 aa P N l.toArray (eA o (ys.getD i (.pr fun _ _=>True)) (vl l e1) (ext (mix e1 e (jq l)) (nX l ys (fm o)))) [o] (ext (mix e1 e (jq l)) (nX l ys (fm o))) w1) (ht:gz ms i=true:=by kernel_rfl) (hh:Cg l ms i=0:=by kernel_rfl):xQ P N l ys ms e w i o:=fun e1 w1 c _ bJ hb hp aL hq=>by
 obtain rfl:c=0:=by omega
 rw [ht];exact h e1 w1 (hb rfl) hp aL hq
theorem dP{ys:List Ye}(b:Nat)(h:∀(e1:Env) (w1:World),(∀(j:Nat) (y:Ye) (o':Oper),jF l l.length i j=true→ys[j]?=some y→l[j]?=some o'→y.at_ b (mD l ms j) (vl l e1) (valOf o' e1) w1)→(∀(j:Nat) (o':Oper),l[j]?=some o'→jF l l.length j i=true→valOf o' e1=valOf o' e)→(∀(m:Nat) (y:Ye) (o':Oper),gz ms m=true→Br l ms m=true→mD l ms m=b→ys[m]?=some y→l[m]?=some o'→y.at_ b (mD l ms m) (vl l e1) (valOf o' e1) w1)→
 aa P N l.toArray (fF o (ys.getD i (.pr fun _ _=>True)) (vl l e1) (ext (mix e1 e (jq l)) (nX l ys (fm o))) w1) [o] (ext (mix e1 e (jq l)) (nX l ys (fm o))) w1) (ht:gz ms i=false:=by kernel_rfl) (hl:Hw l ms i=b:=by kernel_rfl) (hh:Cg l ms i=b:=by kernel_rfl):xQ P N l ys ms e w i o:=fun e1 w1 c dp bJ _ hp aL hq=>by
 obtain rfl:c=b:=by omega
 rw [ht];exact h e1 w1 hp aL hq
theorem oQ{ys:List Ye}(b:Nat)(h:∀(e1:Env) (w1:World),(∀(j:Nat) (y:Ye) (o':Oper),jF l l.length i j=true→ys[j]?=some y→l[j]?=some o'→y.at_ b (mD l ms j) (vl l e1) (valOf o' e1) w1)→(∀(j:Nat) (o':Oper),l[j]?=some o'→jF l l.length j i=true→valOf o' e1=valOf o' e)→(∀(m:Nat) (y:Ye) (o':Oper),gz ms m=true→Br l ms m=true→mD l ms m=b→ys[m]?=some y→l[m]?=some o'→y.at_ b (mD l ms m) (vl l e1) (valOf o' e1) w1)→
 aa P N l.toArray (eA o (ys.getD i (.pr fun _ _=>True)) (vl l e1) (ext (mix e1 e (jq l)) (nX l ys (fm o)))) [o] (ext (mix e1 e (jq l)) (nX l ys (fm o))) w1) (ht:gz ms i=true:=by kernel_rfl) (hl:Hw l ms i=b:=by kernel_rfl) (hh:Cg l ms i=b:=by kernel_rfl):xQ P N l ys ms e w i o:=fun e1 w1 c dp bJ _ hp aL hq=>by
 obtain rfl:c=b:=by omega
 rw [ht];exact h e1 w1 hp aL hq
theorem aP{ys:List Ye}(h:∀(e1:Env) (w1:World),aa P N l.toArray (fF o (ys.getD i (.pr fun _ _=>True)) (vl l e1) (ext (mix e1 e (jq l)) (nX l ys (fm o))) w1) [o] (ext (mix e1 e (jq l)) (nX l ys (fm o))) w1)(ht:gz ms i=false:=by kernel_rfl):xQ P N l ys ms e w i o:=fun e1 w1 c _ _ _ _ _ _=>by
 rw [ht];exact h e1 w1
def Df(P:Program)(N:Nat)(l:List Oper)(ys:List Ye)(ms:List Nat)(e:Env)(w:World):Nat→List Oper→Prop
 | _,[]=>True
 | i,o::r=>xQ P N l ys ms e w i o∧Df P N l ys ms e w (i+1) r
theorem Df.get{ys:List Ye}:∀ {r:List Oper} {i:Nat},Df P N l ys ms e w i r→∀k o,r[k]?=some o→xQ P N l ys ms e w (i+k) o
 | [],_,_,k,o,hk=>by simp at hk
 | x::r,i,h,0,o,hk=>by simp at hk;subst hk;exact h.1
 | x::r,i,h,k+1,o,hk=>by
  have:=Df.get h.2 k o (by simpa using hk);rw [show i+1+k=i+ (k+1) by omega]at this;exact this
theorem On{l:List Oper}{ys:List Ye}{e1:Env}:∀(af:List Edge),(∀ed∈af,∀(v:Value) (o':Oper),ys[ed.on]?=some (.ex v)→l[ed.on]?=some o'→valOf o' e1=v)→Mt e1 (nX l ys af)
 | [],_=>ae
 | ed::r,h=>by
  have hr:=On r (fun x hx=>h x (oK _ hx));unfold nX
  split
  ·rename_i v d hy hd;refine⟨?_,hr⟩;cases ho:l[ed.on]? with
   | none=>rw [ho]at hd;cases hd
   | some o'=>
    rw [ho]at hd;have ou:o'.dst=some d:=hd;have:=h ed (by simp) v o' hy ho;unfold valOf at this;rw [ou]at this;exact this
  ·exact hr
theorem Oy{e1 e:Env}:∀(l:List Oper) (ys:List Ye) (i:Nat),l.length=ys.length→(jq l).Nodup→(∀(k:Nat) (v:Value) (o:Oper),ys[k]?=some (.ex v)→l[k]?=some o→valOf o e1=v∨o.dst=none)→
 ∃u:Nat→Value,ext e (qf l ys u i)=mix e1 e (jq l)∧(∀(k:Nat) (o:Oper),l[k]?=some o→u (i+k)=valOf o e1)
 | [],[],i,_,_,_=> ⟨fun _=>undef,by funext j;rfl,fun k o h=>by simp at h⟩
 | [],y::ys,i,hl,_,_=>by simp at hl
 | o::l,[],i,hl,_,_=>by simp at hl
 | o::l,y::ys,i,hl,hn,h=>by
  have wN:(jq l).Nodup:=by
   unfold jq at hn⊢;rw [List.filterMap_cons]at hn
   split at hn
   ·exact hn
   ·exact(pg.1 hn).2
  obtain⟨u,hu,jM⟩:=Oy (e1:=e1) (e:=e) l ys (i+1) (by simpa using hl) wN (fun k v o' hy ho=>h (k+1) v o' (by simpa using hy) (by simpa using ho));have IJ:∀(l:List Oper) (ys:List Ye) (i:Nat) (u u':Nat→Value),(∀k,i≤k→u k=u' k)→qf l ys u i=qf l ys u' i:=by
   intro l
   induction l with
   | nil=>intros;rfl
   | cons o l ih=>
    intro ys i u u' hk;cases ys with
    | nil=>rfl
    | cons y ys=>
     have h1:=ih ys (i+1) u u' (fun k fM=>hk k (by omega));simp only [qf];rw [h1,hk i (by omega)]
  have hc:=IJ l ys (i+1) (fun k=>if k=i then valOf o e1 else u k) u (fun k hk=>by show(if k=i then _ else _)=_;rw [ag (by omega)]);refine⟨fun k=>if k=i then valOf o e1 else u k,?_,fun k o' hk=>?_⟩
  ·cases hd:o.dst with
   | none=>
    have I0:jq (o::l)=jq l:=by unfold jq;rw [List.filterMap_cons,hd]
    simp only [qf,hd,hc,hu,I0]
   | some d=>
    have I0:jq (o::l)=d::jq l:=by unfold jq;rw [List.filterMap_cons,hd]
    have uN:valOf o e1=e1 d:=by unfold valOf;rw [hd]
    have pV:∀v,v=e1 d→a7 (mix e1 e (jq l)) d v=mix e1 e (d::jq l):=by
     intro v hv;funext j;simp only [a7,mix,gz];cases hb:Nat.beq j d with
     | true=>rw [oL hb,hv];rfl
     | false=>rfl
    rw [I0];cases y with
    | ex v=>
     have h0:=h 0 v o O O;simp only [qf,hd,ext,hc,hu];refine pV v ?_;rcases h0 with h0 | h0
     ·rw [←h0,uN]
     ·rw [hd]at h0;cases h0
    | pr p=>
     simp only [qf,hd,ext,hc,hu,aj];exact pV _ uN
    | p2 j p=>
     simp only [qf,hd,ext,hc,hu,aj];exact pV _ uN
    | al q p=>
     simp only [qf,hd,ext,hc,hu,aj];exact pV _ uN
  ·cases k with
   | zero=>simp at hk;subst hk;simp
   | succ k=>
    have:=jM k o' (by simpa using hk);show(if i+ (k+1)=i then _ else u (i+ (k+1)))=_;rw [ag (by omega),←this];congr 1;omega
theorem iU{id:Nat}{Q:jm}(ms:List Nat)(ys:List Ye)(hm:P.follows .mixedOrders=true)(de:Ou N l ys ms=true)(KJ:∀y∈ys,y.qA)
 (Ld:Df P N l ys ms e w 0 l) (wG:∀u w1,(ms=[]→Below w.heap.size w w1)→(∀(k:Nat) (p:Value→World→Prop),ys[k]?=some (Ye.pr p)→mD l ms k=ms.length→p (u k) w1)→(∀(k j:Nat) (p:Value→Value→World→Prop),ys[k]?=some (Ye.p2 j p)→mD l ms k=ms.length→p (u j) (u k) w1)→(∀(k:Nat) (q:Value→Prop) (p:Value→World→Prop),ys[k]?=some (Ye.al q p)→q (u k)∧(mD l ms k=ms.length→p (u k) w1))→Q .normal (ext e (qf l ys u 0)) w1):Cd P N (.region id l.toArray true) Q e w:= .mk' fun a ha=>by
 simp only [Ou,Bool.and_eq_true,List.all_eq_true,jT]at de;obtain⟨⟨⟨⟨⟨⟨⟨⟨h1,h2⟩,h3⟩,hlen⟩,aaU⟩,qq⟩,jK⟩,hmy⟩,gX⟩:=de;have KX:∀(k j:Nat) (p:Value→Value→World→Prop),ys[k]?=some (.p2 j p)→jF l l.length k j=true∧j<l.length:=by
  intro k j p hk;have:=gX (.p2 j p,k) (by rw [List.mem_iff_getElem?];exact⟨k,by simp [hk]⟩);simpa [Nat.blt_eq]using this
 have yl:l.length=ys.length:=oL hlen;have wE:∀(i:Nat) (o:Oper),l[i]?=some o→∀ed∈fm o,ed.on<i:=by
  intro i o ho ed fL;have:=h3 (o,i) (by
   obtain⟨hi,KA⟩:=ia.1 ho;rw [List.mem_iff_getElem?];exact⟨i,by simp [ho]⟩)
  simpa [Nat.blt_eq]using this ed fL
 have hdN:∀(i:Nat) (o:Oper) (d:Nat),l[i]?=some o→o.dst=some d→d<N:=by
  intro i o d ho hd;have:=h1 o (List.mem_of_getElem? ho);rw [hd]at this;simpa [Nat.blt_eq]using this
 have hexd:∀(i:Nat) (o:Oper) (v:Value),l[i]?=some o→ys[i]?=some (.ex v)→o.dst≠none:=by
  intro i o v ho hy hd;have:=aaU (o,.ex v) (by
   rw [List.mem_iff_getElem?];exact⟨i,by rw [List.getElem?_zip_eq_some];exact⟨ho,hy⟩⟩)
  simp [hd,Lz]at this
 refine wp_region_any hm ?_
 let pK:Array Bool→Nat:=fun listed=>ms.countP fun m=>listed.getD m false
 have key:∀(fuel:Nat) (listed:Array Bool) (a1:Act) (e1:Env) (w1:World),jE N a1 e1→(pK listed=0→Below w.heap.size w w1)→(∀j,gz (jq l) j=false→e1 j=e j)→listed.size=l.length→
  (∀(i:Nat) (y:Ye) (o:Oper),listed.getD i false=true→ys[i]?=some y→l[i]?=some o→y.at_ (pK listed) (mD l ms i) (vl l e1) (valOf o e1) w1)→(∀(i:Nat) (o:Oper),listed.getD i false=true→l[i]?=some o→∀ed∈fm o,listed.getD ed.on false=true)→(∀(i:Nat) (o:Oper),listed.getD i false=false→l[i]?=some o→valOf o e1=valOf o e)→(l.length - fuel≤(List.range l.length).countP fun i=>listed.getD i false)→
  wpAny P .any l.toArray (low N Q) fuel listed a1 w1:=by
  have nC:∀(listed:Array Bool) (a1:Act) (e1:Env) (w1:World),jE N a1 e1→(pK listed=0→Below w.heap.size w w1)→(∀j,gz (jq l) j=false→e1 j=e j)→
   (∀(i:Nat) (y:Ye) (o:Oper),listed.getD i false=true→ys[i]?=some y→l[i]?=some o→y.at_ (pK listed) (mD l ms i) (vl l e1) (valOf o e1) w1)→(∀i,i<l.length→listed.getD i false=true)→low N Q .normal a1 w1:=by
   intro listed a1 e1 w1 hr hb oV hS dL;have ot:pK listed=ms.length:=by
    show ms.countP _=ms.length;rw [List.countP_eq_length];intro m zK;exact dL m (by simpa [Nat.blt_eq]using jK m zK)
   obtain⟨u,hu,jM⟩:=Oy (e1:=e1) (e:=e) l ys 0 yl h2 (fun k v o hy ho=> .inl (hS k _ o (dL k (ia.1 ho).1) hy ho));refine⟨e1,hr,?_⟩;have:=wG u w1 (fun h0=>hb (by rw [ot,h0];rfl)) (fun k p hk dH=>by
    have je:k<l.length:=by rw [yl];exact(ia.1 hk).1
    have h5:=hS k _ l[k] (dL k je) hk (gf je);have h6:=jM k l[k] (gf je);rw [Nat.zero_add]at h6;rw [h6];exact h5 (by rw [ot,dH])) (fun k j p hk dH=>by
    have je:k<l.length:=by rw [yl];exact(ia.1 hk).1
    have hj:=KX k j p hk;have h5:=hS k _ l[k] (dL k je) hk (gf je);have h6:=jM k l[k] (gf je);have h7:=jM j l[j] (gf hj.2);rw [Nat.zero_add]at h6 h7;have h8:vl l e1 j=valOf l[j] e1:=by unfold vl;rw [List.getElem?_eq_getElem hj.2]
    rw [h6,h7,←h8];exact h5 (by rw [ot,dH])) (fun k q p hk=>by
    have je:k<l.length:=by rw [yl];exact(ia.1 hk).1
    have h5:=hS k _ l[k] (dL k je) hk (gf je);have h6:=jM k l[k] (gf je);rw [Nat.zero_add]at h6;rw [h6];exact⟨h5.1,fun dH=>h5.2 (by rw [ot,dH])⟩)
   rw [hu,Hx oV]at this;exact this
  have Ey:∀(listed:Array Bool),listed.size=l.length→Region.ready .any l.toArray listed=[]→∀i,i<l.length→listed.getD i false=true:=by
   intro listed l7 uK i
   induction i using Nat.strongRecOn with
   | _ i ih=>
    intro hi;cases ym:listed.getD i false with
    | true=>rfl
    | false=>
     exfalso;have:i∈Region.ready .any l.toArray listed:=by
      rw [mem_ready];refine⟨?_,l[i],by simp [hi],fun ed fL om=>ih ed.on (wE i _ (gf hi) ed (qD.2 ⟨fL,om⟩)) (by have:=wE i _ (gf hi) ed (qD.2 ⟨fL,om⟩);omega)⟩;rw [iN,qL (by omega)]at ym⊢;exact ym
     rw [uK]at this;cases this
  intro fuel
  induction fuel with
  | zero=>
   intro listed a1 e1 w1 hr hb oV l7 hS cg zS ot;have dL:∀i,i<l.length→listed.getD i false=true:=by
    have h4:(List.range l.length).countP (fun i=>listed.getD i false)=(List.range l.length).length:=by
     have:=List.countP_le_length (p:=fun i=>listed.getD i false) (l:=List.range l.length);simp at this ot⊢;omega
    rw [List.countP_eq_length]at h4;intro i hi;exact h4 i (by simpa using hi)
   refine⟨?_,nC listed a1 e1 w1 hr hb oV hS dL⟩;rw [List.eq_nil_iff_forall_not_mem];intro i hi;obtain⟨h5,o,ho,_⟩:=mem_ready.1 hi;have rq:i<l.length:=by
    rcases Nat.lt_or_ge i l.length with h | h
    ·exact h
    ·simp [oH h]at ho
   have h6:=dL i rq;rw [iN,qL (by omega)]at h5 h6;simp at h5 h6;rw [h5]at h6;cases h6
  | succ fuel ih=>
   intro listed a1 e1 w1 hr hb oV l7 hS cg zS ot;refine⟨fun uK=>nC listed a1 e1 w1 hr hb oV hS (Ey listed l7 uK),fun i hi=>?_⟩;obtain⟨aL,o,ho,wy⟩:=mem_ready.1 hi;have ik:l[i]?=some o:=by simpa using ho
   have rq:i<l.length:=(ia.1 ik).1;have lq:∀ed∈fm o,listed.getD ed.on false=true:=fun ed fL=>wy ed (qD.1 fL).1 (qD.1 fL).2
   have tP:listed.getD i false=false:=by
    have h5:=aL;rw [iN,qL (by omega)]at h5⊢;exact h5
   have pQ:∀k,(listed.setIfInBounds i true).getD k false=if k=i then true else listed.getD k false:=by
    intro k;rw [iN,sX]
    by_cases dU:k=i
    ·subst dU;rw [aj rfl,aj (by omega),aj rfl];rfl
    ·rw [ag (fun e=>dU e.symm),ag dU,←iN]
   have dp:Hw l ms i≤pK listed:=F0 fun m _ h=>Iu cg ik lq _ _ h
   have bJ:pK listed≤Cg l ms i:=F0 fun m _ h=>by
    have bt:Nat.beq m i=false:=by
     cases hb:Nat.beq m i with
     | false=>rfl
     | true=>rw [oL hb,tP]at h;cases h
    have wz:jF l l.length m i=false:=by
     cases hb:jF l l.length m i with
     | false=>rfl
     | true=>have:=xR cg _ _ _ hb h;rw [tP]at this;cases this
    simp [bt,wz]
   have dH:∀(j:Nat),listed.getD j false=true→mD l ms j≤pK listed:=fun j hj=>F0 fun m _ h=>by
    rw [Bool.or_eq_true]at h;rcases h with h | h
    ·rw [oL h];exact hj
    ·exact xR cg _ _ _ h hj
   have ak:=Ld.get i o ik e1 w1 (pK listed);rw [Nat.zero_add]at ak;have ak:=ak dp bJ hb (fun j y o' wz hy zO=>hS j y o' (Iu cg ik lq _ _ wz) hy zO) (fun j o' hj wz=>by
    refine zS j o' ?_ hj;cases vu:listed.getD j false with
    | false=>rfl
    | true=>have:=xR cg _ _ _ wz vu;rw [tP]at this;cases this) (fun m y o' hm D5 hphm hy Rw=>by
    refine hS m y o' ?_ hy Rw;cases Ra:listed.getD m false with
    | true=>rfl
    | false=>
     exfalso;have h8:=Bz (fun k=>listed.getD k false) (fun k=>if k=m then true else listed.getD k false) m Ra (fun k=>O) ms qq (yE.1 hm);have h9:ms.countP (fun k=>if k=m then true else listed.getD k false)≤mD l ms m:=F0 fun m' ku h=>by
      by_cases e:m'=m
      ·rw [e,Nat.beq_refl];rfl
      ·rw [ag e]at h;simp only [Br,List.all_eq_true]at D5;have gU:=D5 m' ku;cases uq:jF l l.length m m' with
       | true=>rw [Bool.or_true]
       | false=>
        rw [uq,Bool.or_false,Bool.or_eq_true]at gU;rcases gU with gU | gU
        ·exact absurd (oL gU) e
        ·have:=xR cg _ _ _ gU h;rw [Ra]at this;cases this
     have BK:ms.countP (fun k=>listed.getD k false)=pK listed:=O;omega)
   rw [Hx oV,x4 (On (fm o) (fun ed fL v o' hy zO=>hS ed.on _ o' (lq ed fL) hy zO))]at ak
   let turns:Prop:=gz ms i=true
   let KK:Env→World→Prop:=fun e2 w2=> (gz ms i=false→Below w1.heap.size w1 w2)∧(ys.getD i (.pr fun _ _=>True)).holds (vl l e1) (valOf o e2) w2∧∀j,o.dst≠some j→e2 j=e1 j
   have abx:∃K:Env→World→Prop,(∀e2 w2,K e2 w2→KK e2 w2)∧aa P N l.toArray K [o] e1 w1:=by
    cases lL:gz ms i with
    | true=>
     rw [lL]at ak;exact⟨_,fun e2 w2 h=> ⟨fun h0=> (by rw [lL]at h0;cases h0),h.1,h.2⟩,ak⟩
    | false=>
     rw [lL]at ak;exact⟨_,fun e2 w2 h=> ⟨fun _=>h.1,h.2.1,h.2.2⟩,ak⟩
   obtain⟨K,qZ,abj⟩:=abx;have pB:=abj.run a1 hr;have GR:pK (listed.setIfInBounds i true)=if gz ms i=true then pK listed+1 else pK listed:=by
    show ms.countP _=_
    by_cases lL:gz ms i=true
    ·rw [aj lL];exact Bz (fun m=>listed.getD m false) (fun m=> (listed.setIfInBounds i true).getD m false) i tP pQ ms qq (yE.1 lL)
    ·rw [ag lL];refine List.countP_congr fun m zK=>?_
     rw [pQ,ag (fun e=>lL (yE.2 (by rw [←e];exact zK)))]
   have tI:∀a2 w2,(∃e2,jE N a2 e2∧K e2 w2)→wpAny P .any l.toArray (low N Q) fuel (listed.setIfInBounds i true) a2 w2:=by
    intro a2 w2 ⟨e2,rz,fB⟩;obtain⟨oo,wX,BX⟩:=qZ _ _ fB;have KW:∀(k:Nat) (o':Oper),l[k]?=some o'→k≠i→valOf o' e2=valOf o' e1:=by
     intro k o' de dU;unfold valOf;cases hd:o'.dst with
     | none=>rfl
     | some d=>exact BX d (fun h=>dU (Ja _ l h2 k i o' o d de ik hd h))
    have Ho:∀j,j≠i→vl l e2 j=vl l e1 j:=by
     intro j hj;unfold vl;cases zO:l[j]? with
     | none=>rfl
     | some o'=>exact KW j o' zO hj
    refine ih _ a2 e2 w2 rz (fun h0=>?_) (fun j hj=>?_) (by simpa using l7) (fun k y o' hk hy de=>?_) (fun k o' hk de ed fL=>?_) (fun k o' hk de=>?_) ?_
    ·rw [GR]at h0
     by_cases lL:gz ms i=true
     ·rw [aj lL]at h0;omega
     ·rw [ag lL]at h0;have:=oo (by simpa using lL);exact(hb h0).trans (this.mono (hb h0).size)
    ·have bt:o.dst≠some j:=by
      intro hd;have:gz (jq l) j=true:=by rw [yE];exact List.mem_filterMap.2 ⟨o,List.mem_of_getElem? ik,hd⟩
      rw [this]at hj;cases hj
     rw [BX j bt];exact oV j hj
    ·by_cases dU:k=i
     ·subst dU;rw [ik]at de;cases de;have:ys.getD k (.pr fun _ _=>True)=y:=by simp [cJ,hy]
      rw [this]at wX;cases y with
      | ex v=>exact wX
      | pr p=>exact fun _=>wX
      | p2 j p=>
       have hj:=KX k j p hy;have vu:listed.getD j false=true:=Iu cg ik lq _ _ hj.1;have tF:j≠k:=fun e=>by rw [e,tP]at vu;cases vu
       exact fun _=>by rw [Ho j tF];exact wX
      | al q p=>exact⟨wX.1,fun _=>wX.2⟩
     ·have fM:listed.getD k false=true:=by rw [pQ,ag dU]at hk;exact hk
      have h7:=hS k y o' fM hy de;rw [KW k o' de dU];cases y with
      | ex v=>exact h7
      | pr p=>
       intro hc;rw [GR]at hc
       by_cases lL:gz ms i=true
       ·rw [aj lL]at hc;have:=dH k fM;omega
       ·rw [ag lL]at hc;have hl:=KJ _ (List.mem_of_getElem? hy);exact hl _ _ _ (h7 hc) (oo (by simpa using lL))
      | p2 j p=>
       have hj:=KX k j p hy;have vu:listed.getD j false=true:=xR cg _ _ _ hj.1 fM;have tF:j≠i:=fun e=>by rw [e,tP]at vu;cases vu
       intro hc;rw [Ho j tF];rw [GR]at hc
       by_cases lL:gz ms i=true
       ·rw [aj lL]at hc;have:=dH k fM;omega
       ·rw [ag lL]at hc;have hl:=KJ _ (List.mem_of_getElem? hy);exact hl _ _ _ _ (h7 hc) (oo (by simpa using lL))
      | al q p=>
       refine⟨h7.1,fun hc=>?_⟩;rw [GR]at hc
       by_cases lL:gz ms i=true
       ·rw [aj lL]at hc;have:=dH k fM;omega
       ·rw [ag lL]at hc;have hl:=KJ _ (List.mem_of_getElem? hy);exact hl _ _ _ (h7.2 hc) (oo (by simpa using lL))
    ·rw [pQ]
     by_cases yf:ed.on=i
     ·rw [aj yf]
     ·rw [ag yf]
      by_cases dU:k=i
      ·subst dU;rw [ik]at de;cases de;exact lq ed fL
      ·rw [pQ,ag dU]at hk;exact cg k o' hk de ed fL
    ·rw [pQ]at hk
     by_cases dU:k=i
     ·rw [aj dU]at hk;cases hk
     ·rw [ag dU]at hk;rw [KW k o' de dU];exact zS k o' hk de
    ·have D6:(List.range l.length).countP (fun k=> (listed.setIfInBounds i true).getD k false)=(List.range l.length).countP (fun k=>listed.getD k false)+1:=
      Bz (fun k=>listed.getD k false) (fun k=> (listed.setIfInBounds i true).getD k false) i tP pQ _ List.nodup_range (by simpa using rq)
     rw [D6];omega
   unfold wpOp;rw [ho];unfold wpList at pB;show if _ then _ else _
   by_cases hw:Region.wanted o (yielded l.toArray a1.tmps)=true
   ·rw [aj hw]at pB⊢;rcases pB with h5 | ⟨_,a0,w0,h5⟩
    ·refine .inl (H9 h5 (fun a2 w2 hx=>?_) (fun x a w hx hq=>hx hq.1));exact tI a2 w2 hx.2
    ·exact absurd h5.1 (by simp)
   ·rw [ag hw]at pB⊢;exact tI _ _ pB.2
 refine key l.length (Array.replicate l.length false) a e _ ha (fun _=> ⟨⟨O,O,O,a8 _,fun _ _=>O⟩,fun _=>Nat.le_add_right _ _⟩) (fun _ _=>O) (by simp) (fun i y o hi=>?_) (fun i o hi=>?_) (fun _ _ _ _=>O) (by omega)
 ·exfalso;rw [iN,Array.getElem?_replicate]at hi
  split at hi<;>simp at hi
 ·exfalso;rw [iN,Array.getElem?_replicate]at hi
  split at hi<;>simp at hi
end
theorem Vr(x y:Int)(w:World)(hx:0≤x∧x≤1048576)(hy:0≤y∧y≤1048576):aA prog 241 [.int .u64 x,.int .u64 y] w (fun v w'=>v= .tuple #[.int .u64 0,.int .u64 (x*y)]∧w'=w):=by
 have ka:0≤x*y∧x*y≤1099511627776:=⟨Int.mul_nonneg hx.1 hy.1,Int.le_trans (Int.mul_le_mul hx.2 hy.2 hy.1 (by omega)) (by decide)⟩;have ex:x%4294967296=x:=by omega
 have ey:y%4294967296=y:=by omega
 have dx:x / 4294967296=0:=by omega
 have dy:y / 4294967296=0:=by omega
 refine bk func241 O ntmps241 O (sQ O) (aQ O (Ia (x) O O O (by omega) (by omega) (ad O (Dd (0) O O O (by omega) (by omega) (ad O (Ia (y) O O O (by omega) (by omega) (ad O (Dd (0) O O O (by omega) (by omega) (ad O ?_)))))))));refine Db (x*y) O O O (by simp) (by omega) ?_;refine ad O ?_;refine Db (0) O O O (by simp) (by omega) ?_;refine ad O (Dd (x*y / 4294967296) O O O (by omega) (by omega) ?_);refine Fv (x*y / 4294967296) O O O (by simp) (by omega) ?_;refine ad O (Ia (x*y / 4294967296) O O O (by omega) (by omega) (ad O (Dd (0) O O O (by omega) (by omega) (ad O ?_))));refine Db (0) O O O (by simp) (by omega) ?_;refine Fv (x*y / 4294967296) O O O (by simp) (by omega) ?_;refine ad O ?_;refine Db (0) O O O (by simp) (by omega) ?_;refine ad O ?_;refine Fv (0) O O O (by simp) (by omega) ?_;refine ad O (Dd (0) O O O (by omega) (by omega) ?_);refine Fv (0) O O O (by simp) (by omega) ?_;refine ad O ?_;refine Db (x*y) O O O (by simp) (by omega) ?_;refine bh O (HN O O ?_);exact⟨O,O⟩
theorem Vs(x y:Int)(w:World)(hx:0≤x∧x≤1048576)(hy:0≤y∧y≤1048576):aA prog 215 [.int .u64 x,.int .u64 y] w (fun v w'=>v= .tuple #[.int .u64 0,.int .u64 (x*y)]∧w'=w):=by
 refine bk func215 O ntmps215 O (sQ O) (bK O (Cd.eV O (av O (aa.call (Vr x y w hx hy) O O O ?_))));rintro _ _ ⟨rfl,rfl⟩;refine bh O (HN O O ?_);exact⟨O,O⟩
def rep(a n:Nat)(x v:Int):List Int:=List.replicate a x++List.replicate (n - a) v
theorem afA{m n q:Nat}{x v:Int}(hm:m≤n)(hq:q≤n - m):((rep m n x v).map (Value.int .i64)).take m++ (List.range q).map (fun _=>Value.int .i64 x)++ ((rep m n x v).map (Value.int .i64)).drop (m+q)=(rep (m+q) n x v).map (Value.int .i64):=by
 have e1:(rep m n x v).map (Value.int .i64)=List.replicate m (Value.int .i64 x)++List.replicate (n - m) (Value.int .i64 v):=by simp [rep]
 have e2:(List.range q).map (fun _=>Value.int .i64 x)=List.replicate q (Value.int .i64 x):=by
  apply ji<;>simp
 rw [e1,e2,xG (by simp),List.drop_append];simp only [rep,iQ,List.map_replicate,List.length_replicate,List.take_replicate,List.drop_replicate,Nat.min_self];rw [show m - (m+q)=0 by omega,show m+q - m=q by omega,show n - m - q=n - (m+q) by omega];simp
theorem Ij(A:aiC)(c:Nat)(x:Int)(n:Nat)(w:World)(hR:bS w A 1 [x])(hn:n≤1048576):
 aA prog 158 [.slice A 1 c,aiD (n:Int)] w (fun v w'=>∃A',v= .slice A' n n∧St w w' [ah 2 A' n n (List.replicate n x)]):=by
 refine bk func158 O ntmps158 O (cK O) (bK O (qM O (by omega) ?_));refine av O (aa.len O O ?_);refine nk (i:=1) O O (by decide) ?_;refine ad O (nk (i:=(n:Int)) O O (sU _ (by omega)) (aa.call (Vs 1 n _ (by omega) (by omega)) O O O ?_));rintro _ w ⟨rfl,rfl⟩;rw [Int.one_mul];refine ad O (aa.gtr O O O (ad O ?_));refine bY 23 O (fun h=>absurd h (by decide)) (fun _=>?_);refine aa.g O O O (ad O (aa.g O O O (aa.gtr O O O (ay O ?_))));refine qM O (by omega) (av O (nk (i:=(n:Int)) O O (IntWalk.i64_in _ (by omega)) (vT n (St.refl w) O O (by omega) ?_)));intro A1 w1 ao;refine ad O ?_;refine Nh 0 0 (min 1 n) ao O (ao.eY hR).2 (aW _) (by rw [XC];rfl) O (fun _ _=>O) O O ?_;intro w2 ar;refine ay O ?_;have h3:St w w2 [ah 2 A1 n n (rep (min 1 n) n x 0)]:=by
  have e:([ah 2 A1 n n (List.replicate n 0)].set 0 { ah 2 A1 n n (List.replicate n 0)with vs:=(ah 2 A1 n n (List.replicate n 0)).vs.take 0++ (List.range (min 1 n)).map (fun j=>Value.int .i64 ([x].getD j 0))++ (ah 2 A1 n n (List.replicate n 0)).vs.drop (0+min 1 n) })=[ah 2 A1 n n (rep (min 1 n) n x 0)]:=by
   by_cases h0:n=0
   ·subst h0;rfl
   have h1:min 1 n=1:=by omega
   rw [h1];simp [ah,rep,ng]
  rw [←e];exact ar
 refine Cd.loop (α:=Nat) (fun m=> [(7,.slice A1 n n),(8,aiD (m:Int))]) (fun m w'=>St w w' [ah 2 A1 n n (rep m n x 0)]∧m≤n∧(0<n→0<m)) (fun m=>n - m) (min 1 n) ⟨O,O,ae⟩ ⟨h3,by omega,by omega⟩ ?_;rintro m e w3 ⟨az,hm,Rh⟩;refine aQ O (aa.len O O (ay O ?_));refine aB _ O (fun h4=>?_) (fun h4=>?_)
 ·refine bP O ?_;have hlen:(rep m n x 0).length=n:=az.CE 0 O;have pN:∀ {w1:World},Below w3.heap.size w3 w1→Rd w1 A1 m (fun _=>aiD x):=fun hb j hj=>by
   have h5:=(az.later hb).rd 0 O j (by show j<n;omega);have h6:((rep m n x 0).map (Value.int .i64)).getD j undef=aiD x:=by simp [rep,cJ,lQ,hj]
   obtain⟨p,hp,hc⟩:=h5;exact⟨p,hp,hc.trans (ax some h6)⟩
  have gG:=afA (n:=n) (m:=m) (q:=min m (n - m)) (x:=x) (v:=0) hm (by omega);refine iU [7] [yI ((m:Int)),yS (A1) (n) (n),yI ((m:Int)),yS (cutAt A1 n m) (n - m) (n - m),yS (A1) (n) (n),yI ((m:Int)),yS (A1) (m) (n),.pr (fun v w'=>v=aiD ((min m (n - m):Nat):Int)∧St w w' [ah 2 A1 n n (rep (m+min m (n - m)) n x 0)]),yI ((m:Int)+ ((min m (n - m):Nat):Int)),yI ((m:Int)+ ((min m (n - m):Nat):Int))] (by kernel_rfl) (by kernel_rfl) (ly (ly (ly (ly (ly (ly (ly (bV.2 ⟨Ye.b9 (fun v w w' h hb=> ⟨h.1,h.2.later hb⟩),(ly (ly (fun _ h=>by cases h)))⟩)))))))) ?_ ?_
  ·refine⟨?_,ba O,?_,aP fun _ _=>FA O O O (by omega) (aX O O),ba O,?_,aP fun _ _=>Ic O O O (by omega) (aX O O),?_,?_,ba O,ae⟩
   ·intro e1 w1 cc dp bJ dz hp aL hq;show aa _ _ _ _ _ _ _;refine pI O (by exact aL 9 _ O (by kernel_rfl)) O (aa.n (fh O (by exact O)))
   ·intro e1 w1 cc dp bJ dz hp aL hq;show aa _ _ _ _ _ _ _;refine pI O (by exact aL 9 _ O (by kernel_rfl)) O (aa.n (fh O (by exact O)))
   ·intro e1 w1 cc dp bJ dz hp aL hq;show aa _ _ _ _ _ _ _;refine pI O (by exact aL 9 _ O (by kernel_rfl)) O (aa.n (fh O (by exact O)))
   ·refine iY fun e1 w1 hb hp aL hq=>?_
    refine Nh 0 m (min m (n - m)) (az.later hb) O (f:=fun _=>aiD x) (pN hb) (by omega) O O (fun _ _=>O) O O ?_;intro w5 aK;refine aa.n ?_;exact eA.dn O ⟨O,by show St w w5 [⟨A1,n,n,_,(rep (m+min m (n - m)) n x 0).map (Value.int .i64)⟩];rw [←gG];exact aK⟩
   refine dP 1 fun e1 w1 hp aL hq=>?_
   have dH:=hp 7 _ _ (by kernel_rfl) O O (by kernel_rfl);refine aa.add O (by exact dH.1) O (by omega) (aa.n (fh O (by exact O)))
  intro u w5 _ hu _ _;have aK:=(hu 7 _ O (by kernel_rfl)).2;refine M8 O (tQ ?_);exact⟨m+min m (n - m),by have:=Rh (by omega);omega,⟨O,by show Value.int .i64 _=Value.int .i64 _;congr 1,ae⟩,aK,by omega,by omega⟩
 refine aY O (aZ (gE O ?_));refine gB O ?_;have:m=n:=by omega
 subst this;refine⟨A1,O,?_⟩;have e:rep m m x 0=List.replicate m x:=by simp [rep]
 rw [←e];exact az
end
section
open Tryz
variable{x:Int}
theorem MF{α:Type}[DecidableEq α]:∀(a b:List α),a.Nodup→(∀x∈a,x∈b)→a.length≤b.length
 | [],_,_,_=>aW _
 | x::a,b,hn,h=>by
  simp only [pg]at hn;have h1:=MF a (b.erase x) hn.2 (fun y hy=>by
   rw [List.mem_erase_of_ne (fun e=>hn.1 (by rw [←e];exact hy))];exact h y (by simp [hy]))
  have hx:=h x (by simp);have h2:=List.length_erase_of_mem hx;have h3:=List.length_pos_of_mem hx;simp only [List.length_cons];omega
theorem Us{α:Type}[DecidableEq α]{a b:List α}(hn:a.Nodup)(h:∀x∈a,x∈b)(hl:b.length≤a.length):∀x∈b,x∈a:=by
 intro y hy;apply nL;intro EH;have:=MF (y::a) b (by simp [EH,hn]) (fun x hx=>by
  rcases iW.1 hx with rfl | hx
  ·exact hy
  exact h x hx)
 simp at this;omega
def rV(N:Nat)(xss:aiB):Prop:=∀p∈xss,∀x y:Int,0≤x→x<N→0≤y→y<N→gi p x=gi p y→x=y
theorem Reach.range{N:Nat}{xss:aiB}(hs:Sys N xss){y:Int}(h0:0≤x)(h1:x<N)(h:Reach xss x y):0≤y∧y<N:=by
 induction h with
 | refl=>exact⟨h0,h1⟩
 | step _ hp ih=>exact(hs _ hp).2 _ ih.1 ih.2
theorem Nt{N:Nat}{xss:aiB}(hs:Sys N xss)(hi:rV N xss)(h0:0≤x)(h1:x<N){p:List Int}(hp:p∈xss):Reach xss (gi p x) x:=by
 have hy:=(hs p hp).2 x h0 h1;obtain⟨g,_,hm⟩:=vF hs hy.1 hy.2;have key:=Us (a:=(fS N xss (gi p x)).map (gi p)) (b:=fS N xss (gi p x)) (by
  rw [List.nodup_iff_pairwise_ne,qd];refine List.Pairwise.imp_of_mem ?_ g.nodup;intro a b ha hb dO e;exact dO (hi p hp a b (g.range a ha).1 (g.range a ha).2 (g.range b hb).1 (g.range b hb).2 e))
  (fun z hz=>by
    obtain⟨u,hu,rfl⟩:=dh.1 hz;exact(hm _).2 (.step ((hm u).1 hu) hp)) (by simp)
 obtain⟨u,hu,e⟩:=dh.1 (key (gi p x) ((hm _).2 .refl));have:=hi p hp u x (g.range u hu).1 (g.range u hu).2 h0 h1 e;subst this;exact(hm u).1 hu
theorem Reach.symm{N:Nat}{xss:aiB}(hs:Sys N xss)(hi:rV N xss){y:Int}(h0:0≤x)(h1:x<N)(h:Reach xss x y):Reach xss y x:=by
 induction h with
 | refl=>exact .refl
 | step hr hp ih=>
  have hy:=hr.range hs h0 h1;exact(Nt hs hi hy.1 hy.2 hp).trans ih
def pX(L:List Int)(c:Int):List Int→List Int
 | []=>L
 | x::xs=>pX (L.set x.toNat c) c xs
theorem Md:∀(xs L:List Int) (c:Int),(pX L c xs).length=L.length
 | [],_,_=>rfl
 | x::xs,L,c=>by rw [pX,Md xs];simp
theorem x5{N:Nat}:∀(xs L:List Int) (c:Int),L.length=N→(∀x∈xs,0≤x∧x<N)→∀x:Int,0≤x→gi (pX L c xs) x=if x∈xs then c else gi L x
 | [],_,_,_,_,x,_=>by simp [pX]
 | y::xs,L,c,hl,h,x,hx=>by
  have hy:=h y (by simp);rw [pX,x5 xs (L.set y.toNat c) c (by simpa using hl) (fun z hz=>h z (by simp [hz])) x hx,sf hy.1 (by rw [hl];exact hy.2) hx]
  by_cases h1:x∈xs
  ·simp [h1]
  ·rw [ag h1]
   by_cases h2:y=x
   ·subst h2;simp
   ·rw [ag h2,ag];simp only [iW,not_or];exact⟨fun e=>h2 e.symm,h1⟩
def bz(N:Nat)(xss:aiB):Nat→List Int×Int
 | 0=> (List.replicate N (-1),0)
 | i+1=>if 0≤gi (bz N xss i).1 i then bz N xss i else(pX (bz N xss i).1 (bz N xss i).2 (fS N xss i),(bz N xss i).2+1)
theorem zY{N:Nat}{xss:aiB}{i:Nat}(h:¬0≤gi (bz N xss i).1 i):bz N xss (i+1)=(pX (bz N xss i).1 (bz N xss i).2 (fS N xss i),(bz N xss i).2+1):=by
 show(if _ then _ else _)=_;rw [ag h]
theorem CC{N:Nat}{xss:aiB}{i:Nat}(h:0≤gi (bz N xss i).1 i):bz N xss (i+1)=bz N xss i:=by
 show(if _ then _ else _)=_;rw [aj h]
theorem qz(N:Nat)(xss:aiB):∀i,(bz N xss i).1.length=N
 | 0=>by simp [bz]
 | i+1=>by
  simp only [bz]
  split
  ·exact qz N xss i
  ·rw [Md];exact qz N xss i
theorem yz(N:Nat)(xss:aiB):∀i,0≤(bz N xss i).2∧(bz N xss i).2≤i
 | 0=>by simp [bz]
 | i+1=>by
  have:=yz N xss i;simp only [bz]
  split
  ·omega
  ·simp only;omega
theorem zm{N:Nat}{v:Int}(h0:0≤x)(h1:x<N):gi (List.replicate N v) x=v:=by
 simp [gi,cJ,List.getElem?_replicate,show x.toNat<N by omega]
theorem zX{N:Nat}{xss:aiB}(hs:Sys N xss):∀i,i≤N→∀x:Int,0≤x→x<N→(0≤gi (bz N xss i).1 x↔∃j:Nat,j<i∧Reach xss j x)
 | 0,_,x,h0,h1=>by
  simp only [bz,zm h0 h1];constructor
  ·intro h;omega
  ·rintro⟨j,hj,_⟩;omega
 | i+1,hi,x,h0,h1=>by
  have ih:=zX hs i (by omega);have hc:=yz N xss i;have ho:=vF hs (pt:=(i:Int)) (by omega) (by omega);simp only [bz]
  split
  ·rename_i hl;rw [ih x h0 h1];constructor
   ·rintro⟨j,hj,hr⟩;exact⟨j,by omega,hr⟩
   ·rintro⟨j,hj,hr⟩
    by_cases tF:j=i
    ·subst tF;obtain⟨j',kF,fI⟩:=(ih j (by omega) (by omega)).1 hl;exact⟨j',kF,fI.trans hr⟩
    ·exact⟨j,by omega,hr⟩
  ·simp only;rw [x5 _ _ _ (qz N xss i) ho.1.range x h0]
   by_cases hm:x∈fS N xss i
   ·rw [aj hm];exact⟨fun _=> ⟨i,by omega,(ho.2.2 x).1 hm⟩,fun _=>hc.1⟩
   ·rw [ag hm,ih x h0 h1];constructor
    ·rintro⟨j,hj,hr⟩;exact⟨j,by omega,hr⟩
    ·rintro⟨j,hj,hr⟩
     by_cases tF:j=i
     ·subst tF;exact absurd ((ho.2.2 x).2 hr) hm
     ·exact⟨j,by omega,hr⟩
theorem ac6{N:Nat}{xss:aiB}(hs:Sys N xss)(hN:0<N):(bz N xss N).2=1↔∀x:Int,0≤x→x<N→Reach xss 0 x:=by
 have h1:(bz N xss 1).2=1:=by
  have:¬(0:Int)≤gi (bz N xss 0).1 (0:Nat):=by
   rw [show(bz N xss 0).1=List.replicate N (-1) from rfl,zm (by omega) (by omega)];omega
  rw [show(1:Nat)=0+1 from rfl,zY this];rfl
 constructor
 ·intro hc;have mono:∀i j,i≤j→(bz N xss i).2≤(bz N xss j).2:=by
   intro i j gN
   induction j with
   | zero=>
    have:i=0:=by omega
    subst this;omega
   | succ j ih=>
    by_cases e:i=j+1
    ·subst e;omega
    ·have:=ih (by omega);have h2:(bz N xss j).2≤(bz N xss (j+1)).2:=by
      simp only [bz];split
      ·omega
      ·simp only;omega
     omega
  have key:∀i:Nat,i<N→Reach xss 0 (i:Int):=by
   intro i
   induction i using Nat.strongRecOn with
   | _ i ih=>
    intro hi
    by_cases h0:i=0
    ·subst h0;exact .refl
    ·have hl:0≤gi (bz N xss i).1 i:=by
      apply nL;intro hn;have h2:=mono 1 i (by omega);have h3:=mono (i+1) N (by omega);have h4:(bz N xss (i+1)).2=(bz N xss i).2+1:=by rw [zY hn]
      omega
     obtain⟨j,hj,hr⟩:=(zX hs i (by omega) i (by omega) (by omega)).1 hl;exact(ih j hj (by omega)).trans hr
  intro x h0 h2;have:=key x.toNat (by omega);rw [Int.toNat_of_nonneg h0]at this;exact this
 ·intro h;have key:∀i,1≤i→i≤N→(bz N xss i).2=1:=by
   intro i
   induction i with
   | zero=>intro h;omega
   | succ i ih=>
    intro _ hi
    by_cases e:i=0
    ·subst e;exact h1
    ·have hl:=(zX hs i (by omega) i (by omega) (by omega)).2 ⟨0,by omega,h i (by omega) (by omega)⟩;rw [CC hl];exact ih (by omega) (by omega)
  exact key N (by omega) (a8 _)
theorem Ts{N:Nat}{xss:aiB}(hs:Sys N xss)(hN:0<N):(fS N xss 0).length=N↔∀x:Int,0≤x→x<N→Reach xss 0 x:=by
 obtain⟨g,_,hm⟩:=vF hs (pt:=0) (by omega) (by omega);have rA:∀x:Int,x∈(List.range N).map (fun i:Nat=> (i:Int))↔0≤x∧x<N:=by
  intro x;rw [dh];constructor
  ·rintro⟨i,hi,rfl⟩;have:i<N:=by simpa using hi
   omega
  intro h;exact⟨x.toNat,by simp;omega,by omega⟩
 have iD:((List.range N).map (fun i:Nat=> (i:Int))).Nodup:=by
  rw [List.nodup_iff_pairwise_ne,qd];refine List.Pairwise.imp ?_ (List.nodup_iff_pairwise_ne.1 List.nodup_range);intro a b dO;omega
 constructor
 ·intro hl x h0 h1;have:=Us g.nodup (b:=(List.range N).map (fun i:Nat=> (i:Int))) (fun z hz=> (rA z).2 (g.range z hz)) (by simp [hl]) x ((rA x).2 ⟨h0,h1⟩);exact(hm x).1 this
 intro h;have h1:=MF _ (fS N xss 0) iD (fun z hz=>by
  have:=(rA z).1 hz;exact(hm z).2 (h z this.1 this.2))
 have h2:=g.len;simp at h1;omega
structure nM(N:Nat)(xss:aiB)(i c:Int)(L0 L op:List Int)(bx:Int)(k:Nat):Prop where
 len:L.length=N
 o7:∀x:Int,0≤x→x<N→0≤gi L0 x→gi L x=gi L0 x
 new:∀x:Int,0≤x→x<N→gi L0 x<0→gi L x=gi L0 x∨(gi L x=c∧Reach xss i x)
 start:gi L i=c
 xi:∀x∈op,0≤x∧x<N∧gi L0 x<0∧gi L x=c
 vZ:∀x:Int,0≤x→x<N→gi L0 x<0→gi L x=c→x∉op→∀p∈(if x=bx then xss.take k else xss),0≤gi L (gi p x)
section
variable {N:Nat} {xss:aiB} {i c:Int} {L0 L op:List Int} {bx:Int} {k:Nat}
theorem nM.init(hl:L0.length=N)(h0:0≤i)(h1:i<N)(hi:gi L0 i<0)(hc:0≤c):nM N xss i c L0 (L0.set i.toNat c) [i] (-1) 0 where
 len:=by simpa using hl
 o7 x hx _ h:=by
  rw [sf h0 (by rw [hl];exact h1) hx]
  split
  ·rename_i e;subst e;omega
  rfl
 new x hx _ h:=by
  rw [sf h0 (by rw [hl];exact h1) hx]
  split
  ·rename_i e;subst e;exact .inr ⟨rfl,.refl⟩
  exact .inl O
 start:=by rw [sf h0 (by rw [hl];exact h1) h0,aj rfl]
 xi x hx:=by
  simp at hx;subst hx;exact⟨h0,h1,hi,by rw [sf h0 (by rw [hl];exact h1) h0,aj O]⟩
 vZ x hx jf h oq ij:=by
  rw [sf h0 (by rw [hl];exact h1) hx]at oq
  split at oq
  ·rename_i e;subst e;simp at ij
  omega
theorem nM.ae0{x:Int}(h:nM N xss i c L0 L (op++ [x]) (-1) 0):nM N xss i c L0 L op x 0 where
 len:=h.len
 o7:=h.o7
 new:=h.new
 start:=h.start
 xi y hy:=h.xi y (by simp [hy])
 vZ y hy l8 h0 hc ij:=by
  split
  ·simp
  rename_i bt;have:=h.vZ y hy l8 h0 hc (by simp [ij,bt]);rw [ag (by omega)]at this;exact this
theorem nM.rest(h:nM N xss i c L0 L op bx xss.length):nM N xss i c L0 L op (-1) 0 where
 len:=h.len
 o7:=h.o7
 new:=h.new
 start:=h.start
 xi:=h.xi
 vZ y hy l8 h0 hc ij:=by
  rw [ag (by omega)];have:=h.vZ y hy l8 h0 hc ij;rw [List.take_length]at this;simpa using this
theorem nM.skip(h:nM N xss i c L0 L op bx k)(hk:k<xss.length)(hy:0≤gi L (gi (gl xss k) bx)):nM N xss i c L0 L op bx (k+1) where
 len:=h.len
 o7:=h.o7
 new:=h.new
 start:=h.start
 xi:=h.xi
 vZ y l8 abD h0 hc ij p hp:=by
  have:=h.vZ y l8 abD h0 hc ij
  split at hp
  ·rename_i e;rw [aj e]at this;rw [MJ hk,iG]at hp;rcases hp with hp | hp
   ·exact this p hp
   simp at hp;subst hp;subst e;exact hy
  rename_i e;rw [ag e]at this;exact this p hp
theorem nM.push(hs:Sys N xss)(eP:0≤i)(h:nM N xss i c L0 L op bx k)(hk:k<xss.length)(dz:0≤bx)(cN:bx<N)(hb:gi L0 bx<0)(zA:gi L bx=c)(pO:0≤c)(hy:gi L (gi (gl xss k) bx)<0):
 nM N xss i c L0 (L.set (gi (gl xss k) bx).toNat c) (op++ [gi (gl xss k) bx]) bx (k+1):=by
 have lp:gl xss k∈xss:=by rw [db hk];exact dQ _
 have sN:=(hs _ lp).2 bx dz cN;have hg:∀z:Int,0≤z→gi (L.set (gi (gl xss k) bx).toNat c) z=if gi (gl xss k) bx=z then c else gi L z:=fun z hz=>sf sN.1 (by rw [h.len];exact sN.2) hz
 have Qz:Reach xss i bx:=by
  rcases h.new bx dz cN hb with h1 | h1
  ·omega
  exact h1.2
 have Lr:gi L0 (gi (gl xss k) bx)<0:=by
  apply nL;intro hn;have:=h.o7 _ sN.1 sN.2 (by omega);omega
 have pos:∀z:Int,0≤z→0≤gi L z→0≤gi (L.set (gi (gl xss k) bx).toNat c) z:=fun z hz h1=>by
  rw [hg z hz];split<;>omega
 refine⟨by simpa using h.len,fun x hx jf h0=>?_,fun x hx jf h0=>?_,?_,fun x hx=>?_,fun x hx jf h0 hc ij p hp=>?_⟩
 ·rw [hg x hx,ag (fun e=>by subst e;omega)];exact h.o7 x hx jf h0
 ·rw [hg x hx]
  split
  ·rename_i e;subst e;exact .inr ⟨rfl,.step Qz lp⟩
  exact h.new x hx jf h0
 ·rw [hg i eP];split
  ·rfl
  exact h.start
 ·rcases iG.1 hx with hx | hx
  ·have:=h.xi x hx;refine⟨this.1,this.2.1,this.2.2.1,?_⟩;rw [hg x this.1];split
   ·rfl
   exact this.2.2.2
  simp at hx;subst hx;exact⟨sN.1,sN.2,Lr,by rw [hg _ sN.1,aj O]⟩
 have bt:gi (gl xss k) bx≠x:=fun e=>ij (by subst e;simp)
 rw [hg x hx,ag bt]at hc;have aaT:x∉op:=fun hm=>ij (by simp [hm])
 have h1:=h.vZ x hx jf h0 hc aaT
 split at hp
 ·rename_i e;rw [aj e]at h1;rw [MJ hk,iG]at hp;rcases hp with hp | hp
  ·exact pos _ ((hs p (List.mem_of_mem_take hp)).2 x hx jf).1 (h1 p hp)
  simp at hp;subst hp;subst e;rw [hg _ sN.1,aj rfl];exact pO
 rename_i e;rw [ag e]at h1;exact pos _ ((hs p hp).2 x hx jf).1 (h1 p hp)
theorem nM.done(hs:Sys N xss)(hi:rV N xss){j:Nat}(hj:j<N)(yn:¬0≤gi (bz N xss j).1 j)(h:nM N xss j (bz N xss j).2 (bz N xss j).1 L [] (-1) 0):L=(bz N xss (j+1)).1:=by
 have hc:=yz N xss j;have ho:=vF hs (pt:=(j:Int)) (by omega) (by omega);have hm:=zX hs j (by omega);rw [zY yn];apply ji
 ·rw [h.len,Md,qz]
 intro x h1 h2;have hx:x<N:=by rw [←h.len];exact h1
 have e1:=bX (p:=L) (k:=x) h1;have e2:=bX (p:=pX (bz N xss j).1 (bz N xss j).2 (fS N xss j)) (k:=x) h2;rw [←e1];show _=(pX (bz N xss j).1 (bz N xss j).2 (fS N xss j))[x];rw [←e2,x5 _ _ _ (qz N xss j) ho.1.range x (by omega)];have reached:∀y,Reach xss j y→gi (bz N xss j).1 y<0∧gi L y=(bz N xss j).2:=by
  intro y hr
  induction hr with
  | refl=>exact⟨by omega,h.start⟩
  | @step y p hr hp ih=>
   have hy:=hr.range hs (by omega) (by omega);have Hd:=(hs p hp).2 y hy.1 hy.2;have Rn:gi (bz N xss j).1 (gi p y)<0:=by
    apply nL;intro hn;obtain⟨m,hmj,hmr⟩:=(hm _ Hd.1 Hd.2).1 (by omega);have:=(hm y hy.1 hy.2).2 ⟨m,hmj,hmr.trans (Nt hs hi hy.1 hy.2 hp)⟩;omega
   refine⟨Rn,?_⟩;have h3:=h.vZ y hy.1 hy.2 ih.1 ih.2 (by simp) p (by rw [ag (by omega)];exact hp);rcases h.new _ Hd.1 Hd.2 Rn with h4 | h4
   ·omega
   ·exact h4.1
 split
 ·rename_i lp;exact(reached _ ((ho.2.2 _).1 lp)).2
 ·rename_i lp;have Eo:¬Reach xss j x:=fun hr=>lp ((ho.2.2 _).2 hr)
  by_cases h5:0≤gi (bz N xss j).1 x
  ·exact h.o7 x (by omega) (by omega) h5
  ·rcases h.new x (by omega) (by omega) (by omega)with h6 | h6
   ·exact h6
   ·exact absurd h6.2 Eo
end
def sT(L:List Int):Nat:=L.countP (fun x=>decide (x<0))
theorem UJ{L:List Int}{x c:Int}(h0:0≤x)(h1:x<L.length)(hx:gi L x<0)(hc:0≤c):sT (L.set x.toNat c)+1=sT L:=by
 obtain⟨k,rfl⟩:∃k:Nat,x=k:=⟨x.toNat,by omega⟩;have hk:k<L.length:=by omega
 rw [bX hk]at hx;simp only [sT,ir];rw [List.countP_set (h:=hk)];have:0<L.countP (fun x=>decide (x<0)):=List.countP_pos_iff.2 ⟨L[k],dQ _,by simpa using hx⟩;simp [hx,show ¬c<0 by omega];omega
end
section
open Go.RowKit Tryz
theorem St.shrink{w0 w:World}{ks:List Ck}{k:Ck}(h:St w0 w ks)(i:Nat)(hk:ks[i]?=some k)(m:Nat)(hm:m≤k.n)(hM:eH k.vs=false):St w0 w (ks.set i { k with n:=m,vs:=k.vs.take m }):=by
 have zH:=(ia.1 hk).1;refine⟨h.below,fun x hx=>?_,?_⟩
 ·obtain⟨j,hj,rfl⟩:=gJ.1 hx;have kF:j<ks.length:=by simpa using hj
  rw [List.getElem_set]
  split
  ·obtain⟨h1,h2,h3,h4⟩:=h.tp hk hM;refine .rI (Sj m hM) ⟨by simp;omega,by show m≤k.c;omega,h3,?_⟩;rcases h4 with h4 | ⟨g,o,cur,hA,hg,hh,hs,hc⟩
   ·exact .inl h4
   refine .inr ⟨g,o,cur,hA,hg,hh,hs,fun j hj=>?_⟩;have hj:j<m:=hj;show _=(k.vs.take m)[j]?;rw [hc j (by omega),rW,aj hj]
  exact h.own _ (dQ _)
 rw [Gd Ck.ie ks i k { k with n:=m,vs:=k.vs.take m } hk rfl];exact h.apart
theorem St.af2{w0 w:World}{ks:List Ck}{t:TypeId}{A:aiC}{n c:Nat}{xs:List Int}(h:St w0 w ks)(i:Nat)(hk:ks[i]?=some (ah t A n c xs))(m:Nat)(hm:m≤n):St w0 w (ks.set i (ah t A m c (xs.take m))):=by
 have:=h.shrink i hk m hm (tS _);simpa [ah]using this
theorem Xv(op:List Int)(h:0<op.length):∃o x,op=o++ [x]:=⟨op.dropLast,op.getLast (by intro e;simp [e]at h),(List.dropLast_concat_getLast _).symm⟩
theorem Tr(A:aiC)(n c:Nat)(rs:List aG)(xss:aiB)(N:Nat)(w:World)(hR:br w A n rs xss)(hn:n≤9223372036854775807)(hs:Sys N xss)(aav:rV N xss)(hN:N≤1048576):
 aA prog 157 [aiD (N:Int),.slice A n c] w (fun v w'=>∃A',v= .tuple #[.slice A' N N,aiD (bz N xss N).2]∧St w w' [ah 2 A' N N (bz N xss N).1]):=by
 have bW:∀k:Int,0≤k→k<n→(rg rs k).n=N:=fun k uG hk=>by
  rw [←hR.pE uG hk];exact(hs _ (uo uG (by rw [hR.len];exact hk))).1
 refine bk func157 O ntmps157 O (sQ O) (aQ O (dJ (St.refl w) O O O ?_));intro A1 w1 ao;refine ad O (aa.call (Ij A1 1 (-1) N w1 (ao.bc 0 O) hN) O O O ?_);rintro _ w2 ⟨A6,rfl,ar⟩;have ar:=(ao.call2 ar).tail;refine ay O ?_;refine Cd.loop (α:=Nat) (fun i=> [(1,.slice A n c),(6,.slice A6 N N),(7,aiD (bz N xss i).2),(17,aiD (N:Int)),(18,aiD (i:Int))]) (fun i w'=>St w w' [ah 2 A6 N N (bz N xss i).1]∧i≤N) (fun i=>N - i) 0 ⟨O,O,O,O,O,ae⟩ ⟨ar,aW _⟩ ?_;rintro i e w3 ⟨az,hi⟩;have ot:=yz N xss i;refine bK O ?_;refine aB _ O (fun h1=>?_) (fun h1=>?_)
 ·refine av O (aw (az.bc 0 O).2 O O O (by omega) (by omega) (aT (az.bc 0 O) O (by omega) O O (ay O ?_)));refine aB _ O (fun h2=>?_) (fun h2=>?_)
  ·refine av O (aa.add O O O (by omega) (aF O (tQ ?_)));exact⟨i+1,by omega,⟨O,O,by rw [CC h2];rfl,O,O,ae⟩,by rw [CC h2];exact az,by omega⟩
  refine av O (aw (az.bc 0 O).2 O O O (by omega) (by omega) (jR 0 az O O O (by omega) ?_));intro w4 aJ;refine ad O (dJ aJ O O O ?_);intro A9 w5 aK;refine ay O ?_;have aL:sT (bz N xss i).1≤N:=by
   have:=List.countP_le_length (p:=fun x:Int=>decide (x<0)) (l:=(bz N xss i).1);rw [qz]at this;exact this
  have hun1:=UJ (L:=(bz N xss i).1) (x:=i) (c:=(bz N xss i).2) (by omega) (by rw [qz];omega) (by omega) ot.1;refine Cd.loop (α:=List Int×List Int×aiC×Nat) (fun q=> [(1,.slice A n c),(6,.slice A6 N N),(7,aiD (bz N xss i).2),(9,.slice q.2.2.1 q.2.1.length q.2.2.2),(17,aiD (N:Int)),(18,aiD (i:Int))]) (fun q w'=>St w w' [ah 2 q.2.2.1 q.2.1.length q.2.2.2 q.2.1,ah 2 A6 N N q.1]∧nM N xss i (bz N xss i).2 (bz N xss i).1 q.1 q.2.1 (-1) 0∧sT q.1+q.2.1.length≤N) (fun q=>sT q.1+q.2.1.length) ((bz N xss i).1.set (i:Int).toNat (bz N xss i).2,[(i:Int)],A9,1) ⟨O,O,O,O,O,O,ae⟩ ⟨aK,nM.init (qz N xss i) (by omega) (by omega) (by omega) ot.1,by show sT ((bz N xss i).1.set (i:Int).toNat (bz N xss i).2)+1≤N;omega⟩ ?_;rintro⟨L,op,A9,c9⟩ e2 w6 ⟨aR,hD,hu⟩;dsimp only at aR hD hu⊢;refine aQ O (aa.len O O (ay O ?_));refine aB _ O (fun h3=>?_) (fun h3=>?_)
  ·obtain⟨o,x,rfl⟩:=Xv op (by omega);have Ru:(o++ [x]).length=o.length+1:=by simp
   have hx:gi (o++ [x]) (((o++ [x]).length:Int) - 1)=x:=by
    rw [show(((o++ [x]).length:Nat):Int) - 1=((o.length:Nat):Int) by omega,bX (by omega)];simp
   have uO:=hD.xi x (by simp);refine av O (aa.len O O (aa.sub O O O (by omega) ?_));refine aw (aR.bc 0 O).2 O O O (by omega) (by omega) (aT (aR.bc 0 O) O (by omega) O O ?_);rw [hx];refine ad O (aa.len O O (aa.sub O O O (by omega) ?_));refine Ic O O O (by have:=(aR.cap 0 O).1;dsimp only at this;omega) ?_;have aV:=aR.af2 0 O o.length (by omega);rw [List.take_left]at aV;rw [show(((o++ [x]).length:Nat):Int) - 1=((o.length:Nat):Int) by omega,ir];refine ad O (aa.len O O (ay O ?_));refine Cd.loop (α:=Nat×List Int×List Int×aiC×Nat) (fun q=> [(1,.slice A n c),(6,.slice A6 N N),(7,aiD (bz N xss i).2),(9,.slice q.2.2.2.1 q.2.2.1.length q.2.2.2.2),(10,aiD x),(17,aiD (N:Int)),(18,aiD (i:Int)),(46,.slice A n c),(47,aiD (n:Int)),(48,aiD (q.1:Int))]) (fun q w'=>St w w' [ah 2 q.2.2.2.1 q.2.2.1.length q.2.2.2.2 q.2.2.1,ah 2 A6 N N q.2.1]∧nM N xss i (bz N xss i).2 (bz N xss i).1 q.2.1 q.2.2.1 x q.1∧q.1≤n∧gi q.2.1 x=(bz N xss i).2∧sT q.2.1+q.2.2.1.length=sT L+o.length) (fun q=>n - q.1) (0,L,o,A9,c9) ⟨O,O,O,O,O,O,O,O,O,O,ae⟩ ⟨aV,hD.ae0,aW _,uO.2.2.2,O⟩ ?_;rintro⟨k,L',o',A',c'⟩ e3 w8 ⟨bA,BO,hk,wW,R2⟩;dsimp only at bA BO hk wW R2⊢;refine bK O ?_;refine aB _ O (fun h4=>?_) (fun h4=>?_)
   ·have hM:=bA.bF hR;have cj:=hM.at_ (i:=k) (by omega) h4;have jL:=bW k (by omega) h4;have lp:gl xss k∈xss:=uo (by omega) (by rw [hR.len];exact h4);have hy:=(hs _ lp).2 x uO.1 uO.2.1;refine av O (aw hM.top.2 O O O (by omega) h4 (bQ hM.top O (by omega) O O (ad O (aw cj.2 O O O (by omega) (by omega) (aT cj O (by omega) O O (ad O (aw (bA.bc 1 O).2 O O O (by omega) (by omega) (aT (bA.bc 1 O) O (by omega) O O (ay O ?_)))))))));refine aB _ O (fun h5=>?_) (fun h5=>?_)
    ·refine av O (aw (bA.bc 1 O).2 O O O (by omega) (by omega) (jR 1 bA O O O (by omega) ?_));intro w9 aS;refine ad O (dJ aS O O O ?_);intro a6 dB bD;refine eK 1 bD O (bD.bc 0 O) O O O (by omega) (by omega) O ?_;intro df gq eu du;refine ad O (aa.add O O O (by omega) (aF O (tQ ?_)));have hu9:=UJ (L:=L') (x:=gi (gl xss k) x) (c:=(bz N xss i).2) hy.1 (by rw [BO.len];exact hy.2) h5 ot.1;refine⟨(k+1,L'.set (gi (gl xss k) x).toNat (bz N xss i).2,o'++ [gi (gl xss k) x],df,gq),by show n - (k+1)<n - k;omega,⟨O,O,O,by rw [dm];rfl,O,O,O,O,O,O,ae⟩,?_,BO.push hs (by omega) (by rw [hR.len];omega) uO.1 uO.2.1 uO.2.2.1 wW ot.1 h5,by show k+1≤n;omega,?_,?_⟩
     ·have uq:=du.tail;simp only [dm,List.length_singleton];exact uq
     ·show gi (L'.set _ _) x=_;rw [sf hy.1 (by rw [BO.len];exact hy.2) uO.1]
      split
      ·rfl
      exact wW
     show sT (L'.set _ _)+ (o'++ [_]).length=_;simp only [dm,List.length_singleton];omega
    refine av O (aa.add O O O (by omega) (aF O (tQ ?_)));exact⟨(k+1,L',o',A',c'),by show n - (k+1)<n - k;omega,⟨O,O,O,O,O,O,O,O,O,O,ae⟩,bA,BO.skip (by rw [hR.len];omega) (by omega),by show k+1≤n;omega,wW,R2⟩
   refine aY O (aZ (C8 O (tQ ?_)));have fM:k=xss.length:=by rw [hR.len];omega
   subst fM;exact⟨(L',o',A',c'),by show sT L'+o'.length<sT L+ (o++ [x]).length;omega,⟨O,O,O,O,O,O,ae⟩,bA,BO.rest,by show sT L'+o'.length≤N;omega⟩
  have ry:op=[]:=s7 (by omega);subst ry;have hL:=hD.done hs aav (by omega) h2;refine aY O (aZ (cL O (aa.add O O O (by omega) (ad O (aa.add O O O (by omega) (aF O (tQ ?_)))))));refine⟨i+1,by omega,⟨O,O,by rw [zY h2];rfl,O,O,ae⟩,?_,by omega⟩;rw [←hL];exact aR.tail
 refine aY O (aZ (gE O ?_));refine Aq O O ?_;have:i=N:=by omega
 subst this;exact⟨A6,O,az⟩
def Comm(xss:aiB)(i k f:Nat):Prop:=gi (gl xss k) (gi (gl xss i) f)=gi (gl xss i) (gi (gl xss k) f)∧gi (gl xss i) f≠gi (gl xss k) f
instance (xss:aiB)(i k f:Nat):Decidable (Comm xss i k f):=by unfold Comm;exact inferInstance
def vf(xss:aiB):Prop:=∀p∈xss,p.length=(gl xss 0).length∧kE p∧oG p
instance (xss:aiB):Decidable (vf xss):=by unfold vf;exact inferInstance
def bL(xss:aiB):Prop:=(1≤xss.length∧xss.length≤5)∧(2≤(gl xss 0).length∧(gl xss 0).length≤400)∧vf xss∧(∀i,i<xss.length→∀k,k<xss.length→i+2≤k→∀f,f< (gl xss 0).length→Comm xss i k f)∧(fS (gl xss 0).length xss 0).length=(gl xss 0).length
instance (xss:aiB):Decidable (bL xss):=by unfold bL;exact inferInstance
theorem kE.inj{p:List Int}(h:kE p){x y:Int}(hx:0≤x)(jf:x<p.length)(hy:0≤y)(l8:y<p.length)(e:gi p x=gi p y):x=y:=by
 obtain⟨a,rfl⟩:∃a:Nat,x=a:=⟨x.toNat,by omega⟩;obtain⟨b,rfl⟩:∃b:Nat,y=b:=⟨y.toNat,by omega⟩;rw [bX (by omega),bX (by omega)]at e;have:=(List.getElem_inj (h₀:=by omega) (h₁:=by omega) h.2.2).1 e;omega
theorem vf.sys{xss:aiB}(h:vf xss):Sys (gl xss 0).length xss:=fun p hp=>by
 have h1:=h p hp;refine⟨h1.1,fun x h0 hx=>?_⟩;have:=h1.2.1.range (i:=x) h0 (by omega);omega
theorem vf.inj{xss:aiB}(h:vf xss):rV (gl xss 0).length xss:=fun p hp x y hx jf hy l8 e=>by
 have h1:=h p hp;exact h1.2.1.inj hx (by omega) hy (by omega) e
def Part(xss:aiB)(k:Nat):Prop:=∀p∈xss.take k,p.length=(gl xss 0).length∧kE p∧oG p
theorem Part.step{xss:aiB}{k:Nat}(h:Part xss k)(hk:k<xss.length)(h1:(gl xss k).length=(gl xss 0).length)(h2:kE (gl xss k))(h3:oG (gl xss k)):Part xss (k+1):=by
 intro p hp;rw [MJ hk,iG]at hp;rcases hp with hp | hp
 ·exact h p hp
 simp at hp;subst hp;exact⟨h1,h2,h3⟩
theorem Part.all{xss:aiB}{k:Nat}(h:Part xss k)(hk:xss.length≤k):vf xss:=by
 intro p hp;refine h p ?_;rw [lS hk];exact hp
theorem vf.at_{xss:aiB}(h:vf xss){k:Nat}(hk:k<xss.length):(gl xss k).length=(gl xss 0).length∧kE (gl xss k)∧oG (gl xss k):=h _ (by rw [db hk];exact dQ _)
theorem LF(A:aiC)(n c:Nat)(rs:List aG)(xss:aiB)(w:World)(hR:br w A n rs xss)(hn:n≤9223372036854775807):
 aA prog 110 [.agg #[.slice A n c]] w (fun v w'=>v= .bool (decide (bL xss))∧St w w' []):=by
 have dA:=hR.len;have r0:0<n→(gl xss 0).length=(rg rs 0).n:=fun h=>hR.pE (by omega) (by omega)
 refine bk func110 O ntmps110 O (cK O) (aQ O (iI (St.refl w) O O ?_));intro Ab w1 hS;refine ad O (aH (hS.rd 0 O) O O O O inferInstance (aM (hS.rd 0 O) O O O O O ?_));refine aa.len O O (ad O ?_);refine bY 13 O (fun h1=>?_) (fun h1=>?_)
 ·refine ai O O O O O (ai O O O O O (ad O (ai O O O O O (ai O O O O O (ai O O O O O (ai O O O O O (ai O O O O O (ai O O O O O (ad O (ai O O O O O (ai O O O O O ?_)))))))))));refine ai O O O O O (ai O O O O O (ai O O O O O (ai O O O O O (ay O ?_))));refine Cd.gj O (dN O (cM O ?_));exact⟨by rw [cd (fun h:bL xss=>by have:=h.1.1;omega)],hS.none⟩
 refine aa.g O O O (ad O (aa.g O O O (ad O ?_)));refine bY 17 O (fun h2=>?_) (fun h2=>?_)
 ·refine ai O O O O O (ai O O O O O (ai O O O O O (ai O O O O O (ai O O O O O (ai O O O O O (ad O (ai O O O O O (ai O O O O O (ai O O O O O (ai O O O O O (ai O O O O O ?_)))))))))));refine ai O O O O O (ay O ?_);refine Cd.gj O (dN O (cM O ?_));exact⟨by rw [cd (fun h:bL xss=>by have:=h.1.2;omega)],hS.none⟩
 have hM:=hS.bF hR;have r0:=r0 (by omega);refine aa.g O O O (aH (hS.rd 0 O) O O O O inferInstance (aa.g O O O (aM (hS.rd 0 O) O O O O O (aa.g O O O (aw hM.top.2 O O O (by omega) (by omega) (aa.g O O O (bQ hM.top O (by omega) O O ?_)))))));refine aa.g O O O (aa.len O O (aa.g O O O (ad O ?_)));refine bY 25 O (fun h3=>?_) (fun h3=>?_)
 ·refine ai O O O O O (ai O O O O O (ai O O O O O (ai O O O O O (ai O O O O O (ai O O O O O (ay O ?_))))));refine Cd.gj O (dN O (cM O ?_));exact⟨by rw [cd (fun h:bL xss=>by have:=h.2.1.1;omega)],hS.none⟩
 refine aa.g O O O (aH (hS.rd 0 O) O O O O inferInstance (aa.g O O O (aM (hS.rd 0 O) O O O O O (aa.g O O O (aw hM.top.2 O O O (by omega) (by omega) (aa.g O O O (bQ hM.top O (by omega) O O ?_)))))));refine aa.g O O O (aa.len O O (aa.g O O O (ay O ?_)));refine aB _ O (fun h4=>?_) (fun h4=>?_)
 ·refine dN O (cM O ?_);exact⟨by rw [cd (fun h:bL xss=>by have:=h.2.1.2;omega)],hS.none⟩
 refine bP O ?_;refine Cd.loop (α:=Nat) (fun k=> [(1,.pointer Ab),(3,aiD (n:Int)),(4,aiD (k:Int))]) (fun k w'=>St w w' [Bx 24 1 Ab [.slice A n c]]∧k≤n∧Part xss k) (fun k=>n - k) 0 ⟨O,O,O,ae⟩ ⟨hS,aW _,fun p hp=>by simp at hp⟩ ?_;rintro k e w2 ⟨ar,hk,hP⟩;have hM:=ar.bF hR;have hB:=ar.rd 0 O;refine bK O ?_;refine aB _ O (fun h5=>?_) (fun h5=>?_)
 ·have oZ:k<xss.length:=by omega
  have rk:=hR.pE (k:=(k:Int)) (by omega) (by omega);have cj:=hM.at_ (i:=k) (by omega) h5;refine bP O ?_
  by_cases h6:((rg rs k).n:Int)=(rg rs 0).n
  ·by_cases h7:kE (gl xss k)
   ·by_cases h8:oG (gl xss k)
    ·
     refine dI [xP (aq (Ab) 0),xS (A) (n) (c),xI ((k:Int)),xP (aq (A) ((k:Int)).toNat),xS ((rg (rs) ((k:Int))).a) ((rg (rs) ((k:Int))).n) ((rg (rs) ((k:Int))).c),xI ((((rg (rs) ((k:Int))).n:Nat):Int)),xP (aq (Ab) 0),xS (A) (n) (c),xP (aq (A) ((0:Int)).toNat),xS ((rg (rs) ((0:Int))).a) ((rg (rs) ((0:Int))).n) ((rg (rs) ((0:Int))).c),xI ((((rg (rs) ((0:Int))).n:Nat):Int)),xB (false),xB (false),xP (aq (Ab) 0),xS (A) (n) (c),xI ((k:Int)),xP (aq (A) ((k:Int)).toNat),xS ((rg (rs) ((k:Int))).a) ((rg (rs) ((k:Int))).n) ((rg (rs) ((k:Int))).c),xB (decide (kE (gl xss k))),xB (false),xB (false),xB (false),xP (aq (Ab) 0),xS (A) (n) (c),xI ((k:Int)),xP (aq (A) ((k:Int)).toNat),xS ((rg (rs) ((k:Int))).a) ((rg (rs) ((k:Int))).n) ((rg (rs) ((k:Int))).c),xB (decide (oG (gl xss k))),xB (false),xB (false)] (by kernel_rfl) (by kernel_rfl) O (eg O) ?_ ?_
     ·refine⟨fun _ _ hb _ _=>aH (hB.below hb) O O O O inferInstance (Az O),fun _ _ hb _ _=>aM (hB.below hb) O O O O O (Az O),Dr O,fun _ _ hb _ _=>aw (hM.top.later hb).2 O O O (by omega) (by omega) (Az O),fun _ _ hb _ _=>bQ (hM.top.later hb) O (by omega) O O (Az O),fun _ _ _ _ _=>aa.len O O (Az O),fun _ _ hb _ _=>aH (hB.below hb) O O O O inferInstance (Az O),fun _ _ hb _ _=>aM (hB.below hb) O O O O O (Az O),fun _ _ hb _ _=>aw (hM.top.later hb).2 O O O (by omega) (by omega) (Az O),fun _ _ hb _ _=>bQ (hM.top.later hb) O (by omega) O O (Az O),fun _ _ _ _ _=>aa.len O O (Az O),fun _ _ _ _ _=>Dk O (by exact ax Value.bool (cd (by omega))),Dr O,fun _ _ hb _ _=>aa.g O O O (aH (hB.below hb) O O O O inferInstance (Az O)),fun _ _ hb _ _=>aa.g O O O (aM (hB.below hb) O O O O O (Az O)),Dr O,fun _ _ hb _ _=>aa.g O O O (aw (hM.top.later hb).2 O O O (by omega) (by omega) (Az O)),fun _ _ hb _ _=>aa.g O O O (bQ (hM.top.later hb) O (by omega) O O (Az O)),?_,fun _ _ _ _ _=>aa.g O O O (eC O O (Az (by exact ax Value.bool (cd (fun h=>h h7))))),Dr O,Dr O,fun _ _ hb _ _=>aa.g O O O (aH (hB.below hb) O O O O inferInstance (Az O)),fun _ _ hb _ _=>aa.g O O O (aM (hB.below hb) O O O O O (Az O)),Dr O,fun _ _ hb _ _=>aa.g O O O (aw (hM.top.later hb).2 O O O (by omega) (by omega) (Az O)),fun _ _ hb _ _=>aa.g O O O (bQ (hM.top.later hb) O (by omega) O O (Az O)),?_,fun _ _ _ _ _=>aa.g O O O (eC O O (Az (by exact ax Value.bool (cd (fun h=>h h8))))),Dr O,ae⟩
      ·intro e1 w1 hb hp aL;refine aa.g O O O (aa.call (LD _ _ _ _ _ (cj.later hb)) O O O ?_);rintro _ w2 ⟨rfl,ak⟩;refine aa.n ?_;exact gD.dn ak.below (by exact O)
      intro e1 w1 hb hp aL;refine aa.g O O O (aa.call (Sy _ _ _ _ _ (cj.later hb) h7) O O O ?_);rintro _ w2 ⟨rfl,ak⟩;subst ak;refine aa.n (d0 (by exact O))
     intro u w3 gu _;have az:=ar.later gu;refine eo O (Cd.eV O ?_);refine av O (aa.add O O O (by omega) (aF O (tQ ?_)));exact⟨k+1,by omega,⟨O,O,O,ae⟩,az,by omega,hP.step oZ (by omega) h7 h8⟩
    refine dI [xP (aq (Ab) 0),xS (A) (n) (c),xI ((k:Int)),xP (aq (A) ((k:Int)).toNat),xS ((rg (rs) ((k:Int))).a) ((rg (rs) ((k:Int))).n) ((rg (rs) ((k:Int))).c),xI ((((rg (rs) ((k:Int))).n:Nat):Int)),xP (aq (Ab) 0),xS (A) (n) (c),xP (aq (A) ((0:Int)).toNat),xS ((rg (rs) ((0:Int))).a) ((rg (rs) ((0:Int))).n) ((rg (rs) ((0:Int))).c),xI ((((rg (rs) ((0:Int))).n:Nat):Int)),xB (false),xB (false),xP (aq (Ab) 0),xS (A) (n) (c),xI ((k:Int)),xP (aq (A) ((k:Int)).toNat),xS ((rg (rs) ((k:Int))).a) ((rg (rs) ((k:Int))).n) ((rg (rs) ((k:Int))).c),xB (decide (kE (gl xss k))),xB (false),xB (false),xB (false),xP (aq (Ab) 0),xS (A) (n) (c),xI ((k:Int)),xP (aq (A) ((k:Int)).toNat),xS ((rg (rs) ((k:Int))).a) ((rg (rs) ((k:Int))).n) ((rg (rs) ((k:Int))).c),xB (decide (oG (gl xss k))),xB (true),xB (true)] (by kernel_rfl) (by kernel_rfl) O (eg O) ?_ ?_
    ·refine⟨fun _ _ hb _ _=>aH (hB.below hb) O O O O inferInstance (Az O),fun _ _ hb _ _=>aM (hB.below hb) O O O O O (Az O),Dr O,fun _ _ hb _ _=>aw (hM.top.later hb).2 O O O (by omega) (by omega) (Az O),fun _ _ hb _ _=>bQ (hM.top.later hb) O (by omega) O O (Az O),fun _ _ _ _ _=>aa.len O O (Az O),fun _ _ hb _ _=>aH (hB.below hb) O O O O inferInstance (Az O),fun _ _ hb _ _=>aM (hB.below hb) O O O O O (Az O),fun _ _ hb _ _=>aw (hM.top.later hb).2 O O O (by omega) (by omega) (Az O),fun _ _ hb _ _=>bQ (hM.top.later hb) O (by omega) O O (Az O),fun _ _ _ _ _=>aa.len O O (Az O),fun _ _ _ _ _=>Dk O (by exact ax Value.bool (cd (by omega))),Dr O,fun _ _ hb _ _=>aa.g O O O (aH (hB.below hb) O O O O inferInstance (Az O)),fun _ _ hb _ _=>aa.g O O O (aM (hB.below hb) O O O O O (Az O)),Dr O,fun _ _ hb _ _=>aa.g O O O (aw (hM.top.later hb).2 O O O (by omega) (by omega) (Az O)),fun _ _ hb _ _=>aa.g O O O (bQ (hM.top.later hb) O (by omega) O O (Az O)),?_,fun _ _ _ _ _=>aa.g O O O (eC O O (Az (by exact ax Value.bool (cd (fun h=>h h7))))),Dr O,Dr O,fun _ _ hb _ _=>aa.g O O O (aH (hB.below hb) O O O O inferInstance (Az O)),fun _ _ hb _ _=>aa.g O O O (aM (hB.below hb) O O O O O (Az O)),Dr O,fun _ _ hb _ _=>aa.g O O O (aw (hM.top.later hb).2 O O O (by omega) (by omega) (Az O)),fun _ _ hb _ _=>aa.g O O O (bQ (hM.top.later hb) O (by omega) O O (Az O)),?_,fun _ _ _ _ _=>aa.g O O O (eC O O (Az (by exact ax Value.bool (dX h8)))),Dr O,ae⟩
     ·intro e1 w1 hb hp aL;refine aa.g O O O (aa.call (LD _ _ _ _ _ (cj.later hb)) O O O ?_);rintro _ w2 ⟨rfl,ak⟩;refine aa.n ?_;exact gD.dn ak.below (by exact O)
     intro e1 w1 hb hp aL;refine aa.g O O O (aa.call (Sy _ _ _ _ _ (cj.later hb) h7) O O O ?_);rintro _ w2 ⟨rfl,ak⟩;subst ak;refine aa.n (d0 (by exact O))
    intro u w3 gu _;have az:=ar.later gu;refine eo O (Cd.gj O ?_);refine dN O (eZ (eE ?_));refine cM O ?_;exact⟨by rw [cd (fun h:bL xss=>h8 (h.2.2.1.at_ oZ).2.2)],az.none⟩
   refine dI [xP (aq (Ab) 0),xS (A) (n) (c),xI ((k:Int)),xP (aq (A) ((k:Int)).toNat),xS ((rg (rs) ((k:Int))).a) ((rg (rs) ((k:Int))).n) ((rg (rs) ((k:Int))).c),xI ((((rg (rs) ((k:Int))).n:Nat):Int)),xP (aq (Ab) 0),xS (A) (n) (c),xP (aq (A) ((0:Int)).toNat),xS ((rg (rs) ((0:Int))).a) ((rg (rs) ((0:Int))).n) ((rg (rs) ((0:Int))).c),xI ((((rg (rs) ((0:Int))).n:Nat):Int)),xB (false),xB (false),xP (aq (Ab) 0),xS (A) (n) (c),xI ((k:Int)),xP (aq (A) ((k:Int)).toNat),xS ((rg (rs) ((k:Int))).a) ((rg (rs) ((k:Int))).n) ((rg (rs) ((k:Int))).c),xB (decide (kE (gl xss k))),xB (true),xB (true),xB (true),xU,xU,xU,xU,xU,xU,xU,xB (true)] (by kernel_rfl) (by kernel_rfl) O (eg O) ?_ ?_
   ·refine⟨fun _ _ hb _ _=>aH (hB.below hb) O O O O inferInstance (Az O),fun _ _ hb _ _=>aM (hB.below hb) O O O O O (Az O),Dr O,fun _ _ hb _ _=>aw (hM.top.later hb).2 O O O (by omega) (by omega) (Az O),fun _ _ hb _ _=>bQ (hM.top.later hb) O (by omega) O O (Az O),fun _ _ _ _ _=>aa.len O O (Az O),fun _ _ hb _ _=>aH (hB.below hb) O O O O inferInstance (Az O),fun _ _ hb _ _=>aM (hB.below hb) O O O O O (Az O),fun _ _ hb _ _=>aw (hM.top.later hb).2 O O O (by omega) (by omega) (Az O),fun _ _ hb _ _=>bQ (hM.top.later hb) O (by omega) O O (Az O),fun _ _ _ _ _=>aa.len O O (Az O),fun _ _ _ _ _=>Dk O (by exact ax Value.bool (cd (by omega))),Dr O,fun _ _ hb _ _=>aa.g O O O (aH (hB.below hb) O O O O inferInstance (Az O)),fun _ _ hb _ _=>aa.g O O O (aM (hB.below hb) O O O O O (Az O)),Dr O,fun _ _ hb _ _=>aa.g O O O (aw (hM.top.later hb).2 O O O (by omega) (by omega) (Az O)),fun _ _ hb _ _=>aa.g O O O (bQ (hM.top.later hb) O (by omega) O O (Az O)),?_,fun _ _ _ _ _=>aa.g O O O (eC O O (Az (by exact ax Value.bool (dX h7)))),Dr O,Dr O,Dr O,Dr O,Dr O,Dr O,Dr O,Dr O,Dr O,Dr O,ae⟩;intro e1 w1 hb hp aL;refine aa.g O O O (aa.call (LD _ _ _ _ _ (cj.later hb)) O O O ?_);rintro _ w2 ⟨rfl,ak⟩;refine aa.n ?_;exact gD.dn ak.below (by exact O)
   intro u w3 gu _;have az:=ar.later gu;refine eo O (Cd.gj O ?_);refine dN O (eZ (eE ?_));refine cM O ?_;exact⟨by rw [cd (fun h:bL xss=>h7 (h.2.2.1.at_ oZ).2.1)],az.none⟩
  refine dI [xP (aq (Ab) 0),xS (A) (n) (c),xI ((k:Int)),xP (aq (A) ((k:Int)).toNat),xS ((rg (rs) ((k:Int))).a) ((rg (rs) ((k:Int))).n) ((rg (rs) ((k:Int))).c),xI ((((rg (rs) ((k:Int))).n:Nat):Int)),xP (aq (Ab) 0),xS (A) (n) (c),xP (aq (A) ((0:Int)).toNat),xS ((rg (rs) ((0:Int))).a) ((rg (rs) ((0:Int))).n) ((rg (rs) ((0:Int))).c),xI ((((rg (rs) ((0:Int))).n:Nat):Int)),xB (true),xB (true),xU,xU,xU,xU,xU,xU,xU,xB (true),xB (true),xU,xU,xU,xU,xU,xU,xU,xB (true)] (by kernel_rfl) (by kernel_rfl) O (eg O) ?_ ?_
  ·exact⟨fun _ _ hb _ _=>aH (hB.below hb) O O O O inferInstance (Az O),fun _ _ hb _ _=>aM (hB.below hb) O O O O O (Az O),Dr O,fun _ _ hb _ _=>aw (hM.top.later hb).2 O O O (by omega) (by omega) (Az O),fun _ _ hb _ _=>bQ (hM.top.later hb) O (by omega) O O (Az O),fun _ _ _ _ _=>aa.len O O (Az O),fun _ _ hb _ _=>aH (hB.below hb) O O O O inferInstance (Az O),fun _ _ hb _ _=>aM (hB.below hb) O O O O O (Az O),fun _ _ hb _ _=>aw (hM.top.later hb).2 O O O (by omega) (by omega) (Az O),fun _ _ hb _ _=>bQ (hM.top.later hb) O (by omega) O O (Az O),fun _ _ _ _ _=>aa.len O O (Az O),fun _ _ _ _ _=>Dk O (by exact ax Value.bool (dX h6)),Dr O,Dr O,Dr O,Dr O,Dr O,Dr O,Dr O,Dr O,Dr O,Dr O,Dr O,Dr O,Dr O,Dr O,Dr O,Dr O,Dr O,Dr O,ae⟩
  intro u w3 gu _;have az:=ar.later gu;refine eo O (Cd.gj O ?_);refine dN O (eZ (eE ?_));refine cM O ?_;exact⟨by rw [cd (fun h:bL xss=>by have:=(h.2.2.1.at_ oZ).1;omega)],az.none⟩
 have kG:=hP.all (by omega);have hs:=kG.sys;have jL:∀i:Int,0≤i→i<n→(rg rs i).n=(rg rs 0).n:=fun i h0 h1=>by
  have e1:=hR.pE h0 h1;have e2:=(kG _ (uo h0 (by omega))).1;omega
 refine aY O (aZ (nN O ?_));refine Cd.loop (α:=Nat) (fun i=> [(1,.pointer Ab),(3,aiD (n:Int)),(5,aiD (i:Int))]) (fun i w'=>St w w' [Bx 24 1 Ab [.slice A n c]]∧i≤n∧∀i',i'<i→∀k,k<n→i'+2≤k→∀f,f< (gl xss 0).length→Comm xss i' k f) (fun i=>n - i) 0 ⟨O,O,O,ae⟩ ⟨ar,aW _,fun i' dT=>by omega⟩ ?_;rintro i e w3 ⟨az,hi,hC⟩;refine bK O ?_;refine aB _ O (fun h6=>?_) (fun h6=>?_)
 ·refine av O (aa.add O O O (by omega) (ay O ?_));refine Cd.loop (α:=Nat) (fun k=> [(1,.pointer Ab),(3,aiD (n:Int)),(5,aiD (i:Int)),(6,aiD (k:Int))]) (fun k w'=>St w w' [Bx 24 1 Ab [.slice A n c]]∧i+2≤k∧∀k',k'<k→k'<n→i+2≤k'→∀f,f< (gl xss 0).length→Comm xss i k' f) (fun k=>n+1 - k) (i+2) ⟨O,O,O,O,ae⟩ ⟨az,a8 _,fun k' _ _ _=>by omega⟩ ?_;rintro k e w4 ⟨aJ,nD,DN⟩;refine bK O ?_;refine aB _ O (fun h7=>?_) (fun h7=>?_)
  ·have rki:=jL i (by omega) h6;have rkk:=jL k (by omega) h7;refine bP O ?_;refine Cd.loop (α:=Nat) (fun f=> [(1,.pointer Ab),(3,aiD (n:Int)),(5,aiD (i:Int)),(6,aiD (k:Int)),(7,aiD (f:Int))]) (fun f w'=>St w w' [Bx 24 1 Ab [.slice A n c]]∧f≤(gl xss 0).length∧∀f',f'<f→Comm xss i k f') (fun f=> (gl xss 0).length - f) 0 ⟨O,O,O,O,O,ae⟩ ⟨aJ,aW _,fun f' lJ=>by omega⟩ ?_;rintro f e w5 ⟨aK,hf,DO⟩;have hM:=aK.bF hR;have hB:=aK.rd 0 O;have fu:=hM.at_ (i:=i) (by omega) h6;have jv:=hM.at_ (i:=k) (by omega) h7;refine aQ O (aH (aK.rd 0 O) O O O O inferInstance (aM (aK.rd 0 O) O O O O O (aw hM.top.2 O O O (by omega) (by omega) (bQ hM.top O (by omega) O O ?_))));refine aa.len O O (ay O ?_);refine aB _ O (fun h8=>?_) (fun h8=>?_)
   ·have hii:=(hs _ (uo (k:=(i:Int)) (by omega) (by omega))).2 (f:Int) (by omega) (by omega);have dw:=(hs _ (uo (k:=(k:Int)) (by omega) (by omega))).2 (f:Int) (by omega) (by omega);refine bP O ?_
    by_cases h9:gi (gl xss k) (gi (gl xss i) f)=gi (gl xss i) (gi (gl xss k) f)
    ·by_cases gU:gi (gl xss i) f=gi (gl xss k) f
     ·
      refine dI [xP (aq (Ab) 0),xS (A) (n) (c),xI ((k:Int)),xP (aq (A) ((k:Int)).toNat),xS ((rg (rs) ((k:Int))).a) ((rg (rs) ((k:Int))).n) ((rg (rs) ((k:Int))).c),xP (aq (Ab) 0),xS (A) (n) (c),xI ((i:Int)),xP (aq (A) ((i:Int)).toNat),xS ((rg (rs) ((i:Int))).a) ((rg (rs) ((i:Int))).n) ((rg (rs) ((i:Int))).c),xI ((f:Int)),xP (aq ((rg (rs) ((i:Int))).a) ((f:Int)).toNat),xI (gi (gl xss i) ((f:Int))),xP (aq ((rg (rs) ((k:Int))).a) (gi (gl xss i) ((f:Int))).toNat),xI (gi (gl xss k) (gi (gl xss i) ((f:Int)))),xP (aq (Ab) 0),xS (A) (n) (c),xI ((i:Int)),xP (aq (A) ((i:Int)).toNat),xS ((rg (rs) ((i:Int))).a) ((rg (rs) ((i:Int))).n) ((rg (rs) ((i:Int))).c),xP (aq (Ab) 0),xS (A) (n) (c),xI ((k:Int)),xP (aq (A) ((k:Int)).toNat),xS ((rg (rs) ((k:Int))).a) ((rg (rs) ((k:Int))).n) ((rg (rs) ((k:Int))).c),xI ((f:Int)),xP (aq ((rg (rs) ((k:Int))).a) ((f:Int)).toNat),xI (gi (gl xss k) ((f:Int))),xP (aq ((rg (rs) ((i:Int))).a) (gi (gl xss k) ((f:Int))).toNat),xI (gi (gl xss i) (gi (gl xss k) ((f:Int)))),xB (false),xB (false),xP (aq (Ab) 0),xS (A) (n) (c),xI ((i:Int)),xP (aq (A) ((i:Int)).toNat),xS ((rg (rs) ((i:Int))).a) ((rg (rs) ((i:Int))).n) ((rg (rs) ((i:Int))).c),xI ((f:Int)),xP (aq ((rg (rs) ((i:Int))).a) ((f:Int)).toNat),xI (gi (gl xss i) ((f:Int))),xP (aq (Ab) 0),xS (A) (n) (c),xI ((k:Int)),xP (aq (A) ((k:Int)).toNat),xS ((rg (rs) ((k:Int))).a) ((rg (rs) ((k:Int))).n) ((rg (rs) ((k:Int))).c),xI ((f:Int)),xP (aq ((rg (rs) ((k:Int))).a) ((f:Int)).toNat),xI (gi (gl xss k) ((f:Int))),xB (true),xB (true)] (by kernel_rfl) (by kernel_rfl) O (eg O) ?_ ?_
      ·exact⟨fun _ _ hb _ _=>aH (hB.below hb) O O O O inferInstance (Az O),fun _ _ hb _ _=>aM (hB.below hb) O O O O O (Az O),Dr O,fun _ _ hb _ _=>aw (hM.top.later hb).2 O O O (by omega) (by omega) (Az O),fun _ _ hb _ _=>bQ (hM.top.later hb) O (by omega) O O (Az O),fun _ _ hb _ _=>aH (hB.below hb) O O O O inferInstance (Az O),fun _ _ hb _ _=>aM (hB.below hb) O O O O O (Az O),Dr O,fun _ _ hb _ _=>aw (hM.top.later hb).2 O O O (by omega) (by omega) (Az O),fun _ _ hb _ _=>bQ (hM.top.later hb) O (by omega) O O (Az O),Dr O,fun _ _ hb _ _=>aw (fu.later hb).2 O O O (by omega) (by omega) (Az O),fun _ _ hb _ _=>aT (fu.later hb) O (by omega) O O (Az O),fun _ _ hb _ _=>aw (jv.later hb).2 O O O (by omega) (by omega) (Az O),fun _ _ hb _ _=>aT (jv.later hb) O (by omega) O O (Az O),fun _ _ hb _ _=>aH (hB.below hb) O O O O inferInstance (Az O),fun _ _ hb _ _=>aM (hB.below hb) O O O O O (Az O),Dr O,fun _ _ hb _ _=>aw (hM.top.later hb).2 O O O (by omega) (by omega) (Az O),fun _ _ hb _ _=>bQ (hM.top.later hb) O (by omega) O O (Az O),fun _ _ hb _ _=>aH (hB.below hb) O O O O inferInstance (Az O),fun _ _ hb _ _=>aM (hB.below hb) O O O O O (Az O),Dr O,fun _ _ hb _ _=>aw (hM.top.later hb).2 O O O (by omega) (by omega) (Az O),fun _ _ hb _ _=>bQ (hM.top.later hb) O (by omega) O O (Az O),Dr O,fun _ _ hb _ _=>aw (jv.later hb).2 O O O (by omega) (by omega) (Az O),fun _ _ hb _ _=>aT (jv.later hb) O (by omega) O O (Az O),fun _ _ hb _ _=>aw (fu.later hb).2 O O O (by omega) (by omega) (Az O),fun _ _ hb _ _=>aT (fu.later hb) O (by omega) O O (Az O),fun _ _ _ _ _=>Dk O (by exact ax Value.bool (cd (fun h=>h h9))),Dr O,fun _ _ hb _ _=>aa.g O O O (aH (hB.below hb) O O O O inferInstance (Az O)),fun _ _ hb _ _=>aa.g O O O (aM (hB.below hb) O O O O O (Az O)),Dr O,fun _ _ hb _ _=>aa.g O O O (aw (hM.top.later hb).2 O O O (by omega) (by omega) (Az O)),fun _ _ hb _ _=>aa.g O O O (bQ (hM.top.later hb) O (by omega) O O (Az O)),Dr O,fun _ _ hb _ _=>aa.g O O O (aw (fu.later hb).2 O O O (by omega) (by omega) (Az O)),fun _ _ hb _ _=>aa.g O O O (aT (fu.later hb) O (by omega) O O (Az O)),fun _ _ hb _ _=>aa.g O O O (aH (hB.below hb) O O O O inferInstance (Az O)),fun _ _ hb _ _=>aa.g O O O (aM (hB.below hb) O O O O O (Az O)),Dr O,fun _ _ hb _ _=>aa.g O O O (aw (hM.top.later hb).2 O O O (by omega) (by omega) (Az O)),fun _ _ hb _ _=>aa.g O O O (bQ (hM.top.later hb) O (by omega) O O (Az O)),Dr O,fun _ _ hb _ _=>aa.g O O O (aw (jv.later hb).2 O O O (by omega) (by omega) (Az O)),fun _ _ hb _ _=>aa.g O O O (aT (jv.later hb) O (by omega) O O (Az O)),fun _ _ _ _ _=>Dk O (by exact ax Value.bool (dX gU)),Dr O,ae⟩
      intro u w6 oj _;have aR:=aK.later oj;refine eo O (Cd.gj O ?_);refine dN O (eZ (eE (eZ (eE (eZ (eE ?_))))));refine cM O ?_;exact⟨by rw [cd (fun h:bL xss=> (h.2.2.2.1 i (by omega) k (by omega) nD f (by omega)).2 gU)],aR.none⟩
     refine dI [xP (aq (Ab) 0),xS (A) (n) (c),xI ((k:Int)),xP (aq (A) ((k:Int)).toNat),xS ((rg (rs) ((k:Int))).a) ((rg (rs) ((k:Int))).n) ((rg (rs) ((k:Int))).c),xP (aq (Ab) 0),xS (A) (n) (c),xI ((i:Int)),xP (aq (A) ((i:Int)).toNat),xS ((rg (rs) ((i:Int))).a) ((rg (rs) ((i:Int))).n) ((rg (rs) ((i:Int))).c),xI ((f:Int)),xP (aq ((rg (rs) ((i:Int))).a) ((f:Int)).toNat),xI (gi (gl xss i) ((f:Int))),xP (aq ((rg (rs) ((k:Int))).a) (gi (gl xss i) ((f:Int))).toNat),xI (gi (gl xss k) (gi (gl xss i) ((f:Int)))),xP (aq (Ab) 0),xS (A) (n) (c),xI ((i:Int)),xP (aq (A) ((i:Int)).toNat),xS ((rg (rs) ((i:Int))).a) ((rg (rs) ((i:Int))).n) ((rg (rs) ((i:Int))).c),xP (aq (Ab) 0),xS (A) (n) (c),xI ((k:Int)),xP (aq (A) ((k:Int)).toNat),xS ((rg (rs) ((k:Int))).a) ((rg (rs) ((k:Int))).n) ((rg (rs) ((k:Int))).c),xI ((f:Int)),xP (aq ((rg (rs) ((k:Int))).a) ((f:Int)).toNat),xI (gi (gl xss k) ((f:Int))),xP (aq ((rg (rs) ((i:Int))).a) (gi (gl xss k) ((f:Int))).toNat),xI (gi (gl xss i) (gi (gl xss k) ((f:Int)))),xB (false),xB (false),xP (aq (Ab) 0),xS (A) (n) (c),xI ((i:Int)),xP (aq (A) ((i:Int)).toNat),xS ((rg (rs) ((i:Int))).a) ((rg (rs) ((i:Int))).n) ((rg (rs) ((i:Int))).c),xI ((f:Int)),xP (aq ((rg (rs) ((i:Int))).a) ((f:Int)).toNat),xI (gi (gl xss i) ((f:Int))),xP (aq (Ab) 0),xS (A) (n) (c),xI ((k:Int)),xP (aq (A) ((k:Int)).toNat),xS ((rg (rs) ((k:Int))).a) ((rg (rs) ((k:Int))).n) ((rg (rs) ((k:Int))).c),xI ((f:Int)),xP (aq ((rg (rs) ((k:Int))).a) ((f:Int)).toNat),xI (gi (gl xss k) ((f:Int))),xB (false),xB (false)] (by kernel_rfl) (by kernel_rfl) O (eg O) ?_ ?_
     ·exact⟨fun _ _ hb _ _=>aH (hB.below hb) O O O O inferInstance (Az O),fun _ _ hb _ _=>aM (hB.below hb) O O O O O (Az O),Dr O,fun _ _ hb _ _=>aw (hM.top.later hb).2 O O O (by omega) (by omega) (Az O),fun _ _ hb _ _=>bQ (hM.top.later hb) O (by omega) O O (Az O),fun _ _ hb _ _=>aH (hB.below hb) O O O O inferInstance (Az O),fun _ _ hb _ _=>aM (hB.below hb) O O O O O (Az O),Dr O,fun _ _ hb _ _=>aw (hM.top.later hb).2 O O O (by omega) (by omega) (Az O),fun _ _ hb _ _=>bQ (hM.top.later hb) O (by omega) O O (Az O),Dr O,fun _ _ hb _ _=>aw (fu.later hb).2 O O O (by omega) (by omega) (Az O),fun _ _ hb _ _=>aT (fu.later hb) O (by omega) O O (Az O),fun _ _ hb _ _=>aw (jv.later hb).2 O O O (by omega) (by omega) (Az O),fun _ _ hb _ _=>aT (jv.later hb) O (by omega) O O (Az O),fun _ _ hb _ _=>aH (hB.below hb) O O O O inferInstance (Az O),fun _ _ hb _ _=>aM (hB.below hb) O O O O O (Az O),Dr O,fun _ _ hb _ _=>aw (hM.top.later hb).2 O O O (by omega) (by omega) (Az O),fun _ _ hb _ _=>bQ (hM.top.later hb) O (by omega) O O (Az O),fun _ _ hb _ _=>aH (hB.below hb) O O O O inferInstance (Az O),fun _ _ hb _ _=>aM (hB.below hb) O O O O O (Az O),Dr O,fun _ _ hb _ _=>aw (hM.top.later hb).2 O O O (by omega) (by omega) (Az O),fun _ _ hb _ _=>bQ (hM.top.later hb) O (by omega) O O (Az O),Dr O,fun _ _ hb _ _=>aw (jv.later hb).2 O O O (by omega) (by omega) (Az O),fun _ _ hb _ _=>aT (jv.later hb) O (by omega) O O (Az O),fun _ _ hb _ _=>aw (fu.later hb).2 O O O (by omega) (by omega) (Az O),fun _ _ hb _ _=>aT (fu.later hb) O (by omega) O O (Az O),fun _ _ _ _ _=>Dk O (by exact ax Value.bool (cd (fun h=>h h9))),Dr O,fun _ _ hb _ _=>aa.g O O O (aH (hB.below hb) O O O O inferInstance (Az O)),fun _ _ hb _ _=>aa.g O O O (aM (hB.below hb) O O O O O (Az O)),Dr O,fun _ _ hb _ _=>aa.g O O O (aw (hM.top.later hb).2 O O O (by omega) (by omega) (Az O)),fun _ _ hb _ _=>aa.g O O O (bQ (hM.top.later hb) O (by omega) O O (Az O)),Dr O,fun _ _ hb _ _=>aa.g O O O (aw (fu.later hb).2 O O O (by omega) (by omega) (Az O)),fun _ _ hb _ _=>aa.g O O O (aT (fu.later hb) O (by omega) O O (Az O)),fun _ _ hb _ _=>aa.g O O O (aH (hB.below hb) O O O O inferInstance (Az O)),fun _ _ hb _ _=>aa.g O O O (aM (hB.below hb) O O O O O (Az O)),Dr O,fun _ _ hb _ _=>aa.g O O O (aw (hM.top.later hb).2 O O O (by omega) (by omega) (Az O)),fun _ _ hb _ _=>aa.g O O O (bQ (hM.top.later hb) O (by omega) O O (Az O)),Dr O,fun _ _ hb _ _=>aa.g O O O (aw (jv.later hb).2 O O O (by omega) (by omega) (Az O)),fun _ _ hb _ _=>aa.g O O O (aT (jv.later hb) O (by omega) O O (Az O)),fun _ _ _ _ _=>Dk O (by exact ax Value.bool (cd gU)),Dr O,ae⟩
     intro u w6 oj _;have aR:=aK.later oj;refine eo O (Cd.eV O ?_);refine av O (aa.add O O O (by omega) (aF O (tQ ?_)));refine⟨f+1,by omega,⟨O,O,O,O,O,ae⟩,aR,by omega,fun f' lJ=>?_⟩
     by_cases ef:f'=f
     ·subst ef;exact⟨h9,gU⟩
     exact DO f' (by omega)
    refine dI [xP (aq (Ab) 0),xS (A) (n) (c),xI ((k:Int)),xP (aq (A) ((k:Int)).toNat),xS ((rg (rs) ((k:Int))).a) ((rg (rs) ((k:Int))).n) ((rg (rs) ((k:Int))).c),xP (aq (Ab) 0),xS (A) (n) (c),xI ((i:Int)),xP (aq (A) ((i:Int)).toNat),xS ((rg (rs) ((i:Int))).a) ((rg (rs) ((i:Int))).n) ((rg (rs) ((i:Int))).c),xI ((f:Int)),xP (aq ((rg (rs) ((i:Int))).a) ((f:Int)).toNat),xI (gi (gl xss i) ((f:Int))),xP (aq ((rg (rs) ((k:Int))).a) (gi (gl xss i) ((f:Int))).toNat),xI (gi (gl xss k) (gi (gl xss i) ((f:Int)))),xP (aq (Ab) 0),xS (A) (n) (c),xI ((i:Int)),xP (aq (A) ((i:Int)).toNat),xS ((rg (rs) ((i:Int))).a) ((rg (rs) ((i:Int))).n) ((rg (rs) ((i:Int))).c),xP (aq (Ab) 0),xS (A) (n) (c),xI ((k:Int)),xP (aq (A) ((k:Int)).toNat),xS ((rg (rs) ((k:Int))).a) ((rg (rs) ((k:Int))).n) ((rg (rs) ((k:Int))).c),xI ((f:Int)),xP (aq ((rg (rs) ((k:Int))).a) ((f:Int)).toNat),xI (gi (gl xss k) ((f:Int))),xP (aq ((rg (rs) ((i:Int))).a) (gi (gl xss k) ((f:Int))).toNat),xI (gi (gl xss i) (gi (gl xss k) ((f:Int)))),xB (true),xB (true),xU,xU,xU,xU,xU,xU,xU,xU,xU,xU,xU,xU,xU,xU,xU,xU,xU,xB (true)] (by kernel_rfl) (by kernel_rfl) O (eg O) ?_ ?_
    ·exact⟨fun _ _ hb _ _=>aH (hB.below hb) O O O O inferInstance (Az O),fun _ _ hb _ _=>aM (hB.below hb) O O O O O (Az O),Dr O,fun _ _ hb _ _=>aw (hM.top.later hb).2 O O O (by omega) (by omega) (Az O),fun _ _ hb _ _=>bQ (hM.top.later hb) O (by omega) O O (Az O),fun _ _ hb _ _=>aH (hB.below hb) O O O O inferInstance (Az O),fun _ _ hb _ _=>aM (hB.below hb) O O O O O (Az O),Dr O,fun _ _ hb _ _=>aw (hM.top.later hb).2 O O O (by omega) (by omega) (Az O),fun _ _ hb _ _=>bQ (hM.top.later hb) O (by omega) O O (Az O),Dr O,fun _ _ hb _ _=>aw (fu.later hb).2 O O O (by omega) (by omega) (Az O),fun _ _ hb _ _=>aT (fu.later hb) O (by omega) O O (Az O),fun _ _ hb _ _=>aw (jv.later hb).2 O O O (by omega) (by omega) (Az O),fun _ _ hb _ _=>aT (jv.later hb) O (by omega) O O (Az O),fun _ _ hb _ _=>aH (hB.below hb) O O O O inferInstance (Az O),fun _ _ hb _ _=>aM (hB.below hb) O O O O O (Az O),Dr O,fun _ _ hb _ _=>aw (hM.top.later hb).2 O O O (by omega) (by omega) (Az O),fun _ _ hb _ _=>bQ (hM.top.later hb) O (by omega) O O (Az O),fun _ _ hb _ _=>aH (hB.below hb) O O O O inferInstance (Az O),fun _ _ hb _ _=>aM (hB.below hb) O O O O O (Az O),Dr O,fun _ _ hb _ _=>aw (hM.top.later hb).2 O O O (by omega) (by omega) (Az O),fun _ _ hb _ _=>bQ (hM.top.later hb) O (by omega) O O (Az O),Dr O,fun _ _ hb _ _=>aw (jv.later hb).2 O O O (by omega) (by omega) (Az O),fun _ _ hb _ _=>aT (jv.later hb) O (by omega) O O (Az O),fun _ _ hb _ _=>aw (fu.later hb).2 O O O (by omega) (by omega) (Az O),fun _ _ hb _ _=>aT (fu.later hb) O (by omega) O O (Az O),fun _ _ _ _ _=>Dk O (by exact ax Value.bool (dX h9)),Dr O,Dr O,Dr O,Dr O,Dr O,Dr O,Dr O,Dr O,Dr O,Dr O,Dr O,Dr O,Dr O,Dr O,Dr O,Dr O,Dr O,Dr O,Dr O,ae⟩
    intro u w6 oj _;have aR:=aK.later oj;refine eo O (Cd.gj O ?_);refine dN O (eZ (eE (eZ (eE (eZ (eE ?_))))));refine cM O ?_;exact⟨by rw [cd (fun h:bL xss=>h9 (h.2.2.2.1 i (by omega) k (by omega) nD f (by omega)).1)],aR.none⟩
   refine aY O (aZ (cL O (aa.add O O O (by omega) (aF O (tQ ?_)))));refine⟨k+1,by omega,⟨O,O,O,O,ae⟩,aK,by omega,fun k' fM oY sE f' lJ=>?_⟩
   by_cases ek:k'=k
   ·subst ek;exact DO f' (by omega)
   exact DN k' (by omega) oY sE f' lJ
  refine aY O (aZ (cL O (aa.add O O O (by omega) (aF O (tQ ?_)))));refine⟨i+1,by omega,⟨O,O,O,ae⟩,aJ,by omega,fun i' dT k' fM sE f' lJ=>?_⟩
  by_cases ei:i'=i
  ·subst ei;exact DN k' (by omega) fM sE f' lJ
  exact hC i' (by omega) k' fM sE f' lJ
 have hM:=az.bF hR;have hB:=az.rd 0 O;refine aY O (aZ (nN O ?_));refine dI [xP (aq (Ab) 0),xS (A) (n) (c),.pr (fun v _=>∃A' c',v= .slice A' (fS (gl xss 0).length xss 0).length c'),xI (((fS (gl xss 0).length xss 0).length:Int)),xP (aq (Ab) 0),xS (A) (n) (c),xP (aq (A) ((0:Int)).toNat),xS ((rg (rs) ((0:Int))).a) ((rg (rs) ((0:Int))).n) ((rg (rs) ((0:Int))).c),xI ((((rg (rs) ((0:Int))).n:Nat):Int)),xB (decide ((((fS (gl xss 0).length xss 0).length:Int))=((((rg (rs) ((0:Int))).n:Nat):Int)))),xB (decide ((((fS (gl xss 0).length xss 0).length:Int))=((((rg (rs) ((0:Int))).n:Nat):Int))))] (by kernel_rfl) (by kernel_rfl) rfl (lx (lx (bV.2 ⟨Yd.b9 (fun _ _ _ h _=>h),(lx (lx (lx (lx (lx (lx (lx (lx (fun _ h=>by cases h)))))))))⟩))) ?_ ?_
 ·refine⟨fun _ _ hb _ _=>aH (hB.below hb) O O O O inferInstance (Az O),fun _ _ hb _ _=>aM (hB.below hb) O O O O O (Az O),?_,?_,fun _ _ hb _ _=>aH (hB.below hb) O O O O inferInstance (Az O),fun _ _ hb _ _=>aM (hB.below hb) O O O O O (Az O),fun _ _ hb _ _=>aw (hM.top.later hb).2 O O O (by omega) (by omega) (Az O),fun _ _ hb _ _=>bQ (hM.top.later hb) O (by omega) O O (Az O),fun _ _ _ _ _=>aa.len O O (Az O),Dr O,Dr O,ae⟩
  ·intro e1 w1 hb hp aL;refine aa.call (LC _ _ _ _ _ (gl xss 0).length 0 _ (hM.later hb) hn hs (by omega) (by omega) (by omega)) O O O ?_;rintro _ w2 ⟨A',c',rfl,ak⟩;refine aa.n ?_;exact gD.dn ak.below ⟨A',c',O⟩
  intro e1 w1 hb hp aL;obtain⟨A',c',Jw⟩:=(hp 2 (by decide) rfl _ _ rfl rfl);refine aa.len (by exact Jw) O (Az O)
 intro u w6 oj _;have aR:=az.later oj;refine xF O (cM O ?_);refine⟨?_,aR.none⟩
 congr 1
 refine jo.2 ⟨fun h=> ⟨by omega,by omega,kG,fun i' dT k' fM sE f' lJ=>hC i' (by omega) k' (by omega) sE f' lJ,by omega⟩,fun h=>by have:=h.2.2.2.2;omega⟩
theorem afC{rs:List aG}{l m:Nat}{j:Nat}(hj:j<m):rg ((rs.drop l).take m) (j:Int)=rg rs ((l+j:Nat):Int):=by
 have e:(((l+j:Nat):Int)).toNat=l+j:=by omega
 rw [rg,rg,e];simp [cJ,rW,hj]
theorem EM(A:aiC)(n c:Nat)(rs:List aG)(xss:aiB)(w:World)(hR:br w A n rs xss)(hn:n≤c)(hc:c≤9223372036854775807):
 aA prog 91 [.agg #[.slice A n c]] w (fun v w'=>v= .bool (decide (bL xss))∧St w w' []):=by
 have dA:=hR.len;have r0:0<n→(gl xss 0).length=(rg rs 0).n:=fun h=>hR.pE (by omega) (by omega)
 refine bk func91 O ntmps91 O (cK O) (aQ O (iI (St.refl w) O O ?_));intro Ab w1 hS;refine ad O (aa.call (CR _ _ _ _ _ _ (hS.rd 0 O) O) O O O ?_);rintro _ _ ⟨rfl,rfl⟩;refine aa.call (xv _ _ _ _) O O O ?_;rintro _ _ ⟨rfl,rfl⟩
 first | refine eC rfl rfl ?_ | refine aa.not rfl rfl ?_
 refine ad O ?_;refine bY 15 O (fun h1=>?_) (fun h1=>?_)
 ·refine ai O O O O O (ai O O O O O (ai O O O O O (ay O ?_)));refine Cd.gj O (dN O (cM O ?_));exact⟨by rw [cd (fun h:bL xss=>by have:=h.1;omega)],hS.none⟩
 have hM:=hS.bF hR;have r0:=r0 (by omega);refine aa.g O O O (aa.call (um _ _ _ _ _ _ _ _ (hS.rd 0 O) O hM (by omega)) O O O ?_);rintro _ _ ⟨rfl,rfl⟩;refine aa.g O O O (aa.call (xv _ _ _ _) O O O ?_);rintro _ _ ⟨rfl,rfl⟩;refine aa.g O O O ?_
 first | refine eC rfl rfl ?_ | refine aa.not rfl rfl ?_
 refine ay O ?_;refine aB _ O (fun h3=>?_) (fun h3=>?_)
 ·refine dN O (cM O ?_);exact⟨by rw [cd (fun h:bL xss=>by have:=h.2.1;omega)],hS.none⟩
 refine av O (aH (hS.rd 0 O) O O O O inferInstance (aM (hS.rd 0 O) O O O O O ?_));refine aa.len O O (ay O ?_);refine Cd.loop (α:=Nat) (fun k=> [(1,.pointer Ab),(21,.slice A n c),(22,aiD (n:Int)),(23,aiD (k:Int))]) (fun k w'=>St w w' [Bx 24 1 Ab [.slice A n c]]∧k≤n∧Part xss k) (fun k=>n - k) 0 ⟨O,O,O,O,ae⟩ ⟨hS,aW _,fun p hp=>by simp at hp⟩ ?_;rintro k e w2 ⟨ar,hk,hP⟩;have hM:=ar.bF hR;refine bK O ?_;refine aB _ O (fun h5=>?_) (fun h5=>?_)
 ·have oZ:k<xss.length:=by omega
  have rk:=hR.pE (k:=(k:Int)) (by omega) (by omega);have cj:=hM.at_ (i:=k) (by omega) h5;refine av O (aw hM.top.2 O O O (by omega) h5 (bQ hM.top O (by omega) O O (ad O (aa.call (abX _ _ _ _ _ cj) O O O ?_))));rintro _ w3 ⟨rfl,ak⟩;have az:=ar.later ak.below;have hM:=az.bF hR
  first | refine eC rfl rfl ?_ | refine aa.not rfl rfl ?_
  refine ad O ?_;refine bY 30 O (fun h6=>?_) (fun h6=>?_)
  ·refine ai O O O O O (ai O O O O O (ai O O O O O (ai O O O O O (ay O ?_))));refine Cd.gj O ?_;refine dN O (eZ (eE ?_));refine cM O ?_;exact⟨by rw [cd (fun h:bL xss=>h6 ⟨(h.2.2.1.at_ oZ).2.1,(h.2.2.1.at_ oZ).2.2⟩)],az.none⟩
  have h6:=iP.1 h6;refine aa.g O O O (ad O (aa.g O O O ?_));refine aa.call (AA _ _ _ _) O O O ?_;rintro _ _ ⟨rfl,rfl⟩;refine aa.g O O O (aa.call (um _ _ _ _ _ _ _ _ (az.rd 0 O) O hM (by omega)) O O O ?_);rintro _ _ ⟨rfl,rfl⟩;refine aa.g O O O (ay O ?_);refine aB _ O (fun h7=>?_) (fun h7=>?_)
  ·refine dN O (eZ (eE ?_));refine cM O ?_;exact⟨by rw [cd (fun h:bL xss=>h7 (by have:=(h.2.2.1.at_ oZ).1;omega))],az.none⟩
  refine av O (aa.add O O O (by omega) (aF O (tQ ?_)));exact⟨k+1,by omega,⟨O,O,O,O,ae⟩,az,by omega,hP.step oZ (by omega) h6.1 h6.2⟩
 have kG:=hP.all (by omega);have hs:=kG.sys;have jL:∀i:Int,0≤i→i<n→(rg rs i).n=(rg rs 0).n:=fun i h0 h1=>by
  have e1:=hR.pE h0 h1;have e2:=(kG _ (uo h0 (by omega))).1;omega
 refine aY O (aZ (cL O ?_));refine aH (ar.rd 0 O) O O O O inferInstance (aM (ar.rd 0 O) O O O O O ?_);refine aa.len O O (ay O ?_);refine Cd.loop (α:=Nat) (fun i=> [(1,.pointer Ab),(38,.slice A n c),(39,aiD (n:Int)),(40,aiD (i:Int))]) (fun i w'=>St w w' [Bx 24 1 Ab [.slice A n c]]∧i≤n∧∀i',i'<i→∀k,k<n→i'+2≤k→∀f,f< (gl xss 0).length→Comm xss i' k f) (fun i=>n - i) 0 ⟨O,O,O,O,ae⟩ ⟨ar,aW _,fun i' dT=>by omega⟩ ?_;rintro i e w3 ⟨az,hi,hC⟩;have hM:=az.bF hR;refine bK O ?_;refine aB _ O (fun h6=>?_) (fun h6=>?_)
 ·refine av O (aw hM.top.2 O O O (by omega) h6 (bQ hM.top O (by omega) O O (ad O (aH (az.rd 0 O) O O O O inferInstance (aM (az.rd 0 O) O O O O O ?_)))));refine ad O (aa.add O O O (by omega) ?_);refine aH (az.rd 0 O) O O O O inferInstance (aM (az.rd 0 O) O O O O O (aa.len O O (VN O O O ?_)));obtain⟨l,hl,pR,vt⟩:∃l:Nat,min ((i:Int)+2) (n:Int)=(l:Int)∧l≤n∧(l=i+2∨(l=n∧n≤i+2)):=⟨min (i+2) n,by omega,by omega,by omega⟩;rw [hl];refine FA O O O (by omega) ?_;rw [ir];refine aa.len O O (ay O ?_);refine Cd.loop (α:=Nat) (fun j=> [(1,.pointer Ab),(38,.slice A n c),(39,aiD (n:Int)),(40,aiD (i:Int)),(6,.slice (rg rs i).a (rg rs i).n (rg rs i).c),(53,.slice (cutAt A c l) (n - l) (c - l)),(54,aiD ((n - l:Nat):Int)),(55,aiD (j:Int))]) (fun j w'=>St w w' [Bx 24 1 Ab [.slice A n c]]∧j≤n - l∧∀k',k'<l+j→k'<n→i+2≤k'→∀f,f< (gl xss 0).length→Comm xss i k' f) (fun j=>n - l - j) 0 ⟨O,O,O,O,O,O,O,O,ae⟩ ⟨az,aW _,fun k' h1 _ _=>by omega⟩ ?_;rintro j e w4 ⟨aJ,hj,DN⟩;have hM:=aJ.bF hR;have tC:=hM.top.cut (c:=c) pR (a8 n) hn;refine bK O ?_;refine aB _ O (fun h7=>?_) (fun h7=>?_)
  ·have ln:j<n - l:=by omega
   have hk:l+j<n:=by omega
   have nD:i+2≤l+j:=by omega
   refine av O (aw tC.2 O O O (by omega) h7 (bQ tC O (by omega) O O ?_));rw [afC ln];generalize yk:l+j=k at hk nD;have rki:=jL i (by omega) h6;have rkk:=jL k (by omega) (by omega);refine ad O (aa.call (um _ _ _ _ _ _ _ _ (aJ.rd 0 O) O hM (by omega)) O O O ?_);rintro _ w4 ⟨rfl,rfl⟩;refine ay O ?_;refine Cd.loop (α:=Nat) (fun f=> [(1,.pointer Ab),(38,.slice A n c),(39,aiD (n:Int)),(40,aiD (i:Int)),(6,.slice (rg rs i).a (rg rs i).n (rg rs i).c),(53,.slice (cutAt A c l) (n - l) (c - l)),(54,aiD ((n - l:Nat):Int)),(55,aiD (j:Int)),(8,.slice (rg rs k).a (rg rs k).n (rg rs k).c),(59,aiD ((rg rs 0).n:Int)),(60,aiD (f:Int))]) (fun f w'=>St w w' [Bx 24 1 Ab [.slice A n c]]∧f≤(gl xss 0).length∧∀f',f'<f→Comm xss i k f') (fun f=> (gl xss 0).length - f) 0 ⟨O,O,O,O,O,O,O,O,O,O,O,ae⟩ ⟨aJ,aW _,fun f' lJ=>by omega⟩ ?_;rintro f e w5 ⟨aK,hf,DO⟩;have hM:=aK.bF hR;have fu:=hM.at_ (i:=i) (by omega) h6;have jv:=hM.at_ (i:=k) (by omega) (by omega);refine bK O ?_;refine aB _ O (fun h8=>?_) (fun h8=>?_)
   ·have hii:=(hs _ (uo (k:=(i:Int)) (by omega) (by omega))).2 (f:Int) (by omega) (by omega);have dw:=(hs _ (uo (k:=(k:Int)) (by omega) (by omega))).2 (f:Int) (by omega) (by omega);refine bP O ?_
    by_cases gU:gi (gl xss i) f=gi (gl xss k) f
    ·
     refine dI [xS ((rg rs i).a) ((rg rs i).n) ((rg rs i).c),xI ((f:Int)),xP (aq ((rg rs i).a) ((f:Int)).toNat),xI (gi (gl xss i) ((f:Int))),xS ((rg rs k).a) ((rg rs k).n) ((rg rs k).c),xI ((f:Int)),xP (aq ((rg rs k).a) ((f:Int)).toNat),xI (gi (gl xss k) ((f:Int))),xB (true),xB (true),xU,xU,xU,xU,xU,xU,xU,xU,xU,xU,xU,xU,xU,xU,xU,xB (true)] (by kernel_rfl) (by kernel_rfl) O (eg O) ?_ ?_
     ·exact⟨Dr O,Dr O,fun _ _ hb _ _=>aw (fu.later hb).2 O O O (by omega) (by omega) (Az O),fun _ _ hb _ _=>aT (fu.later hb) O (by omega) O O (Az O),Dr O,Dr O,fun _ _ hb _ _=>aw (jv.later hb).2 O O O (by omega) (by omega) (Az O),fun _ _ hb _ _=>aT (jv.later hb) O (by omega) O O (Az O),fun _ _ _ _ _=>Dk O (by exact ax Value.bool (dX gU)),Dr O,Dr O,Dr O,Dr O,Dr O,Dr O,Dr O,Dr O,Dr O,Dr O,Dr O,Dr O,Dr O,Dr O,Dr O,Dr O,Dr O,ae⟩
     intro u w6 oj _;have aR:=aK.later oj;refine eo O (Cd.gj O ?_);refine dN O (eZ (eE (eZ (eE (eZ (eE ?_))))));refine cM O ?_;exact⟨by rw [cd (fun h:bL xss=> (h.2.2.2.1 i (by omega) k (by omega) nD f (by omega)).2 gU)],aR.none⟩
    by_cases h9:gi (gl xss k) (gi (gl xss i) f)=gi (gl xss i) (gi (gl xss k) f)
    ·refine dI [xS ((rg rs i).a) ((rg rs i).n) ((rg rs i).c),xI ((f:Int)),xP (aq ((rg rs i).a) ((f:Int)).toNat),xI (gi (gl xss i) ((f:Int))),xS ((rg rs k).a) ((rg rs k).n) ((rg rs k).c),xI ((f:Int)),xP (aq ((rg rs k).a) ((f:Int)).toNat),xI (gi (gl xss k) ((f:Int))),xB (false),xB (false),xS ((rg rs k).a) ((rg rs k).n) ((rg rs k).c),xS ((rg rs i).a) ((rg rs i).n) ((rg rs i).c),xI ((f:Int)),xP (aq ((rg rs i).a) ((f:Int)).toNat),xI (gi (gl xss i) ((f:Int))),xP (aq ((rg rs k).a) (gi (gl xss i) ((f:Int))).toNat),xI (gi (gl xss k) (gi (gl xss i) ((f:Int)))),xS ((rg rs i).a) ((rg rs i).n) ((rg rs i).c),xS ((rg rs k).a) ((rg rs k).n) ((rg rs k).c),xI ((f:Int)),xP (aq ((rg rs k).a) ((f:Int)).toNat),xI (gi (gl xss k) ((f:Int))),xP (aq ((rg rs i).a) (gi (gl xss k) ((f:Int))).toNat),xI (gi (gl xss i) (gi (gl xss k) ((f:Int)))),xB (false),xB (false)] (by kernel_rfl) (by kernel_rfl) O (eg O) ?_ ?_
     ·exact⟨Dr O,Dr O,fun _ _ hb _ _=>aw (fu.later hb).2 O O O (by omega) (by omega) (Az O),fun _ _ hb _ _=>aT (fu.later hb) O (by omega) O O (Az O),Dr O,Dr O,fun _ _ hb _ _=>aw (jv.later hb).2 O O O (by omega) (by omega) (Az O),fun _ _ hb _ _=>aT (jv.later hb) O (by omega) O O (Az O),fun _ _ _ _ _=>Dk O (by exact ax Value.bool (cd gU)),Dr O,Dr O,Dr O,Dr O,fun _ _ hb _ _=>aa.g O O O (aw (fu.later hb).2 O O O (by omega) (by omega) (Az O)),fun _ _ hb _ _=>aa.g O O O (aT (fu.later hb) O (by omega) O O (Az O)),fun _ _ hb _ _=>aa.g O O O (aw (jv.later hb).2 O O O (by omega) (by omega) (Az O)),fun _ _ hb _ _=>aa.g O O O (aT (jv.later hb) O (by omega) O O (Az O)),Dr O,Dr O,Dr O,fun _ _ hb _ _=>aa.g O O O (aw (jv.later hb).2 O O O (by omega) (by omega) (Az O)),fun _ _ hb _ _=>aa.g O O O (aT (jv.later hb) O (by omega) O O (Az O)),fun _ _ hb _ _=>aa.g O O O (aw (fu.later hb).2 O O O (by omega) (by omega) (Az O)),fun _ _ hb _ _=>aa.g O O O (aT (fu.later hb) O (by omega) O O (Az O)),fun _ _ _ _ _=>Dk O (by exact ax Value.bool (cd (fun h=>h h9))),Dr O,ae⟩
     intro u w6 oj _;have aR:=aK.later oj;refine eo O (Cd.eV O ?_);refine av O (aa.add O O O (by omega) (aF O (tQ ?_)));refine⟨f+1,by omega,⟨O,O,O,O,O,O,O,O,O,O,O,ae⟩,aR,by omega,fun f' lJ=>?_⟩
     by_cases ef:f'=f
     ·subst ef;exact⟨h9,gU⟩
     exact DO f' (by omega)
    refine dI [xS ((rg rs i).a) ((rg rs i).n) ((rg rs i).c),xI ((f:Int)),xP (aq ((rg rs i).a) ((f:Int)).toNat),xI (gi (gl xss i) ((f:Int))),xS ((rg rs k).a) ((rg rs k).n) ((rg rs k).c),xI ((f:Int)),xP (aq ((rg rs k).a) ((f:Int)).toNat),xI (gi (gl xss k) ((f:Int))),xB (false),xB (false),xS ((rg rs k).a) ((rg rs k).n) ((rg rs k).c),xS ((rg rs i).a) ((rg rs i).n) ((rg rs i).c),xI ((f:Int)),xP (aq ((rg rs i).a) ((f:Int)).toNat),xI (gi (gl xss i) ((f:Int))),xP (aq ((rg rs k).a) (gi (gl xss i) ((f:Int))).toNat),xI (gi (gl xss k) (gi (gl xss i) ((f:Int)))),xS ((rg rs i).a) ((rg rs i).n) ((rg rs i).c),xS ((rg rs k).a) ((rg rs k).n) ((rg rs k).c),xI ((f:Int)),xP (aq ((rg rs k).a) ((f:Int)).toNat),xI (gi (gl xss k) ((f:Int))),xP (aq ((rg rs i).a) (gi (gl xss k) ((f:Int))).toNat),xI (gi (gl xss i) (gi (gl xss k) ((f:Int)))),xB (true),xB (true)] (by kernel_rfl) (by kernel_rfl) O (eg O) ?_ ?_
    ·exact⟨Dr O,Dr O,fun _ _ hb _ _=>aw (fu.later hb).2 O O O (by omega) (by omega) (Az O),fun _ _ hb _ _=>aT (fu.later hb) O (by omega) O O (Az O),Dr O,Dr O,fun _ _ hb _ _=>aw (jv.later hb).2 O O O (by omega) (by omega) (Az O),fun _ _ hb _ _=>aT (jv.later hb) O (by omega) O O (Az O),fun _ _ _ _ _=>Dk O (by exact ax Value.bool (cd gU)),Dr O,Dr O,Dr O,Dr O,fun _ _ hb _ _=>aa.g O O O (aw (fu.later hb).2 O O O (by omega) (by omega) (Az O)),fun _ _ hb _ _=>aa.g O O O (aT (fu.later hb) O (by omega) O O (Az O)),fun _ _ hb _ _=>aa.g O O O (aw (jv.later hb).2 O O O (by omega) (by omega) (Az O)),fun _ _ hb _ _=>aa.g O O O (aT (jv.later hb) O (by omega) O O (Az O)),Dr O,Dr O,Dr O,fun _ _ hb _ _=>aa.g O O O (aw (jv.later hb).2 O O O (by omega) (by omega) (Az O)),fun _ _ hb _ _=>aa.g O O O (aT (jv.later hb) O (by omega) O O (Az O)),fun _ _ hb _ _=>aa.g O O O (aw (fu.later hb).2 O O O (by omega) (by omega) (Az O)),fun _ _ hb _ _=>aa.g O O O (aT (fu.later hb) O (by omega) O O (Az O)),fun _ _ _ _ _=>Dk O (by exact ax Value.bool (dX h9)),Dr O,ae⟩
    intro u w6 oj _;have aR:=aK.later oj;refine eo O (Cd.gj O ?_);refine dN O (eZ (eE (eZ (eE (eZ (eE ?_))))));refine cM O ?_;exact⟨by rw [cd (fun h:bL xss=>h9 (h.2.2.2.1 i (by omega) k (by omega) nD f (by omega)).1)],aR.none⟩
   refine aY O (aZ (cL O (aa.add O O O (by omega) (aF O (tQ ?_)))));refine⟨j+1,by omega,⟨O,O,O,O,O,O,O,O,ae⟩,aK,by omega,fun k' fM oY sE f' lJ=>?_⟩
   by_cases ek:k'=k
   ·subst ek;exact DO f' (by omega)
   exact DN k' (by omega) oY sE f' lJ
  refine aY O (aZ (cL O (aa.add O O O (by omega) (aF O (tQ ?_)))));refine⟨i+1,by omega,⟨O,O,O,O,ae⟩,aJ,by omega,fun i' dT k' fM sE f' lJ=>?_⟩
  by_cases ei:i'=i
  ·subst ei;exact DN k' (by omega) fM sE f' lJ
  exact hC i' (by omega) k' fM sE f' lJ
 have hB:=az.rd 0 O;refine aY O (aZ (nN O ?_));refine dI [xI (((rg rs 0).n:Int)),xP (aq (Ab) 0),xS (A) (n) (c),.pr (fun v _=>∃A',v= .tuple #[.slice A' (gl xss 0).length (gl xss 0).length,aiD (bz (gl xss 0).length xss (gl xss 0).length).2]),.pr (fun v _=>∃A',v= .tuple #[.slice A' (gl xss 0).length (gl xss 0).length,aiD (bz (gl xss 0).length xss (gl xss 0).length).2]),.pr (fun v _=>∃A',v= .slice A' (gl xss 0).length (gl xss 0).length),xI ((bz (gl xss 0).length xss (gl xss 0).length).2),.pr (fun v _=>∃A',v= .slice A' (gl xss 0).length (gl xss 0).length),xI ((bz (gl xss 0).length xss (gl xss 0).length).2)] (by kernel_rfl) (by kernel_rfl) rfl (lx (lx (lx (bV.2 ⟨Yd.b9 (fun _ _ _ h _=>h),(bV.2 ⟨Yd.b9 (fun _ _ _ h _=>h),(bV.2 ⟨Yd.b9 (fun _ _ _ h _=>h),(lx (bV.2 ⟨Yd.b9 (fun _ _ _ h _=>h),(lx (fun _ h=>by cases h))⟩))⟩)⟩)⟩)))) ?_ ?_
 ·refine⟨?_,fun _ _ hb _ _=>aH (hB.below hb) O O O O inferInstance (Az O),fun _ _ hb _ _=>aM (hB.below hb) O O O O O (Az O),?_,?_,?_,?_,?_,Dr O,ae⟩
  ·intro e1 w1 hb hp aL;refine aa.call (um _ _ _ _ _ _ _ _ (hB.below hb) O (hM.later hb) (by omega)) O O O ?_;rintro _ w2 ⟨rfl,ak⟩;subst ak;refine aa.n (d0 (by exact O))
  ·intro e1 w1 hb hp aL;refine aa.call (Tr A n c rs xss (gl xss 0).length _ (hM.later hb) (by omega) hs kG.inj (by omega)) O (by rw [r0];rfl) O ?_;rintro _ w2 ⟨A',rfl,ak⟩;refine aa.n ?_;exact gD.dn ak.below ⟨A',O⟩
  ·intro e1 w1 hb hp aL;obtain⟨A',Zg⟩:=(hp 3 (by decide) rfl _ _ rfl rfl);refine Nl O (by exact Zg) O (aa.n ?_);exact gD.dn (Below.refl _ _) ⟨A',O⟩
  ·intro e1 w1 hb hp aL;obtain⟨A',JF⟩:=(hp 4 (by decide) rfl _ _ rfl rfl);refine aa.extract (by exact JF) O O (aa.n ?_);exact gD.dn (Below.refl _ _) ⟨A',O⟩
  ·intro e1 w1 hb hp aL;obtain⟨A',JF⟩:=(hp 4 (by decide) rfl _ _ rfl rfl);refine aa.extract (by exact JF) O O (Az O)
  intro e1 w1 hb hp aL;obtain⟨A',Zh⟩:=(hp 5 (by decide) rfl _ _ rfl rfl);refine oO O (by exact Zh) O (aa.n ?_);exact gD.dn (Below.refl _ _) ⟨A',O⟩
 intro u w6 oj _;have aR:=az.later oj;refine xF O (cM O ?_);refine⟨?_,aR.none⟩
 congr 1
 have ho:=Ts hs (by omega);have hl:=ac6 hs (by omega);exact jo.2 ⟨fun h=> ⟨by omega,by omega,kG,fun i' dT k' fM sE f' lJ=>hC i' (by omega) k' (by omega) sE f' lJ,ho.2 (hl.1 h)⟩,fun h=>hl.2 (ho.1 h.2.2.2.2)⟩
section
variable {P:Program} {N:Nat} {ops:Array Oper} {K:Env→World→Prop} {rest:List Oper} {e:Env} {w:World} {d:Nat} {ty:TypeId} {pos:String} {af:Array Edge} {x y:Operand} {xt yt:TypeId}
theorem run_equal_bool[bB P xt .bool](a b:Bool):(Op.equal xt (.bool a) (.bool b)).run P w= .ok (a==b) w:=
 run_equalIn_bool w 9999 xt a b bB.out
theorem Ig[bB P xt .bool]{a b:Bool}(hx:ev e x= .bool a)(hy:ev e y= .bool b)(hb:Nat.blt d N=true)(hK:aa P N ops K rest (a7 e d (.bool (!(a==b)))) w):
 aa P N ops K (⟨some d,.binOp .neq xt x y yt,ty,pos,af,none⟩::rest) e w:=
 .val (by simp [execOp,hx,hy,eqGuard,binOp,run_equal_bool]) hb hK
theorem VH[bB P xt .bool]{a b:Bool}(hx:ev e x= .bool a)(hy:ev e y= .bool b)(hb:Nat.blt d N=true)(hK:aa P N ops K rest (a7 e d (.bool (a==b))) w):
 aa P N ops K (⟨some d,.binOp .eql xt x y yt,ty,pos,af,none⟩::rest) e w:=
 .val (by simp [execOp,hx,hy,eqGuard,binOp,run_equal_bool]) hb hK
end
section
variable {P:Program} {N:Nat} {ops:Array Oper} {K:Env→World→Prop} {rest:List Oper} {e:Env} {w0 w w':World} {ks:List Ck} {d:Nat} {ty:TypeId} {pos:String} {af:Array Edge}
theorem Fx{t:TypeId}{f0:Field}{z0 zf:Value}{b bf:Nat}[bB P t (.struct #[f0])][bp P t (.agg #[z0]) 1 b]{x0:Operand}{v0:Value}(hI:bp P f0.type zf 1 bf)(ho:f0.offset=0)(h0:ev e x0=v0)(c0:v0.oneCell'=true)(hb:Nat.blt d N=true)(hK:aa P N ops K rest (a7 e d (.agg #[v0])) w):aa P N ops K (⟨some d,.build t #[(0,x0)],ty,pos,af,none⟩::rest) e w:=by
 obtain⟨inf,hi,fv,hs,iS⟩:=bp.get P t;obtain⟨abV,dT,abI,Cr,Z6⟩:=hI.get P f0.type;have e0:v0.cells= #[v0]:=by cases v0<;>simp [Value.oneCell']at c0<;>rfl
 have ez:(Value.agg #[z0]).cells= #[z0]:=O;refine .val (w':=w) ?_ hb hK;simp [execOp,Instr.build,run_underlying (bB.out (P:=P) (t:=t)),sizeOf,typeInfo,zeroValue,hi,fv,dT,Cr,ho,h0,e0,ez,Instr.fill]
theorem Da{t t' el:TypeId}[bB P t (.slice el)]{x y:Operand}{A:aiC}{n c:Nat}(hx:ev e x= .slice A n c)(hy:ev e y= .slice none 0 0)(hb:Nat.blt d N=true)(hK:aa P N ops K rest (a7 e d (.bool A.isNone)) w):
 aa P N ops K (⟨some d,.binOp .eql t x y t',ty,pos,af,none⟩::rest) e w:=by
 have hr:(Op.equal t (.slice A n c) (.slice none 0 0)).run P w= .ok A.isNone w:=by
  show(Op.equalIn (9999+1) t (.slice A n c) (.slice none 0 0)).run P w=_;rw [Op.equalIn];cases A<;>simp [run_underlying (bB.out (P:=P) (t:=t))]
 exact .val (by simp [execOp,hx,hy,eqGuard,binOp,hr]) hb hK
end
theorem CF{t1 t2:TypeId}{A:aiC}{n c:Nat}{rs:List aG}{xss:aiB}{pre ks:List Ck}{i:Nat}(hr:rs.length=xss.length)(hi:i<rs.length):(pre++ (aE t1 t2 A n c rs xss++ks))[pre.length+1+i]?=some (ah t2 (rs.getD i dE).a (rs.getD i dE).n (rs.getD i dE).c (xss.getD i [])):=by
 rw [jQ (by omega),show pre.length+1+i - pre.length=i+1 by omega,lQ (by simp [aE,CW hr];omega)];simpa [aE]using HQ (t:=t2) hr hi
section
variable {P:Program} {N:Nat} {ops:Array Oper} {K:Env→World→Prop} {rest:List Oper} {e:Env} {w0 w w':World} {ks pre:List Ck} {ty:TypeId} {pos:String} {af:Array Edge}
end
structure Nc where
 top:aG
 rs:List aG
 xss:aiB
def Nc.ok(m:Nc):Prop:=m.xss.length=m.top.n
section
variable {P:Program} {N:Nat} {ops:Array Oper} {K:Env→World→Prop} {rest:List Oper} {e:Env} {w0 w w':World} {ks:List Ck} {d:Nat} {ty:TypeId} {pos:String} {af:Array Edge}
def T8(a n u:Nat)(R:Value→World→Prop):jm
 | .normal,e,w=>∃A f,e a= .pointer A∧Rd w A n f∧R (.tuple #[.agg ((List.range n).map f).toArray,e u]) w
 | .ret,e,w=>∃A f,e a= .pointer A∧Rd w A n f∧R (.tuple #[.agg ((List.range n).map f).toArray,e u]) w
 | _,_,_=>False
theorem kA{a n u:Nat}{R:Value→World→Prop}{A:aiC}{f:Nat→Value}{v:Value}(h:e a= .pointer A)(hR:Rd w A n f)(hv:e u=v)(h2:R (.tuple #[.agg ((List.range n).map f).toArray,v]) w):T8 a n u R .ret e w:=⟨A,f,h,hR,by rw [hv];exact h2⟩
theorem tW{fn:Func}{R:Value→World→Prop}{a t n b u:Nat}{fs:Array Field}{z:Value}[bB P t (.struct fs)][bp P t z n b](hr:fn.results= #[.cell a t,.tmp u])(wN:Nat.blt 0 n=true):∀x a1 e w,jE N a1 e→T8 a n u R x e w→bodyPost P fn (fun x w'=>∃v,x= .returned v∧R v w') x a1 w:=by
 intro x a1 e w he q;have hn:0<n:=by simpa [Nat.blt_eq]using wN
 have hg:=he.get a;have hh:=he.get u;have key:∀(A:aiC) (f:Nat→Value),e a= .pointer A→Rd w A n f→(results fn a1.tmps).run P w= .ok (.tuple #[.agg ((List.range n).map f).toArray,e u]) w:=by
  intro A f hA hR;obtain⟨q,rfl,hl⟩:=HT (P:=P) (t:=t) hn hR;rw [iN]at hg hh;simp [results,hr,hg,hh,hA,asAddr,hl]
 cases x<;>first
  | exact q.elim
  | (
   obtain⟨A,f,hA,hR,h2⟩:=q;exact⟨he.defers,_,key A f hA hR,_,O,h2⟩)
end
section
variable{t:TypeId}{bs:List Int}
variable {P:Program} {N:Nat} {ops:Array Oper} {K:Env→World→Prop} {rest:List Oper} {e:Env} {w0 w w':World} {ks:List Ck} {d:Nat} {ty:TypeId} {pos:String} {af:Array Edge}
theorem VA{el:TypeId}{x:Operand}{v0 v1 v2:Value}(hS:St w0 w ks)(hx:ev e x= .agg #[v0,v1,v2])(hb:Nat.blt d N=true)(hK:∀A w',St w0 w' (Bx el 3 A [v0,v1,v2]::ks)→aa P N ops K rest (a7 e d (.pointer A)) w')(hM:eH [v0,v1,v2]=false:=by rfl):aa P N ops K (⟨some d,.box el x,ty,pos,af,none⟩::rest) e w:= .FN hS hx hb rfl hK hM
variable {x y:Operand} {xt yt:TypeId} {i j:Int}
theorem UQ(i:Int):0≤IntKind.u64.wrap i∧IntKind.u64.wrap i≤18446744073709551615:=by rw [IntKind.wrap_u64];omega
theorem Nk(hx:ev e x= .int .u64 i)(hy:ev e y= .int .u64 j)(hb:Nat.blt d N=true)(hK:∀r:Int,0≤r∧r≤18446744073709551615→aa P N ops K rest (a7 e d (.int .u64 r)) w):
 aa P N ops K (⟨some d,.binOp .mul xt x y yt,ty,pos,af,none⟩::rest) e w:=
 .val (by simp [execOp,hx,hy,eqGuard,binOp,Op.intArith]) hb (hK _ (UQ (i*j)))
theorem Fw(hx:ev e x= .int .u64 i)(hy:ev e y= .int .u64 j)(hb:Nat.blt d N=true)(hK:∀r:Int,0≤r∧r≤18446744073709551615→aa P N ops K rest (a7 e d (.int .u64 r)) w):
 aa P N ops K (⟨some d,.binOp .add xt x y yt,ty,pos,af,none⟩::rest) e w:=
 .val (by simp [execOp,hx,hy,eqGuard,binOp,Op.intArith]) hb (hK _ (UQ (i+j)))
theorem WE(i:Int):0≤bits .and .u64 i 16777215∧bits .and .u64 i 16777215≤16777215:=by
 have h:∀a:BitVec 64,(a &&& BitVec.ofInt 64 16777215).toNat≤16777215:=fun a=>by
  rw [BitVec.toNat_and];exact Nat.and_le_right
 have e:bits .and .u64 i 16777215=IntKind.u64.wrap ((BitVec.ofInt 64 i &&& BitVec.ofInt 64 16777215).toNat:Int):=O;have:=h (BitVec.ofInt 64 i);rw [e,IntKind.wrap_u64];omega
theorem Vt(hx:ev e x= .int .u64 i)(hy:ev e y= .int .u64 16777215)(hb:Nat.blt d N=true)(hK:∀r:Int,0≤r∧r≤16777215→aa P N ops K rest (a7 e d (.int .u64 r)) w):
 aa P N ops K (⟨some d,.binOp .and xt x y yt,ty,pos,af,none⟩::rest) e w:=
 .val (by simp only [execOp,hx,hy,eqGuard,binOp,intBits_and];simp) hb (hK _ (WE i))
theorem VP{k:IntKind}(hx:ev e x= .int .u64 i)(hy:ev e y= .int k 33)(hb:Nat.blt d N=true)(hK:∀r:Int,aa P N ops K rest (a7 e d (.int .u64 r)) w):
 aa P N ops K (⟨some d,.binOp .shr xt x y yt,ty,pos,af,none⟩::rest) e w:=by
 refine .val (v:= .int .u64 (i.fdiv (2^33))) ?_ hb (hK _);have e1:min 33 IntKind.u64.bits=33:=by decide
 simp [execOp,hx,hy,eqGuard,binOp,Op.shift,e1]
def qQ(w:World)(A:aiC)(n:Nat)(bs:List Int):Prop:=bs.length=n∧(∀b∈bs,0≤b∧b≤255)∧Rd w A n (fun j=> .int .u8 (bs.getD j 0))
theorem qQ.below{w w':World}{A:aiC}{n:Nat}(h:qQ w A n bs)(hb:Below w.heap.size w w'):qQ w' A n bs:=⟨h.1,h.2.1,Rd.below h.2.2 hb⟩
theorem qQ.at_{A:aiC}{n:Nat}(h:qQ w A n bs){j:Int}(h0:0≤j)(h1:j<n):0≤bs.getD j.toNat 0∧bs.getD j.toNat 0≤255:=by
 have hl:j.toNat<bs.length:=by rw [h.1];omega
 rw [cJ,gf hl];exact h.2.1 _ (dQ hl)
theorem Ni{u:TypeDesc}[bB P t u]{A:aiC}{n:Nat}(hR:qQ w A n bs)(hx:ev e x= .pointer (aq A i.toNat))(h1:i.toNat<n)(hp:xj u=true)(hb:Nat.blt d N=true)(hK:aa P N ops K rest (a7 e d (.int .u8 (bs.getD i.toNat 0))) w):aa P N ops K (⟨some d,.load t x,ty,pos,af,none⟩::rest) e w:=
 .ld hR.2.2 hx h1 rfl hp hb hK
def zU:Nat→List Int→List (Nat×Value)
 | _,[]=> []
 | k,v::r=> (k,.int .i64 v)::zU (k+1) r
theorem ON:∀(vs:List Int) (k:Nat) (cells:Array Value),k+vs.length≤cells.size→∃out,Instr.fill (fun i=>some (i*1,1)) cells (zU k vs)=some out∧out.size=cells.size∧(∀j,j<k→out[j]?=cells[j]?)∧(∀j,j<vs.length→out[k+j]?=vs[j]?.map (Value.int .i64))∧(∀j,k+vs.length≤j→out[j]?=cells[j]?)
 | [],k,cells,_=> ⟨cells,rfl,rfl,fun _ _=>rfl,fun j hj=>absurd hj (jk _),fun _ _=>rfl⟩
 | v::r,k,cells,h=>by
  have hk:k<cells.size:=by simp at h;omega
  obtain⟨out,h1,h2,h3,h4,h5⟩:=ON r (k+1) (cells.setIfInBounds k (aiD v)) (by simp at h⊢;omega);refine⟨out,?_,by rw [h2];simp,fun j hj=>?_,fun j hj=>?_,fun j hj=>?_⟩
  ·show Instr.fill _ cells ((k,aiD v)::zU (k+1) r)=some out;rw [←h1];simp [Instr.fill,Value.cells,show ¬cells.size<k+1 by omega]
  ·rw [h3 j (by omega),sX,ag (by omega)]
  ·cases j with
   | zero=>rw [Nat.add_zero,h3 k (by omega),sX,aj rfl,aj hk];rfl
   | succ q=>
    have:=h4 q (by simpa using hj);rw [show k+ (q+1)=k+1+q by omega,this]
    rfl
  ·rw [h5 j (by simp at hj⊢;omega),sX,ag (by simp at hj;omega)]
theorem Yc(vs:List Int)(cells:Array Value)(h:cells.size=vs.length):Instr.fill (fun i=>some (i*1,1)) cells (zU 0 vs)=some (vs.map (Value.int .i64)).toArray:=by
 obtain⟨out,h1,h2,_,h4,_⟩:=ON vs 0 cells (by omega);rw [h1]
 congr 1
 apply Array.ext';apply List.ext_getElem?;intro j
 by_cases hj:j<vs.length
 ·have:=h4 j hj;rw [Nat.zero_add]at this;simpa using this
 rw [oH (by simpa [h2,h]using hj),oH (by simpa using hj)]
theorem vc{el:TypeId}{z:Value}{b n:Nat}[bB P t (.slice el)][bp P el z 1 b]{ps:Array (Nat×Operand)}(vs:List Int)(hS:St w0 w ks)(hv:(ps.toList.map fun p=> (p.1,ev e p.2))=zU 0 vs)(hn:vs.length=n)(qt:n≠0)(uJ:n≤1000)(hz:z.cells= #[z])(hb:Nat.blt d N=true)(hK:∀A w',St w0 w' (ah el A n n vs::ks)→aa P N ops K rest (a7 e d (.slice A n n)) w'):aa P N ops K (⟨some d,.buildSlice t n ps,ty,pos,af,none⟩::rest) e w:=by
 subst hn;obtain⟨inf,hi,fv,hs,iS⟩:=bp.get P el;have hA:=hS.alloc (vs.map (Value.int .i64)) el (by simp [maxLen];omega) (tS _);refine .val (w':=w.alloc (.cells (vs.map (Value.int .i64)).toArray el)) ?_ hb (hK _ _ (by simpa [ah]using hA));have hf:=Yc vs ((Array.range (vs.length*1)).map ((#[z]:Array Value)[· % (#[z]:Array Value).size]!)) (by simp);have sL:(ps.map fun p=> (p.1,ev e p.2)).toList=zU 0 vs:=by rw [Array.toList_map];exact hv
 have wj:¬16777216<vs.length:=by omega
 simp only [Nat.mul_one]at hf;simp [execOp,Instr.buildSlice,run_underlying (bB.out (P:=P) (t:=t)),sizeOf,typeInfo,zeroValue,hi,hs,fv,hz,newRow,hv,wj,qt];simp at hf;simp [hf]
theorem Vx{f0 f1 f2:Field}{z0 z1 z2 y0 y1 y2:Value}{b b0 b1 b2:Nat}[bB P t (.struct #[f0,f1,f2])][bp P t (.agg #[z0,z1,z2]) 3 b]{x0 x2:Operand}{v0 v2:Value}(sj:bp P f0.type y0 1 b0)(sk:bp P f1.type y1 1 b1)(uy:bp P f2.type y2 1 b2)(ho:f0.offset=0)(tJ:f1.offset=1)(zN:f2.offset=2)(h0:ev e x0=v0)(h2:ev e x2=v2)(c0:v0.oneCell'=true)(c2:v2.oneCell'=true)(hb:Nat.blt d N=true)(hK:aa P N ops K rest (a7 e d (.agg #[v0,z1,v2])) w):aa P N ops K (⟨some d,.build t #[(0,x0),(2,x2)],ty,pos,af,none⟩::rest) e w:=by
 obtain⟨inf,hi,fv,hs,iS⟩:=bp.get P t;obtain⟨Cw,eP,_,pA,_⟩:=sj.get P f0.type;obtain⟨Cx,jt,_,sJ,_⟩:=sk.get P f1.type;obtain⟨EJ,rm,_,ox,_⟩:=uy.get P f2.type;have e0:v0.cells= #[v0]:=by cases v0<;>simp [Value.oneCell']at c0<;>rfl
 have e2:v2.cells= #[v2]:=by cases v2<;>simp [Value.oneCell']at c2<;>rfl
 have ez:(Value.agg #[z0,z1,z2]).cells= #[z0,z1,z2]:=O;refine .val (w':=w) ?_ hb hK;simp [execOp,Instr.build,run_underlying (bB.out (P:=P) (t:=t)),sizeOf,typeInfo,zeroValue,hi,fv,eP,pA,jt,sJ,rm,ox,ho,tJ,zN,h0,e0,h2,e2,ez,Instr.fill]
end
theorem Mz{ks:List Ck}{i:Nat}{k:Ck}(h:ks[i]?=some k):ks.set i k=ks:=by
 apply List.ext_getElem?;intro j;rw [oI]
 split
 ·rename_i e;subst e;have hl:=(ia.1 h).1;rw [aj hl,h]
 rfl
theorem lB{ks:List Ck}{i:Nat}{k k':Ck}(h:ks[i]?=some k):(ks.set i k')[i]?=some k':=by
 have hl:=(ia.1 h).1;rw [oI,aj rfl,aj hl]
def fz(w0:World)(As:aiC)(k:Ck):Prop:=∃(Ac:aiC) (nc cc:Nat) (a h:Int) (bs:List Int),k=Bx 118 3 As [.slice Ac nc cc,aiD a,.int .u64 h]∧(0≤a∧a≤nc)∧nc≤1000000∧qQ w0 Ac nc bs
theorem tY{w0 w:World}{ks:List Ck}(i:Nat){As:aiC}{k:Ck}(n:Int)(hS:St w0 w ks)(hk:ks[i]?=some k)(hK:fz w0 As k):
 aA prog 135 [.pointer As,aiD n] w (fun v w'=>∃(r:Int) (k':Ck),v=aiD r∧(0≤r∧(1≤n→r<n)∧(n<1→r=0))∧fz w0 As k'∧St w0 w' (ks.set i k')):=by
 have DR:=hK;obtain⟨Ac,nc,cc,a,h,bs,rfl,ha,qu,hY⟩:=hK;refine bk func135 O ntmps135 O (cK O) (bK O ?_);refine aB _ O (fun h1=>?_) (fun h1=>?_)
 ·refine dN O (gP O ?_);exact⟨0,_,O,⟨Int.le_refl _,fun h=>by omega,fun _=>O⟩,DR,by rw [Mz hk];exact hS⟩
 refine av O (mh (hS.rd i hk) (Nat.succ_pos 2) O O (aH (hS.rd i hk) O O O O inferInstance (gK (k:= .u64) (hS.rd i hk) O O O O O ?_)));refine Nk O O O fun r1 kG=>?_
 refine Fw O O O fun r2 rz=>?_
 refine mh (hS.rd i hk) (Nat.succ_pos 2) O O (aH (hS.rd i hk) O O O O inferInstance (jS i hS hk O O O O ?_));intro w1 ao;have eh:=lB (k':=(⟨As,3,3,118,[.slice Ac nc cc,aiD a,.int .u64 r2]⟩:Ck)) hk;have ao:St w0 w1 (ks.set i (Bx 118 3 As [.slice Ac nc cc,aiD a,.int .u64 r2])):=ao;refine ad O (mh (ao.rd i eh) (Nat.succ_pos 2) O O (aH (ao.rd i eh) O O O O inferInstance (gK (k:= .u64) (ao.rd i eh) O O O O O ?_)));refine VP O O O fun r3=>?_
 refine Vt O O O fun r4 K6=>?_
 refine nk O O (IntWalk.i64_in _ (by omega)) (ay O ?_);refine dI [xP (As),xP (As),xP (aq (As) 1),xI (a),xP (As),xP (As),xP (aq (As) 0),xS (Ac) (nc) (cc),xI (((nc:Nat):Int)),xB (decide ((a)< (((nc:Nat):Int))))] (by kernel_rfl) (by kernel_rfl) O (eg O) ?_ ?_
 ·exact⟨Dr O,fun _ _ hb _ _=>mh ((ao.rd i eh).below hb) (Nat.succ_pos _) O O (Az O),fun _ _ hb _ _=>aH ((ao.rd i eh).below hb) O O O O inferInstance (Az O),fun _ _ hb _ _=>gK ((ao.rd i eh).below hb) O O O O O (Az O),Dr O,fun _ _ hb _ _=>mh ((ao.rd i eh).below hb) (Nat.succ_pos _) O O (Az O),fun _ _ hb _ _=>aH ((ao.rd i eh).below hb) O O O O inferInstance (Az O),fun _ _ hb _ _=>aM ((ao.rd i eh).below hb) O O O O O (Az O),fun _ _ _ _ _=>aa.len O O (Az O),Dr O,ae⟩
 intro u w2 dG _;have ar:=ao.later dG;have DZ:qQ w2 Ac nc bs:=hY.below ar.below;refine eo O ?_;refine aB _ O (fun h2=>?_) (fun h2=>?_)
 ·have Y3:=hY.at_ ha.1 h2;refine bP O ?_;refine dI [xI (r4),xP (As),xP (As),xP (aq (As) 0),xS (Ac) (nc) (cc),xP (As),xP (As),xP (aq (As) 1),xI (a),xP (aq Ac a.toNat),.ex (.int .u8 (bs.getD a.toNat 0)),xI (bs.getD a.toNat 0),xI ((r4)+ (bs.getD a.toNat 0)),xI ((r4)+ (bs.getD a.toNat 0))] (by kernel_rfl) (by kernel_rfl) O (eg O) ?_ ?_
  ·refine⟨fun _ _ _ _ aL=>pI O (by exact aL 13 _ O (by kernel_rfl)) O (Az O),Dr O,fun _ _ hb _ _=>mh ((ar.rd i eh).below hb) (Nat.succ_pos _) O O (Az O),fun _ _ hb _ _=>aH ((ar.rd i eh).below hb) O O O O inferInstance (Az O),fun _ _ hb _ _=>aM ((ar.rd i eh).below hb) O O O O O (Az O),Dr O,fun _ _ hb _ _=>mh ((ar.rd i eh).below hb) (Nat.succ_pos _) O O (Az O),fun _ _ hb _ _=>aH ((ar.rd i eh).below hb) O O O O inferInstance (Az O),fun _ _ hb _ _=>gK ((ar.rd i eh).below hb) O O O O O (Az O),?_,?_,?_,fun _ _ _ _ _=>aa.add O O O (by omega) (Az O),Dr O,ae⟩
   ·intro e1 w1 hb hp aL;refine aw (DZ.below hb).2.2 O O O (by omega) (by omega) (Az O)
   ·intro e1 w1 hb hp aL;refine Ni (DZ.below hb) O (by omega) O O (Az O)
   intro e1 w1 hb hp aL;refine nk O O (IntWalk.i64_in _ (by omega)) (Az O)
  intro u3 w3 gu _;have az:=ar.later gu;refine iq O (mh (az.rd i eh) (Nat.succ_pos 2) O O (aH (az.rd i eh) O O O O inferInstance (gK (az.rd i eh) O O O O O (aa.add O O O (by omega) (mh (az.rd i eh) (Nat.succ_pos 2) O O (aH (az.rd i eh) O O O O inferInstance (jS i az eh O O O O ?_)))))));intro w4 aJ;rw [kI]at aJ;refine ad O (aa.rem O O O (by omega) (bh O (gP O ?_)));exact⟨(r4+bs.getD a.toNat 0)%n,_,O,⟨Int.emod_nonneg _ (by omega),fun h=>Int.emod_lt_of_pos _ (by omega),fun h=>by omega⟩,⟨Ac,nc,cc,a+1,r2,bs,O,by omega,qu,hY⟩,aJ⟩
 refine av O (aa.rem O O O (by omega) (bh O (gP O ?_)));exact⟨r4%n,_,O,⟨Int.emod_nonneg _ (by omega),fun h=>Int.emod_lt_of_pos _ (by omega),fun h=>by omega⟩,⟨Ac,nc,cc,a,r2,bs,O,ha,qu,hY⟩,ar⟩
theorem acF{w0 w:World}{ks:List Ck}(i:Nat){As:aiC}{k:Ck}(A:aiC)(n c:Nat)(xs:List Int)(hS:St w0 w ks)(hk:ks[i]?=some k)(hK:fz w0 As k)(hR:∀k' w',St w0 w' (ks.set i k')→bS w' A n xs)(hn:0<n∧n≤1000000):
 aA prog 137 [.pointer As,.slice A n c] w (fun v w'=>∃(x:Int) (k':Ck),v=aiD x∧x∈xs∧fz w0 As k'∧St w0 w' (ks.set i k')):=by
 refine bk func137 O ntmps137 O (cK O) ?_;refine aQ O (aa.len O O ?_);refine aa.call (tY i (n:Int) hS hk hK) O O O ?_;rintro _ w1 ⟨r,k',rfl,⟨h0,h1,_⟩,og,hT⟩;have jc:=hR k' w1 hT;have hl:=jc.1;have h1:=h1 (by omega);refine aw jc.2 O O O (by omega) (by omega) (aT jc O (by omega) O O (bh O (gP O ?_)));refine⟨gi xs r,k',O,?_,og,hT⟩;obtain⟨q,rfl⟩:∃q:Nat,r=q:=⟨r.toNat,by omega⟩;rw [bX (by omega)];exact dQ _
def NK(l:List Oper):Bool:=l.zipIdx.all fun p=> (fm p.1).all fun ed=>Nat.blt ed.on p.2
theorem cV{o:Oper}{S:Nat→Bool}(h:∀ed∈fm o,S ed.on=true)(k:Nat)(hk:(fm o).any (fun ed=>Nat.beq ed.on k)=true):S k=true:=by
 obtain⟨ed,fL,hb⟩:=List.any_eq_true.1 hk;rw [←oL hb];exact h ed fL
section
variable {P:Program} {N:Nat} {e:Env} {w:World}
theorem xE{id:Nat}{l:List Oper}{Q:jm}(hm:P.follows .mixedOrders=true)(wF:NK l=true)(I:(Nat→Bool)→Env→World→Prop)(h0:∀w1,Below w.heap.size w w1→I (fun _=>false) e w1)
 (pV:∀(S:Nat→Bool) (i:Nat) (o:Oper) (e1:Env) (w1:World),l[i]?=some o→S i=false→(∀ed∈fm o,S ed.on=true)→(∀(k:Nat) (o':Oper),S k=true→l[k]?=some o'→∀ed∈fm o',S ed.on=true)→I S e1 w1→aa P N l.toArray (fun e2 w2=>I (fun k=>Nat.beq k i || S k) e2 w2) [o] e1 w1)
 (wG:∀(S:Nat→Bool) (e1:Env) (w1:World),(∀i,i<l.length→S i=true)→I S e1 w1→Q .normal e1 w1):Cd P N (.region id l.toArray true) Q e w:= .mk' fun a ha=>by
 have wE:∀(i:Nat) (o:Oper),l[i]?=some o→∀ed∈fm o,ed.on<i:=by
  intro i o ho ed fL;simp only [NK,List.all_eq_true]at wF;have:=wF (o,i) (by
   obtain⟨hi,KA⟩:=ia.1 ho;rw [List.mem_iff_getElem?];exact⟨i,by simp [ho]⟩)
  simpa [Nat.blt_eq]using this ed fL
 refine wp_region_any hm ?_;have key:∀(fuel:Nat) (listed:Array Bool) (a1:Act) (e1:Env) (w1:World),jE N a1 e1→listed.size=l.length→
  (∀(i:Nat) (o:Oper),listed.getD i false=true→l[i]?=some o→∀ed∈fm o,listed.getD ed.on false=true)→I (fun k=>listed.getD k false) e1 w1→(l.length - fuel≤(List.range l.length).countP fun i=>listed.getD i false)→
  wpAny P .any l.toArray (low N Q) fuel listed a1 w1:=by
  have nC:∀(listed:Array Bool) (a1:Act) (e1:Env) (w1:World),jE N a1 e1→I (fun k=>listed.getD k false) e1 w1→(∀i,i<l.length→listed.getD i false=true)→low N Q .normal a1 w1:=
   fun listed a1 e1 w1 hr hI dL=> ⟨e1,hr,wG _ e1 w1 dL hI⟩
  have Ey:∀(listed:Array Bool),listed.size=l.length→Region.ready .any l.toArray listed=[]→∀i,i<l.length→listed.getD i false=true:=by
   intro listed l7 uK i
   induction i using Nat.strongRecOn with
   | _ i ih=>
    intro hi;cases ym:listed.getD i false with
    | true=>rfl
    | false=>
     exfalso;have:i∈Region.ready .any l.toArray listed:=by
      rw [mem_ready];refine⟨?_,l[i],by simp [hi],fun ed fL om=>ih ed.on (wE i _ (gf hi) ed (qD.2 ⟨fL,om⟩)) (by have:=wE i _ (gf hi) ed (qD.2 ⟨fL,om⟩);omega)⟩;rw [iN,qL (by omega)]at ym⊢;exact ym
     rw [uK]at this;cases this
  intro fuel
  induction fuel with
  | zero=>
   intro listed a1 e1 w1 hr l7 cg hI ot;have dL:∀i,i<l.length→listed.getD i false=true:=by
    have h4:(List.range l.length).countP (fun i=>listed.getD i false)=(List.range l.length).length:=by
     have:=List.countP_le_length (p:=fun i=>listed.getD i false) (l:=List.range l.length);simp at this ot⊢;omega
    rw [List.countP_eq_length]at h4;intro i hi;exact h4 i (by simpa using hi)
   refine⟨?_,nC listed a1 e1 w1 hr hI dL⟩;rw [List.eq_nil_iff_forall_not_mem];intro i hi;obtain⟨h5,o,ho,_⟩:=mem_ready.1 hi;have rq:i<l.length:=by
    rcases Nat.lt_or_ge i l.length with h | h
    ·exact h
    ·simp [oH h]at ho
   have h6:=dL i rq;rw [iN,qL (by omega)]at h5 h6;simp at h5 h6;rw [h5]at h6;cases h6
  | succ fuel ih=>
   intro listed a1 e1 w1 hr l7 cg hI ot;refine⟨fun uK=>nC listed a1 e1 w1 hr hI (Ey listed l7 uK),fun i hi=>?_⟩;obtain⟨aL,o,ho,wy⟩:=mem_ready.1 hi;have ik:l[i]?=some o:=by simpa using ho
   have rq:i<l.length:=(ia.1 ik).1;have lq:∀ed∈fm o,listed.getD ed.on false=true:=fun ed fL=>wy ed (qD.1 fL).1 (qD.1 fL).2
   have tP:listed.getD i false=false:=by
    have h5:=aL;rw [iN,qL (by omega)]at h5⊢;exact h5
   have pQ:∀k,(listed.setIfInBounds i true).getD k false=if k=i then true else listed.getD k false:=by
    intro k;rw [iN,sX]
    by_cases dU:k=i
    ·subst dU;rw [aj rfl,aj (by omega),aj rfl];rfl
    ·rw [ag (fun e=>dU e.symm),ag dU,←iN]
   have hS:(fun k=> (listed.setIfInBounds i true).getD k false)=fun k=>Nat.beq k i || listed.getD k false:=by
    funext k;rw [pQ]
    by_cases dU:k=i
    ·subst dU;rw [aj rfl,Nat.beq_refl];rfl
    ·rw [ag dU];have:Nat.beq k i=false:=by
      cases hb:Nat.beq k i with
      | false=>rfl
      | true=>exact absurd (oL hb) dU
     rw [this];rfl
   have ak:=pV (fun k=>listed.getD k false) i o e1 w1 ik tP lq (fun k o' hk de=>cg k o' hk de) hI;have pB:=ak.run a1 hr;have tI:∀a2 w2,(∃e2,jE N a2 e2∧I (fun k=>Nat.beq k i || listed.getD k false) e2 w2)→wpAny P .any l.toArray (low N Q) fuel (listed.setIfInBounds i true) a2 w2:=by
    intro a2 w2 ⟨e2,rz,uy⟩;refine ih _ a2 e2 w2 rz (by simpa using l7) (fun k o' hk de ed fL=>?_) (by rw [hS];exact uy) ?_
    ·rw [pQ]
     by_cases yf:ed.on=i
     ·rw [aj yf]
     ·rw [ag yf]
      by_cases dU:k=i
      ·subst dU;rw [ik]at de;cases de;exact lq ed fL
      ·rw [pQ,ag dU]at hk;exact cg k o' hk de ed fL
    ·have D6:(List.range l.length).countP (fun k=> (listed.setIfInBounds i true).getD k false)=(List.range l.length).countP (fun k=>listed.getD k false)+1:=
      Bz (fun k=>listed.getD k false) (fun k=> (listed.setIfInBounds i true).getD k false) i tP pQ _ List.nodup_range (by simpa using rq)
     rw [D6];omega
   unfold wpOp;rw [ho];unfold wpList at pB;show if _ then _ else _
   by_cases hw:Region.wanted o (yielded l.toArray a1.tmps)=true
   ·rw [aj hw]at pB⊢;rcases pB with h5 | ⟨_,a0,w0,h5⟩
    ·refine .inl (H9 h5 (fun a2 w2 hx=>?_) (fun x a w hx hq=>hx hq.1));exact tI a2 w2 hx.2
    ·exact absurd h5.1 (by simp)
   ·rw [ag hw]at pB⊢;exact tI _ _ pB.2
 refine key l.length (Array.replicate l.length false) a e _ ha (by simp) (fun i o hi=>?_) (by
  have:(fun k=> (Array.replicate l.length false).getD k false)=fun _=>false:=by
   funext k;rw [iN,Array.getElem?_replicate]
   split<;>rfl
  rw [this];exact h0 _ ⟨⟨rfl,rfl,rfl,a8 _,fun _ _=>rfl⟩,fun _=>Nat.le_add_right _ _⟩) (by omega)
 exfalso;rw [iN,Array.getElem?_replicate]at hi
 split at hi<;>simp at hi
end
end
end Go.Proofs.YtopgfgdgfjddpaaGreatDoor.Vc
