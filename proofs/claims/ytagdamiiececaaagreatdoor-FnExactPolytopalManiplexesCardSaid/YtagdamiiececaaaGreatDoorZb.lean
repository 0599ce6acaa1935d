/-
 Lemmas. Conditions: as each states them.
-/
import Derived.Test.YtagdamiiececaaaGreatDoorInst
import Derived.Laws.IdiomCopy
import Derived.Shelf.Bits.Mul64
set_option maxHeartbeats 8000000
namespace Go.Proofs.YtagdamiiececaaaGreatDoor.Vc
open Tryz
section
open Go.RowKit
variable{p S:ah}{k:Nat}
theorem DA(n lo hi:Int)(w:aa):aG prog 82 [aj n,aj lo,aj hi] w (fun v w'=>v= .bool (decide (lo<=n/\n<=hi))/\w'=w):=by
 refine bs func82 O ntmps82 O (bF O) (aY O ?_);refine bR 10 O (fun h=>?_) (fun h=>?_)
 ·refine ar O (aq O (ar O (aq O (ar O (bW O ?_)))));refine bG O ?_;exact⟨by simp [h],O⟩
 refine au O (au O (au O (bW O ?_)));refine bG O ?_;exact⟨by simp [h],O⟩
theorem oK(n lo hi:Int)(w:aa):aG prog 79 [aj n,aj lo,aj hi] w (fun v w'=>v= .bool (decide (lo<=n/\n<=hi))/\w'=w):=by
 refine bs func79 O ntmps79 O (bF O) (aY O ?_);refine bR 10 O (fun h=>?_) (fun h=>?_)
 ·refine ar O (aq O (ar O (aq O (ar O (bW O ?_)))));refine bG O ?_;exact⟨by simp [h],O⟩
 refine au O (au O (au O (bW O ?_)));refine bG O ?_;exact⟨by simp [h],O⟩
def gG(p:ah):Prop:=p.length<=400/\(∀x∈p,0<=x/\x<p.length)/\p.Nodup
instance (p:ah):Decidable (gG p):=by unfold gG;exact inferInstance
def Seen(p:ah)(k:Nat)(S:List Bool):Prop:=
 S.length=p.length/\(∀x∈p.take k,0<=x/\x<p.length)/\(p.take k).Nodup/\∀x:Int,0<=x->x<p.length->(gb S x=true↔x∈p.take k)
theorem bQ(h:k<p.length):gi p k=p[k]:=by simp [gi,bX,dE h]
theorem mh(h:k<p.length):p.take (k+1)=p.take k++ [gi p k]:=by rw [bQ h,gk h]
theorem vA{S:List Bool}{x y:Int}{b:Bool}(hx:0<=x)(jI:x<S.length)(hy:0<=y):gb (S.set x.toNat b) y=if x=y then b else gb S y:=by
 simp only [gb,bX,jy]
 by_cases e:x=y
 ·subst e;rw [aF rfl,aF rfl,aF (by omega)];rfl
 rw [aB (by omega),aB e]
theorem mF{x y:Int}{b:Int}(hx:0<=x)(jI:x<S.length)(hy:0<=y):gi (S.set x.toNat b) y=if x=y then b else gi S y:=by
 simp only [gi,bX,jy]
 by_cases e:x=y
 ·subst e;rw [aF rfl,aF rfl,aF (by omega)];rfl
 rw [aB (by omega),aB e]
theorem Seen.zero(p:ah):Seen p 0 (List.replicate p.length false):=⟨by simp,by simp,by simp,fun x h0 h1=>by
 simp [gb,bX,List.getElem?_replicate];split<;>simp⟩
theorem Seen.bad{S:List Bool}(h:Seen p k S)(hk:k<p.length)(hb:¬(0<=gi p k/\gi p k<=p.length - 1)):¬gG p:=fun hp=>by
 have:=hp.2.1 (gi p k) (by rw [bQ hk];exact di hk);omega
theorem Seen.J8{S:List Bool}(h:Seen p k S)(hk:k<p.length)(h0:0<=gi p k/\gi p k<=p.length - 1)(hb:gb S (gi p k)=true):¬gG p:=fun hp=>by
 have h1:=(h.2.2.2 (gi p k) h0.1 (by omega)).1 hb;have h2:(p.take (k+1)).Nodup:=hp.2.2.sublist (List.take_sublist _ _);rw [mh hk,List.nodup_append]at h2;exact h2.2.2 _ h1 _ (by simp) O
theorem Seen.step{S:List Bool}(h:Seen p k S)(hk:k<p.length)(h0:0<=gi p k/\gi p k<=p.length - 1)(hb:gb S (gi p k)=false):Seen p (k+1) (S.set (gi p k).toNat true):=by
 obtain⟨h1,h2,h3,h4⟩:=h;have h5:¬gi p k∈p.take k:=fun hm=>by have:=(h4 _ h0.1 (by omega)).2 hm;rw [hb]at this;cases this
 refine⟨by simpa using h1,?_,?_,fun x hx jI=>?_⟩
 ·rw [mh hk];intro x hx;rcases gQ.1 hx with hx | hx
  ·exact h2 x hx
  simp at hx;subst hx;omega
 ·rw [mh hk,List.nodup_append];refine⟨h3,by simp,fun a ha b jU=>?_⟩;simp at jU;subst jU;intro e;subst e;exact h5 ha
 rw [vA h0.1 (by omega) hx,mh hk,gQ]
 by_cases e:gi p k=x
 ·simp [e]
 rw [aB e,h4 x hx jI];simp;intro h;exact absurd h.symm e
theorem Seen.done{S:List Bool}(h:Seen p k S)(hk:¬k<p.length)(hl:p.length<=400):gG p:=by
 obtain⟨h1,h2,h3,h4⟩:=h;rw [eI (by omega)]at h2 h3;exact⟨hl,h2,h3⟩
theorem DD(A:ai)(n c:Nat)(p:ah)(w:aa)(hR:bS w A n p):aG prog 215 [.slice A n c] w (fun v w'=>v= .bool (decide (gG p))/\St w w' []):=by
 have hl:=hR.1;subst hl;refine bs func215 O ntmps215 O (bF O) ?_;refine aY O (aR O O (aA O ?_));refine aJ _ O (fun h=>?_) (fun h=>?_)
 ·refine bV O (bG O ?_);exact⟨by rw [cb (fun hp:gG p=>by have:=hp.1;omega)],St.refl _⟩
 refine aC O (aR O O ?_);refine pD p.length (St.refl w) O O (by omega) fun A1 w1 aD=>aA O (Cd.loop (α:=Nat×List Bool) (fun s=> [(0,.slice A p.length c),(3,.slice A1 p.length p.length),(4,aj (s.1:Int))]) (fun s w'=>St w w' [dC 4 A1 p.length p.length s.2]/\s.1<=p.length/\Seen p s.1 s.2) (fun s=>p.length - s.1) (0,List.replicate p.length false) (Wn O) ⟨aD,bk _,Seen.zero p⟩ ?_);rintro⟨k,S⟩ e w2 ⟨ay,hk,hI⟩;dsimp only at ay hk hI|-;refine aY O (aR O O (aA O ?_));refine aJ _ O (fun h1=>?_) (fun h1=>?_)
 ·refine aC O (Wf (ay.dh hR).2 O O O (by omega) h1 (a6 (ay.dh hR) O ?_));refine aq O (aR O O (gH O O O (by omega) ?_));refine aO (DA _ _ _ _) O ?_;rintro _ _ ⟨rfl,rfl⟩
  first | refine dv rfl rfl ?_ | refine eJ rfl rfl ?_
  refine aq O (bR 26 O (fun h2=>?_) (fun h2=>?_))
  ·refine au O (au O (au O (au O (au O (au O (au O (aA O ?_)))))));refine Cd.eP O (bV O (cy (b9 ?_)));refine bG O ?_;exact⟨by rw [cb (hI.bad (by omega) (by omega))],ay.none⟩
  refine ar O (aq O (ar O (aq O (ar O (aq O (ar O ?_))))));refine Wf (ay.dh hR).2 O O O (by omega) h1 (ar O (a6 (ay.dh hR) O (ar O (aw (ay.fm 0 O).2 O (ar O (lh (ay.fm 0 O) O (by omega) O O (aA O ?_)))))));refine Cd.cond O (fun h3=>?_) (fun h3=>?_)
  ·refine bV O (cy (b9 ?_));refine bG O ?_;exact⟨by rw [cb (hI.J8 (by omega) (by omega) h3)],ay.none⟩
  refine aC O (Wf (ay.dh hR).2 O O O (by omega) h1 (a6 (ay.dh hR) O (aw (ay.fm 0 O).2 O (mw 0 ay O O O (by omega) ?_))));intro w3 aL;refine aq O (aI O (aM O (tQ ?_)));exact⟨(k+1,S.set (gi p k).toNat true),by show p.length - (k+1)<p.length - k;omega,(Wn O),aL,by show k+1<=_;omega,hI.step (by omega) (by omega) h3⟩
 refine bj O (bl (dd O ?_));refine bG O ?_;exact⟨by rw [dF (hI.done (by omega) (by omega))],ay.none⟩
def fill{α:Type}(k:Nat)(xs:List α)(d:α):List α:=xs.take k++List.replicate (xs.length - k) d
theorem MG(A:ai)(n c:Nat)(xs:ah)(A':ai)(n' c':Nat)(ys:ah)(w:aa)(hR:bS w A n xs)(ij:bS w A' n' ys)(hn:n<=9223372036854775807):
 aG prog 204 [.slice A n c,.slice A' n' c'] w (fun v w'=>v= .bool (decide (xs=ys))/\St w w' []):=by
 have hl:=hR.1;have lz:=ij.1;subst hl;subst lz;refine bs func204 O ntmps204 O (bF O) ?_;refine aY O (aR O O (aq O (aR O O (aA O ?_))));refine aJ _ O (fun h=>?_) (fun h=>?_)
 ·refine bV O (bG O ?_);exact⟨by rw [cb (fun e:xs=ys=>h (by rw [e]))],St.refl _⟩
 refine cj O (Cd.loop (α:=Nat) (fun k=> [(0,.slice A xs.length c),(1,.slice A' ys.length c'),(5,aj k)]) (fun k w'=>St w w' []/\k<=xs.length/\xs.take k=ys.take k) (fun k=>xs.length - k) 0 (Wn O) ⟨St.refl w,bk _,O⟩ ?_);rintro k e w2 ⟨ay,hk,hI⟩;have hle:xs.length=ys.length:=by omega
 refine aY O (aR O O (aA O ?_));refine aJ _ O (fun h1=>?_) (fun h1=>?_)
 ·have hA:=ay.dh hR;have hB:=ay.dh ij;have h2:(k:Int)<ys.length:=by omega
  have hx:=bQ (p:=xs) (k:=k) (by omega);have hy:=bQ (p:=ys) (k:=k) (by omega);refine cj O (cN [xS (A) (xs.length) (c),xI ((k:Int)),xP (az (A) ((k:Int)).toNat),xI (gi (xs) ((k:Int))),xS (A') (ys.length) (c'),xI ((k:Int)),xP (az (A') ((k:Int)).toNat),xI (gi (ys) ((k:Int))),xB (decide (¬(gi (xs) ((k:Int)))=(gi (ys) ((k:Int)))))] O (da O) ?_ ?_)
  ·exact⟨Dr O,Dr O,fun _ _ hb _ _=>aw (hA.ao hb).2 O Az,fun _ _ hb _ _=>a6 (hA.ao hb) O Az,Dr O,Dr O,fun _ _ hb _ _=>aw (hB.ao hb).2 O Az,fun _ _ hb _ _=>a6 (hB.ao hb) O Az,Dr O,av⟩
  intro u w3 dZ _;have aL:=ay.ao dZ;refine dM O (aJ _ O (fun h3=>?_) (fun h3=>?_))
  ·refine bV O (cy (b9 ?_));refine bG O ?_;refine⟨by rw [cb (fun e:xs=ys=>h3 (by rw [e]))],aL⟩
  refine aC O (aI O (aM O (tQ ?_)));refine⟨k+1,by omega,(Wn O),aL,by omega,?_⟩;rw [mh (by omega),mh (by omega),hI,fp.1 h3]
 refine bj O (bl (dd O ?_));refine bG O ⟨?_,ay⟩;rw [eI (by omega),eI (by omega)]at hI;rw [dF hI]
theorem cQ{p:ag}(h:k<p.length):gl p k=p[k]:=by simp [gl,bX,dE h]
theorem qB{p:ag}(h:k<p.length):p.take (k+1)=p.take k++ [gl p k]:=by rw [cQ h,gk h]
theorem MF(A:ai)(n c:Nat)(rs:List aH)(xs:ag)(A':ai)(n' c':Nat)(rs':List aH)(ys:ag)(w:aa)(hR:bu w A n rs xs)(ij:bu w A' n' rs' ys)(hn:n<=9223372036854775807):
 aG prog 141 [.slice A n c,.slice A' n' c'] w (fun v w'=>v= .bool (decide (xs=ys))/\St w w' []):=by
 have hl:=hR.len;have lz:=ij.len;subst hl;subst lz;refine bs func141 O ntmps141 O (bF O) ?_;refine aY O (aR O O (aq O (aR O O (aA O ?_))));refine aJ _ O (fun h=>?_) (fun h=>?_)
 ·refine bV O (bG O ?_);exact⟨by rw [cb (fun e:xs=ys=>h (by rw [e]))],St.refl _⟩
 refine cj O (Cd.loop (α:=Nat) (fun k=> [(0,.slice A xs.length c),(1,.slice A' ys.length c'),(5,aj k)]) (fun k w'=>St w w' []/\k<=xs.length/\xs.take k=ys.take k) (fun k=>xs.length - k) 0 (Wn O) ⟨St.refl w,bk _,O⟩ ?_);rintro k e w2 ⟨ay,hk,hI⟩;have hle:xs.length=ys.length:=by omega
 refine aY O (aR O O (aA O ?_));refine aJ _ O (fun h1=>?_) (fun h1=>?_)
 ·have hA:=ay.bE hR;have hB:=ay.bE ij;have qY:=hA.top;have q8:=hB.top;have h2:(k:Int)<ys.length:=by omega
  have hx:=cQ (p:=xs) (k:=k) (by omega);have hy:=cQ (p:=ys) (k:=k) (by omega);have ha:=hA.at_ (i:=k) (by omega) h1;have jU:=hB.at_ (i:=k) (by omega) h2;have hc:=hA.cap_ (i:=k) (by omega) h1;refine cj O (cN [xS (A) (xs.length) (c),xI ((k:Int)),xP (az (A) ((k:Int)).toNat),xS ((rg (rs) ((k:Int))).a) ((rg (rs) ((k:Int))).n) ((rg (rs) ((k:Int))).c),xS (A') (ys.length) (c'),xI ((k:Int)),xP (az (A') ((k:Int)).toNat),xS ((rg (rs') ((k:Int))).a) ((rg (rs') ((k:Int))).n) ((rg (rs') ((k:Int))).c),xB (decide (gl xs k=gl ys k)),xB (decide (¬(gl xs k=gl ys k)))] O (da O) ?_ ?_)
  ·refine⟨Dr O,Dr O,fun _ _ hb _ _=>aw (qY.ao hb).2 O Az,fun _ _ hb _ _=>bn (qY.ao hb) O Az,Dr O,Dr O,fun _ _ hb _ _=>aw (q8.ao hb).2 O Az,fun _ _ hb _ _=>bn (q8.ao hb) O Az,?_,fun _ _ _ _ _=>dv O O Az,av⟩;intro e1 w1 hb hp aZ;refine aO (MG _ _ _ _ _ _ _ _ _ (ha.ao hb) (jU.ao hb) (by omega)) O ?_;rintro _ w2 ⟨rfl,ax⟩;refine ak.n ?_;exact ew.dn ax.below (by exact O)
  intro u w3 dZ _;have aL:=ay.ao dZ;refine dM O (aJ _ O (fun h3=>?_) (fun h3=>?_))
  ·refine bV O (cy (b9 ?_));refine bG O ?_;refine⟨by rw [cb (fun e:xs=ys=>h3 (by rw [e]))],aL⟩
  refine aC O (aI O (aM O (tQ ?_)));refine⟨k+1,by omega,(Wn O),aL,by omega,?_⟩;rw [qB (by omega),qB (by omega),hI,fp.1 h3]
 refine bj O (bl (dd O ?_));refine bG O ⟨?_,ay⟩;rw [eI (by omega),eI (by omega)]at hI;rw [dF hI]
theorem MH(A:ai)(n c:Nat)(rs:List aH)(xs:ag)(A':ai)(n' c':Nat)(rs':List aH)(ys:ag)(w:aa)(hR:bu w A n rs xs)(ij:bu w A' n' rs' ys)(hn:n<=9223372036854775807):
 aG prog 76 [.agg #[.slice A n c],.agg #[.slice A' n' c']] w (fun v w'=>v= .bool (decide (xs=ys))/\St w w' []):=by
 refine bs func76 O ntmps76 O (bF O) (aY O (gS (St.refl w) O O ?_));intro A1 w1 aD;refine gS aD O O fun A2 w2 ay=>aq O (aT (ay.rd 1 O) O (a7 (ay.rd 1 O) O (aT (ay.rd 0 O) O (a7 (ay.rd 0 O) O (aO (MF _ _ _ _ _ _ _ _ _ _ _ (ay.bE hR) (ay.bE ij) hn) O ?_)))));rintro _ w3 ⟨rfl,aL⟩;have aL:=ay.call aL
 first | refine dv rfl rfl ?_ | refine eJ rfl rfl ?_
 refine aA O (aJ _ O (fun h3=>?_) (fun h3=>?_))
 ·refine bV O (bG O ?_);exact⟨by rw [cb h3],aL.none⟩
 refine bV O (bG O ?_);exact⟨by rw [dF (fp.1 h3)],aL.none⟩
theorem tt(A:ai)(n c:Nat)(w:aa):aG prog 106 [.slice A n c] w (fun v w'=>v=aj n/\w'=w):=by
 refine bs func106 O ntmps106 O (bF O) ?_;refine aY O (aR O O (bW O ?_));exact eF O ⟨O,O⟩
theorem tu(A:ai)(n c:Nat)(w:aa):aG prog 120 [.slice A n c] w (fun v w'=>v=aj n/\w'=w):=by
 refine bs func120 O ntmps120 O (bF O) ?_;refine aY O (aR O O (bW O ?_));exact eF O ⟨O,O⟩
theorem QF(A:ai)(n c:Nat)(p:ah)(w:aa)(hR:bS w A n p):aG prog 193 [.slice A n c] w (fun v w'=>v= .bool (decide (gG p))/\St w w' []):=by
 have hl:=hR.1;subst hl;refine bs func193 O ntmps193 O (bF O) ?_;refine aY O (aR O O (aA O ?_));refine aJ _ O (fun h=>?_) (fun h=>?_)
 ·refine bV O (bG O ?_);exact⟨by rw [cb (fun hp:gG p=>by have:=hp.1;omega)],St.refl _⟩
 refine aC O (aR O O ?_);refine pD p.length (St.refl w) O O (by omega) fun A1 w1 aD=>aq O (aR O O (aA O ?_));refine Cd.loop (α:=Nat×List Bool) (fun s=> [(0,.slice A p.length c),(3,.slice A1 p.length p.length),(12,.slice A p.length c),(13,aj (p.length:Int)),(14,aj (s.1:Int))]) (fun s w'=>St w w' [dC 4 A1 p.length p.length s.2]/\s.1<=p.length/\Seen p s.1 s.2) (fun s=>p.length - s.1) (0,List.replicate p.length false) (Wn O) ⟨aD,bk _,Seen.zero p⟩ ?_;rintro⟨k,S⟩ e w2 ⟨ay,hk,hI⟩;dsimp only at ay hk hI|-;refine bH O (aJ _ O (fun h1=>?_) (fun h1=>?_))
 ·refine aC O (Wf (ay.dh hR).2 O O O (by omega) h1 (a6 (ay.dh hR) O (aq O (aO (tt _ _ _ _) O ?_))));rintro _ _ ⟨rfl,rfl⟩;refine gH O O O (by omega) (aO (oK _ _ _ _) O ?_);rintro _ _ ⟨rfl,rfl⟩
  first | refine dv rfl rfl ?_ | refine eJ rfl rfl ?_
  refine aq O (bR 24 O (fun h2=>?_) (fun h2=>?_))
  ·refine au O (au O (au O (au O (aA O ?_))));refine Cd.eP O (bV O (cy (b9 ?_)));refine bG O ?_;exact⟨by rw [cb (hI.bad (by omega) (by omega))],ay.none⟩
  refine ar O (aq O (ar O (aq O (ar O ?_))));refine aw (ay.fm 0 O).2 O (ar O (lh (ay.fm 0 O) O (by omega) O O (aA O ?_)));refine Cd.cond O (fun h3=>?_) (fun h3=>?_)
  ·refine bV O (cy (b9 ?_));refine bG O ?_;exact⟨by rw [cb (hI.J8 (by omega) (by omega) h3)],ay.none⟩
  refine aC O (aw (ay.fm 0 O).2 O (mw 0 ay O O O (by omega) ?_));intro w3 aL;refine aq O (aI O (aM O (tQ ?_)));exact⟨(k+1,S.set (gi p k).toNat true),by show p.length - (k+1)<p.length - k;omega,(Wn O),aL,by show k+1<=_;omega,hI.step (by omega) (by omega) h3⟩
 refine bj O (bl (dd O ?_));refine bG O ?_;exact⟨by rw [dF (hI.done (by omega) (by omega))],ay.none⟩
def kh(p:ah):Prop:=∀i:Nat,i<p.length->gi p i≠i/\gi p (gi p i)=i
instance (p:ah):Decidable (kh p):=by unfold kh;exact inferInstance
theorem gG.range(h:gG p){i:Int}(h0:0<=i)(h1:i<p.length):0<=gi p i/\gi p i<p.length:=by
 have e:gi p i=p[i.toNat]'(by omega):=by simp [gi,bX,dE (show i.toNat<p.length by omega)]
 rw [e];exact h.2.1 _ (di _)
theorem Is(A:ai)(n c:Nat)(p:ah)(w:aa)(hR:bS w A n p)(hp:gG p):aG prog 216 [.slice A n c] w (fun v w'=>v= .bool (decide (kh p))/\w'=w):=by
 have hl:=hR.1;subst hl;have HJ:=hp.1;refine bs func216 O ntmps216 O (bF O) (bH O ?_);refine Cd.loop (α:=Nat) (fun k=> [(0,.slice A p.length c),(3,aj k)]) (fun k w'=>w'=w/\k<=p.length/\∀i,i<k->gi p i≠i/\gi p (gi p i)=i) (fun k=>p.length - k) 0 (Wn O) ⟨O,bk _,fun i hi=>by omega⟩ ?_;rintro k e w2 ⟨rfl,hk,hI⟩;refine aY O (aR O O (aA O ?_));refine aJ _ O (fun h1=>?_) (fun h1=>?_)
 ·have hr:=hp.range (i:=k) (by omega) h1;refine aC O (Wf hR.2 O O O (by omega) h1 (a6 hR O (aq O ?_)));refine bR 16 O (fun h2=>?_) (fun h2=>?_)
  ·refine au O (au O (au O (au O (au O (au O (au O (au O (au O (aA O ?_)))))))));refine Cd.eP O (bV O (cy (b9 ?_)));refine bG O ?_;exact⟨by rw [cb (fun hf:kh p=> (hf k (by omega)).1 h2)],O⟩
  refine ar O (aq O (ar O (aq O (ar O (aq O (ar O ?_))))));refine Wf hR.2 O O O (by omega) h1 (ar O (a6 hR O (ar O (aw hR.2 O (ar O (a6 hR O ?_))))));refine ar O (aq O (ar O (aA O ?_)));refine aJ _ O (fun h3=>?_) (fun h3=>?_)
  ·refine bV O (cy (b9 ?_));refine bG O ?_;exact⟨by rw [cb (fun hf:kh p=>h3 (hf k (by omega)).2)],O⟩
  refine aC O (aI O (aM O (tQ ?_)));refine⟨k+1,by omega,(Wn O),O,by omega,fun i hi=>?_⟩
  by_cases e:i=k
  ·subst e;exact⟨h2,fp.1 h3⟩
  exact hI i (by omega)
 refine bj O (bl (dd O ?_));refine bG O ?_;exact⟨by rw [dF (show kh p from fun i hi=>hI i (by omega))],O⟩
theorem Qz(A:ai)(n c:Nat)(p:ah)(w:aa)(hR:bS w A n p):aG prog 126 [.slice A n c] w (fun v w'=>v= .bool (decide (gG p/\kh p))/\St w w' []):=by
 have hl:=hR.1;subst hl;refine bs func126 O ntmps126 O (bF O) (aY O (aO (QF _ _ _ _ _ hR) O ?_));rintro _ w1 ⟨rfl,aD⟩
 first | refine dv rfl rfl ?_ | refine eJ rfl rfl ?_
 refine aA O (aJ _ O (fun hp=>?_) (fun hp=>?_))
 ·refine bV O (bG O ?_);exact⟨by rw [cb (fun h=>hp h.1)],aD⟩
 have hp:=fp.1 hp;have HJ:=hp.1;refine aC O (aR O O (aA O ?_));refine Cd.loop (α:=Nat) (fun k=> [(0,.slice A p.length c),(8,.slice A p.length c),(9,aj (p.length:Int)),(10,aj k)]) (fun k w'=>St w w' []/\k<=p.length/\∀i,i<k->gi p i≠i/\gi p (gi p i)=i) (fun k=>p.length - k) 0 (Wn O) ⟨aD,bk _,fun i hi=>by omega⟩ ?_;rintro k e w2 ⟨ay,hk,hI⟩;refine bH O (aJ _ O (fun h1=>?_) (fun h1=>?_))
 ·have hr:=hp.range (i:=k) (by omega) h1;have hA:=ay.dh hR;refine aC O (Wf hA.2 O O O (by omega) h1 (a6 hA O (aq O ?_)));refine bR 18 O (fun h2=>?_) (fun h2=>?_)
  ·refine au O (au O (au O (au O (au O (au O (aA O ?_))))));refine Cd.eP O (bV O (cy (b9 ?_)));refine bG O ?_;exact⟨by rw [cb (fun hf:gG p/\kh p=> (hf.2 k (by omega)).1 h2)],ay⟩
  refine ar O (aq O (ar O (aq O (ar O ?_))));refine aw hA.2 O (ar O (a6 hA O ?_));refine ar O (aq O (ar O (aA O ?_)));refine aJ _ O (fun h3=>?_) (fun h3=>?_)
  ·refine bV O (cy (b9 ?_));refine bG O ?_;exact⟨by rw [cb (fun hf:gG p/\kh p=>h3 (hf.2 k (by omega)).2)],ay⟩
  refine aC O (aI O (aM O (tQ ?_)));refine⟨k+1,by omega,(Wn O),ay,by omega,fun i hi=>?_⟩
  by_cases e:i=k
  ·subst e;exact⟨h2,fp.1 h3⟩
  exact hI i (by omega)
 refine bj O (bl (dd O ?_));refine bG O ?_;exact⟨by rw [dF (show gG p/\kh p from⟨hp,fun i hi=>hI i (by omega)⟩)],ay⟩
theorem zi(A Am:ai)(n c:Nat)(f:Nat->ab)(w:aa)(hR:Rd w A 1 f)(hf:f 0= .slice Am n c):aG prog 124 [.pointer A] w (fun v w'=>v=aj n/\w'=w):=by
 refine bs func124 O ntmps124 O (bF O) (aY O ?_);refine eT hR (by decide) O O (aT hR O (Wm hR O O hf O O (aO (tu _ _ _ _) O ?_)));rintro _ _ ⟨rfl,rfl⟩;refine bW O (eF O ?_);exact⟨O,O⟩
theorem qS(A Am:ai)(n c:Nat)(rs:List aH)(xss:ag)(f:Nat->ab)(w:aa)(hR:Rd w A 1 f)(hf:f 0= .slice Am n c)(hM:bu w Am n rs xss)(hn:0<n):aG prog 125 [.pointer A] w (fun v w'=>v=aj ((rg rs 0).n:Int)/\w'=w):=by
 refine bs func125 O ntmps125 O (bF O) (aY O ?_);refine eT hR (by decide) O O (aT hR O (Wm hR O O hf O O (aw hM.top.2 O (bn hM.top O (aO (tt _ _ _ _) O ?_)))));rintro _ _ ⟨rfl,rfl⟩;refine bW O (eF O ?_);exact⟨O,O⟩
end
section
variable{N i:Nat}{l p b:ah}{x y z pt:Int}
theorem DS:∀(n:Nat) (l:List Nat),l.Nodup->(∀x∈l,x<n)->l.length<=n
 | 0,l,_,h=>by
  cases l with
  | nil=>simp
  | cons a l=>exact absurd (h a (by simp)) (by omega)
 | n+1,l,hn,h=>by
  have h1:=DS n (l.erase n) (hn.erase n) (fun x hx=>by
   have h2:=(hn.mem_erase_iff).1 hx;have:=h x h2.2;omega)
  have:=List.length_erase_le (a:=n) (l:=l);rw [List.length_erase]at h1
  split at h1<;>omega
theorem oH(hn:l.Nodup)(h:∀x∈l,0<=x/\x<N):l.length<=N:=by
 have:=DS N (l.map Int.toNat) (by
  rw [List.nodup_iff_pairwise_ne,List.pairwise_map];refine List.Pairwise.imp_of_mem ?_ hn;intro a b ha hb jD e;have:=h a ha;have:=h b hb;omega) (fun x hx=>by
  obtain⟨y,hy,rfl⟩:=fq.1 hx;have:=h y hy;omega)
 simpa using this
def Sys(N:Nat)(xss:ag):Prop:=∀p∈xss,p.length=N/\∀x:Int,0<=x->x<N->0<=gi p x/\gi p x<N
inductive Reach(xss:ag)(x:Int):Int->Prop where
 | refl:Reach xss x x
 | step {y:Int} {p:ah}:Reach xss x y->p∈xss->Reach xss x (gi p y)
theorem Reach.trans{xss:ag}(h:Reach xss x y)(h':Reach xss y z):Reach xss x z:=by
 induction h' with
 | refl=>exact h
 | step _ hp ih=>exact .step ih hp
def fW(out:ah)(y:Int):ah:=if y∈out then out else out++ [y]
def expand(xss:ag)(x:Int)(out:ah):ah:=xss.foldl (fun o p=>fW o (gi p x)) out
def jP(xss:ag):Nat->Nat->ah->ah
 | 0,_,out=>out
 | f+1,i,out=>if i<out.length then jP xss f (i+1) (expand xss (gi out i) out)else out
def cK(N:Nat)(xss:ag)(pt:Int):ah:=jP xss (N+1) 0 [pt]
theorem D4{out:ah}:z∈fW out y↔z∈out\/z=y:=by
 unfold fW
 split
 ·constructor
  ·exact Or.inl
  rintro(h | rfl)
  ·exact h
  assumption
 simp
theorem Tn{out:ah}(h:out.Nodup):(fW out y).Nodup:=by
 unfold fW
 split
 ·exact h
 rename_i hy;rw [List.nodup_append];refine⟨h,by simp,fun a ha b hb=>?_⟩;simp at hb;subst hb;rintro rfl;exact hy ha
theorem D5(out:ah)(y:Int):out<+:fW out y:=by
 unfold fW
 split
 ·exact List.prefix_rfl
 exact List.prefix_append _ _
structure Good(N:Nat)(xss:ag)(pt:Int)(out:ah):Prop where
 nodup:out.Nodup
 range:∀x∈out,0<=x/\x< (N:Int)
 reach:∀x∈out,Reach xss pt x
theorem Good.push{xss:ag}{out:ah}(h:Good N xss pt out)(hs:Sys N xss)(hx:x∈out)(hp:p∈xss):Good N xss pt (fW out (gi p x)):=
 ⟨Tn h.nodup,fun z hz=>by
  rcases D4.1 hz with hz | rfl
  ·exact h.range z hz
  ·exact(hs p hp).2 x (h.range x hx).1 (h.range x hx).2,fun z hz=>by
  rcases D4.1 hz with hz | rfl
  ·exact h.reach z hz
  exact .step (h.reach x hx) hp⟩
theorem Good.len{xss:ag}{out:ah}(h:Good N xss pt out):out.length<=N:=oH h.nodup h.range
theorem foldl_push{N:Nat}{xss:ag}{pt:Int}(hs:Sys N xss){x:Int}:∀(ps:ag) (out:ah),(∀p∈ps,p∈xss)->Good N xss pt out->x∈out->
 Good N xss pt (ps.foldl (fun o p=>fW o (gi p x)) out)/\out<+:ps.foldl (fun o p=>fW o (gi p x)) out/\∀p∈ps,gi p x∈ps.foldl (fun o p=>fW o (gi p x)) out
 | [],out,_,h,_=> ⟨h,List.prefix_rfl,fun p hp=>by cases hp⟩
 | q::ps,out,yz,h,hx=>by
  have h1:=h.push hs hx (yz q (by simp));have mN:=D5 out (gi q x);obtain⟨g1,g2,g3⟩:=foldl_push hs ps (fW out (gi q x)) (fun p hp=>yz p (by simp [hp])) h1 (mN.subset hx);refine⟨g1,mN.trans g2,fun p hp=>?_⟩;rcases kj.1 hp with rfl | hp
  ·exact g2.subset (D4.2 (Or.inr O))
  ·exact g3 p hp
theorem gi_in{out:ah}(h:i<out.length):gi out i∈out:=by rw [bQ h];exact di h
theorem xM{a:ah}(h:a<+:b)(hi:i<a.length):gi b i=gi a i:=by
 rw [bQ hi,bQ (Nat.lt_of_lt_of_le hi h.length_le)];obtain⟨t,rfl⟩:=h;rw [List.getElem_append_left hi]
theorem E2{N:Nat}{xss:ag}{pt:Int}(hs:Sys N xss):∀(f i:Nat) (out:ah),Good N xss pt out->N<f+i->(∀j,j<i->j<out.length->∀p∈xss,gi p (gi out j)∈out)->
 Good N xss pt (jP xss f i out)/\out<+:jP xss f i out/\∀x∈jP xss f i out,∀p∈xss,gi p x∈jP xss f i out
 | 0,i,out,h,hf,hc=>by
  simp only [jP];refine⟨h,List.prefix_rfl,fun x hx p hp=>?_⟩;obtain⟨j,hj,rfl⟩:=fP.1 hx;have:=h.len;have:=hc j (by omega) hj p hp;rw [bQ hj]at this;exact this
 | f+1,i,out,h,hf,hc=>by
  simp only [jP]
  split
  ·rename_i hi;obtain⟨g1,g2,g3⟩:=foldl_push hs xss out (fun p hp=>hp) h (gi_in hi);replace g2:out<+:expand xss (gi out i) out:=g2;obtain⟨k1,k2,k3⟩:=E2 hs f (i+1) (expand xss (gi out i) out) g1 (by omega) (fun j hj iL p hp=>by
    by_cases nE:j=i
    ·subst nE;show gi p (gi (expand xss _ out) _)∈expand xss _ out;rw [xM g2 hi];exact g3 p hp
    ·have Ho:j<out.length:=by omega
     show gi p (gi (expand xss _ out) _)∈expand xss _ out;rw [xM g2 Ho];exact g2.subset (hc j (by omega) Ho p hp))
   exact⟨k1,g2.trans k2,k3⟩
  ·rename_i hi;refine⟨h,List.prefix_rfl,fun x hx p hp=>?_⟩;obtain⟨j,hj,rfl⟩:=fP.1 hx;have:=hc j (by omega) hj p hp;rw [bQ hj]at this;exact this
theorem Be{xss:ag}(h0:0<=pt)(h1:pt<N):Good N xss pt [pt]:=
 ⟨by simp,fun x hx=>by simp at hx;subst hx;exact⟨h0,h1⟩,fun x hx=>by simp at hx;subst hx;exact .refl⟩
theorem qv{xss:ag}(hs:Sys N xss)(h0:0<=pt)(h1:pt<N):
 Good N xss pt (cK N xss pt)/\ [pt]<+:cK N xss pt/\∀x,x∈cK N xss pt↔Reach xss pt x:=by
 obtain⟨g1,g2,g3⟩:=E2 (N:=N) hs (N+1) 0 [pt] (Be h0 h1) (by omega) (fun j hj=>by omega);refine⟨g1,g2,fun x=> ⟨g1.reach x,fun hr=>?_⟩⟩
 induction hr with
 | refl=>exact g2.subset (by simp)
 | step _ hp ih=>exact g3 _ ih _ hp
end
section
open Go.RowKit
section
variable{t:ad}{z z0:ab}{b c0 m c':Nat}
variable {P:Program} {N:Nat} {ops:Array Oper} {K:Env->aa->Prop} {rest:List Oper} {e:Env} {w0 w w':aa} {ks:List Ck} {d:Nat} {ty:ad} {pos:String} {af:Array Edge}
theorem e6{el:ad}[bK P t (.slice el)][bL P el z 1 b]{x0:ae}{i:Int}(hS:St w0 w ks)(h0:ev e x0=aj i)(hz:z.cells= #[z])(hb:Nat.blt d N=true)(hK:∀A w',St w0 w' (aE el A 1 1 [i]::ks)->ak P N ops K rest (br e d (.slice A 1 1)) w'):ak P N ops K (⟨some d,.buildSlice t 1 #[(0,x0)],ty,pos,af,none⟩::rest) e w:=
 .z7 hS h0 rfl hz hb hK
theorem mu{el:ad}[bK P t (.slice el)][bL P el z 1 b]{x0:ae}{A0:ai}{n0:Nat}(hS:St w0 w ks)(h0:ev e x0= .slice A0 n0 c0)(hz:z.cells= #[z])(hb:Nat.blt d N=true)(hK:∀A w',St w0 w' (aQ el A 1 1 [⟨A0,n0,c0⟩]::ks)->ak P N ops K rest (br e d (.slice A 1 1)) w'):ak P N ops K (⟨some d,.buildSlice t 1 #[(0,x0)],ty,pos,af,none⟩::rest) e w:=
 .z7 hS h0 rfl hz hb hK
theorem Sa{ys:ah}(h:ys.length=m):(List.range m).map (fun j=>Value.int .i64 (ys.getD j 0))=ys.map (aj):=by
 subst h;apply gj
 ·simp
 intro i h1 h2;simp [bX,dE (show i<ys.length by simpa using h1)]
theorem IX{ys:List aH}(h:ys.length=m):(List.range m).map (fun j=> (ys.getD j bA).v)=ys.map aH.v:=by
 subst h;apply gj
 ·simp
 intro i h1 h2;simp [bX,dE (show i<ys.length by simpa using h1)]
theorem fS{el:ad}[hU:bK P t (.slice el)][bL P el z 1 b]{x y:ae}(i:Nat){A:ai}{n c:Nat}{xs:ah}{A':ai}{ys:ah}(hS:St w0 w ks)(hk:ks[i]?=some (aE el A n c xs))(hR:bS w A' m ys)(hx:ev e x= .slice A n c)(hy:ev e y= .slice A' m c')(hz:z.cells= #[z])(nv:n+m<=9223372036854775807)(nB:(n+m)*b<=140737488355328)(hb:Nat.blt d N=true)(hK:∀A2 c2 w',St w0 w' (ks.set i (aE el A2 (n+m) c2 (xs++ys)))->ak P N ops K rest (br e d (.slice A2 (n+m) c2)) w'):
 ak P N ops K (⟨some d,.call ⟨.builtin .append, #[x,y], #[t,t]⟩,ty,pos,af,none⟩::rest) e w:=
 .app i hS hk hR.2 hx hy rfl hz (fun _ _=>rfl) (by simpa [maxLen]using nv) nB hb fun A2 c2 w' h=>hK A2 c2 w' (by
  rw [Sa hR.1]at h;simpa [aE]using h)
theorem iU{el:ad}[hU:bK P t (.slice el)][bL P el z 1 b]{x y:ae}(i:Nat){A:ai}{n c:Nat}{xs:List aH}{A':ai}{ys:List aH}(hS:St w0 w ks)(hk:ks[i]?=some (aQ el A n c xs))(hR:eU w A' m ys)(hx:ev e x= .slice A n c)(hy:ev e y= .slice A' m c')(hz:z.cells= #[z0])(nv:n+m<=9223372036854775807)(nB:(n+m)*b<=140737488355328)(hb:Nat.blt d N=true)(hK:∀A2 c2 w',St w0 w' (ks.set i (aQ el A2 (n+m) c2 (xs++ys)))->ak P N ops K rest (br e d (.slice A2 (n+m) c2)) w'):
 ak P N ops K (⟨some d,.call ⟨.builtin .append, #[x,y], #[t,t]⟩,ty,pos,af,none⟩::rest) e w:=
 .app i hS hk hR.2 hx hy rfl hz (fun _ _=>rfl) (by simpa [maxLen]using nv) nB hb fun A2 c2 w' h=>hK A2 c2 w' (by
  rw [IX hR.1]at h;simpa [aQ]using h)
end
def ob(M:Nat)(S:List Bool)(out:ah):Prop:=S.length=M/\∀x:Int,0<=x->x<M->(gb S x=true↔x∈out)
theorem ob.init{M:Nat}{pt:Int}(h0:0<=pt)(h1:pt<M):ob M ((List.replicate M false).set pt.toNat true) [pt]:=by
 refine⟨by simp,fun x hx jI=>?_⟩;rw [vA h0 (by simpa using h1) hx]
 by_cases e:pt=x
 ·simp [e]
 rw [aB e];have:x≠pt:=fun h=>e h.symm
 simp [gb,bX,List.getElem?_replicate,this]
 split<;>simp
theorem ob.push{M:Nat}{S:List Bool}{out:ah}{y:Int}(h:ob M S out)(h0:0<=y)(h1:y<M):ob M (S.set y.toNat true) (out++ [y]):=by
 refine⟨by simpa using h.1,fun x hx jI=>?_⟩;rw [vA h0 (by rw [h.1];exact h1) hx,gQ]
 by_cases e:y=x
 ·simp [e]
 rw [aB e,h.2 x hx jI];have:x≠y:=fun h=>e h.symm
 simp [this]
theorem E0{xss:ag}{f i:Nat}{out:ah}(h:¬i<out.length):jP xss f i out=out:=by
 cases f with
 | zero=>rfl
 | succ f=>simp only [jP];rw [aB h]
theorem bu.jv{w:aa}{A:ai}{n:Nat}{rs:List aH}{xss:ag}(h:bu w A n rs xss){k:Int}(h0:0<=k)(h1:k<n):(gl xss k).length=(rg rs k).n:=(h.at_ h0 h1).1
theorem kS{xss:ag}{k:Int}(h0:0<=k)(h:k<xss.length):gl xss k∈xss:=by
 obtain⟨j,rfl⟩:∃j:Nat,k=j:=⟨k.toNat,by omega⟩;rw [cQ (by omega)];exact di _
theorem DB(A:ai)(n c:Nat)(rs:List aH)(xss:ag)(N:Nat)(pt:Int)(w:aa)(hR:bu w A n rs xss)(hn:n<=9223372036854775807)(hs:Sys N xss)(hN:N<=1000000000)(h0:0<=pt)(h1:pt<N):
 aG prog 217 [.slice A n c,aj pt] w (fun v w'=>∃A' c',v= .slice A' (cK N xss pt).length c'/\St w w' [aE 2 A' (cK N xss pt).length c' (cK N xss pt)]):=by
 have cT:∀k:Int,0<=k->k<n->(rg rs k).n=N:=fun k jW hk=>by
  rw [<-hR.jv jW hk];exact(hs _ (kS jW (by rw [hR.len];exact hk))).1
 refine bs func217 O ntmps217 O (bF O) (aY O (e6 (St.refl w) O O O ?_));intro A1 w1 aD;refine zG 2 O (oN (α:=Nat) (fun s=> [(0,.slice A n c),(1,aj pt),(5,.slice A1 1 1),(6,aj s)]) (fun s w'=>w'=w1/\s<=N/\(0<n->s=N)) ?_ ?_)
 ·refine aY O (aR O O (aA O ?_));refine aJ _ O (fun h2=>?_) (fun h2=>?_)
  ·refine aC O (aw (aD.wP hR.top).2 O (bn (aD.wP hR.top) O ?_));refine aR O O (aM O (tQ ?_));exact⟨N,⟨O,O,O,by rw [cT 0 (by omega) (by omega)];rfl,av⟩,O,cO _,fun _=>O⟩
  refine sc O (tQ ?_);exact⟨0,(Wn O),O,bk _,fun h=>by omega⟩
 rintro s e1 w2 ⟨rfl,PT,wk⟩;have rB:n=0->N=N:=fun _=>O
 refine aC O (aI O (aI O ?_));refine pD (s+pt.toNat+1) aD (by show Value.int .i64 _=Value.int .i64 _;congr 1;omega) O (by omega) ?_;intro A2 w3 aL;refine aq O (aw (aL.fm 0 O).2 O (mw 0 aL O O O (by omega) ?_));intro w4 aN;refine aA O (Cd.loop (α:=Nat×ah×ai×Nat×List Bool) (fun q=> [(0,.slice A n c),(5,.slice q.2.2.1 q.2.1.length q.2.2.2.1),(7,.slice A2 (s+pt.toNat+1) (s+pt.toNat+1)),(8,aj (q.1:Int))]) (fun q w'=>St w w' [dC 4 A2 (s+pt.toNat+1) (s+pt.toNat+1) q.2.2.2.2,aE 2 q.2.2.1 q.2.1.length q.2.2.2.1 q.2.1]/\q.1<=q.2.1.length/\Good N xss pt q.2.1/\ob (s+pt.toNat+1) q.2.2.2.2 q.2.1/\jP xss (N+1 - q.1) q.1 q.2.1=cK N xss pt) (fun q=>N+1 - q.1) (0,[pt],A1,1,(List.replicate (s+pt.toNat+1) false).set pt.toNat true) (Wn O) ⟨aN,bk _,Be h0 h1,ob.init h0 (by omega),O⟩ ?_);rintro⟨i,out,Ao,co,S⟩ e2 w5 ⟨aV,hi,hg,hm,hb⟩;dsimp only at aV hi hg hm hb|-;have hlen:=hg.len;refine aY O (aR O O (aA O ?_));refine aJ _ O (fun h2=>?_) (fun h2=>?_)
 ·refine cj O (Cd.loop (α:=Nat×ah×ai×Nat×List Bool) (fun q=> [(0,.slice A n c),(5,.slice q.2.2.1 q.2.1.length q.2.2.2.1),(7,.slice A2 (s+pt.toNat+1) (s+pt.toNat+1)),(8,aj i),(9,aj (q.1:Int))]) (fun q w'=>St w w' [dC 4 A2 (s+pt.toNat+1) (s+pt.toNat+1) q.2.2.2.2,aE 2 q.2.2.1 q.2.1.length q.2.2.2.1 q.2.1]/\q.1<=n/\Good N xss pt q.2.1/\ob (s+pt.toNat+1) q.2.2.2.2 q.2.1/\out<+:q.2.1/\(xss.drop q.1).foldl (fun o p=>fW o (gi p (gi out i))) q.2.1=expand xss (gi out i) out) (fun q=>n - q.1) (0,out,Ao,co,S) (Wn O) ⟨aV,bk _,hg,hm,List.prefix_rfl,O⟩ ?_);rintro⟨k,eR,sa,tP,S'⟩ e3 w6 ⟨bg,hk,jV,fj,jH,hf⟩;dsimp only at bg hk jV fj jH hf|-;have p9:=jV.len;refine aY O (aR O O (aA O ?_));refine aJ _ O (fun h3=>?_) (fun h3=>?_)
  ·have CB:i<eR.length:=by have:=jH.length_le;omega
   have vS:gi eR i=gi out i:=xM jH (by omega);have js:=hg.range _ (gi_in (i:=i) (by omega));have gC:gl xss k∈xss:=kS (by omega) (by rw [hR.len];omega);have hy:=(hs _ gC).2 (gi out i) js.1 js.2;have fF:=cT k (by omega) (by omega);have PT:s=N:=wk (by omega);have hT:=(bg.bE hR);have hO:=bg.bU 1 O;have bw:=hT.at_ (i:=k) (by omega) (by omega);refine cj O ?_;refine cN [xS (A) (n) (c),xI ((k:Int)),xP (az (A) ((k:Int)).toNat),xS ((rg (rs) ((k:Int))).a) ((rg (rs) ((k:Int))).n) ((rg (rs) ((k:Int))).c),xS (sa) (eR.length) (tP),xI ((i:Int)),xP (az (sa) ((i:Int)).toNat),xI (gi (eR) ((i:Int))),xP (az ((rg (rs) ((k:Int))).a) (gi (eR) ((i:Int))).toNat),xI (gi (gl xss k) (gi (eR) ((i:Int)))),xI (gi (gl xss k) (gi (eR) ((i:Int))))] O (da O) ?_ ?_
   ·exact⟨Dr O,Dr O,fun _ _ hb _ _=>aw (hT.top.ao hb).2 O Az,fun _ _ hb _ _=>bn (hT.top.ao hb) O Az,Dr O,Dr O,fun _ _ hb _ _=>aw (hO.ao hb).2 O Az,fun _ _ hb _ _=>a6 (hO.ao hb) O Az,fun _ _ hb _ _=>Wf (bw.ao hb).2 O O O (by rw [vS];omega) (by rw [vS,fF];omega) Az,fun _ _ hb _ _=>a6 (bw.ao hb) O Az,Dr O,av⟩
   intro u w7 lr _;have bm:=bg.ao lr;rw [vS];have pZ:(xss.drop (k+1)).foldl (fun o p=>fW o (gi p (gi out i))) (fW eR (gi (gl xss k) (gi out i)))=expand xss (gi out i) out:=by
    rw [<-hf,List.drop_eq_getElem_cons (show k<xss.length by rw [hR.len];omega),List.foldl_cons,cQ (by rw [hR.len];omega)]
   refine ib O (aw (bm.fm 0 O).2 O (lh (bm.fm 0 O) O (by omega) O O ?_))
   first | refine dv rfl rfl ?_ | refine eJ rfl rfl ?_
   refine aA O (Cd.cond O (fun h4=>?_) (fun h4=>?_))
   ·have CU:¬gi (gl xss k) (gi out i)∈eR:=fun cd=>by
     have:=(fj.2 _ hy.1 (by omega)).2 cd;rw [this]at h4;cases h4
    have sU:fW eR (gi (gl xss k) (gi out i))=eR++ [gi (gl xss k) (gi out i)]:=by unfold fW;rw [if_neg CU]
    have p6:=jV.push hs (jH.subset (gi_in (i:=i) (by omega))) gC;have wg:=jH.trans (D5 eR (gi (gl xss k) (gi out i)));rw [sU]at pZ p6 wg;have CL:=p6.len;simp only [dS,List.length_singleton]at CL;refine aC O (aw (bm.fm 0 O).2 O (mw 0 bm O O O (by omega) ?_));intro w8 bI;refine aq O (e6 bI O O O ?_);intro A3 w9 bO;refine fS 2 bO O (bO.bU 0 O) O O O (by omega) (by omega) O fun A4 c4 dW cJ=>aq O (aI O (aM O (tQ ?_)));refine⟨(k+1,eR++ [gi (gl xss k) (gi out i)],A4,c4,S'.set (gi (gl xss k) (gi out i)).toNat true),by show n - (k+1)<n - k;omega,⟨O,by rw [dS];rfl,O,O,O,av⟩,?_,by show k+1<=n;omega,p6,fj.push hy.1 (by omega),wg,pZ⟩;have mH:=cJ.tail;simp only [dS,List.length_singleton];exact mH
   have cd:gi (gl xss k) (gi out i)∈eR:=(fj.2 _ hy.1 (by omega)).1 (by simpa using h4);have sU:fW eR (gi (gl xss k) (gi out i))=eR:=by unfold fW;rw [if_pos cd]
   rw [sU]at pZ;refine aC O (aI O (aM O (tQ ?_)));exact⟨(k+1,eR,sa,tP,S'),by show n - (k+1)<n - k;omega,(Wn O),bm,by show k+1<=n;omega,jV,fj,jH,pZ⟩
  refine bj O (bl (cn O (aI O (aM O (tQ ?_)))));have cE:k=n:=by omega
  rw [cE,<-hR.len,List.drop_length,List.foldl_nil]at hf;refine⟨(i+1,eR,sa,tP,S'),by show N+1 - (i+1)<N+1 - i;omega,(Wn O),bg,?_,jV,fj,?_⟩
  ·have:=jH.length_le;show i+1<=eR.length;omega
  show jP xss (N+1 - (i+1)) (i+1) eR=cK N xss pt;rw [<-hb,hf];have e:N+1 - i=(N+1 - (i+1))+1:=by omega
  rw [e];simp only [jP];rw [aF (by omega)]
 refine bj O (bl (dd O ?_));refine dH O ?_;rw [E0 (by omega)]at hb;exact⟨Ao,co,by rw [hb],by rw [<-hb];exact aV.tail⟩
section
variable {P:Program} {N:Nat} {e:Env} {w:aa}
end
section
variable{t t':ad}
variable {P:Program} {N:Nat} {ops:Array Oper} {K:Env->aa->Prop} {rest:List Oper} {e:Env} {w0 w w':aa} {ks:List Ck} {d:Nat} {ty:ad} {pos:String} {af:Array Edge}
theorem zB{Q:gn}{c:ae}{x y:Code}{p:Prop}[Decidable p](hc:ev e c= .bool (decide p))(hp:p)(h1:Cd P N x Q e w):Cd P N (.cond c x y) Q e w:= .eP (by rw [hc,dF hp]) h1
theorem kJ{Q:gn}{c:ae}{x y:Code}{p:Prop}[Decidable p](hc:ev e c= .bool (decide p))(hp:¬p)(h1:Cd P N y Q e w):Cd P N (.cond c x y) Q e w:= .dO (by rw [hc,cb hp]) h1
theorem Mn(A:ai)(c:Nat):cutAt A c 0=A:=by
 unfold cutAt
 split
 ·rfl
 cases A<;>simp [az,Addr.add]
theorem QB{vs fs:List ab}{l q:Nat}(hM:cX vs=false)(h1:∀u∈fs,u.oneCell'=true)(hq:l=0->fs≠[]:=by first | assumption | (intro _ hn;have:=aS List.length hn;simp at this;omega)):cX (vs.take l++fs++vs.drop q)=false:=by
 by_cases hl:l=0
 ·subst hl;rw [List.take_zero,List.nil_append];exact Dw (qn h1) (hq O)
 ·cases vs with
  | nil=>simp only [List.take_nil,List.drop_nil,List.nil_append,eG];exact qn h1
  | cons v r=>
   obtain⟨m,rfl⟩:∃m,l=m+1:=⟨l - 1,by omega⟩;cases v<;>simp_all [cX]
theorem TJ{el:ad}{z:ab}{b:Nat}[hU:bK P t (.slice el)][bL P el z 1 b]{k:Ck}(i l:Nat)(hS:St w0 w ks)(hk:ks[i]?=some k)(hM:cX k.vs=false)(hl:l<=k.n){A':ai}{m dc c':Nat}{f:Nat->ab}(hR:Rd w A' m f)(h1:∀j,j<m->(f j).oneCell'=true)(ty:ad)(q:Nat)(hq:q=min m (k.n - l)):
 ∃w',(Builtin.copy_ #[t,t'] ty #[.slice (cutAt k.A k.c l) (k.n - l) dc,.slice A' m c']).run P w= .ok (aj q) w'/\St w0 w' (ks.set i { k with vs:=k.vs.take l++ (List.range q).map f++k.vs.drop (l+q) }):=by
 obtain⟨inf,hi,fk,hs,iE⟩:=bL.get P el;have qf:=hS.mE hk hM;obtain⟨qk,sR,sG,h4⟩:=qf;have vW:=(fu.1 hk).1;have uG:(P.info? el).map (·.size)=some 1:=by simp [hi,hs]
 by_cases C5:q=0
 ·have hr:=run_copy_none (P:=P) w t t' ty el (cutAt k.A k.c l) A' (k.n - l) dc m c' hU.out uG (by show min m (k.n - l)=0;omega);refine⟨w,by rw [hr,C5];rfl,?_⟩;have h5:({ k with vs:=k.vs.take l++ (List.range q).map f++k.vs.drop (l+q) }:Ck)=k:=by subst C5;simp [List.take_append_drop]
  have:ks.set i { k with vs:=k.vs.take l++ (List.range q).map f++k.vs.drop (l+q) }=ks:=by
   rw [h5];apply List.ext_getElem?;intro j;rw [jy]
   split
   ·rename_i e;subst e;rw [hk]
    try simp [vW]
   rfl
  rw [this];exact hS
 obtain⟨a,rfl⟩:∃a,A'=some a:=by
  obtain⟨p,hp,_⟩:=hR 0 (by omega);cases A' with | none=>simp [az]at hp | some q=>exact⟨q,rfl⟩
 rcases h4 with⟨hA,h0⟩ | ⟨g,o,cur,hA,hg,hh,mP,hc⟩
 ·omega
 have hD:cutAt k.A k.c l=some ⟨g,o+l,none⟩:=by
  unfold cutAt;rw [aB (by omega),hA];simp [az,vj]
 have gX:((List.range q).map f).length=q:=by simp
 have wb:∀j v,((List.range q).map f)[j]?=some v->w.cell? (a.add j)=some v:=by
  intro j v hj;have ux:j<q:=by have:=(fu.1 hj).1;simpa using this
  obtain⟨p,hp,hc⟩:=hR j (by omega);simp only [az,Option.map_some,kP]at hp;rw [hp,hc,<-hj];simp [ux]
 have sn:∀u∈(List.range q).map f,u.oneCell'=true:=by
  intro u hu;obtain⟨j,hj,rfl⟩:=fq.1 hu;have CC:j<q:=by simpa using hj
  exact h1 j (by omega)
 have hr:=run_copy_row (P:=P) w t t' ty el g (o+l) (k.n - l) dc a m c' cur k.e ((List.range q).map f) hU.out uG hh (by rw [gX,hq]) wb (by rw [gX];omega) sn;rw [gX]at hr;rw [hD];refine⟨w.setRow g (cur.toList.take (o+l)++ (List.range q).map f++cur.toList.drop (o+l+q)).toArray,hr,hS.turn (k:=k) (k':= { k with vs:=k.vs.take l++ (List.range q).map f++k.vs.drop (l+q) }) (g:=g) hk (by simp [Ck.fw,hA]) (by simp [Ck.fw,hA]) ⟨⟨O,O,O,by simp,fun x _ hx=>setRow_other w g x _ (fun e=>hx (by rw [e]))⟩,cO _⟩ ?_⟩;refine .mU (QB hM sn) ⟨by simp [qk];omega,sR,sG,.inr ⟨g,o,_,hA,hg,setRow_heap w g cur _ k.e _ hh,?_,fun j hj=>?_⟩⟩
 ·simp;omega
 have eV:j<k.n:=hj;have fx:cur.toList.length=cur.size:=by simp
 show((cur.toList.take (o+l)++ (List.range q).map f++cur.toList.drop (o+l+q)).toArray)[o+j]?=(k.vs.take l++ (List.range q).map f++k.vs.drop (l+q))[j]?;rw [List.getElem?_toArray,fB,fB]
 by_cases iL:j<l
 ·rw [mo (by simp;omega),oQ,aF (by omega),mo (by simp;omega),oQ,aF iL,Array.getElem?_toList];exact hc j eV
 have e1:o+j - (cur.toList.take (o+l)).length=j - l:=by simp;omega
 have e2:j - (k.vs.take l).length=j - l:=by simp;omega
 have e3:(cur.toList.take (o+l)++ ((List.range q).map f++cur.toList.drop (o+l+q)))[o+j]?=((List.range q).map f++cur.toList.drop (o+l+q))[j - l]?:=by
  rw [mq (by simp;omega),e1]
 have e4:(k.vs.take l++ ((List.range q).map f++k.vs.drop (l+q)))[j]?=((List.range q).map f++k.vs.drop (l+q))[j - l]?:=by
  rw [mq (by simp;omega),e2]
 rw [e3,e4]
 by_cases CC:j - l<q
 ·rw [mo (by simpa using CC),mo (by simpa using CC)]
 rw [mq (by rw [gX];omega),mq (by rw [gX];omega),gX,List.getElem?_drop,List.getElem?_drop,Array.getElem?_toList,show o+l+q+ (j - l - q)=o+j by omega,show l+q+ (j - l - q)=j by omega];exact hc j eV
theorem EH{el:ad}{z:ab}{b:Nat}[hU:bK P t (.slice el)][bL P el z 1 b]{x y:ae}{k:Ck}(i l:Nat){A':ai}{m dc c':Nat}{f:Nat->ab}(q:Nat)(hS:St w0 w ks)(hk:ks[i]?=some k)(hR:Rd w A' m f)(hl:l<=k.n)(hx:ev e x= .slice (cutAt k.A k.c l) (k.n - l) dc)(hy:ev e y= .slice A' m c')(h1:∀j,j<m->(f j).oneCell'=true)(hq:q=min m (k.n - l))(hb:Nat.blt d N=true)(hK:∀w',St w0 w' (ks.set i { k with vs:=k.vs.take l++ (List.range q).map f++k.vs.drop (l+q) })->ak P N ops K rest (br e d (aj q)) w')(hM:cX k.vs=false:=by first | rfl | exact nK _ | exact s6 _ | exact pj _):
 ak P N ops K (⟨some d,.call ⟨.builtin .copy, #[x,y], #[t,t']⟩,ty,pos,af,none⟩::rest) e w:=by
 obtain⟨w',hr,jT⟩:=TJ (P:=P) (t:=t) (t':=t') (dc:=dc) (c':=c') i l hS hk hM hl hR h1 ty q hq;refine .val (w':=w') ?_ hb (hK _ jT);simp [execOp,resolve,invoke,builtin,hx,hy,hr]
theorem KW{x y:ae}{i j:Int}(hx:ev e x=aj i)(hy:ev e y=aj j)(hb:Nat.blt d N=true)(hK:ak P N ops K rest (br e d (aj (min i j))) w):
 ak P N ops K (⟨some d,.call ⟨.builtin .min, #[x,y], #[t,t']⟩,ty,pos,af,none⟩::rest) e w:=by
 have hm:(if j<i then j else i)=min i j:=by split<;>omega
 refine .val (w':=w) ?_ hb hK;simp [execOp,resolve,invoke,builtin,hx,hy,Builtin.min_,Builtin.min2,hm]
section
variable {x y:ae} {xt yt:ad} {i j:Int}
theorem tw(i:Int)(h:0<=i/\i<=18446744073709551615):IntKind.u64.wrap i=i:=by rw [IntKind.wrap_u64];omega
theorem xk(r:Int)(hx:ev e x= .int .u64 i)(hy:ev e y= .int .u64 j)(hb:Nat.blt d N=true)(he:i+j=r)(hr:0<=r/\r<=18446744073709551615)(hK:ak P N ops K rest (br e d (.int .u64 r)) w):
 ak P N ops K (⟨some d,.binOp .add xt x y yt,ty,pos,af,none⟩::rest) e w:=
 .val (by simp [execOp,hx,hy,eqGuard,binOp,Op.intArith,he,tw _ hr]) hb hK
theorem vb(r:Int)(hx:ev e x= .int .u64 i)(hy:ev e y= .int .u64 j)(hb:Nat.blt d N=true)(he:i*j=r)(hr:0<=r/\r<=18446744073709551615)(hK:ak P N ops K rest (br e d (.int .u64 r)) w):
 ak P N ops K (⟨some d,.binOp .mul xt x y yt,ty,pos,af,none⟩::rest) e w:=
 .val (by simp [execOp,hx,hy,eqGuard,binOp,Op.intArith,he,tw _ hr]) hb hK
theorem zH(r:Int)(hx:ev e x= .int .u64 i)(hy:ev e y= .int .u64 4294967295)(hb:Nat.blt d N=true)(hr:0<=i/\i<=18446744073709551615)(he:i%4294967296=r)(hK:ak P N ops K rest (br e d (.int .u64 r)) w):
 ak P N ops K (⟨some d,.binOp .and xt x y yt,ty,pos,af,none⟩::rest) e w:=by
 subst he;obtain⟨a,rfl⟩:∃a:Nat,i=a:=⟨i.toNat,by omega⟩;have h:=Mul64.maskN a (by omega);rw [show((a%4294967296:Nat):Int)=(a:Int)%4294967296 by omega]at h;refine .val ?_ hb hK;simp only [execOp,hx,hy,eqGuard,binOp,intBits_and,h];simp
theorem vc(r:Int)(hx:ev e x= .int .u64 i)(hy:ev e y= .int .u64 32)(hb:Nat.blt d N=true)(hr:0<=i)(he:i / 4294967296=r)(hK:ak P N ops K rest (br e d (.int .u64 r)) w):
 ak P N ops K (⟨some d,.binOp .shr xt x y yt,ty,pos,af,none⟩::rest) e w:=by
 subst he;refine .val ?_ hb hK;have e1:min 32 IntKind.u64.bits=32:=by decide
 have e2:i.fdiv (2^32)=i / 4294967296:=by rw [Int.fdiv_eq_ediv_of_nonneg _ (by decide)];rfl
 have MC:i.fdiv 4294967296=i / 4294967296:=e2;simp [execOp,hx,hy,eqGuard,binOp,Op.shift,e1,MC]
theorem qG{k k':IntKind}[bK P yt (.int k')](hx:ev e x= .int k i)(hb:Nat.blt d N=true)(hw:k'.wrap i=i){u:TypeDesc}[bK P xt u](hK:ak P N ops K rest (br e d (.int k' i)) w):
 ak P N ops K (⟨some d,.convert xt yt x,ty,pos,af,none⟩::rest) e w:=
 .val (by simp [execOp,hx,convert,run_underlying (bK.out (P:=P) (t:=xt)),run_underlying (bK.out (P:=P) (t:=yt)),Conv.intToInt,hw]) hb hK
end
end
def fI(l:List Oper):List Nat:=l.filterMap (·.dst)
theorem AL{α β:Type}(f:α->Option β):∀(l:List α),(l.filterMap f).Nodup->∀(i j:Nat) (a b:α) (d:β),l[i]?=some a->l[j]?=some b->f a=some d->f b=some d->i=j
 | [],_,i,j,a,b,d,hi,_,_,_=>by simp at hi
 | x::l,hn,i,j,a,b,d,hi,hj,ha,hb=>by
  have mem:∀(k:Nat) (c:α),l[k]?=some c->f c=some d->d∈l.filterMap f:=fun k c hk hc=>List.mem_filterMap.2 ⟨c,List.mem_of_getElem? hk,hc⟩
  cases hx:f x with
  | none=>
   rw [List.filterMap_cons,hx]at hn;cases i with
   | zero=>simp at hi;subst hi;rw [hx]at ha;cases ha
   | succ i=>
    cases j with
    | zero=>simp at hj;subst hj;rw [hx]at hb;cases hb
    | succ j=>rw [AL f l hn i j a b d (by simpa using hi) (by simpa using hj) ha hb]
  | some y=>
   rw [List.filterMap_cons,hx]at hn;simp only [lM]at hn;cases i with
   | zero=>
    simp at hi;subst hi;rw [hx]at ha;cases ha;cases j with
    | zero=>rfl
    | succ j=>exact absurd (mem j b (by simpa using hj) hb) hn.1
   | succ i=>
    cases j with
    | zero=>
     simp at hj;subst hj;rw [hx]at hb;cases hb;exact absurd (mem i a (by simpa using hi) ha) hn.1
    | succ j=>rw [AL f l hn.2 i j a b d (by simpa using hi) (by simpa using hj) ha hb]
def valOf(o:Oper)(e:Env):ab:=match o.dst with
 | some d=>e d
 | none=>undef
def Ig:Yd->Bool
 | .ex _=>true
 | .pr _=>false
def y4(l:List Oper)(ms:List Nat)(k:Nat):Nat:=ms.countP fun m=>fT l l.length k m
def uv(l:List Oper)(ms:List Nat)(k:Nat):Nat:=ms.countP fun m=>!(fT l l.length m k) && !(Nat.beq m k)
def iQ(l:List Oper)(ms:List Nat)(k:Nat):Nat:=ms.countP fun m=>Nat.beq m k || fT l l.length k m
def tM(l:List Oper)(ms:List Nat)(m:Nat):Bool:=ms.all fun m'=>Nat.beq m' m || fT l l.length m m' || fT l l.length m' m
def Yd.at_(c ph:Nat):Yd->ab->aa->Prop
 | .ex v,u,_=>u=v
 | .pr p,u,w=>c=ph->p u w
theorem k7{a b c:Nat}(h:c<=a)(e:a=b):c<=b:=e▸h
theorem cc_of{a b c d:Nat}(h:a<=c)(k:c<=d)(e:a=b:=by kernel_rfl)(f:d=b:=by kernel_rfl):c=b:=by omega
section
variable {P:Program} {N:Nat} {e:Env} {w:aa}
theorem Kc(e1:Env)(d:Nat)(v:ab):br e1 d v d=v:=by unfold br;rw [Nat.beq_refl];rfl
theorem Kd(e1:Env){d j:Nat}(v:ab)(h:j≠d):br e1 d v j=e1 j:=by
 have:Nat.beq j d=false:=by
  cases hb:Nat.beq j d with
  | false=>rfl
  | true=>exact absurd (kO hb) h
 unfold br;rw [this];rfl
theorem xz{ms:List Nat}{p q:Nat->Bool}(h:∀m∈ms,p m=true->q m=true):ms.countP p<=ms.countP q:=List.countP_mono_left h
end
inductive Ye where
 | ex (v:ab)
 | pr (p:ab->aa->Prop)
 | p2 (j:Nat) (p:ab->ab->aa->Prop)
 | al (q:ab->Prop) (p:ab->aa->Prop)
def vl(l:List Oper)(e:Env)(k:Nat):ab:=match l[k]? with
 | some o=>valOf o e
 | none=>undef
def Ye.holds(uu:Nat->ab):Ye->ab->aa->Prop
 | .ex v,u,_=>u=v
 | .pr p,u,w=>p u w
 | .p2 j p,u,w=>p (uu j) u w
 | .al q p,u,w=>q u/\p u w
def Ye.mS:Ye->Prop
 | .ex _=>True
 | .pr p=>∀v w w',p v w->Below w.heap.size w w'->p v w'
 | .p2 _ p=>∀a v w w',p a v w->Below w.heap.size w w'->p a v w'
 | .al _ p=>∀v w w',p v w->Below w.heap.size w w'->p v w'
theorem Ye.RP(v:ab):(Ye.ex v).mS:=True.intro
theorem ly{v:ab}{l:List Ye}(h:∀y∈l,y.mS):∀y∈Ye.ex v::l,y.mS:=cq.2 ⟨True.intro,h⟩
theorem Ye.ct{p:ab->aa->Prop}(h:∀v w w',p v w->Below w.heap.size w w'->p v w'):(Ye.pr p).mS:=h
abbrev yU:Ye:= .ex undef
abbrev yI(i:Int):Ye:= .ex (aj i)
abbrev yB(b:Bool):Ye:= .ex (.bool b)
abbrev yP(a:ai):Ye:= .ex (.pointer a)
abbrev yS(a:ai)(n c:Nat):Ye:= .ex (.slice a n c)
def Dv:Ye->Bool
 | .ex _=>true
 | .pr _=>false
 | .p2 ..=>false
 | .al ..=>false
def Fw(N:Nat)(l:List Oper)(ys:List Ye)(ms:List Nat):Bool:=
 l.all (fun o=>match o.dst with | some d=>Nat.blt d N | none=>true) && decide ((fI l).Nodup) && (l.zipIdx.all fun p=> (dX p.1).all fun ed=>Nat.blt ed.on p.2) && Nat.beq l.length ys.length && (l.zip ys).all (fun p=>p.1.dst.isSome || !Dv p.2) && decide ms.Nodup && ms.all (fun m=>Nat.blt m l.length) && (ys.zipIdx.all fun p=>!(Dv p.1) || !(ms.contains p.2)) && (ys.zipIdx.all fun p=>match p.1 with | .p2 j _=>fT l l.length p.2 j && Nat.blt j l.length | _=>true)
def Ye.at_(c ph:Nat)(uu:Nat->ab):Ye->ab->aa->Prop
 | .ex v,u,_=>u=v
 | .pr p,u,w=>c=ph->p u w
 | .p2 j p,u,w=>c=ph->p (uu j) u w
 | .al q p,u,w=>q u/\(c=ph->p u w)
def lk:List Oper->List Ye->(Nat->ab)->Nat->List (Nat×ab)
 | o::l,y::ys,u,i=>match o.dst,y with
  | some d,.ex v=> (d,v)::lk l ys u (i+1)
  | some d,.pr _=> (d,u i)::lk l ys u (i+1)
  | some d,.p2 ..=> (d,u i)::lk l ys u (i+1)
  | some d,.al ..=> (d,u i)::lk l ys u (i+1)
  | none,_=>lk l ys u (i+1)
 | _,_,_,_=> []
def jB(l:List Oper)(ys:List Ye):List Edge->List (Nat×ab)
 | []=> []
 | ed::r=>match ys[ed.on]?,(l[ed.on]?).bind (·.dst)with
  | some (.ex v),some d=> (d,v)::jB l ys r
  | _,_=>jB l ys r
section
variable{o:Oper}{y:Ye}{e1:Env}{w1 w2:aa}{d i id:Nat}{l:List Oper}{ys:List Ye}{ms:List Nat}
variable {P:Program} {N:Nat} {e:Env} {w:aa}
def eS(o:Oper)(y:Ye)(uu:Nat->ab)(e1:Env)(w1:aa):Env->aa->Prop:=fun e2 w2=>Below w1.heap.size w1 w2/\y.holds uu (valOf o e2) w2/\∀j,o.dst≠some j->e2 j=e1 j
def eA(o:Oper)(y:Ye)(uu:Nat->ab)(e1:Env):Env->aa->Prop:=fun e2 w2=>y.holds uu (valOf o e2) w2/\∀j,o.dst≠some j->e2 j=e1 j
theorem eS.dn{uu:Nat->ab}{v:ab}(hd:o.dst=some d)(hb:Below w1.heap.size w1 w2)(hv:y.holds uu v w2):eS o y uu e1 w1 (br e1 d v) w2:=by
 refine⟨hb,?_,fun j hj=>Kd e1 v (fun h=>hj (by rw [hd,h]))⟩;unfold valOf;rw [hd];show y.holds uu (br e1 d v d) w2;rw [Kc];exact hv
theorem fO{uu:Nat->ab}{v:ab}(hd:o.dst=some d)(hv:y.holds uu v w1):eS o y uu e1 w1 (br e1 d v) w1:=eS.dn hd (Below.refl _ _) hv
theorem eA.dn{uu:Nat->ab}{v:ab}(hd:o.dst=some d)(hv:y.holds uu v w2):eA o y uu e1 (br e1 d v) w2:=by
 refine⟨?_,fun j hj=>Kd e1 v (fun h=>hj (by rw [hd,h]))⟩;unfold valOf;rw [hd];show y.holds uu (br e1 d v d) w2;rw [Kc];exact hv
theorem eA.st{uu:Nat->ab}(hd:o.dst=none)(hv:y.holds uu undef w2):eA o y uu e1 e1 w2:=by
 refine⟨?_,fun j _=>O⟩;unfold valOf;rw [hd];exact hv
def qI(P:Program)(N:Nat)(l:List Oper)(ys:List Ye)(ms:List Nat)(e:Env)(w:aa)(i:Nat)(o:Oper):Prop:=
 ∀(e1:Env) (w1:aa) (c:Nat),y4 l ms i<=c->c<=uv l ms i->(c=0->Below w.heap.size w w1)->(∀(j:Nat) (y:Ye) (o':Oper),fT l l.length i j=true->ys[j]?=some y->l[j]?=some o'->y.at_ c (iQ l ms j) (vl l e1) (valOf o' e1) w1)->(∀(j:Nat) (o':Oper),l[j]?=some o'->fT l l.length j i=true->valOf o' e1=valOf o' e)->(∀(m:Nat) (y:Ye) (o':Oper),eu ms m=true->tM l ms m=true->iQ l ms m=c->ys[m]?=some y->l[m]?=some o'->y.at_ c (iQ l ms m) (vl l e1) (valOf o' e1) w1)->
  bif eu ms i then ak P N l.toArray (eA o (ys.getD i (.pr fun _ _=>True)) (vl l e1) (ext (mix e1 e (fI l)) (jB l ys (dX o)))) [o] (ext (mix e1 e (fI l)) (jB l ys (dX o))) w1
  else ak P N l.toArray (eS o (ys.getD i (.pr fun _ _=>True)) (vl l e1) (ext (mix e1 e (fI l)) (jB l ys (dX o))) w1) [o] (ext (mix e1 e (fI l)) (jB l ys (dX o))) w1
theorem Kv{ops:Array Oper}{uu:Nat->ab}{v:ab}(h:oJ ops N e1 o=some (d,v))(hv:y.holds uu v w1):ak P N ops (eS o y uu e1 w1) [o] e1 w1:= .oJ h (eS.dn (JZ h) (Below.refl _ _) hv)
theorem bJ{ops:Array Oper}{uu:Nat->ab}{v:ab}(hd:o.dst=some d)(hv:y.holds uu v w1):ak P N ops (eS o y uu e1 w1) [] (br e1 d v) w1:=ak.n (eS.dn hd (Below.refl _ _) hv)
theorem b8{v:ab}(h:((eu ms i,(ys.getD i (.pr fun _ _=>True))),fun e1=>oJ l.toArray N (ext (mix e1 e (fI l)) (jB l ys (dX o))) o)=((false,.ex v),fun _=>some (d,v))):qI P N l ys ms e w i o:=fun e1 w1 c _ _ _ _ _ _=>by
 have h1:=congrFun (Prod.mk.inj h).2 e1;rw [(Prod.mk.inj (Prod.mk.inj h).1).1,(Prod.mk.inj (Prod.mk.inj h).1).2];exact Kv h1 O
theorem cP(h:∀(e1:Env) (w1:aa),Below w.heap.size w w1->(∀(j:Nat) (y:Ye) (o':Oper),fT l l.length i j=true->ys[j]?=some y->l[j]?=some o'->y.at_ 0 (iQ l ms j) (vl l e1) (valOf o' e1) w1)->(∀(j:Nat) (o':Oper),l[j]?=some o'->fT l l.length j i=true->valOf o' e1=valOf o' e)->(∀(m:Nat) (y:Ye) (o':Oper),eu ms m=true->tM l ms m=true->iQ l ms m=0->ys[m]?=some y->l[m]?=some o'->y.at_ 0 (iQ l ms m) (vl l e1) (valOf o' e1) w1)->
 ak P N l.toArray (eS o (ys.getD i (.pr fun _ _=>True)) (vl l e1) (ext (mix e1 e (fI l)) (jB l ys (dX o))) w1) [o] (ext (mix e1 e (fI l)) (jB l ys (dX o))) w1) (ht:eu ms i=false:=by kernel_rfl) (hh:uv l ms i=0:=by kernel_rfl):qI P N l ys ms e w i o:=fun e1 w1 c _ cC hb hp aZ hq=>by
 obtain rfl:c=0:=by omega
 rw [ht];exact h e1 w1 (hb rfl) hp aZ hq
theorem jh(h:∀(e1:Env) (w1:aa),Below w.heap.size w w1->(∀(j:Nat) (y:Ye) (o':Oper),fT l l.length i j=true->ys[j]?=some y->l[j]?=some o'->y.at_ 0 (iQ l ms j) (vl l e1) (valOf o' e1) w1)->(∀(j:Nat) (o':Oper),l[j]?=some o'->fT l l.length j i=true->valOf o' e1=valOf o' e)->(∀(m:Nat) (y:Ye) (o':Oper),eu ms m=true->tM l ms m=true->iQ l ms m=0->ys[m]?=some y->l[m]?=some o'->y.at_ 0 (iQ l ms m) (vl l e1) (valOf o' e1) w1)->
 ak P N l.toArray (eA o (ys.getD i (.pr fun _ _=>True)) (vl l e1) (ext (mix e1 e (fI l)) (jB l ys (dX o)))) [o] (ext (mix e1 e (fI l)) (jB l ys (dX o))) w1) (ht:eu ms i=true:=by kernel_rfl) (hh:uv l ms i=0:=by kernel_rfl):qI P N l ys ms e w i o:=fun e1 w1 c _ cC hb hp aZ hq=>by
 obtain rfl:c=0:=by omega
 rw [ht];exact h e1 w1 (hb rfl) hp aZ hq
theorem dP(b:Nat)(h:∀(e1:Env) (w1:aa),(∀(j:Nat) (y:Ye) (o':Oper),fT l l.length i j=true->ys[j]?=some y->l[j]?=some o'->y.at_ b (iQ l ms j) (vl l e1) (valOf o' e1) w1)->(∀(j:Nat) (o':Oper),l[j]?=some o'->fT l l.length j i=true->valOf o' e1=valOf o' e)->(∀(m:Nat) (y:Ye) (o':Oper),eu ms m=true->tM l ms m=true->iQ l ms m=b->ys[m]?=some y->l[m]?=some o'->y.at_ b (iQ l ms m) (vl l e1) (valOf o' e1) w1)->
 ak P N l.toArray (eS o (ys.getD i (.pr fun _ _=>True)) (vl l e1) (ext (mix e1 e (fI l)) (jB l ys (dX o))) w1) [o] (ext (mix e1 e (fI l)) (jB l ys (dX o))) w1) (ht:eu ms i=false:=by kernel_rfl) (hl:y4 l ms i=b:=by kernel_rfl) (hh:uv l ms i=b:=by kernel_rfl):qI P N l ys ms e w i o:=fun e1 w1 c en cC _ hp aZ hq=>by
 obtain rfl:c=b:=by omega
 rw [ht];exact h e1 w1 hp aZ hq
theorem mD(b:Nat)(h:∀(e1:Env) (w1:aa),(∀(j:Nat) (y:Ye) (o':Oper),fT l l.length i j=true->ys[j]?=some y->l[j]?=some o'->y.at_ b (iQ l ms j) (vl l e1) (valOf o' e1) w1)->(∀(j:Nat) (o':Oper),l[j]?=some o'->fT l l.length j i=true->valOf o' e1=valOf o' e)->(∀(m:Nat) (y:Ye) (o':Oper),eu ms m=true->tM l ms m=true->iQ l ms m=b->ys[m]?=some y->l[m]?=some o'->y.at_ b (iQ l ms m) (vl l e1) (valOf o' e1) w1)->
 ak P N l.toArray (eA o (ys.getD i (.pr fun _ _=>True)) (vl l e1) (ext (mix e1 e (fI l)) (jB l ys (dX o)))) [o] (ext (mix e1 e (fI l)) (jB l ys (dX o))) w1) (ht:eu ms i=true:=by kernel_rfl) (hl:y4 l ms i=b:=by kernel_rfl) (hh:uv l ms i=b:=by kernel_rfl):qI P N l ys ms e w i o:=fun e1 w1 c en cC _ hp aZ hq=>by
 obtain rfl:c=b:=by omega
 rw [ht];exact h e1 w1 hp aZ hq
theorem aP(h:∀(e1:Env) (w1:aa),ak P N l.toArray (eS o (ys.getD i (.pr fun _ _=>True)) (vl l e1) (ext (mix e1 e (fI l)) (jB l ys (dX o))) w1) [o] (ext (mix e1 e (fI l)) (jB l ys (dX o))) w1)(ht:eu ms i=false:=by kernel_rfl):qI P N l ys ms e w i o:=fun e1 w1 c _ _ _ _ _ _=>by
 rw [ht];exact h e1 w1
def vi(P:Program)(N:Nat)(l:List Oper)(ys:List Ye)(ms:List Nat)(e:Env)(w:aa):Nat->List Oper->Prop
 | _,[]=>True
 | i,o::r=>qI P N l ys ms e w i o/\vi P N l ys ms e w (i+1) r
theorem vi.get:∀ {r:List Oper} {i:Nat},vi P N l ys ms e w i r->∀k o,r[k]?=some o->qI P N l ys ms e w (i+k) o
 | [],_,_,k,o,hk=>by simp at hk
 | x::r,i,h,0,o,hk=>by simp at hk;subst hk;exact h.1
 | x::r,i,h,k+1,o,hk=>by
  have:=vi.get h.2 k o (by simpa using hk);rw [show i+1+k=i+ (k+1) by omega]at this;exact this
theorem Ft{l:List Oper}{ys:List Ye}{e1:Env}:∀(af:List Edge),(∀ed∈af,∀(v:ab) (o':Oper),ys[ed.on]?=some (.ex v)->l[ed.on]?=some o'->valOf o' e1=v)->Mt e1 (jB l ys af)
 | [],_=>av
 | ed::r,h=>by
  have hr:=Ft r (fun x hx=>h x (n4 _ hx));unfold jB
  split
  ·rename_i v d hy hd;refine⟨?_,hr⟩;cases ho:l[ed.on]? with
   | none=>rw [ho]at hd;cases hd
   | some o'=>
    rw [ho]at hd;have um:o'.dst=some d:=hd;have:=h ed (by simp) v o' hy ho;unfold valOf at this;rw [um]at this;exact this
  ·exact hr
theorem Fx{e1 e:Env}:∀(l:List Oper) (ys:List Ye) (i:Nat),l.length=ys.length->(fI l).Nodup->(∀(k:Nat) (v:ab) (o:Oper),ys[k]?=some (.ex v)->l[k]?=some o->valOf o e1=v\/o.dst=none)->
 ∃u:Nat->ab,ext e (lk l ys u i)=mix e1 e (fI l)/\(∀(k:Nat) (o:Oper),l[k]?=some o->u (i+k)=valOf o e1)
 | [],[],i,_,_,_=> ⟨fun _=>undef,by funext j;rfl,fun k o h=>by simp at h⟩
 | [],y::ys,i,hl,_,_=>by simp at hl
 | o::l,[],i,hl,_,_=>by simp at hl
 | o::l,y::ys,i,hl,hn,h=>by
  have qd:(fI l).Nodup:=by
   unfold fI at hn|-;rw [List.filterMap_cons]at hn
   split at hn
   ·exact hn
   ·exact(lM.1 hn).2
  obtain⟨u,hu,l6⟩:=Fx (e1:=e1) (e:=e) l ys (i+1) (by simpa using hl) qd (fun k v o' hy ho=>h (k+1) v o' (by simpa using hy) (by simpa using ho));have Ak:∀(l:List Oper) (ys:List Ye) (i:Nat) (u u':Nat->ab),(∀k,i<=k->u k=u' k)->lk l ys u i=lk l ys u' i:=by
   intro l
   induction l with
   | nil=>intros;rfl
   | cons o l ih=>
    intro ys i u u' hk;cases ys with
    | nil=>rfl
    | cons y ys=>
     have h1:=ih ys (i+1) u u' (fun k cE=>hk k (by omega));simp only [lk];rw [h1,hk i (by omega)]
  have hc:=Ak l ys (i+1) (fun k=>if k=i then valOf o e1 else u k) u (fun k hk=>by show(if k=i then _ else _)=_;rw [aB (by omega)]);refine⟨fun k=>if k=i then valOf o e1 else u k,?_,fun k o' hk=>?_⟩
  ·cases hd:o.dst with
   | none=>
    have xC:fI (o::l)=fI l:=by unfold fI;rw [List.filterMap_cons,hd]
    simp only [lk,hd,hc,hu,xC]
   | some d=>
    have xC:fI (o::l)=d::fI l:=by unfold fI;rw [List.filterMap_cons,hd]
    have pf:valOf o e1=e1 d:=by unfold valOf;rw [hd]
    have gY:∀v,v=e1 d->br (mix e1 e (fI l)) d v=mix e1 e (d::fI l):=by
     intro v hv;funext j;simp only [br,mix,eu];cases hb:Nat.beq j d with
     | true=>rw [kO hb,hv];rfl
     | false=>rfl
    rw [xC];cases y with
    | ex v=>
     have h0:=h 0 v o O O;simp only [lk,hd,ext,hc,hu];refine gY v ?_;rcases h0 with h0 | h0
     ·rw [<-h0,pf]
     ·rw [hd]at h0;cases h0
    | pr p=>
     simp only [lk,hd,ext,hc,hu,aF];exact gY _ pf
    | p2 j p=>
     simp only [lk,hd,ext,hc,hu,aF];exact gY _ pf
    | al q p=>
     simp only [lk,hd,ext,hc,hu,aF];exact gY _ pf
  ·cases k with
   | zero=>simp at hk;subst hk;simp
   | succ k=>
    have:=l6 k o' (by simpa using hk);show(if i+ (k+1)=i then _ else u (i+ (k+1)))=_;rw [aB (by omega),<-this];congr 1;omega
theorem jc{Q:gn}(ms:List Nat)(ys:List Ye)(hm:P.follows .mixedOrders=true)(b6:Fw N l ys ms=true)(CK:∀y∈ys,y.mS)
 (Dh:vi P N l ys ms e w 0 l) (pV:∀u w1,(ms=[]->Below w.heap.size w w1)->(∀(k:Nat) (p:ab->aa->Prop),ys[k]?=some (Ye.pr p)->iQ l ms k=ms.length->p (u k) w1)->(∀(k j:Nat) (p:ab->ab->aa->Prop),ys[k]?=some (Ye.p2 j p)->iQ l ms k=ms.length->p (u j) (u k) w1)->(∀(k:Nat) (q:ab->Prop) (p:ab->aa->Prop),ys[k]?=some (Ye.al q p)->q (u k)/\(iQ l ms k=ms.length->p (u k) w1))->Q .normal (ext e (lk l ys u 0)) w1):Cd P N (.region id l.toArray true) Q e w:= .mk' fun a ha=>by
 simp only [Fw,Bool.and_eq_true,List.all_eq_true,jj]at b6;obtain⟨⟨⟨⟨⟨⟨⟨⟨h1,h2⟩,h3⟩,hlen⟩,Px⟩,k4⟩,lA⟩,hmy⟩,pa⟩:=b6;have C4:∀(k j:Nat) (p:ab->ab->aa->Prop),ys[k]?=some (.p2 j p)->fT l l.length k j=true/\j<l.length:=by
  intro k j p hk;have:=pa (.p2 j p,k) (by rw [List.mem_iff_getElem?];exact⟨k,by simp [hk]⟩);simpa [Nat.blt_eq]using this
 have p9:l.length=ys.length:=kO hlen;have rh:∀(i:Nat) (o:Oper),l[i]?=some o->∀ed∈dX o,ed.on<i:=by
  intro i o ho ed fe;have:=h3 (o,i) (by
   obtain⟨hi,CB⟩:=fu.1 ho;rw [List.mem_iff_getElem?];exact⟨i,by simp [ho]⟩)
  simpa [Nat.blt_eq]using this ed fe
 have OI:∀(i:Nat) (o:Oper) (d:Nat),l[i]?=some o->o.dst=some d->d<N:=by
  intro i o d ho hd;have:=h1 o (List.mem_of_getElem? ho);rw [hd]at this;simpa [Nat.blt_eq]using this
 have hexd:∀(i:Nat) (o:Oper) (v:ab),l[i]?=some o->ys[i]?=some (.ex v)->o.dst≠none:=by
  intro i o v ho hy hd;have:=Px (o,.ex v) (by
   rw [List.mem_iff_getElem?];exact⟨i,by rw [List.getElem?_zip_eq_some];exact⟨ho,hy⟩⟩)
  simp [hd,Dv]at this
 refine wp_region_any hm ?_
 let mB:Array Bool->Nat:=fun listed=>ms.countP fun m=>listed.getD m false
 have key:∀(fuel:Nat) (listed:Array Bool) (a1:Act) (e1:Env) (w1:aa),gI N a1 e1->(mB listed=0->Below w.heap.size w w1)->(∀j,eu (fI l) j=false->e1 j=e j)->listed.size=l.length->
  (∀(i:Nat) (y:Ye) (o:Oper),listed.getD i false=true->ys[i]?=some y->l[i]?=some o->y.at_ (mB listed) (iQ l ms i) (vl l e1) (valOf o e1) w1)->(∀(i:Nat) (o:Oper),listed.getD i false=true->l[i]?=some o->∀ed∈dX o,listed.getD ed.on false=true)->(∀(i:Nat) (o:Oper),listed.getD i false=false->l[i]?=some o->valOf o e1=valOf o e)->(l.length - fuel<=(List.range l.length).countP fun i=>listed.getD i false)->
  wpAny P .any l.toArray (low N Q) fuel listed a1 w1:=by
  have lu:∀(listed:Array Bool) (a1:Act) (e1:Env) (w1:aa),gI N a1 e1->(mB listed=0->Below w.heap.size w w1)->(∀j,eu (fI l) j=false->e1 j=e j)->
   (∀(i:Nat) (y:Ye) (o:Oper),listed.getD i false=true->ys[i]?=some y->l[i]?=some o->y.at_ (mB listed) (iQ l ms i) (vl l e1) (valOf o e1) w1)->(∀i,i<l.length->listed.getD i false=true)->low N Q .normal a1 w1:=by
   intro listed a1 e1 w1 hr hb lp hS dV;have kz:mB listed=ms.length:=by
    show ms.countP _=ms.length;rw [List.countP_eq_length];intro m sP;exact dV m (by simpa [Nat.blt_eq]using lA m sP)
   obtain⟨u,hu,l6⟩:=Fx (e1:=e1) (e:=e) l ys 0 p9 h2 (fun k v o hy ho=> .inl (hS k _ o (dV k (fu.1 ho).1) hy ho));refine⟨e1,hr,?_⟩;have:=pV u w1 (fun h0=>hb (by rw [kz,h0];rfl)) (fun k p hk cS=>by
    have fE:k<l.length:=by rw [p9];exact(fu.1 hk).1
    have h5:=hS k _ l[k] (dV k fE) hk (dE fE);have h6:=l6 k l[k] (dE fE);rw [Nat.zero_add]at h6;rw [h6];exact h5 (by rw [kz,cS])) (fun k j p hk cS=>by
    have fE:k<l.length:=by rw [p9];exact(fu.1 hk).1
    have hj:=C4 k j p hk;have h5:=hS k _ l[k] (dV k fE) hk (dE fE);have h6:=l6 k l[k] (dE fE);have h7:=l6 j l[j] (dE hj.2);rw [Nat.zero_add]at h6 h7;have h8:vl l e1 j=valOf l[j] e1:=by unfold vl;rw [List.getElem?_eq_getElem hj.2]
    rw [h6,h7,<-h8];exact h5 (by rw [kz,cS])) (fun k q p hk=>by
    have fE:k<l.length:=by rw [p9];exact(fu.1 hk).1
    have h5:=hS k _ l[k] (dV k fE) hk (dE fE);have h6:=l6 k l[k] (dE fE);rw [Nat.zero_add]at h6;rw [h6];exact⟨h5.1,fun cS=>h5.2 (by rw [kz,cS])⟩)
   rw [hu,y6 lp]at this;exact this
  have C9:∀(listed:Array Bool),listed.size=l.length->Region.ready .any l.toArray listed=[]->∀i,i<l.length->listed.getD i false=true:=by
   intro listed mP sS i
   induction i using Nat.strongRecOn with
   | _ i ih=>
    intro hi;cases vZ:listed.getD i false with
    | true=>rfl
    | false=>
     exfalso;have:i∈Region.ready .any l.toArray listed:=by
      rw [mem_ready];refine⟨?_,l[i],by simp [hi],fun ed fe im=>ih ed.on (rh i _ (dE hi) ed (oE.2 ⟨fe,im⟩)) (by have:=rh i _ (dE hi) ed (oE.2 ⟨fe,im⟩);omega)⟩;rw [gP,nW (by omega)]at vZ|-;exact vZ
     rw [sS]at this;cases this
  intro fuel
  induction fuel with
  | zero=>
   intro listed a1 e1 w1 hr hb lp mP hS fx s4 kz;have dV:∀i,i<l.length->listed.getD i false=true:=by
    have h4:(List.range l.length).countP (fun i=>listed.getD i false)=(List.range l.length).length:=by
     have:=List.countP_le_length (p:=fun i=>listed.getD i false) (l:=List.range l.length);simp at this kz|-;omega
    rw [List.countP_eq_length]at h4;intro i hi;exact h4 i (by simpa using hi)
   refine⟨?_,lu listed a1 e1 w1 hr hb lp hS dV⟩;rw [List.eq_nil_iff_forall_not_mem];intro i hi;obtain⟨h5,o,ho,_⟩:=mem_ready.1 hi;have lW:i<l.length:=by
    rcases Nat.lt_or_ge i l.length with h | h
    ·exact h
    ·simp [oP h]at ho
   have h6:=dV i lW;rw [gP,nW (by omega)]at h5 h6;simp at h5 h6;rw [h5]at h6;cases h6
  | succ fuel ih=>
   intro listed a1 e1 w1 hr hb lp mP hS fx s4 kz;refine⟨fun sS=>lu listed a1 e1 w1 hr hb lp hS (C9 listed mP sS),fun i hi=>?_⟩;obtain⟨aZ,o,ho,x8⟩:=mem_ready.1 hi;have jG:l[i]?=some o:=by simpa using ho
   have lW:i<l.length:=(fu.1 jG).1;have jq:∀ed∈dX o,listed.getD ed.on false=true:=fun ed fe=>x8 ed (oE.1 fe).1 (oE.1 fe).2
   have qj:listed.getD i false=false:=by
    have h5:=aZ;rw [gP,nW (by omega)]at h5|-;exact h5
   have ou:∀k,(listed.setIfInBounds i true).getD k false=if k=i then true else listed.getD k false:=by
    intro k;rw [gP,qE]
    by_cases dI:k=i
    ·subst dI;rw [aF rfl,aF (by omega),aF rfl];rfl
    ·rw [aB (fun e=>dI e.symm),aB dI,<-gP]
   have en:y4 l ms i<=mB listed:=xz fun m _ h=>zQ fx jG jq _ _ h
   have cC:mB listed<=uv l ms i:=xz fun m _ h=>by
    have cG:Nat.beq m i=false:=by
     cases hb:Nat.beq m i with
     | false=>rfl
     | true=>rw [kO hb,qj]at h;cases h
    have sE:fT l l.length m i=false:=by
     cases hb:fT l l.length m i with
     | false=>rfl
     | true=>have:=qJ fx _ _ _ hb h;rw [qj]at this;cases this
    simp [cG,sE]
   have cS:∀(j:Nat),listed.getD j false=true->iQ l ms j<=mB listed:=fun j hj=>xz fun m _ h=>by
    rw [Bool.or_eq_true]at h;rcases h with h | h
    ·rw [kO h];exact hj
    ·exact qJ fx _ _ _ h hj
   have ax:=Dh.get i o jG e1 w1 (mB listed);rw [Nat.zero_add]at ax;have ax:=ax en cC hb (fun j y o' sE hy o9=>hS j y o' (zQ fx jG jq _ _ sE) hy o9) (fun j o' hj sE=>by
    refine s4 j o' ?_ hj;cases qa:listed.getD j false with
    | false=>rfl
    | true=>have:=qJ fx _ _ _ sE qa;rw [qj]at this;cases this) (fun m y o' hm vP hphm hy HF=>by
    refine hS m y o' ?_ hy HF;cases Ht:listed.getD m false with
    | true=>rfl
    | false=>
     exfalso;have h8:=vq (fun k=>listed.getD k false) (fun k=>if k=m then true else listed.getD k false) m Ht (fun k=>O) ms k4 (rP.1 hm);have h9:ms.countP (fun k=>if k=m then true else listed.getD k false)<=iQ l ms m:=xz fun m' fj h=>by
      by_cases e:m'=m
      ·rw [e,Nat.beq_refl];rfl
      ·rw [aB e]at h;simp only [tM,List.all_eq_true]at vP;have fJ:=vP m' fj;cases mH:fT l l.length m m' with
       | true=>rw [Bool.or_true]
       | false=>
        rw [mH,Bool.or_false,Bool.or_eq_true]at fJ;rcases fJ with fJ | fJ
        ·exact absurd (kO fJ) e
        ·have:=qJ fx _ _ _ fJ h;rw [Ht]at this;cases this
     have qX:ms.countP (fun k=>listed.getD k false)=mB listed:=O;omega)
   rw [y6 lp,tU (Ft (dX o) (fun ed fe v o' hy o9=>hS ed.on _ o' (jq ed fe) hy o9))]at ax
   let turns:Prop:=eu ms i=true
   let KK:Env->aa->Prop:=fun e2 w2=> (eu ms i=false->Below w1.heap.size w1 w2)/\(ys.getD i (.pr fun _ _=>True)).holds (vl l e1) (valOf o e2) w2/\∀j,o.dst≠some j->e2 j=e1 j
   have Qf:∃K:Env->aa->Prop,(∀e2 w2,K e2 w2->KK e2 w2)/\ak P N l.toArray K [o] e1 w1:=by
    cases iq:eu ms i with
    | true=>
     rw [iq]at ax;exact⟨_,fun e2 w2 h=> ⟨fun h0=> (by rw [iq]at h0;cases h0),h.1,h.2⟩,ax⟩
    | false=>
     rw [iq]at ax;exact⟨_,fun e2 w2 h=> ⟨fun _=>h.1,h.2.1,h.2.2⟩,ax⟩
   obtain⟨K,vH,PY⟩:=Qf;have oz:=PY.run a1 hr;have yf:mB (listed.setIfInBounds i true)=if eu ms i=true then mB listed+1 else mB listed:=by
    show ms.countP _=_
    by_cases iq:eu ms i=true
    ·rw [aF iq];exact vq (fun m=>listed.getD m false) (fun m=> (listed.setIfInBounds i true).getD m false) i qj ou ms k4 (rP.1 iq)
    ·rw [aB iq];refine List.countP_congr fun m sP=>?_
     rw [ou,aB (fun e=>iq (rP.2 (by rw [<-e];exact sP)))]
   have qe:∀a2 w2,(∃e2,gI N a2 e2/\K e2 w2)->wpAny P .any l.toArray (low N Q) fuel (listed.setIfInBounds i true) a2 w2:=by
    intro a2 w2 ⟨e2,C8,NV⟩;obtain⟨nA,ql,uh⟩:=vH _ _ NV;have C3:∀(k:Nat) (o':Oper),l[k]?=some o'->k≠i->valOf o' e2=valOf o' e1:=by
     intro k o' b6 dI;unfold valOf;cases hd:o'.dst with
     | none=>rfl
     | some d=>exact uh d (fun h=>dI (AL _ l h2 k i o' o d b6 jG hd h))
    have qk:∀j,j≠i->vl l e2 j=vl l e1 j:=by
     intro j hj;unfold vl;cases o9:l[j]? with
     | none=>rfl
     | some o'=>exact C3 j o' o9 hj
    refine ih _ a2 e2 w2 C8 (fun h0=>?_) (fun j hj=>?_) (by simpa using mP) (fun k y o' hk hy b6=>?_) (fun k o' hk b6 ed fe=>?_) (fun k o' hk b6=>?_) ?_
    ·rw [yf]at h0
     by_cases iq:eu ms i=true
     ·rw [aF iq]at h0;omega
     ·rw [aB iq]at h0;have:=nA (by simpa using iq);exact(hb h0).trans (this.mono (hb h0).size)
    ·have cG:o.dst≠some j:=by
      intro hd;have:eu (fI l) j=true:=by rw [rP];exact List.mem_filterMap.2 ⟨o,List.mem_of_getElem? jG,hd⟩
      rw [this]at hj;cases hj
     rw [uh j cG];exact lp j hj
    ·by_cases dI:k=i
     ·subst dI;rw [jG]at b6;cases b6;have:ys.getD k (.pr fun _ _=>True)=y:=by simp [bX,hy]
      rw [this]at ql;cases y with
      | ex v=>exact ql
      | pr p=>exact fun _=>ql
      | p2 j p=>
       have hj:=C4 k j p hy;have qa:listed.getD j false=true:=zQ fx jG jq _ _ hj.1;have nE:j≠k:=fun e=>by rw [e,qj]at qa;cases qa
       exact fun _=>by rw [qk j nE];exact ql
      | al q p=>exact⟨ql.1,fun _=>ql.2⟩
     ·have cE:listed.getD k false=true:=by rw [ou,aB dI]at hk;exact hk
      have h7:=hS k y o' cE hy b6;rw [C3 k o' b6 dI];cases y with
      | ex v=>exact h7
      | pr p=>
       intro hc;rw [yf]at hc
       by_cases iq:eu ms i=true
       ·rw [aF iq]at hc;have:=cS k cE;omega
       ·rw [aB iq]at hc;have hl:=CK _ (List.mem_of_getElem? hy);exact hl _ _ _ (h7 hc) (nA (by simpa using iq))
      | p2 j p=>
       have hj:=C4 k j p hy;have qa:listed.getD j false=true:=qJ fx _ _ _ hj.1 cE;have nE:j≠i:=fun e=>by rw [e,qj]at qa;cases qa
       intro hc;rw [qk j nE];rw [yf]at hc
       by_cases iq:eu ms i=true
       ·rw [aF iq]at hc;have:=cS k cE;omega
       ·rw [aB iq]at hc;have hl:=CK _ (List.mem_of_getElem? hy);exact hl _ _ _ _ (h7 hc) (nA (by simpa using iq))
      | al q p=>
       refine⟨h7.1,fun hc=>?_⟩;rw [yf]at hc
       by_cases iq:eu ms i=true
       ·rw [aF iq]at hc;have:=cS k cE;omega
       ·rw [aB iq]at hc;have hl:=CK _ (List.mem_of_getElem? hy);exact hl _ _ _ (h7.2 hc) (nA (by simpa using iq))
    ·rw [ou]
     by_cases vR:ed.on=i
     ·rw [aF vR]
     ·rw [aB vR]
      by_cases dI:k=i
      ·subst dI;rw [jG]at b6;cases b6;exact jq ed fe
      ·rw [ou,aB dI]at hk;exact fx k o' hk b6 ed fe
    ·rw [ou]at hk
     by_cases dI:k=i
     ·rw [aF dI]at hk;cases hk
     ·rw [aB dI]at hk;rw [C3 k o' b6 dI];exact s4 k o' hk b6
    ·have Cn:(List.range l.length).countP (fun k=> (listed.setIfInBounds i true).getD k false)=(List.range l.length).countP (fun k=>listed.getD k false)+1:=
      vq (fun k=>listed.getD k false) (fun k=> (listed.setIfInBounds i true).getD k false) i qj ou _ List.nodup_range (by simpa using lW)
     rw [Cn];omega
   unfold wpOp;rw [ho];unfold wpList at oz;show if _ then _ else _
   by_cases hw:Region.wanted o (yielded l.toArray a1.tmps)=true
   ·rw [aF hw]at oz|-;rcases oz with h5 | ⟨_,a0,w0,h5⟩
    ·refine .inl (EC h5 (fun a2 w2 hx=>?_) (fun x a w hx hq=>hx hq.1));exact qe a2 w2 hx.2
    ·exact absurd h5.1 (by simp)
   ·rw [aB hw]at oz|-;exact qe _ _ oz.2
 refine key l.length (Array.replicate l.length false) a e _ ha (fun _=> ⟨⟨O,O,O,cO _,fun _ _=>O⟩,fun _=>Nat.le_add_right _ _⟩) (fun _ _=>O) (by simp) (fun i y o hi=>?_) (fun i o hi=>?_) (fun _ _ _ _=>O) (by omega)
 ·exfalso;rw [gP,Array.getElem?_replicate]at hi
  split at hi<;>simp at hi
 ·exfalso;rw [gP,Array.getElem?_replicate]at hi
  split at hi<;>simp at hi
end
theorem KD(x y:Int)(w:aa)(hx:0<=x/\x<=1048576)(hy:0<=y/\y<=1048576):aG prog 236 [.int .u64 x,.int .u64 y] w (fun v w'=>v= .tuple #[.int .u64 0,.int .u64 (x*y)]/\w'=w):=by
 have hxy:0<=x*y/\x*y<=1099511627776:=⟨Int.mul_nonneg hx.1 hy.1,Int.le_trans (Int.mul_le_mul hx.2 hy.2 hy.1 (by omega)) (by decide)⟩;have ex:x%4294967296=x:=by omega
 have ey:y%4294967296=y:=by omega
 have dx:x / 4294967296=0:=by omega
 have dy:y / 4294967296=0:=by omega
 refine bs func236 O ntmps236 O (mV O) (aY O (zH (x) O O O (by omega) (by omega) (aq O (vc (0) O O O (by omega) (by omega) (aq O (zH (y) O O O (by omega) (by omega) (aq O (vc (0) O O O (by omega) (by omega) (aq O ?_)))))))));refine vb (x*y) O O O (by simp) (by omega) ?_;refine aq O ?_;refine vb (0) O O O (by simp) (by omega) ?_;refine aq O (vc (x*y / 4294967296) O O O (by omega) (by omega) ?_);refine xk (x*y / 4294967296) O O O (by simp) (by omega) ?_;refine aq O (zH (x*y / 4294967296) O O O (by omega) (by omega) (aq O (vc (0) O O O (by omega) (by omega) (aq O ?_))));refine vb (0) O O O (by simp) (by omega) ?_;refine xk (x*y / 4294967296) O O O (by simp) (by omega) ?_;refine aq O ?_;refine vb (0) O O O (by simp) (by omega) ?_;refine aq O ?_;refine xk (0) O O O (by simp) (by omega) ?_;refine aq O (vc (0) O O O (by omega) (by omega) ?_);refine xk (0) O O O (by simp) (by omega) ?_;refine aq O ?_;refine vb (x*y) O O O (by simp) (by omega) ?_;refine bW O (JJ O O ?_);exact⟨O,O⟩
theorem KE(x y:Int)(w:aa)(hx:0<=x/\x<=1048576)(hy:0<=y/\y<=1048576):aG prog 194 [.int .u64 x,.int .u64 y] w (fun v w'=>v= .tuple #[.int .u64 0,.int .u64 (x*y)]/\w'=w):=by
 refine bs func194 O ntmps194 O (mV O) (bH O (Cd.dO O (aC O (aO (KD x y w hx hy) O ?_))));rintro _ _ ⟨rfl,rfl⟩;refine bW O (JJ O O ?_);exact⟨O,O⟩
def rep(a n:Nat)(x v:Int):ah:=List.replicate a x++List.replicate (n - a) v
theorem Tw{m n q:Nat}{x v:Int}(hm:m<=n)(hq:q<=n - m):((rep m n x v).map (Value.int .i64)).take m++ (List.range q).map (fun _=>Value.int .i64 x)++ ((rep m n x v).map (Value.int .i64)).drop (m+q)=(rep (m+q) n x v).map (Value.int .i64):=by
 have e1:(rep m n x v).map (Value.int .i64)=List.replicate m (Value.int .i64 x)++List.replicate (n - m) (Value.int .i64 v):=by simp [rep]
 have e2:(List.range q).map (fun _=>Value.int .i64 x)=List.replicate q (Value.int .i64 x):=by
  apply gj<;>simp
 rw [e1,e2,tA (by simp),List.drop_append];simp only [rep,iT,List.map_replicate,List.length_replicate,List.take_replicate,List.drop_replicate,Nat.min_self];rw [show m - (m+q)=0 by omega,show m+q - m=q by omega,show n - m - q=n - (m+q) by omega];simp
theorem xp(A:ai)(c:Nat)(x:Int)(n:Nat)(w:aa)(hR:bS w A 1 [x])(hn:n<=1048576):
 aG prog 128 [.slice A 1 c,aj n] w (fun v w'=>∃A',v= .slice A' n n/\St w w' [aE 2 A' n n (List.replicate n x)]):=by
 refine bs func128 O ntmps128 O (bF O) (bH O (kJ O (by omega) ?_));refine aC O (aR O O ?_);refine qG (i:=1) O O (by decide) (aq O (qG (i:=(n:Int)) O O (tw _ (by omega)) (aO (KE 1 n _ (by omega) (by omega)) O ?_)));rintro _ w ⟨rfl,rfl⟩;rw [Int.one_mul];refine aq O (ak.gtr O O O (aq O ?_));refine bR 23 O (fun h=>absurd h (by decide)) (fun _=>?_);refine ar O (aq O (ar O (ak.gtr O O O (aA O ?_))));refine kJ O (by omega) (aC O (qG (i:=(n:Int)) O O (IntWalk.i64_in _ (by omega)) (xm n (St.refl w) O O (by omega) ?_)));intro A1 w1 aD;refine aq O ?_;refine EH 0 0 (min 1 n) aD O (aD.dh hR).2 (bk _) (by rw [Mn];rfl) O (fun _ _=>O) O O ?_;intro w2 ay;refine aA O ?_;have h3:St w w2 [aE 2 A1 n n (rep (min 1 n) n x 0)]:=by
  have e:([aE 2 A1 n n (List.replicate n 0)].set 0 { aE 2 A1 n n (List.replicate n 0)with vs:=(aE 2 A1 n n (List.replicate n 0)).vs.take 0++ (List.range (min 1 n)).map (fun j=>Value.int .i64 ([x].getD j 0))++ (aE 2 A1 n n (List.replicate n 0)).vs.drop (0+min 1 n) })=[aE 2 A1 n n (rep (min 1 n) n x 0)]:=by
   by_cases h0:n=0
   ·subst h0;rfl
   have h1:min 1 n=1:=by omega
   rw [h1];simp [aE,rep,lg]
  rw [<-e];exact ay
 refine Cd.loop (α:=Nat) (fun m=> [(7,.slice A1 n n),(8,aj m)]) (fun m w'=>St w w' [aE 2 A1 n n (rep m n x 0)]/\m<=n/\(0<n->0<m)) (fun m=>n - m) (min 1 n) (Wn O) ⟨h3,by omega,by omega⟩ ?_;rintro m e w3 ⟨aL,hm,Po⟩;refine aY O (aR O O (aA O ?_));refine aJ _ O (fun h4=>?_) (fun h4=>?_)
 ·refine cj O ?_;have hlen:(rep m n x 0).length=n:=aL.rL 0 O;have fc:∀ {w1:aa},Below w3.heap.size w3 w1->Rd w1 A1 m (fun _=>aj x):=fun hb j hj=>by
   have h5:=(aL.ao hb).rd 0 O j (by show j<n;omega);have h6:((rep m n x 0).map (Value.int .i64)).getD j undef=aj x:=by simp [rep,bX,mo,hj]
   obtain⟨p,hp,hc⟩:=h5;exact⟨p,hp,hc.trans (aS some h6)⟩
  have xY:=Tw (n:=n) (m:=m) (q:=min m (n - m)) (x:=x) (v:=0) hm (by omega);refine jc [7] [yI ((m:Int)),yS (A1) (n) (n),yI ((m:Int)),yS (cutAt A1 n m) (n - m) (n - m),yS (A1) (n) (n),yI ((m:Int)),yS (A1) (m) (n),.pr (fun v w'=>v=aj ((min m (n - m):Nat):Int)/\St w w' [aE 2 A1 n n (rep (m+min m (n - m)) n x 0)]),yI ((m:Int)+ ((min m (n - m):Nat):Int)),yI ((m:Int)+ ((min m (n - m):Nat):Int))] (by kernel_rfl) (by kernel_rfl) (ly (ly (ly (ly (ly (ly (ly (cq.2 ⟨Ye.ct (fun v w w' h hb=> ⟨h.1,h.2.ao hb⟩),(ly (ly (fun _ h=>by cases h)))⟩)))))))) ?_ ?_
  ·refine⟨?_,b8 O,?_,aP fun _ _=>tD O O O (by omega) (bJ O O),b8 O,?_,aP fun _ _=>tC O O O (by omega) (bJ O O),?_,?_,b8 O,av⟩
   ·intro e1 w1 cc en cC dq hp aZ hq;show ak _ _ _ _ _ _ _;refine zI O (by exact aZ 9 _ O (by kernel_rfl)) O (ak.n (fO O (by exact O)))
   ·intro e1 w1 cc en cC dq hp aZ hq;show ak _ _ _ _ _ _ _;refine zI O (by exact aZ 9 _ O (by kernel_rfl)) O (ak.n (fO O (by exact O)))
   ·intro e1 w1 cc en cC dq hp aZ hq;show ak _ _ _ _ _ _ _;refine zI O (by exact aZ 9 _ O (by kernel_rfl)) O (ak.n (fO O (by exact O)))
   ·refine jh fun e1 w1 hb hp aZ hq=>?_
    refine EH 0 m (min m (n - m)) (aL.ao hb) O (f:=fun _=>aj x) (fc hb) (by omega) O O (fun _ _=>O) O O fun w5 aV=>ak.n ?_;exact eA.dn O ⟨O,by show St w w5 [⟨A1,n,n,_,(rep (m+min m (n - m)) n x 0).map (Value.int .i64)⟩];rw [<-xY];exact aV⟩
   refine dP 1 fun e1 w1 hp aZ hq=>?_
   have cS:=hp 7 _ _ (by kernel_rfl) O O (by kernel_rfl);refine Wi O (by exact cS.1) O (by omega) (ak.n (fO O (by exact O)))
  intro u w5 _ hu _ _;have aV:=(hu 7 _ O (by kernel_rfl)).2;refine Kz O (tQ ?_);exact⟨m+min m (n - m),by have:=Po (by omega);omega,⟨O,by show Value.int .i64 _=Value.int .i64 _;congr 1,av⟩,aV,by omega,by omega⟩
 refine bj O (bl (dd O ?_));refine dH O ?_;have:m=n:=by omega
 subst this;refine⟨A1,O,?_⟩;have e:rep m m x 0=List.replicate m x:=by simp [rep]
 rw [<-e];exact aL
end
section
variable{N i:Nat}{x y:Int}
theorem zq{α:Type}[DecidableEq α]:∀(a b:List α),a.Nodup->(∀x∈a,x∈b)->a.length<=b.length
 | [],_,_,_=>bk _
 | x::a,b,hn,h=>by
  simp only [lM]at hn;have h1:=zq a (b.erase x) hn.2 (fun y hy=>by
   rw [List.mem_erase_of_ne (fun e=>hn.1 (by rw [<-e];exact hy))];exact h y (by simp [hy]))
  have hx:=h x (by simp);have h2:=List.length_erase_of_mem hx;have h3:=List.length_pos_of_mem hx;simp only [List.length_cons];omega
theorem J0{α:Type}[DecidableEq α]{a b:List α}(hn:a.Nodup)(h:∀x∈a,x∈b)(hl:b.length<=a.length):∀x∈b,x∈a:=by
 intro y hy;apply kK;intro wE;have:=zq (y::a) b (by simp [wE,hn]) (fun x hx=>by
  rcases kj.1 hx with rfl | hx
  ·exact hy
  exact h x hx)
 simp at this;omega
def ml(N:Nat)(xss:ag):Prop:=∀p∈xss,∀x y:Int,0<=x->x<N->0<=y->y<N->gi p x=gi p y->x=y
theorem Reach.range{xss:ag}(hs:Sys N xss)(h0:0<=x)(h1:x<N)(h:Reach xss x y):0<=y/\y<N:=by
 induction h with
 | refl=>exact⟨h0,h1⟩
 | step _ hp ih=>exact(hs _ hp).2 _ ih.1 ih.2
theorem Reach.back{xss:ag}(hs:Sys N xss)(hi:ml N xss)(h0:0<=x)(h1:x<N){p:ah}(hp:p∈xss):Reach xss (gi p x) x:=by
 have hy:=(hs p hp).2 x h0 h1;obtain⟨g,_,hm⟩:=qv hs hy.1 hy.2;have key:=J0 (a:=(cK N xss (gi p x)).map (gi p)) (b:=cK N xss (gi p x)) (by
  rw [List.nodup_iff_pairwise_ne,List.pairwise_map];refine List.Pairwise.imp_of_mem ?_ g.nodup;intro a b ha hb jD e;exact jD (hi p hp a b (g.range a ha).1 (g.range a ha).2 (g.range b hb).1 (g.range b hb).2 e))
  (fun z hz=>by
    obtain⟨u,hu,rfl⟩:=fq.1 hz;exact(hm _).2 (.step ((hm u).1 hu) hp)) (by simp)
 obtain⟨u,hu,e⟩:=fq.1 (key (gi p x) ((hm _).2 .refl));have:=hi p hp u x (g.range u hu).1 (g.range u hu).2 h0 h1 e;subst this;exact(hm u).1 hu
theorem Reach.symm{xss:ag}(hs:Sys N xss)(hi:ml N xss)(h0:0<=x)(h1:x<N)(h:Reach xss x y):Reach xss y x:=by
 induction h with
 | refl=>exact .refl
 | step hr hp ih=>
  have hy:=hr.range hs h0 h1;exact(Reach.back hs hi hy.1 hy.2 hp).trans ih
def k8(L:ah)(c:Int):ah->ah
 | []=>L
 | x::xs=>k8 (L.set x.toNat c) c xs
theorem DY:∀(xs L:ah) (c:Int),(k8 L c xs).length=L.length
 | [],_,_=>rfl
 | x::xs,L,c=>by rw [k8,DY xs];simp
theorem qU{N:Nat}:∀(xs L:ah) (c:Int),L.length=N->(∀x∈xs,0<=x/\x<N)->∀x:Int,0<=x->gi (k8 L c xs) x=if x∈xs then c else gi L x
 | [],_,_,_,_,x,_=>by simp [k8]
 | y::xs,L,c,hl,h,x,hx=>by
  have hy:=h y (by simp);rw [k8,qU xs (L.set y.toNat c) c (by simpa using hl) (fun z hz=>h z (by simp [hz])) x hx,mF hy.1 (by rw [hl];exact hy.2) hx]
  by_cases h1:x∈xs
  ·simp [h1]
  ·rw [aB h1]
   by_cases h2:y=x
   ·subst h2;simp
   ·rw [aB h2,aB];simp only [kj,not_or];exact⟨fun e=>h2 e.symm,h1⟩
def bq(N:Nat)(xss:ag):Nat->ah×Int
 | 0=> (List.replicate N (-1),0)
 | i+1=>if 0<=gi (bq N xss i).1 i then bq N xss i else(k8 (bq N xss i).1 (bq N xss i).2 (cK N xss i),(bq N xss i).2+1)
theorem s9{xss:ag}(h:¬0<=gi (bq N xss i).1 i):bq N xss (i+1)=(k8 (bq N xss i).1 (bq N xss i).2 (cK N xss i),(bq N xss i).2+1):=by
 show(if _ then _ else _)=_;rw [aB h]
theorem uM{xss:ag}(h:0<=gi (bq N xss i).1 i):bq N xss (i+1)=bq N xss i:=by
 show(if _ then _ else _)=_;rw [aF h]
theorem lE(N:Nat)(xss:ag):∀i,(bq N xss i).1.length=N
 | 0=>by simp [bq]
 | i+1=>by
  simp only [bq]
  split
  ·exact lE N xss i
  ·rw [DY];exact lE N xss i
theorem rK(N:Nat)(xss:ag):∀i,0<=(bq N xss i).2/\(bq N xss i).2<=i
 | 0=>by simp [bq]
 | i+1=>by
  have:=rK N xss i;simp only [bq]
  split
  ·omega
  ·simp only;omega
theorem qV{v:Int}(h0:0<=x)(h1:x<N):gi (List.replicate N v) x=v:=by
 simp [gi,bX,List.getElem?_replicate,show x.toNat<N by omega]
theorem s8{N:Nat}{xss:ag}(hs:Sys N xss):∀i,i<=N->∀x:Int,0<=x->x<N->(0<=gi (bq N xss i).1 x↔∃j:Nat,j<i/\Reach xss j x)
 | 0,_,x,h0,h1=>by
  simp only [bq,qV h0 h1];constructor
  ·intro h;omega
  ·rintro⟨j,hj,_⟩;omega
 | i+1,hi,x,h0,h1=>by
  have ih:=s8 hs i (by omega);have hc:=rK N xss i;have ho:=qv hs (pt:=(i:Int)) (by omega) (by omega);simp only [bq]
  split
  ·rename_i hl;rw [ih x h0 h1];constructor
   ·rintro⟨j,hj,hr⟩;exact⟨j,by omega,hr⟩
   ·rintro⟨j,hj,hr⟩
    by_cases nE:j=i
    ·subst nE;obtain⟨j',eV,dJ⟩:=(ih j (by omega) (by omega)).1 hl;exact⟨j',eV,dJ.trans hr⟩
    ·exact⟨j,by omega,hr⟩
  ·simp only;rw [qU _ _ _ (lE N xss i) ho.1.range x h0]
   by_cases hm:x∈cK N xss i
   ·rw [aF hm];exact⟨fun _=> ⟨i,by omega,(ho.2.2 x).1 hm⟩,fun _=>hc.1⟩
   ·rw [aB hm,ih x h0 h1];constructor
    ·rintro⟨j,hj,hr⟩;exact⟨j,by omega,hr⟩
    ·rintro⟨j,hj,hr⟩
     by_cases nE:j=i
     ·subst nE;exact absurd ((ho.2.2 x).2 hr) hm
     ·exact⟨j,by omega,hr⟩
theorem RL{xss:ag}(hs:Sys N xss)(hN:0<N):(bq N xss N).2=1↔∀x:Int,0<=x->x<N->Reach xss 0 x:=by
 have h1:(bq N xss 1).2=1:=by
  have:¬(0:Int)<=gi (bq N xss 0).1 (0:Nat):=by
   rw [show(bq N xss 0).1=List.replicate N (-1) from rfl,qV (by omega) (by omega)];omega
  rw [show(1:Nat)=0+1 from rfl,s9 this];rfl
 constructor
 ·intro hc;have mono:∀i j,i<=j->(bq N xss i).2<=(bq N xss j).2:=by
   intro i j rp
   induction j with
   | zero=>
    have:i=0:=by omega
    subst this;omega
   | succ j ih=>
    by_cases e:i=j+1
    ·subst e;omega
    ·have:=ih (by omega);have h2:(bq N xss j).2<=(bq N xss (j+1)).2:=by
      simp only [bq];split
      ·omega
      ·simp only;omega
     omega
  have key:∀i:Nat,i<N->Reach xss 0 (i:Int):=by
   intro i
   induction i using Nat.strongRecOn with
   | _ i ih=>
    intro hi
    by_cases h0:i=0
    ·subst h0;exact .refl
    ·have hl:0<=gi (bq N xss i).1 i:=by
      apply kK;intro hn;have h2:=mono 1 i (by omega);have h3:=mono (i+1) N (by omega);have h4:(bq N xss (i+1)).2=(bq N xss i).2+1:=by rw [s9 hn]
      omega
     obtain⟨j,hj,hr⟩:=(s8 hs i (by omega) i (by omega) (by omega)).1 hl;exact(ih j hj (by omega)).trans hr
  intro x h0 h2;have:=key x.toNat (by omega);rw [Int.toNat_of_nonneg h0]at this;exact this
 ·intro h;have key:∀i,1<=i->i<=N->(bq N xss i).2=1:=by
   intro i
   induction i with
   | zero=>intro h;omega
   | succ i ih=>
    intro _ hi
    by_cases e:i=0
    ·subst e;exact h1
    ·have hl:=(s8 hs i (by omega) i (by omega) (by omega)).2 ⟨0,by omega,h i (by omega) (by omega)⟩;rw [uM hl];exact ih (by omega) (by omega)
  exact key N (by omega) (cO _)
theorem DW{xss:ag}(hs:Sys N xss)(hN:0<N):(cK N xss 0).length=N↔∀x:Int,0<=x->x<N->Reach xss 0 x:=by
 obtain⟨g,_,hm⟩:=qv hs (pt:=0) (by omega) (by omega);have sX:∀x:Int,x∈(List.range N).map (fun i:Nat=> (i:Int))↔0<=x/\x<N:=by
  intro x;rw [fq];constructor
  ·rintro⟨i,hi,rfl⟩;have:i<N:=by simpa using hi
   omega
  intro h;exact⟨x.toNat,by simp;omega,by omega⟩
 have eM:((List.range N).map (fun i:Nat=> (i:Int))).Nodup:=by
  rw [List.nodup_iff_pairwise_ne,List.pairwise_map];refine List.Pairwise.imp ?_ (List.nodup_iff_pairwise_ne.1 List.nodup_range);intro a b jD;omega
 constructor
 ·intro hl x h0 h1;have:=J0 g.nodup (b:=(List.range N).map (fun i:Nat=> (i:Int))) (fun z hz=> (sX z).2 (g.range z hz)) (by simp [hl]) x ((sX x).2 ⟨h0,h1⟩);exact(hm x).1 this
 intro h;have h1:=zq _ (cK N xss 0) eM (fun z hz=>by
  have:=(sX z).1 hz;exact(hm z).2 (h z this.1 this.2))
 have h2:=g.len;simp at h1;omega
structure jx(N:Nat)(xss:ag)(i c:Int)(L0 L op:ah)(bx:Int)(k:Nat):Prop where
 len:L.length=N
 lH:∀x:Int,0<=x->x<N->0<=gi L0 x->gi L x=gi L0 x
 new:∀x:Int,0<=x->x<N->gi L0 x<0->gi L x=gi L0 x\/(gi L x=c/\Reach xss i x)
 start:gi L i=c
 qu:∀x∈op,0<=x/\x<N/\gi L0 x<0/\gi L x=c
 pM:∀x:Int,0<=x->x<N->gi L0 x<0->gi L x=c->x∉op->∀p∈(if x=bx then xss.take k else xss),0<=gi L (gi p x)
section
variable {N:Nat} {xss:ag} {i c:Int} {L0 L op:ah} {bx:Int} {k:Nat}
theorem jx.init(hl:L0.length=N)(h0:0<=i)(h1:i<N)(hi:gi L0 i<0)(hc:0<=c):jx N xss i c L0 (L0.set i.toNat c) [i] (-1) 0 where
 len:=by simpa using hl
 lH x hx _ h:=by
  rw [mF h0 (by rw [hl];exact h1) hx]
  split
  ·rename_i e;subst e;omega
  rfl
 new x hx _ h:=by
  rw [mF h0 (by rw [hl];exact h1) hx]
  split
  ·rename_i e;subst e;exact .inr ⟨rfl,.refl⟩
  exact .inl O
 start:=by rw [mF h0 (by rw [hl];exact h1) h0,aF rfl]
 qu x hx:=by
  simp at hx;subst hx;exact⟨h0,h1,hi,by rw [mF h0 (by rw [hl];exact h1) h0,aF O]⟩
 pM x hx jI h G5 eD:=by
  rw [mF h0 (by rw [hl];exact h1) hx]at G5
  split at G5
  ·rename_i e;subst e;simp at eD
  omega
theorem jx.Tl{x:Int}(h:jx N xss i c L0 L (op++ [x]) (-1) 0):jx N xss i c L0 L op x 0 where
 len:=h.len
 lH:=h.lH
 new:=h.new
 start:=h.start
 qu y hy:=h.qu y (by simp [hy])
 pM y hy rG h0 hc eD:=by
  split
  ·simp
  rename_i cG;have:=h.pM y hy rG h0 hc (by simp [eD,cG]);rw [aB (by omega)]at this;exact this
theorem jx.rest(h:jx N xss i c L0 L op bx xss.length):jx N xss i c L0 L op (-1) 0 where
 len:=h.len
 lH:=h.lH
 new:=h.new
 start:=h.start
 qu:=h.qu
 pM y hy rG h0 hc eD:=by
  rw [aB (by omega)];have:=h.pM y hy rG h0 hc eD;rw [List.take_length]at this;simpa using this
theorem jx.skip(h:jx N xss i c L0 L op bx k)(hk:k<xss.length)(hy:0<=gi L (gi (gl xss k) bx)):jx N xss i c L0 L op bx (k+1) where
 len:=h.len
 lH:=h.lH
 new:=h.new
 start:=h.start
 qu:=h.qu
 pM y rG Qj h0 hc eD p hp:=by
  have:=h.pM y rG Qj h0 hc eD
  split at hp
  ·rename_i e;rw [aF e]at this;rw [qB hk,gQ]at hp;rcases hp with hp | hp
   ·exact this p hp
   simp at hp;subst hp;subst e;exact hy
  rename_i e;rw [aB e]at this;exact this p hp
theorem jx.push(hs:Sys N xss)(o6:0<=i)(h:jx N xss i c L0 L op bx k)(hk:k<xss.length)(dq:0<=bx)(dT:bx<N)(hb:gi L0 bx<0)(Ot:gi L bx=c)(ky:0<=c)(hy:gi L (gi (gl xss k) bx)<0):
 jx N xss i c L0 (L.set (gi (gl xss k) bx).toNat c) (op++ [gi (gl xss k) bx]) bx (k+1):=by
 have gC:gl xss k∈xss:=by rw [cQ hk];exact di _
 have mQ:=(hs _ gC).2 bx dq dT;have hg:∀z:Int,0<=z->gi (L.set (gi (gl xss k) bx).toNat c) z=if gi (gl xss k) bx=z then c else gi L z:=fun z hz=>mF mQ.1 (by rw [h.len];exact mQ.2) hz
 have G3:Reach xss i bx:=by
  rcases h.new bx dq dT hb with h1 | h1
  ·omega
  exact h1.2
 have Ql:gi L0 (gi (gl xss k) bx)<0:=by
  apply kK;intro hn;have:=h.lH _ mQ.1 mQ.2 (by omega);omega
 have pos:∀z:Int,0<=z->0<=gi L z->0<=gi (L.set (gi (gl xss k) bx).toNat c) z:=fun z hz h1=>by
  rw [hg z hz];split<;>omega
 refine⟨by simpa using h.len,fun x hx jI h0=>?_,fun x hx jI h0=>?_,?_,fun x hx=>?_,fun x hx jI h0 hc eD p hp=>?_⟩
 ·rw [hg x hx,aB (fun e=>by subst e;omega)];exact h.lH x hx jI h0
 ·rw [hg x hx]
  split
  ·rename_i e;subst e;exact .inr ⟨rfl,.step G3 gC⟩
  exact h.new x hx jI h0
 ·rw [hg i o6];split
  ·rfl
  exact h.start
 ·rcases gQ.1 hx with hx | hx
  ·have:=h.qu x hx;refine⟨this.1,this.2.1,this.2.2.1,?_⟩;rw [hg x this.1];split
   ·rfl
   exact this.2.2.2
  simp at hx;subst hx;exact⟨mQ.1,mQ.2,Ql,by rw [hg _ mQ.1,aF O]⟩
 have cG:gi (gl xss k) bx≠x:=fun e=>eD (by subst e;simp)
 rw [hg x hx,aB cG]at hc;have Pw:x∉op:=fun hm=>eD (by simp [hm])
 have h1:=h.pM x hx jI h0 hc Pw
 split at hp
 ·rename_i e;rw [aF e]at h1;rw [qB hk,gQ]at hp;rcases hp with hp | hp
  ·exact pos _ ((hs p (List.mem_of_mem_take hp)).2 x hx jI).1 (h1 p hp)
  simp at hp;subst hp;subst e;rw [hg _ mQ.1,aF rfl];exact ky
 rename_i e;rw [aB e]at h1;exact pos _ ((hs p hp).2 x hx jI).1 (h1 p hp)
theorem jx.done(hs:Sys N xss)(hi:ml N xss){j:Nat}(hj:j<N)(Pu:¬0<=gi (bq N xss j).1 j)(h:jx N xss j (bq N xss j).2 (bq N xss j).1 L [] (-1) 0):L=(bq N xss (j+1)).1:=by
 have hc:=rK N xss j;have ho:=qv hs (pt:=(j:Int)) (by omega) (by omega);have hm:=s8 hs j (by omega);rw [s9 Pu];apply gj
 ·rw [h.len,DY,lE]
 intro x h1 h2;have hx:x<N:=by rw [<-h.len];exact h1
 have e1:=bQ (p:=L) (k:=x) h1;have e2:=bQ (p:=k8 (bq N xss j).1 (bq N xss j).2 (cK N xss j)) (k:=x) h2;rw [<-e1];show _=(k8 (bq N xss j).1 (bq N xss j).2 (cK N xss j))[x];rw [<-e2,qU _ _ _ (lE N xss j) ho.1.range x (by omega)];have reached:∀y,Reach xss j y->gi (bq N xss j).1 y<0/\gi L y=(bq N xss j).2:=by
  intro y hr
  induction hr with
  | refl=>exact⟨by omega,h.start⟩
  | @step y p hr hp ih=>
   have hy:=hr.range hs (by omega) (by omega);have yA:=(hs p hp).2 y hy.1 hy.2;have Hz:gi (bq N xss j).1 (gi p y)<0:=by
    apply kK;intro hn;obtain⟨m,yr,rz⟩:=(hm _ yA.1 yA.2).1 (by omega);have:=(hm y hy.1 hy.2).2 ⟨m,yr,rz.trans (Reach.back hs hi hy.1 hy.2 hp)⟩;omega
   refine⟨Hz,?_⟩;have h3:=h.pM y hy.1 hy.2 ih.1 ih.2 (by simp) p (by rw [aB (by omega)];exact hp);rcases h.new _ yA.1 yA.2 Hz with h4 | h4
   ·omega
   ·exact h4.1
 split
 ·rename_i gC;exact(reached _ ((ho.2.2 _).1 gC)).2
 ·rename_i gC;have Py:¬Reach xss j x:=fun hr=>gC ((ho.2.2 _).2 hr)
  by_cases h5:0<=gi (bq N xss j).1 x
  ·exact h.lH x (by omega) (by omega) h5
  ·rcases h.new x (by omega) (by omega) (by omega)with h6 | h6
   ·exact h6
   ·exact absurd h6.2 Py
end
def fY(L:ah):Nat:=L.countP (fun x=>decide (x<0))
theorem zy{L:ah}{x c:Int}(h0:0<=x)(h1:x<L.length)(hx:gi L x<0)(hc:0<=c):fY (L.set x.toNat c)+1=fY L:=by
 obtain⟨k,rfl⟩:∃k:Nat,x=k:=⟨x.toNat,by omega⟩;have hk:k<L.length:=by omega
 rw [bQ hk]at hx;simp only [fY,eH];rw [List.countP_set (h:=hk)];have:0<L.countP (fun x=>decide (x<0)):=List.countP_pos_iff.2 ⟨L[k],di _,by simpa using hx⟩;simp [hx,show ¬c<0 by omega];omega
end
section
open Go.RowKit
variable{k:Nat}
theorem St.shrink{w0 w:aa}{ks:List Ck}{k:Ck}(h:St w0 w ks)(i:Nat)(hk:ks[i]?=some k)(m:Nat)(hm:m<=k.n)(hM:cX k.vs=false):St w0 w (ks.set i { k with n:=m,vs:=k.vs.take m }):=by
 have vW:=(fu.1 hk).1;refine⟨h.below,fun x hx=>?_,?_⟩
 ·obtain⟨j,hj,rfl⟩:=fP.1 hx;have eV:j<ks.length:=by simpa using hj
  rw [List.getElem_set]
  split
  ·obtain⟨h1,h2,h3,h4⟩:=h.mE hk hM;refine .mU (QD m hM) ⟨by simp;omega,by show m<=k.c;omega,h3,?_⟩;rcases h4 with h4 | ⟨g,o,cur,hA,hg,hh,hs,hc⟩
   ·exact .inl h4
   refine .inr ⟨g,o,cur,hA,hg,hh,hs,fun j hj=>?_⟩;have hj:j<m:=hj;show _=(k.vs.take m)[j]?;rw [hc j (by omega),oQ,aF hj]
  exact h.own _ (di _)
 rw [xF Ck.fw ks i k { k with n:=m,vs:=k.vs.take m } hk rfl];exact h.apart
theorem St.TW{w0 w:aa}{ks:List Ck}{t:ad}{A:ai}{n c:Nat}{xs:ah}(h:St w0 w ks)(i:Nat)(hk:ks[i]?=some (aE t A n c xs))(m:Nat)(hm:m<=n):St w0 w (ks.set i (aE t A m c (xs.take m))):=by
 have:=h.shrink i hk m hm (nK _);simpa [aE]using this
theorem Mg(op:ah)(h:0<op.length):∃o x,op=o++ [x]:=⟨op.dropLast,op.getLast (by intro e;simp [e]at h),(List.dropLast_concat_getLast _).symm⟩
theorem Jp(A:ai)(n c:Nat)(rs:List aH)(xss:ag)(N:Nat)(w:aa)(hR:bu w A n rs xss)(hn:n<=9223372036854775807)(hs:Sys N xss)(O6:ml N xss)(hN:N<=1048576):
 aG prog 127 [aj N,.slice A n c] w (fun v w'=>∃A',v= .tuple #[.slice A' N N,aj (bq N xss N).2]/\St w w' [aE 2 A' N N (bq N xss N).1]):=by
 have cT:∀k:Int,0<=k->k<n->(rg rs k).n=N:=fun k jW hk=>by
  rw [<-hR.jv jW hk];exact(hs _ (kS jW (by rw [hR.len];exact hk))).1
 refine bs func127 O ntmps127 O (mV O) (aY O (e6 (St.refl w) O O O ?_));intro A1 w1 aD;refine aq O (aO (xp A1 1 (-1) N w1 (aD.bU 0 O) hN) O ?_);rintro _ w2 ⟨A6,rfl,ay⟩;have ay:=(aD.call2 ay).tail;refine aA O (Cd.loop (α:=Nat) (fun i=> [(1,.slice A n c),(6,.slice A6 N N),(7,aj (bq N xss i).2),(17,aj N),(18,aj i)]) (fun i w'=>St w w' [aE 2 A6 N N (bq N xss i).1]/\i<=N) (fun i=>N - i) 0 (Wn O) ⟨ay,bk _⟩ ?_);rintro i e w3 ⟨aL,hi⟩;have kz:=rK N xss i;refine bH O (aJ _ O (fun h1=>?_) (fun h1=>?_))
 ·refine aC O (aw (aL.bU 0 O).2 O (a6 (aL.bU 0 O) O (aA O ?_)));refine aJ _ O (fun h2=>?_) (fun h2=>?_)
  ·refine aC O (aI O (aM O (tQ ?_)));exact⟨i+1,by omega,⟨O,O,by rw [uM h2];rfl,O,O,av⟩,by rw [uM h2];exact aL,by omega⟩
  refine aC O (aw (aL.bU 0 O).2 O (ak.mg 0 aL O O O (by omega) ?_));intro w4 aN;refine aq O (e6 aN O O O ?_);intro A9 w5 aV;refine aA O ?_;have aZ:fY (bq N xss i).1<=N:=by
   have:=List.countP_le_length (p:=fun x:Int=>decide (x<0)) (l:=(bq N xss i).1);rw [lE]at this;exact this
  have hun1:=zy (L:=(bq N xss i).1) (x:=i) (c:=(bq N xss i).2) (by omega) (by rw [lE];omega) (by omega) kz.1;refine Cd.loop (α:=ah×ah×ai×Nat) (fun q=> [(1,.slice A n c),(6,.slice A6 N N),(7,aj (bq N xss i).2),(9,.slice q.2.2.1 q.2.1.length q.2.2.2),(17,aj N),(18,aj i)]) (fun q w'=>St w w' [aE 2 q.2.2.1 q.2.1.length q.2.2.2 q.2.1,aE 2 A6 N N q.1]/\jx N xss i (bq N xss i).2 (bq N xss i).1 q.1 q.2.1 (-1) 0/\fY q.1+q.2.1.length<=N) (fun q=>fY q.1+q.2.1.length) ((bq N xss i).1.set (i:Int).toNat (bq N xss i).2,[(i:Int)],A9,1) (Wn O) ⟨aV,jx.init (lE N xss i) (by omega) (by omega) (by omega) kz.1,by show fY ((bq N xss i).1.set (i:Int).toNat (bq N xss i).2)+1<=N;omega⟩ ?_;rintro⟨L,op,A9,c9⟩ e2 w6 ⟨bg,hD,hu⟩;dsimp only at bg hD hu|-;refine aY O (aR O O (aA O ?_));refine aJ _ O (fun h3=>?_) (fun h3=>?_)
  ·obtain⟨o,x,rfl⟩:=Mg op (by omega);have C1:(o++ [x]).length=o.length+1:=by simp
   have hx:gi (o++ [x]) (((o++ [x]).length:Int) - 1)=x:=by
    rw [show(((o++ [x]).length:Nat):Int) - 1=((o.length:Nat):Int) by omega,bQ (by omega)];simp
   have oA:=hD.qu x (by simp);refine aC O (aR O O (gH O O O (by omega) ?_));refine aw (bg.bU 0 O).2 O (a6 (bg.bU 0 O) O ?_);rw [hx];refine aq O (aR O O (gH O O O (by omega) ?_));refine tC O O O (by have:=(bg.cap 0 O).1;dsimp only at this;omega) ?_;have bm:=bg.TW 0 O o.length (by omega);rw [List.take_left]at bm;rw [show(((o++ [x]).length:Nat):Int) - 1=((o.length:Nat):Int) by omega,eH];refine aq O (aR O O (aA O ?_));refine Cd.loop (α:=Nat×ah×ah×ai×Nat) (fun q=> [(1,.slice A n c),(6,.slice A6 N N),(7,aj (bq N xss i).2),(9,.slice q.2.2.2.1 q.2.2.1.length q.2.2.2.2),(10,aj x),(17,aj N),(18,aj i),(46,.slice A n c),(47,aj n),(48,aj (q.1:Int))]) (fun q w'=>St w w' [aE 2 q.2.2.2.1 q.2.2.1.length q.2.2.2.2 q.2.2.1,aE 2 A6 N N q.2.1]/\jx N xss i (bq N xss i).2 (bq N xss i).1 q.2.1 q.2.2.1 x q.1/\q.1<=n/\gi q.2.1 x=(bq N xss i).2/\fY q.2.1+q.2.2.1.length=fY L+o.length) (fun q=>n - q.1) (0,L,o,A9,c9) (Wn O) ⟨bm,hD.Tl,bk _,oA.2.2.2,O⟩ ?_;rintro⟨k,L',o',A',c'⟩ e3 w8 ⟨bI,tZ,hk,yR,H2⟩;dsimp only at bI tZ hk yR H2|-;refine bH O (aJ _ O (fun h4=>?_) (fun h4=>?_))
   ·have hM:=bI.bE hR;have bw:=hM.at_ (i:=k) (by omega) h4;have fF:=cT k (by omega) h4;have gC:gl xss k∈xss:=kS (by omega) (by rw [hR.len];exact h4);have hy:=(hs _ gC).2 x oA.1 oA.2.1;refine aC O (Wf hM.top.2 O O O (by omega) h4 (bn hM.top O (aq O (aw bw.2 O (a6 bw O (aq O (aw (bI.bU 1 O).2 O (a6 (bI.bU 1 O) O (aA O ?_)))))))));refine aJ _ O (fun h5=>?_) (fun h5=>?_)
    ·refine aC O (aw (bI.bU 1 O).2 O (ak.mg 1 bI O O O (by omega) ?_));intro w9 bO;refine aq O (e6 bO O O O ?_);intro bB dW cJ;refine fS 1 cJ O (cJ.bU 0 O) O O O (by omega) (by omega) O fun fo lQ eZ il=>aq O (aI O (aM O (tQ ?_)));have hu9:=zy (L:=L') (x:=gi (gl xss k) x) (c:=(bq N xss i).2) hy.1 (by rw [tZ.len];exact hy.2) h5 kz.1;refine⟨(k+1,L'.set (gi (gl xss k) x).toNat (bq N xss i).2,o'++ [gi (gl xss k) x],fo,lQ),by show n - (k+1)<n - k;omega,⟨O,O,O,by rw [dS];rfl,O,O,O,O,O,O,av⟩,?_,tZ.push hs (by omega) (by rw [hR.len];omega) oA.1 oA.2.1 oA.2.2.1 yR kz.1 h5,by show k+1<=n;omega,?_,?_⟩
     ·have mH:=il.tail;simp only [dS,List.length_singleton];exact mH
     ·show gi (L'.set _ _) x=_;rw [mF hy.1 (by rw [tZ.len];exact hy.2) oA.1]
      split
      ·rfl
      exact yR
     show fY (L'.set _ _)+ (o'++ [_]).length=_;simp only [dS,List.length_singleton];omega
    refine aC O (aI O (aM O (tQ ?_)));exact⟨(k+1,L',o',A',c'),by show n - (k+1)<n - k;omega,(Wn O),bI,tZ.skip (by rw [hR.len];omega) (by omega),by show k+1<=n;omega,yR,H2⟩
   refine bj O (bl (qF O (tQ ?_)));have cE:k=xss.length:=by rw [hR.len];omega
   subst cE;exact⟨(L',o',A',c'),by show fY L'+o'.length<fY L+ (o++ [x]).length;omega,(Wn O),bI,tZ.rest,by show fY L'+o'.length<=N;omega⟩
  have lZ:op=[]:=nZ (by omega);subst lZ;have hL:=hD.done hs O6 (by omega) h2;refine bj O (bl (cn O (aI O (aq O (aI O (aM O (tQ ?_)))))));refine⟨i+1,by omega,⟨O,O,by rw [s9 h2];rfl,O,O,av⟩,?_,by omega⟩;rw [<-hL];exact bg.tail
 refine bj O (bl (dd O ?_));refine qy O O ?_;have:i=N:=by omega
 subst this;exact⟨A6,O,aL⟩
def Comm(xss:ag)(i k f:Nat):Prop:=gi (gl xss k) (gi (gl xss i) f)=gi (gl xss i) (gi (gl xss k) f)/\gi (gl xss i) f≠gi (gl xss k) f
instance (xss:ag)(i k f:Nat):Decidable (Comm xss i k f):=by unfold Comm;exact inferInstance
def og(xss:ag):Prop:=∀p∈xss,p.length=(gl xss 0).length/\gG p/\kh p
instance (xss:ag):Decidable (og xss):=by unfold og;exact inferInstance
def bN(xss:ag):Prop:=(1<=xss.length/\xss.length<=5)/\(2<=(gl xss 0).length/\(gl xss 0).length<=400)/\og xss/\(∀i,i<xss.length->∀k,k<xss.length->i+2<=k->∀f,f< (gl xss 0).length->Comm xss i k f)/\(cK (gl xss 0).length xss 0).length=(gl xss 0).length
instance (xss:ag):Decidable (bN xss):=by unfold bN;exact inferInstance
theorem gG.inj{p:ah}(h:gG p){x y:Int}(hx:0<=x)(jI:x<p.length)(hy:0<=y)(rG:y<p.length)(e:gi p x=gi p y):x=y:=by
 obtain⟨a,rfl⟩:∃a:Nat,x=a:=⟨x.toNat,by omega⟩;obtain⟨b,rfl⟩:∃b:Nat,y=b:=⟨y.toNat,by omega⟩;rw [bQ (by omega),bQ (by omega)]at e;have:=(List.getElem_inj (h₀:=by omega) (h₁:=by omega) h.2.2).1 e;omega
theorem og.sys{xss:ag}(h:og xss):Sys (gl xss 0).length xss:=fun p hp=>by
 have h1:=h p hp;refine⟨h1.1,fun x h0 hx=>?_⟩;have:=h1.2.1.range (i:=x) h0 (by omega);omega
theorem og.inj{xss:ag}(h:og xss):ml (gl xss 0).length xss:=fun p hp x y hx jI hy rG e=>by
 have h1:=h p hp;exact h1.2.1.inj hx (by omega) hy (by omega) e
def Part(xss:ag)(k:Nat):Prop:=∀p∈xss.take k,p.length=(gl xss 0).length/\gG p/\kh p
theorem Part.step{xss:ag}(h:Part xss k)(hk:k<xss.length)(h1:(gl xss k).length=(gl xss 0).length)(h2:gG (gl xss k))(h3:kh (gl xss k)):Part xss (k+1):=by
 intro p hp;rw [qB hk,gQ]at hp;rcases hp with hp | hp
 ·exact h p hp
 simp at hp;subst hp;exact⟨h1,h2,h3⟩
theorem Part.all{xss:ag}(h:Part xss k)(hk:xss.length<=k):og xss:=by
 intro p hp;refine h p ?_;rw [eI hk];exact hp
theorem og.at_{xss:ag}(h:og xss)(hk:k<xss.length):(gl xss k).length=(gl xss 0).length/\gG (gl xss k)/\kh (gl xss k):=h _ (by rw [cQ hk];exact di _)
theorem Rm(A:ai)(n c:Nat)(rs:List aH)(xss:ag)(w:aa)(hR:bu w A n rs xss)(hn:n<=9223372036854775807):
 aG prog 164 [.agg #[.slice A n c]] w (fun v w'=>v= .bool (decide (bN xss))/\St w w' []):=by
 have eW:=hR.len;have r0:0<n->(gl xss 0).length=(rg rs 0).n:=fun h=>hR.jv (by omega) (by omega)
 refine bs func164 O ntmps164 O (bF O) (aY O (gS (St.refl w) O O ?_));intro Ab w1 hS;refine aq O (aT (hS.rd 0 O) O (a7 (hS.rd 0 O) O ?_));refine aR O O (aq O ?_);refine bR 13 O (fun h1=>?_) (fun h1=>?_)
 ·refine au O (au O (aq O (au O (au O (au O (au O (au O (au O (aq O (au O (au O ?_)))))))))));refine au O (au O (au O (au O (aA O ?_))));refine Cd.eP O (bV O (bG O ?_));exact⟨by rw [cb (fun h:bN xss=>by have:=h.1.1;omega)],hS.none⟩
 refine ar O (aq O (ar O (aq O ?_)));refine bR 17 O (fun h2=>?_) (fun h2=>?_)
 ·refine au O (au O (au O (au O (au O (au O (aq O (au O (au O (au O (au O (au O ?_)))))))))));refine au O (aA O ?_);refine Cd.eP O (bV O (bG O ?_));exact⟨by rw [cb (fun h:bN xss=>by have:=h.1.2;omega)],hS.none⟩
 have hM:=hS.bE hR;have r0:=r0 (by omega);refine ar O (aT (hS.rd 0 O) O (ar O (a7 (hS.rd 0 O) O (ar O (aw hM.top.2 O (ar O (bn hM.top O ?_)))))));refine ar O (aR O O (ar O (aq O ?_)));refine bR 25 O (fun h3=>?_) (fun h3=>?_)
 ·refine au O (au O (au O (au O (au O (au O (aA O ?_))))));refine Cd.eP O (bV O (bG O ?_));exact⟨by rw [cb (fun h:bN xss=>by have:=h.2.1.1;omega)],hS.none⟩
 refine ar O (aT (hS.rd 0 O) O (ar O (a7 (hS.rd 0 O) O (ar O (aw hM.top.2 O (ar O (bn hM.top O ?_)))))));refine ar O (aR O O (ar O (aA O ?_)));refine aJ _ O (fun h4=>?_) (fun h4=>?_)
 ·refine bV O (bG O ?_);exact⟨by rw [cb (fun h:bN xss=>by have:=h.2.1.2;omega)],hS.none⟩
 refine cj O ?_;refine Cd.loop (α:=Nat) (fun k=> [(1,.pointer Ab),(3,aj n),(4,aj k)]) (fun k w'=>St w w' [Bx 37 1 Ab [.slice A n c]]/\k<=n/\Part xss k) (fun k=>n - k) 0 (Wn O) ⟨hS,bk _,fun p hp=>by simp at hp⟩ ?_;rintro k e w2 ⟨ay,hk,hP⟩;have hM:=ay.bE hR;have hB:=ay.rd 0 O;refine bH O (aJ _ O (fun h5=>?_) (fun h5=>?_))
 ·have lX:k<xss.length:=by omega
  have rk:=hR.jv (k:=(k:Int)) (by omega) (by omega);have bw:=hM.at_ (i:=k) (by omega) h5;refine cj O ?_
  by_cases h6:((rg rs k).n:Int)=(rg rs 0).n
  ·by_cases h7:gG (gl xss k)
   ·by_cases h8:kh (gl xss k)
    ·
     refine cN [xP (az (Ab) 0),xS (A) (n) (c),xI ((k:Int)),xP (az (A) ((k:Int)).toNat),xS ((rg (rs) ((k:Int))).a) ((rg (rs) ((k:Int))).n) ((rg (rs) ((k:Int))).c),xI ((((rg (rs) ((k:Int))).n:Nat):Int)),xP (az (Ab) 0),xS (A) (n) (c),xP (az (A) ((0:Int)).toNat),xS ((rg (rs) ((0:Int))).a) ((rg (rs) ((0:Int))).n) ((rg (rs) ((0:Int))).c),xI ((((rg (rs) ((0:Int))).n:Nat):Int)),xB (false),xB (false),xP (az (Ab) 0),xS (A) (n) (c),xI ((k:Int)),xP (az (A) ((k:Int)).toNat),xS ((rg (rs) ((k:Int))).a) ((rg (rs) ((k:Int))).n) ((rg (rs) ((k:Int))).c),xB (decide (gG (gl xss k))),xB (false),xB (false),xB (false),xP (az (Ab) 0),xS (A) (n) (c),xI ((k:Int)),xP (az (A) ((k:Int)).toNat),xS ((rg (rs) ((k:Int))).a) ((rg (rs) ((k:Int))).n) ((rg (rs) ((k:Int))).c),xB (decide (kh (gl xss k))),xB (false),xB (false)] O (da O) ?_ ?_
     ·refine⟨fun _ _ hb _ _=>aT (hB.below hb) O Az,fun _ _ hb _ _=>a7 (hB.below hb) O Az,Dr O,fun _ _ hb _ _=>aw (hM.top.ao hb).2 O Az,fun _ _ hb _ _=>bn (hM.top.ao hb) O Az,fun _ _ _ _ _=>aR O O Az,fun _ _ hb _ _=>aT (hB.below hb) O Az,fun _ _ hb _ _=>a7 (hB.below hb) O Az,fun _ _ hb _ _=>aw (hM.top.ao hb).2 O Az,fun _ _ hb _ _=>bn (hM.top.ao hb) O Az,fun _ _ _ _ _=>aR O O Az,fun _ _ _ _ _=>Dk O (by exact aS Value.bool (cb (by omega))),Dr O,fun _ _ hb _ _=>ar O (aT (hB.below hb) O Az),fun _ _ hb _ _=>ar O (a7 (hB.below hb) O Az),Dr O,fun _ _ hb _ _=>ar O (aw (hM.top.ao hb).2 O Az),fun _ _ hb _ _=>ar O (bn (hM.top.ao hb) O Az),?_,fun _ _ _ _ _=>ar O (dv O O (Az (by exact aS Value.bool (cb (fun h=>h h7))))),Dr O,Dr O,fun _ _ hb _ _=>ar O (aT (hB.below hb) O Az),fun _ _ hb _ _=>ar O (a7 (hB.below hb) O Az),Dr O,fun _ _ hb _ _=>ar O (aw (hM.top.ao hb).2 O Az),fun _ _ hb _ _=>ar O (bn (hM.top.ao hb) O Az),?_,fun _ _ _ _ _=>ar O (dv O O (Az (by exact aS Value.bool (cb (fun h=>h h8))))),Dr O,av⟩
      ·intro e1 w1 hb hp aZ;refine ar O (aO (DD _ _ _ _ _ (bw.ao hb)) O ?_);rintro _ w2 ⟨rfl,ax⟩;refine ak.n ?_;exact ew.dn ax.below (by exact O)
      intro e1 w1 hb hp aZ;refine ar O (aO (Is _ _ _ _ _ (bw.ao hb) h7) O ?_);rintro _ w2 ⟨rfl,ax⟩;subst ax;refine ak.n (d0 (by exact O))
     intro u w3 dZ _;have aL:=ay.ao dZ;refine dM O (Cd.dO O ?_);refine aC O (aI O (aM O (tQ ?_)));exact⟨k+1,by omega,(Wn O),aL,by omega,hP.step lX (by omega) h7 h8⟩
    refine cN [xP (az (Ab) 0),xS (A) (n) (c),xI ((k:Int)),xP (az (A) ((k:Int)).toNat),xS ((rg (rs) ((k:Int))).a) ((rg (rs) ((k:Int))).n) ((rg (rs) ((k:Int))).c),xI ((((rg (rs) ((k:Int))).n:Nat):Int)),xP (az (Ab) 0),xS (A) (n) (c),xP (az (A) ((0:Int)).toNat),xS ((rg (rs) ((0:Int))).a) ((rg (rs) ((0:Int))).n) ((rg (rs) ((0:Int))).c),xI ((((rg (rs) ((0:Int))).n:Nat):Int)),xB (false),xB (false),xP (az (Ab) 0),xS (A) (n) (c),xI ((k:Int)),xP (az (A) ((k:Int)).toNat),xS ((rg (rs) ((k:Int))).a) ((rg (rs) ((k:Int))).n) ((rg (rs) ((k:Int))).c),xB (decide (gG (gl xss k))),xB (false),xB (false),xB (false),xP (az (Ab) 0),xS (A) (n) (c),xI ((k:Int)),xP (az (A) ((k:Int)).toNat),xS ((rg (rs) ((k:Int))).a) ((rg (rs) ((k:Int))).n) ((rg (rs) ((k:Int))).c),xB (decide (kh (gl xss k))),xB (true),xB (true)] O (da O) ?_ ?_
    ·refine⟨fun _ _ hb _ _=>aT (hB.below hb) O Az,fun _ _ hb _ _=>a7 (hB.below hb) O Az,Dr O,fun _ _ hb _ _=>aw (hM.top.ao hb).2 O Az,fun _ _ hb _ _=>bn (hM.top.ao hb) O Az,fun _ _ _ _ _=>aR O O Az,fun _ _ hb _ _=>aT (hB.below hb) O Az,fun _ _ hb _ _=>a7 (hB.below hb) O Az,fun _ _ hb _ _=>aw (hM.top.ao hb).2 O Az,fun _ _ hb _ _=>bn (hM.top.ao hb) O Az,fun _ _ _ _ _=>aR O O Az,fun _ _ _ _ _=>Dk O (by exact aS Value.bool (cb (by omega))),Dr O,fun _ _ hb _ _=>ar O (aT (hB.below hb) O Az),fun _ _ hb _ _=>ar O (a7 (hB.below hb) O Az),Dr O,fun _ _ hb _ _=>ar O (aw (hM.top.ao hb).2 O Az),fun _ _ hb _ _=>ar O (bn (hM.top.ao hb) O Az),?_,fun _ _ _ _ _=>ar O (dv O O (Az (by exact aS Value.bool (cb (fun h=>h h7))))),Dr O,Dr O,fun _ _ hb _ _=>ar O (aT (hB.below hb) O Az),fun _ _ hb _ _=>ar O (a7 (hB.below hb) O Az),Dr O,fun _ _ hb _ _=>ar O (aw (hM.top.ao hb).2 O Az),fun _ _ hb _ _=>ar O (bn (hM.top.ao hb) O Az),?_,fun _ _ _ _ _=>ar O (dv O O (Az (by exact aS Value.bool (dF h8)))),Dr O,av⟩
     ·intro e1 w1 hb hp aZ;refine ar O (aO (DD _ _ _ _ _ (bw.ao hb)) O ?_);rintro _ w2 ⟨rfl,ax⟩;refine ak.n ?_;exact ew.dn ax.below (by exact O)
     intro e1 w1 hb hp aZ;refine ar O (aO (Is _ _ _ _ _ (bw.ao hb) h7) O ?_);rintro _ w2 ⟨rfl,ax⟩;subst ax;refine ak.n (d0 (by exact O))
    intro u w3 dZ _;have aL:=ay.ao dZ;refine dM O (Cd.eP O ?_);refine bV O (cy (b9 ?_));refine bG O ?_;exact⟨by rw [cb (fun h:bN xss=>h8 (h.2.2.1.at_ lX).2.2)],aL.none⟩
   refine cN [xP (az (Ab) 0),xS (A) (n) (c),xI ((k:Int)),xP (az (A) ((k:Int)).toNat),xS ((rg (rs) ((k:Int))).a) ((rg (rs) ((k:Int))).n) ((rg (rs) ((k:Int))).c),xI ((((rg (rs) ((k:Int))).n:Nat):Int)),xP (az (Ab) 0),xS (A) (n) (c),xP (az (A) ((0:Int)).toNat),xS ((rg (rs) ((0:Int))).a) ((rg (rs) ((0:Int))).n) ((rg (rs) ((0:Int))).c),xI ((((rg (rs) ((0:Int))).n:Nat):Int)),xB (false),xB (false),xP (az (Ab) 0),xS (A) (n) (c),xI ((k:Int)),xP (az (A) ((k:Int)).toNat),xS ((rg (rs) ((k:Int))).a) ((rg (rs) ((k:Int))).n) ((rg (rs) ((k:Int))).c),xB (decide (gG (gl xss k))),xB (true),xB (true),xB (true),xU,xU,xU,xU,xU,xU,xU,xB (true)] O (da O) ?_ ?_
   ·refine⟨fun _ _ hb _ _=>aT (hB.below hb) O Az,fun _ _ hb _ _=>a7 (hB.below hb) O Az,Dr O,fun _ _ hb _ _=>aw (hM.top.ao hb).2 O Az,fun _ _ hb _ _=>bn (hM.top.ao hb) O Az,fun _ _ _ _ _=>aR O O Az,fun _ _ hb _ _=>aT (hB.below hb) O Az,fun _ _ hb _ _=>a7 (hB.below hb) O Az,fun _ _ hb _ _=>aw (hM.top.ao hb).2 O Az,fun _ _ hb _ _=>bn (hM.top.ao hb) O Az,fun _ _ _ _ _=>aR O O Az,fun _ _ _ _ _=>Dk O (by exact aS Value.bool (cb (by omega))),Dr O,fun _ _ hb _ _=>ar O (aT (hB.below hb) O Az),fun _ _ hb _ _=>ar O (a7 (hB.below hb) O Az),Dr O,fun _ _ hb _ _=>ar O (aw (hM.top.ao hb).2 O Az),fun _ _ hb _ _=>ar O (bn (hM.top.ao hb) O Az),?_,fun _ _ _ _ _=>ar O (dv O O (Az (by exact aS Value.bool (dF h7)))),Dr O,Dr O,Dr O,Dr O,Dr O,Dr O,Dr O,Dr O,Dr O,Dr O,av⟩;intro e1 w1 hb hp aZ;refine ar O (aO (DD _ _ _ _ _ (bw.ao hb)) O ?_);rintro _ w2 ⟨rfl,ax⟩;refine ak.n ?_;exact ew.dn ax.below (by exact O)
   intro u w3 dZ _;have aL:=ay.ao dZ;refine dM O (Cd.eP O ?_);refine bV O (cy (b9 ?_));refine bG O ?_;exact⟨by rw [cb (fun h:bN xss=>h7 (h.2.2.1.at_ lX).2.1)],aL.none⟩
  refine cN [xP (az (Ab) 0),xS (A) (n) (c),xI ((k:Int)),xP (az (A) ((k:Int)).toNat),xS ((rg (rs) ((k:Int))).a) ((rg (rs) ((k:Int))).n) ((rg (rs) ((k:Int))).c),xI ((((rg (rs) ((k:Int))).n:Nat):Int)),xP (az (Ab) 0),xS (A) (n) (c),xP (az (A) ((0:Int)).toNat),xS ((rg (rs) ((0:Int))).a) ((rg (rs) ((0:Int))).n) ((rg (rs) ((0:Int))).c),xI ((((rg (rs) ((0:Int))).n:Nat):Int)),xB (true),xB (true),xU,xU,xU,xU,xU,xU,xU,xB (true),xB (true),xU,xU,xU,xU,xU,xU,xU,xB (true)] O (da O) ?_ ?_
  ·exact⟨fun _ _ hb _ _=>aT (hB.below hb) O Az,fun _ _ hb _ _=>a7 (hB.below hb) O Az,Dr O,fun _ _ hb _ _=>aw (hM.top.ao hb).2 O Az,fun _ _ hb _ _=>bn (hM.top.ao hb) O Az,fun _ _ _ _ _=>aR O O Az,fun _ _ hb _ _=>aT (hB.below hb) O Az,fun _ _ hb _ _=>a7 (hB.below hb) O Az,fun _ _ hb _ _=>aw (hM.top.ao hb).2 O Az,fun _ _ hb _ _=>bn (hM.top.ao hb) O Az,fun _ _ _ _ _=>aR O O Az,fun _ _ _ _ _=>Dk O (by exact aS Value.bool (dF h6)),Dr O,Dr O,Dr O,Dr O,Dr O,Dr O,Dr O,Dr O,Dr O,Dr O,Dr O,Dr O,Dr O,Dr O,Dr O,Dr O,Dr O,Dr O,av⟩
  intro u w3 dZ _;have aL:=ay.ao dZ;refine dM O (Cd.eP O ?_);refine bV O (cy (b9 ?_));refine bG O ?_;exact⟨by rw [cb (fun h:bN xss=>by have:=(h.2.2.1.at_ lX).1;omega)],aL.none⟩
 have rD:=hP.all (by omega);have hs:=rD.sys;have fF:∀i:Int,0<=i->i<n->(rg rs i).n=(rg rs 0).n:=fun i h0 h1=>by
  have e1:=hR.jv h0 h1;have e2:=(rD _ (kS h0 (by omega))).1;omega
 refine bj O (bl (lK O ?_));refine Cd.loop (α:=Nat) (fun i=> [(1,.pointer Ab),(3,aj n),(5,aj i)]) (fun i w'=>St w w' [Bx 37 1 Ab [.slice A n c]]/\i<=n/\∀i',i'<i->∀k,k<n->i'+2<=k->∀f,f< (gl xss 0).length->Comm xss i' k f) (fun i=>n - i) 0 (Wn O) ⟨ay,bk _,fun i' bP=>by omega⟩ ?_;rintro i e w3 ⟨aL,hi,hC⟩;refine bH O (aJ _ O (fun h6=>?_) (fun h6=>?_))
 ·refine aC O (aI O (aA O ?_));refine Cd.loop (α:=Nat) (fun k=> [(1,.pointer Ab),(3,aj n),(5,aj i),(6,aj k)]) (fun k w'=>St w w' [Bx 37 1 Ab [.slice A n c]]/\i+2<=k/\∀k',k'<k->k'<n->i+2<=k'->∀f,f< (gl xss 0).length->Comm xss i k' f) (fun k=>n+1 - k) (i+2) (Wn O) ⟨aL,cO _,fun k' _ _ _=>by omega⟩ ?_;rintro k e w4 ⟨aN,fK,vD⟩;refine bH O (aJ _ O (fun h7=>?_) (fun h7=>?_))
  ·have TB:=fF i (by omega) h6;have TC:=fF k (by omega) h7;refine cj O ?_;refine Cd.loop (α:=Nat) (fun f=> [(1,.pointer Ab),(3,aj n),(5,aj i),(6,aj k),(7,aj f)]) (fun f w'=>St w w' [Bx 37 1 Ab [.slice A n c]]/\f<=(gl xss 0).length/\∀f',f'<f->Comm xss i k f') (fun f=> (gl xss 0).length - f) 0 (Wn O) ⟨aN,bk _,fun f' kA=>by omega⟩ ?_;rintro f e w5 ⟨aV,hf,vE⟩;have hM:=aV.bE hR;have hB:=aV.rd 0 O;have dt:=hM.at_ (i:=i) (by omega) h6;have fL:=hM.at_ (i:=k) (by omega) h7;refine aY O (aT (aV.rd 0 O) O (a7 (aV.rd 0 O) O (aw hM.top.2 O (bn hM.top O ?_))));refine aR O O (aA O ?_);refine aJ _ O (fun h8=>?_) (fun h8=>?_)
   ·have O5:=(hs _ (kS (k:=(i:Int)) (by omega) (by omega))).2 (f:Int) (by omega) (by omega);have Pg:=(hs _ (kS (k:=(k:Int)) (by omega) (by omega))).2 (f:Int) (by omega) (by omega);refine cj O ?_
    by_cases h9:gi (gl xss k) (gi (gl xss i) f)=gi (gl xss i) (gi (gl xss k) f)
    ·by_cases fJ:gi (gl xss i) f=gi (gl xss k) f
     ·
      refine cN [xP (az (Ab) 0),xS (A) (n) (c),xI ((k:Int)),xP (az (A) ((k:Int)).toNat),xS ((rg (rs) ((k:Int))).a) ((rg (rs) ((k:Int))).n) ((rg (rs) ((k:Int))).c),xP (az (Ab) 0),xS (A) (n) (c),xI ((i:Int)),xP (az (A) ((i:Int)).toNat),xS ((rg (rs) ((i:Int))).a) ((rg (rs) ((i:Int))).n) ((rg (rs) ((i:Int))).c),xI ((f:Int)),xP (az ((rg (rs) ((i:Int))).a) ((f:Int)).toNat),xI (gi (gl xss i) ((f:Int))),xP (az ((rg (rs) ((k:Int))).a) (gi (gl xss i) ((f:Int))).toNat),xI (gi (gl xss k) (gi (gl xss i) ((f:Int)))),xP (az (Ab) 0),xS (A) (n) (c),xI ((i:Int)),xP (az (A) ((i:Int)).toNat),xS ((rg (rs) ((i:Int))).a) ((rg (rs) ((i:Int))).n) ((rg (rs) ((i:Int))).c),xP (az (Ab) 0),xS (A) (n) (c),xI ((k:Int)),xP (az (A) ((k:Int)).toNat),xS ((rg (rs) ((k:Int))).a) ((rg (rs) ((k:Int))).n) ((rg (rs) ((k:Int))).c),xI ((f:Int)),xP (az ((rg (rs) ((k:Int))).a) ((f:Int)).toNat),xI (gi (gl xss k) ((f:Int))),xP (az ((rg (rs) ((i:Int))).a) (gi (gl xss k) ((f:Int))).toNat),xI (gi (gl xss i) (gi (gl xss k) ((f:Int)))),xB (false),xB (false),xP (az (Ab) 0),xS (A) (n) (c),xI ((i:Int)),xP (az (A) ((i:Int)).toNat),xS ((rg (rs) ((i:Int))).a) ((rg (rs) ((i:Int))).n) ((rg (rs) ((i:Int))).c),xI ((f:Int)),xP (az ((rg (rs) ((i:Int))).a) ((f:Int)).toNat),xI (gi (gl xss i) ((f:Int))),xP (az (Ab) 0),xS (A) (n) (c),xI ((k:Int)),xP (az (A) ((k:Int)).toNat),xS ((rg (rs) ((k:Int))).a) ((rg (rs) ((k:Int))).n) ((rg (rs) ((k:Int))).c),xI ((f:Int)),xP (az ((rg (rs) ((k:Int))).a) ((f:Int)).toNat),xI (gi (gl xss k) ((f:Int))),xB (true),xB (true)] O (da O) ?_ ?_
      ·exact⟨fun _ _ hb _ _=>aT (hB.below hb) O Az,fun _ _ hb _ _=>a7 (hB.below hb) O Az,Dr O,fun _ _ hb _ _=>aw (hM.top.ao hb).2 O Az,fun _ _ hb _ _=>bn (hM.top.ao hb) O Az,fun _ _ hb _ _=>aT (hB.below hb) O Az,fun _ _ hb _ _=>a7 (hB.below hb) O Az,Dr O,fun _ _ hb _ _=>aw (hM.top.ao hb).2 O Az,fun _ _ hb _ _=>bn (hM.top.ao hb) O Az,Dr O,fun _ _ hb _ _=>aw (dt.ao hb).2 O Az,fun _ _ hb _ _=>a6 (dt.ao hb) O Az,fun _ _ hb _ _=>aw (fL.ao hb).2 O Az,fun _ _ hb _ _=>a6 (fL.ao hb) O Az,fun _ _ hb _ _=>aT (hB.below hb) O Az,fun _ _ hb _ _=>a7 (hB.below hb) O Az,Dr O,fun _ _ hb _ _=>aw (hM.top.ao hb).2 O Az,fun _ _ hb _ _=>bn (hM.top.ao hb) O Az,fun _ _ hb _ _=>aT (hB.below hb) O Az,fun _ _ hb _ _=>a7 (hB.below hb) O Az,Dr O,fun _ _ hb _ _=>aw (hM.top.ao hb).2 O Az,fun _ _ hb _ _=>bn (hM.top.ao hb) O Az,Dr O,fun _ _ hb _ _=>aw (fL.ao hb).2 O Az,fun _ _ hb _ _=>a6 (fL.ao hb) O Az,fun _ _ hb _ _=>aw (dt.ao hb).2 O Az,fun _ _ hb _ _=>a6 (dt.ao hb) O Az,fun _ _ _ _ _=>Dk O (by exact aS Value.bool (cb (fun h=>h h9))),Dr O,fun _ _ hb _ _=>ar O (aT (hB.below hb) O Az),fun _ _ hb _ _=>ar O (a7 (hB.below hb) O Az),Dr O,fun _ _ hb _ _=>ar O (aw (hM.top.ao hb).2 O Az),fun _ _ hb _ _=>ar O (bn (hM.top.ao hb) O Az),Dr O,fun _ _ hb _ _=>ar O (aw (dt.ao hb).2 O Az),fun _ _ hb _ _=>ar O (a6 (dt.ao hb) O Az),fun _ _ hb _ _=>ar O (aT (hB.below hb) O Az),fun _ _ hb _ _=>ar O (a7 (hB.below hb) O Az),Dr O,fun _ _ hb _ _=>ar O (aw (hM.top.ao hb).2 O Az),fun _ _ hb _ _=>ar O (bn (hM.top.ao hb) O Az),Dr O,fun _ _ hb _ _=>ar O (aw (fL.ao hb).2 O Az),fun _ _ hb _ _=>ar O (a6 (fL.ao hb) O Az),fun _ _ _ _ _=>Dk O (by exact aS Value.bool (dF fJ)),Dr O,av⟩
      intro u w6 ku _;have bg:=aV.ao ku;refine dM O (Cd.eP O ?_);refine bV O (cy (b9 (cy (b9 (cy (b9 ?_))))));refine bG O ?_;exact⟨by rw [cb (fun h:bN xss=> (h.2.2.2.1 i (by omega) k (by omega) fK f (by omega)).2 fJ)],bg.none⟩
     refine cN [xP (az (Ab) 0),xS (A) (n) (c),xI ((k:Int)),xP (az (A) ((k:Int)).toNat),xS ((rg (rs) ((k:Int))).a) ((rg (rs) ((k:Int))).n) ((rg (rs) ((k:Int))).c),xP (az (Ab) 0),xS (A) (n) (c),xI ((i:Int)),xP (az (A) ((i:Int)).toNat),xS ((rg (rs) ((i:Int))).a) ((rg (rs) ((i:Int))).n) ((rg (rs) ((i:Int))).c),xI ((f:Int)),xP (az ((rg (rs) ((i:Int))).a) ((f:Int)).toNat),xI (gi (gl xss i) ((f:Int))),xP (az ((rg (rs) ((k:Int))).a) (gi (gl xss i) ((f:Int))).toNat),xI (gi (gl xss k) (gi (gl xss i) ((f:Int)))),xP (az (Ab) 0),xS (A) (n) (c),xI ((i:Int)),xP (az (A) ((i:Int)).toNat),xS ((rg (rs) ((i:Int))).a) ((rg (rs) ((i:Int))).n) ((rg (rs) ((i:Int))).c),xP (az (Ab) 0),xS (A) (n) (c),xI ((k:Int)),xP (az (A) ((k:Int)).toNat),xS ((rg (rs) ((k:Int))).a) ((rg (rs) ((k:Int))).n) ((rg (rs) ((k:Int))).c),xI ((f:Int)),xP (az ((rg (rs) ((k:Int))).a) ((f:Int)).toNat),xI (gi (gl xss k) ((f:Int))),xP (az ((rg (rs) ((i:Int))).a) (gi (gl xss k) ((f:Int))).toNat),xI (gi (gl xss i) (gi (gl xss k) ((f:Int)))),xB (false),xB (false),xP (az (Ab) 0),xS (A) (n) (c),xI ((i:Int)),xP (az (A) ((i:Int)).toNat),xS ((rg (rs) ((i:Int))).a) ((rg (rs) ((i:Int))).n) ((rg (rs) ((i:Int))).c),xI ((f:Int)),xP (az ((rg (rs) ((i:Int))).a) ((f:Int)).toNat),xI (gi (gl xss i) ((f:Int))),xP (az (Ab) 0),xS (A) (n) (c),xI ((k:Int)),xP (az (A) ((k:Int)).toNat),xS ((rg (rs) ((k:Int))).a) ((rg (rs) ((k:Int))).n) ((rg (rs) ((k:Int))).c),xI ((f:Int)),xP (az ((rg (rs) ((k:Int))).a) ((f:Int)).toNat),xI (gi (gl xss k) ((f:Int))),xB (false),xB (false)] O (da O) ?_ ?_
     ·exact⟨fun _ _ hb _ _=>aT (hB.below hb) O Az,fun _ _ hb _ _=>a7 (hB.below hb) O Az,Dr O,fun _ _ hb _ _=>aw (hM.top.ao hb).2 O Az,fun _ _ hb _ _=>bn (hM.top.ao hb) O Az,fun _ _ hb _ _=>aT (hB.below hb) O Az,fun _ _ hb _ _=>a7 (hB.below hb) O Az,Dr O,fun _ _ hb _ _=>aw (hM.top.ao hb).2 O Az,fun _ _ hb _ _=>bn (hM.top.ao hb) O Az,Dr O,fun _ _ hb _ _=>aw (dt.ao hb).2 O Az,fun _ _ hb _ _=>a6 (dt.ao hb) O Az,fun _ _ hb _ _=>aw (fL.ao hb).2 O Az,fun _ _ hb _ _=>a6 (fL.ao hb) O Az,fun _ _ hb _ _=>aT (hB.below hb) O Az,fun _ _ hb _ _=>a7 (hB.below hb) O Az,Dr O,fun _ _ hb _ _=>aw (hM.top.ao hb).2 O Az,fun _ _ hb _ _=>bn (hM.top.ao hb) O Az,fun _ _ hb _ _=>aT (hB.below hb) O Az,fun _ _ hb _ _=>a7 (hB.below hb) O Az,Dr O,fun _ _ hb _ _=>aw (hM.top.ao hb).2 O Az,fun _ _ hb _ _=>bn (hM.top.ao hb) O Az,Dr O,fun _ _ hb _ _=>aw (fL.ao hb).2 O Az,fun _ _ hb _ _=>a6 (fL.ao hb) O Az,fun _ _ hb _ _=>aw (dt.ao hb).2 O Az,fun _ _ hb _ _=>a6 (dt.ao hb) O Az,fun _ _ _ _ _=>Dk O (by exact aS Value.bool (cb (fun h=>h h9))),Dr O,fun _ _ hb _ _=>ar O (aT (hB.below hb) O Az),fun _ _ hb _ _=>ar O (a7 (hB.below hb) O Az),Dr O,fun _ _ hb _ _=>ar O (aw (hM.top.ao hb).2 O Az),fun _ _ hb _ _=>ar O (bn (hM.top.ao hb) O Az),Dr O,fun _ _ hb _ _=>ar O (aw (dt.ao hb).2 O Az),fun _ _ hb _ _=>ar O (a6 (dt.ao hb) O Az),fun _ _ hb _ _=>ar O (aT (hB.below hb) O Az),fun _ _ hb _ _=>ar O (a7 (hB.below hb) O Az),Dr O,fun _ _ hb _ _=>ar O (aw (hM.top.ao hb).2 O Az),fun _ _ hb _ _=>ar O (bn (hM.top.ao hb) O Az),Dr O,fun _ _ hb _ _=>ar O (aw (fL.ao hb).2 O Az),fun _ _ hb _ _=>ar O (a6 (fL.ao hb) O Az),fun _ _ _ _ _=>Dk O (by exact aS Value.bool (cb fJ)),Dr O,av⟩
     intro u w6 ku _;have bg:=aV.ao ku;refine dM O (Cd.dO O ?_);refine aC O (aI O (aM O (tQ ?_)));refine⟨f+1,by omega,(Wn O),bg,by omega,fun f' kA=>?_⟩
     by_cases ef:f'=f
     ·subst ef;exact⟨h9,fJ⟩
     exact vE f' (by omega)
    refine cN [xP (az (Ab) 0),xS (A) (n) (c),xI ((k:Int)),xP (az (A) ((k:Int)).toNat),xS ((rg (rs) ((k:Int))).a) ((rg (rs) ((k:Int))).n) ((rg (rs) ((k:Int))).c),xP (az (Ab) 0),xS (A) (n) (c),xI ((i:Int)),xP (az (A) ((i:Int)).toNat),xS ((rg (rs) ((i:Int))).a) ((rg (rs) ((i:Int))).n) ((rg (rs) ((i:Int))).c),xI ((f:Int)),xP (az ((rg (rs) ((i:Int))).a) ((f:Int)).toNat),xI (gi (gl xss i) ((f:Int))),xP (az ((rg (rs) ((k:Int))).a) (gi (gl xss i) ((f:Int))).toNat),xI (gi (gl xss k) (gi (gl xss i) ((f:Int)))),xP (az (Ab) 0),xS (A) (n) (c),xI ((i:Int)),xP (az (A) ((i:Int)).toNat),xS ((rg (rs) ((i:Int))).a) ((rg (rs) ((i:Int))).n) ((rg (rs) ((i:Int))).c),xP (az (Ab) 0),xS (A) (n) (c),xI ((k:Int)),xP (az (A) ((k:Int)).toNat),xS ((rg (rs) ((k:Int))).a) ((rg (rs) ((k:Int))).n) ((rg (rs) ((k:Int))).c),xI ((f:Int)),xP (az ((rg (rs) ((k:Int))).a) ((f:Int)).toNat),xI (gi (gl xss k) ((f:Int))),xP (az ((rg (rs) ((i:Int))).a) (gi (gl xss k) ((f:Int))).toNat),xI (gi (gl xss i) (gi (gl xss k) ((f:Int)))),xB (true),xB (true),xU,xU,xU,xU,xU,xU,xU,xU,xU,xU,xU,xU,xU,xU,xU,xU,xU,xB (true)] O (da O) ?_ ?_
    ·exact⟨fun _ _ hb _ _=>aT (hB.below hb) O Az,fun _ _ hb _ _=>a7 (hB.below hb) O Az,Dr O,fun _ _ hb _ _=>aw (hM.top.ao hb).2 O Az,fun _ _ hb _ _=>bn (hM.top.ao hb) O Az,fun _ _ hb _ _=>aT (hB.below hb) O Az,fun _ _ hb _ _=>a7 (hB.below hb) O Az,Dr O,fun _ _ hb _ _=>aw (hM.top.ao hb).2 O Az,fun _ _ hb _ _=>bn (hM.top.ao hb) O Az,Dr O,fun _ _ hb _ _=>aw (dt.ao hb).2 O Az,fun _ _ hb _ _=>a6 (dt.ao hb) O Az,fun _ _ hb _ _=>aw (fL.ao hb).2 O Az,fun _ _ hb _ _=>a6 (fL.ao hb) O Az,fun _ _ hb _ _=>aT (hB.below hb) O Az,fun _ _ hb _ _=>a7 (hB.below hb) O Az,Dr O,fun _ _ hb _ _=>aw (hM.top.ao hb).2 O Az,fun _ _ hb _ _=>bn (hM.top.ao hb) O Az,fun _ _ hb _ _=>aT (hB.below hb) O Az,fun _ _ hb _ _=>a7 (hB.below hb) O Az,Dr O,fun _ _ hb _ _=>aw (hM.top.ao hb).2 O Az,fun _ _ hb _ _=>bn (hM.top.ao hb) O Az,Dr O,fun _ _ hb _ _=>aw (fL.ao hb).2 O Az,fun _ _ hb _ _=>a6 (fL.ao hb) O Az,fun _ _ hb _ _=>aw (dt.ao hb).2 O Az,fun _ _ hb _ _=>a6 (dt.ao hb) O Az,fun _ _ _ _ _=>Dk O (by exact aS Value.bool (dF h9)),Dr O,Dr O,Dr O,Dr O,Dr O,Dr O,Dr O,Dr O,Dr O,Dr O,Dr O,Dr O,Dr O,Dr O,Dr O,Dr O,Dr O,Dr O,Dr O,av⟩
    intro u w6 ku _;have bg:=aV.ao ku;refine dM O (Cd.eP O ?_);refine bV O (cy (b9 (cy (b9 (cy (b9 ?_))))));refine bG O ?_;exact⟨by rw [cb (fun h:bN xss=>h9 (h.2.2.2.1 i (by omega) k (by omega) fK f (by omega)).1)],bg.none⟩
   refine bj O (bl (cn O (aI O (aM O (tQ ?_)))));refine⟨k+1,by omega,(Wn O),aV,by omega,fun k' cE dQ jo f' kA=>?_⟩
   by_cases ek:k'=k
   ·subst ek;exact vE f' (by omega)
   exact vD k' (by omega) dQ jo f' kA
  refine bj O (bl (cn O (aI O (aM O (tQ ?_)))));refine⟨i+1,by omega,(Wn O),aN,by omega,fun i' bP k' cE jo f' kA=>?_⟩
  by_cases ei:i'=i
  ·subst ei;exact vD k' (by omega) cE jo f' kA
  exact hC i' (by omega) k' cE jo f' kA
 have hM:=aL.bE hR;have hB:=aL.rd 0 O;refine bj O (bl (lK O ?_));refine cN [xP (az (Ab) 0),xS (A) (n) (c),.pr (fun v _=>∃A' c',v= .slice A' (cK (gl xss 0).length xss 0).length c'),xI (((cK (gl xss 0).length xss 0).length:Int)),xP (az (Ab) 0),xS (A) (n) (c),xP (az (A) ((0:Int)).toNat),xS ((rg (rs) ((0:Int))).a) ((rg (rs) ((0:Int))).n) ((rg (rs) ((0:Int))).c),xI ((((rg (rs) ((0:Int))).n:Nat):Int)),xB (decide ((((cK (gl xss 0).length xss 0).length:Int))=((((rg (rs) ((0:Int))).n:Nat):Int)))),xB (decide ((((cK (gl xss 0).length xss 0).length:Int))=((((rg (rs) ((0:Int))).n:Nat):Int))))] rfl (lx (lx (cq.2 ⟨Yd.ct (fun _ _ _ h _=>h),(lx (lx (lx (lx (lx (lx (lx (lx (fun _ h=>by cases h)))))))))⟩))) ?_ ?_
 ·refine⟨fun _ _ hb _ _=>aT (hB.below hb) O Az,fun _ _ hb _ _=>a7 (hB.below hb) O Az,?_,?_,fun _ _ hb _ _=>aT (hB.below hb) O Az,fun _ _ hb _ _=>a7 (hB.below hb) O Az,fun _ _ hb _ _=>aw (hM.top.ao hb).2 O Az,fun _ _ hb _ _=>bn (hM.top.ao hb) O Az,fun _ _ _ _ _=>aR O O Az,Dr O,Dr O,av⟩
  ·intro e1 w1 hb hp aZ;refine aO (DB _ _ _ _ _ (gl xss 0).length 0 _ (hM.ao hb) hn hs (by omega) (by omega) (by omega)) O ?_;rintro _ w2 ⟨A',c',rfl,ax⟩;exact ak.n (ew.dn ax.below ⟨A',c',O⟩)
  intro e1 w1 hb hp aZ;obtain⟨A',c',Bk⟩:=(hp 2 (by decide) rfl _ _ rfl rfl);refine aR (by exact Bk) O Az
 intro u w6 ku _;have bg:=aL.ao ku;refine sd O (bG O ?_);refine⟨?_,bg.none⟩
 congr 1
 refine gJ.2 ⟨fun h=> ⟨by omega,by omega,rD,fun i' bP k' cE jo f' kA=>hC i' (by omega) k' (by omega) jo f' kA,by omega⟩,fun h=>by have:=h.2.2.2.2;omega⟩
end
section
def cell(M:ag)(i:Nat)(f:Int):Int:=gi (gl M i) f
def fX(M:ag)(i f:Nat)(v:Int):ag:=M.set i ((gl M i).set f v)
def put(M:ag)(i f g:Nat):ag:=fX (fX M i f g) i g f
def jO(n F:Nat)(M:ag):Prop:=M.length=n/\∀p∈M,p.length=F
section
variable{i k:Nat}
variable {n F:Nat} {M:ag}
theorem jO.row(h:jO n F M)(hi:i<n):(gl M i).length=F:=h.2 _ (by rw [cQ (by rw [h.1];exact hi)];exact di _)
theorem xN{p:ah}(hi:i<M.length):gl (M.set i p) k=if i=k then p else gl M k:=by
 simp only [gl,eH,bX,jy]
 by_cases e:i=k
 ·subst e;simp [hi]
 simp [e]
theorem jO.fX(h:jO n F M){i:Nat}(hi:i<n)(f:Nat)(v:Int):jO n F (fX M i f v):=by
 refine⟨by simp [Vc.fX,h.1],fun p hp=>?_⟩;rcases List.mem_or_eq_of_mem_set hp with hp | rfl
 ·exact h.2 p hp
 simpa using h.row hi
theorem Fe(h:jO n F M)(hi:i<n){f:Nat}(hf:f<F){v:Int}{x:Int}(hx:0<=x):cell (fX M i f v) k x=if i=k/\(f:Int)=x then v else cell M k x:=by
 simp only [cell,fX];rw [xN (by rw [h.1];exact hi)]
 by_cases e:i=k
 ·subst e;rw [aF rfl];have:=mF (S:=gl M i) (x:=(f:Int)) (y:=x) (b:=v) (by omega) (by rw [h.row hi];omega) hx;rw [eH]at this;rw [this]
  by_cases e2:(f:Int)=x<;>simp [e2]
 simp [e]
theorem vo(h:jO n F M)(hi:i<n){f g:Nat}(hf:f<F)(hg:g<F){x:Int}(hx:0<=x):cell (put M i f g) k x=if i=k/\(g:Int)=x then(f:Int)else if i=k/\(f:Int)=x then(g:Int)else cell M k x:=by
 rw [put,Fe (h.fX hi f g) hi hg hx,Fe h hi hf hx]
theorem jO.put(h:jO n F M){i:Nat}(hi:i<n)(f g:Nat):jO n F (put M i f g):=(h.fX hi f g).fX hi g f
end
inductive oO(n:Nat)(M:ag):Int->Prop where
 | zero:oO n M 0
 | step {y:Int} {i:Nat}:oO n M y->i<n->0<=y->0<=cell M i y->oO n M (cell M i y)
def Ext(n F:Nat)(M L:ag):Prop:=∀(i:Nat) (f:Int),i<n->0<=f->f<F->0<=cell M i f->cell L i f=cell M i f
theorem Ext.refl(n F:Nat)(M:ag):Ext n F M M:=fun _ _ _ _ _ _=>rfl
theorem Ext.trans{n F:Nat}{M L K:ag}(h:Ext n F M L)(h':Ext n F L K):Ext n F M K:=fun i f hi h0 h1 h2=>by
 have e:=h i f hi h0 h1 h2;rw [h' i f hi h0 h1 (by rw [e];exact h2),e]
theorem Ext.put{n F:Nat}{M:ag}(h:jO n F M){i f g:Nat}(hi:i<n)(hf:f<F)(hg:g<F)(h1:cell M i f<0)(h2:cell M i g<0):Ext n F M (put M i f g):=fun k x hk h0 hx hc=>by
 rw [vo h hi hf hg h0]
 split
 ·rename_i e;obtain⟨rfl,rfl⟩:=e;omega
 split
 ·rename_i e;obtain⟨rfl,rfl⟩:=e;omega
 rfl
structure Inv(n F:Nat)(M:ag)(met at_:Nat):Prop where
 cM:jO n F M
 n0:0<n
 tc:1<=met
 kb:met<=F
 cells:∀(i:Nat) (f:Int),i<n->0<=f->f<F->cell M i f= -1\/(0<=cell M i f/\cell M i f<met/\f<met/\cell M i (cell M i f)=f/\cell M i f≠f)
 known:∀a:Nat,a<at_->0<=cell M (a%n) (a / n:Nat)
 tR:∀f:Nat,f<met->oO n M f
 le:at_<=met*n
section
variable {n F:Nat} {M:ag} {met at_:Nat}
theorem Inv.pos(h:Inv n F M met at_)(ha:at_≠met*n):at_%n<n/\at_ / n<met:=by
 have:=h.le;have hn:=h.n0;exact⟨Nat.mod_lt _ hn,Nat.div_lt_of_lt_mul (by rw [Nat.mul_comm];omega)⟩
theorem Inv.next(h:Inv n F M met at_)(ha:at_≠met*n)(hk:0<=cell M (at_%n) (at_ / n:Nat)):Inv n F M met (at_+1):=
 ⟨h.cM,h.n0,h.tc,h.kb,h.cells,fun a cW=>by
  by_cases e:a=at_
  ·subst e;exact hk
  exact h.known a (by omega),h.tR,by have:=h.le;omega⟩
theorem oO.ext{L:ag}(hM:∀(i:Nat) (f:Int),i<n->0<=f->0<=cell M i f->cell L i f=cell M i f){x:Int}(h:oO n M x):oO n L x:=by
 induction h with
 | zero=>exact .zero
 | @step y i hy hi h0 hc ih=>
  have e:=hM i y hi h0 hc;rw [<-e];exact .step ih hi h0 (by rw [e];exact hc)
theorem Inv.put{g:Nat}(h:Inv n F M met at_)(ha:at_≠met*n)(hk:¬0<=cell M (at_%n) (at_ / n:Nat))(h1:at_ / n<g)(h2:g<=met)(h3:g<F)(hg:¬0<=cell M (at_%n) g):
 Inv n F (put M (at_%n) (at_ / n) g) (max met (g+1)) (at_+1):=by
 obtain⟨hi,hf⟩:=h.pos ha;have rh:∀a,a<at_->0<=cell M (a%n) (a / n:Nat):=h.known;have wq:∀a,a=at_->a%n=at_%n/\a / n=at_ / n:=fun a e=>by subst e;exact⟨rfl,rfl⟩
 generalize at_ / n=q at*;generalize at_%n=r at*;have iZ:q<F:=by have:=h.kb;omega
 have hc:∀(k:Nat) (x:Int),0<=x->cell (Vc.put M r q g) k x=if r=k/\(g:Int)=x then((q:Nat):Int)else if r=k/\((q:Nat):Int)=x then(g:Int)else cell M k x:=fun k x hx=>vo h.cM hi iZ h3 hx
 have ext:∀(k:Nat) (x:Int),k<n->0<=x->0<=cell M k x->cell (Vc.put M r q g) k x=cell M k x:=fun k x _ hx hcx=>by
  rw [hc k x hx]
  split
  ·rename_i e;obtain⟨rfl,rfl⟩:=e;omega
  split
  ·rename_i e;obtain⟨rfl,rfl⟩:=e;omega
  rfl
 refine⟨h.cM.put hi _ _,h.n0,by have:=h.tc;omega,by have:=h.kb;omega,fun k x hk hx H5=>?_,fun a cW=>?_,fun x hx=>?_,?_⟩
 ·rw [hc k x hx]
  split
  ·rename_i e;obtain⟨rfl,rfl⟩:=e;refine .inr ⟨by omega,by omega,by omega,?_,by omega⟩;rw [hc _ _ (by omega),aB (by omega),aF ⟨rfl,rfl⟩]
  rename_i e1
  split
  ·rename_i e;obtain⟨rfl,rfl⟩:=e;refine .inr ⟨by omega,by omega,by omega,?_,by omega⟩;rw [hc _ _ (by omega),aF ⟨rfl,rfl⟩]
  rename_i e2;rcases h.cells k x hk hx H5 with h4 | ⟨h4,h5,h6,h7,h8⟩
  ·exact .inl h4
  refine .inr ⟨h4,by omega,by omega,?_,h8⟩;rw [ext k _ hk h4 (by rw [h7];exact hx),h7]
 ·by_cases e:a=at_
  ·rw [(wq a e).1,(wq a e).2,hc _ _ (by omega)]
   split
   ·omega
   rw [aF ⟨rfl,rfl⟩];omega
  have:=rh a (by omega);rw [ext _ _ (Nat.mod_lt _ h.n0) (Int.natCast_nonneg _) this];exact this
 ·by_cases cW:x<met
  ·exact(h.tR x cW).ext (fun k y hk h0 Co=>ext k y hk h0 Co)
  have pg:x=g:=by omega
  subst pg;have h0:=(h.tR _ hf).ext (L:=Vc.put M r q x) (fun k y hk h0 Co=>ext k y hk h0 Co);have e:cell (Vc.put M r q x) r ((q:Nat):Int)=(x:Int):=by rw [hc _ _ (by omega),aB (by omega),aF ⟨O,O⟩]
  have:=oO.step h0 hi (by omega) (by rw [e];omega);rw [e]at this;exact this
 have:=h.le;have h5:met*n<=(max met (g+1))*n:=Nat.mul_le_mul_right n (by omega);omega
def grow(n F:Nat)(ok:ag->Nat->Nat->Bool)(fin:ag->Bool):Nat->Nat->Nat->ag->List (ag)
 | 0,_,_,_=> []
 | k+1,at_,met,M=>
  if at_=met*n then(if met=F/\fin M=true then [M]else [])
  else if 0<=cell M (at_%n) (at_ / n:Nat)then grow n F ok fin k (at_+1) met M
  else(List.range' (at_ / n+1) (min met (F - 1) - at_ / n)).flatMap fun g=>
   if 0<=cell M (at_%n) (g:Nat)then []else if ok (put M (at_%n) (at_ / n) g) (at_%n) (at_ / n)=true then grow n F ok fin k (at_+1) (max met (g+1)) (put M (at_%n) (at_ / n) g)else []
theorem wS(h:Inv n F M met at_)(ha:at_≠met*n){g:Nat}(hg:g∈List.range' (at_ / n+1) (min met (F - 1) - at_ / n)):at_ / n<g/\g<=met/\g<F:=by
 rw [List.mem_range'_1]at hg;have:=(h.pos ha).2;have:=h.tc;have:=h.kb;omega
end
theorem qW{n F:Nat}{ok:ag->Nat->Nat->Bool}{fin:ag->Bool}:∀(k at_ met:Nat) (M:ag),Inv n F M met at_->∀L∈grow n F ok fin k at_ met M,Ext n F M L/\Inv n F L F (F*n)
 | 0,_,_,_,_,L,hL=>by simp [grow]at hL
 | k+1,at_,met,M,h,L,hL=>by
  simp only [grow]at hL
  split at hL
  ·rename_i ha
   split at hL
   ·rename_i hm;simp at hL;subst hL;refine⟨Ext.refl _ _ _,?_⟩;have h1:=hm.1;subst h1;rw [<-ha];exact h
   ·simp at hL
  ·rename_i ha
   split at hL
   ·rename_i hk;exact qW k _ _ _ (h.next ha hk) L hL
   ·rename_i hk;rw [List.mem_flatMap]at hL;obtain⟨g,hg,hL⟩:=hL;have hr:=wS h ha hg
    split at hL
    ·simp at hL
    ·rename_i nC
     split at hL
     ·have h1:=h.put ha hk hr.1 hr.2.1 hr.2.2 nC;have hp:=h.pos ha;have h2:=qW k _ _ _ h1 L hL;exact⟨(Ext.put h.cM hp.1 (by have:=h.kb;omega) hr.2.2 (by omega) (by omega)).trans h2.1,h2.2⟩
     ·simp at hL
theorem AM{α β:Type}(p:β->Bool)(f:α->List β):∀(l:List α),(l.flatMap f).filter p=l.flatMap fun a=> (f a).filter p
 | []=>rfl
 | a::l=>by simp [mn,AM p f l]
theorem F6{n F:Nat}{ok:ag->Nat->Nat->Bool}{fin:ag->Bool}(J:ag->Prop)(V:ag->Bool)
 (hJ:∀(M:ag) (i f:Nat),ok M i f=true->J M)
 (pV:∀(M:ag),Inv n F M F (F*n)->J M->fin M=V M)
 (o5:∀(M:ag) (i f met at_:Nat),Inv n F M met at_->i<n->f<F->0<=cell M i f->∀L,Ext n F M L->Inv n F L F (F*n)->V L=true->ok M i f=true):
 ∀(k at_ met:Nat) (M:ag),Inv n F M met at_->J M->grow n F ok fin k at_ met M=(grow n F (fun _ _ _=>true) (fun _=>true) k at_ met M).filter V:=by
 intro k
 induction k with
 | zero=>intro at_ met M _ _;simp [grow]
 | succ k ih=>
  intro at_ met M h hj;simp only [grow]
  split
  ·rename_i ha
   by_cases hm:met=F
   ·subst hm;have h1:Inv n met M met (met*n):=by rw [<-ha];exact h
    rw [pV M h1 hj]
    by_cases hv:V M=true<;>simp [hv]
   ·simp [hm]
  ·rename_i ha
   split
   ·rename_i hk;exact ih _ _ _ (h.next ha hk) hj
   ·rename_i hk;rw [AM];have key:∀(l:List Nat),(∀g∈l,at_ / n<g/\g<=met/\g<F)->
     (l.flatMap fun g=>if 0<=cell M (at_%n) (g:Nat)then []else if ok (put M (at_%n) (at_ / n) g) (at_%n) (at_ / n)=true then grow n F ok fin k (at_+1) (max met (g+1)) (put M (at_%n) (at_ / n) g)else [])=
     l.flatMap fun g=> (if 0<=cell M (at_%n) (g:Nat)then []else if(fun(_:ag) (_ _:Nat)=>true) (put M (at_%n) (at_ / n) g) (at_%n) (at_ / n)=true then grow n F (fun _ _ _=>true) (fun _=>true) k (at_+1) (max met (g+1)) (put M (at_%n) (at_ / n) g)else []).filter V:=by
     intro l
     induction l with
     | nil=>intro _;rfl
     | cons g l Qq=>
      intro hl;have hr:=hl g (by simp);rw [List.flatMap_cons,List.flatMap_cons,Qq (fun x hx=>hl x (by simp [hx]))]
      congr 1
      split
      ·rfl
      ·rename_i nC;have h1:=h.put ha hk hr.1 hr.2.1 hr.2.2 nC;have hp:=h.pos ha;have iZ:at_ / n<F:=by have:=h.kb;omega
       rw [aF rfl]
       split
       ·rename_i b6;exact ih _ _ _ h1 (hJ _ _ _ b6)
       ·rename_i b6;symm;rw [List.filter_eq_nil_iff];intro L hL hV;have h2:=qW k _ _ _ h1 L hL;exact b6 (o5 _ _ _ _ _ h1 hp.1 iZ (by
         rw [vo h.cM hp.1 iZ hr.2.2 (Int.natCast_nonneg _)]
         split
         ·exact Int.natCast_nonneg _
         ·rw [aF ⟨rfl,rfl⟩];exact Int.natCast_nonneg _) L h2.1 h2.2 hV)
    exact key _ (fun g hg=>wS h ha hg)
def kn(M:ag)(i:Nat)(x:Int):Int:=if x<0 then -1 else cell M i x
def tz(M:ag)(i k:Nat)(f:Int):Prop:=(0<=cell M i f->cell M i f≠cell M k f)/\(0<=kn M k (cell M i f)->0<=kn M i (cell M k f)->kn M k (cell M i f)=kn M i (cell M k f))
instance (M:ag)(i k:Nat)(f:Int):Decidable (tz M i k f):=by unfold tz;exact inferInstance
def lJ(M:ag)(f:Int):Prop:=∀i,i<M.length->∀k,k<M.length->i+2<=k->tz M i k f
instance (M:ag)(f:Int):Decidable (lJ M f):=by unfold lJ;exact inferInstance
def lG(F:Nat)(M:ag)(_ _:Nat):Bool:=decide (∀e,e<F->lJ M (e:Nat))
def sb(M:ag)(i k:Nat)(f g:Int):Prop:=cell M k f=g\/(0<=cell M k f/\0<=cell M k g/\0<=cell M i (cell M k f)/\cell M i (cell M k f)≠cell M k g)\/(0<=cell M k f/\0<=cell M k g/\0<=cell M i (cell M k g)/\cell M i (cell M k g)≠cell M k f)
instance (M:ag)(i k:Nat)(f g:Int):Decidable (sb M i k f g):=by unfold sb;exact inferInstance
def iH(M:ag)(i f:Nat):Bool:=decide (∀k,k<M.length->¬(-1<=(k:Int) - i/\(k:Int) - i<=1)->¬sb M i k f (cell M i f))
section
variable{i k met at_:Nat}{x:Int}
variable {n F:Nat} {L M:ag}
theorem Inv.full(h:Inv n F L F (F*n)){f:Int}(hi:i<n)(h0:0<=f)(hf:f<F):0<=cell L i f:=by
 obtain⟨q,rfl⟩:∃q:Nat,f=q:=⟨f.toNat,by omega⟩;have h1:q*n+i<F*n:=by
  have:(q+1)*n<=F*n:=Nat.mul_le_mul_right n (by omega);rw [Nat.succ_mul]at this;omega
 have h2:=h.known (q*n+i) h1;rw [Nat.add_comm,Nat.add_mul_mod_self_right,Nat.mod_eq_of_lt hi,Nat.add_mul_div_right _ _ h.n0,Nat.div_eq_of_lt hi,Nat.zero_add]at h2;exact h2
theorem Inv.inv(h:Inv n F L F (F*n)){f:Int}(hi:i<n)(h0:0<=f)(hf:f<F):0<=cell L i f/\cell L i f<F/\cell L i (cell L i f)=f/\cell L i f≠f:=by
 have h1:=h.full hi h0 hf;rcases h.cells i f hi h0 hf with h2 | h2
 ·omega
 exact⟨h2.1,h2.2.1,h2.2.2.2.1,h2.2.2.2.2⟩
theorem Inv.TG(h:Inv n F L F (F*n))(hF:F<=400):og L:=by
 intro p hp;obtain⟨i,hi,rfl⟩:=fP.1 hp;have cd:i<n:=by rw [<-h.cM.1];exact hi
 have e:L[i]=gl L i:=(cQ hi).symm;rw [e];have hl:=h.cM.row cd;have o8:=h.cM.row h.n0;have hinv:∀f:Int,0<=f->f<F->0<=gi (gl L i) f/\gi (gl L i) f<F/\gi (gl L i) (gi (gl L i) f)=f/\gi (gl L i) f≠f:=fun f h0 hf=>h.inv cd h0 hf
 refine⟨by rw [hl,<-o8];rfl,⟨by omega,fun x hx=>?_,?_⟩,fun k hk=>?_⟩
 ·obtain⟨k,hk,rfl⟩:=fP.1 hx;rw [<-bQ hk];have:=hinv k (by omega) (by omega);omega
 ·rw [List.nodup_iff_pairwise_ne,List.pairwise_iff_getElem];intro a b ha hb jD e2;rw [<-bQ ha,<-bQ hb]at e2;have e3:=(hinv a (by omega) (by omega)).2.2.1;have e4:=(hinv b (by omega) (by omega)).2.2.1;rw [e2,e4]at e3;omega
 have:=hinv k (by omega) (by omega);exact⟨this.2.2.2,this.2.2.1⟩
theorem oO.reach(h:L.length=n)(hc:oO n L x):Reach L 0 x:=by
 induction hc with
 | zero=>exact .refl
 | step _ hi _ _ ih=>exact .step ih (kS (by omega) (by omega))
theorem Inv.R9(h:Inv n F L F (F*n))(hn:n<=5)(hF:2<=F/\F<=400)(hJ:∀e:Nat,e<F->lJ L e):bN L:=by
 have o8:(gl L 0).length=F:=h.cM.row h.n0;have hr:=h.TG hF.2;have hs:=hr.sys;have hlen:=h.cM.1;have k5:=h.n0;refine⟨⟨by omega,by omega⟩,⟨by omega,by omega⟩,hr,fun i hi k hk fK f hf=>?_,?_⟩
 ·have h1:=hJ f (by omega) i hi k hk fK;have ci:=h.inv (i:=i) (f:=f) (by omega) (by omega) (by omega);have ck:=h.inv (i:=k) (f:=f) (by omega) (by omega) (by omega);have LW:=h.inv (i:=k) (f:=cell L i f) (by omega) ci.1 ci.2.1;have LV:=h.inv (i:=i) (f:=cell L k f) (by omega) ck.1 ck.2.1;have e1:kn L k (cell L i f)=cell L k (cell L i f):=by unfold kn;rw [if_neg (by omega)]
  have e2:kn L i (cell L k f)=cell L i (cell L k f):=by unfold kn;rw [if_neg (by omega)]
  have h2:=h1.2;rw [e1,e2]at h2;exact⟨h2 LW.1 LV.1,h1.1 ci.1⟩
 rw [o8]at hs|-;rw [DW hs (by omega)];intro x h0 hx;have:=h.tR x.toNat (by omega);rw [Int.toNat_of_nonneg h0]at this;exact this.reach hlen
theorem bN.cells(hL:Inv n F L F (F*n))(h:bN L)(hi:i<n)(hk:k<n)(fK:i+2<=k){f:Int}(h0:0<=f)(hf:f<F):cell L k (cell L i f)=cell L i (cell L k f)/\cell L i f≠cell L k f:=by
 have o8:(gl L 0).length=F:=hL.cM.row hL.n0;have hlen:=hL.cM.1;have h1:=h.2.2.2.1 i (by omega) k (by omega) fK f.toNat (by omega);unfold Comm at h1;rw [Int.toNat_of_nonneg h0]at h1;exact h1
theorem bN.Ff(hL:Inv n F L F (F*n))(h:bN L)(hi:i<n)(hk:k<n)(fK:¬(-1<=(k:Int) - i/\(k:Int) - i<=1)){f:Int}(h0:0<=f)(hf:f<F):cell L k (cell L i f)=cell L i (cell L k f)/\cell L i f≠cell L k f:=by
 by_cases hc:i+2<=k
 ·exact h.cells hL hi hk hc h0 hf
 have:=h.cells hL hk hi (by omega) h0 hf;exact⟨this.1.symm,fun e=>this.2 e.symm⟩
theorem MV(hM:Inv n F M met at_)(hL:Inv n F L F (F*n))(hE:Ext n F M L)(hV:bN L)(e:Nat)(he:e<F):lJ M e:=by
 intro i hi k hk fK;have hlen:=hM.cM.1;have ry:=hM.kb;have ci:=hM.cells i e (by omega) (by omega) (by omega);have ck:=hM.cells k e (by omega) (by omega) (by omega);have hv:=hV.cells hL (i:=i) (k:=k) (by omega) (by omega) fK (f:=(e:Int)) (by omega) (by omega);refine⟨fun h0 h1=>?_,fun h0 h1=>?_⟩
 ·rw [hE i e (by omega) (by omega) (by omega) h0,hE k e (by omega) (by omega) (by omega) (by rw [<-h1];exact h0)]at hv;exact hv.2 h1
 unfold kn at h0 h1|-
 by_cases hx:cell M i e<0
 ·rw [aF hx]at h0;omega
 by_cases hy:cell M k e<0
 ·rw [aF hy]at h1;omega
 rw [aB hx]at h0|-;rw [aB hy]at h1|-;have e1:=hE i e (by omega) (by omega) (by omega) (by omega);have e2:=hE k e (by omega) (by omega) (by omega) (by omega);have e3:=hE k (cell M i e) (by omega) (by omega) (by omega) h0;have e4:=hE i (cell M k e) (by omega) (by omega) (by omega) h1;rw [e1,e2,e3,e4]at hv;exact hv.1
theorem SP{f:Nat}(hM:Inv n F M met at_)(hi:i<n)(hf:f<F)(hc:0<=cell M i f)(hL:Inv n F L F (F*n))(hE:Ext n F M L)(hV:bN L):iH M i f=true:=by
 unfold iH;rw [jj];intro k hk fK hb;have hlen:=hM.cM.1;have ry:=hM.kb;have dQ:k<n:=by omega
 have ci:=hM.cells i f hi (by omega) (by omega);have hg:0<=cell M i f/\cell M i f<F/\cell M i (cell M i f)=f:=by
  rcases ci with ci | ci
  ·omega
  exact⟨ci.1,by omega,ci.2.2.2.1⟩
 have ef:=hE i f hi (by omega) (by omega) hc;have vf:=hV.Ff hL hi dQ fK (f:=(f:Int)) (by omega) (by omega);have vg:=hV.Ff hL hi dQ fK (f:=cell M i f) hg.1 hg.2.1;have eg:=hE i (cell M i f) hi hg.1 hg.2.1 (by omega);rcases hb with hb | ⟨h1,h2,h3,h4⟩ | ⟨h1,h2,h3,h4⟩
 ·have e1:=hE k f dQ (by omega) (by omega) (by omega);rw [ef,e1,hb]at vf;exact vf.2 O
 ·have e1:=hE k f dQ (by omega) (by omega) h1;have e2:=hE k (cell M i f) dQ hg.1 hg.2.1 h2;have r1:=hM.cells k f dQ (by omega) (by omega);have e3:=hE i (cell M k f) hi h1 (by omega) h3;rw [ef,e1,e2,e3]at vf;exact h4 vf.1.symm
 have e1:=hE k f dQ (by omega) (by omega) h1;have e2:=hE k (cell M i f) dQ hg.1 hg.2.1 h2;have r1:=hM.cells k (cell M i f) dQ hg.1 hg.2.1;have e3:=hE i (cell M k (cell M i f)) hi h2 (by omega) h3;rw [eg,hg.2.2,e1,e2,e3]at vg;exact h4 vg.1.symm
def nt(n F:Nat)(k at_ met:Nat)(M:ag):List (ag):=(grow n F (fun _ _ _=>true) (fun _=>true) k at_ met M).filter fun L=>decide (bN L)
theorem Nn(k:Nat)(h:Inv n F M met at_):grow n F iH (fun L=>decide (bN L)) k at_ met M=nt n F k at_ met M:=
 F6 (fun _=>True) _ (fun _ _ _ _=>av) (fun _ _ _=>rfl) (fun _ _ _ _ _ hM hi hf hc L hE hL hV=>SP hM hi hf hc hL hE (kc hV)) k at_ met M h av
theorem Np(hn:n<=5)(hF:2<=F/\F<=400)(k:Nat)(h:Inv n F M met at_)(hJ:∀e:Nat,e<F->lJ M e):grow n F (lG F) (fun _=>true) k at_ met M=nt n F k at_ met M:=
 F6 (fun M=>∀e:Nat,e<F->lJ M e) _ (fun M i f h=>kc h) (fun M hM hj=>by rw [dF (hM.R9 hn hF hj)]) (fun M i f met at_ hM hi hf hc L hE hL hV=>dF (fun e he=>MV hM hL hE (kc hV) e he)) k at_ met M h hJ
def blank(n F:Nat):ag:=List.replicate n (List.replicate F (-1))
theorem Fc{f:Int}(hi:i<n)(h0:0<=f)(hf:f<F):cell (blank n F) i f= -1:=by
 have e:gl (blank n F) i=List.replicate F (-1):=by simp [gl,blank,bX,List.getElem?_replicate,hi]
 rw [cell,e,qV h0 hf]
theorem Inv.blank(hn:0<n)(hF:0<F):Inv n F (blank n F) 1 0 where
 cM:=⟨by simp [Vc.blank],fun p hp=>by simp [Vc.blank]at hp;rw [hp.2];simp⟩
 n0:=hn
 tc:=cO _
 kb:=hF
 cells i f hi h0 hf:= .inl (Fc hi h0 hf)
 known a ha:=by omega
 tR f hf:=by
  have:f=0:=by omega
  subst this;exact .zero
 le:=bk _
theorem LJ(e:Nat)(he:e<F):lJ (blank n F) e:=by
 intro i hi k hk fK;have hl:(blank n F).length=n:=by simp [Vc.blank]
 have e1:=Fc (n:=n) (F:=F) (i:=i) (f:=(e:Int)) (by omega) (by omega) (by omega);refine⟨fun h0=>by omega,fun h0 h1=>?_⟩;unfold kn at h0;rw [aF (by omega)]at h0;omega
end
end
end Go.Proofs.YtagdamiiececaaaGreatDoor.Vc
