/-
 Lemmas. Conditions: as each states them.
-/
import Derived.Test.YtkccgdhcpplblaaGreatDoorInst
import Derived.Laws.IdiomCopy
import Derived.Shelf.Bits.Mul64
set_option maxHeartbeats 8000000
namespace Go.Proofs.YtkccgdhcpplblaaGreatDoor.Vc
open Tryz
section
open Go.RowKit
variable{p S:ai}{k:Nat}
theorem afb(n lo hi:Int)(w:aa):aK prog 129 [ak n,ak lo,ak hi] w (fun v w'=>v= .bool (decide (lo<=n/\n<=hi))/\w'=w):=by
 refine bA func129 O ntmps129 O (df O) (bg O ?_);refine ew 10 O (fun h=>?_) (fun h=>?_)
 ·refine av O (ar O (av O (ar O (av O (bI O ?_)))));refine dz O ?_;exact⟨by simp [h],O⟩
 refine aJ O (aJ O (aJ O (bI O ?_)));refine dz O ?_;exact⟨by simp [h],O⟩
theorem ye(n lo hi:Int)(w:aa):aK prog 115 [ak n,ak lo,ak hi] w (fun v w'=>v= .bool (decide (lo<=n/\n<=hi))/\w'=w):=by
 refine bA func115 O ntmps115 O (df O) (bg O ?_);refine ew 10 O (fun h=>?_) (fun h=>?_)
 ·refine av O (ar O (av O (ar O (av O (bI O ?_)))));refine dz O ?_;exact⟨by simp [h],O⟩
 refine aJ O (aJ O (aJ O (bI O ?_)));refine dz O ?_;exact⟨by simp [h],O⟩
def kg(p:ai):Prop:=p.length<=400/\(∀x∈p,0<=x/\x<p.length)/\p.Nodup
instance (p:ai):Decidable (kg p):=by unfold kg;exact inferInstance
def Seen(p:ai)(k:Nat)(S:List Bool):Prop:=
 S.length=p.length/\(∀x∈p.take k,0<=x/\x<p.length)/\(p.take k).Nodup/\∀x:Int,0<=x->x<p.length->(gb S x=true↔x∈p.take k)
theorem b9(h:k<p.length):gi p k=p[k]:=by simp [gi,da,fZ h]
theorem tK(h:k<p.length):p.take (k+1)=p.take k++ [gi p k]:=by rw [b9 h,lV h]
theorem Es{S:List Bool}{x y:Int}{b:Bool}(hx:0<=x)(mo:x<S.length)(hy:0<=y):gb (S.set x.toNat b) y=if x=y then b else gb S y:=by
 simp only [gb,da,mI]
 by_cases e:x=y
 ·subst e;rw [aB rfl,aB rfl,aB (by omega)];rfl
 rw [az (by omega),az e]
theorem r7{x y:Int}{b:Int}(hx:0<=x)(mo:x<S.length)(hy:0<=y):gi (S.set x.toNat b) y=if x=y then b else gi S y:=by
 simp only [gi,da,mI]
 by_cases e:x=y
 ·subst e;rw [aB rfl,aB rfl,aB (by omega)];rfl
 rw [az (by omega),az e]
theorem Seen.zero(p:ai):Seen p 0 (List.replicate p.length false):=⟨by simp,by simp,by simp,fun x h0 h1=>by
 simp [gb,da,List.getElem?_replicate];split<;>simp⟩
theorem Seen.bad{S:List Bool}(h:Seen p k S)(hk:k<p.length)(hb:¬(0<=gi p k/\gi p k<=p.length - 1)):¬kg p:=fun hp=>by
 have:=hp.2.1 (gi p k) (by rw [b9 hk];exact dQ hk);omega
theorem Seen.Wl{S:List Bool}(h:Seen p k S)(hk:k<p.length)(h0:0<=gi p k/\gi p k<=p.length - 1)(hb:gb S (gi p k)=true):¬kg p:=fun hp=>by
 have h1:=(h.2.2.2 (gi p k) h0.1 (by omega)).1 hb;have h2:(p.take (k+1)).Nodup:=hp.2.2.sublist (List.take_sublist _ _);rw [tK hk,List.nodup_append]at h2;exact h2.2.2 _ h1 _ (by simp) O
theorem Seen.step{S:List Bool}(h:Seen p k S)(hk:k<p.length)(h0:0<=gi p k/\gi p k<=p.length - 1)(hb:gb S (gi p k)=false):Seen p (k+1) (S.set (gi p k).toNat true):=by
 obtain⟨h1,h2,h3,h4⟩:=h;have h5:¬gi p k∈p.take k:=fun hm=>by have:=(h4 _ h0.1 (by omega)).2 hm;rw [hb]at this;cases this
 refine⟨by simpa using h1,?_,?_,fun x hx mo=>?_⟩
 ·rw [tK hk];intro x hx;rcases kj.1 hx with hx | hx
  ·exact h2 x hx
  simp at hx;subst hx;omega
 ·rw [tK hk,List.nodup_append];refine⟨h3,by simp,fun a ha b vc=>?_⟩;simp at vc;subst vc;intro e;subst e;exact h5 ha
 rw [Es h0.1 (by omega) hx,tK hk,kj]
 by_cases e:gi p k=x
 ·simp [e]
 rw [az e,h4 x hx mo];simp;intro h;exact absurd h.symm e
theorem Seen.done{S:List Bool}(h:Seen p k S)(hk:¬k<p.length)(hl:p.length<=400):kg p:=by
 obtain⟨h1,h2,h3,h4⟩:=h;rw [gR (by omega)]at h2 h3;exact⟨hl,h2,h3⟩
theorem M5(A:aj)(n c:Nat)(p:ai)(w:aa)(hR:cg w A n p):aK prog 136 [.slice A n c] w (fun v w'=>v= .bool (decide (kg p))/\St w w' []):=by
 have hl:=hR.1;subst hl;refine bA func136 O ntmps136 O (df O) ?_;refine bg O (bc O O (aC O ?_));refine aM _ O (fun h=>?_) (fun h=>?_)
 ·refine dX O (dz O ?_);exact⟨by rw [cj (fun hp:kg p=>by have:=hp.1;omega)],St.refl _⟩
 refine aA O (bc O O ?_);refine yj p.length (St.refl w) O O (by omega) fun A1 w1 aI=>aC O (Cd.loop (α:=Nat×List Bool) (fun s=> [(0,.slice A p.length c),(3,.slice A1 p.length p.length),(4,ak (s.1:Int))]) (fun s w'=>St w w' [gw 4 A1 p.length p.length s.2]/\s.1<=p.length/\Seen p s.1 s.2) (fun s=>p.length - s.1) (0,List.replicate p.length false) (amz O) ⟨aI,aZ _,Seen.zero p⟩ ?_);rintro⟨k,S⟩ e w2 ⟨aE,hk,hI⟩;dsimp only at aE hk hI|-;refine bg O (bc O O (aC O ?_));refine aM _ O (fun h1=>?_) (fun h1=>?_)
 ·refine aA O (amn (aE.gh hR).2 O O O (by omega) h1 (a8 (aE.gh hR) O ?_));refine ar O (bc O O (eh O ?_));refine aQ (afb _ _ _ _) O ?_;rintro _ _ ⟨rfl,rfl⟩
  first | refine fv rfl rfl ?_ | refine gA rfl rfl ?_
  refine ar O (ew 26 O (fun h2=>?_) (fun h2=>?_))
  ·refine aJ O (aJ O (aJ O (aJ O (aJ O (aJ O (aJ O (aC O ?_)))))));refine Cd.gC O (dX O (fz (eW ?_)));refine dz O ?_;exact⟨by rw [cj (hI.bad (by omega) (by omega))],aE.none⟩
  refine av O (ar O (av O (ar O (av O (ar O (av O ?_))))));refine amn (aE.gh hR).2 O O O (by omega) h1 (av O (a8 (aE.gh hR) O (av O (aD (aE.ji 0 O).2 O (av O (rP (aE.ji 0 O) O (by omega) O O (aC O ?_)))))));refine Cd.cond O (fun h3=>?_) (fun h3=>?_)
  ·refine dX O (fz (eW ?_));refine dz O ?_;exact⟨by rw [cj (hI.Wl (by omega) (by omega) h3)],aE.none⟩
  refine aA O (amn (aE.gh hR).2 O O O (by omega) h1 (a8 (aE.gh hR) O (aD (aE.ji 0 O).2 O (tT 0 aE O O O (by omega) ?_))));intro w3 aR;refine ar O (aH O (aT O (tQ ?_)));exact⟨(k+1,S.set (gi p k).toNat true),by show p.length - (k+1)<p.length - k;omega,(amz O),aR,by show k+1<=_;omega,hI.step (by omega) (by omega) h3⟩
 refine bn O (bo (gq O ?_));refine dz O ?_;exact⟨by rw [dM (hI.done (by omega) (by omega))],aE.none⟩
def fill{α:Type}(k:Nat)(xs:List α)(d:α):List α:=xs.take k++List.replicate (xs.length - k) d
theorem ZE(A:aj)(n c:Nat)(xs:ai)(A':aj)(n' c':Nat)(ys:ai)(w:aa)(hR:cg w A n xs)(pY:cg w A' n' ys)(hn:n<=9223372036854775807):
 aK prog 112 [.slice A n c,.slice A' n' c'] w (fun v w'=>v= .bool (decide (xs=ys))/\St w w' []):=by
 have hl:=hR.1;have qT:=pY.1;subst hl;subst qT;refine bA func112 O ntmps112 O (df O) ?_;refine bg O (bc O O (ar O (bc O O (aC O ?_))));refine aM _ O (fun h=>?_) (fun h=>?_)
 ·refine dX O (dz O ?_);exact⟨by rw [cj (fun e:xs=ys=>h (by rw [e]))],St.refl _⟩
 refine dw O (Cd.loop (α:=Nat) (fun k=> [(0,.slice A xs.length c),(1,.slice A' ys.length c'),(5,ak k)]) (fun k w'=>St w w' []/\k<=xs.length/\xs.take k=ys.take k) (fun k=>xs.length - k) 0 (amz O) ⟨St.refl w,aZ _,O⟩ ?_);rintro k e w2 ⟨aE,hk,hI⟩;have hle:xs.length=ys.length:=by omega
 refine bg O (bc O O (aC O ?_));refine aM _ O (fun h1=>?_) (fun h1=>?_)
 ·have hA:=aE.gh hR;have hB:=aE.gh pY;have h2:(k:Int)<ys.length:=by omega
  have hx:=b9 (p:=xs) (k:=k) (by omega);have hy:=b9 (p:=ys) (k:=k) (by omega);refine dw O (eo [xS (A) (xs.length) (c),xI ((k:Int)),xP (ay (A) ((k:Int)).toNat),xI (gi (xs) ((k:Int))),xS (A') (ys.length) (c'),xI ((k:Int)),xP (ay (A') ((k:Int)).toNat),xI (gi (ys) ((k:Int))),xB (decide (¬(gi (xs) ((k:Int)))=(gi (ys) ((k:Int)))))] O (eL O) ?_ ?_)
  ·exact⟨Dr O,Dr O,fun _ _ hb _ _=>aD (hA.aq hb).2 O Az,fun _ _ hb _ _=>a8 (hA.aq hb) O Az,Dr O,Dr O,fun _ _ hb _ _=>aD (hB.aq hb).2 O Az,fun _ _ hb _ _=>a8 (hB.aq hb) O Az,Dr O,au⟩
  intro u w3 fR _;have aR:=aE.aq fR;refine eP O (aM _ O (fun h3=>?_) (fun h3=>?_))
  ·refine dX O (fz (eW ?_));refine dz O ?_;refine⟨by rw [cj (fun e:xs=ys=>h3 (by rw [e]))],aR⟩
  refine aA O (aH O (aT O (tQ ?_)));refine⟨k+1,by omega,(amz O),aR,by omega,?_⟩;rw [tK (by omega),tK (by omega),hI,jb.1 h3]
 refine bn O (bo (gq O ?_));refine dz O ⟨?_,aE⟩;rw [gR (by omega),gR (by omega)]at hI;rw [dM hI]
theorem b7{p:ah}(h:k<p.length):gl p k=p[k]:=by simp [gl,da,fZ h]
theorem F1{p:ah}(h:k<p.length):p.take (k+1)=p.take k++ [gl p k]:=by rw [b7 h,lV h]
theorem ZD(A:aj)(n c:Nat)(rs:List aO)(xs:ah)(A':aj)(n' c':Nat)(rs':List aO)(ys:ah)(w:aa)(hR:bF w A n rs xs)(pY:bF w A' n' rs' ys)(hn:n<=9223372036854775807):
 aK prog 50 [.slice A n c,.slice A' n' c'] w (fun v w'=>v= .bool (decide (xs=ys))/\St w w' []):=by
 have hl:=hR.len;have qT:=pY.len;subst hl;subst qT;refine bA func50 O ntmps50 O (df O) ?_;refine bg O (bc O O (ar O (bc O O (aC O ?_))));refine aM _ O (fun h=>?_) (fun h=>?_)
 ·refine dX O (dz O ?_);exact⟨by rw [cj (fun e:xs=ys=>h (by rw [e]))],St.refl _⟩
 refine dw O (Cd.loop (α:=Nat) (fun k=> [(0,.slice A xs.length c),(1,.slice A' ys.length c'),(5,ak k)]) (fun k w'=>St w w' []/\k<=xs.length/\xs.take k=ys.take k) (fun k=>xs.length - k) 0 (amz O) ⟨St.refl w,aZ _,O⟩ ?_);rintro k e w2 ⟨aE,hk,hI⟩;have hle:xs.length=ys.length:=by omega
 refine bg O (bc O O (aC O ?_));refine aM _ O (fun h1=>?_) (fun h1=>?_)
 ·have hA:=aE.cT hR;have hB:=aE.cT pY;have Rw:=hA.top;have Rx:=hB.top;have h2:(k:Int)<ys.length:=by omega
  have hx:=b7 (p:=xs) (k:=k) (by omega);have hy:=b7 (p:=ys) (k:=k) (by omega);have ha:=hA.at_ (i:=k) (by omega) h1;have vc:=hB.at_ (i:=k) (by omega) h2;have hc:=hA.cap_ (i:=k) (by omega) h1;refine dw O (eo [xS (A) (xs.length) (c),xI ((k:Int)),xP (ay (A) ((k:Int)).toNat),xS ((rg (rs) ((k:Int))).a) ((rg (rs) ((k:Int))).n) ((rg (rs) ((k:Int))).c),xS (A') (ys.length) (c'),xI ((k:Int)),xP (ay (A') ((k:Int)).toNat),xS ((rg (rs') ((k:Int))).a) ((rg (rs') ((k:Int))).n) ((rg (rs') ((k:Int))).c),xB (decide (gl xs k=gl ys k)),xB (decide (¬(gl xs k=gl ys k)))] O (eL O) ?_ ?_)
  ·refine⟨Dr O,Dr O,fun _ _ hb _ _=>aD (Rw.aq hb).2 O Az,fun _ _ hb _ _=>bW (Rw.aq hb) O Az,Dr O,Dr O,fun _ _ hb _ _=>aD (Rx.aq hb).2 O Az,fun _ _ hb _ _=>bW (Rx.aq hb) O Az,?_,fun _ _ _ _ _=>fv O O Az,au⟩;intro e1 w1 hb hp aW;refine aQ (ZE _ _ _ _ _ _ _ _ _ (ha.aq hb) (vc.aq hb) (by omega)) O ?_;rintro _ w2 ⟨rfl,aw⟩;refine ao.n ?_;exact fM.dn aw.below (by exact O)
  intro u w3 fR _;have aR:=aE.aq fR;refine eP O (aM _ O (fun h3=>?_) (fun h3=>?_))
  ·refine dX O (fz (eW ?_));refine dz O ?_;refine⟨by rw [cj (fun e:xs=ys=>h3 (by rw [e]))],aR⟩
  refine aA O (aH O (aT O (tQ ?_)));refine⟨k+1,by omega,(amz O),aR,by omega,?_⟩;rw [F1 (by omega),F1 (by omega),hI,jb.1 h3]
 refine bn O (bo (gq O ?_));refine dz O ⟨?_,aE⟩;rw [gR (by omega),gR (by omega)]at hI;rw [dM hI]
theorem Qy(A:aj)(n c:Nat)(rs:List aO)(xs:ah)(A':aj)(n' c':Nat)(rs':List aO)(ys:ah)(w:aa)(hR:bF w A n rs xs)(pY:bF w A' n' rs' ys)(hn:n<=9223372036854775807):
 aK prog 9 [.agg #[.slice A n c],.agg #[.slice A' n' c']] w (fun v w'=>v= .bool (decide (xs=ys))/\St w w' []):=by
 refine bA func9 O ntmps9 O (df O) (bg O (lB (St.refl w) O O ?_));intro A1 w1 aI;refine lB aI O O fun A2 w2 aE=>ar O (aU (aE.rd 1 O) O (bh (aE.rd 1 O) O (aU (aE.rd 0 O) O (bh (aE.rd 0 O) O (aQ (ZD _ _ _ _ _ _ _ _ _ _ _ (aE.cT hR) (aE.cT pY) hn) O ?_)))));rintro _ w3 ⟨rfl,aR⟩;have aR:=aE.call aR
 first | refine fv rfl rfl ?_ | refine gA rfl rfl ?_
 refine aC O (aM _ O (fun h3=>?_) (fun h3=>?_))
 ·refine dX O (dz O ?_);exact⟨by rw [cj h3],aR.none⟩
 refine dX O (dz O ?_);exact⟨by rw [dM (jb.1 h3)],aR.none⟩
theorem wH(A:aj)(n c:Nat)(w:aa):aK prog 72 [.slice A n c] w (fun v w'=>v=ak n/\w'=w):=by
 refine bA func72 O ntmps72 O (df O) ?_;refine bg O (bc O O (bI O ?_));exact gZ O ⟨O,O⟩
theorem FW(A:aj)(n c:Nat)(w:aa):aK prog 75 [.slice A n c] w (fun v w'=>v=ak n/\w'=w):=by
 refine bA func75 O ntmps75 O (df O) ?_;refine bg O (bc O O (bI O ?_));exact gZ O ⟨O,O⟩
theorem aeB(A:aj)(n c:Nat)(p:ai)(w:aa)(hR:cg w A n p):aK prog 189 [.slice A n c] w (fun v w'=>v= .bool (decide (kg p))/\St w w' []):=by
 have hl:=hR.1;subst hl;refine bA func189 O ntmps189 O (df O) ?_;refine bg O (bc O O (aC O ?_));refine aM _ O (fun h=>?_) (fun h=>?_)
 ·refine dX O (dz O ?_);exact⟨by rw [cj (fun hp:kg p=>by have:=hp.1;omega)],St.refl _⟩
 refine aA O (bc O O ?_);refine yj p.length (St.refl w) O O (by omega) fun A1 w1 aI=>ar O (bc O O (aC O ?_));refine Cd.loop (α:=Nat×List Bool) (fun s=> [(0,.slice A p.length c),(3,.slice A1 p.length p.length),(12,.slice A p.length c),(13,ak (p.length:Int)),(14,ak (s.1:Int))]) (fun s w'=>St w w' [gw 4 A1 p.length p.length s.2]/\s.1<=p.length/\Seen p s.1 s.2) (fun s=>p.length - s.1) (0,List.replicate p.length false) (amz O) ⟨aI,aZ _,Seen.zero p⟩ ?_;rintro⟨k,S⟩ e w2 ⟨aE,hk,hI⟩;dsimp only at aE hk hI|-;refine bJ O (aM _ O (fun h1=>?_) (fun h1=>?_))
 ·refine aA O (amn (aE.gh hR).2 O O O (by omega) h1 (a8 (aE.gh hR) O (ar O (aQ (wH _ _ _ _) O ?_))));rintro _ _ ⟨rfl,rfl⟩;refine eh O (aQ (ye _ _ _ _) O ?_);rintro _ _ ⟨rfl,rfl⟩
  first | refine fv rfl rfl ?_ | refine gA rfl rfl ?_
  refine ar O (ew 24 O (fun h2=>?_) (fun h2=>?_))
  ·refine aJ O (aJ O (aJ O (aJ O (aC O ?_))));refine Cd.gC O (dX O (fz (eW ?_)));refine dz O ?_;exact⟨by rw [cj (hI.bad (by omega) (by omega))],aE.none⟩
  refine av O (ar O (av O (ar O (av O ?_))));refine aD (aE.ji 0 O).2 O (av O (rP (aE.ji 0 O) O (by omega) O O (aC O ?_)));refine Cd.cond O (fun h3=>?_) (fun h3=>?_)
  ·refine dX O (fz (eW ?_));refine dz O ?_;exact⟨by rw [cj (hI.Wl (by omega) (by omega) h3)],aE.none⟩
  refine aA O (aD (aE.ji 0 O).2 O (tT 0 aE O O O (by omega) ?_));intro w3 aR;refine ar O (aH O (aT O (tQ ?_)));exact⟨(k+1,S.set (gi p k).toNat true),by show p.length - (k+1)<p.length - k;omega,(amz O),aR,by show k+1<=_;omega,hI.step (by omega) (by omega) h3⟩
 refine bn O (bo (gq O ?_));refine dz O ?_;exact⟨by rw [dM (hI.done (by omega) (by omega))],aE.none⟩
def oD(p:ai):Prop:=∀i:Nat,i<p.length->gi p i≠i/\gi p (gi p i)=i
instance (p:ai):Decidable (oD p):=by unfold oD;exact inferInstance
theorem kg.range(h:kg p){i:Int}(h0:0<=i)(h1:i<p.length):0<=gi p i/\gi p i<p.length:=by
 have e:gi p i=p[i.toNat]'(by omega):=by simp [gi,da,fZ (show i.toNat<p.length by omega)]
 rw [e];exact h.2.1 _ (dQ _)
theorem T7(A:aj)(n c:Nat)(p:ai)(w:aa)(hR:cg w A n p)(hp:kg p):aK prog 137 [.slice A n c] w (fun v w'=>v= .bool (decide (oD p))/\w'=w):=by
 have hl:=hR.1;subst hl;have Df:=hp.1;refine bA func137 O ntmps137 O (df O) (bJ O ?_);refine Cd.loop (α:=Nat) (fun k=> [(0,.slice A p.length c),(3,ak k)]) (fun k w'=>w'=w/\k<=p.length/\∀i,i<k->gi p i≠i/\gi p (gi p i)=i) (fun k=>p.length - k) 0 (amz O) ⟨O,aZ _,fun i hi=>by omega⟩ ?_;rintro k e w2 ⟨rfl,hk,hI⟩;refine bg O (bc O O (aC O ?_));refine aM _ O (fun h1=>?_) (fun h1=>?_)
 ·have hr:=hp.range (i:=k) (by omega) h1;refine aA O (amn hR.2 O O O (by omega) h1 (a8 hR O (ar O ?_)));refine ew 16 O (fun h2=>?_) (fun h2=>?_)
  ·refine aJ O (aJ O (aJ O (aJ O (aJ O (aJ O (aJ O (aJ O (aJ O (aC O ?_)))))))));refine Cd.gC O (dX O (fz (eW ?_)));refine dz O ?_;exact⟨by rw [cj (fun hf:oD p=> (hf k (by omega)).1 h2)],O⟩
  refine av O (ar O (av O (ar O (av O (ar O (av O ?_))))));refine amn hR.2 O O O (by omega) h1 (av O (a8 hR O (av O (aD hR.2 O (av O (a8 hR O ?_))))));refine av O (ar O (av O (aC O ?_)));refine aM _ O (fun h3=>?_) (fun h3=>?_)
  ·refine dX O (fz (eW ?_));refine dz O ?_;exact⟨by rw [cj (fun hf:oD p=>h3 (hf k (by omega)).2)],O⟩
  refine aA O (aH O (aT O (tQ ?_)));refine⟨k+1,by omega,(amz O),O,by omega,fun i hi=>?_⟩
  by_cases e:i=k
  ·subst e;exact⟨h2,jb.1 h3⟩
  exact hI i (by omega)
 refine bn O (bo (gq O ?_));refine dz O ?_;exact⟨by rw [dM (show oD p from fun i hi=>hI i (by omega))],O⟩
theorem aew(A:aj)(n c:Nat)(p:ai)(w:aa)(hR:cg w A n p):aK prog 117 [.slice A n c] w (fun v w'=>v= .bool (decide (kg p/\oD p))/\St w w' []):=by
 have hl:=hR.1;subst hl;refine bA func117 O ntmps117 O (df O) (bg O (aQ (aeB _ _ _ _ _ hR) O ?_));rintro _ w1 ⟨rfl,aI⟩
 first | refine fv rfl rfl ?_ | refine gA rfl rfl ?_
 refine aC O (aM _ O (fun hp=>?_) (fun hp=>?_))
 ·refine dX O (dz O ?_);exact⟨by rw [cj (fun h=>hp h.1)],aI⟩
 have hp:=jb.1 hp;have Df:=hp.1;refine aA O (bc O O (aC O ?_));refine Cd.loop (α:=Nat) (fun k=> [(0,.slice A p.length c),(8,.slice A p.length c),(9,ak (p.length:Int)),(10,ak k)]) (fun k w'=>St w w' []/\k<=p.length/\∀i,i<k->gi p i≠i/\gi p (gi p i)=i) (fun k=>p.length - k) 0 (amz O) ⟨aI,aZ _,fun i hi=>by omega⟩ ?_;rintro k e w2 ⟨aE,hk,hI⟩;refine bJ O (aM _ O (fun h1=>?_) (fun h1=>?_))
 ·have hr:=hp.range (i:=k) (by omega) h1;have hA:=aE.gh hR;refine aA O (amn hA.2 O O O (by omega) h1 (a8 hA O (ar O ?_)));refine ew 18 O (fun h2=>?_) (fun h2=>?_)
  ·refine aJ O (aJ O (aJ O (aJ O (aJ O (aJ O (aC O ?_))))));refine Cd.gC O (dX O (fz (eW ?_)));refine dz O ?_;exact⟨by rw [cj (fun hf:kg p/\oD p=> (hf.2 k (by omega)).1 h2)],aE⟩
  refine av O (ar O (av O (ar O (av O ?_))));refine aD hA.2 O (av O (a8 hA O ?_));refine av O (ar O (av O (aC O ?_)));refine aM _ O (fun h3=>?_) (fun h3=>?_)
  ·refine dX O (fz (eW ?_));refine dz O ?_;exact⟨by rw [cj (fun hf:kg p/\oD p=>h3 (hf.2 k (by omega)).2)],aE⟩
  refine aA O (aH O (aT O (tQ ?_)));refine⟨k+1,by omega,(amz O),aE,by omega,fun i hi=>?_⟩
  by_cases e:i=k
  ·subst e;exact⟨h2,jb.1 h3⟩
  exact hI i (by omega)
 refine bn O (bo (gq O ?_));refine dz O ?_;exact⟨by rw [dM (show kg p/\oD p from⟨hp,fun i hi=>hI i (by omega)⟩)],aE⟩
theorem I9(A Am:aj)(n c:Nat)(f:Nat->ad)(w:aa)(hR:Rd w A 1 f)(hf:f 0= .slice Am n c):aK prog 116 [.pointer A] w (fun v w'=>v=ak n/\w'=w):=by
 refine bA func116 O ntmps116 O (df O) (bg O ?_);refine wR hR (by decide) O O (aU hR O (amv hR O O hf O O (aQ (FW _ _ _ _) O ?_)));rintro _ _ ⟨rfl,rfl⟩;refine bI O (gZ O ?_);exact⟨O,O⟩
theorem zX(A Am:aj)(n c:Nat)(rs:List aO)(xss:ah)(f:Nat->ad)(w:aa)(hR:Rd w A 1 f)(hf:f 0= .slice Am n c)(hM:bF w Am n rs xss)(hn:0<n):aK prog 78 [.pointer A] w (fun v w'=>v=ak ((rg rs 0).n:Int)/\w'=w):=by
 refine bA func78 O ntmps78 O (df O) (bg O ?_);refine wR hR (by decide) O O (aU hR O (amv hR O O hf O O (aD hM.top.2 O (bW hM.top O (aQ (wH _ _ _ _) O ?_)))));rintro _ _ ⟨rfl,rfl⟩;refine bI O (gZ O ?_);exact⟨O,O⟩
end
section
variable{N i:Nat}{l p b:ai}{x y z pt:Int}
theorem Nx:∀(n:Nat) (l:List Nat),l.Nodup->(∀x∈l,x<n)->l.length<=n
 | 0,l,_,h=>by
  cases l with
  | nil=>simp
  | cons a l=>exact absurd (h a (by simp)) (by omega)
 | n+1,l,hn,h=>by
  have h1:=Nx n (l.erase n) (hn.erase n) (fun x hx=>by
   have h2:=(hn.mem_erase_iff).1 hx;have:=h x h2.2;omega)
  have:=List.length_erase_le (a:=n) (l:=l);rw [List.length_erase]at h1
  split at h1<;>omega
theorem sJ(hn:l.Nodup)(h:∀x∈l,0<=x/\x<N):l.length<=N:=by
 have:=Nx N (l.map Int.toNat) (by
  rw [List.nodup_iff_pairwise_ne,pd];refine List.Pairwise.imp_of_mem ?_ hn;intro a b ha hb eB e;have:=h a ha;have:=h b hb;omega) (fun x hx=>by
  obtain⟨y,hy,rfl⟩:=dA.1 hx;have:=h y hy;omega)
 simpa using this
def Sys(N:Nat)(xss:ah):Prop:=∀p∈xss,p.length=N/\∀x:Int,0<=x->x<N->0<=gi p x/\gi p x<N
inductive Reach(xss:ah)(x:Int):Int->Prop where
 | refl:Reach xss x x
 | step {y:Int} {p:ai}:Reach xss x y->p∈xss->Reach xss x (gi p y)
theorem Reach.trans{xss:ah}(h:Reach xss x y)(h':Reach xss y z):Reach xss x z:=by
 induction h' with
 | refl=>exact h
 | step _ hp ih=>exact .step ih hp
def kQ(out:ai)(y:Int):ai:=if y∈out then out else out++ [y]
def expand(xss:ah)(x:Int)(out:ai):ai:=xss.foldl (fun o p=>kQ o (gi p x)) out
def pO(xss:ah):Nat->Nat->ai->ai
 | 0,_,out=>out
 | f+1,i,out=>if i<out.length then pO xss f (i+1) (expand xss (gi out i) out)else out
def eE(N:Nat)(xss:ah)(pt:Int):ai:=pO xss (N+1) 0 [pt]
theorem NS{out:ai}:z∈kQ out y↔z∈out\/z=y:=by
 unfold kQ
 split
 ·constructor
  ·exact Or.inl
  rintro(h | rfl)
  ·exact h
  assumption
 simp
theorem aid{out:ai}(h:out.Nodup):(kQ out y).Nodup:=by
 unfold kQ
 split
 ·exact h
 rename_i hy;rw [List.nodup_append];refine⟨h,by simp,fun a ha b hb=>?_⟩;simp at hb;subst hb;rintro rfl;exact hy ha
theorem NT(out:ai)(y:Int):out<+:kQ out y:=by
 unfold kQ
 split
 ·exact List.prefix_rfl
 exact List.prefix_append _ _
structure Good(N:Nat)(xss:ah)(pt:Int)(out:ai):Prop where
 nodup:out.Nodup
 range:∀x∈out,0<=x/\x< (N:Int)
 reach:∀x∈out,Reach xss pt x
theorem Good.push{xss:ah}{out:ai}(h:Good N xss pt out)(hs:Sys N xss)(hx:x∈out)(hp:p∈xss):Good N xss pt (kQ out (gi p x)):=
 ⟨aid h.nodup,fun z hz=>by
  rcases NS.1 hz with hz | rfl
  ·exact h.range z hz
  ·exact(hs p hp).2 x (h.range x hx).1 (h.range x hx).2,fun z hz=>by
  rcases NS.1 hz with hz | rfl
  ·exact h.reach z hz
  exact .step (h.reach x hx) hp⟩
theorem Good.len{xss:ah}{out:ai}(h:Good N xss pt out):out.length<=N:=sJ h.nodup h.range
theorem foldl_push{N:Nat}{xss:ah}{pt:Int}(hs:Sys N xss){x:Int}:∀(ps:ah) (out:ai),(∀p∈ps,p∈xss)->Good N xss pt out->x∈out->
 Good N xss pt (ps.foldl (fun o p=>kQ o (gi p x)) out)/\out<+:ps.foldl (fun o p=>kQ o (gi p x)) out/\∀p∈ps,gi p x∈ps.foldl (fun o p=>kQ o (gi p x)) out
 | [],out,_,h,_=> ⟨h,List.prefix_rfl,fun p hp=>by cases hp⟩
 | q::ps,out,Td,h,hx=>by
  have h1:=h.push hs hx (Td q (by simp));have qU:=NT out (gi q x);obtain⟨g1,g2,g3⟩:=foldl_push hs ps (kQ out (gi q x)) (fun p hp=>Td p (by simp [hp])) h1 (qU.subset hx);refine⟨g1,qU.trans g2,fun p hp=>?_⟩;rcases iP.1 hp with rfl | hp
  ·exact g2.subset (NS.2 (Or.inr O))
  ·exact g3 p hp
theorem gi_in{out:ai}(h:i<out.length):gi out i∈out:=by rw [b9 h];exact dQ h
theorem Hg{a:ai}(h:a<+:b)(hi:i<a.length):gi b i=gi a i:=by
 rw [b9 hi,b9 (Nat.lt_of_lt_of_le hi h.length_le)];obtain⟨t,rfl⟩:=h;rw [List.getElem_append_left hi]
theorem PC{N:Nat}{xss:ah}{pt:Int}(hs:Sys N xss):∀(f i:Nat) (out:ai),Good N xss pt out->N<f+i->(∀j,j<i->j<out.length->∀p∈xss,gi p (gi out j)∈out)->
 Good N xss pt (pO xss f i out)/\out<+:pO xss f i out/\∀x∈pO xss f i out,∀p∈xss,gi p x∈pO xss f i out
 | 0,i,out,h,hf,hc=>by
  simp only [pO];refine⟨h,List.prefix_rfl,fun x hx p hp=>?_⟩;obtain⟨j,hj,rfl⟩:=gF.1 hx;have:=h.len;have:=hc j (by omega) hj p hp;rw [b9 hj]at this;exact this
 | f+1,i,out,h,hf,hc=>by
  simp only [pO]
  split
  ·rename_i hi;obtain⟨g1,g2,g3⟩:=foldl_push hs xss out (fun p hp=>hp) h (gi_in hi);replace g2:out<+:expand xss (gi out i) out:=g2;obtain⟨k1,k2,k3⟩:=PC hs f (i+1) (expand xss (gi out i) out) g1 (by omega) (fun j hj lK p hp=>by
    by_cases ui:j=i
    ·subst ui;show gi p (gi (expand xss _ out) _)∈expand xss _ out;rw [Hg g2 hi];exact g3 p hp
    ·have SQ:j<out.length:=by omega
     show gi p (gi (expand xss _ out) _)∈expand xss _ out;rw [Hg g2 SQ];exact g2.subset (hc j (by omega) SQ p hp))
   exact⟨k1,g2.trans k2,k3⟩
  ·rename_i hi;refine⟨h,List.prefix_rfl,fun x hx p hp=>?_⟩;obtain⟨j,hj,rfl⟩:=gF.1 hx;have:=hc j (by omega) hj p hp;rw [b9 hj]at this;exact this
theorem KS{xss:ah}(h0:0<=pt)(h1:pt<N):Good N xss pt [pt]:=
 ⟨by simp,fun x hx=>by simp at hx;subst hx;exact⟨h0,h1⟩,fun x hx=>by simp at hx;subst hx;exact .refl⟩
theorem wD{xss:ah}(hs:Sys N xss)(h0:0<=pt)(h1:pt<N):
 Good N xss pt (eE N xss pt)/\ [pt]<+:eE N xss pt/\∀x,x∈eE N xss pt↔Reach xss pt x:=by
 obtain⟨g1,g2,g3⟩:=PC (N:=N) hs (N+1) 0 [pt] (KS h0 h1) (by omega) (fun j hj=>by omega);refine⟨g1,g2,fun x=> ⟨g1.reach x,fun hr=>?_⟩⟩
 induction hr with
 | refl=>exact g2.subset (by simp)
 | step _ hp ih=>exact g3 _ ih _ hp
end
section
open Go.RowKit
section
variable{t:ae}{z z0:ad}{b c0 m c':Nat}
variable {P:Program} {N:Nat} {ops:Array Oper} {K:Env->aa->Prop} {rest:List Oper} {e:Env} {w0 w w':aa} {ks:List Ck} {d:Nat} {ty:ae} {pos:String} {af:Array Edge}
theorem eS{el:ae}[bt P t (.slice el)][bq P el z 1 b]{x0:ag}{i:Int}(hS:St w0 w ks)(h0:ev e x0=ak i)(hz:z.cells= #[z])(hb:Nat.blt d N=true)(hK:∀A w',St w0 w' (ax el A 1 1 [i]::ks)->ao P N ops K rest (br e d (.slice A 1 1)) w'):ao P N ops K (⟨some d,.buildSlice t 1 #[(0,x0)],ty,pos,af,none⟩::rest) e w:=
 .J5 hS h0 rfl hz hb hK
theorem kV{el:ae}[bt P t (.slice el)][bq P el z 1 b]{x0:ag}{A0:aj}{n0:Nat}(hS:St w0 w ks)(h0:ev e x0= .slice A0 n0 c0)(hz:z.cells= #[z])(hb:Nat.blt d N=true)(hK:∀A w',St w0 w' (bZ el A 1 1 [⟨A0,n0,c0⟩]::ks)->ao P N ops K rest (br e d (.slice A 1 1)) w'):ao P N ops K (⟨some d,.buildSlice t 1 #[(0,x0)],ty,pos,af,none⟩::rest) e w:=
 .J5 hS h0 rfl hz hb hK
theorem agf{ys:ai}(h:ys.length=m):(List.range m).map (fun j=>Value.int .i64 (ys.getD j 0))=ys.map (ak):=by
 subst h;apply ki
 ·simp
 intro i h1 h2;simp [da,fZ (show i<ys.length by simpa using h1)]
theorem agh{ys:List aO}(h:ys.length=m):(List.range m).map (fun j=> (ys.getD j dO).v)=ys.map aO.v:=by
 subst h;apply ki
 ·simp
 intro i h1 h2;simp [da,fZ (show i<ys.length by simpa using h1)]
theorem amw{el:ae}[hU:bt P t (.slice el)][bq P el z 1 b]{x y:ag}(i:Nat){A:aj}{n c:Nat}{xs:ai}{A':aj}{ys:ai}(hS:St w0 w ks)(hk:ks[i]?=some (ax el A n c xs))(hR:cg w A' m ys)(hx:ev e x= .slice A n c)(hy:ev e y= .slice A' m c')(hz:z.cells= #[z])(qK:n+m<=9223372036854775807)(oM:(n+m)*b<=140737488355328)(hb:Nat.blt d N=true)(hK:∀A2 c2 w',St w0 w' (ks.set i (ax el A2 (n+m) c2 (xs++ys)))->ao P N ops K rest (br e d (.slice A2 (n+m) c2)) w'):
 ao P N ops K (⟨some d,.call ⟨.builtin .append, #[x,y], #[t,t]⟩,ty,pos,af,none⟩::rest) e w:=
 .app i hS hk hR.2 hx hy rfl hz (fun _ _=>rfl) (by simpa [maxLen]using qK) oM hb fun A2 c2 w' h=>hK A2 c2 w' (by
  rw [agf hR.1]at h;simpa [ax]using h)
theorem fk{el:ae}[hU:bt P t (.slice el)][bq P el z 1 b]{x y:ag}(i:Nat){A:aj}{n c:Nat}{xs:ai}{A':aj}{ys:ai}(hS:St w0 w ks)(hk:ks[i]?=some (ax el A n c xs))(hR:cg w A' m ys)(hx:ev e x= .slice A n c)(hy:ev e y= .slice A' m c')(q9:(z.cells,Nat.blt d N)=(#[z],true))(hK:∀A2 c2 w',St w0 w' (ks.set i (ax el A2 (n+m) c2 (xs++ys)))->ao P N ops K rest (br e d (.slice A2 (n+m) c2)) w')(qK:n+m<=9223372036854775807:=by omega)(oM:(n+m)*b<=140737488355328:=by omega):ao P N ops K (⟨some d,.call ⟨.builtin .append, #[x,y], #[t,t]⟩,ty,pos,af,none⟩::rest) e w:=amw i hS hk hR hx hy (congrArg (fun p=>p.1) q9) qK oM (congrArg (fun p=>p.2) q9) hK
theorem lA{el:ae}[hU:bt P t (.slice el)][bq P el z 1 b]{x y:ag}(i:Nat){A:aj}{n c:Nat}{xs:List aO}{A':aj}{ys:List aO}(hS:St w0 w ks)(hk:ks[i]?=some (bZ el A n c xs))(hR:ml w A' m ys)(hx:ev e x= .slice A n c)(hy:ev e y= .slice A' m c')(hz:z.cells= #[z0])(qK:n+m<=9223372036854775807)(oM:(n+m)*b<=140737488355328)(hb:Nat.blt d N=true)(hK:∀A2 c2 w',St w0 w' (ks.set i (bZ el A2 (n+m) c2 (xs++ys)))->ao P N ops K rest (br e d (.slice A2 (n+m) c2)) w'):
 ao P N ops K (⟨some d,.call ⟨.builtin .append, #[x,y], #[t,t]⟩,ty,pos,af,none⟩::rest) e w:=
 .app i hS hk hR.2 hx hy rfl hz (fun _ _=>rfl) (by simpa [maxLen]using qK) oM hb fun A2 c2 w' h=>hK A2 c2 w' (by
  rw [agh hR.1]at h;simpa [bZ]using h)
end
def uP(M:Nat)(S:List Bool)(out:ai):Prop:=S.length=M/\∀x:Int,0<=x->x<M->(gb S x=true↔x∈out)
theorem uP.init{M:Nat}{pt:Int}(h0:0<=pt)(h1:pt<M):uP M ((List.replicate M false).set pt.toNat true) [pt]:=by
 refine⟨by simp,fun x hx mo=>?_⟩;rw [Es h0 (by simpa using h1) hx]
 by_cases e:pt=x
 ·simp [e]
 rw [az e];have:x≠pt:=fun h=>e h.symm
 simp [gb,da,List.getElem?_replicate,this]
 split<;>simp
theorem uP.push{M:Nat}{S:List Bool}{out:ai}{y:Int}(h:uP M S out)(h0:0<=y)(h1:y<M):uP M (S.set y.toNat true) (out++ [y]):=by
 refine⟨by simpa using h.1,fun x hx mo=>?_⟩;rw [Es h0 (by rw [h.1];exact h1) hx,kj]
 by_cases e:y=x
 ·simp [e]
 rw [az e,h.2 x hx mo];have:x≠y:=fun h=>e h.symm
 simp [this]
theorem Pz{xss:ah}{f i:Nat}{out:ai}(h:¬i<out.length):pO xss f i out=out:=by
 cases f with
 | zero=>rfl
 | succ f=>simp only [pO];rw [az h]
theorem bF.qu{w:aa}{A:aj}{n:Nat}{rs:List aO}{xss:ah}(h:bF w A n rs xss){k:Int}(h0:0<=k)(h1:k<n):(gl xss k).length=(rg rs k).n:=(h.at_ h0 h1).1
theorem pW{xss:ah}{k:Int}(h0:0<=k)(h:k<xss.length):gl xss k∈xss:=by
 obtain⟨j,rfl⟩:∃j:Nat,k=j:=⟨k.toNat,by omega⟩;rw [b7 (by omega)];exact dQ _
theorem M3(A:aj)(n c:Nat)(rs:List aO)(xss:ah)(N:Nat)(pt:Int)(w:aa)(hR:bF w A n rs xss)(hn:n<=9223372036854775807)(hs:Sys N xss)(hN:N<=1000000000)(h0:0<=pt)(h1:pt<N):
 aK prog 138 [.slice A n c,ak pt] w (fun v w'=>∃A' c',v= .slice A' (eE N xss pt).length c'/\St w w' [ax 2 A' (eE N xss pt).length c' (eE N xss pt)]):=by
 have cI:∀k:Int,0<=k->k<n->(rg rs k).n=N:=fun k mR hk=>by
  rw [<-hR.qu mR hk];exact(hs _ (pW mR (by rw [hR.len];exact hk))).1
 refine bA func138 O ntmps138 O (df O) (bg O (eS (St.refl w) O O O ?_));intro A1 w1 aI;refine DY 2 O (tN (α:=Nat) (fun s=> [(0,.slice A n c),(1,ak pt),(5,.slice A1 1 1),(6,ak s)]) (fun s w'=>w'=w1/\s<=N/\(0<n->s=N)) ?_ ?_)
 ·refine bg O (bc O O (aC O ?_));refine aM _ O (fun h2=>?_) (fun h2=>?_)
  ·refine aA O (aD (aI.NJ hR.top).2 O (bW (aI.NJ hR.top) O ?_));refine bc O O (aT O (tQ ?_));exact⟨N,⟨O,O,O,by rw [cI 0 (by omega) (by omega)];rfl,au⟩,O,bs _,fun _=>O⟩
  refine nS O (tQ ?_);exact⟨0,(amz O),O,aZ _,fun h=>by omega⟩
 rintro s e1 w2 ⟨rfl,hsN,pB⟩;have mn:n=0->N=N:=fun _=>O
 refine aA O (aH O (aH O ?_));refine yj (s+pt.toNat+1) aI (by show Value.int .i64 _=Value.int .i64 _;congr 1;omega) O (by omega) ?_;intro A2 w3 aR;refine ar O (aD (aR.ji 0 O).2 O (tT 0 aR O O O (by omega) ?_));intro w4 aX;refine aC O (Cd.loop (α:=Nat×ai×aj×Nat×List Bool) (fun q=> [(0,.slice A n c),(5,.slice q.2.2.1 q.2.1.length q.2.2.2.1),(7,.slice A2 (s+pt.toNat+1) (s+pt.toNat+1)),(8,ak (q.1:Int))]) (fun q w'=>St w w' [gw 4 A2 (s+pt.toNat+1) (s+pt.toNat+1) q.2.2.2.2,ax 2 q.2.2.1 q.2.1.length q.2.2.2.1 q.2.1]/\q.1<=q.2.1.length/\Good N xss pt q.2.1/\uP (s+pt.toNat+1) q.2.2.2.2 q.2.1/\pO xss (N+1 - q.1) q.1 q.2.1=eE N xss pt) (fun q=>N+1 - q.1) (0,[pt],A1,1,(List.replicate (s+pt.toNat+1) false).set pt.toNat true) (amz O) ⟨aX,aZ _,KS h0 h1,uP.init h0 (by omega),O⟩ ?_);rintro⟨i,out,Ao,co,S⟩ e2 w5 ⟨aY,hi,hg,hm,hb⟩;dsimp only at aY hi hg hm hb|-;have hlen:=hg.len;refine bg O (bc O O (aC O ?_));refine aM _ O (fun h2=>?_) (fun h2=>?_)
 ·refine dw O (Cd.loop (α:=Nat×ai×aj×Nat×List Bool) (fun q=> [(0,.slice A n c),(5,.slice q.2.2.1 q.2.1.length q.2.2.2.1),(7,.slice A2 (s+pt.toNat+1) (s+pt.toNat+1)),(8,ak i),(9,ak (q.1:Int))]) (fun q w'=>St w w' [gw 4 A2 (s+pt.toNat+1) (s+pt.toNat+1) q.2.2.2.2,ax 2 q.2.2.1 q.2.1.length q.2.2.2.1 q.2.1]/\q.1<=n/\Good N xss pt q.2.1/\uP (s+pt.toNat+1) q.2.2.2.2 q.2.1/\out<+:q.2.1/\(xss.drop q.1).foldl (fun o p=>kQ o (gi p (gi out i))) q.2.1=expand xss (gi out i) out) (fun q=>n - q.1) (0,out,Ao,co,S) (amz O) ⟨aY,aZ _,hg,hm,List.prefix_rfl,O⟩ ?_);rintro⟨k,iq,zG,Cy,S'⟩ e3 w6 ⟨bk,hk,nB,iU,kM,hf⟩;dsimp only at bk hk nB iU kM hf|-;have xy:=nB.len;refine bg O (bc O O (aC O ?_));refine aM _ O (fun h3=>?_) (fun h3=>?_)
  ·have HZ:i<iq.length:=by have:=kM.length_le;omega
   have EX:gi iq i=gi out i:=Hg kM (by omega);have gv:=hg.range _ (gi_in (i:=i) (by omega));have kL:gl xss k∈xss:=pW (by omega) (by rw [hR.len];omega);have hy:=(hs _ kL).2 (gi out i) gv.1 gv.2;have js:=cI k (by omega) (by omega);have hsN:s=N:=pB (by omega);have hT:=(bk.cT hR);have hO:=bk.bz 1 O;have bP:=hT.at_ (i:=k) (by omega) (by omega);refine dw O ?_;refine eo [xS (A) (n) (c),xI ((k:Int)),xP (ay (A) ((k:Int)).toNat),xS ((rg (rs) ((k:Int))).a) ((rg (rs) ((k:Int))).n) ((rg (rs) ((k:Int))).c),xS (zG) (iq.length) (Cy),xI ((i:Int)),xP (ay (zG) ((i:Int)).toNat),xI (gi (iq) ((i:Int))),xP (ay ((rg (rs) ((k:Int))).a) (gi (iq) ((i:Int))).toNat),xI (gi (gl xss k) (gi (iq) ((i:Int)))),xI (gi (gl xss k) (gi (iq) ((i:Int))))] O (eL O) ?_ ?_
   ·exact⟨Dr O,Dr O,fun _ _ hb _ _=>aD (hT.top.aq hb).2 O Az,fun _ _ hb _ _=>bW (hT.top.aq hb) O Az,Dr O,Dr O,fun _ _ hb _ _=>aD (hO.aq hb).2 O Az,fun _ _ hb _ _=>a8 (hO.aq hb) O Az,fun _ _ hb _ _=>amn (bP.aq hb).2 O O O (by rw [EX];omega) (by rw [EX,js];omega) Az,fun _ _ hb _ _=>a8 (bP.aq hb) O Az,Dr O,au⟩
   intro u w7 C2 _;have bG:=bk.aq C2;rw [EX];have xq:(xss.drop (k+1)).foldl (fun o p=>kQ o (gi p (gi out i))) (kQ iq (gi (gl xss k) (gi out i)))=expand xss (gi out i) out:=by
    rw [<-hf,List.drop_eq_getElem_cons (show k<xss.length by rw [hR.len];omega),List.foldl_cons,b7 (by rw [hR.len];omega)]
   refine jW O (aD (bG.ji 0 O).2 O (rP (bG.ji 0 O) O (by omega) O O ?_))
   first | refine fv rfl rfl ?_ | refine gA rfl rfl ?_
   refine aC O (Cd.cond O (fun h4=>?_) (fun h4=>?_))
   ·have Mi:¬gi (gl xss k) (gi out i)∈iq:=fun du=>by
     have:=(iU.2 _ hy.1 (by omega)).2 du;rw [this]at h4;cases h4
    have Ba:kQ iq (gi (gl xss k) (gi out i))=iq++ [gi (gl xss k) (gi out i)]:=by unfold kQ;rw [if_neg Mi]
    have xr:=nB.push hs (kM.subset (gi_in (i:=i) (by omega))) kL;have E7:=kM.trans (NT iq (gi (gl xss k) (gi out i)));rw [Ba]at xq xr E7;have Mc:=xr.len;simp only [b8,List.length_singleton]at Mc;refine aA O (aD (bG.ji 0 O).2 O (tT 0 bG O O O (by omega) ?_));intro w8 b6;refine ar O (eS b6 O O O ?_);intro A3 w9 bL;refine fk 2 bL O (bL.bz 0 O) O O O fun A4 c4 dV bN=>ar O (aH O (aT O (tQ ?_)));refine⟨(k+1,iq++ [gi (gl xss k) (gi out i)],A4,c4,S'.set (gi (gl xss k) (gi out i)).toNat true),by show n - (k+1)<n - k;omega,⟨O,by rw [b8];rfl,O,O,O,au⟩,?_,by show k+1<=n;omega,xr,iU.push hy.1 (by omega),E7,xq⟩;have jO:=bN.tail;simp only [b8,List.length_singleton];exact jO
   have du:gi (gl xss k) (gi out i)∈iq:=(iU.2 _ hy.1 (by omega)).1 (by simpa using h4);have Ba:kQ iq (gi (gl xss k) (gi out i))=iq:=by unfold kQ;rw [if_pos du]
   rw [Ba]at xq;refine aA O (aH O (aT O (tQ ?_)));exact⟨(k+1,iq,zG,Cy,S'),by show n - (k+1)<n - k;omega,(amz O),bG,by show k+1<=n;omega,nB,iU,kM,xq⟩
  refine bn O (bo (cL O (aH O (aT O (tQ ?_)))));have eQ:k=n:=by omega
  rw [eQ,<-hR.len,List.drop_length,List.foldl_nil]at hf;refine⟨(i+1,iq,zG,Cy,S'),by show N+1 - (i+1)<N+1 - i;omega,(amz O),bk,?_,nB,iU,?_⟩
  ·have:=kM.length_le;show i+1<=iq.length;omega
  show pO xss (N+1 - (i+1)) (i+1) iq=eE N xss pt;rw [<-hb,hf];have e:N+1 - i=(N+1 - (i+1))+1:=by omega
  rw [e];simp only [pO];rw [aB (by omega)]
 refine bn O (bo (gq O ?_));refine ia O ?_;rw [Pz (by omega)]at hb;exact⟨Ao,co,by rw [hb],by rw [<-hb];exact aY.tail⟩
section
variable {P:Program} {N:Nat} {e:Env} {w:aa}
end
section
variable{t t':ae}
variable {P:Program} {N:Nat} {ops:Array Oper} {K:Env->aa->Prop} {rest:List Oper} {e:Env} {w0 w w':aa} {ks:List Ck} {d:Nat} {ty:ae} {pos:String} {af:Array Edge}
theorem DU{Q:jD}{c:ag}{x y:Code}{p:Prop}[Decidable p](hc:ev e c= .bool (decide p))(hp:p)(h1:Cd P N x Q e w):Cd P N (.cond c x y) Q e w:= .gC (by rw [hc,dM hp]) h1
theorem nP{Q:jD}{c:ag}{x y:Code}{p:Prop}[Decidable p](hc:ev e c= .bool (decide p))(hp:¬p)(h1:Cd P N y Q e w):Cd P N (.cond c x y) Q e w:= .fC (by rw [hc,cj hp]) h1
theorem Ze(A:aj)(c:Nat):cutAt A c 0=A:=by
 unfold cutAt
 split
 ·rfl
 cases A<;>simp [ay,Addr.add]
theorem aey{vs fs:List ad}{l q:Nat}(hM:eK vs=false)(h1:∀u∈fs,u.oneCell'=true)(hq:l=0->fs≠[]:=by first | assumption | (intro _ hn;have:=aF List.length hn;simp at this;omega)):eK (vs.take l++fs++vs.drop q)=false:=by
 by_cases hl:l=0
 ·subst hl;rw [List.take_zero,List.nil_append];exact Bl (xN h1) (hq O)
 ·cases vs with
  | nil=>simp only [List.take_nil,List.drop_nil,List.nil_append,fj];exact xN h1
  | cons v r=>
   obtain⟨m,rfl⟩:∃m,l=m+1:=⟨l - 1,by omega⟩;cases v<;>simp_all [eK]
theorem aiO{el:ae}{z:ad}{b:Nat}[hU:bt P t (.slice el)][bq P el z 1 b]{k:Ck}(i l:Nat)(hS:St w0 w ks)(hk:ks[i]?=some k)(hM:eK k.vs=false)(hl:l<=k.n){A':aj}{m dc c':Nat}{f:Nat->ad}(hR:Rd w A' m f)(h1:∀j,j<m->(f j).oneCell'=true)(ty:ae)(q:Nat)(hq:q=min m (k.n - l)):
 ∃w',(Builtin.copy_ #[t,t'] ty #[.slice (cutAt k.A k.c l) (k.n - l) dc,.slice A' m c']).run P w= .ok (ak q) w'/\St w0 w' (ks.set i { k with vs:=k.vs.take l++ (List.range q).map f++k.vs.drop (l+q) }):=by
 obtain⟨inf,hi,dU,hs,gI⟩:=bq.get P el;have AV:=hS.pU hk hM;obtain⟨Iy,xA,pq,h4⟩:=AV;have xv:=(gm.1 hk).1;have vp:(P.info? el).map (·.size)=some 1:=by simp [hi,hs]
 by_cases Mq:q=0
 ·have hr:=run_copy_none (P:=P) w t t' ty el (cutAt k.A k.c l) A' (k.n - l) dc m c' hU.out vp (by show min m (k.n - l)=0;omega);refine⟨w,by rw [hr,Mq];rfl,?_⟩;have h5:({ k with vs:=k.vs.take l++ (List.range q).map f++k.vs.drop (l+q) }:Ck)=k:=by subst Mq;simp [List.take_append_drop]
  have:ks.set i { k with vs:=k.vs.take l++ (List.range q).map f++k.vs.drop (l+q) }=ks:=by
   rw [h5];apply List.ext_getElem?;intro j;rw [mI]
   split
   ·rename_i e;subst e;rw [hk]
    try simp [xv]
   rfl
  rw [this];exact hS
 obtain⟨a,rfl⟩:∃a,A'=some a:=by
  obtain⟨p,hp,_⟩:=hR 0 (by omega);cases A' with | none=>simp [ay]at hp | some q=>exact⟨q,rfl⟩
 rcases h4 with⟨hA,h0⟩ | ⟨g,o,cur,hA,hg,hh,lN,hc⟩
 ·omega
 have hD:cutAt k.A k.c l=some ⟨g,o+l,none⟩:=by
  unfold cutAt;rw [az (by omega),hA];simp [ay,zQ]
 have gJ:((List.range q).map f).length=q:=by simp
 have tu:∀j v,((List.range q).map f)[j]?=some v->w.cell? (a.add j)=some v:=by
  intro j v hj;have yT:j<q:=by have:=(gm.1 hj).1;simpa using this
  obtain⟨p,hp,hc⟩:=hR j (by omega);simp only [ay,Option.map_some,mJ]at hp;rw [hp,hc,<-hj];simp [yT]
 have uZ:∀u∈(List.range q).map f,u.oneCell'=true:=by
  intro u hu;obtain⟨j,hj,rfl⟩:=dA.1 hu;have LZ:j<q:=by simpa using hj
  exact h1 j (by omega)
 have hr:=run_copy_row (P:=P) w t t' ty el g (o+l) (k.n - l) dc a m c' cur k.e ((List.range q).map f) hU.out vp hh (by rw [gJ,hq]) tu (by rw [gJ];omega) uZ;rw [gJ]at hr;rw [hD];refine⟨w.setRow g (cur.toList.take (o+l)++ (List.range q).map f++cur.toList.drop (o+l+q)).toArray,hr,hS.turn (k:=k) (k':= { k with vs:=k.vs.take l++ (List.range q).map f++k.vs.drop (l+q) }) (g:=g) hk (by simp [Ck.gS,hA]) (by simp [Ck.gS,hA]) ⟨⟨O,O,O,by simp,fun x _ hx=>setRow_other w g x _ (fun e=>hx (by rw [e]))⟩,bs _⟩ ?_⟩;refine .qo (aey hM uZ) ⟨by simp [Iy];omega,xA,pq,.inr ⟨g,o,_,hA,hg,setRow_heap w g cur _ k.e _ hh,?_,fun j hj=>?_⟩⟩
 ·simp;omega
 have gX:j<k.n:=hj;have dh:cur.toList.length=cur.size:=by simp
 show((cur.toList.take (o+l)++ (List.range q).map f++cur.toList.drop (o+l+q)).toArray)[o+j]?=(k.vs.take l++ (List.range q).map f++k.vs.drop (l+q))[j]?;rw [List.getElem?_toArray,gx,gx]
 by_cases lK:j<l
 ·rw [lz (by simp;omega),rK,aB (by omega),lz (by simp;omega),rK,aB lK,Array.getElem?_toList];exact hc j gX
 have e1:o+j - (cur.toList.take (o+l)).length=j - l:=by simp;omega
 have e2:j - (k.vs.take l).length=j - l:=by simp;omega
 have e3:(cur.toList.take (o+l)++ ((List.range q).map f++cur.toList.drop (o+l+q)))[o+j]?=((List.range q).map f++cur.toList.drop (o+l+q))[j - l]?:=by
  rw [kD (by simp;omega),e1]
 have e4:(k.vs.take l++ ((List.range q).map f++k.vs.drop (l+q)))[j]?=((List.range q).map f++k.vs.drop (l+q))[j - l]?:=by
  rw [kD (by simp;omega),e2]
 rw [e3,e4]
 by_cases LZ:j - l<q
 ·rw [lz (by simpa using LZ),lz (by simpa using LZ)]
 rw [kD (by rw [gJ];omega),kD (by rw [gJ];omega),gJ,List.getElem?_drop,List.getElem?_drop,Array.getElem?_toList,show o+l+q+ (j - l - q)=o+j by omega,show l+q+ (j - l - q)=j by omega];exact hc j gX
theorem O0{el:ae}{z:ad}{b:Nat}[hU:bt P t (.slice el)][bq P el z 1 b]{x y:ag}{k:Ck}(i l:Nat){A':aj}{m dc c':Nat}{f:Nat->ad}(q:Nat)(hS:St w0 w ks)(hk:ks[i]?=some k)(hR:Rd w A' m f)(hl:l<=k.n)(hx:ev e x= .slice (cutAt k.A k.c l) (k.n - l) dc)(hy:ev e y= .slice A' m c')(h1:∀j,j<m->(f j).oneCell'=true)(hq:q=min m (k.n - l))(hb:Nat.blt d N=true)(hK:∀w',St w0 w' (ks.set i { k with vs:=k.vs.take l++ (List.range q).map f++k.vs.drop (l+q) })->ao P N ops K rest (br e d (ak q)) w')(hM:eK k.vs=false:=by first | rfl | exact uA _ | exact Fv _ | exact xM _):
 ao P N ops K (⟨some d,.call ⟨.builtin .copy, #[x,y], #[t,t']⟩,ty,pos,af,none⟩::rest) e w:=by
 obtain⟨w',hr,km⟩:=aiO (P:=P) (t:=t) (t':=t') (dc:=dc) (c':=c') i l hS hk hM hl hR h1 ty q hq;refine .val (w':=w') ?_ hb (hK _ km);simp [execOp,resolve,invoke,builtin,hx,hy,hr]
theorem Xo{x y:ag}{i j:Int}(hx:ev e x=ak i)(hy:ev e y=ak j)(hb:Nat.blt d N=true)(hK:ao P N ops K rest (br e d (ak (min i j))) w):
 ao P N ops K (⟨some d,.call ⟨.builtin .min, #[x,y], #[t,t']⟩,ty,pos,af,none⟩::rest) e w:=by
 have hm:(if j<i then j else i)=min i j:=by split<;>omega
 refine .val (w':=w) ?_ hb hK;simp [execOp,resolve,invoke,builtin,hx,hy,Builtin.min_,Builtin.min2,hm]
section
variable {x y:ag} {xt yt:ae} {i j:Int}
theorem zD(i:Int)(h:0<=i/\i<=18446744073709551615):IntKind.u64.wrap i=i:=by rw [IntKind.wrap_u64];omega
theorem Gi(r:Int)(hx:ev e x= .int .u64 i)(hy:ev e y= .int .u64 j)(hb:Nat.blt d N=true)(he:i+j=r)(hr:0<=r/\r<=18446744073709551615)(hK:ao P N ops K rest (br e d (.int .u64 r)) w):
 ao P N ops K (⟨some d,.binOp .add xt x y yt,ty,pos,af,none⟩::rest) e w:=
 .val (by simp [execOp,hx,hy,eqGuard,binOp,Op.intArith,he,zD _ hr]) hb hK
theorem D3(r:Int)(hx:ev e x= .int .u64 i)(hy:ev e y= .int .u64 j)(hb:Nat.blt d N=true)(he:i*j=r)(hr:0<=r/\r<=18446744073709551615)(hK:ao P N ops K rest (br e d (.int .u64 r)) w):
 ao P N ops K (⟨some d,.binOp .mul xt x y yt,ty,pos,af,none⟩::rest) e w:=
 .val (by simp [execOp,hx,hy,eqGuard,binOp,Op.intArith,he,zD _ hr]) hb hK
theorem JA(r:Int)(hx:ev e x= .int .u64 i)(hy:ev e y= .int .u64 4294967295)(hb:Nat.blt d N=true)(hr:0<=i/\i<=18446744073709551615)(he:i%4294967296=r)(hK:ao P N ops K rest (br e d (.int .u64 r)) w):
 ao P N ops K (⟨some d,.binOp .and xt x y yt,ty,pos,af,none⟩::rest) e w:=by
 subst he;obtain⟨a,rfl⟩:∃a:Nat,i=a:=⟨i.toNat,by omega⟩;have h:=Mul64.maskN a (by omega);rw [show((a%4294967296:Nat):Int)=(a:Int)%4294967296 by omega]at h;refine .val ?_ hb hK;simp only [execOp,hx,hy,eqGuard,binOp,intBits_and,h];simp
theorem D6(r:Int)(hx:ev e x= .int .u64 i)(hy:ev e y= .int .u64 32)(hb:Nat.blt d N=true)(hr:0<=i)(he:i / 4294967296=r)(hK:ao P N ops K rest (br e d (.int .u64 r)) w):
 ao P N ops K (⟨some d,.binOp .shr xt x y yt,ty,pos,af,none⟩::rest) e w:=by
 subst he;refine .val ?_ hb hK;have e1:min 32 IntKind.u64.bits=32:=by decide
 have e2:i.fdiv (2^32)=i / 4294967296:=by rw [Int.fdiv_eq_ediv_of_nonneg _ (by decide)];rfl
 have Zy:i.fdiv 4294967296=i / 4294967296:=e2;simp [execOp,hx,hy,eqGuard,binOp,Op.shift,e1,Zy]
theorem sY{k k':IntKind}[bt P yt (.int k')](hx:ev e x= .int k i)(hb:Nat.blt d N=true)(hw:k'.wrap i=i){u:TypeDesc}[bt P xt u](hK:ao P N ops K rest (br e d (.int k' i)) w):
 ao P N ops K (⟨some d,.convert xt yt x,ty,pos,af,none⟩::rest) e w:=
 .val (by simp [execOp,hx,convert,run_underlying (bt.out (P:=P) (t:=xt)),run_underlying (bt.out (P:=P) (t:=yt)),Conv.intToInt,hw]) hb hK
end
end
def jq(l:List Oper):List Nat:=l.filterMap (·.dst)
theorem Ky{α β:Type}(f:α->Option β):∀(l:List α),(l.filterMap f).Nodup->∀(i j:Nat) (a b:α) (d:β),l[i]?=some a->l[j]?=some b->f a=some d->f b=some d->i=j
 | [],_,i,j,a,b,d,hi,_,_,_=>by simp at hi
 | x::l,hn,i,j,a,b,d,hi,hj,ha,hb=>by
  have mem:∀(k:Nat) (c:α),l[k]?=some c->f c=some d->d∈l.filterMap f:=fun k c hk hc=>List.mem_filterMap.2 ⟨c,List.mem_of_getElem? hk,hc⟩
  cases hx:f x with
  | none=>
   rw [List.filterMap_cons,hx]at hn;cases i with
   | zero=>simp at hi;subst hi;rw [hx]at ha;cases ha
   | succ i=>
    cases j with
    | zero=>simp at hj;subst hj;rw [hx]at hb;cases hb
    | succ j=>rw [Ky f l hn i j a b d (by simpa using hi) (by simpa using hj) ha hb]
  | some y=>
   rw [List.filterMap_cons,hx]at hn;simp only [lU]at hn;cases i with
   | zero=>
    simp at hi;subst hi;rw [hx]at ha;cases ha;cases j with
    | zero=>rfl
    | succ j=>exact absurd (mem j b (by simpa using hj) hb) hn.1
   | succ i=>
    cases j with
    | zero=>
     simp at hj;subst hj;rw [hx]at hb;cases hb;exact absurd (mem i a (by simpa using hi) ha) hn.1
    | succ j=>rw [Ky f l hn.2 i j a b d (by simpa using hi) (by simpa using hj) ha hb]
def valOf(o:Oper)(e:Env):ad:=match o.dst with
 | some d=>e d
 | none=>undef
def TT:Yd->Bool
 | .ex _=>true
 | .pr _=>false
def IP(l:List Oper)(ms:List Nat)(k:Nat):Nat:=ms.countP fun m=>jE l l.length k m
def C7(l:List Oper)(ms:List Nat)(k:Nat):Nat:=ms.countP fun m=>!(jE l l.length m k) && !(Nat.beq m k)
def mA(l:List Oper)(ms:List Nat)(k:Nat):Nat:=ms.countP fun m=>Nat.beq m k || jE l l.length k m
def Cu(l:List Oper)(ms:List Nat)(m:Nat):Bool:=ms.all fun m'=>Nat.beq m' m || jE l l.length m m' || jE l l.length m' m
def Yd.at_(c ph:Nat):Yd->ad->aa->Prop
 | .ex v,u,_=>u=v
 | .pr p,u,w=>c=ph->p u w
theorem qn{a b c:Nat}(h:c<=a)(e:a=b):c<=b:=e▸h
theorem cc_of{a b c d:Nat}(h:a<=c)(k:c<=d)(e:a=b:=by kernel_rfl)(f:d=b:=by kernel_rfl):c=b:=by omega
section
variable {P:Program} {N:Nat} {e:Env} {w:aa}
theorem Wp(e1:Env)(d:Nat)(v:ad):br e1 d v d=v:=by unfold br;rw [Nat.beq_refl];rfl
theorem Wq(e1:Env){d j:Nat}(v:ad)(h:j≠d):br e1 d v j=e1 j:=by
 have:Nat.beq j d=false:=by
  cases hb:Nat.beq j d with
  | false=>rfl
  | true=>exact absurd (oE hb) h
 unfold br;rw [this];rfl
theorem GR{ms:List Nat}{p q:Nat->Bool}(h:∀m∈ms,p m=true->q m=true):ms.countP p<=ms.countP q:=List.countP_mono_left h
end
inductive Ye where
 | ex (v:ad)
 | pr (p:ad->aa->Prop)
 | p2 (j:Nat) (p:ad->ad->aa->Prop)
 | al (q:ad->Prop) (p:ad->aa->Prop)
def vl(l:List Oper)(e:Env)(k:Nat):ad:=match l[k]? with
 | some o=>valOf o e
 | none=>undef
def Ye.holds(uu:Nat->ad):Ye->ad->aa->Prop
 | .ex v,u,_=>u=v
 | .pr p,u,w=>p u w
 | .p2 j p,u,w=>p (uu j) u w
 | .al q p,u,w=>q u/\p u w
def Ye.qY:Ye->Prop
 | .ex _=>True
 | .pr p=>∀v w w',p v w->Below w.heap.size w w'->p v w'
 | .p2 _ p=>∀a v w w',p a v w->Below w.heap.size w w'->p a v w'
 | .al _ p=>∀v w w',p v w->Below w.heap.size w w'->p v w'
theorem Ye.afH(v:ad):(Ye.ex v).qY:=True.intro
theorem ly{v:ad}{l:List Ye}(h:∀y∈l,y.qY):∀y∈Ye.ex v::l,y.qY:=de.2 ⟨True.intro,h⟩
theorem Ye.dp{p:ad->aa->Prop}(h:∀v w w',p v w->Below w.heap.size w w'->p v w'):(Ye.pr p).qY:=h
abbrev yU:Ye:= .ex undef
abbrev yI(i:Int):Ye:= .ex (ak i)
abbrev yB(b:Bool):Ye:= .ex (.bool b)
abbrev yP(a:aj):Ye:= .ex (.pointer a)
abbrev yS(a:aj)(n c:Nat):Ye:= .ex (.slice a n c)
theorem O8{j:Nat}{p:ad->ad->aa->Prop}(h:∀a v w w',p a v w->Below w.heap.size w w'->p a v w'):(Ye.p2 j p).qY:=h
theorem XI{q:ad->Prop}{p:ad->aa->Prop}(h:∀v w w',p v w->Below w.heap.size w w'->p v w'):(Ye.al q p).qY:=h
def MW:Ye->Bool
 | .ex _=>true
 | .pr _=>false
 | .p2 ..=>false
 | .al ..=>false
def Qp(N:Nat)(l:List Oper)(ys:List Ye)(ms:List Nat):Bool:=
 l.all (fun o=>match o.dst with | some d=>Nat.blt d N | none=>true) && decide ((jq l).Nodup) && (l.zipIdx.all fun p=> (fB p.1).all fun ed=>Nat.blt ed.on p.2) && Nat.beq l.length ys.length && (l.zip ys).all (fun p=>p.1.dst.isSome || !MW p.2) && decide ms.Nodup && ms.all (fun m=>Nat.blt m l.length) && (ys.zipIdx.all fun p=>!(MW p.1) || !(ms.contains p.2)) && (ys.zipIdx.all fun p=>match p.1 with | .p2 j _=>jE l l.length p.2 j && Nat.blt j l.length | _=>true)
def Ye.at_(c ph:Nat)(uu:Nat->ad):Ye->ad->aa->Prop
 | .ex v,u,_=>u=v
 | .pr p,u,w=>c=ph->p u w
 | .p2 j p,u,w=>c=ph->p (uu j) u w
 | .al q p,u,w=>q u/\(c=ph->p u w)
def qH:List Oper->List Ye->(Nat->ad)->Nat->List (Nat×ad)
 | o::l,y::ys,u,i=>match o.dst,y with
  | some d,.ex v=> (d,v)::qH l ys u (i+1)
  | some d,.pr _=> (d,u i)::qH l ys u (i+1)
  | some d,.p2 ..=> (d,u i)::qH l ys u (i+1)
  | some d,.al ..=> (d,u i)::qH l ys u (i+1)
  | none,_=>qH l ys u (i+1)
 | _,_,_,_=> []
def n4(l:List Oper)(ys:List Ye):List Edge->List (Nat×ad)
 | []=> []
 | ed::r=>match ys[ed.on]?,(l[ed.on]?).bind (·.dst)with
  | some (.ex v),some d=> (d,v)::n4 l ys r
  | _,_=>n4 l ys r
section
variable{o:Oper}{y:Ye}{w1 w2:aa}{d i id:Nat}{l:List Oper}{ys:List Ye}{ms:List Nat}
variable {P:Program} {N:Nat} {e:Env} {w:aa}
def fN(o:Oper)(y:Ye)(uu:Nat->ad)(e1:Env)(w1:aa):Env->aa->Prop:=fun e2 w2=>Below w1.heap.size w1 w2/\y.holds uu (valOf o e2) w2/\∀j,o.dst≠some j->e2 j=e1 j
def fY(o:Oper)(y:Ye)(uu:Nat->ad)(e1:Env):Env->aa->Prop:=fun e2 w2=>y.holds uu (valOf o e2) w2/\∀j,o.dst≠some j->e2 j=e1 j
theorem fN.dn{uu:Nat->ad}{e1:Env}{v:ad}(hd:o.dst=some d)(hb:Below w1.heap.size w1 w2)(hv:y.holds uu v w2):fN o y uu e1 w1 (br e1 d v) w2:=by
 refine⟨hb,?_,fun j hj=>Wq e1 v (fun h=>hj (by rw [hd,h]))⟩;unfold valOf;rw [hd];show y.holds uu (br e1 d v d) w2;rw [Wp];exact hv
theorem iN{uu:Nat->ad}{e1:Env}{v:ad}(hd:o.dst=some d)(hv:y.holds uu v w1):fN o y uu e1 w1 (br e1 d v) w1:=fN.dn hd (Below.refl _ _) hv
theorem fY.dn{uu:Nat->ad}{e1:Env}{v:ad}(hd:o.dst=some d)(hv:y.holds uu v w2):fY o y uu e1 (br e1 d v) w2:=by
 refine⟨?_,fun j hj=>Wq e1 v (fun h=>hj (by rw [hd,h]))⟩;unfold valOf;rw [hd];show y.holds uu (br e1 d v d) w2;rw [Wp];exact hv
theorem fY.st{uu:Nat->ad}{e1:Env}(hd:o.dst=none)(hv:y.holds uu undef w2):fY o y uu e1 e1 w2:=by
 refine⟨?_,fun j _=>O⟩;unfold valOf;rw [hd];exact hv
def ym(P:Program)(N:Nat)(l:List Oper)(ys:List Ye)(ms:List Nat)(e:Env)(w:aa)(i:Nat)(o:Oper):Prop:=
 ∀(e1:Env) (w1:aa) (c:Nat),IP l ms i<=c->c<=C7 l ms i->(c=0->Below w.heap.size w w1)->(∀(j:Nat) (y:Ye) (o':Oper),jE l l.length i j=true->ys[j]?=some y->l[j]?=some o'->y.at_ c (mA l ms j) (vl l e1) (valOf o' e1) w1)->(∀(j:Nat) (o':Oper),l[j]?=some o'->jE l l.length j i=true->valOf o' e1=valOf o' e)->(∀(m:Nat) (y:Ye) (o':Oper),gK ms m=true->Cu l ms m=true->mA l ms m=c->ys[m]?=some y->l[m]?=some o'->y.at_ c (mA l ms m) (vl l e1) (valOf o' e1) w1)->
  bif gK ms i then ao P N l.toArray (fY o (ys.getD i (.pr fun _ _=>True)) (vl l e1) (ext (mix e1 e (jq l)) (n4 l ys (fB o)))) [o] (ext (mix e1 e (jq l)) (n4 l ys (fB o))) w1
  else ao P N l.toArray (fN o (ys.getD i (.pr fun _ _=>True)) (vl l e1) (ext (mix e1 e (jq l)) (n4 l ys (fB o))) w1) [o] (ext (mix e1 e (jq l)) (n4 l ys (fB o))) w1
theorem WK{ops:Array Oper}{uu:Nat->ad}{e1:Env}{v:ad}(h:vD ops N e1 o=some (d,v))(hv:y.holds uu v w1):ao P N ops (fN o y uu e1 w1) [o] e1 w1:= .vD h (fN.dn (V4 h) (Below.refl _ _) hv)
theorem bE{ops:Array Oper}{uu:Nat->ad}{e1:Env}{v:ad}(hd:o.dst=some d)(hv:y.holds uu v w1):ao P N ops (fN o y uu e1 w1) [] (br e1 d v) w1:=ao.n (fN.dn hd (Below.refl _ _) hv)
theorem bT{v:ad}(h:((gK ms i,(ys.getD i (.pr fun _ _=>True))),fun e1=>vD l.toArray N (ext (mix e1 e (jq l)) (n4 l ys (fB o))) o)=((false,.ex v),fun _=>some (d,v))):ym P N l ys ms e w i o:=fun e1 w1 c _ _ _ _ _ _=>by
 have h1:=congrFun (Prod.mk.inj h).2 e1;rw [(Prod.mk.inj (Prod.mk.inj h).1).1,(Prod.mk.inj (Prod.mk.inj h).1).2];exact WK h1 O
theorem cP(h:∀(e1:Env) (w1:aa),Below w.heap.size w w1->(∀(j:Nat) (y:Ye) (o':Oper),jE l l.length i j=true->ys[j]?=some y->l[j]?=some o'->y.at_ 0 (mA l ms j) (vl l e1) (valOf o' e1) w1)->(∀(j:Nat) (o':Oper),l[j]?=some o'->jE l l.length j i=true->valOf o' e1=valOf o' e)->(∀(m:Nat) (y:Ye) (o':Oper),gK ms m=true->Cu l ms m=true->mA l ms m=0->ys[m]?=some y->l[m]?=some o'->y.at_ 0 (mA l ms m) (vl l e1) (valOf o' e1) w1)->
 ao P N l.toArray (fN o (ys.getD i (.pr fun _ _=>True)) (vl l e1) (ext (mix e1 e (jq l)) (n4 l ys (fB o))) w1) [o] (ext (mix e1 e (jq l)) (n4 l ys (fB o))) w1) (ht:gK ms i=false:=by kernel_rfl) (hh:C7 l ms i=0:=by kernel_rfl):ym P N l ys ms e w i o:=fun e1 w1 c _ dt hb hp aW hq=>by
 obtain rfl:c=0:=by omega
 rw [ht];exact h e1 w1 (hb rfl) hp aW hq
theorem kG(h:∀(e1:Env) (w1:aa),Below w.heap.size w w1->(∀(j:Nat) (y:Ye) (o':Oper),jE l l.length i j=true->ys[j]?=some y->l[j]?=some o'->y.at_ 0 (mA l ms j) (vl l e1) (valOf o' e1) w1)->(∀(j:Nat) (o':Oper),l[j]?=some o'->jE l l.length j i=true->valOf o' e1=valOf o' e)->(∀(m:Nat) (y:Ye) (o':Oper),gK ms m=true->Cu l ms m=true->mA l ms m=0->ys[m]?=some y->l[m]?=some o'->y.at_ 0 (mA l ms m) (vl l e1) (valOf o' e1) w1)->
 ao P N l.toArray (fY o (ys.getD i (.pr fun _ _=>True)) (vl l e1) (ext (mix e1 e (jq l)) (n4 l ys (fB o)))) [o] (ext (mix e1 e (jq l)) (n4 l ys (fB o))) w1) (ht:gK ms i=true:=by kernel_rfl) (hh:C7 l ms i=0:=by kernel_rfl):ym P N l ys ms e w i o:=fun e1 w1 c _ dt hb hp aW hq=>by
 obtain rfl:c=0:=by omega
 rw [ht];exact h e1 w1 (hb rfl) hp aW hq
theorem dP(b:Nat)(h:∀(e1:Env) (w1:aa),(∀(j:Nat) (y:Ye) (o':Oper),jE l l.length i j=true->ys[j]?=some y->l[j]?=some o'->y.at_ b (mA l ms j) (vl l e1) (valOf o' e1) w1)->(∀(j:Nat) (o':Oper),l[j]?=some o'->jE l l.length j i=true->valOf o' e1=valOf o' e)->(∀(m:Nat) (y:Ye) (o':Oper),gK ms m=true->Cu l ms m=true->mA l ms m=b->ys[m]?=some y->l[m]?=some o'->y.at_ b (mA l ms m) (vl l e1) (valOf o' e1) w1)->
 ao P N l.toArray (fN o (ys.getD i (.pr fun _ _=>True)) (vl l e1) (ext (mix e1 e (jq l)) (n4 l ys (fB o))) w1) [o] (ext (mix e1 e (jq l)) (n4 l ys (fB o))) w1) (ht:gK ms i=false:=by kernel_rfl) (hl:IP l ms i=b:=by kernel_rfl) (hh:C7 l ms i=b:=by kernel_rfl):ym P N l ys ms e w i o:=fun e1 w1 c eZ dt _ hp aW hq=>by
 obtain rfl:c=b:=by omega
 rw [ht];exact h e1 w1 hp aW hq
theorem rU(b:Nat)(h:∀(e1:Env) (w1:aa),(∀(j:Nat) (y:Ye) (o':Oper),jE l l.length i j=true->ys[j]?=some y->l[j]?=some o'->y.at_ b (mA l ms j) (vl l e1) (valOf o' e1) w1)->(∀(j:Nat) (o':Oper),l[j]?=some o'->jE l l.length j i=true->valOf o' e1=valOf o' e)->(∀(m:Nat) (y:Ye) (o':Oper),gK ms m=true->Cu l ms m=true->mA l ms m=b->ys[m]?=some y->l[m]?=some o'->y.at_ b (mA l ms m) (vl l e1) (valOf o' e1) w1)->
 ao P N l.toArray (fY o (ys.getD i (.pr fun _ _=>True)) (vl l e1) (ext (mix e1 e (jq l)) (n4 l ys (fB o)))) [o] (ext (mix e1 e (jq l)) (n4 l ys (fB o))) w1) (ht:gK ms i=true:=by kernel_rfl) (hl:IP l ms i=b:=by kernel_rfl) (hh:C7 l ms i=b:=by kernel_rfl):ym P N l ys ms e w i o:=fun e1 w1 c eZ dt _ hp aW hq=>by
 obtain rfl:c=b:=by omega
 rw [ht];exact h e1 w1 hp aW hq
theorem aP(h:∀(e1:Env) (w1:aa),ao P N l.toArray (fN o (ys.getD i (.pr fun _ _=>True)) (vl l e1) (ext (mix e1 e (jq l)) (n4 l ys (fB o))) w1) [o] (ext (mix e1 e (jq l)) (n4 l ys (fB o))) w1)(ht:gK ms i=false:=by kernel_rfl):ym P N l ys ms e w i o:=fun e1 w1 c _ _ _ _ _ _=>by
 rw [ht];exact h e1 w1
def Ea(P:Program)(N:Nat)(l:List Oper)(ys:List Ye)(ms:List Nat)(e:Env)(w:aa):Nat->List Oper->Prop
 | _,[]=>True
 | i,o::r=>ym P N l ys ms e w i o/\Ea P N l ys ms e w (i+1) r
theorem Ea.get:∀ {r:List Oper} {i:Nat},Ea P N l ys ms e w i r->∀k o,r[k]?=some o->ym P N l ys ms e w (i+k) o
 | [],_,_,k,o,hk=>by simp at hk
 | x::r,i,h,0,o,hk=>by simp at hk;subst hk;exact h.1
 | x::r,i,h,k+1,o,hk=>by
  have:=Ea.get h.2 k o (by simpa using hk);rw [show i+1+k=i+ (k+1) by omega]at this;exact this
theorem Ql{l:List Oper}{ys:List Ye}{e1:Env}:∀(af:List Edge),(∀ed∈af,∀(v:ad) (o':Oper),ys[ed.on]?=some (.ex v)->l[ed.on]?=some o'->valOf o' e1=v)->Mt e1 (n4 l ys af)
 | [],_=>au
 | ed::r,h=>by
  have hr:=Ql r (fun x hx=>h x (qC _ hx));unfold n4
  split
  ·rename_i v d hy hd;refine⟨?_,hr⟩;cases ho:l[ed.on]? with
   | none=>rw [ho]at hd;cases hd
   | some o'=>
    rw [ho]at hd;have oi:o'.dst=some d:=hd;have:=h ed (by simp) v o' hy ho;unfold valOf at this;rw [oi]at this;exact this
  ·exact hr
theorem Qw{e1 e:Env}:∀(l:List Oper) (ys:List Ye) (i:Nat),l.length=ys.length->(jq l).Nodup->(∀(k:Nat) (v:ad) (o:Oper),ys[k]?=some (.ex v)->l[k]?=some o->valOf o e1=v\/o.dst=none)->
 ∃u:Nat->ad,ext e (qH l ys u i)=mix e1 e (jq l)/\(∀(k:Nat) (o:Oper),l[k]?=some o->u (i+k)=valOf o e1)
 | [],[],i,_,_,_=> ⟨fun _=>undef,by funext j;rfl,fun k o h=>by simp at h⟩
 | [],y::ys,i,hl,_,_=>by simp at hl
 | o::l,[],i,hl,_,_=>by simp at hl
 | o::l,y::ys,i,hl,hn,h=>by
  have AP:(jq l).Nodup:=by
   unfold jq at hn|-;rw [List.filterMap_cons]at hn
   split at hn
   ·exact hn
   ·exact(lU.1 hn).2
  obtain⟨u,hu,kr⟩:=Qw (e1:=e1) (e:=e) l ys (i+1) (by simpa using hl) AP (fun k v o' hy ho=>h (k+1) v o' (by simpa using hy) (by simpa using ho));have Kc:∀(l:List Oper) (ys:List Ye) (i:Nat) (u u':Nat->ad),(∀k,i<=k->u k=u' k)->qH l ys u i=qH l ys u' i:=by
   intro l
   induction l with
   | nil=>intros;rfl
   | cons o l ih=>
    intro ys i u u' hk;cases ys with
    | nil=>rfl
    | cons y ys=>
     have h1:=ih ys (i+1) u u' (fun k eQ=>hk k (by omega));simp only [qH];rw [h1,hk i (by omega)]
  have hc:=Kc l ys (i+1) (fun k=>if k=i then valOf o e1 else u k) u (fun k hk=>by show(if k=i then _ else _)=_;rw [az (by omega)]);refine⟨fun k=>if k=i then valOf o e1 else u k,?_,fun k o' hk=>?_⟩
  ·cases hd:o.dst with
   | none=>
    have Kp:jq (o::l)=jq l:=by unfold jq;rw [List.filterMap_cons,hd]
    simp only [qH,hd,hc,hu,Kp]
   | some d=>
    have Kp:jq (o::l)=d::jq l:=by unfold jq;rw [List.filterMap_cons,hd]
    have vt:valOf o e1=e1 d:=by unfold valOf;rw [hd]
    have oW:∀v,v=e1 d->br (mix e1 e (jq l)) d v=mix e1 e (d::jq l):=by
     intro v hv;funext j;simp only [br,mix,gK];cases hb:Nat.beq j d with
     | true=>rw [oE hb,hv];rfl
     | false=>rfl
    rw [Kp];cases y with
    | ex v=>
     have h0:=h 0 v o O O;simp only [qH,hd,ext,hc,hu];refine oW v ?_;rcases h0 with h0 | h0
     ·rw [<-h0,vt]
     ·rw [hd]at h0;cases h0
    | pr p=>
     simp only [qH,hd,ext,hc,hu,aB];exact oW _ vt
    | p2 j p=>
     simp only [qH,hd,ext,hc,hu,aB];exact oW _ vt
    | al q p=>
     simp only [qH,hd,ext,hc,hu,aB];exact oW _ vt
  ·cases k with
   | zero=>simp at hk;subst hk;simp
   | succ k=>
    have:=kr k o' (by simpa using hk);show(if i+ (k+1)=i then _ else u (i+ (k+1)))=_;rw [az (by omega),<-this];congr 1;omega
theorem amx{Q:jD}(ms:List Nat)(ys:List Ye)(hm:P.follows .mixedOrders=true)(dm:Qp N l ys ms=true)(Mb:∀y∈ys,y.qY)
 (MA:Ea P N l ys ms e w 0 l) (Ar:∀u w1,(ms=[]->Below w.heap.size w w1)->(∀(k:Nat) (p:ad->aa->Prop),ys[k]?=some (Ye.pr p)->mA l ms k=ms.length->p (u k) w1)->(∀(k j:Nat) (p:ad->ad->aa->Prop),ys[k]?=some (Ye.p2 j p)->mA l ms k=ms.length->p (u j) (u k) w1)->(∀(k:Nat) (q:ad->Prop) (p:ad->aa->Prop),ys[k]?=some (Ye.al q p)->q (u k)/\(mA l ms k=ms.length->p (u k) w1))->Q .normal (ext e (qH l ys u 0)) w1):Cd P N (.region id l.toArray true) Q e w:= .mk' fun a ha=>by
 simp only [Qp,Bool.and_eq_true,List.all_eq_true,lg]at dm;obtain⟨⟨⟨⟨⟨⟨⟨⟨h1,h2⟩,h3⟩,hlen⟩,ac9⟩,wc⟩,l6⟩,hmy⟩,jr⟩:=dm;have Mn:∀(k j:Nat) (p:ad->ad->aa->Prop),ys[k]?=some (.p2 j p)->jE l l.length k j=true/\j<l.length:=by
  intro k j p hk;have:=jr (.p2 j p,k) (by rw [List.mem_iff_getElem?];exact⟨k,by simp [hk]⟩);simpa [Nat.blt_eq]using this
 have xy:l.length=ys.length:=oE hlen;have xm:∀(i:Nat) (o:Oper),l[i]?=some o->∀ed∈fB o,ed.on<i:=by
  intro i o ho ed fV;have:=h3 (o,i) (by
   obtain⟨hi,HZ⟩:=gm.1 ho;rw [List.mem_iff_getElem?];exact⟨i,by simp [ho]⟩)
  simpa [Nat.blt_eq]using this ed fV
 have hdN:∀(i:Nat) (o:Oper) (d:Nat),l[i]?=some o->o.dst=some d->d<N:=by
  intro i o d ho hd;have:=h1 o (List.mem_of_getElem? ho);rw [hd]at this;simpa [Nat.blt_eq]using this
 have hexd:∀(i:Nat) (o:Oper) (v:ad),l[i]?=some o->ys[i]?=some (.ex v)->o.dst≠none:=by
  intro i o v ho hy hd;have:=ac9 (o,.ex v) (by
   rw [List.mem_iff_getElem?];exact⟨i,by rw [List.getElem?_zip_eq_some];exact⟨ho,hy⟩⟩)
  simp [hd,MW]at this
 refine wp_region_any hm ?_
 let qG:Array Bool->Nat:=fun listed=>ms.countP fun m=>listed.getD m false
 have key:∀(fuel:Nat) (listed:Array Bool) (a1:Act) (e1:Env) (w1:aa),jL N a1 e1->(qG listed=0->Below w.heap.size w w1)->(∀j,gK (jq l) j=false->e1 j=e j)->listed.size=l.length->
  (∀(i:Nat) (y:Ye) (o:Oper),listed.getD i false=true->ys[i]?=some y->l[i]?=some o->y.at_ (qG listed) (mA l ms i) (vl l e1) (valOf o e1) w1)->(∀(i:Nat) (o:Oper),listed.getD i false=true->l[i]?=some o->∀ed∈fB o,listed.getD ed.on false=true)->(∀(i:Nat) (o:Oper),listed.getD i false=false->l[i]?=some o->valOf o e1=valOf o e)->(l.length - fuel<=(List.range l.length).countP fun i=>listed.getD i false)->
  wpAny P .any l.toArray (low N Q) fuel listed a1 w1:=by
  have nA:∀(listed:Array Bool) (a1:Act) (e1:Env) (w1:aa),jL N a1 e1->(qG listed=0->Below w.heap.size w w1)->(∀j,gK (jq l) j=false->e1 j=e j)->
   (∀(i:Nat) (y:Ye) (o:Oper),listed.getD i false=true->ys[i]?=some y->l[i]?=some o->y.at_ (qG listed) (mA l ms i) (vl l e1) (valOf o e1) w1)->(∀i,i<l.length->listed.getD i false=true)->low N Q .normal a1 w1:=by
   intro listed a1 e1 w1 hr hb oL hS eJ;have oh:qG listed=ms.length:=by
    show ms.countP _=ms.length;rw [List.countP_eq_length];intro m AL;exact eJ m (by simpa [Nat.blt_eq]using l6 m AL)
   obtain⟨u,hu,kr⟩:=Qw (e1:=e1) (e:=e) l ys 0 xy h2 (fun k v o hy ho=> .inl (hS k _ o (eJ k (gm.1 ho).1) hy ho));refine⟨e1,hr,?_⟩;have:=Ar u w1 (fun h0=>hb (by rw [oh,h0];rfl)) (fun k p hk eN=>by
    have kK:k<l.length:=by rw [xy];exact(gm.1 hk).1
    have h5:=hS k _ l[k] (eJ k kK) hk (fZ kK);have h6:=kr k l[k] (fZ kK);rw [Nat.zero_add]at h6;rw [h6];exact h5 (by rw [oh,eN])) (fun k j p hk eN=>by
    have kK:k<l.length:=by rw [xy];exact(gm.1 hk).1
    have hj:=Mn k j p hk;have h5:=hS k _ l[k] (eJ k kK) hk (fZ kK);have h6:=kr k l[k] (fZ kK);have h7:=kr j l[j] (fZ hj.2);rw [Nat.zero_add]at h6 h7;have h8:vl l e1 j=valOf l[j] e1:=by unfold vl;rw [List.getElem?_eq_getElem hj.2]
    rw [h6,h7,<-h8];exact h5 (by rw [oh,eN])) (fun k q p hk=>by
    have kK:k<l.length:=by rw [xy];exact(gm.1 hk).1
    have h5:=hS k _ l[k] (eJ k kK) hk (fZ kK);have h6:=kr k l[k] (fZ kK);rw [Nat.zero_add]at h6;rw [h6];exact⟨h5.1,fun eN=>h5.2 (by rw [oh,eN])⟩)
   rw [hu,IU oL]at this;exact this
  have Ff:∀(listed:Array Bool),listed.size=l.length->Region.ready .any l.toArray listed=[]->∀i,i<l.length->listed.getD i false=true:=by
   intro listed lN vk i
   induction i using Nat.strongRecOn with
   | _ i ih=>
    intro hi;cases yV:listed.getD i false with
    | true=>rfl
    | false=>
     exfalso;have:i∈Region.ready .any l.toArray listed:=by
      rw [mem_ready];refine⟨?_,l[i],by simp [hi],fun ed fV sk=>ih ed.on (xm i _ (fZ hi) ed (q9.2 ⟨fV,sk⟩)) (by have:=xm i _ (fZ hi) ed (q9.2 ⟨fV,sk⟩);omega)⟩;rw [iZ,rG (by omega)]at yV|-;exact yV
     rw [vk]at this;cases this
  intro fuel
  induction fuel with
  | zero=>
   intro listed a1 e1 w1 hr hb oL lN hS dh Bh oh;have eJ:∀i,i<l.length->listed.getD i false=true:=by
    have h4:(List.range l.length).countP (fun i=>listed.getD i false)=(List.range l.length).length:=by
     have:=List.countP_le_length (p:=fun i=>listed.getD i false) (l:=List.range l.length);simp at this oh|-;omega
    rw [List.countP_eq_length]at h4;intro i hi;exact h4 i (by simpa using hi)
   refine⟨?_,nA listed a1 e1 w1 hr hb oL hS eJ⟩;rw [List.eq_nil_iff_forall_not_mem];intro i hi;obtain⟨h5,o,ho,_⟩:=mem_ready.1 hi;have qf:i<l.length:=by
    rcases Nat.lt_or_ge i l.length with h | h
    ·exact h
    ·simp [mh h]at ho
   have h6:=eJ i qf;rw [iZ,rG (by omega)]at h5 h6;simp at h5 h6;rw [h5]at h6;cases h6
  | succ fuel ih=>
   intro listed a1 e1 w1 hr hb oL lN hS dh Bh oh;refine⟨fun vk=>nA listed a1 e1 w1 hr hb oL hS (Ff listed lN vk),fun i hi=>?_⟩;obtain⟨aW,o,ho,yM⟩:=mem_ready.1 hi;have iz:l[i]?=some o:=by simpa using ho
   have qf:i<l.length:=(gm.1 iz).1;have oU:∀ed∈fB o,listed.getD ed.on false=true:=fun ed fV=>yM ed (q9.1 fV).1 (q9.1 fV).2
   have ux:listed.getD i false=false:=by
    have h5:=aW;rw [iZ,rG (by omega)]at h5|-;exact h5
   have qe:∀k,(listed.setIfInBounds i true).getD k false=if k=i then true else listed.getD k false:=by
    intro k;rw [iZ,tM]
    by_cases fE:k=i
    ·subst fE;rw [aB rfl,aB (by omega),aB rfl];rfl
    ·rw [az (fun e=>fE e.symm),az fE,<-iZ]
   have eZ:IP l ms i<=qG listed:=GR fun m _ h=>JS dh iz oU _ _ h
   have dt:qG listed<=C7 l ms i:=GR fun m _ h=>by
    have bU:Nat.beq m i=false:=by
     cases hb:Nat.beq m i with
     | false=>rfl
     | true=>rw [oE hb,ux]at h;cases h
    have xl:jE l l.length m i=false:=by
     cases hb:jE l l.length m i with
     | false=>rfl
     | true=>have:=yn dh _ _ _ hb h;rw [ux]at this;cases this
    simp [bU,xl]
   have eN:∀(j:Nat),listed.getD j false=true->mA l ms j<=qG listed:=fun j hj=>GR fun m _ h=>by
    rw [Bool.or_eq_true]at h;rcases h with h | h
    ·rw [oE h];exact hj
    ·exact yn dh _ _ _ h hj
   have aw:=MA.get i o iz e1 w1 (qG listed);rw [Nat.zero_add]at aw;have aw:=aw eZ dt hb (fun j y o' xl hy wi=>hS j y o' (JS dh iz oU _ _ xl) hy wi) (fun j o' hj xl=>by
    refine Bh j o' ?_ hj;cases xz:listed.getD j false with
    | false=>rfl
    | true=>have:=yn dh _ _ _ xl xz;rw [ux]at this;cases this) (fun m y o' hm EP hphm hy S9=>by
    refine hS m y o' ?_ hy S9;cases SU:listed.getD m false with
    | true=>rfl
    | false=>
     exfalso;have h8:=Cz (fun k=>listed.getD k false) (fun k=>if k=m then true else listed.getD k false) m SU (fun k=>O) ms wc (zn.1 hm);have h9:ms.countP (fun k=>if k=m then true else listed.getD k false)<=mA l ms m:=GR fun m' iU h=>by
      by_cases e:m'=m
      ·rw [e,Nat.beq_refl];rfl
      ·rw [az e]at h;simp only [Cu,List.all_eq_true]at EP;have eV:=EP m' iU;cases jO:jE l l.length m m' with
       | true=>rw [Bool.or_true]
       | false=>
        rw [jO,Bool.or_false,Bool.or_eq_true]at eV;rcases eV with eV | eV
        ·exact absurd (oE eV) e
        ·have:=yn dh _ _ _ eV h;rw [SU]at this;cases this
     have CM:ms.countP (fun k=>listed.getD k false)=qG listed:=O;omega)
   rw [IU oL,yu (Ql (fB o) (fun ed fV v o' hy wi=>hS ed.on _ o' (oU ed fV) hy wi))]at aw
   let turns:Prop:=gK ms i=true
   let KK:Env->aa->Prop:=fun e2 w2=> (gK ms i=false->Below w1.heap.size w1 w2)/\(ys.getD i (.pr fun _ _=>True)).holds (vl l e1) (valOf o e2) w2/\∀j,o.dst≠some j->e2 j=e1 j
   have aec:∃K:Env->aa->Prop,(∀e2 w2,K e2 w2->KK e2 w2)/\ao P N l.toArray K [o] e1 w1:=by
    cases lM:gK ms i with
    | true=>
     rw [lM]at aw;exact⟨_,fun e2 w2 h=> ⟨fun h0=> (by rw [lM]at h0;cases h0),h.1,h.2⟩,aw⟩
    | false=>
     rw [lM]at aw;exact⟨_,fun e2 w2 h=> ⟨fun _=>h.1,h.2.1,h.2.2⟩,aw⟩
   obtain⟨K,sf,adO⟩:=aec;have l9:=adO.run a1 hr;have HN:qG (listed.setIfInBounds i true)=if gK ms i=true then qG listed+1 else qG listed:=by
    show ms.countP _=_
    by_cases lM:gK ms i=true
    ·rw [aB lM];exact Cz (fun m=>listed.getD m false) (fun m=> (listed.setIfInBounds i true).getD m false) i ux qe ms wc (zn.1 lM)
    ·rw [az lM];refine List.countP_congr fun m AL=>?_
     rw [qe,az (fun e=>lM (zn.2 (by rw [<-e];exact AL)))]
   have wg:∀a2 w2,(∃e2,jL N a2 e2/\K e2 w2)->wpAny P .any l.toArray (low N Q) fuel (listed.setIfInBounds i true) a2 w2:=by
    intro a2 w2 ⟨e2,qV,hK2⟩;obtain⟨mP,xJ,CZ⟩:=sf _ _ hK2;have Ml:∀(k:Nat) (o':Oper),l[k]?=some o'->k≠i->valOf o' e2=valOf o' e1:=by
     intro k o' dm fE;unfold valOf;cases hd:o'.dst with
     | none=>rfl
     | some d=>exact CZ d (fun h=>fE (Ky _ l h2 k i o' o d dm iz hd h))
    have Iy:∀j,j≠i->vl l e2 j=vl l e1 j:=by
     intro j hj;unfold vl;cases wi:l[j]? with
     | none=>rfl
     | some o'=>exact Ml j o' wi hj
    refine ih _ a2 e2 w2 qV (fun h0=>?_) (fun j hj=>?_) (by simpa using lN) (fun k y o' hk hy dm=>?_) (fun k o' hk dm ed fV=>?_) (fun k o' hk dm=>?_) ?_
    ·rw [HN]at h0
     by_cases lM:gK ms i=true
     ·rw [aB lM]at h0;omega
     ·rw [az lM]at h0;have:=mP (by simpa using lM);exact(hb h0).trans (this.mono (hb h0).size)
    ·have bU:o.dst≠some j:=by
      intro hd;have:gK (jq l) j=true:=by rw [zn];exact List.mem_filterMap.2 ⟨o,List.mem_of_getElem? iz,hd⟩
      rw [this]at hj;cases hj
     rw [CZ j bU];exact oL j hj
    ·by_cases fE:k=i
     ·subst fE;rw [iz]at dm;cases dm;have:ys.getD k (.pr fun _ _=>True)=y:=by simp [da,hy]
      rw [this]at xJ;cases y with
      | ex v=>exact xJ
      | pr p=>exact fun _=>xJ
      | p2 j p=>
       have hj:=Mn k j p hy;have xz:listed.getD j false=true:=JS dh iz oU _ _ hj.1;have ui:j≠k:=fun e=>by rw [e,ux]at xz;cases xz
       exact fun _=>by rw [Iy j ui];exact xJ
      | al q p=>exact⟨xJ.1,fun _=>xJ.2⟩
     ·have eQ:listed.getD k false=true:=by rw [qe,az fE]at hk;exact hk
      have h7:=hS k y o' eQ hy dm;rw [Ml k o' dm fE];cases y with
      | ex v=>exact h7
      | pr p=>
       intro hc;rw [HN]at hc
       by_cases lM:gK ms i=true
       ·rw [aB lM]at hc;have:=eN k eQ;omega
       ·rw [az lM]at hc;have hl:=Mb _ (List.mem_of_getElem? hy);exact hl _ _ _ (h7 hc) (mP (by simpa using lM))
      | p2 j p=>
       have hj:=Mn k j p hy;have xz:listed.getD j false=true:=yn dh _ _ _ hj.1 eQ;have ui:j≠i:=fun e=>by rw [e,ux]at xz;cases xz
       intro hc;rw [Iy j ui];rw [HN]at hc
       by_cases lM:gK ms i=true
       ·rw [aB lM]at hc;have:=eN k eQ;omega
       ·rw [az lM]at hc;have hl:=Mb _ (List.mem_of_getElem? hy);exact hl _ _ _ _ (h7 hc) (mP (by simpa using lM))
      | al q p=>
       refine⟨h7.1,fun hc=>?_⟩;rw [HN]at hc
       by_cases lM:gK ms i=true
       ·rw [aB lM]at hc;have:=eN k eQ;omega
       ·rw [az lM]at hc;have hl:=Mb _ (List.mem_of_getElem? hy);exact hl _ _ _ (h7.2 hc) (mP (by simpa using lM))
    ·rw [qe]
     by_cases yQ:ed.on=i
     ·rw [aB yQ]
     ·rw [az yQ]
      by_cases fE:k=i
      ·subst fE;rw [iz]at dm;cases dm;exact oU ed fV
      ·rw [qe,az fE]at hk;exact dh k o' hk dm ed fV
    ·rw [qe]at hk
     by_cases fE:k=i
     ·rw [aB fE]at hk;cases hk
     ·rw [az fE]at hk;rw [Ml k o' dm fE];exact Bh k o' hk dm
    ·have ER:(List.range l.length).countP (fun k=> (listed.setIfInBounds i true).getD k false)=(List.range l.length).countP (fun k=>listed.getD k false)+1:=
      Cz (fun k=>listed.getD k false) (fun k=> (listed.setIfInBounds i true).getD k false) i ux qe _ List.nodup_range (by simpa using qf)
     rw [ER];omega
   unfold wpOp;rw [ho];unfold wpList at l9;show if _ then _ else _
   by_cases hw:Region.wanted o (yielded l.toArray a1.tmps)=true
   ·rw [aB hw]at l9|-;rcases l9 with h5 | ⟨_,a0,w0,h5⟩
    ·refine .inl (Jz h5 (fun a2 w2 hx=>?_) (fun x a w hx hq=>hx hq.1));exact wg a2 w2 hx.2
    ·exact absurd h5.1 (by simp)
   ·rw [az hw]at l9|-;exact wg _ _ l9.2
 refine key l.length (Array.replicate l.length false) a e _ ha (fun _=> ⟨⟨O,O,O,bs _,fun _ _=>O⟩,fun _=>Nat.le_add_right _ _⟩) (fun _ _=>O) (by simp) (fun i y o hi=>?_) (fun i o hi=>?_) (fun _ _ _ _=>O) (by omega)
 ·exfalso;rw [iZ,Array.getElem?_replicate]at hi
  split at hi<;>simp at hi
 ·exfalso;rw [iZ,Array.getElem?_replicate]at hi
  split at hi<;>simp at hi
theorem kB{Q:jD}(ms:List Nat)(ys:List Ye)(Mb:∀y∈ys,y.qY)(MA:Ea P N l ys ms e w 0 l)(Ar:∀u w1,(ms=[]->Below w.heap.size w w1)->(∀(k:Nat) (p:ad->aa->Prop),ys[k]?=some (Ye.pr p)->mA l ms k=ms.length->p (u k) w1)->(∀(k j:Nat) (p:ad->ad->aa->Prop),ys[k]?=some (Ye.p2 j p)->mA l ms k=ms.length->p (u j) (u k) w1)->(∀(k:Nat) (q:ad->Prop) (p:ad->aa->Prop),ys[k]?=some (Ye.al q p)->q (u k)/\(mA l ms k=ms.length->p (u k) w1))->Q .normal (ext e (qH l ys u 0)) w1)(hm:P.follows .mixedOrders=true:=by kernel_rfl)(dm:Qp N l ys ms=true:=by kernel_rfl):Cd P N (.region id l.toArray true) Q e w:=amx ms ys hm dm Mb MA Ar
end
theorem WW(x y:Int)(w:aa)(hx:0<=x/\x<=1048576)(hy:0<=y/\y<=1048576):aK prog 247 [.int .u64 x,.int .u64 y] w (fun v w'=>v= .tuple #[.int .u64 0,.int .u64 (x*y)]/\w'=w):=by
 have jR:0<=x*y/\x*y<=1099511627776:=⟨Int.mul_nonneg hx.1 hy.1,Int.le_trans (Int.mul_le_mul hx.2 hy.2 hy.1 (by omega)) (by decide)⟩;have ex:x%4294967296=x:=by omega
 have ey:y%4294967296=y:=by omega
 have dx:x / 4294967296=0:=by omega
 have dy:y / 4294967296=0:=by omega
 refine bA func247 O ntmps247 O (x5 O) (bg O (JA (x) O O O (by omega) (by omega) (ar O (D6 (0) O O O (by omega) (by omega) (ar O (JA (y) O O O (by omega) (by omega) (ar O (D6 (0) O O O (by omega) (by omega) (ar O ?_)))))))));refine D3 (x*y) O O O (by simp) (by omega) ?_;refine ar O ?_;refine D3 (0) O O O (by simp) (by omega) ?_;refine ar O (D6 (x*y / 4294967296) O O O (by omega) (by omega) ?_);refine Gi (x*y / 4294967296) O O O (by simp) (by omega) ?_;refine ar O (JA (x*y / 4294967296) O O O (by omega) (by omega) (ar O (D6 (0) O O O (by omega) (by omega) (ar O ?_))));refine D3 (0) O O O (by simp) (by omega) ?_;refine Gi (x*y / 4294967296) O O O (by simp) (by omega) ?_;refine ar O ?_;refine D3 (0) O O O (by simp) (by omega) ?_;refine ar O ?_;refine Gi (0) O O O (by simp) (by omega) ?_;refine ar O (D6 (0) O O O (by omega) (by omega) ?_);refine Gi (0) O O O (by simp) (by omega) ?_;refine ar O ?_;refine D3 (x*y) O O O (by simp) (by omega) ?_;refine bI O (VA O O ?_);exact⟨O,O⟩
theorem WX(x y:Int)(w:aa)(hx:0<=x/\x<=1048576)(hy:0<=y/\y<=1048576):aK prog 192 [.int .u64 x,.int .u64 y] w (fun v w'=>v= .tuple #[.int .u64 0,.int .u64 (x*y)]/\w'=w):=by
 refine bA func192 O ntmps192 O (x5 O) (bJ O (Cd.fC O (aA O (aQ (WW x y w hx hy) O ?_))));rintro _ _ ⟨rfl,rfl⟩;refine bI O (VA O O ?_);exact⟨O,O⟩
def rep(a n:Nat)(x v:Int):ai:=List.replicate a x++List.replicate (n - a) v
theorem aiv{m n q:Nat}{x v:Int}(hm:m<=n)(hq:q<=n - m):((rep m n x v).map (Value.int .i64)).take m++ (List.range q).map (fun _=>Value.int .i64 x)++ ((rep m n x v).map (Value.int .i64)).drop (m+q)=(rep (m+q) n x v).map (Value.int .i64):=by
 have e1:(rep m n x v).map (Value.int .i64)=List.replicate m (Value.int .i64 x)++List.replicate (n - m) (Value.int .i64 v):=by simp [rep]
 have e2:(List.range q).map (fun _=>Value.int .i64 x)=List.replicate q (Value.int .i64 x):=by
  apply ki<;>simp
 rw [e1,e2,vK (by simp),List.drop_append];simp only [rep,iD,List.map_replicate,List.length_replicate,List.take_replicate,List.drop_replicate,Nat.min_self];rw [show m - (m+q)=0 by omega,show m+q - m=q by omega,show n - m - q=n - (m+q) by omega];simp
theorem JJ(A:aj)(c:Nat)(x:Int)(n:Nat)(w:aa)(hR:cg w A 1 [x])(hn:n<=1048576):
 aK prog 124 [.slice A 1 c,ak n] w (fun v w'=>∃A',v= .slice A' n n/\St w w' [ax 2 A' n n (List.replicate n x)]):=by
 refine bA func124 O ntmps124 O (df O) (bJ O (nP O (by omega) ?_));refine aA O (bc O O ?_);refine sY (i:=1) O O (by decide) (ar O (sY (i:=(n:Int)) O O (zD _ (by omega)) (aQ (WX 1 n _ (by omega) (by omega)) O ?_)));rintro _ w ⟨rfl,rfl⟩;rw [Int.one_mul];refine ar O (ao.gtr O O O (ar O ?_));refine ew 23 O (fun h=>absurd h (by decide)) (fun _=>?_);refine av O (ar O (av O (ao.gtr O O O (aC O ?_))));refine nP O (by omega) (aA O (sY (i:=(n:Int)) O O (IntWalk.i64_in _ (by omega)) (wP n (St.refl w) O O (by omega) ?_)));intro A1 w1 aI;refine ar O ?_;refine O0 0 0 (min 1 n) aI O (aI.gh hR).2 (aZ _) (by rw [Ze];rfl) O (fun _ _=>O) O O ?_;intro w2 aE;refine aC O ?_;have h3:St w w2 [ax 2 A1 n n (rep (min 1 n) n x 0)]:=by
  have e:([ax 2 A1 n n (List.replicate n 0)].set 0 { ax 2 A1 n n (List.replicate n 0)with vs:=(ax 2 A1 n n (List.replicate n 0)).vs.take 0++ (List.range (min 1 n)).map (fun j=>Value.int .i64 ([x].getD j 0))++ (ax 2 A1 n n (List.replicate n 0)).vs.drop (0+min 1 n) })=[ax 2 A1 n n (rep (min 1 n) n x 0)]:=by
   by_cases h0:n=0
   ·subst h0;rfl
   have h1:min 1 n=1:=by omega
   rw [h1];simp [ax,rep,jB]
  rw [<-e];exact aE
 refine Cd.loop (α:=Nat) (fun m=> [(7,.slice A1 n n),(8,ak m)]) (fun m w'=>St w w' [ax 2 A1 n n (rep m n x 0)]/\m<=n/\(0<n->0<m)) (fun m=>n - m) (min 1 n) (amz O) ⟨h3,by omega,by omega⟩ ?_;rintro m e w3 ⟨aR,hm,hm0⟩;refine bg O (bc O O (aC O ?_));refine aM _ O (fun h4=>?_) (fun h4=>?_)
 ·refine dw O ?_;have hlen:(rep m n x 0).length=n:=aR.zl 0 O;have ln:∀ {w1:aa},Below w3.heap.size w3 w1->Rd w1 A1 m (fun _=>ak x):=fun hb j hj=>by
   have h5:=(aR.aq hb).rd 0 O j (by show j<n;omega);have h6:((rep m n x 0).map (Value.int .i64)).getD j undef=ak x:=by simp [rep,da,lz,hj]
   obtain⟨p,hp,hc⟩:=h5;exact⟨p,hp,hc.trans (aF some h6)⟩
  have iL:=aiv (n:=n) (m:=m) (q:=min m (n - m)) (x:=x) (v:=0) hm (by omega);refine kB [7] [yI ((m:Int)),yS (A1) (n) (n),yI ((m:Int)),yS (cutAt A1 n m) (n - m) (n - m),yS (A1) (n) (n),yI ((m:Int)),yS (A1) (m) (n),.pr (fun v w'=>v=ak ((min m (n - m):Nat):Int)/\St w w' [ax 2 A1 n n (rep (m+min m (n - m)) n x 0)]),yI ((m:Int)+ ((min m (n - m):Nat):Int)),yI ((m:Int)+ ((min m (n - m):Nat):Int))] (ly (ly (ly (ly (ly (ly (ly (de.2 ⟨Ye.dp (fun v w w' h hb=> ⟨h.1,h.2.aq hb⟩),(ly (ly (fun _ h=>by cases h)))⟩)))))))) ?_ ?_
  ·refine⟨?_,bT O,?_,aP fun _ _=>JE O O O (by omega) (bE O O),bT O,?_,aP fun _ _=>JD O O O (by omega) (bE O O),?_,?_,bT O,au⟩
   ·intro e1 w1 cc eZ dt fQ hp aW hq;show ao _ _ _ _ _ _ _;refine qF O (by exact aW 9 _ O (by kernel_rfl)) O (ao.n (iN O (by exact O)))
   ·intro e1 w1 cc eZ dt fQ hp aW hq;show ao _ _ _ _ _ _ _;refine qF O (by exact aW 9 _ O (by kernel_rfl)) O (ao.n (iN O (by exact O)))
   ·intro e1 w1 cc eZ dt fQ hp aW hq;show ao _ _ _ _ _ _ _;refine qF O (by exact aW 9 _ O (by kernel_rfl)) O (ao.n (iN O (by exact O)))
   ·refine kG fun e1 w1 hb hp aW hq=>?_
    refine O0 0 m (min m (n - m)) (aR.aq hb) O (f:=fun _=>ak x) (ln hb) (by omega) O O (fun _ _=>O) O O fun w5 aY=>ao.n ?_;exact fY.dn O ⟨O,by show St w w5 [⟨A1,n,n,_,(rep (m+min m (n - m)) n x 0).map (Value.int .i64)⟩];rw [<-iL];exact aY⟩
   refine dP 1 fun e1 w1 hp aW hq=>?_
   have eN:=hp 7 _ _ (by kernel_rfl) O O (by kernel_rfl);refine amr O (by exact eN.1) O (by omega) (ao.n (iN O (by exact O)))
  intro u w5 _ hu _ _;have aY:=(hu 7 _ O (by kernel_rfl)).2;refine WO O (tQ ?_);exact⟨m+min m (n - m),by have:=hm0 (by omega);omega,⟨O,by show Value.int .i64 _=Value.int .i64 _;congr 1,au⟩,aY,by omega,by omega⟩
 refine bn O (bo (gq O ?_));refine ia O ?_;have:m=n:=by omega
 subst this;refine⟨A1,O,?_⟩;have e:rep m m x 0=List.replicate m x:=by simp [rep]
 rw [<-e];exact aR
end
section
variable{N i:Nat}{x y:Int}
theorem Jl{α:Type}[DecidableEq α]:∀(a b:List α),a.Nodup->(∀x∈a,x∈b)->a.length<=b.length
 | [],_,_,_=>aZ _
 | x::a,b,hn,h=>by
  simp only [lU]at hn;have h1:=Jl a (b.erase x) hn.2 (fun y hy=>by
   rw [List.mem_erase_of_ne (fun e=>hn.1 (by rw [<-e];exact hy))];exact h y (by simp [hy]))
  have hx:=h x (by simp);have h2:=List.length_erase_of_mem hx;have h3:=List.length_pos_of_mem hx;simp only [List.length_cons];omega
theorem V5{α:Type}[DecidableEq α]{a b:List α}(hn:a.Nodup)(h:∀x∈a,x∈b)(hl:b.length<=a.length):∀x∈b,x∈a:=by
 intro y hy;apply qy;intro MP;have:=Jl (y::a) b (by simp [MP,hn]) (fun x hx=>by
  rcases iP.1 hx with rfl | hx
  ·exact hy
  exact h x hx)
 simp at this;omega
def tR(N:Nat)(xss:ah):Prop:=∀p∈xss,∀x y:Int,0<=x->x<N->0<=y->y<N->gi p x=gi p y->x=y
theorem Reach.range{xss:ah}(hs:Sys N xss)(h0:0<=x)(h1:x<N)(h:Reach xss x y):0<=y/\y<N:=by
 induction h with
 | refl=>exact⟨h0,h1⟩
 | step _ hp ih=>exact(hs _ hp).2 _ ih.1 ih.2
theorem Reach.back{xss:ah}(hs:Sys N xss)(hi:tR N xss)(h0:0<=x)(h1:x<N){p:ai}(hp:p∈xss):Reach xss (gi p x) x:=by
 have hy:=(hs p hp).2 x h0 h1;obtain⟨g,_,hm⟩:=wD hs hy.1 hy.2;have key:=V5 (a:=(eE N xss (gi p x)).map (gi p)) (b:=eE N xss (gi p x)) (by
  rw [List.nodup_iff_pairwise_ne,pd];refine List.Pairwise.imp_of_mem ?_ g.nodup;intro a b ha hb eB e;exact eB (hi p hp a b (g.range a ha).1 (g.range a ha).2 (g.range b hb).1 (g.range b hb).2 e))
  (fun z hz=>by
    obtain⟨u,hu,rfl⟩:=dA.1 hz;exact(hm _).2 (.step ((hm u).1 hu) hp)) (by simp)
 obtain⟨u,hu,e⟩:=dA.1 (key (gi p x) ((hm _).2 .refl));have:=hi p hp u x (g.range u hu).1 (g.range u hu).2 h0 h1 e;subst this;exact(hm u).1 hu
theorem Reach.symm{xss:ah}(hs:Sys N xss)(hi:tR N xss)(h0:0<=x)(h1:x<N)(h:Reach xss x y):Reach xss y x:=by
 induction h with
 | refl=>exact .refl
 | step hr hp ih=>
  have hy:=hr.range hs h0 h1;exact(Reach.back hs hi hy.1 hy.2 hp).trans ih
def pF(L:ai)(c:Int):ai->ai
 | []=>L
 | x::xs=>pF (L.set x.toNat c) c xs
theorem NL:∀(xs L:ai) (c:Int),(pF L c xs).length=L.length
 | [],_,_=>rfl
 | x::xs,L,c=>by rw [pF,NL xs];simp
theorem xd{N:Nat}:∀(xs L:ai) (c:Int),L.length=N->(∀x∈xs,0<=x/\x<N)->∀x:Int,0<=x->gi (pF L c xs) x=if x∈xs then c else gi L x
 | [],_,_,_,_,x,_=>by simp [pF]
 | y::xs,L,c,hl,h,x,hx=>by
  have hy:=h y (by simp);rw [pF,xd xs (L.set y.toNat c) c (by simpa using hl) (fun z hz=>h z (by simp [hz])) x hx,r7 hy.1 (by rw [hl];exact hy.2) hx]
  by_cases h1:x∈xs
  ·simp [h1]
  ·rw [az h1]
   by_cases h2:y=x
   ·subst h2;simp
   ·rw [az h2,az];simp only [iP,not_or];exact⟨fun e=>h2 e.symm,h1⟩
def bw(N:Nat)(xss:ah):Nat->ai×Int
 | 0=> (List.replicate N (-1),0)
 | i+1=>if 0<=gi (bw N xss i).1 i then bw N xss i else(pF (bw N xss i).1 (bw N xss i).2 (eE N xss i),(bw N xss i).2+1)
theorem zh{xss:ah}(h:¬0<=gi (bw N xss i).1 i):bw N xss (i+1)=(pF (bw N xss i).1 (bw N xss i).2 (eE N xss i),(bw N xss i).2+1):=by
 show(if _ then _ else _)=_;rw [az h]
theorem Bo{xss:ah}(h:0<=gi (bw N xss i).1 i):bw N xss (i+1)=bw N xss i:=by
 show(if _ then _ else _)=_;rw [aB h]
theorem qm(N:Nat)(xss:ah):∀i,(bw N xss i).1.length=N
 | 0=>by simp [bw]
 | i+1=>by
  simp only [bw]
  split
  ·exact qm N xss i
  ·rw [NL];exact qm N xss i
theorem xQ(N:Nat)(xss:ah):∀i,0<=(bw N xss i).2/\(bw N xss i).2<=i
 | 0=>by simp [bw]
 | i+1=>by
  have:=xQ N xss i;simp only [bw]
  split
  ·omega
  ·simp only;omega
theorem yy{v:Int}(h0:0<=x)(h1:x<N):gi (List.replicate N v) x=v:=by
 simp [gi,da,List.getElem?_replicate,show x.toNat<N by omega]
theorem zg{N:Nat}{xss:ah}(hs:Sys N xss):∀i,i<=N->∀x:Int,0<=x->x<N->(0<=gi (bw N xss i).1 x↔∃j:Nat,j<i/\Reach xss j x)
 | 0,_,x,h0,h1=>by
  simp only [bw,yy h0 h1];constructor
  ·intro h;omega
  ·rintro⟨j,hj,_⟩;omega
 | i+1,hi,x,h0,h1=>by
  have ih:=zg hs i (by omega);have hc:=xQ N xss i;have ho:=wD hs (pt:=(i:Int)) (by omega) (by omega);simp only [bw]
  split
  ·rename_i hl;rw [ih x h0 h1];constructor
   ·rintro⟨j,hj,hr⟩;exact⟨j,by omega,hr⟩
   ·rintro⟨j,hj,hr⟩
    by_cases ui:j=i
    ·subst ui;obtain⟨j',gX,fX⟩:=(ih j (by omega) (by omega)).1 hl;exact⟨j',gX,fX.trans hr⟩
    ·exact⟨j,by omega,hr⟩
  ·simp only;rw [xd _ _ _ (qm N xss i) ho.1.range x h0]
   by_cases hm:x∈eE N xss i
   ·rw [aB hm];exact⟨fun _=> ⟨i,by omega,(ho.2.2 x).1 hm⟩,fun _=>hc.1⟩
   ·rw [az hm,ih x h0 h1];constructor
    ·rintro⟨j,hj,hr⟩;exact⟨j,by omega,hr⟩
    ·rintro⟨j,hj,hr⟩
     by_cases ui:j=i
     ·subst ui;exact absurd ((ho.2.2 x).2 hr) hm
     ·exact⟨j,by omega,hr⟩
theorem afB{xss:ah}(hs:Sys N xss)(hN:0<N):(bw N xss N).2=1↔∀x:Int,0<=x->x<N->Reach xss 0 x:=by
 have h1:(bw N xss 1).2=1:=by
  have:¬(0:Int)<=gi (bw N xss 0).1 (0:Nat):=by
   rw [show(bw N xss 0).1=List.replicate N (-1) from rfl,yy (by omega) (by omega)];omega
  rw [show(1:Nat)=0+1 from rfl,zh this];rfl
 constructor
 ·intro hc;have mono:∀i j,i<=j->(bw N xss i).2<=(bw N xss j).2:=by
   intro i j ig
   induction j with
   | zero=>
    have:i=0:=by omega
    subst this;omega
   | succ j ih=>
    by_cases e:i=j+1
    ·subst e;omega
    ·have:=ih (by omega);have h2:(bw N xss j).2<=(bw N xss (j+1)).2:=by
      simp only [bw];split
      ·omega
      ·simp only;omega
     omega
  have key:∀i:Nat,i<N->Reach xss 0 (i:Int):=by
   intro i
   induction i using Nat.strongRecOn with
   | _ i ih=>
    intro hi
    by_cases h0:i=0
    ·subst h0;exact .refl
    ·have hl:0<=gi (bw N xss i).1 i:=by
      apply qy;intro hn;have h2:=mono 1 i (by omega);have h3:=mono (i+1) N (by omega);have h4:(bw N xss (i+1)).2=(bw N xss i).2+1:=by rw [zh hn]
      omega
     obtain⟨j,hj,hr⟩:=(zg hs i (by omega) i (by omega) (by omega)).1 hl;exact(ih j hj (by omega)).trans hr
  intro x h0 h2;have:=key x.toNat (by omega);rw [Int.toNat_of_nonneg h0]at this;exact this
 ·intro h;have key:∀i,1<=i->i<=N->(bw N xss i).2=1:=by
   intro i
   induction i with
   | zero=>intro h;omega
   | succ i ih=>
    intro _ hi
    by_cases e:i=0
    ·subst e;exact h1
    ·have hl:=(zg hs i (by omega) i (by omega) (by omega)).2 ⟨0,by omega,h i (by omega) (by omega)⟩;rw [Bo hl];exact ih (by omega) (by omega)
  exact key N (by omega) (bs _)
theorem FG{xss:ah}(hs:Sys N xss)(hN:0<N):(eE N xss 0).length=N↔∀x:Int,0<=x->x<N->Reach xss 0 x:=by
 obtain⟨g,_,hm⟩:=wD hs (pt:=0) (by omega) (by omega);have Il:∀x:Int,x∈(List.range N).map (fun i:Nat=> (i:Int))↔0<=x/\x<N:=by
  intro x;rw [dA];constructor
  ·rintro⟨i,hi,rfl⟩;have:i<N:=by simpa using hi
   omega
  intro h;exact⟨x.toNat,by simp;omega,by omega⟩
 have oV:((List.range N).map (fun i:Nat=> (i:Int))).Nodup:=by
  rw [List.nodup_iff_pairwise_ne,pd];refine List.Pairwise.imp ?_ (List.nodup_iff_pairwise_ne.1 List.nodup_range);intro a b eB;omega
 constructor
 ·intro hl x h0 h1;have:=V5 g.nodup (b:=(List.range N).map (fun i:Nat=> (i:Int))) (fun z hz=> (Il z).2 (g.range z hz)) (by simp [hl]) x ((Il x).2 ⟨h0,h1⟩);exact(hm x).1 this
 intro h;have h1:=Jl _ (eE N xss 0) oV (fun z hz=>by
  have:=(Il z).1 hz;exact(hm z).2 (h z this.1 this.2))
 have h2:=g.len;simp at h1;omega
structure nQ(N:Nat)(xss:ah)(i c:Int)(L0 L op:ai)(bx:Int)(k:Nat):Prop where
 len:L.length=N
 re:∀x:Int,0<=x->x<N->0<=gi L0 x->gi L x=gi L0 x
 new:∀x:Int,0<=x->x<N->gi L0 x<0->gi L x=gi L0 x\/(gi L x=c/\Reach xss i x)
 start:gi L i=c
 x4:∀x∈op,0<=x/\x<N/\gi L0 x<0/\gi L x=c
 wV:∀x:Int,0<=x->x<N->gi L0 x<0->gi L x=c->x∉op->∀p∈(if x=bx then xss.take k else xss),0<=gi L (gi p x)
section
variable {N:Nat} {xss:ah} {i c:Int} {L0 L op:ai} {bx:Int} {k:Nat}
theorem nQ.init(hl:L0.length=N)(h0:0<=i)(h1:i<N)(hi:gi L0 i<0)(hc:0<=c):nQ N xss i c L0 (L0.set i.toNat c) [i] (-1) 0 where
 len:=by simpa using hl
 re x hx _ h:=by
  rw [r7 h0 (by rw [hl];exact h1) hx]
  split
  ·rename_i e;subst e;omega
  rfl
 new x hx _ h:=by
  rw [r7 h0 (by rw [hl];exact h1) hx]
  split
  ·rename_i e;subst e;exact .inr ⟨rfl,.refl⟩
  exact .inl O
 start:=by rw [r7 h0 (by rw [hl];exact h1) h0,aB rfl]
 x4 x hx:=by
  simp at hx;subst hx;exact⟨h0,h1,hi,by rw [r7 h0 (by rw [hl];exact h1) h0,aB O]⟩
 wV x hx mo h po gD:=by
  rw [r7 h0 (by rw [hl];exact h1) hx]at po
  split at po
  ·rename_i e;subst e;simp at gD
  omega
theorem nQ.ahX{x:Int}(h:nQ N xss i c L0 L (op++ [x]) (-1) 0):nQ N xss i c L0 L op x 0 where
 len:=h.len
 re:=h.re
 new:=h.new
 start:=h.start
 x4 y hy:=h.x4 y (by simp [hy])
 wV y hy ma h0 hc gD:=by
  split
  ·simp
  rename_i bU;have:=h.wV y hy ma h0 hc (by simp [gD,bU]);rw [az (by omega)]at this;exact this
theorem nQ.rest(h:nQ N xss i c L0 L op bx xss.length):nQ N xss i c L0 L op (-1) 0 where
 len:=h.len
 re:=h.re
 new:=h.new
 start:=h.start
 x4:=h.x4
 wV y hy ma h0 hc gD:=by
  rw [az (by omega)];have:=h.wV y hy ma h0 hc gD;rw [List.take_length]at this;simpa using this
theorem nQ.skip(h:nQ N xss i c L0 L op bx k)(hk:k<xss.length)(hy:0<=gi L (gi (gl xss k) bx)):nQ N xss i c L0 L op bx (k+1) where
 len:=h.len
 re:=h.re
 new:=h.new
 start:=h.start
 x4:=h.x4
 wV y ma aeg h0 hc gD p hp:=by
  have:=h.wV y ma aeg h0 hc gD
  split at hp
  ·rename_i e;rw [aB e]at this;rw [F1 hk,kj]at hp;rcases hp with hp | hp
   ·exact this p hp
   simp at hp;subst hp;subst e;exact hy
  rename_i e;rw [az e]at this;exact this p hp
theorem nQ.push(hs:Sys N xss)(eY:0<=i)(h:nQ N xss i c L0 L op bx k)(hk:k<xss.length)(fQ:0<=bx)(dF:bx<N)(hb:gi L0 bx<0)(EM:gi L bx=c)(lJ:0<=c)(hy:gi L (gi (gl xss k) bx)<0):
 nQ N xss i c L0 (L.set (gi (gl xss k) bx).toNat c) (op++ [gi (gl xss k) bx]) bx (k+1):=by
 have kL:gl xss k∈xss:=by rw [b7 hk];exact dQ _
 have tz:=(hs _ kL).2 bx fQ dF;have hg:∀z:Int,0<=z->gi (L.set (gi (gl xss k) bx).toNat c) z=if gi (gl xss k) bx=z then c else gi L z:=fun z hz=>r7 tz.1 (by rw [h.len];exact tz.2) hz
 have HM:Reach xss i bx:=by
  rcases h.new bx fQ dF hb with h1 | h1
  ·omega
  exact h1.2
 have MO:gi L0 (gi (gl xss k) bx)<0:=by
  apply qy;intro hn;have:=h.re _ tz.1 tz.2 (by omega);omega
 have pos:∀z:Int,0<=z->0<=gi L z->0<=gi (L.set (gi (gl xss k) bx).toNat c) z:=fun z hz h1=>by
  rw [hg z hz];split<;>omega
 refine⟨by simpa using h.len,fun x hx mo h0=>?_,fun x hx mo h0=>?_,?_,fun x hx=>?_,fun x hx mo h0 hc gD p hp=>?_⟩
 ·rw [hg x hx,az (fun e=>by subst e;omega)];exact h.re x hx mo h0
 ·rw [hg x hx]
  split
  ·rename_i e;subst e;exact .inr ⟨rfl,.step HM kL⟩
  exact h.new x hx mo h0
 ·rw [hg i eY];split
  ·rfl
  exact h.start
 ·rcases kj.1 hx with hx | hx
  ·have:=h.x4 x hx;refine⟨this.1,this.2.1,this.2.2.1,?_⟩;rw [hg x this.1];split
   ·rfl
   exact this.2.2.2
  simp at hx;subst hx;exact⟨tz.1,tz.2,MO,by rw [hg _ tz.1,aB O]⟩
 have bU:gi (gl xss k) bx≠x:=fun e=>gD (by subst e;simp)
 rw [hg x hx,az bU]at hc;have ac7:x∉op:=fun hm=>gD (by simp [hm])
 have h1:=h.wV x hx mo h0 hc ac7
 split at hp
 ·rename_i e;rw [aB e]at h1;rw [F1 hk,kj]at hp;rcases hp with hp | hp
  ·exact pos _ ((hs p (List.mem_of_mem_take hp)).2 x hx mo).1 (h1 p hp)
  simp at hp;subst hp;subst e;rw [hg _ tz.1,aB rfl];exact lJ
 rename_i e;rw [az e]at h1;exact pos _ ((hs p hp).2 x hx mo).1 (h1 p hp)
theorem nQ.done(hs:Sys N xss)(hi:tR N xss){j:Nat}(hj:j<N)(yX:¬0<=gi (bw N xss j).1 j)(h:nQ N xss j (bw N xss j).2 (bw N xss j).1 L [] (-1) 0):L=(bw N xss (j+1)).1:=by
 have hc:=xQ N xss j;have ho:=wD hs (pt:=(j:Int)) (by omega) (by omega);have hm:=zg hs j (by omega);rw [zh yX];apply ki
 ·rw [h.len,NL,qm]
 intro x h1 h2;have hx:x<N:=by rw [<-h.len];exact h1
 have e1:=b9 (p:=L) (k:=x) h1;have e2:=b9 (p:=pF (bw N xss j).1 (bw N xss j).2 (eE N xss j)) (k:=x) h2;rw [<-e1];show _=(pF (bw N xss j).1 (bw N xss j).2 (eE N xss j))[x];rw [<-e2,xd _ _ _ (qm N xss j) ho.1.range x (by omega)];have reached:∀y,Reach xss j y->gi (bw N xss j).1 y<0/\gi L y=(bw N xss j).2:=by
  intro y hr
  induction hr with
  | refl=>exact⟨by omega,h.start⟩
  | @step y p hr hp ih=>
   have hy:=hr.range hs (by omega) (by omega);have Ii:=(hs p hp).2 y hy.1 hy.2;have S5:gi (bw N xss j).1 (gi p y)<0:=by
    apply qy;intro hn;obtain⟨m,hmj,S1⟩:=(hm _ Ii.1 Ii.2).1 (by omega);have:=(hm y hy.1 hy.2).2 ⟨m,hmj,S1.trans (Reach.back hs hi hy.1 hy.2 hp)⟩;omega
   refine⟨S5,?_⟩;have h3:=h.wV y hy.1 hy.2 ih.1 ih.2 (by simp) p (by rw [az (by omega)];exact hp);rcases h.new _ Ii.1 Ii.2 S5 with h4 | h4
   ·omega
   ·exact h4.1
 split
 ·rename_i kL;exact(reached _ ((ho.2.2 _).1 kL)).2
 ·rename_i kL;have hnr:¬Reach xss j x:=fun hr=>kL ((ho.2.2 _).2 hr)
  by_cases h5:0<=gi (bw N xss j).1 x
  ·exact h.re x (by omega) (by omega) h5
  ·rcases h.new x (by omega) (by omega) (by omega)with h6 | h6
   ·exact h6
   ·exact absurd h6.2 hnr
end
def tL(L:ai):Nat:=L.countP (fun x=>decide (x<0))
theorem Wn{L:ai}{x c:Int}(h0:0<=x)(h1:x<L.length)(hx:gi L x<0)(hc:0<=c):tL (L.set x.toNat c)+1=tL L:=by
 obtain⟨k,rfl⟩:∃k:Nat,x=k:=⟨x.toNat,by omega⟩;have hk:k<L.length:=by omega
 rw [b9 hk]at hx;simp only [tL,jc];rw [List.countP_set (h:=hk)];have:0<L.countP (fun x=>decide (x<0)):=List.countP_pos_iff.2 ⟨L[k],dQ _,by simpa using hx⟩;simp [hx,show ¬c<0 by omega];omega
end
section
open Go.RowKit
variable{k:Nat}
theorem St.shrink{w0 w:aa}{ks:List Ck}{k:Ck}(h:St w0 w ks)(i:Nat)(hk:ks[i]?=some k)(m:Nat)(hm:m<=k.n)(hM:eK k.vs=false):St w0 w (ks.set i { k with n:=m,vs:=k.vs.take m }):=by
 have xv:=(gm.1 hk).1;refine⟨h.below,fun x hx=>?_,?_⟩
 ·obtain⟨j,hj,rfl⟩:=gF.1 hx;have gX:j<ks.length:=by simpa using hj
  rw [List.getElem_set]
  split
  ·obtain⟨h1,h2,h3,h4⟩:=h.pU hk hM;refine .qo (TU m hM) ⟨by simp;omega,by show m<=k.c;omega,h3,?_⟩;rcases h4 with h4 | ⟨g,o,cur,hA,hg,hh,hs,hc⟩
   ·exact .inl h4
   refine .inr ⟨g,o,cur,hA,hg,hh,hs,fun j hj=>?_⟩;have hj:j<m:=hj;show _=(k.vs.take m)[j]?;rw [hc j (by omega),rK,aB hj]
  exact h.own _ (dQ _)
 rw [G7 Ck.gS ks i k { k with n:=m,vs:=k.vs.take m } hk rfl];exact h.apart
theorem St.ai2{w0 w:aa}{ks:List Ck}{t:ae}{A:aj}{n c:Nat}{xs:ai}(h:St w0 w ks)(i:Nat)(hk:ks[i]?=some (ax t A n c xs))(m:Nat)(hm:m<=n):St w0 w (ks.set i (ax t A m c (xs.take m))):=by
 have:=h.shrink i hk m hm (uA _);simpa [ax]using this
theorem Y5(op:ai)(h:0<op.length):∃o x,op=o++ [x]:=⟨op.dropLast,op.getLast (by intro e;simp [e]at h),(List.dropLast_concat_getLast _).symm⟩
theorem UT(A:aj)(n c:Nat)(rs:List aO)(xss:ah)(N:Nat)(w:aa)(hR:bF w A n rs xss)(hn:n<=9223372036854775807)(hs:Sys N xss)(acL:tR N xss)(hN:N<=1048576):
 aK prog 118 [ak N,.slice A n c] w (fun v w'=>∃A',v= .tuple #[.slice A' N N,ak (bw N xss N).2]/\St w w' [ax 2 A' N N (bw N xss N).1]):=by
 have cI:∀k:Int,0<=k->k<n->(rg rs k).n=N:=fun k mR hk=>by
  rw [<-hR.qu mR hk];exact(hs _ (pW mR (by rw [hR.len];exact hk))).1
 refine bA func118 O ntmps118 O (x5 O) (bg O (eS (St.refl w) O O O ?_));intro A1 w1 aI;refine ar O (aQ (JJ A1 1 (-1) N w1 (aI.bz 0 O) hN) O ?_);rintro _ w2 ⟨A6,rfl,aE⟩;have aE:=(aI.call2 aE).tail;refine aC O (Cd.loop (α:=Nat) (fun i=> [(1,.slice A n c),(6,.slice A6 N N),(7,ak (bw N xss i).2),(17,ak N),(18,ak i)]) (fun i w'=>St w w' [ax 2 A6 N N (bw N xss i).1]/\i<=N) (fun i=>N - i) 0 (amz O) ⟨aE,aZ _⟩ ?_);rintro i e w3 ⟨aR,hi⟩;have oh:=xQ N xss i;refine bJ O (aM _ O (fun h1=>?_) (fun h1=>?_))
 ·refine aA O (aD (aR.bz 0 O).2 O (a8 (aR.bz 0 O) O (aC O ?_)));refine aM _ O (fun h2=>?_) (fun h2=>?_)
  ·refine aA O (aH O (aT O (tQ ?_)));exact⟨i+1,by omega,⟨O,O,by rw [Bo h2];rfl,O,O,au⟩,by rw [Bo h2];exact aR,by omega⟩
  refine aA O (aD (aR.bz 0 O).2 O (lC 0 aR O O O (by omega) ?_));intro w4 aX;refine ar O (eS aX O O O ?_);intro A9 w5 aY;refine aC O ?_;have aW:tL (bw N xss i).1<=N:=by
   have:=List.countP_le_length (p:=fun x:Int=>decide (x<0)) (l:=(bw N xss i).1);rw [qm]at this;exact this
  have hun1:=Wn (L:=(bw N xss i).1) (x:=i) (c:=(bw N xss i).2) (by omega) (by rw [qm];omega) (by omega) oh.1;refine Cd.loop (α:=ai×ai×aj×Nat) (fun q=> [(1,.slice A n c),(6,.slice A6 N N),(7,ak (bw N xss i).2),(9,.slice q.2.2.1 q.2.1.length q.2.2.2),(17,ak N),(18,ak i)]) (fun q w'=>St w w' [ax 2 q.2.2.1 q.2.1.length q.2.2.2 q.2.1,ax 2 A6 N N q.1]/\nQ N xss i (bw N xss i).2 (bw N xss i).1 q.1 q.2.1 (-1) 0/\tL q.1+q.2.1.length<=N) (fun q=>tL q.1+q.2.1.length) ((bw N xss i).1.set (i:Int).toNat (bw N xss i).2,[(i:Int)],A9,1) (amz O) ⟨aY,nQ.init (qm N xss i) (by omega) (by omega) (by omega) oh.1,by show tL ((bw N xss i).1.set (i:Int).toNat (bw N xss i).2)+1<=N;omega⟩ ?_;rintro⟨L,op,A9,c9⟩ e2 w6 ⟨bk,hD,hu⟩;dsimp only at bk hD hu|-;refine bg O (bc O O (aC O ?_));refine aM _ O (fun h3=>?_) (fun h3=>?_)
  ·obtain⟨o,x,rfl⟩:=Y5 op (by omega);have De:(o++ [x]).length=o.length+1:=by simp
   have hx:gi (o++ [x]) (((o++ [x]).length:Int) - 1)=x:=by
    rw [show(((o++ [x]).length:Nat):Int) - 1=((o.length:Nat):Int) by omega,b9 (by omega)];simp
   have qX:=hD.x4 x (by simp);refine aA O (bc O O (eh O ?_));refine aD (bk.bz 0 O).2 O (a8 (bk.bz 0 O) O ?_);rw [hx];refine ar O (bc O O (eh O ?_));refine JD O O O (by have:=(bk.cap 0 O).1;dsimp only at this;omega) ?_;have bG:=bk.ai2 0 O o.length (by omega);rw [List.take_left]at bG;rw [show(((o++ [x]).length:Nat):Int) - 1=((o.length:Nat):Int) by omega,jc];refine ar O (bc O O (aC O ?_));refine Cd.loop (α:=Nat×ai×ai×aj×Nat) (fun q=> [(1,.slice A n c),(6,.slice A6 N N),(7,ak (bw N xss i).2),(9,.slice q.2.2.2.1 q.2.2.1.length q.2.2.2.2),(10,ak x),(17,ak N),(18,ak i),(46,.slice A n c),(47,ak n),(48,ak (q.1:Int))]) (fun q w'=>St w w' [ax 2 q.2.2.2.1 q.2.2.1.length q.2.2.2.2 q.2.2.1,ax 2 A6 N N q.2.1]/\nQ N xss i (bw N xss i).2 (bw N xss i).1 q.2.1 q.2.2.1 x q.1/\q.1<=n/\gi q.2.1 x=(bw N xss i).2/\tL q.2.1+q.2.2.1.length=tL L+o.length) (fun q=>n - q.1) (0,L,o,A9,c9) (amz O) ⟨bG,hD.ahX,aZ _,qX.2.2.2,O⟩ ?_;rintro⟨k,L',o',A',c'⟩ e3 w8 ⟨b6,CQ,hk,IA,TA⟩;dsimp only at b6 CQ hk IA TA|-;refine bJ O (aM _ O (fun h4=>?_) (fun h4=>?_))
   ·have hM:=b6.cT hR;have bP:=hM.at_ (i:=k) (by omega) h4;have js:=cI k (by omega) h4;have kL:gl xss k∈xss:=pW (by omega) (by rw [hR.len];exact h4);have hy:=(hs _ kL).2 x qX.1 qX.2.1;refine aA O (amn hM.top.2 O O O (by omega) h4 (bW hM.top O (ar O (aD bP.2 O (a8 bP O (ar O (aD (b6.bz 1 O).2 O (a8 (b6.bz 1 O) O (aC O ?_)))))))));refine aM _ O (fun h5=>?_) (fun h5=>?_)
    ·refine aA O (aD (b6.bz 1 O).2 O (lC 1 b6 O O O (by omega) ?_));intro w9 bL;refine ar O (eS bL O O O ?_);intro bH dV bN;refine fk 1 bN O (bN.bz 0 O) O O O fun cn iF dZ eA=>ar O (aH O (aT O (tQ ?_)));have hu9:=Wn (L:=L') (x:=gi (gl xss k) x) (c:=(bw N xss i).2) hy.1 (by rw [CQ.len];exact hy.2) h5 oh.1;refine⟨(k+1,L'.set (gi (gl xss k) x).toNat (bw N xss i).2,o'++ [gi (gl xss k) x],cn,iF),by show n - (k+1)<n - k;omega,⟨O,O,O,by rw [b8];rfl,O,O,O,O,O,O,au⟩,?_,CQ.push hs (by omega) (by rw [hR.len];omega) qX.1 qX.2.1 qX.2.2.1 IA oh.1 h5,by show k+1<=n;omega,?_,?_⟩
     ·have jO:=eA.tail;simp only [b8,List.length_singleton];exact jO
     ·show gi (L'.set _ _) x=_;rw [r7 hy.1 (by rw [CQ.len];exact hy.2) qX.1]
      split
      ·rfl
      exact IA
     show tL (L'.set _ _)+ (o'++ [_]).length=_;simp only [b8,List.length_singleton];omega
    refine aA O (aH O (aT O (tQ ?_)));exact⟨(k+1,L',o',A',c'),by show n - (k+1)<n - k;omega,(amz O),b6,CQ.skip (by rw [hR.len];omega) (by omega),by show k+1<=n;omega,IA,TA⟩
   refine bn O (bo (BP O (tQ ?_)));have eQ:k=xss.length:=by rw [hR.len];omega
   subst eQ;exact⟨(L',o',A',c'),by show tL L'+o'.length<tL L+ (o++ [x]).length;omega,(amz O),b6,CQ.rest,by show tL L'+o'.length<=N;omega⟩
  have oq:op=[]:=qA (by omega);subst oq;have hL:=hD.done hs acL (by omega) h2;refine bn O (bo (cL O (aH O (ar O (aH O (aT O (tQ ?_)))))));refine⟨i+1,by omega,⟨O,O,by rw [zh h2];rfl,O,O,au⟩,?_,by omega⟩;rw [<-hL];exact bk.tail
 refine bn O (bo (gq O ?_));refine Jb O O ?_;have:i=N:=by omega
 subst this;exact⟨A6,O,aR⟩
def Comm(xss:ah)(i k f:Nat):Prop:=gi (gl xss k) (gi (gl xss i) f)=gi (gl xss i) (gi (gl xss k) f)/\gi (gl xss i) f≠gi (gl xss k) f
instance (xss:ah)(i k f:Nat):Decidable (Comm xss i k f):=by unfold Comm;exact inferInstance
def vQ(xss:ah):Prop:=∀p∈xss,p.length=(gl xss 0).length/\kg p/\oD p
instance (xss:ah):Decidable (vQ xss):=by unfold vQ;exact inferInstance
def cN(xss:ah):Prop:=(1<=xss.length/\xss.length<=5)/\(2<=(gl xss 0).length/\(gl xss 0).length<=400)/\vQ xss/\(∀i,i<xss.length->∀k,k<xss.length->i+2<=k->∀f,f< (gl xss 0).length->Comm xss i k f)/\(eE (gl xss 0).length xss 0).length=(gl xss 0).length
instance (xss:ah):Decidable (cN xss):=by unfold cN;exact inferInstance
theorem kg.inj{p:ai}(h:kg p){x y:Int}(hx:0<=x)(mo:x<p.length)(hy:0<=y)(ma:y<p.length)(e:gi p x=gi p y):x=y:=by
 obtain⟨a,rfl⟩:∃a:Nat,x=a:=⟨x.toNat,by omega⟩;obtain⟨b,rfl⟩:∃b:Nat,y=b:=⟨y.toNat,by omega⟩;rw [b9 (by omega),b9 (by omega)]at e;have:=(List.getElem_inj (h₀:=by omega) (h₁:=by omega) h.2.2).1 e;omega
theorem vQ.sys{xss:ah}(h:vQ xss):Sys (gl xss 0).length xss:=fun p hp=>by
 have h1:=h p hp;refine⟨h1.1,fun x h0 hx=>?_⟩;have:=h1.2.1.range (i:=x) h0 (by omega);omega
theorem vQ.inj{xss:ah}(h:vQ xss):tR (gl xss 0).length xss:=fun p hp x y hx mo hy ma e=>by
 have h1:=h p hp;exact h1.2.1.inj hx (by omega) hy (by omega) e
def Part(xss:ah)(k:Nat):Prop:=∀p∈xss.take k,p.length=(gl xss 0).length/\kg p/\oD p
theorem Part.step{xss:ah}(h:Part xss k)(hk:k<xss.length)(h1:(gl xss k).length=(gl xss 0).length)(h2:kg (gl xss k))(h3:oD (gl xss k)):Part xss (k+1):=by
 intro p hp;rw [F1 hk,kj]at hp;rcases hp with hp | hp
 ·exact h p hp
 simp at hp;subst hp;exact⟨h1,h2,h3⟩
theorem Part.all{xss:ah}(h:Part xss k)(hk:xss.length<=k):vQ xss:=by
 intro p hp;refine h p ?_;rw [gR hk];exact hp
theorem vQ.at_{xss:ah}(h:vQ xss)(hk:k<xss.length):(gl xss k).length=(gl xss 0).length/\kg (gl xss k)/\oD (gl xss k):=h _ (by rw [b7 hk];exact dQ _)
theorem T8(A:aj)(n c:Nat)(rs:List aO)(xss:ah)(w:aa)(hR:bF w A n rs xss)(hn:n<=9223372036854775807):
 aK prog 69 [.agg #[.slice A n c]] w (fun v w'=>v= .bool (decide (cN xss))/\St w w' []):=by
 have jH:=hR.len;have r0:0<n->(gl xss 0).length=(rg rs 0).n:=fun h=>hR.qu (by omega) (by omega)
 refine bA func69 O ntmps69 O (df O) (bg O (lB (St.refl w) O O ?_));intro Ab w1 hS;refine ar O (aU (hS.rd 0 O) O (bh (hS.rd 0 O) O ?_));refine bc O O (ar O ?_);refine ew 13 O (fun h1=>?_) (fun h1=>?_)
 ·refine aJ O (aJ O (ar O (aJ O (aJ O (aJ O (aJ O (aJ O (aJ O (ar O (aJ O (aJ O ?_)))))))))));refine aJ O (aJ O (aJ O (aJ O (aC O ?_))));refine Cd.gC O (dX O (dz O ?_));exact⟨by rw [cj (fun h:cN xss=>by have:=h.1.1;omega)],hS.none⟩
 refine av O (ar O (av O (ar O ?_)));refine ew 17 O (fun h2=>?_) (fun h2=>?_)
 ·refine aJ O (aJ O (aJ O (aJ O (aJ O (aJ O (ar O (aJ O (aJ O (aJ O (aJ O (aJ O ?_)))))))))));refine aJ O (aC O ?_);refine Cd.gC O (dX O (dz O ?_));exact⟨by rw [cj (fun h:cN xss=>by have:=h.1.2;omega)],hS.none⟩
 have hM:=hS.cT hR;have r0:=r0 (by omega);refine av O (aU (hS.rd 0 O) O (av O (bh (hS.rd 0 O) O (av O (aD hM.top.2 O (av O (bW hM.top O ?_)))))));refine av O (bc O O (av O (ar O ?_)));refine ew 25 O (fun h3=>?_) (fun h3=>?_)
 ·refine aJ O (aJ O (aJ O (aJ O (aJ O (aJ O (aC O ?_))))));refine Cd.gC O (dX O (dz O ?_));exact⟨by rw [cj (fun h:cN xss=>by have:=h.2.1.1;omega)],hS.none⟩
 refine av O (aU (hS.rd 0 O) O (av O (bh (hS.rd 0 O) O (av O (aD hM.top.2 O (av O (bW hM.top O ?_)))))));refine av O (bc O O (av O (aC O ?_)));refine aM _ O (fun h4=>?_) (fun h4=>?_)
 ·refine dX O (dz O ?_);exact⟨by rw [cj (fun h:cN xss=>by have:=h.2.1.2;omega)],hS.none⟩
 refine dw O ?_;refine Cd.loop (α:=Nat) (fun k=> [(1,.pointer Ab),(3,ak n),(4,ak k)]) (fun k w'=>St w w' [Bx 24 1 Ab [.slice A n c]]/\k<=n/\Part xss k) (fun k=>n - k) 0 (amz O) ⟨hS,aZ _,fun p hp=>by simp at hp⟩ ?_;rintro k e w2 ⟨aE,hk,hP⟩;have hM:=aE.cT hR;have hB:=aE.rd 0 O;refine bJ O (aM _ O (fun h5=>?_) (fun h5=>?_))
 ·have oS:k<xss.length:=by omega
  have rk:=hR.qu (k:=(k:Int)) (by omega) (by omega);have bP:=hM.at_ (i:=k) (by omega) h5;refine dw O ?_
  by_cases h6:((rg rs k).n:Int)=(rg rs 0).n
  ·by_cases h7:kg (gl xss k)
   ·by_cases h8:oD (gl xss k)
    ·
     refine eo [xP (ay (Ab) 0),xS (A) (n) (c),xI ((k:Int)),xP (ay (A) ((k:Int)).toNat),xS ((rg (rs) ((k:Int))).a) ((rg (rs) ((k:Int))).n) ((rg (rs) ((k:Int))).c),xI ((((rg (rs) ((k:Int))).n:Nat):Int)),xP (ay (Ab) 0),xS (A) (n) (c),xP (ay (A) ((0:Int)).toNat),xS ((rg (rs) ((0:Int))).a) ((rg (rs) ((0:Int))).n) ((rg (rs) ((0:Int))).c),xI ((((rg (rs) ((0:Int))).n:Nat):Int)),xB (false),xB (false),xP (ay (Ab) 0),xS (A) (n) (c),xI ((k:Int)),xP (ay (A) ((k:Int)).toNat),xS ((rg (rs) ((k:Int))).a) ((rg (rs) ((k:Int))).n) ((rg (rs) ((k:Int))).c),xB (decide (kg (gl xss k))),xB (false),xB (false),xB (false),xP (ay (Ab) 0),xS (A) (n) (c),xI ((k:Int)),xP (ay (A) ((k:Int)).toNat),xS ((rg (rs) ((k:Int))).a) ((rg (rs) ((k:Int))).n) ((rg (rs) ((k:Int))).c),xB (decide (oD (gl xss k))),xB (false),xB (false)] O (eL O) ?_ ?_
     ·refine⟨fun _ _ hb _ _=>aU (hB.below hb) O Az,fun _ _ hb _ _=>bh (hB.below hb) O Az,Dr O,fun _ _ hb _ _=>aD (hM.top.aq hb).2 O Az,fun _ _ hb _ _=>bW (hM.top.aq hb) O Az,fun _ _ _ _ _=>bc O O Az,fun _ _ hb _ _=>aU (hB.below hb) O Az,fun _ _ hb _ _=>bh (hB.below hb) O Az,fun _ _ hb _ _=>aD (hM.top.aq hb).2 O Az,fun _ _ hb _ _=>bW (hM.top.aq hb) O Az,fun _ _ _ _ _=>bc O O Az,fun _ _ _ _ _=>Dk O (by exact aF Value.bool (cj (by omega))),Dr O,fun _ _ hb _ _=>av O (aU (hB.below hb) O Az),fun _ _ hb _ _=>av O (bh (hB.below hb) O Az),Dr O,fun _ _ hb _ _=>av O (aD (hM.top.aq hb).2 O Az),fun _ _ hb _ _=>av O (bW (hM.top.aq hb) O Az),?_,fun _ _ _ _ _=>av O (fv O O (Az (by exact aF Value.bool (cj (fun h=>h h7))))),Dr O,Dr O,fun _ _ hb _ _=>av O (aU (hB.below hb) O Az),fun _ _ hb _ _=>av O (bh (hB.below hb) O Az),Dr O,fun _ _ hb _ _=>av O (aD (hM.top.aq hb).2 O Az),fun _ _ hb _ _=>av O (bW (hM.top.aq hb) O Az),?_,fun _ _ _ _ _=>av O (fv O O (Az (by exact aF Value.bool (cj (fun h=>h h8))))),Dr O,au⟩
      ·intro e1 w1 hb hp aW;refine av O (aQ (M5 _ _ _ _ _ (bP.aq hb)) O ?_);rintro _ w2 ⟨rfl,aw⟩;refine ao.n ?_;exact fM.dn aw.below (by exact O)
      intro e1 w1 hb hp aW;refine av O (aQ (T7 _ _ _ _ _ (bP.aq hb) h7) O ?_);rintro _ w2 ⟨rfl,aw⟩;subst aw;refine ao.n (d0 (by exact O))
     intro u w3 fR _;have aR:=aE.aq fR;refine eP O (Cd.fC O ?_);refine aA O (aH O (aT O (tQ ?_)));exact⟨k+1,by omega,(amz O),aR,by omega,hP.step oS (by omega) h7 h8⟩
    refine eo [xP (ay (Ab) 0),xS (A) (n) (c),xI ((k:Int)),xP (ay (A) ((k:Int)).toNat),xS ((rg (rs) ((k:Int))).a) ((rg (rs) ((k:Int))).n) ((rg (rs) ((k:Int))).c),xI ((((rg (rs) ((k:Int))).n:Nat):Int)),xP (ay (Ab) 0),xS (A) (n) (c),xP (ay (A) ((0:Int)).toNat),xS ((rg (rs) ((0:Int))).a) ((rg (rs) ((0:Int))).n) ((rg (rs) ((0:Int))).c),xI ((((rg (rs) ((0:Int))).n:Nat):Int)),xB (false),xB (false),xP (ay (Ab) 0),xS (A) (n) (c),xI ((k:Int)),xP (ay (A) ((k:Int)).toNat),xS ((rg (rs) ((k:Int))).a) ((rg (rs) ((k:Int))).n) ((rg (rs) ((k:Int))).c),xB (decide (kg (gl xss k))),xB (false),xB (false),xB (false),xP (ay (Ab) 0),xS (A) (n) (c),xI ((k:Int)),xP (ay (A) ((k:Int)).toNat),xS ((rg (rs) ((k:Int))).a) ((rg (rs) ((k:Int))).n) ((rg (rs) ((k:Int))).c),xB (decide (oD (gl xss k))),xB (true),xB (true)] O (eL O) ?_ ?_
    ·refine⟨fun _ _ hb _ _=>aU (hB.below hb) O Az,fun _ _ hb _ _=>bh (hB.below hb) O Az,Dr O,fun _ _ hb _ _=>aD (hM.top.aq hb).2 O Az,fun _ _ hb _ _=>bW (hM.top.aq hb) O Az,fun _ _ _ _ _=>bc O O Az,fun _ _ hb _ _=>aU (hB.below hb) O Az,fun _ _ hb _ _=>bh (hB.below hb) O Az,fun _ _ hb _ _=>aD (hM.top.aq hb).2 O Az,fun _ _ hb _ _=>bW (hM.top.aq hb) O Az,fun _ _ _ _ _=>bc O O Az,fun _ _ _ _ _=>Dk O (by exact aF Value.bool (cj (by omega))),Dr O,fun _ _ hb _ _=>av O (aU (hB.below hb) O Az),fun _ _ hb _ _=>av O (bh (hB.below hb) O Az),Dr O,fun _ _ hb _ _=>av O (aD (hM.top.aq hb).2 O Az),fun _ _ hb _ _=>av O (bW (hM.top.aq hb) O Az),?_,fun _ _ _ _ _=>av O (fv O O (Az (by exact aF Value.bool (cj (fun h=>h h7))))),Dr O,Dr O,fun _ _ hb _ _=>av O (aU (hB.below hb) O Az),fun _ _ hb _ _=>av O (bh (hB.below hb) O Az),Dr O,fun _ _ hb _ _=>av O (aD (hM.top.aq hb).2 O Az),fun _ _ hb _ _=>av O (bW (hM.top.aq hb) O Az),?_,fun _ _ _ _ _=>av O (fv O O (Az (by exact aF Value.bool (dM h8)))),Dr O,au⟩
     ·intro e1 w1 hb hp aW;refine av O (aQ (M5 _ _ _ _ _ (bP.aq hb)) O ?_);rintro _ w2 ⟨rfl,aw⟩;refine ao.n ?_;exact fM.dn aw.below (by exact O)
     intro e1 w1 hb hp aW;refine av O (aQ (T7 _ _ _ _ _ (bP.aq hb) h7) O ?_);rintro _ w2 ⟨rfl,aw⟩;subst aw;refine ao.n (d0 (by exact O))
    intro u w3 fR _;have aR:=aE.aq fR;refine eP O (Cd.gC O ?_);refine dX O (fz (eW ?_));refine dz O ?_;exact⟨by rw [cj (fun h:cN xss=>h8 (h.2.2.1.at_ oS).2.2)],aR.none⟩
   refine eo [xP (ay (Ab) 0),xS (A) (n) (c),xI ((k:Int)),xP (ay (A) ((k:Int)).toNat),xS ((rg (rs) ((k:Int))).a) ((rg (rs) ((k:Int))).n) ((rg (rs) ((k:Int))).c),xI ((((rg (rs) ((k:Int))).n:Nat):Int)),xP (ay (Ab) 0),xS (A) (n) (c),xP (ay (A) ((0:Int)).toNat),xS ((rg (rs) ((0:Int))).a) ((rg (rs) ((0:Int))).n) ((rg (rs) ((0:Int))).c),xI ((((rg (rs) ((0:Int))).n:Nat):Int)),xB (false),xB (false),xP (ay (Ab) 0),xS (A) (n) (c),xI ((k:Int)),xP (ay (A) ((k:Int)).toNat),xS ((rg (rs) ((k:Int))).a) ((rg (rs) ((k:Int))).n) ((rg (rs) ((k:Int))).c),xB (decide (kg (gl xss k))),xB (true),xB (true),xB (true),xU,xU,xU,xU,xU,xU,xU,xB (true)] O (eL O) ?_ ?_
   ·refine⟨fun _ _ hb _ _=>aU (hB.below hb) O Az,fun _ _ hb _ _=>bh (hB.below hb) O Az,Dr O,fun _ _ hb _ _=>aD (hM.top.aq hb).2 O Az,fun _ _ hb _ _=>bW (hM.top.aq hb) O Az,fun _ _ _ _ _=>bc O O Az,fun _ _ hb _ _=>aU (hB.below hb) O Az,fun _ _ hb _ _=>bh (hB.below hb) O Az,fun _ _ hb _ _=>aD (hM.top.aq hb).2 O Az,fun _ _ hb _ _=>bW (hM.top.aq hb) O Az,fun _ _ _ _ _=>bc O O Az,fun _ _ _ _ _=>Dk O (by exact aF Value.bool (cj (by omega))),Dr O,fun _ _ hb _ _=>av O (aU (hB.below hb) O Az),fun _ _ hb _ _=>av O (bh (hB.below hb) O Az),Dr O,fun _ _ hb _ _=>av O (aD (hM.top.aq hb).2 O Az),fun _ _ hb _ _=>av O (bW (hM.top.aq hb) O Az),?_,fun _ _ _ _ _=>av O (fv O O (Az (by exact aF Value.bool (dM h7)))),Dr O,Dr O,Dr O,Dr O,Dr O,Dr O,Dr O,Dr O,Dr O,Dr O,au⟩;intro e1 w1 hb hp aW;refine av O (aQ (M5 _ _ _ _ _ (bP.aq hb)) O ?_);rintro _ w2 ⟨rfl,aw⟩;refine ao.n ?_;exact fM.dn aw.below (by exact O)
   intro u w3 fR _;have aR:=aE.aq fR;refine eP O (Cd.gC O ?_);refine dX O (fz (eW ?_));refine dz O ?_;exact⟨by rw [cj (fun h:cN xss=>h7 (h.2.2.1.at_ oS).2.1)],aR.none⟩
  refine eo [xP (ay (Ab) 0),xS (A) (n) (c),xI ((k:Int)),xP (ay (A) ((k:Int)).toNat),xS ((rg (rs) ((k:Int))).a) ((rg (rs) ((k:Int))).n) ((rg (rs) ((k:Int))).c),xI ((((rg (rs) ((k:Int))).n:Nat):Int)),xP (ay (Ab) 0),xS (A) (n) (c),xP (ay (A) ((0:Int)).toNat),xS ((rg (rs) ((0:Int))).a) ((rg (rs) ((0:Int))).n) ((rg (rs) ((0:Int))).c),xI ((((rg (rs) ((0:Int))).n:Nat):Int)),xB (true),xB (true),xU,xU,xU,xU,xU,xU,xU,xB (true),xB (true),xU,xU,xU,xU,xU,xU,xU,xB (true)] O (eL O) ?_ ?_
  ·exact⟨fun _ _ hb _ _=>aU (hB.below hb) O Az,fun _ _ hb _ _=>bh (hB.below hb) O Az,Dr O,fun _ _ hb _ _=>aD (hM.top.aq hb).2 O Az,fun _ _ hb _ _=>bW (hM.top.aq hb) O Az,fun _ _ _ _ _=>bc O O Az,fun _ _ hb _ _=>aU (hB.below hb) O Az,fun _ _ hb _ _=>bh (hB.below hb) O Az,fun _ _ hb _ _=>aD (hM.top.aq hb).2 O Az,fun _ _ hb _ _=>bW (hM.top.aq hb) O Az,fun _ _ _ _ _=>bc O O Az,fun _ _ _ _ _=>Dk O (by exact aF Value.bool (dM h6)),Dr O,Dr O,Dr O,Dr O,Dr O,Dr O,Dr O,Dr O,Dr O,Dr O,Dr O,Dr O,Dr O,Dr O,Dr O,Dr O,Dr O,Dr O,au⟩
  intro u w3 fR _;have aR:=aE.aq fR;refine eP O (Cd.gC O ?_);refine dX O (fz (eW ?_));refine dz O ?_;exact⟨by rw [cj (fun h:cN xss=>by have:=(h.2.2.1.at_ oS).1;omega)],aR.none⟩
 have l7:=hP.all (by omega);have hs:=l7.sys;have js:∀i:Int,0<=i->i<n->(rg rs i).n=(rg rs 0).n:=fun i h0 h1=>by
  have e1:=hR.qu h0 h1;have e2:=(l7 _ (pW h0 (by omega))).1;omega
 refine bn O (bo (rI O ?_));refine Cd.loop (α:=Nat) (fun i=> [(1,.pointer Ab),(3,ak n),(5,ak i)]) (fun i w'=>St w w' [Bx 24 1 Ab [.slice A n c]]/\i<=n/\∀i',i'<i->∀k,k<n->i'+2<=k->∀f,f< (gl xss 0).length->Comm xss i' k f) (fun i=>n - i) 0 (amz O) ⟨aE,aZ _,fun i' di=>by omega⟩ ?_;rintro i e w3 ⟨aR,hi,hC⟩;refine bJ O (aM _ O (fun h6=>?_) (fun h6=>?_))
 ·refine aA O (aH O (aC O ?_));refine Cd.loop (α:=Nat) (fun k=> [(1,.pointer Ab),(3,ak n),(5,ak i),(6,ak k)]) (fun k w'=>St w w' [Bx 24 1 Ab [.slice A n c]]/\i+2<=k/\∀k',k'<k->k'<n->i+2<=k'->∀f,f< (gl xss 0).length->Comm xss i k' f) (fun k=>n+1 - k) (i+2) (amz O) ⟨aR,bs _,fun k' _ _ _=>by omega⟩ ?_;rintro k e w4 ⟨aX,mQ,EB⟩;refine bJ O (aM _ O (fun h7=>?_) (fun h7=>?_))
  ·have rki:=js i (by omega) h6;have rkk:=js k (by omega) h7;refine dw O ?_;refine Cd.loop (α:=Nat) (fun f=> [(1,.pointer Ab),(3,ak n),(5,ak i),(6,ak k),(7,ak f)]) (fun f w'=>St w w' [Bx 24 1 Ab [.slice A n c]]/\f<=(gl xss 0).length/\∀f',f'<f->Comm xss i k f') (fun f=> (gl xss 0).length - f) 0 (amz O) ⟨aX,aZ _,fun f' iH=>by omega⟩ ?_;rintro f e w5 ⟨aY,hf,EC⟩;have hM:=aY.cT hR;have hB:=aY.rd 0 O;have gf:=hM.at_ (i:=i) (by omega) h6;have jt:=hM.at_ (i:=k) (by omega) h7;refine bg O (aU (aY.rd 0 O) O (bh (aY.rd 0 O) O (aD hM.top.2 O (bW hM.top O ?_))));refine bc O O (aC O ?_);refine aM _ O (fun h8=>?_) (fun h8=>?_)
   ·have hii:=(hs _ (pW (k:=(i:Int)) (by omega) (by omega))).2 (f:Int) (by omega) (by omega);have Da:=(hs _ (pW (k:=(k:Int)) (by omega) (by omega))).2 (f:Int) (by omega) (by omega);refine dw O ?_
    by_cases h9:gi (gl xss k) (gi (gl xss i) f)=gi (gl xss i) (gi (gl xss k) f)
    ·by_cases eV:gi (gl xss i) f=gi (gl xss k) f
     ·
      refine eo [xP (ay (Ab) 0),xS (A) (n) (c),xI ((k:Int)),xP (ay (A) ((k:Int)).toNat),xS ((rg (rs) ((k:Int))).a) ((rg (rs) ((k:Int))).n) ((rg (rs) ((k:Int))).c),xP (ay (Ab) 0),xS (A) (n) (c),xI ((i:Int)),xP (ay (A) ((i:Int)).toNat),xS ((rg (rs) ((i:Int))).a) ((rg (rs) ((i:Int))).n) ((rg (rs) ((i:Int))).c),xI ((f:Int)),xP (ay ((rg (rs) ((i:Int))).a) ((f:Int)).toNat),xI (gi (gl xss i) ((f:Int))),xP (ay ((rg (rs) ((k:Int))).a) (gi (gl xss i) ((f:Int))).toNat),xI (gi (gl xss k) (gi (gl xss i) ((f:Int)))),xP (ay (Ab) 0),xS (A) (n) (c),xI ((i:Int)),xP (ay (A) ((i:Int)).toNat),xS ((rg (rs) ((i:Int))).a) ((rg (rs) ((i:Int))).n) ((rg (rs) ((i:Int))).c),xP (ay (Ab) 0),xS (A) (n) (c),xI ((k:Int)),xP (ay (A) ((k:Int)).toNat),xS ((rg (rs) ((k:Int))).a) ((rg (rs) ((k:Int))).n) ((rg (rs) ((k:Int))).c),xI ((f:Int)),xP (ay ((rg (rs) ((k:Int))).a) ((f:Int)).toNat),xI (gi (gl xss k) ((f:Int))),xP (ay ((rg (rs) ((i:Int))).a) (gi (gl xss k) ((f:Int))).toNat),xI (gi (gl xss i) (gi (gl xss k) ((f:Int)))),xB (false),xB (false),xP (ay (Ab) 0),xS (A) (n) (c),xI ((i:Int)),xP (ay (A) ((i:Int)).toNat),xS ((rg (rs) ((i:Int))).a) ((rg (rs) ((i:Int))).n) ((rg (rs) ((i:Int))).c),xI ((f:Int)),xP (ay ((rg (rs) ((i:Int))).a) ((f:Int)).toNat),xI (gi (gl xss i) ((f:Int))),xP (ay (Ab) 0),xS (A) (n) (c),xI ((k:Int)),xP (ay (A) ((k:Int)).toNat),xS ((rg (rs) ((k:Int))).a) ((rg (rs) ((k:Int))).n) ((rg (rs) ((k:Int))).c),xI ((f:Int)),xP (ay ((rg (rs) ((k:Int))).a) ((f:Int)).toNat),xI (gi (gl xss k) ((f:Int))),xB (true),xB (true)] O (eL O) ?_ ?_
      ·exact⟨fun _ _ hb _ _=>aU (hB.below hb) O Az,fun _ _ hb _ _=>bh (hB.below hb) O Az,Dr O,fun _ _ hb _ _=>aD (hM.top.aq hb).2 O Az,fun _ _ hb _ _=>bW (hM.top.aq hb) O Az,fun _ _ hb _ _=>aU (hB.below hb) O Az,fun _ _ hb _ _=>bh (hB.below hb) O Az,Dr O,fun _ _ hb _ _=>aD (hM.top.aq hb).2 O Az,fun _ _ hb _ _=>bW (hM.top.aq hb) O Az,Dr O,fun _ _ hb _ _=>aD (gf.aq hb).2 O Az,fun _ _ hb _ _=>a8 (gf.aq hb) O Az,fun _ _ hb _ _=>aD (jt.aq hb).2 O Az,fun _ _ hb _ _=>a8 (jt.aq hb) O Az,fun _ _ hb _ _=>aU (hB.below hb) O Az,fun _ _ hb _ _=>bh (hB.below hb) O Az,Dr O,fun _ _ hb _ _=>aD (hM.top.aq hb).2 O Az,fun _ _ hb _ _=>bW (hM.top.aq hb) O Az,fun _ _ hb _ _=>aU (hB.below hb) O Az,fun _ _ hb _ _=>bh (hB.below hb) O Az,Dr O,fun _ _ hb _ _=>aD (hM.top.aq hb).2 O Az,fun _ _ hb _ _=>bW (hM.top.aq hb) O Az,Dr O,fun _ _ hb _ _=>aD (jt.aq hb).2 O Az,fun _ _ hb _ _=>a8 (jt.aq hb) O Az,fun _ _ hb _ _=>aD (gf.aq hb).2 O Az,fun _ _ hb _ _=>a8 (gf.aq hb) O Az,fun _ _ _ _ _=>Dk O (by exact aF Value.bool (cj (fun h=>h h9))),Dr O,fun _ _ hb _ _=>av O (aU (hB.below hb) O Az),fun _ _ hb _ _=>av O (bh (hB.below hb) O Az),Dr O,fun _ _ hb _ _=>av O (aD (hM.top.aq hb).2 O Az),fun _ _ hb _ _=>av O (bW (hM.top.aq hb) O Az),Dr O,fun _ _ hb _ _=>av O (aD (gf.aq hb).2 O Az),fun _ _ hb _ _=>av O (a8 (gf.aq hb) O Az),fun _ _ hb _ _=>av O (aU (hB.below hb) O Az),fun _ _ hb _ _=>av O (bh (hB.below hb) O Az),Dr O,fun _ _ hb _ _=>av O (aD (hM.top.aq hb).2 O Az),fun _ _ hb _ _=>av O (bW (hM.top.aq hb) O Az),Dr O,fun _ _ hb _ _=>av O (aD (jt.aq hb).2 O Az),fun _ _ hb _ _=>av O (a8 (jt.aq hb) O Az),fun _ _ _ _ _=>Dk O (by exact aF Value.bool (dM eV)),Dr O,au⟩
      intro u w6 qQ _;have bk:=aY.aq qQ;refine eP O (Cd.gC O ?_);refine dX O (fz (eW (fz (eW (fz (eW ?_))))));refine dz O ?_;exact⟨by rw [cj (fun h:cN xss=> (h.2.2.2.1 i (by omega) k (by omega) mQ f (by omega)).2 eV)],bk.none⟩
     refine eo [xP (ay (Ab) 0),xS (A) (n) (c),xI ((k:Int)),xP (ay (A) ((k:Int)).toNat),xS ((rg (rs) ((k:Int))).a) ((rg (rs) ((k:Int))).n) ((rg (rs) ((k:Int))).c),xP (ay (Ab) 0),xS (A) (n) (c),xI ((i:Int)),xP (ay (A) ((i:Int)).toNat),xS ((rg (rs) ((i:Int))).a) ((rg (rs) ((i:Int))).n) ((rg (rs) ((i:Int))).c),xI ((f:Int)),xP (ay ((rg (rs) ((i:Int))).a) ((f:Int)).toNat),xI (gi (gl xss i) ((f:Int))),xP (ay ((rg (rs) ((k:Int))).a) (gi (gl xss i) ((f:Int))).toNat),xI (gi (gl xss k) (gi (gl xss i) ((f:Int)))),xP (ay (Ab) 0),xS (A) (n) (c),xI ((i:Int)),xP (ay (A) ((i:Int)).toNat),xS ((rg (rs) ((i:Int))).a) ((rg (rs) ((i:Int))).n) ((rg (rs) ((i:Int))).c),xP (ay (Ab) 0),xS (A) (n) (c),xI ((k:Int)),xP (ay (A) ((k:Int)).toNat),xS ((rg (rs) ((k:Int))).a) ((rg (rs) ((k:Int))).n) ((rg (rs) ((k:Int))).c),xI ((f:Int)),xP (ay ((rg (rs) ((k:Int))).a) ((f:Int)).toNat),xI (gi (gl xss k) ((f:Int))),xP (ay ((rg (rs) ((i:Int))).a) (gi (gl xss k) ((f:Int))).toNat),xI (gi (gl xss i) (gi (gl xss k) ((f:Int)))),xB (false),xB (false),xP (ay (Ab) 0),xS (A) (n) (c),xI ((i:Int)),xP (ay (A) ((i:Int)).toNat),xS ((rg (rs) ((i:Int))).a) ((rg (rs) ((i:Int))).n) ((rg (rs) ((i:Int))).c),xI ((f:Int)),xP (ay ((rg (rs) ((i:Int))).a) ((f:Int)).toNat),xI (gi (gl xss i) ((f:Int))),xP (ay (Ab) 0),xS (A) (n) (c),xI ((k:Int)),xP (ay (A) ((k:Int)).toNat),xS ((rg (rs) ((k:Int))).a) ((rg (rs) ((k:Int))).n) ((rg (rs) ((k:Int))).c),xI ((f:Int)),xP (ay ((rg (rs) ((k:Int))).a) ((f:Int)).toNat),xI (gi (gl xss k) ((f:Int))),xB (false),xB (false)] O (eL O) ?_ ?_
     ·exact⟨fun _ _ hb _ _=>aU (hB.below hb) O Az,fun _ _ hb _ _=>bh (hB.below hb) O Az,Dr O,fun _ _ hb _ _=>aD (hM.top.aq hb).2 O Az,fun _ _ hb _ _=>bW (hM.top.aq hb) O Az,fun _ _ hb _ _=>aU (hB.below hb) O Az,fun _ _ hb _ _=>bh (hB.below hb) O Az,Dr O,fun _ _ hb _ _=>aD (hM.top.aq hb).2 O Az,fun _ _ hb _ _=>bW (hM.top.aq hb) O Az,Dr O,fun _ _ hb _ _=>aD (gf.aq hb).2 O Az,fun _ _ hb _ _=>a8 (gf.aq hb) O Az,fun _ _ hb _ _=>aD (jt.aq hb).2 O Az,fun _ _ hb _ _=>a8 (jt.aq hb) O Az,fun _ _ hb _ _=>aU (hB.below hb) O Az,fun _ _ hb _ _=>bh (hB.below hb) O Az,Dr O,fun _ _ hb _ _=>aD (hM.top.aq hb).2 O Az,fun _ _ hb _ _=>bW (hM.top.aq hb) O Az,fun _ _ hb _ _=>aU (hB.below hb) O Az,fun _ _ hb _ _=>bh (hB.below hb) O Az,Dr O,fun _ _ hb _ _=>aD (hM.top.aq hb).2 O Az,fun _ _ hb _ _=>bW (hM.top.aq hb) O Az,Dr O,fun _ _ hb _ _=>aD (jt.aq hb).2 O Az,fun _ _ hb _ _=>a8 (jt.aq hb) O Az,fun _ _ hb _ _=>aD (gf.aq hb).2 O Az,fun _ _ hb _ _=>a8 (gf.aq hb) O Az,fun _ _ _ _ _=>Dk O (by exact aF Value.bool (cj (fun h=>h h9))),Dr O,fun _ _ hb _ _=>av O (aU (hB.below hb) O Az),fun _ _ hb _ _=>av O (bh (hB.below hb) O Az),Dr O,fun _ _ hb _ _=>av O (aD (hM.top.aq hb).2 O Az),fun _ _ hb _ _=>av O (bW (hM.top.aq hb) O Az),Dr O,fun _ _ hb _ _=>av O (aD (gf.aq hb).2 O Az),fun _ _ hb _ _=>av O (a8 (gf.aq hb) O Az),fun _ _ hb _ _=>av O (aU (hB.below hb) O Az),fun _ _ hb _ _=>av O (bh (hB.below hb) O Az),Dr O,fun _ _ hb _ _=>av O (aD (hM.top.aq hb).2 O Az),fun _ _ hb _ _=>av O (bW (hM.top.aq hb) O Az),Dr O,fun _ _ hb _ _=>av O (aD (jt.aq hb).2 O Az),fun _ _ hb _ _=>av O (a8 (jt.aq hb) O Az),fun _ _ _ _ _=>Dk O (by exact aF Value.bool (cj eV)),Dr O,au⟩
     intro u w6 qQ _;have bk:=aY.aq qQ;refine eP O (Cd.fC O ?_);refine aA O (aH O (aT O (tQ ?_)));refine⟨f+1,by omega,(amz O),bk,by omega,fun f' iH=>?_⟩
     by_cases ef:f'=f
     ·subst ef;exact⟨h9,eV⟩
     exact EC f' (by omega)
    refine eo [xP (ay (Ab) 0),xS (A) (n) (c),xI ((k:Int)),xP (ay (A) ((k:Int)).toNat),xS ((rg (rs) ((k:Int))).a) ((rg (rs) ((k:Int))).n) ((rg (rs) ((k:Int))).c),xP (ay (Ab) 0),xS (A) (n) (c),xI ((i:Int)),xP (ay (A) ((i:Int)).toNat),xS ((rg (rs) ((i:Int))).a) ((rg (rs) ((i:Int))).n) ((rg (rs) ((i:Int))).c),xI ((f:Int)),xP (ay ((rg (rs) ((i:Int))).a) ((f:Int)).toNat),xI (gi (gl xss i) ((f:Int))),xP (ay ((rg (rs) ((k:Int))).a) (gi (gl xss i) ((f:Int))).toNat),xI (gi (gl xss k) (gi (gl xss i) ((f:Int)))),xP (ay (Ab) 0),xS (A) (n) (c),xI ((i:Int)),xP (ay (A) ((i:Int)).toNat),xS ((rg (rs) ((i:Int))).a) ((rg (rs) ((i:Int))).n) ((rg (rs) ((i:Int))).c),xP (ay (Ab) 0),xS (A) (n) (c),xI ((k:Int)),xP (ay (A) ((k:Int)).toNat),xS ((rg (rs) ((k:Int))).a) ((rg (rs) ((k:Int))).n) ((rg (rs) ((k:Int))).c),xI ((f:Int)),xP (ay ((rg (rs) ((k:Int))).a) ((f:Int)).toNat),xI (gi (gl xss k) ((f:Int))),xP (ay ((rg (rs) ((i:Int))).a) (gi (gl xss k) ((f:Int))).toNat),xI (gi (gl xss i) (gi (gl xss k) ((f:Int)))),xB (true),xB (true),xU,xU,xU,xU,xU,xU,xU,xU,xU,xU,xU,xU,xU,xU,xU,xU,xU,xB (true)] O (eL O) ?_ ?_
    ·exact⟨fun _ _ hb _ _=>aU (hB.below hb) O Az,fun _ _ hb _ _=>bh (hB.below hb) O Az,Dr O,fun _ _ hb _ _=>aD (hM.top.aq hb).2 O Az,fun _ _ hb _ _=>bW (hM.top.aq hb) O Az,fun _ _ hb _ _=>aU (hB.below hb) O Az,fun _ _ hb _ _=>bh (hB.below hb) O Az,Dr O,fun _ _ hb _ _=>aD (hM.top.aq hb).2 O Az,fun _ _ hb _ _=>bW (hM.top.aq hb) O Az,Dr O,fun _ _ hb _ _=>aD (gf.aq hb).2 O Az,fun _ _ hb _ _=>a8 (gf.aq hb) O Az,fun _ _ hb _ _=>aD (jt.aq hb).2 O Az,fun _ _ hb _ _=>a8 (jt.aq hb) O Az,fun _ _ hb _ _=>aU (hB.below hb) O Az,fun _ _ hb _ _=>bh (hB.below hb) O Az,Dr O,fun _ _ hb _ _=>aD (hM.top.aq hb).2 O Az,fun _ _ hb _ _=>bW (hM.top.aq hb) O Az,fun _ _ hb _ _=>aU (hB.below hb) O Az,fun _ _ hb _ _=>bh (hB.below hb) O Az,Dr O,fun _ _ hb _ _=>aD (hM.top.aq hb).2 O Az,fun _ _ hb _ _=>bW (hM.top.aq hb) O Az,Dr O,fun _ _ hb _ _=>aD (jt.aq hb).2 O Az,fun _ _ hb _ _=>a8 (jt.aq hb) O Az,fun _ _ hb _ _=>aD (gf.aq hb).2 O Az,fun _ _ hb _ _=>a8 (gf.aq hb) O Az,fun _ _ _ _ _=>Dk O (by exact aF Value.bool (dM h9)),Dr O,Dr O,Dr O,Dr O,Dr O,Dr O,Dr O,Dr O,Dr O,Dr O,Dr O,Dr O,Dr O,Dr O,Dr O,Dr O,Dr O,Dr O,Dr O,au⟩
    intro u w6 qQ _;have bk:=aY.aq qQ;refine eP O (Cd.gC O ?_);refine dX O (fz (eW (fz (eW (fz (eW ?_))))));refine dz O ?_;exact⟨by rw [cj (fun h:cN xss=>h9 (h.2.2.2.1 i (by omega) k (by omega) mQ f (by omega)).1)],bk.none⟩
   refine bn O (bo (cL O (aH O (aT O (tQ ?_)))));refine⟨k+1,by omega,(amz O),aY,by omega,fun k' eQ iM tq f' iH=>?_⟩
   by_cases ek:k'=k
   ·subst ek;exact EC f' (by omega)
   exact EB k' (by omega) iM tq f' iH
  refine bn O (bo (cL O (aH O (aT O (tQ ?_)))));refine⟨i+1,by omega,(amz O),aX,by omega,fun i' di k' eQ tq f' iH=>?_⟩
  by_cases ei:i'=i
  ·subst ei;exact EB k' (by omega) eQ tq f' iH
  exact hC i' (by omega) k' eQ tq f' iH
 have hM:=aR.cT hR;have hB:=aR.rd 0 O;refine bn O (bo (rI O ?_));refine eo [xP (ay (Ab) 0),xS (A) (n) (c),.pr (fun v _=>∃A' c',v= .slice A' (eE (gl xss 0).length xss 0).length c'),xI (((eE (gl xss 0).length xss 0).length:Int)),xP (ay (Ab) 0),xS (A) (n) (c),xP (ay (A) ((0:Int)).toNat),xS ((rg (rs) ((0:Int))).a) ((rg (rs) ((0:Int))).n) ((rg (rs) ((0:Int))).c),xI ((((rg (rs) ((0:Int))).n:Nat):Int)),xB (decide ((((eE (gl xss 0).length xss 0).length:Int))=((((rg (rs) ((0:Int))).n:Nat):Int)))),xB (decide ((((eE (gl xss 0).length xss 0).length:Int))=((((rg (rs) ((0:Int))).n:Nat):Int))))] rfl (lx (lx (de.2 ⟨Yd.dp (fun _ _ _ h _=>h),(lx (lx (lx (lx (lx (lx (lx (lx (fun _ h=>by cases h)))))))))⟩))) ?_ ?_
 ·refine⟨fun _ _ hb _ _=>aU (hB.below hb) O Az,fun _ _ hb _ _=>bh (hB.below hb) O Az,?_,?_,fun _ _ hb _ _=>aU (hB.below hb) O Az,fun _ _ hb _ _=>bh (hB.below hb) O Az,fun _ _ hb _ _=>aD (hM.top.aq hb).2 O Az,fun _ _ hb _ _=>bW (hM.top.aq hb) O Az,fun _ _ _ _ _=>bc O O Az,Dr O,Dr O,au⟩
  ·intro e1 w1 hb hp aW;refine aQ (M3 _ _ _ _ _ (gl xss 0).length 0 _ (hM.aq hb) hn hs (by omega) (by omega) (by omega)) O ?_;rintro _ w2 ⟨A',c',rfl,aw⟩;exact ao.n (fM.dn aw.below ⟨A',c',O⟩)
  intro e1 w1 hb hp aW;obtain⟨A',c',KY⟩:=(hp 2 (by decide) rfl _ _ rfl rfl);refine bc (by exact KY) O Az
 intro u w6 qQ _;have bk:=aR.aq qQ;refine BO O (dz O ?_);refine⟨?_,bk.none⟩
 congr 1
 refine kk.2 ⟨fun h=> ⟨by omega,by omega,l7,fun i' di k' eQ tq f' iH=>hC i' (by omega) k' (by omega) tq f' iH,by omega⟩,fun h=>by have:=h.2.2.2.2;omega⟩
def tH(xss:ah)(x:Int)(ws:ai):Int:=ws.foldl (fun x i=>gi (gl xss i) x) x
def pQ(xss:ah)(F:Nat)(ws:ai):ai:=(List.range F).map fun x:Nat=>tH xss x ws
theorem aiK{xss:ah}{x:Int}{ws:ai}(hk:k<ws.length):tH xss x (ws.take (k+1))=gi (gl xss (gi ws k)) (tH xss x (ws.take k)):=by
 unfold tH;rw [lV hk,List.foldl_append];simp [gi,da,fZ hk]
theorem VL{F:Nat}{xss:ah}(hs:Sys F xss):∀(ws:ai) (x:Int),(∀i∈ws,0<=i/\i<xss.length)->0<=x->x<F->0<=tH xss x ws/\tH xss x ws<F
 | [],_,_,h0,h1=> ⟨h0,h1⟩
 | i::ws,x,hw,h0,h1=>by
  have hi:=hw i (by simp);have hg:=(hs _ (pW hi.1 hi.2)).2 x h0 h1;exact VL hs ws _ (fun j hj=>hw j (by simp [hj])) hg.1 hg.2
theorem agp{l:ai}{a b:Int}(h:∀k:Nat,k<l.length->a<=gi l k/\gi l k<b):∀i∈l,a<=i/\i<b:=fun i hi=>by
 obtain⟨k,hk,rfl⟩:=gF.1 hi;have:=h k hk;simpa [gi,da,fZ hk]using this
def OQ(xss:ah):Prop:=cN xss/\2<=xss.length
instance (xss:ah):Decidable (OQ xss):=by unfold OQ;exact inferInstance
theorem IL(A:aj)(n c:Nat)(rs:List aO)(xss:ah)(w:aa)(hR:bF w A n rs xss)(hn:0<n):
 aK prog 179 [.agg #[.slice A n c]] w (fun v w'=>v=ak ((gl xss 0).length:Int)/\St w w' []):=by
 refine bA func179 O ntmps179 O (df O) (bg O (lB (St.refl w) O O ?_));intro Ab w1 hS;have ll:=hS.cT hR;have e0:(gl xss 0).length=(rg rs 0).n:=hR.qu (by omega) (by omega);refine ar O (aU (hS.rd 0 O) O (bh (hS.rd 0 O) O (aD ll.top.2 O (bW ll.top O ?_))));refine bc O O (bI O ?_);refine gZ O ?_;exact⟨by rw [e0],hS.none⟩
theorem afj(A:aj)(n c:Nat)(rs:List aO)(xss:ah)(F:Nat)(x:Int)(Aw:aj)(nw cw:Nat)(ws:ai)(w:aa)(hR:bF w A n rs xss)(hs:Sys F xss)(hW:cg w Aw nw ws)(hnw:nw<=9223372036854775807)(hw:∀k:Nat,k<nw->0<=gi ws k/\gi ws k<n)(h0:0<=x)(hx:x<F):
 aK prog 303 [.agg #[.slice A n c],ak x,.slice Aw nw cw] w (fun v w'=>v=ak (tH xss x ws)/\St w w' []):=by
 have hl:=hR.len;have l9:=hW.1;refine bA func303 O ntmps303 O (df O) (bg O (lB (St.refl w) O O ?_));intro Ab w1 hS;refine aC O (Cd.loop (α:=Nat) (fun k=> [(1,ak (tH xss x (ws.take k))),(2,.slice Aw nw cw),(3,.pointer Ab),(7,ak k)]) (fun k w'=>St w w' [Bx 24 1 Ab [.slice A n c]]/\k<=nw) (fun k=>nw - k) 0 (amz O) ⟨hS,aZ _⟩ ?_);rintro k e w2 ⟨aE,hk⟩;refine bg O (bc O O (aC O ?_));refine aM _ O (fun h1=>?_) (fun h1=>?_)
 ·have eQ:k<nw:=by omega
  have ln:=aE.cT hR;have RV:=aE.gh hW;have xH:=hw k eQ;have bP:=ln.at_ (i:=gi ws k) xH.1 xH.2;have fW:=VL hs (ws.take k) x (fun i hi=>by
   have:=agp (l:=ws) (a:=0) (b:=(n:Int)) (fun j hj=>hw j (by omega)) i (List.mem_of_mem_take hi);omega) h0 hx
  have oV:(rg rs (gi ws k)).n=F:=by
   rw [<-ln.qu xH.1 xH.2];exact(hs _ (pW xH.1 (by omega))).1
  have oW:=aiK (xss:=xss) (x:=x) (ws:=ws) (k:=k) (by omega);generalize hy:tH xss x (ws.take k)=y at*;refine dw O ?_;refine eo [xP (ay (Ab) 0),xS (A) (n) (c),xS (Aw) (nw) (cw),xI ((k:Int)),xP (ay (Aw) ((k:Int)).toNat),xI (gi (ws) ((k:Int))),xP (ay (A) (gi (ws) ((k:Int))).toNat),xS ((rg (rs) (gi (ws) ((k:Int)))).a) ((rg (rs) (gi (ws) ((k:Int)))).n) ((rg (rs) (gi (ws) ((k:Int)))).c),xI (y),xP (ay ((rg (rs) (gi (ws) ((k:Int)))).a) (y).toNat),xI (gi (gl xss (gi ws k)) (y)),xI (gi (gl xss (gi ws k)) (y))] O (eL O) ?_ ?_
  ·exact⟨fun _ _ hb _ _=>aU ((aE.rd 0 O).below hb) O Az,fun _ _ hb _ _=>bh ((aE.rd 0 O).below hb) O Az,Dr O,Dr O,fun _ _ hb _ _=>aD (RV.aq hb).2 O Az,fun _ _ hb _ _=>a8 (RV.aq hb) O Az,fun _ _ hb _ _=>aD (ln.top.aq hb).2 O Az,fun _ _ hb _ _=>bW (ln.top.aq hb) O Az,fun _ _ _ _ aW=>qF O (by exact aW 11 _ O (by kernel_rfl)) O Az,fun _ _ hb _ _=>aD (bP.aq hb).2 O Az,fun _ _ hb _ _=>a8 (bP.aq hb) O Az,Dr O,au⟩
  intro u w3 fR _;have aR:=aE.aq fR;refine jW O (aH O (aT O (tQ ?_)));exact⟨k+1,by show nw - (k+1)<nw - k;omega,⟨by show Value.int .i64 _=ak _;rw [oW],O,O,O,au⟩,aR,eQ⟩
 refine bn O (bo (gq O ?_));refine gZ O ?_;have iM:k=nw:=by omega
 subst iM;exact⟨by rw [<-l9,List.take_length],aE.none⟩
end
section
def cell(M:ah)(i:Nat)(f:Int):Int:=gi (gl M i) f
def VQ(M:ah)(i f:Nat)(v:Int):ah:=M.set i ((gl M i).set f v)
def put(M:ah)(i f g:Nat):ah:=VQ (VQ M i f g) i g f
section
variable {n F:Nat} {M:ah}
theorem aat{i k:Nat}{p:ai}(hi:i<M.length):gl (M.set i p) k=if i=k then p else gl M k:=by
 simp only [gl,jc,da,mI]
 by_cases e:i=k
 ·subst e;simp [hi]
 simp [e]
end
section
variable {n F:Nat} {M:ah} {met at_:Nat}
def grow(n F:Nat)(ok:ah->Nat->Nat->Bool)(fin:ah->Bool):Nat->Nat->Nat->ah->List (ah)
 | 0,_,_,_=> []
 | k+1,at_,met,M=>
  if at_=met*n then(if met=F/\fin M=true then [M]else [])
  else if 0<=cell M (at_%n) (at_ / n:Nat)then grow n F ok fin k (at_+1) met M
  else(List.range' (at_ / n+1) (min met (F - 1) - at_ / n)).flatMap fun g=>
   if 0<=cell M (at_%n) (g:Nat)then []else if ok (put M (at_%n) (at_ / n) g) (at_%n) (at_ / n)=true then grow n F ok fin k (at_+1) (max met (g+1)) (put M (at_%n) (at_ / n) g)else []
end
def kn(M:ah)(i:Nat)(x:Int):Int:=if x<0 then -1 else cell M i x
def Jw(M:ah)(i k:Nat)(f:Int):Prop:=(0<=cell M i f->cell M i f≠cell M k f)/\(0<=kn M k (cell M i f)->0<=kn M i (cell M k f)->kn M k (cell M i f)=kn M i (cell M k f))
instance (M:ah)(i k:Nat)(f:Int):Decidable (Jw M i k f):=by unfold Jw;exact inferInstance
def OO(M:ah)(f:Int):Prop:=∀i,i<M.length->∀k,k<M.length->i+2<=k->Jw M i k f
instance (M:ah)(f:Int):Decidable (OO M f):=by unfold OO;exact inferInstance
def OL(M:ah)(i k:Nat)(f g:Int):Prop:=cell M k f=g\/(0<=cell M k f/\0<=cell M k g/\0<=cell M i (cell M k f)/\cell M i (cell M k f)≠cell M k g)\/(0<=cell M k f/\0<=cell M k g/\0<=cell M i (cell M k g)/\cell M i (cell M k g)≠cell M k f)
instance (M:ah)(i k:Nat)(f g:Int):Decidable (OL M i k f g):=by unfold OL;exact inferInstance
section
variable {n F:Nat} {L M:ah}
def forms(n F:Nat)(k at_ met:Nat)(M:ah):List (ah):=(grow n F (fun _ _ _=>true) (fun _=>true) k at_ met M).filter fun L=>decide (cN L)
end
end
section
open Go.RowKit
def wG(init:ai)(ix v:Nat->Int):Nat->ai
 | 0=>init
 | k+1=> (wG init ix v k).set (ix k).toNat (v k)
theorem Ob(init:ai)(ix v:Nat->Int):∀k,(wG init ix v k).length=init.length
 | 0=>rfl
 | k+1=>by simp [wG,Ob init ix v k]
theorem VO{init:ai}{ix v:Nat->Int}{N:Nat}(hN:init.length=N):∀k,(∀j,j<k->0<=ix j/\ix j<N)->(∀i j,i<k->j<k->ix i=ix j->i=j)->∀j,j<k->gi (wG init ix v k) (ix j)=v j
 | 0,_,_,j,hj=>by omega
 | k+1,hr,hi,j,hj=>by
  have h1:=hr k (by omega);have h2:=hr j hj;show gi ((wG init ix v k).set (ix k).toNat (v k)) (ix j)=v j;rw [r7 h1.1 (by rw [Ob,hN];exact h1.2) h2.1]
  by_cases e:ix k=ix j
  ·rw [aB e,hi k j (by omega) hj e]
  ·rw [az e];have:j≠k:=fun uj=>e (by rw [uj])
   exact VO hN k (fun j hj=>hr j (by omega)) (fun i j h h'=>hi i j (by omega) (by omega)) j (by omega)
def DJ(m:Nat):ai:=(List.range m).map fun(k:Nat)=> (k:Int)
theorem ai0(m:Nat):(DJ m).length=m:=by simp [DJ]
theorem ai1{m:Nat}{x:Int}:x∈DJ m↔0<=x/\x<m:=by
 simp only [DJ,dA,il];exact⟨fun⟨k,hk,e⟩=>by omega,fun h=> ⟨x.toNat,by omega,by omega⟩⟩
def nk(N:Nat)(o:ai):ai:=wG (List.replicate N 0) (fun k=>gi o k) (fun k=> (k:Int)) o.length
theorem Pt(N:Nat)(o:ai):(nk N o).length=N:=by simp [nk,Ob]
structure uQ(N:Nat)(o:ai):Prop where
 len:o.length=N
 nodup:o.Nodup
 range:∀x∈o,0<=x/\x< (N:Int)
section
variable {N:Nat} {o:ai}
theorem uQ.gO(h:uQ N o){k:Nat}(hk:k<N):0<=gi o k/\gi o k<N:=h.range _ (gi_in (by rw [h.len];exact hk))
theorem uQ.inj(h:uQ N o){i j:Nat}(hi:i<N)(hj:j<N)(e:gi o i=gi o j):i=j:=by
 rw [b9 (by rw [h.len];exact hi),b9 (by rw [h.len];exact hj)]at e;exact(List.getElem_inj h.nodup).1 e
theorem uQ.back(h:uQ N o){k:Nat}(hk:k<N):gi (nk N o) (gi o k)=k:=
 VO (N:=N) (by simp) o.length (fun j hj=>h.gO (by rw [<-h.len];exact hj)) (fun i j hi hj e=>h.inj (by rw [<-h.len];exact hi) (by rw [<-h.len];exact hj) e) k (by rw [h.len];exact hk)
theorem uQ.H0(h:uQ N o){x:Int}(h0:0<=x)(h1:x<N):∃k:Nat,k<N/\gi o k=x:=by
 apply qy;intro bU;have hx:x∉o:=fun hm=>by
  obtain⟨k,hk,e⟩:=gF.1 hm;exact bU ⟨k,by rw [<-h.len];exact hk,by rw [b9 hk];exact e⟩
 have:=sJ (N:=N) (l:=x::o) (lU.2 ⟨hx,h.nodup⟩) (fun y hy=>by
  rcases iP.1 hy with rfl | hy
  ·exact⟨h0,h1⟩
  exact h.range y hy)
 rw [List.length_cons,h.len]at this;omega
theorem uQ.Pu(h:uQ N o){x:Int}(h0:0<=x)(h1:x<N):∃k:Nat,k<N/\gi o k=x/\gi (nk N o) x=k:=by
 obtain⟨k,hk,e⟩:=h.H0 h0 h1;exact⟨k,hk,e,by rw [<-e];exact h.back hk⟩
end
def jV(o b mv:ai):ai:=o.map fun x=>gi b (gi mv x)
def pT(N:Nat)(xss:ah)(f:Int):ah:=xss.map fun mv=>jV (eE N xss f) (nk N (eE N xss f)) mv
theorem Q3(N:Nat)(xss:ah)(f:Int):(pT N xss f).length=xss.length:=by simp [pT]
def np(a b:Int):Int:=if a<b then -1 else if b<a then 1 else 0
def iW:ai->ai->Int
 | [],[]=>0
 | [],_::_=> -1
 | _::_,[]=>1
 | a::l,b::r=>if np a b=0 then iW l r else np a b
def Uk:ah->ah->Int
 | [],[]=>0
 | [],_::_=> -1
 | _::_,[]=>1
 | a::l,b::r=>if iW a b=0 then Uk l r else iW a b
theorem Cx{a b:Int}:np a b=0↔a=b:=by unfold np;by_cases h:a<b<;>by_cases h':b<a<;>simp [h,h']<;>omega
theorem GQ{a b:Int}:np a b<0↔a<b:=by unfold np;by_cases h:a<b<;>by_cases h':b<a<;>simp [h,h']<;>omega
theorem YN(a b:Int):np b a= - np a b:=by unfold np;split<;>split<;>omega
theorem Nf:∀ {a b:ai},iW a b=0↔a=b
 | [],[]=>by simp [iW]
 | [],_::_=>by simp [iW]
 | _::_,[]=>by simp [iW]
 | a::l,b::r=>by
  simp only [iW]
  split
  ·rename_i h;rw [Nf,Cx.1 h];simp
  ·rename_i h;constructor
   ·intro h';exact absurd h' h
   ·intro h';exact absurd (Cx.2 (List.cons.inj h').1) h
theorem Nd:∀(a b:ai),iW b a= - iW a b
 | [],[]=>rfl
 | [],_::_=>rfl
 | _::_,[]=>rfl
 | a::l,b::r=>by
  simp only [iW];rw [YN a b,Nd l r]
  by_cases h:np a b=0
  ·rw [aB h,aB (by omega)]
  ·rw [az h,az (by omega)]
theorem Ul:∀ {a b c:ai},iW a b<0->iW b c<0->iW a c<0
 | [],[],_,h,_=>by simp [iW]at h
 | [],_::_,[],_,h=>by simp [iW]at h
 | [],_::_,_::_,_,_=>by simp [iW]
 | _::_,[],_,h,_=>by simp [iW]at h
 | _::_,_::_,[],_,h=>by simp [iW]at h
 | a::l,b::r,c::s,h,h'=>by
  simp only [iW]at h h'|-
  by_cases e1:np a b=0
  ·have:=Cx.1 e1;subst this;rw [aB e1]at h
   by_cases e2:np a c=0
   ·rw [aB e2]at h'|-;exact Ul h h'
   ·rw [az e2]at h'|-;exact h'
  ·rw [az e1]at h;have eB:=GQ.1 h
   by_cases e2:np b c=0
   ·have:=Cx.1 e2;subst this;rw [az e1];exact h
   ·rw [az e2]at h';have EM:=GQ.1 h';have HG:np a c<0:=GQ.2 (by omega);rw [az (by omega)];exact HG
section
variable {n F:Nat}
end
end
end Go.Proofs.YtkccgdhcpplblaaGreatDoor.Vc
