/-
 Lemmas. Conditions: as each states them.
-/
import Derived.Test.YtagdamiiececaaaGreatDoorZh
import Derived.Deep.Matrix
import Derived.ChangeSame
import Derived.ProofKit
import Derived.OpenShut
import Derived.Handed
import Derived.Lib.SmallJoins
set_option maxHeartbeats 8000000
namespace Go.Proofs.YtagdamiiececaaaGreatDoor.Vc
open Tryz
section
open Go.RowKit
variable{i m b:Nat}{fl:ag}
def lR(N:Nat):List aH->List (List aH)->List (ag)->List Ck
 | o::os,r::rss,X::Xs=>aW 24 2 o.a N o.c r X++lR N os rss Xs
 | _,_,_=> []
theorem Ay(N:Nat):∀ {os:List aH} {rss:List (List aH)} {Xs:List (ag)} {i:Nat},i<os.length->rss.length=os.length->Xs.length=os.length->
 (lR N os rss Xs).Perm (aW 24 2 (os.getD i bA).a N (os.getD i bA).c (rss.getD i []) (Xs.getD i [])++lR N (os.eraseIdx i) (rss.eraseIdx i) (Xs.eraseIdx i))
 | o::os,r::rss,X::Xs,0,_,_,_=>List.Perm.refl _
 | o::os,r::rss,X::Xs,i+1,h,h1,h2=>by
  have ih:=Ay N (os:=os) (rss:=rss) (Xs:=Xs) (i:=i) (by simpa using h) (by simpa using h1) (by simpa using h2);simp only [List.getD_cons_succ,List.eraseIdx_cons_succ,lR];refine(ih.append_left _).trans ?_;rw [<-fB,<-fB];exact gB.append_right _
 | [],_,_,_,h,_,_=>absurd h (gR _)
 | _::_,[],_,_,_,h,_=>by simp at h
 | _::_,_::_,[],_,_,_,h=>by simp at h
theorem AJ{α:Type}(x:α):∀(l:List α) (i:Nat),(l.set i x).eraseIdx i=l.eraseIdx i
 | [],_=>rfl
 | _::_,0=>rfl
 | a::r,i+1=>by simp only [List.set_cons_succ,List.eraseIdx_cons_succ,AJ x r i]
theorem Mm(N:Nat){os:List aH}{rss:List (List aH)}{Xs:List (ag)}(r:List aH)(X:ag)(h:i<os.length)(h1:rss.length=os.length)(h2:Xs.length=os.length):(aW 24 2 (os.getD i bA).a N (os.getD i bA).c r X++lR N (os.eraseIdx i) (rss.eraseIdx i) (Xs.eraseIdx i)).Perm (lR N os (rss.set i r) (Xs.set i X)):=by
 have h9:=(Ay N (os:=os) (rss:=rss.set i r) (Xs:=Xs.set i X) (i:=i) h (by rw [iS];exact h1) (by rw [iS];exact h2)).symm;rw [AJ,AJ]at h9;have e1:(rss.set i r).getD i []=r:=by rw [bX,List.getElem?_set_self (by omega)];rfl
 have e2:(Xs.set i X).getD i []=X:=by rw [bX,List.getElem?_set_self (by omega)];rfl
 rwa [e1,e2]at h9
theorem Fo(N:Nat):∀ {os:List aH} {rss:List (List aH)} {Xs:List (ag)} (o:aH) (r:List aH) (X:ag),rss.length=os.length->Xs.length=os.length->lR N (os++ [o]) (rss++ [r]) (Xs++ [X])=lR N os rss Xs++aW 24 2 o.a N o.c r X
 | [],[],[],o,r,X,_,_=>by simp [lR]
 | a::os,b::rss,c::Xs,o,r,X,h,h'=>by
  simp only [List.cons_append,lR,Fo N (os:=os) (rss:=rss) (Xs:=Xs) o r X (by simpa using h) (by simpa using h'),fB]
 | [],_::_,_,_,_,_,h,_=>by simp at h
 | [],[],_::_,_,_,_,_,h=>by simp at h
 | _::_,[],_,_,_,_,h,_=>by simp at h
 | _::_,_::_,[],_,_,_,_,h=>by simp at h
open Classical in
noncomputable def nO(n:Nat)(fl:ag)(i a m:Nat):ah:=((List.range m).filter fun b=>decide (kg n fl i a b/\b≠a)).map fun b:Nat=> (b:Int)
theorem Jf(n:Nat)(fl:ag)(i a:Nat):nO n fl i a fl.length=tg n fl i a:=rfl
theorem SC{n:Nat}{a:Nat}(h:kg n fl i a m/\m≠a):nO n fl i a (m+1)=nO n fl i a m++ [(m:Int)]:=by
 unfold nO;rw [lg,mn,iT];rw [List.filter_cons_of_pos (by simpa using h)];rfl
theorem Jh{n:Nat}{a:Nat}(h:¬(kg n fl i a m/\m≠a)):nO n fl i a (m+1)=nO n fl i a m:=by
 unfold nO;rw [lg,mn,iT];rw [List.filter_cons_of_neg (by simpa using h)];simp
theorem Jg(n:Nat)(fl:ag)(i a m:Nat):(nO n fl i a m).length<=m:=by
 unfold nO;rw [fv];refine gm (jN _ _) ?_;rw [n3];exact cO _
theorem My{n:Nat}(lY:fl.Nodup)(hl:∀x∈fl,x.length=n){a:Nat}(ha:a<fl.length)(hb:b<fl.length)(hi:i<n):(nq (gl fl a) (gl fl b) n=1/\gi (gl fl a) i≠gi (gl fl b) i)↔(kg n fl i a b/\b≠a):=by
 unfold nq;constructor
 ·rintro⟨h1,h2⟩;refine⟨⟨ha,hb,fun k hk cG=>?_⟩,fun e=>h2 (by rw [e])⟩;obtain⟨y,hy⟩:=List.length_eq_one_iff.1 h1;have hm:∀q,q<n->gi (gl fl a) q≠gi (gl fl b) q->q=y:=fun q hq hd=>by
   have:q∈(List.range n).filter fun k:Nat=>decide (gi (gl fl a) k≠gi (gl fl b) k):=eO.2 ⟨iI.2 hq,dF hd⟩
   rw [hy]at this;exact fQ.1 this
  refine kK fun hd=>cG ?_
  rw [hm k hk hd,hm i hi h2]
 rintro⟨h,cG⟩;have hd:gi (gl fl a) i≠gi (gl fl b) i:=fun e=>cG (FM lY hl hb ha fun k hk=>by
  by_cases ek:k=i
  ·subst ek;exact e.symm
  exact(h.2.2 k hk ek).symm)
 refine⟨?_,hd⟩;have:(List.range n).filter (fun k:Nat=>decide (gi (gl fl a) k≠gi (gl fl b) k))=[i]:=by
  refine List.Perm.eq_singleton ?_;refine(List.perm_ext_iff_of_nodup (List.nodup_range.filter _) (by simp)).2 fun q=>?_
  rw [eO,iI,jj,fQ];constructor
  ·rintro⟨hq,PH⟩;exact kK fun e=>PH (h.2.2 q hq e)
  rintro rfl;exact⟨hi,hd⟩
 rw [this];rfl
noncomputable def ma(n:Nat)(fl:ag)(a b k i a':Nat):ah:=if a'<a then nO n fl i a' fl.length else if a'=a then(if i<k then nO n fl i a (b+1)else nO n fl i a b)else []
noncomputable def mc(n:Nat)(fl:ag)(a b k i:Nat):ag:=(List.range fl.length).map (ma n fl a b k i)
noncomputable def fN(n:Nat)(fl:ag)(a b k:Nat):List (ag):=(List.range n).map (mc n fl a b k)
section
variable {n:Nat} {fl:ag} {a b k i:Nat}
theorem qt:(mc n fl a b k i).length=fl.length:=by simp [mc]
theorem th:(fN n fl a b k).length=n:=by simp [fN]
theorem DT(h:i<n):(fN n fl a b k).getD i []=mc n fl a b k i:=by
 rw [bX,dE (by rw [th];exact h),Option.getD_some];simp [fN]
theorem DU{a':Nat}(h:a'<fl.length):gl (mc n fl a b k i) a'=ma n fl a b k i a':=by
 rw [cQ (by rw [qt];exact h)];simp [mc]
theorem zc{a2 b2 k2:Nat}(h:∀i a',i<n->a'<fl.length->ma n fl a b k i a'=ma n fl a2 b2 k2 i a'):fN n fl a b k=fN n fl a2 b2 k2:=
 ki fun i hi=>ki fun a' ha=>h i a' (iI.1 hi) (iI.1 ha)
theorem SK:fN n fl 0 0 0=List.replicate n (List.replicate fl.length []):=by
 refine List.eq_replicate_iff.2 ⟨th,fun y hy=>?_⟩;obtain⟨i,_,rfl⟩:=fq.1 hy;refine List.eq_replicate_iff.2 ⟨qt,fun z hz=>?_⟩;obtain⟨a',_,rfl⟩:=fq.1 hz;unfold ma;rw [aB (gR _)]
 split
 ·rw [aB (gR _)];rfl
 rfl
theorem SI:fN n fl (a+1) 0 0=fN n fl a fl.length 0:=zc fun i a' _ ha=>by
 unfold ma
 by_cases c:a'<a
 ·rw [aF (by omega),aF c]
 rw [aB c]
 by_cases c2:a'=a
 ·subst c2;rw [aF (by omega),aF rfl,aB (gR _)]
 rw [aB (by omega),aB c2]
 split
 ·rw [aB (gR _)];rfl
 rfl
theorem SF:fN n fl a (b+1) 0=fN n fl a b n:=zc fun i a' hi ha=>by
 unfold ma;rw [aB (gR i),aF hi]
theorem SG(h:∀i,i<n->¬(kg n fl i a b/\b≠a)):fN n fl a (b+1) 0=fN n fl a b 0:=zc fun i a' hi ha=>by
 unfold ma;rw [aB (gR i),Jh (h i hi),aB (gR i)]
theorem SJ(h:¬(kg n fl k a b/\b≠a)):fN n fl a b (k+1)=fN n fl a b k:=zc fun i a' hi ha=>by
 unfold ma
 by_cases c:a'<a
 ·rw [aF c,aF c]
 rw [aB c,aB c]
 by_cases c2:a'=a
 ·rw [aF c2,aF c2]
  by_cases c3:i=k
  ·subst c3;rw [aF (by omega),aB (by omega),Jh h]
  by_cases c4:i<k
  ·rw [aF (by omega),aF c4]
  rw [aB (by omega),aB c4]
 rw [aB c2,aB c2]
theorem SH(hk:k<n)(ha:a<fl.length)(h:kg n fl k a b/\b≠a):(fN n fl a b k).set k ((mc n fl a b k k).set a (gl (mc n fl a b k k) a++ [(b:Int)]))=fN n fl a b (k+1):=by
 apply gj (by rw [iS,th,th]);intro i h1 h2;rw [th]at h2;rw [List.getElem_set];have e2:∀k' (hx:i< (fN n fl a b k').length),(fN n fl a b k')[i]=mc n fl a b k' i:=fun k' hx=>by simp [fN]
 rw [e2 (k+1) (by rw [th];exact h2),e2 k (by rw [th];exact h2)]
 by_cases c:k=i
 ·subst c;rw [aF rfl];apply gj (by rw [iS,qt,qt]);intro a' h3 h4;rw [qt]at h4;have e3:∀k' (hx:a'< (mc n fl a b k' k).length),(mc n fl a b k' k)[a']=ma n fl a b k' k a':=fun k' hx=>by simp [mc]
  rw [List.getElem_set,e3 (k+1) (by rw [qt];exact h4),e3 k (by rw [qt];exact h4),DU ha];unfold ma
  by_cases c2:a=a'
  ·subst c2;rw [aF rfl,aB (Nat.lt_irrefl _),aF rfl,aB (Nat.lt_irrefl _),aB (Nat.lt_irrefl _),aF rfl,aF (Nat.lt_succ_self _),SC h]
  rw [aB c2]
  by_cases c3:a'<a
  ·rw [aF c3,aF c3]
  rw [aB c3,aB c3,aB (fun e=>c2 e.symm),aB (fun e=>c2 e.symm)]
 rw [aB c];refine ki fun a' GW=>?_
 unfold ma
 by_cases c3:a'<a
 ·rw [aF c3,aF c3]
 rw [aB c3,aB c3]
 by_cases c2:a'=a
 ·rw [aF c2,aF c2]
  by_cases c4:i<k
  ·rw [aF c4,aF (by omega)]
  rw [aB c4,aB (by omega)]
 rw [aB c2,aB c2]
end
theorem S7{α:Type}(m o:α)(X R:List α):(m::o::(X++ [])++R).Perm (o::((X++ (m::R))++ [])):=by
 classical
 refine nb.2 fun z=>?_
 simp only [nY,mm,pA,List.cons_append];omega
structure je(w w':aa)(N n:Nat)(A3:ai)(c3:Nat)(os:List aH)(rss:List (List aH))(Xs:List (ag)):Prop where
 ol:os.length=n
 rl:rss.length=n
 xl:Xs.length=n
 on:∀i,i<n->(os.getD i bA).n=N
 rn:∀i,i<n->(rss.getD i []).length=N
 xn:∀i,i<n->(Xs.getD i []).length=N
 st:St w w' (aQ 25 A3 n c3 os::(lR N os rss Xs++ []))
theorem je.ao{w w' nU:aa}{N n:Nat}{A3:ai}{c3:Nat}{os:List aH}{rss:List (List aH)}{Xs:List (ag)}(h:je w w' N n A3 c3 os rss Xs)(hb:Below w'.heap.size w' nU):je w nU N n A3 c3 os rss Xs:=⟨h.ol,h.rl,h.xl,h.on,h.rn,h.xn,h.st.ao hb⟩
theorem je.rows{w w':aa}{N n:Nat}{A3:ai}{c3:Nat}{os:List aH}{rss:List (List aH)}{Xs:List (ag)}(h:je w w' N n A3 c3 os rss Xs){k:Nat}(hk:k<n):
 St w w' (aQ 25 A3 n c3 os::(aW 24 2 (os.getD k bA).a N (os.getD k bA).c (rss.getD k []) (Xs.getD k [])++lR N (os.eraseIdx k) (rss.eraseIdx k) (Xs.eraseIdx k))):=by
 have h9:=h.st;rw [eG]at h9;have h1:=h.ol;have h2:=h.rl;have h3:=h.xl;exact h9.perm ((Ay N (by omega) (by omega) (by omega)).cons _)
theorem je.aW{w w':aa}{N n:Nat}{A3:ai}{c3:Nat}{os:List aH}{rss:List (List aH)}{Xs:List (ag)}(h:je w w' N n A3 c3 os rss Xs){k:Nat}(hk:k<n):bu w' (os.getD k bA).a N (rss.getD k []) (Xs.getD k []):=((h.rows hk).sub ((nc _ _).cons _)).nQ (h.xn k hk)
theorem getD_set_ne{α:Type}{l:List α}{i j:Nat}{x d:α}(h:i≠j):(l.set i x).getD j d=l.getD j d:=by
 rw [bX,bX,List.getElem?_set_ne h]
theorem F1{α:Type}{l:List α}{i:Nat}{x d:α}(h:i<l.length):(l.set i x).getD i d=x:=by
 rw [bX,List.getElem?_set_self h];rfl
theorem je.put{w w':aa}{N n:Nat}{A3:ai}{c3:Nat}{os:List aH}{rss:List (List aH)}{Xs:List (ag)}{w0 w1:aa}(h:je w0 w1 N n A3 c3 os rss Xs){k:Nat}(hk:k<n){r:List aH}{X:ag}(hr:r.length=N)(hX:X.length=N)(hS:St w w' (aQ 25 A3 n c3 os::(Vc.aW 24 2 (os.getD k bA).a N (os.getD k bA).c r X++lR N (os.eraseIdx k) (rss.eraseIdx k) (Xs.eraseIdx k)))):je w w' N n A3 c3 os (rss.set k r) (Xs.set k X):=by
 have h1:=h.ol;have h2:=h.rl;have h3:=h.xl;refine⟨h1,by rw [iS];exact h2,by rw [iS];exact h3,h.on,fun i hi=>?_,fun i hi=>?_,?_⟩
 ·by_cases e:k=i
  ·subst e;rw [F1 (by omega)];exact hr
  rw [getD_set_ne e];exact h.rn i hi
 ·by_cases e:k=i
  ·subst e;rw [F1 (by omega)];exact hX
  rw [getD_set_ne e];exact h.xn i hi
 rw [eG];exact hS.perm ((Mm N r X (by omega) (by omega) (by omega)).cons _)
theorem Rx(A:ai)(N c:Nat)(rs:List aH)(fl:ag)(n:Nat)(w:aa)(hM:bu w A N rs fl)(BU:0<N)(hN:N<=400)(hn:n<=5)(hl:∀x∈fl,x.length=n)(lY:fl.Nodup):
 aG prog 182 [.slice A N c] w (fun v w'=>∃A3 c3 os rss,v= .slice A3 n c3/\je w w' N n A3 c3 os rss (fN n fl N 0 0)):=by
 have eC:=hM.len;have kY:∀f:Nat,f<N->gl fl f∈fl:=fun f hf=>by rw [cQ (by omega)];exact di _
 have bw:∀f:Nat,f<N->(rg rs f).n=n:=fun f hf=>by
  have:=(hM.at_ (i:=(f:Int)) (by omega) (by omega)).1;rw [<-this];exact hl _ (kY f hf)
 have HG:=fun a b i (ha:a<N) (hb:b<N) (hi:i<n)=>My (n:=n) (a:=a) (b:=b) (i:=i) lY hl (by omega) (by omega) hi
 have hz:=SK (n:=n) (fl:=fl);have Dc:=fun a=>SI (n:=n) (fl:=fl) (a:=a)
 rw [eC]at hz;simp only [eC]at Dc;have lA:∀a b k i,(mc n fl a b k i).length=N:=fun a b k i=>by rw [qt,eC]
 refine bs func182 O ntmps182 O (bF O) (aY O (ic (St.refl w) O ?_));intro A3 w1 aD;have Gy:je w w1 N 0 A3 0 [] [] (List.replicate 0 (List.replicate N [])):=⟨O,O,O,fun i h=>absurd h (gR _),fun i h=>absurd h (gR _),fun i h=>absurd h (gR _),aD⟩;clear aD;refine aA O (Cd.loop (α:=Nat×(ai×Nat)×List aH×List (List aH)) (fun z=> [(0,.slice A N c),(3,.slice z.2.1.1 z.1 z.2.1.2),(4,aj (z.1:Int))]) (fun z w'=>z.1<=n/\je w w' N z.1 z.2.1.1 z.2.1.2 z.2.2.1 z.2.2.2 (List.replicate z.1 (List.replicate N []))) (fun z=>n - z.1) (0,(A3,0),[],[]) (Wn O) ⟨bk _,Gy⟩ ?_);clear Gy;rintro⟨i,⟨A3,c3⟩,os,rss⟩ e w2 ⟨hi,hS⟩;dsimp only at hi hS|-;have vI:=hS.st.bE hM;have l4:=bw 0 BU;refine aY O (aR O O (aq O ?_));refine bR 12 O (fun _=>?_) (fun h=>absurd (by omega) h);refine ar O (aq O (ar O (aq O (ar O ?_))));refine Wf (i:=0) vI.top.2 O O O (by omega) (by omega) (ar O ?_);refine Wk (i:=0) vI.top O (by show 0<N;omega) O O ?_;refine ar O (aR O O (ar O (aA O ?_)));have e0:(rg rs 0).n=n:=l4;rw [e0];refine aJ _ O (fun h2=>?_) (fun h2=>?_)
 ·have cd:i<n:=by omega
  refine aC O (aR O O ?_);refine xo N hS.st O O (by omega) ?_;intro Eu w3 aL;have aL:=wO (t:=2) N aL;have aL:=aL.perm (S7 _ _ _ _);refine mu aL O O O fun A26 w4 aN=>iU 1 aN O (aN.dB 0 O) O O O (by omega) (by omega) O ?_;intro AZ cZ w5 aV;have aV:=aV.tail;have h1:=hS.ol;have Gb:=hS.rl;have h3:=hS.xl;have lU:=Fo N (os:=os) (rss:=rss) (Xs:=List.replicate i (List.replicate N [])) ⟨Eu,N,N⟩ (List.replicate N bA) (List.replicate N []) (by omega) (by simp;omega);refine aq O (aI O (aM O (tQ ?_)));refine⟨(i+1,(AZ,cZ),os++ [⟨Eu,N,N⟩],rss++ [List.replicate N bA]),by show n - (i+1)<n - i;omega,(Wn O),by show i+1<=n;omega,?_⟩;have mJ:∀ {α:Type} {l:List α} {x d:α} {j:Nat},l.length=i->j<i+1->(l++ [x]).getD j d=if j<i then l.getD j d else x:=fun {α l x d j} hl hj=>by
   rw [bX]
   by_cases c:j<i
   ·rw [aF c,mo (by omega),bX]
   obtain rfl:j=l.length:=by omega
   rw [aB c];simp
  refine⟨by simp [h1],by simp [Gb],by simp,fun j hj=>?_,fun j hj=>?_,fun j hj=>?_,?_⟩
  ·rw [mJ h1 hj]
   split
   ·exact hS.on j (by assumption)
   rfl
  ·rw [mJ Gb hj]
   split
   ·exact hS.rn j (by assumption)
   simp
  ·rw [bX,List.getElem?_replicate,aF hj];simp
  rw [List.replicate_succ',lU];exact aV
 obtain rfl:i=n:=by omega
 rw [<-hz]at hS;refine bj O (bl (lK O ?_));refine Cd.loop (α:=Nat×List (List aH)) (fun z=> [(0,.slice A N c),(3,.slice A3 i c3),(5,aj (z.1:Int))]) (fun z w'=>z.1<=N/\je w w' N i A3 c3 os z.2 (fN i fl z.1 0 0)) (fun z=>N - z.1) (0,rss) (Wn O) ⟨bk _,hS⟩ ?_;clear hS vI;rintro⟨a,rss⟩ e w3 ⟨ha,hS⟩;dsimp only at ha hS|-;refine aY O (aR O O (aA O ?_));refine aJ _ O (fun h3=>?_) (fun h3=>?_)
 ·have oZ:a<N:=by omega
  refine cj O (Cd.loop (α:=Nat×List (List aH)) (fun z=> [(0,.slice A N c),(3,.slice A3 i c3),(5,aj a),(6,aj (z.1:Int))]) (fun z w'=>z.1<=N/\je w w' N i A3 c3 os z.2 (fN i fl a z.1 0)) (fun z=>N - z.1) (0,rss) (Wn O) ⟨bk _,hS⟩ ?_);clear hS;rintro⟨b,rss⟩ e w4 ⟨hb,hS⟩;dsimp only at hb hS|-;refine aY O (aR O O (aA O ?_));refine aJ _ O (fun h4=>?_) (fun h4=>?_)
  ·have uj:b<N:=by omega
   have su:=hS.st.bE hM;have lB:=su.at_ (i:=(a:Int)) (by omega) (by omega);have jb:=su.at_ (i:=(b:Int)) (by omega) (by omega);have yv:=bw a oZ;have Hy:=bw b uj;refine cj O ?_;refine cN [xS (A) (N) (c),xI ((a:Int)),xP (az (A) ((a:Int)).toNat),xS ((rg (rs) ((a:Int))).a) ((rg (rs) ((a:Int))).n) ((rg (rs) ((a:Int))).c),xS (A) (N) (c),xI ((b:Int)),xP (az (A) ((b:Int)).toNat),xS ((rg (rs) ((b:Int))).a) ((rg (rs) ((b:Int))).n) ((rg (rs) ((b:Int))).c),xI ((nq (gl fl a) (gl fl b) (rg rs a).n:Nat):Int),xB (decide (¬((nq (gl fl a) (gl fl b) (rg rs a).n:Nat):Int)=((1:Int))))] O (da O) ?_ ?_
   ·refine⟨Dr O,Dr O,fun _ _ hb _ _=>aw (su.top.ao hb).2 O Az,fun _ _ hb _ _=>bn (su.top.ao hb) O Az,Dr O,Dr O,fun _ _ hb _ _=>aw (su.top.ao hb).2 O Az,fun _ _ hb _ _=>bn (su.top.ao hb) O Az,?_,Dr O,av⟩;intro e1 w1 hb hp aZ;refine aO (Rs (rg rs a).a (rg rs b).a (rg rs a).n (rg rs a).c (rg rs b).n (rg rs b).c (gl fl a) (gl fl b) _ (lB.ao hb) (jb.ao hb) (by omega) (by omega)) O ?_;rintro _ w9 ⟨rfl,jX⟩;exact ak.n (ew.dn jX.below O)
   intro u w5 iY _;have aV:=hS.ao iY;refine dM O (aJ _ O (fun h5=>?_) (fun h5=>?_))
   ·have yz:=SG (n:=i) (fl:=fl) (a:=a) (b:=b) fun q hq h=>h5 (by
     have:=((HG a b q oZ uj hq).2 h).1;rw [yv,this];rfl)
    refine aC O (aI O (aM O (tQ ?_)));exact⟨(b+1,rss),by show N - (b+1)<N - b;omega,(Wn O),by show b+1<=N;omega,by show je w w5 N i A3 c3 os rss (fN i fl a (b+1) 0);rw [yz];exact aV⟩
   have h5:nq (gl fl a) (gl fl b) i=1:=by rw [yv]at h5;omega
   clear hS su lB jb;refine cj O (Cd.loop (α:=Nat×List (List aH)) (fun z=> [(0,.slice A N c),(3,.slice A3 i c3),(5,aj a),(6,aj b),(7,aj (z.1:Int))]) (fun z w'=>z.1<=i/\je w w' N i A3 c3 os z.2 (fN i fl a b z.1)) (fun z=>i - z.1) (0,rss) (Wn O) ⟨bk _,aV⟩ ?_);clear aV;rintro⟨k,rss⟩ e w6 ⟨hk,hS⟩;dsimp only at hk hS|-;have iK:=hS.st.bE hM;have lB:=iK.at_ (i:=(a:Int)) (by omega) (by omega);have jb:=iK.at_ (i:=(b:Int)) (by omega) (by omega);have Pj:=lB.1;have yp:=jb.1;refine aY O (aw iK.top.2 O (bn iK.top O ?_));refine aR O O (aA O ?_);refine aJ _ O (fun h6=>?_) (fun h6=>?_)
   ·have dI:k<i:=by omega
    have vV:=HG a b k oZ uj dI;refine cj O ?_;refine cN [xS (A) (N) (c),xI ((a:Int)),xP (az (A) ((a:Int)).toNat),xS ((rg (rs) ((a:Int))).a) ((rg (rs) ((a:Int))).n) ((rg (rs) ((a:Int))).c),xI ((k:Int)),xP (az ((rg (rs) ((a:Int))).a) ((k:Int)).toNat),xI (gi (gl fl a) ((k:Int))),xS (A) (N) (c),xI ((b:Int)),xP (az (A) ((b:Int)).toNat),xS ((rg (rs) ((b:Int))).a) ((rg (rs) ((b:Int))).n) ((rg (rs) ((b:Int))).c),xI ((k:Int)),xP (az ((rg (rs) ((b:Int))).a) ((k:Int)).toNat),xI (gi (gl fl b) ((k:Int))),xB (decide (¬(gi (gl fl a) ((k:Int)))=(gi (gl fl b) ((k:Int)))))] O (da O) ?_ ?_
    ·exact⟨Dr O,Dr O,fun _ _ hb _ _=>aw (iK.top.ao hb).2 O Az,fun _ _ hb _ _=>bn (iK.top.ao hb) O Az,Dr O,fun _ _ hb _ _=>aw (lB.ao hb).2 O Az,fun _ _ hb _ _=>a6 (lB.ao hb) O Az,Dr O,Dr O,fun _ _ hb _ _=>aw (iK.top.ao hb).2 O Az,fun _ _ hb _ _=>bn (iK.top.ao hb) O Az,Dr O,fun _ _ hb _ _=>aw (jb.ao hb).2 O Az,fun _ _ hb _ _=>a6 (jb.ao hb) O Az,Dr O,av⟩
    intro u w7 lr _;have bm:=hS.ao lr;clear hS iK lB jb;refine dM O (aJ _ O (fun h7=>?_) (fun h7=>?_))
    ·have fy:=vV.1 ⟨h5,h7⟩;have pc:=SH (n:=i) (fl:=fl) (b:=b) dI (by omega:a<fl.length) fy;have uF:=bm.rows dI;have hX:=DT (n:=i) (fl:=fl) (a:=a) (b:=b) (k:=k) dI;have kC:=bm.aW dI;have C2:=bm.on k dI;have eM:=bm.rn k dI;rw [hX]at uF kC;have HU:=kC.at_ (i:=(a:Int)) (by omega) (by omega);have hbound:(rg (rss.getD k []) a).n<=500:=by
      rw [<-HU.1,DU (by omega)];unfold ma;rw [aB (Nat.lt_irrefl _),aF rfl,aB (Nat.lt_irrefl _)];have:=Jg i fl k a b;omega
     obtain⟨oa,oc,ho⟩:∃oa oc,os.getD k bA=⟨oa,N,oc⟩:=⟨(os.getD k bA).a,(os.getD k bA).c,by rw [<-C2]⟩;have yx:(os.getD k bA).v= .slice oa N oc:=by rw [ho];rfl
     rw [ho]at uF kC;obtain⟨rk,fF⟩:∃rk,rss.getD k []=rk:=⟨_,rfl⟩;obtain⟨Xk,B9⟩:∃Xk,mc i fl a b k k=Xk:=⟨_,rfl⟩;have GR:Xk.length=N:=by rw [<-B9];exact lA ..
     rw [fF,B9]at uF kC HU;rw [fF]at eM hbound;rw [B9]at pc;obtain⟨KS,Gs⟩:∃KS,lR N (os.eraseIdx k) (rss.eraseIdx k) ((fN i fl a b k).eraseIdx k)=KS:=⟨_,rfl⟩;rw [Gs]at uF;have hO:eU w7 A3 i os:=uF.dB 0 O;have mL:∀A9:ai,(aE 2 A9 1 1 [(b:Int)]::aQ 25 A3 i c3 os::(aW 24 2 oa N oc rk Xk++KS))[2+1+a]?=some (aE 2 (rg rk a).a (rg rk a).n (rg rk a).c (gl Xk a)):=fun A9=>rO (t1:=24) (t2:=2) (A:=oa) (n:=N) (c:=oc) (rs:=rk) (xss:=Xk) (pre:=[aE 2 A9 1 1 [(b:Int)],aQ 25 A3 i c3 os]) (ks:=KS) (i:=a) (by omega) (by omega)
     have mJ:=fun(A9:ai) (s:aH) (xs:ah)=>DN (t1:=24) (t2:=2) (A:=oa) (n:=N) (c:=oc) (rs:=rk) (xss:=Xk) (ks:=KS) (pre:=[aE 2 A9 1 1 [(b:Int)],aQ 25 A3 i c3 os]) (i:=a) s xs (by omega) (by omega)
     refine jc [14,16] [yS (A3) (i) (c3),yI ((k:Int)),yP (az A3 ((k:Int)).toNat),yS (oa) (N) (oc),yI ((a:Int)),yS (A3) (i) (c3),yI ((k:Int)),yP (az A3 ((k:Int)).toNat),yS (oa) (N) (oc),yI ((a:Int)),yP (az (oa) ((a:Int)).toNat),yS ((rg (rk) ((a:Int))).a) ((rg (rk) ((a:Int))).n) ((rg (rk) ((a:Int))).c),yI ((b:Int)),.pr (fun v w'=>∃A9,v= .slice A9 1 1/\St w w' (aE 2 A9 1 1 [(b:Int)]::aQ 25 A3 i c3 os::(aW 24 2 oa N oc rk Xk++KS))),.pr (fun v w'=>∃AZ cZ,v= .slice AZ ((rg rk a).n+1) cZ/\St w w' (aQ 25 A3 i c3 os::(aQ 24 oa N oc rk::(cw 2 (rk.set a ⟨AZ,(rg rk a).n+1,cZ⟩) (Xk.set a (gl Xk a++ [(b:Int)]))++KS)))),yP (az oa ((a:Int)).toNat),.pr (fun _ w'=>∃AZ cZ,St w w' (aQ 25 A3 i c3 os::(aW 24 2 oa N oc (rk.set a ⟨AZ,(rg rk a).n+1,cZ⟩) (Xk.set a (gl Xk a++ [(b:Int)]))++KS)))] (by kernel_rfl) (by kernel_rfl) (ly (ly (ly (ly (ly (ly (ly (ly (ly (ly (ly (ly (ly (cq.2 ⟨Ye.ct (fun v w w' h hb=>by obtain⟨A9,hv,hT⟩:=h;exact⟨A9,hv,hT.ao hb⟩),(cq.2 ⟨Ye.ct (fun v w w' h hb=>by obtain⟨AZ,cZ,hv,hT⟩:=h;exact⟨AZ,cZ,hv,hT.ao hb⟩),(ly (cq.2 ⟨Ye.ct (fun v w w' h hb=>by obtain⟨AZ,cZ,hT⟩:=h;exact⟨AZ,cZ,hT.ao hb⟩),(fun _ h=>by cases h)⟩))⟩)⟩)))))))))))))) ?_ ?_
     ·refine⟨b8 O,b8 O,?_,?_,b8 O,b8 O,b8 O,cP fun _ _ hb _ _ _=>aw (hO.ao hb).2 O (bJ O O),cP fun _ _ hb _ _ _=>ak.ld (hO.ao hb).2 (j:=k) O (by omega) yx O O (bJ O O),b8 O,cP fun _ _ hb _ _ _=>aw (kC.top.ao hb).2 O (bJ O O),cP fun _ _ hb _ _ _=>bn (kC.top.ao hb) O (bJ O O),b8 O,?_,?_,?_,?_,av⟩
      ·intro e1 w1 cc en cC dq hp aZ hq;show ak _ _ _ _ _ _ _;have hX:eU w1 A3 i os:=by { have cC:=k7 cC (b:=1) (by kernel_rfl);rcases(show cc=0\/cc=1 by omega)with h | h; { exact hO.ao (dq h) }; { subst h;obtain⟨AZ,cZ,_,hT⟩:=hq 14 _ _ (by kernel_rfl) (by kernel_rfl) (by kernel_rfl) rfl rfl (by kernel_rfl);exact hT.dB 0 rfl } }
       refine aw hX.2 O (ak.n (fO O (by exact O)))
      ·intro e1 w1 cc en cC dq hp aZ hq;show ak _ _ _ _ _ _ _;have hX:eU w1 A3 i os:=by { have cC:=k7 cC (b:=1) (by kernel_rfl);rcases(show cc=0\/cc=1 by omega)with h | h; { exact hO.ao (dq h) }; { subst h;obtain⟨AZ,cZ,_,hT⟩:=hq 14 _ _ (by kernel_rfl) (by kernel_rfl) (by kernel_rfl) rfl rfl (by kernel_rfl);exact hT.dB 0 rfl } }
       refine ak.ld hX.2 (j:=k) O (by omega) yx O O (ak.n (fO O (by exact O)))
      ·refine cP fun e1 w1 hb hp aZ hq=>?_
       exact e6 (St.refl _) O O O fun A9 w9 ax=>ak.n (eS.dn O ax.below ⟨A9,O,(uF.ao hb).call ax⟩)
      ·refine jh fun e1 w1 hb hp aZ hq=>?_
       obtain⟨A9,NL,hT⟩:=(hp 13 _ _ (by kernel_rfl) rfl rfl (by kernel_rfl));refine fS (2+1+a) hT (mL A9) (hT.bU 0 O) O (by exact NL) O (by omega) (by omega) O ?_;intro AZ cZ wZ hZ;have hZ:=(mJ A9 ⟨AZ,(rg rk a).n+1,cZ⟩ (gl Xk a++ [(b:Int)]))▸hZ;exact ak.n (eA.dn O ⟨AZ,cZ,O,hZ.tail⟩)
      ·intro e1 w1 cc en cC dq hp aZ hq;show ak _ _ _ _ _ _ _;have hX:eU w1 oa N rk:=by { have cC:=k7 cC (b:=1) (by kernel_rfl);rcases(show cc=0\/cc=1 by omega)with h | h; { exact kC.top.ao (dq h) }; { subst h;obtain⟨AZ,cZ,_,hT⟩:=hq 14 _ _ (by kernel_rfl) (by kernel_rfl) (by kernel_rfl) rfl rfl (by kernel_rfl);exact hT.dB 1 rfl } }
       refine aw hX.2 O (ak.n (fO O (by exact O)))
      refine mD 1 fun e1 w1 hp aZ hq=>?_
      have cS:=hp 14 _ _ (by kernel_rfl) O O (by kernel_rfl);obtain⟨AZ,cZ,Bw,hT⟩:=cS;refine tF (te:=24) (n:=N) (c:=oc) (A:=oa) (xs:=rk) 1 hT O O (by exact Bw) (by omega) ?_;intro wY hY;exact ak.n (eA.st O ⟨AZ,cZ,hY⟩)
     intro u w8 _ hu _ _;obtain⟨AZ,cZ,hT⟩:=hu 16 _ rfl (by kernel_rfl);have Gz:=bm.put dI (r:=rk.set a ⟨AZ,(rg rk a).n+1,cZ⟩) (X:=Xk.set a (gl Xk a++ [(b:Int)])) (by rw [iS];exact eM) (by rw [iS];exact GR) (by rw [ho,Gs];exact hT);rw [pc]at Gz;refine ib O (aI O (aM O (tQ ?_)));exact⟨(k+1,rss.set k (rk.set a ⟨AZ,(rg rk a).n+1,cZ⟩)),by show i - (k+1)<i - k;omega,(Wn O),by show k+1<=i;omega,Gz⟩
    have lD:=SJ (n:=i) (fl:=fl) (a:=a) (b:=b) (k:=k) fun h=>h7 (vV.2 h).2
    refine aC O (aI O (aM O (tQ ?_)));exact⟨(k+1,rss),by show i - (k+1)<i - k;omega,(Wn O),by show k+1<=i;omega,by show je w w7 N i A3 c3 os rss (fN i fl a b (k+1));rw [lD];exact bm⟩
   have Hp:k=i:=by omega
   have PE:=SF (n:=i) (fl:=fl) (a:=a) (b:=b);rw [Hp,<-PE]at hS;refine bj O (bl (cn O (aI O (aM O (tQ ?_)))));exact⟨(b+1,rss),by show N - (b+1)<N - b;omega,(Wn O),by show b+1<=N;omega,hS⟩
  have yc:b=N:=by omega
  rw [yc,<-Dc]at hS;refine bj O (bl (cn O (aI O (aM O (tQ ?_)))));exact⟨(a+1,rss),by show N - (a+1)<N - a;omega,(Wn O),by show a+1<=N;omega,hS⟩
 have GZ:a=N:=by omega
 rw [GZ]at hS;refine bj O (bl (dd O ?_));exact dH O ⟨A3,c3,os,rss,O,hS⟩
section
variable {P:Program} {N:Nat} {ops:Array Oper} {K:Env->aa->Prop} {rest:List Oper} {e:Env} {w:aa} {d:Nat} {ty:ad} {pos:String} {af:Array Edge} {x y:ae} {xt yt:ad}
theorem KZ{m i:Nat}(hx:ev e x=aj m)(hy:ev e y= .int .u64 (i:Int))(hi:i<=5)(hm:m<=32)(hb:Nat.blt d N=true)(hK:ak P N ops K rest (br e d (aj ((m / 2^i:Nat):Int))) w):
 ak P N ops K (⟨some d,.binOp .shr xt x y yt,ty,pos,af,none⟩::rest) e w:=by
 refine .val (v:=aj ((m / 2^i:Nat):Int)) ?_ hb hK;have e1:min i IntKind.i64.bits=i:=Nat.min_eq_left (gm hi (by decide));have e2:¬(i:Int)<0:=by omega
 have e3:(m:Int).fdiv (2^i)=((m / 2^i:Nat):Int):=by
  rw [Int.fdiv_eq_ediv_of_nonneg _ (by have:=Int.pow_nonneg (n:=2) (m:=i) (by decide);omega)];simp
 simp [execOp,hx,hy,eqGuard,binOp,Op.shift,e1,e2,e3]
theorem EN{i:Nat}(hx:ev e x=aj 1)(hy:ev e y= .int .u64 (i:Int))(hi:i<=5)(hb:Nat.blt d N=true)(hK:ak P N ops K rest (br e d (aj ((2^i:Nat):Int))) w):
 ak P N ops K (⟨some d,.binOp .shl xt x y yt,ty,pos,af,none⟩::rest) e w:=by
 refine .val (v:=aj ((2^i:Nat):Int)) ?_ hb hK;have e1:min i IntKind.i64.bits=i:=Nat.min_eq_left (gm hi (by decide));have e2:¬(i:Int)<0:=by omega
 have e3:IntKind.i64.wrap ((1:Int)*2^i)=((2^i:Nat):Int):=by
  rcases(by omega:i=0\/i=1\/i=2\/i=3\/i=4\/i=5)with rfl | rfl | rfl | rfl | rfl | rfl<;>decide
 rw [Int.one_mul]at e3;simp [execOp,hx,hy,eqGuard,binOp,Op.shift,e1,e2,e3]
theorem Lr:∀m:Nat,m<33->bits .and .i64 (m:Int) 1=((m%2:Nat):Int):=by decide
theorem KF{m:Nat}(hx:ev e x=aj m)(hy:ev e y=aj 1)(hm:m<=32)(hb:Nat.blt d N=true)(hK:ak P N ops K rest (br e d (aj ((m%2:Nat):Int))) w):
 ak P N ops K (⟨some d,.binOp .and xt x y yt,ty,pos,af,none⟩::rest) e w:=
 .val (by simp only [execOp,hx,hy,eqGuard,binOp,intBits_and,Lr m (by omega)];simp) hb hK
end
structure u9(w:aa)(N n:Nat)(A3:ai)(os:List aH)(rss:List (List aH))(Xs:List (ag)):Prop where
 top:eU w A3 n os
 on:∀i,i<n->(os.getD i bA).n=N
 row:∀i,i<n->bu w (os.getD i bA).a N (rss.getD i []) (Xs.getD i [])
theorem u9.ao{w w':aa}{N n:Nat}{A3:ai}{os:List aH}{rss:List (List aH)}{Xs:List (ag)}(h:u9 w N n A3 os rss Xs)(hb:Below w.heap.size w w'):u9 w' N n A3 os rss Xs:=⟨h.top.ao hb,h.on,fun i hi=> (h.row i hi).ao hb⟩
theorem je.rd{w w':aa}{N n:Nat}{A3:ai}{c3:Nat}{os:List aH}{rss:List (List aH)}{Xs:List (ag)}(h:je w w' N n A3 c3 os rss Xs):u9 w' N n A3 os rss Xs:=⟨h.st.dB 0 rfl,h.on,fun _ hi=>h.aW hi⟩
open Classical in
theorem Ji{n:Nat}{fl:ag}{i a:Nat}{y:Int}:y∈tg n fl i a↔∃y':Nat,y=y'/\y'<fl.length/\kg n fl i a y'/\y'≠a:=by
 unfold tg;rw [fq];constructor
 ·rintro⟨y',h,rfl⟩;rw [eO,iI,jj]at h;exact⟨y',O,h.1,h.2⟩
 rintro⟨y',rfl,h1,h2⟩;exact⟨y',by rw [eO,iI,jj];exact⟨h1,h2⟩,O⟩
def iy(mask:Nat)(i:Nat):Prop:=mask / 2^i%2=1
theorem Rw(A3:ai)(c3:Nat)(os:List aH)(rss:List (List aH))(fl:ag)(n N mask:Nat)(w:aa)(eC:fl.length=N)(hR:u9 w N n A3 os rss (fN n fl N 0 0))(hm:mask<=32)(hN:N<=400)(hn:n<=5):
 aG prog 183 [.slice A3 n c3,aj N,aj mask] w (fun v w'=>∃A' c' L,v= .slice A' N c'/\fA N (dN n fl (iy mask)) N L/\St w w' [aE 2 A' N c' L]):=by
 have pR:pF N (dN n fl (iy mask)):=eC▸dN.rR n fl (iy mask);have hX:∀i x:Nat,i<n->x<N->gl ((fN n fl N 0 0).getD i []) x=tg n fl i x:=fun i x hi hx=>by
  rw [DT hi,DU (by omega)];unfold ma;rw [aF hx,Jf]
 have eW:∀i,i<n->((fN n fl N 0 0).getD i []).length=N:=fun i hi=>by rw [DT hi,qt,eC]
 have gX:∀i x,(tg n fl i x).length<=N:=fun i x=>by rw [<-Jf,<-eC];exact Jg ..
 generalize fN n fl N 0 0=Xs at*;refine bs func183 O ntmps183 O (bF O) (aY O (ic (St.refl w) O ?_));intro A7 w1 aD;refine aA O (Cd.loop (α:=Nat×ai×Nat) (fun z=> [(0,.slice A3 n c3),(1,aj N),(2,aj mask),(7,.slice z.2.1 z.1 z.2.2),(8,aj (z.1:Int))]) (fun z w'=>z.1<=N/\St w w' [aE 2 z.2.1 z.1 z.2.2 (List.replicate z.1 (-1))]) (fun z=>N - z.1) (0,A7,0) (Wn O) ⟨bk _,aD⟩ ?_);clear aD;rintro⟨i,A7,c7⟩ e w2 ⟨hi,hS⟩;dsimp only at hi hS|-;refine bH O (aJ _ O (fun h1=>?_) (fun h1=>?_))
 ·refine aC O (e6 (i:= -1) hS O O O ?_);intro A9 w3 aL;refine fS 1 aL O (aL.bU 0 O) O O O (by omega) (by omega) O ?_;intro AZ cZ w4 aN;have aN:=aN.tail;refine aq O (aI O (aM O (tQ ?_)));exact⟨(i+1,AZ,cZ),by show N - (i+1)<N - i;omega,(Wn O),by show i+1<=N;omega,by show St w w4 [aE _ AZ (i+1) cZ (List.replicate (i+1) (-1))];rw [List.replicate_succ'];exact aN⟩
 obtain rfl:i=N:=by omega
 refine bj O (bl (lK O ?_));refine Cd.loop (α:=Nat×ah) (fun z=> [(0,.slice A3 n c3),(1,aj i),(2,aj mask),(7,.slice A7 i c7),(9,aj (z.1:Int))]) (fun z w'=>z.1<=i/\fA i (dN n fl (iy mask)) z.1 z.2/\St w w' [aE 2 A7 i c7 z.2]) (fun z=>i - z.1) (0,List.replicate i (-1)) (Wn O) ⟨bk _,fA.zero _ _,hS⟩ ?_;clear hS;rintro⟨f,L0⟩ e w3 ⟨hf,iJ,hS⟩;dsimp only at hf iJ hS|-;have ny:=iJ.1;refine bH O (aJ _ O (fun h1=>?_) (fun h1=>?_))
 ·have ja:f<i:=by omega
  have kq:=hS.bU 0 O;have BN:dN n fl (iy mask) f f:= .refl (by omega);refine aC O (aw kq.2 O (a6 kq O (aA O ?_)));refine aJ _ O (fun h2=>?_) (fun h2=>?_)
  ·refine aC O (aI O (aM O (tQ ?_)));exact⟨(f+1,L0),by show i - (f+1)<i - f;omega,(Wn O),by show f+1<=i;omega,iJ.skip pR ja (.inl h2),hS⟩
  have h0:gi L0 f<0:=by omega
  refine aC O (aw kq.2 O (ak.mg 0 hS O O O (by omega) ?_));intro w4 aN;have aN:St w w4 [aE 2 A7 i c7 (L0.set f (f:Int))]:=aN;refine aq O (e6 aN O O O ?_);intro bB w5 aV;have dp:=jg.start (A:=qD n fl (iy mask)) ny ja h0 BN;refine aA O (Cd.loop (α:=Nat×ah×List Nat×ai×Nat) (fun z=> [(0,.slice A3 n c3),(1,aj i),(2,aj mask),(7,.slice A7 i c7),(9,aj f),(10,.slice z.2.2.2.1 z.2.2.1.length z.2.2.2.2),(11,aj (z.1:Int))]) (fun z w'=>jg i (dN n fl (iy mask)) (qD n fl (iy mask)) f L0 z.2.1 z.2.2.1 z.1/\St w w' [aE 2 z.2.2.2.1 z.2.2.1.length z.2.2.2.2 (gx z.2.2.1),aE 2 A7 i c7 z.2.1]) (fun z=>i+1 - z.1) (0,L0.set f (f:Int),[f],bB,1) (Wn O) ⟨dp,aV⟩ ?_);clear aV aN hS kq dp;rintro⟨k,L,Q,Ao,co⟩ e w6 ⟨dp,hS⟩;dsimp only at dp hS|-;have l0:=dp.rV;have fE:=dp.yW;refine aY O (aR O O (aA O ?_));refine aJ _ O (fun h3=>?_) (fun h3=>?_)
  ·have fh:k<Q.length:=by omega
   obtain⟨x,hx⟩:∃x,Q.getD k 0=x:=⟨_,rfl⟩;have wD:x∈Q:=by rw [<-hx,bX,dE fh];exact di _
   have js:=dp.rJ x wD;refine cj O (Cd.loop (α:=Nat×ah×List Nat×ai×Nat) (fun z=> [(0,.slice A3 n c3),(1,aj i),(2,aj mask),(7,.slice A7 i c7),(9,aj f),(10,.slice z.2.2.2.1 z.2.2.1.length z.2.2.2.2),(11,aj k),(12,aj (z.1:Int))]) (fun z w'=>z.1<=n/\jg i (dN n fl (iy mask)) (qD n fl (iy mask)) f L0 z.2.1 z.2.2.1 k/\(k<z.2.2.1.length/\z.2.2.1.getD k 0=x)/\(∀q y:Nat,q<z.1->¬iy mask q->kg n fl q x y->y≠x->0<=gi z.2.1 y)/\St w w' [aE 2 z.2.2.2.1 z.2.2.1.length z.2.2.2.2 (gx z.2.2.1),aE 2 A7 i c7 z.2.1]) (fun z=>n - z.1) (0,L,Q,Ao,co) (Wn O) ⟨bk _,dp,⟨fh,hx⟩,fun q y h=>absurd h (gR _),hS⟩ ?_);clear hS dp hx wD fh l0 fE h3;rintro⟨r,Li,Qi,Ao,co⟩ e w7 ⟨hr,dp,⟨fh,hx⟩,iF,hS⟩;dsimp only at hr dp fh hx iF hS|-;refine aY O (aR O O (aA O ?_));refine aJ _ O (fun h4=>?_) (fun h4=>?_)
   ·have eM:r<n:=by omega
    refine aC O (qG O O (tw _ (by omega)) (KZ O O (by omega) hm O (KF O O (gm (Nat.div_le_self _ _) hm) O (aA O ?_))));refine aJ _ O (fun h5=>?_) (fun h5=>?_)
    ·have hb:iy mask r:=by unfold iy;omega
     refine aC O (aI O (aM O (tQ ?_)));exact⟨(r+1,Li,Qi,Ao,co),by show n - (r+1)<n - r;omega,(Wn O),by show r+1<=n;omega,dp,⟨fh,hx⟩,fun q y hq hs ha cG=>by
      by_cases eq:q=r
      ·subst eq;exact absurd hb hs
      exact iF q y (by have hq:q<r+1:=hq;omega) hs ha cG,hS⟩
    have hb:¬iy mask r:=by unfold iy;omega
    have xZ:=hR.ao hS.below;have C2:=hR.on r eM;have kC:=xZ.row r eM;have yT:=hX r x eM js.1;have GR:=eW r eM;have Pt:=gX r x;have jq:∀ {w':aa} {ks:List Ck},St w w' ks->bS w' (rg (rss.getD r []) x).a (rg (rss.getD r []) x).n (tg n fl r x):=fun h=>by
     have h9:=((hR.ao h.below).row r eM).at_ (i:=(x:Int)) (by omega) (by omega);rw [yT]at h9;exact h9
    obtain⟨oa,oc,ho⟩:∃oa oc,os.getD r bA=⟨oa,i,oc⟩:=⟨(os.getD r bA).a,(os.getD r bA).c,by rw [<-C2]⟩;have yx:(os.getD r bA).v= .slice oa i oc:=by rw [ho];rfl
    rw [ho]at kC;generalize hXr:Xs.getD r []=Xr at*;generalize hrr:rss.getD r []=rr at*;have eQ:=kC.at_ (i:=(x:Int)) (by omega) (by omega);rw [yT]at eQ;have rH:=eQ.1;have vT:gi (gx Qi) k=(x:Int):=by rw [Ie fh,hx]
    have l0:=dp.rV;have sA:=hS.bU 0 O;have yh:(gx Qi).length=Qi.length:=by simp [gx]
    refine cj O (cN [xS (A3) (n) (c3),xI ((r:Int)),xP (az A3 ((r:Int)).toNat),xS (oa) (i) (oc),xS (Ao) (Qi.length) (co),xI ((k:Int)),xP (az (Ao) ((k:Int)).toNat),xI ((x:Int)),xP (az (oa) ((x:Int)).toNat),xS ((rg (rr) ((x:Int))).a) ((rg (rr) ((x:Int))).n) ((rg (rr) ((x:Int))).c),xS ((rg (rr) ((x:Int))).a) ((rg (rr) ((x:Int))).n) ((rg (rr) ((x:Int))).c)] O (da O) ?_ ?_)
    ·exact⟨Dr O,Dr O,fun _ _ hb _ _=>aw (xZ.top.ao hb).2 O Az,fun _ _ hb _ _=>ak.ld (xZ.top.ao hb).2 (j:=r) O (by omega) yx O O Az,Dr O,Dr O,fun _ _ hb _ _=>aw (sA.ao hb).2 O Az,fun _ _ hb _ _=>ak.ld (sA.ao hb).2 (j:=k) O (by omega) (by exact aS (Value.int .i64) vT) O O Az,fun _ _ hb _ _=>aw (kC.top.ao hb).2 O Az,fun _ _ hb _ _=>bn (kC.top.ao hb) O Az,Dr O,av⟩
    intro u w8 On _;have bI:=hS.ao On;clear kC xZ sA hS;obtain⟨sx,wy⟩:∃sx,rg rr x=sx:=⟨_,rfl⟩;rw [wy]at rH|-;simp only [wy]at jq;obtain⟨ys,rI⟩:∃ys,tg n fl r x=ys:=⟨_,rfl⟩;simp only [rI]at jq;rw [rI]at rH Pt;have ug:∀y∈ys,∃y':Nat,y=y'/\y'<i/\kg n fl r x y'/\y'≠x:=fun y hy=>by
     rw [<-rI]at hy;rw [<-eC];exact Ji.1 hy
    refine dM O (Cd.loop (α:=Nat×ah×List Nat×ai×Nat) (fun z=> [(0,.slice A3 n c3),(1,aj i),(2,aj mask),(7,.slice A7 i c7),(9,aj f),(10,.slice z.2.2.2.1 z.2.2.1.length z.2.2.2.2),(11,aj k),(12,aj r),(13,.slice sx.a sx.n sx.c),(14,aj (z.1:Int))]) (fun z w'=>z.1<=sx.n/\jg i (dN n fl (iy mask)) (qD n fl (iy mask)) f L0 z.2.1 z.2.2.1 k/\(k<z.2.2.1.length/\z.2.2.1.getD k 0=x)/\(∀p:Nat,p<z.1->0<=gi z.2.1 (gi ys p))/\(∀y:Nat,0<=gi Li y->0<=gi z.2.1 y)/\St w w' [aE 2 z.2.2.2.1 z.2.2.1.length z.2.2.2.2 (gx z.2.2.1),aE 2 A7 i c7 z.2.1]) (fun z=>sx.n - z.1) (0,Li,Qi,Ao,co) (Wn O) ⟨bk _,dp,⟨fh,hx⟩,fun p h=>absurd h (gR _),fun y h=>h,bI⟩ ?_);clear bI dp fh hx vT yh l0;rintro⟨q,L,Q,Ao,co⟩ e iR ⟨hq,dp,⟨fh,hx⟩,p8,ow,hS⟩;dsimp only at hq dp fh hx p8 ow hS|-;have l0:=dp.rV;have NX:=dp.len;refine aY O (aR O O (aA O ?_));refine aJ _ O (fun h6=>?_) (fun h6=>?_)
    ·have C7:q<ys.length:=by omega
     have nI:=jq hS;obtain⟨y,hy,qm,wE,Qm⟩:=ug _ (gi_in C7);have kq:=hS.bU 1 O;refine aC O (aw nI.2 O (a6 nI O ?_));rw [hy];refine aw kq.2 O (a6 kq O (aA O ?_));refine aJ _ O (fun h7=>?_) (fun h7=>?_)
     ·have kC:=dp.meet qm h7 (pR.pq _ _ _ js.2.2 (qD.link ⟨r,eM,hb,wE,Qm⟩));refine aC O (aw nI.2 O (a6 nI O ?_));rw [hy];refine aq O (aw kq.2 O (ak.mg 1 hS O O O (by omega) ?_));intro lb kV;have nI:=jq kV;refine aq O (aw nI.2 O (a6 nI O ?_));rw [hy];refine e6 kV O O O fun A9 uX kW=>fS 1 kW O (kW.bU 0 O) O O O (by omega) (by omega) O ?_;intro AZ cZ r8 jC;have jC:=jC.tail;have v7:(Q++ [y]).length=Q.length+1:=by simp
      refine aq O (aI O (aM O (tQ ?_)));refine⟨(q+1,L.set y (f:Int),Q++ [y],AZ,cZ),by show sx.n - (q+1)<sx.n - q;omega,⟨O,O,O,O,O,aS (fun m=>Value.slice AZ m cZ) v7.symm,O,O,O,O,av⟩,by show q+1<=sx.n;omega,kC,⟨by show k< (Q++ [y]).length;omega,by show(Q++ [y]).getD k 0=x;rw [F0 fh,hx]⟩,fun p hp=>?_,fun z hz=>vB (ow z hz),?_⟩
      ·by_cases ep:p=q
       ·subst ep;rw [hy];have h9:=F3 (L:=L) (y:=y) (f:=f) (by omega);show 0<=gi (L.set y (f:Int)) y;omega
       have hp:p<q+1:=hp;obtain⟨y9,Dt,_,_⟩:=ug _ (gi_in (show p<ys.length by omega));have h9:=p8 p (by omega);rw [Dt]at h9|-;exact vB h9
      show St w r8 [aE _ AZ (Q++ [y]).length cZ (gx (Q++ [y])),_];rw [v7,show gx (Q++ [y])=gx Q++ [(y:Int)] by simp [gx]];exact jC
     refine aC O (aI O (aM O (tQ ?_)));refine⟨(q+1,L,Q,Ao,co),by show sx.n - (q+1)<sx.n - q;omega,(Wn O),by show q+1<=sx.n;omega,dp,⟨fh,hx⟩,fun p hp=>?_,ow,hS⟩
     by_cases ep:p=q
     ·subst ep;rw [hy];show 0<=gi L y;omega
     have hp:p<q+1:=hp;exact p8 p (by omega)
    have dV:∀y:Nat,(y:Int)∈ys->0<=gi L y:=fun y hy=>by
     obtain⟨p,hp,e9⟩:=fP.1 hy;rw [<-bQ hp]at e9;have:=p8 p (by omega)
     rwa [e9]at this
    refine bj O (bl (cn O (aI O (aM O (tQ ?_)))));refine⟨(r+1,L,Q,Ao,co),by show n - (r+1)<n - r;omega,(Wn O),by show r+1<=n;omega,dp,⟨fh,hx⟩,fun q' y yC hs ha cG=>?_,hS⟩
    by_cases eq:q'=r
    ·subst eq;exact dV y (by rw [<-rI];exact Ji.2 ⟨y,O,ha.2.1,ha,cG⟩)
    exact ow y (iF q' y (by have yC:q'<r+1:=yC;omega) hs ha cG)
   have hre:r=n:=by omega
   have l0:=dp.rV;have qe:=dp.next fh fun y hy=>by
    rw [hx]at hy;obtain⟨q,hq,hs,ha,cG⟩:=hy;exact iF q y (by omega) hs ha cG
   refine bj O (bl (cn O (aI O (aM O (tQ ?_)))));exact⟨(k+1,Li,Qi,Ao,co),by show i+1 - (k+1)<i+1 - k;have:=dp.rV;omega,(Wn O),qe,hS⟩
  have fh:k=Q.length:=by omega
  subst fh;have pV:=dp.end_ pR iJ ja h0 (fun S aD ay=>dN.ind S aD ay) (fun x y h=>h.link);refine bj O (bl (cn O (aI O (aM O (tQ ?_)))));exact⟨(f+1,L),by show i - (f+1)<i - f;omega,(Wn O),by show f+1<=i;omega,pV,hS.tail⟩
 have pX:f=i:=by omega
 rw [pX]at iJ;refine bj O (bl (dd O ?_));exact dH O ⟨A7,c7,L0,O,iJ,hS⟩
theorem dN.cv{n:Nat}{fl:ag}{S S':Nat->Prop}(hS:∀k,k<n->(S k↔S' k)){u v:Nat}(h:dN n fl S u v):dN n fl S' u v:=by
 induction h with
 | refl h=>exact .refl h
 | step _ hi hs Ce ih=>exact .step ih hi (fun h=>hs ((hS _ hi).2 h)) Ce
def nN(a b:ah):Nat->Nat
 | 0=>0
 | i+1=>if gi a i=gi b i then nN a b i+2^i else nN a b i
theorem DQ(a b:ah):∀i,nN a b i<2^i
 | 0=>Nat.one_pos
 | i+1=>by
  have:=DQ a b i;unfold nN;rw [Nat.pow_succ]
  split<;>omega
theorem E4{m i:Nat}:iy m i↔m.testBit i=true:=by
 unfold iy;rw [Nat.testBit_eq_decide_div_mod_eq,jj]
theorem Jb(a b:ah):∀ {m i:Nat},i<m->(iy (nN a b m) i↔gi a i=gi b i)
 | 0,i,h=>absurd h (gR _)
 | m+1,i,h=>by
  have cW:=DQ a b m;rw [E4];unfold nN
  by_cases e:i=m
  ·subst e;have hf:=Nat.testBit_lt_two_pow cW
   split
   ·rename_i c;rw [Nat.add_comm,Nat.testBit_two_pow_add_eq,hf];exact⟨fun _=>c,fun _=>O⟩
   ·rename_i c;rw [hf];exact⟨fun h=> (by cases h),fun h=>absurd h c⟩
  ·have ih:=Jb a b (m:=m) (i:=i) (by omega);rw [E4]at ih
   split
   ·rw [Nat.add_comm,Nat.testBit_two_pow_add_gt (by omega)];exact ih
   ·exact ih
theorem Ry(A:ai)(N c:Nat)(rs:List aH)(fl:ag)(n:Nat)(w:aa)(hM:bu w A N rs fl)(BU:0<N)(hN:N<=400)(hn:n<=5)(hl:∀x∈fl,x.length=n)(lY:fl.Nodup):
 aG prog 113 [.slice A N c] w (fun v w'=>∃A' n' c',v= .slice A' n' c'/\(n'=0↔zD n fl)/\St w w' []):=by
 have eC:=hM.len;have kY:∀f:Nat,f<N->gl fl f∈fl:=fun f hf=>by rw [cQ (by omega)];exact di _
 have bw:∀f:Nat,f<N->(rg rs f).n=n:=fun f hf=>by
  have:=(hM.at_ (i:=(f:Int)) (by omega) (by omega)).1;rw [<-this];exact hl _ (kY f hf)
 have h2n:2^n<=32:=gm (Nat.pow_le_pow_right (by decide) hn) (by decide);refine bs func113 O ntmps113 O (bF O) (aY O (aO (Rx A N c rs fl n w hM BU hN hn hl lY) O ?_));rintro _ w1 ⟨A3,c3,os,rss,rfl,xV⟩;have hR:=xV.rd;have nz:=xV.st.none;have hM:=xV.st.bE hM;clear xV;refine ic (St.refl w1) O fun A4 w2 ay=>aA O (Cd.loop (α:=Nat×(ai×Nat)×List aH×ag) (fun z=> [(0,.slice A N c),(3,.slice A3 n c3),(4,.slice z.2.1.1 z.1 z.2.1.2),(5,aj (z.1:Int))]) (fun z w'=>z.1<=2^n/\z.2.2.1.length=z.1/\z.2.2.2.length=z.1/\(∀q:Nat,q<z.1->fA N (dN n fl (iy q)) N (gl z.2.2.2 q))/\St w1 w' (aW 24 2 z.2.1.1 z.1 z.2.1.2 z.2.2.1 z.2.2.2++ [])) (fun z=>2^n - z.1) (0,(A4,0),[],[]) (Wn O) ⟨bk _,O,O,fun q h=>absurd h (gR _),ay⟩ ?_);clear ay;rintro⟨m,⟨A4,c4⟩,bz,Ls⟩ e w3 ⟨hm,cT,ny,mI,hS⟩;dsimp only at hm cT ny mI hS|-;refine aY O (aR O O ?_);refine qG O O (tw _ (by omega)) (EN O O hn O (aA O ?_));refine aJ _ O (fun h1=>?_) (fun h1=>?_)
 ·have hm2:m<2^n:=by omega
  refine aC O (aR O O (aq O ?_));refine aO (Rw A3 c3 os rss fl n N m w3 eC (hR.ao hS.below) (by omega) hN hn) O ?_;rintro _ w4 ⟨A9,c9,L,rfl,hL,ax⟩;have aN:=hS.call ax;refine mu aN O O O fun A8 w5 aV=>iU 2 aV O (aV.dB 0 O) O O O (by omega) (by omega) O ?_;intro AZ cZ w6 bg;have bg:=bg.tail;have bm:St w1 w6 (aE 2 A9 N c9 L::aQ 24 AZ (m+1) cZ (bz++ [⟨A9,N,c9⟩])::(cw 2 bz Ls++ [])):=bg;have bm:=bm.perm (Js _ _ _ _);rw [<-wV (by omega)]at bm;refine aq O (aI O (aM O (tQ ?_)));refine⟨(m+1,(AZ,cZ),bz++ [⟨A9,N,c9⟩],Ls++ [L]),by show 2^n - (m+1)<2^n - m;omega,(Wn O),by show m+1<=2^n;omega,by simp [cT],by simp [ny],fun q hq=>?_,(by exact bm)⟩;have hq:q<m+1:=hq;have e9:gl (Ls++ [L]) q=if q<m then gl Ls q else L:=by
   rw [cQ (by simp;omega)]
   by_cases c:q<m
   ·rw [aF c,cQ (by omega),List.getElem_append_left (by omega)]
   obtain rfl:q=m:=by omega
   rw [aB c];simp [ny]
  show fA N _ N (gl (Ls++ [L]) q);rw [e9]
  split
  ·exact mI q (by assumption)
  obtain rfl:q=m:=by omega
  exact hL
 have yq:m=2^n:=by omega
 have iD:bu w3 A4 m bz Ls:=by
  rw [eG]at hS;exact hS.nQ ny
 have pQ:=hM.ao hS.below;have aL:=nz.ao hS.below;clear hS hR hM nz;refine bj O (bl (lK O ?_));refine Cd.loop (α:=Nat) (fun a=> [(0,.slice A N c),(4,.slice A4 m c4),(6,aj a)]) (fun a w'=>a<=N/\(∀a' b':Nat,a'<a->a'<b'->b'<N->dN n fl (fun k=>gi (gl fl a') k=gi (gl fl b') k) a' b')/\St w3 w' []) (fun a=>N - a) 0 (Wn O) ⟨bk _,fun a' b' h=>absurd h (gR _),St.refl _⟩ ?_;rintro a e w4 ⟨ha,uo,hS⟩;refine aY O (aR O O (aA O ?_));refine aJ _ O (fun h2=>?_) (fun h2=>?_)
 ·have oZ:a<N:=by omega
  refine aC O (aI O (aA O ?_));refine Cd.loop (α:=Nat) (fun b=> [(0,.slice A N c),(4,.slice A4 m c4),(6,aj a),(7,aj b)]) (fun b w'=> (a<b/\b<=N)/\(∀b':Nat,a<b'->b'<b->dN n fl (fun k=>gi (gl fl a) k=gi (gl fl b') k) a b')/\St w3 w' []) (fun b=>N - b) (a+1) (Wn O) ⟨⟨Nat.lt_succ_self _,oZ⟩,fun b' h h'=>by omega,hS⟩ ?_;clear hS;rintro b e w5 ⟨⟨jD,uj⟩,oq,hS⟩;refine aY O (aR O O (aA O ?_));refine aJ _ O (fun h3=>?_) (fun h3=>?_)
  ·have hb:b<N:=by omega
   have yv:=bw a oZ;have Hy:=bw b hb;refine cj O (Cd.loop (α:=Nat) (fun i=> [(0,.slice A N c),(4,.slice A4 m c4),(6,aj a),(7,aj b),(8,aj ((nN (gl fl a) (gl fl b) i:Nat):Int)),(9,aj i)]) (fun i w'=>i<=n/\St w3 w' []) (fun i=>n - i) 0 (Wn O) ⟨bk _,hS⟩ ?_);clear hS;rintro i e w6 ⟨hi,hS⟩;have iK:=pQ.ao hS.below;have lB:=iK.at_ (i:=(a:Int)) (by omega) (by omega);have jb:=iK.at_ (i:=(b:Int)) (by omega) (by omega);have Pj:=lB.1;have yp:=jb.1;have nF:=DQ (gl fl a) (gl fl b) i;have h2i:2^i<=32:=gm (Nat.pow_le_pow_right (by decide) (show i<=5 by omega)) (by decide);refine aY O (aw iK.top.2 O (bn iK.top O ?_));refine aR O O (aA O ?_);refine aJ _ O (fun h4=>?_) (fun h4=>?_)
   ·have cd:i<n:=by omega
    refine cj O ?_;refine cN [xS (A) (N) (c),xI ((a:Int)),xP (az (A) ((a:Int)).toNat),xS ((rg (rs) ((a:Int))).a) ((rg (rs) ((a:Int))).n) ((rg (rs) ((a:Int))).c),xI ((i:Int)),xP (az ((rg (rs) ((a:Int))).a) ((i:Int)).toNat),xI (gi (gl fl a) ((i:Int))),xS (A) (N) (c),xI ((b:Int)),xP (az (A) ((b:Int)).toNat),xS ((rg (rs) ((b:Int))).a) ((rg (rs) ((b:Int))).n) ((rg (rs) ((b:Int))).c),xI ((i:Int)),xP (az ((rg (rs) ((b:Int))).a) ((i:Int)).toNat),xI (gi (gl fl b) ((i:Int))),xB (decide ((gi (gl fl a) ((i:Int)))=(gi (gl fl b) ((i:Int)))))] O (da O) ?_ ?_
    ·exact⟨Dr O,Dr O,fun _ _ hb _ _=>aw (iK.top.ao hb).2 O Az,fun _ _ hb _ _=>bn (iK.top.ao hb) O Az,Dr O,fun _ _ hb _ _=>aw (lB.ao hb).2 O Az,fun _ _ hb _ _=>a6 (lB.ao hb) O Az,Dr O,Dr O,fun _ _ hb _ _=>aw (iK.top.ao hb).2 O Az,fun _ _ hb _ _=>bn (iK.top.ao hb) O Az,Dr O,fun _ _ hb _ _=>aw (jb.ao hb).2 O Az,fun _ _ hb _ _=>a6 (jb.ao hb) O Az,Dr O,av⟩
    intro u w7 lr _;have bm:=hS.ao lr;refine dM O (aJ _ O (fun h5=>?_) (fun h5=>?_))
    ·have k4:nN (gl fl a) (gl fl b) (i+1)=nN (gl fl a) (gl fl b) i+2^i:=by
      show(if _ then _ else _)=_;rw [aF h5]
     refine aC O (qG O O (tw _ (by omega)) (EN O O (by omega) O ?_));refine aI O (aq O (aI O (aM O (tQ ?_))));exact⟨i+1,by show n - (i+1)<n - i;omega,⟨O,O,O,O,aS (fun m:Nat=>Value.int .i64 (m:Int)) k4.symm,O,av⟩,by omega,bm⟩
    have k4:nN (gl fl a) (gl fl b) (i+1)=nN (gl fl a) (gl fl b) i:=by
     show(if _ then _ else _)=_;rw [aB h5]
    refine aC O (aI O (aM O (tQ ?_)));exact⟨i+1,by show n - (i+1)<n - i;omega,⟨O,O,O,O,aS (fun m:Nat=>Value.int .i64 (m:Int)) k4.symm,O,av⟩,by omega,bm⟩
   have Cz:i=n:=by omega
   subst Cz;obtain⟨K,hK⟩:∃K,nN (gl fl a) (gl fl b) i=K:=⟨_,rfl⟩;have Ch:=fun k (hk:k<i)=>Jb (gl fl a) (gl fl b) hk
   rw [hK]at nF|-;simp only [hK]at Ch;have vL:=iD.ao hS.below;have wi:=vL.at_ (i:=(K:Int)) (by omega) (by omega);have Gv:=mI K (by omega);have hLKl:=Gv.1;have hrKn:=wi.1;have pR:pF N (dN i fl (iy K)):=eC▸dN.rR i fl (iy K);have rj:=Gv.done pR (a:=a) (b:=b) (.refl (by omega)) (.refl (by omega));refine bj O (bl (lK O ?_));refine cN [xS (A4) (m) (c4),xI ((K:Int)),xP (az (A4) ((K:Int)).toNat),xS ((rg (bz) ((K:Int))).a) ((rg (bz) ((K:Int))).n) ((rg (bz) ((K:Int))).c),xI ((a:Int)),xP (az ((rg (bz) ((K:Int))).a) ((a:Int)).toNat),xI (gi (gl Ls K) ((a:Int))),xS (A4) (m) (c4),xI ((K:Int)),xP (az (A4) ((K:Int)).toNat),xS ((rg (bz) ((K:Int))).a) ((rg (bz) ((K:Int))).n) ((rg (bz) ((K:Int))).c),xI ((b:Int)),xP (az ((rg (bz) ((K:Int))).a) ((b:Int)).toNat),xI (gi (gl Ls K) ((b:Int))),xB (decide (¬(gi (gl Ls K) ((a:Int)))=(gi (gl Ls K) ((b:Int)))))] O (da O) ?_ ?_
   ·exact⟨Dr O,Dr O,fun _ _ hb _ _=>aw (vL.top.ao hb).2 O Az,fun _ _ hb _ _=>bn (vL.top.ao hb) O Az,Dr O,fun _ _ hb _ _=>aw (wi.ao hb).2 O Az,fun _ _ hb _ _=>a6 (wi.ao hb) O Az,Dr O,Dr O,fun _ _ hb _ _=>aw (vL.top.ao hb).2 O Az,fun _ _ hb _ _=>bn (vL.top.ao hb) O Az,Dr O,fun _ _ hb _ _=>aw (wi.ao hb).2 O Az,fun _ _ hb _ _=>a6 (wi.ao hb) O Az,Dr O,av⟩
   intro u w7 lr _;have bm:=hS.ao lr;refine dM O (aJ _ O (fun h5=>?_) (fun h5=>?_))
   ·refine aC O (se [(a:Int),(b:Int)] bm O O (by decide) (by decide) O O fun A9 w8 bI=>bW O (cy (b9 (cy (b9 ?_)))));exact dH O ⟨A9,2,2,O,⟨fun h=>absurd h (by decide),fun h=>absurd (rj.2 ((h a b jD (by omega)).cv fun k hk=> (Ch k hk).symm)) h5⟩,aL.call bI.none⟩
   have b6:=(rj.1 (fp.1 h5)).cv Ch;refine aC O (aI O (aM O (tQ ?_)));exact⟨b+1,by show N - (b+1)<N - b;omega,(Wn O),⟨by omega,by omega⟩,fun b' h6 h7=>by
    by_cases eb:b'=b
    ·subst eb;exact b6
    exact oq b' h6 (by omega),bm⟩
  refine bj O (bl (cn O (aI O (aM O (tQ ?_)))));exact⟨a+1,by show N - (a+1)<N - a;omega,(Wn O),by omega,fun a' b' h4 h5 h6=>by
   by_cases ea:a'=a
   ·subst ea;exact oq b' h5 (by omega)
   exact uo a' b' (by omega) h5 h6,hS⟩
 refine bj O (bl (cn O ?_));refine ic hS O fun A9 w8 bI=>bW O (dH O ?_);exact⟨A9,0,0,O,⟨fun _ a' b' h3 h4=>uo a' b' (by omega) h3 (by omega),fun _=>O⟩,aL.call bI.none⟩
theorem AA{p:Prop}[Decidable p](h:¬p):true=decide (¬p):=by simp [h]
theorem xA{p:Prop}[Decidable p](h:p):false=decide (¬p):=by simp [h]
theorem Jk(p q:Prop)[Decidable p][Decidable q]:(!(decide p==decide q))=decide (¬(p↔q)):=by
 by_cases hp:p<;>by_cases hq:q<;>simp [hp,hq]
instance (R:ah)(i e:Int):Decidable (ng R i e):=by unfold ng;infer_instance
instance (n:Int)(R:ah)(i e:Int):Decidable (kL n R i e):=by unfold kL;infer_instance
def rQ(R:ah)(B:ag)(i a b:Int)(m:Nat):Nat:=((cL m).filter fun d=>decide (gi R d=i/\(a<0\/a∈gl B d)/\(b<0\/d∈gl B b))).length
theorem Sk(R:ah)(B:ag)(i a b:Int)(m:Nat):rQ R B i a b (m+1)=if gi R m=i/\(a<0\/a∈gl B m)/\(b<0\/(m:Int)∈gl B b)then rQ R B i a b m+1 else rQ R B i a b m:=by
 have e9:cL (m+1)=cL m++ [(m:Int)]:=by
  unfold cL;rw [lg,iT];rfl
 unfold rQ;rw [e9,mn,dS]
 by_cases c:gi R m=i/\(a<0\/a∈gl B m)/\(b<0\/(m:Int)∈gl B b)
 ·rw [aF c,List.filter_cons_of_pos (by simpa using c)];rfl
 rw [aB c,List.filter_cons_of_neg (by simpa using c)];rfl
theorem Sj(R:ah)(B:ag)(i a b:Int)(m:Nat):rQ R B i a b m<=m:=by
 refine gm (jN _ _) ?_;rw [cL,fv,n3];exact cO _
theorem Ru(n:Int)(A D:ai)(cA cD:Nat)(R:ah)(rs:List aH)(B:ag)(w:aa)(hR:bS w A R.length R)(hB:bu w D B.length rs B)(hP:gf n R B):
 aG prog 112 [.agg #[aj n,.slice A R.length cA,.slice D B.length cD]] w (fun v w'=>∃A' n' c',v= .slice A' n' c'/\(n'=0↔zE n R B)/\St w w' []):=by
 have hn:=hP.n1;have jE:=hP.qL;have hle:=hP.len;have cT:∀e:Int,0<=e->e<R.length->(gl B e).length<=500:=fun e h0 h=>by
  have:=oH (N:=R.length) (hP.at_ h0 h).1.nodup fun x hx=>by have:=((hP.at_ h0 h).2.1 x hx).1;omega
  omega
 have dt:=fun(e:Int) (h0:0<=e) (h:e< (R.length:Int))=>hP.ri h0 h
 have Hx:∀i a b,rQ R B i a b R.length=(kN R B i a b).length:=fun i a b=>O
 obtain⟨N,hN⟩:∃N,R.length=N:=⟨_,rfl⟩;have BQ:∀i a,ng R i a↔((a= -1/\i=0)\/((0<=a/\a< (N:Int))/\0<i/\gi R a=i - 1)):=fun i a=>by rw [<-hN];rfl
 have BH:∀i b,kL n R i b↔((b= -1/\i=n - 1)\/((0<=b/\b< (N:Int))/\i<n - 1/\gi R b=i+1)):=fun i b=>by rw [<-hN];rfl
 rw [hN]at hR jE hle cT dt Hx|-;rw [hle]at hB|-;refine bs func112 O ntmps112 O (bF O) (aY O (nh (St.refl w) O O ?_));intro A1 w1 aD;have h1:Rd w1 A1 3 (fun j=> [Value.int .i64 n,.slice A N cA,.slice D N cD].getD j undef):=aD.rd 0 O;have hR:=aD.dh hR;have hB:=aD.bE hB;have aD:=aD.none;refine aq O (aT h1 O (Wm (j:=1) h1 (by exact aS Value.pointer O) O O O O ?_));refine aR O O (aA O ?_);refine Cd.loop (α:=Nat) (fun i=> [(1,.pointer A1),(3,aj N),(4,aj i)]) (fun i w'=>w'=w1/\(i:Int)<=n/\∀i' a b:Int,0<=i'->i'< (i:Int)->ng R i' a->kL n R i' b->(0<=a->0<=b->a∈gl B b)->(kN R B i' a b).length=2) (fun i=>n.toNat - i) 0 (Wn O) ⟨O,by show((0:Nat):Int)<=n;omega,fun i' a b h h'=>by have h':i'< ((0:Nat):Int):=h';omega⟩ ?_;rintro i e w2 ⟨rfl,hi,Hb⟩;refine aY O (aT h1 O (kk (j:=0) h1 (by exact aS Value.pointer O) O O O O (aA O ?_)));refine aJ _ O (fun h2=>?_) (fun h2=>?_)
 ·refine cj O ?_;refine Cd.loop (α:=Nat) (fun z=> [(1,.pointer A1),(3,aj N),(4,aj i),(5,aj ((z:Int) - 1))]) (fun z w'=>w'=w2/\z<=N+1/\∀a b:Int,a< (z:Int) - 1->ng R i a->kL n R i b->(0<=a->0<=b->a∈gl B b)->(kN R B i a b).length=2) (fun z=>N+1 - z) 0 (Wn O) ⟨O,bk _,fun a b h h'=>by
   have h:a< ((0:Nat):Int) - 1:=h;have:=(BQ _ _).1 h';omega⟩ ?_
  rintro z e w3 ⟨rfl,hz,uo⟩;obtain⟨a,ha⟩:∃a:Int,(z:Int) - 1=a:=⟨_,rfl⟩;rw [ha]at uo|-;refine bH O (aJ _ O (fun h3=>?_) (fun h3=>?_))
  ·have pP:=BQ (i:Int) a;have HA:∀a' b:Int,(a'=a->ng R i a->kL n R i b->(0<=a->0<=b->a∈gl B b)->(kN R B i a b).length=2)->a'< ((z+1:Nat):Int) - 1->ng R i a'->kL n R i b->(0<=a'->0<=b->a'∈gl B b)->(kN R B i a' b).length=2:=fun a' b h h' q1 q2 q3=>by
    by_cases ea:a'=a
    ·have h9:=h ea;rw [ea]at q1 q3|-;exact h9 q1 q2 q3
    exact uo a' b (by omega) q1 q2 q3
   refine u6 4 O (oN (α:=Unit) (fun _=> [(1,.pointer A1),(3,aj N),(4,aj i),(5,aj a),(41,.bool (decide (¬ng R i a)))]) (fun _ w'=>w'=w3) ?_ ?_)
   ·refine aY O (EM O O O ?_);rw [Jk];refine aq O (bR 28 O (fun p1=>?_) (fun p1=>?_))
    ·refine au O (au O (au O (bc O (bc O (bc O (bc O (bc O (bc O (bc O (bc O (au O ?_)))))))))));refine aM O (tQ ?_);exact⟨(),⟨O,O,O,O,aS Value.bool (AA (fun h=>p1 (by have:=pP.1 h;omega))),av⟩,O⟩
    refine ar O (aq O (ar O (aq O (ar O (aq O ?_)))));refine bR 31 O (fun p2=>?_) (fun p2=>?_)
    ·refine ar O (aT h1 O (ar O (Wm (j:=1) h1 (by exact aS Value.pointer O) O O O O ?_)));refine ar O (aq O (ar O ?_));refine aw hR.2 O (ar O (a6 hR O ?_));refine ar O (aq O (ar O (gH O O O (by omega) (ar O (aq O (ar O (aM O (tQ ?_))))))));exact⟨(),⟨O,O,O,O,aS Value.bool (gJ.2 ⟨fun h h'=>by have:=pP.1 h';omega,fun h h'=>h (pP.2 (.inr ⟨by omega,by omega,h'⟩))⟩),av⟩,O⟩
    refine au O (au O (au O (au O (au O (au O (au O (au O (ar O (aM O (tQ ?_))))))))));exact⟨(),⟨O,O,O,O,aS Value.bool (xA (pP.2 (.inl (by omega)))),av⟩,O⟩
   rintro _ e w4 rfl;refine aJ _ O (fun h4=>?_) (fun h4=>?_)
   ·refine aC O (aI O (aM O (tQ ?_)));exact⟨z+1,by show N+1 - (z+1)<N+1 - z;omega,⟨O,O,O,aS (Value.int .i64) (by show a+1=((z+1:Nat):Int) - 1;omega),av⟩,O,by omega,fun a' b=>HA a' b fun _ h=>absurd h h4⟩
   have NY:ng R i a:=fp.1 h4;refine cj O ?_;refine Cd.loop (α:=Nat) (fun y=> [(1,.pointer A1),(3,aj N),(4,aj i),(5,aj a),(6,aj ((y:Int) - 1))]) (fun y w'=>w'=w4/\y<=N+1/\∀b:Int,b< (y:Int) - 1->kL n R i b->(0<=a->0<=b->a∈gl B b)->(kN R B i a b).length=2) (fun y=>N+1 - y) 0 (Wn O) ⟨O,bk _,fun b h h'=>by
    have h:b< ((0:Nat):Int) - 1:=h;have:=(BH _ _).1 h';omega⟩ ?_
   rintro y e w5 ⟨rfl,hy,oq⟩;obtain⟨b,hb⟩:∃b:Int,(y:Int) - 1=b:=⟨_,rfl⟩;rw [hb]at oq|-;refine bH O (aJ _ O (fun h5=>?_) (fun h5=>?_))
   ·have vF:=BH (i:Int) b;have HB:(kL n R i b->(0<=a->0<=b->a∈gl B b)->(kN R B i a b).length=2)->∀b':Int,b'< ((y+1:Nat):Int) - 1->kL n R i b'->(0<=a->0<=b'->a∈gl B b')->(kN R B i a b').length=2:=fun h b' h' q1 q2=>by
     by_cases eb:b'=b
     ·rw [eb]at q1 q2|-;exact h q1 q2
     exact oq b' (by omega) q1 q2
    refine u6 4 O (oN (α:=Unit) (fun _=> [(1,.pointer A1),(3,aj N),(4,aj i),(5,aj a),(6,aj b),(86,.bool (decide (¬(kL n R i b/\(0<=a->0<=b->a∈gl B b)))))]) (fun _ w'=>w'=w5) ?_ ?_)
    ·refine aY O (aT h1 O (kk (j:=0) h1 (by exact aS Value.pointer O) O O O O ?_));refine gH O O O (by omega) (aq O ?_);refine EM O O O ?_;rw [Jk];refine aq O (bR 55 O (fun p1=>?_) (fun p1=>?_))
     ·refine au O (au O (au O (bc O (bc O (bc O (bc O (bc O (bc O (bc O (bc O (au O ?_)))))))))));refine aq O (au O (au O (au O (bc O (bc O (au O (au O (bc O (bc O (bc O (bc O ?_)))))))))));refine bc O (bc O (bc O (bc O (au O (aM O (tQ ?_))))));exact⟨(),⟨O,O,O,O,O,aS Value.bool (AA (fun h=>p1 (by have:=vF.1 h.1;omega))),av⟩,O⟩
     refine ar O (aq O (ar O (aq O (ar O (aq O ?_)))));refine bR 58 O (fun p2=>?_) (fun p2=>?_)
     ·have rF:=hB.at_ (i:=b) (by omega) (by omega);have HQ:=rF.1;have HP:=cT b (by omega) (by omega);refine ar O (aT h1 O (ar O (Wm (j:=1) h1 (by exact aS Value.pointer O) O O O O ?_)));refine ar O (aq O (ar O ?_));refine aw hR.2 O (ar O (a6 hR O ?_));have hrib:=dt (b:Int) (by omega) (by omega);refine ar O (aq O (ar O (aI O (ar O (aq O (ar O (aq O ?_)))))));refine bR 69 O (fun p3=>?_) (fun p3=>?_)
      ·refine au O (au O (au O (bc O (bc O (au O (au O (bc O (bc O (bc O (bc O (bc O ?_)))))))))));refine bc O (bc O (bc O (au O (aM O (tQ ?_)))));exact⟨(),⟨O,O,O,O,O,aS Value.bool (AA (fun h=>p3 (by have:=vF.1 h.1;omega))),av⟩,O⟩
      have vG:kL n R i b:=vF.2 (.inr ⟨by omega,by omega,by omega⟩);refine ar O (aq O (ar O (aq O (ar O (aq O ?_)))));refine bR 72 O (fun p4=>?_) (fun p4=>?_)
      ·refine ar O (aq O (ar O (aq O (ar O (aq O (ar O (aq O ?_)))))));refine bR 76 O (fun p5=>?_) (fun p5=>absurd p2 p5);refine ar O (aT h1 O (ar O (Wm (j:=2) h1 (by exact aS Value.pointer O) O O O O ?_)));refine ar O (aq O (ar O ?_));refine aw hB.top.2 O (ar O (bn hB.top O ?_));refine ar O (aq O (ar O ?_));refine aO (uL _ _ _ (gl B b) a _ rF (by omega)) O ?_;rintro _ w6 ⟨rfl,rfl⟩;refine ar O ?_
       first | refine dv rfl rfl ?_ | refine eJ rfl rfl ?_
       refine ar O (aM O (tQ ?_));exact⟨(),⟨O,O,O,O,O,aS Value.bool (gJ.2 ⟨fun h h'=>h (h'.2 p4 p2),fun h h'=>h ⟨vG,fun _ _=>h'⟩⟩),av⟩,O⟩
      refine au O (au O (ar O (aq O (ar O (aq O (au O (au O (au O (au O (au O (au O ?_)))))))))));refine au O (au O (ar O (aM O (tQ ?_))));exact⟨(),⟨O,O,O,O,O,aS Value.bool (xA ⟨vG,fun h'=>absurd h' p4⟩),av⟩,O⟩
     have vG:kL n R i b:=vF.2 (.inl (by omega));refine au O (au O (au O (au O (au O (au O (au O (au O (ar O (aq O (ar O (aq O ?_)))))))))));refine ar O (aq O (ar O (aq O ?_)));refine bR 72 O (fun p4=>?_) (fun p4=>?_)
     ·refine ar O (aq O (ar O (aq O (ar O (aq O (ar O (aq O ?_)))))));refine bR 76 O (fun p5=>absurd p5 p2) (fun p5=>?_);refine au O (au O (au O (au O (au O (au O (au O (au O (ar O (aM O (tQ ?_))))))))));exact⟨(),⟨O,O,O,O,O,aS Value.bool (xA ⟨vG,fun _ h'=>absurd h' p2⟩),av⟩,O⟩
     refine au O (au O (ar O (aq O (ar O (aq O (au O (au O (au O (au O (au O (au O ?_)))))))))));refine au O (au O (ar O (aM O (tQ ?_))));exact⟨(),⟨O,O,O,O,O,aS Value.bool (xA ⟨vG,fun h'=>absurd h' p4⟩),av⟩,O⟩
    rintro _ e w6 rfl;refine aJ _ O (fun h6=>?_) (fun h6=>?_)
    ·refine aC O (aI O (aM O (tQ ?_)));exact⟨y+1,by show N+1 - (y+1)<N+1 - y;omega,⟨O,O,O,O,aS (Value.int .i64) (by show b+1=((y+1:Nat):Int) - 1;omega),av⟩,O,by omega,HB fun q1 q2=>absurd ⟨q1,q2⟩ h6⟩
    have b6:=fp.1 h6;have G3:=vF.1 b6.1;refine cj O (Cd.loop (α:=Nat) (fun m=> [(1,.pointer A1),(3,aj N),(4,aj i),(5,aj a),(6,aj b),(7,aj ((rQ R B i a b m:Nat):Int)),(8,aj m)]) (fun m w'=>w'=w6/\m<=N) (fun m=>N - m) 0 (Wn O) ⟨O,bk _⟩ ?_);rintro m e w7 ⟨rfl,hm⟩;have lA:=Sj R B i a b m;have k4:=Sk R B i a b m;refine bH O (aJ _ O (fun h7=>?_) (fun h7=>?_))
    ·have hmN:m<N:=by omega
     have HR:=hB.at_ (i:=(m:Int)) (by omega) (by omega);have hrnm:=HR.1;have hrlm:=cT (m:Int) (by omega) (by omega);refine u6 3 O (oN (α:=Unit) (fun _=> [(1,.pointer A1),(3,aj N),(4,aj i),(5,aj a),(6,aj b),(7,aj ((rQ R B i a b m:Nat):Int)),(8,aj m),(124,.bool (decide (gi R m=(i:Int)/\(a<0\/a∈gl B m)/\(b<0\/(m:Int)∈gl B b))))]) (fun _ w'=>w'=w7) ?_ ?_)
     ·refine aY O (aT h1 O (Wm (j:=1) h1 (by exact aS Value.pointer O) O O O O (aq O (aw hR.2 O (a6 hR O (aq O ?_))))));refine bR 99 O (fun p1=>?_) (fun p1=>?_)
      ·refine ar O (aq O (ar O (aq O (ar O (aq O ?_)))));refine bR 102 O (fun p2=>?_) (fun p2=>?_)
       ·refine au O (au O (au O (au O (au O (au O (au O (ar O (aq O (ar O (aq O (ar O ?_)))))))))));refine aq O (ar O (aq O ?_));refine bR 115 O (fun p4=>?_) (fun p4=>?_)
        ·refine au O (au O (au O (au O (au O (au O (au O (ar O (aM O (tQ ?_)))))))));exact⟨(),⟨O,O,O,O,O,O,O,aS Value.bool (dF ⟨p1,.inl p2,.inl p4⟩).symm,av⟩,O⟩
        have rF:=hB.at_ (i:=b) (by omega) (by omega);have HQ:=rF.1;have HP:=cT b (by omega) (by omega);refine ar O (aT h1 O (ar O (Wm (j:=2) h1 (by exact aS Value.pointer O) O O O O ?_)));refine ar O (aq O (ar O ?_));refine aw hB.top.2 O (ar O (bn hB.top O ?_));refine ar O (aq O (ar O ?_));refine aO (uL _ _ _ (gl B b) m _ rF (by omega)) O ?_;rintro _ w9 ⟨rfl,rfl⟩;refine ar O (aM O (tQ ?_));exact⟨(),⟨O,O,O,O,O,O,O,aS Value.bool (gJ.2 ⟨fun h=> ⟨p1,.inl p2,.inr h⟩,fun h=>h.2.2.resolve_left p4⟩),av⟩,O⟩
       refine ar O (aT h1 O (ar O (Wm (j:=2) h1 (by exact aS Value.pointer O) O O O O ?_)));refine ar O (aq O (ar O ?_));refine aw hB.top.2 O (ar O (bn hB.top O ?_));refine ar O (aq O (ar O ?_));refine aO (uL _ _ _ (gl B m) a _ HR (by omega)) O ?_;rintro _ w8 ⟨rfl,rfl⟩;refine ar O (aq O ?_);refine bR 112 O (fun p3=>?_) (fun p3=>?_)
       ·refine ar O (aq O (ar O (aq O (ar O (aq O ?_)))));refine bR 115 O (fun p4=>?_) (fun p4=>?_)
        ·refine au O (au O (au O (au O (au O (au O (au O (ar O (aM O (tQ ?_)))))))));exact⟨(),⟨O,O,O,O,O,O,O,aS Value.bool (dF ⟨p1,.inr p3,.inl p4⟩).symm,av⟩,O⟩
        have rF:=hB.at_ (i:=b) (by omega) (by omega);have HQ:=rF.1;have HP:=cT b (by omega) (by omega);refine ar O (aT h1 O (ar O (Wm (j:=2) h1 (by exact aS Value.pointer O) O O O O ?_)));refine ar O (aq O (ar O ?_));refine aw hB.top.2 O (ar O (bn hB.top O ?_));refine ar O (aq O (ar O ?_));refine aO (uL _ _ _ (gl B b) m _ rF (by omega)) O ?_;rintro _ w9 ⟨rfl,rfl⟩;refine ar O (aM O (tQ ?_));exact⟨(),⟨O,O,O,O,O,O,O,aS Value.bool (gJ.2 ⟨fun h=> ⟨p1,.inr p3,.inr h⟩,fun h=>h.2.2.resolve_left p4⟩),av⟩,O⟩
       refine au O (au O (au O (bc O (bc O (bc O (bc O (bc O (bc O (bc O (au O (aM O ?_)))))))))));exact tQ ⟨(),⟨O,O,O,O,O,O,O,aS Value.bool (cb (fun h=>h.2.1.elim p2 p3)).symm,av⟩,O⟩
      refine au O (au O (au O (bc O (bc O (bc O (bc O (bc O (bc O (bc O (au O (aq O ?_)))))))))));refine au O (au O (au O (bc O (bc O (bc O (bc O (bc O (bc O (bc O (au O (aM O ?_)))))))))));exact tQ ⟨(),⟨O,O,O,O,O,O,O,aS Value.bool (cb (fun h=>p1 h.1)).symm,av⟩,O⟩
     rintro _ e w8 rfl;refine aJ _ O (fun h8=>?_) (fun h8=>?_)
     ·rw [aF h8]at k4;refine aC O (aI O (aq O (aI O (aM O (tQ ?_)))));exact⟨m+1,by show N - (m+1)<N - m;omega,⟨O,O,O,O,O,aS (fun m:Nat=>Value.int .i64 (m:Int)) k4.symm,O,av⟩,O,by omega⟩
     rw [aB h8]at k4;refine aC O (aI O (aM O (tQ ?_)));exact⟨m+1,by show N - (m+1)<N - m;omega,⟨O,O,O,O,O,aS (fun m:Nat=>Value.int .i64 (m:Int)) k4.symm,O,av⟩,O,by omega⟩
    have yq:m=N:=by omega
    rw [yq]at lA|-;rw [Hx]at lA|-;refine bj O (bl (lK O ?_));refine aJ _ O (fun h8=>?_) (fun h8=>?_)
    ·refine aC O (se [(i:Int),a,b] aD O O (by decide) (by decide) O O fun A9 w9 bO=>bW O (cy (b9 (cy (b9 (cy (b9 ?_)))))));exact dH O ⟨A9,3,3,O,⟨fun h=>absurd h (by decide),fun h=>absurd (h (i:Int) a b (by omega) h2 NY b6.1 b6.2) (by omega)⟩,bO.none⟩
    refine aC O (aI O (aM O (tQ ?_)));exact⟨y+1,by show N+1 - (y+1)<N+1 - y;omega,⟨O,O,O,O,aS (Value.int .i64) (by show b+1=((y+1:Nat):Int) - 1;omega),av⟩,O,by omega,HB fun _ _=>by omega⟩
   refine bj O (bl (cn O (aI O (aM O (tQ ?_)))));exact⟨z+1,by show N+1 - (z+1)<N+1 - z;omega,⟨O,O,O,aS (Value.int .i64) (by show a+1=((z+1:Nat):Int) - 1;omega),av⟩,O,by omega,fun a' b'=>HA a' b' fun _ _ q2 q3=>oq b' (by have:=(BH _ _).1 q2;omega) q2 q3⟩
  refine bj O (bl (cn O (aI O (aM O (tQ ?_)))));exact⟨i+1,by show n.toNat - (i+1)<n.toNat - i;omega,(Wn O),O,by show((i+1:Nat):Int)<=n;omega,fun i' a' b' h0 h' q1 q2 q3=>by
   by_cases ei:i'=(i:Int)
   ·subst ei;exact uo a' b' (by have:=(BQ _ _).1 q1;omega) q1 q2 q3
   exact Hb i' a' b' h0 (by have h':i'< ((i+1:Nat):Int):=h';omega) q1 q2 q3⟩
 refine bj O (bl (cn O ?_));refine ic aD O fun A9 w9 bO=>bW O (dH O ?_);exact⟨A9,0,0,O,⟨fun _ i' a b h0 h' q1 q2 q3=>Hb i' a b h0 (by omega) q1 q2 q3,fun _=>O⟩,bO.none⟩
theorem RA(n:Nat)(A D:ai)(cA cD:Nat)(R:ah)(rs:List aH)(B:ag)(Af:ai)(cf:Nat)(tn:List aH)(w:aa)(hR:bS w A R.length R)(hB:bu w D B.length rs B)(hP:gf n R B)(hF:bu w Af (bZ n R B).length tn (bZ n R B))(yj:(bZ n R B).length<=400):
 aG prog 59 [.agg #[aj n,.slice A R.length cA,.slice D B.length cD],.slice Af (bZ n R B).length cf] w (fun v w'=>∃b:Bool,v= .bool b/\(b=true↔zK n R B)/\St w w' []):=by
 have hn:=hP.n1;have jE:=hP.qL;have rm:=FL (n:=n) (R:=R) (B:=B) (by omega) jE;have lY:(bZ n R B).Nodup:=(FK n R B).nodup;refine bs func59 O ntmps59 O (bF O) (aY O (nh (St.refl w) O O ?_));intro A1 w1 aD;have h1:Rd w1 A1 3 (fun j=> [Value.int .i64 n,.slice A R.length cA,.slice D B.length cD].getD j undef):=aD.rd 0 O;have hR:=aD.dh hR;have hB:=aD.bE hB;have hF:=aD.bE hF;have aD:=aD.none;refine aq O (aR O O (aq O ?_));refine bR 8 O (fun h2=>?_) (fun h2=>?_)
 ·have cG:bZ n R B≠[]:=fun h=>by rw [h]at h2;exact absurd h2 (by decide)
  refine ar O (ak.dz 2 h1 O O O ?_);refine ar O (aq O (ar O ?_));refine aO (RC n A D cA R.length B.length cD Af (bZ n R B).length cf tn (bZ n R B) _ hF jE (fun l hl=> ⟨by have:=(rm l hl).1;omega,(rm l hl).2⟩) (by omega)) O ?_;rintro _ w2 ⟨b,rfl,hb,ax⟩;have h1:=Rd.below h1 ax.below;have hR:=ax.dh hR;have hB:=ax.bE hB;have hF:=ax.bE hF;have aD:=aD.ao ax.below;have rC:b=true↔zL n R B:=hb;clear ax hb;rw [zZ b];refine aq O (bR 13 O (fun h3=>?_) (fun h3=>?_))
  ·refine ar O (ak.dz 2 h1 O O O (ar O (aO (Ru n A D cA cD R rs B _ hR hB hP) O ?_)));rintro _ w3 ⟨A9,n9,c9,rfl,hd,ax⟩;have hF:=ax.bE hF;have aD:=aD.ao ax.below;clear ax;refine ar O (aR O O (ar O (aq O ?_)));refine bR 19 O (fun h4=>?_) (fun h4=>?_)
   ·refine ar O (aq O (ar O ?_));refine aO (Ry Af (bZ n R B).length cf tn (bZ n R B) n _ hF (by omega) yj (by omega) (fun x hx=> (rm x hx).1) lY) O ?_;rintro _ w4 ⟨A8,n8,c8,rfl,hc,ax⟩;have aD:=aD.ao ax.below;refine ar O (aR O O (ar O (bW O ?_)));refine bG O ?_;exact⟨_,O,by rw [jj];exact⟨fun h=> ⟨cG,rC.1 h3,hd.1 (by omega),hc.1 (by omega)⟩,fun h=>by have:=hc.2 h.2.2.2;omega⟩,aD⟩
   refine au O (au O (au O (au O (bW O ?_))));refine bG O ?_;exact⟨false,rfl,⟨fun h=> (by cases h),fun h=>absurd (hd.2 h.2.2.1) (by omega)⟩,aD⟩
  refine au O (au O (au O (au O (aq O (au O (au O (au O (au O (bW O ?_)))))))));refine bG O ?_;exact⟨false,rfl,⟨fun h=> (by cases h),fun h=>absurd (rC.2 h.2.1) h3⟩,aD⟩
 refine au O (au O (au O (aq O (au O (au O (au O (au O (aq O (au O (au O (au O ?_)))))))))));refine au O (bW O ?_);refine bG O ?_;exact⟨false,rfl,⟨fun h=> (by cases h),fun h=>absurd (List.length_pos_iff.2 h.1) (by omega)⟩,aD⟩
theorem Rz(A:ai)(n c:Nat)(rs:List aH)(M:ag)(w:aa)(hR:bu w A n rs M)(CS:n<=9223372036854775807)(hM:bN M):
 aG prog 72 [.agg #[.slice A n c]] w (fun v w'=>∃b:Bool,v= .tuple #[.bool b,aj (nP M)]/\(b=true↔xj M)/\St w w' []):=by
 have hl:=hR.len;have h5:=hM.1;have h4:=hM.2.1;have rb:=tV M M.length;have ln:=qT M;have l4:=hR.jv (k:=0) (by omega) (by omega);refine bs func72 O ntmps72 O (mV O) (aY O (gS (St.refl w) O O ?_));intro A1 w1 aD;refine aq O (ak.dz 0 (aD.rd 0 O) O O O (aO (T2 A n c rs M _ (aD.bE hR) CS hM) O ?_));rintro _ w2 (⟨pU,rfl,ax⟩ | ⟨pU,AR,cR,AD,cD,gA,rfl,rE,ax⟩)
 ·have ay:=aD.ao ax.below;refine aq O (oS ay O ?_);intro A4 w3 aL;refine gU 3 0 aL O O O O O O O fun w4 aN=>aA O (Cd.eP O (bV O (rW O O ?_)));unfold nP;rw [aF (.inl pU)];exact⟨false,rfl,⟨fun h=> (by cases h),fun h=>by have:=h.1;omega⟩,aN.none⟩
 have hP:=Jx hM pU;have ay:=aD.call ax;clear ax aD;refine aq O (oS ay O ?_);intro A4 w3 aL;refine gU 3 0 aL O O O O O O O ?_;intro w4 aN;have aN:St w w4 (bD A4 (M.length:Int) AR (aX M M.length) cR AD (aX M M.length) cD::(aE 2 AR (aX M M.length) cR (b5 M M.length)::((aW 24 2 AD (aX M M.length) cD gA (bY M)++ [])++ [Bx 37 1 A1 [.slice A n c]]))):=aN;have ik:bS w4 AR (b5 M M.length).length (b5 M M.length):=by rw [rb];exact aN.bU 1 O
 have gu:bu w4 AD (bY M).length gA (bY M):=by
  rw [ln];have h9:=aN.sub (show(aW 24 2 AD (aX M M.length) cD gA (bY M)).Sublist _ from List.Sublist.cons _ (List.Sublist.cons _ (by rw [eG];exact nc _ _)));exact h9.nQ ln
 have kr:=aN.rd 0 O;have dT:Rd w4 A1 1 (fun j=> [Value.slice A n c].getD j undef):=by
  have h9:=aN.sub (show List.Sublist [Bx 37 1 A1 [.slice A n c]] _ from List.Sublist.cons _ (List.Sublist.cons _ (iw _ _)));exact h9.rd 0 O
 refine aA O (Cd.dO O (aC O (ak.dz 2 kr O O O ?_)));refine Wh (Rv M.length AR AD cR cD (b5 M M.length) gA (bY M) _ ik gu hP) O (by rw [rb,ln];rfl) O ?_;rintro _ w5 ⟨Af,cf,wW,rfl,wj,ax⟩;have aV:=aN.ao ax.below;have oo:=ik.ao ax.below;have BA:=gu.ao ax.below;have iY:=Rd.below kr ax.below;have dT:=Rd.below dT ax.below;have ub:=aV.bE hR;refine aq O ?_
 first | refine dv rfl rfl ?_ | refine eJ rfl rfl ?_
 refine aA O (aJ _ O (fun h6=>?_) (fun h6=>?_))
 ·have rB:nP M=3:=by unfold nP;rw [if_pos (.inr (by show 400< (bZ M.length (b5 M M.length) (bY M)).length;omega))]
  refine bV O (rW O O ?_);rw [rB];refine⟨false,rfl,⟨fun h=> (by cases h),fun h=>?_⟩,aV.none⟩;have h9:(bZ M.length (b5 M M.length) (bY M)).length=(gl M 0).length:=h.2.1;omega
 have eC:(bZ M.length (b5 M M.length) (bY M)).length<=400:=fp.1 h6;have rB:nP M=0:=by unfold nP;rw [if_neg (by show ¬(500<aX M M.length\/400< (bZ M.length (b5 M M.length) (bY M)).length);omega)]
 have yg:cap (bZ M.length (b5 M M.length) (bY M))=bZ M.length (b5 M M.length) (bY M):=qM (by omega);rw [yg]at wj ax|-;rw [rB];have BF:bu w5 Af (bZ M.length (b5 M M.length) (bY M)).length wW (bZ M.length (b5 M M.length) (bY M)):=by
  rw [eG]at ax;exact ax.nQ O
 refine aC O (aR O O ?_);refine ak.dz 0 dT O O O (aO (yY A n c rs M _ ub (by omega)) O ?_);rintro _ w6 ⟨rfl,l5⟩;have bg:=aV.ao l5.below;have jS:=oo.ao l5.below;have qZ:=BA.ao l5.below;have ku:=Rd.below iY l5.below;have NQ:=BF.ao l5.below;refine aq O (bR 28 O (fun h7=>?_) (fun h7=>?_))
 ·refine ar O (ak.dz 2 ku O O O ?_);refine ar O (aq O (ar O ?_));refine Wh (RA M.length AR AD cR cD (b5 M M.length) gA (bY M) Af cf wW _ jS qZ hP NQ eC) O (by rw [rb,ln];rfl) O ?_;rintro _ w7 ⟨b,rfl,hb,mO⟩;refine bW O (rW O O ?_);refine⟨b,O,hb.trans ⟨fun h=> ⟨pU,?_,h⟩,fun h=>h.2.2⟩,(bg.ao mO.below).none⟩;show(bZ M.length (b5 M M.length) (bY M)).length=_;omega
 refine au O (au O (au O (bW O ?_)));refine rW O O ?_;refine⟨false,rfl,⟨fun h=> (by cases h),fun h=>?_⟩,bg.none⟩;have h9:(bZ M.length (b5 M M.length) (bY M)).length=(gl M 0).length:=h.2.1;omega
theorem St.Ek{w0 w:aa}{ks:List Ck}{ms:List bC}{rank flags:Int}(h:St w0 w ks)(hs:(b7 24 2 ms).Sublist ks)(hL:∀m∈ms,m.xss∈ka rank flags)(b6:∀m∈ms,m.ok):∀m∈ms,vh m:=fun m hm=>by
 have hl:=IW (hL m hm);have ho:=b6 m hm;unfold bC.ok at ho;exact⟨h.TH ((pC hm).trans hs),ho,by rw [<-ho];exact hl.2.2.2.1,hl.2.2.2.2⟩
noncomputable def mG(L:Mx):Bool:= @decide (xj L) (Classical.propDecidable _)
theorem Bd{L:Mx}:mG L=true↔xj L:= @decide_eq_true_iff _ (Classical.propDecidable _)
noncomputable def po(rank flags:Int):List Mx:=(ka rank flags).filter mG
theorem D0{rank flags:Int}{L:Mx}(h:L∈po rank flags):L∈ka rank flags:=(eO.1 h).1
theorem Tg(rank flags:Int):(po rank flags).length<=4000000000000:=gm (jN _ _) (DK rank flags)
noncomputable def gE(ms:List bC):List bC:=ms.filter fun m=>mG m.xss
theorem Jv(ms:List bC):(gE ms).map (·.xss)=(ms.map (·.xss)).filter mG:=by
 unfold gE;rw [List.filter_map]
 rfl
theorem Ju{ms:List bC}{i:Nat}(hi:i<ms.length):gE (ms.take (i+1))=if mG (ms[i]).xss=true then gE (ms.take i)++ [ms[i]]else gE (ms.take i):=by
 unfold gE;rw [gk hi,mn]
 by_cases h:mG (ms[i]).xss=true
 ·rw [aF h];simp [h]
 rw [aB h];simp [h]
theorem T3(rank flags:Int)(w:aa):aG prog 23 [aj rank,aj flags] w (u1 (po rank flags) (qp rank flags) w):=by
 have Pm:=DK rank flags;refine bs func23 O ntmps23 O (mV O) (aY O (aO (RD rank flags _) O ?_));rintro _ w ⟨rfl,rfl⟩;refine aA O (aJ _ O (fun h=>?_) (fun h=>?_))
 ·have hs:¬Small rank flags:=fun hs=>h (by rw [aF hs])
  refine bV O (qy O O ?_);rw [aB hs,qp,po,ka,aB hs,aB hs];exact u1.none (St.refl _)
 have hs:Small rank flags:=kK fun hs=>h (by rw [aB hs];decide)
 obtain⟨n,rfl⟩:∃n:Nat,rank=n:=⟨rank.toNat,by have:=hs.1;omega⟩;obtain⟨F,rfl⟩:∃F:Nat,flags=F:=⟨flags.toNat,by have:=hs.2;omega⟩;have wm:=hs.1;have wo:=hs.2;have CJ:ka n F=nM n F:=by rw [ka,aF hs,eH,eH]
 refine aC O (aO (RH n F (by omega) (by omega) _) O ?_);rintro _ w2 ⟨A,c,A2,c2,ms,rfl,hL,b6,hS⟩;have lA:ms.length=(ka n F).length:=by rw [CJ,<-hL,fv]
 have qc:∀(j:Nat) (hj:j<ms.length),bN ms[j].xss/\ms[j].top.n<=4:=fun j hj=>by
  have h9:=IV (n:=n) (F:=F) (by omega) (by omega) (by rw [hL]) hj;have h8:=IW (rank:=(n:Int)) (flags:=(F:Int)) (L:=ms[j].xss) (by rw [CJ,<-hL];exact List.mem_map_of_mem (f:=(·.xss)) (di hj));have h7:=b6 _ (di hj);unfold bC.ok at h7;exact⟨h9.1,by rw [<-h7];exact h8.2.2.2.1⟩
 refine aq O (ic hS O ?_);intro A9 w3 aL;refine aA O (Cd.loop (α:=Nat×(ai×Nat)) (fun s=> [(7,.slice A ms.length c),(9,.slice s.2.1 (gE (ms.take s.1)).length s.2.2),(10,aj (s.1:Int))]) (fun s w'=>St w w' (aQ 37 s.2.1 (gE (ms.take s.1)).length s.2.2 ((gE (ms.take s.1)).map (·.top))::aQ 37 A ms.length c (ms.map (·.top))::aE 2 A2 ms.length c2 (ms.map (gN F))::b7 24 2 ms)/\s.1<=ms.length) (fun s=>ms.length - s.1) (0,(A9,0)) (Wn O) ⟨aL,bk _⟩ ?_);rintro⟨i,⟨B,cB⟩⟩ e w4 ⟨aN,hi⟩;dsimp only at aN hi|-;have HH:(gE (ms.take i)).length<=i:=by
  have h2:=jN (fun m:bC=>mG m.xss) (ms.take i);have h3:(gE (ms.take i)).length<=(ms.take i).length:=h2;rw [kM]at h3;omega
 refine aY O (aR O O (aA O ?_));refine aJ _ O (fun h1=>?_) (fun h1=>?_)
 ·have bP:i<ms.length:=by omega
  have ir:=Ju bP;have hR:=aN.dB 1 O;have ht:=r5 bP;have gC:=di bP;have Gx:=qc i bP;have BV:=aN.oD (c:=ms[i].top.c) (t1:=24) (t2:=2) ((pC gC).trans (List.Sublist.cons _ (List.Sublist.cons _ (List.sublist_cons_self _ _)))) (b6 _ gC);have CS:ms[i].top.n<=9223372036854775807:=by have:=Gx.2;omega
  refine aC O (aw hR.2 O (nj hR O (by omega) O ?_));rw [ht];refine aO (Rz ms[i].top.a ms[i].top.n ms[i].top.c ms[i].rs ms[i].xss _ BV CS Gx.1) O ?_;rintro _ w5 ⟨b,rfl,hb,ax⟩;have aV:=aN.ao ax.below;have oo:=aV.dB 1 O;refine aA O ?_;rcases b with _ | _
  ·rw [aB (fun h=>by have:=hb.2 (Bd.1 h);cases this)]at ir;refine Cd.dO O (aC O (aI O (aM O (tQ ?_))));refine⟨(i+1,(B,cB)),by show ms.length - (i+1)<ms.length - i;omega,⟨O,by show Value.slice _ _ _= .slice _ (gE (ms.take (i+1))).length _;rw [ir],O,av⟩,?_,bP⟩;show St w w5 (aQ _ B (gE (ms.take (i+1))).length cB ((gE (ms.take (i+1))).map (·.top))::_);rw [ir];exact aV
  rw [aF (Bd.2 (hb.1 rfl))]at ir;refine Cd.eP O ?_;have e1:(gE (ms.take i)++ [ms[i]]).length=(gE (ms.take i)).length+1:=by simp
  refine aC O (aw oo.2 O (nj oo O (by omega) O ?_));rw [ht];refine tB aV O O O fun bB w6 bg=>iU 1 bg O (bg.dB 0 O) O O O (by omega) (by omega) O ?_;intro fo lQ w7 bm;have bm:St w w7 (aQ 37 fo ((gE (ms.take i)).length+1) lQ ((gE (ms.take i)).map (·.top)++ [ms[i].top])::aQ 37 A ms.length c (ms.map (·.top))::aE 2 A2 ms.length c2 (ms.map (gN F))::b7 24 2 ms):=bm.tail;refine aq O (aI O (aM O (tQ ?_)));refine⟨(i+1,(fo,lQ)),by show ms.length - (i+1)<ms.length - i;omega,⟨O,by show Value.slice _ _ _= .slice _ (gE (ms.take (i+1))).length _;rw [ir,e1],O,av⟩,?_,bP⟩;show St w w7 (aQ _ fo (gE (ms.take (i+1))).length lQ ((gE (ms.take (i+1))).map (·.top))::_);rw [ir,e1,iT];exact bm
 refine bj O (bl (dd O ?_));refine qy O O ?_;have Cz:i=ms.length:=by omega
 rw [Cz,eI (cO _)]at aN|-;have e1:po n F=(gE ms).map (·.xss):=by rw [po,CJ,<-hL,Jv]
 have e2:qp n F=0:=by rw [qp,aF hs]
 rw [e1,e2];exact⟨B,cB,gE ms,O,O,fun m hm=>b6 m (eO.1 hm).1,aN.sub (List.Sublist.cons_cons _ (((y5 List.filter_sublist).trans (List.sublist_cons_self _ _)).trans (List.sublist_cons_self _ _)))⟩
theorem Tk(A:ai)(n c:Nat)(rs:List aH)(xss:ag)(w:aa)(hT:mx w)(hR:bu w A n rs xss)(hM:bN xss):
 aG prog 75 [.agg #[.slice A n c]] w (fun v w'=>v= .bool (!(mG xss))/\St w w' []):=by
 refine bs func75 O ntmps75 O (bF O) (aY O (gS (St.refl w) O O ?_));intro A1 w1 aD;refine aq O (ak.dz 0 (aD.rd 0 O) O O O (aO (QG A n c rs xss _ (hT.ao aD.below) (aD.bE hR) hM) O ?_));rintro _ w2 ⟨b,rfl,hb,ax⟩;refine aq O ?_
 first | refine dv rfl rfl ?_ | refine eJ rfl rfl ?_
 refine bW O (bG O ?_);refine⟨?_,(aD.ao ax.below).none⟩;have:b=mG xss:=Bool.eq_iff_iff.2 (hb.trans Bd.symm);rw [this]
theorem Io{pd:Nat->Bool}{ms:List bC}(h:∀(j:Nat) (hj:j<ms.length),pd j= !(mG ms[j].xss)):∀k,k<=ms.length->(jY pd k).map (fun j=> (ms.map (·.top)).getD j bA)=(gE (ms.take k)).map (·.top)
 | 0,_=>rfl
 | k+1,hk=>by
  have ih:=Io h k (by omega);have cE:k<ms.length:=by omega
  have hp:=h k cE;rw [s7,Ju cE]
  by_cases ho:mG ms[k].xss=true
  ·rw [aF ho,aB (by rw [hp];simp [ho]),iT,iT,ih];simp [bX,dE cE]
  ·rw [aB ho,aF (by rw [hp];simp [ho]),ih]
theorem H7(rank flags:Int)(w:aa)(hT:mx w):aG prog 24 [aj rank,aj flags] w (u1 (po rank flags) (qp rank flags) w):=by
 have Pm:=DK rank flags;refine bs func24 O ntmps24 O (mV O) (aY O (aO (Lo rank flags _) O ?_));rintro _ w2 ⟨A,c,ms,rfl,hL,b6,hS⟩;have lA:ms.length=(ka rank flags).length:=by rw [<-hL,fv]
 have Cq:∀(j:Nat) (hj:j<ms.length),bN ms[j].xss/\flags.toNat=(gl ms[j].xss 0).length/\jz flags.toNat ms[j].xss/\0<flags.toNat:=fun j hj=>by
  have hs:Small rank flags:=kK fun hs=>by
   rw [ka,aB hs]at lA;have lA:ms.length=0:=lA;omega
  have h1:=hs.1;have h2:=hs.2;have:=IV (n:=rank.toNat) (F:=flags.toNat) (by omega) (by omega) (by rw [hL,ka,aF hs]) hj;exact⟨this.1,this.2.1,this.2.2,by omega⟩
 refine aq O ?_;refine aO (Ms 0 hS O (by omega) 75 (fun j=>if hj:j<ms.length then !(mG ms[j].xss)else false) (fun w' q hq x3 a ha=>?_)) O ?_
 ·obtain⟨hM,hN,hO,hF⟩:=Cq a ha;have x3:St w w' (aQ 37 A ms.length c (q.map fun j=> (ms.map (·.top)).getD j bA)::b7 24 2 ms):=x3;have BV:=x3.oD (c:=ms[a].top.c) (t1:=24) (t2:=2) ((pC (di ha)).trans (List.sublist_cons_self _ _)) (b6 _ (di ha));have e1:(ms.map (·.top)).getD a bA=ms[a].top:=by simp [bX,dE ha]
  rw [e1];refine(Tk ms[a].top.a ms[a].top.n ms[a].top.c ms[a].rs ms[a].xss w' (hT.ao x3.below) BV hM).mono ?_;rintro v nU ⟨rfl,ax⟩;exact⟨by rw [dif_pos ha],ax⟩
 rintro _ w3 ⟨rfl,aL⟩;have CF:=Io (pd:=fun j=>if hj:j<ms.length then !(mG ms[j].xss)else false) (fun j hj=>by rw [dif_pos hj]) ms.length (cO _);have fE:=aS List.length CF;rw [fv,fv,eI (cO _)]at fE;rw [eI (cO _)]at CF;rw [CF,fE]at aL;rw [fE];have aL:St w w3 (aQ 37 A (gE ms).length c ((gE ms).map (·.top))::b7 24 2 ms):=aL;refine bW O (qy O O ?_);exact⟨A,c,gE ms,O,by rw [Jv,hL];rfl,fun m hm=>b6 m (eO.1 hm).1,aL.sub (List.Sublist.cons_cons _ (y5 List.filter_sublist))⟩
theorem Kx(rank flags:Int)(w:aa)(hT:mx w):aG prog 4 [aj rank,aj flags] w (fun v w'=>v= .bool true/\St w w' []):=by
 have hlen:=Tg rank flags;refine bs func4 O ntmps4 O (bF O) (aY O (aO (T3 rank flags _) O ?_));rintro _ w1 ⟨A0,c0,wK,rfl,iJ,CZ,aD⟩;have o8:wK.length=(po rank flags).length:=by rw [<-iJ,fv]
 have hsm0:=aD.Ek (List.sublist_cons_self _ _) (fun m hm=>D0 (by rw [<-iJ];exact List.mem_map_of_mem (f:=(·.xss)) hm)) CZ;refine aq O (aO (H7 rank flags _ (hT.ao aD.below)) O ?_);rintro _ w2 ⟨A1,c1,oG,rfl,BO,C0,ay⟩;have Hr:oG.length=(po rank flags).length:=by rw [<-BO,fv]
 have wu:=ay.Ek (List.sublist_cons_self _ _) (fun m hm=>D0 (by rw [<-BO];exact List.mem_map_of_mem (f:=(·.xss)) hm)) C0;have Oy:∀m∈oG,m.top.n<=9223372036854775807:=fun m hm=>by have:=(wu m hm).2.2.1;omega
 have ay:=aD.call ay;have N4:=ay.wL CZ (iw _ _);have iC:=ay.wL C0 (nc _ _);refine aq O (aO (Fz A1 c1 oG A0 c0 wK _ iC N4 (by omega) Oy) O ?_);rintro _ w3 ⟨rfl,Dg⟩;have aL:=ay.ao Dg.below;have MB:oG.map (·.xss)=wK.map (·.xss):=by rw [iJ,BO]
 first | refine dv rfl rfl ?_ | refine eJ rfl rfl ?_
 refine aq O (bR 29 O (fun h=>absurd MB h) (fun h=>?_));refine ar O (aq O (ar O (aq O (ar O (aA O ?_)))));refine kJ O (fun h=>h O) (aC O (aO (Sd 1 aL wu (by omega) (by omega)) O ?_));rintro _ w4 ⟨rfl,aN⟩;have ik:oR w4 A1 (gM 1 oG):=aN.wL (c:=c1) (Sy C0) (by rw [za,DP];exact nc _ _);have yO:=zt (b:=48) oG (fun m hm=> (wu m hm).dL.2);refine aq O (aO (Hc A1 c1 oG 1 _ ik wu (by omega) (by omega)) O ?_);rintro _ w4 ⟨rfl,rfl⟩;refine aA O (kJ O (by omega) (cj O ?_));refine kJ O (fun h=>h O) (aC O (aO (H7 rank flags _ (hT.ao aN.below)) O ?_));rintro _ w5 ⟨A2,c2,zb,rfl,BP,HD,aV⟩;have yo:zb.length=(po rank flags).length:=by rw [<-BP,fv]
 have PX:=aV.Ek (List.sublist_cons_self _ _) (fun m hm=>D0 (by rw [<-BP];exact List.mem_map_of_mem (f:=(·.xss)) hm)) HD;have Oz:∀m∈zb,m.top.n<=9223372036854775807:=fun m hm=>by have:=(PX m hm).2.2.1;omega
 have N5:=(aN.wL CZ (iw (aQ 37 A1 oG.length c1 (oG.map (·.top))::b7 24 2 (gM 1 oG)) _)).ao aV.below;have fc:=aV.wL HD (na _);refine aq O (aO (Fz A2 c2 zb A0 c0 wK _ fc N5 (by omega) Oz) O ?_);rintro _ w6 ⟨rfl,l5⟩;have MD:zb.map (·.xss)=wK.map (·.xss):=by rw [iJ,BP]
 first | refine dv rfl rfl ?_ | refine eJ rfl rfl ?_
 refine aq O (bR 55 O (fun h=>absurd MD h) (fun h=>?_));refine ar O (aq O (ar O (aq O (ar O (aA O ?_)))));refine kJ O (fun h=>h O) (aC O (aO (Hc A1 c1 oG 1 _ ((ik.ao aV.below).ao l5.below) wu (by omega) (by omega)) O ?_));rintro _ w6 ⟨rfl,rfl⟩;refine aA O (kJ O (by omega) (cj O ?_));refine kJ O (fun h=>h O) (bV O (bG O ?_));exact⟨O,((aN.ao aV.below).ao l5.below).none⟩
end
section
open Go.RowKit Go.ChangeShapes Go.WideShapes
theorem laid:laidOutB prog=true:=by kernel_rfl
theorem own:ownKnob prog.godebug=none:=by kernel_rfl
section
variable {H:Type} {enc:ad×ab->H} {P:Program}
theorem J7(hl:laidOutB P=true){W W':aa}(hb:Below W.heap.size W W'){sp:Nat->Bool}:∀ {ts:List ad} {vs:List ab} {ds:List (DataW H)} {ps:List MemPlace},(ts.all fun t=>P.readableRec t && Nat.blt t P.types.size)=true->(∀p∈ps,p.block<W.heap.size)->(∀p∈ps,sp p.block=true)->
 DataW.TrodAll enc P W 0 (fun _=>true) true ts vs ds ps->DataW.TrodAll enc P W' 0 sp true ts vs ds ps
 | [],[],[],_,_,_,_,h=>h
 | t::ts,v::vs,d::ds,ps,hr,cW,yN,h=>by
  obtain⟨p,q,h1,h2,rfl⟩:=h;simp only [List.all_cons,Bool.and_eq_true]at hr;exact⟨p,q,WideElems.Trod_stays hl hr.1.1 (by simpa [Nat.blt_eq]using hr.1.2) h1 (fun x hx=>hb.same (cW x (by simp [hx]))) (fun x hx=>yN x (by simp [hx])),J7 hl hb hr.2 (fun x hx=>cW x (by simp [hx])) (fun x hx=>yN x (by simp [hx])) h2,O⟩
 | [],[],_::_,_,_,_,_,h=>h.elim
 | [],_::_,_,_,_,_,_,h=>by cases h
 | _::_,[],_,_,_,_,_,h=>by cases h
 | _::_,_::_,[],_,_,_,_,h=>by cases h
theorem Tm{f:Func}{s:ChangeSpec}{apart:Bool}{W W':aa}{args:Array ab}{ds gs:List (DataW H)}{before:List MemPlace}(hl:laidOutB P=true){b:ad}(hu:P.underlying b=some .bool)(HO:f.resultTypes= #[b])(hv:s.vars=[])
 (hr:(f.params.toList.all fun t=>P.readableRec t && Nat.blt t P.types.size)=true) (jn:(s.fn H (ds++gs)).results=[.lit (.bool true)]/\(s.fn H (ds++gs)).args=ds/\(s.fn H (ds++gs)).vars=[])
 (hW:DataW.Whole enc P f.params.toList s.vars apart W args.toList ds gs before) (hb:Below W.heap.size W W'):s.post enc P f apart true false false W args (.bool true) W':=by
 have cW:∀x∈before,x.block<W.heap.size:=fun x hx=>hW.lt x hx
 have Od:=hW;obtain⟨p,q,hA,hV,rfl,hz,hn⟩:=hW;rw [hv]at hV;obtain⟨rfl,rfl⟩:=trodVars_none hV;have Hu:∀x∈p,x.block<W.heap.size:=fun x hx=>cW x (by simp [hx])
 have Ge:∀sp:Nat->Bool,(∀x∈p,sp x.block=true)->DataW.TrodAll enc P W' 0 sp true f.params.toList args.toList (s.fn H (ds++ [])).args p:=fun sp yN=>by
  rw [jn.2.1];exact J7 hl hb hr Hu yN hA
 have ij:∀(b0:Nat) (sp:Nat->Bool) (hd:Bool),DataW.TrodAll enc P W' b0 sp hd f.resultTypes.toList ((Value.bool true).resultList f.resultTypes.size) (s.fn H (ds++ [])).results []:=fun b0 sp hd=>by
  rw [jn.1,HO];exact trodAll_cons_mk (shut_bool hu _) trodAll_mk0
 have GO:∀sp:Nat->Bool,DataW.TrodVars enc P W' sp s.vars (s.fn H (ds++ [])).vars []:=fun sp=>by
  rw [jn.2.2,hv];rfl
 refine⟨ds,[],p++ [],[],p,[],Od,ij _ _ _,Ge _ (fun x hx=>by simpa using Hu x hx),GO _,World.keptBut_mono (fun x hx=> ⟨hx,by simpa using hx⟩) (hb.frame (· ∈p++ [])),fun _=> ⟨fun j t r h1 h2=>?_,_,_,([]++p)++ [],⟨[]++p,[],trodAll_append (Ge _ fun _ _=>O) (ij _ _ _),GO _,O,fun c off hc=>?_,fun ha=>by simpa using hn ha⟩,fun x hx _=>by simpa using hx⟩⟩
 ·rw [HO]at h1 h2;cases j with
  | zero=>
   simp at h1;subst h1;simp [Value.resultList]at h2;subst h2;exact okWide_bool_mk hu _
  | succ j=>simp at h1
 ·have cd:MemPlace.cell c off∈p++ []:=by simpa using hc
  rw [hb.frozen (cW _ cd)];exact hz c off cd
end
section
variable {H:Type} {enc:ad×ab->H} {P:Program}
end
end
end Go.Proofs.YtagdamiiececaaaGreatDoor.Vc
