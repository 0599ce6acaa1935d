/-
 Lemmas. Conditions: as each states them.
-/
import Derived.Test.YtkojeolafnadeaaGreatDoorLay
import Derived.Shelf.SortM.Plain
import Derived.Test.YtkojeolafnadeaaGreatDoorZc
set_option maxHeartbeats 8000000
namespace Go.Proofs.YtkojeolafnadeaaGreatDoor.Vc
open Tryz
section
open Go.RowKit Go.Sort
variable{w w0:aa}{off:Nat}
theorem aay{g n:Nat}{os:Array Obj}{cur:Array ab}{e:ad}{fr:Nat×Nat}(d:Array Int)(hb:w.heap[g]?=some (.cells cur e fr)):(Go.Sort.grow (putRow (Value.int .i64) (Sort.ahead w n) g off d) os).heap[g]?=some (.cells (putCells (Value.int .i64) off d cur) e fr):=by
 have hg:g<w.heap.size:=(Array.getElem?_eq_some_iff.1 hb).1;rw [heap_grow_old _ _ (by simpa using hg)];simp [putRow,mapBlock,Sort.ahead,Array.getElem?_modify,hb,onCells]
theorem Yg{g n:Nat}{os:Array Obj}(d:Array Int):Cw w (Go.Sort.grow (putRow (Value.int .i64) (Sort.ahead w n) g off d) os) (some g):=by
 refine⟨⟨O,O,O,by simp,fun k hk cS=>?_⟩,Nat.le_add_right _ _⟩;rw [heap_grow_old _ _ (by simpa using hk)];have:g≠k:=fun e=>cS (by rw [e])
 simp [putRow,mapBlock,Sort.ahead,Array.getElem?_modify,this]
theorem agc{ks:List Ck}(i:Nat){t:ad}{A:ai}{n c:Nat}{xs:ah}(hS:St w0 w ks)(hk:ks[i]?=some (ar t A n c xs))(h0:0<n)(hn:n<=1000000000):
 aG prog 124 [.slice A n c] w (fun v w'=>v= .tuple #[]/\St w0 w' (ks.set i (ar t A n c (fT xs)))):=by
 obtain⟨h1,h2,h3,h4⟩:=hS.rI hk (tf _);have hl:xs.length=n:=hS.zl i hk;have h2:n<=c:=h2;rcases h4 with⟨_,om⟩ | ⟨g,o,cur,hA,hg,hh,hs,hc⟩
 ·have om:c=0:=om;omega
 have hA:A=some ⟨g,o,none⟩:=hA;have hs:o+c<=cur.size:=hs;have hc:∀j,j<n->cur[o+j]?=(xs.map (Value.int .i64))[j]?:=hc;subst hA;subst hl;have hH:Holds (Value.int .i64) w g o xs.toArray:=fun j hj=>by
  have kF:j<xs.length:=by simpa using hj
  refine⟨?_,by simp [World.frozen?,hh]⟩;simp only [World.cell?,hh];simp only [Option.isSome_none,Bool.false_eq_true,if_false];rw [hc j kF];simp [kF]
 have eL:g<w.heap.size:=(Array.getElem?_eq_some_iff.1 hh).1;have key:=AnyM.slices_Sort_int Sn g o c xs w hH eL (by omega);refine Calls.mono key fun x w' ⟨hx,m,os,hw⟩=> ⟨_,hx,O,?_⟩
 subst hw;have Kp:(fT xs).length=xs.length:=(vZ xs).length_eq;refine hS.turn hk O O (Yg _) (.qj (tf _) ⟨by simp [Kp],h2,h3,.inr ⟨g,o,_,O,hg,aay _ hh,by simp only [putCells,Array.size_mapIdx];exact hs,fun j hj=>?_⟩⟩);have hj:j<xs.length:=hj;show(putCells (Value.int .i64) o (fT xs).toArray cur)[o+j]?=((fT xs).map (Value.int .i64))[j]?;have J6:o+j<cur.size:=by have:xs.length<=c:=h2;omega
 simp [putCells,J6,Kp,hj]
end
section
open Go.RowKit
theorem LQ{α:Type}{l:List α}{i:Nat}{x:α}(h:l[i]?=some x):l.set i x=l:=by
 apply List.ext_getElem?;intro j;rw [n3]
 split
 ·rename_i e;subst e;rw [aT (gw.1 h).1,h]
 rfl
theorem Rd.one{w:aa}{A:ai}{n:Nat}{f:Nat->ab}(h:Rd w A (n+1) f):Rd w A 1 (fun _=>f 0):=fun j hj=>by
 obtain rfl:j=0:=by omega
 exact h 0 (by omega)
def marks(k:Int)(n:Nat):ah:=(List.range n).map fun j:Nat=>k+ (j:Int)
section
variable {P:Program} {N:Nat} {ops:Array Oper} {K:Env->aa->Prop} {rest:List Oper} {e:Env} {w:aa} {d:Nat} {ty:ad} {pos:String} {af:Array Edge}
theorem Va{F:FuncId}{x:ae}{v1:ab}(hx:ev e x=v1)(hb:Nat.blt d N=true)(hK:ak P N ops K rest (bC e d (.func (.func F) #[] #[v1])) w):
 ak P N ops K (⟨some d,.makeFunc (.func F) #[] #[x],ty,pos,af,none⟩::rest) e w:=
 .val (by simp [execOp,Instr.makeFunc,hx]) hb hK
end
theorem X5(l:ah)(i:Nat):gi (l.drop i) 0=gi l i:=by simp [gi,dt,List.getElem?_drop]
theorem Vw{w0 w:aa}{ks:List Ck}{i:Nat}{t:ad}{A:ai}{n c l:Nat}{xs:ah}(hS:St w0 w ks)(hk:ks[i]?=some (ar t A n c xs))(hl:l<=n):St w0 w (ks.set i (ar t (cutAt A c l) (n - l) (c - l) (xs.drop l))):=by
 have di:=hS.zl i hk;obtain⟨h1,h2,h3,h4⟩:=hS.rI hk (tf _);have h2:n<=c:=h2;have h3:c<=maxLen:=h3;rcases h4 with⟨hA,om⟩ | ⟨g,o,cur,hA,hg,hh,hs,hc⟩
 ·have hA:A=Option.none:=hA;have om:c=0:=om;subst hA om;obtain rfl:n=0:=by omega
  obtain rfl:l=0:=by omega
  obtain rfl:=lg di;have e:cutAt Option.none 0 0=Option.none:=O;rw [e];show St w0 w (ks.set i (ar t Option.none 0 0 []));rw [LQ hk];exact hS
 have hA:A=some ⟨g,o,Option.none⟩:=hA;have hs:o+c<=cur.size:=hs;have hh:w.heap[g]?=some (.cells cur t (0,0)):=hh;have hc:∀j,j<n->cur[o+j]?=(xs.map (Value.int .i64))[j]?:=hc;subst hA;have Be:∃o',cutAt (some ⟨g,o,Option.none⟩) c l=some ⟨g,o',Option.none⟩/\o'+ (c - l)<=cur.size/\(0<n - l->o'=o+l):=by
  unfold cutAt
  split
  ·exact⟨o,O,by omega,fun h=>by omega⟩
  exact⟨o+l,by simp [aB,zL],by omega,fun _=>O⟩
 obtain⟨o',e1,e2,e3⟩:=Be;refine hS.turn hk O (by simp [Ck.il,e1]) ⟨⟨O,O,O,dC _,fun _ _ _=>O⟩,dC _⟩ (.qj (tf _) ⟨by simp [di],by show n - l<=c - l;omega,by show c - l<=maxLen;omega,.inr ⟨g,o',cur,e1,hg,hh,e2,fun j hj=>?_⟩⟩);have hj:j<n - l:=hj;show cur[o'+j]?=((xs.drop l).map (Value.int .i64))[j]?;rw [e3 (Nat.zero_lt_of_lt hj),Nat.add_assoc,hc (l+j) (Nat.add_lt_of_lt_sub' hj)];simp [List.getElem?_drop]
theorem GP(u:Nat->ab){i j:Nat}{v w:ab}(h:u i=v)(h':u j=w):u=fun k=>if k=i then v else if k=j then w else u k:=by
 funext k
 split
 ·rename_i e;rw [e,h]
 split
 ·rename_i e;rw [e,h']
 rfl
theorem dm.all{xss:ag}(hM:dm xss){f:Int}(h0:0<=f)(h1:f< (gl xss 0).length):Reach xss 0 f:=(SF hM.2.2.1.sys (by have:=hM.2.1;omega)).1 hM.2.2.2.2 f h0 h1
theorem dm.any{xss:ag}(hM:dm xss){f g:Int}(h0:0<=f)(h1:f< (gl xss 0).length)(h2:0<=g)(h3:g< (gl xss 0).length):Reach xss f g:=((hM.all h0 h1).symm hM.2.2.1.sys hM.2.2.1.inj (by omega) (by have:=hM.2.1;omega)).trans (hM.all h2 h3)
theorem Eb{N:Nat}{xss:ag}(hs:Sys N xss)(dI:ry N xss):∀i,i<=N->(∀x:Int,0<=x->x<N->gi (bG N xss i).1 x= -1\/(0<=gi (bG N xss i).1 x/\gi (bG N xss i).1 x< (bG N xss i).2))/\∀v:Int,0<=v->v< (bG N xss i).2->∃x:Int,0<=x/\x<N/\gi (bG N xss i).1 x=v
 | 0,_=> ⟨fun x h0 h1=> .inl (by rw [show(bG N xss 0).1=List.replicate N (-1) from rfl,wK h0 h1]),fun v h0 h1=>by simp [bG]at h1;omega⟩
 | i+1,hi=>by
  obtain⟨h1,h2⟩:=Eb hs dI i (by omega)
  by_cases hp:0<=gi (bG N xss i).1 i
  ·rw [zj hp];exact⟨h1,h2⟩
  ·rw [xL hp];obtain⟨hg,iW,my⟩:=uJ hs (pt:=(i:Int)) (by omega) (by omega);have hc:=(uD N xss i).1;have Bi:∀x:Int,0<=x->gi (nT (bG N xss i).1 (bG N xss i).2 (fG N xss i)) x=if x∈fG N xss i then(bG N xss i).2 else gi (bG N xss i).1 x:=fun x hx=>vh _ _ _ (nQ N xss i) hg.range x hx
   have s3:(i:Int)∈fG N xss i:=iW.subset (by simp);refine⟨fun x h0 hx=>?_,fun v h0 hv=>?_⟩
   ·rw [Bi x h0];dsimp only
    split
    ·exact .inr ⟨hc,by omega⟩
    ·rcases h1 x h0 hx with h | h
     ·exact .inl h
     ·exact .inr ⟨h.1,by omega⟩
   ·dsimp only at hv|-
    by_cases e:v=(bG N xss i).2
    ·exact⟨i,by omega,by omega,by rw [Bi i (by omega),aT s3,e]⟩
    ·obtain⟨x,nO,qY,hx⟩:=h2 v h0 (by omega);refine⟨x,nO,qY,?_⟩;rw [Bi x nO,aR (fun hm=>?_),hx];obtain⟨j,hj,s5⟩:=(xK hs i (by omega) x nO qY).1 (by rw [hx];exact h0);have DD:=(my x).1 hm;exact hp ((xK hs i (by omega) (i:Int) (by omega) (by omega)).2 ⟨j,hj,s5.trans (Reach.symm hs dI (by omega) (by omega) DD)⟩)
theorem ad8{N:Nat}{xss:ag}(hs:Sys N xss)(dI:ry N xss)(x:Int)(h0:0<=x)(h1:x<N):0<=gi (bG N xss N).1 x/\gi (bG N xss N).1 x< (bG N xss N).2:=by
 have:=(xK hs N (dC _) x h0 h1).2 ⟨x.toNat,by omega,by rw [Int.toNat_of_nonneg h0];exact .refl⟩;rcases(Eb hs dI N (dC _)).1 x h0 h1 with h | h
 ·omega
 exact h
def mU(xs:ah):Int:=xs.foldl (fun o x=>if o<=x then x+1 else o) 0
theorem OJ(xs:ah)(x:Int):mU (xs++ [x])=if mU xs<=x then x+1 else mU xs:=by
 unfold mU;rw [List.foldl_append]
 rfl
theorem Ft:∀(m:Nat) (xs:ah),xs.length=m->0<=mU xs/\(∀x∈xs,x<mU xs)/\(mU xs=0\/∃x∈xs,mU xs=x+1)
 | 0,xs,h=>by
  obtain rfl:=lg h;exact⟨by simp [mU],(fun x hx=>by cases hx),.inl rfl⟩
 | m+1,xs,h=>by
  obtain⟨ys,y,rfl⟩:∃ys y,xs=ys++ [y]:=⟨xs.dropLast,xs.getLast (by intro e;rw [e]at h;simp at h),(List.dropLast_concat_getLast _).symm⟩;obtain⟨h1,h2,h3⟩:=Ft m ys (by simpa using h);rw [OJ]
  split
  ·refine⟨by omega,fun x hx=>?_,.inr ⟨y,by simp,O⟩⟩;rcases eD.1 hx with hx | hx
   ·have:=h2 x hx;omega
   ·simp at hx;omega
  ·refine⟨h1,fun x hx=>?_,?_⟩
   ·rcases eD.1 hx with hx | hx
    ·exact h2 x hx
    ·simp at hx;omega
   ·rcases h3 with h3 | ⟨x,hx,gR⟩
    ·exact .inl h3
    ·exact .inr ⟨x,by simp [hx],gR⟩
def cX(xss:ag)(i:Nat):ah:=(bG (gl xss 0).length (xss.eraseIdx i) (gl xss 0).length).1
def fE(xss:ag)(i:Nat):Int:=(bG (gl xss 0).length (xss.eraseIdx i) (gl xss 0).length).2
theorem Sys.erase{N:Nat}{xss:ag}(h:Sys N xss)(i:Nat):Sys N (xss.eraseIdx i):=fun p hp=>h p (List.mem_of_mem_eraseIdx hp)
theorem ry.erase{N:Nat}{xss:ag}(h:ry N xss)(i:Nat):ry N (xss.eraseIdx i):=fun p hp=>h p (List.mem_of_mem_eraseIdx hp)
theorem Fi(xss:ag)(i:Nat):(cX xss i).length=(gl xss 0).length:=nQ _ _ _
theorem rH(xss:ag)(i:Nat):0<=fE xss i/\fE xss i<=(gl xss 0).length:=uD _ _ _
theorem IA{xss:ag}(h:dm xss)(i:Nat)(f:Nat)(hf:f< (gl xss 0).length):0<=gi (cX xss i) f/\gi (cX xss i) f<fE xss i:=ad8 (h.2.2.1.sys.erase i) (h.2.2.1.inj.erase i) f (by omega) (by omega)
theorem Iz{xss:ag}(h:dm xss)(i:Nat)(v:Int)(h0:0<=v)(h1:v<fE xss i):∃f:Nat,f< (gl xss 0).length/\gi (cX xss i) f=v:=by
 obtain⟨x,nO,qY,hx⟩:=(Eb (h.2.2.1.sys.erase i) (h.2.2.1.inj.erase i) _ (dC _)).2 v h0 h1;exact⟨x.toNat,by omega,by rw [Int.toNat_of_nonneg nO];exact hx⟩
theorem K5{N:Nat}{xss:ag}(hs:Sys N xss):∀i,i<=N->(∀x:Int,0<=x->x<N->gi (bG N xss i).1 x= -1\/(0<=gi (bG N xss i).1 x/\gi (bG N xss i).1 x< (bG N xss i).2))/\(0< (bG N xss i).2->∃x:Int,0<=x/\x<N/\gi (bG N xss i).1 x=(bG N xss i).2 - 1)
 | 0,_=> ⟨fun x h0 h1=> .inl (by rw [show(bG N xss 0).1=List.replicate N (-1) from rfl,wK h0 h1]),fun h=>by simp [bG]at h⟩
 | i+1,hi=>by
  obtain⟨h1,h2⟩:=K5 hs i (by omega)
  by_cases hp:0<=gi (bG N xss i).1 i
  ·rw [zj hp];exact⟨h1,h2⟩
  ·rw [xL hp];obtain⟨hg,iW,my⟩:=uJ hs (pt:=(i:Int)) (by omega) (by omega);have hc:=(uD N xss i).1;have Bi:∀x:Int,0<=x->gi (nT (bG N xss i).1 (bG N xss i).2 (fG N xss i)) x=if x∈fG N xss i then(bG N xss i).2 else gi (bG N xss i).1 x:=fun x hx=>vh _ _ _ (nQ N xss i) hg.range x hx
   have s3:(i:Int)∈fG N xss i:=iW.subset (by simp);refine⟨fun x h0 hx=>?_,fun _=> ⟨i,by omega,by omega,by rw [Bi i (by omega),aT s3];show _=(bG N xss i).2+1 - 1;omega⟩⟩;rw [Bi x h0];dsimp only
   split
   ·exact .inr ⟨hc,by omega⟩
   ·rcases h1 x h0 hx with h | h
    ·exact .inl h
    ·exact .inr ⟨h.1,by omega⟩
theorem GD{N:Nat}{xss:ag}(hs:Sys N xss)(x:Int)(h0:0<=x)(h1:x<N):0<=gi (bG N xss N).1 x/\gi (bG N xss N).1 x< (bG N xss N).2:=by
 have:=(xK hs N (dC _) x h0 h1).2 ⟨x.toNat,by omega,by rw [Int.toNat_of_nonneg h0];exact .refl⟩;rcases(K5 hs N (dC _)).1 x h0 h1 with h | h
 ·omega
 exact h
theorem Yh{N:Nat}{xss:ag}(hs:Sys N xss)(hN:0<N):mU (bG N xss N).1=(bG N xss N).2:=by
 have hl:=nQ N xss N;obtain⟨h1,h2,h3⟩:=Ft _ (bG N xss N).1 rfl;have da:∀x∈(bG N xss N).1,0<=x/\x< (bG N xss N).2:=fun x hx=>by
  obtain⟨k,hk,rfl⟩:=gj.1 hx;rw [<-bX hk];exact GD hs k (by omega) (by omega)
 have h0:=GD hs 0 (by omega) (by omega);obtain⟨x,nO,qY,hx⟩:=(K5 hs N (dC _)).2 (by omega);have hm:gi (bG N xss N).1 x∈(bG N xss N).1:=by
  have e:gi (bG N xss N).1 x=(bG N xss N).1[x.toNat]'(by omega):=by simp [gi,dt,fU (show x.toNat< (bG N xss N).1.length by omega)]
  rw [e];exact fe _
 have h4:=h2 _ hm;rcases h3 with h3 | ⟨y,hy,uA⟩
 ·omega
 have:=da y hy;omega
def qC(M:ag):Prop:=(1<=M.length/\M.length<=5)/\(1<=(gl M 0).length/\(gl M 0).length<=400)/\Sys (gl M 0).length M
theorem dm.agn{M:ag}(h:dm M):qC M:=⟨h.1,⟨by have:=h.2.1;omega,h.2.1.2⟩,h.2.2.1.sys⟩
theorem C2{xss:ag}(h:qC xss)(i:Nat)(f:Nat)(hf:f< (gl xss 0).length):0<=gi (cX xss i) f/\gi (cX xss i) f<fE xss i:=GD (h.2.2.erase i) f (by omega) (by omega)
theorem XF{xss:ag}(h:qC xss)(i:Nat):mU (cX xss i)=fE xss i:=Yh (h.2.2.erase i) (by have:=h.2.1;omega)
theorem bL.erase{w:aa}{A:ai}{n:Nat}{rs:List aX}{xss:ag}(h:bL w A n rs xss){i:Nat}(hi:i<n){A':ai}(hT:iT w A' (n - 1) (rs.eraseIdx i)):bL w A' (n - 1) (rs.eraseIdx i) (xss.eraseIdx i):=by
 have hl:=h.len;have bT:=h.top.1;have er:∀j,j<n - 1->(rs.eraseIdx i).getD j bW=rs.getD (if j<i then j else j+1) bW:=fun j hj=>by
  simp only [dt,List.getElem?_eraseIdx];split<;>rfl
 have ex:∀j,j<n - 1->(xss.eraseIdx i).getD j []=xss.getD (if j<i then j else j+1) []:=fun j hj=>by
  simp only [dt,List.getElem?_eraseIdx];split<;>rfl
 refine⟨hT,by rw [List.length_eraseIdx,aT (by omega),hl],fun j hj=>?_,fun j hj=>?_⟩
 ·rw [er j hj,ex j hj];exact h.row _ (by split<;>omega)
 rw [er j hj];exact h.cap _ (by split<;>omega)
theorem ads(A:ai)(n c:Nat)(xs:ah)(v:Int)(w:aa)(hR:bt w A n xs)(hn:n<=9223372036854775807):
 aG prog 186 [.slice A n c,aj v] w (fun r w'=> (∃i:Int,r=aj i/\(0<=i↔v∈xs))/\w'=w):=by
 have di:=hR.1;refine bw func186 O ntmps186 O (b7 O) (b8 O ?_);refine Cd.loop (α:=Nat) (fun k=> [(0,.slice A n c),(1,aj v),(5,aj k)]) (fun k w'=>w'=w/\k<=n/\∀j,j<k->gi xs (j:Nat)≠v) (fun k=>n - k) 0 (ajz O) ⟨O,bu _,fun j hj=>by omega⟩ ?_;rintro k e w ⟨rfl,hk,hK⟩;refine bb O (ba O O (az O ?_));refine aM _ O (fun h3=>?_) (fun h3=>?_)
 ·refine aD O (aA hR.2 O (aY hR O (az O ?_)));refine aM _ O (fun h4=>?_) (fun h4=>?_)
  ·refine dB O (dO (dJ ?_));refine iY O ?_;exact⟨⟨(k:Int),O,⟨fun _=>by rw [<-h4,bX (by omega)];exact fe _,fun _=>by omega⟩⟩,O⟩
  refine aD O (aK O (aS O (tQ ?_)));refine⟨k+1,by show n - (k+1)<n - k;omega,(ajz O),O,by omega,fun j hj=>?_⟩
  by_cases ej:j=k
  ·subst ej;exact h4
  exact hK j (by omega)
 refine bo O (bn (eG O ?_));refine iY O ⟨⟨-1,O,⟨fun h=>absurd h (by decide),fun h=>?_⟩⟩,O⟩;obtain⟨j,hj,J2⟩:=gj.1 h;exact absurd (by rw [bX hj];exact J2) (hK j (by omega))
theorem KS(A:ai)(n c:Nat)(xs:ah)(v:Int)(w:aa)(hR:bt w A n xs)(hn:n<=9223372036854775807):
 aG prog 137 [.slice A n c,aj v] w (fun r w'=>r= .bool (decide (v∈xs))/\w'=w):=by
 refine bw func137 O ntmps137 O (b7 O) (bb O (aF (ads A n c xs v _ hR hn) O ?_));rintro _ w ⟨⟨i,rfl,hi⟩,rfl⟩;refine bD O (ck O ?_);exact⟨aL Value.bool (nA.2 hi),O⟩
theorem adC(A:ai)(n c:Nat)(rs:List aX)(xss:ag)(Ai:ai)(ci:Nat)(i:Nat)(w:aa)(hR:bL w A n rs xss)(hn:n<=1000)(hi:i<n)(hI:bt w Ai 1 [(i:Int)]):
 aG prog 191 [.agg #[.slice A n c],.slice Ai 1 ci] w (fun v w'=>∃A' c',v= .slice A' (n - 1) c'/\St w w' [br 24 A' (n - 1) c' (rs.eraseIdx i)]):=by
 have bT:=hR.top.1;have step:∀k (hk:k<n),(rs.take (k+1)).eraseIdx i=if k=i then(rs.take k).eraseIdx i else(rs.take k).eraseIdx i++ [rg rs k]:=fun k hk=>by
  have e:rg rs k=rs[k]'(by omega):=by simp [rg,dt,fU (show k<rs.length by omega)]
  rw [rC (by omega),e]
  by_cases h1:k=i
  ·subst h1;have h2:(rs.take k).length=k:=by rw [nt];omega
   rw [aT rfl,List.eraseIdx_append_of_length_le (by omega),h2,Nat.sub_self,List.eraseIdx_of_length_le (l:=rs.take k) (k:=k) (by omega)];simp
  rw [aR h1]
  by_cases h2:i<k
  ·rw [List.eraseIdx_append_of_lt_length (by simp;omega)]
  rw [List.eraseIdx_of_length_le (l:=rs.take k++_) (by rw [dh,nt,List.length_singleton];omega),List.eraseIdx_of_length_le (l:=rs.take k) (by rw [nt];omega)]
 have hlen:∀k,k<=n->((rs.take k).eraseIdx i).length=if i<k then k - 1 else k:=fun k hk=>by
  rw [List.length_eraseIdx,nt,Nat.min_eq_left (by omega)]
 refine bw func191 O ntmps191 O (b7 O) (bb O (mQ (St.refl w) O O ?_));intro Ab w1 aC;refine aq O (fZ aC O ?_);intro A5 w2 aE;have aE:St w w2 [br 24 A5 0 0 [],Bx 31 1 Ab [.slice A n c]]:=aE;refine az O (Cd.loop (α:=Nat×ai×Nat) (fun z=> [(1,.slice Ai 1 ci),(2,.pointer Ab),(5,.slice z.2.1 ((rs.take z.1).eraseIdx i).length z.2.2),(6,aj (z.1:Int))]) (fun z w'=>St w w' [br 24 z.2.1 ((rs.take z.1).eraseIdx i).length z.2.2 ((rs.take z.1).eraseIdx i),Bx 31 1 Ab [.slice A n c]]/\z.1<=n) (fun z=>n - z.1) (0,A5,0) (ajz O) ⟨aE,bu _⟩ ?_);rintro⟨k,A6,c6⟩ e w3 ⟨aH,hk⟩;dsimp only at aH hk|-;have jf:=aH.cV hR;have ov:=hlen k hk;refine bb O (aI (aH.rd 1 O) O (aV (aH.rd 1 O) O ?_));refine ba O O (az O ?_);refine aM _ O (fun h1=>?_) (fun h1=>?_)
 ·have ax:=step k (by omega);refine aD O (aF (KS Ai 1 ci _ k _ (aH.b9 hI) (by omega)) O ?_);rintro _ w3 ⟨rfl,rfl⟩
  first | refine de rfl rfl ?_ | refine dV rfl rfl ?_
  refine az O (aM _ O (fun h2=>?_) (fun h2=>?_))
  ·rw [aR (fun h=>h2 (by rw [h];simp))]at ax;refine aD O (aI (aH.rd 1 O) O (aV (aH.rd 1 O) O (aq O (ajn jf.top.2 O O O (by omega) h1 (bQ jf.top O (lU aH O O O ?_))))));intro A7 w4 aQ;refine lS 1 aQ O (aQ.fq 0 O) O O O (by rw [ov];split<;>omega) (by rw [ov];split<;>omega) O ?_;intro A8 c8 w5 a8;refine aq O (aK O (aS O (tQ ?_)));have e1:((rs.take (k+1)).eraseIdx i).length=((rs.take k).eraseIdx i).length+1:=by rw [ax];simp
   refine⟨(k+1,A8,c8),by show n - (k+1)<n - k;omega,⟨O,O,by show Value.slice _ _ _= .slice _ _ _;rw [e1],O,aw⟩,?_,by show k+1<=n;omega⟩;show St w w5 [br _ A8 ((rs.take (k+1)).eraseIdx i).length c8 ((rs.take (k+1)).eraseIdx i),_];rw [e1,ax];exact a8.tail
  have h3:=mM.1 h2;simp only [dK]at h3;rw [aT (by omega)]at ax;refine aD O (aK O (aS O (tQ ?_)));refine⟨(k+1,A6,c6),by show n - (k+1)<n - k;omega,⟨O,O,by show Value.slice _ _ _= .slice _ _ _;rw [ax],O,aw⟩,?_,by show k+1<=n;omega⟩;show St w w3 [br _ A6 ((rs.take (k+1)).eraseIdx i).length c6 ((rs.take (k+1)).eraseIdx i),_];rw [ax];exact aH
 refine bo O (bn (eG O ?_));refine fb O ?_;have qQ:k=n:=by omega
 subst qQ;rw [kA (by omega)]at aH;have e1:(rs.eraseIdx i).length=k - 1:=by rw [List.length_eraseIdx,aT (by omega),bT]
 rw [kA (by omega),e1];rw [e1]at aH;exact⟨A6,c6,O,aH.sub (List.Sublist.cons_cons _ (List.nil_sublist _))⟩
theorem SM(c:Int)(x:Int):∀(a L:ah),nT L c (a++ [x])=(nT L c a).set x.toNat c
 | [],_=>rfl
 | y::a,L=>SM c x a (L.set y.toNat c)
theorem RT(A:ai)(n c:Nat)(rs:List aX)(xss:ag)(N:Nat)(w:aa)(hR:bL w A n rs xss)(hn:n<=1000)(hs:Sys N xss)(hN:N<=1000):
 aG prog 190 [aj N,.slice A n c] w (fun v w'=>∃A' c',v= .slice A' N c'/\St w w' [ar 2 A' N c' (bG N xss N).1]):=by
 refine bw func190 O ntmps190 O (b7 O) (bb O (fZ (St.refl w) O ?_));intro A5 w1 aC;have aC:St w w1 [ar 2 A5 0 0 (List.replicate 0 (-1))]:=aC;refine az O (Cd.loop (α:=Nat×ai×Nat) (fun z=> [(0,aj N),(1,.slice A n c),(5,.slice z.2.1 z.1 z.2.2),(6,aj (z.1:Int))]) (fun z w'=>St w w' [ar 2 z.2.1 z.1 z.2.2 (List.replicate z.1 (-1))]/\z.1<=N) (fun z=>N - z.1) (0,A5,0) (ajz O) ⟨aC,bu _⟩ ?_);rintro⟨k,A6,c6⟩ e w2 ⟨aE,hk⟩;dsimp only at aE hk|-;refine b8 O (aM _ O (fun h1=>?_) (fun h1=>?_))
 ·refine aD O (dE aE O O O ?_);intro A7 w3 aH;refine dS 1 aH O (aH.bk 0 O) O O O fun A8 c8 w4 aQ=>aq O (aK O (aS O (tQ ?_)));refine⟨(k+1,A8,c8),by show N - (k+1)<N - k;omega,(ajz O),?_,by show k+1<=N;omega⟩;show St w w4 [ar _ A8 (k+1) c8 (List.replicate (k+1) (-1))];rw [List.replicate_succ'];exact aQ.tail
 refine bo O (bn (nY O ?_));have o3:k=N:=by omega
 subst o3;refine Cd.loop (α:=Nat) (fun i=> [(0,aj k),(1,.slice A n c),(5,.slice A6 k c6),(7,aj (bG k xss i).2),(8,aj i)]) (fun i w'=>St w w' [ar 2 A6 k c6 (bG k xss i).1]/\i<=k) (fun i=>k - i) 0 (ajz O) ⟨aE,bu _⟩ ?_;rintro i e w3 ⟨aH,hi⟩;have Fz:=aH.bk 0 O;have lq:=uD k xss i;refine b8 O (aM _ O (fun h2=>?_) (fun h2=>?_))
 ·refine aD O (aA Fz.2 O (aY Fz O (az O ?_)));refine aM _ O (fun h3=>?_) (fun h3=>?_)
  ·refine aD O (aK O (aS O (tQ ?_)));refine⟨i+1,by show k - (i+1)<k - i;omega,⟨O,O,O,by show Value.int .i64 _=aj _;rw [zj h3],O,aw⟩,by rw [zj h3];exact aH,by omega⟩
  obtain⟨hg,_,_⟩:=uJ hs (pt:=(i:Int)) (by omega) (by omega);refine aD O (aF (KU A n c rs xss k i _ (aH.cV hR) (by omega) hs (by omega) (by omega) (by omega)) O ?_);rintro _ w4 ⟨A9,c9,rfl,ax⟩;have aQ:=aH.call ax;have yY:(fG k xss i).length<=k:=hg.len;refine az O (Cd.loop (α:=Nat) (fun m=> [(0,aj k),(1,.slice A n c),(5,.slice A6 k c6),(7,aj (bG k xss i).2),(8,aj i),(9,.slice A9 (fG k xss i).length c9),(10,aj m)]) (fun m w'=>St w w' [ar 2 A9 (fG k xss i).length c9 (fG k xss i),ar 2 A6 k c6 (nT (bG k xss i).1 (bG k xss i).2 ((fG k xss i).take m))]/\m<=(fG k xss i).length) (fun m=> (fG k xss i).length - m) 0 (ajz O) ⟨aQ,bu _⟩ ?_);rintro m e w5 ⟨a8,hm⟩;have yA:=a8.bk 0 O;refine bb O (ba O O (az O ?_));refine aM _ O (fun h4=>?_) (fun h4=>?_)
  ·have kU:m< (fG k xss i).length:=by omega
   have QT:=hg.range _ (gi_in kU);refine aD O (aA yA.2 O (aY yA O (aq O (aA (a8.bk 1 O).2 O (ak.iG 1 a8 O O O (by omega) ?_)))));intro w6 bg;refine aq O (aK O (aS O (tQ ?_)));refine⟨m+1,by show _ - (m+1)<_ - m;omega,(ajz O),?_,kU⟩;rw [pg kU,SM];exact bg
  refine bo O (bn (cJ O (aK O (aq O (aK O (aS O (tQ ?_)))))));have hme:m=(fG k xss i).length:=by omega
  subst hme;rw [List.take_length]at a8;refine⟨i+1,by show k - (i+1)<k - i;omega,⟨O,O,O,by show Value.int .i64 _=aj _;rw [xL h3],O,aw⟩,by rw [xL h3];exact a8.tail,by omega⟩
 refine bo O (bn (eG O ?_));refine fb O ?_;have o0:i=k:=by omega
 subst o0;exact⟨A6,c6,O,aH⟩
theorem RY(A:ai)(n c:Nat)(xs:ah)(w:aa)(hR:bt w A n xs)(hn:n<=1000000)(hx:∀x∈xs,x<=1000000):
 aG prog 143 [.slice A n c] w (fun v w'=>v=aj (mU xs)/\w'=w):=by
 have di:=hR.1;refine bw func143 O ntmps143 O (b7 O) (b8 O ?_);refine Cd.loop (α:=Nat) (fun k=> [(0,.slice A n c),(3,aj (mU (xs.take k))),(4,aj k)]) (fun k w'=>w'=w/\k<=n) (fun k=>n - k) 0 (ajz O) ⟨O,bu _⟩ ?_;rintro k e w ⟨rfl,hk⟩;refine bb O (ba O O (az O ?_));refine aM _ O (fun h1=>?_) (fun h1=>?_)
 ·have hg:gi xs k<=1000000:=hx _ (by rw [bX (by omega)];exact fe _);have ax:mU (xs.take (k+1))=if mU (xs.take k)<=gi xs k then gi xs k+1 else mU (xs.take k):=by rw [pg (by omega),OJ]
  have JS:=(Ft _ (xs.take k) O).1;refine aD O (aA hR.2 O (aY hR O (az O ?_)));refine aM _ O (fun h2=>?_) (fun h2=>?_)
  ·rw [aT h2]at ax;refine aD O (aA hR.2 O (aY hR O ?_));refine aK O (aq O (aK O (aS O (tQ ?_))));exact⟨k+1,by show n - (k+1)<n - k;omega,⟨O,by show Value.int .i64 _=aj _;rw [ax],O,aw⟩,O,by omega⟩
  rw [aR h2]at ax;refine aD O (aK O (aS O (tQ ?_)));exact⟨k+1,by show n - (k+1)<n - k;omega,⟨O,by show Value.int .i64 _=aj _;rw [ax],O,aw⟩,O,by omega⟩
 refine bo O (bn (eG O ?_));refine iY O ?_;have qQ:k=n:=by omega
 subst qQ;exact⟨by rw [<-di,List.take_length],O⟩
theorem adA(A:ai)(n c:Nat)(rs:List aX)(xss:ag)(i:Nat)(w:aa)(hR:bL w A n rs xss)(hM:qC xss)(hi:i<n):
 aG prog 142 [.agg #[.slice A n c],aj i] w (fun v w'=>∃A' c',v= .slice A' (gl xss 0).length c'/\St w w' [ar 2 A' (gl xss 0).length c' (cX xss i)]):=by
 have hl:=hR.len;have h1:=hM.1;have h2:=hM.2.1;have hs:=hM.2.2;refine bw func142 O ntmps142 O (b7 O) (bb O (mQ (St.refl w) O O ?_));intro Ab w1 aC;refine az O ?_;refine dQ [.ex (.agg #[.slice (A) (n) (c)]),xI (((gl xss 0).length:Int)),.ex (.agg #[.slice (A) (n) (c)]),xI ((i:Int)),.pr (fun v w'=>∃A1,v= .slice A1 1 1/\bt w' A1 1 [(i:Int)]),.pr (fun v w'=>∃A1 c1,v= .slice A1 (n - 1) c1/\bL w' A1 (n - 1) (rs.eraseIdx i) (xss.eraseIdx i)),.pr (fun v w'=>∃A1 c1,v= .slice A1 (gl xss 0).length c1/\St w w' [ar 2 A1 (gl xss 0).length c1 (cX xss i)]),.pr (fun v w'=>∃A1 c1,v= .slice A1 (gl xss 0).length c1/\St w w' [ar 2 A1 (gl xss 0).length c1 (cX xss i)])] rfl (lx (lx (lx (lx (cg.2 ⟨Yd.cH (fun v w w' h hb=>by obtain⟨A1,hv,hT⟩:=h;exact⟨A1,hv,hT.ao hb⟩),(cg.2 ⟨Yd.cH (fun v w w' h hb=>by obtain⟨A1,c1,hv,hT⟩:=h;exact⟨A1,c1,hv,hT.ao hb⟩),(cg.2 ⟨Yd.cH (fun v w w' h hb=>by obtain⟨A1,c1,hv,hT⟩:=h;exact⟨A1,c1,hv,hT.ao hb⟩),(cg.2 ⟨Yd.cH (fun v w w' h hb=>by obtain⟨A1,c1,hv,hT⟩:=h;exact⟨A1,c1,hv,hT.ao hb⟩),(fun _ h=>by cases h)⟩)⟩)⟩)⟩))))) ?_ ?_
 ·refine⟨fun _ _ hb _ _=>bI 0 ((aC.rd 0 O).below hb) O O O Az,?_,fun _ _ hb _ _=>bI 0 ((aC.rd 0 O).below hb) O O O Az,Dr O,?_,?_,?_,?_,aw⟩
  ·intro e1 w1 hb hp bc;refine aF (xH A n c rs xss _ ((aC.ao hb).cV hR) (by omega)) O ?_;rintro _ w2 ⟨rfl,ax⟩;refine ak.n ?_;exact e6.dn ax.below (by exact O)
  ·intro e1 w1 hb hp bc;exact dE (St.refl _) O O O fun A1 w9 ax=>ak.n (e6.dn ax.below ⟨A1,O,ax.bk 0 O⟩)
  ·intro e1 w1 hb hp bc;obtain⟨A0,h9,wX⟩:=(hp 4 (by decide) rfl _ _ rfl rfl);refine ajq (adC A n c rs xss A0 1 i _ ((aC.ao hb).cV hR) (by omega) hi wX) O (by exact aL (fun v=> [Value.agg #[.slice A n c],v]) h9) O ?_;rintro _ w9 ⟨A1,c1,rfl,ax⟩;exact ak.n (e6.dn ax.below ⟨A1,c1,O,(((aC.ao hb).cV hR).ao ax.below).erase hi (ax.fq 0 O)⟩)
  ·intro e1 w1 hb hp bc;obtain⟨A0,c0,fH,wX⟩:=(hp 5 (by decide) rfl _ _ rfl rfl);refine ajq (RT A0 (n - 1) c0 _ _ (gl xss 0).length _ wX (by omega) (hs.erase i) (by omega)) O (by exact aL (fun v=> [Value.int .i64 ((gl xss 0).length:Int),v]) fH) O ?_;rintro _ w9 ⟨A1,c1,rfl,ax⟩;exact ak.n (e6.dn ax.below ⟨A1,c1,O,(aC.ao hb).none.call ax⟩)
  intro e1 w1 hb hp bc;obtain⟨A1,c1,pI,hT⟩:=(hp 6 (by decide) rfl _ _ rfl rfl);refine kc O (by exact pI) O (ak.n ?_);exact e6.dn (Below.refl _ _) ⟨A1,c1,O,hT⟩
 intro u w9 vt hu;obtain⟨A9,c9,h4,hT⟩:=hu 7 _ rfl;refine Cv O (fb (by exact h4) ?_);exact⟨A9,c9,O,hT⟩
end
end Go.Proofs.YtkojeolafnadeaaGreatDoor.Vc
