/-
 Lemmas. Conditions: as each states them.
-/
import Derived.Test.YtagdamiiececaaaGreatDoorLay
import Derived.Shelf.SortM.Plain
import Derived.Test.YtagdamiiececaaaGreatDoorZb
set_option maxHeartbeats 8000000
namespace Go.Proofs.YtagdamiiececaaaGreatDoor.Vc
open Tryz
section
open Go.RowKit Go.Sort
variable{w w0:aa}{off:Nat}
theorem PR{g n:Nat}{os:Array Obj}{cur:Array ad}{e:ae}{fr:Nat×Nat}(d:Array Int)(hb:w.heap[g]?=some (.cells cur e fr)):(Go.Sort.grow (putRow (Value.int .i64) (Sort.ahead w n) g off d) os).heap[g]?=some (.cells (putCells (Value.int .i64) off d cur) e fr):=by
 have hg:g<w.heap.size:=(Array.getElem?_eq_some_iff.1 hb).1;rw [heap_grow_old _ _ (by simpa using hg)];simp [putRow,mapBlock,Sort.ahead,Array.getElem?_modify,hb,onCells]
theorem Ot{g n:Nat}{os:Array Obj}(d:Array Int):yR w (Go.Sort.grow (putRow (Value.int .i64) (Sort.ahead w n) g off d) os) (some g):=by
 refine⟨⟨O,O,O,by simp,fun k hk bL=>?_⟩,Nat.le_add_right _ _⟩;rw [heap_grow_old _ _ (by simpa using hk)];have:g≠k:=fun e=>bL (by rw [e])
 simp [putRow,mapBlock,Sort.ahead,Array.getElem?_modify,this]
theorem UD{ks:List Ck}(i:Nat){t:ae}{A:aj}{n c:Nat}{xs:ai}(hS:St w0 w ks)(hk:ks[i]?=some (aw t A n c xs))(h0:0<n)(hn:n<=1000000000):
 aJ prog 130 [.slice A n c] w (fun v w'=>v= .tuple #[]/\St w0 w' (ks.set i (aw t A n c (jX xs)))):=by
 obtain⟨h1,h2,h3,h4⟩:=hS.qc hk (qx _);have hl:xs.length=n:=hS.vM i hk;have h2:n<=c:=h2;rcases h4 with⟨_,mG⟩ | ⟨g,o,cur,hA,hg,hh,hs,hc⟩
 ·have mG:c=0:=mG;omega
 have hA:A=some ⟨g,o,none⟩:=hA;have hs:o+c<=cur.size:=hs;have hc:∀j,j<n->cur[o+j]?=(xs.map (Value.int .i64))[j]?:=hc;subst hA;subst hl;have hH:Holds (Value.int .i64) w g o xs.toArray:=fun j hj=>by
  have jS:j<xs.length:=by simpa using hj
  refine⟨?_,by simp [World.frozen?,hh]⟩;simp only [World.cell?,hh];simp only [Option.isSome_none,Bool.false_eq_true,if_false];rw [hc j jS];simp [jS]
 have eQ:g<w.heap.size:=(Array.getElem?_eq_some_iff.1 hh).1;have key:=AnyM.slices_Sort_int Kb g o c xs w hH eQ (by omega);refine Calls.mono key fun x w' ⟨hx,m,os,hw⟩=> ⟨_,hx,O,?_⟩
 subst hw;have JB:(jX xs).length=xs.length:=(FF xs).length_eq;refine hS.turn hk O O (Ot _) (.oP (qx _) ⟨by simp [JB],h2,h3,.inr ⟨g,o,_,O,hg,PR _ hh,by simp only [putCells,Array.size_mapIdx];exact hs,fun j hj=>?_⟩⟩);have hj:j<xs.length:=hj;show(putCells (Value.int .i64) o (jX xs).toArray cur)[o+j]?=((jX xs).map (Value.int .i64))[j]?;have Ek:o+j<cur.size:=by have:xs.length<=c:=h2;omega
 simp [putCells,Ek,JB,hj]
end
section
open Go.RowKit
theorem FD{α:Type}{l:List α}{i:Nat}{x:α}(h:l[i]?=some x):l.set i x=l:=by
 apply List.ext_getElem?;intro j;rw [l0]
 split
 ·rename_i e;subst e;rw [aF (fY.1 h).1,h]
 rfl
theorem jI{w:aa}{A:aj}{n:Nat}{f:Nat->ad}(h:Rd w A (n+1) f):Rd w A 1 (fun _=>f 0):=fun j hj=>by
 obtain rfl:j=0:=by omega
 exact h 0 (by omega)
def marks(k:Int)(n:Nat):ai:=(List.range n).map fun j:Nat=>k+ (j:Int)
section
variable {P:Program} {N:Nat} {ops:Array Oper} {K:Env->aa->Prop} {rest:List Oper} {e:Env} {w:aa} {d:Nat} {ty:ae} {pos:String} {af:Array Edge}
theorem LY{F:FuncId}{x:ag}{v1:ad}(hx:ev e x=v1)(hb:Nat.blt d N=true)(hK:ao P N ops K rest (bj e d (.func (.func F) #[] #[v1])) w):
 ao P N ops K (⟨some d,.makeFunc (.func F) #[] #[x],ty,pos,af,none⟩::rest) e w:=
 .val (by simp [execOp,Instr.makeFunc,hx]) hb hK
end
theorem Oi(l:ai)(i:Nat):gi (l.drop i) 0=gi l i:=by simp [gi,cz,List.getElem?_drop]
theorem Me{w0 w:aa}{ks:List Ck}{i:Nat}{t:ae}{A:aj}{n c l:Nat}{xs:ai}(hS:St w0 w ks)(hk:ks[i]?=some (aw t A n c xs))(hl:l<=n):St w0 w (ks.set i (aw t (cutAt A c l) (n - l) (c - l) (xs.drop l))):=by
 have eu:=hS.vM i hk;obtain⟨h1,h2,h3,h4⟩:=hS.qc hk (qx _);have h2:n<=c:=h2;have h3:c<=maxLen:=h3;rcases h4 with⟨hA,mG⟩ | ⟨g,o,cur,hA,hg,hh,hs,hc⟩
 ·have hA:A=Option.none:=hA;have mG:c=0:=mG;subst hA mG;obtain rfl:n=0:=by omega
  obtain rfl:l=0:=by omega
  obtain rfl:=pM eu;have e:cutAt Option.none 0 0=Option.none:=O;rw [e];show St w0 w (ks.set i (aw t Option.none 0 0 []));rw [FD hk];exact hS
 have hA:A=some ⟨g,o,Option.none⟩:=hA;have hs:o+c<=cur.size:=hs;have hh:w.heap[g]?=some (.cells cur t (0,0)):=hh;have hc:∀j,j<n->cur[o+j]?=(xs.map (Value.int .i64))[j]?:=hc;subst hA;have vi:∃o',cutAt (some ⟨g,o,Option.none⟩) c l=some ⟨g,o',Option.none⟩/\o'+ (c - l)<=cur.size/\(0<n - l->o'=o+l):=by
  unfold cutAt
  split
  ·exact⟨o,O,by omega,fun h=>by omega⟩
  exact⟨o+l,by simp [aD,wA],by omega,fun _=>O⟩
 obtain⟨o',e1,e2,e3⟩:=vi;refine hS.turn hk O (by simp [Ck.fQ,e1]) ⟨⟨O,O,O,dh _,fun _ _ _=>O⟩,dh _⟩ (.oP (qx _) ⟨by simp [eu],by show n - l<=c - l;omega,by show c - l<=maxLen;omega,.inr ⟨g,o',cur,e1,hg,hh,e2,fun j hj=>?_⟩⟩);have hj:j<n - l:=hj;show cur[o'+j]?=((xs.drop l).map (Value.int .i64))[j]?;rw [e3 (Nat.zero_lt_of_lt hj),Nat.add_assoc,hc (l+j) (Nat.add_lt_of_lt_sub' hj)];simp [List.getElem?_drop]
theorem yp{N:Nat}{xss:ah}(hs:Sys N xss)(eK:nX N xss):∀i,i<=N->(∀x:Int,0<=x->x<N->gi (bc N xss i).1 x= -1\/(0<=gi (bc N xss i).1 x/\gi (bc N xss i).1 x< (bc N xss i).2))/\∀v:Int,0<=v->v< (bc N xss i).2->∃x:Int,0<=x/\x<N/\gi (bc N xss i).1 x=v
 | 0,_=> ⟨fun x h0 h1=> .inl (by rw [show(bc N xss 0).1=List.replicate N (-1) from rfl,se h0 h1]),fun v h0 h1=>by simp [bc]at h1;omega⟩
 | i+1,hi=>by
  obtain⟨h1,h2⟩:=yp hs eK i (by omega)
  by_cases hp:0<=gi (bc N xss i).1 i
  ·rw [um hp];exact⟨h1,h2⟩
  ·rw [sR hp];obtain⟨hg,lN,vB⟩:=qB hs (pt:=(i:Int)) (by omega) (by omega);have hc:=(rG N xss i).1;have vu:∀x:Int,0<=x->gi (lu (bc N xss i).1 (bc N xss i).2 (eV N xss i)) x=if x∈eV N xss i then(bc N xss i).2 else gi (bc N xss i).1 x:=fun x hx=>qV _ _ _ (lP N xss i) hg.range x hx
   have xC:(i:Int)∈eV N xss i:=lN.subset (by simp);refine⟨fun x h0 hx=>?_,fun v h0 hv=>?_⟩
   ·rw [vu x h0];dsimp only
    split
    ·exact .inr ⟨hc,by omega⟩
    ·rcases h1 x h0 hx with h | h
     ·exact .inl h
     ·exact .inr ⟨h.1,by omega⟩
   ·dsimp only at hv|-
    by_cases e:v=(bc N xss i).2
    ·exact⟨i,by omega,by omega,by rw [vu i (by omega),aF xC,e]⟩
    ·obtain⟨x,sM,pv,hx⟩:=h2 v h0 (by omega);refine⟨x,sM,pv,?_⟩;rw [vu x sM,aC (fun hm=>?_),hx];obtain⟨j,hj,pb⟩:=(sQ hs i (by omega) x sM pv).1 (by rw [hx];exact h0);have xD:=(vB x).1 hm;exact hp ((sQ hs i (by omega) (i:Int) (by omega) (by omega)).2 ⟨j,hj,pb.trans (Reach.symm hs eK (by omega) (by omega) xD)⟩)
theorem SC{N:Nat}{xss:ah}(hs:Sys N xss)(eK:nX N xss)(x:Int)(h0:0<=x)(h1:x<N):0<=gi (bc N xss N).1 x/\gi (bc N xss N).1 x< (bc N xss N).2:=by
 have:=(sQ hs N (dh _) x h0 h1).2 ⟨x.toNat,by omega,by rw [Int.toNat_of_nonneg h0];exact .refl⟩;rcases(yp hs eK N (dh _)).1 x h0 h1 with h | h
 ·omega
 exact h
def lI(xs:ai):Int:=xs.foldl (fun o x=>if o<=x then x+1 else o) 0
theorem Hy(xs:ai)(x:Int):lI (xs++ [x])=if lI xs<=x then x+1 else lI xs:=by
 unfold lI;rw [List.foldl_append]
 rfl
theorem Db:∀(m:Nat) (xs:ai),xs.length=m->0<=lI xs/\(∀x∈xs,x<lI xs)/\(lI xs=0\/∃x∈xs,lI xs=x+1)
 | 0,xs,h=>by
  obtain rfl:=pM h;exact⟨by simp [lI],(fun x hx=>by cases hx),.inl rfl⟩
 | m+1,xs,h=>by
  obtain⟨ys,y,rfl⟩:∃ys y,xs=ys++ [y]:=⟨xs.dropLast,xs.getLast (by intro e;rw [e]at h;simp at h),(List.dropLast_concat_getLast _).symm⟩;obtain⟨h1,h2,h3⟩:=Db m ys (by simpa using h);rw [Hy]
  split
  ·refine⟨by omega,fun x hx=>?_,.inr ⟨y,by simp,O⟩⟩;rcases gL.1 hx with hx | hx
   ·have:=h2 x hx;omega
   ·simp at hx;omega
  ·refine⟨h1,fun x hx=>?_,?_⟩
   ·rcases gL.1 hx with hx | hx
    ·exact h2 x hx
    ·simp at hx;omega
   ·rcases h3 with h3 | ⟨x,hx,gF⟩
    ·exact .inl h3
    ·exact .inr ⟨x,by simp [hx],gF⟩
def dp(xss:ah)(i:Nat):ai:=(bc (gl xss 0).length (xss.eraseIdx i) (gl xss 0).length).1
def fK(xss:ah)(i:Nat):Int:=(bc (gl xss 0).length (xss.eraseIdx i) (gl xss 0).length).2
theorem Sys.erase{N:Nat}{xss:ah}(h:Sys N xss)(i:Nat):Sys N (xss.eraseIdx i):=fun p hp=>h p (List.mem_of_mem_eraseIdx hp)
theorem nX.erase{N:Nat}{xss:ah}(h:nX N xss)(i:Nat):nX N (xss.eraseIdx i):=fun p hp=>h p (List.mem_of_mem_eraseIdx hp)
theorem zt(xss:ah)(i:Nat):(dp xss i).length=(gl xss 0).length:=lP _ _ _
theorem sc(xss:ah)(i:Nat):0<=fK xss i/\fK xss i<=(gl xss 0).length:=rG _ _ _
theorem CY{xss:ah}(h:eA xss)(i:Nat)(f:Nat)(hf:f< (gl xss 0).length):0<=gi (dp xss i) f/\gi (dp xss i) f<fK xss i:=SC (h.2.2.1.sys.erase i) (h.2.2.1.inj.erase i) f (by omega) (by omega)
theorem Ha{xss:ah}(h:eA xss)(i:Nat)(v:Int)(h0:0<=v)(h1:v<fK xss i):∃f:Nat,f< (gl xss 0).length/\gi (dp xss i) f=v:=by
 obtain⟨x,sM,pv,hx⟩:=(yp (h.2.2.1.sys.erase i) (h.2.2.1.inj.erase i) _ (dh _)).2 v h0 h1;exact⟨x.toNat,by omega,by rw [Int.toNat_of_nonneg sM];exact hx⟩
theorem E2{N:Nat}{xss:ah}(hs:Sys N xss):∀i,i<=N->(∀x:Int,0<=x->x<N->gi (bc N xss i).1 x= -1\/(0<=gi (bc N xss i).1 x/\gi (bc N xss i).1 x< (bc N xss i).2))/\(0< (bc N xss i).2->∃x:Int,0<=x/\x<N/\gi (bc N xss i).1 x=(bc N xss i).2 - 1)
 | 0,_=> ⟨fun x h0 h1=> .inl (by rw [show(bc N xss 0).1=List.replicate N (-1) from rfl,se h0 h1]),fun h=>by simp [bc]at h⟩
 | i+1,hi=>by
  obtain⟨h1,h2⟩:=E2 hs i (by omega)
  by_cases hp:0<=gi (bc N xss i).1 i
  ·rw [um hp];exact⟨h1,h2⟩
  ·rw [sR hp];obtain⟨hg,lN,vB⟩:=qB hs (pt:=(i:Int)) (by omega) (by omega);have hc:=(rG N xss i).1;have vu:∀x:Int,0<=x->gi (lu (bc N xss i).1 (bc N xss i).2 (eV N xss i)) x=if x∈eV N xss i then(bc N xss i).2 else gi (bc N xss i).1 x:=fun x hx=>qV _ _ _ (lP N xss i) hg.range x hx
   have xC:(i:Int)∈eV N xss i:=lN.subset (by simp);refine⟨fun x h0 hx=>?_,fun _=> ⟨i,by omega,by omega,by rw [vu i (by omega),aF xC];show _=(bc N xss i).2+1 - 1;omega⟩⟩;rw [vu x h0];dsimp only
   split
   ·exact .inr ⟨hc,by omega⟩
   ·rcases h1 x h0 hx with h | h
    ·exact .inl h
    ·exact .inr ⟨h.1,by omega⟩
theorem E1{N:Nat}{xss:ah}(hs:Sys N xss)(x:Int)(h0:0<=x)(h1:x<N):0<=gi (bc N xss N).1 x/\gi (bc N xss N).1 x< (bc N xss N).2:=by
 have:=(sQ hs N (dh _) x h0 h1).2 ⟨x.toNat,by omega,by rw [Int.toNat_of_nonneg h0];exact .refl⟩;rcases(E2 hs N (dh _)).1 x h0 h1 with h | h
 ·omega
 exact h
theorem Ou{N:Nat}{xss:ah}(hs:Sys N xss)(hN:0<N):lI (bc N xss N).1=(bc N xss N).2:=by
 have hl:=lP N xss N;obtain⟨h1,h2,h3⟩:=Db _ (bc N xss N).1 rfl;have de:∀x∈(bc N xss N).1,0<=x/\x< (bc N xss N).2:=fun x hx=>by
  obtain⟨k,hk,rfl⟩:=eZ.1 hx;rw [<-bF hk];exact E1 hs k (by omega) (by omega)
 have h0:=E1 hs 0 (by omega) (by omega);obtain⟨x,sM,pv,hx⟩:=(E2 hs N (dh _)).2 (by omega);have hm:gi (bc N xss N).1 x∈(bc N xss N).1:=by
  have e:gi (bc N xss N).1 x=(bc N xss N).1[x.toNat]'(by omega):=by simp [gi,cz,eS (show x.toNat< (bc N xss N).1.length by omega)]
  rw [e];exact dU _
 have h4:=h2 _ hm;rcases h3 with h3 | ⟨y,hy,sN⟩
 ·omega
 have:=de y hy;omega
def n3(M:ah):Prop:=(1<=M.length/\M.length<=5)/\(1<=(gl M 0).length/\(gl M 0).length<=400)/\Sys (gl M 0).length M
theorem wF{xss:ah}(h:n3 xss)(i:Nat)(f:Nat)(hf:f< (gl xss 0).length):0<=gi (dp xss i) f/\gi (dp xss i) f<fK xss i:=E1 (h.2.2.erase i) f (by omega) (by omega)
theorem NQ{xss:ah}(h:n3 xss)(i:Nat):lI (dp xss i)=fK xss i:=Ou (h.2.2.erase i) (by have:=h.2.1;omega)
theorem bq.erase{w:aa}{A:aj}{n:Nat}{rs:List aL}{xss:ah}(h:bq w A n rs xss){i:Nat}(hi:i<n){A':aj}(hT:im w A' (n - 1) (rs.eraseIdx i)):bq w A' (n - 1) (rs.eraseIdx i) (xss.eraseIdx i):=by
 have hl:=h.len;have bM:=h.top.1;have er:∀j,j<n - 1->(rs.eraseIdx i).getD j cL=rs.getD (if j<i then j else j+1) cL:=fun j hj=>by
  simp only [cz,List.getElem?_eraseIdx];split<;>rfl
 have ex:∀j,j<n - 1->(xss.eraseIdx i).getD j []=xss.getD (if j<i then j else j+1) []:=fun j hj=>by
  simp only [cz,List.getElem?_eraseIdx];split<;>rfl
 refine⟨hT,by rw [List.length_eraseIdx,aF (by omega),hl],fun j hj=>?_,fun j hj=>?_⟩
 ·rw [er j hj,ex j hj];exact h.row _ (by split<;>omega)
 rw [er j hj];exact h.cap _ (by split<;>omega)
theorem R9(A:aj)(n c:Nat)(xs:ai)(v:Int)(w:aa)(hR:bu w A n xs)(hn:n<=9223372036854775807):
 aJ prog 188 [.slice A n c,ak v] w (fun r w'=> (∃i:Int,r=ak i/\(0<=i↔v∈xs))/\w'=w):=by
 have eu:=hR.1;refine br func188 O ntmps188 O (cw O) (bX O ?_);refine Cd.loop (α:=Nat) (fun k=> [(0,.slice A n c),(1,ak v),(5,ak k)]) (fun k w'=>w'=w/\k<=n/\∀j,j<k->gi xs (j:Nat)≠v) (fun k=>n - k) 0 (WM O) ⟨O,bn _,fun j hj=>by omega⟩ ?_;rintro k e w ⟨rfl,hk,hK⟩;refine a8 O (ba O O (aE O ?_));refine aN _ O (fun h3=>?_) (fun h3=>?_)
 ·refine aG O (aB hR.2 O (aW hR O (aE O ?_)));refine aN _ O (fun h4=>?_) (fun h4=>?_)
  ·refine du O (dN (dE ?_));refine kN O ?_;exact⟨⟨(k:Int),O,⟨fun _=>by rw [<-h4,bF (by omega)];exact dU _,fun _=>by omega⟩⟩,O⟩
  refine aG O (aK O (aR O (tQ ?_)));refine⟨k+1,by show n - (k+1)<n - k;omega,(WM O),O,by omega,fun j hj=>?_⟩
  by_cases ej:j=k
  ·subst ej;exact h4
  exact hK j (by omega)
 refine bk O (bm (fA O ?_));refine kN O ⟨⟨-1,O,⟨fun h=>absurd h (by decide),fun h=>?_⟩⟩,O⟩;obtain⟨j,hj,Ef⟩:=eZ.1 h;exact absurd (by rw [bF hj];exact Ef) (hK j (by omega))
theorem uk(A:aj)(n c:Nat)(xs:ai)(v:Int)(w:aa)(hR:bu w A n xs)(hn:n<=9223372036854775807):
 aJ prog 117 [.slice A n c,ak v] w (fun r w'=>r= .bool (decide (v∈xs))/\w'=w):=by
 refine br func117 O ntmps117 O (cw O) (a8 O (aI (R9 A n c xs v _ hR hn) O ?_));rintro _ w ⟨⟨i,rfl,hi⟩,rfl⟩;refine bI O (cH O ?_);exact⟨aH Value.bool (kg.2 hi),O⟩
theorem Sj(A:aj)(n c:Nat)(rs:List aL)(xss:ah)(Ai:aj)(ci:Nat)(i:Nat)(w:aa)(hR:bq w A n rs xss)(hn:n<=1000)(hi:i<n)(hI:bu w Ai 1 [(i:Int)]):
 aJ prog 227 [.agg #[.slice A n c],.slice Ai 1 ci] w (fun v w'=>∃A' c',v= .slice A' (n - 1) c'/\St w w' [bE 24 A' (n - 1) c' (rs.eraseIdx i)]):=by
 have bM:=hR.top.1;have step:∀k (hk:k<n),(rs.take (k+1)).eraseIdx i=if k=i then(rs.take k).eraseIdx i else(rs.take k).eraseIdx i++ [rg rs k]:=fun k hk=>by
  have e:rg rs k=rs[k]'(by omega):=by simp [rg,cz,eS (show k<rs.length by omega)]
  rw [oZ (by omega),e]
  by_cases h1:k=i
  ·subst h1;have h2:(rs.take k).length=k:=by rw [mY];omega
   rw [aF rfl,List.eraseIdx_append_of_length_le (by omega),h2,Nat.sub_self,List.eraseIdx_of_length_le (l:=rs.take k) (k:=k) (by omega)];simp
  rw [aC h1]
  by_cases h2:i<k
  ·rw [List.eraseIdx_append_of_lt_length (by simp;omega)]
  rw [List.eraseIdx_of_length_le (l:=rs.take k++_) (by rw [eY,mY,List.length_singleton];omega),List.eraseIdx_of_length_le (l:=rs.take k) (by rw [mY];omega)]
 have hlen:∀k,k<=n->((rs.take k).eraseIdx i).length=if i<k then k - 1 else k:=fun k hk=>by
  rw [List.length_eraseIdx,mY,Nat.min_eq_left (by omega)]
 refine br func227 O ntmps227 O (cw O) (a8 O (ng (St.refl w) O O ?_));intro Ab w1 ay;refine ar O (iB ay O ?_);intro A5 w2 aM;have aM:St w w2 [bE 24 A5 0 0 [],Bx 37 1 Ab [.slice A n c]]:=aM;refine aE O (Cd.loop (α:=Nat×aj×Nat) (fun z=> [(1,.slice Ai 1 ci),(2,.pointer Ab),(5,.slice z.2.1 ((rs.take z.1).eraseIdx i).length z.2.2),(6,ak (z.1:Int))]) (fun z w'=>St w w' [bE 24 z.2.1 ((rs.take z.1).eraseIdx i).length z.2.2 ((rs.take z.1).eraseIdx i),Bx 37 1 Ab [.slice A n c]]/\z.1<=n) (fun z=>n - z.1) (0,A5,0) (WM O) ⟨aM,bn _⟩ ?_);rintro⟨k,A6,c6⟩ e w3 ⟨aU,hk⟩;dsimp only at aU hk|-;have jP:=aU.bO hR;have kI:=hlen k hk;refine a8 O (aS (aU.rd 1 O) O (aZ (aU.rd 1 O) O ?_));refine ba O O (aE O ?_);refine aN _ O (fun h1=>?_) (fun h1=>?_)
 ·have ax:=step k (by omega);refine aG O (aI (uk Ai 1 ci _ k _ (aU.da hI) (by omega)) O ?_);rintro _ w3 ⟨rfl,rfl⟩
  first | refine dk rfl rfl ?_ | refine eF rfl rfl ?_
  refine aE O (aN _ O (fun h2=>?_) (fun h2=>?_))
  ·rw [aC (fun h=>h2 (by rw [h];simp))]at ax;refine aG O (aS (aU.rd 1 O) O (aZ (aU.rd 1 O) O (ar O (WB jP.top.2 O O O (by omega) h1 (ck jP.top O (l6 aU O O O ?_))))));intro A7 w4 bd;refine l5 1 bd O (bd.fz 0 O) O O O (by rw [kI];split<;>omega) (by rw [kI];split<;>omega) O ?_;intro A8 c8 w5 bh;refine ar O (aK O (aR O (tQ ?_)));have e1:((rs.take (k+1)).eraseIdx i).length=((rs.take k).eraseIdx i).length+1:=by rw [ax];simp
   refine⟨(k+1,A8,c8),by show n - (k+1)<n - k;omega,⟨O,O,by show Value.slice _ _ _= .slice _ _ _;rw [e1],O,av⟩,?_,by show k+1<=n;omega⟩;show St w w5 [bE _ A8 ((rs.take (k+1)).eraseIdx i).length c8 ((rs.take (k+1)).eraseIdx i),_];rw [e1,ax];exact bh.tail
  have h3:=kR.1 h2;simp only [eP]at h3;rw [aF (by omega)]at ax;refine aG O (aK O (aR O (tQ ?_)));refine⟨(k+1,A6,c6),by show n - (k+1)<n - k;omega,⟨O,O,by show Value.slice _ _ _= .slice _ _ _;rw [ax],O,av⟩,?_,by show k+1<=n;omega⟩;show St w w3 [bE _ A6 ((rs.take (k+1)).eraseIdx i).length c6 ((rs.take (k+1)).eraseIdx i),_];rw [ax];exact aU
 refine bk O (bm (fA O ?_));refine eW O ?_;have pd:k=n:=by omega
 subst pd;rw [lD (by omega)]at aU;have e1:(rs.eraseIdx i).length=k - 1:=by rw [List.length_eraseIdx,aF (by omega),bM]
 rw [lD (by omega),e1];rw [e1]at aU;exact⟨A6,c6,O,aU.sub (List.Sublist.cons_cons _ (List.nil_sublist _))⟩
theorem Kv(c:Int)(x:Int):∀(a L:ai),lu L c (a++ [x])=(lu L c a).set x.toNat c
 | [],_=>rfl
 | y::a,L=>Kv c x a (L.set y.toNat c)
theorem Sb(A:aj)(n c:Nat)(rs:List aL)(xss:ah)(N:Nat)(w:aa)(hR:bq w A n rs xss)(hn:n<=1000)(hs:Sys N xss)(hN:N<=1000):
 aJ prog 226 [ak N,.slice A n c] w (fun v w'=>∃A' c',v= .slice A' N c'/\St w w' [aw 2 A' N c' (bc N xss N).1]):=by
 refine br func226 O ntmps226 O (cw O) (a8 O (iB (St.refl w) O ?_));intro A5 w1 ay;have ay:St w w1 [aw 2 A5 0 0 (List.replicate 0 (-1))]:=ay;refine aE O (Cd.loop (α:=Nat×aj×Nat) (fun z=> [(0,ak N),(1,.slice A n c),(5,.slice z.2.1 z.1 z.2.2),(6,ak (z.1:Int))]) (fun z w'=>St w w' [aw 2 z.2.1 z.1 z.2.2 (List.replicate z.1 (-1))]/\z.1<=N) (fun z=>N - z.1) (0,A5,0) (WM O) ⟨ay,bn _⟩ ?_);rintro⟨k,A6,c6⟩ e w2 ⟨aM,hk⟩;dsimp only at aM hk|-;refine bX O (aN _ O (fun h1=>?_) (fun h1=>?_))
 ·refine aG O (eE aM O O O ?_);intro A7 w3 aU;refine fj 1 aU O (aU.bo 0 O) O O O fun A8 c8 w4 bd=>ar O (aK O (aR O (tQ ?_)));refine⟨(k+1,A8,c8),by show N - (k+1)<N - k;omega,(WM O),?_,by show k+1<=N;omega⟩;show St w w4 [aw _ A8 (k+1) c8 (List.replicate (k+1) (-1))];rw [List.replicate_succ'];exact bd.tail
 refine bk O (bm (mw O ?_));have oA:k=N:=by omega
 subst oA;refine Cd.loop (α:=Nat) (fun i=> [(0,ak k),(1,.slice A n c),(5,.slice A6 k c6),(7,ak (bc k xss i).2),(8,ak i)]) (fun i w'=>St w w' [aw 2 A6 k c6 (bc k xss i).1]/\i<=k) (fun i=>k - i) 0 (WM O) ⟨aM,bn _⟩ ?_;rintro i e w3 ⟨aU,hi⟩;have H0:=aU.bo 0 O;have ki:=rG k xss i;refine bX O (aN _ O (fun h2=>?_) (fun h2=>?_))
 ·refine aG O (aB H0.2 O (aW H0 O (aE O ?_)));refine aN _ O (fun h3=>?_) (fun h3=>?_)
  ·refine aG O (aK O (aR O (tQ ?_)));refine⟨i+1,by show k - (i+1)<k - i;omega,⟨O,O,O,by show Value.int .i64 _=ak _;rw [um h3],O,av⟩,by rw [um h3];exact aU,by omega⟩
  obtain⟨hg,_,_⟩:=qB hs (pt:=(i:Int)) (by omega) (by omega);refine aG O (aI (J0 A n c rs xss k i _ (aU.bO hR) (by omega) hs (by omega) (by omega) (by omega)) O ?_);rintro _ w4 ⟨A9,c9,rfl,ax⟩;have bd:=aU.call ax;have Je:(eV k xss i).length<=k:=hg.len;refine aE O (Cd.loop (α:=Nat) (fun m=> [(0,ak k),(1,.slice A n c),(5,.slice A6 k c6),(7,ak (bc k xss i).2),(8,ak i),(9,.slice A9 (eV k xss i).length c9),(10,ak m)]) (fun m w'=>St w w' [aw 2 A9 (eV k xss i).length c9 (eV k xss i),aw 2 A6 k c6 (lu (bc k xss i).1 (bc k xss i).2 ((eV k xss i).take m))]/\m<=(eV k xss i).length) (fun m=> (eV k xss i).length - m) 0 (WM O) ⟨bd,bn _⟩ ?_);rintro m e w5 ⟨bh,hm⟩;have tE:=bh.bo 0 O;refine a8 O (ba O O (aE O ?_));refine aN _ O (fun h4=>?_) (fun h4=>?_)
  ·have jf:m< (eV k xss i).length:=by omega
   have Jg:=hg.range _ (gi_in jf);refine aG O (aB tE.2 O (aW tE O (ar O (aB (bh.bo 1 O).2 O (il 1 bh O O O (by omega) ?_)))));intro w6 bD;refine ar O (aK O (aR O (tQ ?_)));refine⟨m+1,by show _ - (m+1)<_ - m;omega,(WM O),?_,jf⟩;rw [rR jf,Kv];exact bD
  refine bk O (bm (ct O (aK O (ar O (aK O (aR O (tQ ?_)))))));have Aw:m=(eV k xss i).length:=by omega
  subst Aw;rw [List.take_length]at bh;refine⟨i+1,by show k - (i+1)<k - i;omega,⟨O,O,O,by show Value.int .i64 _=ak _;rw [sR h3],O,av⟩,by rw [sR h3];exact bh.tail,by omega⟩
 refine bk O (bm (fA O ?_));refine eW O ?_;have qm:i=k:=by omega
 subst qm;exact⟨A6,c6,O,aU⟩
theorem Sh(A:aj)(n c:Nat)(xs:ai)(w:aa)(hR:bu w A n xs)(hn:n<=1000000)(hx:∀x∈xs,x<=1000000):
 aJ prog 175 [.slice A n c] w (fun v w'=>v=ak (lI xs)/\w'=w):=by
 have eu:=hR.1;refine br func175 O ntmps175 O (cw O) (bX O ?_);refine Cd.loop (α:=Nat) (fun k=> [(0,.slice A n c),(3,ak (lI (xs.take k))),(4,ak k)]) (fun k w'=>w'=w/\k<=n) (fun k=>n - k) 0 (WM O) ⟨O,bn _⟩ ?_;rintro k e w ⟨rfl,hk⟩;refine a8 O (ba O O (aE O ?_));refine aN _ O (fun h1=>?_) (fun h1=>?_)
 ·have hg:gi xs k<=1000000:=hx _ (by rw [bF (by omega)];exact dU _);have ax:lI (xs.take (k+1))=if lI (xs.take k)<=gi xs k then gi xs k+1 else lI (xs.take k):=by rw [rR (by omega),Hy]
  have D9:=(Db _ (xs.take k) O).1;refine aG O (aB hR.2 O (aW hR O (aE O ?_)));refine aN _ O (fun h2=>?_) (fun h2=>?_)
  ·rw [aF h2]at ax;refine aG O (aB hR.2 O (aW hR O ?_));refine aK O (ar O (aK O (aR O (tQ ?_))));exact⟨k+1,by show n - (k+1)<n - k;omega,⟨O,by show Value.int .i64 _=ak _;rw [ax],O,av⟩,O,by omega⟩
  rw [aC h2]at ax;refine aG O (aK O (aR O (tQ ?_)));exact⟨k+1,by show n - (k+1)<n - k;omega,⟨O,by show Value.int .i64 _=ak _;rw [ax],O,av⟩,O,by omega⟩
 refine bk O (bm (fA O ?_));refine kN O ?_;have pd:k=n:=by omega
 subst pd;exact⟨by rw [<-eu,List.take_length],O⟩
theorem Sg(A:aj)(n c:Nat)(rs:List aL)(xss:ah)(i:Nat)(w:aa)(hR:bq w A n rs xss)(hM:n3 xss)(hi:i<n):
 aJ prog 174 [.agg #[.slice A n c],ak i] w (fun v w'=>∃A' c',v= .slice A' (gl xss 0).length c'/\St w w' [aw 2 A' (gl xss 0).length c' (dp xss i)]):=by
 have hl:=hR.len;have h1:=hM.1;have h2:=hM.2.1;have hs:=hM.2.2;refine br func174 O ntmps174 O (cw O) (a8 O (ng (St.refl w) O O ?_));intro Ab w1 ay;refine aE O ?_;refine dL [.ex (.agg #[.slice (A) (n) (c)]),xI (((gl xss 0).length:Int)),.ex (.agg #[.slice (A) (n) (c)]),xI ((i:Int)),.pr (fun v w'=>∃A1,v= .slice A1 1 1/\bu w' A1 1 [(i:Int)]),.pr (fun v w'=>∃A1 c1,v= .slice A1 (n - 1) c1/\bq w' A1 (n - 1) (rs.eraseIdx i) (xss.eraseIdx i)),.pr (fun v w'=>∃A1 c1,v= .slice A1 (gl xss 0).length c1/\St w w' [aw 2 A1 (gl xss 0).length c1 (dp xss i)]),.pr (fun v w'=>∃A1 c1,v= .slice A1 (gl xss 0).length c1/\St w w' [aw 2 A1 (gl xss 0).length c1 (dp xss i)])] rfl (lx (lx (lx (lx (cM.2 ⟨Yd.cN (fun v w w' h hb=>by obtain⟨A1,hv,hT⟩:=h;exact⟨A1,hv,hT.aq hb⟩),(cM.2 ⟨Yd.cN (fun v w w' h hb=>by obtain⟨A1,c1,hv,hT⟩:=h;exact⟨A1,c1,hv,hT.aq hb⟩),(cM.2 ⟨Yd.cN (fun v w w' h hb=>by obtain⟨A1,c1,hv,hT⟩:=h;exact⟨A1,c1,hv,hT.aq hb⟩),(cM.2 ⟨Yd.cN (fun v w w' h hb=>by obtain⟨A1,c1,hv,hT⟩:=h;exact⟨A1,c1,hv,hT.aq hb⟩),(fun _ h=>by cases h)⟩)⟩)⟩)⟩))))) ?_ ?_
 ·refine⟨fun _ _ hb _ _=>bK 0 ((ay.rd 0 O).below hb) O O O Az,?_,fun _ _ hb _ _=>bK 0 ((ay.rd 0 O).below hb) O O O Az,Dr O,?_,?_,?_,?_,av⟩
  ·intro e1 w1 hb hp aX;refine aI (vL A n c rs xss _ ((ay.aq hb).bO hR) (by omega)) O ?_;rintro _ w2 ⟨rfl,ax⟩;refine ao.n ?_;exact gK.dn ax.below (by exact O)
  ·intro e1 w1 hb hp aX;exact eE (St.refl _) O O O fun A1 w9 ax=>ao.n (gK.dn ax.below ⟨A1,O,ax.bo 0 O⟩)
  ·intro e1 w1 hb hp aX;obtain⟨A0,h9,DL⟩:=(hp 4 (by decide) rfl _ _ rfl rfl);refine WD (Sj A n c rs xss A0 1 i _ ((ay.aq hb).bO hR) (by omega) hi DL) O (by exact aH (fun v=> [Value.agg #[.slice A n c],v]) h9) O ?_;rintro _ w9 ⟨A1,c1,rfl,ax⟩;exact ao.n (gK.dn ax.below ⟨A1,c1,O,(((ay.aq hb).bO hR).aq ax.below).erase hi (ax.fz 0 O)⟩)
  ·intro e1 w1 hb hp aX;obtain⟨A0,c0,iq,DL⟩:=(hp 5 (by decide) rfl _ _ rfl rfl);refine WD (Sb A0 (n - 1) c0 _ _ (gl xss 0).length _ DL (by omega) (hs.erase i) (by omega)) O (by exact aH (fun v=> [Value.int .i64 ((gl xss 0).length:Int),v]) iq) O ?_;rintro _ w9 ⟨A1,c1,rfl,ax⟩;exact ao.n (gK.dn ax.below ⟨A1,c1,O,(ay.aq hb).none.call ax⟩)
  intro e1 w1 hb hp aX;obtain⟨A1,c1,o7,hT⟩:=(hp 6 (by decide) rfl _ _ rfl rfl);refine kA O (by exact o7) O (ao.n ?_);exact gK.dn (Below.refl _ _) ⟨A1,c1,O,hT⟩
 intro u w9 tM hu;obtain⟨A9,c9,h4,hT⟩:=hu 7 _ rfl;refine B7 O (eW (by exact h4) ?_);exact⟨A9,c9,O,hT⟩
end
end Go.Proofs.YtagdamiiececaaaGreatDoor.Vc
