/-
 Lemmas. Conditions: as each states them.
-/
import Derived.Test.YtkccgdhcpplblaaGreatDoorLay
import Derived.Shelf.SortM.Plain
import Derived.Test.YtkccgdhcpplblaaGreatDoorZc
set_option maxHeartbeats 8000000
namespace Go.Proofs.YtkccgdhcpplblaaGreatDoor.Vc
open Tryz
section
open Go.RowKit Go.Sort
variable{w w0:aa}{off:Nat}
theorem acq{g n:Nat}{os:Array Obj}{cur:Array ad}{e:ae}{fr:Nat×Nat}(d:Array Int)(hb:w.heap[g]?=some (.cells cur e fr)):(Go.Sort.grow (putRow (Value.int .i64) (Sort.ahead w n) g off d) os).heap[g]?=some (.cells (putCells (Value.int .i64) off d cur) e fr):=by
 have hg:g<w.heap.size:=(Array.getElem?_eq_some_iff.1 hb).1;rw [heap_grow_old _ _ (by simpa using hg)];simp [putRow,mapBlock,Sort.ahead,Array.getElem?_modify,hb,onCells]
theorem aaG{g n:Nat}{os:Array Obj}(d:Array Int):BQ w (Go.Sort.grow (putRow (Value.int .i64) (Sort.ahead w n) g off d) os) (some g):=by
 refine⟨⟨O,O,O,by simp,fun k hk bU=>?_⟩,Nat.le_add_right _ _⟩;rw [heap_grow_old _ _ (by simpa using hk)];have:g≠k:=fun e=>bU (by rw [e])
 simp [putRow,mapBlock,Sort.ahead,Array.getElem?_modify,this]
theorem ajd{ks:List Ck}(i:Nat){t:ae}{A:aj}{n c:Nat}{xs:ai}(hS:St w0 w ks)(hk:ks[i]?=some (ax t A n c xs))(h0:0<n)(hn:n<=1000000000):
 aK prog 159 [.slice A n c] w (fun v w'=>v= .tuple #[]/\St w0 w' (ks.set i (ax t A n c (nO xs)))):=by
 obtain⟨h1,h2,h3,h4⟩:=hS.pU hk (uA _);have hl:xs.length=n:=hS.zl i hk;have h2:n<=c:=h2;rcases h4 with⟨_,lJ⟩ | ⟨g,o,cur,hA,hg,hh,hs,hc⟩
 ·have lJ:c=0:=lJ;omega
 have hA:A=some ⟨g,o,none⟩:=hA;have hs:o+c<=cur.size:=hs;have hc:∀j,j<n->cur[o+j]?=(xs.map (Value.int .i64))[j]?:=hc;subst hA;subst hl;have hH:Holds (Value.int .i64) w g o xs.toArray:=fun j hj=>by
  have gX:j<xs.length:=by simpa using hj
  refine⟨?_,by simp [World.frozen?,hh]⟩;simp only [World.cell?,hh];simp only [Option.isSome_none,Bool.false_eq_true,if_false];rw [hc j gX];simp [gX]
 have fW:g<w.heap.size:=(Array.getElem?_eq_some_iff.1 hh).1;have key:=AnyM.slices_Sort_int Uq g o c xs w hH fW (by omega);refine Calls.mono key fun x w' ⟨hx,m,os,hw⟩=> ⟨_,hx,O,?_⟩
 subst hw;have Be:(nO xs).length=xs.length:=(Of xs).length_eq;refine hS.turn hk O O (aaG _) (.qo (uA _) ⟨by simp [Be],h2,h3,.inr ⟨g,o,_,O,hg,acq _ hh,by simp only [putCells,Array.size_mapIdx];exact hs,fun j hj=>?_⟩⟩);have hj:j<xs.length:=hj;show(putCells (Value.int .i64) o (nO xs).toArray cur)[o+j]?=((nO xs).map (Value.int .i64))[j]?;have E4:o+j<cur.size:=by have:xs.length<=c:=h2;omega
 simp [putCells,E4,Be,hj]
end
section
open Go.RowKit
variable{k i j:Nat}
def mc(n:Nat):ai:=(List.range n).map fun x:Nat=> (x:Int)
theorem aeo{n:Nat}{l:ai}(hk:k<n)(hl:l.length=n)(h:∀j,j<k->l[j]?=some (j:Int)):∀j,j<k+1->(l.set k (k:Int))[j]?=some (j:Int):=fun j hj=>by
 rw [mI]
 by_cases e:k=j
 ·subst e;rw [aB rfl,aB (by omega)]
 rw [az e];exact h j (by omega)
theorem TO(n:Nat)(w:aa)(hn:n<=1000000000):aK prog 146 [ak n] w (fun v w'=>∃A',v= .slice A' n n/\St w w' [ax 2 A' n n (mc n)]):=by
 refine bA func146 O ntmps146 O (df O) (bg O (wP n (St.refl w) O O (by omega) ?_));intro A1 w1 aI;refine ar O (bc O O (aC O ?_));refine Cd.loop (α:=Nat×ai) (fun z=> [(3,.slice A1 n n),(8,ak n),(9,ak (z.1:Int))]) (fun z w'=>St w w' [ax 2 A1 n n z.2]/\z.1<=n/\z.2.length=n/\∀j,j<z.1->z.2[j]?=some (j:Int)) (fun z=>n - z.1) (0,List.replicate n 0) (amz O) ⟨aI,aZ _,by simp,fun j hj=>by omega⟩ ?_;rintro⟨k,l⟩ e w2 ⟨aE,hk,hl,hK⟩;dsimp only at aE hk hl hK|-;refine bJ O (aM _ O (fun h1=>?_) (fun h1=>?_))
 ·refine aA O (aD (aE.bz 0 O).2 O (lC 0 aE O O O (by omega) ?_));intro w3 aR;refine ar O (aH O (aT O (tQ ?_)));exact⟨(k+1,l.set k (k:Int)),by show n - (k+1)<n - k;omega,(amz O),aR,by show k+1<=n;omega,by show(l.set k _).length=n;rw [lT];exact hl,aeo (by omega) hl hK⟩
 refine bn O (bo (gq O ?_));refine ia O ?_;have iM:k=n:=by omega
 subst iM;have he:l=mc k:=by
  apply List.ext_getElem?;intro j
  by_cases hj:j<k
  ·rw [hK j hj];simp [mc,hj]
  rw [mh (by omega),mh (by simp [mc];omega)]
 subst he;exact⟨A1,O,aE⟩
def pJ(p q:ai):ai:=p.map fun x=>gi q x
theorem We(A:aj)(n c:Nat)(p:ai)(A':aj)(n' c':Nat)(q:ai)(w:aa)(hP:cg w A n p)(hQ:cg w A' n' q)(hn:n<=1000000000)(hp:∀k:Nat,k<n->0<=gi p k/\gi p k<n'):
 aK prog 148 [.slice A n c,.slice A' n' c'] w (fun v w'=>∃A',v= .slice A' n n/\St w w' [ax 2 A' n n (pJ p q)]):=by
 have vn:=hP.1;refine bA func148 O ntmps148 O (df O) ?_;refine bg O (bc O O ?_);refine wP n (St.refl w) O O (by omega) fun A1 w1 aI=>ar O (bc O O (aC O ?_));refine Cd.loop (α:=Nat×ai) (fun z=> [(0,.slice A n c),(1,.slice A' n' c'),(5,.slice A1 n n),(11,.slice A n c),(12,ak n),(13,ak (z.1:Int))]) (fun z w'=>St w w' [ax 2 A1 n n z.2]/\z.1<=n/\z.2.length=n/\∀j,j<z.1->z.2[j]?=(pJ p q)[j]?) (fun z=>n - z.1) (0,List.replicate n 0) (amz O) ⟨aI,aZ _,by simp,fun j hj=>by omega⟩ ?_;rintro⟨k,l⟩ e w2 ⟨aE,hk,hl,hK⟩;dsimp only at aE hk hl hK|-;have RK:=aE.gh hP;have RM:=aE.gh hQ;refine bJ O (aM _ O (fun h1=>?_) (fun h1=>?_))
 ·have hpk:=hp k (by omega);refine aA O (aD RK.2 O (a8 RK O (ar O (aD RM.2 O (a8 RM O (aD (aE.bz 0 O).2 O (lC 0 aE O O O (by omega) ?_)))))));intro w3 aR;refine ar O (aH O (aT O (tQ ?_)));refine⟨(k+1,l.set k (gi q (gi p k))),by show n - (k+1)<n - k;omega,(amz O),aR,by show k+1<=n;omega,by show(l.set k _).length=n;rw [lT];exact hl,fun j hj=>?_⟩;show(l.set k (gi q (gi p k)))[j]?=_;rw [mI]
  by_cases ej:k=j
  ·subst ej;rw [aB rfl,aB (by omega)];simp [pJ,gi,da,fZ (show k<p.length by omega)]
  rw [az ej];exact hK j (by have:j<k+1:=hj;omega)
 refine bn O (bo (gq O ?_));refine ia O ?_;have iM:k=n:=by omega
 subst iM;have he:l=pJ p q:=by
  apply List.ext_getElem?;intro j
  by_cases hj:j<k
  ·exact hK j hj
  rw [mh (by omega),mh (by simp [pJ];omega)]
 subst he;exact⟨A1,O,aE⟩
theorem Jk{α:Type}{l:List α}{x:α}(h:l[i]?=some x):l.set i x=l:=by
 apply List.ext_getElem?;intro j;rw [mI]
 split
 ·rename_i e;subst e;rw [aB (gm.1 h).1,h]
 rfl
theorem Rd.one{w:aa}{A:aj}{n:Nat}{f:Nat->ad}(h:Rd w A (n+1) f):Rd w A 1 (fun _=>f 0):=fun j hj=>by
 obtain rfl:j=0:=by omega
 exact h 0 (by omega)
def marks(k:Int)(n:Nat):ai:=(List.range n).map fun j:Nat=>k+ (j:Int)
theorem Uv(k:Int)(n:Nat):(marks k n).length=n:=by simp [marks]
theorem agl{k:Int}{n:Nat}(h:j<n):gi (marks k n) j=k+j:=by simp [gi,marks,da,h]
theorem agi{w0 w:aa}{ks:List Ck}(i:Nat){t:ae}{A:aj}{n c:Nat}{xs:ai}(k:Int)(hS:St w0 w ks)(hk:ks[i]?=some (ax t A n c xs))(mR:0<=k/\k+n<=4611686018427387904):
 aK prog 113 [.slice A n c,ak k] w (fun v w'=>v=ak (k+n)/\St w0 w' (ks.set i (ax t A n c (marks k n)))):=by
 have qf:i<ks.length:=(gm.1 hk).1;have jH:xs.length=n:=hS.zl i hk;have get:∀l,(ks.set i (ax t A n c l))[i]?=some (ax t A n c l):=fun l=>by simp [qf]
 have Lq:St w0 w (ks.set i (ax t A n c xs)):=by rwa [Jk hk]
 refine bA func113 O ntmps113 O (df O) (bJ O ?_);refine Cd.loop (α:=Nat×ai) (fun z=> [(0,.slice A n c),(1,ak (k+ (z.1:Int))),(5,ak (z.1:Int))]) (fun z w'=>St w0 w' (ks.set i (ax t A n c z.2))/\z.1<=n/\z.2.length=n/\∀j,j<z.1->z.2[j]?=some (k+ (j:Int))) (fun z=>n - z.1) (0,xs) ⟨O,by show Value.int .i64 _=ak _;simp,O,au⟩ ⟨Lq,aZ _,jH,fun j hj=>by omega⟩ ?_;rintro⟨m,l⟩ e w1 ⟨aI,hm,AH,hK⟩;dsimp only at aI hm AH hK|-;refine bg O (bc O O (aC O ?_));refine aM _ O (fun h1=>?_) (fun h1=>?_)
 ·refine aA O (aD (aI.bz i (get l)).2 O (lC i aI (get l) O O (by omega) ?_));intro w2 aE;rw [List.set_set]at aE;refine ar O (aH O (ar O (aH O (aT O (tQ ?_)))));refine⟨(m+1,l.set m (k+m)),by show n - (m+1)<n - m;omega,⟨O,by show Value.int .i64 _=ak _;congr 1;show _=k+ ((m+1:Nat):Int);omega,O,au⟩,aE,by show m+1<=n;omega,by show(l.set m _).length=n;rw [lT];exact AH,fun j hj=>?_⟩;show(l.set m (k+m))[j]?=_;rw [mI]
  by_cases ej:m=j
  ·subst ej;rw [aB rfl,aB (by omega)]
  rw [az ej];exact hK j (by have:j<m+1:=hj;omega)
 refine bn O (bo (gq O ?_));refine gZ O ?_;have wc:m=n:=by omega
 subst wc;have he:l=marks k m:=by
  apply List.ext_getElem?;intro j
  by_cases hj:j<m
  ·rw [hK j hj];simp [marks,hj]
  rw [mh (by omega),mh (by rw [Uv];omega)]
 subst he;exact⟨O,aI⟩
theorem acr(A:aj)(n c:Nat)(k:Int)(w:aa)(hR:cg w A n (marks k n))(mR:0<=k/\k+n<=4611686018427387904):
 aK prog 114 [.slice A n c,ak k] w (fun v w'=>v=ak (k+n)/\w'=w):=by
 refine bA func114 O ntmps114 O (df O) (bJ O ?_);refine Cd.loop (α:=Nat) (fun z=> [(0,.slice A n c),(1,ak (k+ (z:Int))),(5,ak z)]) (fun z w'=>w'=w/\z<=n) (fun z=>n - z) 0 ⟨O,by show Value.int .i64 _=ak _;simp,O,au⟩ ⟨O,aZ _⟩ ?_;rintro m e w ⟨rfl,hm⟩;refine bg O (bc O O (aC O ?_));refine aM _ O (fun h1=>?_) (fun h1=>?_)
 ·have hg:=agl (k:=k) (n:=n) (j:=m) (by omega);refine aA O (aD hR.2 O (a8 hR O ?_));rw [hg];refine aC O (nP O (fun h=>h O) (aA O (aH O (ar O (aH O (aT O (tQ ?_)))))));exact⟨m+1,by show n - (m+1)<n - m;omega,⟨O,by show Value.int .i64 _=ak _;congr 1;show _=k+ ((m+1:Nat):Int);omega,O,au⟩,O,by show m+1<=n;omega⟩
 refine bn O (bo (gq O ?_));refine gZ O ?_;have wc:m=n:=by omega
 subst wc;exact⟨O,O⟩
section
variable {P:Program} {N:Nat} {ops:Array Oper} {K:Env->aa->Prop} {rest:List Oper} {e:Env} {w:aa} {d:Nat} {ty:ae} {pos:String} {af:Array Edge}
theorem Xf{F:FuncId}{x:ag}{v1:ad}(hx:ev e x=v1)(hb:Nat.blt d N=true)(hK:ao P N ops K rest (br e d (.func (.func F) #[] #[v1])) w):
 ao P N ops K (⟨some d,.makeFunc (.func F) #[] #[x],ty,pos,af,none⟩::rest) e w:=
 .val (by simp [execOp,Instr.makeFunc,hx]) hb hK
end
theorem aaq(l:ai)(i:Nat):gi (l.drop i) 0=gi l i:=by simp [gi,da,List.getElem?_drop]
theorem XC{w0 w:aa}{ks:List Ck}{i:Nat}{t:ae}{A:aj}{n c l:Nat}{xs:ai}(hS:St w0 w ks)(hk:ks[i]?=some (ax t A n c xs))(hl:l<=n):St w0 w (ks.set i (ax t (cutAt A c l) (n - l) (c - l) (xs.drop l))):=by
 have jH:=hS.zl i hk;obtain⟨h1,h2,h3,h4⟩:=hS.pU hk (uA _);have h2:n<=c:=h2;have h3:c<=maxLen:=h3;rcases h4 with⟨hA,lJ⟩ | ⟨g,o,cur,hA,hg,hh,hs,hc⟩
 ·have hA:A=Option.none:=hA;have lJ:c=0:=lJ;subst hA lJ;obtain rfl:n=0:=by omega
  obtain rfl:l=0:=by omega
  obtain rfl:=qA jH;have e:cutAt Option.none 0 0=Option.none:=O;rw [e];show St w0 w (ks.set i (ax t Option.none 0 0 []));rw [Jk hk];exact hS
 have hA:A=some ⟨g,o,Option.none⟩:=hA;have hs:o+c<=cur.size:=hs;have hh:w.heap[g]?=some (.cells cur t (0,0)):=hh;have hc:∀j,j<n->cur[o+j]?=(xs.map (Value.int .i64))[j]?:=hc;subst hA;have uf:∃o',cutAt (some ⟨g,o,Option.none⟩) c l=some ⟨g,o',Option.none⟩/\o'+ (c - l)<=cur.size/\(0<n - l->o'=o+l):=by
  unfold cutAt
  split
  ·exact⟨o,O,by omega,fun h=>by omega⟩
  exact⟨o+l,by simp [ay,zQ],by omega,fun _=>O⟩
 obtain⟨o',e1,e2,e3⟩:=uf;refine hS.turn hk O (by simp [Ck.gS,e1]) ⟨⟨O,O,O,bs _,fun _ _ _=>O⟩,bs _⟩ (.qo (uA _) ⟨by simp [jH],by show n - l<=c - l;omega,by show c - l<=maxLen;omega,.inr ⟨g,o',cur,e1,hg,hh,e2,fun j hj=>?_⟩⟩);have hj:j<n - l:=hj;show cur[o'+j]?=((xs.drop l).map (Value.int .i64))[j]?;rw [e3 (Nat.zero_lt_of_lt hj),Nat.add_assoc,hc (l+j) (Nat.add_lt_of_lt_sub' hj)];simp [List.getElem?_drop]
theorem Fy{N:Nat}{xss:ah}(hs:Sys N xss)(di:tR N xss):∀i,i<=N->(∀x:Int,0<=x->x<N->gi (bw N xss i).1 x= -1\/(0<=gi (bw N xss i).1 x/\gi (bw N xss i).1 x< (bw N xss i).2))/\∀v:Int,0<=v->v< (bw N xss i).2->∃x:Int,0<=x/\x<N/\gi (bw N xss i).1 x=v
 | 0,_=> ⟨fun x h0 h1=> .inl (by rw [show(bw N xss 0).1=List.replicate N (-1) from rfl,yy h0 h1]),fun v h0 h1=>by simp [bw]at h1;omega⟩
 | i+1,hi=>by
  obtain⟨h1,h2⟩:=Fy hs di i (by omega)
  by_cases hp:0<=gi (bw N xss i).1 i
  ·rw [Bo hp];exact⟨h1,h2⟩
  ·rw [zh hp];obtain⟨hg,qU,Ta⟩:=wD hs (pt:=(i:Int)) (by omega) (by omega);have hc:=(xQ N xss i).1;have C6:∀x:Int,0<=x->gi (pF (bw N xss i).1 (bw N xss i).2 (eE N xss i)) x=if x∈eE N xss i then(bw N xss i).2 else gi (bw N xss i).1 x:=fun x hx=>xd _ _ _ (qm N xss i) hg.range x hx
   have E0:(i:Int)∈eE N xss i:=qU.subset (by simp);refine⟨fun x h0 hx=>?_,fun v h0 hv=>?_⟩
   ·rw [C6 x h0];dsimp only
    split
    ·exact .inr ⟨hc,by omega⟩
    ·rcases h1 x h0 hx with h | h
     ·exact .inl h
     ·exact .inr ⟨h.1,by omega⟩
   ·dsimp only at hv|-
    by_cases e:v=(bw N xss i).2
    ·exact⟨i,by omega,by omega,by rw [C6 i (by omega),aB E0,e]⟩
    ·obtain⟨x,uy,ka,hx⟩:=h2 v h0 (by omega);refine⟨x,uy,ka,?_⟩;rw [C6 x uy,az (fun hm=>?_),hx];obtain⟨j,hj,vi⟩:=(zg hs i (by omega) x uy ka).1 (by rw [hx];exact h0);have C8:=(Ta x).1 hm;exact hp ((zg hs i (by omega) (i:Int) (by omega) (by omega)).2 ⟨j,hj,vi.trans (Reach.symm hs di (by omega) (by omega) C8)⟩)
theorem afA{N:Nat}{xss:ah}(hs:Sys N xss)(di:tR N xss)(x:Int)(h0:0<=x)(h1:x<N):0<=gi (bw N xss N).1 x/\gi (bw N xss N).1 x< (bw N xss N).2:=by
 have:=(zg hs N (bs _) x h0 h1).2 ⟨x.toNat,by omega,by rw [Int.toNat_of_nonneg h0];exact .refl⟩;rcases(Fy hs di N (bs _)).1 x h0 h1 with h | h
 ·omega
 exact h
def pX(xs:ai):Int:=xs.foldl (fun o x=>if o<=x then x+1 else o) 0
theorem Rk(xs:ai)(x:Int):pX (xs++ [x])=if pX xs<=x then x+1 else pX xs:=by
 unfold pX;rw [List.foldl_append]
 rfl
theorem KU:∀(m:Nat) (xs:ai),xs.length=m->0<=pX xs/\(∀x∈xs,x<pX xs)/\(pX xs=0\/∃x∈xs,pX xs=x+1)
 | 0,xs,h=>by
  obtain rfl:=qA h;exact⟨by simp [pX],(fun x hx=>by cases hx),.inl rfl⟩
 | m+1,xs,h=>by
  obtain⟨ys,y,rfl⟩:∃ys y,xs=ys++ [y]:=⟨xs.dropLast,xs.getLast (by intro e;rw [e]at h;simp at h),(List.dropLast_concat_getLast _).symm⟩;obtain⟨h1,h2,h3⟩:=KU m ys (by simpa using h);rw [Rk]
  split
  ·refine⟨by omega,fun x hx=>?_,.inr ⟨y,by simp,O⟩⟩;rcases kj.1 hx with hx | hx
   ·have:=h2 x hx;omega
   ·simp at hx;omega
  ·refine⟨h1,fun x hx=>?_,?_⟩
   ·rcases kj.1 hx with hx | hx
    ·exact h2 x hx
    ·simp at hx;omega
   ·rcases h3 with h3 | ⟨x,hx,mo⟩
    ·exact .inl h3
    ·exact .inr ⟨x,by simp [hx],mo⟩
def eG(xss:ah)(i:Nat):ai:=(bw (gl xss 0).length (xss.eraseIdx i) (gl xss 0).length).1
def iS(xss:ah)(i:Nat):Int:=(bw (gl xss 0).length (xss.eraseIdx i) (gl xss 0).length).2
theorem Sys.erase{N:Nat}{xss:ah}(h:Sys N xss)(i:Nat):Sys N (xss.eraseIdx i):=fun p hp=>h p (List.mem_of_mem_eraseIdx hp)
theorem tR.erase{N:Nat}{xss:ah}(h:tR N xss)(i:Nat):tR N (xss.eraseIdx i):=fun p hp=>h p (List.mem_of_mem_eraseIdx hp)
theorem G4(xss:ah)(i:Nat):(eG xss i).length=(gl xss 0).length:=qm _ _ _
theorem CD(xss:ah)(i:Nat):0<=iS xss i/\iS xss i<=(gl xss 0).length:=xQ _ _ _
theorem Kx{xss:ah}(h:cN xss)(i:Nat)(f:Nat)(hf:f< (gl xss 0).length):0<=gi (eG xss i) f/\gi (eG xss i) f<iS xss i:=afA (h.2.2.1.sys.erase i) (h.2.2.1.inj.erase i) f (by omega) (by omega)
theorem Kw{xss:ah}(h:cN xss)(i:Nat)(v:Int)(h0:0<=v)(h1:v<iS xss i):∃f:Nat,f< (gl xss 0).length/\gi (eG xss i) f=v:=by
 obtain⟨x,uy,ka,hx⟩:=(Fy (h.2.2.1.sys.erase i) (h.2.2.1.inj.erase i) _ (bs _)).2 v h0 h1;exact⟨x.toNat,by omega,by rw [Int.toNat_of_nonneg uy];exact hx⟩
theorem Na{N:Nat}{xss:ah}(hs:Sys N xss):∀i,i<=N->(∀x:Int,0<=x->x<N->gi (bw N xss i).1 x= -1\/(0<=gi (bw N xss i).1 x/\gi (bw N xss i).1 x< (bw N xss i).2))/\(0< (bw N xss i).2->∃x:Int,0<=x/\x<N/\gi (bw N xss i).1 x=(bw N xss i).2 - 1)
 | 0,_=> ⟨fun x h0 h1=> .inl (by rw [show(bw N xss 0).1=List.replicate N (-1) from rfl,yy h0 h1]),fun h=>by simp [bw]at h⟩
 | i+1,hi=>by
  obtain⟨h1,h2⟩:=Na hs i (by omega)
  by_cases hp:0<=gi (bw N xss i).1 i
  ·rw [Bo hp];exact⟨h1,h2⟩
  ·rw [zh hp];obtain⟨hg,qU,Ta⟩:=wD hs (pt:=(i:Int)) (by omega) (by omega);have hc:=(xQ N xss i).1;have C6:∀x:Int,0<=x->gi (pF (bw N xss i).1 (bw N xss i).2 (eE N xss i)) x=if x∈eE N xss i then(bw N xss i).2 else gi (bw N xss i).1 x:=fun x hx=>xd _ _ _ (qm N xss i) hg.range x hx
   have E0:(i:Int)∈eE N xss i:=qU.subset (by simp);refine⟨fun x h0 hx=>?_,fun _=> ⟨i,by omega,by omega,by rw [C6 i (by omega),aB E0];show _=(bw N xss i).2+1 - 1;omega⟩⟩;rw [C6 x h0];dsimp only
   split
   ·exact .inr ⟨hc,by omega⟩
   ·rcases h1 x h0 hx with h | h
    ·exact .inl h
    ·exact .inr ⟨h.1,by omega⟩
theorem M9{N:Nat}{xss:ah}(hs:Sys N xss)(x:Int)(h0:0<=x)(h1:x<N):0<=gi (bw N xss N).1 x/\gi (bw N xss N).1 x< (bw N xss N).2:=by
 have:=(zg hs N (bs _) x h0 h1).2 ⟨x.toNat,by omega,by rw [Int.toNat_of_nonneg h0];exact .refl⟩;rcases(Na hs N (bs _)).1 x h0 h1 with h | h
 ·omega
 exact h
theorem aaH{N:Nat}{xss:ah}(hs:Sys N xss)(hN:0<N):pX (bw N xss N).1=(bw N xss N).2:=by
 have hl:=qm N xss N;obtain⟨h1,h2,h3⟩:=KU _ (bw N xss N).1 rfl;have du:∀x∈(bw N xss N).1,0<=x/\x< (bw N xss N).2:=fun x hx=>by
  obtain⟨k,hk,rfl⟩:=gF.1 hx;rw [<-b9 hk];exact M9 hs k (by omega) (by omega)
 have h0:=M9 hs 0 (by omega) (by omega);obtain⟨x,uy,ka,hx⟩:=(Na hs N (bs _)).2 (by omega);have hm:gi (bw N xss N).1 x∈(bw N xss N).1:=by
  have e:gi (bw N xss N).1 x=(bw N xss N).1[x.toNat]'(by omega):=by simp [gi,da,fZ (show x.toNat< (bw N xss N).1.length by omega)]
  rw [e];exact dQ _
 have h4:=h2 _ hm;rcases h3 with h3 | ⟨y,hy,ma⟩
 ·omega
 have:=du y hy;omega
def vR(M:ah):Prop:=(1<=M.length/\M.length<=5)/\(1<=(gl M 0).length/\(gl M 0).length<=400)/\Sys (gl M 0).length M
theorem cN.ajs{M:ah}(h:cN M):vR M:=⟨h.1,⟨by have:=h.2.1;omega,h.2.1.2⟩,h.2.2.1.sys⟩
theorem G6{xss:ah}(h:vR xss)(i:Nat)(f:Nat)(hf:f< (gl xss 0).length):0<=gi (eG xss i) f/\gi (eG xss i) f<iS xss i:=M9 (h.2.2.erase i) f (by omega) (by omega)
theorem ZN{xss:ah}(h:vR xss)(i:Nat):pX (eG xss i)=iS xss i:=aaH (h.2.2.erase i) (by have:=h.2.1;omega)
theorem bF.erase{w:aa}{A:aj}{n:Nat}{rs:List aO}{xss:ah}(h:bF w A n rs xss){i:Nat}(hi:i<n){A':aj}(hT:ml w A' (n - 1) (rs.eraseIdx i)):bF w A' (n - 1) (rs.eraseIdx i) (xss.eraseIdx i):=by
 have hl:=h.len;have cI:=h.top.1;have er:∀j,j<n - 1->(rs.eraseIdx i).getD j dO=rs.getD (if j<i then j else j+1) dO:=fun j hj=>by
  simp only [da,List.getElem?_eraseIdx];split<;>rfl
 have ex:∀j,j<n - 1->(xss.eraseIdx i).getD j []=xss.getD (if j<i then j else j+1) []:=fun j hj=>by
  simp only [da,List.getElem?_eraseIdx];split<;>rfl
 refine⟨hT,by rw [List.length_eraseIdx,aB (by omega),hl],fun j hj=>?_,fun j hj=>?_⟩
 ·rw [er j hj,ex j hj];exact h.row _ (by split<;>omega)
 rw [er j hj];exact h.cap _ (by split<;>omega)
theorem afc(A:aj)(n c:Nat)(xs:ai)(v:Int)(w:aa)(hR:cg w A n xs)(hn:n<=9223372036854775807):
 aK prog 230 [.slice A n c,ak v] w (fun r w'=> (∃i:Int,r=ak i/\(0<=i↔v∈xs))/\w'=w):=by
 have jH:=hR.1;refine bA func230 O ntmps230 O (df O) (bJ O ?_);refine Cd.loop (α:=Nat) (fun k=> [(0,.slice A n c),(1,ak v),(5,ak k)]) (fun k w'=>w'=w/\k<=n/\∀j,j<k->gi xs (j:Nat)≠v) (fun k=>n - k) 0 (amz O) ⟨O,aZ _,fun j hj=>by omega⟩ ?_;rintro k e w ⟨rfl,hk,hK⟩;refine bg O (bc O O (aC O ?_));refine aM _ O (fun h3=>?_) (fun h3=>?_)
 ·refine aA O (aD hR.2 O (a8 hR O (aC O ?_)));refine aM _ O (fun h4=>?_) (fun h4=>?_)
  ·refine dX O (fz (eW ?_));refine gZ O ?_;exact⟨⟨(k:Int),O,⟨fun _=>by rw [<-h4,b9 (by omega)];exact dQ _,fun _=>by omega⟩⟩,O⟩
  refine aA O (aH O (aT O (tQ ?_)));refine⟨k+1,by show n - (k+1)<n - k;omega,(amz O),O,by omega,fun j hj=>?_⟩
  by_cases ej:j=k
  ·subst ej;exact h4
  exact hK j (by omega)
 refine bn O (bo (gq O ?_));refine gZ O ⟨⟨-1,O,⟨fun h=>absurd h (by decide),fun h=>?_⟩⟩,O⟩;obtain⟨j,hj,L1⟩:=gF.1 h;exact absurd (by rw [b9 hj];exact L1) (hK j (by omega))
theorem IJ(A:aj)(n c:Nat)(xs:ai)(v:Int)(w:aa)(hR:cg w A n xs)(hn:n<=9223372036854775807):
 aK prog 172 [.slice A n c,ak v] w (fun r w'=>r= .bool (decide (v∈xs))/\w'=w):=by
 refine bA func172 O ntmps172 O (df O) (bg O (aQ (afc A n c xs v _ hR hn) O ?_));rintro _ w ⟨⟨i,rfl,hi⟩,rfl⟩;refine bI O (dz O ?_);exact⟨aF Value.bool (kk.2 hi),O⟩
theorem afi(A:aj)(n c:Nat)(rs:List aO)(xss:ah)(Ai:aj)(ci:Nat)(i:Nat)(w:aa)(hR:bF w A n rs xss)(hn:n<=1000)(hi:i<n)(hI:cg w Ai 1 [(i:Int)]):
 aK prog 235 [.agg #[.slice A n c],.slice Ai 1 ci] w (fun v w'=>∃A' c',v= .slice A' (n - 1) c'/\St w w' [bZ 34 A' (n - 1) c' (rs.eraseIdx i)]):=by
 have cI:=hR.top.1;have step:∀k (hk:k<n),(rs.take (k+1)).eraseIdx i=if k=i then(rs.take k).eraseIdx i else(rs.take k).eraseIdx i++ [rg rs k]:=fun k hk=>by
  have e:rg rs k=rs[k]'(by omega):=by simp [rg,da,fZ (show k<rs.length by omega)]
  rw [lV (by omega),e]
  by_cases h1:k=i
  ·subst h1;have h2:(rs.take k).length=k:=by rw [na];omega
   rw [aB rfl,List.eraseIdx_append_of_length_le (by omega),h2,Nat.sub_self,List.eraseIdx_of_length_le (l:=rs.take k) (k:=k) (by omega)];simp
  rw [az h1]
  by_cases h2:i<k
  ·rw [List.eraseIdx_append_of_lt_length (by simp;omega)]
  rw [List.eraseIdx_of_length_le (l:=rs.take k++_) (by rw [b8,na,List.length_singleton];omega),List.eraseIdx_of_length_le (l:=rs.take k) (by rw [na];omega)]
 have hlen:∀k,k<=n->((rs.take k).eraseIdx i).length=if i<k then k - 1 else k:=fun k hk=>by
  rw [List.length_eraseIdx,na,Nat.min_eq_left (by omega)]
 refine bA func235 O ntmps235 O (df O) (bg O (lB (St.refl w) O O ?_));intro Ab w1 aI;refine ar O (jn aI O ?_);intro A5 w2 aE;have aE:St w w2 [bZ 34 A5 0 0 [],Bx 24 1 Ab [.slice A n c]]:=aE;refine aC O (Cd.loop (α:=Nat×aj×Nat) (fun z=> [(1,.slice Ai 1 ci),(2,.pointer Ab),(5,.slice z.2.1 ((rs.take z.1).eraseIdx i).length z.2.2),(6,ak (z.1:Int))]) (fun z w'=>St w w' [bZ 34 z.2.1 ((rs.take z.1).eraseIdx i).length z.2.2 ((rs.take z.1).eraseIdx i),Bx 24 1 Ab [.slice A n c]]/\z.1<=n) (fun z=>n - z.1) (0,A5,0) (amz O) ⟨aE,aZ _⟩ ?_);rintro⟨k,A6,c6⟩ e w3 ⟨aR,hk⟩;dsimp only at aR hk|-;have iL:=aR.cT hR;have lL:=hlen k hk;refine bg O (aU (aR.rd 1 O) O (bh (aR.rd 1 O) O ?_));refine bc O O (aC O ?_);refine aM _ O (fun h1=>?_) (fun h1=>?_)
 ·have aw:=step k (by omega);refine aA O (aQ (IJ Ai 1 ci _ k _ (aR.gh hI) (by omega)) O ?_);rintro _ w3 ⟨rfl,rfl⟩
  first | refine fv rfl rfl ?_ | refine gA rfl rfl ?_
  refine aC O (aM _ O (fun h2=>?_) (fun h2=>?_))
  ·rw [az (fun h=>h2 (by rw [h];simp))]at aw;refine aA O (aU (aR.rd 1 O) O (bh (aR.rd 1 O) O (ar O (amn iL.top.2 O O O (by omega) h1 (bW iL.top O (kV aR O O O ?_))))));intro A7 w4 aX;refine lA 1 aX O (aX.fG 0 O) O O O (by rw [lL];split<;>omega) (by rw [lL];split<;>omega) O ?_;intro A8 c8 w5 aY;refine ar O (aH O (aT O (tQ ?_)));have e1:((rs.take (k+1)).eraseIdx i).length=((rs.take k).eraseIdx i).length+1:=by rw [aw];simp
   refine⟨(k+1,A8,c8),by show n - (k+1)<n - k;omega,⟨O,O,by show Value.slice _ _ _= .slice _ _ _;rw [e1],O,au⟩,?_,by show k+1<=n;omega⟩;show St w w5 [bZ _ A8 ((rs.take (k+1)).eraseIdx i).length c8 ((rs.take (k+1)).eraseIdx i),_];rw [e1,aw];exact aY.tail
  have h3:=jb.1 h2;simp only [gG]at h3;rw [aB (by omega)]at aw;refine aA O (aH O (aT O (tQ ?_)));refine⟨(k+1,A6,c6),by show n - (k+1)<n - k;omega,⟨O,O,by show Value.slice _ _ _= .slice _ _ _;rw [aw],O,au⟩,?_,by show k+1<=n;omega⟩;show St w w3 [bZ _ A6 ((rs.take (k+1)).eraseIdx i).length c6 ((rs.take (k+1)).eraseIdx i),_];rw [aw];exact aR
 refine bn O (bo (gq O ?_));refine ia O ?_;have iM:k=n:=by omega
 subst iM;rw [gR (by omega)]at aR;have e1:(rs.eraseIdx i).length=k - 1:=by rw [List.length_eraseIdx,aB (by omega),cI]
 rw [gR (by omega),e1];rw [e1]at aR;exact⟨A6,c6,O,aR.sub (List.Sublist.cons_cons _ (List.nil_sublist _))⟩
theorem U3(c:Int)(x:Int):∀(a L:ai),pF L c (a++ [x])=(pF L c a).set x.toNat c
 | [],_=>rfl
 | y::a,L=>U3 c x a (L.set y.toNat c)
theorem afd(A:aj)(n c:Nat)(rs:List aO)(xss:ah)(N:Nat)(w:aa)(hR:bF w A n rs xss)(hn:n<=1000)(hs:Sys N xss)(hN:N<=1000):
 aK prog 234 [ak N,.slice A n c] w (fun v w'=>∃A' c',v= .slice A' N c'/\St w w' [ax 2 A' N c' (bw N xss N).1]):=by
 refine bA func234 O ntmps234 O (df O) (bg O (jn (St.refl w) O ?_));intro A5 w1 aI;have aI:St w w1 [ax 2 A5 0 0 (List.replicate 0 (-1))]:=aI;refine aC O (Cd.loop (α:=Nat×aj×Nat) (fun z=> [(0,ak N),(1,.slice A n c),(5,.slice z.2.1 z.1 z.2.2),(6,ak (z.1:Int))]) (fun z w'=>St w w' [ax 2 z.2.1 z.1 z.2.2 (List.replicate z.1 (-1))]/\z.1<=N) (fun z=>N - z.1) (0,A5,0) (amz O) ⟨aI,aZ _⟩ ?_);rintro⟨k,A6,c6⟩ e w2 ⟨aE,hk⟩;dsimp only at aE hk|-;refine bJ O (aM _ O (fun h1=>?_) (fun h1=>?_))
 ·refine aA O (eS aE O O O ?_);intro A7 w3 aR;refine fk 1 aR O (aR.bz 0 O) O O O fun A8 c8 w4 aX=>ar O (aH O (aT O (tQ ?_)));refine⟨(k+1,A8,c8),by show N - (k+1)<N - k;omega,(amz O),?_,by show k+1<=N;omega⟩;show St w w4 [ax _ A8 (k+1) c8 (List.replicate (k+1) (-1))];rw [List.replicate_succ'];exact aX.tail
 refine bn O (bo (rI O ?_));have xw:k=N:=by omega
 subst xw;refine Cd.loop (α:=Nat) (fun i=> [(0,ak k),(1,.slice A n c),(5,.slice A6 k c6),(7,ak (bw k xss i).2),(8,ak i)]) (fun i w'=>St w w' [ax 2 A6 k c6 (bw k xss i).1]/\i<=k) (fun i=>k - i) 0 (amz O) ⟨aE,aZ _⟩ ?_;rintro i e w3 ⟨aR,hi⟩;have RC:=aR.bz 0 O;have oh:=xQ k xss i;refine bJ O (aM _ O (fun h2=>?_) (fun h2=>?_))
 ·refine aA O (aD RC.2 O (a8 RC O (aC O ?_)));refine aM _ O (fun h3=>?_) (fun h3=>?_)
  ·refine aA O (aH O (aT O (tQ ?_)));refine⟨i+1,by show k - (i+1)<k - i;omega,⟨O,O,O,by show Value.int .i64 _=ak _;rw [Bo h3],O,au⟩,by rw [Bo h3];exact aR,by omega⟩
  obtain⟨hg,_,_⟩:=wD hs (pt:=(i:Int)) (by omega) (by omega);refine aA O (aQ (M3 A n c rs xss k i _ (aR.cT hR) (by omega) hs (by omega) (by omega) (by omega)) O ?_);rintro _ w4 ⟨A9,c9,rfl,aw⟩;have aX:=aR.call aw;have De:(eE k xss i).length<=k:=hg.len;refine aC O (Cd.loop (α:=Nat) (fun m=> [(0,ak k),(1,.slice A n c),(5,.slice A6 k c6),(7,ak (bw k xss i).2),(8,ak i),(9,.slice A9 (eE k xss i).length c9),(10,ak m)]) (fun m w'=>St w w' [ax 2 A9 (eE k xss i).length c9 (eE k xss i),ax 2 A6 k c6 (pF (bw k xss i).1 (bw k xss i).2 ((eE k xss i).take m))]/\m<=(eE k xss i).length) (fun m=> (eE k xss i).length - m) 0 (amz O) ⟨aX,aZ _⟩ ?_);rintro m e w5 ⟨aY,hm⟩;have RI:=aY.bz 0 O;refine bg O (bc O O (aC O ?_));refine aM _ O (fun h4=>?_) (fun h4=>?_)
  ·have iU:m< (eE k xss i).length:=by omega
   have S9:=hg.range _ (gi_in iU);refine aA O (aD RI.2 O (a8 RI O (ar O (aD (aY.bz 1 O).2 O (lC 1 aY O O O (by omega) ?_)))));intro w6 bk;refine ar O (aH O (aT O (tQ ?_)));refine⟨m+1,by show _ - (m+1)<_ - m;omega,(amz O),?_,iU⟩;rw [tK iU,U3];exact bk
  refine bn O (bo (cL O (aH O (ar O (aH O (aT O (tQ ?_)))))));have hme:m=(eE k xss i).length:=by omega
  subst hme;rw [List.take_length]at aY;refine⟨i+1,by show k - (i+1)<k - i;omega,⟨O,O,O,by show Value.int .i64 _=ak _;rw [zh h3],O,au⟩,by rw [zh h3];exact aY.tail,by omega⟩
 refine bn O (bo (gq O ?_));refine ia O ?_;have mQ:i=k:=by omega
 subst mQ;exact⟨A6,c6,O,aR⟩
theorem afh(A:aj)(n c:Nat)(xs:ai)(w:aa)(hR:cg w A n xs)(hn:n<=1000000)(hx:∀x∈xs,x<=1000000):
 aK prog 178 [.slice A n c] w (fun v w'=>v=ak (pX xs)/\w'=w):=by
 have jH:=hR.1;refine bA func178 O ntmps178 O (df O) (bJ O ?_);refine Cd.loop (α:=Nat) (fun k=> [(0,.slice A n c),(3,ak (pX (xs.take k))),(4,ak k)]) (fun k w'=>w'=w/\k<=n) (fun k=>n - k) 0 (amz O) ⟨O,aZ _⟩ ?_;rintro k e w ⟨rfl,hk⟩;refine bg O (bc O O (aC O ?_));refine aM _ O (fun h1=>?_) (fun h1=>?_)
 ·have hg:gi xs k<=1000000:=hx _ (by rw [b9 (by omega)];exact dQ _);have aw:pX (xs.take (k+1))=if pX (xs.take k)<=gi xs k then gi xs k+1 else pX (xs.take k):=by rw [tK (by omega),Rk]
  have SB:=(KU _ (xs.take k) O).1;refine aA O (aD hR.2 O (a8 hR O (aC O ?_)));refine aM _ O (fun h2=>?_) (fun h2=>?_)
  ·rw [aB h2]at aw;refine aA O (aD hR.2 O (a8 hR O ?_));refine aH O (ar O (aH O (aT O (tQ ?_))));exact⟨k+1,by show n - (k+1)<n - k;omega,⟨O,by show Value.int .i64 _=ak _;rw [aw],O,au⟩,O,by omega⟩
  rw [az h2]at aw;refine aA O (aH O (aT O (tQ ?_)));exact⟨k+1,by show n - (k+1)<n - k;omega,⟨O,by show Value.int .i64 _=ak _;rw [aw],O,au⟩,O,by omega⟩
 refine bn O (bo (gq O ?_));refine gZ O ?_;have iM:k=n:=by omega
 subst iM;exact⟨by rw [<-jH,List.take_length],O⟩
theorem afg(A:aj)(n c:Nat)(rs:List aO)(xss:ah)(i:Nat)(w:aa)(hR:bF w A n rs xss)(hM:vR xss)(hi:i<n):
 aK prog 177 [.agg #[.slice A n c],ak i] w (fun v w'=>∃A' c',v= .slice A' (gl xss 0).length c'/\St w w' [ax 2 A' (gl xss 0).length c' (eG xss i)]):=by
 have hl:=hR.len;have h1:=hM.1;have h2:=hM.2.1;have hs:=hM.2.2;refine bA func177 O ntmps177 O (df O) (bg O (lB (St.refl w) O O ?_));intro Ab w1 aI;refine aC O ?_;refine eo [.ex (.agg #[.slice (A) (n) (c)]),xI (((gl xss 0).length:Int)),.ex (.agg #[.slice (A) (n) (c)]),xI ((i:Int)),.pr (fun v w'=>∃A1,v= .slice A1 1 1/\cg w' A1 1 [(i:Int)]),.pr (fun v w'=>∃A1 c1,v= .slice A1 (n - 1) c1/\bF w' A1 (n - 1) (rs.eraseIdx i) (xss.eraseIdx i)),.pr (fun v w'=>∃A1 c1,v= .slice A1 (gl xss 0).length c1/\St w w' [ax 2 A1 (gl xss 0).length c1 (eG xss i)]),.pr (fun v w'=>∃A1 c1,v= .slice A1 (gl xss 0).length c1/\St w w' [ax 2 A1 (gl xss 0).length c1 (eG xss i)])] rfl (lx (lx (lx (lx (de.2 ⟨Yd.dp (fun v w w' h hb=>by obtain⟨A1,hv,hT⟩:=h;exact⟨A1,hv,hT.aq hb⟩),(de.2 ⟨Yd.dp (fun v w w' h hb=>by obtain⟨A1,c1,hv,hT⟩:=h;exact⟨A1,c1,hv,hT.aq hb⟩),(de.2 ⟨Yd.dp (fun v w w' h hb=>by obtain⟨A1,c1,hv,hT⟩:=h;exact⟨A1,c1,hv,hT.aq hb⟩),(de.2 ⟨Yd.dp (fun v w w' h hb=>by obtain⟨A1,c1,hv,hT⟩:=h;exact⟨A1,c1,hv,hT.aq hb⟩),(fun _ h=>by cases h)⟩)⟩)⟩)⟩))))) ?_ ?_
 ·refine⟨fun _ _ hb _ _=>ao.dq 0 ((aI.rd 0 O).below hb) O O O Az,?_,fun _ _ hb _ _=>ao.dq 0 ((aI.rd 0 O).below hb) O O O Az,Dr O,?_,?_,?_,?_,au⟩
  ·intro e1 w1 hb hp aW;refine aQ (IL A n c rs xss _ ((aI.aq hb).cT hR) (by omega)) O ?_;rintro _ w2 ⟨rfl,aw⟩;refine ao.n ?_;exact fM.dn aw.below (by exact O)
  ·intro e1 w1 hb hp aW;exact eS (St.refl _) O O O fun A1 w9 aw=>ao.n (fM.dn aw.below ⟨A1,O,aw.bz 0 O⟩)
  ·intro e1 w1 hb hp aW;obtain⟨A0,h9,Lr⟩:=(hp 4 (by decide) rfl _ _ rfl rfl);refine amq (afi A n c rs xss A0 1 i _ ((aI.aq hb).cT hR) (by omega) hi Lr) O (by exact aF (fun v=> [Value.agg #[.slice A n c],v]) h9) O ?_;rintro _ w9 ⟨A1,c1,rfl,aw⟩;exact ao.n (fM.dn aw.below ⟨A1,c1,O,(((aI.aq hb).cT hR).aq aw.below).erase hi (aw.fG 0 O)⟩)
  ·intro e1 w1 hb hp aW;obtain⟨A0,c0,eV,Lr⟩:=(hp 5 (by decide) rfl _ _ rfl rfl);refine amq (afd A0 (n - 1) c0 _ _ (gl xss 0).length _ Lr (by omega) (hs.erase i) (by omega)) O (by exact aF (fun v=> [Value.int .i64 ((gl xss 0).length:Int),v]) eV) O ?_;rintro _ w9 ⟨A1,c1,rfl,aw⟩;exact ao.n (fM.dn aw.below ⟨A1,c1,O,(aI.aq hb).none.call aw⟩)
  intro e1 w1 hb hp aW;obtain⟨A1,c1,jO,hT⟩:=(hp 6 (by decide) rfl _ _ rfl rfl);refine lW O (by exact jO) O (ao.n ?_);exact fM.dn (Below.refl _ _) ⟨A1,c1,O,hT⟩
 intro u w9 pk hu;obtain⟨A9,c9,h4,hT⟩:=hu 7 _ rfl;refine BO O (ia (by exact h4) ?_);exact⟨A9,c9,O,hT⟩
end
end Go.Proofs.YtkccgdhcpplblaaGreatDoor.Vc
