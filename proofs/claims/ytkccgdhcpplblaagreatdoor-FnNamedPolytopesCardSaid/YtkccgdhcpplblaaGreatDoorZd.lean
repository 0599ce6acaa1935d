/-
 Lemmas. Conditions: as each states them.
-/
import Derived.Test.YtkccgdhcpplblaaGreatDoorLay
import Derived.Shelf.SortM.Plain
import Derived.Test.YtkccgdhcpplblaaGreatDoorZc
set_option maxHeartbeats 8000000
namespace Go.Proofs.YtkccgdhcpplblaaGreatDoor.Vc
open Tryz
section
open Go.RowKit Go.Sort
variable{w w0:aa}{off:Nat}
theorem afr{g n:Nat}{os:Array Obj}{cur:Array ad}{e:ae}{fr:Nat×Nat}(d:Array Int)(hb:w.heap[g]?=some (.cells cur e fr)):(Go.Sort.grow (putRow (Value.int .i64) (Sort.ahead w n) g off d) os).heap[g]?=some (.cells (putCells (Value.int .i64) off d cur) e fr):=by
 have hg:g<w.heap.size:=(Array.getElem?_eq_some_iff.1 hb).1;rw [heap_grow_old _ _ (by simpa using hg)];simp [putRow,mapBlock,Sort.ahead,Array.getElem?_modify,hb,onCells]
theorem adG{g n:Nat}{os:Array Obj}(d:Array Int):Db w (Go.Sort.grow (putRow (Value.int .i64) (Sort.ahead w n) g off d) os) (some g):=by
 refine⟨⟨O,O,O,by simp,fun k hk bP=>?_⟩,Nat.le_add_right _ _⟩;rw [heap_grow_old _ _ (by simpa using hk)];have:g≠k:=fun e=>bP (by rw [e])
 simp [putRow,mapBlock,Sort.ahead,Array.getElem?_modify,this]
theorem amR{ks:List Ck}(i:Nat){t:ae}{A:aj}{n c:Nat}{xs:ai}(hS:St w0 w ks)(hk:ks[i]?=some (ax t A n c xs))(h0:0<n)(hn:n<=1000000000):
 aJ prog 159 [.slice A n c] w (fun v w'=>v= .tuple #[]/\St w0 w' (ks.set i (ax t A n c (ox xs)))):=by
 obtain⟨h1,h2,h3,h4⟩:=hS.qh hk (uk _);have hl:xs.length=n:=hS.EH i hk;have h2:n<=c:=h2;rcases h4 with⟨_,kV⟩ | ⟨g,o,cur,hA,hg,hh,hs,hc⟩
 ·have kV:c=0:=kV;omega
 have hA:A=some ⟨g,o,none⟩:=hA;have hs:o+c<=cur.size:=hs;have hc:∀j,j<n->cur[o+j]?=(xs.map (Value.int .i64))[j]?:=hc;subst hA;subst hl;have hH:Holds (Value.int .i64) w g o xs.toArray:=fun j hj=>by
  have gW:j<xs.length:=by simpa using hj
  refine⟨?_,by simp [World.frozen?,hh]⟩;simp only [World.cell?,hh];simp only [Option.isSome_none,Bool.false_eq_true,if_false];rw [hc j gW];simp [gW]
 have fG:g<w.heap.size:=(Array.getElem?_eq_some_iff.1 hh).1;have key:=AnyM.slices_Sort_int WH g o c xs w hH fG am;refine Calls.mono key fun x w' ⟨hx,m,os,hw⟩=> ⟨_,hx,O,?_⟩
 subst hw;have Cw:(ox xs).length=xs.length:=(Qr xs).length_eq;refine hS.turn hk O O (adG _) (.q9 (uk _) ⟨by simp [Cw],h2,h3,.inr ⟨g,o,_,O,hg,afr _ hh,by simp only [putCells,Array.size_mapIdx];exact hs,fun j hj=>?_⟩⟩);have hj:j<xs.length:=hj;show(putCells (Value.int .i64) o (ox xs).toArray cur)[o+j]?=((ox xs).map (Value.int .i64))[j]?;have Gx:o+j<cur.size:=by have:xs.length<=c:=h2;omega
 simp [putCells,Gx,Cw,hj]
end
section
open Go.RowKit
def mK(n:Nat):ai:=(List.range n).map fun x:Nat=> (x:Int)
theorem ahg{n k:Nat}{l:ai}(hk:k<n)(hl:l.length=n)(h:∀j,j<k->l[j]?=some (j:Int)):∀j,j<k+1->(l.set k (k:Int))[j]?=some (j:Int):=fun j hj=>by
 rw [mR]
 by_cases e:k=j
 ·subst e;rw [aB rfl,aB (by omega)]
 rw [az e];exact h j am
theorem V4(n:Nat)(w:aa)(hn:n<=1000000000):aJ prog 146 [ak n] w (fun v w'=>∃A',v= .slice A' n n/\St w w' [ax 2 A' n n (mK n)]):=by
 refine bC func146 O ntmps146 O (df O) (bh O (x4 n (St.refl w) O O am ?_));intro A1 w1 aH;refine ar O (a8 O O (aC O ?_));refine Cd.loop (α:=Nat×ai) (fun z=> [(3,.slice A1 n n),(8,ak n),(9,ak (z.1:Int))]) (fun z w'=>St w w' [ax 2 A1 n n z.2]/\z.1<=n/\z.2.length=n/\∀j,j<z.1->z.2[j]?=some (j:Int)) (fun z=>n - z.1) (0,List.replicate n 0) (aqv O) ⟨aH,bg _,by simp,fun j hj=>by omega⟩ ?_;rintro⟨k,l⟩ e w2 ⟨aF,hk,hl,hK⟩;dsimp only at aF hk hl hK|-;refine bL O (aM _ O (fun h1=>?_) (fun h1=>?_))
 ·refine aA O (aD (aF.bz 0 O).2 O (kN 0 aF O O O am ?_));intro w3 aQ;refine ar O (aI O (aT O (tQ ?_)));exact⟨(k+1,l.set k (k:Int)),by show n - (k+1)<n - k;omega,(aqv O),aQ,by show k+1<=n;omega,by show(l.set k _).length=n;rw [mA];exact hl,ahg am hl hK⟩
 refine bp O (bt (gw O ?_));refine gJ O ?_;have jb:k=n:=by omega
 subst jb;have he:l=mK k:=by
  apply List.ext_getElem?;intro j
  by_cases hj:j<k
  ·rw [hK j hj];simp [mK,hj]
  rw [me (by omega),me (by simp [mK];omega)]
 subst he;exact⟨A1,O,aF⟩
def qA(p q:ai):ai:=p.map fun x=>gi q x
theorem YB(A:aj)(n c:Nat)(p:ai)(A':aj)(n' c':Nat)(q:ai)(w:aa)(hP:cL w A n p)(hQ:cL w A' n' q)(hn:n<=1000000000)(hp:∀k:Nat,k<n->0<=gi p k/\gi p k<n'):
 aJ prog 148 [.slice A n c,.slice A' n' c'] w (fun v w'=>∃A',v= .slice A' n n/\St w w' [ax 2 A' n n (qA p q)]):=by
 have mq:=hP.1;refine bC func148 O ntmps148 O (df O) ?_;refine bh O (a8 O O ?_);refine x4 n (St.refl w) O O am fun A1 w1 aH=>ar O (a8 O O (aC O ?_));refine Cd.loop (α:=Nat×ai) (fun z=> [(0,.slice A n c),(1,.slice A' n' c'),(5,.slice A1 n n),(11,.slice A n c),(12,ak n),(13,ak (z.1:Int))]) (fun z w'=>St w w' [ax 2 A1 n n z.2]/\z.1<=n/\z.2.length=n/\∀j,j<z.1->z.2[j]?=(qA p q)[j]?) (fun z=>n - z.1) (0,List.replicate n 0) (aqv O) ⟨aH,bg _,by simp,fun j hj=>by omega⟩ ?_;rintro⟨k,l⟩ e w2 ⟨aF,hk,hl,hK⟩;dsimp only at aF hk hl hK|-;have T1:=aF.gA hP;have T3:=aF.gA hQ;refine bL O (aM _ O (fun h1=>?_) (fun h1=>?_))
 ·have hpk:=hp k am;refine aA O (aD T1.2 O (aY T1 O (ar O (aD T3.2 O (aY T3 O (aD (aF.bz 0 O).2 O (kN 0 aF O O O am ?_)))))));intro w3 aQ;refine ar O (aI O (aT O (tQ ?_)));refine⟨(k+1,l.set k (gi q (gi p k))),by show n - (k+1)<n - k;omega,(aqv O),aQ,by show k+1<=n;omega,by show(l.set k _).length=n;rw [mA];exact hl,fun j hj=>?_⟩;show(l.set k (gi q (gi p k)))[j]?=_;rw [mR]
  by_cases ej:k=j
  ·subst ej;rw [aB rfl,aB (by omega)];simp [qA,gi,dm,fq (show k<p.length by omega)]
  rw [az ej];exact hK j (by have:j<k+1:=hj;omega)
 refine bp O (bt (gw O ?_));refine gJ O ?_;have jb:k=n:=by omega
 subst jb;have he:l=qA p q:=by
  apply List.ext_getElem?;intro j
  by_cases hj:j<k
  ·exact hK j hj
  rw [me (by omega),me (by simp [qA];omega)]
 subst he;exact⟨A1,O,aF⟩
theorem Ql{α:Type}{l:List α}{i:Nat}{x:α}(h:l[i]?=some x):l.set i x=l:=by
 apply List.ext_getElem?;intro j;rw [mR]
 split
 ·rename_i e;subst e;rw [aB (gx.1 h).1,h]
 rfl
theorem Rd.one{w:aa}{A:aj}{n:Nat}{f:Nat->ad}(h:Rd w A (n+1) f):Rd w A 1 (fun _=>f 0):=fun j hj=>by
 obtain rfl:j=0:=by omega
 exact h 0 am
def marks(k:Int)(n:Nat):ai:=(List.range n).map fun j:Nat=>k+ (j:Int)
section
variable {P:Program} {N:Nat} {ops:Array Oper} {K:Env->aa->Prop} {rest:List Oper} {e:Env} {w:aa} {d:Nat} {ty:ae} {pos:String} {af:Array Edge}
theorem ZW{F:FuncId}{x:ag}{v1:ad}(hx:ev e x=v1)(hb:Nat.blt d N=true)(hK:ao P N ops K rest (bn e d (.func (.func F) #[] #[v1])) w):
 ao P N ops K (⟨some d,.makeFunc (.func F) #[] #[x],ty,pos,af,none⟩::rest) e w:=
 .val (by simp [execOp,Instr.makeFunc,hx]) hb hK
theorem Z5{t t' el:ae}[bA P t (.slice el)]{x y:ag}{A:aj}{n c:Nat}(hx:ev e x= .slice A n c)(hy:ev e y= .slice none 0 0)(hb:Nat.blt d N=true)(hK:ao P N ops K rest (bn e d (.bool (!A.isNone))) w):
 ao P N ops K (⟨some d,.binOp .neq t x y t',ty,pos,af,none⟩::rest) e w:=by
 have hr:(Op.equal t (.slice A n c) (.slice none 0 0)).run P w= .ok A.isNone w:=by
  show(Op.equalIn (9999+1) t (.slice A n c) (.slice none 0 0)).run P w=_;rw [Op.equalIn];cases A<;>simp [run_underlying (bA.out (P:=P) (t:=t))]
 exact .val (by simp [execOp,hx,hy,eqGuard,binOp,hr]) hb hK
end
theorem Tu(l:ai)(i:Nat):gi (l.drop i) 0=gi l i:=by simp [gi,dm,List.getElem?_drop]
theorem St.LY{w0 w:aa}{ks:List Ck}{i:Nat}{t:ae}{A:aj}{n c l:Nat}{xs:ai}(hS:St w0 w ks)(hk:ks[i]?=some (ax t A n c xs))(hl:l<=n):St w0 w (ks.set i (ax t (cutAt A c l) (n - l) (c - l) (xs.drop l))):=by
 have iU:=hS.EH i hk;obtain⟨h1,h2,h3,h4⟩:=hS.qh hk (uk _);have h2:n<=c:=h2;have h3:c<=maxLen:=h3;rcases h4 with⟨hA,kV⟩ | ⟨g,o,cur,hA,hg,hh,hs,hc⟩
 ·have hA:A=Option.none:=hA;have kV:c=0:=kV;subst hA kV;obtain rfl:n=0:=by omega
  obtain rfl:l=0:=by omega
  obtain rfl:=qE iU;have e:cutAt Option.none 0 0=Option.none:=O;rw [e];show St w0 w (ks.set i (ax t Option.none 0 0 []));rw [Ql hk];exact hS
 have hA:A=some ⟨g,o,Option.none⟩:=hA;have hs:o+c<=cur.size:=hs;have hh:w.heap[g]?=some (.cells cur t (0,0)):=hh;have hc:∀j,j<n->cur[o+j]?=(xs.map (Value.int .i64))[j]?:=hc;subst hA;have uZ:∃o',cutAt (some ⟨g,o,Option.none⟩) c l=some ⟨g,o',Option.none⟩/\o'+ (c - l)<=cur.size/\(0<n - l->o'=o+l):=by
  unfold cutAt
  split
  ·exact⟨o,O,am,fun h=>by omega⟩
  exact⟨o+l,by simp [ay,BA],am,fun _=>O⟩
 obtain⟨o',e1,e2,e3⟩:=uZ;refine hS.turn hk O (by simp [Ck.ij,e1]) ⟨⟨O,O,O,br _,fun _ _ _=>O⟩,br _⟩ (.q9 (uk _) ⟨by simp [iU],by show n - l<=c - l;omega,by show c - l<=maxLen;omega,.inr ⟨g,o',cur,e1,hg,hh,e2,fun j hj=>?_⟩⟩);have hj:j<n - l:=hj;show cur[o'+j]?=((xs.drop l).map (Value.int .i64))[j]?;rw [e3 (Nat.zero_lt_of_lt hj),Nat.add_assoc,hc (l+j) (Nat.add_lt_of_lt_sub' hj)];simp [List.getElem?_drop]
theorem Xo(u:Nat->ad){i j:Nat}{v w:ad}(h:u i=v)(h':u j=w):u=fun k=>if k=i then v else if k=j then w else u k:=by
 funext k
 split
 ·rename_i e;rw [e,h]
 split
 ·rename_i e;rw [e,h']
 rfl
theorem bI.all{xss:ah}(hM:bI xss){f:Int}(h0:0<=f)(h1:f< (gl xss 0).length):Reach xss 0 f:=(CN hM.2.2.1.sys (by have:=hM.2.1;omega)).1 hM.2.2.2.2 f h0 h1
theorem bI.any{xss:ah}(hM:bI xss){f g:Int}(h0:0<=f)(h1:f< (gl xss 0).length)(h2:0<=g)(h3:g< (gl xss 0).length):Reach xss f g:=((hM.all h0 h1).symm hM.2.2.1.sys hM.2.2.1.inj am (by have:=hM.2.1;omega)).trans (hM.all h2 h3)
theorem EF{N:Nat}{xss:ah}(hs:Sys N xss)(dw:rv N xss):∀i,i<=N->(∀x:Int,0<=x->x<N->gi (bw N xss i).1 x= -1\/(0<=gi (bw N xss i).1 x/\gi (bw N xss i).1 x< (bw N xss i).2))/\∀v:Int,0<=v->v< (bw N xss i).2->∃x:Int,0<=x/\x<N/\gi (bw N xss i).1 x=v
 | 0,_=> ⟨fun x h0 h1=> .inl (by rw [show(bw N xss 0).1=List.replicate N (-1) from rfl,vS h0 h1]),fun v h0 h1=>by simp [bw]at h1;omega⟩
 | i+1,hi=>by
  obtain⟨h1,h2⟩:=EF hs dw i am
  by_cases hp:0<=gi (bw N xss i).1 i
  ·rw [zd hp];exact⟨h1,h2⟩
  ·rw [xF hp];obtain⟨hg,mW,Ay⟩:=tx hs (pt:=(i:Int)) am am;have hc:=(y8 N xss i).1;have vZ:∀x:Int,0<=x->gi (pT (bw N xss i).1 (bw N xss i).2 (cC N xss i)) x=if x∈cC N xss i then(bw N xss i).2 else gi (bw N xss i).1 x:=fun x hx=>xg _ _ _ (qu N xss i) hg.range x hx
   have Gt:(i:Int)∈cC N xss i:=mW.subset (by simp);refine⟨fun x h0 hx=>?_,fun v h0 hv=>?_⟩
   ·rw [vZ x h0];dsimp only
    split
    ·exact .inr ⟨hc,am⟩
    ·rcases h1 x h0 hx with h | h
     ·exact .inl h
     ·exact .inr ⟨h.1,am⟩
   ·dsimp only at hv|-
    by_cases e:v=(bw N xss i).2
    ·exact⟨i,am,am,by rw [vZ i (by omega),aB Gt,e]⟩
    ·obtain⟨x,vn,iT,hx⟩:=h2 v h0 am;refine⟨x,vn,iT,?_⟩;rw [vZ x vn,az (fun hm=>?_),hx];obtain⟨j,hj,v8⟩:=(zc hs i am x vn iT).1 (by rw [hx];exact h0);have Eg:=(Ay x).1 hm;exact hp ((zc hs i am (i:Int) am am).2 ⟨j,hj,v8.trans (Reach.symm hs dw am am Eg)⟩)
theorem OW{N:Nat}{xss:ah}(hs:Sys N xss)(dw:rv N xss)(x:Int)(h0:0<=x)(h1:x<N):0<=gi (bw N xss N).1 x/\gi (bw N xss N).1 x< (bw N xss N).2:=by
 have:=(zc hs N (br _) x h0 h1).2 ⟨x.toNat,am,by rw [Int.toNat_of_nonneg h0];exact .refl⟩;rcases(EF hs dw N (br _)).1 x h0 h1 with h | h
 ·omega
 exact h
def qN(xs:ai):Int:=xs.foldl (fun o x=>if o<=x then x+1 else o) 0
theorem TA(xs:ai)(x:Int):qN (xs++ [x])=if qN xs<=x then x+1 else qN xs:=by
 unfold qN;rw [List.foldl_append]
 rfl
theorem MF:∀(m:Nat) (xs:ai),xs.length=m->0<=qN xs/\(∀x∈xs,x<qN xs)/\(qN xs=0\/∃x∈xs,qN xs=x+1)
 | 0,xs,h=>by
  obtain rfl:=qE h;exact⟨by simp [qN],(fun x hx=>by cases hx),.inl rfl⟩
 | m+1,xs,h=>by
  obtain⟨ys,y,rfl⟩:∃ys y,xs=ys++ [y]:=⟨xs.dropLast,xs.getLast (by intro e;rw [e]at h;simp at h),(List.dropLast_concat_getLast _).symm⟩;obtain⟨h1,h2,h3⟩:=MF m ys (by simpa using h);rw [TA]
  split
  ·refine⟨am,fun x hx=>?_,.inr ⟨y,by simp,O⟩⟩;rcases jd.1 hx with hx | hx
   ·have:=h2 x hx;omega
   ·simp at hx;omega
  ·refine⟨h1,fun x hx=>?_,?_⟩
   ·rcases jd.1 hx with hx | hx
    ·exact h2 x hx
    ·simp at hx;omega
   ·rcases h3 with h3 | ⟨x,hx,eQ⟩
    ·exact .inl h3
    ·exact .inr ⟨x,by simp [hx],eQ⟩
def eT(xss:ah)(i:Nat):ai:=(bw (gl xss 0).length (xss.eraseIdx i) (gl xss 0).length).1
def jg(xss:ah)(i:Nat):Int:=(bw (gl xss 0).length (xss.eraseIdx i) (gl xss 0).length).2
theorem Sys.erase{N:Nat}{xss:ah}(h:Sys N xss)(i:Nat):Sys N (xss.eraseIdx i):=fun p hp=>h p (List.mem_of_mem_eraseIdx hp)
theorem rv.erase{N:Nat}{xss:ah}(h:rv N xss)(i:Nat):rv N (xss.eraseIdx i):=fun p hp=>h p (List.mem_of_mem_eraseIdx hp)
theorem ID(xss:ah)(i:Nat):(eT xss i).length=(gl xss 0).length:=qu _ _ _
theorem DO(xss:ah)(i:Nat):0<=jg xss i/\jg xss i<=(gl xss 0).length:=y8 _ _ _
theorem Mh{xss:ah}(h:bI xss)(i:Nat)(f:Nat)(hf:f< (gl xss 0).length):0<=gi (eT xss i) f/\gi (eT xss i) f<jg xss i:=OW (h.2.2.1.sys.erase i) (h.2.2.1.inj.erase i) f am am
theorem Mg{xss:ah}(h:bI xss)(i:Nat)(v:Int)(h0:0<=v)(h1:v<jg xss i):∃f:Nat,f< (gl xss 0).length/\gi (eT xss i) f=v:=by
 obtain⟨x,vn,iT,hx⟩:=(EF (h.2.2.1.sys.erase i) (h.2.2.1.inj.erase i) _ (br _)).2 v h0 h1;exact⟨x.toNat,am,by rw [Int.toNat_of_nonneg vn];exact hx⟩
theorem OY{N:Nat}{xss:ah}(hs:Sys N xss):∀i,i<=N->(∀x:Int,0<=x->x<N->gi (bw N xss i).1 x= -1\/(0<=gi (bw N xss i).1 x/\gi (bw N xss i).1 x< (bw N xss i).2))/\(0< (bw N xss i).2->∃x:Int,0<=x/\x<N/\gi (bw N xss i).1 x=(bw N xss i).2 - 1)
 | 0,_=> ⟨fun x h0 h1=> .inl (by rw [show(bw N xss 0).1=List.replicate N (-1) from rfl,vS h0 h1]),fun h=>by simp [bw]at h⟩
 | i+1,hi=>by
  obtain⟨h1,h2⟩:=OY hs i am
  by_cases hp:0<=gi (bw N xss i).1 i
  ·rw [zd hp];exact⟨h1,h2⟩
  ·rw [xF hp];obtain⟨hg,mW,Ay⟩:=tx hs (pt:=(i:Int)) am am;have hc:=(y8 N xss i).1;have vZ:∀x:Int,0<=x->gi (pT (bw N xss i).1 (bw N xss i).2 (cC N xss i)) x=if x∈cC N xss i then(bw N xss i).2 else gi (bw N xss i).1 x:=fun x hx=>xg _ _ _ (qu N xss i) hg.range x hx
   have Gt:(i:Int)∈cC N xss i:=mW.subset (by simp);refine⟨fun x h0 hx=>?_,fun _=> ⟨i,am,am,by rw [vZ i (by omega),aB Gt];show _=(bw N xss i).2+1 - 1;omega⟩⟩;rw [vZ x h0];dsimp only
   split
   ·exact .inr ⟨hc,am⟩
   ·rcases h1 x h0 hx with h | h
    ·exact .inl h
    ·exact .inr ⟨h.1,am⟩
theorem OX{N:Nat}{xss:ah}(hs:Sys N xss)(x:Int)(h0:0<=x)(h1:x<N):0<=gi (bw N xss N).1 x/\gi (bw N xss N).1 x< (bw N xss N).2:=by
 have:=(zc hs N (br _) x h0 h1).2 ⟨x.toNat,am,by rw [Int.toNat_of_nonneg h0];exact .refl⟩;rcases(OY hs N (br _)).1 x h0 h1 with h | h
 ·omega
 exact h
theorem adH{N:Nat}{xss:ah}(hs:Sys N xss)(hN:0<N):qN (bw N xss N).1=(bw N xss N).2:=by
 have hl:=qu N xss N;obtain⟨h1,h2,h3⟩:=MF _ (bw N xss N).1 rfl;have cI:∀x∈(bw N xss N).1,0<=x/\x< (bw N xss N).2:=fun x hx=>by
  obtain⟨k,hk,rfl⟩:=gC.1 hx;rw [<-bV hk];exact OX hs k am am
 have h0:=OX hs 0 am am;obtain⟨x,vn,iT,hx⟩:=(OY hs N (br _)).2 am;have hm:gi (bw N xss N).1 x∈(bw N xss N).1:=by
  have e:gi (bw N xss N).1 x=(bw N xss N).1[x.toNat]' am:=by simp [gi,dm,fq (show x.toNat< (bw N xss N).1.length by omega)]
  rw [e];exact dK _
 have h4:=h2 _ hm;rcases h3 with h3 | ⟨y,hy,lG⟩
 ·omega
 have:=cI y hy;omega
def wX(M:ah):Prop:=(1<=M.length/\M.length<=5)/\(1<=(gl M 0).length/\(gl M 0).length<=400)/\Sys (gl M 0).length M
theorem bI.am9{M:ah}(h:bI M):wX M:=⟨h.1,⟨by have:=h.2.1;omega,h.2.1.2⟩,h.2.2.1.sys⟩
theorem IF{xss:ah}(h:wX xss)(i:Nat)(f:Nat)(hf:f< (gl xss 0).length):0<=gi (eT xss i) f/\gi (eT xss i) f<jg xss i:=OX (h.2.2.erase i) f am am
theorem acF{xss:ah}(h:wX xss)(i:Nat):qN (eT xss i)=jg xss i:=adH (h.2.2.erase i) (by have:=h.2.1;omega)
theorem bF.erase{w:aa}{A:aj}{n:Nat}{rs:List aO}{xss:ah}(h:bF w A n rs xss){i:Nat}(hi:i<n){A':aj}(hT:mT w A' (n - 1) (rs.eraseIdx i)):bF w A' (n - 1) (rs.eraseIdx i) (xss.eraseIdx i):=by
 have hl:=h.len;have cn:=h.top.1;have er:∀j,j<n - 1->(rs.eraseIdx i).getD j eY=rs.getD (if j<i then j else j+1) eY:=fun j hj=>by
  simp only [dm,List.getElem?_eraseIdx];split<;>rfl
 have ex:∀j,j<n - 1->(xss.eraseIdx i).getD j []=xss.getD (if j<i then j else j+1) []:=fun j hj=>by
  simp only [dm,List.getElem?_eraseIdx];split<;>rfl
 refine⟨hT,by rw [List.length_eraseIdx,aB (by omega),hl],fun j hj=>?_,fun j hj=>?_⟩
 ·rw [er j hj,ex j hj];exact h.row _ (by split<;>omega)
 rw [er j hj];exact h.cap _ (by split<;>omega)
theorem ah8(A:aj)(n c:Nat)(xs:ai)(v:Int)(w:aa)(hR:cL w A n xs)(hn:n<=9223372036854775807):
 aJ prog 230 [.slice A n c,ak v] w (fun r w'=> (∃i:Int,r=ak i/\(0<=i↔v∈xs))/\w'=w):=by
 have iU:=hR.1;refine bC func230 O ntmps230 O (df O) (bL O ?_);refine Cd.loop (α:=Nat) (fun k=> [(0,.slice A n c),(1,ak v),(5,ak k)]) (fun k w'=>w'=w/\k<=n/\∀j,j<k->gi xs (j:Nat)≠v) (fun k=>n - k) 0 (aqv O) ⟨O,bg _,fun j hj=>by omega⟩ ?_;rintro k e w ⟨rfl,hk,hK⟩;refine bh O (a8 O O (aC O ?_));refine aM _ O (fun h3=>?_) (fun h3=>?_)
 ·refine aA O (aD hR.2 O (aY hR O (aC O ?_)));refine aM _ O (fun h4=>?_) (fun h4=>?_)
  ·refine dM O (fB (fe ?_));refine iH O ?_;exact⟨⟨(k:Int),O,⟨fun _=>by rw [<-h4,bV (by omega)];exact dK _,fun _=>by omega⟩⟩,O⟩
  refine aA O (aI O (aT O (tQ ?_)));refine⟨k+1,by show n - (k+1)<n - k;omega,(aqv O),O,am,fun j hj=>?_⟩
  by_cases ej:j=k
  ·subst ej;exact h4
  exact hK j am
 refine bp O (bt (gw O ?_));refine iH O ⟨⟨-1,O,⟨fun h=>absurd h an,fun h=>?_⟩⟩,O⟩;obtain⟨j,hj,Eh⟩:=gC.1 h;exact absurd (by rw [bV hj];exact Eh) (hK j am)
theorem Kk(A:aj)(n c:Nat)(xs:ai)(v:Int)(w:aa)(hR:cL w A n xs)(hn:n<=9223372036854775807):
 aJ prog 172 [.slice A n c,ak v] w (fun r w'=>r= .bool (decide (v∈xs))/\w'=w):=by
 refine bC func172 O ntmps172 O (df O) (bh O (aL (ah8 A n c xs v _ hR hn) O ?_));rintro _ w ⟨⟨i,rfl,hi⟩,rfl⟩;refine bH O (dq O ?_);exact⟨aE Value.bool (ju.2 hi),O⟩
theorem aie(A:aj)(n c:Nat)(rs:List aO)(xss:ah)(Ai:aj)(ci:Nat)(i:Nat)(w:aa)(hR:bF w A n rs xss)(hn:n<=1000)(hi:i<n)(hI:cL w Ai 1 [(i:Int)]):
 aJ prog 235 [.agg #[.slice A n c],.slice Ai 1 ci] w (fun v w'=>∃A' c',v= .slice A' (n - 1) c'/\St w w' [cg 34 A' (n - 1) c' (rs.eraseIdx i)]):=by
 have cn:=hR.top.1;have step:∀k (hk:k<n),(rs.take (k+1)).eraseIdx i=if k=i then(rs.take k).eraseIdx i else(rs.take k).eraseIdx i++ [rg rs k]:=fun k hk=>by
  have e:rg rs k=rs[k]' am:=by simp [rg,dm,fq (show k<rs.length by omega)]
  rw [nM (by omega),e]
  by_cases h1:k=i
  ·subst h1;have h2:(rs.take k).length=k:=by rw [ns];omega
   rw [aB rfl,List.eraseIdx_append_of_length_le (by omega),h2,Nat.sub_self,List.eraseIdx_of_length_le (l:=rs.take k) (k:=k) (by omega)];simp
  rw [az h1]
  by_cases h2:i<k
  ·rw [List.eraseIdx_append_of_lt_length (by simp;omega)]
  rw [List.eraseIdx_of_length_le (l:=rs.take k++_) (by rw [ck,ns,List.length_singleton];omega),List.eraseIdx_of_length_le (l:=rs.take k) (by rw [ns];omega)]
 have hlen:∀k,k<=n->((rs.take k).eraseIdx i).length=if i<k then k - 1 else k:=fun k hk=>by
  rw [List.length_eraseIdx,ns,Nat.min_eq_left (by omega)]
 refine bC func235 O ntmps235 O (df O) (bh O (jH (St.refl w) O O ?_));intro Ab w1 aH;refine ar O (jr aH O ?_);intro A5 w2 aF;have aF:St w w2 [cg 34 A5 0 0 [],Bx 24 1 Ab [.slice A n c]]:=aF;refine aC O (Cd.loop (α:=Nat×aj×Nat) (fun z=> [(1,.slice Ai 1 ci),(2,.pointer Ab),(5,.slice z.2.1 ((rs.take z.1).eraseIdx i).length z.2.2),(6,ak (z.1:Int))]) (fun z w'=>St w w' [cg 34 z.2.1 ((rs.take z.1).eraseIdx i).length z.2.2 ((rs.take z.1).eraseIdx i),Bx 24 1 Ab [.slice A n c]]/\z.1<=n) (fun z=>n - z.1) (0,A5,0) (aqv O) ⟨aF,bg _⟩ ?_);rintro⟨k,A6,c6⟩ e w3 ⟨aQ,hk⟩;dsimp only at aQ hk|-;have iZ:=aQ.b7 hR;have mo:=hlen k hk;refine bh O (aV (aQ.rd 1 O) O (bj (aQ.rd 1 O) O ?_));refine a8 O O (aC O ?_);refine aM _ O (fun h1=>?_) (fun h1=>?_)
 ·have av:=step k am;refine aA O (aL (Kk Ai 1 ci _ k _ (aQ.gA hI) am) O ?_);rintro _ w3 ⟨rfl,rfl⟩
  first | refine fv rfl rfl ?_ | refine gz rfl rfl ?_
  refine aC O (aM _ O (fun h2=>?_) (fun h2=>?_))
  ·rw [az (fun h=>h2 (by rw [h];simp))]at av;refine aA O (aV (aQ.rd 1 O) O (bj (aQ.rd 1 O) O (ar O (aqj iZ.top.2 O O O am h1 (b9 iZ.top O (lp aQ O O O ?_))))));intro A7 w4 aX;refine lK 1 aX O (aX.fQ 0 O) O O O (by rw [mo];split<;>omega) (by rw [mo];split<;>omega) O ?_;intro A8 c8 w5 ba;refine ar O (aI O (aT O (tQ ?_)));have e1:((rs.take (k+1)).eraseIdx i).length=((rs.take k).eraseIdx i).length+1:=by rw [av];simp
   refine⟨(k+1,A8,c8),by show n - (k+1)<n - k;omega,⟨O,O,by show Value.slice _ _ _= .slice _ _ _;rw [e1],O,au⟩,?_,by show k+1<=n;omega⟩;show St w w5 [cg _ A8 ((rs.take (k+1)).eraseIdx i).length c8 ((rs.take (k+1)).eraseIdx i),_];rw [e1,av];exact ba.tail
  have h3:=jR.1 h2;simp only [gj]at h3;rw [aB (by omega)]at av;refine aA O (aI O (aT O (tQ ?_)));refine⟨(k+1,A6,c6),by show n - (k+1)<n - k;omega,⟨O,O,by show Value.slice _ _ _= .slice _ _ _;rw [av],O,au⟩,?_,by show k+1<=n;omega⟩;show St w w3 [cg _ A6 ((rs.take (k+1)).eraseIdx i).length c6 ((rs.take (k+1)).eraseIdx i),_];rw [av];exact aQ
 refine bp O (bt (gw O ?_));refine gJ O ?_;have jb:k=n:=by omega
 subst jb;rw [iY (by omega)]at aQ;have e1:(rs.eraseIdx i).length=k - 1:=by rw [List.length_eraseIdx,aB (by omega),cn]
 rw [iY (by omega),e1];rw [e1]at aQ;exact⟨A6,c6,O,aQ.sub (List.Sublist.cons_cons _ (List.nil_sublist _))⟩
theorem Xi(c:Int)(x:Int):∀(a L:ai),pT L c (a++ [x])=(pT L c a).set x.toNat c
 | [],_=>rfl
 | y::a,L=>Xi c x a (L.set y.toNat c)
theorem ah9(A:aj)(n c:Nat)(rs:List aO)(xss:ah)(N:Nat)(w:aa)(hR:bF w A n rs xss)(hn:n<=1000)(hs:Sys N xss)(hN:N<=1000):
 aJ prog 234 [ak N,.slice A n c] w (fun v w'=>∃A' c',v= .slice A' N c'/\St w w' [ax 2 A' N c' (bw N xss N).1]):=by
 refine bC func234 O ntmps234 O (df O) (bh O (jr (St.refl w) O ?_));intro A5 w1 aH;have aH:St w w1 [ax 2 A5 0 0 (List.replicate 0 (-1))]:=aH;refine aC O (Cd.loop (α:=Nat×aj×Nat) (fun z=> [(0,ak N),(1,.slice A n c),(5,.slice z.2.1 z.1 z.2.2),(6,ak (z.1:Int))]) (fun z w'=>St w w' [ax 2 z.2.1 z.1 z.2.2 (List.replicate z.1 (-1))]/\z.1<=N) (fun z=>N - z.1) (0,A5,0) (aqv O) ⟨aH,bg _⟩ ?_);rintro⟨k,A6,c6⟩ e w2 ⟨aF,hk⟩;dsimp only at aF hk|-;refine bL O (aM _ O (fun h1=>?_) (fun h1=>?_))
 ·refine aA O (eL aF O O O ?_);intro A7 w3 aQ;refine fu 1 aQ O (aQ.bz 0 O) O O O fun A8 c8 w4 aX=>ar O (aI O (aT O (tQ ?_)));refine⟨(k+1,A8,c8),by show N - (k+1)<N - k;omega,(aqv O),?_,by show k+1<=N;omega⟩;show St w w4 [ax _ A8 (k+1) c8 (List.replicate (k+1) (-1))];rw [List.replicate_succ'];exact aX.tail
 refine bp O (bt (sI O ?_));have yH:k=N:=by omega
 subst yH;refine Cd.loop (α:=Nat) (fun i=> [(0,ak k),(1,.slice A n c),(5,.slice A6 k c6),(7,ak (bw k xss i).2),(8,ak i)]) (fun i w'=>St w w' [ax 2 A6 k c6 (bw k xss i).1]/\i<=k) (fun i=>k - i) 0 (aqv O) ⟨aF,bg _⟩ ?_;rintro i e w3 ⟨aQ,hi⟩;have TQ:=aQ.bz 0 O;have oX:=y8 k xss i;refine bL O (aM _ O (fun h2=>?_) (fun h2=>?_))
 ·refine aA O (aD TQ.2 O (aY TQ O (aC O ?_)));refine aM _ O (fun h3=>?_) (fun h3=>?_)
  ·refine aA O (aI O (aT O (tQ ?_)));refine⟨i+1,by show k - (i+1)<k - i;omega,⟨O,O,O,by show Value.int .i64 _=ak _;rw [zd h3],O,au⟩,by rw [zd h3];exact aQ,am⟩
  obtain⟨hg,_,_⟩:=tx hs (pt:=(i:Int)) am am;refine aA O (aL (OR A n c rs xss k i _ (aQ.b7 hR) am hs am am am) O ?_);rintro _ w4 ⟨A9,c9,rfl,av⟩;have aX:=aQ.call av;have Es:(cC k xss i).length<=k:=hg.len;refine aC O (Cd.loop (α:=Nat) (fun m=> [(0,ak k),(1,.slice A n c),(5,.slice A6 k c6),(7,ak (bw k xss i).2),(8,ak i),(9,.slice A9 (cC k xss i).length c9),(10,ak m)]) (fun m w'=>St w w' [ax 2 A9 (cC k xss i).length c9 (cC k xss i),ax 2 A6 k c6 (pT (bw k xss i).1 (bw k xss i).2 ((cC k xss i).take m))]/\m<=(cC k xss i).length) (fun m=> (cC k xss i).length - m) 0 (aqv O) ⟨aX,bg _⟩ ?_);rintro m e w5 ⟨ba,hm⟩;have TZ:=ba.bz 0 O;refine bh O (a8 O O (aC O ?_));refine aM _ O (fun h4=>?_) (fun h4=>?_)
  ·have jj:m< (cC k xss i).length:=by omega
   have Vn:=hg.range _ (gi_in jj);refine aA O (aD TZ.2 O (aY TZ O (ar O (aD (ba.bz 1 O).2 O (kN 1 ba O O O am ?_)))));intro w6 bo;refine ar O (aI O (aT O (tQ ?_)));refine⟨m+1,by show _ - (m+1)<_ - m;omega,(aqv O),?_,jj⟩;rw [wE jj,Xi];exact bo
  refine bp O (bt (cS O (aI O (ar O (aI O (aT O (tQ ?_)))))));have hme:m=(cC k xss i).length:=by omega
  subst hme;rw [List.take_length]at ba;refine⟨i+1,by show k - (i+1)<k - i;omega,⟨O,O,O,by show Value.int .i64 _=ak _;rw [xF h3],O,au⟩,by rw [xF h3];exact ba.tail,am⟩
 refine bp O (bt (gw O ?_));refine gJ O ?_;have nB:i=k:=by omega
 subst nB;exact⟨A6,c6,O,aQ⟩
theorem aid(A:aj)(n c:Nat)(xs:ai)(w:aa)(hR:cL w A n xs)(hn:n<=1000000)(hx:∀x∈xs,x<=1000000):
 aJ prog 178 [.slice A n c] w (fun v w'=>v=ak (qN xs)/\w'=w):=by
 have iU:=hR.1;refine bC func178 O ntmps178 O (df O) (bL O ?_);refine Cd.loop (α:=Nat) (fun k=> [(0,.slice A n c),(3,ak (qN (xs.take k))),(4,ak k)]) (fun k w'=>w'=w/\k<=n) (fun k=>n - k) 0 (aqv O) ⟨O,bg _⟩ ?_;rintro k e w ⟨rfl,hk⟩;refine bh O (a8 O O (aC O ?_));refine aM _ O (fun h1=>?_) (fun h1=>?_)
 ·have hg:gi xs k<=1000000:=hx _ (by rw [bV (by omega)];exact dK _);have av:qN (xs.take (k+1))=if qN (xs.take k)<=gi xs k then gi xs k+1 else qN (xs.take k):=by rw [wE (by omega),TA]
  have JD:=(MF _ (xs.take k) O).1;refine aA O (aD hR.2 O (aY hR O (aC O ?_)));refine aM _ O (fun h2=>?_) (fun h2=>?_)
  ·rw [aB h2]at av;refine aA O (aD hR.2 O (aY hR O ?_));refine aI O (ar O (aI O (aT O (tQ ?_))));exact⟨k+1,by show n - (k+1)<n - k;omega,⟨O,by show Value.int .i64 _=ak _;rw [av],O,au⟩,O,am⟩
  rw [az h2]at av;refine aA O (aI O (aT O (tQ ?_)));exact⟨k+1,by show n - (k+1)<n - k;omega,⟨O,by show Value.int .i64 _=ak _;rw [av],O,au⟩,O,am⟩
 refine bp O (bt (gw O ?_));refine iH O ?_;have jb:k=n:=by omega
 subst jb;exact⟨by rw [<-iU,List.take_length],O⟩
theorem aic(A:aj)(n c:Nat)(rs:List aO)(xss:ah)(i:Nat)(w:aa)(hR:bF w A n rs xss)(hM:wX xss)(hi:i<n):
 aJ prog 177 [.agg #[.slice A n c],ak i] w (fun v w'=>∃A' c',v= .slice A' (gl xss 0).length c'/\St w w' [ax 2 A' (gl xss 0).length c' (eT xss i)]):=by
 have hl:=hR.len;have h1:=hM.1;have h2:=hM.2.1;have hs:=hM.2.2;refine bC func177 O ntmps177 O (df O) (bh O (jH (St.refl w) O O ?_));intro Ab w1 aH;refine aC O ?_;refine dU [.ex (.agg #[.slice (A) (n) (c)]),xI (((gl xss 0).length:Int)),.ex (.agg #[.slice (A) (n) (c)]),xI ((i:Int)),.pr (fun v w'=>∃A1,v= .slice A1 1 1/\cL w' A1 1 [(i:Int)]),.pr (fun v w'=>∃A1 c1,v= .slice A1 (n - 1) c1/\bF w' A1 (n - 1) (rs.eraseIdx i) (xss.eraseIdx i)),.pr (fun v w'=>∃A1 c1,v= .slice A1 (gl xss 0).length c1/\St w w' [ax 2 A1 (gl xss 0).length c1 (eT xss i)]),.pr (fun v w'=>∃A1 c1,v= .slice A1 (gl xss 0).length c1/\St w w' [ax 2 A1 (gl xss 0).length c1 (eT xss i)])] rfl (lx (lx (lx (lx (cH.2 ⟨Yd.cJ (fun v w w' h hb=>by obtain⟨A1,hv,hT⟩:=h;exact⟨A1,hv,hT.aq hb⟩),(cH.2 ⟨Yd.cJ (fun v w w' h hb=>by obtain⟨A1,c1,hv,hT⟩:=h;exact⟨A1,c1,hv,hT.aq hb⟩),(cH.2 ⟨Yd.cJ (fun v w w' h hb=>by obtain⟨A1,c1,hv,hT⟩:=h;exact⟨A1,c1,hv,hT.aq hb⟩),(cH.2 ⟨Yd.cJ (fun v w w' h hb=>by obtain⟨A1,c1,hv,hT⟩:=h;exact⟨A1,c1,hv,hT.aq hb⟩),(fun _ h=>by cases h)⟩)⟩)⟩)⟩))))) ?_ ?_
 ·refine⟨fun _ _ hb _ _=>ao.cN 0 ((aH.rd 0 O).below hb) O O O Az,?_,fun _ _ hb _ _=>ao.cN 0 ((aH.rd 0 O).below hb) O O O Az,Dr O,?_,?_,?_,?_,au⟩
  ·intro e1 w1 hb hp aU;refine aL (Km A n c rs xss _ ((aH.aq hb).b7 hR) am) O ?_;rintro _ w2 ⟨rfl,av⟩;refine ao.n ?_;exact eP.dn av.below (by exact O)
  ·intro e1 w1 hb hp aU;exact eL (St.refl _) O O O fun A1 w9 av=>ao.n (eP.dn av.below ⟨A1,O,av.bz 0 O⟩)
  ·intro e1 w1 hb hp aU;obtain⟨A0,h9,Nb⟩:=(hp 4 an rfl _ _ rfl rfl);refine aqm (aie A n c rs xss A0 1 i _ ((aH.aq hb).b7 hR) am hi Nb) O (by exact aE (fun v=> [Value.agg #[.slice A n c],v]) h9) O ?_;rintro _ w9 ⟨A1,c1,rfl,av⟩;exact ao.n (eP.dn av.below ⟨A1,c1,O,(((aH.aq hb).b7 hR).aq av.below).erase hi (av.fQ 0 O)⟩)
  ·intro e1 w1 hb hp aU;obtain⟨A0,c0,fz,Nb⟩:=(hp 5 an rfl _ _ rfl rfl);refine aqm (ah9 A0 (n - 1) c0 _ _ (gl xss 0).length _ Nb am (hs.erase i) am) O (by exact aE (fun v=> [Value.int .i64 ((gl xss 0).length:Int),v]) fz) O ?_;rintro _ w9 ⟨A1,c1,rfl,av⟩;exact ao.n (eP.dn av.below ⟨A1,c1,O,(aH.aq hb).none.call av⟩)
  intro e1 w1 hb hp aU;obtain⟨A1,c1,kl,hT⟩:=(hp 6 an rfl _ _ rfl rfl);refine lM O (by exact kl) O (ao.n ?_);exact eP.dn (Below.refl _ _) ⟨A1,c1,O,hT⟩
 intro u w9 oV hu;obtain⟨A9,c9,h4,hT⟩:=hu 7 _ rfl;refine zz O (gJ (by exact h4) ?_);exact⟨A9,c9,O,hT⟩
end
end Go.Proofs.YtkccgdhcpplblaaGreatDoor.Vc
