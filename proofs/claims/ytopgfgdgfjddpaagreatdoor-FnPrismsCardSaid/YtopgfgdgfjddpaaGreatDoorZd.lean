/-
 Lemmas. Conditions: as each states them.
-/
import Derived.Test.YtopgfgdgfjddpaaGreatDoorLay
import Derived.Shelf.SortM.Plain
import Derived.Test.YtopgfgdgfjddpaaGreatDoorZc
set_option maxHeartbeats 8000000
namespace Go.Proofs.YtopgfgdgfjddpaaGreatDoor.Vc
open Tryz
section
open Go.RowKit Go.Sort
variable{w w0:aa}
theorem acM{g n off:Nat}{os:Array Obj}{cur:Array ad}{e:ae}{fr:Nat×Nat}(d:Array Int)(hb:w.heap[g]?=some (.cells cur e fr)):(Go.Sort.grow (putRow (Value.int .i64) (Sort.ahead w n) g off d) os).heap[g]?=some (.cells (putCells (Value.int .i64) off d cur) e fr):=by
 have hg:g<w.heap.size:=(Array.getElem?_eq_some_iff.1 hb).1;rw [heap_grow_old _ _ (by simpa using hg)];simp [putRow,mapBlock,Sort.ahead,Array.getElem?_modify,hb,onCells]
theorem abf{g n off:Nat}{os:Array Obj}(d:Array Int):Hk w (Go.Sort.grow (putRow (Value.int .i64) (Sort.ahead w n) g off d) os) (some g):=by
 refine⟨⟨O,O,O,by simp,fun k hk bt=>?_⟩,Nat.le_add_right _ _⟩;rw [heap_grow_old _ _ (by simpa using hk)];have:g≠k:=fun e=>bt (by rw [e])
 simp [putRow,mapBlock,Sort.ahead,Array.getElem?_modify,this]
theorem aiI{ks:List Ck}(i:Nat){t:ae}{A:aj}{n c:Nat}{xs:ai}(hS:St w0 w ks)(hk:ks[i]?=some (az t A n c xs))(h0:0<n)(hn:n<=1000000000):
 aN prog 159 [.slice A n c] w (fun v w'=>v= .tuple #[]/\St w0 w' (ks.set i (az t A n c (oK xs)))):=by
 obtain⟨h1,h2,h3,h4⟩:=hS.sD hk (tW _);have hl:xs.length=n:=hS.D6 i hk;have h2:n<=c:=h2;rcases h4 with⟨_,nJ⟩ | ⟨g,o,cur,hA,hg,hh,hs,hc⟩
 ·have nJ:c=0:=nJ;omega
 have hA:A=some ⟨g,o,none⟩:=hA;have hs:o+c<=cur.size:=hs;have hc:∀j,j<n->cur[o+j]?=(xs.map (Value.int .i64))[j]?:=hc;subst hA;subst hl;have hH:Holds (Value.int .i64) w g o xs.toArray:=fun j hj=>by
  have ll:j<xs.length:=by simpa using hj
  refine⟨?_,by simp [World.frozen?,hh]⟩;simp only [World.cell?,hh];simp only [Option.isSome_none,Bool.false_eq_true,if_false];rw [hc j ll];simp [ll]
 have gB:g<w.heap.size:=(Array.getElem?_eq_some_iff.1 hh).1;have key:=AnyM.slices_Sort_int Vm g o c xs w hH gB (by omega);refine Calls.mono key fun x w' ⟨hx,m,os,hw⟩=> ⟨_,hx,O,?_⟩
 subst hw;have Uk:(oK xs).length=xs.length:=(OT xs).length_eq;refine hS.turn hk O O (abf _) (.s5 (tW _) ⟨by simp [Uk],h2,h3,.inr ⟨g,o,_,O,hg,acM _ hh,by simp only [putCells,Array.size_mapIdx];exact hs,fun j hj=>?_⟩⟩);have hj:j<xs.length:=hj;show(putCells (Value.int .i64) o (oK xs).toArray cur)[o+j]?=((oK xs).map (Value.int .i64))[j]?;have MU:o+j<cur.size:=by have:xs.length<=c:=h2;omega
 simp [putCells,MU,Uk,hj]
end
section
open Go.RowKit
theorem OO{α:Type}{l:List α}{i:Nat}{x:α}(h:l[i]?=some x):l.set i x=l:=by
 apply List.ext_getElem?;intro j;rw [pA]
 split
 ·rename_i e;subst e;rw [ay (iQ.1 h).1,h]
 rfl
theorem Rd.one{w:aa}{A:aj}{n:Nat}{f:Nat->ad}(h:Rd w A (n+1) f):Rd w A 1 (fun _=>f 0):=fun j hj=>by
 obtain rfl:j=0:=by omega
 exact h 0 (by omega)
def marks(k:Int)(n:Nat):ai:=(List.range n).map fun j:Nat=>k+ (j:Int)
section
variable {P:Program} {N:Nat} {ops:Array Oper} {K:Env->aa->Prop} {rest:List Oper} {e:Env} {w:aa} {d:Nat} {ty:ae} {pos:String} {af:Array Edge}
theorem Yg{F:FuncId}{x:ag}{v1:ad}(hx:ev e x=v1)(hb:Nat.blt d N=true)(hK:ao P N ops K rest (bG e d (.func (.func F) #[] #[v1])) w):
 ao P N ops K (⟨some d,.makeFunc (.func F) #[] #[x],ty,pos,af,none⟩::rest) e w:=
 .val (by simp [execOp,Instr.makeFunc,hx]) hb hK
theorem PQ{t t' el:ae}[bV P t (.slice el)]{x y:ag}{A:aj}{n c:Nat}(hx:ev e x= .slice A n c)(hy:ev e y= .slice none 0 0)(hb:Nat.blt d N=true)(hK:ao P N ops K rest (bG e d (.bool (!A.isNone))) w):
 ao P N ops K (⟨some d,.binOp .neq t x y t',ty,pos,af,none⟩::rest) e w:=by
 have hr:(Op.equal t (.slice A n c) (.slice none 0 0)).run P w= .ok A.isNone w:=by
  show(Op.equalIn (9999+1) t (.slice A n c) (.slice none 0 0)).run P w=_;rw [Op.equalIn];cases A<;>simp [run_underlying (bV.out (P:=P) (t:=t))]
 exact .val (by simp [execOp,hx,hy,eqGuard,binOp,hr]) hb hK
end
theorem RW(l:ai)(i:Nat):gi (l.drop i) 0=gi l i:=by simp [gi,dd,List.getElem?_drop]
theorem St.QN{w0 w:aa}{ks:List Ck}{i:Nat}{t:ae}{A:aj}{n c l:Nat}{xs:ai}(hS:St w0 w ks)(hk:ks[i]?=some (az t A n c xs))(hl:l<=n):St w0 w (ks.set i (az t (cutAt A c l) (n - l) (c - l) (xs.drop l))):=by
 have dG:=hS.D6 i hk;obtain⟨h1,h2,h3,h4⟩:=hS.sD hk (tW _);have h2:n<=c:=h2;have h3:c<=maxLen:=h3;rcases h4 with⟨hA,nJ⟩ | ⟨g,o,cur,hA,hg,hh,hs,hc⟩
 ·have hA:A=Option.none:=hA;have nJ:c=0:=nJ;subst hA nJ;obtain rfl:n=0:=by omega
  obtain rfl:l=0:=by omega
  obtain rfl:=uq dG;have e:cutAt Option.none 0 0=Option.none:=O;rw [e];show St w0 w (ks.set i (az t Option.none 0 0 []));rw [OO hk];exact hS
 have hA:A=some ⟨g,o,Option.none⟩:=hA;have hs:o+c<=cur.size:=hs;have hh:w.heap[g]?=some (.cells cur t (0,0)):=hh;have hc:∀j,j<n->cur[o+j]?=(xs.map (Value.int .i64))[j]?:=hc;subst hA;have uR:∃o',cutAt (some ⟨g,o,Option.none⟩) c l=some ⟨g,o',Option.none⟩/\o'+ (c - l)<=cur.size/\(0<n - l->o'=o+l):=by
  unfold cutAt
  split
  ·exact⟨o,O,by omega,fun h=>by omega⟩
  exact⟨o+l,by simp [aB,CT],by omega,fun _=>O⟩
 obtain⟨o',e1,e2,e3⟩:=uR;refine hS.turn hk O (by simp [Ck.iX,e1]) ⟨⟨O,O,O,bB _,fun _ _ _=>O⟩,bB _⟩ (.s5 (tW _) ⟨by simp [dG],by show n - l<=c - l;omega,by show c - l<=maxLen;omega,.inr ⟨g,o',cur,e1,hg,hh,e2,fun j hj=>?_⟩⟩);have hj:j<n - l:=hj;show cur[o'+j]?=((xs.drop l).map (Value.int .i64))[j]?;rw [e3 (Nat.zero_lt_of_lt hj),Nat.add_assoc,hc (l+j) (Nat.add_lt_of_lt_sub' hj)];simp [List.getElem?_drop]
theorem bg.all{xss:ah}(hM:bg xss){f:Int}(h0:0<=f)(h1:f< (gl xss 0).length):Reach xss 0 f:=(Cs hM.2.2.1.sys (by have:=hM.2.1;omega)).1 hM.2.2.2.2 f h0 h1
theorem XM(A:aj)(n c:Nat)(xs:ai)(A':aj)(n' c':Nat)(ys:ai)(w:aa)(hR:di w A n xs)(FG:di w A' n' ys)(hn:n<=9223372036854775807):
 aN prog 99 [.slice A n c,.slice A' n' c'] w (fun v w'=>v= .bool (decide (xs=ys))/\St w w' []):=by
 have hl:=hR.1;have vL:=FG.1;subst hl;subst vL;refine bI func99 O ntmps99 O (du O) ?_;refine bc O (bk O O (ar O (bk O O (aI O ?_))));refine aR _ O (fun h=>?_) (fun h=>?_)
 ·refine eF O (dz O ?_);exact⟨by rw [dk (fun e:xs=ys=>h (by rw [e]))],St.refl _⟩
 refine aG O (bk O O (aI O ?_));refine Cd.loop (α:=Nat) (fun k=> [(0,.slice A xs.length c),(1,.slice A' ys.length c'),(12,ak (xs.length:Int)),(13,ak k)]) (fun k w'=>St w w' []/\k<=xs.length/\xs.take k=ys.take k) (fun k=>xs.length - k) 0 (alH O) ⟨St.refl w,bm _,O⟩ ?_;rintro k e w2 ⟨aD,hk,hI⟩;have hle:xs.length=ys.length:=by omega
 refine b8 O (aR _ O (fun h1=>?_) (fun h1=>?_))
 ·have hA:=aD.gH hR;have hB:=aD.gH FG;have h2:(k:Int)<ys.length:=by omega
  have hx:=cd (p:=xs) (k:=k) (by omega);have hy:=cd (p:=ys) (k:=k) (by omega);refine cM O (eB [xS (A) (xs.length) (c),xI ((k:Int)),xP (aB (A) ((k:Int)).toNat),xI (gi (xs) ((k:Int))),xS (A') (ys.length) (c'),xI ((k:Int)),xP (aB (A') ((k:Int)).toNat),xI (gi (ys) ((k:Int))),xB (decide (¬(gi (xs) ((k:Int)))=(gi (ys) ((k:Int)))))] O (eQ O) ?_ ?_)
  ·exact⟨Dr O,Dr O,fun _ _ hb _ _=>aF (hA.aq hb).2 O Az,fun _ _ hb _ _=>bh (hA.aq hb) O Az,Dr O,Dr O,fun _ _ hb _ _=>aF (hB.aq hb).2 O Az,fun _ _ hb _ _=>bh (hB.aq hb) O Az,Dr O,av⟩
  intro u w3 ib _;have aM:=aD.aq ib;refine fh O (aR _ O (fun h3=>?_) (fun h3=>?_))
  ·refine eF O (fD (e6 ?_));refine dz O ?_;refine⟨by rw [dk (fun e:xs=ys=>h3 (by rw [e]))],aM⟩
  refine aG O (aJ O (aT O (tQ ?_)));refine⟨k+1,by omega,(alH O),aM,by omega,?_⟩;rw [yR (by omega),yR (by omega),hI,jl.1 h3]
 refine bw O (bA (ij O ?_));refine dz O ⟨?_,aD⟩;rw [lp (by omega),lp (by omega)]at hI;rw [eP hI]
theorem St.s7{w0 w:aa}{t1 t2:ae}{A:aj}{n c:Nat}{rs:List aQ}{xss:ah}(h:St w0 w (aO t1 t2 A n c rs xss))(hl:xss.length=n):bz w A n rs xss:=
 St.gj (ks:=[]) (by rw [eu];exact h) hl
section
variable {P:Program} {N:Nat} {ops:Array Oper} {K:Env->aa->Prop} {rest:List Oper} {e:Env} {w:aa} {d:Nat} {ty:ae} {pos:String} {af:Array Edge}
end
end
section
section
variable {N:Nat} {xss:ah} {p q:ai}
variable {ps:ah}
end
section
variable {N:Nat} {xss:ah} {b:Int} {i k:Nat} {L Q:ai}
end
end
section
open Go.RowKit
theorem St.isSome{w0 w:aa}{ks:List Ck}{i:Nat}{t:ae}{A:aj}{n c:Nat}{xs:ai}(h:St w0 w ks)(hk:ks[i]?=some (az t A n c xs))(hn:0<n):∃a,A=some a:=by
 obtain⟨h1,h2,h3,h4⟩:=h.sD hk (tW _);rcases h4 with⟨hA,nJ⟩ | ⟨g,o,cur,hA,_⟩
 ·have e1:c=0:=nJ;have e2:n<=c:=h2;omega
 exact⟨_,hA⟩
end
section
structure wj(N N':Nat)(xss bU:ah)(q:Int->Int):Prop where
 dp:∀x:Int,0<=x->x<N->0<=q x/\q x<N'
 tv:∀(m:Nat) (x:Int),m<xss.length->0<=x->x<N->q (gi (gl xss m) x)=gi (gl bU m) (q x)
theorem gM.Z7{N:Nat}{xss bU:ah}{φ:Int->Int}(h:gM N xss bU φ):wj N N xss bU φ:=⟨h.dp,fun m x hm h0 h1=> (h.tv m x hm h0 h1).symm⟩
structure CJ(N N':Nat)(xss bU:ah)(b:Int)(i k:Nat)(L Q:ai):Prop where
 len:L.length=N
 val:∀x:Int,0<=x->x<N->(gi L x= -1/\x∉Q)\/((0<=gi L x/\gi L x<N')/\x∈Q)
 GH:Q.Nodup
 dp:∀x∈Q,0<=x/\x< (N:Int)
 q0:(0:Int)∈Q
 l0:gi L 0=b
 le:i<=Q.length
 done:∀j,j<i->∀m,m<xss.length->gi L (gi (gl xss m) (gi Q j))=gi (gl bU m) (gi L (gi Q j))
 part:∀m,m<k->gi L (gi (gl xss m) (gi Q i))=gi (gl bU m) (gi L (gi Q i))
 uniq:∀q,wj N N' xss bU q->q 0=b->∀x∈Q,gi L x=q x
section
variable {N N':Nat} {xss bU:ah} {b:Int} {i k:Nat} {L Q:ai}
theorem CJ.init(h0:0<N)(dX:0<=b)(df:b<N'):CJ N N' xss bU b 0 0 ((List.replicate N (-1)).set 0 b) [0]:=by
 have hg:∀x:Int,0<=x->x<N->gi ((List.replicate N (-1)).set 0 b) x=if(0:Int)=x then b else -1:=fun x hx eE=>by
  have:=qK (S:=List.replicate N (-1)) (x:=0) (y:=x) (b:=b) (by omega) (by simp;omega) hx;rw [show Int.toNat 0=0 from rfl]at this;rw [this,zA hx eE]
 refine⟨by simp,fun x hx eE=>?_,by simp,fun x hx=>by simp at hx;omega,by simp,by rw [hg 0 (by omega) (by omega),ay O],bm _,fun j hj=>by omega,fun m hm=>by omega,fun q _ e x hx=>?_⟩
 ·rw [hg x hx eE]
  by_cases e:(0:Int)=x
  ·rw [ay e];exact .inr ⟨⟨dX,df⟩,by simp [<-e]⟩
  rw [aw e];exact .inl ⟨rfl,by simp;omega⟩
 simp at hx;subst hx;rw [hg 0 (by omega) (by omega),ay rfl,e]
theorem CJ.at_(h:CJ N N' xss bU b i k L Q)(hs:Sys N xss)(nL:Sys N' bU)(hl:bU.length=xss.length)(hi:i<Q.length)(hk:k<xss.length):(0<=gi Q i/\gi Q i<N)/\(0<=gi L (gi Q i)/\gi L (gi Q i)<N')/\(0<=gi (gl xss k) (gi Q i)/\gi (gl xss k) (gi Q i)<N)/\(0<=gi (gl bU k) (gi L (gi Q i))/\gi (gl bU k) (gi L (gi Q i))<N'):=by
 have hm:=gi_in hi;have hr:=h.dp _ hm;have hv:0<=gi L (gi Q i)/\gi L (gi Q i)<N':=by
  rcases h.val _ hr.1 hr.2 with h1 | h1
  ·exact absurd hm h1.2
  exact h1.1
 have db:=(hs (gl xss k) (by rw [cK hk];exact dH _)).2;have F2:=(nL (gl bU k) (by rw [cK (by omega)];exact dH _)).2;exact⟨hr,hv,db _ hr.1 hr.2,F2 _ hv.1 hv.2⟩
theorem CJ.same(h:CJ N N' xss bU b i k L Q)(e:gi L (gi (gl xss k) (gi Q i))=gi (gl bU k) (gi L (gi Q i))):CJ N N' xss bU b i (k+1) L Q:=
 ⟨h.len,h.val,h.GH,h.dp,h.q0,h.l0,h.le,h.done,fun m hm=>by
  by_cases e2:m=k
  ·subst e2;exact e
  exact h.part m (by omega),h.uniq⟩
theorem CJ.set(h:CJ N N' xss bU b i k L Q)(hs:Sys N xss)(nL:Sys N' bU)(hl:bU.length=xss.length)(hi:i<Q.length)(hk:k<xss.length)(yj:gi L (gi (gl xss k) (gi Q i))<0):
 CJ N N' xss bU b i (k+1) (L.set (gi (gl xss k) (gi Q i)).toNat (gi (gl bU k) (gi L (gi Q i)))) (Q++ [gi (gl xss k) (gi Q i)]):=by
 obtain⟨hr,hv,hg,ht⟩:=h.at_ hs nL hl hi hk;have hlen:=h.len;generalize wN:gi (gl xss k) (gi Q i)=g at*;have zZ:∀x:Int,0<=x->gi (L.set g.toNat (gi (gl bU k) (gi L (gi Q i)))) x=if g=x then gi (gl bU k) (gi L (gi Q i))else gi L x:=fun x hx=>qK hg.1 (by omega) hx
 have qT:g∉Q:=fun hm=>by
  rcases h.val g hg.1 hg.2 with h1 | h1
  ·exact h1.2 hm
  omega
 have BU:∀x∈Q,gi (L.set g.toNat (gi (gl bU k) (gi L (gi Q i)))) x=gi L x:=fun x hx=>by
  rw [zZ x (h.dp x hx).1,aw (fun e=>qT (by rw [e];exact hx))]
 have DP:∀x:Int,0<=x->x<N->0<=gi L x->gi (L.set g.toNat (gi (gl bU k) (gi L (gi Q i)))) x=gi L x:=fun x hx eE h0=>by
  rcases h.val x hx eE with h1 | h1
  ·omega
  exact BU x h1.2
 have hQ:∀j:Nat,j<Q.length->gi (Q++ [g]) j=gi Q j:=fun j hj=>Bq (List.prefix_append _ _) hj
 have db:∀(m:Nat) (x:Int),m<xss.length->0<=x->x<N->0<=gi (gl xss m) x/\gi (gl xss m) x<N:=fun m x hm hx eE=> (hs (gl xss m) (by rw [cK hm];exact dH _)).2 x hx eE
 have F2:∀(m:Nat) (x:Int),m<xss.length->0<=x->x<N'->0<=gi (gl bU m) x/\gi (gl bU m) x<N':=fun m x hm hx eE=> (nL (gl bU m) (by rw [cK (by omega)];exact dH _)).2 x hx eE
 have q9:∀x∈Q,0<=gi L x/\gi L x<N':=fun x hx=>by
  have xb:=h.dp x hx;rcases h.val x xb.1 xb.2 with h1 | h1
  ·exact absurd hx h1.2
  exact h1.1
 have keep:∀(j m:Nat),j<Q.length->m<xss.length->gi L (gi (gl xss m) (gi Q j))=gi (gl bU m) (gi L (gi Q j))->gi (L.set g.toNat (gi (gl bU k) (gi L (gi Q i)))) (gi (gl xss m) (gi (Q++ [g]) j))=gi (gl bU m) (gi (L.set g.toNat (gi (gl bU k) (gi L (gi Q i)))) (gi (Q++ [g]) j)):=fun j m hj hm e=>by
  have wO:=gi_in hj;have Tz:=h.dp _ wO;have DJ:=q9 _ wO;have h1:=db m _ hm Tz.1 Tz.2;have h2:=F2 m _ hm DJ.1 DJ.2;rw [hQ j hj,BU _ wO,DP _ h1.1 h1.2 (by omega),e]
 refine⟨by rw [jK];exact h.len,fun x hx eE=>?_,?_,fun x hx=>?_,List.mem_append_left _ h.q0,?_,by rw [dI];omega,fun j hj m hm=>keep j m (by omega) hm (h.done j hj m hm),fun m hm=>?_,fun q hq eq x hx=>?_⟩
 ·rw [zZ x hx]
  by_cases e:g=x
  ·rw [ay e];exact .inr ⟨ht,by simp [e]⟩
  rw [aw e];rcases h.val x hx eE with h1 | h1
  ·exact .inl ⟨h1.1,by simp [h1.2];omega⟩
  exact .inr ⟨h1.1,List.mem_append_left _ h1.2⟩
 ·rw [List.nodup_append];exact⟨h.GH,by simp,fun a ha c hc e=>by simp at hc;subst hc;subst e;exact qT ha⟩
 ·rcases iR.1 hx with hx | hx
  ·exact h.dp x hx
  simp at hx;subst hx;exact hg
 ·rw [BU 0 h.q0];exact h.l0
 ·by_cases e:m=k
  ·subst e;rw [hQ i hi,BU _ (gi_in hi),wN,zZ g hg.1,ay rfl]
  by_cases DN:m<xss.length
  ·exact keep i m hi DN (h.part m (by omega))
  omega
 rcases iR.1 hx with hx | hx
 ·rw [BU x hx];exact h.uniq q hq eq x hx
 simp at hx;subst hx;have h1:=hq.tv k _ hk hr.1 hr.2;rw [zZ _ hg.1,ay rfl,h.uniq q hq eq _ (gi_in hi),<-h1,wN]
theorem CJ.none(h:CJ N N' xss bU b i k L Q)(hs:Sys N xss)(nL:Sys N' bU)(hl:bU.length=xss.length)(hi:i<Q.length)(hk:k<xss.length)(h0:¬gi L (gi (gl xss k) (gi Q i))<0)(bt:gi L (gi (gl xss k) (gi Q i))≠gi (gl bU k) (gi L (gi Q i))):∀q,wj N N' xss bU q->q 0=b->False:=fun q hq eq=>by
 obtain⟨hr,hv,hg,ht⟩:=h.at_ hs nL hl hi hk;rcases h.val _ hg.1 hg.2 with h1 | h1
 ·omega
 have e1:=h.uniq q hq eq _ h1.2;have e2:=h.uniq q hq eq _ (gi_in hi);have e3:=hq.tv k _ hk hr.1 hr.2;rw [<-e1,<-e2]at e3;exact bt e3
theorem CJ.next(h:CJ N N' xss bU b i xss.length L Q)(hi:i<Q.length):CJ N N' xss bU b (i+1) 0 L Q:=
 ⟨h.len,h.val,h.GH,h.dp,h.q0,h.l0,hi,fun j hj m hm=>by
  by_cases e:j=i
  ·subst e;exact h.part m hm
  exact h.done j (by omega) m hm,fun m hm=>by omega,h.uniq⟩
theorem CJ.end_(h:CJ N N' xss bU b i 0 L Q)(hM:bg xss)(hN:N=(gl xss 0).length)(nL:Sys N' bU)(hl:bU.length=xss.length)(hi:Q.length<=i):wj N N' xss bU (gi L)/\gi L 0=b:=by
 have hs:=hM.2.2.1.sys;have FE:=hM.2.1;rw [<-hN]at hs;have db:∀(m:Nat) (x:Int),m<xss.length->0<=x->x<N->0<=gi (gl xss m) x/\gi (gl xss m) x<N:=fun m x hm hx eE=> (hs (gl xss m) (by rw [cK hm];exact dH _)).2 x hx eE
 have F2:∀(m:Nat) (x:Int),m<xss.length->0<=x->x<N'->0<=gi (gl bU m) x/\gi (gl bU m) x<N':=fun m x hm hx eE=> (nL (gl bU m) (by rw [cK (by omega)];exact dH _)).2 x hx eE
 have da:∀x∈Q,∀m,m<xss.length->gi L (gi (gl xss m) x)=gi (gl bU m) (gi L x):=fun x hx m hm=>by
  obtain⟨j,hj,rfl⟩:=fV.1 hx;have:=h.done j (by omega) m hm
  rwa [cd hj]at this
 have q9:∀x∈Q,0<=gi L x/\gi L x<N':=fun x hx=>by
  have xb:=h.dp x hx;rcases h.val x xb.1 xb.2 with h1 | h1
  ·exact absurd hx h1.2
  ·exact h1.1
 have dO:∀y,Reach xss 0 y->y∈Q:=by
  intro y hy
  induction hy with
  | refl=>exact h.q0
  | step _ hm ih=>
   obtain⟨m,DN,rfl⟩:=fV.1 hm;have hr:=h.dp _ ih;have hv:=q9 _ ih;have e:=da _ ih m DN;have h1:=db m _ DN hr.1 hr.2;have h2:=F2 m _ DN hv.1 hv.2;rw [cK DN]at e h1;rcases h.val _ h1.1 h1.2 with h3 | h3
   ·omega
   ·exact h3.2
 have hQ:∀x:Int,0<=x->x<N->x∈Q:=fun x hx eE=>dO x (hM.all hx (by omega))
 exact⟨⟨fun x hx eE=>q9 x (hQ x hx eE),fun m x hm hx eE=>da x (hQ x hx eE) m hm⟩,h.l0⟩
end
end
section
open Go.RowKit
theorem ZV(A:aj)(n c:Nat)(rs:List aQ)(xss:ah)(D:aj)(cD:Nat)(rt:List aQ)(bU:ah)(N:Nat)(b:Int)(w:aa)(hR:bz w A n rs xss)(hT:bz w D n rt bU)(hM:bg xss)(hY:bg bU)(hN:N=(gl xss 0).length)(xY:N=(gl bU 0).length)(h0:0<=b)(h1:b<N):
 aN prog 223 [.agg #[.slice A n c],.agg #[.slice D n cD],ak b] w (fun v w'=> (∃a c' L,v= .slice (some a) N c'/\wj N N xss bU (gi L)/\gi L 0=b/\St w w' [az 2 (some a) N c' L])\/(v= .slice none 0 0/\(∀q,wj N N xss bU q->q 0=b->False)/\St w w' [])):=by
 have hn:=hM.1;have FE:=hM.2.1;have dG:=hR.len;have hs:=hM.2.2.1.sys;rw [<-hN]at hs;have nL:=hY.2.2.1.sys;rw [<-xY]at nL;have rY:=hT.len;have hl:bU.length=xss.length:=by omega
 have hrt:∀k:Int,0<=k->k<n->(rg rt k).n=N:=fun k hk eM=>by
  have h1:=hT.ny hk eM;have h2:=(hY.2.2.1.at_ (k:=k.toNat) (by omega)).1;rw [Int.toNat_of_nonneg hk]at h2;omega
 have iS:∀k:Int,0<=k->k<n->(rg rs k).n=N:=fun k hk eM=>by
  have h1:=hR.ny hk eM;have h2:=(hM.2.2.1.at_ (k:=k.toNat) (by omega)).1;rw [Int.toNat_of_nonneg hk]at h2;omega
 have mL:=iS 0 (by omega) (by omega);refine bI func223 O ntmps223 O (du O) (bc O (ik (St.refl w) O O ?_));intro Ab w1 aE;refine ik aE O O fun Ac w2 aD=>ar O (aL (Ef Ab A n c _ _ (aD.rd 1 O) O) O ?_);rintro _ w2 ⟨rfl,rfl⟩;refine aL (Ef Ac D n cD _ _ (aD.rd 0 O) O) O ?_;rintro _ w2 ⟨rfl,rfl⟩;refine aI O (oM O (fun h=>h O) (aG O (dV aD O O O ?_)));intro A1 w3 aM;refine aL (vq Ab A n c rs xss _ _ (aM.rd 2 O) O (aM.bS hR) (by omega)) O ?_;rintro _ w3 ⟨rfl,rfl⟩;rw [mL];refine aL (Hq A1 1 (-1) N _ (aM.bF 0 O) (by omega)) O ?_;rintro _ w4 ⟨A5,rfl,ax⟩;have aU:St w w4 [az 2 A5 N N (List.replicate N (-1)),Bx 24 1 Ac [.slice D n cD],Bx 24 1 Ab [.slice A n c]]:=(aM.call ax).sub (List.Sublist.cons_cons _ (List.sublist_cons_self _ _));refine ar O (aF (aU.bF 0 O).2 O (lu 0 aU O O O (by omega) ?_));intro w5 aV;refine ar O (dV aV O O O ?_);intro A6 w6 aZ;have aZ:St w w6 [az 2 A6 ([(0:Int)].length - 0) 1 ([(0:Int)].drop 0),az 2 A5 N N ((List.replicate N (-1)).set 0 b),Bx 24 1 Ac [.slice D n cD],Bx 24 1 Ab [.slice A n c]]:=aZ;refine aI O (Cd.loop (α:=Nat×aj×Nat×ai×ai) (fun z=> [(3,.pointer Ab),(4,.pointer Ac),(7,.slice A5 N N),(8,.slice z.2.1 (z.2.2.2.2.length - z.1) z.2.2.1)]) (fun z w'=>St w w' [az 2 z.2.1 (z.2.2.2.2.length - z.1) z.2.2.1 (z.2.2.2.2.drop z.1),az 2 A5 N N z.2.2.2.1,Bx 24 1 Ac [.slice D n cD],Bx 24 1 Ab [.slice A n c]]/\CJ N N xss bU b z.1 0 z.2.2.2.1 z.2.2.2.2) (fun z=>N+1 - z.1) (0,A6,1,(List.replicate N (-1)).set 0 b,[0]) (alH O) ⟨aZ,CJ.init (by omega) h0 h1⟩ ?_);rintro⟨i,bT,eh,L,Q⟩ e w7 ⟨a6,hC⟩;dsimp only at a6 hC|-;have wV:Q.length<=N:=qA hC.GH hC.dp;have hle:=hC.le;refine bc O (bk O O (aI O ?_));refine aR _ O (fun h3=>?_) (fun h3=>?_)
 ·have dt:i<Q.length:=by omega
  have hQ:=a6.bF 0 O;refine aG O (aF hQ.2 O (bh hQ O ?_));rw [RW];refine ar O (aW (a6.rd 3 O) O (a8 (a6.rd 3 O) O ?_));refine bk O O (aI O ?_);refine Cd.loop (α:=Nat×aj×Nat×ai×ai) (fun z=> [(3,.pointer Ab),(4,.pointer Ac),(7,.slice A5 N N),(8,.slice z.2.1 (z.2.2.2.2.length - i) z.2.2.1),(9,ak (gi Q i)),(33,.slice A n c),(34,ak n),(35,ak (z.1:Int))]) (fun z w'=>St w w' [az 2 z.2.1 (z.2.2.2.2.length - i) z.2.2.1 (z.2.2.2.2.drop i),az 2 A5 N N z.2.2.2.1,Bx 24 1 Ac [.slice D n cD],Bx 24 1 Ab [.slice A n c]]/\CJ N N xss bU b i z.1 z.2.2.2.1 z.2.2.2.2/\z.1<=n/\Q<+:z.2.2.2.2) (fun z=>n - z.1) (0,bT,eh,L,Q) (alH O) ⟨a6,hC,bm _,List.prefix_rfl⟩ ?_;rintro⟨k,dL,gn,L',Q'⟩ e w8 ⟨bL,xT,hk,pf⟩;dsimp only at bL xT hk pf|-;have sR:=pf.length_le;have hql8:Q'.length<=N:=qA xT.GH xT.dp;have DW:gi Q' i=gi Q i:=Bq pf dt;have L8:=bL.bS hR;have eK:=bL.bS hT;refine b8 O (aR _ O (fun h4=>?_) (fun h4=>?_))
  ·have eM:k<xss.length:=by omega
   have MI:i<Q'.length:=by omega
   obtain⟨a1,a2,a3,a4⟩:=xT.at_ hs nL hl MI eM;rw [DW]at a1 a2 a3 a4;have cJ:=L8.at_ (i:=(k:Int)) (by omega) (by omega);have Ue:=eK.at_ (i:=(k:Int)) (by omega) (by omega);have hrtk:=hrt (k:Int) (by omega) (by omega);have jG:=iS (k:Int) (by omega) (by omega);have SD:=bL.bF 1 O;refine aG O (alp L8.top.2 O O O (by omega) h4 (b6 L8.top O (aI O ?_)));refine eB [xS ((rg rs k).a) ((rg rs k).n) ((rg rs k).c),xI ((gi Q i)),xP (aB ((rg rs k).a) ((gi Q i)).toNat),xI (gi (gl xss k) ((gi Q i))),xP (aB (Ac) 0),xS (D) (n) (cD),xI ((k:Int)),xP (aB (D) ((k:Int)).toNat),xS ((rg (rt) ((k:Int))).a) ((rg (rt) ((k:Int))).n) ((rg (rt) ((k:Int))).c),xS (A5) (N) (N),xI ((gi Q i)),xP (aB (A5) ((gi Q i)).toNat),xI (gi (L') ((gi Q i))),xP (aB ((rg (rt) ((k:Int))).a) (gi (L') ((gi Q i))).toNat),xI (gi (gl bU k) (gi (L') ((gi Q i)))),xI (gi (gl xss k) ((gi Q i))),xI (gi (gl bU k) (gi (L') ((gi Q i))))] O (eQ O) ?_ ?_
   ·exact⟨Dr O,Dr O,fun _ _ hb _ _=>aF (cJ.aq hb).2 O Az,fun _ _ hb _ _=>bh (cJ.aq hb) O Az,fun _ _ hb _ _=>aW ((bL.rd 2 O).below hb) O Az,fun _ _ hb _ _=>a8 ((bL.rd 2 O).below hb) O Az,Dr O,fun _ _ hb _ _=>aF (eK.top.aq hb).2 O Az,fun _ _ hb _ _=>b6 (eK.top.aq hb) O Az,Dr O,Dr O,fun _ _ hb _ _=>aF (SD.aq hb).2 O Az,fun _ _ hb _ _=>bh (SD.aq hb) O Az,fun _ _ hb _ _=>aF (Ue.aq hb).2 O Az,fun _ _ hb _ _=>bh (Ue.aq hb) O Az,Dr O,Dr O,av⟩
   intro u w9 mG _;have a7:=bL.aq mG;have FB:=a7.bF 1 O;refine iV O (alp FB.2 O O O a3.1 a3.2 (bh FB O (aI O ?_)));refine aR _ O (fun h5=>?_) (fun h5=>?_)
   ·have TN:=xT.set hs nL hl MI eM (by rw [DW];exact h5);rw [DW]at TN;refine aG O (alp FB.2 O O O a3.1 a3.2 (lu 1 a7 O O O (by omega) ?_));intro dQ bO;refine ar O (dV bO O O O ?_);intro iO eI dB;refine fp 1 dB O (dB.bF 0 O) O O O fun Ez Qz gL fB=>ar O (aJ O (aT O (tQ ?_)));have e2:(Q'++ [gi (gl xss k) (gi Q i)]).length - i=Q'.length - i+1:=by simp;omega
    have e3:(Q'++ [gi (gl xss k) (gi Q i)]).drop i=Q'.drop i++ [gi (gl xss k) (gi Q i)]:=List.drop_append_of_le_length (by omega);refine⟨(k+1,Ez,Qz,L'.set (gi (gl xss k) (gi Q i)).toNat (gi (gl bU k) (gi L' (gi Q i))),Q'++ [gi (gl xss k) (gi Q i)]),by show n - (k+1)<n - k;omega,⟨O,O,O,by show Value.slice _ _ _= .slice _ ((Q'++ [gi (gl xss k) (gi Q i)]).length - i) _;rw [e2],O,O,O,O,av⟩,?_,TN,by show k+1<=n;omega,pf.trans (List.prefix_append _ _)⟩;show St w gL [az _ Ez ((Q'++ [gi (gl xss k) (gi Q i)]).length - i) Qz ((Q'++ [gi (gl xss k) (gi Q i)]).drop i),_,_,_];rw [e2,e3];exact fB.tail
   refine aG O (alp FB.2 O O O a3.1 a3.2 (bh FB O (aI O ?_)));refine aR _ O (fun h6=>?_) (fun h6=>?_)
   ·refine eF O (fD (e6 (fD (e6 ?_))));refine gK O ?_;exact .inr ⟨O,xT.none hs nL hl MI eM (by rw [DW];exact h5) (by rw [DW];exact h6),a7.none⟩
   refine aG O (aJ O (aT O (tQ ?_)));exact⟨(k+1,dL,gn,L',Q'),by show n - (k+1)<n - k;omega,(alH O),a7,xT.same (by rw [DW];exact jl.1 h6),by show k+1<=n;omega,pf⟩
  refine bw O (bA (dh O ?_));have zQ:k=xss.length:=by omega
  rw [zQ]at xT;refine EI O O O (by omega) ?_;have a7:=bL.QN (i:=0) O (show 1<=Q'.length - i by omega);have e2:Q'.length - i - 1=Q'.length - (i+1):=by omega
  have e3:(Q'.drop i).drop 1=Q'.drop (i+1):=by rw [List.drop_drop]
  refine aT O (tQ ?_);refine⟨(i+1,cutAt dL gn 1,gn - 1,L',Q'),by show N+1 - (i+1)<N+1 - i;omega,⟨O,O,O,by show Value.slice _ _ _= .slice _ _ _;rw [<-e2];rfl,av⟩,?_,xT.next (by omega)⟩;show St w w8 [az _ (cutAt dL gn 1) (Q'.length - (i+1)) (gn - 1) (Q'.drop (i+1)),_,_,_];rw [<-e2,<-e3];exact a7
 refine bw O (bA (ij O ?_));refine gK O ?_;have hE:=hC.end_ hM hN nL hl (by omega);obtain⟨a,ha⟩:=a6.isSome (i:=1) rfl (by omega);subst ha;exact .inl ⟨a,N,L,O,hE.1,hE.2,a6.tail.sub (List.Sublist.cons_cons _ (List.nil_sublist _))⟩
theorem aeA{A:aj}:(!A.isNone)=decide (A≠none):=by cases A<;>simp
theorem ZW(A:aj)(n c:Nat)(rs:List aQ)(xss:ah)(D:aj)(cD:Nat)(rt:List aQ)(bU:ah)(N:Nat)(w:aa)(hR:bz w A n rs xss)(hT:bz w D n rt bU)(hM:bg xss)(hY:bg bU)(hN:N=(gl xss 0).length)(xY:N=(gl bU 0).length):
 aN prog 187 [.agg #[.slice A n c],.agg #[.slice D n cD]] w (fun v w'=>∃A' c',∃rs':List aQ,∃ps:ah,v= .slice A' ps.length c'/\rs'.length=ps.length/\ps.length<=N/\(∀x∈rs',x.a≠none)/\(ps.length=0->∀q,wj N N xss bU q->False)/\St w w' (aO 32 2 A' ps.length c' rs' ps)):=by
 have hn:=hM.1;have FE:=hM.2.1;have dG:=hR.len;have rY:=hT.len;have mL:(rg rt 0).n=N:=by rw [xY];exact(hT.ny (by omega) (by omega)).symm
 refine bI func187 O ntmps187 O (du O) (bc O (ik (St.refl w) O O ?_));intro Ab w1 aE;refine ik aE O O fun Ac w2 aD=>ar O (aL (vq Ac D n cD rt bU _ _ (aD.rd 0 O) O (aD.bS hT) (by omega)) O ?_);rintro _ w2 ⟨rfl,rfl⟩;rw [mL];have aM:=(aD.nil 32).perm (ku (l₁:=[_]) (l₂:=[_,_]));refine aI O ?_;refine Cd.loop (α:=Nat×aj×Nat×List aQ×ah) (fun z=> [(2,.pointer Ab),(3,.pointer Ac),(5,.slice z.2.1 z.2.2.2.2.length z.2.2.1),(8,ak N),(9,ak (z.1:Int))]) (fun z w'=>St w w' (Bx 24 1 Ac [.slice D n cD]::Bx 24 1 Ab [.slice A n c]::aO 32 2 z.2.1 z.2.2.2.2.length z.2.2.1 z.2.2.2.1 z.2.2.2.2)/\z.1<=N/\z.2.2.2.1.length=z.2.2.2.2.length/\z.2.2.2.2.length<=z.1/\(∀x∈z.2.2.2.1,x.a≠none)/\(z.2.2.2.2.length=0->∀q,wj N N xss bU q->¬q 0<z.1)) (fun z=>N - z.1) (0,none,0,[],[]) ⟨rfl,rfl,rfl,rfl,rfl,av⟩ ⟨aM,bm _,rfl,bB _,(by intro p hp;cases hp),(by intro _ q hq h;have:=(hq.dp 0 (by omega) (by omega)).1;have h:q 0< ((0:Nat):Int):=h;omega)⟩ ?_;rintro⟨f,A3,c3,rs',ps⟩ e w3 ⟨aM,hf,b5,sR,IG,dO⟩;dsimp only at aM hf b5 sR IG dO|-;refine b8 O (aR _ O (fun h1=>?_) (fun h1=>?_))
 ·refine aG O (alC 0 (aM.rd 1 O) O (alC 0 (aM.rd 0 O) O (ar O (aL (ZV A n c rs xss D cD rt bU N f _ (aM.bS hR) (aM.bS hT) hM hY hN xY (by omega) (by omega)) O ?_))));intro v w4 hv;obtain⟨A4,n4,c4,rfl,hw⟩:∃A4 n4 c4,v= .slice A4 n4 c4/\((A4≠none/\N=n4/\∃L,wj N N xss bU (gi L)/\gi L 0=f/\St w3 w4 [az 2 A4 N c4 L])\/(¬A4≠none/\(∀q,wj N N xss bU q->q 0=f->False)/\St w3 w4 [])):=by
   rcases hv with⟨a,c',L,rfl,h1,h2,h3⟩ | ⟨rfl,h1,h2⟩
   ·exact⟨_,_,_,O,.inl ⟨by simp,O,L,h1,h2,h3⟩⟩
   exact⟨_,_,_,O,.inr ⟨by simp,h1,h2⟩⟩
  refine ar O (PQ O O O ?_);rw [aeA];refine aI O (aR _ O (fun h2=>?_) (fun h2=>?_))
  ·obtain⟨bt,rfl,L,hL,pK,ax⟩:=hw.resolve_right (fun h=>h.1 h2);have aU:=aM.call ax;refine aG O (mr aU O O O ?_);intro A7 w5 aV;refine oe 4 aV O (aV.ie 0 O) O O O (by omega) (by omega) O ?_;intro A8 c8 w6 aZ;have aZ:St w w6 (az 2 A4 N c4 L::Bx 24 1 Ac [.slice D n cD]::Bx 24 1 Ab [.slice A n c]::b9 32 A8 (ps.length+1) c8 (rs'++ [⟨A4,N,c4⟩])::dq 2 rs' ps):=aZ.tail;have wM:(ps++ [L]).length=ps.length+1:=by simp
   refine ar O (aJ O (aT O (tQ ?_)));refine⟨(f+1,A8,c8,rs'++ [⟨A4,N,c4⟩],ps++ [L]),by show N - (f+1)<N - f;omega,⟨O,O,by show Value.slice _ _ _= .slice _ _ _;rw [wM],O,O,av⟩,?_,by show f+1<=N;omega,by simp [b5],by show(ps++ [L]).length<=f+1;omega,fun x hx=>?_,fun h0=>absurd (show(ps++ [L]).length=0 from h0) (by simp)⟩
   ·show St w w6 (_::_::b9 32 A8 (ps++ [L]).length c8 (rs'++ [⟨A4,N,c4⟩])::dq 2 (rs'++ [⟨A4,N,c4⟩]) (ps++ [L]));rw [wM,AH b5];exact aZ.perm (ku (l₁:=[_]) (l₂:=_::_::_::dq 2 rs' ps))
   rcases iR.1 hx with hx | hx
   ·exact IG x hx
   simp at hx;subst hx;exact bt
  obtain⟨_,iF,ax⟩:=hw.resolve_left (fun h=>h2 h.1);have aU:=aM.aq ax.below;refine aG O (aJ O (aT O (tQ ?_)));exact⟨(f+1,A3,c3,rs',ps),by show N - (f+1)<N - f;omega,(alH O),aU,by show f+1<=N;omega,b5,by show ps.length<=f+1;omega,IG,fun h0 q hq gB=>by
   have gB:q 0< ((f+1:Nat):Int):=gB
   by_cases e:q 0=f
   ·exact(iF q hq e).elim
   exact dO h0 q hq (by omega)⟩
 refine bw O (bA (ij O ?_));refine gK O ?_;exact⟨A3,c3,rs',ps,O,b5,by omega,IG,fun h0 q hq=>dO h0 q hq (by have:=(hq.dp 0 (by omega) (by omega)).2;omega),aM.tail.tail⟩
theorem aeG(A:aj)(n c:Nat)(rs:List aQ)(xss:ah)(D:aj)(cD:Nat)(rt:List aQ)(bU:ah)(N:Nat)(φ:Int->Int)(w:aa)(hR:bz w A n rs xss)(hT:bz w D n rt bU)(hM:bg xss)(hY:bg bU)(hN:N=(gl xss 0).length)(xY:N=(gl bU 0).length)(hI:gM N xss bU φ):
 aN prog 127 [.agg #[.slice A n c],.agg #[.slice D n cD]] w (fun v w'=>∃a m c',v= .slice (some a) m c'/\St w w' []):=by
 have hn:=hM.1;have FE:=hM.2.1;have dG:=hR.len;have rY:=hT.len;have mL:(rg rs 0).n=N:=by rw [hN];exact(hR.ny (by omega) (by omega)).symm
 have kG:(rg rt 0).n=N:=by rw [xY];exact(hT.ny (by omega) (by omega)).symm
 refine bI func127 O ntmps127 O (du O) (bc O (ik (St.refl w) O O ?_));intro Ab w1 aE;refine ik aE O O fun Ac w2 aD=>ar O (aL (vq Ab A n c rs xss _ _ (aD.rd 1 O) O (aD.bS hR) (by omega)) O ?_);rintro _ w2 ⟨rfl,rfl⟩;rw [mL];refine aL (vq Ac D n cD rt bU _ _ (aD.rd 0 O) O (aD.bS hT) (by omega)) O ?_;rintro _ w2 ⟨rfl,rfl⟩;rw [kG];refine aI O (oM O (fun h=>h O) (aG O (alC 0 (aD.rd 1 O) O (alC 0 (aD.rd 0 O) O (aL (ZW A n c rs xss D cD rt bU N _ (aD.bS hR) (aD.bS hT) hM hY hN xY) O ?_)))));rintro _ w3 ⟨A3,c3,rs',ps,rfl,b5,sR,bt,iF,ax⟩;have aM:=aD.call ax;have kl:¬ps.length=0:=fun h=>iF h φ hI.Z7
 refine ar O (bk O O (aI O ?_));refine oM O (by omega) (aG O (aF (aM.ie 0 O).2 O (b6 (aM.ie 0 O) O (bM O (gK O ?_)))));have hx:=bt (rg rs' 0) (by unfold rg;rw [List.getD_eq_getElem?_getD,List.getElem?_eq_getElem (show(0:Int).toNat<rs'.length by simp;omega)];exact List.getElem_mem _);obtain⟨a,ha⟩:=Option.ne_none_iff_exists'.1 hx;rw [ha];exact⟨a,_,_,O,aM.none⟩
theorem XF(A:aj)(n c:Nat)(rs:List aQ)(xss:ah)(D:aj)(cD:Nat)(rt:List aQ)(bU:ah)(N:Nat)(φ:Int->Int)(w:aa)(hR:bz w A n rs xss)(hT:bz w D n rt bU)(hM:bg xss)(hY:bg bU)(hN:N=(gl xss 0).length)(xY:N=(gl bU 0).length)(hI:gM N xss bU φ)(vF:n<=c/\c<=9223372036854775807)(ni:n<=cD/\cD<=9223372036854775807):
 aN prog 66 [.agg #[.slice A n c],.agg #[.slice D n cD]] w (fun v w'=>v= .tuple #[.bool true,ak 0]/\St w w' []):=by
 refine bI func66 O ntmps66 O (vZ O) (bc O (ik (St.refl w) O O ?_));intro Ab w1 aE;refine ik aE O O fun Ac w2 aD=>ar O (alC 0 (aD.rd 1 O) O (aL (Ch A n c rs xss _ (aD.bS hR) vF.1 vF.2) O ?_));rintro _ w3 ⟨rfl,ax⟩;have aM:=aD.aq ax.below
 first | refine eZ rfl rfl ?_ | refine fY rfl rfl ?_
 refine ar O (cT 9 O (fun h=>absurd hM h) (fun _=>?_));refine au O (alC 0 (aM.rd 0 O) O (au O (aL (Ch D n cD rt bU _ (aM.bS hT) ni.1 ni.2) O ?_)));rintro _ w4 ⟨rfl,ax⟩;have aU:=aM.aq ax.below;refine au O ?_
 first | refine eZ rfl rfl ?_ | refine fY rfl rfl ?_
 refine aI O (oM O (fun h=>absurd hY h) (aG O (alC 0 (aU.rd 1 O) O (alC 0 (aU.rd 0 O) O (aL (aeG A n c rs xss D cD rt bU N φ _ (aU.bS hR) (aU.bS hT) hM hY hN xY hI) O ?_)))));rintro _ w5 ⟨a,m,c',rfl,ax⟩;have aV:=aU.aq ax.below;refine PQ O O O (bM O (yL O O ?_));exact⟨O,aV.none⟩
end
end Go.Proofs.YtopgfgdgfjddpaaGreatDoor.Vc
