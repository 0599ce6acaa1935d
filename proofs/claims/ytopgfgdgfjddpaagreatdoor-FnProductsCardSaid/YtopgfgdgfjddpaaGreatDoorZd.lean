/-
  The texts Srt, C3, C4, C5, C6, C7, Rpl, C8, Prs, F2, Uti, D1 in one. Conditions: as each part states them.
-/
import Derived.Test.YtopgfgdgfjddpaaGreatDoorLay
import Derived.Shelf.SortM.Plain
import Derived.Test.YtopgfgdgfjddpaaGreatDoorZc
import Derived.Test.YtopgfgdgfjddpaaGreatDoorInst
import Derived.Test.YtopgfgdgfjddpaaGreatDoorZb
import Derived.Test.YtopgfgdgfjddpaaGreatDoorZa
namespace Go.Proofs.YtopgfgdgfjddpaaGreatDoor.Vc
section
open Go.RowKit Go.Sort Tryz
variable{w:World}
theorem aai{g n off:Nat}{os:Array Obj}{cur:Array Value}{e:TypeId}{fr:Nat×Nat}(d:Array Int)(hb:w.heap[g]?=some (.cells cur e fr)):(Go.Sort.grow (putRow (Value.int .i64) (Sort.ahead w n) g off d) os).heap[g]?=some (.cells (putCells (Value.int .i64) off d cur) e fr):=by
 have hg:g<w.heap.size:=(Array.getElem?_eq_some_iff.1 hb).1;rw [heap_grow_old _ _ (by simpa using hg)];simp [putRow,mapBlock,Sort.ahead,Array.getElem?_modify,hb,onCells]
theorem YQ{g n off:Nat}{os:Array Obj}(d:Array Int):Fu w (Go.Sort.grow (putRow (Value.int .i64) (Sort.ahead w n) g off d) os) (some g):=by
 refine⟨⟨O,O,O,by simp,fun k hk bt=>?_⟩,Nat.le_add_right _ _⟩;rw [heap_grow_old _ _ (by simpa using hk)];have:g≠k:=fun e=>bt (by rw [e])
 simp [putRow,mapBlock,Sort.ahead,Array.getElem?_modify,this]
theorem af6{w0:World}{ks:List Ck}(i:Nat){t:TypeId}{A:aiC}{n c:Nat}{xs:List Int}(hS:St w0 w ks)(hk:ks[i]?=some (ah t A n c xs))(h0:0<n)(hn:n≤1000000000):
 aA prog 159 [.slice A n c] w (fun v w'=>v= .tuple #[]∧St w0 w' (ks.set i (ah t A n c (nJ xs)))):=by
 obtain⟨h1,h2,h3,h4⟩:=hS.tp hk (tS _);have hl:xs.length=n:=hS.CE i hk;have h2:n≤c:=h2;rcases h4 with⟨_,pO⟩ | ⟨g,o,cur,hA,hg,hh,hs,hc⟩
 ·have pO:c=0:=pO;omega
 have hA:A=some ⟨g,o,none⟩:=hA;have hs:o+c≤cur.size:=hs;have hc:∀j,j<n→cur[o+j]?=(xs.map (Value.int .i64))[j]?:=hc;subst hA;subst hl;have hH:Holds (Value.int .i64) w g o xs.toArray:=fun j hj=>by
  have kF:j<xs.length:=by simpa using hj
  refine⟨?_,by simp [World.frozen?,hh]⟩;simp only [World.cell?,hh];simp only [Option.isSome_none,Bool.false_eq_true,if_false];rw [hc j kF];simp [kF]
 have fY:g<w.heap.size:=(Array.getElem?_eq_some_iff.1 hh).1;have key:=AnyM.slices_Sort_int SY g o c xs w hH fY (by omega);refine Calls.mono key fun x w' ⟨hx,m,os,hw⟩=> ⟨_,hx,O,?_⟩
 subst hw;have RX:(nJ xs).length=xs.length:=(MD xs).length_eq;refine hS.turn hk O O (YQ _) (.rI (tS _) ⟨by simp [RX],h2,h3,.inr ⟨g,o,_,O,hg,aai _ hh,by simp only [putCells,Array.size_mapIdx];exact hs,fun j hj=>?_⟩⟩);have hj:j<xs.length:=hj;show(putCells (Value.int .i64) o (nJ xs).toArray cur)[o+j]?=((nJ xs).map (Value.int .i64))[j]?;have KM:o+j<cur.size:=by have:xs.length≤c:=h2;omega
 simp [putCells,KM,RX,hj]
end
section
open Go.RowKit Tryz
theorem MA{α:Type}{l:List α}{i:Nat}{x:α}(h:l[i]?=some x):l.set i x=l:=by
 apply List.ext_getElem?;intro j;rw [oI]
 split
 ·rename_i e;subst e;rw [aj (ia.1 h).1,h]
 rfl
theorem Rd.one{w:World}{A:aiC}{n:Nat}{f:Nat→Value}(h:Rd w A (n+1) f):Rd w A 1 (fun _=>f 0):=fun j hj=>by
 obtain rfl:j=0:=by omega
 exact h 0 (by omega)
def marks(k:Int)(n:Nat):List Int:=(List.range n).map fun j:Nat=>k+ (j:Int)
theorem VX{w0 w:World}{t1 t2:TypeId}{A:aiC}{n c:Nat}{rs:List aG}{xss:aiB}{pre:List Ck}(h:St w0 w (pre++aE t1 t2 A n c rs xss)):St w0 w (pre++ (aE t1 t2 A n c rs xss++ [])):=by rwa [fg]
def part(T:List Int)(m:Nat):List Int:=T.take m++List.replicate (T.length - m) 0
end
section
open Tryz
structure Ns where
 f:Nat
 k:Nat
 B:aiC
 n:Nat
 c:Nat
 rs:List aG
 xss:aiB
end
section
open Go.RowKit Tryz
section
variable {P:Program} {N:Nat} {ops:Array Oper} {K:Env→World→Prop} {rest:List Oper} {e:Env} {w:World} {d:Nat} {ty:TypeId} {pos:String} {af:Array Edge}
theorem VI{F:FuncId}{x:Operand}{v1:Value}(hx:ev e x=v1)(hb:Nat.blt d N=true)(hK:aa P N ops K rest (a7 e d (.func (.func F) #[] #[v1])) w):
 aa P N ops K (⟨some d,.makeFunc (.func F) #[] #[x],ty,pos,af,none⟩::rest) e w:=
 .val (by simp [execOp,Instr.makeFunc,hx]) hb hK
end
theorem YF(l:List Int)(i:Nat):gi (l.drop i) 0=gi l (i:Int):=by simp [gi,cJ,List.getElem?_drop]
theorem VV{w0 w:World}{ks:List Ck}{i:Nat}{t:TypeId}{A:aiC}{n c l:Nat}{xs:List Int}(hS:St w0 w ks)(hk:ks[i]?=some (ah t A n c xs))(hl:l≤n):St w0 w (ks.set i (ah t (cutAt A c l) (n - l) (c - l) (xs.drop l))):=by
 have dA:=hS.CE i hk;obtain⟨h1,h2,h3,h4⟩:=hS.tp hk (tS _);have h2:n≤c:=h2;have h3:c≤maxLen:=h3;rcases h4 with⟨hA,pO⟩ | ⟨g,o,cur,hA,hg,hh,hs,hc⟩
 ·have hA:A=Option.none:=hA;have pO:c=0:=pO;subst hA pO;obtain rfl:n=0:=by omega
  obtain rfl:l=0:=by omega
  obtain rfl:=s7 dA;have e:cutAt Option.none 0 0=Option.none:=O;rw [e];show St w0 w (ks.set i (ah t Option.none 0 0 []));rw [MA hk];exact hS
 have hA:A=some ⟨g,o,Option.none⟩:=hA;have hs:o+c≤cur.size:=hs;have hh:w.heap[g]?=some (.cells cur t (0,0)):=hh;have hc:∀j,j<n→cur[o+j]?=(xs.map (Value.int .i64))[j]?:=hc;subst hA;have tC:∃o',cutAt (some ⟨g,o,Option.none⟩) c l=some ⟨g,o',Option.none⟩∧o'+ (c - l)≤cur.size∧(0<n - l→o'=o+l):=by
  unfold cutAt
  split
  ·exact⟨o,O,by omega,fun h=>by omega⟩
  exact⟨o+l,by simp [aq,Bg],by omega,fun _=>O⟩
 obtain⟨o',e1,e2,e3⟩:=tC;refine hS.turn hk O (by simp [Ck.ie,e1]) ⟨⟨O,O,O,a8 _,fun _ _ _=>O⟩,a8 _⟩ (.rI (tS _) ⟨by simp [dA],by show n - l≤c - l;omega,by show c - l≤maxLen;omega,.inr ⟨g,o',cur,e1,hg,hh,e2,fun j hj=>?_⟩⟩);have hj:j<n - l:=hj;show cur[o'+j]?=((xs.drop l).map (Value.int .i64))[j]?;rw [e3 (Nat.zero_lt_of_lt hj),Nat.add_assoc,hc (l+j) (Nat.add_lt_of_lt_sub' hj)];simp [List.getElem?_drop]
theorem CB{N:Nat}{xss:aiB}(hs:Sys N xss)(dT:rV N xss):∀i,i≤N→(∀x:Int,0≤x→x<N→gi (bz N xss i).1 x= -1∨(0≤gi (bz N xss i).1 x∧gi (bz N xss i).1 x< (bz N xss i).2))∧∀v:Int,0≤v→v< (bz N xss i).2→∃x:Int,0≤x∧x<N∧gi (bz N xss i).1 x=v
 | 0,_=> ⟨fun x h0 h1=> .inl (by rw [show(bz N xss 0).1=List.replicate N (-1) from rfl,zm h0 h1]),fun v h0 h1=>by simp [bz]at h1;omega⟩
 | i+1,hi=>by
  obtain⟨h1,h2⟩:=CB hs dT i (by omega)
  by_cases hp:0≤gi (bz N xss i).1 i
  ·rw [CC hp];exact⟨h1,h2⟩
  ·rw [zY hp];obtain⟨hg,sI,yp⟩:=vF hs (pt:=(i:Int)) (by omega) (by omega);have hc:=(yz N xss i).1;have Kw:∀x:Int,0≤x→gi (pX (bz N xss i).1 (bz N xss i).2 (fS N xss i)) x=if x∈fS N xss i then(bz N xss i).2 else gi (bz N xss i).1 x:=fun x hx=>x5 _ _ _ (qz N xss i) hg.range x hx
   have Kz:(i:Int)∈fS N xss i:=sI.subset (by simp);refine⟨fun x h0 hx=>?_,fun v h0 hv=>?_⟩
   ·rw [Kw x h0];dsimp only
    split
    ·exact .inr ⟨hc,by omega⟩
    ·rcases h1 x h0 hx with h | h
     ·exact .inl h
     ·exact .inr ⟨h.1,by omega⟩
   ·dsimp only at hv⊢
    by_cases e:v=(bz N xss i).2
    ·exact⟨i,by omega,by omega,by rw [Kw i (by omega),aj Kz,e]⟩
    ·obtain⟨x,sM,jg,hx⟩:=h2 v h0 (by omega);refine⟨x,sM,jg,?_⟩;rw [Kw x sM,ag (fun hm=>?_),hx];obtain⟨j,hj,uF⟩:=(zX hs i (by omega) x sM jg).1 (by rw [hx];exact h0);have Eg:=(yp x).1 hm;exact hp ((zX hs i (by omega) (i:Int) (by omega) (by omega)).2 ⟨j,hj,uF.trans (Reach.symm hs dT (by omega) (by omega) Eg)⟩)
theorem LK{N:Nat}{xss:aiB}(hs:Sys N xss)(dT:rV N xss)(x:Int)(h0:0≤x)(h1:x<N):0≤gi (bz N xss N).1 x∧gi (bz N xss N).1 x< (bz N xss N).2:=by
 have:=(zX hs N (a8 _) x h0 h1).2 ⟨x.toNat,by omega,by rw [Int.toNat_of_nonneg h0];exact .refl⟩;rcases(CB hs dT N (a8 _)).1 x h0 h1 with h | h
 ·omega
 exact h
def pM(xs:List Int):Int:=xs.foldl (fun o x=>if o≤x then x+1 else o) 0
theorem Ps(xs:List Int)(x:Int):pM (xs++ [x])=if pM xs≤x then x+1 else pM xs:=by
 unfold pM;rw [List.foldl_append]
 rfl
theorem Js:∀(m:Nat) (xs:List Int),xs.length=m→0≤pM xs∧(∀x∈xs,x<pM xs)∧(pM xs=0∨∃x∈xs,pM xs=x+1)
 | 0,xs,h=>by
  obtain rfl:=s7 h;exact⟨by simp [pM],(fun x hx=>by cases hx),.inl rfl⟩
 | m+1,xs,h=>by
  obtain⟨ys,y,rfl⟩:∃ys y,xs=ys++ [y]:=⟨xs.dropLast,xs.getLast (by intro e;rw [e]at h;simp at h),(List.dropLast_concat_getLast _).symm⟩;obtain⟨h1,h2,h3⟩:=Js m ys (by simpa using h);rw [Ps]
  split
  ·refine⟨by omega,fun x hx=>?_,.inr ⟨y,by simp,O⟩⟩;rcases iG.1 hx with hx | hx
   ·have:=h2 x hx;omega
   ·simp at hx;omega
  ·refine⟨h1,fun x hx=>?_,?_⟩
   ·rcases iG.1 hx with hx | hx
    ·exact h2 x hx
    ·simp at hx;omega
   ·rcases h3 with h3 | ⟨x,hx,jf⟩
    ·exact .inl h3
    ·exact .inr ⟨x,by simp [hx],jf⟩
theorem YR{N:Nat}{xss:aiB}(hs:Sys N xss)(dT:rV N xss)(hN:0<N):pM (bz N xss N).1=(bz N xss N).2:=by
 have hl:=qz N xss N;obtain⟨h1,h2,h3⟩:=Js _ (bz N xss N).1 rfl;have dq:∀x∈(bz N xss N).1,0≤x∧x< (bz N xss N).2:=fun x hx=>by
  obtain⟨k,hk,rfl⟩:=gJ.1 hx;rw [←bX hk];exact LK hs dT k (by omega) (by omega)
 have h0:=LK hs dT 0 (by omega) (by omega);obtain⟨x,sM,jg,hx⟩:=(CB hs dT N (a8 _)).2 ((bz N xss N).2 - 1) (by omega) (by omega);have hm:gi (bz N xss N).1 x∈(bz N xss N).1:=by
  have e:gi (bz N xss N).1 x=(bz N xss N).1[x.toNat]'(by omega):=by simp [gi,cJ,gf (show x.toNat< (bz N xss N).1.length by omega)]
  rw [e];exact dQ _
 have h4:=h2 _ hm;rcases h3 with h3 | ⟨y,hy,l8⟩
 ·omega
 have:=dq y hy;omega
def dd(xss:aiB)(i:Nat):List Int:=(bz (gl xss 0).length (xss.eraseIdx i) (gl xss 0).length).1
def ja(xss:aiB)(i:Nat):Int:=(bz (gl xss 0).length (xss.eraseIdx i) (gl xss 0).length).2
theorem Sys.erase{N:Nat}{xss:aiB}(h:Sys N xss)(i:Nat):Sys N (xss.eraseIdx i):=fun p hp=>h p (List.mem_of_mem_eraseIdx hp)
theorem rV.erase{N:Nat}{xss:aiB}(h:rV N xss)(i:Nat):rV N (xss.eraseIdx i):=fun p hp=>h p (List.mem_of_mem_eraseIdx hp)
theorem Gb(xss:aiB)(i:Nat):(dd xss i).length=(gl xss 0).length:=qz _ _ _
theorem ze(xss:aiB)(i:Nat):0≤ja xss i∧ja xss i≤(gl xss 0).length:=yz _ _ _
theorem BF{xss:aiB}(h:bL xss)(i:Nat)(f:Nat)(hf:f< (gl xss 0).length):0≤gi (dd xss i) f∧gi (dd xss i) f<ja xss i:=LK (h.2.2.1.sys.erase i) (h.2.2.1.inj.erase i) f (by omega) (by omega)
theorem Gc{xss:aiB}(h:bL xss)(i:Nat)(v:Int)(h0:0≤v)(h1:v<ja xss i):∃f:Nat,f< (gl xss 0).length∧gi (dd xss i) f=v:=by
 obtain⟨x,sM,jg,hx⟩:=(CB (h.2.2.1.sys.erase i) (h.2.2.1.inj.erase i) _ (a8 _)).2 v h0 h1;exact⟨x.toNat,by omega,by rw [Int.toNat_of_nonneg sM];exact hx⟩
theorem X5{xss:aiB}(h:bL xss)(i:Nat):pM (dd xss i)=ja xss i:=YR (h.2.2.1.sys.erase i) (h.2.2.1.inj.erase i) (by have:=h.2.1;omega)
theorem br.erase{w:World}{A:aiC}{n:Nat}{rs:List aG}{xss:aiB}(h:br w A n rs xss){i:Nat}(hi:i<n){A':aiC}(hT:jD w A' (n - 1) (rs.eraseIdx i)):br w A' (n - 1) (rs.eraseIdx i) (xss.eraseIdx i):=by
 have hl:=h.len;have bW:=h.top.1;have er:∀j,j<n - 1→(rs.eraseIdx i).getD j dE=rs.getD (if j<i then j else j+1) dE:=fun j hj=>by
  simp only [cJ,List.getElem?_eraseIdx];split<;>rfl
 have ex:∀j,j<n - 1→(xss.eraseIdx i).getD j []=xss.getD (if j<i then j else j+1) []:=fun j hj=>by
  simp only [cJ,List.getElem?_eraseIdx];split<;>rfl
 refine⟨hT,by rw [List.length_eraseIdx,aj (by omega),hl],fun j hj=>?_,fun j hj=>?_⟩
 ·rw [er j hj,ex j hj];exact h.row _ (by split<;>omega)
 rw [er j hj];exact h.cap _ (by split<;>omega)
theorem acC(A:aiC)(n c:Nat)(xs:List Int)(v:Int)(w:World)(hR:bS w A n xs)(hn:n≤9223372036854775807):
 aA prog 209 [.slice A n c,aiD v] w (fun r w'=> (∃i:Int,r=aiD i∧(0≤i↔v∈xs))∧w'=w):=by
 have dA:=hR.1;refine bk func209 O ntmps209 O (cK O) (bK O ?_);refine Cd.loop (α:=Nat) (fun k=> [(0,.slice A n c),(1,aiD v),(5,aiD (k:Int))]) (fun k w'=>w'=w∧k≤n∧∀j,j<k→gi xs (j:Nat)≠v) (fun k=>n - k) 0 ⟨O,O,O,ae⟩ ⟨O,aW _,fun j hj=>by omega⟩ ?_;rintro k e w ⟨rfl,hk,hK⟩;refine aQ O (aa.len O O (ay O ?_));refine aB _ O (fun h3=>?_) (fun h3=>?_)
 ·refine av O (aw hR.2 O O O (by omega) (by omega) (aT hR O (by omega) O O (ay O ?_)));refine aB _ O (fun h4=>?_) (fun h4=>?_)
  ·refine dN O (eZ (eE ?_));refine gP O ?_;exact⟨⟨(k:Int),O,⟨fun _=>by rw [←h4,bX (by omega)];exact dQ _,fun _=>by omega⟩⟩,O⟩
  refine av O (aa.add O O O (by omega) (aF O (tQ ?_)));refine⟨k+1,by show n - (k+1)<n - k;omega,⟨O,O,O,ae⟩,O,by omega,fun j hj=>?_⟩
  by_cases ej:j=k
  ·subst ej;exact h4
  exact hK j (by omega)
 refine aY O (aZ (gE O ?_));refine gP O ?_;refine⟨⟨-1,O,⟨fun h=>absurd h (by decide),fun h=>?_⟩⟩,O⟩;obtain⟨j,hj,KD⟩:=gJ.1 h;exact absurd (by rw [bX hj];exact KD) (hK j (by omega))
theorem zV(A:aiC)(n c:Nat)(xs:List Int)(v:Int)(w:World)(hR:bS w A n xs)(hn:n≤9223372036854775807):
 aA prog 149 [.slice A n c,aiD v] w (fun r w'=>r= .bool (decide (v∈xs))∧w'=w):=by
 refine bk func149 O ntmps149 O (cK O) (aQ O (aa.call (acC A n c xs v _ hR hn) O O O ?_));rintro _ w ⟨⟨i,rfl,hi⟩,rfl⟩;refine bh O (cM O ?_);exact⟨ax Value.bool (jo.2 hi),O⟩
theorem acN(A:aiC)(n c:Nat)(rs:List aG)(xss:aiB)(Ai:aiC)(ci:Nat)(i:Nat)(w:World)(hR:br w A n rs xss)(hn:n≤1000)(hi:i<n)(hI:bS w Ai 1 [(i:Int)]):
 aA prog 235 [.agg #[.slice A n c],.slice Ai 1 ci] w (fun v w'=>∃A' c',v= .slice A' (n - 1) c'∧St w w' [bU 32 A' (n - 1) c' (rs.eraseIdx i)]):=by
 have bW:=hR.top.1;have step:∀k (hk:k<n),(rs.take (k+1)).eraseIdx i=if k=i then(rs.take k).eraseIdx i else(rs.take k).eraseIdx i++ [rg rs (k:Int)]:=fun k hk=>by
  have e:rg rs (k:Int)=rs[k]'(by omega):=by simp [rg,cJ,gf (show k<rs.length by omega)]
  rw [rY (by omega),e]
  by_cases h1:k=i
  ·subst h1;have h2:(rs.take k).length=k:=by rw [pf];omega
   rw [aj rfl,List.eraseIdx_append_of_length_le (by omega),h2,Nat.sub_self,List.eraseIdx_of_length_le (l:=rs.take k) (k:=k) (by omega)];simp
  rw [ag h1]
  by_cases h2:i<k
  ·rw [List.eraseIdx_append_of_lt_length (by simp;omega)]
  rw [List.eraseIdx_of_length_le (l:=rs.take k++_) (by rw [dm,pf,List.length_singleton];omega),List.eraseIdx_of_length_le (l:=rs.take k) (by rw [pf];omega)]
 have hlen:∀k,k≤n→((rs.take k).eraseIdx i).length=if i<k then k - 1 else k:=fun k hk=>by
  rw [List.length_eraseIdx,pf,Nat.min_eq_left (by omega)]
 refine bk func235 O ntmps235 O (cK O) (aQ O (iI (St.refl w) O O ?_));intro Ab w1 ao;refine ad O (jl ao O ?_);intro A5 w2 ar;have ar:St w w2 [bU 32 A5 0 0 [],Bx 24 1 Ab [.slice A n c]]:=ar;refine ay O ?_;refine Cd.loop (α:=Nat×aiC×Nat) (fun z=> [(1,.slice Ai 1 ci),(2,.pointer Ab),(5,.slice z.2.1 ((rs.take z.1).eraseIdx i).length z.2.2),(6,aiD (z.1:Int))]) (fun z w'=>St w w' [bU 32 z.2.1 ((rs.take z.1).eraseIdx i).length z.2.2 ((rs.take z.1).eraseIdx i),Bx 24 1 Ab [.slice A n c]]∧z.1≤n) (fun z=>n - z.1) (0,A5,0) ⟨O,O,O,O,ae⟩ ⟨ar,aW _⟩ ?_;rintro⟨k,A6,c6⟩ e w3 ⟨az,hk⟩;dsimp only at az hk⊢;have gG:=az.bF hR;have lK:=hlen k hk;refine aQ O (aH (az.rd 1 O) O O O O inferInstance (aM (az.rd 1 O) O O O O O ?_));refine aa.len O O (ay O ?_);refine aB _ O (fun h1=>?_) (fun h1=>?_)
 ·have ak:=step k (by omega);refine av O (aa.call (zV Ai 1 ci _ (k:Int) _ (az.eY hI) (by omega)) O O O ?_);rintro _ w3 ⟨rfl,rfl⟩
  first | refine eC rfl rfl ?_ | refine aa.not rfl rfl ?_
  refine ay O ?_;refine aB _ O (fun h2=>?_) (fun h2=>?_)
  ·rw [ag (fun h=>h2 (by rw [h];simp))]at ak;refine av O (aH (az.rd 1 O) O O O O inferInstance (aM (az.rd 1 O) O O O O O (ad O (aw gG.top.2 O O O (by omega) h1 (bQ gG.top O (by omega) O O (nj az O O O ?_))))));intro A7 w4 aJ;refine oM 1 aJ O (aJ.il 0 O) O O O (by rw [lK];split<;>omega) (by rw [lK];split<;>omega) O ?_;intro A8 c8 w5 aK;refine ad O (aa.add O O O (by omega) (aF O (tQ ?_)));have e1:((rs.take (k+1)).eraseIdx i).length=((rs.take k).eraseIdx i).length+1:=by rw [ak];simp
   refine⟨(k+1,A8,c8),by show n - (k+1)<n - k;omega,⟨O,O,by show Value.slice _ _ _= .slice _ _ _;rw [e1],O,ae⟩,?_,by show k+1≤n;omega⟩;show St w w5 [bU _ A8 ((rs.take (k+1)).eraseIdx i).length c8 ((rs.take (k+1)).eraseIdx i),_];rw [e1,ak];exact aK.tail
  have h3:=iP.1 h2;simp only [eT]at h3;rw [aj (by omega)]at ak;refine av O (aa.add O O O (by omega) (aF O (tQ ?_)));refine⟨(k+1,A6,c6),by show n - (k+1)<n - k;omega,⟨O,O,by show Value.slice _ _ _= .slice _ _ _;rw [ak],O,ae⟩,?_,by show k+1≤n;omega⟩;show St w w3 [bU _ A6 ((rs.take (k+1)).eraseIdx i).length c6 ((rs.take (k+1)).eraseIdx i),_];rw [ak];exact az
 refine aY O (aZ (gE O ?_));refine gB O ?_;have oY:k=n:=by omega
 subst oY;rw [lS (by omega)]at az;have e1:(rs.eraseIdx i).length=k - 1:=by rw [List.length_eraseIdx,aj (by omega),bW]
 rw [lS (by omega),e1];rw [e1]at az;exact⟨A6,c6,O,az.sub (List.Sublist.cons_cons _ (List.nil_sublist _))⟩
theorem Tu(c:Int)(x:Int):∀(a L:List Int),pX L c (a++ [x])=(pX L c a).set x.toNat c
 | [],_=>rfl
 | y::a,L=>Tu c x a (L.set y.toNat c)
theorem acE(A:aiC)(n c:Nat)(rs:List aG)(xss:aiB)(N:Nat)(w:World)(hR:br w A n rs xss)(hn:n≤1000)(hs:Sys N xss)(hN:N≤1000):
 aA prog 234 [aiD (N:Int),.slice A n c] w (fun v w'=>∃A' c',v= .slice A' N c'∧St w w' [ah 2 A' N c' (bz N xss N).1]):=by
 refine bk func234 O ntmps234 O (cK O) (aQ O (jl (St.refl w) O ?_));intro A5 w1 ao;have ao:St w w1 [ah 2 A5 0 0 (List.replicate 0 (-1))]:=ao;refine ay O ?_;refine Cd.loop (α:=Nat×aiC×Nat) (fun z=> [(0,aiD (N:Int)),(1,.slice A n c),(5,.slice z.2.1 z.1 z.2.2),(6,aiD (z.1:Int))]) (fun z w'=>St w w' [ah 2 z.2.1 z.1 z.2.2 (List.replicate z.1 (-1))]∧z.1≤N) (fun z=>N - z.1) (0,A5,0) ⟨O,O,O,O,ae⟩ ⟨ao,aW _⟩ ?_;rintro⟨k,A6,c6⟩ e w2 ⟨ar,hk⟩;dsimp only at ar hk⊢;refine bK O ?_;refine aB _ O (fun h1=>?_) (fun h1=>?_)
 ·refine av O (dJ ar O O O ?_);intro A7 w3 az;refine eK 1 az O (az.bc 0 O) O O O (by omega) (by omega) O ?_;intro A8 c8 w4 aJ;refine ad O (aa.add O O O (by omega) (aF O (tQ ?_)));refine⟨(k+1,A8,c8),by show N - (k+1)<N - k;omega,⟨O,O,O,O,ae⟩,?_,by show k+1≤N;omega⟩;show St w w4 [ah _ A8 (k+1) c8 (List.replicate (k+1) (-1))];rw [List.replicate_succ'];exact aJ.tail
 refine aY O (aZ (nN O ?_));have wI:k=N:=by omega
 subst wI;refine Cd.loop (α:=Nat) (fun i=> [(0,aiD (k:Int)),(1,.slice A n c),(5,.slice A6 k c6),(7,aiD (bz k xss i).2),(8,aiD (i:Int))]) (fun i w'=>St w w' [ah 2 A6 k c6 (bz k xss i).1]∧i≤k) (fun i=>k - i) 0 ⟨O,O,O,O,O,ae⟩ ⟨ar,aW _⟩ ?_;rintro i e w3 ⟨az,hi⟩;have P0:=az.bc 0 O;have ot:=yz k xss i;refine bK O ?_;refine aB _ O (fun h2=>?_) (fun h2=>?_)
 ·refine av O (aw P0.2 O O O (by omega) (by omega) (aT P0 O (by omega) O O (ay O ?_)));refine aB _ O (fun h3=>?_) (fun h3=>?_)
  ·refine av O (aa.add O O O (by omega) (aF O (tQ ?_)));refine⟨i+1,by show k - (i+1)<k - i;omega,⟨O,O,O,by show Value.int .i64 _=aiD _;rw [CC h3],O,ae⟩,by rw [CC h3];exact az,by omega⟩
  obtain⟨hg,_,_⟩:=vF hs (pt:=(i:Int)) (by omega) (by omega);refine av O (aa.call (LC A n c rs xss k (i:Int) _ (az.bF hR) (by omega) hs (by omega) (by omega) (by omega)) O O O ?_);rintro _ w4 ⟨A9,c9,rfl,ak⟩;have aJ:=az.call ak;have Ru:(fS k xss (i:Int)).length≤k:=hg.len;refine ay O ?_;refine Cd.loop (α:=Nat) (fun m=> [(0,aiD (k:Int)),(1,.slice A n c),(5,.slice A6 k c6),(7,aiD (bz k xss i).2),(8,aiD (i:Int)),(9,.slice A9 (fS k xss (i:Int)).length c9),(10,aiD (m:Int))]) (fun m w'=>St w w' [ah 2 A9 (fS k xss (i:Int)).length c9 (fS k xss (i:Int)),ah 2 A6 k c6 (pX (bz k xss i).1 (bz k xss i).2 ((fS k xss (i:Int)).take m))]∧m≤(fS k xss (i:Int)).length) (fun m=> (fS k xss (i:Int)).length - m) 0 ⟨O,O,O,O,O,O,O,ae⟩ ⟨aJ,aW _⟩ ?_;rintro m e w5 ⟨aK,hm⟩;have zq:=aK.bc 0 O;refine aQ O (aa.len O O (ay O ?_));refine aB _ O (fun h4=>?_) (fun h4=>?_)
  ·have ku:m< (fS k xss (i:Int)).length:=by omega
   have Rw:=hg.range _ (gi_in ku);refine av O (aw zq.2 O O O (by omega) (by omega) (aT zq O (by omega) O O (ad O (aw (aK.bc 1 O).2 O O O (by omega) (by omega) (jR 1 aK O O O (by omega) ?_)))));intro w6 aR;refine ad O (aa.add O O O (by omega) (aF O (tQ ?_)));refine⟨m+1,by show _ - (m+1)<_ - m;omega,⟨O,O,O,O,O,O,O,ae⟩,?_,ku⟩;rw [xr ku,Tu];exact aR
  refine aY O (aZ (cL O (aa.add O O O (by omega) (ad O (aa.add O O O (by omega) (aF O (tQ ?_)))))));have G5:m=(fS k xss (i:Int)).length:=by omega
  subst G5;rw [List.take_length]at aK;refine⟨i+1,by show k - (i+1)<k - i;omega,⟨O,O,O,by show Value.int .i64 _=aiD _;rw [zY h3],O,ae⟩,by rw [zY h3];exact aK.tail,by omega⟩
 refine aY O (aZ (gE O ?_));refine gB O ?_;have nD:i=k:=by omega
 subst nD;exact⟨A6,c6,O,az⟩
theorem acL(A:aiC)(n c:Nat)(xs:List Int)(w:World)(hR:bS w A n xs)(hn:n≤1000000)(hx:∀x∈xs,x≤1000000):
 aA prog 198 [.slice A n c] w (fun v w'=>v=aiD (pM xs)∧w'=w):=by
 have dA:=hR.1;refine bk func198 O ntmps198 O (cK O) (bK O ?_);refine Cd.loop (α:=Nat) (fun k=> [(0,.slice A n c),(3,aiD (pM (xs.take k))),(4,aiD (k:Int))]) (fun k w'=>w'=w∧k≤n) (fun k=>n - k) 0 ⟨O,O,O,ae⟩ ⟨O,aW _⟩ ?_;rintro k e w ⟨rfl,hk⟩;refine aQ O (aa.len O O (ay O ?_));refine aB _ O (fun h1=>?_) (fun h1=>?_)
 ·have hg:gi xs (k:Int)≤1000000:=hx _ (by rw [bX (by omega)];exact dQ _);have ak:pM (xs.take (k+1))=if pM (xs.take k)≤gi xs k then gi xs k+1 else pM (xs.take k):=by rw [xr (by omega),Ps]
  have Kt:=(Js _ (xs.take k) O).1;refine av O (aw hR.2 O O O (by omega) (by omega) (aT hR O (by omega) O O (ay O ?_)));refine aB _ O (fun h2=>?_) (fun h2=>?_)
  ·rw [aj h2]at ak;refine av O (aw hR.2 O O O (by omega) (by omega) (aT hR O (by omega) O O ?_));refine aa.add O O O (by omega) (ad O (aa.add O O O (by omega) (aF O (tQ ?_))));exact⟨k+1,by show n - (k+1)<n - k;omega,⟨O,by show Value.int .i64 _=aiD _;rw [ak],O,ae⟩,O,by omega⟩
  rw [ag h2]at ak;refine av O (aa.add O O O (by omega) (aF O (tQ ?_)));exact⟨k+1,by show n - (k+1)<n - k;omega,⟨O,by show Value.int .i64 _=aiD _;rw [ak],O,ae⟩,O,by omega⟩
 refine aY O (aZ (gE O ?_));refine gP O ?_;have oY:k=n:=by omega
 subst oY;exact⟨by rw [←dA,List.take_length],O⟩
theorem acK(A:aiC)(n c:Nat)(rs:List aG)(xss:aiB)(i:Nat)(w:World)(hR:br w A n rs xss)(hM:bL xss)(hi:i<n):
 aA prog 197 [.agg #[.slice A n c],aiD (i:Int)] w (fun v w'=>∃A' c',v= .slice A' (gl xss 0).length c'∧St w w' [ah 2 A' (gl xss 0).length c' (dd xss i)]):=by
 have hl:=hR.len;have h1:=hM.1;have h2:=hM.2.1;have hs:=hM.2.2.1.sys;refine bk func197 O ntmps197 O (cK O) (aQ O (iI (St.refl w) O O ?_));intro Ab w1 ao;refine ay O ?_;refine dI [.ex (.agg #[.slice (A) (n) (c)]),xI (((gl xss 0).length:Int)),.ex (.agg #[.slice (A) (n) (c)]),xI ((i:Int)),.pr (fun v w'=>∃A1,v= .slice A1 1 1∧bS w' A1 1 [(i:Int)]),.pr (fun v w'=>∃A1 c1,v= .slice A1 (n - 1) c1∧br w' A1 (n - 1) (rs.eraseIdx i) (xss.eraseIdx i)),.pr (fun v w'=>∃A1 c1,v= .slice A1 (gl xss 0).length c1∧St w w' [ah 2 A1 (gl xss 0).length c1 (dd xss i)]),.pr (fun v w'=>∃A1 c1,v= .slice A1 (gl xss 0).length c1∧St w w' [ah 2 A1 (gl xss 0).length c1 (dd xss i)])] (by kernel_rfl) (by kernel_rfl) rfl (lx (lx (lx (lx (bV.2 ⟨Yd.b9 (fun v w w' h hb=>by obtain⟨A1,hv,hT⟩:=h;exact⟨A1,hv,hT.later hb⟩),(bV.2 ⟨Yd.b9 (fun v w w' h hb=>by obtain⟨A1,c1,hv,hT⟩:=h;exact⟨A1,c1,hv,hT.later hb⟩),(bV.2 ⟨Yd.b9 (fun v w w' h hb=>by obtain⟨A1,c1,hv,hT⟩:=h;exact⟨A1,c1,hv,hT.later hb⟩),(bV.2 ⟨Yd.b9 (fun v w w' h hb=>by obtain⟨A1,c1,hv,hT⟩:=h;exact⟨A1,c1,hv,hT.later hb⟩),(fun _ h=>by cases h)⟩)⟩)⟩)⟩))))) ?_ ?_
 ·refine⟨fun _ _ hb _ _=>aa.bq 0 ((ao.rd 0 O).below hb) O O O (Az O),?_,fun _ _ hb _ _=>aa.bq 0 ((ao.rd 0 O).below hb) O O O (Az O),Dr O,?_,?_,?_,?_,ae⟩
  ·intro e1 w1 hb hp aL;refine aa.call (vA A n c rs xss _ ((ao.later hb).bF hR) (by omega)) O O O ?_;rintro _ w2 ⟨rfl,ak⟩;refine aa.n ?_;exact gD.dn ak.below (by exact O)
  ·intro e1 w1 hb hp aL;refine dJ (St.refl _) O O O ?_;intro A1 w9 ak;refine aa.n ?_;exact gD.dn ak.below ⟨A1,O,ak.bc 0 O⟩
  ·intro e1 w1 hb hp aL;obtain⟨A0,h9,JY⟩:=(hp 4 (by decide) rfl _ _ rfl rfl);refine aa.call (acN A n c rs xss A0 1 i _ ((ao.later hb).bF hR) (by omega) hi JY) O (by exact ax (fun v=> [Value.agg #[.slice A n c],v]) h9) O ?_;rintro _ w9 ⟨A1,c1,rfl,ak⟩;refine aa.n ?_;exact gD.dn ak.below ⟨A1,c1,O,(((ao.later hb).bF hR).later ak.below).erase hi (ak.il 0 O)⟩
  ·intro e1 w1 hb hp aL;obtain⟨A0,c0,gU,JY⟩:=(hp 5 (by decide) rfl _ _ rfl rfl);refine aa.call (acE A0 (n - 1) c0 _ _ (gl xss 0).length _ JY (by omega) (hs.erase i) (by omega)) O (by exact ax (fun v=> [Value.int .i64 ((gl xss 0).length:Int),v]) gU) O ?_;rintro _ w9 ⟨A1,c1,rfl,ak⟩;refine aa.n ?_;exact gD.dn ak.below ⟨A1,c1,O,(ao.later hb).none.call ak⟩
  intro e1 w1 hb hp aL;obtain⟨A1,c1,uq,hT⟩:=(hp 6 (by decide) rfl _ _ rfl rfl);refine oO O (by exact uq) O (aa.n ?_);exact gD.dn (Below.refl _ _) ⟨A1,c1,O,hT⟩
 intro u w9 ql hu;obtain⟨A9,c9,h4,hT⟩:=hu 7 _ rfl;refine xF O (gB (by exact h4) ?_);exact⟨A9,c9,O,hT⟩
end
end Go.Proofs.YtopgfgdgfjddpaaGreatDoor.Vc
