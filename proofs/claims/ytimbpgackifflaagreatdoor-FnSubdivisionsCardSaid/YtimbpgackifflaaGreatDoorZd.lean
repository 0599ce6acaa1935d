/-
 Lemmas. Conditions: as each states them.
-/
import Derived.Test.YtimbpgackifflaaGreatDoorLayb
import Derived.Test.YtimbpgackifflaaGreatDoorZc
import Derived.Shelf.SlicesE.Compact
import Derived.Shelf.SlicesE.Delete
import Derived.Shelf.SortM.SortNone
import Derived.MapKept
import Derived.Carry
set_option maxHeartbeats 8000000
set_option maxRecDepth 100000
namespace Go.Proofs.YtimbpgackifflaaGreatDoor.Vc
open Tryz
section
open Go.RowKit Go.Sort
variable{w w0:aa}{q off o b:Nat}{ks:List Ck}{l l' xs:ah}
theorem ajt{α:Type}[Inhabited α]{enc:α->ab}{g:Nat}{cur:Array ab}{e:ad}{fr:Nat×Nat}(d:Array α)(hb:w.heap[g]?=some (.cells cur e fr)):(putRow enc (Sort.ahead w q) g off d).heap[g]?=some (.cells (putCells enc off d cur) e fr):=by
 simp[putRow,mapBlock,Sort.ahead,Array.getElem?_modify,hb,onCells]
theorem ahy{α:Type}[Inhabited α]{enc:α->ab}{g:Nat}(d:Array α):DB w (putRow enc (Sort.ahead w q) g off d) (some g):=by
 refine⟨⟨O,O,O,by simp[Sort.ahead],λk hk bN=>?_⟩,Nat.le_add_right _ _⟩;have:g≠k:=λe=>bN (by rw[e])
 simp[putRow,mapBlock,Sort.ahead,Array.getElem?_modify,this]
theorem XM{α:Type}[Inhabited α]{enc:α->ab}{g:Nat}{cur:Array ab}{e:ad}{ds:List α}(hh:w.heap[g]?=some (.cells cur e (0,0)))(hc:∀j,j<ds.length->cur[o+j]?=(ds.map enc)[j]?):Holds enc w g o ds.toArray:=λj hj=>by
 have iJ:j<ds.length:=by simpa using hj
 refine⟨?_,by simp[World.frozen?,hh]⟩;simp only[World.cell?,hh];simp only[Option.isSome_none,Bool.false_eq_true,if_false];rw[hc j iJ];simp[iJ]
theorem St.laid{α:Type}[Inhabited α]{enc:α->ab}{i:Nat}{k:Ck}{g m:Nat}{cur:Array ab}{ds:List α}(hS:St w0 w ks)(hk:ks[i]?=some k)(hA:k.A=some ⟨g,o,Option.none⟩)(hg:w0.heap.size<=g)(hh:w.heap[g]?=some (.cells cur k.e (0,0)))(hs:o+k.c<=cur.size)(hm:m<=ds.length)(hd:ds.length<=k.c)(hc:k.c<=maxLen)(he1:∀x,(enc x).oneCell'=true:=by intro _;rfl):
 St w0 (putRow enc (Sort.ahead w q) g o ds.toArray) (ks.set i ⟨k.A,m,k.c,k.e,(ds.take m).map enc⟩):=by
 refine hS.turn hk (by simp[Ck.iv,hA]) (by simp[Ck.iv,hA]) (ahy _) (.qS (xk λv hv=>by obtain⟨x,_,rfl⟩:=de.1 hv;exact he1 x) ⟨by simp;omega,by show m<=k.c;omega,hc,.inr ⟨g,o,_,hA,hg,ajt _ hh,by simp only[putCells,Array.size_mapIdx];exact hs,λj hj=>?_⟩⟩);have hj:j<m:=hj;show(putCells enc o ds.toArray cur)[o+j]?=((ds.take m).map enc)[j]?;have GZ:o+j<cur.size:=by omega
 have hjd:j<ds.length:=by omega
 simp[putCells,GZ,hjd,qk,hj]
def SA(l:ah):Prop:=l.Pairwise (· < ·)
theorem SA.B0(h:SA l):oN l:=h.imp λh=>by omega
theorem SA.nodup(h:SA l):l.Nodup:=h.imp λh=>by omega
theorem SA.eq(h:SA l)(h':SA l')(hm:∀x,x∈l↔x∈l'):l=l':=adG ((List.perm_ext_iff_of_nodup h.nodup h'.nodup).2 hm) h.B0 h'.B0
def lj(xs:ah):ah:=Lib.compactUpTo xs.toArray xs.toArray.size
theorem MO(xs:ah)(j:Nat):xs.toArray[j]! =gi xs j:=by
 by_cases h:j<xs.length
 ·rw[b7 h];simp[h]
 have e:gi xs j=0:=by simp[gi,b5,oP (Nat.not_lt.1 h)]
 rw[e,getElem!_neg _ _ (by simpa using h)];rfl
theorem Na(xs:ah):lj xs=((List.range xs.length).filter λj:Nat=>decide (j=0\/gi xs j≠gi xs ((j-1:Nat):Int))).map λj:Nat=>gi xs j:=by
 unfold lj Lib.compactUpTo;rw[List.size_toArray];have e1:Lib.keeps xs.toArray=λj:Nat=>decide (j=0\/gi xs j≠gi xs ((j-1:Nat):Int)):=by
  funext j;unfold Lib.keeps;rw[MO,MO]
 rw[e1];exact ki λj _=>MO xs j
theorem Nb(xs:ah):(lj xs).length<=xs.length:=by
 rw[Na,jd];have:=lJ (λj:Nat=>decide (j=0\/gi xs j≠gi xs ((j-1:Nat):Int))) (List.range xs.length)
 rwa[od]at this
theorem aeZ(xs:ah)(x:Int):x∈lj xs↔x∈xs:=by
 rw[Na,de];constructor
 ·rintro⟨j,hj,rfl⟩;have:=fo.1 (fM.1 hj).1;rw[b7 this];exact dt _
 ·intro hx;obtain⟨j,hj,pL⟩:=fS.1 hx;rw[<-b7 hj]at pL;clear hx
  induction j with
  |zero=>exact⟨0,fM.2 ⟨fo.2 hj,by simp⟩,pL⟩
  |succ j ih=>
   by_cases h:gi xs ((j+1:Nat):Int)=gi xs ((j:Nat):Int)
   ·exact ih ac (h▸pL)
   ·exact⟨j+1,fM.2 ⟨fo.2 hj,by simp only[Nat.add_sub_cancel,k5];exact .inr h⟩,pL⟩
theorem aeY(h:oN xs):SA (lj xs):=by
 have mono:∀a b,a<=b->b<xs.length->gi xs a<=gi xs b:=λa b gr hb=>by
  rw[b7 (by omega),b7 hb]
  by_cases e:a=b
  ·subst e;exact Int.le_refl _
  exact(List.pairwise_iff_getElem.1 h) a b ac hb ac
 rw[Na];unfold SA;rw[rV];have hr:(List.range xs.length).Pairwise (· < ·):=List.pairwise_lt_range;refine(hr.filter _).imp_of_mem λ{a b} ha hb gr=>?_
 have fh:=fo.1 (fM.1 hb).1;have jR:=bX (fM.1 hb).2;have h1:=mono a (b-1) ac ac;have h2:=mono (b-1) b ac fh;rcases jR with jR|jR
 ·omega
 omega
def cs(l:ah):ah:=lj (fb l)
theorem x7(l:ah)(x:Int):x∈cs l↔x∈l:=by rw[cs,aeZ];exact(tD l).mem_iff
theorem vk(l:ah):SA (cs l):=aeY (BI l)
theorem Jg(l:ah):(cs l).length<=l.length:=by
 have h1:=Nb (fb l);rw[(tD l).length_eq]at h1;exact h1
theorem Ng(h:SA l)(hm:∀x,x∈l↔x∈l'):l=cs l':=h.eq (vk l') λx=>by rw[hm,x7]
theorem afl(l:ah)(v:Int):cs (cs l++[v])=cs (l++[v]):=Ng (vk _) λx=>by simp[x7]
theorem afm:cs []=[]:=iL (Nat.le_zero.1 (Jg []))
theorem ae9(i:Nat){t:ad}{A:ai}{n c:Nat}(hS:St w0 w ks)(hk:ks[i]?=some (av t A n c xs))(h0:0<n)(hn:n<=1000000000):
 aF prog 82 [.slice A n c] w (λv w'=>v=.slice A (lj xs).length c/\St w0 w' (ks.set i (av t A (lj xs).length c (lj xs)))):=by
 obtain⟨h1,h2,h3,h4⟩:=hS.py hk (vH _);have hl:xs.length=n:=hS.Bw i hk;have h2:n<=c:=h2;have h3:c<=maxLen:=h3;rcases h4 with⟨_,kF⟩|⟨g,o,cur,hA,hg,hh,hs,hc⟩
 ·have kF:c=0:=kF;omega
 have hA:A=some ⟨g,o,none⟩:=hA;have hs:o+c<=cur.size:=hs;have hc:∀j,j<n->cur[o+j]?=(xs.map (Value.int .i64))[j]?:=hc;subst hA;subst hl;have key:=AnyE.slices_Compact ann (Value.int .i64) (λ_=>O) (EqlAt.intD _ _ .i64) (NeqAt.intD _ _ .i64) (0:Int) (λw=>zeroValue2 w) g o c xs.toArray w (XM hh hc) (by simp;omega) (by simpa using h2);refine Calls.mono key λx w' ⟨hx,q,hw⟩=>⟨_,hx,O,?_⟩
 subst hw;have hle:=Nb xs;have h:=hS.laid (q:=q) (m:=(lj xs).length) (enc:=Value.int .i64) (ds:=lj xs++List.replicate (xs.toArray.size-(lj xs).length) 0) hk O hg hh hs (by simp) (by simp;show _<=c;omega) h3;rw[zF (cJ _),List.take_length]at h;exact h
instance:Inhabited aE:=⟨bI⟩
theorem afB(i:Nat){t:ad}{A:ai}{n c a:Nat}{xs:List aE}(hS:St w0 w ks)(hk:ks[i]?=some (aX t A n c xs))(h0:0<n)(hn:n<=1000000000)(gr:a<=b)(hb:b<=n):
 aF prog 190 [.slice A n c,aj a,aj b] w (λv w'=>v=.slice A (n-(b-a)) c/\St w0 w' (ks.set i (aX t A (n-(b-a)) c (xs.take a++xs.drop b)))):=by
 obtain⟨h1,h2,h3,h4⟩:=hS.py hk (yY _);have hl:xs.length=n:=(hS.dm i hk).1;have h2:n<=c:=h2;have h3:c<=maxLen:=h3;rcases h4 with⟨_,kF⟩|⟨g,o,cur,hA,hg,hh,hs,hc⟩
 ·have kF:c=0:=kF;omega
 have hA:A=some ⟨g,o,none⟩:=hA;have hs:o+c<=cur.size:=hs;have hc:∀j,j<n->cur[o+j]?=(xs.map aE.v)[j]?:=hc;subst hA;subst hl;obtain⟨i0,eU,_,Bo,_⟩:=bL.get prog 27;have key:=AnyE.slices_Delete anp aE.v (λ_=>O) bI (λw=>zeroValue27 w) i0 eU Bo g o c a b xs.toArray w (XM hh hc) (by simpa using h2) (by simpa[maxLen]using h3) gr (by simpa using hb);refine Calls.mono key λx w' ⟨hx,q,hw⟩=>⟨_,hx,by simp,?_⟩
 subst hw;have h:=hS.laid (q:=q) (m:=xs.length-(b-a)) (enc:=aE.v) (ds:=xs.toArray.toList.take a++xs.toArray.toList.drop b++List.replicate (b-a) bI) hk O hg hh hs (by simp;omega) (by simp;omega) h3;have e1:(xs.toArray.toList.take a++xs.toArray.toList.drop b++List.replicate (b-a) bI).take (xs.length-(b-a))=xs.take a++xs.drop b:=by
  have e2:(xs.take a++xs.drop b).length=xs.length-(b-a):=by simp;omega
  show(xs.take a++xs.drop b++List.replicate (b-a) bI).take _=_;rw[<-e2,zF (cJ _),List.take_length]
 rw[e1]at h;exact h
end
section
open Go.RowKit
variable{w0 w w2 w1 w9 w':aa}{t1 t2 t:ad}{A1:ai}{j q c1:Nat}{pre ks:List Ck}{xs T ys:ah}
theorem ac6{A:ai}{n c:Nat}{rs:List aE}{xss:ag}(h:St w0 w (pre++aV t1 t2 A n c rs xss)):St w0 w (pre++(aV t1 t2 A n c rs xss++[])):=by rwa[dQ]
def pow(xs:ah)(n:Nat):ah:=(List.replicate n xs).flatten
theorem ape(xs:ah)(n:Nat):(pow xs n).length=xs.length*n:=by simp[pow,Nat.mul_comm]
theorem pow_succ(xs:ah)(n:Nat):pow xs (n+1)=pow xs n++xs:=by simp[pow,List.replicate_succ']
theorem pow_succ'(xs:ah)(n:Nat):pow xs (n+1)=xs++pow xs n:=by simp[pow,List.replicate_succ]
theorem Lt{xs:ah}(h:0<xs.length):∀(n j:Nat),j<xs.length*n->(pow xs n)[j]?=xs[j%xs.length]?
 |0,j,hj=>by simp at hj
 |n+1,j,hj=>by
  rw[pow_succ']
  by_cases hx:j<xs.length
  ·rw[jF hx,Nat.mod_eq_of_lt hx]
  ·rw[jM (by omega),Lt h n _ (by rw[Nat.mul_succ]at hj;omega),<-Nat.mod_eq_sub_mod (by omega)]
theorem apf(h:0<xs.length){n m:Nat}(hm:xs.length∣m)(hj:m+j<xs.length*n):(pow xs n)[m+j]?=(pow xs n)[j]?:=by
 rw[Lt h n _ hj,Lt h n _ (by omega)];obtain⟨q,rfl⟩:=hm;rw[Nat.add_comm,Nat.add_mul_mod_self_left]
def part(T:ah)(m:Nat):ah:=T.take m++List.replicate (T.length-m) 0
theorem Ri{m:Nat}(h:m<=T.length):(part T m).length=T.length:=by simp[part];omega
theorem EZ{m:Nat}(h:m<=T.length)(hj:j<T.length):(part T m)[j]?=if j<m then T[j]? else some 0:=by
 unfold part
 by_cases wS:j<m
 ·rw[jF (by simp;omega),qk,aG wS,aG wS]
 rw[jM (by simp;omega),aD wS,List.getElem?_replicate,aG (by simp;omega)]
theorem aao{m:Nat}(hm:m<=T.length)(hq:q<=T.length-m)(hs:∀j,j<q->T[m+j]?=T[j]?):((part T m).map (Value.int .i64)).take m++(List.range q).map (λj=>Value.int .i64 (T.getD j 0))++((part T m).map (Value.int .i64)).drop (m+q)=(part T (m+q)).map (Value.int .i64):=by
 apply List.ext_getElem?;intro j;have hl:=Ri hm;have AP:=Ri (T:=T) (m:=m+q) ac
 by_cases h1:j<m
 ·rw[ef,jF (by simp;omega),qk,aG h1,List.getElem?_map,List.getElem?_map,EZ hm (by omega),EZ (by omega) (by omega),aG h1,aG (by omega)]
 by_cases h2:j<m+q
 ·obtain⟨i,rfl⟩:∃i,j=m+i:=⟨j-m,ac⟩;rw[ef,jM (by simp;omega),jF (by simp;omega),List.getElem?_map,List.getElem?_map,EZ (by omega) (by omega),aG h2,hs i (by omega)];simp only[jG,jd,hl,show min m T.length=m by omega,Nat.add_sub_cancel_left];rw[List.getElem?_range (by omega)];simp[b5,fL (show i<T.length by omega)]
 rw[jM (by simp;omega),List.getElem?_drop];simp only[cj,jG,jd,od,hl,show min m T.length=m by omega];rw[show m+q+(j-(m+q))=j by omega,List.getElem?_map,List.getElem?_map]
 by_cases h3:j<T.length
 ·rw[EZ hm h3,EZ (by omega) h3,aD h1,aD h2]
 rw[oP (by omega),oP (by omega)]
theorem aoG(T:ah):part T T.length=T:=by simp[part]
theorem ac2(A:ai)(a c:Nat)(xs:ah)(n:Nat)(w:aa)(hR:bu w A a xs)(ha:0<a/\a<=1000)(hn:n<=1000):
 aF prog 58 [.slice A a c,aj n] w (λv w'=>∃A',v=.slice A' (a*n) (a*n)/\St w w' [av 2 A' (a*n) (a*n) (pow xs n)]):=by
 have cT:=hR.1;have hMn:((a:Int)*(n:Int))=((a*n:Nat):Int):=O;have JS:a*n<=1000000:=Nat.mul_le_mul ha.2 hn;have Wv:(pow xs n).length=a*n:=by rw[ape,cT]
 have hz:n=0->a*n=0:=λh=>by subst h;rfl
 have hnz:0<n->a<=a*n:=λh=>Nat.le_mul_of_pos_right a h
 have W1:a∣a*n:=Nat.dvd_mul_right a n;have hsh:∀m j,a∣m->m+j<a*n->(pow xs n)[m+j]?=(pow xs n)[j]?:=λm j hm hj=>apf ac (by rw[cT];exact hm) (by rw[cT];exact hj)
 have fx:∀j,j<min a (a*n)->xs[j]?=(pow xs n)[j]?:=λj hj=>by rw[Lt (by omega) n j (by rw[cT];omega),Nat.mod_eq_of_lt (by omega)]
 refine bn func58 O ntmps58 O (bM O) (bC O (fq O ?_));refine aC O (aR O O ?_);refine lL (i:=(a:Int)) O O (rS _ ac) (aq O (lL (i:=(n:Int)) O O (rS _ ac) (aI (S9 a n _ ac ac) O ?_)));rintro _ w ⟨rfl,rfl⟩;rw[hMn];generalize hT:pow xs n=T at*;generalize hNe:a*n=N at*;subst Wv;refine aq O (ak.gtr O O O (aq O ?_));refine b9 23 O (λh=>absurd h am) (λ_=>?_);refine ar O (aq O (ar O (ak.gtr O O O (ay O ?_))));refine fq O (aC O (lL (i:=(T.length:Int)) O O (IntWalk.i64_in _ ac) (FG T.length (St.refl w) O O ac ?_)));intro A1 w1 ax;refine aq O ?_;refine Ix 0 0 (min a T.length) ax O (ax.dq hR).2 (bl _) (by rw[Ui];rfl) O (λ_ _=>O) O O ?_;intro w2 az;refine ay O ?_;have h3:St w w2 [av 2 A1 T.length T.length (part T (min a T.length))]:=by
  have e:=aao (T:=T) (m:=0) (q:=min a T.length) (bl _) ac (λj hj=>by rw[Nat.zero_add]);have e0:part T 0=List.replicate T.length 0:=by simp[part]
  have e1:(List.range (min a T.length)).map (λj=>Value.int .i64 (xs.getD j 0))=(List.range (min a T.length)).map (λj=>Value.int .i64 (T.getD j 0)):=by
   refine ki λj hj=>?_
   rw[b5,b5,fx j (fo.1 hj)]
  rw[e0,Nat.zero_add]at e;have e2:([av 2 A1 T.length T.length (List.replicate T.length 0)].set 0 { av 2 A1 T.length T.length (List.replicate T.length 0)with vs:=(av 2 A1 T.length T.length (List.replicate T.length 0)).vs.take 0++(List.range (min a T.length)).map (λj=>Value.int .i64 (xs.getD j 0))++(av 2 A1 T.length T.length (List.replicate T.length 0)).vs.drop (0+min a T.length) })=[av 2 A1 T.length T.length (part T (min a T.length))]:=by
   rw[e1,Nat.zero_add];show[(⟨A1,T.length,T.length,_,_⟩:Ck)]=[⟨A1,T.length,T.length,_,_⟩];rw[<-e]
  rw[<-e2];exact az
 refine Cd.loop (α:=Nat) (λm=>[(7,.slice A1 T.length T.length),(8,aj m)]) (λm w'=>St w w' [av 2 A1 T.length T.length (part T m)]/\m<=T.length/\a∣m/\(0<T.length->0<m)) (λm=>T.length-m) (min a T.length) (auV O) ⟨h3,ac,?_,ac⟩ ?_
 ·by_cases h0:a<=T.length
  ·rw[Nat.min_eq_left h0];exact Nat.dvd_refl a
  rw[Nat.min_eq_right (by omega)];exact W1
 rintro m e w3 ⟨aM,hm,vt,G0⟩;refine aY O (aR O O (ay O ?_));refine aK _ O (λh4=>?_) (λh4=>?_)
 ·refine cM O ?_;have hlen:=Ri hm;have nK:∀{w1:aa},Below w3.heap.size w3 w1->Rd w1 A1 m (λj=>aj (T.getD j 0)):=λhb j hj=>by
   have h5:=(aM.ao hb).rd 0 O j (by show j<T.length;omega);have h6:((part T m).map (Value.int .i64)).getD j undef=aj (T.getD j 0):=by
    rw[b5,List.getElem?_map,EZ hm (by omega),aG hj];simp[b5,fL (show j<T.length by omega)]
   obtain⟨p,hp,hc⟩:=h5;exact⟨p,hp,hc.trans (aQ some h6)⟩
  have jg:=aao (T:=T) (m:=m) (q:=min m (T.length-m)) hm ac (λj hj=>hsh m j vt ac);refine ab7 7 (λv w'=>v=aj ((min m (T.length-m):Nat):Int)/\St w w' [av 2 A1 T.length T.length (part T (m+min m (T.length-m)))]) [xI ((m:Int)),xS (A1) (T.length) (T.length),xI ((m:Int)),xS (cutAt A1 T.length m) (T.length-m) (T.length-m),xS (A1) (T.length) (T.length),xI ((m:Int)),xS (A1) (m) (T.length),.pr (λv w'=>v=aj ((min m (T.length-m):Nat):Int)/\St w w' [av 2 A1 T.length T.length (part T (m+min m (T.length-m)))]),xI ((m:Int)+((min m (T.length-m):Nat):Int)),xI ((m:Int)+((min m (T.length-m):Nat):Int))] an an rfl rfl an (lx (lx (lx (lx (lx (lx (lx (bV.2 ⟨Yd.bW (λv w w' h hb=>⟨h.1,h.2.ao hb⟩),(lx (lx (λ_ h=>by cases h)))⟩)))))))) ?_ ?_
  ·refine⟨?_,?_,?_,?_,?_,?_,?_,?_,?_,?_,au⟩
   ·intro e1 w1 cg hp aW;show ak _ _ _ _ _ _ _;refine uZ O (by exact aW 9 _ O an) O Az
   ·intro e1 w1 cg hp aW;show ak _ _ _ _ _ _ _;refine mm O O O Az
   ·intro e1 w1 cg hp aW;show ak _ _ _ _ _ _ _;refine uZ O (by exact aW 9 _ O an) O Az
   ·intro e1 w1 cg hp aW;show ak _ _ _ _ _ _ _;refine uY O O O ac Az
   ·intro e1 w1 cg hp aW;show ak _ _ _ _ _ _ _;refine mm O O O Az
   ·intro e1 w1 cg hp aW;show ak _ _ _ _ _ _ _;refine uZ O (by exact aW 9 _ O an) O Az
   ·intro e1 w1 cg hp aW;show ak _ _ _ _ _ _ _;refine rW O O O ac Az
   ·intro e1 w1 cg hp aW;refine λhb=>?_
    refine Ix 0 m (min m (T.length-m)) (aM.ao hb) O (f:=λj=>aj (T.getD j 0)) (nK hb) ac O O (λ_ _=>O) O O λw5 aO=>ak.n ?_;exact Fp.dn ⟨O,by show St w w5 [⟨A1,T.length,T.length,_,(part T (m+min m (T.length-m))).map (Value.int .i64)⟩];rw[<-jg];exact aO⟩
   ·intro e1 w1 cg hp aW;show ak _ _ _ _ _ _ _;have Oh:e1 45=aj _:=(hp 7 am O _ _ O O).1;refine auN O (by exact Oh) O ac Az
   intro e1 w1 cg hp aW;show ak _ _ _ _ _ _ _;refine uZ O O O Az
  intro u w5 hu;have aO:=(hu 7 _ O).2;refine Ir O (tQ ?_);refine⟨m+min m (T.length-m),by have:=G0 ac;omega,⟨O,by show Value.int .i64 _=Value.int .i64 _;congr 1,au⟩,aO,ac,?_,ac⟩
  by_cases h0:m<=T.length-m
  ·rw[Nat.min_eq_left h0];exact Nat.dvd_add vt vt
  rw[Nat.min_eq_right (by omega),show m+(T.length-m)=T.length by omega];exact W1
 refine ba O (bc (ew O ?_));refine dV O ?_;have:m=T.length:=by omega
 subst this;rw[aoG]at aM;exact⟨A1,O,aM⟩
theorem amX(A:ai)(a c:Nat)(xs:ah)(n:Nat)(w:aa)(hR:bu w A a xs)(ha:a<=1000)(hn:n<=1000):
 aF prog 75 [.slice A a c,aj n] w (λv w'=>∃A' c',v=.slice A' (a*n) c'/\St w w' [av 2 A' (a*n) c' (pow xs n)]):=by
 have cT:=hR.1;refine bn func75 O ntmps75 O (bM O) (aY O (jy (St.refl w) O ?_));intro A5 w1 ax;have ax:St w w1 [av 2 A5 (a*0) 0 (pow xs 0)]:=ax;refine ay O ?_;refine Cd.loop (α:=Nat×ai×Nat) (λz=>[(0,.slice A a c),(1,aj ((n:Int)-(z.1:Int))),(5,.slice z.2.1 (a*z.1) z.2.2)]) (λz w'=>St w w' [av 2 z.2.1 (a*z.1) z.2.2 (pow xs z.1)]/\z.1<=n) (λz=>n-z.1) (0,A5,0) ⟨O,by show Value.int .i64 _=aj _;simp,O,au⟩ ⟨ax,bl _⟩ ?_;rintro⟨k,A6,c6⟩ e w2 ⟨az,hk⟩;dsimp only at az hk|-;have jR:a*k<=1000000:=Nat.mul_le_mul ha (show k<=1000 by omega);refine bC O (aK _ O (λh1=>?_) (λh1=>?_))
 ·refine aC O (eQ 0 az O (az.dq hR) O O O ?_);intro A7 c7 w3 aM;refine aq O (cV O (aN O (tQ ?_)));have e1:a*(k+1)=a*k+a:=Nat.mul_succ a k;refine⟨(k+1,A7,c7),by show n-(k+1)<n-k;omega,⟨O,by show Value.int .i64 _=aj _;congr 1;show _=(n:Int)-((k+1:Nat):Int);omega,by show Value.slice _ _ _=.slice _ _ _;rw[e1],au⟩,?_,by show k+1<=n;omega⟩;show St w w3 [av _ A7 (a*(k+1)) c7 (pow xs (k+1))];rw[e1,pow_succ];exact aM
 refine ba O (bc (ew O ?_));refine dV O ?_;have rI:k=n:=by omega
 subst rI;exact⟨A6,c6,O,az⟩
theorem aca(A:ai)(n c:Nat)(rs:List aE)(w:aa)(hR:fu w A n rs)(hn:n<=1000000)(h0:0<n):aF prog 150 [.slice A n c] w (λv w'=>∃A' c',v=.slice A' n c'/\St w w' [aX 27 A' n c' rs]):=by
 cases hA:A with
 |none=>
  subst hA;obtain⟨p,hp,_⟩:=hR.2 0 h0;simp[aH]at hp
 |some a=>
  subst hA;refine bn func150 O ntmps150 O (bM O) (aY O (BU O O O (ay O (Cd.cX O (aC O (jy (St.refl w) O ?_))))));intro A1 w1 ax;have ax:St w w1 [aX 27 A1 0 0 []]:=ax;refine aq O (iT 0 ax O (ax.pc hR) O O O ac ac O ?_);intro A2 c2 w2 az;rw[Nat.zero_add]at az|-;refine bR O (dV O ?_);exact⟨A2,c2,O,az⟩
theorem asT(Ab A:ai)(n c:Nat)(rs:List aE)(xss:ag)(i:Nat)(w:aa)(hB:Rd w Ab 1 (λ_=>.slice A n c))(hR:bH w A n rs xss)(hn:n<=1000)(hi:i<n):
 aF prog 147 [.pointer Ab,aj i] w (λv w'=>∃A' c',v=.slice A' (n-1) c'/\St w w' [aX 27 A' (n-1) c' (rs.eraseIdx i)]):=by
 refine bn func147 O ntmps147 O (bM O) (aY O ?_);refine dX hB am O O (aS hB O (a6 hB O (aI (aca A n c rs _ hR.top ac ac) O ?_)));rintro _ w1 ⟨A1,c1,rfl,ax⟩;refine aq O (aJ O ?_);have kP:((i:Int)+1)=((i+1:Nat):Int):=by omega
 rw[kP];refine aI (afB 0 ax O ac ac (show i<=i+1 by omega) ac) O ?_;rintro _ w2 ⟨rfl,az⟩;refine bR O (dV O ?_);have e:n-(i+1-i)=n-1:=by omega
 rw[e];rw[e,<-List.eraseIdx_eq_take_drop_succ]at az;exact⟨A1,c1,O,az⟩
theorem UW(Ab A:ai)(n c:Nat)(rs:List aE)(xss:ag)(i:Nat)(w:aa)(hB:Rd w Ab 1 (λ_=>.slice A n c))(hR:bH w A n rs xss)(hM:eY xss)(hi:i<n):
 aF prog 101 [.pointer Ab,aj i] w (λv w'=>∃A',v=.tuple #[.slice A' (gl xss 0).length (gl xss 0).length,aj (kC xss i)]/\St w w' [av 2 A' (gl xss 0).length (gl xss 0).length (dG xss i)]):=by
 have hl:=hR.len;have h1:=hM.1;have h2:=hM.2.1;have e0:(rg rs 0).n=(gl xss 0).length:=(hR.qc ac ac).symm;refine bn func101 O ntmps101 O (mI O) (aY O (aI (Cf Ab A n c rs xss _ w hB O hR ac) O ?_));rintro _ w ⟨rfl,rfl⟩;rw[e0];refine aq O (aI (asT Ab A n c rs xss i _ hB hR ac hi) O ?_);rintro _ w1 ⟨A1,c1,rfl,ax⟩;refine aI (aaf A1 (n-1) c1 (rs.eraseIdx i) (xss.eraseIdx i) (gl xss 0).length _ ((ax.bU hR).erase hi (ax.dm 0 O)) ac (hM.2.2.1.sys.erase i) (hM.2.2.1.inj.erase i) ac) O ?_;rintro _ w2 ⟨A2,rfl,aw⟩;have az:=ax.call aw;refine bR O (vQ O O ?_);exact⟨A2,O,az.sub (List.Sublist.cons_cons _ (List.nil_sublist _))⟩
theorem apo{a:Nat}{v:Int}(h:SA xs)(hv:v∉xs)(ha:a<=xs.length)(hl:∀j:Nat,j<a->gi xs j<v)(hg:a<xs.length->v<=gi xs a):xs.take a++(v::xs.drop a)=cs (xs++[v]):=by
 have hp:(xs.take a++(v::xs.drop a)).Perm (xs++[v]):=apr;refine Ng ?_ λx=>hp.mem_iff
 have h1:=adF h.B0 ha hl hg;have h2:(xs.take a++(v::xs.drop a)).Nodup:=hp.nodup_iff.2 (by
  rw[List.nodup_append];refine⟨h.nodup,by simp,λx hx y hy e=>?_⟩;simp at hy;subst hy;exact hv (e▸hx))
 exact(List.Pairwise.and h1 h2).imp λh=>by have:=h.1;have:=h.2;omega
theorem am5(A:ai)(n c:Nat)(xs:ah)(v:Int)(w:aa)(hR:bu w A n xs)(hc:n<=c)(hn:n<=1000000)(hs:SA xs)(hv:v∉xs):
 aF prog 136 [.slice A n c,aj v] w (λr w'=>∃A' c',r=.slice A' (cs (xs++[v])).length c'/\St w w' [av 2 A' (cs (xs++[v])).length c' (cs (xs++[v]))]):=by
 have cT:=hR.1;refine bn func136 O ntmps136 O (bM O) (Gbj 4 O ?_);refine lH (α:=Nat) (λa=>[(0,.slice A n c),(1,aj v),(5,aj a)]) (λa w'=>w'=w/\a<=xs.length/\(∀j:Nat,j<a->gi xs j<v)/\(a<xs.length->v<=gi xs a)) ?_ ?_
 ·refine bC O ?_;refine Cd.loop (α:=Nat) (λa=>[(0,.slice A n c),(1,aj v),(5,aj a)]) (λa w'=>w'=w/\a<=xs.length/\∀j:Nat,j<a->gi xs j<v) (λa=>xs.length-a) 0 (auV O) ⟨O,bl _,λj hj=>by omega⟩ ?_;rintro a e w ⟨rfl,ha,dH⟩;refine aY O (aR O O (aq O ?_));refine b9 11 O (λh4=>?_) (λh4=>?_)
  ·refine ar O (aq O (ar O (aq O (ar O ?_))));refine aA hR.2 O (ar O (bg hR O ?_));refine ar O (aq O (ar O (ay O ?_)));refine aK _ O (λh5=>?_) (λh5=>?_)
   ·refine aC O (aJ O (aN O (tQ ?_)));refine⟨a+1,by show xs.length-(a+1)<xs.length-a;omega,(auV O),O,ac,λj hj=>?_⟩
    by_cases ej:j=a
    ·subst ej;exact h5
    exact dH j ac
   refine ba O (bc (vZ O (tQ ?_)));exact⟨a,(auV O),O,ha,dH,λ_=>by omega⟩
  refine aB O (aB O (aB O (aB O (aB O (aB O (ay O ?_))))));refine Cd.cX O (ba O (bc (vZ O (tQ ?_))));exact⟨a,(auV O),O,ha,dH,λh=>absurd h ac⟩
 rintro a e w ⟨rfl,ha,dH,pJ⟩;have rJ:=apo hs hv ha dH pJ;refine aC O (eh (St.refl w) O O O ?_);intro A7 w7 bp;refine aq O (uY O O O ac (eQ 0 bp O ((bp.dq hR).drop (l:=a) ac hc) O O O ?_));intro A8 c8 w8 bB;refine aq O (jy bB O ?_);intro A9 w9 bj;have bj:St w w9 (av 2 A9 0 0 []::av 2 A8 (1+(n-a)) c8 ([v]++xs.drop a)::[]):=bj;refine aq O (rW O O O ac (eQ 0 bj O ((bj.dq hR).take (l:=a) ac) O O O ?_));intro fC kA dJ cQ;refine aq O (eQ 0 cQ O (cQ.bF 1 O) O O O ?_);intro eP iW eO dA;refine bR O (dV O ?_);have dA:St w eO (av 2 eP (0+a+(1+(n-a))) iW (([]++xs.take a)++([v]++xs.drop a))::av 2 A8 (1+(n-a)) c8 ([v]++xs.drop a)::[]):=dA;have dz:=dA.sub (List.Sublist.cons_cons _ (List.nil_sublist _));rw[List.nil_append,List.singleton_append,rJ]at dz;have oy:(cs (xs++[v])).length=0+a+(1+(n-a)):=by rw[<-rJ];simp;omega
 exact⟨eP,iW,by rw[oy],by rw[oy];exact dz⟩
theorem am8(A:ai)(n c:Nat)(xs:ah)(v:Int)(w:aa)(hR:bu w A n xs)(hc:n<=c)(hn:n<=1000000)(hs:SA xs):
 aF prog 92 [.slice A n c,aj v] w (λr w'=>∃A' c',r=.slice A' (cs (xs++[v])).length c'/\Below w.heap.size w w'/\((A'=A/\c'=c/\cs (xs++[v])=xs)\/St w w' [av 2 A' (cs (xs++[v])).length c' (cs (xs++[v]))])):=by
 have cT:=hR.1;refine bn func92 O ntmps92 O (bM O) (aY O (aI (uy A n c xs v w hR ac) O ?_));rintro _ w ⟨rfl,rfl⟩;refine ay O (aK _ O (λh=>?_) (λh=>?_))
 ·have e:cs (xs++[v])=xs:=(Ng hs λx=>by
   simp only[dF,eX];exact⟨.inl,λh2=>h2.elim id λe=>e▸h⟩).symm
  refine dE O (dV O ?_);exact⟨A,c,by rw[e,cT],Below.refl _ _,.inl ⟨O,O,e⟩⟩
 refine aC O (aI (am5 A n c xs v w hR hc hn hs h) O ?_);rintro _ w1 ⟨A1,c1,rfl,aw⟩;refine bR O (dV O ?_);exact⟨A1,c1,O,aw.below,.inr aw⟩
theorem Ue:∀(l:List Ck)(i:Nat)(x y:Ck),l[i]?=some y->(x::l).Perm (y::l.set i x)
 |[],i,x,y,h=>by simp at h
 |u::l,0,x,y,h=>by simp at h;subst h;exact List.Perm.swap _ _ _
 |u::l,i+1,x,y,h=>by
  simp only[List.getElem?_cons_succ]at h;simp only[List.set_cons_succ];exact(List.Perm.swap _ _ _).trans (((Ue l i x y h).cons u).trans (List.Perm.swap _ _ _))
theorem St.adA{i:Nat}{k y:Ck}(h:St w0 w (k::ks))(hy:ks[i]?=some y):St w0 w (ks.set i k):=(h.perm (Ue ks i k y hy)).tail
theorem St.alD{i:Nat}{A:ai}{n c:Nat}(h:St w2 w1 ks)(hk:ks[i]?=some (av t A n c xs))(ov:Below w1.heap.size w1 w9)(l5:(A1=A/\c1=c/\ys=xs)\/St w1 w9 [av t A1 ys.length c1 ys]):St w2 w9 (ks.set i (av t A1 ys.length c1 ys)):=by
 rcases l5 with⟨rfl,rfl,rfl⟩|aw
 ·have hl:=h.Bw i hk;rw[hl,Fe hk];exact h.ao ov
 exact(h.call aw).adA hk
theorem HY{t:ad}:∀{rs:List aE}{xss:ag}{i:Nat}{s:aE}{xs:ah},rs.length=xss.length->(cC t rs xss).set i (av t s.a s.n s.c xs)=cC t (rs.set i s) (xss.set i xs)
 |[],[],_,_,_,_=>rfl
 |[],_::_,_,_,_,h=>by simp at h
 |_::_,[],_,_,_,h=>by simp at h
 |r::rs,x::xss,0,s,xs,_=>rfl
 |r::rs,x::xss,i+1,s,xs,h=>by
  have:=HY (t:=t) (rs:=rs) (xss:=xss) (i:=i) (s:=s) (xs:=xs) (by simpa using h);simpa[cC]using this
theorem xu{w0 w:aa}{t:ad}:∀(n:Nat){ks:List Ck},St w0 w ks->St w0 w (ks++cC t (List.replicate n bI) (List.replicate n []))
 |0,ks,h=>by show St w0 w (ks++[]);rwa[dQ]
 |n+1,ks,h=>by
  have h1:=xu (t:=t) n h;have h2:=h1.nil t;exact h2.perm (mO.symm)
def MR(Vl El:ah)(m:Nat):Nat->ag
 |0=>List.replicate m []
 |f+1=>(MR Vl El m f).set (gi El f).toNat (gl (MR Vl El m f) (gi El f)++[gi Vl f])
def ends(Vl El:ah)(m f:Nat):ag:=(MR Vl El m f).map cs
def Nr(xss:ag):Nat:=(kC xss 1).toNat
def UF(xss:ag):ag:=ends (dG xss 0) (dG xss 1) (Nr xss) (gl xss 0).length
def Im(L:ag)(K:Int)(w:aa)(v:ab)(w':aa):Prop:=∃A' c' rs',v=.tuple #[.slice A' L.length c',aj K]/\rs'.length=L.length/\St w w' (aV 27 2 A' L.length c' rs' L++[])
theorem Im.none{K:Int}(h:St w w' ks):Im [] K w (.tuple #[.slice Option.none 0 0,aj K]) w':=⟨Option.none,0,[],rfl,rfl,h.none.nil _⟩
def mF(B:ag)(e:Nat):ag:=(B.take e).map cs++B.drop e
theorem anZ(B:ag)(e:Nat):(mF B e).length=B.length:=by simp[mF];omega
theorem an1(B:ag):mF B 0=B:=by simp[mF]
theorem anX(B:ag):mF B B.length=B.map cs:=by simp[mF]
theorem anY{B:ag}{e:Nat}(h:e<B.length):gl (mF B e) e=gl B e:=by
 simp only[gl,mF,gx,b5];rw[jM (by simp;omega)];simp[Nat.min_eq_left (Nat.le_of_lt h)]
theorem an0{B:ag}{e:Nat}(h:e<B.length):(mF B e).set e (cs (gl B e))=mF B (e+1):=by
 rw[df h];unfold mF;rw[List.set_append_right _ _ (by simp;omega),oQ h,iE,ef];have e1:e-((B.take e).map cs).length=0:=by simp;omega
 rw[e1,List.drop_eq_getElem_cons h]
 rfl
theorem abr(i:Nat){A:ai}{n c:Nat}(hS:St w0 w ks)(hk:ks[i]?=some (av t A n c xs))(hn:n<=1000000000):
 aF prog 81 [.slice A n c] w (λv w'=>v=.tuple #[]/\St w0 w' (ks.set i (av t A n c (fb xs)))):=by
 by_cases h0:0<n
 ·exact arG i hS hk h0 hn
 obtain rfl:n=0:=by omega
 have cT:=hS.Bw i hk;obtain rfl:=iL cT;refine Calls.mono (AnyM.slices_Sort_int_none QU A c w) λx w' ⟨hx,hw⟩=>⟨_,hx,O,?_⟩
 subst hw;have e:fb []=[]:=iL (tD []).length_eq;rw[e,Fe hk];exact hS
theorem ae7(i:Nat){A:ai}{n c:Nat}(hS:St w0 w ks)(hk:ks[i]?=some (av t A n c xs))(hn:n<=1000000000):
 aF prog 82 [.slice A n c] w (λv w'=>v=.slice A (lj xs).length c/\St w0 w' (ks.set i (av t A (lj xs).length c (lj xs)))):=by
 by_cases h0:0<n
 ·exact ae9 i hS hk h0 hn
 obtain rfl:n=0:=by omega
 have cT:=hS.Bw i hk;obtain rfl:=iL cT;have e:lj []=[]:=iL (Nat.le_zero.1 (Nb []));rw[e];refine bn func82 O ntmps82 O (bM O) ?_;refine aY O (aR O O (ay O ?_));refine vY O am (dE O (dV O ?_));exact⟨O,by rw[show([]:ah).length=0 from O,Fe hk];exact hS⟩
def adJ(m:Nat)(ps:List (Int×Int)):ag:=ps.foldl (λB p=>B.set p.1.toNat (gl B p.1++[p.2])) (List.replicate m [])
theorem abq{α:Type}{P:List α->Prop}(h0:P [])(h1:∀l a,P l->P (l++[a]))(l:List α):P l:=by
 have:∀(n:Nat)(l:List α),l.length=n->P l:=by
  intro n
  induction n with
  |zero=>intro l hl;rw[iL hl];exact h0
  |succ n ih=>
   intro l hl;have bN:l≠[]:=by intro e;rw[e]at hl;simp at hl
   rw[<-List.dropLast_concat_getLast bN];exact h1 _ _ (ih _ (by simp[hl]))
 exact this _ l O
def af4(m:Nat)(ps:List (Int×Int)):ag:=(adJ m ps).map cs
def abU(xss:ag):Nat:=(kC xss 0).toNat
def ML(En:ag):Nat->List (Int×Int)
 |0=>[]
 |e+1=>if(gl En e).length=2 then(ML En e++[(gi (gl En e) 0,gi (gl En e) 1)])++[(gi (gl En e) 1,gi (gl En e) 0)]else ML En e
def ZT(xss:ag):ag:=af4 (abU xss) (ML (UF xss) (Nr xss))
theorem anU{A:ai}{n c:Nat}{rs:List aE}{xss:ag}{i:Nat}{s:aE}(hr:rs.length=xss.length)(hi:i<rs.length):aX t1 A n c (rs.set i s)::(cC t2 rs xss++ks).set i (av t2 s.a s.n s.c xs)=aV t1 t2 A n c (rs.set i s) (xss.set i xs)++ks:=by
 rw[List.set_append_left _ _ (by rw[xA hr];exact hi),HY hr];rfl
theorem ZE{A:ai}{n c:Nat}{rs:List aE}{xss:ag}(h:rs.length=xss.length):(aV t1 t2 A n c rs xss).length=rs.length+1:=by simp[aV,xA h]
section
variable {P:Program}{N:Nat}{ops:Array Oper}{K:Env->aa->Prop}{rest:List Oper}{e:Env}{w0 w w':aa}{ks:List Ck}{d:Nat}{ty:ad}{pos:String}{af:Array Edge}
theorem BS{el:ad}{x:ae}{v0 v1 v2:ab}(hS:St w0 w ks)(hx:ev e x=.agg #[v0,v1,v2])(hb:Nat.blt d N=true)(hK:∀A w',St w0 w' (Bx el 3 A [v0,v1,v2]::ks)->ak P N ops K rest (bE e d (.pointer A)) w')(hM:eV [v0,v1,v2]=false:=by rfl):ak P N ops K (⟨some d,.box el x,ty,pos,af,none⟩::rest) e w:=.FQ hS hx hb rfl hK hM
theorem we{el:ad}{v0 v1 v2:ab}{s b:Nat}[bL P el (.agg #[v0,v1,v2]) s b](hS:St w0 w ks)(hb:Nat.blt d N=true)(hK:∀A w',St w0 w' (Bx el 3 A [v0,v1,v2]::ks)->ak P N ops K rest (bE e d (.pointer A)) w')(hM:eV [v0,v1,v2]=false:=by rfl):ak P N ops K (⟨some d,.alloc el,ty,pos,af,none⟩::rest) e w:=.new (el:=el) (z:=.agg #[v0,v1,v2]) (s:=s) (b:=b) hS hb rfl hK hM
end
structure PS where
 im:ag
 ls:ah
def rC(ls:ah):Nat->Int->Option Int
 |0,_=>none
 |k+1,c=>if 0<=c/\c<(ls.length:Int)then(if gi ls c=c then some c else rC ls k (gi ls c))else none
def pT(x:PS)(c g:Int):Option Int:=
 if 0<=c/\c<(x.im.length:Int)/\0<=g/\g<((gl x.im c).length:Int)then(if gi (gl x.im c) g<0 then some (-1)else rC x.ls 2000 (gi (gl x.im c) g))else none
def DQ(x:PS)(aZ:Nat):Option PS:=
 if x.ls.length=x.im.length/\x.ls.length<2000/\aZ<=100 then some ⟨x.im++[List.replicate aZ (-1)],x.ls++[(x.ls.length:Int)]⟩else none
structure LS where
 A:ai
 n:Nat
 c:Nat
 rs:List aE
 im:ag
 B:ai
 m:Nat
 cB:Nat
 ls:ah
def LS.ok(x:LS):Prop:=x.rs.length=x.n/\x.im.length=x.n/\x.ls.length=x.m
abbrev LS.iM(x:LS):List Ck:=av 2 x.B x.m x.cB x.ls::aV 27 2 x.A x.n x.c x.rs x.im
abbrev LS.cells(x:LS):List ab:=[.slice x.A x.n x.c,.slice x.B x.m x.cB,.bool false]
abbrev LS.val(x:LS):ab:=.agg #[.slice x.A x.n x.c,.slice x.B x.m x.cB,.bool false]
def LS.p(x:LS):PS:=⟨x.im,x.ls⟩
theorem QI{A B:ai}{n c m cB:Nat}{b:Bool}(ls:ah)(k0:Nat)(c0 d:Int)(w:aa)(hR:bu w B m ls)(hf:rC ls k0 c0=some d):
 aF prog 171 [.agg #[.slice A n c,.slice B m cB,.bool b],aj c0] w (λv w'=>v=aj d/\St w w' []):=by
 have hl:=hR.1;refine bn func171 O ntmps171 O (bM O) (aY O (BS (St.refl w) O O ?_));intro Ab w1 hS;refine ay O (Cd.loop (α:=Int×Nat) (λs=>[(1,aj s.1),(2,.pointer Ab)]) (λs w'=>St w w' [Bx 138 3 Ab [.slice A n c,.slice B m cB,.bool b]]/\rC ls s.2 s.1=some d) (λs=>s.2) (c0,k0) (auV O) ⟨hS,hf⟩ ?_);rintro⟨c,k⟩ e w1 ⟨hS,hf⟩;obtain⟨q,rfl⟩:∃q,k=q+1:=by cases k with|zero=>cases hf|succ q=>exact⟨q,rfl⟩
 have hf:(if 0<=c/\c<(ls.length:Int)then(if gi ls c=c then some c else rC ls q (gi ls c))else none)=some d:=hf
 split at hf
 case isFalse=>cases hf
 rename_i hc;have eW:=hS.dq hR;refine aY O (aS (hS.rd 0 O) O (a6 (hS.rd 0 O) O (aq O (aA eW.2 O (bg eW O (ay O ?_))))));refine aK _ O (λh1=>?_) (λh1=>?_)
 ·rw[aD h1]at hf;refine aC O (aS (hS.rd 0 O) O (a6 (hS.rd 0 O) O (aq O (aA eW.2 O (bg eW O ?_)))));refine aN O (tQ ?_);exact⟨(gi ls c,q),Nat.lt_succ_self q,(auV O),hS,hf⟩
 have h1:gi ls c=c:=Decidable.not_not.1 h1;rw[aG h1]at hf;obtain rfl:=cn hf;refine ba O (bc (ew O ?_));exact gj O ⟨O,hS.none⟩
theorem HD{A B:ai}{n c m cB:Nat}{b:Bool}(rs:List aE)(im:ag)(ls:ah)(c0 g d:Int)(w:aa)(hI:bH w A n rs im)(hR:bu w B m ls)(hf:pT ⟨im,ls⟩ c0 g=some d):
 aF prog 127 [.agg #[.slice A n c,.slice B m cB,.bool b],aj c0,aj g] w (λv w'=>v=aj d/\St w w' []):=by
 have hl:=hI.len;have hf:(if 0<=c0/\c0<(im.length:Int)/\0<=g/\g<((gl im c0).length:Int)then(if gi (gl im c0) g<0 then some (-1)else rC ls 2000 (gi (gl im c0) g))else none)=some d:=hf
 split at hf
 case isFalse=>cases hf
 rename_i hc;have br:=hI.at_ (i:=c0) hc.1 ac;have bT:=br.1;refine bn func127 O ntmps127 O (bM O) (aY O (BS (St.refl w) O O ?_));intro Ab w1 hS;have nJ:=hS.bU hI;have nj:=hS.dq br;have eW:=hS.dq hR;refine aq O (aS (hS.rd 0 O) O (a6 (hS.rd 0 O) O (aq O (aA nJ.top.2 O (bw nJ.top O (aq O (aA nj.2 O (bg nj O (ay O ?_)))))))));refine aK _ O (λh1=>?_) (λh1=>?_)
 ·rw[aG h1]at hf;obtain rfl:=cn hf;refine dE O (gj O ?_);exact⟨O,hS.none⟩
 rw[aD h1]at hf;refine aC O (cG 2 (hS.rd 0 O) O O O (aq O (aI (QI ls 2000 _ d _ eW hf) O ?_)));rintro _ w2 ⟨rfl,aw⟩;refine bR O (gj O ?_);exact⟨O,(hS.ao aw.below).none⟩
theorem Ze{w0 w:aa}{ks:List Ck}(x:LS)(aZ:Nat)(y:PS)(bD:x.ok)(hS:St w0 w (x.iM++ks))(hp:DQ x.p aZ=some y):
 aF prog 168 [x.val,aj aZ] w (λv w'=>∃x':LS,x'.ok/\x'.p=y/\v=.tuple #[x'.val,aj (x.m:Int)]/\St w0 w' (x'.iM++ks)):=by
 obtain⟨A,n,c,rs,im,B,m,cB,ls⟩:=x;obtain⟨h1,h2,h3⟩:=bD;have h1:rs.length=n:=h1;have h2:im.length=n:=h2;have h3:ls.length=m:=h3;have hp:(if ls.length=im.length/\ls.length<2000/\aZ<=100 then some (⟨im++[List.replicate aZ (-1)],ls++[(ls.length:Int)]⟩:PS)else none)=some y:=hp
 split at hp
 case isFalse=>cases hp
 rename_i hc;have hp:=cn hp;have hS:St w0 w (av 2 B m cB ls::aX 27 A n c rs::(cC 2 rs im++ks)):=hS;refine bn func168 O ntmps168 O (tw O O) (aY O (BS hS O O ?_));intro Ab w1 ax;refine we ax O ?_;intro Ac w2 az;have az:St w0 w2 (Bx 138 3 Ac [.slice none 0 0,.slice none 0 0,.bool false]::Bx 138 3 Ab [.slice A n c,.slice B m cB,.bool false]::av 2 B m cB ls::aX 27 A n c rs::(cC 2 rs im++ks)):=az;refine aq O (aS (az.rd 1 O) O (a6 (az.rd 1 O) O ?_));refine aR O O (ay O ?_);refine fq O (aC O (jy az O ?_));intro A3 w3 aM;refine ay O (Cd.loop (α:=Nat×ai×Nat) (λs=>[(1,aj aZ),(2,.pointer Ab),(4,.pointer Ac),(6,aj m),(7,.slice s.2.1 s.1 s.2.2),(8,aj (s.1:Int))]) (λs w'=>St w0 w' (av 2 s.2.1 s.1 s.2.2 (List.replicate s.1 (-1))::Bx 138 3 Ac [.slice none 0 0,.slice none 0 0,.bool false]::Bx 138 3 Ab [.slice A n c,.slice B m cB,.bool false]::av 2 B m cB ls::aX 27 A n c rs::(cC 2 rs im++ks))/\s.1<=aZ) (λs=>aZ-s.1) (0,A3,0) (auV O) ⟨aM,bl _⟩ ?_);rintro⟨k,A4,c4⟩ e w4 ⟨aU,hk⟩;dsimp only at aU hk;refine bC O (aK _ O (λh4=>?_) (λh4=>?_))
 ·refine aC O (eh aU O O O ?_);intro A5 w5 aO;refine eQ 1 aO O (aO.bF 0 O) O O O λA6 c6 w6 bk=>aq O (aJ O (aN O (tQ ?_)));refine⟨(k+1,A6,c6),by show aZ-(k+1)<aZ-k;omega,(auV O),?_,by show k+1<=aZ;omega⟩;have h5:=bk.tail;rw[<-List.replicate_succ']at h5;exact h5
 have th:k=aZ:=by omega
 subst th;refine ba O (bc (bY O ?_));refine aS (aU.rd 2 O) O (a6 (aU.rd 2 O) O (aq O (jW aU O O O ?_)));intro A5 w5 aO;refine iT 5 aO O (aO.dm 0 O) O O O ac ac O ?_;intro A6 c6 w6 bk;have bk:St w0 w6 (av 2 A4 k c4 (List.replicate k (-1))::Bx 138 3 Ac [.slice none 0 0,.slice none 0 0,.bool false]::Bx 138 3 Ab [.slice A n c,.slice B m cB,.bool false]::av 2 B m cB ls::aX 27 A6 (n+1) c6 (rs++[⟨A4,k,c4⟩])::(cC 2 rs im++ks)):=bk.tail;refine aS (bk.rd 2 O) O (oR 2 bk O O O O O ?_);intro w7 bp;have bp:St w0 w7 (av 2 A4 k c4 (List.replicate k (-1))::Bx 138 3 Ac [.slice none 0 0,.slice none 0 0,.bool false]::Bx 138 3 Ab [.slice A6 (n+1) c6,.slice B m cB,.bool false]::av 2 B m cB ls::aX 27 A6 (n+1) c6 (rs++[⟨A4,k,c4⟩])::(cC 2 rs im++ks)):=bp;refine aq O (aS (bp.rd 2 O) O (a6 (bp.rd 2 O) O (aq O (eh bp O O O ?_))));intro A8 w8 bB;refine eQ 4 bB O (bB.bF 0 O) O O O ?_;intro A9 c9 w9 bj;have bj:St w0 w9 (av 2 A4 k c4 (List.replicate k (-1))::Bx 138 3 Ac [.slice none 0 0,.slice none 0 0,.bool false]::Bx 138 3 Ab [.slice A6 (n+1) c6,.slice B m cB,.bool false]::av 2 A9 (m+1) c9 (ls++[(m:Int)])::aX 27 A6 (n+1) c6 (rs++[⟨A4,k,c4⟩])::(cC 2 rs im++ks)):=bj.tail;refine aS (bj.rd 2 O) O (oR 2 bj O O O O O ?_);intro dJ cQ;have cQ:St w0 dJ (av 2 A4 k c4 (List.replicate k (-1))::Bx 138 3 Ac [.slice none 0 0,.slice none 0 0,.bool false]::Bx 138 3 Ab [.slice A6 (n+1) c6,.slice A9 (m+1) c9,.bool false]::av 2 A9 (m+1) c9 (ls++[(m:Int)])::aX 27 A6 (n+1) c6 (rs++[⟨A4,k,c4⟩])::(cC 2 rs im++ks)):=cQ;refine aq O (cG 2 (cQ.rd 2 O) O O O (aq O (dU 3 1 cQ O O O O O O O ?_)));intro eO dA;have dA:St w0 eO (av 2 A4 k c4 (List.replicate k (-1))::Bx 138 3 Ac [.slice A6 (n+1) c6,.slice A9 (m+1) c9,.bool false]::Bx 138 3 Ab [.slice A6 (n+1) c6,.slice A9 (m+1) c9,.bool false]::av 2 A9 (m+1) c9 (ls++[(m:Int)])::aX 27 A6 (n+1) c6 (rs++[⟨A4,k,c4⟩])::(cC 2 rs im++ks)):=dA;refine bR O (oI O (dA.rd 1 O) O ?_);refine⟨⟨A6,n+1,c6,rs++[⟨A4,k,c4⟩],im++[List.replicate k (-1)],A9,m+1,c9,ls++[(m:Int)]⟩,⟨by simp[h1],by simp[h2],by simp[h3]⟩,?_,O,?_⟩
 ·rw[<-hp,h3];rfl
 have h5:=(dA.sub ((((fD _).cons _).cons _).cons_cons _));show St w0 eO (av 2 A9 (m+1) c9 (ls++[(m:Int)])::aX 27 A6 (n+1) c6 (rs++[⟨A4,k,c4⟩])::(cC 2 (rs++[⟨A4,k,c4⟩]) (im++[List.replicate k (-1)])++ks));rw[tA (by omega),ef];refine h5.perm ((mO (l₁:=[_,_]) (a:=av 2 A4 k c4 (List.replicate k (-1)))).symm.trans ?_);refine List.Perm.cons _ (List.Perm.cons _ ?_);exact mO.symm
def lF(M:ag)(c g v:Int):ag:=M.set c.toNat ((gl M c).set g.toNat v)
def EW(x:PS)(c g:Int):Option (PS×Int):=
 match pT x c g with
 |none=>none
 |some d=>if 0<=d then some (x,d)else
  match DQ x (gl x.im 0).length with
  |none=>none
  |some y=>if g<((gl x.im 0).length:Int)then some (⟨lF (lF y.im c g (x.ls.length:Int)) (x.ls.length:Int) g c,y.ls⟩,(x.ls.length:Int))else none
theorem St.nW{w0 w:aa}{pre a ks:List Ck}(h:St w0 w (pre++(a++ks))):St w0 w (a++(pre++ks)):=h.perm (by
 rw[<-ef,<-ef];exact gL.append_right ks)
def DD(w0:aa)(pre:List Ck)(ks:List Ck)(y:PS)(x:LS)(w:aa):Prop:=x.ok/\x.p=y/\St w0 w (pre++(x.iM++ks))
theorem LS.fO{w0 w:aa}{pre ks:List Ck}{x:LS}(bD:x.ok)(h:St w0 w (pre++(x.iM++ks))):bH w x.A x.n x.rs x.im:=by
 have h1:St w0 w (x.iM++(pre++ks)):=h.nW;have h2:St w0 w (aV 27 2 x.A x.n x.c x.rs x.im++(pre++ks)):=h1.tail;exact h2.fO bD.2.1
theorem LS.bF{w0 w:aa}{pre ks:List Ck}{x:LS}(h:St w0 w (pre++(x.iM++ks))):bu w x.B x.m x.ls:=by
 have h1:St w0 w (x.iM++(pre++ks)):=h.nW;exact h1.bF 0 O
theorem QJ{w0 w:aa}{ks:List Ck}(x:LS)(c g:Int)(y:PS)(d:Int)(bD:x.ok)(hS:St w0 w (x.iM++ks))(hp:EW x.p c g=some (y,d)):
 aF prog 170 [x.val,aj c,aj g] w (λv w'=>∃x':LS,x'.ok/\x'.p=y/\v=.tuple #[x'.val,aj d]/\St w0 w' (x'.iM++ks)):=by
 unfold EW at hp
 split at hp
 case h_1=>cases hp
 rename_i d0 pH;have sb:0<=c/\c<(x.im.length:Int)/\0<=g/\g<((gl x.im c).length:Int):=by
  have WZ:(if 0<=c/\c<(x.im.length:Int)/\0<=g/\g<((gl x.im c).length:Int)then(if gi (gl x.im c) g<0 then some (-1)else rC x.ls 2000 (gi (gl x.im c) g))else none)=some d0:=pH
  split at WZ
  case isFalse=>cases WZ
  rename_i h;exact h
 obtain⟨ci,rfl⟩:∃ci:Nat,c=ci:=⟨c.toNat,ac⟩;have Gs:=LS.bF (pre:=[]) hS;have oY:=LS.fO (pre:=[]) bD hS;refine bn func170 O ntmps170 O (tw O O) (aY O (BS hS O O ?_));intro Ab w1 ax;refine we ax O ?_;intro Ac w2 az;have az:St w0 w2 ([Bx 138 3 Ac [.slice none 0 0,.slice none 0 0,.bool false],Bx 138 3 Ab x.cells]++(x.iM++ks)):=az;have nK:=LS.bF az;have qu:=LS.fO bD az;refine aq O (cG 2 (az.rd 1 O) O O O (aq O (aI (HD x.rs x.im x.ls ci g d0 _ qu nK pH) O ?_)));rintro _ w3 ⟨rfl,aw⟩;have aM:=az.ao aw.below;refine ay O (aK _ O (λh1=>?_) (λh1=>?_))
 ·rw[aG h1]at hp;obtain⟨rfl,rfl⟩:=Prod.mk.inj (cn hp);refine aC O (cG 2 (aM.rd 1 O) O O O (aq O (dU 3 0 aM O O O O O O O ?_)));intro w4 aU;refine bR O (oI O (aU.rd 0 O) O ?_);exact⟨x,bD,O,O,(aU.sub ((fD _).cons _)).sub ((fD _).cons _)⟩
 rw[aD h1]at hp
 split at hp
 case h_1=>cases hp
 rename_i y1 ux
 split at hp
 case isFalse=>cases hp
 rename_i hg;obtain⟨e1,e2⟩:=Prod.mk.inj (cn hp);have D7:=qu.ao aw.below;have hn:0<x.n:=by have:=bD.2.1;omega
 have br:=D7.at_ (i:=0) (Int.le_refl _) ac;have bT:(rg x.rs 0).n=(gl x.im 0).length:=br.1.symm;refine cM O ?_;refine iu [6,10] [.ex (.agg #[.slice (x.A) (x.n) (x.c),.slice (x.B) (x.m) (x.cB),.bool (false)]),yP (aH (Ab) 0),yS (x.A) (x.n) (x.c),yP (aH (x.A) ((0:Int)).toNat),yS ((rg (x.rs) ((0:Int))).a) ((rg (x.rs) ((0:Int))).n) ((rg (x.rs) ((0:Int))).c),yI ((((rg (x.rs) ((0:Int))).n:Nat):Int)),.pr (λv w'=>∃x':LS,v=.tuple #[x'.val,aj (x.m:Int)]/\DD w0 [Bx 138 3 Ac [.slice none 0 0,.slice none 0 0,.bool false],Bx 138 3 Ab x.cells] ks y1 x' w'),.al (λv=>∃u0,v=.tuple #[u0,aj (x.m:Int)]) (λv w'=>∃x':LS,v=.tuple #[x'.val,aj (x.m:Int)]/\DD w0 [Bx 138 3 Ac [.slice none 0 0,.slice none 0 0,.bool false],Bx 138 3 Ab x.cells] ks y1 x' w'),.pr (λv w'=>∃x':LS,v=x'.val/\DD w0 [Bx 138 3 Ac [.slice none 0 0,.slice none 0 0,.bool false],Bx 138 3 Ab x.cells] ks y1 x' w'),yI (x.m:Int),.pr (λ_ w'=>∃x':LS,DD w0 [Bx 138 3 Ac [.slice none 0 0,.slice none 0 0,.bool false],Bx 138 3 Ab x'.cells] ks y1 x' w'),yI (x.m:Int)] (ly (ly (ly (ly (ly (ly (bV.2 ⟨Ye.bW (λv w w' h hb=>by obtain⟨x',hv,h1,h2,h3⟩:=h;exact⟨x',hv,h1,h2,h3.ao hb⟩),(bV.2 ⟨adb (λv w w' h hb=>by obtain⟨x',hv,h1,h2,h3⟩:=h;exact⟨x',hv,h1,h2,h3.ao hb⟩),(bV.2 ⟨Ye.bW (λv w w' h hb=>by obtain⟨x',hv,h1,h2,h3⟩:=h;exact⟨x',hv,h1,h2,h3.ao hb⟩),(ly (bV.2 ⟨Ye.bW (λv w w' h hb=>by obtain⟨x',h1,h2,h3⟩:=h;exact⟨x',h1,h2,h3.ao hb⟩),(ly (λ_ h=>by cases h))⟩))⟩)⟩)⟩))))))) ?_ ?_
 ·refine⟨cP λ_ _ hb _ _ _=>cG 2 ((aM.rd 1 O).below hb) O O O (bA O O),cP λ_ _ hb _ _ _=>aS ((aM.rd 1 O).below hb) O (bA O O),cP λ_ _ hb _ _ _=>a6 ((aM.rd 1 O).below hb) O (bA O O),cP λ_ _ hb _ _ _=>aA (D7.top.ao hb).2 O (bA O O),cP λ_ _ hb _ _ _=>bw (D7.top.ao hb) O (bA O O),aP λ_ _=>aR O O (bA O O),?_,?_,?_,?_,?_,bP O,au⟩
  ·refine iF λe1 w1 hb hp aW hq=>?_
   refine auM (Ze x (gl x.im 0).length y1 bD ((aM.ao hb).nW (pre:=[_,_])) ux) O (by rw[<-bT];rfl) O ?_;rintro _ w4 ⟨x',gQ,gR,rfl,hT⟩;exact ak.n (dS.dn O ⟨x',O,gQ,gR,hT.nW⟩)
  ·refine dP 1 λe1 w1 hp aW hq=>?_
   have cg:=hp 6 _ _ an O O an;obtain⟨x',hv,hT⟩:=(hp 6 _ _ an rfl rfl an);refine MB O (by exact hv) O (ak.n ?_);exact eD.dn O (Below.refl _ _) ⟨⟨_,O⟩,x',O,hT⟩
  ·refine dP 1 λe1 w1 hp aW hq=>?_
   have cg:=hp 6 _ _ an O O an;obtain⟨x',hv,hT⟩:=((hp 7 _ _ an rfl rfl).2 an);refine ak.extract (by exact hv) O O (ak.n ?_);exact eD.dn O (Below.refl _ _) ⟨x',O,hT⟩
  ·intro e1 w1 cc eL cI dC hp aW hq;show ak _ _ _ _ _ _ _;obtain⟨u0,hv⟩:=(hp 7 _ _ an rfl rfl).1;refine ak.extract (by exact hv) O O (ak.n ?_);exact eD.dn O (Below.refl _ _) O
  refine kB 1 λe1 w1 hp aW hq=>?_
  have cg:=hp 6 _ _ an O O an;obtain⟨x',hv,h1,h2,h3⟩:=(hp 8 _ _ an rfl rfl an);refine dU 3 1 h3 O O (by exact hv) O O O O ?_;intro eO oq;exact ak.n (dS.st O ⟨x',h1,h2,oq⟩)
 intro u w5 _ hu _ _;obtain⟨x',gQ,gR,hT⟩:=hu 10 _ rfl an;have pS:x.ls.length=x.m:=bD.2.2;have nN:=ux;have ux:(if x.ls.length=x.im.length/\x.ls.length<2000/\(gl x.im 0).length<=100 then some (⟨x.im++[List.replicate (gl x.im 0).length (-1)],x.ls++[(x.ls.length:Int)]⟩:PS)else none)=some y1:=ux
 split at ux
 case isFalse=>cases ux
 rename_i fh;obtain rfl:=cn ux;have ln:x'.im=x.im++[List.replicate (gl x.im 0).length (-1)]:=aQ PS.im gR;have Xw:x'.ls=x.ls++[(x.ls.length:Int)]:=aQ PS.ls gR;have ib:g<((gl x.im 0).length:Int):=hg;have tj:x'.n=x.n+1:=by have:=gQ.2.1;rw[ln,cj]at this;have h5:=bD.2.1;simp at this;omega
 have CA:St w0 w5 ([Bx 138 3 Ac [.slice none 0 0,.slice none 0 0,.bool false],Bx 138 3 Ab x'.cells]++(x'.iM++ks)):=hT;have k7:St w0 w5 ([Bx 138 3 Ac [.slice none 0 0,.slice none 0 0,.bool false],Bx 138 3 Ab x'.cells,av 2 x'.B x'.m x'.cB x'.ls]++(aV 27 2 x'.A x'.n x'.c x'.rs x'.im++ks)):=hT;have OG:=LS.fO gQ CA;have cE:x.im.length=x.n:=bD.2.1;have uq:=OG.at_ (i:=(ci:Int)) sb.1 ac;have egl:gl x'.im ci=gl x.im ci:=by
  rw[ln];simp only[gl,gx,b5];rw[jF (by omega)]
 have egm:gl x'.im (x.m:Int)=List.replicate (gl x.im 0).length (-1):=by
  rw[ln];simp only[gl,gx,b5];rw[jM (by omega)];simp[show x.m-x.im.length=0 by omega]
 have X4:(rg x'.rs ci).n=(gl x.im ci).length:=by rw[<-uq.1,egl]
 have Hi:x'.rs.length=x'.im.length:=by rw[gQ.1,gQ.2.1]
 refine gq O (aS (k7.rd 1 O) O (tK (k7.rd 1 O) O O O O O (ay O (Cd.cX O (aC O (aS (k7.rd 1 O) O (a6 (k7.rd 1 O) O (aq O (aA OG.top.2 O ?_)))))))));refine bw OG.top O (aq O (aA uq.2 O ?_));refine zH ci k7 Hi (by rw[gQ.1];omega) O O ac ?_;intro w6 k8;have G7:({ x' with im:=x'.im.set ci ((gl x'.im ci).set g.toNat (x.m:Int)) }:LS).ok:=⟨gQ.1,by show(x'.im.set _ _).length=_;rw[fR];exact gQ.2.1,gQ.2.2⟩;generalize Ht:({ x' with im:=x'.im.set ci ((gl x'.im ci).set g.toNat (x.m:Int)) }:LS)=x6 at G7;have Ou:x6.A=x'.A/\x6.n=x'.n/\x6.c=x'.c/\x6.rs=x'.rs/\x6.B=x'.B/\x6.m=x'.m/\x6.cB=x'.cB/\x6.ls=x'.ls/\x6.im=x'.im.set ci ((gl x'.im ci).set g.toNat (x.m:Int)):=by subst Ht;exact⟨rfl,rfl,rfl,rfl,rfl,rfl,rfl,rfl,rfl⟩
 obtain⟨q1,q2,q3,q4,q5,q6,q7,q8,q9⟩:=Ou;have CC:St w0 w6 ([Bx 138 3 Ac [.slice none 0 0,.slice none 0 0,.bool false],Bx 138 3 Ab x'.cells]++(x6.iM++ks)):=by
  show St w0 w6 ([Bx _ 3 Ac _,Bx _ 3 Ab x'.cells]++((av _ x6.B x6.m x6.cB x6.ls::aV _ _ x6.A x6.n x6.c x6.rs x6.im)++ks));rw[q1,q2,q3,q4,q5,q6,q7,q8,q9];exact k8
 have yg:=LS.fO G7 CC;have C1:=yg.at_ (i:=(x.m:Int)) ac ac;have Ns:gl x6.im (x.m:Int)=List.replicate (gl x.im 0).length (-1):=by
  rw[q9,DZ (by rw[ln,cj];omega),aD (by omega),egm]
 have yH:(rg x6.rs (x.m:Int)).n=(gl x.im 0).length:=by rw[<-C1.1,Ns,List.length_replicate]
 refine aq O (aS (CC.rd 1 O) O (a6 (CC.rd 1 O) O (aq O ?_)));rw[q1,q2,q4]at yg;rw[q4]at C1 yH;refine aA yg.top.2 O (bw yg.top O (aq O (aA C1.2 O ?_)));have o4:St w0 w6 ([Bx 138 3 Ac [.slice none 0 0,.slice none 0 0,.bool false],Bx 138 3 Ab x'.cells,av 2 x'.B x'.m x'.cB x'.ls]++(aV 27 2 x'.A x'.n x'.c x'.rs x6.im++ks)):=by
  rw[q9];exact k8
 refine zH x.m o4 (by rw[q9,fR];exact Hi) (by rw[gQ.1];omega) O O ac ?_;intro w8 o5;refine aq O (cG 2 (o5.rd 1 O) O O O (aq O (dU 3 0 o5 O O O O O O O ?_)));intro w9 fg;refine bR O (oI O (fg.rd 0 O) O ?_);refine⟨{ x' with im:=x6.im.set x.m ((gl x6.im (x.m:Int)).set g.toNat (ci:Int)) },⟨gQ.1,by show(x6.im.set _ _).length=_;rw[fR,q9,fR];exact gQ.2.1,gQ.2.2⟩,?_,?_,(fg.sub ((fD _).cons _)).sub ((fD _).cons _)⟩
 ·rw[<-e1];show(⟨x6.im.set x.m ((gl x6.im (x.m:Int)).set g.toNat (ci:Int)),x'.ls⟩:PS)=_;rw[q9,ln,Xw];unfold lF;simp only[gx];have e9:x.p.ls.length=x.m:=pS;rw[e9]
 rw[<-e2];have e9:x.p.ls.length=x.m:=pS;rw[e9]
 rfl
def vJ(M:ag)(c d g:Int):ag:=lF (lF M c g d) d g c
theorem Sa(M:ag)(c g v:Int):(lF M c g v).length=M.length:=by simp[lF]
theorem anz(M:ag)(c d g:Int):(vJ M c d g).length=M.length:=by simp[vJ,Sa]
abbrev LS.pt(T:ai)(x:LS):List Ck:=Bx 133 3 T x.cells::x.iM
theorem DC{w0 w:aa}{T:ai}{ks:List Ck}{x:LS}(bD:x.ok)(h:St w0 w (x.pt T++ks)):bH w x.A x.n x.rs x.im:=LS.fO (pre:=[Bx 133 3 T x.cells]) bD h
theorem Mv{w0 w:aa}{T:ai}{ks:List Ck}{x:LS}(h:St w0 w (x.pt T++ks)):bu w x.B x.m x.ls:=LS.bF (pre:=[Bx 133 3 T x.cells]) h
theorem NF{w0 w:aa}{ks:List Ck}{T:ai}(x:LS)(k0:Nat)(c0 d:Int)(bD:x.ok)(hS:St w0 w (x.pt T++ks))(hf:rC x.ls k0 c0=some d):
 aF prog 166 [.pointer T,aj c0] w (λv w'=>v=aj d/\w'=w):=by
 have hR:=Mv hS;have hl:=hR.1;refine bn func166 O ntmps166 O (bM O) (bC O ?_);refine Cd.loop (α:=Int×Nat) (λs=>[(0,.pointer T),(1,aj s.1)]) (λs w'=>w'=w/\rC x.ls s.2 s.1=some d) (λs=>s.2) (c0,k0) (auV O) ⟨O,hf⟩ ?_;rintro⟨c,k⟩ e w1 ⟨rfl,hf⟩;obtain⟨q,rfl⟩:∃q,k=q+1:=by cases k with|zero=>cases hf|succ q=>exact⟨q,rfl⟩
 have hf:(if 0<=c/\c<(x.ls.length:Int)then(if gi x.ls c=c then some c else rC x.ls q (gi x.ls c))else none)=some d:=hf
 split at hf
 case isFalse=>cases hf
 rename_i hc;refine aY O (dX (hS.rd 0 O) (Nat.succ_pos _) O O (aS (hS.rd 0 O) O (a6 (hS.rd 0 O) O (aq O (aA hR.2 O (bg hR O (ay O ?_)))))));refine aK _ O (λh1=>?_) (λh1=>?_)
 ·rw[aD h1]at hf;refine aC O (dX (hS.rd 0 O) (Nat.succ_pos _) O O (aS (hS.rd 0 O) O (a6 (hS.rd 0 O) O (aq O (aA hR.2 O (bg hR O ?_))))));refine aN O (tQ ?_);exact⟨(gi x.ls c,q),Nat.lt_succ_self q,(auV O),O,hf⟩
 have h1:gi x.ls c=c:=Decidable.not_not.1 h1;rw[aG h1]at hf;obtain rfl:=cn hf;refine ba O (bc (ew O ?_));exact gj O ⟨O,O⟩
theorem K0{w0 w:aa}{ks:List Ck}{T:ai}(x:LS)(c0 g d:Int)(bD:x.ok)(hS:St w0 w (x.pt T++ks))(hf:pT x.p c0 g=some d):
 aF prog 122 [.pointer T,aj c0,aj g] w (λv w'=>v=aj d/\w'=w):=by
 have hI:=DC bD hS;have hl:=hI.len;have hf:(if 0<=c0/\c0<(x.im.length:Int)/\0<=g/\g<((gl x.im c0).length:Int)then(if gi (gl x.im c0) g<0 then some (-1)else rC x.ls 2000 (gi (gl x.im c0) g))else none)=some d:=hf
 split at hf
 case isFalse=>cases hf
 rename_i hc;have br:=hI.at_ (i:=c0) hc.1 ac;have bT:=br.1;refine bn func122 O ntmps122 O (bM O) (aY O (dX (hS.rd 0 O) (Nat.succ_pos _) O O (aS (hS.rd 0 O) O (a6 (hS.rd 0 O) O (aq O (aA hI.top.2 O (bw hI.top O (aq O (aA br.2 O ?_)))))))));refine bg br O (ay O ?_);refine aK _ O (λh1=>?_) (λh1=>?_)
 ·rw[aD (by omega)]at hf;refine aC O (aI (NF x 2000 _ d bD hS hf) O ?_);rintro _ w2 ⟨rfl,rfl⟩;refine bR O (gj O ?_);exact⟨O,O⟩
 rw[aG (by omega)]at hf;obtain rfl:=cn hf;refine dE O (gj O ?_);exact⟨O,O⟩
theorem Zx{w0 w:aa}{ks:List Ck}{T:ai}(x:LS)(c d g:Int)(bD:x.ok)(hS:St w0 w (x.pt T++ks))(hc:0<=c/\c<(x.im.length:Int))(hd:0<=d/\d<(x.im.length:Int))(hg:0<=g/\g<((gl x.im c).length:Int)/\g<((gl x.im d).length:Int)):
 aF prog 165 [.pointer T,aj c,aj d,aj g] w (λ_ w'=>({ x with im:=vJ x.im c d g }:LS).ok/\St w0 w' (({ x with im:=vJ x.im c d g }:LS).pt T++ks)):=by
 have hI:=DC bD hS;have hl:=hI.len;obtain⟨ci,rfl⟩:∃ci:Nat,c=ci:=⟨c.toNat,ac⟩;obtain⟨di,rfl⟩:∃di:Nat,d=di:=⟨d.toNat,ac⟩;have KH:=hI.at_ (i:=(ci:Int)) hc.1 ac;have gI:=hI.at_ (i:=(di:Int)) hd.1 ac;have Xp:=KH.1;have hld:=gI.1;have bT:x.rs.length=x.im.length:=by rw[bD.1,bD.2.1]
 have tX:St w0 w ([Bx 133 3 T x.cells,av 2 x.B x.m x.cB x.ls]++(aV 27 2 x.A x.n x.c x.rs x.im++ks)):=hS;have XJ:({ x with im:=lF x.im ci g di }:LS).ok:=⟨bD.1,by show(lF _ _ _ _).length=_;rw[Sa];exact bD.2.1,bD.2.2⟩;have akk:({ x with im:=vJ x.im ci di g }:LS).ok:=⟨bD.1,by show(vJ _ _ _ _).length=_;rw[anz];exact bD.2.1,bD.2.2⟩;have hgd:g<((gl (lF x.im ci g di) di).length:Int):=by
  unfold lF;rw[DZ (by omega)]
  split
  ·rename_i h;rw[fR,<-Xp]at*;omega
  omega
 have hld1:(gl (lF x.im ci g di) di).length=(rg x.rs di).n:=by
  unfold lF;rw[DZ (by omega)]
  split
  ·rename_i h;rw[fR,Xp]
   congr 2
   omega
  exact hld
 refine bn func165 O ntmps165 O (vM O) ?_;refine iu [19,21] [yP (T),yP (T),yP (aH (T) 0),yS (x.A) (x.n) (x.c),yI ((ci:Int)),yP (aH (x.A) ((ci:Int)).toNat),yS ((rg (x.rs) ((ci:Int))).a) ((rg (x.rs) ((ci:Int))).n) ((rg (x.rs) ((ci:Int))).c),yI (g),yP (T),yP (T),yP (aH (T) 0),yS (x.A) (x.n) (x.c),yI ((di:Int)),yP (aH (x.A) ((di:Int)).toNat),yS ((rg (x.rs) ((di:Int))).a) ((rg (x.rs) ((di:Int))).n) ((rg (x.rs) ((di:Int))).c),yI (g),yI ((di:Int)),yI ((ci:Int)),yP (aH ((rg (x.rs) ((ci:Int))).a) (g).toNat),.pr (λ_ w'=>St w0 w' ([Bx 133 3 T x.cells,av 2 x.B x.m x.cB x.ls]++(aV 27 2 x.A x.n x.c x.rs (lF x.im ci g di)++ks))),yP (aH ((rg (x.rs) ((di:Int))).a) (g).toNat),.pr (λ_ w'=>St w0 w' ([Bx 133 3 T x.cells,av 2 x.B x.m x.cB x.ls]++(aV 27 2 x.A x.n x.c x.rs (vJ x.im ci di g)++ks)))] (ly (ly (ly (ly (ly (ly (ly (ly (ly (ly (ly (ly (ly (ly (ly (ly (ly (ly (ly (bV.2 ⟨Ye.bW (λv w w' h hb=>h.ao hb),(ly (bV.2 ⟨Ye.bW (λv w w' h hb=>h.ao hb),(λ_ h=>by cases h)⟩))⟩)))))))))))))))))))) ?_ ?_
 ·refine⟨bP O,cP λ_ _ hb _ _ _=>dX ((hS.rd 0 O).below hb) (Nat.succ_pos _) O O (bA O O),cP λ_ _ hb _ _ _=>aS ((hS.rd 0 O).below hb) O (bA O O),cP λ_ _ hb _ _ _=>a6 ((hS.rd 0 O).below hb) O (bA O O),bP O,cP λ_ _ hb _ _ _=>aA (hI.top.ao hb).2 O (bA O O),cP λ_ _ hb _ _ _=>bw (hI.top.ao hb) O (bA O O),bP O,bP O,cP λ_ _ hb _ _ _=>dX ((hS.rd 0 O).below hb) (Nat.succ_pos _) O O (bA O O),cP λ_ _ hb _ _ _=>aS ((hS.rd 0 O).below hb) O (bA O O),cP λ_ _ hb _ _ _=>a6 ((hS.rd 0 O).below hb) O (bA O O),bP O,cP λ_ _ hb _ _ _=>aA (hI.top.ao hb).2 O (bA O O),cP λ_ _ hb _ _ _=>bw (hI.top.ao hb) O (bA O O),bP O,bP O,bP O,cP λ_ _ hb _ _ _=>aA (KH.ao hb).2 O (bA O O),?_,?_,?_,au⟩
  ·refine iF λe1 w1 hb hp aW hq=>?_
   exact zH ci (tX.ao hb) bT ac O O ac λw9 fg=>ak.n (dS.st O fg)
  ·refine dP 1 λe1 w1 hp aW hq=>?_
   have cg:=hp 19 _ _ an O O an;have mr:bu _ (rg x.rs di).a (rg x.rs di).n (gl (lF x.im ci g di) di):=(DC (T:=T) (x:={ x with im:=lF x.im ci g di }) XJ cg).at_ (i:=(di:Int)) ac (by show(di:Int)<(x.n:Int);omega);refine aA (mr).2 O (ak.n (fp O ap))
  refine kB 1 λe1 w1 hp aW hq=>?_
  have cg:=hp 19 _ _ an O O an;have mr:bu _ (rg x.rs di).a (rg x.rs di).n (gl (lF x.im ci g di) di):=(DC (T:=T) (x:={ x with im:=lF x.im ci g di }) XJ cg).at_ (i:=(di:Int)) ac (by show(di:Int)<(x.n:Int);omega);refine zH di cg (by rw[Sa];exact bT) ac O O ac ?_;intro w9 fg;exact ak.n (dS.st O fg)
 intro u w5 _ hu _ _;have hT:=hu 21 _ O an;exact qU ⟨akk,hT⟩
theorem Uu{w0 w:aa}{ks:List Ck}{T:ai}(x:LS)(c g:Int)(y:PS)(bD:x.ok)(hS:St w0 w (x.pt T++ks))(hp:DQ x.p (gl x.im 0).length=some y)(h0:0<x.im.length)(hc:0<=c/\c<(x.im.length:Int))(hg:0<=g/\g<((gl x.im c).length:Int)/\g<((gl x.im 0).length:Int)):
 aF prog 121 [.pointer T,aj c,aj g] w (λv w'=>∃x':LS,x'.ok/\x'.p=⟨vJ y.im c (x.ls.length:Int) g,y.ls⟩/\v=aj (x.ls.length:Int)/\St w0 w' (x'.pt T++ks)):=by
 have hI:=DC bD hS;have hl:=hI.len;have hp:(if x.ls.length=x.im.length/\x.ls.length<2000/\(gl x.im 0).length<=100 then some (⟨x.im++[List.replicate (gl x.im 0).length (-1)],x.ls++[(x.ls.length:Int)]⟩:PS)else none)=some y:=hp
 split at hp
 case isFalse=>cases hp
 rename_i hb;obtain rfl:=cn hp;have iO:=hI.at_ (i:=0) (Int.le_refl _) ac;have X3:=iO.1;have G4:x.n=x.m:=by have:=bD.2.1;have:=bD.2.2;omega
 have bT:x.rs.length=x.im.length:=by rw[bD.1,bD.2.1]
 have G1:x.n<2000:=by omega
 have tX:St w0 w (Bx 133 3 T x.cells::av 2 x.B x.m x.cB x.ls::aX 27 x.A x.n x.c x.rs::(cC 2 x.rs x.im++ks)):=hS;have ax:St w0 w (Bx 133 3 T [.slice x.A x.n x.c,.slice x.B x.m x.cB,.bool false]::av 2 x.B x.m x.cB x.ls::aX 27 x.A x.n x.c x.rs::(cC 2 x.rs x.im++ks)):=tX;generalize hN:(gl x.im 0).length=N at X3 hb hg|-;subst X3;generalize Wf:(rg x.rs 0).n=N at hb hg|-;refine bn func121 O ntmps121 O (bM O) (aY O (dX (tX.rd 0 O) (Nat.succ_pos _) O O (aS (tX.rd 0 O) O (a6 (tX.rd 0 O) O (aI (BH x.A x.n x.c w) O ?_)))));rintro _ uw ⟨rfl,rfl⟩;refine ay O (fq O (cM O ?_));refine iu [15,18] [yP (T),yP (T),yP (T),yP (aH (T) 0),yS (x.A) (x.n) (x.c),.pr (λv w'=>∃A1,v=.slice A1 1 1/\St uw w' [av 2 A1 1 1 [-1]]),yP (T),yP (T),yP (aH (T) 0),yS (x.A) (x.n) (x.c),yP (aH (x.A) ((0:Int)).toNat),yS ((rg (x.rs) ((0:Int))).a) ((rg (x.rs) ((0:Int))).n) ((rg (x.rs) ((0:Int))).c),yI ((((rg (x.rs) ((0:Int))).n:Nat):Int)),.pr (λv w'=>∃A2,v=.slice A2 N N/\St uw w' [av 2 A2 N N (List.replicate N (-1))]),.pr (λv w'=>∃A2 A3,v=.slice A3 1 1/\St uw w' [aX 27 A3 1 1 [⟨A2,N,N⟩],av 2 A2 N N (List.replicate N (-1))]),.pr (λv w'=>∃A2 A4 c4,v=.slice A4 (x.n+1) c4/\St w0 w' (av 2 A2 N N (List.replicate N (-1))::Bx 133 3 T [.slice x.A x.n x.c,.slice x.B x.m x.cB,.bool false]::av 2 x.B x.m x.cB x.ls::aX 27 A4 (x.n+1) c4 (x.rs++[⟨A2,N,N⟩])::(cC 2 x.rs x.im++ks))),yP (T),yP (aH (T) 0),.pr (λ_ w'=>∃A2 A4 c4,St w0 w' (av 2 A2 N N (List.replicate N (-1))::Bx 133 3 T [.slice A4 (x.n+1) c4,.slice x.B x.m x.cB,.bool false]::av 2 x.B x.m x.cB x.ls::aX 27 A4 (x.n+1) c4 (x.rs++[⟨A2,N,N⟩])::(cC 2 x.rs x.im++ks)))] (ly (ly (ly (ly (ly (bV.2 ⟨Ye.bW (λv w w' h hb=>by obtain⟨A1,hv,h1⟩:=h;exact⟨A1,hv,h1.ao hb⟩),(ly (ly (ly (ly (ly (ly (ly (bV.2 ⟨Ye.bW (λv w w' h hb=>by obtain⟨A1,hv,h1⟩:=h;exact⟨A1,hv,h1.ao hb⟩),(bV.2 ⟨Ye.bW (λv w w' h hb=>by obtain⟨A2,A3,hv,h1⟩:=h;exact⟨A2,A3,hv,h1.ao hb⟩),(bV.2 ⟨Ye.bW (λv w w' h hb=>by obtain⟨A2,A4,c4,hv,h1⟩:=h;exact⟨A2,A4,c4,hv,h1.ao hb⟩),(ly (ly (bV.2 ⟨Ye.bW (λv w w' h hb=>by obtain⟨A2,A4,c4,h1⟩:=h;exact⟨A2,A4,c4,h1.ao hb⟩),(λ_ h=>by cases h)⟩)))⟩)⟩)⟩))))))))⟩)))))) ?_ ?_
 ·refine⟨bP O,bP O,cP λ_ _ hb _ _ _=>dX ((ax.rd 0 O).below hb) (Nat.succ_pos _) O O (bA O O),cP λ_ _ hb _ _ _=>aS ((ax.rd 0 O).below hb) O (bA O O),cP λ_ _ hb _ _ _=>a6 ((ax.rd 0 O).below hb) O (bA O O),?_,bP O,cP λ_ _ hb _ _ _=>dX ((ax.rd 0 O).below hb) (Nat.succ_pos _) O O (bA O O),cP λ_ _ hb _ _ _=>aS ((ax.rd 0 O).below hb) O (bA O O),cP λ_ _ hb _ _ _=>a6 ((ax.rd 0 O).below hb) O (bA O O),cP λ_ _ hb _ _ _=>aA (hI.top.ao hb).2 O (bA O O),cP λ_ _ hb _ _ _=>bw (hI.top.ao hb) O (bA O O),aP λ_ _=>aR O O (bA O O),?_,?_,?_,?_,?_,?_,au⟩
  ·refine cP λe1 w1 hb hp aW hq=>?_
   exact eh (St.refl _) O O O λA1 w2 aw=>ak.n (eD.dn O aw.below ⟨A1,O,((St.refl uw).ao hb).call aw⟩)
  ·refine cP λe1 w1 hb hp aW hq=>?_
   obtain⟨A1,hv,h1⟩:=(hp 5 _ _ an rfl rfl an);refine auM (FL A1 1 (-1) N _ (h1.bF 0 O) ac) O (by rw[<-Wf];exact aQ (λv=>[v,Value.int .i64 (((rg x.rs 0).n:Nat):Int)]) hv) O ?_;rintro _ w2 ⟨A2,rfl,aw⟩;exact ak.n (eD.dn O aw.below ⟨A2,O,((St.refl uw).ao hb).call aw⟩)
  ·refine cP λe1 w1 hb hp aW hq=>?_
   obtain⟨A2,hv,h1⟩:=(hp 13 _ _ an rfl rfl an);refine jW (St.refl _) (by exact hv) O O ?_;intro A3 w2 aw;exact ak.n (eD.dn O aw.below ⟨A2,A3,O,h1.call aw⟩)
  ·refine iF λe1 w1 hb hp aW hq=>?_
   obtain⟨A2,A3,hv,h1⟩:=(hp 14 _ _ an rfl rfl an);have h2:=ax.call h1;refine iT 4 h2 O (h2.dm 0 O) O (by exact hv) O ac ac O ?_;intro A4 c4 w3 hT;exact ak.n (dS.dn O ⟨A2,A4,c4,O,hT.tail⟩)
  ·refine dP 1 λe1 w1 hp aW hq=>?_
   have cg:=hp 15 _ _ an O O an;obtain⟨A2,A4,c4,pz,hT⟩:=cg;refine dX ((hT.rd 1 O)) (Nat.succ_pos _) O O (ak.n (fp O ap))
  ·refine dP 1 λe1 w1 hp aW hq=>?_
   have cg:=hp 15 _ _ an O O an;obtain⟨A2,A4,c4,pz,hT⟩:=cg;refine aS ((hT.rd 1 O)) O (ak.n (fp O ap))
  refine kB 1 λe1 w1 hp aW hq=>?_
  have cg:=hp 15 _ _ an O O an;obtain⟨A2,A4,c4,pz,hT⟩:=cg;refine oR 1 hT O O (by exact pz) O O ?_;intro Ic CB;exact ak.n (dS.st O ⟨A2,A4,c4,CB⟩)
 intro u w7 _ hu _ _;obtain⟨A2,A4,c4,bp⟩:=hu 18 _ rfl an;refine gq O (dX (bp.rd 1 O) (Nat.succ_pos _) O O (aS (bp.rd 1 O) O (a6 (bp.rd 1 O) O (aq O (eh bp O O O ?_)))));intro A8 w8 bB;refine eQ 3 bB O (bB.bF 0 O) O O O ?_;intro A9 c9 w9 bj;have bj:St w0 w9 (av 2 A2 N N (List.replicate N (-1))::Bx 133 3 T [.slice A4 (x.n+1) c4,.slice x.B x.m x.cB,.bool false]::av 2 A9 (x.m+1) c9 (x.ls++[(x.n:Int)])::aX 27 A4 (x.n+1) c4 (x.rs++[⟨A2,N,N⟩])::(cC 2 x.rs x.im++ks)):=bj.tail;refine dX (bj.rd 1 O) (Nat.succ_pos _) O O (aS (bj.rd 1 O) O (oR 1 bj O O O O O ?_));intro dJ cQ;have cQ:St w0 dJ (av 2 A2 N N (List.replicate N (-1))::Bx 133 3 T [.slice A4 (x.n+1) c4,.slice A9 (x.m+1) c9,.bool false]::av 2 A9 (x.m+1) c9 (x.ls++[(x.n:Int)])::aX 27 A4 (x.n+1) c4 (x.rs++[⟨A2,N,N⟩])::(cC 2 x.rs x.im++ks)):=cQ;have hlen:x.ls.length=x.n:=by omega
 have akl:(⟨A4,x.n+1,c4,x.rs++[⟨A2,N,N⟩],x.im++[List.replicate N (-1)],A9,x.m+1,c9,x.ls++[(x.n:Int)]⟩:LS).ok:=⟨by simp[bD.1],by simp[bD.2.1],by simp[bD.2.2]⟩;have hSY:St w0 dJ ((⟨A4,x.n+1,c4,x.rs++[⟨A2,N,N⟩],x.im++[List.replicate N (-1)],A9,x.m+1,c9,x.ls++[(x.n:Int)]⟩:LS).pt T++ks):=by
  show St w0 dJ (Bx 133 3 T [.slice A4 (x.n+1) c4,.slice A9 (x.m+1) c9,.bool false]::av 2 A9 (x.m+1) c9 (x.ls++[(x.n:Int)])::aX 27 A4 (x.n+1) c4 (x.rs++[⟨A2,N,N⟩])::(cC 2 (x.rs++[⟨A2,N,N⟩]) (x.im++[List.replicate N (-1)])++ks));rw[tA (by omega),ef];refine cQ.perm ((mO (l₁:=[_,_,_]) (a:=av 2 A2 N N (List.replicate N (-1)))).symm.trans ?_);refine List.Perm.cons _ (List.Perm.cons _ (List.Perm.cons _ ?_));exact mO.symm
 have glo:∀(i:Int),0<=i->i<(x.im.length:Int)->gl (x.im++[List.replicate N (-1)]) i=gl x.im i:=by
  intro i eU kP;simp only[gl,b5];rw[jF (by omega)]
 have gln:gl (x.im++[List.replicate N (-1)]) (x.n:Int)=List.replicate N (-1):=by
  simp only[gl,b5,gx];rw[jM (by omega)];simp[show x.n-x.im.length=0 by omega]
 refine aq O ?_;refine auM (Zx (ks:=ks) _ c (x.n:Int) g akl hSY (by simp;omega) (by simp;omega) (by
  rw[glo c hc.1 hc.2,gln,List.length_replicate];exact⟨hg.1,hg.2.1,hg.2.2⟩)) O O O ?_
 rintro _ eO ⟨akj,dA⟩;refine bR O (gj O ?_);refine⟨_,akj,?_,by rw[hlen],dA⟩;simp only[LS.p,hlen]
structure CV where
 s:aE
 v:Int
def x8(A:ai)(q l:Nat):ai:=if q=l then A else aH A (l*2)
section
variable {w0 w:aa}{ks:List Ck}{i:Nat}{t:ad}{A:ai}{k q:Nat}{cs:List CV}
theorem St.TD(h:St w0 w ks)(cs:List ab)(e:ad)(n c:Nat)(hn:n<=c)(hc:c<=cs.length)(hm:c<=maxLen)(hM:eV cs=false):St w0 (w.alloc (.cells cs.toArray e)) (⟨some ⟨w.heap.size,0,Option.none⟩,n,c,e,cs.take n⟩::ks):=by
 have hb:Below w.heap.size w (w.alloc (.cells cs.toArray e)):=(Below.refl _ _).alloc (cJ _) _;have h1:=h.ao hb;refine⟨h1.below,λk hk=>?_,?_⟩
 ·rcases gW.1 hk with rfl|hk
  ·refine .qS (YY n hM) ⟨by simp;omega,hn,hm,.inr ⟨_,0,cs.toArray,O,h.below.size,heap_alloc_new w _,by simp;omega,λj hj=>?_⟩⟩;have hj:j<n:=hj;simp[qk,hj]
  exact h1.own k hk
 simp only[List.filterMap_cons,Ck.iv,Option.map_some,mj];refine⟨λcE=>?_,h.apart⟩;obtain⟨k',fU,vw⟩:=List.mem_filterMap.1 cE;have:=((h.own k' fU).lt vw).2;omega
theorem aaq{α:Type}:∀(l:List α)(i:Nat)(x y:α),l[i]?=some y->(x::l).Perm (y::l.set i x)
 |[],i,x,y,h=>by simp at h
 |u::l,0,x,y,h=>by simp at h;subst h;exact List.Perm.swap _ _ _
 |u::l,i+1,x,y,h=>by
  simp only[List.getElem?_cons_succ]at h;simp only[List.set_cons_succ];exact(List.Perm.swap _ _ _).trans (((aaq l i x y h).cons u).trans (List.Perm.swap _ _ _))
theorem abX{z z0 z1:ab}(hz:z.cells= #[z0,z1])(m:Nat):(Builtin.zeroCells z.cells m).toList.length=2*m:=by
 rw[hz];simp[Builtin.zeroCells];omega
end
section
variable {P:Program}{N:Nat}{ops:Array Oper}{K:Env->aa->Prop}{rest:List Oper}{e:Env}{w0 w w':aa}{ks:List Ck}{d:Nat}{ty:ad}{pos:String}{af:Array Edge}
theorem FB{t:ad}{f0 f1:Field}{z0 z1 y0 y1:ab}{b b0 b1:Nat}[bJ P t (.struct #[f0,f1])][bL P t (.agg #[z0,z1]) 2 b]{x0 x1:ae}{v0 v1:ab}(oY:bL P f0.type y0 1 b0)(nJ:bL P f1.type y1 1 b1)(ho:f0.offset=0)(qH:f1.offset=1)(h0:ev e x0=v0)(h1:ev e x1=v1)(c0:v0.oneCell'=true)(c1:v1.oneCell'=true)(hb:Nat.blt d N=true)(hK:ak P N ops K rest (bE e d (.agg #[v0,v1])) w):ak P N ops K (⟨some d,.build t #[(0,x0),(1,x1)],ty,pos,af,none⟩::rest) e w:=by
 obtain⟨inf,hi,eN,hs,iI⟩:=bL.get P t;obtain⟨yX,eU,alk,l7,ai9⟩:=oY.get P f0.type;obtain⟨Bs,kP,hz01,pR,hby1⟩:=nJ.get P f1.type;have e0:v0.cells= #[v0]:=by cases v0<;>simp[Value.oneCell']at c0<;>rfl
 have e1:v1.cells= #[v1]:=by cases v1<;>simp[Value.oneCell']at c1<;>rfl
 have ez:(Value.agg #[z0,z1]).cells= #[z0,z1]:=O;refine .val (w':=w) ?_ hb hK;simp[execOp,Instr.build,run_underlying (bJ.out (P:=P) (t:=t)),sizeOf,typeInfo,zeroValue,hi,eN,eU,l7,kP,pR,ho,qH,h0,h1,e0,e1,ez,Instr.fill]
end
structure PV where
 s:Int
 v:Int
def gn:List PV->List ab
 |[]=>[]
 |x::r=>.int .i64 x.s:: .int .i64 x.v::gn r
theorem DW:∀l:List PV,(gn l).length=2*l.length
 |[]=>rfl
 |x::r=>by
  simp only[gn,List.length_cons];rw[DW r];omega
theorem NG:∀a b:List PV,gn (a++b)=gn a++gn b
 |[],_=>rfl
 |x::r,b=>by
  simp only[List.cons_append,gn];rw[NG r b]
theorem Va:∀{l:List PV}{i:Nat} (h:i<l.length),(gn l)[2*i]?=some (aj l[i].s)/\(gn l)[2*i+1]?=some (aj l[i].v)
 |x::r,0,_=>⟨rfl,rfl⟩
 |x::r,i+1,h=>by
  have:=Va (l:=r) (i:=i) (by simpa using h);simp only[gn,List.getElem_cons_succ];rw[show 2*(i+1)=2*i+1+1 by omega];simpa using this
theorem U9:∀(l:List PV)(i:Nat),(gn l).drop (2*i)=gn (l.drop i)
 |[],i=>by simp[gn]
 |x::r,0=>rfl
 |x::r,i+1=>by
  rw[show 2*(i+1)=2*i+1+1 by omega];simp only[gn,List.drop_succ_cons];rw[U9 r i]
theorem Bt(l:List PV):eV (gn l)=false:=by cases l<;>rfl
def kL(t:ad)(A:ai)(k q z:Nat)(cs:List PV):Ck:=⟨A,2*k,min (2*(q+z)) maxLen-2*z,t,gn cs⟩
def xR(w:aa)(A:ai)(k:Nat)(cs:List PV):Prop:=cs.length=k/\Rd w A (2*k) (λj=>(gn cs).getD j undef)
theorem xR.below{w w':aa}{A:ai}{k:Nat}{cs:List PV}(h:xR w A k cs)(hb:Below w.heap.size w w'):xR w' A k cs:=⟨h.1,Rd.below h.2 hb⟩
section
variable {w0 w:aa}{ks:List Ck}{i:Nat}{t:ad}{A:ai}{k q z:Nat}{cs:List PV}
theorem St.Lz(h:St w0 w ks)(i:Nat)(hk:ks[i]?=some (kL t A k q z cs)):xR w A k cs:=by
 have h1:(gn cs).length=2*k:=(h.py hk (Bt _)).1;rw[DW]at h1;exact⟨ac,h.rd i hk⟩
theorem St.M5(h:St w0 w ks)(i:Nat)(hk:ks[i]?=some (kL t A k q z cs)):k<=q/\2*k<=maxLen:=by
 have h1:2*k<=min (2*(q+z)) maxLen-2*z:=(h.get hk).cap.1;omega
theorem xR.at_(h:xR w A k cs){j:Nat}(hj:j<k):Rd w (aH A (j*2)) 2 (λm=>[aj (cs[j]'(by rw[h.1];exact hj)).s,aj (cs[j]'(by rw[h.1];exact hj)).v].getD m undef):=by
 have hl:j<cs.length:=by rw[h.1];exact hj
 have:=(h.2.behind (o:=j*2) (m:=2) ac);refine this.congr λm hm=>?_
 have hg:=Va hl;rcases(show m=0\/m=1 by omega)with rfl|rfl
 ·rw[show j*2+0=2*j by omega,b5,hg.1];rfl
 rw[show j*2+1=2*j+1 by omega,b5,hg.2];rfl
end
section
variable{t:ad}{z0 z1:ab}{b q c':Nat}{ix x0 y:ae}{A':ai}
variable {P:Program}{N:Nat}{ops:Array Oper}{K:Env->aa->Prop}{rest:List Oper}{e:Env}{w0 w w':aa}{ks:List Ck}{d:Nat}{ty:ad}{pos:String}{af:Array Edge}
theorem Tm{el:ad}{z:ab}[bJ P t (.slice el)][bL P el z 2 b]{x:ae}{A:ai}{n c:Nat}{k:IntKind}{i:Int}{cs:List PV}(hR:xR w A n cs)(hx:ev e x=.slice A n c)(hy:ev e ix=.int k i)(hb:Nat.blt d N=true)(h0:0<=i)(h1:i<(n:Int))(hK:ak P N ops K rest (bE e d (.pointer (aH A (i.toNat*2)))) w):
 ak P N ops K (⟨some d,.indexAddr t x ix,ty,pos,af,none⟩::rest) e w:=by
 obtain⟨p,hp,_⟩:=hR.2 i.toNat ac;obtain⟨q,rfl⟩:∃q,A=some q:=by cases A with|none=>simp[aH]at hp|some q=>exact⟨q,rfl⟩
 obtain⟨inf,hi,_,hs,_⟩:=bL.get P el;refine .val (w':=w) ?_ hb hK;simp[execOp,Instr.indexAt,hx,hy,asIntOf,run_underlying (bJ.out (P:=P) (t:=t)),h0,h1,sizeOf,typeInfo,hi,hs,aH]
theorem Tj{el:ad}{z:ab}[hU:bJ P t (.slice el)][bL P el z 2 b]{x lo:ae}{A:ai}{n c:Nat}{k:IntKind}{l:Int}(hx:ev e x=.slice A n c)(hl:ev e lo=.int k l)(hb:Nat.blt d N=true)(h0:0<=l/\l<=(n:Int))(hK:ak P N ops K rest (bE e d (.slice (x8 A c l.toNat) (n-l.toNat) (c-l.toNat))) w):ak P N ops K (⟨some d,.slice t x (some lo) none none,ty,pos,af,none⟩::rest) e w:=by
 obtain⟨inf,hi,eN,hs,iI⟩:=bL.get P el;refine .val (w':=w) ?_ hb hK;have:=run_sliceBound (P:=P) w k l n .sliceB h0.1 h0.2;simp[execOp,hx,hl,Instr.sliceAt,run_underlying hU.out,Instr.slice,Instr.sliceBounds,this,sizeOf,typeInfo,hi,hs,x8,aH]
theorem Ti{el:ad}{z:ab}[bJ P t (.slice el)][bL P el z 2 b]{u0 v0:Int}(hS:St w0 w ks)(h0:ev e x0=.agg #[aj u0,aj v0])(hz:z.cells= #[z0,z1])(hb:Nat.blt d N=true)(hK:∀A w',St w0 w' (kL el A 1 1 0 [⟨u0,v0⟩]::ks)->ak P N ops K rest (bE e d (.slice A 1 1)) w'):ak P N ops K (⟨some d,.buildSlice t 1 #[(0,x0)],ty,pos,af,none⟩::rest) e w:=by
 obtain⟨inf,hi,eN,hs,iI⟩:=bL.get P el;refine .val (w':=w.alloc (.cells #[aj u0,aj v0] el)) ?_ hb (hK _ _ (hS.alloc [aj u0,aj v0] el (by simp[maxLen]) O));simp[execOp,Instr.buildSlice,run_underlying (bJ.out (P:=P) (t:=t)),sizeOf,typeInfo,zeroValue,hi,hs,eN,hz,Instr.fill,newRow,h0,IP,lK,Value.cells]
theorem ap4{el:ad}{z:ab}[hU:bJ P t (.slice el)][bL P el z 2 b](hz:z.cells= #[z0,z1]){A:ai}{n c:Nat}{cs:List PV}(i:Nat)(hS:St w0 w ks)(hk:ks[i]?=some (kL el A n c q cs)){m:Nat}{ds:List PV}(hR:xR w A' m ds)
 (r9:2*(n+m+q)<=maxLen) (pF:(n+m)*b<=140737488355328) (ty:ad):
 ∃A2 c2 q2 w',(Builtin.append_ #[t,t] ty #[.slice A n c,.slice A' m c']).run P w=.ok (.slice A2 (n+m) c2) w'/\q2<=q/\St w0 w' (ks.set i (kL el A2 (n+m) c2 q2 (cs++ds))):=by
 obtain⟨inf,hi,eN,hs,iI⟩:=bL.get P el;have G9:=hS.py hk (Bt _);have gu:=hS.M5 i hk;have b8:=(hS.Lz i hk).1;obtain⟨hl,ni,pG,h4⟩:=G9;have CL:=(iD.1 hk).1
 by_cases hm:m=0
 ·subst hm;have pH:ds=[]:=iL hR.1;subst pH;refine⟨A,c,q,w,?_,cJ _,?_⟩
  ·cases A' with
   |none=>cases A<;>simp[Builtin.append_,run_underlying hU.out,sizeOf,typeInfo,hi,Builtin.lenOf,Builtin.firstCells,gu.1,storeCells]
   |some a=>
    cases A<;>simp[Builtin.append_,run_underlying hU.out,sizeOf,typeInfo,hi,Builtin.lenOf,Builtin.firstCells,gu.1,storeCells,loadCells,loadCellsFrom]
  ·rw[dQ,Nat.add_zero];have:ks.set i (kL el A n c q cs)=ks:=by
    apply List.ext_getElem?;intro j;rw[lI]
    split
    ·rename_i e;subst e;rw[hk]
     try simp[CL]
    ·rfl
   rw[this];exact hS
 ·obtain⟨a,rfl⟩:∃a,A'=some a:=by
   obtain⟨p,hp,_⟩:=hR.2 0 ac;cases A' with|none=>simp[aH]at hp|some q'=>exact⟨q',rfl⟩
  have gP:(gn ds).length=m*2:=by rw[DW,hR.1];omega
  have yC:∀j v,(gn ds)[j]?=some v->w.cell? (a.add j)=some v:=by
   intro j v hj;have wS:j<2*m:=by have:=(iD.1 hj).1;omega
   obtain⟨p,hp,hc⟩:=hR.2 j wS;simp only[aH,Option.map_some,oh]at hp;rw[hp,hc];show some ((gn ds).getD j undef)=some v;rw[b5,hj]
   rfl
  have tU:∀u∈gn ds,u.oneCell'=true:=by
   intro u hu;obtain⟨j,hj,rfl⟩:=fS.1 hu;have gen:∀(l:List PV),∀u∈gn l,u.oneCell'=true:=by
    intro l
    induction l with
    |nil=>intro u h;cases h
    |cons x l ih=>
     intro u h;simp only[gn,gW]at h;rcases h with rfl|rfl|h
     ·rfl
     ·rfl
     ·exact ih u h
   exact gen ds _ (dt hj)
  have WW:(gn cs).length=2*n:=by rw[DW,b8]
  have fresh:∀(xs:List ab)(c2:Nat),n+m<=c2->xs.length=2*c2->xs.take (2*(n+m))=gn cs++gn ds->eV xs=false->
   St w0 (w.drew.alloc (.cells xs.toArray el)) (ks.set i (kL el (some ⟨w.heap.size,0,none⟩) (n+m) c2 0 (cs++ds))):=by
   intro xs c2 h5 h7 h8 h9;have hA:=hS.drew.TD xs el (2*(n+m)) (min (2*c2) maxLen) ac ac ac h9;rw[h8,<-NG]at hA;exact(hA.perm (aaq ks i _ _ hk)).tail
  have Oi:((n+m:Nat):Int)<=9223372036854775807:=by simp only[maxLen]at r9;omega
  have h63n:n+m<=maxLen:=by omega
  rcases h4 with⟨hA,h0⟩|⟨g,o,cur,hA,hg,hh,vC,hc⟩
  ·have hA:A=none:=hA;subst hA;have h0:min (2*(c+q)) maxLen-2*q=0:=h0;have kF:c=0:=by simp only[maxLen]at h0 r9;omega
   have pP:n=0:=by omega
   subst kF pP;have Qs:cs=[]:=iL b8;subst Qs;have hr:=run_append_nil (P:=P) w t ty el inf z hU.out hi eN a m c' (gn ds) (by rw[gP,hs]) yC ac ac (by rw[iI];rw[Nat.zero_add]at pF;omega);have pJ:=grownCap_ge w m 0 el;have mE:=abX hz (grownCap w m 0 el-m);refine⟨some ⟨w.heap.size,0,none⟩,grownCap w m 0 el,0,_,?_,bl _,fresh (gn ds++(Builtin.zeroCells z.cells (grownCap w m 0 el-m)).toList) (grownCap w m 0 el) ac (by rw[cj,mE,gP];omega) (by
    rw[zF (by omega),jw (by omega)]
    rfl) (HB (Bt _) (by intro hn;rw[hn]at gP;simp at gP;omega))⟩
   rw[Nat.zero_add,hr]
   congr 3
   apply Array.ext';simp
  ·have hA:A=some ⟨g,o,none⟩:=hA;have hh:w.heap[g]?=some (.cells cur el (0,0)):=hh;have vC:o+(min (2*(c+q)) maxLen-2*q)<=cur.size:=vC;have hc:∀j,j<2*n->cur[o+j]?=(gn cs)[j]?:=hc
   by_cases Hj:n+m<=c
   ·have hf:=run_firstCells_some (P:=P) w inf.size m a m c' (gn ds) (by rw[gP,hs]) yC;have aw:=run_storeCells_at P g (o+2*n) el (gn ds) 0 cur w hh (by rw[gP];omega) tU;simp only[Nat.add_zero]at aw;refine⟨some ⟨g,o,none⟩,c,q,w.setRow g (cur.toList.take (o+2*n)++gn ds++cur.toList.drop (o+2*n+(gn ds).length)).toArray,?_,cJ _,hS.turn (k:=kL el A n c q cs) (k':=kL el (some ⟨g,o,none⟩) (n+m) c q (cs++ds)) (g:=g) hk (by simp[Ck.iv,kL,hA]) (by simp[Ck.iv,kL]) ?_ ?_⟩
    ·rw[hA];rw[hs]at hf;simp[Builtin.append_,run_underlying hU.out,sizeOf,typeInfo,hi,hs,Builtin.lenOf,Hj,Addr.add_lit,hf];rw[show n*2=2*n by omega];simp[aw]
    ·exact⟨⟨O,O,O,by simp,λx _ hx=>setRow_other w g x _ (λe=>hx (by rw[e]))⟩,cJ _⟩
    ·refine .qS (Bt _) ⟨by show(gn (cs++ds)).length=2*(n+m);rw[DW,cj,b8,hR.1],by show 2*(n+m)<=min (2*(c+q)) maxLen-2*q;omega,pG,.inr ⟨g,o,_,O,hg,setRow_heap w g cur _ el _ hh,?_,λj hj=>?_⟩⟩
     ·show o+(min (2*(c+q)) maxLen-2*q)<=_;simp;omega
     ·have iJ:j<2*(n+m):=hj;show((cur.toList.take (o+2*n)++gn ds++cur.toList.drop (o+2*n+(gn ds).length)).toArray)[o+j]?=(gn (cs++ds))[j]?;rw[NG];have hcl2:cur.toList.length=cur.size:=by simp
      rw[List.getElem?_toArray]
      by_cases tg:j<2*n
      ·rw[ef,jF (by simp;omega),qk,aG (by omega),jF (by omega)];rw[Array.getElem?_toList];exact hc j tg
      ·rw[ef,jM (by simp;omega),jF (by simp;omega),jM (by omega)]
       congr 1
       simp;omega
   ·have holds:∀j v,(gn cs)[j]?=some v->w.cell? ((⟨g,o,none⟩:Addr).add j)=some v:=by
     intro j v hj;have tg:j<2*n:=by have:=(iD.1 hj).1;omega
     rw[BX];simp only[World.cell?,hh];simpa[hc j tg]using hj
    have hr:=run_append_grow (P:=P) w t ty el inf z hU.out hi eN ⟨g,o,none⟩ n c (gn cs) (by rw[WW,hs];omega) holds a m c' (gn ds) (by rw[gP,hs]) yC ac Oi (growslice_fits ac (by rw[iI];exact pF));have pJ:=grownCap_ge w (n+m) c el;have mE:=abX hz (grownCap w (n+m) c el-(n+m));refine⟨some ⟨w.heap.size,0,none⟩,grownCap w (n+m) c el,0,_,?_,bl _,fresh (gn cs++gn ds++(Builtin.zeroCells z.cells (grownCap w (n+m) c el-(n+m))).toList) (grownCap w (n+m) c el) ac (by rw[cj,cj,mE,gP,WW];omega) (by
     rw[zF (by rw[cj];omega),jw (by rw[cj];omega)]) (HB (YU (Bt _) (Bt _)) (by intro hn;have:=aQ List.length hn;rw[cj,gP]at this;simp at this;omega))⟩
    rw[hA,hr]
    congr 3
    apply Array.ext';simp
theorem acD{el:ad}{z:ab}[hU:bJ P t (.slice el)][bL P el z 2 b]{x:ae}(i:Nat){A:ai}{n c:Nat}{cs:List PV}{m:Nat}{ds:List PV}(hS:St w0 w ks)(hk:ks[i]?=some (kL el A n c q cs))(hR:xR w A' m ds)(hx:ev e x=.slice A n c)(hy:ev e y=.slice A' m c')(hz:z.cells= #[z0,z1])(r9:n+m+q<=4611686018427387903)(pF:(n+m)*b<=140737488355328)(hb:Nat.blt d N=true)(hK:∀A2 c2 q2 w',q2<=q->St w0 w' (ks.set i (kL el A2 (n+m) c2 q2 (cs++ds)))->ak P N ops K rest (bE e d (.slice A2 (n+m) c2)) w'):
 ak P N ops K (⟨some d,.call ⟨.builtin .append, #[x,y], #[t,t]⟩,ty,pos,af,none⟩::rest) e w:=by
 obtain⟨A2,c2,q2,w',hr,CY,mu⟩:=ap4 (P:=P) (t:=t) hz i hS hk hR (by simp only[maxLen];omega) pF ty (c':=c');refine .val (w':=w') ?_ hb (hK _ _ _ _ CY mu);simp[execOp,resolve,invoke,builtin,hx,hy,hr]
end
theorem St.Uj{w0 w:aa}{ks:List Ck}{i:Nat}{t:ad}{A:ai}{n c q l:Nat}{xs:List PV}(hS:St w0 w ks)(hk:ks[i]?=some (kL t A n c q xs))(hl:l<=n)(hm:2*(n+q)<=maxLen):St w0 w (ks.set i (kL t (x8 A c l) (n-l) (c-l) (q+l) (xs.drop l))):=by
 have cT:=(hS.Lz i hk).1;have Ej:=hS.M5 i hk;obtain⟨h1,h2,h3,h4⟩:=hS.py hk (Bt _);have h2:2*n<=min (2*(c+q)) maxLen-2*q:=h2;have h3:min (2*(c+q)) maxLen-2*q<=maxLen:=h3;rcases h4 with⟨hA,kF⟩|⟨g,o,cur,hA,hg,hh,hs,hc⟩
 ·have hA:A=Option.none:=hA;have kF:min (2*(c+q)) maxLen-2*q=0:=kF;obtain rfl:n=0:=by omega
  obtain rfl:l=0:=by omega
  obtain rfl:=iL cT;subst hA;have e:x8 Option.none c 0=Option.none:=by unfold x8;split<;>rfl
  rw[e];show St w0 w (ks.set i (kL t Option.none 0 c q []));rw[Fe hk];exact hS
 have hA:A=some ⟨g,o,Option.none⟩:=hA;have o8:o+(min (2*(c+q)) maxLen-2*q)<=cur.size:=hs;have hh2:w.heap[g]?=some (.cells cur t (0,0)):=hh;have GA:∀j,j<2*n->cur[o+j]?=(gn xs)[j]?:=hc;subst hA;have na:∃o',x8 (some ⟨g,o,Option.none⟩) c l=some ⟨g,o',Option.none⟩/\o'+(min (2*(c-l+(q+l))) maxLen-2*(q+l))<=cur.size/\(0<n-l->o'=o+2*l):=by
  unfold x8
  split
  ·exact⟨o,O,ac,λh=>by omega⟩
  exact⟨o+l*2,by simp[aH,BX],ac,λ_=>by omega⟩
 obtain⟨o',e1,e2,e3⟩:=na;refine hS.turn hk O (by simp[Ck.iv,kL,e1]) ⟨⟨O,O,O,cJ _,λ_ _ _=>O⟩,cJ _⟩ (.qS (Bt _) ⟨by show(gn (xs.drop l)).length=2*(n-l);rw[DW,List.length_drop,cT],by show 2*(n-l)<=min (2*(c-l+(q+l))) maxLen-2*(q+l);omega,by show min (2*(c-l+(q+l))) maxLen-2*(q+l)<=maxLen;omega,.inr ⟨g,o',cur,e1,hg,hh2,e2,λj hj=>?_⟩⟩);have hj:j<2*(n-l):=hj;show cur[o'+j]?=(gn (xs.drop l))[j]?;have h9:l+(n-l)=n:=Nat.add_sub_cancel' hl;rw[e3 (by omega),Nat.add_assoc,GA (2*l+j) (by omega),<-U9];simp[List.getElem?_drop]
section
variable {P:Program}{N:Nat}{ops:Array Oper}{K:Env->aa->Prop}{rest:List Oper}{e:Env}{w0 w w':aa}{ks:List Ck}{d:Nat}{ty:ad}{pos:String}{af:Array Edge}
theorem Tl{t el:ad}{l:Nat}{z:ab}{b:Nat}[bJ P t (.array l el)][bL P el z 1 b]{x ix:ae}{A:ai}{n o:Nat}{k:IntKind}{i:Int}{f:Nat->ab}(hR:Rd w A n f)(ho:o<n)(hx:ev e x=.pointer (aH A o))(hy:ev e ix=.int k i)(hb:Nat.blt d N=true)(h0:0<=i)(h1:i<(l:Int))(hK:ak P N ops K rest (bE e d (.pointer (aH A (o+i.toNat)))) w):
 ak P N ops K (⟨some d,.indexAddr t x ix,ty,pos,af,none⟩::rest) e w:=by
 obtain⟨p,hp,_⟩:=hR o ho;obtain⟨inf,hi,_,hs,_⟩:=bL.get P el;have hq:aH A (o+i.toNat)=some (p.add i.toNat):=by
  rw[<-Rr,hp];rfl
 rw[hq]at hK;rw[hp]at hx;refine .val (w':=w) ?_ hb hK;simp[execOp,Instr.indexAt,hx,hy,asIntOf,Instr.sureAddr,run_underlying (bJ.out (P:=P) (t:=t)),h0,h1,sizeOf,typeInfo,hi,hs]
theorem Te{t el:ad}{z0 z1 y:ab}{b b':Nat}[bJ P t (.array 2 el)][bL P t (.agg #[z0,z1]) 2 b](hI:bL P el y 1 b'){x0 x1:ae}{v0 v1:ab}(h0:ev e x0=v0)(h1:ev e x1=v1)(c0:v0.oneCell'=true)(c1:v1.oneCell'=true)(hb:Nat.blt d N=true)(hK:ak P N ops K rest (bE e d (.agg #[v0,v1])) w):ak P N ops K (⟨some d,.build t #[(0,x0),(1,x1)],ty,pos,af,none⟩::rest) e w:=by
 obtain⟨inf,hi,eN,hs,iI⟩:=bL.get P t;obtain⟨yX,eU,alk,l7,ai9⟩:=hI.get P el;have e0:v0.cells= #[v0]:=by cases v0<;>simp[Value.oneCell']at c0<;>rfl
 have e1:v1.cells= #[v1]:=by cases v1<;>simp[Value.oneCell']at c1<;>rfl
 have ez:(Value.agg #[z0,z1]).cells= #[z0,z1]:=O;refine .val (w':=w) ?_ hb hK;simp[execOp,Instr.build,run_underlying (bJ.out (P:=P) (t:=t)),sizeOf,typeInfo,zeroValue,hi,eN,eU,l7,h0,h1,e0,e1,ez,Instr.fill]
end
def EK(lo hi:Int):Nat->Nat->ag->List PV->Option (ag×List PV)
 |0,_,_,_=>none
 |k+1,g,im,zs=>
  if g<(gl im hi).length then
   if gi (gl im hi) g<0 then EK lo hi k (g+1) im zs
   else if g<(gl im lo).length then
    if 0<=gi (gl im lo) g then(if zs.length<1000000 then EK lo hi k (g+1) im (zs++[⟨gi (gl im hi) g,gi (gl im lo) g⟩])else none)
    else EK lo hi k (g+1) (lF im lo g (gi (gl im hi) g)) zs
   else none
  else some (im,zs)
def Bq:Nat->PS->List PV->Option PS
 |0,_,_=>none
 |k+1,x,zs=>
  match zs with
  |[]=>some x
  |p::r=>
   match rC x.ls 2000 p.s,rC x.ls 2000 p.v with
   |some a,some b=>
    if a=b then Bq k x r
    else
     if 0<=min a b/\max a b<(x.im.length:Int)/\max a b<(x.ls.length:Int)/\x.im.length<=2000 then
      match EK (min a b) (max a b) 1000 0 x.im (p::r)with
      |some (im,SH)=>Bq k ⟨im,x.ls.set (max a b).toNat (min a b)⟩ (SH.drop 1)
      |none=>none
     else none
   |_,_=>none
structure S3 where
 k:Nat
 g:Nat
 A:ai
 c:Nat
 z:Nat
 zs:List PV
 im:ag
 ls:ah
theorem YK{w0 w:aa}{ks:List Ck}{T:ai}(x:LS)(c d:Int)(y:PS)(k0:Nat)(ue:k0<=1000000)(bD:x.ok)(hS:St w0 w (x.pt T++ks))(hp:Bq k0 x.p [⟨c,d⟩]=some y):
 aF prog 164 [.pointer T,aj c,aj d] w (λ_ w'=>∃x':LS,x'.ok/\x'.p=y/\St w0 w' (x'.pt T++ks)):=by
 obtain⟨A,n,cc,rs,im,B,m,cB,ls⟩:=x;obtain⟨h1,h2,h3⟩:=bD;have h1:rs.length=n:=h1;have h2:im.length=n:=h2;have h3:ls.length=m:=h3;refine bn func164 O ntmps164 O (vM O) (aY O (Te aL O O O O O (Ti hS O O O ?_)));intro A6 w1 ax;have ax:St w0 w1 ([kL 194 A6 1 1 0 [⟨c,d⟩],Bx 133 3 T [.slice A n cc,.slice B m cB,.bool false],av 2 B m cB ls]++(aV 27 2 A n cc rs im++ks)):=ax;refine ay O ?_;refine Cd.loop (α:=S3) (λs=>[(0,.pointer T),(6,.slice s.A s.zs.length s.c)]) (λs w'=>St w0 w' ([kL 194 s.A s.zs.length s.c s.z s.zs,Bx 133 3 T [.slice A n cc,.slice B m cB,.bool false],av 2 B m cB s.ls]++(aV 27 2 A n cc rs s.im++ks))/\s.im.length=n/\s.ls.length=m/\s.zs.length<=1000001/\s.z+s.k<=1000000/\Bq s.k ⟨s.im,s.ls⟩ s.zs=some y) (λs=>s.k)
  ⟨k0,0,A6,1,0,[⟨c,d⟩],im,ls⟩ ⟨rfl,rfl,au⟩ ⟨ax,h2,h3,by show 1<=1000001;omega,by show 0+k0<=1000000;omega,hp⟩ ?_
 rintro⟨k,g0,A6,c6,z,zs,im,ls⟩ e w2 ⟨az,h2,h3,mE,EJ,hf⟩;dsimp only at az h2 h3 mE EJ hf|-;obtain⟨q,rfl⟩:∃q,k=q+1:=by cases k with|zero=>cases hf|succ q=>exact⟨q,rfl⟩
 have Ej:=az.M5 0 O;refine aY O (aR O O (ay O ?_));refine aK _ O (λhi=>?_) (λhi=>?_)
 ·obtain⟨p,r,rfl⟩:∃p r,zs=p::r:=by cases zs with|nil=>simp at hi|cons p r=>exact⟨p,r,rfl⟩
  rw[Bq]at hf;dsimp only at hf
  split at hf
  case h_2=>cases hf
  rename_i a b wO CI;have hQ:=az.Lz 0 O;have jQ:=hQ.at_ (j:=0) (by simp);have XK:(⟨A,n,cc,rs,im,B,m,cB,ls⟩:LS).ok:=⟨h1,h2,h3⟩;have nL:St w0 w2 ((⟨A,n,cc,rs,im,B,m,cB,ls⟩:LS).pt T++(kL 194 A6 (p::r).length c6 z (p::r)::ks)):=az.perm (by
   show List.Perm (kL _ A6 (p::r).length c6 z (p::r)::([Bx _ 3 T _,av _ B m cB ls]++(aV _ _ A n cc rs im++ks))) _;rw[<-ef];exact(mO (l₁:=[Bx 133 3 T _,av 2 B m cB ls]++aV 27 2 A n cc rs im)).symm)
  refine cM O (ec [xP (T),xS (A6) ((p::r).length) (c6),xP (aH A6 (0*2)),xP (aH (aH A6 (0*2)) (0+0)),xI (p.s),xI (a),xP (T),xS (A6) ((p::r).length) (c6),xP (aH A6 (0*2)),xP (aH (aH A6 (0*2)) (0+1)),xI (p.v),xI (b),xI (a),xI (b)] O (eK O) ?_ ?_)
  ·refine⟨Dr O,Dr O,?_,?_,?_,?_,Dr O,Dr O,?_,?_,?_,?_,Dr O,Dr O,au⟩
   ·intro e1 w1 hb hp aW;refine Tm (hQ.below hb) O O O ac (by simp) ?_;exact ak.n (gk.dn (Below.refl _ _) O)
   ·intro e1 w1 hb hp aW;refine Tl (o:=0) (jQ.below hb) ac (by rw[iK (aH A6 (0*2))];rfl) O O ac ac ?_;exact ak.n (gk.dn (Below.refl _ _) O)
   ·intro e1 w1 hb hp aW;refine fX (j:=0) (jQ.below hb) O O O O O (ak.n ?_);exact gk.dn (Below.refl _ _) O
   ·intro e1 w1 hb hp aW;refine aI (NF _ 2000 _ a XK (nL.ao hb) wO) O ?_;rintro _ w2 ⟨rfl,aw⟩;subst aw;refine ak.n (d0 ap)
   ·intro e1 w1 hb hp aW;refine Tm (hQ.below hb) O O O ac (by simp) ?_;exact ak.n (gk.dn (Below.refl _ _) O)
   ·intro e1 w1 hb hp aW;refine Tl (o:=0) (jQ.below hb) ac (by rw[iK (aH A6 (0*2))];rfl) O O ac ac ?_;exact ak.n (gk.dn (Below.refl _ _) O)
   ·intro e1 w1 hb hp aW;refine fX (j:=1) (jQ.below hb) O O O O O (ak.n ?_);exact gk.dn (Below.refl _ _) O
   intro e1 w1 hb hp aW;refine aI (NF _ 2000 _ b XK (nL.ao hb) CI) O ?_;rintro _ w2 ⟨rfl,aw⟩;subst aw;refine ak.n (d0 ap)
  intro u w6 mZ _;have bk:=az.ao mZ;refine fG O (aK _ O (λgr=>?_) (λgr=>?_))
  ·rw[aG gr]at hf;refine aC O ?_;refine Tj O O O (by simp;omega) ?_;refine aN O (tQ ?_);have bp:=bk.Uj (i:=0) (l:=1) O (by simp) (by simp only[maxLen];simp at mE|-;omega);exact⟨⟨q,0,x8 A6 c6 1,c6-1,z+1,r,im,ls⟩,Nat.lt_succ_self q,(auV O),bp,h2,h3,by show r.length<=1000001;simp at mE;omega,by show z+1+q<=1000000;omega,hf⟩
  rw[aD gr]at hf
  split at hf
  case isFalse=>cases hf
  rename_i la
  split at hf
  case h_2=>cases hf
  rename_i QB SH Hm;refine aC O (Tq O O O (aq O (Tp O O O (aq O ?_))));have yz:min a b<max a b:=by omega
  generalize min a b=lo at la Hm hf yz|-;generalize max a b=fY at la Hm hf yz|-;obtain⟨jU,rfl⟩:∃q:Nat,lo=q:=⟨lo.toNat,ac⟩;obtain⟨iZ,rfl⟩:∃q:Nat,fY=q:=⟨fY.toNat,ac⟩;rw[gx]at hf;have Aj:=bk.bF 2 O;refine dX (bk.rd 1 O) (Nat.succ_pos _) O O (aS (bk.rd 1 O) O (a6 (bk.rd 1 O) O (aq O (aA Aj.2 O (ak.oL 2 bk O O O ac ?_)))));intro w8 bB;have bB:St w0 w8 ([kL 194 A6 (p::r).length c6 z (p::r),Bx 133 3 T [.slice A n cc,.slice B m cB,.bool false],av 2 B m cB (ls.set iZ (jU:Int))]++(aV 27 2 A n cc rs (im)++ks)):=bB;have akm:(⟨A,n,cc,rs,im,B,m,cB,ls.set iZ (jU:Int)⟩:LS).ok:=⟨h1,h2,by show(ls.set _ _).length=m;rw[fR];exact h3⟩;have OH:bH w8 A n rs im:=LS.fO (x:=⟨A,n,cc,rs,im,B,m,cB,ls.set iZ (jU:Int)⟩) akm (pre:=[kL 194 A6 (p::r).length c6 z (p::r),Bx 133 3 T [.slice A n cc,.slice B m cB,.bool false]]) bB;have akG:=OH.at_ (i:=(iZ:Int)) ac ac;refine aq O (dX (bB.rd 1 O) (Nat.succ_pos _) O O (aS (bB.rd 1 O) O (a6 (bB.rd 1 O) O (aq O (aA OH.top.2 O (bw OH.top O ?_))))));refine aR O O (ay O ?_);refine Cd.loop (α:=S3) (λs=>[(0,.pointer T),(6,.slice s.A s.zs.length s.c),(7,aj jU),(8,aj iZ),(55,.slice (rg rs iZ).a (rg rs iZ).n (rg rs iZ).c),(56,aj ((rg rs iZ).n:Int)),(57,aj (s.g:Int))]) (λs w'=>St w0 w' ([kL 194 s.A (s.zs).length s.c s.z (s.zs),Bx 133 3 T [.slice A n cc,.slice B m cB,.bool false],av 2 B m cB (ls.set iZ (jU:Int))]++(aV 27 2 A n cc rs (s.im)++ks))/\s.im.length=n/\(gl s.im iZ).length=(rg rs iZ).n/\EK jU iZ s.k s.g s.im s.zs=some (QB,SH)/\s.g+s.k<=1000/\s.zs.length<=1000001/\0<s.zs.length/\s.z+(q+1)<=1000000) (λs=>s.k)
   ⟨1000,0,A6,c6,z,p::r,im,[]⟩ ⟨rfl,rfl,rfl,rfl,rfl,rfl,rfl,au⟩ ⟨bB,h2,akG.1,Hm,cJ _,mE,by simp,EJ⟩ ?_
  rintro⟨k,g,A6,c6,z,zs,im,Db⟩ e w9 ⟨bj,h2,Ki,hg,Pt,mE,eN,EJ⟩;dsimp only at bj h2 Ki hg Pt mE eN EJ|-;obtain⟨t,rfl⟩:∃q,k=q+1:=by cases k with|zero=>cases hg|succ q=>exact⟨q,rfl⟩
  rw[EK]at hg;have mr:bH w9 A n rs im:=LS.fO (x:=⟨A,n,cc,rs,im,B,m,cB,ls.set iZ (jU:Int)⟩) ⟨h1,h2,by show(ls.set _ _).length=m;rw[fR];exact h3⟩ (pre:=[kL 194 A6 zs.length c6 z zs,Bx 133 3 T [.slice A n cc,.slice B m cB,.bool false]]) bj;have tl:=mr.at_ (i:=(iZ:Int)) ac ac;have yK:=mr.at_ (i:=(jU:Int)) ac ac;have hh1:=tl.1;have vx:=yK.1;refine bC O (aK _ O (λkO=>?_) (λkO=>?_))
  ·rw[aG (by omega)]at hg;refine aC O (aA tl.2 O (bg tl O (ay O ?_)));refine aK _ O (λhe=>?_) (λhe=>?_)
   ·rw[aG he]at hg;refine aC O (aJ O (aN O (tQ ?_)));exact⟨⟨t,g+1,A6,c6,z,zs,im,Db⟩,Nat.lt_succ_self t,(auV O),bj,h2,Ki,hg,by show g+1+t<=1000;omega,mE,eN,EJ⟩
   rw[aD he]at hg
   split at hg
   case isFalse=>cases hg
   rename_i ajC;refine aC O (dX (bj.rd 1 O) (Nat.succ_pos _) O O (aS (bj.rd 1 O) O (a6 (bj.rd 1 O) O (aq O (aA mr.top.2 O (bw mr.top O (aq O (aA yK.2 O (bg yK O ?_)))))))));refine ay O (aK _ O (λse=>?_) (λse=>?_))
   ·rw[aG se]at hg
    split at hg
    case isFalse=>cases hg
    rename_i hlen;refine aC O (Te aL O O O O O (Ti bj O O O ?_));intro fC dJ cQ;refine acD 1 cQ O (cQ.Lz 0 O) O O O ac ac O ?_;intro eP iW SG eO hz11 dA;have dA:St w0 eO ([kL 194 eP (zs.length+1) iW SG (zs++[⟨gi (gl im iZ) g,gi (gl im jU) g⟩]),Bx 133 3 T [.slice A n cc,.slice B m cB,.bool false],av 2 B m cB (ls.set iZ (jU:Int))]++(aV 27 2 A n cc rs im++ks)):=dA.tail;refine aq O (aJ O (aN O (tQ ?_)));refine⟨⟨t,g+1,eP,iW,SG,zs++[⟨gi (gl im iZ) g,gi (gl im jU) g⟩],im,Db⟩,Nat.lt_succ_self t,⟨O,by show Value.slice _ _ _=.slice _ _ _;rw[cj];rfl,O,O,O,O,O,au⟩,?_,h2,Ki,hg,by show g+1+t<=1000;omega,by simp;omega,by simp,by show SG+(q+1)<=1000000;omega⟩;dsimp only;rw[cj];exact dA
   rw[aD se]at hg;refine aC O (dX (bj.rd 1 O) (Nat.succ_pos _) O O (aS (bj.rd 1 O) O (a6 (bj.rd 1 O) O (aq O (aA mr.top.2 O (bw mr.top O (aq O (aA yK.2 O (zH jU bj ac ac O O ac ?_)))))))));intro dJ cQ;refine aq O (aJ O (aN O (tQ ?_)));refine⟨⟨t,g+1,A6,c6,z,zs,im.set jU ((gl im jU).set g (gi (gl im iZ) g)),Db⟩,Nat.lt_succ_self t,(auV O),cQ,by show(im.set _ _).length=n;rw[fR];exact h2,?_,hg,by show g+1+t<=1000;omega,mE,eN,EJ⟩;show(gl (im.set _ _) iZ).length=_;rw[DZ (by omega),aD (by omega)];exact Ki
  rw[aD (by omega)]at hg;have hg:=cn hg;simp only[Prod.mk.injEq]at hg;obtain⟨rfl,rfl⟩:=hg;refine ba O (bc (bY O ?_));refine Tj O O O ac (aN O (tQ ?_));have cQ:=bj.Uj (i:=0) (l:=1) O ac (by simp only[maxLen];omega);refine⟨⟨q,0,x8 A6 c6 1,c6-1,z+1,zs.drop 1,im,ls.set iZ (jU:Int)⟩,Nat.lt_succ_self q,⟨O,by show Value.slice _ _ _=.slice _ _ _;rw[List.length_drop];rfl,au⟩,?_,h2,by show(ls.set _ _).length=m;rw[fR];exact h3,by show(zs.drop 1).length<=1000001;rw[List.length_drop];omega,by show z+1+q<=1000000;omega,hf⟩;dsimp only;rw[List.length_drop];exact cQ
 obtain rfl:zs=[]:=by cases zs with|nil=>rfl|cons p r=>simp at hi
 rw[Bq]at hf;obtain rfl:=cn hf;refine ba O (bc (vZ O ?_));exact qU ⟨⟨A,n,cc,rs,im,B,m,cB,ls⟩,⟨h1,h2,h3⟩,O,az.tail⟩
def Z1(x:PS)(c g:Int):Option (PS×Int):=
 match pT x c g with
 |none=>none
 |some d=>if 0<=d then some (x,d)else
  match DQ x (gl x.im 0).length with
  |none=>none
  |some y=>if g<((gl x.im 0).length:Int)then some (⟨vJ y.im c (x.ls.length:Int) g,y.ls⟩,(x.ls.length:Int))else none
def Ie(x:PS)(d:Int):ah->Option (PS×Int)
 |[]=>some (x,d)
 |g::r=>match Z1 x d g with
  |none=>none
  |some (y,e)=>Ie y e r
def Zl(y:PS)(c d g:Int):Option PS:=
 match pT y d g,pT y c g with
 |some e,some f=>if 0<=e then Bq 100000 y [⟨e,c⟩]else if 0<=f then Bq 100000 y [⟨f,d⟩]else some ⟨vJ y.im c d g,y.ls⟩
 |_,_=>none
def I7(x:PS)(c:Int)(ws:ah):Option PS:=
 if ws.length=0 then some x else match Ie x c (ws.take (ws.length-1))with
  |none=>none
  |some (y,d)=>Zl y c d (gi ws ((ws.length-1:Nat):Int))
theorem QC{x:PS}{c g d:Int}(h:pT x c g=some d):0<=c/\c<(x.im.length:Int)/\0<=g/\g<((gl x.im c).length:Int):=by
 unfold pT at h
 split at h
 case isFalse=>cases h
 rename_i hc;exact hc
theorem aeQ{w0 w:aa}{ks:List Ck}{T:ai}(x:LS)(c:Int)(Aw:ai)(nw cw:Nat)(ws:ah)(y:PS)(bD:x.ok)(hS:St w0 w (x.pt T++ks))(hW:∀w',St w0 w' ks->bu w' Aw nw ws)(XH:nw<=1000000)(lT:nw<=cw)(hp:I7 x.p c ws=some y):
 aF prog 120 [.pointer T,.slice Aw nw cw,aj c] w (λ_ w'=>∃x':LS,x'.ok/\x'.p=y/\St w0 w' (x'.pt T++ks)):=by
 have pa:ws.length=nw:=(hW w (hS.sub (fj _ _))).1;refine bn func120 O ntmps120 O (vM O) ?_;refine aY O (aR O O (ay O ?_));refine aK _ O (λh1=>?_) (λh1=>?_)
 ·unfold I7 at hp;rw[aG (by omega)]at hp;obtain rfl:=cn hp;refine dE O (LD ?_);exact⟨x,bD,O,hS⟩
 unfold I7 at hp;rw[aD (by omega)]at hp
 split at hp
 case h_1=>cases hp
 rename_i z d' hz;obtain⟨l,rfl⟩:∃l,nw=l+1:=⟨nw-1,ac⟩;rw[pa,Nat.add_sub_cancel]at hz hp;refine aC O (aR O O (cV O (aq O ?_)));rw[show((l+1:Nat):Int)-1=(l:Int) by omega];refine rW O O O ac ?_;rw[gx];refine aR O O (ay O ?_);refine Cd.loop (α:=Nat×LS×Int) (λs=>[(0,.pointer T),(1,.slice Aw (l+1) cw),(2,aj c),(6,aj s.2.2),(7,aj l),(23,.slice Aw l cw),(24,aj l),(25,aj (s.1:Int))]) (λs w'=>s.2.1.ok/\s.1<=l/\Ie s.2.1.p s.2.2 ((ws.take l).drop s.1)=some (z,d')/\St w0 w' (s.2.1.pt T++ks)) (λs=>l-s.1) (0,x,c) (auV O) ⟨bD,bl _,hz,hS⟩ ?_;rintro⟨i,x,d⟩ e w3 ⟨bD,hi,lT,aM⟩;dsimp only at bD hi lT aM|-;have kc:=hW w3 (aM.sub (fj _ _));have ur:(ws.take l).length=l:=by rw[jG];omega
 refine bC O (aK _ O (λh2=>?_) (λh2=>?_))
 ·have Wr:=kc.take (l:=l) ac;rw[List.drop_eq_getElem_cons (by omega),<-b7 (by omega)]at lT;simp only[Ie]at lT
  split at lT
  case h_1=>cases lT
  rename_i y1 d1 hn;refine aC O (aA Wr.2 O (bg Wr O ?_));generalize gi (ws.take l) i=g at hn|-;unfold Z1 at hn
  split at hn
  case h_1=>cases hn
  rename_i d0 pH;have cE:=QC pH;refine aq O (aI (K0 x d g d0 bD aM pH) O ?_);rintro _ w4 ⟨rfl,rfl⟩;refine tG 0 O (lH (α:=LS) (λ_=>[(0,.pointer T),(1,.slice Aw (l+1) cw),(2,aj c),(7,aj l),(10,aj d1),(23,.slice Aw l cw),(24,aj l),(25,aj i)]) (λx' w'=>x'.ok/\x'.p=y1/\St w0 w' (x'.pt T++ks)) ?_ ?_)
  ·refine bC O (aK _ O (λh3=>?_) (λh3=>?_))
   ·rw[aD (by omega)]at hn
    split at hn
    case h_1=>cases hn
    rename_i y2 nN
    split at hn
    case isFalse=>cases hn
    rename_i Kh;obtain⟨rfl,rfl⟩:=Prod.mk.inj (cn hn);refine aC O ?_;refine aI (Uu x d g y2 bD aM nN (by have:=cE.1;have:=cE.2.1;show 0<x.im.length;have e:x.p.im=x.im:=O;rw[e]at this;omega) ⟨cE.1,cE.2.1⟩ ⟨cE.2.2.1,cE.2.2.2,Kh⟩) O ?_;rintro _ w5 ⟨x',gQ,gR,rfl,aO⟩;refine aN O (tQ ?_);exact⟨x',(auV O),gQ,gR,aO⟩
   rw[aG (by omega)]at hn;obtain⟨rfl,rfl⟩:=Prod.mk.inj (cn hn);refine jE O (tQ ?_);exact⟨x,(auV O),bD,O,aM⟩
  rintro x' e w5 ⟨gQ,gR,aO⟩;subst gR;refine aC O (dX (aO.rd 0 O) (Nat.succ_pos _) O O (aS (aO.rd 0 O) O (tK (aO.rd 0 O) O O O O O (ay O (Cd.cX O ?_)))));refine aC O (aJ O (aN O (tQ ?_)));exact⟨(i+1,x',d1),by show l-(i+1)<l-i;omega,(auV O),gQ,by show i+1<=l;omega,lT,aO⟩
 obtain rfl:i=l:=by omega
 rw[List.drop_eq_nil_of_le (by omega),Ie]at lT;obtain⟨Bo,rfl⟩:=Prod.mk.inj (cn lT);subst Bo;refine ba O (bc (bY O ?_));refine aA kc.2 O (bg kc O ?_);generalize gi ws i=g at hp|-;unfold Zl at hp
 split at hp
 case h_2=>cases hp
 rename_i e0 f0 W2 se;have CM:=QC W2;have Kk:=QC se;refine aq O (aI (K0 x d g e0 bD aM W2) O ?_);rintro _ w4 ⟨rfl,rfl⟩;refine aq O (aI (K0 x c g f0 bD aM se) O ?_);rintro _ w4 ⟨rfl,rfl⟩;refine ay O (aK _ O (λh3=>?_) (λh3=>?_))
 ·rw[aG (by omega)]at hp;refine aC O (aI (YK x e0 c y 100000 ac bD aM hp) O ?_);rintro _ w5 ⟨x',gQ,gR,aO⟩;refine aN O (qU ?_);exact⟨x',gQ,gR,aO⟩
 rw[aD (by omega)]at hp;refine cM O (aK _ O (λh4=>?_) (λh4=>?_))
 ·rw[aG (by omega)]at hp;refine aC O (aI (YK x f0 d y 100000 ac bD aM hp) O ?_);rintro _ w5 ⟨x',gQ,gR,aO⟩;refine aN O (qU ?_);exact⟨x',gQ,gR,aO⟩
 rw[aD (by omega)]at hp;obtain rfl:=cn hp;refine aC O (aI (Zx x c d g bD aM ⟨Kk.1,Kk.2.1⟩ ⟨CM.1,CM.2.1⟩ ⟨CM.2.2.1,Kk.2.2.2,CM.2.2.2⟩) O ?_);rintro _ w5 ⟨gQ,aO⟩;refine aN O (qU ?_);exact⟨_,gQ,O,aO⟩
end
section
open Go.RowKit Go.MapKept
structure qj{κ:Type}(d:TypeDesc)(kv:κ->ab):Prop where
 isKey:∀a,IsKey d (kv a)
 inj:∀a b,kv a=kv b->a=b
theorem sl:qj .string Value.string:=⟨λ_=>au,λa b h=>by injection h⟩
theorem vI:qj (.int .i64) (Value.int .i64):=⟨λ_=>rfl,λa b h=>by injection h⟩
section
variable {κ ν:Type} [DecidableEq κ]
def dh:List (κ×ν)->κ->Option ν
 |[],_=>none
 |(y,v)::r,x=>if y=x then some v else dh r x
def gh:List (κ×ν)->κ->ν->List (κ×ν)
 |[],x,v=>[(x,v)]
 |(y,u)::r,x,v=>if y=x then(x,v)::r else(y,u)::gh r x v
def oW:List (κ×ν)->κ->Option (Nat×ν)
 |[],_=>none
 |(y,v)::r,x=>if y=x then some (0,v)else(oW r x).map λp=>(p.1+1,p.2)
theorem Vh:∀(L:List (κ×ν))(x:κ),dh L x=(oW L x).map (·.2)
 |[],_=>rfl
 |(y,v)::r,x=>by
  simp only[dh,oW]
  split
  ·rfl
  ·rw[Vh r x,Option.map_map];rfl
theorem Vj:∀{L:List (κ×ν)}{x:κ}{j:Nat}{v:ν},oW L x=some (j,v)->L[j]?=some (x,v)/\∀u,gh L x u=L.set j (x,u)
 |(y,w)::r,x,j,v,h=>by
  simp only[oW]at h
  split at h
  ·rename_i e;simp only[oh,Prod.mk.injEq]at h;obtain⟨rfl,rfl⟩:=h;subst e;exact⟨O,λu=>by simp[gh]⟩
  ·rename_i e;cases hf:oW r x with
   |none=>simp[hf]at h
   |some p=>
    simp only[hf,Option.map_some,oh,Prod.mk.injEq]at h;obtain⟨rfl,rfl⟩:=h;obtain⟨h1,h2⟩:=Vj (L:=r) (x:=x) (j:=p.1) (v:=p.2) hf;exact⟨by simpa using h1,λu=>by simp only[gh,aD e,h2 u,List.set_cons_succ]⟩
theorem Vi:∀{L:List (κ×ν)}{x:κ},oW L x=none->∀u,gh L x u=L++[(x,u)]
 |[],x,_,u=>rfl
 |(y,w)::r,x,h,u=>by
  simp only[oW]at h
  split at h
  ·cases h
  ·rename_i e;rw[Option.map_eq_none_iff]at h;simp only[gh,aD e,Vi h u,List.cons_append]
theorem DY(L:List (κ×ν))(x y:κ)(u:ν):dh (gh L x u) y=if x=y then some u else dh L y:=by
 induction L with
 |nil=>simp only[gh,dh]
 |cons p r ih=>
  obtain⟨z,w⟩:=p;simp only[gh]
  by_cases e:z=x
  ·subst e;rw[aG rfl];simp only[dh]
   split<;>simp_all
  ·rw[aD e];simp only[dh,ih]
   by_cases e2:z=y
   ·subst e2;rw[aG rfl,aD (λh=>e h.symm),aG rfl]
   ·rw[aD e2,aD e2]
def dZ(kv:κ->ab)(vv:ν->ab)(L:List (κ×ν)):List (ab×ab):=L.map λp=>(kv p.1,vv p.2)
theorem Jv{d:TypeDesc}{kv:κ->ab}{vv:ν->ab}(K:qj d kv)(x:κ):∀(l:List MapEntry)(L:List (κ×ν))(i:Nat),l.map (λe=>(e.key,e.val))=dZ kv vv L->Instr.findNow d (kv x) l i=some ((oW L x).map λp=>(i+p.1,vv p.2))
 |[],[],_,_=>rfl
 |[],_::_,_,h=>by simp[dZ]at h
 |_::_,[],_,h=>by simp[dZ]at h
 |e::l,(y,v)::L,i,h=>by
  simp only[dZ,List.map_cons,List.cons.injEq,Prod.mk.injEq]at h;obtain⟨⟨h1,h2⟩,h3⟩:=h;obtain⟨r,hr,GP⟩:=sameNow_of_keys (K.isKey x) (K.isKey y);simp only[Instr.findNow,oW];rw[h1,hr];cases r with
  |true=>
   have e1:=K.inj _ _ (GP.1 O);subst e1;simp[h2]
  |false=>
   have bN:¬y=x:=λq=>by
    have:=GP.2 (by rw[q]);cases this
   rw[aD bN];simp only;rw[Jv K x l L (i+1) h3,Option.map_map]
   congr 2
   funext p;simp only[Function.comp];rw[Nat.add_assoc,Nat.add_comm 1]
end
theorem anM{es:Array MapEntry}{cl:Nat}(h:uA es cl)(k v:ab):uA (es.push ⟨k,v,cl⟩) (cl+1):=by
 refine⟨λx hx=>?_,?_⟩
 ·rw[Array.toList_push,dF]at hx;rcases hx with hx|hx
  ·exact Nat.lt_succ_of_lt (h.1 x hx)
  rw[eX]at hx;subst hx;exact Nat.lt_succ_self _
 rw[Array.toList_push,iE,List.nodup_append];refine⟨h.2,by simp,λa ha b hb=>?_⟩;obtain⟨x,hx,rfl⟩:=de.1 ha;have:=h.1 x hx;simp at hb;omega
theorem anL{es:Array MapEntry}{cl:Nat}(h:uA es cl)(j:Nat)(k v:ab):uA (es.modify j λe=>{ e with key:=k,val:=v }) cl:=by
 have e1:(es.modify j λe=>{ e with key:=k,val:=v }).toList.map (·.born)=es.toList.map (·.born):=by
  apply List.ext_getElem?;intro q;simp only[List.getElem?_map,Array.getElem?_toList,Array.getElem?_modify]
  split
  ·rw[Option.map_map];rfl
  rfl
 refine⟨λx hx=>?_,by rw[e1];exact h.2⟩;have h2:x.born∈(es.modify j λe=>{ e with key:=k,val:=v }).toList.map (·.born):=de.2 ⟨x,hx,O⟩;rw[e1]at h2;obtain⟨y,hy,e⟩:=de.1 h2;rw[<-e];exact h.1 y hy
theorem anN{es r6:Array MapEntry}{cl:Nat}(h:uA es cl)(hs:r6.toList.Sublist es.toList):uA r6 cl:=⟨λx hx=>h.1 x (hs.subset hx),h.2.sublist (hs.map _)⟩
def fc(t:ad)(g:Nat)(iP:List (ab×ab)):Ck:=⟨some ⟨g,0,none⟩,0,0,t,.tuple #[]::r7 iP⟩
def mQ(w:aa)(g:Nat)(iP:List (ab×ab)):Prop:=∃es cl,w.heap[g]?=some (.map es cl)/\es.toList.map (λe=>(e.key,e.val))=iP
theorem mQ.ao{w w':aa}{g:Nat}{iP:List (ab×ab)}(h:mQ w g iP)(hb:Below w.heap.size w w'):mQ w' g iP:=by
 obtain⟨es,cl,h1,h2⟩:=h;exact⟨es,cl,by rw[hb.block g (Array.getElem?_eq_some_iff.1 h1).1];exact h1,h2⟩
section
variable {w0 w w':aa}{ks:List Ck}{t:ad}{g:Nat}{iP:List (ab×ab)}
theorem St.Lo(h:St w0 w ks)(i:Nat)(hk:ks[i]?=some (fc t g iP)):w0.heap.size<=g/\∃es cl,w.heap[g]?=some (.map es cl)/\es.toList.map (λe=>(e.key,e.val))=iP/\uA es cl:=by
 rcases(h.get hk).cases with⟨_,_,_,g',o,hA,hg,hh,hv⟩|⟨hm,_⟩
 ·have hA:some (⟨g,0,Option.none⟩:Addr)=some ⟨g',0,Option.none⟩:=hA;simp only[oh,Addr.mk.injEq,and_true]at hA;subst hA
  match o,hh,hv with
  | .map es cl,hh,⟨hw,.inl hv⟩=>
   have hv:(.tuple #[]::r7 iP:List ab)=.tuple #[]::r7 (es.toList.map λe=>(e.key,e.val)):=hv;simp only[List.cons.injEq,true_and]at hv;exact⟨hg,es,cl,hh,(U7 hv).symm,hw⟩
  | .map es cl,hh,⟨hw,.inr hv⟩=>
   have hv:(.tuple #[]::r7 iP:List ab)=.tuple #[aj cl]::r8 es.toList:=hv;simp at hv
  | .mapIter m since seen c0,hh,⟨_,bm,_,hv⟩=>
   have hv:(.tuple #[]::r7 iP:List ab)=.tuple #[.map (some bm),aj since]::_:=hv;simp at hv
 ·cases hm
theorem St.aaj(h:St w0 w ks)(i:Nat)(hk:ks[i]?=some (fc t g iP)):w0.heap.size<=g/\mQ w g iP:=by
 obtain⟨h1,es,cl,h2,h3,_⟩:=h.Lo i hk;exact⟨h1,es,cl,h2,h3⟩
theorem St.oH(h:St w0 w ks)(i:Nat)(hk:ks[i]?=some (fc t g iP)):mQ w g iP:=(h.aaj i hk).2
theorem St.Ll(h:St w0 w ks)(hR:mQ w0 g iP):mQ w g iP:=hR.ao h.below
theorem St.adw(h:St w0 w ks)(t:ad):St w0 (w.alloc (.map #[] 0)) (fc t w.heap.size []::ks):=by
 have hb:Below w.heap.size w (w.alloc (.map #[] 0)):=(Below.refl _ _).alloc (cJ _) _;have h1:=h.ao hb;refine⟨h1.below,λk hk=>?_,?_⟩
 ·rcases gW.1 hk with rfl|hk
  ·exact .ofM rfl ⟨rfl,rfl,_,_,rfl,h.below.size,heap_alloc_new w _,⟨(λ_ h=>by cases h),List.nodup_nil⟩,.inl rfl⟩
  exact h1.own k hk
 simp only[List.filterMap_cons,fc,Ck.iv,Option.map_some,mj];refine⟨λcE=>?_,h.apart⟩;obtain⟨k',fU,vw⟩:=List.mem_filterMap.1 cE;have:=((h.own k' fU).lt vw).2;omega
theorem St.Ma{i:Nat}{QG:List (ab×ab)}{r6:Array MapEntry}{wu:Nat}(h:St w0 w ks)(hk:ks[i]?=some (fc t g iP))(hv:r6.toList.map (λe=>(e.key,e.val))=QG)(qN:uA r6 wu):St w0 { w with heap:=w.heap.setIfInBounds g (.map r6 wu) } (ks.set i (fc t g QG)):=by
 obtain⟨hg,es,cl,hh,_⟩:=h.aaj i hk;refine h.turn (k:=fc t g iP) (k':=fc t g QG) (g:=g) hk O O ⟨⟨O,O,O,by simp,λx _ hx=>?_⟩,cJ _⟩ ?_
 ·exact(heap_set hh).2 x λe=>hx (by rw[e])
 refine .ofM O ⟨O,O,g,_,O,hg,(heap_set hh).1,qN,.inl ?_⟩;rw[hv];rfl
end
section
variable{t kt et T:ad}{b:Nat}{ix:ae}
variable {P:Program}{N:Nat}{ops:Array Oper}{K:Env->aa->Prop}{rest:List Oper}{e:Env}{w0 w w':aa}{ks:List Ck}{d:Nat}{ty:ad}{pos:String}{af:Array Edge}
variable {κ ν:Type} [DecidableEq κ] {kd:TypeDesc}{kv:κ->ab}{vv:ν->ab}
theorem wc(hS:St w0 w ks)(hb:Nat.blt d N=true)(hK:∀g w',St w0 w' (fc t g []::ks)->ak P N ops K rest (bE e d (.map (some g))) w'):
 ak P N ops K (⟨some d,.makeMap t none,ty,pos,af,none⟩::rest) e w:=
 .val (w':=w.alloc (.map #[] 0)) (by simp[execOp,run_makeMap]) hb (hK _ _ (hS.adw t))
theorem RO{z:ab}{s:Nat}[hU:bJ P t (.map kt et)][hk:bJ P kt kd][bL P et z s b](KT:qj kd kv){g:Nat}{L:List (κ×ν)}{x:κ}(hR:mQ w g (dZ kv vv L))(ok:Bool):
 (Instr.lookup t (.map (some g)) (kv x) ok).run P w=.ok (if ok then .tuple #[((dh L x).map vv).getD z,.bool (dh L x).isSome]else((dh L x).map vv).getD z) w:=by
 obtain⟨es,cl,hh,hm⟩:=hR;obtain⟨inf,hi,eN,_,_⟩:=bL.get P et;have hf:=Jv (vv:=vv) KT x es.toList L 0 hm;rw[Vh];unfold Instr.lookup;simp only[Sem.run_bind,run_underlying hU.out,Result.andThen,MapKept.run_getObj_map hh,MapKept.run_checkKey hk.out (KT.isKey x)];cases ox:oW L x with
 |none=>
  rw[ox]at hf;have yq:=MapKept.run_findKey (P:=P) (w:=w) hk.out hf;cases ok<;>simp[yq,zeroValue,typeInfo,hi,eN]
 |some p=>
  rw[ox]at hf;have yq:=MapKept.run_findKey (P:=P) (w:=w) hk.out hf;cases ok<;>simp[yq]
theorem ak.look{z v:ab}{s:Nat}[bJ P t (.map kt et)][bJ P kt kd][bL P et z s b](KT:qj kd kv){g:Nat}{L:List (κ×ν)}{m:ae}{x:κ}(hR:mQ w g (dZ kv vv L))(hx:ev e m=.map (some g))(hy:ev e ix=kv x)(hv:((dh L x).map vv).getD z=v)(hb:Nat.blt d N=true)(hK:ak P N ops K rest (bE e d v) w):ak P N ops K (⟨some d,.lookup t m ix false,ty,pos,af,none⟩::rest) e w:=by
 subst hv;refine .val (w':=w) ?_ hb hK;have:=RO (P:=P) (t:=t) (x:=x) KT hR false;simp[execOp,hx,hy,this]
theorem acS[bJ P t (.map kt et)][bJ P kt kd][bL P et (.bool false) 1 b](KT:qj kd kv){g:Nat}{L:List (κ×Bool)}{m:ae}(x:κ)(hR:mQ w g (dZ kv Value.bool L))(hx:ev e m=.map (some g))(hy:ev e ix=kv x)(hb:Nat.blt d N=true)(hK:ak P N ops K rest (bE e d (.bool ((dh L x).getD false))) w):ak P N ops K (⟨some d,.lookup t m ix false,ty,pos,af,none⟩::rest) e w:=
 .look KT hR hx hy (by cases dh L x<;>rfl) hb hK
theorem FE[bJ P t (.map kt et)][bJ P kt kd][bL P et (aj 0) 1 b](KT:qj kd kv){g:Nat}{L:List (κ×Int)}{m:ae}(x:κ)(hR:mQ w g (dZ kv (Value.int .i64) L))(hx:ev e m=.map (some g))(hy:ev e ix=kv x)(hb:Nat.blt d N=true)(hK:ak P N ops K rest (bE e d (aj ((dh L x).getD 0))) w):ak P N ops K (⟨some d,.lookup t m ix false,ty,pos,af,none⟩::rest) e w:=
 .look KT hR hx hy (by cases dh L x<;>rfl) hb hK
theorem acT[bJ P t (.map kt et)][bJ P kt kd][bL P et (aj 0) 1 b](KT:qj kd kv){g:Nat}{L:List (κ×Int)}{m:ae}(x:κ)(hR:mQ w g (dZ kv (Value.int .i64) L))(hx:ev e m=.map (some g))(hy:ev e ix=kv x)(hb:Nat.blt d N=true)(hK:ak P N ops K rest (bE e d (.tuple #[aj ((dh L x).getD 0),.bool (dh L x).isSome])) w):ak P N ops K (⟨some d,.lookup t m ix true,ty,pos,af,none⟩::rest) e w:=by
 refine .val (w':=w) ?_ hb hK;have:=RO (P:=P) (t:=t) (x:=x) KT hR true;have e1:((dh L x).map (Value.int .i64)).getD (aj 0)=aj ((dh L x).getD 0):=by cases dh L x<;>rfl
 rw[e1]at this;simp[execOp,hx,hy,this]
theorem aqa[hU:bJ P t (.map kt et)][hk:bJ P kt kd](KT:qj kd kv){g:Nat}{L:List (κ×ν)}(i:Nat)(x:κ)(u:ν)(hS:St w0 w ks)(hi:ks[i]?=some (fc T g (dZ kv vv L))):
 ∃w',(Instr.mapUpdate t (.map (some g)) (kv x) (vv u)).run P w=.ok () w'/\St w0 w' (ks.set i (fc T g (dZ kv vv (gh L x u)))):=by
 obtain⟨_,es,cl,hh,hm,qN⟩:=hS.Lo i hi;have hf:=Jv (vv:=vv) KT x es.toList L 0 hm;have yq:=MapKept.run_findKey (P:=P) (w:=w) hk.out hf;cases ox:oW L x with
 |none=>
  refine⟨{ w with heap:=w.heap.setIfInBounds g (.map (es.push ⟨kv x,vv u,cl⟩) (cl+1)) },?_,hS.Ma hi ?_ (anM qN _ _)⟩
  ·simp[Instr.mapUpdate,run_underlying hU.out,MapKept.run_getObj_map hh,MapKept.run_checkKey hk.out (KT.isKey x),yq,ox,MapKept.run_setObj_map _ hh,Result.andThen]
  ·rw[Vi ox];simp only[Array.toList_push,iE,hm,dZ]
   rfl
 |some p=>
  obtain⟨j,v⟩:=p;obtain⟨h1,h2⟩:=Vj ox;have gp:j<L.length:=(iD.1 h1).1;have Pm:es.toList.length=L.length:=by have:=aQ List.length hm;simpa[dZ]using this
  have hes:es.size=L.length:=by simpa using Pm
  have qF:j<es.size:=by omega
  have ajT:es[j].key=kv x:=by
   have:=aQ (λl=>l[j]?) hm;simp[dZ,h1,qF]at this;exact this.1
  have aw:=MapKept.run_keyThatStays (P:=P) (w:=w) (KT.isKey x);refine⟨{ w with heap:=w.heap.setIfInBounds g (.map (es.modify j λe=>{ e with key:=kv x,val:=vv u }) cl) },?_,hS.Ma hi ?_ (anL qN _ _ _)⟩
  ·simp[Instr.mapUpdate,run_underlying hU.out,MapKept.run_getObj_map hh,MapKept.run_checkKey hk.out (KT.isKey x),yq,ox,MapKept.run_setObj_map _ hh,Result.andThen,qF,ajT,aw]
  ·rw[h2 u];apply List.ext_getElem?;intro q;have hq:=aQ (λl=>l[q]?) hm;simp only[dZ,List.getElem?_map,Array.getElem?_toList]at hq;simp only[dZ,List.getElem?_map,lI,Array.getElem?_toList,Array.getElem?_modify]
   by_cases e1:j=q
   ·subst e1;simp[qF,gp]
   ·rw[aD e1,aD e1];exact hq
def abO:Op->Option (ad×ae×ae×ae)
 | .mapUpdate t m k x=>some (t,m,k,x)
 | .insert t m k x=>some (t,m,k,x)
 |_=>none
theorem tL{op:Op}{m k x:ae}[hU:bJ P t (.map kt et)][bJ P kt kd](qI:abO op=some (t,m,k,x))(KT:qj kd kv){g:Nat}{L:List (κ×ν)}(i:Nat){a:κ}{u:ν}(hS:St w0 w ks)(hi:ks[i]?=some (fc T g (dZ kv vv L)))(hm:ev e m=.map (some g))(hk:ev e k=kv a)(hx:ev e x=vv u)(hK:∀w',St w0 w' (ks.set i (fc T g (dZ kv vv (gh L a u))))->ak P N ops K rest e w'):ak P N ops K (⟨none,op,ty,pos,af,none⟩::rest) e w:=by
 obtain⟨w',jI,mu⟩:=aqa (P:=P) (t:=t) KT i a u hS hi;refine .unit (w':=w') ?_ (hK _ mu);cases op<;>simp[abO]at qI<;>obtain⟨rfl,rfl,rfl,rfl⟩:=qI<;>simp[execOp,hm,hk,hx,jI]
end
end
section
open Go.RowKit
def H3(c:Int):PS->ag->Option PS
 |x,[]=>some x
 |x,w::r=>if 0<=c/\c<(x.ls.length:Int)then(if gi x.ls c=c then(match I7 x c w with|none=>none|some y=>H3 c y r)else H3 c x r)else none
def E9(c:Int)(aZ:Nat):Nat->Nat->PS->Option PS
 |0,_,_=>none
 |k+1,g,x=>if g<aZ then
  (if 0<=c/\c<(x.ls.length:Int)then
    (if gi x.ls c=c then
      (if c<(x.im.length:Int)/\(g:Int)<((gl x.im c).length:Int)then
        (if gi (gl x.im c) g<0 then
          (match DQ x (gl x.im 0).length with
            |none=>none
            |some y=>if(g:Int)<((gl x.im 0).length:Int)then E9 c aZ k (g+1) ⟨vJ y.im c (x.ls.length:Int) g,y.ls⟩else none)
        else E9 c aZ k (g+1) x)
      else none)
    else E9 c aZ k (g+1) x)
  else none)
  else some x
def LK(aZ:Nat)(rel:ag):Nat->Nat->PS->Option PS
 |0,_,_=>none
 |k+1,c,x=>if c<x.im.length then(match H3 c x rel with|none=>none|some y=>match E9 c aZ 100 0 y with|none=>none|some z=>LK aZ rel k (c+1) z)else some x
def ap3(aZ:Nat)(rel:ag):Option PS:=LK aZ rel 3000 0 ⟨[List.replicate aZ (-1)],[0]⟩
def Fi(y:PS)(c:Int)(aZ:Nat):Nat->Nat->ah->List (Int×Int)->ag->Option (ah×List (Int×Int)×ag)
 |0,_,_,_,_=>none
 |k+1,g,ord,L,ju=>if g<aZ then(match pT y c g with
  |none=>none
  |some d=>if ord.length<1000000/\(gl ju g).length<1000000 then
   (match dh L d with
     |some n=>Fi y c aZ k (g+1) ord L (ju.set g (gl ju g++[n]))
     |none=>Fi y c aZ k (g+1) (ord++[d]) (gh L d (ord.length:Int)) (ju.set g (gl ju g++[(ord.length:Int)])))
   else none)else some (ord,L,ju)
def L9(y:PS)(aZ:Nat):Nat->Nat->ah->List (Int×Int)->ag->Option (ag)
 |0,_,_,_,_=>none
 |k+1,i,ord,L,ju=>if i<ord.length then(match Fi y (gi ord i) aZ 100 0 ord L ju with
  |none=>none
  |some (o,l,t)=>L9 y aZ k (i+1) o l t)else some ju
def uQ(aZ:Nat)(rel:ag):Option (ag):=
 match ap3 aZ rel with
 |none=>none
 |some y=>L9 y aZ 10000 0 [0] [(0,0)] (List.replicate aZ [])
section
variable {P:Program}{N:Nat}{ops:Array Oper}{K:Env->aa->Prop}{rest:List Oper}{e:Env}{w0 w w':aa}{ks:List Ck}{d:Nat}{ty:ad}{pos:String}{af:Array Edge}
theorem acG{t:ad}{f0 f1 f2:Field}{z0 z1 z2 y0 y1 y2:ab}{b b0 b1 b2:Nat}[bJ P t (.struct #[f0,f1,f2])][bL P t (.agg #[z0,z1,z2]) 3 b]{x0 x1:ae}{v0 v1:ab}(oY:bL P f0.type y0 1 b0)(nJ:bL P f1.type y1 1 b1)(qu:bL P f2.type y2 1 b2)(ho:f0.offset=0)(qH:f1.offset=1)(G6:f2.offset=2)(h0:ev e x0=v0)(h1:ev e x1=v1)(c0:v0.oneCell'=true)(c1:v1.oneCell'=true)(hb:Nat.blt d N=true)(hK:ak P N ops K rest (bE e d (.agg #[v0,v1,z2])) w):ak P N ops K (⟨some d,.build t #[(0,x0),(1,x1)],ty,pos,af,none⟩::rest) e w:=by
 obtain⟨inf,hi,eN,hs,iI⟩:=bL.get P t;obtain⟨yX,eU,_,l7,_⟩:=oY.get P f0.type;obtain⟨Bs,kP,_,pR,_⟩:=nJ.get P f1.type;obtain⟨Hy,tf,_,o8,_⟩:=qu.get P f2.type;have e0:v0.cells= #[v0]:=by cases v0<;>simp[Value.oneCell']at c0<;>rfl
 have e1:v1.cells= #[v1]:=by cases v1<;>simp[Value.oneCell']at c1<;>rfl
 have ez:(Value.agg #[z0,z1,z2]).cells= #[z0,z1,z2]:=O;refine .val (w':=w) ?_ hb hK;simp[execOp,Instr.build,run_underlying (bJ.out (P:=P) (t:=t)),sizeOf,typeInfo,zeroValue,hi,eN,eU,l7,kP,pR,tf,o8,ho,qH,G6,h0,e0,h1,e1,ez,Instr.fill]
end
structure Tw where
 k:Nat
 i:Nat
 A:ai
 c:Nat
 ord:ah
 L:List (Int×Int)
 rs:List aE
 ju:ag
structure Tu where
 k:Nat
 c:Nat
 x:LS
theorem af6(aZ:Nat)(Ar:ai)(nr cr:Nat)(gB:List aE)(rel:ag)(tb:ag)(w:aa)(hR:bH w Ar nr gB rel)(pQ:∀x∈rel,x.length<=1000000)(wV:nr<=1000000)(Ep:aZ<=100)(hp:uQ aZ rel=some tb):
 aF prog 65 [.agg #[aj aZ,.slice Ar nr cr],.slice none 0 0] w (λv w'=>∃A c rs,v=.tuple #[.slice A tb.length c,.bool true]/\rs.length=tb.length/\St w w' (aV 27 2 A tb.length c rs tb)):=by
 have bT:=hR.len;unfold uQ at hp
 split at hp
 case h_1=>cases hp
 rename_i y hy;refine bn func65 O ntmps65 O (mI O) (aY O (nB (St.refl w) O O ?_));intro A2 w1 ax;refine aq O (eh ax O O O ?_);intro kh w2 az;refine aS (az.rd 1 O) O (fX (az.rd 1 O) O O O O O (aI (FL kh 1 (-1) aZ _ (az.bF 0 O) ac) O ?_));rintro _ w3 ⟨Mg,rfl,aw⟩;have aM:=az.call aw;refine jW aM O O O λra w4 aU=>eh aU O O O λrb w5 aO=>acG aL aL aL O O O O O O O O (BS aO O O ?_);intro T w6 bk;have bk:St w w6 ((⟨ra,1,1,[⟨Mg,aZ,aZ⟩],[List.replicate aZ (-1)],rb,1,1,[0]⟩:LS).pt T++[av 2 kh 1 1 [-1],Bx 59 2 A2 [aj aZ,.slice Ar nr cr]]):=bk;have bk:St w w6 ((⟨ra,1,1,[⟨Mg,aZ,aZ⟩],[List.replicate aZ (-1)],rb,1,1,[0]⟩:LS).pt T++[Bx 59 2 A2 [aj aZ,.slice Ar nr cr]]):=bk.sub (List.Sublist.append (fD _) (List.sublist_cons_self _ _));refine aq O (aR O O (ay O ?_));refine Cd.loop (α:=Unit) (λ_=>[(2,.pointer A2),(6,.pointer T),(30,aj 0),(31,aj 0)]) (λ_ w'=>w'=w6) (λ_=>0) () (auV O) O ?_;rintro⟨⟩ e w7 rfl;refine bC O (fq O ?_);refine ba O (bc (kX O ?_));refine Cd.loop (α:=Tu) (λs=>[(2,.pointer A2),(6,.pointer T),(9,aj (s.c:Int))]) (λs w'=>s.x.ok/\LK aZ rel s.k s.c s.x.p=some y/\s.c+s.k<=3000/\St w w' (s.x.pt T++[Bx 59 2 A2 [aj aZ,.slice Ar nr cr]])) (λs=>s.k) ⟨3000,0,⟨ra,1,1,[⟨Mg,aZ,aZ⟩],[List.replicate aZ (-1)],rb,1,1,[0]⟩⟩ (auV O) ⟨⟨O,O,O⟩,hy,cJ _,bk⟩ ?_;rintro⟨k,c,x⟩ e w8 ⟨bD,jI,WU,bB⟩;dsimp only at bD jI WU bB|-;obtain⟨k,rfl⟩:∃q,k=q+1:=by cases k with|zero=>cases jI|succ q=>exact⟨q,rfl⟩
 rw[LK]at jI;have qO:x.im.length=x.n:=bD.2.1;refine aY O (dX (bB.rd 0 O) (Nat.succ_pos _) O O (aS (bB.rd 0 O) O (a6 (bB.rd 0 O) O (aI (BH x.A x.n x.c w8) O ?_))));rintro _ w9 ⟨rfl,rfl⟩;refine aq O (b9 46 O (λh1=>?_) (λh1=>?_))
 ·rw[aG (by show c<x.im.length;omega)]at jI
  split at jI
  case h_1=>cases jI
  rename_i y1 rK
  split at jI
  case h_1=>cases jI
  rename_i y2 lU;refine ar O (aq O (ar O ?_));refine dX (bB.rd 0 O) (Nat.succ_pos _) O O (ar O (aS (bB.rd 0 O) O (ar O (tK (bB.rd 0 O) O O O O O (ar O ?_)))))
  first|refine cO rfl rfl ?_|refine dv rfl rfl ?_
  refine ay O (Cd.iw O (aC O ?_));have JV:Rd _ A2 2 (λj=>([aj aZ,.slice Ar nr cr]:List ab).getD j undef):=(bB.sub (fj _ _)).rd 0 O;refine aS JV O (a6 JV O ?_);refine aR O O (ay O ?_);refine Cd.loop (α:=Nat×LS) (λs=>[(2,.pointer A2),(6,.pointer T),(9,aj c),(56,.slice Ar nr cr),(57,aj nr),(58,aj (s.1:Int))]) (λs w'=>s.2.ok/\s.1<=nr/\H3 c s.2.p (rel.drop s.1)=some y1/\St w w' (s.2.pt T++[Bx 59 2 A2 [aj aZ,.slice Ar nr cr]])) (λs=>nr-s.1) (0,x) (auV O) ⟨bD,bl _,rK,bB⟩ ?_;rintro⟨i,x⟩ e dJ ⟨bD,hi,rK,cQ⟩;dsimp only at bD hi rK cQ|-;have Wl:Rd dJ A2 2 (λj=>([aj aZ,.slice Ar nr cr]:List ab).getD j undef):=(cQ.sub (fj _ _)).rd 0 O;have JX:=cQ.bU hR;have V8:=Mv cQ;have pS:x.ls.length=x.m:=bD.2.2;refine bC O (aK _ O (λh2=>?_) (λh2=>?_))
  ·have br:=JX.at_ (i:=(i:Int)) ac h2;have KH:=JX.cap_ (i:=(i:Int)) ac h2;have hlen:=pQ (gl rel i) (rD ac ac);rw[List.drop_eq_getElem_cons (by omega),<-df (by omega)]at rK;simp only[H3]at rK
   split at rK
   case isFalse=>cases rK
   rename_i b8;have b8:0<=(c:Int)/\(c:Int)<(x.ls.length:Int):=b8;have yM:=br.1;refine aC O (auJ JX.top.2 O O O ac h2 (bw JX.top O (aq O (dX (cQ.rd 0 O) (Nat.succ_pos _) O O (aS (cQ.rd 0 O) O (a6 (cQ.rd 0 O) O (aq O (aA V8.2 O (bg V8 O ?_)))))))));refine aq O (b9 71 O (λh3=>?_) (λh3=>?_))
   ·rw[aG (show gi x.p.ls c=(c:Int)from h3)]at rK
    split at rK
    case h_1=>cases rK
    rename_i z hz;refine ar O (aq O (ar O ?_));refine dX (cQ.rd 0 O) (Nat.succ_pos _) O O (ar O (aS (cQ.rd 0 O) O (ar O (tK (cQ.rd 0 O) O O O O O (ar O ?_)))))
    first|refine cO rfl rfl ?_|refine dv rfl rfl ?_
    refine ay O (Cd.iw O (aC O ?_));refine aI (aeQ x c _ _ (rg gB i).c (gl rel i) z bD cQ (λw' h=>(h.bU hR).at_ ac h2) ac KH.1 hz) O ?_;rintro _ eO ⟨x',gQ,gR,dA⟩;subst gR;refine aq O (aJ O (aN O (tQ ?_)));exact⟨(i+1,x'),by show nr-(i+1)<nr-i;omega,(auV O),gQ,by show i+1<=nr;omega,rK,dA⟩
   ·rw[aD (show ¬gi x.p.ls c=(c:Int)from h3)]at rK;refine aB O (aB O (aB O (aB O (aB O (ay O ?_)))));refine Cd.cX O (aC O (aJ O (aN O (tQ ?_))));exact⟨(i+1,x),by show nr-(i+1)<nr-i;omega,(auV O),bD,by show i+1<=nr;omega,rK,cQ⟩
  ·rw[List.drop_eq_nil_of_le (by omega)]at rK;obtain rfl:=cn rK;refine ba O (bc (bY O ?_));refine aS Wl O (fX Wl O O O O O (ay O ?_));refine Cd.loop (α:=Tu) (λs=>[(2,.pointer A2),(6,.pointer T),(9,aj c),(84,aj aZ),(85,aj (s.c:Int))]) (λs w'=>s.x.ok/\E9 c aZ s.k s.c s.x.p=some y2/\s.c+s.k=100/\St w w' (s.x.pt T++[Bx 59 2 A2 [aj aZ,.slice Ar nr cr]])) (λs=>s.k) ⟨100,0,x⟩ (auV O) ⟨bD,lU,O,cQ⟩ ?_;rintro⟨j,g,x⟩ e eO ⟨bD,lU,hjg,dA⟩;dsimp only at bD lU hjg dA|-;obtain⟨j,rfl⟩:∃q,j=q+1:=by cases j with|zero=>cases lU|succ q=>exact⟨q,rfl⟩
   rw[E9]at lU;have V9:=Mv dA;have OD:=DC bD dA;have pS:x.ls.length=x.m:=bD.2.2;have yR:x.im.length=x.n:=bD.2.1;refine bC O (aK _ O (λh4=>?_) (λh4=>?_))
   ·rw[aG (by omega)]at lU
    split at lU
    case isFalse=>cases lU
    rename_i b8;have b8:0<=(c:Int)/\(c:Int)<(x.ls.length:Int):=b8;refine aC O (dX (dA.rd 0 O) (Nat.succ_pos _) O O (aS (dA.rd 0 O) O (a6 (dA.rd 0 O) O (aq O (aA V9.2 O (bg V9 O (aq O ?_)))))));refine b9 97 O (λh5=>?_) (λh5=>?_)
    ·rw[aG (show gi x.p.ls c=(c:Int)from h5)]at lU
     split at lU
     case isFalse=>cases lU
     rename_i Kc;have Kc:(c:Int)<(x.im.length:Int)/\(g:Int)<((gl x.im c).length:Int):=Kc;have br:=OD.at_ (i:=(c:Int)) ac ac;have yM:=br.1;refine ar O (aq O (ar O ?_));refine dX (dA.rd 0 O) (Nat.succ_pos _) O O (ar O (aS (dA.rd 0 O) O (ar O (tK (dA.rd 0 O) O O O O O (ar O ?_)))))
     first|refine cO rfl rfl ?_|refine dv rfl rfl ?_
     refine aq O ?_;refine ak.split 104 (b:=true) O (λ_ => ?_) (λh => absurd h am) --t
     refine ar O (aq O (ar O ?_));refine dX (dA.rd 0 O) (Nat.succ_pos _) O O (ar O (aS (dA.rd 0 O) O (ar O (a6 (dA.rd 0 O) O ?_))));refine ar O (aq O (ar O ?_));refine aA OD.top.2 O (ar O (bw OD.top O ?_));refine ar O (aq O (ar O ?_));refine aA br.2 O (ar O (bg br O ?_));refine ar O (ay O ?_);refine aK _ O (λh6=>?_) (λh6=>?_)
     ·rw[aG (show gi (gl x.p.im c) g<0 from h6)]at lU
      split at lU
      case h_1=>cases lU
      rename_i y3 hy3
      split at lU
      case isFalse=>cases lU
      rename_i Kh;refine aC O ?_;refine aI (Uu x c g y3 bD dA hy3 ac ⟨ac,Kc.1⟩ ⟨ac,Kc.2,Kh⟩) O ?_;rintro _ gD ⟨x',gQ,gR,rfl,dz⟩;refine aq O (aJ O (aN O (tQ ?_)));exact⟨⟨j,g+1,x'⟩,Nat.lt_succ_self j,(auV O),gQ,by rw[gR];exact lU,by show g+1+j=100;omega,dz⟩
     ·rw[aD (show ¬gi (gl x.p.im c) g<0 from h6)]at lU;refine aC O (aJ O (aN O (tQ ?_)));exact⟨⟨j,g+1,x⟩,Nat.lt_succ_self j,(auV O),bD,lU,by show g+1+j=100;omega,dA⟩
    ·rw[aD (show ¬gi x.p.ls c=(c:Int)from h5)]at lU;refine aB O (aB O (aB O (aB O (aB O (aq O (aB O (aB O (aB O (aB O (aB O (aB O ?_)))))))))));refine aB O (aB O (aB O (aB O (aB O (ay O ?_)))));refine Cd.cX O (aC O (aJ O (aN O (tQ ?_))));exact⟨⟨j,g+1,x⟩,Nat.lt_succ_self j,(auV O),bD,lU,by show g+1+j=100;omega,dA⟩
   ·rw[aD (by omega)]at lU;obtain rfl:=cn lU;refine ba O (bc (bY O (aJ O (aN O (tQ ?_)))));exact⟨⟨k,c+1,x⟩,Nat.lt_succ_self k,(auV O),bD,jI,by show c+1+k<=3000;omega,dA⟩
 ·rw[aD (by show ¬c<x.im.length;omega)]at jI;refine aB O (aB O (aB O (aB O (aB O (ay O ?_)))));refine Cd.cX O ?_;obtain rfl:=cn jI;refine ba O (bc (bY O ?_));refine dX (bB.rd 0 O) (Nat.succ_pos _) O O (aS (bB.rd 0 O) O (tK (bB.rd 0 O) O O O O O (ay O (Cd.cX O (aC O (eh bB O O O ?_))))));intro ig dJ cQ;refine aq O (wc cQ O ?_);intro gM eO dA;refine tL O vI 0 (L:=([]:List (Int×Int))) (a:=0) (u:=(0:Int)) (vv:=Value.int .i64) dA O O O O ?_;intro gD dz;have dz:St w gD ([av 2 ig 1 1 [0],fc 134 gM (dZ (Value.int .i64) (Value.int .i64) [((0:Int),(0:Int))])]++(x.pt T++[Bx 59 2 A2 [aj aZ,.slice Ar nr cr]])):=dz.perm (List.Perm.swap _ _ _);have Wm:Rd gD A2 2 (λj=>([aj aZ,.slice Ar nr cr]:List ab).getD j undef):=((dz.sub (fj _ _)).sub (fj _ _)).rd 0 O;refine aq O (aS Wm O (fX Wm O O O O O (BV aZ dz O O ac ?_)));intro gK jm il;have il:St w jm (aV 27 2 gK aZ aZ (List.replicate aZ bI) (List.replicate aZ [])++([av 2 ig ([0]).length 1 ([0]),fc 134 gM (dZ (Value.int .i64) (Value.int .i64) ([((0:Int),(0:Int))]))]++(x.pt T++[Bx 59 2 A2 [aj aZ,.slice Ar nr cr]]))):=by
   have h:=(xu (t:=2) aZ il);refine h.perm ?_;show List.Perm (_::(_++_)) (_::(_++_));exact List.Perm.cons _ gL
  refine ay O ?_;refine Cd.loop (α:=Tw) (λs=>[(2,.pointer A2),(6,.pointer T),(13,.slice s.A s.ord.length s.c),(14,.map (some gM)),(15,.slice gK aZ aZ),(16,aj (s.i:Int))]) (λs w'=>St w w' (aV 27 2 gK aZ aZ s.rs s.ju++([av 2 s.A (s.ord).length s.c (s.ord),fc 134 gM (dZ (Value.int .i64) (Value.int .i64) (s.L))]++(x.pt T++[Bx 59 2 A2 [aj aZ,.slice Ar nr cr]])))/\s.rs.length=aZ/\s.ju.length=aZ/\s.i+s.k=10000/\L9 x.p aZ s.k s.i s.ord s.L s.ju=some tb) (λs=>s.k) ⟨10000,0,ig,1,[0],[(0,0)],List.replicate aZ bI,List.replicate aZ []⟩ (auV O) ⟨il,by simp,by simp,O,hp⟩ ?_;rintro⟨k,i,ig,kj,ord,L,rs,ju⟩ e qZ ⟨lR,EG,ur,qy,yQ⟩;dsimp only at lR EG ur qy yQ|-;obtain⟨k,rfl⟩:∃q,k=q+1:=by cases k with|zero=>cases yQ|succ q=>exact⟨q,rfl⟩
  rw[L9]at yQ;refine aY O (aR O O (ay O ?_));refine aK _ O (λh2=>?_) (λh2=>?_)
  ·rw[aG (by omega)]at yQ
   split at yQ
   case h_1=>cases yQ
   rename_i o1 l1 t1 nj;have Wn:Rd qZ A2 2 (λj=>([aj aZ,.slice Ar nr cr]:List ab).getD j undef):=(((lR.sub (fj _ _)).sub (fj _ _)).sub (fj _ _)).rd 0 O;refine aC O (aS Wn O (fX Wn O O O O O (ay O ?_)));have hic:(gi ord i)=gi ord i:=O;generalize sb:gi ord i=cc at nj;refine Cd.loop (α:=Tw) (λs=>[(2,.pointer A2),(6,.pointer T),(13,.slice s.A s.ord.length s.c),(14,.map (some gM)),(15,.slice gK aZ aZ),(16,aj i),(139,aj aZ),(140,aj (s.i:Int))]) (λs w'=>St w w' (aV 27 2 gK aZ aZ s.rs s.ju++([av 2 s.A (s.ord).length s.c (s.ord),fc 134 gM (dZ (Value.int .i64) (Value.int .i64) (s.L))]++(x.pt T++[Bx 59 2 A2 [aj aZ,.slice Ar nr cr]])))/\s.rs.length=aZ/\s.ju.length=aZ/\i<s.ord.length/\gi s.ord i=cc/\Fi x.p cc aZ s.k s.i s.ord s.L s.ju=some (o1,l1,t1)) (λs=>s.k) ⟨100,0,ig,kj,ord,L,rs,ju⟩ (auV O) ⟨lR,EG,ur,by show i<ord.length;omega,sb,nj⟩ ?_;rintro⟨j,g,ig,kj,ord,L,rs,ju⟩ e Dw ⟨ke,EG,ur,h2,sb,nj⟩;dsimp only at ke EG ur h2 sb nj|-;obtain⟨j,rfl⟩:∃q,j=q+1:=by cases j with|zero=>cases nj|succ q=>exact⟨q,rfl⟩
   rw[Fi]at nj;have Ov:=ke.nW;have Wi:=Ov.bF 0 O;refine bC O (aK _ O (λh4=>?_) (λh4=>?_))
   ·rw[aG (by omega)]at nj
    split at nj
    case h_1=>cases nj
    rename_i d hd
    split at nj
    case isFalse=>cases nj
    rename_i la;refine aC O (aA Wi.2 O (bg Wi O ?_));rw[sb];refine aq O (aI (K0 x cc g d bD ((ke.sub (fj _ _)).sub (fj _ _)) hd) O ?_);rintro _ Ib ⟨rfl,rfl⟩;refine aq O (acT vI d (Ov.oH 1 O) O O O (tG 0 O ?_));obtain⟨jL,L',n',qx⟩:∃(jL:ah)(L':List (Int×Int))(n':Int),(dh L d=some n'/\jL=ord/\L'=L)\/(dh L d=none/\jL=ord++[d]/\L'=gh L d (ord.length:Int)/\n'=(ord.length:Int)):=by
     cases hg:dh L d with
     |some n=>exact⟨ord,L,n,.inl ⟨rfl,rfl,rfl⟩⟩
     |none=>exact⟨_,_,_,.inr ⟨rfl,rfl,rfl,rfl⟩⟩
    have C0:Fi x.p cc aZ j (g+1) jL L' (ju.set g (gl ju g++[n']))=some (o1,l1,t1):=by
     rcases qx with⟨h5,rfl,rfl⟩|⟨h5,rfl,rfl,rfl⟩<;>rw[h5]at nj<;>exact nj
    refine lH (α:=ai×Nat) (λs=>[(2,.pointer A2),(6,.pointer T),(13,.slice s.1 jL.length s.2),(14,.map (some gM)),(15,.slice gK aZ aZ),(16,aj i),(17,aj g),(19,aj n'),(139,aj aZ),(140,aj g)]) (λs w'=>St w w' (aV 27 2 gK aZ aZ rs ju++([av 2 s.1 (jL).length s.2 (jL),fc 134 gM (dZ (Value.int .i64) (Value.int .i64) (L'))]++(x.pt T++[Bx 59 2 A2 [aj aZ,.slice Ar nr cr]])))) ?_ ?_
    ·refine aY O ?_
     first|refine cO rfl rfl ?_|refine dv rfl rfl ?_
     refine ay O (Cd.cond O (λh6=>?_) (λh6=>?_))
     ·rcases qx with ⟨h5, rfl, rfl⟩|⟨h5, rfl, rfl, rfl⟩ --dup 2
      ·rw[h5]at h6; cases h6 --x
      ·refine aC O (aI (oK ig ord.length kj _) O ?_);rintro _ Me ⟨rfl,rfl⟩;refine aq O (tL O vI 1 (a:=d) (u:=(ord.length:Int)) (vv:=Value.int .i64) Ov O O O O ?_);intro Dx Cz;refine aq O (eh Cz O O O ?_);intro Fm Mf wH;refine eQ 1 wH O (wH.bF 0 O) O O O ?_;intro uV T4 uT yn;have yn:St w uT ([av 2 uV (ord.length+1) T4 (ord++[d]),fc 134 gM (dZ (Value.int .i64) (Value.int .i64) (gh L d (ord.length:Int)))]++(aV 27 2 gK aZ aZ rs ju++(x.pt T++[Bx 59 2 A2 [aj aZ,.slice Ar nr cr]]))):=yn.tail;refine aN O (tQ ?_);refine⟨(uV,T4),⟨O,O,by show Value.slice _ _ _=.slice _ _ _;rw[cj];rfl,O,O,O,O,O,O,O,au⟩,?_⟩;dsimp only;rw[cj];exact yn.nW
     ·rcases qx with ⟨h5, rfl, rfl⟩|⟨h5, rfl, rfl, rfl⟩ --dup 2
      ·refine jE O (tQ ?_);exact⟨(ig,kj),⟨O,O,O,O,O,O,O,by show Value.int .i64 _=aj _;rw[h5];rfl,O,O,au⟩,ke⟩
      ·rw[h5]at h6; cases h6 --x
    ·rintro⟨ig,kj⟩ e Me Cy;dsimp only at Cy|-;have OO:=Cy.fO ur;have br:=OO.at_ (i:=(g:Int)) ac ac;have yM:=br.1;have Er:(aV 27 2 gK aZ aZ rs ju++([av 2 ig jL.length kj jL,fc 134 gM (dZ (Value.int .i64) (Value.int .i64) L')]++(x.pt T++[Bx 59 2 A2 [aj aZ,.slice Ar nr cr]])))[g+1]?=some (av 2 (rg rs g).a (rg rs g).n (rg rs g).c (gl ju g)):=by
      have:=uB (t1:=27) (t2:=2) (A:=gK) (n:=aZ) (c:=aZ) (rs:=rs) (xss:=ju) (pre:=[]) (ks:=[av 2 ig jL.length kj jL,fc 134 gM (dZ (Value.int .i64) (Value.int .i64) L')]++(x.pt T++[Bx 59 2 A2 [aj aZ,.slice Ar nr cr]])) (i:=g) ac ac;rw[show([]:List Ck).length+1+g=g+1 by simp;omega]at this;exact this
     refine aC O (aA OO.top.2 O (bw OO.top O (aq O (eh Cy O O O ?_))));intro tF Dx Cz;refine eQ (g+2) Cz Er (Cz.bF 0 O) O O O ?_;intro kK nF Mf wH;have wH:St w Mf (aX 27 gK aZ aZ rs::(cC 2 rs ju++([av 2 ig jL.length kj jL,fc 134 gM (dZ (Value.int .i64) (Value.int .i64) L')]++(x.pt T++[Bx 59 2 A2 [aj aZ,.slice Ar nr cr]]))).set g (av 2 kK ((rg rs g).n+1) nF (gl ju g++[n']))):=wH.tail;have aiA:=wH.dm 0 O;refine aA aiA.2 O (nC 0 wH O O O ac ?_);intro uT yn;refine aq O (aJ O (aN O (tQ ?_)));refine⟨⟨j,g+1,ig,kj,jL,L',rs.set g ⟨kK,(rg rs g).n+1,nF⟩,ju.set g (gl ju g++[n'])⟩,Nat.lt_succ_self j,(auV O),?_,by simp[EG],by simp[ur],?_,?_,C0⟩
     ·rw[<-anU (by omega) (by omega)];exact yn
     ·show i<jL.length;rcases qx with⟨h5,rfl,rfl⟩|⟨h5,rfl,rfl,rfl⟩
      ·exact h2
      ·rw[cj];omega
     ·show gi jL i=cc;rcases qx with⟨h5,rfl,rfl⟩|⟨h5,rfl,rfl,rfl⟩
      ·exact sb
      ·rw[show gi (ord++[d]) i=gi ord i by simp[gi,b5,jF h2]];exact sb
   ·rw[aD (by omega)]at nj;obtain⟨rfl,h7⟩:=Prod.mk.inj (cn nj);obtain⟨rfl,rfl⟩:=Prod.mk.inj h7;refine ba O (bc (bY O (aJ O (aN O (tQ ?_)))));exact⟨⟨k,i+1,ig,kj,ord,L,rs,ju⟩,Nat.lt_succ_self k,(auV O),ke,EG,ur,by show i+1+k=10000;omega,yQ⟩
  ·rw[aD (by omega)]at yQ;obtain rfl:=cn yQ;refine ba O (bc (ew O ?_));refine RG O O ?_;refine⟨gK,aZ,rs,by rw[ur],ac,?_⟩;rw[ur];exact lR.sub (ny _ _)
section
variable {P:Program}{N:Nat}{ops:Array Oper}{K:Env->aa->Prop}{rest:List Oper}{e:Env}{w:aa}{d:Nat}{ty:ad}{pos:String}{af:Array Edge}
theorem Tk{F:FuncId}{x y:ae}{v1 v2:ab}(hx:ev e x=v1)(hy:ev e y=v2)(hb:Nat.blt d N=true)(hK:ak P N ops K rest (bE e d (.func (.func F) #[] #[v1,v2])) w):
 ak P N ops K (⟨some d,.makeFunc (.func F) #[] #[x,y],ty,pos,af,none⟩::rest) e w:=
 .val (by simp[execOp,Instr.makeFunc,hx,hy]) hb hK
end
def BZ(lo hi:Int)(xs:ah):Prop:=∀x∈xs,lo<=x/\x<=hi
instance (lo hi:Int)(xs:ah):Decidable (BZ lo hi xs):=by unfold BZ;exact inferInstance
theorem adE(x lo hi:Int)(P1 P2:ai)(w:aa)(h1:Rd w P1 1 (λ_=>aj lo))(h2:Rd w P2 1 (λ_=>aj hi)):
 aF prog 130 [aj x,.pointer P1,.pointer P2] w (λv w'=>v=.bool (decide (¬(lo<=x/\x<=hi)))/\w'=w):=by
 refine bn func130 O ntmps130 O (bM O) (aY O ?_);refine ak.ld h1 (by exact aQ Value.pointer (iK P1).symm) am O O O ?_;refine ak.ld h2 (by exact aQ Value.pointer (iK P2).symm) am O O O ?_;refine aI (uU _ _ _ _) O ?_;rintro _ w ⟨rfl,rfl⟩
 first|refine cO rfl rfl ?_|refine dv rfl rfl ?_
 refine bR O (cK O ?_);exact⟨O,O⟩
theorem acr(A:ai)(n c:Nat)(xs:ah)(lo hi:Int)(P1 P2:ai)(w:aa)(hR:bu w A n xs)(hn:n<=9223372036854775807)(h1:Rd w P1 1 (λ_=>aj lo))(h2:Rd w P2 1 (λ_=>aj hi)):
 aF prog 115 [.slice A n c,.func (.func 130) #[] #[.pointer P1,.pointer P2]] w (λv w'=>(∃i:Int,v=aj i/\(0<=i↔¬BZ lo hi xs))/\w'=w):=by
 have cT:=hR.1;refine bn func115 O ntmps115 O (bM O) ?_;refine aY O (aR O O (ay O ?_));refine Cd.loop (α:=Nat) (λk=>[(0,.slice A n c),(1,.func (.func 130) #[] #[.pointer P1,.pointer P2]),(7,aj n),(8,aj k)]) (λk w'=>w'=w/\k<=n/\∀j,j<k->lo<=gi xs (j:Nat)/\gi xs (j:Nat)<=hi) (λk=>n-k) 0 (auV O) ⟨O,bl _,λj hj=>by omega⟩ ?_;rintro k e w ⟨rfl,hk,hK⟩;refine bC O (aK _ O (λh3=>?_) (λh3=>?_))
 ·refine aC O (aA hR.2 O (bg hR O (aI (adE _ lo hi P1 P2 _ h1 h2) O ?_)));rintro _ w ⟨rfl,rfl⟩;refine ay O (aK _ O (λh4=>?_) (λh4=>?_))
  ·refine dE O (fz (fe ?_));refine gj O ?_;exact⟨⟨(k:Int),O,⟨λ_ ha=>h4 (by rw[b7 (by omega)];exact ha _ (dt _)),λ_=>by omega⟩⟩,O⟩
  refine aC O (aJ O (aN O (tQ ?_)));refine⟨k+1,by show n-(k+1)<n-k;omega,(auV O),O,ac,λj hj=>?_⟩
  by_cases ej:j=k
  ·subst ej;exact kW.1 h4
  exact hK j ac
 refine ba O (bc (ew O ?_));refine gj O ⟨⟨-1,O,⟨λh=>absurd h am,λh=>absurd (λx hx=>?_) h⟩⟩,O⟩;obtain⟨j,hj,rfl⟩:=fS.1 hx;have:=hK j ac
 rwa[b7 hj]at this
theorem ace(A:ai)(n c:Nat)(xs:ah)(lo hi:Int)(P1 P2:ai)(w:aa)(hR:bu w A n xs)(hn:n<=9223372036854775807)(h1:Rd w P1 1 (λ_=>aj lo))(h2:Rd w P2 1 (λ_=>aj hi)):
 aF prog 54 [.slice A n c,.func (.func 130) #[] #[.pointer P1,.pointer P2]] w (λv w'=>v=.bool (decide (¬BZ lo hi xs))/\w'=w):=by
 refine bn func54 O ntmps54 O (bM O) (aY O (aI (acr A n c xs lo hi P1 P2 _ hR hn h1 h2) O ?_));rintro _ w ⟨⟨i,rfl,fY⟩,rfl⟩;refine bR O (cK O ?_);exact⟨aQ Value.bool (kl.2 fY),O⟩
theorem MM(A:ai)(n c:Nat)(xs:ah)(lo hi:Int)(w:aa)(hR:bu w A n xs)(hn:n<=9223372036854775807):
 aF prog 83 [.slice A n c,aj lo,aj hi] w (λv w'=>v=.bool (decide (BZ lo hi xs))/\St w w' []):=by
 refine bn func83 O ntmps83 O (bM O) (aY O ?_);refine ak.box (v:=aj lo) (St.refl w) O O (by show(1:Nat)<=maxLen;simp[maxLen]) ?_;intro P1 w1 ax;have ax:St w w1 [Bx 2 1 P1 [aj lo]]:=ax;refine ak.box (v:=aj hi) ax O O (by show(1:Nat)<=maxLen;simp[maxLen]) ?_;intro P2 w2 az;have az:St w w2 [Bx 2 1 P2 [aj hi],Bx 2 1 P1 [aj lo]]:=az;refine aq O (Tk O O O (aI (ace A n c xs lo hi P1 P2 _ (az.dq hR) hn (Rd.one (az.rd 1 O)) (Rd.one (az.rd 0 O))) O ?_));rintro _ w2 ⟨rfl,rfl⟩
 first|refine cO rfl rfl ?_|refine dv rfl rfl ?_
 refine bR O (cK O ?_);exact⟨by simp,az.none⟩
def S5(n:Nat)(ws:ah):Prop:=BZ 0 ((n:Int)-1) ws/\ws.length<=64
instance (n:Nat)(ws:ah):Decidable (S5 n ws):=by unfold S5;exact inferInstance
def EL(lo hi:Int):Nat->Nat->ag->ah->ah->Option (ag×ah×ah)
 |0,_,_,_,_=>none
 |k+1,g,im,one,two=>
  if g<(gl im hi).length then
   if gi (gl im hi) g<0 then EL lo hi k (g+1) im one two
   else if g<(gl im lo).length then
    if 0<=gi (gl im lo) g then(if one.length<1000000/\two.length<1000000 then EL lo hi k (g+1) im (one++[gi (gl im hi) g]) (two++[gi (gl im lo) g])else none)
    else EL lo hi k (g+1) (lF im lo g (gi (gl im hi) g)) one two
   else none
  else some (im,one,two)
def yW:Nat->Nat->PS->ah->ah->Option PS
 |0,_,_,_,_=>none
 |k+1,i,x,one,two=>
  if i<one.length then
   if i<two.length then
    match rC x.ls 2000 (gi one i),rC x.ls 2000 (gi two i)with
    |some a,some b=>
     if a=b then yW k (i+1) x one two
     else
      if 0<=(if b<a then b else a)/\(if b<a then a else b)<(x.im.length:Int)/\(if b<a then a else b)<(x.ls.length:Int)/\x.im.length<=2000 then
       match EL (if b<a then b else a) (if b<a then a else b) 1000 0 x.im one two with
       |some (im,Rb,Sz)=>yW k (i+1) ⟨im,x.ls.set (if b<a then a else b).toNat (if b<a then b else a)⟩ Rb Sz
       |none=>none
      else none
    |_,_=>none
   else none
  else some x
structure S4 where
 i:Nat
 k:Nat
 A7:ai
 c7:Nat
 one:ah
 A8:ai
 c8:Nat
 two:ah
 im:ag
 ls:ah
theorem Zf{w0 w:aa}{ks:List Ck}(x:LS)(c d:Int)(y:PS)(k0:Nat)(bD:x.ok)(hS:St w0 w (x.iM++ks))(hp:yW k0 0 x.p [c] [d]=some y):
 aF prog 195 [x.val,aj c,aj d] w (λv w'=>∃x':LS,x'.ok/\x'.p=y/\v=x'.val/\St w0 w' (x'.iM++ks)):=by
 obtain⟨A,n,cc,rs,im,B,m,cB,ls⟩:=x;obtain⟨h1,h2,h3⟩:=bD;have h1:rs.length=n:=h1;have h2:im.length=n:=h2;have h3:ls.length=m:=h3;refine bn func195 O ntmps195 O (BA O O) (aY O (BS hS O O ?_));intro Ab w1 ax;refine we ax O λAc w2 az=>aq O (eh az O O O ?_);intro A7 w3 aM;refine aq O (eh aM O O O ?_);intro A8 w4 aU;have aU:St w0 w4 ([av 2 A8 1 1 [d],av 2 A7 1 1 [c],Bx 138 3 Ac [.slice none 0 0,.slice none 0 0,.bool false],Bx 138 3 Ab [.slice A n cc,.slice B m cB,.bool false],av 2 B m cB ls]++(aV 27 2 A n cc rs im++ks)):=aU;refine ay O ?_;refine Cd.loop (α:=S4) (λs=>[(3,.pointer Ab),(6,.pointer Ac),(7,.slice s.A7 s.one.length s.c7),(8,.slice s.A8 s.two.length s.c8),(9,aj (s.i:Int))]) (λs w'=>St w0 w' ([av 2 s.A8 s.two.length s.c8 s.two,av 2 s.A7 s.one.length s.c7 s.one,Bx 138 3 Ac [.slice none 0 0,.slice none 0 0,.bool false],Bx 138 3 Ab [.slice A n cc,.slice B m cB,.bool false],av 2 B m cB s.ls]++(aV 27 2 A n cc rs s.im++ks))/\s.im.length=n/\s.ls.length=m/\yW s.k s.i ⟨s.im,s.ls⟩ s.one s.two=some y) (λs=>s.k)
  ⟨0,k0,A7,1,[c],A8,1,[d],im,ls⟩ ⟨rfl,rfl,rfl,rfl,rfl,au⟩ ⟨aU,h2,h3,hp⟩ ?_
 rintro⟨i,k,A7,c7,one,A8,c8,two,im,ls⟩ e w5 ⟨aO,h2,h3,hf⟩;dsimp only at aO h2 h3 hf|-;obtain⟨q,rfl⟩:∃q,k=q+1:=by cases k with|zero=>cases hf|succ q=>exact⟨q,rfl⟩
 rw[yW]at hf;have Pg:=aO.cap 1 O;dsimp only[av]at Pg;simp only[maxLen]at Pg;refine aY O (aR O O (ay O ?_));refine aK _ O (λhi=>?_) (λhi=>?_)
 ·rw[aG (by omega)]at hf
  split at hf
  case isFalse=>cases hf
  rename_i tf
  split at hf
  case h_2=>cases hf
  rename_i a b wO CI;have yk:bu w5 B m ls:=aO.bF 4 O;refine cM O (ec [.ex (.agg #[.slice (A) (n) (cc),.slice (B) (m) (cB),.bool (false)]),xS (A7) (one.length) (c7),xI ((i:Int)),xP (aH (A7) ((i:Int)).toNat),xI (gi (one) ((i:Int))),xI (a),.ex (.agg #[.slice (A) (n) (cc),.slice (B) (m) (cB),.bool (false)]),xS (A8) (two.length) (c8),xI ((i:Int)),xP (aH (A8) ((i:Int)).toNat),xI (gi (two) ((i:Int))),xI (b),xI (a),xI (b)] O (eK O) ?_ ?_)
  ·refine⟨λ_ _ hb _ _=>cG 2 ((aO.rd 3 O).below hb) O O O Az,Dr O,Dr O,λ_ _ hb _ _=>aA ((aO.bF 1 O).ao hb).2 O Az,λ_ _ hb _ _=>bg ((aO.bF 1 O).ao hb) O Az,?_,λ_ _ hb _ _=>cG 2 ((aO.rd 3 O).below hb) O O O Az,Dr O,Dr O,λ_ _ hb _ _=>aA ((aO.bF 0 O).ao hb).2 O Az,λ_ _ hb _ _=>bg ((aO.bF 0 O).ao hb) O Az,?_,Dr O,Dr O,au⟩
   ·intro e1 w1 hb hp aW;refine aI (QI ls 2000 _ a _ (yk.ao hb) wO) O ?_;rintro _ w2 ⟨rfl,aw⟩;refine ak.n ?_;exact gk.dn aw.below ap
   intro e1 w1 hb hp aW;refine aI (QI ls 2000 _ b _ (yk.ao hb) CI) O ?_;rintro _ w2 ⟨rfl,aw⟩;refine ak.n ?_;exact gk.dn aw.below ap
  intro u w6 mZ _;have bk:=aO.ao mZ;refine fG O (aK _ O (λgr=>?_) (λgr=>?_))
  ·rw[aG gr]at hf;refine aC O (aJ O (aN O (tQ ?_)));exact⟨⟨i+1,q,A7,c7,one,A8,c8,two,im,ls⟩,Nat.lt_succ_self q,(auV O),bk,h2,h3,hf⟩
  rw[aD gr]at hf;refine xL 1 O ?_;refine lH (α:=Unit) (λ_=>[(3,.pointer Ab),(6,.pointer Ac),(7,.slice A7 one.length c7),(8,.slice A8 two.length c8),(9,aj i),(10,aj (if b<a then b else a)),(11,aj (if b<a then a else b))]) (λ_ w'=>w'=w6) ?_ ?_
  ·refine bC O (aK _ O (λdH=>?_) (λdH=>?_))
   ·refine jE O (tQ ?_);exact⟨(),⟨O,O,O,O,O,by show Value.int .i64 _=aj _;rw[aG dH],by show Value.int .i64 _=aj _;rw[aG dH],au⟩,O⟩
   refine jE O (tQ ?_);exact⟨(),⟨O,O,O,O,O,by show Value.int .i64 _=aj _;rw[aD dH],by show Value.int .i64 _=aj _;rw[aD dH],au⟩,O⟩
  rintro _ e w7 rfl;have yz:(if b<a then b else a)<(if b<a then a else b):=by split<;>omega
  generalize (if b<a then b else a)=lo at hf yz|-;generalize (if b<a then a else b)=fY at hf yz|-
  split at hf
  case isFalse=>cases hf
  rename_i la;dsimp only at la
  split at hf
  case h_2=>cases hf
  rename_i QB Rb Sz Hm;obtain⟨jU,rfl⟩:∃q:Nat,lo=q:=⟨lo.toNat,ac⟩;obtain⟨iZ,rfl⟩:∃q:Nat,fY=q:=⟨fY.toNat,ac⟩;rw[gx]at hf;have Aj:=bk.bF 4 O;refine aC O (aS (bk.rd 3 O) O (a6 (bk.rd 3 O) O (aq O (aA Aj.2 O (ak.oL 4 bk O O O ac ?_)))));intro w8 bB;have bB:St w0 w8 ([av 2 A8 two.length c8 two,av 2 A7 one.length c7 one,Bx 138 3 Ac [.slice none 0 0,.slice none 0 0,.bool false],Bx 138 3 Ab [.slice A n cc,.slice B m cB,.bool false],av 2 B m cB (ls.set iZ (jU:Int))]++(aV 27 2 A n cc rs im++ks)):=bB;refine ay O ?_;refine Cd.loop (α:=S4) (λs=>[(3,.pointer Ab),(6,.pointer Ac),(7,.slice s.A7 s.one.length s.c7),(8,.slice s.A8 s.two.length s.c8),(9,aj i),(10,aj jU),(11,aj iZ),(12,aj (s.i:Int))]) (λs w'=>St w0 w' ([av 2 s.A8 s.two.length s.c8 s.two,av 2 s.A7 s.one.length s.c7 s.one,Bx 138 3 Ac [.slice none 0 0,.slice none 0 0,.bool false],Bx 138 3 Ab [.slice A n cc,.slice B m cB,.bool false],av 2 B m cB (ls.set iZ (jU:Int))]++(aV 27 2 A n cc rs s.im++ks))/\s.im.length=n/\EL jU iZ s.k s.i s.im s.one s.two=some (QB,Rb,Sz)/\s.i+s.k<=1000) (λs=>s.k)
   ⟨0,1000,A7,c7,one,A8,c8,two,im,ls⟩ ⟨rfl,rfl,rfl,rfl,rfl,rfl,rfl,rfl,au⟩ ⟨bB,h2,Hm,cJ _⟩ ?_
  rintro⟨g,k,A7,c7,one,A8,c8,two,im,Db⟩ e w9 ⟨bj,h2,hg,Pt⟩;dsimp only at bj h2 hg Pt|-;obtain⟨r,rfl⟩:∃q,k=q+1:=by cases k with|zero=>cases hg|succ q=>exact⟨q,rfl⟩
  rw[EL]at hg;have mr:bH w9 A n rs im:=LS.fO (x:=⟨A,n,cc,rs,im,B,m,cB,ls.set iZ (jU:Int)⟩) ⟨h1,h2,by rw[fR];exact h3⟩ (pre:=[av 2 A8 two.length c8 two,av 2 A7 one.length c7 one,Bx 138 3 Ac [.slice none 0 0,.slice none 0 0,.bool false],Bx 138 3 Ab [.slice A n cc,.slice B m cB,.bool false]]) bj;have tl:=mr.at_ (i:=(iZ:Int)) ac ac;have yK:=mr.at_ (i:=(jU:Int)) ac ac;have hh1:=tl.1;have vx:=yK.1;refine aY O (aS (bj.rd 3 O) O (a6 (bj.rd 3 O) O (aq O (aA mr.top.2 O (bw mr.top O ?_)))));refine aR O O (ay O ?_);refine aK _ O (λkO=>?_) (λkO=>?_)
  ·rw[aG (by omega)]at hg;refine aC O (aS (bj.rd 3 O) O (a6 (bj.rd 3 O) O (aq O (aA mr.top.2 O (bw mr.top O (aq O (aA tl.2 O (bg tl O (ay O ?_)))))))));refine aK _ O (λhe=>?_) (λhe=>?_)
   ·rw[aG he]at hg;refine aC O (aJ O (aN O (tQ ?_)));exact⟨⟨g+1,r,A7,c7,one,A8,c8,two,im,Db⟩,Nat.lt_succ_self r,(auV O),bj,h2,hg,by show g+1+r<=1000;omega⟩
   rw[aD he]at hg
   split at hg
   case isFalse=>cases hg
   rename_i ajC;refine aC O (aS (bj.rd 3 O) O (a6 (bj.rd 3 O) O (aq O (aA mr.top.2 O (bw mr.top O (aq O (aA yK.2 O (bg yK O (ay O ?_)))))))));refine aK _ O (λse=>?_) (λse=>?_)
   ·rw[aG se]at hg
    split at hg
    case isFalse=>cases hg
    rename_i hlen;refine aC O (eh bj O O O ?_);intro fC dJ cQ;refine eQ 2 cQ O (cQ.bF 0 O) O O O ?_;intro eP iW eO dA;have dA:St w0 eO ([av 2 A8 two.length c8 two,av 2 eP (one.length+1) iW (one++[gi (gl im iZ) g]),Bx 138 3 Ac [.slice none 0 0,.slice none 0 0,.bool false],Bx 138 3 Ab [.slice A n cc,.slice B m cB,.bool false],av 2 B m cB (ls.set iZ (jU:Int))]++(aV 27 2 A n cc rs im++ks)):=dA.tail;refine aq O (eh dA O O O ?_);intro rT gD dz;refine eQ 1 dz O (dz.bF 0 O) O O O ?_;intro ig kj jm il;have il:St w0 jm ([av 2 ig (two.length+1) kj (two++[gi (gl im jU) g]),av 2 eP (one.length+1) iW (one++[gi (gl im iZ) g]),Bx 138 3 Ac [.slice none 0 0,.slice none 0 0,.bool false],Bx 138 3 Ab [.slice A n cc,.slice B m cB,.bool false],av 2 B m cB (ls.set iZ (jU:Int))]++(aV 27 2 A n cc rs im++ks)):=il.tail;refine aq O (aJ O (aN O (tQ ?_)));refine⟨⟨g+1,r,eP,iW,one++[gi (gl im iZ) g],ig,kj,two++[gi (gl im jU) g],im,Db⟩,Nat.lt_succ_self r,⟨O,O,by show Value.slice _ _ _=.slice _ _ _;rw[cj];rfl,by show Value.slice _ _ _=.slice _ _ _;rw[cj];rfl,O,O,O,O,au⟩,?_,h2,hg,by show g+1+r<=1000;omega⟩;dsimp only;rw[cj,cj];exact il
   rw[aD se]at hg;refine aC O (aS (bj.rd 3 O) O (a6 (bj.rd 3 O) O (aq O (aA mr.top.2 O (bw mr.top O (aq O (aA yK.2 O (zH jU bj ac ac O O ac ?_))))))));intro dJ cQ;refine aq O (aJ O (aN O (tQ ?_)));exact⟨⟨g+1,r,A7,c7,one,A8,c8,two,im.set jU ((gl im jU).set g (gi (gl im iZ) g)),Db⟩,Nat.lt_succ_self r,(auV O),cQ,by show(im.set _ _).length=n;rw[fR];exact h2,hg,by show g+1+r<=1000;omega⟩
  rw[aD (by omega)]at hg;have hg:=cn hg;simp only[Prod.mk.injEq]at hg;obtain⟨rfl,rfl,rfl⟩:=hg;refine ba O (bc (bY O (aJ O (aN O (tQ ?_)))));exact⟨⟨i+1,q,A7,c7,one,A8,c8,two,im,ls.set iZ (jU:Int)⟩,Nat.lt_succ_self q,(auV O),bj,h2,by show(ls.set _ _).length=m;rw[fR];exact h3,hf⟩
 rw[aD (by omega)]at hf;obtain rfl:=cn hf;refine ba O (bc (bY O ?_));refine cG 2 (aO.rd 3 O) O O O (dU 3 2 aO O O O O O O O ?_);intro w6 bk;refine bR O (zj O (bk.rd 2 O) ?_);exact⟨⟨A,n,cc,rs,im,B,m,cB,ls⟩,⟨h1,h2,h3⟩,O,O,bk.sub (((((fD _).cons _).cons _).cons _).cons _)⟩
theorem bK{o:Oper}{S:Nat->Bool}(h:∀ed∈eS o,S ed.on=true)(k:Nat)(hk:(eS o).any (λed=>Nat.beq ed.on k)=true):S k=true:=by
 obtain⟨ed,mx,hb⟩:=List.any_eq_true.1 hk;rw[<-lg hb];exact h ed mx
theorem apc{Q:jo}{e:Env}{w:aa}{F:List (Nat×ab)}(hM:Mt e F)(h:Q .normal (ext e F) w):Q .normal e w:=by rwa[yb hM]at h
section
variable {P:Program}{N:Nat}{e:Env}{w:aa}
theorem Fq{id:Nat}{l:List Oper}{Q:jo}(hm:P.follows .mixedOrders=true)(ta:B3 l=true)(I:(Nat->Bool)->Env->aa->Prop)(h0:∀w1,Below w.heap.size w w1->I (λ_=>false) e w1)(ku:∀(S:Nat->Bool)(i:Nat)(o:Oper)(e1:Env)(w1:aa),l[i]?=some o->S i=false->(∀ed∈eS o,S ed.on=true)->(∀(k:Nat)(o':Oper),S k=true->l[k]?=some o'->∀ed∈eS o',S ed.on=true)->I S e1 w1->ak P N l.toArray (λe2 w2=>I (λk=>Nat.beq k i||S k) e2 w2) [o] e1 w1)(ow:∀(S:Nat->Bool)(e1:Env)(w1:aa),(∀i,i<l.length->S i=true)->I S e1 w1->Q .normal e1 w1):Cd P N (.region id l.toArray true) Q e w:=
 Ip hm ta I h0 (λS i o e1 w1 h1 h2 h3 h4 h5=>⟨_,ku S i o e1 w1 h1 h2 h3 h4 h5,λ_ _ h=>h⟩) ow
end
end
end Go.Proofs.YtimbpgackifflaaGreatDoor.Vc
