/-
 Lemmas. Conditions: as each states them.
-/
import Derived.Test.YtkccgdhcpplblaaGreatDoorLayb
import Derived.Test.YtkccgdhcpplblaaGreatDoorZd
import Derived.Shelf.SlicesE.Compact
import Derived.Shelf.SlicesE.Delete
import Derived.Shelf.SortM.SortNone
set_option maxHeartbeats 8000000
namespace Go.Proofs.YtkccgdhcpplblaaGreatDoor.Vc
open Go.RowKit Go.Sort Tryz
variable{w w0:aa}{q off o i m b:Nat}{ks:List Ck}{l l' xs:ai}
theorem afq{α:Type}[Inhabited α]{enc:α->ad}{g:Nat}{cur:Array ad}{e:ae}{fr:Nat×Nat}(d:Array α)(hb:w.heap[g]?=some (.cells cur e fr)):(putRow enc (Sort.ahead w q) g off d).heap[g]?=some (.cells (putCells enc off d cur) e fr):=by
 simp [putRow,mapBlock,Sort.ahead,Array.getElem?_modify,hb,onCells]
theorem adF{α:Type}[Inhabited α]{enc:α->ad}{g:Nat}(d:Array α):Db w (putRow enc (Sort.ahead w q) g off d) (some g):=by
 refine⟨⟨O,O,O,by simp [Sort.ahead],fun k hk bP=>?_⟩,Nat.le_add_right _ _⟩;have:g≠k:=fun e=>bP (by rw [e])
 simp [putRow,mapBlock,Sort.ahead,Array.getElem?_modify,this]
theorem Oa{α:Type}[Inhabited α]{enc:α->ad}{g:Nat}{cur:Array ad}{e:ae}{ds:List α}(hh:w.heap[g]?=some (.cells cur e (0,0)))(hc:∀j,j<ds.length->cur[o+j]?=(ds.map enc)[j]?):Holds enc w g o ds.toArray:=fun j hj=>by
 have gW:j<ds.length:=by simpa using hj
 refine⟨?_,by simp [World.frozen?,hh]⟩;simp only [World.cell?,hh];simp only [Option.isSome_none,Bool.false_eq_true,if_false];rw [hc j gW];simp [gW]
theorem St.laid{α:Type}[Inhabited α]{enc:α->ad}{k:Ck}{g:Nat}{cur:Array ad}{ds:List α}(hS:St w0 w ks)(hk:ks[i]?=some k)(hA:k.A=some ⟨g,o,Option.none⟩)(hg:w0.heap.size<=g)(hh:w.heap[g]?=some (.cells cur k.e (0,0)))(hs:o+k.c<=cur.size)(hm:m<=ds.length)(hd:ds.length<=k.c)(hc:k.c<=maxLen)(he1:∀x,(enc x).oneCell'=true:=by intro _;rfl):
 St w0 (putRow enc (Sort.ahead w q) g o ds.toArray) (ks.set i ⟨k.A,m,k.c,k.e,(ds.take m).map enc⟩):=by
 refine hS.turn hk (by simp [Ck.ij,hA]) (by simp [Ck.ij,hA]) (adF _) (.q9 (yY fun v hv=>by obtain⟨x,_,rfl⟩:=dF.1 hv;exact he1 x) ⟨by simp;omega,by show m<=k.c;omega,hc,.inr ⟨g,o,_,hA,hg,afq _ hh,by simp only [putCells,Array.size_mapIdx];exact hs,fun j hj=>?_⟩⟩);have hj:j<m:=hj;show(putCells enc o ds.toArray cur)[o+j]?=((ds.take m).map enc)[j]?;have Gx:o+j<cur.size:=by omega
 have hjd:j<ds.length:=by omega
 simp [putCells,Gx,hjd,rz,hj]
def SA(l:ai):Prop:=l.Pairwise (· < ·)
theorem SA.Dz(h:SA l):tG l:=h.imp fun h=>by omega
theorem SA.nodup(h:SA l):l.Nodup:=h.imp fun h=>by omega
theorem SA.eq(h:SA l)(h':SA l')(hm:∀x,x∈l↔x∈l'):l=l':=aaS ((wM h.nodup h'.nodup).2 hm) h.Dz h'.Dz
def mg(xs:ai):ai:=Lib.compactUpTo xs.toArray xs.toArray.size
theorem Lx(xs:ai)(j:Nat):xs.toArray[j]! =gi xs j:=by
 by_cases h:j<xs.length
 ·rw [bV h];simp [h]
 have e:gi xs j=0:=by simp [gi,dm,me (Nat.not_lt.1 h)]
 rw [e,getElem!_neg _ _ (by simpa using h)];rfl
theorem LN(xs:ai):mg xs=((List.range xs.length).filter fun j:Nat=>decide (j=0\/gi xs j≠gi xs ((j - 1:Nat):Int))).map fun j:Nat=>gi xs j:=by
 unfold mg Lib.compactUpTo;rw [List.size_toArray];have e1:Lib.keeps xs.toArray=fun j:Nat=>decide (j=0\/gi xs j≠gi xs ((j - 1:Nat):Int)):=by
  funext j;unfold Lib.keeps;rw [Lx,Lx]
 rw [e1];exact pj fun j _=>Lx xs j
theorem Sc(xs:ai):(mg xs).length<=xs.length:=by
 rw [LN,fS];have:=sL (fun j:Nat=>decide (j=0\/gi xs j≠gi xs ((j - 1:Nat):Int))) (List.range xs.length)
 rwa [rA]at this
theorem abB(xs:ai)(x:Int):x∈mg xs↔x∈xs:=by
 rw [LN,dF];constructor
 ·rintro⟨j,hj,rfl⟩;have:=ig.1 (gy.1 hj).1;rw [bV this];exact dK _
 ·intro hx;obtain⟨j,hj,v8⟩:=gC.1 hx;rw [<-bV hj]at v8;clear hx
  induction j with
  | zero=>exact⟨0,gy.2 ⟨ig.2 hj,by simp⟩,v8⟩
  | succ j ih=>
   by_cases h:gi xs ((j+1:Nat):Int)=gi xs ((j:Nat):Int)
   ·exact ih am (h▸v8)
   ·exact⟨j+1,gy.2 ⟨ig.2 hj,by simp only [Nat.add_sub_cancel,kB];exact .inr h⟩,v8⟩
theorem abA(h:tG xs):SA (mg xs):=by
 have mono:∀a b,a<=b->b<xs.length->gi xs a<=gi xs b:=fun a b eA hb=>by
  rw [bV (by omega),bV hb]
  by_cases e:a=b
  ·subst e;exact Int.le_refl _
  exact(List.pairwise_iff_getElem.1 h) a b am hb am
 rw [LN];unfold SA;rw [oD];have hr:(List.range xs.length).Pairwise (· < ·):=List.pairwise_lt_range;refine(hr.filter _).imp_of_mem fun {a b} ha hb eA=>?_
 have dE:=ig.1 (gy.1 hb).1;have eB:=uq (gy.1 hb).2;have h1:=mono a (b - 1) am am;have h2:=mono (b - 1) b am dE;rcases eB with eB | eB
 ·omega
 omega
def cs(l:ai):ai:=mg (ox l)
theorem ab2(l:ai)(x:Int):x∈cs l↔x∈l:=by rw [cs,abB];exact(Qr l).mem_iff
theorem ab1(l:ai):SA (cs l):=abA (am2 l)
theorem abT(i:Nat){t:ae}{A:aj}{n c:Nat}(hS:St w0 w ks)(hk:ks[i]?=some (ax t A n c xs))(h0:0<n)(hn:n<=1000000000):
 aJ prog 160 [.slice A n c] w (fun v w'=>v= .slice A (mg xs).length c/\St w0 w' (ks.set i (ax t A (mg xs).length c (mg xs)))):=by
 obtain⟨h1,h2,h3,h4⟩:=hS.qh hk (uk _);have hl:xs.length=n:=hS.EH i hk;have h2:n<=c:=h2;have h3:c<=maxLen:=h3;rcases h4 with⟨_,kV⟩ | ⟨g,o,cur,hA,hg,hh,hs,hc⟩
 ·have kV:c=0:=kV;omega
 have hA:A=some ⟨g,o,none⟩:=hA;have hs:o+c<=cur.size:=hs;have hc:∀j,j<n->cur[o+j]?=(xs.map (Value.int .i64))[j]?:=hc;subst hA;subst hl;have key:=AnyE.slices_Compact aiG (Value.int .i64) (fun _=>O) (EqlAt.intD _ _ .i64) (NeqAt.intD _ _ .i64) (0:Int) (fun w=>zeroValue2 w) g o c xs.toArray w (Oa hh hc) (by simp;omega) (by simpa using h2);refine Calls.mono key fun x w' ⟨hx,q,hw⟩=> ⟨_,hx,O,?_⟩
 subst hw;have hle:=Sc xs;have h:=hS.laid (q:=q) (m:=(mg xs).length) (enc:=Value.int .i64) (ds:=mg xs++List.replicate (xs.toArray.size - (mg xs).length) 0) hk O hg hh hs (by simp) (by simp;show _<=c;omega) h3;rw [wN (br _),List.take_length]at h;exact h
instance:Inhabited aO:=⟨eY⟩
theorem acf(i:Nat){t:ae}{A:aj}{n c a:Nat}{xs:List aO}(hS:St w0 w ks)(hk:ks[i]?=some (cg t A n c xs))(h0:0<n)(hn:n<=1000000000)(eA:a<=b)(hb:b<=n):
 aJ prog 245 [.slice A n c,ak a,ak b] w (fun v w'=>v= .slice A (n - (b - a)) c/\St w0 w' (ks.set i (cg t A (n - (b - a)) c (xs.take a++xs.drop b)))):=by
 obtain⟨h1,h2,h3,h4⟩:=hS.qh hk (yX _);have hl:xs.length=n:=(hS.fQ i hk).1;have h2:n<=c:=h2;have h3:c<=maxLen:=h3;rcases h4 with⟨_,kV⟩ | ⟨g,o,cur,hA,hg,hh,hs,hc⟩
 ·have kV:c=0:=kV;omega
 have hA:A=some ⟨g,o,none⟩:=hA;have hs:o+c<=cur.size:=hs;have hc:∀j,j<n->cur[o+j]?=(xs.map aO.v)[j]?:=hc;subst hA;subst hl;obtain⟨i0,fm,_,Kf,_⟩:=bq.get prog 34;have key:=AnyE.slices_Delete aiJ aO.v (fun _=>O) eY (fun w=>zeroValue34 w) i0 fm Kf g o c a b xs.toArray w (Oa hh hc) (by simpa using h2) (by simpa [maxLen]using h3) eA (by simpa using hb);refine Calls.mono key fun x w' ⟨hx,q,hw⟩=> ⟨_,hx,by simp,?_⟩
 subst hw;have h:=hS.laid (q:=q) (m:=xs.length - (b - a)) (enc:=aO.v) (ds:=xs.toArray.toList.take a++xs.toArray.toList.drop b++List.replicate (b - a) eY) hk O hg hh hs (by simp;omega) (by simp;omega) h3;have e1:(xs.toArray.toList.take a++xs.toArray.toList.drop b++List.replicate (b - a) eY).take (xs.length - (b - a))=xs.take a++xs.drop b:=by
  have e2:(xs.take a++xs.drop b).length=xs.length - (b - a):=by simp;omega
  show(xs.take a++xs.drop b++List.replicate (b - a) eY).take _=_;rw [<-e2,wN (br _),List.take_length]
 rw [e1]at h;exact h
end Go.Proofs.YtkccgdhcpplblaaGreatDoor.Vc
namespace Go.Proofs.YtkccgdhcpplblaaGreatDoor.Vc
open Go.RowKit Tryz
variable{w0 w w':aa}{pre ks:List Ck}
theorem aao{t1 t2:ae}{A:aj}{n c:Nat}{rs:List aO}{xss:ah}(h:St w0 w (pre++aS t1 t2 A n c rs xss)):St w0 w (pre++ (aS t1 t2 A n c rs xss++ [])):=by rwa [fI]
def part(T:ai)(m:Nat):ai:=T.take m++List.replicate (T.length - m) 0
theorem QV(A:aj)(n c:Nat)(rs:List aO)(w:aa)(hR:mT w A n rs)(hn:n<=1000000)(h0:0<n):aJ prog 154 [.slice A n c] w (fun v w'=>∃A' c',v= .slice A' n c'/\St w w' [cg 34 A' n c' rs]):=by
 cases hA:A with
 | none=>
  subst hA;obtain⟨p,hp,_⟩:=hR.2 0 h0;simp [ay]at hp
 | some a=>
  subst hA;refine bC func154 O ntmps154 O (df O) (bh O (Dg O O O (aC O (Cd.fg O (aA O (jr (St.refl w) O ?_))))));intro A1 w1 aH;have aH:St w w1 [cg 34 A1 0 0 []]:=aH;refine ar O (lK 0 aH O (aH.Pw hR) O O O am am O ?_);intro A2 c2 w2 aF;rw [Nat.zero_add]at aF|-;refine bH O (gJ O ?_);exact⟨A2,c2,O,aF⟩
theorem aoj(Ab A:aj)(n c:Nat)(rs:List aO)(xss:ah)(i:Nat)(w:aa)(hB:Rd w Ab 1 (fun _=> .slice A n c))(hR:bF w A n rs xss)(hn:n<=1000)(hi:i<n):
 aJ prog 190 [.pointer Ab,ak i] w (fun v w'=>∃A' c',v= .slice A' (n - 1) c'/\St w w' [cg 34 A' (n - 1) c' (rs.eraseIdx i)]):=by
 refine bC func190 O ntmps190 O (df O) (bh O ?_);refine lN hB an O O (aV hB O (bj hB O (aL (QV A n c rs _ hR.top am am) O ?_)));rintro _ w1 ⟨A1,c1,rfl,aH⟩;refine ar O (aI O ?_);have mm:((i:Int)+1)=((i+1:Nat):Int):=by omega
 rw [mm];refine aL (acf 0 aH O am am (show i<=i+1 by omega) am) O ?_;rintro _ w2 ⟨rfl,aF⟩;refine bH O (gJ O ?_);have e:n - (i+1 - i)=n - 1:=by omega
 rw [e];rw [e,<-List.eraseIdx_eq_take_drop_succ]at aF;exact⟨A1,c1,O,aF⟩
theorem SS(Ab A:aj)(n c:Nat)(rs:List aO)(xss:ah)(i:Nat)(w:aa)(hB:Rd w Ab 1 (fun _=> .slice A n c))(hR:bF w A n rs xss)(hM:bI xss)(hi:i<n):
 aJ prog 119 [.pointer Ab,ak i] w (fun v w'=>∃A',v= .tuple #[.slice A' (gl xss 0).length (gl xss 0).length,ak (jg xss i)]/\St w w' [ax 2 A' (gl xss 0).length (gl xss 0).length (eT xss i)]):=by
 have hl:=hR.len;have h1:=hM.1;have h2:=hM.2.1;have e0:(rg rs 0).n=(gl xss 0).length:=(hR.nI am am).symm;refine bC func119 O ntmps119 O (pV O) (bh O (aL (uU Ab A n c rs xss _ w hB O hR am) O ?_));rintro _ w ⟨rfl,rfl⟩;rw [e0];refine ar O (aL (aoj Ab A n c rs xss i _ hB hR am hi) O ?_);rintro _ w1 ⟨A1,c1,rfl,aH⟩;refine aL (Kv A1 (n - 1) c1 (rs.eraseIdx i) (xss.eraseIdx i) (gl xss 0).length _ ((aH.b7 hR).erase hi (aH.fQ 0 O)) am (hM.2.2.1.sys.erase i) (hM.2.2.1.inj.erase i) am) O ?_;rintro _ w2 ⟨A2,rfl,av⟩;have aF:=aH.call av;refine bH O (CX O O ?_);exact⟨A2,O,aF.sub (List.Sublist.cons_cons _ (List.nil_sublist _))⟩
theorem Qf{t:ae}:∀ {rs:List aO} {xss:ah} {i:Nat} {s:aO} {xs:ai},rs.length=xss.length->(da t rs xss).set i (ax t s.a s.n s.c xs)=da t (rs.set i s) (xss.set i xs)
 | [],[],_,_,_,_=>rfl
 | [],_::_,_,_,_,h=>by simp at h
 | _::_,[],_,_,_,h=>by simp at h
 | r::rs,x::xss,0,s,xs,_=>rfl
 | r::rs,x::xss,i+1,s,xs,h=>by
  have:=Qf (t:=t) (rs:=rs) (xss:=xss) (i:=i) (s:=s) (xs:=xs) (by simpa using h);simpa [da]using this
theorem Kt{w0 w:aa}{t:ae}:∀(n:Nat) {ks:List Ck},St w0 w ks->St w0 w (ks++da t (List.replicate n eY) (List.replicate n []))
 | 0,ks,h=>by show St w0 w (ks++ []);rwa [fI]
 | n+1,ks,h=>by
  have h1:=Kt (t:=t) n h;have h2:=h1.nil t;exact h2.perm (rC.symm)
def LA(Vl El:ai)(m:Nat):Nat->ah
 | 0=>List.replicate m []
 | f+1=> (LA Vl El m f).set (gi El f).toNat (gl (LA Vl El m f) (gi El f)++ [gi Vl f])
def ends(Vl El:ai)(m f:Nat):ah:=(LA Vl El m f).map cs
def HH(L:ah)(K:Int)(w:aa)(v:ad)(w':aa):Prop:=∃A' c' rs',v= .tuple #[.slice A' L.length c',ak K]/\rs'.length=L.length/\St w w' (aS 34 2 A' L.length c' rs' L++ [])
theorem HH.none{K:Int}(h:St w w' ks):HH [] K w (.tuple #[.slice Option.none 0 0,ak K]) w':=⟨Option.none,0,[],rfl,rfl,h.none.nil _⟩
def ng(B:ah)(e:Nat):ah:=(B.take e).map cs++B.drop e
theorem ajn(B:ah)(e:Nat):(ng B e).length=B.length:=by simp [ng];omega
theorem ajp(B:ah):ng B 0=B:=by simp [ng]
theorem ajl(B:ah):ng B B.length=B.map cs:=by simp [ng]
theorem ajm{B:ah}{e:Nat}(h:e<B.length):gl (ng B e) e=gl B e:=by
 simp only [gl,ng,jq,dm];rw [mc (by simp;omega)];simp [Nat.min_eq_left (Nat.le_of_lt h)]
theorem ajo{B:ah}{e:Nat}(h:e<B.length):(ng B e).set e (cs (gl B e))=ng B (e+1):=by
 rw [bR h];unfold ng;rw [List.set_append_right _ _ (by simp;omega),nM h,iI,gV];have e1:e - ((B.take e).map cs).length=0:=by simp;omega
 rw [e1,List.drop_eq_getElem_cons h]
 rfl
theorem amO(i:Nat){t:ae}{A:aj}{n c:Nat}{xs:ai}(hS:St w0 w ks)(hk:ks[i]?=some (ax t A n c xs))(hn:n<=1000000000):
 aJ prog 159 [.slice A n c] w (fun v w'=>v= .tuple #[]/\St w0 w' (ks.set i (ax t A n c (ox xs)))):=by
 by_cases h0:0<n
 ·exact amR i hS hk h0 hn
 obtain rfl:n=0:=by omega
 have iU:=hS.EH i hk;obtain rfl:=qE iU;refine Calls.mono (AnyM.slices_Sort_int_none WH A c w) fun x w' ⟨hx,hw⟩=> ⟨_,hx,O,?_⟩
 subst hw;have e:ox []=[]:=qE (Qr []).length_eq;rw [e,Ql hk];exact hS
theorem abS(i:Nat){t:ae}{A:aj}{n c:Nat}{xs:ai}(hS:St w0 w ks)(hk:ks[i]?=some (ax t A n c xs))(hn:n<=1000000000):
 aJ prog 160 [.slice A n c] w (fun v w'=>v= .slice A (mg xs).length c/\St w0 w' (ks.set i (ax t A (mg xs).length c (mg xs)))):=by
 by_cases h0:0<n
 ·exact abT i hS hk h0 hn
 obtain rfl:n=0:=by omega
 have iU:=hS.EH i hk;obtain rfl:=qE iU;have e:mg []=[]:=qE (Nat.le_zero.1 (Sc []));rw [e];refine bC func160 O ntmps160 O (df O) ?_;refine bh O (a8 O O (aC O ?_));refine E9 O an (dM O (gJ O ?_));exact⟨O,by rw [show([]:ai).length=0 from O,Ql hk];exact hS⟩
theorem WM{t1 t2:ae}{A:aj}{n c:Nat}{rs:List aO}{xss:ah}(h:rs.length=xss.length):(aS t1 t2 A n c rs xss).length=rs.length+1:=by simp [aS,CZ h]
section
variable {P:Program} {N:Nat} {ops:Array Oper} {K:Env->aa->Prop} {rest:List Oper} {e:Env} {w:aa} {d:Nat} {ty:ae} {pos:String} {af:Array Edge}
theorem ZX{F:FuncId}{x y:ag}{v1 v2:ad}(hx:ev e x=v1)(hy:ev e y=v2)(hb:Nat.blt d N=true)(hK:ao P N ops K rest (bn e d (.func (.func F) #[] #[v1,v2])) w):
 ao P N ops K (⟨some d,.makeFunc (.func F) #[] #[x,y],ty,pos,af,none⟩::rest) e w:=
 .val (by simp [execOp,Instr.makeFunc,hx,hy]) hb hK
end
def BC(lo hi:Int)(xs:ai):Prop:=∀x∈xs,lo<=x/\x<=hi
instance (lo hi:Int)(xs:ai):Decidable (BC lo hi xs):=by unfold BC;exact inferInstance
theorem aaQ(x lo hi:Int)(P1 P2:aj)(w:aa)(h1:Rd w P1 1 (fun _=>ak lo))(h2:Rd w P2 1 (fun _=>ak hi)):
 aJ prog 216 [ak x,.pointer P1,.pointer P2] w (fun v w'=>v= .bool (decide (¬(lo<=x/\x<=hi)))/\w'=w):=by
 refine bC func216 O ntmps216 O (df O) (bh O ?_);refine ao.ld h1 (by exact aE Value.pointer (jz P1).symm) an O O O ?_;refine ao.ld h2 (by exact aE Value.pointer (jz P2).symm) an O O O ?_;refine aL (zv _ _ _ _) O ?_;rintro _ w ⟨rfl,rfl⟩
 first | refine fv rfl rfl ?_ | refine gz rfl rfl ?_
 refine bH O (dq O ?_);exact⟨O,O⟩
theorem Zw(A:aj)(n c:Nat)(xs:ai)(lo hi:Int)(P1 P2:aj)(w:aa)(hR:cL w A n xs)(hn:n<=9223372036854775807)(h1:Rd w P1 1 (fun _=>ak lo))(h2:Rd w P2 1 (fun _=>ak hi)):
 aJ prog 191 [.slice A n c,.func (.func 216) #[] #[.pointer P1,.pointer P2]] w (fun v w'=> (∃i:Int,v=ak i/\(0<=i↔¬BC lo hi xs))/\w'=w):=by
 have iU:=hR.1;refine bC func191 O ntmps191 O (df O) ?_;refine bh O (a8 O O (aC O ?_));refine Cd.loop (α:=Nat) (fun k=> [(0,.slice A n c),(1,.func (.func 216) #[] #[.pointer P1,.pointer P2]),(7,ak n),(8,ak k)]) (fun k w'=>w'=w/\k<=n/\∀j,j<k->lo<=gi xs (j:Nat)/\gi xs (j:Nat)<=hi) (fun k=>n - k) 0 (aqv O) ⟨O,bg _,fun j hj=>by omega⟩ ?_;rintro k e w ⟨rfl,hk,hK⟩;refine bL O (aM _ O (fun h3=>?_) (fun h3=>?_))
 ·refine aA O (aD hR.2 O (aY hR O (aL (aaQ _ lo hi P1 P2 _ h1 h2) O ?_)));rintro _ w ⟨rfl,rfl⟩;refine aC O (aM _ O (fun h4=>?_) (fun h4=>?_))
  ·refine dM O (fB (fe ?_));refine iH O ?_;exact⟨⟨(k:Int),O,⟨fun _ ha=>h4 (by rw [bV (by omega)];exact ha _ (dK _)),fun _=>by omega⟩⟩,O⟩
  refine aA O (aI O (aT O (tQ ?_)));refine⟨k+1,by show n - (k+1)<n - k;omega,(aqv O),O,am,fun j hj=>?_⟩
  by_cases ej:j=k
  ·subst ej;exact jR.1 h4
  exact hK j am
 refine bp O (bt (gw O ?_));refine iH O ⟨⟨-1,O,⟨fun h=>absurd h an,fun h=>absurd (fun x hx=>?_) h⟩⟩,O⟩;obtain⟨j,hj,rfl⟩:=gC.1 hx;have:=hK j am
 rwa [bV hj]at this
theorem Zm(A:aj)(n c:Nat)(xs:ai)(lo hi:Int)(P1 P2:aj)(w:aa)(hR:cL w A n xs)(hn:n<=9223372036854775807)(h1:Rd w P1 1 (fun _=>ak lo))(h2:Rd w P2 1 (fun _=>ak hi)):
 aJ prog 122 [.slice A n c,.func (.func 216) #[] #[.pointer P1,.pointer P2]] w (fun v w'=>v= .bool (decide (¬BC lo hi xs))/\w'=w):=by
 refine bC func122 O ntmps122 O (df O) (bh O (aL (Zw A n c xs lo hi P1 P2 _ hR hn h1 h2) O ?_));rintro _ w ⟨⟨i,rfl,dw⟩,rfl⟩;refine bH O (dq O ?_);exact⟨aE Value.bool (ju.2 dw),O⟩
theorem aaR(A:aj)(n c:Nat)(xs:ai)(lo hi:Int)(w:aa)(hR:cL w A n xs)(hn:n<=9223372036854775807):
 aJ prog 161 [.slice A n c,ak lo,ak hi] w (fun v w'=>v= .bool (decide (BC lo hi xs))/\St w w' []):=by
 refine bC func161 O ntmps161 O (df O) (bh O ?_);refine ao.box (v:=ak lo) (St.refl w) O O (by show(1:Nat)<=maxLen;simp [maxLen]) ?_;intro P1 w1 aH;have aH:St w w1 [Bx 2 1 P1 [ak lo]]:=aH;refine ao.box (v:=ak hi) aH O O (by show(1:Nat)<=maxLen;simp [maxLen]) ?_;intro P2 w2 aF;have aF:St w w2 [Bx 2 1 P2 [ak hi],Bx 2 1 P1 [ak lo]]:=aF;refine ar O (ZX O O O (aL (Zm A n c xs lo hi P1 P2 _ (aF.gA hR) hn (Rd.one (aF.rd 1 O)) (Rd.one (aF.rd 0 O))) O ?_));rintro _ w2 ⟨rfl,rfl⟩
 first | refine fv rfl rfl ?_ | refine gz rfl rfl ?_
 refine bH O (dq O ?_);exact⟨by simp,aF.none⟩
def Q0(n:Nat)(ws:ai):Prop:=BC 0 ((n:Int) - 1) ws/\ws.length<=64
instance (n:Nat)(ws:ai):Decidable (Q0 n ws):=by unfold Q0;exact inferInstance
end Go.Proofs.YtkccgdhcpplblaaGreatDoor.Vc
namespace Go.Proofs.YtkccgdhcpplblaaGreatDoor.Vc
open Tryz
variable{l B M:ah}{i k j m:Nat}{p b R:ai}{x y d u:Int}
theorem OZ{N:Nat}{xss:ah}(hs:Sys N xss)(dw:rv N xss){x y:Int}(h0:0<=x)(h1:x<N)(hr:Reach xss x y):∀i,i<=N->gi (bw N xss i).1 x=gi (bw N xss i).1 y
 | 0,_=>by
  have hy:=hr.range hs h0 h1;simp only [bw,vS h0 h1,vS hy.1 hy.2]
 | i+1,hi=>by
  have hy:=hr.range hs h0 h1;have ih:=OZ hs dw h0 h1 hr i am;have ho:=tx hs (pt:=(i:Int)) am am;simp only [bw]
  split
  ·exact ih
  ·simp only;rw [xg _ _ _ (qu N xss i) ho.1.range x h0,xg _ _ _ (qu N xss i) ho.1.range y hy.1];have hm:x∈cC N xss i↔y∈cC N xss i:=by
    rw [ho.2.2,ho.2.2];exact⟨fun h=>h.trans hr,fun h=>h.trans (hr.symm hs dw h0 h1)⟩
   by_cases h:x∈cC N xss i
   ·rw [aB h,aB (hm.1 h)]
   ·rw [az h,az (fun h'=>h (hm.2 h')),ih]
theorem Ws{N:Nat}{xss:ah}(hs:Sys N xss)(dw:rv N xss){x y:Int}(h0:0<=x)(h1:x<N)(h2:0<=y)(h3:y<N):∀i,i<=N->gi (bw N xss i).1 x=gi (bw N xss i).1 y->0<=gi (bw N xss i).1 x->Reach xss x y
 | 0,_,_,h=>by simp only [bw,vS h0 h1]at h;omega
 | i+1,hi,he,hp=>by
  have ih:=Ws hs dw h0 h1 h2 h3 i am;have ho:=tx hs (pt:=(i:Int)) am am;have hc:=y8 N xss i;have hx:=(EF hs dw i am).1 x h0 h1;have hy:=(EF hs dw i am).1 y h2 h3;simp only [bw]at he hp
  split at he
  ·rename_i hl;rw [aB hl]at hp;exact ih he hp
  ·rename_i hl;rw [az hl]at hp;simp only at he hp;rw [xg _ _ _ (qu N xss i) ho.1.range x h0]at he hp;rw [xg _ _ _ (qu N xss i) ho.1.range y h2]at he
   by_cases rZ:x∈cC N xss i
   ·rw [aB rZ]at he
    by_cases GX:y∈cC N xss i
    ·exact(((ho.2.2 x).1 rZ).symm hs dw am am).trans ((ho.2.2 y).1 GX)
    ·rw [az GX]at he;omega
   ·rw [az rZ]at he hp
    by_cases GX:y∈cC N xss i
    ·rw [aB GX]at he;omega
    ·rw [az GX]at he;exact ih he hp
theorem acz{xss:ah}(hk:k<xss.length)(bP:k≠i):gl xss k∈xss.eraseIdx i:=by
 rw [List.mem_eraseIdx_iff_getElem];exact⟨k,hk,bP,by rw [bR hk]⟩
theorem acA{xss:ah}(h:p∈xss.eraseIdx i):∃k:Nat,k<xss.length/\k≠i/\p=gl xss k:=by
 rw [List.mem_eraseIdx_iff_getElem]at h;obtain⟨k,hk,bP,rfl⟩:=h;exact⟨k,hk,bP,by rw [bR hk]⟩
theorem SU{xss:ah}(hM:bI xss)(hk:k<xss.length)(bP:k≠i){f:Int}(h0:0<=f)(h1:f< (gl xss 0).length):gi (eT xss i) (gi (gl xss k) f)=gi (eT xss i) f:=(OZ (hM.2.2.1.sys.erase i) (hM.2.2.1.inj.erase i) h0 h1 (.step .refl (acz hk bP)) _ (br _)).symm
theorem SV{xss:ah}(hM:bI xss){f g:Int}(h0:0<=f)(h1:f< (gl xss 0).length)(h2:0<=g)(h3:g< (gl xss 0).length)(h:gi (eT xss i) f=gi (eT xss i) g):Reach (xss.eraseIdx i) f g:=by
 obtain⟨k,rfl⟩:∃k:Nat,f=k:=⟨f.toNat,am⟩;exact Ws (hM.2.2.1.sys.erase i) (hM.2.2.1.inj.erase i) h0 h1 h2 h3 _ (br _) h (Mh hM i k am).1
theorem bI.two{xss:ah}(hM:bI xss)(hk:k<xss.length){f:Int}(h0:0<=f)(h1:f< (gl xss 0).length):gi (gl xss k) (gi (gl xss k) f)=f:=by
 obtain⟨q,rfl⟩:∃q:Nat,f=q:=⟨f.toNat,am⟩;have hr:=hM.2.2.1.at_ hk;exact(hr.2.2 q am).2
theorem bI.CB{xss:ah}(hM:bI xss)(hk:k<xss.length){f:Int}(h0:0<=f)(h1:f< (gl xss 0).length):0<=gi (gl xss k) f/\gi (gl xss k) f< (gl xss 0).length:=(hM.2.2.1.sys _ (by rw [bR hk];exact dK _)).2 f h0 h1
theorem bI.comm{xss:ah}(hM:bI xss)(hi:i<xss.length)(hk:k<xss.length)(nB:i+2<=k){f:Int}(h0:0<=f)(h1:f< (gl xss 0).length):gi (gl xss k) (gi (gl xss i) f)=gi (gl xss i) (gi (gl xss k) f):=by
 obtain⟨q,rfl⟩:∃q:Nat,f=q:=⟨f.toNat,am⟩;exact(hM.2.2.2.1 i hi k hk nB q am).1
def LT(a b:ai):Prop:=jl a b<0
instance (a b:ai):Decidable (LT a b):=by unfold LT;infer_instance
theorem LT.ne{a:ai}(h:LT a b):a≠b:=fun e=>by
 unfold LT at h;rw [O2.2 e]at h;omega
theorem Q3{a:ai}(h:¬LT a b)(h':a≠b):LT b a:=by
 unfold LT at h|-;have h1:=O1 a b;have h2:jl a b≠0:=fun e=>h' (O2.1 e)
 omega
theorem LT.asymm{a:ai}(h:LT a b):¬LT b a:=fun h'=>by
 unfold LT at h h';have h1:=O1 a b;omega
theorem K9(a:ai):¬LT a a:=fun h=>h.ne rfl
theorem LT.trans{a c:ai}(h:LT a b)(h':LT b c):LT a c:=WA h h'
theorem ZC{a c:ai}(h:¬LT a b)(h':¬LT b c):¬LT a c:=fun Jn=>by
 by_cases e:a=b
 ·subst e;exact h' Jn
 exact h' ((Q3 h e).trans Jn)
def SL(l:ah):Prop:=l.Pairwise LT
theorem SL.nodup(h:SL l):l.Nodup:=h.imp fun h=>h.ne
theorem SL.eq:∀ {l l':ah},SL l->SL l'->(∀x,x∈l↔x∈l')->l=l'
 | [],[],_,_,_=>rfl
 | [],b::r,_,_,h=>absurd ((h b).2 (by simp)) (by simp)
 | a::l,[],_,_,h=>absurd ((h a).1 (by simp)) (by simp)
 | a::l,b::r,hl,hr,h=>by
  obtain⟨nC,pI⟩:=List.pairwise_cons.1 hl;obtain⟨kZ,qV⟩:=List.pairwise_cons.1 hr;have e:a=b:=by
   have h1:a∈b::r:=(h a).1 (by simp);have h2:b∈a::l:=(h b).2 (by simp);rcases iX.1 h1 with e | h1
   ·exact e
   ·rcases iX.1 h2 with e | h2
    ·exact e.symm
    ·exact absurd (nC b h2) (kZ a h1).asymm
  subst e;rw [SL.eq pI qV fun x=>?_];have hx:=h x;constructor
  ·intro hm;rcases iX.1 (hx.1 (by simp [hm]))with e | h'
   ·subst e;exact absurd (nC x hm) (K9 x)
   ·exact h'
  ·intro hm;rcases iX.1 (hx.2 (by simp [hm]))with e | h'
   ·subst e;exact absurd (kZ x hm) (K9 x)
   ·exact h'
def Ins(a b:ai):Prop:=∀x∈a,x∈b
instance (a b:ai):Decidable (Ins a b):=by unfold Ins;infer_instance
theorem Q1{a:ai}:LT (x::a) (y::b)↔x<y\/x=y/\LT a b:=by
 unfold LT;rw [jl]
 by_cases e:x=y
 ·subst e;rw [aB (DH.2 rfl)];constructor
  ·exact fun h=> .inr ⟨O,h⟩
  rintro(h | h)
  ·omega
  exact h.2
 rw [az (fun h=>e (DH.1 h)),Im];constructor
 ·exact fun h=> .inl h
 rintro(h | h)
 ·exact h
 exact absurd h.1 e
def Q5(ls:ah)(x:ai):Prop:=x∈ls/\x≠[]/\∀y∈ls,Ins x y->y=x
instance (ls:ah)(x:ai):Decidable (Q5 ls x):=by unfold Q5;infer_instance
def Ly(x:ai):ah->Nat
 | []=>0
 | y::l=>if LT y x then Ly x l+1 else 0
def alK(l:ah)(x:ai):ah:=if x∈l then l else l.take (Ly x l)++x::l.drop (Ly x l)
def XI(ls:ah):ah:=(ls.filter fun l=>decide (l≠[])).foldl alK []
def acE(ls:ah):ah:=(XI ls).filter fun x=>decide (∀y∈XI ls,Ins x y->y=x)
def ix(s:ai)(x:Int):Int:=(s.idxOf x:Nat)
def cvP(ss:ah):ai:=cs ss.flatten
def QW(ss:ah):Prop:=(∃l∈ss,6<l.length)\/60< (cvP ss).length\/400< (acE ss).length
instance (ss:ah):Decidable (QW ss):=by unfold QW;infer_instance
def bY(n:Nat):ai:=(List.range n).map fun k:Nat=> (k:Int)
theorem Qc(n:Nat):(bY n).length=n:=by simp [bY]
theorem ky(n:Nat)(x:Int):x∈bY n↔0<=x/\x<n:=by
 simp only [bY,dF,ig];exact⟨fun⟨k,hk,e⟩=>by omega,fun h=> ⟨x.toNat,am,am⟩⟩
theorem mM(n:Nat):SA (bY n):=by
 unfold SA bY;rw [oD];exact List.pairwise_lt_range.imp fun h=>by omega
theorem DT(x:Int)(l:ai)(i:Nat):gi (x::l) ((i+1:Nat):Int)=gi l (i:Nat):=by simp [gi]
theorem SA.AL{l:ai}(h:SA l)(iy:i<j)(hj:j<l.length):gi l i<gi l j:=by
 rw [bV (by omega),bV hj];exact List.pairwise_iff_getElem.1 h i j am hj iy
def kI(R:ai)(B:ah)(e:Int):ai:=(bY R.length).filter fun f=>decide (gi R f=gi R e+1/\e∈gl B f)
theorem np{e f:Int}:f∈kI R B e↔(0<=f/\f<R.length)/\gi R f=gi R e+1/\e∈gl B f:=by
 unfold kI;rw [gy,ky,kB]
theorem E4(R:ai)(B:ah)(e:Int):SA (kI R B e):=qb _ (mM _)
def nU(R:ai)(B:ah):Nat->Int->ah
 | 0,_=> [[]]
 | k+1,e=> (kI R B e).flatMap fun f=> (nU R B k f).map (f:: ·)
def vM(R:ai):ai:=(bY R.length).filter fun e=>decide (gi R e=0)
theorem uN{e:Int}:e∈vM R↔(0<=e/\e<R.length)/\gi R e=0:=by
 unfold vM;rw [gy,ky,kB]
def aG(n:Nat)(R:ai)(B:ah):ah:=(vM R).flatMap fun e=> (nU R B (n - 1) e).map (e:: ·)
def eh(n:Nat)(R:ai)(B:ah)(e:Int):Prop:=nU R B (n - 1 - (gi R e).toNat) e≠[]
instance (n:Nat)(R:ai)(B:ah)(e:Int):Decidable (eh n R B e):=by unfold eh;infer_instance
theorem RB{n:Nat}{e:Int}(h:gi R e=(n:Int) - 1):eh n R B e:=by
 unfold eh;rw [show n - 1 - (gi R e).toNat=0 by omega];simp [nU]
theorem H4{n:Nat}{e:Int}(h0:0<=gi R e)(h1:gi R e< (n:Int) - 1):eh n R B e↔∃f∈kI R B e,eh n R B f:=by
 obtain⟨k,hk⟩:∃k,n - 1 - (gi R e).toNat=k+1:=⟨n - 1 - (gi R e).toNat - 1,am⟩;have hf:∀f∈kI R B e,n - 1 - (gi R f).toNat=k:=fun f hf=>by
  have:=(np.1 hf).2.1;omega
 unfold eh;rw [hk,nU];constructor
 ·intro h;obtain⟨x,hx⟩:=List.exists_mem_of_ne_nil _ h;obtain⟨f,ji,hx⟩:=List.mem_flatMap.1 hx;obtain⟨y,hy,_⟩:=dF.1 hx;exact⟨f,ji,by rw [hf f ji];exact List.ne_nil_of_mem hy⟩
 rintro⟨f,ji,h⟩;rw [hf f ji]at h;obtain⟨y,hy⟩:=List.exists_mem_of_ne_nil _ h;exact List.ne_nil_of_mem (List.mem_flatMap.2 ⟨f,ji,dF.2 ⟨y,hy,O⟩⟩)
theorem Ml{α β:Type}{p:α->Bool}{g:α->List β}:∀ {l:List α},(∀x∈l,p x=false->g x=[])->(l.filter p).flatMap g=l.flatMap g
 | [],_=>rfl
 | a::r,h=>by
  have ih:=Ml (p:=p) (g:=g) (l:=r) fun x hx=>h x (rB _ hx)
  cases hp:p a with
  | true=>rw [Bu hp,List.flatMap_cons,List.flatMap_cons,ih]
  | false=>rw [xZ (by simp [hp]),List.flatMap_cons,ih,h a (by simp) hp];rfl
theorem YW{n:Nat}{e:Int}(h0:0<=gi R e)(hk:(gi R e).toNat+ (k+1)=n - 1):nU R B (k+1) e=((kI R B e).filter fun f=>decide (eh n R B f)).flatMap fun f=> (nU R B k f).map (f:: ·):=by
 rw [nU,Ml];intro f hf h;have h2:=(np.1 hf).2.1;have h3:¬eh n R B f:=by simpa using h
 unfold eh at h3;rw [show n - 1 - (gi R f).toNat=k by omega]at h3;rw [jR.1 h3];rfl
theorem RY{n:Nat}:aG n R B=((vM R).filter fun f=>decide (eh n R B f)).flatMap fun e=> (nU R B (n - 1) e).map (e:: ·):=by
 rw [aG,Ml];intro f hf h;have h2:=(uN.1 hf).2;have h3:¬eh n R B f:=by simpa using h
 unfold eh at h3;rw [h2]at h3;rw [show n - 1 - (0:Int).toNat=n - 1 by rfl]at h3;rw [jR.1 h3];rfl
def cap(l:ah):ah:=l.take 401
theorem LM(l:ah):(cap l).length<=401:=by unfold cap;rw [List.length_take];omega
theorem Ih(m:ah)(h:400< (cap l).length):cap (l++m)=cap l:=by
 unfold cap at h|-;rw [ns]at h;rw [wN (by omega)]
theorem LL(h:(cap l).length<=400):cap l=l:=by
 unfold cap at h|-;rw [ns]at h;exact iY am
theorem Ig:(cap l).length<=400↔l.length<=400:=by
 unfold cap;rw [ns];omega
theorem abl(x:ai)(h:(cap l).length<=400):cap (l++ [x])=cap l++ [x]:=by
 rw [LL h];rw [Ig]at h;unfold cap;exact iY (by rw [ck,List.length_singleton];omega)
def Fa(R:ai)(B:ah):Int->ai->Prop
 | _,[]=>True
 | e,f::r=>f∈kI R B e/\Fa R B f r
theorem IC{R:ai}{B:ah}:∀ {k:Nat} {e:Int} {x:ai},x∈nU R B k e↔x.length=k/\Fa R B e x
 | 0,e,x=>by
  rw [nU,gj];constructor
  ·rintro rfl;exact⟨rfl,au⟩
  ·exact fun h=>qE h.1
 | k+1,e,x=>by
  rw [nU,List.mem_flatMap];constructor
  ·rintro⟨f,hf,h⟩;obtain⟨y,hy,rfl⟩:=dF.1 h;obtain⟨h1,h2⟩:=IC.1 hy;exact⟨by rw [List.length_cons,h1],hf,h2⟩
  ·rintro⟨h1,h2⟩
   match x,h1,h2 with
   | f::r,h1,⟨h2,h3⟩=>exact⟨f,h2,dF.2 ⟨r,IC.2 ⟨by simpa using h1,h3⟩,rfl⟩⟩
theorem K4{R:ai}{B:ah}:∀ {x:ai} {e:Int},Fa R B e x↔∀i:Nat,i<x.length->gi (e::x) ((i+1:Nat):Int)∈kI R B (gi (e::x) i)
 | [],e=>by simp [Fa]
 | f::r,e=>by
  rw [Fa,K4 (x:=r) (e:=f)];constructor
  ·rintro⟨h1,h2⟩ i hi
   match i with
   | 0=>exact h1
   | i+1=>
    rw [DT,DT];exact h2 i (by simpa using hi)
  ·intro h;refine⟨h 0 (by simp),fun i hi=>?_⟩;have:=h (i+1) (by simpa using hi)
   rwa [DT,DT]at this
theorem qL{n:Nat}(hn:1<=n){x:ai}:x∈aG n R B↔x.length=n/\(∀i:Nat,i<n->(0<=gi x i/\gi x i<R.length)/\gi R (gi x i)=i)/\∀i:Nat,i+1<n->gi x i∈gl B (gi x ((i+1:Nat):Int)):=by
 unfold aG;rw [List.mem_flatMap];constructor
 ·rintro⟨e,he,h⟩;obtain⟨y,hy,rfl⟩:=dF.1 h;obtain⟨h1,h2⟩:=IC.1 hy;obtain⟨h3,h4⟩:=uN.1 he;rw [K4]at h2;have key:∀i:Nat,i<n->(0<=gi (e::y) i/\gi (e::y) i<R.length)/\gi R (gi (e::y) i)=i:=by
   intro i
   induction i with
   | zero=>intro _;exact⟨h3,h4⟩
   | succ i ih=>
    intro hi;have h5:=np.1 (h2 i am);have h6:=ih am;exact⟨h5.1,by rw [h5.2.1,h6.2];omega⟩
  exact⟨by rw [List.length_cons,h1];omega,key,fun i hi=> (np.1 (h2 i am)).2.2⟩
 ·rintro⟨h1,h2,h3⟩
  match x,h1,h2,h3 with
  | [],h1,_,_=>simp at h1;omega
  | e::y,h1,h2,h3=>
   rw [List.length_cons]at h1;refine⟨e,uN.2 (h2 0 am),dF.2 ⟨y,IC.2 ⟨am,K4.2 fun i hi=>?_⟩,O⟩⟩;have h4:=h2 (i+1) am;have h5:=h2 i am;exact np.2 ⟨h4.1,by rw [h4.2,h5.2];omega,h3 i am⟩
theorem Lm{g:Int->ah}(hg:∀f,SL (g f)):∀ {l:ai},SA l->SL (l.flatMap fun f=> (g f).map (f:: ·))
 | [],_=>List.Pairwise.nil
 | a::l,h=>by
  obtain⟨h1,h2⟩:=List.pairwise_cons.1 h;rw [List.flatMap_cons,SL,List.pairwise_append];refine⟨oD.2 ((hg a).imp fun h=>Q1.2 (.inr ⟨O,h⟩)),Lm hg h2,fun x hx y hy=>?_⟩;obtain⟨u,_,rfl⟩:=dF.1 hx;obtain⟨b,hb,hy⟩:=List.mem_flatMap.1 hy;obtain⟨v,_,rfl⟩:=dF.1 hy;exact Q1.2 (.inl (h1 b hb))
theorem SM(R:ai)(B:ah):∀(k:Nat) (e:Int),SL (nU R B k e)
 | 0,_=>by simp [nU,SL]
 | k+1,e=>Lm (SM R B k) (E4 R B e)
theorem II(n:Nat)(R:ai)(B:ah):SL (aG n R B):=Lm (SM R B (n - 1)) (qb _ (mM _))
structure gL(n:Int)(R:ai)(B:ah):Prop where
 n1:1<=n/\n<=5
 qd:R.length<=500
 len:B.length=R.length
 eE:∀x∈R,0<=x/\x<=n - 1
 Dz:tG R
 row:∀e:Nat,e<R.length->SA (gl B e)/\∀d∈gl B e,(0<=d/\d<R.length)/\gi R d<gi R e
 tr:∀e:Nat,e<R.length->∀d∈gl B e,∀c∈gl B d,c∈gl B e
theorem tG.le(h:tG R)(iy:i<=j)(hj:j<R.length):gi R i<=gi R j:=by
 rcases Nat.lt_or_eq_of_le iy with h1 | rfl
 ·rw [bV (by omega),bV hj];exact List.pairwise_iff_getElem.1 h i j am hj h1
 exact Int.le_refl _
theorem gL.at_{n:Int}(h:gL n R B){e:Int}(h0:0<=e)(h1:e<R.length):SA (gl B e)/\(∀d∈gl B e,(0<=d/\d<e)/\gi R d<gi R e)/\∀d∈gl B e,∀c∈gl B d,c∈gl B e:=by
 obtain⟨k,rfl⟩:∃k:Nat,e=k:=⟨e.toNat,am⟩;have hr:=h.row k am;refine⟨hr.1,fun d hd=>?_,h.tr k am⟩;have h2:=hr.2 d hd;obtain⟨j,rfl⟩:∃j:Nat,d=j:=⟨d.toNat,am⟩;refine⟨⟨am,?_⟩,h2.2⟩;refine Int.not_le.1 fun hle=>?_
 have:=h.Dz.le (i:=k) (j:=j) am am;omega
theorem gL.ri{n:Int}(h:gL n R B){e:Int}(h0:0<=e)(h1:e<R.length):0<=gi R e/\gi R e<=n - 1:=by
 obtain⟨k,rfl⟩:∃k:Nat,e=k:=⟨e.toNat,am⟩;exact h.eE _ (gi_in am)
def aR(M:ah):Nat->Nat
 | 0=>0
 | i+1=>aR M i+ (jg M i).toNat
def bU(M:ah):Nat->ai
 | 0=> []
 | i+1=>bU M i++List.replicate (jg M i).toNat (i:Int)
theorem pq(M:ah):∀i,(bU M i).length=aR M i
 | 0=>rfl
 | i+1=>by rw [bU,ck,pq M i,List.length_replicate];rfl
def dd(M:ah)(i:Nat)(f:Nat):Int:=(aR M i:Int)+gi (eT M i) f
theorem pa(M:ah)(h:i<=j):aR M i<=aR M j:=by
 induction h with
 | refl=>exact br _
 | step _ ih=>exact mS ih (by show _<=aR M _+_;omega)
theorem yh(hM:bI M){f:Nat}(hf:f< (gl M 0).length):(aR M i:Int)<=dd M i f/\dd M i f< (aR M (i+1):Int):=by
 have h1:=Mh hM i f hf;unfold dd;show _/\_< ((aR M i+ (jg M i).toNat:Nat):Int);omega
theorem IP{n:Nat}:∀ {i:Nat},i<n->∀ {e:Int},(aR M i:Int)<=e->e< (aR M (i+1):Int)->gi (bU M n) e=i:=by
 induction n with
 | zero=>intro i hi;omega
 | succ n ih=>
  intro i hi e h0 h1;obtain⟨k,rfl⟩:∃k:Nat,e=k:=⟨e.toNat,am⟩;have hl:=pq M n
  by_cases h:i=n
  ·subst h;rw [bU,gi,dm,mc (by rw [hl];omega),List.getElem?_replicate,aB]
   ·rfl
   ·have:aR M (i+1)=aR M i+ (jg M i).toNat:=O;rw [hl];omega
  ·have h3:=pa M (show i+1<=n by omega);have h2:=ih (show i<n by omega) h0 h1;rw [bU,gi,dm,ma (by rw [hl];omega),<-dm];exact h2
theorem Tl{n:Nat}{e:Int}(h0:0<=e)(h1:e< (aR M n:Int)):∃i,i<n/\(aR M i:Int)<=e/\e< (aR M (i+1):Int):=by
 induction n with
 | zero=>have:aR M 0=0:=rfl;omega
 | succ n ih=>
  by_cases h:e< (aR M n:Int)
  ·obtain⟨i,hi,h2⟩:=ih h;exact⟨i,am,h2⟩
  ·exact⟨n,am,am,h1⟩
theorem Tk(M:ah):∀n,tG (bU M n)/\∀x∈bU M n,0<=x/\x< (n:Int)
 | 0=> ⟨List.Pairwise.nil,fun x hx=>by cases hx⟩
 | n+1=>by
  obtain⟨h1,h2⟩:=Tk M n;refine⟨?_,fun x hx=>?_⟩
  ·rw [bU,tG,List.pairwise_append];refine⟨h1,List.pairwise_replicate.2 (.inr (Int.le_refl _)),fun x hx y hy=>?_⟩;have:=h2 x hx;have:=(List.mem_replicate.1 hy).2;omega
  ·rw [bU]at hx;rcases jd.1 hx with h | h
   ·have:=h2 x h;omega
   ·have:=(List.mem_replicate.1 h).2;omega
def sJ(M:ah)(d e:Int):Prop:=∃f:Nat,f< (gl M 0).length/\∃i:Nat,i<M.length/\∃k:Nat,k<i/\e=dd M i f/\d=dd M k f
open Classical in
noncomputable def bQ(M:ah):ah:=(bY (aR M M.length)).map fun e=> (bY (aR M M.length)).filter fun d=>decide (sJ M d e)
theorem vR(M:ah):(bQ M).length=aR M M.length:=by simp [bQ,bY]
theorem rI{e:Int}(h0:0<=e)(h1:e< (aR M M.length:Int))(d:Int):d∈gl (bQ M) e↔(0<=d/\d< (aR M M.length:Int))/\sJ M d e:=by
 obtain⟨k,rfl⟩:∃k:Nat,e=k:=⟨e.toNat,am⟩;rw [bR (by rw [vR];omega)];unfold bQ;rw [List.getElem_map,gy,ky];have:(bY (aR M M.length))[k]'(by rw [Qc];omega)=(k:Int):=by simp [bY]
 rw [this];exact and_congr Iff.rfl (by simp)
theorem sJ.eE(hM:bI M){e:Int}(h:sJ M d e):(0<=d/\d< (aR M M.length:Int))/\(0<=e/\e< (aR M M.length:Int))/\gi (bU M M.length) d<gi (bU M M.length) e:=by
 obtain⟨f,hf,i,hi,k,hk,rfl,rfl⟩:=h;have h1:=yh hM (i:=i) hf;have h2:=yh hM (i:=k) hf;have h3:=pa M (show i+1<=M.length by omega);have h4:=pa M (show k+1<=M.length by omega);refine⟨am,am,?_⟩;rw [IP hi h1.1 h1.2,IP (show k<M.length by omega) h2.1 h2.2];omega
theorem Yx(h:p∈M.take j):∃k:Nat,k<j/\k<M.length/\p=gl M k:=by
 obtain⟨k,hk,rfl⟩:=gC.1 h;rw [ns]at hk;exact⟨k,am,am,by rw [List.getElem_take,bR (by omega)]⟩
theorem WE(hM:bI M)(j:Nat):Sys (gl M 0).length (M.take j):=fun p hp=>hM.2.2.1.sys p (List.mem_of_mem_take hp)
theorem ai1(hM:bI M)(h0:0<=y)(h1:y< (gl M 0).length)(h:Reach (M.take j) y u):∀i:Nat,j<=i->gi (eT M i) u=gi (eT M i) y:=by
 induction h with
 | refl=>exact fun _ _=>rfl
 | step h hp ih=>
  intro i hi;have hr:=h.range (WE hM j) h0 h1;obtain⟨k,Ej,hk,rfl⟩:=Yx hp;rw [SU hM hk (by omega) hr.1 hr.2,ih i hi]
theorem ai0(hM:bI M)(vc:j<k)(hk:k<M.length)(h0:0<=y)(h1:y< (gl M 0).length)(h:Reach (M.take j) y u):Reach (M.take j) (gi (gl M k) y) (gi (gl M k) u):=by
 induction h with
 | refl=>exact .refl
 | step h hp ih=>
  have hr:=h.range (WE hM j) h0 h1;obtain⟨i,iy,hi,rfl⟩:=Yx hp;rw [hM.comm hi hk (by omega) hr.1 hr.2];exact .step ih hp
theorem amX(hM:bI M){f:Int}(h0:0<=f)(h1:f< (gl M 0).length){g:Int}(h:Reach (M.eraseIdx j) f g):
 ∃u:Int,(0<=u/\u< (gl M 0).length)/\(∀i:Nat,i<=j->gi (eT M i) u=gi (eT M i) f)/\∀i:Nat,j<=i->gi (eT M i) u=gi (eT M i) g:=by
 have key:∃u:Int,(0<=u/\u< (gl M 0).length)/\(∀i:Nat,i<=j->gi (eT M i) u=gi (eT M i) f)/\Reach (M.take j) g u:=by
  induction h with
  | refl=>exact⟨f,⟨h0,h1⟩,fun _ _=>rfl,.refl⟩
  | step h hp ih=>
   rename_i y p;obtain⟨u,hu,fo,hr⟩:=ih;have uj:=h.range (hM.2.2.1.sys.erase j) h0 h1;obtain⟨k,hk,Ej,rfl⟩:=acA hp;rcases Nat.lt_or_gt_of_ne Ej with fG | JG
   ·refine⟨u,hu,fo,?_⟩;have hm:gl M k∈M.take j:=by
     rw [gC];exact⟨k,by rw [ns];omega,by rw [List.getElem_take,bR hk]⟩
    have h2:Reach (M.take j) (gi (gl M k) y) (gi (gl M k) (gi (gl M k) y)):= .step .refl hm;rw [hM.two hk uj.1 uj.2]at h2;exact h2.trans hr
   ·refine⟨gi (gl M k) u,hM.CB hk hu.1 hu.2,fun i hi=>?_,ai0 hM JG hk uj.1 uj.2 hr⟩;rw [SU hM hk (by omega) hu.1 hu.2,fo i hi]
 obtain⟨u,hu,fo,hr⟩:=key;have hg:=h.range (hM.2.2.1.sys.erase j) h0 h1;exact⟨u,hu,fo,ai1 hM hg.1 hg.2 hr⟩
theorem sJ.trans(hM:bI M){c e:Int}(h:sJ M c d)(h':sJ M d e):sJ M c e:=by
 obtain⟨f,hf,j,hj,k,hk,rfl,rfl⟩:=h;obtain⟨g,hg,i,hi,l,hl,rfl,e2⟩:=h';have h1:=yh hM (i:=j) hf;have h2:=yh hM (i:=l) hg;have mn:j=l:=by
  rcases Nat.lt_trichotomy j l with h | h | h
  ·have:=pa M (show j+1<=l by omega);omega
  ·exact h
  have:=pa M (show l+1<=j by omega);omega
 subst mn;have e3:gi (eT M j) f=gi (eT M j) g:=by unfold dd at e2;omega
 obtain⟨u,hu,fo,dv⟩:=amX hM (j:=j) (f:=(f:Int)) am am (SV hM am am am am e3);refine⟨u.toNat,am,i,hi,k,am,?_,?_⟩
 ·unfold dd;rw [Int.toNat_of_nonneg hu.1,dv i (by omega)]
 unfold dd;rw [Int.toNat_of_nonneg hu.1,fo k (by omega)]
theorem ac8(hM:bI M)(hb:aR M M.length<=500):gL M.length (bU M M.length) (bQ M):=by
 have h1:=hM.1;have hl:=pq M M.length;obtain⟨ha,hr⟩:=Tk M M.length;refine⟨am,am,by rw [vR,hl],fun x hx=>?_,ha,fun e he=> ⟨?_,fun d hd=>?_⟩,fun e he d hd c hc=>?_⟩
 ·have:=hr x hx;omega
 ·rw [bR (by rw [vR];omega)];unfold bQ;rw [List.getElem_map];exact qb _ (mM _)
 ·rw [rI (by omega) (by omega)]at hd;have:=hd.2.eE hM;exact⟨am,this.2.2⟩
 rw [rI (by omega) (by omega)]at hd|-;rw [rI (by omega) (by omega)]at hc;exact⟨hc.1,hc.2.trans hM hd.2⟩
structure gg(m:Nat)(n:Int)(rk:Int->Int)(ir:Int->Int->Prop):Prop where
 two:2<=m
 r0:rk 0= -1
 rt:rk ((m:Int) - 1)=n
 ri:∀a:Int,0<a->a< (m:Int) - 1->0<=rk a/\rk a<=n - 1
 refl:∀a,ir a a
 trans:∀a b c:Int,0<=a/\a<m->0<=b/\b<m->0<=c/\c<m->ir a b->ir b c->ir a c
 strict:∀a b:Int,0<=a/\a<m->0<=b/\b<m->ir a b->a≠b->rk a<rk b
 bot:∀b,ir 0 b
 top:∀a,ir a ((m:Int) - 1)
 n0:0<=n
def xY(m:Nat)(rk:Int->Int)(ir:Int->Int->Prop):Prop:=∀a b:Int,0<=a/\a<m->0<=b/\b<m->ir a b->rk b=rk a+2->∃x y:Int,x≠y/\∀c:Int,((0<=c/\c<m)/\ir a c/\ir c b/\rk c=rk a+1)↔(c=x\/c=y)
theorem gg.rn{n:Int}{rk:Int->Int}{ir:Int->Int->Prop}(h:gg m n rk ir){a b:Int}(ha:0<=a/\a<m)(hb:0<=b/\b<m)(hu:ir a b):rk a<=rk b:=by
 by_cases e:a=b
 ·rw [e];exact Int.le_refl _
 exact Int.le_of_lt (h.strict a b ha hb hu e)
theorem gg.same{n:Int}{rk:Int->Int}{ir:Int->Int->Prop}(h:gg m n rk ir){a b:Int}(ha:0<=a/\a<m)(hb:0<=b/\b<m)(hu:ir a b)(hr:rk b<=rk a):a=b:=
 qD fun e=>by have:=h.strict a b ha hb hu e;omega
theorem gg.eE{n:Int}{rk:Int->Int}{ir:Int->Int->Prop}(h:gg m n rk ir){a:Int}(ha:0<=a/\a<m): -1<=rk a/\rk a<=n:=by
 have h0:=h.r0;have ht:=h.rt;have hn:=h.n0
 by_cases e:a=0
 ·subst e;omega
 by_cases e2:a=(m:Int) - 1
 ·subst e2;omega
 have:=h.ri a am am;omega
theorem gg.zero{n:Int}{rk:Int->Int}{ir:Int->Int->Prop}(h:gg m n rk ir){a:Int}(ha:0<=a/\a<m)(hr:rk a= -1):a=0:=by
 have ht:=h.rt;have hn:=h.n0;refine qD fun e=>?_
 by_cases e2:a=(m:Int) - 1
 ·subst e2;omega
 have:=h.ri a am am;omega
theorem gg.whole{n:Int}{rk:Int->Int}{ir:Int->Int->Prop}(h:gg m n rk ir){a:Int}(ha:0<=a/\a<m)(hr:rk a=n):a=(m:Int) - 1:=by
 have h0:=h.r0;have hn:=h.n0;refine qD fun e=>?_
 by_cases e2:a=0
 ·subst e2;omega
 have:=h.ri a am am;omega
section
variable {m1 m2:Nat} {n1 n2:Int} {rk1 rk2:Int->Int} {di db:Int->Int->Prop}
theorem abc(h1:gg m1 n1 rk1 di)(h2:gg m2 n2 rk2 db)(d1:xY m1 rk1 di)(d2:xY m2 rk2 db){a1 a2 b1 b2:Int}(im:0<=a1/\a1<m1)(iw:0<=a2/\a2<m2)(dE:0<=b1/\b1<m1)(eB:0<=b2/\b2<m2)(xA:di a1 b1)(lb:db a2 b2)(hr:rk1 b1+rk2 b2=rk1 a1+rk2 a2+2):
 ∃x y:Int×Int,x≠y/\∀c:Int×Int,((0<=c.1/\c.1<m1)/\(0<=c.2/\c.2<m2)/\(di a1 c.1/\db a2 c.2)/\(di c.1 b1/\db c.2 b2)/\rk1 c.1+rk2 c.2=rk1 a1+rk2 a2+1)↔(c=x\/c=y):=by
 have q1:=h1.rn im dE xA;have q2:=h2.rn iw eB lb;rcases(show(rk1 b1=rk1 a1+2/\rk2 b2=rk2 a2)\/(rk1 b1=rk1 a1+1/\rk2 b2=rk2 a2+1)\/(rk1 b1=rk1 a1/\rk2 b2=rk2 a2+2) by omega)with⟨r1,r2⟩ | ⟨r1,r2⟩ | ⟨r1,r2⟩
 ·obtain rfl:=h2.same iw eB lb am;obtain⟨x,y,kq,hc⟩:=d1 a1 b1 im dE xA r1;refine⟨(x,a2),(y,a2),fun e=>kq (aE Prod.fst e),fun c=>?_⟩;constructor
  ·rintro⟨i1,i2,⟨u1,u2⟩,⟨v1,v2⟩,rc⟩;have e2:=h2.same iw i2 u2 (h2.rn i2 iw v2);have:=(hc c.1).1 ⟨i1,u1,v1,by rw [<-e2]at rc;omega⟩;rcases this with h | h
   ·left;rw [<-h,e2]
   right;rw [<-h,e2]
  rintro(rfl | rfl)
  ·obtain⟨i,u,v,rc⟩:=(hc x).2 (.inl rfl);exact⟨i,iw,⟨u,h2.refl _⟩,⟨v,h2.refl _⟩,by show rk1 x+rk2 a2=_;omega⟩
  obtain⟨i,u,v,rc⟩:=(hc y).2 (.inr rfl);exact⟨i,iw,⟨u,h2.refl _⟩,⟨v,h2.refl _⟩,by show rk1 y+rk2 a2=_;omega⟩
 ·have ne1:a1≠b1:=fun e=>by rw [e]at r1;omega
  refine⟨(a1,b2),(b1,a2),fun e=>ne1 (aE Prod.fst e),fun c=>?_⟩;constructor
  ·rintro⟨i1,i2,⟨u1,u2⟩,⟨v1,v2⟩,rc⟩;have p1:=h1.rn im i1 u1;have p2:=h1.rn i1 dE v1;have p3:=h2.rn iw i2 u2;have p4:=h2.rn i2 eB v2
   by_cases e:rk1 c.1=rk1 a1
   ·left;have e1:=h1.same im i1 u1 am;have e2:=h2.same i2 eB v2 am;exact Prod.ext e1.symm e2
   right;have e1:=h1.same i1 dE v1 am;have e2:=h2.same iw i2 u2 am;exact Prod.ext e1 e2.symm
  rintro(rfl | rfl)
  ·exact⟨im,eB,⟨h1.refl _,lb⟩,⟨xA,h2.refl _⟩,by show rk1 a1+rk2 b2=_;omega⟩
  exact⟨dE,iw,⟨xA,h2.refl _⟩,⟨h1.refl _,lb⟩,by show rk1 b1+rk2 a2=_;omega⟩
 obtain rfl:=h1.same im dE xA am;obtain⟨x,y,kq,hc⟩:=d2 a2 b2 iw eB lb r2;refine⟨(a1,x),(a1,y),fun e=>kq (aE Prod.snd e),fun c=>?_⟩;constructor
 ·rintro⟨i1,i2,⟨u1,u2⟩,⟨v1,v2⟩,rc⟩;have e1:=h1.same im i1 u1 (h1.rn i1 im v1);have:=(hc c.2).1 ⟨i2,u2,v2,by rw [<-e1]at rc;omega⟩;rcases this with h | h
  ·left;rw [<-h,e1]
  right;rw [<-h,e1]
 rintro(rfl | rfl)
 ·obtain⟨i,u,v,rc⟩:=(hc x).2 (.inl rfl);exact⟨im,i,⟨h1.refl _,u⟩,⟨h1.refl _,v⟩,by show rk1 a1+rk2 x=_;omega⟩
 obtain⟨i,u,v,rc⟩:=(hc y).2 (.inr rfl);exact⟨im,i,⟨h1.refl _,u⟩,⟨h1.refl _,v⟩,by show rk1 a1+rk2 y=_;omega⟩
def ru(m1 m2:Nat)(kind:Int)(c:Int×Int):Prop:=(kind=1/\(c.1=0\/c.2=0))\/(kind=2/\(c.1=(m1:Int) - 1\/c.2=(m2:Int) - 1))
instance (m1 m2:Nat)(kind:Int)(c:Int×Int):Decidable (ru m1 m2 kind c):=by unfold ru;infer_instance
def fD(kind:Int):Int:=if kind=1 then 0 else 1
def dh(rk1 rk2:Int->Int)(kind:Int)(c:Int×Int):Int:=rk1 c.1+rk2 c.2+fD kind
def iM(n1 n2 kind:Int):Int:=if kind=0 then n1+n2+1 else n1+n2
def nq(m1 m2:Nat)(rk1 rk2:Int->Int)(kind:Int)(i:Int)(c:Int×Int):Prop:=(0<=c.1/\c.1<m1)/\(0<=c.2/\c.2<m2)/\dh rk1 rk2 kind c=i/\¬ru m1 m2 kind c
theorem alx(h1:gg m1 n1 rk1 di)(h2:gg m2 n2 rk2 db)(d1:xY m1 rk1 di)(d2:xY m2 rk2 db){kind:Int}(hk:0<=kind/\kind<=2){i:Int}(hi:0<=i)(ti:i<iM n1 n2 kind)(hn:2<=iM n1 n2 kind)
 (a b:Option (Int×Int)) (ha:match a with | none=>i=0 | some a=>0<i/\nq m1 m2 rk1 rk2 kind (i - 1) a) (hb:match b with | none=>i=iM n1 n2 kind - 1 | some b=>i<iM n1 n2 kind - 1/\nq m1 m2 rk1 rk2 kind (i+1) b)
 (eA:∀x∈a,∀y∈b,di x.1 y.1/\db x.2 y.2) (yL:1<=n1/\(1<=n2\/kind=0)):
 ∃x y:Int×Int,x≠y/\∀c:Int×Int,(nq m1 m2 rk1 rk2 kind i c/\(∀x∈a,di x.1 c.1/\db x.2 c.2)/\∀y∈b,di c.1 y.1/\db c.2 y.2)↔(c=x\/c=y):=by
 have z1:=h1.r0;have z2:=h2.r0;have t1:=h1.rt;have t2:=h2.rt;have w1:=h1.two;have w2:=h2.two;have m1n:=h1.n0;have m2n:=h2.n0;have main:∀a1 a2 b1 b2:Int,0<=a1/\a1<m1->0<=a2/\a2<m2->0<=b1/\b1<m1->0<=b2/\b2<m2->di a1 b1->db a2 b2->dh rk1 rk2 kind (a1,a2)=i - 1->dh rk1 rk2 kind (b1,b2)=i+1->
  (∀c1 c2:Int,0<=c1/\c1<m1->0<=c2/\c2<m2->di a1 c1->db a2 c2->di c1 b1->db c2 b2->dh rk1 rk2 kind (c1,c2)=i->¬ru m1 m2 kind (c1,c2))->
  ∃x y:Int×Int,x≠y/\∀c:Int×Int,(nq m1 m2 rk1 rk2 kind i c/\(di a1 c.1/\db a2 c.2)/\di c.1 b1/\db c.2 b2)↔(c=x\/c=y):=by
  intro a1 a2 b1 b2 im iw dE eB xA lb ra rb hex;unfold dh at ra rb hex;obtain⟨x,y,kq,hc⟩:=abc h1 h2 d1 d2 im iw dE eB xA lb (by simp only at ra rb;omega);refine⟨x,y,kq,fun c=>?_⟩;rw [<-hc c];unfold nq dh;simp only at ra rb;constructor
  ·rintro⟨⟨i1,i2,rc,_⟩,⟨u1,u2⟩,v1,v2⟩;exact⟨i1,i2,⟨u1,u2⟩,⟨v1,v2⟩,am⟩
  ·rintro⟨i1,i2,⟨u1,u2⟩,⟨v1,v2⟩,rc⟩;exact⟨⟨i1,i2,am,hex c.1 c.2 i1 i2 u1 u2 v1 v2 (by show rk1 c.1+rk2 c.2+fD kind=i;omega)⟩,⟨u1,u2⟩,v1,v2⟩
 have U9:∀c:Int×Int,(∀x∈a,di x.1 c.1/\db x.2 c.2)↔(di (a.getD (0,0)).1 c.1/\db (a.getD (0,0)).2 c.2):=fun c=>by
  cases a with
  | none=>simp [h1.bot,h2.bot]
  | some a=>simp
 have agW:∀c:Int×Int,(∀y∈b,di c.1 y.1/\db c.2 y.2)↔(di c.1 (b.getD ((m1:Int) - 1,(m2:Int) - 1)).1/\db c.2 (b.getD ((m1:Int) - 1,(m2:Int) - 1)).2):=fun c=>by
  cases b with
  | none=>simp [h1.top,h2.top]
  | some b=>simp
 have Vb:di (a.getD (0,0)).1 (b.getD ((m1:Int) - 1,(m2:Int) - 1)).1/\db (a.getD (0,0)).2 (b.getD ((m1:Int) - 1,(m2:Int) - 1)).2:=by
  cases a with
  | none=>exact⟨h1.bot _,h2.bot _⟩
  | some a=>
   cases b with
   | none=>exact⟨h1.top _,h2.top _⟩
   | some b=>exact eA a rfl b rfl
 have JO:(0<=(a.getD (0,0)).1/\(a.getD (0,0)).1<m1)/\(0<=(a.getD (0,0)).2/\(a.getD (0,0)).2<m2):=by
  cases a with
  | none=>simp only [Option.getD_none];omega
  | some a=>exact⟨ha.2.1,ha.2.2.1⟩
 have VR:(0<=(b.getD ((m1:Int) - 1,(m2:Int) - 1)).1/\(b.getD ((m1:Int) - 1,(m2:Int) - 1)).1<m1)/\(0<=(b.getD ((m1:Int) - 1,(m2:Int) - 1)).2/\(b.getD ((m1:Int) - 1,(m2:Int) - 1)).2<m2):=by
  cases b with
  | none=>simp only [Option.getD_none];omega
  | some b=>exact⟨hb.2.1,hb.2.2.1⟩
 have agE:kind=0->fD kind=1:=fun h=>by subst h;rfl
 have agF:kind=1->fD kind=0:=fun h=>by subst h;rfl
 have agG:kind=2->fD kind=1:=fun h=>by subst h;rfl
 have agy:kind=0->iM n1 n2 kind=n1+n2+1:=fun h=>by subst h;rfl
 have Vz:kind≠0->iM n1 n2 kind=n1+n2:=fun h=>by unfold iM;rw [if_neg h]
 have use:dh rk1 rk2 kind (a.getD (0,0))=i - 1->dh rk1 rk2 kind (b.getD ((m1:Int) - 1,(m2:Int) - 1))=i+1->
  (∀c1 c2:Int,0<=c1/\c1<m1->0<=c2/\c2<m2->di (a.getD (0,0)).1 c1->db (a.getD (0,0)).2 c2->di c1 (b.getD ((m1:Int) - 1,(m2:Int) - 1)).1->db c2 (b.getD ((m1:Int) - 1,(m2:Int) - 1)).2->dh rk1 rk2 kind (c1,c2)=i->¬ru m1 m2 kind (c1,c2))->
  ∃x y:Int×Int,x≠y/\∀c:Int×Int,(nq m1 m2 rk1 rk2 kind i c/\(∀x∈a,di x.1 c.1/\db x.2 c.2)/\∀y∈b,di c.1 y.1/\db c.2 y.2)↔(c=x\/c=y):=by
  intro ra rb hex;obtain⟨x,y,kq,hc⟩:=main _ _ _ _ JO.1 JO.2 VR.1 VR.2 Vb.1 Vb.2 ra rb hex;refine⟨x,y,kq,fun c=>?_⟩;rw [<-hc c,U9 c,agW c]
 rcases(show kind=0\/kind=1\/kind=2 by omega)with tm | fO | kX
 ·have s0:=agE tm;have r0:=agy tm;refine use ?_ ?_ ?_
  ·cases a with
   | none=>show rk1 0+rk2 0+fD kind=i - 1;have:i=0:=ha;omega
   | some a=>exact ha.2.2.2.1
  ·cases b with
   | none=>show rk1 ((m1:Int) - 1)+rk2 ((m2:Int) - 1)+fD kind=i+1;have:i=iM n1 n2 kind - 1:=hb;omega
   | some b=>exact hb.2.2.2.1
  ·intro c1 c2 _ _ _ _ _ _ _ he;unfold ru at he;omega
 ·have s1:=agF fO;have r1:=Vz (show kind≠0 by omega);cases a with
  | some a=>
   have bP:¬ru m1 m2 kind a:=ha.2.2.2.2;refine use ha.2.2.2.1 ?_ ?_
   ·cases b with
    | none=>show rk1 ((m1:Int) - 1)+rk2 ((m2:Int) - 1)+fD kind=i+1;have:i=iM n1 n2 kind - 1:=hb;omega
    | some b=>exact hb.2.2.2.1
   ·intro c1 c2 i1 i2 u1 u2 _ _ _ he;have u1:di a.1 c1:=u1;have u2:db a.2 c2:=u2;unfold ru at he bP;rcases he with⟨_,e | e⟩ | ⟨e,_⟩
    ·have e:c1=0:=e;subst e;have q1:=h1.rn ha.2.1 am u1;have q2:=h1.eE ha.2.1;have:=h1.zero ha.2.1 am;exact bP (.inl ⟨fO,.inl this⟩)
    ·have e:c2=0:=e;subst e;have q1:=h2.rn ha.2.2.1 am u2;have q2:=h2.eE ha.2.2.1;have:=h2.zero ha.2.2.1 am;exact bP (.inl ⟨fO,.inr this⟩)
    ·omega
  | none=>
   have fm:i=0:=ha;cases b with
   | none=>have:i=iM n1 n2 kind - 1:=hb;omega
   | some b=>
    obtain⟨_,dE,eB,rb,rV⟩:=hb;unfold dh at rb;have p1:b.1≠0:=fun e=>rV (.inl ⟨fO,.inl e⟩)
    have p2:b.2≠0:=fun e=>rV (.inl ⟨fO,.inr e⟩)
    have Xt:∀c,0<=c/\c< (m1:Int)->c≠0->0<=rk1 c:=fun c hc h0=>by
     have h3:=h1.eE hc;have h4:=h1.zero hc;omega
    have Xu:∀c,0<=c/\c< (m2:Int)->c≠0->0<=rk2 c:=fun c hc h0=>by
     have h3:=h2.eE hc;have h4:=h2.zero hc;omega
    have g1:=Xt b.1 dE p1;have g2:=Xu b.2 eB p2;have eqv:∀c:Int×Int,(nq m1 m2 rk1 rk2 kind i c/\(∀x∈(none:Option (Int×Int)),di x.1 c.1/\db x.2 c.2)/\∀y∈some b,di c.1 y.1/\db c.2 y.2)↔((0<=c.1/\c.1<m1)/\(0<=c.2/\c.2<m2)/\rk1 c.1=0/\rk2 c.2=0/\di c.1 b.1/\db c.2 b.2):=fun c=>by
     constructor
     ·rintro⟨⟨i1,i2,rc,xn⟩,_,hv⟩;have hv:=hv b O;unfold dh at rc;have f1:=Xt c.1 i1 fun e=>xn (.inl ⟨fO,.inl e⟩)
      have f2:=Xu c.2 i2 fun e=>xn (.inl ⟨fO,.inr e⟩)
      exact⟨i1,i2,am,am,hv.1,hv.2⟩
     ·rintro⟨i1,i2,f1,f2,v1,v2⟩;refine⟨⟨i1,i2,by unfold dh;omega,?_⟩,(fun x hx=>by cases hx),fun y hy=>by cases hy;exact⟨v1,v2⟩⟩;rintro(⟨_,e | e⟩ | ⟨e,_⟩)
      ·rw [e]at f1;omega
      ·rw [e]at f2;omega
      ·omega
    rcases(show(rk1 b.1=1/\rk2 b.2=0)\/(rk1 b.1=0/\rk2 b.2=1) by omega)with⟨e1,e2⟩ | ⟨e1,e2⟩
    ·obtain⟨x,y,kq,hc⟩:=d1 0 b.1 am dE (h1.bot _) am;refine⟨(x,b.2),(y,b.2),fun e=>kq (aE Prod.fst e),fun c=>?_⟩;rw [eqv c];constructor
     ·rintro⟨i1,i2,f1,f2,v1,v2⟩;have h3:=h2.same i2 eB v2 am;rcases(hc c.1).1 ⟨i1,h1.bot _,v1,am⟩with h | h
      ·left;rw [<-h,<-h3]
      ·right;rw [<-h,<-h3]
     ·rintro(rfl | rfl)
      ·obtain⟨i,u,v,rc⟩:=(hc x).2 (.inl rfl);exact⟨i,eB,by show rk1 x=0;omega,e2,v,h2.refl _⟩
      ·obtain⟨i,u,v,rc⟩:=(hc y).2 (.inr rfl);exact⟨i,eB,by show rk1 y=0;omega,e2,v,h2.refl _⟩
    ·obtain⟨x,y,kq,hc⟩:=d2 0 b.2 am eB (h2.bot _) am;refine⟨(b.1,x),(b.1,y),fun e=>kq (aE Prod.snd e),fun c=>?_⟩;rw [eqv c];constructor
     ·rintro⟨i1,i2,f1,f2,v1,v2⟩;have h3:=h1.same i1 dE v1 am;rcases(hc c.2).1 ⟨i2,h2.bot _,v2,am⟩with h | h
      ·left;rw [<-h,<-h3]
      ·right;rw [<-h,<-h3]
     ·rintro(rfl | rfl)
      ·obtain⟨i,u,v,rc⟩:=(hc x).2 (.inl rfl);exact⟨dE,i,e1,by show rk2 x=0;omega,h1.refl _,v⟩
      ·obtain⟨i,u,v,rc⟩:=(hc y).2 (.inr rfl);exact⟨dE,i,e1,by show rk2 y=0;omega,h1.refl _,v⟩
 ·have s2:=agG kX;have r2:=Vz (show kind≠0 by omega);have O3:∀c,0<=c/\c< (m1:Int)->c≠(m1:Int) - 1->rk1 c<=n1 - 1:=fun c hc h0=>by
   have h3:=h1.eE hc;have h4:=h1.whole hc;omega
  have O4:∀c,0<=c/\c< (m2:Int)->c≠(m2:Int) - 1->rk2 c<=n2 - 1:=fun c hc h0=>by
   have h3:=h2.eE hc;have h4:=h2.whole hc;omega
  cases b with
  | some b=>
   have bP:¬ru m1 m2 kind b:=hb.2.2.2.2;have g1:=O3 b.1 hb.2.1 fun e=>bP (.inr ⟨kX,.inl e⟩)
   have g2:=O4 b.2 hb.2.2.1 fun e=>bP (.inr ⟨kX,.inr e⟩)
   refine use ?_ hb.2.2.2.1 ?_
   ·cases a with
    | none=>show rk1 0+rk2 0+fD kind=i - 1;have:i=0:=ha;omega
    | some a=>exact ha.2.2.2.1
   ·intro c1 c2 i1 i2 _ _ v1 v2 _ he;have v1:di c1 b.1:=v1;have v2:db c2 b.2:=v2;have q1:=h1.rn i1 hb.2.1 v1;have q2:=h2.rn i2 hb.2.2.1 v2;unfold ru at he;rcases he with⟨e,_⟩ | ⟨_,e | e⟩
    ·omega
    ·have e:c1=(m1:Int) - 1:=e;rw [e]at q1;omega
    ·have e:c2=(m2:Int) - 1:=e;rw [e]at q2;omega
  | none=>
   have JI:i=iM n1 n2 kind - 1:=hb;cases a with
   | none=>have:i=0:=ha;omega
   | some a=>
    obtain⟨_,im,iw,ra,yr⟩:=ha;unfold dh at ra;have g1:=O3 a.1 im fun e=>yr (.inr ⟨kX,.inl e⟩)
    have g2:=O4 a.2 iw fun e=>yr (.inr ⟨kX,.inr e⟩)
    have eqv:∀c:Int×Int,(nq m1 m2 rk1 rk2 kind i c/\(∀x∈some a,di x.1 c.1/\db x.2 c.2)/\∀y∈(none:Option (Int×Int)),di c.1 y.1/\db c.2 y.2)↔((0<=c.1/\c.1<m1)/\(0<=c.2/\c.2<m2)/\rk1 c.1=n1 - 1/\rk2 c.2=n2 - 1/\di a.1 c.1/\db a.2 c.2):=fun c=>by
     constructor
     ·rintro⟨⟨i1,i2,rc,xn⟩,hu,_⟩;have hu:=hu a O;unfold dh at rc;have f1:=O3 c.1 i1 fun e=>xn (.inr ⟨kX,.inl e⟩)
      have f2:=O4 c.2 i2 fun e=>xn (.inr ⟨kX,.inr e⟩)
      exact⟨i1,i2,am,am,hu.1,hu.2⟩
     ·rintro⟨i1,i2,f1,f2,v1,v2⟩;refine⟨⟨i1,i2,by unfold dh;omega,?_⟩,(fun x hx=>by cases hx;exact⟨v1,v2⟩),fun y hy=>by cases hy⟩;rintro(⟨e,_⟩ | ⟨_,e | e⟩)
      ·omega
      ·rw [e]at f1;omega
      ·rw [e]at f2;omega
    rcases(show(rk1 a.1=n1 - 1/\rk2 a.2=n2 - 2)\/(rk1 a.1=n1 - 2/\rk2 a.2=n2 - 1) by omega)with⟨e1,e2⟩ | ⟨e1,e2⟩
    ·obtain⟨x,y,kq,hc⟩:=d2 a.2 ((m2:Int) - 1) iw am (h2.top _) am;refine⟨(a.1,x),(a.1,y),fun e=>kq (aE Prod.snd e),fun c=>?_⟩;rw [eqv c];constructor
     ·rintro⟨i1,i2,f1,f2,v1,v2⟩;have h3:=h1.same im i1 v1 am;rcases(hc c.2).1 ⟨i2,v2,h2.top _,am⟩with h | h
      ·left;rw [<-h,h3]
      ·right;rw [<-h,h3]
     ·rintro(rfl | rfl)
      ·obtain⟨i,u,v,rc⟩:=(hc x).2 (.inl rfl);exact⟨im,i,e1,by show rk2 x=n2 - 1;omega,h1.refl _,u⟩
      ·obtain⟨i,u,v,rc⟩:=(hc y).2 (.inr rfl);exact⟨im,i,e1,by show rk2 y=n2 - 1;omega,h1.refl _,u⟩
    ·obtain⟨x,y,kq,hc⟩:=d1 a.1 ((m1:Int) - 1) im am (h1.top _) am;refine⟨(x,a.2),(y,a.2),fun e=>kq (aE Prod.fst e),fun c=>?_⟩;rw [eqv c];constructor
     ·rintro⟨i1,i2,f1,f2,v1,v2⟩;have h3:=h2.same iw i2 v2 am;rcases(hc c.1).1 ⟨i1,v1,h1.top _,am⟩with h | h
      ·left;rw [<-h,h3]
      ·right;rw [<-h,h3]
     ·rintro(rfl | rfl)
      ·obtain⟨i,u,v,rc⟩:=(hc x).2 (.inl rfl);exact⟨i,iw,by show rk1 x=n1 - 1;omega,e2,u,h2.refl _⟩
      ·obtain⟨i,u,v,rc⟩:=(hc y).2 (.inr rfl);exact⟨i,iw,by show rk1 y=n1 - 1;omega,e2,u,h2.refl _⟩
end
def ik(n:Int)(R:ai):ai:= -1::(R++ [n])
def eM(N:Nat)(B:ah)(a b:Int):Prop:=a=b\/a=0\/b=(N:Int)+1\/(0<a/\a< (N:Int)+1/\0<b/\b< (N:Int)+1/\a - 1∈gl B (b - 1))
instance (N:Nat)(B:ah)(a b:Int):Decidable (eM N B a b):=by unfold eM;infer_instance
theorem SX(n:Int)(R:ai):(ik n R).length=R.length+2:=by simp [ik]
theorem zN(n:Int)(R:ai){a:Int}(h0:0<a)(h1:a< (R.length:Int)+1):gi (ik n R) a=gi R (a - 1):=by
 obtain⟨k,rfl⟩:∃k:Nat,a=((k+1:Nat):Int):=⟨(a - 1).toNat,am⟩;rw [ik,DT,show((k+1:Nat):Int) - 1=(k:Int) by omega];simp only [gi,jq,dm];rw [ma (by omega)]
theorem FK(n:Int)(R:ai):gi (ik n R) ((R.length:Int)+1)=n:=by
 rw [show((R.length:Int)+1)=((R.length+1:Nat):Int) by omega,ik,DT];simp [gi,dm]
theorem G3{n:Int}{R:ai}{B:ah}(h:gL n R B):gg (R.length+2) n (gi (ik n R)) (eM R.length B):=by
 have hn:=h.n1;have ht:=FK n R;have et:((R.length+2:Nat):Int) - 1=(R.length:Int)+1:=by omega
 have qq:∀a:Int,0<a->a< (R.length:Int)+1->0<=gi (ik n R) a/\gi (ik n R) a<=n - 1:=fun a h0 h1=>by
  rw [zN n R h0 h1];exact h.ri am am
 have h0:gi (ik n R) 0= -1:=O;refine⟨am,h0,by rw [et];exact ht,fun a ha hb=>qq a ha am,fun a=> .inl O,fun a b c ha hb hc eA yz=>?_,fun a b ha hb eA bP=>?_,fun b=> .inr (.inl O),fun a=> .inr (.inr (.inl et)),am⟩
 ·rcases eA with rfl | e | e | ⟨a0,a1,b0,b1,hm⟩
  ·exact yz
  ·exact .inr (.inl e)
  ·rcases yz with rfl | e2 | e2 | ⟨b0,b1,_⟩
   ·exact .inr (.inr (.inl e))
   ·omega
   ·exact .inr (.inr (.inl e2))
   omega
  rcases yz with rfl | e2 | e2 | ⟨_,_,c0,c1,ud⟩
  ·exact .inr (.inr (.inr ⟨a0,a1,b0,b1,hm⟩))
  ·omega
  ·exact .inr (.inr (.inl e2))
  exact .inr (.inr (.inr ⟨a0,a1,c0,c1,(h.at_ (e:=c - 1) am am).2.2 _ ud _ hm⟩))
 rcases eA with e | e | e | ⟨a0,a1,b0,b1,hm⟩
 ·exact absurd e bP
 ·subst e;rw [h0]
  by_cases e2:b=(R.length:Int)+1
  ·subst e2;omega
  have:=qq b am am;omega
 ·subst e;rw [ht]
  by_cases e2:a=0
  ·subst e2;omega
  have:=qq a am am;omega
 rw [zN n R a0 a1,zN n R b0 b1];exact((h.at_ (e:=b - 1) am am).2.1 _ hm).2
def zB(R:ai)(i e:Int):Prop:=(e= -1/\i=0)\/((0<=e/\e<R.length)/\0<i/\gi R e=i - 1)
def zA(n:Int)(R:ai)(i f:Int):Prop:=(f= -1/\i=n - 1)\/((0<=f/\f<R.length)/\i<n - 1/\gi R f=i+1)
def nN(R:ai)(B:ah)(i e f:Int):ai:=(bY R.length).filter fun d=>decide (gi R d=i/\(e<0\/e∈gl B d)/\(f<0\/d∈gl B f))
def wJ(n:Int)(R:ai)(B:ah):Prop:=∀i e f:Int,0<=i->i<n->zB R i e->zA n R i f->(0<=e->0<=f->e∈gl B f)->(nN R B i e f).length=2
theorem Bv{R:ai}{B:ah}{i e f d:Int}:d∈nN R B i e f↔(0<=d/\d<R.length)/\gi R d=i/\(e<0\/e∈gl B d)/\(f<0\/d∈gl B f):=by
 unfold nN;rw [gy,ky,kB]
theorem YP{l:ai}(hn:l.Nodup)(h:l.length=2):∃x y,x≠y/\∀c,c∈l↔(c=x\/c=y):=by
 match l,h with
 | [x,y],_=>exact⟨x,y,by simpa using hn,fun c=>by simp⟩
theorem Fk(R:ai)(B:ah)(i e f:Int):(nN R B i e f).Nodup:=((mM _).nodup).filter _
theorem Is{n:Int}{R:ai}{B:ah}(h:gL n R B)(hd:wJ n R B):xY (R.length+2) (gi (ik n R)) (eM R.length B):=by
 have L:=G3 h;have ht:=FK n R;have h0:gi (ik n R) 0= -1:=O;have qq:∀a:Int,0<a->a< (R.length:Int)+1->(0<=gi (ik n R) a/\gi (ik n R) a<=n - 1)/\gi (ik n R) a=gi R (a - 1):=fun a h0 h1=>by
  have e:=zN n R h0 h1;refine⟨?_,e⟩;rw [e];exact h.ri am am
 intro a b ha hb hu hr;have ra:=L.eE ha;have rb:=L.eE hb;have hn:=h.n1;have Gh:a≠(R.length:Int)+1:=fun e=>by rw [e,ht]at hr;omega
 have fL:b≠0:=fun e=>by rw [e,h0]at hr;omega
 have fo:zB R (gi (ik n R) a+1) (a - 1):=by
  by_cases e:a=0
  ·subst e;exact .inl ⟨rfl,by rw [h0];rfl⟩
  have:=qq a am am;exact .inr ⟨am,am,am⟩
 have dv:zA n R (gi (ik n R) a+1) (if b=(R.length:Int)+1 then -1 else b - 1):=by
  by_cases e:b=(R.length:Int)+1
  ·rw [aB e];rw [e,ht]at hr;exact .inl ⟨rfl,am⟩
  rw [az e];have:=qq b am am;exact .inr ⟨am,am,am⟩
 have eA:0<=a - 1->0<=(if b=(R.length:Int)+1 then -1 else b - 1)->a - 1∈gl B (if b=(R.length:Int)+1 then -1 else b - 1):=fun h1 h2=>by
  by_cases e:b=(R.length:Int)+1
  ·rw [aB e]at h2;omega
  rw [az e];rcases hu with e2 | e2 | e2 | ⟨_,_,_,_,hm⟩
  ·rw [e2]at hr;omega
  ·omega
  ·exact absurd e2 e
  exact hm
 have h2:=hd _ _ _ am am fo dv eA;obtain⟨x,y,kq,hc⟩:=YP (Fk _ _ _ _ _) h2;refine⟨x+1,y+1,am,fun c=>?_⟩;have e1:(c=x+1\/c=y+1)↔(c - 1=x\/c - 1=y):=by omega
 rw [e1,<-hc (c - 1),Bv];constructor
 ·rintro⟨Nw,u1,u2,rc⟩;have c0:c≠0:=fun e=>by rw [e,h0]at rc;omega
  have ct:c≠(R.length:Int)+1:=fun e=>by rw [e,ht]at rc;omega
  have hm:=qq c am am;refine⟨am,am,?_,?_⟩
  ·rcases u1 with e | e | e | ⟨_,_,_,_,h9⟩
   ·rw [e]at rc;omega
   ·left;omega
   ·exact absurd e ct
   exact .inr h9
  by_cases e:b=(R.length:Int)+1
  ·left;rw [aB e];omega
  rw [az e];rcases u2 with e2 | e2 | e2 | ⟨_,_,_,_,h9⟩
  ·rw [e2]at rc;omega
  ·exact absurd e2 c0
  ·exact absurd e2 e
  exact .inr h9
 rintro⟨Nw,rc,u1,u2⟩;have hm:=qq c am am;refine⟨am,?_,?_,am⟩
 ·rcases u1 with e | e
  ·exact .inr (.inl am)
  have:0<a:=by
   refine Int.not_le.1 fun hle=>?_
   have:=((h.at_ (e:=c - 1) am am).2.1 _ e).1.1;omega
  exact .inr (.inr (.inr ⟨this,am,am,am,e⟩))
 by_cases e:b=(R.length:Int)+1
 ·exact .inr (.inr (.inl e))
 rw [az e]at u2;rcases u2 with e2 | e2
 ·omega
 exact .inr (.inr (.inr ⟨am,am,am,am,e2⟩))
section
variable (m1 m2:Nat) (rk1 rk2:Int->Int) (kind:Int)
def CR(i:Int):List (Int×Int):=(bY m1).flatMap fun a=> ((bY m2).filter fun b=>decide (dh rk1 rk2 kind (a,b)=i/\¬ru m1 m2 kind (a,b))).map fun b=> (a,b)
def cK:Nat->List (Int×Int)
 | 0=> []
 | k+1=>cK k++CR m1 m2 rk1 rk2 kind (k:Int)
end
section
variable {m1 m2:Nat} {rk1 rk2:Int->Int} {kind:Int}
theorem Bf{i:Int}{c:Int×Int}:c∈CR m1 m2 rk1 rk2 kind i↔nq m1 m2 rk1 rk2 kind i c:=by
 unfold CR nq;rw [List.mem_flatMap];constructor
 ·rintro⟨a,ha,h⟩;obtain⟨b,hb,rfl⟩:=dF.1 h;rw [gy,ky,kB]at hb;exact⟨(ky _ _).1 ha,hb.1,hb.2⟩
 rintro⟨h1,h2,h3⟩;exact⟨c.1,(ky _ _).2 h1,dF.2 ⟨c.2,gy.2 ⟨(ky _ _).2 h2,dz h3⟩,O⟩⟩
theorem alq(i:Int):(CR m1 m2 rk1 rk2 kind i).Nodup:=by
 unfold CR;refine List.pairwise_flatMap.2 ⟨fun a _=>oD.2 (((mM m2).nodup.filter _).imp fun h e=>h (aE Prod.snd e)),(mM m1).nodup.imp fun h x hx y hy e=>h ?_⟩;obtain⟨u,_,rfl⟩:=dF.1 hx;obtain⟨v,_,rfl⟩:=dF.1 hy;exact aE Prod.fst e
theorem ux{k:Nat}{c:Int×Int}:c∈cK m1 m2 rk1 rk2 kind k↔∃i:Nat,i<k/\nq m1 m2 rk1 rk2 kind i c:=by
 induction k with
 | zero=>simp [cK]
 | succ k ih=>
  rw [cK,jd,ih,Bf];constructor
  ·rintro(⟨i,hi,h⟩ | h)
   ·exact⟨i,am,h⟩
   ·exact⟨k,am,h⟩
  ·rintro⟨i,hi,h⟩
   by_cases e:i=k
   ·subst e;exact .inr h
   ·exact .inl ⟨i,am,h⟩
theorem Hk(k:Nat):(cK m1 m2 rk1 rk2 kind k).Nodup:=by
 induction k with
 | zero=>exact List.nodup_nil
 | succ k ih=>
  rw [cK,List.nodup_append];refine⟨ih,alq _,fun a ha b hb e=>?_⟩;subst e;obtain⟨i,hi,h⟩:=ux.1 ha;have h2:=Bf.1 hb;have:=h.2.2.1.symm.trans h2.2.2.1;omega
theorem Xy(k:Nat):tG ((cK m1 m2 rk1 rk2 kind k).map (dh rk1 rk2 kind)):=by
 induction k with
 | zero=>exact List.Pairwise.nil
 | succ k ih=>
  rw [cK,iI,tG,List.pairwise_append];refine⟨ih,oD.2 (List.pairwise_of_forall_mem_list fun a ha b hb=>?_),fun x hx y hy=>?_⟩
  ·rw [(Bf.1 ha).2.2.1,(Bf.1 hb).2.2.1];exact Int.le_refl _
  ·obtain⟨a,ha,rfl⟩:=dF.1 hx;obtain⟨b,hb,rfl⟩:=dF.1 hy;obtain⟨i,hi,h⟩:=ux.1 ha;rw [h.2.2.1,(Bf.1 hb).2.2.1];omega
end
def gp(L:List (Int×Int))(i:Int):Int×Int:=L.getD i.toNat (0,0)
theorem uV{L:List (Int×Int)}{k:Nat}(h:k<L.length):gp L k=L[k]:=by simp [gp,dm,h]
def uw(di db:Int->Int->Prop)[DecidableRel di][DecidableRel db](L:List (Int×Int))(e:Int):ai:=(bY L.length).filter fun f=>decide (f<e/\di (gp L f).1 (gp L e).1/\db (gp L f).2 (gp L e).2)
def nH(di db:Int->Int->Prop)[DecidableRel di][DecidableRel db](L:List (Int×Int)):ah:=(bY L.length).map (uw di db L)
section
variable{d:Int}{k i:Nat}
variable {m1 m2:Nat} {n1 n2:Int} {rk1 rk2:Int->Int} {di db:Int->Int->Prop} [DecidableRel di] [DecidableRel db] {kind:Int}
theorem xM{L:List (Int×Int)}{e:Int}(h0:0<=e)(h1:e<L.length):gl (nH di db L) e=uw di db L e:=by
 obtain⟨k,rfl⟩:∃k:Nat,e=k:=⟨e.toNat,am⟩;rw [bR (by simp [nH,bY];omega)];unfold nH;rw [List.getElem_map]
 congr 1
 simp [bY]
theorem CS{L:List (Int×Int)}{e:Int}(h0:0<=e)(h1:e<L.length):gi (L.map (dh rk1 rk2 kind)) e=dh rk1 rk2 kind (gp L e):=by
 obtain⟨k,rfl⟩:∃k:Nat,e=k:=⟨e.toNat,am⟩;rw [bV (by simp;omega),uV (by omega)];simp
theorem wv(h1:gg m1 n1 rk1 di)(h2:gg m2 n2 rk2 db){e:Int}(he:0<=e/\e< (cK m1 m2 rk1 rk2 kind k).length):d∈uw di db (cK m1 m2 rk1 rk2 kind k) e↔(0<=d/\d< (cK m1 m2 rk1 rk2 kind k).length)/\d≠e/\di (gp (cK m1 m2 rk1 rk2 kind k) d).1 (gp (cK m1 m2 rk1 rk2 kind k) e).1/\db (gp (cK m1 m2 rk1 rk2 kind k) d).2 (gp (cK m1 m2 rk1 rk2 kind k) e).2:=by
 unfold uw;rw [gy,ky,kB];constructor
 ·rintro⟨hd,fG,hu⟩;exact⟨hd,am,hu⟩
 rintro⟨hd,bP,hu⟩;refine⟨hd,?_,hu⟩;obtain⟨i,rfl⟩:∃i:Nat,d=i:=⟨d.toNat,am⟩;obtain⟨j,rfl⟩:∃j:Nat,e=j:=⟨e.toNat,am⟩;refine Int.not_le.1 fun hle=>?_
 have ha:=Xy (m1:=m1) (m2:=m2) (rk1:=rk1) (rk2:=rk2) (kind:=kind) k;have h3:=ha.le (i:=j) (j:=i) am (by simp;omega);rw [CS (by omega) he.2,CS (by omega) hd.2]at h3;have mi:=uV (L:=cK m1 m2 rk1 rk2 kind k) (k:=i) am;have mj:=uV (L:=cK m1 m2 rk1 rk2 kind k) (k:=j) am;obtain⟨a,_,ea⟩:=ux.1 (mi▸dK _:gp (cK m1 m2 rk1 rk2 kind k) i∈cK m1 m2 rk1 rk2 kind k);obtain⟨b,_,eb⟩:=ux.1 (mj▸dK _:gp (cK m1 m2 rk1 rk2 kind k) j∈cK m1 m2 rk1 rk2 kind k);have q1:=h1.rn ea.1 eb.1 hu.1;have q2:=h2.rn ea.2.1 eb.2.1 hu.2;unfold dh at h3;have e1:=h1.same ea.1 eb.1 hu.1 am;have e2:=h2.same ea.2.1 eb.2.1 hu.2 am;have e3:gp (cK m1 m2 rk1 rk2 kind k) i=gp (cK m1 m2 rk1 rk2 kind k) j:=Prod.ext e1 e2;rw [mi,mj]at e3;have:=(List.getElem_inj (Hk k)).1 e3;omega
theorem xh{e:Int}(he:0<=e/\e< (cK m1 m2 rk1 rk2 kind k).length):∃i:Nat,i<k/\nq m1 m2 rk1 rk2 kind i (gp (cK m1 m2 rk1 rk2 kind k) e)/\gi ((cK m1 m2 rk1 rk2 kind k).map (dh rk1 rk2 kind)) e=i:=by
 obtain⟨j,rfl⟩:∃j:Nat,e=j:=⟨e.toNat,am⟩;have mj:=uV (L:=cK m1 m2 rk1 rk2 kind k) (k:=j) am;obtain⟨i,hi,h⟩:=ux.1 (mj▸dK _:gp (cK m1 m2 rk1 rk2 kind k) j∈cK m1 m2 rk1 rk2 kind k);exact⟨i,hi,h,by rw [CS (by omega) (by omega)];exact h.2.2.1⟩
theorem Mb{c:Int×Int}(hi:i<k)(h:nq m1 m2 rk1 rk2 kind i c):∃e:Int,(0<=e/\e< (cK m1 m2 rk1 rk2 kind k).length)/\gp (cK m1 m2 rk1 rk2 kind k) e=c:=by
 obtain⟨j,hj,e⟩:=gC.1 (ux.2 ⟨i,hi,h⟩);exact⟨j,am,by rw [uV hj];exact e⟩
theorem IX{e:Int}(hd:0<=d/\d< (cK m1 m2 rk1 rk2 kind k).length)(he:0<=e/\e< (cK m1 m2 rk1 rk2 kind k).length)(h:gp (cK m1 m2 rk1 rk2 kind k) d=gp (cK m1 m2 rk1 rk2 kind k) e):d=e:=by
 obtain⟨i,rfl⟩:∃i:Nat,d=i:=⟨d.toNat,am⟩;obtain⟨j,rfl⟩:∃j:Nat,e=j:=⟨e.toNat,am⟩;rw [uV (by omega),uV (by omega)]at h;have:=(List.getElem_inj (Hk k)).1 h;omega
theorem alv(h1:gg m1 n1 rk1 di)(h2:gg m2 n2 rk2 db)(hk:1<=k/\k<=5)(hb:(cK m1 m2 rk1 rk2 kind k).length<=500):gL k ((cK m1 m2 rk1 rk2 kind k).map (dh rk1 rk2 kind)) (nH di db (cK m1 m2 rk1 rk2 kind k)):=by
 have hl:((cK m1 m2 rk1 rk2 kind k).map (dh rk1 rk2 kind)).length=(cK m1 m2 rk1 rk2 kind k).length:=by simp
 refine⟨am,by rw [hl];exact hb,by simp [nH,bY],fun x hx=>?_,Xy k,fun e he=>?_,fun e he d hd c hc=>?_⟩
 ·obtain⟨c,hc,rfl⟩:=dF.1 hx;obtain⟨i,hi,h⟩:=ux.1 hc;rw [h.2.2.1];omega
 ·rw [hl]at he;rw [xM (by omega) (by omega)];refine⟨qb _ (mM _),fun d hd=>?_⟩;have hm:=(wv h1 h2 am).1 hd;refine⟨by rw [hl];exact hm.1,?_⟩;have fG:d< (e:Int):=by
   unfold uw at hd;rw [gy,kB]at hd;exact hd.2.1
  obtain⟨i,_,ei,ri⟩:=xh (m1:=m1) (m2:=m2) (rk1:=rk1) (rk2:=rk2) (kind:=kind) (k:=k) (e:=d) hm.1;obtain⟨j,_,ej,rj⟩:=xh (m1:=m1) (m2:=m2) (rk1:=rk1) (rk2:=rk2) (kind:=kind) (k:=k) (e:=(e:Int)) am;rw [CS hm.1.1 hm.1.2,CS (by omega) (by omega)];have q1:=h1.rn ei.1 ej.1 hm.2.2.1;have q2:=h2.rn ei.2.1 ej.2.1 hm.2.2.2;unfold dh;refine Int.not_le.1 fun hle=>hm.2.1 (IX hm.1 am (Prod.ext (h1.same ei.1 ej.1 hm.2.2.1 am) (h2.same ei.2.1 ej.2.1 hm.2.2.2 am)))
 rw [hl]at he;rw [xM (by omega) (by omega)]at hd|-;have mU:=(wv h1 h2 am).1 hd;rw [xM mU.1.1 mU.1.2]at hc;have oW:=(wv h1 h2 mU.1).1 hc;have l1:d< (e:Int):=by unfold uw at hd;rw [List.mem_filter,decide_eq_true_eq]at hd;exact hd.2.1
 have l2:c<d:=by unfold uw at hc;rw [List.mem_filter,decide_eq_true_eq]at hc;exact hc.2.1
 obtain⟨_,_,ec,_⟩:=xh (m1:=m1) (m2:=m2) (rk1:=rk1) (rk2:=rk2) (kind:=kind) (k:=k) (e:=c) oW.1;obtain⟨_,_,ed,_⟩:=xh (m1:=m1) (m2:=m2) (rk1:=rk1) (rk2:=rk2) (kind:=kind) (k:=k) (e:=d) mU.1;obtain⟨_,_,ee,_⟩:=xh (m1:=m1) (m2:=m2) (rk1:=rk1) (rk2:=rk2) (kind:=kind) (k:=k) (e:=(e:Int)) am;exact(wv h1 h2 am).2 ⟨oW.1,am,h1.trans _ _ _ ec.1 ed.1 ee.1 oW.2.2.1 mU.2.2.1,h2.trans _ _ _ ec.2.1 ed.2.1 ee.2.1 oW.2.2.2 mU.2.2.2⟩
theorem XB(h1:gg m1 n1 rk1 di)(h2:gg m2 n2 rk2 db)(d1:xY m1 rk1 di)(d2:xY m2 rk2 db)(o3:0<=kind/\kind<=2)(hk:(k:Int)=iM n1 n2 kind)(kX:2<=k)(yL:1<=n1/\(1<=n2\/kind=0)):wJ k ((cK m1 m2 rk1 rk2 kind k).map (dh rk1 rk2 kind)) (nH di db (cK m1 m2 rk1 rk2 kind k)):=by
 have hl:((cK m1 m2 rk1 rk2 kind k).map (dh rk1 rk2 kind)).length=(cK m1 m2 rk1 rk2 kind k).length:=by simp
 intro i e f fm mm he hf NC;have ND:∀x:Int,0<=x/\x< (cK m1 m2 rk1 rk2 kind k).length->nq m1 m2 rk1 rk2 kind (gi ((cK m1 m2 rk1 rk2 kind k).map (dh rk1 rk2 kind)) x) (gp (cK m1 m2 rk1 rk2 kind k) x):=fun x hx=>by
  obtain⟨j,_,h,r⟩:=xh hx;rw [r];exact h
 generalize hL:cK m1 m2 rk1 rk2 kind k=L at*;obtain⟨x,y,kq,hc⟩:=alx h1 h2 d1 d2 o3 (i:=i) fm am am (if e<0 then none else some (gp L e)) (if f<0 then none else some (gp L f)) (by
  rcases he with⟨h,h'⟩ | ⟨h,h',yl⟩
  ·rw [aB (by omega)];exact h'
  rw [hl]at h;rw [az (by omega)];exact⟨h',by rw [<-yl];exact ND e h⟩)
  (by
    rcases hf with⟨h,h'⟩ | ⟨h,h',yl⟩
    ·rw [aB (by omega)];show i=iM n1 n2 kind - 1;omega
    rw [hl]at h;rw [az (by omega)];exact⟨am,by rw [<-yl];exact ND f h⟩)
  (by
    intro a ha b hb
    by_cases e0:e<0
    ·rw [aB e0]at ha;cases ha
    by_cases f0:f<0
    ·rw [aB f0]at hb;cases hb
    rw [az e0]at ha;rw [az f0]at hb;cases ha;cases hb;have o0:0<=f/\f<L.length:=by
     rcases hf with⟨h,_⟩ | ⟨h,_⟩
     ·omega
     rw [hl]at h;exact h
    have h9:=NC am am;rw [xM o0.1 o0.2]at h9;subst hL;exact((wv h1 h2 o0).1 h9).2.2)
  yL
 have US:∀c,nq m1 m2 rk1 rk2 kind i c->∃d:Int,(0<=d/\d<L.length)/\gp L d=c:=fun c hcE=>by
  subst hL;exact Mb (i:=i.toNat) am (by rw [Int.toNat_of_nonneg fm];exact hcE)
 have lC:∀d:Int,d∈nN (L.map (dh rk1 rk2 kind)) (nH di db L) i e f↔(0<=d/\d<L.length)/\(gp L d=x\/gp L d=y):=fun d=>by
  rw [Bv,hl];constructor
  ·rintro⟨hd,rd,u,v⟩;refine⟨hd,(hc _).1 ⟨by rw [<-rd];exact ND d hd,fun a ha=>?_,fun b hb=>?_⟩⟩
   ·by_cases e0:e<0
    ·rw [aB e0]at ha;cases ha
    rw [az e0]at ha;cases ha;have h9:=u.resolve_left e0;rw [xM hd.1 hd.2]at h9;subst hL;exact((wv h1 h2 hd).1 h9).2.2
   by_cases f0:f<0
   ·rw [aB f0]at hb;cases hb
   rw [az f0]at hb;cases hb;have o0:0<=f/\f<L.length:=by
    rcases hf with⟨h,_⟩ | ⟨h,_⟩
    ·omega
    rw [hl]at h;exact h
   have h9:=v.resolve_left f0;rw [xM o0.1 o0.2]at h9;subst hL;exact((wv h1 h2 o0).1 h9).2.2
  rintro⟨hd,ag6⟩;obtain⟨hE,ha,hb⟩:=(hc _).2 ag6;have rd:gi (L.map (dh rk1 rk2 kind)) d=i:=by rw [CS hd.1 hd.2];exact hE.2.2.1
  refine⟨hd,rd,?_,?_⟩
  ·by_cases e0:e<0
   ·exact .inl e0
   right;have h9:=ha (gp L e) (by rw [az e0];rfl);have NH:(0<=e/\e<L.length)/\gi (L.map (dh rk1 rk2 kind)) e=i - 1:=by
    rcases he with⟨h,_⟩ | ⟨h,_,yl⟩
    ·omega
    rw [hl]at h;exact⟨h,yl⟩
   rw [xM hd.1 hd.2];subst hL;exact(wv h1 h2 hd).2 ⟨NH.1,fun h=>by rw [h,rd]at NH;omega,h9⟩
  by_cases f0:f<0
  ·exact .inl f0
  right;have h9:=hb (gp L f) (by rw [az f0];rfl);have o0:(0<=f/\f<L.length)/\gi (L.map (dh rk1 rk2 kind)) f=i+1:=by
   rcases hf with⟨h,_⟩ | ⟨h,_,yl⟩
   ·omega
   rw [hl]at h;exact⟨h,yl⟩
  rw [xM o0.1.1 o0.1.2];subst hL;exact(wv h1 h2 o0.1).2 ⟨hd,fun h=>by rw [<-h,rd]at o0;omega,h9⟩
 obtain⟨dx,UA,ex⟩:=US x ((hc x).2 (.inl rfl)).1;obtain⟨dy,UB,ey⟩:=US y ((hc y).2 (.inr rfl)).1;have bP:dx≠dy:=fun h=>kq (by rw [<-ex,<-ey,h])
 have hp:(nN (L.map (dh rk1 rk2 kind)) (nH di db L) i e f).Perm [dx,dy]:=by
  refine(wM (Fk _ _ _ _ _) (by simpa using bP)).2 fun d=>?_
  rw [lC d];simp only [iX,List.not_mem_nil,or_false];constructor
  ·rintro⟨hd,h | h⟩
   ·left;subst hL;exact IX hd UA (h.trans ex.symm)
   right;subst hL;exact IX hd UB (h.trans ey.symm)
  rintro(rfl | rfl)
  ·exact⟨UA,.inl ex⟩
  exact⟨UB,.inr ey⟩
 rw [hp.length_eq];rfl
end
end Go.Proofs.YtkccgdhcpplblaaGreatDoor.Vc
namespace Go.Proofs.YtkccgdhcpplblaaGreatDoor.Vc
open Go.RowKit Tryz
structure CV where
 s:aO
 v:Int
section
variable {w0 w:aa} {ks:List Ck} {i:Nat} {t:ae} {A:aj} {k q:Nat} {cs:List CV}
theorem St.RA(h:St w0 w ks)(cs:List ad)(e:ae)(n c:Nat)(hn:n<=c)(hc:c<=cs.length)(hm:c<=maxLen)(hM:eU cs=false):St w0 (w.alloc (.cells cs.toArray e)) (⟨some ⟨w.heap.size,0,Option.none⟩,n,c,e,cs.take n⟩::ks):=by
 have hb:Below w.heap.size w (w.alloc (.cells cs.toArray e)):=(Below.refl _ _).alloc (br _) _;have h1:=h.aq hb;refine⟨h1.below,fun k hk=>?_,?_⟩
 ·rcases iX.1 hk with rfl | hk
  ·refine .q9 (V9 n hM) ⟨by simp;omega,hn,hm,.inr ⟨_,0,cs.toArray,O,h.below.size,heap_alloc_new w _,by simp;omega,fun j hj=>?_⟩⟩;have hj:j<n:=hj;simp [rz,hj]
  exact h1.own k hk
 simp only [List.filterMap_cons,Ck.ij,Option.map_some,mf];refine⟨fun cI=>?_,h.apart⟩;obtain⟨k',eI,qp⟩:=List.mem_filterMap.1 cI;have:=((h.own k' eI).lt qp).2;omega
theorem PD{α:Type}:∀(l:List α) (i:Nat) (x y:α),l[i]?=some y->(x::l).Perm (y::l.set i x)
 | [],i,x,y,h=>by simp at h
 | u::l,0,x,y,h=>by simp at h;subst h;exact List.Perm.swap _ _ _
 | u::l,i+1,x,y,h=>by
  simp only [List.getElem?_cons_succ]at h;simp only [List.set_cons_succ];exact(List.Perm.swap _ _ _).trans (((PD l i x y h).cons u).trans (List.Perm.swap _ _ _))
theorem Y9{z z0 z1:ad}(hz:z.cells= #[z0,z1])(m:Nat):(Builtin.zeroCells z.cells m).toList.length=2*m:=by
 rw [hz];simp [Builtin.zeroCells];omega
end
section
variable {P:Program} {N:Nat} {ops:Array Oper} {K:Env->aa->Prop} {rest:List Oper} {e:Env} {w0 w w':aa} {ks:List Ck} {d:Nat} {ty:ae} {pos:String} {af:Array Edge}
end
structure TV where
 f:Int
 g:Int
 r:Int
def TV.cs(x:TV):List ad:=[ak x.f,ak x.g,ak x.r]
def TV.v(x:TV):ad:= .agg #[ak x.f,ak x.g,ak x.r]
def QC:TV:=⟨0,0,0⟩
def tg(l:List TV)(i:Int):TV:=l.getD i.toNat QC
def fW:List TV->List ad
 | []=> []
 | x::r=> .int .i64 x.f:: .int .i64 x.g:: .int .i64 x.r::fW r
theorem FO:∀l:List TV,(fW l).length=3*l.length
 | []=>rfl
 | x::r=>by
  simp only [fW,List.length_cons];rw [FO r];omega
theorem Mk:∀a b:List TV,fW (a++b)=fW a++fW b
 | [],_=>rfl
 | x::r,b=>by
  simp only [List.cons_append,fW];rw [Mk r b]
theorem S8:∀ {l:List TV} {i:Nat} (h:i<l.length),(fW l)[3*i]?=some (ak l[i].f)/\(fW l)[3*i+1]?=some (ak l[i].g)/\(fW l)[3*i+2]?=some (ak l[i].r)
 | x::r,0,_=> ⟨rfl,rfl,rfl⟩
 | x::r,i+1,h=>by
  have:=S8 (l:=r) (i:=i) (by simpa using h);simp only [fW,List.getElem_cons_succ];rw [show 3* (i+1)=3*i+1+1+1 by omega];simpa using this
theorem Ta:∀(l:List TV) (i:Nat),(fW l).take (3*i)=fW (l.take i)
 | [],i=>by simp [fW]
 | x::r,0=>rfl
 | x::r,i+1=>by
  rw [show 3* (i+1)=3*i+1+1+1 by omega];simp only [fW,List.take_succ_cons];rw [Ta r i]
theorem S9:∀ {l:List TV} {i:Nat} (_:i<l.length) (v:TV),tC (fW l) (3*i) v.cs=fW (l.set i v)
 | x::r,0,_,v=>rfl
 | x::r,i+1,h,v=>by
  have:=S9 (l:=r) (i:=i) (by simpa using h) v;have e:∀(a b c:ad) (t:List ad) (o:Nat) (vs:List ad),tC (a::b::c::t) (o+3) vs=a::b::c::tC t o vs:=by
   intro a b c t o vs
   induction vs generalizing t o with
   | nil=>rfl
   | cons v vs ih=>
    rw [tC,tC];rw [show(a::b::c::t).set (o+3) v=a::b::c::t.set o v from rfl,show o+3+1=(o+1)+3 by omega,ih]
  rw [show 3* (i+1)=3*i+3 by omega,fW,e,this]
  rfl
theorem ED(l:List TV):eU (fW l)=false:=by cases l<;>rfl
def eJ(t:ae)(A:aj)(k q:Nat)(cs:List TV):Ck:=⟨A,3*k,min (3*q) maxLen,t,fW cs⟩
def sQ(w:aa)(A:aj)(k:Nat)(cs:List TV):Prop:=cs.length=k/\Rd w A (3*k) (fun j=> (fW cs).getD j undef)
theorem sQ.aq{w w':aa}{A:aj}{k:Nat}{cs:List TV}(h:sQ w A k cs)(hb:Below w.heap.size w w'):sQ w' A k cs:=⟨h.1,Rd.below h.2 hb⟩
section
variable {w0 w:aa} {ks:List Ck} {i:Nat} {t:ae} {A:aj} {k q:Nat} {cs:List TV}
theorem St.ku(h:St w0 w ks)(i:Nat)(hk:ks[i]?=some (eJ t A k q cs)):sQ w A k cs:=by
 have h1:(fW cs).length=3*k:=(h.qh hk (ED _)).1;rw [FO]at h1;exact⟨am,h.rd i hk⟩
theorem St.R8(h:St w0 w ks)(i:Nat)(hk:ks[i]?=some (eJ t A k q cs)):k<=q/\3*k<=maxLen:=by
 have h1:3*k<=min (3*q) maxLen:=(h.get hk).cap.1;omega
theorem sQ.take{l:Nat}(h:sQ w A k cs)(hl:l<=k):sQ w A l (cs.take l):=by
 have h1:=h.1;refine⟨by rw [ns];omega,fun j hj=>?_⟩;obtain⟨p,hp,hc⟩:=h.2 j am;refine⟨p,hp,?_⟩;rw [hc,<-Ta];simp [dm,rz,hj]
theorem sQ.at_(h:sQ w A k cs){j:Nat}(hj:j<k):Rd w (ay A (j*3)) 3 (fun m=> ((cs[j]'(by rw [h.1];exact hj)).cs).getD m undef):=by
 have hl:j<cs.length:=by rw [h.1];exact hj
 have:=(h.2.behind (o:=j*3) (m:=3) am);refine this.congr fun m hm=>?_
 have hg:=S8 hl;rcases(show m=0\/m=1\/m=2 by omega)with rfl | rfl | rfl
 ·rw [show j*3+0=3*j by omega,dm,hg.1];rfl
 ·rw [show j*3+1=3*j+1 by omega,dm,hg.2.1];rfl
 rw [show j*3+2=3*j+2 by omega,dm,hg.2.2];rfl
theorem Za{z z0 z1 z2:ad}(hz:z.cells= #[z0,z1,z2])(m:Nat):(Builtin.zeroCells z.cells m).toList.length=3*m:=by
 rw [hz];simp [Builtin.zeroCells];omega
end
section
variable{t T te:ae}{x ix dw x0 y x1 x2:ag}{v0 v1 v2 z z0 z1 z2 y0 y1 y2:ad}{b m c' b0 b1 b2:Nat}{A':aj}{i h:Int}
variable {P:Program} {N:Nat} {ops:Array Oper} {K:Env->aa->Prop} {rest:List Oper} {e:Env} {w0 w w':aa} {ks:List Ck} {d:Nat} {ty:ae} {pos:String} {af:Array Edge}
theorem oG{el:ae}(hS:St w0 w ks)(hx:ev e x= .agg #[v0,v1,v2])(hb:Nat.blt d N=true)(hK:∀A w',St w0 w' (Bx el 3 A [v0,v1,v2]::ks)->ao P N ops K rest (bn e d (.pointer A)) w')(hM:eU [v0,v1,v2]=false:=by rfl):ao P N ops K (⟨some d,.box el x,ty,pos,af,none⟩::rest) e w:= .H7 hS hx hb rfl hK hM
theorem aqu{el:ae}[bA P t (.slice el)][bq P el z 3 b]{A:aj}{n c:Nat}{k:IntKind}{cs:List TV}(hR:sQ w A n cs)(hx:ev e x= .slice A n c)(hy:ev e ix= .int k i)(hb:Nat.blt d N=true)(h0:0<=i)(h1:i< (n:Int))(hK:ao P N ops K rest (bn e d (.pointer (ay A (i.toNat*3)))) w):
 ao P N ops K (⟨some d,.indexAddr t x ix,ty,pos,af,none⟩::rest) e w:=by
 obtain⟨p,hp,_⟩:=hR.2 i.toNat am;obtain⟨q,rfl⟩:∃q,A=some q:=by cases A with | none=>simp [ay]at hp | some q=>exact⟨q,rfl⟩
 obtain⟨inf,hi,_,hs,_⟩:=bq.get P el;refine .val (w':=w) ?_ hb hK;simp [execOp,Instr.indexAt,hx,hy,asIntOf,run_underlying (bA.out (P:=P) (t:=t)),h0,h1,sizeOf,typeInfo,hi,hs,ay]
theorem lq{el:ae}[bA P t (.slice el)][bq P el z 3 b]{A:aj}{n c:Nat}{k:IntKind}{cs:List TV}(hR:sQ w A n cs)(q9:(ev e x,ev e ix,Nat.blt d N)=(.slice A n c,.int k i,true))(hK:ao P N ops K rest (bn e d (.pointer (ay A (i.toNat*3)))) w)(h0:0<=i:=by omega)(h1:i< (n:Int):=by omega):ao P N ops K (⟨some d,.indexAddr t x ix,ty,pos,af,none⟩::rest) e w:=aqu hR (congrArg (fun p=>p.1) q9) (congrArg (fun p=>p.2.1) q9) (congrArg (fun p=>p.2.2) q9) h0 h1 hK
theorem ZS{el:ae}[hU:bA P t (.slice el)][bq P el z 3 b]{A:aj}{n c:Nat}{k:IntKind}(hx:ev e x= .slice A n c)(hh:ev e dw= .int k h)(hb:Nat.blt d N=true)(h0:0<=h/\h<=(c:Int))(hK:ao P N ops K rest (bn e d (.slice A h.toNat c)) w):ao P N ops K (⟨some d,.slice t x none (some dw) none,ty,pos,af,none⟩::rest) e w:=by
 obtain⟨inf,hi,dX,hs,gR⟩:=bq.get P el;refine .val (w':=w) ?_ hb hK;have:=run_sliceBound (P:=P) w k h c .sliceAcap h0.1 h0.2;have hA:A.map (fun x=>x.add 0)=A:=by cases A<;>simp [Addr.add]
 simp [execOp,hx,hh,Instr.sliceAt,run_underlying hU.out,Instr.slice,Instr.sliceBounds,this,sizeOf,typeInfo,hi,hs,hA]
theorem ZP{el:ae}[bA P t (.slice el)][bq P el z 3 b]{v:TV}(hS:St w0 w ks)(h0:ev e x0=v.v)(hz:z.cells= #[z0,z1,z2])(hb:Nat.blt d N=true)(hK:∀A w',St w0 w' (eJ el A 1 1 [v]::ks)->ao P N ops K rest (bn e d (.slice A 1 1)) w'):ao P N ops K (⟨some d,.buildSlice t 1 #[(0,x0)],ty,pos,af,none⟩::rest) e w:=by
 obtain⟨inf,hi,dX,hs,gR⟩:=bq.get P el;refine .val (w':=w.alloc (.cells #[ak v.f,ak v.g,ak v.r] el)) ?_ hb (hK _ _ (hS.alloc [ak v.f,ak v.g,ak v.r] el (by simp [maxLen]) O));simp [execOp,Instr.buildSlice,run_underlying (bA.out (P:=P) (t:=t)),sizeOf,typeInfo,zeroValue,hi,hs,dX,hz,Instr.fill,newRow,h0,Dy,jU,Value.cells,TV.v]
theorem amm{el:ae}[hU:bA P t (.slice el)][bq P el z 3 b](hz:z.cells= #[z0,z1,z2]){A:aj}{n c:Nat}{cs:List TV}(i:Nat)(hS:St w0 w ks)(hk:ks[i]?=some (eJ el A n c cs)){ds:List TV}(hR:sQ w A' m ds)
 (rK:3* (n+m)<=maxLen) (pA:(n+m)*b<=140737488355328) (ty:ae):
 ∃A2 c2 w',(Builtin.append_ #[t,t] ty #[.slice A n c,.slice A' m c']).run P w= .ok (.slice A2 (n+m) c2) w'/\St w0 w' (ks.set i (eJ el A2 (n+m) c2 (cs++ds))):=by
 obtain⟨inf,hi,dX,hs,gR⟩:=bq.get P el;have Cr:=hS.qh hk (ED _);have ua:=hS.R8 i hk;have de:=(hS.ku i hk).1;obtain⟨hl,mG,oW,h4⟩:=Cr;have yG:=(gx.1 hk).1
 by_cases hm:m=0
 ·subst hm;have qn:ds=[]:=qE hR.1;subst qn;refine⟨A,c,w,?_,?_⟩
  ·cases A' with
   | none=>cases A<;>simp [Builtin.append_,run_underlying hU.out,sizeOf,typeInfo,hi,Builtin.lenOf,Builtin.firstCells,ua.1,storeCells]
   | some a=>
    cases A<;>simp [Builtin.append_,run_underlying hU.out,sizeOf,typeInfo,hi,Builtin.lenOf,Builtin.firstCells,ua.1,storeCells,loadCells,loadCellsFrom]
  ·rw [fI,Nat.add_zero];have:ks.set i (eJ el A n c cs)=ks:=by
    apply List.ext_getElem?;intro j;rw [mR]
    split
    ·rename_i e;subst e;rw [hk]
     try simp [yG]
    ·rfl
   rw [this];exact hS
 ·obtain⟨a,rfl⟩:∃a,A'=some a:=by
   obtain⟨p,hp,_⟩:=hR.2 0 am;cases A' with | none=>simp [ay]at hp | some q=>exact⟨q,rfl⟩
  have gX:(fW ds).length=m*3:=by rw [FO,hR.1];omega
  have ue:∀j v,(fW ds)[j]?=some v->w.cell? (a.add j)=some v:=by
   intro j v hj;have vd:j<3*m:=by have:=(gx.1 hj).1;omega
   obtain⟨p,hp,hc⟩:=hR.2 j vd;simp only [ay,Option.map_some,mB]at hp;rw [hp,hc];show some ((fW ds).getD j undef)=some v;rw [dm,hj]
   rfl
  have vT:∀u∈fW ds,u.oneCell'=true:=by
   intro u hu;obtain⟨j,hj,rfl⟩:=gC.1 hu;have gen:∀(l:List TV),∀u∈fW l,u.oneCell'=true:=by
    intro l
    induction l with
    | nil=>intro u h;cases h
    | cons x l ih=>
     intro u h;simp only [fW,iX]at h;rcases h with rfl | rfl | rfl | h
     ·rfl
     ·rfl
     ·rfl
     ·exact ih u h
   exact gen ds _ (dK hj)
  have Gl:(fW cs).length=3*n:=by rw [FO,de]
  have fresh:∀(xs:List ad) (c2:Nat),n+m<=c2->xs.length=3*c2->xs.take (3* (n+m))=fW cs++fW ds->eU xs=false->
   St w0 (w.drew.alloc (.cells xs.toArray el)) (ks.set i (eJ el (some ⟨w.heap.size,0,none⟩) (n+m) c2 (cs++ds))):=by
   intro xs c2 h5 h7 h8 h9;have hA:=hS.drew.RA xs el (3* (n+m)) (min (3*c2) maxLen) am am am h9;rw [h8,<-Mk]at hA;exact(hA.perm (PD ks i _ _ hk)).tail
  have FZ:((n+m:Nat):Int)<=9223372036854775807:=by simp only [maxLen]at rK;omega
  have adW:n+m<=maxLen:=by omega
  rcases h4 with⟨hA,h0⟩ | ⟨g,o,cur,hA,hg,hh,mr,hc⟩
  ·have hA:A=none:=hA;subst hA;have h0:min (3*c) maxLen=0:=h0;have kV:c=0:=by simp only [maxLen]at h0;omega
   have oe:n=0:=by omega
   subst kV oe;have GS:cs=[]:=qE de;subst GS;have hr:=run_append_nil (P:=P) w t ty el inf z hU.out hi dX a m c' (fW ds) (by rw [gX,hs]) ue am am (by rw [gR];rw [Nat.zero_add]at pA;omega);have u6:=grownCap_ge w m 0 el;have xD:=Za hz (grownCap w m 0 el - m);refine⟨some ⟨w.heap.size,0,none⟩,grownCap w m 0 el,_,?_,fresh (fW ds++ (Builtin.zeroCells z.cells (grownCap w m 0 el - m)).toList) (grownCap w m 0 el) am (by rw [ck,xD,gX];omega) (by
    rw [wN (by omega),iY (by omega)]
    rfl) (CD (ED _) (by intro hn;rw [hn]at gX;simp at gX;omega))⟩
   rw [Nat.zero_add,hr]
   congr 3
   apply Array.ext';simp
  ·have hA:A=some ⟨g,o,none⟩:=hA;have hh:w.heap[g]?=some (.cells cur el (0,0)):=hh;have mr:o+min (3*c) maxLen<=cur.size:=mr;have hc:∀j,j<3*n->cur[o+j]?=(fW cs)[j]?:=hc
   by_cases Cu:n+m<=c
   ·have hf:=run_firstCells_some (P:=P) w inf.size m a m c' (fW ds) (by rw [gX,hs]) ue;have av:=run_storeCells_at P g (o+3*n) el (fW ds) 0 cur w hh (by rw [gX];omega) vT;simp only [Nat.add_zero]at av;refine⟨some ⟨g,o,none⟩,c,w.setRow g (cur.toList.take (o+3*n)++fW ds++cur.toList.drop (o+3*n+ (fW ds).length)).toArray,?_,hS.turn (k:=eJ el A n c cs) (k':=eJ el (some ⟨g,o,none⟩) (n+m) c (cs++ds)) (g:=g) hk (by simp [Ck.ij,eJ,hA]) (by simp [Ck.ij,eJ]) ?_ ?_⟩
    ·rw [hA];rw [hs]at hf;simp [Builtin.append_,run_underlying hU.out,sizeOf,typeInfo,hi,hs,Builtin.lenOf,Cu,Addr.add_lit,hf];rw [show n*3=3*n by omega];simp [av]
    ·exact⟨⟨O,O,O,by simp,fun x _ hx=>setRow_other w g x _ (fun e=>hx (by rw [e]))⟩,br _⟩
    ·refine .q9 (ED _) ⟨by show(fW (cs++ds)).length=3* (n+m);rw [FO,ck,de,hR.1],by show 3* (n+m)<=min (3*c) maxLen;omega,oW,.inr ⟨g,o,_,O,hg,setRow_heap w g cur _ el _ hh,?_,fun j hj=>?_⟩⟩
     ·show o+min (3*c) maxLen<=_;simp;omega
     ·have gW:j<3* (n+m):=hj;show((cur.toList.take (o+3*n)++fW ds++cur.toList.drop (o+3*n+ (fW ds).length)).toArray)[o+j]?=(fW (cs++ds))[j]?;rw [Mk];have aff:cur.toList.length=cur.size:=by simp
      rw [List.getElem?_toArray]
      by_cases mV:j<3*n
      ·rw [gV,ma (by simp;omega),rz,aB (by omega),ma (by omega)];rw [Array.getElem?_toList];exact hc j mV
      ·rw [gV,mc (by simp;omega),ma (by simp;omega),mc (by omega)]
       congr 1
       simp;omega
   ·have holds:∀j v,(fW cs)[j]?=some v->w.cell? ((⟨g,o,none⟩:Addr).add j)=some v:=by
     intro j v hj;have mV:j<3*n:=by have:=(gx.1 hj).1;omega
     rw [BA];simp only [World.cell?,hh];simpa [hc j mV]using hj
    have hr:=run_append_grow (P:=P) w t ty el inf z hU.out hi dX ⟨g,o,none⟩ n c (fW cs) (by rw [Gl,hs];omega) holds a m c' (fW ds) (by rw [gX,hs]) ue am FZ (growslice_fits am (by rw [gR];exact pA));have u6:=grownCap_ge w (n+m) c el;have xD:=Za hz (grownCap w (n+m) c el - (n+m));refine⟨some ⟨w.heap.size,0,none⟩,grownCap w (n+m) c el,_,?_,fresh (fW cs++fW ds++ (Builtin.zeroCells z.cells (grownCap w (n+m) c el - (n+m))).toList) (grownCap w (n+m) c el) am (by rw [ck,ck,xD,gX,Gl];omega) (by
     rw [wN (by rw [ck];omega),iY (by rw [ck];omega)]) (CD (OO (ED _) (ED _)) (by intro hn;have:=aE List.length hn;rw [ck,gX]at this;simp at this;omega))⟩
    rw [hA,hr]
    congr 3
    apply Array.ext';simp
theorem ZI{el:ae}[hU:bA P t (.slice el)][bq P el z 3 b](i:Nat){A:aj}{n c:Nat}{cs:List TV}{ds:List TV}(hS:St w0 w ks)(hk:ks[i]?=some (eJ el A n c cs))(hR:sQ w A' m ds)(hx:ev e x= .slice A n c)(hy:ev e y= .slice A' m c')(hz:z.cells= #[z0,z1,z2])(rK:n+m<=3074457345618258602)(pA:(n+m)*b<=140737488355328)(hb:Nat.blt d N=true)(hK:∀A2 c2 w',St w0 w' (ks.set i (eJ el A2 (n+m) c2 (cs++ds)))->ao P N ops K rest (bn e d (.slice A2 (n+m) c2)) w'):
 ao P N ops K (⟨some d,.call ⟨.builtin .append, #[x,y], #[t,t]⟩,ty,pos,af,none⟩::rest) e w:=by
 obtain⟨A2,c2,w',hr,kU⟩:=amm (P:=P) (t:=t) hz i hS hk hR (by simp only [maxLen];omega) pA ty (c':=c');refine .val (w':=w') ?_ hb (hK _ _ _ kU);simp [execOp,resolve,invoke,builtin,hx,hy,hr]
theorem ao.ldT{fs:Array Field}[bA P t (.struct fs)][bq P t z 3 b]{A:aj}{n:Nat}{cs:List TV}{i:Nat}{v:TV}(hR:sQ w A n cs)(hi:i<n)(hv:cs[i]?=some v)(hx:ev e x= .pointer (ay A (i*3)))(hb:Nat.blt d N=true)(hK:ao P N ops K rest (bn e d (v.v)) w):ao P N ops K (⟨some d,.load t x,ty,pos,af,none⟩::rest) e w:=by
 have lZ:=hR.at_ hi;have e1:cs[i]'(by rw [hR.1];exact hi)=v:=by rw [fq (by rw [hR.1];exact hi)]at hv;exact dG hv
 rw [e1]at lZ;exact .cN 2 lZ hx (by rfl) hb hK
theorem pn{fs:Array Field}[bA P t (.struct fs)][bq P t z 3 b]{A:aj}{n:Nat}{cs:List TV}(hR:sQ w A n cs)(hx:ev e x= .pointer (ay A (i.toNat*3)))(hi:i.toNat<n)(hb:Nat.blt d N=true)(hK:ao P N ops K rest (bn e d (tg cs i).v) w):ao P N ops K (⟨some d,.load t x,ty,pos,af,none⟩::rest) e w:=
 .ldT hR hi (by unfold tg;rw [List.getD_eq_getElem?_getD,List.getElem?_eq_getElem (by rw [hR.1];exact hi)];rfl) hx hb hK
theorem aac[bq P t z 3 b]{a:ag}(j:Nat){A:aj}{n c i:Nat}{cs:List TV}{v:TV}(hS:St w0 w ks)(hk:ks[j]?=some (eJ T A n c cs))(hi:i<n)(ha:ev e a= .pointer (ay A (i*3)))(hx:ev e x=v.v)(hK:∀w',St w0 w' (ks.set j (eJ T A n c (cs.set i v)))->ao P N ops K rest e w'):ao P N ops K (⟨none,.store t a x,ty,pos,af,none⟩::rest) e w:=by
 have hl:=(hS.ku j hk).1;refine ao.Yo 3 j (k:=eJ T A n c cs) (o:=i*3) hS hk ha hx O O O (Nat.ble_eq_true_of_le (by show i*3+3<=3*n;omega)) fun w' h=>hK w' ?_
 have e1:tC (fW cs) (i*3) v.cs=fW (cs.set i v):=by rw [Nat.mul_comm];exact S9 am v
 have e2:({ eJ T A n c cs with vs:=tC (eJ T A n c cs).vs (i*3) (#[Value.int IntKind.i64 v.f,Value.int IntKind.i64 v.g,Value.int IntKind.i64 v.r]:Array ad).toList }:Ck)=eJ T A n c (cs.set i v):=by
  show(⟨A,3*n,min (3*c) maxLen,T,tC (fW cs) (i*3) v.cs⟩:Ck)=⟨A,3*n,min (3*c) maxLen,T,fW (cs.set i v)⟩;rw [e1]
 exact e2▸h
theorem zE[bq P t z 3 b]{a:ag}(m:Nat){A:aj}{n c:Nat}{xs:List TV}{v:TV}(hS:St w0 w ks)(hk:ks[m]?=some (eJ te A n c xs))(ha:ev e a= .pointer (ay A (i.toNat*3)))(hx:ev e x=v.v)(hj:i.toNat<n)(hK:∀w',St w0 w' (ks.set m (eJ te A n c (xs.set i.toNat v)))->ao P N ops K rest e w'):ao P N ops K (⟨none,.store t a x,ty,pos,af,none⟩::rest) e w:=
 aac m hS hk hj ha hx hK
theorem ZN{f0 f1 f2:Field}[bA P t (.struct #[f0,f1,f2])][bq P t (.agg #[z0,z1,z2]) 3 b]{v:TV}(rL:bq P f0.type y0 1 b0)(tX:bq P f1.type y1 1 b1)(rN:bq P f2.type y2 1 b2)(ho:f0.offset=0)(qS:f1.offset=1)(xr:f2.offset=2)(h0:ev e x0=ak v.f)(h1:ev e x1=ak v.g)(h2:ev e x2=ak v.r)(hb:Nat.blt d N=true)(hK:ao P N ops K rest (bn e d (v.v)) w):ao P N ops K (⟨some d,.build t #[(0,x0),(1,x1),(2,x2)],ty,pos,af,none⟩::rest) e w:=by
 obtain⟨inf,hi,dX,hs,gR⟩:=bq.get P t;obtain⟨CC,fm,ahc,o6,ae8⟩:=rL.get P f0.type;obtain⟨EB,mm,hz01,ug,hby1⟩:=tX.get P f1.type;obtain⟨GZ,ti,hz02,mI,hby2⟩:=rN.get P f2.type;have ez:(Value.agg #[z0,z1,z2]).cells= #[z0,z1,z2]:=O;refine .val (w':=w) ?_ hb hK;simp [execOp,Instr.build,run_underlying (bA.out (P:=P) (t:=t)),sizeOf,typeInfo,zeroValue,hi,dX,fm,o6,mm,ug,ti,mI,ho,qS,xr,h0,h1,h2,ez,Instr.fill,TV.v,Value.cells]
end
end Go.Proofs.YtkccgdhcpplblaaGreatDoor.Vc
namespace Go.Proofs.YtkccgdhcpplblaaGreatDoor.Vc.TS
open Go.RowKit Tryz
variable{i b a' b' j m k:Nat}
def gs(l:List TV)(i:Nat):TV:=l.getD i QC
theorem tV{l:List TV}(h:i<l.length):gs l i=l[i]:=by simp [gs,dm,h]
def SR(κ:TV->Int)(l:List TV)(a b:Nat):Prop:=∀i j,a<=i->i<j->j<b->κ (gs l i)<=κ (gs l j)
theorem SR.one(κ:TV->Int)(l:List TV){a:Nat}(h:b<=a+1):SR κ l a b:=fun i j h1 h2 h3=>by omega
theorem SR.sub{κ:TV->Int}{l:List TV}{a:Nat}(h:SR κ l a b)(h1:a<=a')(h2:b'<=b):SR κ l a' b':=fun i j hi iy hj=>h i j am iy am
theorem SR.le{κ:TV->Int}{l:List TV}{a:Nat}(h:SR κ l a b)(h1:a<=i)(h2:i<=j)(h3:j<b):κ (gs l i)<=κ (gs l j):=by
 rcases Nat.lt_or_eq_of_le h2 with h2 | rfl
 ·exact h i j h1 h2 h3
 exact Int.le_refl _
theorem SR.congr{κ:TV->Int}{l l':List TV}{a:Nat}(h:SR κ l a b)(he:∀i,a<=i->i<b->gs l' i=gs l i):SR κ l' a b:=fun i j hi iy hj=>by
 rw [he i hi (by omega),he j (by omega) hj];exact h i j hi iy hj
structure RP(l l':List TV)(a b:Nat):Prop where
 perm:l'.Perm l
 out:∀i,i<a\/b<=i->gs l' i=gs l i
theorem RP.refl(l:List TV)(a b:Nat):RP l l a b:=⟨List.Perm.refl _,fun _ _=>rfl⟩
theorem RP.len{l l':List TV}{a:Nat}(h:RP l l' a b):l'.length=l.length:=h.perm.length_eq
theorem RP.trans{l l' Wj:List TV}{a:Nat}(h:RP l l' a b)(h':RP l' Wj a' b')(h1:a<=a')(h2:b'<=b):RP l Wj a b:=
 ⟨h'.perm.trans h.perm,fun i hi=>by rw [h'.out i (by omega),h.out i hi]⟩
theorem adJ{l l':List TV}{a:Nat}(hl:l'.length=l.length)(h:∀i,i<a->gs l' i=gs l i):l'.take a=l.take a:=by
 refine jE (by simp [hl]) fun i h1 h2=>?_
 rw [ns]at h1 h2;rw [List.getElem_take,List.getElem_take,<-tV (by omega),<-tV (by omega)];exact h i am
theorem adI{l l':List TV}(hl:l'.length=l.length)(h:∀i,b<=i->gs l' i=gs l i):l'.drop b=l.drop b:=by
 refine jE (by simp [hl]) fun i h1 h2=>?_
 rw [List.length_drop]at h1 h2;rw [List.getElem_drop,List.getElem_drop,<-tV (by omega),<-tV (by omega)];exact h _ am
theorem Yl{α:Type}(l:List α){a:Nat}(h:a<=b):l=l.take a++ ((l.drop a).take (b - a)++l.drop b):=by
 have h1:l.drop b=(l.drop a).drop (b - a):=by rw [List.drop_drop];congr 1;omega
 rw [h1,List.take_append_drop,List.take_append_drop]
theorem RP.mid{l l':List TV}{a:Nat}(h:RP l l' a b)(eA:a<=b):((l'.drop a).take (b - a)).Perm ((l.drop a).take (b - a)):=by
 have h1:=h.perm;rw [Yl l' eA,Yl l eA,adJ h.len (fun i hi=>h.out i (.inl hi)),adI h.len (fun i hi=>h.out i (.inr hi))]at h1;exact(List.perm_append_right_iff _).1 ((List.perm_append_left_iff _).1 h1)
theorem RP.from{l l':List TV}{a:Nat}(h:RP l l' a b)(hb:b<=l.length)(h1:a<=i)(h2:i<b):∃j,a<=j/\j<b/\gs l' i=gs l j:=by
 have hl:=h.len;have hm:gs l' i∈(l'.drop a).take (b - a):=by
  rw [gC];refine⟨i - a,by rw [ns,List.length_drop];omega,?_⟩;rw [List.getElem_take,List.getElem_drop,<-tV (by omega)]
  congr 1;omega
 obtain⟨k,hk,e⟩:=gC.1 ((h.mid am).mem_iff.1 hm);rw [ns,List.length_drop]at hk;refine⟨a+k,am,am,?_⟩;rw [<-e,List.getElem_take,List.getElem_drop,<-tV (by omega)]
def swp(l:List TV)(i j:Nat):List TV:=(l.set i (gs l j)).set j (gs l i)
theorem Yu(l:List TV)(i j:Nat):(swp l i j).length=l.length:=by simp [swp]
theorem TC{l:List TV}(h:i<l.length)(v:TV)(x:Nat):gs (l.set i v) x=if x=i then v else gs l x:=by
 simp only [gs,dm,mR]
 by_cases e:i=x
 ·subst e;simp [h]
 have:¬x=i:=fun h=>e h.symm
 simp [e,this]
theorem FX{l:List TV}(hi:i<l.length)(hj:j<l.length)(x:Nat):gs (swp l i j) x=if x=j then gs l i else if x=i then gs l j else gs l x:=by
 rw [swp,TC (by simpa using hj),TC hi]
theorem Qx{l:List TV}{a:Nat}(hi:i<l.length)(hj:j<l.length)(h1:a<=i)(h2:i<b)(h3:a<=j)(h4:j<b):RP l (swp l i j) a b:=by
 refine⟨?_,fun x hx=>?_⟩
 ·unfold swp;rw [tV hi,tV hj];exact List.set_set_perm hi hj
 rw [FX hi hj,az (by omega),az (by omega)]
structure wL(κ:TV->Int)(l:List TV)(a i j:Nat):Prop where
 low:a<=j
 high:j<=i
 rest:∀x y,a<=x->x<y->y<=i->x≠j->y≠j->κ (gs l x)<=κ (gs l y)
 own:∀y,j<y->y<=i->κ (gs l j)<=κ (gs l y)
theorem wL.start{κ:TV->Int}{l:List TV}{a:Nat}(h:SR κ l a i)(hi:a<=i):wL κ l a i i:=
 ⟨hi,br _,fun x y h1 h2 h3 h4 h5=>h x y h1 h2 am,fun y h1 h2=>by omega⟩
theorem wL.stop{κ:TV->Int}{l:List TV}{a:Nat}(h:wL κ l a i j)(hs:j=a\/κ (gs l (j - 1))<=κ (gs l j)):SR κ l a (i+1):=fun x y h1 h2 h3=>by
 by_cases e:x=j
 ·subst e;exact h.own y h2 am
 by_cases e2:y=j
 ·subst e2;rcases hs with hs | hs
  ·omega
  by_cases e3:x=y - 1
  ·subst e3;exact hs
  exact Int.le_trans (h.rest x (y - 1) h1 am (by have:=h.high;omega) e am) hs
 exact h.rest x y h1 h2 am e e2
theorem wL.next{κ:TV->Int}{l:List TV}{a:Nat}(h:wL κ l a i j)(hj:a<j)(hi:i<l.length)(hs:κ (gs l j)<κ (gs l (j - 1))):wL κ (swp l j (j - 1)) a i (j - 1):=by
 have hh:=h.high;have g:=FX (l:=l) (i:=j) (j:=j - 1) am am;refine⟨am,am,fun x y h1 h2 h3 h4 h5=>?_,fun y h1 h2=>?_⟩
 ·rw [g x,g y,az h4,az h5]
  by_cases e:x=j
  ·subst e;rw [aB rfl,az (by omega)];exact h.rest (x - 1) y am am h3 am am
  rw [az e]
  by_cases e2:y=j
  ·subst e2;rw [aB rfl];exact h.rest x (y - 1) h1 am am e am
  rw [az e2];exact h.rest x y h1 h2 h3 e e2
 rw [g (j - 1),g y,aB rfl,az (by omega)]
 by_cases e2:y=j
 ·subst e2;rw [aB rfl];omega
 rw [az e2];exact h.own y am h2
theorem acD{α:Type}(P X M Y S:List α)(k:Nat)(h:X.length=Y.length)(hk:k<X.length)(x y:α)(hx:X[k]?=some x)(hy:Y[k]?=some y):((P++ (Y.take k++X.drop k)++M++ (X.take k++Y.drop k)++S).set (P.length+k) y).set (P.length+X.length+M.length+k) x=P++ (Y.take (k+1)++X.drop (k+1))++M++ (X.take (k+1)++Y.drop (k+1))++S:=by
 obtain⟨eI,rfl⟩:=gx.1 hx;obtain⟨kX,rfl⟩:=gx.1 hy;rw [List.drop_eq_getElem_cons eI,List.drop_eq_getElem_cons kX,nM eI,nM kX];have e1:(P++ (Y.take k++X[k]::X.drop (k+1))++M++ (X.take k++Y[k]::Y.drop (k+1))++S)=(P++Y.take k)++X[k]::(X.drop (k+1)++M++ (X.take k++Y[k]::Y.drop (k+1))++S):=by simp only [gV,List.cons_append]
 have l1:P.length+k=(P++Y.take k).length:=by simp;omega
 rw [e1,l1,List.set_append_right _ _ (br _),Nat.sub_self,List.set_cons_zero];have e2:(P++Y.take k)++Y[k]::(X.drop (k+1)++M++ (X.take k++Y[k]::Y.drop (k+1))++S)=(P++Y.take k++Y[k]::(X.drop (k+1)++M++X.take k))++Y[k]::(Y.drop (k+1)++S):=by simp only [gV,List.cons_append]
 have l2:P.length+X.length+M.length+k=(P++Y.take k++Y[k]::(X.drop (k+1)++M++X.take k)).length:=by simp;omega
 rw [e2,l2,List.set_append_right _ _ (br _),Nat.sub_self,List.set_cons_zero];simp only [gV,List.cons_append,List.nil_append]
structure vL(l l1:List TV)(s m e:Nat):Prop where
 out:∀i,i<s\/e<=i->gs l1 i=gs l i
 left:∀i,s<=i->i<s+ (e - m)->gs l1 i=gs l (i+ (m - s))
 right:∀i,s+ (e - m)<=i->i<e->gs l1 i=gs l (i - (e - m))
theorem vL.same(l:List TV){s e:Nat}(h:s=m\/m=e)(h1:s<=m)(h2:m<=e):vL l l s m e:=
 ⟨fun _ _=>rfl,fun i h3 h4=>by congr 1;omega,fun i h3 h4=>by congr 1;omega⟩
theorem vL.of(P X Y S:List TV):vL (P++ (X++ (Y++S))) (P++ (Y++ (X++S))) P.length (P.length+X.length) (P.length+X.length+Y.length):=by
 have key:∀(P X Y S:List TV) (i:Nat),gs (P++ (X++ (Y++S))) i=if i<P.length then gs P i else if i<P.length+X.length then gs X (i - P.length)else if i<P.length+X.length+Y.length then gs Y (i - P.length - X.length)else gs S (i - P.length - X.length - Y.length):=fun P X Y S i=>by
  simp only [gs,dm]
  by_cases h1:i<P.length
  ·rw [aB h1,ma h1]
  rw [az h1,mc (by omega)]
  by_cases h2:i<P.length+X.length
  ·rw [aB h2,ma (by omega)]
  rw [az h2,mc (by omega)]
  by_cases h3:i<P.length+X.length+Y.length
  ·rw [aB h3,ma (by omega)]
  rw [az h3,mc (by omega)]
 refine⟨fun i h=>?_,fun i h1 h2=>?_,fun i h1 h2=>?_⟩
 ·rw [key,key];rcases h with h | h
  ·rw [aB h,aB h]
  rw [az (by omega),az (by omega),az (by omega),az (by omega),az (by omega),az (by omega)]
  congr 1;omega
 ·rw [key,key,az (by omega),aB (by omega),az (by omega),az (by omega),aB (by omega)]
  congr 1;omega
 rw [key,key,az (by omega),az (by omega),aB (by omega),az (by omega),aB (by omega)]
 congr 1;omega
theorem amc{α:Type}(P X Y S:List α):(P++ (Y++ (X++S))).Perm (P++ (X++ (Y++S))):=by
 refine(List.perm_append_left_iff _).2 ?_;rw [<-gV,<-gV];exact(List.perm_append_right_iff _).2 nL
def nF(a m b:Nat):Nat:=if(a+b) / 2<m then(a+b) / 2+m - b else a
def fm(a m b:Nat):Nat:=if(a+b) / 2<m then(a+b) / 2 else m
structure K6(κ:TV->Int)(l:List TV)(a m b s:Nat):Prop where
 lo:nF a m b<=s
 hi:s<=fm a m b
 left:∀c,nF a m b<=c->c<s->κ (gs l c)<=κ (gs l ((a+b) / 2+m - 1 - c))
 right:∀c,s<=c->c<fm a m b->κ (gs l ((a+b) / 2+m - 1 - c))<κ (gs l c)
theorem ab6{κ:TV->Int}{l l1:List TV}{a s:Nat}(h1:a+1<m)(h2:m+1<b)(hA:SR κ l a m)(hB:SR κ l m b)(hc:K6 κ l a m b s)(hr:vL l l1 s m ((a+b) / 2+m - s)):(a<=s/\s<=(a+b) / 2/\s<=m/\(a+b) / 2<=(a+b) / 2+m - s/\m<=(a+b) / 2+m - s/\(a+b) / 2+m - s<=b)/\SR κ l1 a s/\SR κ l1 s ((a+b) / 2)/\SR κ l1 ((a+b) / 2) ((a+b) / 2+m - s)/\SR κ l1 ((a+b) / 2+m - s) b/\∀i j,a<=i->i< (a+b) / 2->(a+b) / 2<=j->j<b->κ (gs l1 i)<=κ (gs l1 j):=by
 obtain⟨c1,c2,c3,c4⟩:=hc;generalize qq:(a+b) / 2=mid at*;unfold nF at c1 c3;unfold fm at c2 c4;rw [qq]at c1 c2 c3 c4;have ud:2*mid<=a+b/\a+b<=2*mid+1:=by omega
 have b1:a<=s:=by split at c1<;>omega
 have b2:s<=mid:=by split at c2<;>omega
 have b3:s<=m:=by split at c2<;>omega
 have b4:mid+m - s<=b:=by split at c1<;>omega
 generalize he:mid+m - s=e at*;obtain⟨r1,r2,r3⟩:=hr;have PN:∀i,s<=i->i<mid->gs l1 i=gs l (i+ (m - s)):=fun i h h'=>r2 i h am
 have KF:∀i,mid<=i->i<e->gs l1 i=gs l (i - (mid - s)):=fun i h h'=>by rw [r3 i (by omega) h'];congr 1;omega
 refine⟨⟨b1,b2,b3,am,am,b4⟩,?_,?_,?_,?_,?_⟩
 ·exact(hA.sub (br _) b3).congr fun i _ h=>r1 i (.inl h)
 ·intro i j hi iy hj;rw [PN i hi (by omega),PN j (by omega) hj];exact hB _ _ am am am
 ·intro i j hi iy hj;rw [KF i hi (by omega),KF j (by omega) hj];exact hA _ _ am am am
 ·exact(hB.sub am (br _)).congr fun i h _=>r1 i (.inr h)
 intro i j hi ti hj pG
 by_cases x1:i<s
 ·rw [r1 i (.inl x1)]
  by_cases x2:j<e
  ·rw [KF j hj x2];exact hA.le hi am am
  rw [r1 j (.inr (by omega))];have k1:κ (gs l i)<=κ (gs l (s - 1)):=hA.le hi am am;have k2:κ (gs l e)<=κ (gs l j):=hB.le am am pG;have k3:=c3 (s - 1) (by split<;>omega) am;rw [show mid+m - 1 - (s - 1)=e by omega]at k3;omega
 rw [PN i (by omega) ti]
 by_cases x2:j<e
 ·rw [KF j hj x2];have k1:κ (gs l (i+ (m - s)))<=κ (gs l (e - 1)):=hB.le am am am;have k2:κ (gs l s)<=κ (gs l (j - (mid - s))):=hA.le am am am;have k3:=c4 s (br _) (by split<;>omega);rw [show mid+m - 1 - s=e - 1 by omega]at k3;omega
 rw [r1 j (.inr (by omega))];exact hB.le am am pG
theorem ab8{κ:TV->Int}{l1 l2 l3:List TV}{a mid:Nat}(eA:a<=mid)(Gy:mid<=b)(hb:b<=l1.length)(h:∀i j,a<=i->i<mid->mid<=j->j<b->κ (gs l1 i)<=κ (gs l1 j))(p2:RP l1 l2 a mid)(s2:SR κ l2 a mid)(p3:RP l2 l3 mid b)(s3:SR κ l3 mid b):SR κ l3 a b:=fun i j hi iy hj=>by
 have pI:=p2.len
 by_cases x1:j<mid
 ·rw [p3.out i (.inl (by omega)),p3.out j (.inl x1)];exact s2 i j hi iy x1
 by_cases x2:i<mid
 ·rw [p3.out i (.inl x2)];obtain⟨i',h1,h2,e1⟩:=p2.from am hi x2;obtain⟨j',h3,h4,e2⟩:=p3.from am am hj;rw [e1,e2,p2.out j' (.inr h3)];exact h i' j' h1 h2 h3 h4
 exact s3 i j am iy hj
structure wP(l c:List TV)(a k:Nat):Prop where
 len:c.length=l.length
 out:∀x,x<a\/k<x->gs c x=gs l x
 vu:∀x,a<=x->x<k->gs c x=gs l (x+1)
 own:gs c k=gs l a
theorem wP.start(l:List TV)(a:Nat):wP l l a a:=⟨rfl,fun _ _=>rfl,fun x h h'=>by omega,rfl⟩
theorem wP.next{l c:List TV}{a:Nat}(h:wP l c a k)(ha:a<=k)(hk:k+1<l.length):wP l (swp c k (k+1)) a (k+1):=by
 have hl:=h.len;have g:=FX (l:=c) (i:=k) (j:=k+1) am am;refine⟨by rw [Yu,hl],fun x hx=>?_,fun x h1 h2=>?_,?_⟩
 ·rw [g,az (by omega),az (by omega),h.out x (by omega)]
 ·rw [g,az (by omega)]
  by_cases e:x=k
  ·subst e;rw [aB rfl,h.out _ (by omega)]
  rw [az e,h.vu x h1 (by omega)]
 rw [g,aB rfl,h.own]
theorem wP.sorted{κ:TV->Int}{l c:List TV}{a:Nat}(h:wP l c a (i - 1))(hs:SR κ l (a+1) b)(h1:a+1<=i)(h2:i<=b)(hl:∀x,a+1<=x->x<i->κ (gs l x)<=κ (gs l a))(hr:∀x,i<=x->x<b->κ (gs l a)<=κ (gs l x)):SR κ c a b:=fun x y hx kq hy=>by
 by_cases e:x=i - 1
 ·rw [e,h.own,h.out y (.inr (by omega))];exact hr y am hy
 by_cases e2:y=i - 1
 ·rw [e2,h.own,h.vu x hx (by omega)];exact hl _ am am
 by_cases x1:y<i - 1
 ·rw [h.vu x hx (by omega),h.vu y (by omega) x1];exact hs _ _ am am am
 rw [h.out y (.inr (by omega))]
 by_cases x2:x<i - 1
 ·rw [h.vu x hx x2];exact hs _ _ am am hy
 rw [h.out x (.inr (by omega))];exact hs _ _ am kq hy
structure wO(l c:List TV)(m k:Nat):Prop where
 len:c.length=l.length
 out:∀x,x<k\/m<x->gs c x=gs l x
 vu:∀x,k<x->x<=m->gs c x=gs l (x - 1)
 own:gs c k=gs l m
theorem wO.start(l:List TV)(m:Nat):wO l l m m:=⟨rfl,fun _ _=>rfl,fun x h h'=>by omega,rfl⟩
theorem wO.next{l c:List TV}(h:wO l c m k)(hk:0<k)(U5:k<=m)(hm:m<l.length):wO l (swp c k (k - 1)) m (k - 1):=by
 have hl:=h.len;have g:=FX (l:=c) (i:=k) (j:=k - 1) am am;refine⟨by rw [Yu,hl],fun x hx=>?_,fun x h1 h2=>?_,?_⟩
 ·rw [g,az (by omega),az (by omega),h.out x (by omega)]
 ·rw [g,az (by omega)]
  by_cases e:x=k
  ·subst e;rw [aB rfl,h.out _ (by omega)]
  rw [az e,h.vu x (by omega) h2]
 rw [g,aB rfl,h.own]
theorem wO.sorted{κ:TV->Int}{l c:List TV}{a:Nat}(h:wO l c m i)(hs:SR κ l a m)(h1:a<=i)(h2:i<=m)(hl:∀x,a<=x->x<i->κ (gs l x)<=κ (gs l m))(hr:∀x,i<=x->x<m->κ (gs l m)<=κ (gs l x)):SR κ c a (m+1):=fun x y hx kq hy=>by
 by_cases e:x=i
 ·rw [e,h.own,h.vu y (by omega) (by omega)];exact hr _ am am
 by_cases e2:y=i
 ·rw [e2,h.own,h.out x (.inl (by omega))];exact hl x hx am
 by_cases x1:y<i
 ·rw [h.out x (.inl (by omega)),h.out y (.inl x1)];exact hs _ _ hx kq am
 rw [h.vu y (by omega) (by omega)]
 by_cases x2:x<i
 ·rw [h.out x (.inl x2)];exact hs _ _ hx am am
 rw [h.vu x (by omega) (by omega)];exact hs _ _ am am am
def xX(κ:TV->Int)(l:List TV)(n s lo hi:Nat):Prop:=∀k,lo<=k*s->k*s<hi->SR κ l (k*s) (min (k*s+s) n)
theorem xX.done{κ:TV->Int}{l:List TV}{n s:Nat}(h:xX κ l n s 0 n)(hs:n<=s):SR κ l 0 n:=by
 by_cases h0:n=0
 ·subst h0;exact SR.one _ _ am
 have:=h 0 am am;rw [Nat.zero_mul,Nat.zero_add,Nat.min_eq_right hs]at this;exact this
theorem WU{s:Nat}(h:j*s<k*s):j*s+s<=k*s:=by
 have vc:j<k:=Nat.lt_of_mul_lt_mul_right h;have:=Nat.mul_le_mul_right s (Nat.succ_le_of_lt vc);rw [Nat.succ_mul]at this;exact this
end Go.Proofs.YtkccgdhcpplblaaGreatDoor.Vc.TS
namespace Go.Proofs.YtkccgdhcpplblaaGreatDoor.Vc
open Go.RowKit Tryz
section
variable {P:Program} {N:Nat} {ops:Array Oper} {K:Env->aa->Prop} {rest:List Oper} {e:Env} {w0 w w':aa} {ks:List Ck} {d:Nat} {ty:ae} {pos:String} {af:Array Edge}
def XQ(a n u:Nat)(R:ad->aa->Prop):jX
 | .normal,e,w=>∃A f,e a= .pointer A/\Rd w A n f/\R (.tuple #[.agg ((List.range n).map f).toArray,e u]) w
 | .ret,e,w=>∃A f,e a= .pointer A/\Rd w A n f/\R (.tuple #[.agg ((List.range n).map f).toArray,e u]) w
 | _,_,_=>False
theorem kG{a n u:Nat}{R:ad->aa->Prop}{A:aj}{f:Nat->ad}{v:ad}(h:e a= .pointer A)(hR:Rd w A n f)(hv:e u=v)(h2:R (.tuple #[.agg ((List.range n).map f).toArray,v]) w):XQ a n u R .ret e w:=⟨A,f,h,hR,by rw [hv];exact h2⟩
theorem ur{fn:Func}{R:ad->aa->Prop}{a t n b u:Nat}{fs:Array Field}{z:ad}[bA P t (.struct fs)][bq P t z n b](hr:fn.results= #[.cell a t,.tmp u])(Cp:Nat.blt 0 n=true):∀x a1 e w,kj N a1 e->XQ a n u R x e w->bodyPost P fn (fun x w'=>∃v,x= .returned v/\R v w') x a1 w:=by
 intro x a1 e w he q;have hn:0<n:=by simpa [Nat.blt_eq]using Cp
 have hg:=he.get a;have hh:=he.get u;have key:∀(A:aj) (f:Nat->ad),e a= .pointer A->Rd w A n f->(results fn a1.tmps).run P w= .ok (.tuple #[.agg ((List.range n).map f).toArray,e u]) w:=by
  intro A f hA hR;obtain⟨q,rfl,hl⟩:=XY (P:=P) (t:=t) hn hR;rw [jn]at hg hh;simp [results,hr,hg,hh,hA,asAddr,hl]
 cases x<;>first
  | exact q.elim
  | (
   obtain⟨A,f,hA,hR,h2⟩:=q;exact⟨he.defers,_,key A f hA hR,_,O,h2⟩)
end
section
variable{t:ae}{b b0 b1 b2:Nat}{bs:ai}
variable {P:Program} {N:Nat} {ops:Array Oper} {K:Env->aa->Prop} {rest:List Oper} {e:Env} {w0 w w':aa} {ks:List Ck} {d:Nat} {ty:ae} {pos:String} {af:Array Edge}
theorem ZO{el:ae}{x:ag}{v0 v1 v2:ad}(hS:St w0 w ks)(hx:ev e x= .agg #[v0,v1,v2])(hb:Nat.blt d N=true)(hK:∀A w',St w0 w' (Bx el 3 A [v0,v1,v2]::ks)->ao P N ops K rest (bn e d (.pointer A)) w')(hM:eU [v0,v1,v2]=false:=by rfl):ao P N ops K (⟨some d,.box el x,ty,pos,af,none⟩::rest) e w:= .H7 hS hx hb rfl hK hM
variable {x y:ag} {xt yt:ae} {i j:Int}
theorem Y6(i:Int):0<=IntKind.u64.wrap i/\IntKind.u64.wrap i<=18446744073709551615:=by rw [IntKind.wrap_u64];omega
theorem Lj(hx:ev e x= .int .u64 i)(hy:ev e y= .int .u64 j)(hb:Nat.blt d N=true)(hK:∀r:Int,0<=r/\r<=18446744073709551615->ao P N ops K rest (bn e d (.int .u64 r)) w):
 ao P N ops K (⟨some d,.binOp .mul xt x y yt,ty,pos,af,none⟩::rest) e w:=
 .val (by simp [execOp,hx,hy,eqGuard,binOp,Op.intArith]) hb (hK _ (Y6 (i*j)))
theorem HN(hx:ev e x= .int .u64 i)(hy:ev e y= .int .u64 j)(hb:Nat.blt d N=true)(hK:∀r:Int,0<=r/\r<=18446744073709551615->ao P N ops K rest (bn e d (.int .u64 r)) w):
 ao P N ops K (⟨some d,.binOp .add xt x y yt,ty,pos,af,none⟩::rest) e w:=
 .val (by simp [execOp,hx,hy,eqGuard,binOp,Op.intArith]) hb (hK _ (Y6 (i+j)))
theorem aa3(i:Int):0<=bits .and .u64 i 16777215/\bits .and .u64 i 16777215<=16777215:=by
 have h:∀a:BitVec 64,(a &&& BitVec.ofInt 64 16777215).toNat<=16777215:=fun a=>by
  rw [BitVec.toNat_and];exact Nat.and_le_right
 have e:bits .and .u64 i 16777215=IntKind.u64.wrap ((BitVec.ofInt 64 i &&& BitVec.ofInt 64 16777215).toNat:Int):=O;have:=h (BitVec.ofInt 64 i);rw [e,IntKind.wrap_u64];omega
theorem ZH(hx:ev e x= .int .u64 i)(hy:ev e y= .int .u64 16777215)(hb:Nat.blt d N=true)(hK:∀r:Int,0<=r/\r<=16777215->ao P N ops K rest (bn e d (.int .u64 r)) w):
 ao P N ops K (⟨some d,.binOp .and xt x y yt,ty,pos,af,none⟩::rest) e w:=
 .val (by simp only [execOp,hx,hy,eqGuard,binOp,intBits_and];simp) hb (hK _ (aa3 i))
theorem aab{k:IntKind}(hx:ev e x= .int .u64 i)(hy:ev e y= .int k 33)(hb:Nat.blt d N=true)(hK:∀r:Int,ao P N ops K rest (bn e d (.int .u64 r)) w):
 ao P N ops K (⟨some d,.binOp .shr xt x y yt,ty,pos,af,none⟩::rest) e w:=by
 refine .val (v:= .int .u64 (i.fdiv (2^33))) ?_ hb (hK _);have e1:min 33 IntKind.u64.bits=33:=by decide
 simp [execOp,hx,hy,eqGuard,binOp,Op.shift,e1]
def vK(w:aa)(A:aj)(n:Nat)(bs:ai):Prop:=bs.length=n/\(∀b∈bs,0<=b/\b<=255)/\Rd w A n (fun j=> .int .u8 (bs.getD j 0))
theorem vK.below{w w':aa}{A:aj}{n:Nat}(h:vK w A n bs)(hb:Below w.heap.size w w'):vK w' A n bs:=⟨h.1,h.2.1,Rd.below h.2.2 hb⟩
theorem vK.at_{A:aj}{n:Nat}(h:vK w A n bs){j:Int}(h0:0<=j)(h1:j<n):0<=bs.getD j.toNat 0/\bs.getD j.toNat 0<=255:=by
 have hl:j.toNat<bs.length:=by rw [h.1];omega
 rw [dm,fq hl];exact h.2.1 _ (dK hl)
theorem Rf{u:TypeDesc}[bA P t u]{A:aj}{n:Nat}(hR:vK w A n bs)(hx:ev e x= .pointer (ay A i.toNat))(h1:i.toNat<n)(hp:zn u=true)(hb:Nat.blt d N=true)(hK:ao P N ops K rest (bn e d (.int .u8 (bs.getD i.toNat 0))) w):ao P N ops K (⟨some d,.load t x,ty,pos,af,none⟩::rest) e w:=
 .ld hR.2.2 hx h1 rfl hp hb hK
def Ez:Nat->ai->List (Nat×ad)
 | _,[]=> []
 | k,v::r=> (k,.int .i64 v)::Ez (k+1) r
theorem S1:∀(vs:ai) (k:Nat) (cells:Array ad),k+vs.length<=cells.size->∃out,Instr.fill (fun i=>some (i*1,1)) cells (Ez k vs)=some out/\out.size=cells.size/\(∀j,j<k->out[j]?=cells[j]?)/\(∀j,j<vs.length->out[k+j]?=vs[j]?.map (Value.int .i64))/\(∀j,k+vs.length<=j->out[j]?=cells[j]?)
 | [],k,cells,_=> ⟨cells,rfl,rfl,fun _ _=>rfl,fun j hj=>absurd hj (oF _),fun _ _=>rfl⟩
 | v::r,k,cells,h=>by
  have hk:k<cells.size:=by simp at h;omega
  obtain⟨out,h1,h2,h3,h4,h5⟩:=S1 r (k+1) (cells.setIfInBounds k (ak v)) (by simp at h|-;omega);refine⟨out,?_,by rw [h2];simp,fun j hj=>?_,fun j hj=>?_,fun j hj=>?_⟩
  ·show Instr.fill _ cells ((k,ak v)::Ez (k+1) r)=some out;rw [<-h1];simp [Instr.fill,Value.cells,show ¬cells.size<k+1 by omega]
  ·rw [h3 j (by omega),uE,az (by omega)]
  ·cases j with
   | zero=>rw [Nat.add_zero,h3 k (by omega),uE,aB rfl,aB hk];rfl
   | succ q=>
    have:=h4 q (by simpa using hj);rw [show k+ (q+1)=k+1+q by omega,this]
    rfl
  ·rw [h5 j (by simp at hj|-;omega),uE,az (by simp at hj;omega)]
theorem acK(vs:ai)(cells:Array ad)(h:cells.size=vs.length):Instr.fill (fun i=>some (i*1,1)) cells (Ez 0 vs)=some (vs.map (Value.int .i64)).toArray:=by
 obtain⟨out,h1,h2,_,h4,_⟩:=S1 vs 0 cells am;rw [h1]
 congr 1
 apply Array.ext';apply List.ext_getElem?;intro j
 by_cases hj:j<vs.length
 ·have:=h4 j hj;rw [Nat.zero_add]at this;simpa using this
 rw [me (by simpa [h2,h]using hj),me (by simpa using hj)]
theorem eZ{el:ae}{z:ad}{n:Nat}[bA P t (.slice el)][bq P el z 1 b]{ps:Array (Nat×ag)}(vs:ai)(hS:St w0 w ks)(hv:(ps.toList.map fun p=> (p.1,ev e p.2))=Ez 0 vs)(hn:vs.length=n)(oe:n≠0)(tp:n<=1000)(hz:z.cells= #[z])(hb:Nat.blt d N=true)(hK:∀A w',St w0 w' (ax el A n n vs::ks)->ao P N ops K rest (bn e d (.slice A n n)) w'):ao P N ops K (⟨some d,.buildSlice t n ps,ty,pos,af,none⟩::rest) e w:=by
 subst hn;obtain⟨inf,hi,dX,hs,gR⟩:=bq.get P el;have hA:=hS.alloc (vs.map (Value.int .i64)) el (by simp [maxLen];omega) (uk _);refine .val (w':=w.alloc (.cells (vs.map (Value.int .i64)).toArray el)) ?_ hb (hK _ _ (by simpa [ax]using hA));have hf:=acK vs ((Array.range (vs.length*1)).map ((#[z]:Array ad)[· % (#[z]:Array ad).size]!)) (by simp);have pM:(ps.map fun p=> (p.1,ev e p.2)).toList=Ez 0 vs:=by rw [Array.toList_map];exact hv
 have BS:¬16777216<vs.length:=by omega
 simp only [Nat.mul_one]at hf;simp [execOp,Instr.buildSlice,run_underlying (bA.out (P:=P) (t:=t)),sizeOf,typeInfo,zeroValue,hi,hs,dX,hz,newRow,hv,BS,oe];simp at hf;simp [hf]
theorem ZK{f0 f1 f2:Field}{z0 z1 z2 y0 y1 y2:ad}[bA P t (.struct #[f0,f1,f2])][bq P t (.agg #[z0,z1,z2]) 3 b]{x0 x2:ag}{v0 v2:ad}(rL:bq P f0.type y0 1 b0)(tX:bq P f1.type y1 1 b1)(rN:bq P f2.type y2 1 b2)(ho:f0.offset=0)(qS:f1.offset=1)(xr:f2.offset=2)(h0:ev e x0=v0)(h2:ev e x2=v2)(c0:v0.oneCell'=true)(c2:v2.oneCell'=true)(hb:Nat.blt d N=true)(hK:ao P N ops K rest (bn e d (.agg #[v0,z1,v2])) w):ao P N ops K (⟨some d,.build t #[(0,x0),(2,x2)],ty,pos,af,none⟩::rest) e w:=by
 obtain⟨inf,hi,dX,hs,gR⟩:=bq.get P t;obtain⟨CC,fm,_,o6,_⟩:=rL.get P f0.type;obtain⟨EB,mm,_,ug,_⟩:=tX.get P f1.type;obtain⟨GZ,ti,_,mI,_⟩:=rN.get P f2.type;have e0:v0.cells= #[v0]:=by cases v0<;>simp [Value.oneCell']at c0<;>rfl
 have e2:v2.cells= #[v2]:=by cases v2<;>simp [Value.oneCell']at c2<;>rfl
 have ez:(Value.agg #[z0,z1,z2]).cells= #[z0,z1,z2]:=O;refine .val (w':=w) ?_ hb hK;simp [execOp,Instr.build,run_underlying (bA.out (P:=P) (t:=t)),sizeOf,typeInfo,zeroValue,hi,dX,fm,o6,mm,ug,ti,mI,ho,qS,xr,h0,e0,h2,e2,ez,Instr.fill]
end
end Go.Proofs.YtkccgdhcpplblaaGreatDoor.Vc
namespace Go.Proofs.YtkccgdhcpplblaaGreatDoor.Vc.TS
open Go.RowKit Tryz
variable{b j:Nat}{w0 w' w:aa}{t:ae}{ks:List Ck}
def mY(x:TV):Int:=x.f*1000+x.g
def kT(x:TV):Int:=x.r*1000000+mY x
def qF(x:TV):Prop:=(0<=x.f/\x.f<1000)/\0<=x.g/\x.g<1000
def sR(x y:TV):Int:=if x.r<y.r then -1 else if y.r<x.r then 1 else 0
theorem qF.ix{x:TV}(h:qF x):0<=mY x/\mY x<1000000:=by unfold qF at h;unfold mY;omega
theorem Se{x y:TV}(hx:qF x)(hy:qF y)(h:mY y<mY x):sR x y<0↔kT x<kT y:=by
 have h1:=hx.ix;have h2:=hy.ix;unfold sR kT
 by_cases e:x.r<y.r
 ·rw [aB e];omega
 rw [az e]
 by_cases e2:y.r<x.r
 ·rw [aB e2];omega
 rw [az e2];omega
theorem G1(x:Int)(w:aa):aJ prog 266 [ak x] w (fun v w'=>v= .bool false/\w'=w):=by
 refine bC func266 O ntmps266 O (df O) (Ff O (dq O ?_));exact⟨by rw [cT (fun h=>h O)],O⟩
theorem aby(x y:Int)(w:aa):aJ prog 209 [ak x,ak y] w (fun v w'=>v=ak (if x<y then -1 else if y<x then 1 else 0)/\w'=w):=by
 refine bC func209 O ntmps209 O (df O) (bh O (aL (G1 x w) O ?_));rintro _ w1 ⟨rfl,rfl⟩;refine ar O (aL (G1 y _) O ?_);rintro _ w1 ⟨rfl,rfl⟩;refine aC O (Cd.fg O (dA O (Cd.fg O (dA O ?_))));refine aM _ O (fun h=>?_) (fun h=>?_)
 ·refine dM O (iH O ?_);exact⟨by rw [aB h],O⟩
 refine dA O (aM _ O (fun h2=>?_) (fun h2=>?_))
 ·refine dM O (iH O ?_);exact⟨by rw [az h,aB h2],O⟩
 refine dM O (iH O ?_);exact⟨by rw [az h,az h2],O⟩
theorem Il(x y:TV)(w:aa):
 aJ prog 305 [x.v,y.v] w (fun v w'=>v=ak (sR x y)/\St w w' []):=by
 refine bC func305 O ntmps305 O (df O) (bh O (oG (St.refl w) O O ?_));intro A2 w1 aH;refine oG aH O O fun A3 w2 aF=>ar O (aV (aF.rd 1 O) O (gP (aF.rd 1 O) O O O O O (aV (aF.rd 0 O) O (gP (aF.rd 0 O) O O O O O (aL (aby x.r y.r _) O ?_)))));rintro _ w3 ⟨rfl,rfl⟩;refine bH O (iH O ?_);exact⟨O,aF.none⟩
theorem TB{ds:List TV}(h:∀s∈ds,qF s)(i:Nat):qF (gs ds i):=by
 by_cases hi:i<ds.length
 ·rw [tV hi];exact h _ (dK _)
 have:gs ds i=QC:=by simp [gs,dm,me (Nat.le_of_not_lt hi)]
 rw [this];exact⟨⟨Int.le_refl _,an⟩,Int.le_refl _,an⟩
theorem RP.cap{ds mC:List TV}{a:Nat}(h:RP ds mC a b)(hc:∀s∈ds,qF s):∀s∈mC,qF s:=fun s hs=>hc s (h.perm.mem_iff.1 hs)
theorem Bj{A:aj}{n c:Nat}{L:List TV}{x s:TV}{i:Int}(e:i.toNat=j)(g:s=x)(h:St w0 w' (eJ t A n c (L.set i.toNat s)::ks)):St w0 w' (eJ t A n c (L.set j x)::ks):=by
 subst g;rw [<-e];exact h
theorem Qw{A:aj}{n c:Nat}{P X M Y S:List TV}{G:FuncId}(a b m:Nat)(ha:P.length=a)(hb:P.length+X.length+M.length=b)(hm:X.length=m)(kq:X.length=Y.length)(hn:n<=4000000000000)(hS:St w0 w (eJ t A n c (P++X++M++Y++S)::ks)):
 aJ prog 357 [.slice A n c,ak a,ak b,ak m,.func (.func G) #[] #[]] w (fun v w'=>v= .tuple #[]/\St w0 w' (eJ t A n c (P++Y++M++X++S)::ks)):=by
 have ve:(P++X++M++Y++S).length=n:=(hS.ku 0 O).1;simp only [ck]at ve;refine bC func357 O ntmps357 O (CQ O) (bL O ?_);refine Cd.loop (α:=Nat) (fun k=> [(0,.slice A n c),(1,ak a),(2,ak b),(3,ak m),(4,.func (.func G) #[] #[]),(10,ak k)]) (fun k w'=>k<=m/\St w0 w' (eJ t A n c (P++ (Y.take k++X.drop k)++M++ (X.take k++Y.drop k)++S)::ks)) (fun k=>m - k) 0 (aqv O) ⟨bg _,by simpa using hS⟩ ?_;rintro k e w1 ⟨hk,aH⟩;refine bL O (aM _ O (fun h1=>?_) (fun h1=>?_))
 ·have pH:k<X.length:=by omega
  have NW:k<Y.length:=by omega
  have hR:=aH.ku 0 O;have ga:tg (P++ (Y.take k++X.drop k)++M++ (X.take k++Y.drop k)++S) ((a:Int)+ (k:Int))=X[k]:=by
   have e1:((a:Int)+ (k:Int)).toNat=P.length+k:=by omega
   unfold tg;rw [e1,dm];simp only [gV];rw [mc (by omega),mc (by simp;omega),ma (by simp;omega)];simp [Nat.min_eq_left (Nat.le_of_lt NW),pH]
  have gb:tg (P++ (Y.take k++X.drop k)++M++ (X.take k++Y.drop k)++S) ((b:Int)+ (k:Int))=Y[k]:=by
   have e1:((b:Int)+ (k:Int)).toNat=P.length+X.length+M.length+k:=by omega
   unfold tg;rw [e1,dm];simp only [gV];rw [mc (by omega),mc (by simp;omega),mc (by simp;omega),mc (by simp;omega),mc (by simp;omega),ma (by simp;omega)];have e2:P.length+X.length+M.length+k - P.length - (List.take k Y).length - (List.drop k X).length - M.length - (List.take k X).length=0:=by simp;omega
   rw [e2];simp [NW]
  have hx:=acD P X M Y S k kq pH X[k] Y[k] (by simp [pH]) (by simp [NW]);have ea:((a:Int)+ (k:Int)).toNat=P.length+k:=by omega
  have eb:((b:Int)+ (k:Int)).toNat=P.length+X.length+M.length+k:=by omega
  generalize hL:P++ (Y.take k++X.drop k)++M++ (X.take k++Y.drop k)++S=L at*;have D2:L.length=n:=hR.1;refine dA O ?_;refine kK [21,23] [yS (A) (n) (c),yI ((a:Int)),yI ((k:Int)),yI (((a:Int))+ ((k:Int))),yS (A) (n) (c),yI ((b:Int)),yI ((k:Int)),yI (((b:Int))+ ((k:Int))),yS (A) (n) (c),yI ((b:Int)),yI ((k:Int)),yI (((b:Int))+ ((k:Int))),yP (ay (A) ((((b:Int))+ ((k:Int))).toNat*3)),.ex ((tg (L) (((b:Int))+ ((k:Int)))).v),yS (A) (n) (c),yI ((a:Int)),yI ((k:Int)),yI (((a:Int))+ ((k:Int))),yP (ay (A) ((((a:Int))+ ((k:Int))).toNat*3)),.ex ((tg (L) (((a:Int))+ ((k:Int)))).v),yP (ay (A) ((((a:Int))+ ((k:Int))).toNat*3)),.pr (fun _ w'=>St w0 w' (eJ t A n c (L.set (P.length+k) Y[k])::ks)),yP (ay (A) ((((b:Int))+ ((k:Int))).toNat*3)),.pr (fun _ w'=>St w0 w' (eJ t A n c ((L.set (P.length+k) Y[k]).set (P.length+X.length+M.length+k) X[k])::ks))] (ly (ly (ly (ly (ly (ly (ly (ly (ly (ly (ly (ly (ly (ly (ly (ly (ly (ly (ly (ly (ly (cH.2 ⟨Ye.cJ (fun v w w' h hb=>h.aq hb),(ly (cH.2 ⟨Ye.cJ (fun v w w' h hb=>h.aq hb),(fun _ h=>by cases h)⟩))⟩)))))))))))))))))))))) ?_ ?_
  ·refine⟨bZ O,bZ O,bZ O,aP fun _ _=>aI O (bG O O),bZ O,bZ O,bZ O,aP fun _ _=>aI O (bG O O),bZ O,bZ O,bZ O,aP fun _ _=>aI O (bG O O),cP fun _ _ hb _ _ _=>lq (hR.aq hb) O (bG O O),cP fun _ _ hb _ _ _=>pn (hR.aq hb) O am O (bG O O),bZ O,bZ O,bZ O,aP fun _ _=>aI O (bG O O),cP fun _ _ hb _ _ _=>lq (hR.aq hb) O (bG O O),cP fun _ _ hb _ _ _=>pn (hR.aq hb) O am O (bG O O),cP fun _ _ hb _ _ _=>lq (hR.aq hb) O (bG O O),?_,?_,?_,au⟩
   ·refine kO fun e1 w1 hb hp aU hq=>?_
    exact zE 0 (aH.aq hb) O O O am fun w6 bo=>ao.n (gn.st O (Bj ea gb bo))
   ·refine dP 1 fun e1 w1 hp aU hq=>?_
    have fh:=hp 21 _ _ (by kernel_rfl) O O (by kernel_rfl);have iJ:=fh.ku 0 O;refine lq (iJ) O (ao.n (iz O (by exact O)))
   refine sS 1 fun e1 w1 hp aU hq=>?_
   have fh:=hp 21 _ _ (by kernel_rfl) O O (by kernel_rfl);have iJ:=fh.ku 0 O;exact zE 0 fh O O O am fun w7 bK=>ao.n (gn.st O (Bj eb ga bK))
  intro u w5 _ hu _ _;have ba:=hu 23 _ O (by kernel_rfl);rw [hx]at ba;refine jD O (aI O (aT O (tQ ?_)));exact⟨k+1,by show m - (k+1)<m - k;omega,(aqv O),am,ba⟩
 have U5:k=m:=by omega
 subst U5;rw [iY (by omega),iY (by omega),List.drop_eq_nil_of_le (by omega),List.drop_eq_nil_of_le (by omega),fI,fI]at aH;refine bp O (bt (Da O ?_));exact zq ⟨O,aH⟩
theorem amd{A:aj}{n c:Nat}{P X Y S:List TV}{G:FuncId}(a m b:Nat)(ha:P.length=a)(hm:P.length+X.length=m)(hb:P.length+X.length+Y.length=b)(vn:0<X.length)(GW:0<Y.length)(hn:n<=4000000000000)(hS:St w0 w (eJ t A n c (P++ (X++ (Y++S)))::ks)):
 aJ prog 354 [.slice A n c,ak a,ak m,ak b,.func (.func G) #[] #[]] w (fun v w'=>v= .tuple #[]/\St w0 w' (eJ t A n c (P++ (Y++ (X++S)))::ks)):=by
 have ve:(P++ (X++ (Y++S))).length=n:=(hS.ku 0 O).1;simp only [ck]at ve;generalize hT:P++ (Y++ (X++S))=T;refine bC func354 O ntmps354 O (CQ O) ?_;refine bh O (dZ O (ar O (dZ O (aC O ?_))));refine Cd.loop (α:=List TV×List TV×List TV×List TV) (fun z=> [(0,.slice A n c),(2,ak m),(4,.func (.func G) #[] #[]),(10,ak (z.2.1.length:Int)),(11,ak (z.2.2.1.length:Int))]) (fun z w'=>z.1.length+z.2.1.length=m/\0<z.2.1.length/\0<z.2.2.1.length/\z.1++ (z.2.2.1++ (z.2.1++z.2.2.2))=T/\z.1.length+ (z.2.1.length+ (z.2.2.1.length+z.2.2.2.length))=n/\St w0 w' (eJ t A n c (z.1++ (z.2.1++ (z.2.2.1++z.2.2.2)))::ks)) (fun z=>z.2.1.length+z.2.2.1.length) (P,X,Y,S)
  ⟨rfl,rfl,rfl,by show Value.int .i64 ((m:Int) - (a:Int))=ak (X.length:Int);congr 1;omega,by show Value.int .i64 ((b:Int) - (m:Int))=ak (Y.length:Int);congr 1;omega,au⟩ ⟨hm,vn,GW,hT,by show P.length+ (X.length+ (Y.length+S.length))=n;omega,hS⟩ ?_
 rintro⟨P',X',Y',S'⟩ e w1 ⟨jj,eQ,lG,rR,wg,aH⟩;dsimp only at jj eQ lG rR wg aH|-;refine bL O (aM _ O (fun h1=>?_) (fun h1=>?_))
 ·refine dA O (aM _ O (fun h2=>?_) (fun h2=>?_))
  ·have hj:Y'.length<=X'.length:=by omega
   obtain⟨X1,X2,rfl,xl⟩:∃X1 X2,X'=X1++X2/\X1.length=Y'.length:=⟨X'.take Y'.length,X'.drop Y'.length,(List.take_append_drop _ _).symm,by simp;omega⟩;have hlen:(X1++X2).length=X1.length+X2.length:=ck;simp only [ck]at jj eQ wg h1 h2;refine aA O (dZ O (ar O ?_));refine aqm (Qw (P:=P') (X:=X1) (M:=X2) (Y:=Y') (S:=S') P'.length m Y'.length O am xl xl hn (by simpa using aH)) O (by show [Value.slice A n c,ak ((m:Int) - ((X1++X2).length:Int)),ak m,ak (Y'.length:Int),.func (.func G) #[] #[]]=_;congr 3;simp;omega) O ?_;rintro _ w2 ⟨rfl,aF⟩;refine ar O (dZ O (aT O (tQ ?_)));exact⟨(P'++Y',X2,X1,S'),by show X2.length+X1.length< (X1++X2).length+Y'.length;simp;omega,⟨O,O,O,by show Value.int .i64 _=ak _;congr 1;simp;omega,aE (fun k:Nat=>Value.int .i64 (k:Int)) xl.symm,au⟩,by simp;omega,by show 0<X2.length;omega,by show 0<X1.length;omega,by show(P'++Y')++ (X1++ (X2++S'))=T;rw [<-rR];simp,by show(P'++Y').length+_=n;simp;omega,by simpa using aF⟩
  have hj:X'.length<Y'.length:=by omega
  obtain⟨Y1,Y2,rfl,Gf⟩:∃Y1 Y2,Y'=Y1++Y2/\Y2.length=X'.length:=⟨Y'.take (Y'.length - X'.length),Y'.drop (Y'.length - X'.length),(List.take_append_drop _ _).symm,by simp;omega⟩;have hlen:(Y1++Y2).length=Y1.length+Y2.length:=ck;simp only [ck]at lG wg h1 h2 hj;refine aA O (dZ O (ar O (aI O (ar O (dZ O (ar O ?_))))));refine aqm (Qw (P:=P') (X:=X') (M:=Y1) (Y:=Y2) (S:=S') P'.length (m+Y1.length) X'.length O am O Gf.symm hn (by simpa using aH)) O (by show [Value.slice A n c,ak ((m:Int) - (X'.length:Int)),ak ((m:Int)+ ((Y1++Y2).length:Int) - (X'.length:Int)),ak (X'.length:Int),.func (.func G) #[] #[]]=_;rw [show(m:Int)+ ((Y1++Y2).length:Int) - (X'.length:Int)=((m+Y1.length:Nat):Int) by omega,show(m:Int) - (X'.length:Int)=(P'.length:Int) by omega]) O ?_;rintro _ w2 ⟨rfl,aF⟩;refine ar O (dZ O (aT O (tQ ?_)));exact⟨(P',Y2,Y1,X'++S'),by show Y2.length+Y1.length<X'.length+ (Y1++Y2).length;simp;omega,⟨O,O,O,aE (fun k:Nat=>Value.int .i64 (k:Int)) Gf.symm,by show Value.int .i64 _=ak _;congr 1;simp;omega,au⟩,by show P'.length+Y2.length=m;omega,by show 0<Y2.length;omega,by show 0<Y1.length;omega,by show P'++ (Y1++ (Y2++ (X'++S')))=T;rw [<-rR];simp,by show P'.length+ (Y2.length+ (Y1.length+ (X'++S').length))=n;simp;omega,by simpa using aF⟩
 have kq:X'.length=Y'.length:=by omega
 refine bp O (bt (cS O (dZ O (ar O ?_))));refine aqm (Qw (P:=P') (X:=X') (M:=[]) (Y:=Y') (S:=S') P'.length m X'.length O (by simpa using jj) O kq hn (by simpa using aH)) O (by show [Value.slice A n c,ak ((m:Int) - (X'.length:Int)),ak m,ak (X'.length:Int),.func (.func G) #[] #[]]=_;congr 3;omega) O ?_;rintro _ w2 ⟨rfl,aF⟩;refine aT O (zq ?_);exact⟨O,by rw [<-rR];simpa using aF⟩
theorem V6{A:aj}{n c:Nat}{ds:List TV}(a b:Nat)(hb:b<=n)(ha:a<=n)(hn:n<=4000000000000)(hc:∀s∈ds,qF s)(yN:∀x y,a<=x->x<y->y<b->mY (gs ds x)<mY (gs ds y))(hS:St w0 w (eJ t A n c ds::ks)):
 aJ prog 344 [.slice A n c,ak a,ak b,.func (.func 305) #[] #[]] w (fun v w'=>v= .tuple #[]/\∃mC,RP ds mC a b/\SR kT mC a b/\St w0 w' (eJ t A n c mC::ks)):=by
 have ve:ds.length=n:=(hS.ku 0 O).1;refine bC func344 O ntmps344 O (CQ O) ?_;refine bh O (aI O (aC O ?_));refine Cd.loop (α:=Nat×List TV) (fun z=> [(0,.slice A n c),(1,ak a),(2,ak b),(3,.func (.func 305) #[] #[]),(8,ak (z.1:Int))]) (fun z w'=>a+1<=z.1/\RP ds z.2 a b/\SR kT z.2 a z.1/\(∀x,z.1<=x->gs z.2 x=gs ds x)/\(∀x y,a<=x->x<z.1->z.1<=y->y<b->mY (gs z.2 x)<mY (gs ds y))/\St w0 w' (eJ t A n c z.2::ks)) (fun z=>b - z.1) (a+1,ds) (aqv O) ⟨br _,RP.refl _ _ _,SR.one _ _ (br _),fun _ _=>O,fun x y h1 h2 h3 h4=>yN x y h1 (Nat.lt_of_lt_of_le h2 h3) h4,hS⟩ ?_;rintro⟨i,cur⟩ e w1 ⟨hi,hp,hs,aU,Vd,aH⟩;dsimp only at hi hp hs aU Vd aH|-;refine bL O (aM _ O (fun h1=>?_) (fun h1=>?_))
 ·refine dA O ?_;refine Cd.loop (α:=Nat×List TV) (fun z=> [(0,.slice A n c),(1,ak a),(2,ak b),(3,.func (.func 305) #[] #[]),(8,ak i),(9,ak (z.1:Int))]) (fun z w'=>RP ds z.2 a b/\wL kT z.2 a i z.1/\gs z.2 z.1=gs ds i/\(∀x,i<x->gs z.2 x=gs ds x)/\(∀x y,a<=x->x<=i->x≠z.1->i<=y->y<b->mY (gs z.2 x)<mY (gs ds y))/\St w0 w' (eJ t A n c z.2::ks)) (fun z=>z.1) (i,cur) (aqv O) ⟨hp,wL.start hs am,aU i (br _),fun x hx=>aU x (Nat.le_of_lt hx),fun x y h3 h4 h5 h6 h7=>Vd x y h3 (by have h5:x≠i:=h5;omega) h6 h7,aH⟩ ?_;rintro⟨j,cu⟩ e w2 ⟨jL,hI,jw,J9,En,aF⟩;dsimp only at jL hI jw J9 En aF|-;have de:cu.length=n:=(aF.ku 0 O).1;have hR:=aF.ku 0 O;have U9:=hI.low;have hhigh:=hI.high;have ua:=TB (jL.cap hc);refine bL O ?_
  by_cases Uf:a<j
  ·
   have ej:((j:Int) - 1).toNat=j - 1:=by omega
   have g1:tg cu j=gs cu j:=O;have g2:tg cu ((j:Int) - 1)=gs cu (j - 1):=by unfold tg gs;rw [ej]
   refine dU [xI ((j:Int)),xI ((a:Int)),xB (decide (((a:Int))< ((j:Int)))),xB (true),.ex (.func (.func 305) #[] #[]),xS (A) (n) (c),xI ((j:Int)),xP (ay (A) (((j:Int)).toNat*3)),.ex ((tg (cu) ((j:Int))).v),xS (A) (n) (c),xI ((j:Int)),xI (((j:Int)) - ((1:Int))),xP (ay (A) ((((j:Int)) - ((1:Int))).toNat*3)),.ex ((tg (cu) (((j:Int)) - ((1:Int)))).v),xI (sR (gs cu j) (gs cu (j - 1))),xB (decide ((sR (gs cu j) (gs cu (j - 1)))< ((0:Int)))),xB (decide ((sR (gs cu j) (gs cu (j - 1)))< ((0:Int))))] O (eG O) ?_ ?_
   ·refine⟨Dr O,Dr O,Dr O,fun _ _ _ _ _=>Dk O (by exact aE Value.bool (dz am)),Dr O,Dr O,Dr O,fun _ _ hb _ _=>aw O (lq (hR.aq hb) O Az),fun _ _ hb _ _=>aw O (pn (hR.aq hb) O am O Az),Dr O,Dr O,fun _ _ _ _ _=>aw O (dZ O Az),fun _ _ hb _ _=>aw O (lq (hR.aq hb) O Az),fun _ _ hb _ _=>aw O (pn (hR.aq hb) O am O Az),?_,Dr O,Dr O,au⟩;intro e1 w1 hb hp aU;refine aw O ?_;refine aqm (Il (gs cu j) (gs cu (j - 1)) _) O (by rw [<-g2];rfl) O ?_;rintro _ w9 ⟨rfl,jN⟩;refine ao.n ?_;exact eP.dn jN.below (by exact O)
   intro u w3 gI _;have aQ:=aF.aq gI;have yD:=Se (ua j) (ua (j - 1)) (by rw [jw];exact En (j - 1) i am am am (br _) am);refine eS O (aM _ O (fun h2=>?_) (fun h2=>?_))
   ·have iZ:=aQ.ku 0 O;have fG:kT (gs cu j)<kT (gs cu (j - 1)):=yD.1 h2;have MH:=fun x=>FX (l:=cu) (i:=j) (j:=j - 1) am am x
    refine dA O ?_;refine kK [15,17] [yS (A) (n) (c),yI ((j:Int)),yS (A) (n) (c),yI ((j:Int)),yI (((j:Int)) - ((1:Int))),yS (A) (n) (c),yI ((j:Int)),yI (((j:Int)) - ((1:Int))),yP (ay (A) ((((j:Int)) - ((1:Int))).toNat*3)),.ex ((tg (cu) (((j:Int)) - ((1:Int)))).v),yS (A) (n) (c),yI ((j:Int)),yP (ay (A) (((j:Int)).toNat*3)),.ex ((tg (cu) ((j:Int))).v),yP (ay (A) (((j:Int)).toNat*3)),.pr (fun _ w'=>St w0 w' (eJ t A n c (cu.set j (gs cu (j - 1)))::ks)),yP (ay (A) ((((j:Int)) - ((1:Int))).toNat*3)),.pr (fun _ w'=>St w0 w' (eJ t A n c (swp cu j (j - 1))::ks))] (ly (ly (ly (ly (ly (ly (ly (ly (ly (ly (ly (ly (ly (ly (ly (cH.2 ⟨Ye.cJ (fun v w w' h hb=>h.aq hb),(ly (cH.2 ⟨Ye.cJ (fun v w w' h hb=>h.aq hb),(fun _ h=>by cases h)⟩))⟩)))))))))))))))) ?_ ?_
    ·refine⟨bZ O,bZ O,bZ O,bZ O,aP fun _ _=>dZ O (bG O O),bZ O,bZ O,aP fun _ _=>dZ O (bG O O),cP fun _ _ hb _ _ _=>lq (iZ.aq hb) O (bG O O),cP fun _ _ hb _ _ _=>pn (iZ.aq hb) O am O (bG O O),bZ O,bZ O,cP fun _ _ hb _ _ _=>lq (iZ.aq hb) O (bG O O),cP fun _ _ hb _ _ _=>pn (iZ.aq hb) O am O (bG O O),cP fun _ _ hb _ _ _=>lq (iZ.aq hb) O (bG O O),?_,?_,?_,au⟩
     ·refine kO fun e1 w1 hb hp aU hq=>?_
      exact zE 0 (aQ.aq hb) O O O am fun w6 bo=>ao.n (gn.st O (Bj (i:=(j:Int)) O g2 bo))
     ·refine dP 1 fun e1 w1 hp aU hq=>?_
      have fh:=hp 15 _ _ (by kernel_rfl) O O (by kernel_rfl);have iJ:=fh.ku 0 O;have Gw:(cu.set j (gs cu (j - 1))).length=n:=by rw [mA];exact de
      refine lq (iJ) O (ao.n (iz O (by exact O)))
     refine sS 1 fun e1 w1 hp aU hq=>?_
     have fh:=hp 15 _ _ (by kernel_rfl) O O (by kernel_rfl);have iJ:=fh.ku 0 O;have Gw:(cu.set j (gs cu (j - 1))).length=n:=by rw [mA];exact de
     exact zE 0 fh O O O am fun w7 bK=>ao.n (gn.st O (Bj ej g1 bK))
    intro u w5 _ hu _ _;have ba:=hu 17 _ O (by kernel_rfl);refine jD O (dZ O (aT O (tQ ?_)));exact⟨(j - 1,swp cu j (j - 1)),by show j - 1<j;omega,⟨O,O,O,O,O,by show Value.int .i64 _=ak _;congr 1;omega,au⟩,jL.trans (Qx am am (Nat.le_of_lt Uf) am am am) (br _) (br _),hI.next Uf am fG,by show gs (swp cu j (j - 1)) (j - 1)=_;rw [MH,aB O];exact jw,fun x hx=>by rw [MH,az (by omega),az (by omega)];exact J9 x hx,fun x y h3 h4 h5 h6 h7=>by { have h5:x≠j - 1:=h5;rw [MH,az h5];by_cases e:x=j; { rw [aB e];exact En (j - 1) y am am am h6 h7 }; { rw [az e];exact En x y h3 h4 e h6 h7 } },ba⟩
   refine bp O (bt (cS O (aI O (aT O (tQ ?_)))));exact⟨(i+1,cu),by show b - (i+1)<b - i;omega,(aqv O),by show a+1<=i+1;omega,jL,hI.stop (.inr (Int.not_lt.1 fun h=>h2 (yD.2 h))),fun x hx=>J9 x (by have hx:i+1<=x:=hx;omega),fun x y h3 h4 h5 h6=>by { have h4:x<i+1:=h4;have h5:i+1<=y:=h5;by_cases e:x=j; { rw [e,jw];exact yN i y am am h6 }; { exact En x y h3 am e am h6 } },aQ⟩
  refine dU [xI ((j:Int)),xI ((a:Int)),xB (decide (((a:Int))< ((j:Int)))),xB (false),xU,xU,xU,xU,xU,xU,xU,xU,xU,xU,xU,xU,xB (false)] O (eG O) ?_ ?_
  ·exact⟨Dr O,Dr O,Dr O,fun _ _ _ _ _=>Dk O (by exact aE Value.bool (cT am)),Dr O,Dr O,Dr O,Dr O,Dr O,Dr O,Dr O,Dr O,Dr O,Dr O,Dr O,Dr O,Dr O,au⟩
  intro u w3 gI _;have aQ:=aF.aq gI;refine eS O (Cd.fg O ?_);refine bp O (bt (cS O (aI O (aT O (tQ ?_)))));exact⟨(i+1,cu),by show b - (i+1)<b - i;omega,(aqv O),by show a+1<=i+1;omega,jL,hI.stop (.inl am),fun x hx=>J9 x (by have hx:i+1<=x:=hx;omega),fun x y h3 h4 h5 h6=>by { have h4:x<i+1:=h4;have h5:i+1<=y:=h5;by_cases e:x=j; { rw [e,jw];exact yN i y am am h6 }; { exact En x y h3 am e am h6 } },aQ⟩
 refine bp O (bt (Da O ?_));exact zq ⟨O,cur,hp,hs.sub (br _) am,aH⟩
end Go.Proofs.YtkccgdhcpplblaaGreatDoor.Vc.TS
namespace Go.Proofs.YtkccgdhcpplblaaGreatDoor.Vc
open TS Tryz
def qa(m1 m2:Nat)(kind:Int)(a b:Int):Prop:=
 if kind=1 then(a=0\/b=0\/(a=(m1:Int) - 1/\b=(m2:Int) - 1))else if kind=2 then(a=(m1:Int) - 1\/b=(m2:Int) - 1\/(a=0/\b=0))else((a=0/\b=0)\/(a=(m1:Int) - 1/\b=(m2:Int) - 1))
instance (m1 m2:Nat)(kind a b:Int):Decidable (qa m1 m2 kind a b):=by unfold qa;infer_instance
def xb(m1 m2:Nat)(kind:Int)(a:Int)(b:Nat):List (Int×Int):=((bY b).filter fun b=>decide (¬qa m1 m2 kind a b)).map fun b=> (a,b)
def gQ(m1 m2:Nat)(kind:Int)(a b:Nat):List (Int×Int):=(bY a).flatMap (fun a=>xb m1 m2 kind a m2)++xb m1 m2 kind a b
def sB(rk1 rk2:Int->Int)(kind:Int)(c:Int×Int):TV:=⟨c.1,c.2,dh rk1 rk2 kind c⟩
section
variable {m1 m2:Nat} {kind:Int} {n1 n2:Int} {rk1 rk2:Int->Int} {di db:Int->Int->Prop}
theorem wx(n:Nat):bY (n+1)=bY n++ [(n:Int)]:=by
 unfold bY;rw [jU,iI];rfl
theorem H3(a:Int):xb m1 m2 kind a 0=[]:=rfl
theorem Lt(a:Nat):gQ m1 m2 kind (a+1) 0=gQ m1 m2 kind a m2:=by
 unfold gQ;rw [wx,List.flatMap_append,H3,fI];simp
theorem aaE{a b:Nat}(h:¬qa m1 m2 kind a b):gQ m1 m2 kind a (b+1)=gQ m1 m2 kind a b++ [((a:Int),(b:Int))]:=by
 unfold gQ xb;rw [wx,sK,iI,gV];simp [h]
theorem aaF{a b:Nat}(h:qa m1 m2 kind a b):gQ m1 m2 kind a (b+1)=gQ m1 m2 kind a b:=by
 unfold gQ xb;rw [wx,sK,iI];simp [h]
theorem Ry(a:Int)(b:Nat):(xb m1 m2 kind a b).length<=b:=by
 unfold xb;rw [fS];refine mS (sL _ _) ?_;rw [bY,fS,rA];exact br _
theorem Rx:∀a b:Nat,b<=m2->(gQ m1 m2 kind a b).length<=a*m2+b:=by
 intro a
 induction a with
 | zero=>intro b hb;have:=Ry (m1:=m1) (m2:=m2) (kind:=kind) ((0:Nat):Int) b;simpa [gQ,bY]using this
 | succ a ih=>
  intro b hb;have h1:=ih m2 (br _);rw [<-Lt]at h1;have h2:=Ry (m1:=m1) (m2:=m2) (kind:=kind) ((a+1:Nat):Int) b;unfold gQ at h1|-;rw [H3,fI]at h1;rw [ck,Nat.succ_mul];omega
theorem Lr{c:Int×Int}:c∈gQ m1 m2 kind m1 0↔(0<=c.1/\c.1<m1)/\(0<=c.2/\c.2<m2)/\¬qa m1 m2 kind c.1 c.2:=by
 unfold gQ;rw [H3,fI,List.mem_flatMap];unfold xb;constructor
 ·rintro⟨a,ha,h⟩;obtain⟨b,hb,rfl⟩:=dF.1 h;rw [gy,ky,kB]at hb;exact⟨(ky _ _).1 ha,hb.1,hb.2⟩
 rintro⟨h1,h2,h3⟩;exact⟨c.1,(ky _ _).2 h1,dF.2 ⟨c.2,gy.2 ⟨(ky _ _).2 h2,dz h3⟩,O⟩⟩
theorem Ls(h:m2<=1000):(gQ m1 m2 kind m1 0).Pairwise fun c d=>c.1*1000+c.2<d.1*1000+d.2:=by
 unfold gQ;rw [H3,fI];refine List.pairwise_flatMap.2 ⟨fun a _=>?_,(mM m1).imp_of_mem fun {a a'} ha z7 fG x hx y hy=>?_⟩
 ·unfold xb;refine oD.2 (((mM m2).filter _).imp fun h=>?_);show a*1000+_<a*1000+_;omega
 unfold xb at hx hy;obtain⟨b,hb,rfl⟩:=dF.1 hx;obtain⟨b',yw,rfl⟩:=dF.1 hy;have h1:=(ky _ _).1 (gy.1 hb).1;have h2:=(ky _ _).1 (gy.1 yw).1;show a*1000+b<a'*1000+b';omega
theorem Wy(h1:gg m1 n1 rk1 di)(h2:gg m2 n2 rk2 db)(hk:0<=kind/\kind<=2){k:Nat}(hn:(k:Int)=iM n1 n2 kind){c:Int×Int}:((0<=c.1/\c.1<m1)/\(0<=c.2/\c.2<m2)/\¬qa m1 m2 kind c.1 c.2)↔∃i:Nat,i<k/\nq m1 m2 rk1 rk2 kind i c:=by
 have z1:=h1.r0;have z2:=h2.r0;have t1:=h1.rt;have t2:=h2.rt;have w1:=h1.two;have w2:=h2.two;have m1n:=h1.n0;have m2n:=h2.n0;obtain⟨a,b⟩:=c;show((0<=a/\a<m1)/\(0<=b/\b<m2)/\¬qa m1 m2 kind a b)↔∃i:Nat,i<k/\(0<=a/\a<m1)/\(0<=b/\b<m2)/\rk1 a+rk2 b+fD kind=i/\¬((kind=1/\(a=0\/b=0))\/(kind=2/\(a=(m1:Int) - 1\/b=(m2:Int) - 1)));unfold iM at hn;constructor
 ·rintro⟨ha,hb,hl⟩;have ra:=h1.eE ha;have rb:=h2.eE hb;have za:=fun h=>h1.zero ha h;have zb:=fun h=>h2.zero hb h
  have ta:=fun h=>h1.whole ha h;have tb:=fun h=>h2.whole hb h
  unfold qa at hl;unfold fD
  by_cases k1:kind=1
  ·rw [aB k1]at hl;rw [az (by omega)]at hn;refine⟨(rk1 a+rk2 b).toNat,?_,ha,hb,?_,am⟩
   ·have:¬(rk1 a=n1/\rk2 b=n2):=fun h=>hl (.inr (.inr ⟨ta h.1,tb h.2⟩))
    omega
   rw [aB k1];have:rk1 a≠ -1:=fun h=>hl (.inl (za h))
   have:rk2 b≠ -1:=fun h=>hl (.inr (.inl (zb h)))
   omega
  rw [az k1]at hl|-
  by_cases k2:kind=2
  ·rw [aB k2]at hl;rw [az (by omega)]at hn;have q1:rk1 a≠n1:=fun h=>hl (.inl (ta h))
   have q2:rk2 b≠n2:=fun h=>hl (.inr (.inl (tb h)))
   have q3:¬(rk1 a= -1/\rk2 b= -1):=fun h=>hl (.inr (.inr ⟨za h.1,zb h.2⟩))
   exact⟨(rk1 a+rk2 b+1).toNat,am,ha,hb,am,am⟩
  rw [az k2]at hl;rw [aB (by omega)]at hn;have q3:¬(rk1 a= -1/\rk2 b= -1):=fun h=>hl (.inl ⟨za h.1,zb h.2⟩)
  have q4:¬(rk1 a=n1/\rk2 b=n2):=fun h=>hl (.inr ⟨ta h.1,tb h.2⟩)
  exact⟨(rk1 a+rk2 b+1).toNat,am,ha,hb,am,am⟩
 rintro⟨i,hi,ha,hb,hr,he⟩;refine⟨ha,hb,fun hl=>?_⟩;have ra:=h1.eE ha;have rb:=h2.eE hb;unfold fD at hr;unfold qa at hl
 by_cases k1:kind=1
 ·rw [aB k1]at hl hr;rw [az (by omega)]at hn;rcases hl with h | h | ⟨h,h'⟩
  ·exact he (.inl ⟨k1,.inl h⟩)
  ·exact he (.inl ⟨k1,.inr h⟩)
  rw [h,h',t1,t2]at hr;omega
 rw [az k1]at hl hr
 by_cases k2:kind=2
 ·rw [aB k2]at hl;rcases hl with h | h | ⟨h,h'⟩
  ·exact he (.inr ⟨k2,.inl h⟩)
  ·exact he (.inr ⟨k2,.inr h⟩)
  rw [h,h',z1,z2]at hr;omega
 rw [az k2]at hl;rw [aB (by omega)]at hn;rcases hl with⟨h,h'⟩ | ⟨h,h'⟩
 ·rw [h,h',z1,z2]at hr;omega
 rw [h,h',t1,t2]at hr;omega
end
theorem Xm{α:Type}(k:α->Int):∀ {l' l:List α},l.Perm l'->l.Pairwise (fun x y=>k x<=k y)->l'.Pairwise (fun x y=>k x<k y)->l=l'
 | [],l,h,_,_=>h.eq_nil
 | b::r',l,h,h1,h2=>by
  cases l with
  | nil=>exact absurd h.symm.eq_nil (by simp)
  | cons a r=>
   have eA:a=b:=by
    have ha:a∈b::r':=h.subset (List.mem_cons_self ..);have hb:b∈a::r:=h.symm.subset (List.mem_cons_self ..);rcases iX.1 ha with e | e
    ·exact e
    ·have h3:=(List.pairwise_cons.1 h2).1 a e;rcases iX.1 hb with e' | e'
     ·exact e'.symm
     ·have h4:=(List.pairwise_cons.1 h1).1 b e';omega
   subst eA;rw [Xm k (h.cons_inv) (List.pairwise_cons.1 h1).2 (List.pairwise_cons.1 h2).2]
theorem alr{m1 m2:Nat}{rk1 rk2:Int->Int}{kind:Int}{i:Int}(h:m2<=1000):(CR m1 m2 rk1 rk2 kind i).Pairwise fun c d=>c.1*1000+c.2<d.1*1000+d.2:=by
 unfold CR;refine List.pairwise_flatMap.2 ⟨fun a _=>?_,(mM m1).imp_of_mem fun {a a'} ha z7 fG x hx y hy=>?_⟩
 ·refine oD.2 (((mM m2).filter _).imp fun h=>?_);show a*1000+_<a*1000+_;omega
 obtain⟨b,hb,rfl⟩:=dF.1 hx;obtain⟨b',yw,rfl⟩:=dF.1 hy;have h1:=(ky _ _).1 (gy.1 hb).1;have h2:=(ky _ _).1 (gy.1 yw).1;show a*1000+b<a'*1000+b';omega
theorem XA{m1 m2:Nat}{rk1 rk2:Int->Int}{kind:Int}(h:m2<=1000)(h1:m1<=1000):∀k:Nat,((cK m1 m2 rk1 rk2 kind k).map (sB rk1 rk2 kind)).Pairwise fun x y=>kT x<kT y
 | 0=>List.Pairwise.nil
 | k+1=>by
  rw [cK,iI,List.pairwise_append];refine⟨XA h h1 k,oD.2 ((alr h).imp_of_mem fun {c d} hc hd fG=>?_),fun x hx y hy=>?_⟩
  ·have e1:=(Bf.1 hc).2.2.1;have e2:=(Bf.1 hd).2.2.1;show(dh rk1 rk2 kind c)*1000000+ (c.1*1000+c.2)< (dh rk1 rk2 kind d)*1000000+ (d.1*1000+d.2);omega
  ·obtain⟨c,hc,rfl⟩:=dF.1 hx;obtain⟨d,hd,rfl⟩:=dF.1 hy;obtain⟨i,hi,hc⟩:=ux.1 hc;have hd:=Bf.1 hd;have e1:=hc.2.2.1;have e2:=hd.2.2.1;have:=hc.1;have:=hc.2.1;have:=hd.1;have:=hd.2.1;show(dh rk1 rk2 kind c)*1000000+ (c.1*1000+c.2)< (dh rk1 rk2 kind d)*1000000+ (d.1*1000+d.2);omega
theorem aaD{m1 m2:Nat}{kind:Int}{n1 n2:Int}{rk1 rk2:Int->Int}{di db:Int->Int->Prop}(h1:gg m1 n1 rk1 di)(h2:gg m2 n2 rk2 db)(hk:0<=kind/\kind<=2){k:Nat}(hn:(k:Int)=iM n1 n2 kind)(ud:m2<=1000):(gQ m1 m2 kind m1 0).Perm (cK m1 m2 rk1 rk2 kind k):=by
 refine(wM ?_ (Hk k)).2 fun c=>?_
 ·exact(Ls ud).imp fun h e=>by rw [e]at h;omega
 rw [Lr,ux];exact Wy h1 h2 hk hn
theorem anr(f:Int×Int->TV)(L:List (Int×Int)){i:Nat}(h:i<L.length):tg (L.map f) i=f (gp L i):=by
 rw [uV h];unfold tg;rw [jq,dm,fq (by simpa using h),Option.getD_some,List.getElem_map]
theorem ans(L:List TV){i j:Nat}(h:j<i)(hi:i<=L.length):tg (L.take i) j=tg L j:=by
 unfold tg;rw [jq,dm,dm,List.getElem?_take_of_lt h]
theorem amS{m1 m2:Nat}{kind:Int}{n1 n2:Int}{rk1 rk2:Int->Int}{di db:Int->Int->Prop}(h1:gg m1 n1 rk1 di)(h2:gg m2 n2 rk2 db)(hk:0<=kind/\kind<=2){k:Nat}(hn:(k:Int)=iM n1 n2 kind)(Cn:m1<=1000)(ud:m2<=1000){ds:List TV}(hp:ds.Perm ((gQ m1 m2 kind m1 0).map (sB rk1 rk2 kind)))(hs:SR kT ds 0 ds.length):ds=(cK m1 m2 rk1 rk2 kind k).map (sB rk1 rk2 kind):=by
 have hP:(gQ m1 m2 kind m1 0).Perm (cK m1 m2 rk1 rk2 kind k):=by
  refine(wM ?_ (Hk k)).2 fun c=>?_
  ·exact(Ls ud).imp fun h e=>by rw [e]at h;omega
  rw [Lr,ux];exact Wy h1 h2 hk hn
 refine Xm kT (hp.trans (hP.map _)) ?_ (XA ud Cn k);refine List.pairwise_iff_getElem.2 fun i j hi hj iy=>?_
 have:=hs i j (bg _) iy hj
 rwa [tV hi,tV hj]at this
theorem aaC(m1 m2:Nat)(kind:Int)(rk1 rk2:Int->Int)(Cn:m1<=1000)(ud:m2<=1000):(∀s∈(gQ m1 m2 kind m1 0).map (sB rk1 rk2 kind),qF s)/\∀x y,x<y->y< ((gQ m1 m2 kind m1 0).map (sB rk1 rk2 kind)).length->mY (gs ((gQ m1 m2 kind m1 0).map (sB rk1 rk2 kind)) x)<mY (gs ((gQ m1 m2 kind m1 0).map (sB rk1 rk2 kind)) y):=by
 constructor
 ·intro s hs;obtain⟨c,hc,rfl⟩:=dF.1 hs;have:=Lr.1 hc;show(0<=c.1/\c.1<1000)/\0<=c.2/\c.2<1000;omega
 intro x y kq hy;rw [tV (by omega),tV hy,List.getElem_map,List.getElem_map];rw [fS]at hy;exact List.pairwise_iff_getElem.1 (Ls (m1:=m1) (kind:=kind) ud) x y am hy kq
end Go.Proofs.YtkccgdhcpplblaaGreatDoor.Vc
