/-
 Lemmas. Conditions: as each states them.
-/
import Derived.Test.YtagdamiiececaaaGreatDoorLayb
import Derived.Test.YtagdamiiececaaaGreatDoorZd
import Derived.Shelf.SlicesE.Compact
import Derived.Shelf.SlicesE.Delete
import Derived.Shelf.SortM.SortNone
set_option maxHeartbeats 8000000
namespace Go.Proofs.YtagdamiiececaaaGreatDoor.Vc
open Tryz
section
open Go.RowKit Go.Sort
variable{w w0:aa}{q off o b:Nat}{ks:List Ck}{l l':ah}
theorem UR{α:Type}[Inhabited α]{enc:α->ab}{g:Nat}{cur:Array ab}{e:ad}{fr:Nat×Nat}(d:Array α)(hb:w.heap[g]?=some (.cells cur e fr)):(putRow enc (Sort.ahead w q) g off d).heap[g]?=some (.cells (putCells enc off d cur) e fr):=by
 simp [putRow,mapBlock,Sort.ahead,Array.getElem?_modify,hb,onCells]
theorem S6{α:Type}[Inhabited α]{enc:α->ab}{g:Nat}(d:Array α):yF w (putRow enc (Sort.ahead w q) g off d) (some g):=by
 refine⟨⟨O,O,O,by simp [Sort.ahead],fun k hk b9=>?_⟩,Nat.le_add_right _ _⟩;have:g≠k:=fun e=>b9 (by rw [e])
 simp [putRow,mapBlock,Sort.ahead,Array.getElem?_modify,this]
theorem Mp{α:Type}[Inhabited α]{enc:α->ab}{g:Nat}{cur:Array ab}{e:ad}{ds:List α}(hh:w.heap[g]?=some (.cells cur e (0,0)))(hc:∀j,j<ds.length->cur[o+j]?=(ds.map enc)[j]?):Holds enc w g o ds.toArray:=fun j hj=>by
 have fI:j<ds.length:=by simpa using hj
 refine⟨?_,by simp [World.frozen?,hh]⟩;simp only [World.cell?,hh];simp only [Option.isSome_none,Bool.false_eq_true,if_false];rw [hc j fI];simp [fI]
theorem St.laid{α:Type}[Inhabited α]{enc:α->ab}{i:Nat}{k:Ck}{g m:Nat}{cur:Array ab}{ds:List α}(hS:St w0 w ks)(hk:ks[i]?=some k)(hA:k.A=some ⟨g,o,Option.none⟩)(hg:w0.heap.size<=g)(hh:w.heap[g]?=some (.cells cur k.e (0,0)))(hs:o+k.c<=cur.size)(hm:m<=ds.length)(hd:ds.length<=k.c)(hc:k.c<=maxLen)(UP:∀x,(enc x).oneCell'=true:=by intro _;rfl):
 St w0 (putRow enc (Sort.ahead w q) g o ds.toArray) (ks.set i ⟨k.A,m,k.c,k.e,(ds.take m).map enc⟩):=by
 refine hS.turn hk (by simp [Ck.gY,hA]) (by simp [Ck.gY,hA]) (S6 _) (.o5 (tm fun v hv=>by obtain⟨x,_,rfl⟩:=fx.1 hv;exact UP x) ⟨by simp;omega,by show m<=k.c;omega,hc,.inr ⟨g,o,_,hA,hg,UR _ hh,by simp only [putCells,Array.size_mapIdx];exact hs,fun j hj=>?_⟩⟩);have hj:j<m:=hj;show(putCells enc o ds.toArray cur)[o+j]?=((ds.take m).map enc)[j]?;have rL:o+j<cur.size:=by omega
 have Vk:j<ds.length:=by omega
 simp [putCells,rL,Vk,qh,hj]
def SA(l:ah):Prop:=l.Pairwise (· < ·)
theorem SA.y6(h:SA l):qe l:=h.imp fun h=>by omega
theorem SA.nodup(h:SA l):l.Nodup:=h.imp fun h=>by omega
theorem SA.eq(h:SA l)(h':SA l')(hm:∀x,x∈l↔x∈l'):l=l':=QR ((List.perm_ext_iff_of_nodup h.nodup h'.nodup).2 hm) h.y6 h'.y6
def jz(xs:ah):ah:=Lib.compactUpTo xs.toArray xs.toArray.size
theorem EM(xs:ah)(j:Nat):xs.toArray[j]! =gi xs j:=by
 by_cases h:j<xs.length
 ·rw [bN h];simp [h]
 have e:gi xs j=0:=by simp [gi,df,mD (Nat.not_lt.1 h)]
 rw [e,getElem!_neg _ _ (by simpa using h)];rfl
theorem EY(xs:ah):jz xs=((List.range xs.length).filter fun j:Nat=>decide (j=0\/gi xs j≠gi xs ((j - 1:Nat):Int))).map fun j:Nat=>gi xs j:=by
 unfold jz Lib.compactUpTo;rw [List.size_toArray];have e1:Lib.keeps xs.toArray=fun j:Nat=>decide (j=0\/gi xs j≠gi xs ((j - 1:Nat):Int)):=by
  funext j;unfold Lib.keeps;rw [EM,EM]
 rw [e1];exact pg fun j _=>EM xs j
theorem JL(xs:ah):(jz xs).length<=xs.length:=by
 rw [EY,fQ];have:=ox (fun j:Nat=>decide (j=0\/gi xs j≠gi xs ((j - 1:Nat):Int))) (List.range xs.length)
 rwa [pf]at this
theorem Ry(xs:ah)(x:Int):x∈jz xs↔x∈xs:=by
 rw [EY,fx];constructor
 ·rintro⟨j,hj,rfl⟩;have:=jN.1 (jb.1 hj).1;rw [bN this];exact dd _
 ·intro hx;obtain⟨j,hj,qz⟩:=gu.1 hx;rw [<-bN hj]at qz;clear hx
  induction j with
  | zero=>exact⟨0,jb.2 ⟨jN.2 hj,by simp⟩,qz⟩
  | succ j ih=>
   by_cases h:gi xs ((j+1:Nat):Int)=gi xs ((j:Nat):Int)
   ·exact ih (by omega) (h▸qz)
   ·exact⟨j+1,jb.2 ⟨jN.2 hj,by simp only [Nat.add_sub_cancel,qp];exact .inr h⟩,qz⟩
theorem Rx{xs:ah}(h:qe xs):SA (jz xs):=by
 have mono:∀a b,a<=b->b<xs.length->gi xs a<=gi xs b:=fun a b jn hb=>by
  rw [bN (by omega),bN hb]
  by_cases e:a=b
  ·subst e;exact Int.le_refl _
  exact(List.pairwise_iff_getElem.1 h) a b (by omega) hb (by omega)
 rw [EY];unfold SA;rw [nJ];have hr:(List.range xs.length).Pairwise (· < ·):=List.pairwise_lt_range;refine(hr.filter _).imp_of_mem fun {a b} ha hb jn=>?_
 have fp:=jN.1 (jb.1 hb).1;have gj:=mT (jb.1 hb).2;have h1:=mono a (b - 1) (by omega) (by omega);have h2:=mono (b - 1) b (by omega) fp;rcases gj with gj | gj
 ·omega
 omega
def cs(l:ah):ah:=jz (kT l)
theorem RN(l:ah)(x:Int):x∈cs l↔x∈l:=by rw [cs,Ry];exact(Is l).mem_iff
theorem RM(l:ah):SA (cs l):=Rx (Z7 l)
theorem RE(i:Nat){t:ad}{A:ai}{n c:Nat}{xs:ah}(hS:St w0 w ks)(hk:ks[i]?=some (ax t A n c xs))(h0:0<n)(hn:n<=1000000000):
 aE prog 131 [.slice A n c] w (fun v w'=>v= .slice A (jz xs).length c/\St w0 w' (ks.set i (ax t A (jz xs).length c (jz xs)))):=by
 obtain⟨h1,h2,h3,h4⟩:=hS.nO hk (oX _);have hl:xs.length=n:=hS.yi i hk;have h2:n<=c:=h2;have h3:c<=maxLen:=h3;rcases h4 with⟨_,lj⟩ | ⟨g,o,cur,hA,hg,hh,hs,hc⟩
 ·have lj:c=0:=lj;omega
 have hA:A=some ⟨g,o,none⟩:=hA;have hs:o+c<=cur.size:=hs;have hc:∀j,j<n->cur[o+j]?=(xs.map (Value.int .i64))[j]?:=hc;subst hA;subst hl;have key:=AnyE.slices_Compact Yj (Value.int .i64) (fun _=>O) (EqlAt.intD _ _ .i64) (NeqAt.intD _ _ .i64) (0:Int) (fun w=>zeroValue2 w) g o c xs.toArray w (Mp hh hc) (by simp;omega) (by simpa using h2);refine Calls.mono key fun x w' ⟨hx,q,hw⟩=> ⟨_,hx,O,?_⟩
 subst hw;have hle:=JL xs;have h:=hS.laid (q:=q) (m:=(jz xs).length) (enc:=Value.int .i64) (ds:=jz xs++List.replicate (xs.toArray.size - (jz xs).length) 0) hk O hg hh hs (by simp) (by simp;show _<=c;omega) h3;rw [List.take_append_of_le_length (dE _),List.take_length]at h;exact h
instance:Inhabited aO:=⟨cJ⟩
theorem RV(i:Nat){t:ad}{A:ai}{n c a:Nat}{xs:List aO}(hS:St w0 w ks)(hk:ks[i]?=some (aV t A n c xs))(h0:0<n)(hn:n<=1000000000)(jn:a<=b)(hb:b<=n):
 aE prog 266 [.slice A n c,aj a,aj b] w (fun v w'=>v= .slice A (n - (b - a)) c/\St w0 w' (ks.set i (aV t A (n - (b - a)) c (xs.take a++xs.drop b)))):=by
 obtain⟨h1,h2,h3,h4⟩:=hS.nO hk (qJ _);have hl:xs.length=n:=(hS.eG i hk).1;have h2:n<=c:=h2;have h3:c<=maxLen:=h3;rcases h4 with⟨_,lj⟩ | ⟨g,o,cur,hA,hg,hh,hs,hc⟩
 ·have lj:c=0:=lj;omega
 have hA:A=some ⟨g,o,none⟩:=hA;have hs:o+c<=cur.size:=hs;have hc:∀j,j<n->cur[o+j]?=(xs.map aO.v)[j]?:=hc;subst hA;subst hl;obtain⟨i0,iB,_,Dy,_⟩:=bF.get prog 24;have key:=AnyE.slices_Delete Yl aO.v (fun _=>O) cJ (fun w=>zeroValue24 w) i0 iB Dy g o c a b xs.toArray w (Mp hh hc) (by simpa using h2) (by simpa [maxLen]using h3) jn (by simpa using hb);refine Calls.mono key fun x w' ⟨hx,q,hw⟩=> ⟨_,hx,by simp,?_⟩
 subst hw;have h:=hS.laid (q:=q) (m:=xs.length - (b - a)) (enc:=aO.v) (ds:=xs.toArray.toList.take a++xs.toArray.toList.drop b++List.replicate (b - a) cJ) hk O hg hh hs (by simp;omega) (by simp;omega) h3;have e1:(xs.toArray.toList.take a++xs.toArray.toList.drop b++List.replicate (b - a) cJ).take (xs.length - (b - a))=xs.take a++xs.drop b:=by
  have e2:(xs.take a++xs.drop b).length=xs.length - (b - a):=by simp;omega
  show(xs.take a++xs.drop b++List.replicate (b - a) cJ).take _=_;rw [<-e2,List.take_append_of_le_length (dE _),List.take_length]
 rw [e1]at h;exact h
end
section
open Go.RowKit
variable{w w' w0:aa}{ks:List Ck}{q:Nat}
theorem Ps(A:ai)(n c:Nat)(rs:List aO)(w:aa)(hR:gp w A n rs)(hn:n<=1000000)(h0:0<n):aE prog 160 [.slice A n c] w (fun v w'=>∃A' c',v= .slice A' n c'/\St w w' [aV 24 A' n c' rs]):=by
 cases hA:A with
 | none=>
  subst hA;obtain⟨p,hp,_⟩:=hR.2 0 h0;simp [aF]at hp
 | some a=>
  subst hA;refine bm func160 O ntmps160 O (bU O) (aY O (yL O O O (az O (Cd.dO O (aD O (jO (St.refl w) O ?_))))));intro A1 w1 aB;have aB:St w w1 [aV 24 A1 0 0 []]:=aB;refine ao O (km 0 aB O (aB.Bj hR) O O O (by omega) (by omega) O ?_);intro A2 c2 w2 aw;rw [Nat.zero_add]at aw|-;refine bu O (fA O ?_);exact⟨A2,c2,O,aw⟩
theorem aaM(Ab A:ai)(n c:Nat)(rs:List aO)(xss:ag)(i:Nat)(w:aa)(hB:Rd w Ab 1 (fun _=> .slice A n c))(hR:bl w A n rs xss)(hn:n<=1000)(hi:i<n):
 aE prog 212 [.pointer Ab,aj i] w (fun v w'=>∃A' c',v= .slice A' (n - 1) c'/\St w w' [aV 24 A' (n - 1) c' (rs.eraseIdx i)]):=by
 refine bm func212 O ntmps212 O (bU O) (aY O ?_);refine eV hB (by decide) O O (aS hB O (a8 hB O (aH (Ps A n c rs _ hR.top (by omega) (by omega)) O ?_)));rintro _ w1 ⟨A1,c1,rfl,aB⟩;refine ao O (aL O ?_);have lV:((i:Int)+1)=((i+1:Nat):Int):=by omega
 rw [lV];refine aH (RV 0 aB O (by omega) (by omega) (show i<=i+1 by omega) (by omega)) O ?_;rintro _ w2 ⟨rfl,aw⟩;refine bu O (fA O ?_);have e:n - (i+1 - i)=n - 1:=by omega
 rw [e];rw [e,<-List.eraseIdx_eq_take_drop_succ]at aw;exact⟨A1,c1,O,aw⟩
theorem J6(Ab A:ai)(n c:Nat)(rs:List aO)(xss:ag)(i:Nat)(w:aa)(hB:Rd w Ab 1 (fun _=> .slice A n c))(hR:bl w A n rs xss)(hM:bj xss)(hi:i<n):
 aE prog 156 [.pointer Ab,aj i] w (fun v w'=>∃A',v= .tuple #[.slice A' (gl xss 0).length (gl xss 0).length,aj (gq xss i)]/\St w w' [ax 2 A' (gl xss 0).length (gl xss 0).length (dI xss i)]):=by
 have hl:=hR.len;have h1:=hM.1;have h2:=hM.2.1;have e0:(rg rs 0).n=(gl xss 0).length:=(hR.jh (by omega) (by omega)).symm;refine bm func156 O ntmps156 O (my O) (aY O (aH (nN Ab A n c rs xss _ w hB O hR (by omega)) O ?_));rintro _ w ⟨rfl,rfl⟩;rw [e0];refine ao O (aH (aaM Ab A n c rs xss i _ hB hR (by omega) hi) O ?_);rintro _ w1 ⟨A1,c1,rfl,aB⟩;refine aH (N5 A1 (n - 1) c1 (rs.eraseIdx i) (xss.eraseIdx i) (gl xss 0).length _ ((aB.bE hR).erase hi (aB.eG 0 O)) (by omega) (hM.2.2.1.sys.erase i) (hM.2.2.1.inj.erase i) (by omega)) O ?_;rintro _ w2 ⟨A2,rfl,aA⟩;have aw:=aB.call aA;refine bu O (uT O O ?_);exact⟨A2,O,aw.sub (List.Sublist.cons_cons _ (List.nil_sublist _))⟩
theorem Ii{t:ad}:∀ {rs:List aO} {xss:ag} {i:Nat} {s:aO} {xs:ah},rs.length=xss.length->(bS t rs xss).set i (ax t s.a s.n s.c xs)=bS t (rs.set i s) (xss.set i xs)
 | [],[],_,_,_,_=>rfl
 | [],_::_,_,_,_,h=>by simp at h
 | _::_,[],_,_,_,h=>by simp at h
 | r::rs,x::xss,0,s,xs,_=>rfl
 | r::rs,x::xss,i+1,s,xs,h=>by
  have:=Ii (t:=t) (rs:=rs) (xss:=xss) (i:=i) (s:=s) (xs:=xs) (by simpa using h);simpa [bS]using this
theorem DP{w0 w:aa}{t:ad}:∀(n:Nat) {ks:List Ck},St w0 w ks->St w0 w (ks++bS t (List.replicate n cJ) (List.replicate n []))
 | 0,ks,h=>by show St w0 w (ks++ []);rwa [iG]
 | n+1,ks,h=>by
  have h1:=DP (t:=t) n h;have h2:=h1.nil t;exact h2.perm (eU.symm)
def EP(Vl El:ah)(m:Nat):Nat->ag
 | 0=>List.replicate m []
 | f+1=> (EP Vl El m f).set (gi El f).toNat (gl (EP Vl El m f) (gi El f)++ [gi Vl f])
def ends(Vl El:ah)(m f:Nat):ag:=(EP Vl El m f).map cs
def BI(L:ag)(K:Int)(w:aa)(v:ab)(w':aa):Prop:=∃A' c' rs',v= .tuple #[.slice A' L.length c',aj K]/\rs'.length=L.length/\St w w' (aK 24 2 A' L.length c' rs' L++ [])
theorem BI.none{K:Int}(h:St w w' ks):BI [] K w (.tuple #[.slice Option.none 0 0,aj K]) w':=⟨Option.none,0,[],rfl,rfl,h.none.nil _⟩
def kh(B:ag)(e:Nat):ag:=(B.take e).map cs++B.drop e
theorem YL(B:ag)(e:Nat):(kh B e).length=B.length:=by simp [kh];omega
theorem YN(B:ag):kh B 0=B:=by simp [kh]
theorem YJ(B:ag):kh B B.length=B.map cs:=by simp [kh]
theorem YK{B:ag}{e:Nat}(h:e<B.length):gl (kh B e) e=gl B e:=by
 simp only [gl,kh,gn,df];rw [mU (by simp;omega)];simp [Nat.min_eq_left (Nat.le_of_lt h)]
theorem YM{B:ag}{e:Nat}(h:e<B.length):(kh B e).set e (cs (gl B e))=kh B (e+1):=by
 rw [cM h];unfold kh;rw [List.set_append_right _ _ (by simp;omega),lG h,lF,fC];have e1:e - ((B.take e).map cs).length=0:=by simp;omega
 rw [e1,List.drop_eq_getElem_cons h]
 rfl
theorem Z2(i:Nat){t:ad}{A:ai}{n c:Nat}{xs:ah}(hS:St w0 w ks)(hk:ks[i]?=some (ax t A n c xs))(hn:n<=1000000000):
 aE prog 130 [.slice A n c] w (fun v w'=>v= .tuple #[]/\St w0 w' (ks.set i (ax t A n c (kT xs)))):=by
 by_cases h0:0<n
 ·exact Z5 i hS hk h0 hn
 obtain rfl:n=0:=by omega
 have bP:=hS.yi i hk;obtain rfl:=qg bP;refine Calls.mono (AnyM.slices_Sort_int_none NL A c w) fun x w' ⟨hx,hw⟩=> ⟨_,hx,O,?_⟩
 subst hw;have e:kT []=[]:=qg (Is []).length_eq;rw [e,Eb hk];exact hS
theorem RD(i:Nat){t:ad}{A:ai}{n c:Nat}{xs:ah}(hS:St w0 w ks)(hk:ks[i]?=some (ax t A n c xs))(hn:n<=1000000000):
 aE prog 131 [.slice A n c] w (fun v w'=>v= .slice A (jz xs).length c/\St w0 w' (ks.set i (ax t A (jz xs).length c (jz xs)))):=by
 by_cases h0:0<n
 ·exact RE i hS hk h0 hn
 obtain rfl:n=0:=by omega
 have bP:=hS.yi i hk;obtain rfl:=qg bP;have e:jz []=[]:=qg (Nat.le_zero.1 (JL []));rw [e];refine bm func131 O ntmps131 O (bU O) ?_;refine aY O (aZ O O (az O ?_));refine IG O (by decide) (cE O (fA O ?_));exact⟨O,by rw [show([]:ah).length=0 from O,Eb hk];exact hS⟩
theorem NO{t1 t2:ad}{A:ai}{n c:Nat}{rs:List aO}{xss:ag}(h:rs.length=xss.length):(aK t1 t2 A n c rs xss).length=rs.length+1:=by simp [aK,wq h]
theorem Js{N M v r:Int}(hv:0<=v/\v<N)(hr:0<=r/\r<M)(hb:N*M<=1000000):0<=v*M/\v*M<=1000000/\0<=v*M+r/\v*M+r<N*M:=by
 have h1:(v+1)*M<=N*M:=Int.mul_le_mul_of_nonneg_right (by omega) (by omega);have h2:0<=v*M:=Int.mul_nonneg hv.1 (by omega);rw [Int.add_mul,Int.one_mul]at h1;omega
theorem GM.first{N:Nat}{xss:ag}(h:GM N xss)(hn:0<xss.length):(gl xss 0).length=N:=by
 have e:gl xss (0:Nat)=xss[0]:=cM hn;have e:gl xss 0=xss[0]:=e;rw [e];exact(h _ (dd hn)).1
theorem GM.at_{N:Nat}{xss:ag}(h:GM N xss){i:Nat}(hi:i<xss.length):Rg N (gl xss i):=by
 rw [cM hi];exact h _ (dd hi)
theorem DF(A:ai)(n c:Nat)(rs:List aO)(xss:ag)(N:Nat)(B:ai)(m cB:Nat)(rs':List aO)(bb:ag)(M:Nat)(w:aa)(hX:bl w A n rs xss)(hY:bl w B m rs' bb)(hn:1<=n/\n<=100)(hm:1<=m/\m<=100)(hx:GM N xss)(hy:GM M bb)(hN:1<=N)(hM:1<=M)(rA:N*M<=1000000):
 aE prog 229 [.agg #[.slice A n c],.agg #[.slice B m cB]] w (IF (n+m) (N*M) w):=by
 have bP:=hX.len;have mw:=hY.len;have AG:=hx.first (by omega);have Wv:=hy.first (by omega);have Lf:(N:Int)* (M:Int)<=1000000:=by
  rw [<-Int.natCast_mul];exact Int.ofNat_le.2 rA
 refine bm func229 O ntmps229 O (lB O O) (aY O (fD (St.refl w) O O ?_));intro A2 w1 aB;refine fD aB O O fun A3 w2 aw=>eH aw O fun A4 w3 aI=>az O (dK [.ex (.agg #[.slice (A) (n) (c)]),xI ((gl xss 0).length:Int),.ex (.agg #[.slice (B) (m) (cB)]),xI ((gl bb 0).length:Int),xI ((gl xss 0).length:Int),xI ((gl bb 0).length:Int)] O (eo O) ?_ ?_)
 ·refine⟨fun _ _ hb _ _=>ac3 0 ((aI.rd 2 O).below hb) O Az,?_,fun _ _ hb _ _=>ac3 0 ((aI.rd 1 O).below hb) O Az,?_,Dr O,Dr O,au⟩
  ·intro e1 w1 hb hp aX;refine aH (oY A n c rs xss _ ((aI.aq hb).bE hX) (by omega)) O ?_;rintro _ w2 ⟨rfl,aA⟩;refine ak.n ?_;exact eA.dn aA.below (by exact O)
  intro e1 w1 hb hp aX;refine aH (oY B m cB rs' bb _ ((aI.aq hb).bE hY) (by omega)) O ?_;rintro _ w2 ⟨rfl,aA⟩;refine ak.n ?_;exact eA.dn aA.below (by exact O)
 intro u w4 kL _;have aG:=aI.aq kL;rw [AG,Wv];refine fK O (re (by exact inferInstance) O (eH aG O ?_));intro A7 w5 aR;refine bR 1 0 aR O O O O O O O ?_;intro w6 aQ;have aQ:St w w6 ([Bx 37 1 A7 [.slice none 0 0],Bx 37 1 A4 [.slice none 0 0],Bx 37 1 A3 [.slice B m cB],Bx 37 1 A2 [.slice A n c]]++aK 24 2 none 0 0 [] []):=(aQ.nil _).perm (fb (l₁:=[_]) (l₂:=[_,_,_,_]));refine az O (Cd.loop (α:=BS) (fun s=> [(2,.pointer A2),(3,.pointer A3),(4,.pointer A4),(5,aj N),(6,aj M),(7,.pointer A7),(8,aj (s.n:Int))]) (fun s w'=>St w w' ([Bx 37 1 A7 [.slice s.B s.n s.c],Bx 37 1 A4 [.slice none 0 0],Bx 37 1 A3 [.slice B m cB],Bx 37 1 A2 [.slice A n c]]++aK 24 2 s.B s.n s.c s.rs s.xss)/\s.n<=n+m/\s.rs.length=s.n/\s.xss.length=s.n/\GM (N*M) s.xss) (fun s=>n+m - s.n) ⟨0,0,none,0,0,[],[]⟩ (ac4 O) ⟨aQ,bA _,O,O,fun p hp=> (nomatch hp)⟩ ?_);rintro⟨_,_,C,i,cC,gr,ji⟩ e w7 ⟨a6,hi,bO,vX,hz⟩;dsimp only at a6 hi bO vX hz|-;refine aY O (aS (a6.rd 3 O) O (a8 (a6.rd 3 O) O (aZ O O (aS (a6.rd 2 O) O (a8 (a6.rd 2 O) O ?_)))));refine aZ O O (aL O (az O ?_));refine aM _ O (fun h1=>?_) (fun h1=>?_)
 ·refine aD O (jO a6 O ?_);intro A9 w8 a7;refine az O (Cd.loop (α:=Nat×ai×Nat×ah) (fun s=> [(2,.pointer A2),(3,.pointer A3),(4,.pointer A4),(5,aj N),(6,aj M),(7,.pointer A7),(8,aj i),(9,.slice s.2.1 s.1 s.2.2.1),(10,aj (s.1:Int))]) (fun s w'=>St w w' (ax 2 s.2.1 s.1 s.2.2.1 s.2.2.2::([Bx 37 1 A7 [.slice C i cC],Bx 37 1 A4 [.slice none 0 0],Bx 37 1 A3 [.slice B m cB],Bx 37 1 A2 [.slice A n c]]++aK 24 2 C i cC gr ji))/\s.1<=N*M/\s.2.2.2.length=s.1/\∀x∈s.2.2.2,0<=x/\x< ((N*M:Nat):Int)) (fun s=>N*M - s.1) (0,A9,0,[]) (ac4 O) ⟨a7,bA _,O,fun x hx=> (nomatch hx)⟩ ?_);rintro⟨f,A9,c9,acc⟩ e w9 ⟨aW,hf,lU,uj⟩;dsimp only at aW hf lU uj|-;have T0:(N:Int)* (M:Int)=((N*M:Nat):Int):=(Int.natCast_mul N M).symm;refine aY O (gU O O O (by omega) ?_);rw [T0];refine az O (aM _ O (fun h2=>?_) (fun h2=>?_))
  ·have x9:0<=(f:Int) / (M:Int):=Int.ediv_nonneg (by omega) (by omega);have Mw:(f:Int) / (M:Int)< (N:Int):=Int.ediv_lt_of_lt_mul (by omega) (by omega);have ie:=Int.emod_nonneg (f:Int) (b:=(M:Int)) (by omega);have lu:=Int.emod_lt_of_pos (f:Int) (b:=(M:Int)) (by omega);have F5:=aW.bE hX;have F8:=aW.bE hY;refine aD O (aS (aW.rd 4 O) O (a8 (aW.rd 4 O) O ?_));refine aZ O O (az O ?_);refine aM _ O (fun h3=>?_) (fun h3=>?_)
   ·have bH:=F5.at_ (i:=(i:Int)) (by omega) (by omega);have mr:=hx.at_ (i:=i) (by omega);have gI:(rg rs i).n=N:=by rw [<-bH.1,mr.1]
    have hv:=mr.gi x9 Mw;have gx:=Js (N:=(N:Int)) (M:=(M:Int)) hv ⟨ie,lu⟩ Lf;generalize hV:gi (gl xss i) ((f:Int) / (M:Int))=v at hv gx;refine jx [18] [yS (A9) (f) (c9),yP (aF (A2) 0),yS (A) (n) (c),yI ((i:Int)),yP (aF (A) ((i:Int)).toNat),yS ((rg (rs) ((i:Int))).a) ((rg (rs) ((i:Int))).n) ((rg (rs) ((i:Int))).c),yI ((f:Int)),yI ((M:Int)),yI ((f:Int) / (M:Int)),yP (aF ((rg (rs) ((i:Int))).a) ((f:Int) / (M:Int)).toNat),yI (v),yI ((M:Int)),yI (v* (M:Int)),yI ((f:Int)),yI ((M:Int)),yI ((f:Int)% (M:Int)),yI ((v* (M:Int))+ ((f:Int)% (M:Int))),.pr (fun v' w'=>∃tC,v'= .slice tC 1 1/\St w w' (ax 2 tC 1 1 [v* (M:Int)+ (f:Int)% (M:Int)]::ax 2 A9 f c9 acc::([Bx 37 1 A7 [.slice C i cC],Bx 37 1 A4 [.slice none 0 0],Bx 37 1 A3 [.slice B m cB],Bx 37 1 A2 [.slice A n c]]++aK 24 2 C i cC gr ji))),.pr (fun v' w'=>∃db dh,v'= .slice db (f+1) dh/\St w w' (ax 2 db (f+1) dh (acc++ [v* (M:Int)+ (f:Int)% (M:Int)])::([Bx 37 1 A7 [.slice C i cC],Bx 37 1 A4 [.slice none 0 0],Bx 37 1 A3 [.slice B m cB],Bx 37 1 A2 [.slice A n c]]++aK 24 2 C i cC gr ji))),.pr (fun v' w'=>∃db dh,v'= .slice db (f+1) dh/\St w w' (ax 2 db (f+1) dh (acc++ [v* (M:Int)+ (f:Int)% (M:Int)])::([Bx 37 1 A7 [.slice C i cC],Bx 37 1 A4 [.slice none 0 0],Bx 37 1 A3 [.slice B m cB],Bx 37 1 A2 [.slice A n c]]++aK 24 2 C i cC gr ji)))] (by kernel_rfl) (by kernel_rfl) (ly (ly (ly (ly (ly (ly (ly (ly (ly (ly (ly (ly (ly (ly (ly (ly (ly (cL.2 ⟨Ye.cQ (fun v w w' h hb=>by obtain⟨iP,hv,h1⟩:=h;exact⟨iP,hv,h1.aq hb⟩),(cL.2 ⟨Ye.cQ (fun v w w' h hb=>by obtain⟨db,dh,hv,h1⟩:=h;exact⟨db,dh,hv,h1.aq hb⟩),(cL.2 ⟨Ye.cQ (fun v w w' h hb=>by obtain⟨db,dh,hv,h1⟩:=h;exact⟨db,dh,hv,h1.aq hb⟩),(fun _ h=>by cases h)⟩)⟩)⟩)))))))))))))))))) ?_ ?_
    ·refine⟨?_,cP fun _ _ hb _ _ _=>aS ((aW.rd 4 O).below hb) O (bG O O),cP fun _ _ hb _ _ _=>a8 ((aW.rd 4 O).below hb) O (bG O O),cj O,cP fun _ _ hb _ _ _=>ay (F5.top.aq hb).2 O (bG O O),cP fun _ _ hb _ _ _=>bB (F5.top.aq hb) O (bG O O),cj O,cj O,?_,cP fun _ _ hb _ _ _=>ay (bH.aq hb).2 O (bG O O),?_,cj O,?_,cj O,cj O,?_,aP fun _ _=>aL O (bG O O),?_,?_,?_,au⟩
     ·intro e1 w1 cc eY dQ eP hp aX hq;show ak _ _ _ _ _ _ _;refine lJ O (by exact aX 19 _ O (by kernel_rfl)) O (ak.n (fO O (by exact O)))
     ·intro e1 w1 cc eY dQ eP hp aX hq;show ak _ _ _ _ _ _ _;refine ak.quo O O O (by omega) (ak.n (fO O (by exact O)))
     ·refine cP fun e1 w1 hb hp aX hq=>?_
      refine bc (bH.aq hb) O (ak.n ?_);exact fO O (by exact bw (Value.int .i64) hV)
     ·intro e1 w1 cc eY dQ eP hp aX hq;show ak _ _ _ _ _ _ _;refine gU O O O (by omega) (ak.n (fO O (by exact O)))
     ·intro e1 w1 cc eY dQ eP hp aX hq;show ak _ _ _ _ _ _ _;refine ak.rem O O O (by omega) (ak.n (fO O (by exact O)))
     ·refine cP fun e1 w1 hb hp aX hq=>?_
      exact fk (St.refl _) O O O fun iP ma n3=>ak.n (fB.dn O n3.below ⟨iP,O,(aW.aq hb).call n3⟩)
     ·refine jy fun e1 w1 hb hp aX hq=>?_
      obtain⟨iP,oU,h1⟩:=(hp 17 _ _ (by kernel_rfl) rfl rfl (by kernel_rfl));refine fR 1 h1 O (h1.bz 0 O) O (by exact oU) O ?_;intro db dh Ek vz;exact ak.n (fv.dn O ⟨db,dh,O,vz.tail⟩)
     refine dP 1 fun e1 w1 hp aX hq=>?_
     have dT:=hp 18 _ _ (by kernel_rfl) O O (by kernel_rfl);obtain⟨db,dh,oU,h1⟩:=(hp 18 _ _ (by kernel_rfl) rfl rfl (by kernel_rfl));refine lJ O (by exact oU) O (ak.n ?_);exact fB.dn O (Below.refl _ _) ⟨db,dh,O,h1⟩
    intro u dt _ hu _ _;obtain⟨db,dh,Hg,hT⟩:=hu 19 _ rfl (by kernel_rfl);refine fK O (aL O (aU O (tQ ?_)));refine⟨(f+1,db,dh,acc++ [v* (M:Int)+ (f:Int)% (M:Int)]),by show N*M - (f+1)<N*M - f;omega,⟨O,O,O,O,O,O,O,Hg,O,au⟩,hT,by show f+1<=N*M;omega,by simp [lU],fun x dG=>?_⟩;rcases gE.1 dG with h | h
    ·exact uj x h
    rw [iv]at h;subst h;omega
   have bH:=F8.at_ (i:=(i:Int) - (n:Int)) (by omega) (by omega);obtain⟨j,hj⟩:∃j:Nat,(i:Int) - (n:Int)=j:=⟨i - n,by omega⟩;have mr:=hy.at_ (i:=j) (by omega);rw [<-hj]at mr;have gI:(rg rs' ((i:Int) - (n:Int))).n=M:=by rw [<-bH.1,mr.1]
   have hv:=mr.gi ie lu;have gx:=Js (N:=(N:Int)) (M:=(M:Int)) (v:=(f:Int) / (M:Int)) ⟨x9,Mw⟩ hv Lf;generalize hV:gi (gl bb ((i:Int) - (n:Int))) ((f:Int)% (M:Int))=v at hv gx;refine jx [22] [yS (A9) (f) (c9),yI ((f:Int)),yI ((M:Int)),yI ((f:Int) / (M:Int)),yI ((M:Int)),yI ((f:Int) / (M:Int)* (M:Int)),yP (aF (A3) 0),yS (B) (m) (cB),yI ((i:Int)),yP (aF (A2) 0),yS (A) (n) (c),yI (((n:Nat):Int)),yI (((i:Int)) - (((n:Nat):Int))),yP (aF (B) (((i:Int)) - (((n:Nat):Int))).toNat),yS ((rg (rs') (((i:Int)) - (((n:Nat):Int)))).a) ((rg (rs') (((i:Int)) - (((n:Nat):Int)))).n) ((rg (rs') (((i:Int)) - (((n:Nat):Int)))).c),yI ((f:Int)),yI ((M:Int)),yI ((f:Int)% (M:Int)),yP (aF ((rg (rs') (((i:Int)) - (((n:Nat):Int)))).a) ((f:Int)% (M:Int)).toNat),yI (v),yI (((f:Int) / (M:Int)* (M:Int))+ (v)),.pr (fun v' w'=>∃tC,v'= .slice tC 1 1/\St w w' (ax 2 tC 1 1 [(f:Int) / (M:Int)* (M:Int)+v]::ax 2 A9 f c9 acc::([Bx 37 1 A7 [.slice C i cC],Bx 37 1 A4 [.slice none 0 0],Bx 37 1 A3 [.slice B m cB],Bx 37 1 A2 [.slice A n c]]++aK 24 2 C i cC gr ji))),.pr (fun v' w'=>∃db dh,v'= .slice db (f+1) dh/\St w w' (ax 2 db (f+1) dh (acc++ [(f:Int) / (M:Int)* (M:Int)+v])::([Bx 37 1 A7 [.slice C i cC],Bx 37 1 A4 [.slice none 0 0],Bx 37 1 A3 [.slice B m cB],Bx 37 1 A2 [.slice A n c]]++aK 24 2 C i cC gr ji))),.pr (fun v' w'=>∃db dh,v'= .slice db (f+1) dh/\St w w' (ax 2 db (f+1) dh (acc++ [(f:Int) / (M:Int)* (M:Int)+v])::([Bx 37 1 A7 [.slice C i cC],Bx 37 1 A4 [.slice none 0 0],Bx 37 1 A3 [.slice B m cB],Bx 37 1 A2 [.slice A n c]]++aK 24 2 C i cC gr ji)))] (by kernel_rfl) (by kernel_rfl) (ly (ly (ly (ly (ly (ly (ly (ly (ly (ly (ly (ly (ly (ly (ly (ly (ly (ly (ly (ly (ly (cL.2 ⟨Ye.cQ (fun v w w' h hb=>by obtain⟨iP,hv,h1⟩:=h;exact⟨iP,hv,h1.aq hb⟩),(cL.2 ⟨Ye.cQ (fun v w w' h hb=>by obtain⟨db,dh,hv,h1⟩:=h;exact⟨db,dh,hv,h1.aq hb⟩),(cL.2 ⟨Ye.cQ (fun v w w' h hb=>by obtain⟨db,dh,hv,h1⟩:=h;exact⟨db,dh,hv,h1.aq hb⟩),(fun _ h=>by cases h)⟩)⟩)⟩)))))))))))))))))))))) ?_ ?_
   ·refine⟨?_,cj O,cj O,?_,cj O,?_,cP fun _ _ hb _ _ _=>aS ((aW.rd 3 O).below hb) O (bG O O),cP fun _ _ hb _ _ _=>a8 ((aW.rd 3 O).below hb) O (bG O O),cj O,cP fun _ _ hb _ _ _=>aS ((aW.rd 4 O).below hb) O (bG O O),cP fun _ _ hb _ _ _=>a8 ((aW.rd 4 O).below hb) O (bG O O),aP fun _ _=>aZ O O (bG O O),aP fun _ _=>je O O O (by omega) (bG O O),cP fun _ _ hb _ _ _=>ay (F8.top.aq hb).2 O (bG O O),cP fun _ _ hb _ _ _=>bB (F8.top.aq hb) O (bG O O),cj O,cj O,?_,cP fun _ _ hb _ _ _=>ay (bH.aq hb).2 O (bG O O),?_,aP fun _ _=>aL O (bG O O),?_,?_,?_,au⟩
    ·intro e1 w1 cc eY dQ eP hp aX hq;show ak _ _ _ _ _ _ _;refine lJ O (by exact aX 23 _ O (by kernel_rfl)) O (ak.n (fO O (by exact O)))
    ·intro e1 w1 cc eY dQ eP hp aX hq;show ak _ _ _ _ _ _ _;refine ak.quo O O O (by omega) (ak.n (fO O (by exact O)))
    ·intro e1 w1 cc eY dQ eP hp aX hq;show ak _ _ _ _ _ _ _;refine gU O O O (by omega) (ak.n (fO O (by exact O)))
    ·intro e1 w1 cc eY dQ eP hp aX hq;show ak _ _ _ _ _ _ _;refine ak.rem O O O (by omega) (ak.n (fO O (by exact O)))
    ·refine cP fun e1 w1 hb hp aX hq=>?_
     refine bc (bH.aq hb) O (ak.n ?_);exact fO O (by exact bw (Value.int .i64) hV)
    ·refine cP fun e1 w1 hb hp aX hq=>?_
     exact fk (St.refl _) O O O fun iP ma n3=>ak.n (fB.dn O n3.below ⟨iP,O,(aW.aq hb).call n3⟩)
    ·refine jy fun e1 w1 hb hp aX hq=>?_
     obtain⟨iP,oU,h1⟩:=(hp 21 _ _ (by kernel_rfl) rfl rfl (by kernel_rfl));refine fR 1 h1 O (h1.bz 0 O) O (by exact oU) O ?_;intro db dh Ek vz;exact ak.n (fv.dn O ⟨db,dh,O,vz.tail⟩)
    refine dP 1 fun e1 w1 hp aX hq=>?_
    have dT:=hp 22 _ _ (by kernel_rfl) O O (by kernel_rfl);obtain⟨db,dh,oU,h1⟩:=(hp 22 _ _ (by kernel_rfl) rfl rfl (by kernel_rfl));refine lJ O (by exact oU) O (ak.n ?_);exact fB.dn O (Below.refl _ _) ⟨db,dh,O,h1⟩
   intro u dt _ hu _ _;obtain⟨db,dh,Hg,hT⟩:=hu 23 _ rfl (by kernel_rfl);refine fK O (aL O (aU O (tQ ?_)));refine⟨(f+1,db,dh,acc++ [(f:Int) / (M:Int)* (M:Int)+v]),by show N*M - (f+1)<N*M - f;omega,⟨O,O,O,O,O,O,O,Hg,O,au⟩,hT,by show f+1<=N*M;omega,by simp [lU],fun x dG=>?_⟩;rcases gE.1 dG with h | h
   ·exact uj x h
   rw [iv]at h;subst h;omega
  have xL:f=N*M:=by omega
  refine bo O (bp (cn O ?_));refine aS (aW.rd 1 O) O (a8 (aW.rd 1 O) O (ao O (mW aW O O O ?_)));intro Pj dt bV;refine km 6 bV O (bV.eG 0 O) O O O (by omega) (by omega) O ?_;intro ou oE dB dW;have dW:St w dB (ax 2 A9 f c9 acc::Bx 37 1 A7 [.slice C i cC]::Bx 37 1 A4 [.slice none 0 0]::Bx 37 1 A3 [.slice B m cB]::Bx 37 1 A2 [.slice A n c]::aV 24 ou (i+1) oE (gr++ [⟨A9,f,c9⟩])::bS 2 gr ji):=dW.tail;refine aS (dW.rd 1 O) O (kD 1 dW O O O O O ?_);intro iO fU;have fU:St w iO (ax 2 A9 f c9 acc::Bx 37 1 A7 [.slice ou (i+1) oE]::Bx 37 1 A4 [.slice none 0 0]::Bx 37 1 A3 [.slice B m cB]::Bx 37 1 A2 [.slice A n c]::aV 24 ou (i+1) oE (gr++ [⟨A9,f,c9⟩])::bS 2 gr ji):=fU;refine ao O (aL O (aU O (tQ ?_)));refine⟨⟨0,0,ou,i+1,oE,gr++ [⟨A9,f,c9⟩],ji++ [acc]⟩,by show n+m - (i+1)<n+m - i;omega,(ac4 O),?_,by show i+1<=n+m;omega,by simp [bO],by simp [vX],fun p hp=>?_⟩
  ·show St w iO ([_,_,_,_]++aV 24 ou (i+1) oE (gr++ [⟨A9,f,c9⟩])::bS 2 (gr++ [⟨A9,f,c9⟩]) (ji++ [acc]));rw [nD (by omega)];refine fU.perm ?_;exact fb (l₁:=[_]) (l₂:=_::_::_::_::aV 24 ou (i+1) oE (gr++ [⟨A9,f,c9⟩])::bS 2 gr ji)
  rcases gE.1 hp with h | h
  ·exact hz p h
  rw [iv]at h;subst h;exact⟨by omega,uj⟩
 have Gv:i=n+m:=by omega
 subst Gv;refine bo O (bp (cn O ?_));refine ac3 0 (a6.rd 0 O) O (bR 1 1 a6 O O O O O O O ?_);intro w8 a7;refine bu O (fZ O (a7.rd 1 O) ?_);exact⟨C,cC,gr,ji,O,bO,vX,hz,(((a7.sub ((dA _).cons _)).sub ((dA _).cons _)).sub ((dA _).cons _)).sub ((dA _).cons _)⟩
theorem Jy{e c:Nat}(h:q<4*e)(hc:c<4)(he:e<=1000000):0<=bits .xor .i64 (q:Int) (c:Int)/\bits .xor .i64 (q:Int) (c:Int)< ((4*e:Nat):Int):=by
 have h1:(q^^^c) / 4=q / 4:=by
  have h2:(q^^^c) / 2^2=q / 2^2^^^c / 2^2:=Nat.xor_div_two_pow;have h3:c / 2^2=0:=Nat.div_eq_of_lt (by simpa using hc);rw [h3,Nat.xor_zero]at h2;exact h2
 have h4:q^^^c<4*e:=by omega
 have e1:bits .xor .i64 (q:Int) (c:Int)=IntKind.i64.wrap ((BitVec.ofInt 64 (q:Int)^^^BitVec.ofInt 64 (c:Int)).toNat:Int):=O;have e2:(BitVec.ofInt 64 (q:Int)^^^BitVec.ofInt 64 (c:Int)).toNat=q^^^c:=by
  rw [BitVec.toNat_xor,BitVec.ofInt_natCast,BitVec.ofInt_natCast,BitVec.toNat_ofNat,BitVec.toNat_ofNat,Nat.mod_eq_of_lt (by omega),Nat.mod_eq_of_lt (by omega)]
 rw [e1,e2,IntWalk.i64_in _ (by omega)];omega
section
variable {P:Program} {N:Nat} {ops:Array Oper} {K:Env->aa->Prop} {rest:List Oper} {e:Env} {w0 w w':aa} {ks:List Ck} {d:Nat} {ty:ad} {pos:String} {af:Array Edge} {x y:ae} {xt yt:ad} {i j:Int}
theorem Je(hx:ev e x=aj i)(hy:ev e y=aj j)(hb:Nat.blt d N=true)(hK:ak P N ops K rest (bt e d (aj (bits .xor .i64 i j))) w):
 ak P N ops K (⟨some d,.binOp .xor xt x y yt,ty,pos,af,none⟩::rest) e w:=
 .val (by simp only [execOp,hx,hy,eqGuard,binOp,intBits_xor];simp) hb hK
theorem IZ{t el:ad}{b:Nat}[bK P t (.slice el)][bF P el (.slice none 0 0) 1 b]{x0 x1 x2:ae}{s0 s1 s2:aO}(hS:St w0 w ks)(h0:ev e x0=s0.v)(h1:ev e x1=s1.v)(h2:ev e x2=s2.v)(hb:Nat.blt d N=true)(hK:∀A w',St w0 w' (aV el A 3 3 [s0,s1,s2]::ks)->ak P N ops K rest (bt e d (.slice A 3 3)) w'):ak P N ops K (⟨some d,.buildSlice t 3 #[(0,x0),(1,x1),(2,x2)],ty,pos,af,none⟩::rest) e w:=by
 obtain⟨inf,hi,eM,hs,ib⟩:=bF.get P el;have e0:(s0.v).cells= #[s0.v]:=O;have e1:(s1.v).cells= #[s1.v]:=O;have e2:(s2.v).cells= #[s2.v]:=O;have hz:(Value.slice none 0 0).cells= #[Value.slice none 0 0]:=O;refine .val (w':=w.alloc (.cells #[s0.v,s1.v,s2.v] el)) ?_ hb (hK _ _ (hS.alloc [s0.v,s1.v,s2.v] el (by simp [maxLen]) O));simp [execOp,Instr.buildSlice,run_underlying (bK.out (P:=P) (t:=t)),sizeOf,typeInfo,zeroValue,hi,hs,eM,hz,Instr.fill,newRow,h0,e0,h1,e1,h2,e2,y5,rb]
end
theorem XK{w0 w:aa}{ks:List Ck}(ix:Nat){As:ai}{k:Ck}(ed:Nat)(hS:St w0 w ks)(hk:ks[ix]?=some k)(hK:fj w0 As k)(he:1<=ed/\ed<=100000):
 aE prog 230 [.pointer As,aj ed] w (fun v w'=>∃A c rs xss N k',v= .agg #[.slice A 3 c]/\rs.length=3/\xss.length=3/\GM N xss/\(1<=N/\N<=4*ed)/\fj w0 As k'/\St w0 w' (aK 24 2 A 3 c rs xss++ks.set ix k')):=by
 refine bm func230 O ntmps230 O (lB O O) (aY O (eH hS O ?_));intro A4 w1 aB;refine ao O (gU O O O (by omega) (ao O ?_));refine jO aB O fun iP w2 aw=>jO aw O ?_;intro db w3 aI;have hn:(4:Int)* (ed:Int)=((4*ed:Nat):Int):=by omega
 rw [hn];have aI:St w0 w3 (ax 2 db 0 0 []::ax 2 iP 0 0 []::Bx 37 1 A4 [.slice none 0 0]::ks):=aI;refine ao O (aH (Nl (ix+3) (4*ed) aI (by exact hk) hK (by omega)) O ?_);rintro _ w4 ⟨Am,cm,ps,k',rfl,jY,pI,aG⟩;have aG:St w0 w4 (ax 2 Am (4*ed) cm ps::ax 2 db 0 0 []::ax 2 iP 0 0 []::Bx 37 1 A4 [.slice none 0 0]::ks.set ix k'):=aG;generalize hN:4*ed=n at*;refine az O (Cd.loop (α:=Nat×ai×Nat×ah×ai×Nat×ah) (fun s=> [(4,.pointer A4),(5,aj n),(6,.slice s.2.1 s.1 s.2.2.1),(7,.slice s.2.2.2.2.1 s.1 s.2.2.2.2.2.1),(8,.slice Am n cm),(9,aj (s.1:Int))]) (fun s w'=>St w0 w' (ax 2 Am n cm ps::ax 2 s.2.2.2.2.1 s.1 s.2.2.2.2.2.1 s.2.2.2.2.2.2::ax 2 s.2.1 s.1 s.2.2.1 s.2.2.2.1::Bx 37 1 A4 [.slice none 0 0]::ks.set ix k')/\s.1<=n/\s.2.2.2.1.length=s.1/\s.2.2.2.2.2.2.length=s.1/\(∀x∈s.2.2.2.1,0<=x/\x< (n:Int))/\(∀x∈s.2.2.2.2.2.2,0<=x/\x< (n:Int))) (fun s=>n - s.1) (0,iP,0,[],db,0,[]) (ac4 O) ⟨aG,bA _,O,O,fun x hx=> (nomatch hx),fun x hx=> (nomatch hx)⟩ ?_);rintro⟨f,A6,c6,zs,A7,c7,ts⟩ e w5 ⟨aR,hf,vX,Hd,hz,ht⟩;dsimp only at aR hf vX Hd hz ht|-;refine b7 O (aM _ O (fun h1=>?_) (fun h1=>?_))
 ·have rW:=Jy (q:=f) (e:=ed) (c:=1) (by omega) (by decide) (by omega);have Hj:=Jy (q:=f) (e:=ed) (c:=2) (by omega) (by decide) (by omega);rw [hN]at rW Hj;refine aD O (Je (j:=((1:Nat):Int)) O O O ?_);generalize bits .xor .i64 (f:Int) ((1:Nat):Int)=b1 at rW|-;refine fk aR O O O fun A33 w6 aQ=>fR 3 aQ O (aQ.bz 0 O) O O O ?_;intro ID JD w7 a6;have a6:St w0 w7 (ax 2 Am n cm ps::ax 2 A7 f c7 ts::ax 2 ID (f+1) JD (zs++ [b1])::Bx 37 1 A4 [.slice none 0 0]::ks.set ix k'):=a6.tail;refine ao O (Je (j:=((2:Nat):Int)) O O O ?_);generalize bits .xor .i64 (f:Int) ((2:Nat):Int)=b2 at Hj|-;refine fk a6 O O O fun cG w8 a7=>fR 2 a7 O (a7.bz 0 O) O O O fun Pg Rj w9 aW=>ao O (aL O (aU O (tQ ?_)));refine⟨(f+1,ID,JD,zs++ [b1],Pg,Rj,ts++ [b2]),by show n - (f+1)<n - f;omega,(ac4 O),aW.tail,by show f+1<=n;omega,by simp [vX],by simp [Hd],fun x hx=>?_,fun x hx=>?_⟩
  ·rcases gE.1 hx with h | h
   ·exact hz x h
   rw [iv]at h;subst h;exact rW
  rcases gE.1 hx with h | h
  ·exact ht x h
  rw [iv]at h;subst h;exact Hj
 have jC:f=n:=by omega
 subst jC;refine bo O (bp (cn O ?_));refine IZ (s0:=⟨A6,f,c6⟩) (s1:=⟨Am,f,cm⟩) (s2:=⟨A7,f,c7⟩) aR O O O O ?_;intro bI w6 aQ;have aQ:St w0 w6 (aK 24 2 bI 3 3 [⟨A6,f,c6⟩,⟨Am,f,cm⟩,⟨A7,f,c7⟩] [zs,ps,ts]++ (Bx 37 1 A4 [.slice none 0 0]::ks.set ix k')):=aQ.perm (List.Perm.cons _ (((List.Perm.cons _ (List.Perm.swap _ _ _)).trans (List.Perm.swap _ _ _)).trans (List.Perm.cons _ (List.Perm.refl _))));have hG:GM f [zs,ps,ts]:=fun q hq=>by
  rcases ja.1 hq with rfl | hq
  ·exact⟨vX,hz⟩
  rcases ja.1 hq with rfl | hq
  ·exact jY
  rw [iv]at hq;subst hq;exact⟨Hd,ht⟩
 have zv:bl w6 bI 3 [⟨A6,f,c6⟩,⟨Am,f,cm⟩,⟨A7,f,c7⟩] [zs,ps,ts]:=St.du aQ O;obtain⟨o1,o2,_⟩:=qN (N:=f) (xss:=[zs,ps,ts]) (pt:=0) hG.sys (Int.le_refl _) (by omega);have zY:=o1.len;have VJ:1<=(da f [zs,ps,ts] 0).length:=by
  have:=o2.length_le;simpa using this
 have Mr:=o1.range;refine ao O (aH (Hw bI 3 3 _ _ f 0 _ zv (by decide) hG.sys (by omega) (Int.le_refl _) (by omega)) O ?_);rintro _ w7 ⟨iE,iT,rfl,tg⟩;have a6:=aQ.call tg;generalize hO:da f [zs,ps,ts] 0=ord at*;have a6:St w0 w7 (ax 2 iE ord.length iT ord::(aK 24 2 bI 3 3 [⟨A6,f,c6⟩,⟨Am,f,cm⟩,⟨A7,f,c7⟩] [zs,ps,ts]++ (Bx 37 1 A4 [.slice none 0 0]::ks.set ix k'))):=a6;refine ao O (pj f a6 O O (by omega) ?_);intro jj w8 a7;refine az O ?_;refine Cd.loop (α:=Nat×ah) (fun s=> [(4,.pointer A4),(5,aj f),(10,.slice bI 3 3),(11,.slice iE ord.length iT),(12,.slice jj f f),(13,aj (s.1:Int))]) (fun s w'=>St w0 w' (ax 2 jj f f s.2::ax 2 iE ord.length iT ord::(aK 24 2 bI 3 3 [⟨A6,f,c6⟩,⟨Am,f,cm⟩,⟨A7,f,c7⟩] [zs,ps,ts]++ (Bx 37 1 A4 [.slice none 0 0]::ks.set ix k')))/\s.1<=ord.length/\s.2.length=f/\∀x∈s.2,0<=x/\x< (ord.length:Int)) (fun s=>ord.length - s.1) (0,List.replicate f 0) ⟨rfl,rfl,rfl,rfl,rfl,rfl,au⟩ ⟨a7,bA _,by simp,fun x hx=>by obtain⟨h0,rfl⟩:=List.mem_replicate.1 hx;omega⟩ ?_;rintro⟨i,num⟩ e w9 ⟨aW,hi,jr,qC⟩;dsimp only at aW hi jr qC|-;refine aY O (aZ O O (az O ?_));refine aM _ O (fun h2=>?_) (fun h2=>?_)
 ·have vu:=aW.bz 1 O;have FY:=aW.bz 0 O;have zZ:=Mr (gi ord i) (by rw [bN (by omega)];exact dd _);refine aD O (ay vu.2 O (bc vu O (ao O (ay FY.2 O (ak.gQ 0 aW O O O (by omega) ?_)))));intro dt bV;refine ao O (aL O (aU O (tQ ?_)));refine⟨(i+1,num.set (gi ord i).toNat (i:Int)),by show ord.length - (i+1)<ord.length - i;omega,(ac4 O),bV,by show i+1<=ord.length;omega,by rw [gR];exact jr,fun x hx=>?_⟩;rcases List.mem_or_eq_of_mem_set hx with hx | rfl
  ·exact qC x hx
  omega
 have vu:=aW.bz 1 O;have FY:=aW.bz 0 O;have TR:bl w9 bI 3 [⟨A6,f,c6⟩,⟨Am,f,cm⟩,⟨A7,f,c7⟩] [zs,ps,ts]:=St.du aW.tail.tail O;have xX:∀x:Int,0<=x->x<f->0<=gi num x/\gi num x< (ord.length:Int):=fun x h0 h1=>by
  obtain⟨q,rfl⟩:∃q:Nat,x=q:=⟨x.toNat,by omega⟩;rw [bN (by omega)];exact qC _ (dd _)
 refine bo O (bp (cn O ?_));refine re (by exact inferInstance) O (eH (St.refl w9) O ?_);intro iF dt lS;refine bR 1 0 lS O O O O O O O ?_;intro dB jm;have jm:St w9 dB ([Bx 37 1 iF [.slice none 0 0]]++aK 24 2 none 0 0 [] []):=(jm.nil _).perm (fb (l₁:=[_]) (l₂:=[_]));refine az O (Cd.loop (α:=BS) (fun s=> [(4,.pointer A4),(5,aj f),(10,.slice bI 3 3),(11,.slice iE ord.length iT),(12,.slice jj f f),(14,.pointer iF),(15,aj (s.n:Int))]) (fun s w'=>St w9 w' ([Bx 37 1 iF [.slice s.B s.n s.c]]++aK 24 2 s.B s.n s.c s.rs s.xss)/\s.n<=3/\s.rs.length=s.n/\s.xss.length=s.n/\GM ord.length s.xss) (fun s=>3 - s.n) ⟨0,0,none,0,0,[],[]⟩ (ac4 O) ⟨jm,bA _,O,O,fun p hp=> (nomatch hp)⟩ ?_);rintro⟨_,_,C,q,cC,gr,ji⟩ e iO ⟨kK,hq,bO,Hn,Ho⟩;dsimp only at kK hq bO Hn Ho|-;refine b7 O (aM _ O (fun h3=>?_) (fun h3=>?_))
 ·refine aD O (jO kK O ?_);intro ot jK nU;refine az O (Cd.loop (α:=Nat×ai×Nat×ah) (fun s=> [(4,.pointer A4),(5,aj f),(10,.slice bI 3 3),(11,.slice iE ord.length iT),(12,.slice jj f f),(14,.pointer iF),(15,aj q),(16,.slice s.2.1 s.1 s.2.2.1),(17,aj (s.1:Int))]) (fun s w'=>St w9 w' (ax 2 s.2.1 s.1 s.2.2.1 s.2.2.2::([Bx 37 1 iF [.slice C q cC]]++aK 24 2 C q cC gr ji))/\s.1<=ord.length/\s.2.2.2.length=s.1/\∀x∈s.2.2.2,0<=x/\x< (ord.length:Int)) (fun s=>ord.length - s.1) (0,ot,0,[]) (ac4 O) ⟨nU,bA _,O,fun x hx=> (nomatch hx)⟩ ?_);rintro⟨j,ot,qo,acc⟩ e si ⟨pJ,hj,lU,uj⟩;dsimp only at pJ hj lU uj|-;refine aY O (aZ O O (az O ?_));refine aM _ O (fun h4=>?_) (fun h4=>?_)
  ·have Lh:=pJ.dY vu;have Le:=pJ.dY FY;have FT:=pJ.bE TR;have bH:=FT.at_ (i:=(q:Int)) (by omega) (by omega);have mr:=hG.at_ (i:=q) (by show q<3;omega);have gI:(rg [⟨A6,f,c6⟩,⟨Am,f,cm⟩,⟨A7,f,c7⟩] q).n=f:=by rw [<-bH.1,mr.1]
   have zZ:=Mr (gi ord j) (by rw [bN (by omega)];exact dd _);have oP:=mr.gi zZ.1 zZ.2;have Mo:=xX _ oP.1 oP.2;generalize hV:gi (gl [zs,ps,ts] q) (gi ord j)=mv at oP Mo;refine cH O ?_;refine jx [15] [yS (ot) (j) (qo),yS (jj) (f) (f),yS (bI) (3) (3),yI ((q:Int)),yP (aF (bI) ((q:Int)).toNat),yS ((rg ([⟨A6,f,c6⟩,⟨Am,f,cm⟩,⟨A7,f,c7⟩]) ((q:Int))).a) ((rg ([⟨A6,f,c6⟩,⟨Am,f,cm⟩,⟨A7,f,c7⟩]) ((q:Int))).n) ((rg ([⟨A6,f,c6⟩,⟨Am,f,cm⟩,⟨A7,f,c7⟩]) ((q:Int))).c),yS (iE) (ord.length) (iT),yI ((j:Int)),yP (aF (iE) ((j:Int)).toNat),yI (gi (ord) ((j:Int))),yP (aF (rg [⟨A6,f,c6⟩,⟨Am,f,cm⟩,⟨A7,f,c7⟩] q).a (gi ord j).toNat),yI (mv),yP (aF (jj) (mv).toNat),yI (gi (num) (mv)),.pr (fun v' w'=>∃tC,v'= .slice tC 1 1/\St w9 w' (ax 2 tC 1 1 [gi num mv]::ax 2 ot j qo acc::([Bx 37 1 iF [.slice C q cC]]++aK 24 2 C q cC gr ji))),.pr (fun v' w'=>∃db dh,v'= .slice db (j+1) dh/\St w9 w' (ax 2 db (j+1) dh (acc++ [gi num mv])::([Bx 37 1 iF [.slice C q cC]]++aK 24 2 C q cC gr ji))),.pr (fun v' w'=>∃db dh,v'= .slice db (j+1) dh/\St w9 w' (ax 2 db (j+1) dh (acc++ [gi num mv])::([Bx 37 1 iF [.slice C q cC]]++aK 24 2 C q cC gr ji)))] (by kernel_rfl) (by kernel_rfl) (ly (ly (ly (ly (ly (ly (ly (ly (ly (ly (ly (ly (ly (ly (cL.2 ⟨Ye.cQ (fun v w w' h hb=>by obtain⟨iP,hv,h1⟩:=h;exact⟨iP,hv,h1.aq hb⟩),(cL.2 ⟨Ye.cQ (fun v w w' h hb=>by obtain⟨db,dh,hv,h1⟩:=h;exact⟨db,dh,hv,h1.aq hb⟩),(cL.2 ⟨Ye.cQ (fun v w w' h hb=>by obtain⟨db,dh,hv,h1⟩:=h;exact⟨db,dh,hv,h1.aq hb⟩),(fun _ h=>by cases h)⟩)⟩)⟩))))))))))))))) ?_ ?_
   ·refine⟨?_,cj O,cj O,cj O,cP fun _ _ hb _ _ _=>ay (FT.top.aq hb).2 O (bG O O),cP fun _ _ hb _ _ _=>bB (FT.top.aq hb) O (bG O O),cj O,cj O,cP fun _ _ hb _ _ _=>ay (Lh.aq hb).2 O (bG O O),cP fun _ _ hb _ _ _=>bc (Lh.aq hb) O (bG O O),?_,?_,cP fun _ _ hb _ _ _=>ay (Le.aq hb).2 O (bG O O),cP fun _ _ hb _ _ _=>bc (Le.aq hb) O (bG O O),?_,?_,?_,au⟩
    ·intro e1 w1 cc eY dQ eP hp aX hq;show ak _ _ _ _ _ _ _;refine lJ O (by exact aX 16 _ O (by kernel_rfl)) O (ak.n (fO O (by exact O)))
    ·refine cP fun e1 w1 hb hp aX hq=>?_
     refine ay (bH.aq hb).2 O (ak.n (fO O (by exact O)))
    ·refine cP fun e1 w1 hb hp aX hq=>?_
     refine bc (bH.aq hb) O (ak.n ?_);exact fO O (by exact bw (Value.int .i64) hV)
    ·refine cP fun e1 w1 hb hp aX hq=>?_
     exact fk (St.refl _) O O O fun iP ma n3=>ak.n (fB.dn O n3.below ⟨iP,O,(pJ.aq hb).call n3⟩)
    ·refine jy fun e1 w1 hb hp aX hq=>?_
     obtain⟨iP,oU,h1⟩:=(hp 14 _ _ (by kernel_rfl) rfl rfl (by kernel_rfl));refine fR 1 h1 O (h1.bz 0 O) O (by exact oU) O ?_;intro db dh Ek vz;exact ak.n (fv.dn O ⟨db,dh,O,vz.tail⟩)
    refine dP 1 fun e1 w1 hp aX hq=>?_
    have dT:=hp 15 _ _ (by kernel_rfl) O O (by kernel_rfl);obtain⟨db,dh,oU,h1⟩:=(hp 15 _ _ (by kernel_rfl) rfl rfl (by kernel_rfl));refine lJ O (by exact oU) O (ak.n ?_);exact fB.dn O (Below.refl _ _) ⟨db,dh,O,h1⟩
   intro u qT _ hu _ _;obtain⟨db,dh,Wk,hT⟩:=hu 16 _ rfl (by kernel_rfl);refine fK O (aL O (aU O (tQ ?_)));refine⟨(j+1,db,dh,acc++ [gi num mv]),by show ord.length - (j+1)<ord.length - j;omega,⟨O,O,O,O,O,O,O,Wk,O,au⟩,hT,by show j+1<=ord.length;omega,by simp [lU],fun x dG=>?_⟩;rcases gE.1 dG with h | h
   ·exact uj x h
   rw [iv]at h;subst h;exact Mo
  have vM:j=ord.length:=by omega
  refine bo O (bp (cn O ?_));refine aS (pJ.rd 1 O) O (a8 (pJ.rd 1 O) O (ao O (mW pJ O O O ?_)));intro Pj qT Ls;refine km 3 Ls O (Ls.eG 0 O) O O O (by omega) (by omega) O ?_;intro ou oE IB CK;have CK:St w9 IB (ax 2 ot j qo acc::Bx 37 1 iF [.slice C q cC]::aV 24 ou (q+1) oE (gr++ [⟨ot,j,qo⟩])::bS 2 gr ji):=CK.tail;refine aS (CK.rd 1 O) O (kD 1 CK O O O O O ?_);intro Ej F3;have F3:St w9 Ej (ax 2 ot j qo acc::Bx 37 1 iF [.slice ou (q+1) oE]::aV 24 ou (q+1) oE (gr++ [⟨ot,j,qo⟩])::bS 2 gr ji):=F3;refine ao O (aL O (aU O (tQ ?_)));refine⟨⟨0,0,ou,q+1,oE,gr++ [⟨ot,j,qo⟩],ji++ [acc]⟩,by show 3 - (q+1)<3 - q;omega,(ac4 O),?_,by show q+1<=3;omega,by simp [bO],by simp [Hn],fun p hp=>?_⟩
  ·show St w9 Ej ([_]++aV 24 ou (q+1) oE (gr++ [⟨ot,j,qo⟩])::bS 2 (gr++ [⟨ot,j,qo⟩]) (ji++ [acc]));rw [nD (by omega)];refine F3.perm ?_;exact fb (l₁:=[_]) (l₂:=_::aV 24 ou (q+1) oE (gr++ [⟨ot,j,qo⟩])::bS 2 gr ji)
  rcases gE.1 hp with h | h
  ·exact Ho p h
  rw [iv]at h;subst h;exact⟨by omega,uj⟩
 have VR:q=3:=by omega
 subst VR;have hF:=aW.call kK;have Ty:St w0 iO (Bx 37 1 iF [.slice C 3 cC]::(aK 24 2 C 3 cC gr ji++ (Bx 37 1 A4 [.slice none 0 0]::ks.set ix k'))):=
  hF.sub (List.Sublist.cons_cons _ (List.Sublist.append_left ((dD _ _).cons _ |>.cons _) _))
 have K4:St w0 iO (Bx 37 1 iF [.slice C 3 cC]::Bx 37 1 A4 [.slice none 0 0]::(aK 24 2 C 3 cC gr ji++ks.set ix k')):=Ty.perm (List.Perm.cons _ eU);refine bo O (bp (cn O ?_));refine ac3 0 (K4.rd 0 O) O (bR 1 1 K4 O O O O O O O ?_);intro jK K5;refine bu O (fZ O (K5.rd 1 O) ?_);exact⟨C,cC,gr,ji,ord.length,k',O,bO,Hn,Ho,⟨VJ,by omega⟩,pI,(K5.sub ((dA _).cons _)).sub ((dA _).cons _)⟩
theorem wG{a b a' b':ab}(h:a=a')(h':b=b'):[a,b]=[a',b']:=by rw [h,h']
theorem Bn{Q:gV}{e:Env}{w:aa}{F:List (Nat×ab)}(hM:Mt e F)(h:Q .normal (ext e F) w):Q .normal e w:=by rwa [vd hM]at h
theorem Ec{w0 w:aa}{ks:List Ck}(X:List Ck)(ix:Nat){As:ai}{k:Ck}(n:Int)(hS:St w0 w (X++ks))(hk:ks[ix]?=some k)(hK:fj w0 As k):
 aE prog 94 [.pointer As,aj n] w (fun v w'=>∃(r:Int) (k':Ck),v=aj r/\(0<=r/\(1<=n->r<n)/\(n<1->r=0))/\fj w0 As k'/\St w0 w' (X++ks.set ix k')):=by
 have e:(X++ks)[X.length+ix]?=some k:=by
  rw [mU (by omega),Nat.add_sub_cancel_left];exact hk
 have h:=o9 (X.length+ix) n hS e hK;refine h.mono ?_;rintro v w' ⟨r,k',h1,h2,h3,h4⟩;rw [show(X++ks).set (X.length+ix) k'=X++ks.set ix k' from by rw [List.set_append,aC (by omega),Nat.add_sub_cancel_left]]at h4;exact⟨r,k',h1,h2,h3,h4⟩
def Ep(w0:aa)(ks:List Ck)(ix:Nat)(As:ai)(v:ab)(w':aa):Prop:=
 ∃(n N:Nat) (A:ai) (c:Nat) (rs:List aO) (xss:ag) (k':Ck),v= .agg #[.slice A n c]/\(1<=n/\n<=5)/\(1<=N/\N<=20000)/\rs.length=n/\xss.length=n/\GM N xss/\fj w0 As k'/\St w0 w' (aK 24 2 A n c rs xss++ks.set ix k')
structure IE where
 n:Nat
 N:Nat
 A:ai
 c:Nat
 rs:List aO
 xss:ag
 k:Ck
abbrev rl(A4 A5 A6 Ar Ae:ai)(vs:List ab)(X:List Ck):List Ck:=
 Bx 37 1 A6 vs::Bx 37 1 A5 [.slice Ar 1 1]::Bx 37 1 A4 [.slice none 0 0]::(aK 24 2 Ar 1 1 [⟨Ae,2,2⟩] [[1,0]]++X)
abbrev anyM(A4 A5 A6 Ar Ae:ai)(vs:List ab)(ms X:List Ck):List Ck:=
 Bx 37 1 A6 vs::Bx 37 1 A5 [.slice Ar 1 1]::Bx 37 1 A4 [.slice none 0 0]::(ms++ (aK 24 2 Ar 1 1 [⟨Ae,2,2⟩] [[1,0]]++X))
theorem any_join{w0 w w':aa}{A4 A5 A6 Ar Ae:ai}{vs:List ab}{ms X:List Ck}(hS:St w0 w (rl A4 A5 A6 Ar Ae vs X))(hT:St w w' ms):St w0 w' (anyM A4 A5 A6 Ar Ae vs ms X):=(hS.call hT).perm ((eU (l₁:=ms)).trans (List.Perm.cons _ ((eU (l₁:=ms)).trans (List.Perm.cons _ (eU (l₁:=ms))))))
theorem QL{w0 w':aa}{A4 A5 A6 Ar Ae:ai}{vs:List ab}{ms X:List Ck}(hS:St w0 w' (ms++rl A4 A5 A6 Ar Ae vs X)):St w0 w' (anyM A4 A5 A6 Ar Ae vs ms X):=
 hS.perm ((eU (l₁:=ms)).trans (List.Perm.cons _ ((eU (l₁:=ms)).trans (List.Perm.cons _ (eU (l₁:=ms))))))
theorem wW{w0 w':aa}{A4 A5 A6 Ar Ae:ai}{vs:List ab}{ms X:List Ck}(hS:St w0 w' (anyM A4 A5 A6 Ar Ae vs ms X)):St w0 w' (rl A4 A5 A6 Ar Ae vs X):=
 hS.sub (List.Sublist.cons_cons _ (List.Sublist.cons_cons _ (List.Sublist.cons_cons _ (dD _ _))))
theorem Ir{w0 w:aa}{A4 A5 A6 Ar Ae:ai}{vs:List ab}{ms ks:List Ck}(ix:Nat){As:ai}{k:Ck}(n:Int)(hS:St w0 w (anyM A4 A5 A6 Ar Ae vs ms ks))(hk:ks[ix]?=some k)(hK:fj w0 As k):
 aE prog 94 [.pointer As,aj n] w (fun v w'=>∃(r:Int) (k':Ck),v=aj r/\(0<=r/\(1<=n->r<n)/\(n<1->r=0))/\fj w0 As k'/\St w0 w' (anyM A4 A5 A6 Ar Ae vs ms (ks.set ix k'))):=by
 have e:∀X,anyM A4 A5 A6 Ar Ae vs ms X=anyM A4 A5 A6 Ar Ae vs ms []++X:=fun X=>by simp [anyM]
 rw [e]at hS;refine(Ec _ ix n hS hk hK).mono ?_;rintro v w' ⟨r,k',h1,h2,h3,h4⟩;rw [<-e]at h4;exact⟨r,k',h1,h2,h3,h4⟩
theorem BL:GM 2 [[1,0]]:=fun p hp=>by
 rw [iv]at hp;subst hp;exact⟨O,fun x hx=>by
  rcases ja.1 hx with rfl | hx
  ·decide
  rw [iv]at hx;subst hx;decide⟩
structure Pk(w0:aa)(ks:List Ck)(ix:Nat)(As A4 A5 A6 Ar Ae:ai)(most p:Nat)(D:Int)(S:Nat->Bool)(e:Env)(w:aa):Prop where
 f0:e 0= .pointer As
 f1:e 1=aj most
 f4:e 4= .pointer A4
 f5:e 5= .pointer A5
 f6:e 6= .pointer A6
 f7:e 7=aj p
 p0:S 0=true->e 52=aj p
 p2:S 2=true->e 54= .pointer As
 p3:S 3=true->e 55=aj most
 p4:S 4=true->e 56=aj p
 p5:S 5=true->e 57=aj (4* (p:Int))
 p6:S 6=true->e 58=aj D
 p7:S 7=true->∃r:Int,e 59=aj r/\0<=r/\r<=250
 p8:S 8=true->∃q:Nat,e 60=aj q/\1<=q/\q<=251
 mem:∃(b1 b2 b3:List Ck) (kk:Ck) (vs:List ab),fj w0 As kk/\(S 1=true->∃A c rs xss,e 53= .agg #[.slice A 2 c]/\rs.length=2/\xss.length=2/\GM (2*p) xss/\b1=aK 24 2 A 2 c rs xss)/\(S 9=true->∃A c rs xss q,e 61= .agg #[.slice A 2 c]/\(1<=q/\q<=251)/\rs.length=2/\xss.length=2/\GM (2*q) xss/\b2=aK 24 2 A 2 c rs xss)/\(S 11=false->vs=[.slice Ar 1 1])/\(S 10=true->∃A c rs xss N,e 62= .agg #[.slice A 4 c]/\(1<=N/\N<=20000)/\rs.length=4/\xss.length=4/\GM N xss/\b3=aK 24 2 A 4 c rs xss/\(S 11=true->vs=[.slice A 4 c]))/\
  St w0 w (anyM A4 A5 A6 Ar Ae vs (b3++ (b2++b1)) (ks.set ix kk))
theorem EK{w0 w':aa}{A4 A5 A6 Ar Ae:ai}{vs:List ab}{n m m' X:List Ck}(hS:St w0 w' (n++anyM A4 A5 A6 Ar Ae vs m X))(hm:(n++m).Perm m'):St w0 w' (anyM A4 A5 A6 Ar Ae vs m' X):=
 hS.perm ((eU (l₁:=n)).trans (List.Perm.cons _ ((eU (l₁:=n)).trans (List.Perm.cons _ ((eU (l₁:=n)).trans (List.Perm.cons _ (by rw [<-fC];exact hm.append_right _)))))))
theorem wX{w0 w':aa}{A4 A5 A6 Ar Ae:ai}{vs:List ab}{m m' X:List Ck}(hS:St w0 w' (anyM A4 A5 A6 Ar Ae vs m X))(hm:m'.Sublist m):St w0 w' (anyM A4 A5 A6 Ar Ae vs m' X):=
 hS.sub (List.Sublist.cons_cons _ (List.Sublist.cons_cons _ (List.Sublist.cons_cons _ (hm.append (dA _)))))
theorem XI{w0 w:aa}{ks:List Ck}(ix:Nat){As:ai}{k:Ck}(most:Nat)(hS:St w0 w ks)(hk:ks[ix]?=some k)(hK:fj w0 As k)(hm:8<=most/\most<=1000):
 aE prog 176 [.pointer As,aj most] w (Ep w0 ks ix As):=by
 refine bm func176 O ntmps176 O (lB O O) (aY O (eH hS O ?_));intro A4 w1 aB;refine ao O (me [1,0] aB O O (by decide) (by decide) O O fun Ae w2 aw=>mW aw O O O fun Ar w3 aI=>wN (by exact inferInstance) O O O O (eH aI O ?_));intro A5 w4 aG;refine bR 1 0 aG O O O O O O O fun w5 aR=>ao O (ac3 0 (aR.rd 0 O) O (eH aR O ?_));intro A6 w6 aQ;refine bR 1 0 aQ O O O O O O O ?_;intro w7 a6;have a6:St w0 w7 (rl A4 A5 A6 Ar Ae [.slice Ar 1 1] ks):=a6.perm (List.Perm.cons _ (List.Perm.cons _ ((fb (l₁:=[_,_]) (l₂:=[_])).append_right ks)));refine wJ 0 O (pc (α:=IE) (fun s=> [(0,.pointer As),(1,aj most),(4,.pointer A4),(5,.pointer A5),(6,.pointer A6)]) (fun s w'=> (1<=s.n/\s.n<=5)/\(1<=s.N/\s.N<=20000)/\s.rs.length=s.n/\s.xss.length=s.n/\GM s.N s.xss/\fj w0 As s.k/\St w0 w' (anyM A4 A5 A6 Ar Ae [.slice s.A s.n s.c] (aK 24 2 s.A s.n s.c s.rs s.xss) (ks.set ix s.k))) ?_ ?_)
 ·refine aY O (aH (o9 (ix+5) 7 a6 (by exact hk) hK) O ?_);rintro _ w8 ⟨r,k1,rfl,hr,jT,a7⟩;have a7:St w0 w8 (rl A4 A5 A6 Ar Ae [.slice Ar 1 1] (ks.set ix k1)):=a7;have gm:=kl (k':=k1) hk;refine az O (aM _ O (fun h1=>?_) (fun h1=>?_))
  ·refine aD O (ak.quo O O O (by omega) (aH (o9 (ix+5) _ a7 (by exact gm) jT) O ?_));rintro _ w9 ⟨q,k2,rfl,hq,fa,aW⟩;have aW:St w0 w9 (rl A4 A5 A6 Ar Ae [.slice Ar 1 1] ((ks.set ix k1).set ix k2)):=aW;rw [iH]at aW;have lW:=kl (k':=k2) hk;refine aL O ?_;obtain⟨p,hp⟩:∃p:Nat,1+q=p:=⟨(1+q).toNat,by omega⟩;rw [hp];refine aH (DH p _ (by omega)) O ?_;rintro _ dt ⟨A,c,rs,xss,rfl,bO,bP,hG,hT⟩;have bV:=any_join aW hT;refine bR 1 0 bV O O O O O O O fun dB dW=>aU O (tQ ?_);exact⟨⟨2,2*p,A,c,rs,xss,k2⟩,(ac4 O),(by show 1<=2/\2<=5;decide),⟨by show 1<=2*p;omega,by show 2*p<=20000;omega⟩,bO,bP,hG,fa,dW⟩
  ·refine cH O (aM _ O (fun h2=>?_) (fun h2=>?_))
   ·refine aD O (ac3 0 (a7.rd 1 O) O (bR 1 2 a7 O O O O O O O ?_));intro w9 aW;refine bu O (de (cT ?_));refine fZ O (aW.rd 2 O) ?_;exact⟨1,2,Ar,1,[⟨Ae,2,2⟩],[[1,0]],k1,O,by decide,by decide,O,O,BL,jT,aW.tail.tail.tail⟩
   ·refine cH O (aM _ O (fun h3=>?_) (fun h3=>?_))
    ·refine aD O (ak.quo O O O (by omega) (aH (o9 (ix+5) _ a7 (by exact gm) jT) O ?_));rintro _ w9 ⟨q,k2,rfl,hq,fa,aW⟩;have aW:St w0 w9 (rl A4 A5 A6 Ar Ae [.slice Ar 1 1] ((ks.set ix k1).set ix k2)):=aW;rw [iH]at aW;refine aL O ?_;obtain⟨p,hp⟩:∃p:Nat,1+q=p:=⟨(1+q).toNat,by omega⟩;rw [hp];refine aH (DH p _ (by omega)) O ?_;rintro _ dt ⟨A,c,rs,xss,rfl,bO,bP,hG,hT⟩;have bV:=any_join aW hT;refine bR 1 0 bV O O O O O O O ?_;intro dB dW;have dW:St w0 dB (anyM A4 A5 A6 Ar Ae [.slice A 2 c] (aK 24 2 A 2 c rs xss) (ks.set ix k2)):=dW;refine ao O (ac3 0 (dW.rd 0 O) O (ac3 0 (dW.rd 1 O) O ?_));refine aH (DF A 2 c rs xss (2*p) Ar 1 1 [⟨Ae,2,2⟩] [[1,0]] 2 dB (St.du dW.tail.tail.tail (by omega)) (St.du (wW dW).tail.tail.tail O) (by decide) (by decide) hG BL (by omega) (by omega) (by omega)) O ?_;rintro _ iO ⟨A',c',rs',xss',rfl,mQ,ti,sM,ia⟩;have fU:=any_join (wW dW) ia;refine bR 1 0 fU O O O O O O O fun jK gL=>aU O (tQ ?_);exact⟨⟨3,2*p*2,A',c',rs',xss',k2⟩,(ac4 O),(by show 1<=3/\3<=5;decide),⟨by show 1<=2*p*2;omega,by show 2*p*2<=20000;omega⟩,mQ,ti,sM,fa,gL⟩
    ·refine cH O (aM _ O (fun h4=>?_) (fun h4=>?_))
     ·refine aD O (aH (o9 (ix+5) 4 a7 (by exact gm) jT) O ?_);rintro _ w9 ⟨q,k2,rfl,hq,fa,aW⟩;have aW:St w0 w9 (rl A4 A5 A6 Ar Ae [.slice Ar 1 1] ((ks.set ix k1).set ix k2)):=aW;rw [iH]at aW;refine aL O (wJ 0 O ?_);refine pc (α:=Nat) (fun p=> [(0,.pointer As),(1,aj most),(4,.pointer A4),(5,.pointer A5),(6,.pointer A6),(7,aj p)]) (fun p w'=>w'=w9/\1<=p/\p<=4) ?_ ?_
      ·refine aY O (gU O O O (by omega) (az O ?_));refine aM _ O (fun h5=>?_) (fun h5=>?_)
       ·refine mC O (tQ ?_);exact⟨2,(ac4 O),O,by decide⟩
       ·refine mC O (tQ ?_);exact⟨(1+q).toNat,⟨O,O,O,O,O,bw (Value.int .i64) (by omega),au⟩,O,by omega⟩
      rintro p e dt ⟨rfl,hp⟩;obtain⟨D,hD⟩:∃D:Int,(most:Int) / (4* (p:Int))=D:=⟨_,rfl⟩;have hDb:0<=D/\D<=250:=by
       rcases(by omega:p=1\/p=2\/p=3\/p=4)with rfl | rfl | rfl | rfl<;>omega
      refine qX (by kernel_rfl) (by kernel_rfl) (fun S e1 w1=>Pk w0 ks ix As A4 A5 A6 Ar Ae most p D S e1 w1) (fun w4 hb=> ⟨O,O,O,O,O,O,fun h=> (nomatch h),fun h=> (nomatch h),fun h=> (nomatch h),fun h=> (nomatch h),fun h=> (nomatch h),fun h=> (nomatch h),fun h=> (nomatch h),fun h=> (nomatch h),[],[],[],k2,[.slice Ar 1 1],fa,fun h=> (nomatch h),fun h=> (nomatch h),fun _=>O,fun h=> (nomatch h),aW.aq hb⟩) ?_ ?_
      ·intro S i o e1 w4 hq bh hd cz hI;obtain⟨f0,f1,f4,f5,f6,f7,p0,p2,p3,p4,p5,p6,p7,p8,B1,B2,B3,kk,vs,dR,m1,m9,m11,m10,hT⟩:=hI
       match i,hq,bh with
       | 0,hq,bh=>
        obtain rfl:=bC hq;refine ko O (by exact f7) O (ak.n ?_);exact⟨f0,f1,f4,f5,f6,f7,fun _=>O,p2,p3,p4,p5,p6,p7,p8,B1,B2,B3,kk,vs,dR,m1,m9,m11,m10,hT⟩
       | 1,hq,bh=>
        obtain rfl:=bC hq;refine acW (DH p w4 (by omega)) O (by exact bw (fun v=> [v]) (p0 (bJ hd 0 O))) O ?_;rintro _ w5 ⟨A,c,rs,xss,rfl,bO,bP,hG,ia⟩;have dC:=EK (m':=B3++ (B2++aK 24 2 A 2 c rs xss)) ((wX hT (m':=B3++ (B2++ [])) ((dA _).append ((dA _).append (List.nil_sublist _)))).call ia) (by rw [iG,<-fC B3 B2];exact fb);exact ak.n ⟨f0,f1,f4,f5,f6,f7,p0,p2,p3,p4,p5,p6,p7,p8,aK 24 2 A 2 c rs xss,B2,B3,kk,vs,dR,fun _=> ⟨A,c,rs,xss,O,bO,bP,hG,O⟩,m9,m11,m10,dC⟩
       | 2,hq,bh=>
        obtain rfl:=bC hq;refine wS O (by exact f0) O (ak.n ?_);exact⟨f0,f1,f4,f5,f6,f7,p0,fun _=>O,p3,p4,p5,p6,p7,p8,B1,B2,B3,kk,vs,dR,m1,m9,m11,m10,hT⟩
       | 3,hq,bh=>
        obtain rfl:=bC hq;refine ko O (by exact f1) O (ak.n ?_);exact⟨f0,f1,f4,f5,f6,f7,p0,p2,fun _=>O,p4,p5,p6,p7,p8,B1,B2,B3,kk,vs,dR,m1,m9,m11,m10,hT⟩
       | 4,hq,bh=>
        obtain rfl:=bC hq;refine ko O (by exact f7) O (ak.n ?_);exact⟨f0,f1,f4,f5,f6,f7,p0,p2,p3,fun _=>O,p5,p6,p7,p8,B1,B2,B3,kk,vs,dR,m1,m9,m11,m10,hT⟩
       | 5,hq,bh=>
        obtain rfl:=bC hq;refine gU O (by exact p4 (bJ hd 4 O)) O (by omega) (ak.n ?_);exact⟨f0,f1,f4,f5,f6,f7,p0,p2,p3,p4,fun _=>O,p6,p7,p8,B1,B2,B3,kk,vs,dR,m1,m9,m11,m10,hT⟩
       | 6,hq,bh=>
        obtain rfl:=bC hq;refine ak.quo (by exact p3 (bJ hd 3 O)) (by exact p5 (bJ hd 5 O)) O (by omega) (ak.n ?_);exact⟨f0,f1,f4,f5,f6,f7,p0,p2,p3,p4,p5,fun _=>bw (Value.int .i64) hD,p7,p8,B1,B2,B3,kk,vs,dR,m1,m9,m11,m10,hT⟩
       | 7,hq,bh=>
        obtain rfl:=bC hq;have ke:=kl (k':=kk) hk;refine acW (Ir ix D hT ke dR) O (by exact wG (p2 (bJ hd 2 O)) (p6 (bJ hd 6 O))) O ?_;rintro _ w5 ⟨r7,k7,rfl,tc,sO,eB⟩;rw [iH]at eB;refine ak.n ?_;exact⟨f0,f1,f4,f5,f6,f7,p0,p2,p3,p4,p5,p6,fun _=> ⟨r7,O,tc.1,by omega⟩,p8,B1,B2,B3,k7,vs,sO,m1,m9,m11,m10,eB⟩
       | 8,hq,bh=>
        obtain rfl:=bC hq;obtain⟨r7,h7,tc⟩:=p7 (bJ hd 7 rfl);refine acX O (by exact h7) O (by omega) (ak.n ?_);exact⟨f0,f1,f4,f5,f6,f7,p0,p2,p3,p4,p5,p6,p7,fun _=> ⟨(1+r7).toNat,bw (Value.int .i64) (by omega),by omega,by omega⟩,B1,B2,B3,kk,vs,dR,m1,m9,m11,m10,hT⟩
       | 9,hq,bh=>
        obtain rfl:=bC hq;obtain⟨q8,h8,GZ⟩:=p8 (bJ hd 8 rfl);refine acW (DH q8 w4 (by omega)) O (by exact bw (fun v=> [v]) h8) O ?_;rintro _ w5 ⟨A,c,rs,xss,rfl,bO,bP,hG,ia⟩;have dC:=EK (m':=B3++ (aK 24 2 A 2 c rs xss++B1)) ((wX hT (m':=B3++ ([]++B1)) ((dA _).append ((List.nil_sublist _).append (dA _)))).call ia) (by rw [List.nil_append,<-fC,<-fC];exact fb.append_right _);exact ak.n ⟨f0,f1,f4,f5,f6,f7,p0,p2,p3,p4,p5,p6,p7,p8,B1,aK 24 2 A 2 c rs xss,B3,kk,vs,dR,m1,fun _=> ⟨A,c,rs,xss,q8,O,GZ,bO,bP,hG,O⟩,m11,m10,dC⟩
       | 10,hq,bh=>
        obtain rfl:=bC hq;obtain⟨A1,c1,cV,iD,xn,VY,Wp,K7,rfl⟩:=m1 (bJ hd 1 rfl);obtain⟨A2,c2,qO,yz,q8,KQ,GZ,MC,Wq,K8,rfl⟩:=m9 (bJ hd 9 rfl);have n11:S 11=false:=by
         cases h:S 11 with
         | false=>rfl
         | true=>rw [<-bh];exact(bJ (cz 11 _ h rfl) 10 rfl).symm
        have uh:bl w4 A1 2 cV iD:=St.du ((wX hT (m':=[]++ ([]++aK 24 2 A1 2 c1 cV iD)) ((List.nil_sublist _).append ((List.nil_sublist _).append (dA _)))).tail.tail.tail) (by omega);have CN:bl w4 A2 2 qO yz:=St.du ((wX hT (m':=aK 24 2 A2 2 c2 qO yz) ((kY _ _).trans (dD _ _))).tail.tail.tail) (by omega);have hN:2*p* (2*q8)<=8*502:=Nat.mul_le_mul (by omega) (by omega);have TU:1<=2*p* (2*q8):=Nat.mul_pos (by omega) (by omega);refine acW (DF A1 2 c1 cV iD (2*p) A2 2 c2 qO yz (2*q8) w4 uh CN (by decide) (by decide) K7 K8 (by omega) (by omega) (by omega)) O (by exact wG xn KQ) O ?_;rintro _ w5 ⟨A,c,rs,xss,rfl,bO,bP,hG,ia⟩;have dC:=EK (m':=aK 24 2 A (2+2) c rs xss++ (aK 24 2 A2 2 c2 qO yz++aK 24 2 A1 2 c1 cV iD)) ((wX hT (dD _ _)).call ia) (List.Perm.refl _);refine ak.n ?_;exact⟨f0,f1,f4,f5,f6,f7,p0,p2,p3,p4,p5,p6,p7,p8,aK 24 2 A1 2 c1 cV iD,aK 24 2 A2 2 c2 qO yz,aK 24 2 A (2+2) c rs xss,kk,vs,dR,fun _=> ⟨A1,c1,cV,iD,xn,VY,Wp,K7,O⟩,fun _=> ⟨A2,c2,qO,yz,q8,KQ,GZ,MC,Wq,K8,O⟩,m11,fun _=> ⟨A,c,rs,xss,2*p* (2*q8),O,⟨TU,by omega⟩,bO,bP,hG,O,fun h=> (nomatch n11.symm.trans h)⟩,dC⟩
       | 11,hq,bh=>
        obtain rfl:=bC hq;obtain⟨A,c,rs,xss,N,FH,hN,bO,bP,hG,rfl,_⟩:=m10 (bJ hd 10 rfl);obtain rfl:=m11 bh;refine bR 1 0 hT O (by exact f6) (by exact FH) O O O O ?_;intro w5 dC;refine ak.n ?_;exact⟨f0,f1,f4,f5,f6,f7,p0,p2,p3,p4,p5,p6,p7,p8,B1,B2,_,kk,[.slice A 4 c],dR,m1,m9,fun h=> (nomatch (show true=false from h)),fun _=> ⟨A,c,rs,xss,N,FH,hN,bO,bP,hG,O,fun _=>O⟩,dC⟩
       | i+12,hq,_=>exact(nomatch hq)
      ·intro S e1 w4 ct hI;obtain⟨f0,f1,f4,f5,f6,f7,p0,p2,p3,p4,p5,p6,p7,p8,B1,B2,B3,kk,vs,dR,m1,m9,m11,m10,hT⟩:=hI;obtain⟨A,c,rs,xss,N,FH,hN,bO,bP,hG,rfl,AE⟩:=m10 (ct 10 (by decide));obtain rfl:=AE (ct 11 (by decide));refine Bn (F:=[(0,.pointer As),(1,aj most),(4,.pointer A4),(5,.pointer A5),(6,.pointer A6)]) ⟨f0,f1,f4,f5,f6,au⟩ (IK O (tQ ?_));exact⟨⟨4,N,A,c,rs,xss,kk⟩,(ac4 O),(by show 1<=4/\4<=5;decide),hN,bO,bP,hG,dR,wX hT (kY _ _)⟩
     ·refine aD O (ak.quo O O O (by omega) (aH (o9 (ix+5) _ a7 (by exact gm) jT) O ?_));rintro _ w9 ⟨q,k2,rfl,hq,fa,aW⟩;have aW:St w0 w9 (rl A4 A5 A6 Ar Ae [.slice Ar 1 1] ((ks.set ix k1).set ix k2)):=aW;rw [iH]at aW;have lW:=kl (k':=k2) hk;refine aL O ?_;obtain⟨p,hp⟩:∃p:Nat,1+q=p:=⟨(1+q).toNat,by omega⟩;rw [hp];refine aH (XK (ix+5) p aW (by exact lW) fa (by omega)) O ?_;rintro _ dt ⟨A,c,rs,xss,N,k3,rfl,bO,bP,hG,hN,lP,hT⟩;have hT:St w0 dt (aK 24 2 A 3 c rs xss++rl A4 A5 A6 Ar Ae [.slice Ar 1 1] ((ks.set ix k2).set ix k3)):=hT;rw [iH]at hT;have bV:=QL hT;refine bR 1 0 bV O O O O O O O fun dB dW=>aU O (tQ ?_);exact⟨⟨3,N,A,c,rs,xss,k3⟩,(ac4 O),(by show 1<=3/\3<=5;decide),⟨hN.1,by show N<=20000;omega⟩,bO,bP,hG,lP,dW⟩
 ·intro s e w9 hI;refine cH O (Cd.loop (α:=IE) (fun s=> [(0,.pointer As),(1,aj most),(4,.pointer A4),(5,.pointer A5),(6,.pointer A6)]) (fun s w'=> (1<=s.n/\s.n<=5)/\(1<=s.N/\s.N<=20000)/\s.rs.length=s.n/\s.xss.length=s.n/\GM s.N s.xss/\fj w0 As s.k/\St w0 w' (anyM A4 A5 A6 Ar Ae [.slice s.A s.n s.c] (aK 24 2 s.A s.n s.c s.rs s.xss) (ks.set ix s.k))) (fun s=>5 - s.n) s (ac4 O) hI ?_);clear hI s;rintro⟨n,N,A,c,rs,xss,k2⟩ e dt ⟨hn,hN,bO,bP,hG,fa,bV⟩;dsimp only at hn hN bO bP hG fa bV|-;have lW:=kl (k':=k2) hk;refine aY O (aS (bV.rd 0 O) O (a8 (bV.rd 0 O) O ?_));refine aZ O O (ao O ?_);have FM:∀(k5:Ck) (dB:aa),fj w0 As k5->St w0 dB (aK 24 2 A n c rs xss++ (aK 24 2 Ar 1 1 [⟨Ae,2,2⟩] [[1,0]]++ks.set ix k5))->Ep w0 ks ix As (.agg #[.slice A n c]) dB:=fun k5 dB TF h=> ⟨n,N,A,c,rs,xss,k5,O,hn,hN,bO,bP,hG,TF,h.sub ((dA _).append (dD _ _))⟩
  refine bX 67 O (fun h1=>?_) (fun h1=>?_)
  ·refine ar O (ac3 0 (bV.rd 0 O) O (ar O (aH (oY A n c rs xss dt (St.du bV.tail.tail.tail (by omega)) (by omega)) O ?_)));rintro _ dB ⟨rfl,hT⟩;have dW:=bV.aq hT.below;rw [hG.first (by omega)];refine ar O (gU O O O (by omega) (ar O (ao O (ar O (ao O ?_)))));refine bX 74 O (fun h2=>?_) (fun h2=>?_)
   ·refine ar O (ao O (ar O ?_));refine aH (Ir ix 3 dW lW fa) O ?_;rintro _ iO ⟨r,k3,rfl,hr,lP,fU⟩;rw [iH]at fU;have Vm:=kl (k':=k3) hk;refine ar O (az O ?_);refine aM _ O (fun h3=>?_) (fun h3=>?_)
    ·refine aD O (aH (Ir ix 2 fU Vm lP) O ?_);rintro _ jK ⟨r',k4,rfl,oQ,Lb,gL⟩;rw [iH]at gL;refine az O (aM _ O (fun h4=>?_) (fun h4=>?_))
     ·skip
      refine aD O (ac3 0 (gL.rd 0 O) O (ac3 0 (gL.rd 1 O) O ?_));refine aH (DF A n c rs xss N Ar 1 1 [⟨Ae,2,2⟩] [[1,0]] 2 jK (St.du gL.tail.tail.tail (by omega)) (St.du (wW gL).tail.tail.tail O) (by omega) (by decide) hG BL (by omega) (by omega) (by omega)) O ?_;rintro _ si ⟨A',c',rs',xss',rfl,mQ,ti,sM,ia⟩;have oI:=any_join (wW gL) ia;refine bR 1 0 oI O O O O O O O fun qT nn=>aU O (tQ ?_);exact⟨⟨n+1,N*2,A',c',rs',xss',k4⟩,by show 5 - (n+1)<5 - n;omega,(ac4 O),⟨by show 1<=n+1;omega,by show n+1<=5;omega⟩,⟨by show 1<=N*2;omega,by show N*2<=20000;omega⟩,mQ,ti,sM,Lb,nn⟩
     ·skip
      refine aD O (ac3 0 (gL.rd 1 O) O (ac3 0 (gL.rd 0 O) O ?_));refine aH (DF Ar 1 1 [⟨Ae,2,2⟩] [[1,0]] 2 A n c rs xss N jK (St.du (wW gL).tail.tail.tail O) (St.du gL.tail.tail.tail (by omega)) (by decide) (by omega) BL hG (by omega) (by omega) (by omega)) O ?_;rintro _ si ⟨A',c',rs',xss',rfl,mQ,ti,sM,ia⟩;have oI:=any_join (wW gL) ia;refine bR 1 0 oI O O O O O O O fun qT nn=>aU O (tQ ?_);exact⟨⟨1+n,2*N,A',c',rs',xss',k4⟩,by show 5 - (1+n)<5 - n;omega,(ac4 O),⟨by show 1<=1+n;omega,by show 1+n<=5;omega⟩,⟨by show 1<=2*N;omega,by show 2*N<=20000;omega⟩,mQ,ti,sM,Lb,nn⟩
    ·refine bo O (bp (cn O ?_));refine ac3 0 (fU.rd 0 O) O (bR 1 2 fU O O O O O O O ?_);intro ma jg;refine bu O (fZ O (jg.rd 2 O) ?_);exact FM k3 ma ‹_› jg.tail.tail.tail
   ·refine av O (av O (av O (az O ?_)));refine Cd.dO O (bo O (bp (cn O ?_)));refine ac3 0 (dW.rd 0 O) O (bR 1 2 dW O O O O O O O ?_);intro ma jg;refine bu O (fZ O (jg.rd 2 O) ?_);exact FM k2 ma ‹_› jg.tail.tail.tail
  ·refine av O (av O (av O (av O (av O (ao O (av O (av O (av O (az O ?_)))))))));refine Cd.dO O (bo O (bp (cn O ?_)));refine ac3 0 (bV.rd 0 O) O (bR 1 2 bV O O O O O O O ?_);intro ma jg;refine bu O (fZ O (jg.rd 2 O) ?_);exact FM k2 ma ‹_› jg.tail.tail.tail
theorem OG{N:Nat}{f g:Nat->Int}(hg:∀i,i<N->0<=g i/\g i< (N:Int)):∀ {m:Nat} {xs:ah},m<=N->Rg N xs->Rg N (nF xs f g m)
 | 0,_,_,h=>h
 | m+1,xs,hm,h=>by
  have h1:=OG (f:=f) hg (m:=m) (by omega) h;have h2:=hg m (by omega);refine⟨by simp [nF,h1.1],fun x hx=>?_⟩;simp only [nF]at hx;rcases List.mem_or_eq_of_mem_set hx with hx | rfl
  ·exact h1.2 x hx
  ·exact h2
theorem GM.ZB{N:Nat}{p:ah}{xss:ag}(h:GM N xss)(hp:Rg N p):GM N (xss.map (kR N p)):=fun q hq=>by
 obtain⟨mv,oP,rfl⟩:=fx.1 hq;have h1:=h mv oP;refine OG (fun i hi=>?_) (dE _) ⟨by simp,fun x hx=>by obtain⟨h0,rfl⟩:=List.mem_replicate.1 hx;omega⟩;have h2:=h1.gi (i:=(i:Int)) (by omega) (by omega);exact hp.gi h2.1 h2.2
structure Pz(w0:aa)(ks:List Ck)(ix:Nat)(As A4 A5:ai)(n N:Nat)(A:ai)(c:Nat)(rs:List aO)(xss:ag)(S:Nat->Bool)(e:Env)(w:aa):Prop where
 f0:e 0= .pointer As
 f4:e 4= .pointer A4
 f5:e 5= .pointer A5
 p0:S 0=true->e 12= .agg #[.slice A n c]
 p1:S 1=true->e 13= .pointer As
 p2:S 2=true->e 14= .agg #[.slice A n c]
 p3:S 3=true->e 15=aj N
 mem:∃(b1 b2:List Ck) (kk:Ck) (vs:List ab),fj w0 As kk/\(S 4=true->∃Ap cp ps,e 16= .slice Ap N cp/\Rg N ps/\b1=[ax 2 Ap N cp ps])/\(S 6=false->vs=[.slice none 0 0])/\(S 5=true->∃A' c' rs' xss',e 17= .agg #[.slice A' n c']/\rs'.length=n/\xss'.length=n/\GM N xss'/\b2=aK 24 2 A' n c' rs' xss'/\(S 6=true->vs=[.slice A' n c']))/\
  St w0 w (Bx 37 1 A5 [.slice A n c]::Bx 37 1 A4 vs::(aK 24 2 A n c rs xss++ (b2++ (b1++ks.set ix kk))))
theorem Xz{w0 w:aa}{ks:List Ck}(X:List Ck)(ix:Nat){As:ai}{k:Ck}(n:Nat)(hS:St w0 w (X++ks))(hk:ks[ix]?=some k)(hK:fj w0 As k)(hn:n<=1000000):
 aE prog 178 [.pointer As,aj n] w (fun v w'=>∃A c xs k',v= .slice A n c/\Rg n xs/\fj w0 As k'/\St w0 w' (ax 2 A n c xs::(X++ks.set ix k'))):=by
 have e:(X++ks)[X.length+ix]?=some k:=by
  rw [mU (by omega),Nat.add_sub_cancel_left];exact hk
 refine(Ni (X.length+ix) n hS e hK hn).mono ?_;rintro v w' ⟨A,c,xs,k',h1,h2,h3,h4⟩;rw [show(X++ks).set (X.length+ix) k'=X++ks.set ix k' from by rw [List.set_append,aC (by omega),Nat.add_sub_cancel_left]]at h4;exact⟨A,c,xs,k',h1,h2,h3,h4⟩
theorem Hz{w0 w:aa}{ks:List Ck}(ix:Nat){As:ai}{k:Ck}(most:Nat)(hS:St w0 w ks)(hk:ks[ix]?=some k)(hK:fj w0 As k)(hm:8<=most/\most<=1000):
 aE prog 103 [.pointer As,aj most] w (Ep w0 ks ix As):=by
 refine bm func103 O ntmps103 O (lB O O) (aY O (eH hS O ?_));intro A4 w1 aB;refine ao O (aH (XI (ix+1) most aB (by exact hk) hK hm) O ?_);rintro _ w2 ⟨n,N,A,c,rs,xss,k1,rfl,hn,hN,bO,bP,hG,jT,aw⟩;refine eH aw O fun A5 w3 aI=>bR 1 0 aI O O O O O O O ?_;intro w4 aG;have aG:St w0 w4 (Bx 37 1 A5 [.slice A n c]::(aK 24 2 A n c rs xss++ (Bx 37 1 A4 [.slice none 0 0]::ks.set ix k1))):=aG;have aG:St w0 w4 (Bx 37 1 A5 [.slice A n c]::Bx 37 1 A4 [.slice none 0 0]::(aK 24 2 A n c rs xss++ks.set ix k1)):=aG.perm (List.Perm.cons _ eU);have gm:=kl (k':=k1) hk;refine ao O ?_;have TW:∀(X:List Ck) (kk:Ck) (w5:aa) (vs:List ab) (q:Int),fj w0 As kk->St w0 w5 (Bx 37 1 A5 [.slice A n c]::Bx 37 1 A4 vs::(aK 24 2 A n c rs xss++ (X++ks.set ix kk)))->aE prog 94 [.pointer As,aj q] w5 (fun v w'=>∃(r:Int) (k':Ck),v=aj r/\(0<=r/\(1<=q->r<q)/\(q<1->r=0))/\fj w0 As k'/\St w0 w' (Bx 37 1 A5 [.slice A n c]::Bx 37 1 A4 vs::(aK 24 2 A n c rs xss++ (X++ks.set ix k')))):=by
  intro X kk w5 vs q dR hT;have ke:=kl (k':=kk) hk;have e:∀Y,Bx 37 1 A5 [.slice A n c]::Bx 37 1 A4 vs::(aK 24 2 A n c rs xss++ (X++Y))=(Bx 37 1 A5 [.slice A n c]::Bx 37 1 A4 vs::(aK 24 2 A n c rs xss++X))++Y:=fun Y=>by simp
  rw [e]at hT;refine(Ec _ ix q hT ke dR).mono ?_;rintro v w' ⟨r,k',h1,h2,h3,h4⟩;rw [<-e,iH]at h4;exact⟨r,k',h1,h2,h3,h4⟩
 refine aH (TW [] k1 w4 _ 4 jT aG) O ?_;rintro _ w5 ⟨r,k2,rfl,hr,fa,aR⟩;have aR:St w0 w5 (Bx 37 1 A5 [.slice A n c]::Bx 37 1 A4 [.slice none 0 0]::(aK 24 2 A n c rs xss++ks.set ix k2)):=aR;have lW:=kl (k':=k2) hk;refine az O (aM _ O (fun h1=>?_) (fun h1=>?_))
 ·refine cH O (qX (by kernel_rfl) (by kernel_rfl) (fun S e1 w1=>Pz w0 ks ix As A4 A5 n N A c rs xss S e1 w1) (fun w6 hb=> ⟨O,O,O,fun h=> (nomatch h),fun h=> (nomatch h),fun h=> (nomatch h),fun h=> (nomatch h),[],[],k2,[.slice none 0 0],fa,fun h=> (nomatch h),fun _=>O,fun h=> (nomatch h),aR.aq hb⟩) ?_ ?_)
  ·intro S i o e1 w6 hq bh hd cz hI;obtain⟨f0,f4,f5,p0,p1,p2,p3,B1,B2,kk,vs,dR,m4,m6,m5,hT⟩:=hI;have hX:bl w6 A n rs xss:=St.du hT.tail.tail (by omega)
   match i,hq,bh with
   | 0,hq,bh=>
    obtain rfl:=bC hq;refine ak.br 0 (hT.rd 0 O) (by exact f5) O O (ak.n ?_);exact⟨f0,f4,f5,fun _=>O,p1,p2,p3,B1,B2,kk,vs,dR,m4,m6,m5,hT⟩
   | 1,hq,bh=>
    obtain rfl:=bC hq;refine wS O (by exact f0) O (ak.n ?_);exact⟨f0,f4,f5,p0,fun _=>O,p2,p3,B1,B2,kk,vs,dR,m4,m6,m5,hT⟩
   | 2,hq,bh=>
    obtain rfl:=bC hq;refine ak.br 0 (hT.rd 0 O) (by exact f5) O O (ak.n ?_);exact⟨f0,f4,f5,p0,p1,fun _=>O,p3,B1,B2,kk,vs,dR,m4,m6,m5,hT⟩
   | 3,hq,bh=>
    obtain rfl:=bC hq;refine acW (oY A n c rs xss w6 hX (by omega)) O (by exact bw (fun v=> [v]) (p2 (bJ hd 2 O))) O ?_;rintro _ w7 ⟨rfl,ia⟩;have eB:=hT.aq ia.below;rw [hG.first (by omega)];exact ak.n ⟨f0,f4,f5,p0,p1,p2,fun _=>O,B1,B2,kk,vs,dR,m4,m6,m5,eB⟩
   | 4,hq,bh=>
    obtain rfl:=bC hq;have ke:=kl (k':=kk) hk;have e:(Bx 37 1 A5 [.slice A n c]::Bx 37 1 A4 vs::(aK 24 2 A n c rs xss++ (B2++ (B1++ks.set ix kk))))=(Bx 37 1 A5 [.slice A n c]::Bx 37 1 A4 vs::(aK 24 2 A n c rs xss++ (B2++B1)))++ks.set ix kk:=by simp
    have ug:=hT;rw [e]at ug;refine acW (Xz _ ix N ug ke dR (by omega)) O (by exact wG (p1 (bJ hd 1 O)) (p3 (bJ hd 3 O))) O ?_;rintro _ w7 ⟨Ap,cp,ps,k7,rfl,jY,sO,eB⟩;rw [iH]at eB;have fH:St w0 w7 (Bx 37 1 A5 [.slice A n c]::Bx 37 1 A4 vs::(aK 24 2 A n c rs xss++ (B2++ ([ax 2 Ap N cp ps]++ks.set ix k7)))):=by
     refine(eB.sub (ks':=ax 2 Ap N cp ps::Bx 37 1 A5 [.slice A n c]::Bx 37 1 A4 vs::((aK 24 2 A n c rs xss++B2)++ks.set ix k7)) ?_).perm ?_
     ·rw [<-fC (aK 24 2 A n c rs xss)];exact List.Sublist.cons_cons _ (List.Sublist.cons_cons _ (List.Sublist.cons_cons _ ((kY _ _).append (dA _))))
     ·rw [<-fC (aK 24 2 A n c rs xss)];exact(List.Perm.swap _ _ _).trans (List.Perm.cons _ ((List.Perm.swap _ _ _).trans (List.Perm.cons _ eU.symm)))
    exact ak.n ⟨f0,f4,f5,p0,p1,p2,p3,[ax 2 Ap N cp ps],B2,k7,vs,sO,fun _=> ⟨Ap,cp,ps,O,jY,O⟩,m6,m5,fH⟩
   | 5,hq,bh=>
    obtain rfl:=bC hq;obtain⟨Ap,cp,ps,lf,jY,rfl⟩:=m4 (bJ hd 4 rfl);have n6:S 6=false:=by
     cases h:S 6 with
     | false=>rfl
     | true=>rw [<-bh];exact(bJ (cz 6 _ h rfl) 5 rfl).symm
    have hP:cd w6 Ap N ps:=((hT.sub ((((dD _ _).trans (dD _ _)).cons _).cons _):St w0 w6 (ax 2 Ap N cp ps::ks.set ix kk))).bz 0 O;refine acW (Nn A n c rs xss N Ap cp ps w6 hX (by omega) hG.sys (by omega) hP (fun x h0 h1=>jY.gi h0 h1)) O (by exact wG (p0 (bJ hd 0 O)) lf) O ?_;rintro _ w7 ⟨A',c',rs',rfl,mQ,ia⟩;have fH:St w0 w7 (Bx 37 1 A5 [.slice A n c]::Bx 37 1 A4 vs::(aK 24 2 A n c rs xss++ (aK 24 2 A' n c' rs' (xss.map (kR N ps))++ ([ax 2 Ap N cp ps]++ks.set ix kk)))):=by
     refine((hT.sub (ks':=Bx 37 1 A5 [.slice A n c]::Bx 37 1 A4 vs::(aK 24 2 A n c rs xss++ ([ax 2 Ap N cp ps]++ks.set ix kk))) ?_).call ia).perm ?_
     ·exact List.Sublist.cons_cons _ (List.Sublist.cons_cons _ ((dA _).append (dD _ _)))
     ·refine(eU (l₁:=aK 24 2 A' n c' rs' (xss.map (kR N ps)))).trans (List.Perm.cons _ ((eU (l₁:=aK 24 2 A' n c' rs' (xss.map (kR N ps)))).trans (List.Perm.cons _ ?_)));rw [<-fC (aK 24 2 A' n c' rs' (xss.map (kR N ps))) (aK 24 2 A n c rs xss),<-fC (aK 24 2 A n c rs xss) (aK 24 2 A' n c' rs' (xss.map (kR N ps)))];exact fb.append_right _
    refine ak.n ?_;exact⟨f0,f4,f5,p0,p1,p2,p3,[ax 2 Ap N cp ps],aK 24 2 A' n c' rs' (xss.map (kR N ps)),kk,vs,dR,fun _=> ⟨Ap,cp,ps,lf,jY,O⟩,m6,fun _=> ⟨A',c',rs',_,O,mQ,by simp [bP],hG.ZB jY,O,fun h=> (nomatch n6.symm.trans h)⟩,fH⟩
   | 6,hq,bh=>
    obtain rfl:=bC hq;obtain⟨A',c',rs',xss',pA,mQ,ti,sM,rfl,_⟩:=m5 (bJ hd 5 rfl);obtain rfl:=m6 bh;refine bR 1 1 hT O (by exact f4) (by exact pA) O O O O ?_;intro w7 eB;refine ak.n ?_;exact⟨f0,f4,f5,p0,p1,p2,p3,B1,_,kk,[.slice A' n c'],dR,m4,fun h=> (nomatch (show true=false from h)),fun _=> ⟨A',c',rs',xss',pA,mQ,ti,sM,O,fun _=>O⟩,eB⟩
   | i+7,hq,_=>exact(nomatch hq)
  ·intro S e1 w6 ct hI;obtain⟨f0,f4,f5,p0,p1,p2,p3,B1,B2,kk,vs,dR,m4,m6,m5,hT⟩:=hI;obtain⟨A',c',rs',xss',pA,mQ,ti,sM,rfl,AE⟩:=m5 (ct 5 (by decide));obtain rfl:=AE (ct 6 (by decide));refine Bn (F:=[(4,.pointer A4)]) ⟨f4,au⟩ (tE O (fZ O (hT.rd 1 O) ?_));exact⟨n,N,A',c',rs',xss',kk,O,hn,hN,mQ,ti,sM,dR,hT.tail.tail.sub (((dA _).append (dD _ _)).trans (dD _ _))⟩
 ·refine aD O (ac3 0 (aR.rd 0 O) O (bR 1 1 aR O O O O O O O ?_));intro w6 aQ;refine bu O (fZ O (aQ.rd 1 O) ?_);exact⟨n,N,A,c,rs,xss,k2,O,hn,hN,bO,bP,hG,fa,aQ.tail.tail⟩
theorem D5(o b mv:ah):(kj o b mv).length=o.length:=by simp [kj]
theorem ZM{o b mv:ah}{k:Nat}(hk:k<o.length):(kj o b mv).take (k+1)=(kj o b mv).take k++ [gi b (gi mv (gi o k))]:=by
 rw [lG (by rw [D5];exact hk),bN hk];simp [kj]
theorem Km(A:ai)(n c:Nat)(rs:List aO)(xss:ag)(N:Nat)(f:Int)(w:aa)(hR:bl w A n rs xss)(hM:bj xss)(hN:N=(gl xss 0).length)(h0:0<=f)(hf:f<N):
 aE prog 159 [.slice A n c,aj f] w (fun v w'=>∃A' c' rs',v= .agg #[.slice A' n c']/\rs'.length=n/\St w w' (aK 24 2 A' n c' rs' (cW N xss f))):=by
 subst hN;have hP:=hM.uR h0 hf;have hs:=hM.2.2.1.sys;have h5:=hM.1;have Cy:=hM.2.1;have bP:=hR.len;have ie:(gl xss 0).length=(rg rs 0).n:=hR.jh (by omega) (by omega);have U3:cW (gl xss 0).length xss f=xss.map fun mv=>kj (da (gl xss 0).length xss f) (gJ (gl xss 0).length (da (gl xss 0).length xss f)) mv:=O
 have oJ:∀x:Int,0<=x->x< ((gl xss 0).length:Int)->0<=gi (gJ (gl xss 0).length (da (gl xss 0).length xss f)) x/\gi (gJ (gl xss 0).length (da (gl xss 0).length xss f)) x< ((gl xss 0).length:Int):=fun x h0 h1=>by
  obtain⟨k,hk,_,hb⟩:=hP.ql h0 h1;omega
 have sU:=Jr (gl xss 0).length (da (gl xss 0).length xss f);have Lz:gJ (gl xss 0).length (da (gl xss 0).length xss f)=nF (List.replicate (gl xss 0).length 0) (fun k=>gi (da (gl xss 0).length xss f) k) (fun k=> (k:Int)) (gl xss 0).length:=by
  unfold gJ;rw [hP.len]
 have xX:=YU A n c rs xss (gl xss 0).length f;generalize T1:(gl xss 0).length=N at*;generalize hoe:da N xss f=o at*;generalize eP:gJ N o=b at*;have zY:=hP.len;have bH:∀k:Nat,k<N->0<=gi o k/\gi o k<N:=fun k hk=>hP.eS hk
 rw [U3];refine bm func159 O ntmps159 O (lB O O) (aY O (eH (St.refl w) O ?_));intro Ac w1 aB;refine ao O (aH (xX _ (aB.bE hR) (by omega) (by omega) hs (by omega) h0 hf) O ?_);rintro _ w2 ⟨Ao,co,rfl,aA⟩;rw [zY]at aA|-;have aw:=aB.call aA;have jf:=aw.bE hR;refine ao O (ay jf.top.2 O (bB jf.top O (aZ O O ?_)));refine pj N aw (by rw [<-ie];rfl) O (by omega) ?_;intro A6 w3 aI;refine ao O (aZ O O (az O ?_));refine Cd.loop (α:=Nat) (fun k=> [(0,.slice A n c),(4,.pointer Ac),(5,.slice Ao N co),(6,.slice A6 N N),(23,.slice Ao N co),(24,aj N),(25,aj k)]) (fun k w'=>St w w' [ax 2 A6 N N (nF (List.replicate N 0) (fun k=>gi o k) (fun k=> (k:Int)) k),ax 2 Ao N co o,Bx 37 1 Ac [.slice none 0 0]]/\k<=N) (fun k=>N - k) 0 ⟨O,O,O,by rw [<-ie];rfl,O,O,O,au⟩ ⟨aI,bA _⟩ ?_;rintro k e w4 ⟨aG,hk⟩;have CB:=aG.bz 1 O;refine b7 O (aM _ O (fun h1=>?_) (fun h1=>?_))
 ·have bq:=bH k (by omega);refine aD O (ay CB.2 O (bc CB O (ao O (ay (aG.bz 0 O).2 O (ak.gQ 0 aG O O O (by omega) ?_)))));intro w5 aR;refine ao O (aL O (aU O (tQ ?_)));exact⟨k+1,by show N - (k+1)<N - k;omega,(ac4 O),aR,by omega⟩
 have np:k=N:=by omega
 subst np;rw [<-Lz]at aG;refine bo O (bp (cn O ?_));refine eH aG O ?_;intro Ad w5 aR;have vy:St w w5 (Bx 37 1 Ad [.slice none 0 0]::ax 2 A6 k k b::ax 2 Ao k co o::Bx 37 1 Ac [.slice none 0 0]::aV 24 none 0 0 []::[]):=(aR.nil 24).perm (fb (l₁:=[_]) (l₂:=[_,_,_,_]));refine ao O (aZ O O (az O ?_));refine Cd.loop (α:=Nat×ai×Nat×List aO) (fun s=> [(4,.pointer Ac),(5,.slice Ao k co),(6,.slice A6 k k),(9,.pointer Ad),(35,.slice A n c),(36,aj n),(37,aj (s.1:Int))]) (fun s w'=>St w w' (Bx 37 1 Ad [.slice s.2.1 s.1 s.2.2.1]::ax 2 A6 k k b::ax 2 Ao k co o::Bx 37 1 Ac [.slice none 0 0]::aV 24 s.2.1 s.1 s.2.2.1 s.2.2.2::bS 2 s.2.2.2 ((xss.map fun mv=>kj o b mv).take s.1))/\s.1<=n/\s.2.2.2.length=s.1) (fun s=>n - s.1) (0,none,0,[]) (ac4 O) ⟨vy,bA _,O⟩ ?_;rintro⟨i,A3,c3,cV⟩ e w6 ⟨aQ,hi,hlen⟩;dsimp only at aQ hi hlen|-;refine b7 O (aM _ O (fun h1=>?_) (fun h1=>?_))
 ·have di:i<n:=by omega
  have hx:i<xss.length:=by omega
  have zv:=aQ.bE hR;have e2:gl xss i=xss[i]:=by simp [gl,df,dL hx]
  have oP:=hs (gl xss i) (mJ (by omega) (by omega));have uy:=zv.jh (k:=(i:Int)) (by omega) h1;refine aD O (ay zv.top.2 O (bB zv.top O ?_));refine ao O (aZ O O (az O ?_));refine Cd.loop (α:=Nat×ai×Nat) (fun s=> [(4,.pointer Ac),(5,.slice Ao k co),(6,.slice A6 k k),(9,.pointer Ad),(35,.slice A n c),(36,aj n),(37,aj i),(11,.slice (rg rs i).a (rg rs i).n (rg rs i).c),(12,.slice s.2.1 s.1 s.2.2),(41,.slice Ao k co),(42,aj k),(43,aj (s.1:Int))]) (fun s w'=>St w w' (ax 2 s.2.1 s.1 s.2.2 ((kj o b (gl xss i)).take s.1)::Bx 37 1 Ad [.slice A3 i c3]::ax 2 A6 k k b::ax 2 Ao k co o::Bx 37 1 Ac [.slice none 0 0]::aV 24 A3 i c3 cV::bS 2 cV ((xss.map fun mv=>kj o b mv).take i))/\s.1<=k) (fun s=>k - s.1) (0,none,0) (ac4 O) ⟨aQ.nil _,bA _⟩ ?_;rintro⟨j,jj,qn⟩ e w7 ⟨a6,hj⟩;dsimp only at a6 hj|-;have Lj:=a6.bz 3 O;have qv:=a6.bz 2 O;have xy:=(a6.bE hR).at_ (i:=(i:Int)) (by omega) h1;refine b7 O (aM _ O (fun h2=>?_) (fun h2=>?_))
  ·have rQ:=bH j (by omega);have hv:=oP.2 _ rQ.1 rQ.2;have hbv:=oJ _ hv.1 hv.2;refine aD O (ay Lj.2 O (bc Lj O (ao O (ay xy.2 O (bc xy O (ay qv.2 O (bc qv O (fk a6 O O O ?_))))))));intro A9 w9 aW;refine fR 1 aW O (aW.bz 0 O) O O O ?_;intro bI b8 dt bV;have bV:=bV.tail;refine ao O (aL O (aU O (tQ ?_)));refine⟨(j+1,bI,b8),by show k - (j+1)<k - j;omega,(ac4 O),?_,by show j+1<=k;omega⟩;show St w dt (ax _ bI (j+1) b8 ((kj o b (gl xss i)).take (j+1))::_);rw [ZM (by omega)];exact bV
  have C9:j=k:=by omega
  subst C9;rw [jc (by rw [D5];omega)]at a6;refine bo O (bp (cn O ?_));refine aS (a6.rd 1 O) O (a8 (a6.rd 1 O) O (ao O (mW a6 O O O ?_)));intro A9 w9 aW;refine km 6 aW O (aW.eG 0 O) O O O (by omega) (by omega) O ?_;intro bI b8 dt bV;have bV:=bV.tail;refine aS (bV.rd 1 O) O (kD 1 bV O O O O O ?_);intro dB dW;have dW:St w dB (ax 2 jj j qn (kj o b (gl xss i))::Bx 37 1 Ad [.slice bI (i+1) b8]::ax 2 A6 j j b::ax 2 Ao j co o::Bx 37 1 Ac [.slice none 0 0]::aV 24 bI (i+1) b8 (cV++ [⟨jj,j,qn⟩])::bS 2 cV ((xss.map fun mv=>kj o b mv).take i)):=dW;refine ao O (aL O (aU O (tQ ?_)));refine⟨(i+1,bI,b8,cV++ [⟨jj,j,qn⟩]),by show n - (i+1)<n - i;omega,(ac4 O),?_,di,by simp [hlen]⟩;show St w dB (_::_::_::_::aV _ bI (i+1) b8 (cV++ [_])::bS _ (cV++ [_]) ((xss.map fun mv=>kj o b mv).take (i+1)));rw [lG (by rw [fQ];exact hx),nD (by simp [hlen];omega),List.getElem_map,<-e2];refine dW.perm ?_;exact fb (l₁:=[_]) (l₂:=_::_::_::_::_::bS 2 cV ((xss.map fun mv=>kj o b mv).take i))
 have cS:i=n:=by omega
 subst cS;rw [jc (by rw [fQ];omega)]at aQ;refine bo O (bp (cn O ?_));refine ac3 0 (aQ.rd 0 O) O (bR 1 3 aQ O O O O O O O ?_);intro w7 a6;refine bu O (fZ O (a6.rd 3 O) ?_);exact⟨A3,c3,cV,O,hlen,a6.sub ((((List.sublist_cons_self _ _).trans (List.sublist_cons_self _ _)).trans (List.sublist_cons_self _ _)).trans (List.sublist_cons_self _ _))⟩
theorem NG{a b:ah}{k:Nat}(ha:k<a.length)(hb:k<b.length):fz (a.drop k) (b.drop k)=if kE (gi a k) (gi b k)=0 then fz (a.drop (k+1)) (b.drop (k+1))else kE (gi a k) (gi b k):=by
 rw [List.drop_eq_getElem_cons ha,List.drop_eq_getElem_cons hb,bN ha,bN hb]
 rfl
theorem NF{a b:ah}{k:Nat}(ha:k<a.length)(hb:b.length<=k):fz (a.drop k) (b.drop k)=1:=by
 rw [List.drop_eq_getElem_cons ha,List.drop_of_length_le hb]
 rfl
theorem ND{a b:ah}{k:Nat}(ha:a.length<=k):fz (a.drop k) (b.drop k)=if k<b.length then -1 else 0:=by
 rw [List.drop_of_length_le ha]
 split
 ·rename_i h;rw [List.drop_eq_getElem_cons h]
  rfl
 rename_i h;rw [List.drop_of_length_le (by omega)]
 rfl
theorem HK{a b:ag}{k:Nat}(ha:k<a.length)(hb:k<b.length):dZ (a.drop k) (b.drop k)=if fz (gl a k) (gl b k)=0 then dZ (a.drop (k+1)) (b.drop (k+1))else fz (gl a k) (gl b k):=by
 rw [List.drop_eq_getElem_cons ha,List.drop_eq_getElem_cons hb,cM ha,cM hb]
 rfl
theorem Yr{a b:ag}{k:Nat}(ha:k<a.length)(hb:b.length<=k):dZ (a.drop k) (b.drop k)=1:=by
 rw [List.drop_eq_getElem_cons ha,List.drop_of_length_le hb]
 rfl
theorem HJ{a b:ag}{k:Nat}(ha:a.length<=k):dZ (a.drop k) (b.drop k)=if k<b.length then -1 else 0:=by
 rw [List.drop_of_length_le ha]
 split
 ·rename_i h;rw [List.drop_eq_getElem_cons h]
  rfl
 rename_i h;rw [List.drop_of_length_le (by omega)]
 rfl
theorem M8(x:Int)(w:aa):aE prog 233 [aj x] w (fun v w'=>v= .bool false/\w'=w):=by
 refine bm func233 O ntmps233 O (bU O) (Eu O (bQ O ?_));exact⟨by simp,O⟩
theorem Rv(x y:Int)(w:aa):aE prog 260 [aj x,aj y] w (fun v w'=>v=aj (kE x y)/\w'=w):=by
 refine bm func260 O ntmps260 O (bU O) (aY O (aH (M8 _ _) O ?_));rintro _ w ⟨rfl,rfl⟩;refine ao O (aH (M8 _ _) O ?_);rintro _ w ⟨rfl,rfl⟩;refine az O (Cd.dO O (cH O (Cd.dO O (cH O ?_))));refine aM _ O (fun h1=>?_) (fun h1=>?_)
 ·refine cE O (fP O ?_);exact⟨by rw [kE,aJ h1],O⟩
 refine cH O (aM _ O (fun h2=>?_) (fun h2=>?_))
 ·refine cE O (fP O ?_);exact⟨by rw [kE,aC h1,aJ h2],O⟩
 refine cE O (fP O ?_);exact⟨by rw [kE,aC h1,aC h2],O⟩
theorem Pu(A:ai)(n c:Nat)(xs:ah)(A':ai)(n' c':Nat)(ys:ah)(w:aa)(hX:cd w A n xs)(hY:cd w A' n' ys)(hn:n<=9223372036854775807):
 aE prog 203 [.slice A n c,.slice A' n' c'] w (fun v w'=>v=aj (fz xs ys)/\w'=w):=by
 have bP:=hX.1;have mw:=hY.1;refine bm func203 O ntmps203 O (bU O) ?_;refine aY O (aZ O O (az O ?_));refine Cd.loop (α:=Nat) (fun k=> [(0,.slice A n c),(1,.slice A' n' c'),(9,.slice A n c),(10,aj n),(11,aj k)]) (fun k w'=>w'=w/\k<=n/\k<=n'/\fz xs ys=fz (xs.drop k) (ys.drop k)) (fun k=>n - k) 0 (ac4 O) ⟨O,bA _,bA _,O⟩ ?_;rintro k e w ⟨rfl,hk,dp,hK⟩;refine b7 O (aM _ O (fun h1=>?_) (fun h1=>?_))
 ·refine aD O (ay hX.2 O (bc hX O ?_));refine ao O (aZ O O (az O ?_));refine aM _ O (fun h2=>?_) (fun h2=>?_)
  ·refine cE O (de (cT ?_));refine fP O ?_;exact⟨by rw [hK,NF (by omega) (by omega)],O⟩
  rw [NG (by omega) (by omega)]at hK;refine aD O (ay hY.2 O (bc hY O (ao O (aH (Rv _ _ _) O ?_))));rintro _ w ⟨rfl,rfl⟩;refine az O (aM _ O (fun h3=>?_) (fun h3=>?_))
  ·refine cE O (de (cT ?_));refine fP O ?_;exact⟨by rw [hK,aC h3],O⟩
  rw [aJ (gC.1 h3)]at hK;refine aD O (aL O (aU O (tQ ?_)));exact⟨k+1,by show n - (k+1)<n - k;omega,(ac4 O),O,by omega,by omega,hK⟩
 rw [ND (by omega)]at hK;have eF:k=n:=by omega
 subst eF;refine bo O (bp (cn O (aZ O O (ao O (aZ O O (az O ?_))))));refine aM _ O (fun h2=>?_) (fun h2=>?_)
 ·refine cE O (fP O ?_);exact⟨by rw [hK,aJ (by omega)],O⟩
 refine cE O (fP O ?_);exact⟨by rw [hK,aC (by omega)],O⟩
theorem Pt(A:ai)(n c:Nat)(rs:List aO)(xss:ag)(A':ai)(n' c':Nat)(rs':List aO)(bb:ag)(w:aa)(hX:bl w A n rs xss)(hY:bl w A' n' rs' bb)(hn:n<=9223372036854775807):
 aE prog 202 [.slice A n c,.slice A' n' c',.func (.func 203) #[] #[]] w (fun v w'=>v=aj (dZ xss bb)/\w'=w):=by
 have bP:=hX.len;have mw:=hY.len;refine bm func202 O ntmps202 O (bU O) ?_;refine aY O (aZ O O (az O ?_));refine Cd.loop (α:=Nat) (fun k=> [(0,.slice A n c),(1,.slice A' n' c'),(2,.func (.func 203) #[] #[]),(11,.slice A n c),(12,aj n),(13,aj k)]) (fun k w'=>w'=w/\k<=n/\k<=n'/\dZ xss bb=dZ (xss.drop k) (bb.drop k)) (fun k=>n - k) 0 (ac4 O) ⟨O,bA _,bA _,O⟩ ?_;rintro k e w ⟨rfl,hk,dp,hK⟩;refine b7 O (aM _ O (fun h1=>?_) (fun h1=>?_))
 ·have G8:=hX.at_ (i:=(k:Int)) (by omega) h1;have vQ:=hX.jh (k:=(k:Int)) (by omega) h1;have iW:=hX.cap_ (i:=(k:Int)) (by omega) h1;refine aD O (ay hX.top.2 O (bB hX.top O ?_));refine ao O (aZ O O (az O ?_));refine aM _ O (fun h2=>?_) (fun h2=>?_)
  ·refine cE O (de (cT ?_));refine fP O ?_;exact⟨by rw [hK,Yr (by omega) (by omega)],O⟩
  rw [HK (by omega) (by omega)]at hK;have Dq:=hY.at_ (i:=(k:Int)) (by omega) (by omega);refine aD O (ay hY.top.2 O (bB hY.top O (ao O (aH (Pu _ _ _ _ _ _ _ _ _ G8 Dq (by omega)) O ?_))));rintro _ w ⟨rfl,rfl⟩;refine az O (aM _ O (fun h3=>?_) (fun h3=>?_))
  ·refine cE O (de (cT ?_));refine fP O ?_;exact⟨by rw [hK,aC h3],O⟩
  rw [aJ (gC.1 h3)]at hK;refine aD O (aL O (aU O (tQ ?_)));exact⟨k+1,by show n - (k+1)<n - k;omega,(ac4 O),O,by omega,by omega,hK⟩
 rw [HJ (by omega)]at hK;have eF:k=n:=by omega
 subst eF;refine bo O (bp (cn O (aZ O O (ao O (aZ O O (az O ?_))))));refine aM _ O (fun h2=>?_) (fun h2=>?_)
 ·refine cE O (fP O ?_);exact⟨by rw [hK,aJ (by omega)],O⟩
 refine cE O (fP O ?_);exact⟨by rw [hK,aC (by omega)],O⟩
theorem JO(A:ai)(n c:Nat)(rs:List aO)(xss:ag)(A':ai)(n' c':Nat)(rs':List aO)(bb:ag)(w:aa)(hX:bl w A n rs xss)(hY:bl w A' n' rs' bb)(hn:n<=9223372036854775807):
 aE prog 139 [.agg #[.slice A n c],.agg #[.slice A' n' c']] w (fun v w'=>v=aj (dZ xss bb)/\St w w' []/\w.drawn<=w'.drawn):=by
 refine bm func139 O ntmps139 O (bU O) (aY O (IY (St.refl w) O O ?_));intro Ab w1 CZ aB;refine IY aB O O fun Ac w2 UJ aw=>ao O (aS (aw.rd 1 O) O (a8 (aw.rd 1 O) O (aS (aw.rd 0 O) O (a8 (aw.rd 0 O) O (aH (Pt A n c rs xss A' n' c' rs' bb _ (aw.bE hX) (aw.bE hY) hn) O ?_)))));rintro _ w3 ⟨rfl,rfl⟩;refine bu O (fP O ?_);exact⟨O,aw.none,lI CZ UJ⟩
theorem RF(A:ai)(n c:Nat)(rs:List aO)(xss:ag)(A':ai)(n' c':Nat)(rs':List aO)(bb:ag)(w:aa)(hX:bl w A n rs xss)(hY:bl w A' n' rs' bb)(hn:n<=9223372036854775807):
 aE prog 139 [.agg #[.slice A n c],.agg #[.slice A' n' c']] w (fun v w'=>v=aj (dZ xss bb)/\St w w' []):=
 (JO A n c rs xss A' n' c' rs' bb w hX hY hn).mono fun _ _ h=> ⟨h.1,h.2.1⟩
theorem II(A:ai)(n c:Nat)(xs:ah)(A':ai)(n' c':Nat)(ys:ah)(w:aa)(hR:cd w A n xs)(nT:cd w A' n' ys)(hn:n<=9223372036854775807):
 aE prog 158 [.slice A n c,.slice A' n' c'] w (fun v w'=>v= .bool (decide (xs=ys))/\St w w' []):=by
 have hl:=hR.1;have qA:=nT.1;subst hl;subst qA;refine bm func158 O ntmps158 O (bU O) ?_;refine aY O (aZ O O (ao O (aZ O O (az O ?_))));refine aM _ O (fun h=>?_) (fun h=>?_)
 ·refine cE O (bQ O ?_);exact⟨by rw [dq (fun e:xs=ys=>h (by rw [e]))],St.refl _⟩
 refine aD O (aZ O O (az O ?_));refine Cd.loop (α:=Nat) (fun k=> [(0,.slice A xs.length c),(1,.slice A' ys.length c'),(12,aj (xs.length:Int)),(13,aj k)]) (fun k w'=>St w w' []/\k<=xs.length/\xs.take k=ys.take k) (fun k=>xs.length - k) 0 (ac4 O) ⟨St.refl w,bA _,O⟩ ?_;rintro k e w2 ⟨aw,hk,hI⟩;have hle:xs.length=ys.length:=by omega
 refine b7 O (aM _ O (fun h1=>?_) (fun h1=>?_))
 ·have hA:=aw.dY hR;have hB:=aw.dY nT;have h2:(k:Int)<ys.length:=by omega
  have hx:=bN (p:=xs) (k:=k) (by omega);have hy:=bN (p:=ys) (k:=k) (by omega);refine cH O (dK [xS (A) (xs.length) (c),xI ((k:Int)),xP (aF (A) ((k:Int)).toNat),xI (gi (xs) ((k:Int))),xS (A') (ys.length) (c'),xI ((k:Int)),xP (aF (A') ((k:Int)).toNat),xI (gi (ys) ((k:Int))),xB (decide (¬(gi (xs) ((k:Int)))=(gi (ys) ((k:Int)))))] O (eo O) ?_ ?_)
  ·exact⟨Dr O,Dr O,fun _ _ hb _ _=>ay (hA.aq hb).2 O Az,fun _ _ hb _ _=>bc (hA.aq hb) O Az,Dr O,Dr O,fun _ _ hb _ _=>ay (hB.aq hb).2 O Az,fun _ _ hb _ _=>bc (hB.aq hb) O Az,Dr O,au⟩
  intro u w3 iA _;have aI:=aw.aq iA;refine fw O (aM _ O (fun h3=>?_) (fun h3=>?_))
  ·refine cE O (de (cT ?_));refine bQ O ?_;refine⟨by rw [dq (fun e:xs=ys=>h3 (by rw [e]))],aI⟩
  refine aD O (aL O (aU O (tQ ?_)));refine⟨k+1,by omega,(ac4 O),aI,by omega,?_⟩;rw [sd (by omega),sd (by omega),hI,gC.1 h3]
 refine bo O (bp (e6 O ?_));refine bQ O ⟨?_,aw⟩;rw [jc (by omega),jc (by omega)]at hI;rw [fo hI]
theorem PA(A:ai)(n c:Nat)(rs:List aO)(xs:ag)(A':ai)(n' c':Nat)(rs':List aO)(ys:ag)(w:aa)(hR:bl w A n rs xs)(nT:bl w A' n' rs' ys)(hn:n<=9223372036854775807):
 aE prog 157 [.slice A n c,.slice A' n' c',.func (.func 158) #[] #[]] w (fun v w'=>v= .bool (decide (xs=ys))/\St w w' []):=by
 have hl:=hR.len;have qA:=nT.len;subst hl;subst qA;refine bm func157 O ntmps157 O (bU O) ?_;refine aY O (aZ O O (ao O (aZ O O (az O ?_))));refine aM _ O (fun h=>?_) (fun h=>?_)
 ·refine cE O (bQ O ?_);exact⟨by rw [dq (fun e:xs=ys=>h (by rw [e]))],St.refl _⟩
 refine aD O (aZ O O (az O ?_));refine Cd.loop (α:=Nat) (fun k=> [(1,.slice A' ys.length c'),(2,.func (.func 158) #[] #[]),(15,.slice A xs.length c),(16,aj (xs.length:Int)),(17,aj k)]) (fun k w'=>St w w' []/\k<=xs.length/\xs.take k=ys.take k) (fun k=>xs.length - k) 0 (ac4 O) ⟨St.refl w,bA _,O⟩ ?_;rintro k e w2 ⟨aw,hk,hI⟩;have hle:xs.length=ys.length:=by omega
 refine b7 O (aM _ O (fun h1=>?_) (fun h1=>?_))
 ·have hA:=aw.bE hR;have hB:=aw.bE nT;have h2:(k:Int)<ys.length:=by omega
  have hx:=cM (p:=xs) (k:=k) (by omega);have hy:=cM (p:=ys) (k:=k) (by omega);have ha:=hA.at_ (i:=k) (by omega) h1;have kr:=hB.at_ (i:=k) (by omega) h2;have hc:=hA.cap_ (i:=k) (by omega) h1;refine aD O (ay hA.top.2 O (bB hA.top O (ao O (ay hB.top.2 O (bB hB.top O (ao O (aH (II _ _ _ _ _ _ _ _ _ ha kr (by omega)) O ?_)))))));rintro _ w3 ⟨rfl,aA⟩;have aI:=aw.aq aA.below
  first | refine dM rfl rfl ?_ | refine eI rfl rfl ?_
  refine az O (aM _ O (fun h3=>?_) (fun h3=>?_))
  ·refine cE O (de (cT ?_));refine bQ O ?_;refine⟨by rw [dq (fun e:xs=ys=>h3 (by rw [e]))],aI⟩
  refine aD O (aL O (aU O (tQ ?_)));refine⟨k+1,by omega,(ac4 O),aI,by omega,?_⟩;rw [wD (by omega),wD (by omega),hI,gC.1 h3]
 refine bo O (bp (e6 O ?_));refine bQ O ⟨?_,aw⟩;rw [jc (by omega),jc (by omega)]at hI;rw [fo hI]
theorem OE(A:ai)(n c:Nat)(rs:List aO)(xss:ag)(A':ai)(n' c':Nat)(rs':List aO)(bb:ag)(w:aa)(hX:bl w A n rs xss)(hY:bl w A' n' rs' bb)(hn:n<=9223372036854775807):
 aE prog 86 [.agg #[.slice A n c],.agg #[.slice A' n' c']] w (fun v w'=>v= .bool (decide (xss=bb))/\St w w' []):=by
 refine bm func86 O ntmps86 O (bU O) (aY O (fD (St.refl w) O O ?_));intro Ab w1 aB;refine fD aB O O fun Ac w2 aw=>ao O (aS (aw.rd 1 O) O (a8 (aw.rd 1 O) O (aS (aw.rd 0 O) O (a8 (aw.rd 0 O) O (aH (PA A n c rs xss A' n' c' rs' bb _ (aw.bE hX) (aw.bE hY) hn) O ?_)))));rintro _ w3 ⟨rfl,aA⟩;refine bu O (bQ O ?_);exact⟨O,(aw.aq aA.below).none⟩
theorem Hy(A:ai)(n c:Nat)(xs:ah)(A':ai)(n' c':Nat)(ys:ah)(w:aa)(hR:cd w A n xs)(nT:cd w A' n' ys)(hn:n<=9223372036854775807):
 aE prog 152 [.slice A n c,.slice A' n' c'] w (fun v w'=>v= .bool (decide (xs=ys))/\St w w' []):=by
 have hl:=hR.1;have qA:=nT.1;subst hl;subst qA;refine bm func152 O ntmps152 O (bU O) ?_;refine aY O (aZ O O (ao O (aZ O O (az O ?_))));refine aM _ O (fun h=>?_) (fun h=>?_)
 ·refine cE O (bQ O ?_);exact⟨by rw [dq (fun e:xs=ys=>h (by rw [e]))],St.refl _⟩
 refine cH O (Cd.loop (α:=Nat) (fun k=> [(0,.slice A xs.length c),(1,.slice A' ys.length c'),(5,aj k)]) (fun k w'=>St w w' []/\k<=xs.length/\xs.take k=ys.take k) (fun k=>xs.length - k) 0 (ac4 O) ⟨St.refl w,bA _,O⟩ ?_);rintro k e w2 ⟨aw,hk,hI⟩;have hle:xs.length=ys.length:=by omega
 refine aY O (aZ O O (az O ?_));refine aM _ O (fun h1=>?_) (fun h1=>?_)
 ·have hA:=aw.dY hR;have hB:=aw.dY nT;have h2:(k:Int)<ys.length:=by omega
  have hx:=bN (p:=xs) (k:=k) (by omega);have hy:=bN (p:=ys) (k:=k) (by omega);refine cH O (dK [xS (A) (xs.length) (c),xI ((k:Int)),xP (aF (A) ((k:Int)).toNat),xI (gi (xs) ((k:Int))),xS (A') (ys.length) (c'),xI ((k:Int)),xP (aF (A') ((k:Int)).toNat),xI (gi (ys) ((k:Int))),xB (decide (¬(gi (xs) ((k:Int)))=(gi (ys) ((k:Int)))))] O (eo O) ?_ ?_)
  ·exact⟨Dr O,Dr O,fun _ _ hb _ _=>ay (hA.aq hb).2 O Az,fun _ _ hb _ _=>bc (hA.aq hb) O Az,Dr O,Dr O,fun _ _ hb _ _=>ay (hB.aq hb).2 O Az,fun _ _ hb _ _=>bc (hB.aq hb) O Az,Dr O,au⟩
  intro u w3 iA _;have aI:=aw.aq iA;refine fw O (aM _ O (fun h3=>?_) (fun h3=>?_))
  ·refine cE O (de (cT ?_));refine bQ O ?_;refine⟨by rw [dq (fun e:xs=ys=>h3 (by rw [e]))],aI⟩
  refine aD O (aL O (aU O (tQ ?_)));refine⟨k+1,by omega,(ac4 O),aI,by omega,?_⟩;rw [sd (by omega),sd (by omega),hI,gC.1 h3]
 refine bo O (bp (e6 O ?_));refine bQ O ⟨?_,aw⟩;rw [jc (by omega),jc (by omega)]at hI;rw [fo hI]
theorem XG(A:ai)(n c:Nat)(rs:List aO)(xs:ag)(A':ai)(n' c':Nat)(rs':List aO)(ys:ag)(w:aa)(hR:bl w A n rs xs)(nT:bl w A' n' rs' ys)(hn:n<=9223372036854775807):
 aE prog 225 [.slice A n c,.slice A' n' c'] w (fun v w'=>v= .bool (decide (xs=ys))/\St w w' []):=by
 have hl:=hR.len;have qA:=nT.len;subst hl;subst qA;refine bm func225 O ntmps225 O (bU O) ?_;refine aY O (aZ O O (ao O (aZ O O (az O ?_))));refine aM _ O (fun h=>?_) (fun h=>?_)
 ·refine cE O (bQ O ?_);exact⟨by rw [dq (fun e:xs=ys=>h (by rw [e]))],St.refl _⟩
 refine cH O (Cd.loop (α:=Nat) (fun k=> [(0,.slice A xs.length c),(1,.slice A' ys.length c'),(5,aj k)]) (fun k w'=>St w w' []/\k<=xs.length/\xs.take k=ys.take k) (fun k=>xs.length - k) 0 (ac4 O) ⟨St.refl w,bA _,O⟩ ?_);rintro k e w2 ⟨aw,hk,hI⟩;have hle:xs.length=ys.length:=by omega
 refine aY O (aZ O O (az O ?_));refine aM _ O (fun h1=>?_) (fun h1=>?_)
 ·have hA:=aw.bE hR;have hB:=aw.bE nT;have lN:=hA.top;have tX:=hB.top;have h2:(k:Int)<ys.length:=by omega
  have hx:=cM (p:=xs) (k:=k) (by omega);have hy:=cM (p:=ys) (k:=k) (by omega);have ha:=hA.at_ (i:=k) (by omega) h1;have kr:=hB.at_ (i:=k) (by omega) h2;have hc:=hA.cap_ (i:=k) (by omega) h1;refine cH O (dK [xS (A) (xs.length) (c),xI ((k:Int)),xP (aF (A) ((k:Int)).toNat),xS ((rg (rs) ((k:Int))).a) ((rg (rs) ((k:Int))).n) ((rg (rs) ((k:Int))).c),xS (A') (ys.length) (c'),xI ((k:Int)),xP (aF (A') ((k:Int)).toNat),xS ((rg (rs') ((k:Int))).a) ((rg (rs') ((k:Int))).n) ((rg (rs') ((k:Int))).c),xB (decide (gl xs k=gl ys k)),xB (decide (¬(gl xs k=gl ys k)))] O (eo O) ?_ ?_)
  ·refine⟨Dr O,Dr O,fun _ _ hb _ _=>ay (lN.aq hb).2 O Az,fun _ _ hb _ _=>bB (lN.aq hb) O Az,Dr O,Dr O,fun _ _ hb _ _=>ay (tX.aq hb).2 O Az,fun _ _ hb _ _=>bB (tX.aq hb) O Az,?_,fun _ _ _ _ _=>dM O O Az,au⟩;intro e1 w1 hb hp aX;refine aH (Hy _ _ _ _ _ _ _ _ _ (ha.aq hb) (kr.aq hb) (by omega)) O ?_;rintro _ w2 ⟨rfl,aA⟩;refine ak.n ?_;exact eA.dn aA.below (by exact O)
  intro u w3 iA _;have aI:=aw.aq iA;refine fw O (aM _ O (fun h3=>?_) (fun h3=>?_))
  ·refine cE O (de (cT ?_));refine bQ O ?_;refine⟨by rw [dq (fun e:xs=ys=>h3 (by rw [e]))],aI⟩
  refine aD O (aL O (aU O (tQ ?_)));refine⟨k+1,by omega,(ac4 O),aI,by omega,?_⟩;rw [wD (by omega),wD (by omega),hI,gC.1 h3]
 refine bo O (bp (e6 O ?_));refine bQ O ⟨?_,aw⟩;rw [jc (by omega),jc (by omega)]at hI;rw [fo hI]
theorem Np(A:ai)(n c:Nat)(rs:List aO)(xss:ag)(A':ai)(n' c':Nat)(rs':List aO)(bb:ag)(w:aa)(hX:bl w A n rs xss)(hY:bl w A' n' rs' bb)(hn:n<=9223372036854775807):
 aE prog 172 [.agg #[.slice A n c],.agg #[.slice A' n' c']] w (fun v w'=>v= .bool (decide (xss=bb))/\St w w' []):=by
 refine bm func172 O ntmps172 O (bU O) (aY O (fD (St.refl w) O O ?_));intro Ab w1 aB;refine fD aB O O fun Ac w2 aw=>ao O (aS (aw.rd 1 O) O (a8 (aw.rd 1 O) O (aS (aw.rd 0 O) O (a8 (aw.rd 0 O) O (aH (XG A n c rs xss A' n' c' rs' bb _ (aw.bE hX) (aw.bE hY) hn) O ?_)))));rintro _ w3 ⟨rfl,aA⟩;refine bu O (bQ O ?_);exact⟨O,(aw.aq aA.below).none⟩
theorem Nk(A:ai)(n c:Nat)(xs:ah)(A':ai)(n' c':Nat)(ys:ah)(w:aa)(hX:cd w A n xs)(hY:cd w A' n' ys)(hn:n<=9223372036854775807):
 aE prog 199 [.slice A n c,.slice A' n' c'] w (fun v w'=>v= .bool (decide (fz xs ys<0))/\St w w' []):=by
 have bP:=hX.1;have mw:=hY.1;refine bm func199 O ntmps199 O (bU O) (b7 O ?_);refine Cd.loop (α:=Nat) (fun k=> [(0,.slice A n c),(1,.slice A' n' c'),(5,aj k)]) (fun k w'=>St w w' []/\k<=n/\k<=n'/\fz xs ys=fz (xs.drop k) (ys.drop k)) (fun k=>n - k) 0 (ac4 O) ⟨St.refl w,bA _,bA _,O⟩ ?_;rintro k e w2 ⟨aw,hk,dp,hK⟩;have CN:=aw.dY hX;have zz:=aw.dY hY;refine aY O (aZ O O (ao O ?_));refine bX 10 O (fun h1=>?_) (fun h1=>?_)
 ·refine ar O (ao O (ar O (ao O (ar O (aZ O O (ar O (az O ?_)))))));refine aM _ O (fun h2=>?_) (fun h2=>?_)
  ·rw [NG (by omega) (by omega)]at hK;refine cH O (dK [xS (A) (n) (c),xI ((k:Int)),xP (aF (A) ((k:Int)).toNat),xI (gi (xs) ((k:Int))),xS (A') (n') (c'),xI ((k:Int)),xP (aF (A') ((k:Int)).toNat),xI (gi (ys) ((k:Int))),xB (decide (¬(gi (xs) ((k:Int)))=(gi (ys) ((k:Int)))))] O (eo O) ?_ ?_)
   ·exact⟨Dr O,Dr O,fun _ _ hb _ _=>ay (CN.aq hb).2 O Az,fun _ _ hb _ _=>bc (CN.aq hb) O Az,Dr O,Dr O,fun _ _ hb _ _=>ay (zz.aq hb).2 O Az,fun _ _ hb _ _=>bc (zz.aq hb) O Az,Dr O,au⟩
   intro u w3 iA _;have aI:=aw.aq iA;have rC:=aI.dY hX;have ui:=aI.dY hY;refine fw O (aM _ O (fun h3=>?_) (fun h3=>?_))
   ·rw [aC (fun h=>h3 (tN.1 h))]at hK;refine cH O (dK [xS (A) (n) (c),xI ((k:Int)),xP (aF (A) ((k:Int)).toNat),xI (gi (xs) ((k:Int))),xS (A') (n') (c'),xI ((k:Int)),xP (aF (A') ((k:Int)).toNat),xI (gi (ys) ((k:Int))),xB (decide ((gi (xs) ((k:Int)))< (gi (ys) ((k:Int))))),xB (decide ((gi (xs) ((k:Int)))< (gi (ys) ((k:Int)))))] O (eo O) ?_ ?_)
    ·exact⟨Dr O,Dr O,fun _ _ hb _ _=>ay (rC.aq hb).2 O Az,fun _ _ hb _ _=>bc (rC.aq hb) O Az,Dr O,Dr O,fun _ _ hb _ _=>ay (ui.aq hb).2 O Az,fun _ _ hb _ _=>bc (ui.aq hb) O Az,Dr O,Dr O,au⟩
    intro u2 w4 kL _;have aG:=aI.aq kL;refine tE O (de (cT ?_));refine bQ O ?_;exact⟨bw Value.bool (kc.2 (by rw [hK,zb])),aG⟩
   rw [aJ (tN.2 (gC.1 h3))]at hK;refine aD O (aL O (aU O (tQ ?_)));exact⟨k+1,by show n - (k+1)<n - k;omega,(ac4 O),aI,by omega,by omega,hK⟩
  rw [NF (by omega) (by omega)]at hK;refine bo O (bp (cn O (aZ O O (ao O (aZ O O (bu O ?_))))));refine bQ O ?_;exact⟨bw Value.bool (kc.2 (by rw [hK];omega)),aw⟩
 rw [ND (by omega)]at hK;refine av O (av O (av O (av O (az O ?_))));refine Cd.dO O (bo O (bp (cn O (aZ O O (ao O (aZ O O (bu O ?_)))))));refine bQ O ?_;exact⟨bw Value.bool (kc.2 (by rw [hK];split<;>omega)),aw⟩
theorem Nv(A:ai)(n c:Nat)(rs:List aO)(xss:ag)(A':ai)(c':Nat)(rs':List aO)(bb:ag)(w:aa)(hX:bl w A n rs xss)(hY:bl w A' n rs' bb)(hn:n<=9223372036854775807):
 aE prog 134 [.agg #[.slice A n c],.agg #[.slice A' n c']] w (fun v w'=>v= .bool (decide (dZ xss bb<0))/\St w w' []):=by
 have bP:=hX.len;have mw:=hY.len;refine bm func134 O ntmps134 O (bU O) (aY O (fD (St.refl w) O O ?_));intro Ab w1 aB;refine fD aB O O fun Ac w2 aw=>az O (Cd.loop (α:=Nat) (fun k=> [(2,.pointer Ab),(3,.pointer Ac),(5,aj k)]) (fun k w'=>St w w' [Bx 37 1 Ac [.slice A' n c'],Bx 37 1 Ab [.slice A n c]]/\k<=n/\dZ xss bb=dZ (xss.drop k) (bb.drop k)) (fun k=>n - k) 0 (ac4 O) ⟨aw,bA _,O⟩ ?_);rintro k e w3 ⟨aI,hk,hK⟩;refine aY O (aS (aI.rd 1 O) O (a8 (aI.rd 1 O) O ?_));refine aZ O O (az O ?_);refine aM _ O (fun h1=>?_) (fun h1=>?_)
 ·rw [HK (by omega) (by omega)]at hK;have rC:=aI.bE hX;have ui:=aI.bE hY;have lN:=rC.top;have tX:=ui.top;have ha:=rC.at_ (i:=(k:Int)) (by omega) h1;have kr:=ui.at_ (i:=(k:Int)) (by omega) (by omega);have hc:=rC.cap_ (i:=(k:Int)) (by omega) h1;have xp:=aI.rd 1 O;have K0:=aI.rd 0 O;refine cH O (dK [xP (aF (Ab) 0),xS (A) (n) (c),xI ((k:Int)),xP (aF (A) ((k:Int)).toNat),xS ((rg (rs) ((k:Int))).a) ((rg (rs) ((k:Int))).n) ((rg (rs) ((k:Int))).c),xP (aF (Ac) 0),xS (A') (n) (c'),xI ((k:Int)),xP (aF (A') ((k:Int)).toNat),xS ((rg (rs') ((k:Int))).a) ((rg (rs') ((k:Int))).n) ((rg (rs') ((k:Int))).c),xB (decide (gl xss k=gl bb k)),xB (decide (¬(gl xss k=gl bb k)))] O (eo O) ?_ ?_)
  ·refine⟨fun _ _ hb _ _=>aS (xp.below hb) O Az,fun _ _ hb _ _=>a8 (xp.below hb) O Az,Dr O,fun _ _ hb _ _=>ay (lN.aq hb).2 O Az,fun _ _ hb _ _=>bB (lN.aq hb) O Az,fun _ _ hb _ _=>aS (K0.below hb) O Az,fun _ _ hb _ _=>a8 (K0.below hb) O Az,Dr O,fun _ _ hb _ _=>ay (tX.aq hb).2 O Az,fun _ _ hb _ _=>bB (tX.aq hb) O Az,?_,fun _ _ _ _ _=>dM O O Az,au⟩;intro e1 w1 hb hp aX;refine aH (Hy _ _ _ _ _ _ _ _ _ (ha.aq hb) (kr.aq hb) (by omega)) O ?_;rintro _ w2 ⟨rfl,aA⟩;refine ak.n ?_;exact eA.dn aA.below (by exact O)
  intro u w4 kL _;have aG:=aI.aq kL;have zy:=aG.bE hX;have zA:=aG.bE hY;have zm:=zy.top;have zo:=zA.top;have Ga:=zy.at_ (i:=(k:Int)) (by omega) h1;have Gg:=zA.at_ (i:=(k:Int)) (by omega) (by omega);have KZ:=aG.rd 1 O;have K1:=aG.rd 0 O;refine fw O (aM _ O (fun h3=>?_) (fun h3=>?_))
  ·rw [aC (fun h=>h3 (r5.1 h))]at hK;refine cH O ?_;refine dK [xP (aF (Ab) 0),xS (A) (n) (c),xI ((k:Int)),xP (aF (A) ((k:Int)).toNat),xS ((rg (rs) ((k:Int))).a) ((rg (rs) ((k:Int))).n) ((rg (rs) ((k:Int))).c),xP (aF (Ac) 0),xS (A') (n) (c'),xI ((k:Int)),xP (aF (A') ((k:Int)).toNat),xS ((rg (rs') ((k:Int))).a) ((rg (rs') ((k:Int))).n) ((rg (rs') ((k:Int))).c),xB (decide (fz (gl xss k) (gl bb k)<0)),xB (decide (fz (gl xss k) (gl bb k)<0))] O (eo O) ?_ ?_
   ·refine⟨fun _ _ hb _ _=>aS (KZ.below hb) O Az,fun _ _ hb _ _=>a8 (KZ.below hb) O Az,Dr O,fun _ _ hb _ _=>ay (zm.aq hb).2 O Az,fun _ _ hb _ _=>bB (zm.aq hb) O Az,fun _ _ hb _ _=>aS (K1.below hb) O Az,fun _ _ hb _ _=>a8 (K1.below hb) O Az,Dr O,fun _ _ hb _ _=>ay (zo.aq hb).2 O Az,fun _ _ hb _ _=>bB (zo.aq hb) O Az,?_,Dr O,au⟩;intro e1 w1 hb hp aX;refine aH (Nk _ _ _ _ _ _ _ _ _ (Ga.aq hb) (Gg.aq hb) (by omega)) O ?_;rintro _ w2 ⟨rfl,aA⟩;refine ak.n ?_;exact eA.dn aA.below (by exact O)
   intro u2 w5 lh _;have aR:=aG.aq lh;refine tE O (de (cT ?_));refine bQ O ?_;exact⟨bw Value.bool (kc.2 (by rw [hK])),aR.none⟩
  rw [aJ (r5.2 (gC.1 h3))]at hK;refine aD O (aL O (aU O (tQ ?_)));exact⟨k+1,by show n - (k+1)<n - k;omega,(ac4 O),aG,by omega,hK⟩
 rw [HJ (by omega),aC (by omega)]at hK;refine bo O (bp (e6 O ?_));refine bQ O ?_;exact⟨bw Value.bool (by rw [hK];rfl),aI.none⟩
theorem St.yr{w0 w:aa}{t1 t2:ad}{A:ai}{n c:Nat}{rs:List aO}{xss:ag}(h:St w0 w (aK t1 t2 A n c rs xss))(hl:xss.length=n):bl w A n rs xss:=
 St.du (ks:=[]) (by rw [iG];exact h) hl
end
section
variable{F:Nat}
abbrev Mx:=ag
def mx(a b:Mx):Prop:=¬dZ b a<0
theorem HE{a b:Mx}(h:dZ a b<0):mx a b:=fun h'=>by rw [Bb]at h';omega
theorem Yn{a b:Mx}(h:mx a b)(h':mx b a):a=b:=by
 unfold mx at h h';rw [Bb]at h;exact wc.1 (by omega)
theorem Ny{a b:Mx}(h:mx a b):dZ a b<0\/a=b:=by
 by_cases e:a=b
 ·exact .inr e
 left;unfold mx at h;rw [Bb]at h;have:dZ a b≠0:=fun h0=>e (wc.1 h0)
 omega
theorem Nz{a b c:Mx}(h:mx a b)(h':mx b c):mx a c:=by
 rcases Ny h with h | rfl
 ·rcases Ny h' with h' | rfl
  ·exact HE (DJ h h')
  exact HE h
 exact h'
def oD(x:Mx):List Mx->Nat
 | []=>0
 | y::l=>if dZ y x<0 then oD x l+1 else 0
theorem QS{x:Mx}{l:List Mx}{k:Nat}(hk:k<l.length):oD x (l.drop k)=if dZ l[k] x<0 then oD x (l.drop (k+1))+1 else 0:=by
 rw [List.drop_eq_getElem_cons hk,oD]
def oW(x:Mx)(l:List Mx):List Mx:=l.take (oD x l)++x::l.drop (oD x l)
theorem M4{α:Type}(x:α)(l:List α)(k:Nat):(l.take k++x::l.drop k).Perm (x::l):=by
 have h:(l.take k++x::l.drop k).Perm (x::(l.take k++l.drop k)):=eU
 rwa [List.take_append_drop]at h
theorem M0(x:Mx)(l:List Mx):(oW x l).Perm (x::l):=M4 x l _
theorem WQ(x y:Mx)(l:List Mx):oW x (y::l)=if dZ y x<0 then y::oW x l else x::y::l:=by
 unfold oW;rw [oD]
 split<;>simp
theorem M1(x:Mx):∀ {l:List Mx},l.Pairwise mx->(oW x l).Pairwise mx
 | [],_=>by simp [oW,oD]
 | y::l,h=>by
  have h1:=List.pairwise_cons.1 h;rw [WQ]
  split
  ·rename_i hy;refine List.pairwise_cons.2 ⟨fun z hz=>?_,M1 x h1.2⟩;rcases ja.1 ((M0 x l).mem_iff.1 hz)with rfl | hz
   ·exact HE hy
   ·exact h1.1 z hz
  ·rename_i hy;refine List.pairwise_cons.2 ⟨fun z hz=>?_,h⟩;rcases ja.1 hz with rfl | hz
   ·exact hy
   ·exact Nz hy (h1.1 z hz)
def r9(l:List Mx):List Mx:=l.foldl (fun o x=>oW x o) []
theorem YY(l:List Mx)(x:Mx):r9 (l++ [x])=oW x (r9 l):=by simp [r9,List.foldl_append]
theorem Fi:∀(l o:List Mx),o.Pairwise mx->(l.foldl (fun o x=>oW x o) o).Pairwise mx/\(l.foldl (fun o x=>oW x o) o).Perm (l++o)
 | [],o,h=> ⟨h,List.Perm.refl _⟩
 | x::l,o,h=>by
  obtain⟨h1,h2⟩:=Fi l (oW x o) (M1 x h);refine⟨h1,h2.trans (((M0 x o).append_left l).trans ?_)⟩;exact eU
theorem YZ(l:List Mx):(r9 l).Pairwise mx:=(Fi l [] List.Pairwise.nil).1
theorem DT(l:List Mx):(r9 l).Perm l:=by have:=(Fi l [] List.Pairwise.nil).2;rwa [iG]at this
theorem YX{l l':List Mx}(hp:l'.Perm l)(hs:l'.Pairwise mx):l'=r9 l:=
 List.Perm.eq_of_pairwise (le:=mx) (fun _ _ _ _ h h'=>Yn h h') hs (YZ l) (hp.trans (DT l).symm)
def pv(n F:Nat):List Mx:=pq n F (F*n+1) 0 1 (blank n F)
def kZ(N:Nat)(xss:Mx):Prop:=∀f,f<N->¬dZ (cW N xss (f:Nat)) xss<0
instance (N:Nat)(xss:Mx):Decidable (kZ N xss):=by unfold kZ;exact inferInstance
def wh(n F:Nat):List Mx:=(pv n F).filter fun L=>decide (kZ F L)
def od(n F:Nat):List Mx:=r9 (wh n F)
theorem Y0(n F:Nat):(wh n F).length<=(pv n F).length:=ox _ _
theorem Yt(n F:Nat):(od n F).length=(wh n F).length:=(DT _).length_eq
theorem zi{n:Nat}{L:Mx}(hn:0<n)(hF:0<F)(h:L∈pv n F):bj L/\Inv n F L F (F*n):=by
 have h1:=jb.1 h;exact⟨mT h1.2,(sJ _ _ _ _ (Inv.blank hn hF) L h1.1).2⟩
theorem DK{n:Nat}{L:Mx}:L∈od n F↔L∈pv n F/\kZ F L:=by
 rw [od,(DT _).mem_iff,wh,jb,decide_eq_true_iff]
theorem N8{n:Nat}{L:Mx}(hn:0<n)(hF:0<F)(h:L∈pv n F):gO F L=L↔kZ F L:=Yp hF (SD hF h hn)
end
section
open Go.RowKit
section
variable {P:Program} {N:Nat} {ops:Array Oper} {K:Env->aa->Prop} {rest:List Oper} {e:Env} {w:aa} {d:Nat} {ty:ad} {pos:String} {af:Array Edge}
theorem oz{t:ad}{fs:Array Field}{z:ab}{b:Nat}[bK P t (.struct fs)][bF P t z (0+1) b]{x:ae}{A:ai}{n:Nat}{i:Int}{xs:List aO}(hR:gp w A n xs)(hx:ev e x= .pointer (aF A i.toNat))(hj:i.toNat<n)(hb:Nat.blt d N=true)(hK:ak P N ops K rest (bt e d (.agg #[.slice (rg xs i).a (rg xs i).n (rg xs i).c])) w):ak P N ops K (⟨some d,.load t x,ty,pos,af,none⟩::rest) e w:=
 .br 0 (hR.2.behind (o:=i.toNat) (m:=1) (by omega)) hx rfl hb hK
end
theorem St.oh{w0 w:aa}{t1 t2:ad}{A:ai}{n c:Nat}{rs:List aO}{xss:ag}{ks:List Ck}(h:St w0 w ks)(qF:(aK t1 t2 A n c rs xss).Sublist ks)(hl:xss.length=n):bl w A n rs xss:=(h.sub qF).yr hl
theorem sn{t1 t2:ad}{m:cq}:∀ {ms:List cq},m∈ms->(m.fc t1 t2).Sublist (dv t1 t2 ms)
 | a::ms,h=>by
  unfold dv;rw [List.flatMap_cons];rcases ja.1 h with rfl | h
  ·exact kY _ _
  ·exact(sn h).trans (dD _ _)
theorem NA(A:ai)(n c:Nat)(rs:List aO)(xss:ag)(N:Nat)(w:aa)(hR:bl w A n rs xss)(hM:bj xss)(hN:N=(gl xss 0).length):
 aE prog 87 [.agg #[.slice A n c]] w (fun v w'=>∃A' c' rs',v= .agg #[.slice A' n c']/\rs'.length=n/\St w w' (aK 24 2 A' n c' rs' (gO N xss))):=by
 have h5:=hM.1;have Cy:=hM.2.1;have bP:=hR.len;have ie:(gl xss 0).length=(rg rs 0).n:=hR.jh (by omega) (by omega);have lq:∀k,(fe N xss k).length=n:=fun k=>by
  induction k with
  | zero=>rw [fe,mh,bP]
  | succ k ih=>
   rw [fe]
   split
   ·rw [mh,bP]
   ·exact ih
 have jq:∀f:Int,(cW N xss f).length=n:=fun f=>by rw [mh,bP]
 refine bm func87 O ntmps87 O (lB O O) (aY O (fD (St.refl w) O O ?_));intro Ab w1 aB;refine eH aB O fun Ac w2 aw=>ao O (aS (aw.rd 1 O) O (a8 (aw.rd 1 O) O (aH (Km A n c rs xss N 0 _ (aw.bE hR) hM hN (by omega) (by omega)) O ?_)));rintro _ w3 ⟨A4,c4,bY,rfl,vO,aA⟩;have aI:=(aw.call aA).perm fb;refine eH aI O fun Ad w4 aG=>bR 1 0 aG O O O O O O O ?_;intro w5 aR;have aR:St w w5 (Bx 37 1 Ad [.slice A4 n c4]::Bx 37 1 Ac [.slice none 0 0]::Bx 37 1 Ab [.slice A n c]::aK 24 2 A4 n c4 bY (fe N xss 0)):=aR;refine ao O (aH (nN Ab A n c rs xss _ _ (aR.rd 2 O) O (aR.bE hR) (by omega)) O ?_);rintro _ w5 ⟨rfl,rfl⟩;refine az O ?_;refine Cd.loop (α:=Nat×ai×Nat×List aO) (fun s=> [(1,.pointer Ab),(2,.pointer Ac),(3,.pointer Ad),(9,aj N),(10,aj (s.1:Int))]) (fun s w'=>St w w' (Bx 37 1 Ad [.slice s.2.1 n s.2.2.1]::Bx 37 1 Ac [.slice none 0 0]::Bx 37 1 Ab [.slice A n c]::aK 24 2 s.2.1 n s.2.2.1 s.2.2.2 (fe N xss s.1))/\s.1<=N/\s.2.2.2.length=n) (fun s=>N - s.1) (0,A4,c4,bY) ⟨O,O,O,by rw [hN,ie];rfl,O,au⟩ ⟨aR,bA _,vO⟩ ?_;rintro⟨k,A6,c6,o8⟩ e w6 ⟨aQ,hk,pS⟩;dsimp only at aQ hk pS|-;refine b7 O (aM _ O (fun h1=>?_) (fun h1=>?_))
 ·refine aD O (aS (aQ.rd 2 O) O (a8 (aQ.rd 2 O) O (ao O (aH (Km A n c rs xss N k _ (aQ.bE hR) hM hN (by omega) (by omega)) O ?_))));rintro _ w7 ⟨A7,c7,fq,rfl,lp,tg⟩;have a6:=(aQ.call tg).perm fb;refine eH a6 O fun A8 w8 a7=>bR 1 0 a7 O O O O O O O ?_;intro w9 aW;have aW:St w w9 (Bx 37 1 A8 [.slice A7 n c7]::Bx 37 1 Ad [.slice A6 n c6]::Bx 37 1 Ac [.slice none 0 0]::Bx 37 1 Ab [.slice A n c]::(aK 24 2 A6 n c6 o8 (fe N xss k)++aK 24 2 A7 n c7 fq (cW N xss k))):=aW;have uA:bl w9 A6 n o8 (fe N xss k):=aW.oh ((kY _ _).trans (dD [_,_,_,_] _)) (lq k);have tc:bl w9 A7 n fq (cW N xss k):=aW.oh (((((dD _ _).cons _).cons _).cons _).cons _) (jq k);refine ao O (ac3 0 (aW.rd 0 O) O (ac3 0 (aW.rd 1 O) O (aH (RF A7 n c7 fq _ A6 n c6 o8 _ _ tc uA (by omega)) O ?_)));rintro _ dt ⟨rfl,Av⟩;have bV:=aW.aq Av.below;refine az O (aM _ O (fun h2=>?_) (fun h2=>?_))
  ·have hle:fe N xss (k+1)=cW N xss k:=by rw [fe,aJ h2]
   refine aD O (ac3 0 (bV.rd 0 O) O (bR 1 1 bV O O O O O O O ?_));intro dB dW;refine ao O (aL O (aU O (tQ ?_)));refine⟨(k+1,A7,c7,fq),by show N - (k+1)<N - k;omega,(ac4 O),?_,by show k+1<=N;omega,lp⟩;show St w dB (Bx _ 1 Ad [.slice A7 n c7]::_::_::aK _ _ A7 n c7 fq (fe N xss (k+1)));rw [hle];exact dW.sub (((List.Sublist.cons_cons _ (List.Sublist.cons_cons _ (List.Sublist.cons_cons _ (dD _ _)))).cons _))
  ·have hle:fe N xss (k+1)=fe N xss k:=by rw [fe,aC h2]
   refine aD O (aL O (aU O (tQ ?_)));refine⟨(k+1,A6,c6,o8),by show N - (k+1)<N - k;omega,(ac4 O),?_,by show k+1<=N;omega,pS⟩;show St w dt (Bx _ 1 Ad [.slice A6 n c6]::_::_::aK _ _ A6 n c6 o8 (fe N xss (k+1)));rw [hle];exact bV.sub (((List.Sublist.cons_cons _ (List.Sublist.cons_cons _ (List.Sublist.cons_cons _ (kY _ _)))).cons _))
 ·have np:k=N:=by omega
  rw [np]at aQ;refine bo O (bp (cn O ?_));refine ac3 0 (aQ.rd 0 O) O (bR 1 1 aQ O O O O O O O ?_);intro w7 a6;refine bu O (fZ O (a6.rd 1 O) ?_);exact⟨A6,c6,o8,O,pS,a6.sub (((List.sublist_cons_self _ _).trans (List.sublist_cons_self _ _)).trans (List.sublist_cons_self _ _))⟩
def ml(N:Nat)(xss:ag):Nat->List (ag)
 | 0=> []
 | k+1=>if cW N xss k∈ml N xss k then ml N xss k else ml N xss k++ [cW N xss k]
theorem Kr(N:Nat)(xss:ag):∀k,(ml N xss k).length<=k
 | 0=>dE _
 | k+1=>by
  have:=Kr N xss k;simp only [ml]
  split
  ·omega
  ·simp;omega
theorem Fo(N:Nat)(xss:ag):∀k,∀m∈ml N xss k,m.length=xss.length
 | 0,m,h=>by cases h
 | k+1,m,h=>by
  simp only [ml]at h
  split at h
  ·exact Fo N xss k m h
  ·rcases gE.1 h with h | h
   ·exact Fo N xss k m h
   ·simp at h;subst h;exact mh _ _ _
def oj(N:Nat)(xss:ag):Nat:=if kZ N xss then(ml N xss N).length else 0
theorem X5(A:ai)(n c:Nat)(rs:List aO)(xss:ag)(N:Nat)(w:aa)(hR:bl w A n rs xss)(hM:bj xss)(hN:N=(gl xss 0).length):
 aE prog 133 [.agg #[.slice A n c]] w (fun v w'=>v=aj (oj N xss:Int)/\St w w' []):=by
 have h5:=hM.1;have Cy:=hM.2.1;have bP:=hR.len;have jq:∀f:Int,(cW N xss f).length=n:=fun f=>by rw [mh,bP]
 refine bm func133 O ntmps133 O (bU O) (aY O (fD (St.refl w) O O ?_));intro Ab w1 aB;refine ao O (jO aB O ?_);intro A3 w2 aw;refine az O ?_;refine Cd.loop (α:=Nat×ai×Nat×List cq) (fun s=> [(1,.pointer Ab),(3,.slice s.2.1 s.2.2.2.length s.2.2.1),(4,aj (s.1:Int))]) (fun s w'=>St w w' (aV 37 s.2.1 s.2.2.2.length s.2.2.1 (s.2.2.2.map (·.top))::Bx 37 1 Ab [.slice A n c]::dv 24 2 s.2.2.2)/\s.1<=N/\s.2.2.2.map (·.xss)=ml N xss s.1/\(∀m∈s.2.2.2,m.top.n=n)/\∀f,f<s.1->¬dZ (cW N xss (f:Nat)) xss<0) (fun s=>N - s.1) (0,A3,0,[]) ⟨rfl,rfl,rfl,au⟩ ⟨aw,bA _,rfl,(by intro m h;cases h),(by intro f hf;exact absurd hf (oy f))⟩ ?_;rintro⟨k,A4,c4,ms⟩ e w3 ⟨aI,hk,rM,kQ,ta⟩;dsimp only at aI hk rM kQ ta|-;have Vy:=Kr N xss k;rw [<-rM,fQ]at Vy;refine aY O (ac3 0 (aI.rd 1 O) O (aH (oY A n c rs xss _ (aI.bE hR) (by omega)) O ?_));rintro _ w4 ⟨rfl,aA⟩;have aG:=aI.aq aA.below;rw [<-hN];refine az O (aM _ O (fun h1=>?_) (fun h1=>?_))
 ·refine aD O (ac3 0 (aG.rd 1 O) O (ao O (aH (HA A n c rs xss N k _ (aG.bE hR) hM hN (by omega) (by omega)) O ?_)));rintro _ w5 ⟨A5,c5,l8,rfl,GC,kP⟩;have aR:=(aG.call kP).perm fb;refine eH aR O fun A6 w6 aQ=>bR 1 0 aQ O O O O O O O ?_;intro w7 a6;have a6:St w w7 (Bx 37 1 A6 [.slice A5 n c5]::aV 37 A4 ms.length c4 (ms.map (·.top))::Bx 37 1 Ab [.slice A n c]::(dv 24 2 ms++aK 24 2 A5 n c5 l8 (cW N xss k))):=a6;have An:bl w7 A5 n l8 (cW N xss k):=a6.oh ((dD _ _).trans (dD [_,_,_] _)) (jq k);refine ao O (ac3 0 (a6.rd 0 O) O (ac3 0 (a6.rd 2 O) O (aH (Nv A5 n c5 l8 _ A c rs xss _ An (a6.bE hR) (by omega)) O ?_)));rintro _ w8 ⟨rfl,MM⟩;have a7:=a6.aq MM.below;have VV:=An.aq MM.below;refine az O (aM _ O (fun h2=>?_) (fun h2=>?_))
  ·refine cE O (de (cT ?_));refine fP O ⟨?_,a7.none⟩;rw [oj,aC (fun h:kZ N xss=>h k (by omega) h2)]
   rfl
  ·have Ms:∀f,f<k+1->¬dZ (cW N xss (f:Nat)) xss<0:=fun f hf=>by
    by_cases e:f=k
    ·subst e;exact h2
    ·exact ta f (by omega)
   have oH:=a7.eG 1 O;have pD:=a7.rd 0 O;have mN:∀(j:Nat) (hj:j<ms.length),bl w8 (rg (ms.map (·.top)) j).a (rg (ms.map (·.top)) j).n (ms[j]).rs (ms[j]).xss:=fun j hj=>by
    have e:rg (ms.map (·.top)) j=(ms[j]).top:=by simp [rg,df,dL hj]
    rw [e];have hm:=dd hj;refine a7.oh (c:=(ms[j]).top.c) (t1:=24) (t2:=2) (((sn hm).trans (kY _ _)).trans (dD [_,_,_] _)) ?_;rw [kQ _ hm,<-bP];exact Fo N xss k _ (by rw [<-rM];exact List.mem_map_of_mem hm)
   refine cH O (Cd.loop (α:=Nat×Bool) (fun s=> [(1,.pointer Ab),(3,.slice A4 ms.length c4),(4,aj k),(5,.pointer A6),(6,.bool s.2),(7,aj (s.1:Int))]) (fun s w'=>St w8 w' []/\s.1<=ms.length/\s.2=decide (cW N xss k∈(ms.map (·.xss)).take s.1)) (fun s=>ms.length - s.1) (0,false) (ac4 O) ⟨St.refl w8,bA _,O⟩ ?_);rintro⟨j,kn⟩ e w9 ⟨aW,hj,eF⟩;dsimp only at aW hj eF|-;refine aY O (aZ O O (az O ?_));refine aM _ O (fun h3=>?_) (fun h3=>?_)
   ·have fI:j<ms.length:=by omega
    have ig:(ms.map (·.xss)).take (j+1)=(ms.map (·.xss)).take j++ [(ms[j]).xss]:=by
     rw [lG (by rw [fQ];exact fI),List.getElem_map]
    have Ln:=oH.aq aW.below;have FK:=pD.below aW.below;have Df:=(mN j fI).aq aW.below;have VW:=VV.aq aW.below;have gf:=Df.len;have hnj:(rg (ms.map (·.top)) j).n=n:=by
     have e:rg (ms.map (·.top)) j=(ms[j]).top:=by simp [rg,df,dL fI]
     rw [e];exact kQ _ (dd fI)
    cases kn --dup 2
    ·refine cH O (dK [xB (false),xB (false),xS (A4) (ms.length) (c4),xI ((j:Int)),xP (aF (A4) ((j:Int)).toNat),.ex (.agg #[.slice (rg (ms.map (·.top)) ((j:Int))).a (rg (ms.map (·.top)) ((j:Int))).n (rg (ms.map (·.top)) ((j:Int))).c]),.ex (.agg #[.slice (A5) (n) (c5)]),xB (decide ((ms[j]).xss=cW N xss k)),xB (decide ((ms[j]).xss=cW N xss k)),xB (decide ((ms[j]).xss=cW N xss k))] O (eo O) ?_ ?_)
     ·refine⟨fun _ _ _ _ aX=>BP O (by exact aX 9 _ O (by kernel_rfl)) O Az,Dr O,Dr O,Dr O,fun _ _ hb _ _=>ar O (ay (Ln.aq hb).2 O Az),fun _ _ hb _ _=>ar O (oz (Ln.aq hb) O (by omega) O Az),fun _ _ hb _ _=>ar O (ac3 0 (FK.below hb) O Az),?_,Dr O,Dr O,au⟩
      ·intro e1 w1 hb hp aX;refine ar O (aH (Np _ _ _ _ _ _ _ _ _ _ _ (Df.aq hb) (VW.aq hb) (by omega)) O ?_);rintro _ w2 ⟨rfl,aA⟩;refine ak.n ?_;exact eA.dn aA.below (by exact O)
     intro u dt zE _;have bV:=aW.aq zE;refine fK O (aL O (aU O (tQ ?_)));refine⟨(j+1,decide ((ms[j]).xss=cW N xss k)),by show ms.length - (j+1)<ms.length - j;omega,(ac4 O),bV,by show j+1<=ms.length;omega,?_⟩;show decide _=decide (cW N xss k∈(ms.map (·.xss)).take (j+1));rw [ig];have eC:¬cW N xss k∈(ms.map (·.xss)).take j:=of_decide_eq_false eF.symm;refine kc.2 ?_;rw [gE,iv];exact⟨fun h=> .inr h.symm,fun h=>h.elim (fun h=>absurd h eC) (fun h=>h.symm)⟩
    ·refine cH O (dK [xB (true),xB (true),xU,xU,xU,xU,xU,xU,xB (true),xB (true)] O (eo O) ?_ ?_)
     ·exact⟨fun _ _ _ _ aX=>BP O (by exact aX 9 _ O (by kernel_rfl)) O Az,Dr O,Dr O,Dr O,Dr O,Dr O,Dr O,Dr O,Dr O,Dr O,au⟩
     intro u dt zE _;have bV:=aW.aq zE;refine fK O (aL O (aU O (tQ ?_)));refine⟨(j+1,true),by show ms.length - (j+1)<ms.length - j;omega,(ac4 O),bV,by show j+1<=ms.length;omega,?_⟩;have iX:cW N xss k∈(ms.map (·.xss)).take j:=mT eF.symm;show true=decide (cW N xss k∈(ms.map (·.xss)).take (j+1));rw [ig];exact(fo (List.mem_append_left _ iX)).symm
   ·have rI:j=ms.length:=by omega
    rw [rI,jc (by rw [fQ];exact dE _),rM]at eF;have F2:=a7.aq aW.below;refine bo O (bp (cn O ?_))
    first | refine dM rfl rfl ?_ | refine eI rfl rfl ?_
    refine az O (Cd.cond O (fun h4=>?_) (fun h4=>?_))
    ·have mO:¬cW N xss k∈ml N xss k:=fun h=>by
      rw [fo h]at eF;rw [eF]at h4;cases h4
     refine aD O (ac3 0 (F2.rd 0 O) O (yK F2 O O O ?_));intro bI dt bV;refine km 2 bV O (bV.eG 0 O) O O O (by omega) (by omega) O ?_;intro iE iT dB dW;have dW:=dW.tail.tail;have dW:St w dB (aV 37 iE (ms.length+1) iT (ms.map (·.top)++ [⟨A5,n,c5⟩])::Bx 37 1 Ab [.slice A n c]::(dv 24 2 ms++aK 24 2 A5 n c5 l8 (cW N xss k))):=dW;refine ao O (aL O (aU O (tQ ?_)));refine⟨(k+1,iE,iT,ms++ [⟨⟨A5,n,c5⟩,l8,cW N xss k⟩]),by show N - (k+1)<N - k;omega,⟨O,by rw [e8];rfl,O,au⟩,?_,by show k+1<=N;omega,?_,?_,Ms⟩
     ·show St w dB (aV _ iE (ms++ [(⟨⟨A5,n,c5⟩,l8,cW N xss k⟩:cq)]).length iT (List.map cq.top (ms++ [(⟨⟨A5,n,c5⟩,l8,cW N xss k⟩:cq)]))::_::dv _ _ (ms++ [(⟨⟨A5,n,c5⟩,l8,cW N xss k⟩:cq)]));rw [e8,lF,HQ];simpa [dv,cq.fc]using dW
     ·show List.map cq.xss (ms++ [(⟨⟨A5,n,c5⟩,l8,cW N xss k⟩:cq)])=ml N xss (k+1);rw [lF,rM,ml,aC mO]
      rfl
     ·intro m hm;rcases gE.1 hm with hm | hm
      ·exact kQ m hm
      ·simp at hm;subst hm;rfl
    ·have hold:cW N xss k∈ml N xss k:=by
      cases ur:kn with
      | true=>rw [ur]at eF;exact mT eF.symm
      | false=>rw [ur]at h4;cases h4
     refine aD O (aL O (aU O (tQ ?_)));refine⟨(k+1,A4,c4,ms),by show N - (k+1)<N - k;omega,(ac4 O),?_,by show k+1<=N;omega,?_,kQ,Ms⟩
     ·exact F2.sub ((List.Sublist.cons_cons _ (List.Sublist.cons_cons _ (kY _ _))).cons _)
     ·show ms.map (·.xss)=ml N xss (k+1);rw [rM,ml,aJ hold]
 ·have np:k=N:=by omega
  subst np;refine bo O (bp (cn O (aZ O O (bu O ?_))));refine fP O ⟨?_,aG.none⟩;rw [oj,aJ (show kZ k xss from ta),<-rM,fQ]
section
variable {P:Program} {N:Nat} {ops:Array Oper} {K:Env->aa->Prop} {rest:List Oper} {e:Env} {w0 w w':aa} {ks:List Ck} {d:Nat} {ty:ad} {pos:String} {af:Array Edge}
theorem PW{t el:ad}{z:ab}{b:Nat}[hU:bK P t (.slice el)][bF P el z 1 b]{x y:ae}(i:Nat){A:ai}{n c:Nat}{xs:List aO}{A':ai}{m c':Nat}{ys:List aO}(Gn:n=c)(hS:St w0 w ks)(hk:ks[i]?=some (aV el A n c xs))(hR:gp w A' m ys)(hx:ev e x= .slice A n c)(hy:ev e y= .slice A' m c'){z0:ab}(hz:z.cells= #[z0])(pC:n+m<=9223372036854775807)(pL:(n+m)*b<=140737488355328)(hb:Nat.blt d N=true)(hK:∀A2 c2 w',Below w.heap.size w w'->St w0 w' (ks.set i (aV el A2 (n+m) c2 (xs++ys)))->ak P N ops K rest (bt e d (.slice A2 (n+m) c2)) w'):
 ak P N ops K (⟨some d,.call ⟨.builtin .append, #[x,y], #[t,t]⟩,ty,pos,af,none⟩::rest) e w:=
 .QM i Gn hS hk hR.2 hx hy rfl hz (fun _ _=>rfl) (by simpa [maxLen]using pC) pL hb fun A2 c2 w' kr h=>hK A2 c2 w' kr (by
  rw [NN hR.1]at h;simpa [aV]using h)
theorem ZG{R:ab->aa->Prop}{t u:Nat}{A A':ai}{n c n' c':Nat}(h:e t= .slice A n c)(h2:e u= .slice A' n' c')(hR:R (.tuple #[.slice A n c,.slice A' n' c']) w):wm t u R .ret e w:=by show R (.tuple #[e t,e u]) w;rw [h,h2];exact hR
end
theorem Oa(u:Nat->ab){i:Nat}{v:ab}(h:u i=v):u=fun k=>if k=i then v else u k:=by
 funext k
 split
 ·rename_i e;rw [e,h]
 rfl
theorem gp.take{w:aa}{A:ai}{n l:Nat}{xs:List aO}(h:gp w A n xs)(hl:l<=n):gp w A l (xs.take l):=by
 refine⟨by rw [ra,h.1];omega,fun k hk=>?_⟩;obtain⟨q,h1,h2⟩:=h.2 k (by omega);exact⟨q,h1,by rw [h2];simp [qh,hk,df]⟩
theorem gp.drop{w:aa}{A:ai}{n c l:Nat}{xs:List aO}(h:gp w A n xs)(hl:l<=n)(hc:n<=c):gp w (cutAt A c l) (n - l) (xs.drop l):=by
 have:=h.cut (l:=l) (h:=n) (c:=c) hl (dE _) hc
 rwa [jc (by rw [List.length_drop,h.1];omega)]at this
theorem HR{t1 t2:ad}{l l':List cq}(h:l.Sublist l'):(dv t1 t2 l).Sublist (dv t1 t2 l'):=by
 induction h with
 | slnil=>exact dA _
 | cons a _ ih=>exact ih.trans (dD _ _)
 | cons_cons a _ ih=>exact List.Sublist.append (dA _) ih
theorem NP{t1 t2:ad}{l l':List cq}(h:l.Perm l'):(dv t1 t2 l).Perm (dv t1 t2 l'):=h.flatMap_right _
def iL(m:cq)(l:List cq):List cq:=l.take (oD m.xss (l.map (·.xss)))++m::l.drop (oD m.xss (l.map (·.xss)))
theorem WR(m:cq)(l:List cq):(iL m l).map (·.xss)=oW m.xss (l.map (·.xss)):=by simp [iL,oW,List.map_take,List.map_drop]
theorem M3(m:cq)(l:List cq):(iL m l).Perm (m::l):=M4 m l _
def gg(F:Nat)(ms:List cq):List cq:=ms.filter fun m=>decide (kZ F m.xss)
theorem SN(N:Nat)(xss:Mx):∀k,0<k->0< (ml N xss k).length
 | k+1,_=>by
  simp only [ml]
  split
  ·rename_i h;exact List.length_pos_of_mem h
  ·simp
theorem N4{F:Nat}{L:Mx}(hF:0<F):oj F L=0↔¬kZ F L:=by
 unfold oj
 split
 ·rename_i h;have:=SN F L F hF;exact⟨fun e=>by omega,fun h'=>absurd h h'⟩
 rename_i h;exact⟨fun _=>h,fun _=>rfl⟩
def jI(F:Nat)(m:cq):Int:=(oj F m.xss:Int)
theorem wF{ms:List cq}{j:Nat}(hj:j<ms.length):rg (ms.map (·.top)) j=(ms[j]).top:=by
 simp [rg,df,dL hj]
theorem OH{F:Nat}{ms:List cq}{i:Nat}(hi:i<ms.length):gg F (ms.take (i+1))=if kZ F (ms[i]).xss then gg F (ms.take i)++ [ms[i]]else gg F (ms.take i):=by
 unfold gg;rw [lG hi,List.filter_append]
 by_cases h:kZ F (ms[i]).xss<;>simp [h]
theorem X4(n F:Nat)(hn:1<=n/\n<=4)(hF:2<=F/\F<=12)(w:aa):
 aE prog 71 [aj n,aj F] w (fun v w'=>∃A c A2 c2,∃ms:List cq,v= .tuple #[.slice A ms.length c,.slice A2 ms.length c2]/\ms.map (·.xss)=od n F/\(∀m∈ms,m.ok)/\
  St w w' (aV 37 A ms.length c (ms.map (·.top))::ax 2 A2 ms.length c2 (ms.map (jI F))::dv 24 2 ms)):=by
 refine bm func71 O ntmps71 O (my O) (aY O (aH (X7 n F hn hF w) O ?_));rintro _ w1 ⟨A6,c6,all,rfl,bq,ct,aA⟩;have pX:=zj hn hF (F*n+1);rw [<-ct,fQ]at pX;have vR:∀m∈all,bj m.xss/\Inv n F m.xss F (F*n):=fun m hm=>zi (by omega) (by omega) (by rw [pv,<-ct];exact List.mem_map_of_mem hm)
 have hlen:∀m∈all,m.xss.length=n:=fun m hm=> (vR m hm).2.dz.1
 have kQ:∀m∈all,m.top.n=n:=fun m hm=>by rw [<-bq m hm];exact hlen m hm
 have s4:∀m∈all,F=(gl m.xss 0).length:=fun m hm=> ((vR m hm).2.dz.row (i:=0) (by omega)).symm
 have oH:=aA.eG 0 O;have uy:∀m∈all,bl w1 m.top.a n m.rs m.xss:=fun m hm=>by
  have:=aA.oh (c:=m.top.c) (t1:=24) (t2:=2) ((sn hm).trans (List.sublist_cons_self _ _)) (bq m hm);rw [kQ m hm]at this;exact this
 have gf:∀m∈all,n<=m.top.c:=fun m hm=>by
  have h1:=aA.own (aV 24 m.top.a m.top.n m.top.c m.rs) (by
   refine uZ _ ?_;exact List.mem_flatMap.2 ⟨m,hm,by simp [cq.fc,aK]⟩)
  have h2:m.top.n<=m.top.c:=h1.cap.1;rw [kQ m hm]at h2;exact h2
 refine jO (St.refl w1) O fun A7 w2 aw=>jO aw O ?_;intro A8 w3 aI;have aI:St w1 w3 [ax 2 A8 0 0 [],aV 37 A7 0 0 []]:=aI;have aI:=aI.swap;refine az O (Cd.loop (α:=Nat×(ai×Nat)×(ai×Nat)×List cq) (fun s=> [(6,.slice A6 all.length c6),(7,.slice s.2.1.1 s.2.2.2.length s.2.1.2),(8,.slice s.2.2.1.1 s.2.2.2.length s.2.2.1.2),(9,aj (s.1:Int))]) (fun s w'=>St w1 w' [aV 37 s.2.1.1 s.2.2.2.length s.2.1.2 (s.2.2.2.map (·.top)),ax 2 s.2.2.1.1 s.2.2.2.length s.2.2.1.2 (s.2.2.2.map (jI F))]/\s.1<=all.length/\s.2.2.2.Perm (gg F (all.take s.1))/\s.2.2.2.map (·.xss)=r9 ((gg F (all.take s.1)).map (·.xss))) (fun s=>all.length - s.1) (0,(A7,0),(A8,0),[]) (ac4 O) ⟨aI,bA _,List.Perm.refl _,O⟩ ?_);rintro⟨i,⟨B7,c7⟩,⟨B8,c8⟩,outs⟩ e w4 ⟨aG,hi,rS,z6⟩;dsimp only at aG hi rS z6|-;have MP:∀m∈outs,m∈all:=fun m hm=>List.mem_of_mem_take (jb.1 (rS.mem_iff.1 hm)).1
 have VN:outs.length<=i:=by
  have h1:=rS.length_eq;have h2:=ox (fun m:cq=>decide (kZ F m.xss)) (all.take i);have h3:(gg F (all.take i)).length<=(all.take i).length:=h2;rw [ra]at h3;omega
 refine aY O (aZ O O (az O ?_));refine aM _ O (fun h1=>?_) (fun h1=>?_)
 ·have di:i<all.length:=by omega
  have hm:=dd di;have AA:=wF di;have vw:=oH.aq aG.below;have hX:=(uy _ hm).aq aG.below;have oS:=OH (F:=F) di;have vC:=(vR _ hm).1;have F6:=s4 _ hm;have hXc:=gf _ hm;refine aD O (ay vw.2 O (oz vw O (by omega) O ?_));rw [AA,kQ _ hm];generalize Ui:all[i]=X at*;have F7:(⟨X.top.a,n,X.top.c⟩:aO)=X.top:=by rw [<-kQ _ hm]
  refine aH (X5 X.top.a n X.top.c X.rs X.xss F _ hX vC F6) O ?_;rintro _ w5 ⟨rfl,kP⟩;have aR:=aG.aq kP.below;refine az O (aM _ O (fun h2=>?_) (fun h2=>?_))
  ·have eC:¬kZ F X.xss:=(N4 (by omega)).1 (by omega);rw [aC eC]at oS;refine aD O (aL O (aU O (tQ ?_)));exact⟨(i+1,(B7,c7),(B8,c8),outs),by show all.length - (i+1)<all.length - i;omega,(ac4 O),aR,di,by show outs.Perm (gg F (all.take (i+1)));rw [oS];exact rS,by show outs.map _=r9 ((gg F (all.take (i+1))).map _);rw [oS];exact z6⟩
  have iX:kZ F X.xss:=kV fun h=>h2 (by rw [(N4 (by omega)).2 h];rfl)
  rw [aJ iX]at oS;have CO:=hX.aq kP.below;have xT:∀ {A9 c9 bI b8 w9},St w1 w9 [aV 37 A9 (iL X outs).length c9 ((iL X outs).map (·.top)),ax 2 bI (iL X outs).length b8 ((iL X outs).map (jI F))]->
   St w1 w9 [aV 37 A9 (iL X outs).length c9 ((iL X outs).map (·.top)),ax 2 bI (iL X outs).length b8 ((iL X outs).map (jI F))]/\i+1<=all.length/\(iL X outs).Perm (gg F (all.take (i+1)))/\(iL X outs).map (·.xss)=r9 ((gg F (all.take (i+1))).map (·.xss)):=fun hs=>by
   refine⟨hs,di,?_,?_⟩
   ·rw [oS];exact(M3 X outs).trans ((rS.cons X).trans (fb (l₁:=[X])))
   rw [oS,WR,z6,lF,List.map_singleton,YY]
  have hinl:(iL X outs).length=outs.length+1:=(M3 X outs).length_eq;refine BM 3 O (pc (α:=Nat) (fun a=> [(6,.slice A6 all.length c6),(7,.slice B7 outs.length c7),(8,.slice B8 outs.length c8),(9,aj i),(10,aj (oj F X.xss:Int)),(11,aj a)]) (fun a w'=>St w5 w' []/\a<=outs.length/\a=oD X.xss (outs.map (·.xss))) ?_ ?_)
  ·refine b7 O (Cd.loop (α:=Nat) (fun a=> [(6,.slice A6 all.length c6),(7,.slice B7 outs.length c7),(8,.slice B8 outs.length c8),(9,aj i),(10,aj (oj F X.xss:Int)),(11,aj a)]) (fun a w'=>St w5 w' []/\a<=outs.length/\a+oD X.xss ((outs.map (·.xss)).drop a)=oD X.xss (outs.map (·.xss))) (fun a=>outs.length - a) 0 (ac4 O) ⟨St.refl w5,bA _,Nat.zero_add _⟩ ?_);rintro a e w6 ⟨aQ,ha,lg⟩;have eu:=(aR.eG 0 O).aq aQ.below;have sK:=(vw.aq kP.below).aq aQ.below;have CP:=CO.aq aQ.below
   by_cases cI:a<outs.length
   ·have zR:=MP _ (dd cI);have zB:=(((uy _ zR).aq aG.below).aq kP.below).aq aQ.below;have We:=wF cI;have Wf:=kQ _ zR;generalize Uk:outs[a]=Y at*;refine b7 O (dK [xI ((a:Int)),xS (B7) (outs.length) (c7),xI (((outs.length:Nat):Int)),xB (true),xB (true),xS (B7) (outs.length) (c7),xI ((a:Int)),xP (aF (B7) ((a:Int)).toNat),.ex (.agg #[.slice Y.top.a n Y.top.c]),xS (A6) (all.length) (c6),xI ((i:Int)),xP (aF (A6) ((i:Int)).toNat),.ex (.agg #[.slice X.top.a n X.top.c]),xB (decide (dZ Y.xss X.xss<0)),xB (decide (dZ Y.xss X.xss<0))] O (eo O) ?_ ?_)
    ·refine⟨Dr O,Dr O,fun _ _ _ _ _=>aZ O O Az,fun _ _ _ _ _=>Dk O (by exact bw Value.bool (fo (by omega))),Dr O,Dr O,Dr O,fun _ _ hb _ _=>ar O (ay (eu.aq hb).2 O Az),?_,Dr O,Dr O,fun _ _ hb _ _=>ar O (ay (sK.aq hb).2 O Az),?_,?_,Dr O,au⟩
     ·intro e1 w1 hb hp aX;refine ar O (oz (eu.aq hb) O (by omega) O ?_);rw [We,Wf];refine ak.n (d0 (by exact O))
     ·intro e1 w1 hb hp aX;refine ar O (oz (sK.aq hb) O (by omega) O ?_);rw [AA,kQ _ hm];refine ak.n (d0 (by exact O))
     intro e1 w1 hb hp aX;refine ar O (aH (Nv Y.top.a n Y.top.c Y.rs Y.xss X.top.a X.top.c X.rs X.xss _ (zB.aq hb) (CP.aq hb) (by omega)) O ?_);rintro _ w2 ⟨rfl,aA⟩;refine ak.n ?_;exact eA.dn aA.below (by exact O)
    intro uu w7 vG _;have a6:=aQ.aq vG;rw [QS (by rw [fQ];exact cI),List.getElem_map,Uk]at lg;refine fw O (aM _ O (fun h5=>?_) (fun h5=>?_))
    ·rw [aJ h5]at lg;refine aD O (aL O (aU O (tQ ?_)));exact⟨a+1,by show outs.length - (a+1)<outs.length - a;omega,(ac4 O),a6,cI,by omega⟩
    rw [aC h5]at lg;refine bo O (bp (tF O (tQ ?_)));exact⟨a,(ac4 O),a6,ha,by omega⟩
   refine b7 O (dK [xI ((a:Int)),xS (B7) (outs.length) (c7),xI (((outs.length:Nat):Int)),xB (false),xB (false),xU,xU,xU,xU,xU,xU,xU,xU,xU,xB (false)] O (eo O) ?_ ?_)
   ·exact⟨Dr O,Dr O,fun _ _ _ _ _=>aZ O O Az,fun _ _ _ _ _=>Dk O (by exact bw Value.bool (dq (by omega))),Dr O,Dr O,Dr O,Dr O,Dr O,Dr O,Dr O,Dr O,Dr O,Dr O,Dr O,au⟩
   intro uu w7 vG _;have a6:=aQ.aq vG;rw [List.drop_of_length_le (by rw [fQ];omega)]at lg;refine fw O (Cd.dO O ?_);refine bo O (bp (tF O (tQ ?_)));exact⟨a,(ac4 O),a6,ha,lg⟩
  rintro a e w6 ⟨aQ,ha,lg⟩;have bh:=aR.aq aQ.below;have sK:=(vw.aq kP.below).aq aQ.below;refine cH O ?_;refine dK [xS (A6) (all.length) (c6),xI ((i:Int)),xP (aF (A6) ((i:Int)).toNat),.ex (.agg #[.slice X.top.a n X.top.c]),.pr (fun v w'=>∃A9,v= .slice A9 1 1/\St w1 w' [aV 37 A9 1 1 [X.top],aV 37 B7 outs.length c7 (outs.map (·.top)),ax 2 B8 outs.length c8 (outs.map (jI F))]),xS (B7) (outs.length) (c7),xI ((a:Int)),xS (cutAt B7 c7 a) (outs.length - a) (c7 - a),.pr (fun v w'=>∃A9 c9,v= .slice A9 (1+ (outs.length - a)) c9/\St w1 w' [aV 37 A9 (1+ (outs.length - a)) c9 ([X.top]++ (outs.map (·.top)).drop a),aV 37 B7 outs.length c7 (outs.map (·.top)),ax 2 B8 outs.length c8 (outs.map (jI F))]),.pr (fun v w'=>∃A9 c9,v= .slice A9 (1+ (outs.length - a)) c9/\St w1 w' [aV 37 A9 (1+ (outs.length - a)) c9 ([X.top]++ (outs.map (·.top)).drop a),aV 37 B7 outs.length c7 (outs.map (·.top)),ax 2 B8 outs.length c8 (outs.map (jI F))])] rfl (lx (lx (lx (lx (cL.2 ⟨Yd.cQ (fun v w w' h hb=>by obtain⟨A9,hv,hT⟩:=h;exact⟨A9,hv,hT.aq hb⟩),(lx (lx (lx (cL.2 ⟨Yd.cQ (fun v w w' h hb=>by obtain⟨A9,c9,hv,hT⟩:=h;exact⟨A9,c9,hv,hT.aq hb⟩),(cL.2 ⟨Yd.cQ (fun v w w' h hb=>by obtain⟨A9,c9,hv,hT⟩:=h;exact⟨A9,c9,hv,hT.aq hb⟩),(fun _ h=>by cases h)⟩)⟩))))⟩))))) ?_ ?_
  ·refine⟨Dr O,Dr O,fun _ _ hb _ _=>ay (sK.aq hb).2 O Az,?_,?_,Dr O,Dr O,fun _ _ _ _ _=>sr O O O (by omega) Az,?_,?_,au⟩
   ·intro e1 w1 hb hp aX;refine oz (sK.aq hb) O (by omega) O ?_;rw [AA,kQ _ hm];refine ak.n (d0 (by exact O))
   ·intro e1 w1 hb hp aX;refine yK (St.refl _) O O O fun A9 w9 aA=>ak.n ?_;exact eA.dn aA.below ⟨A9,O,by rw [F7]at aA;exact(bh.aq hb).call aA⟩
   ·intro e1 w1 hb hp aX;obtain⟨A9,xn,hT⟩:=(hp 4 (by decide) rfl _ _ rfl rfl);refine PW 0 O hT O ((hT.eG 1 O).drop (l:=a) ha (hT.cap 1 O).1) (by exact xn) O O (by omega) (by omega) O ?_;intro bI b8 w9 sU aA;exact ak.n (eA.dn sU ⟨bI,b8,O,aA⟩)
   intro e1 w1 hb hp aX;obtain⟨A9,c9,Tj,hT⟩:=(hp 8 (by decide) rfl _ _ rfl rfl);refine lJ O (by exact Tj) O (ak.n ?_);exact eA.dn (Below.refl _ _) ⟨A9,c9,O,hT⟩
  intro uu w7 _ hu;obtain⟨A9,c9,pz,a6⟩:=hu 9 _ rfl;rw [Oa uu pz];refine fK O (jO a6 O ?_);intro bI w8 a7;have a7:St w1 w8 [aV 37 bI 0 0 [],aV 37 A9 (1+ (outs.length - a)) c9 ([X.top]++ (outs.map (·.top)).drop a),aV 37 B7 outs.length c7 (outs.map (·.top)),ax 2 B8 outs.length c8 (outs.map (jI F))]:=a7;have hcp7:outs.length<=c7/\c7<=maxLen:=a7.cap 2 O;refine ao O (u7 O O O (by omega) (km 0 a7 O ((a7.eG 2 O).take (l:=a) ha) O O O (by omega) (by omega) O ?_));intro iE iT w9 aW;refine ao O (km 0 aW O (aW.eG 1 O) O O O (by omega) (by omega) O ?_);intro jj qn dt bV;have bV:St w1 dt [aV 37 jj (0+a+ (1+ (outs.length - a))) qn (([]++ (outs.map (·.top)).take a)++ ([X.top]++ (outs.map (·.top)).drop a)),aV 37 A9 (1+ (outs.length - a)) c9 ([X.top]++ (outs.map (·.top)).drop a),aV 37 B7 outs.length c7 (outs.map (·.top)),ax 2 B8 outs.length c8 (outs.map (jI F))]:=bV;have dW:St w1 dt [aV 37 jj (0+a+ (1+ (outs.length - a))) qn (([]++ (outs.map (·.top)).take a)++ ([X.top]++ (outs.map (·.top)).drop a)),ax 2 B8 outs.length c8 (outs.map (jI F))]:=bV.sub (List.Sublist.cons_cons _ ((List.sublist_cons_self _ _).trans (List.sublist_cons_self _ _)));have e1:0+a+ (1+ (outs.length - a))=(iL X outs).length:=by omega
  have e2:([]++ (outs.map (·.top)).take a)++ ([X.top]++ (outs.map (·.top)).drop a)=(iL X outs).map (·.top):=by rw [lg];simp [iL,List.map_take,List.map_drop]
  have e3:([]++ (outs.map (jI F)).take a)++ ([(oj F X.xss:Int)]++ (outs.map (jI F)).drop a)=(iL X outs).map (jI F):=by rw [lg];simp [iL,List.map_take,List.map_drop,jI]
  rw [e1,e2]at dW;refine ao O (fk dW O O O ?_);intro nG dB fU;have fU:St w1 dB [ax 2 nG 1 1 [(oj F X.xss:Int)],aV 37 jj (iL X outs).length qn ((iL X outs).map (·.top)),ax 2 B8 outs.length c8 (outs.map (jI F))]:=fU;have UG:outs.length<=c8/\c8<=maxLen:=fU.cap 2 O;refine ao O (sr O O O (by omega) (fR 0 fU O ((fU.bz 2 O).drop (l:=a) ha UG.1) O O O ?_));intro iF na iO gL;refine ao O (jO gL O ?_);intro oq jK oI;have oI:St w1 jK [ax 2 oq 0 0 [],ax 2 iF (1+ (outs.length - a)) na ([(oj F X.xss:Int)]++ (outs.map (jI F)).drop a),aV 37 jj (iL X outs).length qn ((iL X outs).map (·.top)),ax 2 B8 outs.length c8 (outs.map (jI F))]:=oI;refine ao O (u7 O O O (by omega) (fR 0 oI O ((oI.bz 3 O).take (l:=a) ha) O O O ?_));intro ot qo si nn;refine ao O (fR 0 nn O (nn.bz 1 O) O O O ?_);intro Em ET qT F0;have F0:St w1 qT [ax 2 Em (0+a+ (1+ (outs.length - a))) ET (([]++ (outs.map (jI F)).take a)++ ([(oj F X.xss:Int)]++ (outs.map (jI F)).drop a)),ax 2 iF (1+ (outs.length - a)) na ([(oj F X.xss:Int)]++ (outs.map (jI F)).drop a),aV 37 jj (iL X outs).length qn ((iL X outs).map (·.top)),ax 2 B8 outs.length c8 (outs.map (jI F))]:=F0;have Lp:St w1 qT [ax 2 Em (0+a+ (1+ (outs.length - a))) ET (([]++ (outs.map (jI F)).take a)++ ([(oj F X.xss:Int)]++ (outs.map (jI F)).drop a)),aV 37 jj (iL X outs).length qn ((iL X outs).map (·.top))]:=F0.sub (List.Sublist.cons_cons _ ((List.Sublist.cons_cons _ (List.nil_sublist _)).cons _));rw [e1,e3]at Lp;rw [e1];refine ao O (aL O (aU O (tQ ?_)));exact⟨(i+1,(jj,qn),(Em,ET),iL X outs),by show all.length - (i+1)<all.length - i;omega,(ac4 O),xT Lp.swap⟩
 have cS:i=all.length:=by omega
 subst cS;rw [List.take_length]at rS z6;have jo:outs.map (·.xss)=od n F:=by
  rw [z6,od,wh,pv,<-ct,gg,List.filter_map]
  rfl
 refine bo O (bp (e6 O ?_));refine ZG O O ⟨B7,c7,B8,c8,outs,O,jo,fun m hm=>bq m (MP m hm),?_⟩;have hj:=aA.call aG;refine(hj.sub (?_:List.Sublist ([aV 37 B7 outs.length c7 (outs.map (·.top)),ax 2 B8 outs.length c8 (outs.map (jI F))]++dv 24 2 (gg F all)) _)).perm ?_
 ·exact List.Sublist.append (dA _) ((HR List.filter_sublist).trans (List.sublist_cons_self _ _))
 exact List.Perm.append_left _ (NP rS.symm)
end
end Go.Proofs.YtagdamiiececaaaGreatDoor.Vc
