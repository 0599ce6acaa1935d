/-
 Lemmas. Conditions: as each states them.
-/
import Derived.Test.YtagdamiiececaaaGreatDoorLayb
import Derived.Shelf.SlicesE.Compact
import Derived.Shelf.SlicesE.Delete
import Derived.Test.YtagdamiiececaaaGreatDoorZe
import Derived.Shelf.SortM.SortNone
set_option maxHeartbeats 8000000
namespace Go.Proofs.YtagdamiiececaaaGreatDoor.Vc
open Tryz
section
open Go.RowKit Go.Sort
variable{w w0:aa}{q off o i m b:Nat}{ks:List Ck}{l l' xs:ah}
theorem ON{α:Type}[Inhabited α]{enc:α->ab}{g:Nat}{cur:Array ab}{e:ad}{fr:Nat×Nat}(d:Array α)(hb:w.heap[g]?=some (.cells cur e fr)):(putRow enc (Sort.ahead w q) g off d).heap[g]?=some (.cells (putCells enc off d cur) e fr):=by
 simp [putRow,mapBlock,Sort.ahead,Array.getElem?_modify,hb,onCells]
theorem Nr{α:Type}[Inhabited α]{enc:α->ab}{g:Nat}(d:Array α):u7 w (putRow enc (Sort.ahead w q) g off d) (some g):=by
 refine⟨⟨O,O,O,by simp [Sort.ahead],fun k hk cG=>?_⟩,Nat.le_add_right _ _⟩;have:g≠k:=fun e=>cG (by rw [e])
 simp [putRow,mapBlock,Sort.ahead,Array.getElem?_modify,this]
theorem HE{α:Type}[Inhabited α]{enc:α->ab}{g:Nat}{cur:Array ab}{e:ad}{ds:List α}(hh:w.heap[g]?=some (.cells cur e (0,0)))(hc:∀j,j<ds.length->cur[o+j]?=(ds.map enc)[j]?):Holds enc w g o ds.toArray:=fun j hj=>by
 have eV:j<ds.length:=by simpa using hj
 refine⟨?_,by simp [World.frozen?,hh]⟩;simp only [World.cell?,hh];simp only [Option.isSome_none,Bool.false_eq_true,if_false];rw [hc j eV];simp [eV]
theorem St.laid{α:Type}[Inhabited α]{enc:α->ab}{k:Ck}{g:Nat}{cur:Array ab}{ds:List α}(hS:St w0 w ks)(hk:ks[i]?=some k)(hA:k.A=some ⟨g,o,Option.none⟩)(hg:w0.heap.size<=g)(hh:w.heap[g]?=some (.cells cur k.e (0,0)))(hs:o+k.c<=cur.size)(hm:m<=ds.length)(hd:ds.length<=k.c)(hc:k.c<=maxLen)(OL:∀x,(enc x).oneCell'=true:=by intro _;rfl):
 St w0 (putRow enc (Sort.ahead w q) g o ds.toArray) (ks.set i ⟨k.A,m,k.c,k.e,(ds.take m).map enc⟩):=by
 refine hS.turn hk (by simp [Ck.fw,hA]) (by simp [Ck.fw,hA]) (Nr _) (.mU (qn fun v hv=>by obtain⟨x,_,rfl⟩:=fq.1 hv;exact OL x) ⟨by simp;omega,by show m<=k.c;omega,hc,.inr ⟨g,o,_,hA,hg,ON _ hh,by simp only [putCells,Array.size_mapIdx];exact hs,fun j hj=>?_⟩⟩);have hj:j<m:=hj;show(putCells enc o ds.toArray cur)[o+j]?=((ds.take m).map enc)[j]?;have v8:o+j<cur.size:=by omega
 have Pb:j<ds.length:=by omega
 simp [putCells,v8,Pb,oQ,hj]
def SA(l:ah):Prop:=l.Pairwise (· < ·)
theorem SA.vm(h:SA l):nX l:=h.imp fun h=>by omega
theorem SA.nodup(h:SA l):l.Nodup:=h.imp fun h=>by omega
theorem SA.eq(h:SA l)(h':SA l')(hm:∀x,x∈l↔x∈l'):l=l':=Ly ((List.perm_ext_iff_of_nodup h.nodup h'.nodup).2 hm) h.vm h'.vm
def ig(xs:ah):ah:=Lib.compactUpTo xs.toArray xs.toArray.size
theorem zT(xs:ah)(j:Nat):xs.toArray[j]! =gi xs j:=by
 by_cases h:j<xs.length
 ·rw [bQ h];simp [h]
 have e:gi xs j=0:=by simp [gi,bX,oP (Nat.not_lt.1 h)]
 rw [e,getElem!_neg _ _ (by simpa using h)];rfl
theorem Aj(xs:ah):ig xs=((List.range xs.length).filter fun j:Nat=>decide (j=0\/gi xs j≠gi xs ((j - 1:Nat):Int))).map fun j:Nat=>gi xs j:=by
 unfold ig Lib.compactUpTo;rw [List.size_toArray];have e1:Lib.keeps xs.toArray=fun j:Nat=>decide (j=0\/gi xs j≠gi xs ((j - 1:Nat):Int)):=by
  funext j;unfold Lib.keeps;rw [zT,zT]
 rw [e1];exact ki fun j _=>zT xs j
theorem Fh(xs:ah):(ig xs).length<=xs.length:=by
 rw [Aj,fv];have:=jN (fun j:Nat=>decide (j=0\/gi xs j≠gi xs ((j - 1:Nat):Int))) (List.range xs.length)
 rwa [n3]at this
theorem L8(xs:ah)(x:Int):x∈ig xs↔x∈xs:=by
 rw [Aj,fq];constructor
 ·rintro⟨j,hj,rfl⟩;have:=iI.1 (eO.1 hj).1;rw [bQ this];exact di _
 ·intro hx;obtain⟨j,hj,ov⟩:=fP.1 hx;rw [<-bQ hj]at ov;clear hx
  induction j with
  | zero=>exact⟨0,eO.2 ⟨iI.2 hj,by simp⟩,ov⟩
  | succ j ih=>
   by_cases h:gi xs ((j+1:Nat):Int)=gi xs ((j:Nat):Int)
   ·exact ih (by omega) (h▸ov)
   ·exact⟨j+1,eO.2 ⟨iI.2 hj,by simp only [Nat.add_sub_cancel,jj];exact .inr h⟩,ov⟩
theorem L7(h:nX xs):SA (ig xs):=by
 have mono:∀a b,a<=b->b<xs.length->gi xs a<=gi xs b:=fun a b jD hb=>by
  rw [bQ (by omega),bQ hb]
  by_cases e:a=b
  ·subst e;exact Int.le_refl _
  exact(List.pairwise_iff_getElem.1 h) a b (by omega) hb (by omega)
 rw [Aj];unfold SA;rw [List.pairwise_map];have hr:(List.range xs.length).Pairwise (· < ·):=List.pairwise_lt_range;refine(hr.filter _).imp_of_mem fun {a b} ha hb jD=>?_
 have dT:=iI.1 (eO.1 hb).1;have gK:=kc (eO.1 hb).2;have h1:=mono a (b - 1) (by omega) (by omega);have h2:=mono (b - 1) b (by omega) dT;rcases gK with gK | gK
 ·omega
 omega
def cs(l:ah):ah:=ig (jw l)
theorem Mk(l:ah)(x:Int):x∈cs l↔x∈l:=by rw [cs,L8];exact(Em l).mem_iff
theorem Mj(l:ah):SA (cs l):=L7 (T5 l)
theorem Me(i:Nat){t:ad}{A:ai}{n c:Nat}(hS:St w0 w ks)(hk:ks[i]?=some (aE t A n c xs))(h0:0<n)(hn:n<=1000000000):
 aG prog 131 [.slice A n c] w (fun v w'=>v= .slice A (ig xs).length c/\St w0 w' (ks.set i (aE t A (ig xs).length c (ig xs)))):=by
 obtain⟨h1,h2,h3,h4⟩:=hS.mE hk (nK _);have hl:xs.length=n:=hS.rL i hk;have h2:n<=c:=h2;have h3:c<=maxLen:=h3;rcases h4 with⟨_,ky⟩ | ⟨g,o,cur,hA,hg,hh,hs,hc⟩
 ·have ky:c=0:=ky;omega
 have hA:A=some ⟨g,o,none⟩:=hA;have hs:o+c<=cur.size:=hs;have hc:∀j,j<n->cur[o+j]?=(xs.map (Value.int .i64))[j]?:=hc;subst hA;subst hl;have key:=AnyE.slices_Compact RS (Value.int .i64) (fun _=>O) (EqlAt.intD _ _ .i64) (NeqAt.intD _ _ .i64) (0:Int) (fun w=>zeroValue2 w) g o c xs.toArray w (HE hh hc) (by simp;omega) (by simpa using h2);refine Calls.mono key fun x w' ⟨hx,q,hw⟩=> ⟨_,hx,O,?_⟩
 subst hw;have hle:=Fh xs;have h:=hS.laid (q:=q) (m:=(ig xs).length) (enc:=Value.int .i64) (ds:=ig xs++List.replicate (xs.toArray.size - (ig xs).length) 0) hk O hg hh hs (by simp) (by simp;show _<=c;omega) h3;rw [tA (cO _),List.take_length]at h;exact h
instance:Inhabited aH:=⟨bA⟩
theorem Mu(i:Nat){t:ad}{A:ai}{n c a:Nat}{xs:List aH}(hS:St w0 w ks)(hk:ks[i]?=some (aQ t A n c xs))(h0:0<n)(hn:n<=1000000000)(jD:a<=b)(hb:b<=n):
 aG prog 266 [.slice A n c,aj a,aj b] w (fun v w'=>v= .slice A (n - (b - a)) c/\St w0 w' (ks.set i (aQ t A (n - (b - a)) c (xs.take a++xs.drop b)))):=by
 obtain⟨h1,h2,h3,h4⟩:=hS.mE hk (pj _);have hl:xs.length=n:=(hS.dB i hk).1;have h2:n<=c:=h2;have h3:c<=maxLen:=h3;rcases h4 with⟨_,ky⟩ | ⟨g,o,cur,hA,hg,hh,hs,hc⟩
 ·have ky:c=0:=ky;omega
 have hA:A=some ⟨g,o,none⟩:=hA;have hs:o+c<=cur.size:=hs;have hc:∀j,j<n->cur[o+j]?=(xs.map aH.v)[j]?:=hc;subst hA;subst hl;obtain⟨i0,o6,_,Qo,_⟩:=bL.get prog 24;have key:=AnyE.slices_Delete RU aH.v (fun _=>O) bA (fun w=>zeroValue24 w) i0 o6 Qo g o c a b xs.toArray w (HE hh hc) (by simpa using h2) (by simpa [maxLen]using h3) jD (by simpa using hb);refine Calls.mono key fun x w' ⟨hx,q,hw⟩=> ⟨_,hx,by simp,?_⟩
 subst hw;have h:=hS.laid (q:=q) (m:=xs.length - (b - a)) (enc:=aH.v) (ds:=xs.toArray.toList.take a++xs.toArray.toList.drop b++List.replicate (b - a) bA) hk O hg hh hs (by simp;omega) (by simp;omega) h3;have e1:(xs.toArray.toList.take a++xs.toArray.toList.drop b++List.replicate (b - a) bA).take (xs.length - (b - a))=xs.take a++xs.drop b:=by
  have e2:(xs.take a++xs.drop b).length=xs.length - (b - a):=by simp;omega
  show(xs.take a++xs.drop b++List.replicate (b - a) bA).take _=_;rw [<-e2,tA (cO _),List.take_length]
 rw [e1]at h;exact h
end
section
open Go.RowKit
variable{w w' w0:aa}{ks:List Ck}
theorem Kq(A:ai)(n c:Nat)(rs:List aH)(w:aa)(hR:eU w A n rs)(hn:n<=1000000)(h0:0<n):aG prog 160 [.slice A n c] w (fun v w'=>∃A' c',v= .slice A' n c'/\St w w' [aQ 24 A' n c' rs]):=by
 cases hA:A with
 | none=>
  subst hA;obtain⟨p,hp,_⟩:=hR.2 0 h0;simp [az]at hp
 | some a=>
  subst hA;refine bs func160 O ntmps160 O (bF O) (aY O (va O O O (aA O (Cd.dO O (aC O (ic (St.refl w) O ?_))))));intro A1 w1 aD;have aD:St w w1 [aQ 24 A1 0 0 []]:=aD;refine aq O (iU 0 aD O (aD.wP hR) O O O (by omega) (by omega) O ?_);intro A2 c2 w2 ay;rw [Nat.zero_add]at ay|-;refine bW O (dH O ?_);exact⟨A2,c2,O,ay⟩
theorem Ux(Ab A:ai)(n c:Nat)(rs:List aH)(xss:ag)(i:Nat)(w:aa)(hB:Rd w Ab 1 (fun _=> .slice A n c))(hR:bu w A n rs xss)(hn:n<=1000)(hi:i<n):
 aG prog 212 [.pointer Ab,aj i] w (fun v w'=>∃A' c',v= .slice A' (n - 1) c'/\St w w' [aQ 24 A' (n - 1) c' (rs.eraseIdx i)]):=by
 refine bs func212 O ntmps212 O (bF O) (aY O ?_);refine eT hB (by decide) O O (aT hB O (a7 hB O (aO (Kq A n c rs _ hR.top (by omega) (by omega)) O ?_)));rintro _ w1 ⟨A1,c1,rfl,aD⟩;refine aq O (aI O ?_);have vU:((i:Int)+1)=((i+1:Nat):Int):=by omega
 rw [vU];refine aO (Mu 0 aD O (by omega) (by omega) (show i<=i+1 by omega) (by omega)) O ?_;rintro _ w2 ⟨rfl,ay⟩;refine bW O (dH O ?_);have e:n - (i+1 - i)=n - 1:=by omega
 rw [e];rw [e,<-List.eraseIdx_eq_take_drop_succ]at ay;exact⟨A1,c1,O,ay⟩
theorem FD(Ab A:ai)(n c:Nat)(rs:List aH)(xss:ag)(i:Nat)(w:aa)(hB:Rd w Ab 1 (fun _=> .slice A n c))(hR:bu w A n rs xss)(hM:bN xss)(hi:i<n):
 aG prog 156 [.pointer Ab,aj i] w (fun v w'=>∃A',v= .tuple #[.slice A' (gl xss 0).length (gl xss 0).length,aj (iz xss i)]/\St w w' [aE 2 A' (gl xss 0).length (gl xss 0).length (de xss i)]):=by
 have hl:=hR.len;have h1:=hM.1;have h2:=hM.2.1;have e0:(rg rs 0).n=(gl xss 0).length:=(hR.jv (by omega) (by omega)).symm;refine bs func156 O ntmps156 O (mV O) (aY O (aO (qS Ab A n c rs xss _ w hB O hR (by omega)) O ?_));rintro _ w ⟨rfl,rfl⟩;rw [e0];refine aq O (aO (Ux Ab A n c rs xss i _ hB hR (by omega) hi) O ?_);rintro _ w1 ⟨A1,c1,rfl,aD⟩;refine aO (Jp A1 (n - 1) c1 (rs.eraseIdx i) (xss.eraseIdx i) (gl xss 0).length _ ((aD.bE hR).erase hi (aD.dB 0 O)) (by omega) (hM.2.2.1.sys.erase i) (hM.2.2.1.inj.erase i) (by omega)) O ?_;rintro _ w2 ⟨A2,rfl,ax⟩;have ay:=aD.call ax;refine bW O (qy O O ?_);exact⟨A2,O,ay.sub (List.Sublist.cons_cons _ (List.nil_sublist _))⟩
theorem Ef{t:ad}:∀ {rs:List aH} {xss:ag} {i:Nat} {s:aH} {xs:ah},rs.length=xss.length->(cw t rs xss).set i (aE t s.a s.n s.c xs)=cw t (rs.set i s) (xss.set i xs)
 | [],[],_,_,_,_=>rfl
 | [],_::_,_,_,_,h=>by simp at h
 | _::_,[],_,_,_,h=>by simp at h
 | r::rs,x::xss,0,s,xs,_=>rfl
 | r::rs,x::xss,i+1,s,xs,h=>by
  have:=Ef (t:=t) (rs:=rs) (xss:=xss) (i:=i) (s:=s) (xs:=xs) (by simpa using h);simpa [cw]using this
theorem wO{w0 w:aa}{t:ad}:∀(n:Nat) {ks:List Ck},St w0 w ks->St w0 w (ks++cw t (List.replicate n bA) (List.replicate n []))
 | 0,ks,h=>by show St w0 w (ks++ []);rwa [eG]
 | n+1,ks,h=>by
  have h1:=wO (t:=t) n h;have h2:=h1.nil t;exact h2.perm (pB.symm)
def zX(Vl El:ah)(m:Nat):Nat->ag
 | 0=>List.replicate m []
 | f+1=> (zX Vl El m f).set (gi El f).toNat (gl (zX Vl El m f) (gi El f)++ [gi Vl f])
def ends(Vl El:ah)(m f:Nat):ag:=(zX Vl El m f).map cs
def xh(L:ag)(K:Int)(w:aa)(v:ab)(w':aa):Prop:=∃A' c' rs',v= .tuple #[.slice A' L.length c',aj K]/\rs'.length=L.length/\St w w' (aW 24 2 A' L.length c' rs' L++ [])
theorem xh.none{K:Int}(h:St w w' ks):xh [] K w (.tuple #[.slice Option.none 0 0,aj K]) w':=⟨Option.none,0,[],rfl,rfl,h.none.nil _⟩
def iN(B:ag)(e:Nat):ag:=(B.take e).map cs++B.drop e
theorem Sp(B:ag)(e:Nat):(iN B e).length=B.length:=by simp [iN];omega
theorem Sr(B:ag):iN B 0=B:=by simp [iN]
theorem Sm(B:ag):iN B B.length=B.map cs:=by simp [iN]
theorem Sn{B:ag}{e:Nat}(h:e<B.length):gl (iN B e) e=gl B e:=by
 simp only [gl,iN,eH,bX];rw [mq (by simp;omega)];simp [Nat.min_eq_left (Nat.le_of_lt h)]
theorem Sq{B:ag}{e:Nat}(h:e<B.length):(iN B e).set e (cs (gl B e))=iN B (e+1):=by
 rw [cQ h];unfold iN;rw [List.set_append_right _ _ (by simp;omega),gk h,iT,fB];have e1:e - ((B.take e).map cs).length=0:=by simp;omega
 rw [e1,List.drop_eq_getElem_cons h]
 rfl
theorem TY(i:Nat){t:ad}{A:ai}{n c:Nat}{xs:ah}(hS:St w0 w ks)(hk:ks[i]?=some (aE t A n c xs))(hn:n<=1000000000):
 aG prog 130 [.slice A n c] w (fun v w'=>v= .tuple #[]/\St w0 w' (ks.set i (aE t A n c (jw xs)))):=by
 by_cases h0:0<n
 ·exact T1 i hS hk h0 hn
 obtain rfl:n=0:=by omega
 have eW:=hS.rL i hk;obtain rfl:=nZ eW;refine Calls.mono (AnyM.slices_Sort_int_none IU A c w) fun x w' ⟨hx,hw⟩=> ⟨_,hx,O,?_⟩
 subst hw;have e:jw []=[]:=nZ (Em []).length_eq;rw [e,xb hk];exact hS
theorem Md(i:Nat){t:ad}{A:ai}{n c:Nat}{xs:ah}(hS:St w0 w ks)(hk:ks[i]?=some (aE t A n c xs))(hn:n<=1000000000):
 aG prog 131 [.slice A n c] w (fun v w'=>v= .slice A (ig xs).length c/\St w0 w' (ks.set i (aE t A (ig xs).length c (ig xs)))):=by
 by_cases h0:0<n
 ·exact Me i hS hk h0 hn
 obtain rfl:n=0:=by omega
 have eW:=hS.rL i hk;obtain rfl:=nZ eW;have e:ig []=[]:=nZ (Nat.le_zero.1 (Fh []));rw [e];refine bs func131 O ntmps131 O (bF O) ?_;refine aY O (aR O O (aA O ?_));refine zB O (by decide) (bV O (dH O ?_));exact⟨O,by rw [show([]:ah).length=0 from O,xb hk];exact hS⟩
theorem IZ{t1 t2:ad}{A:ai}{n c:Nat}{rs:List aH}{xss:ag}(h:rs.length=xss.length):(aW t1 t2 A n c rs xss).length=rs.length+1:=by simp [aW,tl h]
end
section
variable{l B M:ag}{i k j:Nat}{p b R:ah}{x y d u:Int}
theorem Iz{N:Nat}{xss:ag}(hs:Sys N xss)(bP:ml N xss){x y:Int}(h0:0<=x)(h1:x<N)(hr:Reach xss x y):∀i,i<=N->gi (bq N xss i).1 x=gi (bq N xss i).1 y
 | 0,_=>by
  have hy:=hr.range hs h0 h1;simp only [bq,qV h0 h1,qV hy.1 hy.2]
 | i+1,hi=>by
  have hy:=hr.range hs h0 h1;have ih:=Iz hs bP h0 h1 hr i (by omega);have ho:=qv hs (pt:=(i:Int)) (by omega) (by omega);simp only [bq]
  split
  ·exact ih
  ·simp only;rw [qU _ _ _ (lE N xss i) ho.1.range x h0,qU _ _ _ (lE N xss i) ho.1.range y hy.1];have hm:x∈cK N xss i↔y∈cK N xss i:=by
    rw [ho.2.2,ho.2.2];exact⟨fun h=>h.trans hr,fun h=>h.trans (hr.symm hs bP h0 h1)⟩
   by_cases h:x∈cK N xss i
   ·rw [aF h,aF (hm.1 h)]
   ·rw [aB h,aB (fun h'=>h (hm.2 h')),ih]
theorem Iy{N:Nat}{xss:ag}(hs:Sys N xss)(bP:ml N xss){x y:Int}(h0:0<=x)(h1:x<N)(h2:0<=y)(h3:y<N):∀i,i<=N->gi (bq N xss i).1 x=gi (bq N xss i).1 y->0<=gi (bq N xss i).1 x->Reach xss x y
 | 0,_,_,h=>by simp only [bq,qV h0 h1]at h;omega
 | i+1,hi,he,hp=>by
  have ih:=Iy hs bP h0 h1 h2 h3 i (by omega);have ho:=qv hs (pt:=(i:Int)) (by omega) (by omega);have hc:=rK N xss i;have hx:=(wH hs bP i (by omega)).1 x h0 h1;have hy:=(wH hs bP i (by omega)).1 y h2 h3;simp only [bq]at he hp
  split at he
  ·rename_i hl;rw [aF hl]at hp;exact ih he hp
  ·rename_i hl;rw [aB hl]at hp;simp only at he hp;rw [qU _ _ _ (lE N xss i) ho.1.range x h0]at he hp;rw [qU _ _ _ (lE N xss i) ho.1.range y h2]at he
   by_cases oA:x∈cK N xss i
   ·rw [aF oA]at he
    by_cases wF:y∈cK N xss i
    ·exact(((ho.2.2 x).1 oA).symm hs bP (by omega) (by omega)).trans ((ho.2.2 y).1 wF)
    ·rw [aB wF]at he;omega
   ·rw [aB oA]at he hp
    by_cases wF:y∈cK N xss i
    ·rw [aF wF]at he;omega
    ·rw [aB wF]at he;exact ih he hp
theorem MK{xss:ag}(hk:k<xss.length)(cG:k≠i):gl xss k∈xss.eraseIdx i:=by
 rw [List.mem_eraseIdx_iff_getElem];exact⟨k,hk,cG,by rw [cQ hk]⟩
theorem ML{xss:ag}(h:p∈xss.eraseIdx i):∃k:Nat,k<xss.length/\k≠i/\p=gl xss k:=by
 rw [List.mem_eraseIdx_iff_getElem]at h;obtain⟨k,hk,cG,rfl⟩:=h;exact⟨k,hk,cG,by rw [cQ hk]⟩
theorem FE{xss:ag}(hM:bN xss)(hk:k<xss.length)(cG:k≠i){f:Int}(h0:0<=f)(h1:f< (gl xss 0).length):gi (de xss i) (gi (gl xss k) f)=gi (de xss i) f:=(Iz (hM.2.2.1.sys.erase i) (hM.2.2.1.inj.erase i) h0 h1 (.step .refl (MK hk cG)) _ (cO _)).symm
theorem MS{xss:ag}(hM:bN xss){f g:Int}(h0:0<=f)(h1:f< (gl xss 0).length)(h2:0<=g)(h3:g< (gl xss 0).length)(h:gi (de xss i) f=gi (de xss i) g):Reach (xss.eraseIdx i) f g:=by
 obtain⟨k,rfl⟩:∃k:Nat,f=k:=⟨f.toNat,by omega⟩;exact Iy (hM.2.2.1.sys.erase i) (hM.2.2.1.inj.erase i) h0 h1 h2 h3 _ (cO _) h (vw hM i k (by omega)).1
theorem bN.two{xss:ag}(hM:bN xss)(hk:k<xss.length){f:Int}(h0:0<=f)(h1:f< (gl xss 0).length):gi (gl xss k) (gi (gl xss k) f)=f:=by
 obtain⟨q,rfl⟩:∃q:Nat,f=q:=⟨f.toNat,by omega⟩;have hr:=hM.2.2.1.at_ hk;exact(hr.2.2 q (by omega)).2
theorem bN.rJ{xss:ag}(hM:bN xss)(hk:k<xss.length){f:Int}(h0:0<=f)(h1:f< (gl xss 0).length):0<=gi (gl xss k) f/\gi (gl xss k) f< (gl xss 0).length:=(hM.2.2.1.sys _ (by rw [cQ hk];exact di _)).2 f h0 h1
theorem bN.comm{xss:ag}(hM:bN xss)(hi:i<xss.length)(hk:k<xss.length)(fK:i+2<=k){f:Int}(h0:0<=f)(h1:f< (gl xss 0).length):gi (gl xss k) (gi (gl xss i) f)=gi (gl xss i) (gi (gl xss k) f):=by
 obtain⟨q,rfl⟩:∃q:Nat,f=q:=⟨f.toNat,by omega⟩;exact(hM.2.2.2.1 i hi k hk fK q (by omega)).1
def LT(a b:ah):Prop:=eo a b<0
instance (a b:ah):Decidable (LT a b):=by unfold LT;infer_instance
theorem LT.ne{a:ah}(h:LT a b):a≠b:=fun e=>by
 unfold LT at h;rw [rM.2 e]at h;omega
def SL(l:ag):Prop:=l.Pairwise LT
theorem SL.nodup(h:SL l):l.Nodup:=h.imp fun h=>h.ne
def Ins(a b:ah):Prop:=∀x∈a,x∈b
instance (a b:ah):Decidable (Ins a b):=by unfold Ins;infer_instance
theorem EA{a:ah}:LT (x::a) (y::b)↔x<y\/x=y/\LT a b:=by
 unfold LT;rw [eo]
 by_cases e:x=y
 ·subst e;rw [aF (qP.2 rfl)];constructor
  ·exact fun h=> .inr ⟨O,h⟩
  rintro(h | h)
  ·omega
  exact h.2
 rw [aB (fun h=>e (qP.1 h)),vp];constructor
 ·exact fun h=> .inl h
 rintro(h | h)
 ·exact h
 exact absurd h.1 e
def EB(ls:ag)(x:ah):Prop:=x∈ls/\x≠[]/\∀y∈ls,Ins x y->y=x
instance (ls:ag)(x:ah):Decidable (EB ls x):=by unfold EB;infer_instance
def zV(x:ah):ag->Nat
 | []=>0
 | y::l=>if LT y x then zV x l+1 else 0
def Tq(l:ag)(x:ah):ag:=if x∈l then l else l.take (zV x l)++x::l.drop (zV x l)
def JF(ls:ag):ag:=(ls.filter fun l=>decide (l≠[])).foldl Tq []
def MO(ls:ag):ag:=(JF ls).filter fun x=>decide (∀y∈JF ls,Ins x y->y=x)
def ix(s:ah)(x:Int):Int:=(s.idxOf x:Nat)
def Mp(ss:ag):ah:=cs ss.flatten
def Ev(ss:ag):Prop:=(∃l∈ss,6<l.length)\/60< (Mp ss).length\/400< (MO ss).length
instance (ss:ag):Decidable (Ev ss):=by unfold Ev;infer_instance
def cL(n:Nat):ah:=(List.range n).map fun k:Nat=> (k:Int)
theorem TD(n:Nat):(cL n).length=n:=by simp [cL]
theorem tk(n:Nat)(x:Int):x∈cL n↔0<=x/\x<n:=by
 simp only [cL,fq,iI];exact⟨fun⟨k,hk,e⟩=>by omega,fun h=> ⟨x.toNat,by omega,by omega⟩⟩
theorem qz(n:Nat):SA (cL n):=by
 unfold SA cL;rw [List.pairwise_map];exact List.pairwise_lt_range.imp fun h=>by omega
theorem xL(x:Int)(l:ah)(i:Nat):gi (x::l) ((i+1:Nat):Int)=gi l (i:Nat):=by simp [gi]
theorem SA.rN{l:ah}(h:SA l)(rp:i<j)(hj:j<l.length):gi l i<gi l j:=by
 rw [bQ (by omega),bQ hj];exact List.pairwise_iff_getElem.1 h i j (by omega) hj rp
def gO(R:ah)(B:ag)(e:Int):ah:=(cL R.length).filter fun f=>decide (gi R f=gi R e+1/\e∈gl B f)
theorem kI{e f:Int}:f∈gO R B e↔(0<=f/\f<R.length)/\gi R f=gi R e+1/\e∈gl B f:=by
 unfold gO;rw [eO,tk,jj]
theorem xe(R:ah)(B:ag)(e:Int):SA (gO R B e):=lL _ (qz _)
def km(R:ah)(B:ag):Nat->Int->ag
 | 0,_=> [[]]
 | k+1,e=> (gO R B e).flatMap fun f=> (km R B k f).map (f:: ·)
def pH(R:ah):ah:=(cL R.length).filter fun e=>decide (gi R e=0)
theorem sg{e:Int}:e∈pH R↔(0<=e/\e<R.length)/\gi R e=0:=by
 unfold pH;rw [eO,tk,jj]
def bZ(n:Nat)(R:ah)(B:ag):ag:=(pH R).flatMap fun e=> (km R B (n - 1) e).map (e:: ·)
def cI(n:Nat)(R:ah)(B:ag)(e:Int):Prop:=km R B (n - 1 - (gi R e).toNat) e≠[]
instance (n:Nat)(R:ah)(B:ag)(e:Int):Decidable (cI n R B e):=by unfold cI;infer_instance
theorem EW{n:Nat}{e:Int}(h:gi R e=(n:Int) - 1):cI n R B e:=by
 unfold cI;rw [show n - 1 - (gi R e).toNat=0 by omega];simp [km]
theorem xu{n:Nat}{e:Int}(h0:0<=gi R e)(h1:gi R e< (n:Int) - 1):cI n R B e↔∃f∈gO R B e,cI n R B f:=by
 obtain⟨k,hk⟩:∃k,n - 1 - (gi R e).toNat=k+1:=⟨n - 1 - (gi R e).toNat - 1,by omega⟩;have hf:∀f∈gO R B e,n - 1 - (gi R f).toNat=k:=fun f hf=>by
  have:=(kI.1 hf).2.1;omega
 unfold cI;rw [hk,km];constructor
 ·intro h;obtain⟨x,hx⟩:=List.exists_mem_of_ne_nil _ h;obtain⟨f,pW,hx⟩:=List.mem_flatMap.1 hx;obtain⟨y,hy,_⟩:=fq.1 hx;exact⟨f,pW,by rw [hf f pW];exact List.ne_nil_of_mem hy⟩
 rintro⟨f,pW,h⟩;rw [hf f pW]at h;obtain⟨y,hy⟩:=List.exists_mem_of_ne_nil _ h;exact List.ne_nil_of_mem (List.mem_flatMap.2 ⟨f,pW,fq.2 ⟨y,hy,O⟩⟩)
theorem AO{α β:Type}{p:α->Bool}{g:α->List β}:∀ {l:List α},(∀x∈l,p x=false->g x=[])->(l.filter p).flatMap g=l.flatMap g
 | [],_=>rfl
 | a::r,h=>by
  have ih:=AO (p:=p) (g:=g) (l:=r) fun x hx=>h x (n4 _ hx)
  cases hp:p a with
  | true=>rw [List.filter_cons_of_pos hp,List.flatMap_cons,List.flatMap_cons,ih]
  | false=>rw [List.filter_cons_of_neg (by simp [hp]),List.flatMap_cons,ih,h a (by simp) hp];rfl
theorem Kg{n:Nat}{e:Int}(h0:0<=gi R e)(hk:(gi R e).toNat+ (k+1)=n - 1):km R B (k+1) e=((gO R B e).filter fun f=>decide (cI n R B f)).flatMap fun f=> (km R B k f).map (f:: ·):=by
 rw [km,AO];intro f hf h;have h2:=(kI.1 hf).2.1;have h3:¬cI n R B f:=by simpa using h
 unfold cI at h3;rw [show n - 1 - (gi R f).toNat=k by omega]at h3;rw [fp.1 h3];rfl
theorem E9{n:Nat}:bZ n R B=((pH R).filter fun f=>decide (cI n R B f)).flatMap fun e=> (km R B (n - 1) e).map (e:: ·):=by
 rw [bZ,AO];intro f hf h;have h2:=(sg.1 hf).2;have h3:¬cI n R B f:=by simpa using h
 unfold cI at h3;rw [h2]at h3;rw [show n - 1 - (0:Int).toNat=n - 1 by rfl]at h3;rw [fp.1 h3];rfl
def cap(l:ag):ag:=l.take 401
theorem Ah(l:ag):(cap l).length<=401:=by unfold cap;rw [List.length_take];omega
theorem xy(m:ag)(h:400< (cap l).length):cap (l++m)=cap l:=by
 unfold cap at h|-;rw [kM]at h;rw [tA (by omega)]
theorem Fb(h:(cap l).length<=400):cap l=l:=by
 unfold cap at h|-;rw [kM]at h;exact eI (by omega)
theorem Ae:(cap l).length<=400↔l.length<=400:=by
 unfold cap;rw [kM];omega
theorem LU(x:ah)(h:(cap l).length<=400):cap (l++ [x])=cap l++ [x]:=by
 rw [Fb h];rw [Ae]at h;unfold cap;exact eI (by rw [dS,List.length_singleton];omega)
def u3(R:ah)(B:ag):Int->ah->Prop
 | _,[]=>True
 | e,f::r=>f∈gO R B e/\u3 R B f r
theorem xD{R:ah}{B:ag}:∀ {k:Nat} {e:Int} {x:ah},x∈km R B k e↔x.length=k/\u3 R B e x
 | 0,e,x=>by
  rw [km,fQ];constructor
  ·rintro rfl;exact⟨rfl,av⟩
  ·exact fun h=>nZ h.1
 | k+1,e,x=>by
  rw [km,List.mem_flatMap];constructor
  ·rintro⟨f,hf,h⟩;obtain⟨y,hy,rfl⟩:=fq.1 h;obtain⟨h1,h2⟩:=xD.1 hy;exact⟨by rw [List.length_cons,h1],hf,h2⟩
  ·rintro⟨h1,h2⟩
   match x,h1,h2 with
   | f::r,h1,⟨h2,h3⟩=>exact⟨f,h2,fq.2 ⟨r,xD.2 ⟨by simpa using h1,h3⟩,rfl⟩⟩
theorem zC{R:ah}{B:ag}:∀ {x:ah} {e:Int},u3 R B e x↔∀i:Nat,i<x.length->gi (e::x) ((i+1:Nat):Int)∈gO R B (gi (e::x) i)
 | [],e=>by simp [u3]
 | f::r,e=>by
  rw [u3,zC (x:=r) (e:=f)];constructor
  ·rintro⟨h1,h2⟩ i hi
   match i with
   | 0=>exact h1
   | i+1=>
    rw [xL,xL];exact h2 i (by simpa using hi)
  ·intro h;refine⟨h 0 (by simp),fun i hi=>?_⟩;have:=h (i+1) (by simpa using hi)
   rwa [xL,xL]at this
theorem MX{n:Nat}(hn:1<=n){x:ah}:x∈bZ n R B↔x.length=n/\(∀i:Nat,i<n->(0<=gi x i/\gi x i<R.length)/\gi R (gi x i)=i)/\∀i:Nat,i+1<n->gi x i∈gl B (gi x ((i+1:Nat):Int)):=by
 unfold bZ;rw [List.mem_flatMap];constructor
 ·rintro⟨e,he,h⟩;obtain⟨y,hy,rfl⟩:=fq.1 h;obtain⟨h1,h2⟩:=xD.1 hy;obtain⟨h3,h4⟩:=sg.1 he;rw [zC]at h2;have key:∀i:Nat,i<n->(0<=gi (e::y) i/\gi (e::y) i<R.length)/\gi R (gi (e::y) i)=i:=by
   intro i
   induction i with
   | zero=>intro _;exact⟨h3,h4⟩
   | succ i ih=>
    intro hi;have h5:=kI.1 (h2 i (by omega));have h6:=ih (by omega);exact⟨h5.1,by rw [h5.2.1,h6.2];omega⟩
  exact⟨by rw [List.length_cons,h1];omega,key,fun i hi=> (kI.1 (h2 i (by omega))).2.2⟩
 ·rintro⟨h1,h2,h3⟩
  match x,h1,h2,h3 with
  | [],h1,_,_=>simp at h1;omega
  | e::y,h1,h2,h3=>
   rw [List.length_cons]at h1;refine⟨e,sg.2 (h2 0 (by omega)),fq.2 ⟨y,xD.2 ⟨by omega,zC.2 fun i hi=>?_⟩,O⟩⟩;have h4:=h2 (i+1) (by omega);have h5:=h2 i (by omega);exact kI.2 ⟨h4.1,by rw [h4.2,h5.2];omega,h3 i (by omega)⟩
theorem zN{g:Int->ag}(hg:∀f,SL (g f)):∀ {l:ah},SA l->SL (l.flatMap fun f=> (g f).map (f:: ·))
 | [],_=>List.Pairwise.nil
 | a::l,h=>by
  obtain⟨h1,h2⟩:=List.pairwise_cons.1 h;rw [List.flatMap_cons,SL,List.pairwise_append];refine⟨List.pairwise_map.2 ((hg a).imp fun h=>EA.2 (.inr ⟨O,h⟩)),zN hg h2,fun x hx y hy=>?_⟩;obtain⟨u,_,rfl⟩:=fq.1 hx;obtain⟨b,hb,hy⟩:=List.mem_flatMap.1 hy;obtain⟨v,_,rfl⟩:=fq.1 hy;exact EA.2 (.inl (h1 b hb))
theorem FC(R:ah)(B:ag):∀(k:Nat) (e:Int),SL (km R B k e)
 | 0,_=>by simp [km,SL]
 | k+1,e=>zN (FC R B k) (xe R B e)
theorem FK(n:Nat)(R:ah)(B:ag):SL (bZ n R B):=zN (FC R B (n - 1)) (lL _ (qz _))
structure gf(n:Int)(R:ah)(B:ag):Prop where
 n1:1<=n/\n<=5
 qL:R.length<=500
 len:B.length=R.length
 jK:∀x∈R,0<=x/\x<=n - 1
 vm:nX R
 row:∀e:Nat,e<R.length->SA (gl B e)/\∀d∈gl B e,(0<=d/\d<R.length)/\gi R d<gi R e
 tr:∀e:Nat,e<R.length->∀d∈gl B e,∀c∈gl B d,c∈gl B e
theorem nX.le(h:nX R)(rp:i<=j)(hj:j<R.length):gi R i<=gi R j:=by
 rcases Nat.lt_or_eq_of_le rp with h1 | rfl
 ·rw [bQ (by omega),bQ hj];exact List.pairwise_iff_getElem.1 h i j (by omega) hj h1
 exact Int.le_refl _
theorem gf.at_{n:Int}(h:gf n R B){e:Int}(h0:0<=e)(h1:e<R.length):SA (gl B e)/\(∀d∈gl B e,(0<=d/\d<e)/\gi R d<gi R e)/\∀d∈gl B e,∀c∈gl B d,c∈gl B e:=by
 obtain⟨k,rfl⟩:∃k:Nat,e=k:=⟨e.toNat,by omega⟩;have hr:=h.row k (by omega);refine⟨hr.1,fun d hd=>?_,h.tr k (by omega)⟩;have h2:=hr.2 d hd;obtain⟨j,rfl⟩:∃j:Nat,d=j:=⟨d.toNat,by omega⟩;refine⟨⟨by omega,?_⟩,h2.2⟩;refine Int.not_le.1 fun hle=>?_
 have:=h.vm.le (i:=k) (j:=j) (by omega) (by omega);omega
theorem gf.ri{n:Int}(h:gf n R B){e:Int}(h0:0<=e)(h1:e<R.length):0<=gi R e/\gi R e<=n - 1:=by
 obtain⟨k,rfl⟩:∃k:Nat,e=k:=⟨e.toNat,by omega⟩;exact h.jK _ (gi_in (by omega))
def aX(M:ag):Nat->Nat
 | 0=>0
 | i+1=>aX M i+ (iz M i).toNat
def b5(M:ag):Nat->ah
 | 0=> []
 | i+1=>b5 M i++List.replicate (iz M i).toNat (i:Int)
theorem tV(M:ag):∀i,(b5 M i).length=aX M i
 | 0=>rfl
 | i+1=>by rw [b5,dS,tV M i,List.length_replicate];rfl
def dG(M:ag)(i:Nat)(f:Nat):Int:=(aX M i:Int)+gi (de M i) f
theorem kF(M:ag)(h:i<=j):aX M i<=aX M j:=by
 induction h with
 | refl=>exact cO _
 | step _ ih=>exact gm ih (by show _<=aX M _+_;omega)
theorem lS(hM:bN M){f:Nat}(hf:f< (gl M 0).length):(aX M i:Int)<=dG M i f/\dG M i f< (aX M (i+1):Int):=by
 have h1:=vw hM i f hf;unfold dG;show _/\_< ((aX M i+ (iz M i).toNat:Nat):Int);omega
theorem FU{n:Nat}:∀ {i:Nat},i<n->∀ {e:Int},(aX M i:Int)<=e->e< (aX M (i+1):Int)->gi (b5 M n) e=i:=by
 induction n with
 | zero=>intro i hi;omega
 | succ n ih=>
  intro i hi e h0 h1;obtain⟨k,rfl⟩:∃k:Nat,e=k:=⟨e.toNat,by omega⟩;have hl:=tV M n
  by_cases h:i=n
  ·subst h;rw [b5,gi,bX,mq (by rw [hl];omega),List.getElem?_replicate,aF]
   ·rfl
   ·have:aX M (i+1)=aX M i+ (iz M i).toNat:=O;rw [hl];omega
  ·have h3:=kF M (show i+1<=n by omega);have h2:=ih (show i<n by omega) h0 h1;rw [b5,gi,bX,mo (by rw [hl];omega),<-bX];exact h2
theorem FT(M:ag):∀n,nX (b5 M n)/\∀x∈b5 M n,0<=x/\x< (n:Int)
 | 0=> ⟨List.Pairwise.nil,fun x hx=>by cases hx⟩
 | n+1=>by
  obtain⟨h1,h2⟩:=FT M n;refine⟨?_,fun x hx=>?_⟩
  ·rw [b5,nX,List.pairwise_append];refine⟨h1,List.pairwise_replicate.2 (.inr (Int.le_refl _)),fun x hx y hy=>?_⟩;have:=h2 x hx;have:=(List.mem_replicate.1 hy).2;omega
  ·rw [b5]at hx;rcases gQ.1 hx with h | h
   ·have:=h2 x h;omega
   ·have:=(List.mem_replicate.1 h).2;omega
def py(M:ag)(d e:Int):Prop:=∃f:Nat,f< (gl M 0).length/\∃i:Nat,i<M.length/\∃k:Nat,k<i/\e=dG M i f/\d=dG M k f
open Classical in
noncomputable def bY(M:ag):ag:=(cL (aX M M.length)).map fun e=> (cL (aX M M.length)).filter fun d=>decide (py M d e)
theorem qT(M:ag):(bY M).length=aX M M.length:=by simp [bY,cL]
theorem om{e:Int}(h0:0<=e)(h1:e< (aX M M.length:Int))(d:Int):d∈gl (bY M) e↔(0<=d/\d< (aX M M.length:Int))/\py M d e:=by
 obtain⟨k,rfl⟩:∃k:Nat,e=k:=⟨e.toNat,by omega⟩;rw [cQ (by rw [qT];omega)];unfold bY;rw [List.getElem_map,eO,tk];have:(cL (aX M M.length))[k]'(by rw [TD];omega)=(k:Int):=by simp [cL]
 rw [this];exact and_congr Iff.rfl (by simp)
theorem py.jK(hM:bN M){e:Int}(h:py M d e):(0<=d/\d< (aX M M.length:Int))/\(0<=e/\e< (aX M M.length:Int))/\gi (b5 M M.length) d<gi (b5 M M.length) e:=by
 obtain⟨f,hf,i,hi,k,hk,rfl,rfl⟩:=h;have h1:=lS hM (i:=i) hf;have h2:=lS hM (i:=k) hf;have h3:=kF M (show i+1<=M.length by omega);have h4:=kF M (show k+1<=M.length by omega);refine⟨by omega,by omega,?_⟩;rw [FU hi h1.1 h1.2,FU (show k<M.length by omega) h2.1 h2.2];omega
theorem J4(h:p∈M.take j):∃k:Nat,k<j/\k<M.length/\p=gl M k:=by
 obtain⟨k,hk,rfl⟩:=fP.1 h;rw [kM]at hk;exact⟨k,by omega,by omega,by rw [List.getElem_take,cQ (by omega)]⟩
theorem IP(hM:bN M)(j:Nat):Sys (gl M 0).length (M.take j):=fun p hp=>hM.2.2.1.sys p (List.mem_of_mem_take hp)
theorem R5(hM:bN M)(h0:0<=y)(h1:y< (gl M 0).length)(h:Reach (M.take j) y u):∀i:Nat,j<=i->gi (de M i) u=gi (de M i) y:=by
 induction h with
 | refl=>exact fun _ _=>rfl
 | step h hp ih=>
  intro i hi;have hr:=h.range (IP hM j) h0 h1;obtain⟨k,Hq,hk,rfl⟩:=J4 hp;rw [FE hM hk (by omega) hr.1 hr.2,ih i hi]
theorem R4(hM:bN M)(rq:j<k)(hk:k<M.length)(h0:0<=y)(h1:y< (gl M 0).length)(h:Reach (M.take j) y u):Reach (M.take j) (gi (gl M k) y) (gi (gl M k) u):=by
 induction h with
 | refl=>exact .refl
 | step h hp ih=>
  have hr:=h.range (IP hM j) h0 h1;obtain⟨i,rp,hi,rfl⟩:=J4 hp;rw [hM.comm hi hk (by omega) hr.1 hr.2];exact .step ih hp
theorem T4(hM:bN M){f:Int}(h0:0<=f)(h1:f< (gl M 0).length){g:Int}(h:Reach (M.eraseIdx j) f g):
 ∃u:Int,(0<=u/\u< (gl M 0).length)/\(∀i:Nat,i<=j->gi (de M i) u=gi (de M i) f)/\∀i:Nat,j<=i->gi (de M i) u=gi (de M i) g:=by
 have key:∃u:Int,(0<=u/\u< (gl M 0).length)/\(∀i:Nat,i<=j->gi (de M i) u=gi (de M i) f)/\Reach (M.take j) g u:=by
  induction h with
  | refl=>exact⟨f,⟨h0,h1⟩,fun _ _=>rfl,.refl⟩
  | step h hp ih=>
   rename_i y p;obtain⟨u,hu,en,hr⟩:=ih;have mQ:=h.range (hM.2.2.1.sys.erase j) h0 h1;obtain⟨k,hk,Hq,rfl⟩:=ML hp;rcases Nat.lt_or_gt_of_ne Hq with cW | yl
   ·refine⟨u,hu,en,?_⟩;have hm:gl M k∈M.take j:=by
     rw [fP];exact⟨k,by rw [kM];omega,by rw [List.getElem_take,cQ hk]⟩
    have h2:Reach (M.take j) (gi (gl M k) y) (gi (gl M k) (gi (gl M k) y)):= .step .refl hm;rw [hM.two hk mQ.1 mQ.2]at h2;exact h2.trans hr
   ·refine⟨gi (gl M k) u,hM.rJ hk hu.1 hu.2,fun i hi=>?_,R4 hM yl hk mQ.1 mQ.2 hr⟩;rw [FE hM hk (by omega) hu.1 hu.2,en i hi]
 obtain⟨u,hu,en,hr⟩:=key;have hg:=h.range (hM.2.2.1.sys.erase j) h0 h1;exact⟨u,hu,en,R5 hM hg.1 hg.2 hr⟩
theorem py.trans(hM:bN M){c e:Int}(h:py M c d)(h':py M d e):py M c e:=by
 obtain⟨f,hf,j,hj,k,hk,rfl,rfl⟩:=h;obtain⟨g,hg,i,hi,l,hl,rfl,e2⟩:=h';have h1:=lS hM (i:=j) hf;have h2:=lS hM (i:=l) hg;have iL:j=l:=by
  rcases Nat.lt_trichotomy j l with h | h | h
  ·have:=kF M (show j+1<=l by omega);omega
  ·exact h
  have:=kF M (show l+1<=j by omega);omega
 subst iL;have e3:gi (de M j) f=gi (de M j) g:=by unfold dG at e2;omega
 obtain⟨u,hu,en,cC⟩:=T4 hM (j:=j) (f:=(f:Int)) (by omega) (by omega) (MS hM (by omega) (by omega) (by omega) (by omega) e3);refine⟨u.toNat,by omega,i,hi,k,by omega,?_,?_⟩
 ·unfold dG;rw [Int.toNat_of_nonneg hu.1,cC i (by omega)]
 unfold dG;rw [Int.toNat_of_nonneg hu.1,en k (by omega)]
theorem Na(hM:bN M)(hb:aX M M.length<=500):gf M.length (b5 M M.length) (bY M):=by
 have h1:=hM.1;have hl:=tV M M.length;obtain⟨ha,hr⟩:=FT M M.length;refine⟨by omega,by omega,by rw [qT,hl],fun x hx=>?_,ha,fun e he=> ⟨?_,fun d hd=>?_⟩,fun e he d hd c hc=>?_⟩
 ·have:=hr x hx;omega
 ·rw [cQ (by rw [qT];omega)];unfold bY;rw [List.getElem_map];exact lL _ (qz _)
 ·rw [om (by omega) (by omega)]at hd;have:=hd.2.jK hM;exact⟨by omega,this.2.2⟩
 rw [om (by omega) (by omega)]at hd|-;rw [om (by omega) (by omega)]at hc;exact⟨hc.1,hc.2.trans hM hd.2⟩
end
section
open Go.RowKit
section
variable {P:Program} {N:Nat} {ops:Array Oper} {K:Env->aa->Prop} {rest:List Oper} {e:Env} {w0 w w':aa} {ks:List Ck} {d:Nat} {ty:ad} {pos:String} {af:Array Edge}
variable {x y:ae} {xt yt:ad} {i j:Int}
def uJ:Nat->ah->List (Nat×ab)
 | _,[]=> []
 | k,v::r=> (k,.int .i64 v)::uJ (k+1) r
theorem FG:∀(vs:ah) (k:Nat) (cells:Array ab),k+vs.length<=cells.size->∃out,Instr.fill (fun i=>some (i*1,1)) cells (uJ k vs)=some out/\out.size=cells.size/\(∀j,j<k->out[j]?=cells[j]?)/\(∀j,j<vs.length->out[k+j]?=vs[j]?.map (Value.int .i64))/\(∀j,k+vs.length<=j->out[j]?=cells[j]?)
 | [],k,cells,_=> ⟨cells,rfl,rfl,fun _ _=>rfl,fun j hj=>absurd hj (gR _),fun _ _=>rfl⟩
 | v::r,k,cells,h=>by
  have hk:k<cells.size:=by simp at h;omega
  obtain⟨out,h1,h2,h3,h4,h5⟩:=FG r (k+1) (cells.setIfInBounds k (aj v)) (by simp at h|-;omega);refine⟨out,?_,by rw [h2];simp,fun j hj=>?_,fun j hj=>?_,fun j hj=>?_⟩
  ·show Instr.fill _ cells ((k,aj v)::uJ (k+1) r)=some out;rw [<-h1];simp [Instr.fill,Value.cells,show ¬cells.size<k+1 by omega]
  ·rw [h3 j (by omega),qE,aB (by omega)]
  ·cases j with
   | zero=>rw [Nat.add_zero,h3 k (by omega),qE,aF rfl,aF hk];rfl
   | succ q=>
    have:=h4 q (by simpa using hj);rw [show k+ (q+1)=k+1+q by omega,this]
    rfl
  ·rw [h5 j (by simp at hj|-;omega),qE,aB (by simp at hj;omega)]
theorem MT(vs:ah)(cells:Array ab)(h:cells.size=vs.length):Instr.fill (fun i=>some (i*1,1)) cells (uJ 0 vs)=some (vs.map (Value.int .i64)).toArray:=by
 obtain⟨out,h1,h2,_,h4,_⟩:=FG vs 0 cells (by omega);rw [h1]
 congr 1
 apply Array.ext';apply List.ext_getElem?;intro j
 by_cases hj:j<vs.length
 ·have:=h4 j hj;rw [Nat.zero_add]at this;simpa using this
 rw [oP (by simpa [h2,h]using hj),oP (by simpa using hj)]
theorem se{t el:ad}{z:ab}{b n:Nat}[bK P t (.slice el)][bL P el z 1 b]{ps:Array (Nat×ae)}(vs:ah)(hS:St w0 w ks)(hv:(ps.toList.map fun p=> (p.1,ev e p.2))=uJ 0 vs)(hn:vs.length=n)(k5:n≠0)(yu:n<=1000)(hz:z.cells= #[z])(hb:Nat.blt d N=true)(hK:∀A w',St w0 w' (aE el A n n vs::ks)->ak P N ops K rest (br e d (.slice A n n)) w'):ak P N ops K (⟨some d,.buildSlice t n ps,ty,pos,af,none⟩::rest) e w:=by
 subst hn;obtain⟨inf,hi,fk,hs,iE⟩:=bL.get P el;have hA:=hS.alloc (vs.map (Value.int .i64)) el (by simp [maxLen];omega) (nK _);refine .val (w':=w.alloc (.cells (vs.map (Value.int .i64)).toArray el)) ?_ hb (hK _ _ (by simpa [aE]using hA));have hf:=MT vs ((Array.range (vs.length*1)).map ((#[z]:Array ab)[· % (#[z]:Array ab).size]!)) (by simp);have hv':(ps.map fun p=> (p.1,ev e p.2)).toList=uJ 0 vs:=by rw [Array.toList_map];exact hv
 have Bo:¬16777216<vs.length:=by omega
 simp only [Nat.mul_one]at hf;simp [execOp,Instr.buildSlice,run_underlying (bK.out (P:=P) (t:=t)),sizeOf,typeInfo,zeroValue,hi,hs,fk,hz,newRow,hv,Bo,k5];simp at hf;simp [hf]
end
section
variable {P:Program} {N:Nat} {ops:Array Oper} {K:Env->aa->Prop} {rest:List Oper} {e:Env} {w:aa} {d:Nat} {ty:ad} {pos:String} {af:Array Edge} {x y:ae} {xt yt:ad} {i:Int}
theorem KY{k:IntKind}(hx:ev e x= .int .u64 i)(hy:ev e y= .int k 1)(hb:Nat.blt d N=true)(h0:0<=i)(hK:ak P N ops K rest (br e d (.int .u64 (i / 2))) w):
 ak P N ops K (⟨some d,.binOp .shr xt x y yt,ty,pos,af,none⟩::rest) e w:=by
 refine .val (v:= .int .u64 (i / 2)) ?_ hb hK;have e1:min 1 IntKind.u64.bits=1:=by decide
 have e2:i.fdiv 2=i / 2:=Int.fdiv_eq_ediv_of_nonneg _ (by decide);simp [execOp,hx,hy,eqGuard,binOp,Op.shift,e1,e2]
end
section
variable {w:aa} {e:Env}
theorem Eb{R:ab->aa->Prop}{t u:Nat}{b:Bool}{k:IntKind}{i:Int}(h:e t= .int k i)(h2:e u= .bool b)(hR:R (.tuple #[.int k i,.bool b]) w):tj t u R .ret e w:=by show R (.tuple #[e t,e u]) w;rw [h,h2];exact hR
end
theorem L9(x:Int)(w:aa):aG prog 233 [aj x] w (fun v w'=>v= .bool (decide (¬x=x))/\w'=w):=by
 refine bs func233 O ntmps233 O (bF O) (zF O (bG O ?_));exact⟨O,O⟩
theorem Fi(x y:Int)(w:aa):aG prog 186 [aj x,aj y] w (fun v w'=>v= .bool (decide (x<y))/\w'=w):=by
 refine bs func186 O ntmps186 O (bF O) (aY O (aO (L9 x w) O ?_));rintro _ _ ⟨rfl,rfl⟩;refine aq O (bR 7 O (fun h=>absurd O h) (fun _=>?_));refine au O (au O (au O (aq O (ar O (aq O (ar O (aq O (ar O (bW O ?_)))))))));exact bG O ⟨O,O⟩
theorem TX(x:Int)(w:aa):aG prog 187 [aj x] w (fun v w'=>v= .bool (decide (¬x=x))/\w'=w):=by
 refine bs func187 O ntmps187 O (bF O) (zF O (bG O ?_));exact⟨O,O⟩
theorem E3(A:ai)(n c:Nat)(xs:ah)(x:Int)(w:aa)(hR:bS w A n xs)(hs:SA xs)(hn:n<=1000000000):
 aG prog 116 [.slice A n c,aj x] w (fun v w'=> (∃k:Int,v= .tuple #[aj k,.bool (decide (x∈xs))])/\w'=w):=by
 have eW:=hR.1;refine bs func116 O ntmps116 O (mV O) ?_;refine aY O (aR O O (aA O ?_));refine Cd.loop (α:=Nat×Nat) (fun z=> [(0,.slice A n c),(1,aj x),(6,aj n),(7,aj (z.1:Int)),(8,aj (z.2:Int))]) (fun z w'=>w'=w/\z.1<=z.2/\z.2<=n/\(∀p:Nat,p<z.1->gi xs p<x)/\∀p:Nat,z.2<=p->p<n->x<=gi xs p) (fun z=>z.2 - z.1) (0,n) (Wn O) ⟨O,bk _,cO _,fun p hp=>absurd hp (gR _),fun p hp pa=>by have hp:n<=p:=hp;omega⟩ ?_;rintro⟨i,j⟩ e w ⟨rfl,rp,ru,en,cC⟩;dsimp only at rp ru en cC|-;refine bH O (aJ _ O (fun h1=>?_) (fun h1=>?_))
 ·refine aC O (aI O ?_);refine qG O O (tw _ (by omega)) (KY O O O (by omega) (qG O O (IntWalk.i64_in _ (by omega)) ?_));obtain⟨h,hh⟩:∃h:Nat,h=(i+j) / 2:=⟨_,rfl⟩;rw [show((i:Int)+ (j:Int)) / 2=(h:Int) by omega];refine aq O (aw hR.2 O (a6 hR O (aq O (aO (Fi _ _ _) O ?_))));rintro _ _ ⟨rfl,rfl⟩;refine aA O (aJ _ O (fun h2=>?_) (fun h2=>?_))
  ·refine aC O (aI O (aM O (tQ ?_)));refine⟨(h+1,j),by show j - (h+1)<j - i;omega,(Wn O),O,by show h+1<=j;omega,ru,fun p hp=>?_,cC⟩;have hp:p<h+1:=hp
   by_cases e:p=h
   ·subst e;exact h2
   have:=hs.rN (show p<h by omega) (by omega);omega
  refine sc O (tQ ?_);refine⟨(i,h),by show h - i<j - i;omega,(Wn O),O,by show i<=h;omega,by show h<=n;omega,en,fun p hp pa=>?_⟩;have hp:h<=p:=hp
  by_cases e:p=h
  ·subst e;omega
  have:=hs.rN (show h<p by omega) (by omega);omega
 obtain rfl:i=j:=by omega
 have eD:∀p:Nat,p<n->gi xs p=x->p=i:=fun p hp hx=>by
  rcases Nat.lt_trichotomy p i with h | h | h
  ·have:=en p h;omega
  ·exact h
  have h3:=hs.rN h (by omega);have h4:=cC i (cO _) (by omega);omega
 have gC:x∈xs↔i<n/\gi xs i=x:=by
  constructor
  ·intro hm;obtain⟨p,hp,e⟩:=fP.1 hm;have e2:gi xs p=x:=by rw [bQ hp];exact e
   have:=eD p (by omega) e2;subst this;exact⟨by omega,e2⟩
  rintro⟨h2,h3⟩;rw [<-h3];exact gi_in (by omega)
 refine bj O (bl (cn O ?_));refine bR 35 O (fun h2=>?_) (fun h2=>?_)
 ·refine ar O (aq O (ar O (aq O (ar O ?_))));refine aw hR.2 O (ar O (a6 hR O ?_));refine ar O (aq O (ar O (aq O (ar O (aq O ?_)))));refine bR 42 O (fun h3=>?_) (fun h3=>?_)
  ·refine au O (au O (au O (au O (au O (au O (bc O (bc O (au O (ar O (bW O ?_))))))))));refine Eb O O ?_;exact⟨⟨_,by rw [dF (gC.2 ⟨by omega,h3⟩)]⟩,O⟩
  refine ar O (aq O (ar O (aq O (ar O ?_))));refine aw hR.2 O (ar O (a6 hR O (ar O (aO (TX _ _) O ?_))));rintro _ _ ⟨rfl,rfl⟩;refine ar O (aq O ?_);refine bR 48 O (fun h=>absurd O h) (fun _=>?_);refine au O (au O (ar O (aq O (ar O (bW O ?_)))));refine Eb O O ?_;exact⟨⟨_,by rw [cb (fun h=>h3 (gC.1 h).2)]⟩,O⟩
 refine au O (au O (au O (au O (au O (au O (au O (bc O (bc O (bc O (bc O (bc O ?_)))))))))));refine bc O (bc O (bc O (bc O (au O (bW O ?_)))));refine Eb O O ?_;exact⟨⟨_,by rw [cb (fun h=>by have:=(gC.1 h).1;omega)]⟩,O⟩
theorem Qy(P A D:ai)(cA r cD:Nat)(n:Int)(N:Nat)(rs:List aH)(B:ag)(e f:Int)(w:aa)(hP:Rd w P 3 (fun j=> [Value.int .i64 n,.slice A r cA,.slice D N cD].getD j undef))(hB:bu w D N rs B)(ln:B.length=N)(hf:0<=f/\f<N)(hs:SA (gl B f))(hl:(gl B f).length<=1000000):
 aG prog 107 [.pointer P,aj e,aj f] w (fun v w'=>v= .bool (decide (e∈gl B f))/\w'=w):=by
 have bw:=hB.at_ (i:=f) hf.1 hf.2;have eM:=bw.1;refine bs func107 O ntmps107 O (bF O) (aY O ?_);refine eT hP (by decide) O O (aT hP O (a7 hP O (aq O (aw hB.top.2 O (bn hB.top O (aq O (aO (E3 _ _ _ (gl B f) e w bw hs (by omega)) O ?_)))))));rintro _ _ ⟨⟨k,rfl⟩,rfl⟩;refine bW O (bG O ?_);exact⟨O,O⟩
theorem oB(P A D:ai)(cA cD:Nat)(n:Int)(R:ah)(rs:List aH)(B:ag)(e f:Int)(w:aa)(hP:Rd w P 3 (fun j=> [Value.int .i64 n,.slice A R.length cA,.slice D B.length cD].getD j undef))(hB:bu w D B.length rs B)(hf:0<=f/\f<B.length)(hs:SA (gl B f))(hl:(gl B f).length<=1000000):
 aG prog 107 [.pointer P,aj e,aj f] w (fun v w'=>v= .bool (decide (e∈gl B f))/\w'=w):=
 Qy P A D cA R.length cD n B.length rs B e f w hP hB rfl hf hs hl
theorem DM{t1 t2:ad}{A:ai}{n c:Nat}{rs:List aH}{xss:ag}{ks:List Ck}{q:Ck}{i:Nat}(s:aH)(xs:ah)(hr:rs.length=xss.length)(hi:i<rs.length):(q::(aW t1 t2 A n c rs xss++ks)).set (2+i) (aE t2 s.a s.n s.c xs)=q::(aQ t1 A n c rs::(cw t2 (rs.set i s) (xss.set i xs)++ks)):=by
 rw [show 2+i=i+1+1 by omega,List.set_cons_succ];show _::(aQ t1 A n c rs::(cw t2 rs xss++ks)).set (i+1) _=_;rw [List.set_cons_succ,List.set_append_left _ _ (by rw [tl hr];exact hi),Ef hr]
def gg(M:ag)(i f:Nat):ag:=(List.range (gl M 0).length).map fun g=> (List.range (if g<f then i+1 else i)).map fun k=>dG M k g
def ko(M:ag):ag:=(List.range (gl M 0).length).map fun g=> (List.range M.length).map fun k=>dG M k g
theorem xK(M:ag)(i f:Nat):(gg M i f).length=(gl M 0).length:=by simp [gg]
theorem M9(M:ag)(f:Nat)(h:f=0):gg M 0 f=List.replicate (gl M 0).length []:=by
 subst h;apply gj (by simp [gg]);intro i h1 h2;simp [gg]
theorem M7(M:ag)(i:Nat):gg M i (gl M 0).length=gg M (i+1) 0:=by
 unfold gg;refine ki fun g hg=>?_
 rw [aF (iI.1 hg),aB (gR _)]
theorem M6(M:ag):gg M M.length 0=ko M:=by
 unfold gg ko;exact ki fun g _=>by rw [aB (gR _)]
theorem xJ{M:ag}{i f g:Nat}(hg:g< (gl M 0).length):gl (gg M i f) g=(List.range (if g<f then i+1 else i)).map fun k=>dG M k g:=by
 rw [cQ (by rw [xK];exact hg)];simp [gg]
theorem M8{M:ag}{i f:Nat}(hf:f< (gl M 0).length):(gg M i f).set f (gl (gg M i f) f++ [dG M i f])=gg M i (f+1):=by
 apply gj (by simp [gg]);intro g h1 h2;have hg:g< (gl M 0).length:=by rw [xK]at h2;exact h2
 rw [List.getElem_set];have e:(gg M i (f+1))[g]=gl (gg M i (f+1)) g:=by rw [cQ h2]
 rw [e,xJ hg]
 by_cases h:f=g
 ·subst h;rw [aF rfl,aF (by omega),xJ hg,aB (by omega),lg,iT];rfl
 rw [aB h];have e2:(gg M i f)[g]'(by rw [xK];exact hg)=gl (gg M i f) g:=by rw [cQ]
 rw [e2,xJ hg]
 by_cases h3:g<f
 ·rw [aF h3,aF (by omega)]
 rw [aB h3,aB (by omega)]
theorem zd{M:ag}:∀i,aX M i<=i* (gl M 0).length
 | 0=>bk _
 | i+1=>by
  have h1:=zd (M:=M) i;have h2:=vu M i;show aX M i+ (iz M i).toNat<=_;rw [Nat.succ_mul];omega
theorem Lm(Ab A:ai)(n c:Nat)(rs:List aH)(M:ag)(w:aa)(hB:Rd w Ab 1 (fun _=> .slice A n c))(hR:bu w A n rs M)(hM:bN M):
 aG prog 129 [.pointer Ab] w (fun v w'=>∃A' rs',v= .slice A' (gl M 0).length (gl M 0).length/\rs'.length=(gl M 0).length/\St w w' (aW 24 2 A' (gl M 0).length (gl M 0).length rs' (ko M)++ [])):=by
 have hl:=hR.len;have h1:=hM.1;have h2:=hM.2.1;have e0:(rg rs 0).n=(gl M 0).length:=(hR.jv (by omega) (by omega)).symm;have rA:∀i,i<=n->aX M i<=2000:=fun i hi=>by
  have h3:=zd (M:=M) i;have h4:i* (gl M 0).length<=5*400:=Nat.mul_le_mul (by omega) (by omega);omega
 generalize hF:(gl M 0).length=F at*;refine bs func129 O ntmps129 O (bF O) (aY O (aO (qS Ab A n c rs M _ w hB O hR (by omega)) O ?_));rintro _ w ⟨rfl,rfl⟩;rw [e0];refine xo F (St.refl w) O O (by omega) ?_;intro A3 w1 aD;have aD:St w w1 (aW 24 2 A3 F F (List.replicate F bA) (List.replicate F [])):=wO F aD;refine aq O (aO (zi Ab A n c _ _ (aD.lH hB) O) O ?_);rintro _ w1 ⟨rfl,rfl⟩;refine aA O ?_;refine Cd.loop (α:=Nat×List aH) (fun z=> [(0,.pointer Ab),(3,.slice A3 F F),(4,aj (aX M z.1:Int)),(14,aj n),(15,aj (z.1:Int))]) (fun z w'=>z.1<=n/\z.2.length=F/\St w w' (aW 24 2 A3 F F z.2 (gg M z.1 0)++ [])) (fun z=>n - z.1) (0,List.replicate F bA) (Wn O) ⟨bk _,by simp,by rw [M9 M 0 O,hF,eG];exact aD⟩ ?_;clear aD;rintro⟨i,rY⟩ e w2 ⟨hi,cT,hS⟩;dsimp only at hi cT hS|-;have HC:=rA i hi;refine bH O (aJ _ O (fun h3=>?_) (fun h3=>?_))
 ·have cd:i<n:=by omega
  have CY:=rA (i+1) (by omega);have ja:=vu M i;have sT:aX M (i+1)=aX M i+ (iz M i).toNat:=O;refine aC O (aO (FD Ab A n c rs M i _ (hS.lH hB) (hS.bE hR) hM cd) O ?_);rintro _ w3 ⟨A6,rfl,ax⟩;have aL:=(hS.call ax).perm (gB (l₁:=[aE 2 A6 (gl M 0).length (gl M 0).length (de M i)]));rw [hF]at aL|-;clear ax hS;refine aq O (aR O O (aA O ?_));refine Cd.loop (α:=Nat×List aH) (fun z=> [(0,.pointer Ab),(3,.slice A3 F F),(4,aj (aX M i:Int)),(7,aj (iz M i)),(14,aj n),(15,aj i),(24,.slice A6 F F),(5,aj i),(25,aj F),(26,aj (z.1:Int))]) (fun z w'=>z.1<=F/\z.2.length=F/\St w w' (aW 24 2 A3 F F z.2 (gg M i z.1)++ [aE 2 A6 F F (de M i)])) (fun z=>F - z.1) (0,rY) (Wn O) ⟨bk _,cT,by simpa using aL⟩ ?_;clear aL;rintro⟨f,bz⟩ e w4 ⟨hf,nH,aN⟩;dsimp only at hf nH aN|-;have Hj:=xK M i f;rw [hF]at Hj;refine bH O (aJ _ O (fun h4=>?_) (fun h4=>?_))
  ·have iZ:f<F:=by omega
   have iD:=St.jL aN Hj;have kZ:(aW 24 2 A3 F F bz (gg M i f)++ [aE 2 A6 F F (de M i)])[F+1]?=some (aE 2 A6 F F (de M i)):=by
    rw [mq (by rw [IZ (by omega)];omega),IZ (by omega),nH,Nat.sub_self];rfl
   have yp:bS w4 A6 F (de M i):=aN.bU (F+1) kZ;have hin2:=lS hM (i:=i) (f:=f) (by omega);have OY:(aX M i:Int)+gi (de M i) f=dG M i f:=O;have bw:=iD.at_ (i:=(f:Int)) (by omega) (by omega);have eM:(rg bz f).n<=5:=by
    have:=bw.1;rw [<-this,xJ (by omega),aB (by omega)];simp;omega
   refine aC O (aw yp.2 O (a6 yp O (aq O (aw iD.top.2 O (bn iD.top O ?_)))));refine aq O (aI O ?_);refine e6 aN O O O ?_;intro AQ wQ hQ;have mL:(aE 2 AQ 1 1 [((aX M i:Int)+gi (de M i) f)]::(aW 24 2 A3 F F bz (gg M i f)++ [aE 2 A6 F F (de M i)]))[2+f]?=some (aE 2 (rg bz f).a (rg bz f).n (rg bz f).c (gl (gg M i f) f)):=by
    have h0:=rO (t1:=24) (t2:=2) (A:=A3) (n:=F) (c:=F) (rs:=bz) (xss:=(gg M i f)) (pre:=[aE 2 AQ 1 1 [((aX M i:Int)+gi (de M i) f)]]) (ks:=[aE 2 A6 F F (de M i)]) (i:=f) (by omega) (by omega);exact h0
   refine fS (2+f) hQ mL (hQ.bU 0 O) O O O (by omega) (by omega) O ?_;intro AZ cZ wZ hZ;rw [DM ⟨AZ,(rg bz f).n+1,cZ⟩ (gl (gg M i f) f++ [((aX M i:Int)+gi (de M i) f)]) (by omega) (by omega)]at hZ;have GN:eU wZ A3 F bz:=hZ.dB 1 O;refine aw GN.2 O (tF (te:=24) (n:=F) (c:=F) (A:=A3) (xs:=bz) 1 hZ O O O (by omega) ?_);intro wY hY;have aV:St w wY (aW 24 2 A3 F F (bz.set f ⟨AZ,(rg bz f).n+1,cZ⟩) ((gg M i f).set f (gl (gg M i f) f++ [((aX M i:Int)+gi (de M i) f)]))++ [aE 2 A6 F F (de M i)]):=St.tail hY;clear hY GN hZ mL hQ;rw [OY,M8 (by omega)]at aV;refine aq O (aI O (aM O (tQ ?_)));exact⟨(f+1,_),by show F - (f+1)<F - f;omega,(Wn O),by show f+1<=F;omega,by simp [nH],aV⟩
  have iZ:f=F:=by omega
  subst iZ;have eE:=M7 M i;rw [hF]at eE;rw [eE]at aN;refine bj O (bl (cn O (aI O (aq O (aI O (aM O (tQ ?_)))))));exact⟨(i+1,bz),by show n - (i+1)<n - i;omega,⟨O,O,by show Value.int .i64 ((aX M i:Int)+iz M i)=aj ((aX M (i+1):Nat):Int);congr 1;omega,O,O,av⟩,by show i+1<=n;omega,nH,aN.sub (List.Sublist.append_left (List.nil_sublist _) _)⟩
 have cd:i=n:=by omega
 subst cd;have he:=M6 M;rw [hl]at he;rw [he]at hS;refine bj O (bl (dd O ?_));exact dH O ⟨A3,rY,O,cT,hS⟩
def iW(xss:ag):ah:=(List.range xss.length).map fun i=>iz xss i
theorem An(xss:ag):(iW xss).length=xss.length:=by simp [iW]
theorem Mb{xss:ag}{i:Nat}(h:i<xss.length):(iW xss).take (i+1)=(iW xss).take i++ [iz xss i]:=by
 rw [gk (by rw [An];exact h)];simp [iW]
theorem MP(Ab A:ai)(n c:Nat)(rs:List aH)(xss:ag)(w:aa)(hB:Rd w Ab 1 (fun _=> .slice A n c))(hR:bu w A n rs xss)(hM:bN xss):
 aG prog 85 [.pointer Ab] w (fun v w'=>∃A' c',v= .slice A' n c'/\St w w' [aE 2 A' n c' (iW xss)]):=by
 have hl:=hR.len;have h1:=hM.1;have h2:=hM.2.1;refine bs func85 O ntmps85 O (bF O) (aY O (aO (zi Ab A n c _ _ hB O) O ?_));rintro _ w ⟨rfl,rfl⟩;refine aA O (Cd.loop (α:=Nat×ai×Nat) (fun s=> [(0,.pointer Ab),(3,.slice s.2.1 s.1 s.2.2),(8,aj n),(9,aj (s.1:Int))]) (fun s w'=>St w w' [aE 2 s.2.1 s.1 s.2.2 ((iW xss).take s.1)]/\s.1<=n) (fun s=>n - s.1) (0,none,0) (Wn O) ⟨(St.refl w).nil _,bk _⟩ ?_);rintro⟨i,A3,c3⟩ e w1 ⟨aD,hi⟩;dsimp only at aD hi|-;refine bH O (aJ _ O (fun h3=>?_) (fun h3=>?_))
 ·have bP:i<n:=by omega
  have jn:=vu xss i;refine aC O (aO (FD Ab A n c rs xss i _ (hB.below aD.below) (aD.bE hR) hM bP) O ?_);rintro _ w2 ⟨A5,rfl,mO⟩;have ay:=(aD.call mO).tail;refine aq O (e6 ay O O O ?_);intro A6 w3 aL;refine fS 1 aL O (aL.bU 0 O) O O O (by omega) (by omega) O fun A7 c7 w4 aN=>aq O (aI O (aM O (tQ ?_)));refine⟨(i+1,A7,c7),by show n - (i+1)<n - i;omega,(Wn O),?_,bP⟩;show St w w4 [aE _ A7 (i+1) c7 ((iW xss).take (i+1))];rw [Mb (by omega)];exact aN.tail
 refine bj O (bl (dd O ?_));refine dH O ?_;have cd:i=n:=by omega
 rw [cd,eI (by rw [An];omega)]at aD;rw [cd];exact⟨A3,c3,O,aD⟩
section
variable{b b0 b1 b2:Nat}
variable {P:Program} {N:Nat} {ops:Array Oper} {K:Env->aa->Prop} {rest:List Oper} {e:Env} {w0 w w':aa} {ks:List Ck} {d:Nat} {ty:ad} {pos:String} {af:Array Edge}
theorem EF{t:ad}{f0 f1 f2:Field}{z0 z1 z2 y0 y1 y2:ab}[bK P t (.struct #[f0,f1,f2])][bL P t (.agg #[z0,z1,z2]) 3 b]{x0:ae}{v0:ab}(BJ:bL P f0.type y0 1 b0)(BK:bL P f1.type y1 1 b1)(BL:bL P f2.type y2 1 b2)(ho:f0.offset=0)(CY:f1.offset=1)(ho2:f2.offset=2)(h0:ev e x0=v0)(c0:v0.oneCell'=true)(hb:Nat.blt d N=true)(hK:ak P N ops K rest (br e d (.agg #[v0,z1,z2])) w):ak P N ops K (⟨some d,.build t #[(0,x0)],ty,pos,af,none⟩::rest) e w:=by
 obtain⟨inf,hi,fk,hs,iE⟩:=bL.get P t;obtain⟨Qt,o6,_,wk,_⟩:=BJ.get P f0.type;obtain⟨Qu,vU,_,wm,_⟩:=BK.get P f1.type;obtain⟨H8,ym,_,wo,_⟩:=BL.get P f2.type;have e0:v0.cells= #[v0]:=by cases v0<;>simp [Value.oneCell']at c0<;>rfl
 have ez:(Value.agg #[z0,z1,z2]).cells= #[z0,z1,z2]:=O;refine .val (w':=w) ?_ hb hK;simp [execOp,Instr.build,run_underlying (bK.out (P:=P) (t:=t)),sizeOf,typeInfo,zeroValue,hi,fk,o6,wk,vU,wm,ym,wo,ho,h0,e0,ez,Instr.fill]
theorem EE{t:ad}{f0 f1 f2:Field}{z0 z1 z2 y0 y1 y2:ab}[bK P t (.struct #[f0,f1,f2])][bL P t (.agg #[z0,z1,z2]) 3 b](BJ:bL P f0.type y0 1 b0)(BK:bL P f1.type y1 1 b1)(BL:bL P f2.type y2 1 b2)(hb:Nat.blt d N=true)(hK:ak P N ops K rest (br e d (.agg #[z0,z1,z2])) w):ak P N ops K (⟨some d,.build t #[],ty,pos,af,none⟩::rest) e w:=by
 obtain⟨inf,hi,fk,hs,iE⟩:=bL.get P t;obtain⟨Qt,o6,_,wk,_⟩:=BJ.get P f0.type;obtain⟨Qu,vU,_,wm,_⟩:=BK.get P f1.type;obtain⟨H8,ym,_,wo,_⟩:=BL.get P f2.type;have ez:(Value.agg #[z0,z1,z2]).cells= #[z0,z1,z2]:=O;refine .val (w':=w) ?_ hb hK;simp [execOp,Instr.build,run_underlying (bK.out (P:=P) (t:=t)),sizeOf,typeInfo,zeroValue,hi,fk,o6,wk,vU,wm,ym,wo,ez,Instr.fill]
theorem oS{el:ad}{v0 v1 v2:ab}{s:Nat}[bL P el (.agg #[v0,v1,v2]) s b](hS:St w0 w ks)(hb:Nat.blt d N=true)(hK:∀A w',St w0 w' (Bx el 3 A [v0,v1,v2]::ks)->ak P N ops K rest (br e d (.pointer A)) w')(hM:cX [v0,v1,v2]=false:=by rfl):ak P N ops K (⟨some d,.alloc el,ty,pos,af,none⟩::rest) e w:= .new (el:=el) (z:= .agg #[v0,v1,v2]) (s:=s) (b:=b) hS hb rfl hK hM
end
theorem S5{α:Type}(q1 q2 q3 q4 q5 q6:α)(X Y:List α):([q1,q2,q3,q4,q5,q6]++Y++X).Perm (q4::(q2::((q1::X)++ (q3::q5::q6::Y)))):=by
 classical
 refine nb.2 fun z=>?_
 simp only [nY,mm,List.cons_append,List.nil_append];omega
abbrev bD(A:ai)(n:Int)(AR:ai)(N c:Nat)(AD:ai)(m d:Nat):Ck:=Bx 27 3 A [aj n,.slice AR N c,.slice AD m d]
theorem Ma{M:ag}{i:Nat}(h:i<M.length):gi (iW M) i=iz M i:=by
 rw [bQ (by rw [An];exact h)];simp [iW]
structure lP(M:ag)(f i:Nat)(B:ag):Prop where
 len:B.length=aX M M.length
 mem:∀e:Nat,e<aX M M.length->∀x,x∈gl B e↔∃f' i',(f'<f\/f'=f/\i'<i)/\f'< (gl M 0).length/\i'<M.length/\dG M i' f'=e/\∃k,k<i'/\x=dG M k f'
 num:∀e:Nat,(gl B e).length<=25*f+5*i
theorem lP.zero(M:ag):lP M 0 0 (List.replicate (aX M M.length) []):=by
 have hg:∀e:Nat,gl (List.replicate (aX M M.length) ([]:ah)) e=[]:=fun e=>by
  simp only [gl,eH,bX,List.getElem?_replicate]
  split<;>rfl
 refine⟨by simp,fun e he x=>?_,fun e=>by rw [hg];exact bk _⟩;rw [hg];constructor
 ·intro h;cases h
 rintro⟨f',i',h,_⟩;omega
theorem lP.next{M:ag}{f i:Nat}{B:ag}(hM:bN M)(h:lP M f i B)(hf:f< (gl M 0).length)(hi:i<M.length):lP M f (i+1) (B.set (dG M i f).toNat (gl B (dG M i f)++ (List.range i).map fun k=>dG M k f)):=by
 have cd:=lS hM (i:=i) hf;have uB:=kF M (show i+1<=M.length by omega);have h5:=hM.1;obtain⟨q,hq⟩:∃q:Nat,dG M i f=q:=⟨(dG M i f).toNat,by omega⟩;rw [hq,eH];have hg:∀e:Nat,gl (B.set q (gl B q++ (List.range i).map fun k=>dG M k f)) e=if q=e then gl B q++ (List.range i).map fun k=>dG M k f else gl B e:=fun e=>xN (by rw [h.len];omega)
 refine⟨by rw [iS];exact h.len,fun e he x=>?_,fun e=>?_⟩
 ·rw [hg]
  by_cases e1:q=e
  ·subst e1;rw [aF rfl,gQ,h.mem q he];constructor
   ·rintro(⟨f',i',h1,h2⟩ | h1)
    ·exact⟨f',i',by omega,h2⟩
    obtain⟨k,hk,rfl⟩:=fq.1 h1;exact⟨f,i,.inr ⟨O,by omega⟩,hf,hi,hq,k,iI.1 hk,O⟩
   rintro⟨f',i',h1,h2,h3,h4,k,hk,rfl⟩
   by_cases e2:f'=f/\i'=i
   ·obtain⟨rfl,rfl⟩:=e2;exact .inr (fq.2 ⟨k,iI.2 hk,O⟩)
   exact .inl ⟨f',i',by omega,h2,h3,h4,k,hk,O⟩
  rw [aB e1,h.mem e he];constructor
  ·rintro⟨f',i',h1,h2⟩;exact⟨f',i',by omega,h2⟩
  rintro⟨f',i',h1,h2,h3,h4,h6⟩;refine⟨f',i',?_,h2,h3,h4,h6⟩
  by_cases e2:f'=f/\i'=i
  ·obtain⟨rfl,rfl⟩:=e2;omega
  omega
 rw [hg];have h1:=h.num q;have h2:=h.num e
 split
 ·rw [dS,fv,n3];omega
 omega
theorem lP.row{M:ag}{f:Nat}{B:ag}(hM:bN M)(h:lP M f M.length B):lP M (f+1) 0 B:=by
 have h5:=hM.1;refine⟨h.len,fun e he x=>?_,fun e=>by have:=h.num e;omega⟩;rw [h.mem e he];constructor
 ·rintro⟨f',i',h1,h2⟩;exact⟨f',i',by omega,h2⟩
 rintro⟨f',i',h1,h2,h3,h4⟩;exact⟨f',i',by omega,h2,h3,h4⟩
theorem lP.done{M:ag}{B:ag}(hM:bN M)(h:lP M (gl M 0).length 0 B){e:Nat}(he:e<aX M M.length):cs (gl B e)=gl (bY M) e:=by
 refine(Mj _).eq ?_ fun x=>?_
 ·rw [cQ (by rw [qT];exact he)];unfold bY;rw [List.getElem_map];exact lL _ (qz _)
 rw [Mk,h.mem e he,om (by omega) (by omega)];constructor
 ·rintro⟨f',i',_,h2,h3,h4,k,hk,rfl⟩;have hI:py M (dG M k f') e:=⟨f',h2,i',h3,k,hk,h4.symm,O⟩;exact⟨(hI.jK hM).1,hI⟩
 rintro⟨_,f',h2,i',h3,k,hk,h4,rfl⟩;exact⟨f',i',.inl h2,h2,h3,h4.symm,k,hk,O⟩
def Ko(M:ag)(w:aa)(v:ab)(w':aa):Prop:=(500<aX M M.length/\v= .tuple #[.agg #[aj 0,.slice none 0 0,.slice none 0 0],.bool false]/\St w w' [])\/(aX M M.length<=500/\∃AR c AD d rs,v= .tuple #[.agg #[aj (M.length:Int),.slice AR (aX M M.length) c,.slice AD (aX M M.length) d],.bool true]/\rs.length=aX M M.length/\St w w' (aE 2 AR (aX M M.length) c (b5 M M.length)::(aW 24 2 AD (aX M M.length) d rs (bY M)++ [])))
theorem MQ(A:ai)(n c:Nat)(rs:List aH)(M:ag)(w:aa)(hR:bu w A n rs M)(hM:bN M):
 aG prog 67 [.agg #[.slice A n c]] w (Ko M w):=by
 have hl:=hR.len;have h1:=hM.1;have h2:=hM.2.1;have rA:∀i,i<=n->aX M i<=2000:=fun i hi=>by
  have h3:=zd (M:=M) i;have h4:i* (gl M 0).length<=5*400:=Nat.mul_le_mul (by omega) (by omega);omega
 refine bs func67 O ntmps67 O (Jz O O) (aY O (gS (St.refl w) O O ?_));intro A1 w1 aD;refine oS aD O fun A2 w2 ay=>aq O (aO (zi A1 A n c _ _ (jf (ay.rd 1 O)) O) O ?_);rintro _ w2 ⟨rfl,rfl⟩;refine EF (by exact inferInstance) (by exact inferInstance) (by exact inferInstance) O O O O O O (oS ay O ?_);intro A4 w3 aL;refine gU 3 0 aL O O O O O O O ?_;intro w4 aN;have aN:St w w4 [bD A4 n none 0 0 none 0 0,bD A2 0 none 0 0 none 0 0,Bx 37 1 A1 [.slice A n c]]:=aN;clear aL ay aD;refine aq O (aO (MP A1 A n c rs M _ (jf (aN.rd 2 O)) (aN.bE hR) hM) O ?_);rintro _ w5 ⟨lf,lj,rfl,ax⟩;have aV:=aN.call ax;clear ax aN;have aV:St w w5 [bD A4 n none 0 0 none 0 0,aE 2 none 0 0 [],aE 2 lf n lj (iW M),bD A2 0 none 0 0 none 0 0,Bx 37 1 A1 [.slice A n c]]:=(aV.nil 2).perm (pB (l₁:=[_,_]));refine aR O O (aA O ?_);refine Cd.loop (α:=Nat×ai×Nat) (fun z=> [(1,.pointer A1),(2,.pointer A2),(4,.pointer A4),(14,.slice lf n lj),(15,aj n),(16,aj (z.1:Int))]) (fun z w'=>z.1<=n/\St w w' [bD A4 n z.2.1 (aX M z.1) z.2.2 none 0 0,aE 2 z.2.1 (aX M z.1) z.2.2 (b5 M z.1),aE 2 lf n lj (iW M),bD A2 0 none 0 0 none 0 0,Bx 37 1 A1 [.slice A n c]]) (fun z=>n - z.1) (0,none,0) (Wn O) ⟨bk _,aV⟩ ?_;clear aV;rintro⟨i,AR,cR⟩ e w6 ⟨hi,hS⟩;dsimp only at hi hS|-;have HC:=rA i hi;have rb:=tV M i;refine bH O (aJ _ O (fun h3=>?_) (fun h3=>?_))
 ·have cd:i<n:=by omega
  have uk:=Ma (M:=M) (i:=i) (by omega);have ja:=vu M i;have CY:=rA (i+1) (by omega);have sT:aX M (i+1)=aX M i+ (iz M i).toNat:=O;have sI:b5 M (i+1)=b5 M i++List.replicate (iz M i).toNat (i:Int):=O;have hC:=hS.bU 2 O;refine aC O (aw hC.2 O (a6 hC O (aA O ?_)));rw [uk];obtain⟨N,hN⟩:∃N:Nat,iz M i=N:=⟨(iz M i).toNat,by omega⟩;rw [hN,eH]at sT sI;rw [hN]at ja|-;refine jc [6,8] [yP (az (A4) 1),yS (AR) (aX M i) (cR),yI ((i:Int)),.pr (fun v w'=>∃A9,v= .slice A9 1 1/\St w w' (aE 2 A9 1 1 [(i:Int)]::[bD A4 n AR (aX M i) cR none 0 0,aE 2 AR (aX M i) cR (b5 M i),aE 2 lf n lj (iW M),bD A2 0 none 0 0 none 0 0,Bx 37 1 A1 [.slice A n c]])),yI ((N:Int)),.pr (fun v w'=>∃A9,v= .slice A9 N N/\St w w' (aE 2 A9 N N (List.replicate N (i:Int))::[bD A4 n AR (aX M i) cR none 0 0,aE 2 AR (aX M i) cR (b5 M i),aE 2 lf n lj (iW M),bD A2 0 none 0 0 none 0 0,Bx 37 1 A1 [.slice A n c]])),.pr (fun v w'=>∃bB bM,v= .slice bB (aX M i+N) bM/\St w w' [bD A4 n AR (aX M i) cR none 0 0,aE 2 bB (aX M i+N) bM (b5 M i++List.replicate N (i:Int)),aE 2 lf n lj (iW M),bD A2 0 none 0 0 none 0 0,Bx 37 1 A1 [.slice A n c]]),yP (az (A4) 1),.pr (fun _ w'=>∃bB bM,St w w' [bD A4 n bB (aX M i+N) bM none 0 0,aE 2 bB (aX M i+N) bM (b5 M i++List.replicate N (i:Int)),aE 2 lf n lj (iW M),bD A2 0 none 0 0 none 0 0,Bx 37 1 A1 [.slice A n c]])] (by kernel_rfl) (by kernel_rfl) (ly (ly (ly (cq.2 ⟨Ye.ct (fun v w w' h hb=>by obtain⟨A9,hv,hT⟩:=h;exact⟨A9,hv,hT.ao hb⟩),(ly (cq.2 ⟨Ye.ct (fun v w w' h hb=>by obtain⟨A9,hv,hT⟩:=h;exact⟨A9,hv,hT.ao hb⟩),(cq.2 ⟨Ye.ct (fun v w w' h hb=>by obtain⟨bB,bM,hv,hT⟩:=h;exact⟨bB,bM,hv,hT.ao hb⟩),(ly (cq.2 ⟨Ye.ct (fun v w w' h hb=>by obtain⟨bB,bM,hT⟩:=h;exact⟨bB,bM,hT.ao hb⟩),(fun _ h=>by cases h)⟩))⟩)⟩))⟩)))) ?_ ?_
  ·refine⟨cP fun _ _ hb _ _ _=>aT ((hS.rd 0 O).below hb) O (bJ O O),cP fun _ _ hb _ _ _=>a7 ((hS.rd 0 O).below hb) O (bJ O O),b8 O,?_,b8 O,?_,?_,?_,?_,av⟩
   ·refine cP fun e1 w1 hb hp aZ hq=>?_
    exact e6 (St.refl _) O O O fun A9 w9 ax=>ak.n (eS.dn O ax.below ⟨A9,O,(hS.ao hb).call ax⟩)
   ·refine cP fun e1 w1 hb hp aZ hq=>?_
    obtain⟨A9,Bo,hT⟩:=(hp 3 _ _ (by kernel_rfl) rfl rfl (by kernel_rfl));refine Wh (xp A9 1 i N _ (hT.bU 0 O) (by omega)) O (by exact aS (fun v=> [v,Value.int .i64 (N:Int)]) Bo) O ?_;rintro _ w2 ⟨A5,rfl,ax⟩;exact ak.n (eS.dn O ax.below ⟨A5,O,hT.tail.call ax⟩)
   ·refine jh fun e1 w1 hb hp aZ hq=>?_
    obtain⟨A9,NB,hT⟩:=(hp 5 _ _ (by kernel_rfl) rfl rfl (by kernel_rfl));refine fS 2 hT O (hT.bU 0 O) O (by exact NB) O (by omega) (by omega) O ?_;intro bB bM dW sB;exact ak.n (eA.dn O ⟨bB,bM,O,sB.tail⟩)
   ·refine dP 1 fun e1 w1 hp aZ hq=>?_
    have cS:=hp 6 _ _ (by kernel_rfl) O O (by kernel_rfl);obtain⟨bB,bM,Gc,hT⟩:=cS;refine aT ((hT.rd 0 O)) O (ak.n (fO O (by exact O)))
   refine mD 1 fun e1 w1 hp aZ hq=>?_
   have cS:=hp 6 _ _ (by kernel_rfl) O O (by kernel_rfl);obtain⟨bB,bM,Gc,hT⟩:=cS;refine od 0 hT O O (by exact Gc) O O ?_;intro eZ sC;exact ak.n (eA.st O ⟨bB,bM,sC⟩)
  intro u w7 _ hu _ _;obtain⟨bB,bM,hT⟩:=hu 8 _ rfl (by kernel_rfl);rw [<-sT,<-sI]at hT;refine ib O (aI O (aM O (tQ ?_)));exact⟨(i+1,bB,bM),by show n - (i+1)<n - i;omega,(Wn O),by show i+1<=n;omega,hT⟩
 obtain rfl:i=n:=by omega
 have gX:M.length=i:=hl;generalize hK:aX M i=N at*;have gu:=hS.rd 0 O;refine bj O (bl (cn O ?_));refine aT gu O (a7 gu O ?_);refine aR O O (aA O ?_);refine aJ _ O (fun h4=>?_) (fun h4=>?_)
 ·refine aC O (EE (by exact inferInstance) (by exact inferInstance) (by exact inferInstance) O (gU 3 3 hS O O O O O O O ?_));intro w9 bO;refine bW O (zj O (bO.rd 3 O) O ?_);exact .inl ⟨by rw [gX,hK];omega,O,bO.none⟩
 refine aC O (aT gu O (a7 gu O (aR O O (xo N hS O O (by omega) ?_))));intro cz w7 bm;have bm:St w w7 (aQ 24 cz N N (List.replicate N bA)::[bD A4 i AR N cR none 0 0,aE 2 AR N cR (b5 M i),aE 2 lf i lj (iW M),bD A2 0 none 0 0 none 0 0,Bx 37 1 A1 [.slice A i c]]):=bm;refine aT (bm.rd 1 O) O (od 1 bm O O O O O ?_);intro w8 bI;have bI:St w w8 (aQ 24 cz N N (List.replicate N bA)::[bD A4 i AR N cR cz N N,aE 2 AR N cR (b5 M i),aE 2 lf i lj (iW M),bD A2 0 none 0 0 none 0 0,Bx 37 1 A1 [.slice A i c]]):=bI;clear bm hS;refine aq O (aO (Lm A1 A i c rs M _ (jf (bI.rd 5 O)) (bI.bE hR) hM) O ?_);rintro _ w9 ⟨r9,jM,rfl,PO,ax⟩;obtain⟨F,hF⟩:∃F,(gl M 0).length=F:=⟨_,rfl⟩;rw [hF]at h2 PO ax|-;have Gp:(ko M).length=F:=by simp [ko,hF]
 have bO:=bI.call ax;clear ax bI;obtain⟨KK,vH⟩:∃KK:List Ck,KK=aE 2 AR N cR (b5 M i)::bD A2 0 none 0 0 none 0 0::Bx 37 1 A1 [.slice A i c]::(aW 24 2 r9 F F jM (ko M)++ []):=⟨_,rfl⟩;have bO:St w w9 (bD A4 i AR N cR cz N N::(aW 24 2 cz N N (List.replicate N bA) (List.replicate N [])++KK)):=by
  rw [vH];have h9:=(bO.perm gB);have h9:=wO (t:=2) N h9;have hp:([aQ 24 cz N N (List.replicate N bA),bD A4 i AR N cR cz N N,aE 2 AR N cR (b5 M i),aE 2 lf i lj (iW M),bD A2 0 none 0 0 none 0 0,Bx 37 1 A1 [.slice A i c]]++ (aW 24 2 r9 F F jM (ko M)++ [])++cw 2 (List.replicate N bA) (List.replicate N [])).Perm (aE 2 lf i lj (iW M)::(bD A4 i AR N cR cz N N::(aW 24 2 cz N N (List.replicate N bA) (List.replicate N [])++ (aE 2 AR N cR (b5 M i)::bD A2 0 none 0 0 none 0 0::Bx 37 1 A1 [.slice A i c]::(aW 24 2 r9 F F jM (ko M)++ []))))):=by
   unfold aW;generalize cw 2 (List.replicate N bA) (List.replicate N [])=X;generalize aQ 24 r9 F F jM::cw 2 jM (ko M)++ []=Y;generalize aQ 24 cz N N (List.replicate N bA)=q1;generalize bD A4 i AR N cR cz N N=q2;generalize aE 2 AR N cR (b5 M i)=q3;generalize aE 2 lf i lj (iW M)=q4;generalize bD A2 0 none 0 0 none 0 0=q5;generalize Bx 37 1 A1 [.slice A i c]=q6;exact S5 q1 q2 q3 q4 q5 q6 X Y
  exact(h9.perm hp).tail
 have kZ:∀(rs':List aH) (B:ag),(aW 24 2 r9 F F jM (ko M)).Sublist (bD A4 i AR N cR cz N N::(aW 24 2 cz N N rs' B++KK)):=fun rs' B=>by
  rw [vH];refine List.Sublist.cons _ (List.Sublist.trans ?_ (iw _ _));refine List.Sublist.cons _ (List.Sublist.cons _ (List.Sublist.cons _ ?_));rw [eG];exact na _
 have iX:aX M M.length=N:=by rw [gX,hK]
 refine aR O O (aA O ?_);refine Cd.loop (α:=Nat×List aH×ag) (fun z=> [(1,.pointer A1),(2,.pointer A2),(4,.pointer A4),(40,.slice r9 F F),(41,aj F),(42,aj (z.1:Int))]) (fun z w'=>z.1<=F/\z.2.1.length=N/\lP M z.1 0 z.2.2/\St w w' (bD A4 i AR N cR cz N N::(aW 24 2 cz N N z.2.1 z.2.2++KK))) (fun z=>F - z.1) (0,List.replicate N bA,List.replicate N []) (Wn O) ⟨bk _,by simp,by have:=lP.zero M;rwa [iX]at this,bO⟩ ?_;clear bO;rintro⟨f,rY,B⟩ e dW ⟨hf,yK,hB,hS⟩;dsimp only at hf yK hB hS|-;refine bH O (aJ _ O (fun h5=>?_) (fun h5=>?_))
 ·have iZ:f<F:=by omega
  have q9:=(hS.sub (kZ rY B)).nQ Gp;have bw:=q9.at_ (i:=(f:Int)) (by omega) (by omega);have cT:=bw.1;have ur:gl (ko M) f=(List.range M.length).map fun k=>dG M k f:=by rw [cQ (by omega)];simp [ko]
  have eM:(rg jM f).n=i:=by rw [<-cT,ur];simp [gX]
  refine aC O (aw q9.top.2 O (bn q9.top O ?_));refine aq O (aR O O (aA O ?_));refine Cd.loop (α:=Nat×List aH×ag) (fun z=> [(1,.pointer A1),(2,.pointer A2),(4,.pointer A4),(40,.slice r9 F F),(41,aj F),(42,aj f),(8,.slice (rg jM f).a (rg jM f).n (rg jM f).c),(46,.slice (rg jM f).a (rg jM f).n (rg jM f).c),(47,aj ((rg jM f).n:Int)),(48,aj (z.1:Int))]) (fun z w'=>z.1<=i/\z.2.1.length=N/\lP M f z.1 z.2.2/\St w w' (bD A4 i AR N cR cz N N::(aW 24 2 cz N N z.2.1 z.2.2++KK))) (fun z=>i - z.1) (0,rY,B) (Wn O) ⟨bk _,yK,hB,hS⟩ ?_;clear hS hB q9 bw cT yK;rintro⟨j,bz,B4⟩ e eZ ⟨hj,nH,gu,aN⟩;dsimp only at hj nH gu aN|-;have ln:B4.length=N:=by rw [gu.len,iX]
  refine bH O (aJ _ O (fun h6=>?_) (fun h6=>?_))
  ·have nE:j<i:=by omega
   have q9:=(aN.sub (kZ bz B4)).nQ Gp;have bw:=q9.at_ (i:=(f:Int)) (by omega) (by omega);have cT:=bw.1;have Hi:gi (gl (ko M) f) j=dG M j f:=by rw [bQ (by omega)];simp [ur]
   have cd:=lS hM (i:=j) (f:=f) (by omega);have uB:=kF M (show j+1<=M.length by omega);rw [iX]at uB;obtain⟨E,hE⟩:∃E:Nat,dG M j f=E:=⟨(dG M j f).toNat,by omega⟩;rw [hE]at Hi cd;have eE:=gu.next hM (by omega) (show j<M.length by omega);rw [hE,eH]at eE;have lT:E<N:=by omega
   have yQ:(gl (ko M) f).take j=(List.range j).map fun k=>dG M k f:=by
    rw [ur,<-List.map_take,List.take_range,Nat.min_eq_left (by omega)]
   have iD:bu eZ cz N bz B4:=(aN.perm (pB (l₁:=aW 24 2 cz N N bz B4)).symm).jL ln;have uE:=(iD.at_ (i:=(E:Int)) (by omega) (by omega)).1;have yw:=gu.num E;refine aC O (aw bw.2 O (a6 bw O (aA O ?_)));rw [Hi];have mL:(bD A4 i AR N cR cz N N::(aW 24 2 cz N N bz B4++KK))[2+E]?=some (aE 2 (rg bz E).a (rg bz E).n (rg bz E).c (gl B4 E)):=rO (t1:=24) (t2:=2) (A:=cz) (n:=N) (c:=N) (rs:=bz) (xss:=B4) (pre:=[bD A4 i AR N cR cz N N]) (ks:=KK) (i:=E) (by omega) (by omega);have mJ:=fun(s:aH) (xs:ah)=>DM (t1:=24) (t2:=2) (A:=cz) (n:=N) (c:=N) (rs:=bz) (xss:=B4) (ks:=KK) (q:=bD A4 i AR N cR cz N N) (i:=E) s xs (by omega) (by omega)
   refine jc [11,13] [yP (az A4 2),yS (cz) (N) (N),yI ((E:Int)),yP (az (A4) 2),yS (cz) (N) (N),yI ((E:Int)),yP (az (cz) ((E:Int)).toNat),yS ((rg (bz) ((E:Int))).a) ((rg (bz) ((E:Int))).n) ((rg (bz) ((E:Int))).c),yS ((rg jM f).a) ((rg jM f).n) ((rg jM f).c),yI ((j:Int)),yS ((rg jM f).a) (j) ((rg jM f).c),.pr (fun v w'=>∃AZ cZ,v= .slice AZ ((rg bz E).n+j) cZ/\St w w' (bD A4 i AR N cR cz N N::(aQ 24 cz N N bz::(cw 2 (bz.set E ⟨AZ,(rg bz E).n+j,cZ⟩) (B4.set E (gl B4 E++ (gl (ko M) f).take j))++KK)))),yP (az cz ((E:Int)).toNat),.pr (fun _ w'=>∃AZ cZ,St w w' (bD A4 i AR N cR cz N N::(aW 24 2 cz N N (bz.set E ⟨AZ,(rg bz E).n+j,cZ⟩) (B4.set E (gl B4 E++ (gl (ko M) f).take j))++KK)))] (by kernel_rfl) (by kernel_rfl) (ly (ly (ly (ly (ly (ly (ly (ly (ly (ly (ly (cq.2 ⟨Ye.ct (fun v w w' h hb=>by obtain⟨AZ,cZ,hv,hT⟩:=h;exact⟨AZ,cZ,hv,hT.ao hb⟩),(ly (cq.2 ⟨Ye.ct (fun v w w' h hb=>by obtain⟨AZ,cZ,hT⟩:=h;exact⟨AZ,cZ,hT.ao hb⟩),(fun _ h=>by cases h)⟩))⟩)))))))))))) ?_ ?_
   ·refine⟨?_,?_,b8 O,cP fun _ _ hb _ _ _=>aT ((aN.rd 0 O).below hb) O (bJ O O),cP fun _ _ hb _ _ _=>a7 ((aN.rd 0 O).below hb) O (bJ O O),b8 O,cP fun _ _ hb _ _ _=>aw (iD.top.ao hb).2 O (bJ O O),cP fun _ _ hb _ _ _=>bn (iD.top.ao hb) O (bJ O O),b8 O,b8 O,aP fun _ _=>tC O O O (by have:=q9.cap_ (i:=(f:Int)) (by omega) (by omega);omega) (bJ O O),?_,?_,?_,av⟩
    ·intro e1 w1 cc en cC dq hp aZ hq;show ak _ _ _ _ _ _ _;have hX:Rd w1 A4 3 (fun q=> [Value.int .i64 (i:Int),.slice AR N cR,.slice cz N N].getD q undef):=by { have cC:=k7 cC (b:=1) (by kernel_rfl);rcases(show cc=0\/cc=1 by omega)with h | h; { exact(aN.ao (dq h)).rd 0 rfl }; { subst h;obtain⟨AZ,cZ,_,hT⟩:=hq 11 _ _ (by kernel_rfl) (by kernel_rfl) (by kernel_rfl) rfl rfl (by kernel_rfl);exact hT.rd 0 rfl } }
     refine aT hX O (ak.n (fO O (by exact O)))
    ·intro e1 w1 cc en cC dq hp aZ hq;show ak _ _ _ _ _ _ _;have hX:Rd w1 A4 3 (fun q=> [Value.int .i64 (i:Int),.slice AR N cR,.slice cz N N].getD q undef):=by { have cC:=k7 cC (b:=1) (by kernel_rfl);rcases(show cc=0\/cc=1 by omega)with h | h; { exact(aN.ao (dq h)).rd 0 rfl }; { subst h;obtain⟨AZ,cZ,_,hT⟩:=hq 11 _ _ (by kernel_rfl) (by kernel_rfl) (by kernel_rfl) rfl rfl (by kernel_rfl);exact hT.rd 0 rfl } }
     refine a7 hX O (ak.n (fO O (by exact O)))
    ·refine jh fun e1 w1 hb hp aZ hq=>?_
     have NS:=q9.ao hb;refine fS (2+E) (aN.ao hb) mL ((NS.at_ (i:=(f:Int)) (by omega) (by omega)).take (l:=j) (by omega)) O O O (by omega) (by omega) O ?_;intro AZ cZ wZ hZ;rw [mJ ⟨AZ,(rg bz E).n+j,cZ⟩ (gl B4 E++ (gl (ko M) f).take j)]at hZ;exact ak.n (eA.dn O ⟨AZ,cZ,O,hZ⟩)
    ·intro e1 w1 cc en cC dq hp aZ hq;show ak _ _ _ _ _ _ _;have hX:eU w1 cz N bz:=by { have cC:=k7 cC (b:=1) (by kernel_rfl);rcases(show cc=0\/cc=1 by omega)with h | h; { exact(aN.ao (dq h)).dB 1 rfl }; { subst h;obtain⟨AZ,cZ,_,hT⟩:=hq 11 _ _ (by kernel_rfl) (by kernel_rfl) (by kernel_rfl) rfl rfl (by kernel_rfl);exact hT.dB 1 rfl } }
     refine aw hX.2 O (ak.n (fO O (by exact O)))
    refine mD 1 fun e1 w1 hp aZ hq=>?_
    have cS:=hp 11 _ _ (by kernel_rfl) O O (by kernel_rfl);obtain⟨AZ,cZ,NI,hT⟩:=cS;refine tF (te:=24) (n:=N) (c:=N) (A:=cz) (xs:=bz) 1 hT O O (by exact NI) (by omega) ?_;intro wY hY;exact ak.n (eA.st O ⟨AZ,cZ,hY⟩)
   intro u iR _ hu _ _;obtain⟨AZ,cZ,hT⟩:=hu 13 _ rfl (by kernel_rfl);rw [yQ]at hT;refine ib O (aI O (aM O (tQ ?_)));exact⟨(j+1,_,_),by show i - (j+1)<i - j;omega,(Wn O),by show j+1<=i;omega,by simp [nH],eE,hT⟩
  have nE:j=M.length:=by omega
  subst nE;refine bj O (bl (cn O (aI O (aM O (tQ ?_)))));exact⟨(f+1,bz,B4),by show F - (f+1)<F - f;omega,(Wn O),by show f+1<=F;omega,nH,gu.row hM,aN⟩
 have iZ:f=F:=by omega
 subst iZ;have ln:B.length=N:=by rw [hB.len,iX]
 have vQ:∀e':Nat,e'<N->cs (gl B e')=gl (bY M) e':=fun e' lV=>lP.done hM (by rw [hF];exact hB) (by omega)
 have yw:∀e':Nat,(gl B e').length<=25*f:=fun e'=>by have:=hB.num e';omega
 have gu:=hS.rd 0 O;refine bj O (bl (cn O ?_));refine aT gu O (a7 gu O ?_);refine aR O O (aA O ?_);refine Cd.loop (α:=Nat×List aH) (fun z=> [(2,.pointer A2),(4,.pointer A4),(70,aj N),(71,aj (z.1:Int))]) (fun z w'=>z.1<=N/\z.2.length=N/\St w w' (bD A4 i AR N cR cz N N::(aW 24 2 cz N N z.2 (iN B z.1)++KK))) (fun z=>N - z.1) (0,rY) (Wn O) ⟨bk _,yK,by rw [Sr];exact hS⟩ ?_;clear hS gu;rintro⟨E,bz⟩ e eZ ⟨hE,nH,hS⟩;dsimp only at hE nH hS|-;have lA:=Sp B E;refine bH O (aJ _ O (fun h6=>?_) (fun h6=>?_))
 ·have lT:E<N:=by omega
  have Hw:=Sn (B:=B) (e:=E) (by omega);have gY:=Sq (B:=B) (e:=E) (by omega);have gu:=hS.rd 0 O;have iD:bu eZ cz N bz (iN B E):=(hS.perm (pB (l₁:=aW 24 2 cz N N bz (iN B E))).symm).jL (by omega);have uE:=(iD.at_ (i:=(E:Int)) (by omega) (by omega)).1;rw [Hw]at uE;have hq:=yw E;have mL:(bD A4 i AR N cR cz N N::(aW 24 2 cz N N bz (iN B E)++KK))[2+E]?=some (aE 2 (rg bz E).a (rg bz E).n (rg bz E).c (gl B E)):=by
   have h0:=rO (t1:=24) (t2:=2) (A:=cz) (n:=N) (c:=N) (rs:=bz) (xss:=iN B E) (pre:=[bD A4 i AR N cR cz N N]) (ks:=KK) (i:=E) (by omega) (by omega);rw [<-Hw];exact h0
  have Pn:=(fu.1 mL).1;have mJ:=fun(s:aH) (xs:ah)=>DM (t1:=24) (t2:=2) (A:=cz) (n:=N) (c:=N) (rs:=bz) (xss:=iN B E) (ks:=KK) (q:=bD A4 i AR N cR cz N N) (i:=E) s xs (by omega) (by omega)
  refine aC O (aT gu O (a7 gu O (aq O (aw iD.top.2 O (bn iD.top O (aO (TY (2+E) hS mL (by omega)) O ?_))))));rintro _ iR ⟨rfl,bm⟩;have p6:((bD A4 i AR N cR cz N N::(aW 24 2 cz N N bz (iN B E)++KK)).set (2+E) (aE 2 (rg bz E).a (rg bz E).n (rg bz E).c (jw (gl B E))))[2+E]?=some (aE 2 (rg bz E).a (rg bz E).n (rg bz E).c (jw (gl B E))):=by
   rw [jy,aF rfl,aF Pn]
  have e7:=mJ ⟨(rg bz E).a,(rg bz E).n,(rg bz E).c⟩ (jw (gl B E));have pT:eU iR cz N bz:=by
   have h8:=bm;rw [e7]at h8;exact h8.dB 1 O
  have sq:Rd iR A4 3 (fun q=> [Value.int .i64 (i:Int),.slice AR N cR,.slice cz N N].getD q undef):=by
   have h8:=bm;rw [e7]at h8;exact h8.rd 0 O
  refine aA O ?_;refine jc [8,10] [yP (az A4 2),yS (cz) (N) (N),yI ((E:Int)),yP (az (A4) 2),yS (cz) (N) (N),yI ((E:Int)),yP (az (cz) ((E:Int)).toNat),yS ((rg (bz) ((E:Int))).a) ((rg (bz) ((E:Int))).n) ((rg (bz) ((E:Int))).c),.pr (fun v w'=>v= .slice (rg bz E).a (ig (jw (gl B E))).length (rg bz E).c/\St w w' (bD A4 i AR N cR cz N N::(aQ 24 cz N N bz::(cw 2 (bz.set E ⟨(rg bz E).a,(ig (jw (gl B E))).length,(rg bz E).c⟩) ((iN B E).set E (ig (jw (gl B E))))++KK)))),yP (az cz ((E:Int)).toNat),.pr (fun _ w'=>St w w' (bD A4 i AR N cR cz N N::(aW 24 2 cz N N (bz.set E ⟨(rg bz E).a,(ig (jw (gl B E))).length,(rg bz E).c⟩) ((iN B E).set E (ig (jw (gl B E))))++KK)))] (by kernel_rfl) (by kernel_rfl) (ly (ly (ly (ly (ly (ly (ly (ly (cq.2 ⟨Ye.ct (fun v w w' h hb=> ⟨h.1,h.2.ao hb⟩),(ly (cq.2 ⟨Ye.ct (fun v w w' h hb=>h.ao hb),(fun _ h=>by cases h)⟩))⟩))))))))) ?_ ?_
  ·refine⟨?_,?_,b8 O,cP fun _ _ hb _ _ _=>aT (sq.below hb) O (bJ O O),cP fun _ _ hb _ _ _=>a7 (sq.below hb) O (bJ O O),b8 O,cP fun _ _ hb _ _ _=>aw (pT.ao hb).2 O (bJ O O),cP fun _ _ hb _ _ _=>bn (pT.ao hb) O (bJ O O),?_,?_,?_,av⟩
   ·intro e1 w1 cc en cC dq hp aZ hq;show ak _ _ _ _ _ _ _;have hX:Rd w1 A4 3 (fun q=> [Value.int .i64 (i:Int),.slice AR N cR,.slice cz N N].getD q undef):=by { have cC:=k7 cC (b:=1) (by kernel_rfl);rcases(show cc=0\/cc=1 by omega)with h | h; { exact Rd.below sq (dq h) }; { subst h;obtain⟨_,hT⟩:=hq 8 _ _ (by kernel_rfl) (by kernel_rfl) (by kernel_rfl) rfl rfl (by kernel_rfl);exact hT.rd 0 rfl } }
    refine aT hX O (ak.n (fO O (by exact O)))
   ·intro e1 w1 cc en cC dq hp aZ hq;show ak _ _ _ _ _ _ _;have hX:Rd w1 A4 3 (fun q=> [Value.int .i64 (i:Int),.slice AR N cR,.slice cz N N].getD q undef):=by { have cC:=k7 cC (b:=1) (by kernel_rfl);rcases(show cc=0\/cc=1 by omega)with h | h; { exact Rd.below sq (dq h) }; { subst h;obtain⟨_,hT⟩:=hq 8 _ _ (by kernel_rfl) (by kernel_rfl) (by kernel_rfl) rfl rfl (by kernel_rfl);exact hT.rd 0 rfl } }
    refine a7 hX O (ak.n (fO O (by exact O)))
   ·refine jh fun e1 w1 hb hp aZ hq=>?_
    refine aO (Md (2+E) (bm.ao hb) p6 (by omega)) O ?_;rintro _ w9 ⟨rfl,bI⟩;rw [List.set_set,mJ ⟨(rg bz E).a,(ig (jw (gl B E))).length,(rg bz E).c⟩ (ig (jw (gl B E)))]at bI;exact ak.n (eA.dn O ⟨O,bI⟩)
   ·intro e1 w1 cc en cC dq hp aZ hq;show ak _ _ _ _ _ _ _;have hX:eU w1 cz N bz:=by { have cC:=k7 cC (b:=1) (by kernel_rfl);rcases(show cc=0\/cc=1 by omega)with h | h; { exact pT.ao (dq h) }; { subst h;obtain⟨_,hT⟩:=hq 8 _ _ (by kernel_rfl) (by kernel_rfl) (by kernel_rfl) rfl rfl (by kernel_rfl);exact hT.dB 1 rfl } }
    refine aw hX.2 O (ak.n (fO O (by exact O)))
   refine mD 1 fun e1 w1 hp aZ hq=>?_
   have cS:=hp 8 _ _ (by kernel_rfl) O O (by kernel_rfl);obtain⟨Bw,hT⟩:=cS;refine tF (te:=24) (n:=N) (c:=N) (A:=cz) (xs:=bz) 1 hT O O (by exact Bw) (by omega) ?_;intro wY hY;exact ak.n (eA.st O hY)
  intro u lb _ hu _ _;have hT:=hu 10 _ O (by kernel_rfl);have hT:St w lb (bD A4 i AR N cR cz N N::(aW 24 2 cz N N (bz.set E ⟨(rg bz E).a,(ig (jw (gl B E))).length,(rg bz E).c⟩) ((iN B E).set E (cs (gl B E)))++KK)):=hT;rw [gY]at hT;refine ib O (aI O (aM O (tQ ?_)));exact⟨(E+1,_),by show N - (E+1)<N - E;omega,(Wn O),by show E+1<=N;omega,by simp [nH],hT⟩
 have lT:E=N:=by omega
 have dV:iN B E=bY M:=by
  rw [lT,<-ln,Sm];apply gj
  ·rw [fv,qT,ln,iX]
  intro k h1 h2;rw [fv]at h1;have e1:=vQ k (by omega);rw [cQ h1,cQ h2]at e1;rw [List.getElem_map];exact e1
 rw [dV]at hS;refine bj O (bl (cn O ?_));refine ak.dz 2 (hS.rd 0 O) O O O ?_;have ay:St w eZ (bD A2 0 none 0 0 none 0 0::(aE 2 AR N cR (b5 M i)::(aW 24 2 cz N N bz (bY M)++ []))):=by
  have hs:(aW 24 2 cz N N bz (bY M)++ [aE 2 AR N cR (b5 M i),bD A2 0 none 0 0 none 0 0]).Sublist (bD A4 i AR N cR cz N N::(aW 24 2 cz N N bz (bY M)++KK)):=by
   rw [vH];exact List.Sublist.cons _ (List.Sublist.append_left (List.Sublist.cons_cons _ (List.Sublist.cons_cons _ (List.nil_sublist _))) _)
  refine(hS.sub hs).perm ?_;rw [eG];exact(gB).trans (List.Perm.swap _ _ _)
 refine gU 3 0 ay O O O O O O O fun iR gv=>bW O (zj O (gv.rd 0 O) O ?_);refine .inr ⟨by omega,AR,cR,cz,N,bz,?_,by rw [iX];exact nH,?_⟩
 ·rw [iX,gX];rfl
 rw [iX,gX];exact gv.tail
structure CV where
 s:aH
 v:Int
section
variable {w0 w:aa} {ks:List Ck} {i:Nat} {t:ad} {A:ai} {k q:Nat} {cs:List CV}
end
section
variable {P:Program} {N:Nat} {ops:Array Oper} {K:Env->aa->Prop} {rest:List Oper} {e:Env} {w0 w w':aa} {ks:List Ck} {d:Nat} {ty:ad} {pos:String} {af:Array Edge}
end
structure TV where
 f:Int
 g:Int
 r:Int
def UA(x:TV):List ab:=[aj x.f,aj x.g,aj x.r]
def TV.v(x:TV):ab:= .agg #[aj x.f,aj x.g,aj x.r]
section
variable {w0 w:aa} {ks:List Ck} {i:Nat} {t:ad} {A:ai} {k q:Nat} {cs:List TV}
end
section
variable {P:Program} {N:Nat} {ops:Array Oper} {K:Env->aa->Prop} {rest:List Oper} {e:Env} {w0 w w':aa} {ks:List Ck} {d:Nat} {ty:ad} {pos:String} {af:Array Edge}
theorem nh{el:ad}{x:ae}{v0 v1 v2:ab}(hS:St w0 w ks)(hx:ev e x= .agg #[v0,v1,v2])(hb:Nat.blt d N=true)(hK:∀A w',St w0 w' (Bx el 3 A [v0,v1,v2]::ks)->ak P N ops K rest (br e d (.pointer A)) w')(hM:cX [v0,v1,v2]=false:=by rfl):ak P N ops K (⟨some d,.box el x,ty,pos,af,none⟩::rest) e w:= .z6 hS hx hb rfl hK hM
end
theorem KC(A:ai)(n c:Nat)(xs:ah)(w:aa)(hR:bS w A n xs)(hn:n<=1000000000):
 aG prog 115 [.slice A n c] w (fun v w'=>∃b:Bool,v= .bool b/\(b=true↔nX xs)/\St w w' []):=by
 have eW:=hR.1;refine bs func115 O ntmps115 O (bF O) ?_;refine aY O (aR O O (gH O O O (by omega) (aA O ?_)));refine Cd.loop (α:=Nat) (fun k=> [(0,.slice A n c),(3,aj ((n:Int) - 1 - (k:Int)))]) (fun k w'=>St w w' []/\(k<=n - 1)/\∀j:Nat,n - k<=j->j<n->gi xs ((j:Int) - 1)<=gi xs j) (fun k=>n - k) 0 ⟨O,aS (Value.int .i64) (by show(n:Int) - 1=(n:Int) - 1 - ((0:Nat):Int);omega),av⟩ ⟨St.refl w,bk _,fun j h1 h2=>by omega⟩ ?_;rintro k e w1 ⟨hS,hk,hK⟩;have iC:=hS.dh hR;refine bH O (aJ _ O (fun h1=>?_) (fun h1=>?_))
 ·have e1:((n:Int) - 1 - (k:Int))=((n - 1 - k:Nat):Int):=by omega
  have e2:((n:Int) - 1 - (k:Int) - 1)=((n - 1 - k:Nat):Int) - 1:=by omega
  refine cj O ?_;refine cN [xS (A) (n) (c),xI (((n:Int) - 1 - (k:Int))),xP (az (A) (((n:Int) - 1 - (k:Int))).toNat),xI (gi (xs) (((n:Int) - 1 - (k:Int)))),xS (A) (n) (c),xI (((n:Int) - 1 - (k:Int))),xI ((((n:Int) - 1 - (k:Int))) - ((1:Int))),xP (az (A) ((((n:Int) - 1 - (k:Int))) - ((1:Int))).toNat),xI (gi (xs) ((((n:Int) - 1 - (k:Int))) - ((1:Int)))),xB (decide (gi xs ((n:Int) - 1 - (k:Int))<gi xs ((n:Int) - 1 - (k:Int) - 1)))] O (da O) ?_ ?_
  ·refine⟨Dr O,Dr O,fun _ _ hb _ _=>aw (iC.ao hb).2 O Az,fun _ _ hb _ _=>a6 (iC.ao hb) O Az,Dr O,Dr O,fun _ _ _ _ _=>gH O O O (by omega) Az,fun _ _ hb _ _=>aw (iC.ao hb).2 O Az,fun _ _ hb _ _=>a6 (iC.ao hb) O Az,?_,av⟩
   ·intro e1 w1 hb hp aZ;refine aO (Fi _ _ _) O ?_;rintro _ w2 ⟨rfl,ax⟩;subst ax;refine ak.n (d0 (by exact O))
  intro u w2 hb _;have ay:=hS.ao hb;refine dM O (aJ _ O (fun h2=>?_) (fun h2=>?_))
  ·refine bV O (cy (b9 ?_));refine bG O ?_;refine⟨false,rfl,⟨fun h=> (by cases h),fun h=>?_⟩,ay⟩;rw [e1]at h2;have h3:=List.pairwise_iff_getElem.1 h (n - 1 - k - 1) (n - 1 - k) (by omega) (by omega) (by omega);rw [<-bQ (by omega),<-bQ (by omega),show((n - 1 - k - 1:Nat):Int)=((n - 1 - k:Nat):Int) - 1 by omega]at h3;omega
  ·refine aC O (gH O O O (by omega) (aM O (tQ ?_)));refine⟨k+1,by show n - (k+1)<n - k;omega,⟨O,aS (Value.int .i64) (by show(n:Int) - 1 - (k:Int) - 1=(n:Int) - 1 - ((k+1:Nat):Int);omega),av⟩,ay,by omega,fun j hj1 Pa=>?_⟩
   by_cases ej:n - k<=j
   ·exact hK j ej Pa
   ·have:(j:Int)=(n:Int) - 1 - (k:Int):=by omega
    rw [this];omega
 ·refine bj O (bl (dd O ?_));refine bG O ⟨true,O,⟨fun _=>?_,fun _=>O⟩,hS⟩;have key:∀j i:Nat,i<=j->j<n->gi xs i<=gi xs j:=by
   intro j
   induction j with
   | zero=>
    intro i hi _;have:i=0:=by omega
    rw [this];exact Int.le_refl _
   | succ j ih=>
    intro i hi hj
    by_cases e:i=j+1
    ·subst e;exact Int.le_refl _
    ·have h3:=ih i (by omega) (by omega);have h4:=hK (j+1) (by omega) hj;rw [show((j+1:Nat):Int) - 1=(j:Int) by omega]at h4;omega
  refine List.pairwise_iff_getElem.2 fun i j hi hj rp=>?_
  have:=key j i (by omega) (by omega)
  rwa [bQ hi,bQ hj]at this
theorem Ln{n:Int}{R:ah}(h:∀x∈R,0<=x/\x<=n - 1):sf 0 (n - 1) R:=h
theorem Ik(n:Int)(A D:ai)(cA cD:Nat)(R:ah)(rs:List aH)(B:ag)(w:aa)(hR:bS w A R.length R)(hB:bu w D B.length rs B)(hP:gf n R B):
 aG prog 60 [.agg #[aj n,.slice A R.length cA,.slice D B.length cD]] w (fun v w'=>v= .bool true/\St w w' []):=by
 have hn:=hP.n1;have jE:=hP.qL;have hle:=hP.len;have bw:=fun e (h:e<R.length)=>hP.row e h
 have cT:∀e:Nat,e<R.length->(gl B e).length<=500:=fun e h=>by
  have:=oH (N:=R.length) (bw e h).1.nodup fun x hx=> ((bw e h).2 x hx).1
  omega
 obtain⟨N,hN⟩:∃N,R.length=N:=⟨_,rfl⟩;rw [hN]at hR jE hle bw cT|-;rw [hle]at hB|-;refine bs func60 O ntmps60 O (bF O) (aY O (nh (St.refl w) O O ?_));intro A1 w1 aD;have dT:=aD.below;have h1:Rd w1 A1 3 (fun j=> [Value.int .i64 n,.slice A N cA,.slice D N cD].getD j undef):=aD.rd 0 O;have hR:=hR.ao dT;have hB:=hB.ao dT;have aD:=aD.none;refine aq O (aT h1 O (a7 h1 O (aO (tt _ _ _ _) O ?_)));rintro _ w1 ⟨rfl,rfl⟩;refine aq O (aT h1 O (kk (j:=0) h1 (by exact aS Value.pointer O) O O O O (aO (oK _ _ _ _) O ?_)));rintro _ w1 ⟨rfl,rfl⟩
 first | refine dv rfl rfl ?_ | refine eJ rfl rfl ?_
 refine aq O (bR 23 O (fun h=>absurd (by omega) h) (fun _=>?_));refine ar O (aq O (ar O (aq O ?_)));refine bR 27 O (fun h=>by omega) (fun _=>?_);refine ar O (aT h1 O (ar O (a7 h1 O ?_)));refine ar O (aR O O (ar O ?_));refine aT h1 O (ar O (a7 h1 O ?_));refine ar O (aR O O (ar O (aq O ?_)));refine bR 36 O (fun h=>absurd O h) (fun _=>?_);refine ar O (aT h1 O (ar O (a7 h1 O (ar O (aT h1 O (ar O (kk (j:=0) h1 (by exact aS Value.pointer O) O O O O ?_)))))));refine ar O (gH O O O (by omega) (ar O ?_));refine aO (Lx A N cA R 0 (n - 1) _ hR (by omega)) O ?_;rintro _ w2 ⟨rfl,ax⟩;have hb:=ax.below;have h1:=Rd.below h1 hb;have hR:=hR.ao hb;have hB:=hB.ao hb;have aD:=aD.ao hb;clear ax hb;refine ar O ?_
 first | refine dv rfl rfl ?_ | refine eJ rfl rfl ?_
 refine aq O (bR 45 O (fun h=>absurd (Ln hP.jK) h) (fun _=>?_));refine ar O (aT h1 O (ar O (a7 h1 O (ar O (aO (KC A N cA R _ hR (by omega)) O ?_)))));rintro _ w3 ⟨b,rfl,Oo,ax⟩;obtain rfl:=Oo.2 hP.vm;have hb:=ax.below;have h1:=Rd.below h1 hb;have hR:=hR.ao hb;have hB:=hB.ao hb;have aD:=aD.ao hb;clear ax hb;refine ar O ?_
 first | refine dv rfl rfl ?_ | refine eJ rfl rfl ?_
 refine aA O (Cd.dO O (aC O (aT h1 O (a7 h1 O ?_))));refine aR O O (aA O ?_);refine Cd.loop (α:=Nat) (fun k=> [(1,.pointer A1),(3,aj N),(52,.slice D N cD),(53,aj N),(54,aj k)]) (fun k w'=>k<=N/\St w3 w' []) (fun k=>N - k) 0 (Wn O) ⟨bk _,St.refl _⟩ ?_;rintro k e w4 ⟨hk,ax⟩;have hb:=ax.below;have h1:=Rd.below h1 hb;have hR:=hR.ao hb;have hB:=hB.ao hb;have aD:=aD.ao hb;clear hb;refine bH O (aJ _ O (fun h3=>?_) (fun h3=>?_))
 ·have lv:k<N:=by omega
  have eQ:=hB.at_ (i:=(k:Int)) (by omega) (by omega);have eM:=eQ.1;have yH:=cT k lv;have fF:=bw k lv;refine aC O (aw hB.top.2 O (bn hB.top O ?_));refine aq O (aR O O (aA O ?_));refine Cd.loop (α:=Nat) (fun q=> [(1,.pointer A1),(3,aj N),(52,.slice D N cD),(53,aj N),(54,aj k),(4,aj k),(5,.slice (rg rs k).a (rg rs k).n (rg rs k).c),(59,.slice (rg rs k).a (rg rs k).n (rg rs k).c),(60,aj ((rg rs k).n:Int)),(61,aj q)]) (fun q w'=>q<=(rg rs k).n/\St w4 w' []) (fun q=> (rg rs k).n - q) 0 (Wn O) ⟨bk _,St.refl _⟩ ?_;rintro q e w5 ⟨hq,mO⟩;have hb:=mO.below;have h1:=Rd.below h1 hb;have hR:=hR.ao hb;have hB:=hB.ao hb;have eQ:=eQ.ao hb;clear hb;refine bH O (aJ _ O (fun h4=>?_) (fun h4=>?_))
  ·have wh:q< (gl B k).length:=by omega
   have hd:=fF.2 (gi (gl B k) q) (gi_in wh);refine aC O (aw eQ.2 O (a6 eQ O (aA O ?_)));generalize G9:gi (gl B k) q=d at*
   by_cases C5:0<q
   ·
    have PV:=fF.1.rN (show q - 1<q by omega) wh;rw [G9,show((q - 1:Nat):Int)=(q:Int) - 1 by omega]at PV;refine cN [xI (d),xI ((N:Int)),xI (((N:Int)) - ((1:Int))),xB (decide (0<=d/\d<=(N:Int) - 1)),xB (false),xB (false),xP (az (A1) 1),xS (A) (N) (cA),xI (d),xP (az (A) (d).toNat),xI (gi (R) (d)),xP (az (A1) 1),xS (A) (N) (cA),xI ((k:Int)),xP (az (A) ((k:Int)).toNat),xI (gi (R) ((k:Int))),xB (false),xB (false),xB (false),xI ((q:Int)),xB (true),xB (true),xS ((rg rs k).a) ((rg rs k).n) ((rg rs k).c),xI ((q:Int)),xI (((q:Int)) - ((1:Int))),xP (az ((rg rs k).a) (((q:Int)) - ((1:Int))).toNat),xI (gi (gl B k) (((q:Int)) - ((1:Int)))),xI (d),xB (false),xB (false),xB (false)] O (da O) ?_ ?_
    ·refine⟨Dr O,Dr O,fun _ _ _ _ _=>gH O O O (by omega) Az,?_,fun _ _ _ _ _=>dv O O (Az (by exact aS Value.bool (cb (fun h=>h (by omega))))),Dr O,fun _ _ hb _ _=>ar O (aT (h1.below hb) O Az),fun _ _ hb _ _=>ar O (a7 (h1.below hb) O Az),Dr O,fun _ _ hb _ _=>ar O (aw (hR.ao hb).2 O Az),fun _ _ hb _ _=>ar O (a6 (hR.ao hb) O Az),fun _ _ hb _ _=>ar O (aT (h1.below hb) O Az),fun _ _ hb _ _=>ar O (a7 (h1.below hb) O Az),Dr O,fun _ _ hb _ _=>ar O (aw (hR.ao hb).2 O Az),fun _ _ hb _ _=>ar O (a6 (hR.ao hb) O Az),fun _ _ _ _ _=>Dk O (by exact aS Value.bool (cb (by omega))),Dr O,Dr O,Dr O,fun _ _ _ _ _=>Dk O (by exact aS Value.bool (dF (by omega))),Dr O,Dr O,Dr O,fun _ _ _ _ _=>ar O (gH O O O (by omega) Az),fun _ _ hb _ _=>ar O (aw (eQ.ao hb).2 O Az),fun _ _ hb _ _=>ar O (a6 (eQ.ao hb) O Az),Dr O,fun _ _ _ _ _=>Dk O (by exact aS Value.bool (cb (by omega))),Dr O,Dr O,av⟩;intro e1 w1 hb hp aZ;refine aO (oK _ _ _ _) O ?_;rintro _ w2 ⟨rfl,ax⟩;subst ax;refine ak.n (d0 (by exact O))
    intro u w6 hb _;refine dM O (Cd.dO O ?_);refine aC O (aI O (aM O (tQ ?_)));exact⟨q+1,by show(rg rs k).n - (q+1)< (rg rs k).n - q;omega,(Wn O),by omega,mO.ao hb⟩
   refine cN [xI (d),xI ((N:Int)),xI (((N:Int)) - ((1:Int))),xB (decide (0<=d/\d<=(N:Int) - 1)),xB (false),xB (false),xP (az (A1) 1),xS (A) (N) (cA),xI (d),xP (az (A) (d).toNat),xI (gi (R) (d)),xP (az (A1) 1),xS (A) (N) (cA),xI ((k:Int)),xP (az (A) ((k:Int)).toNat),xI (gi (R) ((k:Int))),xB (false),xB (false),xB (false),xI ((q:Int)),xB (false),xB (false),xU,xU,xU,xU,xU,xU,xU,xB (false),xB (false)] O (da O) ?_ ?_
   ·refine⟨Dr O,Dr O,fun _ _ _ _ _=>gH O O O (by omega) Az,?_,fun _ _ _ _ _=>dv O O (Az (by exact aS Value.bool (cb (fun h=>h (by omega))))),Dr O,fun _ _ hb _ _=>ar O (aT (h1.below hb) O Az),fun _ _ hb _ _=>ar O (a7 (h1.below hb) O Az),Dr O,fun _ _ hb _ _=>ar O (aw (hR.ao hb).2 O Az),fun _ _ hb _ _=>ar O (a6 (hR.ao hb) O Az),fun _ _ hb _ _=>ar O (aT (h1.below hb) O Az),fun _ _ hb _ _=>ar O (a7 (h1.below hb) O Az),Dr O,fun _ _ hb _ _=>ar O (aw (hR.ao hb).2 O Az),fun _ _ hb _ _=>ar O (a6 (hR.ao hb) O Az),fun _ _ _ _ _=>Dk O (by exact aS Value.bool (cb (by omega))),Dr O,Dr O,Dr O,fun _ _ _ _ _=>Dk O (by exact aS Value.bool (cb (by omega))),Dr O,Dr O,Dr O,Dr O,Dr O,Dr O,Dr O,Dr O,Dr O,Dr O,av⟩;intro e1 w1 hb hp aZ;refine aO (oK _ _ _ _) O ?_;rintro _ w2 ⟨rfl,ax⟩;subst ax;refine ak.n (d0 (by exact O))
   intro u w6 hb _;refine dM O (Cd.dO O ?_);refine aC O (aI O (aM O (tQ ?_)));exact⟨q+1,by show(rg rs k).n - (q+1)< (rg rs k).n - q;omega,(Wn O),by omega,mO.ao hb⟩
  refine bj O (bl (cn O (aI O (aM O (tQ ?_)))));exact⟨k+1,by show N - (k+1)<N - k;omega,(Wn O),by omega,ax.ao mO.below⟩
 clear ax h3;refine bj O (bl (cn O ?_));refine aT h1 O (a7 h1 O ?_);refine aR O O (aA O ?_);refine Cd.loop (α:=Nat) (fun k=> [(1,.pointer A1),(100,.slice D N cD),(101,aj N),(102,aj k)]) (fun k w'=>k<=N/\St w4 w' []) (fun k=>N - k) 0 (Wn O) ⟨bk _,St.refl _⟩ ?_;rintro k e w5 ⟨hk,ax⟩;have hb:=ax.below;have h1:=Rd.below h1 hb;have hB:=hB.ao hb;have aD:=aD.ao hb;clear hb;refine bH O (aJ _ O (fun h3=>?_) (fun h3=>?_))
 ·have lv:k<N:=by omega
  have eQ:=hB.at_ (i:=(k:Int)) (by omega) (by omega);have eM:=eQ.1;have yH:=cT k lv;have fF:=bw k lv;refine aC O (aw hB.top.2 O (bn hB.top O ?_));refine aq O (aR O O (aA O ?_));refine Cd.loop (α:=Nat) (fun q=> [(1,.pointer A1),(100,.slice D N cD),(101,aj N),(102,aj k),(9,.slice (rg rs k).a (rg rs k).n (rg rs k).c),(106,.slice (rg rs k).a (rg rs k).n (rg rs k).c),(107,aj ((rg rs k).n:Int)),(108,aj q)]) (fun q w'=>q<=(rg rs k).n/\w'=w5) (fun q=> (rg rs k).n - q) 0 (Wn O) ⟨bk _,O⟩ ?_;rintro q e w6 ⟨hq,rfl⟩;refine bH O (aJ _ O (fun h4=>?_) (fun h4=>?_))
  ·have wh:q< (gl B k).length:=by omega
   have yi:=gi_in wh;have hd:=fF.2 (gi (gl B k) q) yi;refine aC O (aw eQ.2 O (a6 eQ O (aq O (aT h1 O (a7 h1 O (aq O ?_))))));generalize G9:gi (gl B k) q=d at*;have jq:=hB.at_ (i:=d) (by omega) (by omega);have hrdn:=jq.1;have sW:(gl B d).length<=500:=by
    have:=cT d.toNat (by omega)
    rwa [Int.toNat_of_nonneg hd.1.1]at this
   refine aw hB.top.2 O (bn hB.top O ?_);refine aR O O (aA O ?_);refine Cd.loop (α:=Nat) (fun t=> [(1,.pointer A1),(100,.slice D N cD),(101,aj N),(102,aj k),(9,.slice (rg rs k).a (rg rs k).n (rg rs k).c),(106,.slice (rg rs k).a (rg rs k).n (rg rs k).c),(107,aj ((rg rs k).n:Int)),(108,aj q),(116,.slice (rg rs d).a (rg rs d).n (rg rs d).c),(117,aj ((rg rs d).n:Int)),(118,aj t)]) (fun t w'=>t<=(rg rs d).n/\w'=w6) (fun t=> (rg rs d).n - t) 0 (Wn O) ⟨bk _,O⟩ ?_;rintro t e w7 ⟨ht,rfl⟩;refine bH O (aJ _ O (fun h5=>?_) (fun h5=>?_))
   ·have jr:t< (gl B d).length:=by omega
    have sG:=gi_in jr;have P9:=hP.tr k (by omega) d yi _ sG;refine aC O (aw jq.2 O (a6 jq O (aq O (aO (E3 _ _ _ (gl B k) _ _ eQ fF.1 (by omega)) O ?_))));rintro _ _ ⟨⟨p,rfl⟩,rfl⟩;refine aq O ?_
    first | refine dv rfl rfl ?_ | refine eJ rfl rfl ?_
    refine aA O (kJ O (fun h=>h P9) (aC O (aI O (aM O (tQ ?_)))));exact⟨t+1,by show(rg rs d).n - (t+1)< (rg rs d).n - t;omega,(Wn O),by omega,O⟩
   refine bj O (bl (cn O (aI O (aM O (tQ ?_)))));exact⟨q+1,by show(rg rs k).n - (q+1)< (rg rs k).n - q;omega,(Wn O),by omega,O⟩
  refine bj O (bl (cn O (aI O (aM O (tQ ?_)))));exact⟨k+1,by show N - (k+1)<N - k;omega,(Wn O),by omega,ax⟩
 refine bj O (bl (dd O ?_));exact bG O ⟨O,aD⟩
theorem SZ{α:Type}(x a b c d e f g:α)(X Y:List α):(x::a::b::c::d::e::f::g::(X++Y)).Perm (a::b::c::d::e::f::g::((X++ [x])++Y)):=by
 classical
 refine nb.2 fun z=>?_
 simp only [nY,mm,pA];omega
theorem S0{α:Type}(x a b c d e f g:α)(X Y:List α):(x::a::b::c::d::e::f::g::(X++Y)).Perm (a::b::c::d::e::f::g::(X++ (Y++ [x]))):=by
 classical
 refine nb.2 fun z=>?_
 simp only [nY,mm,pA];omega
theorem S1{α:Type}(a b c d e f g:α)(X Y:List α):(a::b::c::d::e::f::g::(X++Y)).Perm (a::((f::X)++ (b::c::d::e::((g::Y)++ [])))):=by
 classical
 refine nb.2 fun z=>?_
 simp only [nY,mm,pA];omega
def iP(M:ag)(i:Nat):ah:=(List.range i).map fun k=> (aX M k:Int)
def jZ(M:ag)(i:Nat):ag:=(List.range i).map (de M)
theorem SO(M:ag)(i:Nat):iP M (i+1)=iP M i++ [(aX M i:Int)]:=by simp [iP,lg]
theorem RK(M:ag)(i:Nat):jZ M (i+1)=jZ M i++ [de M i]:=by simp [jZ,lg]
theorem Jn{M:ag}{i k:Nat}(h:k<i):gi (iP M i) k=(aX M k:Int):=by
 rw [bQ (by simp [iP];exact h)];simp [iP]
theorem Ix{M:ag}{i k:Nat}(h:k<i):gl (jZ M i) k=de M k:=by
 rw [cQ (by simp [jZ];exact h)];simp [jZ]
theorem DE(M:ag)(i:Nat):(jZ M i).length=i:=by simp [jZ]
def mj(M:ag)(i f k:Nat)(G:List Bool):Prop:=G.length=aX M M.length*aX M M.length/\∀e d:Nat,e<aX M M.length->d<aX M M.length->(gb G ((e*aX M M.length+d:Nat):Int)=true↔∃f' k',(f'<f\/f'=f/\k'<k)/\f'< (gl M 0).length/\k'<i/\dG M i f'=e/\dG M k' f'=d)
theorem SX{N e d e' d':Nat}(h1:d<N)(h2:d'<N)(h:e*N+d=e'*N+d'):e=e'/\d=d':=by
 have h3:(e*N+d) / N=e:=by rw [Nat.add_comm,Nat.add_mul_div_right _ _ (by omega),Nat.div_eq_of_lt h1,Nat.zero_add]
 have h4:(e'*N+d') / N=e':=by rw [Nat.add_comm,Nat.add_mul_div_right _ _ (by omega),Nat.div_eq_of_lt h2,Nat.zero_add]
 have h5:e=e':=by rw [<-h3,h,h4]
 subst h5;exact⟨O,by omega⟩
theorem DZ{N e d:Nat}(h1:e<N)(h2:d<N):e*N+d<N*N:=by
 have:(e+1)*N<=N*N:=Nat.mul_le_mul_right N h1;rw [Nat.succ_mul]at this;omega
theorem mj.zero(M:ag)(i:Nat):mj M i 0 0 (List.replicate (aX M M.length*aX M M.length) false):=by
 refine⟨by simp,fun e d he hd=>?_⟩;have:gb (List.replicate (aX M M.length*aX M M.length) false) ((e*aX M M.length+d:Nat):Int)=false:=by
  simp only [gb,eH,bX,List.getElem?_replicate]
  split<;>rfl
 rw [this];constructor
 ·intro h;cases h
 rintro⟨f',k',h,_⟩;omega
theorem mj.next{M:ag}(hM:bN M){i f k:Nat}{G:List Bool}(h:mj M i f k G)(hf:f< (gl M 0).length)(hi:i<M.length)(hk:k<i):mj M i f (k+1) (G.set ((dG M i f).toNat*aX M M.length+ (dG M k f).toNat) true):=by
 have h1:=lS hM (i:=i) hf;have h2:=lS hM (i:=k) hf;have h3:=kF M (show i+1<=M.length by omega);have h4:=kF M (show k+1<=M.length by omega);refine⟨by rw [iS];exact h.1,fun e d he hd=>?_⟩;have hl:=DZ (e:=(dG M i f).toNat) (d:=(dG M k f).toNat) (N:=aX M M.length) (by omega) (by omega);have hg:gb (G.set ((dG M i f).toNat*aX M M.length+ (dG M k f).toNat) true) ((e*aX M M.length+d:Nat):Int)=if(dG M i f).toNat*aX M M.length+ (dG M k f).toNat=e*aX M M.length+d then true else gb G ((e*aX M M.length+d:Nat):Int):=by
  simp only [gb,eH,bX,jy]
  by_cases e1:(dG M i f).toNat*aX M M.length+ (dG M k f).toNat=e*aX M M.length+d
  ·rw [aF e1,aF (by rw [h.1];exact hl),aF e1];rfl
  rw [aB e1,aB e1]
 rw [hg]
 by_cases e1:(dG M i f).toNat*aX M M.length+ (dG M k f).toNat=e*aX M M.length+d
 ·rw [aF e1];have:=SX (by omega) hd e1;exact⟨fun _=> ⟨f,k,.inr ⟨O,by omega⟩,hf,hk,by omega,by omega⟩,fun _=>O⟩
 rw [aB e1,h.2 e d he hd];constructor
 ·rintro⟨f',k',q,r⟩;exact⟨f',k',by omega,r⟩
 rintro⟨f',k',q,r1,r2,r3,r4⟩;refine⟨f',k',?_,r1,r2,r3,r4⟩
 by_cases e2:f'=f/\k'=k
 ·obtain⟨rfl,rfl⟩:=e2;exact absurd (by rw [r3,r4];rfl) e1
 omega
theorem mj.row{M:ag}{i f:Nat}{G:List Bool}(h:mj M i f i G):mj M i (f+1) 0 G:=by
 refine⟨h.1,fun e d he hd=>?_⟩;rw [h.2 e d he hd];constructor
 ·rintro⟨f',k',q,r⟩;exact⟨f',k',by omega,r⟩
 rintro⟨f',k',q,r1,r2,r3⟩;exact⟨f',k',by omega,r1,r2,r3⟩
theorem mj.done{M:ag}(hM:bN M){i:Nat}{G:List Bool}(h:mj M i (gl M 0).length 0 G)(hi:i<M.length){e d:Nat}(he:e<aX M M.length)(hd:d<aX M M.length):gb G ((e*aX M M.length+d:Nat):Int)=true↔((aX M i<=e/\e<aX M (i+1))/\(d:Int)∈gl (bY M) e):=by
 rw [h.2 e d he hd,om (by omega) (by omega)];constructor
 ·rintro⟨f',k',_,r1,r2,r3,r4⟩;have:=lS hM (i:=i) r1;exact⟨by omega,by omega,f',r1,i,hi,k',r2,r3.symm,r4.symm⟩
 rintro⟨h1,_,f',r1,i',bP,k',r2,r3,r4⟩;have h5:=lS hM (i:=i') r1;have:i'=i:=by
  rcases Nat.lt_trichotomy i' i with h | h | h
  ·have:=kF M (show i'+1<=i by omega);omega
  ·exact h
  have:=kF M (show i+1<=i' by omega);omega
 subst this;exact⟨f',k',by omega,r1,r2,r3.symm,r4.symm⟩
noncomputable def nm(M:ag)(i e d x:Nat):ah:=if x<aX M i then gl (bY M) x else if aX M (i+1)<=x then []else if x<e then gl (bY M) x else if x=e then(gl (bY M) x).filter fun y=>decide (y<d)else []
noncomputable def dU(M:ag)(i e d:Nat):ag:=(List.range (aX M M.length)).map (nm M i e d)
theorem qK(M:ag)(i e d:Nat):(dU M i e d).length=aX M M.length:=by simp [dU]
theorem EZ{M:ag}{i e d x:Nat}(h:x<aX M M.length):gl (dU M i e d) x=nm M i e d x:=by
 rw [cQ (by rw [qK];exact h)];simp [dU]
theorem M4{M:ag}{e:Nat}(he:e<aX M M.length):gl (bY M) e=(gl (bY M) e).filter (fun y=>decide (y< (aX M M.length:Int))):=by
 refine(List.filter_eq_self.2 fun y hy=>?_).symm;rw [om (by omega) (by omega)]at hy;exact dF hy.1.2
theorem FR(M:ag)(e:Int):SA (gl (bY M) e):=by
 have dV:∀l∈bY M,SA l:=fun l hl=>by
  unfold bY at hl;obtain⟨x,_,rfl⟩:=fq.1 hl;exact lL _ (qz _)
 by_cases h:e.toNat< (bY M).length
 ·have:gl (bY M) e=gl (bY M) (e.toNat:Int):=by simp only [gl,eH]
  rw [this,cQ h];exact dV _ (di _)
 have:gl (bY M) e=[]:=by simp [gl,bX,oP (Nat.le_of_not_lt h)]
 rw [this];exact List.Pairwise.nil
theorem M5{M:ag}(hM:bN M){e:Nat}(he:e<aX M 1):gl (bY M) e=[]:=by
 have h5:=hM.1;have uB:=kF M (show 1<=M.length by omega);refine List.eq_nil_iff_forall_not_mem.2 fun y hy=>?_
 rw [om (by omega) (by omega)]at hy;obtain⟨_,f,hf,i,hi,k,hk,h1,_⟩:=hy;have h2:=lS hM (i:=i) hf;have h3:=kF M (show 1<=i by omega);omega
theorem LD{M:ag}(hM:bN M):dU M 1 0 0=List.replicate (aX M M.length) []:=by
 apply gj (by simp [dU]);intro x h1 h2;rw [qK]at h1;simp only [dU,List.getElem_map,List.getElem_range,List.getElem_replicate];unfold nm
 split
 ·exact M5 hM (by assumption)
 split
 ·rfl
 split
 ·omega
 split
 ·rename_i h;subst h;rw [List.filter_eq_nil_iff];intro y hy h;have:=kc h;rw [om (by omega) (by omega)]at hy;omega
 rfl
theorem LC{M:ag}{i:Nat}:dU M i (aX M M.length) 0=dU M (i+1) 0 0:=by
 unfold dU;refine ki fun x hx=>?_
 have hx:=iI.1 hx;have h1:=kF M (show i+1<=i+1+1 by omega);have h2:=kF M (show i<=i+1 by omega);have hz:∀y∈gl (bY M) x,0<=y:=fun y hy=>by rw [om (by omega) (by omega)]at hy;omega
 unfold nm
 by_cases c1:x<aX M i
 ·rw [aF c1,aF (by omega)]
 rw [aB c1]
 by_cases c2:x<aX M (i+1)
 ·rw [aB (by omega),aF hx,aF c2]
 rw [aF (by omega),aB c2]
 split
 ·rfl
 rw [aB (by omega)]
 split
 ·rename_i h;subst h;symm;rw [List.filter_eq_nil_iff];intro y hy h;have:=kc h;have:=hz y hy;omega
 rfl
theorem LG{M:ag}{i e:Nat}:dU M i e (aX M M.length)=dU M i (e+1) 0:=by
 unfold dU;refine ki fun x hx=>?_
 have hx:=iI.1 hx;have hz:∀y∈gl (bY M) x,0<=y:=fun y hy=>by rw [om (by omega) (by omega)]at hy;omega
 unfold nm
 by_cases c1:x<aX M i
 ·rw [aF c1,aF c1]
 rw [aB c1,aB c1]
 by_cases c2:aX M (i+1)<=x
 ·rw [aF c2,aF c2]
 rw [aB c2,aB c2]
 by_cases c3:x<e
 ·rw [aF c3,aF (by omega)]
 rw [aB c3]
 by_cases c4:x=e
 ·rw [aF c4,aF (by omega),<-M4 hx]
 rw [aB c4,aB (by omega)]
 split
 ·rename_i h;subst h;symm;rw [List.filter_eq_nil_iff];intro y hy h;have:=kc h;have:=hz y hy;omega
 rfl
theorem LH{M:ag}{i e d:Nat}(he:e<aX M M.length)(hd:d<aX M M.length)(h:¬((aX M i<=e/\e<aX M (i+1))/\(d:Int)∈gl (bY M) e)):dU M i e (d+1)=dU M i e d:=by
 unfold dU;refine ki fun x hx=>?_
 unfold nm
 by_cases c1:x<aX M i
 ·rw [aF c1,aF c1]
 rw [aB c1,aB c1]
 by_cases c2:aX M (i+1)<=x
 ·rw [aF c2,aF c2]
 rw [aB c2,aB c2]
 by_cases c3:x<e
 ·rw [aF c3,aF c3]
 rw [aB c3,aB c3]
 by_cases c4:x=e
 ·subst c4;rw [aF rfl,aF rfl];refine List.filter_congr fun y hy=>?_
  have cG:y≠(d:Int):=fun e=>h ⟨by omega,e▸hy⟩
  exact gJ.2 (by omega)
 rw [aB c4,aB c4]
theorem LF{M:ag}{i e d:Nat}(he:e<aX M M.length)(h:(aX M i<=e/\e<aX M (i+1))/\(d:Int)∈gl (bY M) e):(dU M i e d).set e (gl (dU M i e d) e++ [(d:Int)])=dU M i e (d+1):=by
 apply gj (by simp [dU]);intro x h1 h2;rw [qK]at h2;rw [List.getElem_set];have e2:∀d' (hx:x< (dU M i e d').length),(dU M i e d')[x]=nm M i e d' x:=fun d' hx=>by simp [dU]
 rw [e2 (d+1) (by rw [qK];exact h2),e2 d (by rw [qK];exact h2)]
 by_cases c:e=x
 ·subst c;rw [aF rfl,EZ he];have hz:∀d':Nat,nm M i e d' e=(gl (bY M) e).filter fun y=>decide (y< (d':Int)):=fun d'=>by
   unfold nm;rw [aB (by omega),aB (by omega),aB (by omega),aF rfl]
  rw [hz,hz];have hs:=FR M e;refine SA.eq ?_ (lL _ hs) fun y=>?_
  ·rw [SA,List.pairwise_append];refine⟨lL _ hs,List.pairwise_singleton _ _,fun a ha b hb=>?_⟩;obtain rfl:=fQ.1 hb;exact kc (eO.1 ha).2
  rw [gQ,eO,eO,fQ];simp only [jj];constructor
  ·rintro(⟨h3,h4⟩ | rfl)
   ·exact⟨h3,by omega⟩
   exact⟨h.2,by omega⟩
  rintro⟨h3,h4⟩
  by_cases e3:y=(d:Int)
  ·exact .inr e3
  exact .inl ⟨h3,by omega⟩
 rw [aB c];unfold nm
 by_cases c1:x<aX M i
 ·rw [aF c1,aF c1]
 rw [aB c1,aB c1]
 by_cases c2:aX M (i+1)<=x
 ·rw [aF c2,aF c2]
 rw [aB c2,aB c2]
 by_cases c3:x<e
 ·rw [aF c3,aF c3]
 rw [aB c3,aB c3,aB (fun h=>c h.symm),aB (fun h=>c h.symm)]
theorem LB{M:ag}:dU M M.length 0 0=bY M:=by
 apply gj (by rw [qK,qT]);intro x h1 h2;rw [qK]at h1;simp only [dU,List.getElem_map,List.getElem_range];unfold nm;rw [aF h1,cQ h2]
theorem S2{α:Type}(x y p r i q b:α):[x,y,p,r,i,q,b].Perm [p,x,i,q,b,y,r]:=by
 classical
 refine nb.2 fun z=>?_
 simp only [mm,pA];omega
theorem wV{t:ad}{rs:List aH}{xss:ag}{a:ai}{n c:Nat}{x:ah}(h:rs.length=xss.length):cw t (rs++ [⟨a,n,c⟩]) (xss++ [x])=cw t rs xss++ [aE t a n c x]:=by
 rw [rX h];rfl
abbrev qw(A1 A2 A4 A5 A6:ai)(A:ai)(n c:Nat)(M:ag)(i j i':Nat)(AR:ai)(cR:Nat)(AD:ai)(cD:Nat)(gA:List aH)(c5 c6:Nat)(dK:List aH):List Ck:=
 bD A4 n AR (aX M i+j) cR AD (aX M i+j) cD::aE 2 AR (aX M i+j) cR (b5 M i++List.replicate j (i:Int))::aE 2 A5 i' c5 (iP M i')::bD A2 0 none 0 0 none 0 0::Bx 37 1 A1 [.slice A n c]::aQ 24 AD (aX M i+j) cD gA::aQ 24 A6 i' c6 dK::(cw 2 gA (List.replicate (aX M i+j) [])++cw 2 dK (jZ M i'))
theorem DN{t1 t2:ad}{A:ai}{n c:Nat}{rs:List aH}{xss:ag}{pre ks:List Ck}{i:Nat}(s:aH)(xs:ah)(hr:rs.length=xss.length)(hi:i<rs.length):(pre++ (aW t1 t2 A n c rs xss++ks)).set (pre.length+1+i) (aE t2 s.a s.n s.c xs)=pre++ (aQ t1 A n c rs::(cw t2 (rs.set i s) (xss.set i xs)++ks)):=by
 rw [List.set_append_right _ _ (by omega),show pre.length+1+i - pre.length=i+1 by omega]
 congr 1
 show(aQ t1 A n c rs::(cw t2 rs xss++ks)).set (i+1) _=_;rw [List.set_cons_succ,List.set_append_left _ _ (by rw [tl hr];exact hi),Ef hr]
abbrev kG(A1 A2 A5 A6:ai)(A:ai)(n c:Nat)(M:ag)(AR:ai)(N cR c5 c6:Nat)(dK:List aH):List Ck:=
 aE 2 AR N cR (b5 M n)::aE 2 A5 n c5 (iP M n)::bD A2 0 none 0 0 none 0 0::Bx 37 1 A1 [.slice A n c]::(aW 24 2 A6 n c6 dK (jZ M n)++ [])
theorem RB(A:ai)(n c:Nat)(rs:List aH)(M:ag)(w:aa)(hR:bu w A n rs M)(hM:bN M):
 aG prog 102 [.agg #[.slice A n c]] w (fun v w'=>∃AR cR AD cD gA,v= .agg #[aj (M.length:Int),.slice AR (aX M M.length) cR,.slice AD (aX M M.length) cD]/\gA.length=aX M M.length/\St w w' (aE 2 AR (aX M M.length) cR (b5 M M.length)::(aW 24 2 AD (aX M M.length) cD gA (bY M)++ []))):=by
 have hl:=hR.len;have h1:=hM.1;have h2:=hM.2.1;have rA:∀i,i<=n->aX M i<=2000:=fun i hi=>by
  have h3:=zd (M:=M) i;have h4:i* (gl M 0).length<=5*400:=Nat.mul_le_mul (by omega) (by omega);omega
 refine bs func102 O ntmps102 O (uQ O O) (aY O (gS (St.refl w) O O ?_));intro A1 w1 aD;refine oS aD O fun A2 w2 ay=>aq O (aT (ay.rd 1 O) O (a7 (ay.rd 1 O) O ?_));refine aR O O (aq O ?_);refine EF (by exact inferInstance) (by exact inferInstance) (by exact inferInstance) O O O O O O (ic ay O ?_);intro A5 w3 aL;refine ic aL O fun A6 w4 aN=>oS aN O fun A4 w5 aV=>gU 3 0 aV O O O O O O O ?_;intro w6 bg;have bg:St w w6 (qw A1 A2 A4 A5 A6 A n c M 0 0 0 none 0 none 0 [] 0 0 []):=by
  have h7:=(bg.nil 24).nil 2;exact h7.perm (S2 _ _ _ _ _ _ _)
 clear aV aN aL ay aD;refine aA O ?_;refine Cd.loop (α:=Nat×(ai×Nat)×(ai×Nat×List aH)×(ai×Nat)×(ai×Nat×List aH)) (fun z=> [(1,.pointer A1),(2,.pointer A2),(3,aj n),(4,.pointer A4),(5,.slice z.2.2.2.1.1 z.1 z.2.2.2.1.2),(6,.slice z.2.2.2.2.1 z.1 z.2.2.2.2.2.1),(7,aj (z.1:Int))])
  (fun z w'=>z.1<=n/\z.2.2.1.2.2.length=aX M z.1/\z.2.2.2.2.2.2.length=z.1/\St w w' (qw A1 A2 A4 z.2.2.2.1.1 z.2.2.2.2.1 A n c M z.1 0 z.1 z.2.1.1 z.2.1.2 z.2.2.1.1 z.2.2.1.2.1 z.2.2.1.2.2 z.2.2.2.1.2 z.2.2.2.2.2.1 z.2.2.2.2.2.2)) (fun z=>n - z.1) (0,(none,0),(none,0,[]),(A5,0),(A6,0,[])) ⟨rfl,rfl,rfl,rfl,rfl,rfl,rfl,av⟩ ⟨bk _,rfl,rfl,bg⟩ ?_
 clear bg;rintro⟨i,⟨AR,cR⟩,⟨AD,cD,gA⟩,⟨A5,c5⟩,⟨A6,c6,dK⟩⟩ e w7 ⟨hi,rE,sW,hS⟩;dsimp only at hi rE sW hS|-;have HC:=rA i hi;refine bH O (aJ _ O (fun h3=>?_) (fun h3=>?_))
 ·have cd:i<n:=by omega
  have ja:=vu M i;have CY:=rA (i+1) (by omega);have sT:aX M (i+1)=aX M i+ (iz M i).toNat:=O;obtain⟨N,hN⟩:∃N:Nat,iz M i=N:=⟨(iz M i).toNat,by omega⟩;rw [hN,eH]at sT;have jF:=MR hM i;rw [hN]at jF ja;have sI:b5 M (i+1)=b5 M i++List.replicate N (i:Int):=by rw [b5,hN,eH]
  refine aC O (aT (hS.rd 0 O) O (a7 (hS.rd 0 O) O (aR O O (e6 hS O O O ?_))));intro A32 w8 bI;refine fS 3 bI O (bI.bU 0 O) O O O (by omega) (by omega) O ?_;intro px pJ w9 bO;have bO:=bO.tail;have e5:iP M i++ [((aX M i+0:Nat):Int)]=iP M (i+1):=(SO M i).symm;rw [e5]at bO;clear bI hS;refine aq O (ak.dz 0 (bO.rd 4 O) O O O (aq O (aO (Rj A n c rs M i _ (bO.bE hR) hM cd) O ?_)));rintro _ dW ⟨oL,pK,rfl,ax⟩;have cJ:=bO.call ax;clear ax bO;refine mu cJ O O O fun cz eZ il=>iU 8 il O (il.dB 0 O) O O O (by omega) (by omega) O ?_;intro oM pL iR gv;have gv:St w iR (aE 2 oL (gl M 0).length pK (de M i)::bD A4 n AR (aX M i+0) cR AD (aX M i+0) cD::aE 2 AR (aX M i+0) cR (b5 M i++List.replicate 0 (i:Int))::aE 2 px (i+1) pJ (iP M (i+1))::bD A2 0 none 0 0 none 0 0::Bx 37 1 A1 [.slice A n c]::aQ 24 AD (aX M i+0) cD gA::aQ 24 oM (i+1) pL (dK++ [⟨oL,(gl M 0).length,pK⟩])::(cw 2 gA (List.replicate (aX M i+0) [])++cw 2 dK (jZ M i))):=gv.tail;have gv:St w iR (qw A1 A2 A4 px oM A n c M i 0 (i+1) AR cR AD cD gA pJ pL (dK++ [⟨oL,(gl M 0).length,pK⟩])):=by
   have h9:=gv.perm (S0 _ _ _ _ _ _ _ _ _ _);rw [<-wV (by rw [sW,DE]),<-RK]at h9;exact h9
  have HN:(dK++ [(⟨oL,(gl M 0).length,pK⟩:aH)]).length=i+1:=by simp [sW]
  have Hh:rg (dK++ [(⟨oL,(gl M 0).length,pK⟩:aH)]) i=⟨oL,(gl M 0).length,pK⟩:=by
   unfold rg;rw [eH,bX,mq (by omega),sW,Nat.sub_self];rfl
  clear cJ il;generalize dK++ [(⟨oL,(gl M 0).length,pK⟩:aH)]=nS at*;have ue:eU iR oM (i+1) nS:=gv.dB 6 O;have Gu:bS iR oL (gl M 0).length (de M i):=by
   have hk6:cw 2 nS (jZ M (i+1))≠[]\/True:= .inr av;have h7:=zm (t:=2) (rs:=nS) (xss:=jZ M (i+1)) (i:=i) (by rw [HN,DE]) (by omega);have h8:=gv.sub (show(cw 2 nS (jZ M (i+1))).Sublist (qw A1 A2 A4 px oM A n c M i 0 (i+1) AR cR AD cD gA pJ pL nS) from(((((((iw _ _).cons _).cons _).cons _).cons _).cons _).cons _).cons _);have h9:=h8.bU i h7;have e8:nS.getD i bA=⟨oL,(gl M 0).length,pK⟩:=Hh;have e9:(jZ M (i+1)).getD i []=de M i:=Ix (show i<i+1 by omega);rw [e8,e9]at h9;exact h9
  refine aq O (aw ue.2 O (bn ue O ?_));rw [Hh];refine Wh (Rl oL (gl M 0).length pK (de M i) _ Gu (by omega) (fun x hx=>by
   obtain⟨k,hk,rfl⟩:=fP.1 hx;rw [xE]at hk;have:=vw hM i k hk;rw [bQ (by rw [xE];exact hk)]at this;omega)) rfl rfl rfl ?_
  rintro _ iR ⟨rfl,rfl⟩;rw [jF];refine aA O ?_;clear ue Gu;refine Cd.loop (α:=Nat×(ai×Nat)×(ai×Nat×List aH)) (fun z=> [(1,.pointer A1),(2,.pointer A2),(3,aj n),(4,.pointer A4),(5,.slice px (i+1) pJ),(6,.slice oM (i+1) pL),(7,aj i),(8,aj ((N:Int) - (z.1:Int)))])
   (fun z w'=>z.1<=N/\z.2.2.2.2.length=aX M i+z.1/\St w w' (qw A1 A2 A4 px oM A n c M i z.1 (i+1) z.2.1.1 z.2.1.2 z.2.2.1 z.2.2.2.1 z.2.2.2.2 pJ pL nS)) (fun z=>N - z.1) (0,(AR,cR),(AD,cD,gA)) ⟨rfl,rfl,rfl,rfl,rfl,rfl,rfl,aS (Value.int .i64) (by show(N:Int)=(N:Int) - ((0:Nat):Int);omega),av⟩ ⟨bk _,rE,gv⟩ ?_
  clear gv;rintro⟨j,⟨BR,dR⟩,⟨BD,dD,la⟩⟩ e lb ⟨hj,qh,hS⟩;dsimp only at hj qh hS|-;refine bH O (aJ _ O (fun h4=>?_) (fun h4=>?_))
  ·have vY:j<N:=by omega
   refine aC O (aT (hS.rd 0 O) O (a7 (hS.rd 0 O) O (aq O (e6 hS O O O ?_))));intro A52 uX kW;refine fS 2 kW O (kW.bU 0 O) O O O (by omega) (by omega) O ?_;intro xf xv r8 jC;have hB:=jC.rd 1 O;refine aT hB O (od 1 jC O O O O O ?_);intro w16 re;have re:=re.tail;clear kW jC hB hS;refine aq O ?_;have hB:=re.rd 0 O;refine aT hB O (a7 hB O (ic re O ?_));intro uY Uw ud;have ud:St w Uw (aE 2 uY 0 0 []::_):=ud;refine mu ud O O O fun A58 w18 GI=>iU 7 GI O (GI.dB 0 O) O O O (by omega) (by omega) O ?_;intro xg xw w19 GJ;have hB:=GJ.rd 2 O;refine aT hB O (od 2 GJ O O O O O ?_);intro Ki BW;have BW:St w Ki (aE 2 uY 0 0 []::bD A4 n xf (aX M i+j+1) xv xg (aX M i+j+1) xw::aE 2 xf (aX M i+j+1) xv ((b5 M i++List.replicate j (i:Int))++ [(i:Int)])::aE 2 px (i+1) pJ (iP M (i+1))::bD A2 0 none 0 0 none 0 0::Bx 37 1 A1 [.slice A n c]::aQ 24 xg (aX M i+j+1) xw (la++ [⟨uY,0,0⟩])::aQ 24 oM (i+1) pL nS::(cw 2 la (List.replicate (aX M i+j) [])++cw 2 nS (jZ M (i+1)))):=BW.tail;have N7:St w Ki (qw A1 A2 A4 px oM A n c M i (j+1) (i+1) xf xv xg xw (la++ [⟨uY,0,0⟩]) pJ pL nS):=by
    have h9:=BW.perm (SZ _ _ _ _ _ _ _ _ _ _);rw [<-wV (by rw [qh,List.length_replicate]),fB,<-List.replicate_succ',<-List.replicate_succ']at h9;exact h9
   refine aq O (gH O O O (by omega) (aM O (tQ ?_)));exact⟨(j+1,(xf,xv),(xg,xw,la++ [⟨uY,0,0⟩])),by show N - (j+1)<N - j;omega,⟨O,O,O,O,O,O,O,aS (Value.int .i64) (by show(N:Int) - (j:Int) - 1=(N:Int) - ((j+1:Nat):Int);omega),av⟩,by show j+1<=N;omega,by show(la++ [_]).length=aX M i+ (j+1);rw [dS,qh];rfl,N7⟩
  ·have vY:j=N:=by omega
   subst vY;refine bj O (bl (cn O (aI O (aM O (tQ ?_)))));refine⟨(i+1,(BR,dR),(BD,dD,la),(px,pJ),(oM,pL,nS)),by show n - (i+1)<n - i;omega,(Wn O),by show i+1<=n;omega,by rw [sT];exact qh,HN,?_⟩;show St w lb (qw A1 A2 A4 px oM A n c M (i+1) 0 (i+1) BR dR BD dD la pJ pL nS);unfold qw at hS|-;rw [<-sT,<-sI]at hS;rw [Nat.add_zero,List.replicate_zero,eG];exact hS
 obtain rfl:i=n:=by omega
 have gX:M.length=i:=hl;obtain⟨N,hK⟩:∃N,aX M i=N:=⟨_,rfl⟩;have iX:aX M M.length=N:=by rw [gX,hK]
 have hsq:N*N<=4000000:=gm (Nat.mul_le_mul (show N<=2000 by omega) (show N<=2000 by omega)) (by decide);have GK:St w w7 (bD A4 i AR N cR AD N cD::(aW 24 2 AD N cD gA (dU M 1 0 0)++kG A1 A2 A5 A6 A i c M AR N cR c5 c6 dK)):=by
  rw [LD hM,iX];unfold qw at hS;rw [Nat.add_zero,hK,List.replicate_zero,eG]at hS;exact hS.perm (S1 _ _ _ _ _ _ _ _ _)
 clear hS;rw [hK]at rE;refine bj O (bl (lK O ?_));refine Cd.loop (α:=Nat×List aH) (fun z=> [(1,.pointer A1),(2,.pointer A2),(3,aj i),(4,.pointer A4),(5,.slice A5 i c5),(6,.slice A6 i c6),(9,aj (z.1:Int))])
  (fun z w'=> (1<=z.1/\z.1<=i)/\z.2.length=N/\St w w' (bD A4 i AR N cR AD N cD::(aW 24 2 AD N cD z.2 (dU M z.1 0 0)++kG A1 A2 A5 A6 A i c M AR N cR c5 c6 dK))) (fun z=>i - z.1) (1,gA) ⟨rfl,rfl,rfl,rfl,rfl,rfl,rfl,av⟩ ⟨⟨cO _,by show 1<=i;omega⟩,rE,GK⟩ ?_
 clear GK;rintro⟨k,la⟩ e w8 ⟨⟨sM,dI⟩,qh,hS⟩;dsimp only at sM dI qh hS|-;refine bH O (aJ _ O (fun h4=>?_) (fun h4=>?_))
 ·have dQ:k<i:=by omega
  refine aC O (aT (hS.rd 0 O) O (a7 (hS.rd 0 O) O ?_));refine aR O O (aq O ?_);refine ak.mul O O O (by have:((N*N:Nat):Int)=(N:Int)* (N:Int):=Int.natCast_mul N N;omega) ?_;rw [show(N:Int)* (N:Int)=((N*N:Nat):Int) from(Int.natCast_mul N N).symm];refine pD (v:=false) (N*N) hS O O (by omega) fun fo w9 bO=>aA O ?_;refine Cd.loop (α:=Nat×List Bool) (fun z=> [(1,.pointer A1),(2,.pointer A2),(3,aj i),(4,.pointer A4),(5,.slice A5 i c5),(6,.slice A6 i c6),(9,aj k),(10,aj N),(11,.slice fo (N*N) (N*N)),(12,aj (z.1:Int))])
   (fun z w'=>z.1<=(gl M 0).length/\mj M k z.1 0 z.2/\St w w' (dC 4 fo (N*N) (N*N) z.2::bD A4 i AR N cR AD N cD::(aW 24 2 AD N cD la (dU M k 0 0)++kG A1 A2 A5 A6 A i c M AR N cR c5 c6 dK))) (fun z=> (gl M 0).length - z.1) (0,List.replicate (N*N) false) ⟨rfl,rfl,rfl,rfl,rfl,rfl,rfl,rfl,rfl,rfl,av⟩ ⟨bk _,by have:=mj.zero M k;rwa [iX]at this,bO⟩ ?_
  clear bO hS;rintro⟨f,G⟩ e dW ⟨hf,hG,hS⟩;dsimp only at hf hG hS|-;have Di:∀(G:List Bool) (q:List aH) (B:ag),(kG A1 A2 A5 A6 A i c M AR N cR c5 c6 dK).Sublist (dC 4 fo (N*N) (N*N) G::bD A4 i AR N cR AD N cD::(aW 24 2 AD N cD q B++kG A1 A2 A5 A6 A i c M AR N cR c5 c6 dK)):=fun G q B=> ((iw _ _).cons _).cons _
  have P5:(aW 24 2 A6 i c6 dK (jZ M i)).Sublist (kG A1 A2 A5 A6 A i c M AR N cR c5 c6 dK):=by
   refine List.Sublist.cons _ (List.Sublist.cons _ (List.Sublist.cons _ (List.Sublist.cons _ ?_)));rw [eG];exact na _
  have pO:=(hS.sub (Di _ _ _)).rd 3 O;refine aY O (ak.dz 0 pO O O O (aO (yY A i c rs M _ (hS.bE hR) (by omega)) O ?_));rintro _ eZ ⟨rfl,ax⟩;have hS:=hS.ao ax.below;clear ax pO;refine aA O (aJ _ O (fun h5=>?_) (fun h5=>?_))
  ·have iZ:f< (gl M 0).length:=by omega
   refine cj O ?_;refine Cd.loop (α:=Nat×List Bool) (fun z=> [(1,.pointer A1),(2,.pointer A2),(3,aj i),(4,.pointer A4),(5,.slice A5 i c5),(6,.slice A6 i c6),(9,aj k),(10,aj N),(11,.slice fo (N*N) (N*N)),(12,aj f),(13,aj (z.1:Int))])
    (fun z w'=>z.1<=k/\mj M k f z.1 z.2/\St w w' (dC 4 fo (N*N) (N*N) z.2::bD A4 i AR N cR AD N cD::(aW 24 2 AD N cD la (dU M k 0 0)++kG A1 A2 A5 A6 A i c M AR N cR c5 c6 dK))) (fun z=>k - z.1) (0,G) ⟨rfl,rfl,rfl,rfl,rfl,rfl,rfl,rfl,rfl,rfl,rfl,av⟩ ⟨bk _,hG,hS⟩ ?_
   clear hS hG;rintro⟨j,G⟩ e iR ⟨hj,hG,hS⟩;dsimp only at hj hG hS|-;refine bH O (aJ _ O (fun h6=>?_) (fun h6=>?_))
   ·have rq:j<k:=by omega
    have xT:bS iR A5 i (iP M i):=(hS.sub (Di _ _ _)).bU 1 O;have jS:bu iR A6 i dK (jZ M i):=(hS.sub (P5.trans (Di _ _ _))).nQ (DE M i);have fF:=jS.at_ (i:=(k:Int)) (by omega) (by omega);have yJ:=jS.at_ (i:=(j:Int)) (by omega) (by omega);rw [Ix (by omega)]at fF yJ;have hkn9:(rg dK k).n=(gl M 0).length:=by rw [<-fF.1,xE]
    have hjn9:(rg dK j).n=(gl M 0).length:=by rw [<-yJ.1,xE]
    have o1:=Jn (M:=M) (i:=i) (k:=k) (by omega);have o2:=Jn (M:=M) (i:=i) (k:=j) (by omega);have e1:=lS hM (i:=k) iZ;have e2:=lS hM (i:=j) iZ;have m1:=kF M (show k+1<=M.length by omega);have m2:=kF M (show j+1<=M.length by omega);rw [iX]at m1 m2;have f1:gi (iP M i) k+gi (de M k) f=dG M k f:=by rw [o1];rfl
    have f2:gi (iP M i) j+gi (de M j) f=dG M j f:=by rw [o2];rfl
    obtain⟨E,hE⟩:∃E:Nat,dG M k f=E:=⟨(dG M k f).toNat,by omega⟩;obtain⟨D,hD⟩:∃D:Nat,dG M j f=D:=⟨(dG M j f).toNat,by omega⟩;have eE:=hG.next hM iZ (by omega) rq;rw [hE,hD,iX,eH,eH]at eE;rw [hE]at e1 f1;rw [hD]at e2 f2;have qg:=DZ (N:=N) (e:=E) (d:=D) (by omega) (by omega);have lT:((E*N:Nat):Int)=(E:Int)* (N:Int):=Int.natCast_mul E N;have hle:E*N<=N*N:=Nat.mul_le_mul_right N (by omega);have en:=vw hM k f iZ;have hlo2:=vw hM j f iZ;have vX:(E:Int)* (N:Int)+gi (iP M i) j+gi (de M j) f=((E*N+D:Nat):Int):=by omega
    refine cj O ?_;refine jc [29] [yS (fo) (N*N) (N*N),yS (A5) (i) (c5),yI ((k:Int)),yP (az (A5) ((k:Int)).toNat),yI (gi (iP M i) ((k:Int))),yS (A6) (i) (c6),yI ((k:Int)),yP (az (A6) ((k:Int)).toNat),yS ((rg (dK) ((k:Int))).a) ((rg (dK) ((k:Int))).n) ((rg (dK) ((k:Int))).c),yI ((f:Int)),yP (az ((rg (dK) ((k:Int))).a) ((f:Int)).toNat),yI (gi (de M k) ((f:Int))),yI ((gi (iP M i) ((k:Int)))+ (gi (de M k) ((f:Int)))),yI ((N:Int)),yI ((E:Int)* (N:Int)),yS (A5) (i) (c5),yI ((j:Int)),yP (az (A5) ((j:Int)).toNat),yI (gi (iP M i) ((j:Int))),yI (((E:Int)* (N:Int))+ (gi (iP M i) ((j:Int)))),yS (A6) (i) (c6),yI ((j:Int)),yP (az (A6) ((j:Int)).toNat),yS ((rg (dK) ((j:Int))).a) ((rg (dK) ((j:Int))).n) ((rg (dK) ((j:Int))).c),yI ((f:Int)),yP (az ((rg (dK) ((j:Int))).a) ((f:Int)).toNat),yI (gi (de M j) ((f:Int))),yI ((((E:Int)* (N:Int))+ (gi (iP M i) ((j:Int))))+ (gi (de M j) ((f:Int)))),yP (az (fo) ((((E:Int)* (N:Int))+ (gi (iP M i) ((j:Int))))+ (gi (de M j) ((f:Int)))).toNat),.pr (fun _ w'=>St w w' (dC 4 fo (N*N) (N*N) (G.set (E*N+D) true)::bD A4 i AR N cR AD N cD::(aW 24 2 AD N cD la (dU M k 0 0)++kG A1 A2 A5 A6 A i c M AR N cR c5 c6 dK)))] (by kernel_rfl) (by kernel_rfl) (ly (ly (ly (ly (ly (ly (ly (ly (ly (ly (ly (ly (ly (ly (ly (ly (ly (ly (ly (ly (ly (ly (ly (ly (ly (ly (ly (ly (ly (cq.2 ⟨Ye.ct (fun v w w' h hb=>h.ao hb),(fun _ h=>by cases h)⟩)))))))))))))))))))))))))))))) ?_ ?_
    ·refine⟨b8 O,b8 O,b8 O,cP fun _ _ hb _ _ _=>aw (xT.ao hb).2 O (bJ O O),cP fun _ _ hb _ _ _=>a6 (xT.ao hb) O (bJ O O),b8 O,b8 O,cP fun _ _ hb _ _ _=>aw (jS.top.ao hb).2 O (bJ O O),cP fun _ _ hb _ _ _=>bn (jS.top.ao hb) O (bJ O O),b8 O,cP fun _ _ hb _ _ _=>aw (fF.ao hb).2 O (bJ O O),cP fun _ _ hb _ _ _=>a6 (fF.ao hb) O (bJ O O),aP fun _ _=>aI O (bJ O O),b8 O,aP fun _ _=>ak.mul (i:=(E:Int)) (j:=(N:Int)) (by exact aS (Value.int .i64) f1) O O (by omega) (bJ O O),b8 O,b8 O,cP fun _ _ hb _ _ _=>aw (xT.ao hb).2 O (bJ O O),cP fun _ _ hb _ _ _=>a6 (xT.ao hb) O (bJ O O),aP fun _ _=>aI O (bJ O O),b8 O,b8 O,cP fun _ _ hb _ _ _=>aw (jS.top.ao hb).2 O (bJ O O),cP fun _ _ hb _ _ _=>bn (jS.top.ao hb) O (bJ O O),b8 O,cP fun _ _ hb _ _ _=>aw (yJ.ao hb).2 O (bJ O O),cP fun _ _ hb _ _ _=>a6 (yJ.ao hb) O (bJ O O),aP fun _ _=>aI O (bJ O O),cP fun _ _ hb _ _ _=>aw ((hS.fm 0 O).ao hb).2 O (bJ O O),?_,av⟩
     ·refine jh fun e1 w1 hb hp aZ hq=>?_
      refine mw 0 (hS.ao hb) O O O (by omega) fun w6 bg=>ak.n ?_;exact eA.st O (by rw [vX,eH]at bg;exact bg)
    intro u lb _ hu _ _;have hT:=hu 29 _ O (by kernel_rfl);refine ib O (aI O (aM O (tQ ?_)));exact⟨(j+1,_),by show k - (j+1)<k - j;omega,(Wn O),by show j+1<=k;omega,eE,hT⟩
   ·have rq:j=k:=by omega
    subst rq;refine bj O (bl (cn O (aI O (aM O (tQ ?_)))));exact⟨(f+1,G),by show(gl M 0).length - (f+1)< (gl M 0).length - f;omega,(Wn O),by show f+1<=(gl M 0).length;omega,hG.row,hS⟩
  ·have iZ:f=(gl M 0).length:=by omega
   subst iZ;have lu:=fun e d he hd=>hG.done hM (show k<M.length by omega) (e:=e) (d:=d) he hd
   rw [iX]at lu;have hGl:G.length=N*N:=by have:=hG.1;rwa [iX]at this
   refine bj O (bl (lK O ?_));refine Cd.loop (α:=Nat×List aH) (fun z=> [(1,.pointer A1),(2,.pointer A2),(3,aj i),(4,.pointer A4),(5,.slice A5 i c5),(6,.slice A6 i c6),(9,aj k),(10,aj N),(11,.slice fo (N*N) (N*N)),(14,aj (z.1:Int))])
    (fun z w'=>z.1<=N/\z.2.length=N/\St w w' (dC 4 fo (N*N) (N*N) G::bD A4 i AR N cR AD N cD::(aW 24 2 AD N cD z.2 (dU M k z.1 0)++kG A1 A2 A5 A6 A i c M AR N cR c5 c6 dK))) (fun z=>N - z.1) (0,la) ⟨rfl,rfl,rfl,rfl,rfl,rfl,rfl,rfl,rfl,rfl,av⟩ ⟨bk _,qh,hS⟩ ?_
   clear hS qh hG h5;rintro⟨E,q3⟩ e iR ⟨hE,yD,hS⟩;dsimp only at hE yD hS|-;refine bH O (aJ _ O (fun h5=>?_) (fun h5=>?_))
   ·have lT:E<N:=by omega
    have hEm:((E*N:Nat):Int)=(E:Int)* (N:Int):=Int.natCast_mul E N;have hEle:E*N<=N*N:=Nat.mul_le_mul_right N (by omega);refine cj O ?_;refine Cd.loop (α:=Nat×List aH) (fun z=> [(1,.pointer A1),(2,.pointer A2),(3,aj i),(4,.pointer A4),(5,.slice A5 i c5),(6,.slice A6 i c6),(9,aj k),(10,aj N),(11,.slice fo (N*N) (N*N)),(14,aj E),(15,aj (z.1:Int))])
     (fun z w'=>z.1<=N/\z.2.length=N/\St w w' (dC 4 fo (N*N) (N*N) G::bD A4 i AR N cR AD N cD::(aW 24 2 AD N cD z.2 (dU M k E z.1)++kG A1 A2 A5 A6 A i c M AR N cR c5 c6 dK))) (fun z=>N - z.1) (0,q3) ⟨rfl,rfl,rfl,rfl,rfl,rfl,rfl,rfl,rfl,rfl,rfl,av⟩ ⟨bk _,yD,hS⟩ ?_
    clear hS yD;rintro⟨D,q4⟩ e lb ⟨hD,yE,hS⟩;dsimp only at hD yE hS|-;refine bH O (aJ _ O (fun h6=>?_) (fun h6=>?_))
    ·have xR:D<N:=by omega
     have qg:=DZ (N:=N) (e:=E) (d:=D) lT xR;have nA:=qK M k E D;rw [iX]at nA;have Hf:=lu E D lT xR;have Gq:oe lb fo (N*N) G:=hS.fm 0 O;have vX:(E:Int)* (N:Int)+ (D:Int)=((E*N+D:Nat):Int):=by omega
     refine aC O (ak.mul O O O (by omega) ?_);refine aq O (aI O ?_);refine aw Gq.2 O (lh Gq O (by omega) O O ?_);rw [vX];refine aA O ?_;generalize O1:gb G ((E*N+D:Nat):Int)=b at*;cases b with
     | false => --dup 2
      have lD:=LH (M:=M) (i:=k) (e:=E) (d:=D) (by omega) (by omega) (fun h=>by have:=Hf.2 h;cases this);refine Cd.dO O (aC O (aI O (aM O (tQ ?_))));exact⟨(D+1,q4),by show N - (D+1)<N - D;omega,(Wn O),by show D+1<=N;omega,yE,by rw [lD];exact hS⟩
     | true=>
      have pc:=LF (M:=M) (i:=k) (e:=E) (d:=D) (by omega) (Hf.1 O);have iD:bu lb AD N q4 (dU M k E D):=by
       have h9:=hS.sub (show(aW 24 2 AD N cD q4 (dU M k E D)).Sublist _ from((nc _ _).cons _).cons _);exact h9.nQ nA
      have uE:=(iD.at_ (i:=(E:Int)) (by omega) (by omega)).1;have eM:(rg q4 E).n<=N:=by
       rw [<-uE,EZ (by omega)];have eC:(gl (bY M) E).length<=N:=by
        refine oH (FR M _).nodup fun x hx=>?_
        rw [om (by omega) (by omega)]at hx;omega
       unfold nm
       split
       ·exact eC
       ·split
        ·exact bk _
        ·split
         ·exact eC
         ·split
          ·exact gm (jN _ _) eC
          ·exact bk _
      have gu:Rd lb A4 3 (fun q=> [Value.int .i64 (i:Int),.slice AR N cR,.slice AD N cD].getD q undef):=hS.rd 1 O;have mL:∀A9:ai,(aE 2 A9 1 1 [(D:Int)]::(dC 4 fo (N*N) (N*N) G::bD A4 i AR N cR AD N cD::(aW 24 2 AD N cD q4 (dU M k E D)++kG A1 A2 A5 A6 A i c M AR N cR c5 c6 dK)))[3+1+E]?=some (aE 2 (rg q4 E).a (rg q4 E).n (rg q4 E).c (gl (dU M k E D) E)):=fun A9=>rO (t1:=24) (t2:=2) (A:=AD) (n:=N) (c:=cD) (rs:=q4) (xss:=dU M k E D) (pre:=[aE 2 A9 1 1 [(D:Int)],dC 4 fo (N*N) (N*N) G,bD A4 i AR N cR AD N cD]) (ks:=kG A1 A2 A5 A6 A i c M AR N cR c5 c6 dK) (i:=E) (by omega) (by omega)
      have mJ:=fun(A9:ai) (s:aH) (xs:ah)=>DN (t1:=24) (t2:=2) (A:=AD) (n:=N) (c:=cD) (rs:=q4) (xss:=dU M k E D) (ks:=kG A1 A2 A5 A6 A i c M AR N cR c5 c6 dK) (pre:=[aE 2 A9 1 1 [(D:Int)],dC 4 fo (N*N) (N*N) G,bD A4 i AR N cR AD N cD]) (i:=E) s xs (by omega) (by omega)
      refine Cd.eP O ?_;refine jc [10,12] [yP (az A4 2),yS (AD) (N) (cD),yI ((E:Int)),yP (az (A4) 2),yS (AD) (N) (cD),yI ((E:Int)),yP (az (AD) ((E:Int)).toNat),yS ((rg (q4) ((E:Int))).a) ((rg (q4) ((E:Int))).n) ((rg (q4) ((E:Int))).c),yI ((D:Int)),.pr (fun v w'=>∃A9,v= .slice A9 1 1/\St w w' (aE 2 A9 1 1 [(D:Int)]::(dC 4 fo (N*N) (N*N) G::bD A4 i AR N cR AD N cD::(aW 24 2 AD N cD q4 (dU M k E D)++kG A1 A2 A5 A6 A i c M AR N cR c5 c6 dK)))),.pr (fun v w'=>∃AZ cZ,v= .slice AZ ((rg q4 E).n+1) cZ/\St w w' (dC 4 fo (N*N) (N*N) G::bD A4 i AR N cR AD N cD::(aQ 24 AD N cD q4::(cw 2 (q4.set E ⟨AZ,(rg q4 E).n+1,cZ⟩) ((dU M k E D).set E (gl (dU M k E D) E++ [(D:Int)]))++kG A1 A2 A5 A6 A i c M AR N cR c5 c6 dK)))),yP (az AD ((E:Int)).toNat),.pr (fun _ w'=>∃AZ cZ,St w w' (dC 4 fo (N*N) (N*N) G::bD A4 i AR N cR AD N cD::(aW 24 2 AD N cD (q4.set E ⟨AZ,(rg q4 E).n+1,cZ⟩) ((dU M k E D).set E (gl (dU M k E D) E++ [(D:Int)]))++kG A1 A2 A5 A6 A i c M AR N cR c5 c6 dK)))] (by kernel_rfl) (by kernel_rfl) (ly (ly (ly (ly (ly (ly (ly (ly (ly (cq.2 ⟨Ye.ct (fun v w w' h hb=>by obtain⟨A9,hv,hT⟩:=h;exact⟨A9,hv,hT.ao hb⟩),(cq.2 ⟨Ye.ct (fun v w w' h hb=>by obtain⟨AZ,cZ,hv,hT⟩:=h;exact⟨AZ,cZ,hv,hT.ao hb⟩),(ly (cq.2 ⟨Ye.ct (fun v w w' h hb=>by obtain⟨AZ,cZ,hT⟩:=h;exact⟨AZ,cZ,hT.ao hb⟩),(fun _ h=>by cases h)⟩))⟩)⟩)))))))))) ?_ ?_
      ·refine⟨?_,?_,b8 O,cP fun _ _ hb _ _ _=>aT (gu.below hb) O (bJ O O),cP fun _ _ hb _ _ _=>a7 (gu.below hb) O (bJ O O),b8 O,cP fun _ _ hb _ _ _=>aw (iD.top.ao hb).2 O (bJ O O),cP fun _ _ hb _ _ _=>bn (iD.top.ao hb) O (bJ O O),b8 O,?_,?_,?_,?_,av⟩
       ·intro e1 w1 cc en cC dq hp aZ hq;show ak _ _ _ _ _ _ _;have hX:Rd w1 A4 3 (fun q=> [Value.int .i64 (i:Int),.slice AR N cR,.slice AD N cD].getD q undef):=by { have cC:=k7 cC (b:=1) (by kernel_rfl);rcases(show cc=0\/cc=1 by omega)with h | h; { exact Rd.below gu (dq h) }; { subst h;obtain⟨AZ,cZ,_,hT⟩:=hq 10 _ _ (by kernel_rfl) (by kernel_rfl) (by kernel_rfl) rfl rfl (by kernel_rfl);exact hT.rd 1 rfl } }
        refine aT hX O (ak.n (fO O (by exact O)))
       ·intro e1 w1 cc en cC dq hp aZ hq;show ak _ _ _ _ _ _ _;have hX:Rd w1 A4 3 (fun q=> [Value.int .i64 (i:Int),.slice AR N cR,.slice AD N cD].getD q undef):=by { have cC:=k7 cC (b:=1) (by kernel_rfl);rcases(show cc=0\/cc=1 by omega)with h | h; { exact Rd.below gu (dq h) }; { subst h;obtain⟨AZ,cZ,_,hT⟩:=hq 10 _ _ (by kernel_rfl) (by kernel_rfl) (by kernel_rfl) rfl rfl (by kernel_rfl);exact hT.rd 1 rfl } }
        refine a7 hX O (ak.n (fO O (by exact O)))
       ·refine cP fun e1 w1 hb hp aZ hq=>?_
        exact e6 (St.refl _) O O O fun A9 w9 ax=>ak.n (eS.dn O ax.below ⟨A9,O,(hS.ao hb).call ax⟩)
       ·refine jh fun e1 w1 hb hp aZ hq=>?_
        obtain⟨A9,Nw,hT⟩:=(hp 9 _ _ (by kernel_rfl) rfl rfl (by kernel_rfl));refine fS (3+1+E) hT (mL A9) (hT.bU 0 O) O (by exact Nw) O (by omega) (by omega) O ?_;intro AZ cZ wZ hZ;have hZ:=(mJ A9 ⟨AZ,(rg q4 E).n+1,cZ⟩ (gl (dU M k E D) E++ [(D:Int)]))▸hZ;exact ak.n (eA.dn O ⟨AZ,cZ,O,hZ.tail⟩)
       ·intro e1 w1 cc en cC dq hp aZ hq;show ak _ _ _ _ _ _ _;have hX:eU w1 AD N q4:=by { have cC:=k7 cC (b:=1) (by kernel_rfl);rcases(show cc=0\/cc=1 by omega)with h | h; { exact iD.top.ao (dq h) }; { subst h;obtain⟨AZ,cZ,_,hT⟩:=hq 10 _ _ (by kernel_rfl) (by kernel_rfl) (by kernel_rfl) rfl rfl (by kernel_rfl);exact hT.dB 2 rfl } }
        refine aw hX.2 O (ak.n (fO O (by exact O)))
       ·refine mD 1 fun e1 w1 hp aZ hq=>?_
        have cS:=hp 10 _ _ (by kernel_rfl) O O (by kernel_rfl);obtain⟨AZ,cZ,Bk,hT⟩:=cS;refine tF (te:=24) (n:=N) (c:=cD) (A:=AD) (xs:=q4) 2 hT O O (by exact Bk) (by omega) ?_;intro wY hY;exact ak.n (eA.st O ⟨AZ,cZ,hY⟩)
      intro u uX _ hu _ _;obtain⟨AZ,cZ,hT⟩:=hu 12 _ rfl (by kernel_rfl);rw [pc]at hT;refine ib O (aI O (aM O (tQ ?_)));exact⟨(D+1,_),by show N - (D+1)<N - D;omega,(Wn O),by show D+1<=N;omega,by simp [yE],hT⟩
    ·have xR:D=N:=by omega
     have bw:=LG (M:=M) (i:=k) (e:=E);rw [iX]at bw;rw [xR,bw]at hS;refine bj O (bl (cn O (aI O (aM O (tQ ?_)))));exact⟨(E+1,q4),by show N - (E+1)<N - E;omega,(Wn O),by show E+1<=N;omega,yE,hS⟩
   ·have lT:E=N:=by omega
    have eE:=LC (M:=M) (i:=k);rw [iX]at eE;rw [lT,eE]at hS;refine bj O (bl (cn O (aI O (aM O (tQ ?_)))));exact⟨(k+1,q3),by show i - (k+1)<i - k;omega,(Wn O),⟨by show 1<=k+1;omega,by show k+1<=i;omega⟩,yD,hS.tail⟩
 ·have dQ:k=M.length:=by omega
  have dV:=LB (M:=M);rw [dQ,dV]at hS;refine bj O (bl (cn O ?_));refine ak.dz 2 (hS.rd 0 O) O O O ?_;have ay:St w w8 (bD A2 0 none 0 0 none 0 0::(aE 2 AR N cR (b5 M i)::(aW 24 2 AD N cD la (bY M)++ []))):=by
   have hs:(aW 24 2 AD N cD la (bY M)++ [aE 2 AR N cR (b5 M i),bD A2 0 none 0 0 none 0 0]).Sublist (bD A4 i AR N cR AD N cD::(aW 24 2 AD N cD la (bY M)++kG A1 A2 A5 A6 A i c M AR N cR c5 c6 dK)):=
    List.Sublist.cons _ (List.Sublist.append_left (List.Sublist.cons_cons _ (List.Sublist.cons _ (List.Sublist.cons_cons _ (List.nil_sublist _)))) _)
   refine(hS.sub hs).perm ?_;rw [eG];exact(gB).trans (List.Perm.swap _ _ _)
  refine gU 3 0 ay O O O O O O O fun iR gv=>bW O (uR O (gv.rd 0 O) ?_);refine⟨AR,cR,AD,cD,la,?_,by rw [iX];exact qh,?_⟩
  ·rw [iX,gX];rfl
  ·rw [iX,gX];exact gv.tail
section
variable {P:Program} {N:Nat} {ops:Array Oper} {K:Env->aa->Prop} {rest:List Oper} {e:Env} {w:aa} {d:Nat} {ty:ad} {pos:String} {af:Array Edge}
theorem KU{F:FuncId}{x y z u:ae}{v1 v2 v3 v4:ab}(hx:ev e x=v1)(hy:ev e y=v2)(hz:ev e z=v3)(hu:ev e u=v4)(hb:Nat.blt d N=true)(hK:ak P N ops K rest (br e d (.func (.func F) #[] #[v1,v2,v3,v4])) w):
 ak P N ops K (⟨some d,.makeFunc (.func F) #[] #[x,y,z,u],ty,pos,af,none⟩::rest) e w:=
 .val (by simp [execOp,Instr.makeFunc,hx,hy,hz,hu]) hb hK
end
theorem qM{l:ag}(h:l.length<=401):cap l=l:=by
 unfold cap;exact eI h
def pN(U:ag):Nat->Int->ag
 | 0,_=> [[]]
 | k+1,e=> (gl U e).flatMap fun f=> (pN U k f).map (f:: ·)
def jl(U:ag)(k:Nat)(fl xs:ah):ag:=xs.flatMap fun e=> (pN U k e).map fun y=>fl++e::y
theorem Nk{U:ag}{k:Nat}{fl xs:ah}{j:Nat}(h:j<xs.length):jl U k fl (xs.take (j+1))=jl U k fl (xs.take j)++ (pN U k (gi xs j)).map fun y=>fl++gi xs j::y:=by
 unfold jl;rw [gk h,List.flatMap_append,bQ h];simp
theorem Nj(U:ag)(k:Nat)(fl:ah)(e:Int):(pN U (k+1) e).map (fun y=>fl++e::y)=jl U k (fl++ [e]) (gl U e):=by
 unfold jl;rw [pN,List.map_flatMap];refine aS (fun g=>List.flatMap g (gl U e)) (funext fun f=>?_);rw [List.map_map];refine ki fun y _=>?_
 show fl++e::f::y=(fl++ [e])++f::y;rw [fB];rfl
abbrev jR(PF A:ai)(c:Nat)(rs:List aH)(F:ag)(PB:ai)(n:Int)(AR:ai)(nR cR:Nat)(AD:ai)(m d:Nat)(PG PU Au:ai)(N cU:Nat)(cH:List aH)(U:ag)(du:List Ck):List Ck:=
 Bx 25 1 PF [.slice A F.length c]::(aW 24 2 A F.length c rs F++ (bD PB n AR nR cR AD m d::Bx 107 1 PG [.func (.func 108) #[] #[.pointer PF,.pointer PB,.pointer PG,.pointer PU]]::Bx 25 1 PU [.slice Au N cU]::(aW 24 2 Au N cU cH U++du)))
theorem S3{α:Type}(x b c:α)(X Y:List α):(x::b::c::(X++Y)).Perm (b::c::((X++ [x])++Y)):=by
 classical
 refine nb.2 fun z=>?_
 simp only [nY,mm,pA];omega
theorem xO(PF A:ai)(c:Nat)(rs:List aH)(F:ag)(PB:ai)(n:Int)(AR:ai)(nR cR:Nat)(AD:ai)(m d:Nat)(PG PU Au:ai)(N cU:Nat)(cH:List aH)(U:ag)(du:List Ck):(bD PB n AR nR cR AD m d::Bx 107 1 PG [.func (.func 108) #[] #[.pointer PF,.pointer PB,.pointer PG,.pointer PU]]::Bx 25 1 PU [.slice Au N cU]::(aW 24 2 Au N cU cH U++du)).Sublist (jR PF A c rs F PB n AR nR cR AD m d PG PU Au N cU cH U du):=(iw _ _).cons _
theorem F8(PF A:ai)(c:Nat)(rs:List aH)(F:ag)(PB:ai)(n:Int)(AR:ai)(nR cR:Nat)(AD:ai)(m d:Nat)(PG PU Au:ai)(N cU:Nat)(cH:List aH)(U:ag)(du:List Ck)(x:Ck):(x::jR PF A c rs F PB n AR nR cR AD m d PG PU Au N cU cH U du).Perm (jR PF A c rs F PB n AR nR cR AD m d PG PU Au N cU cH U (x::du)):=by
 classical
 refine nb.2 fun z=>?_
 simp only [jR,nY,mm];omega
theorem I7{w0 w':aa}{PF A:ai}{c:Nat}{rs:List aH}{F:ag}{PB:ai}{n:Int}{AR:ai}{nR cR:Nat}{AD:ai}{m d:Nat}{PG PU Au:ai}{N cU:Nat}{cH:List aH}{U:ag}{du:List Ck}{t:ad}{B:ai}{q r:Nat}{xs:ah}(h:St w0 w' (jR PF A c rs F PB n AR nR cR AD m d PG PU Au N cU cH U (aE t B q r xs::du))):bS w' B q xs:=(h.perm (F8 ..).symm).bU 0 rfl
theorem Nv(PF A:ai)(c:Nat)(rs:List aH)(F:ag)(PB:ai)(n:Int)(AR:ai)(nR cR:Nat)(AD:ai)(m d:Nat)(PG PU Au:ai)(N cU:Nat)(cH:List aH)(U:ag)(du:List Ck)(x:Ck):(jR PF A c rs F PB n AR nR cR AD m d PG PU Au N cU cH U du).Sublist (jR PF A c rs F PB n AR nR cR AD m d PG PU Au N cU cH U (x::du)):=(((((((na du).cons x).append_left _).cons_cons _).cons_cons _).cons_cons _).append_left _).cons_cons _
theorem F9{w0 w':aa}{PF A:ai}{c:Nat}{rs:List aH}{F:ag}{PB:ai}{n:Int}{AR:ai}{nR cR:Nat}{AD:ai}{m d:Nat}{PG PU Au:ai}{N cU:Nat}{cH:List aH}{U:ag}{du:List Ck}(x5:U.length=N)(h:St w0 w' (jR PF A c rs F PB n AR nR cR AD m d PG PU Au N cU cH U du)):bu w' Au N cH U:=
 St.jL (t1:=24) (t2:=2) (c:=cU) (h.sub (((((na (aW 24 2 Au N cU cH U++du)).cons _).cons _).cons _).trans (xO ..))) x5
theorem Nq(w0:aa)(n:Nat)(wa:n<=5)(PF PB AR AD PG PU Au:ai)(nR cR m d N cU:Nat)(cH:List aH)(U:ag)(x5:U.length=N)(hN:N<=500)(Ob:∀e:Nat,e<N->(gl U e).length<=500/\∀x∈gl U e,0<=x/\x< (N:Int)):
 ∀(k nf nx:Nat) (fl xs:ah) (Af Ax:ai) (cf cx:Nat) (du:List Ck) (w:aa) (A:ai) (c:Nat) (rs:List aH) (F:ag),fl.length=nf->xs.length=nx->nf+ (k+1)=n->nx<=500->(∀x∈xs,0<=x/\x< (N:Int))->
  (∀w' A c rs F,St w0 w' (jR PF A c rs F PB n AR nR cR AD m d PG PU Au N cU cH U du)->bS w' Af nf fl)->
  (∀w' A c rs F,St w0 w' (jR PF A c rs F PB n AR nR cR AD m d PG PU Au N cU cH U du)->bS w' Ax nx xs)->
  rs.length=F.length->F.length<=401->St w0 w (jR PF A c rs F PB n AR nR cR AD m d PG PU Au N cU cH U du)->
  aG prog 108 [.slice Af nf cf,.slice Ax nx cx,.pointer PF,.pointer PB,.pointer PG,.pointer PU] w (fun v w'=>v= .tuple #[]/\∃A' c' rs',rs'.length=(cap (F++jl U k fl xs)).length/\St w0 w' (jR PF A' c' rs' (cap (F++jl U k fl xs)) PB n AR nR cR AD m d PG PU Au N cU cH U du)):=by
 intro k
 induction k using Nat.strongRecOn with
 | _ k ih=>
  intro nf nx fl xs Af Ax cf cx du w A c rs F CT eE eC l7 yT hf hx gL hF hS;refine bs func108 O ntmps108 O (Jy O) ?_;refine aY O (aR O O (aA O ?_));refine Cd.loop (α:=Nat×ai×Nat×List aH) (fun z=> [(0,.slice Af nf cf),(2,.pointer PF),(3,.pointer PB),(4,.pointer PG),(5,.pointer PU),(11,.slice Ax nx cx),(12,aj nx),(13,aj (z.1:Int))])
   (fun z w'=>z.1<=nx/\z.2.2.2.length=(cap (F++jl U k fl (xs.take z.1))).length/\St w0 w' (jR PF z.2.1 z.2.2.1 z.2.2.2 (cap (F++jl U k fl (xs.take z.1))) PB n AR nR cR AD m d PG PU Au N cU cH U du)) (fun z=>nx - z.1) (0,A,c,rs) ⟨rfl,rfl,rfl,rfl,rfl,rfl,rfl,rfl,av⟩ ⟨bk _,by
     show rs.length=(cap (F++ [])).length;rw [eG,qM hF];exact gL,by
     show St w0 w (jR PF A c rs (cap (F++ [])) _ _ _ _ _ _ _ _ _ _ _ _ _ _ _ _);rw [eG,qM hF];exact hS⟩ ?_
  clear hS gL;rintro⟨j,A,c,rs⟩ e w1 ⟨hj,gL,hS⟩;dsimp only at hj gL hS|-;generalize hG:F++jl U k fl (xs.take j)=G at*;refine bH O (aJ _ O (fun h1=>?_) (fun h1=>?_))
  ·have ov:j<xs.length:=by omega
   have hR:=hx _ _ _ _ _ hS;have Qh:=yT _ (gi_in ov);have ua:F++jl U k fl (xs.take (j+1))=G++ (pN U k (gi xs j)).map fun y=>fl++gi xs j::y:=by
    rw [Nk ov,<-fB,hG]
   have uz:F++jl U k fl xs=G++jl U k fl (xs.drop j):=by
    rw [<-hG,fB]
    congr 1
    unfold jl;rw [<-List.flatMap_append,List.take_append_drop]
   refine aC O (aw hR.2 O (a6 hR O (aq O ?_)));obtain⟨E,hE⟩:∃E:Nat,gi xs j=E:=⟨(gi xs j).toNat,by omega⟩;rw [hE]at ua Qh|-;refine aO (xi Af nf cf fl _ (hf _ _ _ _ _ hS) (by omega)) O ?_;rintro _ w2 ⟨A18,c18,rfl,ax⟩;have ay:=hS.call ax;clear ax hS;refine aq O (e6 ay O O O ?_);intro A20 w3 aL;refine fS 1 aL O (aL.bU 0 O) O O O (by omega) (by omega) O ?_;intro pw pI w4 aN;have aN:St w0 w4 (aE 2 pw (nf+1) pI (fl++ [(E:Int)])::jR PF A c rs (cap G) PB n AR nR cR AD m d PG PU Au N cU cH U du):=aN.tail;clear aL ay;have dT:Rd w4 PF 1 (fun _=> .slice A (cap G).length c):=jf (aN.rd 1 O);refine aq O (Wm (j:=0) dT (by exact aS Value.pointer (jJ _).symm) O O O O ?_);refine aR O O (aA O ?_);refine aJ _ O (fun h2=>?_) (fun h2=>?_)
   ·refine bV O (cy (b9 ?_));refine wT ⟨O,A,c,rs,?_,?_⟩
    ·rw [uz,xy _ (by omega)];exact gL
    ·rw [uz,xy _ (by omega)];exact aN.tail
   have fx:=Fb (l:=G) (by omega);have gK:=((aN.tail).sub (xO ..)).rd 0 O
   by_cases jW:k=0
   ·--dup 2
    refine cj O (cN [xS (pw) (nf+1) (pI),xI ((nf+1:Nat):Int),xP (az (PB) 0),xI ((n:Int)),xB (true),xB (true)] O (da O) ?_ ?_)
    ·refine⟨Dr O,?_,fun _ _ hb _ _=>aT (gK.below hb) O Az,fun _ _ hb _ _=>kk (gK.below hb) O O O O O Az,fun _ _ _ _ _=>Dk O (by exact aS Value.bool (dF (by omega))),Dr O,av⟩
     ·intro e1 w1 hb hp aZ;refine aO (tt _ _ _ _) O ?_;rintro _ w2 ⟨rfl,ax⟩;subst ax;refine ak.n (d0 (by exact O))
    intro u w5 iY _;have aV:=aN.ao iY;clear aN gK dT;have dT:Rd w5 PF 1 (fun _=> .slice A (cap G).length c):=jf (aV.rd 1 O);refine dM O (Cd.eP O (aC O (Wm (j:=0) dT (by exact aS Value.pointer (jJ _).symm) O O O O (aq O (mu aV O O O ?_)))));intro A41 w6 bg;refine iU 3 bg O (bg.dB 0 O) O O O (by omega) (by omega) O ?_;intro tx tL w7 bm;refine ak.st (i:=2) (j:=0) bm O (by exact aS Value.pointer (jJ _).symm) O O (Nat.succ_pos _) ?_;intro w8 bI;have bO:St w0 w8 (aE 2 pw (nf+1) pI (fl++ [(E:Int)])::Bx 25 1 PF [.slice tx ((cap G).length+1) tL]::aQ 24 tx ((cap G).length+1) tL (rs++ [⟨pw,nf+1,pI⟩])::(cw 2 rs (cap G)++_)):=bI.tail;have bO:=bO.perm (S3 _ _ _ _ _);rw [<-wV gL]at bO;have hex:(pN U k (E:Int)).map (fun y=>fl++ (E:Int)::y)=[fl++ [(E:Int)]]:=by rw [jW];rfl
    rw [hex]at ua;have lU:=LU (l:=G) (fl++ [(E:Int)]) (by omega);refine aq O (aI O (aM O (tQ ?_)));refine⟨(j+1,tx,tL,rs++ [⟨pw,nf+1,pI⟩]),by show nx - (j+1)<nx - j;omega,(Wn O),by show j+1<=nx;omega,?_,?_⟩
    ·show(rs++ [_]).length=(cap (F++jl U k fl (xs.take (j+1)))).length;rw [ua,lU,dS,dS,gL];rfl
    ·show St w0 w8 (jR PF tx tL (rs++ [_]) (cap (F++jl U k fl (xs.take (j+1)))) PB n AR nR cR AD m d PG PU Au N cU cH U du);rw [ua,lU];show St w0 w8 (Bx _ 1 PF [.slice tx (cap G++ [fl++ [(E:Int)]]).length tL]::(aQ _ tx (cap G++ [fl++ [(E:Int)]]).length tL _::_));rw [show(cap G++ [fl++ [(E:Int)]]).length=(cap G).length+1 by simp];exact bO
   ·obtain⟨k',rfl⟩:∃k',k=k'+1:=⟨k - 1,by omega⟩;rw [Nj]at ua;refine cj O (cN [xS (pw) (nf+1) (pI),xI ((nf+1:Nat):Int),xP (az (PB) 0),xI ((n:Int)),xB (false),xB (false)] O (da O) ?_ ?_)
    ·refine⟨Dr O,?_,fun _ _ hb _ _=>aT (gK.below hb) O Az,fun _ _ hb _ _=>kk (gK.below hb) O O O O O Az,fun _ _ _ _ _=>Dk O (by exact aS Value.bool (cb (by omega))),Dr O,av⟩
     ·intro e1 w1 hb hp aZ;refine aO (tt _ _ _ _) O ?_;rintro _ w2 ⟨rfl,ax⟩;subst ax;refine ak.n (d0 (by exact O))
    intro u w5 iY _;have aV:=(aN.ao iY).perm (F8 ..);clear aN gK dT;have dZ:Rd w5 PG 1 (fun _=> .func (.func 108) #[] #[.pointer PF,.pointer PB,.pointer PG,.pointer PU]):=jf ((aV.sub (xO ..)).rd 1 O);have kr:Rd w5 PU 1 (fun _=> .slice Au N cU):=jf ((aV.sub (xO ..)).rd 2 O);have hU:=F9 x5 aV;have HT:=hU.at_ (i:=(E:Int)) (by omega) (by omega);have B3:=Ob E (by omega);refine dM O (Cd.dO O ?_);refine jc [6] [.ex (.func (.func 108) #[] #[.pointer PF,.pointer PB,.pointer PG,.pointer PU]),yS (pw) (nf+1) (pI),yS (Au) (N) (cU),yI ((E:Int)),yP (az (Au) ((E:Int)).toNat),yS ((rg (cH) ((E:Int))).a) ((rg (cH) ((E:Int))).n) ((rg (cH) ((E:Int))).c),.pr (fun v w'=>∃A' c' rs',rs'.length=(cap (cap G++jl U k' (fl++ [(E:Int)]) (gl U E))).length/\St w0 w' (jR PF A' c' rs' (cap (cap G++jl U k' (fl++ [(E:Int)]) (gl U E))) PB n AR nR cR AD m d PG PU Au N cU cH U du))] (by kernel_rfl) (by kernel_rfl) (ly (ly (ly (ly (ly (ly (cq.2 ⟨Ye.ct (fun v w w' h hb=>by obtain⟨A',c',rs',dJ,hT⟩:=h;exact⟨A',c',rs',dJ,hT.ao hb⟩),(fun _ h=>by cases h)⟩))))))) ?_ ?_
    ·refine⟨?_,b8 O,cP fun _ _ hb _ _ _=>Wm (j:=0) (kr.below hb) (by exact aS Value.pointer (jJ _).symm) O O O O (bJ O O),b8 O,cP fun _ _ hb _ _ _=>aw (hU.top.ao hb).2 O (bJ O O),cP fun _ _ hb _ _ _=>bn (hU.top.ao hb) O (bJ O O),?_,av⟩
     ·refine cP fun e1 w1 hb hp aZ hq=>?_
      refine ak.ld (Rd.below dZ hb) (by exact aS Value.pointer (jJ _).symm) (by decide) O O O ?_;refine ak.n (fO O (by exact O))
     ·refine jh fun e1 w1 hb hp aZ hq=>?_
      refine aO (ih k' (Nat.lt_succ_self _) (nf+1) (rg cH E).n (fl++ [(E:Int)]) (gl U E) pw (rg cH E).a pI (rg cH E).c (aE 2 pw (nf+1) pI (fl++ [(E:Int)])::du) _ A c rs (cap G) (by rw [dS,CT];rfl) HT.1 (by omega) (by have:=HT.1;omega) B3.2 (fun w' A c rs F h=>I7 h) (fun w' A c rs F h=> (F9 x5 h).at_ (i:=(E:Int)) (by omega) (by omega)) gL (Ah G) (aV.ao hb)) O ?_;rintro _ w9 ⟨rfl,A',c',rs',dJ,bO⟩;exact ak.n (eA.dn O ⟨A',c',rs',dJ,bO.sub (Nv ..)⟩)
    intro u w6 _ hu _ _;obtain⟨A',c',rs',dJ,hT⟩:=hu 6 _ rfl (by kernel_rfl);rw [fx,<-ua]at dJ hT;refine ib O (aI O (aM O (tQ ?_)));exact⟨(j+1,A',c',rs'),by show nx - (j+1)<nx - j;omega,(Wn O),by show j+1<=nx;omega,dJ,hT⟩
  ·have ov:j=xs.length:=by omega
   rw [ov,List.take_length]at hG;rw [<-hG]at gL hS;refine bj O (bl (qF O ?_));exact Ea ⟨O,A,c,rs,gL,hS⟩
end
end Go.Proofs.YtagdamiiececaaaGreatDoor.Vc
