/-
 Lemmas. Conditions: as each states them.
-/
import Derived.Test.YtkccgdhcpplblaaGreatDoorLayb
import Derived.Test.YtkccgdhcpplblaaGreatDoorZd
import Derived.Shelf.SlicesE.Compact
import Derived.Shelf.SlicesE.Delete
import Derived.Shelf.SortM.SortNone
set_option maxHeartbeats 8000000
namespace Go.Proofs.YtkccgdhcpplblaaGreatDoor.Vc
open Tryz
section
open Go.RowKit Go.Sort
variable{w w0:aa}{q off o i m b:Nat}{ks:List Ck}{l l' xs:ai}
theorem acp{α:Type}[Inhabited α]{enc:α->ad}{g:Nat}{cur:Array ad}{e:ae}{fr:Nat×Nat}(d:Array α)(hb:w.heap[g]?=some (.cells cur e fr)):(putRow enc (Sort.ahead w q) g off d).heap[g]?=some (.cells (putCells enc off d cur) e fr):=by
 simp [putRow,mapBlock,Sort.ahead,Array.getElem?_modify,hb,onCells]
theorem aaF{α:Type}[Inhabited α]{enc:α->ad}{g:Nat}(d:Array α):BQ w (putRow enc (Sort.ahead w q) g off d) (some g):=by
 refine⟨⟨O,O,O,by simp [Sort.ahead],fun k hk bU=>?_⟩,Nat.le_add_right _ _⟩;have:g≠k:=fun e=>bU (by rw [e])
 simp [putRow,mapBlock,Sort.ahead,Array.getElem?_modify,this]
theorem Mk{α:Type}[Inhabited α]{enc:α->ad}{g:Nat}{cur:Array ad}{e:ae}{ds:List α}(hh:w.heap[g]?=some (.cells cur e (0,0)))(hc:∀j,j<ds.length->cur[o+j]?=(ds.map enc)[j]?):Holds enc w g o ds.toArray:=fun j hj=>by
 have gX:j<ds.length:=by simpa using hj
 refine⟨?_,by simp [World.frozen?,hh]⟩;simp only [World.cell?,hh];simp only [Option.isSome_none,Bool.false_eq_true,if_false];rw [hc j gX];simp [gX]
theorem St.laid{α:Type}[Inhabited α]{enc:α->ad}{k:Ck}{g:Nat}{cur:Array ad}{ds:List α}(hS:St w0 w ks)(hk:ks[i]?=some k)(hA:k.A=some ⟨g,o,Option.none⟩)(hg:w0.heap.size<=g)(hh:w.heap[g]?=some (.cells cur k.e (0,0)))(hs:o+k.c<=cur.size)(hm:m<=ds.length)(hd:ds.length<=k.c)(hc:k.c<=maxLen)(he1:∀x,(enc x).oneCell'=true:=by intro _;rfl):
 St w0 (putRow enc (Sort.ahead w q) g o ds.toArray) (ks.set i ⟨k.A,m,k.c,k.e,(ds.take m).map enc⟩):=by
 refine hS.turn hk (by simp [Ck.gS,hA]) (by simp [Ck.gS,hA]) (aaF _) (.qo (xN fun v hv=>by obtain⟨x,_,rfl⟩:=dA.1 hv;exact he1 x) ⟨by simp;omega,by show m<=k.c;omega,hc,.inr ⟨g,o,_,hA,hg,acp _ hh,by simp only [putCells,Array.size_mapIdx];exact hs,fun j hj=>?_⟩⟩);have hj:j<m:=hj;show(putCells enc o ds.toArray cur)[o+j]?=((ds.take m).map enc)[j]?;have E4:o+j<cur.size:=by omega
 have hjd:j<ds.length:=by omega
 simp [putCells,E4,hjd,rK,hj]
def SA(l:ai):Prop:=l.Pairwise (· < ·)
theorem SA.Co(h:SA l):sS l:=h.imp fun h=>by omega
theorem SA.nodup(h:SA l):l.Nodup:=h.imp fun h=>by omega
theorem SA.eq(h:SA l)(h':SA l')(hm:∀x,x∈l↔x∈l'):l=l':=Yb ((vJ h.nodup h'.nodup).2 hm) h.Co h'.Co
def lF(xs:ai):ai:=Lib.compactUpTo xs.toArray xs.toArray.size
theorem JV(xs:ai)(j:Nat):xs.toArray[j]! =gi xs j:=by
 by_cases h:j<xs.length
 ·rw [b9 h];simp [h]
 have e:gi xs j=0:=by simp [gi,da,mh (Nat.not_lt.1 h)]
 rw [e,getElem!_neg _ _ (by simpa using h)];rfl
theorem Kb(xs:ai):lF xs=((List.range xs.length).filter fun j:Nat=>decide (j=0\/gi xs j≠gi xs ((j - 1:Nat):Int))).map fun j:Nat=>gi xs j:=by
 unfold lF Lib.compactUpTo;rw [List.size_toArray];have e1:Lib.keeps xs.toArray=fun j:Nat=>decide (j=0\/gi xs j≠gi xs ((j - 1:Nat):Int)):=by
  funext j;unfold Lib.keeps;rw [JV,JV]
 rw [e1];exact rN fun j _=>JV xs j
theorem Qb(xs:ai):(lF xs).length<=xs.length:=by
 rw [Kb,fO];have:=rL (fun j:Nat=>decide (j=0\/gi xs j≠gi xs ((j - 1:Nat):Int))) (List.range xs.length)
 rwa [qB]at this
theorem YP(xs:ai)(x:Int):x∈lF xs↔x∈xs:=by
 rw [Kb,dA];constructor
 ·rintro⟨j,hj,rfl⟩;have:=il.1 (gg.1 hj).1;rw [b9 this];exact dQ _
 ·intro hx;obtain⟨j,hj,vi⟩:=gF.1 hx;rw [<-b9 hj]at vi;clear hx
  induction j with
  | zero=>exact⟨0,gg.2 ⟨il.2 hj,by simp⟩,vi⟩
  | succ j ih=>
   by_cases h:gi xs ((j+1:Nat):Int)=gi xs ((j:Nat):Int)
   ·exact ih (by omega) (h▸vi)
   ·exact⟨j+1,gg.2 ⟨il.2 hj,by simp only [Nat.add_sub_cancel,lg];exact .inr h⟩,vi⟩
theorem YO(h:sS xs):SA (lF xs):=by
 have mono:∀a b,a<=b->b<xs.length->gi xs a<=gi xs b:=fun a b eB hb=>by
  rw [b9 (by omega),b9 hb]
  by_cases e:a=b
  ·subst e;exact Int.le_refl _
  exact(List.pairwise_iff_getElem.1 h) a b (by omega) hb (by omega)
 rw [Kb];unfold SA;rw [pd];have hr:(List.range xs.length).Pairwise (· < ·):=List.pairwise_lt_range;refine(hr.filter _).imp_of_mem fun {a b} ha hb eB=>?_
 have dF:=il.1 (gg.1 hb).1;have eM:=tB (gg.1 hb).2;have h1:=mono a (b - 1) (by omega) (by omega);have h2:=mono (b - 1) b (by omega) dF;rcases eM with eM | eM
 ·omega
 omega
def cs(l:ai):ai:=lF (nO l)
theorem Za(l:ai)(x:Int):x∈cs l↔x∈l:=by rw [cs,YP];exact(Of l).mem_iff
theorem Y9(l:ai):SA (cs l):=YO (ajm l)
theorem YZ(i:Nat){t:ae}{A:aj}{n c:Nat}(hS:St w0 w ks)(hk:ks[i]?=some (ax t A n c xs))(h0:0<n)(hn:n<=1000000000):
 aK prog 160 [.slice A n c] w (fun v w'=>v= .slice A (lF xs).length c/\St w0 w' (ks.set i (ax t A (lF xs).length c (lF xs)))):=by
 obtain⟨h1,h2,h3,h4⟩:=hS.pU hk (uA _);have hl:xs.length=n:=hS.zl i hk;have h2:n<=c:=h2;have h3:c<=maxLen:=h3;rcases h4 with⟨_,lJ⟩ | ⟨g,o,cur,hA,hg,hh,hs,hc⟩
 ·have lJ:c=0:=lJ;omega
 have hA:A=some ⟨g,o,none⟩:=hA;have hs:o+c<=cur.size:=hs;have hc:∀j,j<n->cur[o+j]?=(xs.map (Value.int .i64))[j]?:=hc;subst hA;subst hl;have key:=AnyE.slices_Compact afK (Value.int .i64) (fun _=>O) (EqlAt.intD _ _ .i64) (NeqAt.intD _ _ .i64) (0:Int) (fun w=>zeroValue2 w) g o c xs.toArray w (Mk hh hc) (by simp;omega) (by simpa using h2);refine Calls.mono key fun x w' ⟨hx,q,hw⟩=> ⟨_,hx,O,?_⟩
 subst hw;have hle:=Qb xs;have h:=hS.laid (q:=q) (m:=(lF xs).length) (enc:=Value.int .i64) (ds:=lF xs++List.replicate (xs.toArray.size - (lF xs).length) 0) hk O hg hh hs (by simp) (by simp;show _<=c;omega) h3;rw [vK (bs _),List.take_length]at h;exact h
instance:Inhabited aO:=⟨dO⟩
theorem Zp(i:Nat){t:ae}{A:aj}{n c a:Nat}{xs:List aO}(hS:St w0 w ks)(hk:ks[i]?=some (bZ t A n c xs))(h0:0<n)(hn:n<=1000000000)(eB:a<=b)(hb:b<=n):
 aK prog 245 [.slice A n c,ak a,ak b] w (fun v w'=>v= .slice A (n - (b - a)) c/\St w0 w' (ks.set i (bZ t A (n - (b - a)) c (xs.take a++xs.drop b)))):=by
 obtain⟨h1,h2,h3,h4⟩:=hS.pU hk (xM _);have hl:xs.length=n:=(hS.fG i hk).1;have h2:n<=c:=h2;have h3:c<=maxLen:=h3;rcases h4 with⟨_,lJ⟩ | ⟨g,o,cur,hA,hg,hh,hs,hc⟩
 ·have lJ:c=0:=lJ;omega
 have hA:A=some ⟨g,o,none⟩:=hA;have hs:o+c<=cur.size:=hs;have hc:∀j,j<n->cur[o+j]?=(xs.map aO.v)[j]?:=hc;subst hA;subst hl;obtain⟨i0,eY,_,IC,_⟩:=bq.get prog 34;have key:=AnyE.slices_Delete afN aO.v (fun _=>O) dO (fun w=>zeroValue34 w) i0 eY IC g o c a b xs.toArray w (Mk hh hc) (by simpa using h2) (by simpa [maxLen]using h3) eB (by simpa using hb);refine Calls.mono key fun x w' ⟨hx,q,hw⟩=> ⟨_,hx,by simp,?_⟩
 subst hw;have h:=hS.laid (q:=q) (m:=xs.length - (b - a)) (enc:=aO.v) (ds:=xs.toArray.toList.take a++xs.toArray.toList.drop b++List.replicate (b - a) dO) hk O hg hh hs (by simp;omega) (by simp;omega) h3;have e1:(xs.toArray.toList.take a++xs.toArray.toList.drop b++List.replicate (b - a) dO).take (xs.length - (b - a))=xs.take a++xs.drop b:=by
  have e2:(xs.take a++xs.drop b).length=xs.length - (b - a):=by simp;omega
  show(xs.take a++xs.drop b++List.replicate (b - a) dO).take _=_;rw [<-e2,vK (bs _),List.take_length]
 rw [e1]at h;exact h
end
section
open Go.RowKit
variable{w0 w w':aa}{pre ks:List Ck}
theorem XE{t1 t2:ae}{A:aj}{n c:Nat}{rs:List aO}{xss:ah}(h:St w0 w (pre++aL t1 t2 A n c rs xss)):St w0 w (pre++ (aL t1 t2 A n c rs xss++ [])):=by rwa [fj]
def part(T:ai)(m:Nat):ai:=T.take m++List.replicate (T.length - m) 0
theorem OM(A:aj)(n c:Nat)(rs:List aO)(w:aa)(hR:ml w A n rs)(hn:n<=1000000)(h0:0<n):aK prog 154 [.slice A n c] w (fun v w'=>∃A' c',v= .slice A' n c'/\St w w' [bZ 34 A' n c' rs]):=by
 cases hA:A with
 | none=>
  subst hA;obtain⟨p,hp,_⟩:=hR.2 0 h0;simp [ay]at hp
 | some a=>
  subst hA;refine bA func154 O ntmps154 O (df O) (bg O (D2 O O O (aC O (Cd.fC O (aA O (jn (St.refl w) O ?_))))));intro A1 w1 aI;have aI:St w w1 [bZ 34 A1 0 0 []]:=aI;refine ar O (lA 0 aI O (aI.NJ hR) O O O (by omega) (by omega) O ?_);intro A2 c2 w2 aE;rw [Nat.zero_add]at aE|-;refine bI O (ia O ?_);exact⟨A2,c2,O,aE⟩
theorem akb(Ab A:aj)(n c:Nat)(rs:List aO)(xss:ah)(i:Nat)(w:aa)(hB:Rd w Ab 1 (fun _=> .slice A n c))(hR:bF w A n rs xss)(hn:n<=1000)(hi:i<n):
 aK prog 190 [.pointer Ab,ak i] w (fun v w'=>∃A' c',v= .slice A' (n - 1) c'/\St w w' [bZ 34 A' (n - 1) c' (rs.eraseIdx i)]):=by
 refine bA func190 O ntmps190 O (df O) (bg O ?_);refine wR hB (by decide) O O (aU hB O (bh hB O (aQ (OM A n c rs _ hR.top (by omega) (by omega)) O ?_)));rintro _ w1 ⟨A1,c1,rfl,aI⟩;refine ar O (aH O ?_);have mm:((i:Int)+1)=((i+1:Nat):Int):=by omega
 rw [mm];refine aQ (Zp 0 aI O (by omega) (by omega) (show i<=i+1 by omega) (by omega)) O ?_;rintro _ w2 ⟨rfl,aE⟩;refine bI O (ia O ?_);have e:n - (i+1 - i)=n - 1:=by omega
 rw [e];rw [e,<-List.eraseIdx_eq_take_drop_succ]at aE;exact⟨A1,c1,O,aE⟩
theorem QG(Ab A:aj)(n c:Nat)(rs:List aO)(xss:ah)(i:Nat)(w:aa)(hB:Rd w Ab 1 (fun _=> .slice A n c))(hR:bF w A n rs xss)(hM:cN xss)(hi:i<n):
 aK prog 119 [.pointer Ab,ak i] w (fun v w'=>∃A',v= .tuple #[.slice A' (gl xss 0).length (gl xss 0).length,ak (iS xss i)]/\St w w' [ax 2 A' (gl xss 0).length (gl xss 0).length (eG xss i)]):=by
 have hl:=hR.len;have h1:=hM.1;have h2:=hM.2.1;have e0:(rg rs 0).n=(gl xss 0).length:=(hR.qu (by omega) (by omega)).symm;refine bA func119 O ntmps119 O (x5 O) (bg O (aQ (zX Ab A n c rs xss _ w hB O hR (by omega)) O ?_));rintro _ w ⟨rfl,rfl⟩;rw [e0];refine ar O (aQ (akb Ab A n c rs xss i _ hB hR (by omega) hi) O ?_);rintro _ w1 ⟨A1,c1,rfl,aI⟩;refine aQ (UT A1 (n - 1) c1 (rs.eraseIdx i) (xss.eraseIdx i) (gl xss 0).length _ ((aI.cT hR).erase hi (aI.fG 0 O)) (by omega) (hM.2.2.1.sys.erase i) (hM.2.2.1.inj.erase i) (by omega)) O ?_;rintro _ w2 ⟨A2,rfl,aw⟩;have aE:=aI.call aw;refine bI O (Jb O O ?_);exact⟨A2,O,aE.sub (List.Sublist.cons_cons _ (List.nil_sublist _))⟩
theorem N8{t:ae}:∀ {rs:List aO} {xss:ah} {i:Nat} {s:aO} {xs:ai},rs.length=xss.length->(cK t rs xss).set i (ax t s.a s.n s.c xs)=cK t (rs.set i s) (xss.set i xs)
 | [],[],_,_,_,_=>rfl
 | [],_::_,_,_,_,h=>by simp at h
 | _::_,[],_,_,_,h=>by simp at h
 | r::rs,x::xss,0,s,xs,_=>rfl
 | r::rs,x::xss,i+1,s,xs,h=>by
  have:=N8 (t:=t) (rs:=rs) (xss:=xss) (i:=i) (s:=s) (xs:=xs) (by simpa using h);simpa [cK]using this
theorem IX{w0 w:aa}{t:ae}:∀(n:Nat) {ks:List Ck},St w0 w ks->St w0 w (ks++cK t (List.replicate n dO) (List.replicate n []))
 | 0,ks,h=>by show St w0 w (ks++ []);rwa [fj]
 | n+1,ks,h=>by
  have h1:=IX (t:=t) n h;have h2:=h1.nil t;exact h2.perm (qD.symm)
def JY(Vl El:ai)(m:Nat):Nat->ah
 | 0=>List.replicate m []
 | f+1=> (JY Vl El m f).set (gi El f).toNat (gl (JY Vl El m f) (gi El f)++ [gi Vl f])
def ends(Vl El:ai)(m f:Nat):ah:=(JY Vl El m f).map cs
def Gd(L:ah)(K:Int)(w:aa)(v:ad)(w':aa):Prop:=∃A' c' rs',v= .tuple #[.slice A' L.length c',ak K]/\rs'.length=L.length/\St w w' (aL 34 2 A' L.length c' rs' L++ [])
theorem Gd.none{K:Int}(h:St w w' ks):Gd [] K w (.tuple #[.slice Option.none 0 0,ak K]) w':=⟨Option.none,0,[],rfl,rfl,h.none.nil _⟩
def mw(B:ah)(e:Nat):ah:=(B.take e).map cs++B.drop e
theorem agw(B:ah)(e:Nat):(mw B e).length=B.length:=by simp [mw];omega
theorem agy(B:ah):mw B 0=B:=by simp [mw]
theorem agu(B:ah):mw B B.length=B.map cs:=by simp [mw]
theorem agv{B:ah}{e:Nat}(h:e<B.length):gl (mw B e) e=gl B e:=by
 simp only [gl,mw,jc,da];rw [kD (by simp;omega)];simp [Nat.min_eq_left (Nat.le_of_lt h)]
theorem agx{B:ah}{e:Nat}(h:e<B.length):(mw B e).set e (cs (gl B e))=mw B (e+1):=by
 rw [b7 h];unfold mw;rw [List.set_append_right _ _ (by simp;omega),lV h,iD,gx];have e1:e - ((B.take e).map cs).length=0:=by simp;omega
 rw [e1,List.drop_eq_getElem_cons h]
 rfl
theorem aja(i:Nat){t:ae}{A:aj}{n c:Nat}{xs:ai}(hS:St w0 w ks)(hk:ks[i]?=some (ax t A n c xs))(hn:n<=1000000000):
 aK prog 159 [.slice A n c] w (fun v w'=>v= .tuple #[]/\St w0 w' (ks.set i (ax t A n c (nO xs)))):=by
 by_cases h0:0<n
 ·exact ajd i hS hk h0 hn
 obtain rfl:n=0:=by omega
 have jH:=hS.zl i hk;obtain rfl:=qA jH;refine Calls.mono (AnyM.slices_Sort_int_none Uq A c w) fun x w' ⟨hx,hw⟩=> ⟨_,hx,O,?_⟩
 subst hw;have e:nO []=[]:=qA (Of []).length_eq;rw [e,Jk hk];exact hS
theorem YY(i:Nat){t:ae}{A:aj}{n c:Nat}{xs:ai}(hS:St w0 w ks)(hk:ks[i]?=some (ax t A n c xs))(hn:n<=1000000000):
 aK prog 160 [.slice A n c] w (fun v w'=>v= .slice A (lF xs).length c/\St w0 w' (ks.set i (ax t A (lF xs).length c (lF xs)))):=by
 by_cases h0:0<n
 ·exact YZ i hS hk h0 hn
 obtain rfl:n=0:=by omega
 have jH:=hS.zl i hk;obtain rfl:=qA jH;have e:lF []=[]:=qA (Nat.le_zero.1 (Qb []));rw [e];refine bA func160 O ntmps160 O (df O) ?_;refine bg O (bc O O (aC O ?_));refine DU O (by decide) (dX O (ia O ?_));exact⟨O,by rw [show([]:ai).length=0 from O,Jk hk];exact hS⟩
theorem Ux{t1 t2:ae}{A:aj}{n c:Nat}{rs:List aO}{xss:ah}(h:rs.length=xss.length):(aL t1 t2 A n c rs xss).length=rs.length+1:=by simp [aL,zx h]
section
variable {P:Program} {N:Nat} {ops:Array Oper} {K:Env->aa->Prop} {rest:List Oper} {e:Env} {w:aa} {d:Nat} {ty:ae} {pos:String} {af:Array Edge}
theorem Xg{F:FuncId}{x y:ag}{v1 v2:ad}(hx:ev e x=v1)(hy:ev e y=v2)(hb:Nat.blt d N=true)(hK:ao P N ops K rest (br e d (.func (.func F) #[] #[v1,v2])) w):
 ao P N ops K (⟨some d,.makeFunc (.func F) #[] #[x,y],ty,pos,af,none⟩::rest) e w:=
 .val (by simp [execOp,Instr.makeFunc,hx,hy]) hb hK
end
def zR(lo hi:Int)(xs:ai):Prop:=∀x∈xs,lo<=x/\x<=hi
instance (lo hi:Int)(xs:ai):Decidable (zR lo hi xs):=by unfold zR;exact inferInstance
theorem X9(x lo hi:Int)(P1 P2:aj)(w:aa)(h1:Rd w P1 1 (fun _=>ak lo))(h2:Rd w P2 1 (fun _=>ak hi)):
 aK prog 216 [ak x,.pointer P1,.pointer P2] w (fun v w'=>v= .bool (decide (¬(lo<=x/\x<=hi)))/\w'=w):=by
 refine bA func216 O ntmps216 O (df O) (bg O ?_);refine ao.ld h1 (by exact aF Value.pointer (jh P1).symm) (by decide) O O O ?_;refine ao.ld h2 (by exact aF Value.pointer (jh P2).symm) (by decide) O O O ?_;refine aQ (ye _ _ _ _) O ?_;rintro _ w ⟨rfl,rfl⟩
 first | refine fv rfl rfl ?_ | refine gA rfl rfl ?_
 refine bI O (dz O ?_);exact⟨O,O⟩
theorem WR(A:aj)(n c:Nat)(xs:ai)(lo hi:Int)(P1 P2:aj)(w:aa)(hR:cg w A n xs)(hn:n<=9223372036854775807)(h1:Rd w P1 1 (fun _=>ak lo))(h2:Rd w P2 1 (fun _=>ak hi)):
 aK prog 191 [.slice A n c,.func (.func 216) #[] #[.pointer P1,.pointer P2]] w (fun v w'=> (∃i:Int,v=ak i/\(0<=i↔¬zR lo hi xs))/\w'=w):=by
 have jH:=hR.1;refine bA func191 O ntmps191 O (df O) ?_;refine bg O (bc O O (aC O ?_));refine Cd.loop (α:=Nat) (fun k=> [(0,.slice A n c),(1,.func (.func 216) #[] #[.pointer P1,.pointer P2]),(7,ak n),(8,ak k)]) (fun k w'=>w'=w/\k<=n/\∀j,j<k->lo<=gi xs (j:Nat)/\gi xs (j:Nat)<=hi) (fun k=>n - k) 0 (amz O) ⟨O,aZ _,fun j hj=>by omega⟩ ?_;rintro k e w ⟨rfl,hk,hK⟩;refine bJ O (aM _ O (fun h3=>?_) (fun h3=>?_))
 ·refine aA O (aD hR.2 O (a8 hR O (aQ (X9 _ lo hi P1 P2 _ h1 h2) O ?_)));rintro _ w ⟨rfl,rfl⟩;refine aC O (aM _ O (fun h4=>?_) (fun h4=>?_))
  ·refine dX O (fz (eW ?_));refine gZ O ?_;exact⟨⟨(k:Int),O,⟨fun _ ha=>h4 (by rw [b9 (by omega)];exact ha _ (dQ _)),fun _=>by omega⟩⟩,O⟩
  refine aA O (aH O (aT O (tQ ?_)));refine⟨k+1,by show n - (k+1)<n - k;omega,(amz O),O,by omega,fun j hj=>?_⟩
  by_cases ej:j=k
  ·subst ej;exact jb.1 h4
  exact hK j (by omega)
 refine bn O (bo (gq O ?_));refine gZ O ⟨⟨-1,O,⟨fun h=>absurd h (by decide),fun h=>absurd (fun x hx=>?_) h⟩⟩,O⟩;obtain⟨j,hj,rfl⟩:=gF.1 hx;have:=hK j (by omega)
 rwa [b9 hj]at this
theorem WH(A:aj)(n c:Nat)(xs:ai)(lo hi:Int)(P1 P2:aj)(w:aa)(hR:cg w A n xs)(hn:n<=9223372036854775807)(h1:Rd w P1 1 (fun _=>ak lo))(h2:Rd w P2 1 (fun _=>ak hi)):
 aK prog 122 [.slice A n c,.func (.func 216) #[] #[.pointer P1,.pointer P2]] w (fun v w'=>v= .bool (decide (¬zR lo hi xs))/\w'=w):=by
 refine bA func122 O ntmps122 O (df O) (bg O (aQ (WR A n c xs lo hi P1 P2 _ hR hn h1 h2) O ?_));rintro _ w ⟨⟨i,rfl,di⟩,rfl⟩;refine bI O (dz O ?_);exact⟨aF Value.bool (kk.2 di),O⟩
theorem Ya(A:aj)(n c:Nat)(xs:ai)(lo hi:Int)(w:aa)(hR:cg w A n xs)(hn:n<=9223372036854775807):
 aK prog 161 [.slice A n c,ak lo,ak hi] w (fun v w'=>v= .bool (decide (zR lo hi xs))/\St w w' []):=by
 refine bA func161 O ntmps161 O (df O) (bg O ?_);refine ao.box (v:=ak lo) (St.refl w) O O (by show(1:Nat)<=maxLen;simp [maxLen]) ?_;intro P1 w1 aI;have aI:St w w1 [Bx 2 1 P1 [ak lo]]:=aI;refine ao.box (v:=ak hi) aI O O (by show(1:Nat)<=maxLen;simp [maxLen]) ?_;intro P2 w2 aE;have aE:St w w2 [Bx 2 1 P2 [ak hi],Bx 2 1 P1 [ak lo]]:=aE;refine ar O (Xg O O O (aQ (WH A n c xs lo hi P1 P2 _ (aE.gh hR) hn (Rd.one (aE.rd 1 O)) (Rd.one (aE.rd 0 O))) O ?_));rintro _ w2 ⟨rfl,rfl⟩
 first | refine fv rfl rfl ?_ | refine gA rfl rfl ?_
 refine bI O (dz O ?_);exact⟨by simp,aE.none⟩
def OR(n:Nat)(ws:ai):Prop:=zR 0 ((n:Int) - 1) ws/\ws.length<=64
instance (n:Nat)(ws:ai):Decidable (OR n ws):=by unfold OR;exact inferInstance
end
section
variable{l B M:ah}{i k j:Nat}{p b R:ai}{x y d u:Int}
theorem Nb{N:Nat}{xss:ah}(hs:Sys N xss)(di:tR N xss){x y:Int}(h0:0<=x)(h1:x<N)(hr:Reach xss x y):∀i,i<=N->gi (bw N xss i).1 x=gi (bw N xss i).1 y
 | 0,_=>by
  have hy:=hr.range hs h0 h1;simp only [bw,yy h0 h1,yy hy.1 hy.2]
 | i+1,hi=>by
  have hy:=hr.range hs h0 h1;have ih:=Nb hs di h0 h1 hr i (by omega);have ho:=wD hs (pt:=(i:Int)) (by omega) (by omega);simp only [bw]
  split
  ·exact ih
  ·simp only;rw [xd _ _ _ (qm N xss i) ho.1.range x h0,xd _ _ _ (qm N xss i) ho.1.range y hy.1];have hm:x∈eE N xss i↔y∈eE N xss i:=by
    rw [ho.2.2,ho.2.2];exact⟨fun h=>h.trans hr,fun h=>h.trans (hr.symm hs di h0 h1)⟩
   by_cases h:x∈eE N xss i
   ·rw [aB h,aB (hm.1 h)]
   ·rw [az h,az (fun h'=>h (hm.2 h')),ih]
theorem Uf{N:Nat}{xss:ah}(hs:Sys N xss)(di:tR N xss){x y:Int}(h0:0<=x)(h1:x<N)(h2:0<=y)(h3:y<N):∀i,i<=N->gi (bw N xss i).1 x=gi (bw N xss i).1 y->0<=gi (bw N xss i).1 x->Reach xss x y
 | 0,_,_,h=>by simp only [bw,yy h0 h1]at h;omega
 | i+1,hi,he,hp=>by
  have ih:=Uf hs di h0 h1 h2 h3 i (by omega);have ho:=wD hs (pt:=(i:Int)) (by omega) (by omega);have hc:=xQ N xss i;have hx:=(Fy hs di i (by omega)).1 x h0 h1;have hy:=(Fy hs di i (by omega)).1 y h2 h3;simp only [bw]at he hp
  split at he
  ·rename_i hl;rw [aB hl]at hp;exact ih he hp
  ·rename_i hl;rw [az hl]at hp;simp only at he hp;rw [xd _ _ _ (qm N xss i) ho.1.range x h0]at he hp;rw [xd _ _ _ (qm N xss i) ho.1.range y h2]at he
   by_cases qX:x∈eE N xss i
   ·rw [aB qX]at he
    by_cases Fq:y∈eE N xss i
    ·exact(((ho.2.2 x).1 qX).symm hs di (by omega) (by omega)).trans ((ho.2.2 y).1 Fq)
    ·rw [az Fq]at he;omega
   ·rw [az qX]at he hp
    by_cases Fq:y∈eE N xss i
    ·rw [aB Fq]at he;omega
    ·rw [az Fq]at he;exact ih he hp
theorem ZH{xss:ah}(hk:k<xss.length)(bU:k≠i):gl xss k∈xss.eraseIdx i:=by
 rw [List.mem_eraseIdx_iff_getElem];exact⟨k,hk,bU,by rw [b7 hk]⟩
theorem ZI{xss:ah}(h:p∈xss.eraseIdx i):∃k:Nat,k<xss.length/\k≠i/\p=gl xss k:=by
 rw [List.mem_eraseIdx_iff_getElem]at h;obtain⟨k,hk,bU,rfl⟩:=h;exact⟨k,hk,bU,by rw [b7 hk]⟩
theorem QH{xss:ah}(hM:cN xss)(hk:k<xss.length)(bU:k≠i){f:Int}(h0:0<=f)(h1:f< (gl xss 0).length):gi (eG xss i) (gi (gl xss k) f)=gi (eG xss i) f:=(Nb (hM.2.2.1.sys.erase i) (hM.2.2.1.inj.erase i) h0 h1 (.step .refl (ZH hk bU)) _ (bs _)).symm
theorem QI{xss:ah}(hM:cN xss){f g:Int}(h0:0<=f)(h1:f< (gl xss 0).length)(h2:0<=g)(h3:g< (gl xss 0).length)(h:gi (eG xss i) f=gi (eG xss i) g):Reach (xss.eraseIdx i) f g:=by
 obtain⟨k,rfl⟩:∃k:Nat,f=k:=⟨f.toNat,by omega⟩;exact Uf (hM.2.2.1.sys.erase i) (hM.2.2.1.inj.erase i) h0 h1 h2 h3 _ (bs _) h (Kx hM i k (by omega)).1
theorem cN.two{xss:ah}(hM:cN xss)(hk:k<xss.length){f:Int}(h0:0<=f)(h1:f< (gl xss 0).length):gi (gl xss k) (gi (gl xss k) f)=f:=by
 obtain⟨q,rfl⟩:∃q:Nat,f=q:=⟨f.toNat,by omega⟩;have hr:=hM.2.2.1.at_ hk;exact(hr.2.2 q (by omega)).2
theorem cN.Bk{xss:ah}(hM:cN xss)(hk:k<xss.length){f:Int}(h0:0<=f)(h1:f< (gl xss 0).length):0<=gi (gl xss k) f/\gi (gl xss k) f< (gl xss 0).length:=(hM.2.2.1.sys _ (by rw [b7 hk];exact dQ _)).2 f h0 h1
theorem cN.comm{xss:ah}(hM:cN xss)(hi:i<xss.length)(hk:k<xss.length)(mQ:i+2<=k){f:Int}(h0:0<=f)(h1:f< (gl xss 0).length):gi (gl xss k) (gi (gl xss i) f)=gi (gl xss i) (gi (gl xss k) f):=by
 obtain⟨q,rfl⟩:∃q:Nat,f=q:=⟨f.toNat,by omega⟩;exact(hM.2.2.2.1 i hi k hk mQ q (by omega)).1
def LT(a b:ai):Prop:=iW a b<0
instance (a b:ai):Decidable (LT a b):=by unfold LT;infer_instance
theorem LT.ne{a:ai}(h:LT a b):a≠b:=fun e=>by
 unfold LT at h;rw [Nf.2 e]at h;omega
theorem OT{a:ai}(h:¬LT a b)(h':a≠b):LT b a:=by
 unfold LT at h|-;have h1:=Nd a b;have h2:iW a b≠0:=fun e=>h' (Nf.1 e)
 omega
theorem LT.asymm{a:ai}(h:LT a b):¬LT b a:=fun h'=>by
 unfold LT at h h';have h1:=Nd a b;omega
theorem Jy(a:ai):¬LT a a:=fun h=>h.ne rfl
theorem LT.trans{a c:ai}(h:LT a b)(h':LT b c):LT a c:=Ul h h'
theorem WU{a c:ai}(h:¬LT a b)(h':¬LT b c):¬LT a c:=fun HG=>by
 by_cases e:a=b
 ·subst e;exact h' HG
 exact h' ((OT h e).trans HG)
def SL(l:ah):Prop:=l.Pairwise LT
theorem SL.nodup(h:SL l):l.Nodup:=h.imp fun h=>h.ne
theorem SL.eq:∀ {l l':ah},SL l->SL l'->(∀x,x∈l↔x∈l')->l=l'
 | [],[],_,_,_=>rfl
 | [],b::r,_,_,h=>absurd ((h b).2 (by simp)) (by simp)
 | a::l,[],_,_,h=>absurd ((h a).1 (by simp)) (by simp)
 | a::l,b::r,hl,hr,h=>by
  obtain⟨om,qg⟩:=List.pairwise_cons.1 hl;obtain⟨l7,qV⟩:=List.pairwise_cons.1 hr;have e:a=b:=by
   have h1:a∈b::r:=(h a).1 (by simp);have h2:b∈a::l:=(h b).2 (by simp);rcases iP.1 h1 with e | h1
   ·exact e
   ·rcases iP.1 h2 with e | h2
    ·exact e.symm
    ·exact absurd (om b h2) (l7 a h1).asymm
  subst e;rw [SL.eq qg qV fun x=>?_];have hx:=h x;constructor
  ·intro hm;rcases iP.1 (hx.1 (by simp [hm]))with e | h'
   ·subst e;exact absurd (om x hm) (Jy x)
   ·exact h'
  ·intro hm;rcases iP.1 (hx.2 (by simp [hm]))with e | h'
   ·subst e;exact absurd (l7 x hm) (Jy x)
   ·exact h'
def Ins(a b:ai):Prop:=∀x∈a,x∈b
instance (a b:ai):Decidable (Ins a b):=by unfold Ins;infer_instance
theorem OS{a:ai}:LT (x::a) (y::b)↔x<y\/x=y/\LT a b:=by
 unfold LT;rw [iW]
 by_cases e:x=y
 ·subst e;rw [aB (Cx.2 rfl)];constructor
  ·exact fun h=> .inr ⟨O,h⟩
  rintro(h | h)
  ·omega
  exact h.2
 rw [az (fun h=>e (Cx.1 h)),GQ];constructor
 ·exact fun h=> .inl h
 rintro(h | h)
 ·exact h
 exact absurd h.1 e
def OV(ls:ah)(x:ai):Prop:=x∈ls/\x≠[]/\∀y∈ls,Ins x y->y=x
instance (ls:ah)(x:ai):Decidable (OV ls x):=by unfold OV;infer_instance
def JW(x:ai):ah->Nat
 | []=>0
 | y::l=>if LT y x then JW x l+1 else 0
def aif(l:ah)(x:ai):ah:=if x∈l then l else l.take (JW x l)++x::l.drop (JW x l)
def Vs(ls:ah):ah:=(ls.filter fun l=>decide (l≠[])).foldl aif []
def ZL(ls:ah):ah:=(Vs ls).filter fun x=>decide (∀y∈Vs ls,Ins x y->y=x)
def ix(s:ai)(x:Int):Int:=(s.idxOf x:Nat)
def Zm(ss:ah):ai:=cs ss.flatten
def ON(ss:ah):Prop:=(∃l∈ss,6<l.length)\/60< (Zm ss).length\/400< (ZL ss).length
instance (ss:ah):Decidable (ON ss):=by unfold ON;infer_instance
def bS(n:Nat):ai:=(List.range n).map fun k:Nat=> (k:Int)
theorem N6(n:Nat):(bS n).length=n:=by simp [bS]
theorem jU(n:Nat)(x:Int):x∈bS n↔0<=x/\x<n:=by
 simp only [bS,dA,il];exact⟨fun⟨k,hk,e⟩=>by omega,fun h=> ⟨x.toNat,by omega,by omega⟩⟩
theorem mf(n:Nat):SA (bS n):=by
 unfold SA bS;rw [pd];exact List.pairwise_lt_range.imp fun h=>by omega
theorem CK(x:Int)(l:ai)(i:Nat):gi (x::l) ((i+1:Nat):Int)=gi l (i:Nat):=by simp [gi]
theorem SA.zm{l:ai}(h:SA l)(ig:i<j)(hj:j<l.length):gi l i<gi l j:=by
 rw [b9 (by omega),b9 hj];exact List.pairwise_iff_getElem.1 h i j (by omega) hj ig
def ke(R:ai)(B:ah)(e:Int):ai:=(bS R.length).filter fun f=>decide (gi R f=gi R e+1/\e∈gl B f)
theorem mF{e f:Int}:f∈ke R B e↔(0<=f/\f<R.length)/\gi R f=gi R e+1/\e∈gl B f:=by
 unfold ke;rw [gg,jU,lg]
theorem DP(R:ai)(B:ah)(e:Int):SA (ke R B e):=pc _ (mf _)
def nq(R:ai)(B:ah):Nat->Int->ah
 | 0,_=> [[]]
 | k+1,e=> (ke R B e).flatMap fun f=> (nq R B k f).map (f:: ·)
def uU(R:ai):ai:=(bS R.length).filter fun e=>decide (gi R e=0)
theorem tV{e:Int}:e∈uU R↔(0<=e/\e<R.length)/\gi R e=0:=by
 unfold uU;rw [gg,jU,lg]
def aG(n:Nat)(R:ai)(B:ah):ah:=(uU R).flatMap fun e=> (nq R B (n - 1) e).map (e:: ·)
def dS(n:Nat)(R:ai)(B:ah)(e:Int):Prop:=nq R B (n - 1 - (gi R e).toNat) e≠[]
instance (n:Nat)(R:ai)(B:ah)(e:Int):Decidable (dS n R B e):=by unfold dS;infer_instance
theorem Po{n:Nat}{e:Int}(h:gi R e=(n:Int) - 1):dS n R B e:=by
 unfold dS;rw [show n - 1 - (gi R e).toNat=0 by omega];simp [nq]
theorem Gz{n:Nat}{e:Int}(h0:0<=gi R e)(h1:gi R e< (n:Int) - 1):dS n R B e↔∃f∈ke R B e,dS n R B f:=by
 obtain⟨k,hk⟩:∃k,n - 1 - (gi R e).toNat=k+1:=⟨n - 1 - (gi R e).toNat - 1,by omega⟩;have hf:∀f∈ke R B e,n - 1 - (gi R f).toNat=k:=fun f hf=>by
  have:=(mF.1 hf).2.1;omega
 unfold dS;rw [hk,nq];constructor
 ·intro h;obtain⟨x,hx⟩:=List.exists_mem_of_ne_nil _ h;obtain⟨f,jg,hx⟩:=List.mem_flatMap.1 hx;obtain⟨y,hy,_⟩:=dA.1 hx;exact⟨f,jg,by rw [hf f jg];exact List.ne_nil_of_mem hy⟩
 rintro⟨f,jg,h⟩;rw [hf f jg]at h;obtain⟨y,hy⟩:=List.exists_mem_of_ne_nil _ h;exact List.ne_nil_of_mem (List.mem_flatMap.2 ⟨f,jg,dA.2 ⟨y,hy,O⟩⟩)
theorem KB{α β:Type}{p:α->Bool}{g:α->List β}:∀ {l:List α},(∀x∈l,p x=false->g x=[])->(l.filter p).flatMap g=l.flatMap g
 | [],_=>rfl
 | a::r,h=>by
  have ih:=KB (p:=p) (g:=g) (l:=r) fun x hx=>h x (qC _ hx)
  cases hp:p a with
  | true=>rw [zL hp,List.flatMap_cons,List.flatMap_cons,ih]
  | false=>rw [wO (by simp [hp]),List.flatMap_cons,ih,h a (by simp) hp];rfl
theorem Ws{n:Nat}{e:Int}(h0:0<=gi R e)(hk:(gi R e).toNat+ (k+1)=n - 1):nq R B (k+1) e=((ke R B e).filter fun f=>decide (dS n R B f)).flatMap fun f=> (nq R B k f).map (f:: ·):=by
 rw [nq,KB];intro f hf h;have h2:=(mF.1 hf).2.1;have h3:¬dS n R B f:=by simpa using h
 unfold dS at h3;rw [show n - 1 - (gi R f).toNat=k by omega]at h3;rw [jb.1 h3];rfl
theorem PN{n:Nat}:aG n R B=((uU R).filter fun f=>decide (dS n R B f)).flatMap fun e=> (nq R B (n - 1) e).map (e:: ·):=by
 rw [aG,KB];intro f hf h;have h2:=(tV.1 hf).2;have h3:¬dS n R B f:=by simpa using h
 unfold dS at h3;rw [h2]at h3;rw [show n - 1 - (0:Int).toNat=n - 1 by rfl]at h3;rw [jb.1 h3];rfl
def cap(l:ah):ah:=l.take 401
theorem Ka(l:ah):(cap l).length<=401:=by unfold cap;rw [List.length_take];omega
theorem GL(m:ah)(h:400< (cap l).length):cap (l++m)=cap l:=by
 unfold cap at h|-;rw [na]at h;rw [vK (by omega)]
theorem J9(h:(cap l).length<=400):cap l=l:=by
 unfold cap at h|-;rw [na]at h;exact gR (by omega)
theorem GK:(cap l).length<=400↔l.length<=400:=by
 unfold cap;rw [na];omega
theorem YD(x:ai)(h:(cap l).length<=400):cap (l++ [x])=cap l++ [x]:=by
 rw [J9 h];rw [GK]at h;unfold cap;exact gR (by rw [b8,List.length_singleton];omega)
def DV(R:ai)(B:ah):Int->ai->Prop
 | _,[]=>True
 | e,f::r=>f∈ke R B e/\DV R B f r
theorem G3{R:ai}{B:ah}:∀ {k:Nat} {e:Int} {x:ai},x∈nq R B k e↔x.length=k/\DV R B e x
 | 0,e,x=>by
  rw [nq,gG];constructor
  ·rintro rfl;exact⟨rfl,au⟩
  ·exact fun h=>qA h.1
 | k+1,e,x=>by
  rw [nq,List.mem_flatMap];constructor
  ·rintro⟨f,hf,h⟩;obtain⟨y,hy,rfl⟩:=dA.1 h;obtain⟨h1,h2⟩:=G3.1 hy;exact⟨by rw [List.length_cons,h1],hf,h2⟩
  ·rintro⟨h1,h2⟩
   match x,h1,h2 with
   | f::r,h1,⟨h2,h3⟩=>exact⟨f,h2,dA.2 ⟨r,G3.2 ⟨by simpa using h1,h3⟩,rfl⟩⟩
theorem Ju{R:ai}{B:ah}:∀ {x:ai} {e:Int},DV R B e x↔∀i:Nat,i<x.length->gi (e::x) ((i+1:Nat):Int)∈ke R B (gi (e::x) i)
 | [],e=>by simp [DV]
 | f::r,e=>by
  rw [DV,Ju (x:=r) (e:=f)];constructor
  ·rintro⟨h1,h2⟩ i hi
   match i with
   | 0=>exact h1
   | i+1=>
    rw [CK,CK];exact h2 i (by simpa using hi)
  ·intro h;refine⟨h 0 (by simp),fun i hi=>?_⟩;have:=h (i+1) (by simpa using hi)
   rwa [CK,CK]at this
theorem pS{n:Nat}(hn:1<=n){x:ai}:x∈aG n R B↔x.length=n/\(∀i:Nat,i<n->(0<=gi x i/\gi x i<R.length)/\gi R (gi x i)=i)/\∀i:Nat,i+1<n->gi x i∈gl B (gi x ((i+1:Nat):Int)):=by
 unfold aG;rw [List.mem_flatMap];constructor
 ·rintro⟨e,he,h⟩;obtain⟨y,hy,rfl⟩:=dA.1 h;obtain⟨h1,h2⟩:=G3.1 hy;obtain⟨h3,h4⟩:=tV.1 he;rw [Ju]at h2;have key:∀i:Nat,i<n->(0<=gi (e::y) i/\gi (e::y) i<R.length)/\gi R (gi (e::y) i)=i:=by
   intro i
   induction i with
   | zero=>intro _;exact⟨h3,h4⟩
   | succ i ih=>
    intro hi;have h5:=mF.1 (h2 i (by omega));have h6:=ih (by omega);exact⟨h5.1,by rw [h5.2.1,h6.2];omega⟩
  exact⟨by rw [List.length_cons,h1];omega,key,fun i hi=> (mF.1 (h2 i (by omega))).2.2⟩
 ·rintro⟨h1,h2,h3⟩
  match x,h1,h2,h3 with
  | [],h1,_,_=>simp at h1;omega
  | e::y,h1,h2,h3=>
   rw [List.length_cons]at h1;refine⟨e,tV.2 (h2 0 (by omega)),dA.2 ⟨y,G3.2 ⟨by omega,Ju.2 fun i hi=>?_⟩,O⟩⟩;have h4:=h2 (i+1) (by omega);have h5:=h2 i (by omega);exact mF.2 ⟨h4.1,by rw [h4.2,h5.2];omega,h3 i (by omega)⟩
theorem JK{g:Int->ah}(hg:∀f,SL (g f)):∀ {l:ai},SA l->SL (l.flatMap fun f=> (g f).map (f:: ·))
 | [],_=>List.Pairwise.nil
 | a::l,h=>by
  obtain⟨h1,h2⟩:=List.pairwise_cons.1 h;rw [List.flatMap_cons,SL,List.pairwise_append];refine⟨pd.2 ((hg a).imp fun h=>OS.2 (.inr ⟨O,h⟩)),JK hg h2,fun x hx y hy=>?_⟩;obtain⟨u,_,rfl⟩:=dA.1 hx;obtain⟨b,hb,hy⟩:=List.mem_flatMap.1 hy;obtain⟨v,_,rfl⟩:=dA.1 hy;exact OS.2 (.inl (h1 b hb))
theorem QB(R:ai)(B:ah):∀(k:Nat) (e:Int),SL (nq R B k e)
 | 0,_=>by simp [nq,SL]
 | k+1,e=>JK (QB R B k) (DP R B e)
theorem G9(n:Nat)(R:ai)(B:ah):SL (aG n R B):=JK (QB R B (n - 1)) (pc _ (mf _))
structure gr(n:Int)(R:ai)(B:ah):Prop where
 n1:1<=n/\n<=5
 pe:R.length<=500
 len:B.length=R.length
 gO:∀x∈R,0<=x/\x<=n - 1
 Co:sS R
 row:∀e:Nat,e<R.length->SA (gl B e)/\∀d∈gl B e,(0<=d/\d<R.length)/\gi R d<gi R e
 tr:∀e:Nat,e<R.length->∀d∈gl B e,∀c∈gl B d,c∈gl B e
theorem sS.le(h:sS R)(ig:i<=j)(hj:j<R.length):gi R i<=gi R j:=by
 rcases Nat.lt_or_eq_of_le ig with h1 | rfl
 ·rw [b9 (by omega),b9 hj];exact List.pairwise_iff_getElem.1 h i j (by omega) hj h1
 exact Int.le_refl _
theorem gr.at_{n:Int}(h:gr n R B){e:Int}(h0:0<=e)(h1:e<R.length):SA (gl B e)/\(∀d∈gl B e,(0<=d/\d<e)/\gi R d<gi R e)/\∀d∈gl B e,∀c∈gl B d,c∈gl B e:=by
 obtain⟨k,rfl⟩:∃k:Nat,e=k:=⟨e.toNat,by omega⟩;have hr:=h.row k (by omega);refine⟨hr.1,fun d hd=>?_,h.tr k (by omega)⟩;have h2:=hr.2 d hd;obtain⟨j,rfl⟩:∃j:Nat,d=j:=⟨d.toNat,by omega⟩;refine⟨⟨by omega,?_⟩,h2.2⟩;refine Int.not_le.1 fun hle=>?_
 have:=h.Co.le (i:=k) (j:=j) (by omega) (by omega);omega
theorem gr.ri{n:Int}(h:gr n R B){e:Int}(h0:0<=e)(h1:e<R.length):0<=gi R e/\gi R e<=n - 1:=by
 obtain⟨k,rfl⟩:∃k:Nat,e=k:=⟨e.toNat,by omega⟩;exact h.gO _ (gi_in (by omega))
def aS(M:ah):Nat->Nat
 | 0=>0
 | i+1=>aS M i+ (iS M i).toNat
def bK(M:ah):Nat->ai
 | 0=> []
 | i+1=>bK M i++List.replicate (iS M i).toNat (i:Int)
theorem oH(M:ah):∀i,(bK M i).length=aS M i
 | 0=>rfl
 | i+1=>by rw [bK,b8,oH M i,List.length_replicate];rfl
def cS(M:ah)(i:Nat)(f:Nat):Int:=(aS M i:Int)+gi (eG M i) f
theorem ow(M:ah)(h:i<=j):aS M i<=aS M j:=by
 induction h with
 | refl=>exact bs _
 | step _ ih=>exact nU ih (by show _<=aS M _+_;omega)
theorem xb(hM:cN M){f:Nat}(hf:f< (gl M 0).length):(aS M i:Int)<=cS M i f/\cS M i f< (aS M (i+1):Int):=by
 have h1:=Kx hM i f hf;unfold cS;show _/\_< ((aS M i+ (iS M i).toNat:Nat):Int);omega
theorem Hd{n:Nat}:∀ {i:Nat},i<n->∀ {e:Int},(aS M i:Int)<=e->e< (aS M (i+1):Int)->gi (bK M n) e=i:=by
 induction n with
 | zero=>intro i hi;omega
 | succ n ih=>
  intro i hi e h0 h1;obtain⟨k,rfl⟩:∃k:Nat,e=k:=⟨e.toNat,by omega⟩;have hl:=oH M n
  by_cases h:i=n
  ·subst h;rw [bK,gi,da,kD (by rw [hl];omega),List.getElem?_replicate,aB]
   ·rfl
   ·have:aS M (i+1)=aS M i+ (iS M i).toNat:=O;rw [hl];omega
  ·have h3:=ow M (show i+1<=n by omega);have h2:=ih (show i<n by omega) h0 h1;rw [bK,gi,da,lz (by rw [hl];omega),<-da];exact h2
theorem Q6{n:Nat}{e:Int}(h0:0<=e)(h1:e< (aS M n:Int)):∃i,i<n/\(aS M i:Int)<=e/\e< (aS M (i+1):Int):=by
 induction n with
 | zero=>have:aS M 0=0:=rfl;omega
 | succ n ih=>
  by_cases h:e< (aS M n:Int)
  ·obtain⟨i,hi,h2⟩:=ih h;exact⟨i,by omega,h2⟩
  ·exact⟨n,by omega,by omega,h1⟩
theorem Q5(M:ah):∀n,sS (bK M n)/\∀x∈bK M n,0<=x/\x< (n:Int)
 | 0=> ⟨List.Pairwise.nil,fun x hx=>by cases hx⟩
 | n+1=>by
  obtain⟨h1,h2⟩:=Q5 M n;refine⟨?_,fun x hx=>?_⟩
  ·rw [bK,sS,List.pairwise_append];refine⟨h1,List.pairwise_replicate.2 (.inr (Int.le_refl _)),fun x hx y hy=>?_⟩;have:=h2 x hx;have:=(List.mem_replicate.1 hy).2;omega
  ·rw [bK]at hx;rcases kj.1 hx with h | h
   ·have:=h2 x h;omega
   ·have:=(List.mem_replicate.1 h).2;omega
def sU(M:ah)(d e:Int):Prop:=∃f:Nat,f< (gl M 0).length/\∃i:Nat,i<M.length/\∃k:Nat,k<i/\e=cS M i f/\d=cS M k f
open Classical in
noncomputable def bR(M:ah):ah:=(bS (aS M M.length)).map fun e=> (bS (aS M M.length)).filter fun d=>decide (sU M d e)
theorem uY(M:ah):(bR M).length=aS M M.length:=by simp [bR,bS]
theorem qI{e:Int}(h0:0<=e)(h1:e< (aS M M.length:Int))(d:Int):d∈gl (bR M) e↔(0<=d/\d< (aS M M.length:Int))/\sU M d e:=by
 obtain⟨k,rfl⟩:∃k:Nat,e=k:=⟨e.toNat,by omega⟩;rw [b7 (by rw [uY];omega)];unfold bR;rw [List.getElem_map,gg,jU];have:(bS (aS M M.length))[k]'(by rw [N6];omega)=(k:Int):=by simp [bS]
 rw [this];exact and_congr Iff.rfl (by simp)
theorem sU.gO(hM:cN M){e:Int}(h:sU M d e):(0<=d/\d< (aS M M.length:Int))/\(0<=e/\e< (aS M M.length:Int))/\gi (bK M M.length) d<gi (bK M M.length) e:=by
 obtain⟨f,hf,i,hi,k,hk,rfl,rfl⟩:=h;have h1:=xb hM (i:=i) hf;have h2:=xb hM (i:=k) hf;have h3:=ow M (show i+1<=M.length by omega);have h4:=ow M (show k+1<=M.length by omega);refine⟨by omega,by omega,?_⟩;rw [Hd hi h1.1 h1.2,Hd (show k<M.length by omega) h2.1 h2.2];omega
theorem Wb(h:p∈M.take j):∃k:Nat,k<j/\k<M.length/\p=gl M k:=by
 obtain⟨k,hk,rfl⟩:=gF.1 h;rw [na]at hk;exact⟨k,by omega,by omega,by rw [List.getElem_take,b7 (by omega)]⟩
theorem Uo(hM:cN M)(j:Nat):Sys (gl M 0).length (M.take j):=fun p hp=>hM.2.2.1.sys p (List.mem_of_mem_take hp)
theorem af4(hM:cN M)(h0:0<=y)(h1:y< (gl M 0).length)(h:Reach (M.take j) y u):∀i:Nat,j<=i->gi (eG M i) u=gi (eG M i) y:=by
 induction h with
 | refl=>exact fun _ _=>rfl
 | step h hp ih=>
  intro i hi;have hr:=h.range (Uo hM j) h0 h1;obtain⟨k,C9,hk,rfl⟩:=Wb hp;rw [QH hM hk (by omega) hr.1 hr.2,ih i hi]
theorem af3(hM:cN M)(uj:j<k)(hk:k<M.length)(h0:0<=y)(h1:y< (gl M 0).length)(h:Reach (M.take j) y u):Reach (M.take j) (gi (gl M k) y) (gi (gl M k) u):=by
 induction h with
 | refl=>exact .refl
 | step h hp ih=>
  have hr:=h.range (Uo hM j) h0 h1;obtain⟨i,ig,hi,rfl⟩:=Wb hp;rw [hM.comm hi hk (by omega) hr.1 hr.2];exact .step ih hp
theorem ajl(hM:cN M){f:Int}(h0:0<=f)(h1:f< (gl M 0).length){g:Int}(h:Reach (M.eraseIdx j) f g):
 ∃u:Int,(0<=u/\u< (gl M 0).length)/\(∀i:Nat,i<=j->gi (eG M i) u=gi (eG M i) f)/\∀i:Nat,j<=i->gi (eG M i) u=gi (eG M i) g:=by
 have key:∃u:Int,(0<=u/\u< (gl M 0).length)/\(∀i:Nat,i<=j->gi (eG M i) u=gi (eG M i) f)/\Reach (M.take j) g u:=by
  induction h with
  | refl=>exact⟨f,⟨h0,h1⟩,fun _ _=>rfl,.refl⟩
  | step h hp ih=>
   rename_i y p;obtain⟨u,hu,eZ,hr⟩:=ih;have tz:=h.range (hM.2.2.1.sys.erase j) h0 h1;obtain⟨k,hk,C9,rfl⟩:=ZI hp;rcases Nat.lt_or_gt_of_ne C9 with fW | HY
   ·refine⟨u,hu,eZ,?_⟩;have hm:gl M k∈M.take j:=by
     rw [gF];exact⟨k,by rw [na];omega,by rw [List.getElem_take,b7 hk]⟩
    have h2:Reach (M.take j) (gi (gl M k) y) (gi (gl M k) (gi (gl M k) y)):= .step .refl hm;rw [hM.two hk tz.1 tz.2]at h2;exact h2.trans hr
   ·refine⟨gi (gl M k) u,hM.Bk hk hu.1 hu.2,fun i hi=>?_,af3 hM HY hk tz.1 tz.2 hr⟩;rw [QH hM hk (by omega) hu.1 hu.2,eZ i hi]
 obtain⟨u,hu,eZ,hr⟩:=key;have hg:=h.range (hM.2.2.1.sys.erase j) h0 h1;exact⟨u,hu,eZ,af4 hM hg.1 hg.2 hr⟩
theorem sU.trans(hM:cN M){c e:Int}(h:sU M c d)(h':sU M d e):sU M c e:=by
 obtain⟨f,hf,j,hj,k,hk,rfl,rfl⟩:=h;obtain⟨g,hg,i,hi,l,hl,rfl,e2⟩:=h';have h1:=xb hM (i:=j) hf;have h2:=xb hM (i:=l) hg;have lK:j=l:=by
  rcases Nat.lt_trichotomy j l with h | h | h
  ·have:=ow M (show j+1<=l by omega);omega
  ·exact h
  have:=ow M (show l+1<=j by omega);omega
 subst lK;have e3:gi (eG M j) f=gi (eG M j) g:=by unfold cS at e2;omega
 obtain⟨u,hu,eZ,dt⟩:=ajl hM (j:=j) (f:=(f:Int)) (by omega) (by omega) (QI hM (by omega) (by omega) (by omega) (by omega) e3);refine⟨u.toNat,by omega,i,hi,k,by omega,?_,?_⟩
 ·unfold cS;rw [Int.toNat_of_nonneg hu.1,dt i (by omega)]
 unfold cS;rw [Int.toNat_of_nonneg hu.1,eZ k (by omega)]
theorem aad(hM:cN M)(hb:aS M M.length<=500):gr M.length (bK M M.length) (bR M):=by
 have h1:=hM.1;have hl:=oH M M.length;obtain⟨ha,hr⟩:=Q5 M M.length;refine⟨by omega,by omega,by rw [uY,hl],fun x hx=>?_,ha,fun e he=> ⟨?_,fun d hd=>?_⟩,fun e he d hd c hc=>?_⟩
 ·have:=hr x hx;omega
 ·rw [b7 (by rw [uY];omega)];unfold bR;rw [List.getElem_map];exact pc _ (mf _)
 ·rw [qI (by omega) (by omega)]at hd;have:=hd.2.gO hM;exact⟨by omega,this.2.2⟩
 rw [qI (by omega) (by omega)]at hd|-;rw [qI (by omega) (by omega)]at hc;exact⟨hc.1,hc.2.trans hM hd.2⟩
end
section
open Go.RowKit
section
variable {P:Program} {N:Nat} {ops:Array Oper} {K:Env->aa->Prop} {rest:List Oper} {e:Env} {w0 w w':aa} {ks:List Ck} {d:Nat} {ty:ae} {pos:String} {af:Array Edge}
def VD(a n u:Nat)(R:ad->aa->Prop):jD
 | .normal,e,w=>∃A f,e a= .pointer A/\Rd w A n f/\R (.tuple #[.agg ((List.range n).map f).toArray,e u]) w
 | .ret,e,w=>∃A f,e a= .pointer A/\Rd w A n f/\R (.tuple #[.agg ((List.range n).map f).toArray,e u]) w
 | _,_,_=>False
theorem kb{a n u:Nat}{R:ad->aa->Prop}{A:aj}{f:Nat->ad}{v:ad}(h:e a= .pointer A)(hR:Rd w A n f)(hv:e u=v)(h2:R (.tuple #[.agg ((List.range n).map f).toArray,v]) w):VD a n u R .ret e w:=⟨A,f,h,hR,by rw [hv];exact h2⟩
theorem tD{fn:Func}{R:ad->aa->Prop}{a t n b u:Nat}{fs:Array Field}{z:ad}[bt P t (.struct fs)][bq P t z n b](hr:fn.results= #[.cell a t,.tmp u])(AP:Nat.blt 0 n=true):∀x a1 e w,jL N a1 e->VD a n u R x e w->bodyPost P fn (fun x w'=>∃v,x= .returned v/\R v w') x a1 w:=by
 intro x a1 e w he q;have hn:0<n:=by simpa [Nat.blt_eq]using AP
 have hg:=he.get a;have hh:=he.get u;have key:∀(A:aj) (f:Nat->ad),e a= .pointer A->Rd w A n f->(results fn a1.tmps).run P w= .ok (.tuple #[.agg ((List.range n).map f).toArray,e u]) w:=by
  intro A f hA hR;obtain⟨q,rfl,hl⟩:=VM (P:=P) (t:=t) hn hR;rw [iZ]at hg hh;simp [results,hr,hg,hh,hA,asAddr,hl]
 cases x<;>first
  | exact q.elim
  | (
   obtain⟨A,f,hA,hR,h2⟩:=q;exact⟨he.defers,_,key A f hA hR,_,O,h2⟩)
end
section
variable {P:Program} {N:Nat} {ops:Array Oper} {K:Env->aa->Prop} {rest:List Oper} {e:Env} {w0 w w':aa} {ks:List Ck} {d:Nat} {ty:ae} {pos:String} {af:Array Edge}
variable {x y:ag} {xt yt:ae} {i j:Int}
def Di:Nat->ai->List (Nat×ad)
 | _,[]=> []
 | k,v::r=> (k,.int .i64 v)::Di (k+1) r
theorem QN:∀(vs:ai) (k:Nat) (cells:Array ad),k+vs.length<=cells.size->∃out,Instr.fill (fun i=>some (i*1,1)) cells (Di k vs)=some out/\out.size=cells.size/\(∀j,j<k->out[j]?=cells[j]?)/\(∀j,j<vs.length->out[k+j]?=vs[j]?.map (Value.int .i64))/\(∀j,k+vs.length<=j->out[j]?=cells[j]?)
 | [],k,cells,_=> ⟨cells,rfl,rfl,fun _ _=>rfl,fun j hj=>absurd hj (sX _),fun _ _=>rfl⟩
 | v::r,k,cells,h=>by
  have hk:k<cells.size:=by simp at h;omega
  obtain⟨out,h1,h2,h3,h4,h5⟩:=QN r (k+1) (cells.setIfInBounds k (ak v)) (by simp at h|-;omega);refine⟨out,?_,by rw [h2];simp,fun j hj=>?_,fun j hj=>?_,fun j hj=>?_⟩
  ·show Instr.fill _ cells ((k,ak v)::Di (k+1) r)=some out;rw [<-h1];simp [Instr.fill,Value.cells,show ¬cells.size<k+1 by omega]
  ·rw [h3 j (by omega),tM,az (by omega)]
  ·cases j with
   | zero=>rw [Nat.add_zero,h3 k (by omega),tM,aB rfl,aB hk];rfl
   | succ q=>
    have:=h4 q (by simpa using hj);rw [show k+ (q+1)=k+1+q by omega,this]
    rfl
  ·rw [h5 j (by simp at hj|-;omega),tM,az (by simp at hj;omega)]
theorem ZS(vs:ai)(cells:Array ad)(h:cells.size=vs.length):Instr.fill (fun i=>some (i*1,1)) cells (Di 0 vs)=some (vs.map (Value.int .i64)).toArray:=by
 obtain⟨out,h1,h2,_,h4,_⟩:=QN vs 0 cells (by omega);rw [h1]
 congr 1
 apply Array.ext';apply List.ext_getElem?;intro j
 by_cases hj:j<vs.length
 ·have:=h4 j hj;rw [Nat.zero_add]at this;simpa using this
 rw [mh (by simpa [h2,h]using hj),mh (by simpa using hj)]
theorem fS{t el:ae}{z:ad}{b n:Nat}[bt P t (.slice el)][bq P el z 1 b]{ps:Array (Nat×ag)}(vs:ai)(hS:St w0 w ks)(hv:(ps.toList.map fun p=> (p.1,ev e p.2))=Di 0 vs)(hn:vs.length=n)(oo:n≠0)(sB:n<=1000)(hz:z.cells= #[z])(hb:Nat.blt d N=true)(hK:∀A w',St w0 w' (ax el A n n vs::ks)->ao P N ops K rest (br e d (.slice A n n)) w'):ao P N ops K (⟨some d,.buildSlice t n ps,ty,pos,af,none⟩::rest) e w:=by
 subst hn;obtain⟨inf,hi,dU,hs,gI⟩:=bq.get P el;have hA:=hS.alloc (vs.map (Value.int .i64)) el (by simp [maxLen];omega) (uA _);refine .val (w':=w.alloc (.cells (vs.map (Value.int .i64)).toArray el)) ?_ hb (hK _ _ (by simpa [ax]using hA));have hf:=ZS vs ((Array.range (vs.length*1)).map ((#[z]:Array ad)[· % (#[z]:Array ad).size]!)) (by simp);have oY:(ps.map fun p=> (p.1,ev e p.2)).toList=Di 0 vs:=by rw [Array.toList_map];exact hv
 have z6:¬16777216<vs.length:=by omega
 simp only [Nat.mul_one]at hf;simp [execOp,Instr.buildSlice,run_underlying (bt.out (P:=P) (t:=t)),sizeOf,typeInfo,zeroValue,hi,hs,dU,hz,newRow,hv,z6,oo];simp at hf;simp [hf]
end
section
variable {P:Program} {N:Nat} {ops:Array Oper} {K:Env->aa->Prop} {rest:List Oper} {e:Env} {w:aa} {d:Nat} {ty:ae} {pos:String} {af:Array Edge} {x y:ag} {xt yt:ae} {i:Int}
theorem D5{k:IntKind}(hx:ev e x= .int .u64 i)(hy:ev e y= .int k 1)(hb:Nat.blt d N=true)(h0:0<=i)(hK:ao P N ops K rest (br e d (.int .u64 (i / 2))) w):
 ao P N ops K (⟨some d,.binOp .shr xt x y yt,ty,pos,af,none⟩::rest) e w:=by
 refine .val (v:= .int .u64 (i / 2)) ?_ hb hK;have e1:min 1 IntKind.u64.bits=1:=by decide
 have e2:i.fdiv 2=i / 2:=Int.fdiv_eq_ediv_of_nonneg _ (by decide);simp [execOp,hx,hy,eqGuard,binOp,Op.shift,e1,e2]
end
section
variable {w:aa} {e:Env}
theorem NZ{R:ad->aa->Prop}{t u:Nat}{b:Bool}{k:IntKind}{i:Int}(h:e t= .int k i)(h2:e u= .bool b)(hR:R (.tuple #[.int k i,.bool b]) w):DD t u R .ret e w:=by show R (.tuple #[e t,e u]) w;rw [h,h2];exact hR
end
theorem YQ(x:Int)(w:aa):aK prog 266 [ak x] w (fun v w'=>v= .bool (decide (¬x=x))/\w'=w):=by
 refine bA func266 O ntmps266 O (df O) (Gg O (dz O ?_));exact⟨O,O⟩
theorem Qc(x y:Int)(w:aa):aK prog 217 [ak x,ak y] w (fun v w'=>v= .bool (decide (x<y))/\w'=w):=by
 refine bA func217 O ntmps217 O (df O) (bg O (aQ (YQ x w) O ?_));rintro _ _ ⟨rfl,rfl⟩;refine ar O (ew 7 O (fun h=>absurd O h) (fun _=>?_));refine aJ O (aJ O (aJ O (ar O (av O (ar O (av O (ar O (av O (bI O ?_)))))))));exact dz O ⟨O,O⟩
theorem ai9(x:Int)(w:aa):aK prog 218 [ak x] w (fun v w'=>v= .bool (decide (¬x=x))/\w'=w):=by
 refine bA func218 O ntmps218 O (df O) (Gg O (dz O ?_));exact⟨O,O⟩
theorem PH(A:aj)(n c:Nat)(xs:ai)(x:Int)(w:aa)(hR:cg w A n xs)(hs:SA xs)(hn:n<=1000000000):
 aK prog 163 [.slice A n c,ak x] w (fun v w'=> (∃k:Int,v= .tuple #[ak k,.bool (decide (x∈xs))])/\w'=w):=by
 have jH:=hR.1;refine bA func163 O ntmps163 O (x5 O) ?_;refine bg O (bc O O (aC O ?_));refine Cd.loop (α:=Nat×Nat) (fun z=> [(0,.slice A n c),(1,ak x),(6,ak n),(7,ak (z.1:Int)),(8,ak (z.2:Int))]) (fun z w'=>w'=w/\z.1<=z.2/\z.2<=n/\(∀p:Nat,p<z.1->gi xs p<x)/\∀p:Nat,z.2<=p->p<n->x<=gi xs p) (fun z=>z.2 - z.1) (0,n) (amz O) ⟨O,aZ _,bs _,fun p hp=>absurd hp (sX _),fun p hp jr=>by have hp:n<=p:=hp;omega⟩ ?_;rintro⟨i,j⟩ e w ⟨rfl,ig,nC,eZ,dt⟩;dsimp only at ig nC eZ dt|-;refine bJ O (aM _ O (fun h1=>?_) (fun h1=>?_))
 ·refine aA O (aH O ?_);refine sY O O (zD _ (by omega)) (D5 O O O (by omega) (sY O O (IntWalk.i64_in _ (by omega)) ?_));obtain⟨h,hh⟩:∃h:Nat,h=(i+j) / 2:=⟨_,rfl⟩;rw [show((i:Int)+ (j:Int)) / 2=(h:Int) by omega];refine ar O (aD hR.2 O (a8 hR O (ar O (aQ (Qc _ _ _) O ?_))));rintro _ _ ⟨rfl,rfl⟩;refine aC O (aM _ O (fun h2=>?_) (fun h2=>?_))
  ·refine aA O (aH O (aT O (tQ ?_)));refine⟨(h+1,j),by show j - (h+1)<j - i;omega,(amz O),O,by show h+1<=j;omega,nC,fun p hp=>?_,dt⟩;have hp:p<h+1:=hp
   by_cases e:p=h
   ·subst e;exact h2
   have:=hs.zm (show p<h by omega) (by omega);omega
  refine nS O (tQ ?_);refine⟨(i,h),by show h - i<j - i;omega,(amz O),O,by show i<=h;omega,by show h<=n;omega,eZ,fun p hp jr=>?_⟩;have hp:h<=p:=hp
  by_cases e:p=h
  ·subst e;omega
  have:=hs.zm (show h<p by omega) (by omega);omega
 obtain rfl:i=j:=by omega
 have gD:∀p:Nat,p<n->gi xs p=x->p=i:=fun p hp hx=>by
  rcases Nat.lt_trichotomy p i with h | h | h
  ·have:=eZ p h;omega
  ·exact h
  have h3:=hs.zm h (by omega);have h4:=dt i (bs _) (by omega);omega
 have kL:x∈xs↔i<n/\gi xs i=x:=by
  constructor
  ·intro hm;obtain⟨p,hp,e⟩:=gF.1 hm;have e2:gi xs p=x:=by rw [b9 hp];exact e
   have:=gD p (by omega) e2;subst this;exact⟨by omega,e2⟩
  rintro⟨h2,h3⟩;rw [<-h3];exact gi_in (by omega)
 refine bn O (bo (cL O ?_));refine ew 35 O (fun h2=>?_) (fun h2=>?_)
 ·refine av O (ar O (av O (ar O (av O ?_))));refine aD hR.2 O (av O (a8 hR O ?_));refine av O (ar O (av O (ar O (av O (ar O ?_)))));refine ew 42 O (fun h3=>?_) (fun h3=>?_)
  ·refine aJ O (aJ O (aJ O (aJ O (aJ O (aJ O (fA O O O O (fA O O O O (aJ O (av O (bI O ?_))))))))));refine NZ O O ?_;exact⟨⟨_,by rw [dM (kL.2 ⟨by omega,h3⟩)]⟩,O⟩
  refine av O (ar O (av O (ar O (av O ?_))));refine aD hR.2 O (av O (a8 hR O (av O (aQ (ai9 _ _) O ?_))));rintro _ _ ⟨rfl,rfl⟩;refine av O (ar O ?_);refine ew 48 O (fun h=>absurd O h) (fun _=>?_);refine aJ O (aJ O (av O (ar O (av O (bI O ?_)))));refine NZ O O ?_;exact⟨⟨_,by rw [cj (fun h=>h3 (kL.1 h).2)]⟩,O⟩
 refine aJ O (aJ O (aJ O (aJ O (aJ O (aJ O (aJ O (fA O O O O (fA O O O O (fA O O O O (fA O O O O (fA O O O O ?_)))))))))));refine fA O O O O (fA O O O O (fA O O O O (fA O O O O (aJ O (bI O ?_)))));refine NZ O O ?_;exact⟨⟨_,by rw [cj (fun h=>by have:=(kL.1 h).1;omega)]⟩,O⟩
theorem TR(P A D:aj)(cA r cD:Nat)(n:Int)(N:Nat)(rs:List aO)(B:ah)(e f:Int)(w:aa)(hP:Rd w P 3 (fun j=> [Value.int .i64 n,.slice A r cA,.slice D N cD].getD j undef))(hB:bF w D N rs B)(sd:B.length=N)(hf:0<=f/\f<N)(hs:SA (gl B f))(hl:(gl B f).length<=1000000):
 aK prog 165 [.pointer P,ak e,ak f] w (fun v w'=>v= .bool (decide (e∈gl B f))/\w'=w):=by
 have bP:=hB.at_ (i:=f) hf.1 hf.2;have oV:=bP.1;refine bA func165 O ntmps165 O (df O) (bg O ?_);refine wR hP (by decide) O O (aU hP O (bh hP O (ar O (aD hB.top.2 O (bW hB.top O (ar O (aQ (PH _ _ _ (gl B f) e w bP hs (by omega)) O ?_)))))));rintro _ _ ⟨⟨k,rfl⟩,rfl⟩;refine bI O (dz O ?_);exact⟨O,O⟩
theorem vu(P A D:aj)(cA cD:Nat)(n:Int)(R:ai)(rs:List aO)(B:ah)(e f:Int)(w:aa)(hP:Rd w P 3 (fun j=> [Value.int .i64 n,.slice A R.length cA,.slice D B.length cD].getD j undef))(hB:bF w D B.length rs B)(hf:0<=f/\f<B.length)(hs:SA (gl B f))(hl:(gl B f).length<=1000000):
 aK prog 165 [.pointer P,ak e,ak f] w (fun v w'=>v= .bool (decide (e∈gl B f))/\w'=w):=
 TR P A D cA R.length cD n B.length rs B e f w hP hB rfl hf hs hl
theorem Ns{t1 t2:ae}{A:aj}{n c:Nat}{rs:List aO}{xss:ah}{ks:List Ck}{q:Ck}{i:Nat}(s:aO)(xs:ai)(hr:rs.length=xss.length)(hi:i<rs.length):(q::(aL t1 t2 A n c rs xss++ks)).set (2+i) (ax t2 s.a s.n s.c xs)=q::(bZ t1 A n c rs::(cK t2 (rs.set i s) (xss.set i xs)++ks)):=by
 rw [show 2+i=i+1+1 by omega,List.set_cons_succ];show _::(bZ t1 A n c rs::(cK t2 rs xss++ks)).set (i+1) _=_;rw [List.set_cons_succ,List.set_append_left _ _ (by rw [zx hr];exact hi),N8 hr]
def jN(M:ah)(i f:Nat):ah:=(List.range (gl M 0).length).map fun g=> (List.range (if g<f then i+1 else i)).map fun k=>cS M k g
def pg(M:ah):ah:=(List.range (gl M 0).length).map fun g=> (List.range M.length).map fun k=>cS M k g
theorem Hc(M:ah)(i f:Nat):(jN M i f).length=(gl M 0).length:=by simp [jN]
theorem aaa(M:ah)(f:Nat)(h:f=0):jN M 0 f=List.replicate (gl M 0).length []:=by
 subst h;apply ki (by simp [jN]);intro i h1 h2;simp [jN]
theorem Z7(M:ah)(i:Nat):jN M i (gl M 0).length=jN M (i+1) 0:=by
 unfold jN;refine rN fun g hg=>?_
 rw [aB (il.1 hg),az (sX _)]
theorem Z6(M:ah):jN M M.length 0=pg M:=by
 unfold jN pg;exact rN fun g _=>by rw [az (sX _)]
theorem Hb{M:ah}{i f g:Nat}(hg:g< (gl M 0).length):gl (jN M i f) g=(List.range (if g<f then i+1 else i)).map fun k=>cS M k g:=by
 rw [b7 (by rw [Hc];exact hg)];simp [jN]
theorem Z9{M:ah}{i f:Nat}(hf:f< (gl M 0).length):(jN M i f).set f (gl (jN M i f) f++ [cS M i f])=jN M i (f+1):=by
 apply ki (by simp [jN]);intro g h1 h2;have hg:g< (gl M 0).length:=by rw [Hc]at h2;exact h2
 rw [List.getElem_set];have e:(jN M i (f+1))[g]=gl (jN M i (f+1)) g:=by rw [b7 h2]
 rw [e,Hb hg]
 by_cases h:f=g
 ·subst h;rw [aB rfl,aB (by omega),Hb hg,az (by omega),jB,iD];rfl
 rw [az h];have e2:(jN M i f)[g]'(by rw [Hc];exact hg)=gl (jN M i f) g:=by rw [b7]
 rw [e2,Hb hg]
 by_cases h3:g<f
 ·rw [aB h3,aB (by omega)]
 rw [az h3,az (by omega)]
theorem IZ{M:ah}:∀i,aS M i<=i* (gl M 0).length
 | 0=>aZ _
 | i+1=>by
  have h1:=IZ (M:=M) i;have h2:=CD M i;show aS M i+ (iS M i).toNat<=_;rw [Nat.succ_mul];omega
theorem X0(Ab A:aj)(n c:Nat)(rs:List aO)(M:ah)(w:aa)(hB:Rd w Ab 1 (fun _=> .slice A n c))(hR:bF w A n rs M)(hM:cN M):
 aK prog 158 [.pointer Ab] w (fun v w'=>∃A' rs',v= .slice A' (gl M 0).length (gl M 0).length/\rs'.length=(gl M 0).length/\St w w' (aL 34 2 A' (gl M 0).length (gl M 0).length rs' (pg M)++ [])):=by
 have hl:=hR.len;have h1:=hM.1;have h2:=hM.2.1;have e0:(rg rs 0).n=(gl M 0).length:=(hR.qu (by omega) (by omega)).symm;have yZ:∀i,i<=n->aS M i<=2000:=fun i hi=>by
  have h3:=IZ (M:=M) i;have h4:i* (gl M 0).length<=5*400:=Nat.mul_le_mul (by omega) (by omega);omega
 generalize hF:(gl M 0).length=F at*;refine bA func158 O ntmps158 O (df O) (bg O (aQ (zX Ab A n c rs M _ w hB O hR (by omega)) O ?_));rintro _ w ⟨rfl,rfl⟩;rw [e0];refine JG F (St.refl w) O O (by omega) ?_;intro A3 w1 aI;have aI:St w w1 (aL 34 2 A3 F F (List.replicate F dO) (List.replicate F [])):=IX F aI;refine ar O (aQ (I9 Ab A n c _ _ (aI.re hB) O) O ?_);rintro _ w1 ⟨rfl,rfl⟩;refine aC O ?_;refine Cd.loop (α:=Nat×List aO) (fun z=> [(0,.pointer Ab),(3,.slice A3 F F),(4,ak (aS M z.1:Int)),(14,ak n),(15,ak (z.1:Int))]) (fun z w'=>z.1<=n/\z.2.length=F/\St w w' (aL 34 2 A3 F F z.2 (jN M z.1 0)++ [])) (fun z=>n - z.1) (0,List.replicate F dO) (amz O) ⟨aZ _,by simp,by rw [aaa M 0 O,hF,fj];exact aI⟩ ?_;clear aI;rintro⟨i,DG⟩ e w2 ⟨hi,cI,hS⟩;dsimp only at hi cI hS|-;have wh:=yZ i hi;refine bJ O (aM _ O (fun h3=>?_) (fun h3=>?_))
 ·have du:i<n:=by omega
  have sC:=yZ (i+1) (by omega);have lp:=CD M i;have AU:aS M (i+1)=aS M i+ (iS M i).toNat:=O;refine aA O (aQ (QG Ab A n c rs M i _ (hS.re hB) (hS.cT hR) hM du) O ?_);rintro _ w3 ⟨A6,rfl,aw⟩;have aR:=(hS.call aw).perm (nT (l₁:=[ax 2 A6 (gl M 0).length (gl M 0).length (eG M i)]));rw [hF]at aR|-;clear aw hS;refine ar O (bc O O (aC O ?_));refine Cd.loop (α:=Nat×List aO) (fun z=> [(0,.pointer Ab),(3,.slice A3 F F),(4,ak (aS M i:Int)),(7,ak (iS M i)),(14,ak n),(15,ak i),(24,.slice A6 F F),(5,ak i),(25,ak F),(26,ak (z.1:Int))]) (fun z w'=>z.1<=F/\z.2.length=F/\St w w' (aL 34 2 A3 F F z.2 (jN M i z.1)++ [ax 2 A6 F F (eG M i)])) (fun z=>F - z.1) (0,DG) (amz O) ⟨aZ _,cI,by simpa using aR⟩ ?_;clear aR;rintro⟨f,dB⟩ e w4 ⟨hf,uw,aX⟩;dsimp only at hf uw aX|-;have SF:=Hc M i f;rw [hF]at SF;refine bJ O (aM _ O (fun h4=>?_) (fun h4=>?_))
  ·have tp:f<F:=by omega
   have jP:=St.jj aX SF;have lL:(aL 34 2 A3 F F dB (jN M i f)++ [ax 2 A6 F F (eG M i)])[F+1]?=some (ax 2 A6 F F (eG M i)):=by
    rw [kD (by rw [Ux (by omega)];omega),Ux (by omega),uw,Nat.sub_self];rfl
   have H7:cg w4 A6 F (eG M i):=aX.bz (F+1) lL;have hin2:=xb hM (i:=i) (f:=f) (by omega);have acD:(aS M i:Int)+gi (eG M i) f=cS M i f:=O;have bP:=jP.at_ (i:=(f:Int)) (by omega) (by omega);have oV:(rg dB f).n<=5:=by
    have:=bP.1;rw [<-this,Hb (by omega),az (by omega)];simp;omega
   refine aA O (aD H7.2 O (a8 H7 O (ar O (aD jP.top.2 O (bW jP.top O ?_)))));refine ar O (aH O ?_);refine eS aX O O O ?_;intro AQ wQ hQ;have vh:(ax 2 AQ 1 1 [((aS M i:Int)+gi (eG M i) f)]::(aL 34 2 A3 F F dB (jN M i f)++ [ax 2 A6 F F (eG M i)]))[2+f]?=some (ax 2 (rg dB f).a (rg dB f).n (rg dB f).c (gl (jN M i f) f)):=by
    have h0:=Ds (t1:=34) (t2:=2) (A:=A3) (n:=F) (c:=F) (rs:=dB) (xss:=(jN M i f)) (pre:=[ax 2 AQ 1 1 [((aS M i:Int)+gi (eG M i) f)]]) (ks:=[ax 2 A6 F F (eG M i)]) (i:=f) (by omega) (by omega);exact h0
   refine fk (2+f) hQ vh (hQ.bz 0 O) O O O ?_;intro AZ cZ wZ hZ;rw [Ns ⟨AZ,(rg dB f).n+1,cZ⟩ (gl (jN M i f) f++ [((aS M i:Int)+gi (eG M i) f)]) (by omega) (by omega)]at hZ;have RS:ml wZ A3 F dB:=hZ.fG 1 O;refine aD RS.2 O (D7 (te:=34) (n:=F) (c:=F) (A:=A3) (xs:=dB) 1 hZ O O O (by omega) ?_);intro wY hY;have aY:St w wY (aL 34 2 A3 F F (dB.set f ⟨AZ,(rg dB f).n+1,cZ⟩) ((jN M i f).set f (gl (jN M i f) f++ [((aS M i:Int)+gi (eG M i) f)]))++ [ax 2 A6 F F (eG M i)]):=St.tail hY;clear hY RS hZ vh hQ;rw [acD,Z9 (by omega)]at aY;refine ar O (aH O (aT O (tQ ?_)));exact⟨(f+1,_),by show F - (f+1)<F - f;omega,(amz O),by show f+1<=F;omega,by simp [uw],aY⟩
  have tp:f=F:=by omega
  subst tp;have iJ:=Z7 M i;rw [hF]at iJ;rw [iJ]at aX;refine bn O (bo (cL O (aH O (ar O (aH O (aT O (tQ ?_)))))));exact⟨(i+1,dB),by show n - (i+1)<n - i;omega,⟨O,O,by show Value.int .i64 ((aS M i:Int)+iS M i)=ak ((aS M (i+1):Nat):Int);congr 1;omega,O,O,au⟩,by show i+1<=n;omega,uw,aX.sub (List.Sublist.append_left (List.nil_sublist _) _)⟩
 have du:i=n:=by omega
 subst du;have he:=Z6 M;rw [hl]at he;rw [he]at hS;refine bn O (bo (gq O ?_));exact ia O ⟨A3,DG,O,cI,hS⟩
theorem afU{a b:ai}{k:Nat}(ha:k<a.length)(hb:k<b.length):iW (a.drop k) (b.drop k)=if np (gi a k) (gi b k)=0 then iW (a.drop (k+1)) (b.drop (k+1))else np (gi a k) (gi b k):=by
 rw [List.drop_eq_getElem_cons ha,List.drop_eq_getElem_cons hb,b9 ha,b9 hb]
 rfl
theorem afT{a b:ai}{k:Nat}(ha:k<a.length)(hb:b.length<=k):iW (a.drop k) (b.drop k)=1:=by
 rw [List.drop_eq_getElem_cons ha,List.drop_of_length_le hb]
 rfl
theorem afS{a b:ai}{k:Nat}(ha:a.length<=k):iW (a.drop k) (b.drop k)=if k<b.length then -1 else 0:=by
 rw [List.drop_of_length_le ha]
 split
 ·rename_i h;rw [List.drop_eq_getElem_cons h]
  rfl
 rename_i h;rw [List.drop_of_length_le (by omega)]
 rfl
theorem Fw(x:Int)(w:aa):aK prog 266 [ak x] w (fun v w'=>v= .bool false/\w'=w):=by
 refine bA func266 O ntmps266 O (df O) (Gg O (dz O ?_));exact⟨by simp,O⟩
theorem YL(x y:Int)(w:aa):aK prog 209 [ak x,ak y] w (fun v w'=>v=ak (np x y)/\w'=w):=by
 refine bA func209 O ntmps209 O (df O) (bg O (aQ (Fw _ _) O ?_));rintro _ w ⟨rfl,rfl⟩;refine ar O (aQ (Fw _ _) O ?_);rintro _ w ⟨rfl,rfl⟩;refine aC O (Cd.fC O (dw O (Cd.fC O (dw O ?_))));refine aM _ O (fun h1=>?_) (fun h1=>?_)
 ·refine dX O (gZ O ?_);exact⟨by rw [np,aB h1],O⟩
 refine dw O (aM _ O (fun h2=>?_) (fun h2=>?_))
 ·refine dX O (gZ O ?_);exact⟨by rw [np,az h1,aB h2],O⟩
 refine dX O (gZ O ?_);exact⟨by rw [np,az h1,az h2],O⟩
theorem WE(A:aj)(n c:Nat)(xs:ai)(A':aj)(n' c':Nat)(ys:ai)(w:aa)(hX:cg w A n xs)(hY:cg w A' n' ys)(hn:n<=9223372036854775807):
 aK prog 150 [.slice A n c,.slice A' n' c'] w (fun v w'=>v=ak (iW xs ys)/\w'=w):=by
 have jH:=hX.1;have MQ:=hY.1;refine bA func150 O ntmps150 O (df O) ?_;refine bg O (bc O O (aC O ?_));refine Cd.loop (α:=Nat) (fun k=> [(0,.slice A n c),(1,.slice A' n' c'),(9,.slice A n c),(10,ak n),(11,ak k)]) (fun k w'=>w'=w/\k<=n/\k<=n'/\iW xs ys=iW (xs.drop k) (ys.drop k)) (fun k=>n - k) 0 (amz O) ⟨O,aZ _,aZ _,O⟩ ?_;rintro k e w ⟨rfl,hk,eQ,hK⟩;refine bJ O (aM _ O (fun h1=>?_) (fun h1=>?_))
 ·refine aA O (aD hX.2 O (a8 hX O ?_));refine ar O (bc O O (aC O ?_));refine aM _ O (fun h2=>?_) (fun h2=>?_)
  ·refine dX O (fz (eW ?_));refine gZ O ?_;exact⟨by rw [hK,afT (by omega) (by omega)],O⟩
  rw [afU (by omega) (by omega)]at hK;refine aA O (aD hY.2 O (a8 hY O (ar O (aQ (YL _ _ _) O ?_))));rintro _ w ⟨rfl,rfl⟩;refine aC O (aM _ O (fun h3=>?_) (fun h3=>?_))
  ·refine dX O (fz (eW ?_));refine gZ O ?_;exact⟨by rw [hK,az h3],O⟩
  rw [aB (jb.1 h3)]at hK;refine aA O (aH O (aT O (tQ ?_)));exact⟨k+1,by show n - (k+1)<n - k;omega,(amz O),O,by omega,by omega,hK⟩
 rw [afS (by omega)]at hK;have iM:k=n:=by omega
 subst iM;refine bn O (bo (cL O (bc O O (ar O (bc O O (aC O ?_))))));refine aM _ O (fun h2=>?_) (fun h2=>?_)
 ·refine dX O (gZ O ?_);exact⟨by rw [hK,aB (by omega)],O⟩
 refine dX O (gZ O ?_);exact⟨by rw [hK,az (by omega)],O⟩
theorem WL(A:aj)(n c:Nat)(xs:ai)(A':aj)(n' c':Nat)(ys:ai)(w:aa)(hR:cg w A n xs)(pY:cg w A' n' ys)(hn:n<=9223372036854775807):
 aK prog 254 [.slice A n c,.slice A' n' c'] w (fun v w'=>v= .bool (decide (xs=ys))/\St w w' []):=by
 have hl:=hR.1;have qT:=pY.1;subst hl;subst qT;refine bA func254 O ntmps254 O (df O) ?_;refine bg O (bc O O (ar O (bc O O (aC O ?_))));refine aM _ O (fun h=>?_) (fun h=>?_)
 ·refine dX O (dz O ?_);exact⟨by rw [cj (fun e:xs=ys=>h (by rw [e]))],St.refl _⟩
 refine aA O (bc O O (aC O ?_));refine Cd.loop (α:=Nat) (fun k=> [(0,.slice A xs.length c),(1,.slice A' ys.length c'),(12,ak (xs.length:Int)),(13,ak k)]) (fun k w'=>St w w' []/\k<=xs.length/\xs.take k=ys.take k) (fun k=>xs.length - k) 0 (amz O) ⟨St.refl w,aZ _,O⟩ ?_;rintro k e w2 ⟨aE,hk,hI⟩;have hle:xs.length=ys.length:=by omega
 refine bJ O (aM _ O (fun h1=>?_) (fun h1=>?_))
 ·have hA:=aE.gh hR;have hB:=aE.gh pY;have h2:(k:Int)<ys.length:=by omega
  have hx:=b9 (p:=xs) (k:=k) (by omega);have hy:=b9 (p:=ys) (k:=k) (by omega);refine dw O (eo [xS (A) (xs.length) (c),xI ((k:Int)),xP (ay (A) ((k:Int)).toNat),xI (gi (xs) ((k:Int))),xS (A') (ys.length) (c'),xI ((k:Int)),xP (ay (A') ((k:Int)).toNat),xI (gi (ys) ((k:Int))),xB (decide (¬(gi (xs) ((k:Int)))=(gi (ys) ((k:Int)))))] O (eL O) ?_ ?_)
  ·exact⟨Dr O,Dr O,fun _ _ hb _ _=>aD (hA.aq hb).2 O Az,fun _ _ hb _ _=>a8 (hA.aq hb) O Az,Dr O,Dr O,fun _ _ hb _ _=>aD (hB.aq hb).2 O Az,fun _ _ hb _ _=>a8 (hB.aq hb) O Az,Dr O,au⟩
  intro u w3 fR _;have aR:=aE.aq fR;refine eP O (aM _ O (fun h3=>?_) (fun h3=>?_))
  ·refine dX O (fz (eW ?_));refine dz O ?_;refine⟨by rw [cj (fun e:xs=ys=>h3 (by rw [e]))],aR⟩
  refine aA O (aH O (aT O (tQ ?_)));refine⟨k+1,by omega,(amz O),aR,by omega,?_⟩;rw [tK (by omega),tK (by omega),hI,jb.1 h3]
 refine bn O (bo (gq O ?_));refine dz O ⟨?_,aE⟩;rw [gR (by omega),gR (by omega)]at hI;rw [dM hI]
theorem afe(A:aj)(n c:Nat)(xs:ai)(A':aj)(n' c':Nat)(ys:ai)(w:aa)(hR:cg w A n xs)(pY:cg w A' n' ys)(hn:n<=9223372036854775807):
 aK prog 184 [.slice A n c,.slice A' n' c'] w (fun v w'=>v= .bool (decide (xs=ys))/\St w w' []):=by
 have hl:=hR.1;have qT:=pY.1;subst hl;subst qT;refine bA func184 O ntmps184 O (df O) ?_;refine bg O (bc O O (ar O (bc O O (aC O ?_))));refine aM _ O (fun h=>?_) (fun h=>?_)
 ·refine dX O (dz O ?_);exact⟨by rw [cj (fun e:xs=ys=>h (by rw [e]))],St.refl _⟩
 refine dw O (Cd.loop (α:=Nat) (fun k=> [(0,.slice A xs.length c),(1,.slice A' ys.length c'),(5,ak k)]) (fun k w'=>St w w' []/\k<=xs.length/\xs.take k=ys.take k) (fun k=>xs.length - k) 0 (amz O) ⟨St.refl w,aZ _,O⟩ ?_);rintro k e w2 ⟨aE,hk,hI⟩;have hle:xs.length=ys.length:=by omega
 refine bg O (bc O O (aC O ?_));refine aM _ O (fun h1=>?_) (fun h1=>?_)
 ·have hA:=aE.gh hR;have hB:=aE.gh pY;have h2:(k:Int)<ys.length:=by omega
  have hx:=b9 (p:=xs) (k:=k) (by omega);have hy:=b9 (p:=ys) (k:=k) (by omega);refine dw O (eo [xS (A) (xs.length) (c),xI ((k:Int)),xP (ay (A) ((k:Int)).toNat),xI (gi (xs) ((k:Int))),xS (A') (ys.length) (c'),xI ((k:Int)),xP (ay (A') ((k:Int)).toNat),xI (gi (ys) ((k:Int))),xB (decide (¬(gi (xs) ((k:Int)))=(gi (ys) ((k:Int)))))] O (eL O) ?_ ?_)
  ·exact⟨Dr O,Dr O,fun _ _ hb _ _=>aD (hA.aq hb).2 O Az,fun _ _ hb _ _=>a8 (hA.aq hb) O Az,Dr O,Dr O,fun _ _ hb _ _=>aD (hB.aq hb).2 O Az,fun _ _ hb _ _=>a8 (hB.aq hb) O Az,Dr O,au⟩
  intro u w3 fR _;have aR:=aE.aq fR;refine eP O (aM _ O (fun h3=>?_) (fun h3=>?_))
  ·refine dX O (fz (eW ?_));refine dz O ?_;refine⟨by rw [cj (fun e:xs=ys=>h3 (by rw [e]))],aR⟩
  refine aA O (aH O (aT O (tQ ?_)));refine⟨k+1,by omega,(amz O),aR,by omega,?_⟩;rw [tK (by omega),tK (by omega),hI,jb.1 h3]
 refine bn O (bo (gq O ?_));refine dz O ⟨?_,aE⟩;rw [gR (by omega),gR (by omega)]at hI;rw [dM hI]
def mM(xss:ah):ai:=(List.range xss.length).map fun i=>iS xss i
theorem Kd(xss:ah):(mM xss).length=xss.length:=by simp [mM]
theorem YU{xss:ah}{i:Nat}(h:i<xss.length):(mM xss).take (i+1)=(mM xss).take i++ [iS xss i]:=by
 rw [lV (by rw [Kd];exact h)];simp [mM]
theorem ZM(Ab A:aj)(n c:Nat)(rs:List aO)(xss:ah)(w:aa)(hB:Rd w Ab 1 (fun _=> .slice A n c))(hR:bF w A n rs xss)(hM:cN xss):
 aK prog 56 [.pointer Ab] w (fun v w'=>∃A' c',v= .slice A' n c'/\St w w' [ax 2 A' n c' (mM xss)]):=by
 have hl:=hR.len;have h1:=hM.1;have h2:=hM.2.1;refine bA func56 O ntmps56 O (df O) (bg O (aQ (I9 Ab A n c _ _ hB O) O ?_));rintro _ w ⟨rfl,rfl⟩;refine aC O (Cd.loop (α:=Nat×aj×Nat) (fun s=> [(0,.pointer Ab),(3,.slice s.2.1 s.1 s.2.2),(8,ak n),(9,ak (s.1:Int))]) (fun s w'=>St w w' [ax 2 s.2.1 s.1 s.2.2 ((mM xss).take s.1)]/\s.1<=n) (fun s=>n - s.1) (0,none,0) (amz O) ⟨(St.refl w).nil _,aZ _⟩ ?_);rintro⟨i,A3,c3⟩ e w1 ⟨aI,hi⟩;dsimp only at aI hi|-;refine bJ O (aM _ O (fun h3=>?_) (fun h3=>?_))
 ·have di:i<n:=by omega
  have ko:=CD xss i;refine aA O (aQ (QG Ab A n c rs xss i _ (hB.below aI.below) (aI.cT hR) hM di) O ?_);rintro _ w2 ⟨A5,rfl,kN⟩;have aE:=(aI.call kN).tail;refine ar O (eS aE O O O ?_);intro A6 w3 aR;refine fk 1 aR O (aR.bz 0 O) O O O fun A7 c7 w4 aX=>ar O (aH O (aT O (tQ ?_)));refine⟨(i+1,A7,c7),by show n - (i+1)<n - i;omega,(amz O),?_,di⟩;show St w w4 [ax _ A7 (i+1) c7 ((mM xss).take (i+1))];rw [YU (by omega)];exact aX.tail
 refine bn O (bo (gq O ?_));refine ia O ?_;have du:i=n:=by omega
 rw [du,gR (by rw [Kd];omega)]at aI;rw [du];exact⟨A3,c3,O,aI⟩
theorem St.oz{w0 w:aa}{t1 t2:ae}{A:aj}{n c:Nat}{rs:List aO}{xss:ah}(h:St w0 w (aL t1 t2 A n c rs xss))(hl:xss.length=n):bF w A n rs xss:=
 St.jj (ks:=[]) (by rw [fj];exact h) hl
section
variable{b b0 b1 b2:Nat}
variable {P:Program} {N:Nat} {ops:Array Oper} {K:Env->aa->Prop} {rest:List Oper} {e:Env} {w0 w w':aa} {ks:List Ck} {d:Nat} {ty:ae} {pos:String} {af:Array Edge}
theorem Gj{t:ae}{f0 f1 f2:Field}{z0 z1 z2 y0 y1 y2:ad}[bt P t (.struct #[f0,f1,f2])][bq P t (.agg #[z0,z1,z2]) 3 b]{x0:ag}{v0:ad}(u6:bq P f0.type y0 1 b0)(u7:bq P f1.type y1 1 b1)(xg:bq P f2.type y2 1 b2)(ho:f0.offset=0)(sC:f1.offset=1)(yY:f2.offset=2)(h0:ev e x0=v0)(c0:v0.oneCell'=true)(hb:Nat.blt d N=true)(hK:ao P N ops K rest (br e d (.agg #[v0,z1,z2])) w):ao P N ops K (⟨some d,.build t #[(0,x0)],ty,pos,af,none⟩::rest) e w:=by
 obtain⟨inf,hi,dU,hs,gI⟩:=bq.get P t;obtain⟨Dl,eY,_,pB,_⟩:=u6.get P f0.type;obtain⟨Fu,mm,_,vq,_⟩:=u7.get P f1.type;obtain⟨ID,ug,_,mT,_⟩:=xg.get P f2.type;have e0:v0.cells= #[v0]:=by cases v0<;>simp [Value.oneCell']at c0<;>rfl
 have ez:(Value.agg #[z0,z1,z2]).cells= #[z0,z1,z2]:=O;refine .val (w':=w) ?_ hb hK;simp [execOp,Instr.build,run_underlying (bt.out (P:=P) (t:=t)),sizeOf,typeInfo,zeroValue,hi,dU,eY,pB,mm,vq,ug,mT,ho,h0,e0,ez,Instr.fill]
theorem BV{t:ae}{f0 f1 f2:Field}{z0 z1 z2 y0 y1 y2:ad}[bt P t (.struct #[f0,f1,f2])][bq P t (.agg #[z0,z1,z2]) 3 b](u6:bq P f0.type y0 1 b0)(u7:bq P f1.type y1 1 b1)(xg:bq P f2.type y2 1 b2)(hb:Nat.blt d N=true)(hK:ao P N ops K rest (br e d (.agg #[z0,z1,z2])) w):ao P N ops K (⟨some d,.build t #[],ty,pos,af,none⟩::rest) e w:=by
 obtain⟨inf,hi,dU,hs,gI⟩:=bq.get P t;obtain⟨Dl,eY,_,pB,_⟩:=u6.get P f0.type;obtain⟨Fu,mm,_,vq,_⟩:=u7.get P f1.type;obtain⟨ID,ug,_,mT,_⟩:=xg.get P f2.type;have ez:(Value.agg #[z0,z1,z2]).cells= #[z0,z1,z2]:=O;refine .val (w':=w) ?_ hb hK;simp [execOp,Instr.build,run_underlying (bt.out (P:=P) (t:=t)),sizeOf,typeInfo,zeroValue,hi,dU,eY,pB,mm,vq,ug,mT,ez,Instr.fill]
theorem nj{el:ae}{v0 v1 v2:ad}{s:Nat}[bq P el (.agg #[v0,v1,v2]) s b](hS:St w0 w ks)(hb:Nat.blt d N=true)(hK:∀A w',St w0 w' (Bx el 3 A [v0,v1,v2]::ks)->ao P N ops K rest (br e d (.pointer A)) w')(hM:eK [v0,v1,v2]=false:=by rfl):ao P N ops K (⟨some d,.alloc el,ty,pos,af,none⟩::rest) e w:= .new (el:=el) (z:= .agg #[v0,v1,v2]) (s:=s) (b:=b) hS hb rfl hK hM
end
theorem aht{α:Type}(q1 q2 q3 q4 q5 q6:α)(X Y:List α):([q1,q2,q3,q4,q5,q6]++Y++X).Perm (q4::(q2::((q1::X)++ (q3::q5::q6::Y)))):=by
 classical
 refine jA.2 fun z=>?_
 simp only [lu,jz,List.cons_append,List.nil_append];omega
abbrev bD(A:aj)(n:Int)(AR:aj)(N c:Nat)(AD:aj)(m d:Nat):Ck:=Bx 58 3 A [ak n,.slice AR N c,.slice AD m d]
theorem YT{M:ah}{i:Nat}(h:i<M.length):gi (mM M) i=iS M i:=by
 rw [b9 (by rw [Kd];exact h)];simp [mM]
structure rR(M:ah)(f i:Nat)(B:ah):Prop where
 len:B.length=aS M M.length
 mem:∀e:Nat,e<aS M M.length->∀x,x∈gl B e↔∃f' i',(f'<f\/f'=f/\i'<i)/\f'< (gl M 0).length/\i'<M.length/\cS M i' f'=e/\∃k,k<i'/\x=cS M k f'
 num:∀e:Nat,(gl B e).length<=25*f+5*i
theorem rR.zero(M:ah):rR M 0 0 (List.replicate (aS M M.length) []):=by
 have hg:∀e:Nat,gl (List.replicate (aS M M.length) ([]:ai)) e=[]:=fun e=>by
  simp only [gl,jc,da,List.getElem?_replicate]
  split<;>rfl
 refine⟨by simp,fun e he x=>?_,fun e=>by rw [hg];exact aZ _⟩;rw [hg];constructor
 ·intro h;cases h
 rintro⟨f',i',h,_⟩;omega
theorem rR.next{M:ah}{f i:Nat}{B:ah}(hM:cN M)(h:rR M f i B)(hf:f< (gl M 0).length)(hi:i<M.length):rR M f (i+1) (B.set (cS M i f).toNat (gl B (cS M i f)++ (List.range i).map fun k=>cS M k f)):=by
 have du:=xb hM (i:=i) hf;have uk:=ow M (show i+1<=M.length by omega);have h5:=hM.1;obtain⟨q,hq⟩:∃q:Nat,cS M i f=q:=⟨(cS M i f).toNat,by omega⟩;rw [hq,jc];have hg:∀e:Nat,gl (B.set q (gl B q++ (List.range i).map fun k=>cS M k f)) e=if q=e then gl B q++ (List.range i).map fun k=>cS M k f else gl B e:=fun e=>aat (by rw [h.len];omega)
 refine⟨by rw [lT];exact h.len,fun e he x=>?_,fun e=>?_⟩
 ·rw [hg]
  by_cases e1:q=e
  ·subst e1;rw [aB rfl,kj,h.mem q he];constructor
   ·rintro(⟨f',i',h1,h2⟩ | h1)
    ·exact⟨f',i',by omega,h2⟩
    obtain⟨k,hk,rfl⟩:=dA.1 h1;exact⟨f,i,.inr ⟨O,by omega⟩,hf,hi,hq,k,il.1 hk,O⟩
   rintro⟨f',i',h1,h2,h3,h4,k,hk,rfl⟩
   by_cases e2:f'=f/\i'=i
   ·obtain⟨rfl,rfl⟩:=e2;exact .inr (dA.2 ⟨k,il.2 hk,O⟩)
   exact .inl ⟨f',i',by omega,h2,h3,h4,k,hk,O⟩
  rw [az e1,h.mem e he];constructor
  ·rintro⟨f',i',h1,h2⟩;exact⟨f',i',by omega,h2⟩
  rintro⟨f',i',h1,h2,h3,h4,h6⟩;refine⟨f',i',?_,h2,h3,h4,h6⟩
  by_cases e2:f'=f/\i'=i
  ·obtain⟨rfl,rfl⟩:=e2;omega
  omega
 rw [hg];have h1:=h.num q;have h2:=h.num e
 split
 ·rw [b8,fO,qB];omega
 omega
theorem rR.row{M:ah}{f:Nat}{B:ah}(hM:cN M)(h:rR M f M.length B):rR M (f+1) 0 B:=by
 have h5:=hM.1;refine⟨h.len,fun e he x=>?_,fun e=>by have:=h.num e;omega⟩;rw [h.mem e he];constructor
 ·rintro⟨f',i',h1,h2⟩;exact⟨f',i',by omega,h2⟩
 rintro⟨f',i',h1,h2,h3,h4⟩;exact⟨f',i',by omega,h2,h3,h4⟩
theorem rR.done{M:ah}{B:ah}(hM:cN M)(h:rR M (gl M 0).length 0 B){e:Nat}(he:e<aS M M.length):cs (gl B e)=gl (bR M) e:=by
 refine(Y9 _).eq ?_ fun x=>?_
 ·rw [b7 (by rw [uY];exact he)];unfold bR;rw [List.getElem_map];exact pc _ (mf _)
 rw [Za,h.mem e he,qI (by omega) (by omega)];constructor
 ·rintro⟨f',i',_,h2,h3,h4,k,hk,rfl⟩;have hI:sU M (cS M k f') e:=⟨f',h2,i',h3,k,hk,h4.symm,O⟩;exact⟨(hI.gO hM).1,hI⟩
 rintro⟨_,f',h2,i',h3,k,hk,h4,rfl⟩;exact⟨f',i',.inl h2,h2,h3,h4.symm,k,hk,O⟩
def WB(M:ah)(w:aa)(v:ad)(w':aa):Prop:=(500<aS M M.length/\v= .tuple #[.agg #[ak 0,.slice none 0 0,.slice none 0 0],.bool false]/\St w w' [])\/(aS M M.length<=500/\∃AR c AD d rs,v= .tuple #[.agg #[ak (M.length:Int),.slice AR (aS M M.length) c,.slice AD (aS M M.length) d],.bool true]/\rs.length=aS M M.length/\St w w' (ax 2 AR (aS M M.length) c (bK M M.length)::(aL 34 2 AD (aS M M.length) d rs (bR M)++ [])))
theorem QF(A:aj)(n c:Nat)(rs:List aO)(M:ah)(w:aa)(hR:bF w A n rs M)(hM:cN M):
 aK prog 87 [.agg #[.slice A n c]] w (WB M w):=by
 have hl:=hR.len;have h1:=hM.1;have h2:=hM.2.1;have yZ:∀i,i<=n->aS M i<=2000:=fun i hi=>by
  have h3:=IZ (M:=M) i;have h4:i* (gl M 0).length<=5*400:=Nat.mul_le_mul (by omega) (by omega);omega
 refine bA func87 O ntmps87 O (tD O O) (bg O (lB (St.refl w) O O ?_));intro A1 w1 aI;refine nj aI O fun A2 w2 aE=>ar O (aQ (I9 A1 A n c _ _ (Rd.one (aE.rd 1 O)) O) O ?_);rintro _ w2 ⟨rfl,rfl⟩;refine Gj (by exact inferInstance) (by exact inferInstance) (by exact inferInstance) O O O O O O (nj aE O ?_);intro A4 w3 aR;refine bO 3 0 aR O O O O O O O ?_;intro w4 aX;have aX:St w w4 [bD A4 n none 0 0 none 0 0,bD A2 0 none 0 0 none 0 0,Bx 24 1 A1 [.slice A n c]]:=aX;clear aR aE aI;refine ar O (aQ (ZM A1 A n c rs M _ (Rd.one (aX.rd 2 O)) (aX.cT hR) hM) O ?_);rintro _ w5 ⟨pa,tX,rfl,aw⟩;have aY:=aX.call aw;clear aw aX;have aY:St w w5 [bD A4 n none 0 0 none 0 0,ax 2 none 0 0 [],ax 2 pa n tX (mM M),bD A2 0 none 0 0 none 0 0,Bx 24 1 A1 [.slice A n c]]:=(aY.nil 2).perm (qD (l₁:=[_,_]));refine bc O O (aC O ?_);refine Cd.loop (α:=Nat×aj×Nat) (fun z=> [(1,.pointer A1),(2,.pointer A2),(4,.pointer A4),(14,.slice pa n tX),(15,ak n),(16,ak (z.1:Int))]) (fun z w'=>z.1<=n/\St w w' [bD A4 n z.2.1 (aS M z.1) z.2.2 none 0 0,ax 2 z.2.1 (aS M z.1) z.2.2 (bK M z.1),ax 2 pa n tX (mM M),bD A2 0 none 0 0 none 0 0,Bx 24 1 A1 [.slice A n c]]) (fun z=>n - z.1) (0,none,0) (amz O) ⟨aZ _,aY⟩ ?_;clear aY;rintro⟨i,AR,cR⟩ e w6 ⟨hi,hS⟩;dsimp only at hi hS|-;have wh:=yZ i hi;have yH:=oH M i;refine bJ O (aM _ O (fun h3=>?_) (fun h3=>?_))
 ·have du:i<n:=by omega
  have yO:=YT (M:=M) (i:=i) (by omega);have lp:=CD M i;have sC:=yZ (i+1) (by omega);have AU:aS M (i+1)=aS M i+ (iS M i).toNat:=O;have oQ:bK M (i+1)=bK M i++List.replicate (iS M i).toNat (i:Int):=O;have hC:=hS.bz 2 O;refine aA O (aD hC.2 O (a8 hC O (aC O ?_)));rw [yO];obtain⟨N,hN⟩:∃N:Nat,iS M i=N:=⟨(iS M i).toNat,by omega⟩;rw [hN,jc]at AU oQ;rw [hN]at lp|-;refine kB [6,8] [yP (ay (A4) 1),yS (AR) (aS M i) (cR),yI ((i:Int)),.pr (fun v w'=>∃A9,v= .slice A9 1 1/\St w w' (ax 2 A9 1 1 [(i:Int)]::[bD A4 n AR (aS M i) cR none 0 0,ax 2 AR (aS M i) cR (bK M i),ax 2 pa n tX (mM M),bD A2 0 none 0 0 none 0 0,Bx 24 1 A1 [.slice A n c]])),yI ((N:Int)),.pr (fun v w'=>∃A9,v= .slice A9 N N/\St w w' (ax 2 A9 N N (List.replicate N (i:Int))::[bD A4 n AR (aS M i) cR none 0 0,ax 2 AR (aS M i) cR (bK M i),ax 2 pa n tX (mM M),bD A2 0 none 0 0 none 0 0,Bx 24 1 A1 [.slice A n c]])),.pr (fun v w'=>∃bH dE,v= .slice bH (aS M i+N) dE/\St w w' [bD A4 n AR (aS M i) cR none 0 0,ax 2 bH (aS M i+N) dE (bK M i++List.replicate N (i:Int)),ax 2 pa n tX (mM M),bD A2 0 none 0 0 none 0 0,Bx 24 1 A1 [.slice A n c]]),yP (ay (A4) 1),.pr (fun _ w'=>∃bH dE,St w w' [bD A4 n bH (aS M i+N) dE none 0 0,ax 2 bH (aS M i+N) dE (bK M i++List.replicate N (i:Int)),ax 2 pa n tX (mM M),bD A2 0 none 0 0 none 0 0,Bx 24 1 A1 [.slice A n c]])] (ly (ly (ly (de.2 ⟨Ye.dp (fun v w w' h hb=>by obtain⟨A9,hv,hT⟩:=h;exact⟨A9,hv,hT.aq hb⟩),(ly (de.2 ⟨Ye.dp (fun v w w' h hb=>by obtain⟨A9,hv,hT⟩:=h;exact⟨A9,hv,hT.aq hb⟩),(de.2 ⟨Ye.dp (fun v w w' h hb=>by obtain⟨bH,dE,hv,hT⟩:=h;exact⟨bH,dE,hv,hT.aq hb⟩),(ly (de.2 ⟨Ye.dp (fun v w w' h hb=>by obtain⟨bH,dE,hT⟩:=h;exact⟨bH,dE,hT.aq hb⟩),(fun _ h=>by cases h)⟩))⟩)⟩))⟩)))) ?_ ?_
  ·refine⟨cP fun _ _ hb _ _ _=>aU ((hS.rd 0 O).below hb) O (bE O O),cP fun _ _ hb _ _ _=>bh ((hS.rd 0 O).below hb) O (bE O O),bT O,?_,bT O,?_,?_,?_,?_,au⟩
   ·refine cP fun e1 w1 hb hp aW hq=>?_
    exact eS (St.refl _) O O O fun A9 w9 aw=>ao.n (fN.dn O aw.below ⟨A9,O,(hS.aq hb).call aw⟩)
   ·refine cP fun e1 w1 hb hp aW hq=>?_
    obtain⟨A9,z6,hT⟩:=(hp 3 _ _ (by kernel_rfl) rfl rfl (by kernel_rfl));refine amq (JJ A9 1 i N _ (hT.bz 0 O) (by omega)) O (by exact aF (fun v=> [v,Value.int .i64 (N:Int)]) z6) O ?_;rintro _ w2 ⟨A5,rfl,aw⟩;exact ao.n (fN.dn O aw.below ⟨A5,O,hT.tail.call aw⟩)
   ·refine kG fun e1 w1 hb hp aW hq=>?_
    obtain⟨A9,h26,hT⟩:=(hp 5 _ _ (by kernel_rfl) rfl rfl (by kernel_rfl));refine fk 2 hT O (hT.bz 0 O) O (by exact h26) O ?_;intro bH dE dV CW;exact ao.n (fY.dn O ⟨bH,dE,O,CW.tail⟩)
   ·refine dP 1 fun e1 w1 hp aW hq=>?_
    have eN:=hp 6 _ _ (by kernel_rfl) O O (by kernel_rfl);obtain⟨bH,dE,Rq,hT⟩:=eN;refine aU ((hT.rd 0 O)) O (ao.n (iN O (by exact O)))
   refine rU 1 fun e1 w1 hp aW hq=>?_
   have eN:=hp 6 _ _ (by kernel_rfl) O O (by kernel_rfl);obtain⟨bH,dE,Rq,hT⟩:=eN;refine kF 0 hT O O (by exact Rq) O O ?_;intro dZ Ag;exact ao.n (fY.st O ⟨bH,dE,Ag⟩)
  intro u w7 _ hu _ _;obtain⟨bH,dE,hT⟩:=hu 8 _ rfl (by kernel_rfl);rw [<-AU,<-oQ]at hT;refine jW O (aH O (aT O (tQ ?_)));exact⟨(i+1,bH,dE),by show n - (i+1)<n - i;omega,(amz O),by show i+1<=n;omega,hT⟩
 obtain rfl:i=n:=by omega
 have gJ:M.length=i:=hl;generalize hK:aS M i=N at*;have lk:=hS.rd 0 O;refine bn O (bo (cL O ?_));refine aU lk O (bh lk O ?_);refine bc O O (aC O ?_);refine aM _ O (fun h4=>?_) (fun h4=>?_)
 ·refine aA O (BV (by exact inferInstance) (by exact inferInstance) (by exact inferInstance) O (bO 3 3 hS O O O O O O O ?_));intro w9 bL;refine bI O (kb O (bL.rd 3 O) O ?_);exact .inl ⟨by rw [gJ,hK];omega,O,bL.none⟩
 refine aA O (aU lk O (bh lk O (bc O O (JG N hS O O (by omega) ?_))));intro dK w7 bG;have bG:St w w7 (bZ 34 dK N N (List.replicate N dO)::[bD A4 i AR N cR none 0 0,ax 2 AR N cR (bK M i),ax 2 pa i tX (mM M),bD A2 0 none 0 0 none 0 0,Bx 24 1 A1 [.slice A i c]]):=bG;refine aU (bG.rd 1 O) O (kF 1 bG O O O O O ?_);intro w8 b6;have b6:St w w8 (bZ 34 dK N N (List.replicate N dO)::[bD A4 i AR N cR dK N N,ax 2 AR N cR (bK M i),ax 2 pa i tX (mM M),bD A2 0 none 0 0 none 0 0,Bx 24 1 A1 [.slice A i c]]):=b6;clear bG hS;refine ar O (aQ (X0 A1 A i c rs M _ (Rd.one (b6.rd 5 O)) (b6.cT hR) hM) O ?_);rintro _ w9 ⟨zE,oA,rfl,adB,aw⟩;obtain⟨F,hF⟩:∃F,(gl M 0).length=F:=⟨_,rfl⟩;rw [hF]at h2 adB aw|-;have Rz:(pg M).length=F:=by simp [pg,hF]
 have bL:=b6.call aw;clear aw b6;obtain⟨KK,sf⟩:∃KK:List Ck,KK=ax 2 AR N cR (bK M i)::bD A2 0 none 0 0 none 0 0::Bx 24 1 A1 [.slice A i c]::(aL 34 2 zE F F oA (pg M)++ []):=⟨_,rfl⟩;have bL:St w w9 (bD A4 i AR N cR dK N N::(aL 34 2 dK N N (List.replicate N dO) (List.replicate N [])++KK)):=by
  rw [sf];have h9:=(bL.perm nT);have h9:=IX (t:=2) N h9;have hp:([bZ 34 dK N N (List.replicate N dO),bD A4 i AR N cR dK N N,ax 2 AR N cR (bK M i),ax 2 pa i tX (mM M),bD A2 0 none 0 0 none 0 0,Bx 24 1 A1 [.slice A i c]]++ (aL 34 2 zE F F oA (pg M)++ [])++cK 2 (List.replicate N dO) (List.replicate N [])).Perm (ax 2 pa i tX (mM M)::(bD A4 i AR N cR dK N N::(aL 34 2 dK N N (List.replicate N dO) (List.replicate N [])++ (ax 2 AR N cR (bK M i)::bD A2 0 none 0 0 none 0 0::Bx 24 1 A1 [.slice A i c]::(aL 34 2 zE F F oA (pg M)++ []))))):=by
   unfold aL;generalize cK 2 (List.replicate N dO) (List.replicate N [])=X;generalize bZ 34 zE F F oA::cK 2 oA (pg M)++ []=Y;generalize bZ 34 dK N N (List.replicate N dO)=q1;generalize bD A4 i AR N cR dK N N=q2;generalize ax 2 AR N cR (bK M i)=q3;generalize ax 2 pa i tX (mM M)=q4;generalize bD A2 0 none 0 0 none 0 0=q5;generalize Bx 24 1 A1 [.slice A i c]=q6;exact aht q1 q2 q3 q4 q5 q6 X Y
  exact(h9.perm hp).tail
 have lL:∀(rs':List aO) (B:ah),(aL 34 2 zE F F oA (pg M)).Sublist (bD A4 i AR N cR dK N N::(aL 34 2 dK N N rs' B++KK)):=fun rs' B=>by
  rw [sf];refine List.Sublist.cons _ (List.Sublist.trans ?_ (iQ _ _));refine List.Sublist.cons _ (List.Sublist.cons _ (List.Sublist.cons _ ?_));rw [fj];exact kU _
 have mO:aS M M.length=N:=by rw [gJ,hK]
 refine bc O O (aC O ?_);refine Cd.loop (α:=Nat×List aO×ah) (fun z=> [(1,.pointer A1),(2,.pointer A2),(4,.pointer A4),(40,.slice zE F F),(41,ak F),(42,ak (z.1:Int))]) (fun z w'=>z.1<=F/\z.2.1.length=N/\rR M z.1 0 z.2.2/\St w w' (bD A4 i AR N cR dK N N::(aL 34 2 dK N N z.2.1 z.2.2++KK))) (fun z=>F - z.1) (0,List.replicate N dO,List.replicate N []) (amz O) ⟨aZ _,by simp,by have:=rR.zero M;rwa [mO]at this,bL⟩ ?_;clear bL;rintro⟨f,DG,B⟩ e dV ⟨hf,Io,hB,hS⟩;dsimp only at hf Io hB hS|-;refine bJ O (aM _ O (fun h5=>?_) (fun h5=>?_))
 ·have tp:f<F:=by omega
  have yA:=(hS.sub (lL DG B)).oz Rz;have bP:=yA.at_ (i:=(f:Int)) (by omega) (by omega);have cI:=bP.1;have C4:gl (pg M) f=(List.range M.length).map fun k=>cS M k f:=by rw [b7 (by omega)];simp [pg]
  have oV:(rg oA f).n=i:=by rw [<-cI,C4];simp [gJ]
  refine aA O (aD yA.top.2 O (bW yA.top O ?_));refine ar O (bc O O (aC O ?_));refine Cd.loop (α:=Nat×List aO×ah) (fun z=> [(1,.pointer A1),(2,.pointer A2),(4,.pointer A4),(40,.slice zE F F),(41,ak F),(42,ak f),(8,.slice (rg oA f).a (rg oA f).n (rg oA f).c),(46,.slice (rg oA f).a (rg oA f).n (rg oA f).c),(47,ak ((rg oA f).n:Int)),(48,ak (z.1:Int))]) (fun z w'=>z.1<=i/\z.2.1.length=N/\rR M f z.1 z.2.2/\St w w' (bD A4 i AR N cR dK N N::(aL 34 2 dK N N z.2.1 z.2.2++KK))) (fun z=>i - z.1) (0,DG,B) (amz O) ⟨aZ _,Io,hB,hS⟩ ?_;clear hS hB yA bP cI Io;rintro⟨j,dB,B4⟩ e dZ ⟨hj,uw,lk,aX⟩;dsimp only at hj uw lk aX|-;have sd:B4.length=N:=by rw [lk.len,mO]
  refine bJ O (aM _ O (fun h6=>?_) (fun h6=>?_))
  ·have ui:j<i:=by omega
   have yA:=(aX.sub (lL dB B4)).oz Rz;have bP:=yA.at_ (i:=(f:Int)) (by omega) (by omega);have cI:=bP.1;have SE:gi (gl (pg M) f) j=cS M j f:=by rw [b9 (by omega)];simp [C4]
   have du:=xb hM (i:=j) (f:=f) (by omega);have uk:=ow M (show j+1<=M.length by omega);rw [mO]at uk;obtain⟨E,hE⟩:∃E:Nat,cS M j f=E:=⟨(cS M j f).toNat,by omega⟩;rw [hE]at SE du;have iJ:=lk.next hM (by omega) (show j<M.length by omega);rw [hE,jc]at iJ;have se:E<N:=by omega
   have xG:(gl (pg M) f).take j=(List.range j).map fun k=>cS M k f:=by
    rw [C4,<-List.map_take,List.take_range,Nat.min_eq_left (by omega)]
   have jP:bF dZ dK N dB B4:=(aX.perm (qD (l₁:=aL 34 2 dK N N dB B4)).symm).jj sd;have xF:=(jP.at_ (i:=(E:Int)) (by omega) (by omega)).1;have Ic:=lk.num E;refine aA O (aD bP.2 O (a8 bP O (aC O ?_)));rw [SE];have vh:(bD A4 i AR N cR dK N N::(aL 34 2 dK N N dB B4++KK))[2+E]?=some (ax 2 (rg dB E).a (rg dB E).n (rg dB E).c (gl B4 E)):=Ds (t1:=34) (t2:=2) (A:=dK) (n:=N) (c:=N) (rs:=dB) (xss:=B4) (pre:=[bD A4 i AR N cR dK N N]) (ks:=KK) (i:=E) (by omega) (by omega);have qO:=fun(s:aO) (xs:ai)=>Ns (t1:=34) (t2:=2) (A:=dK) (n:=N) (c:=N) (rs:=dB) (xss:=B4) (ks:=KK) (q:=bD A4 i AR N cR dK N N) (i:=E) s xs (by omega) (by omega)
   refine kB [11,13] [yP (ay A4 2),yS (dK) (N) (N),yI ((E:Int)),yP (ay (A4) 2),yS (dK) (N) (N),yI ((E:Int)),yP (ay (dK) ((E:Int)).toNat),yS ((rg (dB) ((E:Int))).a) ((rg (dB) ((E:Int))).n) ((rg (dB) ((E:Int))).c),yS ((rg oA f).a) ((rg oA f).n) ((rg oA f).c),yI ((j:Int)),yS ((rg oA f).a) (j) ((rg oA f).c),.pr (fun v w'=>∃AZ cZ,v= .slice AZ ((rg dB E).n+j) cZ/\St w w' (bD A4 i AR N cR dK N N::(bZ 34 dK N N dB::(cK 2 (dB.set E ⟨AZ,(rg dB E).n+j,cZ⟩) (B4.set E (gl B4 E++ (gl (pg M) f).take j))++KK)))),yP (ay dK ((E:Int)).toNat),.pr (fun _ w'=>∃AZ cZ,St w w' (bD A4 i AR N cR dK N N::(aL 34 2 dK N N (dB.set E ⟨AZ,(rg dB E).n+j,cZ⟩) (B4.set E (gl B4 E++ (gl (pg M) f).take j))++KK)))] (ly (ly (ly (ly (ly (ly (ly (ly (ly (ly (ly (de.2 ⟨Ye.dp (fun v w w' h hb=>by obtain⟨AZ,cZ,hv,hT⟩:=h;exact⟨AZ,cZ,hv,hT.aq hb⟩),(ly (de.2 ⟨Ye.dp (fun v w w' h hb=>by obtain⟨AZ,cZ,hT⟩:=h;exact⟨AZ,cZ,hT.aq hb⟩),(fun _ h=>by cases h)⟩))⟩)))))))))))) ?_ ?_
   ·refine⟨?_,?_,bT O,cP fun _ _ hb _ _ _=>aU ((aX.rd 0 O).below hb) O (bE O O),cP fun _ _ hb _ _ _=>bh ((aX.rd 0 O).below hb) O (bE O O),bT O,cP fun _ _ hb _ _ _=>aD (jP.top.aq hb).2 O (bE O O),cP fun _ _ hb _ _ _=>bW (jP.top.aq hb) O (bE O O),bT O,bT O,aP fun _ _=>JD O O O (by have:=yA.cap_ (i:=(f:Int)) (by omega) (by omega);omega) (bE O O),?_,?_,?_,au⟩
    ·intro e1 w1 cc eZ dt fQ hp aW hq;show ao _ _ _ _ _ _ _;have hX:Rd w1 A4 3 (fun q=> [Value.int .i64 (i:Int),.slice AR N cR,.slice dK N N].getD q undef):=by { have dt:=qn dt (b:=1) (by kernel_rfl);rcases(show cc=0\/cc=1 by omega)with h | h; { exact(aX.aq (fQ h)).rd 0 rfl }; { subst h;obtain⟨AZ,cZ,_,hT⟩:=hq 11 _ _ (by kernel_rfl) (by kernel_rfl) (by kernel_rfl) rfl rfl (by kernel_rfl);exact hT.rd 0 rfl } }
     refine aU hX O (ao.n (iN O (by exact O)))
    ·intro e1 w1 cc eZ dt fQ hp aW hq;show ao _ _ _ _ _ _ _;have hX:Rd w1 A4 3 (fun q=> [Value.int .i64 (i:Int),.slice AR N cR,.slice dK N N].getD q undef):=by { have dt:=qn dt (b:=1) (by kernel_rfl);rcases(show cc=0\/cc=1 by omega)with h | h; { exact(aX.aq (fQ h)).rd 0 rfl }; { subst h;obtain⟨AZ,cZ,_,hT⟩:=hq 11 _ _ (by kernel_rfl) (by kernel_rfl) (by kernel_rfl) rfl rfl (by kernel_rfl);exact hT.rd 0 rfl } }
     refine bh hX O (ao.n (iN O (by exact O)))
    ·refine kG fun e1 w1 hb hp aW hq=>?_
     have aa7:=yA.aq hb;refine fk (2+E) (aX.aq hb) vh ((aa7.at_ (i:=(f:Int)) (by omega) (by omega)).take (l:=j) (by omega)) O O O ?_;intro AZ cZ wZ hZ;rw [qO ⟨AZ,(rg dB E).n+j,cZ⟩ (gl B4 E++ (gl (pg M) f).take j)]at hZ;exact ao.n (fY.dn O ⟨AZ,cZ,O,hZ⟩)
    ·intro e1 w1 cc eZ dt fQ hp aW hq;show ao _ _ _ _ _ _ _;have hX:ml w1 dK N dB:=by { have dt:=qn dt (b:=1) (by kernel_rfl);rcases(show cc=0\/cc=1 by omega)with h | h; { exact(aX.aq (fQ h)).fG 1 rfl }; { subst h;obtain⟨AZ,cZ,_,hT⟩:=hq 11 _ _ (by kernel_rfl) (by kernel_rfl) (by kernel_rfl) rfl rfl (by kernel_rfl);exact hT.fG 1 rfl } }
     refine aD hX.2 O (ao.n (iN O (by exact O)))
    refine rU 1 fun e1 w1 hp aW hq=>?_
    have eN:=hp 11 _ _ (by kernel_rfl) O O (by kernel_rfl);obtain⟨AZ,cZ,Rs,hT⟩:=eN;refine D7 (te:=34) (n:=N) (c:=N) (A:=dK) (xs:=dB) 1 hT O O (by exact Rs) (by omega) ?_;intro wY hY;exact ao.n (fY.st O ⟨AZ,cZ,hY⟩)
   intro u fg _ hu _ _;obtain⟨AZ,cZ,hT⟩:=hu 13 _ rfl (by kernel_rfl);rw [xG]at hT;refine jW O (aH O (aT O (tQ ?_)));exact⟨(j+1,_,_),by show i - (j+1)<i - j;omega,(amz O),by show j+1<=i;omega,by simp [uw],iJ,hT⟩
  have ui:j=M.length:=by omega
  subst ui;refine bn O (bo (cL O (aH O (aT O (tQ ?_)))));exact⟨(f+1,dB,B4),by show F - (f+1)<F - f;omega,(amz O),by show f+1<=F;omega,uw,lk.row hM,aX⟩
 have tp:f=F:=by omega
 subst tp;have sd:B.length=N:=by rw [hB.len,mO]
 have EU:∀e':Nat,e'<N->cs (gl B e')=gl (bR M) e':=fun e' qb=>rR.done hM (by rw [hF];exact hB) (by omega)
 have Ic:∀e':Nat,(gl B e').length<=25*f:=fun e'=>by have:=hB.num e';omega
 have lk:=hS.rd 0 O;refine bn O (bo (cL O ?_));refine aU lk O (bh lk O ?_);refine bc O O (aC O ?_);refine Cd.loop (α:=Nat×List aO) (fun z=> [(2,.pointer A2),(4,.pointer A4),(70,ak N),(71,ak (z.1:Int))]) (fun z w'=>z.1<=N/\z.2.length=N/\St w w' (bD A4 i AR N cR dK N N::(aL 34 2 dK N N z.2 (mw B z.1)++KK))) (fun z=>N - z.1) (0,DG) (amz O) ⟨aZ _,Io,by rw [agy];exact hS⟩ ?_;clear hS lk;rintro⟨E,dB⟩ e dZ ⟨hE,uw,hS⟩;dsimp only at hE uw hS|-;have l6:=agw B E;refine bJ O (aM _ O (fun h6=>?_) (fun h6=>?_))
 ·have se:E<N:=by omega
  have S0:=agv (B:=B) (e:=E) (by omega);have oW:=agx (B:=B) (e:=E) (by omega);have lk:=hS.rd 0 O;have jP:bF dZ dK N dB (mw B E):=(hS.perm (qD (l₁:=aL 34 2 dK N N dB (mw B E))).symm).jj (by omega);have xF:=(jP.at_ (i:=(E:Int)) (by omega) (by omega)).1;rw [S0]at xF;have hq:=Ic E;have vh:(bD A4 i AR N cR dK N N::(aL 34 2 dK N N dB (mw B E)++KK))[2+E]?=some (ax 2 (rg dB E).a (rg dB E).n (rg dB E).c (gl B E)):=by
   have h0:=Ds (t1:=34) (t2:=2) (A:=dK) (n:=N) (c:=N) (rs:=dB) (xss:=mw B E) (pre:=[bD A4 i AR N cR dK N N]) (ks:=KK) (i:=E) (by omega) (by omega);rw [<-S0];exact h0
  have acV:=(gm.1 vh).1;have qO:=fun(s:aO) (xs:ai)=>Ns (t1:=34) (t2:=2) (A:=dK) (n:=N) (c:=N) (rs:=dB) (xss:=mw B E) (ks:=KK) (q:=bD A4 i AR N cR dK N N) (i:=E) s xs (by omega) (by omega)
  refine aA O (aU lk O (bh lk O (ar O (aD jP.top.2 O (bW jP.top O (aQ (aja (2+E) hS vh (by omega)) O ?_))))));rintro _ fg ⟨rfl,bG⟩;have xr:((bD A4 i AR N cR dK N N::(aL 34 2 dK N N dB (mw B E)++KK)).set (2+E) (ax 2 (rg dB E).a (rg dB E).n (rg dB E).c (nO (gl B E))))[2+E]?=some (ax 2 (rg dB E).a (rg dB E).n (rg dB E).c (nO (gl B E))):=by
   rw [mI,aB rfl,aB acV]
  have e7:=qO ⟨(rg dB E).a,(rg dB E).n,(rg dB E).c⟩ (nO (gl B E));have oe:ml fg dK N dB:=by
   have h8:=bG;rw [e7]at h8;exact h8.fG 1 O
  have z7:Rd fg A4 3 (fun q=> [Value.int .i64 (i:Int),.slice AR N cR,.slice dK N N].getD q undef):=by
   have h8:=bG;rw [e7]at h8;exact h8.rd 0 O
  refine aC O ?_;refine kB [8,10] [yP (ay A4 2),yS (dK) (N) (N),yI ((E:Int)),yP (ay (A4) 2),yS (dK) (N) (N),yI ((E:Int)),yP (ay (dK) ((E:Int)).toNat),yS ((rg (dB) ((E:Int))).a) ((rg (dB) ((E:Int))).n) ((rg (dB) ((E:Int))).c),.pr (fun v w'=>v= .slice (rg dB E).a (lF (nO (gl B E))).length (rg dB E).c/\St w w' (bD A4 i AR N cR dK N N::(bZ 34 dK N N dB::(cK 2 (dB.set E ⟨(rg dB E).a,(lF (nO (gl B E))).length,(rg dB E).c⟩) ((mw B E).set E (lF (nO (gl B E))))++KK)))),yP (ay dK ((E:Int)).toNat),.pr (fun _ w'=>St w w' (bD A4 i AR N cR dK N N::(aL 34 2 dK N N (dB.set E ⟨(rg dB E).a,(lF (nO (gl B E))).length,(rg dB E).c⟩) ((mw B E).set E (lF (nO (gl B E))))++KK)))] (ly (ly (ly (ly (ly (ly (ly (ly (de.2 ⟨Ye.dp (fun v w w' h hb=> ⟨h.1,h.2.aq hb⟩),(ly (de.2 ⟨Ye.dp (fun v w w' h hb=>h.aq hb),(fun _ h=>by cases h)⟩))⟩))))))))) ?_ ?_
  ·refine⟨?_,?_,bT O,cP fun _ _ hb _ _ _=>aU (z7.below hb) O (bE O O),cP fun _ _ hb _ _ _=>bh (z7.below hb) O (bE O O),bT O,cP fun _ _ hb _ _ _=>aD (oe.aq hb).2 O (bE O O),cP fun _ _ hb _ _ _=>bW (oe.aq hb) O (bE O O),?_,?_,?_,au⟩
   ·intro e1 w1 cc eZ dt fQ hp aW hq;show ao _ _ _ _ _ _ _;have hX:Rd w1 A4 3 (fun q=> [Value.int .i64 (i:Int),.slice AR N cR,.slice dK N N].getD q undef):=by { have dt:=qn dt (b:=1) (by kernel_rfl);rcases(show cc=0\/cc=1 by omega)with h | h; { exact Rd.below z7 (fQ h) }; { subst h;obtain⟨_,hT⟩:=hq 8 _ _ (by kernel_rfl) (by kernel_rfl) (by kernel_rfl) rfl rfl (by kernel_rfl);exact hT.rd 0 rfl } }
    refine aU hX O (ao.n (iN O (by exact O)))
   ·intro e1 w1 cc eZ dt fQ hp aW hq;show ao _ _ _ _ _ _ _;have hX:Rd w1 A4 3 (fun q=> [Value.int .i64 (i:Int),.slice AR N cR,.slice dK N N].getD q undef):=by { have dt:=qn dt (b:=1) (by kernel_rfl);rcases(show cc=0\/cc=1 by omega)with h | h; { exact Rd.below z7 (fQ h) }; { subst h;obtain⟨_,hT⟩:=hq 8 _ _ (by kernel_rfl) (by kernel_rfl) (by kernel_rfl) rfl rfl (by kernel_rfl);exact hT.rd 0 rfl } }
    refine bh hX O (ao.n (iN O (by exact O)))
   ·refine kG fun e1 w1 hb hp aW hq=>?_
    refine aQ (YY (2+E) (bG.aq hb) xr (by omega)) O ?_;rintro _ w9 ⟨rfl,b6⟩;rw [List.set_set,qO ⟨(rg dB E).a,(lF (nO (gl B E))).length,(rg dB E).c⟩ (lF (nO (gl B E)))]at b6;exact ao.n (fY.dn O ⟨O,b6⟩)
   ·intro e1 w1 cc eZ dt fQ hp aW hq;show ao _ _ _ _ _ _ _;have hX:ml w1 dK N dB:=by { have dt:=qn dt (b:=1) (by kernel_rfl);rcases(show cc=0\/cc=1 by omega)with h | h; { exact oe.aq (fQ h) }; { subst h;obtain⟨_,hT⟩:=hq 8 _ _ (by kernel_rfl) (by kernel_rfl) (by kernel_rfl) rfl rfl (by kernel_rfl);exact hT.fG 1 rfl } }
    refine aD hX.2 O (ao.n (iN O (by exact O)))
   refine rU 1 fun e1 w1 hp aW hq=>?_
   have eN:=hp 8 _ _ (by kernel_rfl) O O (by kernel_rfl);obtain⟨h88,hT⟩:=eN;refine D7 (te:=34) (n:=N) (c:=N) (A:=dK) (xs:=dB) 1 hT O O (by exact h88) (by omega) ?_;intro wY hY;exact ao.n (fY.st O hY)
  intro u gj _ hu _ _;have hT:=hu 10 _ O (by kernel_rfl);have hT:St w gj (bD A4 i AR N cR dK N N::(aL 34 2 dK N N (dB.set E ⟨(rg dB E).a,(lF (nO (gl B E))).length,(rg dB E).c⟩) ((mw B E).set E (cs (gl B E)))++KK)):=hT;rw [oW]at hT;refine jW O (aH O (aT O (tQ ?_)));exact⟨(E+1,_),by show N - (E+1)<N - E;omega,(amz O),by show E+1<=N;omega,by simp [uw],hT⟩
 have se:E=N:=by omega
 have eJ:mw B E=bR M:=by
  rw [se,<-sd,agu];apply ki
  ·rw [fO,uY,sd,mO]
  intro k h1 h2;rw [fO]at h1;have e1:=EU k (by omega);rw [b7 h1,b7 h2]at e1;rw [List.getElem_map];exact e1
 rw [eJ]at hS;refine bn O (bo (cL O ?_));refine ao.dq 2 (hS.rd 0 O) O O O ?_;have aE:St w dZ (bD A2 0 none 0 0 none 0 0::(ax 2 AR N cR (bK M i)::(aL 34 2 dK N N dB (bR M)++ []))):=by
  have hs:(aL 34 2 dK N N dB (bR M)++ [ax 2 AR N cR (bK M i),bD A2 0 none 0 0 none 0 0]).Sublist (bD A4 i AR N cR dK N N::(aL 34 2 dK N N dB (bR M)++KK)):=by
   rw [sf];exact List.Sublist.cons _ (List.Sublist.append_left (List.Sublist.cons_cons _ (List.Sublist.cons_cons _ (List.nil_sublist _))) _)
  refine(hS.sub hs).perm ?_;rw [fj];exact(nT).trans (List.Perm.swap _ _ _)
 refine bO 3 0 aE O O O O O O O fun fg dG=>bI O (kb O (dG.rd 0 O) O ?_);refine .inr ⟨by omega,AR,cR,dK,N,dB,?_,by rw [mO];exact uw,?_⟩
 ·rw [mO,gJ];rfl
 rw [mO,gJ];exact dG.tail
theorem zY{M:ah}(hM:vR M){i f:Nat}(hf:f< (gl M 0).length):(aS M i:Int)<=cS M i f/\cS M i f< (aS M (i+1):Int):=by
 have h1:=G6 hM i f hf;unfold cS;show _/\_< ((aS M i+ (iS M i).toNat:Nat):Int);omega
theorem aho{α:Type}(x a b c d e f g:α)(X Y:List α):(x::a::b::c::d::e::f::g::(X++Y)).Perm (a::b::c::d::e::f::g::((X++ [x])++Y)):=by
 classical
 refine jA.2 fun z=>?_
 simp only [lu,jz,kC];omega
theorem ahp{α:Type}(x a b c d e f g:α)(X Y:List α):(x::a::b::c::d::e::f::g::(X++Y)).Perm (a::b::c::d::e::f::g::(X++ (Y++ [x]))):=by
 classical
 refine jA.2 fun z=>?_
 simp only [lu,jz,kC];omega
theorem ahq{α:Type}(a b c d e f g:α)(X Y:List α):(a::b::c::d::e::f::g::(X++Y)).Perm (a::((f::X)++ (b::c::d::e::((g::Y)++ [])))):=by
 classical
 refine jA.2 fun z=>?_
 simp only [lu,jz,kC];omega
def my(M:ah)(i:Nat):ai:=(List.range i).map fun k=> (aS M k:Int)
def o3(M:ah)(i:Nat):ah:=(List.range i).map (eG M)
theorem ahd(M:ah)(i:Nat):my M (i+1)=my M i++ [(aS M i:Int)]:=by simp [my,jB]
theorem afz(M:ah)(i:Nat):o3 M (i+1)=o3 M i++ [eG M i]:=by simp [o3,jB]
theorem US{M:ah}{i k:Nat}(h:k<i):gi (my M i) k=(aS M k:Int):=by
 rw [b9 (by simp [my];exact h)];simp [my]
theorem Ue{M:ah}{i k:Nat}(h:k<i):gl (o3 M i) k=eG M k:=by
 rw [b7 (by simp [o3];exact h)];simp [o3]
theorem M8(M:ah)(i:Nat):(o3 M i).length=i:=by simp [o3]
def sT(M:ah)(i f k:Nat)(G:List Bool):Prop:=G.length=aS M M.length*aS M M.length/\∀e d:Nat,e<aS M M.length->d<aS M M.length->(gb G ((e*aS M M.length+d:Nat):Int)=true↔∃f' k',(f'<f\/f'=f/\k'<k)/\f'< (gl M 0).length/\k'<i/\cS M i f'=e/\cS M k' f'=d)
theorem ahl{N e d e' d':Nat}(h1:d<N)(h2:d'<N)(h:e*N+d=e'*N+d'):e=e'/\d=d':=by
 have h3:(e*N+d) / N=e:=by rw [Nat.add_comm,Nat.add_mul_div_right _ _ (by omega),Nat.div_eq_of_lt h1,Nat.zero_add]
 have h4:(e'*N+d') / N=e':=by rw [Nat.add_comm,Nat.add_mul_div_right _ _ (by omega),Nat.div_eq_of_lt h2,Nat.zero_add]
 have h5:e=e':=by rw [<-h3,h,h4]
 subst h5;exact⟨O,by omega⟩
theorem NM{N e d:Nat}(h1:e<N)(h2:d<N):e*N+d<N*N:=by
 have:(e+1)*N<=N*N:=Nat.mul_le_mul_right N h1;rw [Nat.succ_mul]at this;omega
theorem sT.zero(M:ah)(i:Nat):sT M i 0 0 (List.replicate (aS M M.length*aS M M.length) false):=by
 refine⟨by simp,fun e d he hd=>?_⟩;have:gb (List.replicate (aS M M.length*aS M M.length) false) ((e*aS M M.length+d:Nat):Int)=false:=by
  simp only [gb,jc,da,List.getElem?_replicate]
  split<;>rfl
 rw [this];constructor
 ·intro h;cases h
 rintro⟨f',k',h,_⟩;omega
theorem sT.next{M:ah}(hM:vR M){i f k:Nat}{G:List Bool}(h:sT M i f k G)(hf:f< (gl M 0).length)(hi:i<M.length)(hk:k<i):sT M i f (k+1) (G.set ((cS M i f).toNat*aS M M.length+ (cS M k f).toNat) true):=by
 have h1:=zY hM (i:=i) hf;have h2:=zY hM (i:=k) hf;have h3:=ow M (show i+1<=M.length by omega);have h4:=ow M (show k+1<=M.length by omega);refine⟨by rw [lT];exact h.1,fun e d he hd=>?_⟩;have hl:=NM (e:=(cS M i f).toNat) (d:=(cS M k f).toNat) (N:=aS M M.length) (by omega) (by omega);have hg:gb (G.set ((cS M i f).toNat*aS M M.length+ (cS M k f).toNat) true) ((e*aS M M.length+d:Nat):Int)=if(cS M i f).toNat*aS M M.length+ (cS M k f).toNat=e*aS M M.length+d then true else gb G ((e*aS M M.length+d:Nat):Int):=by
  simp only [gb,jc,da,mI]
  by_cases e1:(cS M i f).toNat*aS M M.length+ (cS M k f).toNat=e*aS M M.length+d
  ·rw [aB e1,aB (by rw [h.1];exact hl),aB e1];rfl
  rw [az e1,az e1]
 rw [hg]
 by_cases e1:(cS M i f).toNat*aS M M.length+ (cS M k f).toNat=e*aS M M.length+d
 ·rw [aB e1];have:=ahl (by omega) hd e1;exact⟨fun _=> ⟨f,k,.inr ⟨O,by omega⟩,hf,hk,by omega,by omega⟩,fun _=>O⟩
 rw [az e1,h.2 e d he hd];constructor
 ·rintro⟨f',k',q,r⟩;exact⟨f',k',by omega,r⟩
 rintro⟨f',k',q,r1,r2,r3,r4⟩;refine⟨f',k',?_,r1,r2,r3,r4⟩
 by_cases e2:f'=f/\k'=k
 ·obtain⟨rfl,rfl⟩:=e2;exact absurd (by rw [r3,r4];rfl) e1
 omega
theorem sT.row{M:ah}{i f:Nat}{G:List Bool}(h:sT M i f i G):sT M i (f+1) 0 G:=by
 refine⟨h.1,fun e d he hd=>?_⟩;rw [h.2 e d he hd];constructor
 ·rintro⟨f',k',q,r⟩;exact⟨f',k',by omega,r⟩
 rintro⟨f',k',q,r1,r2,r3⟩;exact⟨f',k',by omega,r1,r2,r3⟩
theorem sT.done{M:ah}(hM:vR M){i:Nat}{G:List Bool}(h:sT M i (gl M 0).length 0 G)(hi:i<M.length){e d:Nat}(he:e<aS M M.length)(hd:d<aS M M.length):gb G ((e*aS M M.length+d:Nat):Int)=true↔((aS M i<=e/\e<aS M (i+1))/\(d:Int)∈gl (bR M) e):=by
 rw [h.2 e d he hd,qI (by omega) (by omega)];constructor
 ·rintro⟨f',k',_,r1,r2,r3,r4⟩;have:=zY hM (i:=i) r1;exact⟨by omega,by omega,f',r1,i,hi,k',r2,r3.symm,r4.symm⟩
 rintro⟨h1,_,f',r1,i',di,k',r2,r3,r4⟩;have h5:=zY hM (i:=i') r1;have:i'=i:=by
  rcases Nat.lt_trichotomy i' i with h | h | h
  ·have:=ow M (show i'+1<=i by omega);omega
  ·exact h
  have:=ow M (show i+1<=i' by omega);omega
 subst this;exact⟨f',k',by omega,r1,r2,r3.symm,r4.symm⟩
noncomputable def tU(M:ah)(i e d x:Nat):ai:=if x<aS M i then gl (bR M) x else if aS M (i+1)<=x then []else if x<e then gl (bR M) x else if x=e then(gl (bR M) x).filter fun y=>decide (y<d)else []
noncomputable def gu(M:ah)(i e d:Nat):ah:=(List.range (aS M M.length)).map (tU M i e d)
theorem yo(M:ah)(i e d:Nat):(gu M i e d).length=aS M M.length:=by simp [gu]
theorem Py{M:ah}{i e d x:Nat}(h:x<aS M M.length):gl (gu M i e d) x=tU M i e d x:=by
 rw [b7 (by rw [yo];exact h)];simp [gu]
theorem Z4{M:ah}{e:Nat}(he:e<aS M M.length):gl (bR M) e=(gl (bR M) e).filter (fun y=>decide (y< (aS M M.length:Int))):=by
 refine(List.filter_eq_self.2 fun y hy=>?_).symm;rw [qI (by omega) (by omega)]at hy;exact dM hy.1.2
theorem Q4(M:ah)(e:Int):SA (gl (bR M) e):=by
 have eJ:∀l∈bR M,SA l:=fun l hl=>by
  unfold bR at hl;obtain⟨x,_,rfl⟩:=dA.1 hl;exact pc _ (mf _)
 by_cases h:e.toNat< (bR M).length
 ·have:gl (bR M) e=gl (bR M) (e.toNat:Int):=by simp only [gl,jc]
  rw [this,b7 h];exact eJ _ (dQ _)
 have:gl (bR M) e=[]:=by simp [gl,da,mh (Nat.le_of_not_lt h)]
 rw [this];exact List.Pairwise.nil
theorem Z5{M:ah}(hM:vR M){e:Nat}(he:e<aS M 1):gl (bR M) e=[]:=by
 have h5:=hM.1;have uk:=ow M (show 1<=M.length by omega);refine List.eq_nil_iff_forall_not_mem.2 fun y hy=>?_
 rw [qI (by omega) (by omega)]at hy;obtain⟨_,f,hf,i,hi,k,hk,h1,_⟩:=hy;have h2:=zY hM (i:=i) hf;have h3:=ow M (show 1<=i by omega);omega
theorem Yi{M:ah}(hM:vR M):gu M 1 0 0=List.replicate (aS M M.length) []:=by
 apply ki (by simp [gu]);intro x h1 h2;rw [yo]at h1;simp only [gu,List.getElem_map,List.getElem_range,List.getElem_replicate];unfold tU
 split
 ·exact Z5 hM (by assumption)
 split
 ·rfl
 split
 ·omega
 split
 ·rename_i h;subst h;rw [List.filter_eq_nil_iff];intro y hy h;have:=tB h;rw [qI (by omega) (by omega)]at hy;omega
 rfl
theorem Yh{M:ah}{i:Nat}:gu M i (aS M M.length) 0=gu M (i+1) 0 0:=by
 unfold gu;refine rN fun x hx=>?_
 have hx:=il.1 hx;have h1:=ow M (show i+1<=i+1+1 by omega);have h2:=ow M (show i<=i+1 by omega);have hz:∀y∈gl (bR M) x,0<=y:=fun y hy=>by rw [qI (by omega) (by omega)]at hy;omega
 unfold tU
 by_cases c1:x<aS M i
 ·rw [aB c1,aB (by omega)]
 rw [az c1]
 by_cases c2:x<aS M (i+1)
 ·rw [az (by omega),aB hx,aB c2]
 rw [aB (by omega),az c2]
 split
 ·rfl
 rw [az (by omega)]
 split
 ·rename_i h;subst h;symm;rw [List.filter_eq_nil_iff];intro y hy h;have:=tB h;have:=hz y hy;omega
 rfl
theorem Yk{M:ah}{i e:Nat}:gu M i e (aS M M.length)=gu M i (e+1) 0:=by
 unfold gu;refine rN fun x hx=>?_
 have hx:=il.1 hx;have hz:∀y∈gl (bR M) x,0<=y:=fun y hy=>by rw [qI (by omega) (by omega)]at hy;omega
 unfold tU
 by_cases c1:x<aS M i
 ·rw [aB c1,aB c1]
 rw [az c1,az c1]
 by_cases c2:aS M (i+1)<=x
 ·rw [aB c2,aB c2]
 rw [az c2,az c2]
 by_cases c3:x<e
 ·rw [aB c3,aB (by omega)]
 rw [az c3]
 by_cases c4:x=e
 ·rw [aB c4,aB (by omega),<-Z4 hx]
 rw [az c4,az (by omega)]
 split
 ·rename_i h;subst h;symm;rw [List.filter_eq_nil_iff];intro y hy h;have:=tB h;have:=hz y hy;omega
 rfl
theorem Yl{M:ah}{i e d:Nat}(he:e<aS M M.length)(hd:d<aS M M.length)(h:¬((aS M i<=e/\e<aS M (i+1))/\(d:Int)∈gl (bR M) e)):gu M i e (d+1)=gu M i e d:=by
 unfold gu;refine rN fun x hx=>?_
 unfold tU
 by_cases c1:x<aS M i
 ·rw [aB c1,aB c1]
 rw [az c1,az c1]
 by_cases c2:aS M (i+1)<=x
 ·rw [aB c2,aB c2]
 rw [az c2,az c2]
 by_cases c3:x<e
 ·rw [aB c3,aB c3]
 rw [az c3,az c3]
 by_cases c4:x=e
 ·subst c4;rw [aB rfl,aB rfl];refine List.filter_congr fun y hy=>?_
  have bU:y≠(d:Int):=fun e=>h ⟨by omega,e▸hy⟩
  exact kk.2 (by omega)
 rw [az c4,az c4]
theorem Yj{M:ah}{i e d:Nat}(he:e<aS M M.length)(h:(aS M i<=e/\e<aS M (i+1))/\(d:Int)∈gl (bR M) e):(gu M i e d).set e (gl (gu M i e d) e++ [(d:Int)])=gu M i e (d+1):=by
 apply ki (by simp [gu]);intro x h1 h2;rw [yo]at h2;rw [List.getElem_set];have e2:∀d' (hx:x< (gu M i e d').length),(gu M i e d')[x]=tU M i e d' x:=fun d' hx=>by simp [gu]
 rw [e2 (d+1) (by rw [yo];exact h2),e2 d (by rw [yo];exact h2)]
 by_cases c:e=x
 ·subst c;rw [aB rfl,Py he];have hz:∀d':Nat,tU M i e d' e=(gl (bR M) e).filter fun y=>decide (y< (d':Int)):=fun d'=>by
   unfold tU;rw [az (by omega),az (by omega),az (by omega),aB rfl]
  rw [hz,hz];have hs:=Q4 M e;refine SA.eq ?_ (pc _ hs) fun y=>?_
  ·rw [SA,List.pairwise_append];refine⟨pc _ hs,List.pairwise_singleton _ _,fun a ha b hb=>?_⟩;obtain rfl:=gG.1 hb;exact tB (gg.1 ha).2
  rw [kj,gg,gg,gG];simp only [lg];constructor
  ·rintro(⟨h3,h4⟩ | rfl)
   ·exact⟨h3,by omega⟩
   exact⟨h.2,by omega⟩
  rintro⟨h3,h4⟩
  by_cases e3:y=(d:Int)
  ·exact .inr e3
  exact .inl ⟨h3,by omega⟩
 rw [az c];unfold tU
 by_cases c1:x<aS M i
 ·rw [aB c1,aB c1]
 rw [az c1,az c1]
 by_cases c2:aS M (i+1)<=x
 ·rw [aB c2,aB c2]
 rw [az c2,az c2]
 by_cases c3:x<e
 ·rw [aB c3,aB c3]
 rw [az c3,az c3,az (fun h=>c h.symm),az (fun h=>c h.symm)]
theorem Yg{M:ah}:gu M M.length 0 0=bR M:=by
 apply ki (by rw [yo,uY]);intro x h1 h2;rw [yo]at h1;simp only [gu,List.getElem_map,List.getElem_range];unfold tU;rw [aB h1,b7 h2]
theorem ahr{α:Type}(x y p r i q b:α):[x,y,p,r,i,q,b].Perm [p,x,i,q,b,y,r]:=by
 classical
 refine jA.2 fun z=>?_
 simp only [jz,kC];omega
theorem o9{t:ae}{rs:List aO}{xss:ah}{a:aj}{n c:Nat}{x:ai}(h:rs.length=xss.length):cK t (rs++ [⟨a,n,c⟩]) (xss++ [x])=cK t rs xss++ [ax t a n c x]:=by
 rw [DE h];rfl
abbrev x6(A1 A2 A4 A5 A6:aj)(A:aj)(n c:Nat)(M:ah)(i j i':Nat)(AR:aj)(cR:Nat)(AD:aj)(cD:Nat)(dv:List aO)(c5 c6:Nat)(gQ:List aO):List Ck:=
 bD A4 n AR (aS M i+j) cR AD (aS M i+j) cD::ax 2 AR (aS M i+j) cR (bK M i++List.replicate j (i:Int))::ax 2 A5 i' c5 (my M i')::bD A2 0 none 0 0 none 0 0::Bx 24 1 A1 [.slice A n c]::bZ 34 AD (aS M i+j) cD dv::bZ 34 A6 i' c6 gQ::(cK 2 dv (List.replicate (aS M i+j) [])++cK 2 gQ (o3 M i'))
theorem Uw{t1 t2:ae}{A:aj}{n c:Nat}{rs:List aO}{xss:ah}{pre ks:List Ck}{i:Nat}(s:aO)(xs:ai)(hr:rs.length=xss.length)(hi:i<rs.length):(pre++ (aL t1 t2 A n c rs xss++ks)).set (pre.length+1+i) (ax t2 s.a s.n s.c xs)=pre++ (bZ t1 A n c rs::(cK t2 (rs.set i s) (xss.set i xs)++ks)):=by
 rw [List.set_append_right _ _ (by omega),show pre.length+1+i - pre.length=i+1 by omega]
 congr 1
 show(bZ t1 A n c rs::(cK t2 rs xss++ks)).set (i+1) _=_;rw [List.set_cons_succ,List.set_append_left _ _ (by rw [zx hr];exact hi),N8 hr]
abbrev pH(A1 A2 A5 A6:aj)(A:aj)(n c:Nat)(M:ah)(AR:aj)(N cR c5 c6:Nat)(gQ:List aO):List Ck:=
 ax 2 AR N cR (bK M n)::ax 2 A5 n c5 (my M n)::bD A2 0 none 0 0 none 0 0::Bx 24 1 A1 [.slice A n c]::(aL 34 2 A6 n c6 gQ (o3 M n)++ [])
theorem afo(A:aj)(n c:Nat)(rs:List aO)(M:ah)(w:aa)(hR:bF w A n rs M)(hM:vR M):
 aK prog 101 [.agg #[.slice A n c]] w (fun v w'=>∃AR cR AD cD dv,v= .agg #[ak (M.length:Int),.slice AR (aS M M.length) cR,.slice AD (aS M M.length) cD]/\dv.length=aS M M.length/\St w w' (ax 2 AR (aS M M.length) cR (bK M M.length)::(aL 34 2 AD (aS M M.length) cD dv (bR M)++ []))):=by
 have hl:=hR.len;have h1:=hM.1;have h2:=hM.2.1;have yZ:∀i,i<=n->aS M i<=2000:=fun i hi=>by
  have h3:=IZ (M:=M) i;have h4:i* (gl M 0).length<=5*400:=Nat.mul_le_mul (by omega) (by omega);omega
 refine bA func101 O ntmps101 O (qp O O) (bg O (lB (St.refl w) O O ?_));intro A1 w1 aI;refine nj aI O fun A2 w2 aE=>ar O (aU (aE.rd 1 O) O (bh (aE.rd 1 O) O ?_));refine bc O O (ar O ?_);refine Gj (by exact inferInstance) (by exact inferInstance) (by exact inferInstance) O O O O O O (jn aE O ?_);intro A5 w3 aR;refine jn aR O fun A6 w4 aX=>nj aX O fun A4 w5 aY=>bO 3 0 aY O O O O O O O ?_;intro w6 bk;have bk:St w w6 (x6 A1 A2 A4 A5 A6 A n c M 0 0 0 none 0 none 0 [] 0 0 []):=by
  have h7:=(bk.nil 34).nil 2;exact h7.perm (ahr _ _ _ _ _ _ _)
 clear aY aX aR aE aI;refine aC O ?_;refine Cd.loop (α:=Nat×(aj×Nat)×(aj×Nat×List aO)×(aj×Nat)×(aj×Nat×List aO)) (fun z=> [(1,.pointer A1),(2,.pointer A2),(3,ak n),(4,.pointer A4),(5,.slice z.2.2.2.1.1 z.1 z.2.2.2.1.2),(6,.slice z.2.2.2.2.1 z.1 z.2.2.2.2.2.1),(7,ak (z.1:Int))])
  (fun z w'=>z.1<=n/\z.2.2.1.2.2.length=aS M z.1/\z.2.2.2.2.2.2.length=z.1/\St w w' (x6 A1 A2 A4 z.2.2.2.1.1 z.2.2.2.2.1 A n c M z.1 0 z.1 z.2.1.1 z.2.1.2 z.2.2.1.1 z.2.2.1.2.1 z.2.2.1.2.2 z.2.2.2.1.2 z.2.2.2.2.2.1 z.2.2.2.2.2.2)) (fun z=>n - z.1) (0,(none,0),(none,0,[]),(A5,0),(A6,0,[])) ⟨rfl,rfl,rfl,rfl,rfl,rfl,rfl,au⟩ ⟨aZ _,rfl,rfl,bk⟩ ?_
 clear bk;rintro⟨i,⟨AR,cR⟩,⟨AD,cD,dv⟩,⟨A5,c5⟩,⟨A6,c6,gQ⟩⟩ e w7 ⟨hi,l8,Fc,hS⟩;dsimp only at hi l8 Fc hS|-;have wh:=yZ i hi;refine bJ O (aM _ O (fun h3=>?_) (fun h3=>?_))
 ·have du:i<n:=by omega
  have lp:=CD M i;have sC:=yZ (i+1) (by omega);have AU:aS M (i+1)=aS M i+ (iS M i).toNat:=O;obtain⟨N,hN⟩:∃N:Nat,iS M i=N:=⟨(iS M i).toNat,by omega⟩;rw [hN,jc]at AU;have SI:=ZN hM i;rw [hN]at SI lp;have oQ:bK M (i+1)=bK M i++List.replicate N (i:Int):=by rw [bK,hN,jc]
  refine aA O (aU (hS.rd 0 O) O (bh (hS.rd 0 O) O (bc O O (eS hS O O O ?_))));intro OB w8 b6;refine fk 3 b6 O (b6.bz 0 O) O O O ?_;intro wL wT w9 bL;have bL:=bL.tail;have e5:my M i++ [((aS M i+0:Nat):Int)]=my M (i+1):=(ahd M i).symm;rw [e5]at bL;clear b6 hS;refine ar O (ao.dq 0 (bL.rd 4 O) O O O (ar O (aQ (afg A n c rs M i _ (bL.cT hR) hM du) O ?_)));rintro _ dV ⟨rF,s7,rfl,aw⟩;have bN:=bL.call aw;clear aw bL;refine kV bN O O O fun dK dZ eA=>lA 8 eA O (eA.fG 0 O) O O O (by omega) (by omega) O ?_;intro vG wU fg dG;have dG:St w fg (ax 2 rF (gl M 0).length s7 (eG M i)::bD A4 n AR (aS M i+0) cR AD (aS M i+0) cD::ax 2 AR (aS M i+0) cR (bK M i++List.replicate 0 (i:Int))::ax 2 wL (i+1) wT (my M (i+1))::bD A2 0 none 0 0 none 0 0::Bx 24 1 A1 [.slice A n c]::bZ 34 AD (aS M i+0) cD dv::bZ 34 vG (i+1) wU (gQ++ [⟨rF,(gl M 0).length,s7⟩])::(cK 2 dv (List.replicate (aS M i+0) [])++cK 2 gQ (o3 M i))):=dG.tail;have dG:St w fg (x6 A1 A2 A4 wL vG A n c M i 0 (i+1) AR cR AD cD dv wT wU (gQ++ [⟨rF,(gl M 0).length,s7⟩])):=by
   have h9:=dG.perm (ahp _ _ _ _ _ _ _ _ _ _);rw [<-o9 (by rw [Fc,M8]),<-afz]at h9;exact h9
  have Ti:(gQ++ [(⟨rF,(gl M 0).length,s7⟩:aO)]).length=i+1:=by simp [Fc]
  have SC:rg (gQ++ [(⟨rF,(gl M 0).length,s7⟩:aO)]) i=⟨rF,(gl M 0).length,s7⟩:=by
   unfold rg;rw [jc,da,kD (by omega),Fc,Nat.sub_self];rfl
  clear bN eA;generalize gQ++ [(⟨rF,(gl M 0).length,s7⟩:aO)]=uH at*;have yJ:ml fg vG (i+1) uH:=dG.fG 6 O;have RD:cg fg rF (gl M 0).length (eG M i):=by
   have hk6:cK 2 uH (o3 M (i+1))≠[]\/True:= .inr au;have h7:=DF (t:=2) (rs:=uH) (xss:=o3 M (i+1)) (i:=i) (by rw [Ti,M8]) (by omega);have h8:=dG.sub (show(cK 2 uH (o3 M (i+1))).Sublist (x6 A1 A2 A4 wL vG A n c M i 0 (i+1) AR cR AD cD dv wT wU uH) from(((((((iQ _ _).cons _).cons _).cons _).cons _).cons _).cons _).cons _);have h9:=h8.bz i h7;have e8:uH.getD i dO=⟨rF,(gl M 0).length,s7⟩:=SC;have e9:(o3 M (i+1)).getD i []=eG M i:=Ue (show i<i+1 by omega);rw [e8,e9]at h9;exact h9
  refine ar O (aD yJ.2 O (bW yJ O ?_));rw [SC];refine amq (afh rF (gl M 0).length s7 (eG M i) _ RD (by omega) (fun x hx=>by
   obtain⟨k,hk,rfl⟩:=gF.1 hx;rw [G4]at hk;have:=G6 hM i k hk;rw [b9 (by rw [G4];exact hk)]at this;omega)) rfl rfl rfl ?_
  rintro _ fg ⟨rfl,rfl⟩;rw [SI];refine aC O ?_;clear yJ RD;refine Cd.loop (α:=Nat×(aj×Nat)×(aj×Nat×List aO)) (fun z=> [(1,.pointer A1),(2,.pointer A2),(3,ak n),(4,.pointer A4),(5,.slice wL (i+1) wT),(6,.slice vG (i+1) wU),(7,ak i),(8,ak ((N:Int) - (z.1:Int)))])
   (fun z w'=>z.1<=N/\z.2.2.2.2.length=aS M i+z.1/\St w w' (x6 A1 A2 A4 wL vG A n c M i z.1 (i+1) z.2.1.1 z.2.1.2 z.2.2.1 z.2.2.2.1 z.2.2.2.2 wT wU uH)) (fun z=>N - z.1) (0,(AR,cR),(AD,cD,dv)) ⟨rfl,rfl,rfl,rfl,rfl,rfl,rfl,aF (Value.int .i64) (by show(N:Int)=(N:Int) - ((0:Nat):Int);omega),au⟩ ⟨aZ _,l8,dG⟩ ?_
  clear dG;rintro⟨j,⟨BR,dR⟩,⟨BD,dD,qq⟩⟩ e gj ⟨hj,xD,hS⟩;dsimp only at hj xD hS|-;refine bJ O (aM _ O (fun h4=>?_) (fun h4=>?_))
  ·have yR:j<N:=by omega
   refine aA O (aU (hS.rd 0 O) O (bh (hS.rd 0 O) O (ar O (eS hS O O O ?_))));intro A52 lS iT;refine fk 2 iT O (iT.bz 0 O) O O O ?_;intro F9 GG rB im;have hB:=im.rd 1 O;refine aU hB O (kF 1 im O O O O O ?_);intro uK jY;have jY:=jY.tail;clear iT im hB hS;refine ar O ?_;have hB:=jY.rd 0 O;refine aU hB O (bh hB O (jn jY O ?_));intro DR pK gn;have gn:St w pK (ax 2 DR 0 0 []::_):=gn;refine kV gn O O O fun A58 yd jZ=>lA 7 jZ O (jZ.fG 0 O) O O O (by omega) (by omega) O ?_;intro Ga GH F4 oK;have hB:=oK.rd 2 O;refine aU hB O (kF 2 oK O O O O O ?_);intro wJ qM;have qM:St w wJ (ax 2 DR 0 0 []::bD A4 n F9 (aS M i+j+1) GG Ga (aS M i+j+1) GH::ax 2 F9 (aS M i+j+1) GG ((bK M i++List.replicate j (i:Int))++ [(i:Int)])::ax 2 wL (i+1) wT (my M (i+1))::bD A2 0 none 0 0 none 0 0::Bx 24 1 A1 [.slice A n c]::bZ 34 Ga (aS M i+j+1) GH (qq++ [⟨DR,0,0⟩])::bZ 34 vG (i+1) wU uH::(cK 2 qq (List.replicate (aS M i+j) [])++cK 2 uH (o3 M (i+1)))):=qM.tail;have abx:St w wJ (x6 A1 A2 A4 wL vG A n c M i (j+1) (i+1) F9 GG Ga GH (qq++ [⟨DR,0,0⟩]) wT wU uH):=by
    have h9:=qM.perm (aho _ _ _ _ _ _ _ _ _ _);rw [<-o9 (by rw [xD,List.length_replicate]),gx,<-List.replicate_succ',<-List.replicate_succ']at h9;exact h9
   refine ar O (eh O (aT O (tQ ?_)));exact⟨(j+1,(F9,GG),(Ga,GH,qq++ [⟨DR,0,0⟩])),by show N - (j+1)<N - j;omega,⟨O,O,O,O,O,O,O,aF (Value.int .i64) (by show(N:Int) - (j:Int) - 1=(N:Int) - ((j+1:Nat):Int);omega),au⟩,by show j+1<=N;omega,by show(qq++ [_]).length=aS M i+ (j+1);rw [b8,xD];rfl,abx⟩
  ·have yR:j=N:=by omega
   subst yR;refine bn O (bo (cL O (aH O (aT O (tQ ?_)))));refine⟨(i+1,(BR,dR),(BD,dD,qq),(wL,wT),(vG,wU,uH)),by show n - (i+1)<n - i;omega,(amz O),by show i+1<=n;omega,by rw [AU];exact xD,Ti,?_⟩;show St w gj (x6 A1 A2 A4 wL vG A n c M (i+1) 0 (i+1) BR dR BD dD qq wT wU uH);unfold x6 at hS|-;rw [<-AU,<-oQ]at hS;rw [Nat.add_zero,List.replicate_zero,fj];exact hS
 obtain rfl:i=n:=by omega
 have gJ:M.length=i:=hl;obtain⟨N,hK⟩:∃N,aS M i=N:=⟨_,rfl⟩;have mO:aS M M.length=N:=by rw [gJ,hK]
 have Bf:N*N<=4000000:=nU (Nat.mul_le_mul (show N<=2000 by omega) (show N<=2000 by omega)) (by decide);have RO:St w w7 (bD A4 i AR N cR AD N cD::(aL 34 2 AD N cD dv (gu M 1 0 0)++pH A1 A2 A5 A6 A i c M AR N cR c5 c6 gQ)):=by
  rw [Yi hM,mO];unfold x6 at hS;rw [Nat.add_zero,hK,List.replicate_zero,fj]at hS;exact hS.perm (ahq _ _ _ _ _ _ _ _ _)
 clear hS;rw [hK]at l8;refine bn O (bo (rI O ?_));refine Cd.loop (α:=Nat×List aO) (fun z=> [(1,.pointer A1),(2,.pointer A2),(3,ak i),(4,.pointer A4),(5,.slice A5 i c5),(6,.slice A6 i c6),(9,ak (z.1:Int))])
  (fun z w'=> (1<=z.1/\z.1<=i)/\z.2.length=N/\St w w' (bD A4 i AR N cR AD N cD::(aL 34 2 AD N cD z.2 (gu M z.1 0 0)++pH A1 A2 A5 A6 A i c M AR N cR c5 c6 gQ))) (fun z=>i - z.1) (1,dv) ⟨rfl,rfl,rfl,rfl,rfl,rfl,rfl,au⟩ ⟨⟨bs _,by show 1<=i;omega⟩,l8,RO⟩ ?_
 clear RO;rintro⟨k,qq⟩ e w8 ⟨⟨jG,fE⟩,xD,hS⟩;dsimp only at jG fE xD hS|-;refine bJ O (aM _ O (fun h4=>?_) (fun h4=>?_))
 ·have iM:k<i:=by omega
  refine aA O (aU (hS.rd 0 O) O (bh (hS.rd 0 O) O ?_));refine bc O O (ar O ?_);refine rQ O O O (by have:((N*N:Nat):Int)=(N:Int)* (N:Int):=Int.natCast_mul N N;omega) ?_;rw [show(N:Int)* (N:Int)=((N*N:Nat):Int) from(Int.natCast_mul N N).symm];refine yj (v:=false) (N*N) hS O O (by omega) fun cn w9 bL=>aC O ?_;refine Cd.loop (α:=Nat×List Bool) (fun z=> [(1,.pointer A1),(2,.pointer A2),(3,ak i),(4,.pointer A4),(5,.slice A5 i c5),(6,.slice A6 i c6),(9,ak k),(10,ak N),(11,.slice cn (N*N) (N*N)),(12,ak (z.1:Int))])
   (fun z w'=>z.1<=(gl M 0).length/\sT M k z.1 0 z.2/\St w w' (gw 4 cn (N*N) (N*N) z.2::bD A4 i AR N cR AD N cD::(aL 34 2 AD N cD qq (gu M k 0 0)++pH A1 A2 A5 A6 A i c M AR N cR c5 c6 gQ))) (fun z=> (gl M 0).length - z.1) (0,List.replicate (N*N) false) ⟨rfl,rfl,rfl,rfl,rfl,rfl,rfl,rfl,rfl,rfl,au⟩ ⟨aZ _,by have:=sT.zero M k;rwa [mO]at this,bL⟩ ?_
  clear bL hS;rintro⟨f,G⟩ e dV ⟨hf,hG,hS⟩;dsimp only at hf hG hS|-;have MB:∀(G:List Bool) (q:List aO) (B:ah),(pH A1 A2 A5 A6 A i c M AR N cR c5 c6 gQ).Sublist (gw 4 cn (N*N) (N*N) G::bD A4 i AR N cR AD N cD::(aL 34 2 AD N cD q B++pH A1 A2 A5 A6 A i c M AR N cR c5 c6 gQ)):=fun G q B=> ((iQ _ _).cons _).cons _
  have adW:(aL 34 2 A6 i c6 gQ (o3 M i)).Sublist (pH A1 A2 A5 A6 A i c M AR N cR c5 c6 gQ):=by
   refine List.Sublist.cons _ (List.Sublist.cons _ (List.Sublist.cons _ (List.Sublist.cons _ ?_)));rw [fj];exact kU _
  have Hn:=(hS.sub (MB _ _ _)).rd 3 O;refine bg O (ao.dq 0 Hn O O O (aQ (IL A i c rs M _ (hS.cT hR) (by omega)) O ?_));rintro _ dZ ⟨rfl,aw⟩;have hS:=hS.aq aw.below;clear aw Hn;refine aC O (aM _ O (fun h5=>?_) (fun h5=>?_))
  ·have tp:f< (gl M 0).length:=by omega
   refine dw O ?_;refine Cd.loop (α:=Nat×List Bool) (fun z=> [(1,.pointer A1),(2,.pointer A2),(3,ak i),(4,.pointer A4),(5,.slice A5 i c5),(6,.slice A6 i c6),(9,ak k),(10,ak N),(11,.slice cn (N*N) (N*N)),(12,ak f),(13,ak (z.1:Int))])
    (fun z w'=>z.1<=k/\sT M k f z.1 z.2/\St w w' (gw 4 cn (N*N) (N*N) z.2::bD A4 i AR N cR AD N cD::(aL 34 2 AD N cD qq (gu M k 0 0)++pH A1 A2 A5 A6 A i c M AR N cR c5 c6 gQ))) (fun z=>k - z.1) (0,G) ⟨rfl,rfl,rfl,rfl,rfl,rfl,rfl,rfl,rfl,rfl,rfl,au⟩ ⟨aZ _,hG,hS⟩ ?_
   clear hS hG;rintro⟨j,G⟩ e fg ⟨hj,hG,hS⟩;dsimp only at hj hG hS|-;refine bJ O (aM _ O (fun h6=>?_) (fun h6=>?_))
   ·have uj:j<k:=by omega
    have Ht:cg fg A5 i (my M i):=(hS.sub (MB _ _ _)).bz 1 O;have je:bF fg A6 i gQ (o3 M i):=(hS.sub (adW.trans (MB _ _ _))).oz (M8 M i);have js:=je.at_ (i:=(k:Int)) (by omega) (by omega);have Im:=je.at_ (i:=(j:Int)) (by omega) (by omega);rw [Ue (by omega)]at js Im;have hkn9:(rg gQ k).n=(gl M 0).length:=by rw [<-js.1,G4]
    have hjn9:(rg gQ j).n=(gl M 0).length:=by rw [<-Im.1,G4]
    have o1:=US (M:=M) (i:=i) (k:=k) (by omega);have o2:=US (M:=M) (i:=i) (k:=j) (by omega);have e1:=zY hM (i:=k) tp;have e2:=zY hM (i:=j) tp;have m1:=ow M (show k+1<=M.length by omega);have m2:=ow M (show j+1<=M.length by omega);rw [mO]at m1 m2;have f1:gi (my M i) k+gi (eG M k) f=cS M k f:=by rw [o1];rfl
    have f2:gi (my M i) j+gi (eG M j) f=cS M j f:=by rw [o2];rfl
    obtain⟨E,hE⟩:∃E:Nat,cS M k f=E:=⟨(cS M k f).toNat,by omega⟩;obtain⟨D,hD⟩:∃D:Nat,cS M j f=D:=⟨(cS M j f).toNat,by omega⟩;have iJ:=hG.next hM tp (by omega) uj;rw [hE,hD,mO,jc,jc]at iJ;rw [hE]at e1 f1;rw [hD]at e2 f2;have vn:=NM (N:=N) (e:=E) (d:=D) (by omega) (by omega);have se:((E*N:Nat):Int)=(E:Int)* (N:Int):=Int.natCast_mul E N;have hle:E*N<=N*N:=Nat.mul_le_mul_right N (by omega);have eZ:=G6 hM k f tp;have hlo2:=G6 hM j f tp;have C8:(E:Int)* (N:Int)+gi (my M i) j+gi (eG M j) f=((E*N+D:Nat):Int):=by omega
    refine dw O ?_;refine kB [29] [yS (cn) (N*N) (N*N),yS (A5) (i) (c5),yI ((k:Int)),yP (ay (A5) ((k:Int)).toNat),yI (gi (my M i) ((k:Int))),yS (A6) (i) (c6),yI ((k:Int)),yP (ay (A6) ((k:Int)).toNat),yS ((rg (gQ) ((k:Int))).a) ((rg (gQ) ((k:Int))).n) ((rg (gQ) ((k:Int))).c),yI ((f:Int)),yP (ay ((rg (gQ) ((k:Int))).a) ((f:Int)).toNat),yI (gi (eG M k) ((f:Int))),yI ((gi (my M i) ((k:Int)))+ (gi (eG M k) ((f:Int)))),yI ((N:Int)),yI ((E:Int)* (N:Int)),yS (A5) (i) (c5),yI ((j:Int)),yP (ay (A5) ((j:Int)).toNat),yI (gi (my M i) ((j:Int))),yI (((E:Int)* (N:Int))+ (gi (my M i) ((j:Int)))),yS (A6) (i) (c6),yI ((j:Int)),yP (ay (A6) ((j:Int)).toNat),yS ((rg (gQ) ((j:Int))).a) ((rg (gQ) ((j:Int))).n) ((rg (gQ) ((j:Int))).c),yI ((f:Int)),yP (ay ((rg (gQ) ((j:Int))).a) ((f:Int)).toNat),yI (gi (eG M j) ((f:Int))),yI ((((E:Int)* (N:Int))+ (gi (my M i) ((j:Int))))+ (gi (eG M j) ((f:Int)))),yP (ay (cn) ((((E:Int)* (N:Int))+ (gi (my M i) ((j:Int))))+ (gi (eG M j) ((f:Int)))).toNat),.pr (fun _ w'=>St w w' (gw 4 cn (N*N) (N*N) (G.set (E*N+D) true)::bD A4 i AR N cR AD N cD::(aL 34 2 AD N cD qq (gu M k 0 0)++pH A1 A2 A5 A6 A i c M AR N cR c5 c6 gQ)))] (ly (ly (ly (ly (ly (ly (ly (ly (ly (ly (ly (ly (ly (ly (ly (ly (ly (ly (ly (ly (ly (ly (ly (ly (ly (ly (ly (ly (ly (de.2 ⟨Ye.dp (fun v w w' h hb=>h.aq hb),(fun _ h=>by cases h)⟩)))))))))))))))))))))))))))))) ?_ ?_
    ·refine⟨bT O,bT O,bT O,cP fun _ _ hb _ _ _=>aD (Ht.aq hb).2 O (bE O O),cP fun _ _ hb _ _ _=>a8 (Ht.aq hb) O (bE O O),bT O,bT O,cP fun _ _ hb _ _ _=>aD (je.top.aq hb).2 O (bE O O),cP fun _ _ hb _ _ _=>bW (je.top.aq hb) O (bE O O),bT O,cP fun _ _ hb _ _ _=>aD (js.aq hb).2 O (bE O O),cP fun _ _ hb _ _ _=>a8 (js.aq hb) O (bE O O),aP fun _ _=>aH O (bE O O),bT O,aP fun _ _=>rQ (i:=(E:Int)) (j:=(N:Int)) (by exact aF (Value.int .i64) f1) O O (by omega) (bE O O),bT O,bT O,cP fun _ _ hb _ _ _=>aD (Ht.aq hb).2 O (bE O O),cP fun _ _ hb _ _ _=>a8 (Ht.aq hb) O (bE O O),aP fun _ _=>aH O (bE O O),bT O,bT O,cP fun _ _ hb _ _ _=>aD (je.top.aq hb).2 O (bE O O),cP fun _ _ hb _ _ _=>bW (je.top.aq hb) O (bE O O),bT O,cP fun _ _ hb _ _ _=>aD (Im.aq hb).2 O (bE O O),cP fun _ _ hb _ _ _=>a8 (Im.aq hb) O (bE O O),aP fun _ _=>aH O (bE O O),cP fun _ _ hb _ _ _=>aD ((hS.ji 0 O).aq hb).2 O (bE O O),?_,au⟩
     ·refine kG fun e1 w1 hb hp aW hq=>?_
      refine tT 0 (hS.aq hb) O O O (by omega) fun w6 bk=>ao.n ?_;exact fY.st O (by rw [C8,jc]at bk;exact bk)
    intro u gj _ hu _ _;have hT:=hu 29 _ O (by kernel_rfl);refine jW O (aH O (aT O (tQ ?_)));exact⟨(j+1,_),by show k - (j+1)<k - j;omega,(amz O),by show j+1<=k;omega,iJ,hT⟩
   ·have uj:j=k:=by omega
    subst uj;refine bn O (bo (cL O (aH O (aT O (tQ ?_)))));exact⟨(f+1,G),by show(gl M 0).length - (f+1)< (gl M 0).length - f;omega,(amz O),by show f+1<=(gl M 0).length;omega,hG.row,hS⟩
  ·have tp:f=(gl M 0).length:=by omega
   subst tp;have nA:=fun e d he hd=>hG.done hM (show k<M.length by omega) (e:=e) (d:=d) he hd
   rw [mO]at nA;have hGl:G.length=N*N:=by have:=hG.1;rwa [mO]at this
   refine bn O (bo (rI O ?_));refine Cd.loop (α:=Nat×List aO) (fun z=> [(1,.pointer A1),(2,.pointer A2),(3,ak i),(4,.pointer A4),(5,.slice A5 i c5),(6,.slice A6 i c6),(9,ak k),(10,ak N),(11,.slice cn (N*N) (N*N)),(14,ak (z.1:Int))])
    (fun z w'=>z.1<=N/\z.2.length=N/\St w w' (gw 4 cn (N*N) (N*N) G::bD A4 i AR N cR AD N cD::(aL 34 2 AD N cD z.2 (gu M k z.1 0)++pH A1 A2 A5 A6 A i c M AR N cR c5 c6 gQ))) (fun z=>N - z.1) (0,qq) ⟨rfl,rfl,rfl,rfl,rfl,rfl,rfl,rfl,rfl,rfl,au⟩ ⟨aZ _,xD,hS⟩ ?_
   clear hS xD hG h5;rintro⟨E,q3⟩ e fg ⟨hE,Fb,hS⟩;dsimp only at hE Fb hS|-;refine bJ O (aM _ O (fun h5=>?_) (fun h5=>?_))
   ·have se:E<N:=by omega
    have hEm:((E*N:Nat):Int)=(E:Int)* (N:Int):=Int.natCast_mul E N;have hEle:E*N<=N*N:=Nat.mul_le_mul_right N (by omega);refine dw O ?_;refine Cd.loop (α:=Nat×List aO) (fun z=> [(1,.pointer A1),(2,.pointer A2),(3,ak i),(4,.pointer A4),(5,.slice A5 i c5),(6,.slice A6 i c6),(9,ak k),(10,ak N),(11,.slice cn (N*N) (N*N)),(14,ak E),(15,ak (z.1:Int))])
     (fun z w'=>z.1<=N/\z.2.length=N/\St w w' (gw 4 cn (N*N) (N*N) G::bD A4 i AR N cR AD N cD::(aL 34 2 AD N cD z.2 (gu M k E z.1)++pH A1 A2 A5 A6 A i c M AR N cR c5 c6 gQ))) (fun z=>N - z.1) (0,q3) ⟨rfl,rfl,rfl,rfl,rfl,rfl,rfl,rfl,rfl,rfl,rfl,au⟩ ⟨aZ _,Fb,hS⟩ ?_
    clear hS Fb;rintro⟨D,q4⟩ e gj ⟨hD,Ij,hS⟩;dsimp only at hD Ij hS|-;refine bJ O (aM _ O (fun h6=>?_) (fun h6=>?_))
    ·have Hp:D<N:=by omega
     have vn:=NM (N:=N) (e:=E) (d:=D) se Hp;have mP:=yo M k E D;rw [mO]at mP;have Sv:=nA E D se Hp;have RA:uR gj cn (N*N) G:=hS.ji 0 O;have C8:(E:Int)* (N:Int)+ (D:Int)=((E*N+D:Nat):Int):=by omega
     refine aA O (rQ O O O (by omega) ?_);refine ar O (aH O ?_);refine aD RA.2 O (rP RA O (by omega) O O ?_);rw [C8];refine aC O ?_;generalize hgb:gb G ((E*N+D:Nat):Int)=b at*;cases b with
     | false => --dup 2
      have fF:=Yl (M:=M) (i:=k) (e:=E) (d:=D) (by omega) (by omega) (fun h=>by have:=Sv.2 h;cases this);refine Cd.fC O (aA O (aH O (aT O (tQ ?_))));exact⟨(D+1,q4),by show N - (D+1)<N - D;omega,(amz O),by show D+1<=N;omega,Ij,by rw [fF];exact hS⟩
     | true=>
      have uq:=Yj (M:=M) (i:=k) (e:=E) (d:=D) (by omega) (Sv.1 O);have jP:bF gj AD N q4 (gu M k E D):=by
       have h9:=hS.sub (show(aL 34 2 AD N cD q4 (gu M k E D)).Sublist _ from((ng _ _).cons _).cons _);exact h9.oz mP
      have xF:=(jP.at_ (i:=(E:Int)) (by omega) (by omega)).1;have oV:(rg q4 E).n<=N:=by
       rw [<-xF,Py (by omega)];have jQ:(gl (bR M) E).length<=N:=by
        refine sJ (Q4 M _).nodup fun x hx=>?_
        rw [qI (by omega) (by omega)]at hx;omega
       unfold tU
       split
       ·exact jQ
       ·split
        ·exact aZ _
        ·split
         ·exact jQ
         ·split
          ·exact nU (rL _ _) jQ
          ·exact aZ _
      have lk:Rd gj A4 3 (fun q=> [Value.int .i64 (i:Int),.slice AR N cR,.slice AD N cD].getD q undef):=hS.rd 1 O;have vh:∀A9:aj,(ax 2 A9 1 1 [(D:Int)]::(gw 4 cn (N*N) (N*N) G::bD A4 i AR N cR AD N cD::(aL 34 2 AD N cD q4 (gu M k E D)++pH A1 A2 A5 A6 A i c M AR N cR c5 c6 gQ)))[3+1+E]?=some (ax 2 (rg q4 E).a (rg q4 E).n (rg q4 E).c (gl (gu M k E D) E)):=fun A9=>Ds (t1:=34) (t2:=2) (A:=AD) (n:=N) (c:=cD) (rs:=q4) (xss:=gu M k E D) (pre:=[ax 2 A9 1 1 [(D:Int)],gw 4 cn (N*N) (N*N) G,bD A4 i AR N cR AD N cD]) (ks:=pH A1 A2 A5 A6 A i c M AR N cR c5 c6 gQ) (i:=E) (by omega) (by omega)
      have qO:=fun(A9:aj) (s:aO) (xs:ai)=>Uw (t1:=34) (t2:=2) (A:=AD) (n:=N) (c:=cD) (rs:=q4) (xss:=gu M k E D) (ks:=pH A1 A2 A5 A6 A i c M AR N cR c5 c6 gQ) (pre:=[ax 2 A9 1 1 [(D:Int)],gw 4 cn (N*N) (N*N) G,bD A4 i AR N cR AD N cD]) (i:=E) s xs (by omega) (by omega)
      refine Cd.gC O ?_;refine kB [10,12] [yP (ay A4 2),yS (AD) (N) (cD),yI ((E:Int)),yP (ay (A4) 2),yS (AD) (N) (cD),yI ((E:Int)),yP (ay (AD) ((E:Int)).toNat),yS ((rg (q4) ((E:Int))).a) ((rg (q4) ((E:Int))).n) ((rg (q4) ((E:Int))).c),yI ((D:Int)),.pr (fun v w'=>∃A9,v= .slice A9 1 1/\St w w' (ax 2 A9 1 1 [(D:Int)]::(gw 4 cn (N*N) (N*N) G::bD A4 i AR N cR AD N cD::(aL 34 2 AD N cD q4 (gu M k E D)++pH A1 A2 A5 A6 A i c M AR N cR c5 c6 gQ)))),.pr (fun v w'=>∃AZ cZ,v= .slice AZ ((rg q4 E).n+1) cZ/\St w w' (gw 4 cn (N*N) (N*N) G::bD A4 i AR N cR AD N cD::(bZ 34 AD N cD q4::(cK 2 (q4.set E ⟨AZ,(rg q4 E).n+1,cZ⟩) ((gu M k E D).set E (gl (gu M k E D) E++ [(D:Int)]))++pH A1 A2 A5 A6 A i c M AR N cR c5 c6 gQ)))),yP (ay AD ((E:Int)).toNat),.pr (fun _ w'=>∃AZ cZ,St w w' (gw 4 cn (N*N) (N*N) G::bD A4 i AR N cR AD N cD::(aL 34 2 AD N cD (q4.set E ⟨AZ,(rg q4 E).n+1,cZ⟩) ((gu M k E D).set E (gl (gu M k E D) E++ [(D:Int)]))++pH A1 A2 A5 A6 A i c M AR N cR c5 c6 gQ)))] (ly (ly (ly (ly (ly (ly (ly (ly (ly (de.2 ⟨Ye.dp (fun v w w' h hb=>by obtain⟨A9,hv,hT⟩:=h;exact⟨A9,hv,hT.aq hb⟩),(de.2 ⟨Ye.dp (fun v w w' h hb=>by obtain⟨AZ,cZ,hv,hT⟩:=h;exact⟨AZ,cZ,hv,hT.aq hb⟩),(ly (de.2 ⟨Ye.dp (fun v w w' h hb=>by obtain⟨AZ,cZ,hT⟩:=h;exact⟨AZ,cZ,hT.aq hb⟩),(fun _ h=>by cases h)⟩))⟩)⟩)))))))))) ?_ ?_
      ·refine⟨?_,?_,bT O,cP fun _ _ hb _ _ _=>aU (lk.below hb) O (bE O O),cP fun _ _ hb _ _ _=>bh (lk.below hb) O (bE O O),bT O,cP fun _ _ hb _ _ _=>aD (jP.top.aq hb).2 O (bE O O),cP fun _ _ hb _ _ _=>bW (jP.top.aq hb) O (bE O O),bT O,?_,?_,?_,?_,au⟩
       ·intro e1 w1 cc eZ dt fQ hp aW hq;show ao _ _ _ _ _ _ _;have hX:Rd w1 A4 3 (fun q=> [Value.int .i64 (i:Int),.slice AR N cR,.slice AD N cD].getD q undef):=by { have dt:=qn dt (b:=1) (by kernel_rfl);rcases(show cc=0\/cc=1 by omega)with h | h; { exact Rd.below lk (fQ h) }; { subst h;obtain⟨AZ,cZ,_,hT⟩:=hq 10 _ _ (by kernel_rfl) (by kernel_rfl) (by kernel_rfl) rfl rfl (by kernel_rfl);exact hT.rd 1 rfl } }
        refine aU hX O (ao.n (iN O (by exact O)))
       ·intro e1 w1 cc eZ dt fQ hp aW hq;show ao _ _ _ _ _ _ _;have hX:Rd w1 A4 3 (fun q=> [Value.int .i64 (i:Int),.slice AR N cR,.slice AD N cD].getD q undef):=by { have dt:=qn dt (b:=1) (by kernel_rfl);rcases(show cc=0\/cc=1 by omega)with h | h; { exact Rd.below lk (fQ h) }; { subst h;obtain⟨AZ,cZ,_,hT⟩:=hq 10 _ _ (by kernel_rfl) (by kernel_rfl) (by kernel_rfl) rfl rfl (by kernel_rfl);exact hT.rd 1 rfl } }
        refine bh hX O (ao.n (iN O (by exact O)))
       ·refine cP fun e1 w1 hb hp aW hq=>?_
        exact eS (St.refl _) O O O fun A9 w9 aw=>ao.n (fN.dn O aw.below ⟨A9,O,(hS.aq hb).call aw⟩)
       ·refine kG fun e1 w1 hb hp aW hq=>?_
        obtain⟨A9,aaM,hT⟩:=(hp 9 _ _ (by kernel_rfl) rfl rfl (by kernel_rfl));refine fk (3+1+E) hT (vh A9) (hT.bz 0 O) O (by exact aaM) O ?_;intro AZ cZ wZ hZ;have hZ:=(qO A9 ⟨AZ,(rg q4 E).n+1,cZ⟩ (gl (gu M k E D) E++ [(D:Int)]))▸hZ;exact ao.n (fY.dn O ⟨AZ,cZ,O,hZ.tail⟩)
       ·intro e1 w1 cc eZ dt fQ hp aW hq;show ao _ _ _ _ _ _ _;have hX:ml w1 AD N q4:=by { have dt:=qn dt (b:=1) (by kernel_rfl);rcases(show cc=0\/cc=1 by omega)with h | h; { exact jP.top.aq (fQ h) }; { subst h;obtain⟨AZ,cZ,_,hT⟩:=hq 10 _ _ (by kernel_rfl) (by kernel_rfl) (by kernel_rfl) rfl rfl (by kernel_rfl);exact hT.fG 2 rfl } }
        refine aD hX.2 O (ao.n (iN O (by exact O)))
       ·refine rU 1 fun e1 w1 hp aW hq=>?_
        have eN:=hp 10 _ _ (by kernel_rfl) O O (by kernel_rfl);obtain⟨AZ,cZ,KY,hT⟩:=eN;refine D7 (te:=34) (n:=N) (c:=cD) (A:=AD) (xs:=q4) 2 hT O O (by exact KY) (by omega) ?_;intro wY hY;exact ao.n (fY.st O ⟨AZ,cZ,hY⟩)
      intro u lS _ hu _ _;obtain⟨AZ,cZ,hT⟩:=hu 12 _ rfl (by kernel_rfl);rw [uq]at hT;refine jW O (aH O (aT O (tQ ?_)));exact⟨(D+1,_),by show N - (D+1)<N - D;omega,(amz O),by show D+1<=N;omega,by simp [Ij],hT⟩
    ·have Hp:D=N:=by omega
     have bP:=Yk (M:=M) (i:=k) (e:=E);rw [mO]at bP;rw [Hp,bP]at hS;refine bn O (bo (cL O (aH O (aT O (tQ ?_)))));exact⟨(E+1,q4),by show N - (E+1)<N - E;omega,(amz O),by show E+1<=N;omega,Ij,hS⟩
   ·have se:E=N:=by omega
    have iJ:=Yh (M:=M) (i:=k);rw [mO]at iJ;rw [se,iJ]at hS;refine bn O (bo (cL O (aH O (aT O (tQ ?_)))));exact⟨(k+1,q3),by show i - (k+1)<i - k;omega,(amz O),⟨by show 1<=k+1;omega,by show k+1<=i;omega⟩,Fb,hS.tail⟩
 ·have iM:k=M.length:=by omega
  have eJ:=Yg (M:=M);rw [iM,eJ]at hS;refine bn O (bo (cL O ?_));refine ao.dq 2 (hS.rd 0 O) O O O ?_;have aE:St w w8 (bD A2 0 none 0 0 none 0 0::(ax 2 AR N cR (bK M i)::(aL 34 2 AD N cD qq (bR M)++ []))):=by
   have hs:(aL 34 2 AD N cD qq (bR M)++ [ax 2 AR N cR (bK M i),bD A2 0 none 0 0 none 0 0]).Sublist (bD A4 i AR N cR AD N cD::(aL 34 2 AD N cD qq (bR M)++pH A1 A2 A5 A6 A i c M AR N cR c5 c6 gQ)):=
    List.Sublist.cons _ (List.Sublist.append_left (List.Sublist.cons_cons _ (List.Sublist.cons _ (List.Sublist.cons_cons _ (List.nil_sublist _)))) _)
   refine(hS.sub hs).perm ?_;rw [fj];exact(nT).trans (List.Perm.swap _ _ _)
  refine bO 3 0 aE O O O O O O O fun fg dG=>bI O (ij O (dG.rd 0 O) ?_);refine⟨AR,cR,AD,cD,qq,?_,by rw [mO];exact xD,?_⟩
  ·rw [mO,gJ];rfl
  ·rw [mO,gJ];exact dG.tail
theorem afp(A:aj)(n c:Nat)(rs:List aO)(M:ah)(w:aa)(hR:bF w A n rs M)(hM:cN M):
 aK prog 101 [.agg #[.slice A n c]] w (fun v w'=>∃AR cR AD cD dv,v= .agg #[ak (M.length:Int),.slice AR (aS M M.length) cR,.slice AD (aS M M.length) cD]/\dv.length=aS M M.length/\St w w' (ax 2 AR (aS M M.length) cR (bK M M.length)::(aL 34 2 AD (aS M M.length) cD dv (bR M)++ []))):=afo A n c rs M w hR hM.ajs
theorem Zv(xss:ah)(f:Nat)(ws:ai):pQ xss (f+1) ws=pQ xss f ws++ [tH xss f ws]:=by simp [pQ,jB]
theorem afs(A:aj)(n c:Nat)(rs:List aO)(xss:ah)(F:Nat)(Aw:aj)(nw cw:Nat)(BF:List aO)(ws:ah)(w:aa)(hR:bF w A n rs xss)(hW:bF w Aw nw BF ws)(hs:Sys F xss)(hn:0<n)(hF:(gl xss 0).length=F)(nv:F<=1000000)(Fo:nw<=1000)(xH:∀i:Nat,i<nw->∀k:Nat,k< (gl ws i).length->0<=gi (gl ws i) k/\gi (gl ws i) k<n)(l9:∀i:Nat,i<nw->(gl ws i).length<=9223372036854775807):
 aK prog 240 [.agg #[.slice A n c],.slice Aw nw cw] w (fun v w'=>∃(A':aj) (c':Nat) (rs':List aO),v= .slice A' nw c'/\rs'.length=nw/\St w w' (aL 34 2 A' nw c' rs' (ws.map (pQ xss F)))):=by
 have MK:=hW.len;have Le:∀w',bF w' A n rs xss->aK prog 179 [.agg #[.slice A n c]] w' (fun v F3=>v=ak F/\St w' F3 []):=fun w' h=>by
  have:=IL A n c rs xss w' h hn
  rwa [hF]at this
 obtain⟨W,Lv⟩:∃W,W=ws.map (pQ xss F):=⟨_,rfl⟩;have hWl:W.length=nw:=by rw [Lv,fO,MK]
 have hWs:∀i:Nat,i<nw->W.take (i+1)=W.take i++ [pQ xss F (gl ws i)]:=fun i hi=>by
  rw [lV (by omega)]
  congr 2
  simp only [Lv,List.getElem_map];rw [b7 (by omega)]
 rw [<-Lv];refine bA func240 O ntmps240 O (df O) (bg O (lB (St.refl w) O O ?_));intro A2 w1 hS;refine ar O (jn hS O ?_);clear hS;intro A5 w2 hS;have hS:St w w2 (aL 34 2 A5 0 0 [] (W.take 0)++ [Bx 24 1 A2 [.slice A n c]]):=hS;refine aC O (Cd.loop (α:=Nat×(aj×Nat)×List aO) (fun z=> [(1,.slice Aw nw cw),(2,.pointer A2),(5,.slice z.2.1.1 z.1 z.2.1.2),(6,ak (z.1:Int))]) (fun z w'=>z.1<=nw/\z.2.2.length=z.1/\St w w' (aL 34 2 z.2.1.1 z.1 z.2.1.2 z.2.2 (W.take z.1)++ [Bx 24 1 A2 [.slice A n c]])) (fun z=>nw - z.1) (0,(A5,0),[]) (amz O) ⟨aZ _,O,hS⟩ ?_);clear hS;rintro⟨i,⟨A5,c5⟩,r5⟩ e w3 ⟨hi,Dg,hS⟩;dsimp only at hi Dg hS|-;refine bg O (bc O O (aC O ?_));refine aM _ O (fun h1=>?_) (fun h1=>?_)
 ·have di:i<nw:=by omega
  have hwi:=xH i di;have aed:=l9 i di;refine aA O (jn hS O ?_);clear hS;intro A7 w4 hS;refine aC O (Cd.loop (α:=Nat×(aj×Nat)) (fun z=> [(1,.slice Aw nw cw),(2,.pointer A2),(5,.slice A5 i c5),(6,ak i),(7,.slice z.2.1 z.1 z.2.2),(8,ak (z.1:Int))]) (fun z w'=>z.1<=F/\St w w' (ax 2 z.2.1 z.1 z.2.2 (pQ xss z.1 (gl ws i))::(aL 34 2 A5 i c5 r5 (W.take i)++ [Bx 24 1 A2 [.slice A n c]]))) (fun z=>F - z.1) (0,(A7,0)) (amz O) ⟨aZ _,hS⟩ ?_);clear hS;rintro⟨f,A7,c7⟩ e w5 ⟨hf,hS⟩;dsimp only at hf hS|-;have pn:Rd w5 A2 1 (fun j=> [Value.slice A n c].getD j undef):=(hS.sub ((iQ _ _).cons _)).rd (k:=Bx 24 1 A2 [.slice A n c]) 0 O;refine bg O (ao.dq 0 pn O O O (aQ (Le _ (hS.cT hR)) O ?_));rintro _ w6 ⟨rfl,aw⟩;have hS:=hS.aq aw.below;have pn:=Rd.below pn aw.below;refine aC O (aM _ O (fun h2=>?_) (fun h2=>?_))
  ·have iH:f<F:=by omega
   have Lu:=hS.cT hW;have TG:=Lu.at_ (i:=(i:Int)) (by omega) (by omega);have TF:=TG.1;refine dw O ?_;refine kB [9] [yS (A7) (f) (c7),.ex (.agg #[.slice (A) (n) (c)]),yI ((f:Int)),yS (Aw) (nw) (cw),yI ((i:Int)),yP (ay (Aw) ((i:Int)).toNat),yS ((rg (BF) ((i:Int))).a) ((rg (BF) ((i:Int))).n) ((rg (BF) ((i:Int))).c),yI (tH xss f (gl ws i)),.pr (fun v w'=>∃A9,v= .slice A9 1 1/\St w w' (ax 2 A9 1 1 [tH xss f (gl ws i)]::ax 2 A7 f c7 (pQ xss f (gl ws i))::(aL 34 2 A5 i c5 r5 (W.take i)++ [Bx 24 1 A2 [.slice A n c]]))),.pr (fun v w'=>∃A9 c9,v= .slice A9 (f+1) c9/\St w w' (ax 2 A9 (f+1) c9 (pQ xss (f+1) (gl ws i))::(aL 34 2 A5 i c5 r5 (W.take i)++ [Bx 24 1 A2 [.slice A n c]]))),.pr (fun v w'=>∃A9 c9,v= .slice A9 (f+1) c9/\St w w' (ax 2 A9 (f+1) c9 (pQ xss (f+1) (gl ws i))::(aL 34 2 A5 i c5 r5 (W.take i)++ [Bx 24 1 A2 [.slice A n c]])))] (ly (ly (ly (ly (ly (ly (ly (ly (de.2 ⟨Ye.dp (fun v w w' h hb=>by obtain⟨A9,hv,h1⟩:=h;exact⟨A9,hv,h1.aq hb⟩),(de.2 ⟨Ye.dp (fun v w w' h hb=>by obtain⟨dW,fq,hv,h1⟩:=h;exact⟨dW,fq,hv,h1.aq hb⟩),(de.2 ⟨Ye.dp (fun v w w' h hb=>by obtain⟨dW,fq,hv,h1⟩:=h;exact⟨dW,fq,hv,h1.aq hb⟩),(fun _ h=>by cases h)⟩)⟩)⟩))))))))) ?_ ?_
   ·refine⟨?_,cP fun _ _ hb _ _ _=>ao.dq 0 (pn.below hb) O O O (bE O O),bT O,bT O,bT O,cP fun _ _ hb _ _ _=>aD (Lu.top.aq hb).2 O (bE O O),cP fun _ _ hb _ _ _=>bW (Lu.top.aq hb) O (bE O O),?_,?_,?_,?_,au⟩
    ·intro e1 w1 cc eZ dt fQ hp aW hq;show ao _ _ _ _ _ _ _;refine lW O (by exact aW 10 _ O (by kernel_rfl)) O (ao.n (iN O (by exact O)))
    ·refine cP fun e1 w1 hb hp aW hq=>?_
     refine aQ (afj A n c rs xss F f _ _ _ (gl ws i) _ ((hS.aq hb).cT hR) hs (TG.aq hb) (by rw [<-TF];exact aed) (fun k hk=>hwi k (by rw [TF];exact hk)) (by omega) (by omega)) O ?_;rintro _ w2 ⟨rfl,aw⟩;refine ao.n ?_;exact fN.dn O aw.below (by exact O)
    ·refine cP fun e1 w1 hb hp aW hq=>?_
     exact eS (St.refl _) O O O fun A9 w9 iV=>ao.n (fN.dn O iV.below ⟨A9,O,(hS.aq hb).call iV⟩)
    ·refine kG fun e1 w1 hb hp aW hq=>?_
     obtain⟨A9,oY,h1⟩:=(hp 8 _ _ (by kernel_rfl) rfl rfl (by kernel_rfl));refine fk 1 h1 O (h1.bz 0 O) O (by exact oY) O ?_;intro dW fq Ou Ak;refine ao.n ?_;exact fY.dn O ⟨dW,fq,O,by rw [Zv];exact Ak.tail⟩
    refine dP 1 fun e1 w1 hp aW hq=>?_
    have eN:=hp 9 _ _ (by kernel_rfl) O O (by kernel_rfl);obtain⟨dW,fq,oY,h1⟩:=(hp 9 _ _ (by kernel_rfl) rfl rfl (by kernel_rfl));refine lW O (by exact oY) O (ao.n ?_);exact fN.dn O (Below.refl _ _) ⟨dW,fq,O,h1⟩
   intro u w9 _ hu _ _;obtain⟨B7,d7,MJ,hS⟩:=hu 10 _ rfl (by kernel_rfl);refine jW O (aH O (aT O (tQ ?_)));exact⟨(f+1,B7,d7),by show F - (f+1)<F - f;omega,⟨O,O,O,O,by exact MJ,aF (Value.int .i64) (by omega),au⟩,by show f+1<=F;omega,hS⟩
  obtain rfl:f=F:=by omega
  refine bn O (bo (cL O ?_));refine kV hS O O O ?_;clear hS;intro A9 w7 hS;refine lA 2 hS O (hS.fG 0 O) O O O (by omega) (by omega) O ?_;clear hS;intro bH dE w8 hS;have hS:St w w8 (ax 2 A7 f c7 (pQ xss f (gl ws i))::bZ 34 bH (i+1) dE (r5++ [⟨A7,f,c7⟩])::(cK 2 r5 (W.take i)++ [Bx 24 1 A2 [.slice A n c]])):=hS.tail;refine ar O (aH O (aT O (tQ ?_)));refine⟨(i+1,(bH,dE),r5++ [⟨A7,f,c7⟩]),by show nw - (i+1)<nw - i;omega,⟨O,O,O,aF (Value.int .i64) (by omega),au⟩,by show i+1<=nw;omega,by show(r5++ [_]).length=i+1;rw [b8,Dg];rfl,?_⟩;show St w w8 (aL _ _ bH (i+1) dE (r5++ [_]) (W.take (i+1))++_);rw [hWs i di];unfold aL;rw [o9 (by rw [Dg,na];omega)];refine hS.perm ?_;rw [List.cons_append,gx];exact(List.Perm.swap _ _ _).trans (List.Perm.cons _ (qD (l₁:=cK 2 r5 (W.take i))).symm)
 obtain rfl:i=nw:=by omega
 rw [gR (by omega)]at hS;refine bn O (bo (gq O ?_));exact ia O ⟨A5,c5,r5,O,Dg,hS.sub (ng _ _)⟩
end
end Go.Proofs.YtkccgdhcpplblaaGreatDoor.Vc
