/-
 Lemmas. Conditions: as each states them.
-/
import Derived.Test.YtagdamiiececaaaGreatDoorLayb
import Derived.Test.YtagdamiiececaaaGreatDoorZc
import Derived.Shelf.SlicesE.Compact
import Derived.Shelf.SlicesE.Delete
import Derived.Shelf.SortM.SortNone
set_option maxHeartbeats 8000000
namespace Go.Proofs.YtagdamiiececaaaGreatDoor.Vc
open Tryz
section
open Go.RowKit Go.Sort
variable{w w0:aa}{q off o i:Nat}{ks:List Ck}{l' xs:ai}
theorem PQ{α:Type}[Inhabited α]{enc:α->ad}{g:Nat}{cur:Array ad}{e:ae}{fr:Nat×Nat}(d:Array α)(hb:w.heap[g]?=some (.cells cur e fr)):(putRow enc (Sort.ahead w q) g off d).heap[g]?=some (.cells (putCells enc off d cur) e fr):=by
 simp [putRow,mapBlock,Sort.ahead,Array.getElem?_modify,hb,onCells]
theorem Oq{α:Type}[Inhabited α]{enc:α->ad}{g:Nat}(d:Array α):yR w (putRow enc (Sort.ahead w q) g off d) (some g):=by
 refine⟨⟨O,O,O,by simp [Sort.ahead],fun k hk bL=>?_⟩,Nat.le_add_right _ _⟩;have:g≠k:=fun e=>bL (by rw [e])
 simp [putRow,mapBlock,Sort.ahead,Array.getElem?_modify,this]
theorem Jf{α:Type}[Inhabited α]{enc:α->ad}{g:Nat}{cur:Array ad}{e:ae}{ds:List α}(hh:w.heap[g]?=some (.cells cur e (0,0)))(hc:∀j,j<ds.length->cur[o+j]?=(ds.map enc)[j]?):Holds enc w g o ds.toArray:=fun j hj=>by
 have jS:j<ds.length:=by simpa using hj
 refine⟨?_,by simp [World.frozen?,hh]⟩;simp only [World.cell?,hh];simp only [Option.isSome_none,Bool.false_eq_true,if_false];rw [hc j jS];simp [jS]
theorem St.laid{α:Type}[Inhabited α]{enc:α->ad}{k:Ck}{g m:Nat}{cur:Array ad}{ds:List α}(hS:St w0 w ks)(hk:ks[i]?=some k)(hA:k.A=some ⟨g,o,Option.none⟩)(hg:w0.heap.size<=g)(hh:w.heap[g]?=some (.cells cur k.e (0,0)))(hs:o+k.c<=cur.size)(hm:m<=ds.length)(hd:ds.length<=k.c)(hc:k.c<=maxLen)(PN:∀x,(enc x).oneCell'=true:=by intro _;rfl):
 St w0 (putRow enc (Sort.ahead w q) g o ds.toArray) (ks.set i ⟨k.A,m,k.c,k.e,(ds.take m).map enc⟩):=by
 refine hS.turn hk (by simp [Ck.fQ,hA]) (by simp [Ck.fQ,hA]) (Oq _) (.oP (rE fun v hv=>by obtain⟨x,_,rfl⟩:=fh.1 hv;exact PN x) ⟨by simp;omega,by show m<=k.c;omega,hc,.inr ⟨g,o,_,hA,hg,PQ _ hh,by simp only [putCells,Array.size_mapIdx];exact hs,fun j hj=>?_⟩⟩);have hj:j<m:=hj;show(putCells enc o ds.toArray cur)[o+j]?=((ds.take m).map enc)[j]?;have Ek:o+j<cur.size:=by omega
 have Qe:j<ds.length:=by omega
 simp [putCells,Ek,Qe,pN,hj]
def SA(l:ai):Prop:=l.Pairwise (· < ·)
theorem SA.nm{l:ai}(h:SA l):mu l:=h.imp fun h=>by omega
theorem SA.nodup{l:ai}(h:SA l):l.Nodup:=h.imp fun h=>by omega
theorem SA.eq{l:ai}(h:SA l)(h':SA l')(hm:∀x,x∈l↔x∈l'):l=l':=MG ((List.perm_ext_iff_of_nodup h.nodup h'.nodup).2 hm) h.nm h'.nm
def iG(xs:ai):ai:=Lib.compactUpTo xs.toArray xs.toArray.size
theorem Cs(xs:ai)(j:Nat):xs.toArray[j]! =gi xs j:=by
 by_cases h:j<xs.length
 ·rw [bF h];simp [h]
 have e:gi xs j=0:=by simp [gi,cz,oX (Nat.not_lt.1 h)]
 rw [e,getElem!_neg _ _ (by simpa using h)];rfl
theorem CE(xs:ai):iG xs=((List.range xs.length).filter fun j:Nat=>decide (j=0\/gi xs j≠gi xs ((j - 1:Nat):Int))).map fun j:Nat=>gi xs j:=by
 unfold iG Lib.compactUpTo;rw [List.size_toArray];have e1:Lib.keeps xs.toArray=fun j:Nat=>decide (j=0\/gi xs j≠gi xs ((j - 1:Nat):Int)):=by
  funext j;unfold Lib.keeps;rw [Cs,Cs]
 rw [e1];exact kS fun j _=>Cs xs j
theorem GK(xs:ai):(iG xs).length<=xs.length:=by
 rw [CE,lC];have:=mX (fun j:Nat=>decide (j=0\/gi xs j≠gi xs ((j - 1:Nat):Int))) (List.range xs.length)
 rwa [pO]at this
theorem Nd(xs:ai)(x:Int):x∈iG xs↔x∈xs:=by
 rw [CE,fh];constructor
 ·rintro⟨j,hj,rfl⟩;have:=fP.1 (fZ.1 hj).1;rw [bF this];exact dU _
 ·intro hx;obtain⟨j,hj,pb⟩:=eZ.1 hx;rw [<-bF hj]at pb;clear hx
  induction j with
  | zero=>exact⟨0,fZ.2 ⟨fP.2 hj,by simp⟩,pb⟩
  | succ j ih=>
   by_cases h:gi xs ((j+1:Nat):Int)=gi xs ((j:Nat):Int)
   ·exact ih (by omega) (h▸pb)
   ·exact⟨j+1,fZ.2 ⟨fP.2 hj,by simp only [Nat.add_sub_cancel,jL];exact .inr h⟩,pb⟩
theorem Nc(h:mu xs):SA (iG xs):=by
 have mono:∀a b,a<=b->b<xs.length->gi xs a<=gi xs b:=fun a b ie hb=>by
  rw [bF (by omega),bF hb]
  by_cases e:a=b
  ·subst e;exact Int.le_refl _
  exact(List.pairwise_iff_getElem.1 h) a b (by omega) hb (by omega)
 rw [CE];unfold SA;rw [List.pairwise_map];have hr:(List.range xs.length).Pairwise (· < ·):=List.pairwise_lt_range;refine(hr.filter _).imp_of_mem fun {a b} ha hb ie=>?_
 have eN:=fP.1 (fZ.1 hb).1;have iI:=rK (fZ.1 hb).2;have h1:=mono a (b - 1) (by omega) (by omega);have h2:=mono (b - 1) b (by omega) eN;rcases iI with iI | iI
 ·omega
 omega
def cs(l:ai):ai:=iG (jX l)
theorem Nv(l:ai)(x:Int):x∈cs l↔x∈l:=by rw [cs,Nd];exact(FF l).mem_iff
theorem Nu(l:ai):SA (cs l):=Nc (UK l)
theorem Nq(i:Nat){t:ae}{A:aj}{n c:Nat}(hS:St w0 w ks)(hk:ks[i]?=some (aw t A n c xs))(h0:0<n)(hn:n<=1000000000):
 aJ prog 131 [.slice A n c] w (fun v w'=>v= .slice A (iG xs).length c/\St w0 w' (ks.set i (aw t A (iG xs).length c (iG xs)))):=by
 obtain⟨h1,h2,h3,h4⟩:=hS.qc hk (qx _);have hl:xs.length=n:=hS.vM i hk;have h2:n<=c:=h2;have h3:c<=maxLen:=h3;rcases h4 with⟨_,mG⟩ | ⟨g,o,cur,hA,hg,hh,hs,hc⟩
 ·have mG:c=0:=mG;omega
 have hA:A=some ⟨g,o,none⟩:=hA;have hs:o+c<=cur.size:=hs;have hc:∀j,j<n->cur[o+j]?=(xs.map (Value.int .i64))[j]?:=hc;subst hA;subst hl;have key:=AnyE.slices_Compact SK (Value.int .i64) (fun _=>O) (EqlAt.intD _ _ .i64) (NeqAt.intD _ _ .i64) (0:Int) (fun w=>zeroValue2 w) g o c xs.toArray w (Jf hh hc) (by simp;omega) (by simpa using h2);refine Calls.mono key fun x w' ⟨hx,q,hw⟩=> ⟨_,hx,O,?_⟩
 subst hw;have hle:=GK xs;have h:=hS.laid (q:=q) (m:=(iG xs).length) (enc:=Value.int .i64) (ds:=iG xs++List.replicate (xs.toArray.size - (iG xs).length) 0) hk O hg hh hs (by simp) (by simp;show _<=c;omega) h3;rw [uH (dh _),List.take_length]at h;exact h
instance:Inhabited aL:=⟨cL⟩
theorem NC(i:Nat){t:ae}{A:aj}{n c a b:Nat}{xs:List aL}(hS:St w0 w ks)(hk:ks[i]?=some (bE t A n c xs))(h0:0<n)(hn:n<=1000000000)(ie:a<=b)(hb:b<=n):
 aJ prog 266 [.slice A n c,ak a,ak b] w (fun v w'=>v= .slice A (n - (b - a)) c/\St w0 w' (ks.set i (bE t A (n - (b - a)) c (xs.take a++xs.drop b)))):=by
 obtain⟨h1,h2,h3,h4⟩:=hS.qc hk (Bg _);have hl:xs.length=n:=(hS.fz i hk).1;have h2:n<=c:=h2;have h3:c<=maxLen:=h3;rcases h4 with⟨_,mG⟩ | ⟨g,o,cur,hA,hg,hh,hs,hc⟩
 ·have mG:c=0:=mG;omega
 have hA:A=some ⟨g,o,none⟩:=hA;have hs:o+c<=cur.size:=hs;have hc:∀j,j<n->cur[o+j]?=(xs.map aL.v)[j]?:=hc;subst hA;subst hl;obtain⟨i0,mI,_,Ri,_⟩:=bJ.get prog 24;have key:=AnyE.slices_Delete SN aL.v (fun _=>O) cL (fun w=>zeroValue24 w) i0 mI Ri g o c a b xs.toArray w (Jf hh hc) (by simpa using h2) (by simpa [maxLen]using h3) ie (by simpa using hb);refine Calls.mono key fun x w' ⟨hx,q,hw⟩=> ⟨_,hx,by simp,?_⟩
 subst hw;have h:=hS.laid (q:=q) (m:=xs.length - (b - a)) (enc:=aL.v) (ds:=xs.toArray.toList.take a++xs.toArray.toList.drop b++List.replicate (b - a) cL) hk O hg hh hs (by simp;omega) (by simp;omega) h3;have e1:(xs.toArray.toList.take a++xs.toArray.toList.drop b++List.replicate (b - a) cL).take (xs.length - (b - a))=xs.take a++xs.drop b:=by
  have e2:(xs.take a++xs.drop b).length=xs.length - (b - a):=by simp;omega
  show(xs.take a++xs.drop b++List.replicate (b - a) cL).take _=_;rw [<-e2,uH (dh _),List.take_length]
 rw [e1]at h;exact h
end
section
open Go.RowKit
variable{w0 w w':aa}{pre ks:List Ck}
theorem Mg{t1 t2:ae}{A:aj}{n c:Nat}{rs:List aL}{xss:ah}(h:St w0 w (pre++aQ t1 t2 A n c rs xss)):St w0 w (pre++ (aQ t1 t2 A n c rs xss++ [])):=by rwa [fO]
def part(T:ai)(m:Nat):ai:=T.take m++List.replicate (T.length - m) 0
theorem Lx(A:aj)(n c:Nat)(rs:List aL)(w:aa)(hR:im w A n rs)(hn:n<=1000000)(h0:0<n):aJ prog 160 [.slice A n c] w (fun v w'=>∃A' c',v= .slice A' n c'/\St w w' [bE 24 A' n c' rs]):=by
 cases hA:A with
 | none=>
  subst hA;obtain⟨p,hp,_⟩:=hR.2 0 h0;simp [aD]at hp
 | some a=>
  subst hA;refine br func160 O ntmps160 O (cw O) (a8 O (ti O O O (aE O (Cd.eM O (aG O (iB (St.refl w) O ?_))))));intro A1 w1 ay;have ay:St w w1 [bE 24 A1 0 0 []]:=ay;refine ar O (l5 0 ay O (ay.Fl hR) O O O (by omega) (by omega) O ?_);intro A2 c2 w2 aM;rw [Nat.zero_add]at aM|-;refine bI O (eW O ?_);exact⟨A2,c2,O,aM⟩
theorem Vm(Ab A:aj)(n c:Nat)(rs:List aL)(xss:ah)(i:Nat)(w:aa)(hB:Rd w Ab 1 (fun _=> .slice A n c))(hR:bq w A n rs xss)(hn:n<=1000)(hi:i<n):
 aJ prog 212 [.pointer Ab,ak i] w (fun v w'=>∃A' c',v= .slice A' (n - 1) c'/\St w w' [bE 24 A' (n - 1) c' (rs.eraseIdx i)]):=by
 refine br func212 O ntmps212 O (cw O) (a8 O ?_);refine kb hB (by decide) O O (aS hB O (aZ hB O (aI (Lx A n c rs _ hR.top (by omega) (by omega)) O ?_)));rintro _ w1 ⟨A1,c1,rfl,ay⟩;refine ar O (aK O ?_);have mg:((i:Int)+1)=((i+1:Nat):Int):=by omega
 rw [mg];refine aI (NC 0 ay O (by omega) (by omega) (show i<=i+1 by omega) (by omega)) O ?_;rintro _ w2 ⟨rfl,aM⟩;refine bI O (eW O ?_);have e:n - (i+1 - i)=n - 1:=by omega
 rw [e];rw [e,<-List.eraseIdx_eq_take_drop_succ]at aM;exact⟨A1,c1,O,aM⟩
theorem G9(Ab A:aj)(n c:Nat)(rs:List aL)(xss:ah)(i:Nat)(w:aa)(hB:Rd w Ab 1 (fun _=> .slice A n c))(hR:bq w A n rs xss)(hM:eA xss)(hi:i<n):
 aJ prog 156 [.pointer Ab,ak i] w (fun v w'=>∃A',v= .tuple #[.slice A' (gl xss 0).length (gl xss 0).length,ak (fK xss i)]/\St w w' [aw 2 A' (gl xss 0).length (gl xss 0).length (dp xss i)]):=by
 have hl:=hR.len;have h1:=hM.1;have h2:=hM.2.1;have e0:(rg rs 0).n=(gl xss 0).length:=(hR.pE (by omega) (by omega)).symm;refine br func156 O ntmps156 O (jw O) (a8 O (aI (tx Ab A n c rs xss _ w hB O hR (by omega)) O ?_));rintro _ w ⟨rfl,rfl⟩;rw [e0];refine ar O (aI (Vm Ab A n c rs xss i _ hB hR (by omega) hi) O ?_);rintro _ w1 ⟨A1,c1,rfl,ay⟩;refine aI (Ks A1 (n - 1) c1 (rs.eraseIdx i) (xss.eraseIdx i) (gl xss 0).length _ ((ay.bO hR).erase hi (ay.fz 0 O)) (by omega) (hM.2.2.1.sys.erase i) (hM.2.2.1.inj.erase i) (by omega)) O ?_;rintro _ w2 ⟨A2,rfl,ax⟩;have aM:=ay.call ax;refine bI O (mQ O O ?_);exact⟨A2,O,aM.sub (List.Sublist.cons_cons _ (List.nil_sublist _))⟩
theorem Fz{t:ae}:∀ {rs:List aL} {xss:ah} {i:Nat} {s:aL} {xs:ai},rs.length=xss.length->(b6 t rs xss).set i (aw t s.a s.n s.c xs)=b6 t (rs.set i s) (xss.set i xs)
 | [],[],_,_,_,_=>rfl
 | [],_::_,_,_,_,h=>by simp at h
 | _::_,[],_,_,_,h=>by simp at h
 | r::rs,x::xss,0,s,xs,_=>rfl
 | r::rs,x::xss,i+1,s,xs,h=>by
  have:=Fz (t:=t) (rs:=rs) (xss:=xss) (i:=i) (s:=s) (xs:=xs) (by simpa using h);simpa [b6]using this
theorem yw{w0 w:aa}{t:ae}:∀(n:Nat) {ks:List Ck},St w0 w ks->St w0 w (ks++b6 t (List.replicate n cL) (List.replicate n []))
 | 0,ks,h=>by show St w0 w (ks++ []);rwa [fO]
 | n+1,ks,h=>by
  have h1:=yw (t:=t) n h;have h2:=h1.nil t;exact h2.perm (iA.symm)
def Cu(Vl El:ai)(m:Nat):Nat->ah
 | 0=>List.replicate m []
 | f+1=> (Cu Vl El m f).set (gi El f).toNat (gl (Cu Vl El m f) (gi El f)++ [gi Vl f])
def ends(Vl El:ai)(m f:Nat):ah:=(Cu Vl El m f).map cs
def td(L:ah)(K:Int)(w:aa)(v:ad)(w':aa):Prop:=∃A' c' rs',v= .tuple #[.slice A' L.length c',ak K]/\rs'.length=L.length/\St w w' (aQ 24 2 A' L.length c' rs' L++ [])
theorem td.none{K:Int}(h:St w w' ks):td [] K w (.tuple #[.slice Option.none 0 0,ak K]) w':=⟨Option.none,0,[],rfl,rfl,h.none.nil _⟩
def jj(B:ah)(e:Nat):ah:=(B.take e).map cs++B.drop e
theorem S9(B:ah)(e:Nat):(jj B e).length=B.length:=by simp [jj];omega
theorem Tb(B:ah):jj B 0=B:=by simp [jj]
theorem S7(B:ah):jj B B.length=B.map cs:=by simp [jj]
theorem S8{B:ah}{e:Nat}(h:e<B.length):gl (jj B e) e=gl B e:=by
 simp only [gl,jj,fW,cz];rw [lZ (by simp;omega)];simp [Nat.min_eq_left (Nat.le_of_lt h)]
theorem Ta{B:ah}{e:Nat}(h:e<B.length):(jj B e).set e (cs (gl B e))=jj B (e+1):=by
 rw [cX h];unfold jj;rw [List.set_append_right _ _ (by simp;omega),oZ h,List.map_append,ig];have e1:e - ((B.take e).map cs).length=0:=by simp;omega
 rw [e1,List.drop_eq_getElem_cons h]
 rfl
theorem UC(i:Nat){t:ae}{A:aj}{n c:Nat}{xs:ai}(hS:St w0 w ks)(hk:ks[i]?=some (aw t A n c xs))(hn:n<=1000000000):
 aJ prog 130 [.slice A n c] w (fun v w'=>v= .tuple #[]/\St w0 w' (ks.set i (aw t A n c (jX xs)))):=by
 by_cases h0:0<n
 ·exact UD i hS hk h0 hn
 obtain rfl:n=0:=by omega
 have eu:=hS.vM i hk;obtain rfl:=pM eu;refine Calls.mono (AnyM.slices_Sort_int_none Kb A c w) fun x w' ⟨hx,hw⟩=> ⟨_,hx,O,?_⟩
 subst hw;have e:jX []=[]:=pM (FF []).length_eq;rw [e,FD hk];exact hS
theorem Np(i:Nat){t:ae}{A:aj}{n c:Nat}{xs:ai}(hS:St w0 w ks)(hk:ks[i]?=some (aw t A n c xs))(hn:n<=1000000000):
 aJ prog 131 [.slice A n c] w (fun v w'=>v= .slice A (iG xs).length c/\St w0 w' (ks.set i (aw t A (iG xs).length c (iG xs)))):=by
 by_cases h0:0<n
 ·exact Nq i hS hk h0 hn
 obtain rfl:n=0:=by omega
 have eu:=hS.vM i hk;obtain rfl:=pM eu;have e:iG []=[]:=pM (Nat.le_zero.1 (GK []));rw [e];refine br func131 O ntmps131 O (cw O) ?_;refine a8 O (ba O O (aE O ?_));refine FW O (by decide) (du O (eW O ?_));exact⟨O,by rw [show([]:ai).length=0 from O,FD hk];exact hS⟩
theorem Kc{t1 t2:ae}{A:aj}{n c:Nat}{rs:List aL}{xss:ah}(h:rs.length=xss.length):(aQ t1 t2 A n c rs xss).length=rs.length+1:=by simp [aQ,s6 h]
section
variable {P:Program} {N:Nat} {ops:Array Oper} {K:Env->aa->Prop} {rest:List Oper} {e:Env} {w:aa} {d:Nat} {ty:ae} {pos:String} {af:Array Edge}
theorem LZ{F:FuncId}{x y:ag}{v1 v2:ad}(hx:ev e x=v1)(hy:ev e y=v2)(hb:Nat.blt d N=true)(hK:ao P N ops K rest (bj e d (.func (.func F) #[] #[v1,v2])) w):
 ao P N ops K (⟨some d,.makeFunc (.func F) #[] #[x,y],ty,pos,af,none⟩::rest) e w:=
 .val (by simp [execOp,Instr.makeFunc,hx,hy]) hb hK
end
def tm(lo hi:Int)(xs:ai):Prop:=∀x∈xs,lo<=x/\x<=hi
instance (lo hi:Int)(xs:ai):Decidable (tm lo hi xs):=by unfold tm;exact inferInstance
theorem ME(x lo hi:Int)(P1 P2:aj)(w:aa)(h1:Rd w P1 1 (fun _=>ak lo))(h2:Rd w P2 1 (fun _=>ak hi)):
 aJ prog 185 [ak x,.pointer P1,.pointer P2] w (fun v w'=>v= .bool (decide (¬(lo<=x/\x<=hi)))/\w'=w):=by
 refine br func185 O ntmps185 O (cw O) (a8 O ?_);refine ao.ld h1 (by exact aH Value.pointer (ko P1).symm) (by decide) O O O ?_;refine ao.ld h2 (by exact aH Value.pointer (ko P2).symm) (by decide) O O O ?_;refine aI (mS _ _ _ _) O ?_;rintro _ w ⟨rfl,rfl⟩
 first | refine dk rfl rfl ?_ | refine eF rfl rfl ?_
 refine bI O (cH O ?_);exact⟨O,O⟩
theorem LI(A:aj)(n c:Nat)(xs:ai)(lo hi:Int)(P1 P2:aj)(w:aa)(hR:bu w A n xs)(hn:n<=9223372036854775807)(h1:Rd w P1 1 (fun _=>ak lo))(h2:Rd w P2 1 (fun _=>ak hi)):
 aJ prog 232 [.slice A n c,.func (.func 185) #[] #[.pointer P1,.pointer P2]] w (fun v w'=> (∃i:Int,v=ak i/\(0<=i↔¬tm lo hi xs))/\w'=w):=by
 have eu:=hR.1;refine br func232 O ntmps232 O (cw O) ?_;refine a8 O (ba O O (aE O ?_));refine Cd.loop (α:=Nat) (fun k=> [(0,.slice A n c),(1,.func (.func 185) #[] #[.pointer P1,.pointer P2]),(7,ak n),(8,ak k)]) (fun k w'=>w'=w/\k<=n/\∀j,j<k->lo<=gi xs (j:Nat)/\gi xs (j:Nat)<=hi) (fun k=>n - k) 0 (WM O) ⟨O,bn _,fun j hj=>by omega⟩ ?_;rintro k e w ⟨rfl,hk,hK⟩;refine bX O (aN _ O (fun h3=>?_) (fun h3=>?_))
 ·refine aG O (aB hR.2 O (aW hR O (aI (ME _ lo hi P1 P2 _ h1 h2) O ?_)));rintro _ w ⟨rfl,rfl⟩;refine aE O (aN _ O (fun h4=>?_) (fun h4=>?_))
  ·refine du O (dN (dE ?_));refine kN O ?_;exact⟨⟨(k:Int),O,⟨fun _ ha=>h4 (by rw [bF (by omega)];exact ha _ (dU _)),fun _=>by omega⟩⟩,O⟩
  refine aG O (aK O (aR O (tQ ?_)));refine⟨k+1,by show n - (k+1)<n - k;omega,(WM O),O,by omega,fun j hj=>?_⟩
  by_cases ej:j=k
  ·subst ej;exact kR.1 h4
  exact hK j (by omega)
 refine bk O (bm (fA O ?_));refine kN O ⟨⟨-1,O,⟨fun h=>absurd h (by decide),fun h=>absurd (fun x hx=>?_) h⟩⟩,O⟩;obtain⟨j,hj,rfl⟩:=eZ.1 hx;have:=hK j (by omega)
 rwa [bF hj]at this
theorem Lz(A:aj)(n c:Nat)(xs:ai)(lo hi:Int)(P1 P2:aj)(w:aa)(hR:bu w A n xs)(hn:n<=9223372036854775807)(h1:Rd w P1 1 (fun _=>ak lo))(h2:Rd w P2 1 (fun _=>ak hi)):
 aJ prog 184 [.slice A n c,.func (.func 185) #[] #[.pointer P1,.pointer P2]] w (fun v w'=>v= .bool (decide (¬tm lo hi xs))/\w'=w):=by
 refine br func184 O ntmps184 O (cw O) (a8 O (aI (LI A n c xs lo hi P1 P2 _ hR hn h1 h2) O ?_));rintro _ w ⟨⟨i,rfl,eK⟩,rfl⟩;refine bI O (cH O ?_);exact⟨aH Value.bool (kg.2 eK),O⟩
theorem Gt(A:aj)(n c:Nat)(xs:ai)(lo hi:Int)(w:aa)(hR:bu w A n xs)(hn:n<=9223372036854775807):
 aJ prog 114 [.slice A n c,ak lo,ak hi] w (fun v w'=>v= .bool (decide (tm lo hi xs))/\St w w' []):=by
 refine br func114 O ntmps114 O (cw O) (a8 O ?_);refine ao.box (v:=ak lo) (St.refl w) O O (by show(1:Nat)<=maxLen;simp [maxLen]) ?_;intro P1 w1 ay;have ay:St w w1 [Bx 2 1 P1 [ak lo]]:=ay;refine ao.box (v:=ak hi) ay O O (by show(1:Nat)<=maxLen;simp [maxLen]) ?_;intro P2 w2 aM;have aM:St w w2 [Bx 2 1 P2 [ak hi],Bx 2 1 P1 [ak lo]]:=aM;refine ar O (LZ O O O (aI (Lz A n c xs lo hi P1 P2 _ (aM.da hR) hn (jI (aM.rd 1 O)) (jI (aM.rd 0 O))) O ?_));rintro _ w2 ⟨rfl,rfl⟩
 first | refine dk rfl rfl ?_ | refine eF rfl rfl ?_
 refine bI O (cH O ?_);exact⟨by simp,aM.none⟩
def F6(n:Nat)(ws:ai):Prop:=tm 0 ((n:Int) - 1) ws/\ws.length<=64
instance (n:Nat)(ws:ai):Decidable (F6 n ws):=by unfold F6;exact inferInstance
end
section
variable{M:ah}{i j:Nat}{p R:ai}{x y d u:Int}
theorem E3{N:Nat}{xss:ah}(hs:Sys N xss)(eK:nX N xss){x y:Int}(h0:0<=x)(h1:x<N)(hr:Reach xss x y):∀i,i<=N->gi (bc N xss i).1 x=gi (bc N xss i).1 y
 | 0,_=>by
  have hy:=hr.range hs h0 h1;simp only [bc,se h0 h1,se hy.1 hy.2]
 | i+1,hi=>by
  have hy:=hr.range hs h0 h1;have ih:=E3 hs eK h0 h1 hr i (by omega);have ho:=qB hs (pt:=(i:Int)) (by omega) (by omega);simp only [bc]
  split
  ·exact ih
  ·simp only;rw [qV _ _ _ (lP N xss i) ho.1.range x h0,qV _ _ _ (lP N xss i) ho.1.range y hy.1];have hm:x∈eV N xss i↔y∈eV N xss i:=by
    rw [ho.2.2,ho.2.2];exact⟨fun h=>h.trans hr,fun h=>h.trans (hr.symm hs eK h0 h1)⟩
   by_cases h:x∈eV N xss i
   ·rw [aF h,aF (hm.1 h)]
   ·rw [aC h,aC (fun h'=>h (hm.2 h')),ih]
theorem J6{N:Nat}{xss:ah}(hs:Sys N xss)(eK:nX N xss){x y:Int}(h0:0<=x)(h1:x<N)(h2:0<=y)(h3:y<N):∀i,i<=N->gi (bc N xss i).1 x=gi (bc N xss i).1 y->0<=gi (bc N xss i).1 x->Reach xss x y
 | 0,_,_,h=>by simp only [bc,se h0 h1]at h;omega
 | i+1,hi,he,hp=>by
  have ih:=J6 hs eK h0 h1 h2 h3 i (by omega);have ho:=qB hs (pt:=(i:Int)) (by omega) (by omega);have hc:=rG N xss i;have hx:=(yp hs eK i (by omega)).1 x h0 h1;have hy:=(yp hs eK i (by omega)).1 y h2 h3;simp only [bc]at he hp
  split at he
  ·rename_i hl;rw [aF hl]at hp;exact ih he hp
  ·rename_i hl;rw [aC hl]at hp;simp only at he hp;rw [qV _ _ _ (lP N xss i) ho.1.range x h0]at he hp;rw [qV _ _ _ (lP N xss i) ho.1.range y h2]at he
   by_cases px:x∈eV N xss i
   ·rw [aF px]at he
    by_cases yl:y∈eV N xss i
    ·exact(((ho.2.2 x).1 px).symm hs eK (by omega) (by omega)).trans ((ho.2.2 y).1 yl)
    ·rw [aC yl]at he;omega
   ·rw [aC px]at he hp
    by_cases yl:y∈eV N xss i
    ·rw [aF yl]at he;omega
    ·rw [aC yl]at he;exact ih he hp
theorem NL{xss:ah}{k:Nat}(hk:k<xss.length)(bL:k≠i):gl xss k∈xss.eraseIdx i:=by
 rw [List.mem_eraseIdx_iff_getElem];exact⟨k,hk,bL,by rw [cX hk]⟩
theorem NM{xss:ah}(h:p∈xss.eraseIdx i):∃k:Nat,k<xss.length/\k≠i/\p=gl xss k:=by
 rw [List.mem_eraseIdx_iff_getElem]at h;obtain⟨k,hk,bL,rfl⟩:=h;exact⟨k,hk,bL,by rw [cX hk]⟩
theorem Hb{xss:ah}(hM:eA xss){k:Nat}(hk:k<xss.length)(bL:k≠i){f:Int}(h0:0<=f)(h1:f< (gl xss 0).length):gi (dp xss i) (gi (gl xss k) f)=gi (dp xss i) f:=(E3 (hM.2.2.1.sys.erase i) (hM.2.2.1.inj.erase i) h0 h1 (.step .refl (NL hk bL)) _ (dh _)).symm
theorem Hc{xss:ah}(hM:eA xss){f g:Int}(h0:0<=f)(h1:f< (gl xss 0).length)(h2:0<=g)(h3:g< (gl xss 0).length)(h:gi (dp xss i) f=gi (dp xss i) g):Reach (xss.eraseIdx i) f g:=by
 obtain⟨k,rfl⟩:∃k:Nat,f=k:=⟨f.toNat,by omega⟩;exact J6 (hM.2.2.1.sys.erase i) (hM.2.2.1.inj.erase i) h0 h1 h2 h3 _ (dh _) h (CY hM i k (by omega)).1
theorem eA.two{xss:ah}(hM:eA xss){k:Nat}(hk:k<xss.length){f:Int}(h0:0<=f)(h1:f< (gl xss 0).length):gi (gl xss k) (gi (gl xss k) f)=f:=by
 obtain⟨q,rfl⟩:∃q:Nat,f=q:=⟨f.toNat,by omega⟩;have hr:=hM.2.2.1.at_ hk;exact(hr.2.2 q (by omega)).2
theorem eA.sP{xss:ah}(hM:eA xss){k:Nat}(hk:k<xss.length){f:Int}(h0:0<=f)(h1:f< (gl xss 0).length):0<=gi (gl xss k) f/\gi (gl xss k) f< (gl xss 0).length:=(hM.2.2.1.sys _ (by rw [cX hk];exact dU _)).2 f h0 h1
theorem eA.comm{xss:ah}(hM:eA xss){k:Nat}(hi:i<xss.length)(hk:k<xss.length)(qm:i+2<=k){f:Int}(h0:0<=f)(h1:f< (gl xss 0).length):gi (gl xss k) (gi (gl xss i) f)=gi (gl xss i) (gi (gl xss k) f):=by
 obtain⟨q,rfl⟩:∃q:Nat,f=q:=⟨f.toNat,by omega⟩;exact(hM.2.2.2.1 i hi k hk qm q (by omega)).1
def LT(a b:ai):Prop:=sS a b<0
instance (a b:ai):Decidable (LT a b):=by unfold LT;infer_instance
theorem LT.ne{a b:ai}(h:LT a b):a≠b:=fun e=>by
 unfold LT at h;rw [J9.2 e]at h;omega
def SL(l:ah):Prop:=l.Pairwise LT
theorem SL.nodup{l:ah}(h:SL l):l.Nodup:=h.imp fun h=>h.ne
def Ins(a b:ai):Prop:=∀x∈a,x∈b
instance (a b:ai):Decidable (Ins a b):=by unfold Ins;infer_instance
theorem F7{a b:ai}:LT (x::a) (y::b)↔x<y\/x=y/\LT a b:=by
 unfold LT;rw [sS]
 by_cases e:x=y
 ·subst e;rw [aF (zi.2 rfl)];constructor
  ·exact fun h=> .inr ⟨O,h⟩
  rintro(h | h)
  ·omega
  exact h.2
 rw [aC (fun h=>e (zi.1 h)),Nb];constructor
 ·exact fun h=> .inl h
 rintro(h | h)
 ·exact h
 exact absurd h.1 e
def F9(ls:ah)(x:ai):Prop:=x∈ls/\x≠[]/\∀y∈ls,Ins x y->y=x
instance (ls:ah)(x:ai):Decidable (F9 ls x):=by unfold F9;infer_instance
def Ct(x:ai):ah->Nat
 | []=>0
 | y::l=>if LT y x then Ct x l+1 else 0
def Ub(l:ah)(x:ai):ah:=if x∈l then l else l.take (Ct x l)++x::l.drop (Ct x l)
def KE(ls:ah):ah:=(ls.filter fun l=>decide (l≠[])).foldl Ub []
def NO(ls:ah):ah:=(KE ls).filter fun x=>decide (∀y∈KE ls,Ins x y->y=x)
def ix(s:ai)(x:Int):Int:=(s.idxOf x:Nat)
def Nz(ss:ah):ai:=cs ss.flatten
def FY(ss:ah):Prop:=(∃l∈ss,6<l.length)\/60< (Nz ss).length\/400< (NO ss).length
instance (ss:ah):Decidable (FY ss):=by unfold FY;infer_instance
def cI(n:Nat):ai:=(List.range n).map fun k:Nat=> (k:Int)
theorem BI(n:Nat):(cI n).length=n:=by simp [cI]
theorem oQ(n:Nat)(x:Int):x∈cI n↔0<=x/\x<n:=by
 simp only [cI,fh,fP];exact⟨fun⟨k,hk,e⟩=>by omega,fun h=> ⟨x.toNat,by omega,by omega⟩⟩
theorem nQ(n:Nat):SA (cI n):=by
 unfold SA cI;rw [List.pairwise_map];exact List.pairwise_lt_range.imp fun h=>by omega
theorem zB(x:Int)(l:ai)(i:Nat):gi (x::l) ((i+1:Nat):Int)=gi l (i:Nat):=by simp [gi]
theorem SA.qz{l:ai}(h:SA l)(pa:i<j)(hj:j<l.length):gi l i<gi l j:=by
 rw [bF (by omega),bF hj];exact List.pairwise_iff_getElem.1 h i j (by omega) hj pa
def iy(R:ai)(B:ah)(e:Int):ai:=(cI R.length).filter fun f=>decide (gi R f=gi R e+1/\e∈gl B f)
theorem lA{B:ah}{e f:Int}:f∈iy R B e↔(0<=f/\f<R.length)/\gi R f=gi R e+1/\e∈gl B f:=by
 unfold iy;rw [fZ,oQ,jL]
theorem yG(R:ai)(B:ah)(e:Int):SA (iy R B e):=lX _ (nQ _)
def kY(R:ai)(B:ah):Nat->Int->ah
 | 0,_=> [[]]
 | k+1,e=> (iy R B e).flatMap fun f=> (kY R B k f).map (f:: ·)
def qN(R:ai):ai:=(cI R.length).filter fun e=>decide (gi R e=0)
theorem tn{e:Int}:e∈qN R↔(0<=e/\e<R.length)/\gi R e=0:=by
 unfold qN;rw [fZ,oQ,jL]
def aA(n:Nat)(R:ai)(B:ah):ah:=(qN R).flatMap fun e=> (kY R B (n - 1) e).map (e:: ·)
def cW(n:Nat)(R:ai)(B:ah)(e:Int):Prop:=kY R B (n - 1 - (gi R e).toNat) e≠[]
instance (n:Nat)(R:ai)(B:ah)(e:Int):Decidable (cW n R B e):=by unfold cW;infer_instance
theorem Gs{n:Nat}{B:ah}{e:Int}(h:gi R e=(n:Int) - 1):cW n R B e:=by
 unfold cW;rw [show n - 1 - (gi R e).toNat=0 by omega];simp [kY]
theorem y7{n:Nat}{B:ah}{e:Int}(h0:0<=gi R e)(h1:gi R e< (n:Int) - 1):cW n R B e↔∃f∈iy R B e,cW n R B f:=by
 obtain⟨k,hk⟩:∃k,n - 1 - (gi R e).toNat=k+1:=⟨n - 1 - (gi R e).toNat - 1,by omega⟩;have hf:∀f∈iy R B e,n - 1 - (gi R f).toNat=k:=fun f hf=>by
  have:=(lA.1 hf).2.1;omega
 unfold cW;rw [hk,kY];constructor
 ·intro h;obtain⟨x,hx⟩:=List.exists_mem_of_ne_nil _ h;obtain⟨f,tP,hx⟩:=List.mem_flatMap.1 hx;obtain⟨y,hy,_⟩:=fh.1 hx;exact⟨f,tP,by rw [hf f tP];exact List.ne_nil_of_mem hy⟩
 rintro⟨f,tP,h⟩;rw [hf f tP]at h;obtain⟨y,hy⟩:=List.exists_mem_of_ne_nil _ h;exact List.ne_nil_of_mem (List.mem_flatMap.2 ⟨f,tP,fh.2 ⟨y,hy,O⟩⟩)
theorem C1{α β:Type}{p:α->Bool}{g:α->List β}:∀ {l:List α},(∀x∈l,p x=false->g x=[])->(l.filter p).flatMap g=l.flatMap g
 | [],_=>rfl
 | a::r,h=>by
  have ih:=C1 (p:=p) (g:=g) (l:=r) fun x hx=>h x (oY _ hx)
  cases hp:p a with
  | true=>rw [th hp,List.flatMap_cons,List.flatMap_cons,ih]
  | false=>rw [qJ (by simp [hp]),List.flatMap_cons,ih,h a (by simp) hp];rfl
theorem Lc{n:Nat}{B:ah}{e:Int}{k:Nat}(h0:0<=gi R e)(hk:(gi R e).toNat+ (k+1)=n - 1):kY R B (k+1) e=((iy R B e).filter fun f=>decide (cW n R B f)).flatMap fun f=> (kY R B k f).map (f:: ·):=by
 rw [kY,C1];intro f hf h;have h2:=(lA.1 hf).2.1;have h3:¬cW n R B f:=by simpa using h
 unfold cW at h3;rw [show n - 1 - (gi R f).toNat=k by omega]at h3;rw [kR.1 h3];rfl
theorem GG{n:Nat}{B:ah}:aA n R B=((qN R).filter fun f=>decide (cW n R B f)).flatMap fun e=> (kY R B (n - 1) e).map (e:: ·):=by
 rw [aA,C1];intro f hf h;have h2:=(tn.1 hf).2;have h3:¬cW n R B f:=by simpa using h
 unfold cW at h3;rw [h2]at h3;rw [show n - 1 - (0:Int).toNat=n - 1 by rfl]at h3;rw [kR.1 h3];rfl
def cap(l:ah):ah:=l.take 401
theorem CD(l:ah):(cap l).length<=401:=by unfold cap;rw [List.length_take];omega
theorem zh{l:ah}(m:ah)(h:400< (cap l).length):cap (l++m)=cap l:=by
 unfold cap at h|-;rw [mY]at h;rw [uH (by omega)]
theorem CC{l:ah}(h:(cap l).length<=400):cap l=l:=by
 unfold cap at h|-;rw [mY]at h;exact lD (by omega)
theorem zg{l:ah}:(cap l).length<=400↔l.length<=400:=by
 unfold cap;rw [mY];omega
theorem M5{l:ah}(x:ai)(h:(cap l).length<=400):cap (l++ [x])=cap l++ [x]:=by
 rw [CC h];rw [zg]at h;unfold cap;exact lD (by rw [eY,List.length_singleton];omega)
def wh(R:ai)(B:ah):Int->ai->Prop
 | _,[]=>True
 | e,f::r=>f∈iy R B e/\wh R B f r
theorem zr{R:ai}{B:ah}:∀ {k:Nat} {e:Int} {x:ai},x∈kY R B k e↔x.length=k/\wh R B e x
 | 0,e,x=>by
  rw [kY,eP];constructor
  ·rintro rfl;exact⟨rfl,av⟩
  ·exact fun h=>pM h.1
 | k+1,e,x=>by
  rw [kY,List.mem_flatMap];constructor
  ·rintro⟨f,hf,h⟩;obtain⟨y,hy,rfl⟩:=fh.1 h;obtain⟨h1,h2⟩:=zr.1 hy;exact⟨by rw [List.length_cons,h1],hf,h2⟩
  ·rintro⟨h1,h2⟩
   match x,h1,h2 with
   | f::r,h1,⟨h2,h3⟩=>exact⟨f,h2,fh.2 ⟨r,zr.2 ⟨by simpa using h1,h3⟩,rfl⟩⟩
theorem B5{R:ai}{B:ah}:∀ {x:ai} {e:Int},wh R B e x↔∀i:Nat,i<x.length->gi (e::x) ((i+1:Nat):Int)∈iy R B (gi (e::x) i)
 | [],e=>by simp [wh]
 | f::r,e=>by
  rw [wh,B5 (x:=r) (e:=f)];constructor
  ·rintro⟨h1,h2⟩ i hi
   match i with
   | 0=>exact h1
   | i+1=>
    rw [zB,zB];exact h2 i (by simpa using hi)
  ·intro h;refine⟨h 0 (by simp),fun i hi=>?_⟩;have:=h (i+1) (by simpa using hi)
   rwa [zB,zB]at this
theorem qT{n:Nat}(hn:1<=n){B:ah}{x:ai}:x∈aA n R B↔x.length=n/\(∀i:Nat,i<n->(0<=gi x i/\gi x i<R.length)/\gi R (gi x i)=i)/\∀i:Nat,i+1<n->gi x i∈gl B (gi x ((i+1:Nat):Int)):=by
 unfold aA;rw [List.mem_flatMap];constructor
 ·rintro⟨e,he,h⟩;obtain⟨y,hy,rfl⟩:=fh.1 h;obtain⟨h1,h2⟩:=zr.1 hy;obtain⟨h3,h4⟩:=tn.1 he;rw [B5]at h2;have key:∀i:Nat,i<n->(0<=gi (e::y) i/\gi (e::y) i<R.length)/\gi R (gi (e::y) i)=i:=by
   intro i
   induction i with
   | zero=>intro _;exact⟨h3,h4⟩
   | succ i ih=>
    intro hi;have h5:=lA.1 (h2 i (by omega));have h6:=ih (by omega);exact⟨h5.1,by rw [h5.2.1,h6.2];omega⟩
  exact⟨by rw [List.length_cons,h1];omega,key,fun i hi=> (lA.1 (h2 i (by omega))).2.2⟩
 ·rintro⟨h1,h2,h3⟩
  match x,h1,h2,h3 with
  | [],h1,_,_=>simp at h1;omega
  | e::y,h1,h2,h3=>
   rw [List.length_cons]at h1;refine⟨e,tn.2 (h2 0 (by omega)),fh.2 ⟨y,zr.2 ⟨by omega,B5.2 fun i hi=>?_⟩,O⟩⟩;have h4:=h2 (i+1) (by omega);have h5:=h2 i (by omega);exact lA.2 ⟨h4.1,by rw [h4.2,h5.2];omega,h3 i (by omega)⟩
theorem Cl{g:Int->ah}(hg:∀f,SL (g f)):∀ {l:ai},SA l->SL (l.flatMap fun f=> (g f).map (f:: ·))
 | [],_=>List.Pairwise.nil
 | a::l,h=>by
  obtain⟨h1,h2⟩:=List.pairwise_cons.1 h;rw [List.flatMap_cons,SL,List.pairwise_append];refine⟨List.pairwise_map.2 ((hg a).imp fun h=>F7.2 (.inr ⟨O,h⟩)),Cl hg h2,fun x hx y hy=>?_⟩;obtain⟨u,_,rfl⟩:=fh.1 hx;obtain⟨b,hb,hy⟩:=List.mem_flatMap.1 hy;obtain⟨v,_,rfl⟩:=fh.1 hy;exact F7.2 (.inl (h1 b hb))
theorem G7(R:ai)(B:ah):∀(k:Nat) (e:Int),SL (kY R B k e)
 | 0,_=>by simp [kY,SL]
 | k+1,e=>Cl (G7 R B k) (yG R B e)
theorem wJ(n:Nat)(R:ai)(B:ah):SL (aA n R B):=Cl (G7 R B (n - 1)) (lX _ (nQ _))
structure dm(n:Int)(R:ai)(B:ah):Prop where
 n1:1<=n/\n<=5
 jK:R.length<=500
 len:B.length=R.length
 jD:∀x∈R,0<=x/\x<=n - 1
 nm:mu R
 row:∀e:Nat,e<R.length->SA (gl B e)/\∀d∈gl B e,(0<=d/\d<R.length)/\gi R d<gi R e
 tr:∀e:Nat,e<R.length->∀d∈gl B e,∀c∈gl B d,c∈gl B e
theorem mu.le(h:mu R)(pa:i<=j)(hj:j<R.length):gi R i<=gi R j:=by
 rcases Nat.lt_or_eq_of_le pa with h1 | rfl
 ·rw [bF (by omega),bF hj];exact List.pairwise_iff_getElem.1 h i j (by omega) hj h1
 exact Int.le_refl _
theorem dm.at_{n:Int}{B:ah}(h:dm n R B){e:Int}(h0:0<=e)(h1:e<R.length):SA (gl B e)/\(∀d∈gl B e,(0<=d/\d<e)/\gi R d<gi R e)/\∀d∈gl B e,∀c∈gl B d,c∈gl B e:=by
 obtain⟨k,rfl⟩:∃k:Nat,e=k:=⟨e.toNat,by omega⟩;have hr:=h.row k (by omega);refine⟨hr.1,fun d hd=>?_,h.tr k (by omega)⟩;have h2:=hr.2 d hd;obtain⟨j,rfl⟩:∃j:Nat,d=j:=⟨d.toNat,by omega⟩;refine⟨⟨by omega,?_⟩,h2.2⟩;refine Int.not_le.1 fun hle=>?_
 have:=h.nm.le (i:=k) (j:=j) (by omega) (by omega);omega
theorem dm.ri{n:Int}{B:ah}(h:dm n R B){e:Int}(h0:0<=e)(h1:e<R.length):0<=gi R e/\gi R e<=n - 1:=by
 obtain⟨k,rfl⟩:∃k:Nat,e=k:=⟨e.toNat,by omega⟩;exact h.jD _ (gi_in (by omega))
def aV(M:ah):Nat->Nat
 | 0=>0
 | i+1=>aV M i+ (fK M i).toNat
def bS(M:ah):Nat->ai
 | 0=> []
 | i+1=>bS M i++List.replicate (fK M i).toNat (i:Int)
theorem nu(M:ah):∀i,(bS M i).length=aV M i
 | 0=>rfl
 | i+1=>by rw [bS,eY,nu M i,List.length_replicate];rfl
def cK(M:ah)(i:Nat)(f:Nat):Int:=(aV M i:Int)+gi (dp M i) f
theorem jU(M:ah)(h:i<=j):aV M i<=aV M j:=by
 induction h with
 | refl=>exact dh _
 | step _ ih=>exact jb ih (by show _<=aV M _+_;omega)
theorem sd(hM:eA M){f:Nat}(hf:f< (gl M 0).length):(aV M i:Int)<=cK M i f/\cK M i f< (aV M (i+1):Int):=by
 have h1:=CY hM i f hf;unfold cK;show _/\_< ((aV M i+ (fK M i).toNat:Nat):Int);omega
theorem wK{n:Nat}:∀ {i:Nat},i<n->∀ {e:Int},(aV M i:Int)<=e->e< (aV M (i+1):Int)->gi (bS M n) e=i:=by
 induction n with
 | zero=>intro i hi;omega
 | succ n ih=>
  intro i hi e h0 h1;obtain⟨k,rfl⟩:∃k:Nat,e=k:=⟨e.toNat,by omega⟩;have hl:=nu M n
  by_cases h:i=n
  ·subst h;rw [bS,gi,cz,lZ (by rw [hl];omega),List.getElem?_replicate,aF]
   ·rfl
   ·have:aV M (i+1)=aV M i+ (fK M i).toNat:=O;rw [hl];omega
  ·have h3:=jU M (show i+1<=n by omega);have h2:=ih (show i<n by omega) h0 h1;rw [bS,gi,cz,lY (by rw [hl];omega),<-cz];exact h2
theorem Oe{n:Nat}{e:Int}(h0:0<=e)(h1:e< (aV M n:Int)):∃i,i<n/\(aV M i:Int)<=e/\e< (aV M (i+1):Int):=by
 induction n with
 | zero=>have:aV M 0=0:=rfl;omega
 | succ n ih=>
  by_cases h:e< (aV M n:Int)
  ·obtain⟨i,hi,h2⟩:=ih h;exact⟨i,by omega,h2⟩
  ·exact⟨n,by omega,by omega,h1⟩
theorem C2(M:ah):∀n,mu (bS M n)/\∀x∈bS M n,0<=x/\x< (n:Int)
 | 0=> ⟨List.Pairwise.nil,fun x hx=>by cases hx⟩
 | n+1=>by
  obtain⟨h1,h2⟩:=C2 M n;refine⟨?_,fun x hx=>?_⟩
  ·rw [bS,mu,List.pairwise_append];refine⟨h1,List.pairwise_replicate.2 (.inr (Int.le_refl _)),fun x hx y hy=>?_⟩;have:=h2 x hx;have:=(List.mem_replicate.1 hy).2;omega
  ·rw [bS]at hx;rcases gL.1 hx with h | h
   ·have:=h2 x h;omega
   ·have:=(List.mem_replicate.1 h).2;omega
def qI(M:ah)(d e:Int):Prop:=∃f:Nat,f< (gl M 0).length/\∃i:Nat,i<M.length/\∃k:Nat,k<i/\e=cK M i f/\d=cK M k f
open Classical in
noncomputable def bP(M:ah):ah:=(cI (aV M M.length)).map fun e=> (cI (aV M M.length)).filter fun d=>decide (qI M d e)
theorem oj(M:ah):(bP M).length=aV M M.length:=by simp [bP,cI]
theorem mA{e:Int}(h0:0<=e)(h1:e< (aV M M.length:Int))(d:Int):d∈gl (bP M) e↔(0<=d/\d< (aV M M.length:Int))/\qI M d e:=by
 obtain⟨k,rfl⟩:∃k:Nat,e=k:=⟨e.toNat,by omega⟩;rw [cX (by rw [oj];omega)];unfold bP;rw [List.getElem_map,fZ,oQ];have:(cI (aV M M.length))[k]'(by rw [BI];omega)=(k:Int):=by simp [cI]
 rw [this];exact and_congr Iff.rfl (by simp)
theorem qI.jD(hM:eA M){e:Int}(h:qI M d e):(0<=d/\d< (aV M M.length:Int))/\(0<=e/\e< (aV M M.length:Int))/\gi (bS M M.length) d<gi (bS M M.length) e:=by
 obtain⟨f,hf,i,hi,k,hk,rfl,rfl⟩:=h;have h1:=sd hM (i:=i) hf;have h2:=sd hM (i:=k) hf;have h3:=jU M (show i+1<=M.length by omega);have h4:=jU M (show k+1<=M.length by omega);refine⟨by omega,by omega,?_⟩;rw [wK hi h1.1 h1.2,wK (show k<M.length by omega) h2.1 h2.2];omega
theorem K3(h:p∈M.take j):∃k:Nat,k<j/\k<M.length/\p=gl M k:=by
 obtain⟨k,hk,rfl⟩:=eZ.1 h;rw [mY]at hk;exact⟨k,by omega,by omega,by rw [List.getElem_take,cX (by omega)]⟩
theorem Ka(hM:eA M)(j:Nat):Sys (gl M 0).length (M.take j):=fun p hp=>hM.2.2.1.sys p (List.mem_of_mem_take hp)
theorem SV(hM:eA M)(h0:0<=y)(h1:y< (gl M 0).length)(h:Reach (M.take j) y u):∀i:Nat,j<=i->gi (dp M i) u=gi (dp M i) y:=by
 induction h with
 | refl=>exact fun _ _=>rfl
 | step h hp ih=>
  intro i hi;have hr:=h.range (Ka hM j) h0 h1;obtain⟨k,IZ,hk,rfl⟩:=K3 hp;rw [Hb hM hk (by omega) hr.1 hr.2,ih i hi]
theorem SU(hM:eA M){k:Nat}(Ak:j<k)(hk:k<M.length)(h0:0<=y)(h1:y< (gl M 0).length)(h:Reach (M.take j) y u):Reach (M.take j) (gi (gl M k) y) (gi (gl M k) u):=by
 induction h with
 | refl=>exact .refl
 | step h hp ih=>
  have hr:=h.range (Ka hM j) h0 h1;obtain⟨i,pa,hi,rfl⟩:=K3 hp;rw [hM.comm hi hk (by omega) hr.1 hr.2];exact .step ih hp
theorem UJ(hM:eA M){f:Int}(h0:0<=f)(h1:f< (gl M 0).length){g:Int}(h:Reach (M.eraseIdx j) f g):
 ∃u:Int,(0<=u/\u< (gl M 0).length)/\(∀i:Nat,i<=j->gi (dp M i) u=gi (dp M i) f)/\∀i:Nat,j<=i->gi (dp M i) u=gi (dp M i) g:=by
 have key:∃u:Int,(0<=u/\u< (gl M 0).length)/\(∀i:Nat,i<=j->gi (dp M i) u=gi (dp M i) f)/\Reach (M.take j) g u:=by
  induction h with
  | refl=>exact⟨f,⟨h0,h1⟩,fun _ _=>rfl,.refl⟩
  | step h hp ih=>
   rename_i y p;obtain⟨u,hu,dF,hr⟩:=ih;have nJ:=h.range (hM.2.2.1.sys.erase j) h0 h1;obtain⟨k,hk,IZ,rfl⟩:=NM hp;rcases Nat.lt_or_gt_of_ne IZ with eQ | Ah
   ·refine⟨u,hu,dF,?_⟩;have hm:gl M k∈M.take j:=by
     rw [eZ];exact⟨k,by rw [mY];omega,by rw [List.getElem_take,cX hk]⟩
    have h2:Reach (M.take j) (gi (gl M k) y) (gi (gl M k) (gi (gl M k) y)):= .step .refl hm;rw [hM.two hk nJ.1 nJ.2]at h2;exact h2.trans hr
   ·refine⟨gi (gl M k) u,hM.sP hk hu.1 hu.2,fun i hi=>?_,SU hM Ah hk nJ.1 nJ.2 hr⟩;rw [Hb hM hk (by omega) hu.1 hu.2,dF i hi]
 obtain⟨u,hu,dF,hr⟩:=key;have hg:=h.range (hM.2.2.1.sys.erase j) h0 h1;exact⟨u,hu,dF,SV hM hg.1 hg.2 hr⟩
theorem qI.trans(hM:eA M){c e:Int}(h:qI M c d)(h':qI M d e):qI M c e:=by
 obtain⟨f,hf,j,hj,k,hk,rfl,rfl⟩:=h;obtain⟨g,hg,i,hi,l,hl,rfl,e2⟩:=h';have h1:=sd hM (i:=j) hf;have h2:=sd hM (i:=l) hg;have je:j=l:=by
  rcases Nat.lt_trichotomy j l with h | h | h
  ·have:=jU M (show j+1<=l by omega);omega
  ·exact h
  have:=jU M (show l+1<=j by omega);omega
 subst je;have e3:gi (dp M j) f=gi (dp M j) g:=by unfold cK at e2;omega
 obtain⟨u,hu,dF,bU⟩:=UJ hM (j:=j) (f:=(f:Int)) (by omega) (by omega) (Hc hM (by omega) (by omega) (by omega) (by omega) e3);refine⟨u.toNat,by omega,i,hi,k,by omega,?_,?_⟩
 ·unfold cK;rw [Int.toNat_of_nonneg hu.1,bU i (by omega)]
 unfold cK;rw [Int.toNat_of_nonneg hu.1,dF k (by omega)]
theorem Of(hM:eA M)(hb:aV M M.length<=500):dm M.length (bS M M.length) (bP M):=by
 have h1:=hM.1;have hl:=nu M M.length;obtain⟨ha,hr⟩:=C2 M M.length;refine⟨by omega,by omega,by rw [oj,hl],fun x hx=>?_,ha,fun e he=> ⟨?_,fun d hd=>?_⟩,fun e he d hd c hc=>?_⟩
 ·have:=hr x hx;omega
 ·rw [cX (by rw [oj];omega)];unfold bP;rw [List.getElem_map];exact lX _ (nQ _)
 ·rw [mA (by omega) (by omega)]at hd;have:=hd.2.jD hM;exact⟨by omega,this.2.2⟩
 rw [mA (by omega) (by omega)]at hd|-;rw [mA (by omega) (by omega)]at hc;exact⟨hc.1,hc.2.trans hM hd.2⟩
end
section
open Go.RowKit
section
variable {P:Program} {N:Nat} {ops:Array Oper} {K:Env->aa->Prop} {rest:List Oper} {e:Env} {w0 w w':aa} {ks:List Ck} {d:Nat} {ty:ae} {pos:String} {af:Array Edge}
def KI(a n u:Nat)(R:ad->aa->Prop):gu
 | .normal,e,w=>∃A f,e a= .pointer A/\Rd w A n f/\R (.tuple #[.agg ((List.range n).map f).toArray,e u]) w
 | .ret,e,w=>∃A f,e a= .pointer A/\Rd w A n f/\R (.tuple #[.agg ((List.range n).map f).toArray,e u]) w
 | _,_,_=>False
theorem yz{a n u:Nat}{R:ad->aa->Prop}{A:aj}{f:Nat->ad}{v:ad}(h:e a= .pointer A)(hR:Rd w A n f)(hv:e u=v)(h2:R (.tuple #[.agg ((List.range n).map f).toArray,v]) w):KI a n u R .ret e w:=⟨A,f,h,hR,by rw [hv];exact h2⟩
theorem Fs{fn:Func}{R:ad->aa->Prop}{a t n b u:Nat}{fs:Array Field}{z:ad}[bG P t (.struct fs)][bJ P t z n b](hr:fn.results= #[.cell a t,.tmp u])(tZ:Nat.blt 0 n=true):∀x a1 e w,gC N a1 e->KI a n u R x e w->bodyPost P fn (fun x w'=>∃v,x= .returned v/\R v w') x a1 w:=by
 intro x a1 e w he q;have hn:0<n:=by simpa [Nat.blt_eq]using tZ
 have hg:=he.get a;have hh:=he.get u;have key:∀(A:aj) (f:Nat->ad),e a= .pointer A->Rd w A n f->(results fn a1.tmps).run P w= .ok (.tuple #[.agg ((List.range n).map f).toArray,e u]) w:=by
  intro A f hA hR;obtain⟨q,rfl,hl⟩:=KP (P:=P) (t:=t) hn hR;rw [fU]at hg hh;simp [results,hr,hg,hh,hA,asAddr,hl]
 cases x<;>first
  | exact q.elim
  | (
   obtain⟨A,f,hA,hR,h2⟩:=q;exact⟨he.defers,_,key A f hA hR,_,O,h2⟩)
end
section
variable{t:ae}{b0 b1 b2:Nat}{bs:ai}
variable {P:Program} {N:Nat} {ops:Array Oper} {K:Env->aa->Prop} {rest:List Oper} {e:Env} {w0 w w':aa} {ks:List Ck} {d:Nat} {ty:ae} {pos:String} {af:Array Edge}
theorem LR{el:ae}{x:ag}{v0 v1 v2:ad}(hS:St w0 w ks)(hx:ev e x= .agg #[v0,v1,v2])(hb:Nat.blt d N=true)(hK:∀A w',St w0 w' (Bx el 3 A [v0,v1,v2]::ks)->ao P N ops K rest (bj e d (.pointer A)) w')(hM:eg [v0,v1,v2]=false:=by rfl):ao P N ops K (⟨some d,.box el x,ty,pos,af,none⟩::rest) e w:= .Cy hS hx hb rfl hK hM
variable {x y:ag} {xt yt:ae} {i j:Int}
theorem Lg(i:Int):0<=IntKind.u64.wrap i/\IntKind.u64.wrap i<=18446744073709551615:=by rw [IntKind.wrap_u64];omega
theorem Ge(hx:ev e x= .int .u64 i)(hy:ev e y= .int .u64 j)(hb:Nat.blt d N=true)(hK:∀r:Int,0<=r/\r<=18446744073709551615->ao P N ops K rest (bj e d (.int .u64 r)) w):
 ao P N ops K (⟨some d,.binOp .mul xt x y yt,ty,pos,af,none⟩::rest) e w:=
 .val (by simp [execOp,hx,hy,eqGuard,binOp,Op.intArith]) hb (hK _ (Lg (i*j)))
theorem yW(hx:ev e x= .int .u64 i)(hy:ev e y= .int .u64 j)(hb:Nat.blt d N=true)(hK:∀r:Int,0<=r/\r<=18446744073709551615->ao P N ops K rest (bj e d (.int .u64 r)) w):
 ao P N ops K (⟨some d,.binOp .add xt x y yt,ty,pos,af,none⟩::rest) e w:=
 .val (by simp [execOp,hx,hy,eqGuard,binOp,Op.intArith]) hb (hK _ (Lg (i+j)))
theorem MQ(i:Int):0<=bits .and .u64 i 16777215/\bits .and .u64 i 16777215<=16777215:=by
 have h:∀a:BitVec 64,(a &&& BitVec.ofInt 64 16777215).toNat<=16777215:=fun a=>by
  rw [BitVec.toNat_and];exact Nat.and_le_right
 have e:bits .and .u64 i 16777215=IntKind.u64.wrap ((BitVec.ofInt 64 i &&& BitVec.ofInt 64 16777215).toNat:Int):=O;have:=h (BitVec.ofInt 64 i);rw [e,IntKind.wrap_u64];omega
theorem LM(hx:ev e x= .int .u64 i)(hy:ev e y= .int .u64 16777215)(hb:Nat.blt d N=true)(hK:∀r:Int,0<=r/\r<=16777215->ao P N ops K rest (bj e d (.int .u64 r)) w):
 ao P N ops K (⟨some d,.binOp .and xt x y yt,ty,pos,af,none⟩::rest) e w:=
 .val (by simp only [execOp,hx,hy,eqGuard,binOp,intBits_and];simp) hb (hK _ (MQ i))
theorem L9{k:IntKind}(hx:ev e x= .int .u64 i)(hy:ev e y= .int k 33)(hb:Nat.blt d N=true)(hK:∀r:Int,ao P N ops K rest (bj e d (.int .u64 r)) w):
 ao P N ops K (⟨some d,.binOp .shr xt x y yt,ty,pos,af,none⟩::rest) e w:=by
 refine .val (v:= .int .u64 (i.fdiv (2^33))) ?_ hb (hK _);have e1:min 33 IntKind.u64.bits=33:=by decide
 simp [execOp,hx,hy,eqGuard,binOp,Op.shift,e1]
def nj(w:aa)(A:aj)(n:Nat)(bs:ai):Prop:=bs.length=n/\(∀b∈bs,0<=b/\b<=255)/\Rd w A n (fun j=> .int .u8 (bs.getD j 0))
theorem nj.below{w w':aa}{A:aj}{n:Nat}(h:nj w A n bs)(hb:Below w.heap.size w w'):nj w' A n bs:=⟨h.1,h.2.1,Rd.below h.2.2 hb⟩
theorem nj.at_{A:aj}{n:Nat}(h:nj w A n bs){j:Int}(h0:0<=j)(h1:j<n):0<=bs.getD j.toNat 0/\bs.getD j.toNat 0<=255:=by
 have hl:j.toNat<bs.length:=by rw [h.1];omega
 rw [cz,eS hl];exact h.2.1 _ (dU hl)
theorem Gc{u:TypeDesc}[bG P t u]{A:aj}{n:Nat}(hR:nj w A n bs)(hx:ev e x= .pointer (aD A i.toNat))(h1:i.toNat<n)(hp:rM u=true)(hb:Nat.blt d N=true)(hK:ao P N ops K rest (bj e d (.int .u8 (bs.getD i.toNat 0))) w):ao P N ops K (⟨some d,.load t x,ty,pos,af,none⟩::rest) e w:=
 .ld hR.2.2 hx h1 rfl hp hb hK
def vJ:Nat->ai->List (Nat×ad)
 | _,[]=> []
 | k,v::r=> (k,.int .i64 v)::vJ (k+1) r
theorem Hg:∀(vs:ai) (k:Nat) (cells:Array ad),k+vs.length<=cells.size->∃out,Instr.fill (fun i=>some (i*1,1)) cells (vJ k vs)=some out/\out.size=cells.size/\(∀j,j<k->out[j]?=cells[j]?)/\(∀j,j<vs.length->out[k+j]?=vs[j]?.map (Value.int .i64))/\(∀j,k+vs.length<=j->out[j]?=cells[j]?)
 | [],k,cells,_=> ⟨cells,rfl,rfl,fun _ _=>rfl,fun j hj=>absurd hj (gM _),fun _ _=>rfl⟩
 | v::r,k,cells,h=>by
  have hk:k<cells.size:=by simp at h;omega
  obtain⟨out,h1,h2,h3,h4,h5⟩:=Hg r (k+1) (cells.setIfInBounds k (ak v)) (by simp at h|-;omega);refine⟨out,?_,by rw [h2];simp,fun j hj=>?_,fun j hj=>?_,fun j hj=>?_⟩
  ·show Instr.fill _ cells ((k,ak v)::vJ (k+1) r)=some out;rw [<-h1];simp [Instr.fill,Value.cells,show ¬cells.size<k+1 by omega]
  ·rw [h3 j (by omega),qH,aC (by omega)]
  ·cases j with
   | zero=>rw [Nat.add_zero,h3 k (by omega),qH,aF rfl,aF hk];rfl
   | succ q=>
    have:=h4 q (by simpa using hj);rw [show k+ (q+1)=k+1+q by omega,this]
    rfl
  ·rw [h5 j (by simp at hj|-;omega),qH,aC (by simp at hj;omega)]
theorem NV(vs:ai)(cells:Array ad)(h:cells.size=vs.length):Instr.fill (fun i=>some (i*1,1)) cells (vJ 0 vs)=some (vs.map (Value.int .i64)).toArray:=by
 obtain⟨out,h1,h2,_,h4,_⟩:=Hg vs 0 cells (by omega);rw [h1]
 congr 1
 apply Array.ext';apply List.ext_getElem?;intro j
 by_cases hj:j<vs.length
 ·have:=h4 j hj;rw [Nat.zero_add]at this;simpa using this
 rw [oX (by simpa [h2,h]using hj),oX (by simpa using hj)]
theorem pP{el:ae}{z:ad}{b n:Nat}[bG P t (.slice el)][bJ P el z 1 b]{ps:Array (Nat×ag)}(vs:ai)(hS:St w0 w ks)(hv:(ps.toList.map fun p=> (p.1,ev e p.2))=vJ 0 vs)(hn:vs.length=n)(pf:n≠0)(sH:n<=1000)(hz:z.cells= #[z])(hb:Nat.blt d N=true)(hK:∀A w',St w0 w' (aw el A n n vs::ks)->ao P N ops K rest (bj e d (.slice A n n)) w'):ao P N ops K (⟨some d,.buildSlice t n ps,ty,pos,af,none⟩::rest) e w:=by
 subst hn;obtain⟨inf,hi,fH,hs,iT⟩:=bJ.get P el;have hA:=hS.alloc (vs.map (Value.int .i64)) el (by simp [maxLen];omega) (qx _);refine .val (w':=w.alloc (.cells (vs.map (Value.int .i64)).toArray el)) ?_ hb (hK _ _ (by simpa [aw]using hA));have hf:=NV vs ((Array.range (vs.length*1)).map ((#[z]:Array ad)[· % (#[z]:Array ad).size]!)) (by simp);have oK:(ps.map fun p=> (p.1,ev e p.2)).toList=vJ 0 vs:=by rw [Array.toList_map];exact hv
 have Dg:¬16777216<vs.length:=by omega
 simp only [Nat.mul_one]at hf;simp [execOp,Instr.buildSlice,run_underlying (bG.out (P:=P) (t:=t)),sizeOf,typeInfo,zeroValue,hi,hs,fH,hz,newRow,hv,Dg,pf];simp at hf;simp [hf]
theorem LP{f0 f1 f2:Field}{z0 z1 z2 y0 y1 y2:ad}{b:Nat}[bG P t (.struct #[f0,f1,f2])][bJ P t (.agg #[z0,z1,z2]) 3 b]{x0 x2:ag}{v0 v2:ad}(wU:bJ P f0.type y0 1 b0)(sl:bJ P f1.type y1 1 b1)(qe:bJ P f2.type y2 1 b2)(ho:f0.offset=0)(xT:f1.offset=1)(Jc:f2.offset=2)(h0:ev e x0=v0)(h2:ev e x2=v2)(c0:v0.oneCell'=true)(c2:v2.oneCell'=true)(hb:Nat.blt d N=true)(hK:ao P N ops K rest (bj e d (.agg #[v0,z1,v2])) w):ao P N ops K (⟨some d,.build t #[(0,x0),(2,x2)],ty,pos,af,none⟩::rest) e w:=by
 obtain⟨inf,hi,fH,hs,iT⟩:=bJ.get P t;obtain⟨JM,mI,_,uf,_⟩:=wU.get P f0.type;obtain⟨JN,mg,_,xZ,_⟩:=sl.get P f1.type;obtain⟨ES,xy,_,x3,_⟩:=qe.get P f2.type;have e0:v0.cells= #[v0]:=by cases v0<;>simp [Value.oneCell']at c0<;>rfl
 have e2:v2.cells= #[v2]:=by cases v2<;>simp [Value.oneCell']at c2<;>rfl
 have ez:(Value.agg #[z0,z1,z2]).cells= #[z0,z1,z2]:=O;refine .val (w':=w) ?_ hb hK;simp [execOp,Instr.build,run_underlying (bG.out (P:=P) (t:=t)),sizeOf,typeInfo,zeroValue,hi,fH,mI,uf,mg,xZ,xy,x3,ho,xT,Jc,h0,e0,h2,e2,ez,Instr.fill]
end
section
variable {P:Program} {N:Nat} {ops:Array Oper} {K:Env->aa->Prop} {rest:List Oper} {e:Env} {w:aa} {d:Nat} {ty:ae} {pos:String} {af:Array Edge} {x y:ag} {xt yt:ae} {i:Int}
theorem L7{k:IntKind}(hx:ev e x= .int .u64 i)(hy:ev e y= .int k 1)(hb:Nat.blt d N=true)(h0:0<=i)(hK:ao P N ops K rest (bj e d (.int .u64 (i / 2))) w):
 ao P N ops K (⟨some d,.binOp .shr xt x y yt,ty,pos,af,none⟩::rest) e w:=by
 refine .val (v:= .int .u64 (i / 2)) ?_ hb hK;have e1:min 1 IntKind.u64.bits=1:=by decide
 have e2:i.fdiv 2=i / 2:=Int.fdiv_eq_ediv_of_nonneg _ (by decide);simp [execOp,hx,hy,eqGuard,binOp,Op.shift,e1,e2]
end
section
variable {w:aa} {e:Env}
theorem Fw{R:ad->aa->Prop}{t u:Nat}{b:Bool}{k:IntKind}{i:Int}(h:e t= .int k i)(h2:e u= .bool b)(hR:R (.tuple #[.int k i,.bool b]) w):vU t u R .ret e w:=by show R (.tuple #[e t,e u]) w;rw [h,h2];exact hR
end
theorem Nf(x:Int)(w:aa):aJ prog 233 [ak x] w (fun v w'=>v= .bool (decide (¬x=x))/\w'=w):=by
 refine br func233 O ntmps233 O (cw O) (F1 O (cH O ?_));exact⟨O,O⟩
theorem GL(x y:Int)(w:aa):aJ prog 186 [ak x,ak y] w (fun v w'=>v= .bool (decide (x<y))/\w'=w):=by
 refine br func186 O ntmps186 O (cw O) (a8 O (aI (Nf x w) O ?_));rintro _ _ ⟨rfl,rfl⟩;refine ar O (bY 7 O (fun h=>absurd O h) (fun _=>?_));refine az O (az O (az O (ar O (au O (ar O (au O (ar O (au O (bI O ?_)))))))));exact cH O ⟨O,O⟩
theorem UB(x:Int)(w:aa):aJ prog 187 [ak x] w (fun v w'=>v= .bool (decide (¬x=x))/\w'=w):=by
 refine br func187 O ntmps187 O (cw O) (F1 O (cH O ?_));exact⟨O,O⟩
theorem Cv(A:aj)(n c:Nat)(xs:ai)(x:Int)(w:aa)(hR:bu w A n xs)(hs:SA xs)(hn:n<=1000000000):
 aJ prog 116 [.slice A n c,ak x] w (fun v w'=> (∃k:Int,v= .tuple #[ak k,.bool (decide (x∈xs))])/\w'=w):=by
 have eu:=hR.1;refine br func116 O ntmps116 O (jw O) ?_;refine a8 O (ba O O (aE O ?_));refine Cd.loop (α:=Nat×Nat) (fun z=> [(0,.slice A n c),(1,ak x),(6,ak n),(7,ak (z.1:Int)),(8,ak (z.2:Int))]) (fun z w'=>w'=w/\z.1<=z.2/\z.2<=n/\(∀p:Nat,p<z.1->gi xs p<x)/\∀p:Nat,z.2<=p->p<n->x<=gi xs p) (fun z=>z.2 - z.1) (0,n) (WM O) ⟨O,bn _,dh _,fun p hp=>absurd hp (gM _),fun p hp fo=>by have hp:n<=p:=hp;omega⟩ ?_;rintro⟨i,j⟩ e w ⟨rfl,pa,tU,dF,bU⟩;dsimp only at pa tU dF bU|-;refine bX O (aN _ O (fun h1=>?_) (fun h1=>?_))
 ·refine aG O (aK O ?_);refine nZ O O (rT _ (by omega)) (L7 O O O (by omega) (nZ O O (IntWalk.i64_in _ (by omega)) ?_));obtain⟨h,hh⟩:∃h:Nat,h=(i+j) / 2:=⟨_,rfl⟩;rw [show((i:Int)+ (j:Int)) / 2=(h:Int) by omega];refine ar O (aB hR.2 O (aW hR O (ar O (aI (GL _ _ _) O ?_))));rintro _ _ ⟨rfl,rfl⟩;refine aE O (aN _ O (fun h2=>?_) (fun h2=>?_))
  ·refine aG O (aK O (aR O (tQ ?_)));refine⟨(h+1,j),by show j - (h+1)<j - i;omega,(WM O),O,by show h+1<=j;omega,tU,fun p hp=>?_,bU⟩;have hp:p<h+1:=hp
   by_cases e:p=h
   ·subst e;exact h2
   have:=hs.qz (show p<h by omega) (by omega);omega
  refine wm O (tQ ?_);refine⟨(i,h),by show h - i<j - i;omega,(WM O),O,by show i<=h;omega,by show h<=n;omega,dF,fun p hp fo=>?_⟩;have hp:h<=p:=hp
  by_cases e:p=h
  ·subst e;omega
  have:=hs.qz (show h<p by omega) (by omega);omega
 obtain rfl:i=j:=by omega
 have fC:∀p:Nat,p<n->gi xs p=x->p=i:=fun p hp hx=>by
  rcases Nat.lt_trichotomy p i with h | h | h
  ·have:=dF p h;omega
  ·exact h
  have h3:=hs.qz h (by omega);have h4:=bU i (dh _) (by omega);omega
 have gS:x∈xs↔i<n/\gi xs i=x:=by
  constructor
  ·intro hm;obtain⟨p,hp,e⟩:=eZ.1 hm;have e2:gi xs p=x:=by rw [bF hp];exact e
   have:=fC p (by omega) e2;subst this;exact⟨by omega,e2⟩
  rintro⟨h2,h3⟩;rw [<-h3];exact gi_in (by omega)
 refine bk O (bm (ct O ?_));refine bY 35 O (fun h2=>?_) (fun h2=>?_)
 ·refine au O (ar O (au O (ar O (au O ?_))));refine aB hR.2 O (au O (aW hR O ?_));refine au O (ar O (au O (ar O (au O (ar O ?_)))));refine bY 42 O (fun h3=>?_) (fun h3=>?_)
  ·refine az O (az O (az O (az O (az O (az O (cg O O O O (cg O O O O (az O (au O (bI O ?_))))))))));refine Fw O O ?_;exact⟨⟨_,by rw [eD (gS.2 ⟨by omega,h3⟩)]⟩,O⟩
  refine au O (ar O (au O (ar O (au O ?_))));refine aB hR.2 O (au O (aW hR O (au O (aI (UB _ _) O ?_))));rintro _ _ ⟨rfl,rfl⟩;refine au O (ar O ?_);refine bY 48 O (fun h=>absurd O h) (fun _=>?_);refine az O (az O (au O (ar O (au O (bI O ?_)))));refine Fw O O ?_;exact⟨⟨_,by rw [cS (fun h=>h3 (gS.1 h).2)]⟩,O⟩
 refine az O (az O (az O (az O (az O (az O (az O (cg O O O O (cg O O O O (cg O O O O (cg O O O O (cg O O O O ?_)))))))))));refine cg O O O O (cg O O O O (cg O O O O (cg O O O O (az O (bI O ?_)))));refine Fw O O ?_;exact⟨⟨_,by rw [cS (fun h=>by have:=(gS.1 h).1;omega)]⟩,O⟩
theorem Rw(P A D:aj)(cA r cD:Nat)(n:Int)(N:Nat)(rs:List aL)(B:ah)(e f:Int)(w:aa)(hP:Rd w P 3 (fun j=> [Value.int .i64 n,.slice A r cA,.slice D N cD].getD j undef))(hB:bq w D N rs B)(iH:B.length=N)(hf:0<=f/\f<N)(hs:SA (gl B f))(hl:(gl B f).length<=1000000):
 aJ prog 107 [.pointer P,ak e,ak f] w (fun v w'=>v= .bool (decide (e∈gl B f))/\w'=w):=by
 have bH:=hB.at_ (i:=f) hf.1 hf.2;have fp:=bH.1;refine br func107 O ntmps107 O (cw O) (a8 O ?_);refine kb hP (by decide) O O (aS hP O (aZ hP O (ar O (aB hB.top.2 O (ck hB.top O (ar O (aI (Cv _ _ _ (gl B f) e w bH hs (by omega)) O ?_)))))));rintro _ _ ⟨⟨k,rfl⟩,rfl⟩;refine bI O (cH O ?_);exact⟨O,O⟩
theorem py(P A D:aj)(cA cD:Nat)(n:Int)(R:ai)(rs:List aL)(B:ah)(e f:Int)(w:aa)(hP:Rd w P 3 (fun j=> [Value.int .i64 n,.slice A R.length cA,.slice D B.length cD].getD j undef))(hB:bq w D B.length rs B)(hf:0<=f/\f<B.length)(hs:SA (gl B f))(hl:(gl B f).length<=1000000):
 aJ prog 107 [.pointer P,ak e,ak f] w (fun v w'=>v= .bool (decide (e∈gl B f))/\w'=w):=
 Rw P A D cA R.length cD n B.length rs B e f w hP hB rfl hf hs hl
theorem E9{t1 t2:ae}{A:aj}{n c:Nat}{rs:List aL}{xss:ah}{ks:List Ck}{q:Ck}{i:Nat}(s:aL)(xs:ai)(hr:rs.length=xss.length)(hi:i<rs.length):(q::(aQ t1 t2 A n c rs xss++ks)).set (2+i) (aw t2 s.a s.n s.c xs)=q::(bE t1 A n c rs::(b6 t2 (rs.set i s) (xss.set i xs)++ks)):=by
 rw [show 2+i=i+1+1 by omega,List.set_cons_succ];show _::(bE t1 A n c rs::(b6 t2 rs xss++ks)).set (i+1) _=_;rw [List.set_cons_succ,List.set_append_left _ _ (by rw [s6 hr];exact hi),Fz hr]
def gD(M:ah)(i f:Nat):ah:=(List.range (gl M 0).length).map fun g=> (List.range (if g<f then i+1 else i)).map fun k=>cK M k g
def k6(M:ah):ah:=(List.range (gl M 0).length).map fun g=> (List.range M.length).map fun k=>cK M k g
theorem zA(M:ah)(i f:Nat):(gD M i f).length=(gl M 0).length:=by simp [gD]
theorem Oc(M:ah)(f:Nat)(h:f=0):gD M 0 f=List.replicate (gl M 0).length []:=by
 subst h;apply ia (by simp [gD]);intro i h1 h2;simp [gD]
theorem Oa(M:ah)(i:Nat):gD M i (gl M 0).length=gD M (i+1) 0:=by
 unfold gD;refine kS fun g hg=>?_
 rw [aF (fP.1 hg),aC (gM _)]
theorem N9(M:ah):gD M M.length 0=k6 M:=by
 unfold gD k6;exact kS fun g _=>by rw [aC (gM _)]
theorem zz{M:ah}{i f g:Nat}(hg:g< (gl M 0).length):gl (gD M i f) g=(List.range (if g<f then i+1 else i)).map fun k=>cK M k g:=by
 rw [cX (by rw [zA];exact hg)];simp [gD]
theorem Ob{M:ah}{i f:Nat}(hf:f< (gl M 0).length):(gD M i f).set f (gl (gD M i f) f++ [cK M i f])=gD M i (f+1):=by
 apply ia (by simp [gD]);intro g h1 h2;have hg:g< (gl M 0).length:=by rw [zA]at h2;exact h2
 rw [List.getElem_set];have e:(gD M i (f+1))[g]=gl (gD M i (f+1)) g:=by rw [cX h2]
 rw [e,zz hg]
 by_cases h:f=g
 ·subst h;rw [aF rfl,aF (by omega),zz hg,aC (by omega),l4,List.map_append];rfl
 rw [aC h];have e2:(gD M i f)[g]'(by rw [zA];exact hg)=gl (gD M i f) g:=by rw [cX]
 rw [e2,zz hg]
 by_cases h3:g<f
 ·rw [aF h3,aF (by omega)]
 rw [aC h3,aC (by omega)]
theorem Bt{M:ah}:∀i,aV M i<=i* (gl M 0).length
 | 0=>bn _
 | i+1=>by
  have h1:=Bt (M:=M) i;have h2:=sc M i;show aV M i+ (fK M i).toNat<=_;rw [Nat.succ_mul];omega
theorem Mx(Ab A:aj)(n c:Nat)(rs:List aL)(M:ah)(w:aa)(hB:Rd w Ab 1 (fun _=> .slice A n c))(hR:bq w A n rs M)(hM:eA M):
 aJ prog 129 [.pointer Ab] w (fun v w'=>∃A' rs',v= .slice A' (gl M 0).length (gl M 0).length/\rs'.length=(gl M 0).length/\St w w' (aQ 24 2 A' (gl M 0).length (gl M 0).length rs' (k6 M)++ [])):=by
 have hl:=hR.len;have h1:=hM.1;have h2:=hM.2.1;have e0:(rg rs 0).n=(gl M 0).length:=(hR.pE (by omega) (by omega)).symm;have sI:∀i,i<=n->aV M i<=2000:=fun i hi=>by
  have h3:=Bt (M:=M) i;have h4:i* (gl M 0).length<=5*400:=Nat.mul_le_mul (by omega) (by omega);omega
 generalize hF:(gl M 0).length=F at*;refine br func129 O ntmps129 O (cw O) (a8 O (aI (tx Ab A n c rs M _ w hB O hR (by omega)) O ?_));rintro _ w ⟨rfl,rfl⟩;rw [e0];refine y3 F (St.refl w) O O (by omega) ?_;intro A3 w1 ay;have ay:St w w1 (aQ 24 2 A3 F F (List.replicate F cL) (List.replicate F [])):=yw F ay;refine ar O (aI (BC Ab A n c _ _ (ay.kM hB) O) O ?_);rintro _ w1 ⟨rfl,rfl⟩;refine aE O ?_;refine Cd.loop (α:=Nat×List aL) (fun z=> [(0,.pointer Ab),(3,.slice A3 F F),(4,ak (aV M z.1:Int)),(14,ak n),(15,ak (z.1:Int))]) (fun z w'=>z.1<=n/\z.2.length=F/\St w w' (aQ 24 2 A3 F F z.2 (gD M z.1 0)++ [])) (fun z=>n - z.1) (0,List.replicate F cL) (WM O) ⟨bn _,by simp,by rw [Oc M 0 O,hF,fO];exact ay⟩ ?_;clear ay;rintro⟨i,vW⟩ e w2 ⟨hi,bM,hS⟩;dsimp only at hi bM hS|-;have Jd:=sI i hi;refine bX O (aN _ O (fun h3=>?_) (fun h3=>?_))
 ·have de:i<n:=by omega
  have xT:=sI (i+1) (by omega);have gE:=sc M i;have ub:aV M (i+1)=aV M i+ (fK M i).toNat:=O;refine aG O (aI (G9 Ab A n c rs M i _ (hS.kM hB) (hS.bO hR) hM de) O ?_);rintro _ w3 ⟨A6,rfl,ax⟩;have aU:=(hS.call ax).perm (ka (l₁:=[aw 2 A6 (gl M 0).length (gl M 0).length (dp M i)]));rw [hF]at aU|-;clear ax hS;refine ar O (ba O O (aE O ?_));refine Cd.loop (α:=Nat×List aL) (fun z=> [(0,.pointer Ab),(3,.slice A3 F F),(4,ak (aV M i:Int)),(7,ak (fK M i)),(14,ak n),(15,ak i),(24,.slice A6 F F),(5,ak i),(25,ak F),(26,ak (z.1:Int))]) (fun z w'=>z.1<=F/\z.2.length=F/\St w w' (aQ 24 2 A3 F F z.2 (gD M i z.1)++ [aw 2 A6 F F (dp M i)])) (fun z=>F - z.1) (0,vW) (WM O) ⟨bn _,bM,by simpa using aU⟩ ?_;clear aU;rintro⟨f,bR⟩ e w4 ⟨hf,oH,bd⟩;dsimp only at hf oH bd|-;have IP:=zA M i f;rw [hF]at IP;refine bX O (aN _ O (fun h4=>?_) (fun h4=>?_))
  ·have nA:f<F:=by omega
   have iR:=St.iX bd IP;have kI:(aQ 24 2 A3 F F bR (gD M i f)++ [aw 2 A6 F F (dp M i)])[F+1]?=some (aw 2 A6 F F (dp M i)):=by
    rw [lZ (by rw [Kc (by omega)];omega),Kc (by omega),oH,Nat.sub_self];rfl
   have Aq:bu w4 A6 F (dp M i):=bd.bo (F+1) kI;have hin2:=sd hM (i:=i) (f:=f) (by omega);have P3:(aV M i:Int)+gi (dp M i) f=cK M i f:=O;have bH:=iR.at_ (i:=(f:Int)) (by omega) (by omega);have fp:(rg bR f).n<=5:=by
    have:=bH.1;rw [<-this,zz (by omega),aC (by omega)];simp;omega
   refine aG O (aB Aq.2 O (aW Aq O (ar O (aB iR.top.2 O (ck iR.top O ?_)))));refine ar O (aK O ?_);refine eE bd O O O ?_;intro AQ wQ hQ;have nB:(aw 2 AQ 1 1 [((aV M i:Int)+gi (dp M i) f)]::(aQ 24 2 A3 F F bR (gD M i f)++ [aw 2 A6 F F (dp M i)]))[2+f]?=some (aw 2 (rg bR f).a (rg bR f).n (rg bR f).c (gl (gD M i f) f)):=by
    have h0:=vN (t1:=24) (t2:=2) (A:=A3) (n:=F) (c:=F) (rs:=bR) (xss:=(gD M i f)) (pre:=[aw 2 AQ 1 1 [((aV M i:Int)+gi (dp M i) f)]]) (ks:=[aw 2 A6 F F (dp M i)]) (i:=f) (by omega) (by omega);exact h0
   refine fj (2+f) hQ nB (hQ.bo 0 O) O O O ?_;intro AZ cZ wZ hZ;rw [E9 ⟨AZ,(rg bR f).n+1,cZ⟩ (gl (gD M i f) f++ [((aV M i:Int)+gi (dp M i) f)]) (by omega) (by omega)]at hZ;have Ii:im wZ A3 F bR:=hZ.fz 1 O;refine aB Ii.2 O (tl (te:=24) (n:=F) (c:=F) (A:=A3) (xs:=bR) 1 hZ O O O (by omega) ?_);intro wY hY;have bh:St w wY (aQ 24 2 A3 F F (bR.set f ⟨AZ,(rg bR f).n+1,cZ⟩) ((gD M i f).set f (gl (gD M i f) f++ [((aV M i:Int)+gi (dp M i) f)]))++ [aw 2 A6 F F (dp M i)]):=St.tail hY;clear hY Ii hZ nB hQ;rw [P3,Ob (by omega)]at bh;refine ar O (aK O (aR O (tQ ?_)));exact⟨(f+1,_),by show F - (f+1)<F - f;omega,(WM O),by show f+1<=F;omega,by simp [oH],bh⟩
  have nA:f=F:=by omega
  subst nA;have e6:=Oa M i;rw [hF]at e6;rw [e6]at bd;refine bk O (bm (ct O (aK O (ar O (aK O (aR O (tQ ?_)))))));exact⟨(i+1,bR),by show n - (i+1)<n - i;omega,⟨O,O,by show Value.int .i64 ((aV M i:Int)+fK M i)=ak ((aV M (i+1):Nat):Int);congr 1;omega,O,O,av⟩,by show i+1<=n;omega,oH,bd.sub (List.Sublist.append_left (List.nil_sublist _) _)⟩
 have de:i=n:=by omega
 subst de;have he:=N9 M;rw [hl]at he;rw [he]at hS;refine bk O (bm (fA O ?_));exact eW O ⟨A3,vW,O,bM,hS⟩
theorem LD(A:aj)(n c:Nat)(xs:ai)(A':aj)(n' c':Nat)(ys:ai)(w:aa)(hR:bu w A n xs)(sn:bu w A' n' ys)(hn:n<=9223372036854775807):
 aJ prog 158 [.slice A n c,.slice A' n' c'] w (fun v w'=>v= .bool (decide (xs=ys))/\St w w' []):=by
 have hl:=hR.1;have xH:=sn.1;subst hl;subst xH;refine br func158 O ntmps158 O (cw O) ?_;refine a8 O (ba O O (ar O (ba O O (aE O ?_))));refine aN _ O (fun h=>?_) (fun h=>?_)
 ·refine du O (cH O ?_);exact⟨by rw [cS (fun e:xs=ys=>h (by rw [e]))],St.refl _⟩
 refine aG O (ba O O (aE O ?_));refine Cd.loop (α:=Nat) (fun k=> [(0,.slice A xs.length c),(1,.slice A' ys.length c'),(12,ak (xs.length:Int)),(13,ak k)]) (fun k w'=>St w w' []/\k<=xs.length/\xs.take k=ys.take k) (fun k=>xs.length - k) 0 (WM O) ⟨St.refl w,bn _,O⟩ ?_;rintro k e w2 ⟨aM,hk,hI⟩;have hle:xs.length=ys.length:=by omega
 refine bX O (aN _ O (fun h1=>?_) (fun h1=>?_))
 ·have hA:=aM.da hR;have hB:=aM.da sn;have h2:(k:Int)<ys.length:=by omega
  have hx:=bF (p:=xs) (k:=k) (by omega);have hy:=bF (p:=ys) (k:=k) (by omega);refine df O (dL [xS (A) (xs.length) (c),xI ((k:Int)),xP (aD (A) ((k:Int)).toNat),xI (gi (xs) ((k:Int))),xS (A') (ys.length) (c'),xI ((k:Int)),xP (aD (A') ((k:Int)).toNat),xI (gi (ys) ((k:Int))),xB (decide (¬(gi (xs) ((k:Int)))=(gi (ys) ((k:Int)))))] O (dV O) ?_ ?_)
  ·exact⟨Dr O,Dr O,fun _ _ hb _ _=>aB (hA.aq hb).2 O Az,fun _ _ hb _ _=>aW (hA.aq hb) O Az,Dr O,Dr O,fun _ _ hb _ _=>aB (hB.aq hb).2 O Az,fun _ _ hb _ _=>aW (hB.aq hb) O Az,Dr O,av⟩
  intro u w3 jQ _;have aU:=aM.aq jQ;refine fq O (aN _ O (fun h3=>?_) (fun h3=>?_))
  ·refine du O (dN (dE ?_));refine cH O ?_;refine⟨by rw [cS (fun e:xs=ys=>h3 (by rw [e]))],aU⟩
  refine aG O (aK O (aR O (tQ ?_)));refine⟨k+1,by omega,(WM O),aU,by omega,?_⟩;rw [rR (by omega),rR (by omega),hI,kR.1 h3]
 refine bk O (bm (fA O ?_));refine cH O ⟨?_,aM⟩;rw [lD (by omega),lD (by omega)]at hI;rw [eD hI]
def jz(xss:ah):ai:=(List.range xss.length).map fun i=>fK xss i
theorem CH(xss:ah):(jz xss).length=xss.length:=by simp [jz]
theorem Nl{xss:ah}{i:Nat}(h:i<xss.length):(jz xss).take (i+1)=(jz xss).take i++ [fK xss i]:=by
 rw [oZ (by rw [CH];exact h)];simp [jz]
theorem NP(Ab A:aj)(n c:Nat)(rs:List aL)(xss:ah)(w:aa)(hB:Rd w Ab 1 (fun _=> .slice A n c))(hR:bq w A n rs xss)(hM:eA xss):
 aJ prog 85 [.pointer Ab] w (fun v w'=>∃A' c',v= .slice A' n c'/\St w w' [aw 2 A' n c' (jz xss)]):=by
 have hl:=hR.len;have h1:=hM.1;have h2:=hM.2.1;refine br func85 O ntmps85 O (cw O) (a8 O (aI (BC Ab A n c _ _ hB O) O ?_));rintro _ w ⟨rfl,rfl⟩;refine aE O (Cd.loop (α:=Nat×aj×Nat) (fun s=> [(0,.pointer Ab),(3,.slice s.2.1 s.1 s.2.2),(8,ak n),(9,ak (s.1:Int))]) (fun s w'=>St w w' [aw 2 s.2.1 s.1 s.2.2 ((jz xss).take s.1)]/\s.1<=n) (fun s=>n - s.1) (0,none,0) (WM O) ⟨(St.refl w).nil _,bn _⟩ ?_);rintro⟨i,A3,c3⟩ e w1 ⟨ay,hi⟩;dsimp only at ay hi|-;refine bX O (aN _ O (fun h3=>?_) (fun h3=>?_))
 ·have eK:i<n:=by omega
  have iU:=sc xss i;refine aG O (aI (G9 Ab A n c rs xss i _ (hB.below ay.below) (ay.bO hR) hM eK) O ?_);rintro _ w2 ⟨A5,rfl,kl⟩;have aM:=(ay.call kl).tail;refine ar O (eE aM O O O ?_);intro A6 w3 aU;refine fj 1 aU O (aU.bo 0 O) O O O fun A7 c7 w4 bd=>ar O (aK O (aR O (tQ ?_)));refine⟨(i+1,A7,c7),by show n - (i+1)<n - i;omega,(WM O),?_,eK⟩;show St w w4 [aw _ A7 (i+1) c7 ((jz xss).take (i+1))];rw [Nl (by omega)];exact bd.tail
 refine bk O (bm (fA O ?_));refine eW O ?_;have de:i=n:=by omega
 rw [de,lD (by rw [CH];omega)]at ay;rw [de];exact⟨A3,c3,O,ay⟩
theorem St.kq{w0 w:aa}{t1 t2:ae}{A:aj}{n c:Nat}{rs:List aL}{xss:ah}(h:St w0 w (aQ t1 t2 A n c rs xss))(hl:xss.length=n):bq w A n rs xss:=
 St.iX (ks:=[]) (by rw [fO];exact h) hl
section
variable{b0 b1 b2:Nat}
variable {P:Program} {N:Nat} {ops:Array Oper} {K:Env->aa->Prop} {rest:List Oper} {e:Env} {w0 w w':aa} {ks:List Ck} {d:Nat} {ty:ae} {pos:String} {af:Array Edge}
theorem yY{t:ae}{f0 f1 f2:Field}{z0 z1 z2 y0 y1 y2:ad}{b:Nat}[bG P t (.struct #[f0,f1,f2])][bJ P t (.agg #[z0,z1,z2]) 3 b]{x0:ag}{v0:ad}(wU:bJ P f0.type y0 1 b0)(sl:bJ P f1.type y1 1 b1)(qe:bJ P f2.type y2 1 b2)(ho:f0.offset=0)(xT:f1.offset=1)(Jc:f2.offset=2)(h0:ev e x0=v0)(c0:v0.oneCell'=true)(hb:Nat.blt d N=true)(hK:ao P N ops K rest (bj e d (.agg #[v0,z1,z2])) w):ao P N ops K (⟨some d,.build t #[(0,x0)],ty,pos,af,none⟩::rest) e w:=by
 obtain⟨inf,hi,fH,hs,iT⟩:=bJ.get P t;obtain⟨JM,mI,_,uf,_⟩:=wU.get P f0.type;obtain⟨JN,mg,_,xZ,_⟩:=sl.get P f1.type;obtain⟨ES,xy,_,x3,_⟩:=qe.get P f2.type;have e0:v0.cells= #[v0]:=by cases v0<;>simp [Value.oneCell']at c0<;>rfl
 have ez:(Value.agg #[z0,z1,z2]).cells= #[z0,z1,z2]:=O;refine .val (w':=w) ?_ hb hK;simp [execOp,Instr.build,run_underlying (bG.out (P:=P) (t:=t)),sizeOf,typeInfo,zeroValue,hi,fH,mI,uf,mg,xZ,xy,x3,ho,h0,e0,ez,Instr.fill]
theorem LQ{t:ae}{f0 f1 f2:Field}{z0 z1 z2 y0 y1 y2:ad}{b:Nat}[bG P t (.struct #[f0,f1,f2])][bJ P t (.agg #[z0,z1,z2]) 3 b](wU:bJ P f0.type y0 1 b0)(sl:bJ P f1.type y1 1 b1)(qe:bJ P f2.type y2 1 b2)(hb:Nat.blt d N=true)(hK:ao P N ops K rest (bj e d (.agg #[z0,z1,z2])) w):ao P N ops K (⟨some d,.build t #[],ty,pos,af,none⟩::rest) e w:=by
 obtain⟨inf,hi,fH,hs,iT⟩:=bJ.get P t;obtain⟨JM,mI,_,uf,_⟩:=wU.get P f0.type;obtain⟨JN,mg,_,xZ,_⟩:=sl.get P f1.type;obtain⟨ES,xy,_,x3,_⟩:=qe.get P f2.type;have ez:(Value.agg #[z0,z1,z2]).cells= #[z0,z1,z2]:=O;refine .val (w':=w) ?_ hb hK;simp [execOp,Instr.build,run_underlying (bG.out (P:=P) (t:=t)),sizeOf,typeInfo,zeroValue,hi,fH,mI,uf,mg,xZ,xy,x3,ez,Instr.fill]
theorem kV{el:ae}{v0 v1 v2:ad}{s b:Nat}[bJ P el (.agg #[v0,v1,v2]) s b](hS:St w0 w ks)(hb:Nat.blt d N=true)(hK:∀A w',St w0 w' (Bx el 3 A [v0,v1,v2]::ks)->ao P N ops K rest (bj e d (.pointer A)) w')(hM:eg [v0,v1,v2]=false:=by rfl):ao P N ops K (⟨some d,.alloc el,ty,pos,af,none⟩::rest) e w:= .new (el:=el) (z:= .agg #[v0,v1,v2]) (s:=s) (b:=b) hS hb rfl hK hM
end
theorem TP{α:Type}(q1 q2 q3 q4 q5 q6:α)(X Y:List α):([q1,q2,q3,q4,q5,q6]++Y++X).Perm (q4::(q2::((q1::X)++ (q3::q5::q6::Y)))):=by
 classical
 refine l3.2 fun z=>?_
 simp only [mW,lB,List.cons_append,List.nil_append];omega
abbrev a7(A:aj)(n:Int)(AR:aj)(N c:Nat)(AD:aj)(m d:Nat):Ck:=Bx 27 3 A [ak n,.slice AR N c,.slice AD m d]
theorem Nk{M:ah}{i:Nat}(h:i<M.length):gi (jz M) i=fK M i:=by
 rw [bF (by rw [CH];exact h)];simp [jz]
structure my(M:ah)(f i:Nat)(B:ah):Prop where
 len:B.length=aV M M.length
 mem:∀e:Nat,e<aV M M.length->∀x,x∈gl B e↔∃f' i',(f'<f\/f'=f/\i'<i)/\f'< (gl M 0).length/\i'<M.length/\cK M i' f'=e/\∃k,k<i'/\x=cK M k f'
 num:∀e:Nat,(gl B e).length<=25*f+5*i
theorem my.zero(M:ah):my M 0 0 (List.replicate (aV M M.length) []):=by
 have hg:∀e:Nat,gl (List.replicate (aV M M.length) ([]:ai)) e=[]:=fun e=>by
  simp only [gl,fW,cz,List.getElem?_replicate]
  split<;>rfl
 refine⟨by simp,fun e he x=>?_,fun e=>by rw [hg];exact bn _⟩;rw [hg];constructor
 ·intro h;cases h
 rintro⟨f',i',h,_⟩;omega
theorem my.next{M:ah}{f i:Nat}{B:ah}(hM:eA M)(h:my M f i B)(hf:f< (gl M 0).length)(hi:i<M.length):my M f (i+1) (B.set (cK M i f).toNat (gl B (cK M i f)++ (List.range i).map fun k=>cK M k f)):=by
 have de:=sd hM (i:=i) hf;have Eo:=jU M (show i+1<=M.length by omega);have h5:=hM.1;obtain⟨q,hq⟩:∃q:Nat,cK M i f=q:=⟨(cK M i f).toNat,by omega⟩;rw [hq,fW];have hg:∀e:Nat,gl (B.set q (gl B q++ (List.range i).map fun k=>cK M k f)) e=if q=e then gl B q++ (List.range i).map fun k=>cK M k f else gl B e:=fun e=>Oj (by rw [h.len];omega)
 refine⟨by rw [ij];exact h.len,fun e he x=>?_,fun e=>?_⟩
 ·rw [hg]
  by_cases e1:q=e
  ·subst e1;rw [aF rfl,gL,h.mem q he];constructor
   ·rintro(⟨f',i',h1,h2⟩ | h1)
    ·exact⟨f',i',by omega,h2⟩
    obtain⟨k,hk,rfl⟩:=fh.1 h1;exact⟨f,i,.inr ⟨O,by omega⟩,hf,hi,hq,k,fP.1 hk,O⟩
   rintro⟨f',i',h1,h2,h3,h4,k,hk,rfl⟩
   by_cases e2:f'=f/\i'=i
   ·obtain⟨rfl,rfl⟩:=e2;exact .inr (fh.2 ⟨k,fP.2 hk,O⟩)
   exact .inl ⟨f',i',by omega,h2,h3,h4,k,hk,O⟩
  rw [aC e1,h.mem e he];constructor
  ·rintro⟨f',i',h1,h2⟩;exact⟨f',i',by omega,h2⟩
  rintro⟨f',i',h1,h2,h3,h4,h6⟩;refine⟨f',i',?_,h2,h3,h4,h6⟩
  by_cases e2:f'=f/\i'=i
  ·obtain⟨rfl,rfl⟩:=e2;omega
  omega
 rw [hg];have h1:=h.num q;have h2:=h.num e
 split
 ·rw [eY,lC,pO];omega
 omega
theorem my.row{M:ah}{f:Nat}{B:ah}(hM:eA M)(h:my M f M.length B):my M (f+1) 0 B:=by
 have h5:=hM.1;refine⟨h.len,fun e he x=>?_,fun e=>by have:=h.num e;omega⟩;rw [h.mem e he];constructor
 ·rintro⟨f',i',h1,h2⟩;exact⟨f',i',by omega,h2⟩
 rintro⟨f',i',h1,h2,h3,h4⟩;exact⟨f',i',by omega,h2,h3,h4⟩
theorem my.done{M:ah}{B:ah}(hM:eA M)(h:my M (gl M 0).length 0 B){e:Nat}(he:e<aV M M.length):cs (gl B e)=gl (bP M) e:=by
 refine(Nu _).eq ?_ fun x=>?_
 ·rw [cX (by rw [oj];exact he)];unfold bP;rw [List.getElem_map];exact lX _ (nQ _)
 rw [Nv,h.mem e he,mA (by omega) (by omega)];constructor
 ·rintro⟨f',i',_,h2,h3,h4,k,hk,rfl⟩;have hI:qI M (cK M k f') e:=⟨f',h2,i',h3,k,hk,h4.symm,O⟩;exact⟨(hI.jD hM).1,hI⟩
 rintro⟨_,f',h2,i',h3,k,hk,h4,rfl⟩;exact⟨f',i',.inl h2,h2,h3,h4.symm,k,hk,O⟩
def Lv(M:ah)(w:aa)(v:ad)(w':aa):Prop:=(500<aV M M.length/\v= .tuple #[.agg #[ak 0,.slice none 0 0,.slice none 0 0],.bool false]/\St w w' [])\/(aV M M.length<=500/\∃AR c AD d rs,v= .tuple #[.agg #[ak (M.length:Int),.slice AR (aV M M.length) c,.slice AD (aV M M.length) d],.bool true]/\rs.length=aV M M.length/\St w w' (aw 2 AR (aV M M.length) c (bS M M.length)::(aQ 24 2 AD (aV M M.length) d rs (bP M)++ [])))
theorem G8(A:aj)(n c:Nat)(rs:List aL)(M:ah)(w:aa)(hR:bq w A n rs M)(hM:eA M):
 aJ prog 67 [.agg #[.slice A n c]] w (Lv M w):=by
 have hl:=hR.len;have h1:=hM.1;have h2:=hM.2.1;have sI:∀i,i<=n->aV M i<=2000:=fun i hi=>by
  have h3:=Bt (M:=M) i;have h4:i* (gl M 0).length<=5*400:=Nat.mul_le_mul (by omega) (by omega);omega
 refine br func67 O ntmps67 O (Fs O O) (a8 O (ng (St.refl w) O O ?_));intro A1 w1 ay;refine kV ay O fun A2 w2 aM=>ar O (aI (BC A1 A n c _ _ (jI (aM.rd 1 O)) O) O ?_);rintro _ w2 ⟨rfl,rfl⟩;refine yY (by exact inferInstance) (by exact inferInstance) (by exact inferInstance) O O O O O O (kV aM O ?_);intro A4 w3 aU;refine dG 3 0 aU O O O O O O O ?_;intro w4 bd;have bd:St w w4 [a7 A4 n none 0 0 none 0 0,a7 A2 0 none 0 0 none 0 0,Bx 37 1 A1 [.slice A n c]]:=bd;clear aU aM ay;refine ar O (aI (NP A1 A n c rs M _ (jI (bd.rd 2 O)) (bd.bO hR) hM) O ?_);rintro _ w5 ⟨gJ,od,rfl,ax⟩;have bh:=bd.call ax;clear ax bd;have bh:St w w5 [a7 A4 n none 0 0 none 0 0,aw 2 none 0 0 [],aw 2 gJ n od (jz M),a7 A2 0 none 0 0 none 0 0,Bx 37 1 A1 [.slice A n c]]:=(bh.nil 2).perm (iA (l₁:=[_,_]));refine ba O O (aE O ?_);refine Cd.loop (α:=Nat×aj×Nat) (fun z=> [(1,.pointer A1),(2,.pointer A2),(4,.pointer A4),(14,.slice gJ n od),(15,ak n),(16,ak (z.1:Int))]) (fun z w'=>z.1<=n/\St w w' [a7 A4 n z.2.1 (aV M z.1) z.2.2 none 0 0,aw 2 z.2.1 (aV M z.1) z.2.2 (bS M z.1),aw 2 gJ n od (jz M),a7 A2 0 none 0 0 none 0 0,Bx 37 1 A1 [.slice A n c]]) (fun z=>n - z.1) (0,none,0) (WM O) ⟨bn _,bh⟩ ?_;clear bh;rintro⟨i,AR,cR⟩ e w6 ⟨hi,hS⟩;dsimp only at hi hS|-;have Jd:=sI i hi;have ny:=nu M i;refine bX O (aN _ O (fun h3=>?_) (fun h3=>?_))
 ·have de:i<n:=by omega
  have sB:=Nk (M:=M) (i:=i) (by omega);have gE:=sc M i;have xT:=sI (i+1) (by omega);have ub:aV M (i+1)=aV M i+ (fK M i).toNat:=O;have xr:bS M (i+1)=bS M i++List.replicate (fK M i).toNat (i:Int):=O;have hC:=hS.bo 2 O;refine aG O (aB hC.2 O (aW hC O (aE O ?_)));rw [sB];obtain⟨N,hN⟩:∃N:Nat,fK M i=N:=⟨(fK M i).toNat,by omega⟩;rw [hN,fW]at ub xr;rw [hN]at gE|-;refine ja [6,8] [yP (aD (A4) 1),yS (AR) (aV M i) (cR),yI ((i:Int)),.pr (fun v w'=>∃A9,v= .slice A9 1 1/\St w w' (aw 2 A9 1 1 [(i:Int)]::[a7 A4 n AR (aV M i) cR none 0 0,aw 2 AR (aV M i) cR (bS M i),aw 2 gJ n od (jz M),a7 A2 0 none 0 0 none 0 0,Bx 37 1 A1 [.slice A n c]])),yI ((N:Int)),.pr (fun v w'=>∃A9,v= .slice A9 N N/\St w w' (aw 2 A9 N N (List.replicate N (i:Int))::[a7 A4 n AR (aV M i) cR none 0 0,aw 2 AR (aV M i) cR (bS M i),aw 2 gJ n od (jz M),a7 A2 0 none 0 0 none 0 0,Bx 37 1 A1 [.slice A n c]])),.pr (fun v w'=>∃b9 en,v= .slice b9 (aV M i+N) en/\St w w' [a7 A4 n AR (aV M i) cR none 0 0,aw 2 b9 (aV M i+N) en (bS M i++List.replicate N (i:Int)),aw 2 gJ n od (jz M),a7 A2 0 none 0 0 none 0 0,Bx 37 1 A1 [.slice A n c]]),yP (aD (A4) 1),.pr (fun _ w'=>∃b9 en,St w w' [a7 A4 n b9 (aV M i+N) en none 0 0,aw 2 b9 (aV M i+N) en (bS M i++List.replicate N (i:Int)),aw 2 gJ n od (jz M),a7 A2 0 none 0 0 none 0 0,Bx 37 1 A1 [.slice A n c]])] (by kernel_rfl) (by kernel_rfl) (ly (ly (ly (cM.2 ⟨Ye.cN (fun v w w' h hb=>by obtain⟨A9,hv,hT⟩:=h;exact⟨A9,hv,hT.aq hb⟩),(ly (cM.2 ⟨Ye.cN (fun v w w' h hb=>by obtain⟨A9,hv,hT⟩:=h;exact⟨A9,hv,hT.aq hb⟩),(cM.2 ⟨Ye.cN (fun v w w' h hb=>by obtain⟨b9,en,hv,hT⟩:=h;exact⟨b9,en,hv,hT.aq hb⟩),(ly (cM.2 ⟨Ye.cN (fun v w w' h hb=>by obtain⟨b9,en,hT⟩:=h;exact⟨b9,en,hT.aq hb⟩),(fun _ h=>by cases h)⟩))⟩)⟩))⟩)))) ?_ ?_
  ·refine⟨cP fun _ _ hb _ _ _=>aS ((hS.rd 0 O).below hb) O (bB O O),cP fun _ _ hb _ _ _=>aZ ((hS.rd 0 O).below hb) O (bB O O),bT O,?_,bT O,?_,?_,?_,?_,av⟩
   ·refine cP fun e1 w1 hb hp aX hq=>?_
    exact eE (St.refl _) O O O fun A9 w9 ax=>ao.n (eX.dn O ax.below ⟨A9,O,(hS.aq hb).call ax⟩)
   ·refine cP fun e1 w1 hb hp aX hq=>?_
    obtain⟨A9,Dg,hT⟩:=(hp 3 _ _ (by kernel_rfl) rfl rfl (by kernel_rfl));refine WD (Cj A9 1 i N _ (hT.bo 0 O) (by omega)) O (by exact aH (fun v=> [v,Value.int .i64 (N:Int)]) Dg) O ?_;rintro _ w2 ⟨A5,rfl,ax⟩;exact ao.n (eX.dn O ax.below ⟨A5,O,hT.tail.call ax⟩)
   ·refine jc fun e1 w1 hb hp aX hq=>?_
    obtain⟨A9,OH,hT⟩:=(hp 5 _ _ (by kernel_rfl) rfl rfl (by kernel_rfl));refine fj 2 hT O (hT.bo 0 O) O (by exact OH) O ?_;intro b9 en dw DM;exact ao.n (fg.dn O ⟨b9,en,O,DM.tail⟩)
   ·refine dP 1 fun e1 w1 hp aX hq=>?_
    have eT:=hp 6 _ _ (by kernel_rfl) O O (by kernel_rfl);obtain⟨b9,en,HD,hT⟩:=eT;refine aS ((hT.rd 0 O)) O (ao.n (eO O (by exact O)))
   refine pY 1 fun e1 w1 hp aX hq=>?_
   have eT:=hp 6 _ _ (by kernel_rfl) O O (by kernel_rfl);obtain⟨b9,en,HD,hT⟩:=eT;refine kB 0 hT O O (by exact HD) O O ?_;intro ew xd;exact ao.n (fg.st O ⟨b9,en,xd⟩)
  intro u w7 _ hu _ _;obtain⟨b9,en,hT⟩:=hu 8 _ rfl (by kernel_rfl);rw [<-ub,<-xr]at hT;refine gZ O (aK O (aR O (tQ ?_)));exact⟨(i+1,b9,en),by show n - (i+1)<n - i;omega,(WM O),by show i+1<=n;omega,hT⟩
 obtain rfl:i=n:=by omega
 have gU:M.length=i:=hl;generalize hK:aV M i=N at*;have iE:=hS.rd 0 O;refine bk O (bm (ct O ?_));refine aS iE O (aZ iE O ?_);refine ba O O (aE O ?_);refine aN _ O (fun h4=>?_) (fun h4=>?_)
 ·refine aG O (LQ (by exact inferInstance) (by exact inferInstance) (by exact inferInstance) O (dG 3 3 hS O O O O O O O ?_));intro w9 bg;refine bI O (yz O (bg.rd 3 O) O ?_);exact .inl ⟨by rw [gU,hK];omega,O,bg.none⟩
 refine aG O (aS iE O (aZ iE O (ba O O (y3 N hS O O (by omega) ?_))));intro cJ w7 bl;have bl:St w w7 (bE 24 cJ N N (List.replicate N cL)::[a7 A4 i AR N cR none 0 0,aw 2 AR N cR (bS M i),aw 2 gJ i od (jz M),a7 A2 0 none 0 0 none 0 0,Bx 37 1 A1 [.slice A i c]]):=bl;refine aS (bl.rd 1 O) O (kB 1 bl O O O O O ?_);intro w8 b7;have b7:St w w8 (bE 24 cJ N N (List.replicate N cL)::[a7 A4 i AR N cR cJ N N,aw 2 AR N cR (bS M i),aw 2 gJ i od (jz M),a7 A2 0 none 0 0 none 0 0,Bx 37 1 A1 [.slice A i c]]):=b7;clear bl hS;refine ar O (aI (Mx A1 A i c rs M _ (jI (b7.rd 5 O)) (b7.bO hR) hM) O ?_);rintro _ w9 ⟨tc,kr,rfl,QR,ax⟩;obtain⟨F,hF⟩:∃F,(gl M 0).length=F:=⟨_,rfl⟩;rw [hF]at h2 QR ax|-;have HS:(k6 M).length=F:=by simp [k6,hF]
 have bg:=b7.call ax;clear ax b7;obtain⟨KK,wW⟩:∃KK:List Ck,KK=aw 2 AR N cR (bS M i)::a7 A2 0 none 0 0 none 0 0::Bx 37 1 A1 [.slice A i c]::(aQ 24 2 tc F F kr (k6 M)++ []):=⟨_,rfl⟩;have bg:St w w9 (a7 A4 i AR N cR cJ N N::(aQ 24 2 cJ N N (List.replicate N cL) (List.replicate N [])++KK)):=by
  rw [wW];have h9:=(bg.perm ka);have h9:=yw (t:=2) N h9;have hp:([bE 24 cJ N N (List.replicate N cL),a7 A4 i AR N cR cJ N N,aw 2 AR N cR (bS M i),aw 2 gJ i od (jz M),a7 A2 0 none 0 0 none 0 0,Bx 37 1 A1 [.slice A i c]]++ (aQ 24 2 tc F F kr (k6 M)++ [])++b6 2 (List.replicate N cL) (List.replicate N [])).Perm (aw 2 gJ i od (jz M)::(a7 A4 i AR N cR cJ N N::(aQ 24 2 cJ N N (List.replicate N cL) (List.replicate N [])++ (aw 2 AR N cR (bS M i)::a7 A2 0 none 0 0 none 0 0::Bx 37 1 A1 [.slice A i c]::(aQ 24 2 tc F F kr (k6 M)++ []))))):=by
   unfold aQ;generalize b6 2 (List.replicate N cL) (List.replicate N [])=X;generalize bE 24 tc F F kr::b6 2 kr (k6 M)++ []=Y;generalize bE 24 cJ N N (List.replicate N cL)=q1;generalize a7 A4 i AR N cR cJ N N=q2;generalize aw 2 AR N cR (bS M i)=q3;generalize aw 2 gJ i od (jz M)=q4;generalize a7 A2 0 none 0 0 none 0 0=q5;generalize Bx 37 1 A1 [.slice A i c]=q6;exact TP q1 q2 q3 q4 q5 q6 X Y
  exact(h9.perm hp).tail
 have kI:∀(rs':List aL) (B:ah),(aQ 24 2 tc F F kr (k6 M)).Sublist (a7 A4 i AR N cR cJ N N::(aQ 24 2 cJ N N rs' B++KK)):=fun rs' B=>by
  rw [wW];refine List.Sublist.cons _ (List.Sublist.trans ?_ (gq _ _));refine List.Sublist.cons _ (List.Sublist.cons _ (List.Sublist.cons _ ?_));rw [fO];exact gB _
 have iQ:aV M M.length=N:=by rw [gU,hK]
 refine ba O O (aE O ?_);refine Cd.loop (α:=Nat×List aL×ah) (fun z=> [(1,.pointer A1),(2,.pointer A2),(4,.pointer A4),(40,.slice tc F F),(41,ak F),(42,ak (z.1:Int))]) (fun z w'=>z.1<=F/\z.2.1.length=N/\my M z.1 0 z.2.2/\St w w' (a7 A4 i AR N cR cJ N N::(aQ 24 2 cJ N N z.2.1 z.2.2++KK))) (fun z=>F - z.1) (0,List.replicate N cL,List.replicate N []) (WM O) ⟨bn _,by simp,by have:=my.zero M;rwa [iQ]at this,bg⟩ ?_;clear bg;rintro⟨f,vW,B⟩ e dw ⟨hf,AU,hB,hS⟩;dsimp only at hf AU hB hS|-;refine bX O (aN _ O (fun h5=>?_) (fun h5=>?_))
 ·have nA:f<F:=by omega
  have sk:=(hS.sub (kI vW B)).kq HS;have bH:=sk.at_ (i:=(f:Int)) (by omega) (by omega);have bM:=bH.1;have vr:gl (k6 M) f=(List.range M.length).map fun k=>cK M k f:=by rw [cX (by omega)];simp [k6]
  have fp:(rg kr f).n=i:=by rw [<-bM,vr];simp [gU]
  refine aG O (aB sk.top.2 O (ck sk.top O ?_));refine ar O (ba O O (aE O ?_));refine Cd.loop (α:=Nat×List aL×ah) (fun z=> [(1,.pointer A1),(2,.pointer A2),(4,.pointer A4),(40,.slice tc F F),(41,ak F),(42,ak f),(8,.slice (rg kr f).a (rg kr f).n (rg kr f).c),(46,.slice (rg kr f).a (rg kr f).n (rg kr f).c),(47,ak ((rg kr f).n:Int)),(48,ak (z.1:Int))]) (fun z w'=>z.1<=i/\z.2.1.length=N/\my M f z.1 z.2.2/\St w w' (a7 A4 i AR N cR cJ N N::(aQ 24 2 cJ N N z.2.1 z.2.2++KK))) (fun z=>i - z.1) (0,vW,B) (WM O) ⟨bn _,AU,hB,hS⟩ ?_;clear hS hB sk bH bM AU;rintro⟨j,bR,B4⟩ e ew ⟨hj,oH,iE,bd⟩;dsimp only at hj oH iE bd|-;have iH:B4.length=N:=by rw [iE.len,iQ]
  refine bX O (aN _ O (fun h6=>?_) (fun h6=>?_))
  ·have oz:j<i:=by omega
   have sk:=(bd.sub (kI bR B4)).kq HS;have bH:=sk.at_ (i:=(f:Int)) (by omega) (by omega);have bM:=bH.1;have IM:gi (gl (k6 M) f) j=cK M j f:=by rw [bF (by omega)];simp [vr]
   have de:=sd hM (i:=j) (f:=f) (by omega);have Eo:=jU M (show j+1<=M.length by omega);rw [iQ]at Eo;obtain⟨E,hE⟩:∃E:Nat,cK M j f=E:=⟨(cK M j f).toNat,by omega⟩;rw [hE]at IM de;have e6:=iE.next hM (by omega) (show j<M.length by omega);rw [hE,fW]at e6;have mB:E<N:=by omega
   have Bb:(gl (k6 M) f).take j=(List.range j).map fun k=>cK M k f:=by
    rw [vr,<-List.map_take,List.take_range,Nat.min_eq_left (by omega)]
   have iR:bq ew cJ N bR B4:=(bd.perm (iA (l₁:=aQ 24 2 cJ N N bR B4)).symm).iX iH;have ud:=(iR.at_ (i:=(E:Int)) (by omega) (by omega)).1;have AH:=iE.num E;refine aG O (aB bH.2 O (aW bH O (aE O ?_)));rw [IM];have nB:(a7 A4 i AR N cR cJ N N::(aQ 24 2 cJ N N bR B4++KK))[2+E]?=some (aw 2 (rg bR E).a (rg bR E).n (rg bR E).c (gl B4 E)):=vN (t1:=24) (t2:=2) (A:=cJ) (n:=N) (c:=N) (rs:=bR) (xss:=B4) (pre:=[a7 A4 i AR N cR cJ N N]) (ks:=KK) (i:=E) (by omega) (by omega);have nz:=fun(s:aL) (xs:ai)=>E9 (t1:=24) (t2:=2) (A:=cJ) (n:=N) (c:=N) (rs:=bR) (xss:=B4) (ks:=KK) (q:=a7 A4 i AR N cR cJ N N) (i:=E) s xs (by omega) (by omega)
   refine ja [11,13] [yP (aD A4 2),yS (cJ) (N) (N),yI ((E:Int)),yP (aD (A4) 2),yS (cJ) (N) (N),yI ((E:Int)),yP (aD (cJ) ((E:Int)).toNat),yS ((rg (bR) ((E:Int))).a) ((rg (bR) ((E:Int))).n) ((rg (bR) ((E:Int))).c),yS ((rg kr f).a) ((rg kr f).n) ((rg kr f).c),yI ((j:Int)),yS ((rg kr f).a) (j) ((rg kr f).c),.pr (fun v w'=>∃AZ cZ,v= .slice AZ ((rg bR E).n+j) cZ/\St w w' (a7 A4 i AR N cR cJ N N::(bE 24 cJ N N bR::(b6 2 (bR.set E ⟨AZ,(rg bR E).n+j,cZ⟩) (B4.set E (gl B4 E++ (gl (k6 M) f).take j))++KK)))),yP (aD cJ ((E:Int)).toNat),.pr (fun _ w'=>∃AZ cZ,St w w' (a7 A4 i AR N cR cJ N N::(aQ 24 2 cJ N N (bR.set E ⟨AZ,(rg bR E).n+j,cZ⟩) (B4.set E (gl B4 E++ (gl (k6 M) f).take j))++KK)))] (by kernel_rfl) (by kernel_rfl) (ly (ly (ly (ly (ly (ly (ly (ly (ly (ly (ly (cM.2 ⟨Ye.cN (fun v w w' h hb=>by obtain⟨AZ,cZ,hv,hT⟩:=h;exact⟨AZ,cZ,hv,hT.aq hb⟩),(ly (cM.2 ⟨Ye.cN (fun v w w' h hb=>by obtain⟨AZ,cZ,hT⟩:=h;exact⟨AZ,cZ,hT.aq hb⟩),(fun _ h=>by cases h)⟩))⟩)))))))))))) ?_ ?_
   ·refine⟨?_,?_,bT O,cP fun _ _ hb _ _ _=>aS ((bd.rd 0 O).below hb) O (bB O O),cP fun _ _ hb _ _ _=>aZ ((bd.rd 0 O).below hb) O (bB O O),bT O,cP fun _ _ hb _ _ _=>aB (iR.top.aq hb).2 O (bB O O),cP fun _ _ hb _ _ _=>ck (iR.top.aq hb) O (bB O O),bT O,bT O,aP fun _ _=>yZ O O O (by have:=sk.cap_ (i:=(f:Int)) (by omega) (by omega);omega) (bB O O),?_,?_,?_,av⟩
    ·intro e1 w1 cc dF bU dO hp aX hq;show ao _ _ _ _ _ _ _;have hX:Rd w1 A4 3 (fun q=> [Value.int .i64 (i:Int),.slice AR N cR,.slice cJ N N].getD q undef):=by { have bU:=lQ bU (b:=1) (by kernel_rfl);rcases(show cc=0\/cc=1 by omega)with h | h; { exact(bd.aq (dO h)).rd 0 rfl }; { subst h;obtain⟨AZ,cZ,_,hT⟩:=hq 11 _ _ (by kernel_rfl) (by kernel_rfl) (by kernel_rfl) rfl rfl (by kernel_rfl);exact hT.rd 0 rfl } }
     refine aS hX O (ao.n (eO O (by exact O)))
    ·intro e1 w1 cc dF bU dO hp aX hq;show ao _ _ _ _ _ _ _;have hX:Rd w1 A4 3 (fun q=> [Value.int .i64 (i:Int),.slice AR N cR,.slice cJ N N].getD q undef):=by { have bU:=lQ bU (b:=1) (by kernel_rfl);rcases(show cc=0\/cc=1 by omega)with h | h; { exact(bd.aq (dO h)).rd 0 rfl }; { subst h;obtain⟨AZ,cZ,_,hT⟩:=hq 11 _ _ (by kernel_rfl) (by kernel_rfl) (by kernel_rfl) rfl rfl (by kernel_rfl);exact hT.rd 0 rfl } }
     refine aZ hX O (ao.n (eO O (by exact O)))
    ·refine jc fun e1 w1 hb hp aX hq=>?_
     have O0:=sk.aq hb;refine fj (2+E) (bd.aq hb) nB ((O0.at_ (i:=(f:Int)) (by omega) (by omega)).take (l:=j) (by omega)) O O O ?_;intro AZ cZ wZ hZ;rw [nz ⟨AZ,(rg bR E).n+j,cZ⟩ (gl B4 E++ (gl (k6 M) f).take j)]at hZ;exact ao.n (fg.dn O ⟨AZ,cZ,O,hZ⟩)
    ·intro e1 w1 cc dF bU dO hp aX hq;show ao _ _ _ _ _ _ _;have hX:im w1 cJ N bR:=by { have bU:=lQ bU (b:=1) (by kernel_rfl);rcases(show cc=0\/cc=1 by omega)with h | h; { exact(bd.aq (dO h)).fz 1 rfl }; { subst h;obtain⟨AZ,cZ,_,hT⟩:=hq 11 _ _ (by kernel_rfl) (by kernel_rfl) (by kernel_rfl) rfl rfl (by kernel_rfl);exact hT.fz 1 rfl } }
     refine aB hX.2 O (ao.n (eO O (by exact O)))
    refine pY 1 fun e1 w1 hp aX hq=>?_
    have eT:=hp 11 _ _ (by kernel_rfl) O O (by kernel_rfl);obtain⟨AZ,cZ,OL,hT⟩:=eT;refine tl (te:=24) (n:=N) (c:=N) (A:=cJ) (xs:=bR) 1 hT O O (by exact OL) (by omega) ?_;intro wY hY;exact ao.n (fg.st O ⟨AZ,cZ,hY⟩)
   intro u eh _ hu _ _;obtain⟨AZ,cZ,hT⟩:=hu 13 _ rfl (by kernel_rfl);rw [Bb]at hT;refine gZ O (aK O (aR O (tQ ?_)));exact⟨(j+1,_,_),by show i - (j+1)<i - j;omega,(WM O),by show j+1<=i;omega,by simp [oH],e6,hT⟩
  have oz:j=M.length:=by omega
  subst oz;refine bk O (bm (ct O (aK O (aR O (tQ ?_)))));exact⟨(f+1,bR,B4),by show F - (f+1)<F - f;omega,(WM O),by show f+1<=F;omega,oH,iE.row hM,bd⟩
 have nA:f=F:=by omega
 subst nA;have iH:B.length=N:=by rw [hB.len,iQ]
 have xq:∀e':Nat,e'<N->cs (gl B e')=gl (bP M) e':=fun e' ox=>my.done hM (by rw [hF];exact hB) (by omega)
 have AH:∀e':Nat,(gl B e').length<=25*f:=fun e'=>by have:=hB.num e';omega
 have iE:=hS.rd 0 O;refine bk O (bm (ct O ?_));refine aS iE O (aZ iE O ?_);refine ba O O (aE O ?_);refine Cd.loop (α:=Nat×List aL) (fun z=> [(2,.pointer A2),(4,.pointer A4),(70,ak N),(71,ak (z.1:Int))]) (fun z w'=>z.1<=N/\z.2.length=N/\St w w' (a7 A4 i AR N cR cJ N N::(aQ 24 2 cJ N N z.2 (jj B z.1)++KK))) (fun z=>N - z.1) (0,vW) (WM O) ⟨bn _,AU,by rw [Tb];exact hS⟩ ?_;clear hS iE;rintro⟨E,bR⟩ e ew ⟨hE,oH,hS⟩;dsimp only at hE oH hS|-;have oB:=S9 B E;refine bX O (aN _ O (fun h6=>?_) (fun h6=>?_))
 ·have mB:E<N:=by omega
  have I5:=S8 (B:=B) (e:=E) (by omega);have lO:=Ta (B:=B) (e:=E) (by omega);have iE:=hS.rd 0 O;have iR:bq ew cJ N bR (jj B E):=(hS.perm (iA (l₁:=aQ 24 2 cJ N N bR (jj B E))).symm).iX (by omega);have ud:=(iR.at_ (i:=(E:Int)) (by omega) (by omega)).1;rw [I5]at ud;have hq:=AH E;have nB:(a7 A4 i AR N cR cJ N N::(aQ 24 2 cJ N N bR (jj B E)++KK))[2+E]?=some (aw 2 (rg bR E).a (rg bR E).n (rg bR E).c (gl B E)):=by
   have h0:=vN (t1:=24) (t2:=2) (A:=cJ) (n:=N) (c:=N) (rs:=bR) (xss:=jj B E) (pre:=[a7 A4 i AR N cR cJ N N]) (ks:=KK) (i:=E) (by omega) (by omega);rw [<-I5];exact h0
  have Qs:=(fY.1 nB).1;have nz:=fun(s:aL) (xs:ai)=>E9 (t1:=24) (t2:=2) (A:=cJ) (n:=N) (c:=N) (rs:=bR) (xss:=jj B E) (ks:=KK) (q:=a7 A4 i AR N cR cJ N N) (i:=E) s xs (by omega) (by omega)
  refine aG O (aS iE O (aZ iE O (ar O (aB iR.top.2 O (ck iR.top O (aI (UC (2+E) hS nB (by omega)) O ?_))))));rintro _ eh ⟨rfl,bl⟩;have xu:((a7 A4 i AR N cR cJ N N::(aQ 24 2 cJ N N bR (jj B E)++KK)).set (2+E) (aw 2 (rg bR E).a (rg bR E).n (rg bR E).c (jX (gl B E))))[2+E]?=some (aw 2 (rg bR E).a (rg bR E).n (rg bR E).c (jX (gl B E))):=by
   rw [l0,aF rfl,aF Qs]
  have e7:=nz ⟨(rg bR E).a,(rg bR E).n,(rg bR E).c⟩ (jX (gl B E));have fL:im eh cJ N bR:=by
   have h8:=bl;rw [e7]at h8;exact h8.fz 1 O
  have qd:Rd eh A4 3 (fun q=> [Value.int .i64 (i:Int),.slice AR N cR,.slice cJ N N].getD q undef):=by
   have h8:=bl;rw [e7]at h8;exact h8.rd 0 O
  refine aE O ?_;refine ja [8,10] [yP (aD A4 2),yS (cJ) (N) (N),yI ((E:Int)),yP (aD (A4) 2),yS (cJ) (N) (N),yI ((E:Int)),yP (aD (cJ) ((E:Int)).toNat),yS ((rg (bR) ((E:Int))).a) ((rg (bR) ((E:Int))).n) ((rg (bR) ((E:Int))).c),.pr (fun v w'=>v= .slice (rg bR E).a (iG (jX (gl B E))).length (rg bR E).c/\St w w' (a7 A4 i AR N cR cJ N N::(bE 24 cJ N N bR::(b6 2 (bR.set E ⟨(rg bR E).a,(iG (jX (gl B E))).length,(rg bR E).c⟩) ((jj B E).set E (iG (jX (gl B E))))++KK)))),yP (aD cJ ((E:Int)).toNat),.pr (fun _ w'=>St w w' (a7 A4 i AR N cR cJ N N::(aQ 24 2 cJ N N (bR.set E ⟨(rg bR E).a,(iG (jX (gl B E))).length,(rg bR E).c⟩) ((jj B E).set E (iG (jX (gl B E))))++KK)))] (by kernel_rfl) (by kernel_rfl) (ly (ly (ly (ly (ly (ly (ly (ly (cM.2 ⟨Ye.cN (fun v w w' h hb=> ⟨h.1,h.2.aq hb⟩),(ly (cM.2 ⟨Ye.cN (fun v w w' h hb=>h.aq hb),(fun _ h=>by cases h)⟩))⟩))))))))) ?_ ?_
  ·refine⟨?_,?_,bT O,cP fun _ _ hb _ _ _=>aS (qd.below hb) O (bB O O),cP fun _ _ hb _ _ _=>aZ (qd.below hb) O (bB O O),bT O,cP fun _ _ hb _ _ _=>aB (fL.aq hb).2 O (bB O O),cP fun _ _ hb _ _ _=>ck (fL.aq hb) O (bB O O),?_,?_,?_,av⟩
   ·intro e1 w1 cc dF bU dO hp aX hq;show ao _ _ _ _ _ _ _;have hX:Rd w1 A4 3 (fun q=> [Value.int .i64 (i:Int),.slice AR N cR,.slice cJ N N].getD q undef):=by { have bU:=lQ bU (b:=1) (by kernel_rfl);rcases(show cc=0\/cc=1 by omega)with h | h; { exact Rd.below qd (dO h) }; { subst h;obtain⟨_,hT⟩:=hq 8 _ _ (by kernel_rfl) (by kernel_rfl) (by kernel_rfl) rfl rfl (by kernel_rfl);exact hT.rd 0 rfl } }
    refine aS hX O (ao.n (eO O (by exact O)))
   ·intro e1 w1 cc dF bU dO hp aX hq;show ao _ _ _ _ _ _ _;have hX:Rd w1 A4 3 (fun q=> [Value.int .i64 (i:Int),.slice AR N cR,.slice cJ N N].getD q undef):=by { have bU:=lQ bU (b:=1) (by kernel_rfl);rcases(show cc=0\/cc=1 by omega)with h | h; { exact Rd.below qd (dO h) }; { subst h;obtain⟨_,hT⟩:=hq 8 _ _ (by kernel_rfl) (by kernel_rfl) (by kernel_rfl) rfl rfl (by kernel_rfl);exact hT.rd 0 rfl } }
    refine aZ hX O (ao.n (eO O (by exact O)))
   ·refine jc fun e1 w1 hb hp aX hq=>?_
    refine aI (Np (2+E) (bl.aq hb) xu (by omega)) O ?_;rintro _ w9 ⟨rfl,b7⟩;rw [jx,nz ⟨(rg bR E).a,(iG (jX (gl B E))).length,(rg bR E).c⟩ (iG (jX (gl B E)))]at b7;exact ao.n (fg.dn O ⟨O,b7⟩)
   ·intro e1 w1 cc dF bU dO hp aX hq;show ao _ _ _ _ _ _ _;have hX:im w1 cJ N bR:=by { have bU:=lQ bU (b:=1) (by kernel_rfl);rcases(show cc=0\/cc=1 by omega)with h | h; { exact fL.aq (dO h) }; { subst h;obtain⟨_,hT⟩:=hq 8 _ _ (by kernel_rfl) (by kernel_rfl) (by kernel_rfl) rfl rfl (by kernel_rfl);exact hT.fz 1 rfl } }
    refine aB hX.2 O (ao.n (eO O (by exact O)))
   refine pY 1 fun e1 w1 hp aX hq=>?_
   have eT:=hp 8 _ _ (by kernel_rfl) O O (by kernel_rfl);obtain⟨Dn,hT⟩:=eT;refine tl (te:=24) (n:=N) (c:=N) (A:=cJ) (xs:=bR) 1 hT O O (by exact Dn) (by omega) ?_;intro wY hY;exact ao.n (fg.st O hY)
  intro u gp _ hu _ _;have hT:=hu 10 _ O (by kernel_rfl);have hT:St w gp (a7 A4 i AR N cR cJ N N::(aQ 24 2 cJ N N (bR.set E ⟨(rg bR E).a,(iG (jX (gl B E))).length,(rg bR E).c⟩) ((jj B E).set E (cs (gl B E)))++KK)):=hT;rw [lO]at hT;refine gZ O (aK O (aR O (tQ ?_)));exact⟨(E+1,_),by show N - (E+1)<N - E;omega,(WM O),by show E+1<=N;omega,by simp [oH],hT⟩
 have mB:E=N:=by omega
 have dv:jj B E=bP M:=by
  rw [mB,<-iH,S7];apply ia
  ·rw [lC,oj,iH,iQ]
  intro k h1 h2;rw [lC]at h1;have e1:=xq k (by omega);rw [cX h1,cX h2]at e1;rw [List.getElem_map];exact e1
 rw [dv]at hS;refine bk O (bm (ct O ?_));refine bK 2 (hS.rd 0 O) O O O ?_;have aM:St w ew (a7 A2 0 none 0 0 none 0 0::(aw 2 AR N cR (bS M i)::(aQ 24 2 cJ N N bR (bP M)++ []))):=by
  have hs:(aQ 24 2 cJ N N bR (bP M)++ [aw 2 AR N cR (bS M i),a7 A2 0 none 0 0 none 0 0]).Sublist (a7 A4 i AR N cR cJ N N::(aQ 24 2 cJ N N bR (bP M)++KK)):=by
   rw [wW];exact List.Sublist.cons _ (List.Sublist.append_left (List.Sublist.cons_cons _ (List.Sublist.cons_cons _ (List.nil_sublist _))) _)
  refine(hS.sub hs).perm ?_;rw [fO];exact(ka).trans (List.Perm.swap _ _ _)
 refine dG 3 0 aM O O O O O O O fun eh dC=>bI O (yz O (dC.rd 0 O) O ?_);refine .inr ⟨by omega,AR,cR,cJ,N,bR,?_,by rw [iQ];exact oH,?_⟩
 ·rw [iQ,gU];rfl
 rw [iQ,gU];exact dC.tail
theorem qU{M:ah}(hM:n3 M){i f:Nat}(hf:f< (gl M 0).length):(aV M i:Int)<=cK M i f/\cK M i f< (aV M (i+1):Int):=by
 have h1:=wF hM i f hf;unfold cK;show _/\_< ((aV M i+ (fK M i).toNat:Nat):Int);omega
theorem TJ{α:Type}(x a b c d e f g:α)(X Y:List α):(x::a::b::c::d::e::f::g::(X++Y)).Perm (a::b::c::d::e::f::g::((X++ [x])++Y)):=by
 classical
 refine l3.2 fun z=>?_
 simp only [mW,lB,nY];omega
theorem TK{α:Type}(x a b c d e f g:α)(X Y:List α):(x::a::b::c::d::e::f::g::(X++Y)).Perm (a::b::c::d::e::f::g::(X++ (Y++ [x]))):=by
 classical
 refine l3.2 fun z=>?_
 simp only [mW,lB,nY];omega
theorem TM{α:Type}(a b c d e f g:α)(X Y:List α):(a::b::c::d::e::f::g::(X++Y)).Perm (a::((f::X)++ (b::c::d::e::((g::Y)++ [])))):=by
 classical
 refine l3.2 fun z=>?_
 simp only [mW,lB,nY];omega
def jl(M:ah)(i:Nat):ai:=(List.range i).map fun k=> (aV M k:Int)
def kL(M:ah)(i:Nat):ah:=(List.range i).map (dp M)
theorem TF(M:ah)(i:Nat):jl M (i+1)=jl M i++ [(aV M i:Int)]:=by simp [jl,l4]
theorem SB(M:ah)(i:Nat):kL M (i+1)=kL M i++ [dp M i]:=by simp [kL,l4]
theorem Kr{M:ah}{i k:Nat}(h:k<i):gi (jl M i) k=(aV M k:Int):=by
 rw [bF (by simp [jl];exact h)];simp [jl]
theorem J5{M:ah}{i k:Nat}(h:k<i):gl (kL M i) k=dp M k:=by
 rw [cX (by simp [kL];exact h)];simp [kL]
theorem E0(M:ah)(i:Nat):(kL M i).length=i:=by simp [kL]
def mV(M:ah)(i f k:Nat)(G:List Bool):Prop:=G.length=aV M M.length*aV M M.length/\∀e d:Nat,e<aV M M.length->d<aV M M.length->(gb G ((e*aV M M.length+d:Nat):Int)=true↔∃f' k',(f'<f\/f'=f/\k'<k)/\f'< (gl M 0).length/\k'<i/\cK M i f'=e/\cK M k' f'=d)
theorem TH{N e d e' d':Nat}(h1:d<N)(h2:d'<N)(h:e*N+d=e'*N+d'):e=e'/\d=d':=by
 have h3:(e*N+d) / N=e:=by rw [Nat.add_comm,Nat.add_mul_div_right _ _ (by omega),Nat.div_eq_of_lt h1,Nat.zero_add]
 have h4:(e'*N+d') / N=e':=by rw [Nat.add_comm,Nat.add_mul_div_right _ _ (by omega),Nat.div_eq_of_lt h2,Nat.zero_add]
 have h5:e=e':=by rw [<-h3,h,h4]
 subst h5;exact⟨O,by omega⟩
theorem Fo{N e d:Nat}(h1:e<N)(h2:d<N):e*N+d<N*N:=by
 have:(e+1)*N<=N*N:=Nat.mul_le_mul_right N h1;rw [Nat.succ_mul]at this;omega
theorem mV.zero(M:ah)(i:Nat):mV M i 0 0 (List.replicate (aV M M.length*aV M M.length) false):=by
 refine⟨by simp,fun e d he hd=>?_⟩;have:gb (List.replicate (aV M M.length*aV M M.length) false) ((e*aV M M.length+d:Nat):Int)=false:=by
  simp only [gb,fW,cz,List.getElem?_replicate]
  split<;>rfl
 rw [this];constructor
 ·intro h;cases h
 rintro⟨f',k',h,_⟩;omega
theorem mV.next{M:ah}(hM:n3 M){i f k:Nat}{G:List Bool}(h:mV M i f k G)(hf:f< (gl M 0).length)(hi:i<M.length)(hk:k<i):mV M i f (k+1) (G.set ((cK M i f).toNat*aV M M.length+ (cK M k f).toNat) true):=by
 have h1:=qU hM (i:=i) hf;have h2:=qU hM (i:=k) hf;have h3:=jU M (show i+1<=M.length by omega);have h4:=jU M (show k+1<=M.length by omega);refine⟨by rw [ij];exact h.1,fun e d he hd=>?_⟩;have hl:=Fo (e:=(cK M i f).toNat) (d:=(cK M k f).toNat) (N:=aV M M.length) (by omega) (by omega);have hg:gb (G.set ((cK M i f).toNat*aV M M.length+ (cK M k f).toNat) true) ((e*aV M M.length+d:Nat):Int)=if(cK M i f).toNat*aV M M.length+ (cK M k f).toNat=e*aV M M.length+d then true else gb G ((e*aV M M.length+d:Nat):Int):=by
  simp only [gb,fW,cz,l0]
  by_cases e1:(cK M i f).toNat*aV M M.length+ (cK M k f).toNat=e*aV M M.length+d
  ·rw [aF e1,aF (by rw [h.1];exact hl),aF e1];rfl
  rw [aC e1,aC e1]
 rw [hg]
 by_cases e1:(cK M i f).toNat*aV M M.length+ (cK M k f).toNat=e*aV M M.length+d
 ·rw [aF e1];have:=TH (by omega) hd e1;exact⟨fun _=> ⟨f,k,.inr ⟨O,by omega⟩,hf,hk,by omega,by omega⟩,fun _=>O⟩
 rw [aC e1,h.2 e d he hd];constructor
 ·rintro⟨f',k',q,r⟩;exact⟨f',k',by omega,r⟩
 rintro⟨f',k',q,r1,r2,r3,r4⟩;refine⟨f',k',?_,r1,r2,r3,r4⟩
 by_cases e2:f'=f/\k'=k
 ·obtain⟨rfl,rfl⟩:=e2;exact absurd (by rw [r3,r4];rfl) e1
 omega
theorem mV.row{M:ah}{i f:Nat}{G:List Bool}(h:mV M i f i G):mV M i (f+1) 0 G:=by
 refine⟨h.1,fun e d he hd=>?_⟩;rw [h.2 e d he hd];constructor
 ·rintro⟨f',k',q,r⟩;exact⟨f',k',by omega,r⟩
 rintro⟨f',k',q,r1,r2,r3⟩;exact⟨f',k',by omega,r1,r2,r3⟩
theorem mV.done{M:ah}(hM:n3 M){i:Nat}{G:List Bool}(h:mV M i (gl M 0).length 0 G)(hi:i<M.length){e d:Nat}(he:e<aV M M.length)(hd:d<aV M M.length):gb G ((e*aV M M.length+d:Nat):Int)=true↔((aV M i<=e/\e<aV M (i+1))/\(d:Int)∈gl (bP M) e):=by
 rw [h.2 e d he hd,mA (by omega) (by omega)];constructor
 ·rintro⟨f',k',_,r1,r2,r3,r4⟩;have:=qU hM (i:=i) r1;exact⟨by omega,by omega,f',r1,i,hi,k',r2,r3.symm,r4.symm⟩
 rintro⟨h1,_,f',r1,i',eK,k',r2,r3,r4⟩;have h5:=qU hM (i:=i') r1;have:i'=i:=by
  rcases Nat.lt_trichotomy i' i with h | h | h
  ·have:=jU M (show i'+1<=i by omega);omega
  ·exact h
  have:=jU M (show i+1<=i' by omega);omega
 subst this;exact⟨f',k',by omega,r1,r2,r3.symm,r4.symm⟩
noncomputable def ob(M:ah)(i e d x:Nat):ai:=if x<aV M i then gl (bP M) x else if aV M (i+1)<=x then []else if x<e then gl (bP M) x else if x=e then(gl (bP M) x).filter fun y=>decide (y<d)else []
noncomputable def eG(M:ah)(i e d:Nat):ah:=(List.range (aV M M.length)).map (ob M i e d)
theorem r8(M:ah)(i e d:Nat):(eG M i e d).length=aV M M.length:=by simp [eG]
theorem Gx{M:ah}{i e d x:Nat}(h:x<aV M M.length):gl (eG M i e d) x=ob M i e d x:=by
 rw [cX (by rw [r8];exact h)];simp [eG]
theorem N7{M:ah}{e:Nat}(he:e<aV M M.length):gl (bP M) e=(gl (bP M) e).filter (fun y=>decide (y< (aV M M.length:Int))):=by
 refine(List.filter_eq_self.2 fun y hy=>?_).symm;rw [mA (by omega) (by omega)]at hy;exact eD hy.1.2
theorem Hm(M:ah)(e:Int):SA (gl (bP M) e):=by
 have dv:∀l∈bP M,SA l:=fun l hl=>by
  unfold bP at hl;obtain⟨x,_,rfl⟩:=fh.1 hl;exact lX _ (nQ _)
 by_cases h:e.toNat< (bP M).length
 ·have:gl (bP M) e=gl (bP M) (e.toNat:Int):=by simp only [gl,fW]
  rw [this,cX h];exact dv _ (dU _)
 have:gl (bP M) e=[]:=by simp [gl,cz,oX (Nat.le_of_not_lt h)]
 rw [this];exact List.Pairwise.nil
theorem N8{M:ah}(hM:n3 M){e:Nat}(he:e<aV M 1):gl (bP M) e=[]:=by
 have h5:=hM.1;have Eo:=jU M (show 1<=M.length by omega);refine List.eq_nil_iff_forall_not_mem.2 fun y hy=>?_
 rw [mA (by omega) (by omega)]at hy;obtain⟨_,f,hf,i,hi,k,hk,h1,_⟩:=hy;have h2:=qU hM (i:=i) hf;have h3:=jU M (show 1<=i by omega);omega
theorem MJ{M:ah}(hM:n3 M):eG M 1 0 0=List.replicate (aV M M.length) []:=by
 apply ia (by simp [eG]);intro x h1 h2;rw [r8]at h1;simp only [eG,List.getElem_map,List.getElem_range,List.getElem_replicate];unfold ob
 split
 ·exact N8 hM (by assumption)
 split
 ·rfl
 split
 ·omega
 split
 ·rename_i h;subst h;rw [List.filter_eq_nil_iff];intro y hy h;have:=rK h;rw [mA (by omega) (by omega)]at hy;omega
 rfl
theorem MI{M:ah}{i:Nat}:eG M i (aV M M.length) 0=eG M (i+1) 0 0:=by
 unfold eG;refine kS fun x hx=>?_
 have hx:=fP.1 hx;have h1:=jU M (show i+1<=i+1+1 by omega);have h2:=jU M (show i<=i+1 by omega);have hz:∀y∈gl (bP M) x,0<=y:=fun y hy=>by rw [mA (by omega) (by omega)]at hy;omega
 unfold ob
 by_cases c1:x<aV M i
 ·rw [aF c1,aF (by omega)]
 rw [aC c1]
 by_cases c2:x<aV M (i+1)
 ·rw [aC (by omega),aF hx,aF c2]
 rw [aF (by omega),aC c2]
 split
 ·rfl
 rw [aC (by omega)]
 split
 ·rename_i h;subst h;symm;rw [List.filter_eq_nil_iff];intro y hy h;have:=rK h;have:=hz y hy;omega
 rfl
theorem ML{M:ah}{i e:Nat}:eG M i e (aV M M.length)=eG M i (e+1) 0:=by
 unfold eG;refine kS fun x hx=>?_
 have hx:=fP.1 hx;have hz:∀y∈gl (bP M) x,0<=y:=fun y hy=>by rw [mA (by omega) (by omega)]at hy;omega
 unfold ob
 by_cases c1:x<aV M i
 ·rw [aF c1,aF c1]
 rw [aC c1,aC c1]
 by_cases c2:aV M (i+1)<=x
 ·rw [aF c2,aF c2]
 rw [aC c2,aC c2]
 by_cases c3:x<e
 ·rw [aF c3,aF (by omega)]
 rw [aC c3]
 by_cases c4:x=e
 ·rw [aF c4,aF (by omega),<-N7 hx]
 rw [aC c4,aC (by omega)]
 split
 ·rename_i h;subst h;symm;rw [List.filter_eq_nil_iff];intro y hy h;have:=rK h;have:=hz y hy;omega
 rfl
theorem MM{M:ah}{i e d:Nat}(he:e<aV M M.length)(hd:d<aV M M.length)(h:¬((aV M i<=e/\e<aV M (i+1))/\(d:Int)∈gl (bP M) e)):eG M i e (d+1)=eG M i e d:=by
 unfold eG;refine kS fun x hx=>?_
 unfold ob
 by_cases c1:x<aV M i
 ·rw [aF c1,aF c1]
 rw [aC c1,aC c1]
 by_cases c2:aV M (i+1)<=x
 ·rw [aF c2,aF c2]
 rw [aC c2,aC c2]
 by_cases c3:x<e
 ·rw [aF c3,aF c3]
 rw [aC c3,aC c3]
 by_cases c4:x=e
 ·subst c4;rw [aF rfl,aF rfl];refine List.filter_congr fun y hy=>?_
  have bL:y≠(d:Int):=fun e=>h ⟨by omega,e▸hy⟩
  exact kg.2 (by omega)
 rw [aC c4,aC c4]
theorem MK{M:ah}{i e d:Nat}(he:e<aV M M.length)(h:(aV M i<=e/\e<aV M (i+1))/\(d:Int)∈gl (bP M) e):(eG M i e d).set e (gl (eG M i e d) e++ [(d:Int)])=eG M i e (d+1):=by
 apply ia (by simp [eG]);intro x h1 h2;rw [r8]at h2;rw [List.getElem_set];have e2:∀d' (hx:x< (eG M i e d').length),(eG M i e d')[x]=ob M i e d' x:=fun d' hx=>by simp [eG]
 rw [e2 (d+1) (by rw [r8];exact h2),e2 d (by rw [r8];exact h2)]
 by_cases c:e=x
 ·subst c;rw [aF rfl,Gx he];have hz:∀d':Nat,ob M i e d' e=(gl (bP M) e).filter fun y=>decide (y< (d':Int)):=fun d'=>by
   unfold ob;rw [aC (by omega),aC (by omega),aC (by omega),aF rfl]
  rw [hz,hz];have hs:=Hm M e;refine SA.eq ?_ (lX _ hs) fun y=>?_
  ·rw [SA,List.pairwise_append];refine⟨lX _ hs,List.pairwise_singleton _ _,fun a ha b hb=>?_⟩;obtain rfl:=eP.1 hb;exact rK (fZ.1 ha).2
  rw [gL,fZ,fZ,eP];simp only [jL];constructor
  ·rintro(⟨h3,h4⟩ | rfl)
   ·exact⟨h3,by omega⟩
   exact⟨h.2,by omega⟩
  rintro⟨h3,h4⟩
  by_cases e3:y=(d:Int)
  ·exact .inr e3
  exact .inl ⟨h3,by omega⟩
 rw [aC c];unfold ob
 by_cases c1:x<aV M i
 ·rw [aF c1,aF c1]
 rw [aC c1,aC c1]
 by_cases c2:aV M (i+1)<=x
 ·rw [aF c2,aF c2]
 rw [aC c2,aC c2]
 by_cases c3:x<e
 ·rw [aF c3,aF c3]
 rw [aC c3,aC c3,aC (fun h=>c h.symm),aC (fun h=>c h.symm)]
theorem MH{M:ah}:eG M M.length 0 0=bP M:=by
 apply ia (by rw [r8,oj]);intro x h1 h2;rw [r8]at h1;simp only [eG,List.getElem_map,List.getElem_range];unfold ob;rw [aF h1,cX h2]
theorem TN{α:Type}(x y p r i q b:α):[x,y,p,r,i,q,b].Perm [p,x,i,q,b,y,r]:=by
 classical
 refine l3.2 fun z=>?_
 simp only [lB,nY];omega
theorem rQ{t:ae}{rs:List aL}{xss:ah}{a:aj}{n c:Nat}{x:ai}(h:rs.length=xss.length):b6 t (rs++ [⟨a,n,c⟩]) (xss++ [x])=b6 t rs xss++ [aw t a n c x]:=by
 rw [yA h];rfl
abbrev rN(A1 A2 A4 A5 A6:aj)(A:aj)(n c:Nat)(M:ah)(i j i':Nat)(AR:aj)(cR:Nat)(AD:aj)(cD:Nat)(cq:List aL)(c5 c6:Nat)(fe:List aL):List Ck:=
 a7 A4 n AR (aV M i+j) cR AD (aV M i+j) cD::aw 2 AR (aV M i+j) cR (bS M i++List.replicate j (i:Int))::aw 2 A5 i' c5 (jl M i')::a7 A2 0 none 0 0 none 0 0::Bx 37 1 A1 [.slice A n c]::bE 24 AD (aV M i+j) cD cq::bE 24 A6 i' c6 fe::(b6 2 cq (List.replicate (aV M i+j) [])++b6 2 fe (kL M i'))
theorem Fa{t1 t2:ae}{A:aj}{n c:Nat}{rs:List aL}{xss:ah}{pre ks:List Ck}{i:Nat}(s:aL)(xs:ai)(hr:rs.length=xss.length)(hi:i<rs.length):(pre++ (aQ t1 t2 A n c rs xss++ks)).set (pre.length+1+i) (aw t2 s.a s.n s.c xs)=pre++ (bE t1 A n c rs::(b6 t2 (rs.set i s) (xss.set i xs)++ks)):=by
 rw [List.set_append_right _ _ (by omega),show pre.length+1+i - pre.length=i+1 by omega]
 congr 1
 show(bE t1 A n c rs::(b6 t2 rs xss++ks)).set (i+1) _=_;rw [List.set_cons_succ,List.set_append_left _ _ (by rw [s6 hr];exact hi),Fz hr]
abbrev lv(A1 A2 A5 A6:aj)(A:aj)(n c:Nat)(M:ah)(AR:aj)(N cR c5 c6:Nat)(fe:List aL):List Ck:=
 aw 2 AR N cR (bS M n)::aw 2 A5 n c5 (jl M n)::a7 A2 0 none 0 0 none 0 0::Bx 37 1 A1 [.slice A n c]::(aQ 24 2 A6 n c6 fe (kL M n)++ [])
theorem J4(A:aj)(n c:Nat)(rs:List aL)(M:ah)(w:aa)(hR:bq w A n rs M)(hM:n3 M):
 aJ prog 102 [.agg #[.slice A n c]] w (fun v w'=>∃AR cR AD cD cq,v= .agg #[ak (M.length:Int),.slice AR (aV M M.length) cR,.slice AD (aV M M.length) cD]/\cq.length=aV M M.length/\St w w' (aw 2 AR (aV M M.length) cR (bS M M.length)::(aQ 24 2 AD (aV M M.length) cD cq (bP M)++ []))):=by
 have hl:=hR.len;have h1:=hM.1;have h2:=hM.2.1;have sI:∀i,i<=n->aV M i<=2000:=fun i hi=>by
  have h3:=Bt (M:=M) i;have h4:i* (gl M 0).length<=5*400:=Nat.mul_le_mul (by omega) (by omega);omega
 refine br func102 O ntmps102 O (pD O O) (a8 O (ng (St.refl w) O O ?_));intro A1 w1 ay;refine kV ay O fun A2 w2 aM=>ar O (aS (aM.rd 1 O) O (aZ (aM.rd 1 O) O ?_));refine ba O O (ar O ?_);refine yY (by exact inferInstance) (by exact inferInstance) (by exact inferInstance) O O O O O O (iB aM O ?_);intro A5 w3 aU;refine iB aU O fun A6 w4 bd=>kV bd O fun A4 w5 bh=>dG 3 0 bh O O O O O O O ?_;intro w6 bD;have bD:St w w6 (rN A1 A2 A4 A5 A6 A n c M 0 0 0 none 0 none 0 [] 0 0 []):=by
  have h7:=(bD.nil 24).nil 2;exact h7.perm (TN _ _ _ _ _ _ _)
 clear bh bd aU aM ay;refine aE O ?_;refine Cd.loop (α:=Nat×(aj×Nat)×(aj×Nat×List aL)×(aj×Nat)×(aj×Nat×List aL)) (fun z=> [(1,.pointer A1),(2,.pointer A2),(3,ak n),(4,.pointer A4),(5,.slice z.2.2.2.1.1 z.1 z.2.2.2.1.2),(6,.slice z.2.2.2.2.1 z.1 z.2.2.2.2.2.1),(7,ak (z.1:Int))])
  (fun z w'=>z.1<=n/\z.2.2.1.2.2.length=aV M z.1/\z.2.2.2.2.2.2.length=z.1/\St w w' (rN A1 A2 A4 z.2.2.2.1.1 z.2.2.2.2.1 A n c M z.1 0 z.1 z.2.1.1 z.2.1.2 z.2.2.1.1 z.2.2.1.2.1 z.2.2.1.2.2 z.2.2.2.1.2 z.2.2.2.2.2.1 z.2.2.2.2.2.2)) (fun z=>n - z.1) (0,(none,0),(none,0,[]),(A5,0),(A6,0,[])) ⟨rfl,rfl,rfl,rfl,rfl,rfl,rfl,av⟩ ⟨bn _,rfl,rfl,bD⟩ ?_
 clear bD;rintro⟨i,⟨AR,cR⟩,⟨AD,cD,cq⟩,⟨A5,c5⟩,⟨A6,c6,fe⟩⟩ e w7 ⟨hi,rA,vF,hS⟩;dsimp only at hi rA vF hS|-;have Jd:=sI i hi;refine bX O (aN _ O (fun h3=>?_) (fun h3=>?_))
 ·have de:i<n:=by omega
  have gE:=sc M i;have xT:=sI (i+1) (by omega);have ub:aV M (i+1)=aV M i+ (fK M i).toNat:=O;obtain⟨N,hN⟩:∃N:Nat,fK M i=N:=⟨(fK M i).toNat,by omega⟩;rw [hN,fW]at ub;have xw:=NQ hM i;rw [hN]at xw gE;have xr:bS M (i+1)=bS M i++List.replicate N (i:Int):=by rw [bS,hN,fW]
  refine aG O (aS (hS.rd 0 O) O (aZ (hS.rd 0 O) O (ba O O (eE hS O O O ?_))));intro A32 w8 b7;refine fj 3 b7 O (b7.bo 0 O) O O O ?_;intro pJ qO w9 bg;have bg:=bg.tail;have e5:jl M i++ [((aV M i+0:Nat):Int)]=jl M (i+1):=(TF M i).symm;rw [e5]at bg;clear b7 hS;refine ar O (bK 0 (bg.rd 4 O) O O O (ar O (aI (Sg A n c rs M i _ (bg.bO hR) hM de) O ?_)));rintro _ dw ⟨mT,qP,rfl,ax⟩;have bQ:=bg.call ax;clear ax bg;refine l6 bQ O O O fun cJ ew dT=>l5 8 dT O (dT.fz 0 O) O O O (by omega) (by omega) O ?_;intro nU o4 eh dC;have dC:St w eh (aw 2 mT (gl M 0).length qP (dp M i)::a7 A4 n AR (aV M i+0) cR AD (aV M i+0) cD::aw 2 AR (aV M i+0) cR (bS M i++List.replicate 0 (i:Int))::aw 2 pJ (i+1) qO (jl M (i+1))::a7 A2 0 none 0 0 none 0 0::Bx 37 1 A1 [.slice A n c]::bE 24 AD (aV M i+0) cD cq::bE 24 nU (i+1) o4 (fe++ [⟨mT,(gl M 0).length,qP⟩])::(b6 2 cq (List.replicate (aV M i+0) [])++b6 2 fe (kL M i))):=dC.tail;have dC:St w eh (rN A1 A2 A4 pJ nU A n c M i 0 (i+1) AR cR AD cD cq qO o4 (fe++ [⟨mT,(gl M 0).length,qP⟩])):=by
   have h9:=dC.perm (TK _ _ _ _ _ _ _ _ _ _);rw [<-rQ (by rw [vF,E0]),<-SB]at h9;exact h9
  have Jq:(fe++ [(⟨mT,(gl M 0).length,qP⟩:aL)]).length=i+1:=by simp [vF]
  have IL:rg (fe++ [(⟨mT,(gl M 0).length,qP⟩:aL)]) i=⟨mT,(gl M 0).length,qP⟩:=by
   unfold rg;rw [fW,cz,lZ (by omega),vF,Nat.sub_self];rfl
  clear bQ dT;generalize fe++ [(⟨mT,(gl M 0).length,qP⟩:aL)]=oR at*;have iu:im eh nU (i+1) oR:=dC.fz 6 O;have H2:bu eh mT (gl M 0).length (dp M i):=by
   have hk6:b6 2 oR (kL M (i+1))≠[]\/True:= .inr av;have h7:=vV (t:=2) (rs:=oR) (xss:=kL M (i+1)) (i:=i) (by rw [Jq,E0]) (by omega);have h8:=dC.sub (show(b6 2 oR (kL M (i+1))).Sublist (rN A1 A2 A4 pJ nU A n c M i 0 (i+1) AR cR AD cD cq qO o4 oR) from(((((((gq _ _).cons _).cons _).cons _).cons _).cons _).cons _).cons _);have h9:=h8.bo i h7;have e8:oR.getD i cL=⟨mT,(gl M 0).length,qP⟩:=IL;have e9:(kL M (i+1)).getD i []=dp M i:=J5 (show i<i+1 by omega);rw [e8,e9]at h9;exact h9
  refine ar O (aB iu.2 O (ck iu O ?_));rw [IL];refine WD (Sh mT (gl M 0).length qP (dp M i) _ H2 (by omega) (fun x hx=>by
   obtain⟨k,hk,rfl⟩:=eZ.1 hx;rw [zt]at hk;have:=wF hM i k hk;rw [bF (by rw [zt];exact hk)]at this;omega)) rfl rfl rfl ?_
  rintro _ eh ⟨rfl,rfl⟩;rw [xw];refine aE O ?_;clear iu H2;refine Cd.loop (α:=Nat×(aj×Nat)×(aj×Nat×List aL)) (fun z=> [(1,.pointer A1),(2,.pointer A2),(3,ak n),(4,.pointer A4),(5,.slice pJ (i+1) qO),(6,.slice nU (i+1) o4),(7,ak i),(8,ak ((N:Int) - (z.1:Int)))])
   (fun z w'=>z.1<=N/\z.2.2.2.2.length=aV M i+z.1/\St w w' (rN A1 A2 A4 pJ nU A n c M i z.1 (i+1) z.2.1.1 z.2.1.2 z.2.2.1 z.2.2.2.1 z.2.2.2.2 qO o4 oR)) (fun z=>N - z.1) (0,(AR,cR),(AD,cD,cq)) ⟨rfl,rfl,rfl,rfl,rfl,rfl,rfl,aH (Value.int .i64) (by show(N:Int)=(N:Int) - ((0:Nat):Int);omega),av⟩ ⟨bn _,rA,dC⟩ ?_
  clear dC;rintro⟨j,⟨BR,dR⟩,⟨BD,dD,lR⟩⟩ e gp ⟨hj,ry,hS⟩;dsimp only at hj ry hS|-;refine bX O (aN _ O (fun h4=>?_) (fun h4=>?_))
  ·have xE:j<N:=by omega
   refine aG O (aS (hS.rd 0 O) O (aZ (hS.rd 0 O) O (ar O (eE hS O O O ?_))));intro A52 lT iS;refine fj 2 iS O (iS.bo 0 O) O O O ?_;intro yJ zc lU gP;have hB:=gP.rd 1 O;refine aS hB O (kB 1 gP O O O O O ?_);intro uC kF;have kF:=kF.tail;clear iS gP hB hS;refine ar O ?_;have hB:=kF.rd 0 O;refine aS hB O (aZ hB O (iB kF O ?_));intro mq oS DK;have DK:St w oS (aw 2 mq 0 0 []::_):=DK;refine l6 DK O O O fun A58 Ld Ic=>l5 7 Ic O (Ic.fz 0 O) O O O (by omega) (by omega) O ?_;intro yK zd Le Ie;have hB:=Ie.rd 2 O;refine aS hB O (kB 2 Ie O O O O O ?_);intro oT ov;have ov:St w oT (aw 2 mq 0 0 []::a7 A4 n yJ (aV M i+j+1) zc yK (aV M i+j+1) zd::aw 2 yJ (aV M i+j+1) zc ((bS M i++List.replicate j (i:Int))++ [(i:Int)])::aw 2 pJ (i+1) qO (jl M (i+1))::a7 A2 0 none 0 0 none 0 0::Bx 37 1 A1 [.slice A n c]::bE 24 yK (aV M i+j+1) zd (lR++ [⟨mq,0,0⟩])::bE 24 nU (i+1) o4 oR::(b6 2 lR (List.replicate (aV M i+j) [])++b6 2 oR (kL M (i+1)))):=ov.tail;have Po:St w oT (rN A1 A2 A4 pJ nU A n c M i (j+1) (i+1) yJ zc yK zd (lR++ [⟨mq,0,0⟩]) qO o4 oR):=by
    have h9:=ov.perm (TJ _ _ _ _ _ _ _ _ _ _);rw [<-rQ (by rw [ry,List.length_replicate]),ig,<-List.replicate_succ',<-List.replicate_succ']at h9;exact h9
   refine ar O (dA O (aR O (tQ ?_)));exact⟨(j+1,(yJ,zc),(yK,zd,lR++ [⟨mq,0,0⟩])),by show N - (j+1)<N - j;omega,⟨O,O,O,O,O,O,O,aH (Value.int .i64) (by show(N:Int) - (j:Int) - 1=(N:Int) - ((j+1:Nat):Int);omega),av⟩,by show j+1<=N;omega,by show(lR++ [_]).length=aV M i+ (j+1);rw [eY,ry];rfl,Po⟩
  ·have xE:j=N:=by omega
   subst xE;refine bk O (bm (ct O (aK O (aR O (tQ ?_)))));refine⟨(i+1,(BR,dR),(BD,dD,lR),(pJ,qO),(nU,o4,oR)),by show n - (i+1)<n - i;omega,(WM O),by show i+1<=n;omega,by rw [ub];exact ry,Jq,?_⟩;show St w gp (rN A1 A2 A4 pJ nU A n c M (i+1) 0 (i+1) BR dR BD dD lR qO o4 oR);unfold rN at hS|-;rw [<-ub,<-xr]at hS;rw [Nat.add_zero,List.replicate_zero,fO];exact hS
 obtain rfl:i=n:=by omega
 have gU:M.length=i:=hl;obtain⟨N,hK⟩:∃N,aV M i=N:=⟨_,rfl⟩;have iQ:aV M M.length=N:=by rw [gU,hK]
 have hsq:N*N<=4000000:=jb (Nat.mul_le_mul (show N<=2000 by omega) (show N<=2000 by omega)) (by decide);have Ig:St w w7 (a7 A4 i AR N cR AD N cD::(aQ 24 2 AD N cD cq (eG M 1 0 0)++lv A1 A2 A5 A6 A i c M AR N cR c5 c6 fe)):=by
  rw [MJ hM,iQ];unfold rN at hS;rw [Nat.add_zero,hK,List.replicate_zero,fO]at hS;exact hS.perm (TM _ _ _ _ _ _ _ _ _)
 clear hS;rw [hK]at rA;refine bk O (bm (mw O ?_));refine Cd.loop (α:=Nat×List aL) (fun z=> [(1,.pointer A1),(2,.pointer A2),(3,ak i),(4,.pointer A4),(5,.slice A5 i c5),(6,.slice A6 i c6),(9,ak (z.1:Int))])
  (fun z w'=> (1<=z.1/\z.1<=i)/\z.2.length=N/\St w w' (a7 A4 i AR N cR AD N cD::(aQ 24 2 AD N cD z.2 (eG M z.1 0 0)++lv A1 A2 A5 A6 A i c M AR N cR c5 c6 fe))) (fun z=>i - z.1) (1,cq) ⟨rfl,rfl,rfl,rfl,rfl,rfl,rfl,av⟩ ⟨⟨dh _,by show 1<=i;omega⟩,rA,Ig⟩ ?_
 clear Ig;rintro⟨k,lR⟩ e w8 ⟨⟨fR,dz⟩,ry,hS⟩;dsimp only at fR dz ry hS|-;refine bX O (aN _ O (fun h4=>?_) (fun h4=>?_))
 ·have pd:k<i:=by omega
  refine aG O (aS (hS.rd 0 O) O (aZ (hS.rd 0 O) O ?_));refine ba O O (ar O ?_);refine ao.mul O O O (by have:((N*N:Nat):Int)=(N:Int)* (N:Int):=Int.natCast_mul N N;omega) ?_;rw [show(N:Int)* (N:Int)=((N*N:Nat):Int) from(Int.natCast_mul N N).symm];refine tj (v:=false) (N*N) hS O O (by omega) fun gz w9 bg=>aE O ?_;refine Cd.loop (α:=Nat×List Bool) (fun z=> [(1,.pointer A1),(2,.pointer A2),(3,ak i),(4,.pointer A4),(5,.slice A5 i c5),(6,.slice A6 i c6),(9,ak k),(10,ak N),(11,.slice gz (N*N) (N*N)),(12,ak (z.1:Int))])
   (fun z w'=>z.1<=(gl M 0).length/\mV M k z.1 0 z.2/\St w w' (eC 4 gz (N*N) (N*N) z.2::a7 A4 i AR N cR AD N cD::(aQ 24 2 AD N cD lR (eG M k 0 0)++lv A1 A2 A5 A6 A i c M AR N cR c5 c6 fe))) (fun z=> (gl M 0).length - z.1) (0,List.replicate (N*N) false) ⟨rfl,rfl,rfl,rfl,rfl,rfl,rfl,rfl,rfl,rfl,av⟩ ⟨bn _,by have:=mV.zero M k;rwa [iQ]at this,bg⟩ ?_
  clear bg hS;rintro⟨f,G⟩ e dw ⟨hf,hG,hS⟩;dsimp only at hf hG hS|-;have EE:∀(G:List Bool) (q:List aL) (B:ah),(lv A1 A2 A5 A6 A i c M AR N cR c5 c6 fe).Sublist (eC 4 gz (N*N) (N*N) G::a7 A4 i AR N cR AD N cD::(aQ 24 2 AD N cD q B++lv A1 A2 A5 A6 A i c M AR N cR c5 c6 fe)):=fun G q B=> ((gq _ _).cons _).cons _
  have QZ:(aQ 24 2 A6 i c6 fe (kL M i)).Sublist (lv A1 A2 A5 A6 A i c M AR N cR c5 c6 fe):=by
   refine List.Sublist.cons _ (List.Sublist.cons _ (List.Sublist.cons _ (List.Sublist.cons _ ?_)));rw [fO];exact gB _
  have iD:=(hS.sub (EE _ _ _)).rd 3 O;refine a8 O (bK 0 iD O O O (aI (vL A i c rs M _ (hS.bO hR) (by omega)) O ?_));rintro _ ew ⟨rfl,ax⟩;have hS:=hS.aq ax.below;clear ax iD;refine aE O (aN _ O (fun h5=>?_) (fun h5=>?_))
  ·have nA:f< (gl M 0).length:=by omega
   refine df O ?_;refine Cd.loop (α:=Nat×List Bool) (fun z=> [(1,.pointer A1),(2,.pointer A2),(3,ak i),(4,.pointer A4),(5,.slice A5 i c5),(6,.slice A6 i c6),(9,ak k),(10,ak N),(11,.slice gz (N*N) (N*N)),(12,ak f),(13,ak (z.1:Int))])
    (fun z w'=>z.1<=k/\mV M k f z.1 z.2/\St w w' (eC 4 gz (N*N) (N*N) z.2::a7 A4 i AR N cR AD N cD::(aQ 24 2 AD N cD lR (eG M k 0 0)++lv A1 A2 A5 A6 A i c M AR N cR c5 c6 fe))) (fun z=>k - z.1) (0,G) ⟨rfl,rfl,rfl,rfl,rfl,rfl,rfl,rfl,rfl,rfl,rfl,av⟩ ⟨bn _,hG,hS⟩ ?_
   clear hS hG;rintro⟨j,G⟩ e eh ⟨hj,hG,hS⟩;dsimp only at hj hG hS|-;refine bX O (aN _ O (fun h6=>?_) (fun h6=>?_))
   ·have Ak:j<k:=by omega
    have zI:bu eh A5 i (jl M i):=(hS.sub (EE _ _ _)).bo 1 O;have mD:bq eh A6 i fe (kL M i):=(hS.sub (QZ.trans (EE _ _ _))).kq (E0 M i);have jg:=mD.at_ (i:=(k:Int)) (by omega) (by omega);have AP:=mD.at_ (i:=(j:Int)) (by omega) (by omega);rw [J5 (by omega)]at jg AP;have hkn9:(rg fe k).n=(gl M 0).length:=by rw [<-jg.1,zt]
    have hjn9:(rg fe j).n=(gl M 0).length:=by rw [<-AP.1,zt]
    have o1:=Kr (M:=M) (i:=i) (k:=k) (by omega);have o2:=Kr (M:=M) (i:=i) (k:=j) (by omega);have e1:=qU hM (i:=k) nA;have e2:=qU hM (i:=j) nA;have m1:=jU M (show k+1<=M.length by omega);have m2:=jU M (show j+1<=M.length by omega);rw [iQ]at m1 m2;have f1:gi (jl M i) k+gi (dp M k) f=cK M k f:=by rw [o1];rfl
    have f2:gi (jl M i) j+gi (dp M j) f=cK M j f:=by rw [o2];rfl
    obtain⟨E,hE⟩:∃E:Nat,cK M k f=E:=⟨(cK M k f).toNat,by omega⟩;obtain⟨D,hD⟩:∃D:Nat,cK M j f=D:=⟨(cK M j f).toNat,by omega⟩;have e6:=hG.next hM nA (by omega) Ak;rw [hE,hD,iQ,fW,fW]at e6;rw [hE]at e1 f1;rw [hD]at e2 f2;have xW:=Fo (N:=N) (e:=E) (d:=D) (by omega) (by omega);have mB:((E*N:Nat):Int)=(E:Int)* (N:Int):=Int.natCast_mul E N;have hle:E*N<=N*N:=Nat.mul_le_mul_right N (by omega);have dF:=wF hM k f nA;have hlo2:=wF hM j f nA;have xD:(E:Int)* (N:Int)+gi (jl M i) j+gi (dp M j) f=((E*N+D:Nat):Int):=by omega
    refine df O ?_;refine ja [29] [yS (gz) (N*N) (N*N),yS (A5) (i) (c5),yI ((k:Int)),yP (aD (A5) ((k:Int)).toNat),yI (gi (jl M i) ((k:Int))),yS (A6) (i) (c6),yI ((k:Int)),yP (aD (A6) ((k:Int)).toNat),yS ((rg (fe) ((k:Int))).a) ((rg (fe) ((k:Int))).n) ((rg (fe) ((k:Int))).c),yI ((f:Int)),yP (aD ((rg (fe) ((k:Int))).a) ((f:Int)).toNat),yI (gi (dp M k) ((f:Int))),yI ((gi (jl M i) ((k:Int)))+ (gi (dp M k) ((f:Int)))),yI ((N:Int)),yI ((E:Int)* (N:Int)),yS (A5) (i) (c5),yI ((j:Int)),yP (aD (A5) ((j:Int)).toNat),yI (gi (jl M i) ((j:Int))),yI (((E:Int)* (N:Int))+ (gi (jl M i) ((j:Int)))),yS (A6) (i) (c6),yI ((j:Int)),yP (aD (A6) ((j:Int)).toNat),yS ((rg (fe) ((j:Int))).a) ((rg (fe) ((j:Int))).n) ((rg (fe) ((j:Int))).c),yI ((f:Int)),yP (aD ((rg (fe) ((j:Int))).a) ((f:Int)).toNat),yI (gi (dp M j) ((f:Int))),yI ((((E:Int)* (N:Int))+ (gi (jl M i) ((j:Int))))+ (gi (dp M j) ((f:Int)))),yP (aD (gz) ((((E:Int)* (N:Int))+ (gi (jl M i) ((j:Int))))+ (gi (dp M j) ((f:Int)))).toNat),.pr (fun _ w'=>St w w' (eC 4 gz (N*N) (N*N) (G.set (E*N+D) true)::a7 A4 i AR N cR AD N cD::(aQ 24 2 AD N cD lR (eG M k 0 0)++lv A1 A2 A5 A6 A i c M AR N cR c5 c6 fe)))] (by kernel_rfl) (by kernel_rfl) (ly (ly (ly (ly (ly (ly (ly (ly (ly (ly (ly (ly (ly (ly (ly (ly (ly (ly (ly (ly (ly (ly (ly (ly (ly (ly (ly (ly (ly (cM.2 ⟨Ye.cN (fun v w w' h hb=>h.aq hb),(fun _ h=>by cases h)⟩)))))))))))))))))))))))))))))) ?_ ?_
    ·refine⟨bT O,bT O,bT O,cP fun _ _ hb _ _ _=>aB (zI.aq hb).2 O (bB O O),cP fun _ _ hb _ _ _=>aW (zI.aq hb) O (bB O O),bT O,bT O,cP fun _ _ hb _ _ _=>aB (mD.top.aq hb).2 O (bB O O),cP fun _ _ hb _ _ _=>ck (mD.top.aq hb) O (bB O O),bT O,cP fun _ _ hb _ _ _=>aB (jg.aq hb).2 O (bB O O),cP fun _ _ hb _ _ _=>aW (jg.aq hb) O (bB O O),aP fun _ _=>aK O (bB O O),bT O,aP fun _ _=>ao.mul (i:=(E:Int)) (j:=(N:Int)) (by exact aH (Value.int .i64) f1) O O (by omega) (bB O O),bT O,bT O,cP fun _ _ hb _ _ _=>aB (zI.aq hb).2 O (bB O O),cP fun _ _ hb _ _ _=>aW (zI.aq hb) O (bB O O),aP fun _ _=>aK O (bB O O),bT O,bT O,cP fun _ _ hb _ _ _=>aB (mD.top.aq hb).2 O (bB O O),cP fun _ _ hb _ _ _=>ck (mD.top.aq hb) O (bB O O),bT O,cP fun _ _ hb _ _ _=>aB (AP.aq hb).2 O (bB O O),cP fun _ _ hb _ _ _=>aW (AP.aq hb) O (bB O O),aP fun _ _=>aK O (bB O O),cP fun _ _ hb _ _ _=>aB ((hS.gX 0 O).aq hb).2 O (bB O O),?_,av⟩
     ·refine jc fun e1 w1 hb hp aX hq=>?_
      refine pQ 0 (hS.aq hb) O O O (by omega) fun w6 bD=>ao.n ?_;exact fg.st O (by rw [xD,fW]at bD;exact bD)
    intro u gp _ hu _ _;have hT:=hu 29 _ O (by kernel_rfl);refine gZ O (aK O (aR O (tQ ?_)));exact⟨(j+1,_),by show k - (j+1)<k - j;omega,(WM O),by show j+1<=k;omega,e6,hT⟩
   ·have Ak:j=k:=by omega
    subst Ak;refine bk O (bm (ct O (aK O (aR O (tQ ?_)))));exact⟨(f+1,G),by show(gl M 0).length - (f+1)< (gl M 0).length - f;omega,(WM O),by show f+1<=(gl M 0).length;omega,hG.row,hS⟩
  ·have nA:f=(gl M 0).length:=by omega
   subst nA;have lK:=fun e d he hd=>hG.done hM (show k<M.length by omega) (e:=e) (d:=d) he hd
   rw [iQ]at lK;have hGl:G.length=N*N:=by have:=hG.1;rwa [iQ]at this
   refine bk O (bm (mw O ?_));refine Cd.loop (α:=Nat×List aL) (fun z=> [(1,.pointer A1),(2,.pointer A2),(3,ak i),(4,.pointer A4),(5,.slice A5 i c5),(6,.slice A6 i c6),(9,ak k),(10,ak N),(11,.slice gz (N*N) (N*N)),(14,ak (z.1:Int))])
    (fun z w'=>z.1<=N/\z.2.length=N/\St w w' (eC 4 gz (N*N) (N*N) G::a7 A4 i AR N cR AD N cD::(aQ 24 2 AD N cD z.2 (eG M k z.1 0)++lv A1 A2 A5 A6 A i c M AR N cR c5 c6 fe))) (fun z=>N - z.1) (0,lR) ⟨rfl,rfl,rfl,rfl,rfl,rfl,rfl,rfl,rfl,rfl,av⟩ ⟨bn _,ry,hS⟩ ?_
   clear hS ry hG h5;rintro⟨E,q3⟩ e eh ⟨hE,vE,hS⟩;dsimp only at hE vE hS|-;refine bX O (aN _ O (fun h5=>?_) (fun h5=>?_))
   ·have mB:E<N:=by omega
    have hEm:((E*N:Nat):Int)=(E:Int)* (N:Int):=Int.natCast_mul E N;have hEle:E*N<=N*N:=Nat.mul_le_mul_right N (by omega);refine df O ?_;refine Cd.loop (α:=Nat×List aL) (fun z=> [(1,.pointer A1),(2,.pointer A2),(3,ak i),(4,.pointer A4),(5,.slice A5 i c5),(6,.slice A6 i c6),(9,ak k),(10,ak N),(11,.slice gz (N*N) (N*N)),(14,ak E),(15,ak (z.1:Int))])
     (fun z w'=>z.1<=N/\z.2.length=N/\St w w' (eC 4 gz (N*N) (N*N) G::a7 A4 i AR N cR AD N cD::(aQ 24 2 AD N cD z.2 (eG M k E z.1)++lv A1 A2 A5 A6 A i c M AR N cR c5 c6 fe))) (fun z=>N - z.1) (0,q3) ⟨rfl,rfl,rfl,rfl,rfl,rfl,rfl,rfl,rfl,rfl,rfl,av⟩ ⟨bn _,vE,hS⟩ ?_
    clear hS vE;rintro⟨D,q4⟩ e gp ⟨hD,AO,hS⟩;dsimp only at hD AO hS|-;refine bX O (aN _ O (fun h6=>?_) (fun h6=>?_))
    ·have zF:D<N:=by omega
     have xW:=Fo (N:=N) (e:=E) (d:=D) mB zF;have ow:=r8 M k E D;rw [iQ]at ow;have IH:=lK E D mB zF;have HV:o0 gp gz (N*N) G:=hS.gX 0 O;have xD:(E:Int)* (N:Int)+ (D:Int)=((E*N+D:Nat):Int):=by omega
     refine aG O (ao.mul O O O (by omega) ?_);refine ar O (aK O ?_);refine aB HV.2 O (nh HV O (by omega) O O ?_);rw [xD];refine aE O ?_;generalize P4:gb G ((E*N+D:Nat):Int)=b at*;cases b with
     | false => --dup 2
      have mj:=MM (M:=M) (i:=k) (e:=E) (d:=D) (by omega) (by omega) (fun h=>by have:=IH.2 h;cases this);refine Cd.eM O (aG O (aK O (aR O (tQ ?_))));exact⟨(D+1,q4),by show N - (D+1)<N - D;omega,(WM O),by show D+1<=N;omega,AO,by rw [mj];exact hS⟩
     | true=>
      have vD:=MK (M:=M) (i:=k) (e:=E) (d:=D) (by omega) (IH.1 O);have iR:bq gp AD N q4 (eG M k E D):=by
       have h9:=hS.sub (show(aQ 24 2 AD N cD q4 (eG M k E D)).Sublist _ from((kU _ _).cons _).cons _);exact h9.kq ow
      have ud:=(iR.at_ (i:=(E:Int)) (by omega) (by omega)).1;have fp:(rg q4 E).n<=N:=by
       rw [<-ud,Gx (by omega)];have fB:(gl (bP M) E).length<=N:=by
        refine nN (Hm M _).nodup fun x hx=>?_
        rw [mA (by omega) (by omega)]at hx;omega
       unfold ob
       split
       ·exact fB
       ·split
        ·exact bn _
        ·split
         ·exact fB
         ·split
          ·exact jb (mX _ _) fB
          ·exact bn _
      have iE:Rd gp A4 3 (fun q=> [Value.int .i64 (i:Int),.slice AR N cR,.slice AD N cD].getD q undef):=hS.rd 1 O;have nB:∀A9:aj,(aw 2 A9 1 1 [(D:Int)]::(eC 4 gz (N*N) (N*N) G::a7 A4 i AR N cR AD N cD::(aQ 24 2 AD N cD q4 (eG M k E D)++lv A1 A2 A5 A6 A i c M AR N cR c5 c6 fe)))[3+1+E]?=some (aw 2 (rg q4 E).a (rg q4 E).n (rg q4 E).c (gl (eG M k E D) E)):=fun A9=>vN (t1:=24) (t2:=2) (A:=AD) (n:=N) (c:=cD) (rs:=q4) (xss:=eG M k E D) (pre:=[aw 2 A9 1 1 [(D:Int)],eC 4 gz (N*N) (N*N) G,a7 A4 i AR N cR AD N cD]) (ks:=lv A1 A2 A5 A6 A i c M AR N cR c5 c6 fe) (i:=E) (by omega) (by omega)
      have nz:=fun(A9:aj) (s:aL) (xs:ai)=>Fa (t1:=24) (t2:=2) (A:=AD) (n:=N) (c:=cD) (rs:=q4) (xss:=eG M k E D) (ks:=lv A1 A2 A5 A6 A i c M AR N cR c5 c6 fe) (pre:=[aw 2 A9 1 1 [(D:Int)],eC 4 gz (N*N) (N*N) G,a7 A4 i AR N cR AD N cD]) (i:=E) s xs (by omega) (by omega)
      refine Cd.fx O ?_;refine ja [10,12] [yP (aD A4 2),yS (AD) (N) (cD),yI ((E:Int)),yP (aD (A4) 2),yS (AD) (N) (cD),yI ((E:Int)),yP (aD (AD) ((E:Int)).toNat),yS ((rg (q4) ((E:Int))).a) ((rg (q4) ((E:Int))).n) ((rg (q4) ((E:Int))).c),yI ((D:Int)),.pr (fun v w'=>∃A9,v= .slice A9 1 1/\St w w' (aw 2 A9 1 1 [(D:Int)]::(eC 4 gz (N*N) (N*N) G::a7 A4 i AR N cR AD N cD::(aQ 24 2 AD N cD q4 (eG M k E D)++lv A1 A2 A5 A6 A i c M AR N cR c5 c6 fe)))),.pr (fun v w'=>∃AZ cZ,v= .slice AZ ((rg q4 E).n+1) cZ/\St w w' (eC 4 gz (N*N) (N*N) G::a7 A4 i AR N cR AD N cD::(bE 24 AD N cD q4::(b6 2 (q4.set E ⟨AZ,(rg q4 E).n+1,cZ⟩) ((eG M k E D).set E (gl (eG M k E D) E++ [(D:Int)]))++lv A1 A2 A5 A6 A i c M AR N cR c5 c6 fe)))),yP (aD AD ((E:Int)).toNat),.pr (fun _ w'=>∃AZ cZ,St w w' (eC 4 gz (N*N) (N*N) G::a7 A4 i AR N cR AD N cD::(aQ 24 2 AD N cD (q4.set E ⟨AZ,(rg q4 E).n+1,cZ⟩) ((eG M k E D).set E (gl (eG M k E D) E++ [(D:Int)]))++lv A1 A2 A5 A6 A i c M AR N cR c5 c6 fe)))] (by kernel_rfl) (by kernel_rfl) (ly (ly (ly (ly (ly (ly (ly (ly (ly (cM.2 ⟨Ye.cN (fun v w w' h hb=>by obtain⟨A9,hv,hT⟩:=h;exact⟨A9,hv,hT.aq hb⟩),(cM.2 ⟨Ye.cN (fun v w w' h hb=>by obtain⟨AZ,cZ,hv,hT⟩:=h;exact⟨AZ,cZ,hv,hT.aq hb⟩),(ly (cM.2 ⟨Ye.cN (fun v w w' h hb=>by obtain⟨AZ,cZ,hT⟩:=h;exact⟨AZ,cZ,hT.aq hb⟩),(fun _ h=>by cases h)⟩))⟩)⟩)))))))))) ?_ ?_
      ·refine⟨?_,?_,bT O,cP fun _ _ hb _ _ _=>aS (iE.below hb) O (bB O O),cP fun _ _ hb _ _ _=>aZ (iE.below hb) O (bB O O),bT O,cP fun _ _ hb _ _ _=>aB (iR.top.aq hb).2 O (bB O O),cP fun _ _ hb _ _ _=>ck (iR.top.aq hb) O (bB O O),bT O,?_,?_,?_,?_,av⟩
       ·intro e1 w1 cc dF bU dO hp aX hq;show ao _ _ _ _ _ _ _;have hX:Rd w1 A4 3 (fun q=> [Value.int .i64 (i:Int),.slice AR N cR,.slice AD N cD].getD q undef):=by { have bU:=lQ bU (b:=1) (by kernel_rfl);rcases(show cc=0\/cc=1 by omega)with h | h; { exact Rd.below iE (dO h) }; { subst h;obtain⟨AZ,cZ,_,hT⟩:=hq 10 _ _ (by kernel_rfl) (by kernel_rfl) (by kernel_rfl) rfl rfl (by kernel_rfl);exact hT.rd 1 rfl } }
        refine aS hX O (ao.n (eO O (by exact O)))
       ·intro e1 w1 cc dF bU dO hp aX hq;show ao _ _ _ _ _ _ _;have hX:Rd w1 A4 3 (fun q=> [Value.int .i64 (i:Int),.slice AR N cR,.slice AD N cD].getD q undef):=by { have bU:=lQ bU (b:=1) (by kernel_rfl);rcases(show cc=0\/cc=1 by omega)with h | h; { exact Rd.below iE (dO h) }; { subst h;obtain⟨AZ,cZ,_,hT⟩:=hq 10 _ _ (by kernel_rfl) (by kernel_rfl) (by kernel_rfl) rfl rfl (by kernel_rfl);exact hT.rd 1 rfl } }
        refine aZ hX O (ao.n (eO O (by exact O)))
       ·refine cP fun e1 w1 hb hp aX hq=>?_
        exact eE (St.refl _) O O O fun A9 w9 ax=>ao.n (eX.dn O ax.below ⟨A9,O,(hS.aq hb).call ax⟩)
       ·refine jc fun e1 w1 hb hp aX hq=>?_
        obtain⟨A9,Oz,hT⟩:=(hp 9 _ _ (by kernel_rfl) rfl rfl (by kernel_rfl));refine fj (3+1+E) hT (nB A9) (hT.bo 0 O) O (by exact Oz) O ?_;intro AZ cZ wZ hZ;have hZ:=(nz A9 ⟨AZ,(rg q4 E).n+1,cZ⟩ (gl (eG M k E D) E++ [(D:Int)]))▸hZ;exact ao.n (fg.dn O ⟨AZ,cZ,O,hZ.tail⟩)
       ·intro e1 w1 cc dF bU dO hp aX hq;show ao _ _ _ _ _ _ _;have hX:im w1 AD N q4:=by { have bU:=lQ bU (b:=1) (by kernel_rfl);rcases(show cc=0\/cc=1 by omega)with h | h; { exact iR.top.aq (dO h) }; { subst h;obtain⟨AZ,cZ,_,hT⟩:=hq 10 _ _ (by kernel_rfl) (by kernel_rfl) (by kernel_rfl) rfl rfl (by kernel_rfl);exact hT.fz 2 rfl } }
        refine aB hX.2 O (ao.n (eO O (by exact O)))
       ·refine pY 1 fun e1 w1 hp aX hq=>?_
        have eT:=hp 10 _ _ (by kernel_rfl) O O (by kernel_rfl);obtain⟨AZ,cZ,OA,hT⟩:=eT;refine tl (te:=24) (n:=N) (c:=cD) (A:=AD) (xs:=q4) 2 hT O O (by exact OA) (by omega) ?_;intro wY hY;exact ao.n (fg.st O ⟨AZ,cZ,hY⟩)
      intro u lT _ hu _ _;obtain⟨AZ,cZ,hT⟩:=hu 12 _ rfl (by kernel_rfl);rw [vD]at hT;refine gZ O (aK O (aR O (tQ ?_)));exact⟨(D+1,_),by show N - (D+1)<N - D;omega,(WM O),by show D+1<=N;omega,by simp [AO],hT⟩
    ·have zF:D=N:=by omega
     have bH:=ML (M:=M) (i:=k) (e:=E);rw [iQ]at bH;rw [zF,bH]at hS;refine bk O (bm (ct O (aK O (aR O (tQ ?_)))));exact⟨(E+1,q4),by show N - (E+1)<N - E;omega,(WM O),by show E+1<=N;omega,AO,hS⟩
   ·have mB:E=N:=by omega
    have e6:=MI (M:=M) (i:=k);rw [iQ]at e6;rw [mB,e6]at hS;refine bk O (bm (ct O (aK O (aR O (tQ ?_)))));exact⟨(k+1,q3),by show i - (k+1)<i - k;omega,(WM O),⟨by show 1<=k+1;omega,by show k+1<=i;omega⟩,vE,hS.tail⟩
 ·have pd:k=M.length:=by omega
  have dv:=MH (M:=M);rw [pd,dv]at hS;refine bk O (bm (ct O ?_));refine bK 2 (hS.rd 0 O) O O O ?_;have aM:St w w8 (a7 A2 0 none 0 0 none 0 0::(aw 2 AR N cR (bS M i)::(aQ 24 2 AD N cD lR (bP M)++ []))):=by
   have hs:(aQ 24 2 AD N cD lR (bP M)++ [aw 2 AR N cR (bS M i),a7 A2 0 none 0 0 none 0 0]).Sublist (a7 A4 i AR N cR AD N cD::(aQ 24 2 AD N cD lR (bP M)++lv A1 A2 A5 A6 A i c M AR N cR c5 c6 fe)):=
    List.Sublist.cons _ (List.Sublist.append_left (List.Sublist.cons_cons _ (List.Sublist.cons _ (List.Sublist.cons_cons _ (List.nil_sublist _)))) _)
   refine(hS.sub hs).perm ?_;rw [fO];exact(ka).trans (List.Perm.swap _ _ _)
  refine dG 3 0 aM O O O O O O O fun eh dC=>bI O (jC O (dC.rd 0 O) ?_);refine⟨AR,cR,AD,cD,lR,?_,by rw [iQ];exact ry,?_⟩
  ·rw [iQ,gU];rfl
  ·rw [iQ,gU];exact dC.tail
end
section
structure wx(n:Int)(R:ai)(B:ah):Prop where
 n1:1<=n/\n<=5
 jK:R.length<=500
 len:B.length=R.length
 jD:∀x∈R,0<=x/\x<=n - 1
 nm:mu R
 row:∀e:Nat,e<R.length->SA (gl B e)/\∀d∈gl B e,(0<=d/\d<R.length)/\gi R d<gi R e
theorem wx.at_{n:Int}{R:ai}{B:ah}(h:wx n R B){e:Int}(h0:0<=e)(h1:e<R.length):SA (gl B e)/\(∀d∈gl B e,(0<=d/\d<e)/\gi R d<gi R e)/\True:=by
 obtain⟨k,rfl⟩:∃k:Nat,e=k:=⟨e.toNat,by omega⟩;have hr:=h.row k (by omega);refine⟨hr.1,fun d hd=>?_,av⟩;have h2:=hr.2 d hd;obtain⟨j,rfl⟩:∃j:Nat,d=j:=⟨d.toNat,by omega⟩;refine⟨⟨by omega,?_⟩,h2.2⟩;refine Int.not_le.1 fun hle=>?_
 have:=h.nm.le (i:=k) (j:=j) (by omega) (by omega);omega
theorem Ho{M:ah}(hM:n3 M)(hb:aV M M.length<=500):wx M.length (bS M M.length) (bP M):=by
 have h1:=hM.1;have hl:=nu M M.length;obtain⟨ha,hr⟩:=C2 M M.length;refine⟨by omega,by omega,by rw [oj,hl],fun x hx=>?_,ha,fun e he=> ⟨?_,fun d hd=>?_⟩⟩
 ·have:=hr x hx;omega
 ·rw [cX (by rw [oj];omega)];unfold bP;rw [List.getElem_map];exact lX _ (nQ _)
 rw [mA (by omega) (by omega)]at hd;obtain⟨f,hf,i,hi,k,hk,e1,e2⟩:=hd.2;have h1:=qU hM (i:=i) hf;have h2:=qU hM (i:=k) hf;have h3:=jU M (show i+1<=M.length by omega);have h4:=jU M (show k+1<=M.length by omega);refine⟨by omega,?_⟩;rw [e1,e2,wK hi h1.1 h1.2,wK (show k<M.length by omega) h2.1 h2.2];omega
theorem Fk(M:ah):∀n:Nat,aV M n<=n* (gl M 0).length
 | 0=>bn _
 | n+1=>by
  have h1:=Fk M n;have h2:=sc M n;rw [aV,Nat.succ_mul];omega
end
section
open Go.RowKit
theorem J2(A:aj)(n c:Nat)(xs:ai)(w:aa)(hR:bu w A n xs)(hn:n<=1000000):
 aJ prog 179 [.slice A n c] w (fun v w'=>∃A' c' dt,v= .slice A' n c'/\dt.length=n/\St w w' [aw 2 A' n c' dt]):=by
 have eu:=hR.1;refine br func179 O ntmps179 O (cw O) (a8 O (aI (EY A n c xs _ hR (by omega)) O ?_));rintro _ w1 ⟨A1,c1,rfl,ay⟩;refine aE O ?_;refine Cd.loop (α:=Nat×ai) (fun z=> [(3,.slice A1 n c1),(4,ak (z.1:Int))]) (fun z w'=>z.1<=n+1/\z.2.length=n/\St w w' [aw 2 A1 n c1 z.2]) (fun z=>n+1 - z.1) (1,xs) (WM O) ⟨by show 1<=n+1;omega,eu,ay⟩ ?_;clear ay;rintro⟨i,L⟩ e w2 ⟨hi,hl,hS⟩;dsimp only at hi hl hS|-;refine a8 O (ba O O (aE O ?_));refine aN _ O (fun h1=>?_) (fun h1=>?_)
 ·refine df O (Cd.loop (α:=Nat×ai) (fun z=> [(3,.slice A1 n c1),(4,ak i),(5,ak (z.1:Int))]) (fun z w'=>z.1<=i/\z.2.length=n/\St w w' [aw 2 A1 n c1 z.2]) (fun z=>z.1) (i,L) (WM O) ⟨dh _,hl,hS⟩ ?_);clear hS hl;rintro⟨k,L⟩ e w3 ⟨hk,hl,hS⟩;dsimp only at hk hl hS|-;have jP:=hS.bo 0 O;obtain⟨less,xJ⟩:∃p:Prop,p=(0<k/\gi L k<gi L ((k:Int) - 1)):=⟨_,rfl⟩;have PL:Decidable less:=by rw [xJ];infer_instance
  refine LG 1 O (pK (α:=Unit) (fun _=> [(3,.slice A1 n c1),(4,ak i),(5,ak k),(29,.bool (decide less))]) (fun _ w'=>w3.heap.size<=w3.heap.size/\Below w3.heap.size w3 w') ?_ ?_)
  ·have tO:k=0\/(0<k/\¬gi L k<gi L ((k:Int) - 1))\/(0<k/\gi L k<gi L ((k:Int) - 1)):=by omega
   rcases tO with h0 | ⟨h0,hs⟩ | ⟨h0,hs⟩
   ·
    refine dL [xI ((k:Int)),xB (decide (((0:Int))< ((k:Int)))),xB (false),xU,xU,xU,xU,xU,xU,xU,xU,xU,xU,xB (false)] O (dV O) ?_ ?_
    ·exact⟨Dr O,Dr O,fun _ _ _ _ _=>Dk O (by exact aH Value.bool (cS (by omega))),Dr O,Dr O,Dr O,Dr O,Dr O,Dr O,Dr O,Dr O,Dr O,Dr O,Dr O,av⟩
    intro u w4 hb _;refine tQ ?_;exact⟨(),⟨O,O,O,aH Value.bool (cS (by rw [xJ];omega)).symm,av⟩,dh _,hb⟩
   ·refine dL [xI ((k:Int)),xB (decide (((0:Int))< ((k:Int)))),xB (true),xS (A1) (n) (c1),xI ((k:Int)),xP (aD (A1) ((k:Int)).toNat),xI (gi (L) ((k:Int))),xS (A1) (n) (c1),xI ((k:Int)),xI (((k:Int)) - ((1:Int))),xP (aD (A1) (((k:Int)) - ((1:Int))).toNat),xI (gi (L) (((k:Int)) - ((1:Int)))),xB (false),xB (false)] O (dV O) ?_ ?_
    ·exact⟨Dr O,Dr O,fun _ _ _ _ _=>Dk O (by exact aH Value.bool (eD (by omega))),Dr O,Dr O,fun _ _ hb _ _=>au O (aB (jP.aq hb).2 O Az),fun _ _ hb _ _=>au O (aW (jP.aq hb) O Az),Dr O,Dr O,fun _ _ _ _ _=>au O (dA O Az),fun _ _ hb _ _=>au O (aB (jP.aq hb).2 O Az),fun _ _ hb _ _=>au O (aW (jP.aq hb) O Az),fun _ _ _ _ _=>Dk O (by exact aH Value.bool (cS (by omega))),Dr O,av⟩
    intro u w4 hb _;refine tQ ?_;exact⟨(),⟨O,O,O,aH Value.bool (cS (by rw [xJ];omega)).symm,av⟩,dh _,hb⟩
   refine dL [xI ((k:Int)),xB (decide (((0:Int))< ((k:Int)))),xB (true),xS (A1) (n) (c1),xI ((k:Int)),xP (aD (A1) ((k:Int)).toNat),xI (gi (L) ((k:Int))),xS (A1) (n) (c1),xI ((k:Int)),xI (((k:Int)) - ((1:Int))),xP (aD (A1) (((k:Int)) - ((1:Int))).toNat),xI (gi (L) (((k:Int)) - ((1:Int)))),xB (true),xB (true)] O (dV O) ?_ ?_
   ·exact⟨Dr O,Dr O,fun _ _ _ _ _=>Dk O (by exact aH Value.bool (eD (by omega))),Dr O,Dr O,fun _ _ hb _ _=>au O (aB (jP.aq hb).2 O Az),fun _ _ hb _ _=>au O (aW (jP.aq hb) O Az),Dr O,Dr O,fun _ _ _ _ _=>au O (dA O Az),fun _ _ hb _ _=>au O (aB (jP.aq hb).2 O Az),fun _ _ hb _ _=>au O (aW (jP.aq hb) O Az),fun _ _ _ _ _=>Dk O (by exact aH Value.bool (eD (by omega))),Dr O,av⟩
   intro u w4 hb _;refine tQ ?_;exact⟨(),⟨O,O,O,aH Value.bool (eD (by rw [xJ];omega)).symm,av⟩,dh _,hb⟩
  rintro _ e5 w5 ⟨_,fm⟩;have bh:=hS.aq fm;have tG:=bh.bo 0 O;clear fm hS jP;refine aN _ O (fun h2=>?_) (fun h2=>?_)
  ·rw [xJ]at h2;refine aG O (aB tG.2 O (aW tG O ?_));refine ar O (dA O ?_);refine aB tG.2 O (aW tG O (aB tG.2 O (il 0 bh O O O (by omega) ?_)));intro w6 bD;have mD:=bD.bo 0 O;refine ar O (dA O (ar O ?_));refine aB mD.2 O (il 0 bD O O O (by omega) ?_);intro w7 bl;refine ar O (dA O (aR O (tQ ?_)));refine⟨(k - 1,_),by show k - 1<k;omega,⟨O,O,aH (Value.int .i64) (by show(k:Int) - 1=((k - 1:Nat):Int);omega),av⟩,by show k - 1<=i;omega,?_,bl⟩;simp only [ij];exact hl
  refine bk O (bm (ct O (aK O (aR O (tQ ?_)))));exact⟨(i+1,L),by show n+1 - (i+1)<n+1 - i;omega,(WM O),by show i+1<=n+1;omega,hl,bh⟩
 refine bk O (bm (fA O ?_));exact eW O ⟨A1,c1,L,O,hl,hS⟩
structure CV where
 s:aL
 v:Int
section
variable {w0 w:aa} {ks:List Ck} {i:Nat} {t:ae} {A:aj} {k q:Nat} {cs:List CV}
end
section
variable {P:Program} {N:Nat} {ops:Array Oper} {K:Env->aa->Prop} {rest:List Oper} {e:Env} {w0 w w':aa} {ks:List Ck} {d:Nat} {ty:ae} {pos:String} {af:Array Edge}
end
structure TV where
 f:Int
 g:Int
 r:Int
def Vo(x:TV):List ad:=[ak x.f,ak x.g,ak x.r]
def TV.v(x:TV):ad:= .agg #[ak x.f,ak x.g,ak x.r]
def UP:TV:=⟨0,0,0⟩
section
variable {w0 w:aa} {ks:List Ck} {i:Nat} {t:ae} {A:aj} {k q:Nat} {cs:List TV}
end
section
variable {P:Program} {N:Nat} {ops:Array Oper} {K:Env->aa->Prop} {rest:List Oper} {e:Env} {w0 w w':aa} {ks:List Ck} {d:Nat} {ty:ae} {pos:String} {af:Array Edge}
theorem ga{el:ae}{x:ag}{v0 v1 v2:ad}(hS:St w0 w ks)(hx:ev e x= .agg #[v0,v1,v2])(hb:Nat.blt d N=true)(hK:∀A w',St w0 w' (Bx el 3 A [v0,v1,v2]::ks)->ao P N ops K rest (bj e d (.pointer A)) w')(hM:eg [v0,v1,v2]=false:=by rfl):ao P N ops K (⟨some d,.box el x,ty,pos,af,none⟩::rest) e w:= .Cy hS hx hb rfl hK hM
end
end
end Go.Proofs.YtagdamiiececaaaGreatDoor.Vc
