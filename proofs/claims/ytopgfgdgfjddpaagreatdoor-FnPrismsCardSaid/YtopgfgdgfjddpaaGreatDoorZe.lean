/-
 Lemmas. Conditions: as each states them.
-/
import Derived.Test.YtopgfgdgfjddpaaGreatDoorLayb
import Derived.Test.YtopgfgdgfjddpaaGreatDoorZd
import Derived.Shelf.SlicesE.Compact
import Derived.Shelf.SlicesE.Delete
import Derived.Shelf.SortM.SortNone
set_option maxHeartbeats 8000000
namespace Go.Proofs.YtopgfgdgfjddpaaGreatDoor.Vc
open Go.RowKit Go.Sort Tryz
variable{w w0:aa}{q o i b:Nat}{ks:List Ck}{l':ai}
theorem acL{α:Type}[Inhabited α]{enc:α->ad}{g off:Nat}{cur:Array ad}{e:ae}{fr:Nat×Nat}(d:Array α)(hb:w.heap[g]?=some (.cells cur e fr)):(putRow enc (Sort.ahead w q) g off d).heap[g]?=some (.cells (putCells enc off d cur) e fr):=by
 simp [putRow,mapBlock,Sort.ahead,Array.getElem?_modify,hb,onCells]
theorem abe{α:Type}[Inhabited α]{enc:α->ad}{g off:Nat}(d:Array α):Hk w (putRow enc (Sort.ahead w q) g off d) (some g):=by
 refine⟨⟨O,O,O,by simp [Sort.ahead],fun k hk bt=>?_⟩,Nat.le_add_right _ _⟩;have:g≠k:=fun e=>bt (by rw [e])
 simp [putRow,mapBlock,Sort.ahead,Array.getElem?_modify,this]
theorem M3{α:Type}[Inhabited α]{enc:α->ad}{g:Nat}{cur:Array ad}{e:ae}{ds:List α}(hh:w.heap[g]?=some (.cells cur e (0,0)))(hc:∀j,j<ds.length->cur[o+j]?=(ds.map enc)[j]?):Holds enc w g o ds.toArray:=fun j hj=>by
 have ll:j<ds.length:=by simpa using hj
 refine⟨?_,by simp [World.frozen?,hh]⟩;simp only [World.cell?,hh];simp only [Option.isSome_none,Bool.false_eq_true,if_false];rw [hc j ll];simp [ll]
theorem St.laid{α:Type}[Inhabited α]{enc:α->ad}{k:Ck}{g m:Nat}{cur:Array ad}{ds:List α}(hS:St w0 w ks)(hk:ks[i]?=some k)(hA:k.A=some ⟨g,o,Option.none⟩)(hg:w0.heap.size<=g)(hh:w.heap[g]?=some (.cells cur k.e (0,0)))(hs:o+k.c<=cur.size)(hm:m<=ds.length)(hd:ds.length<=k.c)(hc:k.c<=maxLen)(he1:∀x,(enc x).oneCell'=true:=by intro _;rfl):
 St w0 (putRow enc (Sort.ahead w q) g o ds.toArray) (ks.set i ⟨k.A,m,k.c,k.e,(ds.take m).map enc⟩):=by
 refine hS.turn hk (by simp [Ck.iX,hA]) (by simp [Ck.iX,hA]) (abe _) (.s5 (yu fun v hv=>by obtain⟨x,_,rfl⟩:=dv.1 hv;exact he1 x) ⟨by simp;omega,by show m<=k.c;omega,hc,.inr ⟨g,o,_,hA,hg,acL _ hh,by simp only [putCells,Array.size_mapIdx];exact hs,fun j hj=>?_⟩⟩);have hj:j<m:=hj;show(putCells enc o ds.toArray cur)[o+j]?=((ds.take m).map enc)[j]?;have MU:o+j<cur.size:=by omega
 have hjd:j<ds.length:=by omega
 simp [putCells,MU,hjd,tl,hj]
def SA(l:ai):Prop:=l.Pairwise (· < ·)
theorem SA.ET{l:ai}(h:SA l):tf l:=h.imp fun h=>by omega
theorem SA.nodup{l:ai}(h:SA l):l.Nodup:=h.imp fun h=>by omega
theorem SA.eq{l:ai}(h:SA l)(h':SA l')(hm:∀x,x∈l↔x∈l'):l=l':=Y3 ((rE h.nodup h'.nodup).2 hm) h.ET h'.ET
def l6(xs:ai):ai:=Lib.compactUpTo xs.toArray xs.toArray.size
theorem KA(xs:ai)(j:Nat):xs.toArray[j]! =gi xs j:=by
 by_cases h:j<xs.length
 ·rw [cd h];simp [h]
 have e:gi xs j=0:=by simp [gi,dd,qm (Nat.not_lt.1 h)]
 rw [e,getElem!_neg _ _ (by simpa using h)];rfl
theorem KM(xs:ai):l6 xs=((List.range xs.length).filter fun j:Nat=>decide (j=0\/gi xs j≠gi xs ((j - 1:Nat):Int))).map fun j:Nat=>gi xs j:=by
 unfold l6 Lib.compactUpTo;rw [List.size_toArray];have e1:Lib.keeps xs.toArray=fun j:Nat=>decide (j=0\/gi xs j≠gi xs ((j - 1:Nat):Int)):=by
  funext j;unfold Lib.keeps;rw [KA,KA]
 rw [e1];exact pB fun j _=>KA xs j
theorem QF(xs:ai):(l6 xs).length<=xs.length:=by
 rw [KM,fj];have:=rD (fun j:Nat=>decide (j=0\/gi xs j≠gi xs ((j - 1:Nat):Int))) (List.range xs.length)
 rwa [qE]at this
theorem ZF(xs:ai)(x:Int):x∈l6 xs↔x∈xs:=by
 rw [KM,dv];constructor
 ·rintro⟨j,hj,rfl⟩;have:=gP.1 (fU.1 hj).1;rw [cd this];exact dH _
 ·intro hx;obtain⟨j,hj,vJ⟩:=fV.1 hx;rw [<-cd hj]at vJ;clear hx
  induction j with
  | zero=>exact⟨0,fU.2 ⟨gP.2 hj,by simp⟩,vJ⟩
  | succ j ih=>
   by_cases h:gi xs ((j+1:Nat):Int)=gi xs ((j:Nat):Int)
   ·exact ih (by omega) (h▸vJ)
   ·exact⟨j+1,fU.2 ⟨gP.2 hj,by simp only [Nat.add_sub_cancel,kz];exact .inr h⟩,vJ⟩
theorem ZE{xs:ai}(h:tf xs):SA (l6 xs):=by
 have mono:∀a b,a<=b->b<xs.length->gi xs a<=gi xs b:=fun a b eG hb=>by
  rw [cd (by omega),cd hb]
  by_cases e:a=b
  ·subst e;exact Int.le_refl _
  exact(List.pairwise_iff_getElem.1 h) a b (by omega) hb (by omega)
 rw [KM];unfold SA;rw [nB];have hr:(List.range xs.length).Pairwise (· < ·):=List.pairwise_lt_range;refine(hr.filter _).imp_of_mem fun {a b} ha hb eG=>?_
 have df:=gP.1 (fU.1 hb).1;have eC:=tX (fU.1 hb).2;have h1:=mono a (b - 1) (by omega) (by omega);have h2:=mono (b - 1) b (by omega) df;rcases eC with eC | eC
 ·omega
 omega
def cs(l:ai):ai:=l6 (oK l)
theorem ZY(l:ai)(x:Int):x∈cs l↔x∈l:=by rw [cs,ZF];exact(OT l).mem_iff
theorem ZX(l:ai):SA (cs l):=ZE (aiO l)
theorem ZP(i:Nat){t:ae}{A:aj}{n c:Nat}{xs:ai}(hS:St w0 w ks)(hk:ks[i]?=some (az t A n c xs))(h0:0<n)(hn:n<=1000000000):
 aN prog 160 [.slice A n c] w (fun v w'=>v= .slice A (l6 xs).length c/\St w0 w' (ks.set i (az t A (l6 xs).length c (l6 xs)))):=by
 obtain⟨h1,h2,h3,h4⟩:=hS.sD hk (tW _);have hl:xs.length=n:=hS.D6 i hk;have h2:n<=c:=h2;have h3:c<=maxLen:=h3;rcases h4 with⟨_,nJ⟩ | ⟨g,o,cur,hA,hg,hh,hs,hc⟩
 ·have nJ:c=0:=nJ;omega
 have hA:A=some ⟨g,o,none⟩:=hA;have hs:o+c<=cur.size:=hs;have hc:∀j,j<n->cur[o+j]?=(xs.map (Value.int .i64))[j]?:=hc;subst hA;subst hl;have key:=AnyE.slices_Compact afM (Value.int .i64) (fun _=>O) (EqlAt.intD _ _ .i64) (NeqAt.intD _ _ .i64) (0:Int) (fun w=>zeroValue2 w) g o c xs.toArray w (M3 hh hc) (by simp;omega) (by simpa using h2);refine Calls.mono key fun x w' ⟨hx,q,hw⟩=> ⟨_,hx,O,?_⟩
 subst hw;have hle:=QF xs;have h:=hS.laid (q:=q) (m:=(l6 xs).length) (enc:=Value.int .i64) (ds:=l6 xs++List.replicate (xs.toArray.size - (l6 xs).length) 0) hk O hg hh hs (by simp) (by simp;show _<=c;omega) h3;rw [ze (bB _),List.take_length]at h;exact h
instance:Inhabited aQ:=⟨eA⟩
theorem aab(i:Nat){t:ae}{A:aj}{n c a:Nat}{xs:List aQ}(hS:St w0 w ks)(hk:ks[i]?=some (b9 t A n c xs))(h0:0<n)(hn:n<=1000000000)(eG:a<=b)(hb:b<=n):
 aN prog 252 [.slice A n c,ak a,ak b] w (fun v w'=>v= .slice A (n - (b - a)) c/\St w0 w' (ks.set i (b9 t A (n - (b - a)) c (xs.take a++xs.drop b)))):=by
 obtain⟨h1,h2,h3,h4⟩:=hS.sD hk (Cg _);have hl:xs.length=n:=(hS.ie i hk).1;have h2:n<=c:=h2;have h3:c<=maxLen:=h3;rcases h4 with⟨_,nJ⟩ | ⟨g,o,cur,hA,hg,hh,hs,hc⟩
 ·have nJ:c=0:=nJ;omega
 have hA:A=some ⟨g,o,none⟩:=hA;have hs:o+c<=cur.size:=hs;have hc:∀j,j<n->cur[o+j]?=(xs.map aQ.v)[j]?:=hc;subst hA;subst hl;obtain⟨i0,fG,_,Jl,_⟩:=bR.get prog 32;have key:=AnyE.slices_Delete afP aQ.v (fun _=>O) eA (fun w=>zeroValue32 w) i0 fG Jl g o c a b xs.toArray w (M3 hh hc) (by simpa using h2) (by simpa [maxLen]using h3) eG (by simpa using hb);refine Calls.mono key fun x w' ⟨hx,q,hw⟩=> ⟨_,hx,by simp,?_⟩
 subst hw;have h:=hS.laid (q:=q) (m:=xs.length - (b - a)) (enc:=aQ.v) (ds:=xs.toArray.toList.take a++xs.toArray.toList.drop b++List.replicate (b - a) eA) hk O hg hh hs (by simp;omega) (by simp;omega) h3;have e1:(xs.toArray.toList.take a++xs.toArray.toList.drop b++List.replicate (b - a) eA).take (xs.length - (b - a))=xs.take a++xs.drop b:=by
  have e2:(xs.take a++xs.drop b).length=xs.length - (b - a):=by simp;omega
  show(xs.take a++xs.drop b++List.replicate (b - a) eA).take _=_;rw [<-e2,ze (bB _),List.take_length]
 rw [e1]at h;exact h
end Go.Proofs.YtopgfgdgfjddpaaGreatDoor.Vc
namespace Go.Proofs.YtopgfgdgfjddpaaGreatDoor.Vc
open Go.RowKit Tryz
variable{i:Nat}{w w0 w':aa}
theorem D4{N:Nat}{xss:ah}(hs:Sys N xss)(dt:tk N xss):∀i,i<=N->(∀x:Int,0<=x->x<N->gi (bD N xss i).1 x= -1\/(0<=gi (bD N xss i).1 x/\gi (bD N xss i).1 x< (bD N xss i).2))/\∀v:Int,0<=v->v< (bD N xss i).2->∃x:Int,0<=x/\x<N/\gi (bD N xss i).1 x=v
 | 0,_=> ⟨fun x h0 h1=> .inl (by rw [show(bD N xss 0).1=List.replicate N (-1) from rfl,zA h0 h1]),fun v h0 h1=>by simp [bD]at h1;omega⟩
 | i+1,hi=>by
  obtain⟨h1,h2⟩:=D4 hs dt i (by omega)
  by_cases hp:0<=gi (bD N xss i).1 i
  ·rw [Ah hp];exact⟨h1,h2⟩
  ·rw [yw hp];obtain⟨hg,pf,Gd⟩:=sd hs (pt:=(i:Int)) (by omega) (by omega);have hc:=(Ag N xss i).1;have MH:∀x:Int,0<=x->gi (pX (bD N xss i).1 (bD N xss i).2 (dw N xss i)) x=if x∈dw N xss i then(bD N xss i).2 else gi (bD N xss i).1 x:=fun x hx=>wF _ _ _ (rh N xss i) hg.range x hx
   have MK:(i:Int)∈dw N xss i:=pf.subset (by simp);refine⟨fun x h0 hx=>?_,fun v h0 hv=>?_⟩
   ·rw [MH x h0];dsimp only
    split
    ·exact .inr ⟨hc,by omega⟩
    ·rcases h1 x h0 hx with h | h
     ·exact .inl h
     ·exact .inr ⟨h.1,by omega⟩
   ·dsimp only at hv|-
    by_cases e:v=(bD N xss i).2
    ·exact⟨i,by omega,by omega,by rw [MH i (by omega),ay MK,e]⟩
    ·obtain⟨x,rX,jq,hx⟩:=h2 v h0 (by omega);refine⟨x,rX,jq,?_⟩;rw [MH x rX,aw (fun hm=>?_),hx];obtain⟨j,hj,vJ⟩:=(Cl hs i (by omega) x rX jq).1 (by rw [hx];exact h0);have F3:=(Gd x).1 hm;exact hp ((Cl hs i (by omega) (i:Int) (by omega) (by omega)).2 ⟨j,hj,vJ.trans (Reach.symm hs dt (by omega) (by omega) F3)⟩)
theorem NS{N:Nat}{xss:ah}(hs:Sys N xss)(dt:tk N xss)(x:Int)(h0:0<=x)(h1:x<N):0<=gi (bD N xss N).1 x/\gi (bD N xss N).1 x< (bD N xss N).2:=by
 have:=(Cl hs N (bB _) x h0 h1).2 ⟨x.toNat,by omega,by rw [Int.toNat_of_nonneg h0];exact .refl⟩;rcases(D4 hs dt N (bB _)).1 x h0 h1 with h | h
 ·omega
 exact h
def qN(xs:ai):Int:=xs.foldl (fun o x=>if o<=x then x+1 else o) 0
theorem R7(xs:ai)(x:Int):qN (xs++ [x])=if qN xs<=x then x+1 else qN xs:=by
 unfold qN;rw [List.foldl_append]
 rfl
theorem LB:∀(m:Nat) (xs:ai),xs.length=m->0<=qN xs/\(∀x∈xs,x<qN xs)/\(qN xs=0\/∃x∈xs,qN xs=x+1)
 | 0,xs,h=>by
  obtain rfl:=uq h;exact⟨by simp [qN],(fun x hx=>by cases hx),.inl rfl⟩
 | m+1,xs,h=>by
  obtain⟨ys,y,rfl⟩:∃ys y,xs=ys++ [y]:=⟨xs.dropLast,xs.getLast (by intro e;rw [e]at h;simp at h),(List.dropLast_concat_getLast _).symm⟩;obtain⟨h1,h2,h3⟩:=LB m ys (by simpa using h);rw [R7]
  split
  ·refine⟨by omega,fun x hx=>?_,.inr ⟨y,by simp,O⟩⟩;rcases iR.1 hx with hx | hx
   ·have:=h2 x hx;omega
   ·simp at hx;omega
  ·refine⟨h1,fun x hx=>?_,?_⟩
   ·rcases iR.1 hx with hx | hx
    ·exact h2 x hx
    ·simp at hx;omega
   ·rcases h3 with h3 | ⟨x,hx,eE⟩
    ·exact .inl h3
    ·exact .inr ⟨x,by simp [hx],eE⟩
theorem abg{N:Nat}{xss:ah}(hs:Sys N xss)(dt:tk N xss)(hN:0<N):qN (bD N xss N).1=(bD N xss N).2:=by
 have hl:=rh N xss N;obtain⟨h1,h2,h3⟩:=LB _ (bD N xss N).1 rfl;have db:∀x∈(bD N xss N).1,0<=x/\x< (bD N xss N).2:=fun x hx=>by
  obtain⟨k,hk,rfl⟩:=fV.1 hx;rw [<-cd hk];exact NS hs dt k (by omega) (by omega)
 have h0:=NS hs dt 0 (by omega) (by omega);obtain⟨x,rX,jq,hx⟩:=(D4 hs dt N (bB _)).2 ((bD N xss N).2 - 1) (by omega) (by omega);have hm:gi (bD N xss N).1 x∈(bD N xss N).1:=by
  have e:gi (bD N xss N).1 x=(bD N xss N).1[x.toNat]'(by omega):=by simp [gi,dd,gO (show x.toNat< (bD N xss N).1.length by omega)]
  rw [e];exact dH _
 have h4:=h2 _ hm;rcases h3 with h3 | ⟨y,hy,kX⟩
 ·omega
 have:=db y hy;omega
def cH(xss:ah)(i:Nat):ai:=(bD (gl xss 0).length (xss.eraseIdx i) (gl xss 0).length).1
def fA(xss:ah)(i:Nat):Int:=(bD (gl xss 0).length (xss.eraseIdx i) (gl xss 0).length).2
theorem Sys.erase{N:Nat}{xss:ah}(h:Sys N xss)(i:Nat):Sys N (xss.eraseIdx i):=fun p hp=>h p (List.mem_of_mem_eraseIdx hp)
theorem tk.erase{N:Nat}{xss:ah}(h:tk N xss)(i:Nat):tk N (xss.eraseIdx i):=fun p hp=>h p (List.mem_of_mem_eraseIdx hp)
theorem HU(xss:ah)(i:Nat):(cH xss i).length=(gl xss 0).length:=rh _ _ _
theorem vo(xss:ah)(i:Nat):0<=fA xss i/\fA xss i<=(gl xss 0).length:=Ag _ _ _
theorem zw{xss:ah}(h:bg xss)(i:Nat)(f:Nat)(hf:f< (gl xss 0).length):0<=gi (cH xss i) f/\gi (cH xss i) f<fA xss i:=NS (h.2.2.1.sys.erase i) (h.2.2.1.inj.erase i) f (by omega) (by omega)
theorem Bl{xss:ah}(h:bg xss)(i:Nat)(v:Int)(h0:0<=v)(h1:v<fA xss i):∃f:Nat,f< (gl xss 0).length/\gi (cH xss i) f=v:=by
 obtain⟨x,rX,jq,hx⟩:=(D4 (h.2.2.1.sys.erase i) (h.2.2.1.inj.erase i) _ (bB _)).2 v h0 h1;exact⟨x.toNat,by omega,by rw [Int.toNat_of_nonneg rX];exact hx⟩
theorem aax{xss:ah}(h:bg xss)(i:Nat):qN (cH xss i)=fA xss i:=abg (h.2.2.1.sys.erase i) (h.2.2.1.inj.erase i) (by have:=h.2.1;omega)
theorem bz.erase{A:aj}{n:Nat}{rs:List aQ}{xss:ah}(h:bz w A n rs xss)(hi:i<n){A':aj}(hT:jo w A' (n - 1) (rs.eraseIdx i)):bz w A' (n - 1) (rs.eraseIdx i) (xss.eraseIdx i):=by
 have hl:=h.len;have b5:=h.top.1;have er:∀j,j<n - 1->(rs.eraseIdx i).getD j eA=rs.getD (if j<i then j else j+1) eA:=fun j hj=>by
  simp only [dd,List.getElem?_eraseIdx];split<;>rfl
 have ex:∀j,j<n - 1->(xss.eraseIdx i).getD j []=xss.getD (if j<i then j else j+1) []:=fun j hj=>by
  simp only [dd,List.getElem?_eraseIdx];split<;>rfl
 refine⟨hT,by rw [List.length_eraseIdx,ay (by omega),hl],fun j hj=>?_,fun j hj=>?_⟩
 ·rw [er j hj,ex j hj];exact h.row _ (by split<;>omega)
 rw [er j hj];exact h.cap _ (by split<;>omega)
theorem afa(A:aj)(n c:Nat)(xs:ai)(v:Int)(w:aa)(hR:di w A n xs)(hn:n<=9223372036854775807):
 aN prog 209 [.slice A n c,ak v] w (fun r w'=> (∃i:Int,r=ak i/\(0<=i↔v∈xs))/\w'=w):=by
 have dG:=hR.1;refine bI func209 O ntmps209 O (du O) (b8 O ?_);refine Cd.loop (α:=Nat) (fun k=> [(0,.slice A n c),(1,ak v),(5,ak k)]) (fun k w'=>w'=w/\k<=n/\∀j,j<k->gi xs (j:Nat)≠v) (fun k=>n - k) 0 (alH O) ⟨O,bm _,fun j hj=>by omega⟩ ?_;rintro k e w ⟨rfl,hk,hK⟩;refine bc O (bk O O (aI O ?_));refine aR _ O (fun h3=>?_) (fun h3=>?_)
 ·refine aG O (aF hR.2 O (bh hR O (aI O ?_)));refine aR _ O (fun h4=>?_) (fun h4=>?_)
  ·refine eF O (fD (e6 ?_));refine jj O ?_;exact⟨⟨(k:Int),O,⟨fun _=>by rw [<-h4,cd (by omega)];exact dH _,fun _=>by omega⟩⟩,O⟩
  refine aG O (aJ O (aT O (tQ ?_)));refine⟨k+1,by show n - (k+1)<n - k;omega,(alH O),O,by omega,fun j hj=>?_⟩
  by_cases ej:j=k
  ·subst ej;exact h4
  exact hK j (by omega)
 refine bw O (bA (ij O ?_));refine jj O ⟨⟨-1,O,⟨fun h=>absurd h (by decide),fun h=>?_⟩⟩,O⟩;obtain⟨j,hj,DJ⟩:=fV.1 h;exact absurd (by rw [cd hj];exact DJ) (hK j (by omega))
theorem Ci(A:aj)(n c:Nat)(xs:ai)(v:Int)(w:aa)(hR:di w A n xs)(hn:n<=9223372036854775807):
 aN prog 149 [.slice A n c,ak v] w (fun r w'=>r= .bool (decide (v∈xs))/\w'=w):=by
 refine bI func149 O ntmps149 O (du O) (bc O (aL (afa A n c xs v _ hR hn) O ?_));rintro _ w ⟨⟨i,rfl,hi⟩,rfl⟩;refine bM O (dz O ?_);exact⟨aK Value.bool (ke.2 hi),O⟩
theorem afm(A:aj)(n c:Nat)(rs:List aQ)(xss:ah)(Ai:aj)(ci:Nat)(i:Nat)(w:aa)(hR:bz w A n rs xss)(hn:n<=1000)(hi:i<n)(hI:di w Ai 1 [(i:Int)]):
 aN prog 235 [.agg #[.slice A n c],.slice Ai 1 ci] w (fun v w'=>∃A' c',v= .slice A' (n - 1) c'/\St w w' [b9 32 A' (n - 1) c' (rs.eraseIdx i)]):=by
 have b5:=hR.top.1;have step:∀k (hk:k<n),(rs.take (k+1)).eraseIdx i=if k=i then(rs.take k).eraseIdx i else(rs.take k).eraseIdx i++ [rg rs k]:=fun k hk=>by
  have e:rg rs k=rs[k]'(by omega):=by simp [rg,dd,gO (show k<rs.length by omega)]
  rw [su (by omega),e]
  by_cases h1:k=i
  ·subst h1;have h2:(rs.take k).length=k:=by rw [qF];omega
   rw [ay rfl,List.eraseIdx_append_of_length_le (by omega),h2,Nat.sub_self,List.eraseIdx_of_length_le (l:=rs.take k) (k:=k) (by omega)];simp
  rw [aw h1]
  by_cases h2:i<k
  ·rw [List.eraseIdx_append_of_lt_length (by simp;omega)]
  rw [List.eraseIdx_of_length_le (l:=rs.take k++_) (by rw [dI,qF,List.length_singleton];omega),List.eraseIdx_of_length_le (l:=rs.take k) (by rw [qF];omega)]
 have hlen:∀k,k<=n->((rs.take k).eraseIdx i).length=if i<k then k - 1 else k:=fun k hk=>by
  rw [List.length_eraseIdx,qF,Nat.min_eq_left (by omega)]
 refine bI func235 O ntmps235 O (du O) (bc O (ik (St.refl w) O O ?_));intro Ab w1 aE;refine ar O (jO aE O ?_);intro A5 w2 aD;have aD:St w w2 [b9 32 A5 0 0 [],Bx 24 1 Ab [.slice A n c]]:=aD;refine aI O (Cd.loop (α:=Nat×aj×Nat) (fun z=> [(1,.slice Ai 1 ci),(2,.pointer Ab),(5,.slice z.2.1 ((rs.take z.1).eraseIdx i).length z.2.2),(6,ak (z.1:Int))]) (fun z w'=>St w w' [b9 32 z.2.1 ((rs.take z.1).eraseIdx i).length z.2.2 ((rs.take z.1).eraseIdx i),Bx 24 1 Ab [.slice A n c]]/\z.1<=n) (fun z=>n - z.1) (0,A5,0) (alH O) ⟨aD,bm _⟩ ?_);rintro⟨k,A6,c6⟩ e w3 ⟨aM,hk⟩;dsimp only at aM hk|-;have iD:=aM.bS hR;have lF:=hlen k hk;refine bc O (aW (aM.rd 1 O) O (a8 (aM.rd 1 O) O ?_));refine bk O O (aI O ?_);refine aR _ O (fun h1=>?_) (fun h1=>?_)
 ·have ax:=step k (by omega);refine aG O (aL (Ci Ai 1 ci _ k _ (aM.gH hI) (by omega)) O ?_);rintro _ w3 ⟨rfl,rfl⟩
  first | refine eZ rfl rfl ?_ | refine fY rfl rfl ?_
  refine aI O (aR _ O (fun h2=>?_) (fun h2=>?_))
  ·rw [aw (fun h=>h2 (by rw [h];simp))]at ax;refine aG O (aW (aM.rd 1 O) O (a8 (aM.rd 1 O) O (ar O (alp iD.top.2 O O O (by omega) h1 (b6 iD.top O (mr aM O O O ?_))))));intro A7 w4 aU;refine oe 1 aU O (aU.ie 0 O) O O O (by rw [lF];split<;>omega) (by rw [lF];split<;>omega) O ?_;intro A8 c8 w5 aV;refine ar O (aJ O (aT O (tQ ?_)));have e1:((rs.take (k+1)).eraseIdx i).length=((rs.take k).eraseIdx i).length+1:=by rw [ax];simp
   refine⟨(k+1,A8,c8),by show n - (k+1)<n - k;omega,⟨O,O,by show Value.slice _ _ _= .slice _ _ _;rw [e1],O,av⟩,?_,by show k+1<=n;omega⟩;show St w w5 [b9 _ A8 ((rs.take (k+1)).eraseIdx i).length c8 ((rs.take (k+1)).eraseIdx i),_];rw [e1,ax];exact aV.tail
  have h3:=jl.1 h2;simp only [fm]at h3;rw [ay (by omega)]at ax;refine aG O (aJ O (aT O (tQ ?_)));refine⟨(k+1,A6,c6),by show n - (k+1)<n - k;omega,⟨O,O,by show Value.slice _ _ _= .slice _ _ _;rw [ax],O,av⟩,?_,by show k+1<=n;omega⟩;show St w w3 [b9 _ A6 ((rs.take (k+1)).eraseIdx i).length c6 ((rs.take (k+1)).eraseIdx i),_];rw [ax];exact aM
 refine bw O (bA (ij O ?_));refine gK O ?_;have mK:k=n:=by omega
 subst mK;rw [lp (by omega)]at aM;have e1:(rs.eraseIdx i).length=k - 1:=by rw [List.length_eraseIdx,ay (by omega),b5]
 rw [lp (by omega),e1];rw [e1]at aM;exact⟨A6,c6,O,aM.sub (List.Sublist.cons_cons _ (List.nil_sublist _))⟩
theorem VR(c:Int)(x:Int):∀(a L:ai),pX L c (a++ [x])=(pX L c a).set x.toNat c
 | [],_=>rfl
 | y::a,L=>VR c x a (L.set y.toNat c)
theorem afc(A:aj)(n c:Nat)(rs:List aQ)(xss:ah)(N:Nat)(w:aa)(hR:bz w A n rs xss)(hn:n<=1000)(hs:Sys N xss)(hN:N<=1000):
 aN prog 234 [ak N,.slice A n c] w (fun v w'=>∃A' c',v= .slice A' N c'/\St w w' [az 2 A' N c' (bD N xss N).1]):=by
 refine bI func234 O ntmps234 O (du O) (bc O (jO (St.refl w) O ?_));intro A5 w1 aE;have aE:St w w1 [az 2 A5 0 0 (List.replicate 0 (-1))]:=aE;refine aI O (Cd.loop (α:=Nat×aj×Nat) (fun z=> [(0,ak N),(1,.slice A n c),(5,.slice z.2.1 z.1 z.2.2),(6,ak (z.1:Int))]) (fun z w'=>St w w' [az 2 z.2.1 z.1 z.2.2 (List.replicate z.1 (-1))]/\z.1<=N) (fun z=>N - z.1) (0,A5,0) (alH O) ⟨aE,bm _⟩ ?_);rintro⟨k,A6,c6⟩ e w2 ⟨aD,hk⟩;dsimp only at aD hk|-;refine b8 O (aR _ O (fun h1=>?_) (fun h1=>?_))
 ·refine aG O (dV aD O O O ?_);intro A7 w3 aM;refine fp 1 aM O (aM.bF 0 O) O O O fun A8 c8 w4 aU=>ar O (aJ O (aT O (tQ ?_)));refine⟨(k+1,A8,c8),by show N - (k+1)<N - k;omega,(alH O),?_,by show k+1<=N;omega⟩;show St w w4 [az _ A8 (k+1) c8 (List.replicate (k+1) (-1))];rw [List.replicate_succ'];exact aU.tail
 refine bw O (bA (oO O ?_));have vK:k=N:=by omega
 subst vK;refine Cd.loop (α:=Nat) (fun i=> [(0,ak k),(1,.slice A n c),(5,.slice A6 k c6),(7,ak (bD k xss i).2),(8,ak i)]) (fun i w'=>St w w' [az 2 A6 k c6 (bD k xss i).1]/\i<=k) (fun i=>k - i) 0 (alH O) ⟨aD,bm _⟩ ?_;rintro i e w3 ⟨aM,hi⟩;have Sz:=aM.bF 0 O;have pd:=Ag k xss i;refine b8 O (aR _ O (fun h2=>?_) (fun h2=>?_))
 ·refine aG O (aF Sz.2 O (bh Sz O (aI O ?_)));refine aR _ O (fun h3=>?_) (fun h3=>?_)
  ·refine aG O (aJ O (aT O (tQ ?_)));refine⟨i+1,by show k - (i+1)<k - i;omega,⟨O,O,O,by show Value.int .i64 _=ak _;rw [Ah h3],O,av⟩,by rw [Ah h3];exact aM,by omega⟩
  obtain⟨hg,_,_⟩:=sd hs (pt:=(i:Int)) (by omega) (by omega);refine aG O (aL (NK A n c rs xss k i _ (aM.bS hR) (by omega) hs (by omega) (by omega) (by omega)) O ?_);rintro _ w4 ⟨A9,c9,rfl,ax⟩;have aU:=aM.call ax;have I3:(dw k xss i).length<=k:=hg.len;refine aI O (Cd.loop (α:=Nat) (fun m=> [(0,ak k),(1,.slice A n c),(5,.slice A6 k c6),(7,ak (bD k xss i).2),(8,ak i),(9,.slice A9 (dw k xss i).length c9),(10,ak m)]) (fun m w'=>St w w' [az 2 A9 (dw k xss i).length c9 (dw k xss i),az 2 A6 k c6 (pX (bD k xss i).1 (bD k xss i).2 ((dw k xss i).take m))]/\m<=(dw k xss i).length) (fun m=> (dw k xss i).length - m) 0 (alH O) ⟨aU,bm _⟩ ?_);rintro m e w5 ⟨aV,hm⟩;have Bw:=aV.bF 0 O;refine bc O (bk O O (aI O ?_));refine aR _ O (fun h4=>?_) (fun h4=>?_)
  ·have jw:m< (dw k xss i).length:=by omega
   have TU:=hg.range _ (gi_in jw);refine aG O (aF Bw.2 O (bh Bw O (ar O (aF (aV.bF 1 O).2 O (lu 1 aV O O O (by omega) ?_)))));intro w6 aZ;refine ar O (aJ O (aT O (tQ ?_)));refine⟨m+1,by show _ - (m+1)<_ - m;omega,(alH O),?_,jw⟩;rw [yR jw,VR];exact aZ
  refine bw O (bA (dh O (aJ O (ar O (aJ O (aT O (tQ ?_)))))));have IZ:m=(dw k xss i).length:=by omega
  subst IZ;rw [List.take_length]at aV;refine⟨i+1,by show k - (i+1)<k - i;omega,⟨O,O,O,by show Value.int .i64 _=ak _;rw [yw h3],O,av⟩,by rw [yw h3];exact aV.tail,by omega⟩
 refine bw O (bA (ij O ?_));refine gK O ?_;have mJ:i=k:=by omega
 subst mJ;exact⟨A6,c6,O,aM⟩
theorem afk(A:aj)(n c:Nat)(xs:ai)(w:aa)(hR:di w A n xs)(hn:n<=1000000)(hx:∀x∈xs,x<=1000000):
 aN prog 198 [.slice A n c] w (fun v w'=>v=ak (qN xs)/\w'=w):=by
 have dG:=hR.1;refine bI func198 O ntmps198 O (du O) (b8 O ?_);refine Cd.loop (α:=Nat) (fun k=> [(0,.slice A n c),(3,ak (qN (xs.take k))),(4,ak k)]) (fun k w'=>w'=w/\k<=n) (fun k=>n - k) 0 (alH O) ⟨O,bm _⟩ ?_;rintro k e w ⟨rfl,hk⟩;refine bc O (bk O O (aI O ?_));refine aR _ O (fun h1=>?_) (fun h1=>?_)
 ·have hg:gi xs k<=1000000:=hx _ (by rw [cd (by omega)];exact dH _);have ax:qN (xs.take (k+1))=if qN (xs.take k)<=gi xs k then gi xs k+1 else qN (xs.take k):=by rw [yR (by omega),R7]
  have MD:=(LB _ (xs.take k) O).1;refine aG O (aF hR.2 O (bh hR O (aI O ?_)));refine aR _ O (fun h2=>?_) (fun h2=>?_)
  ·rw [ay h2]at ax;refine aG O (aF hR.2 O (bh hR O ?_));refine aJ O (ar O (aJ O (aT O (tQ ?_))));exact⟨k+1,by show n - (k+1)<n - k;omega,⟨O,by show Value.int .i64 _=ak _;rw [ax],O,av⟩,O,by omega⟩
  rw [aw h2]at ax;refine aG O (aJ O (aT O (tQ ?_)));exact⟨k+1,by show n - (k+1)<n - k;omega,⟨O,by show Value.int .i64 _=ak _;rw [ax],O,av⟩,O,by omega⟩
 refine bw O (bA (ij O ?_));refine jj O ?_;have mK:k=n:=by omega
 subst mK;exact⟨by rw [<-dG,List.take_length],O⟩
theorem afj(A:aj)(n c:Nat)(rs:List aQ)(xss:ah)(i:Nat)(w:aa)(hR:bz w A n rs xss)(hM:bg xss)(hi:i<n):
 aN prog 197 [.agg #[.slice A n c],ak i] w (fun v w'=>∃A' c',v= .slice A' (gl xss 0).length c'/\St w w' [az 2 A' (gl xss 0).length c' (cH xss i)]):=by
 have hl:=hR.len;have h1:=hM.1;have h2:=hM.2.1;have hs:=hM.2.2.1.sys;refine bI func197 O ntmps197 O (du O) (bc O (ik (St.refl w) O O ?_));intro Ab w1 aE;refine aI O ?_;refine eB [.ex (.agg #[.slice (A) (n) (c)]),xI (((gl xss 0).length:Int)),.ex (.agg #[.slice (A) (n) (c)]),xI ((i:Int)),.pr (fun v w'=>∃A1,v= .slice A1 1 1/\di w' A1 1 [(i:Int)]),.pr (fun v w'=>∃A1 c1,v= .slice A1 (n - 1) c1/\bz w' A1 (n - 1) (rs.eraseIdx i) (xss.eraseIdx i)),.pr (fun v w'=>∃A1 c1,v= .slice A1 (gl xss 0).length c1/\St w w' [az 2 A1 (gl xss 0).length c1 (cH xss i)]),.pr (fun v w'=>∃A1 c1,v= .slice A1 (gl xss 0).length c1/\St w w' [az 2 A1 (gl xss 0).length c1 (cH xss i)])] rfl (lx (lx (lx (lx (cj.2 ⟨Yd.cN (fun v w w' h hb=>by obtain⟨A1,hv,hT⟩:=h;exact⟨A1,hv,hT.aq hb⟩),(cj.2 ⟨Yd.cN (fun v w w' h hb=>by obtain⟨A1,c1,hv,hT⟩:=h;exact⟨A1,c1,hv,hT.aq hb⟩),(cj.2 ⟨Yd.cN (fun v w w' h hb=>by obtain⟨A1,c1,hv,hT⟩:=h;exact⟨A1,c1,hv,hT.aq hb⟩),(cj.2 ⟨Yd.cN (fun v w w' h hb=>by obtain⟨A1,c1,hv,hT⟩:=h;exact⟨A1,c1,hv,hT.aq hb⟩),(fun _ h=>by cases h)⟩)⟩)⟩)⟩))))) ?_ ?_
 ·refine⟨fun _ _ hb _ _=>alC 0 ((aE.rd 0 O).below hb) O Az,?_,fun _ _ hb _ _=>alC 0 ((aE.rd 0 O).below hb) O Az,Dr O,?_,?_,?_,?_,av⟩
  ·intro e1 w1 hb hp aY;refine aL (xd A n c rs xss _ ((aE.aq hb).bS hR) (by omega)) O ?_;rintro _ w2 ⟨rfl,ax⟩;refine ao.n ?_;exact iB.dn ax.below (by exact O)
  ·intro e1 w1 hb hp aY;exact dV (St.refl _) O O O fun A1 w9 ax=>ao.n (iB.dn ax.below ⟨A1,O,ax.bF 0 O⟩)
  ·intro e1 w1 hb hp aY;obtain⟨A0,h9,L9⟩:=(hp 4 (by decide) rfl _ _ rfl rfl);refine als (afm A n c rs xss A0 1 i _ ((aE.aq hb).bS hR) (by omega) hi L9) O (by exact aK (fun v=> [Value.agg #[.slice A n c],v]) h9) O ?_;rintro _ w9 ⟨A1,c1,rfl,ax⟩;exact ao.n (iB.dn ax.below ⟨A1,c1,O,(((aE.aq hb).bS hR).aq ax.below).erase hi (ax.ie 0 O)⟩)
  ·intro e1 w1 hb hp aY;obtain⟨A0,c0,gZ,L9⟩:=(hp 5 (by decide) rfl _ _ rfl rfl);refine als (afc A0 (n - 1) c0 _ _ (gl xss 0).length _ L9 (by omega) (hs.erase i) (by omega)) O (by exact aK (fun v=> [Value.int .i64 ((gl xss 0).length:Int),v]) gZ) O ?_;rintro _ w9 ⟨A1,c1,rfl,ax⟩;exact ao.n (iB.dn ax.below ⟨A1,c1,O,(aE.aq hb).none.call ax⟩)
  intro e1 w1 hb hp aY;obtain⟨A1,c1,tz,hT⟩:=(hp 6 (by decide) rfl _ _ rfl rfl);refine pF O (by exact tz) O (ao.n ?_);exact iB.dn (Below.refl _ _) ⟨A1,c1,O,hT⟩
 intro u w9 mG hu;obtain⟨A9,c9,h4,hT⟩:=hu 7 _ rfl;refine zd O (gK (by exact h4) ?_);exact⟨A9,c9,O,hT⟩
theorem Yv{t1 t2:ae}{A:aj}{n c:Nat}{rs:List aQ}{xss:ah}{pre:List Ck}(h:St w0 w (pre++aO t1 t2 A n c rs xss)):St w0 w (pre++ (aO t1 t2 A n c rs xss++ [])):=by rwa [eu]
def part(T:ai)(m:Nat):ai:=T.take m++List.replicate (T.length - m) 0
theorem Ps(A:aj)(n c:Nat)(rs:List aQ)(w:aa)(hR:jo w A n rs)(hn:n<=1000000)(h0:0<n):aN prog 184 [.slice A n c] w (fun v w'=>∃A' c',v= .slice A' n c'/\St w w' [b9 32 A' n c' rs]):=by
 cases hA:A with
 | none=>
  subst hA;obtain⟨p,hp,_⟩:=hR.2 0 h0;simp [aB]at hp
 | some a=>
  subst hA;refine bI func184 O ntmps184 O (du O) (bc O (EJ O O O (aI O (Cd.gq O (aG O (jO (St.refl w) O ?_))))));intro A1 w1 aE;have aE:St w w1 [b9 32 A1 0 0 []]:=aE;refine ar O (oe 0 aE O (aE.Oi hR) O O O (by omega) (by omega) O ?_);intro A2 c2 w2 aD;rw [Nat.zero_add]at aD|-;refine bM O (gK O ?_);exact⟨A2,c2,O,aD⟩
theorem ajt(Ab A:aj)(n c:Nat)(rs:List aQ)(xss:ah)(i:Nat)(w:aa)(hB:Rd w Ab 1 (fun _=> .slice A n c))(hR:bz w A n rs xss)(hn:n<=1000)(hi:i<n):
 aN prog 218 [.pointer Ab,ak i] w (fun v w'=>∃A' c',v= .slice A' (n - 1) c'/\St w w' [b9 32 A' (n - 1) c' (rs.eraseIdx i)]):=by
 refine bI func218 O ntmps218 O (du O) (bc O ?_);refine oh hB (by decide) O O (aW hB O (a8 hB O (aL (Ps A n c rs _ hR.top (by omega) (by omega)) O ?_)));rintro _ w1 ⟨A1,c1,rfl,aE⟩;refine ar O (aJ O ?_);have kU:((i:Int)+1)=((i+1:Nat):Int):=by omega
 rw [kU];refine aL (aab 0 aE O (by omega) (by omega) (show i<=i+1 by omega) (by omega)) O ?_;rintro _ w2 ⟨rfl,aD⟩;refine bM O (gK O ?_);have e:n - (i+1 - i)=n - 1:=by omega
 rw [e];rw [e,<-List.eraseIdx_eq_take_drop_succ]at aD;exact⟨A1,c1,O,aD⟩
theorem Rj(Ab A:aj)(n c:Nat)(rs:List aQ)(xss:ah)(i:Nat)(w:aa)(hB:Rd w Ab 1 (fun _=> .slice A n c))(hR:bz w A n rs xss)(hM:bg xss)(hi:i<n):
 aN prog 164 [.pointer Ab,ak i] w (fun v w'=>∃A',v= .tuple #[.slice A' (gl xss 0).length (gl xss 0).length,ak (fA xss i)]/\St w w' [az 2 A' (gl xss 0).length (gl xss 0).length (cH xss i)]):=by
 have hl:=hR.len;have h1:=hM.1;have h2:=hM.2.1;have e0:(rg rs 0).n=(gl xss 0).length:=(hR.ny (by omega) (by omega)).symm;refine bI func164 O ntmps164 O (vZ O) (bc O (aL (vq Ab A n c rs xss _ w hB O hR (by omega)) O ?_));rintro _ w ⟨rfl,rfl⟩;rw [e0];refine ar O (aL (ajt Ab A n c rs xss i _ hB hR (by omega) hi) O ?_);rintro _ w1 ⟨A1,c1,rfl,aE⟩;refine aL (VP A1 (n - 1) c1 (rs.eraseIdx i) (xss.eraseIdx i) (gl xss 0).length _ ((aE.bS hR).erase hi (aE.ie 0 O)) (by omega) (hM.2.2.1.sys.erase i) (hM.2.2.1.inj.erase i) (by omega)) O ?_;rintro _ w2 ⟨A2,rfl,ax⟩;have aD:=aE.call ax;refine bM O (GW O O ?_);exact⟨A2,O,aD.sub (List.Sublist.cons_cons _ (List.nil_sublist _))⟩
theorem OH{t:ae}:∀ {rs:List aQ} {xss:ah} {i:Nat} {s:aQ} {xs:ai},rs.length=xss.length->(dq t rs xss).set i (az t s.a s.n s.c xs)=dq t (rs.set i s) (xss.set i xs)
 | [],[],_,_,_,_=>rfl
 | [],_::_,_,_,_,h=>by simp at h
 | _::_,[],_,_,_,h=>by simp at h
 | r::rs,x::xss,0,s,xs,_=>rfl
 | r::rs,x::xss,i+1,s,xs,h=>by
  have:=OH (t:=t) (rs:=rs) (xss:=xss) (i:=i) (s:=s) (xs:=xs) (by simpa using h);simpa [dq]using this
theorem GG{w0 w:aa}{t:ae}:∀(n:Nat) {ks:List Ck},St w0 w ks->St w0 w (ks++dq t (List.replicate n eA) (List.replicate n []))
 | 0,ks,h=>by show St w0 w (ks++ []);rwa [eu]
 | n+1,ks,h=>by
  have h1:=GG (t:=t) n h;have h2:=h1.nil t;exact h2.perm (jc.symm)
def mo(L:ah)(K:Int)(w:aa)(v:ad)(w':aa):Prop:=∃A c,∃rs:List aQ,v= .tuple #[.agg #[.slice A L.length c],ak K]/\rs.length=L.length/\St w w' (aO 32 2 A L.length c rs L)
theorem mo.none{ks:List Ck}{K:Int}(h:St w w' ks):mo [] K w (.tuple #[.agg #[.slice Option.none 0 0],ak K]) w':=⟨Option.none,0,[],rfl,rfl,h.none.nil _⟩
section
variable {P:Program} {N:Nat} {ops:Array Oper} {K:Env->aa->Prop} {rest:List Oper} {e:Env} {w0 w w':aa} {ks:List Ck} {d:Nat} {ty:ae} {pos:String} {af:Array Edge}
def Wv(a n u:Nat)(R:ad->aa->Prop):kb
 | .normal,e,w=>∃A f,e a= .pointer A/\Rd w A n f/\R (.tuple #[.agg ((List.range n).map f).toArray,e u]) w
 | .ret,e,w=>∃A f,e a= .pointer A/\Rd w A n f/\R (.tuple #[.agg ((List.range n).map f).toArray,e u]) w
 | _,_,_=>False
theorem jI{a n u:Nat}{R:ad->aa->Prop}{A:aj}{f:Nat->ad}{v:ad}(h:e a= .pointer A)(hR:Rd w A n f)(hv:e u=v)(h2:R (.tuple #[.agg ((List.range n).map f).toArray,v]) w):Wv a n u R .ret e w:=⟨A,f,h,hR,by rw [hv];exact h2⟩
theorem sg{fn:Func}{R:ad->aa->Prop}{a t n b u:Nat}{fs:Array Field}{z:ad}[bV P t (.struct fs)][bR P t z n b](hr:fn.results= #[.cell a t,.tmp u])(BZ:Nat.blt 0 n=true):∀x a1 e w,ky N a1 e->Wv a n u R x e w->bodyPost P fn (fun x w'=>∃v,x= .returned v/\R v w') x a1 w:=by
 intro x a1 e w he q;have hn:0<n:=by simpa [Nat.blt_eq]using BZ
 have hg:=he.get a;have hh:=he.get u;have key:∀(A:aj) (f:Nat->ad),e a= .pointer A->Rd w A n f->(results fn a1.tmps).run P w= .ok (.tuple #[.agg ((List.range n).map f).toArray,e u]) w:=by
  intro A f hA hR;obtain⟨q,rfl,hl⟩:=WH (P:=P) (t:=t) hn hR;rw [jy]at hg hh;simp [results,hr,hg,hh,hA,asAddr,hl]
 cases x<;>first
  | exact q.elim
  | (
   obtain⟨A,f,hA,hR,h2⟩:=q;exact⟨he.defers,_,key A f hA hR,_,O,h2⟩)
end
def KD(Vl El:ai)(m:Nat):Nat->ah
 | 0=>List.replicate m []
 | f+1=> (KD Vl El m f).set (gi El f).toNat (gl (KD Vl El m f) (gi El f)++ [gi Vl f])
def ends(Vl El:ai)(m f:Nat):ah:=(KD Vl El m f).map cs
def Hg(L:ah)(K:Int)(w:aa)(v:ad)(w':aa):Prop:=∃A' c' rs',v= .tuple #[.slice A' L.length c',ak K]/\rs'.length=L.length/\St w w' (aO 32 2 A' L.length c' rs' L++ [])
theorem Hg.none{w w':aa}{ks:List Ck}{K:Int}(h:St w w' ks):Hg [] K w (.tuple #[.slice Option.none 0 0,ak K]) w':=⟨Option.none,0,[],rfl,rfl,h.none.nil _⟩
def ns(B:ah)(e:Nat):ah:=(B.take e).map cs++B.drop e
theorem agk(B:ah)(e:Nat):(ns B e).length=B.length:=by simp [ns];omega
theorem agm(B:ah):ns B 0=B:=by simp [ns]
theorem agi(B:ah):ns B B.length=B.map cs:=by simp [ns]
theorem agj{B:ah}{e:Nat}(h:e<B.length):gl (ns B e) e=gl B e:=by
 simp only [gl,ns,gI,dd];rw [kN (by simp;omega)];simp [Nat.min_eq_left (Nat.le_of_lt h)]
theorem agl{B:ah}{e:Nat}(h:e<B.length):(ns B e).set e (cs (gl B e))=ns B (e+1):=by
 rw [cK h];unfold ns;rw [List.set_append_right _ _ (by simp;omega),su h,jm,gN];have e1:e - ((B.take e).map cs).length=0:=by simp;omega
 rw [e1,List.drop_eq_getElem_cons h]
 rfl
theorem aiG{w0 w:aa}{ks:List Ck}(i:Nat){t:ae}{A:aj}{n c:Nat}{xs:ai}(hS:St w0 w ks)(hk:ks[i]?=some (az t A n c xs))(hn:n<=1000000000):
 aN prog 159 [.slice A n c] w (fun v w'=>v= .tuple #[]/\St w0 w' (ks.set i (az t A n c (oK xs)))):=by
 by_cases h0:0<n
 ·exact aiI i hS hk h0 hn
 obtain rfl:n=0:=by omega
 have dG:=hS.D6 i hk;obtain rfl:=uq dG;refine Calls.mono (AnyM.slices_Sort_int_none Vm A c w) fun x w' ⟨hx,hw⟩=> ⟨_,hx,O,?_⟩
 subst hw;have e:oK []=[]:=uq (OT []).length_eq;rw [e,OO hk];exact hS
theorem ZO{w0 w:aa}{ks:List Ck}(i:Nat){t:ae}{A:aj}{n c:Nat}{xs:ai}(hS:St w0 w ks)(hk:ks[i]?=some (az t A n c xs))(hn:n<=1000000000):
 aN prog 160 [.slice A n c] w (fun v w'=>v= .slice A (l6 xs).length c/\St w0 w' (ks.set i (az t A (l6 xs).length c (l6 xs)))):=by
 by_cases h0:0<n
 ·exact ZP i hS hk h0 hn
 obtain rfl:n=0:=by omega
 have dG:=hS.D6 i hk;obtain rfl:=uq dG;have e:l6 []=[]:=uq (Nat.le_zero.1 (QF []));rw [e];refine bI func160 O ntmps160 O (du O) ?_;refine bc O (bk O O (aI O ?_));refine CK O (by decide) (eF O (gK O ?_));exact⟨O,by rw [show([]:ai).length=0 from O,OO hk];exact hS⟩
theorem Vn{t1 t2:ae}{A:aj}{n c:Nat}{rs:List aQ}{xss:ah}(h:rs.length=xss.length):(aO t1 t2 A n c rs xss).length=rs.length+1:=by simp [aO,Ek h]
section
variable {P:Program} {N:Nat} {ops:Array Oper} {K:Env->aa->Prop} {rest:List Oper} {e:Env} {w:aa} {d:Nat} {ty:ae} {pos:String} {af:Array Edge}
theorem Yh{F:FuncId}{x y:ag}{v1 v2:ad}(hx:ev e x=v1)(hy:ev e y=v2)(hb:Nat.blt d N=true)(hK:ao P N ops K rest (bG e d (.func (.func F) #[] #[v1,v2])) w):
 ao P N ops K (⟨some d,.makeFunc (.func F) #[] #[x,y],ty,pos,af,none⟩::rest) e w:=
 .val (by simp [execOp,Instr.makeFunc,hx,hy]) hb hK
end
def Bh(lo hi:Int)(xs:ai):Prop:=∀x∈xs,lo<=x/\x<=hi
instance (lo hi:Int)(xs:ai):Decidable (Bh lo hi xs):=by unfold Bh;exact inferInstance
theorem YZ(x lo hi:Int)(P1 P2:aj)(w:aa)(h1:Rd w P1 1 (fun _=>ak lo))(h2:Rd w P2 1 (fun _=>ak hi)):
 aN prog 206 [ak x,.pointer P1,.pointer P2] w (fun v w'=>v= .bool (decide (¬(lo<=x/\x<=hi)))/\w'=w):=by
 refine bI func206 O ntmps206 O (du O) (bc O ?_);refine ao.ld h1 (by exact aK Value.pointer (pv P1).symm) (by decide) O O O ?_;refine ao.ld h2 (by exact aK Value.pointer (pv P2).symm) (by decide) O O O ?_;refine aL (yV _ _ _ _) O ?_;rintro _ w ⟨rfl,rfl⟩
 first | refine eZ rfl rfl ?_ | refine fY rfl rfl ?_
 refine bM O (dz O ?_);exact⟨O,O⟩
theorem XS(A:aj)(n c:Nat)(xs:ai)(lo hi:Int)(P1 P2:aj)(w:aa)(hR:di w A n xs)(hn:n<=9223372036854775807)(h1:Rd w P1 1 (fun _=>ak lo))(h2:Rd w P2 1 (fun _=>ak hi)):
 aN prog 238 [.slice A n c,.func (.func 206) #[] #[.pointer P1,.pointer P2]] w (fun v w'=> (∃i:Int,v=ak i/\(0<=i↔¬Bh lo hi xs))/\w'=w):=by
 have dG:=hR.1;refine bI func238 O ntmps238 O (du O) ?_;refine bc O (bk O O (aI O ?_));refine Cd.loop (α:=Nat) (fun k=> [(0,.slice A n c),(1,.func (.func 206) #[] #[.pointer P1,.pointer P2]),(7,ak n),(8,ak k)]) (fun k w'=>w'=w/\k<=n/\∀j,j<k->lo<=gi xs (j:Nat)/\gi xs (j:Nat)<=hi) (fun k=>n - k) 0 (alH O) ⟨O,bm _,fun j hj=>by omega⟩ ?_;rintro k e w ⟨rfl,hk,hK⟩;refine b8 O (aR _ O (fun h3=>?_) (fun h3=>?_))
 ·refine aG O (aF hR.2 O (bh hR O (aL (YZ _ lo hi P1 P2 _ h1 h2) O ?_)));rintro _ w ⟨rfl,rfl⟩;refine aI O (aR _ O (fun h4=>?_) (fun h4=>?_))
  ·refine eF O (fD (e6 ?_));refine jj O ?_;exact⟨⟨(k:Int),O,⟨fun _ ha=>h4 (by rw [cd (by omega)];exact ha _ (dH _)),fun _=>by omega⟩⟩,O⟩
  refine aG O (aJ O (aT O (tQ ?_)));refine⟨k+1,by show n - (k+1)<n - k;omega,(alH O),O,by omega,fun j hj=>?_⟩
  by_cases ej:j=k
  ·subst ej;exact jl.1 h4
  exact hK j (by omega)
 refine bw O (bA (ij O ?_));refine jj O ⟨⟨-1,O,⟨fun h=>absurd h (by decide),fun h=>absurd (fun x hx=>?_) h⟩⟩,O⟩;obtain⟨j,hj,rfl⟩:=fV.1 hx;have:=hK j (by omega)
 rwa [cd hj]at this
theorem XH(A:aj)(n c:Nat)(xs:ai)(lo hi:Int)(P1 P2:aj)(w:aa)(hR:di w A n xs)(hn:n<=9223372036854775807)(h1:Rd w P1 1 (fun _=>ak lo))(h2:Rd w P2 1 (fun _=>ak hi)):
 aN prog 205 [.slice A n c,.func (.func 206) #[] #[.pointer P1,.pointer P2]] w (fun v w'=>v= .bool (decide (¬Bh lo hi xs))/\w'=w):=by
 refine bI func205 O ntmps205 O (du O) (bc O (aL (XS A n c xs lo hi P1 P2 _ hR hn h1 h2) O ?_));rintro _ w ⟨⟨i,rfl,dt⟩,rfl⟩;refine bM O (dz O ?_);exact⟨aK Value.bool (ke.2 dt),O⟩
theorem Y0(A:aj)(n c:Nat)(xs:ai)(lo hi:Int)(w:aa)(hR:di w A n xs)(hn:n<=9223372036854775807):
 aN prog 146 [.slice A n c,ak lo,ak hi] w (fun v w'=>v= .bool (decide (Bh lo hi xs))/\St w w' []):=by
 refine bI func146 O ntmps146 O (du O) (bc O ?_);refine ao.box (v:=ak lo) (St.refl w) O O (by show(1:Nat)<=maxLen;simp [maxLen]) ?_;intro P1 w1 aE;have aE:St w w1 [Bx 2 1 P1 [ak lo]]:=aE;refine ao.box (v:=ak hi) aE O O (by show(1:Nat)<=maxLen;simp [maxLen]) ?_;intro P2 w2 aD;have aD:St w w2 [Bx 2 1 P2 [ak hi],Bx 2 1 P1 [ak lo]]:=aD;refine ar O (Yh O O O (aL (XH A n c xs lo hi P1 P2 _ (aD.gH hR) hn (Rd.one (aD.rd 1 O)) (Rd.one (aD.rd 0 O))) O ?_));rintro _ w2 ⟨rfl,rfl⟩
 first | refine eZ rfl rfl ?_ | refine fY rfl rfl ?_
 refine bM O (dz O ?_);exact⟨by simp,aD.none⟩
def Px(n:Nat)(ws:ai):Prop:=Bh 0 ((n:Int) - 1) ws/\ws.length<=64
instance (n:Nat)(ws:ai):Decidable (Px n ws):=by unfold Px;exact inferInstance
end Go.Proofs.YtopgfgdgfjddpaaGreatDoor.Vc
namespace Go.Proofs.YtopgfgdgfjddpaaGreatDoor.Vc
open Tryz
variable{M:ah}{i j:Nat}{p b R:ai}{x y u:Int}
theorem NT{N:Nat}{xss:ah}(hs:Sys N xss)(dt:tk N xss){x y:Int}(h0:0<=x)(h1:x<N)(hr:Reach xss x y):∀i,i<=N->gi (bD N xss i).1 x=gi (bD N xss i).1 y
 | 0,_=>by
  have hy:=hr.range hs h0 h1;simp only [bD,zA h0 h1,zA hy.1 hy.2]
 | i+1,hi=>by
  have hy:=hr.range hs h0 h1;have ih:=NT hs dt h0 h1 hr i (by omega);have ho:=sd hs (pt:=(i:Int)) (by omega) (by omega);simp only [bD]
  split
  ·exact ih
  ·simp only;rw [wF _ _ _ (rh N xss i) ho.1.range x h0,wF _ _ _ (rh N xss i) ho.1.range y hy.1];have hm:x∈dw N xss i↔y∈dw N xss i:=by
    rw [ho.2.2,ho.2.2];exact⟨fun h=>h.trans hr,fun h=>h.trans (hr.symm hs dt h0 h1)⟩
   by_cases h:x∈dw N xss i
   ·rw [ay h,ay (hm.1 h)]
   ·rw [aw h,aw (fun h'=>h (hm.2 h')),ih]
theorem Vd{N:Nat}{xss:ah}(hs:Sys N xss)(dt:tk N xss){x y:Int}(h0:0<=x)(h1:x<N)(h2:0<=y)(h3:y<N):∀i,i<=N->gi (bD N xss i).1 x=gi (bD N xss i).1 y->0<=gi (bD N xss i).1 x->Reach xss x y
 | 0,_,_,h=>by simp only [bD,zA h0 h1]at h;omega
 | i+1,hi,he,hp=>by
  have ih:=Vd hs dt h0 h1 h2 h3 i (by omega);have ho:=sd hs (pt:=(i:Int)) (by omega) (by omega);have hc:=Ag N xss i;have hx:=(D4 hs dt i (by omega)).1 x h0 h1;have hy:=(D4 hs dt i (by omega)).1 y h2 h3;simp only [bD]at he hp
  split at he
  ·rename_i hl;rw [ay hl]at hp;exact ih he hp
  ·rename_i hl;rw [aw hl]at hp;simp only at he hp;rw [wF _ _ _ (rh N xss i) ho.1.range x h0]at he hp;rw [wF _ _ _ (rh N xss i) ho.1.range y h2]at he
   by_cases vS:x∈dw N xss i
   ·rw [ay vS]at he
    by_cases Gu:y∈dw N xss i
    ·exact(((ho.2.2 x).1 vS).symm hs dt (by omega) (by omega)).trans ((ho.2.2 y).1 Gu)
    ·rw [aw Gu]at he;omega
   ·rw [aw vS]at he hp
    by_cases Gu:y∈dw N xss i
    ·rw [ay Gu]at he;omega
    ·rw [aw Gu]at he;exact ih he hp
theorem Q8{xss:ah}{k:Nat}(hk:k<xss.length)(bt:k≠i):gl xss k∈xss.eraseIdx i:=by
 rw [List.mem_eraseIdx_iff_getElem];exact⟨k,hk,bt,by rw [cK hk]⟩
theorem Q9{xss:ah}(h:p∈xss.eraseIdx i):∃k:Nat,k<xss.length/\k≠i/\p=gl xss k:=by
 rw [List.mem_eraseIdx_iff_getElem]at h;obtain⟨k,hk,bt,rfl⟩:=h;exact⟨k,hk,bt,by rw [cK hk]⟩
theorem E3{xss:ah}(hM:bg xss){k:Nat}(hk:k<xss.length)(bt:k≠i){f:Int}(h0:0<=f)(h1:f< (gl xss 0).length):gi (cH xss i) (gi (gl xss k) f)=gi (cH xss i) f:=(NT (hM.2.2.1.sys.erase i) (hM.2.2.1.inj.erase i) h0 h1 (.step .refl (Q8 hk bt)) _ (bB _)).symm
theorem E4{xss:ah}(hM:bg xss){f g:Int}(h0:0<=f)(h1:f< (gl xss 0).length)(h2:0<=g)(h3:g< (gl xss 0).length)(h:gi (cH xss i) f=gi (cH xss i) g):Reach (xss.eraseIdx i) f g:=by
 obtain⟨k,rfl⟩:∃k:Nat,f=k:=⟨f.toNat,by omega⟩;exact Vd (hM.2.2.1.sys.erase i) (hM.2.2.1.inj.erase i) h0 h1 h2 h3 _ (bB _) h (zw hM i k (by omega)).1
theorem bg.two{xss:ah}(hM:bg xss){k:Nat}(hk:k<xss.length){f:Int}(h0:0<=f)(h1:f< (gl xss 0).length):gi (gl xss k) (gi (gl xss k) f)=f:=by
 obtain⟨q,rfl⟩:∃q:Nat,f=q:=⟨f.toNat,by omega⟩;have hr:=hM.2.2.1.at_ hk;exact(hr.2.2 q (by omega)).2
theorem bg.xc{xss:ah}(hM:bg xss){k:Nat}(hk:k<xss.length){f:Int}(h0:0<=f)(h1:f< (gl xss 0).length):0<=gi (gl xss k) f/\gi (gl xss k) f< (gl xss 0).length:=(hM.2.2.1.sys _ (by rw [cK hk];exact dH _)).2 f h0 h1
theorem bg.comm{xss:ah}(hM:bg xss){k:Nat}(hi:i<xss.length)(hk:k<xss.length)(mJ:i+2<=k){f:Int}(h0:0<=f)(h1:f< (gl xss 0).length):gi (gl xss k) (gi (gl xss i) f)=gi (gl xss i) (gi (gl xss k) f):=by
 obtain⟨q,rfl⟩:∃q:Nat,f=q:=⟨f.toNat,by omega⟩;exact(hM.2.2.2.1 i hi k hk mJ q (by omega)).1
def LT(a b:ai):Prop:=xe a b<0
instance (a b:ai):Decidable (LT a b):=by unfold LT;infer_instance
theorem LT.ne{a:ai}(h:LT a b):a≠b:=fun e=>by
 unfold LT at h;rw [Vj.2 e]at h;omega
def SL(l:ah):Prop:=l.Pairwise LT
theorem SL.nodup{l:ah}(h:SL l):l.Nodup:=h.imp fun h=>h.ne
def Ins(a b:ai):Prop:=∀x∈a,x∈b
instance (a b:ai):Decidable (Ins a b):=by unfold Ins;infer_instance
theorem Pz{a:ai}:LT (x::a) (y::b)↔x<y\/x=y/\LT a b:=by
 unfold LT;rw [xe]
 by_cases e:x=y
 ·subst e;rw [ay (HI.2 rfl)];constructor
  ·exact fun h=> .inr ⟨O,h⟩
  rintro(h | h)
  ·omega
  exact h.2
 rw [aw (fun h=>e (HI.1 h)),ZD];constructor
 ·exact fun h=> .inl h
 rintro(h | h)
 ·exact h
 exact absurd h.1 e
def PD(ls:ah)(x:ai):Prop:=x∈ls/\x≠[]/\∀y∈ls,Ins x y->y=x
instance (ls:ah)(x:ai):Decidable (PD ls x):=by unfold PD;infer_instance
def KB(x:ai):ah->Nat
 | []=>0
 | y::l=>if LT y x then KB x l+1 else 0
def ahL(l:ah)(x:ai):ah:=if x∈l then l else l.take (KB x l)++x::l.drop (KB x l)
def Wn(ls:ah):ah:=(ls.filter fun l=>decide (l≠[])).foldl ahL []
def aav(ls:ah):ah:=(Wn ls).filter fun x=>decide (∀y∈Wn ls,Ins x y->y=x)
def ix(s:ai)(x:Int):Int:=(s.idxOf x:Nat)
def Z6(ss:ah):ai:=cs ss.flatten
def Pu(ss:ah):Prop:=(∃l∈ss,6<l.length)\/60< (Z6 ss).length\/400< (aav ss).length
instance (ss:ah):Decidable (Pu ss):=by unfold Pu;infer_instance
def bN(n:Nat):ai:=(List.range n).map fun k:Nat=> (k:Int)
theorem yN(n:Nat):(bN n).length=n:=by simp [bN]
theorem fM(n:Nat)(x:Int):x∈bN n↔0<=x/\x<n:=by
 simp only [bN,dv,gP];exact⟨fun⟨k,hk,e⟩=>by omega,fun h=> ⟨x.toNat,by omega,by omega⟩⟩
theorem lh(n:Nat):SA (bN n):=by
 unfold SA bN;rw [nB];exact List.pairwise_lt_range.imp fun h=>by omega
theorem Dh(x:Int)(l:ai)(i:Nat):gi (x::l) ((i+1:Nat):Int)=gi l (i:Nat):=by simp [gi]
theorem SA.Aj{l:ai}(h:SA l)(iJ:i<j)(hj:j<l.length):gi l i<gi l j:=by
 rw [cd (by omega),cd hj];exact List.pairwise_iff_getElem.1 h i j (by omega) hj iJ
def lj(R:ai)(B:ah)(e:Int):ai:=(bN R.length).filter fun f=>decide (gi R f=gi R e+1/\e∈gl B f)
theorem nz{B:ah}{e f:Int}:f∈lj R B e↔(0<=f/\f<R.length)/\gi R f=gi R e+1/\e∈gl B f:=by
 unfold lj;rw [fU,fM,kz]
theorem Ew(R:ai)(B:ah)(e:Int):SA (lj R B e):=qj _ (lh _)
def oo(R:ai)(B:ah):Nat->Int->ah
 | 0,_=> [[]]
 | k+1,e=> (lj R B e).flatMap fun f=> (oo R B k f).map (f:: ·)
def vh(R:ai):ai:=(bN R.length).filter fun e=>decide (gi R e=0)
theorem uz{e:Int}:e∈vh R↔(0<=e/\e<R.length)/\gi R e=0:=by
 unfold vh;rw [fU,fM,kz]
def aC(n:Nat)(R:ai)(B:ah):ah:=(vh R).flatMap fun e=> (oo R B (n - 1) e).map (e:: ·)
def ew(n:Nat)(R:ai)(B:ah)(e:Int):Prop:=oo R B (n - 1 - (gi R e).toNat) e≠[]
instance (n:Nat)(R:ai)(B:ah)(e:Int):Decidable (ew n R B e):=by unfold ew;infer_instance
theorem Qb{n:Nat}{B:ah}{e:Int}(h:gi R e=(n:Int) - 1):ew n R B e:=by
 unfold ew;rw [show n - 1 - (gi R e).toNat=0 by omega];simp [oo]
theorem Hx{n:Nat}{B:ah}{e:Int}(h0:0<=gi R e)(h1:gi R e< (n:Int) - 1):ew n R B e↔∃f∈lj R B e,ew n R B f:=by
 obtain⟨k,hk⟩:∃k,n - 1 - (gi R e).toNat=k+1:=⟨n - 1 - (gi R e).toNat - 1,by omega⟩;have hf:∀f∈lj R B e,n - 1 - (gi R f).toNat=k:=fun f hf=>by
  have:=(nz.1 hf).2.1;omega
 unfold ew;rw [hk,oo];constructor
 ·intro h;obtain⟨x,hx⟩:=List.exists_mem_of_ne_nil _ h;obtain⟨f,iN,hx⟩:=List.mem_flatMap.1 hx;obtain⟨y,hy,_⟩:=dv.1 hx;exact⟨f,iN,by rw [hf f iN];exact List.ne_nil_of_mem hy⟩
 rintro⟨f,iN,h⟩;rw [hf f iN]at h;obtain⟨y,hy⟩:=List.exists_mem_of_ne_nil _ h;exact List.ne_nil_of_mem (List.mem_flatMap.2 ⟨f,iN,dv.2 ⟨y,hy,O⟩⟩)
theorem Lj{α β:Type}{p:α->Bool}{g:α->List β}:∀ {l:List α},(∀x∈l,p x=false->g x=[])->(l.filter p).flatMap g=l.flatMap g
 | [],_=>rfl
 | a::r,h=>by
  have ih:=Lj (p:=p) (g:=g) (l:=r) fun x hx=>h x (pC _ hx)
  cases hp:p a with
  | true=>rw [ur hp,List.flatMap_cons,List.flatMap_cons,ih]
  | false=>rw [rC (by simp [hp]),List.flatMap_cons,ih,h a (by simp) hp];rfl
theorem Xh{n:Nat}{B:ah}{e:Int}{k:Nat}(h0:0<=gi R e)(hk:(gi R e).toNat+ (k+1)=n - 1):oo R B (k+1) e=((lj R B e).filter fun f=>decide (ew n R B f)).flatMap fun f=> (oo R B k f).map (f:: ·):=by
 rw [oo,Lj];intro f hf h;have h2:=(nz.1 hf).2.1;have h3:¬ew n R B f:=by simpa using h
 unfold ew at h3;rw [show n - 1 - (gi R f).toNat=k by omega]at h3;rw [jl.1 h3];rfl
theorem Qw{n:Nat}{B:ah}:aC n R B=((vh R).filter fun f=>decide (ew n R B f)).flatMap fun e=> (oo R B (n - 1) e).map (e:: ·):=by
 rw [aC,Lj];intro f hf h;have h2:=(uz.1 hf).2;have h3:¬ew n R B f:=by simpa using h
 unfold ew at h3;rw [h2]at h3;rw [show n - 1 - (0:Int).toNat=n - 1 by rfl]at h3;rw [jl.1 h3];rfl
def cap(l:ah):ah:=l.take 401
theorem KL(l:ah):(cap l).length<=401:=by unfold cap;rw [List.length_take];omega
theorem HF{l:ah}(m:ah)(h:400< (cap l).length):cap (l++m)=cap l:=by
 unfold cap at h|-;rw [qF]at h;rw [ze (by omega)]
theorem KJ{l:ah}(h:(cap l).length<=400):cap l=l:=by
 unfold cap at h|-;rw [qF]at h;exact lp (by omega)
theorem HE{l:ah}:(cap l).length<=400↔l.length<=400:=by
 unfold cap;rw [qF];omega
theorem Zt{l:ah}(x:ai)(h:(cap l).length<=400):cap (l++ [x])=cap l++ [x]:=by
 rw [KJ h];rw [HE]at h;unfold cap;exact lp (by rw [dI,List.length_singleton];omega)
def EC(R:ai)(B:ah):Int->ai->Prop
 | _,[]=>True
 | e,f::r=>f∈lj R B e/\EC R B f r
theorem HT{R:ai}{B:ah}:∀ {k:Nat} {e:Int} {x:ai},x∈oo R B k e↔x.length=k/\EC R B e x
 | 0,e,x=>by
  rw [oo,fm];constructor
  ·rintro rfl;exact⟨rfl,av⟩
  ·exact fun h=>uq h.1
 | k+1,e,x=>by
  rw [oo,List.mem_flatMap];constructor
  ·rintro⟨f,hf,h⟩;obtain⟨y,hy,rfl⟩:=dv.1 h;obtain⟨h1,h2⟩:=HT.1 hy;exact⟨by rw [List.length_cons,h1],hf,h2⟩
  ·rintro⟨h1,h2⟩
   match x,h1,h2 with
   | f::r,h1,⟨h2,h3⟩=>exact⟨f,h2,dv.2 ⟨r,HT.2 ⟨by simpa using h1,h3⟩,rfl⟩⟩
theorem Kb{R:ai}{B:ah}:∀ {x:ai} {e:Int},EC R B e x↔∀i:Nat,i<x.length->gi (e::x) ((i+1:Nat):Int)∈lj R B (gi (e::x) i)
 | [],e=>by simp [EC]
 | f::r,e=>by
  rw [EC,Kb (x:=r) (e:=f)];constructor
  ·rintro⟨h1,h2⟩ i hi
   match i with
   | 0=>exact h1
   | i+1=>
    rw [Dh,Dh];exact h2 i (by simpa using hi)
  ·intro h;refine⟨h 0 (by simp),fun i hi=>?_⟩;have:=h (i+1) (by simpa using hi)
   rwa [Dh,Dh]at this
theorem nh{n:Nat}(hn:1<=n){B:ah}{x:ai}:x∈aC n R B↔x.length=n/\(∀i:Nat,i<n->(0<=gi x i/\gi x i<R.length)/\gi R (gi x i)=i)/\∀i:Nat,i+1<n->gi x i∈gl B (gi x ((i+1:Nat):Int)):=by
 unfold aC;rw [List.mem_flatMap];constructor
 ·rintro⟨e,he,h⟩;obtain⟨y,hy,rfl⟩:=dv.1 h;obtain⟨h1,h2⟩:=HT.1 hy;obtain⟨h3,h4⟩:=uz.1 he;rw [Kb]at h2;have key:∀i:Nat,i<n->(0<=gi (e::y) i/\gi (e::y) i<R.length)/\gi R (gi (e::y) i)=i:=by
   intro i
   induction i with
   | zero=>intro _;exact⟨h3,h4⟩
   | succ i ih=>
    intro hi;have h5:=nz.1 (h2 i (by omega));have h6:=ih (by omega);exact⟨h5.1,by rw [h5.2.1,h6.2];omega⟩
  exact⟨by rw [List.length_cons,h1];omega,key,fun i hi=> (nz.1 (h2 i (by omega))).2.2⟩
 ·rintro⟨h1,h2,h3⟩
  match x,h1,h2,h3 with
  | [],h1,_,_=>simp at h1;omega
  | e::y,h1,h2,h3=>
   rw [List.length_cons]at h1;refine⟨e,uz.2 (h2 0 (by omega)),dv.2 ⟨y,HT.2 ⟨by omega,Kb.2 fun i hi=>?_⟩,O⟩⟩;have h4:=h2 (i+1) (by omega);have h5:=h2 i (by omega);exact nz.2 ⟨h4.1,by rw [h4.2,h5.2];omega,h3 i (by omega)⟩
theorem Kn{g:Int->ah}(hg:∀f,SL (g f)):∀ {l:ai},SA l->SL (l.flatMap fun f=> (g f).map (f:: ·))
 | [],_=>List.Pairwise.nil
 | a::l,h=>by
  obtain⟨h1,h2⟩:=List.pairwise_cons.1 h;rw [List.flatMap_cons,SL,List.pairwise_append];refine⟨nB.2 ((hg a).imp fun h=>Pz.2 (.inr ⟨O,h⟩)),Kn hg h2,fun x hx y hy=>?_⟩;obtain⟨u,_,rfl⟩:=dv.1 hx;obtain⟨b,hb,hy⟩:=List.mem_flatMap.1 hy;obtain⟨v,_,rfl⟩:=dv.1 hy;exact Pz.2 (.inl (h1 b hb))
theorem Rc(R:ai)(B:ah):∀(k:Nat) (e:Int),SL (oo R B k e)
 | 0,_=>by simp [oo,SL]
 | k+1,e=>Kn (Rc R B k) (Ew R B e)
theorem xM(n:Nat)(R:ai)(B:ah):SL (aC n R B):=Kn (Rc R B (n - 1)) (qj _ (lh _))
structure gE(n:Int)(R:ai)(B:ah):Prop where
 n1:1<=n/\n<=5
 oV:R.length<=500
 len:B.length=R.length
 dp:∀x∈R,0<=x/\x<=n - 1
 ET:tf R
 row:∀e:Nat,e<R.length->SA (gl B e)/\∀d∈gl B e,(0<=d/\d<R.length)/\gi R d<gi R e
 tr:∀e:Nat,e<R.length->∀d∈gl B e,∀c∈gl B d,c∈gl B e
theorem tf.le(h:tf R)(iJ:i<=j)(hj:j<R.length):gi R i<=gi R j:=by
 rcases Nat.lt_or_eq_of_le iJ with h1 | rfl
 ·rw [cd (by omega),cd hj];exact List.pairwise_iff_getElem.1 h i j (by omega) hj h1
 exact Int.le_refl _
theorem gE.at_{n:Int}{B:ah}(h:gE n R B){e:Int}(h0:0<=e)(h1:e<R.length):SA (gl B e)/\(∀d∈gl B e,(0<=d/\d<e)/\gi R d<gi R e)/\∀d∈gl B e,∀c∈gl B d,c∈gl B e:=by
 obtain⟨k,rfl⟩:∃k:Nat,e=k:=⟨e.toNat,by omega⟩;have hr:=h.row k (by omega);refine⟨hr.1,fun d hd=>?_,h.tr k (by omega)⟩;have h2:=hr.2 d hd;obtain⟨j,rfl⟩:∃j:Nat,d=j:=⟨d.toNat,by omega⟩;refine⟨⟨by omega,?_⟩,h2.2⟩;refine Int.not_le.1 fun hle=>?_
 have:=h.ET.le (i:=k) (j:=j) (by omega) (by omega);omega
theorem gE.ri{n:Int}{B:ah}(h:gE n R B){e:Int}(h0:0<=e)(h1:e<R.length):0<=gi R e/\gi R e<=n - 1:=by
 obtain⟨k,rfl⟩:∃k:Nat,e=k:=⟨e.toNat,by omega⟩;exact h.dp _ (gi_in (by omega))
def aH(M:ah):Nat->Nat
 | 0=>0
 | i+1=>aH M i+ (fA M i).toNat
def bn(M:ah):Nat->ai
 | 0=> []
 | i+1=>bn M i++List.replicate (fA M i).toNat (i:Int)
theorem je(M:ah):∀i,(bn M i).length=aH M i
 | 0=>rfl
 | i+1=>by rw [bn,dI,je M i,List.length_replicate];rfl
def bC(M:ah)(i:Nat)(f:Nat):Int:=(aH M i:Int)+gi (cH M i) f
theorem oI(M:ah)(h:i<=j):aH M i<=aH M j:=by
 induction h with
 | refl=>exact bB _
 | step _ ih=>exact l5 ih (by show _<=aH M _+_;omega)
theorem qq(hM:bg M){f:Nat}(hf:f< (gl M 0).length):(aH M i:Int)<=bC M i f/\bC M i f< (aH M (i+1):Int):=by
 have h1:=zw hM i f hf;unfold bC;show _/\_< ((aH M i+ (fA M i).toNat:Nat):Int);omega
theorem E9{n:Nat}:∀ {i:Nat},i<n->∀ {e:Int},(aH M i:Int)<=e->e< (aH M (i+1):Int)->gi (bn M n) e=i:=by
 induction n with
 | zero=>intro i hi;omega
 | succ n ih=>
  intro i hi e h0 h1;obtain⟨k,rfl⟩:∃k:Nat,e=k:=⟨e.toNat,by omega⟩;have hl:=je M n
  by_cases h:i=n
  ·subst h;rw [bn,gi,dd,kN (by rw [hl];omega),List.getElem?_replicate,ay]
   ·rfl
   ·have:aH M (i+1)=aH M i+ (fA M i).toNat:=O;rw [hl];omega
  ·have h3:=oI M (show i+1<=n by omega);have h2:=ih (show i<n by omega) h0 h1;rw [bn,gi,dd,mq (by rw [hl];omega),<-dd];exact h2
theorem Lm{n:Nat}{e:Int}(h0:0<=e)(h1:e< (aH M n:Int)):∃i,i<n/\(aH M i:Int)<=e/\e< (aH M (i+1):Int):=by
 induction n with
 | zero=>have:aH M 0=0:=rfl;omega
 | succ n ih=>
  by_cases h:e< (aH M n:Int)
  ·obtain⟨i,hi,h2⟩:=ih h;exact⟨i,by omega,h2⟩
  ·exact⟨n,by omega,by omega,h1⟩
theorem RG(M:ah):∀n,tf (bn M n)/\∀x∈bn M n,0<=x/\x< (n:Int)
 | 0=> ⟨List.Pairwise.nil,fun x hx=>by cases hx⟩
 | n+1=>by
  obtain⟨h1,h2⟩:=RG M n;refine⟨?_,fun x hx=>?_⟩
  ·rw [bn,tf,List.pairwise_append];refine⟨h1,List.pairwise_replicate.2 (.inr (Int.le_refl _)),fun x hx y hy=>?_⟩;have:=h2 x hx;have:=(List.mem_replicate.1 hy).2;omega
  ·rw [bn]at hx;rcases iR.1 hx with h | h
   ·have:=h2 x h;omega
   ·have:=(List.mem_replicate.1 h).2;omega
def xu(M:ah)(d e:Int):Prop:=∃f:Nat,f< (gl M 0).length/\∃i:Nat,i<M.length/\∃k:Nat,k<i/\e=bC M i f/\d=bC M k f
open Classical in
noncomputable def bE(M:ah):ah:=(bN (aH M M.length)).map fun e=> (bN (aH M M.length)).filter fun d=>decide (xu M d e)
theorem uG(M:ah):(bE M).length=aH M M.length:=by simp [bE,bN]
theorem ot{e:Int}(h0:0<=e)(h1:e< (aH M M.length:Int))(d:Int):d∈gl (bE M) e↔(0<=d/\d< (aH M M.length:Int))/\xu M d e:=by
 obtain⟨k,rfl⟩:∃k:Nat,e=k:=⟨e.toNat,by omega⟩;rw [cK (by rw [uG];omega)];unfold bE;rw [List.getElem_map,fU,fM];have:(bN (aH M M.length))[k]'(by rw [yN];omega)=(k:Int):=by simp [bN]
 rw [this];exact and_congr Iff.rfl (by simp)
theorem xu.dp(hM:bg M){d e:Int}(h:xu M d e):(0<=d/\d< (aH M M.length:Int))/\(0<=e/\e< (aH M M.length:Int))/\gi (bn M M.length) d<gi (bn M M.length) e:=by
 obtain⟨f,hf,i,hi,k,hk,rfl,rfl⟩:=h;have h1:=qq hM (i:=i) hf;have h2:=qq hM (i:=k) hf;have h3:=oI M (show i+1<=M.length by omega);have h4:=oI M (show k+1<=M.length by omega);refine⟨by omega,by omega,?_⟩;rw [E9 hi h1.1 h1.2,E9 (show k<M.length by omega) h2.1 h2.2];omega
theorem W0(h:p∈M.take j):∃k:Nat,k<j/\k<M.length/\p=gl M k:=by
 obtain⟨k,hk,rfl⟩:=fV.1 h;rw [qF]at hk;exact⟨k,by omega,by omega,by rw [List.getElem_take,cK (by omega)]⟩
theorem Vk(hM:bg M)(j:Nat):Sys (gl M 0).length (M.take j):=fun p hp=>hM.2.2.1.sys p (List.mem_of_mem_take hp)
theorem af0(hM:bg M)(h0:0<=y)(h1:y< (gl M 0).length)(h:Reach (M.take j) y u):∀i:Nat,j<=i->gi (cH M i) u=gi (cH M i) y:=by
 induction h with
 | refl=>exact fun _ _=>rfl
 | step h hp ih=>
  intro i hi;have hr:=h.range (Vk hM j) h0 h1;obtain⟨k,DK,hk,rfl⟩:=W0 hp;rw [E3 hM hk (by omega) hr.1 hr.2,ih i hi]
theorem afZ(hM:bg M){k:Nat}(uS:j<k)(hk:k<M.length)(h0:0<=y)(h1:y< (gl M 0).length)(h:Reach (M.take j) y u):Reach (M.take j) (gi (gl M k) y) (gi (gl M k) u):=by
 induction h with
 | refl=>exact .refl
 | step h hp ih=>
  have hr:=h.range (Vk hM j) h0 h1;obtain⟨i,iJ,hi,rfl⟩:=W0 hp;rw [hM.comm hi hk (by omega) hr.1 hr.2];exact .step ih hp
theorem WR(hM:bg M){f:Int}(h0:0<=f)(h1:f< (gl M 0).length){g:Int}(h:Reach (M.eraseIdx j) f g):
 ∃u:Int,(0<=u/\u< (gl M 0).length)/\(∀i:Nat,i<=j->gi (cH M i) u=gi (cH M i) f)/\∀i:Nat,j<=i->gi (cH M i) u=gi (cH M i) g:=by
 have key:∃u:Int,(0<=u/\u< (gl M 0).length)/\(∀i:Nat,i<=j->gi (cH M i) u=gi (cH M i) f)/\Reach (M.take j) g u:=by
  induction h with
  | refl=>exact⟨f,⟨h0,h1⟩,fun _ _=>rfl,.refl⟩
  | step h hp ih=>
   rename_i y p;obtain⟨u,hu,dS,hr⟩:=ih;have tU:=h.range (hM.2.2.1.sys.erase j) h0 h1;obtain⟨k,hk,DK,rfl⟩:=Q9 hp;rcases Nat.lt_or_gt_of_ne DK with gB | IP
   ·refine⟨u,hu,dS,?_⟩;have hm:gl M k∈M.take j:=by
     rw [fV];exact⟨k,by rw [qF];omega,by rw [List.getElem_take,cK hk]⟩
    have h2:Reach (M.take j) (gi (gl M k) y) (gi (gl M k) (gi (gl M k) y)):= .step .refl hm;rw [hM.two hk tU.1 tU.2]at h2;exact h2.trans hr
   ·refine⟨gi (gl M k) u,hM.xc hk hu.1 hu.2,fun i hi=>?_,afZ hM IP hk tU.1 tU.2 hr⟩;rw [E3 hM hk (by omega) hu.1 hu.2,dS i hi]
 obtain⟨u,hu,dS,hr⟩:=key;have hg:=h.range (hM.2.2.1.sys.erase j) h0 h1;exact⟨u,hu,dS,af0 hM hg.1 hg.2 hr⟩
theorem xu.trans(hM:bg M){c d e:Int}(h:xu M c d)(h':xu M d e):xu M c e:=by
 obtain⟨f,hf,j,hj,k,hk,rfl,rfl⟩:=h;obtain⟨g,hg,i,hi,l,hl,rfl,e2⟩:=h';have h1:=qq hM (i:=j) hf;have h2:=qq hM (i:=l) hg;have lR:j=l:=by
  rcases Nat.lt_trichotomy j l with h | h | h
  ·have:=oI M (show j+1<=l by omega);omega
  ·exact h
  have:=oI M (show l+1<=j by omega);omega
 subst lR;have e3:gi (cH M j) f=gi (cH M j) g:=by unfold bC at e2;omega
 obtain⟨u,hu,dS,cI⟩:=WR hM (j:=j) (f:=(f:Int)) (by omega) (by omega) (E4 hM (by omega) (by omega) (by omega) (by omega) e3);refine⟨u.toNat,by omega,i,hi,k,by omega,?_,?_⟩
 ·unfold bC;rw [Int.toNat_of_nonneg hu.1,cI i (by omega)]
 unfold bC;rw [Int.toNat_of_nonneg hu.1,dS k (by omega)]
theorem aa2(hM:bg M)(hb:aH M M.length<=500):gE M.length (bn M M.length) (bE M):=by
 have h1:=hM.1;have hl:=je M M.length;obtain⟨ha,hr⟩:=RG M M.length;refine⟨by omega,by omega,by rw [uG,hl],fun x hx=>?_,ha,fun e he=> ⟨?_,fun d hd=>?_⟩,fun e he d hd c hc=>?_⟩
 ·have:=hr x hx;omega
 ·rw [cK (by rw [uG];omega)];unfold bE;rw [List.getElem_map];exact qj _ (lh _)
 ·rw [ot (by omega) (by omega)]at hd;have:=hd.2.dp hM;exact⟨by omega,this.2.2⟩
 rw [ot (by omega) (by omega)]at hd|-;rw [ot (by omega) (by omega)]at hc;exact⟨hc.1,hc.2.trans hM hd.2⟩
structure eY(m:Nat)(n:Int)(rk:Int->Int)(gx:Int->Int->Prop):Prop where
 two:2<=m
 r0:rk 0= -1
 rt:rk ((m:Int) - 1)=n
 ri:∀a:Int,0<a->a< (m:Int) - 1->0<=rk a/\rk a<=n - 1
 refl:∀a,gx a a
 trans:∀a b c:Int,0<=a/\a<m->0<=b/\b<m->0<=c/\c<m->gx a b->gx b c->gx a c
 strict:∀a b:Int,0<=a/\a<m->0<=b/\b<m->gx a b->a≠b->rk a<rk b
 bot:∀b,gx 0 b
 top:∀a,gx a ((m:Int) - 1)
 n0:0<=n
def wk(m:Nat)(rk:Int->Int)(gx:Int->Int->Prop):Prop:=∀a b:Int,0<=a/\a<m->0<=b/\b<m->gx a b->rk b=rk a+2->∃x y:Int,x≠y/\∀c:Int,((0<=c/\c<m)/\gx a c/\gx c b/\rk c=rk a+1)↔(c=x\/c=y)
theorem eY.ry{m:Nat}{n:Int}{rk:Int->Int}{gx:Int->Int->Prop}(h:eY m n rk gx){a b:Int}(ha:0<=a/\a<m)(hb:0<=b/\b<m)(hu:gx a b):rk a<=rk b:=by
 by_cases e:a=b
 ·rw [e];exact Int.le_refl _
 exact Int.le_of_lt (h.strict a b ha hb hu e)
theorem eY.same{m:Nat}{n:Int}{rk:Int->Int}{gx:Int->Int->Prop}(h:eY m n rk gx){a b:Int}(ha:0<=a/\a<m)(hb:0<=b/\b<m)(hu:gx a b)(hr:rk b<=rk a):a=b:=
 nA fun e=>by have:=h.strict a b ha hb hu e;omega
theorem eY.dp{m:Nat}{n:Int}{rk:Int->Int}{gx:Int->Int->Prop}(h:eY m n rk gx){a:Int}(ha:0<=a/\a<m): -1<=rk a/\rk a<=n:=by
 have h0:=h.r0;have ht:=h.rt;have hn:=h.n0
 by_cases e:a=0
 ·subst e;omega
 by_cases e2:a=(m:Int) - 1
 ·subst e2;omega
 have:=h.ri a (by omega) (by omega);omega
theorem eY.zero{m:Nat}{n:Int}{rk:Int->Int}{gx:Int->Int->Prop}(h:eY m n rk gx){a:Int}(ha:0<=a/\a<m)(hr:rk a= -1):a=0:=by
 have ht:=h.rt;have hn:=h.n0;refine nA fun e=>?_
 by_cases e2:a=(m:Int) - 1
 ·subst e2;omega
 have:=h.ri a (by omega) (by omega);omega
theorem eY.whole{m:Nat}{n:Int}{rk:Int->Int}{gx:Int->Int->Prop}(h:eY m n rk gx){a:Int}(ha:0<=a/\a<m)(hr:rk a=n):a=(m:Int) - 1:=by
 have h0:=h.r0;have hn:=h.n0;refine nA fun e=>?_
 by_cases e2:a=0
 ·subst e2;omega
 have:=h.ri a (by omega) (by omega);omega
section
variable {m1 m2:Nat} {n1 n2:Int} {rk1 rk2:Int->Int} {cO cL:Int->Int->Prop}
theorem Zm(h1:eY m1 n1 rk1 cO)(h2:eY m2 n2 rk2 cL)(d1:wk m1 rk1 cO)(d2:wk m2 rk2 cL){a1 a2 b1 b2:Int}(iI:0<=a1/\a1<m1)(iE:0<=a2/\a2<m2)(df:0<=b1/\b1<m1)(eC:0<=b2/\b2<m2)(xa:cO a1 b1)(jx:cL a2 b2)(hr:rk1 b1+rk2 b2=rk1 a1+rk2 a2+2):
 ∃x y:Int×Int,x≠y/\∀c:Int×Int,((0<=c.1/\c.1<m1)/\(0<=c.2/\c.2<m2)/\(cO a1 c.1/\cL a2 c.2)/\(cO c.1 b1/\cL c.2 b2)/\rk1 c.1+rk2 c.2=rk1 a1+rk2 a2+1)↔(c=x\/c=y):=by
 have q1:=h1.ry iI df xa;have q2:=h2.ry iE eC jx;rcases(show(rk1 b1=rk1 a1+2/\rk2 b2=rk2 a2)\/(rk1 b1=rk1 a1+1/\rk2 b2=rk2 a2+1)\/(rk1 b1=rk1 a1/\rk2 b2=rk2 a2+2) by omega)with⟨r1,r2⟩ | ⟨r1,r2⟩ | ⟨r1,r2⟩
 ·obtain rfl:=h2.same iE eC jx (by omega);obtain⟨x,y,jT,hc⟩:=d1 a1 b1 iI df xa r1;refine⟨(x,a2),(y,a2),fun e=>jT (aK Prod.fst e),fun c=>?_⟩;constructor
  ·rintro⟨i1,i2,⟨u1,u2⟩,⟨v1,v2⟩,rc⟩;have e2:=h2.same iE i2 u2 (h2.ry i2 iE v2);have:=(hc c.1).1 ⟨i1,u1,v1,by rw [<-e2]at rc;omega⟩;rcases this with h | h
   ·left;rw [<-h,e2]
   right;rw [<-h,e2]
  rintro(rfl | rfl)
  ·obtain⟨i,u,v,rc⟩:=(hc x).2 (.inl rfl);exact⟨i,iE,⟨u,h2.refl _⟩,⟨v,h2.refl _⟩,by show rk1 x+rk2 a2=_;omega⟩
  obtain⟨i,u,v,rc⟩:=(hc y).2 (.inr rfl);exact⟨i,iE,⟨u,h2.refl _⟩,⟨v,h2.refl _⟩,by show rk1 y+rk2 a2=_;omega⟩
 ·have ne1:a1≠b1:=fun e=>by rw [e]at r1;omega
  refine⟨(a1,b2),(b1,a2),fun e=>ne1 (aK Prod.fst e),fun c=>?_⟩;constructor
  ·rintro⟨i1,i2,⟨u1,u2⟩,⟨v1,v2⟩,rc⟩;have p1:=h1.ry iI i1 u1;have p2:=h1.ry i1 df v1;have p3:=h2.ry iE i2 u2;have p4:=h2.ry i2 eC v2
   by_cases e:rk1 c.1=rk1 a1
   ·left;have e1:=h1.same iI i1 u1 (by omega);have e2:=h2.same i2 eC v2 (by omega);exact Prod.ext e1.symm e2
   right;have e1:=h1.same i1 df v1 (by omega);have e2:=h2.same iE i2 u2 (by omega);exact Prod.ext e1 e2.symm
  rintro(rfl | rfl)
  ·exact⟨iI,eC,⟨h1.refl _,jx⟩,⟨xa,h2.refl _⟩,by show rk1 a1+rk2 b2=_;omega⟩
  exact⟨df,iE,⟨xa,h2.refl _⟩,⟨h1.refl _,jx⟩,by show rk1 b1+rk2 a2=_;omega⟩
 obtain rfl:=h1.same iI df xa (by omega);obtain⟨x,y,jT,hc⟩:=d2 a2 b2 iE eC jx r2;refine⟨(a1,x),(a1,y),fun e=>jT (aK Prod.snd e),fun c=>?_⟩;constructor
 ·rintro⟨i1,i2,⟨u1,u2⟩,⟨v1,v2⟩,rc⟩;have e1:=h1.same iI i1 u1 (h1.ry i1 iI v1);have:=(hc c.2).1 ⟨i2,u2,v2,by rw [<-e1]at rc;omega⟩;rcases this with h | h
  ·left;rw [<-h,e1]
  right;rw [<-h,e1]
 rintro(rfl | rfl)
 ·obtain⟨i,u,v,rc⟩:=(hc x).2 (.inl rfl);exact⟨iI,i,⟨h1.refl _,u⟩,⟨h1.refl _,v⟩,by show rk1 a1+rk2 x=_;omega⟩
 obtain⟨i,u,v,rc⟩:=(hc y).2 (.inr rfl);exact⟨iI,i,⟨h1.refl _,u⟩,⟨h1.refl _,v⟩,by show rk1 a1+rk2 y=_;omega⟩
def qh(m1 m2:Nat)(kind:Int)(c:Int×Int):Prop:=(kind=1/\(c.1=0\/c.2=0))\/(kind=2/\(c.1=(m1:Int) - 1\/c.2=(m2:Int) - 1))
instance (m1 m2:Nat)(kind:Int)(c:Int×Int):Decidable (qh m1 m2 kind c):=by unfold qh;infer_instance
def fC(kind:Int):Int:=if kind=1 then 0 else 1
def cS(rk1 rk2:Int->Int)(kind:Int)(c:Int×Int):Int:=rk1 c.1+rk2 c.2+fC kind
def fT(n1 n2 kind:Int):Int:=if kind=0 then n1+n2+1 else n1+n2
def jJ(m1 m2:Nat)(rk1 rk2:Int->Int)(kind:Int)(i:Int)(c:Int×Int):Prop:=(0<=c.1/\c.1<m1)/\(0<=c.2/\c.2<m2)/\cS rk1 rk2 kind c=i/\¬qh m1 m2 kind c
theorem ahA(h1:eY m1 n1 rk1 cO)(h2:eY m2 n2 rk2 cL)(d1:wk m1 rk1 cO)(d2:wk m2 rk2 cL){kind:Int}(hk:0<=kind/\kind<=2){i:Int}(hi:0<=i)(pO:i<fT n1 n2 kind)(hn:2<=fT n1 n2 kind)
 (a b:Option (Int×Int)) (ha:match a with | none=>i=0 | some a=>0<i/\jJ m1 m2 rk1 rk2 kind (i - 1) a) (hb:match b with | none=>i=fT n1 n2 kind - 1 | some b=>i<fT n1 n2 kind - 1/\jJ m1 m2 rk1 rk2 kind (i+1) b)
 (eG:∀x∈a,∀y∈b,cO x.1 y.1/\cL x.2 y.2) (yj:1<=n1/\(1<=n2\/kind=0)):
 ∃x y:Int×Int,x≠y/\∀c:Int×Int,(jJ m1 m2 rk1 rk2 kind i c/\(∀x∈a,cO x.1 c.1/\cL x.2 c.2)/\∀y∈b,cO c.1 y.1/\cL c.2 y.2)↔(c=x\/c=y):=by
 have z1:=h1.r0;have z2:=h2.r0;have t1:=h1.rt;have t2:=h2.rt;have w1:=h1.two;have w2:=h2.two;have m1n:=h1.n0;have m2n:=h2.n0;have main:∀a1 a2 b1 b2:Int,0<=a1/\a1<m1->0<=a2/\a2<m2->0<=b1/\b1<m1->0<=b2/\b2<m2->cO a1 b1->cL a2 b2->cS rk1 rk2 kind (a1,a2)=i - 1->cS rk1 rk2 kind (b1,b2)=i+1->
  (∀c1 c2:Int,0<=c1/\c1<m1->0<=c2/\c2<m2->cO a1 c1->cL a2 c2->cO c1 b1->cL c2 b2->cS rk1 rk2 kind (c1,c2)=i->¬qh m1 m2 kind (c1,c2))->
  ∃x y:Int×Int,x≠y/\∀c:Int×Int,(jJ m1 m2 rk1 rk2 kind i c/\(cO a1 c.1/\cL a2 c.2)/\cO c.1 b1/\cL c.2 b2)↔(c=x\/c=y):=by
  intro a1 a2 b1 b2 iI iE df eC xa jx ra rb hex;unfold cS at ra rb hex;obtain⟨x,y,jT,hc⟩:=Zm h1 h2 d1 d2 iI iE df eC xa jx (by simp only at ra rb;omega);refine⟨x,y,jT,fun c=>?_⟩;rw [<-hc c];unfold jJ cS;simp only at ra rb;constructor
  ·rintro⟨⟨i1,i2,rc,_⟩,⟨u1,u2⟩,v1,v2⟩;exact⟨i1,i2,⟨u1,u2⟩,⟨v1,v2⟩,by omega⟩
  ·rintro⟨i1,i2,⟨u1,u2⟩,⟨v1,v2⟩,rc⟩;exact⟨⟨i1,i2,by omega,hex c.1 c.2 i1 i2 u1 u2 v1 v2 (by show rk1 c.1+rk2 c.2+fC kind=i;omega)⟩,⟨u1,u2⟩,v1,v2⟩
 have TC:∀c:Int×Int,(∀x∈a,cO x.1 c.1/\cL x.2 c.2)↔(cO (a.getD (0,0)).1 c.1/\cL (a.getD (0,0)).2 c.2):=fun c=>by
  cases a with
  | none=>simp [h1.bot,h2.bot]
  | some a=>simp
 have ad7:∀c:Int×Int,(∀y∈b,cO c.1 y.1/\cL c.2 y.2)↔(cO c.1 (b.getD ((m1:Int) - 1,(m2:Int) - 1)).1/\cL c.2 (b.getD ((m1:Int) - 1,(m2:Int) - 1)).2):=fun c=>by
  cases b with
  | none=>simp [h1.top,h2.top]
  | some b=>simp
 have TE:cO (a.getD (0,0)).1 (b.getD ((m1:Int) - 1,(m2:Int) - 1)).1/\cL (a.getD (0,0)).2 (b.getD ((m1:Int) - 1,(m2:Int) - 1)).2:=by
  cases a with
  | none=>exact⟨h1.bot _,h2.bot _⟩
  | some a=>
   cases b with
   | none=>exact⟨h1.top _,h2.top _⟩
   | some b=>exact eG a rfl b rfl
 have IY:(0<=(a.getD (0,0)).1/\(a.getD (0,0)).1<m1)/\(0<=(a.getD (0,0)).2/\(a.getD (0,0)).2<m2):=by
  cases a with
  | none=>simp only [Option.getD_none];omega
  | some a=>exact⟨ha.2.1,ha.2.2.1⟩
 have Us:(0<=(b.getD ((m1:Int) - 1,(m2:Int) - 1)).1/\(b.getD ((m1:Int) - 1,(m2:Int) - 1)).1<m1)/\(0<=(b.getD ((m1:Int) - 1,(m2:Int) - 1)).2/\(b.getD ((m1:Int) - 1,(m2:Int) - 1)).2<m2):=by
  cases b with
  | none=>simp only [Option.getD_none];omega
  | some b=>exact⟨hb.2.1,hb.2.2.1⟩
 have adR:kind=0->fC kind=1:=fun h=>by subst h;rfl
 have adS:kind=1->fC kind=0:=fun h=>by subst h;rfl
 have adT:kind=2->fC kind=1:=fun h=>by subst h;rfl
 have adK:kind=0->fT n1 n2 kind=n1+n2+1:=fun h=>by subst h;rfl
 have T8:kind≠0->fT n1 n2 kind=n1+n2:=fun h=>by unfold fT;rw [if_neg h]
 have use:cS rk1 rk2 kind (a.getD (0,0))=i - 1->cS rk1 rk2 kind (b.getD ((m1:Int) - 1,(m2:Int) - 1))=i+1->
  (∀c1 c2:Int,0<=c1/\c1<m1->0<=c2/\c2<m2->cO (a.getD (0,0)).1 c1->cL (a.getD (0,0)).2 c2->cO c1 (b.getD ((m1:Int) - 1,(m2:Int) - 1)).1->cL c2 (b.getD ((m1:Int) - 1,(m2:Int) - 1)).2->cS rk1 rk2 kind (c1,c2)=i->¬qh m1 m2 kind (c1,c2))->
  ∃x y:Int×Int,x≠y/\∀c:Int×Int,(jJ m1 m2 rk1 rk2 kind i c/\(∀x∈a,cO x.1 c.1/\cL x.2 c.2)/\∀y∈b,cO c.1 y.1/\cL c.2 y.2)↔(c=x\/c=y):=by
  intro ra rb hex;obtain⟨x,y,jT,hc⟩:=main _ _ _ _ IY.1 IY.2 Us.1 Us.2 TE.1 TE.2 ra rb hex;refine⟨x,y,jT,fun c=>?_⟩;rw [<-hc c,TC c,ad7 c]
 rcases(show kind=0\/kind=1\/kind=2 by omega)with sP | fv | gW
 ·have s0:=adR sP;have r0:=adK sP;refine use ?_ ?_ ?_
  ·cases a with
   | none=>show rk1 0+rk2 0+fC kind=i - 1;have:i=0:=ha;omega
   | some a=>exact ha.2.2.2.1
  ·cases b with
   | none=>show rk1 ((m1:Int) - 1)+rk2 ((m2:Int) - 1)+fC kind=i+1;have:i=fT n1 n2 kind - 1:=hb;omega
   | some b=>exact hb.2.2.2.1
  ·intro c1 c2 _ _ _ _ _ _ _ he;unfold qh at he;omega
 ·have s1:=adS fv;have r1:=T8 (show kind≠0 by omega);cases a with
  | some a=>
   have bt:¬qh m1 m2 kind a:=ha.2.2.2.2;refine use ha.2.2.2.1 ?_ ?_
   ·cases b with
    | none=>show rk1 ((m1:Int) - 1)+rk2 ((m2:Int) - 1)+fC kind=i+1;have:i=fT n1 n2 kind - 1:=hb;omega
    | some b=>exact hb.2.2.2.1
   ·intro c1 c2 i1 i2 u1 u2 _ _ _ he;have u1:cO a.1 c1:=u1;have u2:cL a.2 c2:=u2;unfold qh at he bt;rcases he with⟨_,e | e⟩ | ⟨e,_⟩
    ·have e:c1=0:=e;subst e;have q1:=h1.ry ha.2.1 (by omega) u1;have q2:=h1.dp ha.2.1;have:=h1.zero ha.2.1 (by omega);exact bt (.inl ⟨fv,.inl this⟩)
    ·have e:c2=0:=e;subst e;have q1:=h2.ry ha.2.2.1 (by omega) u2;have q2:=h2.dp ha.2.2.1;have:=h2.zero ha.2.2.1 (by omega);exact bt (.inl ⟨fv,.inr this⟩)
    ·omega
  | none=>
   have fG:i=0:=ha;cases b with
   | none=>have:i=fT n1 n2 kind - 1:=hb;omega
   | some b=>
    obtain⟨_,df,eC,rb,qv⟩:=hb;unfold cS at rb;have p1:b.1≠0:=fun e=>qv (.inl ⟨fv,.inl e⟩)
    have p2:b.2≠0:=fun e=>qv (.inl ⟨fv,.inr e⟩)
    have V4:∀c,0<=c/\c< (m1:Int)->c≠0->0<=rk1 c:=fun c hc h0=>by
     have h3:=h1.dp hc;have h4:=h1.zero hc;omega
    have V5:∀c,0<=c/\c< (m2:Int)->c≠0->0<=rk2 c:=fun c hc h0=>by
     have h3:=h2.dp hc;have h4:=h2.zero hc;omega
    have g1:=V4 b.1 df p1;have g2:=V5 b.2 eC p2;have eqv:∀c:Int×Int,(jJ m1 m2 rk1 rk2 kind i c/\(∀x∈(none:Option (Int×Int)),cO x.1 c.1/\cL x.2 c.2)/\∀y∈some b,cO c.1 y.1/\cL c.2 y.2)↔((0<=c.1/\c.1<m1)/\(0<=c.2/\c.2<m2)/\rk1 c.1=0/\rk2 c.2=0/\cO c.1 b.1/\cL c.2 b.2):=fun c=>by
     constructor
     ·rintro⟨⟨i1,i2,rc,zJ⟩,_,hv⟩;have hv:=hv b O;unfold cS at rc;have f1:=V4 c.1 i1 fun e=>zJ (.inl ⟨fv,.inl e⟩)
      have f2:=V5 c.2 i2 fun e=>zJ (.inl ⟨fv,.inr e⟩)
      exact⟨i1,i2,by omega,by omega,hv.1,hv.2⟩
     ·rintro⟨i1,i2,f1,f2,v1,v2⟩;refine⟨⟨i1,i2,by unfold cS;omega,?_⟩,(fun x hx=>by cases hx),fun y hy=>by cases hy;exact⟨v1,v2⟩⟩;rintro(⟨_,e | e⟩ | ⟨e,_⟩)
      ·rw [e]at f1;omega
      ·rw [e]at f2;omega
      ·omega
    rcases(show(rk1 b.1=1/\rk2 b.2=0)\/(rk1 b.1=0/\rk2 b.2=1) by omega)with⟨e1,e2⟩ | ⟨e1,e2⟩
    ·obtain⟨x,y,jT,hc⟩:=d1 0 b.1 (by omega) df (h1.bot _) (by omega);refine⟨(x,b.2),(y,b.2),fun e=>jT (aK Prod.fst e),fun c=>?_⟩;rw [eqv c];constructor
     ·rintro⟨i1,i2,f1,f2,v1,v2⟩;have h3:=h2.same i2 eC v2 (by omega);rcases(hc c.1).1 ⟨i1,h1.bot _,v1,by omega⟩with h | h
      ·left;rw [<-h,<-h3]
      ·right;rw [<-h,<-h3]
     ·rintro(rfl | rfl)
      ·obtain⟨i,u,v,rc⟩:=(hc x).2 (.inl rfl);exact⟨i,eC,by show rk1 x=0;omega,e2,v,h2.refl _⟩
      ·obtain⟨i,u,v,rc⟩:=(hc y).2 (.inr rfl);exact⟨i,eC,by show rk1 y=0;omega,e2,v,h2.refl _⟩
    ·obtain⟨x,y,jT,hc⟩:=d2 0 b.2 (by omega) eC (h2.bot _) (by omega);refine⟨(b.1,x),(b.1,y),fun e=>jT (aK Prod.snd e),fun c=>?_⟩;rw [eqv c];constructor
     ·rintro⟨i1,i2,f1,f2,v1,v2⟩;have h3:=h1.same i1 df v1 (by omega);rcases(hc c.2).1 ⟨i2,h2.bot _,v2,by omega⟩with h | h
      ·left;rw [<-h,<-h3]
      ·right;rw [<-h,<-h3]
     ·rintro(rfl | rfl)
      ·obtain⟨i,u,v,rc⟩:=(hc x).2 (.inl rfl);exact⟨df,i,e1,by show rk2 x=0;omega,h1.refl _,v⟩
      ·obtain⟨i,u,v,rc⟩:=(hc y).2 (.inr rfl);exact⟨df,i,e1,by show rk2 y=0;omega,h1.refl _,v⟩
 ·have s2:=adT gW;have r2:=T8 (show kind≠0 by omega);have NW:∀c,0<=c/\c< (m1:Int)->c≠(m1:Int) - 1->rk1 c<=n1 - 1:=fun c hc h0=>by
   have h3:=h1.dp hc;have h4:=h1.whole hc;omega
  have NX:∀c,0<=c/\c< (m2:Int)->c≠(m2:Int) - 1->rk2 c<=n2 - 1:=fun c hc h0=>by
   have h3:=h2.dp hc;have h4:=h2.whole hc;omega
  cases b with
  | some b=>
   have bt:¬qh m1 m2 kind b:=hb.2.2.2.2;have g1:=NW b.1 hb.2.1 fun e=>bt (.inr ⟨gW,.inl e⟩)
   have g2:=NX b.2 hb.2.2.1 fun e=>bt (.inr ⟨gW,.inr e⟩)
   refine use ?_ hb.2.2.2.1 ?_
   ·cases a with
    | none=>show rk1 0+rk2 0+fC kind=i - 1;have:i=0:=ha;omega
    | some a=>exact ha.2.2.2.1
   ·intro c1 c2 i1 i2 _ _ v1 v2 _ he;have v1:cO c1 b.1:=v1;have v2:cL c2 b.2:=v2;have q1:=h1.ry i1 hb.2.1 v1;have q2:=h2.ry i2 hb.2.2.1 v2;unfold qh at he;rcases he with⟨e,_⟩ | ⟨_,e | e⟩
    ·omega
    ·have e:c1=(m1:Int) - 1:=e;rw [e]at q1;omega
    ·have e:c2=(m2:Int) - 1:=e;rw [e]at q2;omega
  | none=>
   have IU:i=fT n1 n2 kind - 1:=hb;cases a with
   | none=>have:i=0:=ha;omega
   | some a=>
    obtain⟨_,iI,iE,ra,uO⟩:=ha;unfold cS at ra;have g1:=NW a.1 iI fun e=>uO (.inr ⟨gW,.inl e⟩)
    have g2:=NX a.2 iE fun e=>uO (.inr ⟨gW,.inr e⟩)
    have eqv:∀c:Int×Int,(jJ m1 m2 rk1 rk2 kind i c/\(∀x∈some a,cO x.1 c.1/\cL x.2 c.2)/\∀y∈(none:Option (Int×Int)),cO c.1 y.1/\cL c.2 y.2)↔((0<=c.1/\c.1<m1)/\(0<=c.2/\c.2<m2)/\rk1 c.1=n1 - 1/\rk2 c.2=n2 - 1/\cO a.1 c.1/\cL a.2 c.2):=fun c=>by
     constructor
     ·rintro⟨⟨i1,i2,rc,zJ⟩,hu,_⟩;have hu:=hu a O;unfold cS at rc;have f1:=NW c.1 i1 fun e=>zJ (.inr ⟨gW,.inl e⟩)
      have f2:=NX c.2 i2 fun e=>zJ (.inr ⟨gW,.inr e⟩)
      exact⟨i1,i2,by omega,by omega,hu.1,hu.2⟩
     ·rintro⟨i1,i2,f1,f2,v1,v2⟩;refine⟨⟨i1,i2,by unfold cS;omega,?_⟩,(fun x hx=>by cases hx;exact⟨v1,v2⟩),fun y hy=>by cases hy⟩;rintro(⟨e,_⟩ | ⟨_,e | e⟩)
      ·omega
      ·rw [e]at f1;omega
      ·rw [e]at f2;omega
    rcases(show(rk1 a.1=n1 - 1/\rk2 a.2=n2 - 2)\/(rk1 a.1=n1 - 2/\rk2 a.2=n2 - 1) by omega)with⟨e1,e2⟩ | ⟨e1,e2⟩
    ·obtain⟨x,y,jT,hc⟩:=d2 a.2 ((m2:Int) - 1) iE (by omega) (h2.top _) (by omega);refine⟨(a.1,x),(a.1,y),fun e=>jT (aK Prod.snd e),fun c=>?_⟩;rw [eqv c];constructor
     ·rintro⟨i1,i2,f1,f2,v1,v2⟩;have h3:=h1.same iI i1 v1 (by omega);rcases(hc c.2).1 ⟨i2,v2,h2.top _,by omega⟩with h | h
      ·left;rw [<-h,h3]
      ·right;rw [<-h,h3]
     ·rintro(rfl | rfl)
      ·obtain⟨i,u,v,rc⟩:=(hc x).2 (.inl rfl);exact⟨iI,i,e1,by show rk2 x=n2 - 1;omega,h1.refl _,u⟩
      ·obtain⟨i,u,v,rc⟩:=(hc y).2 (.inr rfl);exact⟨iI,i,e1,by show rk2 y=n2 - 1;omega,h1.refl _,u⟩
    ·obtain⟨x,y,jT,hc⟩:=d1 a.1 ((m1:Int) - 1) iI (by omega) (h1.top _) (by omega);refine⟨(x,a.2),(y,a.2),fun e=>jT (aK Prod.fst e),fun c=>?_⟩;rw [eqv c];constructor
     ·rintro⟨i1,i2,f1,f2,v1,v2⟩;have h3:=h2.same iE i2 v2 (by omega);rcases(hc c.1).1 ⟨i1,v1,h1.top _,by omega⟩with h | h
      ·left;rw [<-h,h3]
      ·right;rw [<-h,h3]
     ·rintro(rfl | rfl)
      ·obtain⟨i,u,v,rc⟩:=(hc x).2 (.inl rfl);exact⟨i,iE,by show rk1 x=n1 - 1;omega,e2,u,h2.refl _⟩
      ·obtain⟨i,u,v,rc⟩:=(hc y).2 (.inr rfl);exact⟨i,iE,by show rk1 y=n1 - 1;omega,e2,u,h2.refl _⟩
end
def eS(n:Int)(R:ai):ai:= -1::(R++ [n])
def dJ(N:Nat)(B:ah)(a b:Int):Prop:=a=b\/a=0\/b=(N:Int)+1\/(0<a/\a< (N:Int)+1/\0<b/\b< (N:Int)+1/\a - 1∈gl B (b - 1))
instance (N:Nat)(B:ah)(a b:Int):Decidable (dJ N B a b):=by unfold dJ;infer_instance
theorem Rk(n:Int)(R:ai):(eS n R).length=R.length+2:=by simp [eS]
theorem uE(n:Int)(R:ai){a:Int}(h0:0<a)(h1:a< (R.length:Int)+1):gi (eS n R) a=gi R (a - 1):=by
 obtain⟨k,rfl⟩:∃k:Nat,a=((k+1:Nat):Int):=⟨(a - 1).toNat,by omega⟩;rw [eS,Dh,show((k+1:Nat):Int) - 1=(k:Int) by omega];simp only [gi,gI,dd];rw [mq (by omega)]
theorem xK(n:Int)(R:ai):gi (eS n R) ((R.length:Int)+1)=n:=by
 rw [show((R.length:Int)+1)=((R.length+1:Nat):Int) by omega,eS,Dh];simp [gi,dd]
theorem GA{n:Int}{R:ai}{B:ah}(h:gE n R B):eY (R.length+2) n (gi (eS n R)) (dJ R.length B):=by
 have hn:=h.n1;have ht:=xK n R;have et:((R.length+2:Nat):Int) - 1=(R.length:Int)+1:=by omega
 have nk:∀a:Int,0<a->a< (R.length:Int)+1->0<=gi (eS n R) a/\gi (eS n R) a<=n - 1:=fun a h0 h1=>by
  rw [uE n R h0 h1];exact h.ri (by omega) (by omega)
 have h0:gi (eS n R) 0= -1:=O;refine⟨by omega,h0,by rw [et];exact ht,fun a ha hb=>nk a ha (by omega),fun a=> .inl O,fun a b c ha hb hc eG BJ=>?_,fun a b ha hb eG bt=>?_,fun b=> .inr (.inl O),fun a=> .inr (.inr (.inl et)),by omega⟩
 ·rcases eG with rfl | e | e | ⟨a0,a1,b0,b1,hm⟩
  ·exact BJ
  ·exact .inr (.inl e)
  ·rcases BJ with rfl | e2 | e2 | ⟨b0,b1,_⟩
   ·exact .inr (.inr (.inl e))
   ·omega
   ·exact .inr (.inr (.inl e2))
   omega
  rcases BJ with rfl | e2 | e2 | ⟨_,_,c0,c1,qW⟩
  ·exact .inr (.inr (.inr ⟨a0,a1,b0,b1,hm⟩))
  ·omega
  ·exact .inr (.inr (.inl e2))
  exact .inr (.inr (.inr ⟨a0,a1,c0,c1,(h.at_ (e:=c - 1) (by omega) (by omega)).2.2 _ qW _ hm⟩))
 rcases eG with e | e | e | ⟨a0,a1,b0,b1,hm⟩
 ·exact absurd e bt
 ·subst e;rw [h0]
  by_cases e2:b=(R.length:Int)+1
  ·subst e2;omega
  have:=nk b (by omega) (by omega);omega
 ·subst e;rw [ht]
  by_cases e2:a=0
  ·subst e2;omega
  have:=nk a (by omega) (by omega);omega
 rw [uE n R a0 a1,uE n R b0 b1];exact((h.at_ (e:=b - 1) (by omega) (by omega)).2.1 _ hm).2
theorem sV:eY 2 0 (gi [-1,0]) (dJ 0 []):=by
 refine⟨by omega,O,O,fun a h0 h1=>by omega,fun a=> .inl O,fun a b c ha hb hc eG BJ=>?_,fun a b ha hb eG bt=>?_,fun b=> .inr (.inl O),fun a=> .inr (.inr (.inl O)),by omega⟩
 ·by_cases e:a=0
  ·exact .inr (.inl e)
  by_cases e2:c=1
  ·exact .inr (.inr (.inl e2))
  rcases eG with rfl | e3 | e3 | ⟨_,_,_,_,hm⟩
  ·exact BJ
  ·omega
  ·rcases BJ with rfl | e4 | e4 | ⟨_,_,_,_,hm⟩
   ·exact .inr (.inr (.inl e3))
   ·omega
   ·exact .inr (.inr (.inl e4))
   exact absurd hm (by simp [gl])
  exact absurd hm (by simp [gl])
 rcases eG with e | e | e | ⟨_,_,_,_,hm⟩
 ·exact absurd e bt
 ·subst e;obtain rfl:b=1:=by omega
  decide
 ·obtain rfl:b=1:=e;obtain rfl:a=0:=by omega
  decide
 exact absurd hm (by simp [gl])
theorem QT:wk 2 (gi [-1,0]) (dJ 0 []):=fun a b ha hb hu hr=>by
 have e:∀a:Int,0<=a/\a< (2:Nat)->gi [-1,0] a=a - 1:=fun a ha=>by
  rcases(show a=0\/a=1 by omega)with rfl | rfl<;>rfl
 rw [e a ha,e b hb]at hr;omega
def rF(R:ai)(i e:Int):Prop:=(e= -1/\i=0)\/((0<=e/\e<R.length)/\0<i/\gi R e=i - 1)
def oQ(n:Int)(R:ai)(i f:Int):Prop:=(f= -1/\i=n - 1)\/((0<=f/\f<R.length)/\i<n - 1/\gi R f=i+1)
def jZ(R:ai)(B:ah)(i e f:Int):ai:=(bN R.length).filter fun d=>decide (gi R d=i/\(e<0\/e∈gl B d)/\(f<0\/d∈gl B f))
def th(n:Int)(R:ai)(B:ah):Prop:=∀i e f:Int,0<=i->i<n->rF R i e->oQ n R i f->(0<=e->0<=f->e∈gl B f)->(jZ R B i e f).length=2
theorem zg{R:ai}{B:ah}{i e f d:Int}:d∈jZ R B i e f↔(0<=d/\d<R.length)/\gi R d=i/\(e<0\/e∈gl B d)/\(f<0\/d∈gl B f):=by
 unfold jZ;rw [fU,fM,kz]
theorem Xa{l:ai}(hn:l.Nodup)(h:l.length=2):∃x y,x≠y/\∀c,c∈l↔(c=x\/c=y):=by
 match l,h with
 | [x,y],_=>exact⟨x,y,by simpa using hn,fun c=>by simp⟩
theorem CN(R:ai)(B:ah)(i e f:Int):(jZ R B i e f).Nodup:=((lh _).nodup).filter _
theorem De{n:Int}{R:ai}{B:ah}(h:gE n R B)(hd:th n R B):wk (R.length+2) (gi (eS n R)) (dJ R.length B):=by
 have L:=GA h;have ht:=xK n R;have h0:gi (eS n R) 0= -1:=O;have nk:∀a:Int,0<a->a< (R.length:Int)+1->(0<=gi (eS n R) a/\gi (eS n R) a<=n - 1)/\gi (eS n R) a=gi R (a - 1):=fun a h0 h1=>by
  have e:=uE n R h0 h1;refine⟨?_,e⟩;rw [e];exact h.ri (by omega) (by omega)
 intro a b ha hb hu hr;have ra:=L.dp ha;have rb:=L.dp hb;have hn:=h.n1;have FM:a≠(R.length:Int)+1:=fun e=>by rw [e,ht]at hr;omega
 have dX:b≠0:=fun e=>by rw [e,h0]at hr;omega
 have dS:rF R (gi (eS n R) a+1) (a - 1):=by
  by_cases e:a=0
  ·subst e;exact .inl ⟨rfl,by rw [h0];rfl⟩
  have:=nk a (by omega) (by omega);exact .inr ⟨by omega,by omega,by omega⟩
 have cI:oQ n R (gi (eS n R) a+1) (if b=(R.length:Int)+1 then -1 else b - 1):=by
  by_cases e:b=(R.length:Int)+1
  ·rw [ay e];rw [e,ht]at hr;exact .inl ⟨rfl,by omega⟩
  rw [aw e];have:=nk b (by omega) (by omega);exact .inr ⟨by omega,by omega,by omega⟩
 have eG:0<=a - 1->0<=(if b=(R.length:Int)+1 then -1 else b - 1)->a - 1∈gl B (if b=(R.length:Int)+1 then -1 else b - 1):=fun h1 h2=>by
  by_cases e:b=(R.length:Int)+1
  ·rw [ay e]at h2;omega
  rw [aw e];rcases hu with e2 | e2 | e2 | ⟨_,_,_,_,hm⟩
  ·rw [e2]at hr;omega
  ·omega
  ·exact absurd e2 e
  exact hm
 have h2:=hd _ _ _ (by omega) (by omega) dS cI eG;obtain⟨x,y,jT,hc⟩:=Xa (CN _ _ _ _ _) h2;refine⟨x+1,y+1,by omega,fun c=>?_⟩;have e1:(c=x+1\/c=y+1)↔(c - 1=x\/c - 1=y):=by omega
 rw [e1,<-hc (c - 1),zg];constructor
 ·rintro⟨Ms,u1,u2,rc⟩;have c0:c≠0:=fun e=>by rw [e,h0]at rc;omega
  have ct:c≠(R.length:Int)+1:=fun e=>by rw [e,ht]at rc;omega
  have hm:=nk c (by omega) (by omega);refine⟨by omega,by omega,?_,?_⟩
  ·rcases u1 with e | e | e | ⟨_,_,_,_,h9⟩
   ·rw [e]at rc;omega
   ·left;omega
   ·exact absurd e ct
   exact .inr h9
  by_cases e:b=(R.length:Int)+1
  ·left;rw [ay e];omega
  rw [aw e];rcases u2 with e2 | e2 | e2 | ⟨_,_,_,_,h9⟩
  ·rw [e2]at rc;omega
  ·exact absurd e2 c0
  ·exact absurd e2 e
  exact .inr h9
 rintro⟨Ms,rc,u1,u2⟩;have hm:=nk c (by omega) (by omega);refine⟨by omega,?_,?_,by omega⟩
 ·rcases u1 with e | e
  ·exact .inr (.inl (by omega))
  have:0<a:=by
   refine Int.not_le.1 fun hle=>?_
   have:=((h.at_ (e:=c - 1) (by omega) (by omega)).2.1 _ e).1.1;omega
  exact .inr (.inr (.inr ⟨this,by omega,by omega,by omega,e⟩))
 by_cases e:b=(R.length:Int)+1
 ·exact .inr (.inr (.inl e))
 rw [aw e]at u2;rcases u2 with e2 | e2
 ·omega
 exact .inr (.inr (.inr ⟨by omega,by omega,by omega,by omega,e2⟩))
section
variable (m1 m2:Nat) (rk1 rk2:Int->Int) (kind:Int)
def v7(i:Int):List (Int×Int):=(bN m1).flatMap fun a=> ((bN m2).filter fun b=>decide (cS rk1 rk2 kind (a,b)=i/\¬qh m1 m2 kind (a,b))).map fun b=> (a,b)
def cg:Nat->List (Int×Int)
 | 0=> []
 | k+1=>cg k++v7 m1 m2 rk1 rk2 kind (k:Int)
end
section
variable {m1 m2:Nat} {rk1 rk2:Int->Int} {kind:Int}
theorem xh{i:Int}{c:Int×Int}:c∈v7 m1 m2 rk1 rk2 kind i↔jJ m1 m2 rk1 rk2 kind i c:=by
 unfold v7 jJ;rw [List.mem_flatMap];constructor
 ·rintro⟨a,ha,h⟩;obtain⟨b,hb,rfl⟩:=dv.1 h;rw [fU,fM,kz]at hb;exact⟨(fM _ _).1 ha,hb.1,hb.2⟩
 rintro⟨h1,h2,h3⟩;exact⟨c.1,(fM _ _).2 h1,dv.2 ⟨c.2,fU.2 ⟨(fM _ _).2 h2,eP h3⟩,O⟩⟩
theorem ahu(i:Int):(v7 m1 m2 rk1 rk2 kind i).Nodup:=by
 unfold v7;refine List.pairwise_flatMap.2 ⟨fun a _=>nB.2 (((lh m2).nodup.filter _).imp fun h e=>h (aK Prod.snd e)),(lh m1).nodup.imp fun h x hx y hy e=>h ?_⟩;obtain⟨u,_,rfl⟩:=dv.1 hx;obtain⟨v,_,rfl⟩:=dv.1 hy;exact aK Prod.fst e
theorem ru{k:Nat}{c:Int×Int}:c∈cg m1 m2 rk1 rk2 kind k↔∃i:Nat,i<k/\jJ m1 m2 rk1 rk2 kind i c:=by
 induction k with
 | zero=>simp [cg]
 | succ k ih=>
  rw [cg,iR,ih,xh];constructor
  ·rintro(⟨i,hi,h⟩ | h)
   ·exact⟨i,by omega,h⟩
   ·exact⟨k,by omega,h⟩
  ·rintro⟨i,hi,h⟩
   by_cases e:i=k
   ·subst e;exact .inr h
   ·exact .inl ⟨i,by omega,h⟩
theorem Cw(k:Nat):(cg m1 m2 rk1 rk2 kind k).Nodup:=by
 induction k with
 | zero=>exact List.nodup_nil
 | succ k ih=>
  rw [cg,List.nodup_append];refine⟨ih,ahu _,fun a ha b hb e=>?_⟩;subst e;obtain⟨i,hi,h⟩:=ru.1 ha;have h2:=xh.1 hb;have:=h.2.2.1.symm.trans h2.2.2.1;omega
theorem V8(k:Nat):tf ((cg m1 m2 rk1 rk2 kind k).map (cS rk1 rk2 kind)):=by
 induction k with
 | zero=>exact List.Pairwise.nil
 | succ k ih=>
  rw [cg,jm,tf,List.pairwise_append];refine⟨ih,nB.2 (List.pairwise_of_forall_mem_list fun a ha b hb=>?_),fun x hx y hy=>?_⟩
  ·rw [(xh.1 ha).2.2.1,(xh.1 hb).2.2.1];exact Int.le_refl _
  ·obtain⟨a,ha,rfl⟩:=dv.1 hx;obtain⟨b,hb,rfl⟩:=dv.1 hy;obtain⟨i,hi,h⟩:=ru.1 ha;rw [h.2.2.1,(xh.1 hb).2.2.1];omega
end
def gp(L:List (Int×Int))(i:Int):Int×Int:=L.getD i.toNat (0,0)
theorem qM{L:List (Int×Int)}{k:Nat}(h:k<L.length):gp L k=L[k]:=by simp [gp,dd,h]
def tY(cO cL:Int->Int->Prop)[DecidableRel cO][DecidableRel cL](L:List (Int×Int))(e:Int):ai:=(bN L.length).filter fun f=>decide (f<e/\cO (gp L f).1 (gp L e).1/\cL (gp L f).2 (gp L e).2)
def oJ(cO cL:Int->Int->Prop)[DecidableRel cO][DecidableRel cL](L:List (Int×Int)):ah:=(bN L.length).map (tY cO cL L)
section
variable{i:Nat}
variable {m1 m2:Nat} {n1 n2:Int} {rk1 rk2:Int->Int} {cO cL:Int->Int->Prop} [DecidableRel cO] [DecidableRel cL] {kind:Int}
theorem u9{L:List (Int×Int)}{e:Int}(h0:0<=e)(h1:e<L.length):gl (oJ cO cL L) e=tY cO cL L e:=by
 obtain⟨k,rfl⟩:∃k:Nat,e=k:=⟨e.toNat,by omega⟩;rw [cK (by simp [oJ,bN];omega)];unfold oJ;rw [List.getElem_map]
 congr 1
 simp [bN]
theorem yG{L:List (Int×Int)}{e:Int}(h0:0<=e)(h1:e<L.length):gi (L.map (cS rk1 rk2 kind)) e=cS rk1 rk2 kind (gp L e):=by
 obtain⟨k,rfl⟩:∃k:Nat,e=k:=⟨e.toNat,by omega⟩;rw [cd (by simp;omega),qM (by omega)];simp
theorem tZ(h1:eY m1 n1 rk1 cO)(h2:eY m2 n2 rk2 cL){k:Nat}{e d:Int}(he:0<=e/\e< (cg m1 m2 rk1 rk2 kind k).length):d∈tY cO cL (cg m1 m2 rk1 rk2 kind k) e↔(0<=d/\d< (cg m1 m2 rk1 rk2 kind k).length)/\d≠e/\cO (gp (cg m1 m2 rk1 rk2 kind k) d).1 (gp (cg m1 m2 rk1 rk2 kind k) e).1/\cL (gp (cg m1 m2 rk1 rk2 kind k) d).2 (gp (cg m1 m2 rk1 rk2 kind k) e).2:=by
 unfold tY;rw [fU,fM,kz];constructor
 ·rintro⟨hd,gB,hu⟩;exact⟨hd,by omega,hu⟩
 rintro⟨hd,bt,hu⟩;refine⟨hd,?_,hu⟩;obtain⟨i,rfl⟩:∃i:Nat,d=i:=⟨d.toNat,by omega⟩;obtain⟨j,rfl⟩:∃j:Nat,e=j:=⟨e.toNat,by omega⟩;refine Int.not_le.1 fun hle=>?_
 have ha:=V8 (m1:=m1) (m2:=m2) (rk1:=rk1) (rk2:=rk2) (kind:=kind) k;have h3:=ha.le (i:=j) (j:=i) (by omega) (by simp;omega);rw [yG (by omega) he.2,yG (by omega) hd.2]at h3;have mi:=qM (L:=cg m1 m2 rk1 rk2 kind k) (k:=i) (by omega);have mj:=qM (L:=cg m1 m2 rk1 rk2 kind k) (k:=j) (by omega);obtain⟨a,_,ea⟩:=ru.1 (mi▸dH _:gp (cg m1 m2 rk1 rk2 kind k) i∈cg m1 m2 rk1 rk2 kind k);obtain⟨b,_,eb⟩:=ru.1 (mj▸dH _:gp (cg m1 m2 rk1 rk2 kind k) j∈cg m1 m2 rk1 rk2 kind k);have q1:=h1.ry ea.1 eb.1 hu.1;have q2:=h2.ry ea.2.1 eb.2.1 hu.2;unfold cS at h3;have e1:=h1.same ea.1 eb.1 hu.1 (by omega);have e2:=h2.same ea.2.1 eb.2.1 hu.2 (by omega);have e3:gp (cg m1 m2 rk1 rk2 kind k) i=gp (cg m1 m2 rk1 rk2 kind k) j:=Prod.ext e1 e2;rw [mi,mj]at e3;have:=(List.getElem_inj (Cw k)).1 e3;omega
theorem wG{k:Nat}{e:Int}(he:0<=e/\e< (cg m1 m2 rk1 rk2 kind k).length):∃i:Nat,i<k/\jJ m1 m2 rk1 rk2 kind i (gp (cg m1 m2 rk1 rk2 kind k) e)/\gi ((cg m1 m2 rk1 rk2 kind k).map (cS rk1 rk2 kind)) e=i:=by
 obtain⟨j,rfl⟩:∃j:Nat,e=j:=⟨e.toNat,by omega⟩;have mj:=qM (L:=cg m1 m2 rk1 rk2 kind k) (k:=j) (by omega);obtain⟨i,hi,h⟩:=ru.1 (mj▸dH _:gp (cg m1 m2 rk1 rk2 kind k) j∈cg m1 m2 rk1 rk2 kind k);exact⟨i,hi,h,by rw [yG (by omega) (by omega)];exact h.2.2.1⟩
theorem K6{k:Nat}{c:Int×Int}(hi:i<k)(h:jJ m1 m2 rk1 rk2 kind i c):∃e:Int,(0<=e/\e< (cg m1 m2 rk1 rk2 kind k).length)/\gp (cg m1 m2 rk1 rk2 kind k) e=c:=by
 obtain⟨j,hj,e⟩:=fV.1 (ru.2 ⟨i,hi,h⟩);exact⟨j,by omega,by rw [qM hj];exact e⟩
theorem Ia{k:Nat}{d e:Int}(hd:0<=d/\d< (cg m1 m2 rk1 rk2 kind k).length)(he:0<=e/\e< (cg m1 m2 rk1 rk2 kind k).length)(h:gp (cg m1 m2 rk1 rk2 kind k) d=gp (cg m1 m2 rk1 rk2 kind k) e):d=e:=by
 obtain⟨i,rfl⟩:∃i:Nat,d=i:=⟨d.toNat,by omega⟩;obtain⟨j,rfl⟩:∃j:Nat,e=j:=⟨e.toNat,by omega⟩;rw [qM (by omega),qM (by omega)]at h;have:=(List.getElem_inj (Cw k)).1 h;omega
theorem Wf(h1:eY m1 n1 rk1 cO)(h2:eY m2 n2 rk2 cL){k:Nat}(hk:1<=k/\k<=5)(hb:(cg m1 m2 rk1 rk2 kind k).length<=500):gE k ((cg m1 m2 rk1 rk2 kind k).map (cS rk1 rk2 kind)) (oJ cO cL (cg m1 m2 rk1 rk2 kind k)):=by
 have hl:((cg m1 m2 rk1 rk2 kind k).map (cS rk1 rk2 kind)).length=(cg m1 m2 rk1 rk2 kind k).length:=by simp
 refine⟨by omega,by rw [hl];exact hb,by simp [oJ,bN],fun x hx=>?_,V8 k,fun e he=>?_,fun e he d hd c hc=>?_⟩
 ·obtain⟨c,hc,rfl⟩:=dv.1 hx;obtain⟨i,hi,h⟩:=ru.1 hc;rw [h.2.2.1];omega
 ·rw [hl]at he;rw [u9 (by omega) (by omega)];refine⟨qj _ (lh _),fun d hd=>?_⟩;have hm:=(tZ h1 h2 (by omega)).1 hd;refine⟨by rw [hl];exact hm.1,?_⟩;have gB:d< (e:Int):=by
   unfold tY at hd;rw [fU,kz]at hd;exact hd.2.1
  obtain⟨i,_,ei,ri⟩:=wG (m1:=m1) (m2:=m2) (rk1:=rk1) (rk2:=rk2) (kind:=kind) (k:=k) (e:=d) hm.1;obtain⟨j,_,ej,rj⟩:=wG (m1:=m1) (m2:=m2) (rk1:=rk1) (rk2:=rk2) (kind:=kind) (k:=k) (e:=(e:Int)) (by omega);rw [yG hm.1.1 hm.1.2,yG (by omega) (by omega)];have q1:=h1.ry ei.1 ej.1 hm.2.2.1;have q2:=h2.ry ei.2.1 ej.2.1 hm.2.2.2;unfold cS;refine Int.not_le.1 fun hle=>hm.2.1 (Ia hm.1 (by omega) (Prod.ext (h1.same ei.1 ej.1 hm.2.2.1 (by omega)) (h2.same ei.2.1 ej.2.1 hm.2.2.2 (by omega))))
 rw [hl]at he;rw [u9 (by omega) (by omega)]at hd|-;have sJ:=(tZ h1 h2 (by omega)).1 hd;rw [u9 sJ.1.1 sJ.1.2]at hc;have oz:=(tZ h1 h2 sJ.1).1 hc;have l1:d< (e:Int):=by unfold tY at hd;rw [List.mem_filter,decide_eq_true_eq]at hd;exact hd.2.1
 have l2:c<d:=by unfold tY at hc;rw [List.mem_filter,decide_eq_true_eq]at hc;exact hc.2.1
 obtain⟨_,_,ec,_⟩:=wG (m1:=m1) (m2:=m2) (rk1:=rk1) (rk2:=rk2) (kind:=kind) (k:=k) (e:=c) oz.1;obtain⟨_,_,ed,_⟩:=wG (m1:=m1) (m2:=m2) (rk1:=rk1) (rk2:=rk2) (kind:=kind) (k:=k) (e:=d) sJ.1;obtain⟨_,_,ee,_⟩:=wG (m1:=m1) (m2:=m2) (rk1:=rk1) (rk2:=rk2) (kind:=kind) (k:=k) (e:=(e:Int)) (by omega);exact(tZ h1 h2 (by omega)).2 ⟨oz.1,by omega,h1.trans _ _ _ ec.1 ed.1 ee.1 oz.2.2.1 sJ.2.2.1,h2.trans _ _ _ ec.2.1 ed.2.1 ee.2.1 oz.2.2.2 sJ.2.2.2⟩
theorem Oq(h1:eY m1 n1 rk1 cO)(h2:eY m2 n2 rk2 cL)(d1:wk m1 rk1 cO)(d2:wk m2 rk2 cL)(nj:0<=kind/\kind<=2){k:Nat}(hk:(k:Int)=fT n1 n2 kind)(gW:2<=k)(yj:1<=n1/\(1<=n2\/kind=0)):th k ((cg m1 m2 rk1 rk2 kind k).map (cS rk1 rk2 kind)) (oJ cO cL (cg m1 m2 rk1 rk2 kind k)):=by
 have hl:((cg m1 m2 rk1 rk2 kind k).map (cS rk1 rk2 kind)).length=(cg m1 m2 rk1 rk2 kind k).length:=by simp
 intro i e f fG kU he hf FV;have MA:∀x:Int,0<=x/\x< (cg m1 m2 rk1 rk2 kind k).length->jJ m1 m2 rk1 rk2 kind (gi ((cg m1 m2 rk1 rk2 kind k).map (cS rk1 rk2 kind)) x) (gp (cg m1 m2 rk1 rk2 kind k) x):=fun x hx=>by
  obtain⟨j,_,h,r⟩:=wG hx;rw [r];exact h
 generalize hL:cg m1 m2 rk1 rk2 kind k=L at*;obtain⟨x,y,jT,hc⟩:=ahA h1 h2 d1 d2 nj (i:=i) fG (by omega) (by omega) (if e<0 then none else some (gp L e)) (if f<0 then none else some (gp L f)) (by
  rcases he with⟨h,h'⟩ | ⟨h,h',xO⟩
  ·rw [ay (by omega)];exact h'
  rw [hl]at h;rw [aw (by omega)];exact⟨h',by rw [<-xO];exact MA e h⟩)
  (by
    rcases hf with⟨h,h'⟩ | ⟨h,h',xO⟩
    ·rw [ay (by omega)];show i=fT n1 n2 kind - 1;omega
    rw [hl]at h;rw [aw (by omega)];exact⟨by omega,by rw [<-xO];exact MA f h⟩)
  (by
    intro a ha b hb
    by_cases e0:e<0
    ·rw [ay e0]at ha;cases ha
    by_cases f0:f<0
    ·rw [ay f0]at hb;cases hb
    rw [aw e0]at ha;rw [aw f0]at hb;cases ha;cases hb;have pN:0<=f/\f<L.length:=by
     rcases hf with⟨h,_⟩ | ⟨h,_⟩
     ·omega
     rw [hl]at h;exact h
    have h9:=FV (by omega) (by omega);rw [u9 pN.1 pN.2]at h9;subst hL;exact((tZ h1 h2 pN).1 h9).2.2)
  yj
 have Tt:∀c,jJ m1 m2 rk1 rk2 kind i c->∃d:Int,(0<=d/\d<L.length)/\gp L d=c:=fun c Mn=>by
  subst hL;exact K6 (i:=i.toNat) (by omega) (by rw [Int.toNat_of_nonneg fG];exact Mn)
 have kV:∀d:Int,d∈jZ (L.map (cS rk1 rk2 kind)) (oJ cO cL L) i e f↔(0<=d/\d<L.length)/\(gp L d=x\/gp L d=y):=fun d=>by
  rw [zg,hl];constructor
  ·rintro⟨hd,rd,u,v⟩;refine⟨hd,(hc _).1 ⟨by rw [<-rd];exact MA d hd,fun a ha=>?_,fun b hb=>?_⟩⟩
   ·by_cases e0:e<0
    ·rw [ay e0]at ha;cases ha
    rw [aw e0]at ha;cases ha;have h9:=u.resolve_left e0;rw [u9 hd.1 hd.2]at h9;subst hL;exact((tZ h1 h2 hd).1 h9).2.2
   by_cases f0:f<0
   ·rw [ay f0]at hb;cases hb
   rw [aw f0]at hb;cases hb;have pN:0<=f/\f<L.length:=by
    rcases hf with⟨h,_⟩ | ⟨h,_⟩
    ·omega
    rw [hl]at h;exact h
   have h9:=v.resolve_left f0;rw [u9 pN.1 pN.2]at h9;subst hL;exact((tZ h1 h2 pN).1 h9).2.2
  rintro⟨hd,aef⟩;obtain⟨hE,ha,hb⟩:=(hc _).2 aef;have rd:gi (L.map (cS rk1 rk2 kind)) d=i:=by rw [yG hd.1 hd.2];exact hE.2.2.1
  refine⟨hd,rd,?_,?_⟩
  ·by_cases e0:e<0
   ·exact .inl e0
   right;have h9:=ha (gp L e) (by rw [aw e0];rfl);have MB:(0<=e/\e<L.length)/\gi (L.map (cS rk1 rk2 kind)) e=i - 1:=by
    rcases he with⟨h,_⟩ | ⟨h,_,xO⟩
    ·omega
    rw [hl]at h;exact⟨h,xO⟩
   rw [u9 hd.1 hd.2];subst hL;exact(tZ h1 h2 hd).2 ⟨MB.1,fun h=>by rw [h,rd]at MB;omega,h9⟩
  by_cases f0:f<0
  ·exact .inl f0
  right;have h9:=hb (gp L f) (by rw [aw f0];rfl);have pN:(0<=f/\f<L.length)/\gi (L.map (cS rk1 rk2 kind)) f=i+1:=by
   rcases hf with⟨h,_⟩ | ⟨h,_,xO⟩
   ·omega
   rw [hl]at h;exact⟨h,xO⟩
  rw [u9 pN.1.1 pN.1.2];subst hL;exact(tZ h1 h2 pN.1).2 ⟨hd,fun h=>by rw [<-h,rd]at pN;omega,h9⟩
 obtain⟨dx,Tg,ex⟩:=Tt x ((hc x).2 (.inl rfl)).1;obtain⟨dy,Th,ey⟩:=Tt y ((hc y).2 (.inr rfl)).1;have bt:dx≠dy:=fun h=>jT (by rw [<-ex,<-ey,h])
 have hp:(jZ (L.map (cS rk1 rk2 kind)) (oJ cO cL L) i e f).Perm [dx,dy]:=by
  refine(rE (CN _ _ _ _ _) (by simpa using bt)).2 fun d=>?_
  rw [kV d];simp only [jn,List.not_mem_nil,or_false];constructor
  ·rintro⟨hd,h | h⟩
   ·left;subst hL;exact Ia hd Tg (h.trans ex.symm)
   right;subst hL;exact Ia hd Th (h.trans ey.symm)
  rintro(rfl | rfl)
  ·exact⟨Tg,.inl ex⟩
  exact⟨Th,.inr ey⟩
 rw [hp.length_eq];rfl
end
end Go.Proofs.YtopgfgdgfjddpaaGreatDoor.Vc
namespace Go.Proofs.YtopgfgdgfjddpaaGreatDoor.Vc
open Go.RowKit Tryz
structure CV where
 s:aQ
 v:Int
section
variable {w0 w:aa} {ks:List Ck} {i:Nat} {t:ae} {A:aj} {k q:Nat} {cs:List CV}
theorem St.YT(h:St w0 w ks)(cs:List ad)(e:ae)(n c:Nat)(hn:n<=c)(hc:c<=cs.length)(hm:c<=maxLen)(hM:fw cs=false):St w0 (w.alloc (.cells cs.toArray e)) (⟨some ⟨w.heap.size,0,Option.none⟩,n,c,e,cs.take n⟩::ks):=by
 have hb:Below w.heap.size w (w.alloc (.cells cs.toArray e)):=(Below.refl _ _).alloc (bB _) _;have h1:=h.aq hb;refine⟨h1.below,fun k hk=>?_,?_⟩
 ·rcases jn.1 hk with rfl | hk
  ·refine .s5 (UJ n hM) ⟨by simp;omega,hn,hm,.inr ⟨_,0,cs.toArray,O,h.below.size,heap_alloc_new w _,by simp;omega,fun j hj=>?_⟩⟩;have hj:j<n:=hj;simp [tl,hj]
  exact h1.own k hk
 simp only [List.filterMap_cons,Ck.iX,Option.map_some,oS];refine⟨fun db=>?_,h.apart⟩;obtain⟨k',eM,yg⟩:=List.mem_filterMap.1 db;have:=((h.own k' eM).lt yg).2;omega
theorem VU{α:Type}:∀(l:List α) (i:Nat) (x y:α),l[i]?=some y->(x::l).Perm (y::l.set i x)
 | [],i,x,y,h=>by simp at h
 | u::l,0,x,y,h=>by simp at h;subst h;exact List.Perm.swap _ _ _
 | u::l,i+1,x,y,h=>by
  simp only [List.getElem?_cons_succ]at h;simp only [List.set_cons_succ];exact(List.Perm.swap _ _ _).trans (((VU l i x y h).cons u).trans (List.Perm.swap _ _ _))
end
section
variable {P:Program} {N:Nat} {ops:Array Oper} {K:Env->aa->Prop} {rest:List Oper} {e:Env} {w0 w w':aa} {ks:List Ck} {d:Nat} {ty:ae} {pos:String} {af:Array Edge}
end
structure TV where
 f:Int
 g:Int
 r:Int
def TV.cs(x:TV):List ad:=[ak x.f,ak x.g,ak x.r]
def TV.v(x:TV):ad:= .agg #[ak x.f,ak x.g,ak x.r]
def O3:TV:=⟨0,0,0⟩
def tg(l:List TV)(i:Int):TV:=l.getD i.toNat O3
def fQ:List TV->List ad
 | []=> []
 | x::r=> .int .i64 x.f:: .int .i64 x.g:: .int .i64 x.r::fQ r
theorem E7:∀l:List TV,(fQ l).length=3*l.length
 | []=>rfl
 | x::r=>by
  simp only [fQ,List.length_cons];rw [E7 r];omega
theorem Lh:∀a b:List TV,fQ (a++b)=fQ a++fQ b
 | [],_=>rfl
 | x::r,b=>by
  simp only [List.cons_append,fQ];rw [Lh r b]
theorem Rx:∀ {l:List TV} {i:Nat} (h:i<l.length),(fQ l)[3*i]?=some (ak l[i].f)/\(fQ l)[3*i+1]?=some (ak l[i].g)/\(fQ l)[3*i+2]?=some (ak l[i].r)
 | x::r,0,_=> ⟨rfl,rfl,rfl⟩
 | x::r,i+1,h=>by
  have:=Rx (l:=r) (i:=i) (by simpa using h);simp only [fQ,List.getElem_cons_succ];rw [show 3* (i+1)=3*i+1+1+1 by omega];simpa using this
theorem Rz:∀(l:List TV) (i:Nat),(fQ l).take (3*i)=fQ (l.take i)
 | [],i=>by simp [fQ]
 | x::r,0=>rfl
 | x::r,i+1=>by
  rw [show 3* (i+1)=3*i+1+1+1 by omega];simp only [fQ,List.take_succ_cons];rw [Rz r i]
theorem Ry:∀ {l:List TV} {i:Nat} (_:i<l.length) (v:TV),s9 (fQ l) (3*i) v.cs=fQ (l.set i v)
 | x::r,0,_,v=>rfl
 | x::r,i+1,h,v=>by
  have:=Ry (l:=r) (i:=i) (by simpa using h) v;have e:∀(a b c:ad) (t:List ad) (o:Nat) (vs:List ad),s9 (a::b::c::t) (o+3) vs=a::b::c::s9 t o vs:=by
   intro a b c t o vs
   induction vs generalizing t o with
   | nil=>rfl
   | cons v vs ih=>
    rw [s9,s9];rw [show(a::b::c::t).set (o+3) v=a::b::c::t.set o v from rfl,show o+3+1=(o+1)+3 by omega,ih]
  rw [show 3* (i+1)=3*i+3 by omega,fQ,e,this]
  rfl
theorem D0(l:List TV):fw (fQ l)=false:=by cases l<;>rfl
def eJ(t:ae)(A:aj)(k q:Nat)(cs:List TV):Ck:=⟨A,3*k,min (3*q) maxLen,t,fQ cs⟩
def sw(w:aa)(A:aj)(k:Nat)(cs:List TV):Prop:=cs.length=k/\Rd w A (3*k) (fun j=> (fQ cs).getD j undef)
theorem sw.aq{w w':aa}{A:aj}{k:Nat}{cs:List TV}(h:sw w A k cs)(hb:Below w.heap.size w w'):sw w' A k cs:=⟨h.1,Rd.below h.2 hb⟩
section
variable {w0 w:aa} {ks:List Ck} {i:Nat} {t:ae} {A:aj} {k q:Nat} {cs:List TV}
theorem St.kK(h:St w0 w ks)(i:Nat)(hk:ks[i]?=some (eJ t A k q cs)):sw w A k cs:=by
 have h1:(fQ cs).length=3*k:=(h.sD hk (D0 _)).1;rw [E7]at h1;exact⟨by omega,h.rd i hk⟩
theorem St.QB(h:St w0 w ks)(i:Nat)(hk:ks[i]?=some (eJ t A k q cs)):k<=q/\3*k<=maxLen:=by
 have h1:3*k<=min (3*q) maxLen:=(h.get hk).cap.1;omega
theorem sw.take{l:Nat}(h:sw w A k cs)(hl:l<=k):sw w A l (cs.take l):=by
 have h1:=h.1;refine⟨by rw [qF];omega,fun j hj=>?_⟩;obtain⟨p,hp,hc⟩:=h.2 j (by omega);refine⟨p,hp,?_⟩;rw [hc,<-Rz];simp [dd,tl,hj]
theorem sw.at_(h:sw w A k cs){j:Nat}(hj:j<k):Rd w (aB A (j*3)) 3 (fun m=> ((cs[j]'(by rw [h.1];exact hj)).cs).getD m undef):=by
 have hl:j<cs.length:=by rw [h.1];exact hj
 have:=(h.2.behind (o:=j*3) (m:=3) (by omega));refine this.congr fun m hm=>?_
 have hg:=Rx hl;rcases(show m=0\/m=1\/m=2 by omega)with rfl | rfl | rfl
 ·rw [show j*3+0=3*j by omega,dd,hg.1];rfl
 ·rw [show j*3+1=3*j+1 by omega,dd,hg.2.1];rfl
 rw [show j*3+2=3*j+2 by omega,dd,hg.2.2];rfl
theorem Xv{z z0 z1 z2:ad}(hz:z.cells= #[z0,z1,z2])(m:Nat):(Builtin.zeroCells z.cells m).toList.length=3*m:=by
 rw [hz];simp [Builtin.zeroCells];omega
end
section
variable{t T te:ae}{x ix dt x0 y x1 x2:ag}{v0 v1 v2 z z0 z1 z2 y0 y1 y2:ad}{b c' b0 b1 b2:Nat}{A':aj}{i h:Int}
variable {P:Program} {N:Nat} {ops:Array Oper} {K:Env->aa->Prop} {rest:List Oper} {e:Env} {w0 w w':aa} {ks:List Ck} {d:Nat} {ty:ae} {pos:String} {af:Array Edge}
theorem mW{el:ae}(hS:St w0 w ks)(hx:ev e x= .agg #[v0,v1,v2])(hb:Nat.blt d N=true)(hK:∀A w',St w0 w' (Bx el 3 A [v0,v1,v2]::ks)->ao P N ops K rest (bG e d (.pointer A)) w')(hM:fw [v0,v1,v2]=false:=by rfl):ao P N ops K (⟨some d,.box el x,ty,pos,af,none⟩::rest) e w:= .Hz hS hx hb rfl hK hM
theorem alD{el:ae}[bV P t (.slice el)][bR P el z 3 b]{A:aj}{n c:Nat}{k:IntKind}{cs:List TV}(hR:sw w A n cs)(hx:ev e x= .slice A n c)(hy:ev e ix= .int k i)(hb:Nat.blt d N=true)(h0:0<=i)(h1:i< (n:Int))(hK:ao P N ops K rest (bG e d (.pointer (aB A (i.toNat*3)))) w):
 ao P N ops K (⟨some d,.indexAddr t x ix,ty,pos,af,none⟩::rest) e w:=by
 obtain⟨p,hp,_⟩:=hR.2 i.toNat (by omega);obtain⟨q,rfl⟩:∃q,A=some q:=by cases A with | none=>simp [aB]at hp | some q=>exact⟨q,rfl⟩
 obtain⟨inf,hi,_,hs,_⟩:=bR.get P el;refine .val (w':=w) ?_ hb hK;simp [execOp,Instr.indexAt,hx,hy,asIntOf,run_underlying (bV.out (P:=P) (t:=t)),h0,h1,sizeOf,typeInfo,hi,hs,aB]
theorem lq{el:ae}[bV P t (.slice el)][bR P el z 3 b]{A:aj}{n c:Nat}{k:IntKind}{cs:List TV}(hR:sw w A n cs)(q9:(ev e x,ev e ix,Nat.blt d N)=(.slice A n c,.int k i,true))(hK:ao P N ops K rest (bG e d (.pointer (aB A (i.toNat*3)))) w)(h0:0<=i:=by omega)(h1:i< (n:Int):=by omega):ao P N ops K (⟨some d,.indexAddr t x ix,ty,pos,af,none⟩::rest) e w:=alD hR (congrArg (fun p=>p.1) q9) (congrArg (fun p=>p.2.1) q9) (congrArg (fun p=>p.2.2) q9) h0 h1 hK
theorem Yb{el:ae}[hU:bV P t (.slice el)][bR P el z 3 b]{A:aj}{n c:Nat}{k:IntKind}(hx:ev e x= .slice A n c)(hh:ev e dt= .int k h)(hb:Nat.blt d N=true)(h0:0<=h/\h<=(c:Int))(hK:ao P N ops K rest (bG e d (.slice A h.toNat c)) w):ao P N ops K (⟨some d,.slice t x none (some dt) none,ty,pos,af,none⟩::rest) e w:=by
 obtain⟨inf,hi,fS,hs,jv⟩:=bR.get P el;refine .val (w':=w) ?_ hb hK;have:=run_sliceBound (P:=P) w k h c .sliceAcap h0.1 h0.2;have hA:A.map (fun x=>x.add 0)=A:=by cases A<;>simp [Addr.add]
 simp [execOp,hx,hh,Instr.sliceAt,run_underlying hU.out,Instr.slice,Instr.sliceBounds,this,sizeOf,typeInfo,hi,hs,hA]
theorem X6{el:ae}[bV P t (.slice el)][bR P el z 3 b]{v:TV}(hS:St w0 w ks)(h0:ev e x0=v.v)(hz:z.cells= #[z0,z1,z2])(hb:Nat.blt d N=true)(hK:∀A w',St w0 w' (eJ el A 1 1 [v]::ks)->ao P N ops K rest (bG e d (.slice A 1 1)) w'):ao P N ops K (⟨some d,.buildSlice t 1 #[(0,x0)],ty,pos,af,none⟩::rest) e w:=by
 obtain⟨inf,hi,fS,hs,jv⟩:=bR.get P el;refine .val (w':=w.alloc (.cells #[ak v.f,ak v.g,ak v.r] el)) ?_ hb (hK _ _ (hS.alloc [ak v.f,ak v.g,ak v.r] el (by simp [maxLen]) O));simp [execOp,Instr.buildSlice,run_underlying (bV.out (P:=P) (t:=t)),sizeOf,typeInfo,zeroValue,hi,hs,fS,hz,Instr.fill,newRow,h0,ES,nZ,Value.cells,TV.v]
theorem ais{el:ae}[hU:bV P t (.slice el)][bR P el z 3 b](hz:z.cells= #[z0,z1,z2]){A:aj}{n c:Nat}{cs:List TV}(i:Nat)(hS:St w0 w ks)(hk:ks[i]?=some (eJ el A n c cs)){m:Nat}{ds:List TV}(hR:sw w A' m ds)
 (vt:3* (n+m)<=maxLen) (tI:(n+m)*b<=140737488355328) (ty:ae):
 ∃A2 c2 w',(Builtin.append_ #[t,t] ty #[.slice A n c,.slice A' m c']).run P w= .ok (.slice A2 (n+m) c2) w'/\St w0 w' (ks.set i (eJ el A2 (n+m) c2 (cs++ds))):=by
 obtain⟨inf,hi,fS,hs,jv⟩:=bR.get P el;have Ge:=hS.sD hk (D0 _);have lQ:=hS.QB i hk;have da:=(hS.kK i hk).1;obtain⟨hl,rU,oz,h4⟩:=Ge;have BQ:=(iQ.1 hk).1
 by_cases hm:m=0
 ·subst hm;have BK:ds=[]:=uq hR.1;subst BK;refine⟨A,c,w,?_,?_⟩
  ·cases A' with
   | none=>cases A<;>simp [Builtin.append_,run_underlying hU.out,sizeOf,typeInfo,hi,Builtin.lenOf,Builtin.firstCells,lQ.1,storeCells]
   | some a=>
    cases A<;>simp [Builtin.append_,run_underlying hU.out,sizeOf,typeInfo,hi,Builtin.lenOf,Builtin.firstCells,lQ.1,storeCells,loadCells,loadCellsFrom]
  ·rw [eu,Nat.add_zero];have:ks.set i (eJ el A n c cs)=ks:=by
    apply List.ext_getElem?;intro j;rw [pA]
    split
    ·rename_i e;subst e;rw [hk]
     try simp [BQ]
    ·rfl
   rw [this];exact hS
 ·obtain⟨a,rfl⟩:∃a,A'=some a:=by
   obtain⟨p,hp,_⟩:=hR.2 0 (by omega);cases A' with | none=>simp [aB]at hp | some q=>exact⟨q,rfl⟩
  have iZ:(fQ ds).length=m*3:=by rw [E7,hR.1];omega
  have yk:∀j v,(fQ ds)[j]?=some v->w.cell? (a.add j)=some v:=by
   intro j v hj;have wO:j<3*m:=by have:=(iQ.1 hj).1;omega
   obtain⟨p,hp,hc⟩:=hR.2 j wO;simp only [aB,Option.map_some,qo]at hp;rw [hp,hc];show some ((fQ ds).getD j undef)=some v;rw [dd,hj]
   rfl
  have xQ:∀u∈fQ ds,u.oneCell'=true:=by
   intro u hu;obtain⟨j,hj,rfl⟩:=fV.1 hu;have gen:∀(l:List TV),∀u∈fQ l,u.oneCell'=true:=by
    intro l
    induction l with
    | nil=>intro u h;cases h
    | cons x l ih=>
     intro u h;simp only [fQ,jn]at h;rcases h with rfl | rfl | rfl | h
     ·rfl
     ·rfl
     ·rfl
     ·exact ih u h
   exact gen ds _ (dH hj)
  have Tc:(fQ cs).length=3*n:=by rw [E7,da]
  have fresh:∀(xs:List ad) (c2:Nat),n+m<=c2->xs.length=3*c2->xs.take (3* (n+m))=fQ cs++fQ ds->fw xs=false->
   St w0 (w.drew.alloc (.cells xs.toArray el)) (ks.set i (eJ el (some ⟨w.heap.size,0,none⟩) (n+m) c2 (cs++ds))):=by
   intro xs c2 h5 h7 h8 h9;have hA:=hS.drew.YT xs el (3* (n+m)) (min (3*c2) maxLen) (by omega) (by omega) (by omega) h9;rw [h8,<-Lh]at hA;exact(hA.perm (VU ks i _ _ hk)).tail
  have LL:((n+m:Nat):Int)<=9223372036854775807:=by simp only [maxLen]at vt;omega
  have h63n:n+m<=maxLen:=by omega
  rcases h4 with⟨hA,h0⟩ | ⟨g,o,cur,hA,hg,hh,nN,hc⟩
  ·have hA:A=none:=hA;subst hA;have h0:min (3*c) maxLen=0:=h0;have nJ:c=0:=by simp only [maxLen]at h0;omega
   have qx:n=0:=by omega
   subst nJ qx;have yp:cs=[]:=uq da;subst yp;have hr:=run_append_nil (P:=P) w t ty el inf z hU.out hi fS a m c' (fQ ds) (by rw [iZ,hs]) yk (by omega) (by omega) (by rw [jv];rw [Nat.zero_add]at tI;omega);have wN:=grownCap_ge w m 0 el;have vT:=Xv hz (grownCap w m 0 el - m);refine⟨some ⟨w.heap.size,0,none⟩,grownCap w m 0 el,_,?_,fresh (fQ ds++ (Builtin.zeroCells z.cells (grownCap w m 0 el - m)).toList) (grownCap w m 0 el) (by omega) (by rw [dI,vT,iZ];omega) (by
    rw [ze (by omega),lp (by omega)]
    rfl) (Gx (D0 _) (by intro hn;rw [hn]at iZ;simp at iZ;omega))⟩
   rw [Nat.zero_add,hr]
   congr 3
   apply Array.ext';simp
  ·have hA:A=some ⟨g,o,none⟩:=hA;have hh:w.heap[g]?=some (.cells cur el (0,0)):=hh;have nN:o+min (3*c) maxLen<=cur.size:=nN;have hc:∀j,j<3*n->cur[o+j]?=(fQ cs)[j]?:=hc
   by_cases Gk:n+m<=c
   ·have hf:=run_firstCells_some (P:=P) w inf.size m a m c' (fQ ds) (by rw [iZ,hs]) yk;have ax:=run_storeCells_at P g (o+3*n) el (fQ ds) 0 cur w hh (by rw [iZ];omega) xQ;simp only [Nat.add_zero]at ax;refine⟨some ⟨g,o,none⟩,c,w.setRow g (cur.toList.take (o+3*n)++fQ ds++cur.toList.drop (o+3*n+ (fQ ds).length)).toArray,?_,hS.turn (k:=eJ el A n c cs) (k':=eJ el (some ⟨g,o,none⟩) (n+m) c (cs++ds)) (g:=g) hk (by simp [Ck.iX,eJ,hA]) (by simp [Ck.iX,eJ]) ?_ ?_⟩
    ·rw [hA];rw [hs]at hf;simp [Builtin.append_,run_underlying hU.out,sizeOf,typeInfo,hi,hs,Builtin.lenOf,Gk,Addr.add_lit,hf];rw [show n*3=3*n by omega];simp [ax]
    ·exact⟨⟨O,O,O,by simp,fun x _ hx=>setRow_other w g x _ (fun e=>hx (by rw [e]))⟩,bB _⟩
    ·refine .s5 (D0 _) ⟨by show(fQ (cs++ds)).length=3* (n+m);rw [E7,dI,da,hR.1],by show 3* (n+m)<=min (3*c) maxLen;omega,oz,.inr ⟨g,o,_,O,hg,setRow_heap w g cur _ el _ hh,?_,fun j hj=>?_⟩⟩
     ·show o+min (3*c) maxLen<=_;simp;omega
     ·have ll:j<3* (n+m):=hj;show((cur.toList.take (o+3*n)++fQ ds++cur.toList.drop (o+3*n+ (fQ ds).length)).toArray)[o+j]?=(fQ (cs++ds))[j]?;rw [Lh];have hcl2:cur.toList.length=cur.size:=by simp
      rw [List.getElem?_toArray]
      by_cases uT:j<3*n
      ·rw [gN,mq (by simp;omega),tl,ay (by omega),mq (by omega)];rw [Array.getElem?_toList];exact hc j uT
      ·rw [gN,kN (by simp;omega),mq (by simp;omega),kN (by omega)]
       congr 1
       simp;omega
   ·have holds:∀j v,(fQ cs)[j]?=some v->w.cell? ((⟨g,o,none⟩:Addr).add j)=some v:=by
     intro j v hj;have uT:j<3*n:=by have:=(iQ.1 hj).1;omega
     rw [CT];simp only [World.cell?,hh];simpa [hc j uT]using hj
    have hr:=run_append_grow (P:=P) w t ty el inf z hU.out hi fS ⟨g,o,none⟩ n c (fQ cs) (by rw [Tc,hs];omega) holds a m c' (fQ ds) (by rw [iZ,hs]) yk (by omega) LL (growslice_fits (by omega) (by rw [jv];exact tI));have wN:=grownCap_ge w (n+m) c el;have vT:=Xv hz (grownCap w (n+m) c el - (n+m));refine⟨some ⟨w.heap.size,0,none⟩,grownCap w (n+m) c el,_,?_,fresh (fQ cs++fQ ds++ (Builtin.zeroCells z.cells (grownCap w (n+m) c el - (n+m))).toList) (grownCap w (n+m) c el) (by omega) (by rw [dI,dI,vT,iZ,Tc];omega) (by
     rw [ze (by rw [dI];omega),lp (by rw [dI];omega)]) (Gx (UI (D0 _) (D0 _)) (by intro hn;have:=aK List.length hn;rw [dI,iZ]at this;simp at this;omega))⟩
    rw [hA,hr]
    congr 3
    apply Array.ext';simp
theorem XZ{el:ae}[hU:bV P t (.slice el)][bR P el z 3 b](i:Nat){A:aj}{n c:Nat}{cs:List TV}{m:Nat}{ds:List TV}(hS:St w0 w ks)(hk:ks[i]?=some (eJ el A n c cs))(hR:sw w A' m ds)(hx:ev e x= .slice A n c)(hy:ev e y= .slice A' m c')(hz:z.cells= #[z0,z1,z2])(vt:n+m<=3074457345618258602)(tI:(n+m)*b<=140737488355328)(hb:Nat.blt d N=true)(hK:∀A2 c2 w',St w0 w' (ks.set i (eJ el A2 (n+m) c2 (cs++ds)))->ao P N ops K rest (bG e d (.slice A2 (n+m) c2)) w'):
 ao P N ops K (⟨some d,.call ⟨.builtin .append, #[x,y], #[t,t]⟩,ty,pos,af,none⟩::rest) e w:=by
 obtain⟨A2,c2,w',hr,o9⟩:=ais (P:=P) (t:=t) hz i hS hk hR (by simp only [maxLen];omega) tI ty (c':=c');refine .val (w':=w') ?_ hb (hK _ _ _ o9);simp [execOp,resolve,invoke,builtin,hx,hy,hr]
theorem ao.ldT{fs:Array Field}[bV P t (.struct fs)][bR P t z 3 b]{A:aj}{n:Nat}{cs:List TV}{i:Nat}{v:TV}(hR:sw w A n cs)(hi:i<n)(hv:cs[i]?=some v)(hx:ev e x= .pointer (aB A (i*3)))(hb:Nat.blt d N=true)(hK:ao P N ops K rest (bG e d (v.v)) w):ao P N ops K (⟨some d,.load t x,ty,pos,af,none⟩::rest) e w:=by
 have qP:=hR.at_ hi;have e1:cs[i]'(by rw [hR.1];exact hi)=v:=by rw [gO (by rw [hR.1];exact hi)]at hv;exact dA hv
 rw [e1]at qP;exact .bP 2 qP hx (by rfl) hb hK
theorem pE{fs:Array Field}[bV P t (.struct fs)][bR P t z 3 b]{A:aj}{n:Nat}{cs:List TV}(hR:sw w A n cs)(hx:ev e x= .pointer (aB A (i.toNat*3)))(hi:i.toNat<n)(hb:Nat.blt d N=true)(hK:ao P N ops K rest (bG e d (tg cs i).v) w):ao P N ops K (⟨some d,.load t x,ty,pos,af,none⟩::rest) e w:=
 .ldT hR hi (by unfold tg;rw [List.getD_eq_getElem?_getD,List.getElem?_eq_getElem (by rw [hR.1];exact hi)];rfl) hx hb hK
theorem Yo[bR P t z 3 b]{a:ag}(j:Nat){A:aj}{n c i:Nat}{cs:List TV}{v:TV}(hS:St w0 w ks)(hk:ks[j]?=some (eJ T A n c cs))(hi:i<n)(ha:ev e a= .pointer (aB A (i*3)))(hx:ev e x=v.v)(hK:∀w',St w0 w' (ks.set j (eJ T A n c (cs.set i v)))->ao P N ops K rest e w'):ao P N ops K (⟨none,.store t a x,ty,pos,af,none⟩::rest) e w:=by
 have hl:=(hS.kK j hk).1;refine ao.WS 3 j (k:=eJ T A n c cs) (o:=i*3) hS hk ha hx O O O (Nat.ble_eq_true_of_le (by show i*3+3<=3*n;omega)) fun w' h=>hK w' ?_
 have e1:s9 (fQ cs) (i*3) v.cs=fQ (cs.set i v):=by rw [Nat.mul_comm];exact Ry (by omega) v
 have e2:({ eJ T A n c cs with vs:=s9 (eJ T A n c cs).vs (i*3) (#[Value.int IntKind.i64 v.f,Value.int IntKind.i64 v.g,Value.int IntKind.i64 v.r]:Array ad).toList }:Ck)=eJ T A n c (cs.set i v):=by
  show(⟨A,3*n,min (3*c) maxLen,T,s9 (fQ cs) (i*3) v.cs⟩:Ck)=⟨A,3*n,min (3*c) maxLen,T,fQ (cs.set i v)⟩;rw [e1]
 exact e2▸h
theorem zk[bR P t z 3 b]{a:ag}(m:Nat){A:aj}{n c:Nat}{xs:List TV}{v:TV}(hS:St w0 w ks)(hk:ks[m]?=some (eJ te A n c xs))(ha:ev e a= .pointer (aB A (i.toNat*3)))(hx:ev e x=v.v)(hj:i.toNat<n)(hK:∀w',St w0 w' (ks.set m (eJ te A n c (xs.set i.toNat v)))->ao P N ops K rest e w'):ao P N ops K (⟨none,.store t a x,ty,pos,af,none⟩::rest) e w:=
 Yo m hS hk hj ha hx hK
theorem X4{f0 f1 f2:Field}[bV P t (.struct #[f0,f1,f2])][bR P t (.agg #[z0,z1,z2]) 3 b]{v:TV}(tB:bR P f0.type y0 1 b0)(tC:bR P f1.type y1 1 b1)(vw:bR P f2.type y2 1 b2)(ho:f0.offset=0)(uW:f1.offset=1)(B7:f2.offset=2)(h0:ev e x0=ak v.f)(h1:ev e x1=ak v.g)(h2:ev e x2=ak v.r)(hb:Nat.blt d N=true)(hK:ao P N ops K rest (bG e d (v.v)) w):ao P N ops K (⟨some d,.build t #[(0,x0),(1,x1),(2,x2)],ty,pos,af,none⟩::rest) e w:=by
 obtain⟨inf,hi,fS,hs,jv⟩:=bR.get P t;obtain⟨DY,fG,hz00,qy,hby0⟩:=tB.get P f0.type;obtain⟨DZ,kU,hz01,tP,hby1⟩:=tC.get P f1.type;obtain⟨Gv,pO,hz02,pg,hby2⟩:=vw.get P f2.type;have ez:(Value.agg #[z0,z1,z2]).cells= #[z0,z1,z2]:=O;refine .val (w':=w) ?_ hb hK;simp [execOp,Instr.build,run_underlying (bV.out (P:=P) (t:=t)),sizeOf,typeInfo,zeroValue,hi,fS,fG,qy,kU,tP,pO,pg,ho,uW,B7,h0,h1,h2,ez,Instr.fill,TV.v,Value.cells]
end
end Go.Proofs.YtopgfgdgfjddpaaGreatDoor.Vc
namespace Go.Proofs.YtopgfgdgfjddpaaGreatDoor.Vc.TS
open Go.RowKit Tryz
variable{i b a' b' j:Nat}
def gs(l:List TV)(i:Nat):TV:=l.getD i O3
theorem tx{l:List TV}(h:i<l.length):gs l i=l[i]:=by simp [gs,dd,h]
def SR(κ:TV->Int)(l:List TV)(a b:Nat):Prop:=∀i j,a<=i->i<j->j<b->κ (gs l i)<=κ (gs l j)
theorem SR.one(κ:TV->Int)(l:List TV){a:Nat}(h:b<=a+1):SR κ l a b:=fun i j h1 h2 h3=>by omega
theorem SR.sub{κ:TV->Int}{l:List TV}{a:Nat}(h:SR κ l a b)(h1:a<=a')(h2:b'<=b):SR κ l a' b':=fun i j hi iJ hj=>h i j (by omega) iJ (by omega)
theorem SR.le{κ:TV->Int}{l:List TV}{a:Nat}(h:SR κ l a b)(h1:a<=i)(h2:i<=j)(h3:j<b):κ (gs l i)<=κ (gs l j):=by
 rcases Nat.lt_or_eq_of_le h2 with h2 | rfl
 ·exact h i j h1 h2 h3
 exact Int.le_refl _
theorem SR.congr{κ:TV->Int}{l l':List TV}{a:Nat}(h:SR κ l a b)(he:∀i,a<=i->i<b->gs l' i=gs l i):SR κ l' a b:=fun i j hi iJ hj=>by
 rw [he i hi (by omega),he j (by omega) hj];exact h i j hi iJ hj
structure RP(l l':List TV)(a b:Nat):Prop where
 perm:l'.Perm l
 out:∀i,i<a\/b<=i->gs l' i=gs l i
theorem RP.refl(l:List TV)(a b:Nat):RP l l a b:=⟨List.Perm.refl _,fun _ _=>rfl⟩
theorem RP.len{l l':List TV}{a:Nat}(h:RP l l' a b):l'.length=l.length:=h.perm.length_eq
theorem RP.trans{l l' UW:List TV}{a:Nat}(h:RP l l' a b)(h':RP l' UW a' b')(h1:a<=a')(h2:b'<=b):RP l UW a b:=
 ⟨h'.perm.trans h.perm,fun i hi=>by rw [h'.out i (by omega),h.out i hi]⟩
theorem abi{l l':List TV}{a:Nat}(hl:l'.length=l.length)(h:∀i,i<a->gs l' i=gs l i):l'.take a=l.take a:=by
 refine jX (by simp [hl]) fun i h1 h2=>?_
 rw [qF]at h1 h2;rw [List.getElem_take,List.getElem_take,<-tx (by omega),<-tx (by omega)];exact h i (by omega)
theorem abh{l l':List TV}(hl:l'.length=l.length)(h:∀i,b<=i->gs l' i=gs l i):l'.drop b=l.drop b:=by
 refine jX (by simp [hl]) fun i h1 h2=>?_
 rw [List.length_drop]at h1 h2;rw [List.getElem_drop,List.getElem_drop,<-tx (by omega),<-tx (by omega)];exact h _ (by omega)
theorem WO{α:Type}(l:List α){a:Nat}(h:a<=b):l=l.take a++ ((l.drop a).take (b - a)++l.drop b):=by
 have h1:l.drop b=(l.drop a).drop (b - a):=by rw [List.drop_drop];congr 1;omega
 rw [h1,List.take_append_drop,List.take_append_drop]
theorem RP.mid{l l':List TV}{a:Nat}(h:RP l l' a b)(eG:a<=b):((l'.drop a).take (b - a)).Perm ((l.drop a).take (b - a)):=by
 have h1:=h.perm;rw [WO l' eG,WO l eG,abi h.len (fun i hi=>h.out i (.inl hi)),abh h.len (fun i hi=>h.out i (.inr hi))]at h1;exact(List.perm_append_right_iff _).1 ((List.perm_append_left_iff _).1 h1)
theorem RP.from{l l':List TV}{a:Nat}(h:RP l l' a b)(hb:b<=l.length)(h1:a<=i)(h2:i<b):∃j,a<=j/\j<b/\gs l' i=gs l j:=by
 have hl:=h.len;have hm:gs l' i∈(l'.drop a).take (b - a):=by
  rw [fV];refine⟨i - a,by rw [qF,List.length_drop];omega,?_⟩;rw [List.getElem_take,List.getElem_drop,<-tx (by omega)]
  congr 1;omega
 obtain⟨k,hk,e⟩:=fV.1 ((h.mid (by omega)).mem_iff.1 hm);rw [qF,List.length_drop]at hk;refine⟨a+k,by omega,by omega,?_⟩;rw [<-e,List.getElem_take,List.getElem_drop,<-tx (by omega)]
def swp(l:List TV)(i j:Nat):List TV:=(l.set i (gs l j)).set j (gs l i)
theorem WW(l:List TV)(i j:Nat):(swp l i j).length=l.length:=by simp [swp]
theorem R9{l:List TV}(h:i<l.length)(v:TV)(x:Nat):gs (l.set i v) x=if x=i then v else gs l x:=by
 simp only [gs,dd,pA]
 by_cases e:i=x
 ·subst e;simp [h]
 have:¬x=i:=fun h=>e h.symm
 simp [e,this]
theorem Fh{l:List TV}(hi:i<l.length)(hj:j<l.length)(x:Nat):gs (swp l i j) x=if x=j then gs l i else if x=i then gs l j else gs l x:=by
 rw [swp,R9 (by simpa using hj),R9 hi]
theorem OY{l:List TV}{a:Nat}(hi:i<l.length)(hj:j<l.length)(h1:a<=i)(h2:i<b)(h3:a<=j)(h4:j<b):RP l (swp l i j) a b:=by
 refine⟨?_,fun x hx=>?_⟩
 ·unfold swp;rw [tx hi,tx hj];exact List.set_set_perm hi hj
 rw [Fh hi hj,aw (by omega),aw (by omega)]
structure xv(κ:TV->Int)(l:List TV)(a i j:Nat):Prop where
 low:a<=j
 high:j<=i
 rest:∀x y,a<=x->x<y->y<=i->x≠j->y≠j->κ (gs l x)<=κ (gs l y)
 own:∀y,j<y->y<=i->κ (gs l j)<=κ (gs l y)
theorem xv.start{κ:TV->Int}{l:List TV}{a:Nat}(h:SR κ l a i)(hi:a<=i):xv κ l a i i:=
 ⟨hi,bB _,fun x y h1 h2 h3 h4 h5=>h x y h1 h2 (by omega),fun y h1 h2=>by omega⟩
theorem xv.stop{κ:TV->Int}{l:List TV}{a:Nat}(h:xv κ l a i j)(hs:j=a\/κ (gs l (j - 1))<=κ (gs l j)):SR κ l a (i+1):=fun x y h1 h2 h3=>by
 by_cases e:x=j
 ·subst e;exact h.own y h2 (by omega)
 by_cases e2:y=j
 ·subst e2;rcases hs with hs | hs
  ·omega
  by_cases e3:x=y - 1
  ·subst e3;exact hs
  exact Int.le_trans (h.rest x (y - 1) h1 (by omega) (by have:=h.high;omega) e (by omega)) hs
 exact h.rest x y h1 h2 (by omega) e e2
theorem xv.next{κ:TV->Int}{l:List TV}{a:Nat}(h:xv κ l a i j)(hj:a<j)(hi:i<l.length)(hs:κ (gs l j)<κ (gs l (j - 1))):xv κ (swp l j (j - 1)) a i (j - 1):=by
 have hh:=h.high;have g:=Fh (l:=l) (i:=j) (j:=j - 1) (by omega) (by omega);refine⟨by omega,by omega,fun x y h1 h2 h3 h4 h5=>?_,fun y h1 h2=>?_⟩
 ·rw [g x,g y,aw h4,aw h5]
  by_cases e:x=j
  ·subst e;rw [ay rfl,aw (by omega)];exact h.rest (x - 1) y (by omega) (by omega) h3 (by omega) (by omega)
  rw [aw e]
  by_cases e2:y=j
  ·subst e2;rw [ay rfl];exact h.rest x (y - 1) h1 (by omega) (by omega) e (by omega)
  rw [aw e2];exact h.rest x y h1 h2 h3 e e2
 rw [g (j - 1),g y,ay rfl,aw (by omega)]
 by_cases e2:y=j
 ·subst e2;rw [ay rfl];omega
 rw [aw e2];exact h.own y (by omega) h2
theorem aau{α:Type}(P X M Y S:List α)(k:Nat)(h:X.length=Y.length)(hk:k<X.length)(x y:α)(hx:X[k]?=some x)(hy:Y[k]?=some y):((P++ (Y.take k++X.drop k)++M++ (X.take k++Y.drop k)++S).set (P.length+k) y).set (P.length+X.length+M.length+k) x=P++ (Y.take (k+1)++X.drop (k+1))++M++ (X.take (k+1)++Y.drop (k+1))++S:=by
 obtain⟨eM,rfl⟩:=iQ.1 hx;obtain⟨gW,rfl⟩:=iQ.1 hy;rw [List.drop_eq_getElem_cons eM,List.drop_eq_getElem_cons gW,su eM,su gW];have e1:(P++ (Y.take k++X[k]::X.drop (k+1))++M++ (X.take k++Y[k]::Y.drop (k+1))++S)=(P++Y.take k)++X[k]::(X.drop (k+1)++M++ (X.take k++Y[k]::Y.drop (k+1))++S):=by simp only [gN,List.cons_append]
 have l1:P.length+k=(P++Y.take k).length:=by simp;omega
 rw [e1,l1,List.set_append_right _ _ (bB _),Nat.sub_self,List.set_cons_zero];have e2:(P++Y.take k)++Y[k]::(X.drop (k+1)++M++ (X.take k++Y[k]::Y.drop (k+1))++S)=(P++Y.take k++Y[k]::(X.drop (k+1)++M++X.take k))++Y[k]::(Y.drop (k+1)++S):=by simp only [gN,List.cons_append]
 have l2:P.length+X.length+M.length+k=(P++Y.take k++Y[k]::(X.drop (k+1)++M++X.take k)).length:=by simp;omega
 rw [e2,l2,List.set_append_right _ _ (bB _),Nat.sub_self,List.set_cons_zero];simp only [gN,List.cons_append,List.nil_append]
structure wq(l l1:List TV)(s m e:Nat):Prop where
 out:∀i,i<s\/e<=i->gs l1 i=gs l i
 left:∀i,s<=i->i<s+ (e - m)->gs l1 i=gs l (i+ (m - s))
 right:∀i,s+ (e - m)<=i->i<e->gs l1 i=gs l (i - (e - m))
theorem wq.same(l:List TV){s m e:Nat}(h:s=m\/m=e)(h1:s<=m)(h2:m<=e):wq l l s m e:=
 ⟨fun _ _=>rfl,fun i h3 h4=>by congr 1;omega,fun i h3 h4=>by congr 1;omega⟩
theorem wq.of(P X Y S:List TV):wq (P++ (X++ (Y++S))) (P++ (Y++ (X++S))) P.length (P.length+X.length) (P.length+X.length+Y.length):=by
 have key:∀(P X Y S:List TV) (i:Nat),gs (P++ (X++ (Y++S))) i=if i<P.length then gs P i else if i<P.length+X.length then gs X (i - P.length)else if i<P.length+X.length+Y.length then gs Y (i - P.length - X.length)else gs S (i - P.length - X.length - Y.length):=fun P X Y S i=>by
  simp only [gs,dd]
  by_cases h1:i<P.length
  ·rw [ay h1,mq h1]
  rw [aw h1,kN (by omega)]
  by_cases h2:i<P.length+X.length
  ·rw [ay h2,mq (by omega)]
  rw [aw h2,kN (by omega)]
  by_cases h3:i<P.length+X.length+Y.length
  ·rw [ay h3,mq (by omega)]
  rw [aw h3,kN (by omega)]
 refine⟨fun i h=>?_,fun i h1 h2=>?_,fun i h1 h2=>?_⟩
 ·rw [key,key];rcases h with h | h
  ·rw [ay h,ay h]
  rw [aw (by omega),aw (by omega),aw (by omega),aw (by omega),aw (by omega),aw (by omega)]
  congr 1;omega
 ·rw [key,key,aw (by omega),ay (by omega),aw (by omega),aw (by omega),ay (by omega)]
  congr 1;omega
 rw [key,key,aw (by omega),aw (by omega),ay (by omega),aw (by omega),ay (by omega)]
 congr 1;omega
theorem aim{α:Type}(P X Y S:List α):(P++ (Y++ (X++S))).Perm (P++ (X++ (Y++S))):=by
 refine(List.perm_append_left_iff _).2 ?_;rw [<-gN,<-gN];exact(List.perm_append_right_iff _).2 ku
def pW(a m b:Nat):Nat:=if(a+b) / 2<m then(a+b) / 2+m - b else a
def fG(a m b:Nat):Nat:=if(a+b) / 2<m then(a+b) / 2 else m
structure Pt(κ:TV->Int)(l:List TV)(a m b s:Nat):Prop where
 lo:pW a m b<=s
 hi:s<=fG a m b
 left:∀c,pW a m b<=c->c<s->κ (gs l c)<=κ (gs l ((a+b) / 2+m - 1 - c))
 right:∀c,s<=c->c<fG a m b->κ (gs l ((a+b) / 2+m - 1 - c))<κ (gs l c)
theorem Z2{κ:TV->Int}{l l1:List TV}{a m s:Nat}(h1:a+1<m)(h2:m+1<b)(hA:SR κ l a m)(hB:SR κ l m b)(hc:Pt κ l a m b s)(hr:wq l l1 s m ((a+b) / 2+m - s)):(a<=s/\s<=(a+b) / 2/\s<=m/\(a+b) / 2<=(a+b) / 2+m - s/\m<=(a+b) / 2+m - s/\(a+b) / 2+m - s<=b)/\SR κ l1 a s/\SR κ l1 s ((a+b) / 2)/\SR κ l1 ((a+b) / 2) ((a+b) / 2+m - s)/\SR κ l1 ((a+b) / 2+m - s) b/\∀i j,a<=i->i< (a+b) / 2->(a+b) / 2<=j->j<b->κ (gs l1 i)<=κ (gs l1 j):=by
 obtain⟨c1,c2,c3,c4⟩:=hc;generalize nk:(a+b) / 2=mid at*;unfold pW at c1 c3;unfold fG at c2 c4;rw [nk]at c1 c2 c3 c4;have qW:2*mid<=a+b/\a+b<=2*mid+1:=by omega
 have b1:a<=s:=by split at c1<;>omega
 have b2:s<=mid:=by split at c2<;>omega
 have b3:s<=m:=by split at c2<;>omega
 have b4:mid+m - s<=b:=by split at c1<;>omega
 generalize he:mid+m - s=e at*;obtain⟨r1,r2,r3⟩:=hr;have Ox:∀i,s<=i->i<mid->gs l1 i=gs l (i+ (m - s)):=fun i h h'=>r2 i h (by omega)
 have JK:∀i,mid<=i->i<e->gs l1 i=gs l (i - (mid - s)):=fun i h h'=>by rw [r3 i (by omega) h'];congr 1;omega
 refine⟨⟨b1,b2,b3,by omega,by omega,b4⟩,?_,?_,?_,?_,?_⟩
 ·exact(hA.sub (bB _) b3).congr fun i _ h=>r1 i (.inl h)
 ·intro i j hi iJ hj;rw [Ox i hi (by omega),Ox j (by omega) hj];exact hB _ _ (by omega) (by omega) (by omega)
 ·intro i j hi iJ hj;rw [JK i hi (by omega),JK j (by omega) hj];exact hA _ _ (by omega) (by omega) (by omega)
 ·exact(hB.sub (by omega) (bB _)).congr fun i h _=>r1 i (.inr h)
 intro i j hi pO hj oD
 by_cases x1:i<s
 ·rw [r1 i (.inl x1)]
  by_cases x2:j<e
  ·rw [JK j hj x2];exact hA.le hi (by omega) (by omega)
  rw [r1 j (.inr (by omega))];have k1:κ (gs l i)<=κ (gs l (s - 1)):=hA.le hi (by omega) (by omega);have k2:κ (gs l e)<=κ (gs l j):=hB.le (by omega) (by omega) oD;have k3:=c3 (s - 1) (by split<;>omega) (by omega);rw [show mid+m - 1 - (s - 1)=e by omega]at k3;omega
 rw [Ox i (by omega) pO]
 by_cases x2:j<e
 ·rw [JK j hj x2];have k1:κ (gs l (i+ (m - s)))<=κ (gs l (e - 1)):=hB.le (by omega) (by omega) (by omega);have k2:κ (gs l s)<=κ (gs l (j - (mid - s))):=hA.le (by omega) (by omega) (by omega);have k3:=c4 s (bB _) (by split<;>omega);rw [show mid+m - 1 - s=e - 1 by omega]at k3;omega
 rw [r1 j (.inr (by omega))];exact hB.le (by omega) (by omega) oD
theorem Z4{κ:TV->Int}{l1 l2 l3:List TV}{a mid:Nat}(eG:a<=mid)(F9:mid<=b)(hb:b<=l1.length)(h:∀i j,a<=i->i<mid->mid<=j->j<b->κ (gs l1 i)<=κ (gs l1 j))(p2:RP l1 l2 a mid)(s2:SR κ l2 a mid)(p3:RP l2 l3 mid b)(s3:SR κ l3 mid b):SR κ l3 a b:=fun i j hi iJ hj=>by
 have wP:=p2.len
 by_cases x1:j<mid
 ·rw [p3.out i (.inl (by omega)),p3.out j (.inl x1)];exact s2 i j hi iJ x1
 by_cases x2:i<mid
 ·rw [p3.out i (.inl x2)];obtain⟨i',h1,h2,e1⟩:=p2.from (by omega) hi x2;obtain⟨j',h3,h4,e2⟩:=p3.from (by omega) (by omega) hj;rw [e1,e2,p2.out j' (.inr h3)];exact h i' j' h1 h2 h3 h4
 exact s3 i j (by omega) iJ hj
structure xy(l c:List TV)(a k:Nat):Prop where
 len:c.length=l.length
 out:∀x,x<a\/k<x->gs c x=gs l x
 xg:∀x,a<=x->x<k->gs c x=gs l (x+1)
 own:gs c k=gs l a
theorem xy.start(l:List TV)(a:Nat):xy l l a a:=⟨rfl,fun _ _=>rfl,fun x h h'=>by omega,rfl⟩
theorem xy.next{l c:List TV}{a k:Nat}(h:xy l c a k)(ha:a<=k)(hk:k+1<l.length):xy l (swp c k (k+1)) a (k+1):=by
 have hl:=h.len;have g:=Fh (l:=c) (i:=k) (j:=k+1) (by omega) (by omega);refine⟨by rw [WW,hl],fun x hx=>?_,fun x h1 h2=>?_,?_⟩
 ·rw [g,aw (by omega),aw (by omega),h.out x (by omega)]
 ·rw [g,aw (by omega)]
  by_cases e:x=k
  ·subst e;rw [ay rfl,h.out _ (by omega)]
  rw [aw e,h.xg x h1 (by omega)]
 rw [g,ay rfl,h.own]
theorem xy.sorted{κ:TV->Int}{l c:List TV}{a:Nat}(h:xy l c a (i - 1))(hs:SR κ l (a+1) b)(h1:a+1<=i)(h2:i<=b)(hl:∀x,a+1<=x->x<i->κ (gs l x)<=κ (gs l a))(hr:∀x,i<=x->x<b->κ (gs l a)<=κ (gs l x)):SR κ c a b:=fun x y hx jT hy=>by
 by_cases e:x=i - 1
 ·rw [e,h.own,h.out y (.inr (by omega))];exact hr y (by omega) hy
 by_cases e2:y=i - 1
 ·rw [e2,h.own,h.xg x hx (by omega)];exact hl _ (by omega) (by omega)
 by_cases x1:y<i - 1
 ·rw [h.xg x hx (by omega),h.xg y (by omega) x1];exact hs _ _ (by omega) (by omega) (by omega)
 rw [h.out y (.inr (by omega))]
 by_cases x2:x<i - 1
 ·rw [h.xg x hx x2];exact hs _ _ (by omega) (by omega) hy
 rw [h.out x (.inr (by omega))];exact hs _ _ (by omega) jT hy
structure xw(l c:List TV)(m k:Nat):Prop where
 len:c.length=l.length
 out:∀x,x<k\/m<x->gs c x=gs l x
 xg:∀x,k<x->x<=m->gs c x=gs l (x - 1)
 own:gs c k=gs l m
theorem xw.start(l:List TV)(m:Nat):xw l l m m:=⟨rfl,fun _ _=>rfl,fun x h h'=>by omega,rfl⟩
theorem xw.next{l c:List TV}{m k:Nat}(h:xw l c m k)(hk:0<k)(TB:k<=m)(hm:m<l.length):xw l (swp c k (k - 1)) m (k - 1):=by
 have hl:=h.len;have g:=Fh (l:=c) (i:=k) (j:=k - 1) (by omega) (by omega);refine⟨by rw [WW,hl],fun x hx=>?_,fun x h1 h2=>?_,?_⟩
 ·rw [g,aw (by omega),aw (by omega),h.out x (by omega)]
 ·rw [g,aw (by omega)]
  by_cases e:x=k
  ·subst e;rw [ay rfl,h.out _ (by omega)]
  rw [aw e,h.xg x (by omega) h2]
 rw [g,ay rfl,h.own]
theorem xw.sorted{κ:TV->Int}{l c:List TV}{a m:Nat}(h:xw l c m i)(hs:SR κ l a m)(h1:a<=i)(h2:i<=m)(hl:∀x,a<=x->x<i->κ (gs l x)<=κ (gs l m))(hr:∀x,i<=x->x<m->κ (gs l m)<=κ (gs l x)):SR κ c a (m+1):=fun x y hx jT hy=>by
 by_cases e:x=i
 ·rw [e,h.own,h.xg y (by omega) (by omega)];exact hr _ (by omega) (by omega)
 by_cases e2:y=i
 ·rw [e2,h.own,h.out x (.inl (by omega))];exact hl x hx (by omega)
 by_cases x1:y<i
 ·rw [h.out x (.inl (by omega)),h.out y (.inl x1)];exact hs _ _ hx jT (by omega)
 rw [h.xg y (by omega) (by omega)]
 by_cases x2:x<i
 ·rw [h.out x (.inl x2)];exact hs _ _ hx (by omega) (by omega)
 rw [h.xg x (by omega) (by omega)];exact hs _ _ (by omega) (by omega) (by omega)
def y7(κ:TV->Int)(l:List TV)(n s lo hi:Nat):Prop:=∀k,lo<=k*s->k*s<hi->SR κ l (k*s) (min (k*s+s) n)
theorem y7.done{κ:TV->Int}{l:List TV}{n s:Nat}(h:y7 κ l n s 0 n)(hs:n<=s):SR κ l 0 n:=by
 by_cases h0:n=0
 ·subst h0;exact SR.one _ _ (by omega)
 have:=h 0 (by omega) (by omega);rw [Nat.zero_mul,Nat.zero_add,Nat.min_eq_right hs]at this;exact this
theorem Vw{s k:Nat}(h:j*s<k*s):j*s+s<=k*s:=by
 have uS:j<k:=Nat.lt_of_mul_lt_mul_right h;have:=Nat.mul_le_mul_right s (Nat.succ_le_of_lt uS);rw [Nat.succ_mul]at this;exact this
end Go.Proofs.YtopgfgdgfjddpaaGreatDoor.Vc.TS
namespace Go.Proofs.YtopgfgdgfjddpaaGreatDoor.Vc
open Go.RowKit Tryz
section
variable{t:ae}{b b0 b1 b2:Nat}{bs:ai}
variable {P:Program} {N:Nat} {ops:Array Oper} {K:Env->aa->Prop} {rest:List Oper} {e:Env} {w0 w w':aa} {ks:List Ck} {d:Nat} {ty:ae} {pos:String} {af:Array Edge}
theorem X5{el:ae}{x:ag}{v0 v1 v2:ad}(hS:St w0 w ks)(hx:ev e x= .agg #[v0,v1,v2])(hb:Nat.blt d N=true)(hK:∀A w',St w0 w' (Bx el 3 A [v0,v1,v2]::ks)->ao P N ops K rest (bG e d (.pointer A)) w')(hM:fw [v0,v1,v2]=false:=by rfl):ao P N ops K (⟨some d,.box el x,ty,pos,af,none⟩::rest) e w:= .Hz hS hx hb rfl hK hM
variable {x y:ag} {xt yt:ae} {i j:Int}
theorem Xn(i:Int):0<=IntKind.u64.wrap i/\IntKind.u64.wrap i<=18446744073709551615:=by rw [IntKind.wrap_u64];omega
theorem PN(hx:ev e x= .int .u64 i)(hy:ev e y= .int .u64 j)(hb:Nat.blt d N=true)(hK:∀r:Int,0<=r/\r<=18446744073709551615->ao P N ops K rest (bG e d (.int .u64 r)) w):
 ao P N ops K (⟨some d,.binOp .mul xt x y yt,ty,pos,af,none⟩::rest) e w:=
 .val (by simp [execOp,hx,hy,eqGuard,binOp,Op.intArith]) hb (hK _ (Xn (i*j)))
theorem Hm(hx:ev e x= .int .u64 i)(hy:ev e y= .int .u64 j)(hb:Nat.blt d N=true)(hK:∀r:Int,0<=r/\r<=18446744073709551615->ao P N ops K rest (bG e d (.int .u64 r)) w):
 ao P N ops K (⟨some d,.binOp .add xt x y yt,ty,pos,af,none⟩::rest) e w:=
 .val (by simp [execOp,hx,hy,eqGuard,binOp,Op.intArith]) hb (hK _ (Xn (i+j)))
theorem Ze(i:Int):0<=bits .and .u64 i 16777215/\bits .and .u64 i 16777215<=16777215:=by
 have h:∀a:BitVec 64,(a &&& BitVec.ofInt 64 16777215).toNat<=16777215:=fun a=>by
  rw [BitVec.toNat_and];exact Nat.and_le_right
 have e:bits .and .u64 i 16777215=IntKind.u64.wrap ((BitVec.ofInt 64 i &&& BitVec.ofInt 64 16777215).toNat:Int):=O;have:=h (BitVec.ofInt 64 i);rw [e,IntKind.wrap_u64];omega
theorem XX(hx:ev e x= .int .u64 i)(hy:ev e y= .int .u64 16777215)(hb:Nat.blt d N=true)(hK:∀r:Int,0<=r/\r<=16777215->ao P N ops K rest (bG e d (.int .u64 r)) w):
 ao P N ops K (⟨some d,.binOp .and xt x y yt,ty,pos,af,none⟩::rest) e w:=
 .val (by simp only [execOp,hx,hy,eqGuard,binOp,intBits_and];simp) hb (hK _ (Ze i))
theorem Yn{k:IntKind}(hx:ev e x= .int .u64 i)(hy:ev e y= .int k 33)(hb:Nat.blt d N=true)(hK:∀r:Int,ao P N ops K rest (bG e d (.int .u64 r)) w):
 ao P N ops K (⟨some d,.binOp .shr xt x y yt,ty,pos,af,none⟩::rest) e w:=by
 refine .val (v:= .int .u64 (i.fdiv (2^33))) ?_ hb (hK _);have e1:min 33 IntKind.u64.bits=33:=by decide
 simp [execOp,hx,hy,eqGuard,binOp,Op.shift,e1]
def tp(w:aa)(A:aj)(n:Nat)(bs:ai):Prop:=bs.length=n/\(∀b∈bs,0<=b/\b<=255)/\Rd w A n (fun j=> .int .u8 (bs.getD j 0))
theorem tp.below{w w':aa}{A:aj}{n:Nat}(h:tp w A n bs)(hb:Below w.heap.size w w'):tp w' A n bs:=⟨h.1,h.2.1,Rd.below h.2.2 hb⟩
theorem tp.at_{A:aj}{n:Nat}(h:tp w A n bs){j:Int}(h0:0<=j)(h1:j<n):0<=bs.getD j.toNat 0/\bs.getD j.toNat 0<=255:=by
 have hl:j.toNat<bs.length:=by rw [h.1];omega
 rw [dd,gO hl];exact h.2.1 _ (dH hl)
theorem PK{u:TypeDesc}[bV P t u]{A:aj}{n:Nat}(hR:tp w A n bs)(hx:ev e x= .pointer (aB A i.toNat))(h1:i.toNat<n)(hp:yF u=true)(hb:Nat.blt d N=true)(hK:ao P N ops K rest (bG e d (.int .u8 (bs.getD i.toNat 0))) w):ao P N ops K (⟨some d,.load t x,ty,pos,af,none⟩::rest) e w:=
 .ld hR.2.2 hx h1 rfl hp hb hK
def Cf:Nat->ai->List (Nat×ad)
 | _,[]=> []
 | k,v::r=> (k,.int .i64 v)::Cf (k+1) r
theorem Rp:∀(vs:ai) (k:Nat) (cells:Array ad),k+vs.length<=cells.size->∃out,Instr.fill (fun i=>some (i*1,1)) cells (Cf k vs)=some out/\out.size=cells.size/\(∀j,j<k->out[j]?=cells[j]?)/\(∀j,j<vs.length->out[k+j]?=vs[j]?.map (Value.int .i64))/\(∀j,k+vs.length<=j->out[j]?=cells[j]?)
 | [],k,cells,_=> ⟨cells,rfl,rfl,fun _ _=>rfl,fun j hj=>absurd hj (jM _),fun _ _=>rfl⟩
 | v::r,k,cells,h=>by
  have hk:k<cells.size:=by simp at h;omega
  obtain⟨out,h1,h2,h3,h4,h5⟩:=Rp r (k+1) (cells.setIfInBounds k (ak v)) (by simp at h|-;omega);refine⟨out,?_,by rw [h2];simp,fun j hj=>?_,fun j hj=>?_,fun j hj=>?_⟩
  ·show Instr.fill _ cells ((k,ak v)::Cf (k+1) r)=some out;rw [<-h1];simp [Instr.fill,Value.cells,show ¬cells.size<k+1 by omega]
  ·rw [h3 j (by omega),uj,aw (by omega)]
  ·cases j with
   | zero=>rw [Nat.add_zero,h3 k (by omega),uj,ay rfl,ay hk];rfl
   | succ q=>
    have:=h4 q (by simpa using hj);rw [show k+ (q+1)=k+1+q by omega,this]
    rfl
  ·rw [h5 j (by simp at hj|-;omega),uj,aw (by simp at hj;omega)]
theorem aaC(vs:ai)(cells:Array ad)(h:cells.size=vs.length):Instr.fill (fun i=>some (i*1,1)) cells (Cf 0 vs)=some (vs.map (Value.int .i64)).toArray:=by
 obtain⟨out,h1,h2,_,h4,_⟩:=Rp vs 0 cells (by omega);rw [h1]
 congr 1
 apply Array.ext';apply List.ext_getElem?;intro j
 by_cases hj:j<vs.length
 ·have:=h4 j hj;rw [Nat.zero_add]at this;simpa using this
 rw [qm (by simpa [h2,h]using hj),qm (by simpa using hj)]
theorem xz{el:ae}{z:ad}{n:Nat}[bV P t (.slice el)][bR P el z 1 b]{ps:Array (Nat×ag)}(vs:ai)(hS:St w0 w ks)(hv:(ps.toList.map fun p=> (p.1,ev e p.2))=Cf 0 vs)(hn:vs.length=n)(qx:n≠0)(vN:n<=1000)(hz:z.cells= #[z])(hb:Nat.blt d N=true)(hK:∀A w',St w0 w' (az el A n n vs::ks)->ao P N ops K rest (bG e d (.slice A n n)) w'):ao P N ops K (⟨some d,.buildSlice t n ps,ty,pos,af,none⟩::rest) e w:=by
 subst hn;obtain⟨inf,hi,fS,hs,jv⟩:=bR.get P el;have hA:=hS.alloc (vs.map (Value.int .i64)) el (by simp [maxLen];omega) (tW _);refine .val (w':=w.alloc (.cells (vs.map (Value.int .i64)).toArray el)) ?_ hb (hK _ _ (by simpa [az]using hA));have hf:=aaC vs ((Array.range (vs.length*1)).map ((#[z]:Array ad)[· % (#[z]:Array ad).size]!)) (by simp);have tT:(ps.map fun p=> (p.1,ev e p.2)).toList=Cf 0 vs:=by rw [Array.toList_map];exact hv
 have Bs:¬16777216<vs.length:=by omega
 simp only [Nat.mul_one]at hf;simp [execOp,Instr.buildSlice,run_underlying (bV.out (P:=P) (t:=t)),sizeOf,typeInfo,zeroValue,hi,hs,fS,hz,newRow,hv,Bs,qx];simp at hf;simp [hf]
theorem X3{f0 f1 f2:Field}{z0 z1 z2 y0 y1 y2:ad}[bV P t (.struct #[f0,f1,f2])][bR P t (.agg #[z0,z1,z2]) 3 b]{x0 x2:ag}{v0 v2:ad}(tB:bR P f0.type y0 1 b0)(tC:bR P f1.type y1 1 b1)(vw:bR P f2.type y2 1 b2)(ho:f0.offset=0)(uW:f1.offset=1)(B7:f2.offset=2)(h0:ev e x0=v0)(h2:ev e x2=v2)(c0:v0.oneCell'=true)(c2:v2.oneCell'=true)(hb:Nat.blt d N=true)(hK:ao P N ops K rest (bG e d (.agg #[v0,z1,v2])) w):ao P N ops K (⟨some d,.build t #[(0,x0),(2,x2)],ty,pos,af,none⟩::rest) e w:=by
 obtain⟨inf,hi,fS,hs,jv⟩:=bR.get P t;obtain⟨DY,fG,_,qy,_⟩:=tB.get P f0.type;obtain⟨DZ,kU,_,tP,_⟩:=tC.get P f1.type;obtain⟨Gv,pO,_,pg,_⟩:=vw.get P f2.type;have e0:v0.cells= #[v0]:=by cases v0<;>simp [Value.oneCell']at c0<;>rfl
 have e2:v2.cells= #[v2]:=by cases v2<;>simp [Value.oneCell']at c2<;>rfl
 have ez:(Value.agg #[z0,z1,z2]).cells= #[z0,z1,z2]:=O;refine .val (w':=w) ?_ hb hK;simp [execOp,Instr.build,run_underlying (bV.out (P:=P) (t:=t)),sizeOf,typeInfo,zeroValue,hi,fS,fG,qy,kU,tP,pO,pg,ho,uW,B7,h0,e0,h2,e2,ez,Instr.fill]
end
end Go.Proofs.YtopgfgdgfjddpaaGreatDoor.Vc
