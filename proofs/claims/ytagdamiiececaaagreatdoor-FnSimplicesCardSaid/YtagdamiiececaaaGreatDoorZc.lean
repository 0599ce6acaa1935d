/-
 Lemmas. Conditions: as each states them.
-/
import Derived.Test.YtagdamiiececaaaGreatDoorLay
import Derived.Shelf.SortM.Plain
import Derived.Test.YtagdamiiececaaaGreatDoorZb
set_option maxHeartbeats 8000000
namespace Go.Proofs.YtagdamiiececaaaGreatDoor.Vc
open Tryz
section
open Go.RowKit Go.Sort
variable{w w0:aa}
theorem aaa{g n off:Nat}{os:Array Obj}{cur:Array ad}{e:ae}{fr:Nat×Nat}(d:Array Int)(hb:w.heap[g]?=some (.cells cur e fr)):(Go.Sort.grow (putRow (Value.int .i64) (Sort.ahead w n) g off d) os).heap[g]?=some (.cells (putCells (Value.int .i64) off d cur) e fr):=by
 have hg:g<w.heap.size:=(Array.getElem?_eq_some_iff.1 hb).1;rw [heap_grow_old _ _ (by simpa using hg)];simp [putRow,mapBlock,Sort.ahead,Array.getElem?_modify,hb,onCells]
theorem Yu{g n off:Nat}{os:Array Obj}(d:Array Int):CW w (Go.Sort.grow (putRow (Value.int .i64) (Sort.ahead w n) g off d) os) (some g):=by
 refine⟨⟨O,O,O,by simp,fun k hk bt=>?_⟩,Nat.le_add_right _ _⟩;rw [heap_grow_old _ _ (by simpa using hk)];have:g≠k:=fun e=>bt (by rw [e])
 simp [putRow,mapBlock,Sort.ahead,Array.getElem?_modify,this]
theorem agz{ks:List Ck}(i:Nat){t:ae}{A:aj}{n c:Nat}{xs:ai}(hS:St w0 w ks)(hk:ks[i]?=some (az t A n c xs))(h0:0<n)(hn:n<=1000000000):
 aG prog 130 [.slice A n c] w (fun v w'=>v= .tuple #[]/\St w0 w' (ks.set i (az t A n c (l5 xs)))):=by
 obtain⟨h1,h2,h3,h4⟩:=hS.pY hk (sA _);have hl:xs.length=n:=hS.Cm i hk;have h2:n<=c:=h2;rcases h4 with⟨_,jP⟩ | ⟨g,o,cur,hA,hg,hh,hs,hc⟩
 ·have jP:c=0:=jP;omega
 have hA:A=some ⟨g,o,none⟩:=hA;have hs:o+c<=cur.size:=hs;have hc:∀j,j<n->cur[o+j]?=(xs.map (Value.int .i64))[j]?:=hc;subst hA;subst hl;have hH:Holds (Value.int .i64) w g o xs.toArray:=fun j hj=>by
  have im:j<xs.length:=by simpa using hj
  refine⟨?_,by simp [World.frozen?,hh]⟩;simp only [World.cell?,hh];simp only [Option.isSome_none,Bool.false_eq_true,if_false];rw [hc j im];simp [im]
 have eO:g<w.heap.size:=(Array.getElem?_eq_some_iff.1 hh).1;have key:=AnyM.slices_Sort_int Sh g o c xs w hH eO (by omega);refine Calls.mono key fun x w' ⟨hx,m,os,hw⟩=> ⟨_,hx,O,?_⟩
 subst hw;have zv:(l5 xs).length=xs.length:=(H3 xs).length_eq;refine hS.turn hk O O (Yu _) (.qq (sA _) ⟨by simp [zv],h2,h3,.inr ⟨g,o,_,O,hg,aaa _ hh,by simp only [putCells,Array.size_mapIdx];exact hs,fun j hj=>?_⟩⟩);have hj:j<xs.length:=hj;show(putCells (Value.int .i64) o (l5 xs).toArray cur)[o+j]?=((l5 xs).map (Value.int .i64))[j]?;have D8:o+j<cur.size:=by have:xs.length<=c:=h2;omega
 simp [putCells,D8,zv,hj]
end
section
open Go.RowKit
def mx(n:Nat):ai:=(List.range n).map fun x:Nat=> (x:Int)
theorem abT{n k:Nat}{l:ai}(hk:k<n)(hl:l.length=n)(h:∀j,j<k->l[j]?=some (j:Int)):∀j,j<k+1->(l.set k (k:Int))[j]?=some (j:Int):=fun j hj=>by
 rw [mG]
 by_cases e:k=j
 ·subst e;rw [ay rfl,ay (by omega)]
 rw [aw e];exact h j (by omega)
theorem RG(n:Nat)(w:aa)(hn:n<=1000000000):aG prog 144 [ak n] w (fun v w'=>∃A',v= .slice A' n n/\St w w' [az 2 A' n n (mx n)]):=by
 refine bA func144 O ntmps144 O (cJ O) (a8 O (wW n (St.refl w) O O (by omega) ?_));intro A1 w1 aA;refine ar O (bc O O (aI O ?_));refine Cd.loop (α:=Nat×ai) (fun z=> [(3,.slice A1 n n),(8,ak n),(9,ak (z.1:Int))]) (fun z w'=>St w w' [az 2 A1 n n z.2]/\z.1<=n/\z.2.length=n/\∀j,j<z.1->z.2[j]?=some (j:Int)) (fun z=>n - z.1) (0,List.replicate n 0) (ajs O) ⟨aA,a7 _,by simp,fun j hj=>by omega⟩ ?_;rintro⟨k,l⟩ e w2 ⟨aB,hk,hl,hK⟩;dsimp only at aB hk hl hK|-;refine bL O (aR _ O (fun h1=>?_) (fun h1=>?_))
 ·refine aE O (aM (aB.bI 0 O).2 O (lu 0 aB O O O (by omega) ?_));intro w3 aH;refine ar O (aK O (aU O (tQ ?_)));exact⟨(k+1,l.set k (k:Int)),by show n - (k+1)<n - k;omega,(ajs O),aH,by show k+1<=n;omega,by show(l.set k _).length=n;rw [lp];exact hl,abT (by omega) hl hK⟩
 refine bw O (bz (gE O ?_));refine gD O ?_;have kl:k=n:=by omega
 subst kl;have he:l=mx k:=by
  apply List.ext_getElem?;intro j
  by_cases hj:j<k
  ·rw [hK j hj];simp [mx,hj]
  rw [mF (by omega),mF (by simp [mx];omega)]
 subst he;exact⟨A1,O,aB⟩
def pP(p q:ai):ai:=p.map fun x=>gi q x
theorem T7(A:aj)(n c:Nat)(p:ai)(A':aj)(n' c':Nat)(q:ai)(w:aa)(hP:cn w A n p)(hQ:cn w A' n' q)(hn:n<=1000000000)(hp:∀k:Nat,k<n->0<=gi p k/\gi p k<n'):
 aG prog 146 [.slice A n c,.slice A' n' c'] w (fun v w'=>∃A',v= .slice A' n n/\St w w' [az 2 A' n n (pP p q)]):=by
 have ow:=hP.1;refine bA func146 O ntmps146 O (cJ O) ?_;refine a8 O (bc O O ?_);refine wW n (St.refl w) O O (by omega) fun A1 w1 aA=>ar O (bc O O (aI O ?_));refine Cd.loop (α:=Nat×ai) (fun z=> [(0,.slice A n c),(1,.slice A' n' c'),(5,.slice A1 n n),(11,.slice A n c),(12,ak n),(13,ak (z.1:Int))]) (fun z w'=>St w w' [az 2 A1 n n z.2]/\z.1<=n/\z.2.length=n/\∀j,j<z.1->z.2[j]?=(pP p q)[j]?) (fun z=>n - z.1) (0,List.replicate n 0) (ajs O) ⟨aA,a7 _,by simp,fun j hj=>by omega⟩ ?_;rintro⟨k,l⟩ e w2 ⟨aB,hk,hl,hK⟩;dsimp only at aB hk hl hK|-;have lB:=aB.gW hP;have PK:=aB.gW hQ;refine bL O (aR _ O (fun h1=>?_) (fun h1=>?_))
 ·have hpk:=hp k (by omega);refine aE O (aM lB.2 O (bk lB O (ar O (aM PK.2 O (bk PK O (aM (aB.bI 0 O).2 O (lu 0 aB O O O (by omega) ?_)))))));intro w3 aH;refine ar O (aK O (aU O (tQ ?_)));refine⟨(k+1,l.set k (gi q (gi p k))),by show n - (k+1)<n - k;omega,(ajs O),aH,by show k+1<=n;omega,by show(l.set k _).length=n;rw [lp];exact hl,fun j hj=>?_⟩;show(l.set k (gi q (gi p k)))[j]?=_;rw [mG]
  by_cases ej:k=j
  ·subst ej;rw [ay rfl,ay (by omega)];simp [pP,gi,cN,fS (show k<p.length by omega)]
  rw [aw ej];exact hK j (by have:j<k+1:=hj;omega)
 refine bw O (bz (gE O ?_));refine gD O ?_;have kl:k=n:=by omega
 subst kl;have he:l=pP p q:=by
  apply List.ext_getElem?;intro j
  by_cases hj:j<k
  ·exact hK j hj
  rw [mF (by omega),mF (by simp [pP];omega)]
 subst he;exact⟨A1,O,aB⟩
theorem Ml{α:Type}{l:List α}{i:Nat}{x:α}(h:l[i]?=some x):l.set i x=l:=by
 apply List.ext_getElem?;intro j;rw [mG]
 split
 ·rename_i e;subst e;rw [ay (gS.1 h).1,h]
 rfl
theorem Rd.one{w:aa}{A:aj}{n:Nat}{f:Nat->ad}(h:Rd w A (n+1) f):Rd w A 1 (fun _=>f 0):=fun j hj=>by
 obtain rfl:j=0:=by omega
 exact h 0 (by omega)
def marks(k:Int)(n:Nat):ai:=(List.range n).map fun j:Nat=>k+ (j:Int)
section
variable {P:Program} {N:Nat} {ops:Array Oper} {K:Env->aa->Prop} {rest:List Oper} {e:Env} {w:aa} {d:Nat} {ty:ae} {pos:String} {af:Array Edge}
theorem Vf{F:FuncId}{x:ag}{v1:ad}(hx:ev e x=v1)(hb:Nat.blt d N=true)(hK:ao P N ops K rest (bq e d (.func (.func F) #[] #[v1])) w):
 ao P N ops K (⟨some d,.makeFunc (.func F) #[] #[x],ty,pos,af,none⟩::rest) e w:=
 .val (by simp [execOp,Instr.makeFunc,hx]) hb hK
theorem Vo{t t' el:ae}[bJ P t (.slice el)]{x y:ag}{A:aj}{n c:Nat}(hx:ev e x= .slice A n c)(hy:ev e y= .slice none 0 0)(hb:Nat.blt d N=true)(hK:ao P N ops K rest (bq e d (.bool (!A.isNone))) w):
 ao P N ops K (⟨some d,.binOp .neq t x y t',ty,pos,af,none⟩::rest) e w:=by
 have hr:(Op.equal t (.slice A n c) (.slice none 0 0)).run P w= .ok A.isNone w:=by
  show(Op.equalIn (9999+1) t (.slice A n c) (.slice none 0 0)).run P w=_;rw [Op.equalIn];cases A<;>simp [run_underlying (bJ.out (P:=P) (t:=t))]
 exact .val (by simp [execOp,hx,hy,eqGuard,binOp,hr]) hb hK
end
theorem O6(l:ai)(i:Nat):gi (l.drop i) 0=gi l i:=by simp [gi,cN,List.getElem?_drop]
theorem St.NT{w0 w:aa}{ks:List Ck}{i:Nat}{t:ae}{A:aj}{n c l:Nat}{xs:ai}(hS:St w0 w ks)(hk:ks[i]?=some (az t A n c xs))(hl:l<=n):St w0 w (ks.set i (az t (cutAt A c l) (n - l) (c - l) (xs.drop l))):=by
 have gP:=hS.Cm i hk;obtain⟨h1,h2,h3,h4⟩:=hS.pY hk (sA _);have h2:n<=c:=h2;have h3:c<=maxLen:=h3;rcases h4 with⟨hA,jP⟩ | ⟨g,o,cur,hA,hg,hh,hs,hc⟩
 ·have hA:A=Option.none:=hA;have jP:c=0:=jP;subst hA jP;obtain rfl:n=0:=by omega
  obtain rfl:l=0:=by omega
  obtain rfl:=qH gP;have e:cutAt Option.none 0 0=Option.none:=O;rw [e];show St w0 w (ks.set i (az t Option.none 0 0 []));rw [Ml hk];exact hS
 have hA:A=some ⟨g,o,Option.none⟩:=hA;have hs:o+c<=cur.size:=hs;have hh:w.heap[g]?=some (.cells cur t (0,0)):=hh;have hc:∀j,j<n->cur[o+j]?=(xs.map (Value.int .i64))[j]?:=hc;subst hA;have tc:∃o',cutAt (some ⟨g,o,Option.none⟩) c l=some ⟨g,o',Option.none⟩/\o'+ (c - l)<=cur.size/\(0<n - l->o'=o+l):=by
  unfold cutAt
  split
  ·exact⟨o,O,by omega,fun h=>by omega⟩
  exact⟨o+l,by simp [aJ,An],by omega,fun _=>O⟩
 obtain⟨o',e1,e2,e3⟩:=tc;refine hS.turn hk O (by simp [Ck.ik,e1]) ⟨⟨O,O,O,bj _,fun _ _ _=>O⟩,bj _⟩ (.qq (sA _) ⟨by simp [gP],by show n - l<=c - l;omega,by show c - l<=maxLen;omega,.inr ⟨g,o',cur,e1,hg,hh,e2,fun j hj=>?_⟩⟩);have hj:j<n - l:=hj;show cur[o'+j]?=((xs.drop l).map (Value.int .i64))[j]?;rw [e3 (Nat.zero_lt_of_lt hj),Nat.add_assoc,hc (l+j) (Nat.add_lt_of_lt_sub' hj)];simp [List.getElem?_drop]
theorem aeS(u:Nat->ad){i j:Nat}{v w:ad}(h:u i=v)(h':u j=w):u=fun k=>if k=i then v else if k=j then w else u k:=by
 funext k
 split
 ·rename_i e;rw [e,h]
 split
 ·rename_i e;rw [e,h']
 rfl
theorem aZ.all{xss:ah}(hM:aZ xss){f:Int}(h0:0<=f)(h1:f< (gl xss 0).length):Reach xss 0 f:=(vo hM.2.2.1.sys (by have:=hM.2.1;omega)).1 hM.2.2.2.2 f h0 h1
theorem aZ.any{xss:ah}(hM:aZ xss){f g:Int}(h0:0<=f)(h1:f< (gl xss 0).length)(h2:0<=g)(h3:g< (gl xss 0).length):Reach xss f g:=((hM.all h0 h1).symm hM.2.2.1.sys hM.2.2.1.inj (by omega) (by have:=hM.2.1;omega)).trans (hM.all h2 h3)
theorem Cj{N:Nat}{xss:ah}(hs:Sys N xss)(bX:pT N xss):∀i,i<=N->(∀x:Int,0<=x->x<N->gi (bg N xss i).1 x= -1\/(0<=gi (bg N xss i).1 x/\gi (bg N xss i).1 x< (bg N xss i).2))/\∀v:Int,0<=v->v< (bg N xss i).2->∃x:Int,0<=x/\x<N/\gi (bg N xss i).1 x=v
 | 0,_=> ⟨fun x h0 h1=> .inl (by rw [show(bg N xss 0).1=List.replicate N (-1) from rfl,xm h0 h1]),fun v h0 h1=>by simp [bg]at h1;omega⟩
 | i+1,hi=>by
  obtain⟨h1,h2⟩:=Cj hs bX i (by omega)
  by_cases hp:0<=gi (bg N xss i).1 i
  ·rw [wA hp];exact⟨h1,h2⟩
  ·rw [vk hp];obtain⟨hg,nQ,hor⟩:=sD hs (pt:=(i:Int)) (by omega) (by omega);have hc:=(wz N xss i).1;have Ky:∀x:Int,0<=x->gi (oC (bg N xss i).1 (bg N xss i).2 (b8 N xss i)) x=if x∈b8 N xss i then(bg N xss i).2 else gi (bg N xss i).1 x:=fun x hx=>uX _ _ _ (nU N xss i) hg.range x hx
   have KC:(i:Int)∈b8 N xss i:=nQ.subset (by simp);refine⟨fun x h0 hx=>?_,fun v h0 hv=>?_⟩
   ·rw [Ky x h0];dsimp only
    split
    ·exact .inr ⟨hc,by omega⟩
    ·rcases h1 x h0 hx with h | h
     ·exact .inl h
     ·exact .inr ⟨h.1,by omega⟩
   ·dsimp only at hv|-
    by_cases e:v=(bg N xss i).2
    ·exact⟨i,by omega,by omega,by rw [Ky i (by omega),ay KC,e]⟩
    ·obtain⟨x,qn,gI,hx⟩:=h2 v h0 (by omega);refine⟨x,qn,gI,?_⟩;rw [Ky x qn,aw (fun hm=>?_),hx];obtain⟨j,hj,uh⟩:=(x4 hs i (by omega) x qn gI).1 (by rw [hx];exact h0);have BU:=(hor x).1 hm;exact hp ((x4 hs i (by omega) (i:Int) (by omega) (by omega)).2 ⟨j,hj,uh.trans (Reach.symm hs bX (by omega) (by omega) BU)⟩)
theorem Ew{N:Nat}{xss:ah}(hs:Sys N xss)(bX:pT N xss)(x:Int)(h0:0<=x)(h1:x<N):0<=gi (bg N xss N).1 x/\gi (bg N xss N).1 x< (bg N xss N).2:=by
 have:=(x4 hs N (bj _) x h0 h1).2 ⟨x.toNat,by omega,by rw [Int.toNat_of_nonneg h0];exact .refl⟩;rcases(Cj hs bX N (bj _)).1 x h0 h1 with h | h
 ·omega
 exact h
def py(xs:ai):Int:=xs.foldl (fun o x=>if o<=x then x+1 else o) 0
theorem Pf(xs:ai)(x:Int):py (xs++ [x])=if py xs<=x then x+1 else py xs:=by
 unfold py;rw [List.foldl_append]
 rfl
theorem JJ:∀(m:Nat) (xs:ai),xs.length=m->0<=py xs/\(∀x∈xs,x<py xs)/\(py xs=0\/∃x∈xs,py xs=x+1)
 | 0,xs,h=>by
  obtain rfl:=qH h;exact⟨by simp [py],(fun x hx=>by cases hx),.inl rfl⟩
 | m+1,xs,h=>by
  obtain⟨ys,y,rfl⟩:∃ys y,xs=ys++ [y]:=⟨xs.dropLast,xs.getLast (by intro e;rw [e]at h;simp at h),(List.dropLast_concat_getLast _).symm⟩;obtain⟨h1,h2,h3⟩:=JJ m ys (by simpa using h);rw [Pf]
  split
  ·refine⟨by omega,fun x hx=>?_,.inr ⟨y,by simp,O⟩⟩;rcases jz.1 hx with hx | hx
   ·have:=h2 x hx;omega
   ·simp at hx;omega
  ·refine⟨h1,fun x hx=>?_,?_⟩
   ·rcases jz.1 hx with hx | hx
    ·exact h2 x hx
    ·simp at hx;omega
   ·rcases h3 with h3 | ⟨x,hx,dH⟩
    ·exact .inl h3
    ·exact .inr ⟨x,by simp [hx],dH⟩
theorem Yv{N:Nat}{xss:ah}(hs:Sys N xss)(bX:pT N xss)(hN:0<N):py (bg N xss N).1=(bg N xss N).2:=by
 have hl:=nU N xss N;obtain⟨h1,h2,h3⟩:=JJ _ (bg N xss N).1 rfl;have bW:∀x∈(bg N xss N).1,0<=x/\x< (bg N xss N).2:=fun x hx=>by
  obtain⟨k,hk,rfl⟩:=fJ.1 hx;rw [<-bO hk];exact Ew hs bX k (by omega) (by omega)
 have h0:=Ew hs bX 0 (by omega) (by omega);obtain⟨x,qn,gI,hx⟩:=(Cj hs bX N (bj _)).2 ((bg N xss N).2 - 1) (by omega) (by omega);have hm:gi (bg N xss N).1 x∈(bg N xss N).1:=by
  have e:gi (bg N xss N).1 x=(bg N xss N).1[x.toNat]'(by omega):=by simp [gi,cN,fS (show x.toNat< (bg N xss N).1.length by omega)]
  rw [e];exact dB _
 have h4:=h2 _ hm;rcases h3 with h3 | ⟨y,hy,kq⟩
 ·omega
 have:=bW y hy;omega
def bV(xss:ah)(i:Nat):ai:=(bg (gl xss 0).length (xss.eraseIdx i) (gl xss 0).length).1
def fA(xss:ah)(i:Nat):Int:=(bg (gl xss 0).length (xss.eraseIdx i) (gl xss 0).length).2
theorem Sys.erase{N:Nat}{xss:ah}(h:Sys N xss)(i:Nat):Sys N (xss.eraseIdx i):=fun p hp=>h p (List.mem_of_mem_eraseIdx hp)
theorem pT.erase{N:Nat}{xss:ah}(h:pT N xss)(i:Nat):pT N (xss.eraseIdx i):=fun p hp=>h p (List.mem_of_mem_eraseIdx hp)
theorem F0(xss:ah)(i:Nat):(bV xss i).length=(gl xss 0).length:=nU _ _ _
theorem vJ(xss:ah)(i:Nat):0<=fA xss i/\fA xss i<=(gl xss 0).length:=wz _ _ _
theorem xi{xss:ah}(h:aZ xss)(i:Nat)(f:Nat)(hf:f< (gl xss 0).length):0<=gi (bV xss i) f/\gi (bV xss i) f<fA xss i:=Ew (h.2.2.1.sys.erase i) (h.2.2.1.inj.erase i) f (by omega) (by omega)
theorem yF{xss:ah}(h:aZ xss)(i:Nat)(v:Int)(h0:0<=v)(h1:v<fA xss i):∃f:Nat,f< (gl xss 0).length/\gi (bV xss i) f=v:=by
 obtain⟨x,qn,gI,hx⟩:=(Cj (h.2.2.1.sys.erase i) (h.2.2.1.inj.erase i) _ (bj _)).2 v h0 h1;exact⟨x.toNat,by omega,by rw [Int.toNat_of_nonneg qn];exact hx⟩
theorem Xx{xss:ah}(h:aZ xss)(i:Nat):py (bV xss i)=fA xss i:=Yv (h.2.2.1.sys.erase i) (h.2.2.1.inj.erase i) (by have:=h.2.1;omega)
theorem br.erase{w:aa}{A:aj}{n:Nat}{rs:List aN}{xss:ah}(h:br w A n rs xss){i:Nat}(hi:i<n){A':aj}(hT:lQ w A' (n - 1) (rs.eraseIdx i)):br w A' (n - 1) (rs.eraseIdx i) (xss.eraseIdx i):=by
 have hl:=h.len;have bU:=h.top.1;have er:∀j,j<n - 1->(rs.eraseIdx i).getD j ew=rs.getD (if j<i then j else j+1) ew:=fun j hj=>by
  simp only [cN,List.getElem?_eraseIdx];split<;>rfl
 have ex:∀j,j<n - 1->(xss.eraseIdx i).getD j []=xss.getD (if j<i then j else j+1) []:=fun j hj=>by
  simp only [cN,List.getElem?_eraseIdx];split<;>rfl
 refine⟨hT,by rw [List.length_eraseIdx,ay (by omega),hl],fun j hj=>?_,fun j hj=>?_⟩
 ·rw [er j hj,ex j hj];exact h.row _ (by split<;>omega)
 rw [er j hj];exact h.cap _ (by split<;>omega)
theorem acN(A:aj)(n c:Nat)(xs:ai)(v:Int)(w:aa)(hR:cn w A n xs)(hn:n<=9223372036854775807):
 aG prog 188 [.slice A n c,ak v] w (fun r w'=> (∃i:Int,r=ak i/\(0<=i↔v∈xs))/\w'=w):=by
 have gP:=hR.1;refine bA func188 O ntmps188 O (cJ O) (bL O ?_);refine Cd.loop (α:=Nat) (fun k=> [(0,.slice A n c),(1,ak v),(5,ak k)]) (fun k w'=>w'=w/\k<=n/\∀j,j<k->gi xs (j:Nat)≠v) (fun k=>n - k) 0 (ajs O) ⟨O,a7 _,fun j hj=>by omega⟩ ?_;rintro k e w ⟨rfl,hk,hK⟩;refine a8 O (bc O O (aI O ?_));refine aR _ O (fun h3=>?_) (fun h3=>?_)
 ·refine aE O (aM hR.2 O (bk hR O (aI O ?_)));refine aR _ O (fun h4=>?_) (fun h4=>?_)
  ·refine eT O (gx (fV ?_));refine gY O ?_;exact⟨⟨(k:Int),O,⟨fun _=>by rw [<-h4,bO (by omega)];exact dB _,fun _=>by omega⟩⟩,O⟩
  refine aE O (aK O (aU O (tQ ?_)));refine⟨k+1,by show n - (k+1)<n - k;omega,(ajs O),O,by omega,fun j hj=>?_⟩
  by_cases ej:j=k
  ·subst ej;exact h4
  exact hK j (by omega)
 refine bw O (bz (gE O ?_));refine gY O ⟨⟨-1,O,⟨fun h=>absurd h (by decide),fun h=>?_⟩⟩,O⟩;obtain⟨j,hj,BV⟩:=fJ.1 h;exact absurd (by rw [bO hj];exact BV) (hK j (by omega))
theorem Ht(A:aj)(n c:Nat)(xs:ai)(v:Int)(w:aa)(hR:cn w A n xs)(hn:n<=9223372036854775807):
 aG prog 117 [.slice A n c,ak v] w (fun r w'=>r= .bool (decide (v∈xs))/\w'=w):=by
 refine bA func117 O ntmps117 O (cJ O) (a8 O (aL (acN A n c xs v _ hR hn) O ?_));rintro _ w ⟨⟨i,rfl,hi⟩,rfl⟩;refine bM O (dK O ?_);exact⟨aO Value.bool (jJ.2 hi),O⟩
theorem acU(A:aj)(n c:Nat)(rs:List aN)(xss:ah)(Ai:aj)(ci:Nat)(i:Nat)(w:aa)(hR:br w A n rs xss)(hn:n<=1000)(hi:i<n)(hI:cn w Ai 1 [(i:Int)]):
 aG prog 227 [.agg #[.slice A n c],.slice Ai 1 ci] w (fun v w'=>∃A' c',v= .slice A' (n - 1) c'/\St w w' [cd 24 A' (n - 1) c' (rs.eraseIdx i)]):=by
 have bU:=hR.top.1;have step:∀k (hk:k<n),(rs.take (k+1)).eraseIdx i=if k=i then(rs.take k).eraseIdx i else(rs.take k).eraseIdx i++ [rg rs k]:=fun k hk=>by
  have e:rg rs k=rs[k]'(by omega):=by simp [rg,cN,fS (show k<rs.length by omega)]
  rw [rQ (by omega),e]
  by_cases h1:k=i
  ·subst h1;have h2:(rs.take k).length=k:=by rw [oM];omega
   rw [ay rfl,List.eraseIdx_append_of_length_le (by omega),h2,Nat.sub_self,List.eraseIdx_of_length_le (l:=rs.take k) (k:=k) (by omega)];simp
  rw [aw h1]
  by_cases h2:i<k
  ·rw [List.eraseIdx_append_of_lt_length (by simp;omega)]
  rw [List.eraseIdx_of_length_le (l:=rs.take k++_) (by rw [cS,oM,List.length_singleton];omega),List.eraseIdx_of_length_le (l:=rs.take k) (by rw [oM];omega)]
 have hlen:∀k,k<=n->((rs.take k).eraseIdx i).length=if i<k then k - 1 else k:=fun k hk=>by
  rw [List.length_eraseIdx,oM,Nat.min_eq_left (by omega)]
 refine bA func227 O ntmps227 O (cJ O) (a8 O (jd (St.refl w) O O ?_));intro Ab w1 aA;refine ar O (ny aA O ?_);intro A5 w2 aB;have aB:St w w2 [cd 24 A5 0 0 [],Bx 37 1 Ab [.slice A n c]]:=aB;refine aI O (Cd.loop (α:=Nat×aj×Nat) (fun z=> [(1,.slice Ai 1 ci),(2,.pointer Ab),(5,.slice z.2.1 ((rs.take z.1).eraseIdx i).length z.2.2),(6,ak (z.1:Int))]) (fun z w'=>St w w' [cd 24 z.2.1 ((rs.take z.1).eraseIdx i).length z.2.2 ((rs.take z.1).eraseIdx i),Bx 37 1 Ab [.slice A n c]]/\z.1<=n) (fun z=>n - z.1) (0,A5,0) (ajs O) ⟨aB,a7 _⟩ ?_);rintro⟨k,A6,c6⟩ e w3 ⟨aH,hk⟩;dsimp only at aH hk|-;have dF:=aH.bY hR;have km:=hlen k hk;refine a8 O (aX (aH.rd 1 O) O (bn (aH.rd 1 O) O ?_));refine bc O O (aI O ?_);refine aR _ O (fun h1=>?_) (fun h1=>?_)
 ·have au:=step k (by omega);refine aE O (aL (Ht Ai 1 ci _ k _ (aH.gW hI) (by omega)) O ?_);rintro _ w3 ⟨rfl,rfl⟩
  first | refine eA rfl rfl ?_ | refine eU rfl rfl ?_
  refine aI O (aR _ O (fun h2=>?_) (fun h2=>?_))
  ·rw [aw (fun h=>h2 (by rw [h];simp))]at au;refine aE O (aX (aH.rd 1 O) O (bn (aH.rd 1 O) O (ar O (ajh dF.top.2 O O O (by omega) h1 (dI dF.top O (kO aH O O O ?_))))));intro A7 w4 aV;refine mJ 1 aV O (aV.gQ 0 O) O O O (by rw [km];split<;>omega) (by rw [km];split<;>omega) O ?_;intro A8 c8 w5 aW;refine ar O (aK O (aU O (tQ ?_)));have e1:((rs.take (k+1)).eraseIdx i).length=((rs.take k).eraseIdx i).length+1:=by rw [au];simp
   refine⟨(k+1,A8,c8),by show n - (k+1)<n - k;omega,⟨O,O,by show Value.slice _ _ _= .slice _ _ _;rw [e1],O,av⟩,?_,by show k+1<=n;omega⟩;show St w w5 [cd _ A8 ((rs.take (k+1)).eraseIdx i).length c8 ((rs.take (k+1)).eraseIdx i),_];rw [e1,au];exact aW.tail
  have h3:=iy.1 h2;simp only [gk]at h3;rw [ay (by omega)]at au;refine aE O (aK O (aU O (tQ ?_)));refine⟨(k+1,A6,c6),by show n - (k+1)<n - k;omega,⟨O,O,by show Value.slice _ _ _= .slice _ _ _;rw [au],O,av⟩,?_,by show k+1<=n;omega⟩;show St w w3 [cd _ A6 ((rs.take (k+1)).eraseIdx i).length c6 ((rs.take (k+1)).eraseIdx i),_];rw [au];exact aH
 refine bw O (bz (gE O ?_));refine gD O ?_;have kl:k=n:=by omega
 subst kl;rw [jW (by omega)]at aH;have e1:(rs.eraseIdx i).length=k - 1:=by rw [List.length_eraseIdx,ay (by omega),bU]
 rw [jW (by omega),e1];rw [e1]at aH;exact⟨A6,c6,O,aH.sub (List.Sublist.cons_cons _ (List.nil_sublist _))⟩
theorem SV(c:Int)(x:Int):∀(a L:ai),oC L c (a++ [x])=(oC L c a).set x.toNat c
 | [],_=>rfl
 | y::a,L=>SV c x a (L.set y.toNat c)
theorem acP(A:aj)(n c:Nat)(rs:List aN)(xss:ah)(N:Nat)(w:aa)(hR:br w A n rs xss)(hn:n<=1000)(hs:Sys N xss)(hN:N<=1000):
 aG prog 226 [ak N,.slice A n c] w (fun v w'=>∃A' c',v= .slice A' N c'/\St w w' [az 2 A' N c' (bg N xss N).1]):=by
 refine bA func226 O ntmps226 O (cJ O) (a8 O (ny (St.refl w) O ?_));intro A5 w1 aA;have aA:St w w1 [az 2 A5 0 0 (List.replicate 0 (-1))]:=aA;refine aI O (Cd.loop (α:=Nat×aj×Nat) (fun z=> [(0,ak N),(1,.slice A n c),(5,.slice z.2.1 z.1 z.2.2),(6,ak (z.1:Int))]) (fun z w'=>St w w' [az 2 z.2.1 z.1 z.2.2 (List.replicate z.1 (-1))]/\z.1<=N) (fun z=>N - z.1) (0,A5,0) (ajs O) ⟨aA,a7 _⟩ ?_);rintro⟨k,A6,c6⟩ e w2 ⟨aB,hk⟩;dsimp only at aB hk|-;refine bL O (aR _ O (fun h1=>?_) (fun h1=>?_))
 ·refine aE O (eH aB O O O ?_);intro A7 w3 aH;refine fN 1 aH O (aH.bI 0 O) O O O fun A8 c8 w4 aV=>ar O (aK O (aU O (tQ ?_)));refine⟨(k+1,A8,c8),by show N - (k+1)<N - k;omega,(ajs O),?_,by show k+1<=N;omega⟩;show St w w4 [az _ A8 (k+1) c8 (List.replicate (k+1) (-1))];rw [List.replicate_succ'];exact aV.tail
 refine bw O (bz (pS O ?_));have ui:k=N:=by omega
 subst ui;refine Cd.loop (α:=Nat) (fun i=> [(0,ak k),(1,.slice A n c),(5,.slice A6 k c6),(7,ak (bg k xss i).2),(8,ak i)]) (fun i w'=>St w w' [az 2 A6 k c6 (bg k xss i).1]/\i<=k) (fun i=>k - i) 0 (ajs O) ⟨aB,a7 _⟩ ?_;rintro i e w3 ⟨aH,hi⟩;have DE:=aH.bI 0 O;have mo:=wz k xss i;refine bL O (aR _ O (fun h2=>?_) (fun h2=>?_))
 ·refine aE O (aM DE.2 O (bk DE O (aI O ?_)));refine aR _ O (fun h3=>?_) (fun h3=>?_)
  ·refine aE O (aK O (aU O (tQ ?_)));refine⟨i+1,by show k - (i+1)<k - i;omega,⟨O,O,O,by show Value.int .i64 _=ak _;rw [wA h3],O,av⟩,by rw [wA h3];exact aH,by omega⟩
  obtain⟨hg,_,_⟩:=sD hs (pt:=(i:Int)) (by omega) (by omega);refine aE O (aL (acO A n c rs xss k i _ (aH.bY hR) (by omega) hs (by omega) (by omega) (by omega)) O ?_);rintro _ w4 ⟨A9,c9,rfl,au⟩;have aV:=aH.call au;have KS:(b8 k xss i).length<=k:=hg.len;refine aI O (Cd.loop (α:=Nat) (fun m=> [(0,ak k),(1,.slice A n c),(5,.slice A6 k c6),(7,ak (bg k xss i).2),(8,ak i),(9,.slice A9 (b8 k xss i).length c9),(10,ak m)]) (fun m w'=>St w w' [az 2 A9 (b8 k xss i).length c9 (b8 k xss i),az 2 A6 k c6 (oC (bg k xss i).1 (bg k xss i).2 ((b8 k xss i).take m))]/\m<=(b8 k xss i).length) (fun m=> (b8 k xss i).length - m) 0 (ajs O) ⟨aV,a7 _⟩ ?_);rintro m e w5 ⟨aW,hm⟩;have PI:=aW.bI 0 O;refine a8 O (bc O O (aI O ?_));refine aR _ O (fun h4=>?_) (fun h4=>?_)
  ·have iO:m< (b8 k xss i).length:=by omega
   have QY:=hg.range _ (gi_in iO);refine aE O (aM PI.2 O (bk PI O (ar O (aM (aW.bI 1 O).2 O (lu 1 aW O O O (by omega) ?_)))));intro w6 ba;refine ar O (aK O (aU O (tQ ?_)));refine⟨m+1,by show _ - (m+1)<_ - m;omega,(ajs O),?_,iO⟩;rw [uF iO,SV];exact ba
  refine bw O (bz (dh O (aK O (ar O (aK O (aU O (tQ ?_)))))));have hme:m=(b8 k xss i).length:=by omega
  subst hme;rw [List.take_length]at aW;refine⟨i+1,by show k - (i+1)<k - i;omega,⟨O,O,O,by show Value.int .i64 _=ak _;rw [vk h3],O,av⟩,by rw [vk h3];exact aW.tail,by omega⟩
 refine bw O (bz (gE O ?_));refine gD O ?_;have mr:i=k:=by omega
 subst mr;exact⟨A6,c6,O,aH⟩
theorem acT(A:aj)(n c:Nat)(xs:ai)(w:aa)(hR:cn w A n xs)(hn:n<=1000000)(hx:∀x∈xs,x<=1000000):
 aG prog 175 [.slice A n c] w (fun v w'=>v=ak (py xs)/\w'=w):=by
 have gP:=hR.1;refine bA func175 O ntmps175 O (cJ O) (bL O ?_);refine Cd.loop (α:=Nat) (fun k=> [(0,.slice A n c),(3,ak (py (xs.take k))),(4,ak k)]) (fun k w'=>w'=w/\k<=n) (fun k=>n - k) 0 (ajs O) ⟨O,a7 _⟩ ?_;rintro k e w ⟨rfl,hk⟩;refine a8 O (bc O O (aI O ?_));refine aR _ O (fun h1=>?_) (fun h1=>?_)
 ·have hg:gi xs k<=1000000:=hx _ (by rw [bO (by omega)];exact dB _);have au:py (xs.take (k+1))=if py (xs.take k)<=gi xs k then gi xs k+1 else py (xs.take k):=by rw [uF (by omega),Pf]
  have hg0:=(JJ _ (xs.take k) O).1;refine aE O (aM hR.2 O (bk hR O (aI O ?_)));refine aR _ O (fun h2=>?_) (fun h2=>?_)
  ·rw [ay h2]at au;refine aE O (aM hR.2 O (bk hR O ?_));refine aK O (ar O (aK O (aU O (tQ ?_))));exact⟨k+1,by show n - (k+1)<n - k;omega,⟨O,by show Value.int .i64 _=ak _;rw [au],O,av⟩,O,by omega⟩
  rw [aw h2]at au;refine aE O (aK O (aU O (tQ ?_)));exact⟨k+1,by show n - (k+1)<n - k;omega,⟨O,by show Value.int .i64 _=ak _;rw [au],O,av⟩,O,by omega⟩
 refine bw O (bz (gE O ?_));refine gY O ?_;have kl:k=n:=by omega
 subst kl;exact⟨by rw [<-gP,List.take_length],O⟩
theorem acS(A:aj)(n c:Nat)(rs:List aN)(xss:ah)(i:Nat)(w:aa)(hR:br w A n rs xss)(hM:aZ xss)(hi:i<n):
 aG prog 174 [.agg #[.slice A n c],ak i] w (fun v w'=>∃A' c',v= .slice A' (gl xss 0).length c'/\St w w' [az 2 A' (gl xss 0).length c' (bV xss i)]):=by
 have hl:=hR.len;have h1:=hM.1;have h2:=hM.2.1;have hs:=hM.2.2.1.sys;refine bA func174 O ntmps174 O (cJ O) (a8 O (jd (St.refl w) O O ?_));intro Ab w1 aA;refine aI O ?_;refine eY [.ex (.agg #[.slice (A) (n) (c)]),xI (((gl xss 0).length:Int)),.ex (.agg #[.slice (A) (n) (c)]),xI ((i:Int)),.pr (fun v w'=>∃A1,v= .slice A1 1 1/\cn w' A1 1 [(i:Int)]),.pr (fun v w'=>∃A1 c1,v= .slice A1 (n - 1) c1/\br w' A1 (n - 1) (rs.eraseIdx i) (xss.eraseIdx i)),.pr (fun v w'=>∃A1 c1,v= .slice A1 (gl xss 0).length c1/\St w w' [az 2 A1 (gl xss 0).length c1 (bV xss i)]),.pr (fun v w'=>∃A1 c1,v= .slice A1 (gl xss 0).length c1/\St w w' [az 2 A1 (gl xss 0).length c1 (bV xss i)])] rfl (lx (lx (lx (lx (cI.2 ⟨Yd.cV (fun v w w' h hb=>by obtain⟨A1,hv,hT⟩:=h;exact⟨A1,hv,hT.aq hb⟩),(cI.2 ⟨Yd.cV (fun v w w' h hb=>by obtain⟨A1,c1,hv,hT⟩:=h;exact⟨A1,c1,hv,hT.aq hb⟩),(cI.2 ⟨Yd.cV (fun v w w' h hb=>by obtain⟨A1,c1,hv,hT⟩:=h;exact⟨A1,c1,hv,hT.aq hb⟩),(cI.2 ⟨Yd.cV (fun v w w' h hb=>by obtain⟨A1,c1,hv,hT⟩:=h;exact⟨A1,c1,hv,hT.aq hb⟩),(fun _ h=>by cases h)⟩)⟩)⟩)⟩))))) ?_ ?_
 ·refine⟨fun _ _ hb _ _=>ao.b7 0 ((aA.rd 0 O).below hb) O O O Az,?_,fun _ _ hb _ _=>ao.b7 0 ((aA.rd 0 O).below hb) O O O Az,Dr O,?_,?_,?_,?_,av⟩
  ·intro e1 w1 hb hp a6;refine aL (RY A n c rs xss _ ((aA.aq hb).bY hR) (by omega)) O ?_;rintro _ w2 ⟨rfl,au⟩;refine ao.n ?_;exact gz.dn au.below (by exact O)
  ·intro e1 w1 hb hp a6;exact eH (St.refl _) O O O fun A1 w9 au=>ao.n (gz.dn au.below ⟨A1,O,au.bI 0 O⟩)
  ·intro e1 w1 hb hp a6;obtain⟨A0,h9,Kc⟩:=(hp 4 (by decide) rfl _ _ rfl rfl);refine ajj (acU A n c rs xss A0 1 i _ ((aA.aq hb).bY hR) (by omega) hi Kc) O (by exact aO (fun v=> [Value.agg #[.slice A n c],v]) h9) O ?_;rintro _ w9 ⟨A1,c1,rfl,au⟩;exact ao.n (gz.dn au.below ⟨A1,c1,O,(((aA.aq hb).bY hR).aq au.below).erase hi (au.gQ 0 O)⟩)
  ·intro e1 w1 hb hp a6;obtain⟨A0,c0,ia,Kc⟩:=(hp 5 (by decide) rfl _ _ rfl rfl);refine ajj (acP A0 (n - 1) c0 _ _ (gl xss 0).length _ Kc (by omega) (hs.erase i) (by omega)) O (by exact aO (fun v=> [Value.int .i64 ((gl xss 0).length:Int),v]) ia) O ?_;rintro _ w9 ⟨A1,c1,rfl,au⟩;exact ao.n (gz.dn au.below ⟨A1,c1,O,(aA.aq hb).none.call au⟩)
  intro e1 w1 hb hp a6;obtain⟨A1,c1,p5,hT⟩:=(hp 6 (by decide) rfl _ _ rfl rfl);refine tJ O (by exact p5) O (ao.n ?_);exact gz.dn (Below.refl _ _) ⟨A1,c1,O,hT⟩
 intro u w9 qY hu;obtain⟨A9,c9,h4,hT⟩:=hu 7 _ rfl;refine CT O (gD (by exact h4) ?_);exact⟨A9,c9,O,hT⟩
end
end Go.Proofs.YtagdamiiececaaaGreatDoor.Vc
