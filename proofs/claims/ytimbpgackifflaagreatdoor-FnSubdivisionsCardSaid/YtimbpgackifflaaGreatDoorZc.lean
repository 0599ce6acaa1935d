/-
 Lemmas. Conditions: as each states them.
-/
import Derived.Test.YtimbpgackifflaaGreatDoorLay
import Derived.Shelf.SortM.Plain
import Derived.Test.YtimbpgackifflaaGreatDoorZb
set_option maxHeartbeats 8000000
namespace Go.Proofs.YtimbpgackifflaaGreatDoor.Vc
open Tryz
section
open Go.RowKit Go.Sort
variable{w w0:aa}{off:Nat}
theorem aju{g n:Nat}{os:Array Obj}{cur:Array ab}{e:ad}{fr:Nat×Nat}(d:Array Int)(hb:w.heap[g]?=some (.cells cur e fr)):(Go.Sort.grow (putRow (Value.int .i64) (Sort.ahead w n) g off d) os).heap[g]?=some (.cells (putCells (Value.int .i64) off d cur) e fr):=by
 have hg:g<w.heap.size:=(Array.getElem?_eq_some_iff.1 hb).1;rw[heap_grow_old _ _ (by simpa using hg)];simp[putRow,mapBlock,Sort.ahead,Array.getElem?_modify,hb,onCells]
theorem ahz{g n:Nat}{os:Array Obj}(d:Array Int):DB w (Go.Sort.grow (putRow (Value.int .i64) (Sort.ahead w n) g off d) os) (some g):=by
 refine⟨⟨O,O,O,by simp,λk hk bN=>?_⟩,Nat.le_add_right _ _⟩;rw[heap_grow_old _ _ (by simpa using hk)];have:g≠k:=λe=>bN (by rw[e])
 simp[putRow,mapBlock,Sort.ahead,Array.getElem?_modify,this]
theorem arG{ks:List Ck}(i:Nat){t:ad}{A:ai}{n c:Nat}{xs:ah}(hS:St w0 w ks)(hk:ks[i]?=some (av t A n c xs))(h0:0<n)(hn:n<=1000000000):
 aF prog 81 [.slice A n c] w (λv w'=>v=.tuple #[]/\St w0 w' (ks.set i (av t A n c (fb xs)))):=by
 obtain⟨h1,h2,h3,h4⟩:=hS.py hk (vH _);have hl:xs.length=n:=hS.Bw i hk;have h2:n<=c:=h2;rcases h4 with⟨_,kF⟩|⟨g,o,cur,hA,hg,hh,hs,hc⟩
 ·have kF:c=0:=kF;omega
 have hA:A=some ⟨g,o,none⟩:=hA;have hs:o+c<=cur.size:=hs;have hc:∀j,j<n->cur[o+j]?=(xs.map (Value.int .i64))[j]?:=hc;subst hA;subst hl;have hH:Holds (Value.int .i64) w g o xs.toArray:=λj hj=>by
  have iJ:j<xs.length:=by simpa using hj
  refine⟨?_,by simp[World.frozen?,hh]⟩;simp only[World.cell?,hh];simp only[Option.isSome_none,Bool.false_eq_true,if_false];rw[hc j iJ];simp[iJ]
 have dH:g<w.heap.size:=(Array.getElem?_eq_some_iff.1 hh).1;have key:=AnyM.slices_Sort_int QU g o c xs w hH dH ac;refine Calls.mono key λx w' ⟨hx,m,os,hw⟩=>⟨_,hx,O,?_⟩
 subst hw;have EH:(fb xs).length=xs.length:=(tD xs).length_eq;refine hS.turn hk O O (ahz _) (.qS (vH _) ⟨by simp[EH],h2,h3,.inr ⟨g,o,_,O,hg,aju _ hh,by simp only[putCells,Array.size_mapIdx];exact hs,λj hj=>?_⟩⟩);have hj:j<xs.length:=hj;show(putCells (Value.int .i64) o (fb xs).toArray cur)[o+j]?=((fb xs).map (Value.int .i64))[j]?;have GZ:o+j<cur.size:=by have:xs.length<=c:=h2;omega
 simp[putCells,GZ,EH,hj]
end
section
open Go.RowKit
def SP(L:ah)(K:Int)(w:aa)(v:ab)(w':aa):Prop:=∃A' c',v=.tuple #[.slice A' L.length c',aj K]/\St w w' [av 2 A' L.length c' L]
theorem Fe{α:Type}{l:List α}{i:Nat}{x:α}(h:l[i]?=some x):l.set i x=l:=by
 apply List.ext_getElem?;intro j;rw[lI]
 split
 ·rename_i e;subst e;rw[aG (iD.1 h).1,h]
 rfl
theorem Rd.one{w:aa}{A:ai}{n:Nat}{f:Nat->ab}(h:Rd w A (n+1) f):Rd w A 1 (λ_=>f 0):=λj hj=>by
 obtain rfl:j=0:=by omega
 exact h 0 ac
def marks(k:Int)(n:Nat):ah:=(List.range n).map λj:Nat=>k+(j:Int)
section
variable {P:Program}{N:Nat}{ops:Array Oper}{K:Env->aa->Prop}{rest:List Oper}{e:Env}{w:aa}{d:Nat}{ty:ad}{pos:String}{af:Array Edge}
theorem Iz{F:FuncId}{x:ae}{v1:ab}(hx:ev e x=v1)(hb:Nat.blt d N=true)(hK:ak P N ops K rest (bE e d (.func (.func F) #[] #[v1])) w):
 ak P N ops K (⟨some d,.makeFunc (.func F) #[] #[x],ty,pos,af,none⟩::rest) e w:=
 .val (by simp[execOp,Instr.makeFunc,hx]) hb hK
end
theorem ahi(l:ah)(i:Nat):gi (l.drop i) 0=gi l i:=by simp[gi,b5,List.getElem?_drop]
theorem ac4{w0 w:aa}{ks:List Ck}{i:Nat}{t:ad}{A:ai}{n c l:Nat}{xs:ah}(hS:St w0 w ks)(hk:ks[i]?=some (av t A n c xs))(hl:l<=n):St w0 w (ks.set i (av t (cutAt A c l) (n-l) (c-l) (xs.drop l))):=by
 have cT:=hS.Bw i hk;obtain⟨h1,h2,h3,h4⟩:=hS.py hk (vH _);have h2:n<=c:=h2;have h3:c<=maxLen:=h3;rcases h4 with⟨hA,kF⟩|⟨g,o,cur,hA,hg,hh,hs,hc⟩
 ·have hA:A=Option.none:=hA;have kF:c=0:=kF;subst hA kF;obtain rfl:n=0:=by omega
  obtain rfl:l=0:=by omega
  obtain rfl:=iL cT;have e:cutAt Option.none 0 0=Option.none:=O;rw[e];show St w0 w (ks.set i (av t Option.none 0 0 []));rw[Fe hk];exact hS
 have hA:A=some ⟨g,o,Option.none⟩:=hA;have hs:o+c<=cur.size:=hs;have hh:w.heap[g]?=some (.cells cur t (0,0)):=hh;have hc:∀j,j<n->cur[o+j]?=(xs.map (Value.int .i64))[j]?:=hc;subst hA;have na:∃o',cutAt (some ⟨g,o,Option.none⟩) c l=some ⟨g,o',Option.none⟩/\o'+(c-l)<=cur.size/\(0<n-l->o'=o+l):=by
  unfold cutAt
  split
  ·exact⟨o,O,ac,λh=>by omega⟩
  exact⟨o+l,by simp[aH,BX],ac,λ_=>O⟩
 obtain⟨o',e1,e2,e3⟩:=na;refine hS.turn hk O (by simp[Ck.iv,e1]) ⟨⟨O,O,O,cJ _,λ_ _ _=>O⟩,cJ _⟩ (.qS (vH _) ⟨by simp[cT],by show n-l<=c-l;omega,by show c-l<=maxLen;omega,.inr ⟨g,o',cur,e1,hg,hh,e2,λj hj=>?_⟩⟩);have hj:j<n-l:=hj;show cur[o'+j]?=((xs.drop l).map (Value.int .i64))[j]?;rw[e3 (Nat.zero_lt_of_lt hj),Nat.add_assoc,hc (l+j) (Nat.add_lt_of_lt_sub' hj)];simp[List.getElem?_drop]
theorem aat(u:Nat->ab){i j:Nat}{v w:ab}(h:u i=v)(h':u j=w):u=λk=>if k=i then v else if k=j then w else u k:=by
 funext k
 split
 ·rename_i e;rw[e,h]
 split
 ·rename_i e;rw[e,h']
 rfl
theorem K9{N:Nat}{xss:ag}(hs:Sys N xss)(fY:tH N xss):∀i,i<=N->(∀x:Int,0<=x->x<N->gi (bO N xss i).1 x= -1\/(0<=gi (bO N xss i).1 x/\gi (bO N xss i).1 x<(bO N xss i).2))/\∀v:Int,0<=v->v<(bO N xss i).2->∃x:Int,0<=x/\x<N/\gi (bO N xss i).1 x=v
 |0,_=>⟨λx h0 h1=>.inl (by rw[show(bO N xss 0).1=List.replicate N (-1)from rfl,wD h0 h1]),λv h0 h1=>by simp[bO]at h1;omega⟩
 |i+1,hi=>by
  obtain⟨h1,h2⟩:=K9 hs fY i ac
  by_cases hp:0<=gi (bO N xss i).1 i
  ·rw[Da hp];exact⟨h1,h2⟩
  ·rw[Bv hp];obtain⟨hg,fx,l5⟩:=zd hs (pt:=(i:Int)) ac ac;have hc:=(y5 N xss i).1;have AK:∀x:Int,0<=x->gi (pZ (bO N xss i).1 (bO N xss i).2 (gw N xss i)) x=if x∈gw N xss i then(bO N xss i).2 else gi (bO N xss i).1 x:=λx hx=>yd _ _ _ (qP N xss i) hg.range x hx
   have ln:(i:Int)∈gw N xss i:=fx.subset (by simp);refine⟨λx h0 hx=>?_,λv h0 hv=>?_⟩
   ·rw[AK x h0];dsimp only
    split
    ·exact .inr ⟨hc,ac⟩
    ·rcases h1 x h0 hx with h|h
     ·exact .inl h
     ·exact .inr ⟨h.1,ac⟩
   ·dsimp only at hv|-
    by_cases e:v=(bO N xss i).2
    ·exact⟨i,ac,ac,by rw[AK i (by omega),aG ln,e]⟩
    ·obtain⟨x,uv,mC,hx⟩:=h2 v h0 ac;refine⟨x,uv,mC,?_⟩;rw[AK x uv,aD (λhm=>?_),hx];obtain⟨j,hj,pL⟩:=(Bu hs i ac x uv mC).1 (by rw[hx];exact h0);have GS:=(l5 x).1 hm;exact hp ((Bu hs i ac (i:Int) ac ac).2 ⟨j,hj,pL.trans (Reach.symm hs fY ac ac GS)⟩)
theorem ane{N:Nat}{xss:ag}(hs:Sys N xss)(fY:tH N xss)(x:Int)(h0:0<=x)(h1:x<N):0<=gi (bO N xss N).1 x/\gi (bO N xss N).1 x<(bO N xss N).2:=by
 have:=(Bu hs N (cJ _) x h0 h1).2 ⟨x.toNat,ac,by rw[Int.toNat_of_nonneg h0];exact .refl⟩;rcases(K9 hs fY N (cJ _)).1 x h0 h1 with h|h
 ·omega
 exact h
def qq(xs:ah):Int:=xs.foldl (λo x=>if o<=x then x+1 else o) 0
theorem VJ(xs:ah)(x:Int):qq (xs++[x])=if qq xs<=x then x+1 else qq xs:=by
 unfold qq;rw[List.foldl_append]
 rfl
theorem N5:∀(m:Nat)(xs:ah),xs.length=m->0<=qq xs/\(∀x∈xs,x<qq xs)/\(qq xs=0\/∃x∈xs,qq xs=x+1)
 |0,xs,h=>by
  obtain rfl:=iL h;exact⟨by simp[qq],(λx hx=>by cases hx),.inl rfl⟩
 |m+1,xs,h=>by
  obtain⟨ys,y,rfl⟩:∃ys y,xs=ys++[y]:=⟨xs.dropLast,xs.getLast (by intro e;rw[e]at h;simp at h),(List.dropLast_concat_getLast _).symm⟩;obtain⟨h1,h2,h3⟩:=N5 m ys (by simpa using h);rw[VJ]
  split
  ·refine⟨ac,λx hx=>?_,.inr ⟨y,by simp,O⟩⟩;rcases dF.1 hx with hx|hx
   ·have:=h2 x hx;omega
   ·simp at hx;omega
  ·refine⟨h1,λx hx=>?_,?_⟩
   ·rcases dF.1 hx with hx|hx
    ·exact h2 x hx
    ·simp at hx;omega
   ·rcases h3 with h3|⟨x,hx,jT⟩
    ·exact .inl h3
    ·exact .inr ⟨x,by simp[hx],jT⟩
def dG(xss:ag)(i:Nat):ah:=(bO (gl xss 0).length (xss.eraseIdx i) (gl xss 0).length).1
def kC(xss:ag)(i:Nat):Int:=(bO (gl xss 0).length (xss.eraseIdx i) (gl xss 0).length).2
theorem Sys.erase{N:Nat}{xss:ag}(h:Sys N xss)(i:Nat):Sys N (xss.eraseIdx i):=λp hp=>h p (List.mem_of_mem_eraseIdx hp)
theorem tH.erase{N:Nat}{xss:ag}(h:tH N xss)(i:Nat):tH N (xss.eraseIdx i):=λp hp=>h p (List.mem_of_mem_eraseIdx hp)
theorem Jr(xss:ag)(i:Nat):(dG xss i).length=(gl xss 0).length:=qP _ _ _
theorem DU(xss:ag)(i:Nat):0<=kC xss i/\kC xss i<=(gl xss 0).length:=y5 _ _ _
theorem UX{xss:ag}(h:eY xss)(i:Nat)(f:Nat)(hf:f<(gl xss 0).length):0<=gi (dG xss i) f/\gi (dG xss i) f<kC xss i:=ane (h.2.2.1.sys.erase i) (h.2.2.1.inj.erase i) f ac ac
theorem QM{N:Nat}{xss:ag}(hs:Sys N xss):∀i,i<=N->(∀x:Int,0<=x->x<N->gi (bO N xss i).1 x= -1\/(0<=gi (bO N xss i).1 x/\gi (bO N xss i).1 x<(bO N xss i).2))/\(0<(bO N xss i).2->∃x:Int,0<=x/\x<N/\gi (bO N xss i).1 x=(bO N xss i).2-1)
 |0,_=>⟨λx h0 h1=>.inl (by rw[show(bO N xss 0).1=List.replicate N (-1)from rfl,wD h0 h1]),λh=>by simp[bO]at h⟩
 |i+1,hi=>by
  obtain⟨h1,h2⟩:=QM hs i ac
  by_cases hp:0<=gi (bO N xss i).1 i
  ·rw[Da hp];exact⟨h1,h2⟩
  ·rw[Bv hp];obtain⟨hg,fx,l5⟩:=zd hs (pt:=(i:Int)) ac ac;have hc:=(y5 N xss i).1;have AK:∀x:Int,0<=x->gi (pZ (bO N xss i).1 (bO N xss i).2 (gw N xss i)) x=if x∈gw N xss i then(bO N xss i).2 else gi (bO N xss i).1 x:=λx hx=>yd _ _ _ (qP N xss i) hg.range x hx
   have ln:(i:Int)∈gw N xss i:=fx.subset (by simp);refine⟨λx h0 hx=>?_,λ_=>⟨i,ac,ac,by rw[AK i (by omega),aG ln];show _=(bO N xss i).2+1-1;omega⟩⟩;rw[AK x h0];dsimp only
   split
   ·exact .inr ⟨hc,ac⟩
   ·rcases h1 x h0 hx with h|h
    ·exact .inl h
    ·exact .inr ⟨h.1,ac⟩
theorem QL{N:Nat}{xss:ag}(hs:Sys N xss)(x:Int)(h0:0<=x)(h1:x<N):0<=gi (bO N xss N).1 x/\gi (bO N xss N).1 x<(bO N xss N).2:=by
 have:=(Bu hs N (cJ _) x h0 h1).2 ⟨x.toNat,ac,by rw[Int.toNat_of_nonneg h0];exact .refl⟩;rcases(QM hs N (cJ _)).1 x h0 h1 with h|h
 ·omega
 exact h
theorem ahE{N:Nat}{xss:ag}(hs:Sys N xss)(hN:0<N):qq (bO N xss N).1=(bO N xss N).2:=by
 have hl:=qP N xss N;obtain⟨h1,h2,h3⟩:=N5 _ (bO N xss N).1 rfl;have cE:∀x∈(bO N xss N).1,0<=x/\x<(bO N xss N).2:=λx hx=>by
  obtain⟨k,hk,rfl⟩:=fS.1 hx;rw[<-b7 hk];exact QL hs k ac ac
 have h0:=QL hs 0 ac ac;obtain⟨x,uv,mC,hx⟩:=(QM hs N (cJ _)).2 ac;have hm:gi (bO N xss N).1 x∈(bO N xss N).1:=by
  have e:gi (bO N xss N).1 x=(bO N xss N).1[x.toNat]' ac:=by simp[gi,b5,fL (show x.toNat<(bO N xss N).1.length by omega)]
  rw[e];exact dt _
 have h4:=h2 _ hm;rcases h3 with h3|⟨y,hy,vG⟩
 ·omega
 have:=cE y hy;omega
def wh(M:ag):Prop:=(1<=M.length/\M.length<=5)/\(1<=(gl M 0).length/\(gl M 0).length<=400)/\Sys (gl M 0).length M
theorem eY.ar1{M:ag}(h:eY M):wh M:=⟨h.1,⟨by have:=h.2.1;omega,h.2.1.2⟩,h.2.2.1.sys⟩
theorem Js{xss:ag}(h:wh xss)(i:Nat)(f:Nat)(hf:f<(gl xss 0).length):0<=gi (dG xss i) f/\gi (dG xss i) f<kC xss i:=QL (h.2.2.erase i) f ac ac
theorem agt{xss:ag}(h:wh xss)(i:Nat):qq (dG xss i)=kC xss i:=ahE (h.2.2.erase i) (by have:=h.2.1;omega)
theorem bH.erase{w:aa}{A:ai}{n:Nat}{rs:List aE}{xss:ag}(h:bH w A n rs xss){i:Nat}(hi:i<n){A':ai}(hT:fu w A' (n-1) (rs.eraseIdx i)):bH w A' (n-1) (rs.eraseIdx i) (xss.eraseIdx i):=by
 have hl:=h.len;have bT:=h.top.1;have er:∀j,j<n-1->(rs.eraseIdx i).getD j bI=rs.getD (if j<i then j else j+1) bI:=λj hj=>by
  simp only[b5,List.getElem?_eraseIdx];split<;>rfl
 have ex:∀j,j<n-1->(xss.eraseIdx i).getD j []=xss.getD (if j<i then j else j+1) []:=λj hj=>by
  simp only[b5,List.getElem?_eraseIdx];split<;>rfl
 refine⟨hT,by rw[List.length_eraseIdx,aG (by omega),hl],λj hj=>?_,λj hj=>?_⟩
 ·rw[er j hj,ex j hj];exact h.row _ (by split<;>omega)
 rw[er j hj];exact h.cap _ (by split<;>omega)
theorem amx(A:ai)(n c:Nat)(xs:ah)(v:Int)(w:aa)(hR:bu w A n xs)(hn:n<=9223372036854775807):
 aF prog 93 [.slice A n c,aj v] w (λr w'=>(∃i:Int,r=aj i/\(0<=i↔v∈xs))/\w'=w):=by
 have cT:=hR.1;refine bn func93 O ntmps93 O (bM O) (bC O ?_);refine Cd.loop (α:=Nat) (λk=>[(0,.slice A n c),(1,aj v),(5,aj k)]) (λk w'=>w'=w/\k<=n/\∀j,j<k->gi xs (j:Nat)≠v) (λk=>n-k) 0 (auV O) ⟨O,bl _,λj hj=>by omega⟩ ?_;rintro k e w ⟨rfl,hk,hK⟩;refine aY O (aR O O (ay O ?_));refine aK _ O (λh3=>?_) (λh3=>?_)
 ·refine aC O (aA hR.2 O (bg hR O (ay O ?_)));refine aK _ O (λh4=>?_) (λh4=>?_)
  ·refine dE O (fz (fe ?_));refine gj O ?_;exact⟨⟨(k:Int),O,⟨λ_=>by rw[<-h4,b7 (by omega)];exact dt _,λ_=>by omega⟩⟩,O⟩
  refine aC O (aJ O (aN O (tQ ?_)));refine⟨k+1,by show n-(k+1)<n-k;omega,(auV O),O,ac,λj hj=>?_⟩
  by_cases ej:j=k
  ·subst ej;exact h4
  exact hK j ac
 refine ba O (bc (ew O ?_));refine gj O ⟨⟨-1,O,⟨λh=>absurd h am,λh=>?_⟩⟩,O⟩;obtain⟨j,hj,GV⟩:=fS.1 h;exact absurd (by rw[b7 hj];exact GV) (hK j ac)
theorem uy(A:ai)(n c:Nat)(xs:ah)(v:Int)(w:aa)(hR:bu w A n xs)(hn:n<=9223372036854775807):
 aF prog 89 [.slice A n c,aj v] w (λr w'=>r=.bool (decide (v∈xs))/\w'=w):=by
 refine bn func89 O ntmps89 O (bM O) (aY O (aI (amx A n c xs v _ hR hn) O ?_));rintro _ w ⟨⟨i,rfl,hi⟩,rfl⟩;refine bR O (cK O ?_);exact⟨aQ Value.bool (kl.2 hi),O⟩
theorem amF(A:ai)(n c:Nat)(rs:List aE)(xss:ag)(Ai:ai)(ci:Nat)(i:Nat)(w:aa)(hR:bH w A n rs xss)(hn:n<=1000)(hi:i<n)(hI:bu w Ai 1 [(i:Int)]):
 aF prog 203 [.agg #[.slice A n c],.slice Ai 1 ci] w (λv w'=>∃A' c',v=.slice A' (n-1) c'/\St w w' [aX 27 A' (n-1) c' (rs.eraseIdx i)]):=by
 have bT:=hR.top.1;have step:∀k (hk:k<n),(rs.take (k+1)).eraseIdx i=if k=i then(rs.take k).eraseIdx i else(rs.take k).eraseIdx i++[rg rs k]:=λk hk=>by
  have e:rg rs k=rs[k]' ac:=by simp[rg,b5,fL (show k<rs.length by omega)]
  rw[oQ (by omega),e]
  by_cases h1:k=i
  ·subst h1;have h2:(rs.take k).length=k:=by rw[jG];omega
   rw[aG rfl,List.eraseIdx_append_of_length_le (by omega),h2,Nat.sub_self,List.eraseIdx_of_length_le (l:=rs.take k) (k:=k) (by omega)];simp
  rw[aD h1]
  by_cases h2:i<k
  ·rw[List.eraseIdx_append_of_lt_length (by simp;omega)]
  rw[List.eraseIdx_of_length_le (l:=rs.take k++_) (by rw[cj,jG,List.length_singleton];omega),List.eraseIdx_of_length_le (l:=rs.take k) (by rw[jG];omega)]
 have hlen:∀k,k<=n->((rs.take k).eraseIdx i).length=if i<k then k-1 else k:=λk hk=>by
  rw[List.length_eraseIdx,jG,Nat.min_eq_left (by omega)]
 refine bn func203 O ntmps203 O (bM O) (aY O (rf (St.refl w) O O ?_));intro Ab w1 ax;refine aq O (jy ax O ?_);intro A5 w2 az;have az:St w w2 [aX 27 A5 0 0 [],Bx 32 1 Ab [.slice A n c]]:=az;refine ay O (Cd.loop (α:=Nat×ai×Nat) (λz=>[(1,.slice Ai 1 ci),(2,.pointer Ab),(5,.slice z.2.1 ((rs.take z.1).eraseIdx i).length z.2.2),(6,aj (z.1:Int))]) (λz w'=>St w w' [aX 27 z.2.1 ((rs.take z.1).eraseIdx i).length z.2.2 ((rs.take z.1).eraseIdx i),Bx 32 1 Ab [.slice A n c]]/\z.1<=n) (λz=>n-z.1) (0,A5,0) (auV O) ⟨az,bl _⟩ ?_);rintro⟨k,A6,c6⟩ e w3 ⟨aM,hk⟩;dsimp only at aM hk|-;have jg:=aM.bU hR;have AU:=hlen k hk;refine aY O (aS (aM.rd 1 O) O (a6 (aM.rd 1 O) O ?_));refine aR O O (ay O ?_);refine aK _ O (λh1=>?_) (λh1=>?_)
 ·have aw:=step k ac;refine aC O (aI (uy Ai 1 ci _ k _ (aM.dq hI) ac) O ?_);rintro _ w3 ⟨rfl,rfl⟩
  first|refine cO rfl rfl ?_|refine dv rfl rfl ?_
  refine ay O (aK _ O (λh2=>?_) (λh2=>?_))
  ·rw[aD (λh=>h2 (by rw[h];simp))]at aw;refine aC O (aS (aM.rd 1 O) O (a6 (aM.rd 1 O) O (aq O (auJ jg.top.2 O O O ac h1 (bw jg.top O (jW aM O O O ?_))))));intro A7 w4 aU;refine iT 1 aU O (aU.dm 0 O) O O O (by rw[AU];split<;>omega) (by rw[AU];split<;>omega) O ?_;intro A8 c8 w5 aO;refine aq O (aJ O (aN O (tQ ?_)));have e1:((rs.take (k+1)).eraseIdx i).length=((rs.take k).eraseIdx i).length+1:=by rw[aw];simp
   refine⟨(k+1,A8,c8),by show n-(k+1)<n-k;omega,⟨O,O,by show Value.slice _ _ _=.slice _ _ _;rw[e1],O,au⟩,?_,by show k+1<=n;omega⟩;show St w w5 [aX _ A8 ((rs.take (k+1)).eraseIdx i).length c8 ((rs.take (k+1)).eraseIdx i),_];rw[e1,aw];exact aO.tail
  have h3:=kW.1 h2;simp only[eX]at h3;rw[aG (by omega)]at aw;refine aC O (aJ O (aN O (tQ ?_)));refine⟨(k+1,A6,c6),by show n-(k+1)<n-k;omega,⟨O,O,by show Value.slice _ _ _=.slice _ _ _;rw[aw],O,au⟩,?_,by show k+1<=n;omega⟩;show St w w3 [aX _ A6 ((rs.take (k+1)).eraseIdx i).length c6 ((rs.take (k+1)).eraseIdx i),_];rw[aw];exact aM
 refine ba O (bc (ew O ?_));refine dV O ?_;have rI:k=n:=by omega
 subst rI;rw[jw (by omega)]at aM;have e1:(rs.eraseIdx i).length=k-1:=by rw[List.length_eraseIdx,aG (by omega),bT]
 rw[jw (by omega),e1];rw[e1]at aM;exact⟨A6,c6,O,aM.sub (List.Sublist.cons_cons _ (List.nil_sublist _))⟩
theorem aan(c:Int)(x:Int):∀(a L:ah),pZ L c (a++[x])=(pZ L c a).set x.toNat c
 |[],_=>rfl
 |y::a,L=>aan c x a (L.set y.toNat c)
theorem amz(A:ai)(n c:Nat)(rs:List aE)(xss:ag)(N:Nat)(w:aa)(hR:bH w A n rs xss)(hn:n<=1000)(hs:Sys N xss)(hN:N<=1000):
 aF prog 202 [aj N,.slice A n c] w (λv w'=>∃A' c',v=.slice A' N c'/\St w w' [av 2 A' N c' (bO N xss N).1]):=by
 refine bn func202 O ntmps202 O (bM O) (aY O (jy (St.refl w) O ?_));intro A5 w1 ax;have ax:St w w1 [av 2 A5 0 0 (List.replicate 0 (-1))]:=ax;refine ay O (Cd.loop (α:=Nat×ai×Nat) (λz=>[(0,aj N),(1,.slice A n c),(5,.slice z.2.1 z.1 z.2.2),(6,aj (z.1:Int))]) (λz w'=>St w w' [av 2 z.2.1 z.1 z.2.2 (List.replicate z.1 (-1))]/\z.1<=N) (λz=>N-z.1) (0,A5,0) (auV O) ⟨ax,bl _⟩ ?_);rintro⟨k,A6,c6⟩ e w2 ⟨az,hk⟩;dsimp only at az hk|-;refine bC O (aK _ O (λh1=>?_) (λh1=>?_))
 ·refine aC O (eh az O O O ?_);intro A7 w3 aM;refine eQ 1 aM O (aM.bF 0 O) O O O λA8 c8 w4 aU=>aq O (aJ O (aN O (tQ ?_)));refine⟨(k+1,A8,c8),by show N-(k+1)<N-k;omega,(auV O),?_,by show k+1<=N;omega⟩;show St w w4 [av _ A8 (k+1) c8 (List.replicate (k+1) (-1))];rw[List.replicate_succ'];exact aU.tail
 refine ba O (bc (kX O ?_));have CO:k=N:=by omega
 subst CO;refine Cd.loop (α:=Nat) (λi=>[(0,aj k),(1,.slice A n c),(5,.slice A6 k c6),(7,aj (bO k xss i).2),(8,aj i)]) (λi w'=>St w w' [av 2 A6 k c6 (bO k xss i).1]/\i<=k) (λi=>k-i) 0 (auV O) ⟨az,bl _⟩ ?_;rintro i e w3 ⟨aM,hi⟩;have Gm:=aM.bF 0 O;have ub:=y5 k xss i;refine bC O (aK _ O (λh2=>?_) (λh2=>?_))
 ·refine aC O (aA Gm.2 O (bg Gm O (ay O ?_)));refine aK _ O (λh3=>?_) (λh3=>?_)
  ·refine aC O (aJ O (aN O (tQ ?_)));refine⟨i+1,by show k-(i+1)<k-i;omega,⟨O,O,O,by show Value.int .i64 _=aj _;rw[Da h3],O,au⟩,by rw[Da h3];exact aM,ac⟩
  obtain⟨hg,_,_⟩:=zd hs (pt:=(i:Int)) ac ac;refine aC O (aI (Zc A n c rs xss k i _ (aM.bU hR) ac hs ac ac ac) O ?_);rintro _ w4 ⟨A9,c9,rfl,aw⟩;have aU:=aM.call aw;have G8:(gw k xss i).length<=k:=hg.len;refine ay O (Cd.loop (α:=Nat) (λm=>[(0,aj k),(1,.slice A n c),(5,.slice A6 k c6),(7,aj (bO k xss i).2),(8,aj i),(9,.slice A9 (gw k xss i).length c9),(10,aj m)]) (λm w'=>St w w' [av 2 A9 (gw k xss i).length c9 (gw k xss i),av 2 A6 k c6 (pZ (bO k xss i).1 (bO k xss i).2 ((gw k xss i).take m))]/\m<=(gw k xss i).length) (λm=>(gw k xss i).length-m) 0 (auV O) ⟨aU,bl _⟩ ?_);rintro m e w5 ⟨aO,hm⟩;have Wj:=aO.bF 0 O;refine aY O (aR O O (ay O ?_));refine aK _ O (λh4=>?_) (λh4=>?_)
  ·have jS:m<(gw k xss i).length:=by omega
   have XN:=hg.range _ (gi_in jS);refine aC O (aA Wj.2 O (bg Wj O (aq O (aA (aO.bF 1 O).2 O (ak.oL 1 aO O O O ac ?_)))));intro w6 bk;refine aq O (aJ O (aN O (tQ ?_)));refine⟨m+1,by show _-(m+1)<_-m;omega,(auV O),?_,jS⟩;rw[lG jS,aan];exact bk
  refine ba O (bc (bY O (aJ O (aq O (aJ O (aN O (tQ ?_)))))));have Kq:m=(gw k xss i).length:=by omega
  subst Kq;rw[List.take_length]at aO;refine⟨i+1,by show k-(i+1)<k-i;omega,⟨O,O,O,by show Value.int .i64 _=aj _;rw[Bv h3],O,au⟩,by rw[Bv h3];exact aO.tail,ac⟩
 refine ba O (bc (ew O ?_));refine dV O ?_;have qy:i=k:=by omega
 subst qy;exact⟨A6,c6,O,aM⟩
theorem amE(A:ai)(n c:Nat)(xs:ah)(w:aa)(hR:bu w A n xs)(hn:n<=1000000)(hx:∀x∈xs,x<=1000000):
 aF prog 187 [.slice A n c] w (λv w'=>v=aj (qq xs)/\w'=w):=by
 have cT:=hR.1;refine bn func187 O ntmps187 O (bM O) (bC O ?_);refine Cd.loop (α:=Nat) (λk=>[(0,.slice A n c),(3,aj (qq (xs.take k))),(4,aj k)]) (λk w'=>w'=w/\k<=n) (λk=>n-k) 0 (auV O) ⟨O,bl _⟩ ?_;rintro k e w ⟨rfl,hk⟩;refine aY O (aR O O (ay O ?_));refine aK _ O (λh1=>?_) (λh1=>?_)
 ·have hg:gi xs k<=1000000:=hx _ (by rw[b7 (by omega)];exact dt _);have aw:qq (xs.take (k+1))=if qq (xs.take k)<=gi xs k then gi xs k+1 else qq (xs.take k):=by rw[lG (by omega),VJ]
  have Kh:=(N5 _ (xs.take k) O).1;refine aC O (aA hR.2 O (bg hR O (ay O ?_)));refine aK _ O (λh2=>?_) (λh2=>?_)
  ·rw[aG h2]at aw;refine aC O (aA hR.2 O (bg hR O ?_));refine aJ O (aq O (aJ O (aN O (tQ ?_))));exact⟨k+1,by show n-(k+1)<n-k;omega,⟨O,by show Value.int .i64 _=aj _;rw[aw],O,au⟩,O,ac⟩
  rw[aD h2]at aw;refine aC O (aJ O (aN O (tQ ?_)));exact⟨k+1,by show n-(k+1)<n-k;omega,⟨O,by show Value.int .i64 _=aj _;rw[aw],O,au⟩,O,ac⟩
 refine ba O (bc (ew O ?_));refine gj O ?_;have rI:k=n:=by omega
 subst rI;exact⟨by rw[<-cT,List.take_length],O⟩
theorem amD(A:ai)(n c:Nat)(rs:List aE)(xss:ag)(i:Nat)(w:aa)(hR:bH w A n rs xss)(hM:wh xss)(hi:i<n):
 aF prog 186 [.agg #[.slice A n c],aj i] w (λv w'=>∃A' c',v=.slice A' (gl xss 0).length c'/\St w w' [av 2 A' (gl xss 0).length c' (dG xss i)]):=by
 have hl:=hR.len;have h1:=hM.1;have h2:=hM.2.1;have hs:=hM.2.2;refine bn func186 O ntmps186 O (bM O) (aY O (rf (St.refl w) O O ?_));intro Ab w1 ax;refine ay O ?_;refine ec [.ex (.agg #[.slice (A) (n) (c)]),xI (((gl xss 0).length:Int)),.ex (.agg #[.slice (A) (n) (c)]),xI ((i:Int)),.pr (λv w'=>∃A1,v=.slice A1 1 1/\bu w' A1 1 [(i:Int)]),.pr (λv w'=>∃A1 c1,v=.slice A1 (n-1) c1/\bH w' A1 (n-1) (rs.eraseIdx i) (xss.eraseIdx i)),.pr (λv w'=>∃A1 c1,v=.slice A1 (gl xss 0).length c1/\St w w' [av 2 A1 (gl xss 0).length c1 (dG xss i)]),.pr (λv w'=>∃A1 c1,v=.slice A1 (gl xss 0).length c1/\St w w' [av 2 A1 (gl xss 0).length c1 (dG xss i)])] rfl (lx (lx (lx (lx (bV.2 ⟨Yd.bW (λv w w' h hb=>by obtain⟨A1,hv,hT⟩:=h;exact⟨A1,hv,hT.ao hb⟩),(bV.2 ⟨Yd.bW (λv w w' h hb=>by obtain⟨A1,c1,hv,hT⟩:=h;exact⟨A1,c1,hv,hT.ao hb⟩),(bV.2 ⟨Yd.bW (λv w w' h hb=>by obtain⟨A1,c1,hv,hT⟩:=h;exact⟨A1,c1,hv,hT.ao hb⟩),(bV.2 ⟨Yd.bW (λv w w' h hb=>by obtain⟨A1,c1,hv,hT⟩:=h;exact⟨A1,c1,hv,hT.ao hb⟩),(λ_ h=>by cases h)⟩)⟩)⟩)⟩))))) ?_ ?_
 ·refine⟨λ_ _ hb _ _=>cG 0 ((ax.rd 0 O).below hb) O O O Az,?_,λ_ _ hb _ _=>cG 0 ((ax.rd 0 O).below hb) O O O Az,Dr O,?_,?_,?_,?_,au⟩
  ·intro e1 w1 hb hp aW;refine aI (QH A n c rs xss _ ((ax.ao hb).bU hR) ac) O ?_;rintro _ w2 ⟨rfl,aw⟩;refine ak.n ?_;exact gk.dn aw.below ap
  ·intro e1 w1 hb hp aW;exact eh (St.refl _) O O O λA1 w9 aw=>ak.n (gk.dn aw.below ⟨A1,O,aw.bF 0 O⟩)
  ·intro e1 w1 hb hp aW;obtain⟨A0,h9,CA⟩:=(hp 4 am rfl _ _ rfl rfl);refine auM (amF A n c rs xss A0 1 i _ ((ax.ao hb).bU hR) ac hi CA) O (by exact aQ (λv=>[Value.agg #[.slice A n c],v]) h9) O ?_;rintro _ w9 ⟨A1,c1,rfl,aw⟩;exact ak.n (gk.dn aw.below ⟨A1,c1,O,(((ax.ao hb).bU hR).ao aw.below).erase hi (aw.dm 0 O)⟩)
  ·intro e1 w1 hb hp aW;obtain⟨A0,c0,ik,CA⟩:=(hp 5 am rfl _ _ rfl rfl);refine auM (amz A0 (n-1) c0 _ _ (gl xss 0).length _ CA ac (hs.erase i) ac) O (by exact aQ (λv=>[Value.int .i64 ((gl xss 0).length:Int),v]) ik) O ?_;rintro _ w9 ⟨A1,c1,rfl,aw⟩;exact ak.n (gk.dn aw.below ⟨A1,c1,O,(ax.ao hb).none.call aw⟩)
  intro e1 w1 hb hp aW;obtain⟨A1,c1,sZ,hT⟩:=(hp 6 am rfl _ _ rfl rfl);refine mm O (by exact sZ) O (ak.n ?_);exact gk.dn (Below.refl _ _) ⟨A1,c1,O,hT⟩
 intro u w9 AA hu;obtain⟨A9,c9,h4,hT⟩:=hu 7 _ rfl;refine xM O (dV (by exact h4) ?_);exact⟨A9,c9,O,hT⟩
end
end Go.Proofs.YtimbpgackifflaaGreatDoor.Vc
