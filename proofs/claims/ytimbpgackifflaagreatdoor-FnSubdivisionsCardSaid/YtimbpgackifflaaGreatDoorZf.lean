/-
 Lemmas. Conditions: as each states them.
-/
import Derived.Test.YtimbpgackifflaaGreatDoorZe
set_option maxHeartbeats 8000000
set_option maxRecDepth 100000
namespace Go.Proofs.YtimbpgackifflaaGreatDoor.Vc
open Tryz
section
def l9:ag:=[[1,0,6,5,9,3,2,12,14,4,15,17,7,19,8,10,21,11,22,13,23,16,18,20],[2,4,0,8,1,11,9,13,3,6,16,5,18,7,17,20,10,14,12,22,15,23,19,21],[3,5,7,0,10,1,12,2,13,15,4,16,6,8,19,9,11,21,20,14,18,17,23,22]]
def sW0:ag:=[]
theorem sP0:uR 3 (dO [3,3]++sW0)=some l9:=by kernel_rfl
theorem sI0:uQ 3 (dO [3,3]++sW0)=some l9:=by kernel_rfl
theorem RR:eY l9:=bX an
def ma:ag:=[[1,0,6,5,9,3,2,13,15,4,17,19,16,7,22,8,12,10,26,11,24,29,14,27,20,33,18,23,36,21,37,35,39,25,40,31,28,30,43,32,34,45,44,38,42,41,47,46],[2,4,0,8,1,11,12,14,3,16,18,5,6,21,7,23,9,25,10,27,28,13,30,15,32,17,34,19,20,37,22,38,24,40,26,41,42,29,31,44,33,35,36,46,39,47,43,45],[3,5,7,0,10,1,13,2,14,17,4,18,20,6,8,22,24,9,11,26,12,28,15,31,16,32,19,35,21,36,38,23,25,39,41,27,29,43,30,33,45,34,46,37,47,40,42,44]]
def sW1:ag:=[]
theorem sP1:uR 3 (dO [4,3]++sW1)=some ma:=by kernel_rfl
theorem sI1:uQ 3 (dO [4,3]++sW1)=some ma:=by kernel_rfl
theorem RS:eY ma:=bX an
def mc:ag:=[[1,0,6,5,9,3,2,12,14,4,16,18,7,21,8,23,10,25,11,27,28,13,30,15,32,17,34,19,20,36,22,37,24,39,26,40,29,31,43,33,35,45,44,38,42,41,47,46],[2,4,0,8,1,11,9,13,3,6,17,5,20,7,18,22,24,10,14,26,12,28,15,31,16,32,19,35,21,33,37,23,25,29,40,27,42,30,41,44,34,38,36,46,39,47,43,45],[3,5,7,0,10,1,12,2,15,16,4,19,6,22,23,8,9,26,27,11,29,30,13,14,33,34,17,18,36,20,21,38,39,24,25,41,28,43,31,32,45,35,46,37,47,40,42,44]]
def sW2:ag:=[]
theorem sP2:uR 3 (dO [3,4]++sW2)=some mc:=by kernel_rfl
theorem sI2:uQ 3 (dO [3,4]++sW2)=some mc:=by kernel_rfl
theorem RT:eY mc:=bX an
def me:ag:=[[1,0,6,5,9,3,2,13,15,4,17,19,16,7,22,8,12,10,21,11,23,18,14,20],[2,4,0,8,1,11,12,14,3,16,18,5,6,21,7,23,9,22,10,20,19,13,17,15],[3,5,7,0,10,1,13,2,14,17,4,18,20,6,8,22,23,9,11,21,12,19,15,16]]
def sW3:ag:=[[0,1,2,0,1,2,0,1,2]]
theorem sP3:uR 3 (dO [4,3]++sW3)=some me:=by kernel_rfl
theorem sI3:uQ 3 (dO [4,3]++sW3)=some me:=by kernel_rfl
theorem RU:eY me:=bX an
def mf:ag:=[[1,0,6,5,9,3,2,12,14,4,16,18,7,21,8,23,10,22,11,20,19,13,17,15],[2,4,0,8,1,11,9,13,3,6,17,5,20,7,18,22,23,10,14,21,12,19,15,16],[3,5,7,0,10,1,12,2,15,16,4,19,6,22,23,8,9,21,20,11,18,17,13,14]]
def sW4:ag:=[[0,1,2,0,1,2,0,1,2]]
theorem sP4:uR 3 (dO [3,4]++sW4)=some mf:=by kernel_rfl
theorem sI4:uQ 3 (dO [3,4]++sW4)=some mf:=by kernel_rfl
theorem RW:eY mf:=bX an
def mg:ag:=[[1,0,6,5,9,3,2,13,15,4,18,20,17,7,19,8,25,12,10,14,11,29,26,27,28,16,22,23,24,21,31,30],[2,4,0,8,1,11,12,14,3,17,19,5,6,23,7,22,24,9,27,10,26,28,15,13,16,30,20,18,21,31,25,29],[3,5,7,0,10,1,13,2,16,18,4,21,22,6,24,25,8,26,9,28,29,11,12,30,14,15,17,31,19,20,23,27]]
def sW5:ag:=[[0,1,2,1,0,1,2,1]]
theorem sP5:uR 3 (dO [4,4]++sW5)=some mg:=by kernel_rfl
theorem sI5:uQ 3 (dO [4,4]++sW5)=some mg:=by kernel_rfl
theorem RX:eY mg:=bX an
def mh:ag:=[[1,0,6,5,9,3,2,12,14,4,16,18,7,21,8,23,10,26,11,28,30,13,32,15,35,37,17,39,19,42,20,41,22,40,38,24,45,25,34,27,33,31,29,47,46,36,44,43],[2,4,0,8,1,11,9,13,3,6,17,5,20,7,18,24,25,10,14,29,12,30,33,34,15,16,37,40,41,19,21,42,39,22,23,38,44,26,35,32,27,28,31,46,36,47,43,45],[3,5,7,0,10,1,12,2,15,16,4,19,6,22,23,8,9,27,28,11,31,32,13,14,36,38,39,17,18,43,41,20,21,44,37,45,24,34,25,26,46,30,47,29,33,35,40,42]]
def sW6:ag:=[[0,1,2,0,1,2,0,1,2,0,1,2]]
theorem sP6:uR 3 (dO [3,6]++sW6)=some mh:=by kernel_rfl
theorem sI6:uQ 3 (dO [3,6]++sW6)=some mh:=by kernel_rfl
theorem RY:eY mh:=bX an
def Fc:ag:=[[1,0,6,5,9,3,2,13,15,4,18,20,17,7,24,8,27,12,10,30,11,33,28,35,14,38,32,16,22,42,19,45,26,21,48,23,51,50,25,46,53,55,29,58,57,31,39,60,34,62,37,36,64,40,65,41,66,44,43,68,47,69,49,70,52,54,56,71,59,61,63,67],[2,4,0,8,1,11,12,14,3,17,19,5,6,23,7,26,25,9,29,10,32,31,34,13,37,16,15,40,41,18,44,21,20,47,22,50,49,24,52,48,27,28,57,56,30,59,55,33,39,36,35,63,38,64,62,46,43,42,67,45,68,66,54,51,53,70,61,58,60,71,65,69],[3,5,7,0,10,1,13,2,16,18,4,21,22,6,25,27,8,28,9,31,33,11,12,36,38,14,39,15,17,43,45,19,46,20,49,51,23,44,24,26,54,56,58,29,37,30,32,61,62,34,57,35,59,65,40,66,41,50,42,52,69,47,48,67,68,53,55,63,64,60,71,70]]
def sW7:ag:=[[0,1,2,1,0,1,2,1,0,1,2,1]]
theorem sP7:uR 3 (dO [4,4]++sW7)=some Fc:=by kernel_rfl
theorem sI7:uQ 3 (dO [4,4]++sW7)=some Fc:=by kernel_rfl
theorem sM7:eY Fc:=bX an
end
section
open Go.RowKit
variable{next:ag}{wo u:Int}
def kJ(wo u:Int)(st:ah×ah)(x:Int):ah×ah:=if gi st.1 x<0/\x≠wo then(st.1.set x.toNat (gi st.1 u+1),st.2++[x])else st
def qW(wo u:Int)(r:ah)(st:ah×ah):ah×ah:=r.foldl (kJ wo u) st
theorem RK(wo u:Int)(r:ah)(x:Int)(st:ah×ah):qW wo u (r++[x]) st=kJ wo u (qW wo u r st) x:=by simp[qW,List.foldl_append]
def ql(next:ag)(wo:Int):Nat->Nat->ah×ah->ah×ah
 |0,_,st=>st
 |f+1,i,st=>if i<st.2.length then ql next wo f (i+1) (qW wo (gi st.2 i) (gl next (gi st.2 i)) st)else st
theorem ad9{f i:Nat}{st:ah×ah}(hi:i<st.2.length)(hf:0<f):ql next wo f i st=ql next wo (f-1) (i+1) (qW wo (gi st.2 i) (gl next (gi st.2 i)) st):=by
 obtain⟨g,rfl⟩:∃g,f=g+1:=⟨f-1,ac⟩;rw[ql,aG hi];rfl
theorem ad8{f i:Nat}{st:ah×ah}(hi:¬i<st.2.length):ql next wo f i st=st:=by
 cases f with
 |zero=>rfl
 |succ f=>rw[ql,aD hi]
def pU(n:Nat)(v:Int):ah×ah:=((List.replicate n (-1)).set v.toNat 0,[v])
def sY(next:ag)(wo v:Int):ah×ah:=ql next wo (next.length+1) 0 (pU next.length v)
structure BF(n:Nat)(st:ah×ah):Prop where
 len:st.1.length=n
 jl:∀x∈st.2,0<=x/\x<n
 mo:st.2.length+oM st.1=n
 val:∀x∈st.1,-1<=x/\x<st.2.length
 pos:∀x∈st.2,0<=gi st.1 x
theorem NV{l:ah}{x:Int}(h0:0<=x)(h1:x<l.length):gi l x∈l:=by
 obtain⟨k,rfl⟩:∃k:Nat,x=k:=⟨x.toNat,ac⟩;exact gi_in ac
theorem Co{l:ah}{i:Nat}{v:Int}{x:Int}(hi:i<l.length)(hx:0<=x):gi (l.set i v) x=if(i:Int)=x then v else gi l x:=by
 obtain⟨k,rfl⟩:∃k:Nat,x=k:=⟨x.toNat,ac⟩;simp only[gi,gx,b5,lI]
 by_cases h:i=k
 ·subst h;rw[aG rfl,aG hi,aG rfl];rfl
 rw[aD h,aD (by omega)]
theorem BF.step{n:Nat}{st:ah×ah}(h:BF n st){x:Int}(hu:u∈st.2)(h0:0<=x)(h1:x<n):BF n (kJ wo u st x)/\st.2<+:(kJ wo u st x).2:=by
 unfold kJ
 split
 ·rename_i hx;have hlen:=h.len;have yR:x.toNat<st.1.length:=by omega
  have hgu:=h.pos u hu;have qM:=h.jl u hu;have hgu2:=h.val _ (NV qM.1 ac);have hunl:=Mc (L:=st.1) (x:=x) (c:=gi st.1 u+1) h0 ac hx.1 ac;have ub:=h.mo;refine⟨⟨by simp[h.len],λy hy=>?_,by simp;omega,λy hy=>?_,λy hy=>?_⟩,List.prefix_append _ _⟩
  ·rcases dF.1 hy with hy|hy
   ·exact h.jl y hy
   simp at hy;subst hy;exact⟨h0,h1⟩
  ·rw[cj,List.length_singleton];rcases List.mem_or_eq_of_mem_set hy with hy|rfl
   ·have:=h.val y hy;omega
   omega
  have Bm:0<=y:=by
   rcases dF.1 hy with hy|hy
   ·exact(h.jl y hy).1
   simp at hy;omega
  rw[Co yR Bm]
  split
  ·omega
  rename_i bN;rcases dF.1 hy with hy|hy
  ·exact h.pos y hy
  simp at hy;omega
 exact⟨h,List.prefix_rfl⟩
theorem BF.row{n:Nat}(r:ah):∀{st:ah×ah},BF n st->u∈st.2->(∀x∈r,0<=x/\x<n)->BF n (qW wo u r st)/\st.2<+:(qW wo u r st).2:=by
 induction r using abq with
 |h0=>intro st h _ _;exact⟨h,List.prefix_rfl⟩
 |h1 l a ih=>
  intro st h hu hr;obtain⟨h1,h2⟩:=ih h hu (λx hx=>hr x (by simp[hx]));have ha:=hr a (by simp);rw[RK];obtain⟨h3,h4⟩:=h1.step (wo:=wo) (h2.subset hu) ha.1 ha.2;exact⟨h3,h2.trans h4⟩
theorem BF.Lb{n:Nat}{st:ah×ah}(h:BF n st):st.2.length<=n:=by have:=h.mo;omega
theorem BF.init{n:Nat}{v:Int}(h0:0<=v)(h1:v<n):BF n (pU n v):=by
 have hu:oM (List.replicate n (-1))=n:=by
  unfold oM;rw[List.countP_replicate];simp
 have hs:=Mc (L:=List.replicate n (-1)) (x:=v) (c:=0) h0 (by simp;exact h1) (by rw[wD h0 h1];omega) ac;refine⟨by simp[pU],λx hx=>?_,?_,λx hx=>?_,λx hx=>?_⟩
 ·simp[pU]at hx;subst hx;exact⟨h0,h1⟩
 ·show 1+oM ((List.replicate n (-1)).set v.toNat 0)=n;omega
 ·have hx:x∈(List.replicate n (-1)).set v.toNat 0:=hx;show-1<=x/\x<((1:Nat):Int);rcases List.mem_or_eq_of_mem_set hx with hx|rfl
  ·have:=(List.mem_replicate.1 hx).2;omega
  omega
 simp[pU]at hx;subst hx;show 0<=gi ((List.replicate n (-1)).set x.toNat 0) x;rw[Co (by simp;omega) h0,aG (by omega)];exact Int.le_refl _
structure Gr(n:Nat)(next:ag):Prop where
 len:next.length=n
 small:n<=400
 row:∀u:Int,0<=u->(∀x∈gl next u,0<=x/\x<n)/\(gl next u).length<=1000
theorem TK{n:Nat}{next:ag}{wo:Int}(hg:Gr n next):∀(f i:Nat)(st:ah×ah),BF n st->BF n (ql next wo f i st)
 |0,_,_,h=>h
 |f+1,i,st,h=>by
  rw[ql]
  split
  ·rename_i hi;have vD:gi st.2 i∈st.2:=gi_in hi;exact TK hg f _ _ (BF.row (wo:=wo) _ h vD (hg.row _ (h.jl _ vD).1).1).1
  ·exact h
theorem Uy{n:Nat}{v:Int}(hg:Gr n next)(h0:0<=v)(h1:v<n):BF n (sY next wo v):=by
 unfold sY;rw[hg.len];exact TK hg _ _ _ (BF.init h0 h1)
end
section
variable{l F G Zz ss M U:ag}{j t:Nat}{p b R fl:ah}{u y V d:Int}{C:List Nat}
theorem Zj{N:Nat}{xss:ag}(hs:Sys N xss)(fY:tH N xss){x y:Int}(h0:0<=x)(h1:x<N)(hr:Reach xss x y):∀i,i<=N->gi (bO N xss i).1 x=gi (bO N xss i).1 y
 |0,_=>by
  have hy:=hr.range hs h0 h1;simp only[bO,wD h0 h1,wD hy.1 hy.2]
 |i+1,hi=>by
  have hy:=hr.range hs h0 h1;have ih:=Zj hs fY h0 h1 hr i ac;have ho:=zd hs (pt:=(i:Int)) ac ac;simp only[bO]
  split
  ·exact ih
  ·simp only;rw[yd _ _ _ (qP N xss i) ho.1.range x h0,yd _ _ _ (qP N xss i) ho.1.range y hy.1];have hm:x∈gw N xss i↔y∈gw N xss i:=by
    rw[ho.2.2,ho.2.2];exact⟨λh=>h.trans hr,λh=>h.trans (hr.symm hs fY h0 h1)⟩
   by_cases h:x∈gw N xss i
   ·rw[aG h,aG (hm.1 h)]
   ·rw[aD h,aD (λh'=>h (hm.2 h')),ih]
theorem Zi{N:Nat}{xss:ag}(hs:Sys N xss)(fY:tH N xss){x y:Int}(h0:0<=x)(h1:x<N)(h2:0<=y)(h3:y<N):∀i,i<=N->gi (bO N xss i).1 x=gi (bO N xss i).1 y->0<=gi (bO N xss i).1 x->Reach xss x y
 |0,_,_,h=>by simp only[bO,wD h0 h1]at h;omega
 |i+1,hi,he,hp=>by
  have ih:=Zi hs fY h0 h1 h2 h3 i ac;have ho:=zd hs (pt:=(i:Int)) ac ac;have hc:=y5 N xss i;have hx:=(K9 hs fY i ac).1 x h0 h1;have hy:=(K9 hs fY i ac).1 y h2 h3;simp only[bO]at he hp
  split at he
  ·rename_i hl;rw[aG hl]at hp;exact ih he hp
  ·rename_i hl;rw[aD hl]at hp;simp only at he hp;rw[yd _ _ _ (qP N xss i) ho.1.range x h0]at he hp;rw[yd _ _ _ (qP N xss i) ho.1.range y h2]at he
   by_cases vF:x∈gw N xss i
   ·rw[aG vF]at he
    by_cases Hw:y∈gw N xss i
    ·exact(((ho.2.2 x).1 vF).symm hs fY ac ac).trans ((ho.2.2 y).1 Hw)
    ·rw[aD Hw]at he;omega
   ·rw[aD vF]at he hp
    by_cases Hw:y∈gw N xss i
    ·rw[aG Hw]at he;omega
    ·rw[aD Hw]at he;exact ih he hp
theorem aga{xss:ag}{i k:Nat}(hk:k<xss.length)(bN:k≠i):gl xss k∈xss.eraseIdx i:=by
 rw[List.mem_eraseIdx_iff_getElem];exact⟨k,hk,bN,by rw[df hk]⟩
theorem agb{xss:ag}{i:Nat}(h:p∈xss.eraseIdx i):∃k:Nat,k<xss.length/\k≠i/\p=gl xss k:=by
 rw[List.mem_eraseIdx_iff_getElem]at h;obtain⟨k,hk,bN,rfl⟩:=h;exact⟨k,hk,bN,by rw[df hk]⟩
theorem UY{xss:ag}(hM:eY xss){i k:Nat}(hk:k<xss.length)(bN:k≠i){f:Int}(h0:0<=f)(h1:f<(gl xss 0).length):gi (dG xss i) (gi (gl xss k) f)=gi (dG xss i) f:=(Zj (hM.2.2.1.sys.erase i) (hM.2.2.1.inj.erase i) h0 h1 (.step .refl (aga hk bN)) _ (cJ _)).symm
theorem agu{xss:ag}(hM:eY xss){i:Nat}{f g:Int}(h0:0<=f)(h1:f<(gl xss 0).length)(h2:0<=g)(h3:g<(gl xss 0).length)(h:gi (dG xss i) f=gi (dG xss i) g):Reach (xss.eraseIdx i) f g:=by
 obtain⟨k,rfl⟩:∃k:Nat,f=k:=⟨f.toNat,ac⟩;exact Zi (hM.2.2.1.sys.erase i) (hM.2.2.1.inj.erase i) h0 h1 h2 h3 _ (cJ _) h (UX hM i k ac).1
theorem eY.two{xss:ag}(hM:eY xss){k:Nat}(hk:k<xss.length){f:Int}(h0:0<=f)(h1:f<(gl xss 0).length):gi (gl xss k) (gi (gl xss k) f)=f:=by
 obtain⟨q,rfl⟩:∃q:Nat,f=q:=⟨f.toNat,ac⟩;have hr:=hM.2.2.1.at_ hk;exact(hr.2.2 q ac).2
theorem eY.Br{xss:ag}(hM:eY xss){k:Nat}(hk:k<xss.length){f:Int}(h0:0<=f)(h1:f<(gl xss 0).length):0<=gi (gl xss k) f/\gi (gl xss k) f<(gl xss 0).length:=(hM.2.2.1.sys _ (by rw[df hk];exact dt _)).2 f h0 h1
theorem eY.comm{xss:ag}(hM:eY xss){i k:Nat}(hi:i<xss.length)(hk:k<xss.length)(qy:i+2<=k){f:Int}(h0:0<=f)(h1:f<(gl xss 0).length):gi (gl xss k) (gi (gl xss i) f)=gi (gl xss i) (gi (gl xss k) f):=by
 obtain⟨q,rfl⟩:∃q:Nat,f=q:=⟨f.toNat,ac⟩;exact(hM.2.2.2.1 i hi k hk qy q ac).1
structure BQ(n:Nat)(next:ag)(v:Int)(i:Nat)(st:ah×ah):Prop where
 bf:BF n st
 xY:gi st.1 v=0
 Md:v∈st.2
 all:∀x:Int,0<=x->x<n->0<=gi st.1 x->x∈st.2
 mono:∀a b:Nat,a<=b->b<st.2.length->gi st.1 (gi st.2 a)<=gi st.1 (gi st.2 b)
 JA:i<st.2.length->∀b:Nat,b<st.2.length->gi st.1 (gi st.2 b)<=gi st.1 (gi st.2 i)+1
 Jl:∀a:Nat,a<i->a<st.2.length->∀x∈gl next (gi st.2 a),0<=gi st.1 x/\gi st.1 x<=gi st.1 (gi st.2 a)+1
 par:∀x∈st.2,x≠v->∃y∈st.2,x∈gl next y/\gi st.1 x=gi st.1 y+1
theorem BQ.init{n:Nat}{next:ag}{v:Int}(h0:0<=v)(h1:v<n):BQ n next v 0 (pU n v) where
 bf:=BF.init h0 h1
 xY:=by
  show gi ((List.replicate n (-1)).set v.toNat 0) v=0;rw[Co (by simp;omega) h0,aG (by omega)]
 Md:=by simp[pU]
 all:=λx hx yR h=>by
  have h:0<=gi ((List.replicate n (-1)).set v.toNat 0) x:=h;rw[Co (by simp;omega) hx]at h
  split at h
  ·simp[pU];omega
  rw[wD hx yR]at h;omega
 mono:=λa b gr hb=>by
  have hb:b<1:=hb;obtain rfl:b=0:=by omega
  obtain rfl:a=0:=by omega
  exact Int.le_refl _
 JA:=λ_ b hb=>by
  have hb:b<1:=hb;obtain rfl:b=0:=by omega
  omega
 Jl:=λa ha=>absurd ha (kY a)
 par:=λx hx bN=>by simp[pU]at hx;exact absurd hx bN
theorem NY{l:ah}{x:Int}{k:Nat}(h:k<l.length):gi (l++[x]) k=gi l k:=by simp[gi,b5,jF h]
theorem ahn{l:ah}{x:Int}:gi (l++[x]) (l.length:Int)=x:=by simp[gi,b5]
theorem arT{x:Int}{st:ah×ah}(h:gi st.1 x<0)(hx:0<=x):kJ (-1) u st x=(st.1.set x.toNat (gi st.1 u+1),st.2++[x]):=by
 unfold kJ;rw[if_pos ⟨h,by omega⟩]
theorem arU{x:Int}{st:ah×ah}(h:¬gi st.1 x<0):kJ (-1) u st x=st:=by
 unfold kJ;rw[if_neg (λh'=>h h'.1)]
theorem BQ.step{n:Nat}{next:ag}{v:Int}{i:Nat}{st:ah×ah}(hg:Gr n next)(h:BQ n next v i st)(hi:i<st.2.length){x:Int}(hx:x∈gl next (gi st.2 i))(h0:0<=x)(h1:x<n):
 BQ n next v i (kJ (-1) (gi st.2 i) st x)/\i<(kJ (-1) (gi st.2 i) st x).2.length/\gi (kJ (-1) (gi st.2 i) st x).2 i=gi st.2 i/\gi (kJ (-1) (gi st.2 i) st x).1 (gi st.2 i)=gi st.1 (gi st.2 i)/\
 (0<=gi (kJ (-1) (gi st.2 i) st x).1 x/\gi (kJ (-1) (gi st.2 i) st x).1 x<=gi st.1 (gi st.2 i)+1)/\∀y,0<=y->0<=gi st.1 y->gi (kJ (-1) (gi st.2 i) st x).1 y=gi st.1 y:=by
 have vD:gi st.2 i∈st.2:=gi_in hi;have qM:=h.bf.jl _ vD;have tt:=h.bf.pos _ vD
 by_cases hn:gi st.1 x<0
 ·have WO:=(h.bf.step (wo:=-1) vD h0 h1).1;rw[arT hn h0]at WO|-;generalize hu:gi st.2 i=u at*;have cT:x.toNat<st.1.length:=by rw[h.bf.len];omega
  have gS:∀y,0<=y->0<=gi st.1 y->gi (st.1.set x.toNat (gi st.1 u+1)) y=gi st.1 y:=λy hy hp=>by
   rw[Co cT hy]
   split
   ·rename_i e;rw[show y=x by omega]at hp;omega
   rfl
  have new:gi (st.1.set x.toNat (gi st.1 u+1)) x=gi st.1 u+1:=by rw[Co cT h0,aG (by omega)]
  have EX:∀b:Nat,b<st.2.length->gi (st.1.set x.toNat (gi st.1 u+1)) (gi (st.2++[x]) b)=gi st.1 (gi st.2 b):=λb hb=>by
   rw[NY hb];have hm:gi st.2 b∈st.2:=gi_in hb;exact gS _ (h.bf.jl _ hm).1 (h.bf.pos _ hm)
  have Q6:gi (st.1.set x.toNat (gi st.1 u+1)) (gi (st.2++[x]) (st.2.length:Int))=gi st.1 u+1:=by rw[ahn,new]
  have hl:(st.2++[x]).length=st.2.length+1:=by simp
  have hvr:=h.bf.jl _ h.Md;have Pr:=h.JA hi;rw[hu]at Pr;refine⟨⟨WO,?_,?_,?_,?_,?_,?_,?_⟩,by show i<(st.2++[x]).length;omega,by rw[NY hi,hu],gS u qM.1 tt,⟨by rw[new];omega,by rw[new];exact Int.le_refl _⟩,gS⟩
  ·show gi (st.1.set _ _) v=0;rw[gS v hvr.1 (by rw[h.xY];exact Int.le_refl _),h.xY]
  ·exact List.mem_append_left _ h.Md
  ·intro y hy Bn hp
   by_cases YI:y=x
   ·subst YI;exact List.mem_append_right _ (by simp)
   refine List.mem_append_left _ (h.all y hy Bn ?_);have hp:0<=gi (st.1.set x.toNat (gi st.1 u+1)) y:=hp;rw[Co cT hy,aD (by omega)]at hp;exact hp
  ·intro a b gr hb;have hb:b<(st.2++[x]).length:=hb
   by_cases ov:b<st.2.length
   ·show gi (st.1.set _ _) (gi (st.2++[x]) a)<=gi (st.1.set _ _) (gi (st.2++[x]) b);rw[EX a (by omega),EX b ov];exact h.mono a b gr ov
   obtain rfl:b=st.2.length:=by omega
   show gi (st.1.set _ _) (gi (st.2++[x]) a)<=gi (st.1.set _ _) (gi (st.2++[x]) _);rw[Q6]
   by_cases kD:a<st.2.length
   ·rw[EX a kD];exact Pr a kD
   obtain rfl:a=st.2.length:=by omega
   rw[Q6];exact Int.le_refl _
  ·intro _ b hb;have hb:b<(st.2++[x]).length:=hb;show gi (st.1.set _ _) (gi (st.2++[x]) b)<=gi (st.1.set _ _) (gi (st.2++[x]) i)+1;rw[EX i hi,hu]
   by_cases ov:b<st.2.length
   ·rw[EX b ov];exact Pr b ov
   obtain rfl:b=st.2.length:=by omega
   rw[Q6];exact Int.le_refl _
  ·intro a ha kD y hy;have hy:y∈gl next (gi (st.2++[x]) a):=hy;rw[NY (by omega)]at hy;have hd:=h.Jl a ha ac y hy;have Bm:0<=y:=((hg.row _ (h.bf.jl _ (gi_in (show a<st.2.length by omega))).1).1 y hy).1;show 0<=gi (st.1.set _ _) y/\gi (st.1.set _ _) y<=gi (st.1.set _ _) (gi (st.2++[x]) a)+1;rw[gS y Bm hd.1,EX a (by omega)];exact hd
  intro y hy bN;have hy:y∈st.2++[x]:=hy;rcases dF.1 hy with hy|hy
  ·obtain⟨z,hz,hzy,hzd⟩:=h.par y hy bN;refine⟨z,List.mem_append_left _ hz,hzy,?_⟩;show gi (st.1.set _ _) y=gi (st.1.set _ _) z+1;rw[gS y (h.bf.jl y hy).1 (h.bf.pos y hy),gS z (h.bf.jl z hz).1 (h.bf.pos z hz)];exact hzd
  simp at hy;subst hy;refine⟨u,List.mem_append_left _ vD,hx,?_⟩;show gi (st.1.set _ _) y=gi (st.1.set _ _) u+1;rw[new,gS u qM.1 tt]
 rw[arU hn];have hxq:=h.all x h0 h1 ac;obtain⟨b,hb,gH⟩:=fS.1 hxq;have hg:=h.JA hi b hb;rw[b7 hb,gH]at hg;exact⟨h,hi,O,O,⟨ac,hg⟩,λ_ _ _=>O⟩
theorem BQ.row{n:Nat}{next:ag}{v:Int}{i:Nat}(hg:Gr n next)(u:Int)(r:ah):∀{st:ah×ah},BQ n next v i st->i<st.2.length->gi st.2 i=u->(∀x∈r,x∈gl next u)->
 BQ n next v i (qW (-1) u r st)/\i<(qW (-1) u r st).2.length/\gi (qW (-1) u r st).2 i=u/\gi (qW (-1) u r st).1 u=gi st.1 u/\(∀x∈r,0<=gi (qW (-1) u r st).1 x/\gi (qW (-1) u r st).1 x<=gi st.1 u+1):=by
 induction r using abq with
 |h0=>intro st h hi hu _;exact⟨h,hi,hu,rfl,λx hx=>by cases hx⟩
 |h1 l a ih=>
  intro st h hi hu hr;obtain⟨h1,h2,h3,h4,h5⟩:=ih h hi hu (λx hx=>hr x (by simp[hx]));have ha:=hr a (by simp);have qM:=h1.bf.jl _ (gi_in h2);rw[h3]at qM;have WL:=(hg.row u qM.1).1 a ha;rw[RK];have hs:=h1.step hg h2 (x:=a) (by rw[h3];exact ha) WL.1 WL.2;rw[h3]at hs;obtain⟨s1,s2,s3,s4,s5,s6⟩:=hs;refine⟨s1,s2,s3,by rw[s4,h4],λx hx=>?_⟩;rcases dF.1 hx with hx|hx
  ·have YD:=h5 x hx;have C6:=(hg.row u qM.1).1 x (hr x (by simp[hx]));rw[s6 x C6.1 YD.1];exact YD
  ·simp at hx;subst hx;rw[h4]at s5;exact s5
theorem BQ.next{n:Nat}{next:ag}{v:Int}{i:Nat}{st:ah×ah}(hg:Gr n next)(h:BQ n next v i st)(hi:i<st.2.length):BQ n next v (i+1) (qW (-1) (gi st.2 i) (gl next (gi st.2 i)) st):=by
 obtain⟨h1,h2,h3,h4,h5⟩:=BQ.row hg (gi st.2 i) (gl next (gi st.2 i)) h hi rfl (λx hx=>hx);refine⟨h1.bf,h1.xY,h1.Md,h1.all,h1.mono,λkP b hb=>?_,λa ha kD x hx=>?_,h1.par⟩
 ·have Pq:=h1.JA h2 b hb;have hm:=h1.mono i (i+1) ac kP;omega
 by_cases hai:a=i
 ·subst hai;rw[h3]at hx|-;rw[h4];exact h5 x hx
 exact h1.Jl a ac kD x hx
theorem TL{n:Nat}{next:ag}{v:Int}(hg:Gr n next):∀(f i:Nat)(st:ah×ah),BQ n next v i st->i<=st.2.length->n+1<=f+i->∃i',BQ n next v i' (ql next (-1) f i st)/\(ql next (-1) f i st).2.length<=i'
 |0,i,st,h,hi,hf=>by have:=h.bf.Lb;omega
 |f+1,i,st,h,hi,hf=>by
  rw[ql]
  split
  ·rename_i dH;have hn:=h.next hg dH;have fx:=(BF.row (wo:=-1) (gl next (gi st.2 i)) h.bf (gi_in dH) ((hg.row _ (h.bf.jl _ (gi_in dH)).1).1)).2;have:=fx.length_le;exact TL hg f (i+1) _ hn ac ac
  ·exact⟨i,h,ac⟩
structure DF(n:Nat)(next:ag)(v:Int)(vn:ah):Prop where
 len:vn.length=n
 xY:gi vn v=0
 nxt:∀y:Int,0<=y->y<n->0<=gi vn y->∀x∈gl next y,0<=gi vn x/\gi vn x<=gi vn y+1
 par:∀x:Int,0<=x->x<n->0<=gi vn x->x≠v->∃y:Int,(0<=y/\y<n)/\x∈gl next y/\0<=gi vn y/\gi vn x=gi vn y+1
 top:∀x:Int,0<=x->x<n->gi vn x<n
theorem afG{n:Nat}{next:ag}{v:Int}(hg:Gr n next)(h0:0<=v)(h1:v<n):DF n next v (sY next (-1) v).1:=by
 have hB:=Uy (wo:=-1) hg h0 h1;unfold sY at hB|-;rw[hg.len]at hB|-;obtain⟨i',hq,fY⟩:=TL hg (n+1) 0 (pU n v) (BQ.init h0 h1) (bl _) ac;generalize ql next (-1) (n+1) 0 (pU n v)=st at*;refine⟨hB.len,hq.xY,λy hy Bn hp x hx=>?_,λx hx yR hp bN=>?_,λx hx yR=>?_⟩
 ·obtain⟨a,ha,hay⟩:=fS.1 (hq.all y hy Bn hp);have hd:=hq.Jl a ac ha;rw[b7 ha,hay]at hd;exact hd x hx
 ·obtain⟨y,hy,mD,hd⟩:=hq.par x (hq.all x hx yR hp) bN;exact⟨y,hB.jl y hy,mD,hB.pos y hy,hd⟩
 have h3:=hB.val _ (NV hx (by rw[hB.len];exact yR));have h4:=hB.Lb;omega
def LT(a b:ah):Prop:=iB a b<0
instance (a b:ah):Decidable (LT a b):=by unfold LT;infer_instance
theorem LT.ne{a:ah}(h:LT a b):a≠b:=λe=>by
 unfold LT at h;rw[QR.2 e]at h;omega
theorem Fz{a:ah}(h:¬LT a b)(h':a≠b):LT b a:=by
 unfold LT at h|-;have h1:=QQ a b;have h2:iB a b≠0:=λe=>h' (QR.1 e)
 omega
theorem LT.asymm{a:ah}(h:LT a b):¬LT b a:=λh'=>by
 unfold LT at h h';have h1:=QQ a b;omega
theorem LT.irrefl(a:ah):¬LT a a:=λh=>h.ne rfl
theorem LT.trans{a c:ah}(h:LT a b)(h':LT b c):LT a c:=Zv h h'
theorem acw{a c:ah}(h:¬LT a b)(h':¬LT b c):¬LT a c:=λJ5=>by
 by_cases e:a=b
 ·subst e;exact h' J5
 exact h' ((Fz h e).trans J5)
def SL(l:ag):Prop:=l.Pairwise LT
theorem SL.nodup(h:SL l):l.Nodup:=h.imp λh=>h.ne
theorem SL.eq:∀{l l':ag},SL l->SL l'->(∀x,x∈l↔x∈l')->l=l'
 |[],[],_,_,_=>rfl
 |[],b::r,_,_,h=>absurd ((h b).2 (by simp)) (by simp)
 |a::l,[],_,_,h=>absurd ((h a).1 (by simp)) (by simp)
 |a::l,b::r,hl,hr,h=>by
  obtain⟨vx,AP⟩:=List.pairwise_cons.1 hl;obtain⟨l6,vA⟩:=List.pairwise_cons.1 hr;have e:a=b:=by
   have h1:a∈b::r:=(h a).1 (by simp);have h2:b∈a::l:=(h b).2 (by simp);rcases gW.1 h1 with e|h1
   ·exact e
   ·rcases gW.1 h2 with e|h2
    ·exact e.symm
    ·exact absurd (vx b h2) (l6 a h1).asymm
  subst e;rw[SL.eq AP vA λx=>?_];have hx:=h x;constructor
  ·intro hm;rcases gW.1 (hx.1 (by simp[hm]))with e|h'
   ·subst e;exact absurd (vx x hm) (LT.irrefl x)
   ·exact h'
  ·intro hm;rcases gW.1 (hx.2 (by simp[hm]))with e|h'
   ·subst e;exact absurd (l6 x hm) (LT.irrefl x)
   ·exact h'
theorem ac3(h:l.Pairwise λa b=>¬LT b a)(hn:l.Nodup):SL l:=by
 refine(h.and hn).imp λ{a b} ⟨h1,h2⟩=>Fz h1 (Ne.symm h2)
def Ins(a b:ah):Prop:=∀x∈a,x∈b
instance (a b:ah):Decidable (Ins a b):=by unfold Ins;infer_instance
theorem Ins.refl(a:ah):Ins a a:=λ_ h=>h
theorem Ins.trans{a c:ah}(h:Ins a b)(h':Ins b c):Ins a c:=λx hx=>h' x (h x hx)
theorem Ins.sub:∀{b a:ah},SA a->SA b->Ins a b->a.Sublist b
 |_,[],_,_,_=>List.nil_sublist _
 |[],x::s,_,_,h=>absurd (h x (by simp)) (by simp)
 |y::r,x::s,ha,hb,h=>by
  obtain⟨WH,ha2⟩:=List.pairwise_cons.1 ha;obtain⟨fh,jR⟩:=List.pairwise_cons.1 hb;rcases gW.1 (h x (by simp))with e|hx
  ·subst e;refine List.Sublist.cons_cons _ (Ins.sub ha2 jR λz hz=>?_);rcases gW.1 (h z (by simp[hz]))with e|Qx
   ·subst e;have:=WH z hz;omega
   ·exact Qx
  ·refine List.Sublist.cons _ (Ins.sub ha jR λz hz=>?_);have YI:=fh x hx;rcases gW.1 (h z hz)with e|Qx
   ·subst e;rcases gW.1 hz with e|hz
    ·omega
    ·have:=WH z hz;omega
   ·exact Qx
theorem Ins.Lj{a:ah}(h:a.Sublist b):Ins a b:=λ_ hx=>h.subset hx
theorem Ins.DL{a:ah}(ha:SA a)(hb:SA b)(h:Ins a b)(h':Ins b a):a=b:=ha.eq hb λx=>⟨h x,h' x⟩
theorem Ins.len{a:ah}(ha:SA a)(hb:SA b)(h:Ins a b):a.length<=b.length:=(Ins.sub ha hb h).length_le
theorem Ins.same{a:ah}(ha:SA a)(hb:SA b)(h:Ins a b)(hl:b.length<=a.length):a=b:=(Ins.sub ha hb h).eq_of_length_le hl
def dT:ah->Nat->ag
 |_,0=>[[]]
 |[],_+1=>[]
 |x::r,k+1=>(dT r k).map (x:: ·)++dT r (k+1)
theorem oF:∀{l:ah}{k:Nat}{p:ah},p∈dT l k↔p.Sublist l/\p.length=k
 |l,0,p=>by
  simp only[dT,eX];constructor
  ·rintro rfl;exact⟨List.nil_sublist _,rfl⟩
  ·exact λh=>iL h.2
 |[],k+1,p=>by
  simp only[dT,List.not_mem_nil,List.sublist_nil,false_iff,not_and];rintro rfl;simp
 |x::r,k+1,p=>by
  simp only[dT,dF,de,oF];constructor
  ·rintro(⟨q,⟨h1,h2⟩,rfl⟩|⟨h1,h2⟩)
   ·exact⟨List.Sublist.cons_cons _ h1,by simp[h2]⟩
   ·exact⟨List.Sublist.cons _ h1,h2⟩
  ·rintro⟨h1,h2⟩;rcases List.sublist_cons_iff.1 h1 with h3|⟨q,rfl,h3⟩
   ·exact .inr ⟨h3,h2⟩
   ·exact .inl ⟨q,⟨h3,by simpa using h2⟩,O⟩
theorem aaz{l:ah}{k:Nat}(h:l.length<k):dT l k=[]:=by
 rw[List.eq_nil_iff_forall_not_mem];intro p hp;obtain⟨h1,h2⟩:=oF.1 hp;have:=h1.length_le;omega
theorem aph{l:ah}{k i:Nat}(h:i<l.length):dT (l.drop i) (k+1)=(dT (l.drop (i+1)) k).map (gi l i:: ·)++dT (l.drop (i+1)) (k+1):=by
 rw[List.drop_eq_getElem_cons h,dT,b7 h]
theorem Is{x:Int}{a:ah}:LT (x::a) (y::b)↔x<y\/x=y/\LT a b:=by
 unfold LT;rw[iB]
 by_cases e:x=y
 ·subst e;rw[aG (zS.2 rfl)];constructor
  ·exact λh=>.inr ⟨O,h⟩
  rintro(h|h)
  ·omega
  exact h.2
 rw[aD (λh=>e (zS.1 h)),FV];constructor
 ·exact λh=>.inl h
 rintro(h|h)
 ·exact h
 exact absurd h.1 e
theorem Lu:∀{l:ah}{k:Nat},SA l->SL (dT l k)
 |l,0,_=>by simp[dT,SL]
 |[],k+1,_=>by simp[dT,SL]
 |x::r,k+1,h=>by
  obtain⟨h1,h2⟩:=List.pairwise_cons.1 h;unfold SL;rw[dT,List.pairwise_append];refine⟨?_,Lu h2,?_⟩
  ·rw[rV];exact(Lu (k:=k) h2).imp λ{a b} gr=>Is.2 (.inr ⟨O,gr⟩)
  ·intro a ha b hb;obtain⟨q,_,rfl⟩:=de.1 ha;obtain⟨h3,h4⟩:=oF.1 hb
   match b,h3,h4 with
   |y::b,h3,_=>exact Is.2 (.inl (h1 y (h3.subset (by simp))))
def vh(z:ah):ag:=(List.range (z.length+1)).flatMap (dT z)
theorem adt{z:ah}:p∈vh z↔p.Sublist z:=by
 simp only[vh,List.mem_flatMap,fo,oF];constructor
 ·rintro⟨_,_,h,_⟩;exact h
 exact λh=>⟨p.length,by have:=h.length_le;omega,h,O⟩
def uX(ls:ag)(x:ah):Prop:=x∈ls/\x≠[]/\∀y∈ls,Ins x y->y=x
instance (ls:ag)(x:ah):Decidable (uX ls x):=by unfold uX;infer_instance
theorem ZG:∀(n:Nat){ls:ag} (_:∀l∈ls,SA l) (m:Nat) (_:∀l∈ls,l.length<=m){x:ah},x∈ls->x≠[]->m-x.length<=n->∃y,uX ls y/\Ins x y
 |n,ls,hs,m,hm,x,hx,bN,hn=>by
  by_cases h:uX ls x
  ·exact⟨x,h,Ins.refl x⟩
  ·have h2:∃y∈ls,Ins x y/\y≠x:=by
    refine qi λfI=>h ⟨hx,bN,λy hy mD=>qi λhe=>fI ⟨y,hy,mD,he⟩⟩
   obtain⟨y,hy,mD,he⟩:=h2;have h3:x.length<y.length:=by
    refine Nat.lt_of_not_le λhle=>he (mD.same (hs x hx) (hs y hy) hle).symm
   have h4:=hm y hy;obtain⟨k,rfl⟩:∃k,n=k+1:=⟨n-1,ac⟩;obtain⟨z,hz,KX⟩:=ZG k hs m hm hy (λe=>by subst e;simp at h3) ac;exact⟨z,hz,mD.trans KX⟩
theorem anr(ls:ag):∃m:Nat,∀l∈ls,l.length<=m:=by
 induction ls with
 |nil=>exact⟨0,by simp⟩
 |cons a r ih=>
  obtain⟨m,h⟩:=ih;refine⟨max a.length m,λl hl=>?_⟩;rcases gW.1 hl with rfl|hl
  ·exact Nat.le_max_left _ _
  ·exact je (h l hl) (Nat.le_max_right _ _)
theorem ZH{ls:ag}(hs:∀l∈ls,SA l){x:ah}(hx:x∈ls)(bN:x≠[]):∃y,uX ls y/\Ins x y:=by
 obtain⟨m,hm⟩:=anr ls;exact ZG _ hs m hm hx bN (cJ _)
def Fy(ls F:ag):Prop:=SL F/\∀x,x∈F↔uX ls x
theorem Fy.eq{ls:ag}(h:Fy ls F)(h':Fy ls G):F=G:=h.1.eq h'.1 λx=>(h.2 x).trans (h'.2 x).symm
def zW(out:ag)(l:ah):ag:=if l=[]\/l∈out.flatMap vh then out else out++[l]
def mX(ls:ag):ag:=ls.foldl zW []
theorem N4(ls:ag)(l:ah):mX (ls++[l])=zW (mX ls) l:=by simp[mX,List.foldl_append]
theorem VI{out:ag}{l:ah}(ho:∀z∈out,SA z)(hl:SA l):l∈out.flatMap vh↔∃z∈out,Ins l z:=by
 simp only[List.mem_flatMap,adt];exact⟨λ⟨z,h1,h2⟩=>⟨z,h1,.Lj h2⟩,λ⟨z,h1,h2⟩=>⟨z,h1,h2.sub hl (ho z h1)⟩⟩
structure S1(ls out:ag):Prop where
 mem:∀z∈out,z∈ls/\z≠[]
 all:∀l∈ls,l≠[]->∃z∈out,Ins l z
 DL:out.Pairwise λa b=>¬Ins b a
theorem VH:∀(r:ag),(∀l∈r,SA l)->S1 r.reverse (mX r.reverse)
 |[],_=>⟨by simp[mX],by simp,by simp[mX]⟩
 |l::r,h=>by
  have ih:=VH r λz hz=>h z (by simp[hz])
  have hl:=h l (by simp);have ho:∀z∈mX r.reverse,SA z:=λz hz=>h z (by have:=(ih.mem z hz).1;simp at this;simp[this])
  rw[List.reverse_cons,N4];unfold zW
  split
  ·rename_i hc;refine⟨λz hz=>⟨by simp[(ih.mem z hz).1],(ih.mem z hz).2⟩,λx hx bN=>?_,ih.DL⟩;rcases dF.1 hx with hx|hx
   ·exact ih.all x hx bN
   ·obtain rfl:x=l:=by simpa using hx
    rcases hc with hc|hc
    ·exact absurd hc bN
    ·exact(VI ho hl).1 hc
  ·rename_i hc;refine⟨λz hz=>?_,λx hx bN=>?_,?_⟩
   ·rcases dF.1 hz with hz|hz
    ·exact⟨by simp[(ih.mem z hz).1],(ih.mem z hz).2⟩
    ·obtain rfl:z=l:=by simpa using hz
     exact⟨by simp,λe=>hc (.inl e)⟩
   ·rcases dF.1 hx with hx|hx
    ·obtain⟨z,h1,h2⟩:=ih.all x hx bN;exact⟨z,by simp[h1],h2⟩
    ·obtain rfl:x=l:=by simpa using hx
     exact⟨x,by simp,Ins.refl x⟩
   ·rw[List.pairwise_append];refine⟨ih.DL,by simp,λa ha b hb Eh=>?_⟩;obtain rfl:b=l:=by simpa using hb
    exact hc (.inr ((VI ho hl).2 ⟨a,ha,Eh⟩))
theorem VG{ls:ag}(h:∀l∈ls,SA l):S1 ls (mX ls):=by
 have:=VH ls.reverse λl hl=>h l (by simpa using hl)
 rwa[List.reverse_reverse]at this
theorem ahC:∀(ls:ag),(mX ls).Sublist ls:=λls=>by
 have key:∀r:ag,(mX r.reverse).Sublist r.reverse:=λr=>by
  induction r with
  |nil=>simp[mX]
  |cons l r ih=>
   rw[List.reverse_cons,N4];unfold zW
   split
   ·exact ih.trans (ny _ _)
   ·exact ih.append (fD _)
 have:=key ls.reverse
 rwa[List.reverse_reverse]at this
theorem ahA{ls:ag}(h:∀l∈ls,SA l)(hd:ls.Pairwise λa b=>b.length<=a.length)(x:ah):x∈mX ls↔uX ls x:=by
 have hI:=VG h;have hdo:(mX ls).Pairwise λa b=>b.length<=a.length:=hd.sublist (ahC ls)
 constructor
 ·intro hx;refine⟨(hI.mem x hx).1,(hI.mem x hx).2,λy hy mD=>?_⟩;have Qw:y≠[]:=λe=>(hI.mem x hx).2 (by
   cases x with
   |nil=>rfl
   |cons a r=>have:=mD a (by simp);rw[e]at this;simp at this)
  obtain⟨z,hz,KX⟩:=hI.all y hy Qw;have KV:=mD.trans KX;have e:x=z:=by
   refine qi λhe=>?_
   obtain⟨i,hi,rfl⟩:=fS.1 hx;obtain⟨j,hj,rfl⟩:=fS.1 hz;rcases Nat.lt_trichotomy i j with jC|jC|jC
   ·have h1:=List.pairwise_iff_getElem.1 hdo i j hi hj jC;exact he (KV.same (h _ (hI.mem _ hx).1) (h _ (hI.mem _ hz).1) h1)
   ·subst jC;exact he rfl
   ·exact List.pairwise_iff_getElem.1 hI.DL j i hj hi jC KV
  subst e;exact KX.DL (h y hy) (h x (hI.mem x hx).1) mD
 ·intro hx;obtain⟨z,hz,KV⟩:=hI.all x hx.1 hx.2.1;have:=hx.2.2 z (hI.mem z hz).1 KV
  rwa[this]at hz
theorem ahB{ls:ag}(h:∀l∈ls,SA l):(mX ls).Nodup:=(VG h).DL.imp λh e=>h (by rw[e];exact Ins.refl _)
theorem uX.perm{ls:ag}(h:∀x,x∈ls↔x∈Zz){x:ah}(hm:uX ls x):uX Zz x:=⟨(h x).1 hm.1,hm.2.1,λy hy=>hm.2.2 y ((h y).2 hy)⟩
def gX(x:ah):ag->Nat
 |[]=>0
 |y::l=>if LT y x then gX x l+1 else 0
theorem IQ(x:ah):∀l,gX x l<=l.length
 |[]=>cJ _
 |y::l=>by
  have:=IQ x l;unfold gX
  split
  ·simp;omega
  ·simp
theorem MQ{x:ah}:∀{l:ag}{j:Nat} (hj:j<l.length),j<gX x l->LT l[j] x
 |y::l,j,hj,h=>by
  unfold gX at h
  split at h
  ·rename_i hy;cases j with
   |zero=>exact hy
   |succ j=>exact MQ (l:=l) (by simpa using hj) ac
  ·omega
theorem MP{x:ah}:∀{l:ag}(_:SL l){j:Nat} (hj:j<l.length),gX x l<=j->¬LT l[j] x
 |y::l,hs,j,hj,h=>by
  obtain⟨h1,h2⟩:=List.pairwise_cons.1 hs;unfold gX at h
  split at h
  ·rename_i hy;cases j with
   |zero=>omega
   |succ j=>exact MP (l:=l) h2 (by simpa using hj) ac
  ·rename_i hy;cases j with
   |zero=>exact hy
   |succ j=>
    intro hl;have iJ:j<l.length:=by simpa using hj
    exact hy ((h1 l[j] (dt iJ)).trans hl)
theorem adH{x:ah}(hs:SL l){k:Nat}(hk:k<=l.length)(h1:∀j (hj:j<l.length),j<k->LT l[j] x)(h2:∀j (hj:j<l.length),k<=j->¬LT l[j] x):gX x l=k:=by
 have h3:=IQ x l;rcases Nat.lt_trichotomy (gX x l) k with h|h|h
 ·exact absurd (h1 _ ac h) (MP hs ac (cJ _))
 ·exact h
 exact absurd (MQ ac h) (h2 k ac (cJ _))
def jk(l:ag)(x:ah):ag:=if x∈l then l else l.take (gX x l)++x::l.drop (gX x l)
theorem apm{x y:ah}:y∈jk l x↔y∈l\/y=x:=by
 unfold jk
 split
 ·rename_i h;exact⟨λh'=>.inl h',λh'=>by rcases h' with h'|rfl<;>assumption⟩
 constructor
 ·intro h;rcases dF.1 h with h|h
  ·exact .inl (List.mem_of_mem_take h)
  rcases gW.1 h with h|h
  ·exact .inr h
  exact .inl (List.mem_of_mem_drop h)
 rintro(h|rfl)
 ·rw[<-List.take_append_drop (gX x l) l]at h;rcases dF.1 h with h|h
  ·simp[h]
  simp[h]
 simp
theorem apk(hs:SL l)(x:ah):SL (jk l x):=by
 unfold jk
 split
 ·exact hs
 rename_i hx;have h1:∀a∈l.take (gX x l),LT a x:=λa ha=>by
  obtain⟨j,hj,rfl⟩:=fS.1 ha;rw[jG]at hj;rw[List.getElem_take];exact MQ ac ac
 have h2:∀b∈l.drop (gX x l),LT x b:=λb hb=>by
  obtain⟨j,hj,rfl⟩:=fS.1 hb;rw[List.length_drop]at hj;rw[List.getElem_drop];exact Fz (MP hs ac (Nat.le_add_right _ _)) (λe=>hx (by rw[<-e];exact dt _))
 unfold SL;rw[List.pairwise_append];refine⟨hs.sublist (List.take_sublist _ _),List.pairwise_cons.2 ⟨h2,hs.sublist (List.drop_sublist _ _)⟩,λa ha b hb=>?_⟩;rcases gW.1 hb with rfl|hb
 ·exact h1 a ha
 exact(h1 a ha).trans (h2 b hb)
def kI(ls:ag):ag:=(ls.filter λl=>decide (l≠[])).foldl jk []
theorem F3:∀(ls:ag){l:ag},SL l->SL (ls.foldl jk l)/\∀x,x∈ls.foldl jk l↔x∈l\/x∈ls
 |[],l,h=>⟨h,λx=>by simp⟩
 |a::r,l,h=>by
  obtain⟨h1,h2⟩:=F3 r (apk h a);refine⟨h1,λx=>?_⟩;rw[List.foldl_cons,h2,apm,gW];constructor
  ·rintro((h|h)|h)
   ·exact .inl h
   ·exact .inr (.inl h)
   ·exact .inr (.inr h)
  ·rintro(h|h|h)
   ·exact .inl (.inl h)
   ·exact .inl (.inr h)
   ·exact .inr h
theorem Rx(ls:ag):SL (kI ls):=(F3 _ (by simp[SL])).1
theorem Lv(ls:ag)(x:ah):x∈kI ls↔x∈ls/\x≠[]:=by
 rw[kI,(F3 _ (by simp[SL])).2];simp
def mq(ls:ag):ag:=(kI ls).filter λx=>decide (∀y∈kI ls,Ins x y->y=x)
theorem Jq(ls:ag):Fy ls (mq ls):=by
 refine⟨(Rx ls).filter _,λx=>?_⟩;rw[mq,fM,Lv,k5];constructor
 ·rintro⟨⟨h1,h2⟩,h3⟩;refine⟨h1,h2,λy hy mD=>h3 y ((Lv ls y).2 ⟨hy,λe=>h2 ?_⟩) mD⟩;cases x with
  |nil=>rfl
  |cons a r=>have:=mD a (by simp);rw[e]at this;simp at this
 ·rintro⟨h1,h2,h3⟩;exact⟨⟨h1,h2⟩,λy hy=>h3 y ((Lv ls y).1 hy).1⟩
theorem zU{ls:ag}{x:ah}:x∈mq ls↔uX ls x:=(Jq ls).2 x
def ix(s:ah)(x:Int):Int:=(s.idxOf x:Nat)
theorem alX{s:ah}{x:Int}(hx:x∈s):0<=ix s x/\ix s x<s.length:=by
 have:=List.idxOf_lt_length_of_mem hx;unfold ix;omega
theorem ahk{s:ah}{x:Int}(hx:x∈s):gi s (ix s x)=x:=by
 have h:=List.idxOf_lt_length_of_mem hx;unfold ix;rw[b7 h];exact List.getElem_idxOf h
theorem SA.lt{s:ah}(h:SA s){a b:Nat}(gr:a<b)(hb:b<s.length):gi s a<gi s b:=by
 rw[b7 (by omega),b7 hb];exact List.pairwise_iff_getElem.1 h a b ac hb gr
theorem Y6{s:ah}(h:SA s){k:Nat}(hk:k<s.length):ix s (gi s k)=k:=by
 have hm:gi s k∈s:=by rw[b7 hk];exact dt _
 have h1:=alX hm;have h2:=ahk hm;obtain⟨j,hj⟩:∃j:Nat,ix s (gi s k)=j:=⟨(ix s (gi s k)).toNat,ac⟩;rw[hj]at h1 h2|-;rcases Nat.lt_trichotomy j k with hl|hl|hl
 ·have:=h.lt hl hk;omega
 ·rw[hl]
 have:=h.lt hl ac;omega
def tP(ss:ag):ah:=cs ss.flatten
theorem afx{l:ah}(hl:l∈ss):Ins l (tP ss):=λx hx=>(x7 _ _).2 (List.mem_flatten.2 ⟨l,hl,hx⟩)
def Jj(ss:ag):ag:=(mq ss).map (List.map (ix (tP ss)))
def sN(ss:ag):Prop:=(∃l∈ss,6<l.length)\/60<(tP ss).length\/400<(mq ss).length
instance (ss:ag):Decidable (sN ss):=by unfold sN;infer_instance
def B9(ss:ag):Int:=if sN ss then 0 else((tP ss).length:Nat)
def zT(ss:ag):ag:=if sN ss then[]else Jj ss
def qo(ss:ag):Int:=if sN ss then 3 else 0
theorem afy(hs:∀l∈ss,SA l):cs (mq ss).flatten=tP ss:=by
 refine(vk _).eq (vk _) λx=>?_
 rw[x7,tP,x7,List.mem_flatten,List.mem_flatten];constructor
 ·rintro⟨l,hl,hx⟩;exact⟨l,(zU.1 hl).1,hx⟩
 rintro⟨l,hl,hx⟩;obtain⟨y,hy,hi⟩:=ZH hs hl (λe=>by subst e;simp at hx);exact⟨y,zU.2 hy,hi x hx⟩
theorem anC(hs:∀l∈ss,SA l):(∃l∈mq ss,6<l.length)↔∃l∈ss,6<l.length:=by
 constructor
 ·rintro⟨l,hl,h⟩;exact⟨l,(zU.1 hl).1,h⟩
 rintro⟨l,hl,h⟩;obtain⟨y,hy,hi⟩:=ZH hs hl (λe=>by subst e;simp at h);have:=hi.len (hs l hl) (hs y hy.1);exact⟨y,zU.2 hy,ac⟩
structure gm(V:Int)(F:ag):Prop where
 v:0<=V/\V<=60
 f:F.length<=400
 row:∀l∈F,(1<=l.length/\l.length<=6)/\SA l/\∀x∈l,0<=x/\x<V
 ord:SL F
 all:∀x:Int,0<=x->x<V->∃l∈F,x∈l
 top:∀l∈F,∀m∈F,Ins l m->m=l
theorem ags(ho:SL F)(hn:∀l∈F,l≠[]):(mq F).length=F.length↔∀l∈F,∀m∈F,Ins l m->m=l:=by
 have e:mq F=F.filter λx=>decide (∀y∈F,Ins x y->y=x):=by
  refine(Jq F).1.eq (ho.filter _) λx=>?_
  rw[zU,fM,k5];exact⟨λh=>⟨h.1,h.2.2⟩,λh=>⟨h.1,hn x h.1,h.2⟩⟩
 rw[e,List.length_filter_eq_length_iff];simp
def b6(n:Nat):ah:=(List.range n).map λk:Nat=>(k:Int)
theorem uL(n:Nat):(b6 n).length=n:=by simp[b6]
theorem tz(n:Nat)(x:Int):x∈b6 n↔0<=x/\x<n:=by
 simp only[b6,de,fo];exact⟨λ⟨k,hk,e⟩=>by omega,λh=>⟨x.toNat,ac,ac⟩⟩
theorem uK(n:Nat):SA (b6 n):=by
 unfold SA b6;rw[rV];exact List.pairwise_lt_range.imp λh=>by omega
theorem ahl{n:Nat}{k:Nat}(h:k<n):gi (b6 n) k=k:=by
 rw[b7 (by rw[uL];exact h)];simp[b6]
theorem alY{n:Nat}{x:Int}(h0:0<=x)(h1:x<n):ix (b6 n) x=x:=by
 obtain⟨k,rfl⟩:∃k:Nat,x=k:=⟨x.toNat,ac⟩;have:=Y6 (uK n) (k:=k) (by rw[uL];omega)
 rwa[ahl (by omega)]at this
theorem US(h:gm V F):mq F=F:=by
 refine(Jq F).1.eq h.ord λx=>?_
 rw[zU];refine⟨λh=>h.1,λhx=>⟨hx,λe=>?_,h.top x hx⟩⟩;have:=(h.row x hx).1.1;rw[e]at this;simp at this
theorem Ul(h:gm V F):tP F=b6 V.toNat:=by
 have hv:=h.v;refine(vk _).eq (uK _) λx=>?_
 rw[x7,List.mem_flatten,tz];constructor
 ·rintro⟨l,hl,hx⟩;have:=(h.row l hl).2.2 x hx;omega
 rintro⟨h0,h1⟩;obtain⟨l,hl,hx⟩:=h.all x h0 ac;exact⟨l,hl,hx⟩
theorem anO{f:Int->Int}(h:∀l∈F,∀x∈l,f x=x):F.map (List.map f)=F:=by
 have e:F.map (List.map f)=F.map id:=ki λl hl=>by
  have:l.map f=l.map id:=ki λx hx=>h l hl x hx
  rw[this,List.map_id];rfl
 rw[e,List.map_id]
theorem Ca(h:gm V F):B9 F=V/\zT F=F/\qo F=0/\¬sN F:=by
 have hv:=h.v;have hb:¬sN F:=by
  rintro(⟨l,hl,h6⟩|h6|h6)
  ·have:=(h.row l hl).1;omega
  ·rw[Ul h,uL]at h6;omega
  rw[US h]at h6;have:=h.f;omega
 unfold B9 zT qo Jj;rw[aD hb,aD hb,aD hb,US h,Ul h,uL];refine⟨ac,anO λl hl x hx=>?_,O,hb⟩;have:=(h.row l hl).2.2 x hx;exact alY this.1 ac
theorem JD(x:Int)(l:ah)(i:Nat):gi (x::l) ((i+1:Nat):Int)=gi l (i:Nat):=by simp[gi]
theorem SA.y6{l:ah}(h:SA l){i:Nat}(jC:i<j)(hj:j<l.length):gi l i<gi l j:=by
 rw[b7 (by omega),b7 hj];exact List.pairwise_iff_getElem.1 h i j ac hj jC
def kU(R:ah)(B:ag)(e:Int):ah:=(b6 R.length).filter λf=>decide (gi R f=gi R e+1/\e∈gl B f)
theorem qf{B:ag}{e f:Int}:f∈kU R B e↔(0<=f/\f<R.length)/\gi R f=gi R e+1/\e∈gl B f:=by
 unfold kU;rw[fM,tz,k5]
theorem Ia(R:ah)(B:ag)(e:Int):SA (kU R B e):=oO _ (uK _)
def pw(R:ah)(B:ag):Nat->Int->ag
 |0,_=>[[]]
 |k+1,e=>(kU R B e).flatMap λf=>(pw R B k f).map (f:: ·)
def xZ(R:ah):ah:=(b6 R.length).filter λe=>decide (gi R e=0)
theorem B5{e:Int}:e∈xZ R↔(0<=e/\e<R.length)/\gi R e=0:=by
 unfold xZ;rw[fM,tz,k5]
def eH(n:Nat)(R:ah)(B:ag):ag:=(xZ R).flatMap λe=>(pw R B (n-1) e).map (e:: ·)
def eF(n:Nat)(R:ah)(B:ag)(e:Int):Prop:=pw R B (n-1-(gi R e).toNat) e≠[]
instance (n:Nat)(R:ah)(B:ag)(e:Int):Decidable (eF n R B e):=by unfold eF;infer_instance
theorem TE{n:Nat}{B:ag}{e:Int}(h:gi R e=(n:Int)-1):eF n R B e:=by
 unfold eF;rw[show n-1-(gi R e).toNat=0 by omega];simp[pw]
theorem IL{n:Nat}{B:ag}{e:Int}(h0:0<=gi R e)(h1:gi R e<(n:Int)-1):eF n R B e↔∃f∈kU R B e,eF n R B f:=by
 obtain⟨k,hk⟩:∃k,n-1-(gi R e).toNat=k+1:=⟨n-1-(gi R e).toNat-1,ac⟩;have hf:∀f∈kU R B e,n-1-(gi R f).toNat=k:=λf hf=>by
  have:=(qf.1 hf).2.1;omega
 unfold eF;rw[hk,pw];constructor
 ·intro h;obtain⟨x,hx⟩:=List.exists_mem_of_ne_nil _ h;obtain⟨f,rH,hx⟩:=List.mem_flatMap.1 hx;obtain⟨y,hy,_⟩:=de.1 hx;exact⟨f,rH,by rw[hf f rH];exact List.ne_nil_of_mem hy⟩
 rintro⟨f,rH,h⟩;rw[hf f rH]at h;obtain⟨y,hy⟩:=List.exists_mem_of_ne_nil _ h;exact List.ne_nil_of_mem (List.mem_flatMap.2 ⟨f,rH,de.2 ⟨y,hy,O⟩⟩)
theorem NH{α β:Type}{p:α->Bool}{g:α->List β}:∀{l:List α},(∀x∈l,p x=false->g x=[])->(l.filter p).flatMap g=l.flatMap g
 |[],_=>rfl
 |a::r,h=>by
  have ih:=NH (p:=p) (g:=g) (l:=r) λx hx=>h x (fE _ hx)
  cases hp:p a with
  |true=>rw[zE hp,List.flatMap_cons,List.flatMap_cons,ih]
  |false=>rw[BP (by simp[hp]),List.flatMap_cons,ih,h a (by simp) hp];rfl
theorem abS{n:Nat}{B:ag}{e:Int}{k:Nat}(h0:0<=gi R e)(hk:(gi R e).toNat+(k+1)=n-1):pw R B (k+1) e=((kU R B e).filter λf=>decide (eF n R B f)).flatMap λf=>(pw R B k f).map (f:: ·):=by
 rw[pw,NH];intro f hf h;have h2:=(qf.1 hf).2.1;have h3:¬eF n R B f:=by simpa using h
 unfold eF at h3;rw[show n-1-(gi R f).toNat=k by omega]at h3;rw[kW.1 h3];rfl
theorem TY{n:Nat}{B:ag}:eH n R B=((xZ R).filter λf=>decide (eF n R B f)).flatMap λe=>(pw R B (n-1) e).map (e:: ·):=by
 rw[eH,NH];intro f hf h;have h2:=(B5.1 hf).2;have h3:¬eF n R B f:=by simpa using h
 unfold eF at h3;rw[h2]at h3;rw[show n-1-(0:Int).toNat=n-1 by rfl]at h3;rw[kW.1 h3];rfl
def cap(l:ag):ag:=l.take 401
theorem M7(l:ag):(cap l).length<=401:=by unfold cap;rw[List.length_take];omega
theorem I6(m:ag)(h:400<(cap l).length):cap (l++m)=cap l:=by
 unfold cap at h|-;rw[jG]at h;rw[zF (by omega)]
theorem T8(h:(cap l).length<=400):cap l=l:=by
 unfold cap at h|-;rw[jG]at h;exact jw ac
theorem M6:(cap l).length<=400↔l.length<=400:=by
 unfold cap;rw[jG];omega
theorem aeG(x:ah)(h:(cap l).length<=400):cap (l++[x])=cap l++[x]:=by
 rw[T8 h];rw[M6]at h;unfold cap;exact jw (by rw[cj,List.length_singleton];omega)
def Fs(R:ah)(B:ag):Int->ah->Prop
 |_,[]=>True
 |e,f::r=>f∈kU R B e/\Fs R B f r
theorem Jp{R:ah}{B:ag}:∀{k:Nat}{e:Int}{x:ah},x∈pw R B k e↔x.length=k/\Fs R B e x
 |0,e,x=>by
  rw[pw,eX];constructor
  ·rintro rfl;exact⟨rfl,au⟩
  ·exact λh=>iL h.1
 |k+1,e,x=>by
  rw[pw,List.mem_flatMap];constructor
  ·rintro⟨f,hf,h⟩;obtain⟨y,hy,rfl⟩:=de.1 h;obtain⟨h1,h2⟩:=Jp.1 hy;exact⟨by rw[List.length_cons,h1],hf,h2⟩
  ·rintro⟨h1,h2⟩
   match x,h1,h2 with
   |f::r,h1,⟨h2,h3⟩=>exact⟨f,h2,de.2 ⟨r,Jp.2 ⟨by simpa using h1,h3⟩,rfl⟩⟩
theorem Mm{R:ah}{B:ag}:∀{x:ah}{e:Int},Fs R B e x↔∀i:Nat,i<x.length->gi (e::x) ((i+1:Nat):Int)∈kU R B (gi (e::x) i)
 |[],e=>by simp[Fs]
 |f::r,e=>by
  rw[Fs,Mm (x:=r) (e:=f)];constructor
  ·rintro⟨h1,h2⟩ i hi
   match i with
   |0=>exact h1
   |i+1=>
    rw[JD,JD];exact h2 i (by simpa using hi)
  ·intro h;refine⟨h 0 (by simp),λi hi=>?_⟩;have:=h (i+1) (by simpa using hi)
   rwa[JD,JD]at this
theorem agB{n:Nat}(hn:1<=n){B:ag}{x:ah}:x∈eH n R B↔x.length=n/\(∀i:Nat,i<n->(0<=gi x i/\gi x i<R.length)/\gi R (gi x i)=i)/\∀i:Nat,i+1<n->gi x i∈gl B (gi x ((i+1:Nat):Int)):=by
 unfold eH;rw[List.mem_flatMap];constructor
 ·rintro⟨e,he,h⟩;obtain⟨y,hy,rfl⟩:=de.1 h;obtain⟨h1,h2⟩:=Jp.1 hy;obtain⟨h3,h4⟩:=B5.1 he;rw[Mm]at h2;have key:∀i:Nat,i<n->(0<=gi (e::y) i/\gi (e::y) i<R.length)/\gi R (gi (e::y) i)=i:=by
   intro i
   induction i with
   |zero=>intro _;exact⟨h3,h4⟩
   |succ i ih=>
    intro hi;have h5:=qf.1 (h2 i ac);have h6:=ih ac;exact⟨h5.1,by rw[h5.2.1,h6.2];omega⟩
  exact⟨by rw[List.length_cons,h1];omega,key,λi hi=>(qf.1 (h2 i ac)).2.2⟩
 ·rintro⟨h1,h2,h3⟩
  match x,h1,h2,h3 with
  |[],h1,_,_=>simp at h1;omega
  |e::y,h1,h2,h3=>
   rw[List.length_cons]at h1;refine⟨e,B5.2 (h2 0 ac),de.2 ⟨y,Jp.2 ⟨ac,Mm.2 λi hi=>?_⟩,O⟩⟩;have h4:=h2 (i+1) ac;have h5:=h2 i ac;exact qf.2 ⟨h4.1,by rw[h4.2,h5.2];omega,h3 i ac⟩
theorem MF{g:Int->ag}(hg:∀f,SL (g f)):∀{l:ah},SA l->SL (l.flatMap λf=>(g f).map (f:: ·))
 |[],_=>List.Pairwise.nil
 |a::l,h=>by
  obtain⟨h1,h2⟩:=List.pairwise_cons.1 h;rw[List.flatMap_cons,SL,List.pairwise_append];refine⟨rV.2 ((hg a).imp λh=>Is.2 (.inr ⟨O,h⟩)),MF hg h2,λx hx y hy=>?_⟩;obtain⟨u,_,rfl⟩:=de.1 hx;obtain⟨b,hb,hy⟩:=List.mem_flatMap.1 hy;obtain⟨v,_,rfl⟩:=de.1 hy;exact Is.2 (.inl (h1 b hb))
theorem UQ(R:ah)(B:ag):∀(k:Nat)(e:Int),SL (pw R B k e)
 |0,_=>by simp[pw,SL]
 |k+1,e=>MF (UQ R B k) (Ia R B e)
theorem Vb(n:Nat)(R:ah)(B:ag):SL (eH n R B):=MF (UQ R B (n-1)) (oO _ (uK _))
structure gN(n:Int)(R:ah)(B:ag):Prop where
 n1:1<=n/\n<=5
 qm:R.length<=500
 len:B.length=R.length
 jl:∀x∈R,0<=x/\x<=n-1
 B0:oN R
 row:∀e:Nat,e<R.length->SA (gl B e)/\∀d∈gl B e,(0<=d/\d<R.length)/\gi R d<gi R e
 tr:∀e:Nat,e<R.length->∀d∈gl B e,∀c∈gl B d,c∈gl B e
theorem oN.le(h:oN R){i:Nat}(jC:i<=j)(hj:j<R.length):gi R i<=gi R j:=by
 rcases Nat.lt_or_eq_of_le jC with h1|rfl
 ·rw[b7 (by omega),b7 hj];exact List.pairwise_iff_getElem.1 h i j ac hj h1
 exact Int.le_refl _
theorem gN.at_{n:Int}{B:ag}(h:gN n R B){e:Int}(h0:0<=e)(h1:e<R.length):SA (gl B e)/\(∀d∈gl B e,(0<=d/\d<e)/\gi R d<gi R e)/\∀d∈gl B e,∀c∈gl B d,c∈gl B e:=by
 obtain⟨k,rfl⟩:∃k:Nat,e=k:=⟨e.toNat,ac⟩;have hr:=h.row k ac;refine⟨hr.1,λd hd=>?_,h.tr k ac⟩;have h2:=hr.2 d hd;obtain⟨j,rfl⟩:∃j:Nat,d=j:=⟨d.toNat,ac⟩;refine⟨⟨ac,?_⟩,h2.2⟩;refine Int.not_le.1 λhle=>?_
 have:=h.B0.le (i:=k) (j:=j) ac ac;omega
theorem gN.ri{n:Int}{B:ag}(h:gN n R B){e:Int}(h0:0<=e)(h1:e<R.length):0<=gi R e/\gi R e<=n-1:=by
 obtain⟨k,rfl⟩:∃k:Nat,e=k:=⟨e.toNat,ac⟩;exact h.jl _ (gi_in ac)
def a8(M:ag):Nat->Nat
 |0=>0
 |i+1=>a8 M i+(kC M i).toNat
def ct(M:ag):Nat->ah
 |0=>[]
 |i+1=>ct M i++List.replicate (kC M i).toNat (i:Int)
theorem Cm(M:ag):∀i,(ct M i).length=a8 M i
 |0=>rfl
 |i+1=>by rw[ct,cj,Cm M i,List.length_replicate];rfl
def fw(M:ag)(i:Nat)(f:Nat):Int:=(a8 M i:Int)+gi (dG M i) f
theorem pY(M:ag){i:Nat}(h:i<=j):a8 M i<=a8 M j:=by
 induction h with
 |refl=>exact cJ _
 |step _ ih=>exact je ih (by show _<=a8 M _+_;omega)
theorem Cj(hM:eY M){i f:Nat}(hf:f<(gl M 0).length):(a8 M i:Int)<=fw M i f/\fw M i f<(a8 M (i+1):Int):=by
 have h1:=UX hM i f hf;unfold fw;show _/\_<((a8 M i+(kC M i).toNat:Nat):Int);omega
theorem Vo{n:Nat}:∀{i:Nat},i<n->∀{e:Int},(a8 M i:Int)<=e->e<(a8 M (i+1):Int)->gi (ct M n) e=i:=by
 induction n with
 |zero=>intro i hi;omega
 |succ n ih=>
  intro i hi e h0 h1;obtain⟨k,rfl⟩:∃k:Nat,e=k:=⟨e.toNat,ac⟩;have hl:=Cm M n
  by_cases h:i=n
  ·subst h;rw[ct,gi,b5,jM (by rw[hl];omega),List.getElem?_replicate,aG]
   ·rfl
   ·have:a8 M (i+1)=a8 M i+(kC M i).toNat:=O;rw[hl];omega
  ·have h3:=pY M (show i+1<=n by omega);have h2:=ih (show i<n by omega) h0 h1;rw[ct,gi,b5,jF (by rw[hl];omega),<-b5];exact h2
theorem Vn(M:ag):∀n,oN (ct M n)/\∀x∈ct M n,0<=x/\x<(n:Int)
 |0=>⟨List.Pairwise.nil,λx hx=>by cases hx⟩
 |n+1=>by
  obtain⟨h1,h2⟩:=Vn M n;refine⟨?_,λx hx=>?_⟩
  ·rw[ct,oN,List.pairwise_append];refine⟨h1,List.pairwise_replicate.2 (.inr (Int.le_refl _)),λx hx y hy=>?_⟩;have:=h2 x hx;have:=(List.mem_replicate.1 hy).2;omega
  ·rw[ct]at hx;rcases dF.1 hx with h|h
   ·have:=h2 x h;omega
   ·have:=(List.mem_replicate.1 h).2;omega
def xN(M:ag)(d e:Int):Prop:=∃f:Nat,f<(gl M 0).length/\∃i:Nat,i<M.length/\∃k:Nat,k<i/\e=fw M i f/\d=fw M k f
open Classical in
noncomputable def cd(M:ag):ag:=(b6 (a8 M M.length)).map λe=>(b6 (a8 M M.length)).filter λd=>decide (xN M d e)
theorem wC(M:ag):(cd M).length=a8 M M.length:=by simp[cd,b6]
theorem tT{e:Int}(h0:0<=e)(h1:e<(a8 M M.length:Int))(d:Int):d∈gl (cd M) e↔(0<=d/\d<(a8 M M.length:Int))/\xN M d e:=by
 obtain⟨k,rfl⟩:∃k:Nat,e=k:=⟨e.toNat,ac⟩;rw[df (by rw[wC];omega)];unfold cd;rw[List.getElem_map,fM,tz];have:(b6 (a8 M M.length))[k]'(by rw[uL];omega)=(k:Int):=by simp[b6]
 rw[this];exact and_congr Iff.rfl (by simp)
theorem xN.jl(hM:eY M){e:Int}(h:xN M d e):(0<=d/\d<(a8 M M.length:Int))/\(0<=e/\e<(a8 M M.length:Int))/\gi (ct M M.length) d<gi (ct M M.length) e:=by
 obtain⟨f,hf,i,hi,k,hk,rfl,rfl⟩:=h;have h1:=Cj hM (i:=i) hf;have h2:=Cj hM (i:=k) hf;have h3:=pY M (show i+1<=M.length by omega);have h4:=pY M (show k+1<=M.length by omega);refine⟨ac,ac,?_⟩;rw[Vo hi h1.1 h1.2,Vo (show k<M.length by omega) h2.1 h2.2];omega
theorem abH(h:p∈M.take j):∃k:Nat,k<j/\k<M.length/\p=gl M k:=by
 obtain⟨k,hk,rfl⟩:=fS.1 h;rw[jG]at hk;exact⟨k,ac,ac,by rw[List.getElem_take,df (by omega)]⟩
theorem Zy(hM:eY M)(j:Nat):Sys (gl M 0).length (M.take j):=λp hp=>hM.2.2.1.sys p (List.mem_of_mem_take hp)
theorem anH(hM:eY M)(h0:0<=y)(h1:y<(gl M 0).length)(h:Reach (M.take j) y u):∀i:Nat,j<=i->gi (dG M i) u=gi (dG M i) y:=by
 induction h with
 |refl=>exact λ_ _=>rfl
 |step h hp ih=>
  intro i hi;have hr:=h.range (Zy hM j) h0 h1;obtain⟨k,Xn,hk,rfl⟩:=abH hp;rw[UY hM hk (by omega) hr.1 hr.2,ih i hi]
theorem anG(hM:eY M){k:Nat}(wR:j<k)(hk:k<M.length)(h0:0<=y)(h1:y<(gl M 0).length)(h:Reach (M.take j) y u):Reach (M.take j) (gi (gl M k) y) (gi (gl M k) u):=by
 induction h with
 |refl=>exact .refl
 |step h hp ih=>
  have hr:=h.range (Zy hM j) h0 h1;obtain⟨i,jC,hi,rfl⟩:=abH hp;rw[hM.comm hi hk (by omega) hr.1 hr.2];exact .step ih hp
theorem arM(hM:eY M){f:Int}(h0:0<=f)(h1:f<(gl M 0).length){g:Int}(h:Reach (M.eraseIdx j) f g):
 ∃u:Int,(0<=u/\u<(gl M 0).length)/\(∀i:Nat,i<=j->gi (dG M i) u=gi (dG M i) f)/\∀i:Nat,j<=i->gi (dG M i) u=gi (dG M i) g:=by
 have key:∃u:Int,(0<=u/\u<(gl M 0).length)/\(∀i:Nat,i<=j->gi (dG M i) u=gi (dG M i) f)/\Reach (M.take j) g u:=by
  induction h with
  |refl=>exact⟨f,⟨h0,h1⟩,λ_ _=>rfl,.refl⟩
  |step h hp ih=>
   rename_i y p;obtain⟨u,hu,eL,hr⟩:=ih;have tu:=h.range (hM.2.2.1.sys.erase j) h0 h1;obtain⟨k,hk,Xn,rfl⟩:=agb hp;rcases Nat.lt_or_gt_of_ne Xn with dH|yu
   ·refine⟨u,hu,eL,?_⟩;have hm:gl M k∈M.take j:=by
     rw[fS];exact⟨k,by rw[jG];omega,by rw[List.getElem_take,df hk]⟩
    have h2:Reach (M.take j) (gi (gl M k) y) (gi (gl M k) (gi (gl M k) y)):=.step .refl hm;rw[hM.two hk tu.1 tu.2]at h2;exact h2.trans hr
   ·refine⟨gi (gl M k) u,hM.Br hk hu.1 hu.2,λi hi=>?_,anG hM yu hk tu.1 tu.2 hr⟩;rw[UY hM hk (by omega) hu.1 hu.2,eL i hi]
 obtain⟨u,hu,eL,hr⟩:=key;have hg:=h.range (hM.2.2.1.sys.erase j) h0 h1;exact⟨u,hu,eL,anH hM hg.1 hg.2 hr⟩
theorem xN.trans(hM:eY M){c e:Int}(h:xN M c d)(h':xN M d e):xN M c e:=by
 obtain⟨f,hf,j,hj,k,hk,rfl,rfl⟩:=h;obtain⟨g,hg,i,hi,l,hl,rfl,e2⟩:=h';have h1:=Cj hM (i:=j) hf;have h2:=Cj hM (i:=l) hg;have gp:j=l:=by
  rcases Nat.lt_trichotomy j l with h|h|h
  ·have:=pY M (show j+1<=l by omega);omega
  ·exact h
  have:=pY M (show l+1<=j by omega);omega
 subst gp;have e3:gi (dG M j) f=gi (dG M j) g:=by unfold fw at e2;omega
 obtain⟨u,hu,eL,cI⟩:=arM hM (j:=j) (f:=(f:Int)) ac ac (agu hM ac ac ac ac e3);refine⟨u.toNat,ac,i,hi,k,ac,?_,?_⟩
 ·unfold fw;rw[Int.toNat_of_nonneg hu.1,cI i (by omega)]
 unfold fw;rw[Int.toNat_of_nonneg hu.1,eL k (by omega)]
theorem agL(hM:eY M)(hb:a8 M M.length<=500):gN M.length (ct M M.length) (cd M):=by
 have h1:=hM.1;have hl:=Cm M M.length;obtain⟨ha,hr⟩:=Vn M M.length;refine⟨ac,ac,by rw[wC,hl],λx hx=>?_,ha,λe he=>⟨?_,λd hd=>?_⟩,λe he d hd c hc=>?_⟩
 ·have:=hr x hx;omega
 ·rw[df (by rw[wC];omega)];unfold cd;rw[List.getElem_map];exact oO _ (uK _)
 ·rw[tT (by omega) (by omega)]at hd;have:=hd.2.jl hM;exact⟨ac,this.2.2⟩
 rw[tT (by omega) (by omega)]at hd|-;rw[tT (by omega) (by omega)]at hc;exact⟨hc.1,hc.2.trans hM hd.2⟩
def DR(L:ag)(O:ah)(i f:Nat):Int:=gi O i+gi (gl L i) f
instance asX(l:ah):Decidable (SA l):=by unfold SA;exact inferInstance
def Vp(L:ag)(O:ah)(N:Nat)(B:ag):Bool:=(List.range N).all (λf=>(List.range 3).all λi=>(List.range i).all λk=>decide (DR L O k f∈gl B (DR L O i f))) &&(List.range B.length).all λe=>decide (SA (gl B e)) &&(gl B e).all λd=>decide (0<=d/\d<B.length) &&(List.range N).any λf=>(List.range 3).any λi=>(List.range i).any λk=>decide ((e:Int)=DR L O i f/\d=DR L O k f)
theorem Cn(L:ag)(O:ah)(B:ag)(hM:eY M)(h3:M.length=3)(hL:∀i:Nat,i<3->dG M i=gl L i)(hO:∀i:Nat,i<3->(a8 M i:Int)=gi O i)(hB:B.length=a8 M 3)(hc:Vp L O (gl M 0).length B=true):cd M=B:=by
 have he:∀i f:Nat,i<3->fw M i f=DR L O i f:=λi f hi=>by unfold fw DR;rw[hL i hi,hO i hi]
 unfold Vp at hc;rw[Bool.and_eq_true,List.all_eq_true,List.all_eq_true]at hc;obtain⟨c1,c2⟩:=hc;have hlen:=wC M;rw[h3]at hlen;refine iC ac λe h1 h2=>?_
 rw[<-df h1,<-df h2];have c3:=c2 e (fo.2 h2);rw[Bool.and_eq_true,k5,List.all_eq_true]at c3;have eA:∀r∈cd M,SA r:=λr hr=>by
  unfold cd at hr;obtain⟨_,_,rfl⟩:=de.1 hr;exact oO _ (uK _)
 have hs:SA (gl (cd M) e):=eA _ (by rw[df h1];exact dt _);refine hs.eq c3.1 λd=>?_
 rw[tT (by omega) (by rw[h3];omega)];constructor
 ·rintro⟨_,f,hf,i,hi,k,hk,e1,e2⟩;rw[h3]at hi;have c4:=c1 f (fo.2 hf);rw[List.all_eq_true]at c4;have c5:=c4 i (fo.2 hi);rw[List.all_eq_true]at c5;have c6:=bX (c5 k (fo.2 hk));rw[<-he i f hi,<-he k f (by omega),<-e1,<-e2]at c6;exact c6
 intro hd;have c4:=c3.2 d hd;rw[Bool.and_eq_true,k5,List.any_eq_true]at c4;obtain⟨c5,f,hf,c6⟩:=c4;rw[List.any_eq_true]at c6;obtain⟨i,hi,c6⟩:=c6;rw[List.any_eq_true]at c6;obtain⟨k,hk,c6⟩:=c6;have c6:=bX c6;have hi:=fo.1 hi;have hk:=fo.1 hk;refine⟨by rw[h3];omega,f,fo.1 hf,i,ac,k,hk,?_,?_⟩
 ·rw[he i f hi];exact c6.1
 rw[he k f (by omega)];exact c6.2
def EY(R:ah)(B:ag)(e:Int):ah:=(b6 R.length).filter λf=>decide (e∈gl B f/\∀x∈gl B f,e∉gl B x)
def QX(R:ah)(B:ag):ah:=(b6 R.length).filter λe=>decide (gl B e=[])
def vL(R:ah)(B:ag):ag:=(b6 R.length).map (EY R B)++[QX R B]
def fW(U:ag):Nat->Int->ag
 |0,_=>[[]]
 |k+1,e=>if gl U e=[]then[[]]else(gl U e).flatMap λf=>(fW U k f).map (f:: ·)
def jc(n:Nat)(R:ah)(B:ag):ag:=fW (vL R B) (n+1) (R.length:Int)
theorem Ln(R:ah)(B:ag):(vL R B).length=R.length+1:=by simp[vL,b6]
theorem Rc{B:ag}{e:Nat}(h:e<R.length):gl (vL R B) e=EY R B e:=by
 rw[df (by rw[Ln];omega)];unfold vL;rw[List.getElem_append_left (by rw[jd,uL];exact h),List.getElem_map];simp[b6]
theorem HR(R:ah)(B:ag):gl (vL R B) (R.length:Int)=QX R B:=by
 rw[df (by rw[Ln];omega)];unfold vL;rw[List.getElem_append_right (by rw[jd,uL];exact cJ _)];simp[b6]
theorem Re{B:ag}{e f:Int}:f∈EY R B e↔(0<=f/\f<R.length)/\e∈gl B f/\∀x∈gl B f,e∉gl B x:=by
 unfold EY;rw[fM,tz,k5]
theorem aoz{n:Int}{B:ag}(hP:gN n R B){e f:Int}(h:f∈EY R B e):e<f/\gi R e<gi R f:=by
 obtain⟨h1,h2,_⟩:=Re.1 h;have:=(hP.at_ h1.1 h1.2).2.1 e h2;exact⟨ac,this.2⟩
theorem aoA{n:Int}{B:ag}(hP:gN n R B):∀e:Nat,e<R.length->d∈gl B e->EY R B d≠[]:=by
 intro e
 induction e using Nat.strongRecOn with
 |_ e ih=>
  intro he hd
  by_cases h:∀x∈gl B e,d∉gl B x
  ·exact List.ne_nil_of_mem (Re.2 ⟨ac,hd,h⟩)
  ·have h':∃x∈gl B e,d∈gl B x:=by
    apply qi;intro hn;exact h λx hx Pl=>hn ⟨x,hx,Pl⟩
   obtain⟨x,hx,Pl⟩:=h';have h1:=(hP.at_ ac ac).2.1 x hx;obtain⟨k,rfl⟩:∃k:Nat,x=k:=⟨x.toNat,ac⟩;exact ih k ac ac Pl
def iS(U:ag)(k:Nat)(fl xs:ah):ag:=xs.flatMap λf=>(fW U k f).map λy=>fl++f::y
theorem R9(U:ag)(k:Nat)(fl xs:ah)(f:Int):iS U k fl (xs++[f])=iS U k fl xs++(fW U k f).map λy=>(fl++[f])++y:=by
 unfold iS;rw[List.flatMap_append,List.flatMap_singleton]
 congr 1
 exact ki λy _=>by rw[ef];rfl
theorem LV{k:Nat}{e:Int}(h:gl U e≠[]):(fW U (k+1) e).map (fl++ ·)=iS U k fl (gl U e):=by
 unfold iS;rw[fW,aD h,List.map_flatMap];refine aQ (λg=>List.flatMap g (gl U e)) (funext λf=>?_);rw[List.map_map]
 rfl
theorem LW(U:ag)(k:Nat)(fl xs ys:ah):(iS U k fl xs).length<=(iS U k fl (xs++ys)).length:=by
 unfold iS;rw[List.flatMap_append,cj];exact Nat.le_add_right _ _
def LM:ag:=[[0,1,0,0,1,1,2,0,0,2,1,1,2,0,3,2,1,3,2,3,2,3,3,3],[0,0,1,0,2,0,1,1,3,2,2,4,1,3,3,2,4,4,5,3,5,4,5,5],[0,0,0,1,0,1,0,2,1,0,3,1,2,2,1,3,3,1,2,2,3,3,2,3]]
def sB0:ag:=[[],[],[],[],[0,1],[0,2],[1,2],[0,3],[1,3],[2,3],[0,1,2,4,5,6],[0,1,3,4,7,8],[0,2,3,5,7,9],[1,2,3,6,8,9]]
def zl:ag:=[[0,4,10],[0,4,11],[0,5,10],[0,5,12],[0,7,11],[0,7,12],[1,4,10],[1,4,11],[1,6,10],[1,6,13],[1,8,11],[1,8,13],[2,5,10],[2,5,12],[2,6,10],[2,6,13],[2,9,12],[2,9,13],[3,7,11],[3,7,12],[3,8,11],[3,8,13],[3,9,12],[3,9,13]]
theorem aqR:dG l9 0=gl LM 0:=by kernel_rfl
theorem aqS:dG l9 1=gl LM 1:=by kernel_rfl
theorem aqT:dG l9 2=gl LM 2:=by kernel_rfl
theorem ard:a8 l9 0=0:=by kernel_rfl
theorem arf:a8 l9 1=4:=by kernel_rfl
theorem arh:a8 l9 2=10:=by kernel_rfl
theorem LX:a8 l9 3=14:=by kernel_rfl
theorem RZ:cd l9=sB0:=Cn LM [0,4,10,14] sB0 RR rfl (λi hi=>by
 match i,hi with
 |0,_=>exact aqR
 |1,_=>exact aqS
 |2,_=>exact aqT) (λi hi=>by
 match i,hi with
 |0,_=>exact aQ Nat.cast ard
 |1,_=>exact aQ Nat.cast arf
 |2,_=>exact aQ Nat.cast arh) (by rw[LX];rfl) an
theorem Sf:ct l9 3=[0,0,0,0,1,1,1,1,1,1,2,2,2,2]:=by kernel_rfl
theorem sf0:jc 3 (ct l9 3) (cd l9)=zl:=by rw[Sf,RZ];kernel_rfl
def LN:ag:=[[0,1,0,0,1,1,2,0,0,3,1,1,2,2,0,4,3,3,1,5,2,2,4,4,3,3,5,5,2,6,4,4,3,7,5,5,6,6,4,7,7,5,6,6,7,7,6,7],[0,0,1,0,2,0,1,1,3,2,2,4,5,1,3,3,5,2,4,4,5,6,3,7,5,8,4,7,6,6,9,7,8,8,10,7,6,9,9,8,10,10,11,9,11,10,11,11],[0,0,0,1,0,1,0,2,1,0,3,1,0,2,2,1,0,3,3,1,4,2,2,1,4,3,3,1,4,2,2,5,4,3,3,5,4,2,5,4,3,5,4,5,4,5,5,5]]
def sB1:ag:=[[],[],[],[],[],[],[],[],[0,1],[0,2],[1,3],[0,4],[1,5],[2,3],[2,6],[4,5],[3,7],[4,6],[5,7],[6,7],[0,1,2,3,8,9,10,13],[0,1,4,5,8,11,12,15],[0,2,4,6,9,11,14,17],[1,3,5,7,10,12,16,18],[2,3,6,7,13,14,16,19],[4,5,6,7,15,17,18,19]]
def zm:ag:=[[0,8,20],[0,8,21],[0,9,20],[0,9,22],[0,11,21],[0,11,22],[1,8,20],[1,8,21],[1,10,20],[1,10,23],[1,12,21],[1,12,23],[2,9,20],[2,9,22],[2,13,20],[2,13,24],[2,14,22],[2,14,24],[3,10,20],[3,10,23],[3,13,20],[3,13,24],[3,16,23],[3,16,24],[4,11,21],[4,11,22],[4,15,21],[4,15,25],[4,17,22],[4,17,25],[5,12,21],[5,12,23],[5,15,21],[5,15,25],[5,18,23],[5,18,25],[6,14,22],[6,14,24],[6,17,22],[6,17,25],[6,19,24],[6,19,25],[7,16,23],[7,16,24],[7,18,23],[7,18,25],[7,19,24],[7,19,25]]
theorem aqU:dG ma 0=gl LN 0:=by kernel_rfl
theorem aqV:dG ma 1=gl LN 1:=by kernel_rfl
theorem aqW:dG ma 2=gl LN 2:=by kernel_rfl
theorem ari:a8 ma 0=0:=by kernel_rfl
theorem arj:a8 ma 1=8:=by kernel_rfl
theorem ark:a8 ma 2=20:=by kernel_rfl
theorem LY:a8 ma 3=26:=by kernel_rfl
theorem R3:cd ma=sB1:=Cn LN [0,8,20,26] sB1 RS rfl (λi hi=>by
 match i,hi with
 |0,_=>exact aqU
 |1,_=>exact aqV
 |2,_=>exact aqW) (λi hi=>by
 match i,hi with
 |0,_=>exact aQ Nat.cast ari
 |1,_=>exact aQ Nat.cast arj
 |2,_=>exact aQ Nat.cast ark) (by rw[LY];rfl) an
theorem Sg:ct ma 3=[0,0,0,0,0,0,0,0,1,1,1,1,1,1,1,1,1,1,1,1,2,2,2,2,2,2]:=by kernel_rfl
theorem sf1:jc 3 (ct ma 3) (cd ma)=zm:=by rw[Sg,R3];kernel_rfl
def LO:ag:=[[0,1,0,0,1,1,2,0,0,2,1,1,2,0,3,0,2,1,3,1,2,4,0,3,2,5,1,3,4,2,4,3,5,2,5,3,4,4,3,5,5,3,4,4,5,5,4,5],[0,0,1,0,2,0,1,1,3,2,2,4,1,5,3,3,2,6,4,4,7,5,5,3,8,6,6,4,7,7,5,9,8,8,6,10,7,9,9,8,10,10,11,9,11,10,11,11],[0,0,0,1,0,1,0,2,1,0,3,1,2,2,1,4,3,3,1,5,2,2,4,4,3,3,5,5,2,6,4,4,3,6,5,5,6,4,7,6,5,7,6,7,6,7,7,7]]
def sB2:ag:=[[],[],[],[],[],[],[0,1],[0,2],[1,2],[0,3],[1,3],[0,4],[1,5],[2,4],[2,5],[3,4],[3,5],[4,5],[0,1,2,6,7,8],[0,1,3,6,9,10],[0,2,4,7,11,13],[1,2,5,8,12,14],[0,3,4,9,11,15],[1,3,5,10,12,16],[2,4,5,13,14,17],[3,4,5,15,16,17]]
def zn:ag:=[[0,6,18],[0,6,19],[0,7,18],[0,7,20],[0,9,19],[0,9,22],[0,11,20],[0,11,22],[1,6,18],[1,6,19],[1,8,18],[1,8,21],[1,10,19],[1,10,23],[1,12,21],[1,12,23],[2,7,18],[2,7,20],[2,8,18],[2,8,21],[2,13,20],[2,13,24],[2,14,21],[2,14,24],[3,9,19],[3,9,22],[3,10,19],[3,10,23],[3,15,22],[3,15,25],[3,16,23],[3,16,25],[4,11,20],[4,11,22],[4,13,20],[4,13,24],[4,15,22],[4,15,25],[4,17,24],[4,17,25],[5,12,21],[5,12,23],[5,14,21],[5,14,24],[5,16,23],[5,16,25],[5,17,24],[5,17,25]]
theorem aqX:dG mc 0=gl LO 0:=by kernel_rfl
theorem aqY:dG mc 1=gl LO 1:=by kernel_rfl
theorem aqZ:dG mc 2=gl LO 2:=by kernel_rfl
theorem arl:a8 mc 0=0:=by kernel_rfl
theorem arn:a8 mc 1=6:=by kernel_rfl
theorem aro:a8 mc 2=18:=by kernel_rfl
theorem LZ:a8 mc 3=26:=by kernel_rfl
theorem R4:cd mc=sB2:=Cn LO [0,6,18,26] sB2 RT rfl (λi hi=>by
 match i,hi with
 |0,_=>exact aqX
 |1,_=>exact aqY
 |2,_=>exact aqZ) (λi hi=>by
 match i,hi with
 |0,_=>exact aQ Nat.cast arl
 |1,_=>exact aQ Nat.cast arn
 |2,_=>exact aQ Nat.cast aro) (by rw[LZ];rfl) an
theorem Sh:ct mc 3=[0,0,0,0,0,0,1,1,1,1,1,1,1,1,1,1,1,1,2,2,2,2,2,2,2,2]:=by kernel_rfl
theorem sf2:jc 3 (ct mc 3) (cd mc)=zn:=by rw[Sh,R4];kernel_rfl
def LP:ag:=[[0,1,0,0,1,1,2,0,0,3,1,1,2,2,0,3,3,3,1,2,2,2,3,3],[0,0,1,0,2,0,1,1,3,2,2,4,5,1,3,3,5,2,4,4,5,4,3,5],[0,0,0,1,0,1,0,2,1,0,2,1,0,2,2,1,0,2,2,1,1,2,2,1]]
def sB3:ag:=[[],[],[],[],[0,1],[0,2],[1,3],[0,3],[1,2],[2,3],[0,1,2,3,4,5,6,9],[0,1,2,3,4,7,8,9],[0,1,2,3,5,6,7,8]]
def zo:ag:=[[0,4,10],[0,4,11],[0,5,10],[0,5,12],[0,7,11],[0,7,12],[1,4,10],[1,4,11],[1,6,10],[1,6,12],[1,8,11],[1,8,12],[2,5,10],[2,5,12],[2,8,11],[2,8,12],[2,9,10],[2,9,11],[3,6,10],[3,6,12],[3,7,11],[3,7,12],[3,9,10],[3,9,11]]
theorem aq0:dG me 0=gl LP 0:=by kernel_rfl
theorem aq1:dG me 1=gl LP 1:=by kernel_rfl
theorem aq2:dG me 2=gl LP 2:=by kernel_rfl
theorem arp:a8 me 0=0:=by kernel_rfl
theorem arq:a8 me 1=4:=by kernel_rfl
theorem ars:a8 me 2=10:=by kernel_rfl
theorem L5:a8 me 3=13:=by kernel_rfl
theorem R5:cd me=sB3:=Cn LP [0,4,10,13] sB3 RU rfl (λi hi=>by
 match i,hi with
 |0,_=>exact aq0
 |1,_=>exact aq1
 |2,_=>exact aq2) (λi hi=>by
 match i,hi with
 |0,_=>exact aQ Nat.cast arp
 |1,_=>exact aQ Nat.cast arq
 |2,_=>exact aQ Nat.cast ars) (by rw[L5];rfl) an
theorem Si:ct me 3=[0,0,0,0,1,1,1,1,1,1,2,2,2]:=by kernel_rfl
theorem sf3:jc 3 (ct me 3) (cd me)=zo:=by rw[Si,R5];kernel_rfl
def LQ:ag:=[[0,1,0,0,1,1,2,0,0,2,1,1,2,0,2,0,2,1,2,1,2,1,0,2],[0,0,1,0,2,0,1,1,3,2,2,4,1,5,3,3,2,5,4,4,4,5,5,3],[0,0,0,1,0,1,0,2,1,0,3,1,2,2,1,3,3,3,1,2,2,2,3,3]]
def sB4:ag:=[[],[],[],[0,1],[0,2],[1,2],[0,2],[1,2],[0,1],[0,1,2,3,4,5],[0,1,2,3,6,7],[0,1,2,4,7,8],[0,1,2,5,6,8]]
def zp:ag:=[[0,3,9],[0,3,10],[0,4,9],[0,4,11],[0,6,10],[0,6,12],[0,8,11],[0,8,12],[1,3,9],[1,3,10],[1,5,9],[1,5,12],[1,7,10],[1,7,11],[1,8,11],[1,8,12],[2,4,9],[2,4,11],[2,5,9],[2,5,12],[2,6,10],[2,6,12],[2,7,10],[2,7,11]]
theorem aq3:dG mf 0=gl LQ 0:=by kernel_rfl
theorem aq4:dG mf 1=gl LQ 1:=by kernel_rfl
theorem aq5:dG mf 2=gl LQ 2:=by kernel_rfl
theorem art:a8 mf 0=0:=by kernel_rfl
theorem aru:a8 mf 1=3:=by kernel_rfl
theorem arv:a8 mf 2=9:=by kernel_rfl
theorem L6:a8 mf 3=13:=by kernel_rfl
theorem R6:cd mf=sB4:=Cn LQ [0,3,9,13] sB4 RW rfl (λi hi=>by
 match i,hi with
 |0,_=>exact aq3
 |1,_=>exact aq4
 |2,_=>exact aq5) (λi hi=>by
 match i,hi with
 |0,_=>exact aQ Nat.cast art
 |1,_=>exact aQ Nat.cast aru
 |2,_=>exact aQ Nat.cast arv) (by rw[L6];rfl) an
theorem Sj:ct mf 3=[0,0,0,1,1,1,1,1,1,2,2,2,2]:=by kernel_rfl
theorem sf4:jc 3 (ct mf 3) (cd mf)=zp:=by rw[Sj,R6];kernel_rfl
def LR:ag:=[[0,1,0,0,1,1,2,0,0,3,1,1,2,2,0,2,0,3,3,1,3,1,2,2,0,2,3,3,1,3,2,3],[0,0,1,0,2,0,1,1,3,2,2,4,5,1,6,3,3,5,2,6,4,4,5,7,6,3,5,7,6,4,7,7],[0,0,0,1,0,1,0,2,1,0,2,1,0,2,2,1,3,0,2,2,1,3,1,2,3,3,1,2,3,3,3,3]]
def sB5:ag:=[[],[],[],[],[0,1],[0,2],[1,3],[0,2],[1,3],[2,3],[0,1],[2,3],[0,1,2,3,4,5,6,9],[0,1,2,3,4,7,8,9],[0,1,2,3,5,6,10,11],[0,1,2,3,7,8,10,11]]
def zq:ag:=[[0,4,12],[0,4,13],[0,5,12],[0,5,14],[0,7,13],[0,7,15],[0,10,14],[0,10,15],[1,4,12],[1,4,13],[1,6,12],[1,6,14],[1,8,13],[1,8,15],[1,10,14],[1,10,15],[2,5,12],[2,5,14],[2,7,13],[2,7,15],[2,9,12],[2,9,13],[2,11,14],[2,11,15],[3,6,12],[3,6,14],[3,8,13],[3,8,15],[3,9,12],[3,9,13],[3,11,14],[3,11,15]]
theorem aq6:dG mg 0=gl LR 0:=by kernel_rfl
theorem aq7:dG mg 1=gl LR 1:=by kernel_rfl
theorem aq8:dG mg 2=gl LR 2:=by kernel_rfl
theorem arw:a8 mg 0=0:=by kernel_rfl
theorem arx:a8 mg 1=4:=by kernel_rfl
theorem ary:a8 mg 2=12:=by kernel_rfl
theorem L7:a8 mg 3=16:=by kernel_rfl
theorem R7:cd mg=sB5:=Cn LR [0,4,12,16] sB5 RX rfl (λi hi=>by
 match i,hi with
 |0,_=>exact aq6
 |1,_=>exact aq7
 |2,_=>exact aq8) (λi hi=>by
 match i,hi with
 |0,_=>exact aQ Nat.cast arw
 |1,_=>exact aQ Nat.cast arx
 |2,_=>exact aQ Nat.cast ary) (by rw[L7];rfl) an
theorem Sk:ct mg 3=[0,0,0,0,1,1,1,1,1,1,1,1,2,2,2,2]:=by kernel_rfl
theorem sf5:jc 3 (ct mg 3) (cd mg)=zq:=by rw[Sk,R7];kernel_rfl
def LU:ag:=[[0,1,0,0,1,1,2,0,0,2,1,1,2,0,3,0,2,1,3,1,2,3,0,3,0,2,3,1,3,1,3,2,3,0,3,2,0,3,2,3,1,3,2,1,0,2,1,2],[0,0,1,0,2,0,1,1,3,2,2,4,1,5,3,3,2,6,4,4,7,5,5,3,8,9,6,6,4,10,7,7,5,11,9,8,8,9,9,6,11,7,10,10,11,8,11,10],[0,0,0,1,0,1,0,2,1,0,3,1,2,2,1,4,3,3,1,5,2,2,6,4,4,3,3,6,5,5,2,5,6,6,4,4,7,3,4,6,6,5,5,7,7,7,7,7]]
def sB6:ag:=[[],[],[],[],[0,1],[0,2],[1,2],[0,3],[1,3],[0,3],[1,3],[2,3],[0,2],[2,3],[1,2],[0,1],[0,1,2,4,5,6],[0,1,3,4,7,8],[0,2,3,5,9,11],[1,2,3,6,10,13],[0,2,3,7,12,13],[1,2,3,8,11,14],[0,1,3,9,10,15],[0,1,2,12,14,15]]
def zr:ag:=[[0,4,16],[0,4,17],[0,5,16],[0,5,18],[0,7,17],[0,7,20],[0,9,18],[0,9,22],[0,12,20],[0,12,23],[0,15,22],[0,15,23],[1,4,16],[1,4,17],[1,6,16],[1,6,19],[1,8,17],[1,8,21],[1,10,19],[1,10,22],[1,14,21],[1,14,23],[1,15,22],[1,15,23],[2,5,16],[2,5,18],[2,6,16],[2,6,19],[2,11,18],[2,11,21],[2,12,20],[2,12,23],[2,13,19],[2,13,20],[2,14,21],[2,14,23],[3,7,17],[3,7,20],[3,8,17],[3,8,21],[3,9,18],[3,9,22],[3,10,19],[3,10,22],[3,11,18],[3,11,21],[3,13,19],[3,13,20]]
theorem aq9:dG mh 0=gl LU 0:=by kernel_rfl
theorem ara:dG mh 1=gl LU 1:=by kernel_rfl
theorem arb:dG mh 2=gl LU 2:=by kernel_rfl
theorem arz:a8 mh 0=0:=by kernel_rfl
theorem arA:a8 mh 1=4:=by kernel_rfl
theorem arB:a8 mh 2=16:=by kernel_rfl
theorem L8:a8 mh 3=24:=by kernel_rfl
theorem R8:cd mh=sB6:=Cn LU [0,4,16,24] sB6 RY rfl (λi hi=>by
 match i,hi with
 |0,_=>exact aq9
 |1,_=>exact ara
 |2,_=>exact arb) (λi hi=>by
 match i,hi with
 |0,_=>exact aQ Nat.cast arz
 |1,_=>exact aQ Nat.cast arA
 |2,_=>exact aQ Nat.cast arB) (by rw[L8];rfl) an
theorem Sl:ct mh 3=[0,0,0,0,1,1,1,1,1,1,1,1,1,1,1,1,2,2,2,2,2,2,2,2]:=by kernel_rfl
theorem sf6:jc 3 (ct mh 3) (cd mh)=zr:=by rw[Sl,R8];kernel_rfl
def fm:List Nat->List Nat
 |[]=>[0]
 |b::B=>fm B++(fm B).map (b^^^ ·)
theorem Sr:∀B,(fm B).length=2^B.length
 |[]=>rfl
 |b::B=>by simp[fm,Sr B,Nat.pow_succ];omega
theorem Fh:∀B,0∈fm B
 |[]=>by simp[fm]
 |b::B=>by simp only[fm,dF];exact .inl (Fh B)
theorem xG(a b:Nat):a^^^ (a^^^b)=b:=by rw[<-Nat.xor_assoc,Nat.xor_self,Nat.zero_xor]
theorem Lf{b v:Nat}{B:List Nat}:v∈fm (b::B)↔v∈fm B\/b^^^v∈fm B:=by
 simp only[fm,dF,de];constructor
 ·rintro(h|⟨u,h,rfl⟩)
  ·exact .inl h
  exact .inr (by rw[xG];exact h)
 rintro(h|h)
 ·exact .inl h
 exact .inr ⟨_,h,xG _ _⟩
theorem tE:∀{B:List Nat}{u v:Nat},u∈fm B->v∈fm B->u^^^v∈fm B
 |[],u,v,hu,hv=>by
  simp only[fm,eX]at hu hv|-;subst hu hv;rfl
 |b::B,u,v,hu,hv=>by
  rw[Lf]at hu hv|-;rcases hu with hu|hu<;>rcases hv with hv|hv
  ·exact .inl (tE hu hv)
  ·right;have:=tE hu hv
   rwa[<-Nat.xor_assoc,Nat.xor_comm u b,Nat.xor_assoc]at this
  ·right;have:=tE hu hv
   rwa[Nat.xor_assoc]at this
  ·left;have:=tE hu hv
   rwa[Nat.xor_comm b u,Nat.xor_assoc,xG]at this
theorem nu:∀{B:List Nat}{b:Nat},b∈B->b∈fm B
 |a::B,b,h=>by
  rw[Lf];rcases gW.1 h with rfl|h
  ·exact .inr (by rw[Nat.xor_self];exact Fh B)
  ·exact .inl (nu h)
theorem H8{S:Nat->Prop}(h0:S 0)(hx:∀u v,S u->S v->S (u^^^v)):∀{B:List Nat},(∀b∈B,S b)->∀v∈fm B,S v
 |[],_,v,h=>by simp only[fm,eX]at h;subst h;exact h0
 |b::B,hb,v,h=>by
  rw[Lf]at h;rcases h with h|h
  ·exact H8 h0 hx (λx hx=>hb x (fE _ hx)) v h
  ·have h1:=H8 h0 hx (λx hx=>hb x (fE _ hx)) _ h;have h2:=hx _ _ (hb b (by simp)) h1
   rwa[xG]at h2
theorem Ss{B:List Nat}(h:∀b∈B,b∈fm C):∀v∈fm B,v∈fm C:=H8 (Fh C) (λ_ _=>tE) h
theorem Dt{B:List Nat}(h:∀b∈B,b∈C):∀v∈fm B,v∈fm C:=Ss λb hb=>nu (h b hb)
def jD(B C:List Nat):Prop:=∀v,v∈fm B↔v∈fm C
theorem jD.of{B:List Nat}(h1:∀b∈B,b∈fm C)(h2:∀b∈C,b∈fm B):jD B C:=λv=>⟨Ss h1 v,Ss h2 v⟩
theorem jD.refl(B:List Nat):jD B B:=λ_=>.rfl
theorem jD.trans{A B:List Nat}(h:jD A B)(h':jD B C):jD A C:=λv=>(h v).trans (h' v)
theorem jD.symm{A B:List Nat}(h:jD A B):jD B A:=λv=>(h v).symm
theorem abD{b:Nat}{B:List Nat}(hB:(fm B).Nodup)(hb:b∉fm B):(fm (b::B)).Nodup:=by
 rw[fm,List.nodup_append];refine⟨hB,?_,?_⟩
 ·rw[List.Nodup,rV];refine hB.imp λ{u v} h e=>h ?_
  have:=aQ (b^^^ ·) e;simpa only[xG]using this
 rintro u hu v hv rfl;obtain⟨x,hx,rfl⟩:=de.1 hv;have:=tE hu hx;rw[Nat.xor_assoc,Nat.xor_self,Nat.xor_zero]at this;exact hb this
def tI(L:List Nat)(r:Nat):Prop:=∃B,B.length=r/\(fm B).Nodup/\jD L B
theorem tI.eq{L:List Nat}{r s:Nat}(h:tI L r)(h':tI L s):r=s:=by
 obtain⟨B,rfl,hB,hE⟩:=h;obtain⟨C,rfl,hC,hF⟩:=h';have wF:=hE.symm.trans hF;have h1:=Fg _ _ hB λx hx=>(wF x).1 hx
 have h2:=Fg _ _ hC λx hx=>(wF x).2 hx
 rw[Sr,Sr]at h1 h2;have h3:2^B.length=2^C.length:=by omega
 rcases Nat.lt_trichotomy B.length C.length with h|h|h
 ·have:=Nat.pow_lt_pow_right (a:=2) ac h;omega
 ·exact h
 have:=Nat.pow_lt_pow_right (a:=2) ac h;omega
def IE:List Nat->Prop
 |[]=>True
 |b::B=>(∃p,b.testBit p=true/\∀x∈B,x.testBit p=false)/\IE B
theorem IE.nodup:∀{B:List Nat},IE B->(fm B).Nodup
 |[],_=>by simp[fm]
 |b::B,⟨⟨p,hp,hB⟩,h⟩=>by
  refine abD h.nodup λhb=>?_
  have:=H8 (S:=λv=>v.testBit p=false) (by simp) (λu v hu hv=>by simp[Nat.testBit_xor,hu,hv]) hB b hb;rw[this]at hp;cases hp
def rm(v t:Nat):Prop:=v.testBit t=true/\∀j,t<j->v.testBit j=false
theorem rm.eq{v s:Nat}(h:rm v s)(h':rm v t):s=t:=by
 rcases Nat.lt_trichotomy s t with hl|e|hl
 ·have:=h.2 t hl;rw[h'.1]at this;cases this
 ·exact e
 have:=h'.2 s hl;rw[h.1]at this;cases this
theorem rm.ne{v:Nat}(h:rm v t):v≠0:=by rintro rfl;simp[rm]at h
theorem rm.xor{u v s:Nat}(h:rm u s)(h':rm v t)(hl:s<t):rm (u^^^v) t:=by
 refine⟨by rw[Nat.testBit_xor,h.2 t hl,h'.1];rfl,λj hj=>?_⟩;rw[Nat.testBit_xor,h.2 j (by omega),h'.2 j hj];rfl
theorem Sy:∀{B:List (Nat×Nat)},(∀p∈B,rm p.2 p.1)->(B.map (·.1)).Nodup->∀v∈fm (B.map (·.2)),v≠0->∃t∈B.map (·.1),rm v t
 |[],_,_,v,hv,bN=>by simp[fm]at hv;exact absurd hv bN
 |p::B,hT,hn,v,hv,bN=>by
  simp only[List.map_cons,mj]at hn;rw[List.map_cons,Lf]at hv;have o3:∀q∈B,rm q.2 q.1:=λq hq=>hT q (fE _ hq)
  rcases hv with hv|hv
  ·obtain⟨t,ht,h⟩:=Sy o3 hn.2 v hv bN;exact⟨t,fE _ ht,h⟩
  ·by_cases e:p.2^^^v=0
   ·have e2:v=p.2:=by
     have:=aQ (p.2^^^ ·) e;simpa only[xG,Nat.xor_zero]using this
    exact⟨p.1,by simp,by rw[e2];exact hT p (by simp)⟩
   ·obtain⟨t,ht,h⟩:=Sy o3 hn.2 _ hv e;have wX:p.1≠t:=λe=>hn.1 (by rw[e];exact ht)
    have hp:=hT p (by simp);have e3:v=p.2^^^ (p.2^^^v):=(xG _ _).symm;rcases Nat.lt_or_gt_of_ne wX with hl|hl
    ·exact⟨t,by simp[ht],by rw[e3];exact hp.xor h hl⟩
    ·exact⟨p.1,by simp,by rw[e3,Nat.xor_comm];exact h.xor hp hl⟩
theorem abJ:∀{B:List (Nat×Nat)},(∀p∈B,rm p.2 p.1)->(B.map (·.1)).Nodup->(fm (B.map (·.2))).Nodup
 |[],_,_=>by simp[fm]
 |p::B,hT,hn=>by
  simp only[List.map_cons,mj]at hn;rw[List.map_cons];refine abD (abJ (λq hq=>hT q (fE _ hq)) hn.2) λhb=>?_
  obtain⟨t,ht,h⟩:=Sy (λq hq=>hT q (fE _ hq)) hn.2 _ hb (hT p (by simp)).ne;exact hn.1 (by rw[(hT p (by simp)).eq h];exact ht)
end
section
open Go.RowKit
variable{l l' Zb l1 l2 l3 ds nH X M Y S:List aE}{b a' b' j:Nat}{w0 w' w:aa}{t:ad}{ks:List Ck}
def gs(l:List aE)(i:Nat):aE:=l.getD i bI
theorem vp{i:Nat}(h:i<l.length):gs l i=l[i]:=by simp[gs,b5,h]
def SR(κ:aE->Int)(l:List aE)(a b:Nat):Prop:=∀i j,a<=i->i<j->j<b->κ (gs l i)<=κ (gs l j)
theorem SR.one(κ:aE->Int)(l:List aE){a:Nat}(h:b<=a+1):SR κ l a b:=λi j h1 h2 h3=>by omega
theorem SR.sub{κ:aE->Int}{a:Nat}(h:SR κ l a b)(h1:a<=a')(h2:b'<=b):SR κ l a' b':=λi j hi jC hj=>h i j ac jC ac
theorem SR.le{κ:aE->Int}{a i:Nat}(h:SR κ l a b)(h1:a<=i)(h2:i<=j)(h3:j<b):κ (gs l i)<=κ (gs l j):=by
 rcases Nat.lt_or_eq_of_le h2 with h2|rfl
 ·exact h i j h1 h2 h3
 exact Int.le_refl _
theorem SR.congr{κ:aE->Int}{a:Nat}(h:SR κ l a b)(he:∀i,a<=i->i<b->gs l' i=gs l i):SR κ l' a b:=λi j hi jC hj=>by
 rw[he i hi (by omega),he j (by omega) hj];exact h i j hi jC hj
structure RP(l l':List aE)(a b:Nat):Prop where
 perm:l'.Perm l
 out:∀i,i<a\/b<=i->gs l' i=gs l i
theorem RP.refl(l:List aE)(a b:Nat):RP l l a b:=⟨List.Perm.refl _,λ_ _=>rfl⟩
theorem RP.len{a:Nat}(h:RP l l' a b):l'.length=l.length:=h.perm.length_eq
theorem RP.trans{a:Nat}(h:RP l l' a b)(h':RP l' Zb a' b')(h1:a<=a')(h2:b'<=b):RP l Zb a b:=
 ⟨h'.perm.trans h.perm,λi hi=>by rw[h'.out i (by omega),h.out i hi]⟩
theorem ahG{a:Nat}(hl:l'.length=l.length)(h:∀i,i<a->gs l' i=gs l i):l'.take a=l.take a:=by
 refine iC (by simp[hl]) λi h1 h2=>?_
 rw[jG]at h1 h2;rw[List.getElem_take,List.getElem_take,<-vp (by omega),<-vp (by omega)];exact h i ac
theorem ahF(hl:l'.length=l.length)(h:∀i,b<=i->gs l' i=gs l i):l'.drop b=l.drop b:=by
 refine iC (by simp[hl]) λi h1 h2=>?_
 rw[List.length_drop]at h1 h2;rw[List.getElem_drop,List.getElem_drop,<-vp (by omega),<-vp (by omega)];exact h _ ac
theorem abu{α:Type}(l:List α){a:Nat}(h:a<=b):l=l.take a++((l.drop a).take (b-a)++l.drop b):=by
 have h1:l.drop b=(l.drop a).drop (b-a):=by rw[List.drop_drop];congr 1;omega
 rw[h1,List.take_append_drop,List.take_append_drop]
theorem RP.mid{a:Nat}(h:RP l l' a b)(gr:a<=b):((l'.drop a).take (b-a)).Perm ((l.drop a).take (b-a)):=by
 have h1:=h.perm;rw[abu l' gr,abu l gr,ahG h.len (λi hi=>h.out i (.inl hi)),ahF h.len (λi hi=>h.out i (.inr hi))]at h1;exact(List.perm_append_right_iff _).1 ((List.perm_append_left_iff _).1 h1)
theorem RP.from{a:Nat}(h:RP l l' a b)(hb:b<=l.length){i:Nat}(h1:a<=i)(h2:i<b):∃j,a<=j/\j<b/\gs l' i=gs l j:=by
 have hl:=h.len;have hm:gs l' i∈(l'.drop a).take (b-a):=by
  rw[fS];refine⟨i-a,by rw[jG,List.length_drop];omega,?_⟩;rw[List.getElem_take,List.getElem_drop,<-vp (by omega)]
  congr 1;omega
 obtain⟨k,hk,e⟩:=fS.1 ((h.mid ac).mem_iff.1 hm);rw[jG,List.length_drop]at hk;refine⟨a+k,ac,ac,?_⟩;rw[<-e,List.getElem_take,List.getElem_drop,<-vp (by omega)]
def swp(l:List aE)(i j:Nat):List aE:=(l.set i (gs l j)).set j (gs l i)
theorem abE(l:List aE)(i j:Nat):(swp l i j).length=l.length:=by simp[swp]
theorem VL{i:Nat}(h:i<l.length)(v:aE)(x:Nat):gs (l.set i v) x=if x=i then v else gs l x:=by
 simp only[gs,b5,lI]
 by_cases e:i=x
 ·subst e;simp[h]
 have:¬x=i:=λh=>e h.symm
 simp[e,this]
theorem JE{i:Nat}(hi:i<l.length)(hj:j<l.length)(x:Nat):gs (swp l i j) x=if x=j then gs l i else if x=i then gs l j else gs l x:=by
 rw[swp,VL (by simpa using hj),VL hi]
theorem Sv{i a:Nat}(hi:i<l.length)(hj:j<l.length)(h1:a<=i)(h2:i<b)(h3:a<=j)(h4:j<b):RP l (swp l i j) a b:=by
 refine⟨?_,λx hx=>?_⟩
 ·unfold swp;rw[vp hi,vp hj];exact List.set_set_perm hi hj
 rw[JE hi hj,aD (by omega),aD (by omega)]
structure v7(κ:aE->Int)(l:List aE)(a i j:Nat):Prop where
 low:a<=j
 high:j<=i
 rest:∀x y,a<=x->x<y->y<=i->x≠j->y≠j->κ (gs l x)<=κ (gs l y)
 own:∀y,j<y->y<=i->κ (gs l j)<=κ (gs l y)
theorem v7.start{κ:aE->Int}{a i:Nat}(h:SR κ l a i)(hi:a<=i):v7 κ l a i i:=
 ⟨hi,cJ _,λx y h1 h2 h3 h4 h5=>h x y h1 h2 ac,λy h1 h2=>by omega⟩
theorem v7.stop{κ:aE->Int}{a i:Nat}(h:v7 κ l a i j)(hs:j=a\/κ (gs l (j-1))<=κ (gs l j)):SR κ l a (i+1):=λx y h1 h2 h3=>by
 by_cases e:x=j
 ·subst e;exact h.own y h2 ac
 by_cases e2:y=j
 ·subst e2;rcases hs with hs|hs
  ·omega
  by_cases e3:x=y-1
  ·subst e3;exact hs
  exact Int.le_trans (h.rest x (y-1) h1 ac (by have:=h.high;omega) e ac) hs
 exact h.rest x y h1 h2 ac e e2
theorem v7.next{κ:aE->Int}{a i:Nat}(h:v7 κ l a i j)(hj:a<j)(hi:i<l.length)(hs:κ (gs l j)<κ (gs l (j-1))):v7 κ (swp l j (j-1)) a i (j-1):=by
 have hh:=h.high;have g:=JE (l:=l) (i:=j) (j:=j-1) ac ac;refine⟨ac,ac,λx y h1 h2 h3 h4 h5=>?_,λy h1 h2=>?_⟩
 ·rw[g x,g y,aD h4,aD h5]
  by_cases e:x=j
  ·subst e;rw[aG rfl,aD (by omega)];exact h.rest (x-1) y ac ac h3 ac ac
  rw[aD e]
  by_cases e2:y=j
  ·subst e2;rw[aG rfl];exact h.rest x (y-1) h1 ac ac e ac
  rw[aD e2];exact h.rest x y h1 h2 h3 e e2
 rw[g (j-1),g y,aG rfl,aD (by omega)]
 by_cases e2:y=j
 ·subst e2;rw[aG rfl];omega
 rw[aD e2];exact h.own y ac h2
theorem agl{α:Type}(P X M Y S:List α)(k:Nat)(h:X.length=Y.length)(hk:k<X.length)(x y:α)(hx:X[k]?=some x)(hy:Y[k]?=some y):((P++(Y.take k++X.drop k)++M++(X.take k++Y.drop k)++S).set (P.length+k) y).set (P.length+X.length+M.length+k) x=P++(Y.take (k+1)++X.drop (k+1))++M++(X.take (k+1)++Y.drop (k+1))++S:=by
 obtain⟨fU,rfl⟩:=iD.1 hx;obtain⟨o7,rfl⟩:=iD.1 hy;rw[List.drop_eq_getElem_cons fU,List.drop_eq_getElem_cons o7,oQ fU,oQ o7];have e1:(P++(Y.take k++X[k]::X.drop (k+1))++M++(X.take k++Y[k]::Y.drop (k+1))++S)=(P++Y.take k)++X[k]::(X.drop (k+1)++M++(X.take k++Y[k]::Y.drop (k+1))++S):=by simp only[ef,List.cons_append]
 have l1:P.length+k=(P++Y.take k).length:=by simp;omega
 rw[e1,l1,List.set_append_right _ _ (cJ _),Nat.sub_self,List.set_cons_zero];have e2:(P++Y.take k)++Y[k]::(X.drop (k+1)++M++(X.take k++Y[k]::Y.drop (k+1))++S)=(P++Y.take k++Y[k]::(X.drop (k+1)++M++X.take k))++Y[k]::(Y.drop (k+1)++S):=by simp only[ef,List.cons_append]
 have l2:P.length+X.length+M.length+k=(P++Y.take k++Y[k]::(X.drop (k+1)++M++X.take k)).length:=by simp;omega
 rw[e2,l2,List.set_append_right _ _ (cJ _),Nat.sub_self,List.set_cons_zero];simp only[ef,List.cons_append,List.nil_append]
structure vg(l l1:List aE)(s m e:Nat):Prop where
 out:∀i,i<s\/e<=i->gs l1 i=gs l i
 left:∀i,s<=i->i<s+(e-m)->gs l1 i=gs l (i+(m-s))
 right:∀i,s+(e-m)<=i->i<e->gs l1 i=gs l (i-(e-m))
theorem vg.same(l:List aE){s m e:Nat}(h:s=m\/m=e)(h1:s<=m)(h2:m<=e):vg l l s m e:=
 ⟨λ_ _=>rfl,λi h3 h4=>by congr 1;omega,λi h3 h4=>by congr 1;omega⟩
theorem vg.of(P X Y S:List aE):vg (P++(X++(Y++S))) (P++(Y++(X++S))) P.length (P.length+X.length) (P.length+X.length+Y.length):=by
 have key:∀(P X Y S:List aE)(i:Nat),gs (P++(X++(Y++S))) i=if i<P.length then gs P i else if i<P.length+X.length then gs X (i-P.length)else if i<P.length+X.length+Y.length then gs Y (i-P.length-X.length)else gs S (i-P.length-X.length-Y.length):=λP X Y S i=>by
  simp only[gs,b5]
  by_cases h1:i<P.length
  ·rw[aG h1,jF h1]
  rw[aD h1,jM (by omega)]
  by_cases h2:i<P.length+X.length
  ·rw[aG h2,jF (by omega)]
  rw[aD h2,jM (by omega)]
  by_cases h3:i<P.length+X.length+Y.length
  ·rw[aG h3,jF (by omega)]
  rw[aD h3,jM (by omega)]
 refine⟨λi h=>?_,λi h1 h2=>?_,λi h1 h2=>?_⟩
 ·rw[key,key];rcases h with h|h
  ·rw[aG h,aG h]
  rw[aD (by omega),aD (by omega),aD (by omega),aD (by omega),aD (by omega),aD (by omega)]
  congr 1;omega
 ·rw[key,key,aD (by omega),aG (by omega),aD (by omega),aD (by omega),aG (by omega)]
  congr 1;omega
 rw[key,key,aD (by omega),aD (by omega),aG (by omega),aD (by omega),aG (by omega)]
 congr 1;omega
theorem apY{α:Type}(P X Y S:List α):(P++(Y++(X++S))).Perm (P++(X++(Y++S))):=by
 refine(List.perm_append_left_iff _).2 ?_;rw[<-ef,<-ef];exact(List.perm_append_right_iff _).2 gL
def nq(a m b:Nat):Nat:=if(a+b) / 2<m then(a+b) / 2+m-b else a
def eU(a m b:Nat):Nat:=if(a+b) / 2<m then(a+b) / 2 else m
structure Mo(κ:aE->Int)(l:List aE)(a m b s:Nat):Prop where
 lo:nq a m b<=s
 hi:s<=eU a m b
 left:∀c,nq a m b<=c->c<s->κ (gs l c)<=κ (gs l ((a+b) / 2+m-1-c))
 right:∀c,s<=c->c<eU a m b->κ (gs l ((a+b) / 2+m-1-c))<κ (gs l c)
theorem afs{κ:aE->Int}{a m s:Nat}(h1:a+1<m)(h2:m+1<b)(hA:SR κ l a m)(hB:SR κ l m b)(hc:Mo κ l a m b s)(hr:vg l l1 s m ((a+b) / 2+m-s)):(a<=s/\s<=(a+b) / 2/\s<=m/\(a+b) / 2<=(a+b) / 2+m-s/\m<=(a+b) / 2+m-s/\(a+b) / 2+m-s<=b)/\SR κ l1 a s/\SR κ l1 s ((a+b) / 2)/\SR κ l1 ((a+b) / 2) ((a+b) / 2+m-s)/\SR κ l1 ((a+b) / 2+m-s) b/\∀i j,a<=i->i<(a+b) / 2->(a+b) / 2<=j->j<b->κ (gs l1 i)<=κ (gs l1 j):=by
 obtain⟨c1,c2,c3,c4⟩:=hc;generalize AW:(a+b) / 2=mid at*;unfold nq at c1 c3;unfold eU at c2 c4;rw[AW]at c1 c2 c3 c4;have G1:2*mid<=a+b/\a+b<=2*mid+1:=by omega
 have b1:a<=s:=by split at c1<;>omega
 have b2:s<=mid:=by split at c2<;>omega
 have b3:s<=m:=by split at c2<;>omega
 have b4:mid+m-s<=b:=by split at c1<;>omega
 generalize he:mid+m-s=e at*;obtain⟨r1,r2,r3⟩:=hr;have Ry:∀i,s<=i->i<mid->gs l1 i=gs l (i+(m-s)):=λi h h'=>r2 i h ac
 have Lw:∀i,mid<=i->i<e->gs l1 i=gs l (i-(mid-s)):=λi h h'=>by rw[r3 i (by omega) h'];congr 1;omega
 refine⟨⟨b1,b2,b3,ac,ac,b4⟩,?_,?_,?_,?_,?_⟩
 ·exact(hA.sub (cJ _) b3).congr λi _ h=>r1 i (.inl h)
 ·intro i j hi jC hj;rw[Ry i hi (by omega),Ry j (by omega) hj];exact hB _ _ ac ac ac
 ·intro i j hi jC hj;rw[Lw i hi (by omega),Lw j (by omega) hj];exact hA _ _ ac ac ac
 ·exact(hB.sub ac (cJ _)).congr λi h _=>r1 i (.inr h)
 intro i j hi tf hj qE
 by_cases x1:i<s
 ·rw[r1 i (.inl x1)]
  by_cases x2:j<e
  ·rw[Lw j hj x2];exact hA.le hi ac ac
  rw[r1 j (.inr (by omega))];have k1:κ (gs l i)<=κ (gs l (s-1)):=hA.le hi ac ac;have k2:κ (gs l e)<=κ (gs l j):=hB.le ac ac qE;have k3:=c3 (s-1) (by split<;>omega) ac;rw[show mid+m-1-(s-1)=e by omega]at k3;omega
 rw[Ry i (by omega) tf]
 by_cases x2:j<e
 ·rw[Lw j hj x2];have k1:κ (gs l (i+(m-s)))<=κ (gs l (e-1)):=hB.le ac ac ac;have k2:κ (gs l s)<=κ (gs l (j-(mid-s))):=hA.le ac ac ac;have k3:=c4 s (cJ _) (by split<;>omega);rw[show mid+m-1-s=e-1 by omega]at k3;omega
 rw[r1 j (.inr (by omega))];exact hB.le ac ac qE
theorem afu{κ:aE->Int}{a mid:Nat}(gr:a<=mid)(PQ:mid<=b)(hb:b<=l1.length)(h:∀i j,a<=i->i<mid->mid<=j->j<b->κ (gs l1 i)<=κ (gs l1 j))(p2:RP l1 l2 a mid)(s2:SR κ l2 a mid)(p3:RP l2 l3 mid b)(s3:SR κ l3 mid b):SR κ l3 a b:=λi j hi jC hj=>by
 have AP:=p2.len
 by_cases x1:j<mid
 ·rw[p3.out i (.inl (by omega)),p3.out j (.inl x1)];exact s2 i j hi jC x1
 by_cases x2:i<mid
 ·rw[p3.out i (.inl x2)];obtain⟨i',h1,h2,e1⟩:=p2.from ac hi x2;obtain⟨j',h3,h4,e2⟩:=p3.from ac ac hj;rw[e1,e2,p2.out j' (.inr h3)];exact h i' j' h1 h2 h3 h4
 exact s3 i j ac jC hj
structure wa(l c:List aE)(a k:Nat):Prop where
 len:c.length=l.length
 out:∀x,x<a\/k<x->gs c x=gs l x
 uC:∀x,a<=x->x<k->gs c x=gs l (x+1)
 own:gs c k=gs l a
theorem wa.start(l:List aE)(a:Nat):wa l l a a:=⟨rfl,λ_ _=>rfl,λx h h'=>by omega,rfl⟩
theorem wa.next{c:List aE}{a k:Nat}(h:wa l c a k)(ha:a<=k)(hk:k+1<l.length):wa l (swp c k (k+1)) a (k+1):=by
 have hl:=h.len;have g:=JE (l:=c) (i:=k) (j:=k+1) ac ac;refine⟨by rw[abE,hl],λx hx=>?_,λx h1 h2=>?_,?_⟩
 ·rw[g,aD (by omega),aD (by omega),h.out x (by omega)]
 ·rw[g,aD (by omega)]
  by_cases e:x=k
  ·subst e;rw[aG rfl,h.out _ (by omega)]
  rw[aD e,h.uC x h1 (by omega)]
 rw[g,aG rfl,h.own]
theorem wa.sorted{κ:aE->Int}{c:List aE}{a i:Nat}(h:wa l c a (i-1))(hs:SR κ l (a+1) b)(h1:a+1<=i)(h2:i<=b)(hl:∀x,a+1<=x->x<i->κ (gs l x)<=κ (gs l a))(hr:∀x,i<=x->x<b->κ (gs l a)<=κ (gs l x)):SR κ c a b:=λx y hx mD hy=>by
 by_cases e:x=i-1
 ·rw[e,h.own,h.out y (.inr (by omega))];exact hr y ac hy
 by_cases e2:y=i-1
 ·rw[e2,h.own,h.uC x hx (by omega)];exact hl _ ac ac
 by_cases x1:y<i-1
 ·rw[h.uC x hx (by omega),h.uC y (by omega) x1];exact hs _ _ ac ac ac
 rw[h.out y (.inr (by omega))]
 by_cases x2:x<i-1
 ·rw[h.uC x hx x2];exact hs _ _ ac ac hy
 rw[h.out x (.inr (by omega))];exact hs _ _ ac mD hy
structure v8(l c:List aE)(m k:Nat):Prop where
 len:c.length=l.length
 out:∀x,x<k\/m<x->gs c x=gs l x
 uC:∀x,k<x->x<=m->gs c x=gs l (x-1)
 own:gs c k=gs l m
theorem v8.start(l:List aE)(m:Nat):v8 l l m m:=⟨rfl,λ_ _=>rfl,λx h h'=>by omega,rfl⟩
theorem v8.next{c:List aE}{m k:Nat}(h:v8 l c m k)(hk:0<k)(Xo:k<=m)(hm:m<l.length):v8 l (swp c k (k-1)) m (k-1):=by
 have hl:=h.len;have g:=JE (l:=c) (i:=k) (j:=k-1) ac ac;refine⟨by rw[abE,hl],λx hx=>?_,λx h1 h2=>?_,?_⟩
 ·rw[g,aD (by omega),aD (by omega),h.out x (by omega)]
 ·rw[g,aD (by omega)]
  by_cases e:x=k
  ·subst e;rw[aG rfl,h.out _ (by omega)]
  rw[aD e,h.uC x (by omega) h2]
 rw[g,aG rfl,h.own]
theorem v8.sorted{κ:aE->Int}{c:List aE}{a m i:Nat}(h:v8 l c m i)(hs:SR κ l a m)(h1:a<=i)(h2:i<=m)(hl:∀x,a<=x->x<i->κ (gs l x)<=κ (gs l m))(hr:∀x,i<=x->x<m->κ (gs l m)<=κ (gs l x)):SR κ c a (m+1):=λx y hx mD hy=>by
 by_cases e:x=i
 ·rw[e,h.own,h.uC y (by omega) (by omega)];exact hr _ ac ac
 by_cases e2:y=i
 ·rw[e2,h.own,h.out x (.inl (by omega))];exact hl x hx ac
 by_cases x1:y<i
 ·rw[h.out x (.inl (by omega)),h.out y (.inl x1)];exact hs _ _ hx mD ac
 rw[h.uC y (by omega) (by omega)]
 by_cases x2:x<i
 ·rw[h.out x (.inl x2)];exact hs _ _ hx ac ac
 rw[h.uC x (by omega) (by omega)];exact hs _ _ ac ac ac
def xJ(κ:aE->Int)(l:List aE)(n s lo hi:Nat):Prop:=∀k,lo<=k*s->k*s<hi->SR κ l (k*s) (min (k*s+s) n)
theorem xJ.done{κ:aE->Int}{n s:Nat}(h:xJ κ l n s 0 n)(hs:n<=s):SR κ l 0 n:=by
 by_cases h0:n=0
 ·subst h0;exact SR.one _ _ ac
 have:=h 0 ac ac;rw[Nat.zero_mul,Nat.zero_add,Nat.min_eq_right hs]at this;exact this
theorem ZO{s k:Nat}(h:j*s<k*s):j*s+s<=k*s:=by
 have wR:j<k:=Nat.lt_of_mul_lt_mul_right h;have:=Nat.mul_le_mul_right s (Nat.succ_le_of_lt wR);rw[Nat.succ_mul]at this;exact this
def dM(s:aE):Int:=-(s.n:Int)
theorem I9(A:ai)(n c:Nat)(A':ai)(n' c':Nat)(w:aa)(hn:n<=9223372036854775807)(tj:n'<=9223372036854775807):
 aF prog 152 [.slice A n c,.slice A' n' c'] w (λv w'=>v=aj ((n':Int)-n)/\w'=w):=by
 refine bn func152 O ntmps152 O (bM O) ?_;refine aY O (aR O O (aq O (aR O O (cV O (bR O ?_)))));exact gj O ⟨O,O⟩
theorem VK(h:∀s∈ds,s.n<=9223372036854775807)(i:Nat):(gs ds i).n<=9223372036854775807:=by
 by_cases hi:i<ds.length
 ·rw[vp hi];exact h _ (dt _)
 have:gs ds i=bI:=by simp[gs,b5,oP (Nat.le_of_not_lt hi)]
 rw[this];exact bl _
theorem RP.cap{a:Nat}(h:RP ds nH a b)(hc:∀s∈ds,s.n<=9223372036854775807):∀s∈nH,s.n<=9223372036854775807:=λs hs=>hc s (h.perm.mem_iff.1 hs)
theorem BJ{A:ai}{n c:Nat}{L:List aE}{x s:aE}{i:Int}(e:i.toNat=j)(g:s=x)(h:St w0 w' (aX t A n c (L.set i.toNat ⟨s.a,s.n,s.c⟩)::ks)):St w0 w' (aX t A n c (L.set j x)::ks):=by
 subst g;rw[<-e];exact h
theorem Su{A:ai}{n c:Nat}{P:List aE}{G:FuncId}(a b m:Nat)(ha:P.length=a)(hb:P.length+X.length+M.length=b)(hm:X.length=m)(mD:X.length=Y.length)(hn:n<=4000000000000)(hS:St w0 w (aX t A n c (P++X++M++Y++S)::ks)):
 aF prog 225 [.slice A n c,aj a,aj b,aj m,.func (.func G) #[] #[]] w (λv w'=>v=.tuple #[]/\St w0 w' (aX t A n c (P++Y++M++X++S)::ks)):=by
 have AV:(P++X++M++Y++S).length=n:=(hS.dm 0 O).1;simp only[cj]at AV;refine bn func225 O ntmps225 O (vM O) (bC O ?_);refine Cd.loop (α:=Nat) (λk=>[(0,.slice A n c),(1,aj a),(2,aj b),(3,aj m),(4,.func (.func G) #[] #[]),(10,aj k)]) (λk w'=>k<=m/\St w0 w' (aX t A n c (P++(Y.take k++X.drop k)++M++(X.take k++Y.drop k)++S)::ks)) (λk=>m-k) 0 (auV O) ⟨bl _,by simpa using hS⟩ ?_;rintro k e w1 ⟨hk,ax⟩;refine bC O (aK _ O (λh1=>?_) (λh1=>?_))
 ·have uf:k<X.length:=by omega
  have PC:k<Y.length:=by omega
  have hR:=ax.dm 0 O;have ga:rg (P++(Y.take k++X.drop k)++M++(X.take k++Y.drop k)++S) ((a:Int)+(k:Int))=X[k]:=by
   have e1:((a:Int)+(k:Int)).toNat=P.length+k:=by omega
   unfold rg;rw[e1,b5];simp only[ef];rw[jM (by omega),jM (by simp;omega),jF (by simp;omega)];simp[Nat.min_eq_left (Nat.le_of_lt PC),uf]
  have gb:rg (P++(Y.take k++X.drop k)++M++(X.take k++Y.drop k)++S) ((b:Int)+(k:Int))=Y[k]:=by
   have e1:((b:Int)+(k:Int)).toNat=P.length+X.length+M.length+k:=by omega
   unfold rg;rw[e1,b5];simp only[ef];rw[jM (by omega),jM (by simp;omega),jM (by simp;omega),jM (by simp;omega),jM (by simp;omega),jF (by simp;omega)];have e2:P.length+X.length+M.length+k-P.length-(List.take k Y).length-(List.drop k X).length-M.length-(List.take k X).length=0:=by simp;omega
   rw[e2];simp[PC]
  have hx:=agl P X M Y S k mD uf X[k] Y[k] (by simp[uf]) (by simp[PC]);have ea:((a:Int)+(k:Int)).toNat=P.length+k:=by omega
  have eb:((b:Int)+(k:Int)).toNat=P.length+X.length+M.length+k:=by omega
  generalize hL:P++(Y.take k++X.drop k)++M++(X.take k++Y.drop k)++S=L at*;have pB:L.length=n:=hR.1;refine cM O ?_;refine iu [21,23] [yS (A) (n) (c),yI ((a:Int)),yI ((k:Int)),yI (((a:Int))+((k:Int))),yS (A) (n) (c),yI ((b:Int)),yI ((k:Int)),yI (((b:Int))+((k:Int))),yS (A) (n) (c),yI ((b:Int)),yI ((k:Int)),yI (((b:Int))+((k:Int))),yP (aH (A) (((b:Int))+((k:Int))).toNat),yS ((rg (L) (((b:Int))+((k:Int)))).a) ((rg (L) (((b:Int))+((k:Int)))).n) ((rg (L) (((b:Int))+((k:Int)))).c),yS (A) (n) (c),yI ((a:Int)),yI ((k:Int)),yI (((a:Int))+((k:Int))),yP (aH (A) (((a:Int))+((k:Int))).toNat),yS ((rg (L) (((a:Int))+((k:Int)))).a) ((rg (L) (((a:Int))+((k:Int)))).n) ((rg (L) (((a:Int))+((k:Int)))).c),yP (aH (A) (((a:Int))+((k:Int))).toNat),.pr (λ_ w'=>St w0 w' (aX t A n c (L.set (P.length+k) Y[k])::ks)),yP (aH (A) (((b:Int))+((k:Int))).toNat),.pr (λ_ w'=>St w0 w' (aX t A n c ((L.set (P.length+k) Y[k]).set (P.length+X.length+M.length+k) X[k])::ks))] (ly (ly (ly (ly (ly (ly (ly (ly (ly (ly (ly (ly (ly (ly (ly (ly (ly (ly (ly (ly (ly (bV.2 ⟨Ye.bW (λv w w' h hb=>h.ao hb),(ly (bV.2 ⟨Ye.bW (λv w w' h hb=>h.ao hb),(λ_ h=>by cases h)⟩))⟩)))))))))))))))))))))) ?_ ?_
  ·refine⟨bP O,bP O,bP O,aP λ_ _=>aJ O (bA O O),bP O,bP O,bP O,aP λ_ _=>aJ O (bA O O),bP O,bP O,bP O,aP λ_ _=>aJ O (bA O O),cP λ_ _ hb _ _ _=>aA (hR.ao hb).2 O (bA O O),cP λ_ _ hb _ _ _=>bw (hR.ao hb) O (bA O O),bP O,bP O,bP O,aP λ_ _=>aJ O (bA O O),cP λ_ _ hb _ _ _=>aA (hR.ao hb).2 O (bA O O),cP λ_ _ hb _ _ _=>bw (hR.ao hb) O (bA O O),cP λ_ _ hb _ _ _=>aA (hR.ao hb).2 O (bA O O),?_,?_,?_,au⟩
   ·refine iF λe1 w1 hb hp aW hq=>?_
    exact nC 0 (ax.ao hb) O O O ac λw6 bk=>ak.n (dS.st O (BJ ea gb bk))
   ·refine dP 1 λe1 w1 hp aW hq=>?_
    have cg:=hp 21 _ _ an O O an;have jh:=cg.dm 0 O;refine aA (jh).2 O (ak.n (fp O ap))
   refine kB 1 λe1 w1 hp aW hq=>?_
   have cg:=hp 21 _ _ an O O an;have jh:=cg.dm 0 O;exact nC 0 cg O O O ac λw7 bp=>ak.n (dS.st O (BJ eb ga bp))
  intro u w5 _ hu _ _;have aO:=hu 23 _ O an;rw[hx]at aO;refine gq O (aJ O (aN O (tQ ?_)));exact⟨k+1,by show m-(k+1)<m-k;omega,(auV O),ac,aO⟩
 have Xo:k=m:=by omega
 subst Xo;rw[jw (by omega),jw (by omega),List.drop_eq_nil_of_le (by omega),List.drop_eq_nil_of_le (by omega),dQ,dQ]at ax;refine ba O (bc (vZ O ?_));exact qU ⟨O,ax⟩
theorem apZ{A:ai}{n c:Nat}{P:List aE}{G:FuncId}(a m b:Nat)(ha:P.length=a)(hm:P.length+X.length=m)(hb:P.length+X.length+Y.length=b)(uv:0<X.length)(Bm:0<Y.length)(hn:n<=4000000000000)(hS:St w0 w (aX t A n c (P++(X++(Y++S)))::ks)):
 aF prog 217 [.slice A n c,aj a,aj m,aj b,.func (.func G) #[] #[]] w (λv w'=>v=.tuple #[]/\St w0 w' (aX t A n c (P++(Y++(X++S)))::ks)):=by
 have AV:(P++(X++(Y++S))).length=n:=(hS.dm 0 O).1;simp only[cj]at AV;generalize hT:P++(Y++(X++S))=T;refine bn func217 O ntmps217 O (vM O) ?_;refine aY O (cV O (aq O (cV O (ay O ?_))));refine Cd.loop (α:=List aE×List aE×List aE×List aE) (λz=>[(0,.slice A n c),(2,aj m),(4,.func (.func G) #[] #[]),(10,aj (z.2.1.length:Int)),(11,aj (z.2.2.1.length:Int))]) (λz w'=>z.1.length+z.2.1.length=m/\0<z.2.1.length/\0<z.2.2.1.length/\z.1++(z.2.2.1++(z.2.1++z.2.2.2))=T/\z.1.length+(z.2.1.length+(z.2.2.1.length+z.2.2.2.length))=n/\St w0 w' (aX t A n c (z.1++(z.2.1++(z.2.2.1++z.2.2.2)))::ks)) (λz=>z.2.1.length+z.2.2.1.length) (P,X,Y,S)
  ⟨rfl,rfl,rfl,by show Value.int .i64 ((m:Int)-(a:Int))=aj (X.length:Int);congr 1;omega,by show Value.int .i64 ((b:Int)-(m:Int))=aj (Y.length:Int);congr 1;omega,au⟩ ⟨hm,uv,Bm,hT,by show P.length+(X.length+(Y.length+S.length))=n;omega,hS⟩ ?_
 rintro⟨P',X',Y',S'⟩ e w1 ⟨jS,jT,vG,o3,yx,ax⟩;dsimp only at jS jT vG o3 yx ax|-;refine bC O (aK _ O (λh1=>?_) (λh1=>?_))
 ·refine cM O (aK _ O (λh2=>?_) (λh2=>?_))
  ·have hj:Y'.length<=X'.length:=by omega
   obtain⟨X1,X2,rfl,Ed⟩:∃X1 X2,X'=X1++X2/\X1.length=Y'.length:=⟨X'.take Y'.length,X'.drop Y'.length,(List.take_append_drop _ _).symm,by simp;omega⟩;have hlen:(X1++X2).length=X1.length+X2.length:=cj;simp only[cj]at jS jT yx h1 h2;refine aC O (cV O (aq O ?_));refine auM (Su (P:=P') (X:=X1) (M:=X2) (Y:=Y') (S:=S') P'.length m Y'.length O ac Ed Ed hn (by simpa using ax)) O (by show[Value.slice A n c,aj ((m:Int)-((X1++X2).length:Int)),aj m,aj (Y'.length:Int),.func (.func G) #[] #[]]=_;congr 3;simp;omega) O ?_;rintro _ w2 ⟨rfl,az⟩;refine aq O (cV O (aN O (tQ ?_)));exact⟨(P'++Y',X2,X1,S'),by show X2.length+X1.length<(X1++X2).length+Y'.length;simp;omega,⟨O,O,O,by show Value.int .i64 _=aj _;congr 1;simp;omega,aQ (λk:Nat=>Value.int .i64 (k:Int)) Ed.symm,au⟩,by simp;omega,by show 0<X2.length;omega,by show 0<X1.length;omega,by show(P'++Y')++(X1++(X2++S'))=T;rw[<-o3];simp,by show(P'++Y').length+_=n;simp;omega,by simpa using az⟩
  have hj:X'.length<Y'.length:=by omega
  obtain⟨Y1,Y2,rfl,Ay⟩:∃Y1 Y2,Y'=Y1++Y2/\Y2.length=X'.length:=⟨Y'.take (Y'.length-X'.length),Y'.drop (Y'.length-X'.length),(List.take_append_drop _ _).symm,by simp;omega⟩;have hlen:(Y1++Y2).length=Y1.length+Y2.length:=cj;simp only[cj]at vG yx h1 h2 hj;refine aC O (cV O (aq O (aJ O (aq O (cV O (aq O ?_))))));refine auM (Su (P:=P') (X:=X') (M:=Y1) (Y:=Y2) (S:=S') P'.length (m+Y1.length) X'.length O ac O Ay.symm hn (by simpa using ax)) O (by show[Value.slice A n c,aj ((m:Int)-(X'.length:Int)),aj ((m:Int)+((Y1++Y2).length:Int)-(X'.length:Int)),aj (X'.length:Int),.func (.func G) #[] #[]]=_;rw[show(m:Int)+((Y1++Y2).length:Int)-(X'.length:Int)=((m+Y1.length:Nat):Int) by omega,show(m:Int)-(X'.length:Int)=(P'.length:Int) by omega]) O ?_;rintro _ w2 ⟨rfl,az⟩;refine aq O (cV O (aN O (tQ ?_)));exact⟨(P',Y2,Y1,X'++S'),by show Y2.length+Y1.length<X'.length+(Y1++Y2).length;simp;omega,⟨O,O,O,aQ (λk:Nat=>Value.int .i64 (k:Int)) Ay.symm,by show Value.int .i64 _=aj _;congr 1;simp;omega,au⟩,by show P'.length+Y2.length=m;omega,by show 0<Y2.length;omega,by show 0<Y1.length;omega,by show P'++(Y1++(Y2++(X'++S')))=T;rw[<-o3];simp,by show P'.length+(Y2.length+(Y1.length+(X'++S').length))=n;simp;omega,by simpa using az⟩
 have mD:X'.length=Y'.length:=by omega
 refine ba O (bc (bY O (cV O (aq O ?_))));refine auM (Su (P:=P') (X:=X') (M:=[]) (Y:=Y') (S:=S') P'.length m X'.length O (by simpa using jS) O mD hn (by simpa using ax)) O (by show[Value.slice A n c,aj ((m:Int)-(X'.length:Int)),aj m,aj (X'.length:Int),.func (.func G) #[] #[]]=_;congr 3;omega) O ?_;rintro _ w2 ⟨rfl,az⟩;refine aN O (qU ?_);exact⟨O,by rw[<-o3];simpa using az⟩
theorem YN{A:ai}{n c:Nat}(a b:Nat)(hb:b<=n)(ha:a<=n)(hn:n<=4000000000000)(hc:∀s∈ds,s.n<=9223372036854775807)(hS:St w0 w (aX t A n c ds::ks)):
 aF prog 205 [.slice A n c,aj a,aj b,.func (.func 152) #[] #[]] w (λv w'=>v=.tuple #[]/\∃nH,RP ds nH a b/\SR dM nH a b/\St w0 w' (aX t A n c nH::ks)):=by
 have AV:ds.length=n:=(hS.dm 0 O).1;refine bn func205 O ntmps205 O (vM O) ?_;refine aY O (aJ O (ay O ?_));refine Cd.loop (α:=Nat×List aE) (λz=>[(0,.slice A n c),(1,aj a),(2,aj b),(3,.func (.func 152) #[] #[]),(8,aj (z.1:Int))]) (λz w'=>a+1<=z.1/\RP ds z.2 a b/\SR dM z.2 a z.1/\St w0 w' (aX t A n c z.2::ks)) (λz=>b-z.1) (a+1,ds) (auV O) ⟨cJ _,RP.refl _ _ _,SR.one _ _ (cJ _),hS⟩ ?_;rintro⟨i,cur⟩ e w1 ⟨hi,hp,hs,ax⟩;dsimp only at hi hp hs ax|-;refine bC O (aK _ O (λh1=>?_) (λh1=>?_))
 ·refine cM O (Cd.loop (α:=Nat×List aE) (λz=>[(0,.slice A n c),(1,aj a),(2,aj b),(3,.func (.func 152) #[] #[]),(8,aj i),(9,aj (z.1:Int))]) (λz w'=>RP ds z.2 a b/\v7 dM z.2 a i z.1/\St w0 w' (aX t A n c z.2::ks)) (λz=>z.1) (i,cur) (auV O) ⟨hp,v7.start hs ac,ax⟩ ?_);rintro⟨j,cu⟩ e w2 ⟨kQ,hI,az⟩;dsimp only at kQ hI az|-;have b8:cu.length=n:=(az.dm 0 O).1;have hR:=az.dm 0 O;have hlow:=hI.low;have hhigh:=hI.high;have gu:=VK (kQ.cap hc);refine bC O ?_
  by_cases WJ:a<j
  ·
   have ej:((j:Int)-1).toNat=j-1:=by omega
   have g1:rg cu j=gs cu j:=O;have g2:rg cu ((j:Int)-1)=gs cu (j-1):=by unfold rg gs;rw[ej]
   refine ec [xI ((j:Int)),xI ((a:Int)),xB (decide (((a:Int))<((j:Int)))),xB (true),.ex (.func (.func 152) #[] #[]),xS (A) (n) (c),xI ((j:Int)),xP (aH (A) ((j:Int)).toNat),xS ((rg (cu) ((j:Int))).a) ((rg (cu) ((j:Int))).n) ((rg (cu) ((j:Int))).c),xS (A) (n) (c),xI ((j:Int)),xI (((j:Int))-((1:Int))),xP (aH (A) (((j:Int))-((1:Int))).toNat),xS ((rg (cu) (((j:Int))-((1:Int)))).a) ((rg (cu) (((j:Int))-((1:Int)))).n) ((rg (cu) (((j:Int))-((1:Int)))).c),xI (((gs cu (j-1)).n:Int)-(gs cu j).n),xB (decide ((((gs cu (j-1)).n:Int)-(gs cu j).n)<((0:Int)))),xB (decide ((((gs cu (j-1)).n:Int)-(gs cu j).n)<((0:Int))))] O (eK O) ?_ ?_
   ·refine⟨Dr O,Dr O,Dr O,λ_ _ _ _ _=>Dk O (by exact aQ Value.bool (dB ac)),Dr O,Dr O,Dr O,λ_ _ hb _ _=>ar O (aA (hR.ao hb).2 O Az),λ_ _ hb _ _=>ar O (bw (hR.ao hb) O Az),Dr O,Dr O,λ_ _ _ _ _=>ar O (cV O Az),λ_ _ hb _ _=>ar O (aA (hR.ao hb).2 O Az),λ_ _ hb _ _=>ar O (bw (hR.ao hb) O Az),?_,Dr O,Dr O,au⟩;intro e1 w1 hb hp aW;refine ar O ?_;refine auM (I9 (gs cu j).a (gs cu j).n (gs cu j).c (gs cu (j-1)).a (gs cu (j-1)).n (gs cu (j-1)).c _ (gu j) (gu (j-1))) O (by rw[<-g2];rfl) O ?_;rintro _ w9 ⟨rfl,rfl⟩;refine ak.n (d0 ap)
   intro u w3 ji _;have aM:=az.ao ji;refine fG O (aK _ O (λh2=>?_) (λh2=>?_))
   ·have jg:=aM.dm 0 O;have dH:dM (gs cu j)<dM (gs cu (j-1)):=by unfold dM;omega
    refine cM O ?_;refine iu [15,17] [yS (A) (n) (c),yI ((j:Int)),yS (A) (n) (c),yI ((j:Int)),yI (((j:Int))-((1:Int))),yS (A) (n) (c),yI ((j:Int)),yI (((j:Int))-((1:Int))),yP (aH (A) (((j:Int))-((1:Int))).toNat),yS ((rg (cu) (((j:Int))-((1:Int)))).a) ((rg (cu) (((j:Int))-((1:Int)))).n) ((rg (cu) (((j:Int))-((1:Int)))).c),yS (A) (n) (c),yI ((j:Int)),yP (aH (A) ((j:Int)).toNat),yS ((rg (cu) ((j:Int))).a) ((rg (cu) ((j:Int))).n) ((rg (cu) ((j:Int))).c),yP (aH (A) ((j:Int)).toNat),.pr (λ_ w'=>St w0 w' (aX t A n c (cu.set j (gs cu (j-1)))::ks)),yP (aH (A) (((j:Int))-((1:Int))).toNat),.pr (λ_ w'=>St w0 w' (aX t A n c (swp cu j (j-1))::ks))] (ly (ly (ly (ly (ly (ly (ly (ly (ly (ly (ly (ly (ly (ly (ly (bV.2 ⟨Ye.bW (λv w w' h hb=>h.ao hb),(ly (bV.2 ⟨Ye.bW (λv w w' h hb=>h.ao hb),(λ_ h=>by cases h)⟩))⟩)))))))))))))))) ?_ ?_
    ·refine⟨bP O,bP O,bP O,bP O,aP λ_ _=>cV O (bA O O),bP O,bP O,aP λ_ _=>cV O (bA O O),cP λ_ _ hb _ _ _=>aA (jg.ao hb).2 O (bA O O),cP λ_ _ hb _ _ _=>bw (jg.ao hb) O (bA O O),bP O,bP O,cP λ_ _ hb _ _ _=>aA (jg.ao hb).2 O (bA O O),cP λ_ _ hb _ _ _=>bw (jg.ao hb) O (bA O O),cP λ_ _ hb _ _ _=>aA (jg.ao hb).2 O (bA O O),?_,?_,?_,au⟩
     ·refine iF λe1 w1 hb hp aW hq=>?_
      exact nC 0 (aM.ao hb) O O O ac λw6 bk=>ak.n (dS.st O (BJ (i:=(j:Int)) O g2 bk))
     ·refine dP 1 λe1 w1 hp aW hq=>?_
      have cg:=hp 15 _ _ an O O an;have jh:=cg.dm 0 O;have wU:(cu.set j (gs cu (j-1))).length=n:=by rw[fR];exact b8
      refine aA (jh).2 O (ak.n (fp O ap))
     refine kB 1 λe1 w1 hp aW hq=>?_
     have cg:=hp 15 _ _ an O O an;have jh:=cg.dm 0 O;have wU:(cu.set j (gs cu (j-1))).length=n:=by rw[fR];exact b8
     exact nC 0 cg O O O ac λw7 bp=>ak.n (dS.st O (BJ ej g1 bp))
    intro u w5 _ hu _ _;have aO:=hu 17 _ O an;refine gq O (cV O (aN O (tQ ?_)));exact⟨(j-1,swp cu j (j-1)),by show j-1<j;omega,⟨O,O,O,O,O,by show Value.int .i64 _=aj _;congr 1;omega,au⟩,kQ.trans (Sv ac ac (Nat.le_of_lt WJ) ac ac ac) (cJ _) (cJ _),hI.next WJ ac dH,aO⟩
   refine ba O (bc (bY O (aJ O (aN O (tQ ?_)))));exact⟨(i+1,cu),by show b-(i+1)<b-i;omega,⟨O,O,O,O,O,trivial⟩,by show a+1<=i+1;omega,kQ,hI.stop (.inr (by unfold dM;omega)),aM⟩
  refine ec [xI ((j:Int)),xI ((a:Int)),xB (decide (((a:Int))<((j:Int)))),xB (false),xU,xU,xU,xU,xU,xU,xU,xU,xU,xU,xU,xU,xB (false)] O (eK O) ?_ ?_
  ·exact⟨Dr O,Dr O,Dr O,λ_ _ _ _ _=>Dk O (by exact aQ Value.bool (db ac)),Dr O,Dr O,Dr O,Dr O,Dr O,Dr O,Dr O,Dr O,Dr O,Dr O,Dr O,Dr O,Dr O,au⟩
  intro u w3 ji _;have aM:=az.ao ji;refine fG O (Cd.cX O ?_);refine ba O (bc (bY O (aJ O (aN O (tQ ?_)))));exact⟨(i+1,cu),by show b-(i+1)<b-i;omega,(auV O),by show a+1<=i+1;omega,kQ,hI.stop (.inl ac),aM⟩
 refine ba O (bc (vZ O ?_));exact qU ⟨O,cur,hp,hs.sub (cJ _) ac,ax⟩
section
variable {P:Program}{N:Nat}{ops:Array Oper}{K:Env->aa->Prop}{rest:List Oper}{e:Env}{w:aa}{d:Nat}{ty:ad}{pos:String}{af:Array Edge}{x y:ae}{xt yt:ad}{i:Int}
theorem FI{k:IntKind}(hx:ev e x=.int .u64 i)(hy:ev e y=.int k 1)(hb:Nat.blt d N=true)(h0:0<=i)(hK:ak P N ops K rest (bE e d (.int .u64 (i / 2))) w):
 ak P N ops K (⟨some d,.binOp .shr xt x y yt,ty,pos,af,none⟩::rest) e w:=by
 refine .val (v:=.int .u64 (i / 2)) ?_ hb hK;have e1:min 1 IntKind.u64.bits=1:=by decide
 have e2:i.fdiv 2=i / 2:=Int.fdiv_eq_ediv_of_nonneg _ am;simp[execOp,hx,hy,eqGuard,binOp,Op.shift,e1,e2]
end
section
variable {P:Program}{N:Nat}{ops:Array Oper}{K:Env->aa->Prop}{rest:List Oper}{e:Env}{w:aa}{d:Nat}{ty:ad}{pos:String}{af:Array Edge}{x y:ae}{xt yt:ad}{i:Int}
end
theorem afv{a m b:Nat}(h1:a<m)(h2:m<b){c:Nat}(hc:nq a m b<=c)(GA:c<eU a m b):a<=c/\c<m/\m<=(a+b) / 2+m-1-c/\(a+b) / 2+m-1-c<b:=by
 unfold nq at hc;unfold eU at GA
 by_cases h:(a+b) / 2<m
 ·rw[aG h]at hc GA;omega
 rw[aD h]at hc GA;omega
theorem anB{a m b:Nat}(h1:a<m)(h2:m<b):nq a m b<=eU a m b:=by
 unfold nq eU
 split<;>omega
theorem abF{w0:aa}{ks:List Ck}{t:ad}{A:ai}{n c:Nat}(hn:n<=4000000000000):∀(f a m b:Nat),b-a<=f->a<m->m<b->b<=n->∀(ds:List aE)(w:aa),(∀s∈ds,s.n<=9223372036854775807)->SR dM ds a m->SR dM ds m b->St w0 w (aX t A n c ds::ks)->
 aF prog 206 [.slice A n c,aj a,aj m,aj b,.func (.func 152) #[] #[]] w (λv w'=>v=.tuple #[]/\∃nH,RP ds nH a b/\SR dM nH a b/\St w0 w' (aX t A n c nH::ks)):=by
 intro f
 induction f with
 |zero=>intro a m b h1 h2 h3;omega
 |succ f ih=>
  intro a m b hf Gz PQ Pf ds w hc hA hB hS;have AV:ds.length=n:=(hS.dm 0 O).1;have gu:=VK hc;refine bn func206 O ntmps206 O (vM O) ?_;refine aY O (cV O (ay O ?_));refine aK _ O (λh1=>?_) (λh1=>?_)
  ·have hm:m=a+1:=by omega
   refine cM O ?_;refine Cd.loop (α:=Nat×Nat) (λz=>[(0,.slice A n c),(1,aj a),(2,aj m),(3,aj b),(4,.func (.func 152) #[] #[]),(10,aj (z.1:Int)),(11,aj (z.2:Int))])
    (λz w'=>(m<=z.1/\z.1<=z.2/\z.2<=b)/\(∀x,m<=x->x<z.1->dM (gs ds x)<dM (gs ds a))/\(∀x,z.2<=x->x<b->dM (gs ds a)<=dM (gs ds x))/\St w0 w' (aX t A n c ds::ks)) (λz=>z.2-z.1) (m,b) ⟨rfl,rfl,rfl,rfl,rfl,rfl,rfl,au⟩ ⟨⟨cJ _,by show m<=b;omega,cJ _⟩,λx h h'=>by omega,λx h h'=>by omega,hS⟩ ?_
   rintro⟨i,j⟩ e w1 ⟨⟨eU,jC,sf⟩,hL,hR,ax⟩;dsimp only at eU jC sf hL hR ax|-;refine bC O (aK _ O (λh2=>?_) (λh2=>?_))
   ·refine aC O (aJ O ?_);refine lL O O (rS _ ac) (FI O O O ac (lL O O (IntWalk.i64_in _ ac) (ay O ?_)));obtain⟨h,hh⟩:∃h:Nat,h=(i+j) / 2:=⟨_,rfl⟩;rw[show((i:Int)+(j:Int)) / 2=(h:Int) by omega];have eW:=ax.dm 0 O;have g1:rg ds h=gs ds h:=O;have g2:rg ds a=gs ds a:=O;refine ec [.ex (.func (.func 152) #[] #[]),xS (A) (n) (c),xI ((h:Int)),xP (aH (A) ((h:Int)).toNat),xS ((rg (ds) ((h:Int))).a) ((rg (ds) ((h:Int))).n) ((rg (ds) ((h:Int))).c),xS (A) (n) (c),xI ((a:Int)),xP (aH (A) ((a:Int)).toNat),xS ((rg (ds) ((a:Int))).a) ((rg (ds) ((a:Int))).n) ((rg (ds) ((a:Int))).c),xI (((gs ds a).n:Int)-(gs ds h).n),xB (decide ((((gs ds a).n:Int)-(gs ds h).n)<((0:Int))))] O (eK O) ?_ ?_
    ·refine⟨Dr O,Dr O,Dr O,λ_ _ hb _ _=>aA (eW.ao hb).2 O Az,λ_ _ hb _ _=>bw (eW.ao hb) O Az,Dr O,Dr O,λ_ _ hb _ _=>aA (eW.ao hb).2 O Az,λ_ _ hb _ _=>bw (eW.ao hb) O Az,?_,Dr O,au⟩
     ·intro e1 w1 hb hp aW;refine aI (I9 (gs ds h).a (gs ds h).n (gs ds h).c (gs ds a).a (gs ds a).n (gs ds a).c _ (gu h) (gu a)) O ?_;rintro _ w9 ⟨rfl,rfl⟩;refine ak.n (d0 ap)
    intro u w2 jR _;have az:=ax.ao jR;refine fG O (aK _ O (λh3=>?_) (λh3=>?_))
    ·refine aC O (aJ O (aN O (tQ ?_)));refine⟨(h+1,j),by show j-(h+1)<j-i;omega,(auV O),⟨by show m<=h+1;omega,by show h+1<=j;omega,sf⟩,λx mC oD=>?_,hR,az⟩;have oD:x<h+1:=oD;have k1:dM (gs ds x)<=dM (gs ds h):=hB.le mC ac ac;have k2:dM (gs ds h)<dM (gs ds a):=by unfold dM;omega
     omega
    ·refine jE O (tQ ?_);refine⟨(i,h),by show h-i<j-i;omega,(auV O),⟨eU,by show i<=h;omega,by show h<=b;omega⟩,hL,λx mC oD=>?_,az⟩;have mC:h<=x:=mC;have k1:dM (gs ds h)<=dM (gs ds x):=hB.le ac mC oD;have k2:dM (gs ds a)<=dM (gs ds h):=by unfold dM;omega
     omega
   ·have GR:i=j:=by omega
    subst GR;refine ba O (bc (kX O ?_));refine Cd.loop (α:=Nat×List aE) (λz=>[(0,.slice A n c),(4,.func (.func 152) #[] #[]),(10,aj i),(13,aj (z.1:Int))]) (λz w'=>(a<=z.1/\z.1<=i-1)/\RP ds z.2 a b/\wa ds z.2 a z.1/\St w0 w' (aX t A n c z.2::ks)) (λz=>i-z.1) (a,ds) (auV O) ⟨⟨cJ _,by show a<=i-1;omega⟩,RP.refl _ _ _,wa.start _ _,ax⟩ ?_;rintro⟨k,cu⟩ e w2 ⟨⟨jr,o7⟩,hp,ti,az⟩;dsimp only at jr o7 hp ti az|-;have b8:cu.length=n:=(az.dm 0 O).1;refine aY O (cV O (ay O ?_));refine aK _ O (λh3=>?_) (λh3=>?_)
    ·have jg:=az.dm 0 O;have ek:((k:Int)+1).toNat=k+1:=by omega
     have g1:rg cu k=gs cu k:=O;have g2:rg cu ((k:Int)+1)=gs cu (k+1):=by unfold rg gs;rw[ek]
     refine cM O ?_;refine iu [15,17] [yS (A) (n) (c),yI ((k:Int)),yS (A) (n) (c),yI ((k:Int)),yI (((k:Int))+((1:Int))),yS (A) (n) (c),yI ((k:Int)),yI (((k:Int))+((1:Int))),yP (aH (A) (((k:Int))+((1:Int))).toNat),yS ((rg (cu) (((k:Int))+((1:Int)))).a) ((rg (cu) (((k:Int))+((1:Int)))).n) ((rg (cu) (((k:Int))+((1:Int)))).c),yS (A) (n) (c),yI ((k:Int)),yP (aH (A) ((k:Int)).toNat),yS ((rg (cu) ((k:Int))).a) ((rg (cu) ((k:Int))).n) ((rg (cu) ((k:Int))).c),yP (aH (A) ((k:Int)).toNat),.pr (λ_ w'=>St w0 w' (aX t A n c (cu.set k (gs cu (k+1)))::ks)),yP (aH (A) (((k:Int))+((1:Int))).toNat),.pr (λ_ w'=>St w0 w' (aX t A n c (swp cu k (k+1))::ks))] (ly (ly (ly (ly (ly (ly (ly (ly (ly (ly (ly (ly (ly (ly (ly (bV.2 ⟨Ye.bW (λv w w' h hb=>h.ao hb),(ly (bV.2 ⟨Ye.bW (λv w w' h hb=>h.ao hb),(λ_ h=>by cases h)⟩))⟩)))))))))))))))) ?_ ?_
     ·refine⟨bP O,bP O,bP O,bP O,aP λ_ _=>aJ O (bA O O),bP O,bP O,aP λ_ _=>aJ O (bA O O),cP λ_ _ hb _ _ _=>aA (jg.ao hb).2 O (bA O O),cP λ_ _ hb _ _ _=>bw (jg.ao hb) O (bA O O),bP O,bP O,cP λ_ _ hb _ _ _=>aA (jg.ao hb).2 O (bA O O),cP λ_ _ hb _ _ _=>bw (jg.ao hb) O (bA O O),cP λ_ _ hb _ _ _=>aA (jg.ao hb).2 O (bA O O),?_,?_,?_,au⟩
      ·refine iF λe1 w1 hb hp aW hq=>?_
       exact nC 0 (az.ao hb) O O O ac λw6 bk=>ak.n (dS.st O (BJ (i:=(k:Int)) O g2 bk))
      ·refine dP 1 λe1 w1 hp aW hq=>?_
       have cg:=hp 15 _ _ an O O an;have jh:=cg.dm 0 O;have wU:(cu.set k (gs cu (k+1))).length=n:=by rw[fR];exact b8
       refine aA (jh).2 O (ak.n (fp O ap))
      ·refine kB 1 λe1 w1 hp aW hq=>?_
       have cg:=hp 15 _ _ an O O an;have jh:=cg.dm 0 O;have wU:(cu.set k (gs cu (k+1))).length=n:=by rw[fR];exact b8
       exact nC 0 cg O O O ac λw7 bp=>ak.n (dS.st O (BJ ek g1 bp))
     intro u w5 _ hu _ _;have aO:=hu 17 _ O an;refine gq O (aJ O (aN O (tQ ?_)));exact⟨(k+1,swp cu k (k+1)),by show i-(k+1)<i-k;omega,(auV O),⟨by show a<=k+1;omega,by show k+1<=i-1;omega⟩,hp.trans (Sv ac ac jr ac ac ac) (cJ _) (cJ _),ti.next jr ac,aO⟩
    ·have pM:k=i-1:=by omega
     subst pM;refine ba O (bc (ew O ?_));exact LD ⟨O,cu,hp,ti.sorted (hm▸hB) ac sf (λx h4 h5=>Int.le_of_lt (hL x ac h5)) hR,az⟩
  refine aC O (cV O (ay O ?_));refine aK _ O (λh2=>?_) (λh2=>?_)
  ·have fh:b=m+1:=by omega
   refine cM O ?_;refine Cd.loop (α:=Nat×Nat) (λz=>[(0,.slice A n c),(1,aj a),(2,aj m),(3,aj b),(4,.func (.func 152) #[] #[]),(14,aj (z.1:Int)),(15,aj (z.2:Int))])
    (λz w'=>(a<=z.1/\z.1<=z.2/\z.2<=m)/\(∀x,a<=x->x<z.1->dM (gs ds x)<=dM (gs ds m))/\(∀x,z.2<=x->x<m->dM (gs ds m)<=dM (gs ds x))/\St w0 w' (aX t A n c ds::ks)) (λz=>z.2-z.1) (a,m) ⟨rfl,rfl,rfl,rfl,rfl,rfl,rfl,au⟩ ⟨⟨cJ _,by show a<=m;omega,cJ _⟩,λx h h'=>by omega,λx h h'=>by omega,hS⟩ ?_
   rintro⟨i,j⟩ e w1 ⟨⟨eU,jC,sf⟩,hL,hR,ax⟩;dsimp only at eU jC sf hL hR ax|-;refine bC O (aK _ O (λh3=>?_) (λh3=>?_))
   ·refine aC O (aJ O ?_);refine lL O O (rS _ ac) (FI O O O ac (lL O O (IntWalk.i64_in _ ac) (ay O ?_)));obtain⟨h,hh⟩:∃h:Nat,h=(i+j) / 2:=⟨_,rfl⟩;rw[show((i:Int)+(j:Int)) / 2=(h:Int) by omega];have eW:=ax.dm 0 O;have g1:rg ds h=gs ds h:=O;have g2:rg ds m=gs ds m:=O;refine ec [.ex (.func (.func 152) #[] #[]),xS (A) (n) (c),xI ((m:Int)),xP (aH (A) ((m:Int)).toNat),xS ((rg (ds) ((m:Int))).a) ((rg (ds) ((m:Int))).n) ((rg (ds) ((m:Int))).c),xS (A) (n) (c),xI ((h:Int)),xP (aH (A) ((h:Int)).toNat),xS ((rg (ds) ((h:Int))).a) ((rg (ds) ((h:Int))).n) ((rg (ds) ((h:Int))).c),xI (((gs ds h).n:Int)-(gs ds m).n),xB (decide ((((gs ds h).n:Int)-(gs ds m).n)<((0:Int)))),xB (decide (¬((((gs ds h).n:Int)-(gs ds m).n)<((0:Int)))))] O (eK O) ?_ ?_
    ·refine⟨Dr O,Dr O,Dr O,λ_ _ hb _ _=>aA (eW.ao hb).2 O Az,λ_ _ hb _ _=>bw (eW.ao hb) O Az,Dr O,Dr O,λ_ _ hb _ _=>aA (eW.ao hb).2 O Az,λ_ _ hb _ _=>bw (eW.ao hb) O Az,?_,Dr O,λ_ _ _ _ _=>cO O O Az,au⟩
     ·intro e1 w1 hb hp aW;refine aI (I9 (gs ds m).a (gs ds m).n (gs ds m).c (gs ds h).a (gs ds h).n (gs ds h).c _ (gu m) (gu h)) O ?_;rintro _ w9 ⟨rfl,rfl⟩;refine ak.n (d0 ap)
    intro u w2 jR _;have az:=ax.ao jR;refine fG O (aK _ O (λh4=>?_) (λh4=>?_))
    ·refine aC O (aJ O (aN O (tQ ?_)));refine⟨(h+1,j),by show j-(h+1)<j-i;omega,(auV O),⟨by show a<=h+1;omega,by show h+1<=j;omega,sf⟩,λx mC oD=>?_,hR,az⟩;have oD:x<h+1:=oD;have k1:dM (gs ds x)<=dM (gs ds h):=hA.le mC ac ac;have k2:dM (gs ds h)<=dM (gs ds m):=by unfold dM;omega
     omega
    ·refine jE O (tQ ?_);refine⟨(i,h),by show h-i<j-i;omega,(auV O),⟨eU,by show i<=h;omega,by show h<=m;omega⟩,hL,λx mC oD=>?_,az⟩;have mC:h<=x:=mC;have k1:dM (gs ds h)<=dM (gs ds x):=hA.le ac mC oD;have k2:dM (gs ds m)<=dM (gs ds h):=by unfold dM;omega
     omega
   ·have GR:i=j:=by omega
    subst GR;refine ba O (bc (kX O ?_));refine Cd.loop (α:=Nat×List aE) (λz=>[(0,.slice A n c),(4,.func (.func 152) #[] #[]),(14,aj i),(17,aj (z.1:Int))]) (λz w'=>(i<=z.1/\z.1<=m)/\RP ds z.2 a b/\v8 ds z.2 m z.1/\St w0 w' (aX t A n c z.2::ks)) (λz=>z.1) (m,ds) (auV O) ⟨⟨sf,cJ _⟩,RP.refl _ _ _,v8.start _ _,ax⟩ ?_;rintro⟨k,cu⟩ e w2 ⟨⟨jr,o7⟩,hp,ti,az⟩;dsimp only at jr o7 hp ti az|-;have b8:cu.length=n:=(az.dm 0 O).1;refine bC O (aK _ O (λh4=>?_) (λh4=>?_))
    ·have jg:=az.dm 0 O;have ek:((k:Int)-1).toNat=k-1:=by omega
     have g1:rg cu k=gs cu k:=O;have g2:rg cu ((k:Int)-1)=gs cu (k-1):=by unfold rg gs;rw[ek]
     refine cM O ?_;refine iu [15,17] [yS (A) (n) (c),yI ((k:Int)),yS (A) (n) (c),yI ((k:Int)),yI (((k:Int))-((1:Int))),yS (A) (n) (c),yI ((k:Int)),yI (((k:Int))-((1:Int))),yP (aH (A) (((k:Int))-((1:Int))).toNat),yS ((rg (cu) (((k:Int))-((1:Int)))).a) ((rg (cu) (((k:Int))-((1:Int)))).n) ((rg (cu) (((k:Int))-((1:Int)))).c),yS (A) (n) (c),yI ((k:Int)),yP (aH (A) ((k:Int)).toNat),yS ((rg (cu) ((k:Int))).a) ((rg (cu) ((k:Int))).n) ((rg (cu) ((k:Int))).c),yP (aH (A) ((k:Int)).toNat),.pr (λ_ w'=>St w0 w' (aX t A n c (cu.set k (gs cu (k-1)))::ks)),yP (aH (A) (((k:Int))-((1:Int))).toNat),.pr (λ_ w'=>St w0 w' (aX t A n c (swp cu k (k-1))::ks))] (ly (ly (ly (ly (ly (ly (ly (ly (ly (ly (ly (ly (ly (ly (ly (bV.2 ⟨Ye.bW (λv w w' h hb=>h.ao hb),(ly (bV.2 ⟨Ye.bW (λv w w' h hb=>h.ao hb),(λ_ h=>by cases h)⟩))⟩)))))))))))))))) ?_ ?_
     ·refine⟨bP O,bP O,bP O,bP O,aP λ_ _=>cV O (bA O O),bP O,bP O,aP λ_ _=>cV O (bA O O),cP λ_ _ hb _ _ _=>aA (jg.ao hb).2 O (bA O O),cP λ_ _ hb _ _ _=>bw (jg.ao hb) O (bA O O),bP O,bP O,cP λ_ _ hb _ _ _=>aA (jg.ao hb).2 O (bA O O),cP λ_ _ hb _ _ _=>bw (jg.ao hb) O (bA O O),cP λ_ _ hb _ _ _=>aA (jg.ao hb).2 O (bA O O),?_,?_,?_,au⟩
      ·refine iF λe1 w1 hb hp aW hq=>?_
       exact nC 0 (az.ao hb) O O O ac λw6 bk=>ak.n (dS.st O (BJ (i:=(k:Int)) O g2 bk))
      ·refine dP 1 λe1 w1 hp aW hq=>?_
       have cg:=hp 15 _ _ an O O an;have jh:=cg.dm 0 O;have wU:(cu.set k (gs cu (k-1))).length=n:=by rw[fR];exact b8
       refine aA (jh).2 O (ak.n (fp O ap))
      ·refine kB 1 λe1 w1 hp aW hq=>?_
       have cg:=hp 15 _ _ an O O an;have jh:=cg.dm 0 O;have wU:(cu.set k (gs cu (k-1))).length=n:=by rw[fR];exact b8
       exact nC 0 cg O O O ac λw7 bp=>ak.n (dS.st O (BJ ek g1 bp))
     intro u w5 _ hu _ _;have aO:=hu 17 _ O an;refine gq O (cV O (aN O (tQ ?_)));exact⟨(k-1,swp cu k (k-1)),by show k-1<k;omega,⟨O,O,O,by show Value.int .i64 _=aj _;congr 1;omega,au⟩,⟨by show i<=k-1;omega,by show k-1<=m;omega⟩,hp.trans (Sv ac ac ac ac ac ac) (cJ _) (cJ _),ti.next ac o7 ac,aO⟩
    ·have pM:k=i:=by omega
     subst pM;refine ba O (bc (ew O ?_));exact LD ⟨O,cu,hp,fh▸ti.sorted hA eU sf hL hR,az⟩
  have h1:a+1<m:=by omega
  have h2:m+1<b:=by omega
  refine aC O (aJ O ?_);refine lL O O (rS _ ac) (FI O O O ac (lL O O (IntWalk.i64_in _ ac) ?_));obtain⟨mid,AW⟩:∃h:Nat,h=(a+b) / 2:=⟨_,rfl⟩;rw[show((a:Int)+(b:Int)) / 2=(mid:Int) by omega];have G1:2*mid<=a+b/\a+b<=2*mid+1:=by omega
  have yz:=anB Gz PQ;have hh0:eU a m b<=m:=by unfold eU;split<;>omega
  have CZ:=λc=>afv Gz PQ (c:=c)
  rw[<-AW]at CZ;refine aq O (aJ O (tG 2 O ?_));refine lH (α:=Unit) (λ_=>[(0,.slice A n c),(1,aj a),(2,aj m),(3,aj b),(4,.func (.func 152) #[] #[]),(18,aj mid),(19,aj ((mid:Int)+(m:Int))),(20,aj ((nq a m b:Nat):Int)),(21,aj ((eU a m b:Nat):Int))]) (λ_ w'=>w'=w) ?_ ?_
  ·refine bC O (aK _ O (λh3=>?_) (λh3=>?_))
   ·have e1:nq a m b=mid+m-b:=by unfold nq;rw[if_pos (by omega),<-AW]
    have e2:eU a m b=mid:=by unfold eU;rw[if_pos (by omega),<-AW]
    rw[e1,e2];refine aC O (cV O (aN O (tQ ?_)));exact⟨(),⟨O,O,O,O,O,O,O,by show Value.int .i64 ((mid:Int)+(m:Int)-(b:Int))=aj ((mid+m-b:Nat):Int);congr 1;omega,O,au⟩,O⟩
   ·have e1:nq a m b=a:=by unfold nq;rw[if_neg (by omega)]
    have e2:eU a m b=m:=by unfold eU;rw[if_neg (by omega)]
    rw[e1,e2];refine jE O (tQ ?_);exact⟨(),(auV O),O⟩
  rintro _ e w1 rfl;refine aC O (cV O (ay O ?_));refine Cd.loop (α:=Nat×Nat) (λz=>[(0,.slice A n c),(1,aj a),(2,aj m),(3,aj b),(4,.func (.func 152) #[] #[]),(18,aj mid),(19,aj ((mid:Int)+(m:Int))),(20,aj (z.1:Int)),(21,aj (z.2:Int)),(22,aj ((mid:Int)+(m:Int)-1))])
   (λz w'=>(nq a m b<=z.1/\z.1<=z.2/\z.2<=eU a m b)/\(∀x,nq a m b<=x->x<z.1->dM (gs ds x)<=dM (gs ds (mid+m-1-x)))/\(∀x,z.2<=x->x<eU a m b->dM (gs ds (mid+m-1-x))<dM (gs ds x))/\St w0 w' (aX t A n c ds::ks)) (λz=>z.2-z.1) (nq a m b,eU a m b) ⟨rfl,rfl,rfl,rfl,rfl,rfl,rfl,rfl,rfl,rfl,au⟩ ⟨⟨cJ _,yz,cJ _⟩,λx h h'=>by omega,λx h h'=>by omega,hS⟩ ?_
  rintro⟨i,j⟩ e w2 ⟨⟨GO,jC,sf⟩,hL,hR,ax⟩;dsimp only at GO jC sf hL hR ax|-;refine bC O (aK _ O (λh3=>?_) (λh3=>?_))
  ·refine aC O (aJ O ?_);refine lL O O (rS _ ac) (FI O O O ac (lL O O (IntWalk.i64_in _ ac) (ay O ?_)));obtain⟨h,hh⟩:∃h:Nat,h=(i+j) / 2:=⟨_,rfl⟩;rw[show((i:Int)+(j:Int)) / 2=(h:Int) by omega];have l6:=CZ h ac ac;have eW:=ax.dm 0 O;have ep:((mid:Int)+(m:Int)-1-(h:Int)).toNat=mid+m-1-h:=by omega
   have g1:rg ds h=gs ds h:=O;have g2:rg ds ((mid:Int)+(m:Int)-1-(h:Int))=gs ds (mid+m-1-h):=by unfold rg gs;rw[ep]
   refine ec [.ex (.func (.func 152) #[] #[]),xS (A) (n) (c),xI (((mid:Int)+(m:Int)-1)),xI ((h:Int)),xI ((((mid:Int)+(m:Int)-1))-((h:Int))),xP (aH (A) ((((mid:Int)+(m:Int)-1))-((h:Int))).toNat),xS ((rg (ds) ((((mid:Int)+(m:Int)-1))-((h:Int)))).a) ((rg (ds) ((((mid:Int)+(m:Int)-1))-((h:Int)))).n) ((rg (ds) ((((mid:Int)+(m:Int)-1))-((h:Int)))).c),xS (A) (n) (c),xI ((h:Int)),xP (aH (A) ((h:Int)).toNat),xS ((rg (ds) ((h:Int))).a) ((rg (ds) ((h:Int))).n) ((rg (ds) ((h:Int))).c),xI (((gs ds h).n:Int)-(gs ds (mid+m-1-h)).n),xB (decide ((((gs ds h).n:Int)-(gs ds (mid+m-1-h)).n)<((0:Int)))),xB (decide (¬((((gs ds h).n:Int)-(gs ds (mid+m-1-h)).n)<((0:Int)))))] O (eK O) ?_ ?_
   ·refine⟨Dr O,Dr O,Dr O,Dr O,λ_ _ _ _ _=>cV O Az,λ_ _ hb _ _=>aA (eW.ao hb).2 O Az,λ_ _ hb _ _=>bw (eW.ao hb) O Az,Dr O,Dr O,λ_ _ hb _ _=>aA (eW.ao hb).2 O Az,λ_ _ hb _ _=>bw (eW.ao hb) O Az,?_,Dr O,λ_ _ _ _ _=>cO O O Az,au⟩
    ·intro e1 w1 hb hp aW;refine auM (I9 (gs ds (mid+m-1-h)).a (gs ds (mid+m-1-h)).n (gs ds (mid+m-1-h)).c (gs ds h).a (gs ds h).n (gs ds h).c _ (gu _) (gu h)) O (by rw[<-g2];rfl) O ?_;rintro _ w9 ⟨rfl,rfl⟩;refine ak.n (d0 ap)
   intro u w3 ji _;have az:=ax.ao ji;refine fG O (aK _ O (λh4=>?_) (λh4=>?_))
   ·refine aC O (aJ O (aN O (tQ ?_)));refine⟨(h+1,j),by show j-(h+1)<j-i;omega,(auV O),⟨by show nq a m b<=h+1;omega,by show h+1<=j;omega,sf⟩,λx mC oD=>?_,hR,az⟩;have oD:x<h+1:=oD;have vA:=CZ x mC ac;have k1:dM (gs ds x)<=dM (gs ds h):=hA.le ac ac ac;have k2:dM (gs ds h)<=dM (gs ds (mid+m-1-h)):=by unfold dM;omega
    have k3:dM (gs ds (mid+m-1-h))<=dM (gs ds (mid+m-1-x)):=hB.le ac ac ac;omega
   ·refine jE O (tQ ?_);refine⟨(i,h),by show h-i<j-i;omega,(auV O),⟨GO,by show i<=h;omega,by show h<=eU a m b;omega⟩,hL,λx mC oD=>?_,az⟩;have mC:h<=x:=mC;have vA:=CZ x ac oD;have k1:dM (gs ds h)<=dM (gs ds x):=hA.le ac ac ac;have k2:dM (gs ds (mid+m-1-h))<dM (gs ds h):=by unfold dM;omega
    have k3:dM (gs ds (mid+m-1-x))<=dM (gs ds (mid+m-1-h)):=hB.le ac ac ac;omega
  have GR:i=j:=by omega
  subst GR;have na:Mo dM ds a m b i:=⟨GO,sf,by rw[<-AW];exact hL,by rw[<-AW];exact hR⟩;have Yi:=λl1=>afs (l1:=l1) h1 h2 hA hB na
  rw[<-AW]at Yi;have b1:a<=i:=by have:=GO;unfold nq at this;split at this<;>omega
  have b2:i<=mid:=by have:=sf;unfold eU at this;split at this<;>omega
  have b3:i<=m:=by have:=sf;unfold eU at this;split at this<;>omega
  have b4:mid+m-i<=b:=by have:=GO;unfold nq at this;split at this<;>omega
  refine ba O (bc (bY O (cV O (tG 0 O ?_))));refine lH (α:=List aE) (λ_=>[(0,.slice A n c),(1,aj a),(3,aj b),(4,.func (.func 152) #[] #[]),(18,aj mid),(20,aj i),(24,aj ((mid+m-i:Nat):Int))]) (λl1 w'=>vg ds l1 i m (mid+m-i)/\RP ds l1 a b/\St w0 w' (aX t A n c l1::ks)) ?_ ?_
  ·have e24:((mid:Int)+(m:Int)-(i:Int))=((mid+m-i:Nat):Int):=by omega
   rw[e24];refine aY O (b9 181 O (λh4=>?_) (λh4=>?_))
   ·refine ar O (aq O (ar O (aq O (ar O (ay O ?_)))));refine aK _ O (λh5=>?_) (λh5=>?_)
    ·obtain⟨P,X,Y,S,GJ,lP,lX,lY⟩:∃P X Y S:List aE,ds=P++(X++(Y++S))/\P.length=i/\X.length=m-i/\Y.length=mid-i:=by
      refine⟨ds.take i,(ds.drop i).take (m-i),(ds.drop m).take (mid-i),(ds.drop m).drop (mid-i),?_,by simp;omega,by simp;omega,by simp;omega⟩;rw[List.take_append_drop,show ds.drop m=(ds.drop i).drop (m-i) by rw[List.drop_drop];congr 1;omega,List.take_append_drop,List.take_append_drop]
     have Yj:vg ds (P++(Y++(X++S))) i m (mid+m-i):=by
      have:=vg.of P X Y S;rw[<-GJ,lP,lX,lY]at this
      rwa[show i+(m-i)=m by omega,show m+(mid-i)=mid+m-i by omega]at this
     rw[GJ]at ax;refine aC O (aI (apZ (P:=P) (X:=X) (Y:=Y) (S:=S) i m (mid+m-i) lP ac ac ac ac hn ax) O ?_);rintro _ w4 ⟨rfl,aU⟩;refine aN O (tQ ?_);exact⟨P++(Y++(X++S)),(auV O),Yj,⟨by rw[GJ];exact apY P X Y S,λx hx=>Yj.out x ac⟩,aU⟩
    ·refine jE O (tQ ?_);exact⟨ds,(auV O),vg.same ds ac ac ac,RP.refl _ _ _,ax⟩
   ·refine aB O (aB O (aB O (ay O ?_)));refine Cd.cX O (jE O (tQ ?_));exact⟨ds,(auV O),vg.same ds ac ac ac,RP.refl _ _ _,ax⟩
  rintro l1 e w4 ⟨hr,Bc,aU⟩;obtain⟨_,s1,s2,s3,s4,hx⟩:=Yi l1 hr;have vx:=Bc.len;refine lH (α:=List aE) (λ_=>[(0,.slice A n c),(3,aj b),(4,.func (.func 152) #[] #[]),(18,aj mid),(24,aj ((mid+m-i:Nat):Int))]) (λl2 w'=>RP l1 l2 a mid/\SR dM l2 a mid/\St w0 w' (aX t A n c l2::ks)) ?_ ?_
  ·refine aY O (b9 195 O (λh4=>?_) (λh4=>?_))
   ·refine ar O (aq O (ar O (aq O (ar O (ay O ?_)))));refine aK _ O (λh5=>?_) (λh5=>?_)
    ·refine aC O (aI (ih a i mid ac ac ac ac l1 _ (Bc.cap hc) s1 s2 aU) O ?_);rintro _ w5 ⟨rfl,l2,kQ,o8,aO⟩;refine aN O (tQ ?_);exact⟨l2,(auV O),kQ,o8,aO⟩
    ·have pK:i=mid:=by omega
     refine jE O (tQ ?_);exact⟨l1,(auV O),RP.refl _ _ _,pK▸s1,aU⟩
   ·have pK:a=i:=by omega
    refine aB O (aB O (aB O (ay O ?_)));refine Cd.cX O (jE O (tQ ?_));exact⟨l1,(auV O),RP.refl _ _ _,pK▸s2,aU⟩
  rintro l2 e w5 ⟨kQ,o8,aO⟩;have AP:=kQ.len;have t3:SR dM l2 mid (mid+m-i):=s3.congr λx h h'=>kQ.out x (.inr h)
  have t4:SR dM l2 (mid+m-i) b:=s4.congr λx h h'=>kQ.out x (.inr ac)
  have iY:∀l3,RP l2 l3 mid b->SR dM l3 mid b->RP ds l3 a b/\SR dM l3 a b:=λl3 Be Qh=>
   ⟨(Bc.trans kQ (cJ _) ac).trans Be ac (cJ _),afu ac ac ac hx kQ o8 Be Qh⟩
  refine aC O (b9 209 O (λh4=>?_) (λh4=>?_))
  ·refine ar O (aq O (ar O (aq O (ar O (ay O ?_)))));refine aK _ O (λh5=>?_) (λh5=>?_)
   ·refine aC O (aI (ih mid (mid+m-i) b ac ac ac Pf l2 _ (kQ.cap (Bc.cap hc)) t3 t4 aO) O ?_);rintro _ w6 ⟨rfl,l3,Be,Qh,bk⟩;have:=iY l3 Be Qh;refine aN O (qU ?_);exact⟨O,l3,this.1,this.2,bk⟩
   ·have pK:mid+m-i=b:=by omega
    have:=iY l2 (RP.refl _ _ _) (pK▸t3);refine jE O (qU ?_);exact⟨O,l2,this.1,this.2,aO⟩
  ·have pK:mid=mid+m-i:=by omega
   have:=iY l2 (RP.refl _ _ _) (pK▸t4);refine aB O (aB O (aB O (ay O ?_)));refine Cd.cX O (jE O (qU ?_));exact⟨O,l2,this.1,this.2,aO⟩
theorem arR{w0 w:aa}{ks:List Ck}{t:ad}{A:ai}{n c:Nat}{ds:List aE}(hn:n<=1000000000000)(hc:∀s∈ds,s.n<=9223372036854775807)(hS:St w0 w (aX t A n c ds::ks)):
 aF prog 191 [.slice A n c,aj n,.func (.func 152) #[] #[]] w (λv w'=>v=.tuple #[]/\∃nH,nH.Perm ds/\SR dM nH 0 n/\St w0 w' (aX t A n c nH::ks)):=by
 have AV:ds.length=n:=(hS.dm 0 O).1;refine bn func191 O ntmps191 O (vM O) (bC O ?_);refine Cd.loop (α:=Nat×List aE) (λz=>[(0,.slice A n c),(1,aj n),(2,.func (.func 152) #[] #[]),(6,aj 20),(7,aj ((z.1*20:Nat):Int)),(8,aj ((z.1*20+20:Nat):Int))]) (λz w'=>z.1*20<=n/\z.2.Perm ds/\xJ dM z.2 n 20 0 (z.1*20)/\St w0 w' (aX t A n c z.2::ks)) (λz=>n-z.1*20) (0,ds) (auV O) ⟨ac,List.Perm.refl _,λk h h'=>by omega,hS⟩ ?_;rintro⟨k,cu⟩ e w1 ⟨hk,hp,hB,ax⟩;dsimp only at hk hp hB ax|-;have sb:∀s∈cu,s.n<=9223372036854775807:=λs hs=>hc s (hp.mem_iff.1 hs)
 have sep:∀(j:Nat),j*20<k*20->min (j*20+20) n<=k*20:=λj hj=>by omega
 refine bC O (aK _ O (λh1=>?_) (λh1=>?_))
 ·refine aC O (aI (YN (k*20) (k*20+20) ac hk ac sb ax) O ?_);rintro _ w2 ⟨rfl,Ji,kQ,o8,az⟩;refine aq O (aJ O (aN O (tQ ?_)));refine⟨(k+1,Ji),by show n-(k+1)*20<n-k*20;omega,⟨O,O,O,O,by show Value.int .i64 ((k*20+20:Nat):Int)=aj (((k+1)*20:Nat):Int);congr 1;omega,by show Value.int .i64 (((k*20+20:Nat):Int)+20)=aj (((k+1)*20+20:Nat):Int);congr 1;omega,au⟩,by show(k+1)*20<=n;omega,kQ.perm.trans hp,λj hj qE=>?_,az⟩;have qE:j*20<(k+1)*20:=qE
  by_cases e:j=k
  ·subst e;rw[Nat.min_eq_left (by omega)];exact o8
  exact(hB j hj ac).congr λx h h'=>kQ.out x (.inl ac)
 refine ba O (bc (bY O ?_));refine aI (YN (k*20) n (cJ _) hk ac sb ax) O ?_;rintro _ w2 ⟨rfl,Ji,kQ,o8,az⟩;have iz:xJ dM Ji n 20 0 n:=λj hj qE=>by
  by_cases e:j=k
  ·subst e;rw[Nat.min_eq_right (by omega)];exact o8
  exact(hB j hj ac).congr λx h h'=>kQ.out x (.inl ac)
 refine ay O ?_;refine Cd.loop (α:=Nat×List aE) (λz=>[(0,.slice A n c),(1,aj n),(2,.func (.func 152) #[] #[]),(6,aj (z.1:Int))]) (λz w'=>(0<z.1/\z.1<=2*n+20)/\z.2.Perm ds/\xJ dM z.2 n z.1 0 n/\St w0 w' (aX t A n c z.2::ks)) (λz=>2*n+20-z.1) (20,Ji) (auV O) ⟨⟨by show 0<20;omega,by show 20<=2*n+20;omega⟩,kQ.perm.trans hp,iz,az⟩ ?_;rintro⟨s,c3⟩ e w3 ⟨⟨l7,Bh⟩,Be,ia,aM⟩;dsimp only at l7 Bh Be ia aM|-;refine bC O (aK _ O (λh2=>?_) (λh2=>?_))
 ·refine aC O (ak.mul O O O ac (ay O ?_));obtain⟨p,hp⟩:∃p:Nat,p=2*s:=⟨_,rfl⟩;have Ej:((2:Int)*(s:Int))=(p:Int):=by omega
  rw[Ej];refine Cd.loop (α:=Nat×Nat×List aE) (λz=>[(0,.slice A n c),(1,aj n),(2,.func (.func 152) #[] #[]),(6,aj s),(7,aj (z.2.1:Int)),(8,aj ((z.2.1+p:Nat):Int))]) (λz w'=>z.2.1=z.1*p/\z.2.1<=n/\z.2.2.Perm ds/\xJ dM z.2.2 n p 0 z.2.1/\xJ dM z.2.2 n s z.2.1 n/\St w0 w' (aX t A n c z.2.2::ks)) (λz=>n-z.2.1) (0,0,c3) ⟨O,O,O,O,O,by show Value.int .i64 (p:Int)=aj ((0+p:Nat):Int);rw[Nat.zero_add],au⟩ ⟨(Nat.zero_mul p).symm,bl _,Be,λk h h'=>absurd h' (kY _),ia,aM⟩ ?_;rintro⟨k,a,c4⟩ e w4 ⟨ha,o6,Ha,Ox,JK,aU⟩;dsimp only at ha o6 Ha Ox JK aU|-;have WT:∀s∈c4,s.n<=9223372036854775807:=λs hs=>hc s (Ha.mem_iff.1 hs)
  have q1:2*k*s=a:=by rw[ha,hp,Nat.mul_comm 2 k,Nat.mul_assoc]
  have q2:(2*k+1)*s=a+s:=by rw[Nat.succ_mul,q1]
  have q3:(k+1)*p=a+p:=by rw[Nat.succ_mul,ha]
  have D1:a<n->SR dM c4 a (min (a+s) n):=λh=>by
   have:=JK (2*k) (by rw[q1];exact cJ _) (by rw[q1];exact h)
   rwa[q1]at this
  have D2:a+s<n->SR dM c4 (a+s) (min (a+s+s) n):=λh=>by
   have:=JK (2*k+1) (by rw[q2];omega) (by rw[q2];exact h)
   rwa[q2]at this
  refine bC O (aK _ O (λh3=>?_) (λh3=>?_))
  ·have mw:a+p<=n:=by omega
   have m1:=D1 ac;have m2:=D2 ac;rw[Nat.min_eq_left (by omega)]at m1 m2;rw[show a+s+s=a+p by omega]at m2;refine aC O (aJ O (aq O ?_));refine aI (abF ac p a (a+s) (a+p) ac ac ac mw c4 _ WT m1 m2 aU) O ?_;rintro _ w5 ⟨rfl,c5,Bf,Hn,aO⟩;refine aq O (ak.mul O O O ac (aJ O (aN O (tQ ?_))));refine⟨(k+1,a+p,c5),by show n-(a+p)<n-a;omega,⟨O,O,O,O,O,by show Value.int .i64 (((a+p:Nat):Int)+(2:Int)*(s:Int))=aj ((a+p+p:Nat):Int);congr 1;omega,au⟩,q3.symm,mw,Bf.perm.trans Ha,λj hj qE=>?_,λj hj qE=>?_,aO⟩
   ·have qE:j*p<a+p:=qE
    by_cases e:j=k
    ·subst e;rw[<-ha,Nat.min_eq_left mw];exact Hn
    have wR:j<k+1:=by rw[<-q3]at qE;exact Nat.lt_of_mul_lt_mul_right qE
    have h6:j*p<k*p:=Nat.mul_lt_mul_of_pos_right ac ac;have h7:=ZO h6;exact(Ox j (bl _) (by rw[ha];exact h6)).congr λx h h'=>Bf.out x (.inl ac)
   have hj:a+p<=j*s:=hj;exact(JK j ac qE).congr λx h h'=>Bf.out x (.inr ac)
  have mw:n<a+p:=by omega
  have key:∀c5:List aE,RP c4 c5 a n->SR dM c5 a n->xJ dM c5 n p 0 n:=λc5 Bf Hn j hj qE=>by
   by_cases e:j=k
   ·subst e;rw[<-ha,Nat.min_eq_right (by omega)];exact Hn
   have wR:j<k+1:=by
    have:j*p<(k+1)*p:=by rw[q3];omega
    exact Nat.lt_of_mul_lt_mul_right this
   have h6:j*p<k*p:=Nat.mul_lt_mul_of_pos_right ac ac;have h7:=ZO h6;exact(Ox j (bl _) (by rw[ha];exact h6)).congr λx h h'=>Bf.out x (.inl ac)
  refine ba O (bc (bY O (aJ O (ay O ?_))));refine aK _ O (λh4=>?_) (λh4=>?_)
  ·have m1:=D1 ac;have m2:=D2 ac;rw[Nat.min_eq_left (by omega)]at m1;rw[Nat.min_eq_right (by omega)]at m2;refine aC O (aI (abF ac n a (a+s) n ac ac ac (cJ _) c4 _ WT m1 m2 aU) O ?_);rintro _ w5 ⟨rfl,c5,Bf,Hn,aO⟩;refine aq O (ak.mul O O O ac (aN O (tQ ?_)));exact⟨(p,c5),by show 2*n+20-p<2*n+20-s;omega,⟨O,O,O,by show Value.int .i64 ((s:Int)*2)=aj p;congr 1;omega,au⟩,⟨by show 0<p;omega,by show p<=2*n+20;omega⟩,Bf.perm.trans Ha,key c5 Bf Hn,aO⟩
  have hs4:SR dM c4 a n:=by
   by_cases h5:a<n
   ·have:=D1 h5
    rwa[Nat.min_eq_right (by omega)]at this
   exact SR.one _ _ ac
  refine aC O (ak.mul O O O ac (aN O (tQ ?_)));exact⟨(p,c4),by show 2*n+20-p<2*n+20-s;omega,⟨O,O,O,by show Value.int .i64 ((s:Int)*2)=aj p;congr 1;omega,au⟩,⟨by show 0<p;omega,by show p<=2*n+20;omega⟩,Ha,key c4 (RP.refl _ _ _) hs4,aU⟩
 refine ba O (bc (vZ O ?_));exact qU ⟨O,c3,Be,ia.done ac,aM⟩
theorem arF{w0 w:aa}{ks:List Ck}{t:ad}{A:ai}{n c:Nat}{ds:List aE}(hn:n<=1000000000000)(hc:∀s∈ds,s.n<=9223372036854775807)(hS:St w0 w (aX t A n c ds::ks)):
 aF prog 151 [.slice A n c,.func (.func 152) #[] #[]] w (λv w'=>v=.tuple #[]/\∃nH,nH.Perm ds/\SR dM nH 0 n/\St w0 w' (aX t A n c nH::ks)):=by
 refine bn func151 O ntmps151 O (vM O) ?_;refine aY O (aR O O (aq O ?_));refine aI (arR hn hc hS) O ?_;rintro _ w1 ⟨rfl,nH,h1,h2,h3⟩;refine aN O (qU ?_);exact⟨O,nH,h1,h2,h3⟩
theorem aoV{α β:Type}(f:β->α){l l':List α}(h:l.Perm l'):∀q:List β,l=q.map f->∃q':List β,q'.Perm q/\l'=q'.map f:=by
 induction h with
 |nil=>exact λq e=>⟨[],by rw[List.map_eq_nil_iff.1 e.symm],rfl⟩
 |cons x _ ih=>
  intro q e
  match q,e with
  |b::r,e=>
   simp only[List.map_cons,List.cons.injEq]at e;obtain⟨q',h1,h2⟩:=ih r e.2;exact⟨b::q',h1.cons b,by rw[List.map_cons,e.1,h2]⟩
 |swap x y l=>
  intro q e
  match q,e with
  |b::c::r,e=>
   simp only[List.map_cons,List.cons.injEq]at e;exact⟨c::b::r,List.Perm.swap _ _ _,by simp[e.1,e.2.1,e.2.2]⟩
 |trans _ _ KZ xj=>
  intro q e;obtain⟨q1,h1,e1⟩:=KZ q e;obtain⟨q2,h2,e2⟩:=xj q1 e1;exact⟨q2,h2.trans h1,e2⟩
theorem ZC{α:Type}(d:α)(l:List α):l=(List.range l.length).map λi=>l.getD i d:=by
 apply iC
 ·simp
 intro i h1 h2;simp[b5,h1]
theorem aoS{α:Type}(d:α){l l':List α}(h:l'.Perm l):∃q:List Nat,q.Perm (List.range l.length)/\l'=q.map λi=>l.getD i d:=
 aoV _ h.symm _ (ZC d l)
theorem arW{q:List Nat}{n:Nat}(hn:q.Nodup)(hq:∀i∈q,i<n):∃s:List Nat,s.Sublist (List.range n)/\q.Perm s:=by
 refine⟨(List.range n).filter λi=>decide (i∈q),List.filter_sublist,?_⟩;refine(List.perm_ext_iff_of_nodup hn (List.nodup_range.filter _)).2 λi=>?_
 simp only[fM,fo,k5];exact⟨λh=>⟨hq i h,h⟩,λh=>h.2⟩
theorem aaU(t2:ad){rs:List aE}{xss:ag}(h:rs.length=xss.length):cC t2 rs xss=(List.range rs.length).map λi=>av t2 (rs.getD i bI).a (rs.getD i bI).n (rs.getD i bI).c (xss.getD i []):=by
 apply List.ext_getElem?;intro i
 by_cases hi:i<rs.length
 ·rw[BC h hi];simp[hi]
 rw[oP (by rw[xA h];omega),oP (by simp;omega)]
theorem St.pick{w0 w:aa}{pre:List Ck}{t2:ad}{rs:List aE}{xss:ag}(h:St w0 w (pre++cC t2 rs xss))(hl:rs.length=xss.length){q:List Nat}(hn:q.Nodup)(hq:∀i∈q,i<rs.length):
 St w0 w (pre++cC t2 (q.map λi=>rs.getD i bI) (q.map λi=>xss.getD i [])):=by
 obtain⟨s,hs,hp⟩:=arW hn hq;have e:cC t2 (q.map λi=>rs.getD i bI) (q.map λi=>xss.getD i [])=q.map λi=>av t2 (rs.getD i bI).a (rs.getD i bI).n (rs.getD i bI).c (xss.getD i []):=by
  rw[aaU t2 (by simp)];apply List.ext_getElem?;intro i
  by_cases hi:i<q.length
  ·simp[hi]
  simp[hi]
 rw[e];have h1:=h;rw[aaU t2 hl]at h1;have h2:(pre++s.map λi=>av t2 (rs.getD i bI).a (rs.getD i bI).n (rs.getD i bI).c (xss.getD i [])).Sublist (pre++(List.range rs.length).map λi=>av t2 (rs.getD i bI).a (rs.getD i bI).n (rs.getD i bI).c (xss.getD i [])):=
  List.Sublist.append_left (hs.map _) _
 exact(h1.sub h2).perm ((List.perm_append_left_iff _).2 (hp.symm.map _))
def ze(z:ah)(k:Nat):ag:=(List.range k).flatMap (dT z)
theorem aoF(z:ah)(k:Nat):ze z (k+1)=ze z k++dT z k:=by simp[ze,lK,List.flatMap_append]
theorem aoE(z:ah):ze z (z.length+1)=vh z:=rfl
theorem ab9(A:ai)(n c:Nat)(rs:List aE)(w:aa)(hR:fu w A n rs)(hn:n<=1000000000):aF prog 150 [.slice A n c] w (λv w'=>∃A' c',v=.slice A' n c'/\St w w' [aX 27 A' n c' rs]):=by
 cases hA:A with
 |none=>
  subst hA;have pP:n=0:=by
   apply qi;intro h;obtain⟨p,hp,_⟩:=hR.2 0 ac;simp[aH]at hp
  subst pP;have hx:rs=[]:=iL hR.1;subst hx;refine bn func150 O ntmps150 O (bM O) (aY O (BU O O O (ay O (Cd.iw O (dE O (dV O ?_))))));exact⟨none,0,O,(St.refl w).nil _⟩
 |some a=>
  subst hA;refine bn func150 O ntmps150 O (bM O) (aY O (BU O O O (ay O (Cd.cX O (aC O (jy (St.refl w) O ?_))))));intro A1 w1 ax;have ax:St w w1 [aX 27 A1 0 0 []]:=ax;refine aq O (iT 0 ax O (ax.pc hR) O O O ac ac O ?_);intro A2 c2 w2 az;rw[Nat.zero_add]at az|-;refine bR O (dV O ?_);exact⟨A2,c2,O,az⟩
theorem Rs:∀(l:ah)(k:Nat),(dT l k).length<=2^l.length
 |l,0=>by simpa[dT]using Nat.one_le_two_pow
 |[],k+1=>by simp[dT]
 |x::r,k+1=>by
  have h1:=Rs r k;have h2:=Rs r (k+1);rw[dT,cj,jd,List.length_cons,Nat.pow_succ];omega
theorem vO{l:ah}(k:Nat)(h:l.length<=6):(dT l k).length<=64:=by
 have h1:=Rs l k;have h2:2^l.length<=2^6:=Nat.pow_le_pow_right am h;have h3:2^6=64:=by decide
 omega
theorem HS:∀(k:Nat)(A:ai)(n c:Nat)(xs:ah)(w:aa),bu w A n xs->n<=c->n<=6->k<=7->
 aF prog 110 [.slice A n c,aj k] w (λv w'=>∃A' c' rs',v=.slice A' (dT xs k).length c'/\rs'.length=(dT xs k).length/\St w w' (aV 27 2 A' (dT xs k).length c' rs' (dT xs k)++[])):=by
 intro k
 induction k with
 |zero=>
  intro A n c xs w hR hc hn hk;refine bn func110 O ntmps110 O (bM O) (bC O ?_);refine aK _ O (λh1=>?_) (λh1=>absurd O h1);refine aC O (jW (St.refl w) O O O ?_);intro A1 w1 ax;refine bR O (dV O ?_);have e0:dT xs 0=[[]]:=by cases xs<;>rfl
  rw[e0];exact⟨A1,1,[bI],O,O,xu 1 ax⟩
 |succ k ih=>
  intro A n c xs w hR hc hn hk;have cT:xs.length=n:=hR.1;have hsm:=vO (l:=xs) (k+1) ac;refine bn func110 O ntmps110 O (bM O) (bC O ?_);refine auT O (λh1=>absurd h1 ac) (aC O (aR O O (aq O (cV O (aJ O (ay O ?_))))));refine Cd.loop (α:=Nat×ai×Nat×List aE×ag) (λz=>[(0,.slice A n c),(1,aj ((k+1:Nat):Int)),(5,.slice z.2.1 z.2.2.2.2.length z.2.2.1),(16,aj ((n:Int)-((k+1:Nat):Int)+1)),(17,aj (z.1:Int))])
   (λz w'=>z.1<=n+1/\z.2.2.2.2++dT (xs.drop z.1) (k+1)=dT xs (k+1)/\z.2.2.2.1.length=z.2.2.2.2.length/\St w w' (aV 27 2 z.2.1 z.2.2.2.2.length z.2.2.1 z.2.2.2.1 z.2.2.2.2++[])) (λz=>n+1-z.1) (0,none,0,[],[]) ⟨rfl,rfl,rfl,rfl,rfl,au⟩ ⟨bl _,by show[]++dT (xs.drop 0) (k+1)=_;rw[List.drop_zero,List.nil_append],rfl,(St.refl w).nil _⟩ ?_
  rintro⟨i,A5,c5,js,L⟩ e w1 ⟨hi,hL,bT,ax⟩;dsimp only at hi hL bT ax|-;refine bC O (aK _ O (λh2=>?_) (λh2=>?_))
  ·have cE:i<xs.length:=by omega
   have pB:L.length<=64:=by have:=aQ List.length hL;rw[cj]at this;omega
   rw[aph cE,<-ef]at hL;have hd:=(hR.ao ax.below).drop (l:=i+1) ac hc;have GH:(xs.drop (i+1)).length=n-(i+1):=by rw[List.length_drop,cT]
   refine aC O (aJ O ?_);refine uY (l:=((i+1:Nat):Int)) O O O ac (aq O (cV O ?_));refine auM (ih (cutAt A c (i+1)) (n-(i+1)) (c-(i+1)) (xs.drop (i+1)) _ hd ac ac ac) O (by show[_,Value.int .i64 (((k+1:Nat):Int)-1)]=_;congr 3;omega) O ?_;rintro _ w2 ⟨A6,c6,dI,rfl,Yc,nL⟩;have yi:=vO (l:=xs.drop (i+1)) k ac;have hNs:∀r∈dT (xs.drop (i+1)) k,r.length<=6:=λr hr=>by
    have:=(oF.1 hr).1.length_le;omega
   generalize hN:dT (xs.drop (i+1)) k=N at*;have az:St w w2 (aV 27 2 A5 L.length c5 js L++(aV 27 2 A6 N.length c6 dI N++[])):=by
    have:=(ax.call nL).perm gL;simpa using this
   refine aR O O (ay O ?_);refine Cd.loop (α:=Nat×ai×Nat×List aE) (λz=>[(0,.slice A n c),(1,aj ((k+1:Nat):Int)),(5,.slice z.2.1 (L.length+z.1) z.2.2.1),(6,aj i),(16,aj ((n:Int)-((k+1:Nat):Int)+1)),(17,aj i),(26,.slice A6 N.length c6),(27,aj (N.length:Int)),(28,aj (z.1:Int))])
    (λz w'=>z.1<=N.length/\z.2.2.2.length=L.length+z.1/\St w w' (aV 27 2 z.2.1 (L.length+z.1) z.2.2.1 z.2.2.2 (L++(N.take z.1).map (gi xs i:: ·))++(aV 27 2 A6 N.length c6 dI N++[]))) (λz=>N.length-z.1) (0,A5,c5,js) ⟨rfl,rfl,rfl,rfl,rfl,rfl,rfl,rfl,rfl,au⟩ ⟨bl _,by show js.length=L.length+0;omega,by show St w w2 (aV _ _ A5 (L.length+0) c5 js (L++(N.take 0).map _)++_);rw[List.take_zero,List.map_nil,dQ];exact az⟩ ?_
   rintro⟨j,A7,c7,xC⟩ e w3 ⟨hj,X6,aM⟩;dsimp only at hj X6 aM|-;have tW:∀w',St w w' (aV 27 2 A7 (L.length+j) c7 xC (L++(N.take j).map (gi xs i:: ·))++(aV 27 2 A6 N.length c6 dI N++[]))->bH w' A6 N.length dI N:=λw' h=>(h.sub (fj _ _)).fO O
   have JQ:(L++(N.take j).map (gi xs i:: ·)).length=L.length+j:=by simp;omega
   refine bC O (aK _ O (λh3=>?_) (λh3=>?_))
   ·have lV:j<N.length:=by omega
    have hM:=tW _ aM;have br:=hM.at_ (i:=(j:Int)) ac ac;have bT:=br.1;have hsm7:=hNs (gl N j) (by rw[df lV];exact dt _);have jg:=hR.ao aM.below;have kH:L++(N.take (j+1)).map (gi xs i:: ·)=(L++(N.take j).map (gi xs i:: ·))++[gi xs i::gl N j]:=by rw[nV lV,iE,ef];rfl
    generalize hL':L++(N.take j).map (gi xs i:: ·)=L' at*;refine aC O (aA hM.top.2 O (bw hM.top O (aq O (aA jg.2 O (bg jg O (eh aM O O O ?_))))));intro A8 w4 aU;refine aq O (eQ 0 aU O ((tW _ aU.tail).at_ (i:=(j:Int)) ac ac) O O O ?_);intro A9 c9 w5 aO;have aO:St w w5 (av 2 A9 (1+(rg dI j).n) c9 ([gi xs i]++gl N j)::(aV 27 2 A7 (L.length+j) c7 xC L'++(aV 27 2 A6 N.length c6 dI N++[]))):=aO;refine jW aO O O O λfC w6 bk=>iT 2 bk O (bk.dm 0 O) O O O ac ac O ?_;intro eP iW w7 bp;have bp:St w w7 (aX 27 fC 1 1 [⟨A9,1+(rg dI j).n,c9⟩]::av 2 A9 (1+(rg dI j).n) c9 ([gi xs i]++gl N j)::aX 27 eP (L.length+j+1) iW (xC++[⟨A9,1+(rg dI j).n,c9⟩])::(cC 2 xC L'++(aV 27 2 A6 N.length c6 dI N++[]))):=bp;have bB:St w w7 (aV 27 2 eP (L.length+(j+1)) iW (xC++[⟨A9,1+(rg dI j).n,c9⟩]) (L'++[gi xs i::gl N j])++(aV 27 2 A6 N.length c6 dI N++[])):=by
     refine bp.tail.perm ?_;unfold aV;rw[tA (by omega)];refine(List.Perm.swap _ _ _).trans (List.Perm.cons _ ?_);show(_::(cC 2 xC L'++_)).Perm ((cC 2 xC L'++[_])++_);rw[ef];exact mO.symm
    refine aq O (aJ O (aN O (tQ ?_)));exact⟨(j+1,eP,iW,xC++[⟨A9,1+(rg dI j).n,c9⟩]),by show N.length-(j+1)<N.length-j;omega,(auV O),by show j+1<=N.length;omega,by show(xC++[_]).length=L.length+(j+1);simp;omega,by rw[kH];exact bB⟩
   ·have qF:j=N.length:=by omega
    subst qF;rw[List.take_length]at aM JQ;refine ba O (bc (bY O (aJ O (aN O (tQ ?_)))));refine⟨(i+1,A7,c7,xC,L++N.map (gi xs i:: ·)),by show n+1-(i+1)<n+1-i;omega,⟨O,O,by show Value.slice A7 (L.length+N.length) c7=.slice A7 (L++N.map (gi xs i:: ·)).length c7;rw[JQ],O,O,au⟩,by show i+1<=n+1;omega,hL,by rw[JQ];exact X6,?_⟩;rw[JQ];have:=aM.sub (ny _ _)
    rwa[dQ]
  ·have ow:dT (xs.drop i) (k+1)=[]:=aaz (by rw[List.length_drop];omega);rw[ow,dQ]at hL;subst hL;refine ba O (bc (ew O ?_));exact dV O ⟨A5,c5,js,O,bT,ax⟩
end
end Go.Proofs.YtimbpgackifflaaGreatDoor.Vc
