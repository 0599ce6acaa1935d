/-
 Lemmas. Conditions: as each states them.
-/
import Derived.Test.YtagdamiiececaaaGreatDoorLay
import Derived.Shelf.SortM.Plain
import Derived.Test.YtagdamiiececaaaGreatDoorZc
set_option maxHeartbeats 8000000
namespace Go.Proofs.YtagdamiiececaaaGreatDoor.Vc
open Tryz
section
open Go.RowKit Go.Sort
variable{w w0:aa}{off:Nat}
theorem OO{g n:Nat}{os:Array Obj}{cur:Array ab}{e:ad}{fr:Nat×Nat}(d:Array Int)(hb:w.heap[g]?=some (.cells cur e fr)):(Go.Sort.grow (putRow (Value.int .i64) (Sort.ahead w n) g off d) os).heap[g]?=some (.cells (putCells (Value.int .i64) off d cur) e fr):=by
 have hg:g<w.heap.size:=(Array.getElem?_eq_some_iff.1 hb).1;rw [heap_grow_old _ _ (by simpa using hg)];simp [putRow,mapBlock,Sort.ahead,Array.getElem?_modify,hb,onCells]
theorem Ns{g n:Nat}{os:Array Obj}(d:Array Int):u7 w (Go.Sort.grow (putRow (Value.int .i64) (Sort.ahead w n) g off d) os) (some g):=by
 refine⟨⟨O,O,O,by simp,fun k hk cG=>?_⟩,Nat.le_add_right _ _⟩;rw [heap_grow_old _ _ (by simpa using hk)];have:g≠k:=fun e=>cG (by rw [e])
 simp [putRow,mapBlock,Sort.ahead,Array.getElem?_modify,this]
theorem T1{ks:List Ck}(i:Nat){t:ad}{A:ai}{n c:Nat}{xs:ah}(hS:St w0 w ks)(hk:ks[i]?=some (aE t A n c xs))(h0:0<n)(hn:n<=1000000000):
 aG prog 130 [.slice A n c] w (fun v w'=>v= .tuple #[]/\St w0 w' (ks.set i (aE t A n c (jw xs)))):=by
 obtain⟨h1,h2,h3,h4⟩:=hS.mE hk (nK _);have hl:xs.length=n:=hS.rL i hk;have h2:n<=c:=h2;rcases h4 with⟨_,ky⟩ | ⟨g,o,cur,hA,hg,hh,hs,hc⟩
 ·have ky:c=0:=ky;omega
 have hA:A=some ⟨g,o,none⟩:=hA;have hs:o+c<=cur.size:=hs;have hc:∀j,j<n->cur[o+j]?=(xs.map (Value.int .i64))[j]?:=hc;subst hA;subst hl;have hH:Holds (Value.int .i64) w g o xs.toArray:=fun j hj=>by
  have eV:j<xs.length:=by simpa using hj
  refine⟨?_,by simp [World.frozen?,hh]⟩;simp only [World.cell?,hh];simp only [Option.isSome_none,Bool.false_eq_true,if_false];rw [hc j eV];simp [eV]
 have cW:g<w.heap.size:=(Array.getElem?_eq_some_iff.1 hh).1;have key:=AnyM.slices_Sort_int IU g o c xs w hH cW (by omega);refine Calls.mono key fun x w' ⟨hx,m,os,hw⟩=> ⟨_,hx,O,?_⟩
 subst hw;have yM:(jw xs).length=xs.length:=(Em xs).length_eq;refine hS.turn hk O O (Ns _) (.mU (nK _) ⟨by simp [yM],h2,h3,.inr ⟨g,o,_,O,hg,OO _ hh,by simp only [putCells,Array.size_mapIdx];exact hs,fun j hj=>?_⟩⟩);have hj:j<xs.length:=hj;show(putCells (Value.int .i64) o (jw xs).toArray cur)[o+j]?=((jw xs).map (Value.int .i64))[j]?;have v8:o+j<cur.size:=by have:xs.length<=c:=h2;omega
 simp [putCells,v8,yM,hj]
end
section
open Go.RowKit
variable{i j:Nat}
theorem xb{α:Type}{l:List α}{x:α}(h:l[i]?=some x):l.set i x=l:=by
 apply List.ext_getElem?;intro j;rw [jy]
 split
 ·rename_i e;subst e;rw [aF (fu.1 h).1,h]
 rfl
theorem jf{w:aa}{A:ai}{n:Nat}{f:Nat->ab}(h:Rd w A (n+1) f):Rd w A 1 (fun _=>f 0):=fun j hj=>by
 obtain rfl:j=0:=by omega
 exact h 0 (by omega)
def marks(k:Int)(n:Nat):ah:=(List.range n).map fun j:Nat=>k+ (j:Int)
theorem IY(k:Int)(n:Nat):(marks k n).length=n:=by simp [marks]
theorem Sf{k:Int}{n:Nat}(h:j<n):gi (marks k n) j=k+j:=by simp [gi,marks,bX,h]
theorem Sc{w0 w:aa}{ks:List Ck}(i:Nat){t:ad}{A:ai}{n c:Nat}{xs:ah}(k:Int)(hS:St w0 w ks)(hk:ks[i]?=some (aE t A n c xs))(jW:0<=k/\k+n<=4611686018427387904):
 aG prog 142 [.slice A n c,aj k] w (fun v w'=>v=aj (k+n)/\St w0 w' (ks.set i (aE t A n c (marks k n)))):=by
 have lW:i<ks.length:=(fu.1 hk).1;have eW:xs.length=n:=hS.rL i hk;have get:∀l,(ks.set i (aE t A n c l))[i]?=some (aE t A n c l):=fun l=>by simp [lW]
 have nz:St w0 w (ks.set i (aE t A n c xs)):=by rwa [xb hk]
 refine bs func142 O ntmps142 O (bF O) (bH O ?_);refine Cd.loop (α:=Nat×ah) (fun z=> [(0,.slice A n c),(1,aj (k+ (z.1:Int))),(5,aj (z.1:Int))]) (fun z w'=>St w0 w' (ks.set i (aE t A n c z.2))/\z.1<=n/\z.2.length=n/\∀j,j<z.1->z.2[j]?=some (k+ (j:Int))) (fun z=>n - z.1) (0,xs) ⟨O,by show Value.int .i64 _=aj _;simp,O,av⟩ ⟨nz,bk _,eW,fun j hj=>by omega⟩ ?_;rintro⟨m,l⟩ e w1 ⟨aD,hm,qb,hK⟩;dsimp only at aD hm qb hK|-;refine aY O (aR O O (aA O ?_));refine aJ _ O (fun h1=>?_) (fun h1=>?_)
 ·refine aC O (aw (aD.bU i (get l)).2 O (ak.mg i aD (get l) O O (by omega) ?_));intro w2 ay;rw [List.set_set]at ay;refine aq O (aI O (aq O (aI O (aM O (tQ ?_)))));refine⟨(m+1,l.set m (k+m)),by show n - (m+1)<n - m;omega,⟨O,by show Value.int .i64 _=aj _;congr 1;show _=k+ ((m+1:Nat):Int);omega,O,av⟩,ay,by show m+1<=n;omega,by show(l.set m _).length=n;rw [iS];exact qb,fun j hj=>?_⟩;show(l.set m (k+m))[j]?=_;rw [jy]
  by_cases ej:m=j
  ·subst ej;rw [aF rfl,aF (by omega)]
  rw [aB ej];exact hK j (by have:j<m+1:=hj;omega)
 refine bj O (bl (dd O ?_));refine eF O ?_;have k4:m=n:=by omega
 subst k4;have he:l=marks k m:=by
  apply List.ext_getElem?;intro j
  by_cases hj:j<m
  ·rw [hK j hj];simp [marks,hj]
  rw [oP (by omega),oP (by rw [IY];omega)]
 subst he;exact⟨O,aD⟩
theorem OP(A:ai)(n c:Nat)(k:Int)(w:aa)(hR:bS w A n (marks k n))(jW:0<=k/\k+n<=4611686018427387904):
 aG prog 143 [.slice A n c,aj k] w (fun v w'=>v=aj (k+n)/\w'=w):=by
 refine bs func143 O ntmps143 O (bF O) (bH O ?_);refine Cd.loop (α:=Nat) (fun z=> [(0,.slice A n c),(1,aj (k+ (z:Int))),(5,aj z)]) (fun z w'=>w'=w/\z<=n) (fun z=>n - z) 0 ⟨O,by show Value.int .i64 _=aj _;simp,O,av⟩ ⟨O,bk _⟩ ?_;rintro m e w ⟨rfl,hm⟩;refine aY O (aR O O (aA O ?_));refine aJ _ O (fun h1=>?_) (fun h1=>?_)
 ·have hg:=Sf (k:=k) (n:=n) (j:=m) (by omega);refine aC O (aw hR.2 O (a6 hR O ?_));rw [hg];refine aA O (kJ O (fun h=>h O) (aC O (aI O (aq O (aI O (aM O (tQ ?_)))))));exact⟨m+1,by show n - (m+1)<n - m;omega,⟨O,by show Value.int .i64 _=aj _;congr 1;show _=k+ ((m+1:Nat):Int);omega,O,av⟩,O,by show m+1<=n;omega⟩
 refine bj O (bl (dd O ?_));refine eF O ?_;have k4:m=n:=by omega
 subst k4;exact⟨O,O⟩
section
variable {P:Program} {N:Nat} {ops:Array Oper} {K:Env->aa->Prop} {rest:List Oper} {e:Env} {w:aa} {d:Nat} {ty:ad} {pos:String} {af:Array Edge}
theorem KQ{F:FuncId}{x:ae}{v1:ab}(hx:ev e x=v1)(hb:Nat.blt d N=true)(hK:ak P N ops K rest (br e d (.func (.func F) #[] #[v1])) w):
 ak P N ops K (⟨some d,.makeFunc (.func F) #[] #[x],ty,pos,af,none⟩::rest) e w:=
 .val (by simp [execOp,Instr.makeFunc,hx]) hb hK
end
theorem Ng(l:ah)(i:Nat):gi (l.drop i) 0=gi l i:=by simp [gi,bX,List.getElem?_drop]
theorem K1{w0 w:aa}{ks:List Ck}{i:Nat}{t:ad}{A:ai}{n c l:Nat}{xs:ah}(hS:St w0 w ks)(hk:ks[i]?=some (aE t A n c xs))(hl:l<=n):St w0 w (ks.set i (aE t (cutAt A c l) (n - l) (c - l) (xs.drop l))):=by
 have eW:=hS.rL i hk;obtain⟨h1,h2,h3,h4⟩:=hS.mE hk (nK _);have h2:n<=c:=h2;have h3:c<=maxLen:=h3;rcases h4 with⟨hA,ky⟩ | ⟨g,o,cur,hA,hg,hh,hs,hc⟩
 ·have hA:A=Option.none:=hA;have ky:c=0:=ky;subst hA ky;obtain rfl:n=0:=by omega
  obtain rfl:l=0:=by omega
  obtain rfl:=nZ eW;have e:cutAt Option.none 0 0=Option.none:=O;rw [e];show St w0 w (ks.set i (aE t Option.none 0 0 []));rw [xb hk];exact hS
 have hA:A=some ⟨g,o,Option.none⟩:=hA;have hs:o+c<=cur.size:=hs;have hh:w.heap[g]?=some (.cells cur t (0,0)):=hh;have hc:∀j,j<n->cur[o+j]?=(xs.map (Value.int .i64))[j]?:=hc;subst hA;have o5:∃o',cutAt (some ⟨g,o,Option.none⟩) c l=some ⟨g,o',Option.none⟩/\o'+ (c - l)<=cur.size/\(0<n - l->o'=o+l):=by
  unfold cutAt
  split
  ·exact⟨o,O,by omega,fun h=>by omega⟩
  exact⟨o+l,by simp [az,vj],by omega,fun _=>O⟩
 obtain⟨o',e1,e2,e3⟩:=o5;refine hS.turn hk O (by simp [Ck.fw,e1]) ⟨⟨O,O,O,cO _,fun _ _ _=>O⟩,cO _⟩ (.mU (nK _) ⟨by simp [eW],by show n - l<=c - l;omega,by show c - l<=maxLen;omega,.inr ⟨g,o',cur,e1,hg,hh,e2,fun j hj=>?_⟩⟩);have hj:j<n - l:=hj;show cur[o'+j]?=((xs.drop l).map (Value.int .i64))[j]?;rw [e3 (Nat.zero_lt_of_lt hj),Nat.add_assoc,hc (l+j) (Nat.add_lt_of_lt_sub' hj)];simp [List.getElem?_drop]
theorem IJ{a b:ah}{k:Nat}(ha:k<a.length)(hb:k<b.length):eo (a.drop k) (b.drop k)=if ji (gi a k) (gi b k)=0 then eo (a.drop (k+1)) (b.drop (k+1))else ji (gi a k) (gi b k):=by
 rw [List.drop_eq_getElem_cons ha,List.drop_eq_getElem_cons hb,bQ ha,bQ hb]
 rfl
theorem II{a b:ah}{k:Nat}(ha:k<a.length)(hb:b.length<=k):eo (a.drop k) (b.drop k)=1:=by
 rw [List.drop_eq_getElem_cons ha,List.drop_of_length_le hb]
 rfl
theorem IH{a b:ah}{k:Nat}(ha:a.length<=k):eo (a.drop k) (b.drop k)=if k<b.length then -1 else 0:=by
 rw [List.drop_of_length_le ha]
 split
 ·rename_i h;rw [List.drop_eq_getElem_cons h]
  rfl
 rename_i h;rw [List.drop_of_length_le (by omega)]
 rfl
theorem IG{a b:ag}{k:Nat}(ha:k<a.length)(hb:k<b.length):df (a.drop k) (b.drop k)=if eo (gl a k) (gl b k)=0 then df (a.drop (k+1)) (b.drop (k+1))else eo (gl a k) (gl b k):=by
 rw [List.drop_eq_getElem_cons ha,List.drop_eq_getElem_cons hb,cQ ha,cQ hb]
 rfl
theorem R1{a b:ag}{k:Nat}(ha:k<a.length)(hb:b.length<=k):df (a.drop k) (b.drop k)=1:=by
 rw [List.drop_eq_getElem_cons ha,List.drop_of_length_le hb]
 rfl
theorem IF{a b:ag}{k:Nat}(ha:a.length<=k):df (a.drop k) (b.drop k)=if k<b.length then -1 else 0:=by
 rw [List.drop_of_length_le ha]
 split
 ·rename_i h;rw [List.drop_eq_getElem_cons h]
  rfl
 rename_i h;rw [List.drop_of_length_le (by omega)]
 rfl
theorem Ij(x:Int)(w:aa):aG prog 233 [aj x] w (fun v w'=>v= .bool false/\w'=w):=by
 refine bs func233 O ntmps233 O (bF O) (zF O (bG O ?_));exact⟨by simp,O⟩
theorem L5(x y:Int)(w:aa):aG prog 260 [aj x,aj y] w (fun v w'=>v=aj (ji x y)/\w'=w):=by
 refine bs func260 O ntmps260 O (bF O) (aY O (aO (Ij _ _) O ?_));rintro _ w ⟨rfl,rfl⟩;refine aq O (aO (Ij _ _) O ?_);rintro _ w ⟨rfl,rfl⟩;refine aA O (Cd.dO O (cj O (Cd.dO O (cj O ?_))));refine aJ _ O (fun h1=>?_) (fun h1=>?_)
 ·refine bV O (eF O ?_);exact⟨by rw [ji,aF h1],O⟩
 refine cj O (aJ _ O (fun h2=>?_) (fun h2=>?_))
 ·refine bV O (eF O ?_);exact⟨by rw [ji,aB h1,aF h2],O⟩
 refine bV O (eF O ?_);exact⟨by rw [ji,aB h1,aB h2],O⟩
theorem Ks(A:ai)(n c:Nat)(xs:ah)(A':ai)(n' c':Nat)(ys:ah)(w:aa)(hX:bS w A n xs)(hY:bS w A' n' ys)(hn:n<=9223372036854775807):
 aG prog 203 [.slice A n c,.slice A' n' c'] w (fun v w'=>v=aj (eo xs ys)/\w'=w):=by
 have eW:=hX.1;have rH:=hY.1;refine bs func203 O ntmps203 O (bF O) ?_;refine aY O (aR O O (aA O ?_));refine Cd.loop (α:=Nat) (fun k=> [(0,.slice A n c),(1,.slice A' n' c'),(9,.slice A n c),(10,aj n),(11,aj k)]) (fun k w'=>w'=w/\k<=n/\k<=n'/\eo xs ys=eo (xs.drop k) (ys.drop k)) (fun k=>n - k) 0 (Wn O) ⟨O,bk _,bk _,O⟩ ?_;rintro k e w ⟨rfl,hk,cE,hK⟩;refine bH O (aJ _ O (fun h1=>?_) (fun h1=>?_))
 ·refine aC O (aw hX.2 O (a6 hX O ?_));refine aq O (aR O O (aA O ?_));refine aJ _ O (fun h2=>?_) (fun h2=>?_)
  ·refine bV O (cy (b9 ?_));refine eF O ?_;exact⟨by rw [hK,II (by omega) (by omega)],O⟩
  rw [IJ (by omega) (by omega)]at hK;refine aC O (aw hY.2 O (a6 hY O (aq O (aO (L5 _ _ _) O ?_))));rintro _ w ⟨rfl,rfl⟩;refine aA O (aJ _ O (fun h3=>?_) (fun h3=>?_))
  ·refine bV O (cy (b9 ?_));refine eF O ?_;exact⟨by rw [hK,aB h3],O⟩
  rw [aF (fp.1 h3)]at hK;refine aC O (aI O (aM O (tQ ?_)));exact⟨k+1,by show n - (k+1)<n - k;omega,(Wn O),O,by omega,by omega,hK⟩
 rw [IH (by omega)]at hK;have dQ:k=n:=by omega
 subst dQ;refine bj O (bl (cn O (aR O O (aq O (aR O O (aA O ?_))))));refine aJ _ O (fun h2=>?_) (fun h2=>?_)
 ·refine bV O (eF O ?_);exact⟨by rw [hK,aF (by omega)],O⟩
 refine bV O (eF O ?_);exact⟨by rw [hK,aB (by omega)],O⟩
theorem Kr(A:ai)(n c:Nat)(rs:List aH)(xss:ag)(A':ai)(n' c':Nat)(rs':List aH)(fZ:ag)(w:aa)(hX:bu w A n rs xss)(hY:bu w A' n' rs' fZ)(hn:n<=9223372036854775807):
 aG prog 202 [.slice A n c,.slice A' n' c',.func (.func 203) #[] #[]] w (fun v w'=>v=aj (df xss fZ)/\w'=w):=by
 have eW:=hX.len;have rH:=hY.len;refine bs func202 O ntmps202 O (bF O) ?_;refine aY O (aR O O (aA O ?_));refine Cd.loop (α:=Nat) (fun k=> [(0,.slice A n c),(1,.slice A' n' c'),(2,.func (.func 203) #[] #[]),(11,.slice A n c),(12,aj n),(13,aj k)]) (fun k w'=>w'=w/\k<=n/\k<=n'/\df xss fZ=df (xss.drop k) (fZ.drop k)) (fun k=>n - k) 0 (Wn O) ⟨O,bk _,bk _,O⟩ ?_;rintro k e w ⟨rfl,hk,cE,hK⟩;refine bH O (aJ _ O (fun h1=>?_) (fun h1=>?_))
 ·have HV:=hX.at_ (i:=(k:Int)) (by omega) h1;have sO:=hX.jv (k:=(k:Int)) (by omega) h1;have fF:=hX.cap_ (i:=(k:Int)) (by omega) h1;refine aC O (aw hX.top.2 O (bn hX.top O ?_));refine aq O (aR O O (aA O ?_));refine aJ _ O (fun h2=>?_) (fun h2=>?_)
  ·refine bV O (cy (b9 ?_));refine eF O ?_;exact⟨by rw [hK,R1 (by omega) (by omega)],O⟩
  rw [IG (by omega) (by omega)]at hK;have nI:=hY.at_ (i:=(k:Int)) (by omega) (by omega);refine aC O (aw hY.top.2 O (bn hY.top O (aq O (aO (Ks _ _ _ _ _ _ _ _ _ HV nI (by omega)) O ?_))));rintro _ w ⟨rfl,rfl⟩;refine aA O (aJ _ O (fun h3=>?_) (fun h3=>?_))
  ·refine bV O (cy (b9 ?_));refine eF O ?_;exact⟨by rw [hK,aB h3],O⟩
  rw [aF (fp.1 h3)]at hK;refine aC O (aI O (aM O (tQ ?_)));exact⟨k+1,by show n - (k+1)<n - k;omega,(Wn O),O,by omega,by omega,hK⟩
 rw [IF (by omega)]at hK;have dQ:k=n:=by omega
 subst dQ;refine bj O (bl (cn O (aR O O (aq O (aR O O (aA O ?_))))));refine aJ _ O (fun h2=>?_) (fun h2=>?_)
 ·refine bV O (eF O ?_);exact⟨by rw [hK,aF (by omega)],O⟩
 refine bV O (eF O ?_);exact⟨by rw [hK,aB (by omega)],O⟩
theorem Fl(A:ai)(n c:Nat)(rs:List aH)(xss:ag)(A':ai)(n' c':Nat)(rs':List aH)(fZ:ag)(w:aa)(hX:bu w A n rs xss)(hY:bu w A' n' rs' fZ)(hn:n<=9223372036854775807):
 aG prog 139 [.agg #[.slice A n c],.agg #[.slice A' n' c']] w (fun v w'=>v=aj (df xss fZ)/\St w w' []/\w.drawn<=w'.drawn):=by
 refine bs func139 O ntmps139 O (bF O) (aY O (EG (St.refl w) O O ?_));intro Ab w1 OG aD;refine EG aD O O fun Ac w2 OH ay=>aq O (aT (ay.rd 1 O) O (a7 (ay.rd 1 O) O (aT (ay.rd 0 O) O (a7 (ay.rd 0 O) O (aO (Kr A n c rs xss A' n' c' rs' fZ _ (ay.bE hX) (ay.bE hY) hn) O ?_)))));rintro _ w3 ⟨rfl,rfl⟩;refine bW O (eF O ?_);exact⟨O,ay.none,gm OG OH⟩
theorem Mf(A:ai)(n c:Nat)(rs:List aH)(xss:ag)(A':ai)(n' c':Nat)(rs':List aH)(fZ:ag)(w:aa)(hX:bu w A n rs xss)(hY:bu w A' n' rs' fZ)(hn:n<=9223372036854775807):
 aG prog 139 [.agg #[.slice A n c],.agg #[.slice A' n' c']] w (fun v w'=>v=aj (df xss fZ)/\St w w' []):=
 (Fl A n c rs xss A' n' c' rs' fZ w hX hY hn).mono fun _ _ h=> ⟨h.1,h.2.1⟩
theorem Ew(A:ai)(n c:Nat)(xs:ah)(A':ai)(n' c':Nat)(ys:ah)(w:aa)(hR:bS w A n xs)(ij:bS w A' n' ys)(hn:n<=9223372036854775807):
 aG prog 158 [.slice A n c,.slice A' n' c'] w (fun v w'=>v= .bool (decide (xs=ys))/\St w w' []):=by
 have hl:=hR.1;have lz:=ij.1;subst hl;subst lz;refine bs func158 O ntmps158 O (bF O) ?_;refine aY O (aR O O (aq O (aR O O (aA O ?_))));refine aJ _ O (fun h=>?_) (fun h=>?_)
 ·refine bV O (bG O ?_);exact⟨by rw [cb (fun e:xs=ys=>h (by rw [e]))],St.refl _⟩
 refine aC O (aR O O (aA O ?_));refine Cd.loop (α:=Nat) (fun k=> [(0,.slice A xs.length c),(1,.slice A' ys.length c'),(12,aj (xs.length:Int)),(13,aj k)]) (fun k w'=>St w w' []/\k<=xs.length/\xs.take k=ys.take k) (fun k=>xs.length - k) 0 (Wn O) ⟨St.refl w,bk _,O⟩ ?_;rintro k e w2 ⟨ay,hk,hI⟩;have hle:xs.length=ys.length:=by omega
 refine bH O (aJ _ O (fun h1=>?_) (fun h1=>?_))
 ·have hA:=ay.dh hR;have hB:=ay.dh ij;have h2:(k:Int)<ys.length:=by omega
  have hx:=bQ (p:=xs) (k:=k) (by omega);have hy:=bQ (p:=ys) (k:=k) (by omega);refine cj O (cN [xS (A) (xs.length) (c),xI ((k:Int)),xP (az (A) ((k:Int)).toNat),xI (gi (xs) ((k:Int))),xS (A') (ys.length) (c'),xI ((k:Int)),xP (az (A') ((k:Int)).toNat),xI (gi (ys) ((k:Int))),xB (decide (¬(gi (xs) ((k:Int)))=(gi (ys) ((k:Int)))))] O (da O) ?_ ?_)
  ·exact⟨Dr O,Dr O,fun _ _ hb _ _=>aw (hA.ao hb).2 O Az,fun _ _ hb _ _=>a6 (hA.ao hb) O Az,Dr O,Dr O,fun _ _ hb _ _=>aw (hB.ao hb).2 O Az,fun _ _ hb _ _=>a6 (hB.ao hb) O Az,Dr O,av⟩
  intro u w3 dZ _;have aL:=ay.ao dZ;refine dM O (aJ _ O (fun h3=>?_) (fun h3=>?_))
  ·refine bV O (cy (b9 ?_));refine bG O ?_;refine⟨by rw [cb (fun e:xs=ys=>h3 (by rw [e]))],aL⟩
  refine aC O (aI O (aM O (tQ ?_)));refine⟨k+1,by omega,(Wn O),aL,by omega,?_⟩;rw [mh (by omega),mh (by omega),hI,fp.1 h3]
 refine bj O (bl (dd O ?_));refine bG O ⟨?_,ay⟩;rw [eI (by omega),eI (by omega)]at hI;rw [dF hI]
theorem Kw(A:ai)(n c:Nat)(rs:List aH)(xs:ag)(A':ai)(n' c':Nat)(rs':List aH)(ys:ag)(w:aa)(hR:bu w A n rs xs)(ij:bu w A' n' rs' ys)(hn:n<=9223372036854775807):
 aG prog 157 [.slice A n c,.slice A' n' c',.func (.func 158) #[] #[]] w (fun v w'=>v= .bool (decide (xs=ys))/\St w w' []):=by
 have hl:=hR.len;have lz:=ij.len;subst hl;subst lz;refine bs func157 O ntmps157 O (bF O) ?_;refine aY O (aR O O (aq O (aR O O (aA O ?_))));refine aJ _ O (fun h=>?_) (fun h=>?_)
 ·refine bV O (bG O ?_);exact⟨by rw [cb (fun e:xs=ys=>h (by rw [e]))],St.refl _⟩
 refine aC O (aR O O (aA O ?_));refine Cd.loop (α:=Nat) (fun k=> [(1,.slice A' ys.length c'),(2,.func (.func 158) #[] #[]),(15,.slice A xs.length c),(16,aj (xs.length:Int)),(17,aj k)]) (fun k w'=>St w w' []/\k<=xs.length/\xs.take k=ys.take k) (fun k=>xs.length - k) 0 (Wn O) ⟨St.refl w,bk _,O⟩ ?_;rintro k e w2 ⟨ay,hk,hI⟩;have hle:xs.length=ys.length:=by omega
 refine bH O (aJ _ O (fun h1=>?_) (fun h1=>?_))
 ·have hA:=ay.bE hR;have hB:=ay.bE ij;have h2:(k:Int)<ys.length:=by omega
  have hx:=cQ (p:=xs) (k:=k) (by omega);have hy:=cQ (p:=ys) (k:=k) (by omega);have ha:=hA.at_ (i:=k) (by omega) h1;have jU:=hB.at_ (i:=k) (by omega) h2;have hc:=hA.cap_ (i:=k) (by omega) h1;refine aC O (aw hA.top.2 O (bn hA.top O (aq O (aw hB.top.2 O (bn hB.top O (aq O (aO (Ew _ _ _ _ _ _ _ _ _ ha jU (by omega)) O ?_)))))));rintro _ w3 ⟨rfl,ax⟩;have aL:=ay.ao ax.below
  first | refine dv rfl rfl ?_ | refine eJ rfl rfl ?_
  refine aA O (aJ _ O (fun h3=>?_) (fun h3=>?_))
  ·refine bV O (cy (b9 ?_));refine bG O ?_;refine⟨by rw [cb (fun e:xs=ys=>h3 (by rw [e]))],aL⟩
  refine aC O (aI O (aM O (tQ ?_)));refine⟨k+1,by omega,(Wn O),aL,by omega,?_⟩;rw [qB (by omega),qB (by omega),hI,fp.1 h3]
 refine bj O (bl (dd O ?_));refine bG O ⟨?_,ay⟩;rw [eI (by omega),eI (by omega)]at hI;rw [dF hI]
theorem TO(A:ai)(n c:Nat)(rs:List aH)(xss:ag)(A':ai)(n' c':Nat)(rs':List aH)(fZ:ag)(w:aa)(hX:bu w A n rs xss)(hY:bu w A' n' rs' fZ)(hn:n<=9223372036854775807):
 aG prog 86 [.agg #[.slice A n c],.agg #[.slice A' n' c']] w (fun v w'=>v= .bool (decide (xss=fZ))/\St w w' []):=by
 refine bs func86 O ntmps86 O (bF O) (aY O (gS (St.refl w) O O ?_));intro Ab w1 aD;refine gS aD O O fun Ac w2 ay=>aq O (aT (ay.rd 1 O) O (a7 (ay.rd 1 O) O (aT (ay.rd 0 O) O (a7 (ay.rd 0 O) O (aO (Kw A n c rs xss A' n' c' rs' fZ _ (ay.bE hX) (ay.bE hY) hn) O ?_)))));rintro _ w3 ⟨rfl,ax⟩;refine bW O (bG O ?_);exact⟨O,(ay.ao ax.below).none⟩
theorem Iu(A:ai)(n c:Nat)(xs:ah)(A':ai)(n' c':Nat)(ys:ah)(w:aa)(hR:bS w A n xs)(ij:bS w A' n' ys)(hn:n<=9223372036854775807):
 aG prog 152 [.slice A n c,.slice A' n' c'] w (fun v w'=>v= .bool (decide (xs=ys))/\St w w' []):=by
 have hl:=hR.1;have lz:=ij.1;subst hl;subst lz;refine bs func152 O ntmps152 O (bF O) ?_;refine aY O (aR O O (aq O (aR O O (aA O ?_))));refine aJ _ O (fun h=>?_) (fun h=>?_)
 ·refine bV O (bG O ?_);exact⟨by rw [cb (fun e:xs=ys=>h (by rw [e]))],St.refl _⟩
 refine cj O (Cd.loop (α:=Nat) (fun k=> [(0,.slice A xs.length c),(1,.slice A' ys.length c'),(5,aj k)]) (fun k w'=>St w w' []/\k<=xs.length/\xs.take k=ys.take k) (fun k=>xs.length - k) 0 (Wn O) ⟨St.refl w,bk _,O⟩ ?_);rintro k e w2 ⟨ay,hk,hI⟩;have hle:xs.length=ys.length:=by omega
 refine aY O (aR O O (aA O ?_));refine aJ _ O (fun h1=>?_) (fun h1=>?_)
 ·have hA:=ay.dh hR;have hB:=ay.dh ij;have h2:(k:Int)<ys.length:=by omega
  have hx:=bQ (p:=xs) (k:=k) (by omega);have hy:=bQ (p:=ys) (k:=k) (by omega);refine cj O (cN [xS (A) (xs.length) (c),xI ((k:Int)),xP (az (A) ((k:Int)).toNat),xI (gi (xs) ((k:Int))),xS (A') (ys.length) (c'),xI ((k:Int)),xP (az (A') ((k:Int)).toNat),xI (gi (ys) ((k:Int))),xB (decide (¬(gi (xs) ((k:Int)))=(gi (ys) ((k:Int)))))] O (da O) ?_ ?_)
  ·exact⟨Dr O,Dr O,fun _ _ hb _ _=>aw (hA.ao hb).2 O Az,fun _ _ hb _ _=>a6 (hA.ao hb) O Az,Dr O,Dr O,fun _ _ hb _ _=>aw (hB.ao hb).2 O Az,fun _ _ hb _ _=>a6 (hB.ao hb) O Az,Dr O,av⟩
  intro u w3 dZ _;have aL:=ay.ao dZ;refine dM O (aJ _ O (fun h3=>?_) (fun h3=>?_))
  ·refine bV O (cy (b9 ?_));refine bG O ?_;refine⟨by rw [cb (fun e:xs=ys=>h3 (by rw [e]))],aL⟩
  refine aC O (aI O (aM O (tQ ?_)));refine⟨k+1,by omega,(Wn O),aL,by omega,?_⟩;rw [mh (by omega),mh (by omega),hI,fp.1 h3]
 refine bj O (bl (dd O ?_));refine bG O ⟨?_,ay⟩;rw [eI (by omega),eI (by omega)]at hI;rw [dF hI]
theorem Ri(A:ai)(n c:Nat)(rs:List aH)(xs:ag)(A':ai)(n' c':Nat)(rs':List aH)(ys:ag)(w:aa)(hR:bu w A n rs xs)(ij:bu w A' n' rs' ys)(hn:n<=9223372036854775807):
 aG prog 225 [.slice A n c,.slice A' n' c'] w (fun v w'=>v= .bool (decide (xs=ys))/\St w w' []):=by
 have hl:=hR.len;have lz:=ij.len;subst hl;subst lz;refine bs func225 O ntmps225 O (bF O) ?_;refine aY O (aR O O (aq O (aR O O (aA O ?_))));refine aJ _ O (fun h=>?_) (fun h=>?_)
 ·refine bV O (bG O ?_);exact⟨by rw [cb (fun e:xs=ys=>h (by rw [e]))],St.refl _⟩
 refine cj O (Cd.loop (α:=Nat) (fun k=> [(0,.slice A xs.length c),(1,.slice A' ys.length c'),(5,aj k)]) (fun k w'=>St w w' []/\k<=xs.length/\xs.take k=ys.take k) (fun k=>xs.length - k) 0 (Wn O) ⟨St.refl w,bk _,O⟩ ?_);rintro k e w2 ⟨ay,hk,hI⟩;have hle:xs.length=ys.length:=by omega
 refine aY O (aR O O (aA O ?_));refine aJ _ O (fun h1=>?_) (fun h1=>?_)
 ·have hA:=ay.bE hR;have hB:=ay.bE ij;have qY:=hA.top;have q8:=hB.top;have h2:(k:Int)<ys.length:=by omega
  have hx:=cQ (p:=xs) (k:=k) (by omega);have hy:=cQ (p:=ys) (k:=k) (by omega);have ha:=hA.at_ (i:=k) (by omega) h1;have jU:=hB.at_ (i:=k) (by omega) h2;have hc:=hA.cap_ (i:=k) (by omega) h1;refine cj O (cN [xS (A) (xs.length) (c),xI ((k:Int)),xP (az (A) ((k:Int)).toNat),xS ((rg (rs) ((k:Int))).a) ((rg (rs) ((k:Int))).n) ((rg (rs) ((k:Int))).c),xS (A') (ys.length) (c'),xI ((k:Int)),xP (az (A') ((k:Int)).toNat),xS ((rg (rs') ((k:Int))).a) ((rg (rs') ((k:Int))).n) ((rg (rs') ((k:Int))).c),xB (decide (gl xs k=gl ys k)),xB (decide (¬(gl xs k=gl ys k)))] O (da O) ?_ ?_)
  ·refine⟨Dr O,Dr O,fun _ _ hb _ _=>aw (qY.ao hb).2 O Az,fun _ _ hb _ _=>bn (qY.ao hb) O Az,Dr O,Dr O,fun _ _ hb _ _=>aw (q8.ao hb).2 O Az,fun _ _ hb _ _=>bn (q8.ao hb) O Az,?_,fun _ _ _ _ _=>dv O O Az,av⟩;intro e1 w1 hb hp aZ;refine aO (Iu _ _ _ _ _ _ _ _ _ (ha.ao hb) (jU.ao hb) (by omega)) O ?_;rintro _ w2 ⟨rfl,ax⟩;refine ak.n ?_;exact ew.dn ax.below (by exact O)
  intro u w3 dZ _;have aL:=ay.ao dZ;refine dM O (aJ _ O (fun h3=>?_) (fun h3=>?_))
  ·refine bV O (cy (b9 ?_));refine bG O ?_;refine⟨by rw [cb (fun e:xs=ys=>h3 (by rw [e]))],aL⟩
  refine aC O (aI O (aM O (tQ ?_)));refine⟨k+1,by omega,(Wn O),aL,by omega,?_⟩;rw [qB (by omega),qB (by omega),hI,fp.1 h3]
 refine bj O (bl (dd O ?_));refine bG O ⟨?_,ay⟩;rw [eI (by omega),eI (by omega)]at hI;rw [dF hI]
theorem Rq(A:ai)(n c:Nat)(rs:List aH)(xss:ag)(A':ai)(n' c':Nat)(rs':List aH)(fZ:ag)(w:aa)(hX:bu w A n rs xss)(hY:bu w A' n' rs' fZ)(hn:n<=9223372036854775807):
 aG prog 172 [.agg #[.slice A n c],.agg #[.slice A' n' c']] w (fun v w'=>v= .bool (decide (xss=fZ))/\St w w' []):=by
 refine bs func172 O ntmps172 O (bF O) (aY O (gS (St.refl w) O O ?_));intro Ab w1 aD;refine gS aD O O fun Ac w2 ay=>aq O (aT (ay.rd 1 O) O (a7 (ay.rd 1 O) O (aT (ay.rd 0 O) O (a7 (ay.rd 0 O) O (aO (Ri A n c rs xss A' n' c' rs' fZ _ (ay.bE hX) (ay.bE hY) hn) O ?_)))));rintro _ w3 ⟨rfl,ax⟩;refine bW O (bG O ?_);exact⟨O,(ay.ao ax.below).none⟩
theorem Rg(A:ai)(n c:Nat)(xs:ah)(A':ai)(n' c':Nat)(ys:ah)(w:aa)(hX:bS w A n xs)(hY:bS w A' n' ys)(hn:n<=9223372036854775807):
 aG prog 199 [.slice A n c,.slice A' n' c'] w (fun v w'=>v= .bool (decide (eo xs ys<0))/\St w w' []):=by
 have eW:=hX.1;have rH:=hY.1;refine bs func199 O ntmps199 O (bF O) (bH O ?_);refine Cd.loop (α:=Nat) (fun k=> [(0,.slice A n c),(1,.slice A' n' c'),(5,aj k)]) (fun k w'=>St w w' []/\k<=n/\k<=n'/\eo xs ys=eo (xs.drop k) (ys.drop k)) (fun k=>n - k) 0 (Wn O) ⟨St.refl w,bk _,bk _,O⟩ ?_;rintro k e w2 ⟨ay,hk,cE,hK⟩;have GP:=ay.dh hX;have GU:=ay.dh hY;refine aY O (aR O O (aq O ?_));refine bR 10 O (fun h1=>?_) (fun h1=>?_)
 ·refine ar O (aq O (ar O (aq O (ar O (aR O O (ar O (aA O ?_)))))));refine aJ _ O (fun h2=>?_) (fun h2=>?_)
  ·rw [IJ (by omega) (by omega)]at hK;refine cj O (cN [xS (A) (n) (c),xI ((k:Int)),xP (az (A) ((k:Int)).toNat),xI (gi (xs) ((k:Int))),xS (A') (n') (c'),xI ((k:Int)),xP (az (A') ((k:Int)).toNat),xI (gi (ys) ((k:Int))),xB (decide (¬(gi (xs) ((k:Int)))=(gi (ys) ((k:Int)))))] O (da O) ?_ ?_)
   ·exact⟨Dr O,Dr O,fun _ _ hb _ _=>aw (GP.ao hb).2 O Az,fun _ _ hb _ _=>a6 (GP.ao hb) O Az,Dr O,Dr O,fun _ _ hb _ _=>aw (GU.ao hb).2 O Az,fun _ _ hb _ _=>a6 (GU.ao hb) O Az,Dr O,av⟩
   intro u w3 dZ _;have aL:=ay.ao dZ;have uf:=aL.dh hX;have vO:=aL.dh hY;refine dM O (aJ _ O (fun h3=>?_) (fun h3=>?_))
   ·rw [aB (fun h=>h3 (qP.1 h))]at hK;refine cj O (cN [xS (A) (n) (c),xI ((k:Int)),xP (az (A) ((k:Int)).toNat),xI (gi (xs) ((k:Int))),xS (A') (n') (c'),xI ((k:Int)),xP (az (A') ((k:Int)).toNat),xI (gi (ys) ((k:Int))),xB (decide ((gi (xs) ((k:Int)))< (gi (ys) ((k:Int))))),xB (decide ((gi (xs) ((k:Int)))< (gi (ys) ((k:Int)))))] O (da O) ?_ ?_)
    ·exact⟨Dr O,Dr O,fun _ _ hb _ _=>aw (uf.ao hb).2 O Az,fun _ _ hb _ _=>a6 (uf.ao hb) O Az,Dr O,Dr O,fun _ _ hb _ _=>aw (vO.ao hb).2 O Az,fun _ _ hb _ _=>a6 (vO.ao hb) O Az,Dr O,Dr O,av⟩
    intro u2 w4 kr _;have aN:=aL.ao kr;refine sd O (cy (b9 ?_));refine bG O ?_;exact⟨aS Value.bool (gJ.2 (by rw [hK,vp])),aN⟩
   rw [aF (qP.2 (fp.1 h3))]at hK;refine aC O (aI O (aM O (tQ ?_)));exact⟨k+1,by show n - (k+1)<n - k;omega,(Wn O),aL,by omega,by omega,hK⟩
  rw [II (by omega) (by omega)]at hK;refine bj O (bl (cn O (aR O O (aq O (aR O O (bW O ?_))))));refine bG O ?_;exact⟨aS Value.bool (gJ.2 (by rw [hK];omega)),ay⟩
 rw [IH (by omega)]at hK;refine au O (au O (au O (au O (aA O ?_))));refine Cd.dO O (bj O (bl (cn O (aR O O (aq O (aR O O (bW O ?_)))))));refine bG O ?_;exact⟨aS Value.bool (gJ.2 (by rw [hK];split<;>omega)),ay⟩
theorem Iw(A:ai)(n c:Nat)(rs:List aH)(xss:ag)(A':ai)(c':Nat)(rs':List aH)(fZ:ag)(w:aa)(hX:bu w A n rs xss)(hY:bu w A' n rs' fZ)(hn:n<=9223372036854775807):
 aG prog 134 [.agg #[.slice A n c],.agg #[.slice A' n c']] w (fun v w'=>v= .bool (decide (df xss fZ<0))/\St w w' []):=by
 have eW:=hX.len;have rH:=hY.len;refine bs func134 O ntmps134 O (bF O) (aY O (gS (St.refl w) O O ?_));intro Ab w1 aD;refine gS aD O O fun Ac w2 ay=>aA O (Cd.loop (α:=Nat) (fun k=> [(2,.pointer Ab),(3,.pointer Ac),(5,aj k)]) (fun k w'=>St w w' [Bx 37 1 Ac [.slice A' n c'],Bx 37 1 Ab [.slice A n c]]/\k<=n/\df xss fZ=df (xss.drop k) (fZ.drop k)) (fun k=>n - k) 0 (Wn O) ⟨ay,bk _,O⟩ ?_);rintro k e w3 ⟨aL,hk,hK⟩;refine aY O (aT (aL.rd 1 O) O (a7 (aL.rd 1 O) O ?_));refine aR O O (aA O ?_);refine aJ _ O (fun h1=>?_) (fun h1=>?_)
 ·rw [IG (by omega) (by omega)]at hK;have uf:=aL.bE hX;have vO:=aL.bE hY;have qY:=uf.top;have q8:=vO.top;have ha:=uf.at_ (i:=(k:Int)) (by omega) h1;have jU:=vO.at_ (i:=(k:Int)) (by omega) (by omega);have hc:=uf.cap_ (i:=(k:Int)) (by omega) h1;have tY:=aL.rd 1 O;have q7:=aL.rd 0 O;refine cj O (cN [xP (az (Ab) 0),xS (A) (n) (c),xI ((k:Int)),xP (az (A) ((k:Int)).toNat),xS ((rg (rs) ((k:Int))).a) ((rg (rs) ((k:Int))).n) ((rg (rs) ((k:Int))).c),xP (az (Ac) 0),xS (A') (n) (c'),xI ((k:Int)),xP (az (A') ((k:Int)).toNat),xS ((rg (rs') ((k:Int))).a) ((rg (rs') ((k:Int))).n) ((rg (rs') ((k:Int))).c),xB (decide (gl xss k=gl fZ k)),xB (decide (¬(gl xss k=gl fZ k)))] O (da O) ?_ ?_)
  ·refine⟨fun _ _ hb _ _=>aT (tY.below hb) O Az,fun _ _ hb _ _=>a7 (tY.below hb) O Az,Dr O,fun _ _ hb _ _=>aw (qY.ao hb).2 O Az,fun _ _ hb _ _=>bn (qY.ao hb) O Az,fun _ _ hb _ _=>aT (q7.below hb) O Az,fun _ _ hb _ _=>a7 (q7.below hb) O Az,Dr O,fun _ _ hb _ _=>aw (q8.ao hb).2 O Az,fun _ _ hb _ _=>bn (q8.ao hb) O Az,?_,fun _ _ _ _ _=>dv O O Az,av⟩;intro e1 w1 hb hp aZ;refine aO (Iu _ _ _ _ _ _ _ _ _ (ha.ao hb) (jU.ao hb) (by omega)) O ?_;rintro _ w2 ⟨rfl,ax⟩;refine ak.n ?_;exact ew.dn ax.below (by exact O)
  intro u w4 kr _;have aN:=aL.ao kr;have GQ:=aN.bE hX;have GV:=aN.bE hY;have Gj:=GQ.top;have Gm:=GV.top;have Oi:=GQ.at_ (i:=(k:Int)) (by omega) h1;have Om:=GV.at_ (i:=(k:Int)) (by omega) (by omega);have Gk:=aN.rd 1 O;have Gl:=aN.rd 0 O;refine dM O (aJ _ O (fun h3=>?_) (fun h3=>?_))
  ·rw [aB (fun h=>h3 (rM.1 h))]at hK;refine cj O ?_;refine cN [xP (az (Ab) 0),xS (A) (n) (c),xI ((k:Int)),xP (az (A) ((k:Int)).toNat),xS ((rg (rs) ((k:Int))).a) ((rg (rs) ((k:Int))).n) ((rg (rs) ((k:Int))).c),xP (az (Ac) 0),xS (A') (n) (c'),xI ((k:Int)),xP (az (A') ((k:Int)).toNat),xS ((rg (rs') ((k:Int))).a) ((rg (rs') ((k:Int))).n) ((rg (rs') ((k:Int))).c),xB (decide (eo (gl xss k) (gl fZ k)<0)),xB (decide (eo (gl xss k) (gl fZ k)<0))] O (da O) ?_ ?_
   ·refine⟨fun _ _ hb _ _=>aT (Gk.below hb) O Az,fun _ _ hb _ _=>a7 (Gk.below hb) O Az,Dr O,fun _ _ hb _ _=>aw (Gj.ao hb).2 O Az,fun _ _ hb _ _=>bn (Gj.ao hb) O Az,fun _ _ hb _ _=>aT (Gl.below hb) O Az,fun _ _ hb _ _=>a7 (Gl.below hb) O Az,Dr O,fun _ _ hb _ _=>aw (Gm.ao hb).2 O Az,fun _ _ hb _ _=>bn (Gm.ao hb) O Az,?_,Dr O,av⟩;intro e1 w1 hb hp aZ;refine aO (Rg _ _ _ _ _ _ _ _ _ (Oi.ao hb) (Om.ao hb) (by omega)) O ?_;rintro _ w2 ⟨rfl,ax⟩;refine ak.n ?_;exact ew.dn ax.below (by exact O)
   intro u2 w5 iY _;have aV:=aN.ao iY;refine sd O (cy (b9 ?_));refine bG O ?_;exact⟨aS Value.bool (gJ.2 (by rw [hK])),aV.none⟩
  rw [aF (rM.2 (fp.1 h3))]at hK;refine aC O (aI O (aM O (tQ ?_)));exact⟨k+1,by show n - (k+1)<n - k;omega,(Wn O),aN,by omega,hK⟩
 rw [IF (by omega),aB (by omega)]at hK;refine bj O (bl (dd O ?_));refine bG O ?_;exact⟨aS Value.bool (by rw [hK];rfl),aL.none⟩
theorem St.nQ{w0 w:aa}{t1 t2:ad}{A:ai}{n c:Nat}{rs:List aH}{xss:ag}(h:St w0 w (aW t1 t2 A n c rs xss))(hl:xss.length=n):bu w A n rs xss:=
 St.jL (ks:=[]) (by rw [eG];exact h) hl
section
variable {P:Program} {N:Nat} {ops:Array Oper} {K:Env->aa->Prop} {rest:List Oper} {e:Env} {w:aa} {d:Nat} {ty:ad} {pos:String} {af:Array Edge}
theorem nj{t:ad}{fs:Array Field}{z:ab}{b:Nat}[bK P t (.struct fs)][bL P t z (0+1) b]{x:ae}{A:ai}{n:Nat}{i:Int}{xs:List aH}(hR:eU w A n xs)(hx:ev e x= .pointer (az A i.toNat))(hj:i.toNat<n)(hb:Nat.blt d N=true)(hK:ak P N ops K rest (br e d (.agg #[.slice (rg xs i).a (rg xs i).n (rg xs i).c])) w):ak P N ops K (⟨some d,.load t x,ty,pos,af,none⟩::rest) e w:=
 .dz 0 (hR.2.behind (o:=i.toNat) (m:=1) (by omega)) hx rfl hb hK
end
theorem St.oD{w0 w:aa}{t1 t2:ad}{A:ai}{n c:Nat}{rs:List aH}{xss:ag}{ks:List Ck}(h:St w0 w ks)(wx:(aW t1 t2 A n c rs xss).Sublist ks)(hl:xss.length=n):bu w A n rs xss:=(h.sub wx).nQ hl
theorem pC{t1 t2:ad}{m:bC}:∀ {ms:List bC},m∈ms->(m.qN t1 t2).Sublist (b7 t1 t2 ms)
 | a::ms,h=>by
  unfold b7;rw [List.flatMap_cons];rcases kj.1 h with rfl | h
  ·exact nc _ _
  ·exact(pC h).trans (iw _ _)
theorem RX(A:ai)(n c:Nat)(rs:List aH)(xss:ag)(N:Nat)(w:aa)(hR:bu w A n rs xss)(hM:bN xss)(hN:N=(gl xss 0).length):
 aG prog 87 [.agg #[.slice A n c]] w (fun v w'=>∃A' c' rs',v= .agg #[.slice A' n c']/\rs'.length=n/\St w w' (aW 24 2 A' n c' rs' (ta N xss))):=by
 have h5:=hM.1;have Bp:=hM.2.1;have eW:=hR.len;have l4:(gl xss 0).length=(rg rs 0).n:=hR.jv (by omega) (by omega);have qb:∀k,(gy N xss k).length=n:=fun k=>by
  induction k with
  | zero=>rw [gy,sl,eW]
  | succ k ih=>
   rw [gy]
   split
   ·rw [sl,eW]
   ·exact ih
 have eC:∀f:Int,(dm N xss f).length=n:=fun f=>by rw [sl,eW]
 refine bs func87 O ntmps87 O (uQ O O) (aY O (gS (St.refl w) O O ?_));intro Ab w1 aD;refine lN aD O fun Ac w2 ay=>aq O (aT (ay.rd 1 O) O (a7 (ay.rd 1 O) O (aO (FQ A n c rs xss N 0 _ (ay.bE hR) hM hN (by omega) (by omega)) O ?_)));rintro _ w3 ⟨A4,c4,bz,rfl,CG,ax⟩;have aL:=(ay.call ax).perm gB;refine lN aL O fun Ad w4 aN=>gU 1 0 aN O O O O O O O ?_;intro w5 aV;have aV:St w w5 (Bx 37 1 Ad [.slice A4 n c4]::Bx 37 1 Ac [.slice none 0 0]::Bx 37 1 Ab [.slice A n c]::aW 24 2 A4 n c4 bz (gy N xss 0)):=aV;refine aq O (aO (qS Ab A n c rs xss _ _ (aV.rd 2 O) O (aV.bE hR) (by omega)) O ?_);rintro _ w5 ⟨rfl,rfl⟩;refine aA O ?_;refine Cd.loop (α:=Nat×ai×Nat×List aH) (fun s=> [(1,.pointer Ab),(2,.pointer Ac),(3,.pointer Ad),(9,aj N),(10,aj (s.1:Int))]) (fun s w'=>St w w' (Bx 37 1 Ad [.slice s.2.1 n s.2.2.1]::Bx 37 1 Ac [.slice none 0 0]::Bx 37 1 Ab [.slice A n c]::aW 24 2 s.2.1 n s.2.2.1 s.2.2.2 (gy N xss s.1))/\s.1<=N/\s.2.2.2.length=n) (fun s=>N - s.1) (0,A4,c4,bz) ⟨O,O,O,by rw [hN,l4];rfl,O,av⟩ ⟨aV,bk _,CG⟩ ?_;rintro⟨k,A6,c6,dK⟩ e w6 ⟨bg,hk,rv⟩;dsimp only at bg hk rv|-;refine bH O (aJ _ O (fun h1=>?_) (fun h1=>?_))
 ·refine aC O (aT (bg.rd 2 O) O (a7 (bg.rd 2 O) O (aq O (aO (FQ A n c rs xss N k _ (bg.bE hR) hM hN (by omega) (by omega)) O ?_))));rintro _ w7 ⟨A7,c7,eN,rfl,kB,P4⟩;have bm:=(bg.call P4).perm gB;refine lN bm O fun A8 w8 bI=>gU 1 0 bI O O O O O O O ?_;intro w9 bO;have bO:St w w9 (Bx 37 1 A8 [.slice A7 n c7]::Bx 37 1 Ad [.slice A6 n c6]::Bx 37 1 Ac [.slice none 0 0]::Bx 37 1 Ab [.slice A n c]::(aW 24 2 A6 n c6 dK (gy N xss k)++aW 24 2 A7 n c7 eN (dm N xss k))):=bO;have sW:bu w9 A6 n dK (gy N xss k):=bO.oD ((nc _ _).trans (iw [_,_,_,_] _)) (qb k);have PK:bu w9 A7 n eN (dm N xss k):=bO.oD (((((iw _ _).cons _).cons _).cons _).cons _) (eC k);refine aq O (ak.dz 0 (bO.rd 0 O) O O O (ak.dz 0 (bO.rd 1 O) O O O (aO (Mf A7 n c7 eN _ A6 n c6 dK _ _ PK sW (by omega)) O ?_)));rintro _ dW ⟨rfl,P0⟩;have cJ:=bO.ao P0.below;refine aA O (aJ _ O (fun h2=>?_) (fun h2=>?_))
  ·have hle:gy N xss (k+1)=dm N xss k:=by rw [gy,aF h2]
   refine aC O (ak.dz 0 (cJ.rd 0 O) O O O (gU 1 1 cJ O O O O O O O ?_));intro eZ il;refine aq O (aI O (aM O (tQ ?_)));refine⟨(k+1,A7,c7,eN),by show N - (k+1)<N - k;omega,(Wn O),?_,by show k+1<=N;omega,kB⟩;show St w eZ (Bx _ 1 Ad [.slice A7 n c7]::_::_::aW _ _ A7 n c7 eN (gy N xss (k+1)));rw [hle];exact il.sub (((List.Sublist.cons_cons _ (List.Sublist.cons_cons _ (List.Sublist.cons_cons _ (iw _ _)))).cons _))
  ·have hle:gy N xss (k+1)=gy N xss k:=by rw [gy,aB h2]
   refine aC O (aI O (aM O (tQ ?_)));refine⟨(k+1,A6,c6,dK),by show N - (k+1)<N - k;omega,(Wn O),?_,by show k+1<=N;omega,rv⟩;show St w dW (Bx _ 1 Ad [.slice A6 n c6]::_::_::aW _ _ A6 n c6 dK (gy N xss (k+1)));rw [hle];exact cJ.sub (((List.Sublist.cons_cons _ (List.Sublist.cons_cons _ (List.Sublist.cons_cons _ (nc _ _)))).cons _))
 ·have lv:k=N:=by omega
  rw [lv]at bg;refine bj O (bl (cn O ?_));refine ak.dz 0 (bg.rd 0 O) O O O (gU 1 1 bg O O O O O O O ?_);intro w7 bm;refine bW O (uR O (bm.rd 1 O) ?_);exact⟨A6,c6,dK,O,rv,bm.sub (((List.sublist_cons_self _ _).trans (List.sublist_cons_self _ _)).trans (List.sublist_cons_self _ _))⟩
def kp(N:Nat)(xss:ag):Nat->List (ag)
 | 0=> []
 | k+1=>if dm N xss k∈kp N xss k then kp N xss k else kp N xss k++ [dm N xss k]
theorem FV(N:Nat)(xss:ag):∀k,(kp N xss k).length<=k
 | 0=>cO _
 | k+1=>by
  have:=FV N xss k;simp only [kp]
  split
  ·omega
  ·simp;omega
theorem AV(N:Nat)(xss:ag):∀k,∀m∈kp N xss k,m.length=xss.length
 | 0,m,h=>by cases h
 | k+1,m,h=>by
  simp only [kp]at h
  split at h
  ·exact AV N xss k m h
  ·rcases gQ.1 h with h | h
   ·exact AV N xss k m h
   ·simp at h;subst h;exact sl _ _ _
def me(N:Nat)(xss:ag):Nat:=if jz N xss then(kp N xss N).length else 0
theorem RI(A:ai)(n c:Nat)(rs:List aH)(xss:ag)(N:Nat)(w:aa)(hR:bu w A n rs xss)(hM:bN xss)(hN:N=(gl xss 0).length):
 aG prog 133 [.agg #[.slice A n c]] w (fun v w'=>v=aj (me N xss:Int)/\St w w' []):=by
 have h5:=hM.1;have Bp:=hM.2.1;have eW:=hR.len;have eC:∀f:Int,(dm N xss f).length=n:=fun f=>by rw [sl,eW]
 refine bs func133 O ntmps133 O (bF O) (aY O (gS (St.refl w) O O ?_));intro Ab w1 aD;refine aq O (ic aD O ?_);intro A3 w2 ay;refine aA O ?_;refine Cd.loop (α:=Nat×ai×Nat×List bC) (fun s=> [(1,.pointer Ab),(3,.slice s.2.1 s.2.2.2.length s.2.2.1),(4,aj (s.1:Int))]) (fun s w'=>St w w' (aQ 37 s.2.1 s.2.2.2.length s.2.2.1 (s.2.2.2.map (·.top))::Bx 37 1 Ab [.slice A n c]::b7 24 2 s.2.2.2)/\s.1<=N/\s.2.2.2.map (·.xss)=kp N xss s.1/\(∀m∈s.2.2.2,m.top.n=n)/\∀f,f<s.1->¬df (dm N xss (f:Nat)) xss<0) (fun s=>N - s.1) (0,A3,0,[]) ⟨rfl,rfl,rfl,av⟩ ⟨ay,bk _,rfl,(by intro m h;cases h),(by intro f hf;exact absurd hf (gR f))⟩ ?_;rintro⟨k,A4,c4,ms⟩ e w3 ⟨aL,hk,nF,jr,qf⟩;dsimp only at aL hk nF jr qf|-;have Pr:=FV N xss k;rw [<-nF,fv]at Pr;refine aY O (ak.dz 0 (aL.rd 1 O) O O O (aO (yY A n c rs xss _ (aL.bE hR) (by omega)) O ?_));rintro _ w4 ⟨rfl,ax⟩;have aN:=aL.ao ax.below;rw [<-hN];refine aA O (aJ _ O (fun h1=>?_) (fun h1=>?_))
 ·refine aC O (ak.dz 0 (aN.rd 1 O) O O O (aq O (aO (Rk A n c rs xss N k _ (aN.bE hR) hM hN (by omega) (by omega)) O ?_)));rintro _ w5 ⟨A5,c5,kf,rfl,CH,k6⟩;have aV:=(aN.call k6).perm gB;refine lN aV O fun A6 w6 bg=>gU 1 0 bg O O O O O O O ?_;intro w7 bm;have bm:St w w7 (Bx 37 1 A6 [.slice A5 n c5]::aQ 37 A4 ms.length c4 (ms.map (·.top))::Bx 37 1 Ab [.slice A n c]::(b7 24 2 ms++aW 24 2 A5 n c5 kf (dm N xss k))):=bm;have yH:bu w7 A5 n kf (dm N xss k):=bm.oD ((iw _ _).trans (iw [_,_,_] _)) (eC k);refine aq O (ak.dz 0 (bm.rd 0 O) O O O (ak.dz 0 (bm.rd 2 O) O O O (aO (Iw A5 n c5 kf _ A c rs xss _ yH (bm.bE hR) (by omega)) O ?_)));rintro _ w8 ⟨rfl,HW⟩;have bI:=bm.ao HW.below;have PL:=yH.ao HW.below;refine aA O (aJ _ O (fun h2=>?_) (fun h2=>?_))
  ·refine bV O (cy (b9 ?_));refine eF O ⟨?_,bI.none⟩;rw [me,aB (fun h:jz N xss=>h k (by omega) h2)]
   rfl
  ·have HI:∀f,f<k+1->¬df (dm N xss (f:Nat)) xss<0:=fun f hf=>by
    by_cases e:f=k
    ·subst e;exact h2
    ·exact qf f (by omega)
   have vM:=bI.dB 1 O;have qZ:=bI.rd 0 O;have lA:∀(j:Nat) (hj:j<ms.length),bu w8 (rg (ms.map (·.top)) j).a (rg (ms.map (·.top)) j).n (ms[j]).rs (ms[j]).xss:=fun j hj=>by
    have e:rg (ms.map (·.top)) j=(ms[j]).top:=by simp [rg,bX,dE hj]
    rw [e];have hm:=di hj;refine bI.oD (c:=(ms[j]).top.c) (t1:=24) (t2:=2) (((pC hm).trans (nc _ _)).trans (iw [_,_,_] _)) ?_;rw [jr _ hm,<-eW];exact AV N xss k _ (by rw [<-nF];exact List.mem_map_of_mem hm)
   refine cj O (Cd.loop (α:=Nat×Bool) (fun s=> [(1,.pointer Ab),(3,.slice A4 ms.length c4),(4,aj k),(5,.pointer A6),(6,.bool s.2),(7,aj (s.1:Int))]) (fun s w'=>St w8 w' []/\s.1<=ms.length/\s.2=decide (dm N xss k∈(ms.map (·.xss)).take s.1)) (fun s=>ms.length - s.1) (0,false) (Wn O) ⟨St.refl w8,bk _,O⟩ ?_);rintro⟨j,kn⟩ e w9 ⟨bO,hj,dQ⟩;dsimp only at bO hj dQ|-;refine aY O (aR O O (aA O ?_));refine aJ _ O (fun h3=>?_) (fun h3=>?_)
   ·have eV:j<ms.length:=by omega
    have gY:(ms.map (·.xss)).take (j+1)=(ms.map (·.xss)).take j++ [(ms[j]).xss]:=by
     rw [gk (by rw [fv];exact eV),List.getElem_map]
    have GH:=vM.ao bO.below;have BB:=qZ.below bO.below;have yr:=(lA j eV).ao bO.below;have PM:=PL.ao bO.below;have sF:=yr.len;have hnj:(rg (ms.map (·.top)) j).n=n:=by
     have e:rg (ms.map (·.top)) j=(ms[j]).top:=by simp [rg,bX,dE eV]
     rw [e];exact jr _ (di eV)
    cases kn --dup 2
    ·refine cj O (cN [xB (false),xB (false),xS (A4) (ms.length) (c4),xI ((j:Int)),xP (az (A4) ((j:Int)).toNat),.ex (.agg #[.slice (rg (ms.map (·.top)) ((j:Int))).a (rg (ms.map (·.top)) ((j:Int))).n (rg (ms.map (·.top)) ((j:Int))).c]),.ex (.agg #[.slice (A5) (n) (c5)]),xB (decide ((ms[j]).xss=dm N xss k)),xB (decide ((ms[j]).xss=dm N xss k)),xB (decide ((ms[j]).xss=dm N xss k))] O (da O) ?_ ?_)
     ·refine⟨fun _ _ _ _ aZ=>EK O (by exact aZ 9 _ O (by kernel_rfl)) O Az,Dr O,Dr O,Dr O,fun _ _ hb _ _=>ar O (aw (GH.ao hb).2 O Az),fun _ _ hb _ _=>ar O (nj (GH.ao hb) O (by omega) O Az),fun _ _ hb _ _=>ar O (ak.dz 0 (BB.below hb) O O O Az),?_,Dr O,Dr O,av⟩
      ·intro e1 w1 hb hp aZ;refine ar O (aO (Rq _ _ _ _ _ _ _ _ _ _ _ (yr.ao hb) (PM.ao hb) (by omega)) O ?_);rintro _ w2 ⟨rfl,ax⟩;refine ak.n ?_;exact ew.dn ax.below (by exact O)
     intro u dW Cg _;have cJ:=bO.ao Cg;refine ib O (aI O (aM O (tQ ?_)));refine⟨(j+1,decide ((ms[j]).xss=dm N xss k)),by show ms.length - (j+1)<ms.length - j;omega,(Wn O),cJ,by show j+1<=ms.length;omega,?_⟩;show decide _=decide (dm N xss k∈(ms.map (·.xss)).take (j+1));rw [gY];have eD:¬dm N xss k∈(ms.map (·.xss)).take j:=of_decide_eq_false dQ.symm;refine gJ.2 ?_;rw [gQ,fQ];exact⟨fun h=> .inr h.symm,fun h=>h.elim (fun h=>absurd h eD) (fun h=>h.symm)⟩
    ·refine cj O (cN [xB (true),xB (true),xU,xU,xU,xU,xU,xU,xB (true),xB (true)] O (da O) ?_ ?_)
     ·exact⟨fun _ _ _ _ aZ=>EK O (by exact aZ 9 _ O (by kernel_rfl)) O Az,Dr O,Dr O,Dr O,Dr O,Dr O,Dr O,Dr O,Dr O,Dr O,av⟩
     intro u dW Cg _;have cJ:=bO.ao Cg;refine ib O (aI O (aM O (tQ ?_)));refine⟨(j+1,true),by show ms.length - (j+1)<ms.length - j;omega,(Wn O),cJ,by show j+1<=ms.length;omega,?_⟩;have fy:dm N xss k∈(ms.map (·.xss)).take j:=kc dQ.symm;show true=decide (dm N xss k∈(ms.map (·.xss)).take (j+1));rw [gY];exact(dF (List.mem_append_left _ fy)).symm
   ·have ux:j=ms.length:=by omega
    rw [ux,eI (by rw [fv];exact cO _),nF]at dQ;have BZ:=bI.ao bO.below;refine bj O (bl (cn O ?_))
    first | refine dv rfl rfl ?_ | refine eJ rfl rfl ?_
    refine aA O (Cd.cond O (fun h4=>?_) (fun h4=>?_))
    ·have mM:¬dm N xss k∈kp N xss k:=fun h=>by
      rw [dF h]at dQ;rw [dQ]at h4;cases h4
     refine aC O (ak.dz 0 (BZ.rd 0 O) O O O (tB BZ O O O ?_));intro bB dW cJ;refine iU 2 cJ O (cJ.dB 0 O) O O O (by omega) (by omega) O ?_;intro fo lQ eZ il;have il:=il.tail.tail;have il:St w eZ (aQ 37 fo (ms.length+1) lQ (ms.map (·.top)++ [⟨A5,n,c5⟩])::Bx 37 1 Ab [.slice A n c]::(b7 24 2 ms++aW 24 2 A5 n c5 kf (dm N xss k))):=il;refine aq O (aI O (aM O (tQ ?_)));refine⟨(k+1,fo,lQ,ms++ [⟨⟨A5,n,c5⟩,kf,dm N xss k⟩]),by show N - (k+1)<N - k;omega,⟨O,by rw [dS];rfl,O,av⟩,?_,by show k+1<=N;omega,?_,?_,HI⟩
     ·show St w eZ (aQ _ fo (ms++ [(⟨⟨A5,n,c5⟩,kf,dm N xss k⟩:bC)]).length lQ (List.map bC.top (ms++ [(⟨⟨A5,n,c5⟩,kf,dm N xss k⟩:bC)]))::_::b7 _ _ (ms++ [(⟨⟨A5,n,c5⟩,kf,dm N xss k⟩:bC)]));rw [dS,iT,wJ];simpa [b7,bC.qN]using il
     ·show List.map bC.xss (ms++ [(⟨⟨A5,n,c5⟩,kf,dm N xss k⟩:bC)])=kp N xss (k+1);rw [iT,nF,kp,aB mM]
      rfl
     ·intro m hm;rcases gQ.1 hm with hm | hm
      ·exact jr m hm
      ·simp at hm;subst hm;rfl
    ·have hold:dm N xss k∈kp N xss k:=by
      cases o7:kn with
      | true=>rw [o7]at dQ;exact kc dQ.symm
      | false=>rw [o7]at h4;cases h4
     refine aC O (aI O (aM O (tQ ?_)));refine⟨(k+1,A4,c4,ms),by show N - (k+1)<N - k;omega,(Wn O),?_,by show k+1<=N;omega,?_,jr,HI⟩
     ·exact BZ.sub ((List.Sublist.cons_cons _ (List.Sublist.cons_cons _ (nc _ _))).cons _)
     ·show ms.map (·.xss)=kp N xss (k+1);rw [nF,kp,aF hold]
 ·have lv:k=N:=by omega
  subst lv;refine bj O (bl (cn O (aR O O (bW O ?_))));refine eF O ⟨?_,aN.none⟩;rw [me,aF (show jz k xss from qf),<-nF,fv]
end
section
section
variable {N:Nat} {xss:ag} {p q:ah}
variable {ps:ag}
end
section
variable {N:Nat} {xss:ag} {b:Int} {i k:Nat} {L Q:ah}
end
end
section
open Go.RowKit
theorem LX(A:ai)(n c:Nat)(rs:List aH)(xss:ag)(w:aa)(hR:bu w A n rs xss)(hn:n<=1000000000)(hr:∀i,i<n->(rs.getD i bA).n<=1000000000):
 aG prog 250 [.agg #[.slice A n c]] w (fun v w'=>∃A' c' rs',v= .agg #[.slice A' n c']/\rs'.length=n/\St w w' (aW 24 2 A' n c' rs' xss)):=by
 refine bs func250 O ntmps250 O (uQ O O) (aY O (gS (St.refl w) O O ?_));intro Ab w1 aD;refine lN aD O fun Ac w2 ay=>aq O (lN ay O ?_);intro Ad w3 aL;have aL:St w w3 (Bx 37 1 Ad [.slice none 0 0]::Bx 37 1 Ac [.slice none 0 0]::Bx 37 1 Ab [.slice A n c]::[]):=aL;refine aq O (aT (aL.rd 2 O) O (a7 (aL.rd 2 O) O ?_));refine aR O O (aA O ?_);have nz:St w w3 (Bx 37 1 Ad [.slice none 0 0]::Bx 37 1 Ac [.slice none 0 0]::Bx 37 1 Ab [.slice A n c]::aQ 24 none 0 0 []::[]):=(aL.nil 24).perm (gB (l₁:=[_]) (l₂:=[_,_,_]));refine Cd.loop (α:=Nat×ai×Nat×List aH) (fun s=> [(2,.pointer Ac),(3,.pointer Ad),(7,.slice A n c),(8,aj n),(9,aj (s.1:Int))]) (fun s w'=>St w w' (Bx 37 1 Ad [.slice s.2.1 s.1 s.2.2.1]::Bx 37 1 Ac [.slice none 0 0]::Bx 37 1 Ab [.slice A n c]::aQ 24 s.2.1 s.1 s.2.2.1 s.2.2.2::cw 2 s.2.2.2 (xss.take s.1))/\s.1<=n/\s.2.2.2.length=s.1) (fun s=>n - s.1) (0,none,0,[]) (Wn O) ⟨nz,bk _,O⟩ ?_;rintro⟨k,A3,c3,ec⟩ e w4 ⟨aN,hk,hlen⟩;dsimp only at aN hk hlen|-;refine bH O (aJ _ O (fun h1=>?_) (fun h1=>?_))
 ·have cE:k<n:=by omega
  have hx:k<xss.length:=by rw [hR.len];exact cE
  have hM:=aN.bE hR;refine aC O (Wf hM.top.2 O O O (by omega) h1 (bn hM.top O (aA O ?_)));have hB:=aN.rd 0 O;have bw:=hM.at_ (i:=(k:Int)) (by omega) h1;refine jc [5,7] [yP (az (Ad) 0),yS (A3) (k) (c3),yS ((rg rs k).a) ((rg rs k).n) ((rg rs k).c),.pr (fun v w'=>∃A4 c4,v= .slice A4 (rg rs k).n c4/\St w w' (aE 2 A4 (rg rs k).n c4 (gl xss k)::Bx 37 1 Ad [.slice A3 k c3]::Bx 37 1 Ac [.slice none 0 0]::Bx 37 1 Ab [.slice A n c]::aQ 24 A3 k c3 ec::cw 2 ec (xss.take k))),.pr (fun v w'=>∃A4 c4 A9,v= .slice A9 1 1/\St w w' (aQ 24 A9 1 1 [⟨A4,(rg rs k).n,c4⟩]::aE 2 A4 (rg rs k).n c4 (gl xss k)::Bx 37 1 Ad [.slice A3 k c3]::Bx 37 1 Ac [.slice none 0 0]::Bx 37 1 Ab [.slice A n c]::aQ 24 A3 k c3 ec::cw 2 ec (xss.take k))),.pr (fun v w'=>∃A4 c4 bB bM,v= .slice bB (k+1) bM/\St w w' (aE 2 A4 (rg rs k).n c4 (gl xss k)::Bx 37 1 Ad [.slice A3 k c3]::Bx 37 1 Ac [.slice none 0 0]::Bx 37 1 Ab [.slice A n c]::aQ 24 bB (k+1) bM (ec++ [⟨A4,(rg rs k).n,c4⟩])::cw 2 ec (xss.take k))),yP (az (Ad) 0),.pr (fun _ w'=>∃A4 c4 bB bM,St w w' (aE 2 A4 (rg rs k).n c4 (gl xss k)::Bx 37 1 Ad [.slice bB (k+1) bM]::Bx 37 1 Ac [.slice none 0 0]::Bx 37 1 Ab [.slice A n c]::aQ 24 bB (k+1) bM (ec++ [⟨A4,(rg rs k).n,c4⟩])::cw 2 ec (xss.take k)))] (by kernel_rfl) (by kernel_rfl) (ly (ly (ly (cq.2 ⟨Ye.ct (fun v w w' h hb=>by obtain⟨A4,c4,hv,hT⟩:=h;exact⟨A4,c4,hv,hT.ao hb⟩),(cq.2 ⟨Ye.ct (fun v w w' h hb=>by obtain⟨A4,c4,A9,hv,hT⟩:=h;exact⟨A4,c4,A9,hv,hT.ao hb⟩),(cq.2 ⟨Ye.ct (fun v w w' h hb=>by obtain⟨A4,c4,bB,bM,hv,hT⟩:=h;exact⟨A4,c4,bB,bM,hv,hT.ao hb⟩),(ly (cq.2 ⟨Ye.ct (fun v w w' h hb=>by obtain⟨A4,c4,bB,bM,hT⟩:=h;exact⟨A4,c4,bB,bM,hT.ao hb⟩),(fun _ h=>by cases h)⟩))⟩)⟩)⟩)))) ?_ ?_
  ·refine⟨cP fun _ _ hb _ _ _=>aT (hB.below hb) O (bJ O O),cP fun _ _ hb _ _ _=>a7 (hB.below hb) O (bJ O O),b8 O,?_,?_,?_,?_,?_,av⟩
   ·refine cP fun e1 w1 hb hp aZ hq=>?_
    refine aO (xi _ _ _ _ _ (bw.ao hb) (hr k cE)) O ?_;rintro _ w2 ⟨A4,c4,rfl,ax⟩;exact ak.n (eS.dn O ax.below ⟨A4,c4,O,(aN.ao hb).call ax⟩)
   ·refine cP fun e1 w1 hb hp aZ hq=>?_
    obtain⟨A4,c4,kU,hT⟩:=(hp 3 _ _ (by kernel_rfl) rfl rfl (by kernel_rfl));refine mu (St.refl _) (by exact kU) O O ?_;intro A9 w9 ax;exact ak.n (eS.dn O ax.below ⟨A4,c4,A9,O,hT.call ax⟩)
   ·refine jh fun e1 w1 hb hp aZ hq=>?_
    obtain⟨A4,c4,A9,Bl,hT⟩:=(hp 4 _ _ (by kernel_rfl) rfl rfl (by kernel_rfl));refine iU 5 hT O (hT.dB 0 O) O (by exact Bl) O (by omega) (by omega) O ?_;intro bB bM dW sB;exact ak.n (eA.dn O ⟨A4,c4,bB,bM,O,sB.tail⟩)
   ·refine dP 1 fun e1 w1 hp aZ hq=>?_
    have cS:=hp 5 _ _ (by kernel_rfl) O O (by kernel_rfl);obtain⟨A4,c4,bB,bM,Ga,hT⟩:=cS;refine aT ((hT.rd 1 O)) O (ak.n (fO O (by exact O)))
   refine mD 1 fun e1 w1 hp aZ hq=>?_
   have cS:=hp 5 _ _ (by kernel_rfl) O O (by kernel_rfl);obtain⟨A4,c4,bB,bM,Ga,hT⟩:=cS;refine od 1 hT O O (by exact Ga) O O ?_;intro eZ sC;exact ak.n (eA.st O ⟨A4,c4,bB,bM,sC⟩)
  intro u w5 _ hu _ _;obtain⟨A4,c4,bB,bM,hT⟩:=hu 7 _ rfl (by kernel_rfl);refine ib O (aI O (aM O (tQ ?_)));refine⟨(k+1,bB,bM,ec++ [⟨A4,(rg rs k).n,c4⟩]),by show n - (k+1)<n - k;omega,(Wn O),?_,cE,by simp [hlen]⟩;have e2:gl xss k=xss[k]:=by simp [gl,bX,dE hx]
  show St w w5 (_::_::_::aQ _ bB (k+1) bM (ec++ [_])::cw _ (ec++ [_]) (xss.take (k+1)));rw [gk hx,rX (by simp [hlen];omega),<-e2];exact hT.perm (gB (l₁:=[_]) (l₂:=_::_::_::_::cw 2 ec (xss.take k)))
 refine bj O (bl (cn O ?_));have dQ:k=n:=by omega
 subst dQ;rw [<-hR.len,List.take_length,hR.len]at aN;refine ak.dz 0 (aN.rd 0 O) O O O (gU 1 1 aN O O O O O O O ?_);intro w5 aV;refine bW O (uR O (aV.rd 1 O) ?_);exact⟨A3,c3,ec,O,hlen,aV.sub (((List.sublist_cons_self _ _).trans (List.sublist_cons_self _ _)).trans (List.sublist_cons_self _ _))⟩
theorem MU(Ab A:ai)(n c F:Nat)(rs:List aH)(M:ag)(i f:Nat)(w:aa)(hB:Rd w Ab 1 (fun _=> .slice A n c))(hR:bu w A n rs M)(hs:jO n F M)(hg:zM n F M)(hn:n<=1000)(hi:i<n)(hf:f<F)(hc:0<=cell M i f):
 aG prog 251 [.pointer Ab,aj i,aj f] w (fun v w'=>v= .bool (iH M i f)/\St w w' []):=by
 have hlen:=hs.1;have bw:=hR.at_ (i:=(i:Int)) (by omega) (by omega);have eM:=hR.cM hs (k:=(i:Int)) (by omega) (by omega);have p7:=hg i f hi (by omega) (by omega);refine bs func251 O ntmps251 O (bF O) (aY O ?_);refine eT hB (by decide) O O (aT hB O (a7 hB O (aq O (aw hR.top.2 O (bn hR.top O (aq O (aw bw.2 O (a6 bw O (aq O ?_)))))))));refine eT hB (by decide) O O (aT hB O (a7 hB O (aO (tu _ _ _ _) O ?_)));rintro _ w ⟨rfl,rfl⟩;refine aA O ?_;refine Cd.loop (α:=Nat) (fun k=> [(0,.pointer Ab),(1,aj i),(2,aj f),(7,aj (cell M i f)),(25,aj n),(26,aj k)]) (fun k w'=>St w w' []/\k<=n/\∀k',k'<k->¬(-1<=(k':Int) - i/\(k':Int) - i<=1)->¬sb M i k' f (cell M i f)) (fun k=>n - k) 0 (Wn O) ⟨St.refl w,bk _,fun k' h=>by omega⟩ ?_;rintro k e w1 ⟨aD,hk,hK⟩;have pO:=hB.below aD.below;have iC:=aD.bE hR;have more:∀(hb:¬(-1<=(k:Int) - i/\(k:Int) - i<=1)->¬sb M i k f (cell M i f)),∀k',k'<k+1->¬(-1<=(k':Int) - i/\(k':Int) - i<=1)->¬sb M i k' f (cell M i f):=fun hb k' cE fK=>by
  by_cases ek:k'=k
  ·subst ek;exact hb fK
  exact hK k' (by omega) fK
 refine bH O (aJ _ O (fun h1=>?_) (fun h1=>?_))
 ·refine aC O (gH O O O (by omega) ?_);refine aO (oK _ _ _ _) O ?_;rintro _ w1 ⟨rfl,rfl⟩;refine aA O (aJ _ O (fun h2=>?_) (fun h2=>?_))
  ·refine aC O (aI O (aM O (tQ ?_)));exact⟨k+1,by omega,(Wn O),aD,by omega,more (fun h=>absurd h2 h)⟩
  have fF:=iC.at_ (i:=(k:Int)) (by omega) h1;have dQ:=iC.cM hs (k:=(k:Int)) (by omega) h1;have dt:=iC.at_ (i:=(i:Int)) (by omega) (by omega);have bad:sb M i k f (cell M i f)->iH M i f=false:=fun hb=>cb (fun h=>h k (by omega) h2 hb)
  have H5:gi (gl M (k:Nat)) (f:Nat)< (F:Int):=hg k f (by omega) (by omega) (by omega);have hyF:gi (gl M (k:Nat)) (cell M i f)< (F:Int):=hg k (cell M i f) (by omega) hc p7;refine cj O ?_;refine cN [xP (Ab),xP (Ab),xP (az (Ab) 0),xS (A) (n) (c),xI ((k:Int)),xP (az (A) ((k:Int)).toNat),xS ((rg (rs) ((k:Int))).a) ((rg (rs) ((k:Int))).n) ((rg (rs) ((k:Int))).c),xI ((f:Int)),xP (az ((rg (rs) ((k:Int))).a) ((f:Int)).toNat),xI (gi (gl M k) ((f:Int))),xP (Ab),xP (Ab),xP (az (Ab) 0),xS (A) (n) (c),xI ((k:Int)),xP (az (A) ((k:Int)).toNat),xS ((rg (rs) ((k:Int))).a) ((rg (rs) ((k:Int))).n) ((rg (rs) ((k:Int))).c),xI (cell M i f),xP (az ((rg (rs) ((k:Int))).a) (cell M i f).toNat),xI (gi (gl M k) (cell M i f)),xI (gi (gl M k) ((f:Int))),xI (gi (gl M k) (cell M i f))] O (da O) ?_ ?_
  ·exact⟨Dr O,fun _ _ hb _ _=>eT (pO.below hb) (Nat.succ_pos _) O O Az,fun _ _ hb _ _=>aT (pO.below hb) O Az,fun _ _ hb _ _=>a7 (pO.below hb) O Az,Dr O,fun _ _ hb _ _=>aw (iC.top.ao hb).2 O Az,fun _ _ hb _ _=>bn (iC.top.ao hb) O Az,Dr O,fun _ _ hb _ _=>aw (fF.ao hb).2 O Az,fun _ _ hb _ _=>a6 (fF.ao hb) O Az,Dr O,fun _ _ hb _ _=>eT (pO.below hb) (Nat.succ_pos _) O O Az,fun _ _ hb _ _=>aT (pO.below hb) O Az,fun _ _ hb _ _=>a7 (pO.below hb) O Az,Dr O,fun _ _ hb _ _=>aw (iC.top.ao hb).2 O Az,fun _ _ hb _ _=>bn (iC.top.ao hb) O Az,Dr O,fun _ _ hb _ _=>aw (fF.ao hb).2 O Az,fun _ _ hb _ _=>a6 (fF.ao hb) O Az,Dr O,Dr O,av⟩
  intro u w2 gK _;have ay:=aD.ao gK;have fc:=ay.bE hR;have gr:=hB.below ay.below;have nG:=fc.at_ (i:=(i:Int)) (by omega) (by omega);refine ib O (bR 56 O (fun pg=>?_) (fun pg=>?_))
  ·refine au O (au O (au O (bc O (bc O (au O (au O (bc O (bc O (bc O (bc O (bc O ?_)))))))))));refine bc O (bc O (bc O (bc O (bc O (bc O (au O (au O (bc O (bc O (bc O (bc O ?_)))))))))));refine bc O (bc O (bc O (bc O (bc O (bc O (bc O (bc O (au O (aq O (au O (au O ?_)))))))))));refine au O (bc O (bc O (au O (au O (bc O (bc O (bc O (bc O (bc O (bc O (bc O ?_)))))))))));refine bc O (bc O (bc O (bc O (au O (au O (bc O (bc O (bc O (bc O (bc O (bc O ?_)))))))))));refine bc O (bc O (bc O (bc O (bc O (bc O (au O (aA O ?_)))))));refine Cd.eP O (bV O (cy (b9 ?_)));refine bG O ?_;exact⟨by rw [bad (.inl pg)],ay⟩
  refine ar O (aq O (ar O (aq O (ar O (aq O ?_)))));refine bR 59 O (fun hx=>?_) (fun hx=>?_)
  ·refine ar O (aq O (ar O (aq O (ar O (aq O (ar O (aq O ?_)))))));refine bR 63 O (fun hy=>?_) (fun hy=>?_)
   ·skip
    refine ar O (aq O (ar O ?_));refine eT gr (by decide) O O (ar O (aT gr O (ar O (a7 gr O ?_))));refine ar O (aq O (ar O ?_));refine aw fc.top.2 O (ar O (bn fc.top O ?_));refine ar O (aq O (ar O ?_));refine aw nG.2 O (ar O (a6 nG O ?_));refine ar O (aq O (ar O (aq O (ar O (aq O ?_)))));refine bR 76 O (fun x7=>?_) (fun x7=>?_)
    ·skip
     refine ar O (aq O (ar O ?_));refine eT gr (by decide) O O (ar O (aT gr O (ar O (a7 gr O ?_))));refine ar O (aq O (ar O ?_));refine aw fc.top.2 O (ar O (bn fc.top O ?_));refine ar O (aq O (ar O ?_));refine aw nG.2 O (ar O (a6 nG O ?_));refine ar O (aq O (ar O (aq O (ar O (aq O ?_)))));refine bR 91 O (fun x9=>?_) (fun x9=>?_)
     ·refine au O (au O (au O (bc O (bc O (au O (au O (bc O (bc O (bc O (bc O (bc O ?_)))))))))));refine bc O (bc O (bc O (bc O (bc O (bc O (au O (au O (bc O (bc O (bc O (bc O ?_)))))))))));refine bc O (bc O (bc O (bc O (bc O (bc O (bc O (bc O (au O (aA O ?_)))))))));refine Cd.eP O (bV O (cy (b9 ?_)));refine bG O ?_;exact⟨by rw [bad (.inr (.inl ⟨hx,hy,x7,x9⟩))],ay⟩
     skip
     refine ar O (aq O (ar O (aq O (ar O (aq O ?_)))));refine bR 94 O (fun _=>?_) (fun h=>absurd hx h);refine ar O (aq O (ar O (aq O (ar O (aq O (ar O (aq O ?_)))))));refine bR 98 O (fun _=>?_) (fun h=>absurd hy h);refine ar O (aq O (ar O ?_));refine eT gr (by decide) O O (ar O (aT gr O (ar O (a7 gr O ?_))));refine ar O (aq O (ar O ?_));refine aw fc.top.2 O (ar O (bn fc.top O ?_));refine ar O (aq O (ar O ?_));refine aw nG.2 O (ar O (a6 nG O ?_));refine ar O (aq O (ar O (aq O (ar O (aq O ?_)))));refine bR 111 O (fun dq=>?_) (fun dq=>?_)
     ·skip
      refine ar O (aq O (ar O ?_));refine eT gr (by decide) O O (ar O (aT gr O (ar O (a7 gr O ?_))));refine ar O (aq O (ar O ?_));refine aw fc.top.2 O (ar O (bn fc.top O ?_));refine ar O (aq O (ar O ?_));refine aw nG.2 O (ar O (a6 nG O ?_));refine ar O (aq O (ar O (aq O (ar O (aA O ?_)))));refine aJ _ O (fun mK=>?_) (fun mK=>?_)
      ·refine bV O (cy (b9 ?_));refine bG O ?_;exact⟨by rw [bad (.inr (.inr ⟨hx,hy,dq,mK⟩))],ay⟩
      refine aC O (aI O (aM O (tQ ?_)));exact⟨k+1,by omega,(Wn O),ay,by omega,more (fun _ hb=>by
       rcases hb with hb | ⟨b1,b2,b3,b4⟩ | ⟨b1,b2,b3,b4⟩
       ·exact pg hb
       ·exact x9 b4
       exact mK b4)⟩
     refine au O (au O (au O (au O (au O (au O (au O (au O (au O (au O (au O (au O ?_)))))))))));refine ar O (aA O ?_);refine Cd.dO O (aC O (aI O (aM O (tQ ?_))));exact⟨k+1,by omega,(Wn O),ay,by omega,more (fun _ hb=>by
      rcases hb with hb | ⟨b1,b2,b3,b4⟩ | ⟨b1,b2,b3,b4⟩
      ·exact pg hb
      ·exact x9 b4
      exact dq b3)⟩
    skip
    refine au O (au O (au O (au O (au O (au O (au O (au O (au O (au O (au O (au O ?_)))))))))));refine ar O (aq O (ar O (aq O (ar O (aq O (ar O (aq O ?_)))))));refine bR 94 O (fun _=>?_) (fun h=>absurd hx h);refine ar O (aq O (ar O (aq O (ar O (aq O (ar O (aq O ?_)))))));refine bR 98 O (fun _=>?_) (fun h=>absurd hy h);refine ar O (aq O (ar O ?_));refine eT gr (by decide) O O (ar O (aT gr O (ar O (a7 gr O ?_))));refine ar O (aq O (ar O ?_));refine aw fc.top.2 O (ar O (bn fc.top O ?_));refine ar O (aq O (ar O ?_));refine aw nG.2 O (ar O (a6 nG O ?_));refine ar O (aq O (ar O (aq O (ar O (aq O ?_)))));refine bR 111 O (fun dq=>?_) (fun dq=>?_)
    ·skip
     refine ar O (aq O (ar O ?_));refine eT gr (by decide) O O (ar O (aT gr O (ar O (a7 gr O ?_))));refine ar O (aq O (ar O ?_));refine aw fc.top.2 O (ar O (bn fc.top O ?_));refine ar O (aq O (ar O ?_));refine aw nG.2 O (ar O (a6 nG O ?_));refine ar O (aq O (ar O (aq O (ar O (aA O ?_)))));refine aJ _ O (fun mK=>?_) (fun mK=>?_)
     ·refine bV O (cy (b9 ?_));refine bG O ?_;exact⟨by rw [bad (.inr (.inr ⟨hx,hy,dq,mK⟩))],ay⟩
     refine aC O (aI O (aM O (tQ ?_)));exact⟨k+1,by omega,(Wn O),ay,by omega,more (fun _ hb=>by
      rcases hb with hb | ⟨b1,b2,b3,b4⟩ | ⟨b1,b2,b3,b4⟩
      ·exact pg hb
      ·exact x7 b3
      exact mK b4)⟩
    refine au O (au O (au O (au O (au O (au O (au O (au O (au O (au O (au O (au O ?_)))))))))));refine ar O (aA O ?_);refine Cd.dO O (aC O (aI O (aM O (tQ ?_))));exact⟨k+1,by omega,(Wn O),ay,by omega,more (fun _ hb=>by
     rcases hb with hb | ⟨b1,b2,b3,b4⟩ | ⟨b1,b2,b3,b4⟩
     ·exact pg hb
     ·exact x7 b3
     exact dq b3)⟩
   refine au O (au O (au O (au O (au O (au O (au O (au O (au O (au O (au O (ar O ?_)))))))))));refine aq O (ar O (aq O (au O (au O (au O (au O (au O (au O (au O (au O (au O ?_)))))))))));refine au O (au O (au O (ar O (aq O (ar O (aq O (ar O (aq O (ar O (aq O ?_))))))))));refine bR 94 O (fun _=>?_) (fun h=>absurd hx h);refine ar O (aq O (ar O (aq O (ar O (aq O (ar O (aq O ?_)))))));refine bR 98 O (fun h=>absurd h hy) (fun _=>?_);refine au O (au O (au O (au O (au O (au O (au O (au O (au O (au O (au O (ar O ?_)))))))))));refine aq O (ar O (aq O (au O (au O (au O (au O (au O (au O (au O (au O (au O ?_)))))))))));refine au O (au O (au O (ar O (aA O ?_))));refine Cd.dO O (aC O (aI O (aM O (tQ ?_))));exact⟨k+1,by omega,(Wn O),ay,by omega,more (fun _ hb=>by
    rcases hb with hb | ⟨b1,b2,b3,b4⟩ | ⟨b1,b2,b3,b4⟩
    ·exact pg hb
    ·exact hy b2
    exact hy b2)⟩
  refine au O (au O (ar O (aq O (ar O (aq O (au O (au O (au O (au O (au O (au O ?_)))))))))));refine au O (au O (au O (au O (au O (ar O (aq O (ar O (aq O (au O (au O (au O ?_)))))))))));refine au O (au O (au O (au O (au O (au O (au O (au O (au O (ar O (aq O (ar O ?_)))))))))));refine aq O (ar O (aq O (ar O (aq O ?_))));refine bR 94 O (fun h=>absurd h hx) (fun _=>?_);refine au O (au O (ar O (aq O (ar O (aq O (au O (au O (au O (au O (au O (au O ?_)))))))))));refine au O (au O (au O (au O (au O (ar O (aq O (ar O (aq O (au O (au O (au O ?_)))))))))));refine au O (au O (au O (au O (au O (au O (au O (au O (au O (ar O (aA O ?_))))))))));refine Cd.dO O (aC O (aI O (aM O (tQ ?_))));exact⟨k+1,by omega,(Wn O),ay,by omega,more (fun _ hb=>by
   rcases hb with hb | ⟨b1,b2,b3,b4⟩ | ⟨b1,b2,b3,b4⟩
   ·exact pg hb
   ·exact hx b1
   exact hx b1)⟩
 refine bj O (bl (dd O ?_));refine bG O ⟨?_,aD⟩;rw [show iH M i f=true from dF (fun k' cE fK=>hK k' (by omega) fK)]
theorem K0{w:aa}{A:ai}{n:Nat}{f:Nat->ab}(h:Rd w A (n+1) f):Rd w A 1 (fun _=>f 0):=fun j hj=>by
 obtain rfl:j=0:=by omega
 exact h 0 (by omega)
theorem TR{α:Type}{l:List α}{i:Nat}{x:α}(h:l[i]?=some x):l.set i x=l:=by
 apply List.ext_getElem?;intro j;rw [jy]
 split
 ·rename_i e;subst e;rw [aF (fu.1 h).1,h]
 rfl
theorem Ts{n F:Nat}{M:ag}(h:jO n F M){r q g:Nat}(hr:r<n)(hq:q<F)(hg:g<F)(PI:q≠g)(h1:cell M r q= -1)(h2:cell M r g= -1):fX (fX (put M r q g) r q (-1)) r g (-1)=M:=by
 have hl:=h.1;have bw:=h.row hr;have e:∀(p:ah),gl (M.set r p) r=p:=fun p=>by rw [xN (by omega),aF O]
 have g1:(gl M (r:Nat))[q]?=some (-1):=by rw [dE (by omega),<-bQ (by omega)];exact aS some h1
 have g2:(gl M (r:Nat))[g]?=some (-1):=by rw [dE (by omega),<-bQ (by omega)];exact aS some h2
 unfold put fX;simp only [e,List.set_set];have e2:((((gl M (r:Nat)).set q (g:Int)).set g (q:Int)).set q (-1)).set g (-1)=gl M (r:Nat):=by
  apply List.ext_getElem?;intro j;simp only [jy,iS]
  by_cases ej:g=j
  ·subst ej;rw [aF rfl,aF (by omega),g2]
  rw [aB ej]
  by_cases AE:q=j
  ·subst AE;rw [aF rfl,aF (by omega),g1]
  rw [aB AE,aB ej,aB AE]
 rw [e2];exact TR (by rw [dE (by omega),cQ (by omega)])
theorem S8{α:Type}(a b c:List α):(a++ (b++c)).Perm (b++ (a++c)):=by
 rw [<-fB,<-fB];exact List.Perm.append_right _ gB
def gp(Ab:ai)(A:ai)(n c F used:Nat)(Al:ai)(nl cl:Nat)(outs:List aH)(rs:List aH)(M:ag)(ks:List Ck):List Ck:=
 Bx 179 4 Ab [.slice A n c,aj F,aj used,.slice Al nl cl]::aQ 37 Al nl cl outs::(aW 24 2 A n c rs M++ks)
theorem LQ(n F:Nat)(wa:n<=5)(hF:2<=F/\F<=400)(Ab A:ai)(c:Nat)(rs:List aH):∀(fuel at_ met:Nat) (M:ag),Inv n F M met at_->F*n+1<=fuel+at_->∀(w0 w:aa) (ks:List Ck) (Al:ai) (nl cl:Nat) (outs:List aH) (f i:Nat),at_=f*n+i->i<=n->
 St w0 w (gp Ab A n c F met Al nl cl outs rs M ks)->nl+ (grow n F iH (fun L=>decide (bN L)) fuel at_ met M).length<=4000000000000->
 aG prog 200 [.pointer Ab,aj f,aj i] w (fun v w'=>∃A' c',∃new:List bC,v= .tuple #[]/\(∀m∈new,m.ok)/\new.map (·.xss)=grow n F iH (fun L=>decide (bN L)) fuel at_ met M/\
  St w0 w' (gp Ab A n c F met A' (nl+new.length) c' (outs++new.map (·.top)) rs M (b7 24 2 new++ks))):=by
 intro fuel
 induction fuel using Nat.strongRecOn with
 | _ fuel ih=>
 intro at_ met M hI OZ w0 w ks Al nl cl outs f i lq hi hS hB;have k5:=hI.n0;have ry:=hI.kb;have hlen:=hI.cM.1;have hle:=hI.le;unfold gp at hS;refine bs func200 O ntmps200 O (Jy O) ?_;refine oN (α:=Nat×Nat) (fun z=> [(0,.pointer Ab),(1,aj (z.1:Int)),(2,aj (z.2:Int))]) (fun z w'=>w'=w/\at_=z.1*n+z.2/\z.2<n) ?_ ?_
 ·refine aY O (eT (hS.rd 0 O) (Nat.succ_pos _) O O (aT (hS.rd 0 O) O (a7 (hS.rd 0 O) O (aO (tu _ _ _ _) O ?_))));rintro _ w ⟨rfl,rfl⟩;refine aA O ?_;have iZ:f*n<=2000:=by
   have h1:met*n<=F*n:=Nat.mul_le_mul_right n ry;have h2:F*n<=F*5:=Nat.mul_le_mul_left F wa;omega
  have jn:f<=f*n:=Nat.le_mul_of_pos_right f k5;refine aJ _ O (fun h1=>?_) (fun h1=>?_)
  ·refine aC O (aI O (aM O (tQ ?_)));exact⟨(f+1,0),(Wn O),O,by show at_=(f+1)*n+0;rw [Nat.succ_mul];omega,k5⟩
  ·refine sc O (tQ ?_);exact⟨(f,i),(Wn O),O,lq,by show i<n;omega⟩
 rintro⟨q,r⟩ e w ⟨rfl,Cf,eM⟩;dsimp only at Cf eM|-;have hr:at_%n=r:=by rw [Cf,Nat.add_comm,Nat.add_mul_mod_self_right,Nat.mod_eq_of_lt eM]
 have hq:at_ / n=q:=by rw [Cf,Nat.add_comm,Nat.add_mul_div_right _ _ k5,Nat.div_eq_of_lt eM,Nat.zero_add]
 clear lq hi;refine aY O (eT (hS.rd 0 O) (Nat.succ_pos _) O O (aT (hS.rd 0 O) O (kk (hS.rd 0 O) O O O O O (aq O ?_))));refine bR 24 O (fun h1=>?_) (fun h1=>?_)
 ·have l4:r=0:=by
   have:q=met:=by omega
   subst this;omega
  have l3:q=met:=by omega
  subst l3;subst l4;obtain⟨f',rfl⟩:∃f',fuel=f'+1:=⟨fuel - 1,by have:q*n<=F*n:=Nat.mul_le_mul_right n ry;omega⟩;have jF:grow n F iH (fun L=>decide (bN L)) (f'+1) at_ q M=if q=F/\(fun(L:ag)=>decide (bN L)) M=true then [M]else []:=by
   show(if _ then _ else _)=_;rw [aF (by omega)]
  rw [jF]at hB|-;refine au O (au O (au O (au O (au O (au O (aA O ?_))))));refine Cd.eP O (aC O (eT (hS.rd 0 O) (Nat.succ_pos _) O O (aT (hS.rd 0 O) O (a7 (hS.rd 0 O) O (ED (by exact inferInstance) (by exact O) O O O (lN hS O ?_))))));intro A6 w6 bg;refine gU 1 0 bg O O O O O O O ?_;intro w7 bm;have bm:St w0 w7 (Bx 37 1 A6 [.slice A n c]::Bx 179 4 Ab [.slice A n c,aj F,aj q,.slice Al nl cl]::aQ 37 Al nl cl outs::(aW 24 2 A n c rs M++ks)):=bm;refine aq O (eT (bm.rd 1 O) (Nat.succ_pos _) O O (aT (bm.rd 1 O) O (kk (bm.rd 1 O) O O O O O (aq O ?_))));refine bR 43 O (fun h2=>?_) (fun h2=>?_)
  ·have sF:=bm.cap 3 O;have uc:∀ {w'},St w0 w' (Bx 37 1 A6 [.slice A n c]::Bx 179 4 Ab [.slice A n c,aj F,aj q,.slice Al nl cl]::aQ 37 Al nl cl outs::(aW 24 2 A n c rs M++ks))->bu w' A n rs M:=fun h=>h.tail.tail.tail.jL hlen
   refine ar O (ak.dz 0 (bm.rd 0 O) O O O (ar O (aO (QE A n c rs M _ (uc bm) sF.1 sF.2) O ?_)));rintro _ w8 ⟨rfl,ax⟩;have bI:=bm.ao ax.below;refine aA O ?_;have C6:q=F:=by omega
   have qZ:=bI.rd 0 O;have tY:=bI.rd 1 O;refine aJ _ O (fun h3=>?_) (fun h3=>?_)
   ·rw [aF ⟨C6,dF h3⟩]at hB|-;simp only [List.length_singleton]at hB;refine jc [8,11] [yP (Ab),yP (Ab),yP (Ab),yP (az (Ab) 3),yS (Al) (nl) (cl),.ex (.agg #[.slice (A) (n) (c)]),.pr (fun v w'=>∃A7 c7 eN,v= .agg #[.slice A7 n c7]/\eN.length=n/\St w0 w' ((Bx 37 1 A6 [.slice A n c]::Bx 179 4 Ab [.slice A n c,aj F,aj q,.slice Al nl cl]::aQ 37 Al nl cl outs::(aW 24 2 A n c rs M++ks))++aW 24 2 A7 n c7 eN M)),.pr (fun v w'=>∃A7 c7 eN A9,v= .slice A9 1 1/\eN.length=n/\St w0 w' (aQ 37 A9 1 1 [⟨A7,n,c7⟩]::((Bx 37 1 A6 [.slice A n c]::Bx 179 4 Ab [.slice A n c,aj F,aj q,.slice Al nl cl]::aQ 37 Al nl cl outs::(aW 24 2 A n c rs M++ks))++aW 24 2 A7 n c7 eN M))),.pr (fun v w'=>∃A7 c7 eN bB bM,v= .slice bB (nl+1) bM/\eN.length=n/\St w0 w' ((Bx 37 1 A6 [.slice A n c]::Bx 179 4 Ab [.slice A n c,aj F,aj q,.slice Al nl cl]::aQ 37 bB (nl+1) bM (outs++ [⟨A7,n,c7⟩])::(aW 24 2 A n c rs M++ks))++aW 24 2 A7 n c7 eN M)),yP (Ab),yP (az (Ab) 3),.pr (fun _ w'=>∃A7 c7 eN bB bM,eN.length=n/\St w0 w' ((Bx 37 1 A6 [.slice A n c]::Bx 179 4 Ab [.slice A n c,aj F,aj q,.slice bB (nl+1) bM]::aQ 37 bB (nl+1) bM (outs++ [⟨A7,n,c7⟩])::(aW 24 2 A n c rs M++ks))++aW 24 2 A7 n c7 eN M))] (by kernel_rfl) (by kernel_rfl) (ly (ly (ly (ly (ly (ly (cq.2 ⟨Ye.ct (fun v w w' h hb=>by obtain⟨A7,c7,eN,hv,hl,hT⟩:=h;exact⟨A7,c7,eN,hv,hl,hT.ao hb⟩),(cq.2 ⟨Ye.ct (fun v w w' h hb=>by obtain⟨A7,c7,eN,A9,hv,hl,hT⟩:=h;exact⟨A7,c7,eN,A9,hv,hl,hT.ao hb⟩),(cq.2 ⟨Ye.ct (fun v w w' h hb=>by obtain⟨A7,c7,eN,bB,bM,hv,hl,hT⟩:=h;exact⟨A7,c7,eN,bB,bM,hv,hl,hT.ao hb⟩),(ly (ly (cq.2 ⟨Ye.ct (fun v w w' h hb=>by obtain⟨A7,c7,eN,bB,bM,hl,hT⟩:=h;exact⟨A7,c7,eN,bB,bM,hl,hT.ao hb⟩),(fun _ h=>by cases h)⟩)))⟩)⟩)⟩))))))) ?_ ?_
    ·refine⟨b8 O,b8 O,cP fun _ _ hb _ _ _=>eT (tY.below hb) (Nat.succ_pos _) O O (bJ O O),cP fun _ _ hb _ _ _=>aT (tY.below hb) O (bJ O O),cP fun _ _ hb _ _ _=>a7 (tY.below hb) O (bJ O O),cP fun _ _ hb _ _ _=>ak.dz 0 (qZ.below hb) O O O (bJ O O),?_,?_,?_,?_,?_,?_,av⟩
     ·refine cP fun e1 w1 hb hp aZ hq=>?_
      refine aO (LX A n c rs M _ (uc (bI.ao hb)) (by omega) (fun i hi=>by have:=(uc (bI.ao hb)).cM hI.cM (k:=(i:Int)) (by omega) (by omega);simp only [rg,eH]at this;omega)) O ?_;rintro _ w2 ⟨A7,c7,eN,rfl,kB,ax⟩;exact ak.n (eS.dn O ax.below ⟨A7,c7,eN,O,kB,(bI.ao hb).call2 ax⟩)
     ·refine cP fun e1 w1 hb hp aZ hq=>?_
      obtain⟨A7,c7,eN,Bq,kB,hT⟩:=(hp 6 _ _ (by kernel_rfl) rfl rfl (by kernel_rfl));refine tB (St.refl _) (by exact Bq) O O ?_;intro A9 w9 ax;exact ak.n (eS.dn O ax.below ⟨A7,c7,eN,A9,O,kB,hT.call ax⟩)
     ·refine jh fun e1 w1 hb hp aZ hq=>?_
      obtain⟨A7,c7,eN,A9,ND,kB,hT⟩:=(hp 7 _ _ (by kernel_rfl) rfl rfl (by kernel_rfl));refine iU 3 hT O (hT.dB 0 O) O (by exact ND) O (by omega) (by omega) O ?_;intro bB bM dW sB;exact ak.n (eA.dn O ⟨A7,c7,eN,bB,bM,O,kB,sB.tail⟩)
     ·refine dP 1 fun e1 w1 hp aZ hq=>?_
      have cS:=hp 8 _ _ (by kernel_rfl) O O (by kernel_rfl);obtain⟨A7,c7,eN,bB,bM,Br,kB,hT⟩:=cS;refine eT ((hT.rd 1 O)) (Nat.succ_pos _) O O (ak.n (fO O (by exact O)))
     ·refine dP 1 fun e1 w1 hp aZ hq=>?_
      have cS:=hp 8 _ _ (by kernel_rfl) O O (by kernel_rfl);obtain⟨A7,c7,eN,bB,bM,Br,kB,hT⟩:=cS;refine aT ((hT.rd 1 O)) O (ak.n (fO O (by exact O)))
     ·refine mD 1 fun e1 w1 hp aZ hq=>?_
      have cS:=hp 8 _ _ (by kernel_rfl) O O (by kernel_rfl);obtain⟨A7,c7,eN,bB,bM,Br,kB,hT⟩:=cS;refine od 1 hT O O (by exact Br) O O ?_;intro eZ sC;exact ak.n (eA.st O ⟨A7,c7,eN,bB,bM,kB,sC⟩)
    intro u w9 _ hu _ _;obtain⟨A7,c7,eN,bB,bM,kB,hT⟩:=hu 11 _ rfl (by kernel_rfl);refine sd O (wT ?_);refine⟨bB,bM,[⟨⟨A7,n,c7⟩,eN,M⟩],rfl,(fun m hm=>by simp at hm;subst hm;exact hlen),rfl,?_⟩;have hT:=hT.tail;unfold gp;simp only [b7,bC.qN,List.flatMap_cons,List.flatMap_nil,eG,List.map_cons,List.map_nil,List.length_singleton];refine hT.perm (List.Perm.cons _ (List.Perm.cons _ ?_));show((aW 24 2 A n c rs M++ks)++aW 24 2 A7 n c7 eN M).Perm _;rw [fB];exact List.Perm.append_left _ gB
   ·rw [aB (fun h=>h3 (kc h.2))];refine bV O (wT ?_);exact⟨Al,cl,[],rfl,(fun m hm=>by cases hm),rfl,by simpa [b7,gp]using bI.tail⟩
  ·rw [aB (fun h=>h2 (by rw [h.1]))];refine au O (au O (aA O ?_));refine Cd.dO O (bV O (wT ?_));exact⟨Al,cl,[],rfl,(fun m hm=>by cases hm),rfl,by simpa [b7,gp]using bm.tail⟩
 ·have l3:q<met:=by
   apply kK;intro h;have h3:(met+1)*n<=q*n:=Nat.mul_le_mul_right n (by omega);rw [Nat.succ_mul]at h3;omega
  have sD:at_≠met*n:=by
   have h3:(q+1)*n<=met*n:=Nat.mul_le_mul_right n (by omega);rw [Nat.succ_mul]at h3;omega
  have Ps:met*n<=F*n:=Nat.mul_le_mul_right n ry;obtain⟨f',rfl⟩:∃f',fuel=f'+1:=⟨fuel - 1,by omega⟩;refine ar O (aq O (ar O (aq O (ar O ?_))));refine eT (hS.rd 0 O) (Nat.succ_pos _) O O (ar O (aT (hS.rd 0 O) O (ar O (kk (hS.rd 0 O) O O O O O ?_))));refine ar O (aA O ?_);refine kJ O (by omega) ?_;have hR:=hS.tail.tail.jL hlen;have bw:=hR.at_ (i:=(r:Int)) (by omega) (by omega);have Dc:=hR.cM hI.cM (k:=(r:Int)) (by omega) (by omega);refine aC O (eT (hS.rd 0 O) (Nat.succ_pos _) O O (aT (hS.rd 0 O) O (a7 (hS.rd 0 O) O (aq O (aw hR.top.2 O (bn hR.top O (aq O (aw bw.2 O (a6 bw O ?_)))))))));refine aA O (aJ _ O (fun h2=>?_) (fun h2=>?_))
  ·have hk:0<=cell M (at_%n) (at_ / n:Nat):=by rw [hr,hq];exact h2
   have jF:grow n F iH (fun L=>decide (bN L)) (f'+1) at_ met M=grow n F iH (fun L=>decide (bN L)) f' (at_+1) met M:=by
    show(if _ then _ else _)=_;rw [aB sD,aF hk]
   rw [jF]at hB|-;refine aC O (aI O ?_);refine aO (ih f' (by omega) (at_+1) met M (hI.next sD hk) (by omega) w0 w ks Al nl cl outs q (r+1) (by omega) (by omega) hS hB) O ?_;rintro _ w2 ⟨A',c',new,rfl,b6,hx,hT⟩;refine bW O (wT ?_);exact⟨A',c',new,O,b6,hx,hT⟩
  ·have aZ:¬0<=cell M (at_%n) (at_ / n:Nat):=by rw [hr,hq];exact h2
   have jF:grow n F iH (fun L=>decide (bN L)) (f'+1) at_ met M=(List.range' (q+1) (min met (F - 1) - q)).flatMap (body n F iH (fun L=>decide (bN L)) f' at_ met M):=by
    rw [F5 sD aZ,hq]
   rw [jF]at hB|-;refine aC O (eT (hS.rd 0 O) (Nat.succ_pos _) O O (aT (hS.rd 0 O) O (kk (hS.rd 0 O) O O O O O ?_)));refine aq O (aI O (aA O ?_));refine Cd.loop (α:=Nat×ai×Nat×List bC) (fun z=> [(0,.pointer Ab),(1,aj q),(2,aj r),(7,aj met),(8,aj (z.1:Int))])
    (fun z w'=>St w0 w' (gp Ab A n c F met z.2.1 (nl+z.2.2.2.length) z.2.2.1 (outs++z.2.2.2.map (·.top)) rs M (b7 24 2 z.2.2.2++ks))/\q+1<=z.1/\z.1<=q+1+ (min met (F - 1) - q)/\(∀m∈z.2.2.2,m.ok)/\z.2.2.2.map (·.xss)=(List.range' (q+1) (z.1 - (q+1))).flatMap (body n F iH (fun L=>decide (bN L)) f' at_ met M))
    (fun z=>q+2+ (min met (F - 1) - q) - z.1) (q+1,Al,cl,[]) ⟨rfl,rfl,rfl,rfl,rfl,av⟩ ⟨by simpa [b7,gp]using hS,cO _,Nat.le_add_right _ _,(fun m hm=>by cases hm),by simp⟩ ?_
   rintro⟨g,Ag,cg,new⟩ e w4 ⟨aN,sJ,Cu,mM,l7⟩;dsimp only at aN sJ Cu mM l7|-;unfold gp at aN;have Hd:∀ {w5:aa},St w0 w5 (gp Ab A n c F met Ag (nl+new.length) cg (outs++new.map (·.top)) rs M (b7 24 2 new++ks))->g=q+1+ (min met (F - 1) - q)->∃A' c',∃wN:List bC,(Value.tuple #[]:ab)= .tuple #[]/\(∀m∈wN,m.ok)/\wN.map (·.xss)=(List.range' (q+1) (min met (F - 1) - q)).flatMap (body n F iH (fun L=>decide (bN L)) f' at_ met M)/\St w0 w5 (gp Ab A n c F met A' (nl+wN.length) c' (outs++wN.map (·.top)) rs M (b7 24 2 wN++ks)):=fun h nD=> ⟨Ag,cg,new,O,mM,by rw [l7];congr 2;omega,h⟩
   refine aY O (bR 83 O (fun h3=>?_) (fun h3=>?_))
   ·refine ar O (aq O (ar O (aq O (ar O ?_))));refine eT (aN.rd 0 O) (Nat.succ_pos _) O O (ar O (aT (aN.rd 0 O) O (ar O (kk (aN.rd 0 O) O O O O O ?_))));refine ar O (aA O ?_);refine aJ _ O (fun h4=>?_) (fun h4=>?_)
    ·have kY:g<q+1+ (min met (F - 1) - q):=by omega
     have ik:=aN.tail.tail.jL hlen;have hrsl:rs.length=n:=ik.top.1;have bw:=ik.at_ (i:=(r:Int)) (by omega) (by omega);have hrnF:=ik.cM hI.cM (k:=(r:Int)) (by omega) (by omega);have gY:=D6 (body n F iH (fun L=>decide (bN L)) f' at_ met M) sJ kY;have Da:=JG (body n F iH (fun L=>decide (bN L)) f' at_ met M) sJ kY;have gX:new.length=((List.range' (q+1) (g - (q+1))).flatMap (body n F iH (fun L=>decide (bN L)) f' at_ met M)).length:=by rw [<-l7];simp
     refine aC O (eT (aN.rd 0 O) (Nat.succ_pos _) O O (aT (aN.rd 0 O) O (a7 (aN.rd 0 O) O (aq O (aw ik.top.2 O (bn ik.top O (aq O (aw bw.2 O (a6 bw O ?_)))))))));refine aA O (aJ _ O (fun h5=>?_) (fun h5=>?_))
     ·have im:body n F iH (fun L=>decide (bN L)) f' at_ met M g=[]:=by unfold body;rw [hr,if_pos (show 0<=cell M r g from h5)]
      refine aC O (aI O (aM O (tQ ?_)));refine⟨(g+1,Ag,cg,new),by show _ - (g+1)<_ - g;omega,(Wn O),aN,by show q+1<=g+1;omega,by show g+1<=_;omega,mM,?_⟩;show new.map _=(List.range' (q+1) (g+1 - (q+1))).flatMap _;rw [gY,im,eG,l7]
     ·have nw:=hI.put sD aZ (g:=g) (by omega) (by omega) (by omega) (by rw [hr];exact h5);rw [hr,hq]at nw;have im:body n F iH (fun L=>decide (bN L)) f' at_ met M g=if iH (put M r q g) r q=true then grow n F iH (fun L=>decide (bN L)) f' (at_+1) (max met (g+1)) (put M r q g)else []:=by
       unfold body;rw [hr,hq,aB (show ¬0<=cell M r g from h5)]
      have sZ:=hI.cM.fX eM q (g:Int);have Qd:fX (fX (put M r q g) r q (-1)) r g (-1)=M:=Ts hI.cM eM (by omega) (by omega) (by omega) ((hI.cells r q eM (by omega) (by omega)).resolve_right (fun h=>h2 h.1)) ((hI.cells r g eM (by omega) (by omega)).resolve_right (fun h=>h5 h.1));have OD:0<=cell (put M r q g) r q:=by
       rw [vo hI.cM eM (by omega) (by omega) (by omega),aB (by omega),aF ⟨rfl,rfl⟩];omega
      refine cj O ?_;refine jc [19,21] [yP (Ab),yP (Ab),yP (az (Ab) 0),yS (A) (n) (c),yI ((r:Int)),yP (az (A) ((r:Int)).toNat),yS ((rg (rs) ((r:Int))).a) ((rg (rs) ((r:Int))).n) ((rg (rs) ((r:Int))).c),yI ((q:Int)),yP (Ab),yP (Ab),yP (az (Ab) 0),yS (A) (n) (c),yI ((r:Int)),yP (az (A) ((r:Int)).toNat),yS ((rg (rs) ((r:Int))).a) ((rg (rs) ((r:Int))).n) ((rg (rs) ((r:Int))).c),yI ((g:Int)),yI ((g:Int)),yI ((q:Int)),yP (az ((rg (rs) ((r:Int))).a) ((q:Int)).toNat),.pr (fun _ w'=>St w0 w' (gp Ab A n c F met Ag (nl+new.length) cg (outs++new.map (·.top)) rs (fX M r q g) (b7 24 2 new++ks))),yP (az ((rg (rs) ((r:Int))).a) ((g:Int)).toNat),.pr (fun _ w'=>St w0 w' (gp Ab A n c F met Ag (nl+new.length) cg (outs++new.map (·.top)) rs (put M r q g) (b7 24 2 new++ks)))] (by kernel_rfl) (by kernel_rfl) (ly (ly (ly (ly (ly (ly (ly (ly (ly (ly (ly (ly (ly (ly (ly (ly (ly (ly (ly (cq.2 ⟨Ye.ct (fun v w w' h hb=>h.ao hb),(ly (cq.2 ⟨Ye.ct (fun v w w' h hb=>h.ao hb),(fun _ h=>by cases h)⟩))⟩)))))))))))))))))))) ?_ ?_
      ·refine⟨b8 O,cP fun _ _ hb _ _ _=>eT ((aN.rd 0 O).below hb) (Nat.succ_pos _) O O (bJ O O),cP fun _ _ hb _ _ _=>aT ((aN.rd 0 O).below hb) O (bJ O O),cP fun _ _ hb _ _ _=>a7 ((aN.rd 0 O).below hb) O (bJ O O),b8 O,cP fun _ _ hb _ _ _=>aw (ik.top.ao hb).2 O (bJ O O),cP fun _ _ hb _ _ _=>bn (ik.top.ao hb) O (bJ O O),b8 O,b8 O,cP fun _ _ hb _ _ _=>eT ((aN.rd 0 O).below hb) (Nat.succ_pos _) O O (bJ O O),cP fun _ _ hb _ _ _=>aT ((aN.rd 0 O).below hb) O (bJ O O),cP fun _ _ hb _ _ _=>a7 ((aN.rd 0 O).below hb) O (bJ O O),b8 O,cP fun _ _ hb _ _ _=>aw (ik.top.ao hb).2 O (bJ O O),cP fun _ _ hb _ _ _=>bn (ik.top.ao hb) O (bJ O O),b8 O,b8 O,b8 O,cP fun _ _ hb _ _ _=>aw (bw.ao hb).2 O (bJ O O),?_,?_,?_,av⟩
       ·refine jh fun e1 w1 hb hp aZ hq=>?_
        exact tE (pre:=[Bx 179 4 Ab [.slice A n c,aj F,aj met,.slice Ag (nl+new.length) cg],aQ 37 Ag (nl+new.length) cg (outs++new.map (·.top))]) r (f:=(q:Int)) (aN.ao hb) (by omega) (by omega) O O (by omega) fun w6 bg=>ak.n (eA.st O bg)
       ·refine dP 1 fun e1 w1 hp aZ hq=>?_
        have cS:=hp 19 _ _ (by kernel_rfl) O O (by kernel_rfl);have sY:=((show St w0 _ (_::_::(aW 24 2 A n c rs (fX M r q g)++_)) from cS).tail.tail.jL sZ.1).at_ (i:=(r:Int)) (by omega) (by omega);have rv:=sZ.1;refine aw (sY).2 O (ak.n (fO O (by exact O)))
       ·refine mD 1 fun e1 w1 hp aZ hq=>?_
        have cS:=hp 19 _ _ (by kernel_rfl) O O (by kernel_rfl);have sY:=((show St w0 _ (_::_::(aW 24 2 A n c rs (fX M r q g)++_)) from cS).tail.tail.jL sZ.1).at_ (i:=(r:Int)) (by omega) (by omega);have rv:=sZ.1;exact tE (pre:=[Bx 179 4 Ab [.slice A n c,aj F,aj met,.slice Ag (nl+new.length) cg],aQ 37 Ag (nl+new.length) cg (outs++new.map (·.top))]) r (f:=(g:Int)) cS (by omega) (by omega) O O (by omega) fun w7 bm=>ak.n (eA.st O bm)
      intro u w5 _ hu _ _;have aV:=hu 21 _ O (by kernel_rfl);generalize NZ:put M r q g=M' at*;have kB:=nw.cM.1;unfold gp at aV;have CQ:max (met:Int) ((g:Int)+1)=((max met (g+1):Nat):Int):=by omega
      refine ib O (aI O ?_);refine EJ O O O ?_;rw [CQ];refine eT (aV.rd 0 O) (Nat.succ_pos _) O O (aT (aV.rd 0 O) O (od 0 aV O O O O O ?_));intro w6 bg;have bg:St w0 w6 (gp Ab A n c F (max met (g+1)) Ag (nl+new.length) cg (outs++new.map (·.top)) rs M' (b7 24 2 new++ks)):=bg;refine zG 0 O ?_;refine oN (α:=ai×Nat×List bC) (fun z=> [(0,.pointer Ab),(1,aj q),(2,aj r),(7,aj met),(8,aj g)])
       (fun z w'=>St w0 w' (gp Ab A n c F (max met (g+1)) z.1 (nl+new.length+z.2.2.length) z.2.1 (outs++new.map (·.top)++z.2.2.map (·.top)) rs M' (b7 24 2 z.2.2++ (b7 24 2 new++ks)))/\(∀m∈z.2.2,m.ok)/\z.2.2.map (·.xss)=body n F iH (fun L=>decide (bN L)) f' at_ met M g) ?_ ?_
      ·refine aY O ?_;have BX:=bg;unfold gp at BX;refine aO (MU Ab A n c F rs M' r q _ (K0 (BX.rd 0 O)) (BX.tail.tail.jL kB) nw.cM nw.jK (by omega) eM (by omega) OD) O ?_;rintro _ w7 ⟨rfl,ax⟩;have bm:=bg.ao ax.below;refine aA O (Cd.cond O (fun h7=>?_) (fun h7=>?_))
       ·rw [aF h7]at im;rw [im]at Da;refine aC O (aI O ?_);refine aO (ih f' (by omega) (at_+1) (max met (g+1)) M' nw (by omega) w0 w7 (b7 24 2 new++ks) Ag (nl+new.length) cg (outs++new.map (·.top)) q (r+1) (by omega) (by omega) bm (by omega)) O ?_;rintro _ w8 ⟨A9,c9,fM,rfl,uC,uH,bI⟩;refine aM O (tQ ?_);exact⟨(A9,c9,fM),(Wn O),bI,uC,by rw [im];exact uH⟩
       ·rw [aB (by rw [h7];simp)]at im;refine sc O (tQ ?_);exact⟨(Ag,cg,[]),⟨rfl,rfl,rfl,rfl,rfl,av⟩,by simpa [b7]using bm,(fun m hm=>by cases hm),by rw [im];rfl⟩
      ·rintro⟨A9,c9,fM⟩ e w8 ⟨bI,uC,uH⟩;dsimp only at bI uC uH|-;have yL:=nw.cM.fX eM q (-1);unfold gp at bI;have vK:=bI.tail.tail.jL kB;have PS:=vK.at_ (i:=(r:Int)) (by omega) (by omega);refine cj O ?_;refine jc [17,19] [yP (Ab),yP (Ab),yP (az (Ab) 0),yS (A) (n) (c),yI ((r:Int)),yP (az (A) ((r:Int)).toNat),yS ((rg (rs) ((r:Int))).a) ((rg (rs) ((r:Int))).n) ((rg (rs) ((r:Int))).c),yI ((q:Int)),yP (Ab),yP (Ab),yP (az (Ab) 0),yS (A) (n) (c),yI ((r:Int)),yP (az (A) ((r:Int)).toNat),yS ((rg (rs) ((r:Int))).a) ((rg (rs) ((r:Int))).n) ((rg (rs) ((r:Int))).c),yI ((g:Int)),yP (az ((rg (rs) ((r:Int))).a) ((q:Int)).toNat),.pr (fun _ w'=>St w0 w' (gp Ab A n c F (max met (g+1)) A9 (nl+new.length+fM.length) c9 (outs++new.map (·.top)++fM.map (·.top)) rs (fX M' r q (-1)) (b7 24 2 fM++ (b7 24 2 new++ks)))),yP (az ((rg (rs) ((r:Int))).a) ((g:Int)).toNat),.pr (fun _ w'=>St w0 w' (gp Ab A n c F (max met (g+1)) A9 (nl+new.length+fM.length) c9 (outs++new.map (·.top)++fM.map (·.top)) rs (fX (fX M' r q (-1)) r g (-1)) (b7 24 2 fM++ (b7 24 2 new++ks))))] (by kernel_rfl) (by kernel_rfl) (ly (ly (ly (ly (ly (ly (ly (ly (ly (ly (ly (ly (ly (ly (ly (ly (ly (cq.2 ⟨Ye.ct (fun v w w' h hb=>h.ao hb),(ly (cq.2 ⟨Ye.ct (fun v w w' h hb=>h.ao hb),(fun _ h=>by cases h)⟩))⟩)))))))))))))))))) ?_ ?_
       ·refine⟨b8 O,cP fun _ _ hb _ _ _=>eT ((bI.rd 0 O).below hb) (Nat.succ_pos _) O O (bJ O O),cP fun _ _ hb _ _ _=>aT ((bI.rd 0 O).below hb) O (bJ O O),cP fun _ _ hb _ _ _=>a7 ((bI.rd 0 O).below hb) O (bJ O O),b8 O,cP fun _ _ hb _ _ _=>aw (vK.top.ao hb).2 O (bJ O O),cP fun _ _ hb _ _ _=>bn (vK.top.ao hb) O (bJ O O),b8 O,b8 O,cP fun _ _ hb _ _ _=>eT ((bI.rd 0 O).below hb) (Nat.succ_pos _) O O (bJ O O),cP fun _ _ hb _ _ _=>aT ((bI.rd 0 O).below hb) O (bJ O O),cP fun _ _ hb _ _ _=>a7 ((bI.rd 0 O).below hb) O (bJ O O),b8 O,cP fun _ _ hb _ _ _=>aw (vK.top.ao hb).2 O (bJ O O),cP fun _ _ hb _ _ _=>bn (vK.top.ao hb) O (bJ O O),b8 O,cP fun _ _ hb _ _ _=>aw (PS.ao hb).2 O (bJ O O),?_,?_,?_,av⟩
        ·refine jh fun e1 w1 hb hp aZ hq=>?_
         exact tE (pre:=[Bx 179 4 Ab [.slice A n c,aj F,aj (((max met (g+1):Nat):Int)),.slice A9 (nl+new.length+fM.length) c9],aQ 37 A9 (nl+new.length+fM.length) c9 (outs++new.map (·.top)++fM.map (·.top))]) r (f:=(q:Int)) (bI.ao hb) (by omega) (by omega) O O (by omega) fun w6 bg=>ak.n (eA.st O bg)
        ·refine dP 1 fun e1 w1 hp aZ hq=>?_
         have cS:=hp 17 _ _ (by kernel_rfl) O O (by kernel_rfl);have sY:=((show St w0 _ (_::_::(aW 24 2 A n c rs (fX M' r q (-1))++_)) from cS).tail.tail.jL yL.1).at_ (i:=(r:Int)) (by omega) (by omega);have rv:=yL.1;refine aw (sY).2 O (ak.n (fO O (by exact O)))
        ·refine mD 1 fun e1 w1 hp aZ hq=>?_
         have cS:=hp 17 _ _ (by kernel_rfl) O O (by kernel_rfl);have sY:=((show St w0 _ (_::_::(aW 24 2 A n c rs (fX M' r q (-1))++_)) from cS).tail.tail.jL yL.1).at_ (i:=(r:Int)) (by omega) (by omega);have rv:=yL.1;exact tE (pre:=[Bx 179 4 Ab [.slice A n c,aj F,aj (((max met (g+1):Nat):Int)),.slice A9 (nl+new.length+fM.length) c9],aQ 37 A9 (nl+new.length+fM.length) c9 (outs++new.map (·.top)++fM.map (·.top))]) r (f:=(g:Int)) cS (by omega) (by omega) O O (by omega) fun w7 bm=>ak.n (eA.st O bm)
       intro u w9 _ hu _ _;have bO:St w0 w9 (gp Ab A n c F (max met (g+1)) A9 (nl+new.length+fM.length) c9 (outs++new.map (·.top)++fM.map (·.top)) rs (fX (fX M' r q (-1)) r g (-1)) (b7 24 2 fM++ (b7 24 2 new++ks))):=hu 19 _ O (by kernel_rfl);rw [Qd]at bO;unfold gp at bO;refine ib O (eT (bO.rd 0 O) (Nat.succ_pos _) O O (aT (bO.rd 0 O) O (od 0 bO O O O O O ?_)));intro dW cJ;have cJ:St w0 dW (gp Ab A n c F met A9 (nl+new.length+fM.length) c9 (outs++new.map (·.top)++fM.map (·.top)) rs M (b7 24 2 fM++ (b7 24 2 new++ks))):=cJ;refine aq O (aI O (aM O (tQ ?_)));refine⟨(g+1,A9,c9,new++fM),by show _ - (g+1)<_ - g;omega,(Wn O),?_,by show q+1<=g+1;omega,by show g+1<=_;omega,fun m hm=>?_,?_⟩
       ·show St w0 dW (gp Ab A n c F met A9 (nl+ (new++fM).length) c9 (outs++ (new++fM).map (·.top)) rs M (b7 _ _ (new++fM)++ks));rw [dS,iT,wJ,<-Nat.add_assoc,<-fB];refine cJ.perm ?_;unfold gp;exact List.Perm.cons _ (List.Perm.cons _ (List.Perm.append_left _ (by rw [fB];exact S8 _ _ _)))
       ·rcases gQ.1 hm with hm | hm
        ·exact mM m hm
        ·exact uC m hm
       ·show(new++fM).map _=(List.range' (q+1) (g+1 - (q+1))).flatMap _;rw [gY,iT,l7,uH]
    ·refine bj O (bl (qF O ?_));refine Ea ?_;have nD:g=q+1+ (min met (F - 1) - q):=by omega
     exact Hd aN nD
   ·refine au O (au O (au O (au O (au O (au O (aA O ?_))))));refine Cd.dO O (bj O (bl (qF O ?_)));refine Ea ?_;have nD:g=q+1+ (min met (F - 1) - q):=by omega
    exact Hd aN nD
section
variable {P:Program} {N:Nat} {ops:Array Oper} {K:Env->aa->Prop} {rest:List Oper} {e:Env} {w0 w w':aa} {ks:List Ck} {d:Nat} {ty:ad} {pos:String} {af:Array Edge}
theorem KG{t el:ad}{z:ab}{b:Nat}[hU:bK P t (.slice el)][bL P el z 1 b]{x y:ae}(i:Nat){A:ai}{n c:Nat}{xs:List aH}{A':ai}{m c':Nat}{ys:List aH}(Ct:n=c)(hS:St w0 w ks)(hk:ks[i]?=some (aQ el A n c xs))(hR:eU w A' m ys)(hx:ev e x= .slice A n c)(hy:ev e y= .slice A' m c'){z0:ab}(hz:z.cells= #[z0])(nv:n+m<=9223372036854775807)(nB:(n+m)*b<=140737488355328)(hb:Nat.blt d N=true)(hK:∀A2 c2 w',Below w.heap.size w w'->St w0 w' (ks.set i (aQ el A2 (n+m) c2 (xs++ys)))->ak P N ops K rest (br e d (.slice A2 (n+m) c2)) w'):
 ak P N ops K (⟨some d,.call ⟨.builtin .append, #[x,y], #[t,t]⟩,ty,pos,af,none⟩::rest) e w:=
 .Lt i Ct hS hk hR.2 hx hy rfl hz (fun _ _=>rfl) (by simpa [maxLen]using nv) nB hb fun A2 c2 w' jU h=>hK A2 c2 w' jU (by
  rw [IX hR.1]at h;simpa [aQ]using h)
theorem Ty{R:ab->aa->Prop}{t u:Nat}{A A':ai}{n c n' c':Nat}(h:e t= .slice A n c)(h2:e u= .slice A' n' c')(hR:R (.tuple #[.slice A n c,.slice A' n' c']) w):tj t u R .ret e w:=by show R (.tuple #[e t,e u]) w;rw [h,h2];exact hR
end
theorem Td(u:Nat->ab){i:Nat}{v:ab}(h:u i=v):u=fun k=>if k=i then v else u k:=by
 funext k
 split
 ·rename_i e;rw [e,h]
 rfl
theorem eU.take{w:aa}{A:ai}{n l:Nat}{xs:List aH}(h:eU w A n xs)(hl:l<=n):eU w A l (xs.take l):=by
 refine⟨by rw [kM,h.1];omega,fun k hk=>?_⟩;obtain⟨q,h1,h2⟩:=h.2 k (by omega);exact⟨q,h1,by rw [h2];simp [oQ,hk,bX]⟩
theorem eU.drop{w:aa}{A:ai}{n c l:Nat}{xs:List aH}(h:eU w A n xs)(hl:l<=n)(hc:n<=c):eU w (cutAt A c l) (n - l) (xs.drop l):=by
 have:=h.cut (l:=l) (h:=n) (c:=c) hl (cO _) hc
 rwa [eI (by rw [List.length_drop,h.1];omega)]at this
theorem y5{t1 t2:ad}{l l':List bC}(h:l.Sublist l'):(b7 t1 t2 l).Sublist (b7 t1 t2 l'):=by
 induction h with
 | slnil=>exact na _
 | cons a _ ih=>exact ih.trans (iw _ _)
 | cons_cons a _ ih=>exact List.Sublist.append (na _) ih
theorem I5{t1 t2:ad}{l l':List bC}(h:l.Perm l'):(b7 t1 t2 l).Perm (b7 t1 t2 l'):=h.flatMap_right _
def gw(m:bC)(l:List bC):List bC:=l.take (mz m.xss (l.map (·.xss)))++m::l.drop (mz m.xss (l.map (·.xss)))
theorem Qw(m:bC)(l:List bC):(gw m l).map (·.xss)=mR m.xss (l.map (·.xss)):=by simp [gw,mR,List.map_take,List.map_drop]
theorem Ib(m:bC)(l:List bC):(gw m l).Perm (m::l):=Ic m l _
def eY(F:Nat)(ms:List bC):List bC:=ms.filter fun m=>decide (jz F m.xss)
theorem Nb(N:Nat)(xss:Mx):∀k,0<k->0< (kp N xss k).length
 | k+1,_=>by
  simp only [kp]
  split
  ·rename_i h;exact List.length_pos_of_mem h
  ·simp
theorem Jo{F:Nat}{L:Mx}(hF:0<F):me F L=0↔¬jz F L:=by
 unfold me
 split
 ·rename_i h;have:=Nb F L F hF;exact⟨fun e=>by omega,fun h'=>absurd h h'⟩
 rename_i h;exact⟨fun _=>h,fun _=>rfl⟩
def gN(F:Nat)(m:bC):Int:=(me F m.xss:Int)
theorem r5{ms:List bC}{j:Nat}(hj:j<ms.length):rg (ms.map (·.top)) j=(ms[j]).top:=by
 simp [rg,bX,dE hj]
theorem JT{F:Nat}{ms:List bC}{i:Nat}(hi:i<ms.length):eY F (ms.take (i+1))=if jz F (ms[i]).xss then eY F (ms.take i)++ [ms[i]]else eY F (ms.take i):=by
 unfold eY;rw [gk hi,mn]
 by_cases h:jz F (ms[i]).xss<;>simp [h]
theorem RH(n F:Nat)(hn:1<=n/\n<=4)(hF:2<=F/\F<=12)(w:aa):
 aG prog 71 [aj n,aj F] w (fun v w'=>∃A c A2 c2,∃ms:List bC,v= .tuple #[.slice A ms.length c,.slice A2 ms.length c2]/\ms.map (·.xss)=nM n F/\(∀m∈ms,m.ok)/\
  St w w' (aQ 37 A ms.length c (ms.map (·.top))::aE 2 A2 ms.length c2 (ms.map (gN F))::b7 24 2 ms)):=by
 refine bs func71 O ntmps71 O (mV O) (aY O (aO (RJ n F hn hF w) O ?_));rintro _ w1 ⟨A6,c6,all,rfl,b6,dV,ax⟩;have ox:=vz hn hF (F*n+1);rw [<-dV,fv]at ox;have qc:∀m∈all,bN m.xss/\Inv n F m.xss F (F*n):=fun m hm=>xH (by omega) (by omega) (by rw [oY,<-dV];exact List.mem_map_of_mem hm)
 have hlen:∀m∈all,m.xss.length=n:=fun m hm=> (qc m hm).2.cM.1
 have jr:∀m∈all,m.top.n=n:=fun m hm=>by rw [<-b6 m hm];exact hlen m hm
 have p7:∀m∈all,F=(gl m.xss 0).length:=fun m hm=> ((qc m hm).2.cM.row (i:=0) (by omega)).symm
 have vM:=ax.dB 0 O;have rz:∀m∈all,bu w1 m.top.a n m.rs m.xss:=fun m hm=>by
  have:=ax.oD (c:=m.top.c) (t1:=24) (t2:=2) ((pC hm).trans (List.sublist_cons_self _ _)) (b6 m hm);rw [jr m hm]at this;exact this
 have sF:∀m∈all,n<=m.top.c:=fun m hm=>by
  have h1:=ax.own (aQ 24 m.top.a m.top.n m.top.c m.rs) (by
   refine n4 _ ?_;exact List.mem_flatMap.2 ⟨m,hm,by simp [bC.qN,aW]⟩)
  have h2:m.top.n<=m.top.c:=h1.cap.1;rw [jr m hm]at h2;exact h2
 refine ic (St.refl w1) O fun A7 w2 ay=>ic ay O ?_;intro A8 w3 aL;have aL:St w1 w3 [aE 2 A8 0 0 [],aQ 37 A7 0 0 []]:=aL;have aL:=aL.swap;refine aA O (Cd.loop (α:=Nat×(ai×Nat)×(ai×Nat)×List bC) (fun s=> [(6,.slice A6 all.length c6),(7,.slice s.2.1.1 s.2.2.2.length s.2.1.2),(8,.slice s.2.2.1.1 s.2.2.2.length s.2.2.1.2),(9,aj (s.1:Int))]) (fun s w'=>St w1 w' [aQ 37 s.2.1.1 s.2.2.2.length s.2.1.2 (s.2.2.2.map (·.top)),aE 2 s.2.2.1.1 s.2.2.2.length s.2.2.1.2 (s.2.2.2.map (gN F))]/\s.1<=all.length/\s.2.2.2.Perm (eY F (all.take s.1))/\s.2.2.2.map (·.xss)=pn ((eY F (all.take s.1)).map (·.xss))) (fun s=>all.length - s.1) (0,(A7,0),(A8,0),[]) (Wn O) ⟨aL,bk _,List.Perm.refl _,O⟩ ?_);rintro⟨i,⟨B7,c7⟩,⟨B8,c8⟩,outs⟩ e w4 ⟨aN,hi,pb,we⟩;dsimp only at aN hi pb we|-;have HZ:∀m∈outs,m∈all:=fun m hm=>List.mem_of_mem_take (eO.1 (pb.mem_iff.1 hm)).1
 have HH:outs.length<=i:=by
  have h1:=pb.length_eq;have h2:=jN (fun m:bC=>decide (jz F m.xss)) (all.take i);have h3:(eY F (all.take i)).length<=(all.take i).length:=h2;rw [kM]at h3;omega
 refine aY O (aR O O (aA O ?_));refine aJ _ O (fun h1=>?_) (fun h1=>?_)
 ·have bP:i<all.length:=by omega
  have hm:=di bP;have qi:=r5 bP;have sy:=vM.ao aN.below;have hX:=(rz _ hm).ao aN.below;have ir:=JT (F:=F) bP;have Ca:=(qc _ hm).1;have B5:=p7 _ hm;have hXc:=sF _ hm;refine aC O (aw sy.2 O (nj sy O (by omega) O ?_));rw [qi,jr _ hm];generalize Of:all[i]=X at*;have Cb:(⟨X.top.a,n,X.top.c⟩:aH)=X.top:=by rw [<-jr _ hm]
  refine aO (RI X.top.a n X.top.c X.rs X.xss F _ hX Ca B5) O ?_;rintro _ w5 ⟨rfl,k6⟩;have aV:=aN.ao k6.below;refine aA O (aJ _ O (fun h2=>?_) (fun h2=>?_))
  ·have eD:¬jz F X.xss:=(Jo (by omega)).1 (by omega);rw [aB eD]at ir;refine aC O (aI O (aM O (tQ ?_)));exact⟨(i+1,(B7,c7),(B8,c8),outs),by show all.length - (i+1)<all.length - i;omega,(Wn O),aV,bP,by show outs.Perm (eY F (all.take (i+1)));rw [ir];exact pb,by show outs.map _=pn ((eY F (all.take (i+1))).map _);rw [ir];exact we⟩
  have fy:jz F X.xss:=kK fun h=>h2 (by rw [(Jo (by omega)).2 h];rfl)
  rw [aF fy]at ir;have Oe:=hX.ao k6.below;have uz:∀ {A9 c9 bB bM w9},St w1 w9 [aQ 37 A9 (gw X outs).length c9 ((gw X outs).map (·.top)),aE 2 bB (gw X outs).length bM ((gw X outs).map (gN F))]->
   St w1 w9 [aQ 37 A9 (gw X outs).length c9 ((gw X outs).map (·.top)),aE 2 bB (gw X outs).length bM ((gw X outs).map (gN F))]/\i+1<=all.length/\(gw X outs).Perm (eY F (all.take (i+1)))/\(gw X outs).map (·.xss)=pn ((eY F (all.take (i+1))).map (·.xss)):=fun hs=>by
   refine⟨hs,bP,?_,?_⟩
   ·rw [ir];exact(Ib X outs).trans ((pb.cons X).trans (gB (l₁:=[X])))
   rw [ir,Qw,we,iT,List.map_singleton,SR]
  have hinl:(gw X outs).length=outs.length+1:=(Ib X outs).length_eq;refine u6 3 O (oN (α:=Nat) (fun a=> [(6,.slice A6 all.length c6),(7,.slice B7 outs.length c7),(8,.slice B8 outs.length c8),(9,aj i),(10,aj (me F X.xss:Int)),(11,aj a)]) (fun a w'=>St w5 w' []/\a<=outs.length/\a=mz X.xss (outs.map (·.xss))) ?_ ?_)
  ·refine bH O (Cd.loop (α:=Nat) (fun a=> [(6,.slice A6 all.length c6),(7,.slice B7 outs.length c7),(8,.slice B8 outs.length c8),(9,aj i),(10,aj (me F X.xss:Int)),(11,aj a)]) (fun a w'=>St w5 w' []/\a<=outs.length/\a+mz X.xss ((outs.map (·.xss)).drop a)=mz X.xss (outs.map (·.xss))) (fun a=>outs.length - a) 0 (Wn O) ⟨St.refl w5,bk _,Nat.zero_add _⟩ ?_);rintro a e w6 ⟨bg,ha,lq⟩;have ue:=(aV.dB 0 O).ao bg.below;have vC:=(sy.ao k6.below).ao bg.below;have x6:=Oe.ao bg.below
   by_cases cW:a<outs.length
   ·have uB:=HZ _ (di cW);have Og:=(((rz _ uB).ao aN.below).ao k6.below).ao bg.below;have P7:=r5 cW;have P8:=jr _ uB;generalize Oh:outs[a]=Y at*;refine bH O (cN [xI ((a:Int)),xS (B7) (outs.length) (c7),xI (((outs.length:Nat):Int)),xB (true),xB (true),xS (B7) (outs.length) (c7),xI ((a:Int)),xP (az (B7) ((a:Int)).toNat),.ex (.agg #[.slice Y.top.a n Y.top.c]),xS (A6) (all.length) (c6),xI ((i:Int)),xP (az (A6) ((i:Int)).toNat),.ex (.agg #[.slice X.top.a n X.top.c]),xB (decide (df Y.xss X.xss<0)),xB (decide (df Y.xss X.xss<0))] O (da O) ?_ ?_)
    ·refine⟨Dr O,Dr O,fun _ _ _ _ _=>aR O O Az,fun _ _ _ _ _=>Dk O (by exact aS Value.bool (dF (by omega))),Dr O,Dr O,Dr O,fun _ _ hb _ _=>ar O (aw (ue.ao hb).2 O Az),?_,Dr O,Dr O,fun _ _ hb _ _=>ar O (aw (vC.ao hb).2 O Az),?_,?_,Dr O,av⟩
     ·intro e1 w1 hb hp aZ;refine ar O (nj (ue.ao hb) O (by omega) O ?_);rw [P7,P8];refine ak.n (d0 (by exact O))
     ·intro e1 w1 hb hp aZ;refine ar O (nj (vC.ao hb) O (by omega) O ?_);rw [qi,jr _ hm];refine ak.n (d0 (by exact O))
     intro e1 w1 hb hp aZ;refine ar O (aO (Iw Y.top.a n Y.top.c Y.rs Y.xss X.top.a X.top.c X.rs X.xss _ (Og.ao hb) (x6.ao hb) (by omega)) O ?_);rintro _ w2 ⟨rfl,ax⟩;refine ak.n ?_;exact ew.dn ax.below (by exact O)
    intro uu w7 lr _;have bm:=bg.ao lr;rw [Lz (by rw [fv];exact cW),List.getElem_map,Oh]at lq;refine dM O (aJ _ O (fun h5=>?_) (fun h5=>?_))
    ·rw [aF h5]at lq;refine aC O (aI O (aM O (tQ ?_)));exact⟨a+1,by show outs.length - (a+1)<outs.length - a;omega,(Wn O),bm,cW,by omega⟩
    rw [aB h5]at lq;refine bj O (bl (qF O (tQ ?_)));exact⟨a,(Wn O),bm,ha,by omega⟩
   refine bH O (cN [xI ((a:Int)),xS (B7) (outs.length) (c7),xI (((outs.length:Nat):Int)),xB (false),xB (false),xU,xU,xU,xU,xU,xU,xU,xU,xU,xB (false)] O (da O) ?_ ?_)
   ·exact⟨Dr O,Dr O,fun _ _ _ _ _=>aR O O Az,fun _ _ _ _ _=>Dk O (by exact aS Value.bool (cb (by omega))),Dr O,Dr O,Dr O,Dr O,Dr O,Dr O,Dr O,Dr O,Dr O,Dr O,Dr O,av⟩
   intro uu w7 lr _;have bm:=bg.ao lr;rw [List.drop_of_length_le (by rw [fv];omega)]at lq;refine dM O (Cd.dO O ?_);refine bj O (bl (qF O (tQ ?_)));exact⟨a,(Wn O),bm,ha,lq⟩
  rintro a e w6 ⟨bg,ha,lq⟩;have N9:=aV.ao bg.below;have vC:=(sy.ao k6.below).ao bg.below;refine cj O ?_;refine cN [xS (A6) (all.length) (c6),xI ((i:Int)),xP (az (A6) ((i:Int)).toNat),.ex (.agg #[.slice X.top.a n X.top.c]),.pr (fun v w'=>∃A9,v= .slice A9 1 1/\St w1 w' [aQ 37 A9 1 1 [X.top],aQ 37 B7 outs.length c7 (outs.map (·.top)),aE 2 B8 outs.length c8 (outs.map (gN F))]),xS (B7) (outs.length) (c7),xI ((a:Int)),xS (cutAt B7 c7 a) (outs.length - a) (c7 - a),.pr (fun v w'=>∃A9 c9,v= .slice A9 (1+ (outs.length - a)) c9/\St w1 w' [aQ 37 A9 (1+ (outs.length - a)) c9 ([X.top]++ (outs.map (·.top)).drop a),aQ 37 B7 outs.length c7 (outs.map (·.top)),aE 2 B8 outs.length c8 (outs.map (gN F))]),.pr (fun v w'=>∃A9 c9,v= .slice A9 (1+ (outs.length - a)) c9/\St w1 w' [aQ 37 A9 (1+ (outs.length - a)) c9 ([X.top]++ (outs.map (·.top)).drop a),aQ 37 B7 outs.length c7 (outs.map (·.top)),aE 2 B8 outs.length c8 (outs.map (gN F))])] rfl (lx (lx (lx (lx (cq.2 ⟨Yd.ct (fun v w w' h hb=>by obtain⟨A9,hv,hT⟩:=h;exact⟨A9,hv,hT.ao hb⟩),(lx (lx (lx (cq.2 ⟨Yd.ct (fun v w w' h hb=>by obtain⟨A9,c9,hv,hT⟩:=h;exact⟨A9,c9,hv,hT.ao hb⟩),(cq.2 ⟨Yd.ct (fun v w w' h hb=>by obtain⟨A9,c9,hv,hT⟩:=h;exact⟨A9,c9,hv,hT.ao hb⟩),(fun _ h=>by cases h)⟩)⟩))))⟩))))) ?_ ?_
  ·refine⟨Dr O,Dr O,fun _ _ hb _ _=>aw (vC.ao hb).2 O Az,?_,?_,Dr O,Dr O,fun _ _ _ _ _=>tD O O O (by omega) Az,?_,?_,av⟩
   ·intro e1 w1 hb hp aZ;refine nj (vC.ao hb) O (by omega) O ?_;rw [qi,jr _ hm];refine ak.n (d0 (by exact O))
   ·intro e1 w1 hb hp aZ;refine tB (St.refl _) O O O fun A9 w9 ax=>ak.n ?_;exact ew.dn ax.below ⟨A9,O,by rw [Cb]at ax;exact(N9.ao hb).call ax⟩
   ·intro e1 w1 hb hp aZ;obtain⟨A9,Bq,hT⟩:=(hp 4 (by decide) rfl _ _ rfl rfl);refine KG 0 O hT O ((hT.dB 1 O).drop (l:=a) ha (hT.cap 1 O).1) (by exact Bq) O O (by omega) (by omega) O ?_;intro bB bM w9 nA ax;exact ak.n (ew.dn nA ⟨bB,bM,O,ax⟩)
   intro e1 w1 hb hp aZ;obtain⟨A9,c9,NF,hT⟩:=(hp 8 (by decide) rfl _ _ rfl rfl);refine pE O (by exact NF) O (ak.n ?_);exact ew.dn (Below.refl _ _) ⟨A9,c9,O,hT⟩
  intro uu w7 _ hu;obtain⟨A9,c9,qX,bm⟩:=hu 9 _ rfl;rw [Td uu qX];refine ib O (ic bm O ?_);intro bB w8 bI;have bI:St w1 w8 [aQ 37 bB 0 0 [],aQ 37 A9 (1+ (outs.length - a)) c9 ([X.top]++ (outs.map (·.top)).drop a),aQ 37 B7 outs.length c7 (outs.map (·.top)),aE 2 B8 outs.length c8 (outs.map (gN F))]:=bI;have hcp7:outs.length<=c7/\c7<=maxLen:=bI.cap 2 O;refine aq O (tC O O O (by omega) (iU 0 bI O ((bI.dB 2 O).take (l:=a) ha) O O O (by omega) (by omega) O ?_));intro fo lQ w9 bO;refine aq O (iU 0 bO O (bO.dB 1 O) O O O (by omega) (by omega) O ?_);intro nV oh dW cJ;have cJ:St w1 dW [aQ 37 nV (0+a+ (1+ (outs.length - a))) oh (([]++ (outs.map (·.top)).take a)++ ([X.top]++ (outs.map (·.top)).drop a)),aQ 37 A9 (1+ (outs.length - a)) c9 ([X.top]++ (outs.map (·.top)).drop a),aQ 37 B7 outs.length c7 (outs.map (·.top)),aE 2 B8 outs.length c8 (outs.map (gN F))]:=cJ;have il:St w1 dW [aQ 37 nV (0+a+ (1+ (outs.length - a))) oh (([]++ (outs.map (·.top)).take a)++ ([X.top]++ (outs.map (·.top)).drop a)),aE 2 B8 outs.length c8 (outs.map (gN F))]:=cJ.sub (List.Sublist.cons_cons _ ((List.sublist_cons_self _ _).trans (List.sublist_cons_self _ _)));have e1:0+a+ (1+ (outs.length - a))=(gw X outs).length:=by omega
  have e2:([]++ (outs.map (·.top)).take a)++ ([X.top]++ (outs.map (·.top)).drop a)=(gw X outs).map (·.top):=by rw [lq];simp [gw,List.map_take,List.map_drop]
  have e3:([]++ (outs.map (gN F)).take a)++ ([(me F X.xss:Int)]++ (outs.map (gN F)).drop a)=(gw X outs).map (gN F):=by rw [lq];simp [gw,List.map_take,List.map_drop,gN]
  rw [e1,e2]at il;refine aq O (e6 il O O O ?_);intro Kl eZ gv;have gv:St w1 eZ [aE 2 Kl 1 1 [(me F X.xss:Int)],aQ 37 nV (gw X outs).length oh ((gw X outs).map (·.top)),aE 2 B8 outs.length c8 (outs.map (gN F))]:=gv;have OC:outs.length<=c8/\c8<=maxLen:=gv.cap 2 O;refine aq O (tD O O O (by omega) (fS 0 gv O ((gv.bU 2 O).drop (l:=a) ha OC.1) O O O (by omega) (by omega) O ?_));intro lf lj iR kV;refine aq O (ic kV O ?_);intro Km lb kW;have kW:St w1 lb [aE 2 Km 0 0 [],aE 2 lf (1+ (outs.length - a)) lj ([(me F X.xss:Int)]++ (outs.map (gN F)).drop a),aQ 37 nV (gw X outs).length oh ((gw X outs).map (·.top)),aE 2 B8 outs.length c8 (outs.map (gN F))]:=kW;refine aq O (tC O O O (by omega) (fS 0 kW O ((kW.bU 3 O).take (l:=a) ha) O O O (by omega) (by omega) O ?_));intro A16 c16 uX jC;refine aq O (fS 0 jC O (jC.bU 1 O) O O O (by omega) (by omega) O ?_);intro zz z8 r8 re;have re:St w1 r8 [aE 2 zz (0+a+ (1+ (outs.length - a))) z8 (([]++ (outs.map (gN F)).take a)++ ([(me F X.xss:Int)]++ (outs.map (gN F)).drop a)),aE 2 lf (1+ (outs.length - a)) lj ([(me F X.xss:Int)]++ (outs.map (gN F)).drop a),aQ 37 nV (gw X outs).length oh ((gw X outs).map (·.top)),aE 2 B8 outs.length c8 (outs.map (gN F))]:=re;have ud:St w1 r8 [aE 2 zz (0+a+ (1+ (outs.length - a))) z8 (([]++ (outs.map (gN F)).take a)++ ([(me F X.xss:Int)]++ (outs.map (gN F)).drop a)),aQ 37 nV (gw X outs).length oh ((gw X outs).map (·.top))]:=re.sub (List.Sublist.cons_cons _ ((List.Sublist.cons_cons _ (List.nil_sublist _)).cons _));rw [e1,e3]at ud;rw [e1];refine aq O (aI O (aM O (tQ ?_)));exact⟨(i+1,(nV,oh),(zz,z8),gw X outs),by show all.length - (i+1)<all.length - i;omega,(Wn O),uz ud.swap⟩
 have cd:i=all.length:=by omega
 subst cd;rw [List.take_length]at pb we;have lu:outs.map (·.xss)=nM n F:=by
  rw [we,nM,ti,oY,<-dV,eY,List.filter_map]
  rfl
 refine bj O (bl (dd O ?_));refine Ty O O ⟨B7,c7,B8,c8,outs,O,lu,fun m hm=>b6 m (HZ m hm),?_⟩;have hj:=ax.call aN;refine(hj.sub (?_:List.Sublist ([aQ 37 B7 outs.length c7 (outs.map (·.top)),aE 2 B8 outs.length c8 (outs.map (gN F))]++b7 24 2 (eY F all)) _)).perm ?_
 ·exact List.Sublist.append (na _) ((y5 List.filter_sublist).trans (List.sublist_cons_self _ _))
 exact List.Perm.append_left _ (I5 pb.symm)
section
variable {P:Program} {N:Nat} {ops:Array Oper} {K:Env->aa->Prop} {rest:List Oper} {e:Env} {w0 w w':aa} {ks:List Ck} {d:Nat} {ty:ad} {pos:String} {af:Array Edge}
theorem KJ{t:ad}{f0 f1 f2 f3:Field}{z0 z1 z2 z3 y0 y1 y2 y3:ab}{b b0 b1 b2 b3:Nat}[bK P t (.struct #[f0,f1,f2,f3])][bL P t (.agg #[z0,z1,z2,z3]) 4 b](I0:bL P f0.type y0 1 b0)(I1:bL P f1.type y1 1 b1)(I2:bL P f2.type y2 1 b2)(I3:bL P f3.type y3 1 b3)(ho:f0.offset=0/\f1.offset=1/\f2.offset=2/\f3.offset=3){x1 x2:ae}{v1 v2:ab}(h1:ev e x1=v1)(h2:ev e x2=v2)(c1:v1.oneCell'=true)(c2:v2.oneCell'=true)(hb:Nat.blt d N=true)(hK:ak P N ops K rest (br e d (.agg #[z0,v1,v2,z3])) w):ak P N ops K (⟨some d,.build t #[(1,x1),(2,x2)],ty,pos,af,none⟩::rest) e w:=by
 obtain⟨inf,hi,fk,hs,iE⟩:=bL.get P t;obtain⟨i0,g0,_,s0,_⟩:=I0.get P f0.type;obtain⟨i1,g1,_,s1,_⟩:=I1.get P f1.type;obtain⟨i2,g2,_,s2,_⟩:=I2.get P f2.type;obtain⟨i3,g3,_,s3,_⟩:=I3.get P f3.type;have e1:v1.cells= #[v1]:=by cases v1<;>simp [Value.oneCell']at c1<;>rfl
 have e2:v2.cells= #[v2]:=by cases v2<;>simp [Value.oneCell']at c2<;>rfl
 have ez:(Value.agg #[z0,z1,z2,z3]).cells= #[z0,z1,z2,z3]:=O;obtain⟨o0,o1,o2,o3⟩:=ho;refine .val (w':=w) ?_ hb hK;simp [execOp,Instr.build,run_underlying (bK.out (P:=P) (t:=t)),sizeOf,typeInfo,zeroValue,hi,fk,g0,g1,g2,g3,s0,s1,s2,s3,o0,o1,o2,o3,h1,h2,e1,e2,ez,Instr.fill]
theorem KL{el:ad}{x:ae}{v0 v1 v2 v3:ab}(hS:St w0 w ks)(hx:ev e x= .agg #[v0,v1,v2,v3])(hb:Nat.blt d N=true)(hK:∀A w',St w0 w' (Bx el 4 A [v0,v1,v2,v3]::ks)->ak P N ops K rest (br e d (.pointer A)) w')(hM:cX [v0,v1,v2,v3]=false:=by rfl):ak P N ops K (⟨some d,.box el x,ty,pos,af,none⟩::rest) e w:= .z6 hS hx hb rfl hK hM
end
def uS(Ab A:ai)(k c F:Nat)(rs:List aH):List Ck:=
 Bx 179 4 Ab [.slice A k c,aj F,aj (1:Int),.slice none 0 0]::aQ 24 A k c rs::cw 2 rs (List.replicate k (List.replicate F (-1)))
theorem TE(n F:Nat)(hn:1<=n/\n<=4)(hF:2<=F/\F<=12)(w:aa):
 aG prog 137 [aj n,aj F] w (fun v w'=>∃A' c',∃new:List bC,v= .slice A' new.length c'/\(∀m∈new,m.ok)/\new.map (·.xss)=nt n F (F*n+1) 0 1 (blank n F)/\
  St w w' (aQ 37 A' new.length c' (new.map (·.top))::b7 24 2 new)):=by
 refine bs func137 O ntmps137 O (bF O) (aY O (KJ (by exact inferInstance) (by exact inferInstance) (by exact inferInstance) (by exact inferInstance) ⟨O,O,O,O⟩ O O O O O (KL (St.refl w) O O ?_)));intro Ab w1 aD;refine aA O ?_;have nz:St w w1 (uS Ab none 0 0 F []):=(aD.nil 24).perm (gB (l₁:=[_]) (l₂:=[_]));refine Cd.loop (α:=Nat×ai×Nat×List aH) (fun s=> [(1,aj F),(5,.pointer Ab),(9,aj n),(10,aj (s.1:Int))]) (fun s w'=>St w w' (uS Ab s.2.1 s.1 s.2.2.1 F s.2.2.2)/\s.1<=n/\s.2.2.2.length=s.1) (fun s=>n - s.1) (0,none,0,[]) (Wn O) ⟨nz,bk _,O⟩ ?_;rintro⟨k,A3,c3,rs⟩ e w4 ⟨aN,hk,hlen⟩;dsimp only at aN hk hlen|-;refine bH O (aJ _ O (fun h1=>?_) (fun h1=>?_))
 ·have cE:k<n:=by omega
  refine cj O ?_;have hB:=(show St w w4 (_::_) from aN).rd 0 O;refine jc [9,12] [yP (Ab),yP (Ab),yP (Ab),yP (az (Ab) 0),yS (A3) (k) (c3),.pr (fun v w'=>∃A9,v= .slice A9 1 1/\St w w' (aE 2 A9 1 1 [-1]::uS Ab A3 k c3 F rs)),yI ((F:Int)),.pr (fun v w'=>∃A4,v= .slice A4 F F/\St w w' (aE 2 A4 F F (List.replicate F (-1))::uS Ab A3 k c3 F rs)),.pr (fun v w'=>∃A4 A9,v= .slice A9 1 1/\St w w' (aQ 24 A9 1 1 [⟨A4,F,F⟩]::aE 2 A4 F F (List.replicate F (-1))::uS Ab A3 k c3 F rs)),.pr (fun v w'=>∃A4 bB bM,v= .slice bB (k+1) bM/\St w w' (aE 2 A4 F F (List.replicate F (-1))::Bx 179 4 Ab [.slice A3 k c3,aj F,aj (1:Int),.slice none 0 0]::aQ 24 bB (k+1) bM (rs++ [⟨A4,F,F⟩])::cw 2 rs (List.replicate k (List.replicate F (-1))))),yP (Ab),yP (az (Ab) 0),.pr (fun _ w'=>∃A4 bB bM,St w w' (aE 2 A4 F F (List.replicate F (-1))::Bx 179 4 Ab [.slice bB (k+1) bM,aj F,aj (1:Int),.slice none 0 0]::aQ 24 bB (k+1) bM (rs++ [⟨A4,F,F⟩])::cw 2 rs (List.replicate k (List.replicate F (-1)))))] (by kernel_rfl) (by kernel_rfl) (ly (ly (ly (ly (ly (cq.2 ⟨Ye.ct (fun v w w' h hb=>by obtain⟨A9,hv,hT⟩:=h;exact⟨A9,hv,hT.ao hb⟩),(ly (cq.2 ⟨Ye.ct (fun v w w' h hb=>by obtain⟨A4,hv,hT⟩:=h;exact⟨A4,hv,hT.ao hb⟩),(cq.2 ⟨Ye.ct (fun v w w' h hb=>by obtain⟨A4,A9,hv,hT⟩:=h;exact⟨A4,A9,hv,hT.ao hb⟩),(cq.2 ⟨Ye.ct (fun v w w' h hb=>by obtain⟨A4,bB,bM,hv,hT⟩:=h;exact⟨A4,bB,bM,hv,hT.ao hb⟩),(ly (ly (cq.2 ⟨Ye.ct (fun v w w' h hb=>by obtain⟨A4,bB,bM,hT⟩:=h;exact⟨A4,bB,bM,hT.ao hb⟩),(fun _ h=>by cases h)⟩)))⟩)⟩)⟩))⟩)))))) ?_ ?_
  ·refine⟨b8 O,b8 O,cP fun _ _ hb _ _ _=>eT (hB.below hb) (Nat.succ_pos _) O O (bJ O O),cP fun _ _ hb _ _ _=>aT (hB.below hb) O (bJ O O),cP fun _ _ hb _ _ _=>a7 (hB.below hb) O (bJ O O),?_,b8 O,?_,?_,?_,?_,?_,?_,av⟩
   ·refine cP fun e1 w1 hb hp aZ hq=>?_
    exact e6 (St.refl _) O O O fun A9 w9 ax=>ak.n (eS.dn O ax.below ⟨A9,O,(aN.ao hb).call ax⟩)
   ·refine cP fun e1 w1 hb hp aZ hq=>?_
    obtain⟨A9,Bl,hT⟩:=(hp 5 _ _ (by kernel_rfl) rfl rfl (by kernel_rfl));refine Wh (xp A9 1 (-1) F _ (hT.bU 0 O) (by omega)) O (by exact aS (fun v=> [v,Value.int .i64 (F:Int)]) Bl) O ?_;rintro _ w2 ⟨A4,rfl,ax⟩;exact ak.n (eS.dn O ax.below ⟨A4,O,hT.tail.call ax⟩)
   ·refine cP fun e1 w1 hb hp aZ hq=>?_
    obtain⟨A4,Nx,hT⟩:=(hp 7 _ _ (by kernel_rfl) rfl rfl (by kernel_rfl));refine mu (St.refl _) (by exact Nx) O O ?_;intro A9 w9 ax;exact ak.n (eS.dn O ax.below ⟨A4,A9,O,hT.call ax⟩)
   ·refine jh fun e1 w1 hb hp aZ hq=>?_
    obtain⟨A4,A9,Nz,hT⟩:=(hp 8 _ _ (by kernel_rfl) rfl rfl (by kernel_rfl));unfold uS at hT;refine iU 3 hT O (hT.dB 0 O) O (by exact Nz) O (by omega) (by omega) O ?_;intro bB bM dW sB;exact ak.n (eA.dn O ⟨A4,bB,bM,O,sB.tail⟩)
   ·refine dP 1 fun e1 w1 hp aZ hq=>?_
    have cS:=hp 9 _ _ (by kernel_rfl) O O (by kernel_rfl);obtain⟨A4,bB,bM,Bn,hT⟩:=cS;refine eT ((hT.rd 1 O)) (Nat.succ_pos _) O O (ak.n (fO O (by exact O)))
   ·refine dP 1 fun e1 w1 hp aZ hq=>?_
    have cS:=hp 9 _ _ (by kernel_rfl) O O (by kernel_rfl);obtain⟨A4,bB,bM,Bn,hT⟩:=cS;refine aT ((hT.rd 1 O)) O (ak.n (fO O (by exact O)))
   refine mD 1 fun e1 w1 hp aZ hq=>?_
   have cS:=hp 9 _ _ (by kernel_rfl) O O (by kernel_rfl);obtain⟨A4,bB,bM,Bn,hT⟩:=cS;refine od 1 hT O O (by exact Bn) O O ?_;intro eZ sC;exact ak.n (eA.st O ⟨A4,bB,bM,sC⟩)
  intro u w5 _ hu _ _;obtain⟨A4,bB,bM,hT⟩:=hu 12 _ rfl (by kernel_rfl);refine ib O (aI O (aM O (tQ ?_)));refine⟨(k+1,bB,bM,rs++ [⟨A4,F,F⟩]),by show n - (k+1)<n - k;omega,(Wn O),?_,cE,by simp [hlen]⟩;show St w w5 (_::aQ _ bB (k+1) bM (rs++ [_])::cw _ (rs++ [_]) (List.replicate (k+1) (List.replicate F (-1))));rw [List.replicate_succ',rX (by simp [hlen])];exact hT.perm (gB (l₁:=[_]) (l₂:=_::_::cw 2 rs (List.replicate k (List.replicate F (-1)))))
 have dQ:k=n:=by omega
 subst dQ;have hI:=Inv.blank (n:=k) (F:=F) (by omega) (by omega);have pX:=Nn (F*k+1) hI;have aV:St w w4 (gp Ab A3 k c3 F 1 none 0 0 [] rs (blank k F) []):=by
  have:=(aN.nil 37).perm (List.Perm.swap _ _ _);unfold gp;rw [eG];exact this
 refine bj O (bl (cn O ?_));refine aO (LQ k F (by omega) ⟨by omega,by omega⟩ Ab A3 c3 rs (F*k+1) 0 1 (blank k F) hI (by omega) w w4 [] none 0 0 [] 0 0 (by omega) (by omega) aV (by rw [pX];have:=vz hn hF (F*k+1);omega)) O ?_;rintro _ w6 ⟨A',c',new,rfl,b6,hx,bg⟩;rw [pX]at hx;rw [Nat.zero_add,List.nil_append]at bg;unfold gp at bg;refine aq O (eT (bg.rd 0 O) (Nat.succ_pos _) O O (aT (bg.rd 0 O) O (a7 (bg.rd 0 O) O (bW O (dH O ?_)))));refine⟨A',c',new,O,b6,hx,?_⟩;refine bg.sub ?_;rw [eG];exact(List.Sublist.cons_cons _ (iw _ _)).cons _
end
end Go.Proofs.YtagdamiiececaaaGreatDoor.Vc
