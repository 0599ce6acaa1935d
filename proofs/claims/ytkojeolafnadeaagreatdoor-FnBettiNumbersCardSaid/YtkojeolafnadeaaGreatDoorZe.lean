/-
 Lemmas. Conditions: as each states them.
-/
import Derived.Test.YtkojeolafnadeaaGreatDoorLayb
import Derived.Test.YtkojeolafnadeaaGreatDoorZd
import Derived.Shelf.SlicesE.Compact
import Derived.Shelf.SlicesE.Delete
import Derived.Shelf.SortM.SortNone
set_option maxHeartbeats 8000000
namespace Go.Proofs.YtkojeolafnadeaaGreatDoor.Vc
open Tryz
section
open Go.RowKit Go.Sort
variable{w w0:aa}{q off o:Nat}{ks:List Ck}{l' xs:ah}
theorem aax{α:Type}[Inhabited α]{enc:α->ab}{g:Nat}{cur:Array ab}{e:ad}{fr:Nat×Nat}(d:Array α)(hb:w.heap[g]?=some (.cells cur e fr)):(putRow enc (Sort.ahead w q) g off d).heap[g]?=some (.cells (putCells enc off d cur) e fr):=by
 simp [putRow,mapBlock,Sort.ahead,Array.getElem?_modify,hb,onCells]
theorem Yf{α:Type}[Inhabited α]{enc:α->ab}{g:Nat}(d:Array α):Cw w (putRow enc (Sort.ahead w q) g off d) (some g):=by
 refine⟨⟨O,O,O,by simp [Sort.ahead],fun k hk cS=>?_⟩,Nat.le_add_right _ _⟩;have:g≠k:=fun e=>cS (by rw [e])
 simp [putRow,mapBlock,Sort.ahead,Array.getElem?_modify,this]
theorem QS{α:Type}[Inhabited α]{enc:α->ab}{g:Nat}{cur:Array ab}{e:ad}{ds:List α}(hh:w.heap[g]?=some (.cells cur e (0,0)))(hc:∀j,j<ds.length->cur[o+j]?=(ds.map enc)[j]?):Holds enc w g o ds.toArray:=fun j hj=>by
 have kF:j<ds.length:=by simpa using hj
 refine⟨?_,by simp [World.frozen?,hh]⟩;simp only [World.cell?,hh];simp only [Option.isSome_none,Bool.false_eq_true,if_false];rw [hc j kF];simp [kF]
theorem St.laid{α:Type}[Inhabited α]{enc:α->ab}{i:Nat}{k:Ck}{g m:Nat}{cur:Array ab}{ds:List α}(hS:St w0 w ks)(hk:ks[i]?=some k)(hA:k.A=some ⟨g,o,Option.none⟩)(hg:w0.heap.size<=g)(hh:w.heap[g]?=some (.cells cur k.e (0,0)))(hs:o+k.c<=cur.size)(hm:m<=ds.length)(hd:ds.length<=k.c)(hc:k.c<=maxLen)(Qe:∀x,(enc x).oneCell'=true:=by intro _;rfl):
 St w0 (putRow enc (Sort.ahead w q) g o ds.toArray) (ks.set i ⟨k.A,m,k.c,k.e,(ds.take m).map enc⟩):=by
 refine hS.turn hk (by simp [Ck.il,hA]) (by simp [Ck.il,hA]) (Yf _) (.qj (vL fun v hv=>by obtain⟨x,_,rfl⟩:=eh.1 hv;exact Qe x) ⟨by simp;omega,by show m<=k.c;omega,hc,.inr ⟨g,o,_,hA,hg,aax _ hh,by simp only [putCells,Array.size_mapIdx];exact hs,fun j hj=>?_⟩⟩);have hj:j<m:=hj;show(putCells enc o ds.toArray cur)[o+j]?=((ds.take m).map enc)[j]?;have J6:o+j<cur.size:=by omega
 have hjd:j<ds.length:=by omega
 simp [putCells,J6,hjd,rB,hj]
def SA(l:ah):Prop:=l.Pairwise (· < ·)
theorem SA.mj{l:ah}(h:SA l):lK l:=h.imp fun h=>by omega
theorem SA.nodup{l:ah}(h:SA l):l.Nodup:=h.imp fun h=>by omega
theorem SA.eq{l:ah}(h:SA l)(h':SA l')(hm:∀x,x∈l↔x∈l'):l=l':=V6 ((List.perm_ext_iff_of_nodup h.nodup h'.nodup).2 hm) h.mj h'.mj
def kC(xs:ah):ah:=Lib.compactUpTo xs.toArray xs.toArray.size
theorem HN(xs:ah)(j:Nat):xs.toArray[j]! =gi xs j:=by
 by_cases h:j<xs.length
 ·rw [bX h];simp [h]
 have e:gi xs j=0:=by simp [gi,dt,qy (Nat.not_lt.1 h)]
 rw [e,getElem!_neg _ _ (by simpa using h)];rfl
theorem H7(xs:ah):kC xs=((List.range xs.length).filter fun j:Nat=>decide (j=0\/gi xs j≠gi xs ((j - 1:Nat):Int))).map fun j:Nat=>gi xs j:=by
 unfold kC Lib.compactUpTo;rw [List.size_toArray];have e1:Lib.keeps xs.toArray=fun j:Nat=>decide (j=0\/gi xs j≠gi xs ((j - 1:Nat):Int)):=by
  funext j;unfold Lib.keeps;rw [HN,HN]
 rw [e1];exact pw fun j _=>HN xs j
theorem NF(xs:ah):(kC xs).length<=xs.length:=by
 rw [H7,mf];have:=oa (fun j:Nat=>decide (j=0\/gi xs j≠gi xs ((j - 1:Nat):Int))) (List.range xs.length)
 rwa [tH]at this
theorem WZ(xs:ah)(x:Int):x∈kC xs↔x∈xs:=by
 rw [H7,eh];constructor
 ·rintro⟨j,hj,rfl⟩;have:=nu.1 (ja.1 hj).1;rw [bX this];exact fe _
 ·intro hx;obtain⟨j,hj,s5⟩:=gj.1 hx;rw [<-bX hj]at s5;clear hx
  induction j with
  | zero=>exact⟨0,ja.2 ⟨nu.2 hj,by simp⟩,s5⟩
  | succ j ih=>
   by_cases h:gi xs ((j+1:Nat):Int)=gi xs ((j:Nat):Int)
   ·exact ih (by omega) (h▸s5)
   ·exact⟨j+1,ja.2 ⟨nu.2 hj,by simp only [Nat.add_sub_cancel,nB];exact .inr h⟩,s5⟩
theorem WY(h:lK xs):SA (kC xs):=by
 have mono:∀a b,a<=b->b<xs.length->gi xs a<=gi xs b:=fun a b kl hb=>by
  rw [bX (by omega),bX hb]
  by_cases e:a=b
  ·subst e;exact Int.le_refl _
  exact(List.pairwise_iff_getElem.1 h) a b (by omega) hb (by omega)
 rw [H7];unfold SA;rw [List.pairwise_map];have hr:(List.range xs.length).Pairwise (· < ·):=List.pairwise_lt_range;refine(hr.filter _).imp_of_mem fun {a b} ha hb kl=>?_
 have fa:=nu.1 (ja.1 hb).1;have gP:=rb (ja.1 hb).2;have h1:=mono a (b - 1) (by omega) (by omega);have h2:=mono (b - 1) b (by omega) fa;rcases gP with gP | gP
 ·omega
 omega
def cs(l:ah):ah:=kC (fT l)
theorem Ik(l:ah)(x:Int):x∈cs l↔x∈l:=by rw [cs,WZ];exact(vZ l).mem_iff
theorem Ij(l:ah):SA (cs l):=WY (Ev l)
theorem Xa{l:ah}(h:SA l)(hm:∀x,x∈l↔x∈l'):l=cs l':=h.eq (Ij l') fun x=>by rw [hm,Ik]
theorem W5(i:Nat){t:ad}{A:ai}{n c:Nat}(hS:St w0 w ks)(hk:ks[i]?=some (ar t A n c xs))(h0:0<n)(hn:n<=1000000000):
 aG prog 125 [.slice A n c] w (fun v w'=>v= .slice A (kC xs).length c/\St w0 w' (ks.set i (ar t A (kC xs).length c (kC xs)))):=by
 obtain⟨h1,h2,h3,h4⟩:=hS.rI hk (tf _);have hl:xs.length=n:=hS.zl i hk;have h2:n<=c:=h2;have h3:c<=maxLen:=h3;rcases h4 with⟨_,om⟩ | ⟨g,o,cur,hA,hg,hh,hs,hc⟩
 ·have om:c=0:=om;omega
 have hA:A=some ⟨g,o,none⟩:=hA;have hs:o+c<=cur.size:=hs;have hc:∀j,j<n->cur[o+j]?=(xs.map (Value.int .i64))[j]?:=hc;subst hA;subst hl;have key:=AnyE.slices_Compact aei (Value.int .i64) (fun _=>O) (EqlAt.intD _ _ .i64) (NeqAt.intD _ _ .i64) (0:Int) (fun w=>zeroValue2 w) g o c xs.toArray w (QS hh hc) (by simp;omega) (by simpa using h2);refine Calls.mono key fun x w' ⟨hx,q,hw⟩=> ⟨_,hx,O,?_⟩
 subst hw;have hle:=NF xs;have h:=hS.laid (q:=q) (m:=(kC xs).length) (enc:=Value.int .i64) (ds:=kC xs++List.replicate (xs.toArray.size - (kC xs).length) 0) hk O hg hh hs (by simp) (by simp;show _<=c;omega) h3;rw [zF (dC _),List.take_length]at h;exact h
instance:Inhabited aX:=⟨bW⟩
theorem Xi(i:Nat){t:ad}{A:ai}{n c a b:Nat}{xs:List aX}(hS:St w0 w ks)(hk:ks[i]?=some (br t A n c xs))(h0:0<n)(hn:n<=1000000000)(kl:a<=b)(hb:b<=n):
 aG prog 213 [.slice A n c,aj a,aj b] w (fun v w'=>v= .slice A (n - (b - a)) c/\St w0 w' (ks.set i (br t A (n - (b - a)) c (xs.take a++xs.drop b)))):=by
 obtain⟨h1,h2,h3,h4⟩:=hS.rI hk (BG _);have hl:xs.length=n:=(hS.fq i hk).1;have h2:n<=c:=h2;have h3:c<=maxLen:=h3;rcases h4 with⟨_,om⟩ | ⟨g,o,cur,hA,hg,hh,hs,hc⟩
 ·have om:c=0:=om;omega
 have hA:A=some ⟨g,o,none⟩:=hA;have hs:o+c<=cur.size:=hs;have hc:∀j,j<n->cur[o+j]?=(xs.map aX.v)[j]?:=hc;subst hA;subst hl;obtain⟨i0,mw,_,BB,_⟩:=bO.get prog 24;have key:=AnyE.slices_Delete aek aX.v (fun _=>O) bW (fun w=>zeroValue24 w) i0 mw BB g o c a b xs.toArray w (QS hh hc) (by simpa using h2) (by simpa [maxLen]using h3) kl (by simpa using hb);refine Calls.mono key fun x w' ⟨hx,q,hw⟩=> ⟨_,hx,by simp,?_⟩
 subst hw;have h:=hS.laid (q:=q) (m:=xs.length - (b - a)) (enc:=aX.v) (ds:=xs.toArray.toList.take a++xs.toArray.toList.drop b++List.replicate (b - a) bW) hk O hg hh hs (by simp;omega) (by simp;omega) h3;have e1:(xs.toArray.toList.take a++xs.toArray.toList.drop b++List.replicate (b - a) bW).take (xs.length - (b - a))=xs.take a++xs.drop b:=by
  have e2:(xs.take a++xs.drop b).length=xs.length - (b - a):=by simp;omega
  show(xs.take a++xs.drop b++List.replicate (b - a) bW).take _=_;rw [<-e2,zF (dC _),List.take_length]
 rw [e1]at h;exact h
end
section
open Go.RowKit
variable{w0 w w':aa}{pre ks:List Ck}{xs:ah}
theorem Vy{t1 t2:ad}{A:ai}{n c:Nat}{rs:List aX}{xss:ag}(h:St w0 w (pre++aU t1 t2 A n c rs xss)):St w0 w (pre++ (aU t1 t2 A n c rs xss++ [])):=by rwa [iz]
def pow(xs:ah)(n:Nat):ah:=(List.replicate n xs).flatten
theorem pow_succ(xs:ah)(n:Nat):pow xs (n+1)=pow xs n++xs:=by simp [pow,List.replicate_succ']
def part(T:ah)(m:Nat):ah:=T.take m++List.replicate (T.length - m) 0
theorem adL(A:ai)(a c:Nat)(xs:ah)(n:Nat)(w:aa)(hR:bt w A a xs)(ha:a<=1000)(hn:n<=1000):
 aG prog 98 [.slice A a c,aj n] w (fun v w'=>∃A' c',v= .slice A' (a*n) c'/\St w w' [ar 2 A' (a*n) c' (pow xs n)]):=by
 have di:=hR.1;refine bw func98 O ntmps98 O (b7 O) (bb O (fZ (St.refl w) O ?_));intro A5 w1 aC;have aC:St w w1 [ar 2 A5 (a*0) 0 (pow xs 0)]:=aC;refine az O ?_;refine Cd.loop (α:=Nat×ai×Nat) (fun z=> [(0,.slice A a c),(1,aj ((n:Int) - (z.1:Int))),(5,.slice z.2.1 (a*z.1) z.2.2)]) (fun z w'=>St w w' [ar 2 z.2.1 (a*z.1) z.2.2 (pow xs z.1)]/\z.1<=n) (fun z=>n - z.1) (0,A5,0) ⟨O,by show Value.int .i64 _=aj _;simp,O,aw⟩ ⟨aC,bu _⟩ ?_;rintro⟨k,A6,c6⟩ e w2 ⟨aE,hk⟩;dsimp only at aE hk|-;have gP:a*k<=1000000:=Nat.mul_le_mul ha (show k<=1000 by omega);refine b8 O (aM _ O (fun h1=>?_) (fun h1=>?_))
 ·refine aD O (dS 0 aE O (aE.b9 hR) O O O ?_);intro A7 c7 w3 aH;refine aq O (dq O (aS O (tQ ?_)));have e1:a* (k+1)=a*k+a:=Nat.mul_succ a k;refine⟨(k+1,A7,c7),by show n - (k+1)<n - k;omega,⟨O,by show Value.int .i64 _=aj _;congr 1;show _=(n:Int) - ((k+1:Nat):Int);omega,by show Value.slice _ _ _= .slice _ _ _;rw [e1],aw⟩,?_,by show k+1<=n;omega⟩;show St w w3 [ar _ A7 (a* (k+1)) c7 (pow xs (k+1))];rw [e1,pow_succ];exact aH
 refine bo O (bn (eG O ?_));refine fb O ?_;have qQ:k=n:=by omega
 subst qQ;exact⟨A6,c6,O,aE⟩
theorem Un(A:ai)(n c:Nat)(rs:List aX)(w:aa)(hR:iT w A n rs)(hn:n<=1000000)(h0:0<n):aG prog 119 [.slice A n c] w (fun v w'=>∃A' c',v= .slice A' n c'/\St w w' [br 24 A' n c' rs]):=by
 cases hA:A with
 | none=>
  subst hA;obtain⟨p,hp,_⟩:=hR.2 0 h0;simp [aB]at hp
 | some a=>
  subst hA;refine bw func119 O ntmps119 O (b7 O) (bb O (CE O O O (az O (Cd.dZ O (aD O (fZ (St.refl w) O ?_))))));intro A1 w1 aC;have aC:St w w1 [br 24 A1 0 0 []]:=aC;refine aq O (lS 0 aC O (aC.BP hR) O O O (by omega) (by omega) O ?_);intro A2 c2 w2 aE;rw [Nat.zero_add]at aE|-;refine bD O (fb O ?_);exact⟨A2,c2,O,aE⟩
theorem ahg(Ab A:ai)(n c:Nat)(rs:List aX)(xss:ag)(i:Nat)(w:aa)(hB:Rd w Ab 1 (fun _=> .slice A n c))(hR:bL w A n rs xss)(hn:n<=1000)(hi:i<n):
 aG prog 165 [.pointer Ab,aj i] w (fun v w'=>∃A' c',v= .slice A' (n - 1) c'/\St w w' [br 24 A' (n - 1) c' (rs.eraseIdx i)]):=by
 refine bw func165 O ntmps165 O (b7 O) (bb O ?_);refine ik hB (by decide) O O (aI hB O (aV hB O (aF (Un A n c rs _ hR.top (by omega) (by omega)) O ?_)));rintro _ w1 ⟨A1,c1,rfl,aC⟩;refine aq O (aK O ?_);have kE:((i:Int)+1)=((i+1:Nat):Int):=by omega
 rw [kE];refine aF (Xi 0 aC O (by omega) (by omega) (show i<=i+1 by omega) (by omega)) O ?_;rintro _ w2 ⟨rfl,aE⟩;refine bD O (fb O ?_);have e:n - (i+1 - i)=n - 1:=by omega
 rw [e];rw [e,<-List.eraseIdx_eq_take_drop_succ]at aE;exact⟨A1,c1,O,aE⟩
theorem Oh(Ab A:ai)(n c:Nat)(rs:List aX)(xss:ag)(i:Nat)(w:aa)(hB:Rd w Ab 1 (fun _=> .slice A n c))(hR:bL w A n rs xss)(hM:dm xss)(hi:i<n):
 aG prog 115 [.pointer Ab,aj i] w (fun v w'=>∃A',v= .tuple #[.slice A' (gl xss 0).length (gl xss 0).length,aj (fE xss i)]/\St w w' [ar 2 A' (gl xss 0).length (gl xss 0).length (cX xss i)]):=by
 have hl:=hR.len;have h1:=hM.1;have h2:=hM.2.1;have e0:(rg rs 0).n=(gl xss 0).length:=(hR.ql (by omega) (by omega)).symm;refine bw func115 O ntmps115 O (oF O) (bb O (aF (yp Ab A n c rs xss _ w hB O hR (by omega)) O ?_));rintro _ w ⟨rfl,rfl⟩;rw [e0];refine aq O (aF (ahg Ab A n c rs xss i _ hB hR (by omega) hi) O ?_);rintro _ w1 ⟨A1,c1,rfl,aC⟩;refine aF (SE A1 (n - 1) c1 (rs.eraseIdx i) (xss.eraseIdx i) (gl xss 0).length _ ((aC.cV hR).erase hi (aC.fq 0 O)) (by omega) (hM.2.2.1.sys.erase i) (hM.2.2.1.inj.erase i) (by omega)) O ?_;rintro _ w2 ⟨A2,rfl,ax⟩;have aE:=aC.call ax;refine bD O (rh O O ?_);exact⟨A2,O,aE.sub (List.Sublist.cons_cons _ (List.nil_sublist _))⟩
theorem afv{a:Nat}{v:Int}(h:SA xs)(hv:v∉xs)(ha:a<=xs.length)(hl:∀j:Nat,j<a->gi xs j<v)(hg:a<xs.length->v<=gi xs a):xs.take a++ (v::xs.drop a)=cs (xs++ [v]):=by
 have hp:(xs.take a++ (v::xs.drop a)).Perm (xs++ [v]):=afx;refine Xa ?_ fun x=>hp.mem_iff
 have h1:=V4 h.mj ha hl hg;have h2:(xs.take a++ (v::xs.drop a)).Nodup:=hp.nodup_iff.2 (by
  rw [List.nodup_append];refine⟨h.nodup,by simp,fun x hx y hy e=>?_⟩;simp at hy;subst hy;exact hv (e▸hx))
 exact(List.Pairwise.and h1 h2).imp fun h=>by have:=h.1;have:=h.2;omega
theorem adV(A:ai)(n c:Nat)(xs:ah)(v:Int)(w:aa)(hR:bt w A n xs)(hc:n<=c)(hn:n<=1000000)(hs:SA xs)(hv:v∉xs):
 aG prog 241 [.slice A n c,aj v] w (fun r w'=>∃A' c',r= .slice A' (cs (xs++ [v])).length c'/\St w w' [ar 2 A' (cs (xs++ [v])).length c' (cs (xs++ [v]))]):=by
 have di:=hR.1;refine bw func241 O ntmps241 O (b7 O) (Mz 4 O ?_);refine nq (α:=Nat) (fun a=> [(0,.slice A n c),(1,aj v),(5,aj a)]) (fun a w'=>w'=w/\a<=xs.length/\(∀j:Nat,j<a->gi xs j<v)/\(a<xs.length->v<=gi xs a)) ?_ ?_
 ·refine b8 O ?_;refine Cd.loop (α:=Nat) (fun a=> [(0,.slice A n c),(1,aj v),(5,aj a)]) (fun a w'=>w'=w/\a<=xs.length/\∀j:Nat,j<a->gi xs j<v) (fun a=>xs.length - a) 0 (ajz O) ⟨O,bu _,fun j hj=>by omega⟩ ?_;rintro a e w ⟨rfl,ha,eL⟩;refine bb O (ba O O (aq O ?_));refine cz 11 O (fun h4=>?_) (fun h4=>?_)
  ·refine au O (aq O (au O (aq O (au O ?_))));refine aA hR.2 O (au O (aY hR O ?_));refine au O (aq O (au O (az O ?_)));refine aM _ O (fun h5=>?_) (fun h5=>?_)
   ·refine aD O (aK O (aS O (tQ ?_)));refine⟨a+1,by show xs.length - (a+1)<xs.length - a;omega,(ajz O),O,by omega,fun j hj=>?_⟩
    by_cases ej:j=a
    ·subst ej;exact h5
    exact eL j (by omega)
   refine bo O (bn (zD O (tQ ?_)));exact⟨a,(ajz O),O,ha,eL,fun _=>by omega⟩
  refine ay O (ay O (ay O (ay O (ay O (ay O (az O ?_))))));refine Cd.dZ O (bo O (bn (zD O (tQ ?_))));exact⟨a,(ajz O),O,ha,eL,fun h=>absurd h (by omega)⟩
 rintro a e w ⟨rfl,ha,eL,ui⟩;have Bt:=afv hs hv ha eL ui;refine aD O (dE (St.refl w) O O O ?_);intro A7 w7 bl;refine aq O (yd O O O (by omega) (dS 0 bl O ((bl.b9 hR).drop (l:=a) (by omega) hc) O O O ?_));intro A8 c8 w8 bK;refine aq O (fZ bK O ?_);intro A9 w9 bh;have bh:St w w9 (ar 2 A9 0 0 []::ar 2 A8 (1+ (n - a)) c8 ([v]++xs.drop a)::[]):=bh;refine aq O (sI O O O (by omega) (dS 0 bh O ((bh.b9 hR).take (l:=a) (by omega)) O O O ?_));intro du fx dA cj;refine aq O (dS 0 cj O (cj.bk 1 O) O O O ?_);intro gv og eA eI;refine bD O (fb O ?_);have eI:St w eA (ar 2 gv (0+a+ (1+ (n - a))) og (([]++xs.take a)++ ([v]++xs.drop a))::ar 2 A8 (1+ (n - a)) c8 ([v]++xs.drop a)::[]):=eI;have eo:=eI.sub (List.Sublist.cons_cons _ (List.nil_sublist _));rw [List.nil_append,List.singleton_append,Bt]at eo;have qR:(cs (xs++ [v])).length=0+a+ (1+ (n - a)):=by rw [<-Bt];simp;omega
 exact⟨gv,og,by rw [qR],by rw [qR];exact eo⟩
theorem NN:∀(l:List Ck) (i:Nat) (x y:Ck),l[i]?=some y->(x::l).Perm (y::l.set i x)
 | [],i,x,y,h=>by simp at h
 | u::l,0,x,y,h=>by simp at h;subst h;exact List.Perm.swap _ _ _
 | u::l,i+1,x,y,h=>by
  simp only [List.getElem?_cons_succ]at h;simp only [List.set_cons_succ];exact(List.Perm.swap _ _ _).trans (((NN l i x y h).cons u).trans (List.Perm.swap _ _ _))
theorem St.VX{i:Nat}{k y:Ck}(h:St w0 w (k::ks))(hy:ks[i]?=some y):St w0 w (ks.set i k):=(h.perm (NN ks i k y hy)).tail
theorem G1{t:ad}:∀ {rs:List aX} {xss:ag} {i:Nat} {s:aX} {xs:ah},rs.length=xss.length->(bF t rs xss).set i (ar t s.a s.n s.c xs)=bF t (rs.set i s) (xss.set i xs)
 | [],[],_,_,_,_=>rfl
 | [],_::_,_,_,_,h=>by simp at h
 | _::_,[],_,_,_,h=>by simp at h
 | r::rs,x::xss,0,s,xs,_=>rfl
 | r::rs,x::xss,i+1,s,xs,h=>by
  have:=G1 (t:=t) (rs:=rs) (xss:=xss) (i:=i) (s:=s) (xs:=xs) (by simpa using h);simpa [bF]using this
theorem GK{w0 w:aa}{t:ad}:∀(n:Nat) {ks:List Ck},St w0 w ks->St w0 w (ks++bF t (List.replicate n bW) (List.replicate n []))
 | 0,ks,h=>by show St w0 w (ks++ []);rwa [iz]
 | n+1,ks,h=>by
  have h1:=GK (t:=t) n h;have h2:=h1.nil t;exact h2.perm (eK.symm)
def HR(Vl El:ah)(m:Nat):Nat->ag
 | 0=>List.replicate m []
 | f+1=> (HR Vl El m f).set (gi El f).toNat (gl (HR Vl El m f) (gi El f)++ [gi Vl f])
def ends(Vl El:ah)(m f:Nat):ag:=(HR Vl El m f).map cs
def Is(xss:ag):Nat:=(fE xss 1).toNat
def N6(xss:ag):ag:=ends (cX xss 0) (cX xss 1) (Is xss) (gl xss 0).length
def EF(L:ag)(K:Int)(w:aa)(v:ab)(w':aa):Prop:=∃A' c' rs',v= .tuple #[.slice A' L.length c',aj K]/\rs'.length=L.length/\St w w' (aU 24 2 A' L.length c' rs' L++ [])
theorem EF.none{K:Int}(h:St w w' ks):EF [] K w (.tuple #[.slice Option.none 0 0,aj K]) w':=⟨Option.none,0,[],rfl,rfl,h.none.nil _⟩
def lu(B:ag)(e:Nat):ag:=(B.take e).map cs++B.drop e
theorem aeF(B:ag)(e:Nat):(lu B e).length=B.length:=by simp [lu];omega
theorem aeH(B:ag):lu B 0=B:=by simp [lu]
theorem aeD(B:ag):lu B B.length=B.map cs:=by simp [lu]
theorem aeE{B:ag}{e:Nat}(h:e<B.length):gl (lu B e) e=gl B e:=by
 simp only [gl,lu,gB,dt];rw [jW (by simp;omega)];simp [Nat.min_eq_left (Nat.le_of_lt h)]
theorem aeG{B:ag}{e:Nat}(h:e<B.length):(lu B e).set e (cs (gl B e))=lu B (e+1):=by
 rw [fm h];unfold lu;rw [List.set_append_right _ _ (by simp;omega),rC h,qA,fK];have e1:e - ((B.take e).map cs).length=0:=by simp;omega
 rw [e1,List.drop_eq_getElem_cons h]
 rfl
theorem Tt(i:Nat){t:ad}{A:ai}{n c:Nat}(hS:St w0 w ks)(hk:ks[i]?=some (ar t A n c xs))(hn:n<=1000000000):
 aG prog 124 [.slice A n c] w (fun v w'=>v= .tuple #[]/\St w0 w' (ks.set i (ar t A n c (fT xs)))):=by
 by_cases h0:0<n
 ·exact agc i hS hk h0 hn
 obtain rfl:n=0:=by omega
 have di:=hS.zl i hk;obtain rfl:=lg di;refine Calls.mono (AnyM.slices_Sort_int_none Sn A c w) fun x w' ⟨hx,hw⟩=> ⟨_,hx,O,?_⟩
 subst hw;have e:fT []=[]:=lg (vZ []).length_eq;rw [e,LQ hk];exact hS
theorem W4(i:Nat){t:ad}{A:ai}{n c:Nat}(hS:St w0 w ks)(hk:ks[i]?=some (ar t A n c xs))(hn:n<=1000000000):
 aG prog 125 [.slice A n c] w (fun v w'=>v= .slice A (kC xs).length c/\St w0 w' (ks.set i (ar t A (kC xs).length c (kC xs)))):=by
 by_cases h0:0<n
 ·exact W5 i hS hk h0 hn
 obtain rfl:n=0:=by omega
 have di:=hS.zl i hk;obtain rfl:=lg di;have e:kC []=[]:=lg (Nat.le_zero.1 (NF []));rw [e];refine bw func125 O ntmps125 O (b7 O) ?_;refine bb O (ba O O (az O ?_));refine ya O (by decide) (dB O (fb O ?_));exact⟨O,by rw [show([]:ah).length=0 from O,LQ hk];exact hS⟩
def V8(m:Nat)(ps:List (Int×Int)):ag:=ps.foldl (fun B p=>B.set p.1.toNat (gl B p.1++ [p.2])) (List.replicate m [])
def Xu(m:Nat)(ps:List (Int×Int)):ag:=(V8 m ps).map cs
def ag6(xss:ag):Nat:=(fE xss 0).toNat
def HL(En:ag):Nat->List (Int×Int)
 | 0=> []
 | e+1=>if(gl En e).length=2 then(HL En e++ [(gi (gl En e) 0,gi (gl En e) 1)])++ [(gi (gl En e) 1,gi (gl En e) 0)]else HL En e
def nbL(xss:ag):ag:=Xu (ag6 xss) (HL (N6 xss) (Is xss))
theorem Sr{t1 t2:ad}{A:ai}{n c:Nat}{rs:List aX}{xss:ag}(h:rs.length=xss.length):(aU t1 t2 A n c rs xss).length=rs.length+1:=by simp [aU,tq h]
section
variable {P:Program} {N:Nat} {ops:Array Oper} {K:Env->aa->Prop} {rest:List Oper} {e:Env} {w0 w w':aa} {ks:List Ck} {d:Nat} {ty:ad} {pos:String} {af:Array Edge}
theorem zG{el:ad}{x:ae}{v0 v1 v2:ab}(hS:St w0 w ks)(hx:ev e x= .agg #[v0,v1,v2])(hb:Nat.blt d N=true)(hK:∀A w',St w0 w' (Bx el 3 A [v0,v1,v2]::ks)->ak P N ops K rest (bC e d (.pointer A)) w')(hM:eT [v0,v1,v2]=false:=by rfl):ak P N ops K (⟨some d,.box el x,ty,pos,af,none⟩::rest) e w:= .CT hS hx hb rfl hK hM
theorem tJ{el:ad}{v0 v1 v2:ab}{s b:Nat}[bO P el (.agg #[v0,v1,v2]) s b](hS:St w0 w ks)(hb:Nat.blt d N=true)(hK:∀A w',St w0 w' (Bx el 3 A [v0,v1,v2]::ks)->ak P N ops K rest (bC e d (.pointer A)) w')(hM:eT [v0,v1,v2]=false:=by rfl):ak P N ops K (⟨some d,.alloc el,ty,pos,af,none⟩::rest) e w:= .new (el:=el) (z:= .agg #[v0,v1,v2]) (s:=s) (b:=b) hS hb rfl hK hM
end
structure PS where
 im:ag
 ls:ah
def vf(ls:ah):Nat->Int->Option Int
 | 0,_=>none
 | k+1,c=>if 0<=c/\c< (ls.length:Int)then(if gi ls c=c then some c else vf ls k (gi ls c))else none
def uC(x:PS)(c g:Int):Option Int:=
 if 0<=c/\c< (x.im.length:Int)/\0<=g/\g< ((gl x.im c).length:Int)then(if gi (gl x.im c) g<0 then some (-1)else vf x.ls 2000 (gi (gl x.im c) g))else none
def Io(x:PS)(bY:Nat):Option PS:=
 if x.ls.length=x.im.length/\x.ls.length<2000/\bY<=100 then some ⟨x.im++ [List.replicate bY (-1)],x.ls++ [(x.ls.length:Int)]⟩else none
structure LS where
 A:ai
 n:Nat
 c:Nat
 rs:List aX
 im:ag
 B:ai
 m:Nat
 cB:Nat
 ls:ah
def LS.ok(x:LS):Prop:=x.rs.length=x.n/\x.im.length=x.n/\x.ls.length=x.m
abbrev LS.dH(x:LS):List Ck:=ar 2 x.B x.m x.cB x.ls::aU 24 2 x.A x.n x.c x.rs x.im
abbrev LS.cells(x:LS):List ab:=[.slice x.A x.n x.c,.slice x.B x.m x.cB,.bool false]
abbrev LS.val(x:LS):ab:= .agg #[.slice x.A x.n x.c,.slice x.B x.m x.cB,.bool false]
def LS.p(x:LS):PS:=⟨x.im,x.ls⟩
theorem KX{A B:ai}{n c m cB:Nat}{b:Bool}(ls:ah)(k0:Nat)(c0 d:Int)(w:aa)(hR:bt w B m ls)(hf:vf ls k0 c0=some d):
 aG prog 198 [.agg #[.slice A n c,.slice B m cB,.bool b],aj c0] w (fun v w'=>v=aj d/\St w w' []):=by
 have hl:=hR.1;refine bw func198 O ntmps198 O (b7 O) (bb O (zG (St.refl w) O O ?_));intro Ab w1 hS;refine az O (Cd.loop (α:=Int×Nat) (fun s=> [(1,aj s.1),(2,.pointer Ab)]) (fun s w'=>St w w' [Bx 158 3 Ab [.slice A n c,.slice B m cB,.bool b]]/\vf ls s.2 s.1=some d) (fun s=>s.2) (c0,k0) (ajz O) ⟨hS,hf⟩ ?_);rintro⟨c,k⟩ e w1 ⟨hS,hf⟩;obtain⟨q,rfl⟩:∃q,k=q+1:=by cases k with | zero=>cases hf | succ q=>exact⟨q,rfl⟩
 have hf:(if 0<=c/\c< (ls.length:Int)then(if gi ls c=c then some c else vf ls q (gi ls c))else none)=some d:=hf
 split at hf
 case isFalse=>cases hf
 rename_i hc;have kj:=hS.b9 hR;refine bb O (aI (hS.rd 0 O) O (aV (hS.rd 0 O) O (aq O (aA kj.2 O (aY kj O (az O ?_))))));refine aM _ O (fun h1=>?_) (fun h1=>?_)
 ·rw [aR h1]at hf;refine aD O (aI (hS.rd 0 O) O (aV (hS.rd 0 O) O (aq O (aA kj.2 O (aY kj O ?_)))));refine aS O (tQ ?_);exact⟨(gi ls c,q),Nat.lt_succ_self q,(ajz O),hS,hf⟩
 have h1:gi ls c=c:=Decidable.not_not.1 h1;rw [aT h1]at hf;obtain rfl:=bj hf;refine bo O (bn (eG O ?_));exact iY O ⟨O,hS.none⟩
theorem Ea{A B:ai}{n c m cB:Nat}{b:Bool}(rs:List aX)(im:ag)(ls:ah)(c0 g d:Int)(w:aa)(hI:bL w A n rs im)(hR:bt w B m ls)(hf:uC ⟨im,ls⟩ c0 g=some d):
 aG prog 153 [.agg #[.slice A n c,.slice B m cB,.bool b],aj c0,aj g] w (fun v w'=>v=aj d/\St w w' []):=by
 have hl:=hI.len;have hf:(if 0<=c0/\c0< (im.length:Int)/\0<=g/\g< ((gl im c0).length:Int)then(if gi (gl im c0) g<0 then some (-1)else vf ls 2000 (gi (gl im c0) g))else none)=some d:=hf
 split at hf
 case isFalse=>cases hf
 rename_i hc;have bM:=hI.at_ (i:=c0) hc.1 (by omega);have bT:=bM.1;refine bw func153 O ntmps153 O (b7 O) (bb O (zG (St.refl w) O O ?_));intro Ab w1 hS;have pK:=hS.cV hI;have xA:=hS.b9 bM;have kj:=hS.b9 hR;refine aq O (aI (hS.rd 0 O) O (aV (hS.rd 0 O) O (aq O (aA pK.top.2 O (bQ pK.top O (aq O (aA xA.2 O (aY xA O (az O ?_)))))))));refine aM _ O (fun h1=>?_) (fun h1=>?_)
 ·rw [aT h1]at hf;obtain rfl:=bj hf;refine dB O (iY O ?_);exact⟨O,hS.none⟩
 rw [aR h1]at hf;refine aD O (bI 2 (hS.rd 0 O) O O O (aq O (aF (KX ls 2000 _ d _ kj hf) O ?_)));rintro _ w2 ⟨rfl,ax⟩;refine bD O (iY O ?_);exact⟨O,(hS.ao ax.below).none⟩
theorem R0{w0 w:aa}{ks:List Ck}(x:LS)(bY:Nat)(y:PS)(bz:x.ok)(hS:St w0 w (x.dH++ks))(hp:Io x.p bY=some y):
 aG prog 195 [x.val,aj bY] w (fun v w'=>∃x':LS,x'.ok/\x'.p=y/\v= .tuple #[x'.val,aj (x.m:Int)]/\St w0 w' (x'.dH++ks)):=by
 obtain⟨A,n,c,rs,im,B,m,cB,ls⟩:=x;obtain⟨h1,h2,h3⟩:=bz;have h1:rs.length=n:=h1;have h2:im.length=n:=h2;have h3:ls.length=m:=h3;have hp:(if ls.length=im.length/\ls.length<2000/\bY<=100 then some (⟨im++ [List.replicate bY (-1)],ls++ [(ls.length:Int)]⟩:PS)else none)=some y:=hp
 split at hp
 case isFalse=>cases hp
 rename_i hc;have hp:=bj hp;have hS:St w0 w (ar 2 B m cB ls::br 24 A n c rs::(bF 2 rs im++ks)):=hS;refine bw func195 O ntmps195 O (tm O O) (bb O (zG hS O O ?_));intro Ab w1 aC;refine tJ aC O ?_;intro Ac w2 aE;have aE:St w0 w2 (Bx 158 3 Ac [.slice none 0 0,.slice none 0 0,.bool false]::Bx 158 3 Ab [.slice A n c,.slice B m cB,.bool false]::ar 2 B m cB ls::br 24 A n c rs::(bF 2 rs im++ks)):=aE;refine aq O (aI (aE.rd 1 O) O (aV (aE.rd 1 O) O ?_));refine ba O O (az O ?_);refine gV O (by omega) (aD O (fZ aE O ?_));intro A3 w3 aH;refine az O (Cd.loop (α:=Nat×ai×Nat) (fun s=> [(1,aj bY),(2,.pointer Ab),(4,.pointer Ac),(6,aj m),(7,.slice s.2.1 s.1 s.2.2),(8,aj (s.1:Int))]) (fun s w'=>St w0 w' (ar 2 s.2.1 s.1 s.2.2 (List.replicate s.1 (-1))::Bx 158 3 Ac [.slice none 0 0,.slice none 0 0,.bool false]::Bx 158 3 Ab [.slice A n c,.slice B m cB,.bool false]::ar 2 B m cB ls::br 24 A n c rs::(bF 2 rs im++ks))/\s.1<=bY) (fun s=>bY - s.1) (0,A3,0) (ajz O) ⟨aH,bu _⟩ ?_);rintro⟨k,A4,c4⟩ e w4 ⟨aQ,hk⟩;dsimp only at aQ hk;refine b8 O (aM _ O (fun h4=>?_) (fun h4=>?_))
 ·refine aD O (dE aQ O O O ?_);intro A5 w5 a8;refine dS 1 a8 O (a8.bk 0 O) O O O fun A6 c6 w6 bg=>aq O (aK O (aS O (tQ ?_)));refine⟨(k+1,A6,c6),by show bY - (k+1)<bY - k;omega,(ajz O),?_,by show k+1<=bY;omega⟩;have h5:=bg.tail;rw [<-List.replicate_succ']at h5;exact h5
 have jE:k=bY:=by omega
 subst jE;refine bo O (bn (cJ O ?_));refine aI (aQ.rd 2 O) O (aV (aQ.rd 2 O) O (aq O (lU aQ O O O ?_)));intro A5 w5 a8;refine lS 5 a8 O (a8.fq 0 O) O O O (by omega) (by omega) O ?_;intro A6 c6 w6 bg;have bg:St w0 w6 (ar 2 A4 k c4 (List.replicate k (-1))::Bx 158 3 Ac [.slice none 0 0,.slice none 0 0,.bool false]::Bx 158 3 Ab [.slice A n c,.slice B m cB,.bool false]::ar 2 B m cB ls::br 24 A6 (n+1) c6 (rs++ [⟨A4,k,c4⟩])::(bF 2 rs im++ks)):=bg.tail;refine aI (bg.rd 2 O) O (ke 2 bg O O O O O ?_);intro w7 bl;have bl:St w0 w7 (ar 2 A4 k c4 (List.replicate k (-1))::Bx 158 3 Ac [.slice none 0 0,.slice none 0 0,.bool false]::Bx 158 3 Ab [.slice A6 (n+1) c6,.slice B m cB,.bool false]::ar 2 B m cB ls::br 24 A6 (n+1) c6 (rs++ [⟨A4,k,c4⟩])::(bF 2 rs im++ks)):=bl;refine aq O (aI (bl.rd 2 O) O (aV (bl.rd 2 O) O (aq O (dE bl O O O ?_))));intro A8 w8 bK;refine dS 4 bK O (bK.bk 0 O) O O O ?_;intro A9 c9 w9 bh;have bh:St w0 w9 (ar 2 A4 k c4 (List.replicate k (-1))::Bx 158 3 Ac [.slice none 0 0,.slice none 0 0,.bool false]::Bx 158 3 Ab [.slice A6 (n+1) c6,.slice B m cB,.bool false]::ar 2 A9 (m+1) c9 (ls++ [(m:Int)])::br 24 A6 (n+1) c6 (rs++ [⟨A4,k,c4⟩])::(bF 2 rs im++ks)):=bh.tail;refine aI (bh.rd 2 O) O (ke 2 bh O O O O O ?_);intro dA cj;have cj:St w0 dA (ar 2 A4 k c4 (List.replicate k (-1))::Bx 158 3 Ac [.slice none 0 0,.slice none 0 0,.bool false]::Bx 158 3 Ab [.slice A6 (n+1) c6,.slice A9 (m+1) c9,.bool false]::ar 2 A9 (m+1) c9 (ls++ [(m:Int)])::br 24 A6 (n+1) c6 (rs++ [⟨A4,k,c4⟩])::(bF 2 rs im++ks)):=cj;refine aq O (bI 2 (cj.rd 2 O) O O O (aq O (bS 3 1 cj O O O O O O O ?_)));intro eA eI;have eI:St w0 eA (ar 2 A4 k c4 (List.replicate k (-1))::Bx 158 3 Ac [.slice A6 (n+1) c6,.slice A9 (m+1) c9,.bool false]::Bx 158 3 Ab [.slice A6 (n+1) c6,.slice A9 (m+1) c9,.bool false]::ar 2 A9 (m+1) c9 (ls++ [(m:Int)])::br 24 A6 (n+1) c6 (rs++ [⟨A4,k,c4⟩])::(bF 2 rs im++ks)):=eI;refine bD O (mH O (eI.rd 1 O) O ?_);refine⟨⟨A6,n+1,c6,rs++ [⟨A4,k,c4⟩],im++ [List.replicate k (-1)],A9,m+1,c9,ls++ [(m:Int)]⟩,⟨by simp [h1],by simp [h2],by simp [h3]⟩,?_,O,?_⟩
 ·rw [<-hp,h3];rfl
 have h5:=(eI.sub ((((dY _).cons _).cons _).cons_cons _));show St w0 eA (ar 2 A9 (m+1) c9 (ls++ [(m:Int)])::br 24 A6 (n+1) c6 (rs++ [⟨A4,k,c4⟩])::(bF 2 (rs++ [⟨A4,k,c4⟩]) (im++ [List.replicate k (-1)])++ks));rw [tp (by omega),fK];refine h5.perm ((eK (l₁:=[_,_]) (a:=ar 2 A4 k c4 (List.replicate k (-1)))).symm.trans ?_);refine List.Perm.cons _ (List.Perm.cons _ ?_);exact eK.symm
def xW(M:ag)(c g v:Int):ag:=M.set c.toNat ((gl M c).set g.toNat v)
def BN(x:PS)(c g:Int):Option (PS×Int):=
 match uC x c g with
 | none=>none
 | some d=>if 0<=d then some (x,d)else
  match Io x (gl x.im 0).length with
  | none=>none
  | some y=>if g< ((gl x.im 0).length:Int)then some (⟨xW (xW y.im c g (x.ls.length:Int)) (x.ls.length:Int) g c,y.ls⟩,(x.ls.length:Int))else none
theorem St.np{w0 w:aa}{pre a ks:List Ck}(h:St w0 w (pre++ (a++ks))):St w0 w (a++ (pre++ks)):=h.perm (by
 rw [<-fK,<-fK];exact iK.append_right ks)
def zE(w0:aa)(pre:List Ck)(ks:List Ck)(y:PS)(x:LS)(w:aa):Prop:=x.ok/\x.p=y/\St w0 w (pre++ (x.dH++ks))
theorem LS.eU{w0 w:aa}{pre ks:List Ck}{x:LS}(bz:x.ok)(h:St w0 w (pre++ (x.dH++ks))):bL w x.A x.n x.rs x.im:=by
 have h1:St w0 w (x.dH++ (pre++ks)):=h.np;have h2:St w0 w (aU 24 2 x.A x.n x.c x.rs x.im++ (pre++ks)):=h1.tail;exact h2.eU bz.2.1
theorem LS.bk{w0 w:aa}{pre ks:List Ck}{x:LS}(h:St w0 w (pre++ (x.dH++ks))):bt w x.B x.m x.ls:=by
 have h1:St w0 w (x.dH++ (pre++ks)):=h.np;exact h1.bk 0 O
theorem KY{w0 w:aa}{ks:List Ck}(x:LS)(c g:Int)(y:PS)(d:Int)(bz:x.ok)(hS:St w0 w (x.dH++ks))(hp:BN x.p c g=some (y,d)):
 aG prog 197 [x.val,aj c,aj g] w (fun v w'=>∃x':LS,x'.ok/\x'.p=y/\v= .tuple #[x'.val,aj d]/\St w0 w' (x'.dH++ks)):=by
 unfold BN at hp
 split at hp
 case h_1=>cases hp
 rename_i d0 Du;have hcc:0<=c/\c< (x.im.length:Int)/\0<=g/\g< ((gl x.im c).length:Int):=by
  have yK:(if 0<=c/\c< (x.im.length:Int)/\0<=g/\g< ((gl x.im c).length:Int)then(if gi (gl x.im c) g<0 then some (-1)else vf x.ls 2000 (gi (gl x.im c) g))else none)=some d0:=Du
  split at yK
  case isFalse=>cases yK
  rename_i h;exact h
 obtain⟨ci,rfl⟩:∃ci:Nat,c=ci:=⟨c.toNat,by omega⟩;have FJ:=LS.bk (pre:=[]) hS;have rM:=LS.eU (pre:=[]) bz hS;refine bw func197 O ntmps197 O (tm O O) (bb O (zG hS O O ?_));intro Ab w1 aC;refine tJ aC O ?_;intro Ac w2 aE;have aE:St w0 w2 ([Bx 158 3 Ac [.slice none 0 0,.slice none 0 0,.bool false],Bx 158 3 Ab x.cells]++ (x.dH++ks)):=aE;have rR:=LS.bk aE;have rN:=LS.eU bz aE;refine aq O (bI 2 (aE.rd 1 O) O O O (aq O (aF (Ea x.rs x.im x.ls ci g d0 _ rN rR Du) O ?_)));rintro _ w3 ⟨rfl,ax⟩;have aH:=aE.ao ax.below;refine az O (aM _ O (fun h1=>?_) (fun h1=>?_))
 ·rw [aT h1]at hp;obtain⟨rfl,rfl⟩:=Prod.mk.inj (bj hp);refine aD O (bI 2 (aH.rd 1 O) O O O (aq O (bS 3 0 aH O O O O O O O ?_)));intro w4 aQ;refine bD O (mH O (aQ.rd 0 O) O ?_);exact⟨x,bz,O,O,(aQ.sub ((dY _).cons _)).sub ((dY _).cons _)⟩
 rw [aR h1]at hp
 split at hp
 case h_1=>cases hp
 rename_i y1 nP
 split at hp
 case isFalse=>cases hp
 rename_i hg;obtain⟨e1,e2⟩:=Prod.mk.inj (bj hp);have Ay:=rN.ao ax.below;have hn:0<x.n:=by have:=bz.2.1;omega
 have bM:=Ay.at_ (i:=0) (Int.le_refl _) (by omega);have bT:(rg x.rs 0).n=(gl x.im 0).length:=bM.1.symm;refine cW O ?_;refine jm [6,10] [.ex (.agg #[.slice (x.A) (x.n) (x.c),.slice (x.B) (x.m) (x.cB),.bool (false)]),yP (aB (Ab) 0),yS (x.A) (x.n) (x.c),yP (aB (x.A) ((0:Int)).toNat),yS ((rg (x.rs) ((0:Int))).a) ((rg (x.rs) ((0:Int))).n) ((rg (x.rs) ((0:Int))).c),yI ((((rg (x.rs) ((0:Int))).n:Nat):Int)),.pr (fun v w'=>∃x':LS,v= .tuple #[x'.val,aj (x.m:Int)]/\zE w0 [Bx 158 3 Ac [.slice none 0 0,.slice none 0 0,.bool false],Bx 158 3 Ab x.cells] ks y1 x' w'),.al (fun v=>∃u0,v= .tuple #[u0,aj (x.m:Int)]) (fun v w'=>∃x':LS,v= .tuple #[x'.val,aj (x.m:Int)]/\zE w0 [Bx 158 3 Ac [.slice none 0 0,.slice none 0 0,.bool false],Bx 158 3 Ab x.cells] ks y1 x' w'),.pr (fun v w'=>∃x':LS,v=x'.val/\zE w0 [Bx 158 3 Ac [.slice none 0 0,.slice none 0 0,.bool false],Bx 158 3 Ab x.cells] ks y1 x' w'),yI (x.m:Int),.pr (fun _ w'=>∃x':LS,zE w0 [Bx 158 3 Ac [.slice none 0 0,.slice none 0 0,.bool false],Bx 158 3 Ab x'.cells] ks y1 x' w'),yI (x.m:Int)] (ly (ly (ly (ly (ly (ly (cg.2 ⟨Ye.cH (fun v w w' h hb=>by obtain⟨x',hv,h1,h2,h3⟩:=h;exact⟨x',hv,h1,h2,h3.ao hb⟩),(cg.2 ⟨VG (fun v w w' h hb=>by obtain⟨x',hv,h1,h2,h3⟩:=h;exact⟨x',hv,h1,h2,h3.ao hb⟩),(cg.2 ⟨Ye.cH (fun v w w' h hb=>by obtain⟨x',hv,h1,h2,h3⟩:=h;exact⟨x',hv,h1,h2,h3.ao hb⟩),(ly (cg.2 ⟨Ye.cH (fun v w w' h hb=>by obtain⟨x',h1,h2,h3⟩:=h;exact⟨x',h1,h2,h3.ao hb⟩),(ly (fun _ h=>by cases h))⟩))⟩)⟩)⟩))))))) ?_ ?_
 ·refine⟨cP fun _ _ hb _ _ _=>bI 2 ((aH.rd 1 O).below hb) O O O (bq O O),cP fun _ _ hb _ _ _=>aI ((aH.rd 1 O).below hb) O (bq O O),cP fun _ _ hb _ _ _=>aV ((aH.rd 1 O).below hb) O (bq O O),cP fun _ _ hb _ _ _=>aA (Ay.top.ao hb).2 O (bq O O),cP fun _ _ hb _ _ _=>bQ (Ay.top.ao hb) O (bq O O),aP fun _ _=>ba O O (bq O O),?_,?_,?_,?_,?_,bZ O,aw⟩
  ·refine ju fun e1 w1 hb hp bc hq=>?_
   refine ajq (R0 x (gl x.im 0).length y1 bz ((aH.ao hb).np (pre:=[_,_])) nP) O (by rw [<-bT];rfl) O ?_;rintro _ w4 ⟨x',jF,jj,rfl,hT⟩;exact ak.n (fF.dn O ⟨x',O,jF,jj,hT.np⟩)
  ·refine dP 1 fun e1 w1 hp bc hq=>?_
   have fC:=hp 6 _ _ (by kernel_rfl) O O (by kernel_rfl);obtain⟨x',hv,hT⟩:=(hp 6 _ _ (by kernel_rfl) rfl rfl (by kernel_rfl));refine HA O (by exact hv) O (ak.n ?_);exact fu.dn O (Below.refl _ _) ⟨⟨_,O⟩,x',O,hT⟩
  ·refine dP 1 fun e1 w1 hp bc hq=>?_
   have fC:=hp 6 _ _ (by kernel_rfl) O O (by kernel_rfl);obtain⟨x',hv,hT⟩:=((hp 7 _ _ (by kernel_rfl) rfl rfl).2 (by kernel_rfl));refine ak.extract (by exact hv) O O (ak.n ?_);exact fu.dn O (Below.refl _ _) ⟨x',O,hT⟩
  ·intro e1 w1 cc fB ea fz hp bc hq;show ak _ _ _ _ _ _ _;obtain⟨u0,hv⟩:=(hp 7 _ _ (by kernel_rfl) rfl rfl).1;refine ak.extract (by exact hv) O O (ak.n ?_);exact fu.dn O (Below.refl _ _) O
  refine sP 1 fun e1 w1 hp bc hq=>?_
  have fC:=hp 6 _ _ (by kernel_rfl) O O (by kernel_rfl);obtain⟨x',hv,h1,h2,h3⟩:=(hp 8 _ _ (by kernel_rfl) rfl rfl (by kernel_rfl));refine bS 3 1 h3 O O (by exact hv) O O O O ?_;intro eA kR;exact ak.n (fF.st O ⟨x',h1,h2,kR⟩)
 intro u w5 _ hu _ _;obtain⟨x',jF,jj,hT⟩:=hu 10 _ rfl (by kernel_rfl);have vJ:x.ls.length=x.m:=bz.2.2;have uB:=nP;have nP:(if x.ls.length=x.im.length/\x.ls.length<2000/\(gl x.im 0).length<=100 then some (⟨x.im++ [List.replicate (gl x.im 0).length (-1)],x.ls++ [(x.ls.length:Int)]⟩:PS)else none)=some y1:=nP
 split at nP
 case isFalse=>cases nP
 rename_i fa;obtain rfl:=bj nP;have s3:x'.im=x.im++ [List.replicate (gl x.im 0).length (-1)]:=aL PS.im jj;have hls:x'.ls=x.ls++ [(x.ls.length:Int)]:=aL PS.ls jj;have gn:g< ((gl x.im 0).length:Int):=hg;have uo:x'.n=x.n+1:=by have:=jF.2.1;rw [s3,dh]at this;have h5:=bz.2.1;simp at this;omega
 have wX:St w0 w5 ([Bx 158 3 Ac [.slice none 0 0,.slice none 0 0,.bool false],Bx 158 3 Ab x'.cells]++ (x'.dH++ks)):=hT;have dW:St w0 w5 ([Bx 158 3 Ac [.slice none 0 0,.slice none 0 0,.bool false],Bx 158 3 Ab x'.cells,ar 2 x'.B x'.m x'.cB x'.ls]++ (aU 24 2 x'.A x'.n x'.c x'.rs x'.im++ks)):=hT;have Jm:=LS.eU jF wX;have da:x.im.length=x.n:=bz.2.1;have Ra:=Jm.at_ (i:=(ci:Int)) hcc.1 (by omega);have Xs:gl x'.im ci=gl x.im ci:=by
  rw [s3];simp only [gl,gB,dt];rw [lh (by omega)]
 have Xt:gl x'.im (x.m:Int)=List.replicate (gl x.im 0).length (-1):=by
  rw [s3];simp only [gl,gB,dt];rw [jW (by omega)];simp [show x.m - x.im.length=0 by omega]
 have Kn:(rg x'.rs ci).n=(gl x.im ci).length:=by rw [<-Ra.1,Xs]
 have nL:x'.rs.length=x'.im.length:=by rw [jF.1,jF.2.1]
 refine fJ O (aI (dW.rd 1 O) O (ye (dW.rd 1 O) O O O O O (az O (Cd.dZ O (aD O (aI (dW.rd 1 O) O (aV (dW.rd 1 O) O (aq O (aA Jm.top.2 O ?_)))))))));refine bQ Jm.top O (aq O (aA Ra.2 O ?_));refine CH ci dW nL (by rw [jF.1];omega) O O (by omega) ?_;intro w6 eJ;have DJ:({ x' with im:=x'.im.set ci ((gl x'.im ci).set g.toNat (x.m:Int)) }:LS).ok:=⟨jF.1,by show(x'.im.set _ _).length=_;rw [iR];exact jF.2.1,jF.2.2⟩;generalize Kz:({ x' with im:=x'.im.set ci ((gl x'.im ci).set g.toNat (x.m:Int)) }:LS)=x6 at DJ;have I9:x6.A=x'.A/\x6.n=x'.n/\x6.c=x'.c/\x6.rs=x'.rs/\x6.B=x'.B/\x6.m=x'.m/\x6.cB=x'.cB/\x6.ls=x'.ls/\x6.im=x'.im.set ci ((gl x'.im ci).set g.toNat (x.m:Int)):=by subst Kz;exact⟨rfl,rfl,rfl,rfl,rfl,rfl,rfl,rfl,rfl⟩
 obtain⟨q1,q2,q3,q4,q5,q6,q7,q8,q9⟩:=I9;have yG:St w0 w6 ([Bx 158 3 Ac [.slice none 0 0,.slice none 0 0,.bool false],Bx 158 3 Ab x'.cells]++ (x6.dH++ks)):=by
  show St w0 w6 ([Bx _ 3 Ac _,Bx _ 3 Ab x'.cells]++ ((ar _ x6.B x6.m x6.cB x6.ls::aU _ _ x6.A x6.n x6.c x6.rs x6.im)++ks));rw [q1,q2,q3,q4,q5,q6,q7,q8,q9];exact eJ
 have vk:=LS.eU DJ yG;have y7:=vk.at_ (i:=(x.m:Int)) (by omega) (by omega);have It:gl x6.im (x.m:Int)=List.replicate (gl x.im 0).length (-1):=by
  rw [q9,IW (by rw [s3,dh];omega),aR (by omega),Xt]
 have s8:(rg x6.rs (x.m:Int)).n=(gl x.im 0).length:=by rw [<-y7.1,It,List.length_replicate]
 refine aq O (aI (yG.rd 1 O) O (aV (yG.rd 1 O) O (aq O ?_)));rw [q1,q2,q4]at vk;rw [q4]at y7 s8;refine aA vk.top.2 O (bQ vk.top O (aq O (aA y7.2 O ?_)));have fg:St w0 w6 ([Bx 158 3 Ac [.slice none 0 0,.slice none 0 0,.bool false],Bx 158 3 Ab x'.cells,ar 2 x'.B x'.m x'.cB x'.ls]++ (aU 24 2 x'.A x'.n x'.c x'.rs x6.im++ks)):=by
  rw [q9];exact eJ
 refine CH x.m fg (by rw [q9,iR];exact nL) (by rw [jF.1];omega) O O (by omega) ?_;intro w8 gK;refine aq O (bI 2 (gK.rd 1 O) O O O (aq O (bS 3 0 gK O O O O O O O ?_)));intro w9 jy;refine bD O (mH O (jy.rd 0 O) O ?_);refine⟨{ x' with im:=x6.im.set x.m ((gl x6.im (x.m:Int)).set g.toNat (ci:Int)) },⟨jF.1,by show(x6.im.set _ _).length=_;rw [iR,q9,iR];exact jF.2.1,jF.2.2⟩,?_,?_,(jy.sub ((dY _).cons _)).sub ((dY _).cons _)⟩
 ·rw [<-e1];show(⟨x6.im.set x.m ((gl x6.im (x.m:Int)).set g.toNat (ci:Int)),x'.ls⟩:PS)=_;rw [q9,s3,hls];unfold xW;simp only [gB];have e9:x.p.ls.length=x.m:=vJ;rw [e9]
 rw [<-e2];have e9:x.p.ls.length=x.m:=vJ;rw [e9]
 rfl
def BE(lo hi:Int):Nat->Nat->ag->ah->ah->Option (ag×ah×ah)
 | 0,_,_,_,_=>none
 | k+1,g,im,one,two=>
  if g< (gl im hi).length then
   if gi (gl im hi) g<0 then BE lo hi k (g+1) im one two
   else if g< (gl im lo).length then
    if 0<=gi (gl im lo) g then(if one.length<1000000/\two.length<1000000 then BE lo hi k (g+1) im (one++ [gi (gl im hi) g]) (two++ [gi (gl im lo) g])else none)
    else BE lo hi k (g+1) (xW im lo g (gi (gl im hi) g)) one two
   else none
  else some (im,one,two)
def vK:Nat->Nat->PS->ah->ah->Option PS
 | 0,_,_,_,_=>none
 | k+1,i,x,one,two=>
  if i<one.length then
   if i<two.length then
    match vf x.ls 2000 (gi one i),vf x.ls 2000 (gi two i)with
    | some a,some b=>
     if a=b then vK k (i+1) x one two
     else
      if 0<=(if b<a then b else a)/\(if b<a then a else b)< (x.im.length:Int)/\(if b<a then a else b)< (x.ls.length:Int)/\x.im.length<=2000 then
       match BE (if b<a then b else a) (if b<a then a else b) 1000 0 x.im one two with
       | some (im,Ef,Ma)=>vK k (i+1) ⟨im,x.ls.set (if b<a then a else b).toNat (if b<a then b else a)⟩ Ef Ma
       | none=>none
      else none
    | _,_=>none
   else none
  else some x
structure MC where
 i:Nat
 k:Nat
 A7:ai
 c7:Nat
 one:ah
 A8:ai
 c8:Nat
 two:ah
 im:ag
 ls:ah
theorem R3{w0 w:aa}{ks:List Ck}(x:LS)(c d:Int)(y:PS)(k0:Nat)(bz:x.ok)(hS:St w0 w (x.dH++ks))(hp:vK k0 0 x.p [c] [d]=some y):
 aG prog 246 [x.val,aj c,aj d] w (fun v w'=>∃x':LS,x'.ok/\x'.p=y/\v=x'.val/\St w0 w' (x'.dH++ks)):=by
 obtain⟨A,n,cc,rs,im,B,m,cB,ls⟩:=x;obtain⟨h1,h2,h3⟩:=bz;have h1:rs.length=n:=h1;have h2:im.length=n:=h2;have h3:ls.length=m:=h3;refine bw func246 O ntmps246 O (kX O O) (bb O (zG hS O O ?_));intro Ab w1 aC;refine tJ aC O fun Ac w2 aE=>aq O (dE aE O O O ?_);intro A7 w3 aH;refine aq O (dE aH O O O ?_);intro A8 w4 aQ;have aQ:St w0 w4 ([ar 2 A8 1 1 [d],ar 2 A7 1 1 [c],Bx 158 3 Ac [.slice none 0 0,.slice none 0 0,.bool false],Bx 158 3 Ab [.slice A n cc,.slice B m cB,.bool false],ar 2 B m cB ls]++ (aU 24 2 A n cc rs im++ks)):=aQ;refine az O ?_;refine Cd.loop (α:=MC) (fun s=> [(3,.pointer Ab),(6,.pointer Ac),(7,.slice s.A7 s.one.length s.c7),(8,.slice s.A8 s.two.length s.c8),(9,aj (s.i:Int))]) (fun s w'=>St w0 w' ([ar 2 s.A8 s.two.length s.c8 s.two,ar 2 s.A7 s.one.length s.c7 s.one,Bx 158 3 Ac [.slice none 0 0,.slice none 0 0,.bool false],Bx 158 3 Ab [.slice A n cc,.slice B m cB,.bool false],ar 2 B m cB s.ls]++ (aU 24 2 A n cc rs s.im++ks))/\s.im.length=n/\s.ls.length=m/\vK s.k s.i ⟨s.im,s.ls⟩ s.one s.two=some y) (fun s=>s.k)
  ⟨0,k0,A7,1,[c],A8,1,[d],im,ls⟩ ⟨rfl,rfl,rfl,rfl,rfl,aw⟩ ⟨aQ,h2,h3,hp⟩ ?_
 rintro⟨i,k,A7,c7,one,A8,c8,two,im,ls⟩ e w5 ⟨a8,h2,h3,hf⟩;dsimp only at a8 h2 h3 hf|-;obtain⟨q,rfl⟩:∃q,k=q+1:=by cases k with | zero=>cases hf | succ q=>exact⟨q,rfl⟩
 rw [vK]at hf;have oo:=a8.cap 1 O;dsimp only [ar]at oo;simp only [maxLen]at oo;refine bb O (ba O O (az O ?_));refine aM _ O (fun hi=>?_) (fun hi=>?_)
 ·rw [aT (by omega)]at hf
  split at hf
  case isFalse=>cases hf
  rename_i r5
  split at hf
  case h_2=>cases hf
  rename_i a b hfa hfb;have ua:bt w5 B m ls:=a8.bk 4 O;refine cW O (dQ [.ex (.agg #[.slice (A) (n) (cc),.slice (B) (m) (cB),.bool (false)]),xS (A7) (one.length) (c7),xI ((i:Int)),xP (aB (A7) ((i:Int)).toNat),xI (gi (one) ((i:Int))),xI (a),.ex (.agg #[.slice (A) (n) (cc),.slice (B) (m) (cB),.bool (false)]),xS (A8) (two.length) (c8),xI ((i:Int)),xP (aB (A8) ((i:Int)).toNat),xI (gi (two) ((i:Int))),xI (b),xI (a),xI (b)] O (eE O) ?_ ?_)
  ·refine⟨fun _ _ hb _ _=>bI 2 ((a8.rd 3 O).below hb) O O O Az,Dr O,Dr O,fun _ _ hb _ _=>aA ((a8.bk 1 O).ao hb).2 O Az,fun _ _ hb _ _=>aY ((a8.bk 1 O).ao hb) O Az,?_,fun _ _ hb _ _=>bI 2 ((a8.rd 3 O).below hb) O O O Az,Dr O,Dr O,fun _ _ hb _ _=>aA ((a8.bk 0 O).ao hb).2 O Az,fun _ _ hb _ _=>aY ((a8.bk 0 O).ao hb) O Az,?_,Dr O,Dr O,aw⟩
   ·intro e1 w1 hb hp bc;refine aF (KX ls 2000 _ a _ (ua.ao hb) hfa) O ?_;rintro _ w2 ⟨rfl,ax⟩;refine ak.n ?_;exact e6.dn ax.below (by exact O)
   intro e1 w1 hb hp bc;refine aF (KX ls 2000 _ b _ (ua.ao hb) hfb) O ?_;rintro _ w2 ⟨rfl,ax⟩;refine ak.n ?_;exact e6.dn ax.below (by exact O)
  intro u w6 jR _;have bg:=a8.ao jR;refine fv O (aM _ O (fun kl=>?_) (fun kl=>?_))
  ·rw [aT kl]at hf;refine aD O (aK O (aS O (tQ ?_)));exact⟨⟨i+1,q,A7,c7,one,A8,c8,two,im,ls⟩,Nat.lt_succ_self q,(ajz O),bg,h2,h3,hf⟩
  rw [aR kl]at hf;refine wm 1 O ?_;refine nq (α:=Unit) (fun _=> [(3,.pointer Ab),(6,.pointer Ac),(7,.slice A7 one.length c7),(8,.slice A8 two.length c8),(9,aj i),(10,aj (if b<a then b else a)),(11,aj (if b<a then a else b))]) (fun _ w'=>w'=w6) ?_ ?_
  ·refine b8 O (aM _ O (fun eL=>?_) (fun eL=>?_))
   ·refine mN O (tQ ?_);exact⟨(),⟨O,O,O,O,O,by show Value.int .i64 _=aj _;rw [aT eL],by show Value.int .i64 _=aj _;rw [aT eL],aw⟩,O⟩
   refine mN O (tQ ?_);exact⟨(),⟨O,O,O,O,O,by show Value.int .i64 _=aj _;rw [aR eL],by show Value.int .i64 _=aj _;rw [aR eL],aw⟩,O⟩
  rintro _ e w7 rfl;have QE:(if b<a then b else a)< (if b<a then a else b):=by split<;>omega
  generalize (if b<a then b else a)=lo at hf QE|-;generalize (if b<a then a else b)=dI at hf QE|-
  split at hf
  case isFalse=>cases hf
  rename_i gQ;dsimp only at gQ
  split at hf
  case h_2=>cases hf
  rename_i im' Ef Ma abW;obtain⟨qb,rfl⟩:∃q:Nat,lo=q:=⟨lo.toNat,by omega⟩;obtain⟨qO,rfl⟩:∃q:Nat,dI=q:=⟨dI.toNat,by omega⟩;rw [gB]at hf;have ZL:=bg.bk 4 O;refine aD O (aI (bg.rd 3 O) O (aV (bg.rd 3 O) O (aq O (aA ZL.2 O (ak.iG 4 bg O O O (by omega) ?_)))));intro w8 bK;have bK:St w0 w8 ([ar 2 A8 two.length c8 two,ar 2 A7 one.length c7 one,Bx 158 3 Ac [.slice none 0 0,.slice none 0 0,.bool false],Bx 158 3 Ab [.slice A n cc,.slice B m cB,.bool false],ar 2 B m cB (ls.set qO (qb:Int))]++ (aU 24 2 A n cc rs im++ks)):=bK;refine az O ?_;refine Cd.loop (α:=MC) (fun s=> [(3,.pointer Ab),(6,.pointer Ac),(7,.slice s.A7 s.one.length s.c7),(8,.slice s.A8 s.two.length s.c8),(9,aj i),(10,aj qb),(11,aj qO),(12,aj (s.i:Int))]) (fun s w'=>St w0 w' ([ar 2 s.A8 s.two.length s.c8 s.two,ar 2 s.A7 s.one.length s.c7 s.one,Bx 158 3 Ac [.slice none 0 0,.slice none 0 0,.bool false],Bx 158 3 Ab [.slice A n cc,.slice B m cB,.bool false],ar 2 B m cB (ls.set qO (qb:Int))]++ (aU 24 2 A n cc rs s.im++ks))/\s.im.length=n/\BE qb qO s.k s.i s.im s.one s.two=some (im',Ef,Ma)/\s.i+s.k<=1000) (fun s=>s.k)
   ⟨0,1000,A7,c7,one,A8,c8,two,im,ls⟩ ⟨rfl,rfl,rfl,rfl,rfl,rfl,rfl,rfl,aw⟩ ⟨bK,h2,abW,dC _⟩ ?_
  rintro⟨g,k,A7,c7,one,A8,c8,two,im,Le⟩ e w9 ⟨bh,h2,hg,hgk⟩;dsimp only at bh h2 hg hgk|-;obtain⟨r,rfl⟩:∃q,k=q+1:=by cases k with | zero=>cases hg | succ q=>exact⟨q,rfl⟩
  rw [BE]at hg;have rO:bL w9 A n rs im:=LS.eU (x:=⟨A,n,cc,rs,im,B,m,cB,ls.set qO (qb:Int)⟩) ⟨h1,h2,by rw [iR];exact h3⟩ (pre:=[ar 2 A8 two.length c8 two,ar 2 A7 one.length c7 one,Bx 158 3 Ac [.slice none 0 0,.slice none 0 0,.bool false],Bx 158 3 Ab [.slice A n cc,.slice B m cB,.bool false]]) bh;have vH:=rO.at_ (i:=(qO:Int)) (by omega) (by omega);have Gi:=rO.at_ (i:=(qb:Int)) (by omega) (by omega);have hh1:=vH.1;have QA:=Gi.1;refine bb O (aI (bh.rd 3 O) O (aV (bh.rd 3 O) O (aq O (aA rO.top.2 O (bQ rO.top O ?_)))));refine ba O O (az O ?_);refine aM _ O (fun oq=>?_) (fun oq=>?_)
  ·rw [aT (by omega)]at hg;refine aD O (aI (bh.rd 3 O) O (aV (bh.rd 3 O) O (aq O (aA rO.top.2 O (bQ rO.top O (aq O (aA vH.2 O (aY vH O (az O ?_)))))))));refine aM _ O (fun he=>?_) (fun he=>?_)
   ·rw [aT he]at hg;refine aD O (aK O (aS O (tQ ?_)));exact⟨⟨g+1,r,A7,c7,one,A8,c8,two,im,Le⟩,Nat.lt_succ_self r,(ajz O),bh,h2,hg,by show g+1+r<=1000;omega⟩
   rw [aR he]at hg
   split at hg
   case isFalse=>cases hg
   rename_i hgl2;refine aD O (aI (bh.rd 3 O) O (aV (bh.rd 3 O) O (aq O (aA rO.top.2 O (bQ rO.top O (aq O (aA Gi.2 O (aY Gi O (az O ?_)))))))));refine aM _ O (fun Dw=>?_) (fun Dw=>?_)
   ·rw [aT Dw]at hg
    split at hg
    case isFalse=>cases hg
    rename_i hlen;refine aD O (dE bh O O O ?_);intro du dA cj;refine dS 2 cj O (cj.bk 0 O) O O O ?_;intro gv og eA eI;have eI:St w0 eA ([ar 2 A8 two.length c8 two,ar 2 gv (one.length+1) og (one++ [gi (gl im qO) g]),Bx 158 3 Ac [.slice none 0 0,.slice none 0 0,.bool false],Bx 158 3 Ab [.slice A n cc,.slice B m cB,.bool false],ar 2 B m cB (ls.set qO (qb:Int))]++ (aU 24 2 A n cc rs im++ks)):=eI.tail;refine aq O (dE eI O O O ?_);intro eZ fY eo;refine dS 1 eo O (eo.bk 0 O) O O O ?_;intro rr CX iw fR;have fR:St w0 iw ([ar 2 rr (two.length+1) CX (two++ [gi (gl im qb) g]),ar 2 gv (one.length+1) og (one++ [gi (gl im qO) g]),Bx 158 3 Ac [.slice none 0 0,.slice none 0 0,.bool false],Bx 158 3 Ab [.slice A n cc,.slice B m cB,.bool false],ar 2 B m cB (ls.set qO (qb:Int))]++ (aU 24 2 A n cc rs im++ks)):=fR.tail;refine aq O (aK O (aS O (tQ ?_)));refine⟨⟨g+1,r,gv,og,one++ [gi (gl im qO) g],rr,CX,two++ [gi (gl im qb) g],im,Le⟩,Nat.lt_succ_self r,⟨O,O,by show Value.slice _ _ _= .slice _ _ _;rw [dh];rfl,by show Value.slice _ _ _= .slice _ _ _;rw [dh];rfl,O,O,O,O,aw⟩,?_,h2,hg,by show g+1+r<=1000;omega⟩;dsimp only;rw [dh,dh];exact fR
   rw [aR Dw]at hg;refine aD O (aI (bh.rd 3 O) O (aV (bh.rd 3 O) O (aq O (aA rO.top.2 O (bQ rO.top O (aq O (aA Gi.2 O (CH qb bh (by omega) (by omega) O O (by omega) ?_))))))));intro dA cj;refine aq O (aK O (aS O (tQ ?_)));exact⟨⟨g+1,r,A7,c7,one,A8,c8,two,im.set qb ((gl im qb).set g (gi (gl im qO) g)),Le⟩,Nat.lt_succ_self r,(ajz O),cj,by show(im.set _ _).length=n;rw [iR];exact h2,hg,by show g+1+r<=1000;omega⟩
  rw [aR (by omega)]at hg;have hg:=bj hg;simp only [Prod.mk.injEq]at hg;obtain⟨rfl,rfl,rfl⟩:=hg;refine bo O (bn (cJ O (aK O (aS O (tQ ?_)))));exact⟨⟨i+1,q,A7,c7,one,A8,c8,two,im,ls.set qO (qb:Int)⟩,Nat.lt_succ_self q,(ajz O),bh,h2,by show(ls.set _ _).length=m;rw [iR];exact h3,hf⟩
 rw [aR (by omega)]at hf;obtain rfl:=bj hf;refine bo O (bn (cJ O ?_));refine bI 2 (a8.rd 3 O) O O O (bS 3 2 a8 O O O O O O O ?_);intro w6 bg;refine bD O (fI O (bg.rd 2 O) ?_);exact⟨⟨A,n,cc,rs,im,B,m,cB,ls⟩,⟨h1,h2,h3⟩,O,O,bg.sub (((((dY _).cons _).cons _).cons _).cons _)⟩
def M9(l:List Oper):Bool:=l.zipIdx.all fun p=> (fk p.1).all fun ed=>Nat.blt ed.on p.2
theorem aZ{o:Oper}{S:Nat->Bool}(h:∀ed∈fk o,S ed.on=true)(k:Nat)(hk:(fk o).any (fun ed=>Nat.beq ed.on k)=true):S k=true:=by
 obtain⟨ed,fh,hb⟩:=List.any_eq_true.1 hk;rw [<-mO hb];exact h ed fh
section
variable {P:Program} {N:Nat} {e:Env} {w:aa}
theorem oO{id:Nat}{l:List Oper}{Q:jr}(hm:P.follows .mixedOrders=true)(vw:M9 l=true)(I:(Nat->Bool)->Env->aa->Prop)(h0:∀w1,Below w.heap.size w w1->I (fun _=>false) e w1)
 (ib:∀(S:Nat->Bool) (i:Nat) (o:Oper) (e1:Env) (w1:aa),l[i]?=some o->S i=false->(∀ed∈fk o,S ed.on=true)->(∀(k:Nat) (o':Oper),S k=true->l[k]?=some o'->∀ed∈fk o',S ed.on=true)->I S e1 w1->ak P N l.toArray (fun e2 w2=>I (fun k=>Nat.beq k i || S k) e2 w2) [o] e1 w1)
 (vx:∀(S:Nat->Bool) (e1:Env) (w1:aa),(∀i,i<l.length->S i=true)->I S e1 w1->Q .normal e1 w1):Cd P N (.region id l.toArray true) Q e w:= .mk' fun a ha=>by
 have vu:∀(i:Nat) (o:Oper),l[i]?=some o->∀ed∈fk o,ed.on<i:=by
  intro i o ho ed fh;simp only [M9,List.all_eq_true]at vw;have:=vw (o,i) (by
   obtain⟨hi,xn⟩:=gw.1 ho;rw [List.mem_iff_getElem?];exact⟨i,by simp [ho]⟩)
  simpa [Nat.blt_eq]using this ed fh
 refine wp_region_any hm ?_;have key:∀(fuel:Nat) (listed:Array Bool) (a1:Act) (e1:Env) (w1:aa),js N a1 e1->listed.size=l.length->
  (∀(i:Nat) (o:Oper),listed.getD i false=true->l[i]?=some o->∀ed∈fk o,listed.getD ed.on false=true)->I (fun k=>listed.getD k false) e1 w1->(l.length - fuel<=(List.range l.length).countP fun i=>listed.getD i false)->
  wpAny P .any l.toArray (low N Q) fuel listed a1 w1:=by
  have iV:∀(listed:Array Bool) (a1:Act) (e1:Env) (w1:aa),js N a1 e1->I (fun k=>listed.getD k false) e1 w1->(∀i,i<l.length->listed.getD i false=true)->low N Q .normal a1 w1:=
   fun listed a1 e1 w1 hr hI cO=> ⟨e1,hr,vx _ e1 w1 cO hI⟩
  have DQ:∀(listed:Array Bool),listed.size=l.length->Region.ready .any l.toArray listed=[]->∀i,i<l.length->listed.getD i false=true:=by
   intro listed lP mx i
   induction i using Nat.strongRecOn with
   | _ i ih=>
    intro hi;cases um:listed.getD i false with
    | true=>rfl
    | false=>
     exfalso;have:i∈Region.ready .any l.toArray listed:=by
      rw [mem_ready];refine⟨?_,l[i],by simp [hi],fun ed fh gQ=>ih ed.on (vu i _ (fU hi) ed (pa.2 ⟨fh,gQ⟩)) (by have:=vu i _ (fU hi) ed (pa.2 ⟨fh,gQ⟩);omega)⟩;rw [iI,pv (by omega)]at um|-;exact um
     rw [mx]at this;cases this
  intro fuel
  induction fuel with
  | zero=>
   intro listed a1 e1 w1 hr lP bE hI lq;have cO:∀i,i<l.length->listed.getD i false=true:=by
    have h4:(List.range l.length).countP (fun i=>listed.getD i false)=(List.range l.length).length:=by
     have:=List.countP_le_length (p:=fun i=>listed.getD i false) (l:=List.range l.length);simp at this lq|-;omega
    rw [List.countP_eq_length]at h4;intro i hi;exact h4 i (by simpa using hi)
   refine⟨?_,iV listed a1 e1 w1 hr hI cO⟩;rw [List.eq_nil_iff_forall_not_mem];intro i hi;obtain⟨h5,o,ho,_⟩:=mem_ready.1 hi;have pP:i<l.length:=by
    rcases Nat.lt_or_ge i l.length with h | h
    ·exact h
    ·simp [qy h]at ho
   have h6:=cO i pP;rw [iI,pv (by omega)]at h5 h6;simp at h5 h6;rw [h5]at h6;cases h6
  | succ fuel ih=>
   intro listed a1 e1 w1 hr lP bE hI lq;refine⟨fun mx=>iV listed a1 e1 w1 hr hI (DQ listed lP mx),fun i hi=>?_⟩;obtain⟨bc,o,ho,AM⟩:=mem_ready.1 hi;have kV:l[i]?=some o:=by simpa using ho
   have pP:i<l.length:=(gw.1 kV).1;have gF:∀ed∈fk o,listed.getD ed.on false=true:=fun ed fh=>AM ed (pa.1 fh).1 (pa.1 fh).2
   have sk:listed.getD i false=false:=by
    have h5:=bc;rw [iI,pv (by omega)]at h5|-;exact h5
   have ot:∀k,(listed.setIfInBounds i true).getD k false=if k=i then true else listed.getD k false:=by
    intro k;rw [iI,ru]
    by_cases fo:k=i
    ·subst fo;rw [aT rfl,aT (by omega),aT rfl];rfl
    ·rw [aR (fun e=>fo e.symm),aR fo,<-iI]
   have hS:(fun k=> (listed.setIfInBounds i true).getD k false)=fun k=>Nat.beq k i || listed.getD k false:=by
    funext k;rw [ot]
    by_cases fo:k=i
    ·subst fo;rw [aT rfl,Nat.beq_refl];rfl
    ·rw [aR fo];have:Nat.beq k i=false:=by
      cases hb:Nat.beq k i with
      | false=>rfl
      | true=>exact absurd (mO hb) fo
     rw [this];rfl
   have ax:=ib (fun k=>listed.getD k false) i o e1 w1 kV sk gF (fun k o' hk bz=>bE k o' hk bz) hI;have mB:=ax.run a1 hr;have pR:∀a2 w2,(∃e2,js N a2 e2/\I (fun k=>Nat.beq k i || listed.getD k false) e2 w2)->wpAny P .any l.toArray (low N Q) fuel (listed.setIfInBounds i true) a2 w2:=by
    intro a2 w2 ⟨e2,xy,rN⟩;refine ih _ a2 e2 w2 xy (by simpa using lP) (fun k o' hk bz ed fh=>?_) (by rw [hS];exact rN) ?_
    ·rw [ot]
     by_cases xj:ed.on=i
     ·rw [aT xj]
     ·rw [aR xj]
      by_cases fo:k=i
      ·subst fo;rw [kV]at bz;cases bz;exact gF ed fh
      ·rw [ot,aR fo]at hk;exact bE k o' hk bz ed fh
    ·have Dt:(List.range l.length).countP (fun k=> (listed.setIfInBounds i true).getD k false)=(List.range l.length).countP (fun k=>listed.getD k false)+1:=
      zZ (fun k=>listed.getD k false) (fun k=> (listed.setIfInBounds i true).getD k false) i sk ot _ List.nodup_range (by simpa using pP)
     rw [Dt];omega
   unfold wpOp;rw [ho];unfold wpList at mB;show if _ then _ else _
   by_cases hw:Region.wanted o (yielded l.toArray a1.tmps)=true
   ·rw [aT hw]at mB|-;rcases mB with h5 | ⟨_,a0,w0,h5⟩
    ·refine .inl (Hu h5 (fun a2 w2 hx=>?_) (fun x a w hx hq=>hx hq.1));exact pR a2 w2 hx.2
    ·exact absurd h5.1 (by simp)
   ·rw [aR hw]at mB|-;exact pR _ _ mB.2
 refine key l.length (Array.replicate l.length false) a e _ ha (by simp) (fun i o hi=>?_) (by
  have:(fun k=> (Array.replicate l.length false).getD k false)=fun _=>false:=by
   funext k;rw [iI,Array.getElem?_replicate]
   split<;>rfl
  rw [this];exact h0 _ ⟨⟨rfl,rfl,rfl,dC _,fun _ _=>rfl⟩,fun _=>Nat.le_add_right _ _⟩) (by omega)
 exfalso;rw [iI,Array.getElem?_replicate]at hi
 split at hi<;>simp at hi
end
def zV(x:PS)(d:Int):ah->Option (PS×Int×Int)
 | []=>none
 | [g]=>some (x,d,g)
 | g::g'::r=>match BN x d g with
  | none=>none
  | some (y,e)=>zV y e (g'::r)
def E9(x:PS)(c:Int)(ws:ah):Option PS:=
 match ws with
 | []=>some x
 | g::r=>match zV x c (g::r)with
  | none=>none
  | some (y,d,g)=>match uC y d g,uC y c g with
   | some e,some f=>if 0<=e then vK 100000 0 y [e] [c]else if 0<=f then vK 100000 0 y [f] [d]else some ⟨xW (xW y.im d g c) c g d,y.ls⟩
   | _,_=>none
structure Um(w0:aa)(ks:List Ck)(Ab Ac Aw:ai)(nw cw:Nat)(ws:ah)(c d:Int)(i:Nat)(x:LS)(y:PS)(d':Int)(S:Nat->Bool)(e:Env)(w:aa):Prop where
 f1:e 1=aj c
 f2:e 2= .slice Aw nw cw
 f3:e 3= .pointer Ab
 f6:e 6= .pointer Ac
 f7:e 7=aj d
 f8:e 8=aj i
 p0:S 0=true->e 27=x.val
 p1:S 1=true->e 28=aj d
 p2:S 2=true->e 29= .slice Aw nw cw
 p3:S 3=true->e 30=aj i
 p4:S 4=true->e 31= .pointer (aB Aw (i:Int).toNat)
 p5:S 5=true->e 32=aj (gi ws i)
 mem:∃(X:LS) (bs:List Ck) (Ad:ai),X.ok/\(S 6=false->X=x)/\(S 6=true->X.p=y/\e 33= .tuple #[X.val,aj d'])/\(S 7=true->e 26= .tuple #[X.val,aj d'])/\(S 8=true->e 34=X.val)/\(S 9=true->e 35=aj d')/\(S 10=false->bs=[])/\(S 10=true->e 9= .pointer Ad/\((S 11=false/\bs=[Bx 158 3 Ad [.slice none 0 0,.slice none 0 0,.bool false]])\/(S 11=true/\bs=[Bx 158 3 Ad X.cells])))/\(S 12=true->e 10=aj d')/\
  St w0 w (bs++ ([Bx 158 3 Ac [.slice none 0 0,.slice none 0 0,.bool false],Bx 158 3 Ab x.cells]++ (X.dH++ks)))
theorem LS.back{w0 w:aa}{bs pre ks:List Ck}{x:LS}(h:St w0 w (bs++ (pre++ (x.dH++ks)))):St w0 w (x.dH++ ((bs++pre)++ks)):=by
 rw [<-fK]at h;exact h.np
theorem UH{w0 w:aa}{pre ks:List Ck}{x:LS}(h:St w0 w (x.dH++ (pre++ks))):St w0 w (pre++ (x.dH++ks)):=h.np
theorem UI{w0 w:aa}{bs pre ks:List Ck}{x:LS}(h:St w0 w (x.dH++ ((bs++pre)++ks))):St w0 w (bs++ (pre++ (x.dH++ks))):=by
 have:=h.np
 rwa [fK]at this
theorem Xp{l:ah}{i:Nat}(h:i+1<l.length):l.drop i=gi l i::gi l ((i+1:Nat):Int)::l.drop (i+2):=by
 rw [List.drop_eq_getElem_cons (by omega),List.drop_eq_getElem_cons (i:=i+1) (by omega),bX (by omega),bX (by omega)]
theorem drop_one{l:ah}{i:Nat}(h:i+1=l.length):l.drop i=[gi l i]:=by
 rw [List.drop_eq_getElem_cons (by omega),bX (by omega),List.drop_eq_nil_of_le (by omega)]
theorem adI{w0 w:aa}{ks:List Ck}(x:LS)(c:Int)(Aw:ai)(nw cw:Nat)(ws:ah)(y:PS)(bz:x.ok)(hS:St w0 w (x.dH++ks))(hW:∀w',St w0 w' ks->bt w' Aw nw ws)(hnw:nw<=1000000)(hp:E9 x.p c ws=some y):
 aG prog 196 [x.val,aj c,.slice Aw nw cw] w (fun v w'=>∃x':LS,x'.ok/\x'.p=y/\v=x'.val/\St w0 w' (x'.dH++ks)):=by
 have mB:ws.length=nw:=(hW w (hS.sub (dz _ _))).1;refine bw func196 O ntmps196 O (kX O O) (bb O (zG hS O O ?_));intro Ab w1 aC;refine tJ aC O ?_;intro Ac w2 aE;have aE:St w0 w2 ([Bx 158 3 Ac [.slice none 0 0,.slice none 0 0,.bool false],Bx 158 3 Ab x.cells]++ (x.dH++ks)):=aE;refine aq O (ba O O (az O ?_));refine aM _ O (fun h1=>?_) (fun h1=>?_)
 ·have:ws=[]:=lg (by omega);subst this;obtain rfl:=bj hp;refine aD O (bI 2 (aE.rd 1 O) O O O (bS 3 0 aE O O O O O O O ?_));intro w3 aH;refine bD O (fI O (aH.rd 0 O) ?_);exact⟨x,bz,O,O,(aH.sub ((dY _).cons _)).sub ((dY _).cons _)⟩
 ·obtain⟨z,d',g',qM,iV⟩:∃z d' g',zV x.p c (ws.drop 0)=some (z,d',g')/\(match uC z d' g',uC z c g' with
   | some e,some f=>if 0<=e then vK 100000 0 z [e] [c]else if 0<=f then vK 100000 0 z [f] [d']else some ⟨xW (xW z.im d' g' c) c g' d',z.ls⟩
   | _,_=>none)=some y:=by
   cases ws with
   | nil=>exact absurd (by simpa using mB.symm) (by omega)
   | cons a r=>
    simp only [E9]at hp
    split at hp
    ·cases hp
    ·rename_i z d' g' hz;exact⟨z,d',g',hz,hp⟩
  clear hp;refine cW O ?_;refine Cd.loop (α:=Nat×LS×Int) (fun s=> [(1,aj c),(2,.slice Aw nw cw),(3,.pointer Ab),(6,.pointer Ac),(7,aj s.2.2),(8,aj (s.1:Int))]) (fun s w'=>s.2.1.ok/\s.1<nw/\zV s.2.1.p s.2.2 (ws.drop s.1)=some (z,d',g')/\St w0 w' ([Bx 158 3 Ac [.slice none 0 0,.slice none 0 0,.bool false],Bx 158 3 Ab s.2.1.cells]++ (s.2.1.dH++ks))) (fun s=>nw - s.1) (0,x,c) (ajz O) ⟨bz,by show 0<nw;omega,qM,aE⟩ ?_;rintro⟨i,x,d⟩ e w3 ⟨bz,hi,qM,aH⟩;dsimp only at bz hi qM aH|-;refine bb O (aK O (aq O (ba O O (az O ?_))));refine aM _ O (fun h2=>?_) (fun h2=>?_)
  ·rw [Xp (by omega)]at qM;simp only [zV]at qM
   split at qM
   case h_1=>cases qM
   rename_i y1 d1 hn;refine cW O (oO (by kernel_rfl) (by kernel_rfl) (fun S e1 w1=>Um w0 ks Ab Ac Aw nw cw ws c d i x y1 d1 S e1 w1) (fun w4 hb=> ⟨O,O,O,O,O,O,fun h=> (nomatch h),fun h=> (nomatch h),fun h=> (nomatch h),fun h=> (nomatch h),fun h=> (nomatch h),fun h=> (nomatch h),x,[],none,bz,fun _=>O,fun h=> (nomatch h),fun h=> (nomatch h),fun h=> (nomatch h),fun h=> (nomatch h),fun _=>O,fun h=> (nomatch h),fun h=> (nomatch h),aH.ao hb⟩) ?_ ?_)
   ·intro S k o e1 w4 hk aO hd bE hI;obtain⟨f1,f2,f3,f6,f7,f8,p0,p1,p2,p3,p4,p5,X,bs,Ad,m0,m1,m2,m3,m4,m5,m6,m7,m8,hT⟩:=hI;have vr:bt w4 Aw nw ws:=hW w4 (((hT.sub (dz _ _)).sub (dz _ _)).sub (dz _ _))
    match k,hk,aO with
    | 0,hk,aO=>
     obtain rfl:=bj hk;refine bI 2 ((hT.sub (dz bs _)).rd 1 O) (by exact f3) O O (ak.n ?_);exact⟨f1,f2,f3,f6,f7,f8,fun _=>O,p1,p2,p3,p4,p5,X,bs,Ad,m0,m1,m2,m3,m4,m5,m6,m7,m8,hT⟩
    | 1,hk,aO=>
     obtain rfl:=bj hk;refine jq O (by exact f7) O (ak.n ?_);exact⟨f1,f2,f3,f6,f7,f8,p0,fun _=>O,p2,p3,p4,p5,X,bs,Ad,m0,m1,m2,m3,m4,m5,m6,m7,m8,hT⟩
    | 2,hk,aO=>
     obtain rfl:=bj hk;refine kc O (by exact f2) O (ak.n ?_);exact⟨f1,f2,f3,f6,f7,f8,p0,p1,fun _=>O,p3,p4,p5,X,bs,Ad,m0,m1,m2,m3,m4,m5,m6,m7,m8,hT⟩
    | 3,hk,aO=>
     obtain rfl:=bj hk;refine jq O (by exact f8) O (ak.n ?_);exact⟨f1,f2,f3,f6,f7,f8,p0,p1,p2,fun _=>O,p4,p5,X,bs,Ad,m0,m1,m2,m3,m4,m5,m6,m7,m8,hT⟩
    | 4,hk,aO=>
     obtain rfl:=bj hk;refine ajn vr.2 (by exact p2 (aZ hd 2 O)) (by exact p3 (aZ hd 3 O)) O (by omega) (by omega) (ak.n ?_);exact⟨f1,f2,f3,f6,f7,f8,p0,p1,p2,p3,fun _=>O,p5,X,bs,Ad,m0,m1,m2,m3,m4,m5,m6,m7,m8,hT⟩
    | 5,hk,aO=>
     obtain rfl:=bj hk;refine ajo vr (by exact p4 (aZ hd 4 O)) (by omega) O O (ak.n ?_);exact⟨f1,f2,f3,f6,f7,f8,p0,p1,p2,p3,p4,fun _=>O,X,bs,Ad,m0,m1,m2,m3,m4,m5,m6,m7,m8,hT⟩
    | 6,hk,aO=>
     obtain rfl:=bj hk;obtain rfl:=m1 aO;have n7:S 7=false:=by
      cases h:S 7 with
      | false=>rfl
      | true=>rw [<-aO];exact(aZ (bE 7 _ h rfl) 6 rfl).symm
     have n8:S 8=false:=by
      cases h:S 8 with
      | false=>rfl
      | true=>rw [<-n7];exact(aZ (bE 8 _ h rfl) 7 rfl).symm
     have n9:S 9=false:=by
      cases h:S 9 with
      | false=>rfl
      | true=>rw [<-n7];exact(aZ (bE 9 _ h rfl) 7 rfl).symm
     have n11:S 11=false:=by
      cases h:S 11 with
      | false=>rfl
      | true=>rw [<-aO];exact(aZ (bE 11 _ h rfl) 6 rfl).symm
     have n12:S 12=false:=by
      cases h:S 12 with
      | false=>rfl
      | true=>rw [<-n11];exact(aZ (bE 12 _ h rfl) 11 rfl).symm
     refine ajq (KY X d (gi ws i) y1 d1 m0 (LS.back hT) hn) O (by show [e1 27,e1 28,e1 32]=_;rw [p0 (aZ hd 0 O),p1 (aZ hd 1 O),p5 (aZ hd 5 O)]) O ?_;rintro _ w5 ⟨x',jF,jj,rfl,jh⟩;refine ak.n ?_;refine⟨f1,f2,f3,f6,f7,f8,p0,p1,p2,p3,p4,p5,x',bs,Ad,jF,fun h=> (nomatch (show true=false from h)),fun _=> ⟨jj,O⟩,fun h=>?_,fun h=>?_,fun h=>?_,m6,fun h=>?_,fun h=>?_,UI jh⟩
     ·exact(nomatch n7.symm.trans h)
     ·exact(nomatch n8.symm.trans h)
     ·exact(nomatch n9.symm.trans h)
     ·obtain⟨h9,fH⟩:=m7 h;refine⟨h9,.inl ⟨n11,?_⟩⟩;rcases fH with fH | fH
      ·exact fH.2
      ·exact(nomatch n11.symm.trans fH.1)
     ·exact(nomatch n12.symm.trans h)
    | 7,hk,aO=>
     obtain rfl:=bj hk;refine HA O (by exact(m2 (aZ hd 6 O)).2) O (ak.n ?_);exact⟨f1,f2,f3,f6,f7,f8,p0,p1,p2,p3,p4,p5,X,bs,Ad,m0,m1,m2,fun _=>O,m4,m5,m6,m7,m8,hT⟩
    | 8,hk,aO=>
     obtain rfl:=bj hk;refine ak.extract (by exact m3 (aZ hd 7 O)) O O (ak.n ?_);exact⟨f1,f2,f3,f6,f7,f8,p0,p1,p2,p3,p4,p5,X,bs,Ad,m0,m1,m2,m3,fun _=>O,m5,m6,m7,m8,hT⟩
    | 9,hk,aO=>
     obtain rfl:=bj hk;refine ak.extract (by exact m3 (aZ hd 7 O)) O O (ak.n ?_);exact⟨f1,f2,f3,f6,f7,f8,p0,p1,p2,p3,p4,p5,X,bs,Ad,m0,m1,m2,m3,m4,fun _=>O,m6,m7,m8,hT⟩
    | 10,hk,aO=>
     obtain rfl:=bj hk;obtain rfl:=m6 aO;have n11:S 11=false:=by
      cases h:S 11 with
      | false=>rfl
      | true=>rw [<-aO];exact(aZ (bE 11 _ h rfl) 10 rfl).symm
     refine tJ hT O fun Ae w5 dW=>ak.n ?_;exact⟨f1,f2,f3,f6,f7,f8,p0,p1,p2,p3,p4,p5,X,[Bx 158 3 Ae [.slice none 0 0,.slice none 0 0,.bool false]],Ae,m0,m1,m2,m3,m4,m5,fun h=> (nomatch (show true=false from h)),fun _=> ⟨O,.inl ⟨n11,O⟩⟩,m8,dW⟩
    | 11,hk,aO=>
     obtain rfl:=bj hk;have Re:=aZ hd 10 O;obtain⟨h9,fH⟩:=m7 Re;rcases fH with⟨_,rfl⟩ | fH
     ·refine bS 3 0 hT O (by exact h9) (by exact m4 (aZ hd 8 O)) O O O O ?_;intro w5 dW;exact ak.n ⟨f1,f2,f3,f6,f7,f8,p0,p1,p2,p3,p4,p5,X,[Bx 158 3 Ad X.cells],Ad,m0,m1,m2,m3,m4,m5,fun h=> (nomatch Re.symm.trans h),fun _=> ⟨h9,.inr ⟨O,O⟩⟩,m8,dW⟩
     ·exact(nomatch aO.symm.trans fH.1)
    | 12,hk,aO=>
     obtain rfl:=bj hk;refine jq O (by exact m5 (aZ hd 9 O)) O (ak.n ?_);exact⟨f1,f2,f3,f6,f7,f8,p0,p1,p2,p3,p4,p5,X,bs,Ad,m0,m1,m2,m3,m4,m5,m6,m7,fun _=>O,hT⟩
    | q+13,hk,_=>exact(nomatch hk)
   ·intro S e1 w4 cO hI;obtain⟨f1,f2,f3,f6,f7,f8,p0,p1,p2,p3,p4,p5,X,bs,Ad,m0,m1,m2,m3,m4,m5,m6,m7,m8,hT⟩:=hI;obtain⟨h9,fH⟩:=m7 (cO 10 (by decide));rcases fH with fH | ⟨_,rfl⟩
    ·exact(nomatch (cO 11 (by decide)).symm.trans fH.1)
    have nP:=(m2 (cO 6 (by decide))).1;refine yf (F:=[(1,aj c),(2,.slice Aw nw cw),(3,.pointer Ab),(6,.pointer Ac),(7,aj d),(8,aj i),(9,.pointer Ad),(10,aj d1)]) ⟨f1,f2,f3,f6,f7,f8,h9,m8 (cO 12 (by decide)),aw⟩ (fJ O (bI 2 (hT.rd 0 O) O O O (bS 3 2 hT O O O O O O O ?_)));intro w5 dW;have dW:St w0 w5 (Bx 158 3 Ad X.cells::([Bx 158 3 Ac [.slice none 0 0,.slice none 0 0,.bool false],Bx 158 3 Ab X.cells]++ (X.dH++ks))):=dW;have eJ:=dW.tail;refine aq O (aI (eJ.rd 1 O) O (ye (eJ.rd 1 O) O O O O O (az O (Cd.dZ O ?_))));refine aD O (aK O (aS O (tQ ?_)));refine⟨(i+1,X,d1),by show nw - (i+1)<nw - i;omega,(ajz O),m0,by show i+1<nw;omega,?_,eJ⟩;show zV X.p d1 (ws.drop (i+1))=_;rw [nP,List.drop_eq_getElem_cons (by omega),<-bX (by omega)];exact qM
  ·rw [drop_one (by omega)]at qM;have qM:=bj qM;simp only [Prod.mk.injEq]at qM;obtain⟨rfl,rfl,rfl⟩:=qM;have vr:bt w3 Aw nw ws:=hW w3 ((aH.sub (dz _ _)).sub (dz _ _))
   split at iV
   case h_2=>cases iV
   rename_i a b ha fz;have Ay:=LS.eU bz aH;have jf:=LS.bk aH;refine bo O (bn (cJ O (ba O O (dq O ?_))));refine aA vr.2 O ?_;have da:((nw:Nat):Int) - 1=(i:Nat):=by omega
   refine aY vr O ?_;rw [da];generalize gi ws i=g at*;refine az O (dQ [.ex (.agg #[.slice (x.A) (x.n) (x.c),.slice (x.B) (x.m) (x.cB),.bool (false)]),xI (d),xI (g),xI (a),.ex (.agg #[.slice (x.A) (x.n) (x.c),.slice (x.B) (x.m) (x.cB),.bool (false)]),xI (c),xI (g),xI (b),xI (a),xI (b)] O (eE O) ?_ ?_)
   ·refine⟨fun _ _ hb _ _=>bI 2 ((aH.rd 1 O).below hb) O O O Az,Dr O,Dr O,?_,fun _ _ hb _ _=>bI 2 ((aH.rd 1 O).below hb) O O O Az,Dr O,Dr O,?_,Dr O,Dr O,aw⟩
    ·intro e1 w1 hb hp bc;refine aF (Ea x.rs x.im x.ls d g a _ (Ay.ao hb) (jf.ao hb) ha) O ?_;rintro _ w2 ⟨rfl,ax⟩;refine ak.n ?_;exact e6.dn ax.below (by exact O)
    ·intro e1 w1 hb hp bc;refine aF (Ea x.rs x.im x.ls c g b _ (Ay.ao hb) (jf.ao hb) fz) O ?_;rintro _ w2 ⟨rfl,ax⟩;refine ak.n ?_;exact e6.dn ax.below (by exact O)
   intro u w4 jX _;have aQ:=aH.ao jX;refine fv O (aM _ O (fun h3=>?_) (fun h3=>?_))
   ·rw [aT h3]at iV;refine aD O (bI 2 (aQ.rd 1 O) O O O (aq O (aF (R3 x a c y 100000 bz (aQ.np (pre:=[_,_])) iV) O ?_)));rintro _ w5 ⟨x',jF,jj,rfl,hT⟩;have hT:=hT.np;refine bS 3 0 hT O O O O O O O fun w6 eJ=>bD O (fI O (eJ.rd 0 O) ?_);exact⟨x',jF,jj,O,(eJ.sub ((dY _).cons _)).sub ((dY _).cons _)⟩
   ·rw [aR h3]at iV;refine cW O (aM _ O (fun h4=>?_) (fun h4=>?_))
    ·rw [aT h4]at iV;refine aD O (bI 2 (aQ.rd 1 O) O O O (aq O (aF (R3 x b d y 100000 bz (aQ.np (pre:=[_,_])) iV) O ?_)));rintro _ w5 ⟨x',jF,jj,rfl,hT⟩;have hT:=hT.np;refine bS 3 0 hT O O O O O O O fun w6 eJ=>bD O (fI O (eJ.rd 0 O) ?_);exact⟨x',jF,jj,O,(eJ.sub ((dY _).cons _)).sub ((dY _).cons _)⟩
    ·rw [aR h4]at iV;obtain rfl:=bj iV;have bd:∀ {z:PS} {c g r:Int},uC z c g=some r->0<=c/\c< (z.im.length:Int)/\0<=g/\g< ((gl z.im c).length:Int):=fun {z c g r} h=>by
      unfold uC at h
      split at h
      case isFalse=>cases h
      rename_i h';exact h'
     have b1:=bd ha;have b2:=bd fz;have b1:0<=d/\d< (x.im.length:Int)/\0<=g/\g< ((gl x.im d).length:Int):=b1;have b2:0<=c/\c< (x.im.length:Int)/\0<=g/\g< ((gl x.im c).length:Int):=b2;have hxn:=bz.2.1;have Rx:=bz.1;obtain⟨dN,rfl⟩:∃q:Nat,d=q:=⟨d.toNat,by omega⟩;obtain⟨cN,rfl⟩:∃q:Nat,c=q:=⟨c.toNat,by omega⟩;have Jl:=LS.eU bz aQ;have gF:=Jl.at_ (i:=(dN:Int)) (by omega) (by omega);have hrd1:=gF.1;have a8:St w0 w4 ([Bx 158 3 Ac [.slice none 0 0,.slice none 0 0,.bool false],Bx 158 3 Ab x.cells,ar 2 x.B x.m x.cB x.ls]++ (aU 24 2 x.A x.n x.c x.rs x.im++ks)):=aQ;refine aD O (aI (aQ.rd 1 O) O (aV (aQ.rd 1 O) O (aq O (aA Jl.top.2 O (bQ Jl.top O (aq O (aA gF.2 O (CH dN a8 (by omega) (by omega) O O (by omega) ?_))))))));intro w6 eJ;have DJ:({ x with im:=x.im.set dN ((gl x.im dN).set g.toNat (cN:Int)) }:LS).ok:=⟨bz.1,by show(x.im.set _ _).length=_;rw [iR];exact bz.2.1,bz.2.2⟩;generalize Kz:({ x with im:=x.im.set dN ((gl x.im dN).set g.toNat (cN:Int)) }:LS)=x6 at DJ;have I9:x6.A=x.A/\x6.n=x.n/\x6.c=x.c/\x6.rs=x.rs/\x6.B=x.B/\x6.m=x.m/\x6.cB=x.cB/\x6.ls=x.ls/\x6.im=x.im.set dN ((gl x.im dN).set g.toNat (cN:Int)):=by subst Kz;exact⟨rfl,rfl,rfl,rfl,rfl,rfl,rfl,rfl,rfl⟩
     obtain⟨q1,q2,q3,q4,q5,q6,q7,q8,q9⟩:=I9;have yG:St w0 w6 ([Bx 158 3 Ac [.slice none 0 0,.slice none 0 0,.bool false],Bx 158 3 Ab x.cells]++ (x6.dH++ks)):=by
      show St w0 w6 ([Bx _ 3 Ac _,Bx _ 3 Ab x.cells]++ ((ar _ x6.B x6.m x6.cB x6.ls::aU _ _ x6.A x6.n x6.c x6.rs x6.im)++ks));rw [q1,q2,q3,q4,q5,q6,q7,q8,q9];exact eJ
     have vk:=LS.eU DJ yG;have y7:=vk.at_ (i:=(cN:Int)) (by omega) (by omega);have It:(gl x6.im cN).length=(gl x.im cN).length:=by
      rw [q9,IW (by omega)]
      split
      ·rename_i e;subst e;rw [iR]
      ·rfl
     have s8:(rg x6.rs cN).n=(gl x.im cN).length:=by rw [<-y7.1,It]
     refine aq O (aI (yG.rd 1 O) O (aV (yG.rd 1 O) O (aq O ?_)));rw [q1,q2,q4]at vk;rw [q4]at y7 s8;refine aA vk.top.2 O (bQ vk.top O (aq O (aA y7.2 O ?_)));have fg:St w0 w6 ([Bx 158 3 Ac [.slice none 0 0,.slice none 0 0,.bool false],Bx 158 3 Ab x.cells,ar 2 x.B x.m x.cB x.ls]++ (aU 24 2 x.A x.n x.c x.rs x6.im++ks)):=by
      rw [q9];exact eJ
     refine CH cN fg (by rw [q9,iR];omega) (by omega) O O (by omega) ?_;intro w8 gK;refine aq O (bI 2 (gK.rd 1 O) O O O (bS 3 0 gK O O O O O O O ?_));intro w9 jy;refine bD O (fI O (jy.rd 0 O) ?_);refine⟨{ x with im:=x6.im.set cN ((gl x6.im cN).set g.toNat (dN:Int)) },⟨bz.1,by show(x6.im.set _ _).length=_;rw [iR,q9,iR];exact bz.2.1,bz.2.2⟩,?_,O,(jy.sub ((dY _).cons _)).sub ((dY _).cons _)⟩;show(⟨x6.im.set cN ((gl x6.im cN).set g.toNat (dN:Int)),x.ls⟩:PS)=_;rw [q9]
     rfl
def Eo(c:Int):PS->ag->Option PS
 | x,[]=>some x
 | x,w::r=>if 0<=c/\c< (x.ls.length:Int)then(if gi x.ls c=c then(match E9 x c w with | none=>none | some y=>Eo c y r)else some x)else none
def zt(c:Int)(bY:Nat):Nat->Nat->PS->Option PS
 | 0,_,_=>none
 | k+1,g,x=>if g<bY then(if 0<=c/\c< (x.ls.length:Int)then(if gi x.ls c=c then(match BN x c g with | none=>none | some (y,_)=>zt c bY k (g+1) y)else some x)else none)else some x
def G2(bY:Nat)(rel:ag):Nat->Nat->PS->Option PS
 | 0,_,_=>none
 | k+1,c,x=>if c<x.ls.length then(match Eo c x rel with | none=>none | some y=>match zt c bY 100 0 y with | none=>none | some z=>G2 bY rel k (c+1) z)else some x
def LN(bY:Nat)(rel:ag):Option PS:=
 match Io ⟨[],[]⟩ bY with
 | none=>none
 | some x=>G2 bY rel 3000 0 x
section
variable {P:Program} {N:Nat} {ops:Array Oper} {K:Env->aa->Prop} {rest:List Oper} {e:Env} {w0 w w':aa} {ks:List Ck} {d:Nat} {ty:ad} {pos:String} {af:Array Edge}
theorem UX{t:ad}{f0 f1 f2:Field}{z0 z1 z2 y0 y1 y2:ab}{b b0 b1 b2:Nat}[bP P t (.struct #[f0,f1,f2])][bO P t (.agg #[z0,z1,z2]) 3 b](rM:bO P f0.type y0 1 b0)(pK:bO P f1.type y1 1 b1)(rN:bO P f2.type y2 1 b2)(ho:f0.offset=0)(ow:f1.offset=1)(xq:f2.offset=2)(hb:Nat.blt d N=true)(hK:ak P N ops K rest (bC e d (.agg #[z0,z1,z2])) w):ak P N ops K (⟨some d,.build t #[],ty,pos,af,none⟩::rest) e w:=by
 obtain⟨inf,hi,fp,hs,iq⟩:=bO.get P t;obtain⟨D5,mw,_,oz,_⟩:=rM.get P f0.type;obtain⟨D6,kE,_,s9,_⟩:=pK.get P f1.type;obtain⟨Gq,r5,_,y8,_⟩:=rN.get P f2.type;have ez:(Value.agg #[z0,z1,z2]).cells= #[z0,z1,z2]:=O;refine .val (w':=w) ?_ hb hK;simp [execOp,Instr.build,run_underlying (bP.out (P:=P) (t:=t)),sizeOf,typeInfo,zeroValue,hi,fp,mw,oz,kE,s9,r5,y8,ez,Instr.fill]
end
theorem adM(bY:Nat)(Ar:ai)(nr cr:Nat)(kr:List aX)(rel:ag)(A0:ai)(c0:Nat)(y:PS)(w:aa)(hR:bL w Ar nr kr rel)(sg:∀x∈rel,x.length<=1000000)(s7:nr<=1000000)(hp:LN bY rel=some y):
 aG prog 152 [.agg #[aj bY,.slice Ar nr cr],.slice A0 0 c0] w (fun v w'=>∃x':LS,x'.ok/\x'.p=y/\v=x'.val/\St w w' x'.dH):=by
 have bT:=hR.len;unfold LN at hp
 split at hp
 case h_1=>cases hp
 rename_i x1 qY;refine bw func152 O ntmps152 O (kX O O) (bb O (wu (St.refl w) O O ?_));intro A2 w1 aC;refine tJ aC O fun A4 w2 aE=>aq O (UX (by exact inferInstance) (by exact inferInstance) (by exact inferInstance) O O O O (aI (aE.rd 1 O) O (fL (aE.rd 1 O) O O O O O (aF (R0 ⟨none,0,0,[],[],none,0,0,[]⟩ bY x1 ⟨O,O,O⟩ ((aE.nil _).nil _) qY) O ?_))));rintro _ w3 ⟨X,bz,ZU,rfl,hT⟩;have hT:=UH (pre:=[Bx 158 3 A4 [.slice none 0 0,.slice none 0 0,.bool false],Bx 36 2 A2 [aj bY,.slice Ar nr cr]]) (ks:=[]) hT;refine aq O (tJ hT O ?_);intro A5 w4 aQ;refine bS 3 0 aQ O O O O O O O ?_;intro w5 a8;have a8:St w w5 ([Bx 158 3 A5 X.cells,Bx 158 3 A4 [.slice none 0 0,.slice none 0 0,.bool false],Bx 36 2 A2 [aj bY,.slice Ar nr cr]]++ (X.dH++ [])):=a8;refine az O (Cd.loop (α:=Unit) (fun _=> [(1,.slice A0 0 c0),(2,.pointer A2),(4,.pointer A4),(5,.pointer A5),(7,aj 0)]) (fun _ w'=>w'=w5) (fun _=>0) () (ajz O) O ?_);rintro⟨⟩ e w6 rfl;refine bb O (ba O O (aq O ?_));refine cz 24 O (fun h=>absurd h (by decide)) (fun _=>?_);refine ay O (ay O (ay O (az O ?_)));refine Cd.dZ O (bo O (bn (nY O ?_)));refine Cd.loop (α:=Nat×Nat×LS) (fun s=> [(2,.pointer A2),(4,.pointer A4),(5,.pointer A5),(8,aj (s.2.1:Int))]) (fun s w'=>s.2.2.ok/\G2 bY rel s.1 s.2.1 s.2.2.p=some y/\s.1+s.2.1=3000/\St w w' ([Bx 158 3 A5 s.2.2.cells,Bx 158 3 A4 [.slice none 0 0,.slice none 0 0,.bool false],Bx 36 2 A2 [aj bY,.slice Ar nr cr]]++ (s.2.2.dH++ []))) (fun s=>s.1) (3000,0,X) (ajz O) ⟨bz,by rw [ZU];exact hp,O,a8⟩ ?_;rintro⟨k,c,X⟩ e w7 ⟨bz,hc,hkc,bl⟩;dsimp only at bz hc hkc bl|-;obtain⟨q,rfl⟩:∃q,k=q+1:=by cases k with | zero=>cases hc | succ q=>exact⟨q,rfl⟩
 have hc:(if c<X.ls.length then(match Eo c X.p rel with | none=>none | some y=>match zt c bY 100 0 y with | none=>none | some z=>G2 bY rel q (c+1) z)else some X.p)=some y:=hc;have JB:X.ls.length=X.m:=bz.2.2;refine bb O (aI (bl.rd 0 O) O (aV (bl.rd 0 O) O ?_));refine ba O O (aq O ?_);refine cz 42 O (fun h1=>?_) (fun h1=>?_)
 ·rw [aT (by omega)]at hc
  split at hc
  case h_1=>cases hc
  rename_i y1 nP
  split at hc
  case h_1=>cases hc
  rename_i z1 BB;refine au O (aI (bl.rd 0 O) O (au O (ye (bl.rd 0 O) O O O O O (au O ?_))))
  first | refine de rfl rfl ?_ | refine dV rfl rfl ?_
  refine az O (Cd.eH O (cW O ?_));refine Cd.loop (α:=Nat×LS) (fun s=> [(2,.pointer A2),(4,.pointer A4),(5,.pointer A5),(8,aj c),(9,aj (s.1:Int))]) (fun s w'=>s.2.ok/\s.1<=nr/\Eo c s.2.p (rel.drop s.1)=some y1/\St w w' ([Bx 158 3 A5 s.2.cells,Bx 158 3 A4 [.slice none 0 0,.slice none 0 0,.bool false],Bx 36 2 A2 [aj bY,.slice Ar nr cr]]++ (s.2.dH++ []))) (fun s=>nr - s.1) (0,X) (ajz O) ⟨bz,bu _,nP,bl⟩ ?_;rintro⟨i,X⟩ e w8 ⟨bz,hi,kW,bK⟩;dsimp only at bz hi kW bK|-;have wW:=bK.cV hR;have JB:X.ls.length=X.m:=bz.2.2;have gZ:bt w8 X.B X.m X.ls:=LS.bk bK;refine bb O (aI (bK.rd 2 O) O (aV (bK.rd 2 O) O ?_));refine ba O O (aq O ?_);refine cz 54 O (fun h2=>?_) (fun h2=>?_)
  ·have Bl:i<rel.length:=by omega
   have hdr:rel.drop i=gl rel i::rel.drop (i+1):=by rw [List.drop_eq_getElem_cons Bl,fm Bl]
   rw [hdr]at kW;have kW:(if 0<=(c:Int)/\(c:Int)< (X.ls.length:Int)then(if gi X.ls c=c then(match E9 X.p c (gl rel i)with | none=>none | some y=>Eo c y (rel.drop (i+1)))else some X.p)else none)=some y1:=kW
   split at kW
   case isFalse=>cases kW
   rename_i Bb;refine au O (aI (bK.rd 0 O) O (au O (aV (bK.rd 0 O) O ?_)));refine au O (aq O (au O ?_));refine aA gZ.2 O (au O (aY gZ O ?_));refine au O (aq O (au O (aq O ?_)));refine cz 63 O (fun h3=>?_) (fun h3=>?_)
   ·rw [aT h3]at kW
    split at kW
    case h_1=>cases kW
    rename_i y2 bE;have bM:=hR.at_ (i:=(i:Int)) (by omega) (by omega);have jG:(rg kr i).n<=1000000:=by
     rw [<-bM.1,fm Bl];exact sg _ (fe Bl)
    refine au O (aI (bK.rd 0 O) O (au O (ye (bK.rd 0 O) O O O O O (au O ?_))))
    first | refine de rfl rfl ?_ | refine dV rfl rfl ?_
    refine az O (Cd.eH O (cW O ?_));refine jm [7,8] [.ex (.agg #[.slice (X.A) (X.n) (X.c),.slice (X.B) (X.m) (X.cB),.bool (false)]),yI ((c:Int)),yP (aB (A2) 1),yS (Ar) (nr) (cr),yI ((i:Int)),yP (aB (Ar) ((i:Int)).toNat),yS ((rg (kr) ((i:Int))).a) ((rg (kr) ((i:Int))).n) ((rg (kr) ((i:Int))).c),.pr (fun v w'=>∃x':LS,v=x'.val/\zE w [Bx 158 3 A5 X.cells,Bx 158 3 A4 [.slice none 0 0,.slice none 0 0,.bool false],Bx 36 2 A2 [aj bY,.slice Ar nr cr]] [] y2 x' w'),.pr (fun _ w'=>∃x':LS,zE w [Bx 158 3 A5 x'.cells,Bx 158 3 A4 [.slice none 0 0,.slice none 0 0,.bool false],Bx 36 2 A2 [aj bY,.slice Ar nr cr]] [] y2 x' w')] (ly (ly (ly (ly (ly (ly (ly (cg.2 ⟨Ye.cH (fun v w w' h hb=>by obtain⟨x',hv,h1,h2,h3⟩:=h;exact⟨x',hv,h1,h2,h3.ao hb⟩),(cg.2 ⟨Ye.cH (fun v w w' h hb=>by obtain⟨x',h1,h2,h3⟩:=h;exact⟨x',h1,h2,h3.ao hb⟩),(fun _ h=>by cases h)⟩)⟩)))))))) ?_ ?_
    ·refine⟨cP fun _ _ hb _ _ _=>bI 2 ((bK.rd 0 O).below hb) O O O (bq O O),bZ O,cP fun _ _ hb _ _ _=>aI ((bK.rd 2 O).below hb) O (bq O O),cP fun _ _ hb _ _ _=>aV ((bK.rd 2 O).below hb) O (bq O O),bZ O,cP fun _ _ hb _ _ _=>aA (wW.top.ao hb).2 O (bq O O),cP fun _ _ hb _ _ _=>bQ (wW.top.ao hb) O (bq O O),?_,?_,aw⟩
     ·refine ju fun e1 w1 hb hp bc hq=>?_
      refine aF (adI X c _ _ (rg kr i).c (gl rel i) y2 bz ((bK.ao hb).np (pre:=[_,_,_])) (fun w' h=>h.b9 bM) jG bE) O ?_;rintro _ w4 ⟨x',jF,jj,rfl,hT⟩;exact ak.n (fF.dn O ⟨x',O,jF,jj,hT.np⟩)
     refine sP 1 fun e1 w1 hp bc hq=>?_
     have fC:=hp 7 _ _ (by kernel_rfl) O O (by kernel_rfl);obtain⟨x',hv,h1,h2,h3⟩:=(hp 7 _ _ (by kernel_rfl) rfl rfl (by kernel_rfl));refine bS 3 0 h3 O O (by exact hv) O O O O ?_;intro eA kR;exact ak.n (fF.st O ⟨x',h1,h2,kR⟩)
    intro u w9 _ hu _ _;obtain⟨x',jF,jj,hT⟩:=hu 8 _ rfl (by kernel_rfl);refine fJ O (aK O (aS O (tQ ?_)));exact⟨(i+1,x'),by show nr - (i+1)<nr - i;omega,(ajz O),jF,by show i+1<=nr;omega,by rw [jj];exact kW,hT⟩
   rw [aR h3]at kW;have kW:=bj kW;refine ay O (ay O (ay O (az O ?_)));refine Cd.dZ O (bo O (bn (nY O ?_)));refine Cd.loop (α:=Nat×Nat×LS) (fun s=> [(2,.pointer A2),(4,.pointer A4),(5,.pointer A5),(8,aj c),(10,aj (s.2.1:Int))]) (fun s w'=>s.2.2.ok/\zt c bY s.1 s.2.1 s.2.2.p=some z1/\s.1+s.2.1=100/\St w w' ([Bx 158 3 A5 s.2.2.cells,Bx 158 3 A4 [.slice none 0 0,.slice none 0 0,.bool false],Bx 36 2 A2 [aj bY,.slice Ar nr cr]]++ (s.2.2.dH++ []))) (fun s=>s.1) (100,0,X) (ajz O) ⟨bz,by rw [kW];exact BB,O,bK⟩ ?_;rintro⟨k,g,X⟩ e w9 ⟨bz,gn,jE,bh⟩;dsimp only at bz gn jE bh|-;obtain⟨r,rfl⟩:∃q,k=q+1:=by cases k with | zero=>cases gn | succ q=>exact⟨q,rfl⟩
   have gn:(if g<bY then(if 0<=(c:Int)/\(c:Int)< (X.ls.length:Int)then(if gi X.ls c=c then(match BN X.p c g with | none=>none | some (y,_)=>zt c bY r (g+1) y)else some X.p)else none)else some X.p)=some z1:=gn;have JB:X.ls.length=X.m:=bz.2.2;have gZ:bt w9 X.B X.m X.ls:=LS.bk bh;refine bb O (aI (bh.rd 2 O) O (fL (bh.rd 2 O) O O O O O (aq O ?_)));refine cz 82 O (fun h4=>?_) (fun h4=>?_)
   ·rw [aT (by omega)]at gn
    split at gn
    case isFalse=>cases gn
    rename_i aah;refine au O (aI (bh.rd 0 O) O (au O (aV (bh.rd 0 O) O ?_)));refine au O (aq O (au O ?_));refine aA gZ.2 O (au O (aY gZ O ?_));refine au O (aq O (au O (aq O ?_)));refine cz 91 O (fun h5=>?_) (fun h5=>?_)
    ·rw [aT h5]at gn
     split at gn
     case h_1=>cases gn
     rename_i y3 d3 gf;refine au O (aI (bh.rd 0 O) O (au O (ye (bh.rd 0 O) O O O O O (au O ?_))))
     first | refine de rfl rfl ?_ | refine dV rfl rfl ?_
     refine az O (Cd.eH O (aD O (bI 2 (bh.rd 0 O) O O O (aq O (aF (KY X c g y3 d3 bz (bh.np (pre:=[_,_,_])) gf) O ?_)))));rintro _ dA ⟨x',jF,jj,rfl,hT⟩;have hT:=hT.np;refine aq O (tJ hT O ?_);intro gv eA kR;refine bS 3 0 kR O O O O O O O fun fY ma=>aq O (bI 2 (ma.rd 0 O) O O O (bS 3 1 ma O O O O O O O ?_));intro iw pL;refine aq O (aK O (aS O (tQ ?_)));exact⟨(r,g+1,x'),Nat.lt_succ_self r,(ajz O),jF,by rw [jj];exact gn,by show r+ (g+1)=100;omega,pL.tail⟩
    rw [aR h5]at gn;have gn:=bj gn;refine ay O (ay O (ay O (az O ?_)));refine Cd.dZ O (bo O (bn (cJ O (aK O (aS O (tQ ?_))))));exact⟨(q,c+1,X),Nat.lt_succ_self q,(ajz O),bz,by rw [gn];exact hc,by show q+ (c+1)=3000;omega,bh⟩
   rw [aR (by omega)]at gn;have gn:=bj gn;refine ay O (ay O (ay O (ay O (ay O (ay O (ay O (aq O (ay O (ay O (ay O (az O ?_)))))))))));refine Cd.dZ O (bo O (bn (cJ O (aK O (aS O (tQ ?_))))));exact⟨(q,c+1,X),Nat.lt_succ_self q,(ajz O),bz,by rw [gn];exact hc,by show q+ (c+1)=3000;omega,bh⟩
  have Bl:rel.drop i=[]:=List.drop_eq_nil_of_le (by omega);rw [Bl]at kW;have kW:some X.p=some y1:=kW;have kW:=bj kW;refine ay O (ay O (ay O (ay O (ay O (ay O (ay O (aq O (ay O (ay O (ay O (az O ?_)))))))))));refine Cd.dZ O (bo O (bn (nY O ?_)));refine Cd.loop (α:=Nat×Nat×LS) (fun s=> [(2,.pointer A2),(4,.pointer A4),(5,.pointer A5),(8,aj c),(10,aj (s.2.1:Int))]) (fun s w'=>s.2.2.ok/\zt c bY s.1 s.2.1 s.2.2.p=some z1/\s.1+s.2.1=100/\St w w' ([Bx 158 3 A5 s.2.2.cells,Bx 158 3 A4 [.slice none 0 0,.slice none 0 0,.bool false],Bx 36 2 A2 [aj bY,.slice Ar nr cr]]++ (s.2.2.dH++ []))) (fun s=>s.1) (100,0,X) (ajz O) ⟨bz,by rw [kW];exact BB,O,bK⟩ ?_;rintro⟨k,g,X⟩ e w9 ⟨bz,gn,jE,bh⟩;dsimp only at bz gn jE bh|-;obtain⟨r,rfl⟩:∃q,k=q+1:=by cases k with | zero=>cases gn | succ q=>exact⟨q,rfl⟩
  have gn:(if g<bY then(if 0<=(c:Int)/\(c:Int)< (X.ls.length:Int)then(if gi X.ls c=c then(match BN X.p c g with | none=>none | some (y,_)=>zt c bY r (g+1) y)else some X.p)else none)else some X.p)=some z1:=gn;have JB:X.ls.length=X.m:=bz.2.2;have gZ:bt w9 X.B X.m X.ls:=LS.bk bh;refine bb O (aI (bh.rd 2 O) O (fL (bh.rd 2 O) O O O O O (aq O ?_)));refine cz 82 O (fun h4=>?_) (fun h4=>?_)
  ·rw [aT (by omega)]at gn
   split at gn
   case isFalse=>cases gn
   rename_i aah;refine au O (aI (bh.rd 0 O) O (au O (aV (bh.rd 0 O) O ?_)));refine au O (aq O (au O ?_));refine aA gZ.2 O (au O (aY gZ O ?_));refine au O (aq O (au O (aq O ?_)));refine cz 91 O (fun h5=>?_) (fun h5=>?_)
   ·rw [aT h5]at gn
    split at gn
    case h_1=>cases gn
    rename_i y3 d3 gf;refine au O (aI (bh.rd 0 O) O (au O (ye (bh.rd 0 O) O O O O O (au O ?_))))
    first | refine de rfl rfl ?_ | refine dV rfl rfl ?_
    refine az O (Cd.eH O (aD O (bI 2 (bh.rd 0 O) O O O (aq O (aF (KY X c g y3 d3 bz (bh.np (pre:=[_,_,_])) gf) O ?_)))));rintro _ dA ⟨x',jF,jj,rfl,hT⟩;have hT:=hT.np;refine aq O (tJ hT O ?_);intro gv eA kR;refine bS 3 0 kR O O O O O O O fun fY ma=>aq O (bI 2 (ma.rd 0 O) O O O (bS 3 1 ma O O O O O O O ?_));intro iw pL;refine aq O (aK O (aS O (tQ ?_)));exact⟨(r,g+1,x'),Nat.lt_succ_self r,(ajz O),jF,by rw [jj];exact gn,by show r+ (g+1)=100;omega,pL.tail⟩
   rw [aR h5]at gn;have gn:=bj gn;refine ay O (ay O (ay O (az O ?_)));refine Cd.dZ O (bo O (bn (cJ O (aK O (aS O (tQ ?_))))));exact⟨(q,c+1,X),Nat.lt_succ_self q,(ajz O),bz,by rw [gn];exact hc,by show q+ (c+1)=3000;omega,bh⟩
  rw [aR (by omega)]at gn;have gn:=bj gn;refine ay O (ay O (ay O (ay O (ay O (ay O (ay O (aq O (ay O (ay O (ay O (az O ?_)))))))))));refine Cd.dZ O (bo O (bn (cJ O (aK O (aS O (tQ ?_))))));exact⟨(q,c+1,X),Nat.lt_succ_self q,(ajz O),bz,by rw [gn];exact hc,by show q+ (c+1)=3000;omega,bh⟩
 rw [aR (by omega)]at hc;have hc:=bj hc;refine ay O (ay O (ay O (az O ?_)));refine Cd.dZ O (bo O (bn (cJ O ?_)));refine bI 2 (bl.rd 0 O) O O O (bS 3 1 bl O O O O O O O ?_);intro w8 bK;refine bD O (fI O (bK.rd 1 O) ?_);refine⟨X,bz,hc,O,?_⟩;have h5:=((bK.sub ((dY _).cons _)).sub ((dY _).cons _)).sub ((dY _).cons _)
 rwa [iz]at h5
def qa(n i:Nat):ah:=(List.range n).map fun j=>if 0<j/\j<i then -1 else 0
theorem acD(n:Nat):qa n 1=List.replicate n 0:=by
 apply jV
 ·simp [qa]
 intro j h1 h2;simp only [qa,List.getElem_map,List.getElem_range,List.getElem_replicate];rw [aR (by omega)]
theorem acE{n i:Nat}(h0:0<i):(qa n i).set i (-1)=qa n (i+1):=by
 apply jV
 ·simp [qa]
 intro j h1 h2;rw [List.getElem_set];simp only [qa,List.getElem_map,List.getElem_range]
 split
 ·rename_i e;subst e;rw [aT (by omega)]
 rename_i e
 by_cases hj:0<j/\j<i
 ·rw [aT hj,aT (by omega)]
 rw [aR hj,aR (by omega)]
def Et(y:PS)(c:Int)(bY:Nat):Nat->Nat->ah->ah->Option (ah×ah)
 | 0,_,_,_=>none
 | k+1,g,ord,num=>if g<bY then(match uC y c g with
  | none=>none
  | some d=>if 0<=d/\d< (num.length:Int)/\ord.length<1000000 then(if gi num d<0 then Et y c bY k (g+1) (ord++ [d]) (num.set d.toNat (ord.length:Int))else Et y c bY k (g+1) ord num)else none)else some (ord,num)
def Eu(y:PS)(bY:Nat):Nat->Nat->ah->ah->Option (ah×ah)
 | 0,_,_,_=>none
 | k+1,i,ord,num=>if i<ord.length then(match Et y (gi ord i) bY 100 0 ord num with
  | none=>none
  | some (o,n)=>Eu y bY k (i+1) o n)else some (ord,num)
def G0(y:PS)(num:ah)(g:Nat):ah->Option (ah)
 | []=>some []
 | c::r=>match uC y c g with
  | none=>none
  | some d=>if 0<=d/\d< (num.length:Int)then(match G0 y num g r with | none=>none | some l=>some (gi num d::l))else none
def GN(y:PS)(num ord:ah)(bY:Nat):Nat->Nat->Option (ag)
 | 0,_=>none
 | k+1,g=>if g<bY then(match G0 y num g ord with | none=>none | some r=>match GN y num ord bY k (g+1)with | none=>none | some l=>some (r::l))else some []
def Cc(bY:Nat)(rel:ag):Option (ag):=
 match LN bY rel with
 | none=>none
 | some y=>if y.ls.length<=100000 then(match Eu y bY 100000 0 [0] (qa y.ls.length y.ls.length)with
  | none=>none
  | some (ord,num)=>if ord.length<=1000000 then GN y num ord bY 100 0 else none)else none
theorem adN(bY:Nat)(Ar:ai)(nr cr:Nat)(kr:List aX)(rel:ag)(T:ag)(w:aa)(hR:bL w Ar nr kr rel)(sg:∀x∈rel,x.length<=1000000)(s7:nr<=1000000)(hp:Cc bY rel=some T):
 aG prog 99 [.agg #[aj bY,.slice Ar nr cr],.slice none 0 0] w (fun v w'=>∃A c rs,v= .tuple #[.slice A T.length c,.bool true]/\rs.length=T.length/\St w w' (aU 24 2 A T.length c rs T)):=by
 unfold Cc at hp
 split at hp
 case h_1=>cases hp
 rename_i y hy
 split at hp
 case isFalse=>cases hp
 rename_i pZ
 split at hp
 case h_1=>cases hp
 rename_i SG Sy nM
 split at hp
 case isFalse=>cases hp
 rename_i yY;refine bw func99 O ntmps99 O (oF O) (bb O (wu (St.refl w) O O ?_));intro A2 w1 aC;refine aq O (bI 1 (aC.rd 0 O) O O O (aq O (aF (adM bY Ar nr cr kr rel none 0 y _ (aC.cV hR) sg s7 hy) O ?_)));rintro _ w2 ⟨x,bz,hxp,rfl,ax⟩;have aE:=aC.call ax;refine tJ aE O fun A6 w3 aH=>bS 3 0 aH O O O O O O O ?_;intro w4 aQ;have aQ:St w w4 ([Bx 158 3 A6 x.cells]++ (x.dH++ [Bx 36 2 A2 [aj bY,.slice Ar nr cr]])):=aQ;have hI:bL w4 x.A x.n x.rs x.im:=LS.eU bz aQ;have hL:bt w4 x.B x.m x.ls:=LS.bk aQ;have wN:=aQ.rd 0 O;have tW:Rd w4 A2 2 (fun j=> [Value.int .i64 (bY:Int),.slice Ar nr cr].getD j undef):=(aQ.sub (List.singleton_sublist.2 (by simp:Bx 36 2 A2 [aj bY,.slice Ar nr cr]∈_))).rd 0 O;subst hxp;have vJ:x.ls.length=x.m:=bz.2.2;have pZ:x.ls.length<=100000:=pZ;have nM:Eu x.p bY 100000 0 [0] (qa x.ls.length x.ls.length)=some (SG,Sy):=nM;rw [vJ]at nM pZ;refine aq O (aI wN O (ye wN O O O O O (az O (Cd.dZ O (aD O (dE (St.refl w4) O O O ?_))))));intro A7 w5 dW;have O4:=Rd.below wN dW.below;refine aq O (aI O4 O (aV O4 O (ba O O (sJ x.m dW O O (by omega) ?_))));intro A8 w6 eJ;rw [<-acD]at eJ;refine az O (Cd.loop (α:=Nat) (fun i=> [(2,.pointer A2),(6,.pointer A6),(7,.slice A7 1 1),(8,.slice A8 x.m x.m),(9,aj i)]) (fun i w'=>St w4 w' [ar 2 A8 x.m x.m (qa x.m i),ar 2 A7 1 1 [0]]/\1<=i/\(i<=x.m\/i=1)) (fun i=>x.m - i) 1 (ajz O) ⟨eJ,dC _,.inr O⟩ ?_);rintro i e w7 ⟨fg,kE,r5⟩;refine bb O (ba O O (az O ?_));refine aM _ O (fun h1=>?_) (fun h1=>?_)
 ·have FL:=fg.bk 0 O;refine aD O (aA FL.2 O (ak.iG 0 fg O O O (by omega) ?_));intro w8 gK;rw [gB,acE (by omega)]at gK;refine aq O (aK O (aS O (tQ ?_)));exact⟨i+1,by omega,(ajz O),gK,by omega,by omega⟩
 have da:qa x.m i=qa x.m x.m:=by
  unfold qa;apply pw;intro j hj;have hj:=nu.1 hj
  by_cases h:0<j
  ·rw [aT (by omega),aT (by omega)]
  rw [aR (by omega),aR (by omega)]
 rw [da]at fg;refine bo O (bn (nY O ?_));refine Cd.loop (α:=Nat×Nat×ai×Nat×ah×ah) (fun s=> [(2,.pointer A2),(6,.pointer A6),(7,.slice s.2.2.1 s.2.2.2.2.1.length s.2.2.2.1),(8,.slice A8 x.m x.m),(10,aj (s.2.1:Int))]) (fun s w'=>St w4 w' [ar 2 A8 x.m x.m s.2.2.2.2.2,ar 2 s.2.2.1 s.2.2.2.2.1.length s.2.2.2.1 s.2.2.2.2.1]/\s.1+s.2.1=100000/\Eu x.p bY s.1 s.2.1 s.2.2.2.2.1 s.2.2.2.2.2=some (SG,Sy)) (fun s=>s.1) (100000,0,A7,1,[0],qa x.m x.m) (ajz O) ⟨fg,O,nM⟩ ?_;rintro⟨k,i,A7,c7,ord,num⟩ e w8 ⟨gK,fo,nM⟩;dsimp only at gK fo nM|-;obtain⟨q,rfl⟩:∃q,k=q+1:=by cases k with | zero=>cases nM | succ q=>exact⟨q,rfl⟩
 rw [Eu]at nM;refine bb O (ba O O (az O ?_));refine aM _ O (fun h2=>?_) (fun h2=>?_)
 ·rw [aT (by omega)]at nM
  split at nM
  case h_1=>cases nM
  rename_i o2 n2 mA;refine cW O ?_;refine Cd.loop (α:=Nat×Nat×ai×Nat×ah×ah) (fun s=> [(2,.pointer A2),(6,.pointer A6),(7,.slice s.2.2.1 s.2.2.2.2.1.length s.2.2.2.1),(8,.slice A8 x.m x.m),(10,aj i),(11,aj (s.2.1:Int))]) (fun s w'=>St w4 w' [ar 2 A8 x.m x.m s.2.2.2.2.2,ar 2 s.2.2.1 s.2.2.2.2.1.length s.2.2.2.1 s.2.2.2.2.1]/\s.1+s.2.1=100/\i<s.2.2.2.2.1.length/\gi s.2.2.2.2.1 i=gi ord i/\Et x.p (gi ord i) bY s.1 s.2.1 s.2.2.2.2.1 s.2.2.2.2.2=some (o2,n2)) (fun s=>s.1) (100,0,A7,c7,ord,num) (ajz O) ⟨gK,O,by show i<ord.length;omega,O,mA⟩ ?_;rintro⟨kk,g,A7,c7,qk,num⟩ e w9 ⟨jy,jE,xn,yN,mA⟩;dsimp only at jy jE xn yN mA|-;obtain⟨r,rfl⟩:∃q,kk=q+1:=by cases kk with | zero=>cases mA | succ q=>exact⟨q,rfl⟩
  rw [Et]at mA;have O3:=Rd.below tW jy.below;have YV:=Rd.below wN jy.below;have rO:=jy.cV hI;have Zk:=jy.b9 hL;have Py:=jy.bk 1 O;have Zv:=jy.bk 0 O;have gL:num.length=x.m:=Zv.1;refine bb O (aI O3 O (fL O3 O O O O O (az O ?_)));refine aM _ O (fun h3=>?_) (fun h3=>?_)
  ·rw [aT (by omega)]at mA
   split at mA
   case h_1=>cases mA
   rename_i d hd
   split at mA
   case isFalse=>cases mA
   rename_i Bf;rw [<-yN]at hd;refine cW O (dQ [.ex (.agg #[.slice (x.A) (x.n) (x.c),.slice (x.B) (x.m) (x.cB),.bool (false)]),xS (A7) (qk.length) (c7),xI ((i:Int)),xP (aB (A7) ((i:Int)).toNat),xI (gi (qk) ((i:Int))),xI ((g:Int)),xI (d),xI (d)] O (eE O) ?_ ?_)
   ·refine⟨fun _ _ hb _ _=>bI 2 (YV.below hb) O O O Az,Dr O,Dr O,fun _ _ hb _ _=>aA (Py.ao hb).2 O Az,fun _ _ hb _ _=>aY (Py.ao hb) O Az,Dr O,?_,Dr O,aw⟩;intro e1 w1 hb hp bc;refine aF (Ea x.rs x.im x.ls _ g d _ (rO.ao hb) (Zk.ao hb) hd) O ?_;rintro _ w2 ⟨rfl,ax⟩;refine ak.n ?_;exact e6.dn ax.below (by exact O)
   intro u dA Z1 _;have oY:=jy.ao Z1;have Jq:=oY.bk 0 O;refine fJ O (aA Jq.2 O (aY Jq O (az O ?_)));refine aM _ O (fun h4=>?_) (fun h4=>?_)
   ·rw [aT h4]at mA;refine aD O (ba O O ?_);refine aA Jq.2 O (ak.iG 0 oY O O O (by omega) ?_);intro eA kR;have kR:St w4 eA [ar 2 A8 x.m x.m (num.set d.toNat (qk.length:Int)),ar 2 A7 qk.length c7 qk]:=kR;refine aq O (dE kR O O O ?_);intro eZ fY ma;refine dS 2 ma O (ma.bk 0 O) O O O ?_;intro rr CX iw pL;have pL:St w4 iw [ar 2 A8 x.m x.m (num.set d.toNat (qk.length:Int)),ar 2 rr (qk.length+1) CX (qk++ [d])]:=pL.tail;refine aq O (aK O (aS O (tQ ?_)));refine⟨(r,g+1,rr,CX,qk++ [d],num.set d.toNat (qk.length:Int)),Nat.lt_succ_self r,⟨O,O,by show Value.slice _ _ _= .slice _ _ _;rw [List.length_append];rfl,O,O,O,trivial⟩,by dsimp only;rw [List.length_append];exact pL,by show r+ (g+1)=100;omega,by show i< (qk++ [d]).length;rw [List.length_append];omega,?_,mA⟩;show gi (qk++ [d]) i=_;rw [<-yN,bX (by rw [dh];omega),bX xn,List.getElem_append_left xn]
   rw [aR h4]at mA;refine aD O (aK O (aS O (tQ ?_)));exact⟨(r,g+1,A7,c7,qk,num),Nat.lt_succ_self r,(ajz O),oY,by show r+ (g+1)=100;omega,xn,yN,mA⟩
  rw [aR (by omega)]at mA;have mA:=bj mA;simp only [Prod.mk.injEq]at mA;obtain⟨rfl,rfl⟩:=mA;refine bo O (bn (cJ O (aK O (aS O (tQ ?_)))));exact⟨(q,i+1,A7,c7,qk,num),Nat.lt_succ_self q,(ajz O),jy,by show q+ (i+1)=100000;omega,nM⟩
 rw [aR (by omega)]at nM;have nM:=bj nM;simp only [Prod.mk.injEq]at nM;obtain⟨rfl,rfl⟩:=nM;have Zu:=gK.bk 0 O;have gL:num.length=x.m:=Zu.1;refine bo O (bn (cJ O ?_));refine fZ gK O ?_;intro rr w9 jy;have jy:St w4 w9 (aU 24 2 rr 0 0 [] []++ [ar 2 A8 x.m x.m num,ar 2 A7 ord.length c7 ord]):=jy;have hol2:ord.length<=1000000:=yY;refine az O (Cd.loop (α:=Nat×Nat×ai×Nat×List aX×ag) (fun s=> [(2,.pointer A2),(6,.pointer A6),(7,.slice A7 ord.length c7),(8,.slice A8 x.m x.m),(13,.slice s.2.2.1 s.2.1 s.2.2.2.1),(14,aj (s.2.1:Int))]) (fun s w'=>St w4 w' (aU 24 2 s.2.2.1 s.2.1 s.2.2.2.1 s.2.2.2.2.1 s.2.2.2.2.2++ [ar 2 A8 x.m x.m num,ar 2 A7 ord.length c7 ord])/\s.1+s.2.1=100/\s.2.2.2.2.1.length=s.2.1/\s.2.2.2.2.2.length=s.2.1/\∃l,GN x.p num ord bY s.1 s.2.1=some l/\s.2.2.2.2.2++l=T) (fun s=>s.1) (100,0,rr,0,[],[]) (ajz O) ⟨jy,O,O,O,T,hp,O⟩ ?_);rintro⟨k,g,B,cB,rs,xss⟩ e dA ⟨oY,jE,bT,di,l,sd,FR⟩;dsimp only at oY jE bT di sd FR|-;obtain⟨q,rfl⟩:∃q,k=q+1:=by cases k with | zero=>cases sd | succ q=>exact⟨q,rfl⟩
 rw [GN]at sd;have O2:=Rd.below tW oY.below;refine bb O (aI O2 O (fL O2 O O O O O (az O ?_)));refine aM _ O (fun h5=>?_) (fun h5=>?_)
 ·rw [aT (by omega)]at sd
  split at sd
  case h_1=>cases sd
  rename_i row bM
  split at sd
  case h_1=>cases sd
  rename_i l2 abA;obtain rfl:=bj sd;refine aD O (fZ oY O ?_);intro ka eA kR;refine az O (Cd.loop (α:=Nat×ai×Nat×ah) (fun s=> [(2,.pointer A2),(6,.pointer A6),(7,.slice A7 ord.length c7),(8,.slice A8 x.m x.m),(13,.slice B g cB),(14,aj g),(15,.slice s.2.1 s.1 s.2.2.1),(16,aj (s.1:Int))]) (fun s w'=>St w4 w' (ar 2 s.2.1 s.1 s.2.2.1 s.2.2.2::(aU 24 2 B g cB rs xss++ [ar 2 A8 x.m x.m num,ar 2 A7 ord.length c7 ord]))/\s.1<=ord.length/\s.2.2.2.length=s.1/\∃l,G0 x.p num g (ord.drop s.1)=some l/\s.2.2.2++l=row) (fun s=>ord.length - s.1) (0,ka,0,[]) (ajz O) ⟨kR,bu _,O,row,bM,O⟩ ?_);rintro⟨j,ka,kM,acc⟩ e fY ⟨ma,hj,pM,l3,r6,FQ⟩;dsimp only at ma hj pM r6 FQ|-;refine bb O (ba O O (az O ?_));refine aM _ O (fun h6=>?_) (fun h6=>?_)
  ·have DF:j<ord.length:=by omega
   rw [List.drop_eq_getElem_cons DF,<-bX DF]at r6;simp only [G0]at r6
   split at r6
   case h_1=>cases r6
   rename_i d hd
   split at r6
   case isFalse=>cases r6
   rename_i Bf
   split at r6
   case h_1=>cases r6
   rename_i l4 hl4;obtain rfl:=bj r6;have YU:=Rd.below wN ma.below;have Zc:=ma.cV hI;have Po:=ma.b9 hL;have eo:St w4 fY ([ar 2 A8 x.m x.m num,ar 2 A7 ord.length c7 ord]++ (ar 2 ka j kM acc::aU 24 2 B g cB rs xss)):=ma.perm (iK (l₁:=ar 2 ka j kM acc::aU 24 2 B g cB rs xss));have Pw:=eo.bk 1 O;have Ps:=eo.bk 0 O;refine cW O ?_;refine jm [12] [yS (ka) (j) (kM),yS (A8) (x.m) (x.m),.ex (.agg #[.slice (x.A) (x.n) (x.c),.slice (x.B) (x.m) (x.cB),.bool (false)]),yS (A7) (ord.length) (c7),yI ((j:Int)),yP (aB (A7) ((j:Int)).toNat),yI (gi (ord) ((j:Int))),yI ((g:Int)),yI (d),yP (aB (A8) (d).toNat),yI (gi (num) (d)),.pr (fun v w'=>∃jC,v= .slice jC 1 1/\St w4 w' (ar 2 jC 1 1 [gi num d]::ar 2 ka j kM acc::(aU 24 2 B g cB rs xss++ [ar 2 A8 x.m x.m num,ar 2 A7 ord.length c7 ord]))),.pr (fun v w'=>∃dv dG,v= .slice dv (j+1) dG/\St w4 w' (ar 2 dv (j+1) dG (acc++ [gi num d])::(aU 24 2 B g cB rs xss++ [ar 2 A8 x.m x.m num,ar 2 A7 ord.length c7 ord]))),.pr (fun v w'=>∃dv dG,v= .slice dv (j+1) dG/\St w4 w' (ar 2 dv (j+1) dG (acc++ [gi num d])::(aU 24 2 B g cB rs xss++ [ar 2 A8 x.m x.m num,ar 2 A7 ord.length c7 ord])))] (ly (ly (ly (ly (ly (ly (ly (ly (ly (ly (ly (cg.2 ⟨Ye.cH (fun v w w' h hb=>by obtain⟨jC,hv,h1⟩:=h;exact⟨jC,hv,h1.ao hb⟩),(cg.2 ⟨Ye.cH (fun v w w' h hb=>by obtain⟨dv,dG,hv,h1⟩:=h;exact⟨dv,dG,hv,h1.ao hb⟩),(cg.2 ⟨Ye.cH (fun v w w' h hb=>by obtain⟨dv,dG,hv,h1⟩:=h;exact⟨dv,dG,hv,h1.ao hb⟩),(fun _ h=>by cases h)⟩)⟩)⟩)))))))))))) ?_ ?_
   ·refine⟨?_,bZ O,cP fun _ _ hb _ _ _=>bI 2 (YU.below hb) O O O (bq O O),bZ O,bZ O,cP fun _ _ hb _ _ _=>aA (Pw.ao hb).2 O (bq O O),cP fun _ _ hb _ _ _=>aY (Pw.ao hb) O (bq O O),bZ O,?_,cP fun _ _ hb _ _ _=>aA (Ps.ao hb).2 O (bq O O),cP fun _ _ hb _ _ _=>aY (Ps.ao hb) O (bq O O),?_,?_,?_,aw⟩
    ·intro e1 w1 cc fB ea fz hp bc hq;show ak _ _ _ _ _ _ _;refine kc O (by exact bc 13 _ O (by kernel_rfl)) O (ak.n (gh O (by exact O)))
    ·refine cP fun e1 w1 hb hp bc hq=>?_
     refine aF (Ea x.rs x.im x.ls _ g d _ (Zc.ao hb) (Po.ao hb) hd) O ?_;rintro _ w2 ⟨rfl,ax⟩;refine ak.n ?_;exact fu.dn O ax.below (by exact O)
    ·refine cP fun e1 w1 hb hp bc hq=>?_
     exact dE (St.refl _) O O O fun jC iH pV=>ak.n (fu.dn O pV.below ⟨jC,O,(ma.ao hb).call pV⟩)
    ·refine ju fun e1 w1 hb hp bc hq=>?_
     obtain⟨jC,hv,h1⟩:=(hp 11 _ _ (by kernel_rfl) rfl rfl (by kernel_rfl));refine dS 1 h1 O (h1.bk 0 O) O (by exact hv) O ?_;intro dv dG pj yF;exact ak.n (fF.dn O ⟨dv,dG,O,yF.tail⟩)
    refine dP 1 fun e1 w1 hp bc hq=>?_
    have fC:=hp 12 _ _ (by kernel_rfl) O O (by kernel_rfl);obtain⟨dv,dG,hv,h1⟩:=(hp 12 _ _ (by kernel_rfl) rfl rfl (by kernel_rfl));refine kc O (by exact hv) O (ak.n ?_);exact fu.dn O (Below.refl _ _) ⟨dv,dG,O,h1⟩
   intro u iw _ hu _ _;obtain⟨dv,dG,hv,pL⟩:=hu 13 _ rfl (by kernel_rfl);refine fJ O (aK O (aS O (tQ ?_)));exact⟨(j+1,dv,dG,acc++ [gi num d]),by omega,⟨O,O,O,O,O,O,hv,O,aw⟩,pL,by show j+1<=ord.length;omega,by show(acc++ [gi num d]).length=j+1;rw [dh,pM];rfl,l4,hl4,by show(acc++ [gi num d])++l4=row;rw [<-FQ,fK];rfl⟩
  have nG:j=ord.length:=by omega
  rw [List.drop_eq_nil_of_le (by omega)]at r6;obtain rfl:=bj r6;rw [iz]at FQ;subst FQ;refine bo O (bn (cJ O ?_));refine lU ma O O O fun fc iw pL=>lS 2 pL O (pL.fq 0 O) O O O (by omega) (by omega) O ?_;intro sE E4 rq rS;have rS:St w4 rq (ar 2 ka j kM acc::br 24 sE (g+1) E4 (rs++ [⟨ka,j,kM⟩])::(bF 2 rs xss++ [ar 2 A8 x.m x.m num,ar 2 A7 ord.length c7 ord])):=rS.tail;refine aq O (aK O (aS O (tQ ?_)));refine⟨(q,g+1,sE,E4,rs++ [⟨ka,j,kM⟩],xss++ [acc]),Nat.lt_succ_self q,(ajz O),?_,by show q+ (g+1)=100;omega,by simp [bT],by simp [di],l2,abA,by show(xss++ [acc])++l2=T;rw [<-FR,fK];rfl⟩;show St w4 rq (br 24 sE (g+1) E4 (rs++ [⟨ka,j,kM⟩])::(bF 2 (rs++ [⟨ka,j,kM⟩]) (xss++ [acc])++ [ar 2 A8 x.m x.m num,ar 2 A7 ord.length c7 ord]));rw [tp (by omega),fK];refine rS.perm ((List.Perm.swap _ _ _).trans (List.Perm.cons _ ?_));exact eK.symm
 rw [aR (by omega)]at sd;obtain rfl:=bj sd;rw [iz]at FR;subst FR;refine bo O (bn (eG O ?_));refine afL O O ?_;refine⟨B,cB,rs,by rw [di],by omega,?_⟩;have h9:St w4 dA (aU 24 2 B g cB rs xss):=oY.sub (lQ _ _);have fH:=aQ.call h9;rw [di];exact fH.sub (lQ _ _)
end
section
structure ER where
 f:Nat
 k:Nat
 B:ai
 n:Nat
 c:Nat
 rs:List aX
 xss:ag
end
section
open Go.RowKit
def Ei(labels:ah)(i k:Nat):ag:=
 if 0< (if k=i+1 then gi labels i else 2)then [pow [(i:Int),(k:Int)] (if k=i+1 then gi labels i else 2).toNat]else []
def BX(labels:ah)(bY i:Nat):Nat->Nat->ag
 | 0,_=> []
 | f+1,k=>if k<bY then Ei labels i k++BX labels bY i f (k+1)else []
def zo(labels:ah)(bY:Nat):Nat->Nat->ag
 | 0,_=> []
 | f+1,i=>if i<bY then BX labels bY i f (i+1)++zo labels bY f (i+1)else []
def ie(labels:ah):ag:=zo labels (labels.length+1) 20 0
theorem xJ(A:ai)(n c:Nat)(w:aa)(hn:n<=1000):aG prog 97 [.slice A n c] w (fun v w'=>v=aj ((n:Int)+1)/\w'=w):=by
 refine bw func97 O ntmps97 O (b7 O) ?_;refine bb O (ba O O (aK O (bD O ?_)));exact iY O ⟨O,O⟩
section
variable {P:Program} {N:Nat} {ops:Array Oper} {K:Env->aa->Prop} {rest:List Oper} {e:Env} {w0 w w':aa} {ks:List Ck} {d:Nat} {ty:ad} {pos:String} {af:Array Edge}
theorem UZ{t:ad}{f0 f1:Field}{z0 z1 y0 y1:ab}{b b0 b1:Nat}[bP P t (.struct #[f0,f1])][bO P t (.agg #[z0,z1]) 2 b]{x0:ae}{v0:ab}(rM:bO P f0.type y0 1 b0)(pK:bO P f1.type y1 1 b1)(ho:f0.offset=0)(ow:f1.offset=1)(h0:ev e x0=v0)(c0:v0.oneCell'=true)(hb:Nat.blt d N=true)(hK:ak P N ops K rest (bC e d (.agg #[v0,z1])) w):ak P N ops K (⟨some d,.build t #[(0,x0)],ty,pos,af,none⟩::rest) e w:=by
 obtain⟨inf,hi,fp,hs,iq⟩:=bO.get P t;obtain⟨D5,mw,_,oz,_⟩:=rM.get P f0.type;obtain⟨D6,kE,_,s9,_⟩:=pK.get P f1.type;have e0:v0.cells= #[v0]:=by cases v0<;>simp [Value.oneCell']at c0<;>rfl
 have ez:(Value.agg #[z0,z1]).cells= #[z0,z1]:=O;refine .val (w':=w) ?_ hb hK;simp [execOp,Instr.build,run_underlying (bP.out (P:=P) (t:=t)),sizeOf,typeInfo,zeroValue,hi,fp,mw,oz,kE,s9,ho,ow,h0,e0,ez,Instr.fill]
end
theorem R8(Al:ai)(nl cl:Nat)(labels:ah)(w:aa)(hR:bt w Al nl labels)(gL:nl<=10)(hl:∀x∈labels,0<=x/\x<=32):
 aG prog 43 [.slice Al nl cl] w (fun v w'=>∃B c rs,v= .agg #[aj ((nl:Int)+1),.slice B (ie labels).length c]/\rs.length=(ie labels).length/\St w w' (aU 24 2 B (ie labels).length c rs (ie labels))):=by
 have nI:=hR.1;refine bw func43 O ntmps43 O (kX O O) (bb O (sK (St.refl w) O ?_));intro A2 w1 aC;refine aq O (aF (xJ Al nl cl _ (by omega)) O ?_);rintro _ w2 ⟨rfl,rfl⟩;refine UZ (by exact inferInstance) (by exact inferInstance) O O O O O (sK aC O ?_);intro A3 w2 aE;refine bS 2 0 aE O O O O O O O ?_;intro w3 aH;have aH:St w w3 ([Bx 36 2 A3 [aj ((nl:Int)+1),.slice none 0 0],Bx 36 2 A2 [aj 0,.slice none 0 0]]):=aH;have aQ:St w w3 (br 24 none 0 0 []::[Bx 36 2 A3 [aj ((nl:Int)+1),.slice none 0 0],Bx 36 2 A2 [aj 0,.slice none 0 0]]):=aH.nil _;have a8:St w w3 ([Bx 36 2 A3 [aj ((nl:Int)+1),.slice none 0 0],Bx 36 2 A2 [aj 0,.slice none 0 0]]++aU 24 2 none 0 0 [] []):=aQ.perm (iK (l₁:=[_]) (l₂:=[_,_]));refine az O ?_;refine Cd.loop (α:=ER) (fun s=> [(0,.slice Al nl cl),(2,.pointer A2),(3,.pointer A3),(4,aj (s.k:Int))]) (fun s w'=>St w w' ([Bx 36 2 A3 [aj ((nl:Int)+1),.slice s.B s.n s.c],Bx 36 2 A2 [aj 0,.slice none 0 0]]++aU 24 2 s.B s.n s.c s.rs s.xss)/\s.rs.length=s.n/\s.xss.length=s.n/\s.n<=20*s.k/\s.k+s.f=20/\s.xss++zo labels (nl+1) s.f s.k=ie labels) (fun s=>s.f) ⟨20,0,none,0,0,[],[]⟩ ⟨O,O,O,O,trivial⟩ ⟨a8,O,O,Nat.zero_le _,O,by unfold ie;rw [nI];rfl⟩ ?_;rintro⟨f,i,B,n,cB,rs,xss⟩ e w4 ⟨aQ,bT,di,Kd,hkf,iW⟩;dsimp only at aQ bT di Kd hkf iW|-;refine bb O (aI (aQ.rd 0 O) O (fL (aQ.rd 0 O) O O O O O (az O ?_)));refine aM _ O (fun h1=>?_) (fun h1=>?_)
 ·obtain⟨f,rfl⟩:∃q,f=q+1:=⟨f - 1,by omega⟩;rw [zo,aT (by omega)]at iW;refine aD O (aK O (az O ?_));refine Cd.loop (α:=ER) (fun s=> [(0,.slice Al nl cl),(2,.pointer A2),(3,.pointer A3),(4,aj i),(5,aj (s.k:Int))]) (fun s w'=>St w w' ([Bx 36 2 A3 [aj ((nl:Int)+1),.slice s.B s.n s.c],Bx 36 2 A2 [aj 0,.slice none 0 0]]++aU 24 2 s.B s.n s.c s.rs s.xss)/\s.rs.length=s.n/\s.xss.length=s.n/\i+1<=s.k/\s.n+i+1<=20*i+s.k/\s.k+s.f=20/\s.xss++ (BX labels (nl+1) i s.f s.k++zo labels (nl+1) f (i+1))=ie labels) (fun s=>s.f) ⟨f,i+1,B,n,cB,rs,xss⟩ (ajz O) ⟨aQ,bT,di,dC _,by show n+i+1<=20*i+ (i+1);omega,by show i+1+f=20;omega,iW⟩ ?_;rintro⟨g,k,B,n,cB,rs,xss⟩ e w5 ⟨a8,bT,di,o0,abp,jE,iW⟩;dsimp only at a8 bT di o0 abp jE iW|-;refine bb O (aI (a8.rd 0 O) O (fL (a8.rd 0 O) O O O O O (az O ?_)));refine aM _ O (fun h2=>?_) (fun h2=>?_)
  ·obtain⟨g,rfl⟩:∃q,g=q+1:=⟨g - 1,by omega⟩;rw [BX,aT (by omega)]at iW;have sU:∃L:Int,L=(if k=i+1 then gi labels i else 2)/\0<=L/\L<=32:=by
    refine⟨_,O,?_⟩
    split
    ·have:=hl (gi labels i) (by rw [bX (by omega)];exact fe _);exact this
    ·omega
   obtain⟨L,hL,oi,hL32⟩:=sU;refine wm 5 O (nq (α:=Unit) (fun _=> [(0,.slice Al nl cl),(2,.pointer A2),(3,.pointer A3),(4,aj i),(5,aj k),(6,aj L)]) (fun _ w'=>w'=w5) ?_ ?_)
   ·refine bb O (aK O (az O ?_));refine aM _ O (fun h3=>?_) (fun h3=>?_)
    ·have gZ:=a8.b9 hR;refine aD O (aA gZ.2 O (aY gZ O ?_));refine aS O (tQ ?_);exact⟨(),⟨O,O,O,O,O,by rw [hL,aT (by omega)];rfl,aw⟩,O⟩
    ·refine mN O (tQ ?_);exact⟨(),⟨O,O,O,O,O,by rw [hL,aR (by omega)];rfl,aw⟩,O⟩
   ·rintro⟨⟩ e w6 rfl;refine cW O (aM _ O (fun h4=>?_) (fun h4=>?_))
    ·have sg:Ei labels i k=[pow [(i:Int),(k:Int)] L.toNat]:=by
      unfold Ei;rw [<-hL,aT h4]
     rw [sg]at iW;refine jm [8,10] [yP (aB (A3) 1),yS (B) (n) (cB),yI ((i:Int)),yI ((k:Int)),.pr (fun v w'=>∃dp,v= .slice dp 2 2/\St w w' (ar 2 dp 2 2 [(i:Int),(k:Int)]::Bx 36 2 A3 [aj ((nl:Int)+1),.slice B n cB]::Bx 36 2 A2 [aj 0,.slice none 0 0]::aU 24 2 B n cB rs xss)),yI (L),.pr (fun v w'=>∃fj gI,v= .slice fj (2*L.toNat) gI/\St w w' (ar 2 fj (2*L.toNat) gI (pow [(i:Int),(k:Int)] L.toNat)::Bx 36 2 A3 [aj ((nl:Int)+1),.slice B n cB]::Bx 36 2 A2 [aj 0,.slice none 0 0]::aU 24 2 B n cB rs xss)),.pr (fun v w'=>∃fj gI oK,v= .slice oK 1 1/\St w w' (br 24 oK 1 1 [⟨fj,2*L.toNat,gI⟩]::ar 2 fj (2*L.toNat) gI (pow [(i:Int),(k:Int)] L.toNat)::Bx 36 2 A3 [aj ((nl:Int)+1),.slice B n cB]::Bx 36 2 A2 [aj 0,.slice none 0 0]::aU 24 2 B n cB rs xss)),.pr (fun v w'=>∃fj gI eR eS,v= .slice eR (n+1) eS/\St w w' (ar 2 fj (2*L.toNat) gI (pow [(i:Int),(k:Int)] L.toNat)::Bx 36 2 A3 [aj ((nl:Int)+1),.slice B n cB]::Bx 36 2 A2 [aj 0,.slice none 0 0]::br 24 eR (n+1) eS (rs++ [⟨fj,2*L.toNat,gI⟩])::bF 2 rs xss)),yP (aB (A3) 1),.pr (fun _ w'=>∃fj gI eR eS,St w w' (ar 2 fj (2*L.toNat) gI (pow [(i:Int),(k:Int)] L.toNat)::Bx 36 2 A3 [aj ((nl:Int)+1),.slice eR (n+1) eS]::Bx 36 2 A2 [aj 0,.slice none 0 0]::br 24 eR (n+1) eS (rs++ [⟨fj,2*L.toNat,gI⟩])::bF 2 rs xss))] (ly (ly (ly (ly (cg.2 ⟨Ye.cH (fun v w w' h hb=>by obtain⟨dp,hv,h1⟩:=h;exact⟨dp,hv,h1.ao hb⟩),(ly (cg.2 ⟨Ye.cH (fun v w w' h hb=>by obtain⟨fj,gI,hv,h1⟩:=h;exact⟨fj,gI,hv,h1.ao hb⟩),(cg.2 ⟨Ye.cH (fun v w w' h hb=>by obtain⟨fj,gI,oK,hv,h1⟩:=h;exact⟨fj,gI,oK,hv,h1.ao hb⟩),(cg.2 ⟨Ye.cH (fun v w w' h hb=>by obtain⟨fj,gI,eR,eS,hv,h1⟩:=h;exact⟨fj,gI,eR,eS,hv,h1.ao hb⟩),(ly (cg.2 ⟨Ye.cH (fun v w w' h hb=>by obtain⟨fj,gI,eR,eS,h1⟩:=h;exact⟨fj,gI,eR,eS,h1.ao hb⟩),(fun _ h=>by cases h)⟩))⟩)⟩)⟩))⟩))))) ?_ ?_
     ·refine⟨cP fun _ _ hb _ _ _=>aI ((a8.rd 0 O).below hb) O (bq O O),cP fun _ _ hb _ _ _=>aV ((a8.rd 0 O).below hb) O (bq O O),bZ O,bZ O,?_,bZ O,?_,?_,?_,?_,?_,aw⟩
      ·refine cP fun e1 w1 hb hp bc hq=>?_
       exact lj [(i:Int),(k:Int)] (St.refl _) O O (by decide) (by decide) O O fun dp iH pV=>ak.n (fu.dn O pV.below ⟨dp,O,(a8.ao hb).call pV⟩)
      ·refine cP fun e1 w1 hb hp bc hq=>?_
       obtain⟨dp,hv,h1⟩:=(hp 4 _ _ (by kernel_rfl) rfl rfl (by kernel_rfl));refine ajq (adL dp 2 2 [(i:Int),(k:Int)] L.toNat _ (h1.bk 0 O) (by decide) (by omega)) O (by rw [Int.toNat_of_nonneg oi];exact aL (fun v=> [v,Value.int .i64 L]) hv) O ?_;rintro _ pj ⟨fj,gI,rfl,xD⟩;exact ak.n (fu.dn O xD.below ⟨fj,gI,O,(h1.tail).call xD⟩)
      ·refine cP fun e1 w1 hb hp bc hq=>?_
       obtain⟨fj,gI,hv,h1⟩:=(hp 6 _ _ (by kernel_rfl) rfl rfl (by kernel_rfl));refine lU (St.refl _) (by exact hv) O O ?_;intro oK Cf xE;exact ak.n (fu.dn O xE.below ⟨fj,gI,oK,O,h1.call xE⟩)
      ·refine ju fun e1 w1 hb hp bc hq=>?_
       obtain⟨fj,gI,oK,hv,h1⟩:=(hp 7 _ _ (by kernel_rfl) rfl rfl (by kernel_rfl));refine lS 4 h1 O (h1.fq 0 O) O (by exact hv) O (by omega) (by omega) O ?_;intro eR eS zy Dj;exact ak.n (fF.dn O ⟨fj,gI,eR,eS,O,Dj.tail⟩)
      ·refine dP 1 fun e1 w1 hp bc hq=>?_
       have fC:=hp 8 _ _ (by kernel_rfl) O O (by kernel_rfl);obtain⟨fj,gI,eR,eS,OS,hT⟩:=fC;refine aI ((hT.rd 1 O)) O (ak.n (gh O (by exact O)))
      ·refine sP 1 fun e1 w1 hp bc hq=>?_
       have fC:=hp 8 _ _ (by kernel_rfl) O O (by kernel_rfl);obtain⟨fj,gI,eR,eS,OS,hT⟩:=fC;refine ke 1 hT O O (by exact OS) O O ?_;intro zz Dl;exact ak.n (fF.st O ⟨fj,gI,eR,eS,Dl⟩)
     intro u w7 _ hu _ _;obtain⟨fj,gI,eR,eS,hT⟩:=hu 10 _ rfl (by kernel_rfl);refine fJ O (aK O (aS O (tQ ?_)));refine⟨⟨g,k+1,eR,n+1,eS,rs++ [⟨fj,2*L.toNat,gI⟩],xss++ [pow [(i:Int),(k:Int)] L.toNat]⟩,Nat.lt_succ_self g,(ajz O),?_,by simp [bT],by simp [di],by show i+1<=k+1;omega,by show n+1+i+1<=20*i+ (k+1);omega,by show k+1+g=20;omega,by rw [<-iW];simp⟩;show St w w7 ([Bx 36 2 A3 [aj ((nl:Int)+1),.slice eR (n+1) eS],Bx 36 2 A2 [aj 0,.slice none 0 0]]++br 24 eR (n+1) eS (rs++ [⟨fj,2*L.toNat,gI⟩])::bF 2 (rs++ [⟨fj,2*L.toNat,gI⟩]) (xss++ [pow [(i:Int),(k:Int)] L.toNat]));rw [tp (by omega)];refine hT.perm ?_;exact (iK (l₁:=[_]) (l₂:=Bx 36 2 A3 [aj ((nl:Int)+1),.slice eR (n+1) eS]::Bx 36 2 A2 [aj 0,.slice none 0 0]::br 24 eR (n+1) eS (rs++ [⟨fj,2*L.toNat,gI⟩])::bF 2 rs xss))
    ·have sg:Ei labels i k=[]:=by
      unfold Ei;rw [<-hL,aR h4]
     rw [sg]at iW;refine aD O (aK O (aS O (tQ ?_)));exact⟨⟨g,k+1,B,n,cB,rs,xss⟩,Nat.lt_succ_self g,(ajz O),a8,bT,di,by show i+1<=k+1;omega,by show n+i+1<=20*i+ (k+1);omega,by show k+1+g=20;omega,iW⟩
  ·have cL:BX labels (nl+1) i g k=[]:=by
    cases g with
    | zero=>rfl
    | succ g=>rw [BX,aR (by omega)]
   rw [cL]at iW;refine bo O (bn (cJ O (aK O (aS O (tQ ?_)))));exact⟨⟨f,i+1,B,n,cB,rs,xss⟩,Nat.lt_succ_self f,(ajz O),a8,bT,di,by show n<=20* (i+1);omega,by show i+1+f=20;omega,iW⟩
 ·have JZ:zo labels (nl+1) f i=[]:=by
   cases f with
   | zero=>rfl
   | succ f=>rw [zo,aR (by omega)]
  rw [JZ,iz]at iW;subst iW;refine bo O (bn (cJ O ?_));refine bI 1 (aQ.rd 0 O) O O O (bS 2 1 aQ O O O O O O O ?_);intro w5 a8;refine bD O (fI O (a8.rd 1 O) ?_);refine⟨B,cB,rs,by rw [di];rfl,by omega,?_⟩;rw [di];exact(a8.sub ((dY _).cons _)).sub ((dY _).cons _)
structure CV where
 s:aX
 v:Int
section
variable {w0 w:aa} {ks:List Ck} {i:Nat} {t:ad} {A:ai} {k q:Nat} {cs:List CV}
theorem St.M4(h:St w0 w ks)(cs:List ab)(e:ad)(n c:Nat)(hn:n<=c)(hc:c<=cs.length)(hm:c<=maxLen)(hM:eT cs=false):St w0 (w.alloc (.cells cs.toArray e)) (⟨some ⟨w.heap.size,0,Option.none⟩,n,c,e,cs.take n⟩::ks):=by
 have hb:Below w.heap.size w (w.alloc (.cells cs.toArray e)):=(Below.refl _ _).alloc (dC _) _;have h1:=h.ao hb;refine⟨h1.below,fun k hk=>?_,?_⟩
 ·rcases ij.1 hk with rfl | hk
  ·refine .qj (RH n hM) ⟨by simp;omega,hn,hm,.inr ⟨_,0,cs.toArray,O,h.below.size,heap_alloc_new w _,by simp;omega,fun j hj=>?_⟩⟩;have hj:j<n:=hj;simp [rB,hj]
  exact h1.own k hk
 simp only [List.filterMap_cons,Ck.il,Option.map_some,kz];refine⟨fun da=>?_,h.apart⟩;obtain⟨k',eN,uj⟩:=List.mem_filterMap.1 da;have:=((h.own k' eN).lt uj).2;omega
theorem SO{α:Type}:∀(l:List α) (i:Nat) (x y:α),l[i]?=some y->(x::l).Perm (y::l.set i x)
 | [],i,x,y,h=>by simp at h
 | u::l,0,x,y,h=>by simp at h;subst h;exact List.Perm.swap _ _ _
 | u::l,i+1,x,y,h=>by
  simp only [List.getElem?_cons_succ]at h;simp only [List.set_cons_succ];exact(List.Perm.swap _ _ _).trans (((SO l i x y h).cons u).trans (List.Perm.swap _ _ _))
theorem T6{z z0 z1:ab}(hz:z.cells= #[z0,z1])(m:Nat):(Builtin.zeroCells z.cells m).toList.length=2*m:=by
 rw [hz];simp [Builtin.zeroCells];omega
end
section
variable {P:Program} {N:Nat} {ops:Array Oper} {K:Env->aa->Prop} {rest:List Oper} {e:Env} {w0 w w':aa} {ks:List Ck} {d:Nat} {ty:ad} {pos:String} {af:Array Edge}
theorem CC{t:ad}{f0 f1:Field}{z0 z1 y0 y1:ab}{b b0 b1:Nat}[bP P t (.struct #[f0,f1])][bO P t (.agg #[z0,z1]) 2 b]{x0 x1:ae}{v0 v1:ab}(rM:bO P f0.type y0 1 b0)(pK:bO P f1.type y1 1 b1)(ho:f0.offset=0)(ow:f1.offset=1)(h0:ev e x0=v0)(h1:ev e x1=v1)(c0:v0.oneCell'=true)(c1:v1.oneCell'=true)(hb:Nat.blt d N=true)(hK:ak P N ops K rest (bC e d (.agg #[v0,v1])) w):ak P N ops K (⟨some d,.build t #[(0,x0),(1,x1)],ty,pos,af,none⟩::rest) e w:=by
 obtain⟨inf,hi,fp,hs,iq⟩:=bO.get P t;obtain⟨D5,mw,hz00,oz,hby0⟩:=rM.get P f0.type;obtain⟨D6,kE,hz01,s9,hby1⟩:=pK.get P f1.type;have e0:v0.cells= #[v0]:=by cases v0<;>simp [Value.oneCell']at c0<;>rfl
 have e1:v1.cells= #[v1]:=by cases v1<;>simp [Value.oneCell']at c1<;>rfl
 have ez:(Value.agg #[z0,z1]).cells= #[z0,z1]:=O;refine .val (w':=w) ?_ hb hK;simp [execOp,Instr.build,run_underlying (bP.out (P:=P) (t:=t)),sizeOf,typeInfo,zeroValue,hi,fp,mw,oz,kE,s9,ho,ow,h0,h1,e0,e1,ez,Instr.fill]
end
theorem KZ(A:ai)(n c:Nat)(labels:ah)(w:aa)(hR:bt w A n labels)(hn:n<5)(hl:∀x∈labels,x=0\/(2<=x/\x<=32)):
 aG prog 41 [.slice A n c] w (fun v w'=>v= .bool true/\w'=w):=by
 have nI:=hR.1;refine bw func41 O ntmps41 O (b7 O) (b8 O ?_);refine Cd.loop (α:=Nat) (fun i=> [(0,.slice A n c),(3,aj i)]) (fun i w'=>w'=w/\i<=n) (fun i=>n - i) 0 (ajz O) ⟨O,bu _⟩ ?_;rintro i e w1 ⟨rfl,hi⟩;refine bb O (ba O O (az O ?_));refine aM _ O (fun h1=>?_) (fun h1=>?_)
 ·have hx:=hl (gi labels i) (by rw [bX (by omega)];exact fe _);refine aD O (aA hR.2 O (aY hR O (aq O ?_)));refine cz 15 O (fun h2=>?_) (fun h2=>?_)
  ·refine au O (aq O (au O (aq O (au O ?_))));refine aA hR.2 O (au O (aY hR O (au O (aF (oC _ _ _ _) O ?_))));rintro _ w2 ⟨rfl,rfl⟩;refine au O ?_
   first | refine de rfl rfl ?_ | refine dV rfl rfl ?_
   refine az O (gV O (fun h=>h (by omega)) (aD O (aK O (aS O (tQ ?_)))));exact⟨i+1,by omega,(ajz O),O,by omega⟩
  refine ay O (ay O (ay O (ay O (ay O (ay O (az O ?_))))));refine Cd.dZ O (aD O (aK O (aS O (tQ ?_))));exact⟨i+1,by omega,(ajz O),O,by omega⟩
 refine bo O (bn (cJ O (ba O O (bD O ?_))));refine ck O ?_;exact⟨by rw [eC (by omega)],O⟩
theorem adO(letters:Int)(A:ai)(n c:Nat)(ws:ah)(w:aa)(hR:bt w A n ws)(eL:0<=letters/\letters<=1000)(hn:n<=64)(hw:∀x∈ws,0<=x/\x<letters):
 aG prog 194 [aj letters,.slice A n c] w (fun v w'=>v= .bool true/\w'=w):=by
 have nI:=hR.1;refine bw func194 O ntmps194 O (b7 O) (b8 O ?_);refine Cd.loop (α:=Nat) (fun i=> [(0,aj letters),(1,.slice A n c),(5,aj i)]) (fun i w'=>w'=w/\i<=n) (fun i=>n - i) 0 (ajz O) ⟨O,bu _⟩ ?_;rintro i e w1 ⟨rfl,hi⟩;refine bb O (ba O O (az O ?_));refine aM _ O (fun h1=>?_) (fun h1=>?_)
 ·have hx:=hw (gi ws i) (by rw [bX (by omega)];exact fe _);refine aD O (aA hR.2 O (aY hR O ?_));refine aq O (dq O ?_);refine aF (oC _ _ _ _) O ?_;rintro _ w2 ⟨rfl,rfl⟩
  first | refine de rfl rfl ?_ | refine dV rfl rfl ?_
  refine az O (gV O (fun h=>h (by omega)) (aD O (aK O (aS O (tQ ?_)))));exact⟨i+1,by omega,(ajz O),O,by omega⟩
 refine bo O (bn (cJ O (ba O O (bD O ?_))));refine ck O ?_;exact⟨by rw [eC (by omega)],O⟩
def wz(letters:Int)(least:Nat)(wc:ag):Prop:=wc.length<=24/\∀ws∈wc,least<=ws.length/\ws.length<=64/\∀x∈ws,0<=x/\x<letters
instance (letters:Int)(least:Nat)(wc:ag):Decidable (wz letters least wc):=by unfold wz;exact inferInstance
theorem R5(letters:Int)(least:Nat)(A:ai)(n c:Nat)(rs:List aX)(wc:ag)(w:aa)(hR:bL w A n rs wc)(eL:0<=letters/\letters<=1000)(hle:least<=1)(hW:wz letters least wc):
 aG prog 151 [aj letters,.slice A n c,aj least] w (fun v w'=>v= .bool true/\w'=w):=by
 have nI:=hR.len;have hn:=hW.1;refine bw func151 O ntmps151 O (b7 O) (b8 O ?_);refine Cd.loop (α:=Nat) (fun i=> [(0,aj letters),(1,.slice A n c),(2,aj least),(7,aj i)]) (fun i w'=>w'=w/\i<=n) (fun i=>n - i) 0 (ajz O) ⟨O,bu _⟩ ?_;rintro i e w1 ⟨rfl,hi⟩;refine bb O (ba O O (az O ?_));refine aM _ O (fun h1=>?_) (fun h1=>?_)
 ·have bM:=hR.at_ (i:=(i:Int)) (by omega) (by omega);have hx:=hW.2 (gl wc i) (by rw [fm (by omega)];exact fe _);have bT:=bM.1;refine aD O (aA hR.top.2 O (bQ hR.top O (aF (adO letters _ _ _ (gl wc i) _ bM eL (by omega) hx.2.2) O ?_)));rintro _ w2 ⟨rfl,rfl⟩
  first | refine de rfl rfl ?_ | refine dV rfl rfl ?_
  refine aq O (ak.split 21 O (fun h=>absurd h (by decide)) (fun _=>?_));refine au O (aq O (au O (aq O (au O ?_))));refine aA hR.top.2 O (au O (bQ hR.top O ?_));refine au O (ba O O (au O (aq O (au O (az O ?_)))));refine gV O (by omega) (aD O (aK O (aS O (tQ ?_))));exact⟨i+1,by omega,(ajz O),O,by omega⟩
 refine bo O (bn (cJ O (ba O O (bD O ?_))));refine ck O ?_;exact⟨by rw [eC (by omega)],O⟩
theorem adK(bY:Nat)(Ar:ai)(nr cr:Nat)(kr:List aX)(rel:ag)(w:aa)(hR:bL w Ar nr kr rel)(hg:1<=bY/\bY<=5)(hW:wz bY 1 rel):
 aG prog 150 [.agg #[aj bY,.slice Ar nr cr]] w (fun v w'=>v= .bool true/\St w w' []):=by
 refine bw func150 O ntmps150 O (b7 O) (bb O (wu (St.refl w) O O ?_));intro A1 w1 aC;refine aq O (aI (aC.rd 0 O) O (fL (aC.rd 0 O) O O O O O (aF (oC _ _ _ _) O ?_)));rintro _ w2 ⟨rfl,rfl⟩;refine aq O (cz 6 O (fun _=>?_) (fun h=>absurd (by omega) h));refine au O (aI (aC.rd 0 O) O (au O (fL (aC.rd 0 O) O O O O O (au O (aI (aC.rd 0 O) O (au O (aV (aC.rd 0 O) O (au O ?_))))))));refine aF (R5 bY 1 Ar nr cr kr rel _ (aC.cV hR) (by omega) (by decide) hW) O ?_;rintro _ w2 ⟨rfl,rfl⟩;refine bD O (ck O ?_);exact⟨O,aC.none⟩
theorem adJ(bY:Nat)(Ar:ai)(nr cr:Nat)(kr:List aX)(rel:ag)(w:aa)(hR:bL w Ar nr kr rel)(hg:1<=bY/\bY<=5)(hW:wz bY 1 rel):
 aG prog 94 [.agg #[aj bY,.slice Ar nr cr],.slice none 0 0] w (fun v w'=>v=aj 0/\St w w' []):=by
 refine bw func94 O ntmps94 O (b7 O) (bb O (wu (St.refl w) O O ?_));intro A1 w1 aC;refine aq O (bI 1 (aC.rd 0 O) O O O (aF (adK bY Ar nr cr kr rel _ (aC.cV hR) hg hW) O ?_));rintro _ w2 ⟨rfl,ax⟩;have aE:=aC.ao ax.below
 first | refine de rfl rfl ?_ | refine dV rfl rfl ?_
 refine aq O (ak.split 8 O (fun h=>absurd h (by decide)) (fun _=>?_));refine au O (aI (aE.rd 0 O) O (au O (fL (aE.rd 0 O) O O O O O ?_)));refine au O (aq O (au O ?_));refine aF (R5 bY 0 none 0 0 [] [] _ (bL.nil _) (by omega) (by decide) ⟨by decide,fun x hx=> (nomatch hx)⟩) O ?_;rintro _ w3 ⟨rfl,rfl⟩;refine au O ?_
 first | refine de rfl rfl ?_ | refine dV rfl rfl ?_
 refine az O (Cd.dZ O (dB O (iY O ?_)));exact⟨O,aE.none⟩
structure VB(w0:aa)(A2 A4:ai)(bY:Nat)(Ar:ai)(nr cr:Nat)(rel:ag)(S:Nat->Bool)(e:Env)(w:aa):Prop where
 f1:e 1= .slice none 0 0
 f2:e 2= .pointer A2
 f4:e 4= .pointer A4
 p0:S 0=true->e 16= .pointer (aB A2 0)
 p1:S 1=true->e 17=aj bY
 p2:S 2=true->e 18= .pointer (aB A2 1)
 p3:S 3=true->e 19= .slice Ar nr cr
 mem:∃(B:ai) (cB:Nat) (nV:List aX) (M bs:List Ck) (Ad:ai),(S 4=false->M=[])/\(S 4=true->e 20= .slice B nr cB/\nV.length=nr/\M=aU 24 2 B nr cB nV rel)/\(S 5=true->e 21= .agg #[aj bY,.slice B nr cB])/\(S 6=false->bs=[])/\(S 6=true->e 7= .pointer Ad/\((S 7=false/\bs=[Bx 36 2 Ad [aj 0,.slice none 0 0]])\/(S 7=true/\bs=[Bx 36 2 Ad [aj bY,.slice B nr cB]])))/\
  St w0 w (bs++ (M++ [Bx 36 2 A4 [aj 0,.slice none 0 0],Bx 36 2 A2 [aj bY,.slice Ar nr cr]]))
theorem VA(bY:Nat)(Ar:ai)(nr cr:Nat)(kr:List aX)(rel:ag)(w:aa)(hR:bL w Ar nr kr rel)(hg:1<=bY/\bY<=5)(hW:wz bY 1 rel):
 aG prog 42 [.agg #[aj bY,.slice Ar nr cr],.slice none 0 0] w (fun v w'=>∃B cB nV,v= .tuple #[.agg #[aj bY,.slice B nr cB],aj 0]/\nV.length=nr/\St w w' (aU 24 2 B nr cB nV rel)):=by
 have bT:=hR.len;have rK:=hW.1;refine bw func42 O ntmps42 O (tm O O) (bb O (wu (St.refl w) O O ?_));intro A2 w1 aC;refine sK aC O fun A4 w2 aE=>aq O (bI 1 (aE.rd 1 O) O O O (aq O (aF (adJ bY Ar nr cr kr rel _ (aE.cV hR) hg hW) O ?_)));rintro _ w3 ⟨rfl,ax⟩;have aH:=aE.ao ax.below;refine az O (gV O (fun h=>h O) (cW O (oO (by kernel_rfl) (by kernel_rfl) (fun S e1 w1=>VB w A2 A4 bY Ar nr cr rel S e1 w1) (fun w4 hb=> ⟨O,O,O,fun h=> (nomatch h),fun h=> (nomatch h),fun h=> (nomatch h),fun h=> (nomatch h),none,0,[],[],[],none,fun _=>O,fun h=> (nomatch h),fun h=> (nomatch h),fun _=>O,fun h=> (nomatch h),aH.ao hb⟩) ?_ ?_)))
 ·intro S k o e1 w4 hk aO hd bE hI;obtain⟨f1,f2,f4,p0,p1,p2,p3,B,cB,nV,M,bs,Ad,m0,m1,m2,m3,m4,hT⟩:=hI;have wW:bL w4 Ar nr kr rel:=hT.cV hR;have tW:Rd w4 A2 2 (fun j=> [Value.int .i64 (bY:Int),.slice Ar nr cr].getD j undef):=(((hT.sub (dz _ _)).sub (dz _ _))).rd 1 O
  match k,hk,aO with
  | 0,hk,aO=>
   obtain rfl:=bj hk;refine ajs tW (by exact f2) O O O inferInstance (ak.n ?_);exact⟨f1,f2,f4,fun _=>O,p1,p2,p3,B,cB,nV,M,bs,Ad,m0,m1,m2,m3,m4,hT⟩
  | 1,hk,aO=>
   obtain rfl:=bj hk;refine fL tW (by exact p0 (aZ hd 0 O)) O O O O (ak.n ?_);exact⟨f1,f2,f4,p0,fun _=>O,p2,p3,B,cB,nV,M,bs,Ad,m0,m1,m2,m3,m4,hT⟩
  | 2,hk,aO=>
   obtain rfl:=bj hk;refine ajs tW (by exact f2) O O O inferInstance (ak.n ?_);exact⟨f1,f2,f4,p0,p1,fun _=>O,p3,B,cB,nV,M,bs,Ad,m0,m1,m2,m3,m4,hT⟩
  | 3,hk,aO=>
   obtain rfl:=bj hk;refine ajt tW (by exact p2 (aZ hd 2 O)) O O O O (ak.n ?_);exact⟨f1,f2,f4,p0,p1,p2,fun _=>O,B,cB,nV,M,bs,Ad,m0,m1,m2,m3,m4,hT⟩
  | 4,hk,aO=>
   obtain rfl:=bj hk;have hM:=m0 aO;subst hM;have n5:S 5=false:=by
    cases h:S 5 with
    | false=>rfl
    | true=>rw [<-aO];exact(aZ (bE 5 _ h rfl) 4 rfl).symm
   have n7:S 7=false:=by
    cases h:S 7 with
    | false=>rfl
    | true=>rw [<-n5];exact(aZ (bE 7 _ h rfl) 5 rfl).symm
   refine ajq (adu Ar nr cr kr rel _ wW (by omega) (fun j hj=>by
    have bM:=hR.at_ (i:=(j:Int)) (by omega) (by omega);have h1:=(hW.2 (gl rel j) (by rw [fm (by omega)];exact fe _)).2.1;have h2:=bM.1;have e:rg kr j=kr.getD j bW:=by simp [rg]
    rw [<-e];omega)) rfl (by exact aL (fun v=> [v]) (p3 (aZ hd 3 rfl))) rfl ?_
   rintro _ w5 ⟨B',c',rs',rfl,nL,qW⟩;refine ak.n ?_;refine⟨f1,f2,f4,p0,p1,p2,p3,B',c',rs',_,bs,Ad,fun h=> (nomatch (show true=false from h)),fun _=> ⟨O,nL,O⟩,fun h=> (nomatch n5.symm.trans h),m3,fun h=>?_,?_⟩
   ·obtain⟨h7,h8⟩:=m4 h;refine⟨h7,.inl ⟨n7,?_⟩⟩;rcases h8 with h8 | h8
    ·exact h8.2
    ·exact(nomatch n7.symm.trans h8.1)
   ·have h9:=hT.call qW;have h9:St w w5 (aU 24 2 B' nr c' rs' rel++ (bs++ [Bx 36 2 A4 [aj 0,.slice none 0 0],Bx 36 2 A2 [aj bY,.slice Ar nr cr]])):=h9;exact h9.np
  | 5,hk,aO=>
   obtain rfl:=bj hk;obtain⟨tV,Q0,hM⟩:=m1 (aZ hd 4 rfl);refine CC (by exact inferInstance) (by exact inferInstance) O O (by exact p1 (aZ hd 1 O)) (by exact tV) O O O (ak.n ?_);exact⟨f1,f2,f4,p0,p1,p2,p3,B,cB,nV,M,bs,Ad,m0,m1,fun _=>O,m3,m4,hT⟩
  | 6,hk,aO=>
   obtain rfl:=bj hk;have nE:=m3 aO;subst nE;have n7:S 7=false:=by
    cases h:S 7 with
    | false=>rfl
    | true=>rw [<-aO];exact(aZ (bE 7 _ h rfl) 6 rfl).symm
   refine sK hT O fun Ae w5 dW=>ak.n ?_;exact⟨f1,f2,f4,p0,p1,p2,p3,B,cB,nV,M,[Bx 36 2 Ae [aj 0,.slice none 0 0]],Ae,m0,m1,m2,fun h=> (nomatch (show true=false from h)),fun _=> ⟨O,.inl ⟨n7,O⟩⟩,dW⟩
  | 7,hk,aO=>
   obtain rfl:=bj hk;have Rf:=aZ hd 6 O;obtain⟨h7,h8⟩:=m4 Rf;rcases h8 with⟨_,rfl⟩ | h8
   ·refine bS 2 0 hT O (by exact h7) (by exact m2 (aZ hd 5 O)) O O O O ?_;intro w5 dW;exact ak.n ⟨f1,f2,f4,p0,p1,p2,p3,B,cB,nV,M,[Bx 36 2 Ad [aj bY,.slice B nr cB]],Ad,m0,m1,m2,fun h=> (nomatch Rf.symm.trans h),fun _=> ⟨h7,.inr ⟨O,O⟩⟩,dW⟩
   ·exact(nomatch aO.symm.trans h8.1)
  | q+8,hk,_=>exact(nomatch hk)
 ·intro S e1 w4 cO hI;obtain⟨f1,f2,f4,p0,p1,p2,p3,B,cB,nV,M,bs,Ad,m0,m1,m2,m3,m4,hT⟩:=hI;obtain⟨h7,h8⟩:=m4 (cO 6 (by decide));rcases h8 with h8 | ⟨_,rfl⟩
  ·exact(nomatch (cO 7 (by decide)).symm.trans h8.1)
  obtain⟨_,Q0,hM⟩:=m1 (cO 4 (by decide));subst hM;refine yf (F:=[(1,.slice none 0 0),(2,.pointer A2),(4,.pointer A4),(7,.pointer Ad)]) ⟨f1,f2,f4,h7,aw⟩ ?_;have hT:=(hT:St w w4 ([Bx 36 2 Ad [aj bY,.slice B nr cB]]++ (aU 24 2 B nr cB nV rel++ [Bx 36 2 A4 [aj 0,.slice none 0 0],Bx 36 2 A2 [aj bY,.slice Ar nr cr]])));have mq:St w w4 ([Bx 36 2 Ad [aj bY,.slice B nr cB],Bx 36 2 A4 [aj 0,.slice none 0 0],Bx 36 2 A2 [aj bY,.slice Ar nr cr]]++aU 24 2 B nr cB nV rel):=hT.perm (List.Perm.cons _ (iK (l₂:=[_,_])));refine fv O (Cd.loop (α:=Unit) (fun _=> [(1,.slice none 0 0),(4,.pointer A4),(7,.pointer Ad),(8,aj 0)]) (fun _ w'=>w'=w4) (fun _=>0) () (ajz O) O ?_);rintro⟨⟩ e w5 rfl;refine bb O (ba O O (az O ?_));refine gV O (by decide) (bo O (bn (cJ O ?_)));refine aI (mq.rd 0 O) O (aV (mq.rd 0 O) O ?_);refine ba O O (az O ?_);refine gV O (by omega) (aD O (bI 1 (mq.rd 0 O) O O O (bS 2 1 mq O O O O O O O ?_)));intro w6 eJ;refine bD O (mH O (eJ.rd 1 O) O ?_);exact⟨B,cB,nV,O,Q0,((eJ.sub ((dY _).cons _)).sub ((dY _).cons _)).sub ((dY _).cons _)⟩
def Uk(L:ag)(K:Int)(w:aa)(v:ab)(w':aa):Prop:=∃A c,∃rs:List aX,v= .tuple #[.agg #[.slice A L.length c],aj K]/\rs.length=L.length/\St w w' (aU 24 2 A L.length c rs L)
theorem R4(bY:Nat)(Ar:ai)(nr cr:Nat)(kr:List aX)(rel:ag)(T:ag)(w:aa)(hR:bL w Ar nr kr rel)(sg:∀x∈rel,x.length<=1000000)(s7:nr<=1000000)(hp:Cc bY rel=some T)(wX:0<T.length)(hT4:(gl T 0).length<=400):
 aG prog 44 [.agg #[aj bY,.slice Ar nr cr],.slice none 0 0] w (fun v w'=>∃A c rs,v= .tuple #[.slice A T.length c,aj 0]/\rs.length=T.length/\St w w' (aU 24 2 A T.length c rs T)):=by
 refine bw func44 O ntmps44 O (oF O) (bb O (wu (St.refl w) O O ?_));intro A2 w1 aC;refine aq O (bI 1 (aC.rd 0 O) O O O (aq O (aF (adN bY Ar nr cr kr rel T _ (aC.cV hR) sg s7 hp) O ?_)));rintro _ w2 ⟨A,c,rs,rfl,bT,ax⟩;have aE:=aC.call ax;have yD:bL w2 A T.length rs T:=St.eU aE O;have kq:=yD.at_ (i:=0) (Int.le_refl _) (by omega);have nK:=kq.1;refine aq O ?_
 first | refine de rfl rfl ?_ | refine dV rfl rfl ?_
 refine aq O (ak.split 16 O (fun h=>absurd h (by decide)) (fun _=>?_));refine au O (aq O (au O ?_));refine aA yD.top.2 O (au O (aju (i:=0) yD.top O (by omega) O O ?_));refine au O (ba O O (au O (az O ?_)));refine gV O (by omega) (dB O (rh O O ?_));exact⟨A,c,rs,O,bT,aE.sub (lQ _ _)⟩
structure HG(labels:ah)(T:ag):Prop where
 len:labels.length<5
 bG:∀x∈labels,x=0\/(2<=x/\x<=32)
 words:wz ((labels.length+1:Nat):Int) 1 (ie labels)
 tab:Cc (labels.length+1) (ie labels)=some T
 Lg:dm T
theorem Tw(Al:ai)(nl cl:Nat)(labels:ah)(T:ag)(w:aa)(hR:bt w Al nl labels)(hU:HG labels T):
 aG prog 9 [.slice Al nl cl,.slice none 0 0] w (Uk T 0 w):=by
 obtain⟨u1,u2,u3,u4,u5⟩:=hU;have nI:=hR.1;have dW:=u5.1;have hT40:=u5.2.1;rw [nI]at u1 u3 u4;refine bw func9 O ntmps9 O (tm O O) (bb O (jN (St.refl w) O ?_));intro A4 w1 aC;refine aq O (aF (KZ Al nl cl labels _ (aC.b9 hR) u1 u2) O ?_);rintro _ w2 ⟨rfl,rfl⟩
 first | refine de rfl rfl ?_ | refine dV rfl rfl ?_
 refine az O (Cd.dZ O (aD O ?_));refine aF (R8 Al nl cl labels _ (aC.b9 hR) (by omega) (fun x hx=>by have:=u2 x hx;omega)) O ?_;rintro _ w3 ⟨B,c,rs,rfl,bT,DV⟩;have aH:=aC.call DV;have ZJ:bL w3 B (ie labels).length rs (ie labels):=St.eU aH O;have aaK:((nl:Int)+1)=((nl+1:Nat):Int):=by omega
 rw [aaK];refine aq O (aF (VA (nl+1) B (ie labels).length c rs (ie labels) _ ZJ (by omega) u3) O ?_);rintro _ w4 ⟨B2,c2,pe,rfl,Q8,nN⟩;have aQ:=aH.call nN;refine aq O (sK aQ O ?_);intro A6 w5 a8;refine bS 2 0 a8 O O O O O O O ?_;intro w6 bg;have bg:St w w6 (Bx 36 2 A6 [aj ((nl+1:Nat):Int),.slice B2 (ie labels).length c2]::(aU 24 2 B2 (ie labels).length c2 pe (ie labels)++ (aU 24 2 B (ie labels).length c rs (ie labels)++ [Bx 31 1 A4 [.slice none 0 0]]))):=bg;have ZK:bL w6 B2 (ie labels).length pe (ie labels):=St.eU bg.tail O;refine az O (gV O (fun h=>h O) (aD O (bI 1 (bg.rd 0 O) O O O ?_)));refine aF (R4 (nl+1) B2 (ie labels).length c2 pe (ie labels) T _ ZK (fun x hx=>by have:=(u3.2 x hx).2.1;omega) (by have:=u3.1;omega) u4 (by omega) (by omega)) O ?_;rintro _ w7 ⟨A,cA,zr,rfl,abR,za⟩;have bl:=bg.call za;have yD:bL w7 A T.length zr T:=St.eU bl O;have kq:=yD.at_ (i:=0) (Int.le_refl _) (by omega);have nK:=kq.1;refine aq O (cz 33 O (fun h=>absurd O h) (fun _=>?_));refine au O (aq O (au O ?_));refine aA yD.top.2 O (au O (aju (i:=0) yD.top O (by omega) O O ?_));refine au O (ba O O (au O (az O ?_)));refine gV O (by omega) (aD O (EN (by exact inferInstance) O O O O (jN bl O ?_)));intro du w8 bK;refine bS 1 0 bK O O O O O O O ?_;intro w9 bh;have bh:St w w9 (Bx 31 1 du [.slice A T.length cA]::(aU 24 2 A T.length cA zr T++ (Bx 36 2 A6 [aj ((nl+1:Nat):Int),.slice B2 (ie labels).length c2]::(aU 24 2 B2 (ie labels).length c2 pe (ie labels)++ (aU 24 2 B (ie labels).length c rs (ie labels)++ [Bx 31 1 A4 [.slice none 0 0]]))))):=bh;have ZG:bL w9 A T.length zr T:=St.eU bh.tail O;refine aq O (bI 0 (bh.rd 0 O) O O O (aF (Gz A T.length cA zr T _ ZG (by omega)) O ?_));rintro _ dA ⟨rfl,ab3⟩;have cj:=bh.ao ab3.below;have eI:St w dA ([Bx 31 1 du [.slice A T.length cA],Bx 31 1 A4 [.slice none 0 0]]++aU 24 2 A T.length cA zr T):=by
  have h1:St w dA (Bx 31 1 du [.slice A T.length cA]::(aU 24 2 A T.length cA zr T++ [Bx 31 1 A4 [.slice none 0 0]])):=
   cj.sub (List.Sublist.cons_cons _ (List.Sublist.append_left (((dz _ _).trans (dz _ _)).cons _) _))
  exact h1.perm (List.Perm.cons _ (iK (l₂:=[_])))
 first | refine de rfl rfl ?_ | refine dV rfl rfl ?_
 refine az O (gV O (fun h=>h u5) (aD O (bI 0 (eI.rd 0 O) O O O (bS 1 1 eI O O O O O O O ?_))));intro fY eo;refine bD O (mH O (eo.rd 1 O) O ?_);exact⟨A,cA,zr,O,abR,(eo.sub ((dY _).cons _)).sub ((dY _).cons _)⟩
section
variable {P:Program} {N:Nat} {ops:Array Oper} {K:Env->aa->Prop} {rest:List Oper} {e:Env} {w:aa} {d:Nat} {ty:ad} {pos:String} {af:Array Edge} {x y:ae} {xt yt:ad}
theorem SD:∀a:Nat,a<4->∀b:Nat,b<4->bits .or .i64 (a:Int) (b:Int)=((a ||| b:Nat):Int)/\a ||| b<4:=by decide
theorem HB{a b:Nat}(hx:ev e x=aj a)(hy:ev e y=aj b)(ha:a<=3)(AW:b<=3)(hb:Nat.blt d N=true)(hK:∀r:Nat,r<=3->ak P N ops K rest (bC e d (aj r)) w):
 ak P N ops K (⟨some d,.binOp .or xt x y yt,ty,pos,af,none⟩::rest) e w:=
 .val (by simp only [execOp,hx,hy,eqGuard,binOp,intBits_or,(SD a (by omega) b (by omega)).1];simp) hb (hK (a ||| b) (by have:=(SD a (by omega) b (by omega)).2;omega))
theorem VV:∀a:Nat,a<4->∀b:Nat,b<4->bits .andNot .i64 (a:Int) (b:Int)=((a &&& (3 - b):Nat):Int):=by decide
theorem US{a b:Nat}(hx:ev e x=aj a)(hy:ev e y=aj b)(ha:a<=3)(AW:b<=3)(hb:Nat.blt d N=true)(hK:ak P N ops K rest (bC e d (aj ((a &&& (3 - b):Nat):Int))) w):
 ak P N ops K (⟨some d,.binOp .andNot xt x y yt,ty,pos,af,none⟩::rest) e w:=
 .val (by simp only [execOp,hx,hy,eqGuard,binOp,intBits_andNot,VV a (by omega) b (by omega)];simp) hb hK
end
theorem zi(A:ai)(c:Nat)(w:aa):aG prog 237 [.slice A 1 c] w (fun v w'=>v=aj 3/\w'=w):=by
 refine bw func237 O ntmps237 O (b7 O) (bb O (aF (xJ A 1 c w (by omega)) O ?_));rintro _ w1 ⟨rfl,rfl⟩;refine lV O O (nX _ (by omega)) (MQ (i:=2) O O (by omega) O ?_);refine dq O (bD O ?_);exact iY O ⟨O,O⟩
theorem R9(s:Nat)(w:aa)(hs:s<=3):aG prog 240 [aj s] w (fun v w'=> (∃r:Nat,v=aj r/\r<=6/\(s=0->r=0))/\w'=w):=by
 refine bw func240 O ntmps240 O (b7 O) (b8 O ?_);refine Cd.loop (α:=Nat×Nat) (fun z=> [(0,aj (z.1:Int)),(3,aj (z.2:Int))]) (fun z w'=>z.1<=3/\z.2+z.1<=s/\(s=0->z.2=0)/\w'=w) (fun z=>z.1) (s,0) (ajz O) ⟨hs,by omega,fun _=>O,O⟩ ?_;rintro⟨k,r⟩ e w1 ⟨hk,hr,h0,rfl⟩;dsimp only at hk hr h0|-;refine b8 O (aM _ O (fun h1=>?_) (fun h1=>?_))
 ·refine aD O (ob O O O (by omega) ?_);refine aK O (aq O ?_);refine ak.quo O O O (by omega) (aS O (tQ ?_));exact⟨(k / 2,r+k%2),by show k / 2<k;omega,⟨O,aL (Value.int .i64) (by show(r:Int)+ (k:Int)%2=((r+k%2:Nat):Int);omega),aw⟩,by show k / 2<=3;omega,by show r+k%2+k / 2<=s;omega,fun h=>by show r+k%2=0;have:=h0 h;omega,O⟩
 refine bo O (bn (eG O ?_));refine iY O ?_;exact⟨⟨r,O,by omega,h0⟩,O⟩
theorem Sb(A:ai)(c:Nat)(s t:Nat)(w:aa)(hR:bt w A 1 [3])(hs:s<=3)(ht:t<=3):aG prog 265 [.slice A 1 c,aj s,aj t] w (fun v w'=> (∃b:Bool,v= .bool b/\(s=0->b=true))/\w'=w):=by
 refine bw func265 O ntmps265 O (b7 O) (b8 O ?_);refine Cd.loop (α:=Nat×Bool×Bool) (fun z=> [(0,.slice A 1 c),(1,aj s),(2,aj t),(7,.bool z.2.1),(8,.bool z.2.2),(9,aj (z.1:Int))]) (fun z w'=>z.1<=2/\(s=0->z.2.1=true/\z.2.2=true)/\w'=w) (fun z=>2 - z.1) (0,true,true) (ajz O) ⟨by decide,fun _=> ⟨O,O⟩,O⟩ ?_;rintro⟨i,g,r⟩ e w1 ⟨hi,h0,rfl⟩;dsimp only at hi h0|-;refine bb O (aF (xJ A 1 c w1 (by omega)) O ?_);rintro _ w2 ⟨rfl,rfl⟩;refine az O (aM _ O (fun h1=>?_) (fun h1=>?_))
 ·have dI:i<2:=by omega
  refine aD O (lV O O (nX _ (by omega)) (uX O O (by omega) (by omega) O (uU O O (iS (Nat.div_le_self _ _) (by omega)) O (az O ?_))));refine aM _ O (fun h2=>?_) (fun h2=>?_)
  ·refine aD O (aK O (aS O (tQ ?_)));exact⟨(i+1,g,r),by show 2 - (i+1)<2 - i;omega,⟨O,O,O,O,O,aL (Value.int .i64) (by omega),aw⟩,by show i+1<=2;omega,h0,O⟩
  have oz:s≠0:=by
   rintro rfl;simp at h2
  refine wm 1 O (nq (α:=Bool×Bool) (fun z=> [(0,.slice A 1 c),(1,aj s),(2,aj t),(7,.bool z.1),(8,.bool z.2),(9,aj i)]) (fun _ w'=>w'=w2) ?_ ?_)
  ·refine bb O (cz 24 O (fun h3=>?_) (fun h3=>?_))
   ·refine ay O (ay O (ay O (ay O (ay O (ay O (ay O (aq O (ay O (ay O (ay O (ay O ?_)))))))))));refine ay O (ay O (az O ?_));refine Cd.eH O (aD O ?_);refine ak.split 42 O (fun h4=>?_) (fun h4=>?_)
    ·refine au O (aS O (tQ ?_));exact⟨(_,_),(ajz O),O⟩
    refine ay O (aS O (tQ ?_));exact⟨(_,_),(ajz O),O⟩
   have kE:i=1:=by omega
   subst kE;refine au O (aq O (au O (aq O (au O (dq O (au O ?_))))));refine lV O O (nX _ (by omega)) (au O (uX (m:=s) (i:=0) O O (by omega) (by omega) O (au O (uU O O (iS (Nat.div_le_self _ _) (by omega)) O ?_))));refine au O (aq O ?_);refine cz 33 O (fun h4=>?_) (fun h4=>?_)
   ·refine ay O (ay O (ay O (ay O (ay O (ay O (az O ?_))))));refine Cd.eH O (aD O ?_);refine ak.split 42 O (fun h5=>?_) (fun h5=>?_)
    ·refine au O (aS O (tQ ?_));exact⟨(_,_),(ajz O),O⟩
    refine ay O (aS O (tQ ?_));exact⟨(_,_),(ajz O),O⟩
   refine au O (aq O (au O (aq O (au O (dq O (au O ?_))))));refine ajn (i:=0) hR.2 O O O (by omega) (by omega) (au O ?_);refine ajo (i:=0) hR O (by decide) O O (au O (az O ?_));refine aM _ O (fun h5=>?_) (fun h5=>?_)
   ·refine aD O (ak.split 42 O (fun h6=>?_) (fun h6=>?_))
    ·refine au O (aS O (tQ ?_));exact⟨(_,_),(ajz O),O⟩
    refine ay O (aS O (tQ ?_));exact⟨(_,_),(ajz O),O⟩
   refine mN O (tQ ?_);exact⟨(_,_),(ajz O),O⟩
  rintro⟨g2,r2⟩ e3 w3 rfl;dsimp only;refine aD O (ak.split 46 O (fun h3=>?_) (fun h3=>?_))
  ·refine ay O (ay O (ay O (ay O (ay O (ay O (aq O (aK O (aS O (tQ ?_)))))))));exact⟨(i+1,g2,true),by show 2 - (i+1)<2 - i;omega,⟨O,O,O,O,O,aL (Value.int .i64) (by omega),aw⟩,by show i+1<=2;omega,fun h=>absurd h oz,O⟩
  refine au O (aq O (au O (aq O (au O ?_))));refine lV O O (nX _ (by omega)) (au O (uX (m:=t) (i:=i) O O (by omega) (by omega) O (au O (uU O O (iS (Nat.div_le_self _ _) (by omega)) O ?_))));refine au O (aq O (aK O (aS O (tQ ?_))));exact⟨(i+1,g2,_),by show 2 - (i+1)<2 - i;omega,⟨O,O,O,O,O,aL (Value.int .i64) (by omega),aw⟩,by show i+1<=2;omega,fun h=>absurd h oz,O⟩
 refine bo O (bn (cJ O ?_));refine ak.split 55 O (fun h3=>?_) (fun h3=>?_)
 ·refine au O (bD O ?_);exact ck O ⟨⟨_,O,fun h=> (h0 h).2⟩,O⟩
 refine ay O (bD O ?_);refine ck O ?_;exact⟨⟨_,O,fun h=>absurd (h0 h).1 (by rw [h3];decide)⟩,O⟩
def Ct(L:ah):Prop:=∀d∈L,d=2\/d=3
def Vs(L:ag):Prop:=L.length<=2/\∀r∈L,r=[]\/r=[3]
theorem R6(A:ai)(n c:Nat)(x:ah)(w:aa)(hx:x=[]\/x=[3])(hR:bt w A n x):aG prog 282 [.slice A n c] w (fun v w'=>∃A' c' L,v= .slice A' L.length c'/\Ct L/\1<=L.length/\L.length<=2/\St w w' [ar 2 A' L.length c' L]):=by
 obtain rfl:=hR.1;have di:x.length<=1:=by rcases hx with rfl | rfl<;>decide
 refine bw func282 O ntmps282 O (b7 O) ?_;refine bb O (ba O O (aK O (az O ?_)));rcases hx with rfl | rfl
 ·
  refine ya O (by decide) (aD O (dE (St.refl w) O O O ?_));intro A1 w1 aC;refine bD O (fb O ?_);exact⟨A1,1,[2],O,(fun d hd=> .inl (dK.1 hd)),by decide,by decide,aC⟩
 refine gV O (by decide) (aD O ?_);refine cz 19 O (fun _=>?_) (fun h=>absurd (show((1:Nat):Int)+1=2 by decide) h);refine au O (aq O (au O ?_));refine ajn (i:=0) hR.2 O O O (by decide) (by decide) (au O (ajo (i:=0) hR O (by decide) O O (au O (az O ?_))));refine ya O (by decide) (aD O (ajn (i:=0) hR.2 O O O (by decide) (by decide) (ajo (i:=0) hR O (by decide) O O (lj [2,3] (St.refl w) O O (by decide) (by decide) O O fun A1 w1 aC=>bD O (fb O ?_)))));exact⟨A1,2,[2,3],O,(fun d hd=>by simpa using hd),by decide,by decide,aC⟩
theorem R7(A:ai)(c:Nat)(s:Nat)(w:aa)(hR:bt w A 1 [3])(hs:s<=3):aG prog 281 [.slice A 1 c,aj s] w (fun v w'=>∃A' c' rs L,v= .slice A' L.length c'/\Vs L/\rs.length=L.length/\St w w' (aU 24 2 A' L.length c' rs L)):=by
 refine bw func281 O ntmps281 O (b7 O) (bb O (fZ (St.refl w) O ?_));intro A5 w1 aC;have aC:St w w1 (aU 24 2 A5 0 0 [] []):=aC;refine az O ?_;refine Cd.loop (α:=Nat×(ai×Nat)×List aX×ag) (fun z=> [(0,.slice A 1 c),(1,aj s),(5,.slice z.2.1.1 z.2.2.2.length z.2.1.2),(6,aj (z.1:Int))]) (fun z w'=>z.1<=2/\z.2.2.2.length<=z.1/\(∀r∈z.2.2.2,r=[]\/r=[3])/\z.2.2.1.length=z.2.2.2.length/\(z.1=1->s%2=1->z.2.2.2=[[]]/\∃Ar,z.2.2.1=[⟨Ar,0,0⟩])/\St w w' (aU 24 2 z.2.1.1 z.2.2.2.length z.2.1.2 z.2.2.1 z.2.2.2)) (fun z=>2 - z.1) (0,(A5,0),[],[]) ⟨rfl,rfl,rfl,rfl,aw⟩ ⟨bu _,dC _,(fun _ h=>by cases h),rfl,(fun h=>by cases h),aC⟩ ?_;clear aC;rintro⟨i,⟨A5,c5⟩,rs,L⟩ e w2 ⟨hi,nD,hL,bT,h1,hS⟩;dsimp only at hi nD hL bT h1 hS|-;refine bb O (aF (xJ A 1 c w2 (by omega)) O ?_);rintro _ w3 ⟨rfl,rfl⟩;refine az O (aM _ O (fun h2=>?_) (fun h2=>?_))
 ·have dI:i<2:=by omega
  have jf:=hS.b9 hR;refine aD O (lV O O (nX _ (by omega)) (uX O O (by omega) (by omega) O (uU O O (iS (Nat.div_le_self _ _) (by omega)) O (az O ?_))));refine aM _ O (fun h3=>?_) (fun h3=>?_)
  ·refine aD O (aK O (aS O (tQ ?_)));exact⟨(i+1,(A5,c5),rs,L),by show 2 - (i+1)<2 - i;omega,⟨O,O,O,aL (Value.int .i64) (by omega),aw⟩,by show i+1<=2;omega,by show L.length<=i+1;omega,hL,bT,(fun h4 h5=>by
    have h4:i+1=1:=h4;obtain rfl:i=0:=by omega
    rw [Nat.pow_zero,Nat.div_one]at h3;omega),hS⟩
  refine wm 1 O (nq (α:=Unit) (fun _=> [(0,.slice A 1 c),(1,aj s),(5,.slice A5 L.length c5),(6,aj i)]) (fun _ w'=>w'=w3/\(i=1->s%2=0)) ?_ ?_)
  ·refine bb O (cz 23 O (fun h4=>?_) (fun h4=>?_))
   ·obtain rfl:i=1:=by omega
    refine au O (aq O (au O (aq O (au O (dq O (au O ?_))))));refine lV O O (nX _ (by omega)) (au O (uX (m:=s) (i:=0) O O (by omega) (by omega) O (au O (uU O O (iS (Nat.div_le_self _ _) (by omega)) O ?_))));refine au O (aq O ?_);refine cz 32 O (fun h5=>?_) (fun h5=>?_)
    ·have abw:s%2=1:=by rw [Nat.pow_zero,Nat.div_one]at h5;omega
     obtain⟨rfl,Ar,rfl⟩:=h1 rfl abw;have hS:St w w3 (br 24 A5 1 c5 [⟨Ar,0,0⟩]::ar 2 Ar 0 0 []::[]):=hS;have vr:=hS.fq 0 O;refine au O (aq O (au O (aq O (au O (dq O (au O ?_))))));refine ajn (i:=0) jf.2 O O O (by decide) (by decide) (au O (ajo (i:=0) jf O (by decide) O O (au O (az O ?_))));refine ya O (by decide) (aD O (ba O O (dq O (az O ?_))));refine jm [14] [yS (A5) (1) (c5),yI ((0:Int)),yS (A5) (1) (c5),yI ((0:Int)),yP (aB (A5) ((0:Int)).toNat),yS ((rg ([⟨Ar,0,0⟩]) ((0:Int))).a) ((rg ([⟨Ar,0,0⟩]) ((0:Int))).n) ((rg ([⟨Ar,0,0⟩]) ((0:Int))).c),yS (A) (1) (c),yI ((1:Int)),yI (((1:Int)) - ((1:Int))),yP (aB (A) (((1:Int)) - ((1:Int))).toNat),yI (gi ([3]) (((1:Int)) - ((1:Int)))),.pr (fun v w'=>∃A',v= .slice A' 1 1/\bt w' A' 1 [3]),.pr (fun v w'=>∃A2 c2,v= .slice A2 1 c2/\St w w' (br 24 A5 1 c5 [⟨Ar,0,0⟩]::ar 2 A2 1 c2 [3]::[])),yP (aB (A5) ((0:Int)).toNat),.pr (fun _ w'=>∃A2 c2,St w w' (br 24 A5 1 c5 [⟨A2,1,c2⟩]::ar 2 A2 1 c2 [3]::[]))] (ly (ly (ly (ly (ly (ly (ly (ly (ly (ly (ly (cg.2 ⟨Ye.cH (fun v w w' h hb=>by obtain⟨A',hv,hT⟩:=h;exact⟨A',hv,hT.ao hb⟩),(cg.2 ⟨Ye.cH (fun v w w' h hb=>by obtain⟨A',c',hv,hT⟩:=h;exact⟨A',c',hv,hT.ao hb⟩),(ly (cg.2 ⟨Ye.cH (fun v w w' h hb=>by obtain⟨A',c',hT⟩:=h;exact⟨A',c',hT.ao hb⟩),(fun _ h=>by cases h)⟩))⟩)⟩)))))))))))) ?_ ?_
     ·refine⟨bZ O,bZ O,bZ O,bZ O,cP fun _ _ hb _ _ _=>ajn (vr.ao hb).2 O O O (by decide) (by decide) (bq O O),cP fun _ _ hb _ _ _=>bQ (vr.ao hb) O (bq O O),bZ O,bZ O,aP fun _ _=>dq O (bq O O),cP fun _ _ hb _ _ _=>ajn (jf.ao hb).2 O O O (by decide) (by decide) (bq O O),cP fun _ _ hb _ _ _=>aY (jf.ao hb) O (bq O O),?_,?_,cP fun _ _ hb _ _ _=>ajn (vr.ao hb).2 O O O (by decide) (by decide) (bq O O),?_,aw⟩
      ·intro e1 w1 cc fB ea fz hp bc hq;show ak _ _ _ _ _ _ _;exact dE (St.refl _) O O O fun A' w9 ax=>ak.n (fu.dn O ax.below ⟨A',O,ax.bk 0 O⟩)
      ·refine cP fun e1 w1 hb hp bc hq=>?_
       obtain⟨A',I6,mq⟩:=(hp 11 _ _ (by kernel_rfl) rfl rfl (by kernel_rfl));refine MJ 1 O (hS.ao hb) O mq O (by exact I6) O (by omega) (by omega) O ?_;intro A2 c2 w9 mY ax;exact ak.n (fu.dn O mY ⟨A2,c2,O,ax⟩)
      refine ju fun e1 w1 hb hp bc hq=>?_
      obtain⟨A2,c2,YG,hT⟩:=(hp 12 _ _ (by kernel_rfl) rfl rfl (by kernel_rfl));refine uY (i:=0) 0 hT O O (by exact YG) (by decide) ?_;intro w9 bh;exact ak.n (fF.st O ⟨A2,c2,bh⟩)
     intro u w4 _ hu _ _;obtain⟨A2,c2,hT⟩:=hu 14 _ rfl (by kernel_rfl);refine UA O (bn (cJ O (aK O (aS O (tQ ?_)))));exact⟨(2,(A5,c5),[⟨A2,1,c2⟩],[[3]]),by show 2 - 2<2 - 1;omega,⟨rfl,rfl,rfl,rfl,aw⟩,dC 2,(show 1<=2 by omega),(fun r hr=> .inr (dK.1 hr)),rfl,(fun h=>by cases h),hT⟩
    have vy:s%2=0:=by rw [Nat.pow_zero,Nat.div_one]at h5;omega
    refine ay O (ay O (ay O (ay O (ay O (ay O (az O ?_))))));refine Cd.dZ O (mN O (tQ ?_));exact⟨(),(ajz O),O,fun _=>vy⟩
   refine ay O (ay O (ay O (ay O (ay O (ay O (ay O (aq O (ay O (ay O (ay O (ay O ?_)))))))))));refine ay O (ay O (az O ?_));refine Cd.dZ O (mN O (tQ ?_));exact⟨(),(ajz O),O,fun h=>absurd h (by omega)⟩
  rintro⟨⟩ e3 w4 ⟨rfl,vy⟩;refine aD O (fZ hS O ?_);intro tF w5 a8;have a8:St w w5 (ar 2 tF 0 0 []::(aU 24 2 A5 L.length c5 rs L)):=a8;refine lU a8 O O O fun x9 w6 bg=>lS 2 bg O (bg.fq 0 O) O O O (by omega) (by omega) O ?_;intro EE E7 w7 bl;have bl:St w w7 (ar 2 tF 0 0 []::br 24 EE (L.length+1) E7 (rs++ [⟨tF,0,0⟩])::bF 2 rs L):=bl.tail;have bl:St w w7 (aU 24 2 EE (L++ [[]]).length E7 (rs++ [⟨tF,0,0⟩]) (L++ [[]])):=by
   unfold aU;rw [tp bT,dh];refine bl.perm ?_;show List.Perm (ar 2 tF 0 0 []::_::_) (_::(_++ [ar 2 tF 0 0 []]));exact(List.Perm.swap _ _ _).trans (List.Perm.cons _ (iK (l₁:=[ar 2 tF 0 0 []])))
  refine aq O (aK O (aS O (tQ ?_)));exact⟨(i+1,(EE,E7),rs++ [⟨tF,0,0⟩],L++ [[]]),by show 2 - (i+1)<2 - i;omega,⟨O,O,by show Value.slice _ _ _= .slice EE (L++ [[]]).length E7;rw [dh];rfl,aL (Value.int .i64) (by omega),aw⟩,by show i+1<=2;omega,by show(L++ [[]]).length<=i+1;rw [dh];show L.length+1<=_;omega,(fun r hr=>by
   rcases eD.1 hr with hr | hr
   ·exact hL r hr
   ·exact .inl (dK.1 hr)),by show(rs++ [_]).length=(L++ [_]).length;simp [bT],(fun h4 _=>by
   have h4:i+1=1:=h4;obtain rfl:L=[]:=lg (by omega);obtain rfl:rs=[]:=lg (by rw [bT];rfl);exact⟨O,tF,O⟩),bl⟩
 refine bo O (bn (eG O ?_));refine fb O ?_;exact⟨A5,c5,rs,L,O,⟨by omega,hL⟩,bT,hS⟩
end
end Go.Proofs.YtkojeolafnadeaaGreatDoor.Vc
