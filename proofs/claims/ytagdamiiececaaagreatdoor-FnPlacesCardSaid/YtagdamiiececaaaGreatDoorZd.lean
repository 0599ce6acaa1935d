/-
 Lemmas. Conditions: as each states them.
-/
import Derived.Test.YtagdamiiececaaaGreatDoorLay
import Derived.Shelf.SortM.Plain
import Derived.Test.YtagdamiiececaaaGreatDoorZc
set_option maxHeartbeats 8000000
namespace Go.Proofs.YtagdamiiececaaaGreatDoor.Vc
open Tryz
section
open Go.RowKit Go.Sort
variable{w w0:aa}{off:Nat}
theorem US{g n:Nat}{os:Array Obj}{cur:Array ab}{e:ad}{fr:Nat×Nat}(d:Array Int)(hb:w.heap[g]?=some (.cells cur e fr)):(Go.Sort.grow (putRow (Value.int .i64) (Sort.ahead w n) g off d) os).heap[g]?=some (.cells (putCells (Value.int .i64) off d cur) e fr):=by
 have hg:g<w.heap.size:=(Array.getElem?_eq_some_iff.1 hb).1;rw [heap_grow_old _ _ (by simpa using hg)];simp [putRow,mapBlock,Sort.ahead,Array.getElem?_modify,hb,onCells]
theorem S7{g n:Nat}{os:Array Obj}(d:Array Int):yF w (Go.Sort.grow (putRow (Value.int .i64) (Sort.ahead w n) g off d) os) (some g):=by
 refine⟨⟨O,O,O,by simp,fun k hk b9=>?_⟩,Nat.le_add_right _ _⟩;rw [heap_grow_old _ _ (by simpa using hk)];have:g≠k:=fun e=>b9 (by rw [e])
 simp [putRow,mapBlock,Sort.ahead,Array.getElem?_modify,this]
theorem Z5{ks:List Ck}(i:Nat){t:ad}{A:ai}{n c:Nat}{xs:ah}(hS:St w0 w ks)(hk:ks[i]?=some (ax t A n c xs))(h0:0<n)(hn:n<=1000000000):
 aE prog 130 [.slice A n c] w (fun v w'=>v= .tuple #[]/\St w0 w' (ks.set i (ax t A n c (kT xs)))):=by
 obtain⟨h1,h2,h3,h4⟩:=hS.nO hk (oX _);have hl:xs.length=n:=hS.yi i hk;have h2:n<=c:=h2;rcases h4 with⟨_,lj⟩ | ⟨g,o,cur,hA,hg,hh,hs,hc⟩
 ·have lj:c=0:=lj;omega
 have hA:A=some ⟨g,o,none⟩:=hA;have hs:o+c<=cur.size:=hs;have hc:∀j,j<n->cur[o+j]?=(xs.map (Value.int .i64))[j]?:=hc;subst hA;subst hl;have hH:Holds (Value.int .i64) w g o xs.toArray:=fun j hj=>by
  have fI:j<xs.length:=by simpa using hj
  refine⟨?_,by simp [World.frozen?,hh]⟩;simp only [World.cell?,hh];simp only [Option.isSome_none,Bool.false_eq_true,if_false];rw [hc j fI];simp [fI]
 have cI:g<w.heap.size:=(Array.getElem?_eq_some_iff.1 hh).1;have key:=AnyM.slices_Sort_int NL g o c xs w hH cI (by omega);refine Calls.mono key fun x w' ⟨hx,m,os,hw⟩=> ⟨_,hx,O,?_⟩
 subst hw;have Du:(kT xs).length=xs.length:=(Is xs).length_eq;refine hS.turn hk O O (S7 _) (.o5 (oX _) ⟨by simp [Du],h2,h3,.inr ⟨g,o,_,O,hg,US _ hh,by simp only [putCells,Array.size_mapIdx];exact hs,fun j hj=>?_⟩⟩);have hj:j<xs.length:=hj;show(putCells (Value.int .i64) o (kT xs).toArray cur)[o+j]?=((kT xs).map (Value.int .i64))[j]?;have rL:o+j<cur.size:=by have:xs.length<=c:=h2;omega
 simp [putCells,rL,Du,hj]
end
section
open Go.RowKit
theorem Eb{α:Type}{l:List α}{i:Nat}{x:α}(h:l[i]?=some x):l.set i x=l:=by
 apply List.ext_getElem?;intro j;rw [kX]
 split
 ·rename_i e;subst e;rw [aJ (ga.1 h).1,h]
 rfl
theorem Rd.one{w:aa}{A:ai}{n:Nat}{f:Nat->ab}(h:Rd w A (n+1) f):Rd w A 1 (fun _=>f 0):=fun j hj=>by
 obtain rfl:j=0:=by omega
 exact h 0 (by omega)
def marks(k:Int)(n:Nat):ah:=(List.range n).map fun j:Nat=>k+ (j:Int)
theorem Qs{w0 w:aa}{t1 t2:ad}{A:ai}{n c:Nat}{rs:List aO}{xss:ag}{pre:List Ck}(h:St w0 w (pre++aK t1 t2 A n c rs xss)):St w0 w (pre++ (aK t1 t2 A n c rs xss++ [])):=by rwa [iG]
def pow(xs:ah)(n:Nat):ah:=(List.replicate n xs).flatten
theorem pow_succ(xs:ah)(n:Nat):pow xs (n+1)=pow xs n++xs:=by simp [pow,List.replicate_succ']
def part(T:ah)(m:Nat):ah:=T.take m++List.replicate (T.length - m) 0
theorem XR(A:ai)(a c:Nat)(xs:ah)(n:Nat)(w:aa)(hR:cd w A a xs)(ha:a<=1000)(hn:n<=1000):
 aE prog 269 [.slice A a c,aj n] w (fun v w'=>∃A' c',v= .slice A' (a*n) c'/\St w w' [ax 2 A' (a*n) c' (pow xs n)]):=by
 have bP:=hR.1;refine bm func269 O ntmps269 O (bU O) (aY O (jO (St.refl w) O ?_));intro A5 w1 aB;have aB:St w w1 [ax 2 A5 (a*0) 0 (pow xs 0)]:=aB;refine az O ?_;refine Cd.loop (α:=Nat×ai×Nat) (fun z=> [(0,.slice A a c),(1,aj ((n:Int) - (z.1:Int))),(5,.slice z.2.1 (a*z.1) z.2.2)]) (fun z w'=>St w w' [ax 2 z.2.1 (a*z.1) z.2.2 (pow xs z.1)]/\z.1<=n) (fun z=>n - z.1) (0,A5,0) ⟨O,by show Value.int .i64 _=aj _;simp,O,au⟩ ⟨aB,bA _⟩ ?_;rintro⟨k,A6,c6⟩ e w2 ⟨aw,hk⟩;dsimp only at aw hk|-;have gj:a*k<=1000000:=Nat.mul_le_mul ha (show k<=1000 by omega);refine b7 O (aM _ O (fun h1=>?_) (fun h1=>?_))
 ·refine aD O (fR 0 aw O (aw.dY hR) O O O ?_);intro A7 c7 w3 aI;refine ao O (je O O O (by omega) (aU O (tQ ?_)));have e1:a* (k+1)=a*k+a:=Nat.mul_succ a k;refine⟨(k+1,A7,c7),by show n - (k+1)<n - k;omega,⟨O,by show Value.int .i64 _=aj _;congr 1;show _=(n:Int) - ((k+1:Nat):Int);omega,by show Value.slice _ _ _= .slice _ _ _;rw [e1],au⟩,?_,by show k+1<=n;omega⟩;show St w w3 [ax _ A7 (a* (k+1)) c7 (pow xs (k+1))];rw [e1,pow_succ];exact aI
 refine bo O (bp (e6 O ?_));refine fA O ?_;have eF:k=n:=by omega
 subst eF;exact⟨A6,c6,O,aw⟩
end
section
structure BS where
 f:Nat
 k:Nat
 B:ai
 n:Nat
 c:Nat
 rs:List aO
 xss:ag
end
section
open Go.RowKit
theorem bj.uR{xss:ag}(hM:bj xss){f:Int}(h0:0<=f)(hf:f< (gl xss 0).length):mX (gl xss 0).length (da (gl xss 0).length xss f):=by
 have hs:=hM.2.2.1.sys;have hi:=hM.2.2.1.inj;have h2:=hM.2.1;obtain⟨g,_,hm⟩:=qN hs h0 hf;have ct:=(DS hs (by omega)).1 hM.2.2.2.2;refine⟨?_,g.nodup,g.range⟩;have h1:=BF (dH (gl xss 0).length) (da (gl xss 0).length xss f) (by
  unfold dH;rw [List.nodup_iff_pairwise_ne,nJ];exact(List.nodup_iff_pairwise_ne.1 List.nodup_range).imp (fun h e=>h (by omega))) (fun z hz=>by
  have hz:=wA.1 hz;exact(hm z).2 ((Reach.symm hs hi (by omega) (by omega) (ct f h0 hf)).trans (ct z hz.1 hz.2)))
 rw [kS]at h1;have:=g.len;omega
theorem HA(A:ai)(n c:Nat)(rs:List aO)(xss:ag)(N:Nat)(f:Int)(w:aa)(hR:bl w A n rs xss)(hM:bj xss)(hN:N=(gl xss 0).length)(h0:0<=f)(hf:f<N):
 aE prog 198 [.agg #[.slice A n c],aj f] w (fun v w'=>∃A' c' rs',v= .agg #[.slice A' n c']/\rs'.length=n/\St w w' (aK 24 2 A' n c' rs' (cW N xss f))):=by
 subst hN;have hP:=hM.uR h0 hf;have hs:=hM.2.2.1.sys;have h5:=hM.1;have Cy:=hM.2.1;have bP:=hR.len;have zM:xss.map (kR (gl xss 0).length (gJ (gl xss 0).length (da (gl xss 0).length xss f)))=cW (gl xss 0).length xss f:=pg (fun mv _=>ZC hP);have oJ:∀x:Int,0<=x->x< ((gl xss 0).length:Int)->0<=gi (gJ (gl xss 0).length (da (gl xss 0).length xss f)) x/\gi (gJ (gl xss 0).length (da (gl xss 0).length xss f)) x< ((gl xss 0).length:Int):=fun x h0 h1=>by
  obtain⟨k,hk,_,hb⟩:=hP.ql h0 h1;omega
 generalize T1:(gl xss 0).length=N at*;refine bm func198 O ntmps198 O (lB O O) (aY O (fD (St.refl w) O O ?_));intro Ab w1 aB;refine eH aB O fun Ac w2 aw=>az O ?_;have hB:=aw.rd 1 O;refine jx [5] [.ex (.agg #[.slice (A) (n) (c)]),.ex (.agg #[.slice (A) (n) (c)]),yI (f),.pr (fun v w'=>∃A4,v= .slice A4 N N/\St w w' [ax 2 A4 N N (gJ N (da N xss f)),Bx 37 1 Ac [.slice none 0 0],Bx 37 1 Ab [.slice A n c]]),.pr (fun v w'=>∃A4 c4 bY,v= .agg #[.slice A4 n c4]/\bY.length=n/\St w w' (Bx 37 1 Ac [.slice none 0 0]::Bx 37 1 Ab [.slice A n c]::aK 24 2 A4 n c4 bY (cW N xss f))),.pr (fun _ w'=>∃A4 c4 bY,bY.length=n/\St w w' (Bx 37 1 Ac [.slice A4 n c4]::Bx 37 1 Ab [.slice A n c]::aK 24 2 A4 n c4 bY (cW N xss f)))] (by kernel_rfl) (by kernel_rfl) (ly (ly (ly (cL.2 ⟨Ye.cQ (fun v w w' h hb=>by obtain⟨A4,hv,hT⟩:=h;exact⟨A4,hv,hT.aq hb⟩),(cL.2 ⟨Ye.cQ (fun v w w' h hb=>by obtain⟨A4,c4,bY,hv,hl,hT⟩:=h;exact⟨A4,c4,bY,hv,hl,hT.aq hb⟩),(cL.2 ⟨Ye.cQ (fun v w w' h hb=>by obtain⟨A4,c4,bY,hl,hT⟩:=h;exact⟨A4,c4,bY,hl,hT.aq hb⟩),(fun _ h=>by cases h)⟩)⟩)⟩)))) ?_ ?_
 ·refine⟨cP fun _ _ hb _ _ _=>ac3 0 (hB.below hb) O (bG O O),cP fun _ _ hb _ _ _=>ac3 0 (hB.below hb) O (bG O O),cj O,?_,?_,?_,au⟩
  ·refine cP fun e1 w1 hb hp aX hq=>?_
   refine aH (XL A n c rs xss N f _ ((aw.aq hb).bE hR) (by omega) hs (by omega) h0 hf hP) O ?_;rintro _ w9 ⟨A4,rfl,aA⟩;exact ak.n (fB.dn O aA.below ⟨A4,O,(aw.aq hb).call aA⟩)
  ·refine cP fun e1 w1 hb hp aX hq=>?_
   obtain⟨A4,h8,hT⟩:=(hp 3 _ _ (by kernel_rfl) rfl rfl (by kernel_rfl));refine acW (Nn A n c rs xss N A4 N _ _ (hT.bE hR) (by omega) hs (by omega) (hT.bz 0 O) oJ) O (by exact bw (fun v=> [Value.agg #[.slice A n c],v]) h8) O ?_;rintro _ w9 ⟨A5,c5,l8,rfl,GC,aA⟩;refine ak.n ?_;exact fB.dn O aA.below ⟨A5,c5,l8,O,GC,by rw [zM]at aA;exact(hT.tail.call aA).perm fb⟩
  refine jy fun e1 w1 hb hp aX hq=>?_
  obtain⟨A4,c4,bY,h9,hl,hT⟩:=(hp 4 _ _ (by kernel_rfl) rfl rfl (by kernel_rfl));refine bR 1 0 hT O O (by exact h9) O O O O ?_;intro w9 aA;exact ak.n (fv.st O ⟨A4,c4,bY,hl,aA⟩)
 intro u w3 _ hu _ _;obtain⟨A4,c4,bY,vO,hT⟩:=hu 5 _ rfl (by kernel_rfl);refine tE O (fZ O (hT.rd 0 O) ?_);exact⟨A4,c4,bY,O,vO,hT.sub ((List.sublist_cons_self _ _).trans (List.sublist_cons_self _ _))⟩
theorem YU(A:ai)(n c:Nat)(rs:List aO)(xss:ag)(N:Nat)(pt:Int)(w:aa)(hR:bl w A n rs xss)(hn:n<=9223372036854775807)(lr:0<n)(hs:Sys N xss)(hN:N<=1000000000)(h0:0<=pt)(h1:pt<N):
 aE prog 213 [.slice A n c,aj pt] w (fun v w'=>∃A' c',v= .slice A' (da N xss pt).length c'/\St w w' [ax 2 A' (da N xss pt).length c' (da N xss pt)]):=by
 have bO:∀k:Int,0<=k->k<n->(rg rs k).n=N:=fun k oN hk=>by
  rw [<-hR.jh oN hk];exact(hs _ (mJ oN (by rw [hR.len];exact hk))).1
 have ie:=bO 0 (by omega) (by omega);refine bm func213 O ntmps213 O (bU O) (aY O (ay hR.top.2 O (bB hR.top O (aZ O O ?_))));refine wR N (St.refl w) (by rw [ie];rfl) O (by omega) ?_;intro A5 w1 aB;refine ao O ?_;refine acU (aB.jt 0 O).2 (by rw [ie];rfl) O O (by omega) (by omega) ?_;refine sw 0 aB O O O (by omega) fun w2 aw=>ao O (fk aw O O O ?_);intro A6 w3 aI;refine az O ?_;refine Cd.loop (α:=Nat×ah×ai×Nat×List Bool) (fun q=> [(0,.slice A n c),(5,.slice A5 N N),(6,.slice q.2.2.1 q.2.1.length q.2.2.2.1),(7,aj (q.1:Int))]) (fun q w'=>St w w' [ax 2 q.2.2.1 q.2.1.length q.2.2.2.1 q.2.1,jL 4 A5 N N q.2.2.2.2]/\q.1<=q.2.1.length/\Good N xss pt q.2.1/\qi N q.2.2.2.2 q.2.1/\jk xss (N+1 - q.1) q.1 q.2.1=da N xss pt) (fun q=>N+1 - q.1) (0,[pt],A6,1,(List.replicate N false).set pt.toNat true) ⟨O,by rw [ie];rfl,O,O,au⟩ ⟨aI,bA _,Cv h0 h1,qi.init h0 (by omega),O⟩ ?_;rintro⟨i,out,Ao,co,S⟩ e2 w5 ⟨aR,hi,hg,hm,hb⟩;dsimp only at aR hi hg hm hb|-;have hlen:=hg.len;refine aY O (aZ O O (az O ?_));refine aM _ O (fun h2=>?_) (fun h2=>?_)
 ·refine aD O (aZ O O (az O ?_));refine Cd.loop (α:=Nat×ah×ai×Nat×List Bool) (fun q=> [(0,.slice A n c),(5,.slice A5 N N),(6,.slice q.2.2.1 q.2.1.length q.2.2.2.1),(7,aj i),(27,.slice A n c),(28,aj n),(29,aj (q.1:Int))]) (fun q w'=>St w w' [ax 2 q.2.2.1 q.2.1.length q.2.2.2.1 q.2.1,jL 4 A5 N N q.2.2.2.2]/\q.1<=n/\Good N xss pt q.2.1/\qi N q.2.2.2.2 q.2.1/\out<+:q.2.1/\(xss.drop q.1).foldl (fun o p=>fh o (gi p (gi out i))) q.2.1=expand xss (gi out i) out) (fun q=>n - q.1) (0,out,Ao,co,S) (ac4 O) ⟨aR,bA _,hg,hm,List.prefix_rfl,O⟩ ?_;rintro⟨k,fY,uX,xi,S'⟩ e3 w6 ⟨aQ,hk,kM,ic,fV,hf⟩;dsimp only at aQ hk kM ic fV hf|-;have s8:=kM.len;refine b7 O (aM _ O (fun h3=>?_) (fun h3=>?_))
  ·have s6:i<fY.length:=by have:=fV.length_le;omega
   have uo:gi fY i=gi out i:=tV fV (by omega);have lY:=hg.range _ (gi_in (i:=i) (by omega));have jE:gl xss k∈xss:=mJ (by omega) (by rw [hR.len];omega);have hy:=(hs _ jE).2 (gi out i) lY.1 lY.2;have iW:=bO k (by omega) (by omega);have hT:=(aQ.bE hR);have hO:=aQ.bz 0 O;have bH:=hT.at_ (i:=k) (by omega) (by omega);have sY:(xss.drop (k+1)).foldl (fun o p=>fh o (gi p (gi out i))) (fh fY (gi (gl xss k) (gi out i)))=expand xss (gi out i) out:=by
    rw [<-hf,List.drop_eq_getElem_cons (show k<xss.length by rw [hR.len];omega),List.foldl_cons,cM (by rw [hR.len];omega)]
   refine aD O (ay hT.top.2 O (bB hT.top O (ao O (ay hO.2 O (bc hO O ?_)))));rw [uo];refine ay bH.2 O (bc bH O (ao O (ay (aQ.jt 1 O).2 O (su (aQ.jt 1 O) O (by omega) O O ?_))))
   first | refine dM rfl rfl ?_ | refine eI rfl rfl ?_
   refine az O (Cd.cond O (fun h4=>?_) (fun h4=>?_))
   ·have GP:¬gi (gl xss k) (gi out i)∈fY:=fun cS=>by
     have:=(ic.2 _ hy.1 (by omega)).2 cS;rw [this]at h4;cases h4
    have vT:fh fY (gi (gl xss k) (gi out i))=fY++ [gi (gl xss k) (gi out i)]:=by unfold fh;rw [if_neg GP]
    have sZ:=kM.push hs (fV.subset (gi_in (i:=i) (by omega))) jE;have z7:=fV.trans (D0 fY (gi (gl xss k) (gi out i)));rw [vT]at sY sZ z7;have GH:=sZ.len;simp only [e8,List.length_singleton]at GH;refine aD O (ay (aQ.jt 1 O).2 O (sw 1 aQ O O O (by omega) ?_));intro w8 a7;refine ao O (fk a7 O O O ?_);intro A3 w9 aW;refine fR 1 aW O (aW.bz 0 O) O O O fun A4 c4 dt bV=>ao O (aL O (aU O (tQ ?_)));refine⟨(k+1,fY++ [gi (gl xss k) (gi out i)],A4,c4,S'.set (gi (gl xss k) (gi out i)).toNat true),by show n - (k+1)<n - k;omega,⟨O,O,by rw [e8];rfl,O,O,O,O,au⟩,?_,by show k+1<=n;omega,sZ,ic.push hy.1 (by omega),z7,sY⟩;have qu:=bV.tail;simp only [e8,List.length_singleton];exact qu
   have cS:gi (gl xss k) (gi out i)∈fY:=(ic.2 _ hy.1 (by omega)).1 (by simpa using h4);have vT:fh fY (gi (gl xss k) (gi out i))=fY:=by unfold fh;rw [if_pos cS]
   rw [vT]at sY;refine aD O (aL O (aU O (tQ ?_)));exact⟨(k+1,fY,uX,xi,S'),by show n - (k+1)<n - k;omega,(ac4 O),aQ,by show k+1<=n;omega,kM,ic,fV,sY⟩
  refine bo O (bp (cn O (aL O (aU O (tQ ?_)))));have eF:k=n:=by omega
  rw [eF,List.drop_of_length_le (by rw [hR.len];omega)]at hf;have hf:fY=expand xss (gi out i) out:=hf;refine⟨(i+1,fY,uX,xi,S'),by show N+1 - (i+1)<N+1 - i;omega,(ac4 O),aQ,by show i+1<=fY.length;have:=fV.length_le;omega,kM,ic,?_⟩;show jk xss (N+1 - (i+1)) (i+1) fY=_;rw [<-hb,show N+1 - i=(N+1 - (i+1))+1 by omega];simp only [jk];rw [aJ (by omega),hf]
 refine bo O (bp (e6 O ?_));refine fA O ?_;rw [Ju (by omega)]at hb;subst hb;exact⟨Ao,co,O,aR.sub (List.Sublist.cons_cons _ (List.nil_sublist _))⟩
section
variable {P:Program} {N:Nat} {ops:Array Oper} {K:Env->aa->Prop} {rest:List Oper} {e:Env} {w:aa} {d:Nat} {ty:ad} {pos:String} {af:Array Edge}
theorem I6{F:FuncId}{x:ae}{v1:ab}(hx:ev e x=v1)(hb:Nat.blt d N=true)(hK:ak P N ops K rest (bt e d (.func (.func F) #[] #[v1])) w):
 ak P N ops K (⟨some d,.makeFunc (.func F) #[] #[x],ty,pos,af,none⟩::rest) e w:=
 .val (by simp [execOp,Instr.makeFunc,hx]) hb hK
theorem Jc{t t' el:ad}[bK P t (.slice el)]{x y:ae}{A:ai}{n c:Nat}(hx:ev e x= .slice A n c)(hy:ev e y= .slice none 0 0)(hb:Nat.blt d N=true)(hK:ak P N ops K rest (bt e d (.bool (!A.isNone))) w):
 ak P N ops K (⟨some d,.binOp .neq t x y t',ty,pos,af,none⟩::rest) e w:=by
 have hr:(Op.equal t (.slice A n c) (.slice none 0 0)).run P w= .ok A.isNone w:=by
  show(Op.equalIn (9999+1) t (.slice A n c) (.slice none 0 0)).run P w=_;rw [Op.equalIn];cases A<;>simp [run_underlying (bK.out (P:=P) (t:=t))]
 exact .val (by simp [execOp,hx,hy,eqGuard,binOp,hr]) hb hK
end
theorem Kx(l:ah)(i:Nat):gi (l.drop i) 0=gi l i:=by simp [gi,df,List.getElem?_drop]
theorem St.JR{w0 w:aa}{ks:List Ck}{i:Nat}{t:ad}{A:ai}{n c l:Nat}{xs:ah}(hS:St w0 w ks)(hk:ks[i]?=some (ax t A n c xs))(hl:l<=n):St w0 w (ks.set i (ax t (cutAt A c l) (n - l) (c - l) (xs.drop l))):=by
 have bP:=hS.yi i hk;obtain⟨h1,h2,h3,h4⟩:=hS.nO hk (oX _);have h2:n<=c:=h2;have h3:c<=maxLen:=h3;rcases h4 with⟨hA,lj⟩ | ⟨g,o,cur,hA,hg,hh,hs,hc⟩
 ·have hA:A=Option.none:=hA;have lj:c=0:=lj;subst hA lj;obtain rfl:n=0:=by omega
  obtain rfl:l=0:=by omega
  obtain rfl:=qg bP;have e:cutAt Option.none 0 0=Option.none:=O;rw [e];show St w0 w (ks.set i (ax t Option.none 0 0 []));rw [Eb hk];exact hS
 have hA:A=some ⟨g,o,Option.none⟩:=hA;have hs:o+c<=cur.size:=hs;have hh:w.heap[g]?=some (.cells cur t (0,0)):=hh;have hc:∀j,j<n->cur[o+j]?=(xs.map (Value.int .i64))[j]?:=hc;subst hA;have rF:∃o',cutAt (some ⟨g,o,Option.none⟩) c l=some ⟨g,o',Option.none⟩/\o'+ (c - l)<=cur.size/\(0<n - l->o'=o+l):=by
  unfold cutAt
  split
  ·exact⟨o,O,by omega,fun h=>by omega⟩
  exact⟨o+l,by simp [aF,yZ],by omega,fun _=>O⟩
 obtain⟨o',e1,e2,e3⟩:=rF;refine hS.turn hk O (by simp [Ck.gY,e1]) ⟨⟨O,O,O,dE _,fun _ _ _=>O⟩,dE _⟩ (.o5 (oX _) ⟨by simp [bP],by show n - l<=c - l;omega,by show c - l<=maxLen;omega,.inr ⟨g,o',cur,e1,hg,hh,e2,fun j hj=>?_⟩⟩);have hj:j<n - l:=hj;show cur[o'+j]?=((xs.drop l).map (Value.int .i64))[j]?;rw [e3 (Nat.zero_lt_of_lt hj),Nat.add_assoc,hc (l+j) (Nat.add_lt_of_lt_sub' hj)];simp [List.getElem?_drop]
theorem bj.all{xss:ag}(hM:bj xss){f:Int}(h0:0<=f)(h1:f< (gl xss 0).length):Reach xss 0 f:=(DS hM.2.2.1.sys (by have:=hM.2.1;omega)).1 hM.2.2.2.2 f h0 h1
theorem AW{N:Nat}{xss:ag}(hs:Sys N xss)(di:pe N xss):∀i,i<=N->(∀x:Int,0<=x->x<N->gi (bM N xss i).1 x= -1\/(0<=gi (bM N xss i).1 x/\gi (bM N xss i).1 x< (bM N xss i).2))/\∀v:Int,0<=v->v< (bM N xss i).2->∃x:Int,0<=x/\x<N/\gi (bM N xss i).1 x=v
 | 0,_=> ⟨fun x h0 h1=> .inl (by rw [show(bM N xss 0).1=List.replicate N (-1) from rfl,sI h0 h1]),fun v h0 h1=>by simp [bM]at h1;omega⟩
 | i+1,hi=>by
  obtain⟨h1,h2⟩:=AW hs di i (by omega)
  by_cases hp:0<=gi (bM N xss i).1 i
  ·rw [DI hp];exact⟨h1,h2⟩
  ·rw [Ba hp];obtain⟨hg,fX,zZ⟩:=qN hs (pt:=(i:Int)) (by omega) (by omega);have hc:=(v8 N xss i).1;have Gs:∀x:Int,0<=x->gi (o6 (bM N xss i).1 (bM N xss i).2 (da N xss i)) x=if x∈da N xss i then(bM N xss i).2 else gi (bM N xss i).1 x:=fun x hx=>tU _ _ _ (oZ N xss i) hg.range x hx
   have s5:(i:Int)∈da N xss i:=fX.subset (by simp);refine⟨fun x h0 hx=>?_,fun v h0 hv=>?_⟩
   ·rw [Gs x h0];dsimp only
    split
    ·exact .inr ⟨hc,by omega⟩
    ·rcases h1 x h0 hx with h | h
     ·exact .inl h
     ·exact .inr ⟨h.1,by omega⟩
   ·dsimp only at hv|-
    by_cases e:v=(bM N xss i).2
    ·exact⟨i,by omega,by omega,by rw [Gs i (by omega),aJ s5,e]⟩
    ·obtain⟨x,th,rW,hx⟩:=h2 v h0 (by omega);refine⟨x,th,rW,?_⟩;rw [Gs x th,aC (fun hm=>?_),hx];obtain⟨j,hj,qz⟩:=(wa hs i (by omega) x th rW).1 (by rw [hx];exact h0);have Vg:=(zZ x).1 hm;exact hp ((wa hs i (by omega) (i:Int) (by omega) (by omega)).2 ⟨j,hj,qz.trans (Reach.symm hs di (by omega) (by omega) Vg)⟩)
theorem X8{N:Nat}{xss:ag}(hs:Sys N xss)(di:pe N xss)(x:Int)(h0:0<=x)(h1:x<N):0<=gi (bM N xss N).1 x/\gi (bM N xss N).1 x< (bM N xss N).2:=by
 have:=(wa hs N (dE _) x h0 h1).2 ⟨x.toNat,by omega,by rw [Int.toNat_of_nonneg h0];exact .refl⟩;rcases(AW hs di N (dE _)).1 x h0 h1 with h | h
 ·omega
 exact h
def dI(xss:ag)(i:Nat):ah:=(bM (gl xss 0).length (xss.eraseIdx i) (gl xss 0).length).1
def gq(xss:ag)(i:Nat):Int:=(bM (gl xss 0).length (xss.eraseIdx i) (gl xss 0).length).2
theorem Sys.erase{N:Nat}{xss:ag}(h:Sys N xss)(i:Nat):Sys N (xss.eraseIdx i):=fun p hp=>h p (List.mem_of_mem_eraseIdx hp)
theorem pe.erase{N:Nat}{xss:ag}(h:pe N xss)(i:Nat):pe N (xss.eraseIdx i):=fun p hp=>h p (List.mem_of_mem_eraseIdx hp)
theorem tP(xss:ag)(i:Nat):0<=gq xss i/\gq xss i<=(gl xss 0).length:=v8 _ _ _
theorem Cj{xss:ag}(h:bj xss)(i:Nat)(f:Nat)(hf:f< (gl xss 0).length):0<=gi (dI xss i) f/\gi (dI xss i) f<gq xss i:=X8 (h.2.2.1.sys.erase i) (h.2.2.1.inj.erase i) f (by omega) (by omega)
theorem Ci{xss:ag}(h:bj xss)(i:Nat)(v:Int)(h0:0<=v)(h1:v<gq xss i):∃f:Nat,f< (gl xss 0).length/\gi (dI xss i) f=v:=by
 obtain⟨x,th,rW,hx⟩:=(AW (h.2.2.1.sys.erase i) (h.2.2.1.inj.erase i) _ (dE _)).2 v h0 h1;exact⟨x.toNat,by omega,by rw [Int.toNat_of_nonneg th];exact hx⟩
theorem bl.erase{w:aa}{A:ai}{n:Nat}{rs:List aO}{xss:ag}(h:bl w A n rs xss){i:Nat}(hi:i<n){A':ai}(hT:gp w A' (n - 1) (rs.eraseIdx i)):bl w A' (n - 1) (rs.eraseIdx i) (xss.eraseIdx i):=by
 have hl:=h.len;have bO:=h.top.1;have er:∀j,j<n - 1->(rs.eraseIdx i).getD j cJ=rs.getD (if j<i then j else j+1) cJ:=fun j hj=>by
  simp only [df,List.getElem?_eraseIdx];split<;>rfl
 have ex:∀j,j<n - 1->(xss.eraseIdx i).getD j []=xss.getD (if j<i then j else j+1) []:=fun j hj=>by
  simp only [df,List.getElem?_eraseIdx];split<;>rfl
 refine⟨hT,by rw [List.length_eraseIdx,aJ (by omega),hl],fun j hj=>?_,fun j hj=>?_⟩
 ·rw [er j hj,ex j hj];exact h.row _ (by split<;>omega)
 rw [er j hj];exact h.cap _ (by split<;>omega)
end
end Go.Proofs.YtagdamiiececaaaGreatDoor.Vc
