/-
 Lemmas. Conditions: as each states them.
-/
import Derived.Test.YtagdamiiececaaaGreatDoorLayc
import Derived.Shelf.SlSortCmp.NoneTotal
import Derived.Test.YtagdamiiececaaaGreatDoorZg
set_option maxHeartbeats 8000000
namespace Go.Proofs.YtagdamiiececaaaGreatDoor.Vc
open Tryz
section
open Go.RowKit Go.Sort
variable{w w0:aa}{off j o:Nat}
theorem UQ{α:Type}[Inhabited α]{enc:α->ab}{g n:Nat}{os:Array Obj}{cur:Array ab}{e:ad}{fr:Nat×Nat}(d:Array α)(hb:w.heap[g]?=some (.cells cur e fr)):(Go.Sort.grow (putRow enc (Sort.ahead w n) g off d) os).heap[g]?=some (.cells (putCells enc off d cur) e fr):=by
 have hg:g<w.heap.size:=(Array.getElem?_eq_some_iff.1 hb).1;rw [heap_grow_old _ _ (by simpa using hg)];simp [putRow,mapBlock,Sort.ahead,Array.getElem?_modify,hb,onCells]
theorem S2{α:Type}[Inhabited α]{enc:α->ab}{g n:Nat}{os:Array Obj}(d:Array α):yF w (Go.Sort.grow (putRow enc (Sort.ahead w n) g off d) os) (some g):=by
 refine⟨⟨O,O,O,by simp,fun k hk b9=>?_⟩,Nat.le_add_right _ _⟩;rw [heap_grow_old _ _ (by simpa using hk)];have:g≠k:=fun e=>b9 (by rw [e])
 simp [putRow,mapBlock,Sort.ahead,Array.getElem?_modify,this]
def sv(ss:List aO)(j:Nat):aO:=ss.getD j cJ
def tO(ss:List aO)(n:Nat)(j:Fin n):List ab:=[(sv ss j).v]
theorem Kg{n:Nat}[Inhabited (Fin n)](ss:List aO)(dk:Array (Fin n))(hj:j<dk.size):(flatK (tO ss n) 1 dk)[j]! =(sv ss dk[j]!).v:=by
 rw [get_flatK _ _ _ _ (by omega)];simp [tO,Nat.mod_one]
theorem St.OO{ks:List Ck}{i:Nat}{t:ad}{g n c:Nat}{ss:List aO}{cur:Array ab}[Inhabited (Fin n)](hS:St w0 w ks)(hk:ks[i]?=some (aV t (some ⟨g,o,Option.none⟩) n c ss))(hh:w.heap[g]?=some (.cells cur t (0,0)))(hg:w0.heap.size<=g)(hs:o+c<=cur.size)(m:Nat)(dk:Array (Fin n))(hd:dk.size=n)(os:Array Obj):
 St w0 (sortWorldK (tO ss n) 1 w g o m dk os) (ks.set i (aV t (some ⟨g,o,Option.none⟩) n c (dk.toList.map fun j:Fin n=>sv ss j.val))):=by
 have ku:n<=c:=(hS.cap i hk).1;have Uy:c<=maxLen:=(hS.cap i hk).2;refine hS.turn hk O O (S2 _) (.o5 (qJ _) ⟨by simp [hd],ku,Uy,.inr ⟨g,o,_,O,hg,UQ _ hh,by simp only [putCells,Array.size_mapIdx];exact hs,fun j hj=>?_⟩⟩);have hj:j<n:=hj;have rL:o+j<cur.size:=by omega
 show(putCells id o (flatK (tO ss n) 1 dk) cur)[o+j]?=((dk.toList.map fun j:Fin n=>sv ss j.val).map aO.v)[j]?;have e:=Kg ss dk (j:=j) (by omega);rw [getElem!_pos _ _ (by simp [hd];exact hj),getElem!_pos dk j (by omega)]at e;simp [putCells,rL,hj,hd,e]
theorem Z3{ks:List Ck}(i:Nat){t:ad}{A:ai}{n c:Nat}{ss:List aO}(hS:St w0 w ks)(hk:ks[i]?=some (aV t A n c ss))(hn:n<=4000000000000)(G:FuncId)[hF:bk prog G](cf:Nat->Nat->Int)
 (Hc:∀a b c,a<n->b<n->c<n->¬cf a a<0/\(cf a b<0->cf b c<0->cf a c<0)/\(¬cf a b<0->¬cf b c<0->¬cf a c<0))
 (UF:∀(w':aa) (q:List Nat),q.length=n->(∀j∈q,j<n)->St w0 w' (ks.set i (aV t A n c (q.map (sv ss))))->∀a b,a<n->b<n->aE prog G [.agg #[(sv ss a).v],.agg #[(sv ss b).v]] w' (fun v iq=>v=aj (cf a b)/\St w' iq []/\w'.drawn<=iq.drawn)):
 aE prog 138 [.slice A n c,.func (.func G) #[] #[]] w (fun v w'=>v= .tuple #[]/\∃q:List Nat,q.Perm (List.range n)/\q.Pairwise (fun a b=>¬cf b a<0)/\St w0 w' (ks.set i (aV t A n c (q.map (sv ss))))):=by
 obtain⟨h1,h2,h3,h4⟩:=hS.nO hk (qJ _);have hl:ss.length=n:=by have:(ss.map aO.v).length=n:=h1;simpa using this
 have h2:n<=c:=h2
 by_cases h0:n=0
 ·subst h0;have key:=AnyF.slices_SortFunc_none NK A c (.func (.func G) #[] #[]) w;refine Calls.mono key fun x w' ⟨hx,hw⟩=> ⟨_,hx,O,[],List.Perm.refl _,List.Pairwise.nil,?_⟩
  subst hw;have e:ss=[]:=qg hl;subst e;rw [show(List.map (sv []) []:List aO)=[] from rfl];have:=(ga.1 hk);rw [show ks.set i (aV t A 0 c [])=ks from by
   apply List.ext_getElem?;intro j;rw [kX]
   split
   ·rename_i e;subst e;rw [hk];simp [this.1]
   ·rfl]
  exact hS
 have h0:0<n:=by omega
 rcases h4 with⟨_,lj⟩ | ⟨g,o,cur,hA,hg,hh,hs,hc⟩
 ·have lj:c=0:=lj;omega
 have hA:A=some ⟨g,o,none⟩:=hA;have hs:o+c<=cur.size:=hs;have hc:∀j,j<n->cur[o+j]?=(ss.map aO.v)[j]?:=hc;subst hA
 haveI:Inhabited (Fin n):=⟨⟨0,h0⟩⟩
 have cI:g<w.heap.size:=(Array.getElem?_eq_some_iff.1 hh).1;have rG:(Array.ofFn (fun j:Fin n=>j)).size=n:=by simp
 have hH:HoldsK (tO ss n) 1 w g o (Array.ofFn fun j:Fin n=>j):=fun j hj=>by
  have fI:j<n:=by simpa using hj
  refine⟨?_,by simp [World.frozen?,hh]⟩;rw [Kg ss _ (by simpa using fI)];simp only [World.cell?,hh];simp only [Option.isSome_none,Bool.false_eq_true,if_false];rw [hc j fI];simp [fI,hl,sv,df]
 obtain⟨fn,sW,Gm,LN⟩:=hF.out;obtain⟨bd,LO⟩:∃c,fn.body=some c:=by
  cases h:fn.body with
  | none=>rw [h]at LN;cases LN
  | some c=>exact⟨c,rfl⟩
 have eg:∀args w,(callFunc G args).run prog w= .ok (.enter G args) w:=enters_of sW Gm LO;have hC:CmpLays prog G #[] (tO ss n) 1 (fun a b:Fin n=>cf a b) g o (Array.ofFn fun j:Fin n=>j).size w:=fun m os dk UL a b=>by
  have nW:dk.size=n:=by rw [UL,rG]
  have hW:=hS.OO hk hh hg hs m dk nW os;have h5:=UF _ (dk.toList.map fun j=>j.val) (by simp [nW]) (fun j hj=>by obtain⟨x,_,rfl⟩:=fx.1 hj;exact x.2) (by rw [List.map_map];exact hW) a b a.2 b.2;refine Calls.mono h5 fun x w' ⟨v,hx,hv,aA,hd⟩=>?_
  subst hv;exact⟨hx,aA.below.grow hd⟩
 have hO:SWO (ltOf fun a b:Fin n=>cf a b):= {
  irrefl:=fun a=>by simpa [ltOf]using(Hc a a a a.2 a.2 a.2).1
  trans:=fun a b c h h'=>by simp only [ltOf,decide_eq_true_iff]at*;exact(Hc a b c a.2 b.2 c.2).2.1 h h'
  ntrans:=fun a b c h h'=>by simp only [ltOf,decide_eq_false_iff_not]at*;exact(Hc a b c a.2 b.2 c.2).2.2 h h' }
 have key:=AnyQ.slices_SortFunc NK 1 (fun w=>by kernel_rfl) (fun w=>by kernel_rfl) (tO ss n) (fun _=>rfl) (fun x v hv=>by simp [tO]at hv;subst hv;rfl) (fun a b:Fin n=>cf a b) hO G #[] g o c (Array.ofFn fun j:Fin n=>j) w eg hC hH cI (by rw [rG];omega);rw [rG]at key;refine Calls.mono key fun x w' ⟨hx,d',m,os,hp,Ha,hw⟩=> ⟨_,hx,O,d'.toList.map (fun j=>j.val),?_,?_,?_⟩
 ·obtain⟨hz,_,rS⟩:=hp;rw [rG]at hz;have e1:d'.extract 0 n=d':=by have:=Array.extract_size (xs:=d');rwa [hz]at this
  have e2:(Array.ofFn fun j:Fin n=>j).extract 0 n=Array.ofFn fun j:Fin n=>j:=by
   have:=Array.extract_size (xs:=Array.ofFn fun j:Fin n=>j)
   rwa [rG]at this
  rw [e1,e2]at rS;have h6:=rS.map (fun j:Fin n=>j.val);have e3:(Array.ofFn fun j:Fin n=>j).toList.map (fun j:Fin n=>j.val)=List.range n:=by
   apply gD
   ·simp
   ·intro j h1 h2;simp
  rw [e3]at h6;exact h6
 ·have hz:=hp.1;rw [rG]at hz;rw [nJ,List.pairwise_iff_getElem];intro a b ha hb jn;have F9:a<d'.size:=by simpa using ha
  have kr:b<d'.size:=by simpa using hb
  have h7:=Ha a b (bA _) jn (by omega);simp only [ltOf,decide_eq_false_iff_not,getElem!_pos d' a F9,getElem!_pos d' b kr]at h7;simpa using h7
 ·subst hw;have hz:=hp.1;rw [rG]at hz;rw [List.map_map];exact hS.OO hk hh hg hs m d' hz os
end
section
open Go.RowKit
variable{w0 w w':aa}{ks:List Ck}
theorem NB(N:Nat)(xss:ag):∀k,(fe N xss k).length=xss.length
 | 0=>by rw [fe,mh]
 | k+1=>by
  rw [fe]
  split
  ·rw [mh]
  ·exact NB N xss k
theorem HF(N:Nat)(xss:ag):(gO N xss).length=xss.length:=NB N xss N
def YG:cq:=⟨cJ,[],[]⟩
def mv(ms:List cq)(j:Nat):cq:=ms.getD j YG
theorem NU{ms:List cq}{j:Nat}(hj:j<ms.length):mv ms j=ms[j]:=by simp [mv,df,dL hj]
theorem NV{ms:List cq}{j:Nat}(hj:j<ms.length):mv ms j∈ms:=by rw [NU hj];exact dd _
theorem Iv(ms:List cq)(j:Nat):sv (ms.map (·.top)) j=(mv ms j).top:=by
 simp only [sv,mv,df,List.getElem?_map];cases ms[j]?<;>rfl
theorem YO(ms:List cq):(List.range ms.length).map (mv ms)=ms:=by
 apply gD
 ·simp
 intro j h1 h2;simp [NU h2]
theorem Z4{A:ai}{c:Nat}{ms:List cq}(bq:∀m∈ms,m.ok)(pX:∀m∈ms,m.top.n<=9223372036854775807)(hn:ms.length<=4000000000000)(hS:St w0 w (aV 37 A ms.length c (ms.map (·.top))::(ks++dv 24 2 ms))):
 aE prog 138 [.slice A ms.length c,.func (.func 139) #[] #[]] w (fun v w'=>v= .tuple #[]/\∃qL:List cq,qL.Perm ms/\(qL.map (·.xss)).Pairwise mx/\
  St w0 w' (aV 37 A qL.length c (qL.map (·.top))::(ks++dv 24 2 qL))):=by
 refine aE.mono (Z3 0 hS O hn 139 (fun a b=>dZ (mv ms a).xss (mv ms b).xss) (fun a b c _ _ _=> ⟨?_,fun h h'=>DJ h h',fun h h'=>Nz (a:=(mv ms c).xss) (b:=(mv ms b).xss) h' h⟩) (fun w' q hq Ak hW a b ha hb=>?_)) ?_
 ·rw [wc.2 rfl];omega
 ·have hr:∀j,j<ms.length->bl w' (mv ms j).top.a (mv ms j).top.n (mv ms j).rs (mv ms j).xss:=fun j hj=>by
   have hm:=NV hj;exact hW.oh (c:=(mv ms j).top.c) (t1:=24) (t2:=2) (((sn hm).trans (dD _ _)).trans (List.sublist_cons_self _ _)) (bq _ hm)
  rw [Iv,Iv];exact JO _ _ _ _ _ _ _ _ _ _ _ (hr a ha) (hr b hb) (pX _ (NV ha))
 rintro v w' ⟨hv,q,hp,hs,hW⟩;have rR:(q.map (mv ms)).Perm ms:=by have:=hp.map (mv ms);rwa [YO]at this
 refine⟨hv,q.map (mv ms),rR,?_,?_⟩
 ·rw [List.map_map,nJ];exact hs
 have e1:q.map (sv (ms.map (·.top)))=(q.map (mv ms)).map (·.top):=by
  rw [List.map_map];exact pg fun j _=>Iv ms j
 rw [e1]at hW;have hW:St w0 w' (aV 37 A ms.length c ((q.map (mv ms)).map (·.top))::(ks++dv 24 2 ms)):=hW;rw [rR.length_eq];exact hW.perm (List.Perm.cons _ (List.Perm.append_left _ (NP rR.symm)))
def eh(rank flags:Int):List Mx:=if Small rank flags then od rank.toNat flags.toNat else []
def uH(rank flags:Int):Int:=if Small rank flags then 0 else 2
theorem BX(rank flags:Int)(w:aa):
 aE prog 73 [aj rank,aj flags] w (fun v w'=>∃A c,∃ms:List cq,v= .tuple #[.slice A ms.length c,aj (uH rank flags)]/\ms.map (·.xss)=eh rank flags/\(∀m∈ms,m.ok)/\
  St w w' (aV 37 A ms.length c (ms.map (·.top))::dv 24 2 ms)):=by
 refine bm func73 O ntmps73 O (my O) (aY O (aH (Hs rank flags _) O ?_));rintro _ w ⟨rfl,rfl⟩
 first | refine dM rfl rfl ?_ | refine eI rfl rfl ?_
 refine az O (aM _ O (fun h=>?_) (fun h=>?_))
 ·have hs:¬Small rank flags:=h;refine cE O (uT O O ?_);exact⟨none,0,[],by rw [uH,aC hs];rfl,by rw [eh,aC hs];rfl,fun m hm=> (nomatch hm),(St.refl _).nil _⟩
 have hs:Small rank flags:=gC.1 h;obtain⟨n,rfl⟩:∃n:Nat,rank=n:=⟨rank.toNat,by have:=hs.1;omega⟩;obtain⟨F,rfl⟩:∃F:Nat,flags=F:=⟨flags.toNat,by have:=hs.2;omega⟩;have pW:=hs.1;have uB:=hs.2;have hn:1<=n/\n<=4:=by omega
 have hF:2<=F/\F<=12:=by omega
 have eL:eh n F=od n F:=by rw [eh,aJ hs];rfl
 have eK:uH n F=0:=by rw [uH,aJ hs]
 refine aD O (aH (ZL n F hn hF _) O ?_);rintro _ w1 ⟨A6,c6,all,rfl,bq,ct,aA⟩;have pX:=zj hn hF (F*n+1);rw [<-ct,fQ]at pX;have vR:∀m∈all,bj m.xss/\Inv n F m.xss F (F*n):=fun m hm=>zi (by omega) (by omega) (by rw [pv,<-ct];exact List.mem_map_of_mem hm)
 have ta:∀m∈all,(gO F m.xss=m.xss↔kZ F m.xss):=fun m hm=>N8 (n:=n) (by omega) (by omega) (by rw [pv,<-ct];exact List.mem_map_of_mem hm)
 have hlen:∀m∈all,m.xss.length=n:=fun m hm=> (vR m hm).2.dz.1
 have kQ:∀m∈all,m.top.n=n:=fun m hm=>by rw [<-bq m hm];exact hlen m hm
 have s4:∀m∈all,F=(gl m.xss 0).length:=fun m hm=> ((vR m hm).2.dz.row (i:=0) (by omega)).symm
 have oH:=aA.eG 0 O;have uy:∀m∈all,bl w1 m.top.a n m.rs m.xss:=fun m hm=>by
  have:=aA.oh (c:=m.top.c) (t1:=24) (t2:=2) ((sn hm).trans (List.sublist_cons_self _ _)) (bq m hm);rw [kQ m hm]at this;exact this
 have aB:=(St.refl w1).nil 37;refine aZ O O (az O ?_);refine Cd.loop (α:=Nat×(ai×Nat)) (fun s=> [(6,.slice s.2.1 (gg F (all.take s.1)).length s.2.2),(15,.slice A6 all.length c6),(16,aj (all.length:Int)),(17,aj (s.1:Int))]) (fun s w'=>St w1 w' [aV 37 s.2.1 (gg F (all.take s.1)).length s.2.2 ((gg F (all.take s.1)).map (·.top))]/\s.1<=all.length) (fun s=>all.length - s.1) (0,(none,0)) (ac4 O) ⟨aB,bA _⟩ ?_;rintro⟨i,⟨B6,c7⟩⟩ e w4 ⟨aG,hi⟩;dsimp only at aG hi|-;have VN:(gg F (all.take i)).length<=i:=by
  have h2:=ox (fun m:cq=>decide (kZ F m.xss)) (all.take i);have h3:(gg F (all.take i)).length<=(all.take i).length:=h2;rw [ra]at h3;omega
 refine b7 O (aM _ O (fun h1=>?_) (fun h1=>?_))
 ·have di:i<all.length:=by omega
  have hm:=dd di;have AA:=wF di;have vw:=oH.aq aG.below;have hX:=(uy _ hm).aq aG.below;have oS:=OH (F:=F) di;have vC:=(vR _ hm).1;have F6:=s4 _ hm;have Lv:=ta _ hm;refine aD O (ay vw.2 O (oz vw O (by omega) O ?_));rw [AA,kQ _ hm];generalize Ui:all[i]=X at*;have F7:(⟨X.top.a,n,X.top.c⟩:aO)=X.top:=by rw [<-kQ _ hm]
  refine eH aG O fun A8 w5 aR=>bR 1 0 aR O O O O O O O ?_;intro w6 aQ;have aQ:St w1 w6 [Bx 37 1 A8 [.slice X.top.a n X.top.c],aV 37 B6 (gg F (all.take i)).length c7 ((gg F (all.take i)).map (·.top))]:=aQ;have pD:=aQ.rd 0 O;have CP:=(uy _ hm).aq aQ.below;refine az O ?_;refine dK [.ex (.agg #[.slice (X.top.a) (n) (X.top.c)]),.pr (fun v w'=>∃A9 c9 wu,v= .agg #[.slice A9 n c9]/\bl w' A9 n wu (gO F X.xss)),.ex (.agg #[.slice (X.top.a) (n) (X.top.c)]),xB (decide (gO F X.xss=X.xss))] rfl (lx (cL.2 ⟨Yd.cQ (fun v w w' h hb=>by obtain⟨A9,c9,wu,hv,hT⟩:=h;exact⟨A9,c9,wu,hv,hT.aq hb⟩),(lx (lx (fun _ h=>by cases h)))⟩)) ?_ ?_
  ·refine⟨fun _ _ hb _ _=>ac3 0 (pD.below hb) O Az,?_,fun _ _ hb _ _=>ac3 0 (pD.below hb) O Az,?_,au⟩
   ·intro e1 w1 hb hp aX;refine aH (NA X.top.a n X.top.c X.rs X.xss F _ (CP.aq hb) vC F6) O ?_;rintro _ w9 ⟨A9,c9,wu,rfl,hl9,Dv⟩;refine ak.n ?_;exact eA.dn Dv.below ⟨A9,c9,wu,O,Dv.oh (dA _) (by rw [HF];exact hlen _ hm)⟩
   intro e1 w1 hb hp aX;obtain⟨A9,c9,wu,FE,hT⟩:=(hp 1 (by decide) rfl _ _ rfl rfl);refine acW (OE A9 n c9 wu _ X.top.a n X.top.c X.rs X.xss _ hT (CP.aq hb) (by omega)) O (by exact bw (fun v=> [v,Value.agg #[.slice X.top.a n X.top.c]]) FE) O ?_;rintro _ w9 ⟨rfl,Dv⟩;exact ak.n (eA.dn Dv.below O)
  intro uu w7 vG _;have a6:=aQ.aq vG;refine fw O (aM _ O (fun h2=>?_) (fun h2=>?_))
  ·rw [aJ (Lv.1 h2)]at oS;have e1:(gg F (all.take i)++ [X]).length=(gg F (all.take i)).length+1:=by simp
   refine aD O (ac3 0 (a6.rd 0 O) O (yK a6 O O O ?_));intro bI w8 a7;rw [F7]at a7;refine km 2 a7 O (a7.eG 0 O) O O O (by omega) (by omega) O ?_;intro iE iT w9 aW;have aW:St w1 w9 [aV 37 bI 1 1 [X.top],Bx 37 1 A8 [.slice X.top.a n X.top.c],aV 37 iE ((gg F (all.take i)).length+1) iT ((gg F (all.take i)).map (·.top)++ [X.top])]:=aW;refine ao O (aL O (aU O (tQ ?_)));refine⟨(i+1,(iE,iT)),by show all.length - (i+1)<all.length - i;omega,⟨by show Value.slice _ _ _= .slice _ (gg F (all.take (i+1))).length _;rw [oS,e1],O,O,O,au⟩,?_,di⟩;show St w1 w9 [aV _ iE (gg F (all.take (i+1))).length iT ((gg F (all.take (i+1))).map (·.top))];rw [oS,e1,lF];exact aW.tail.tail
  rw [aC (fun h=>h2 (Lv.2 h))]at oS;refine aD O (aL O (aU O (tQ ?_)));refine⟨(i+1,(B6,c7)),by show all.length - (i+1)<all.length - i;omega,⟨by show Value.slice _ _ _= .slice _ (gg F (all.take (i+1))).length _;rw [oS],O,O,O,au⟩,?_,di⟩;show St w1 w7 [aV _ B6 (gg F (all.take (i+1))).length c7 ((gg F (all.take (i+1))).map (·.top))];rw [oS];exact a6.tail
 have cS:i=all.length:=by omega
 subst cS;rw [List.take_length]at*;have qF:∀m∈gg F all,m∈all:=fun m hm=> (jb.1 hm).1
 have hj:St w w4 (aV 37 B6 (gg F all).length c7 ((gg F all).map (·.top))::([]++dv 24 2 (gg F all))):=by
  refine(aA.call aG).sub ?_;refine List.Sublist.cons_cons _ ((HR List.filter_sublist).trans (List.sublist_cons_self _ _))
 have U7:(gg F all).map (·.xss)=wh n F:=by
  rw [wh,pv,<-ct,gg,List.filter_map]
  rfl
 refine bo O (bp (cn O ?_));refine aH (Z4 (fun m hm=>bq m (qF m hm)) (fun m hm=>by rw [kQ m (qF m hm)];omega) (by omega) hj) O ?_;rintro _ w5 ⟨rfl,qL,hp,Ha,aR⟩;refine bu O (uT O O ?_);have e2:qL.map (·.xss)=od n F:=YX (by rw [<-U7];exact hp.map _) Ha;exact⟨B6,c7,qL,by rw [eK,hp.length_eq],by rw [eL];exact e2,fun m hm=>bq m (qF m (hp.mem_iff.1 hm)),aR⟩
structure u6(w:aa)(A:ai)(ms:List cq):Prop where
 top:gp w A ms.length (ms.map (·.top))
 row:∀m∈ms,bl w m.top.a m.top.n m.rs m.xss
theorem u6.aq{A:ai}{ms:List cq}(h:u6 w A ms)(hb:Below w.heap.size w w'):u6 w' A ms:=⟨h.top.aq hb,fun m hm=> (h.row m hm).aq hb⟩
theorem St.HU{A:ai}{c:Nat}{ms:List cq}(h:St w0 w ks)(bq:∀m∈ms,m.ok)(hs:(aV 37 A ms.length c (ms.map (·.top))::dv 24 2 ms).Sublist ks):u6 w A ms:=
 ⟨(h.sub hs).eG 0 rfl,fun m hm=>h.oh (c:=m.top.c) (t1:=24) (t2:=2) (((sn hm).trans (List.sublist_cons_self _ _)).trans hs) (bq m hm)⟩
theorem u6.at_{A:ai}{ms:List cq}(h:u6 w A ms){i:Nat}(hi:i<ms.length):bl w (rg (ms.map (·.top)) i).a (rg (ms.map (·.top)) i).n (ms[i]).rs (ms[i]).xss:=by
 rw [wF hi];exact h.row _ (dd hi)
def Pn(L:List Mx)(K:Int)(w:aa)(v:ab)(w':aa):Prop:=∃A c,∃ms:List cq,v= .tuple #[.slice A ms.length c,aj K]/\ms.map (·.xss)=L/\(∀m∈ms,m.ok)/\St w w' (aV 37 A ms.length c (ms.map (·.top))::dv 24 2 ms)
theorem HN{rank flags:Int}{L:Mx}(h:L∈eh rank flags):Small rank flags/\L.length=rank.toNat/\(∀x∈L,x.length=flags.toNat)/\L.length<=4/\∀x∈L,x.length<=12:=by
 unfold eh at h
 split at h
 ·rename_i hs;have h1:=hs.1;have h2:=hs.2;have hL:=(zi (by omega) (by omega) (DK.1 h).1).2.dz;exact⟨hs,hL.1,hL.2,by rw [hL.1];omega,fun x hx=>by rw [hL.2 x hx];omega⟩
 cases h
theorem Bd(rank flags:Int):(eh rank flags).length<=4000000000000:=by
 unfold eh
 split
 ·rename_i hs;have h1:=hs.1;have h2:=hs.2;rw [Yt];exact lI (Y0 _ _) (zj (n:=rank.toNat) (F:=flags.toNat) (by omega) (by omega) _)
 exact bA _
theorem St.Oy{m:cq}(h:St w0 w ks)(hs:(m.fc 24 2).Sublist ks):m.rs.length=m.top.n:=by
 have:=((h.own (aV 24 m.top.a m.top.n m.top.c m.rs) (hs.subset (by simp [cq.fc,aK]))).OW (qJ _)).1;simpa using this
def Cb(rank flags:Int):Int:=((eh rank flags).length:Nat)
theorem WE(rank flags:Int)(w:aa):aE prog 51 [aj rank,aj flags] w (fun v w'=>v= .tuple #[aj (Cb rank flags),aj (uH rank flags)]/\St w w' []):=by
 refine bm func51 O ntmps51 O (my O) (aY O (aH (BX rank flags _) O ?_));rintro _ w2 ⟨A,c,ms,rfl,hL,bq,hS⟩;refine ao O (aH (Iq _ _ _ _) O ?_);rintro _ w2 ⟨rfl,rfl⟩;refine bu O (Br O O ?_);exact⟨by rw [Cb,<-hL,fQ],hS.none⟩
theorem YC{n F:Nat}{ms:List cq}(hn:0<n)(hF:0<F)(hL:ms.map (·.xss)=od n F){i:Nat}(hi:i<ms.length):bj ms[i].xss/\F=(gl ms[i].xss 0).length/\kZ F ms[i].xss:=by
 have hm:ms[i].xss∈od n F:=by rw [<-hL];exact List.mem_map_of_mem (dd hi)
 obtain⟨h1,h2⟩:=DK.1 hm;obtain⟨h3,h4⟩:=zi hn hF h1;exact⟨h3,(h4.dz.row (i:=0) hn).symm,h2⟩
section
variable {P:Program} {N:Nat} {ops:Array Oper} {K:Env->aa->Prop} {rest:List Oper} {e:Env} {w:aa} {d:Nat} {ty:ad} {pos:String} {af:Array Edge}
theorem Qf{F:FuncId}{x y:ae}{v1 v2:ab}(hx:ev e x=v1)(hy:ev e y=v2)(hb:Nat.blt d N=true)(hK:ak P N ops K rest (bt e d (.func (.func F) #[] #[v1,v2])) w):
 ak P N ops K (⟨some d,.makeFunc (.func F) #[] #[x,y],ty,pos,af,none⟩::rest) e w:=
 .val (by simp [execOp,Instr.makeFunc,hx,hy]) hb hK
end
def va(lo hi:Int)(xs:ah):Prop:=∀x∈xs,lo<=x/\x<=hi
instance (lo hi:Int)(xs:ah):Decidable (va lo hi xs):=by unfold va;exact inferInstance
theorem QP(x lo hi:Int)(P1 P2:ai)(w:aa)(h1:Rd w P1 1 (fun _=>aj lo))(h2:Rd w P2 1 (fun _=>aj hi)):
 aE prog 185 [aj x,.pointer P1,.pointer P2] w (fun v w'=>v= .bool (decide (¬(lo<=x/\x<=hi)))/\w'=w):=by
 refine bm func185 O ntmps185 O (bU O) (aY O ?_);refine ak.ld h1 (by exact bw Value.pointer (lC P1).symm) (by decide) O O O ?_;refine ak.ld h2 (by exact bw Value.pointer (lC P2).symm) (by decide) O O O ?_;refine aH (qU _ _ _ _) O ?_;rintro _ w ⟨rfl,rfl⟩
 first | refine dM rfl rfl ?_ | refine eI rfl rfl ?_
 refine bu O (bQ O ?_);exact⟨O,O⟩
theorem PH(A:ai)(n c:Nat)(xs:ah)(lo hi:Int)(P1 P2:ai)(w:aa)(hR:cd w A n xs)(hn:n<=9223372036854775807)(h1:Rd w P1 1 (fun _=>aj lo))(h2:Rd w P2 1 (fun _=>aj hi)):
 aE prog 232 [.slice A n c,.func (.func 185) #[] #[.pointer P1,.pointer P2]] w (fun v w'=> (∃i:Int,v=aj i/\(0<=i↔¬va lo hi xs))/\w'=w):=by
 have bP:=hR.1;refine bm func232 O ntmps232 O (bU O) ?_;refine aY O (aZ O O (az O ?_));refine Cd.loop (α:=Nat) (fun k=> [(0,.slice A n c),(1,.func (.func 185) #[] #[.pointer P1,.pointer P2]),(7,aj n),(8,aj k)]) (fun k w'=>w'=w/\k<=n/\∀j,j<k->lo<=gi xs (j:Nat)/\gi xs (j:Nat)<=hi) (fun k=>n - k) 0 (ac4 O) ⟨O,bA _,fun j hj=>by omega⟩ ?_;rintro k e w ⟨rfl,hk,hK⟩;refine b7 O (aM _ O (fun h3=>?_) (fun h3=>?_))
 ·refine aD O (ay hR.2 O (bc hR O (aH (QP _ lo hi P1 P2 _ h1 h2) O ?_)));rintro _ w ⟨rfl,rfl⟩;refine az O (aM _ O (fun h4=>?_) (fun h4=>?_))
  ·refine cE O (de (cT ?_));refine fP O ?_;exact⟨⟨(k:Int),O,⟨fun _ ha=>h4 (by rw [bN (by omega)];exact ha _ (dd _)),fun _=>by omega⟩⟩,O⟩
  refine aD O (aL O (aU O (tQ ?_)));refine⟨k+1,by show n - (k+1)<n - k;omega,(ac4 O),O,by omega,fun j hj=>?_⟩
  by_cases ej:j=k
  ·subst ej;exact gC.1 h4
  exact hK j (by omega)
 refine bo O (bp (e6 O ?_));refine fP O ⟨⟨-1,O,⟨fun h=>absurd h (by decide),fun h=>absurd (fun x hx=>?_) h⟩⟩,O⟩;obtain⟨j,hj,rfl⟩:=gu.1 hx;have:=hK j (by omega)
 rwa [bN hj]at this
theorem Pw(A:ai)(n c:Nat)(xs:ah)(lo hi:Int)(P1 P2:ai)(w:aa)(hR:cd w A n xs)(hn:n<=9223372036854775807)(h1:Rd w P1 1 (fun _=>aj lo))(h2:Rd w P2 1 (fun _=>aj hi)):
 aE prog 184 [.slice A n c,.func (.func 185) #[] #[.pointer P1,.pointer P2]] w (fun v w'=>v= .bool (decide (¬va lo hi xs))/\w'=w):=by
 refine bm func184 O ntmps184 O (bU O) (aY O (aH (PH A n c xs lo hi P1 P2 _ hR hn h1 h2) O ?_));rintro _ w ⟨⟨i,rfl,di⟩,rfl⟩;refine bu O (bQ O ?_);exact⟨bw Value.bool (kc.2 di),O⟩
theorem QQ(A:ai)(n c:Nat)(xs:ah)(lo hi:Int)(w:aa)(hR:cd w A n xs)(hn:n<=9223372036854775807):
 aE prog 114 [.slice A n c,aj lo,aj hi] w (fun v w'=>v= .bool (decide (va lo hi xs))/\St w w' []):=by
 refine bm func114 O ntmps114 O (bU O) (aY O ?_);refine ak.box (v:=aj lo) (St.refl w) O O (by show(1:Nat)<=maxLen;simp [maxLen]) ?_;intro P1 w1 aB;have aB:St w w1 [Bx 2 1 P1 [aj lo]]:=aB;refine ak.box (v:=aj hi) aB O O (by show(1:Nat)<=maxLen;simp [maxLen]) ?_;intro P2 w2 aw;have aw:St w w2 [Bx 2 1 P2 [aj hi],Bx 2 1 P1 [aj lo]]:=aw;refine ao O (Qf O O O (aH (Pw A n c xs lo hi P1 P2 _ (aw.dY hR) hn (Rd.one (aw.rd 1 O)) (Rd.one (aw.rd 0 O))) O ?_));rintro _ w2 ⟨rfl,rfl⟩
 first | refine dM rfl rfl ?_ | refine eI rfl rfl ?_
 refine bu O (bQ O ?_);exact⟨by simp,aw.none⟩
def IP(n:Nat)(ws:ah):Prop:=va 0 ((n:Int) - 1) ws/\ws.length<=64
instance (n:Nat)(ws:ah):Decidable (IP n ws):=by unfold IP;exact inferInstance
section
variable {P:Program} {N:Nat} {ops:Array Oper} {K:Env->aa->Prop} {rest:List Oper} {e:Env} {w0 w:aa} {ks:List Ck} {d:Nat} {ty:ad} {pos:String} {af:Array Edge}
theorem OK:∀(cs vs:List ab) (o m:Nat),m<=o->(oo vs o cs).take m=vs.take m
 | [],_,_,_,_=>rfl
 | c::r,vs,o,m,h=>by
  show(oo (vs.set o c) (o+1) r).take m=_;rw [OK r _ _ _ (by omega),List.take_set_of_le h]
theorem M7:∀ {vs:List ab} (o:Nat) (cs:List ab),dX vs=false->(∀u∈cs,u.oneCell'=true)->dX (oo vs o cs)=false
 | _,_,[],h,_=>h
 | vs,o,c::r,h,hc=>M7 (o+1) r (M6 o h (hc c (by simp))) fun u hu=>hc u (by simp [hu])
theorem Qc{t el:ad}{z z0:ab}{b:Nat}[bK P t (.slice el)][bF P el z 1 b]{x:ae}(i l:Nat){k:Ck}{n' c':Nat}(hS:St w0 w ks)(hk:ks[i]?=some k)(hl:l<k.n)(pT:n'=k.n - l)(hx:ev e x= .slice (cutAt k.A k.c l) n' c')(hz:z.cells= #[z0])(h1:z0.oneCell'=true)(hK:∀w',St w0 w' (ks.set i { k with n:=l,vs:=k.vs.take l })->ak P N ops K rest e w')(hM:dX k.vs=false:=by first | rfl | exact oX _ | exact AM _ | exact qJ _):
 ak P N ops K (⟨none,.call ⟨.builtin .clear, #[x], #[t]⟩,ty,pos,af,none⟩::rest) e w:=by
 obtain⟨inf,hi,eM,hs,ib⟩:=bF.get P el;obtain⟨AB,ku,nV,-⟩:=hS.nO hk hM;have cI:=(ga.1 hk).1;obtain⟨p,hp,_⟩:=(hS.rd i hk) l hl;have rF:cutAt k.A k.c l=some p:=by unfold cutAt;rw [if_neg (by omega)];exact hp
 obtain⟨w',nt,lR⟩:=Im (P:=P) (k:=k) i (List.replicate (k.n - l) z0) ks k.vs w l p hS hk hp (by simp;omega) (fun u hu=>by rw [List.eq_of_mem_replicate hu];exact h1) l p hp (by omega) (by omega);have aw:=lR.shrink i (k:= { k with vs:=oo k.vs l (List.replicate (k.n - l) z0) }) (by rw [kX];simp [cI]) l (by show l<=k.n;omega) (M7 _ _ hM (fun u hu=>by rw [List.eq_of_mem_replicate hu];exact h1));rw [iH]at aw;have e1:({ ({ k with vs:=oo k.vs l (List.replicate (k.n - l) z0) }:Ck)with n:=l,vs:=({ k with vs:=oo k.vs l (List.replicate (k.n - l) z0) }:Ck).vs.take l }:Ck)= { k with n:=l,vs:=k.vs.take l }:=by
  show({ k with n:=l,vs:=(oo k.vs l (List.replicate (k.n - l) z0)).take l }:Ck)=_;rw [OK _ _ _ _ (dE _)]
 rw [e1]at aw;have ye:(Builtin.zeroCells z.cells (k.n - l)).toList=List.replicate (k.n - l) z0:=by
  rw [hz];simp [Builtin.zeroCells];apply gD
  ·simp
  intro i h1 h2;simp [Nat.mod_one]
 rw [Nat.sub_self]at nt;have hm:k.n - l=(k.n - l - 1)+1:=by omega
 generalize k.n - l - 1=m at hm;have hv:∀w,(zeroValue el).run P w= .ok z w:=fun w=>by simp [zeroValue,typeInfo,hi,eM]
 rw [pT,rF,hm]at hx;rw [hm]at ye nt;refine .O7 (v:= .tuple #[]) (w':=w') ?_ (hK _ aw);simp [execOp,resolve,invoke,builtin,hx,Builtin.clear_,run_underlying (bK.out (P:=P) (t:=t)),hv,ye,nt]
end
theorem WK(A:ai)(n c:Nat)(ss:List aO)(G:FuncId)[hF:bk prog G](pd:Nat->Bool)(w:aa)(hR:gp w A n ss)(hn:n<=4000000000000)(xF:∀(w':aa) (j:Nat),Below w.heap.size w w'->j<n->aE prog G [.agg #[(rg ss j).v]] w' (fun v iq=>v= .bool (pd j)/\St w' iq [])):
 aE prog 140 [.slice A n c,.func (.func G) #[] #[]] w (fun v w'=> (∃i:Int,v=aj i/\((i= -1/\∀j,j<n->pd j=false)\/∃k:Nat,k<n/\i=k/\pd k=true/\∀j,j<k->pd j=false))/\St w w' []):=by
 refine bm func140 O ntmps140 O (bU O) ?_;refine aY O (aZ O O (az O ?_));refine Cd.loop (α:=Nat) (fun k=> [(0,.slice A n c),(1,.func (.func G) #[] #[]),(7,aj n),(8,aj k)]) (fun k w'=>St w w' []/\k<=n/\∀j,j<k->pd j=false) (fun k=>n - k) 0 (ac4 O) ⟨St.refl w,bA _,fun j hj=>by omega⟩ ?_;rintro k e w1 ⟨hS,hk,hK⟩;refine b7 O (aM _ O (fun h3=>?_) (fun h3=>?_))
 ·have dp:k<n:=by omega
  have fT:=hR.aq hS.below;refine aD O (ay fT.2 O (oz fT O (by omega) O (aH (xF w1 k hS.below dp) O ?_)));rintro _ w2 ⟨rfl,aA⟩;have aw:=hS.aq aA.below;rw [show pd k=decide (pd k=true) by simp];refine az O (aM _ O (fun h4=>?_) (fun h4=>?_))
  ·refine cE O (de (cT ?_));exact fP O ⟨⟨(k:Int),O,.inr ⟨k,dp,O,h4,hK⟩⟩,aw⟩
  refine aD O (aL O (aU O (tQ ?_)));refine⟨k+1,by show n - (k+1)<n - k;omega,(ac4 O),aw,by omega,fun j hj=>?_⟩
  by_cases ej:j=k
  ·subst ej;simpa using h4
  exact hK j (by omega)
 refine bo O (bp (e6 O ?_));exact fP O ⟨⟨-1,O,.inl ⟨O,fun j hj=>hK j (by omega)⟩⟩,hS⟩
def l5(pd:Nat->Bool)(j:Nat):List Nat:=(List.range j).filter fun x=>!pd x
theorem vZ(pd:Nat->Bool)(j:Nat):l5 pd (j+1)=if pd j=true then l5 pd j else l5 pd j++ [j]:=by
 unfold l5;rw [rb,List.filter_append]
 by_cases h:pd j=true
 ·rw [aJ h];simp [h]
 rw [aC h];simp [h]
theorem Ht{pd:Nat->Bool}:∀ {j:Nat},(∀x,x<j->pd x=false)->l5 pd j=List.range j:=fun {j} h=>by
 unfold l5;rw [List.filter_eq_self];intro x hx;rw [h x (jN.1 hx)];rfl
theorem Z9{ss:List aO}{n:Nat}(h:ss.length=n):(List.range n).map (fun j=>ss.getD j cJ)=ss:=by
 subst h;apply gD
 ·simp
 intro i h1 h2;simp [df,h2]
theorem RU{w0 w:aa}{ks:List Ck}(i:Nat){t:ad}{A:ai}{n c:Nat}{ss:List aO}(hS:St w0 w ks)(hk:ks[i]?=some (aV t A n c ss))(hn:n<=4000000000000)(G:FuncId)[hF:bk prog G](pd:Nat->Bool)(xF:∀(w':aa) (q:List Nat),q.length=n->St w0 w' (ks.set i (aV t A n c (q.map fun j=>ss.getD j cJ)))->∀a,a<n->aE prog G [.agg #[(ss.getD a cJ).v]] w' (fun v iq=>v= .bool (pd a)/\St w' iq [])):
 aE prog 74 [.slice A n c,.func (.func G) #[] #[]] w (fun v w'=>v= .slice A (l5 pd n).length c/\St w0 w' (ks.set i (aV t A (l5 pd n).length c ((l5 pd n).map fun j=>ss.getD j cJ)))):=by
 have jW:i<ks.length:=(ga.1 hk).1;obtain⟨h1,h2,h3,-⟩:=hS.nO hk (qJ _);have Du:ss.length=n:=by have:(ss.map aO.v).length=n:=h1;simpa using this
 have h2:n<=c:=h2;have h3:c<=maxLen:=h3;have hid:ks.set i (aV t A n c ((List.range n).map fun j=>ss.getD j cJ))=ks:=by rw [Z9 Du,Eb hk]
 have hR:=hS.eG i hk;have Lq:∀ {w':aa},St w0 w' ks->St w0 w' (ks.set i (aV t A n c ((List.range n).map fun j=>ss.getD j cJ))):=fun h=>by rw [hid];exact h
 have get:∀l,(ks.set i l)[i]?=some l:=fun l=>by simp [jW]
 have mr:∀(q:List Nat) (j:Nat) (x:Nat),q[j]?=some x->rg (q.map fun j=>ss.getD j cJ) j=ss.getD x cJ:=fun q j x h=>by
  simp [rg,df,h]
 refine bm func74 O ntmps74 O (bU O) (aY O ?_);refine aH (WK A n c ss G pd _ hR hn (fun w' j hb hj=>xF w' (List.range n) (by simp) (Lq (hS.aq hb)) j hj)) O ?_;rintro _ w1 ⟨⟨i0,rfl,iB⟩,Wb⟩;have aB:=hS.aq Wb.below;refine az O (aM _ O (fun h5=>?_) (fun h5=>?_))
 ·have ct:∀j,j<n->pd j=false:=by
   rcases iB with⟨_,h⟩ | ⟨k,_,e,_⟩
   ·exact h
   omega
  refine cE O (fA O ?_);rw [Ht ct,pf,hid];exact⟨O,aB⟩
 obtain⟨k0,oN,rfl,x7,qE⟩:=iB.resolve_left (fun h=>h5 h.1);refine aD O (aL O (az O ?_));refine Cd.loop (α:=Nat×Nat×List Nat) (fun z=> [(0,.slice A n c),(1,.func (.func G) #[] #[]),(5,aj (z.1:Int)),(6,aj (z.2.1:Int))]) (fun z w'=>St w0 w' (ks.set i (aV t A n c (z.2.2.map fun j=>ss.getD j cJ)))/\z.2.2.length=n/\z.1<z.2.1/\z.2.1<=n/\z.1=(l5 pd z.2.1).length/\z.2.2.take z.1=l5 pd z.2.1/\∀m,z.2.1<=m->m<n->z.2.2[m]?=some m) (fun z=>n - z.2.1) (k0,k0+1,List.range n) ⟨O,O,O,by show Value.int .i64 _=aj _;congr 1,au⟩ ⟨Lq aB,by simp,Nat.lt_succ_self _,oN,by
  show k0=(l5 pd (k0+1)).length;rw [vZ,aJ x7,Ht qE,pf],by
  show(List.range n).take k0=l5 pd (k0+1);rw [vZ,aJ x7,Ht qE,List.take_range,Nat.min_eq_left (by omega)],fun m hm ic=>by simp [ic]⟩ ?_
 rintro⟨a,j,q⟩ e w2 ⟨aw,tb,Un,rJ,lU,Dj,Di⟩;dsimp only at aw tb Un rJ lU Dj Di|-;refine aY O (aZ O O (az O ?_));refine aM _ O (fun h6=>?_) (fun h6=>?_)
 ·have fI:j<n:=by omega
  have jf:=aw.eG i (get _);have VT:=Di j (dE _) fI;refine aD O (ay jf.2 O (oz jf O (by omega) O ?_));rw [mr q j j VT];refine eH aw O fun A7 w3 aI=>bR 1 0 aI O O O O O O O ?_;intro w4 aG;have aG:St w0 w4 (Bx 37 1 A7 [.slice (ss.getD j cJ).a (ss.getD j cJ).n (ss.getD j cJ).c]::ks.set i (aV t A n c (q.map fun j=>ss.getD j cJ))):=aG;refine ao O (ac3 0 (aG.rd 0 O) O (aH (xF w4 q tb aG.tail j fI) O ?_));rintro _ w5 ⟨rfl,kP⟩;have aR:=aG.aq kP.below;rw [show pd j=decide (pd j=true) by simp]
  first | refine dM rfl rfl ?_ | refine eI rfl rfl ?_
  refine az O (aM _ O (fun h7=>?_) (fun h7=>?_))
  ·have xZ:¬pd j=true:=h7;refine aD O (ac3 0 (aR.rd 0 O) O (ay (aR.tail.eG i (get _)).2 O ?_));refine ak.OP (o:=a) 1 (i+1) aR (by show(ks.set i _)[i]?=_;exact get _) O O O O O (by rw [Nat.ble_eq];show a+1<=n;omega) ?_;intro w6 aQ;have aQ:=aQ.tail;refine ao O (aL O (ao O (aL O (aU O (tQ ?_)))));refine⟨(a+1,j+1,q.set a j),by show n - (j+1)<n - j;omega,(ac4 O),?_,by show(q.set a j).length=n;rw [gR];exact tb,by show a+1<j+1;omega,fI,by show a+1=(l5 pd (j+1)).length;rw [vZ,aC xZ,e8,<-lU];rfl,?_,fun m hm ic=>?_⟩
   ·show St w0 w6 (ks.set i (aV t A n c ((q.set a j).map fun j=>ss.getD j cJ)));have e9:(ks.set i (aV t A n c (q.map fun j=>ss.getD j cJ))).set i { aV t A n c (q.map fun j=>ss.getD j cJ)with vs:=oo (aV t A n c (q.map fun j=>ss.getD j cJ)).vs a [.slice (ss.getD j cJ).a (ss.getD j cJ).n (ss.getD j cJ).c] }=ks.set i (aV t A n c ((q.set a j).map fun j=>ss.getD j cJ)):=by
     rw [iH]
     congr 1
     show({ aV t A n c (q.map fun j=>ss.getD j cJ)with vs:=((q.map fun j=>ss.getD j cJ).map aO.v).set a (ss.getD j cJ).v }:Ck)=_;simp [aV,List.map_set]
    rw [<-e9];exact aQ
   ·show(q.set a j).take (a+1)=l5 pd (j+1);rw [vZ,aC xZ,<-Dj,lG (by rw [gR];omega),List.take_set_of_le (dE _),List.getElem_set_self]
   show(q.set a j)[m]?=some m;have hm:j+1<=m:=hm;rw [kX,aC (by omega)];exact Di m (by omega) ic
  have xZ:pd j=true:=gC.1 h7;refine aD O (aL O (aU O (tQ ?_)));exact⟨(a,j+1,q),by show n - (j+1)<n - j;omega,(ac4 O),aR.tail,tb,by show a<j+1;omega,fI,by show a=(l5 pd (j+1)).length;rw [vZ,aJ xZ];exact lU,by show q.take a=l5 pd (j+1);rw [vZ,aJ xZ];exact Dj,fun m hm ic=>Di m (by have hm:j+1<=m:=hm;omega) ic⟩
 have vM:j=n:=by omega
 subst vM;refine bo O (bp (cn O ?_));refine sr (A:=A) (n:=j) (c:=c) (l:=(a:Int)) O O O (by omega) ?_;refine Qc i a aw (get _) (show a<j by omega) (by show j - _=j - a;omega) O O O ?_;intro w3 aI;rw [iH]at aI;refine ao O (u7 (A:=A) (n:=j) (c:=c) (h:=(a:Int)) O O O (by omega) (bu O (fA O ?_)));rw [<-lU];refine⟨O,?_⟩;rw [<-Dj];have e9:({ aV t A j c (q.map fun j=>ss.getD j cJ)with n:=a,vs:=(aV t A j c (q.map fun j=>ss.getD j cJ)).vs.take a }:Ck)=aV t A a c ((q.take a).map fun j=>ss.getD j cJ):=by simp [aV,List.map_take]
 rw [<-e9];exact aI
end
section
variable{l M:ag}{j:Nat}{p b R:ah}{x y d u:Int}
theorem HD{N:Nat}{xss:ag}(hs:Sys N xss)(di:pe N xss){x y:Int}(h0:0<=x)(h1:x<N)(hr:Reach xss x y):∀i,i<=N->gi (bM N xss i).1 x=gi (bM N xss i).1 y
 | 0,_=>by
  have hy:=hr.range hs h0 h1;simp only [bM,sI h0 h1,sI hy.1 hy.2]
 | i+1,hi=>by
  have hy:=hr.range hs h0 h1;have ih:=HD hs di h0 h1 hr i (by omega);have ho:=qN hs (pt:=(i:Int)) (by omega) (by omega);simp only [bM]
  split
  ·exact ih
  ·simp only;rw [tU _ _ _ (oZ N xss i) ho.1.range x h0,tU _ _ _ (oZ N xss i) ho.1.range y hy.1];have hm:x∈da N xss i↔y∈da N xss i:=by
    rw [ho.2.2,ho.2.2];exact⟨fun h=>h.trans hr,fun h=>h.trans (hr.symm hs di h0 h1)⟩
   by_cases h:x∈da N xss i
   ·rw [aJ h,aJ (hm.1 h)]
   ·rw [aC h,aC (fun h'=>h (hm.2 h')),ih]
theorem Nw{N:Nat}{xss:ag}(hs:Sys N xss)(di:pe N xss){x y:Int}(h0:0<=x)(h1:x<N)(h2:0<=y)(h3:y<N):∀i,i<=N->gi (bM N xss i).1 x=gi (bM N xss i).1 y->0<=gi (bM N xss i).1 x->Reach xss x y
 | 0,_,_,h=>by simp only [bM,sI h0 h1]at h;omega
 | i+1,hi,he,hp=>by
  have ih:=Nw hs di h0 h1 h2 h3 i (by omega);have ho:=qN hs (pt:=(i:Int)) (by omega) (by omega);have hc:=v8 N xss i;have hx:=(AW hs di i (by omega)).1 x h0 h1;have hy:=(AW hs di i (by omega)).1 y h2 h3;simp only [bM]at he hp
  split at he
  ·rename_i hl;rw [aJ hl]at hp;exact ih he hp
  ·rename_i hl;rw [aC hl]at hp;simp only at he hp;rw [tU _ _ _ (oZ N xss i) ho.1.range x h0]at he hp;rw [tU _ _ _ (oZ N xss i) ho.1.range y h2]at he
   by_cases qG:x∈da N xss i
   ·rw [aJ qG]at he
    by_cases AH:y∈da N xss i
    ·exact(((ho.2.2 x).1 qG).symm hs di (by omega) (by omega)).trans ((ho.2.2 y).1 AH)
    ·rw [aC AH]at he;omega
   ·rw [aC qG]at he hp
    by_cases AH:y∈da N xss i
    ·rw [aJ AH]at he;omega
    ·rw [aC AH]at he;exact ih he hp
theorem J2{xss:ag}{i k:Nat}(hk:k<xss.length)(b9:k≠i):gl xss k∈xss.eraseIdx i:=by
 rw [List.mem_eraseIdx_iff_getElem];exact⟨k,hk,b9,by rw [cM hk]⟩
theorem J3{xss:ag}{i:Nat}(h:p∈xss.eraseIdx i):∃k:Nat,k<xss.length/\k≠i/\p=gl xss k:=by
 rw [List.mem_eraseIdx_iff_getElem]at h;obtain⟨k,hk,b9,rfl⟩:=h;exact⟨k,hk,b9,by rw [cM hk]⟩
theorem ze{xss:ag}(hM:bj xss){i k:Nat}(hk:k<xss.length)(b9:k≠i){f:Int}(h0:0<=f)(h1:f< (gl xss 0).length):gi (dI xss i) (gi (gl xss k) f)=gi (dI xss i) f:=(HD (hM.2.2.1.sys.erase i) (hM.2.2.1.inj.erase i) h0 h1 (.step .refl (J2 hk b9)) _ (dE _)).symm
theorem Cl{xss:ag}(hM:bj xss){i:Nat}{f g:Int}(h0:0<=f)(h1:f< (gl xss 0).length)(h2:0<=g)(h3:g< (gl xss 0).length)(h:gi (dI xss i) f=gi (dI xss i) g):Reach (xss.eraseIdx i) f g:=by
 obtain⟨k,rfl⟩:∃k:Nat,f=k:=⟨f.toNat,by omega⟩;exact Nw (hM.2.2.1.sys.erase i) (hM.2.2.1.inj.erase i) h0 h1 h2 h3 _ (dE _) h (Cj hM i k (by omega)).1
theorem bj.two{xss:ag}(hM:bj xss){k:Nat}(hk:k<xss.length){f:Int}(h0:0<=f)(h1:f< (gl xss 0).length):gi (gl xss k) (gi (gl xss k) f)=f:=by
 obtain⟨q,rfl⟩:∃q:Nat,f=q:=⟨f.toNat,by omega⟩;have hr:=hM.2.2.1.at_ hk;exact(hr.2.2 q (by omega)).2
theorem bj.tl{xss:ag}(hM:bj xss){k:Nat}(hk:k<xss.length){f:Int}(h0:0<=f)(h1:f< (gl xss 0).length):0<=gi (gl xss k) f/\gi (gl xss k) f< (gl xss 0).length:=(hM.2.2.1.sys _ (by rw [cM hk];exact dd _)).2 f h0 h1
theorem bj.comm{xss:ag}(hM:bj xss){i k:Nat}(hi:i<xss.length)(hk:k<xss.length)(gy:i+2<=k){f:Int}(h0:0<=f)(h1:f< (gl xss 0).length):gi (gl xss k) (gi (gl xss i) f)=gi (gl xss i) (gi (gl xss k) f):=by
 obtain⟨q,rfl⟩:∃q:Nat,f=q:=⟨f.toNat,by omega⟩;exact(hM.2.2.2.1 i hi k hk gy q (by omega)).1
def LT(a b:ah):Prop:=fz a b<0
instance (a b:ah):Decidable (LT a b):=by unfold LT;infer_instance
theorem LT.ne{a:ah}(h:LT a b):a≠b:=fun e=>by
 unfold LT at h;rw [r5.2 e]at h;omega
def SL(l:ag):Prop:=l.Pairwise LT
theorem SL.nodup(h:SL l):l.Nodup:=h.imp fun h=>h.ne
def Ins(a b:ah):Prop:=∀x∈a,x∈b
instance (a b:ah):Decidable (Ins a b):=by unfold Ins;infer_instance
theorem IQ{a:ah}:LT (x::a) (y::b)↔x<y\/x=y/\LT a b:=by
 unfold LT;rw [fz]
 by_cases e:x=y
 ·subst e;rw [aJ (tN.2 rfl)];constructor
  ·exact fun h=> .inr ⟨O,h⟩
  rintro(h | h)
  ·omega
  exact h.2
 rw [aC (fun h=>e (tN.1 h)),zb];constructor
 ·exact fun h=> .inl h
 rintro(h | h)
 ·exact h
 exact absurd h.1 e
def IV(ls:ag)(x:ah):Prop:=x∈ls/\x≠[]/\∀y∈ls,Ins x y->y=x
instance (ls:ag)(x:ah):Decidable (IV ls x):=by unfold IV;infer_instance
def EN(x:ah):ag->Nat
 | []=>0
 | y::l=>if LT y x then EN x l+1 else 0
def Zx(l:ag)(x:ah):ag:=if x∈l then l else l.take (EN x l)++x::l.drop (EN x l)
def Oo(ls:ag):ag:=(ls.filter fun l=>decide (l≠[])).foldl Zx []
def R9(ls:ag):ag:=(Oo ls).filter fun x=>decide (∀y∈Oo ls,Ins x y->y=x)
def ix(s:ah)(x:Int):Int:=(s.idxOf x:Nat)
def RQ(ss:ag):ah:=cs ss.flatten
def IH(ss:ag):Prop:=(∃l∈ss,6<l.length)\/60< (RQ ss).length\/400< (R9 ss).length
instance (ss:ag):Decidable (IH ss):=by unfold IH;infer_instance
def dV(n:Nat):ah:=(List.range n).map fun k:Nat=> (k:Int)
theorem Ig(n:Nat):(dV n).length=n:=by simp [dV]
theorem mA(n:Nat)(x:Int):x∈dV n↔0<=x/\x<n:=by
 simp only [dV,fx,jN];exact⟨fun⟨k,hk,e⟩=>by omega,fun h=> ⟨x.toNat,by omega,by omega⟩⟩
theorem tv(n:Nat):SA (dV n):=by
 unfold SA dV;rw [nJ];exact List.pairwise_lt_range.imp fun h=>by omega
theorem Cu(x:Int)(l:ah)(i:Nat):gi (x::l) ((i+1:Nat):Int)=gi l (i:Nat):=by simp [gi]
theorem SA.uI{l:ah}(h:SA l){i:Nat}(uq:i<j)(hj:j<l.length):gi l i<gi l j:=by
 rw [bN (by omega),bN hj];exact List.pairwise_iff_getElem.1 h i j (by omega) hj uq
def jJ(R:ah)(B:ag)(e:Int):ah:=(dV R.length).filter fun f=>decide (gi R f=gi R e+1/\e∈gl B f)
theorem qd{B:ag}{e f:Int}:f∈jJ R B e↔(0<=f/\f<R.length)/\gi R f=gi R e+1/\e∈gl B f:=by
 unfold jJ;rw [jb,mA,qp]
theorem Ei(R:ah)(B:ag)(e:Int):SA (jJ R B e):=List.Pairwise.filter _ (tv _)
def nh(R:ah)(B:ag):Nat->Int->ag
 | 0,_=> [[]]
 | k+1,e=> (jJ R B e).flatMap fun f=> (nh R B k f).map (f:: ·)
def tK(R:ah):ah:=(dV R.length).filter fun e=>decide (gi R e=0)
theorem y7{e:Int}:e∈tK R↔(0<=e/\e<R.length)/\gi R e=0:=by
 unfold tK;rw [jb,mA,qp]
def dF(n:Nat)(R:ah)(B:ag):ag:=(tK R).flatMap fun e=> (nh R B (n - 1) e).map (e:: ·)
def eO(n:Nat)(R:ah)(B:ag)(e:Int):Prop:=nh R B (n - 1 - (gi R e).toNat) e≠[]
instance (n:Nat)(R:ah)(B:ag)(e:Int):Decidable (eO n R B e):=by unfold eO;infer_instance
theorem QK{n:Nat}{B:ag}{e:Int}(h:gi R e=(n:Int) - 1):eO n R B e:=by
 unfold eO;rw [show n - 1 - (gi R e).toNat=0 by omega];simp [nh]
theorem Jl{n:Nat}{B:ag}{e:Int}(h0:0<=gi R e)(h1:gi R e< (n:Int) - 1):eO n R B e↔∃f∈jJ R B e,eO n R B f:=by
 obtain⟨k,hk⟩:∃k,n - 1 - (gi R e).toNat=k+1:=⟨n - 1 - (gi R e).toNat - 1,by omega⟩;have hf:∀f∈jJ R B e,n - 1 - (gi R f).toNat=k:=fun f hf=>by
  have:=(qd.1 hf).2.1;omega
 unfold eO;rw [hk,nh];constructor
 ·intro h;obtain⟨x,hx⟩:=List.exists_mem_of_ne_nil _ h;obtain⟨f,sW,hx⟩:=List.mem_flatMap.1 hx;obtain⟨y,hy,_⟩:=fx.1 hx;exact⟨f,sW,by rw [hf f sW];exact List.ne_nil_of_mem hy⟩
 rintro⟨f,sW,h⟩;rw [hf f sW]at h;obtain⟨y,hy⟩:=List.exists_mem_of_ne_nil _ h;exact List.ne_nil_of_mem (List.mem_flatMap.2 ⟨f,sW,fx.2 ⟨y,hy,O⟩⟩)
theorem Fg{α β:Type}{p:α->Bool}{g:α->List β}:∀ {l:List α},(∀x∈l,p x=false->g x=[])->(l.filter p).flatMap g=l.flatMap g
 | [],_=>rfl
 | a::r,h=>by
  have ih:=Fg (p:=p) (g:=g) (l:=r) fun x hx=>h x (uZ _ hx)
  cases hp:p a with
  | true=>rw [List.filter_cons_of_pos hp,List.flatMap_cons,List.flatMap_cons,ih]
  | false=>rw [List.filter_cons_of_neg (by simp [hp]),List.flatMap_cons,ih,h a (by simp) hp];rfl
theorem aaJ{n:Nat}{B:ag}{e:Int}{k:Nat}(h0:0<=gi R e)(hk:(gi R e).toNat+ (k+1)=n - 1):nh R B (k+1) e=((jJ R B e).filter fun f=>decide (eO n R B f)).flatMap fun f=> (nh R B k f).map (f:: ·):=by
 rw [nh,Fg];intro f hf h;have h2:=(qd.1 hf).2.1;have h3:¬eO n R B f:=by simpa using h
 unfold eO at h3;rw [show n - 1 - (gi R f).toNat=k by omega]at h3;rw [gC.1 h3];rfl
theorem Q9{n:Nat}{B:ag}:dF n R B=((tK R).filter fun f=>decide (eO n R B f)).flatMap fun e=> (nh R B (n - 1) e).map (e:: ·):=by
 rw [dF,Fg];intro f hf h;have h2:=(y7.1 hf).2;have h3:¬eO n R B f:=by simpa using h
 unfold eO at h3;rw [h2]at h3;rw [show n - 1 - (0:Int).toNat=n - 1 by rfl]at h3;rw [gC.1 h3];rfl
def cap(l:ag):ag:=l.take 401
theorem JH(l:ag):(cap l).length<=401:=by unfold cap;rw [List.length_take];omega
theorem JG(m:ag)(h:400< (cap l).length):cap (l++m)=cap l:=by
 unfold cap at h|-;rw [ra]at h;rw [List.take_append_of_le_length (by omega)]
theorem JE(h:(cap l).length<=400):cap l=l:=by
 unfold cap at h|-;rw [ra]at h;exact jc (by omega)
theorem JF:(cap l).length<=400↔l.length<=400:=by
 unfold cap;rw [ra];omega
theorem Rk(x:ah)(h:(cap l).length<=400):cap (l++ [x])=cap l++ [x]:=by
 rw [JE h];rw [JF]at h;unfold cap;exact jc (by rw [e8,List.length_singleton];omega)
def yC(R:ah)(B:ag):Int->ah->Prop
 | _,[]=>True
 | e,f::r=>f∈jJ R B e/\yC R B f r
theorem Ch{R:ah}{B:ag}:∀ {k:Nat} {e:Int} {x:ah},x∈nh R B k e↔x.length=k/\yC R B e x
 | 0,e,x=>by
  rw [nh,iv];constructor
  ·rintro rfl;exact⟨rfl,au⟩
  ·exact fun h=>qg h.1
 | k+1,e,x=>by
  rw [nh,List.mem_flatMap];constructor
  ·rintro⟨f,hf,h⟩;obtain⟨y,hy,rfl⟩:=fx.1 h;obtain⟨h1,h2⟩:=Ch.1 hy;exact⟨by rw [List.length_cons,h1],hf,h2⟩
  ·rintro⟨h1,h2⟩
   match x,h1,h2 with
   | f::r,h1,⟨h2,h3⟩=>exact⟨f,h2,fx.2 ⟨r,Ch.2 ⟨by simpa using h1,h3⟩,rfl⟩⟩
theorem Et{R:ah}{B:ag}:∀ {x:ah} {e:Int},yC R B e x↔∀i:Nat,i<x.length->gi (e::x) ((i+1:Nat):Int)∈jJ R B (gi (e::x) i)
 | [],e=>by simp [yC]
 | f::r,e=>by
  rw [yC,Et (x:=r) (e:=f)];constructor
  ·rintro⟨h1,h2⟩ i hi
   match i with
   | 0=>exact h1
   | i+1=>
    rw [Cu,Cu];exact h2 i (by simpa using hi)
  ·intro h;refine⟨h 0 (by simp),fun i hi=>?_⟩;have:=h (i+1) (by simpa using hi)
   rwa [Cu,Cu]at this
theorem vi{n:Nat}(hn:1<=n){B:ag}{x:ah}:x∈dF n R B↔x.length=n/\(∀i:Nat,i<n->(0<=gi x i/\gi x i<R.length)/\gi R (gi x i)=i)/\∀i:Nat,i+1<n->gi x i∈gl B (gi x ((i+1:Nat):Int)):=by
 unfold dF;rw [List.mem_flatMap];constructor
 ·rintro⟨e,he,h⟩;obtain⟨y,hy,rfl⟩:=fx.1 h;obtain⟨h1,h2⟩:=Ch.1 hy;obtain⟨h3,h4⟩:=y7.1 he;rw [Et]at h2;have key:∀i:Nat,i<n->(0<=gi (e::y) i/\gi (e::y) i<R.length)/\gi R (gi (e::y) i)=i:=by
   intro i
   induction i with
   | zero=>intro _;exact⟨h3,h4⟩
   | succ i ih=>
    intro hi;have h5:=qd.1 (h2 i (by omega));have h6:=ih (by omega);exact⟨h5.1,by rw [h5.2.1,h6.2];omega⟩
  exact⟨by rw [List.length_cons,h1];omega,key,fun i hi=> (qd.1 (h2 i (by omega))).2.2⟩
 ·rintro⟨h1,h2,h3⟩
  match x,h1,h2,h3 with
  | [],h1,_,_=>simp at h1;omega
  | e::y,h1,h2,h3=>
   rw [List.length_cons]at h1;refine⟨e,y7.2 (h2 0 (by omega)),fx.2 ⟨y,Ch.2 ⟨by omega,Et.2 fun i hi=>?_⟩,O⟩⟩;have h4:=h2 (i+1) (by omega);have h5:=h2 i (by omega);exact qd.2 ⟨h4.1,by rw [h4.2,h5.2];omega,h3 i (by omega)⟩
theorem ED{g:Int->ag}(hg:∀f,SL (g f)):∀ {l:ah},SA l->SL (l.flatMap fun f=> (g f).map (f:: ·))
 | [],_=>List.Pairwise.nil
 | a::l,h=>by
  obtain⟨h1,h2⟩:=List.pairwise_cons.1 h;rw [List.flatMap_cons,SL,List.pairwise_append];refine⟨nJ.2 ((hg a).imp fun h=>IQ.2 (.inr ⟨O,h⟩)),ED hg h2,fun x hx y hy=>?_⟩;obtain⟨u,_,rfl⟩:=fx.1 hx;obtain⟨b,hb,hy⟩:=List.mem_flatMap.1 hy;obtain⟨v,_,rfl⟩:=fx.1 hy;exact IQ.2 (.inl (h1 b hb))
theorem J5(R:ah)(B:ag):∀(k:Nat) (e:Int),SL (nh R B k e)
 | 0,_=>by simp [nh,SL]
 | k+1,e=>ED (J5 R B k) (Ei R B e)
theorem zh(n:Nat)(R:ah)(B:ag):SL (dF n R B):=ED (J5 R B (n - 1)) (List.Pairwise.filter _ (tv _))
structure jP(n:Int)(R:ah)(B:ag):Prop where
 n1:1<=n/\n<=5
 B9:R.length<=500
 len:B.length=R.length
 eS:∀x∈R,0<=x/\x<=n - 1
 y6:qe R
 row:∀e:Nat,e<R.length->SA (gl B e)/\∀d∈gl B e,(0<=d/\d<R.length)/\gi R d<gi R e
 tr:∀e:Nat,e<R.length->∀d∈gl B e,∀c∈gl B d,c∈gl B e
theorem qe.le(h:qe R){i:Nat}(uq:i<=j)(hj:j<R.length):gi R i<=gi R j:=by
 rcases Nat.lt_or_eq_of_le uq with h1 | rfl
 ·rw [bN (by omega),bN hj];exact List.pairwise_iff_getElem.1 h i j (by omega) hj h1
 exact Int.le_refl _
theorem jP.at_{n:Int}{B:ag}(h:jP n R B){e:Int}(h0:0<=e)(h1:e<R.length):SA (gl B e)/\(∀d∈gl B e,(0<=d/\d<e)/\gi R d<gi R e)/\∀d∈gl B e,∀c∈gl B d,c∈gl B e:=by
 obtain⟨k,rfl⟩:∃k:Nat,e=k:=⟨e.toNat,by omega⟩;have hr:=h.row k (by omega);refine⟨hr.1,fun d hd=>?_,h.tr k (by omega)⟩;have h2:=hr.2 d hd;obtain⟨j,rfl⟩:∃j:Nat,d=j:=⟨d.toNat,by omega⟩;refine⟨⟨by omega,?_⟩,h2.2⟩;refine Int.not_le.1 fun hle=>?_
 have:=h.y6.le (i:=k) (j:=j) (by omega) (by omega);omega
theorem jP.ri{n:Int}{B:ag}(h:jP n R B){e:Int}(h0:0<=e)(h1:e<R.length):0<=gi R e/\gi R e<=n - 1:=by
 obtain⟨k,rfl⟩:∃k:Nat,e=k:=⟨e.toNat,by omega⟩;exact h.eS _ (gi_in (by omega))
def cb(M:ag):Nat->Nat
 | 0=>0
 | i+1=>cb M i+ (gq M i).toNat
def dJ(M:ag):Nat->ah
 | 0=> []
 | i+1=>dJ M i++List.replicate (gq M i).toNat (i:Int)
theorem nj(M:ag):∀i,(dJ M i).length=cb M i
 | 0=>rfl
 | i+1=>by rw [dJ,e8,nj M i,List.length_replicate];rfl
def dm(M:ag)(i:Nat)(f:Nat):Int:=(cb M i:Int)+gi (dI M i) f
theorem uN(M:ag){i:Nat}(h:i<=j):cb M i<=cb M j:=by
 induction h with
 | refl=>exact dE _
 | step _ ih=>exact lI ih (by show _<=cb M _+_;omega)
theorem tT(hM:bj M){i f:Nat}(hf:f< (gl M 0).length):(cb M i:Int)<=dm M i f/\dm M i f< (cb M (i+1):Int):=by
 have h1:=Cj hM i f hf;unfold dm;show _/\_< ((cb M i+ (gq M i).toNat:Nat):Int);omega
theorem Fl{n:Nat}:∀ {i:Nat},i<n->∀ {e:Int},(cb M i:Int)<=e->e< (cb M (i+1):Int)->gi (dJ M n) e=i:=by
 induction n with
 | zero=>intro i hi;omega
 | succ n ih=>
  intro i hi e h0 h1;obtain⟨k,rfl⟩:∃k:Nat,e=k:=⟨e.toNat,by omega⟩;have hl:=nj M n
  by_cases h:i=n
  ·subst h;rw [dJ,gi,df,mU (by rw [hl];omega),List.getElem?_replicate,aJ]
   ·rfl
   ·have:cb M (i+1)=cb M i+ (gq M i).toNat:=O;rw [hl];omega
  ·have h3:=uN M (show i+1<=n by omega);have h2:=ih (show i<n by omega) h0 h1;rw [dJ,gi,df,ow (by rw [hl];omega),<-df];exact h2
theorem SJ{n:Nat}{e:Int}(h0:0<=e)(h1:e< (cb M n:Int)):∃i,i<n/\(cb M i:Int)<=e/\e< (cb M (i+1):Int):=by
 induction n with
 | zero=>have:cb M 0=0:=rfl;omega
 | succ n ih=>
  by_cases h:e< (cb M n:Int)
  ·obtain⟨i,hi,h2⟩:=ih h;exact⟨i,by omega,h2⟩
  ·exact⟨n,by omega,by omega,h1⟩
theorem Ko(M:ag):∀n,qe (dJ M n)/\∀x∈dJ M n,0<=x/\x< (n:Int)
 | 0=> ⟨List.Pairwise.nil,fun x hx=>by cases hx⟩
 | n+1=>by
  obtain⟨h1,h2⟩:=Ko M n;refine⟨?_,fun x hx=>?_⟩
  ·rw [dJ,qe,List.pairwise_append];refine⟨h1,List.pairwise_replicate.2 (.inr (Int.le_refl _)),fun x hx y hy=>?_⟩;have:=h2 x hx;have:=(List.mem_replicate.1 hy).2;omega
  ·rw [dJ]at hx;rcases gE.1 hx with h | h
   ·have:=h2 x h;omega
   ·have:=(List.mem_replicate.1 h).2;omega
def sj(M:ag)(d e:Int):Prop:=∃f:Nat,f< (gl M 0).length/\∃i:Nat,i<M.length/\∃k:Nat,k<i/\e=dm M i f/\d=dm M k f
open Classical in
noncomputable def eW(M:ag):ag:=(dV (cb M M.length)).map fun e=> (dV (cb M M.length)).filter fun d=>decide (sj M d e)
theorem xk(M:ag):(eW M).length=cb M M.length:=by simp [eW,dV]
theorem tS{e:Int}(h0:0<=e)(h1:e< (cb M M.length:Int))(d:Int):d∈gl (eW M) e↔(0<=d/\d< (cb M M.length:Int))/\sj M d e:=by
 obtain⟨k,rfl⟩:∃k:Nat,e=k:=⟨e.toNat,by omega⟩;rw [cM (by rw [xk];omega)];unfold eW;rw [List.getElem_map,jb,mA];have:(dV (cb M M.length))[k]'(by rw [Ig];omega)=(k:Int):=by simp [dV]
 rw [this];exact and_congr Iff.rfl (by simp)
theorem sj.eS(hM:bj M){e:Int}(h:sj M d e):(0<=d/\d< (cb M M.length:Int))/\(0<=e/\e< (cb M M.length:Int))/\gi (dJ M M.length) d<gi (dJ M M.length) e:=by
 obtain⟨f,hf,i,hi,k,hk,rfl,rfl⟩:=h;have h1:=tT hM (i:=i) hf;have h2:=tT hM (i:=k) hf;have h3:=uN M (show i+1<=M.length by omega);have h4:=uN M (show k+1<=M.length by omega);refine⟨by omega,by omega,?_⟩;rw [Fl hi h1.1 h1.2,Fl (show k<M.length by omega) h2.1 h2.2];omega
theorem OV(h:p∈M.take j):∃k:Nat,k<j/\k<M.length/\p=gl M k:=by
 obtain⟨k,hk,rfl⟩:=gu.1 h;rw [ra]at hk;exact⟨k,by omega,by omega,by rw [List.getElem_take,cM (by omega)]⟩
theorem NJ(hM:bj M)(j:Nat):Sys (gl M 0).length (M.take j):=fun p hp=>hM.2.2.1.sys p (List.mem_of_mem_take hp)
theorem Yy(hM:bj M)(h0:0<=y)(h1:y< (gl M 0).length)(h:Reach (M.take j) y u):∀i:Nat,j<=i->gi (dI M i) u=gi (dI M i) y:=by
 induction h with
 | refl=>exact fun _ _=>rfl
 | step h hp ih=>
  intro i hi;have hr:=h.range (NJ hM j) h0 h1;obtain⟨k,Ma,hk,rfl⟩:=OV hp;rw [ze hM hk (by omega) hr.1 hr.2,ih i hi]
theorem Yx(hM:bj M){k:Nat}(C9:j<k)(hk:k<M.length)(h0:0<=y)(h1:y< (gl M 0).length)(h:Reach (M.take j) y u):Reach (M.take j) (gi (gl M k) y) (gi (gl M k) u):=by
 induction h with
 | refl=>exact .refl
 | step h hp ih=>
  have hr:=h.range (NJ hM j) h0 h1;obtain⟨i,uq,hi,rfl⟩:=OV hp;rw [hM.comm hi hk (by omega) hr.1 hr.2];exact .step ih hp
theorem ON(hM:bj M){f:Int}(h0:0<=f)(h1:f< (gl M 0).length){g:Int}(h:Reach (M.eraseIdx j) f g):
 ∃u:Int,(0<=u/\u< (gl M 0).length)/\(∀i:Nat,i<=j->gi (dI M i) u=gi (dI M i) f)/\∀i:Nat,j<=i->gi (dI M i) u=gi (dI M i) g:=by
 have key:∃u:Int,(0<=u/\u< (gl M 0).length)/\(∀i:Nat,i<=j->gi (dI M i) u=gi (dI M i) f)/\Reach (M.take j) g u:=by
  induction h with
  | refl=>exact⟨f,⟨h0,h1⟩,fun _ _=>rfl,.refl⟩
  | step h hp ih=>
   rename_i y p;obtain⟨u,hu,eY,hr⟩:=ih;have oV:=h.range (hM.2.2.1.sys.erase j) h0 h1;obtain⟨k,hk,Ma,rfl⟩:=J3 hp;rcases Nat.lt_or_gt_of_ne Ma with cI | xN
   ·refine⟨u,hu,eY,?_⟩;have hm:gl M k∈M.take j:=by
     rw [gu];exact⟨k,by rw [ra];omega,by rw [List.getElem_take,cM hk]⟩
    have h2:Reach (M.take j) (gi (gl M k) y) (gi (gl M k) (gi (gl M k) y)):= .step .refl hm;rw [hM.two hk oV.1 oV.2]at h2;exact h2.trans hr
   ·refine⟨gi (gl M k) u,hM.tl hk hu.1 hu.2,fun i hi=>?_,Yx hM xN hk oV.1 oV.2 hr⟩;rw [ze hM hk (by omega) hu.1 hu.2,eY i hi]
 obtain⟨u,hu,eY,hr⟩:=key;have hg:=h.range (hM.2.2.1.sys.erase j) h0 h1;exact⟨u,hu,eY,Yy hM hg.1 hg.2 hr⟩
theorem sj.trans(hM:bj M){c e:Int}(h:sj M c d)(h':sj M d e):sj M c e:=by
 obtain⟨f,hf,j,hj,k,hk,rfl,rfl⟩:=h;obtain⟨g,hg,i,hi,l,hl,rfl,e2⟩:=h';have h1:=tT hM (i:=j) hf;have h2:=tT hM (i:=l) hg;have mo:j=l:=by
  rcases Nat.lt_trichotomy j l with h | h | h
  ·have:=uN M (show j+1<=l by omega);omega
  ·exact h
  have:=uN M (show l+1<=j by omega);omega
 subst mo;have e3:gi (dI M j) f=gi (dI M j) g:=by unfold dm at e2;omega
 obtain⟨u,hu,eY,dQ⟩:=ON hM (j:=j) (f:=(f:Int)) (by omega) (by omega) (Cl hM (by omega) (by omega) (by omega) (by omega) e3);refine⟨u.toNat,by omega,i,hi,k,by omega,?_,?_⟩
 ·unfold dm;rw [Int.toNat_of_nonneg hu.1,dQ i (by omega)]
 unfold dm;rw [Int.toNat_of_nonneg hu.1,eY k (by omega)]
theorem SK(hM:bj M)(hb:cb M M.length<=500):jP M.length (dJ M M.length) (eW M):=by
 have h1:=hM.1;have hl:=nj M M.length;obtain⟨ha,hr⟩:=Ko M M.length;refine⟨by omega,by omega,by rw [xk,hl],fun x hx=>?_,ha,fun e he=> ⟨?_,fun d hd=>?_⟩,fun e he d hd c hc=>?_⟩
 ·have:=hr x hx;omega
 ·rw [cM (by rw [xk];omega)];unfold eW;rw [List.getElem_map];exact List.Pairwise.filter _ (tv _)
 ·rw [tS (by omega) (by omega)]at hd;have:=hd.2.eS hM;exact⟨by omega,this.2.2⟩
 rw [tS (by omega) (by omega)]at hd|-;rw [tS (by omega) (by omega)]at hc;exact⟨hc.1,hc.2.trans hM hd.2⟩
end
section
open Go.RowKit
section
variable {P:Program} {N:Nat} {ops:Array Oper} {K:Env->aa->Prop} {rest:List Oper} {e:Env} {w:aa} {d:Nat} {ty:ad} {pos:String} {af:Array Edge} {x y:ae} {xt yt:ad} {i:Int}
theorem Ql{k:IntKind}(hx:ev e x= .int .u64 i)(hy:ev e y= .int k 1)(hb:Nat.blt d N=true)(h0:0<=i)(hK:ak P N ops K rest (bt e d (.int .u64 (i / 2))) w):
 ak P N ops K (⟨some d,.binOp .shr xt x y yt,ty,pos,af,none⟩::rest) e w:=by
 refine .val (v:= .int .u64 (i / 2)) ?_ hb hK;have e1:min 1 IntKind.u64.bits=1:=by decide
 have e2:i.fdiv 2=i / 2:=Int.fdiv_eq_ediv_of_nonneg _ (by decide);simp [execOp,hx,hy,eqGuard,binOp,Op.shift,e1,e2]
end
section
variable {w:aa} {e:Env}
theorem Ia{R:ab->aa->Prop}{t u:Nat}{b:Bool}{k:IntKind}{i:Int}(h:e t= .int k i)(h2:e u= .bool b)(hR:R (.tuple #[.int k i,.bool b]) w):wm t u R .ret e w:=by show R (.tuple #[e t,e u]) w;rw [h,h2];exact hR
end
theorem Rz(x:Int)(w:aa):aE prog 233 [aj x] w (fun v w'=>v= .bool (decide (¬x=x))/\w'=w):=by
 refine bm func233 O ntmps233 O (bU O) (Eu O (bQ O ?_));exact⟨O,O⟩
theorem JM(x y:Int)(w:aa):aE prog 186 [aj x,aj y] w (fun v w'=>v= .bool (decide (x<y))/\w'=w):=by
 refine bm func186 O ntmps186 O (bU O) (aY O (aH (Rz x w) O ?_));rintro _ _ ⟨rfl,rfl⟩;refine ao O (bX 7 O (fun h=>absurd O h) (fun _=>?_));refine av O (av O (av O (ao O (ar O (ao O (ar O (ao O (ar O (bu O ?_)))))))));exact bQ O ⟨O,O⟩
theorem Z1(x:Int)(w:aa):aE prog 187 [aj x] w (fun v w'=>v= .bool (decide (¬x=x))/\w'=w):=by
 refine bm func187 O ntmps187 O (bU O) (Eu O (bQ O ?_));exact⟨O,O⟩
theorem Jx(A:ai)(n c:Nat)(xs:ah)(x:Int)(w:aa)(hR:cd w A n xs)(hs:SA xs)(hn:n<=1000000000):
 aE prog 116 [.slice A n c,aj x] w (fun v w'=> (∃k:Int,v= .tuple #[aj k,.bool (decide (x∈xs))])/\w'=w):=by
 have bP:=hR.1;refine bm func116 O ntmps116 O (my O) ?_;refine aY O (aZ O O (az O ?_));refine Cd.loop (α:=Nat×Nat) (fun z=> [(0,.slice A n c),(1,aj x),(6,aj n),(7,aj (z.1:Int)),(8,aj (z.2:Int))]) (fun z w'=>w'=w/\z.1<=z.2/\z.2<=n/\(∀p:Nat,p<z.1->gi xs p<x)/\∀p:Nat,z.2<=p->p<n->x<=gi xs p) (fun z=>z.2 - z.1) (0,n) (ac4 O) ⟨O,bA _,dE _,fun p hp=>absurd hp (oy _),fun p hp rR=>by have hp:n<=p:=hp;omega⟩ ?_;rintro⟨i,j⟩ e w ⟨rfl,uq,rJ,eY,dQ⟩;dsimp only at uq rJ eY dQ|-;refine b7 O (aM _ O (fun h1=>?_) (fun h1=>?_))
 ·refine aD O (aL O ?_);refine sq O O (yy _ (by omega)) (Ql O O O (by omega) (sq O O (IntWalk.i64_in _ (by omega)) ?_));obtain⟨h,hh⟩:∃h:Nat,h=(i+j) / 2:=⟨_,rfl⟩;rw [show((i:Int)+ (j:Int)) / 2=(h:Int) by omega];refine ao O (ay hR.2 O (bc hR O (ao O (aH (JM _ _ _) O ?_))));rintro _ _ ⟨rfl,rfl⟩;refine az O (aM _ O (fun h2=>?_) (fun h2=>?_))
  ·refine aD O (aL O (aU O (tQ ?_)));refine⟨(h+1,j),by show j - (h+1)<j - i;omega,(ac4 O),O,by show h+1<=j;omega,rJ,fun p hp=>?_,dQ⟩;have hp:p<h+1:=hp
   by_cases e:p=h
   ·subst e;exact h2
   have:=hs.uI (show p<h by omega) (by omega);omega
  refine mC O (tQ ?_);refine⟨(i,h),by show h - i<j - i;omega,(ac4 O),O,by show i<=h;omega,by show h<=n;omega,eY,fun p hp rR=>?_⟩;have hp:h<=p:=hp
  by_cases e:p=h
  ·subst e;omega
  have:=hs.uI (show h<p by omega) (by omega);omega
 obtain rfl:i=j:=by omega
 have eC:∀p:Nat,p<n->gi xs p=x->p=i:=fun p hp hx=>by
  rcases Nat.lt_trichotomy p i with h | h | h
  ·have:=eY p h;omega
  ·exact h
  have h3:=hs.uI h (by omega);have h4:=dQ i (dE _) (by omega);omega
 have jE:x∈xs↔i<n/\gi xs i=x:=by
  constructor
  ·intro hm;obtain⟨p,hp,e⟩:=gu.1 hm;have e2:gi xs p=x:=by rw [bN hp];exact e
   have:=eC p (by omega) e2;subst this;exact⟨by omega,e2⟩
  rintro⟨h2,h3⟩;rw [<-h3];exact gi_in (by omega)
 refine bo O (bp (cn O ?_));refine bX 35 O (fun h2=>?_) (fun h2=>?_)
 ·refine ar O (ao O (ar O (ao O (ar O ?_))));refine ay hR.2 O (ar O (bc hR O ?_));refine ar O (ao O (ar O (ao O (ar O (ao O ?_)))));refine bX 42 O (fun h3=>?_) (fun h3=>?_)
  ·refine av O (av O (av O (av O (av O (av O (bW O (bW O (av O (ar O (bu O ?_))))))))));refine Ia O O ?_;exact⟨⟨_,by rw [fo (jE.2 ⟨by omega,h3⟩)]⟩,O⟩
  refine ar O (ao O (ar O (ao O (ar O ?_))));refine ay hR.2 O (ar O (bc hR O (ar O (aH (Z1 _ _) O ?_))));rintro _ _ ⟨rfl,rfl⟩;refine ar O (ao O ?_);refine bX 48 O (fun h=>absurd O h) (fun _=>?_);refine av O (av O (ar O (ao O (ar O (bu O ?_)))));refine Ia O O ?_;exact⟨⟨_,by rw [dq (fun h=>h3 (jE.1 h).2)]⟩,O⟩
 refine av O (av O (av O (av O (av O (av O (av O (bW O (bW O (bW O (bW O (bW O ?_)))))))))));refine bW O (bW O (bW O (bW O (av O (bu O ?_)))));refine Ia O O ?_;exact⟨⟨_,by rw [dq (fun h=>by have:=(jE.1 h).1;omega)]⟩,O⟩
theorem WU(P A D:ai)(cA r cD:Nat)(n:Int)(N:Nat)(rs:List aO)(B:ag)(e f:Int)(w:aa)(hP:Rd w P 3 (fun j=> [Value.int .i64 n,.slice A r cA,.slice D N cD].getD j undef))(hB:bl w D N rs B)(rz:B.length=N)(hf:0<=f/\f<N)(hs:SA (gl B f))(hl:(gl B f).length<=1000000):
 aE prog 107 [.pointer P,aj e,aj f] w (fun v w'=>v= .bool (decide (e∈gl B f))/\w'=w):=by
 have bH:=hB.at_ (i:=f) hf.1 hf.2;have gI:=bH.1;refine bm func107 O ntmps107 O (bU O) (aY O ?_);refine eV hP (by decide) O O (aS hP O (a8 hP O (ao O (ay hB.top.2 O (bB hB.top O (ao O (aH (Jx _ _ _ (gl B f) e w bH hs (by omega)) O ?_)))))));rintro _ _ ⟨⟨k,rfl⟩,rfl⟩;refine bu O (bQ O ?_);exact⟨O,O⟩
theorem qI(P A D:ai)(cA cD:Nat)(n:Int)(R:ah)(rs:List aO)(B:ag)(e f:Int)(w:aa)(hP:Rd w P 3 (fun j=> [Value.int .i64 n,.slice A R.length cA,.slice D B.length cD].getD j undef))(hB:bl w D B.length rs B)(hf:0<=f/\f<B.length)(hs:SA (gl B f))(hl:(gl B f).length<=1000000):
 aE prog 107 [.pointer P,aj e,aj f] w (fun v w'=>v= .bool (decide (e∈gl B f))/\w'=w):=
 WU P A D cA R.length cD n B.length rs B e f w hP hB rfl hf hs hl
theorem HP{t1 t2:ad}{A:ai}{n c:Nat}{rs:List aO}{xss:ag}{ks:List Ck}{q:Ck}{i:Nat}(s:aO)(xs:ah)(hr:rs.length=xss.length)(hi:i<rs.length):(q::(aK t1 t2 A n c rs xss++ks)).set (2+i) (ax t2 s.a s.n s.c xs)=q::(aV t1 A n c rs::(bS t2 (rs.set i s) (xss.set i xs)++ks)):=by
 rw [show 2+i=i+1+1 by omega,List.set_cons_succ];show _::(aV t1 A n c rs::(bS t2 rs xss++ks)).set (i+1) _=_;rw [List.set_cons_succ,List.set_append_left _ _ (by rw [wq hr];exact hi),Ii hr]
def iy(M:ag)(i f:Nat):ag:=(List.range (gl M 0).length).map fun g=> (List.range (if g<f then i+1 else i)).map fun k=>dm M k g
def mj(M:ag):ag:=(List.range (gl M 0).length).map fun g=> (List.range M.length).map fun k=>dm M k g
theorem Cr(M:ag)(i f:Nat):(iy M i f).length=(gl M 0).length:=by simp [iy]
theorem SI(M:ag)(f:Nat)(h:f=0):iy M 0 f=List.replicate (gl M 0).length []:=by
 subst h;apply gD (by simp [iy]);intro i h1 h2;simp [iy]
theorem SG(M:ag)(i:Nat):iy M i (gl M 0).length=iy M (i+1) 0:=by
 unfold iy;refine pg fun g hg=>?_
 rw [aJ (jN.1 hg),aC (oy _)]
theorem SF(M:ag):iy M M.length 0=mj M:=by
 unfold iy mj;exact pg fun g _=>by rw [aC (oy _)]
theorem Cq{M:ag}{i f g:Nat}(hg:g< (gl M 0).length):gl (iy M i f) g=(List.range (if g<f then i+1 else i)).map fun k=>dm M k g:=by
 rw [cM (by rw [Cr];exact hg)];simp [iy]
theorem SH{M:ag}{i f:Nat}(hf:f< (gl M 0).length):(iy M i f).set f (gl (iy M i f) f++ [dm M i f])=iy M i (f+1):=by
 apply gD (by simp [iy]);intro g h1 h2;have hg:g< (gl M 0).length:=by rw [Cr]at h2;exact h2
 rw [List.getElem_set];have e:(iy M i (f+1))[g]=gl (iy M i (f+1)) g:=by rw [cM h2]
 rw [e,Cq hg]
 by_cases h:f=g
 ·subst h;rw [aJ rfl,aJ (by omega),Cq hg,aC (by omega),rb,lF];rfl
 rw [aC h];have e2:(iy M i f)[g]'(by rw [Cr];exact hg)=gl (iy M i f) g:=by rw [cM]
 rw [e2,Cq hg]
 by_cases h3:g<f
 ·rw [aJ h3,aJ (by omega)]
 rw [aC h3,aC (by omega)]
theorem HX{M:ag}:∀i,cb M i<=i* (gl M 0).length
 | 0=>bA _
 | i+1=>by
  have h1:=HX (M:=M) i;have h2:=tP M i;show cb M i+ (gq M i).toNat<=_;rw [Nat.succ_mul];omega
theorem QH(Ab A:ai)(n c:Nat)(rs:List aO)(M:ag)(w:aa)(hB:Rd w Ab 1 (fun _=> .slice A n c))(hR:bl w A n rs M)(hM:bj M):
 aE prog 129 [.pointer Ab] w (fun v w'=>∃A' rs',v= .slice A' (gl M 0).length (gl M 0).length/\rs'.length=(gl M 0).length/\St w w' (aK 24 2 A' (gl M 0).length (gl M 0).length rs' (mj M)++ [])):=by
 have hl:=hR.len;have h1:=hM.1;have h2:=hM.2.1;have e0:(rg rs 0).n=(gl M 0).length:=(hR.jh (by omega) (by omega)).symm;have zW:∀i,i<=n->cb M i<=2000:=fun i hi=>by
  have h3:=HX (M:=M) i;have h4:i* (gl M 0).length<=5*400:=Nat.mul_le_mul (by omega) (by omega);omega
 generalize hF:(gl M 0).length=F at*;refine bm func129 O ntmps129 O (bU O) (aY O (aH (nN Ab A n c rs M _ w hB O hR (by omega)) O ?_));rintro _ w ⟨rfl,rfl⟩;rw [e0];refine Ey F (St.refl w) O O (by omega) ?_;intro A3 w1 aB;have aB:St w w1 (aK 24 2 A3 F F (List.replicate F cJ) (List.replicate F [])):=DP F aB;refine ao O (aH (uS Ab A n c _ _ (aB.nA hB) O) O ?_);rintro _ w1 ⟨rfl,rfl⟩;refine az O ?_;refine Cd.loop (α:=Nat×List aO) (fun z=> [(0,.pointer Ab),(3,.slice A3 F F),(4,aj (cb M z.1:Int)),(14,aj n),(15,aj (z.1:Int))]) (fun z w'=>z.1<=n/\z.2.length=F/\St w w' (aK 24 2 A3 F F z.2 (iy M z.1 0)++ [])) (fun z=>n - z.1) (0,List.replicate F cJ) (ac4 O) ⟨bA _,by simp,by rw [SI M 0 O,hF,iG];exact aB⟩ ?_;clear aB;rintro⟨i,uU⟩ e w2 ⟨hi,bO,hS⟩;dsimp only at hi bO hS|-;have VI:=zW i hi;refine b7 O (aM _ O (fun h3=>?_) (fun h3=>?_))
 ·have cS:i<n:=by omega
  have s9:=zW (i+1) (by omega);have xK:=tP M i;have GU:cb M (i+1)=cb M i+ (gq M i).toNat:=O;refine aD O (aH (J6 Ab A n c rs M i _ (hS.nA hB) (hS.bE hR) hM cS) O ?_);rintro _ w3 ⟨A6,rfl,aA⟩;have aI:=(hS.call aA).perm (fb (l₁:=[ax 2 A6 (gl M 0).length (gl M 0).length (dI M i)]));rw [hF]at aI|-;clear aA hS;refine ao O (aZ O O (az O ?_));refine Cd.loop (α:=Nat×List aO) (fun z=> [(0,.pointer Ab),(3,.slice A3 F F),(4,aj (cb M i:Int)),(7,aj (gq M i)),(14,aj n),(15,aj i),(24,.slice A6 F F),(5,aj i),(25,aj F),(26,aj (z.1:Int))]) (fun z w'=>z.1<=F/\z.2.length=F/\St w w' (aK 24 2 A3 F F z.2 (iy M i z.1)++ [ax 2 A6 F F (dI M i)])) (fun z=>F - z.1) (0,uU) (ac4 O) ⟨bA _,bO,by simpa using aI⟩ ?_;clear aI;rintro⟨f,bY⟩ e w4 ⟨hf,pV,aG⟩;dsimp only at hf pV aG|-;have C7:=Cr M i f;rw [hF]at C7;refine b7 O (aM _ O (fun h4=>?_) (fun h4=>?_))
  ·have oL:f<F:=by omega
   have mK:=St.du aG C7;have nq:(aK 24 2 A3 F F bY (iy M i f)++ [ax 2 A6 F F (dI M i)])[F+1]?=some (ax 2 A6 F F (dI M i)):=by
    rw [mU (by rw [NO (by omega)];omega),NO (by omega),pV,Nat.sub_self];rfl
   have Md:cd w4 A6 F (dI M i):=aG.bz (F+1) nq;have hin2:=tT hM (i:=i) (f:=f) (by omega);have U4:(cb M i:Int)+gi (dI M i) f=dm M i f:=O;have bH:=mK.at_ (i:=(f:Int)) (by omega) (by omega);have gI:(rg bY f).n<=5:=by
    have:=bH.1;rw [<-this,Cq (by omega),aC (by omega)];simp;omega
   refine aD O (ay Md.2 O (bc Md O (ao O (ay mK.top.2 O (bB mK.top O ?_)))));refine ao O (aL O ?_);refine fk aG O O O ?_;intro AQ wQ hQ;have pO:(ax 2 AQ 1 1 [((cb M i:Int)+gi (dI M i) f)]::(aK 24 2 A3 F F bY (iy M i f)++ [ax 2 A6 F F (dI M i)]))[2+f]?=some (ax 2 (rg bY f).a (rg bY f).n (rg bY f).c (gl (iy M i f) f)):=by
    have h0:=Be (t1:=24) (t2:=2) (A:=A3) (n:=F) (c:=F) (rs:=bY) (xss:=(iy M i f)) (pre:=[ax 2 AQ 1 1 [((cb M i:Int)+gi (dI M i) f)]]) (ks:=[ax 2 A6 F F (dI M i)]) (i:=f) (by omega) (by omega);exact h0
   refine fR (2+f) hQ pO (hQ.bz 0 O) O O O ?_;intro AZ cZ wZ hZ;rw [HP ⟨AZ,(rg bY f).n+1,cZ⟩ (gl (iy M i f) f++ [((cb M i:Int)+gi (dI M i) f)]) (by omega) (by omega)]at hZ;have Lt:gp wZ A3 F bY:=hZ.eG 1 O;refine ay Lt.2 O (yQ (te:=24) (n:=F) (c:=F) (A:=A3) (xs:=bY) 1 hZ O O O (by omega) ?_);intro wY hY;have aR:St w wY (aK 24 2 A3 F F (bY.set f ⟨AZ,(rg bY f).n+1,cZ⟩) ((iy M i f).set f (gl (iy M i f) f++ [((cb M i:Int)+gi (dI M i) f)]))++ [ax 2 A6 F F (dI M i)]):=St.tail hY;clear hY Lt hZ pO hQ;rw [U4,SH (by omega)]at aR;refine ao O (aL O (aU O (tQ ?_)));exact⟨(f+1,_),by show F - (f+1)<F - f;omega,(ac4 O),by show f+1<=F;omega,by simp [pV],aR⟩
  have oL:f=F:=by omega
  subst oL;have gH:=SG M i;rw [hF]at gH;rw [gH]at aG;refine bo O (bp (cn O (aL O (ao O (aL O (aU O (tQ ?_)))))));exact⟨(i+1,bY),by show n - (i+1)<n - i;omega,⟨O,O,by show Value.int .i64 ((cb M i:Int)+gq M i)=aj ((cb M (i+1):Nat):Int);congr 1;omega,O,O,au⟩,by show i+1<=n;omega,pV,aG.sub (List.Sublist.append_left (List.nil_sublist _) _)⟩
 have cS:i=n:=by omega
 subst cS;have he:=SF M;rw [hl]at he;rw [he]at hS;refine bo O (bp (e6 O ?_));exact fA O ⟨A3,uU,O,bO,hS⟩
def kq(xss:ag):ah:=(List.range xss.length).map fun i=>gq xss i
theorem E0(xss:ag):(kq xss).length=xss.length:=by simp [kq]
theorem RB{xss:ag}{i:Nat}(h:i<xss.length):(kq xss).take (i+1)=(kq xss).take i++ [gq xss i]:=by
 rw [lG (by rw [E0];exact h)];simp [kq]
theorem Sa(Ab A:ai)(n c:Nat)(rs:List aO)(xss:ag)(w:aa)(hB:Rd w Ab 1 (fun _=> .slice A n c))(hR:bl w A n rs xss)(hM:bj xss):
 aE prog 85 [.pointer Ab] w (fun v w'=>∃A' c',v= .slice A' n c'/\St w w' [ax 2 A' n c' (kq xss)]):=by
 have hl:=hR.len;have h1:=hM.1;have h2:=hM.2.1;refine bm func85 O ntmps85 O (bU O) (aY O (aH (uS Ab A n c _ _ hB O) O ?_));rintro _ w ⟨rfl,rfl⟩;refine az O (Cd.loop (α:=Nat×ai×Nat) (fun s=> [(0,.pointer Ab),(3,.slice s.2.1 s.1 s.2.2),(8,aj n),(9,aj (s.1:Int))]) (fun s w'=>St w w' [ax 2 s.2.1 s.1 s.2.2 ((kq xss).take s.1)]/\s.1<=n) (fun s=>n - s.1) (0,none,0) (ac4 O) ⟨(St.refl w).nil _,bA _⟩ ?_);rintro⟨i,A3,c3⟩ e w1 ⟨aB,hi⟩;dsimp only at aB hi|-;refine b7 O (aM _ O (fun h3=>?_) (fun h3=>?_))
 ·have di:i<n:=by omega
  have jC:=tP xss i;refine aD O (aH (J6 Ab A n c rs xss i _ (hB.below aB.below) (aB.bE hR) hM di) O ?_);rintro _ w2 ⟨A5,rfl,pZ⟩;have aw:=(aB.call pZ).tail;refine ao O (fk aw O O O ?_);intro A6 w3 aI;refine fR 1 aI O (aI.bz 0 O) O O O fun A7 c7 w4 aG=>ao O (aL O (aU O (tQ ?_)));refine⟨(i+1,A7,c7),by show n - (i+1)<n - i;omega,(ac4 O),?_,di⟩;show St w w4 [ax _ A7 (i+1) c7 ((kq xss).take (i+1))];rw [RB (by omega)];exact aG.tail
 refine bo O (bp (e6 O ?_));refine fA O ?_;have cS:i=n:=by omega
 rw [cS,jc (by rw [E0];omega)]at aB;rw [cS];exact⟨A3,c3,O,aB⟩
section
variable{b b0 b1 b2:Nat}
variable {P:Program} {N:Nat} {ops:Array Oper} {K:Env->aa->Prop} {rest:List Oper} {e:Env} {w0 w w':aa} {ks:List Ck} {d:Nat} {ty:ad} {pos:String} {af:Array Edge}
theorem P6{t:ad}{f0 f1 f2:Field}{z0 z1 z2 y0 y1 y2:ab}[bK P t (.struct #[f0,f1,f2])][bF P t (.agg #[z0,z1,z2]) 3 b]{x0:ae}{v0:ab}(pE:bF P f0.type y0 1 b0)(nP:bF P f1.type y1 1 b1)(pF:bF P f2.type y2 1 b2)(ho:f0.offset=0)(s9:f1.offset=1)(GS:f2.offset=2)(h0:ev e x0=v0)(c0:v0.oneCell'=true)(hb:Nat.blt d N=true)(hK:ak P N ops K rest (bt e d (.agg #[v0,z1,z2])) w):ak P N ops K (⟨some d,.build t #[(0,x0)],ty,pos,af,none⟩::rest) e w:=by
 obtain⟨inf,hi,eM,hs,ib⟩:=bF.get P t;obtain⟨AJ,iB,_,oR,_⟩:=pE.get P f0.type;obtain⟨AL,lV,_,pW,_⟩:=nP.get P f1.type;obtain⟨Dz,rH,_,uB,_⟩:=pF.get P f2.type;have e0:v0.cells= #[v0]:=by cases v0<;>simp [Value.oneCell']at c0<;>rfl
 have ez:(Value.agg #[z0,z1,z2]).cells= #[z0,z1,z2]:=O;refine .val (w':=w) ?_ hb hK;simp [execOp,Instr.build,run_underlying (bK.out (P:=P) (t:=t)),sizeOf,typeInfo,zeroValue,hi,eM,iB,oR,lV,pW,rH,uB,ho,h0,e0,ez,Instr.fill]
theorem P5{t:ad}{f0 f1 f2:Field}{z0 z1 z2 y0 y1 y2:ab}[bK P t (.struct #[f0,f1,f2])][bF P t (.agg #[z0,z1,z2]) 3 b](pE:bF P f0.type y0 1 b0)(nP:bF P f1.type y1 1 b1)(pF:bF P f2.type y2 1 b2)(hb:Nat.blt d N=true)(hK:ak P N ops K rest (bt e d (.agg #[z0,z1,z2])) w):ak P N ops K (⟨some d,.build t #[],ty,pos,af,none⟩::rest) e w:=by
 obtain⟨inf,hi,eM,hs,ib⟩:=bF.get P t;obtain⟨AJ,iB,_,oR,_⟩:=pE.get P f0.type;obtain⟨AL,lV,_,pW,_⟩:=nP.get P f1.type;obtain⟨Dz,rH,_,uB,_⟩:=pF.get P f2.type;have ez:(Value.agg #[z0,z1,z2]).cells= #[z0,z1,z2]:=O;refine .val (w':=w) ?_ hb hK;simp [execOp,Instr.build,run_underlying (bK.out (P:=P) (t:=t)),sizeOf,typeInfo,zeroValue,hi,eM,iB,oR,lV,pW,rH,uB,ez,Instr.fill]
theorem BR{el:ad}{v0 v1 v2:ab}{s:Nat}[bF P el (.agg #[v0,v1,v2]) s b](hS:St w0 w ks)(hb:Nat.blt d N=true)(hK:∀A w',St w0 w' (Bx el 3 A [v0,v1,v2]::ks)->ak P N ops K rest (bt e d (.pointer A)) w')(hM:dX [v0,v1,v2]=false:=by rfl):ak P N ops K (⟨some d,.alloc el,ty,pos,af,none⟩::rest) e w:= .new (el:=el) (z:= .agg #[v0,v1,v2]) (s:=s) (b:=b) hS hb rfl hK hM
end
theorem Y4{α:Type}(q1 q2 q3 q4 q5 q6:α)(X Y:List α):([q1,q2,q3,q4,q5,q6]++Y++X).Perm (q4::(q2::((q1::X)++ (q3::q5::q6::Y)))):=by
 classical
 refine List.perm_iff_count.2 fun z=>?_
 simp only [List.count_append,List.count_cons,List.cons_append,List.nil_append];omega
abbrev dU(A:ai)(n:Int)(AR:ai)(N c:Nat)(AD:ai)(m d:Nat):Ck:=Bx 27 3 A [aj n,.slice AR N c,.slice AD m d]
theorem RA{M:ag}{i:Nat}(h:i<M.length):gi (kq M) i=gq M i:=by
 rw [bN (by rw [E0];exact h)];simp [kq]
structure nL(M:ag)(f i:Nat)(B:ag):Prop where
 len:B.length=cb M M.length
 mem:∀e:Nat,e<cb M M.length->∀x,x∈gl B e↔∃f' i',(f'<f\/f'=f/\i'<i)/\f'< (gl M 0).length/\i'<M.length/\dm M i' f'=e/\∃k,k<i'/\x=dm M k f'
 num:∀e:Nat,(gl B e).length<=25*f+5*i
theorem nL.zero(M:ag):nL M 0 0 (List.replicate (cb M M.length) []):=by
 have hg:∀e:Nat,gl (List.replicate (cb M M.length) ([]:ah)) e=[]:=fun e=>by
  simp only [gl,gn,df,List.getElem?_replicate]
  split<;>rfl
 refine⟨by simp,fun e he x=>?_,fun e=>by rw [hg];exact bA _⟩;rw [hg];constructor
 ·intro h;cases h
 rintro⟨f',i',h,_⟩;omega
theorem nL.next{M:ag}{f i:Nat}{B:ag}(hM:bj M)(h:nL M f i B)(hf:f< (gl M 0).length)(hi:i<M.length):nL M f (i+1) (B.set (dm M i f).toNat (gl B (dm M i f)++ (List.range i).map fun k=>dm M k f)):=by
 have cS:=tT hM (i:=i) hf;have zR:=uN M (show i+1<=M.length by omega);have h5:=hM.1;obtain⟨q,hq⟩:∃q:Nat,dm M i f=q:=⟨(dm M i f).toNat,by omega⟩;rw [hq,gn];have hg:∀e:Nat,gl (B.set q (gl B q++ (List.range i).map fun k=>dm M k f)) e=if q=e then gl B q++ (List.range i).map fun k=>dm M k f else gl B e:=fun e=>xl (by rw [h.len];omega)
 refine⟨by rw [gR];exact h.len,fun e he x=>?_,fun e=>?_⟩
 ·rw [hg]
  by_cases e1:q=e
  ·subst e1;rw [aJ rfl,gE,h.mem q he];constructor
   ·rintro(⟨f',i',h1,h2⟩ | h1)
    ·exact⟨f',i',by omega,h2⟩
    obtain⟨k,hk,rfl⟩:=fx.1 h1;exact⟨f,i,.inr ⟨O,by omega⟩,hf,hi,hq,k,jN.1 hk,O⟩
   rintro⟨f',i',h1,h2,h3,h4,k,hk,rfl⟩
   by_cases e2:f'=f/\i'=i
   ·obtain⟨rfl,rfl⟩:=e2;exact .inr (fx.2 ⟨k,jN.2 hk,O⟩)
   exact .inl ⟨f',i',by omega,h2,h3,h4,k,hk,O⟩
  rw [aC e1,h.mem e he];constructor
  ·rintro⟨f',i',h1,h2⟩;exact⟨f',i',by omega,h2⟩
  rintro⟨f',i',h1,h2,h3,h4,h6⟩;refine⟨f',i',?_,h2,h3,h4,h6⟩
  by_cases e2:f'=f/\i'=i
  ·obtain⟨rfl,rfl⟩:=e2;omega
  omega
 rw [hg];have h1:=h.num q;have h2:=h.num e
 split
 ·rw [e8,fQ,pf];omega
 omega
theorem nL.row{M:ag}{f:Nat}{B:ag}(hM:bj M)(h:nL M f M.length B):nL M (f+1) 0 B:=by
 have h5:=hM.1;refine⟨h.len,fun e he x=>?_,fun e=>by have:=h.num e;omega⟩;rw [h.mem e he];constructor
 ·rintro⟨f',i',h1,h2⟩;exact⟨f',i',by omega,h2⟩
 rintro⟨f',i',h1,h2,h3,h4⟩;exact⟨f',i',by omega,h2,h3,h4⟩
theorem nL.done{M:ag}{B:ag}(hM:bj M)(h:nL M (gl M 0).length 0 B){e:Nat}(he:e<cb M M.length):cs (gl B e)=gl (eW M) e:=by
 refine(RM _).eq ?_ fun x=>?_
 ·rw [cM (by rw [xk];exact he)];unfold eW;rw [List.getElem_map];exact List.Pairwise.filter _ (tv _)
 rw [RN,h.mem e he,tS (by omega) (by omega)];constructor
 ·rintro⟨f',i',_,h2,h3,h4,k,hk,rfl⟩;have hI:sj M (dm M k f') e:=⟨f',h2,i',h3,k,hk,h4.symm,O⟩;exact⟨(hI.eS hM).1,hI⟩
 rintro⟨_,f',h2,i',h3,k,hk,h4,rfl⟩;exact⟨f',i',.inl h2,h2,h3,h4.symm,k,hk,O⟩
def Pm(M:ag)(w:aa)(v:ab)(w':aa):Prop:=(500<cb M M.length/\v= .tuple #[.agg #[aj 0,.slice none 0 0,.slice none 0 0],.bool false]/\St w w' [])\/(cb M M.length<=500/\∃AR c AD d rs,v= .tuple #[.agg #[aj (M.length:Int),.slice AR (cb M M.length) c,.slice AD (cb M M.length) d],.bool true]/\rs.length=cb M M.length/\St w w' (ax 2 AR (cb M M.length) c (dJ M M.length)::(aK 24 2 AD (cb M M.length) d rs (eW M)++ [])))
theorem Sb(A:ai)(n c:Nat)(rs:List aO)(M:ag)(w:aa)(hR:bl w A n rs M)(hM:bj M):
 aE prog 67 [.agg #[.slice A n c]] w (Pm M w):=by
 have hl:=hR.len;have h1:=hM.1;have h2:=hM.2.1;have zW:∀i,i<=n->cb M i<=2000:=fun i hi=>by
  have h3:=HX (M:=M) i;have h4:i* (gl M 0).length<=5*400:=Nat.mul_le_mul (by omega) (by omega);omega
 refine bm func67 O ntmps67 O (uQ O O) (aY O (fD (St.refl w) O O ?_));intro A1 w1 aB;refine BR aB O fun A2 w2 aw=>ao O (aH (uS A1 A n c _ _ (Rd.one (aw.rd 1 O)) O) O ?_);rintro _ w2 ⟨rfl,rfl⟩;refine P6 (by exact inferInstance) (by exact inferInstance) (by exact inferInstance) O O O O O O (BR aw O ?_);intro A4 w3 aI;refine bR 3 0 aI O O O O O O O ?_;intro w4 aG;have aG:St w w4 [dU A4 n none 0 0 none 0 0,dU A2 0 none 0 0 none 0 0,Bx 37 1 A1 [.slice A n c]]:=aG;clear aI aw aB;refine ao O (aH (Sa A1 A n c rs M _ (Rd.one (aG.rd 2 O)) (aG.bE hR) hM) O ?_);rintro _ w5 ⟨iF,na,rfl,aA⟩;have aR:=aG.call aA;clear aA aG;have aR:St w w5 [dU A4 n none 0 0 none 0 0,ax 2 none 0 0 [],ax 2 iF n na (kq M),dU A2 0 none 0 0 none 0 0,Bx 37 1 A1 [.slice A n c]]:=(aR.nil 2).perm (eU (l₁:=[_,_]));refine aZ O O (az O ?_);refine Cd.loop (α:=Nat×ai×Nat) (fun z=> [(1,.pointer A1),(2,.pointer A2),(4,.pointer A4),(14,.slice iF n na),(15,aj n),(16,aj (z.1:Int))]) (fun z w'=>z.1<=n/\St w w' [dU A4 n z.2.1 (cb M z.1) z.2.2 none 0 0,ax 2 z.2.1 (cb M z.1) z.2.2 (dJ M z.1),ax 2 iF n na (kq M),dU A2 0 none 0 0 none 0 0,Bx 37 1 A1 [.slice A n c]]) (fun z=>n - z.1) (0,none,0) (ac4 O) ⟨bA _,aR⟩ ?_;clear aR;rintro⟨i,AR,cR⟩ e w6 ⟨hi,hS⟩;dsimp only at hi hS|-;have VI:=zW i hi;have lQ:=nj M i;refine b7 O (aM _ O (fun h3=>?_) (fun h3=>?_))
 ·have cS:i<n:=by omega
  have uk:=RA (M:=M) (i:=i) (by omega);have xK:=tP M i;have s9:=zW (i+1) (by omega);have GU:cb M (i+1)=cb M i+ (gq M i).toNat:=O;have zM:dJ M (i+1)=dJ M i++List.replicate (gq M i).toNat (i:Int):=O;have hC:=hS.bz 2 O;refine aD O (ay hC.2 O (bc hC O (az O ?_)));rw [uk];obtain⟨N,hN⟩:∃N:Nat,gq M i=N:=⟨(gq M i).toNat,by omega⟩;rw [hN,gn]at GU zM;rw [hN]at xK|-;refine jx [6,8] [yP (aF (A4) 1),yS (AR) (cb M i) (cR),yI ((i:Int)),.pr (fun v w'=>∃A9,v= .slice A9 1 1/\St w w' (ax 2 A9 1 1 [(i:Int)]::[dU A4 n AR (cb M i) cR none 0 0,ax 2 AR (cb M i) cR (dJ M i),ax 2 iF n na (kq M),dU A2 0 none 0 0 none 0 0,Bx 37 1 A1 [.slice A n c]])),yI ((N:Int)),.pr (fun v w'=>∃A9,v= .slice A9 N N/\St w w' (ax 2 A9 N N (List.replicate N (i:Int))::[dU A4 n AR (cb M i) cR none 0 0,ax 2 AR (cb M i) cR (dJ M i),ax 2 iF n na (kq M),dU A2 0 none 0 0 none 0 0,Bx 37 1 A1 [.slice A n c]])),.pr (fun v w'=>∃bI b8,v= .slice bI (cb M i+N) b8/\St w w' [dU A4 n AR (cb M i) cR none 0 0,ax 2 bI (cb M i+N) b8 (dJ M i++List.replicate N (i:Int)),ax 2 iF n na (kq M),dU A2 0 none 0 0 none 0 0,Bx 37 1 A1 [.slice A n c]]),yP (aF (A4) 1),.pr (fun _ w'=>∃bI b8,St w w' [dU A4 n bI (cb M i+N) b8 none 0 0,ax 2 bI (cb M i+N) b8 (dJ M i++List.replicate N (i:Int)),ax 2 iF n na (kq M),dU A2 0 none 0 0 none 0 0,Bx 37 1 A1 [.slice A n c]])] (by kernel_rfl) (by kernel_rfl) (ly (ly (ly (cL.2 ⟨Ye.cQ (fun v w w' h hb=>by obtain⟨A9,hv,hT⟩:=h;exact⟨A9,hv,hT.aq hb⟩),(ly (cL.2 ⟨Ye.cQ (fun v w w' h hb=>by obtain⟨A9,hv,hT⟩:=h;exact⟨A9,hv,hT.aq hb⟩),(cL.2 ⟨Ye.cQ (fun v w w' h hb=>by obtain⟨bI,b8,hv,hT⟩:=h;exact⟨bI,b8,hv,hT.aq hb⟩),(ly (cL.2 ⟨Ye.cQ (fun v w w' h hb=>by obtain⟨bI,b8,hT⟩:=h;exact⟨bI,b8,hT.aq hb⟩),(fun _ h=>by cases h)⟩))⟩)⟩))⟩)))) ?_ ?_
  ·refine⟨cP fun _ _ hb _ _ _=>aS ((hS.rd 0 O).below hb) O (bG O O),cP fun _ _ hb _ _ _=>a8 ((hS.rd 0 O).below hb) O (bG O O),cj O,?_,cj O,?_,?_,?_,?_,au⟩
   ·refine cP fun e1 w1 hb hp aX hq=>?_
    exact fk (St.refl _) O O O fun A9 w9 aA=>ak.n (fB.dn O aA.below ⟨A9,O,(hS.aq hb).call aA⟩)
   ·refine cP fun e1 w1 hb hp aX hq=>?_
    obtain⟨A9,pB,hT⟩:=(hp 3 _ _ (by kernel_rfl) rfl rfl (by kernel_rfl));refine acW (yX A9 1 i N _ (hT.bz 0 O) (by omega)) O (by exact bw (fun v=> [v,Value.int .i64 (N:Int)]) pB) O ?_;rintro _ w2 ⟨A5,rfl,aA⟩;exact ak.n (fB.dn O aA.below ⟨A5,O,hT.tail.call aA⟩)
   ·refine jy fun e1 w1 hb hp aX hq=>?_
    obtain⟨A9,FF,hT⟩:=(hp 5 _ _ (by kernel_rfl) rfl rfl (by kernel_rfl));refine fR 2 hT O (hT.bz 0 O) O (by exact FF) O ?_;intro bI b8 dt lS;exact ak.n (fv.dn O ⟨bI,b8,O,lS.tail⟩)
   ·refine dP 1 fun e1 w1 hp aX hq=>?_
    have dT:=hp 6 _ _ (by kernel_rfl) O O (by kernel_rfl);obtain⟨bI,b8,xm,hT⟩:=dT;refine aS ((hT.rd 0 O)) O (ak.n (fO O (by exact O)))
   refine pn 1 fun e1 w1 hp aX hq=>?_
   have dT:=hp 6 _ _ (by kernel_rfl) O O (by kernel_rfl);obtain⟨bI,b8,xm,hT⟩:=dT;refine kD 0 hT O O (by exact xm) O O ?_;intro dB jm;exact ak.n (fv.st O ⟨bI,b8,jm⟩)
  intro u w7 _ hu _ _;obtain⟨bI,b8,hT⟩:=hu 8 _ rfl (by kernel_rfl);rw [<-GU,<-zM]at hT;refine fK O (aL O (aU O (tQ ?_)));exact⟨(i+1,bI,b8),by show n - (i+1)<n - i;omega,(ac4 O),by show i+1<=n;omega,hT⟩
 obtain rfl:i=n:=by omega
 have jr:M.length=i:=hl;generalize hK:cb M i=N at*;have kH:=hS.rd 0 O;refine bo O (bp (cn O ?_));refine aS kH O (a8 kH O ?_);refine aZ O O (az O ?_);refine aM _ O (fun h4=>?_) (fun h4=>?_)
 ·refine aD O (P5 (by exact inferInstance) (by exact inferInstance) (by exact inferInstance) O (bR 3 3 hS O O O O O O O ?_));intro w9 aW;refine bu O (mz O (aW.rd 3 O) O ?_);exact .inl ⟨by rw [jr,hK];omega,O,aW.none⟩
 refine aD O (aS kH O (a8 kH O (aZ O O (Ey N hS O O (by omega) ?_))));intro cG w7 a6;have a6:St w w7 (aV 24 cG N N (List.replicate N cJ)::[dU A4 i AR N cR none 0 0,ax 2 AR N cR (dJ M i),ax 2 iF i na (kq M),dU A2 0 none 0 0 none 0 0,Bx 37 1 A1 [.slice A i c]]):=a6;refine aS (a6.rd 1 O) O (kD 1 a6 O O O O O ?_);intro w8 a7;have a7:St w w8 (aV 24 cG N N (List.replicate N cJ)::[dU A4 i AR N cR cG N N,ax 2 AR N cR (dJ M i),ax 2 iF i na (kq M),dU A2 0 none 0 0 none 0 0,Bx 37 1 A1 [.slice A i c]]):=a7;clear a6 hS;refine ao O (aH (QH A1 A i c rs M _ (Rd.one (a7.rd 5 O)) (a7.bE hR) hM) O ?_);rintro _ w9 ⟨eT,lD,rfl,VZ,aA⟩;obtain⟨F,hF⟩:∃F,(gl M 0).length=F:=⟨_,rfl⟩;rw [hF]at h2 VZ aA|-;have K6:(mj M).length=F:=by simp [mj,hF]
 have aW:=a7.call aA;clear aA a7;obtain⟨KK,zt⟩:∃KK:List Ck,KK=ax 2 AR N cR (dJ M i)::dU A2 0 none 0 0 none 0 0::Bx 37 1 A1 [.slice A i c]::(aK 24 2 eT F F lD (mj M)++ []):=⟨_,rfl⟩;have aW:St w w9 (dU A4 i AR N cR cG N N::(aK 24 2 cG N N (List.replicate N cJ) (List.replicate N [])++KK)):=by
  rw [zt];have h9:=(aW.perm fb);have h9:=DP (t:=2) N h9;have hp:([aV 24 cG N N (List.replicate N cJ),dU A4 i AR N cR cG N N,ax 2 AR N cR (dJ M i),ax 2 iF i na (kq M),dU A2 0 none 0 0 none 0 0,Bx 37 1 A1 [.slice A i c]]++ (aK 24 2 eT F F lD (mj M)++ [])++bS 2 (List.replicate N cJ) (List.replicate N [])).Perm (ax 2 iF i na (kq M)::(dU A4 i AR N cR cG N N::(aK 24 2 cG N N (List.replicate N cJ) (List.replicate N [])++ (ax 2 AR N cR (dJ M i)::dU A2 0 none 0 0 none 0 0::Bx 37 1 A1 [.slice A i c]::(aK 24 2 eT F F lD (mj M)++ []))))):=by
   unfold aK;generalize bS 2 (List.replicate N cJ) (List.replicate N [])=X;generalize aV 24 eT F F lD::bS 2 lD (mj M)++ []=Y;generalize aV 24 cG N N (List.replicate N cJ)=q1;generalize dU A4 i AR N cR cG N N=q2;generalize ax 2 AR N cR (dJ M i)=q3;generalize ax 2 iF i na (kq M)=q4;generalize dU A2 0 none 0 0 none 0 0=q5;generalize Bx 37 1 A1 [.slice A i c]=q6;exact Y4 q1 q2 q3 q4 q5 q6 X Y
  exact(h9.perm hp).tail
 have nq:∀(rs':List aO) (B:ag),(aK 24 2 eT F F lD (mj M)).Sublist (dU A4 i AR N cR cG N N::(aK 24 2 cG N N rs' B++KK)):=fun rs' B=>by
  rw [zt];refine List.Sublist.cons _ (List.Sublist.trans ?_ (dD _ _));refine List.Sublist.cons _ (List.Sublist.cons _ (List.Sublist.cons _ ?_));rw [iG];exact dA _
 have rA:cb M M.length=N:=by rw [jr,hK]
 refine aZ O O (az O ?_);refine Cd.loop (α:=Nat×List aO×ag) (fun z=> [(1,.pointer A1),(2,.pointer A2),(4,.pointer A4),(40,.slice eT F F),(41,aj F),(42,aj (z.1:Int))]) (fun z w'=>z.1<=F/\z.2.1.length=N/\nL M z.1 0 z.2.2/\St w w' (dU A4 i AR N cR cG N N::(aK 24 2 cG N N z.2.1 z.2.2++KK))) (fun z=>F - z.1) (0,List.replicate N cJ,List.replicate N []) (ac4 O) ⟨bA _,by simp,by have:=nL.zero M;rwa [rA]at this,aW⟩ ?_;clear aW;rintro⟨f,uU,B⟩ e dt ⟨hf,Dm,hB,hS⟩;dsimp only at hf Dm hB hS|-;refine b7 O (aM _ O (fun h5=>?_) (fun h5=>?_))
 ·have oL:f<F:=by omega
  have tZ:=(hS.sub (nq uU B)).yr K6;have bH:=tZ.at_ (i:=(f:Int)) (by omega) (by omega);have bO:=bH.1;have Gq:gl (mj M) f=(List.range M.length).map fun k=>dm M k f:=by rw [cM (by omega)];simp [mj]
  have gI:(rg lD f).n=i:=by rw [<-bO,Gq];simp [jr]
  refine aD O (ay tZ.top.2 O (bB tZ.top O ?_));refine ao O (aZ O O (az O ?_));refine Cd.loop (α:=Nat×List aO×ag) (fun z=> [(1,.pointer A1),(2,.pointer A2),(4,.pointer A4),(40,.slice eT F F),(41,aj F),(42,aj f),(8,.slice (rg lD f).a (rg lD f).n (rg lD f).c),(46,.slice (rg lD f).a (rg lD f).n (rg lD f).c),(47,aj ((rg lD f).n:Int)),(48,aj (z.1:Int))]) (fun z w'=>z.1<=i/\z.2.1.length=N/\nL M f z.1 z.2.2/\St w w' (dU A4 i AR N cR cG N N::(aK 24 2 cG N N z.2.1 z.2.2++KK))) (fun z=>i - z.1) (0,uU,B) (ac4 O) ⟨bA _,Dm,hB,hS⟩ ?_;clear hS hB tZ bH bO Dm;rintro⟨j,bY,B4⟩ e dB ⟨hj,pV,kH,aG⟩;dsimp only at hj pV kH aG|-;have rz:B4.length=N:=by rw [kH.len,rA]
  refine b7 O (aM _ O (fun h6=>?_) (fun h6=>?_))
  ·have pR:j<i:=by omega
   have tZ:=(aG.sub (nq bY B4)).yr K6;have bH:=tZ.at_ (i:=(f:Int)) (by omega) (by omega);have bO:=bH.1;have LQ:gi (gl (mj M) f) j=dm M j f:=by rw [bN (by omega)];simp [Gq]
   have cS:=tT hM (i:=j) (f:=f) (by omega);have zR:=uN M (show j+1<=M.length by omega);rw [rA]at zR;obtain⟨E,hE⟩:∃E:Nat,dm M j f=E:=⟨(dm M j f).toNat,by omega⟩;rw [hE]at LQ cS;have gH:=kH.next hM (by omega) (show j<M.length by omega);rw [hE,gn]at gH;have tY:E<N:=by omega
   have Dw:(gl (mj M) f).take j=(List.range j).map fun k=>dm M k f:=by
    rw [Gq,<-List.map_take,List.take_range,Nat.min_eq_left (by omega)]
   have mK:bl dB cG N bY B4:=(aG.perm (eU (l₁:=aK 24 2 cG N N bY B4)).symm).du rz;have Dl:=(mK.at_ (i:=(E:Int)) (by omega) (by omega)).1;have xX:=kH.num E;refine aD O (ay bH.2 O (bc bH O (az O ?_)));rw [LQ];have pO:(dU A4 i AR N cR cG N N::(aK 24 2 cG N N bY B4++KK))[2+E]?=some (ax 2 (rg bY E).a (rg bY E).n (rg bY E).c (gl B4 E)):=Be (t1:=24) (t2:=2) (A:=cG) (n:=N) (c:=N) (rs:=bY) (xss:=B4) (pre:=[dU A4 i AR N cR cG N N]) (ks:=KK) (i:=E) (by omega) (by omega);have xE:=fun(s:aO) (xs:ah)=>HP (t1:=24) (t2:=2) (A:=cG) (n:=N) (c:=N) (rs:=bY) (xss:=B4) (ks:=KK) (q:=dU A4 i AR N cR cG N N) (i:=E) s xs (by omega) (by omega)
   refine jx [11,13] [yP (aF A4 2),yS (cG) (N) (N),yI ((E:Int)),yP (aF (A4) 2),yS (cG) (N) (N),yI ((E:Int)),yP (aF (cG) ((E:Int)).toNat),yS ((rg (bY) ((E:Int))).a) ((rg (bY) ((E:Int))).n) ((rg (bY) ((E:Int))).c),yS ((rg lD f).a) ((rg lD f).n) ((rg lD f).c),yI ((j:Int)),yS ((rg lD f).a) (j) ((rg lD f).c),.pr (fun v w'=>∃AZ cZ,v= .slice AZ ((rg bY E).n+j) cZ/\St w w' (dU A4 i AR N cR cG N N::(aV 24 cG N N bY::(bS 2 (bY.set E ⟨AZ,(rg bY E).n+j,cZ⟩) (B4.set E (gl B4 E++ (gl (mj M) f).take j))++KK)))),yP (aF cG ((E:Int)).toNat),.pr (fun _ w'=>∃AZ cZ,St w w' (dU A4 i AR N cR cG N N::(aK 24 2 cG N N (bY.set E ⟨AZ,(rg bY E).n+j,cZ⟩) (B4.set E (gl B4 E++ (gl (mj M) f).take j))++KK)))] (by kernel_rfl) (by kernel_rfl) (ly (ly (ly (ly (ly (ly (ly (ly (ly (ly (ly (cL.2 ⟨Ye.cQ (fun v w w' h hb=>by obtain⟨AZ,cZ,hv,hT⟩:=h;exact⟨AZ,cZ,hv,hT.aq hb⟩),(ly (cL.2 ⟨Ye.cQ (fun v w w' h hb=>by obtain⟨AZ,cZ,hT⟩:=h;exact⟨AZ,cZ,hT.aq hb⟩),(fun _ h=>by cases h)⟩))⟩)))))))))))) ?_ ?_
   ·refine⟨?_,?_,cj O,cP fun _ _ hb _ _ _=>aS ((aG.rd 0 O).below hb) O (bG O O),cP fun _ _ hb _ _ _=>a8 ((aG.rd 0 O).below hb) O (bG O O),cj O,cP fun _ _ hb _ _ _=>ay (mK.top.aq hb).2 O (bG O O),cP fun _ _ hb _ _ _=>bB (mK.top.aq hb) O (bG O O),cj O,cj O,aP fun _ _=>u7 O O O (by have:=tZ.cap_ (i:=(f:Int)) (by omega) (by omega);omega) (bG O O),?_,?_,?_,au⟩
    ·intro e1 w1 cc eY dQ eP hp aX hq;show ak _ _ _ _ _ _ _;have hX:Rd w1 A4 3 (fun q=> [Value.int .i64 (i:Int),.slice AR N cR,.slice cG N N].getD q undef):=by { have dQ:=uG dQ (b:=1) (by kernel_rfl);rcases(show cc=0\/cc=1 by omega)with h | h; { exact(aG.aq (eP h)).rd 0 rfl }; { subst h;obtain⟨AZ,cZ,_,hT⟩:=hq 11 _ _ (by kernel_rfl) (by kernel_rfl) (by kernel_rfl) rfl rfl (by kernel_rfl);exact hT.rd 0 rfl } }
     refine aS hX O (ak.n (fO O (by exact O)))
    ·intro e1 w1 cc eY dQ eP hp aX hq;show ak _ _ _ _ _ _ _;have hX:Rd w1 A4 3 (fun q=> [Value.int .i64 (i:Int),.slice AR N cR,.slice cG N N].getD q undef):=by { have dQ:=uG dQ (b:=1) (by kernel_rfl);rcases(show cc=0\/cc=1 by omega)with h | h; { exact(aG.aq (eP h)).rd 0 rfl }; { subst h;obtain⟨AZ,cZ,_,hT⟩:=hq 11 _ _ (by kernel_rfl) (by kernel_rfl) (by kernel_rfl) rfl rfl (by kernel_rfl);exact hT.rd 0 rfl } }
     refine a8 hX O (ak.n (fO O (by exact O)))
    ·refine jy fun e1 w1 hb hp aX hq=>?_
     have TB:=tZ.aq hb;refine fR (2+E) (aG.aq hb) pO ((TB.at_ (i:=(f:Int)) (by omega) (by omega)).take (l:=j) (by omega)) O O O ?_;intro AZ cZ wZ hZ;rw [xE ⟨AZ,(rg bY E).n+j,cZ⟩ (gl B4 E++ (gl (mj M) f).take j)]at hZ;exact ak.n (fv.dn O ⟨AZ,cZ,O,hZ⟩)
    ·intro e1 w1 cc eY dQ eP hp aX hq;show ak _ _ _ _ _ _ _;have hX:gp w1 cG N bY:=by { have dQ:=uG dQ (b:=1) (by kernel_rfl);rcases(show cc=0\/cc=1 by omega)with h | h; { exact(aG.aq (eP h)).eG 1 rfl }; { subst h;obtain⟨AZ,cZ,_,hT⟩:=hq 11 _ _ (by kernel_rfl) (by kernel_rfl) (by kernel_rfl) rfl rfl (by kernel_rfl);exact hT.eG 1 rfl } }
     refine ay hX.2 O (ak.n (fO O (by exact O)))
    refine pn 1 fun e1 w1 hp aX hq=>?_
    have dT:=hp 11 _ _ (by kernel_rfl) O O (by kernel_rfl);obtain⟨AZ,cZ,Tm,hT⟩:=dT;refine yQ (te:=24) (n:=N) (c:=N) (A:=cG) (xs:=bY) 1 hT O O (by exact Tm) (by omega) ?_;intro wY hY;exact ak.n (fv.st O ⟨AZ,cZ,hY⟩)
   intro u iO _ hu _ _;obtain⟨AZ,cZ,hT⟩:=hu 13 _ rfl (by kernel_rfl);rw [Dw]at hT;refine fK O (aL O (aU O (tQ ?_)));exact⟨(j+1,_,_),by show i - (j+1)<i - j;omega,(ac4 O),by show j+1<=i;omega,by simp [pV],gH,hT⟩
  have pR:j=M.length:=by omega
  subst pR;refine bo O (bp (cn O (aL O (aU O (tQ ?_)))));exact⟨(f+1,bY,B4),by show F - (f+1)<F - f;omega,(ac4 O),by show f+1<=F;omega,pV,kH.row hM,aG⟩
 have oL:f=F:=by omega
 subst oL;have rz:B.length=N:=by rw [hB.len,rA]
 have UM:∀e':Nat,e'<N->cs (gl B e')=gl (eW M) e':=fun e' nX=>nL.done hM (by rw [hF];exact hB) (by omega)
 have xX:∀e':Nat,(gl B e').length<=25*f:=fun e'=>by have:=hB.num e';omega
 have kH:=hS.rd 0 O;refine bo O (bp (cn O ?_));refine aS kH O (a8 kH O ?_);refine aZ O O (az O ?_);refine Cd.loop (α:=Nat×List aO) (fun z=> [(2,.pointer A2),(4,.pointer A4),(70,aj N),(71,aj (z.1:Int))]) (fun z w'=>z.1<=N/\z.2.length=N/\St w w' (dU A4 i AR N cR cG N N::(aK 24 2 cG N N z.2 (kh B z.1)++KK))) (fun z=>N - z.1) (0,uU) (ac4 O) ⟨bA _,Dm,by rw [YN];exact hS⟩ ?_;clear hS kH;rintro⟨E,bY⟩ e dB ⟨hE,pV,hS⟩;dsimp only at hE pV hS|-;have mN:=YL B E;refine b7 O (aM _ O (fun h6=>?_) (fun h6=>?_))
 ·have tY:E<N:=by omega
  have Mk:=YK (B:=B) (e:=E) (by omega);have ig:=YM (B:=B) (e:=E) (by omega);have kH:=hS.rd 0 O;have mK:bl dB cG N bY (kh B E):=(hS.perm (eU (l₁:=aK 24 2 cG N N bY (kh B E))).symm).du (by omega);have Dl:=(mK.at_ (i:=(E:Int)) (by omega) (by omega)).1;rw [Mk]at Dl;have hq:=xX E;have pO:(dU A4 i AR N cR cG N N::(aK 24 2 cG N N bY (kh B E)++KK))[2+E]?=some (ax 2 (rg bY E).a (rg bY E).n (rg bY E).c (gl B E)):=by
   have h0:=Be (t1:=24) (t2:=2) (A:=cG) (n:=N) (c:=N) (rs:=bY) (xss:=kh B E) (pre:=[dU A4 i AR N cR cG N N]) (ks:=KK) (i:=E) (by omega) (by omega);rw [<-Mk];exact h0
  have Vu:=(ga.1 pO).1;have xE:=fun(s:aO) (xs:ah)=>HP (t1:=24) (t2:=2) (A:=cG) (n:=N) (c:=N) (rs:=bY) (xss:=kh B E) (ks:=KK) (q:=dU A4 i AR N cR cG N N) (i:=E) s xs (by omega) (by omega)
  refine aD O (aS kH O (a8 kH O (ao O (ay mK.top.2 O (bB mK.top O (aH (Z2 (2+E) hS pO (by omega)) O ?_))))));rintro _ iO ⟨rfl,a6⟩;have sZ:((dU A4 i AR N cR cG N N::(aK 24 2 cG N N bY (kh B E)++KK)).set (2+E) (ax 2 (rg bY E).a (rg bY E).n (rg bY E).c (kT (gl B E))))[2+E]?=some (ax 2 (rg bY E).a (rg bY E).n (rg bY E).c (kT (gl B E))):=by
   rw [kX,aJ rfl,aJ Vu]
  have e7:=xE ⟨(rg bY E).a,(rg bY E).n,(rg bY E).c⟩ (kT (gl B E));have eB:gp iO cG N bY:=by
   have h8:=a6;rw [e7]at h8;exact h8.eG 1 O
  have qv:Rd iO A4 3 (fun q=> [Value.int .i64 (i:Int),.slice AR N cR,.slice cG N N].getD q undef):=by
   have h8:=a6;rw [e7]at h8;exact h8.rd 0 O
  refine az O ?_;refine jx [8,10] [yP (aF A4 2),yS (cG) (N) (N),yI ((E:Int)),yP (aF (A4) 2),yS (cG) (N) (N),yI ((E:Int)),yP (aF (cG) ((E:Int)).toNat),yS ((rg (bY) ((E:Int))).a) ((rg (bY) ((E:Int))).n) ((rg (bY) ((E:Int))).c),.pr (fun v w'=>v= .slice (rg bY E).a (jz (kT (gl B E))).length (rg bY E).c/\St w w' (dU A4 i AR N cR cG N N::(aV 24 cG N N bY::(bS 2 (bY.set E ⟨(rg bY E).a,(jz (kT (gl B E))).length,(rg bY E).c⟩) ((kh B E).set E (jz (kT (gl B E))))++KK)))),yP (aF cG ((E:Int)).toNat),.pr (fun _ w'=>St w w' (dU A4 i AR N cR cG N N::(aK 24 2 cG N N (bY.set E ⟨(rg bY E).a,(jz (kT (gl B E))).length,(rg bY E).c⟩) ((kh B E).set E (jz (kT (gl B E))))++KK)))] (by kernel_rfl) (by kernel_rfl) (ly (ly (ly (ly (ly (ly (ly (ly (cL.2 ⟨Ye.cQ (fun v w w' h hb=> ⟨h.1,h.2.aq hb⟩),(ly (cL.2 ⟨Ye.cQ (fun v w w' h hb=>h.aq hb),(fun _ h=>by cases h)⟩))⟩))))))))) ?_ ?_
  ·refine⟨?_,?_,cj O,cP fun _ _ hb _ _ _=>aS (qv.below hb) O (bG O O),cP fun _ _ hb _ _ _=>a8 (qv.below hb) O (bG O O),cj O,cP fun _ _ hb _ _ _=>ay (eB.aq hb).2 O (bG O O),cP fun _ _ hb _ _ _=>bB (eB.aq hb) O (bG O O),?_,?_,?_,au⟩
   ·intro e1 w1 cc eY dQ eP hp aX hq;show ak _ _ _ _ _ _ _;have hX:Rd w1 A4 3 (fun q=> [Value.int .i64 (i:Int),.slice AR N cR,.slice cG N N].getD q undef):=by { have dQ:=uG dQ (b:=1) (by kernel_rfl);rcases(show cc=0\/cc=1 by omega)with h | h; { exact Rd.below qv (eP h) }; { subst h;obtain⟨_,hT⟩:=hq 8 _ _ (by kernel_rfl) (by kernel_rfl) (by kernel_rfl) rfl rfl (by kernel_rfl);exact hT.rd 0 rfl } }
    refine aS hX O (ak.n (fO O (by exact O)))
   ·intro e1 w1 cc eY dQ eP hp aX hq;show ak _ _ _ _ _ _ _;have hX:Rd w1 A4 3 (fun q=> [Value.int .i64 (i:Int),.slice AR N cR,.slice cG N N].getD q undef):=by { have dQ:=uG dQ (b:=1) (by kernel_rfl);rcases(show cc=0\/cc=1 by omega)with h | h; { exact Rd.below qv (eP h) }; { subst h;obtain⟨_,hT⟩:=hq 8 _ _ (by kernel_rfl) (by kernel_rfl) (by kernel_rfl) rfl rfl (by kernel_rfl);exact hT.rd 0 rfl } }
    refine a8 hX O (ak.n (fO O (by exact O)))
   ·refine jy fun e1 w1 hb hp aX hq=>?_
    refine aH (RD (2+E) (a6.aq hb) sZ (by omega)) O ?_;rintro _ w9 ⟨rfl,a7⟩;rw [iH,xE ⟨(rg bY E).a,(jz (kT (gl B E))).length,(rg bY E).c⟩ (jz (kT (gl B E)))]at a7;exact ak.n (fv.dn O ⟨O,a7⟩)
   ·intro e1 w1 cc eY dQ eP hp aX hq;show ak _ _ _ _ _ _ _;have hX:gp w1 cG N bY:=by { have dQ:=uG dQ (b:=1) (by kernel_rfl);rcases(show cc=0\/cc=1 by omega)with h | h; { exact eB.aq (eP h) }; { subst h;obtain⟨_,hT⟩:=hq 8 _ _ (by kernel_rfl) (by kernel_rfl) (by kernel_rfl) rfl rfl (by kernel_rfl);exact hT.eG 1 rfl } }
    refine ay hX.2 O (ak.n (fO O (by exact O)))
   refine pn 1 fun e1 w1 hp aX hq=>?_
   have dT:=hp 8 _ _ (by kernel_rfl) O O (by kernel_rfl);obtain⟨Tp,hT⟩:=dT;refine yQ (te:=24) (n:=N) (c:=N) (A:=cG) (xs:=bY) 1 hT O O (by exact Tp) (by omega) ?_;intro wY hY;exact ak.n (fv.st O hY)
  intro u jK _ hu _ _;have hT:=hu 10 _ O (by kernel_rfl);have hT:St w jK (dU A4 i AR N cR cG N N::(aK 24 2 cG N N (bY.set E ⟨(rg bY E).a,(jz (kT (gl B E))).length,(rg bY E).c⟩) ((kh B E).set E (cs (gl B E)))++KK)):=hT;rw [ig]at hT;refine fK O (aL O (aU O (tQ ?_)));exact⟨(E+1,_),by show N - (E+1)<N - E;omega,(ac4 O),by show E+1<=N;omega,by simp [pV],hT⟩
 have tY:E=N:=by omega
 have ct:kh B E=eW M:=by
  rw [tY,<-rz,YJ];apply gD
  ·rw [fQ,xk,rz,rA]
  intro k h1 h2;rw [fQ]at h1;have e1:=UM k (by omega);rw [cM h1,cM h2]at e1;rw [List.getElem_map];exact e1
 rw [ct]at hS;refine bo O (bp (cn O ?_));refine ac3 2 (hS.rd 0 O) O ?_;have aw:St w dB (dU A2 0 none 0 0 none 0 0::(ax 2 AR N cR (dJ M i)::(aK 24 2 cG N N bY (eW M)++ []))):=by
  have hs:(aK 24 2 cG N N bY (eW M)++ [ax 2 AR N cR (dJ M i),dU A2 0 none 0 0 none 0 0]).Sublist (dU A4 i AR N cR cG N N::(aK 24 2 cG N N bY (eW M)++KK)):=by
   rw [zt];exact List.Sublist.cons _ (List.Sublist.append_left (List.Sublist.cons_cons _ (List.Sublist.cons_cons _ (List.nil_sublist _))) _)
  refine(hS.sub hs).perm ?_;rw [iG];exact(fb).trans (List.Perm.swap _ _ _)
 refine bR 3 0 aw O O O O O O O fun iO fU=>bu O (mz O (fU.rd 0 O) O ?_);refine .inr ⟨by omega,AR,cR,cG,N,bY,?_,by rw [rA];exact pV,?_⟩
 ·rw [rA,jr];rfl
 rw [rA,jr];exact fU.tail
structure TV where
 f:Int
 g:Int
 r:Int
def aaR(x:TV):List ab:=[aj x.f,aj x.g,aj x.r]
def TV.v(x:TV):ab:= .agg #[aj x.f,aj x.g,aj x.r]
def aac:TV:=⟨0,0,0⟩
section
variable {w0 w:aa} {ks:List Ck} {i:Nat} {t:ad} {A:ai} {k q:Nat} {cs:List TV}
end
section
variable {P:Program} {N:Nat} {ops:Array Oper} {K:Env->aa->Prop} {rest:List Oper} {e:Env} {w0 w w':aa} {ks:List Ck} {d:Nat} {ty:ad} {pos:String} {af:Array Edge}
theorem yJ{el:ad}{x:ae}{v0 v1 v2:ab}(hS:St w0 w ks)(hx:ev e x= .agg #[v0,v1,v2])(hb:Nat.blt d N=true)(hK:∀A w',St w0 w' (Bx el 3 A [v0,v1,v2]::ks)->ak P N ops K rest (bt e d (.pointer A)) w')(hM:dX [v0,v1,v2]=false:=by rfl):ak P N ops K (⟨some d,.box el x,ty,pos,af,none⟩::rest) e w:= .xd hS hx hb rfl hK hM
end
theorem PJ(A:ai)(n c:Nat)(xs:ah)(w:aa)(hR:cd w A n xs)(hn:n<=1000000000):
 aE prog 115 [.slice A n c] w (fun v w'=>∃b:Bool,v= .bool b/\(b=true↔qe xs)/\St w w' []):=by
 have bP:=hR.1;refine bm func115 O ntmps115 O (bU O) ?_;refine aY O (aZ O O (je O O O (by omega) (az O ?_)));refine Cd.loop (α:=Nat) (fun k=> [(0,.slice A n c),(3,aj ((n:Int) - 1 - (k:Int)))]) (fun k w'=>St w w' []/\(k<=n - 1)/\∀j:Nat,n - k<=j->j<n->gi xs ((j:Int) - 1)<=gi xs j) (fun k=>n - k) 0 ⟨O,bw (Value.int .i64) (by show(n:Int) - 1=(n:Int) - 1 - ((0:Nat):Int);omega),au⟩ ⟨St.refl w,bA _,fun j h1 h2=>by omega⟩ ?_;rintro k e w1 ⟨hS,hk,hK⟩;have fT:=hS.dY hR;refine b7 O (aM _ O (fun h1=>?_) (fun h1=>?_))
 ·have e1:((n:Int) - 1 - (k:Int))=((n - 1 - k:Nat):Int):=by omega
  have e2:((n:Int) - 1 - (k:Int) - 1)=((n - 1 - k:Nat):Int) - 1:=by omega
  refine cH O ?_;refine dK [xS (A) (n) (c),xI (((n:Int) - 1 - (k:Int))),xP (aF (A) (((n:Int) - 1 - (k:Int))).toNat),xI (gi (xs) (((n:Int) - 1 - (k:Int)))),xS (A) (n) (c),xI (((n:Int) - 1 - (k:Int))),xI ((((n:Int) - 1 - (k:Int))) - ((1:Int))),xP (aF (A) ((((n:Int) - 1 - (k:Int))) - ((1:Int))).toNat),xI (gi (xs) ((((n:Int) - 1 - (k:Int))) - ((1:Int)))),xB (decide (gi xs ((n:Int) - 1 - (k:Int))<gi xs ((n:Int) - 1 - (k:Int) - 1)))] O (eo O) ?_ ?_
  ·refine⟨Dr O,Dr O,fun _ _ hb _ _=>ay (fT.aq hb).2 O Az,fun _ _ hb _ _=>bc (fT.aq hb) O Az,Dr O,Dr O,fun _ _ _ _ _=>je O O O (by omega) Az,fun _ _ hb _ _=>ay (fT.aq hb).2 O Az,fun _ _ hb _ _=>bc (fT.aq hb) O Az,?_,au⟩
   ·intro e1 w1 hb hp aX;refine aH (JM _ _ _) O ?_;rintro _ w2 ⟨rfl,aA⟩;subst aA;refine ak.n (d0 (by exact O))
  intro u w2 hb _;have aw:=hS.aq hb;refine fw O (aM _ O (fun h2=>?_) (fun h2=>?_))
  ·refine cE O (de (cT ?_));refine bQ O ?_;refine⟨false,rfl,⟨fun h=> (by cases h),fun h=>?_⟩,aw⟩;rw [e1]at h2;have h3:=List.pairwise_iff_getElem.1 h (n - 1 - k - 1) (n - 1 - k) (by omega) (by omega) (by omega);rw [<-bN (by omega),<-bN (by omega),show((n - 1 - k - 1:Nat):Int)=((n - 1 - k:Nat):Int) - 1 by omega]at h3;omega
  ·refine aD O (je O O O (by omega) (aU O (tQ ?_)));refine⟨k+1,by show n - (k+1)<n - k;omega,⟨O,bw (Value.int .i64) (by show(n:Int) - 1 - (k:Int) - 1=(n:Int) - 1 - ((k+1:Nat):Int);omega),au⟩,aw,by omega,fun j LY Gx=>?_⟩
   by_cases ej:n - k<=j
   ·exact hK j ej Gx
   ·have:(j:Int)=(n:Int) - 1 - (k:Int):=by omega
    rw [this];omega
 ·refine bo O (bp (e6 O ?_));refine bQ O ⟨true,O,⟨fun _=>?_,fun _=>O⟩,hS⟩;have key:∀j i:Nat,i<=j->j<n->gi xs i<=gi xs j:=by
   intro j
   induction j with
   | zero=>
    intro i hi _;have:i=0:=by omega
    rw [this];exact Int.le_refl _
   | succ j ih=>
    intro i hi hj
    by_cases e:i=j+1
    ·subst e;exact Int.le_refl _
    ·have h3:=ih i (by omega) (by omega);have h4:=hK (j+1) (by omega) hj;rw [show((j+1:Nat):Int) - 1=(j:Int) by omega]at h4;omega
  refine List.pairwise_iff_getElem.2 fun i j hi hj uq=>?_
  have:=key j i (by omega) (by omega)
  rwa [bN hi,bN hj]at this
theorem QI{n:Int}{R:ah}(h:∀x∈R,0<=x/\x<=n - 1):va 0 (n - 1) R:=h
theorem Na(n:Int)(A D:ai)(cA cD:Nat)(R:ah)(rs:List aO)(B:ag)(w:aa)(hR:cd w A R.length R)(hB:bl w D B.length rs B)(hP:jP n R B):
 aE prog 60 [.agg #[aj n,.slice A R.length cA,.slice D B.length cD]] w (fun v w'=>v= .bool true/\St w w' []):=by
 have hn:=hP.n1;have rD:=hP.B9;have hle:=hP.len;have bH:=fun e (h:e<R.length)=>hP.row e h
 have bO:∀e:Nat,e<R.length->(gl B e).length<=500:=fun e h=>by
  have:=tq (N:=R.length) (bH e h).1.nodup fun x hx=> ((bH e h).2 x hx).1
  omega
 obtain⟨N,hN⟩:∃N,R.length=N:=⟨_,rfl⟩;rw [hN]at hR rD hle bH bO|-;rw [hle]at hB|-;refine bm func60 O ntmps60 O (bU O) (aY O (yJ (St.refl w) O O ?_));intro A1 w1 aB;have fp:=aB.below;have h1:Rd w1 A1 3 (fun j=> [Value.int .i64 n,.slice A N cA,.slice D N cD].getD j undef):=aB.rd 0 O;have hR:=hR.aq fp;have hB:=hB.aq fp;have aB:=aB.none;refine ao O (aS h1 O (a8 h1 O (aH (wB _ _ _ _) O ?_)));rintro _ w1 ⟨rfl,rfl⟩;refine ao O (aS h1 O (iw (j:=0) h1 (by exact bw Value.pointer O) O O O O (aH (qU _ _ _ _) O ?_)));rintro _ w1 ⟨rfl,rfl⟩
 first | refine dM rfl rfl ?_ | refine eI rfl rfl ?_
 refine ao O (bX 23 O (fun h=>absurd (by omega) h) (fun _=>?_));refine ar O (ao O (ar O (ao O ?_)));refine bX 27 O (fun h=>by omega) (fun _=>?_);refine ar O (aS h1 O (ar O (a8 h1 O ?_)));refine ar O (aZ O O (ar O ?_));refine aS h1 O (ar O (a8 h1 O ?_));refine ar O (aZ O O (ar O (ao O ?_)));refine bX 36 O (fun h=>absurd O h) (fun _=>?_);refine ar O (aS h1 O (ar O (a8 h1 O (ar O (aS h1 O (ar O (iw (j:=0) h1 (by exact bw Value.pointer O) O O O O ?_)))))));refine ar O (je O O O (by omega) (ar O ?_));refine aH (QQ A N cA R 0 (n - 1) _ hR (by omega)) O ?_;rintro _ w2 ⟨rfl,aA⟩;have hb:=aA.below;have h1:=Rd.below h1 hb;have hR:=hR.aq hb;have hB:=hB.aq hb;have aB:=aB.aq hb;clear aA hb;refine ar O ?_
 first | refine dM rfl rfl ?_ | refine eI rfl rfl ?_
 refine ao O (bX 45 O (fun h=>absurd (QI hP.eS) h) (fun _=>?_));refine ar O (aS h1 O (ar O (a8 h1 O (ar O (aH (PJ A N cA R _ hR (by omega)) O ?_)))));rintro _ w3 ⟨b,rfl,Up,aA⟩;obtain rfl:=Up.2 hP.y6;have hb:=aA.below;have h1:=Rd.below h1 hb;have hR:=hR.aq hb;have hB:=hB.aq hb;have aB:=aB.aq hb;clear aA hb;refine ar O ?_
 first | refine dM rfl rfl ?_ | refine eI rfl rfl ?_
 refine az O (Cd.dO O (aD O (aS h1 O (a8 h1 O ?_))));refine aZ O O (az O ?_);refine Cd.loop (α:=Nat) (fun k=> [(1,.pointer A1),(3,aj N),(52,.slice D N cD),(53,aj N),(54,aj k)]) (fun k w'=>k<=N/\St w3 w' []) (fun k=>N - k) 0 (ac4 O) ⟨bA _,St.refl _⟩ ?_;rintro k e w4 ⟨hk,aA⟩;have hb:=aA.below;have h1:=Rd.below h1 hb;have hR:=hR.aq hb;have hB:=hB.aq hb;have aB:=aB.aq hb;clear hb;refine b7 O (aM _ O (fun h3=>?_) (fun h3=>?_))
 ·have np:k<N:=by omega
  have js:=hB.at_ (i:=(k:Int)) (by omega) (by omega);have gI:=js.1;have An:=bO k np;have iW:=bH k np;refine aD O (ay hB.top.2 O (bB hB.top O ?_));refine ao O (aZ O O (az O ?_));refine Cd.loop (α:=Nat) (fun q=> [(1,.pointer A1),(3,aj N),(52,.slice D N cD),(53,aj N),(54,aj k),(4,aj k),(5,.slice (rg rs k).a (rg rs k).n (rg rs k).c),(59,.slice (rg rs k).a (rg rs k).n (rg rs k).c),(60,aj ((rg rs k).n:Int)),(61,aj q)]) (fun q w'=>q<=(rg rs k).n/\St w4 w' []) (fun q=> (rg rs k).n - q) 0 (ac4 O) ⟨bA _,St.refl _⟩ ?_;rintro q e w5 ⟨hq,pZ⟩;have hb:=pZ.below;have h1:=Rd.below h1 hb;have hR:=hR.aq hb;have hB:=hB.aq hb;have js:=js.aq hb;clear hb;refine b7 O (aM _ O (fun h4=>?_) (fun h4=>?_))
  ·have Ak:q< (gl B k).length:=by omega
   have hd:=iW.2 (gi (gl B k) q) (gi_in Ak);refine aD O (ay js.2 O (bc js O (az O ?_)));generalize LJ:gi (gl B k) q=d at*
   by_cases x9:0<q
   ·
    have V7:=iW.1.uI (show q - 1<q by omega) Ak;rw [LJ,show((q - 1:Nat):Int)=(q:Int) - 1 by omega]at V7;refine dK [xI (d),xI ((N:Int)),xI (((N:Int)) - ((1:Int))),xB (decide (0<=d/\d<=(N:Int) - 1)),xB (false),xB (false),xP (aF (A1) 1),xS (A) (N) (cA),xI (d),xP (aF (A) (d).toNat),xI (gi (R) (d)),xP (aF (A1) 1),xS (A) (N) (cA),xI ((k:Int)),xP (aF (A) ((k:Int)).toNat),xI (gi (R) ((k:Int))),xB (false),xB (false),xB (false),xI ((q:Int)),xB (true),xB (true),xS ((rg rs k).a) ((rg rs k).n) ((rg rs k).c),xI ((q:Int)),xI (((q:Int)) - ((1:Int))),xP (aF ((rg rs k).a) (((q:Int)) - ((1:Int))).toNat),xI (gi (gl B k) (((q:Int)) - ((1:Int)))),xI (d),xB (false),xB (false),xB (false)] O (eo O) ?_ ?_
    ·refine⟨Dr O,Dr O,fun _ _ _ _ _=>je O O O (by omega) Az,?_,fun _ _ _ _ _=>dM O O (Az (by exact bw Value.bool (dq (fun h=>h (by omega))))),Dr O,fun _ _ hb _ _=>ar O (aS (h1.below hb) O Az),fun _ _ hb _ _=>ar O (a8 (h1.below hb) O Az),Dr O,fun _ _ hb _ _=>ar O (ay (hR.aq hb).2 O Az),fun _ _ hb _ _=>ar O (bc (hR.aq hb) O Az),fun _ _ hb _ _=>ar O (aS (h1.below hb) O Az),fun _ _ hb _ _=>ar O (a8 (h1.below hb) O Az),Dr O,fun _ _ hb _ _=>ar O (ay (hR.aq hb).2 O Az),fun _ _ hb _ _=>ar O (bc (hR.aq hb) O Az),fun _ _ _ _ _=>Dk O (by exact bw Value.bool (dq (by omega))),Dr O,Dr O,Dr O,fun _ _ _ _ _=>Dk O (by exact bw Value.bool (fo (by omega))),Dr O,Dr O,Dr O,fun _ _ _ _ _=>ar O (je O O O (by omega) Az),fun _ _ hb _ _=>ar O (ay (js.aq hb).2 O Az),fun _ _ hb _ _=>ar O (bc (js.aq hb) O Az),Dr O,fun _ _ _ _ _=>Dk O (by exact bw Value.bool (dq (by omega))),Dr O,Dr O,au⟩;intro e1 w1 hb hp aX;refine aH (qU _ _ _ _) O ?_;rintro _ w2 ⟨rfl,aA⟩;subst aA;refine ak.n (d0 (by exact O))
    intro u w6 hb _;refine fw O (Cd.dO O ?_);refine aD O (aL O (aU O (tQ ?_)));exact⟨q+1,by show(rg rs k).n - (q+1)< (rg rs k).n - q;omega,(ac4 O),by omega,pZ.aq hb⟩
   refine dK [xI (d),xI ((N:Int)),xI (((N:Int)) - ((1:Int))),xB (decide (0<=d/\d<=(N:Int) - 1)),xB (false),xB (false),xP (aF (A1) 1),xS (A) (N) (cA),xI (d),xP (aF (A) (d).toNat),xI (gi (R) (d)),xP (aF (A1) 1),xS (A) (N) (cA),xI ((k:Int)),xP (aF (A) ((k:Int)).toNat),xI (gi (R) ((k:Int))),xB (false),xB (false),xB (false),xI ((q:Int)),xB (false),xB (false),xU,xU,xU,xU,xU,xU,xU,xB (false),xB (false)] O (eo O) ?_ ?_
   ·refine⟨Dr O,Dr O,fun _ _ _ _ _=>je O O O (by omega) Az,?_,fun _ _ _ _ _=>dM O O (Az (by exact bw Value.bool (dq (fun h=>h (by omega))))),Dr O,fun _ _ hb _ _=>ar O (aS (h1.below hb) O Az),fun _ _ hb _ _=>ar O (a8 (h1.below hb) O Az),Dr O,fun _ _ hb _ _=>ar O (ay (hR.aq hb).2 O Az),fun _ _ hb _ _=>ar O (bc (hR.aq hb) O Az),fun _ _ hb _ _=>ar O (aS (h1.below hb) O Az),fun _ _ hb _ _=>ar O (a8 (h1.below hb) O Az),Dr O,fun _ _ hb _ _=>ar O (ay (hR.aq hb).2 O Az),fun _ _ hb _ _=>ar O (bc (hR.aq hb) O Az),fun _ _ _ _ _=>Dk O (by exact bw Value.bool (dq (by omega))),Dr O,Dr O,Dr O,fun _ _ _ _ _=>Dk O (by exact bw Value.bool (dq (by omega))),Dr O,Dr O,Dr O,Dr O,Dr O,Dr O,Dr O,Dr O,Dr O,Dr O,au⟩;intro e1 w1 hb hp aX;refine aH (qU _ _ _ _) O ?_;rintro _ w2 ⟨rfl,aA⟩;subst aA;refine ak.n (d0 (by exact O))
   intro u w6 hb _;refine fw O (Cd.dO O ?_);refine aD O (aL O (aU O (tQ ?_)));exact⟨q+1,by show(rg rs k).n - (q+1)< (rg rs k).n - q;omega,(ac4 O),by omega,pZ.aq hb⟩
  refine bo O (bp (cn O (aL O (aU O (tQ ?_)))));exact⟨k+1,by show N - (k+1)<N - k;omega,(ac4 O),by omega,aA.aq pZ.below⟩
 clear aA h3;refine bo O (bp (cn O ?_));refine aS h1 O (a8 h1 O ?_);refine aZ O O (az O ?_);refine Cd.loop (α:=Nat) (fun k=> [(1,.pointer A1),(100,.slice D N cD),(101,aj N),(102,aj k)]) (fun k w'=>k<=N/\St w4 w' []) (fun k=>N - k) 0 (ac4 O) ⟨bA _,St.refl _⟩ ?_;rintro k e w5 ⟨hk,aA⟩;have hb:=aA.below;have h1:=Rd.below h1 hb;have hB:=hB.aq hb;have aB:=aB.aq hb;clear hb;refine b7 O (aM _ O (fun h3=>?_) (fun h3=>?_))
 ·have np:k<N:=by omega
  have js:=hB.at_ (i:=(k:Int)) (by omega) (by omega);have gI:=js.1;have An:=bO k np;have iW:=bH k np;refine aD O (ay hB.top.2 O (bB hB.top O ?_));refine ao O (aZ O O (az O ?_));refine Cd.loop (α:=Nat) (fun q=> [(1,.pointer A1),(100,.slice D N cD),(101,aj N),(102,aj k),(9,.slice (rg rs k).a (rg rs k).n (rg rs k).c),(106,.slice (rg rs k).a (rg rs k).n (rg rs k).c),(107,aj ((rg rs k).n:Int)),(108,aj q)]) (fun q w'=>q<=(rg rs k).n/\w'=w5) (fun q=> (rg rs k).n - q) 0 (ac4 O) ⟨bA _,O⟩ ?_;rintro q e w6 ⟨hq,rfl⟩;refine b7 O (aM _ O (fun h4=>?_) (fun h4=>?_))
  ·have Ak:q< (gl B k).length:=by omega
   have C1:=gi_in Ak;have hd:=iW.2 (gi (gl B k) q) C1;refine aD O (ay js.2 O (bc js O (ao O (aS h1 O (a8 h1 O (ao O ?_))))));generalize LJ:gi (gl B k) q=d at*;have kf:=hB.at_ (i:=d) (by omega) (by omega);have hrdn:=kf.1;have uA:(gl B d).length<=500:=by
    have:=bO d.toNat (by omega)
    rwa [Int.toNat_of_nonneg hd.1.1]at this
   refine ay hB.top.2 O (bB hB.top O ?_);refine aZ O O (az O ?_);refine Cd.loop (α:=Nat) (fun t=> [(1,.pointer A1),(100,.slice D N cD),(101,aj N),(102,aj k),(9,.slice (rg rs k).a (rg rs k).n (rg rs k).c),(106,.slice (rg rs k).a (rg rs k).n (rg rs k).c),(107,aj ((rg rs k).n:Int)),(108,aj q),(116,.slice (rg rs d).a (rg rs d).n (rg rs d).c),(117,aj ((rg rs d).n:Int)),(118,aj t)]) (fun t w'=>t<=(rg rs d).n/\w'=w6) (fun t=> (rg rs d).n - t) 0 (ac4 O) ⟨bA _,O⟩ ?_;rintro t e w7 ⟨ht,rfl⟩;refine b7 O (aM _ O (fun h5=>?_) (fun h5=>?_))
   ·have kQ:t< (gl B d).length:=by omega
    have nV:=gi_in kQ;have Wg:=hP.tr k (by omega) d C1 _ nV;refine aD O (ay kf.2 O (bc kf O (ao O (aH (Jx _ _ _ (gl B k) _ _ js iW.1 (by omega)) O ?_))));rintro _ _ ⟨⟨p,rfl⟩,rfl⟩;refine ao O ?_
    first | refine dM rfl rfl ?_ | refine eI rfl rfl ?_
    refine az O (jw O (fun h=>h Wg) (aD O (aL O (aU O (tQ ?_)))));exact⟨t+1,by show(rg rs d).n - (t+1)< (rg rs d).n - t;omega,(ac4 O),by omega,O⟩
   refine bo O (bp (cn O (aL O (aU O (tQ ?_)))));exact⟨q+1,by show(rg rs k).n - (q+1)< (rg rs k).n - q;omega,(ac4 O),by omega,O⟩
  refine bo O (bp (cn O (aL O (aU O (tQ ?_)))));exact⟨k+1,by show N - (k+1)<N - k;omega,(ac4 O),by omega,aA⟩
 refine bo O (bp (e6 O ?_));exact bQ O ⟨O,aB⟩
theorem ZO{t:ad}{rs:List aO}{xss:ag}{a:ai}{n c:Nat}{x:ah}(h:rs.length=xss.length):bS t (rs++ [⟨a,n,c⟩]) (xss++ [x])=bS t rs xss++ [ax t a n c x]:=by
 rw [nD h];rfl
theorem YH{t1 t2:ad}{A:ai}{n c:Nat}{rs:List aO}{xss:ag}{pre ks:List Ck}{i:Nat}(s:aO)(xs:ah)(hr:rs.length=xss.length)(hi:i<rs.length):(pre++ (aK t1 t2 A n c rs xss++ks)).set (pre.length+1+i) (ax t2 s.a s.n s.c xs)=pre++ (aV t1 A n c rs::(bS t2 (rs.set i s) (xss.set i xs)++ks)):=by
 rw [List.set_append_right _ _ (by omega),show pre.length+1+i - pre.length=i+1 by omega]
 congr 1
 show(aV t1 A n c rs::(bS t2 rs xss++ks)).set (i+1) _=_;rw [List.set_cons_succ,List.set_append_left _ _ (by rw [wq hr];exact hi),Ii hr]
section
variable {P:Program} {N:Nat} {ops:Array Oper} {K:Env->aa->Prop} {rest:List Oper} {e:Env} {w:aa} {d:Nat} {ty:ad} {pos:String} {af:Array Edge}
theorem Qg{F:FuncId}{x y z u:ae}{v1 v2 v3 v4:ab}(hx:ev e x=v1)(hy:ev e y=v2)(hz:ev e z=v3)(hu:ev e u=v4)(hb:Nat.blt d N=true)(hK:ak P N ops K rest (bt e d (.func (.func F) #[] #[v1,v2,v3,v4])) w):
 ak P N ops K (⟨some d,.makeFunc (.func F) #[] #[x,y,z,u],ty,pos,af,none⟩::rest) e w:=
 .val (by simp [execOp,Instr.makeFunc,hx,hy,hz,hu]) hb hK
end
theorem EW{l:ag}(h:l.length<=401):cap l=l:=by
 unfold cap;exact jc h
def sF(U:ag):Nat->Int->ag
 | 0,_=> [[]]
 | k+1,e=> (gl U e).flatMap fun f=> (sF U k f).map (f:: ·)
def kF(U:ag)(k:Nat)(fl xs:ah):ag:=xs.flatMap fun e=> (sF U k e).map fun y=>fl++e::y
theorem S1{U:ag}{k:Nat}{fl xs:ah}{j:Nat}(h:j<xs.length):kF U k fl (xs.take (j+1))=kF U k fl (xs.take j)++ (sF U k (gi xs j)).map fun y=>fl++gi xs j::y:=by
 unfold kF;rw [lG h,List.flatMap_append,bN h];simp
theorem S0(U:ag)(k:Nat)(fl:ah)(e:Int):(sF U (k+1) e).map (fun y=>fl++e::y)=kF U k (fl++ [e]) (gl U e):=by
 unfold kF;rw [sF,List.map_flatMap];refine bw (fun g=>List.flatMap g (gl U e)) (funext fun f=>?_);rw [List.map_map];refine pg fun y _=>?_
 show fl++e::f::y=(fl++ [e])++f::y;rw [fC];rfl
abbrev lM(PF A:ai)(c:Nat)(rs:List aO)(F:ag)(PB:ai)(n:Int)(AR:ai)(nR cR:Nat)(AD:ai)(m d:Nat)(PG PU Au:ai)(N cU:Nat)(dw:List aO)(U:ag)(iY:List Ck):List Ck:=
 Bx 25 1 PF [.slice A F.length c]::(aK 24 2 A F.length c rs F++ (dU PB n AR nR cR AD m d::Bx 107 1 PG [.func (.func 108) #[] #[.pointer PF,.pointer PB,.pointer PG,.pointer PU]]::Bx 25 1 PU [.slice Au N cU]::(aK 24 2 Au N cU dw U++iY)))
theorem Y2{α:Type}(x b c:α)(X Y:List α):(x::b::c::(X++Y)).Perm (b::c::((X++ [x])++Y)):=by
 classical
 refine List.perm_iff_count.2 fun z=>?_
 simp only [List.count_append,List.count_cons,List.count_nil];omega
theorem Cw(PF A:ai)(c:Nat)(rs:List aO)(F:ag)(PB:ai)(n:Int)(AR:ai)(nR cR:Nat)(AD:ai)(m d:Nat)(PG PU Au:ai)(N cU:Nat)(dw:List aO)(U:ag)(iY:List Ck):(dU PB n AR nR cR AD m d::Bx 107 1 PG [.func (.func 108) #[] #[.pointer PF,.pointer PB,.pointer PG,.pointer PU]]::Bx 25 1 PU [.slice Au N cU]::(aK 24 2 Au N cU dw U++iY)).Sublist (lM PF A c rs F PB n AR nR cR AD m d PG PU Au N cU dw U iY):=(dD _ _).cons _
theorem KG(PF A:ai)(c:Nat)(rs:List aO)(F:ag)(PB:ai)(n:Int)(AR:ai)(nR cR:Nat)(AD:ai)(m d:Nat)(PG PU Au:ai)(N cU:Nat)(dw:List aO)(U:ag)(iY:List Ck)(x:Ck):(x::lM PF A c rs F PB n AR nR cR AD m d PG PU Au N cU dw U iY).Perm (lM PF A c rs F PB n AR nR cR AD m d PG PU Au N cU dw U (x::iY)):=by
 classical
 refine List.perm_iff_count.2 fun z=>?_
 simp only [lM,List.count_append,List.count_cons];omega
theorem NQ{w0 w':aa}{PF A:ai}{c:Nat}{rs:List aO}{F:ag}{PB:ai}{n:Int}{AR:ai}{nR cR:Nat}{AD:ai}{m d:Nat}{PG PU Au:ai}{N cU:Nat}{dw:List aO}{U:ag}{iY:List Ck}{t:ad}{B:ai}{q r:Nat}{xs:ah}(h:St w0 w' (lM PF A c rs F PB n AR nR cR AD m d PG PU Au N cU dw U (ax t B q r xs::iY))):cd w' B q xs:=(h.perm (KG ..).symm).bz 0 rfl
theorem S9(PF A:ai)(c:Nat)(rs:List aO)(F:ag)(PB:ai)(n:Int)(AR:ai)(nR cR:Nat)(AD:ai)(m d:Nat)(PG PU Au:ai)(N cU:Nat)(dw:List aO)(U:ag)(iY:List Ck)(x:Ck):(lM PF A c rs F PB n AR nR cR AD m d PG PU Au N cU dw U iY).Sublist (lM PF A c rs F PB n AR nR cR AD m d PG PU Au N cU dw U (x::iY)):=(((((((dA iY).cons x).append_left _).cons_cons _).cons_cons _).cons_cons _).append_left _).cons_cons _
theorem KH{w0 w':aa}{PF A:ai}{c:Nat}{rs:List aO}{F:ag}{PB:ai}{n:Int}{AR:ai}{nR cR:Nat}{AD:ai}{m d:Nat}{PG PU Au:ai}{N cU:Nat}{dw:List aO}{U:ag}{iY:List Ck}(CM:U.length=N)(h:St w0 w' (lM PF A c rs F PB n AR nR cR AD m d PG PU Au N cU dw U iY)):bl w' Au N dw U:=
 St.du (t1:=24) (t2:=2) (c:=cU) (h.sub (((((dA (aK 24 2 Au N cU dw U++iY)).cons _).cons _).cons _).trans (Cw ..))) CM
theorem S5(w0:aa)(n:Nat)(zU:n<=5)(PF PB AR AD PG PU Au:ai)(nR cR m d N cU:Nat)(dw:List aO)(U:ag)(CM:U.length=N)(hN:N<=500)(Ue:∀e:Nat,e<N->(gl U e).length<=500/\∀x∈gl U e,0<=x/\x< (N:Int)):
 ∀(k nf nx:Nat) (fl xs:ah) (Af Ax:ai) (cf cx:Nat) (iY:List Ck) (w:aa) (A:ai) (c:Nat) (rs:List aO) (F:ag),fl.length=nf->xs.length=nx->nf+ (k+1)=n->nx<=500->(∀x∈xs,0<=x/\x< (N:Int))->
  (∀w' A c rs F,St w0 w' (lM PF A c rs F PB n AR nR cR AD m d PG PU Au N cU dw U iY)->cd w' Af nf fl)->
  (∀w' A c rs F,St w0 w' (lM PF A c rs F PB n AR nR cR AD m d PG PU Au N cU dw U iY)->cd w' Ax nx xs)->
  rs.length=F.length->F.length<=401->St w0 w (lM PF A c rs F PB n AR nR cR AD m d PG PU Au N cU dw U iY)->
  aE prog 108 [.slice Af nf cf,.slice Ax nx cx,.pointer PF,.pointer PB,.pointer PG,.pointer PU] w (fun v w'=>v= .tuple #[]/\∃A' c' rs',rs'.length=(cap (F++kF U k fl xs)).length/\St w0 w' (lM PF A' c' rs' (cap (F++kF U k fl xs)) PB n AR nR cR AD m d PG PU Au N cU dw U iY)):=by
 intro k
 induction k using Nat.strongRecOn with
 | _ k ih=>
  intro nf nx fl xs Af Ax cf cx iY w A c rs F Mn gH jq oa uE hf hx rV hF hS;refine bm func108 O ntmps108 O (Og O) ?_;refine aY O (aZ O O (az O ?_));refine Cd.loop (α:=Nat×ai×Nat×List aO) (fun z=> [(0,.slice Af nf cf),(2,.pointer PF),(3,.pointer PB),(4,.pointer PG),(5,.pointer PU),(11,.slice Ax nx cx),(12,aj nx),(13,aj (z.1:Int))])
   (fun z w'=>z.1<=nx/\z.2.2.2.length=(cap (F++kF U k fl (xs.take z.1))).length/\St w0 w' (lM PF z.2.1 z.2.2.1 z.2.2.2 (cap (F++kF U k fl (xs.take z.1))) PB n AR nR cR AD m d PG PU Au N cU dw U iY)) (fun z=>nx - z.1) (0,A,c,rs) ⟨rfl,rfl,rfl,rfl,rfl,rfl,rfl,rfl,au⟩ ⟨bA _,by
     show rs.length=(cap (F++ [])).length;rw [iG,EW hF];exact rV,by
     show St w0 w (lM PF A c rs (cap (F++ [])) _ _ _ _ _ _ _ _ _ _ _ _ _ _ _ _);rw [iG,EW hF];exact hS⟩ ?_
  clear hS rV;rintro⟨j,A,c,rs⟩ e w1 ⟨hj,rV,hS⟩;dsimp only at hj rV hS|-;generalize hG:F++kF U k fl (xs.take j)=G at*;refine b7 O (aM _ O (fun h1=>?_) (fun h1=>?_))
  ·have qz:j<xs.length:=by omega
   have hR:=hx _ _ _ _ _ hS;have yd:=uE _ (gi_in qz);have xr:F++kF U k fl (xs.take (j+1))=G++ (sF U k (gi xs j)).map fun y=>fl++gi xs j::y:=by
    rw [S1 qz,<-fC,hG]
   have xT:F++kF U k fl xs=G++kF U k fl (xs.drop j):=by
    rw [<-hG,fC]
    congr 1
    unfold kF;rw [<-List.flatMap_append,List.take_append_drop]
   refine aD O (ay hR.2 O (bc hR O (ao O ?_)));obtain⟨E,hE⟩:∃E:Nat,gi xs j=E:=⟨(gi xs j).toNat,by omega⟩;rw [hE]at xr yd|-;refine aH (BJ Af nf cf fl _ (hf _ _ _ _ _ hS) (by omega)) O ?_;rintro _ w2 ⟨A18,c18,rfl,aA⟩;have aw:=hS.call aA;clear aA hS;refine ao O (fk aw O O O ?_);intro iP w3 aI;refine fR 1 aI O (aI.bz 0 O) O O O ?_;intro db dh w4 aG;have aG:St w0 w4 (ax 2 db (nf+1) dh (fl++ [(E:Int)])::lM PF A c rs (cap G) PB n AR nR cR AD m d PG PU Au N cU dw U iY):=aG.tail;clear aI aw;have fp:Rd w4 PF 1 (fun _=> .slice A (cap G).length c):=Rd.one (aG.rd 1 O);refine ao O (acZ (j:=0) fp (by exact bw Value.pointer (lC _).symm) O O O O ?_);refine aZ O O (az O ?_);refine aM _ O (fun h2=>?_) (fun h2=>?_)
   ·refine cE O (de (cT ?_));refine Bp ⟨O,A,c,rs,?_,?_⟩
    ·rw [xT,JG _ (by omega)];exact rV
    ·rw [xT,JG _ (by omega)];exact aG.tail
   have cz:=JE (l:=G) (by omega);have gj:=((aG.tail).sub (Cw ..)).rd 0 O
   by_cases oN:k=0
   ·--dup 2
    refine cH O (dK [xS (db) (nf+1) (dh),xI ((nf+1:Nat):Int),xP (aF (PB) 0),xI ((n:Int)),xB (true),xB (true)] O (eo O) ?_ ?_)
    ·refine⟨Dr O,?_,fun _ _ hb _ _=>aS (gj.below hb) O Az,fun _ _ hb _ _=>iw (gj.below hb) O O O O O Az,fun _ _ _ _ _=>Dk O (by exact bw Value.bool (fo (by omega))),Dr O,au⟩
     ·intro e1 w1 hb hp aX;refine aH (wB _ _ _ _) O ?_;rintro _ w2 ⟨rfl,aA⟩;subst aA;refine ak.n (d0 (by exact O))
    intro u w5 lh _;have aR:=aG.aq lh;clear aG gj fp;have fp:Rd w5 PF 1 (fun _=> .slice A (cap G).length c):=Rd.one (aR.rd 1 O);refine fw O (Cd.fW O (aD O (acZ (j:=0) fp (by exact bw Value.pointer (lC _).symm) O O O O (ao O (mW aR O O O ?_)))));intro tB w6 aQ;refine km 3 aQ O (aQ.eG 0 O) O O O (by omega) (by omega) O ?_;intro iQ iU w7 a6;refine ak.st (i:=2) (j:=0) a6 O (by exact bw Value.pointer (lC _).symm) O O (Nat.succ_pos _) ?_;intro w8 a7;have aW:St w0 w8 (ax 2 db (nf+1) dh (fl++ [(E:Int)])::Bx 25 1 PF [.slice iQ ((cap G).length+1) iU]::aV 24 iQ ((cap G).length+1) iU (rs++ [⟨db,nf+1,dh⟩])::(bS 2 rs (cap G)++_)):=a7.tail;have aW:=aW.perm (Y2 _ _ _ _ _);rw [<-ZO rV]at aW;have hex:(sF U k (E:Int)).map (fun y=>fl++ (E:Int)::y)=[fl++ [(E:Int)]]:=by rw [oN];rfl
    rw [hex]at xr;have rE:=Rk (l:=G) (fl++ [(E:Int)]) (by omega);refine ao O (aL O (aU O (tQ ?_)));refine⟨(j+1,iQ,iU,rs++ [⟨db,nf+1,dh⟩]),by show nx - (j+1)<nx - j;omega,(ac4 O),by show j+1<=nx;omega,?_,?_⟩
    ·show(rs++ [_]).length=(cap (F++kF U k fl (xs.take (j+1)))).length;rw [xr,rE,e8,e8,rV];rfl
    ·show St w0 w8 (lM PF iQ iU (rs++ [_]) (cap (F++kF U k fl (xs.take (j+1)))) PB n AR nR cR AD m d PG PU Au N cU dw U iY);rw [xr,rE];show St w0 w8 (Bx _ 1 PF [.slice iQ (cap G++ [fl++ [(E:Int)]]).length iU]::(aV _ iQ (cap G++ [fl++ [(E:Int)]]).length iU _::_));rw [show(cap G++ [fl++ [(E:Int)]]).length=(cap G).length+1 by simp];exact aW
   ·obtain⟨k',rfl⟩:∃k',k=k'+1:=⟨k - 1,by omega⟩;rw [S0]at xr;refine cH O (dK [xS (db) (nf+1) (dh),xI ((nf+1:Nat):Int),xP (aF (PB) 0),xI ((n:Int)),xB (false),xB (false)] O (eo O) ?_ ?_)
    ·refine⟨Dr O,?_,fun _ _ hb _ _=>aS (gj.below hb) O Az,fun _ _ hb _ _=>iw (gj.below hb) O O O O O Az,fun _ _ _ _ _=>Dk O (by exact bw Value.bool (dq (by omega))),Dr O,au⟩
     ·intro e1 w1 hb hp aX;refine aH (wB _ _ _ _) O ?_;rintro _ w2 ⟨rfl,aA⟩;subst aA;refine ak.n (d0 (by exact O))
    intro u w5 lh _;have aR:=(aG.aq lh).perm (KG ..);clear aG gj fp;have iA:Rd w5 PG 1 (fun _=> .func (.func 108) #[] #[.pointer PF,.pointer PB,.pointer PG,.pointer PU]):=Rd.one ((aR.sub (Cw ..)).rd 1 O);have kL:Rd w5 PU 1 (fun _=> .slice Au N cU):=Rd.one ((aR.sub (Cw ..)).rd 2 O);have hU:=KH CM aR;have MF:=hU.at_ (i:=(E:Int)) (by omega) (by omega);have pK:=Ue E (by omega);refine fw O (Cd.dO O ?_);refine jx [6] [.ex (.func (.func 108) #[] #[.pointer PF,.pointer PB,.pointer PG,.pointer PU]),yS (db) (nf+1) (dh),yS (Au) (N) (cU),yI ((E:Int)),yP (aF (Au) ((E:Int)).toNat),yS ((rg (dw) ((E:Int))).a) ((rg (dw) ((E:Int))).n) ((rg (dw) ((E:Int))).c),.pr (fun v w'=>∃A' c' rs',rs'.length=(cap (cap G++kF U k' (fl++ [(E:Int)]) (gl U E))).length/\St w0 w' (lM PF A' c' rs' (cap (cap G++kF U k' (fl++ [(E:Int)]) (gl U E))) PB n AR nR cR AD m d PG PU Au N cU dw U iY))] (by kernel_rfl) (by kernel_rfl) (ly (ly (ly (ly (ly (ly (cL.2 ⟨Ye.cQ (fun v w w' h hb=>by obtain⟨A',c',rs',oQ,hT⟩:=h;exact⟨A',c',rs',oQ,hT.aq hb⟩),(fun _ h=>by cases h)⟩))))))) ?_ ?_
    ·refine⟨?_,cj O,cP fun _ _ hb _ _ _=>acZ (j:=0) (kL.below hb) (by exact bw Value.pointer (lC _).symm) O O O O (bG O O),cj O,cP fun _ _ hb _ _ _=>ay (hU.top.aq hb).2 O (bG O O),cP fun _ _ hb _ _ _=>bB (hU.top.aq hb) O (bG O O),?_,au⟩
     ·refine cP fun e1 w1 hb hp aX hq=>?_
      refine ak.ld (Rd.below iA hb) (by exact bw Value.pointer (lC _).symm) (by decide) O O O ?_;refine ak.n (fO O (by exact O))
     ·refine jy fun e1 w1 hb hp aX hq=>?_
      refine aH (ih k' (Nat.lt_succ_self _) (nf+1) (rg dw E).n (fl++ [(E:Int)]) (gl U E) db (rg dw E).a dh (rg dw E).c (ax 2 db (nf+1) dh (fl++ [(E:Int)])::iY) _ A c rs (cap G) (by rw [e8,Mn];rfl) MF.1 (by omega) (by have:=MF.1;omega) pK.2 (fun w' A c rs F h=>NQ h) (fun w' A c rs F h=> (KH CM h).at_ (i:=(E:Int)) (by omega) (by omega)) rV (JH G) (aR.aq hb)) O ?_;rintro _ w9 ⟨rfl,A',c',rs',oQ,aW⟩;exact ak.n (fv.dn O ⟨A',c',rs',oQ,aW.sub (S9 ..)⟩)
    intro u w6 _ hu _ _;obtain⟨A',c',rs',oQ,hT⟩:=hu 6 _ rfl (by kernel_rfl);rw [cz,<-xr]at oQ hT;refine fK O (aL O (aU O (tQ ?_)));exact⟨(j+1,A',c',rs'),by show nx - (j+1)<nx - j;omega,(ac4 O),by show j+1<=nx;omega,oQ,hT⟩
  ·have qz:j=xs.length:=by omega
   rw [qz,List.take_length]at hG;rw [<-hG]at rV hS;refine bo O (bp (tF O ?_));exact H9 ⟨O,A,c,rs,rV,hS⟩
def sg(n:Nat)(R:ah)(B:ag)(E F x:Nat):ah:=
 if x<E then []else(jJ R B x).filter fun g=>decide (eO n R B g/\(x=E->g< (F:Int)))
def fF(n:Nat)(R:ah)(B:ag)(E F:Nat):ag:=(List.range R.length).map (sg n R B E F)
def rj(n:Nat)(R:ah)(B:ag)(E F x:Nat):Bool:=
 if x<E then false else if x=E then decide (gi R x=(n:Int) - 1\/∃g∈jJ R B x,eO n R B g/\g< (F:Int))else decide (eO n R B x)
def fy(n:Nat)(R:ah)(B:ag)(E F:Nat):List Bool:=(List.range R.length).map (rj n R B E F)
section
variable {n:Nat} {R:ah} {B:ag} {E F x:Nat}
theorem uW:(fF n R B E F).length=R.length:=by simp [fF]
theorem oC:(fy n R B E F).length=R.length:=by simp [fy]
theorem Iz(h:x<R.length):gl (fF n R B E F) x=sg n R B E F x:=by
 rw [cM (by rw [uW];exact h)];simp [fF]
theorem Ji(h:x<R.length):gb (fy n R B E F) x=rj n R B E F x:=by
 unfold gb;rw [gn,df,dL (by rw [oC];exact h),Option.getD_some];simp [fy]
theorem aaF:fF n R B R.length F=List.replicate R.length []:=by
 refine List.eq_replicate_iff.2 ⟨uW,fun y hy=>?_⟩;obtain⟨x,hx,rfl⟩:=fx.1 hy;unfold sg;rw [aJ (jN.1 hx)]
theorem QC:fy n R B R.length F=List.replicate R.length false:=by
 refine List.eq_replicate_iff.2 ⟨oC,fun y hy=>?_⟩;obtain⟨x,hx,rfl⟩:=fx.1 hy;unfold rj;rw [aJ (jN.1 hx)]
theorem BH(hP:jP n R B){e g:Int}(h:g∈jJ R B e):e<g/\g<R.length:=by
 obtain⟨h1,_,h3⟩:=qd.1 h;exact⟨((hP.at_ h1.1 h1.2).2.1 e h3).1.2,h1.2⟩
theorem aaI(hP:jP n R B)(hE:E<R.length):fF n R B E (E+1)=fF n R B (E+1) R.length:=by
 refine pg fun x hx=>?_
 have hx:=jN.1 hx;unfold sg
 by_cases c1:x<E
 ·rw [aJ c1,aJ (by omega)]
 rw [aC c1]
 by_cases c2:x=E
 ·subst c2;rw [aJ (by omega),List.filter_eq_nil_iff];intro g hg h;have h3:=(mT h).2 O;have:=BH hP hg;omega
 rw [aC (by omega)];refine List.filter_congr fun g hg=>kc.2 ?_
 have:=BH hP hg;exact⟨fun h=> ⟨h.1,fun _=>by omega⟩,fun h=> ⟨h.1,fun h=>absurd h c2⟩⟩
theorem aaH(h:¬(eO n R B F/\(F:Int)∈jJ R B E)):fF n R B E (F+1)=fF n R B E F:=by
 refine pg fun x hx=>?_
 unfold sg
 by_cases c1:x<E
 ·rw [aJ c1,aJ c1]
 rw [aC c1,aC c1];refine List.filter_congr fun g hg=>kc.2 ⟨fun h2=> ⟨h2.1,fun e=>?_⟩,fun h2=> ⟨h2.1,fun e=>by have:=h2.2 e;omega⟩⟩
 have h3:=h2.2 e;subst e;have:g≠(F:Int):=fun e=>h ⟨e▸h2.1,e▸hg⟩
 omega
theorem aaG(hE:E<R.length)(h:eO n R B F/\(F:Int)∈jJ R B E):(fF n R B E F).set E (gl (fF n R B E F) E++ [(F:Int)])=fF n R B E (F+1):=by
 apply gD (by rw [gR,uW,uW]);intro x h1 h2;rw [uW]at h2;have e2:∀d' (hx:x< (fF n R B E d').length),(fF n R B E d')[x]=sg n R B E d' x:=fun d' hx=>by simp [fF]
 rw [List.getElem_set,e2 (F+1) (by rw [uW];exact h2),e2 F (by rw [uW];exact h2)]
 by_cases c:E=x
 ·subst c;rw [aJ rfl,Iz hE];unfold sg;rw [aC (Nat.lt_irrefl _),aC (Nat.lt_irrefl _)];have hs:=Ei R B E;refine SA.eq ?_ (List.Pairwise.filter _ hs) fun y=>?_
  ·rw [SA,List.pairwise_append];refine⟨List.Pairwise.filter _ hs,List.pairwise_singleton _ _,fun a ha b hb=>?_⟩;obtain rfl:=iv.1 hb;exact(mT (jb.1 ha).2).2 O
  rw [gE,jb,jb,iv];simp only [qp];constructor
  ·rintro(⟨h3,h4,h5⟩ | rfl)
   ·exact⟨h3,h4,fun e=>by have:=h5 e;omega⟩
   exact⟨h.2,h.1,fun _=>by omega⟩
  rintro⟨h3,h4,h5⟩
  by_cases e3:y=(F:Int)
  ·exact .inr e3
  exact .inl ⟨h3,h4,fun e=>by have:=h5 e;omega⟩
 rw [aC c];unfold sg
 by_cases c1:x<E
 ·rw [aJ c1,aJ c1]
 rw [aC c1,aC c1];exact List.filter_congr fun g hg=>kc.2 ⟨fun h2=> ⟨h2.1,fun e=>absurd e.symm c⟩,fun h2=> ⟨h2.1,fun e=>absurd e.symm c⟩⟩
theorem Jj{x:Nat}(hP:jP n R B)(hx:x<R.length)(h:(gi R x=(n:Int) - 1\/∃g∈jJ R B x,eO n R B g/\g< (R.length:Int))):eO n R B x:=by
 rcases h with h | ⟨g,h1,h2,_⟩
 ·exact QK h
 have h3:=(qd.1 h1);have:=hP.ri h3.1.1 h3.1.2;have:=hP.ri (e:=(x:Int)) (by omega) (by omega);exact(Jl (by omega) (by omega)).2 ⟨g,h1,h2⟩
theorem Jk{x:Nat}(hP:jP n R B)(hx:x<R.length)(h:eO n R B x):(gi R x=(n:Int) - 1\/∃g∈jJ R B x,eO n R B g/\g< (R.length:Int)):=by
 have:=hP.ri (e:=(x:Int)) (by omega) (by omega)
 by_cases c:gi R x=(n:Int) - 1
 ·exact .inl c
 obtain⟨g,h1,h2⟩:=(Jl (by omega) (by omega)).1 h;exact .inr ⟨g,h1,h2,(BH hP h1).2⟩
theorem QF(hP:jP n R B)(hE:E<R.length):(fy n R B (E+1) R.length).set E (decide (gi R E=(n:Int) - 1))=fy n R B E (E+1):=by
 apply gD (by rw [gR,oC,oC]);intro x h1 h2;rw [oC]at h2;have e2:∀e' d' (hx:x< (fy n R B e' d').length),(fy n R B e' d')[x]=rj n R B e' d' x:=fun e' d' hx=>by simp [fy]
 rw [List.getElem_set,e2 _ _ (by rw [oC];exact h2),e2 _ _ (by rw [oC];exact h2)];unfold rj
 by_cases c:E=x
 ·subst c;rw [aJ rfl,aC (Nat.lt_irrefl _),aJ rfl];refine kc.2 ⟨fun h=> .inl h,fun h=>?_⟩;rcases h with h | ⟨g,h3,_,h4⟩
  ·exact h
  have:=BH hP h3;omega
 rw [aC c]
 by_cases c1:x<E
 ·rw [aJ (by omega),aJ c1]
 rw [aC (by omega),aC c1,aC (show ¬x=E from fun e=>c e.symm)]
 split
 ·refine kc.2 ⟨fun h=>Jj hP h2 h,fun h=>Jk hP h2 h⟩
 rfl
theorem QE(h:¬(eO n R B F/\(F:Int)∈jJ R B E)):fy n R B E (F+1)=fy n R B E F:=by
 refine pg fun x hx=>?_
 unfold rj
 by_cases c1:x<E
 ·rw [aJ c1,aJ c1]
 rw [aC c1,aC c1]
 by_cases c2:x=E
 ·subst c2;rw [aJ rfl,aJ rfl];refine kc.2 (or_congr Iff.rfl ⟨?_,?_⟩)
  ·rintro⟨g,h1,h2,h3⟩;have:g≠(F:Int):=fun e=>h ⟨e▸h2,e▸h1⟩
   exact⟨g,h1,h2,by omega⟩
  rintro⟨g,h1,h2,h3⟩;exact⟨g,h1,h2,by omega⟩
 rw [aC c2,aC c2]
theorem QD(hE:E<R.length)(h:eO n R B F/\(F:Int)∈jJ R B E):(fy n R B E F).set E true=fy n R B E (F+1):=by
 apply gD (by rw [gR,oC,oC]);intro x h1 h2;rw [oC]at h2;have e2:∀e' d' (hx:x< (fy n R B e' d').length),(fy n R B e' d')[x]=rj n R B e' d' x:=fun e' d' hx=>by simp [fy]
 rw [List.getElem_set,e2 _ _ (by rw [oC];exact h2),e2 _ _ (by rw [oC];exact h2)];unfold rj
 by_cases c:E=x
 ·subst c;rw [aJ rfl,aC (Nat.lt_irrefl _),aJ rfl];exact(fo (.inr ⟨_,h.2,h.1,by omega⟩)).symm
 rw [aC c]
 by_cases c1:x<E
 ·rw [aJ c1,aJ c1]
 rw [aC c1,aC c1,aC (fun e=>c e.symm),aC (fun e=>c e.symm)]
theorem QB(hP:jP n R B)(vn:E<F)(hF:F<R.length):gb (fy n R B E F) F=decide (eO n R B F):=by
 rw [Ji hF];unfold rj;rw [aC (by omega),aC (by omega)]
theorem QA(hP:jP n R B)(hx:x<R.length):gb (fy n R B 0 R.length) x=decide (eO n R B x):=by
 rw [Ji hx];unfold rj;rw [aC (by omega)]
 split
 ·exact kc.2 ⟨fun h=>Jj hP hx h,fun h=>Jk hP hx h⟩
 rfl
theorem O1(hP:jP n R B)(hx:x<R.length):gl (fF n R B 0 R.length) x=(jJ R B x).filter fun g=>decide (eO n R B g):=by
 rw [Iz hx];unfold sg;rw [aC (by omega)];refine List.filter_congr fun g hg=>kc.2 ⟨fun h=>h.1,fun h=> ⟨h,fun _=> (BH hP hg).2⟩⟩
theorem Ff{α β:Type}{f g:α->List β}:∀ {l:List α},(∀x∈l,f x=g x)->l.flatMap f=l.flatMap g
 | [],_=>rfl
 | a::r,h=>by rw [List.flatMap_cons,List.flatMap_cons,h a (List.mem_cons_self ..),Ff fun x hx=>h x (uZ _ hx)]
theorem J4(hP:jP n R B):∀(k:Nat) (e:Int),0<=e->e<R.length->(gi R e).toNat+k=n - 1->sF (fF n R B 0 R.length) k e=nh R B k e
 | 0,_,_,_,_=>rfl
 | k+1,e,h0,h1,h2=>by
  have hr:=hP.ri h0 h1;obtain⟨x,rfl⟩:∃x:Nat,e=x:=⟨e.toNat,by omega⟩;rw [sF,O1 hP (by omega),aaJ hr.1 (by omega)];refine Ff fun f hf=>?_
  have hf:=(qd.1 (jb.1 hf).1);rw [J4 hP k f hf.1.1 hf.1.2 (by omega)]
theorem SZ(hn:1<=n)(hP:jP n R B):kF (fF n R B 0 R.length) (n - 1) [] ((tK R).filter fun f=>decide (eO n R B f))=dF n R B:=by
 rw [Q9];unfold kF;refine Ff fun e he=>?_
 have he:=y7.1 (jb.1 he).1;rw [J4 hP _ e he.1.1 he.1.2 (by omega)]
 rfl
theorem Ra{m:Nat}(hm:m<R.length):((dV (m+1)).filter fun e=>decide (gi R e=0) && decide (eO n R B e))=((dV m).filter fun e=>decide (gi R e=0) && decide (eO n R B e))++ (if gi R m=0/\eO n R B m then [(m:Int)]else []):=by
 unfold dV;rw [rb,lF,List.filter_append]
 congr 1
 by_cases c:gi R m=0/\eO n R B m
 ·rw [aJ c];simp [c.1,c.2]
 rw [aC c];rw [List.filter_eq_nil_iff];intro a ha h;obtain rfl:=iv.1 ha;simp at h;exact c h
theorem Q8:((dV R.length).filter fun e=>decide (gi R e=0) && decide (eO n R B e))=(tK R).filter fun f=>decide (eO n R B f):=by
 unfold tK;rw [List.filter_filter];exact List.filter_congr fun x _=>Bool.and_comm _ _
end
end
end Go.Proofs.YtagdamiiececaaaGreatDoor.Vc
