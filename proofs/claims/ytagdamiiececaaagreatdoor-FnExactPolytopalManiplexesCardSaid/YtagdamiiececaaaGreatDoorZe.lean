/-
 Lemmas. Conditions: as each states them.
-/
import Derived.Test.YtagdamiiececaaaGreatDoorLayc
import Derived.Shelf.SlSortCmp.NoneTotal
import Derived.Test.YtagdamiiececaaaGreatDoorZd
set_option maxHeartbeats 8000000
namespace Go.Proofs.YtagdamiiececaaaGreatDoor.Vc
open Tryz
section
open Go.RowKit Go.Sort
variable{w w0:aa}{off j i o:Nat}
theorem OM{α:Type}[Inhabited α]{enc:α->ab}{g n:Nat}{os:Array Obj}{cur:Array ab}{e:ad}{fr:Nat×Nat}(d:Array α)(hb:w.heap[g]?=some (.cells cur e fr)):(Go.Sort.grow (putRow enc (Sort.ahead w n) g off d) os).heap[g]?=some (.cells (putCells enc off d cur) e fr):=by
 have hg:g<w.heap.size:=(Array.getElem?_eq_some_iff.1 hb).1;rw [heap_grow_old _ _ (by simpa using hg)];simp [putRow,mapBlock,Sort.ahead,Array.getElem?_modify,hb,onCells]
theorem Nl{α:Type}[Inhabited α]{enc:α->ab}{g n:Nat}{os:Array Obj}(d:Array α):u7 w (Go.Sort.grow (putRow enc (Sort.ahead w n) g off d) os) (some g):=by
 refine⟨⟨O,O,O,by simp,fun k hk cG=>?_⟩,Nat.le_add_right _ _⟩;rw [heap_grow_old _ _ (by simpa using hk)];have:g≠k:=fun e=>cG (by rw [e])
 simp [putRow,mapBlock,Sort.ahead,Array.getElem?_modify,this]
def sv(ss:List aH)(j:Nat):aH:=ss.getD j bA
def qR(ss:List aH)(n:Nat)(j:Fin n):List ab:=[(sv ss j).v]
theorem FJ{n:Nat}[Inhabited (Fin n)](ss:List aH)(dk:Array (Fin n))(hj:j<dk.size):(flatK (qR ss n) 1 dk)[j]! =(sv ss dk[j]!).v:=by
 rw [get_flatK _ _ _ _ (by omega)];simp [qR,Nat.mod_one]
theorem St.JX{ks:List Ck}{t:ad}{g n c:Nat}{ss:List aH}{cur:Array ab}[Inhabited (Fin n)](hS:St w0 w ks)(hk:ks[i]?=some (aQ t (some ⟨g,o,Option.none⟩) n c ss))(hh:w.heap[g]?=some (.cells cur t (0,0)))(hg:w0.heap.size<=g)(hs:o+c<=cur.size)(m:Nat)(dk:Array (Fin n))(hd:dk.size=n)(os:Array Obj):
 St w0 (sortWorldK (qR ss n) 1 w g o m dk os) (ks.set i (aQ t (some ⟨g,o,Option.none⟩) n c (dk.toList.map fun j:Fin n=>sv ss j.val))):=by
 have sR:n<=c:=(hS.cap i hk).1;have Ox:c<=maxLen:=(hS.cap i hk).2;refine hS.turn hk O O (Nl _) (.mU (pj _) ⟨by simp [hd],sR,Ox,.inr ⟨g,o,_,O,hg,OM _ hh,by simp only [putCells,Array.size_mapIdx];exact hs,fun j hj=>?_⟩⟩);have hj:j<n:=hj;have v8:o+j<cur.size:=by omega
 show(putCells id o (flatK (qR ss n) 1 dk) cur)[o+j]?=((dk.toList.map fun j:Fin n=>sv ss j.val).map aH.v)[j]?;have e:=FJ ss dk (j:=j) (by omega);rw [getElem!_pos _ _ (by simp [hd];exact hj),getElem!_pos dk j (by omega)]at e;simp [putCells,v8,hj,hd,e]
theorem TZ{ks:List Ck}(i:Nat){t:ad}{A:ai}{n c:Nat}{ss:List aH}(hS:St w0 w ks)(hk:ks[i]?=some (aQ t A n c ss))(hn:n<=4000000000000)(G:FuncId)[hF:bp prog G](cf:Nat->Nat->Int)
 (Dj:∀a b c,a<n->b<n->c<n->¬cf a a<0/\(cf a b<0->cf b c<0->cf a c<0)/\(¬cf a b<0->¬cf b c<0->¬cf a c<0))
 (OB:∀(w':aa) (q:List Nat),q.length=n->(∀j∈q,j<n)->St w0 w' (ks.set i (aQ t A n c (q.map (sv ss))))->∀a b,a<n->b<n->aG prog G [.agg #[(sv ss a).v],.agg #[(sv ss b).v]] w' (fun v nU=>v=aj (cf a b)/\St w' nU []/\w'.drawn<=nU.drawn)):
 aG prog 138 [.slice A n c,.func (.func G) #[] #[]] w (fun v w'=>v= .tuple #[]/\∃q:List Nat,q.Perm (List.range n)/\q.Pairwise (fun a b=>¬cf b a<0)/\St w0 w' (ks.set i (aQ t A n c (q.map (sv ss))))):=by
 obtain⟨h1,h2,h3,h4⟩:=hS.mE hk (pj _);have hl:ss.length=n:=by have:(ss.map aH.v).length=n:=h1;simpa using this
 have h2:n<=c:=h2
 by_cases h0:n=0
 ·subst h0;have key:=AnyF.slices_SortFunc_none IQ A c (.func (.func G) #[] #[]) w;refine Calls.mono key fun x w' ⟨hx,hw⟩=> ⟨_,hx,O,[],List.Perm.refl _,List.Pairwise.nil,?_⟩
  subst hw;have e:ss=[]:=nZ hl;subst e;rw [show(List.map (sv []) []:List aH)=[] from rfl];have:=(fu.1 hk);rw [show ks.set i (aQ t A 0 c [])=ks from by
   apply List.ext_getElem?;intro j;rw [jy]
   split
   ·rename_i e;subst e;rw [hk];simp [this.1]
   ·rfl]
  exact hS
 have h0:0<n:=by omega
 rcases h4 with⟨_,ky⟩ | ⟨g,o,cur,hA,hg,hh,hs,hc⟩
 ·have ky:c=0:=ky;omega
 have hA:A=some ⟨g,o,none⟩:=hA;have hs:o+c<=cur.size:=hs;have hc:∀j,j<n->cur[o+j]?=(ss.map aH.v)[j]?:=hc;subst hA
 haveI:Inhabited (Fin n):=⟨⟨0,h0⟩⟩
 have cW:g<w.heap.size:=(Array.getElem?_eq_some_iff.1 hh).1;have sH:(Array.ofFn (fun j:Fin n=>j)).size=n:=by simp
 have hH:HoldsK (qR ss n) 1 w g o (Array.ofFn fun j:Fin n=>j):=fun j hj=>by
  have eV:j<n:=by simpa using hj
  refine⟨?_,by simp [World.frozen?,hh]⟩;rw [FJ ss _ (by simpa using eV)];simp only [World.cell?,hh];simp only [Option.isSome_none,Bool.false_eq_true,if_false];rw [hc j eV];simp [eV,hl,sv,bX]
 obtain⟨fn,pW,Cs,He⟩:=hF.out;obtain⟨bd,yj⟩:∃c,fn.body=some c:=by
  cases h:fn.body with
  | none=>rw [h]at He;cases He
  | some c=>exact⟨c,rfl⟩
 have eg:∀args w,(callFunc G args).run prog w= .ok (.enter G args) w:=enters_of pW Cs yj;have hC:CmpLays prog G #[] (qR ss n) 1 (fun a b:Fin n=>cf a b) g o (Array.ofFn fun j:Fin n=>j).size w:=fun m os dk OJ a b=>by
  have iF:dk.size=n:=by rw [OJ,sH]
  have hW:=hS.JX hk hh hg hs m dk iF os;have h5:=OB _ (dk.toList.map fun j=>j.val) (by simp [iF]) (fun j hj=>by obtain⟨x,_,rfl⟩:=fq.1 hj;exact x.2) (by rw [List.map_map];exact hW) a b a.2 b.2;refine Calls.mono h5 fun x w' ⟨v,hx,hv,ax,hd⟩=>?_
  subst hv;exact⟨hx,ax.below.grow hd⟩
 have hO:SWO (ltOf fun a b:Fin n=>cf a b):= {
  irrefl:=fun a=>by simpa [ltOf]using(Dj a a a a.2 a.2 a.2).1
  trans:=fun a b c h h'=>by simp only [ltOf,decide_eq_true_iff]at*;exact(Dj a b c a.2 b.2 c.2).2.1 h h'
  ntrans:=fun a b c h h'=>by simp only [ltOf,decide_eq_false_iff_not]at*;exact(Dj a b c a.2 b.2 c.2).2.2 h h' }
 have key:=AnyQ.slices_SortFunc IQ 1 (fun w=>by kernel_rfl) (fun w=>by kernel_rfl) (qR ss n) (fun _=>rfl) (fun x v hv=>by simp [qR]at hv;subst hv;rfl) (fun a b:Fin n=>cf a b) hO G #[] g o c (Array.ofFn fun j:Fin n=>j) w eg hC hH cW (by rw [sH];omega);rw [sH]at key;refine Calls.mono key fun x w' ⟨hx,d',m,os,hp,Dd,hw⟩=> ⟨_,hx,O,d'.toList.map (fun j=>j.val),?_,?_,?_⟩
 ·obtain⟨hz,_,pb⟩:=hp;rw [sH]at hz;have e1:d'.extract 0 n=d':=by have:=Array.extract_size (xs:=d');rwa [hz]at this
  have e2:(Array.ofFn fun j:Fin n=>j).extract 0 n=Array.ofFn fun j:Fin n=>j:=by
   have:=Array.extract_size (xs:=Array.ofFn fun j:Fin n=>j)
   rwa [sH]at this
  rw [e1,e2]at pb;have h6:=pb.map (fun j:Fin n=>j.val);have e3:(Array.ofFn fun j:Fin n=>j).toList.map (fun j:Fin n=>j.val)=List.range n:=by
   apply gj
   ·simp
   ·intro j h1 h2;simp
  rw [e3]at h6;exact h6
 ·have hz:=hp.1;rw [sH]at hz;rw [List.pairwise_map,List.pairwise_iff_getElem];intro a b ha hb jD;have GW:a<d'.size:=by simpa using ha
  have jU:b<d'.size:=by simpa using hb
  have h7:=Dd a b (bk _) jD (by omega);simp only [ltOf,decide_eq_false_iff_not,getElem!_pos d' a GW,getElem!_pos d' b jU]at h7;simpa using h7
 ·subst hw;have hz:=hp.1;rw [sH]at hz;rw [List.map_map];exact hS.JX hk hh hg hs m d' hz os
end
section
open Go.RowKit
section
variable {P:Program} {N:Nat} {ops:Array Oper} {K:Env->aa->Prop} {rest:List Oper} {e:Env} {w0 w w':aa} {ks:List Ck} {d:Nat} {ty:ad} {pos:String} {af:Array Edge}
def JL(a n u:Nat)(R:ab->aa->Prop):gn
 | .normal,e,w=>∃A f,e a= .pointer A/\Rd w A n f/\R (.tuple #[.agg ((List.range n).map f).toArray,e u]) w
 | .ret,e,w=>∃A f,e a= .pointer A/\Rd w A n f/\R (.tuple #[.agg ((List.range n).map f).toArray,e u]) w
 | _,_,_=>False
theorem zj{a n u:Nat}{R:ab->aa->Prop}{A:ai}{f:Nat->ab}{v:ab}(h:e a= .pointer A)(hR:Rd w A n f)(hv:e u=v)(h2:R (.tuple #[.agg ((List.range n).map f).toArray,v]) w):JL a n u R .ret e w:=⟨A,f,h,hR,by rw [hv];exact h2⟩
theorem Jz{fn:Func}{R:ab->aa->Prop}{a t n b u:Nat}{fs:Array Field}{z:ab}[bK P t (.struct fs)][bL P t z n b](hr:fn.results= #[.cell a t,.tmp u])(qd:Nat.blt 0 n=true):∀x a1 e w,gI N a1 e->JL a n u R x e w->bodyPost P fn (fun x w'=>∃v,x= .returned v/\R v w') x a1 w:=by
 intro x a1 e w he q;have hn:0<n:=by simpa [Nat.blt_eq]using qd
 have hg:=he.get a;have hh:=he.get u;have key:∀(A:ai) (f:Nat->ab),e a= .pointer A->Rd w A n f->(results fn a1.tmps).run P w= .ok (.tuple #[.agg ((List.range n).map f).toArray,e u]) w:=by
  intro A f hA hR;obtain⟨q,rfl,hl⟩:=JR (P:=P) (t:=t) hn hR;rw [gP]at hg hh;simp [results,hr,hg,hh,hA,asAddr,hl]
 cases x<;>first
  | exact q.elim
  | (
   obtain⟨A,f,hA,hR,h2⟩:=q;exact⟨he.defers,_,key A f hA hR,_,O,h2⟩)
end
theorem IE(N:Nat)(xss:ag):∀k,(gy N xss k).length=xss.length
 | 0=>by rw [gy,sl]
 | k+1=>by
  rw [gy]
  split
  ·rw [sl]
  ·exact IE N xss k
theorem RY(N:Nat)(xss:ag):(ta N xss).length=xss.length:=IE N xss N
def Sh:bC:=⟨bA,[],[]⟩
def mv(ms:List bC)(j:Nat):bC:=ms.getD j Sh
theorem Jc{ms:List bC}{j:Nat}(hj:j<ms.length):mv ms j=ms[j]:=by simp [mv,bX,dE hj]
theorem Jd{ms:List bC}{j:Nat}(hj:j<ms.length):mv ms j∈ms:=by rw [Jc hj];exact di _
theorem Eo(ms:List bC)(j:Nat):sv (ms.map (·.top)) j=(mv ms j).top:=by
 simp only [sv,mv,bX,List.getElem?_map];cases ms[j]?<;>rfl
theorem Sz(ms:List bC):(List.range ms.length).map (mv ms)=ms:=by
 apply gj
 ·simp
 intro j h1 h2;simp [Jc h2]
theorem T0{w0 w:aa}{A:ai}{c:Nat}{ms:List bC}{ks:List Ck}(b6:∀m∈ms,m.ok)(ox:∀m∈ms,m.top.n<=9223372036854775807)(hn:ms.length<=4000000000000)(hS:St w0 w (aQ 37 A ms.length c (ms.map (·.top))::(ks++b7 24 2 ms))):
 aG prog 138 [.slice A ms.length c,.func (.func 139) #[] #[]] w (fun v w'=>v= .tuple #[]/\∃oF:List bC,oF.Perm ms/\(oF.map (·.xss)).Pairwise kE/\
  St w0 w' (aQ 37 A oF.length c (oF.map (·.top))::(ks++b7 24 2 oF))):=by
 refine aG.mono (TZ 0 hS O hn 139 (fun a b=>df (mv ms a).xss (mv ms b).xss) (fun a b c _ _ _=> ⟨?_,fun h h'=>yZ h h',fun h h'=>IB (a:=(mv ms c).xss) (b:=(mv ms b).xss) h' h⟩) (fun w' q hq wh hW a b ha hb=>?_)) ?_
 ·rw [tb.2 rfl];omega
 ·have hr:∀j,j<ms.length->bu w' (mv ms j).top.a (mv ms j).top.n (mv ms j).rs (mv ms j).xss:=fun j hj=>by
   have hm:=Jd hj;exact hW.oD (c:=(mv ms j).top.c) (t1:=24) (t2:=2) (((pC hm).trans (iw _ _)).trans (List.sublist_cons_self _ _)) (b6 _ hm)
  rw [Eo,Eo];exact Fl _ _ _ _ _ _ _ _ _ _ _ (hr a ha) (hr b hb) (ox _ (Jd ha))
 rintro v w' ⟨hv,q,hp,hs,hW⟩;have pa:(q.map (mv ms)).Perm ms:=by have:=hp.map (mv ms);rwa [Sz]at this
 refine⟨hv,q.map (mv ms),pa,?_,?_⟩
 ·rw [List.map_map,List.pairwise_map];exact hs
 have e1:q.map (sv (ms.map (·.top)))=(q.map (mv ms)).map (·.top):=by
  rw [List.map_map];exact ki fun j _=>Eo ms j
 rw [e1]at hW;have hW:St w0 w' (aQ 37 A ms.length c ((q.map (mv ms)).map (·.top))::(ks++b7 24 2 ms)):=hW;rw [pa.length_eq];exact hW.perm (List.Perm.cons _ (List.Perm.append_left _ (I5 pa.symm)))
def ka(rank flags:Int):List Mx:=if Small rank flags then nM rank.toNat flags.toNat else []
def qp(rank flags:Int):Int:=if Small rank flags then 0 else 2
theorem Lo(rank flags:Int)(w:aa):
 aG prog 73 [aj rank,aj flags] w (fun v w'=>∃A c,∃ms:List bC,v= .tuple #[.slice A ms.length c,aj (qp rank flags)]/\ms.map (·.xss)=ka rank flags/\(∀m∈ms,m.ok)/\
  St w w' (aQ 37 A ms.length c (ms.map (·.top))::b7 24 2 ms)):=by
 refine bs func73 O ntmps73 O (mV O) (aY O (aO (QJ rank flags _) O ?_));rintro _ w ⟨rfl,rfl⟩
 first | refine dv rfl rfl ?_ | refine eJ rfl rfl ?_
 refine aA O (aJ _ O (fun h=>?_) (fun h=>?_))
 ·have hs:¬Small rank flags:=h;refine bV O (qy O O ?_);exact⟨none,0,[],by rw [qp,aB hs];rfl,by rw [ka,aB hs];rfl,fun m hm=> (nomatch hm),(St.refl _).nil _⟩
 have hs:Small rank flags:=fp.1 h;obtain⟨n,rfl⟩:∃n:Nat,rank=n:=⟨rank.toNat,by have:=hs.1;omega⟩;obtain⟨F,rfl⟩:∃F:Nat,flags=F:=⟨flags.toNat,by have:=hs.2;omega⟩;have wm:=hs.1;have wo:=hs.2;have hn:1<=n/\n<=4:=by omega
 have hF:2<=F/\F<=12:=by omega
 have eL:ka n F=nM n F:=by rw [ka,aF hs];rfl
 have eK:qp n F=0:=by rw [qp,aF hs]
 refine aC O (aO (TE n F hn hF _) O ?_);rintro _ w1 ⟨A6,c6,all,rfl,b6,dV,ax⟩;have ox:=vz hn hF (F*n+1);rw [<-dV,fv]at ox;have qc:∀m∈all,bN m.xss/\Inv n F m.xss F (F*n):=fun m hm=>xH (by omega) (by omega) (by rw [oY,<-dV];exact List.mem_map_of_mem hm)
 have qf:∀m∈all,(ta F m.xss=m.xss↔jz F m.xss):=fun m hm=>SV (n:=n) (by omega) (by omega) (by rw [oY,<-dV];exact List.mem_map_of_mem hm)
 have hlen:∀m∈all,m.xss.length=n:=fun m hm=> (qc m hm).2.cM.1
 have jr:∀m∈all,m.top.n=n:=fun m hm=>by rw [<-b6 m hm];exact hlen m hm
 have p7:∀m∈all,F=(gl m.xss 0).length:=fun m hm=> ((qc m hm).2.cM.row (i:=0) (by omega)).symm
 have vM:=ax.dB 0 O;have rz:∀m∈all,bu w1 m.top.a n m.rs m.xss:=fun m hm=>by
  have:=ax.oD (c:=m.top.c) (t1:=24) (t2:=2) ((pC hm).trans (List.sublist_cons_self _ _)) (b6 m hm);rw [jr m hm]at this;exact this
 have aD:=(St.refl w1).nil 37;refine aR O O (aA O ?_);refine Cd.loop (α:=Nat×(ai×Nat)) (fun s=> [(6,.slice s.2.1 (eY F (all.take s.1)).length s.2.2),(15,.slice A6 all.length c6),(16,aj (all.length:Int)),(17,aj (s.1:Int))]) (fun s w'=>St w1 w' [aQ 37 s.2.1 (eY F (all.take s.1)).length s.2.2 ((eY F (all.take s.1)).map (·.top))]/\s.1<=all.length) (fun s=>all.length - s.1) (0,(none,0)) (Wn O) ⟨aD,bk _⟩ ?_;rintro⟨i,⟨B6,c7⟩⟩ e w4 ⟨aN,hi⟩;dsimp only at aN hi|-;have HH:(eY F (all.take i)).length<=i:=by
  have h2:=jN (fun m:bC=>decide (jz F m.xss)) (all.take i);have h3:(eY F (all.take i)).length<=(all.take i).length:=h2;rw [kM]at h3;omega
 refine bH O (aJ _ O (fun h1=>?_) (fun h1=>?_))
 ·have bP:i<all.length:=by omega
  have hm:=di bP;have qi:=r5 bP;have sy:=vM.ao aN.below;have hX:=(rz _ hm).ao aN.below;have ir:=JT (F:=F) bP;have Ca:=(qc _ hm).1;have B5:=p7 _ hm;have GS:=qf _ hm;refine aC O (aw sy.2 O (nj sy O (by omega) O ?_));rw [qi,jr _ hm];generalize Of:all[i]=X at*;have Cb:(⟨X.top.a,n,X.top.c⟩:aH)=X.top:=by rw [<-jr _ hm]
  refine lN aN O fun A8 w5 aV=>gU 1 0 aV O O O O O O O ?_;intro w6 bg;have bg:St w1 w6 [Bx 37 1 A8 [.slice X.top.a n X.top.c],aQ 37 B6 (eY F (all.take i)).length c7 ((eY F (all.take i)).map (·.top))]:=bg;have qZ:=bg.rd 0 O;have x6:=(rz _ hm).ao bg.below;refine aA O ?_;refine cN [.ex (.agg #[.slice (X.top.a) (n) (X.top.c)]),.pr (fun v w'=>∃A9 c9 tm,v= .agg #[.slice A9 n c9]/\bu w' A9 n tm (ta F X.xss)),.ex (.agg #[.slice (X.top.a) (n) (X.top.c)]),xB (decide (ta F X.xss=X.xss))] rfl (lx (cq.2 ⟨Yd.ct (fun v w w' h hb=>by obtain⟨A9,c9,tm,hv,hT⟩:=h;exact⟨A9,c9,tm,hv,hT.ao hb⟩),(lx (lx (fun _ h=>by cases h)))⟩)) ?_ ?_
  ·refine⟨fun _ _ hb _ _=>ak.dz 0 (qZ.below hb) O O O Az,?_,fun _ _ hb _ _=>ak.dz 0 (qZ.below hb) O O O Az,?_,av⟩
   ·intro e1 w1 hb hp aZ;refine aO (RX X.top.a n X.top.c X.rs X.xss F _ (x6.ao hb) Ca B5) O ?_;rintro _ w9 ⟨A9,c9,tm,rfl,hl9,jX⟩;refine ak.n ?_;exact ew.dn jX.below ⟨A9,c9,tm,O,jX.oD (na _) (by rw [RY];exact hlen _ hm)⟩
   intro e1 w1 hb hp aZ;obtain⟨A9,c9,tm,NA,hT⟩:=(hp 1 (by decide) rfl _ _ rfl rfl);refine Wh (TO A9 n c9 tm _ X.top.a n X.top.c X.rs X.xss _ hT (x6.ao hb) (by omega)) O (by exact aS (fun v=> [v,Value.agg #[.slice X.top.a n X.top.c]]) NA) O ?_;rintro _ w9 ⟨rfl,jX⟩;exact ak.n (ew.dn jX.below O)
  intro uu w7 lr _;have bm:=bg.ao lr;refine dM O (aJ _ O (fun h2=>?_) (fun h2=>?_))
  ·rw [aF (GS.1 h2)]at ir;have e1:(eY F (all.take i)++ [X]).length=(eY F (all.take i)).length+1:=by simp
   refine aC O (ak.dz 0 (bm.rd 0 O) O O O (tB bm O O O ?_));intro bB w8 bI;rw [Cb]at bI;refine iU 2 bI O (bI.dB 0 O) O O O (by omega) (by omega) O ?_;intro fo lQ w9 bO;have bO:St w1 w9 [aQ 37 bB 1 1 [X.top],Bx 37 1 A8 [.slice X.top.a n X.top.c],aQ 37 fo ((eY F (all.take i)).length+1) lQ ((eY F (all.take i)).map (·.top)++ [X.top])]:=bO;refine aq O (aI O (aM O (tQ ?_)));refine⟨(i+1,(fo,lQ)),by show all.length - (i+1)<all.length - i;omega,⟨by show Value.slice _ _ _= .slice _ (eY F (all.take (i+1))).length _;rw [ir,e1],O,O,O,av⟩,?_,bP⟩;show St w1 w9 [aQ _ fo (eY F (all.take (i+1))).length lQ ((eY F (all.take (i+1))).map (·.top))];rw [ir,e1,iT];exact bO.tail.tail
  rw [aB (fun h=>h2 (GS.2 h))]at ir;refine aC O (aI O (aM O (tQ ?_)));refine⟨(i+1,(B6,c7)),by show all.length - (i+1)<all.length - i;omega,⟨by show Value.slice _ _ _= .slice _ (eY F (all.take (i+1))).length _;rw [ir],O,O,O,av⟩,?_,bP⟩;show St w1 w7 [aQ _ B6 (eY F (all.take (i+1))).length c7 ((eY F (all.take (i+1))).map (·.top))];rw [ir];exact bm.tail
 have cd:i=all.length:=by omega
 subst cd;rw [List.take_length]at*;have wx:∀m∈eY F all,m∈all:=fun m hm=> (eO.1 hm).1
 have hj:St w w4 (aQ 37 B6 (eY F all).length c7 ((eY F all).map (·.top))::([]++b7 24 2 (eY F all))):=by
  refine(ax.call aN).sub ?_;refine List.Sublist.cons_cons _ ((y5 List.filter_sublist).trans (List.sublist_cons_self _ _))
 have O0:(eY F all).map (·.xss)=ti n F:=by
  rw [ti,oY,<-dV,eY,List.filter_map]
  rfl
 refine bj O (bl (cn O ?_));refine aO (T0 (fun m hm=>b6 m (wx m hm)) (fun m hm=>by rw [jr m (wx m hm)];omega) (by omega) hj) O ?_;rintro _ w5 ⟨rfl,oF,hp,Dd,aV⟩;refine bW O (qy O O ?_);have e2:oF.map (·.xss)=nM n F:=SQ (by rw [<-O0];exact hp.map _) Dd;exact⟨B6,c7,oF,by rw [eK,hp.length_eq],by rw [eL];exact e2,fun m hm=>b6 m (wx m (hp.mem_iff.1 hm)),aV⟩
theorem K4{w0 w:aa}{t1 t2:ad}{A:ai}{n c:Nat}{rs:List aH}{xss:ag}{pre:List Ck}(h:St w0 w (pre++aW t1 t2 A n c rs xss)):St w0 w (pre++ (aW t1 t2 A n c rs xss++ [])):=by rwa [eG]
def dL(xss:ag):Int:=((xss.map List.length).sum:Nat)
theorem J6(xs:ag)(x:ah):dL (xs++ [x])=dL xs+x.length:=by simp [dL]
theorem zu{b:Nat}:∀(xs:ag),(∀x∈xs,x.length<=b)->0<=dL xs/\dL xs<=(xs.length*b:Nat)
 | [],_=>by simp [dL]
 | x::xs,h=>by
  have h1:=zu xs (fun y hy=>h y (by simp [hy]));have h2:=h x (by simp);have e:dL (x::xs)=x.length+dL xs:=by simp [dL]
  rw [e,List.length_cons,Nat.succ_mul];omega
def gD(k:Int):ag->ag
 | []=> []
 | x::xs=>marks k x.length::gD (k+x.length) xs
theorem td:∀(xs:ag) (k:Int),(gD k xs).length=xs.length
 | [],_=>rfl
 | _::xs,k=>by simp [gD,td xs]
theorem DO(x:ah):∀(xs:ag) (k:Int),gD k (xs++ [x])=gD k xs++ [marks (k+dL xs) x.length]
 | [],k=>by simp [gD,dL]
 | y::xs,k=>by
  have e:dL (y::xs)=y.length+dL xs:=by simp [dL]
  simp only [List.cons_append,gD];rw [DO x xs,e,Int.add_assoc]
theorem Sw{xs:ag}{k:Int}{i:Nat}(hi:i<xs.length):(gD k xs)[i]?=some (marks (k+dL (xs.take i)) xs[i].length):=by
 have h1:xs=(xs.take i++ [xs[i]])++xs.drop (i+1):=by rw [<-gk hi,List.take_append_drop]
 have gen:∀(a b:ag) (k:Int),∃r,gD k (a++b)=gD k a++r:=by
  intro a
  induction a with
  | nil=>intro b k;exact⟨_,rfl⟩
  | cons y a ih=>
   intro b k;obtain⟨r,hr⟩:=ih b (k+y.length);exact⟨r,by simp only [List.cons_append,gD];rw [hr]⟩
 obtain⟨r,hr⟩:=gen (xs.take i++ [xs[i]]) (xs.drop (i+1)) k;rw [<-h1,DO]at hr;have h2:(gD k (xs.take i)).length=i:=by rw [td];simp;omega
 rw [hr,fB,mq (by omega),h2];simp
def mT(k:Int)(xs:ag)(i:Nat):ag:=gD k (xs.take i)++xs.drop i
theorem Su(k:Int)(xs:ag)(i:Nat):(mT k xs i).length=xs.length:=by simp [mT,td];omega
theorem Ss{k:Int}{xs:ag}{i:Nat}(h:i<xs.length):(mT k xs i).getD i []=xs[i]:=by
 have h2:(gD k (xs.take i)).length=i:=by rw [td];simp;omega
 rw [mT,bX,mq (by omega),h2];simp [h]
theorem Sv{k:Int}{xs:ag}{i:Nat}(h:i<xs.length):(mT k xs i).set i (marks (k+dL (xs.take i)) xs[i].length)=mT k xs (i+1):=by
 have h2:(gD k (xs.take i)).length=i:=by rw [td];simp;omega
 unfold mT;rw [List.set_append_right _ _ (by omega),h2,Nat.sub_self,gk h,DO,fB,List.drop_eq_getElem_cons h]
 rfl
theorem Se{w0 w:aa}{pre post:List Ck}{t1 t2:ad}{A:ai}{n c:Nat}{rs:List aH}{xss:ag}(k:Int)(hS:St w0 w (pre++ (aW t1 t2 A n c rs xss++post)))(cT:rs.length=n)(eW:xss.length=n)(hn:n<=1000)(hr:∀x∈xss,x.length<=1000)(jW:0<=k/\k<=1000000000000000):
 aG prog 77 [.slice A n c,aj k] w (fun v w'=>v=aj (k+dL xss)/\St w0 w' (pre++ (aW t1 t2 A n c rs (gD k xss)++post))):=by
 refine bs func77 O ntmps77 O (bF O) (bH O ?_);refine Cd.loop (α:=Nat) (fun i=> [(0,.slice A n c),(1,aj (k+dL (xss.take i))),(5,aj i)]) (fun i w'=>St w0 w' (pre++ (aW t1 t2 A n c rs (mT k xss i)++post))/\i<=n) (fun i=>n - i) 0 ⟨O,by show Value.int .i64 _=aj _;simp [dL],O,av⟩ ⟨by simpa [mT,gD]using hS,bk _⟩ ?_;rintro i e w1 ⟨aD,hi⟩;have rH:=Su k xss i;have hM:=(aD.sub (iw _ _)).jL (by omega);have yO:=zu (b:=1000) (xss.take i) (fun x hx=>hr x (List.mem_of_mem_take hx));have wz:(xss.take i).length<=1000:=by simp;omega
 have P6:(xss.take i).length*1000<=1000*1000:=Nat.mul_le_mul_right 1000 wz;refine aY O (aR O O (aA O ?_));refine aJ _ O (fun h1=>?_) (fun h1=>?_)
 ·have bP:i<xss.length:=by omega
  have Cv:=rO (t1:=t1) (t2:=t2) (A:=A) (n:=n) (c:=c) (rs:=rs) (xss:=mT k xss i) (pre:=pre) (ks:=post) (i:=i) (by omega) (by omega);have PW:=fun l=>I4 (t1:=t1) (t2:=t2) (A:=A) (n:=n) (c:=c) (rs:=rs) (xss:=mT k xss i) (pre:=pre) (ks:=post) (i:=i) (xs:=l) (by omega) (by omega)
  rw [Ss bP]at Cv;have uA:=aD.rL _ Cv;have js:=hr xss[i] (di bP);have ax:=Sv (k:=k) bP;have Dl:dL (xss.take (i+1))=dL (xss.take i)+xss[i].length:=by rw [gk bP,J6]
  refine aC O (Wf hM.top.2 O O O (by omega) h1 (bn hM.top O (aq O ?_)));refine aO (Sc (pre.length+1+i) (k+dL (xss.take i)) aD Cv ⟨by omega,by omega⟩) O ?_;rintro _ w2 ⟨rfl,ay⟩;rw [PW,<-uA,ax]at ay;refine aq O (aI O (aM O (tQ ?_)));exact⟨i+1,by show n - (i+1)<n - i;omega,⟨O,by show Value.int .i64 _=aj _;rw [Dl,<-Int.add_assoc,uA],O,av⟩,ay,by omega⟩
 refine bj O (bl (dd O ?_));refine eF O ?_;have cd:i=n:=by omega
 subst cd;have e1:xss.take i=xss:=eI (by omega);have e2:mT k xss i=gD k xss:=by rw [mT,e1,List.drop_of_length_le (by omega),eG]
 rw [e1];rw [e2]at aD;exact⟨O,aD⟩
theorem OQ(A:ai)(n c:Nat)(rs:List aH)(xss:ag)(k:Int)(w:aa)(hR:bu w A n rs (gD k xss))(hn:n<=1000)(hr:∀x∈xss,x.length<=1000)(jW:0<=k/\k<=1000000000000000):
 aG prog 78 [.slice A n c,aj k] w (fun v w'=>v=aj (k+dL xss)/\w'=w):=by
 have eW:xss.length=n:=by rw [<-td xss k];exact hR.len
 refine bs func78 O ntmps78 O (bF O) (bH O ?_);refine Cd.loop (α:=Nat) (fun i=> [(0,.slice A n c),(1,aj (k+dL (xss.take i))),(5,aj i)]) (fun i w'=>w'=w/\i<=n) (fun i=>n - i) 0 ⟨O,by show Value.int .i64 _=aj _;simp [dL],O,av⟩ ⟨O,bk _⟩ ?_;rintro i e w ⟨rfl,hi⟩;have yO:=zu (b:=1000) (xss.take i) (fun x hx=>hr x (List.mem_of_mem_take hx));have wz:(xss.take i).length<=1000:=by simp;omega
 have P6:(xss.take i).length*1000<=1000*1000:=Nat.mul_le_mul_right 1000 wz;refine aY O (aR O O (aA O ?_));refine aJ _ O (fun h1=>?_) (fun h1=>?_)
 ·have bP:i<xss.length:=by omega
  have js:=hr xss[i] (di bP);have Dl:dL (xss.take (i+1))=dL (xss.take i)+xss[i].length:=by rw [gk bP,J6]
  have bw:=hR.at_ (i:=(i:Int)) (by omega) h1;have hg:gl (gD k xss) i=marks (k+dL (xss.take i)) xss[i].length:=by
   simp only [gl,eH,bX,Sw bP,Option.getD_some]
  rw [hg]at bw;have uA:=bw.1;rw [IY]at uA;rw [uA]at bw;refine aC O (Wf hR.top.2 O O O (by omega) h1 (bn hR.top O (aq O ?_)));refine aO (OP (rg rs i).a (rg rs i).n (rg rs i).c (k+dL (xss.take i)) _ bw ⟨by omega,by omega⟩) O ?_;rintro _ w ⟨rfl,rfl⟩;refine aA O (kJ O (by omega) ?_);refine aC O (aI O (aM O (tQ ?_)));exact⟨i+1,by show n - (i+1)<n - i;omega,⟨O,by show Value.int .i64 _=aj _;rw [Dl,<-Int.add_assoc,uA],O,av⟩,O,by omega⟩
 refine bj O (bl (dd O ?_));refine eF O ?_;have cd:i=n:=by omega
 subst cd;rw [eI (by omega)];exact⟨O,O⟩
structure oR(w:aa)(A:ai)(ms:List bC):Prop where
 top:eU w A ms.length (ms.map (·.top))
 row:∀m∈ms,bu w m.top.a m.top.n m.rs m.xss
theorem oR.ao{w w':aa}{A:ai}{ms:List bC}(h:oR w A ms)(hb:Below w.heap.size w w'):oR w' A ms:=⟨h.top.ao hb,fun m hm=> (h.row m hm).ao hb⟩
theorem St.wL{w0 w:aa}{A:ai}{c:Nat}{ms:List bC}{ks:List Ck}(h:St w0 w ks)(b6:∀m∈ms,m.ok)(hs:(aQ 37 A ms.length c (ms.map (·.top))::b7 24 2 ms).Sublist ks):oR w A ms:=
 ⟨(h.sub hs).dB 0 rfl,fun m hm=>h.oD (c:=m.top.c) (t1:=24) (t2:=2) (((pC hm).trans (List.sublist_cons_self _ _)).trans hs) (b6 m hm)⟩
theorem oR.at_{w:aa}{A:ai}{ms:List bC}(h:oR w A ms){i:Nat}(hi:i<ms.length):bu w (rg (ms.map (·.top)) i).a (rg (ms.map (·.top)) i).n (ms[i]).rs (ms[i]).xss:=by
 rw [r5 hi];exact h.row _ (di hi)
theorem Fz(A:ai)(c:Nat)(ms:List bC)(A':ai)(c':Nat)(ns:List bC)(w:aa)(hR:oR w A ms)(ij:oR w A' ns)(hn:ms.length<=9223372036854775807)(sF:∀m∈ms,m.top.n<=9223372036854775807):
 aG prog 25 [.slice A ms.length c,.slice A' ns.length c'] w (fun v w'=>v= .bool (decide (ms.map (·.xss)=ns.map (·.xss)))/\St w w' []):=by
 refine bs func25 O ntmps25 O (bF O) ?_;refine aY O (aR O O (aq O (aR O O (aA O ?_))));refine aJ _ O (fun h=>?_) (fun h=>?_)
 ·refine bV O (bG O ?_);exact⟨by rw [cb (fun e:ms.map (·.xss)=ns.map (·.xss)=>h (by have:=aS List.length e;simp at this;rw [this]))],St.refl _⟩
 refine cj O (Cd.loop (α:=Nat) (fun k=> [(0,.slice A ms.length c),(1,.slice A' ns.length c'),(5,aj k)]) (fun k w'=>St w w' []/\k<=ms.length/\(ms.map (·.xss)).take k=(ns.map (·.xss)).take k) (fun k=>ms.length - k) 0 (Wn O) ⟨St.refl w,bk _,O⟩ ?_);rintro k e w2 ⟨ay,hk,hI⟩;have hle:ms.length=ns.length:=by omega
 refine aY O (aR O O (aA O ?_));refine aJ _ O (fun h1=>?_) (fun h1=>?_)
 ·have hA:=hR.ao ay.below;have hB:=ij.ao ay.below;have sM:k<ms.length:=by omega
  have uy:k<ns.length:=by omega
  have ha:=hA.at_ sM;have jU:=hB.at_ uy;have hc:=sF _ (di sM);have ht:=r5 sM;rw [<-ht]at hc;refine cj O (cN [xS (A) (ms.length) (c),xI ((k:Int)),xP (az (A) ((k:Int)).toNat),.ex (.agg #[.slice (rg (ms.map (·.top)) ((k:Int))).a (rg (ms.map (·.top)) ((k:Int))).n (rg (ms.map (·.top)) ((k:Int))).c]),xS (A') (ns.length) (c'),xI ((k:Int)),xP (az (A') ((k:Int)).toNat),.ex (.agg #[.slice (rg (ns.map (·.top)) ((k:Int))).a (rg (ns.map (·.top)) ((k:Int))).n (rg (ns.map (·.top)) ((k:Int))).c]),xB (decide (ms[k].xss=ns[k].xss)),xB (decide (¬(ms[k].xss=ns[k].xss)))] O (da O) ?_ ?_)
  ·refine⟨Dr O,Dr O,fun _ _ hb _ _=>aw (hA.top.ao hb).2 O Az,fun _ _ hb _ _=>nj (hA.top.ao hb) O (by omega) O Az,Dr O,Dr O,fun _ _ hb _ _=>aw (hB.top.ao hb).2 O Az,fun _ _ hb _ _=>nj (hB.top.ao hb) O (by omega) O Az,?_,fun _ _ _ _ _=>dv O O Az,av⟩;intro e1 w1 hb hp aZ;refine aO (MH _ _ _ _ _ _ _ _ _ _ _ (ha.ao hb) (jU.ao hb) hc) O ?_;rintro _ w2 ⟨rfl,ax⟩;refine ak.n ?_;exact ew.dn ax.below (by exact O)
  intro u w3 dZ _;have aL:=ay.ao dZ;refine dM O (aJ _ O (fun h3=>?_) (fun h3=>?_))
  ·refine bV O (cy (b9 ?_));refine bG O ?_;refine⟨by rw [cb (fun e:ms.map (·.xss)=ns.map (·.xss)=>h3 (by
    have:=aS (fun l=>l[k]?) e;simpa [sM,uy]using this))],aL⟩
  refine aC O (aI O (aM O (tQ ?_)));refine⟨k+1,by omega,(Wn O),aL,by omega,?_⟩;rw [gk (by rw [fv];exact sM),gk (by rw [fv];exact uy),hI,List.getElem_map,List.getElem_map,fp.1 h3]
 refine bj O (bl (dd O ?_));refine bG O ⟨?_,ay⟩;rw [eI (by rw [fv];omega),eI (by rw [fv];omega)]at hI;rw [dF hI]
def gh(ms:List bC):Int:=((ms.map fun m=> (m.xss.map List.length).sum).sum:Nat)
theorem J5(ms:List bC)(m:bC):gh (ms++ [m])=gh ms+dL m.xss:=by simp [gh,dL]
theorem Ep(ms:List bC)(m:bC):gh (m::ms)=dL m.xss+gh ms:=by simp [gh,dL]
theorem zt{b:Nat}:∀(ms:List bC),(∀m∈ms,dL m.xss<=b)->0<=gh ms/\gh ms<=(ms.length*b:Nat)
 | [],_=>by simp [gh]
 | m::ms,h=>by
  have h1:=zt ms (fun y hy=>h y (by simp [hy]));have h2:=h m (by simp);have h3:0<=dL m.xss:=by unfold dL;omega
  rw [Ep,List.length_cons,Nat.succ_mul];omega
def gM(k:Int):List bC->List bC
 | []=> []
 | m::ms=> { m with xss:=gD k m.xss }::gM (k+dL m.xss) ms
theorem za:∀(ms:List bC) (k:Int),(gM k ms).length=ms.length
 | [],_=>rfl
 | _::ms,k=>by simp [gM,za ms]
theorem DP:∀(ms:List bC) (k:Int),(gM k ms).map (·.top)=ms.map (·.top)
 | [],_=>rfl
 | _::ms,k=>by simp [gM,DP ms]
theorem I9(m:bC):∀(ms:List bC) (k:Int),gM k (ms++ [m])=gM k ms++ [{ m with xss:=gD (k+gh ms) m.xss }]
 | [],k=>by simp [gM,gh]
 | y::ms,k=>by
  simp only [List.cons_append,gM];rw [I9 m ms,Ep,Int.add_assoc]
theorem I8:∀(a b:List bC) (k:Int),gM k (a++b)=gM k a++gM (k+gh a) b
 | [],b,k=>by simp [gM,gh]
 | y::a,b,k=>by
  simp only [List.cons_append,gM];rw [I8 a b,Ep,Int.add_assoc]
theorem Sx{ms:List bC}{k:Int}{i:Nat}(hi:i<ms.length):(gM k ms)[i]?=some { ms[i]with xss:=gD (k+gh (ms.take i)) ms[i].xss }:=by
 have h1:ms=ms.take i++ (ms[i]::ms.drop (i+1)):=by rw [<-List.drop_eq_getElem_cons hi,List.take_append_drop]
 have h2:(gM k (ms.take i)).length=i:=by rw [za];simp;omega
 conv=>lhs;rw [h1,I8]
 rw [mq (by omega),h2,Nat.sub_self]
 rfl
theorem Sy{ms:List bC}{k:Int}(h:∀m∈ms,m.ok):∀m∈gM k ms,m.ok:=by
 induction ms generalizing k with
 | nil=>intro m hm;exact nomatch hm
 | cons a ms ih=>
  intro m hm;rcases kj.1 hm with rfl | hm
  ·show(gD k a.xss).length=a.top.n;rw [td];exact h a (by simp)
  ·exact ih (fun m hm=>h m (by simp [hm])) m hm
def vh(m:bC):Prop:=m.rs.length=m.top.n/\m.xss.length=m.top.n/\m.top.n<=4/\∀x∈m.xss,x.length<=12
theorem vh.dL{m:bC}(h:vh m):0<=Vc.dL m.xss/\Vc.dL m.xss<=(48:Nat):=by
 have h1:=zu (b:=12) m.xss h.2.2.2;have h2:=h.2.1;have h3:=h.2.2.1;omega
theorem Sd{w0 w:aa}{A:ai}{c:Nat}{ms:List bC}{ks:List Ck}(k:Int)(hS:St w0 w (aQ 37 A ms.length c (ms.map (·.top))::(b7 24 2 ms++ks)))(ox:∀m∈ms,vh m)(hn:ms.length<=4000000000000)(jW:0<=k/\k<=1048576):
 aG prog 26 [.slice A ms.length c,aj k] w (fun v w'=>v=aj (k+gh ms)/\St w0 w' (aQ 37 A ms.length c (ms.map (·.top))::(b7 24 2 (gM k ms)++ks))):=by
 refine bs func26 O ntmps26 O (bF O) (bH O ?_);refine Cd.loop (α:=Nat) (fun i=> [(0,.slice A ms.length c),(1,aj (k+gh (ms.take i))),(5,aj i)]) (fun i w'=>St w0 w' (aQ 37 A ms.length c (ms.map (·.top))::(b7 24 2 (gM k (ms.take i)++ms.drop i)++ks))/\i<=ms.length) (fun i=>ms.length - i) 0 ⟨O,by show Value.int .i64 _=aj _;simp [gh],O,av⟩ ⟨by simpa [gM]using hS,bk _⟩ ?_;rintro i e w1 ⟨aD,hi⟩;have yO:=zt (b:=48) (ms.take i) (fun m hm=> (ox m (List.mem_of_mem_take hm)).dL.2);have wz:(ms.take i).length<=4000000000000:=by simp;omega
 refine aY O (aR O O (aA O ?_));refine aJ _ O (fun h1=>?_) (fun h1=>?_)
 ·have bP:i<ms.length:=by omega
  have hm:=ox _ (di bP);have Qa:=hm.dL;have qi:=r5 bP;have hT:=aD.dB 0 O;have qk:((ms.map (·.top)).getD (i+0) bA).v= .slice ms[i].top.a ms[i].top.n ms[i].top.c:=by rw [<-qi];rfl
  have jb:=hT.2.behind (o:=i) (m:=1) (by omega);have ir:gh (ms.take (i+1))=gh (ms.take i)+dL ms[i].xss:=by rw [gk bP,J5]
  have ax:gM k (ms.take (i+1))++ms.drop (i+1)=gM k (ms.take i)++ ({ ms[i]with xss:=gD (k+gh (ms.take i)) ms[i].xss }::ms.drop (i+1)):=by
   rw [gk bP,I9,fB];rfl
  have N6:St w0 w1 ((aQ 37 A ms.length c (ms.map (·.top))::b7 24 2 (gM k (ms.take i)))++ (aW 24 2 ms[i].top.a ms[i].top.n ms[i].top.c ms[i].rs ms[i].xss++ (b7 24 2 (ms.drop (i+1))++ks))):=by
   rw [List.drop_eq_getElem_cons bP,wJ,show b7 24 2 (ms[i]::ms.drop (i+1))=aW 24 2 ms[i].top.a ms[i].top.n ms[i].top.c ms[i].rs ms[i].xss++b7 24 2 (ms.drop (i+1)) from rfl]at aD;simpa only [fB,List.cons_append]using aD
  refine aC O (Wf hT.2 O O O (by omega) h1 (aT jb O (Wm (A1:=ms[i].top.a) (n1:=ms[i].top.n) (c1:=ms[i].top.c) (j:=0) jb O O qk O O (aq O ?_))));refine aO (Se (k+gh (ms.take i)) N6 hm.1 hm.2.1 (by have:=hm.2.2.1;omega) (fun x hx=>by have:=hm.2.2.2 x hx;omega) (by omega)) O ?_;rintro _ w2 ⟨rfl,ay⟩;refine aq O (aI O (aM O (tQ ?_)));refine⟨i+1,by show ms.length - (i+1)<ms.length - i;omega,⟨O,by show Value.int .i64 _=aj _;rw [ir,Int.add_assoc],O,av⟩,?_,bP⟩;rw [ax,wJ,show b7 24 2 ({ ms[i]with xss:=gD (k+gh (ms.take i)) ms[i].xss }::ms.drop (i+1))=aW 24 2 ms[i].top.a ms[i].top.n ms[i].top.c ms[i].rs (gD (k+gh (ms.take i)) ms[i].xss)++b7 24 2 (ms.drop (i+1)) from rfl];simpa only [fB,List.cons_append]using ay
 refine bj O (bl (dd O ?_));refine eF O ?_;have cd:i=ms.length:=by omega
 subst cd;rw [List.take_length,List.drop_length,eG]at*;exact⟨O,aD⟩
theorem Hc(A:ai)(c:Nat)(ms:List bC)(k:Int)(w:aa)(hR:oR w A (gM k ms))(ox:∀m∈ms,vh m)(hn:ms.length<=4000000000000)(jW:0<=k/\k<=1048576):
 aG prog 27 [.slice A ms.length c,aj k] w (fun v w'=>v=aj (k+gh ms)/\w'=w):=by
 have hT:=hR.top;rw [za,DP]at hT;refine bs func27 O ntmps27 O (bF O) (bH O ?_);refine Cd.loop (α:=Nat) (fun i=> [(0,.slice A ms.length c),(1,aj (k+gh (ms.take i))),(5,aj i)]) (fun i w'=>w'=w/\i<=ms.length) (fun i=>ms.length - i) 0 ⟨O,by show Value.int .i64 _=aj _;simp [gh],O,av⟩ ⟨O,bk _⟩ ?_;rintro i e w ⟨rfl,hi⟩;have yO:=zt (b:=48) (ms.take i) (fun m hm=> (ox m (List.mem_of_mem_take hm)).dL.2);have wz:(ms.take i).length<=4000000000000:=by simp;omega
 refine aY O (aR O O (aA O ?_));refine aJ _ O (fun h1=>?_) (fun h1=>?_)
 ·have bP:i<ms.length:=by omega
  have hm:=ox _ (di bP);have Qa:=hm.dL;have qi:=r5 bP;have qk:((ms.map (·.top)).getD (i+0) bA).v= .slice ms[i].top.a ms[i].top.n ms[i].top.c:=by rw [<-qi];rfl
  have jb:=hT.2.behind (o:=i) (m:=1) (by omega);have ir:gh (ms.take (i+1))=gh (ms.take i)+dL ms[i].xss:=by rw [gk bP,J5]
  have bw:=hR.row _ (List.mem_of_getElem? (Sx (k:=k) bP));refine aC O (Wf hT.2 O O O (by omega) h1 (aT jb O (Wm (A1:=ms[i].top.a) (n1:=ms[i].top.n) (c1:=ms[i].top.c) (j:=0) jb O O qk O O (aq O ?_))));refine aO (OQ _ _ _ _ ms[i].xss (k+gh (ms.take i)) _ bw (show ms[i].top.n<=1000 by have:=hm.2.2.1;omega) (fun x hx=>by have:=hm.2.2.2 x hx;omega) (by omega)) O ?_;rintro _ w ⟨rfl,rfl⟩;refine aA O (kJ O (by omega) ?_);refine aC O (aI O (aM O (tQ ?_)));exact⟨i+1,by show ms.length - (i+1)<ms.length - i;omega,⟨O,by show Value.int .i64 _=aj _;rw [ir,Int.add_assoc],O,av⟩,O,bP⟩
 refine bj O (bl (dd O ?_));refine eF O ?_;have cd:i=ms.length:=by omega
 subst cd;rw [List.take_length];exact⟨O,O⟩
def u1(L:List Mx)(K:Int)(w:aa)(v:ab)(w':aa):Prop:=∃A c,∃ms:List bC,v= .tuple #[.slice A ms.length c,aj K]/\ms.map (·.xss)=L/\(∀m∈ms,m.ok)/\St w w' (aQ 37 A ms.length c (ms.map (·.top))::b7 24 2 ms)
theorem u1.none{w w':aa}{ks:List Ck}{K:Int}(h:St w w' ks):u1 [] K w (.tuple #[.slice Option.none 0 0,aj K]) w':=⟨Option.none,0,[],rfl,rfl,fun m hm=> (nomatch hm),h.none.nil _⟩
theorem IW{rank flags:Int}{L:Mx}(h:L∈ka rank flags):Small rank flags/\L.length=rank.toNat/\(∀x∈L,x.length=flags.toNat)/\L.length<=4/\∀x∈L,x.length<=12:=by
 unfold ka at h
 split at h
 ·rename_i hs;have h1:=hs.1;have h2:=hs.2;have hL:=(xH (by omega) (by omega) (IM.1 h).1).2.cM;exact⟨hs,hL.1,hL.2,by rw [hL.1];omega,fun x hx=>by rw [hL.2 x hx];omega⟩
 cases h
theorem DK(rank flags:Int):(ka rank flags).length<=4000000000000:=by
 unfold ka
 split
 ·rename_i hs;have h1:=hs.1;have h2:=hs.2;rw [R2];exact gm (SU _ _) (vz (n:=rank.toNat) (F:=flags.toNat) (by omega) (by omega) _)
 exact bk _
theorem St.TH{w0 w:aa}{ks:List Ck}{m:bC}(h:St w0 w ks)(hs:(m.qN 24 2).Sublist ks):m.rs.length=m.top.n:=by
 have:=((h.own (aQ 24 m.top.a m.top.n m.top.c m.rs) (hs.subset (by simp [bC.qN,aW]))).zs (pj _)).1;simpa using this
theorem IV{n F:Nat}{ms:List bC}(hn:0<n)(hF:0<F)(hL:ms.map (·.xss)=nM n F){i:Nat}(hi:i<ms.length):bN ms[i].xss/\F=(gl ms[i].xss 0).length/\jz F ms[i].xss:=by
 have hm:ms[i].xss∈nM n F:=by rw [<-hL];exact List.mem_map_of_mem (di hi)
 obtain⟨h1,h2⟩:=IM.1 hm;obtain⟨h3,h4⟩:=xH hn hF h1;exact⟨h3,(h4.cM.row (i:=0) hn).symm,h2⟩
def part(T:ah)(m:Nat):ah:=T.take m++List.replicate (T.length - m) 0
section
variable {P:Program} {N:Nat} {ops:Array Oper} {K:Env->aa->Prop} {rest:List Oper} {e:Env} {w:aa} {d:Nat} {ty:ad} {pos:String} {af:Array Edge}
theorem KR{F:FuncId}{x y:ae}{v1 v2:ab}(hx:ev e x=v1)(hy:ev e y=v2)(hb:Nat.blt d N=true)(hK:ak P N ops K rest (br e d (.func (.func F) #[] #[v1,v2])) w):
 ak P N ops K (⟨some d,.makeFunc (.func F) #[] #[x,y],ty,pos,af,none⟩::rest) e w:=
 .val (by simp [execOp,Instr.makeFunc,hx,hy]) hb hK
end
def sf(lo hi:Int)(xs:ah):Prop:=∀x∈xs,lo<=x/\x<=hi
instance (lo hi:Int)(xs:ah):Decidable (sf lo hi xs):=by unfold sf;exact inferInstance
theorem Lw(x lo hi:Int)(P1 P2:ai)(w:aa)(h1:Rd w P1 1 (fun _=>aj lo))(h2:Rd w P2 1 (fun _=>aj hi)):
 aG prog 185 [aj x,.pointer P1,.pointer P2] w (fun v w'=>v= .bool (decide (¬(lo<=x/\x<=hi)))/\w'=w):=by
 refine bs func185 O ntmps185 O (bF O) (aY O ?_);refine ak.ld h1 (by exact aS Value.pointer (jJ P1).symm) (by decide) O O O ?_;refine ak.ld h2 (by exact aS Value.pointer (jJ P2).symm) (by decide) O O O ?_;refine aO (oK _ _ _ _) O ?_;rintro _ w ⟨rfl,rfl⟩
 first | refine dv rfl rfl ?_ | refine eJ rfl rfl ?_
 refine bW O (bG O ?_);exact⟨O,O⟩
theorem KB(A:ai)(n c:Nat)(xs:ah)(lo hi:Int)(P1 P2:ai)(w:aa)(hR:bS w A n xs)(hn:n<=9223372036854775807)(h1:Rd w P1 1 (fun _=>aj lo))(h2:Rd w P2 1 (fun _=>aj hi)):
 aG prog 232 [.slice A n c,.func (.func 185) #[] #[.pointer P1,.pointer P2]] w (fun v w'=> (∃i:Int,v=aj i/\(0<=i↔¬sf lo hi xs))/\w'=w):=by
 have eW:=hR.1;refine bs func232 O ntmps232 O (bF O) ?_;refine aY O (aR O O (aA O ?_));refine Cd.loop (α:=Nat) (fun k=> [(0,.slice A n c),(1,.func (.func 185) #[] #[.pointer P1,.pointer P2]),(7,aj n),(8,aj k)]) (fun k w'=>w'=w/\k<=n/\∀j,j<k->lo<=gi xs (j:Nat)/\gi xs (j:Nat)<=hi) (fun k=>n - k) 0 (Wn O) ⟨O,bk _,fun j hj=>by omega⟩ ?_;rintro k e w ⟨rfl,hk,hK⟩;refine bH O (aJ _ O (fun h3=>?_) (fun h3=>?_))
 ·refine aC O (aw hR.2 O (a6 hR O (aO (Lw _ lo hi P1 P2 _ h1 h2) O ?_)));rintro _ w ⟨rfl,rfl⟩;refine aA O (aJ _ O (fun h4=>?_) (fun h4=>?_))
  ·refine bV O (cy (b9 ?_));refine eF O ?_;exact⟨⟨(k:Int),O,⟨fun _ ha=>h4 (by rw [bQ (by omega)];exact ha _ (di _)),fun _=>by omega⟩⟩,O⟩
  refine aC O (aI O (aM O (tQ ?_)));refine⟨k+1,by show n - (k+1)<n - k;omega,(Wn O),O,by omega,fun j hj=>?_⟩
  by_cases ej:j=k
  ·subst ej;exact fp.1 h4
  exact hK j (by omega)
 refine bj O (bl (dd O ?_));refine eF O ⟨⟨-1,O,⟨fun h=>absurd h (by decide),fun h=>absurd (fun x hx=>?_) h⟩⟩,O⟩;obtain⟨j,hj,rfl⟩:=fP.1 hx;have:=hK j (by omega)
 rwa [bQ hj]at this
theorem Ku(A:ai)(n c:Nat)(xs:ah)(lo hi:Int)(P1 P2:ai)(w:aa)(hR:bS w A n xs)(hn:n<=9223372036854775807)(h1:Rd w P1 1 (fun _=>aj lo))(h2:Rd w P2 1 (fun _=>aj hi)):
 aG prog 184 [.slice A n c,.func (.func 185) #[] #[.pointer P1,.pointer P2]] w (fun v w'=>v= .bool (decide (¬sf lo hi xs))/\w'=w):=by
 refine bs func184 O ntmps184 O (bF O) (aY O (aO (KB A n c xs lo hi P1 P2 _ hR hn h1 h2) O ?_));rintro _ w ⟨⟨i,rfl,bP⟩,rfl⟩;refine bW O (bG O ?_);exact⟨aS Value.bool (gJ.2 bP),O⟩
theorem Lx(A:ai)(n c:Nat)(xs:ah)(lo hi:Int)(w:aa)(hR:bS w A n xs)(hn:n<=9223372036854775807):
 aG prog 114 [.slice A n c,aj lo,aj hi] w (fun v w'=>v= .bool (decide (sf lo hi xs))/\St w w' []):=by
 refine bs func114 O ntmps114 O (bF O) (aY O ?_);refine ak.box (v:=aj lo) (St.refl w) O O (by show(1:Nat)<=maxLen;simp [maxLen]) ?_;intro P1 w1 aD;have aD:St w w1 [Bx 2 1 P1 [aj lo]]:=aD;refine ak.box (v:=aj hi) aD O O (by show(1:Nat)<=maxLen;simp [maxLen]) ?_;intro P2 w2 ay;have ay:St w w2 [Bx 2 1 P2 [aj hi],Bx 2 1 P1 [aj lo]]:=ay;refine aq O (KR O O O (aO (Ku A n c xs lo hi P1 P2 _ (ay.dh hR) hn (jf (ay.rd 1 O)) (jf (ay.rd 0 O))) O ?_));rintro _ w2 ⟨rfl,rfl⟩
 first | refine dv rfl rfl ?_ | refine eJ rfl rfl ?_
 refine bW O (bG O ?_);exact⟨by simp,ay.none⟩
def Ez(n:Nat)(ws:ah):Prop:=sf 0 ((n:Int) - 1) ws/\ws.length<=64
instance (n:Nat)(ws:ah):Decidable (Ez n ws):=by unfold Ez;exact inferInstance
section
variable {P:Program} {N:Nat} {ops:Array Oper} {K:Env->aa->Prop} {rest:List Oper} {e:Env} {w0 w:aa} {ks:List Ck} {d:Nat} {ty:ad} {pos:String} {af:Array Edge}
theorem JU:∀(cs vs:List ab) (o m:Nat),m<=o->(mf vs o cs).take m=vs.take m
 | [],_,_,_,_=>rfl
 | c::r,vs,o,m,h=>by
  show(mf (vs.set o c) (o+1) r).take m=_;rw [JU r _ _ _ (by omega),List.take_set_of_le h]
theorem Ii:∀ {vs:List ab} (o:Nat) (cs:List ab),cX vs=false->(∀u∈cs,u.oneCell'=true)->cX (mf vs o cs)=false
 | _,_,[],h,_=>h
 | vs,o,c::r,h,hc=>Ii (o+1) r (Ih o h (hc c (by simp))) fun u hu=>hc u (by simp [hu])
theorem KM{t el:ad}{z z0:ab}{b:Nat}[bK P t (.slice el)][bL P el z 1 b]{x:ae}(i l:Nat){k:Ck}{n' c':Nat}(hS:St w0 w ks)(hk:ks[i]?=some k)(hl:l<k.n)(qd:n'=k.n - l)(hx:ev e x= .slice (cutAt k.A k.c l) n' c')(hz:z.cells= #[z0])(h1:z0.oneCell'=true)(hK:∀w',St w0 w' (ks.set i { k with n:=l,vs:=k.vs.take l })->ak P N ops K rest e w')(hM:cX k.vs=false:=by first | rfl | exact nK _ | exact s6 _ | exact pj _):
 ak P N ops K (⟨none,.call ⟨.builtin .clear, #[x], #[t]⟩,ty,pos,af,none⟩::rest) e w:=by
 obtain⟨inf,hi,fk,hs,iE⟩:=bL.get P el;obtain⟨qk,sR,sG,-⟩:=hS.mE hk hM;have cW:=(fu.1 hk).1;obtain⟨p,hp,_⟩:=(hS.rd i hk) l hl;have o5:cutAt k.A k.c l=some p:=by unfold cutAt;rw [if_neg (by omega)];exact hp
 obtain⟨w',lC,jT⟩:=Eh (P:=P) (k:=k) i (List.replicate (k.n - l) z0) ks k.vs w l p hS hk hp (by simp;omega) (fun u hu=>by rw [List.eq_of_mem_replicate hu];exact h1) l p hp (by omega) (by omega);have ay:=jT.shrink i (k:= { k with vs:=mf k.vs l (List.replicate (k.n - l) z0) }) (by rw [jy];simp [cW]) l (by show l<=k.n;omega) (Ii _ _ hM (fun u hu=>by rw [List.eq_of_mem_replicate hu];exact h1));rw [List.set_set]at ay;have e1:({ ({ k with vs:=mf k.vs l (List.replicate (k.n - l) z0) }:Ck)with n:=l,vs:=({ k with vs:=mf k.vs l (List.replicate (k.n - l) z0) }:Ck).vs.take l }:Ck)= { k with n:=l,vs:=k.vs.take l }:=by
  show({ k with n:=l,vs:=(mf k.vs l (List.replicate (k.n - l) z0)).take l }:Ck)=_;rw [JU _ _ _ _ (cO _)]
 rw [e1]at ay;have uI:(Builtin.zeroCells z.cells (k.n - l)).toList=List.replicate (k.n - l) z0:=by
  rw [hz];simp [Builtin.zeroCells];apply gj
  ·simp
  intro i h1 h2;simp [Nat.mod_one]
 rw [Nat.sub_self]at lC;have hm:k.n - l=(k.n - l - 1)+1:=by omega
 generalize k.n - l - 1=m at hm;have hv:∀w,(zeroValue el).run P w= .ok z w:=fun w=>by simp [zeroValue,typeInfo,hi,fk]
 rw [qd,o5,hm]at hx;rw [hm]at uI lC;refine .Kh (v:= .tuple #[]) (w':=w') ?_ (hK _ ay);simp [execOp,resolve,invoke,builtin,hx,Builtin.clear_,run_underlying (bK.out (P:=P) (t:=t)),hv,uI,lC]
end
theorem Qr(A:ai)(n c:Nat)(ss:List aH)(G:FuncId)[hF:bp prog G](pd:Nat->Bool)(w:aa)(hR:eU w A n ss)(hn:n<=4000000000000)(ye:∀(w':aa) (j:Nat),Below w.heap.size w w'->j<n->aG prog G [.agg #[(rg ss j).v]] w' (fun v nU=>v= .bool (pd j)/\St w' nU [])):
 aG prog 140 [.slice A n c,.func (.func G) #[] #[]] w (fun v w'=> (∃i:Int,v=aj i/\((i= -1/\∀j,j<n->pd j=false)\/∃k:Nat,k<n/\i=k/\pd k=true/\∀j,j<k->pd j=false))/\St w w' []):=by
 refine bs func140 O ntmps140 O (bF O) ?_;refine aY O (aR O O (aA O ?_));refine Cd.loop (α:=Nat) (fun k=> [(0,.slice A n c),(1,.func (.func G) #[] #[]),(7,aj n),(8,aj k)]) (fun k w'=>St w w' []/\k<=n/\∀j,j<k->pd j=false) (fun k=>n - k) 0 (Wn O) ⟨St.refl w,bk _,fun j hj=>by omega⟩ ?_;rintro k e w1 ⟨hS,hk,hK⟩;refine bH O (aJ _ O (fun h3=>?_) (fun h3=>?_))
 ·have cE:k<n:=by omega
  have iC:=hR.ao hS.below;refine aC O (aw iC.2 O (nj iC O (by omega) O (aO (ye w1 k hS.below cE) O ?_)));rintro _ w2 ⟨rfl,ax⟩;have ay:=hS.ao ax.below;rw [show pd k=decide (pd k=true) by simp];refine aA O (aJ _ O (fun h4=>?_) (fun h4=>?_))
  ·refine bV O (cy (b9 ?_));exact eF O ⟨⟨(k:Int),O,.inr ⟨k,cE,O,h4,hK⟩⟩,ay⟩
  refine aC O (aI O (aM O (tQ ?_)));refine⟨k+1,by show n - (k+1)<n - k;omega,(Wn O),ay,by omega,fun j hj=>?_⟩
  by_cases ej:j=k
  ·subst ej;simpa using h4
  exact hK j (by omega)
 refine bj O (bl (dd O ?_));exact eF O ⟨⟨-1,O,.inl ⟨O,fun j hj=>hK j (by omega)⟩⟩,hS⟩
def jY(pd:Nat->Bool)(j:Nat):List Nat:=(List.range j).filter fun x=>!pd x
theorem s7(pd:Nat->Bool)(j:Nat):jY pd (j+1)=if pd j=true then jY pd j else jY pd j++ [j]:=by
 unfold jY;rw [lg,mn]
 by_cases h:pd j=true
 ·rw [aF h];simp [h]
 rw [aB h];simp [h]
theorem Dy{pd:Nat->Bool}:∀ {j:Nat},(∀x,x<j->pd x=false)->jY pd j=List.range j:=fun {j} h=>by
 unfold jY;rw [List.filter_eq_self];intro x hx;rw [h x (iI.1 hx)];rfl
theorem T7{ss:List aH}{n:Nat}(h:ss.length=n):(List.range n).map (fun j=>ss.getD j bA)=ss:=by
 subst h;apply gj
 ·simp
 intro i h1 h2;simp [bX,h2]
theorem Ms{w0 w:aa}{ks:List Ck}(i:Nat){t:ad}{A:ai}{n c:Nat}{ss:List aH}(hS:St w0 w ks)(hk:ks[i]?=some (aQ t A n c ss))(hn:n<=4000000000000)(G:FuncId)[hF:bp prog G](pd:Nat->Bool)(ye:∀(w':aa) (q:List Nat),q.length=n->St w0 w' (ks.set i (aQ t A n c (q.map fun j=>ss.getD j bA)))->∀a,a<n->aG prog G [.agg #[(ss.getD a bA).v]] w' (fun v nU=>v= .bool (pd a)/\St w' nU [])):
 aG prog 74 [.slice A n c,.func (.func G) #[] #[]] w (fun v w'=>v= .slice A (jY pd n).length c/\St w0 w' (ks.set i (aQ t A (jY pd n).length c ((jY pd n).map fun j=>ss.getD j bA)))):=by
 have lW:i<ks.length:=(fu.1 hk).1;obtain⟨h1,h2,h3,-⟩:=hS.mE hk (pj _);have yM:ss.length=n:=by have:(ss.map aH.v).length=n:=h1;simpa using this
 have h2:n<=c:=h2;have h3:c<=maxLen:=h3;have hid:ks.set i (aQ t A n c ((List.range n).map fun j=>ss.getD j bA))=ks:=by rw [T7 yM,xb hk]
 have hR:=hS.dB i hk;have GL:∀ {w':aa},St w0 w' ks->St w0 w' (ks.set i (aQ t A n c ((List.range n).map fun j=>ss.getD j bA))):=fun h=>by rw [hid];exact h
 have get:∀l,(ks.set i l)[i]?=some l:=fun l=>by simp [lW]
 have sX:∀(q:List Nat) (j:Nat) (x:Nat),q[j]?=some x->rg (q.map fun j=>ss.getD j bA) j=ss.getD x bA:=fun q j x h=>by
  simp [rg,bX,h]
 refine bs func74 O ntmps74 O (bF O) (aY O ?_);refine aO (Qr A n c ss G pd _ hR hn (fun w' j hb hj=>ye w' (List.range n) (by simp) (GL (hS.ao hb)) j hj)) O ?_;rintro _ w1 ⟨⟨i0,rfl,o6⟩,PZ⟩;have aD:=hS.ao PZ.below;refine aA O (aJ _ O (fun h5=>?_) (fun h5=>?_))
 ·have dV:∀j,j<n->pd j=false:=by
   rcases o6 with⟨_,h⟩ | ⟨k,_,e,_⟩
   ·exact h
   omega
  refine bV O (dH O ?_);rw [Dy dV,n3,hid];exact⟨O,aD⟩
 obtain⟨k0,jW,rfl,yy,qg⟩:=o6.resolve_left (fun h=>h5 h.1);refine aC O (aI O (aA O ?_));refine Cd.loop (α:=Nat×Nat×List Nat) (fun z=> [(0,.slice A n c),(1,.func (.func G) #[] #[]),(5,aj (z.1:Int)),(6,aj (z.2.1:Int))]) (fun z w'=>St w0 w' (ks.set i (aQ t A n c (z.2.2.map fun j=>ss.getD j bA)))/\z.2.2.length=n/\z.1<z.2.1/\z.2.1<=n/\z.1=(jY pd z.2.1).length/\z.2.2.take z.1=jY pd z.2.1/\∀m,z.2.1<=m->m<n->z.2.2[m]?=some m) (fun z=>n - z.2.1) (k0,k0+1,List.range n) ⟨O,O,O,by show Value.int .i64 _=aj _;congr 1,av⟩ ⟨GL aD,by simp,Nat.lt_succ_self _,jW,by
  show k0=(jY pd (k0+1)).length;rw [s7,aF yy,Dy qg,n3],by
  show(List.range n).take k0=jY pd (k0+1);rw [s7,aF yy,Dy qg,List.take_range,Nat.min_eq_left (by omega)],fun m hm fj=>by simp [fj]⟩ ?_
 rintro⟨a,j,q⟩ e w2 ⟨ay,l0,Ol,ru,kX,yG,yF⟩;dsimp only at ay l0 Ol ru kX yG yF|-;refine aY O (aR O O (aA O ?_));refine aJ _ O (fun h6=>?_) (fun h6=>?_)
 ·have eV:j<n:=by omega
  have fc:=ay.dB i (get _);have PJ:=yF j (cO _) eV;refine aC O (aw fc.2 O (nj fc O (by omega) O ?_));rw [sX q j j PJ];refine lN ay O fun A7 w3 aL=>gU 1 0 aL O O O O O O O ?_;intro w4 aN;have aN:St w0 w4 (Bx 37 1 A7 [.slice (ss.getD j bA).a (ss.getD j bA).n (ss.getD j bA).c]::ks.set i (aQ t A n c (q.map fun j=>ss.getD j bA))):=aN;refine aq O (ak.dz 0 (aN.rd 0 O) O O O (aO (ye w4 q l0 aN.tail j eV) O ?_));rintro _ w5 ⟨rfl,k6⟩;have aV:=aN.ao k6.below;rw [show pd j=decide (pd j=true) by simp]
  first | refine dv rfl rfl ?_ | refine eJ rfl rfl ?_
  refine aA O (aJ _ O (fun h7=>?_) (fun h7=>?_))
  ·have uD:¬pd j=true:=h7;refine aC O (ak.dz 0 (aV.rd 0 O) O O O (aw (aV.tail.dB i (get _)).2 O ?_));refine ak.JY (o:=a) 1 (i+1) aV (by show(ks.set i _)[i]?=_;exact get _) O O O O O (by rw [Nat.ble_eq];show a+1<=n;omega) ?_;intro w6 bg;have bg:=bg.tail;refine aq O (aI O (aq O (aI O (aM O (tQ ?_)))));refine⟨(a+1,j+1,q.set a j),by show n - (j+1)<n - j;omega,(Wn O),?_,by show(q.set a j).length=n;rw [iS];exact l0,by show a+1<j+1;omega,eV,by show a+1=(jY pd (j+1)).length;rw [s7,aB uD,dS,<-kX];rfl,?_,fun m hm fj=>?_⟩
   ·show St w0 w6 (ks.set i (aQ t A n c ((q.set a j).map fun j=>ss.getD j bA)));have e9:(ks.set i (aQ t A n c (q.map fun j=>ss.getD j bA))).set i { aQ t A n c (q.map fun j=>ss.getD j bA)with vs:=mf (aQ t A n c (q.map fun j=>ss.getD j bA)).vs a [.slice (ss.getD j bA).a (ss.getD j bA).n (ss.getD j bA).c] }=ks.set i (aQ t A n c ((q.set a j).map fun j=>ss.getD j bA)):=by
     rw [List.set_set]
     congr 1
     show({ aQ t A n c (q.map fun j=>ss.getD j bA)with vs:=((q.map fun j=>ss.getD j bA).map aH.v).set a (ss.getD j bA).v }:Ck)=_;simp [aQ,List.map_set]
    rw [<-e9];exact bg
   ·show(q.set a j).take (a+1)=jY pd (j+1);rw [s7,aB uD,<-yG,gk (by rw [iS];omega),List.take_set_of_le (cO _),List.getElem_set_self]
   show(q.set a j)[m]?=some m;have hm:j+1<=m:=hm;rw [jy,aB (by omega)];exact yF m (by omega) fj
  have uD:pd j=true:=fp.1 h7;refine aC O (aI O (aM O (tQ ?_)));exact⟨(a,j+1,q),by show n - (j+1)<n - j;omega,(Wn O),aV.tail,l0,by show a<j+1;omega,eV,by show a=(jY pd (j+1)).length;rw [s7,aF uD];exact kX,by show q.take a=jY pd (j+1);rw [s7,aF uD];exact yG,fun m hm fj=>yF m (by have hm:j+1<=m:=hm;omega) fj⟩
 have uw:j=n:=by omega
 subst uw;refine bj O (bl (cn O ?_));refine tD (A:=A) (n:=j) (c:=c) (l:=(a:Int)) O O O (by omega) ?_;refine KM i a ay (get _) (show a<j by omega) (by show j - _=j - a;omega) O O O ?_;intro w3 aL;rw [List.set_set]at aL;refine aq O (tC (A:=A) (n:=j) (c:=c) (h:=(a:Int)) O O O (by omega) (bW O (dH O ?_)));rw [<-kX];refine⟨O,?_⟩;rw [<-yG];have e9:({ aQ t A j c (q.map fun j=>ss.getD j bA)with n:=a,vs:=(aQ t A j c (q.map fun j=>ss.getD j bA)).vs.take a }:Ck)=aQ t A a c ((q.take a).map fun j=>ss.getD j bA):=by simp [aQ,List.map_take]
 rw [<-e9];exact aL
theorem wH{N:Nat}{xss:ag}(hs:Sys N xss)(bP:ml N xss):∀i,i<=N->(∀x:Int,0<=x->x<N->gi (bq N xss i).1 x= -1\/(0<=gi (bq N xss i).1 x/\gi (bq N xss i).1 x< (bq N xss i).2))/\∀v:Int,0<=v->v< (bq N xss i).2->∃x:Int,0<=x/\x<N/\gi (bq N xss i).1 x=v
 | 0,_=> ⟨fun x h0 h1=> .inl (by rw [show(bq N xss 0).1=List.replicate N (-1) from rfl,qV h0 h1]),fun v h0 h1=>by simp [bq]at h1;omega⟩
 | i+1,hi=>by
  obtain⟨h1,h2⟩:=wH hs bP i (by omega)
  by_cases hp:0<=gi (bq N xss i).1 i
  ·rw [uM hp];exact⟨h1,h2⟩
  ·rw [s9 hp];obtain⟨hg,mN,PA⟩:=qv hs (pt:=(i:Int)) (by omega) (by omega);have hc:=(rK N xss i).1;have Cx:∀x:Int,0<=x->gi (k8 (bq N xss i).1 (bq N xss i).2 (cK N xss i)) x=if x∈cK N xss i then(bq N xss i).2 else gi (bq N xss i).1 x:=fun x hx=>qU _ _ _ (lE N xss i) hg.range x hx
   have CA:(i:Int)∈cK N xss i:=mN.subset (by simp);refine⟨fun x h0 hx=>?_,fun v h0 hv=>?_⟩
   ·rw [Cx x h0];dsimp only
    split
    ·exact .inr ⟨hc,by omega⟩
    ·rcases h1 x h0 hx with h | h
     ·exact .inl h
     ·exact .inr ⟨h.1,by omega⟩
   ·dsimp only at hv|-
    by_cases e:v=(bq N xss i).2
    ·exact⟨i,by omega,by omega,by rw [Cx i (by omega),aF CA,e]⟩
    ·obtain⟨x,wC,Dq,hx⟩:=h2 v h0 (by omega);refine⟨x,wC,Dq,?_⟩;rw [Cx x wC,aB (fun hm=>?_),hx];obtain⟨j,hj,ov⟩:=(s8 hs i (by omega) x wC Dq).1 (by rw [hx];exact h0);have vX:=(PA x).1 hm;exact hp ((s8 hs i (by omega) (i:Int) (by omega) (by omega)).2 ⟨j,hj,ov.trans (Reach.symm hs bP (by omega) (by omega) vX)⟩)
theorem DF{N:Nat}{xss:ag}(hs:Sys N xss)(bP:ml N xss)(x:Int)(h0:0<=x)(h1:x<N):0<=gi (bq N xss N).1 x/\gi (bq N xss N).1 x< (bq N xss N).2:=by
 have:=(s8 hs N (cO _) x h0 h1).2 ⟨x.toNat,by omega,by rw [Int.toNat_of_nonneg h0];exact .refl⟩;rcases(wH hs bP N (cO _)).1 x h0 h1 with h | h
 ·omega
 exact h
def kT(xs:ah):Int:=xs.foldl (fun o x=>if o<=x then x+1 else o) 0
theorem F7(xs:ah)(x:Int):kT (xs++ [x])=if kT xs<=x then x+1 else kT xs:=by
 unfold kT;rw [List.foldl_append]
 rfl
theorem Bi:∀(m:Nat) (xs:ah),xs.length=m->0<=kT xs/\(∀x∈xs,x<kT xs)/\(kT xs=0\/∃x∈xs,kT xs=x+1)
 | 0,xs,h=>by
  obtain rfl:=nZ h;exact⟨by simp [kT],(fun x hx=>by cases hx),.inl rfl⟩
 | m+1,xs,h=>by
  obtain⟨ys,y,rfl⟩:∃ys y,xs=ys++ [y]:=⟨xs.dropLast,xs.getLast (by intro e;rw [e]at h;simp at h),(List.dropLast_concat_getLast _).symm⟩;obtain⟨h1,h2,h3⟩:=Bi m ys (by simpa using h);rw [F7]
  split
  ·refine⟨by omega,fun x hx=>?_,.inr ⟨y,by simp,O⟩⟩;rcases gQ.1 hx with hx | hx
   ·have:=h2 x hx;omega
   ·simp at hx;omega
  ·refine⟨h1,fun x hx=>?_,?_⟩
   ·rcases gQ.1 hx with hx | hx
    ·exact h2 x hx
    ·simp at hx;omega
   ·rcases h3 with h3 | ⟨x,hx,jI⟩
    ·exact .inl h3
    ·exact .inr ⟨x,by simp [hx],jI⟩
theorem Nt{N:Nat}{xss:ag}(hs:Sys N xss)(bP:ml N xss)(hN:0<N):kT (bq N xss N).1=(bq N xss N).2:=by
 have hl:=lE N xss N;obtain⟨h1,h2,h3⟩:=Bi _ (bq N xss N).1 rfl;have cd:∀x∈(bq N xss N).1,0<=x/\x< (bq N xss N).2:=fun x hx=>by
  obtain⟨k,hk,rfl⟩:=fP.1 hx;rw [<-bQ hk];exact DF hs bP k (by omega) (by omega)
 have h0:=DF hs bP 0 (by omega) (by omega);obtain⟨x,wC,Dq,hx⟩:=(wH hs bP N (cO _)).2 ((bq N xss N).2 - 1) (by omega) (by omega);have hm:gi (bq N xss N).1 x∈(bq N xss N).1:=by
  have e:gi (bq N xss N).1 x=(bq N xss N).1[x.toNat]'(by omega):=by simp [gi,bX,dE (show x.toNat< (bq N xss N).1.length by omega)]
  rw [e];exact di _
 have h4:=h2 _ hm;rcases h3 with h3 | ⟨y,hy,rG⟩
 ·omega
 have:=cd y hy;omega
def de(xss:ag)(i:Nat):ah:=(bq (gl xss 0).length (xss.eraseIdx i) (gl xss 0).length).1
def iz(xss:ag)(i:Nat):Int:=(bq (gl xss 0).length (xss.eraseIdx i) (gl xss 0).length).2
theorem Sys.erase{N:Nat}{xss:ag}(h:Sys N xss)(i:Nat):Sys N (xss.eraseIdx i):=fun p hp=>h p (List.mem_of_mem_eraseIdx hp)
theorem ml.erase{N:Nat}{xss:ag}(h:ml N xss)(i:Nat):ml N (xss.eraseIdx i):=fun p hp=>h p (List.mem_of_mem_eraseIdx hp)
theorem xE(xss:ag)(i:Nat):(de xss i).length=(gl xss 0).length:=lE _ _ _
theorem vu(xss:ag)(i:Nat):0<=iz xss i/\iz xss i<=(gl xss 0).length:=rK _ _ _
theorem vw{xss:ag}(h:bN xss)(i:Nat)(f:Nat)(hf:f< (gl xss 0).length):0<=gi (de xss i) f/\gi (de xss i) f<iz xss i:=DF (h.2.2.1.sys.erase i) (h.2.2.1.inj.erase i) f (by omega) (by omega)
theorem MR{xss:ag}(h:bN xss)(i:Nat):kT (de xss i)=iz xss i:=Nt (h.2.2.1.sys.erase i) (h.2.2.1.inj.erase i) (by have:=h.2.1;omega)
theorem bu.erase{w:aa}{A:ai}{n:Nat}{rs:List aH}{xss:ag}(h:bu w A n rs xss){i:Nat}(hi:i<n){A':ai}(hT:eU w A' (n - 1) (rs.eraseIdx i)):bu w A' (n - 1) (rs.eraseIdx i) (xss.eraseIdx i):=by
 have hl:=h.len;have cT:=h.top.1;have er:∀j,j<n - 1->(rs.eraseIdx i).getD j bA=rs.getD (if j<i then j else j+1) bA:=fun j hj=>by
  simp only [bX,List.getElem?_eraseIdx];split<;>rfl
 have ex:∀j,j<n - 1->(xss.eraseIdx i).getD j []=xss.getD (if j<i then j else j+1) []:=fun j hj=>by
  simp only [bX,List.getElem?_eraseIdx];split<;>rfl
 refine⟨hT,by rw [List.length_eraseIdx,aF (by omega),hl],fun j hj=>?_,fun j hj=>?_⟩
 ·rw [er j hj,ex j hj];exact h.row _ (by split<;>omega)
 rw [er j hj];exact h.cap _ (by split<;>omega)
theorem Rf(A:ai)(n c:Nat)(xs:ah)(v:Int)(w:aa)(hR:bS w A n xs)(hn:n<=9223372036854775807):
 aG prog 188 [.slice A n c,aj v] w (fun r w'=> (∃i:Int,r=aj i/\(0<=i↔v∈xs))/\w'=w):=by
 have eW:=hR.1;refine bs func188 O ntmps188 O (bF O) (bH O ?_);refine Cd.loop (α:=Nat) (fun k=> [(0,.slice A n c),(1,aj v),(5,aj k)]) (fun k w'=>w'=w/\k<=n/\∀j,j<k->gi xs (j:Nat)≠v) (fun k=>n - k) 0 (Wn O) ⟨O,bk _,fun j hj=>by omega⟩ ?_;rintro k e w ⟨rfl,hk,hK⟩;refine aY O (aR O O (aA O ?_));refine aJ _ O (fun h3=>?_) (fun h3=>?_)
 ·refine aC O (aw hR.2 O (a6 hR O (aA O ?_)));refine aJ _ O (fun h4=>?_) (fun h4=>?_)
  ·refine bV O (cy (b9 ?_));refine eF O ?_;exact⟨⟨(k:Int),O,⟨fun _=>by rw [<-h4,bQ (by omega)];exact di _,fun _=>by omega⟩⟩,O⟩
  refine aC O (aI O (aM O (tQ ?_)));refine⟨k+1,by show n - (k+1)<n - k;omega,(Wn O),O,by omega,fun j hj=>?_⟩
  by_cases ej:j=k
  ·subst ej;exact h4
  exact hK j (by omega)
 refine bj O (bl (dd O ?_));refine eF O ⟨⟨-1,O,⟨fun h=>absurd h (by decide),fun h=>?_⟩⟩,O⟩;obtain⟨j,hj,CD⟩:=fP.1 h;exact absurd (by rw [bQ hj];exact CD) (hK j (by omega))
theorem uL(A:ai)(n c:Nat)(xs:ah)(v:Int)(w:aa)(hR:bS w A n xs)(hn:n<=9223372036854775807):
 aG prog 117 [.slice A n c,aj v] w (fun r w'=>r= .bool (decide (v∈xs))/\w'=w):=by
 refine bs func117 O ntmps117 O (bF O) (aY O (aO (Rf A n c xs v _ hR hn) O ?_));rintro _ w ⟨⟨i,rfl,hi⟩,rfl⟩;refine bW O (bG O ?_);exact⟨aS Value.bool (gJ.2 hi),O⟩
theorem Ro(A:ai)(n c:Nat)(rs:List aH)(xss:ag)(Ai:ai)(ci:Nat)(i:Nat)(w:aa)(hR:bu w A n rs xss)(hn:n<=1000)(hi:i<n)(hI:bS w Ai 1 [(i:Int)]):
 aG prog 227 [.agg #[.slice A n c],.slice Ai 1 ci] w (fun v w'=>∃A' c',v= .slice A' (n - 1) c'/\St w w' [aQ 24 A' (n - 1) c' (rs.eraseIdx i)]):=by
 have cT:=hR.top.1;have step:∀k (hk:k<n),(rs.take (k+1)).eraseIdx i=if k=i then(rs.take k).eraseIdx i else(rs.take k).eraseIdx i++ [rg rs k]:=fun k hk=>by
  have e:rg rs k=rs[k]'(by omega):=by simp [rg,bX,dE (show k<rs.length by omega)]
  rw [gk (by omega),e]
  by_cases h1:k=i
  ·subst h1;have h2:(rs.take k).length=k:=by rw [kM];omega
   rw [aF rfl,List.eraseIdx_append_of_length_le (by omega),h2,Nat.sub_self,List.eraseIdx_of_length_le (l:=rs.take k) (k:=k) (by omega)];simp
  rw [aB h1]
  by_cases h2:i<k
  ·rw [List.eraseIdx_append_of_lt_length (by simp;omega)]
  rw [List.eraseIdx_of_length_le (l:=rs.take k++_) (by rw [dS,kM,List.length_singleton];omega),List.eraseIdx_of_length_le (l:=rs.take k) (by rw [kM];omega)]
 have hlen:∀k,k<=n->((rs.take k).eraseIdx i).length=if i<k then k - 1 else k:=fun k hk=>by
  rw [List.length_eraseIdx,kM,Nat.min_eq_left (by omega)]
 refine bs func227 O ntmps227 O (bF O) (aY O (gS (St.refl w) O O ?_));intro Ab w1 aD;refine aq O (ic aD O ?_);intro A5 w2 ay;have ay:St w w2 [aQ 24 A5 0 0 [],Bx 37 1 Ab [.slice A n c]]:=ay;refine aA O (Cd.loop (α:=Nat×ai×Nat) (fun z=> [(1,.slice Ai 1 ci),(2,.pointer Ab),(5,.slice z.2.1 ((rs.take z.1).eraseIdx i).length z.2.2),(6,aj (z.1:Int))]) (fun z w'=>St w w' [aQ 24 z.2.1 ((rs.take z.1).eraseIdx i).length z.2.2 ((rs.take z.1).eraseIdx i),Bx 37 1 Ab [.slice A n c]]/\z.1<=n) (fun z=>n - z.1) (0,A5,0) (Wn O) ⟨ay,bk _⟩ ?_);rintro⟨k,A6,c6⟩ e w3 ⟨aL,hk⟩;dsimp only at aL hk|-;have xY:=aL.bE hR;have kZ:=hlen k hk;refine aY O (aT (aL.rd 1 O) O (a7 (aL.rd 1 O) O ?_));refine aR O O (aA O ?_);refine aJ _ O (fun h1=>?_) (fun h1=>?_)
 ·have ax:=step k (by omega);refine aC O (aO (uL Ai 1 ci _ k _ (aL.dh hI) (by omega)) O ?_);rintro _ w3 ⟨rfl,rfl⟩
  first | refine dv rfl rfl ?_ | refine eJ rfl rfl ?_
  refine aA O (aJ _ O (fun h2=>?_) (fun h2=>?_))
  ·rw [aB (fun h=>h2 (by rw [h];simp))]at ax;refine aC O (aT (aL.rd 1 O) O (a7 (aL.rd 1 O) O (aq O (Wf xY.top.2 O O O (by omega) h1 (bn xY.top O (mu aL O O O ?_))))));intro A7 w4 aN;refine iU 1 aN O (aN.dB 0 O) O O O (by rw [kZ];split<;>omega) (by rw [kZ];split<;>omega) O ?_;intro A8 c8 w5 aV;refine aq O (aI O (aM O (tQ ?_)));have e1:((rs.take (k+1)).eraseIdx i).length=((rs.take k).eraseIdx i).length+1:=by rw [ax];simp
   refine⟨(k+1,A8,c8),by show n - (k+1)<n - k;omega,⟨O,O,by show Value.slice _ _ _= .slice _ _ _;rw [e1],O,av⟩,?_,by show k+1<=n;omega⟩;show St w w5 [aQ _ A8 ((rs.take (k+1)).eraseIdx i).length c8 ((rs.take (k+1)).eraseIdx i),_];rw [e1,ax];exact aV.tail
  have h3:=fp.1 h2;simp only [fQ]at h3;rw [aF (by omega)]at ax;refine aC O (aI O (aM O (tQ ?_)));refine⟨(k+1,A6,c6),by show n - (k+1)<n - k;omega,⟨O,O,by show Value.slice _ _ _= .slice _ _ _;rw [ax],O,av⟩,?_,by show k+1<=n;omega⟩;show St w w3 [aQ _ A6 ((rs.take (k+1)).eraseIdx i).length c6 ((rs.take (k+1)).eraseIdx i),_];rw [ax];exact aL
 refine bj O (bl (dd O ?_));refine dH O ?_;have dQ:k=n:=by omega
 subst dQ;rw [eI (by omega)]at aL;have e1:(rs.eraseIdx i).length=k - 1:=by rw [List.length_eraseIdx,aF (by omega),cT]
 rw [eI (by omega),e1];rw [e1]at aL;exact⟨A6,c6,O,aL.sub (List.Sublist.cons_cons _ (List.nil_sublist _))⟩
theorem Jr(c:Int)(x:Int):∀(a L:ah),k8 L c (a++ [x])=(k8 L c a).set x.toNat c
 | [],_=>rfl
 | y::a,L=>Jr c x a (L.set y.toNat c)
theorem Rh(A:ai)(n c:Nat)(rs:List aH)(xss:ag)(N:Nat)(w:aa)(hR:bu w A n rs xss)(hn:n<=1000)(hs:Sys N xss)(hN:N<=1000):
 aG prog 226 [aj N,.slice A n c] w (fun v w'=>∃A' c',v= .slice A' N c'/\St w w' [aE 2 A' N c' (bq N xss N).1]):=by
 refine bs func226 O ntmps226 O (bF O) (aY O (ic (St.refl w) O ?_));intro A5 w1 aD;have aD:St w w1 [aE 2 A5 0 0 (List.replicate 0 (-1))]:=aD;refine aA O (Cd.loop (α:=Nat×ai×Nat) (fun z=> [(0,aj N),(1,.slice A n c),(5,.slice z.2.1 z.1 z.2.2),(6,aj (z.1:Int))]) (fun z w'=>St w w' [aE 2 z.2.1 z.1 z.2.2 (List.replicate z.1 (-1))]/\z.1<=N) (fun z=>N - z.1) (0,A5,0) (Wn O) ⟨aD,bk _⟩ ?_);rintro⟨k,A6,c6⟩ e w2 ⟨ay,hk⟩;dsimp only at ay hk|-;refine bH O (aJ _ O (fun h1=>?_) (fun h1=>?_))
 ·refine aC O (e6 ay O O O ?_);intro A7 w3 aL;refine fS 1 aL O (aL.bU 0 O) O O O (by omega) (by omega) O fun A8 c8 w4 aN=>aq O (aI O (aM O (tQ ?_)));refine⟨(k+1,A8,c8),by show N - (k+1)<N - k;omega,(Wn O),?_,by show k+1<=N;omega⟩;show St w w4 [aE _ A8 (k+1) c8 (List.replicate (k+1) (-1))];rw [List.replicate_succ'];exact aN.tail
 refine bj O (bl (lK O ?_));have lv:k=N:=by omega
 subst lv;refine Cd.loop (α:=Nat) (fun i=> [(0,aj k),(1,.slice A n c),(5,.slice A6 k c6),(7,aj (bq k xss i).2),(8,aj i)]) (fun i w'=>St w w' [aE 2 A6 k c6 (bq k xss i).1]/\i<=k) (fun i=>k - i) 0 (Wn O) ⟨ay,bk _⟩ ?_;rintro i e w3 ⟨aL,hi⟩;have Gt:=aL.bU 0 O;have kz:=rK k xss i;refine bH O (aJ _ O (fun h2=>?_) (fun h2=>?_))
 ·refine aC O (aw Gt.2 O (a6 Gt O (aA O ?_)));refine aJ _ O (fun h3=>?_) (fun h3=>?_)
  ·refine aC O (aI O (aM O (tQ ?_)));refine⟨i+1,by show k - (i+1)<k - i;omega,⟨O,O,O,by show Value.int .i64 _=aj _;rw [uM h3],O,av⟩,by rw [uM h3];exact aL,by omega⟩
  obtain⟨hg,_,_⟩:=qv hs (pt:=(i:Int)) (by omega) (by omega);refine aC O (aO (DB A n c rs xss k i _ (aL.bE hR) (by omega) hs (by omega) (by omega) (by omega)) O ?_);rintro _ w4 ⟨A9,c9,rfl,ax⟩;have aN:=aL.call ax;have C1:(cK k xss i).length<=k:=hg.len;refine aA O (Cd.loop (α:=Nat) (fun m=> [(0,aj k),(1,.slice A n c),(5,.slice A6 k c6),(7,aj (bq k xss i).2),(8,aj i),(9,.slice A9 (cK k xss i).length c9),(10,aj m)]) (fun m w'=>St w w' [aE 2 A9 (cK k xss i).length c9 (cK k xss i),aE 2 A6 k c6 (k8 (bq k xss i).1 (bq k xss i).2 ((cK k xss i).take m))]/\m<=(cK k xss i).length) (fun m=> (cK k xss i).length - m) 0 (Wn O) ⟨aN,bk _⟩ ?_);rintro m e w5 ⟨aV,hm⟩;have GA:=aV.bU 0 O;refine aY O (aR O O (aA O ?_));refine aJ _ O (fun h4=>?_) (fun h4=>?_)
  ·have fj:m< (cK k xss i).length:=by omega
   have HF:=hg.range _ (gi_in fj);refine aC O (aw GA.2 O (a6 GA O (aq O (aw (aV.bU 1 O).2 O (ak.mg 1 aV O O O (by omega) ?_)))));intro w6 bg;refine aq O (aI O (aM O (tQ ?_)));refine⟨m+1,by show _ - (m+1)<_ - m;omega,(Wn O),?_,fj⟩;rw [mh fj,Jr];exact bg
  refine bj O (bl (cn O (aI O (aq O (aI O (aM O (tQ ?_)))))));have yq:m=(cK k xss i).length:=by omega
  subst yq;rw [List.take_length]at aV;refine⟨i+1,by show k - (i+1)<k - i;omega,⟨O,O,O,by show Value.int .i64 _=aj _;rw [s9 h3],O,av⟩,by rw [s9 h3];exact aV.tail,by omega⟩
 refine bj O (bl (dd O ?_));refine dH O ?_;have fK:i=k:=by omega
 subst fK;exact⟨A6,c6,O,aL⟩
theorem Rl(A:ai)(n c:Nat)(xs:ah)(w:aa)(hR:bS w A n xs)(hn:n<=1000000)(hx:∀x∈xs,x<=1000000):
 aG prog 175 [.slice A n c] w (fun v w'=>v=aj (kT xs)/\w'=w):=by
 have eW:=hR.1;refine bs func175 O ntmps175 O (bF O) (bH O ?_);refine Cd.loop (α:=Nat) (fun k=> [(0,.slice A n c),(3,aj (kT (xs.take k))),(4,aj k)]) (fun k w'=>w'=w/\k<=n) (fun k=>n - k) 0 (Wn O) ⟨O,bk _⟩ ?_;rintro k e w ⟨rfl,hk⟩;refine aY O (aR O O (aA O ?_));refine aJ _ O (fun h1=>?_) (fun h1=>?_)
 ·have hg:gi xs k<=1000000:=hx _ (by rw [bQ (by omega)];exact di _);have ax:kT (xs.take (k+1))=if kT (xs.take k)<=gi xs k then gi xs k+1 else kT (xs.take k):=by rw [mh (by omega),F7]
  have hg0:=(Bi _ (xs.take k) O).1;refine aC O (aw hR.2 O (a6 hR O (aA O ?_)));refine aJ _ O (fun h2=>?_) (fun h2=>?_)
  ·rw [aF h2]at ax;refine aC O (aw hR.2 O (a6 hR O ?_));refine aI O (aq O (aI O (aM O (tQ ?_))));exact⟨k+1,by show n - (k+1)<n - k;omega,⟨O,by show Value.int .i64 _=aj _;rw [ax],O,av⟩,O,by omega⟩
  rw [aB h2]at ax;refine aC O (aI O (aM O (tQ ?_)));exact⟨k+1,by show n - (k+1)<n - k;omega,⟨O,by show Value.int .i64 _=aj _;rw [ax],O,av⟩,O,by omega⟩
 refine bj O (bl (dd O ?_));refine eF O ?_;have dQ:k=n:=by omega
 subst dQ;exact⟨by rw [<-eW,List.take_length],O⟩
theorem Rj(A:ai)(n c:Nat)(rs:List aH)(xss:ag)(i:Nat)(w:aa)(hR:bu w A n rs xss)(hM:bN xss)(hi:i<n):
 aG prog 174 [.agg #[.slice A n c],aj i] w (fun v w'=>∃A' c',v= .slice A' (gl xss 0).length c'/\St w w' [aE 2 A' (gl xss 0).length c' (de xss i)]):=by
 have hl:=hR.len;have h1:=hM.1;have h2:=hM.2.1;have hs:=hM.2.2.1.sys;refine bs func174 O ntmps174 O (bF O) (aY O (gS (St.refl w) O O ?_));intro Ab w1 aD;refine aA O ?_;refine cN [.ex (.agg #[.slice (A) (n) (c)]),xI (((gl xss 0).length:Int)),.ex (.agg #[.slice (A) (n) (c)]),xI ((i:Int)),.pr (fun v w'=>∃A1,v= .slice A1 1 1/\bS w' A1 1 [(i:Int)]),.pr (fun v w'=>∃A1 c1,v= .slice A1 (n - 1) c1/\bu w' A1 (n - 1) (rs.eraseIdx i) (xss.eraseIdx i)),.pr (fun v w'=>∃A1 c1,v= .slice A1 (gl xss 0).length c1/\St w w' [aE 2 A1 (gl xss 0).length c1 (de xss i)]),.pr (fun v w'=>∃A1 c1,v= .slice A1 (gl xss 0).length c1/\St w w' [aE 2 A1 (gl xss 0).length c1 (de xss i)])] rfl (lx (lx (lx (lx (cq.2 ⟨Yd.ct (fun v w w' h hb=>by obtain⟨A1,hv,hT⟩:=h;exact⟨A1,hv,hT.ao hb⟩),(cq.2 ⟨Yd.ct (fun v w w' h hb=>by obtain⟨A1,c1,hv,hT⟩:=h;exact⟨A1,c1,hv,hT.ao hb⟩),(cq.2 ⟨Yd.ct (fun v w w' h hb=>by obtain⟨A1,c1,hv,hT⟩:=h;exact⟨A1,c1,hv,hT.ao hb⟩),(cq.2 ⟨Yd.ct (fun v w w' h hb=>by obtain⟨A1,c1,hv,hT⟩:=h;exact⟨A1,c1,hv,hT.ao hb⟩),(fun _ h=>by cases h)⟩)⟩)⟩)⟩))))) ?_ ?_
 ·refine⟨fun _ _ hb _ _=>ak.dz 0 ((aD.rd 0 O).below hb) O O O Az,?_,fun _ _ hb _ _=>ak.dz 0 ((aD.rd 0 O).below hb) O O O Az,Dr O,?_,?_,?_,?_,av⟩
  ·intro e1 w1 hb hp aZ;refine aO (yY A n c rs xss _ ((aD.ao hb).bE hR) (by omega)) O ?_;rintro _ w2 ⟨rfl,ax⟩;refine ak.n ?_;exact ew.dn ax.below (by exact O)
  ·intro e1 w1 hb hp aZ;exact e6 (St.refl _) O O O fun A1 w9 ax=>ak.n (ew.dn ax.below ⟨A1,O,ax.bU 0 O⟩)
  ·intro e1 w1 hb hp aZ;obtain⟨A0,h9,B0⟩:=(hp 4 (by decide) rfl _ _ rfl rfl);refine Wh (Ro A n c rs xss A0 1 i _ ((aD.ao hb).bE hR) (by omega) hi B0) O (by exact aS (fun v=> [Value.agg #[.slice A n c],v]) h9) O ?_;rintro _ w9 ⟨A1,c1,rfl,ax⟩;exact ak.n (ew.dn ax.below ⟨A1,c1,O,(((aD.ao hb).bE hR).ao ax.below).erase hi (ax.dB 0 O)⟩)
  ·intro e1 w1 hb hp aZ;obtain⟨A0,c0,fJ,B0⟩:=(hp 5 (by decide) rfl _ _ rfl rfl);refine Wh (Rh A0 (n - 1) c0 _ _ (gl xss 0).length _ B0 (by omega) (hs.erase i) (by omega)) O (by exact aS (fun v=> [Value.int .i64 ((gl xss 0).length:Int),v]) fJ) O ?_;rintro _ w9 ⟨A1,c1,rfl,ax⟩;exact ak.n (ew.dn ax.below ⟨A1,c1,O,(aD.ao hb).none.call ax⟩)
  intro e1 w1 hb hp aZ;obtain⟨A1,c1,mH,hT⟩:=(hp 6 (by decide) rfl _ _ rfl rfl);refine pE O (by exact mH) O (ak.n ?_);exact ew.dn (Below.refl _ _) ⟨A1,c1,O,hT⟩
 intro u w9 ya hu;obtain⟨A9,c9,h4,hT⟩:=hu 7 _ rfl;refine sd O (dH (by exact h4) ?_);exact⟨A9,c9,O,hT⟩
end
end Go.Proofs.YtagdamiiececaaaGreatDoor.Vc
