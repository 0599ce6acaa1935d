/-
 Lemmas. Conditions: as each states them.
-/
import Derived.Test.YtkccgdhcpplblaaGreatDoorZk
import Derived.Test.YtkccgdhcpplblaaGreatDoorLayf
import Derived.Maps.Keyed
import Derived.DeepKeys4
import Derived.Maps.RangeRun
set_option maxHeartbeats 8000000
namespace Go.Proofs.YtkccgdhcpplblaaGreatDoor.Vc
open Tryz
section
open Go.RowKit Go.Sort
def zV(ss:List aO)(n:Nat)(j:Fin n):ad:=(sv ss j).v
theorem St.V1{w0 w:aa}{ks:List Ck}{i:Nat}{t:ae}{g o n c:Nat}{ss:List aO}{cur:Array ad}[Inhabited (Fin n)](hS:St w0 w ks)(hk:ks[i]?=some (bZ t (some ⟨g,o,Option.none⟩) n c ss))(hh:w.heap[g]?=some (.cells cur t (0,0)))(hg:w0.heap.size<=g)(hs:o+c<=cur.size)(m:Nat)(dk:Array (Fin n))(hd:dk.size=n)(os:Array Obj):
 St w0 (sortWorld (zV ss n) w g o m dk os) (ks.set i (bZ t (some ⟨g,o,Option.none⟩) n c (dk.toList.map fun j:Fin n=>sv ss j.val))):=by
 have xA:n<=c:=(hS.cap i hk).1;have hc9:c<=maxLen:=(hS.cap i hk).2;refine hS.turn hk O O (aaC _) (.qo (xM _) ⟨by simp [hd],xA,hc9,.inr ⟨g,o,_,O,hg,aco _ hh,by simp only [putCells,Array.size_mapIdx];exact hs,fun j hj=>?_⟩⟩);have hj:j<n:=hj;have E4:o+j<cur.size:=by omega
 show(putCells (zV ss n) o dk cur)[o+j]?=((dk.toList.map fun j:Fin n=>sv ss j.val).map aO.v)[j]?;have e:dk[j]! =dk[j]'(by omega):=getElem!_pos dk j (by omega);simp [putCells,E4,hj,hd,zV]
theorem ajb{w0 w:aa}{ks:List Ck}(i:Nat){t:ae}{A:aj}{n c:Nat}{ss:List aO}(hS:St w0 w ks)(hk:ks[i]?=some (bZ t A n c ss))(hn:n<=4000000000000)(xs:Nat->ai)(tn:∀a,a<n->(sv ss a).n<=9223372036854775807)
 (bP:∀(w':aa) (q:List Nat),q.length=n->(∀j∈q,j<n)->St w0 w' (ks.set i (bZ t A n c (q.map (sv ss))))->∀a,a<n->cg w' (sv ss a).a (sv ss a).n (xs a)):
 aK prog 149 [.slice A n c,.func (.func 150) #[] #[]] w (fun v w'=>v= .tuple #[]/\∃q:List Nat,q.Perm (List.range n)/\q.Pairwise (fun a b=>¬LT (xs b) (xs a))/\St w0 w' (ks.set i (bZ t A n c (q.map (sv ss))))):=by
 have hF:bC prog 150:=inferInstance;obtain⟨h1,h2,h3,h4⟩:=hS.pU hk (xM _);have hl:ss.length=n:=by have:(ss.map aO.v).length=n:=h1;simpa using this
 have h2:n<=c:=h2
 by_cases h0:n=0
 ·subst h0;have key:=AnyF.slices_SortFunc_none { Up with } A c (.func (.func 150) #[] #[]) w;refine Calls.mono key fun x w' ⟨hx,hw⟩=> ⟨_,hx,O,[],List.Perm.refl _,List.Pairwise.nil,?_⟩
  subst hw;have e:ss=[]:=qA hl;subst e;rw [show(List.map (sv []) []:List aO)=[] from rfl];have:=(gm.1 hk);rw [show ks.set i (bZ t A 0 c [])=ks from by
   apply List.ext_getElem?;intro j;rw [mI]
   split
   ·rename_i e;subst e;rw [hk];simp [this.1]
   ·rfl]
  exact hS
 have h0:0<n:=by omega
 rcases h4 with⟨_,lJ⟩ | ⟨g,o,cur,hA,hg,hh,hs,hc⟩
 ·have lJ:c=0:=lJ;omega
 have hA:A=some ⟨g,o,none⟩:=hA;have hs:o+c<=cur.size:=hs;have hc:∀j,j<n->cur[o+j]?=(ss.map aO.v)[j]?:=hc;subst hA
 haveI:Inhabited (Fin n):=⟨⟨0,h0⟩⟩
 have fW:g<w.heap.size:=(Array.getElem?_eq_some_iff.1 hh).1;have pv:(Array.ofFn (fun j:Fin n=>j)).size=n:=by simp
 have hH:Holds (zV ss n) w g o (Array.ofFn fun j:Fin n=>j):=fun j hj=>by
  have gX:j<n:=by simpa using hj
  refine⟨?_,by simp [World.frozen?,hh]⟩;have e:(Array.ofFn fun j:Fin n=>j)[j]! =⟨j,gX⟩:=by
   rw [getElem!_pos (Array.ofFn fun j:Fin n=>j) j (by simpa using gX)];simp
  rw [e];simp only [World.cell?,hh];simp only [Option.isSome_none,Bool.false_eq_true,if_false];rw [hc j gX];simp [gX,hl,sv,zV,da]
 obtain⟨fn,jg,oP,Ss⟩:=hF.out;obtain⟨bd,Su⟩:∃c,fn.body=some c:=by
  cases h:fn.body with
  | none=>rw [h]at Ss;cases Ss
  | some c=>exact⟨c,rfl⟩
 have eg:∀args w,(callFunc 150 args).run prog w= .ok (.enter 150 args) w:=enters_of jg oP Su;have hC:CmpLays1 prog 150 #[] (zV ss n) (fun a b:Fin n=>iW (xs a) (xs b)) g o (Array.ofFn fun j:Fin n=>j).size w:=fun m os dk hdk a b=>by
  have oO:dk.size=n:=by rw [hdk,pv]
  have hW:=hS.V1 hk hh hg hs m dk oO os;have hr:=bP _ (dk.toList.map fun j=>j.val) (by simp [oO]) (fun j hj=>by obtain⟨x,_,rfl⟩:=dA.1 hj;exact x.2) (by rw [List.map_map];exact hW);have h5:=WE (sv ss a).a (sv ss a).n (sv ss a).c (xs a) (sv ss b).a (sv ss b).n (sv ss b).c (xs b) _ (hr a a.2) (hr b b.2) (tn a a.2);refine Calls.mono h5 fun x w' ⟨v,hx,hv,aw⟩=>?_
  subst hv;exact⟨hx,0, #[],by rw [aw];simp [World.drewN]⟩
 have hO:SWO (ltOf fun a b:Fin n=>iW (xs a) (xs b)):= {
  irrefl:=fun a=>by simpa [ltOf,LT]using Jy (xs a)
  trans:=fun a b c h h'=>by simp only [ltOf,decide_eq_true_iff]at*;exact LT.trans (a:=xs a) (b:=xs b) (c:=xs c) h h'
  ntrans:=fun a b c h h'=>by simp only [ltOf,decide_eq_false_iff_not]at*;exact WU (a:=xs a) (b:=xs b) (c:=xs c) h h' }
 have key:=Any.slices_SortFunc Up (zV ss n) (fun _=>O) (fun a b:Fin n=>iW (xs a) (xs b)) hO 150 #[] g o c (Array.ofFn fun j:Fin n=>j) w eg hC hH fW (by rw [pv];omega);rw [pv]at key;refine Calls.mono key fun x w' ⟨hx,d',m,os,hp,hso,hw⟩=> ⟨_,hx,O,d'.toList.map (fun j=>j.val),?_,?_,?_⟩
 ·obtain⟨hz,_,E8⟩:=hp;rw [pv]at hz;have e1:d'.extract 0 n=d':=by have:=Array.extract_size (xs:=d');rwa [hz]at this
  have e2:(Array.ofFn fun j:Fin n=>j).extract 0 n=Array.ofFn fun j:Fin n=>j:=by
   have:=Array.extract_size (xs:=Array.ofFn fun j:Fin n=>j)
   rwa [pv]at this
  rw [e1,e2]at E8;have h6:=E8.map (fun j:Fin n=>j.val);have e3:(Array.ofFn fun j:Fin n=>j).toList.map (fun j:Fin n=>j.val)=List.range n:=by
   apply ki
   ·simp
   ·intro j h1 h2;simp
  rw [e3]at h6;exact h6
 ·have hz:=hp.1;rw [pv]at hz;rw [pd,List.pairwise_iff_getElem];intro a b ha hb eB;have yL:a<d'.size:=by simpa using ha
  have vc:b<d'.size:=by simpa using hb
  have h7:=hso a b (aZ _) eB (by omega);simp only [ltOf,decide_eq_false_iff_not,getElem!_pos d' a yL,getElem!_pos d' b vc]at h7;simpa [LT]using h7
 ·subst hw;have hz:=hp.1;rw [pv]at hz;rw [List.map_map];exact hS.V1 hk hh hg hs m d' hz os
end
section
open Go.RowKit
variable{j k i:Nat}{rs':List aO}
def gs(l:List aO)(i:Nat):aO:=l.getD i dO
def SR(κ:aO->Int)(l:List aO)(a b:Nat):Prop:=∀i j,a<=i->i<j->j<b->κ (gs l i)<=κ (gs l j)
structure RP(l l':List aO)(a b:Nat):Prop where
 perm:l'.Perm l
 out:∀i,i<a\/b<=i->gs l' i=gs l i
def swp(l:List aO)(i j:Nat):List aO:=(l.set i (gs l j)).set j (gs l i)
structure vI(κ:aO->Int)(l:List aO)(a i j:Nat):Prop where
 low:a<=j
 high:j<=i
 rest:∀x y,a<=x->x<y->y<=i->x≠j->y≠j->κ (gs l x)<=κ (gs l y)
 own:∀y,j<y->y<=i->κ (gs l j)<=κ (gs l y)
structure uT(l l1:List aO)(s m e:Nat):Prop where
 out:∀i,i<s\/e<=i->gs l1 i=gs l i
 left:∀i,s<=i->i<s+ (e - m)->gs l1 i=gs l (i+ (m - s))
 right:∀i,s+ (e - m)<=i->i<e->gs l1 i=gs l (i - (e - m))
def mW(a m b:Nat):Nat:=if(a+b) / 2<m then(a+b) / 2+m - b else a
def eY(a m b:Nat):Nat:=if(a+b) / 2<m then(a+b) / 2 else m
structure Jv(κ:aO->Int)(l:List aO)(a m b s:Nat):Prop where
 lo:mW a m b<=s
 hi:s<=eY a m b
 left:∀c,mW a m b<=c->c<s->κ (gs l c)<=κ (gs l ((a+b) / 2+m - 1 - c))
 right:∀c,s<=c->c<eY a m b->κ (gs l ((a+b) / 2+m - 1 - c))<κ (gs l c)
structure vM(l c:List aO)(a k:Nat):Prop where
 len:c.length=l.length
 out:∀x,x<a\/k<x->gs c x=gs l x
 uF:∀x,a<=x->x<k->gs c x=gs l (x+1)
 own:gs c k=gs l a
structure vL(l c:List aO)(m k:Nat):Prop where
 len:c.length=l.length
 out:∀x,x<k\/m<x->gs c x=gs l x
 uF:∀x,k<x->x<=m->gs c x=gs l (x - 1)
 own:gs c k=gs l m
def wM(κ:aO->Int)(l:List aO)(n s lo hi:Nat):Prop:=∀k,lo<=k*s->k*s<hi->SR κ l (k*s) (min (k*s+s) n)
theorem ajq{q:List Nat}{n:Nat}(hn:q.Nodup)(hq:∀i∈q,i<n):∃s:List Nat,s.Sublist (List.range n)/\q.Perm s:=by
 refine⟨(List.range n).filter fun i=>decide (i∈q),List.filter_sublist,?_⟩;refine(vJ hn (List.nodup_range.filter _)).2 fun i=>?_
 simp only [gg,il,lg];exact⟨fun h=> ⟨hq i h,h⟩,fun h=>h.2⟩
theorem VG(t2:ae){rs:List aO}{xss:ah}(h:rs.length=xss.length):cK t2 rs xss=(List.range rs.length).map fun i=>ax t2 (rs.getD i dO).a (rs.getD i dO).n (rs.getD i dO).c (xss.getD i []):=by
 apply List.ext_getElem?;intro i
 by_cases hi:i<rs.length
 ·rw [DF h hi];simp [hi]
 rw [mh (by rw [zx h];omega),mh (by simp;omega)]
theorem St.pick{w0 w:aa}{pre:List Ck}{t2:ae}{rs:List aO}{xss:ah}(h:St w0 w (pre++cK t2 rs xss))(hl:rs.length=xss.length){q:List Nat}(hn:q.Nodup)(hq:∀i∈q,i<rs.length):
 St w0 w (pre++cK t2 (q.map fun i=>rs.getD i dO) (q.map fun i=>xss.getD i [])):=by
 obtain⟨s,hs,hp⟩:=ajq hn hq;have e:cK t2 (q.map fun i=>rs.getD i dO) (q.map fun i=>xss.getD i [])=q.map fun i=>ax t2 (rs.getD i dO).a (rs.getD i dO).n (rs.getD i dO).c (xss.getD i []):=by
  rw [VG t2 (by simp)];apply List.ext_getElem?;intro i
  by_cases hi:i<q.length
  ·simp [hi]
  simp [hi]
 rw [e];have h1:=h;rw [VG t2 hl]at h1;have h2:(pre++s.map fun i=>ax t2 (rs.getD i dO).a (rs.getD i dO).n (rs.getD i dO).c (xss.getD i [])).Sublist (pre++ (List.range rs.length).map fun i=>ax t2 (rs.getD i dO).a (rs.getD i dO).n (rs.getD i dO).c (xss.getD i [])):=
  List.Sublist.append_left (hs.map _) _
 exact(h1.sub h2).perm ((List.perm_append_left_iff _).2 (hp.symm.map _))
def Hi(x:ai)(E:ah)(p:ai):ah:=if pJ x p∈E then E else E++ [pJ x p]
def He(sw E:ah)(i:Nat):ah:=sw.foldl (Hi (gl E i)) E
def xc(sw:ah):Nat->Nat->ah->Option (ah)
 | 0,_,_=>none
 | f+1,i,E=>if i<E.length then(if(He sw E i).length<=1000 then xc sw f (i+1) (He sw E i)else none)else some E
theorem Wd{n:Nat}{x p:ai}(hx:Rg n x)(hp:Rg n p):Rg n (pJ x p):=⟨by rw [pJ,fO];exact hx.1,fun y hy=>by
 obtain⟨z,hz,rfl⟩:=dA.1 hy;exact hp.gi (hx.2 z hz).1 (hx.2 z hz).2⟩
def Cf(L:List (ByteArray×Bool))(E:ah):Prop:=∀x,(dL L (ju x)).getD false=decide (x∈E)
theorem Cf.put{L:List (ByteArray×Bool)}{E:ah}(h:Cf L E)(q:ai):Cf (eO L (ju q) true) (E++ [q]):=fun x=>by
 rw [Et]
 by_cases e:q=x
 ·subst e;rw [aB rfl,dM (by simp)]
  rfl
 rw [az (fun k=>e (IG k)),h x];exact kk.2 ⟨fun m=>List.mem_append_left _ m,fun m=> (kj.1 m).resolve_right (fun k=>e (gG.1 k).symm)⟩
abbrev CJ(A:aj)(n c:Nat)(rs:List aO)(E:ah)(g:Nat)(L:List (ByteArray×Bool)):List Ck:=
 bZ 34 A n c rs::fu 145 g (dY Value.string Value.bool L)::cK 2 rs E
theorem KI{w0 w:aa}{A:aj}{n c g:Nat}{rs:List aO}{E:ah}{L:List (ByteArray×Bool)}(h:St w0 w (bZ 34 A n c rs'::fu 145 g (dY Value.string Value.bool L)::cK 2 rs E))(hl:rs.length=E.length)(hj:j<E.length):cg w (rg rs j).a (rg rs j).n (gl E j):=by
 have:=h.bz (j+2) (by rw [List.getElem?_cons_succ,List.getElem?_cons_succ];exact DF hl (by omega));have e:gl E j=E.getD j []:=by simp [gl]
 rw [e];exact this
theorem aaD(n:Nat)(A1:aj)(m c1:Nat)(rv:List aO)(sw E X:ah)(fuel:Nat)(w:aa)(hT:kX w)(hn:n<=1000)(hR:bF w A1 m rv sw)(hm:m<=100)(hsw:GM n sw)(mS:xc sw fuel 0 [mc n]=some E)(hX:SL X)(hXE:∀x,x∈X↔x∈E)(we:E.Nodup):
 aK prog 77 [ak n,.slice A1 m c1] w (fun v w'=>∃A c rs,v= .tuple #[.slice A X.length c,.bool true]/\rs.length=X.length/\St w w' (aL 34 2 A X.length c rs X)):=by
 have l6:=hR.len;refine bA func77 O ntmps77 O (x5 O) (bg O (aQ (TO n _ (by omega)) O ?_));rintro _ w1 ⟨pa,rfl,aI⟩;refine kV aI O O O fun sQ w2 aE=>ar O (BZ aE O ?_);intro g w3 aR;refine ar O (aD (aR.fG 1 O).2 O ?_);refine amt (i:=0) (aR.fG 1 O) O (by decide) O O ?_;have SK:Rg n (mc n):=⟨by simp [mc],fun x hx=>by
  obtain⟨a,ha,rfl⟩:=dA.1 hx;have:=il.1 ha;omega⟩
 have pz:∀x:ai,Rg n x->∀y∈x,-9223372036854775808<=y/\y<=9223372036854775807:=fun x hx y hy=>by have:=hx.2 y hy;omega
 refine aQ (Bm pa n n (mc n) _ (hT.aq aR.below) (aR.bz 2 O) (pz _ SK) (by omega)) O ?_;rintro _ w4 ⟨rfl,aw⟩;have aX:=aR.aq aw.below;refine B3 O Bn 0 (u:=true) (a:=ju (mc n)) (vv:=Value.bool) (L:=[]) aX O O O O ?_;intro w5 aY;have aY:St w w5 (CJ sQ 1 1 [⟨pa,n,n⟩] [mc n] g (eO [] (ju (mc n)) true)):=aY.perm (List.Perm.swap _ _ _);clear aI aE aR aX aw;refine aC O ?_;refine Cd.loop (α:=Nat×Nat×(aj×Nat)×List aO×ah×List (ByteArray×Bool)) (fun z=> [(0,ak n),(1,.slice A1 m c1),(6,.slice z.2.2.1.1 z.2.2.2.2.1.length z.2.2.1.2),(7,.map (some g)),(8,ak (z.2.1:Int))])
  (fun z w'=>xc sw z.1 z.2.1 z.2.2.2.2.1=some E/\z.2.2.2.2.1.length<=1000/\z.2.2.2.1.length=z.2.2.2.2.1.length/\GM n z.2.2.2.2.1/\Cf z.2.2.2.2.2 z.2.2.2.2.1/\St w w' (CJ z.2.2.1.1 z.2.2.2.2.1.length z.2.2.1.2 z.2.2.2.1 z.2.2.2.2.1 g z.2.2.2.2.2)) (fun z=>z.1)
  (fuel,0,(sQ,1),[⟨pa,n,n⟩],[mc n],eO [] (ju (mc n)) true) ⟨rfl,rfl,rfl,rfl,rfl,au⟩ ⟨mS,by show 1<=1000;omega,rfl,fun x hx=>by rw [gG.1 hx];exact SK,(show Cf [] [] from fun x=>rfl).put (mc n),aY⟩ ?_
 clear aY;rintro⟨f,i,⟨A,c⟩,rs,F,L⟩ e w6 ⟨hf,nv,cI,hF,hL,hS⟩;dsimp only at hf nv cI hF hL hS|-;cases f with
 | zero=>cases hf
 | succ f=>
 rw [xc]at hf;refine bg O (bc O O (aC O ?_));refine aM _ O (fun h1=>?_) (fun h1=>?_)
 ·have hi:i<F.length:=by omega
  rw [aB hi]at hf;have Bi:=hF (gl F i) (by rw [b7 hi];exact dQ _);have Hs:He sw F i=(sw.drop 0).foldl (Hi (gl F i)) F:=O;generalize hx:gl F i=x at Bi Hs;generalize hG:He sw F i=G at hf Hs;refine aA O (bc O O (aC O ?_));refine Cd.loop (α:=Nat×(aj×Nat)×List aO×ah×List (ByteArray×Bool)) (fun z=> [(0,ak n),(1,.slice A1 m c1),(6,.slice z.2.1.1 z.2.2.2.1.length z.2.1.2),(7,.map (some g)),(8,ak i),(28,.slice A1 m c1),(29,ak m),(30,ak (z.1:Int))])
   (fun z w'=>z.1<=m/\G=(sw.drop z.1).foldl (Hi x) z.2.2.2.1/\(i<z.2.2.2.1.length/\gl z.2.2.2.1 i=x)/\z.2.2.2.1.length<=1000+z.1/\z.2.2.1.length=z.2.2.2.1.length/\GM n z.2.2.2.1/\Cf z.2.2.2.2 z.2.2.2.1/\St w w' (CJ z.2.1.1 z.2.2.2.1.length z.2.1.2 z.2.2.1 z.2.2.2.1 g z.2.2.2.2)) (fun z=>m - z.1)
   (0,(A,c),rs,F,L) ⟨rfl,rfl,rfl,rfl,rfl,rfl,rfl,rfl,au⟩ ⟨aZ _,Hs,⟨hi,hx⟩,by show F.length<=1000+0;omega,cI,hF,hL,hS⟩ ?_
  clear hS hL cI hF nv hi Hs hx;rintro⟨j,⟨A,c⟩,rs,F,L⟩ e w7 ⟨hj,vZ,⟨hi,hx⟩,nv,cI,hF,hL,hS⟩;dsimp only at hj vZ hi hx nv cI hF hL hS|-;refine bJ O (aM _ O (fun h2=>?_) (fun h2=>?_))
  ·have gX:j<sw.length:=by omega
   have yF:=hS.cT hR;have Ts:=yF.at_ (i:=(j:Int)) (by omega) (by omega);have Tc:=hsw (gl sw j) (by rw [b7 gX];exact dQ _);have hpn:(rg rv j).n=n:=by rw [<-Ts.1];exact Tc.1
   have gf:=KI hS cI hi;have du:(rg rs i).n=n:=by rw [<-gf.1,hx];exact Bi.1
   have hdr:sw.drop j=gl sw j::sw.drop (j+1):=by rw [List.drop_eq_getElem_cons gX,b7 gX]
   rw [hdr,List.foldl_cons]at vZ;refine aA O (aD yF.top.2 O (bW yF.top O (ar O (aD (hS.fG 0 O).2 O (amt (i:=(i:Int)) (hS.fG 0 O) O (by omega) O O (ar O ?_))))));refine amq (We _ _ _ (gl F i) _ _ _ (gl sw j) _ gf Ts (by omega) (fun k hk=>by
    rw [hx];have:=Bi.2 (gi x k) (gi_in (by have:=Bi.1;omega));omega)) rfl rfl rfl ?_
   rintro _ w8 ⟨cn,rfl,aw⟩;rw [du,hx]at aw;rw [du];have y8:=Wd Bi Tc;have b6:=hS.call aw;clear hS aw;have b6:St w w8 (ax 2 cn n n (pJ x (gl sw j))::CJ A F.length c rs F g L):=b6;unfold Hi at vZ;generalize pJ x (gl sw j)=q at vZ y8 b6;refine ar O (aQ (Bm cn n n q _ (hT.aq b6.below) (b6.bz 0 O) (pz _ y8) (by omega)) O ?_);rintro _ w9 ⟨rfl,aw⟩;have bL:=b6.aq aw.below;clear b6 aw;refine ar O (Xj Bn (ju q) (bL.Bz 2 O) O O O ?_);rw [hL q]
   first | refine fv rfl rfl ?_ | refine gA rfl rfl ?_
   refine aC O (aM _ O (fun h3=>?_) (fun h3=>?_))
   ·rw [az h3]at vZ;refine aA O (B3 O Bn 2 (u:=true) (a:=ju q) (vv:=Value.bool) bL O O O O ?_);intro dV bN;refine ar O (kV bN O O O ?_);intro A50 dZ eA;refine lA 2 eA O (eA.fG 0 O) O O O (by omega) (by omega) O ?_;intro Jr J8 fg dG;have dG:St w fg (ax 2 cn n n q::bZ 34 Jr (F.length+1) J8 (rs++ [⟨cn,n,n⟩])::fu 145 g (dY Value.string Value.bool (eO L (ju q) true))::cK 2 rs F):=dG.tail;have e1:(F++ [q]).length=F.length+1:=by simp
    have ic:St w fg (CJ Jr (F++ [q]).length J8 (rs++ [⟨cn,n,n⟩]) (F++ [q]) g (eO L (ju q) true)):=by
     unfold CJ;rw [e1,o9 cI];exact dG.perm (nT (l₁:=[ax 2 cn n n q]))
    refine ar O (aH O (aT O (tQ ?_)));refine⟨(j+1,(Jr,J8),rs++ [⟨cn,n,n⟩],F++ [q],eO L (ju q) true),by show m - (j+1)<m - j;omega,⟨O,O,by show Value.slice _ _ _=Value.slice _ (F++ [q]).length _;rw [e1],O,O,O,O,O,au⟩,by show j+1<=m;omega,vZ,⟨by rw [e1];omega,?_⟩,by show(F++ [q]).length<=1000+ (j+1);omega,by rw [e1,b8,cI];rfl,?_,hL.put q,ic⟩
    ·rw [<-hx,b7 (by rw [e1];omega),b7 hi,List.getElem_append_left hi]
    ·intro y hy;rcases kj.1 hy with hy | hy
     ·exact hF y hy
     ·rw [gG.1 hy];exact y8
   ·have h3:=jb.1 h3;rw [aB h3]at vZ;refine aA O (aH O (aT O (tQ ?_)));exact⟨(j+1,(A,c),rs,F,L),by show m - (j+1)<m - j;omega,(amz O),by show j+1<=m;omega,vZ,⟨hi,hx⟩,by show F.length<=1000+ (j+1);omega,cI,hF,hL,bL.tail⟩
  ·have uh:j=sw.length:=by omega
   rw [uh,List.drop_length]at vZ;obtain rfl:G=F:=vZ;have hlen:G.length<=1000:=qy fun q=>by rw [az q]at hf;cases hf
   rw [aB hlen]at hf;refine bn O (bo (cL O (bc O O (aC O ?_))));refine nP O (by omega) (aA O (aH O (aT O (tQ ?_))));exact⟨(f,i+1,(A,c),rs,G,L),Nat.lt_succ_self _,(amz O),hf,hlen,cI,hF,hL,hS⟩
 ·rw [az (by omega)]at hf;obtain rfl:F=E:=dC hf;have aca:∀a,a<F.length->(sv rs a).n<=9223372036854775807:=fun a ha=>by
   have h:=(KI hS cI ha).1;have h':=(hF (gl F a) (by rw [b7 ha];exact dQ _)).1;show(rg rs a).n<=_;omega
  refine bn O (bo (cL O ?_));refine amq (ajb 0 hS O (by omega) (fun a=>gl F a) aca (fun w' q hq1 Te h a ha=>by
   have h9:St w w' (bZ 34 A F.length c (q.map (sv rs))::fu 145 g (dY Value.string Value.bool L)::cK 2 rs F):=h;exact KI h9 cI ha)) O O O ?_
  rintro _ w7 ⟨rfl,q,hq,hqs,bG⟩;have Bb:q.Nodup:=hq.nodup_iff.2 List.nodup_range;have qi:∀a∈q,a<F.length:=fun a h=>il.1 (hq.mem_iff.1 h)
  have bG:St w w7 ([bZ 34 A F.length c (q.map (sv rs)),fu 145 g (dY Value.string Value.bool L)]++cK 2 rs F):=bG;have b6:=bG.pick cI Bb (fun a h=>by rw [cI];exact qi a h);have LA:(q.map fun a=>F.getD a [])=X:=by
   refine SL.eq ?_ hX fun x=>?_
   ·refine pd.2 ((List.pairwise_iff_getElem.2 fun a b ha hb eB=>?_):q.Pairwise fun a b=>LT (F.getD a []) (F.getD b []));have h1:=List.pairwise_iff_getElem.1 hqs a b ha hb eB;have bU:q[a]≠q[b]:=fun e=>by have:=(List.getElem_inj Bb).1 e;omega
    have ga:q[a]<F.length:=qi _ (dQ _);have gb:q[b]<F.length:=qi _ (dQ _);have e1:F.getD q[a] []=F[q[a]]:=by rw [da,fZ ga];rfl
    have e2:F.getD q[b] []=F[q[b]]:=by rw [da,fZ gb];rfl
    rw [b7 ga,b7 gb]at h1;rw [e1,e2];exact OT h1 (fun e=>bU ((List.getElem_inj we).1 e.symm))
   ·rw [dA,hXE];constructor
    ·rintro⟨a,ha,rfl⟩;rw [da,fZ (qi a ha)];exact dQ _
    ·intro hx;obtain⟨a,ha,rfl⟩:=List.getElem_of_mem hx;exact⟨a,hq.mem_iff.2 (il.2 ha),by rw [da,fZ ha];rfl⟩
  have EK:F.length=X.length:=by rw [<-LA,fO,hq.length_eq,qB]
  rw [LA,EK]at b6;refine bI O (VB O O ?_);rw [EK];exact⟨A,c,q.map (sv rs),O,by rw [<-LA,fO,fO],b6.sub (List.Sublist.cons_cons _ (List.sublist_cons_self _ _))⟩
def sP(n i:Nat):ai:=((mc (n+1)).set i ((i:Int)+1)).set (i+1) (i:Int)
def jJ(n k:Nat):ah:=(List.range k).map (sP n)
theorem Oi(n k:Nat):(jJ n k).length=k:=by simp [jJ]
theorem ajr(n k:Nat):jJ n (k+1)=jJ n k++ [sP n k]:=by simp [jJ,jB]
theorem V7{n:Nat}(h:i<k):gl (jJ n k) i=sP n i:=by
 rw [b7 (by rw [Oi];exact h)];simp [jJ]
theorem V6{n:Nat}(h:i<n):Rg (n+1) (sP n i):=by
 have h0:Rg (n+1) (mc (n+1)):=⟨by simp [mc],fun x hx=>by
  obtain⟨a,ha,rfl⟩:=dA.1 hx;have:=il.1 ha;omega⟩
 exact(h0.set (j:=i) (v:=(i:Int)+1) (by omega) (by omega)).set (by omega) (by omega)
def BG(n:Nat)(X:ah)(i k:Nat):ai:=(List.range k).map fun f:Nat=> ((X.idxOf (pJ (sP n i) (gl X f)):Nat):Int)
def tI(n:Nat)(X:ah)(k:Nat):ah:=(List.range k).map fun i:Nat=>BG n X i X.length
theorem ai4(n:Nat)(X:ah)(i k:Nat):BG n X i (k+1)=BG n X i k++ [((X.idxOf (pJ (sP n i) (gl X k)):Nat):Int)]:=by simp [BG,jB]
theorem VU(n:Nat)(X:ah)(k:Nat):(tI n X k).length=k:=by simp [tI]
theorem ai3(n:Nat)(X:ah)(k:Nat):tI n X (k+1)=tI n X k++ [BG n X k X.length]:=by simp [tI,jB]
def BU(L:List (ByteArray×Int))(X:ah)(k:Nat):Prop:=∀j:Nat,j<k->dL L (ju (gl X j))=some (j:Int)
theorem BU.put{L:List (ByteArray×Int)}{X:ah}(h:BU L X k)(hX:X.Nodup)(hk:k<X.length):BU (eO L (ju (gl X k)) (k:Int)) X (k+1):=fun j hj=>by
 rw [Et]
 by_cases e:j=k
 ·subst e;rw [aB rfl]
 rw [az (fun q=>by
  have q:=IG q;rw [b7 hk,b7 (show j<X.length by omega)]at q;exact e ((List.getElem_inj hX).1 q).symm)]
 exact h j (by omega)
theorem BU.all{L:List (ByteArray×Int)}{X:ah}(h:BU L X X.length){x:ai}(hx:x∈X):dL L (ju x)=some ((X.idxOf x:Nat):Int):=by
 have hl:=List.idxOf_lt_length_of_mem hx;have:=h _ hl
 rwa [b7 hl,List.getElem_idxOf]at this
theorem ahF{α:Type}(b g m q1 q2:α)(X Y:List α):(b::g::q1::q2::m::(X++Y)).Perm (g::q1::q2::m::((X++ [b])++Y)):=by
 classical
 refine jA.2 fun z=>?_
 simp only [lu,jz,kC];omega
structure JL(n:Nat)(E X:ah)(fuel:Nat):Prop where
 n1:n<=90
 run:xc (jJ n n) fuel 0 [mc (n+1)]=some E
 Co:SL X
 mem:∀x,x∈X↔x∈E
 nd:E.Nodup
 zW:X.length<=1000
 rg:GM (n+1) X
 cl:∀i,i<n->∀f,f<X.length->pJ (sP n i) (gl X f)∈X
theorem VV(n:Nat)(E X:ah)(fuel:Nat)(w:aa)(hT:kX w)(dm:JL n E X fuel):aK prog 110 [ak n] w (kA (tI n X n) w):=by
 obtain⟨sB,mS,R1,kL,we,HT,RW,dh⟩:=dm;have hXn:=R1.nodup;have pz:∀x:ai,Rg (n+1) x->∀y∈x,-9223372036854775808<=y/\y<=9223372036854775807:=fun x hx y hy=>by have:=hx.2 y hy;omega
 refine bA func110 O ntmps110 O (qp O O) (bg O (gH (St.refl w) O ?_));intro A2 w1 aI;have aI:St w w1 (aL 34 2 none 0 0 [] (jJ n 0)++ [eC A2 none 0 0]):=aI.nil 34;refine aC O (Cd.loop (α:=Nat×(aj×Nat)×List aO) (fun z=> [(0,ak n),(2,.pointer A2),(3,.slice z.2.1.1 z.1 z.2.1.2),(17,ak n),(18,ak (z.1:Int))]) (fun z w'=>z.1<=n/\z.2.2.length=z.1/\St w w' (aL 34 2 z.2.1.1 z.1 z.2.1.2 z.2.2 (jJ n z.1)++ [eC A2 none 0 0])) (fun z=>n - z.1) (0,(none,0),[]) (amz O) ⟨aZ _,O,aI⟩ ?_);clear aI;rintro⟨i,⟨A3,c3⟩,r3⟩ e w2 ⟨hi,wj,hS⟩;dsimp only at hi wj hS|-;refine bJ O (aM _ O (fun h1=>?_) (fun h1=>?_))
 ·have di:i<n:=by omega
  refine aA O (aH O ?_);refine aQ (TO (n+1) _ (by omega)) O ?_;rintro _ w3 ⟨A5,rfl,aw⟩;have aR:St w w3 (ax 2 A5 (n+1) (n+1) (mc (n+1))::(aL 34 2 A3 i c3 r3 (jJ n i)++ [eC A2 none 0 0])):=hS.call aw;clear hS aw;refine ar O (aH O (ar O (aH O (ar O ?_))));refine aD (aR.bz 0 O).2 O (lC 0 (i:=(i:Int)) aR O O O (by omega) ?_);intro w4 aX;refine aD (aX.bz 0 O).2 O (lC 0 (i:=(i:Int)+1) aX O O O (by omega) ?_);intro w5 aY;have aY:St w w5 (ax 2 A5 (n+1) (n+1) (sP n i)::(aL 34 2 A3 i c3 r3 (jJ n i)++ [eC A2 none 0 0])):=aY;clear aR aX;refine ar O (kV aY O O O ?_);intro A36 w6 bk;refine lA 2 bk O (bk.fG 0 O) O O O (by omega) (by omega) O ?_;intro rF s7 w7 bG;have bG:St w w7 (ax 2 A5 (n+1) (n+1) (sP n i)::bZ 34 rF (i+1) s7 (r3++ [⟨A5,n+1,n+1⟩])::(cK 2 r3 (jJ n i)++ [eC A2 none 0 0])):=bG.tail;refine ar O (aH O (aT O (tQ ?_)));refine⟨(i+1,(rF,s7),r3++ [⟨A5,n+1,n+1⟩]),by show n - (i+1)<n - i;omega,(amz O),di,by show(r3++ [_]).length=i+1;rw [b8,wj];rfl,?_⟩;show St w w7 (aL _ _ rF (i+1) s7 (r3++ [_]) (jJ n (i+1))++_);rw [ajr];unfold aL;rw [o9 (by rw [wj,Oi])];refine bG.perm ?_;rw [List.cons_append,gx];exact(List.Perm.swap _ _ _).trans (List.Perm.cons _ (qD (l₁:=cK 2 r3 (jJ n i))).symm)
 obtain rfl:i=n:=by omega
 have adY:GM (i+1) (jJ i i):=fun p hp=>by
  obtain⟨a,ha,rfl⟩:=dA.1 hp;exact V6 (il.1 ha)
 have Be:=Oi i i;refine bn O (bo (cL O (aH O (ar O ?_))));refine aQ (aaD (i+1) A3 i c3 r3 (jJ i i) E X fuel _ (hT.aq hS.below) (by omega) ((hS.sub (ng _ _)).oz Be) (by omega) adY mS R1 kL we) O ?_;rintro _ w3 ⟨AE,cE,rE,rfl,xF,aw⟩;have aR:=hS.call aw;clear hS aw;refine ar O (BZ aR O ?_);intro g w4 aX;have aX:St w w4 (fu 163 g (dY Value.string (Value.int .i64) [])::(aL 34 2 AE X.length cE rE X++ (aL 34 2 A3 i c3 r3 (jJ i i)++ [eC A2 none 0 0]))):=aX;clear aR;refine ar O (bc O O (aC O ?_));refine Cd.loop (α:=Nat×List (ByteArray×Int)) (fun z=> [(0,ak i),(2,.pointer A2),(3,.slice A3 i c3),(6,.slice AE X.length cE),(8,.map (some g)),(47,.slice AE X.length cE),(48,ak (X.length:Int)),(49,ak (z.1:Int))]) (fun z w'=>z.1<=X.length/\BU z.2 X z.1/\St w w' (fu 163 g (dY Value.string (Value.int .i64) z.2)::(aL 34 2 AE X.length cE rE X++ (aL 34 2 A3 i c3 r3 (jJ i i)++ [eC A2 none 0 0])))) (fun z=>X.length - z.1) (0,[]) (amz O) ⟨aZ _,fun j hj=> (by omega),aX⟩ ?_;clear aX;rintro⟨k,L⟩ e w5 ⟨hk,hL,hS⟩;dsimp only at hk hL hS|-;refine bJ O (aM _ O (fun h2=>?_) (fun h2=>?_))
 ·have eQ:k<X.length:=by omega
  have Lx:bF w5 AE X.length rE X:=(hS.sub ((ng _ _).cons _)).oz O;have TJ:=RW (gl X k) (by rw [b7 eQ];exact dQ _);have js:=Lx.at_ (i:=(k:Int)) (by omega) (by omega);refine aA O (aD Lx.top.2 O (bW Lx.top O (ar O ?_)));refine aQ (Bm _ _ _ (gl X k) _ (hT.aq hS.below) js (pz _ TJ) (by have:=js.1;have:=TJ.1;omega)) O ?_;rintro _ w6 ⟨rfl,aw⟩;have bk:=hS.aq aw.below;refine ar O (B3 O Bn 0 (u:=(k:Int)) (a:=ju (gl X k)) (vv:=Value.int .i64) bk O O O O ?_);intro w7 bG;refine ar O (aH O (aT O (tQ ?_)));exact⟨(k+1,eO L (ju (gl X k)) (k:Int)),by show X.length - (k+1)<X.length - k;omega,(amz O),eQ,hL.put hXn eQ,bG⟩
 obtain rfl:k=X.length:=by omega
 refine bn O (bo (cL O ?_));refine gH hS O ?_;intro cn w6 bk;have bk:St w w6 (eC cn none 0 0::fu 163 g (dY Value.string (Value.int .i64) L)::(aL 34 2 AE X.length cE rE X++ (aL 34 2 A3 i c3 r3 (jJ i i)++ [eC A2 none 0 0]))):=bk;have bk:St w w6 (fu 163 g (dY Value.string (Value.int .i64) L)::eC cn none 0 0::eC A2 none 0 0::(aL 34 2 none 0 0 [] (tI i X 0)++ (aL 34 2 AE X.length cE rE X++aL 34 2 A3 i c3 r3 (jJ i i)))):=((bk.nil 34).perm (by
  classical
  refine jA.2 fun z=>?_
  simp only [show tI i X 0=[] from rfl,aL,cK,bZ,List.map_nil,lu,jz,kC];omega))
 clear hS;refine ar O (bc O O (aC O ?_));refine Cd.loop (α:=Nat×(aj×Nat)×List aO) (fun z=> [(2,.pointer A2),(6,.slice AE X.length cE),(8,.map (some g)),(11,.pointer cn),(59,.slice A3 i c3),(60,ak i),(61,ak (z.1:Int))]) (fun z w'=>z.1<=i/\z.2.2.length=z.1/\St w w' (fu 163 g (dY Value.string (Value.int .i64) L)::eC cn z.2.1.1 z.1 z.2.1.2::eC A2 none 0 0::(aL 34 2 z.2.1.1 z.1 z.2.1.2 z.2.2 (tI i X z.1)++ (aL 34 2 AE X.length cE rE X++aL 34 2 A3 i c3 r3 (jJ i i))))) (fun z=>i - z.1) (0,(none,0),[]) (amz O) ⟨aZ _,O,bk⟩ ?_;clear bk;rintro⟨s,⟨AX,cX⟩,rX⟩ e w7 ⟨hs,qj,hS⟩;dsimp only at hs qj hS|-;refine bJ O (aM _ O (fun h3=>?_) (fun h3=>?_))
 ·have vp:s<i:=by omega
  have HE:bF w7 A3 i r3 (jJ i i):=(hS.sub ((((iQ _ _).trans (iQ _ _)).cons _ |>.cons _).cons _)).oz Be;have dH:=HE.at_ (i:=(s:Int)) (by omega) (by omega);rw [V7 vp]at dH;have zc:=V6 vp;have Iu:(rg r3 s).n=i+1:=by rw [<-dH.1];exact zc.1
  refine aA O (aD HE.top.2 O (bW HE.top O ?_));refine ar O (bc O O (aC O ?_));refine Cd.loop (α:=Nat×(aj×Nat)) (fun z=> [(2,.pointer A2),(6,.slice AE X.length cE),(8,.map (some g)),(11,.pointer cn),(13,.slice (rg r3 s).a (rg r3 s).n (rg r3 s).c),(14,.slice z.2.1 z.1 z.2.2),(59,.slice A3 i c3),(60,ak i),(61,ak s),(65,.slice AE X.length cE),(66,ak (X.length:Int)),(67,ak (z.1:Int))]) (fun z w'=>z.1<=X.length/\St w w' (ax 2 z.2.1 z.1 z.2.2 (BG i X s z.1)::fu 163 g (dY Value.string (Value.int .i64) L)::eC cn AX s cX::eC A2 none 0 0::(aL 34 2 AX s cX rX (tI i X s)++ (aL 34 2 AE X.length cE rE X++aL 34 2 A3 i c3 r3 (jJ i i))))) (fun z=>X.length - z.1) (0,(none,0)) (amz O) ⟨aZ _,hS.nil 2⟩ ?_;clear hS HE dH;rintro⟨f,⟨AM,cM⟩⟩ e w8 ⟨hf,hS⟩;dsimp only at hf hS|-;refine bJ O (aM _ O (fun h4=>?_) (fun h4=>?_))
  ·have iH:f<X.length:=by omega
   have Ly:bF w8 AE X.length rE X:=(hS.sub (((((ng _ _).trans (iQ _ _)).cons _ |>.cons _).cons _).cons _)).oz O;have hW8:bF w8 A3 i r3 (jJ i i):=(hS.sub (((((iQ _ _).trans (iQ _ _)).cons _ |>.cons _).cons _).cons _)).oz Be;have dH:=hW8.at_ (i:=(s:Int)) (by omega) (by omega);rw [V7 vp]at dH;have TI:=RW (gl X f) (by rw [b7 iH];exact dQ _);have sE:=Ly.at_ (i:=(f:Int)) (by omega) (by omega);have hxn:(rg rE f).n=i+1:=by rw [<-sE.1];exact TI.1
   have du:=dh s vp f iH;refine aA O (aD Ly.top.2 O (bW Ly.top O (ar O ?_)));refine amq (We _ _ _ (sP i s) _ _ _ (gl X f) _ dH sE (by omega) (fun k hk=>by
    have:=zc.2 (gi (sP i s) k) (gi_in (by have:=zc.1;omega));omega)) rfl rfl rfl ?_
   rintro _ w9 ⟨WA,rfl,aw⟩;rw [Iu]at aw|-;have y8:=Wd zc TI;have Iv:=aw.bz 0 O;have bL:=hS.aq aw.below;refine aQ (Bm WA (i+1) (i+1) _ _ (hT.aq bL.below) Iv (pz _ y8) (by omega)) O ?_;rintro _ dV ⟨rfl,kN⟩;have bN:=bL.aq kN.below;refine Xm Bn (ju (pJ (sP i s) (gl X f))) (bN.Bz 1 O) O O O ?_;rw [hL.all du];refine eS bN O O O fun A78 dZ eA=>fk 1 eA O (eA.bz 0 O) O O O fun OD PY fg dG=>ar O (aH O (aT O (tQ ?_)));refine⟨(f+1,(OD,PY)),by show X.length - (f+1)<X.length - f;omega,(amz O),iH,?_⟩;show St w fg (ax _ OD (f+1) PY (BG i X s (f+1))::_);rw [ai4];exact dG.tail
  obtain rfl:f=X.length:=by omega
  refine bn O (bo (cL O ?_));refine aU (hS.rd 2 O) O (amv (j:=0) (hS.rd 2 O) O O O O O (ar O (kV hS O O O ?_)));intro Wz dV bN;refine lA 5 bN O (bN.fG 0 O) O O O (by omega) (by omega) O fun AZ cZ dZ eA=>aU (eA.rd 3 O) O (kF 3 (j:=0) eA O O O O O ?_);intro fg dG;have dG:=dG.tail.perm (ahF _ _ _ _ _ _ _);refine ar O (aH O (aT O (tQ ?_)));refine⟨(s+1,(AZ,cZ),rX++ [⟨AM,X.length,cM⟩]),by show i - (s+1)<i - s;omega,(amz O),by show s+1<=i;omega,by show(rX++ [_]).length=s+1;rw [b8,qj];rfl,?_⟩;show St w fg (fu _ g _::eC cn AZ (s+1) cZ::eC A2 none 0 0::(aL 34 2 AZ (s+1) cZ (rX++ [_]) (tI i X (s+1))++ (aL 34 2 AE X.length cE rE X++aL 34 2 A3 i c3 r3 (jJ i i))));rw [ai3];unfold aL;rw [o9 (by rw [qj,VU])];exact dG
 obtain rfl:s=i:=by omega
 refine bn O (bo (cL O ?_));refine ao.dq 0 (hS.rd 1 O) O O O (bO 1 2 hS O O O O O O O ?_);intro w8 b6;refine bI O (ij O (b6.rd 2 O) ?_);have hl:=VU s X s;refine⟨AX,cX,rX,by rw [hl];rfl,by rw [hl];exact qj,?_⟩;rw [hl];exact b6.sub (show List.Sublist _ (_::_::_::_) from(((ng _ _).cons _ |>.cons _).cons _))
end
section
def Jx(N:Nat)(X Y:ah)(t:ai):Prop:=t.length=N/\t.Nodup/\(∀x∈t,0<=x/\x< (N:Int))/\Y.length=X.length/\∀i,i<X.length->∀a,a<N->gi (gl Y i) (gi t a)=gi t (gi (gl X i) a)
instance (N:Nat)(X Y:ah)(t:ai):Decidable (Jx N X Y t):=by unfold Jx;infer_instance
def Yc(N:Nat)(X Y:ah)(b:Int):ai:=(List.range N).map fun x:Nat=>gi (eE N Y b) (((eE N X 0).idxOf (x:Int):Nat):Int)
def Pr(N:Nat)(X:ah):ah:=X.map fun m=>Yc N X X (gi m 0)
def O6(N:Nat)(X:ah):Prop:=(∀t∈Pr N X,Jx N X X t)/\(eE N (Pr N X) 0).length=N
instance (N:Nat)(X:ah):Decidable (O6 N X):=by unfold O6;infer_instance
instance (n:Nat):Decidable (D9 n):=by unfold D9;infer_instance
theorem VW:∀n,n<4->D9 n:=by decide+kernel
def CH(n:Nat):ah:=(xc (jJ n n) 100 0 [mc (n+1)]).getD []
theorem aaj:∀n,n<4->xc (jJ n n) 100 0 [mc (n+1)]=some (CH n):=by decide+kernel
theorem Rc:∀n,n<4->(∀x∈db n,x∈CH n)/\∀x∈CH n,x∈db n:=by decide+kernel
theorem aak:∀n,n<4->(CH n).Nodup:=by decide+kernel
instance decLT(a b:ai):Decidable (LT a b):=by unfold LT;infer_instance
theorem aal:∀n,n<4->(db n).Pairwise LT:=by decide+kernel
theorem aam:∀n,n<4->∀x∈db n,x.length=n+1/\∀y∈x,0<=y/\y< ((n+1:Nat):Int):=by decide+kernel
theorem aan:∀n,n<4->∀i,i<n->∀f,f< (db n).length->pJ (sP n i) (gl (db n) f)∈db n:=by decide+kernel
theorem ai5{n:Nat}(h:n<=3):JL n (CH n) (db n) 100:=⟨by omega,aaj n (by omega),aal n (by omega),fun x=> ⟨(Rc n (by omega)).1 x,(Rc n (by omega)).2 x⟩,aak n (by omega),(VW n (by omega)).2.1,aam n (by omega),aan n (by omega)⟩
end
section
open Go.RowKit
set_option maxRecDepth 100000
theorem VX:D9 4:=by decide+kernel
def CI:ah:=(xc (jJ 4 4) 500 0 [mc 5]).getD []
theorem aae:xc (jJ 4 4) 500 0 [mc 5]=some CI:=by decide+kernel
theorem Rb:(∀x∈db 4,x∈CI)/\∀x∈CI,x∈db 4:=by decide+kernel
theorem aaf:CI.Nodup:=by decide+kernel
theorem aag:(db 4).Pairwise LT:=by decide+kernel
theorem aah:∀x∈db 4,x.length=5/\∀y∈x,0<=y/\y< (5:Int):=by decide+kernel
theorem aai:∀i,i<4->∀f,f< (db 4).length->pJ (sP 4 i) (gl (db 4) f)∈db 4:=by decide+kernel
theorem ai6:JL 4 CI (db 4) 500:=⟨by omega,aae,aag,fun x=> ⟨Rb.1 x,Rb.2 x⟩,aaf,VX.2.1,aah,aai⟩
theorem ai7:tI 3 (db 3) 3=mE 3 3:=by decide+kernel
theorem ai8:tI 4 (db 4) 4=mE 4 4:=by decide+kernel
structure PV where
 s:Int
 v:Int
def gV:List PV->List ad
 | []=> []
 | x::r=> .int .i64 x.s:: .int .i64 x.v::gV r
theorem Ek:∀l:List PV,(gV l).length=2*l.length
 | []=>rfl
 | x::r=>by
  simp only [gV,List.length_cons];rw [Ek r];omega
theorem Kz:∀a b:List PV,gV (a++b)=gV a++gV b
 | [],_=>rfl
 | x::r,b=>by
  simp only [List.cons_append,gV];rw [Kz r b]
theorem QT:∀ {l:List PV} {i:Nat} (h:i<l.length),(gV l)[2*i]?=some (ak l[i].s)/\(gV l)[2*i+1]?=some (ak l[i].v)
 | x::r,0,_=> ⟨rfl,rfl⟩
 | x::r,i+1,h=>by
  have:=QT (l:=r) (i:=i) (by simpa using h);simp only [gV,List.getElem_cons_succ];rw [show 2* (i+1)=2*i+1+1 by omega];simpa using this
theorem Dm(l:List PV):eK (gV l)=false:=by cases l<;>rfl
def jy(t:ae)(A:aj)(k q z:Nat)(cs:List PV):Ck:=⟨A,2*k,min (2* (q+z)) maxLen - 2*z,t,gV cs⟩
def vP(w:aa)(A:aj)(k:Nat)(cs:List PV):Prop:=cs.length=k/\Rd w A (2*k) (fun j=> (gV cs).getD j undef)
theorem vP.below{w w':aa}{A:aj}{k:Nat}{cs:List PV}(h:vP w A k cs)(hb:Below w.heap.size w w'):vP w' A k cs:=⟨h.1,Rd.below h.2 hb⟩
section
variable {w0 w:aa} {ks:List Ck} {i:Nat} {t:ae} {A:aj} {k q z:Nat} {cs:List PV}
theorem St.BA(h:St w0 w ks)(i:Nat)(hk:ks[i]?=some (jy t A k q z cs)):vP w A k cs:=by
 have h1:(gV cs).length=2*k:=(h.pU hk (Dm _)).1;rw [Ek]at h1;exact⟨by omega,h.rd i hk⟩
theorem St.YB(h:St w0 w ks)(i:Nat)(hk:ks[i]?=some (jy t A k q z cs)):k<=q/\2*k<=maxLen:=by
 have h1:2*k<=min (2* (q+z)) maxLen - 2*z:=(h.get hk).cap.1;omega
theorem vP.at_(h:vP w A k cs){j:Nat}(hj:j<k):Rd w (ay A (j*2)) 2 (fun m=> [ak (cs[j]'(by rw [h.1];exact hj)).s,ak (cs[j]'(by rw [h.1];exact hj)).v].getD m undef):=by
 have hl:j<cs.length:=by rw [h.1];exact hj
 have:=(h.2.behind (o:=j*2) (m:=2) (by omega));refine this.congr fun m hm=>?_
 have hg:=QT hl;rcases(show m=0\/m=1 by omega)with rfl | rfl
 ·rw [show j*2+0=2*j by omega,da,hg.1];rfl
 rw [show j*2+1=2*j+1 by omega,da,hg.2];rfl
end
section
variable{t:ae}{z z0 z1:ad}{b q m c':Nat}{A':aj}
variable {P:Program} {N:Nat} {ops:Array Oper} {K:Env->aa->Prop} {rest:List Oper} {e:Env} {w0 w w':aa} {ks:List Ck} {d:Nat} {ty:ae} {pos:String} {af:Array Edge}
theorem JF{el:ae}[bt P t (.slice el)][bq P el z 2 b]{x ix:ag}{A:aj}{n c:Nat}{k:IntKind}{i:Int}{cs:List PV}(hR:vP w A n cs)(hx:ev e x= .slice A n c)(hy:ev e ix= .int k i)(hb:Nat.blt d N=true)(h0:0<=i)(h1:i< (n:Int))(hK:ao P N ops K rest (br e d (.pointer (ay A (i.toNat*2)))) w):
 ao P N ops K (⟨some d,.indexAddr t x ix,ty,pos,af,none⟩::rest) e w:=by
 obtain⟨p,hp,_⟩:=hR.2 i.toNat (by omega);obtain⟨q,rfl⟩:∃q,A=some q:=by cases A with | none=>simp [ay]at hp | some q=>exact⟨q,rfl⟩
 obtain⟨inf,hi,_,hs,_⟩:=bq.get P el;refine .val (w':=w) ?_ hb hK;simp [execOp,Instr.indexAt,hx,hy,asIntOf,run_underlying (bt.out (P:=P) (t:=t)),h0,h1,sizeOf,typeInfo,hi,hs,ay]
theorem OY{el:ae}[bt P t (.slice el)][bq P el z 2 b]{x0:ag}{u0 v0:Int}(hS:St w0 w ks)(h0:ev e x0= .agg #[ak u0,ak v0])(hz:z.cells= #[z0,z1])(hb:Nat.blt d N=true)(hK:∀A w',St w0 w' (jy el A 1 1 0 [⟨u0,v0⟩]::ks)->ao P N ops K rest (br e d (.slice A 1 1)) w'):ao P N ops K (⟨some d,.buildSlice t 1 #[(0,x0)],ty,pos,af,none⟩::rest) e w:=by
 obtain⟨inf,hi,dU,hs,gI⟩:=bq.get P el;refine .val (w':=w.alloc (.cells #[ak u0,ak v0] el)) ?_ hb (hK _ _ (hS.alloc [ak u0,ak v0] el (by simp [maxLen]) O));simp [execOp,Instr.buildSlice,run_underlying (bt.out (P:=P) (t:=t)),sizeOf,typeInfo,zeroValue,hi,hs,dU,hz,Instr.fill,newRow,h0,Cn,jB,Value.cells]
theorem aiL{el:ae}[hU:bt P t (.slice el)][bq P el z 2 b](hz:z.cells= #[z0,z1]){A:aj}{n c:Nat}{cs:List PV}(i:Nat)(hS:St w0 w ks)(hk:ks[i]?=some (jy el A n c q cs)){ds:List PV}(hR:vP w A' m ds)
 (qK:2* (n+m+q)<=maxLen) (oM:(n+m)*b<=140737488355328) (ty:ae):
 ∃A2 c2 q2 w',(Builtin.append_ #[t,t] ty #[.slice A n c,.slice A' m c']).run P w= .ok (.slice A2 (n+m) c2) w'/\q2<=q/\St w0 w' (ks.set i (jy el A2 (n+m) c2 q2 (cs++ds))):=by
 obtain⟨inf,hi,dU,hs,gI⟩:=bq.get P el;have AV:=hS.pU hk (Dm _);have tn:=hS.YB i hk;have dh:=(hS.BA i hk).1;obtain⟨hl,xA,pq,h4⟩:=AV;have xv:=(gm.1 hk).1
 by_cases hm:m=0
 ·subst hm;have pv:ds=[]:=qA hR.1;subst pv;refine⟨A,c,q,w,?_,bs _,?_⟩
  ·cases A' with
   | none=>cases A<;>simp [Builtin.append_,run_underlying hU.out,sizeOf,typeInfo,hi,Builtin.lenOf,Builtin.firstCells,tn.1,storeCells]
   | some a=>
    cases A<;>simp [Builtin.append_,run_underlying hU.out,sizeOf,typeInfo,hi,Builtin.lenOf,Builtin.firstCells,tn.1,storeCells,loadCells,loadCellsFrom]
  ·rw [fj,Nat.add_zero];have:ks.set i (jy el A n c q cs)=ks:=by
    apply List.ext_getElem?;intro j;rw [mI]
    split
    ·rename_i e;subst e;rw [hk]
     try simp [xv]
    ·rfl
   rw [this];exact hS
 ·obtain⟨a,rfl⟩:∃a,A'=some a:=by
   obtain⟨p,hp,_⟩:=hR.2 0 (by omega);cases A' with | none=>simp [ay]at hp | some q'=>exact⟨q',rfl⟩
  have gJ:(gV ds).length=m*2:=by rw [Ek,hR.1];omega
  have tu:∀j v,(gV ds)[j]?=some v->w.cell? (a.add j)=some v:=by
   intro j v hj;have yT:j<2*m:=by have:=(gm.1 hj).1;omega
   obtain⟨p,hp,hc⟩:=hR.2 j yT;simp only [ay,Option.map_some,mJ]at hp;rw [hp,hc];show some ((gV ds).getD j undef)=some v;rw [da,hj]
   rfl
  have uZ:∀u∈gV ds,u.oneCell'=true:=by
   intro u hu;obtain⟨j,hj,rfl⟩:=gF.1 hu;have gen:∀(l:List PV),∀u∈gV l,u.oneCell'=true:=by
    intro l
    induction l with
    | nil=>intro u h;cases h
    | cons x l ih=>
     intro u h;simp only [gV,iP]at h;rcases h with rfl | rfl | h
     ·rfl
     ·rfl
     ·exact ih u h
   exact gen ds _ (dQ hj)
  have ES:(gV cs).length=2*n:=by rw [Ek,dh]
  have fresh:∀(xs:List ad) (c2:Nat),n+m<=c2->xs.length=2*c2->xs.take (2* (n+m))=gV cs++gV ds->eK xs=false->
   St w0 (w.drew.alloc (.cells xs.toArray el)) (ks.set i (jy el (some ⟨w.heap.size,0,none⟩) (n+m) c2 0 (cs++ds))):=by
   intro xs c2 h5 h7 h8 h9;have hA:=hS.drew.Pn xs el (2* (n+m)) (min (2*c2) maxLen) (by omega) (by omega) (by omega) h9;rw [h8,<-Kz]at hA;exact(hA.perm (NO ks i _ _ hk)).tail
  have Ew:((n+m:Nat):Int)<=9223372036854775807:=by simp only [maxLen]at qK;omega
  have aaV:n+m<=maxLen:=by omega
  rcases h4 with⟨hA,h0⟩ | ⟨g,o,cur,hA,hg,hh,lN,hc⟩
  ·have hA:A=none:=hA;subst hA;have h0:min (2* (c+q)) maxLen - 2*q=0:=h0;have lJ:c=0:=by simp only [maxLen]at h0 qK;omega
   have oo:n=0:=by omega
   subst lJ oo;have Fm:cs=[]:=qA dh;subst Fm;have hr:=run_append_nil (P:=P) w t ty el inf z hU.out hi dU a m c' (gV ds) (by rw [gJ,hs]) tu (by omega) (by omega) (by rw [gI];rw [Nat.zero_add]at oM;omega);have xu:=grownCap_ge w m 0 el;have wu:=Wu hz (grownCap w m 0 el - m);refine⟨some ⟨w.heap.size,0,none⟩,grownCap w m 0 el,0,_,?_,aZ _,fresh (gV ds++ (Builtin.zeroCells z.cells (grownCap w m 0 el - m)).toList) (grownCap w m 0 el) (by omega) (by rw [b8,wu,gJ];omega) (by
    rw [vK (by omega),gR (by omega)]
    rfl) (Bl (Dm _) (by intro hn;rw [hn]at gJ;simp at gJ;omega))⟩
   rw [Nat.zero_add,hr]
   congr 3
   apply Array.ext';simp
  ·have hA:A=some ⟨g,o,none⟩:=hA;have hh:w.heap[g]?=some (.cells cur el (0,0)):=hh;have lN:o+ (min (2* (c+q)) maxLen - 2*q)<=cur.size:=lN;have hc:∀j,j<2*n->cur[o+j]?=(gV cs)[j]?:=hc
   by_cases Bc:n+m<=c
   ·have hf:=run_firstCells_some (P:=P) w inf.size m a m c' (gV ds) (by rw [gJ,hs]) tu;have aw:=run_storeCells_at P g (o+2*n) el (gV ds) 0 cur w hh (by rw [gJ];omega) uZ;simp only [Nat.add_zero]at aw;refine⟨some ⟨g,o,none⟩,c,q,w.setRow g (cur.toList.take (o+2*n)++gV ds++cur.toList.drop (o+2*n+ (gV ds).length)).toArray,?_,bs _,hS.turn (k:=jy el A n c q cs) (k':=jy el (some ⟨g,o,none⟩) (n+m) c q (cs++ds)) (g:=g) hk (by simp [Ck.gS,jy,hA]) (by simp [Ck.gS,jy]) ?_ ?_⟩
    ·rw [hA];rw [hs]at hf;simp [Builtin.append_,run_underlying hU.out,sizeOf,typeInfo,hi,hs,Builtin.lenOf,Bc,Addr.add_lit,hf];rw [show n*2=2*n by omega];simp [aw]
    ·exact⟨⟨O,O,O,by simp,fun x _ hx=>setRow_other w g x _ (fun e=>hx (by rw [e]))⟩,bs _⟩
    ·refine .qo (Dm _) ⟨by show(gV (cs++ds)).length=2* (n+m);rw [Ek,b8,dh,hR.1],by show 2* (n+m)<=min (2* (c+q)) maxLen - 2*q;omega,pq,.inr ⟨g,o,_,O,hg,setRow_heap w g cur _ el _ hh,?_,fun j hj=>?_⟩⟩
     ·show o+ (min (2* (c+q)) maxLen - 2*q)<=_;simp;omega
     ·have gX:j<2* (n+m):=hj;show((cur.toList.take (o+2*n)++gV ds++cur.toList.drop (o+2*n+ (gV ds).length)).toArray)[o+j]?=(gV (cs++ds))[j]?;rw [Kz];have ace:cur.toList.length=cur.size:=by simp
      rw [List.getElem?_toArray]
      by_cases nC:j<2*n
      ·rw [gx,lz (by simp;omega),rK,aB (by omega),lz (by omega)];rw [Array.getElem?_toList];exact hc j nC
      ·rw [gx,kD (by simp;omega),lz (by simp;omega),kD (by omega)]
       congr 1
       simp;omega
   ·have holds:∀j v,(gV cs)[j]?=some v->w.cell? ((⟨g,o,none⟩:Addr).add j)=some v:=by
     intro j v hj;have nC:j<2*n:=by have:=(gm.1 hj).1;omega
     rw [zQ];simp only [World.cell?,hh];simpa [hc j nC]using hj
    have hr:=run_append_grow (P:=P) w t ty el inf z hU.out hi dU ⟨g,o,none⟩ n c (gV cs) (by rw [ES,hs];omega) holds a m c' (gV ds) (by rw [gJ,hs]) tu (by omega) Ew (growslice_fits (by omega) (by rw [gI];exact oM));have xu:=grownCap_ge w (n+m) c el;have wu:=Wu hz (grownCap w (n+m) c el - (n+m));refine⟨some ⟨w.heap.size,0,none⟩,grownCap w (n+m) c el,0,_,?_,aZ _,fresh (gV cs++gV ds++ (Builtin.zeroCells z.cells (grownCap w (n+m) c el - (n+m))).toList) (grownCap w (n+m) c el) (by omega) (by rw [b8,b8,wu,gJ,ES];omega) (by
     rw [vK (by rw [b8];omega),gR (by rw [b8];omega)]) (Bl (MX (Dm _) (Dm _)) (by intro hn;have:=aF List.length hn;rw [b8,gJ]at this;simp at this;omega))⟩
    rw [hA,hr]
    congr 3
    apply Array.ext';simp
theorem OW{el:ae}[hU:bt P t (.slice el)][bq P el z 2 b]{x y:ag}(i:Nat){A:aj}{n c:Nat}{cs:List PV}{ds:List PV}(hS:St w0 w ks)(hk:ks[i]?=some (jy el A n c q cs))(hR:vP w A' m ds)(hx:ev e x= .slice A n c)(hy:ev e y= .slice A' m c')(hz:z.cells= #[z0,z1])(qK:n+m+q<=4611686018427387903)(oM:(n+m)*b<=140737488355328)(hb:Nat.blt d N=true)(hK:∀A2 c2 q2 w',q2<=q->St w0 w' (ks.set i (jy el A2 (n+m) c2 q2 (cs++ds)))->ao P N ops K rest (br e d (.slice A2 (n+m) c2)) w'):
 ao P N ops K (⟨some d,.call ⟨.builtin .append, #[x,y], #[t,t]⟩,ty,pos,af,none⟩::rest) e w:=by
 obtain⟨A2,c2,q2,w',hr,Te,km⟩:=aiL (P:=P) (t:=t) hz i hS hk hR (by simp only [maxLen];omega) oM ty (c':=c');refine .val (w':=w') ?_ hb (hK _ _ _ _ Te km);simp [execOp,resolve,invoke,builtin,hx,hy,hr]
end
section
variable {P:Program} {N:Nat} {ops:Array Oper} {K:Env->aa->Prop} {rest:List Oper} {e:Env} {w0 w w':aa} {ks:List Ck} {d:Nat} {ty:ae} {pos:String} {af:Array Edge}
theorem tS{t el:ae}{l:Nat}{z:ad}{b:Nat}[bt P t (.array l el)][bq P el z 1 b]{x ix:ag}{A:aj}{n o:Nat}{k:IntKind}{i:Int}{f:Nat->ad}(hR:Rd w A n f)(ho:o<n)(hx:ev e x= .pointer (ay A o))(hy:ev e ix= .int k i)(hb:Nat.blt d N=true)(h0:0<=i)(h1:i< (l:Int))(hK:ao P N ops K rest (br e d (.pointer (ay A (o+i.toNat)))) w):
 ao P N ops K (⟨some d,.indexAddr t x ix,ty,pos,af,none⟩::rest) e w:=by
 obtain⟨p,hp,_⟩:=hR o ho;obtain⟨inf,hi,_,hs,_⟩:=bq.get P el;have hq:ay A (o+i.toNat)=some (p.add i.toNat):=by
  rw [<-NR,hp];rfl
 rw [hq]at hK;rw [hp]at hx;refine .val (w':=w) ?_ hb hK;simp [execOp,Instr.indexAt,hx,hy,asIntOf,Instr.sureAddr,run_underlying (bt.out (P:=P) (t:=t)),h0,h1,sizeOf,typeInfo,hi,hs]
theorem JB{t el:ae}{z0 z1 y:ad}{b b':Nat}[bt P t (.array 2 el)][bq P t (.agg #[z0,z1]) 2 b](hI:bq P el y 1 b'){x0 x1:ag}{v0 v1:ad}(h0:ev e x0=v0)(h1:ev e x1=v1)(c0:v0.oneCell'=true)(c1:v1.oneCell'=true)(hb:Nat.blt d N=true)(hK:ao P N ops K rest (br e d (.agg #[v0,v1])) w):ao P N ops K (⟨some d,.build t #[(0,x0),(1,x1)],ty,pos,af,none⟩::rest) e w:=by
 obtain⟨inf,hi,dU,hs,gI⟩:=bq.get P t;obtain⟨Dl,eY,aek,pB,ab5⟩:=hI.get P el;have e0:v0.cells= #[v0]:=by cases v0<;>simp [Value.oneCell']at c0<;>rfl
 have e1:v1.cells= #[v1]:=by cases v1<;>simp [Value.oneCell']at c1<;>rfl
 have ez:(Value.agg #[z0,z1]).cells= #[z0,z1]:=O;refine .val (w':=w) ?_ hb hK;simp [execOp,Instr.build,run_underlying (bt.out (P:=P) (t:=t)),sizeOf,typeInfo,zeroValue,hi,dU,eY,pB,h0,h1,e0,e1,ez,Instr.fill]
end
end
section
def sZ{α:Type}(G:Nat->ai->List α):Nat->ah->List α
 | _,[]=> []
 | f,p::r=>G f p++sZ G (f+p.length) r
theorem Ch{α:Type}(G:Nat->ai->List α):∀(ps:ah) (f j:Nat) (h:j<ps.length),sZ G f (ps.take (j+1))=sZ G f (ps.take j)++G (f+ (ps.take j).flatten.length) (ps[j])
 | [],_,_,h=>absurd h (sX _)
 | p::r,f,0,_=>by simp [sZ]
 | p::r,f,j+1,h=>by
  have ih:=Ch G r (f+p.length) j (Nat.lt_of_succ_lt_succ h);simp only [List.take_succ_cons,sZ,gx,List.flatten_cons,b8,List.getElem_cons_succ];rw [ih,Nat.add_assoc]
theorem Cg{α:Type}{G:Nat->ai->List α}{k:Nat}(hG:∀f p,(G f p).length=k*p.length):∀(ps:ah) (f:Nat),(sZ G f ps).length=k*ps.flatten.length
 | [],_=>by simp [sZ]
 | p::r,f=>by
  simp only [sZ,b8,List.flatten_cons,Cg hG r,hG,Nat.mul_add]
theorem QX(ps:ah)(j:Nat)(h:j<ps.length):(ps.take (j+1)).flatten=(ps.take j).flatten++ps[j]:=by
 rw [lV h,List.flatten_append];simp
def eU(a b:Nat->Int)(k:Nat):ai:=(List.range k).flatMap fun i=> [a i,b i]
theorem Jm(a b:Nat->Int)(k:Nat):(eU a b k).length=2*k:=by
 induction k with
 | zero=>rfl
 | succ k ih=>unfold eU at ih|-;rw [List.range_succ,List.flatMap_append,List.length_append,ih];simp;omega
theorem Jn(a b:Nat->Int)(k:Nat):eU a b (k+1)=eU a b k++ [a k,b k]:=by
 unfold eU;rw [List.range_succ,List.flatMap_append];simp
def Jj(f k i:Nat):PV:=⟨2* ((f:Int)+ (i:Int)),2* ((f:Int)+ ((i:Int)+1)% (k:Int))+1⟩
def VP(f:Nat)(p:ai):List PV:=(List.range p.length).map fun i=>Jj f p.length i
def rz:Nat->ah->List PV:=sZ VP
def zy(V:ai)(s:PV):Int×Int:=if gi V (s.v / 2)<gi V (s.s / 2)then(gi V (s.v / 2),gi V (s.s / 2))else(gi V (s.s / 2),gi V (s.v / 2))
def FT(V:ai)(s:PV):PV:=if gi V (s.v / 2)<gi V (s.s / 2)then⟨s.v,s.s⟩else s
def s6(V:ai):List PV->List ((Int×Int)×List PV)->List ((Int×Int)×List PV)
 | [],L=>L
 | s::r,L=>s6 V r (eO L (zy V s) ((dL L (zy V s)).getD []++ [FT V s]))
def sG:List PV->ai->ai
 | [],M=>M
 | s::r,M=>sG r ((M.set s.s.toNat s.v).set s.v.toNat s.s)
def jI(p:ai)(i:Nat):Int:=gi p i
def rn(p:ai)(i:Nat):Int:=gi p (((i:Int)+1)% (p.length:Int))
def rq(p:ai)(i:Nat):Int:=gi p (((i:Int)+ (p.length:Int) - 1)% (p.length:Int))
def rC(f:Nat)(p:ai)(i:Nat):Int:=2* ((f:Int)+ ((i:Int)+1)% (p.length:Int))+1
def rD(f:Nat)(p:ai)(i:Nat):Int:=2* ((f:Int)+ ((i:Int)+ (p.length:Int) - 1)% (p.length:Int))
def rh(f:Nat)(i:Nat):Int:=2* ((f:Int)+ (i:Int))+1
def rm(f:Nat)(i:Nat):Int:=2* ((f:Int)+ (i:Int))
def kz(ps:ah):ai:=sZ (fun _ p=>eU (jI p) (jI p) p.length) 0 ps
def ky(ps:ah):ai:=sZ (fun _ p=>eU (rn p) (rq p) p.length) 0 ps
def kf(ps:ah):ai:=sZ (fun f p=>eU (rC f p) (rD f p) p.length) 0 ps
def ku(ps:ah):ai:=sZ (fun f p=>eU (rh f) (rm f) p.length) 0 ps
theorem ahj(ps:ah):(kz ps).length=2*ps.flatten.length:=Cg (fun _ _=>Jm _ _ _) ps 0
theorem ahh(ps:ah):(ky ps).length=2*ps.flatten.length:=Cg (fun _ _=>Jm _ _ _) ps 0
theorem akm(ps:ah):(kf ps).length=2*ps.flatten.length:=Cg (fun _ _=>Jm _ _ _) ps 0
theorem ahe(ps:ah):(ku ps).length=2*ps.flatten.length:=Cg (fun _ _=>Jm _ _ _) ps 0
def Ep(own I0:ai)(f:Nat):ai:=((List.range own.length).filter fun g=>decide (g≠f) && (decide (gi own g=gi own f) && decide (gi I0 g=gi I0 f))).map fun g:Nat=> (g:Int)
def oB(own I0:ai):ai:=(List.range own.length).map fun f=>gi (Ep own I0 f) 0
def mapM(ps:ah):ah:=[kf ps,ku ps,oB (kz ps) (ky ps)]
structure BS(ps:ah):Prop where
 small:ps.flatten.length<=10000
 zW:ps.length<=100/\∀p∈ps,1<=p.length/\p.length<=100
 bd:∀s∈rz 0 ps,((0<=s.s/\s.s<2*ps.flatten.length)/\(0<=s.v/\s.v<2*ps.flatten.length))
 zero:sG (rz 0 ps) (List.replicate (2*ps.flatten.length) 0)=kf ps
 pair:∀p∈s6 ps.flatten (rz 0 ps) [],p.2.length=2
 put:∀p∈s6 ps.flatten (rz 0 ps) [],∀a∈p.2.head?,∀b∈p.2.tail.head?,(gi (oB (kz ps) (ky ps)) a.s=b.s/\gi (oB (kz ps) (ky ps)) b.s=a.s)/\gi (oB (kz ps) (ky ps)) a.v=b.v/\gi (oB (kz ps) (ky ps)) b.v=a.v
 all:∀f∈List.range (2*ps.flatten.length),∃p∈s6 ps.flatten (rz 0 ps) [],∃a∈p.2,a.s=(f:Int)\/a.v=(f:Int)
 one:∀f∈List.range (2*ps.flatten.length),(Ep (kz ps) (ky ps) f).length=1
 len:(oB (kz ps) (ky ps)).length=2*ps.flatten.length
def qc:ah:=[[0,1,2,3],[0,1,3,2],[0,2,1,3]]
def qd:ah:=[[0,1,2],[0,2,3],[0,3,4],[0,4,5],[0,5,1],[1,2,4],[2,3,5],[3,4,1],[4,5,2],[5,1,3]]
def ql:ah:=[[0,1,2],[0,2,3],[0,3,4],[0,4,5],[0,5,1],[1,2,6],[2,3,7],[3,4,8],[4,5,9],[5,1,10],[2,6,7],[3,7,8],[4,8,9],[5,9,10],[1,10,6],[11,6,7],[11,7,8],[11,8,9],[11,9,10],[11,10,6]]
def mD:ah:=(List.range 7).flatMap fun i:Nat=> [[(i:Int),(((i+1)%7:Nat):Int),(((i+3)%7:Nat):Int)],[(i:Int),(((i+3)%7:Nat):Int),(((i+2)%7:Nat):Int)]]
set_option maxRecDepth 100000
theorem Sp:BS qc:=⟨by decide+kernel,by decide+kernel,by decide+kernel,by decide+kernel,by decide+kernel,by decide+kernel,by decide+kernel,by decide+kernel,by decide+kernel⟩
theorem Sq:BS qd:=⟨by decide+kernel,by decide+kernel,by decide+kernel,by decide+kernel,by decide+kernel,by decide+kernel,by decide+kernel,by decide+kernel,by decide+kernel⟩
theorem VT:BS mD:=⟨by decide+kernel,by decide+kernel,by decide+kernel,by decide+kernel,by decide+kernel,by decide+kernel,by decide+kernel,by decide+kernel,by decide+kernel⟩
theorem TN:BS ql:=⟨by decide+kernel,by decide+kernel,by decide+kernel,by decide+kernel,by decide+kernel,by decide+kernel,by decide+kernel,by decide+kernel,by decide+kernel⟩
end
section
open Go.RowKit
variable{ps:ah}{j:Nat}{Ow T:ai}
def bp(ps:ah)(j:Nat):Nat:=(ps.take j).flatten.length
theorem PE(h:j<ps.length):bp ps (j+1)=bp ps j+ (gl ps j).length:=by
 unfold bp;rw [QX ps j h,b8,b7 h]
theorem PD(ps:ah)(j:Nat):bp ps j<=ps.flatten.length:=by
 unfold bp;have h:=aF (fun l:ah=>l.flatten.length) (List.take_append_drop j ps);simp only [List.flatten_append,b8]at h;omega
theorem ahk(h:j<ps.length):kz (ps.take (j+1))=kz (ps.take j)++eU (jI (gl ps j)) (jI (gl ps j)) (gl ps j).length:=by
 rw [b7 h];exact Ch _ ps 0 j h
theorem ahi(h:j<ps.length):ky (ps.take (j+1))=ky (ps.take j)++eU (rn (gl ps j)) (rq (gl ps j)) (gl ps j).length:=by
 rw [b7 h];exact Ch _ ps 0 j h
theorem akn(h:j<ps.length):kf (ps.take (j+1))=kf (ps.take j)++eU (rC (bp ps j) (gl ps j)) (rD (bp ps j) (gl ps j)) (gl ps j).length:=by
 rw [b7 h];exact(Ch _ ps 0 j h).trans (by rw [Nat.zero_add];rfl)
theorem ahf(h:j<ps.length):ku (ps.take (j+1))=ku (ps.take j)++eU (rh (bp ps j)) (rm (bp ps j)) (gl ps j).length:=by
 rw [b7 h];exact(Ch _ ps 0 j h).trans (by rw [Nat.zero_add];rfl)
def tf(Ow T:ai)(f g:Nat):ai:=((List.range g).filter fun g=>decide (g≠f) && (decide (gi Ow g=gi Ow f) && decide (gi T g=gi T f))).map fun g:Nat=> (g:Int)
theorem Z1(Ow T:ai)(f g:Nat):(tf Ow T f g).length<=g:=by
 unfold tf;rw [fO];exact nU (rL _ _) (by rw [qB];exact bs _)
theorem Z2{f g:Nat}(h:g≠f/\gi Ow g=gi Ow f/\gi T g=gi T f):tf Ow T f (g+1)=tf Ow T f g++ [(g:Int)]:=by
 unfold tf;rw [jB,rJ,iD]
 congr 1
 simp [h.1,h.2.1,h.2.2]
theorem KF{f g:Nat}(h:¬(g≠f/\gi Ow g=gi Ow f/\gi T g=gi T f)):tf Ow T f (g+1)=tf Ow T f g:=by
 unfold tf;rw [jB,rJ,iD];have e:List.filter (fun g=>decide (g≠f) && (decide (gi Ow g=gi Ow f) && decide (gi T g=gi T f))) [g]=[]:=by
  rw [List.filter_eq_nil_iff];intro a ha hc;rw [gG]at ha;subst ha;simp only [Bool.and_eq_true,lg]at hc;exact h hc
 rw [e,List.map_nil,fj]
structure Xv(w0:aa)(A2 jk qw:aj)(rM:List aO)(M:ah)(bM:Bool)(S:Nat->Bool)(e:Env)(w:aa):Prop where
 f20:e 20= .pointer jk
 f2:e 2= .pointer A2
 p0:S 0=true->e 158= .agg #[.slice qw 3 3]
 p1:S 1=true->e 159= .agg #[.slice qw 3 3]
 p2:S 2=true->e 160= .bool bM
 p4:S 4=true->e 3= .bool bM
 mem:∃B2:ad,(S 3=true->B2= .slice qw 3 3)/\St w0 w (Bx 24 1 jk [.slice qw 3 3]::Bx 24 1 A2 [B2]::aL 34 2 qw 3 3 rM M)
theorem ajD{f:Nat}(h:f<Ow.length):(oB Ow T).take (f+1)=(oB Ow T).take f++ [gi (Ep Ow T f) 0]:=by
 unfold oB;rw [lV (by simpa using h)];simp
theorem St.ahG{w0 w:aa}{b r Gv a4 a5 a6 a7 b2:Ck}(h:St w0 w [b,r,Gv,a4,a5,a6,a7,b2]):St w0 w [b,b2,r,a6,a7,Gv]:=by
 have h1:[b,r,Gv,a6,a7,b2].Sublist [b,r,Gv,a4,a5,a6,a7,b2]:=((((kU _).cons _).cons _).cons_cons _).cons_cons _ |>.cons_cons _
 refine(h.sub h1).perm ?_
 classical
 refine jA.2 fun z=>?_
 simp only [jz,kC];omega
structure M4 where
 a4:aj
 c4:Nat
 a5:aj
 c5:Nat
 a6:aj
 c6:Nat
 a7:aj
 c7:Nat
def M4.oG(x:M4)(m4 m5 m6 m7:Nat)(L4 L5 L6 L7:ai)(A2:aj):List Ck:=ax 2 x.a4 m4 x.c4 L4::ax 2 x.a5 m5 x.c5 L5::ax 2 x.a6 m6 x.c6 L6::ax 2 x.a7 m7 x.c7 L7::[Bx 24 1 A2 [.slice none 0 0]]
theorem ahA{α:Type}(a b c d e:α):[a,b,c,d,e].Perm [d,c,b,a,e]:=by
 classical
 refine jA.2 fun z=>?_
 simp only [jz,kC];omega
theorem IM(A:aj)(n c:Nat)(rs:List aO)(ps:ah)(w:aa)(hR:bF w A n rs ps)(dm:BS ps):
 aK prog 106 [.slice A n c] w (fun v w'=>∃(A':aj) (c':Nat) (rs':List aO),v= .tuple #[.agg #[.slice A' 3 c'],.bool (decide (cN (mapM ps)))]/\rs'.length=3/\St w w' (aL 34 2 A' 3 c' rs' (mapM ps))):=by
 have vn:=hR.len;have HT:=dm.zW;have hF:ps.flatten.length<=10000:=dm.small;refine bA func106 O ntmps106 O (tD O O) (bg O (gH (St.refl w) O ?_));intro A2 w1 hS;refine ar O (jn hS O ?_);clear hS;intro dW w2 hS;refine jn hS O ?_;clear hS;intro fh w3 hS;refine jn hS O ?_;clear hS;intro OA w4 hS;refine jn hS O ?_;clear hS;intro BJ w5 hS;have hS:St w w5 (M4.oG ⟨dW,0,fh,0,OA,0,BJ,0⟩ 0 0 0 0 [] [] [] [] A2):=hS.perm (ahA _ _ _ _ _);refine aC O (Cd.loop (α:=Nat×M4) (fun z=> [(0,.slice A n c),(2,.pointer A2),(3,.bool false),(4,.slice z.2.a4 (2*bp ps z.1) z.2.c4),(5,.slice z.2.a5 (2*bp ps z.1) z.2.c5),(6,.slice z.2.a6 (2*bp ps z.1) z.2.c6),(7,.slice z.2.a7 (2*bp ps z.1) z.2.c7),(8,ak (bp ps z.1:Int)),(9,ak (z.1:Int))]) (fun z w'=>z.1<=n/\St w w' (z.2.oG (2*bp ps z.1) (2*bp ps z.1) (2*bp ps z.1) (2*bp ps z.1) (kz (ps.take z.1)) (ky (ps.take z.1)) (kf (ps.take z.1)) (ku (ps.take z.1)) A2)) (fun z=>n - z.1) (0,⟨dW,0,fh,0,OA,0,BJ,0⟩) (amz O) ⟨aZ _,hS⟩ ?_);clear hS;rintro⟨j,x⟩ ev w6 ⟨hj,hS⟩;dsimp only at hj hS|-;refine bg O (bc O O (aC O ?_));refine aM _ O (fun h1=>?_) (fun h1=>?_)
 ·have nC:j<n:=by omega
  have je:=hS.cT hR;have Tq:=je.at_ (i:=(j:Int)) (by omega) (by omega);have iM:=Tq.1;have jG:(gl ps j).length<=100:=(HT.2 _ (by rw [b7 (by omega)];exact dQ _)).2;have su:=PE (ps:=ps) (j:=j) (by omega);have mP:=PD ps (j+1);refine aA O (aD je.top.2 O (bW je.top O ?_));refine ar O (bc O O (aC O ?_));refine Cd.loop (α:=Nat×M4) (fun z=> [(0,.slice A n c),(2,.pointer A2),(3,.bool false),(4,.slice z.2.a4 (2* (bp ps j+z.1)) z.2.c4),(5,.slice z.2.a5 (2* (bp ps j+z.1)) z.2.c5),(6,.slice z.2.a6 (2* (bp ps j+z.1)) z.2.c6),(7,.slice z.2.a7 (2* (bp ps j+z.1)) z.2.c7),(8,ak (bp ps j:Int)),(9,ak j),(10,.slice (rg rs j).a (rg rs j).n (rg rs j).c),(11,ak ((rg rs j).n:Int)),(12,ak (z.1:Int))]) (fun z w'=>z.1<=(gl ps j).length/\St w w' (z.2.oG (2* (bp ps j+z.1)) (2* (bp ps j+z.1)) (2* (bp ps j+z.1)) (2* (bp ps j+z.1)) (kz (ps.take j)++eU (jI (gl ps j)) (jI (gl ps j)) z.1) (ky (ps.take j)++eU (rn (gl ps j)) (rq (gl ps j)) z.1) (kf (ps.take j)++eU (rC (bp ps j) (gl ps j)) (rD (bp ps j) (gl ps j)) z.1) (ku (ps.take j)++eU (rh (bp ps j)) (rm (bp ps j)) z.1) A2)) (fun z=> (gl ps j).length - z.1) (0,x) (amz O) ⟨aZ _,by
   show St w w6 (x.oG (2*bp ps j) (2*bp ps j) (2*bp ps j) (2*bp ps j) (kz (ps.take j)++ []) (ky (ps.take j)++ []) (kf (ps.take j)++ []) (ku (ps.take j)++ []) A2);simpa only [fj]using hS⟩ ?_
  clear hS je Tq;rintro⟨i,x⟩ ev w7 ⟨hi,hS⟩;dsimp only at hi hS|-;have yF:=hS.cT hR;have bP:=yF.at_ (i:=(j:Int)) (by omega) (by omega);refine bJ O (aM _ O (fun h2=>?_) (fun h2=>?_))
  ·have mQ:i< (gl ps j).length:=by omega
   have AK:0<=((i:Int)+1)% ((gl ps j).length:Int)/\((i:Int)+1)% ((gl ps j).length:Int)< ((gl ps j).length:Int):=⟨Int.emod_nonneg _ (by omega),Int.emod_lt_of_pos _ (by omega)⟩;have tt:0<=((i:Int)+ ((gl ps j).length:Int) - 1)% ((gl ps j).length:Int)/\((i:Int)+ ((gl ps j).length:Int) - 1)% ((gl ps j).length:Int)< ((gl ps j).length:Int):=⟨Int.emod_nonneg _ (by omega),Int.emod_lt_of_pos _ (by omega)⟩;refine dw O ?_;refine eo [xI ((bp ps j:Int)),xI ((i:Int)),xI (((bp ps j:Int))+ ((i:Int))),xI ((i:Int)),xI (((i:Int))+ ((1:Int))),xI (((rg rs j).n:Int)),xI (((i:Int)+1)% ((gl ps j).length:Int)),xI ((i:Int)),xI (((rg rs j).n:Int)),xI (((i:Int))+ (((rg rs j).n:Int))),xI ((((i:Int))+ (((rg rs j).n:Int))) - ((1:Int))),xI (((rg rs j).n:Int)),xI (((i:Int)+ ((gl ps j).length:Int) - 1)% ((gl ps j).length:Int)),xI (((bp ps j:Int))+ ((i:Int))),xI (((i:Int)+1)% ((gl ps j).length:Int)),xI (((i:Int)+ ((gl ps j).length:Int) - 1)% ((gl ps j).length:Int))] O (eL O) ?_ ?_
   ·refine⟨Dr O,Dr O,fun _ _ _ _ _=>aH O Az,Dr O,fun _ _ _ _ _=>aH O Az,Dr O,?_,Dr O,Dr O,fun _ _ _ _ _=>aH O Az,fun _ _ _ _ _=>eh O Az,Dr O,?_,Dr O,Dr O,Dr O,au⟩
    ·intro e1 w1 hb hp aW;refine ao.rem O O O (by omega) (ao.n ?_);exact d0 (by exact aF (fun k:Nat=>Value.int .i64 (((i:Int)+1)% (k:Int))) iM.symm)
    ·intro e1 w1 hb hp aW;refine ao.rem O O O (by omega) (ao.n ?_);exact d0 (by exact aF (fun k:Nat=>Value.int .i64 (((i:Int)+ (k:Int) - 1)% (k:Int))) iM.symm)
   intro u w8 An _;have hS:=hS.aq An;have bP:=bP.aq An;refine eP O ?_;refine kB [10] [yS (x.a4) (2* (bp ps j+i)) (x.c4),yS ((rg rs j).a) ((rg rs j).n) ((rg rs j).c),yI ((i:Int)),yP (ay ((rg rs j).a) ((i:Int)).toNat),yI (gi (gl ps j) ((i:Int))),yS ((rg rs j).a) ((rg rs j).n) ((rg rs j).c),yI ((i:Int)),yP (ay ((rg rs j).a) ((i:Int)).toNat),yI (gi (gl ps j) ((i:Int))),.pr (fun v w'=>∃jk,v= .slice jk 2 2/\St w w' (ax 2 jk 2 2 [jI (gl ps j) i,jI (gl ps j) i]::M4.oG ⟨x.a4,x.c4,x.a5,x.c5,x.a6,x.c6,x.a7,x.c7⟩ (2* (bp ps j+i)) (2* (bp ps j+i)) (2* (bp ps j+i)) (2* (bp ps j+i)) (kz (ps.take j)++eU (jI (gl ps j)) (jI (gl ps j)) i) (ky (ps.take j)++eU (rn (gl ps j)) (rq (gl ps j)) i) (kf (ps.take j)++eU (rC (bp ps j) (gl ps j)) (rD (bp ps j) (gl ps j)) i) (ku (ps.take j)++eU (rh (bp ps j)) (rm (bp ps j)) i) A2)),.pr (fun v w'=>∃dW fq,v= .slice dW (2* (bp ps j+ (i+1))) fq/\St w w' (M4.oG ⟨dW,fq,x.a5,x.c5,x.a6,x.c6,x.a7,x.c7⟩ (2* (bp ps j+ (i+1))) (2* (bp ps j+i)) (2* (bp ps j+i)) (2* (bp ps j+i)) (kz (ps.take j)++eU (jI (gl ps j)) (jI (gl ps j)) (i+1)) (ky (ps.take j)++eU (rn (gl ps j)) (rq (gl ps j)) i) (kf (ps.take j)++eU (rC (bp ps j) (gl ps j)) (rD (bp ps j) (gl ps j)) i) (ku (ps.take j)++eU (rh (bp ps j)) (rm (bp ps j)) i) A2)),.pr (fun v w'=>∃dW fq,v= .slice dW (2* (bp ps j+ (i+1))) fq/\St w w' (M4.oG ⟨dW,fq,x.a5,x.c5,x.a6,x.c6,x.a7,x.c7⟩ (2* (bp ps j+ (i+1))) (2* (bp ps j+i)) (2* (bp ps j+i)) (2* (bp ps j+i)) (kz (ps.take j)++eU (jI (gl ps j)) (jI (gl ps j)) (i+1)) (ky (ps.take j)++eU (rn (gl ps j)) (rq (gl ps j)) i) (kf (ps.take j)++eU (rC (bp ps j) (gl ps j)) (rD (bp ps j) (gl ps j)) i) (ku (ps.take j)++eU (rh (bp ps j)) (rm (bp ps j)) i) A2))] (ly (ly (ly (ly (ly (ly (ly (ly (ly (de.2 ⟨Ye.dp (fun v w w' h hb=>by obtain⟨jk,hv,h1⟩:=h;exact⟨jk,hv,h1.aq hb⟩),(de.2 ⟨Ye.dp (fun v w w' h hb=>by obtain⟨dW,fq,hv,h1⟩:=h;exact⟨dW,fq,hv,h1.aq hb⟩),(de.2 ⟨Ye.dp (fun v w w' h hb=>by obtain⟨dW,fq,hv,h1⟩:=h;exact⟨dW,fq,hv,h1.aq hb⟩),(fun _ h=>by cases h)⟩)⟩)⟩)))))))))) ?_ ?_
   ·refine⟨?_,bT O,bT O,cP fun _ _ hb _ _ _=>aD (bP.aq hb).2 O (bE O O),cP fun _ _ hb _ _ _=>a8 (bP.aq hb) O (bE O O),bT O,bT O,cP fun _ _ hb _ _ _=>aD (bP.aq hb).2 O (bE O O),cP fun _ _ hb _ _ _=>a8 (bP.aq hb) O (bE O O),?_,?_,?_,au⟩
    ·intro e1 w1 cc eZ dt fQ hp aW hq;show ao _ _ _ _ _ _ _;refine lW O (by exact aW 11 _ O (by kernel_rfl)) O (ao.n (iN O (by exact O)))
    ·refine cP fun e1 w1 hb hp aW hq=>?_
     exact BW (St.refl _) O O O O O O fun jk wJ Fj=>ao.n (fN.dn O Fj.below ⟨jk,O,(hS.aq hb).call Fj⟩)
    ·refine kG fun e1 w1 hb hp aW hq=>?_
     obtain⟨jk,oY,h1⟩:=(hp 9 _ _ (by kernel_rfl) rfl rfl (by kernel_rfl));refine fk 1 h1 O (h1.bz 0 O) O (by exact oY) O ?_;intro dW fq Ou Ak;refine ao.n ?_;exact fY.dn O ⟨dW,fq,O,by rw [Jn (jI (gl ps j)) (jI (gl ps j)) i,<-gx];exact Ak.tail⟩
    ·refine dP 1 fun e1 w1 hp aW hq=>?_
     have eN:=hp 10 _ _ (by kernel_rfl) O O (by kernel_rfl);obtain⟨dW,fq,oY,h1⟩:=(hp 10 _ _ (by kernel_rfl) rfl rfl (by kernel_rfl));refine lW O (by exact oY) O (ao.n ?_);exact fN.dn O (Below.refl _ _) ⟨dW,fq,O,h1⟩
   intro u w9 _ hu _ _;obtain⟨B4,d4,Ix,hS⟩:=hu 11 _ rfl (by kernel_rfl);have bP:=(hS.cT hR).at_ (i:=(j:Int)) (by omega) (by omega);refine eP O ?_;refine kB [10] [yS (x.a5) (2* (bp ps j+i)) (x.c5),yS ((rg rs j).a) ((rg rs j).n) ((rg rs j).c),yI ((((i:Int)+1)% ((gl ps j).length:Int))),yP (ay ((rg rs j).a) ((((i:Int)+1)% ((gl ps j).length:Int))).toNat),yI (gi (gl ps j) ((((i:Int)+1)% ((gl ps j).length:Int)))),yS ((rg rs j).a) ((rg rs j).n) ((rg rs j).c),yI ((((i:Int)+ ((gl ps j).length:Int) - 1)% ((gl ps j).length:Int))),yP (ay ((rg rs j).a) ((((i:Int)+ ((gl ps j).length:Int) - 1)% ((gl ps j).length:Int))).toNat),yI (gi (gl ps j) ((((i:Int)+ ((gl ps j).length:Int) - 1)% ((gl ps j).length:Int)))),.pr (fun v w'=>∃jk,v= .slice jk 2 2/\St w w' (ax 2 jk 2 2 [rn (gl ps j) i,rq (gl ps j) i]::M4.oG ⟨B4,d4,x.a5,x.c5,x.a6,x.c6,x.a7,x.c7⟩ (2* (bp ps j+ (i+1))) (2* (bp ps j+i)) (2* (bp ps j+i)) (2* (bp ps j+i)) (kz (ps.take j)++eU (jI (gl ps j)) (jI (gl ps j)) (i+1)) (ky (ps.take j)++eU (rn (gl ps j)) (rq (gl ps j)) i) (kf (ps.take j)++eU (rC (bp ps j) (gl ps j)) (rD (bp ps j) (gl ps j)) i) (ku (ps.take j)++eU (rh (bp ps j)) (rm (bp ps j)) i) A2)),.pr (fun v w'=>∃dW fq,v= .slice dW (2* (bp ps j+ (i+1))) fq/\St w w' (M4.oG ⟨B4,d4,dW,fq,x.a6,x.c6,x.a7,x.c7⟩ (2* (bp ps j+ (i+1))) (2* (bp ps j+ (i+1))) (2* (bp ps j+i)) (2* (bp ps j+i)) (kz (ps.take j)++eU (jI (gl ps j)) (jI (gl ps j)) (i+1)) (ky (ps.take j)++eU (rn (gl ps j)) (rq (gl ps j)) (i+1)) (kf (ps.take j)++eU (rC (bp ps j) (gl ps j)) (rD (bp ps j) (gl ps j)) i) (ku (ps.take j)++eU (rh (bp ps j)) (rm (bp ps j)) i) A2)),.pr (fun v w'=>∃dW fq,v= .slice dW (2* (bp ps j+ (i+1))) fq/\St w w' (M4.oG ⟨B4,d4,dW,fq,x.a6,x.c6,x.a7,x.c7⟩ (2* (bp ps j+ (i+1))) (2* (bp ps j+ (i+1))) (2* (bp ps j+i)) (2* (bp ps j+i)) (kz (ps.take j)++eU (jI (gl ps j)) (jI (gl ps j)) (i+1)) (ky (ps.take j)++eU (rn (gl ps j)) (rq (gl ps j)) (i+1)) (kf (ps.take j)++eU (rC (bp ps j) (gl ps j)) (rD (bp ps j) (gl ps j)) i) (ku (ps.take j)++eU (rh (bp ps j)) (rm (bp ps j)) i) A2))] (ly (ly (ly (ly (ly (ly (ly (ly (ly (de.2 ⟨Ye.dp (fun v w w' h hb=>by obtain⟨jk,hv,h1⟩:=h;exact⟨jk,hv,h1.aq hb⟩),(de.2 ⟨Ye.dp (fun v w w' h hb=>by obtain⟨dW,fq,hv,h1⟩:=h;exact⟨dW,fq,hv,h1.aq hb⟩),(de.2 ⟨Ye.dp (fun v w w' h hb=>by obtain⟨dW,fq,hv,h1⟩:=h;exact⟨dW,fq,hv,h1.aq hb⟩),(fun _ h=>by cases h)⟩)⟩)⟩)))))))))) ?_ ?_
   ·refine⟨?_,bT O,bT O,cP fun _ _ hb _ _ _=>aD (bP.aq hb).2 O (bE O O),cP fun _ _ hb _ _ _=>a8 (bP.aq hb) O (bE O O),bT O,bT O,cP fun _ _ hb _ _ _=>aD (bP.aq hb).2 O (bE O O),cP fun _ _ hb _ _ _=>a8 (bP.aq hb) O (bE O O),?_,?_,?_,au⟩
    ·intro e1 w1 cc eZ dt fQ hp aW hq;show ao _ _ _ _ _ _ _;refine lW O (by exact aW 11 _ O (by kernel_rfl)) O (ao.n (iN O (by exact O)))
    ·refine cP fun e1 w1 hb hp aW hq=>?_
     exact BW (St.refl _) O O O O O O fun jk wJ Fj=>ao.n (fN.dn O Fj.below ⟨jk,O,(hS.aq hb).call Fj⟩)
    ·refine kG fun e1 w1 hb hp aW hq=>?_
     obtain⟨jk,oY,h1⟩:=(hp 9 _ _ (by kernel_rfl) rfl rfl (by kernel_rfl));refine fk 2 h1 O (h1.bz 0 O) O (by exact oY) O ?_;intro dW fq Ou Ak;refine ao.n ?_;exact fY.dn O ⟨dW,fq,O,by rw [Jn (rn (gl ps j)) (rq (gl ps j)) i,<-gx];exact Ak.tail⟩
    ·refine dP 1 fun e1 w1 hp aW hq=>?_
     have eN:=hp 10 _ _ (by kernel_rfl) O O (by kernel_rfl);obtain⟨dW,fq,oY,h1⟩:=(hp 10 _ _ (by kernel_rfl) rfl rfl (by kernel_rfl));refine lW O (by exact oY) O (ao.n ?_);exact fN.dn O (Below.refl _ _) ⟨dW,fq,O,h1⟩
   intro u dV _ hu _ _;obtain⟨B5,d5,hv5,hS⟩:=hu 11 _ rfl (by kernel_rfl);have bP:=(hS.cT hR).at_ (i:=(j:Int)) (by omega) (by omega);refine jW O (aH O (rQ O O O (by omega) (aH O (ar O (aH O (rQ O O O (by omega) ?_))))));refine BW hS O O O O O O ?_;intro jk dZ aI;have aI:St w dZ (ax 2 jk 2 2 [rC (bp ps j) (gl ps j) i,rD (bp ps j) (gl ps j) i]::M4.oG ⟨B4,d4,B5,d5,x.a6,x.c6,x.a7,x.c7⟩ (2* (bp ps j+ (i+1))) (2* (bp ps j+ (i+1))) (2* (bp ps j+i)) (2* (bp ps j+i)) (kz (ps.take j)++eU (jI (gl ps j)) (jI (gl ps j)) (i+1)) (ky (ps.take j)++eU (rn (gl ps j)) (rq (gl ps j)) (i+1)) (kf (ps.take j)++eU (rC (bp ps j) (gl ps j)) (rD (bp ps j) (gl ps j)) i) (ku (ps.take j)++eU (rh (bp ps j)) (rm (bp ps j)) i) A2):=aI;refine fk 3 aI O (aI.bz 0 O) O O O ?_;intro B6 d6 fg aE;have hS:St w fg (M4.oG ⟨B4,d4,B5,d5,B6,d6,x.a7,x.c7⟩ (2* (bp ps j+ (i+1))) (2* (bp ps j+ (i+1))) (2* (bp ps j+ (i+1))) (2* (bp ps j+i)) (kz (ps.take j)++eU (jI (gl ps j)) (jI (gl ps j)) (i+1)) (ky (ps.take j)++eU (rn (gl ps j)) (rq (gl ps j)) (i+1)) (kf (ps.take j)++eU (rC (bp ps j) (gl ps j)) (rD (bp ps j) (gl ps j)) (i+1)) (ku (ps.take j)++eU (rh (bp ps j)) (rm (bp ps j)) i) A2):=by
    rw [Jn (rC (bp ps j) (gl ps j)) (rD (bp ps j) (gl ps j)) i,<-gx];exact aE.tail
   clear aI aE;refine ar O (rQ O O O (by omega) (aH O (ar O (rQ O O O (by omega) ?_))));refine BW hS O O O O O O ?_;intro jk gj aI;have aI:St w gj (ax 2 jk 2 2 [rh (bp ps j) i,rm (bp ps j) i]::M4.oG ⟨B4,d4,B5,d5,B6,d6,x.a7,x.c7⟩ (2* (bp ps j+ (i+1))) (2* (bp ps j+ (i+1))) (2* (bp ps j+ (i+1))) (2* (bp ps j+i)) (kz (ps.take j)++eU (jI (gl ps j)) (jI (gl ps j)) (i+1)) (ky (ps.take j)++eU (rn (gl ps j)) (rq (gl ps j)) (i+1)) (kf (ps.take j)++eU (rC (bp ps j) (gl ps j)) (rD (bp ps j) (gl ps j)) (i+1)) (ku (ps.take j)++eU (rh (bp ps j)) (rm (bp ps j)) i) A2):=aI;refine fk 4 aI O (aI.bz 0 O) O O O ?_;intro B7 d7 lS aE;have hS:St w lS (M4.oG ⟨B4,d4,B5,d5,B6,d6,B7,d7⟩ (2* (bp ps j+ (i+1))) (2* (bp ps j+ (i+1))) (2* (bp ps j+ (i+1))) (2* (bp ps j+ (i+1))) (kz (ps.take j)++eU (jI (gl ps j)) (jI (gl ps j)) (i+1)) (ky (ps.take j)++eU (rn (gl ps j)) (rq (gl ps j)) (i+1)) (kf (ps.take j)++eU (rC (bp ps j) (gl ps j)) (rD (bp ps j) (gl ps j)) (i+1)) (ku (ps.take j)++eU (rh (bp ps j)) (rm (bp ps j)) (i+1)) A2):=by
    rw [Jn (rh (bp ps j)) (rm (bp ps j)) i,<-gx];exact aE.tail
   clear aI aE;refine ar O (aH O (aT O (tQ ?_)));exact⟨(i+1,⟨B4,d4,B5,d5,B6,d6,B7,d7⟩),by show(gl ps j).length - (i+1)< (gl ps j).length - i;omega,⟨O,O,O,Ix,hv5,O,O,O,O,O,O,aF (Value.int .i64) (by omega),au⟩,by show i+1<=(gl ps j).length;omega,hS⟩
  ·obtain rfl:i=(gl ps j).length:=by omega
   rw [<-su]at hS;refine bn O (bo (cL O (aH O (ar O (aH O (aT O (tQ ?_)))))));refine⟨(j+1,x),by show n - (j+1)<n - j;omega,⟨O,O,O,aF (fun m=>Value.slice x.a4 (2*m) x.c4) su.symm,aF (fun m=>Value.slice x.a5 (2*m) x.c5) su.symm,aF (fun m=>Value.slice x.a6 (2*m) x.c6) su.symm,aF (fun m=>Value.slice x.a7 (2*m) x.c7) su.symm,aF (Value.int .i64) (by show(bp ps j:Int)+ ((rg rs j).n:Int)=(bp ps (j+1):Int);omega),aF (Value.int .i64) (by omega),au⟩,by show j+1<=n;omega,?_⟩;show St w w7 (x.oG _ _ _ _ (kz (ps.take (j+1))) (ky (ps.take (j+1))) (kf (ps.take (j+1))) (ku (ps.take (j+1))) A2);rw [ahk (by omega),ahi (by omega),akn (by omega),ahf (by omega)];exact hS
 obtain rfl:j=n:=by omega
 have sr:bp ps j=ps.flatten.length:=by unfold bp;rw [List.take_of_length_le (by omega)]
 rw [sr,gR (by omega:ps.length<=j)]at hS;have hOl:=ahj ps;have RT:=ahh ps;generalize hV:ps.flatten.length=V at*;generalize hO:kz ps=Ow at*;generalize hT:ky ps=T at*;have Ie:=dm.one;rw [hV,hO,hT]at Ie;refine bn O (bo (cL O ?_));refine jn hS O ?_;clear hS;intro gk w7 hS;refine aC O (Cd.loop (α:=Nat×aj×Nat) (fun z=> [(2,.pointer A2),(3,.bool false),(4,.slice x.a4 (2*V) x.c4),(5,.slice x.a5 (2*V) x.c5),(6,.slice x.a6 (2*V) x.c6),(7,.slice x.a7 (2*V) x.c7),(16,.slice z.2.1 z.1 z.2.2),(17,ak (z.1:Int))]) (fun z w'=>z.1<=2*V/\St w w' (ax 2 z.2.1 z.1 z.2.2 ((oB Ow T).take z.1)::x.oG (2*V) (2*V) (2*V) (2*V) Ow T (kf ps) (ku ps) A2)) (fun z=>2*V - z.1) (0,gk,0) ⟨O,O,aF (fun m=>Value.slice x.a4 (2*m) x.c4) sr,aF (fun m=>Value.slice x.a5 (2*m) x.c5) sr,aF (fun m=>Value.slice x.a6 (2*m) x.c6) sr,aF (fun m=>Value.slice x.a7 (2*m) x.c7) sr,O,O,au⟩ ⟨aZ _,hS⟩ ?_);clear hS;rintro⟨f,gk,zS⟩ ev w8 ⟨hf,hS⟩;dsimp only at hf hS|-;refine bg O (bc O O (aC O ?_));refine aM _ O (fun h3=>?_) (fun h3=>?_)
 ·have hfV:f<2*V:=by omega
  refine aA O (jn hS O ?_);clear hS;intro sR w9 hS;refine aC O (Cd.loop (α:=Nat×aj×Nat) (fun z=> [(2,.pointer A2),(3,.bool false),(4,.slice x.a4 (2*V) x.c4),(5,.slice x.a5 (2*V) x.c5),(6,.slice x.a6 (2*V) x.c6),(7,.slice x.a7 (2*V) x.c7),(16,.slice gk f zS),(17,ak f),(18,.slice z.2.1 (tf Ow T f z.1).length z.2.2),(19,ak (z.1:Int))]) (fun z w'=>z.1<=2*V/\St w w' (ax 2 z.2.1 (tf Ow T f z.1).length z.2.2 (tf Ow T f z.1)::ax 2 gk f zS ((oB Ow T).take f)::x.oG (2*V) (2*V) (2*V) (2*V) Ow T (kf ps) (ku ps) A2)) (fun z=>2*V - z.1) (0,sR,0) (amz O) ⟨aZ _,hS⟩ ?_);clear hS;rintro⟨g,sR,zT⟩ ev dV ⟨hg,hS⟩;dsimp only at hg hS|-;refine bg O (bc O O (aC O ?_));refine aM _ O (fun h4=>?_) (fun h4=>?_)
  ·have hgV:g<2*V:=by omega
   have hOr:cg dV x.a4 (2*V) Ow:=hS.bz 2 O;have yK:cg dV x.a5 (2*V) T:=hS.bz 3 O;have jQ:=Z1 Ow T f g;refine dw O ?_
   by_cases q1:(g:Int)=(f:Int)
   ·--dup 4
    have aw:=KF (Ow:=Ow) (T:=T) (f:=f) (g:=g) (fun h=>h.1 (by omega));refine eo [xI ((g:Int)),xI ((f:Int)),xB (false),xB (false),xU,xU,xU,xU,xU,xU,xU,xU,xU,xB (false),xB (false),xU,xU,xU,xU,xU,xU,xU,xU,xU,xB (false)] O (eL O) ?_ ?_
    ·exact⟨Dr O,Dr O,fun _ _ _ _ _=>Dk O (by exact aF Value.bool (cj (fun h=>h q1))),Dr O,Dr O,Dr O,Dr O,Dr O,Dr O,Dr O,Dr O,Dr O,Dr O,Dr O,Dr O,Dr O,Dr O,Dr O,Dr O,Dr O,Dr O,Dr O,Dr O,Dr O,Dr O,au⟩
    intro u dZ hb _;refine eP O (Cd.fC O ?_);refine aA O (aH O (aT O (tQ ?_)));exact⟨(g+1,sR,zT),by show 2*V - (g+1)<2*V - g;omega,⟨O,O,O,O,O,O,O,O,aF (fun l:ai=>Value.slice sR l.length zT) aw.symm,aF (Value.int .i64) (by omega),au⟩,by show g+1<=2*V;omega,by rw [aw];exact hS.aq hb⟩
   by_cases q2:gi Ow g=gi Ow f
   ·by_cases q3:gi T g=gi T f
    ·have aw:=Z2 (Ow:=Ow) (T:=T) (f:=f) (g:=g) ⟨by omega,q2,q3⟩;refine eo [xI ((g:Int)),xI ((f:Int)),xB (true),xB (true),xS (x.a4) (2*V) (x.c4),xI ((g:Int)),xP (ay (x.a4) ((g:Int)).toNat),xI (gi (Ow) ((g:Int))),xS (x.a4) (2*V) (x.c4),xI ((f:Int)),xP (ay (x.a4) ((f:Int)).toNat),xI (gi (Ow) ((f:Int))),xB (true),xB (true),xB (true),xS (x.a5) (2*V) (x.c5),xI ((g:Int)),xP (ay (x.a5) ((g:Int)).toNat),xI (gi (T) ((g:Int))),xS (x.a5) (2*V) (x.c5),xI ((f:Int)),xP (ay (x.a5) ((f:Int)).toNat),xI (gi (T) ((f:Int))),xB (true),xB (true)] O (eL O) ?_ ?_
     ·exact⟨Dr O,Dr O,fun _ _ _ _ _=>Dk O (by exact aF Value.bool (dM q1)),Dr O,Dr O,Dr O,fun _ _ hb _ _=>av O (aD (hOr.aq hb).2 O Az),fun _ _ hb _ _=>av O (a8 (hOr.aq hb) O Az),Dr O,Dr O,fun _ _ hb _ _=>av O (aD (hOr.aq hb).2 O Az),fun _ _ hb _ _=>av O (a8 (hOr.aq hb) O Az),fun _ _ _ _ _=>Dk O (by exact aF Value.bool (dM q2)),Dr O,Dr O,Dr O,Dr O,fun _ _ hb _ _=>av O (aD (yK.aq hb).2 O Az),fun _ _ hb _ _=>av O (a8 (yK.aq hb) O Az),Dr O,Dr O,fun _ _ hb _ _=>av O (aD (yK.aq hb).2 O Az),fun _ _ hb _ _=>av O (a8 (yK.aq hb) O Az),fun _ _ _ _ _=>Dk O (by exact aF Value.bool (dM q3)),Dr O,au⟩
     intro u dZ hb _;have hS:=hS.aq hb;refine eP O (Cd.gC O (aA O (eS hS O O O ?_)));intro A140 fg dG;refine fk 1 dG O (dG.bz 0 O) O O O fun OK d18 gj ic=>ar O (aH O (aT O (tQ ?_)));exact⟨(g+1,OK,d18),by show 2*V - (g+1)<2*V - g;omega,⟨O,O,O,O,O,O,O,O,aF (fun m:Nat=>Value.slice OK m d18) (by rw [aw,b8];rfl),aF (Value.int .i64) (by omega),au⟩,by show g+1<=2*V;omega,by rw [aw,b8];exact ic.tail⟩
    ·have aw:=KF (Ow:=Ow) (T:=T) (f:=f) (g:=g) (fun h=>q3 h.2.2);refine eo [xI ((g:Int)),xI ((f:Int)),xB (true),xB (true),xS (x.a4) (2*V) (x.c4),xI ((g:Int)),xP (ay (x.a4) ((g:Int)).toNat),xI (gi (Ow) ((g:Int))),xS (x.a4) (2*V) (x.c4),xI ((f:Int)),xP (ay (x.a4) ((f:Int)).toNat),xI (gi (Ow) ((f:Int))),xB (true),xB (true),xB (true),xS (x.a5) (2*V) (x.c5),xI ((g:Int)),xP (ay (x.a5) ((g:Int)).toNat),xI (gi (T) ((g:Int))),xS (x.a5) (2*V) (x.c5),xI ((f:Int)),xP (ay (x.a5) ((f:Int)).toNat),xI (gi (T) ((f:Int))),xB (false),xB (false)] O (eL O) ?_ ?_
     ·exact⟨Dr O,Dr O,fun _ _ _ _ _=>Dk O (by exact aF Value.bool (dM q1)),Dr O,Dr O,Dr O,fun _ _ hb _ _=>av O (aD (hOr.aq hb).2 O Az),fun _ _ hb _ _=>av O (a8 (hOr.aq hb) O Az),Dr O,Dr O,fun _ _ hb _ _=>av O (aD (hOr.aq hb).2 O Az),fun _ _ hb _ _=>av O (a8 (hOr.aq hb) O Az),fun _ _ _ _ _=>Dk O (by exact aF Value.bool (dM q2)),Dr O,Dr O,Dr O,Dr O,fun _ _ hb _ _=>av O (aD (yK.aq hb).2 O Az),fun _ _ hb _ _=>av O (a8 (yK.aq hb) O Az),Dr O,Dr O,fun _ _ hb _ _=>av O (aD (yK.aq hb).2 O Az),fun _ _ hb _ _=>av O (a8 (yK.aq hb) O Az),fun _ _ _ _ _=>Dk O (by exact aF Value.bool (cj q3)),Dr O,au⟩
     intro u dZ hb _;refine eP O (Cd.fC O ?_);refine aA O (aH O (aT O (tQ ?_)));exact⟨(g+1,sR,zT),by show 2*V - (g+1)<2*V - g;omega,⟨O,O,O,O,O,O,O,O,aF (fun l:ai=>Value.slice sR l.length zT) aw.symm,aF (Value.int .i64) (by omega),au⟩,by show g+1<=2*V;omega,by rw [aw];exact hS.aq hb⟩
   ·have aw:=KF (Ow:=Ow) (T:=T) (f:=f) (g:=g) (fun h=>q2 h.2.1);refine eo [xI ((g:Int)),xI ((f:Int)),xB (true),xB (true),xS (x.a4) (2*V) (x.c4),xI ((g:Int)),xP (ay (x.a4) ((g:Int)).toNat),xI (gi (Ow) ((g:Int))),xS (x.a4) (2*V) (x.c4),xI ((f:Int)),xP (ay (x.a4) ((f:Int)).toNat),xI (gi (Ow) ((f:Int))),xB (false),xB (false),xB (false),xU,xU,xU,xU,xU,xU,xU,xU,xU,xB (false)] O (eL O) ?_ ?_
    ·exact⟨Dr O,Dr O,fun _ _ _ _ _=>Dk O (by exact aF Value.bool (dM q1)),Dr O,Dr O,Dr O,fun _ _ hb _ _=>av O (aD (hOr.aq hb).2 O Az),fun _ _ hb _ _=>av O (a8 (hOr.aq hb) O Az),Dr O,Dr O,fun _ _ hb _ _=>av O (aD (hOr.aq hb).2 O Az),fun _ _ hb _ _=>av O (a8 (hOr.aq hb) O Az),fun _ _ _ _ _=>Dk O (by exact aF Value.bool (cj q2)),Dr O,Dr O,Dr O,Dr O,Dr O,Dr O,Dr O,Dr O,Dr O,Dr O,Dr O,Dr O,au⟩
    intro u dZ hb _;refine eP O (Cd.fC O ?_);refine aA O (aH O (aT O (tQ ?_)));exact⟨(g+1,sR,zT),by show 2*V - (g+1)<2*V - g;omega,⟨O,O,O,O,O,O,O,O,aF (fun l:ai=>Value.slice sR l.length zT) aw.symm,aF (Value.int .i64) (by omega),au⟩,by show g+1<=2*V;omega,by rw [aw];exact hS.aq hb⟩
  ·obtain rfl:g=2*V:=by omega
   have Sx:tf Ow T f (2*V)=Ep Ow T f:=by unfold Ep tf;rw [hOl]
   have oJ:=Ie f (il.2 hfV);rw [<-Sx]at oJ;refine bn O (bo (cL O (bc O O (aC O ?_))));refine Cd.fC (by exact aF Value.bool (cj (fun h=>h (by rw [oJ];rfl)))) ?_;refine aA O (aD (hS.bz 0 O).2 O (a8 (hS.bz 0 O) O (eS hS O O O ?_)));intro A151 dZ eA;refine fk 2 eA O (eA.bz 0 O) O O O fun OJ d16 fg dG=>ar O (aH O (aT O (tQ ?_)));exact⟨(f+1,OJ,d16),by show 2*V - (f+1)<2*V - f;omega,⟨O,O,O,O,O,O,O,aF (Value.int .i64) (by omega),au⟩,by show f+1<=2*V;omega,by
    show St w fg (ax 2 OJ (f+1) d16 ((oB Ow T).take (f+1))::_);rw [ajD (by omega),<-Sx];exact dG.tail.tail⟩
 ·obtain rfl:f=2*V:=by omega
  have LB:=akm ps;have hNl:=ahe ps;rw [hV]at LB hNl;rw [List.take_of_length_le (by unfold oB;rw [List.length_map,List.length_range];omega)]at hS;refine bn O (bo (cL O ?_));refine OZ (s0:=⟨x.a6,2*V,x.c6⟩) (s1:=⟨x.a7,2*V,x.c7⟩) (s2:=⟨gk,2*V,zS⟩) hS O O O O ?_;clear hS;intro qw w9 hS;refine D1 (by exact inferInstance) O O O O (gH hS O ?_);clear hS;intro jk dV hS;refine bO 1 0 hS O O O O O O O ?_;clear hS;intro dZ hS;have hS:St w dZ (Bx 24 1 jk [.slice qw 3 3]::Bx 24 1 A2 [.slice none 0 0]::aL 34 2 qw 3 3 [⟨x.a6,2*V,x.c6⟩,⟨x.a7,2*V,x.c7⟩,⟨gk,2*V,zS⟩] [kf ps,ku ps,oB Ow T]):=(show St w dZ (Bx 24 1 jk [.slice qw 3 3]::bZ 34 qw 3 3 [⟨x.a6,2*V,x.c6⟩,⟨x.a7,2*V,x.c7⟩,⟨gk,2*V,zS⟩]::ax 2 gk (2*V) zS (oB Ow T)::ax 2 x.a4 (2*V) x.c4 Ow::ax 2 x.a5 (2*V) x.c5 T::ax 2 x.a6 (2*V) x.c6 (kf ps)::ax 2 x.a7 (2*V) x.c7 (ku ps)::[Bx 24 1 A2 [.slice none 0 0]]) from hS).ahG;have Mf:mapM ps=[kf ps,ku ps,oB Ow T]:=by unfold mapM;rw [hO,hT]
  rw [Mf];generalize hMe:[kf ps,ku ps,oB Ow T]=M at*;generalize hre:[(⟨x.a6,2*V,x.c6⟩:aO),⟨x.a7,2*V,x.c7⟩,⟨gk,2*V,zS⟩]=rM at*;obtain⟨bM,R6⟩:∃bM:Bool,bM=decide (cN M):=⟨_,rfl⟩;have hMl:M.length=3:=by rw [<-hMe];rfl
  have cI:rM.length=3:=by rw [<-hre];rfl
  refine aC O (BN (by kernel_rfl) (by kernel_rfl) (fun S e1 w1=>Xv w A2 jk qw rM M bM S e1 w1) (fun w4 hb=> ⟨O,O,fun h=> (nomatch h),fun h=> (nomatch h),fun h=> (nomatch h),fun h=> (nomatch h),.slice none 0 0,fun h=> (nomatch h),hS.aq hb⟩) ?_ ?_)
  ·intro S q o e1 w4 hq cC hd dh hI;obtain⟨f20,f2,p0,p1,p2,p4,B2,m3,hT⟩:=hI
   match q,hq,cC with
   | 0,hq,cC=>
    obtain rfl:=dC hq;refine ao.dq 0 (hT.rd 0 O) (by exact f20) O O (ao.n ?_);exact⟨f20,f2,fun _=>O,p1,p2,p4,B2,m3,hT⟩
   | 1,hq,cC=>
    obtain rfl:=dC hq;refine ao.dq 0 (hT.rd 0 O) (by exact f20) O O (ao.n ?_);exact⟨f20,f2,p0,fun _=>O,p2,p4,B2,m3,hT⟩
   | 2,hq,cC=>
    obtain rfl:=dC hq;have jP:bF w4 qw 3 rM M:=St.jj (ks:=[]) (by rw [fj];exact hT.sub (((kU _).cons _).cons _)) hMl;refine amq (T8 qw 3 3 rM M _ jP (by omega)) O (by exact aF (fun v=> [v]) (p1 (dT hd 1 O))) O ?_;rintro _ w9 ⟨rfl,aw⟩;have hT:=hT.aq aw.below;refine ao.n ?_;exact⟨f20,f2,p0,p1,fun _=>by rw [R6];rfl,p4,B2,m3,hT⟩
   | 3,hq,cC=>
    obtain rfl:=dC hq;refine bO 1 1 hT O (by exact f2) (by exact p0 (dT hd 0 O)) O O O O ?_;intro w9 hT;exact ao.n ⟨f20,f2,p0,p1,p2,p4,.slice qw 3 3,fun _=>O,hT⟩
   | 4,hq,cC=>
    obtain rfl:=dC hq;refine O2 O (by exact p2 (dT hd 2 O)) O (ao.n ?_);exact⟨f20,f2,p0,p1,p2,fun _=>O,B2,m3,hT⟩
   | q+5,hq,_=>exact(nomatch hq)
  ·intro S e1 w4 eJ hI;obtain⟨f20,f2,p0,p1,p2,p4,B2,m3,hT⟩:=hI;obtain rfl:=m3 (eJ 3 (by decide));refine Vf (F:=[(2,.pointer A2),(3,.bool bM)]) ⟨f2,p4 (eJ 4 (by decide)),au⟩ (BO O (kb O (hT.rd 1 O) O ?_));exact⟨qw,3,rM,by rw [<-R6];rfl,cI,hT.tail.tail⟩
end
section
open Go.RowKit Go.MapKept
structure zK{κ:Type}(P:Program)(kt:ae)(kv:κ->ad)(ok:κ->Prop):Prop where
 law:Go.Maps.Keyed P kt
 isKey:∀a,ok a->∃l,keyOf P kt (kv a)=some l
 inj:∀a b,kv a=kv b->a=b
section
variable {κ ν:Type} [DecidableEq κ] {kt:ae} {kv:κ->ad} {vv:ν->ad} {ok:κ->Prop} {P:Program}
theorem Q0:∀ {L:List (κ×ν)} {x:κ} {j:Nat} {v:ν},(L.map (·.1)).Nodup->L[j]?=some (x,v)->kI L x=some (j,v)
 | [],_,_,_,_,h=>by simp at h
 | (y,u)::r,x,0,v,_,h=>by
  simp only [List.getElem?_cons_zero,mJ,Prod.mk.injEq]at h;obtain⟨rfl,rfl⟩:=h;simp [kI]
 | (y,u)::r,x,j+1,v,hn,h=>by
  rw [List.getElem?_cons_succ]at h;rw [List.map_cons,lU]at hn;have bU:¬y=x:=fun e=>hn.1 (by subst e;exact dA.2 ⟨(y,v),List.mem_of_getElem? h,rfl⟩)
  simp only [kI,az bU,Q0 hn.2 h,Option.map_some]
theorem Q1:∀ {L:List (κ×ν)} {x:κ},(∀p∈L,p.1≠x)->kI L x=none
 | [],_,_=>rfl
 | (y,u)::r,x,h=>by
  simp only [kI,az (h (y,u) (by simp)),Q1 (L:=r) fun p hp=>h p (by simp [hp]),Option.map_none]
theorem zK.find(KG:zK P kt kv ok)(w:aa){x:κ}(hx:ok x){l:List MapEntry}{L:List (κ×ν)}(hl:l.map (fun e=> (e.key,e.val))=dY kv vv L)(dm:∀p∈L,ok p.1)(hn:(L.map (·.1)).Nodup):(Instr.findKey kt (kv x) l).run P w= .ok ((kI L x).map fun p=> (p.1,vv p.2)) w:=by
 obtain⟨lx,sA⟩:=KG.isKey x hx;have Ay:∀j:Nat,(l[j]?.map fun e=> (e.key,e.val))=L[j]?.map fun p=> (kv p.1,vv p.2):=fun j=>by
  have:=aF (fun q=>q[j]?) hl;simpa [dY]using this
 have acQ:∀e∈l,∃p∈L,e.key=kv p.1:=fun e he=>by
  obtain⟨j,hj⟩:=List.mem_iff_getElem?.1 he;have h1:=Ay j;rw [hj,Option.map_some]at h1;obtain⟨p,hp,h2⟩:=Option.map_eq_some_iff.1 h1.symm;exact⟨p,List.mem_of_getElem? hp,(aF Prod.fst h2).symm⟩
 rcases KG.law.find w sA l (fun e he=>by obtain⟨p,hp,h⟩:=acQ e he;rw [h];exact KG.isKey p.1 (dm p hp))with⟨h1,h2⟩ | ⟨j,e,h1,h2,h3⟩
 ·rw [h1,Q1 fun p hp he=>?_,Option.map_none];obtain⟨j,hj⟩:=List.mem_iff_getElem?.1 hp;have h4:=Ay j;rw [hj,Option.map_some]at h4;obtain⟨e,qb,h5⟩:=Option.map_eq_some_iff.1 h4;have h6:e.key=kv p.1:=aF Prod.fst h5;exact h2 e (List.mem_of_getElem? qb) (by rw [h6,he])
 have h4:=Ay j;rw [h2,Option.map_some]at h4;obtain⟨p,hp,h5⟩:=Option.map_eq_some_iff.1 h4.symm;have h6:kv p.1=kv x:=((aF Prod.fst h5:kv p.1=e.key)).trans h3;have h7:=KG.inj _ _ h6;have h8:L[j]?=some (x,p.2):=by rw [hp,<-h7]
 have h9:vv p.2=e.val:=aF Prod.snd h5;rw [h1,Q0 hn h8,Option.map_some,<-h9]
theorem Vq:∀ {L:List (κ×ν)} {x:κ} {u:ν},(L.map (·.1)).Nodup->((eO L x u).map (·.1)).Nodup/\∀y,y∈(eO L x u).map (·.1)↔y=x\/y∈L.map (·.1)
 | [],x,u,_=>by simp [eO]
 | (z,v)::r,x,u,h=>by
  rw [List.map_cons,lU]at h;simp only [eO]
  split
  ·rename_i e;subst e;exact⟨by rw [List.map_cons,lU];exact h,fun y=>by simp⟩
  ·rename_i e;have ih:=Vq (x:=x) (u:=u) h.2;refine⟨by
    rw [List.map_cons,lU];refine⟨fun hm=>?_,ih.1⟩;rcases(ih.2 z).1 hm with h1 | h1
    ·exact e h1
    ·exact h.1 h1,fun y=>?_⟩
   rw [List.map_cons,iP,ih.2,List.map_cons,iP];exact⟨fun h=>by rcases h with h | h | h<;>simp [h],fun h=>by rcases h with h | h | h<;>simp [h]⟩
end
section
variable{t et T:ae}{b:Nat}
variable {P:Program} {N:Nat} {ops:Array Oper} {K:Env->aa->Prop} {rest:List Oper} {e:Env} {w0 w w':aa} {ks:List Ck} {d:Nat} {ty:ae} {pos:String} {af:Array Edge}
variable {κ ν:Type} [DecidableEq κ] {kt:ae} {kv:κ->ad} {vv:ν->ad} {ok:κ->Prop}
theorem aiR{z:ad}{s:Nat}[hU:bt P t (.map kt et)][bq P et z s b](KG:zK P kt kv ok){g:Nat}{L:List (κ×ν)}{x:κ}(hx:ok x)(dm:∀p∈L,ok p.1)(hn:(L.map (·.1)).Nodup)(hR:uS w g (dY kv vv L))(okB:Bool):
 (Instr.lookup t (.map (some g)) (kv x) okB).run P w= .ok (if okB then .tuple #[((dL L x).map vv).getD z,.bool (dL L x).isSome]else((dL L x).map vv).getD z) w:=by
 obtain⟨es,cl,hh,hm⟩:=hR;obtain⟨inf,hi,dU,_,_⟩:=bq.get P et;obtain⟨lx,sA⟩:=KG.isKey x hx;have pw:=KG.find (vv:=vv) w hx hm dm hn;rw [KC];unfold Instr.lookup;simp only [Sem.run_bind,run_underlying hU.out,Result.andThen,MapKept.run_getObj_map hh,KG.law.check _ _ sA];cases ko:kI L x with
 | none=>
  rw [ko]at pw;cases okB<;>simp [pw,zeroValue,typeInfo,hi,dU]
 | some p=>
  rw [ko]at pw;cases okB<;>simp [pw]
theorem Xk{z v:ad}{s:Nat}[bt P t (.map kt et)][bq P et z s b](KG:zK P kt kv ok){g:Nat}{L:List (κ×ν)}{m ix:ag}{x:κ}(hx:ok x)(dm:∀p∈L,ok p.1)(hn:(L.map (·.1)).Nodup)(hR:uS w g (dY kv vv L))(hm:ev e m= .map (some g))(hy:ev e ix=kv x)(hv:((dL L x).map vv).getD z=v)(hb:Nat.blt d N=true)(hK:ao P N ops K rest (br e d v) w):ao P N ops K (⟨some d,.lookup t m ix false,ty,pos,af,none⟩::rest) e w:=by
 subst hv;refine .val (w':=w) ?_ hb hK;have:=aiR (P:=P) (t:=t) KG hx dm hn hR false;simp [execOp,hm,hy,this]
theorem aiU[hU:bt P t (.map kt et)](KG:zK P kt kv ok){g:Nat}{L:List (κ×ν)}(i:Nat)(x:κ)(u:ν)(hx:ok x)(dm:∀p∈L,ok p.1)(hn:(L.map (·.1)).Nodup)(hS:St w0 w ks)(hi:ks[i]?=some (fu T g (dY kv vv L))):
 ∃w',(Instr.mapUpdate t (.map (some g)) (kv x) (vv u)).run P w= .ok () w'/\St w0 w' (ks.set i (fu T g (dY kv vv (eO L x u)))):=by
 obtain⟨_,es,cl,hh,hm,ou⟩:=hS.FH i hi;obtain⟨lx,sA⟩:=KG.isKey x hx;have pw:=KG.find (vv:=vv) w hx hm dm hn;cases ko:kI L x with
 | none=>
  refine⟨{ w with heap:=w.heap.setIfInBounds g (.map (es.push ⟨kv x,vv u,cl⟩) (cl+1)) },?_,hS.DM hi ?_ (Uu ou _ _)⟩
  ·simp [Instr.mapUpdate,run_underlying hU.out,MapKept.run_getObj_map hh,KG.law.check _ _ sA,pw,ko,MapKept.run_setObj_map _ hh,Result.andThen]
  ·rw [KD ko];simp only [Array.toList_push,iD,hm,dY]
   rfl
 | some p=>
  obtain⟨j,v⟩:=p;obtain⟨h1,h2⟩:=KE ko;have lK:j<L.length:=(gm.1 h1).1;have jf:es.toList.length=L.length:=by have:=aF List.length hm;simpa [dY]using this
  have hes:es.size=L.length:=by simpa using jf
  have uh:j<es.size:=by omega
  have L8:es[j].key=kv x:=by
   have:=aF (fun l=>l[j]?) hm;simp [dY,h1,uh]at this;exact this.1
  have aw:=KG.law.stays w sA;refine⟨{ w with heap:=w.heap.setIfInBounds g (.map (es.modify j fun e=> { e with key:=kv x,val:=vv u }) cl) },?_,hS.DM hi ?_ (Ut ou _ _ _)⟩
  ·simp [Instr.mapUpdate,run_underlying hU.out,MapKept.run_getObj_map hh,KG.law.check _ _ sA,pw,ko,MapKept.run_setObj_map _ hh,Result.andThen,uh,L8,aw]
  ·rw [h2 u];apply List.ext_getElem?;intro q;have hq:=aF (fun l=>l[q]?) hm;simp only [dY,List.getElem?_map,Array.getElem?_toList]at hq;simp only [dY,List.getElem?_map,mI,Array.getElem?_toList,Array.getElem?_modify]
   by_cases e1:j=q
   ·subst e1;simp [uh,lK]
   ·rw [az e1,az e1];exact hq
theorem Xt{op:Op}{m k x:ag}[hU:bt P t (.map kt et)](oq:Jp op=some (t,m,k,x))(KG:zK P kt kv ok){g:Nat}{L:List (κ×ν)}(i:Nat){a:κ}{u:ν}(ha:ok a)(dm:∀p∈L,ok p.1)(hn:(L.map (·.1)).Nodup)(hS:St w0 w ks)(hi:ks[i]?=some (fu T g (dY kv vv L)))(hm:ev e m= .map (some g))(hk:ev e k=kv a)(hx:ev e x=vv u)(hK:∀w',St w0 w' (ks.set i (fu T g (dY kv vv (eO L a u))))->ao P N ops K rest e w'):ao P N ops K (⟨none,op,ty,pos,af,none⟩::rest) e w:=by
 obtain⟨w',mS,km⟩:=aiU (P:=P) (t:=t) KG i a u ha dm hn hS hi;refine .unit (w':=w') ?_ (hK _ km);cases op<;>simp [Jp]at oq<;>obtain⟨rfl,rfl,rfl,rfl⟩:=oq<;>simp [execOp,hm,hk,hx,mS]
end
theorem QS:∀ {a b:List MapEntry},r6 a=r6 b->a=b
 | [],[],_=>rfl
 | [],_::_,h=>by simp [r6]at h
 | _::_,[],h=>by simp [r6]at h
 | ⟨k,v,s⟩::a,⟨k',v',s'⟩::b,h=>by
  simp only [r6,List.cons.injEq,Value.int.injEq,true_and]at h;obtain⟨rfl,rfl,h1,h2⟩:=h;obtain rfl:s=s':=by omega
  rw [QS h2]
theorem V3:∀ {a b:List Nat},(a.map fun b:Nat=>Value.int .i64 (b:Int))=b.map (fun b:Nat=>Value.int .i64 (b:Int))->a=b
 | [],[],_=>rfl
 | [],_::_,h=>by simp at h
 | _::_,[],h=>by simp at h
 | x::a,y::b,h=>by
  simp only [List.map_cons,List.cons.injEq,Value.int.injEq,true_and]at h;obtain⟨h1,h2⟩:=h;obtain rfl:x=y:=by omega
  rw [V3 h2]
def rH(t:ae)(g:Nat)(es:List MapEntry)(cl:Nat):Ck:=⟨some ⟨g,0,none⟩,0,0,t,.tuple #[ak cl]::r6 es⟩
def oC(t:ae)(r bm since:Nat)(seen:List Nat):Ck:=⟨some ⟨r,0,none⟩,0,0,t,.tuple #[.map (some bm),ak since]::seen.map fun b:Nat=>ak b⟩
def II(es:List MapEntry):List (ad×ad):=es.map fun e=> (e.key,e.val)
section
variable {w0 w w':aa} {ks:List Ck} {t:ae} {g bm since cl:Nat} {es:List MapEntry} {seen:List Nat} {mr:List (ad×ad)}
theorem St.NK(h:St w0 w ks)(i:Nat)(hk:ks[i]?=some (rH t g es cl)):w0.heap.size<=g/\w.heap[g]?=some (.map es.toArray cl)/\uC es.toArray cl:=by
 rcases(h.get hk).cases with⟨_,_,_,g',o,hA,hg,hh,hv⟩ | ⟨hm,_⟩
 ·have hA:some (⟨g,0,Option.none⟩:Addr)=some ⟨g',0,Option.none⟩:=hA;simp only [mJ,Addr.mk.injEq,and_true]at hA;subst hA
  match o,hh,hv with
  | .map rV vV,hh,⟨hw,.inl hv⟩=>
   have hv:(.tuple #[ak cl]::r6 es:List ad)= .tuple #[]::rZ (rV.toList.map fun e=> (e.key,e.val)):=hv;simp at hv
  | .map rV vV,hh,⟨hw,.inr hv⟩=>
   have hv:(.tuple #[ak cl]::r6 es:List ad)= .tuple #[ak vV]::r6 rV.toList:=hv;obtain⟨h1,h2⟩:=List.cons.inj hv;have h3:(cl:Int)=vV:=by simpa using h1
   obtain rfl:cl=vV:=by omega
   obtain rfl:=QS h2;exact⟨hg,hh,hw⟩
  | .mapIter m since seen c0,hh,⟨_,bm,_,hv⟩=>
   have hv:(.tuple #[ak cl]::r6 es:List ad)= .tuple #[.map (some bm),ak since]::_:=hv;simp at hv
 ·cases hm
theorem St.UY{r:Nat}(h:St w0 w ks)(i:Nat)(hk:ks[i]?=some (oC t r bm since seen)):w0.heap.size<=r/\w.heap[r]?=some (.mapIter (some bm) since seen.toArray since):=by
 rcases(h.get hk).cases with⟨_,_,_,g',o,hA,hg,hh,hv⟩ | ⟨hm,_⟩
 ·have hA:some (⟨r,0,Option.none⟩:Addr)=some ⟨g',0,Option.none⟩:=hA;simp only [mJ,Addr.mk.injEq,and_true]at hA;subst hA
  match o,hh,hv with
  | .map rV vV,hh,⟨hw,.inl hv⟩=>
   have hv:(.tuple #[.map (some bm),ak since]::seen.map (fun b:Nat=>ak b):List ad)= .tuple #[]::rZ (rV.toList.map fun e=> (e.key,e.val)):=hv;simp at hv
  | .map rV vV,hh,⟨hw,.inr hv⟩=>
   have hv:(.tuple #[.map (some bm),ak since]::seen.map (fun b:Nat=>ak b):List ad)= .tuple #[ak vV]::r6 rV.toList:=hv;simp at hv
  | .mapIter m Oc aiZ c0,hh,⟨hc,PJ,hm,hv⟩=>
   have hv:(.tuple #[.map (some bm),ak since]::seen.map (fun b:Nat=>ak b):List ad)= .tuple #[.map (some PJ),ak Oc]::aiZ.toList.map (fun b:Nat=>ak b):=hv;obtain⟨h1,h2⟩:=List.cons.inj hv;have h3:bm=PJ/\(since:Int)=Oc:=by simpa using h1
   obtain rfl:=h3.1;obtain rfl:since=Oc:=by omega
   obtain rfl:=V3 h2;subst hm;subst hc;exact⟨hg,hh⟩
 ·cases hm
theorem aay(w:aa)(g:Nat):BQ w w (some g):=⟨⟨rfl,rfl,rfl,bs _,fun _ _ _=>rfl⟩,bs _⟩
theorem St.toN(h:St w0 w ks)(i:Nat)(hk:ks[i]?=some (fu t g mr)):∃es cl,II es=mr/\uC es.toArray cl/\St w0 w (ks.set i (rH t g es cl)):=by
 obtain⟨hg,es,cl,hh,H4,ou⟩:=h.FH i hk;refine⟨es.toList,cl,H4,ou,h.turn (k:=fu t g mr) (k':=rH t g es.toList cl) (g:=g) hk O O (aay w g) ?_⟩;exact .ofM O ⟨O,O,g,_,O,hg,hh,ou,.inr O⟩
theorem St.X4(h:St w0 w ks)(T:ae)(bm since:Nat):St w0 (w.alloc (.mapIter (some bm) since #[] since)) (oC T w.heap.size bm since []::ks):=by
 have hb:Below w.heap.size w (w.alloc (.mapIter (some bm) since #[] since)):=(Below.refl _ _).alloc (bs _) _;have h1:=h.aq hb;refine⟨h1.below,fun k hk=>?_,?_⟩
 ·rcases iP.1 hk with rfl | hk
  ·exact .ofM O ⟨O,O,_,_,O,h.below.size,heap_alloc_new w _,O,bm,O,O⟩
  exact h1.own k hk
 simp only [List.filterMap_cons,oC,Ck.gS,Option.map_some,lU];refine⟨fun du=>?_,h.apart⟩;obtain⟨k',eQ,pz⟩:=List.mem_filterMap.1 du;have:=((h.own k' eQ).lt pz).2;omega
def qZ(es:List MapEntry)(seen:List Nat):List MapEntry:=es.filter fun e=>!seen.contains e.born
theorem Um(es:List MapEntry)(seen:List Nat):(leftOf es.toArray seen.toArray).toList=qZ es seen:=by
 unfold leftOf qZ;simp
theorem St.ag1{P:Program}{r:Nat}{T:ae}(h:St w0 w ks)(i j:Nat)(hi:ks[i]?=some (rH t g es cl))(hj:ks[j]?=some (oC T r g cl seen))(ty:ae):(qZ es seen=[]/\(Instr.next (.pointer (some ⟨r,0,Option.none⟩)) false ty).run P w= .ok (.tuple #[.bool false]) w)\/
 ∃x∈qZ es seen,∃w',(Instr.next (.pointer (some ⟨r,0,Option.none⟩)) false ty).run P w= .ok (.tuple #[.bool true,x.key,x.val]) w'/\St w0 w' (ks.set j (oC T r g cl (seen++ [x.born]))):=by
 obtain⟨hg,hh,ou⟩:=h.NK i hi;obtain⟨hr,Fg⟩:=h.UY j hj;rcases run_next_at (P:=P) w ty r g cl cl seen.toArray es.toArray cl Fg hh ou.1 (bs _)with⟨h0,h1⟩ | ⟨x,hx,w1,Fo,mS⟩
 ·refine .inl ⟨?_,h1⟩;rw [<-Um];exact List.length_eq_zero_iff.1 (by simpa using h0)
 rw [Um]at hx;refine .inr ⟨x,hx,_,mS,?_⟩;have h1:St w0 w1 ks:=by
  rcases Fo with rfl | rfl
  ·exact h
  exact h.drew
 have Tl:w1.heap[r]?=some (.mapIter (some g) cl seen.toArray cl):=by
  rcases Fo with rfl | rfl
  ·exact Fg
  exact Fg
 refine h1.turn (k:=oC T r g cl seen) (k':=oC T r g cl (seen++ [x.born])) (g:=r) hj O O ⟨⟨O,O,O,by simp [ChangeMaps.setBlock],fun y _ hy=>?_⟩,bs _⟩ ?_
 ·exact(heap_set Tl).2 y fun e=>hy (by rw [e])
 refine .ofM O ⟨O,O,r,_,O,hr,(heap_set Tl).1,O,g,O,?_⟩;simp [oC]
end
section
variable{t kt et T:ae}
variable {P:Program} {N:Nat} {ops:Array Oper} {K:Env->aa->Prop} {rest:List Oper} {e:Env} {w0 w w':aa} {ks:List Ck} {d:Nat} {ty:ae} {pos:String} {af:Array Edge}
theorem Xr[hU:bt P t (.map kt et)]{m:ag}{g:Nat}{mr:List (ad×ad)}(i:Nat)(T2:ae)(hS:St w0 w ks)(hi:ks[i]?=some (fu T g mr))(hm:ev e m= .map (some g))(hb:Nat.blt d N=true)(hK:∀r es cl w',II es=mr->uC es.toArray cl->St w0 w' (oC T2 r g cl []::ks.set i (rH T g es cl))->ao P N ops K rest (br e d (.pointer (some ⟨r,0,none⟩))) w'):
 ao P N ops K (⟨some d,.range t m,ty,pos,af,none⟩::rest) e w:=by
 obtain⟨es,cl,h1,h2,h3⟩:=hS.toN i hi;have fW:i<ks.length:=(gm.1 hi).1;obtain⟨_,hh,_⟩:=h3.NK i (t:=T) (g:=g) (es:=es) (cl:=cl) (by rw [List.getElem?_set_self fW]);obtain⟨k',e',hu⟩:∃k' e',P.underlying t=some (.map k' e'):=⟨kt,et,hU.out⟩;have hr:=run_range_map (P:=P) w t k' e' g es.toArray cl hu hh;refine .val (w':=w.alloc (.mapIter (some g) cl #[] cl)) ?_ hb (hK _ es cl _ h1 h2 (h3.X4 T2 g cl));simp [execOp,hm,hr]
theorem Xq{x:ag}{r g cl:Nat}{es:List MapEntry}{seen:List Nat}(i j:Nat)(hS:St w0 w ks)(hi:ks[i]?=some (rH t g es cl))(hj:ks[j]?=some (oC T r g cl seen))(hx:ev e x= .pointer (some ⟨r,0,none⟩))(hb:Nat.blt d N=true)(h0:qZ es seen=[]->ao P N ops K rest (br e d (.tuple #[.bool false])) w)(h1:∀y w',y∈qZ es seen->St w0 w' (ks.set j (oC T r g cl (seen++ [y.born])))->ao P N ops K rest (br e d (.tuple #[.bool true,y.key,y.val])) w'):
 ao P N ops K (⟨some d,.next x false,ty,pos,af,none⟩::rest) e w:=by
 rcases hS.ag1 (P:=P) i j hi hj ty with⟨hl,hr⟩ | ⟨y,hy,w',hr,km⟩
 ·refine .val (w':=w) ?_ hb (h0 hl);simp only [execOp,hx];simp [hr,Result.andThen]
 refine .val (w':=w') ?_ hb (h1 y w' hy km);simp only [execOp,hx];simp [hr,Result.andThen]
theorem Xd{x:ag}{r g cl:Nat}{es:List MapEntry}{seen:List Nat}{y:MapEntry}(i j:Nat)(hS:St w0 w ks)(hi:ks[i]?=some (rH t g es cl))(hj:ks[j]?=some (oC T r g cl (seen++ [y.born])))(hy:y∈es)(hx:ev e x= .pointer (some ⟨r,0,none⟩))(hb:Nat.blt d N=true)(hK:ao P N ops K rest (br e d (.tuple #[y.key,y.val])) w):
 ao P N ops K (⟨some d,.entry x,ty,pos,af,none⟩::rest) e w:=by
 obtain⟨hg,hh,ou⟩:=hS.NK i hi;obtain⟨hr,Fg⟩:=hS.UY j hj;have adz:w.heap[r]?=some (.mapIter (some g) cl (seen.toArray.push y.born) cl):=by rw [Fg];simp
 have mS:=run_entry_at (P:=P) w r g cl seen.toArray es.toArray cl y adz hh (by simpa using hy) ou.2;refine .val (w':=w) ?_ hb hK;simp only [execOp,hx];simp [mS,Result.andThen]
end
end
section
open Go.RowKit
abbrev Cb:=aO×Nat×List PV
abbrev qE:=(Int×Int)×Cb
def uG(u:Cb):ad:=u.1.v
def pC(k:Int×Int):ad:= .agg #[ak k.1,ak k.2]
def kR(t:ae)(M:List qE):List Ck:=M.map fun p=>jy t p.2.1.a p.2.1.n p.2.1.c p.2.2.1 p.2.2.2
def ns(M:List qE)(x:Int×Int):Cb:=(dL M x).getD (dO,0,[])
section
variable {w0 w w':aa} {ks pre:List Ck} {t:ae} {M:List qE} {x:Int×Int}
theorem St.ajx(h:St w0 w (pre++ (kR t M++ks))):St w0 w (jy t (ns M x).1.a (ns M x).1.n (ns M x).1.c (ns M x).2.1 (ns M x).2.2::(pre++ (kR t (iR M x)++ks))):=by
 unfold ns;cases hg:dL M x with
 | none=>
  rw [Hf hg];exact h.nil t
 | some u=>
  refine h.perm ?_;have h1:(kR t M).Perm (jy t u.1.a u.1.n u.1.c u.2.1 u.2.2::kR t (iR M x)):=(KM hg).map _;exact((h1.append_right ks).append_left pre).trans qD
theorem St.aih{u:Cb}(h:St w0 w (jy t u.1.a u.1.n u.1.c u.2.1 u.2.2::(pre++ (kR t (iR M x)++ks)))):St w0 w (pre++ (kR t (eO M x u)++ks)):=by
 refine h.perm ?_;have h1:(jy t u.1.a u.1.n u.1.c u.2.1 u.2.2::kR t (iR M x)).Perm (kR t (eO M x u)):=((Vt M x u).map fun p:qE=>jy t p.2.1.a p.2.1.n p.2.1.c p.2.2.1 p.2.2.2).symm;exact qD.symm.trans ((h1.append_right ks).append_left pre)
end
def vy(M:List qE):List ((Int×Int)×List PV):=M.map fun p=> (p.1,p.2.2.2)
theorem ahJ(M:List qE)(x:Int×Int):dL (vy M) x=(dL M x).map fun u=>u.2.2:=by
 induction M with
 | nil=>rfl
 | cons p r ih=>
  obtain⟨y,u⟩:=p;show(if y=x then some u.2.2 else dL (vy r) x)=_;simp only [dL]
  split
  ·rfl
  ·exact ih
theorem ahK(M:List qE)(x:Int×Int)(u:Cb):vy (eO M x u)=eO (vy M) x u.2.2:=by
 induction M with
 | nil=>rfl
 | cons p r ih=>
  obtain⟨y,v⟩:=p;show vy (if y=x then(x,u)::r else(y,v)::eO r x u)=(if y=x then(x,u.2.2)::vy r else(y,v.2.2)::eO (vy r) x u.2.2)
  split
  ·rfl
  ·show(y,v.2.2)::vy (eO r x u)=_;rw [ih]
theorem aaw(M:List qE)(x:Int×Int):(ns M x).2.2=(dL (vy M) x).getD []:=by
 rw [ahJ];unfold ns;cases dL M x<;>rfl
def Fs(k:Int×Int):Prop:=(-9223372036854775808<=k.1/\k.1<=9223372036854775807)/\(-9223372036854775808<=k.2/\k.2<=9223372036854775807)
theorem afE:laidOutB prog=true:=by kernel_rfl
theorem ae4:prog.keyTypeAt 5 182=true:=by kernel_rfl
theorem ae6:prog.keyType 182=true:=by kernel_rfl
theorem T5:182<prog.types.size:=tB (by kernel_rfl)
theorem ae3:Go.Maps.Keyed prog 182:=Go.Maps.Keyed.of_law (deep_law_laid afE (m:=5) (by decide) T5 ae4 (by kernel_rfl))
set_option maxRecDepth 100000 in
theorem ae5(a b:Int)(h:Fs (a,b)):∃l,keyOf prog 182 (pC (a,b))=some l:=by
 have hv:prog.underlying 2=some (TypeDesc.int IntKind.i64):=underlying2;have hu:prog.underlying 182=some (.array 2 2):=underlying182;have oN:prog.cellsOf 182=2:=by kernel_rfl
 have yN:prog.cellsOf 2=1:=by kernel_rfl
 obtain⟨d,hd⟩:∃d,prog.types.size=d+1:=⟨prog.types.size - 1,by have:=T5;omega⟩;have h1:∀x:Int,(-9223372036854775808<=x/\x<=9223372036854775807)->prog.keyLits (d+1) 2 [ak x]=some [Lit.int IntKind.i64 x]:=fun x hx=>by
  unfold Program.keyLits;rw [hv];refine aB ⟨O,?_⟩;show(decide _ && decide _)=true;rw [Bool.and_eq_true];exact⟨dM hx.1,dM (by have:=hx.2;show x<=9223372036854775807;omega)⟩
 have h2:prog.keyLits (d+1+1) 182 (pC (a,b)).cells.toList=some [Lit.int IntKind.i64 a,Lit.int IntKind.i64 b]:=by
  unfold Program.keyLits;rw [hu];dsimp only;rw [oN,yN,aB (by rfl)];have e:(List.range 2)=[0,1]:=O;rw [e];have ea:(((pC (a,b)).cells.toList.drop (0*1)).take 1)=[Value.int .i64 a]:=O;have eb:(((pC (a,b)).cells.toList.drop (1*1)).take 1)=[Value.int .i64 b]:=O;simp only [List.mapM_cons,List.mapM_nil,ea,eb,h1 a h.1,h1 b h.2]
  rfl
 unfold keyOf;simp only [hu,ae6,Bool.true_and];rw [if_pos (by unfold pC Value.formed;simp only [hu,oN];rfl),hd,h2];exact⟨_,O⟩
theorem T1:zK prog 182 pC Fs:=⟨ae3,fun a h=>ae5 a.1 a.2 h,fun a b h=>by
 simp only [pC,Value.agg.injEq,Array.mk.injEq,List.cons.injEq,Value.int.injEq,true_and,and_true]at h;exact Prod.ext h.1 h.2⟩
def F5(m:Nat):Nat:=if m%2=0 then m+1 else m - 1
set_option maxRecDepth 100000 in
theorem akl:∀m:Nat,m<201->bits .xor .i64 (m:Int) 1=(F5 m:Int):=by decide
section
variable {P:Program} {N:Nat} {ops:Array Oper} {K:Env->aa->Prop} {rest:List Oper} {e:Env} {w:aa} {d:Nat} {ty xt yt:ae} {pos:String} {af:Array Edge} {x y:ag}
theorem Xu{m:Nat}(hx:ev e x=ak m)(hy:ev e y=ak 1)(hm:m<=200)(hb:Nat.blt d N=true)(hK:ao P N ops K rest (br e d (ak (F5 m:Int))) w):
 ao P N ops K (⟨some d,.binOp .xor xt x y yt,ty,pos,af,none⟩::rest) e w:=
 .val (by simp only [execOp,hx,hy,eqGuard,binOp,intBits_xor,akl m (by omega)];simp) hb hK
end
theorem aj7(f:Nat):DQ f=(F5 f:Int):=by
 unfold DQ F5
 split<;>split<;>omega
end
end Go.Proofs.YtkccgdhcpplblaaGreatDoor.Vc
