/-
 Lemmas. Conditions: as each states them.
-/
import Derived.Test.YtagdamiiececaaaGreatDoorZk
import Derived.Test.YtagdamiiececaaaGreatDoorLayf
import Derived.Test.YtagdamiiececaaaGreatDoorZj
set_option maxHeartbeats 8000000
namespace Go.Proofs.YtagdamiiececaaaGreatDoor.Vc
open Tryz
section
open Go.RowKit Go.Sort
def yD(ss:List aN)(n:Nat)(j:Fin n):ad:=(sv ss j).v
theorem St.TR{w0 w:aa}{ks:List Ck}{i:Nat}{t:ae}{g o n c:Nat}{ss:List aN}{cur:Array ad}[Inhabited (Fin n)](hS:St w0 w ks)(hk:ks[i]?=some (cd t (some ⟨g,o,Option.none⟩) n c ss))(hh:w.heap[g]?=some (.cells cur t (0,0)))(hg:w0.heap.size<=g)(hs:o+c<=cur.size)(m:Nat)(dk:Array (Fin n))(hd:dk.size=n)(os:Array Obj):
 St w0 (sortWorld (yD ss n) w g o m dk os) (ks.set i (cd t (some ⟨g,o,Option.none⟩) n c (dk.toList.map fun j:Fin n=>sv ss j.val))):=by
 have mZ:n<=c:=(hS.cap i hk).1;have ZU:c<=maxLen:=(hS.cap i hk).2;refine hS.turn hk O O (Yq _) (.qq (xZ _) ⟨by simp [hd],mZ,ZU,.inr ⟨g,o,_,O,hg,Z7 _ hh,by simp only [putCells,Array.size_mapIdx];exact hs,fun j hj=>?_⟩⟩);have hj:j<n:=hj;have D8:o+j<cur.size:=by omega
 show(putCells (yD ss n) o dk cur)[o+j]?=((dk.toList.map fun j:Fin n=>sv ss j.val).map aN.v)[j]?;have e:dk[j]! =dk[j]'(by omega):=getElem!_pos dk j (by omega);simp [putCells,D8,hj,hd,yD]
theorem agx{w0 w:aa}{ks:List Ck}(i:Nat){t:ae}{A:aj}{n c:Nat}{ss:List aN}(hS:St w0 w ks)(hk:ks[i]?=some (cd t A n c ss))(hn:n<=4000000000000)(xs:Nat->ai)(va:∀a,a<n->(sv ss a).n<=9223372036854775807)
 (cT:∀(w':aa) (q:List Nat),q.length=n->(∀j∈q,j<n)->St w0 w' (ks.set i (cd t A n c (q.map (sv ss))))->∀a,a<n->cn w' (sv ss a).a (sv ss a).n (xs a)):
 aG prog 205 [.slice A n c,.func (.func 203) #[] #[]] w (fun v w'=>v= .tuple #[]/\∃q:List Nat,q.Perm (List.range n)/\q.Pairwise (fun a b=>¬LT (xs b) (xs a))/\St w0 w' (ks.set i (cd t A n c (q.map (sv ss))))):=by
 have hF:bC prog 203:=inferInstance;obtain⟨h1,h2,h3,h4⟩:=hS.pY hk (xZ _);have hl:ss.length=n:=by have:(ss.map aN.v).length=n:=h1;simpa using this
 have h2:n<=c:=h2
 by_cases h0:n=0
 ·subst h0;have key:=AnyF.slices_SortFunc_none { Sg with } A c (.func (.func 203) #[] #[]) w;refine Calls.mono key fun x w' ⟨hx,hw⟩=> ⟨_,hx,O,[],List.Perm.refl _,List.Pairwise.nil,?_⟩
  subst hw;have e:ss=[]:=qH hl;subst e;rw [show(List.map (sv []) []:List aN)=[] from rfl];have:=(gS.1 hk);rw [show ks.set i (cd t A 0 c [])=ks from by
   apply List.ext_getElem?;intro j;rw [mG]
   split
   ·rename_i e;subst e;rw [hk];simp [this.1]
   ·rfl]
  exact hS
 have h0:0<n:=by omega
 rcases h4 with⟨_,jP⟩ | ⟨g,o,cur,hA,hg,hh,hs,hc⟩
 ·have jP:c=0:=jP;omega
 have hA:A=some ⟨g,o,none⟩:=hA;have hs:o+c<=cur.size:=hs;have hc:∀j,j<n->cur[o+j]?=(ss.map aN.v)[j]?:=hc;subst hA
 haveI:Inhabited (Fin n):=⟨⟨0,h0⟩⟩
 have eO:g<w.heap.size:=(Array.getElem?_eq_some_iff.1 hh).1;have qe:(Array.ofFn (fun j:Fin n=>j)).size=n:=by simp
 have hH:Holds (yD ss n) w g o (Array.ofFn fun j:Fin n=>j):=fun j hj=>by
  have im:j<n:=by simpa using hj
  refine⟨?_,by simp [World.frozen?,hh]⟩;have e:(Array.ofFn fun j:Fin n=>j)[j]! =⟨j,im⟩:=by
   rw [getElem!_pos (Array.ofFn fun j:Fin n=>j) j (by simpa using im)];simp
  rw [e];simp only [World.cell?,hh];simp only [Option.isSome_none,Bool.false_eq_true,if_false];rw [hc j im];simp [im,hl,sv,yD,cN]
 obtain⟨fn,iX,ou,Qm⟩:=hF.out;obtain⟨bd,Qn⟩:∃c,fn.body=some c:=by
  cases h:fn.body with
  | none=>rw [h]at Qm;cases Qm
  | some c=>exact⟨c,rfl⟩
 have eg:∀args w,(callFunc 203 args).run prog w= .ok (.enter 203 args) w:=enters_of iX ou Qn;have hC:CmpLays1 prog 203 #[] (yD ss n) (fun a b:Fin n=>gJ (xs a) (xs b)) g o (Array.ofFn fun j:Fin n=>j).size w:=fun m os dk Z3 a b=>by
  have ot:dk.size=n:=by rw [Z3,qe]
  have hW:=hS.TR hk hh hg hs m dk ot os;have hr:=cT _ (dk.toList.map fun j=>j.val) (by simp [ot]) (fun j hj=>by obtain⟨x,_,rfl⟩:=db.1 hj;exact x.2) (by rw [List.map_map];exact hW);have h5:=ML (sv ss a).a (sv ss a).n (sv ss a).c (xs a) (sv ss b).a (sv ss b).n (sv ss b).c (xs b) _ (hr a a.2) (hr b b.2) (va a a.2);refine Calls.mono h5 fun x w' ⟨v,hx,hv,au⟩=>?_
  subst hv;exact⟨hx,0, #[],by rw [au];simp [World.drewN]⟩
 have hO:SWO (ltOf fun a b:Fin n=>gJ (xs a) (xs b)):= {
  irrefl:=fun a=>by simpa [ltOf,LT]using Im (xs a)
  trans:=fun a b c h h'=>by simp only [ltOf,decide_eq_true_iff]at*;exact LT.trans (a:=xs a) (b:=xs b) (c:=xs c) h h'
  ntrans:=fun a b c h h'=>by simp only [ltOf,decide_eq_false_iff_not]at*;exact UT (a:=xs a) (b:=xs b) (c:=xs c) h h' }
 have key:=Any.slices_SortFunc Sg (yD ss n) (fun _=>O) (fun a b:Fin n=>gJ (xs a) (xs b)) hO 203 #[] g o c (Array.ofFn fun j:Fin n=>j) w eg hC hH eO (by rw [qe];omega);rw [qe]at key;refine Calls.mono key fun x w' ⟨hx,d',m,os,hp,hso,hw⟩=> ⟨_,hx,O,d'.toList.map (fun j=>j.val),?_,?_,?_⟩
 ·obtain⟨hz,_,Ee⟩:=hp;rw [qe]at hz;have e1:d'.extract 0 n=d':=by have:=Array.extract_size (xs:=d');rwa [hz]at this
  have e2:(Array.ofFn fun j:Fin n=>j).extract 0 n=Array.ofFn fun j:Fin n=>j:=by
   have:=Array.extract_size (xs:=Array.ofFn fun j:Fin n=>j)
   rwa [qe]at this
  rw [e1,e2]at Ee;have h6:=Ee.map (fun j:Fin n=>j.val);have e3:(Array.ofFn fun j:Fin n=>j).toList.map (fun j:Fin n=>j.val)=List.range n:=by
   apply jo
   ·simp
   ·intro j h1 h2;simp
  rw [e3]at h6;exact h6
 ·have hz:=hp.1;rw [qe]at hz;rw [kM,List.pairwise_iff_getElem];intro a b ha hb dN;have xz:a<d'.size:=by simpa using ha
  have sf:b<d'.size:=by simpa using hb
  have h7:=hso a b (a7 _) dN (by omega);simp only [ltOf,decide_eq_false_iff_not,getElem!_pos d' a xz,getElem!_pos d' b sf]at h7;simpa [LT]using h7
 ·subst hw;have hz:=hp.1;rw [qe]at hz;rw [List.map_map];exact hS.TR hk hh hg hs m d' hz os
end
section
open Go.RowKit
variable{j k i:Nat}{rs':List aN}
def gs(l:List aN)(i:Nat):aN:=l.getD i ew
def SR(κ:aN->Int)(l:List aN)(a b:Nat):Prop:=∀i j,a<=i->i<j->j<b->κ (gs l i)<=κ (gs l j)
structure RP(l l':List aN)(a b:Nat):Prop where
 perm:l'.Perm l
 out:∀i,i<a\/b<=i->gs l' i=gs l i
def swp(l:List aN)(i j:Nat):List aN:=(l.set i (gs l j)).set j (gs l i)
structure uK(κ:aN->Int)(l:List aN)(a i j:Nat):Prop where
 low:a<=j
 high:j<=i
 rest:∀x y,a<=x->x<y->y<=i->x≠j->y≠j->κ (gs l x)<=κ (gs l y)
 own:∀y,j<y->y<=i->κ (gs l j)<=κ (gs l y)
structure tN(l l1:List aN)(s m e:Nat):Prop where
 out:∀i,i<s\/e<=i->gs l1 i=gs l i
 left:∀i,s<=i->i<s+ (e - m)->gs l1 i=gs l (i+ (m - s))
 right:∀i,s+ (e - m)<=i->i<e->gs l1 i=gs l (i - (e - m))
def mA(a m b:Nat):Nat:=if(a+b) / 2<m then(a+b) / 2+m - b else a
def eK(a m b:Nat):Nat:=if(a+b) / 2<m then(a+b) / 2 else m
structure Ij(κ:aN->Int)(l:List aN)(a m b s:Nat):Prop where
 lo:mA a m b<=s
 hi:s<=eK a m b
 left:∀c,mA a m b<=c->c<s->κ (gs l c)<=κ (gs l ((a+b) / 2+m - 1 - c))
 right:∀c,s<=c->c<eK a m b->κ (gs l ((a+b) / 2+m - 1 - c))<κ (gs l c)
structure uN(l c:List aN)(a k:Nat):Prop where
 len:c.length=l.length
 out:∀x,x<a\/k<x->gs c x=gs l x
 tu:∀x,a<=x->x<k->gs c x=gs l (x+1)
 own:gs c k=gs l a
structure uM(l c:List aN)(m k:Nat):Prop where
 len:c.length=l.length
 out:∀x,x<k\/m<x->gs c x=gs l x
 tu:∀x,k<x->x<=m->gs c x=gs l (x - 1)
 own:gs c k=gs l m
def vy(κ:aN->Int)(l:List aN)(n s lo hi:Nat):Prop:=∀k,lo<=k*s->k*s<hi->SR κ l (k*s) (min (k*s+s) n)
theorem agR{q:List Nat}{n:Nat}(hn:q.Nodup)(hq:∀i∈q,i<n):∃s:List Nat,s.Sublist (List.range n)/\q.Perm s:=by
 refine⟨(List.range n).filter fun i=>decide (i∈q),List.filter_sublist,?_⟩;refine(rN hn (List.nodup_range.filter _)).2 fun i=>?_
 simp only [fT,fU,kU];exact⟨fun h=> ⟨hq i h,h⟩,fun h=>h.2⟩
theorem Tv(t2:ae){rs:List aN}{xss:ah}(h:rs.length=xss.length):du t2 rs xss=(List.range rs.length).map fun i=>az t2 (rs.getD i ew).a (rs.getD i ew).n (rs.getD i ew).c (xss.getD i []):=by
 apply List.ext_getElem?;intro i
 by_cases hi:i<rs.length
 ·rw [Cy h hi];simp [hi]
 rw [mF (by rw [zP h];omega),mF (by simp;omega)]
theorem St.pick{w0 w:aa}{pre:List Ck}{t2:ae}{rs:List aN}{xss:ah}(h:St w0 w (pre++du t2 rs xss))(hl:rs.length=xss.length){q:List Nat}(hn:q.Nodup)(hq:∀i∈q,i<rs.length):
 St w0 w (pre++du t2 (q.map fun i=>rs.getD i ew) (q.map fun i=>xss.getD i [])):=by
 obtain⟨s,hs,hp⟩:=agR hn hq;have e:du t2 (q.map fun i=>rs.getD i ew) (q.map fun i=>xss.getD i [])=q.map fun i=>az t2 (rs.getD i ew).a (rs.getD i ew).n (rs.getD i ew).c (xss.getD i []):=by
  rw [Tv t2 (by simp)];apply List.ext_getElem?;intro i
  by_cases hi:i<q.length
  ·simp [hi]
  simp [hi]
 rw [e];have h1:=h;rw [Tv t2 hl]at h1;have h2:(pre++s.map fun i=>az t2 (rs.getD i ew).a (rs.getD i ew).n (rs.getD i ew).c (xss.getD i [])).Sublist (pre++ (List.range rs.length).map fun i=>az t2 (rs.getD i ew).a (rs.getD i ew).n (rs.getD i ew).c (xss.getD i [])):=
  List.Sublist.append_left (hs.map _) _
 exact(h1.sub h2).perm ((List.perm_append_left_iff _).2 (hp.symm.map _))
def Gf(x:ai)(E:ah)(p:ai):ah:=if pP x p∈E then E else E++ [pP x p]
def Gb(sw E:ah)(i:Nat):ah:=sw.foldl (Gf (gl E i)) E
def yK(sw:ah):Nat->Nat->ah->Option (ah)
 | 0,_,_=>none
 | f+1,i,E=>if i<E.length then(if(Gb sw E i).length<=1000 then yK sw f (i+1) (Gb sw E i)else none)else some E
theorem T6{n:Nat}{x p:ai}(hx:Rg n x)(hp:Rg n p):Rg n (pP x p):=⟨by rw [pP,fk];exact hx.1,fun y hy=>by
 obtain⟨z,hz,rfl⟩:=db.1 hy;exact hp.gi (hx.2 z hz).1 (hx.2 z hz).2⟩
def Al(L:List (ByteArray×Bool))(E:ah):Prop:=∀x,(eX L (jm x)).getD false=decide (x∈E)
theorem Al.put{L:List (ByteArray×Bool)}{E:ah}(h:Al L E)(q:ai):Al (gX L (jm q) true) (E++ [q]):=fun x=>by
 rw [Dx]
 by_cases e:q=x
 ·subst e;rw [ay rfl,eM (by simp)]
  rfl
 rw [aw (fun k=>e (Hr k)),h x];exact jJ.2 ⟨fun m=>List.mem_append_left _ m,fun m=> (jz.1 m).resolve_right (fun k=>e (gk.1 k).symm)⟩
abbrev Bj(A:aj)(n c:Nat)(rs:List aN)(E:ah)(g:Nat)(L:List (ByteArray×Bool)):List Ck:=
 cd 24 A n c rs::ij 184 g (gw Value.string Value.bool L)::du 2 rs E
theorem Jz{w0 w:aa}{A:aj}{n c g:Nat}{rs:List aN}{E:ah}{L:List (ByteArray×Bool)}(h:St w0 w (cd 24 A n c rs'::ij 184 g (gw Value.string Value.bool L)::du 2 rs E))(hl:rs.length=E.length)(hj:j<E.length):cn w (rg rs j).a (rg rs j).n (gl E j):=by
 have:=h.bI (j+2) (by rw [List.getElem?_cons_succ,List.getElem?_cons_succ];exact Cy hl (by omega));have e:gl E j=E.getD j []:=by simp [gl]
 rw [e];exact this
theorem Yr(n:Nat)(A1:aj)(m c1:Nat)(qz:List aN)(sw E X:ah)(fuel:Nat)(w:aa)(hT:js w)(hn:n<=1000)(hR:br w A1 m qz sw)(hm:m<=100)(hsw:GM n sw)(qm:yK sw fuel 0 [mx n]=some E)(hX:SL X)(ZC:∀x,x∈X↔x∈E)(tj:E.Nodup):
 aG prog 145 [ak n,.slice A1 m c1] w (fun v w'=>∃A c rs,v= .tuple #[.slice A X.length c,.bool true]/\rs.length=X.length/\St w w' (aT 24 2 A X.length c rs X)):=by
 have lS:=hR.len;refine bA func145 O ntmps145 O (rA O) (a8 O (aL (RG n _ (by omega)) O ?_));rintro _ w1 ⟨oJ,rfl,aA⟩;refine kO aA O O O fun CH w2 aB=>ar O (C0 aB O ?_);intro g w3 aH;refine ar O (aM (aH.gQ 1 O).2 O ?_);refine ajo (i:=0) (aH.gQ 1 O) O (by decide) O O ?_;have Qz:Rg n (mx n):=⟨by simp [mx],fun x hx=>by
  obtain⟨a,ha,rfl⟩:=db.1 hx;have:=fU.1 ha;omega⟩
 have qi:∀x:ai,Rg n x->∀y∈x,-9223372036854775808<=y/\y<=9223372036854775807:=fun x hx y hy=>by have:=hx.2 y hy;omega
 refine aL (zz oJ n n (mx n) _ (hT.aq aH.below) (aH.bI 2 O) (qi _ Qz) (by omega)) O ?_;rintro _ w4 ⟨rfl,au⟩;have aV:=aH.aq au.below;refine Ag O zA 0 (u:=true) (a:=jm (mx n)) (vv:=Value.bool) (L:=[]) aV O O O O ?_;intro w5 aW;have aW:St w w5 (Bj CH 1 1 [⟨oJ,n,n⟩] [mx n] g (gX [] (jm (mx n)) true)):=aW.perm (List.Perm.swap _ _ _);clear aA aB aH aV au;refine aI O ?_;refine Cd.loop (α:=Nat×Nat×(aj×Nat)×List aN×ah×List (ByteArray×Bool)) (fun z=> [(0,ak n),(1,.slice A1 m c1),(6,.slice z.2.2.1.1 z.2.2.2.2.1.length z.2.2.1.2),(7,.map (some g)),(8,ak (z.2.1:Int))])
  (fun z w'=>yK sw z.1 z.2.1 z.2.2.2.2.1=some E/\z.2.2.2.2.1.length<=1000/\z.2.2.2.1.length=z.2.2.2.2.1.length/\GM n z.2.2.2.2.1/\Al z.2.2.2.2.2 z.2.2.2.2.1/\St w w' (Bj z.2.2.1.1 z.2.2.2.2.1.length z.2.2.1.2 z.2.2.2.1 z.2.2.2.2.1 g z.2.2.2.2.2)) (fun z=>z.1)
  (fuel,0,(CH,1),[⟨oJ,n,n⟩],[mx n],gX [] (jm (mx n)) true) ⟨rfl,rfl,rfl,rfl,rfl,av⟩ ⟨qm,by show 1<=1000;omega,rfl,fun x hx=>by rw [gk.1 hx];exact Qz,(show Al [] [] from fun x=>rfl).put (mx n),aW⟩ ?_
 clear aW;rintro⟨f,i,⟨A,c⟩,rs,F,L⟩ e w6 ⟨hf,oX,bU,hF,hL,hS⟩;dsimp only at hf oX bU hF hL hS|-;cases f with
 | zero=>cases hf
 | succ f=>
 rw [yK]at hf;refine a8 O (bc O O (aI O ?_));refine aR _ O (fun h1=>?_) (fun h1=>?_)
 ·have hi:i<F.length:=by omega
  rw [ay hi]at hf;have su:=hF (gl F i) (by rw [bP hi];exact dB _);have Gm:Gb sw F i=(sw.drop 0).foldl (Gf (gl F i)) F:=O;generalize hx:gl F i=x at su Gm;generalize hG:Gb sw F i=G at hf Gm;refine aE O (bc O O (aI O ?_));refine Cd.loop (α:=Nat×(aj×Nat)×List aN×ah×List (ByteArray×Bool)) (fun z=> [(0,ak n),(1,.slice A1 m c1),(6,.slice z.2.1.1 z.2.2.2.1.length z.2.1.2),(7,.map (some g)),(8,ak i),(28,.slice A1 m c1),(29,ak m),(30,ak (z.1:Int))])
   (fun z w'=>z.1<=m/\G=(sw.drop z.1).foldl (Gf x) z.2.2.2.1/\(i<z.2.2.2.1.length/\gl z.2.2.2.1 i=x)/\z.2.2.2.1.length<=1000+z.1/\z.2.2.1.length=z.2.2.2.1.length/\GM n z.2.2.2.1/\Al z.2.2.2.2 z.2.2.2.1/\St w w' (Bj z.2.1.1 z.2.2.2.1.length z.2.1.2 z.2.2.1 z.2.2.2.1 g z.2.2.2.2)) (fun z=>m - z.1)
   (0,(A,c),rs,F,L) ⟨rfl,rfl,rfl,rfl,rfl,rfl,rfl,rfl,av⟩ ⟨a7 _,Gm,⟨hi,hx⟩,by show F.length<=1000+0;omega,bU,hF,hL,hS⟩ ?_
  clear hS hL bU hF oX hi Gm hx;rintro⟨j,⟨A,c⟩,rs,F,L⟩ e w7 ⟨hj,uZ,⟨hi,hx⟩,oX,bU,hF,hL,hS⟩;dsimp only at hj uZ hi hx oX bU hF hL hS|-;refine bL O (aR _ O (fun h2=>?_) (fun h2=>?_))
  ·have im:j<sw.length:=by omega
   have Bw:=hS.bY hR;have Ri:=Bw.at_ (i:=(j:Int)) (by omega) (by omega);have Q0:=hsw (gl sw j) (by rw [bP im];exact dB _);have hpn:(rg qz j).n=n:=by rw [<-Ri.1];exact Q0.1
   have iZ:=Jz hS bU hi;have bW:(rg rs i).n=n:=by rw [<-iZ.1,hx];exact su.1
   have Z4:sw.drop j=gl sw j::sw.drop (j+1):=by rw [List.drop_eq_getElem_cons im,bP im]
   rw [Z4,List.foldl_cons]at uZ;refine aE O (aM Bw.top.2 O (dI Bw.top O (ar O (aM (hS.gQ 0 O).2 O (ajo (i:=(i:Int)) (hS.gQ 0 O) O (by omega) O O (ar O ?_))))));refine ajj (T7 _ _ _ (gl F i) _ _ _ (gl sw j) _ iZ Ri (by omega) (fun k hk=>by
    rw [hx];have:=su.2 (gi x k) (gi_in (by have:=su.1;omega));omega)) rfl rfl rfl ?_
   rintro _ w8 ⟨cL,rfl,au⟩;rw [bW,hx]at au;rw [bW];have xR:=T6 su Q0;have bS:=hS.call au;clear hS au;have bS:St w w8 (az 2 cL n n (pP x (gl sw j))::Bj A F.length c rs F g L):=bS;unfold Gf at uZ;generalize pP x (gl sw j)=q at uZ xR bS;refine ar O (aL (zz cL n n q _ (hT.aq bS.below) (bS.bI 0 O) (qi _ xR) (by omega)) O ?_);rintro _ w9 ⟨rfl,au⟩;have bH:=bS.aq au.below;clear bS au;refine ar O (Vi zA (jm q) (bH.Cu 2 O) O O O ?_);rw [hL q]
   first | refine eA rfl rfl ?_ | refine eU rfl rfl ?_
   refine aI O (aR _ O (fun h3=>?_) (fun h3=>?_))
   ·rw [aw h3]at uZ;refine aE O (Ag O zA 2 (u:=true) (a:=jm q) (vv:=Value.bool) bH O O O O ?_);intro eL bQ;refine ar O (kO bQ O O O ?_);intro A50 fI dX;refine mJ 2 dX O (dX.gQ 0 O) O O O (by omega) (by omega) O ?_;intro Ie I2 fZ dM;have dM:St w fZ (az 2 cL n n q::cd 24 Ie (F.length+1) I2 (rs++ [⟨cL,n,n⟩])::ij 184 g (gw Value.string Value.bool (gX L (jm q) true))::du 2 rs F):=dM.tail;have e1:(F++ [q]).length=F.length+1:=by simp
    have iV:St w fZ (Bj Ie (F++ [q]).length I2 (rs++ [⟨cL,n,n⟩]) (F++ [q]) g (gX L (jm q) true)):=by
     unfold Bj;rw [e1,qy bU];exact dM.perm (me (l₁:=[az 2 cL n n q]))
    refine ar O (aK O (aU O (tQ ?_)));refine⟨(j+1,(Ie,I2),rs++ [⟨cL,n,n⟩],F++ [q],gX L (jm q) true),by show m - (j+1)<m - j;omega,⟨O,O,by show Value.slice _ _ _=Value.slice _ (F++ [q]).length _;rw [e1],O,O,O,O,O,av⟩,by show j+1<=m;omega,uZ,⟨by rw [e1];omega,?_⟩,by show(F++ [q]).length<=1000+ (j+1);omega,by rw [e1,cS,bU];rfl,?_,hL.put q,iV⟩
    ·rw [<-hx,bP (by rw [e1];omega),bP hi,List.getElem_append_left hi]
    ·intro y hy;rcases jz.1 hy with hy | hy
     ·exact hF y hy
     ·rw [gk.1 hy];exact xR
   ·have h3:=iy.1 h3;rw [ay h3]at uZ;refine aE O (aK O (aU O (tQ ?_)));exact⟨(j+1,(A,c),rs,F,L),by show m - (j+1)<m - j;omega,(ajs O),by show j+1<=m;omega,uZ,⟨hi,hx⟩,by show F.length<=1000+ (j+1);omega,bU,hF,hL,bH.tail⟩
  ·have xJ:j=sw.length:=by omega
   rw [xJ,List.drop_length]at uZ;obtain rfl:G=F:=uZ;have hlen:G.length<=1000:=ob fun q=>by rw [aw q]at hf;cases hf
   rw [ay hlen]at hf;refine bw O (bz (dh O (bc O O (aI O ?_))));refine mD O (by omega) (aE O (aK O (aU O (tQ ?_))));exact⟨(f,i+1,(A,c),rs,G,L),Nat.lt_succ_self _,(ajs O),hf,hlen,bU,hF,hL,hS⟩
 ·rw [aw (by omega)]at hf;obtain rfl:F=E:=oh hf;have ZX:∀a,a<F.length->(sv rs a).n<=9223372036854775807:=fun a ha=>by
   have h:=(Jz hS bU ha).1;have h':=(hF (gl F a) (by rw [bP ha];exact dB _)).1;show(rg rs a).n<=_;omega
  refine bw O (bz (dh O ?_));refine ajj (agx 0 hS O (by omega) (fun a=>gl F a) ZX (fun w' q hq1 hq2 h a ha=>by
   have h9:St w w' (cd 24 A F.length c (q.map (sv rs))::ij 184 g (gw Value.string Value.bool L)::du 2 rs F):=h;exact Jz h9 bU ha)) O O O ?_
  rintro _ w7 ⟨rfl,q,hq,hqs,bG⟩;have zr:q.Nodup:=hq.nodup_iff.2 List.nodup_range;have pE:∀a∈q,a<F.length:=fun a h=>fU.1 (hq.mem_iff.1 h)
  have bG:St w w7 ([cd 24 A F.length c (q.map (sv rs)),ij 184 g (gw Value.string Value.bool L)]++du 2 rs F):=bG;have bS:=bG.pick bU zr (fun a h=>by rw [bU];exact pE a h);have Kg:(q.map fun a=>F.getD a [])=X:=by
   refine SL.eq ?_ hX fun x=>?_
   ·refine kM.2 ((List.pairwise_iff_getElem.2 fun a b ha hb dN=>?_):q.Pairwise fun a b=>LT (F.getD a []) (F.getD b []));have h1:=List.pairwise_iff_getElem.1 hqs a b ha hb dN;have bt:q[a]≠q[b]:=fun e=>by have:=(List.getElem_inj zr).1 e;omega
    have ga:q[a]<F.length:=pE _ (dB _);have gb:q[b]<F.length:=pE _ (dB _);have e1:F.getD q[a] []=F[q[a]]:=by rw [cN,fS ga];rfl
    have e2:F.getD q[b] []=F[q[b]]:=by rw [cN,fS gb];rfl
    rw [bP ga,bP gb]at h1;rw [e1,e2];exact MT h1 (fun e=>bt ((List.getElem_inj tj).1 e.symm))
   ·rw [db,ZC];constructor
    ·rintro⟨a,ha,rfl⟩;rw [cN,fS (pE a ha)];exact dB _
    ·intro hx;obtain⟨a,ha,rfl⟩:=List.getElem_of_mem hx;exact⟨a,hq.mem_iff.2 (fU.2 ha),by rw [cN,fS ha];rfl⟩
  have PT:F.length=X.length:=by rw [<-Kg,fk,hq.length_eq,pU]
  rw [Kg,PT]at bS;refine bM O (Tn O O ?_);rw [PT];exact⟨A,c,q.map (sv rs),O,by rw [<-Kg,fk,fk],bS.sub (List.Sublist.cons_cons _ (List.sublist_cons_self _ _))⟩
def sJ(n i:Nat):ai:=((mx (n+1)).set i ((i:Int)+1)).set (i+1) (i:Int)
def jS(n k:Nat):ah:=(List.range k).map (sJ n)
theorem Mp(n k:Nat):(jS n k).length=k:=by simp [jS]
theorem agS(n k:Nat):jS n (k+1)=jS n k++ [sJ n k]:=by simp [jS,lN]
theorem TX{n:Nat}(h:i<k):gl (jS n k) i=sJ n i:=by
 rw [bP (by rw [Mp];exact h)];simp [jS]
theorem TW{n:Nat}(h:i<n):Rg (n+1) (sJ n i):=by
 have h0:Rg (n+1) (mx (n+1)):=⟨by simp [mx],fun x hx=>by
  obtain⟨a,ha,rfl⟩:=db.1 hx;have:=fU.1 ha;omega⟩
 exact(h0.set (j:=i) (v:=(i:Int)+1) (by omega) (by omega)).set (by omega) (by omega)
def zS(n:Nat)(X:ah)(i k:Nat):ai:=(List.range k).map fun f:Nat=> ((X.idxOf (pP (sJ n i) (gl X f)):Nat):Int)
def sH(n:Nat)(X:ah)(k:Nat):ah:=(List.range k).map fun i:Nat=>zS n X i X.length
theorem agn(n:Nat)(X:ah)(i k:Nat):zS n X i (k+1)=zS n X i k++ [((X.idxOf (pP (sJ n i) (gl X k)):Nat):Int)]:=by simp [zS,lN]
theorem TE(n:Nat)(X:ah)(k:Nat):(sH n X k).length=k:=by simp [sH]
theorem agm(n:Nat)(X:ah)(k:Nat):sH n X (k+1)=sH n X k++ [zS n X k X.length]:=by simp [sH,lN]
def z7(L:List (ByteArray×Int))(X:ah)(k:Nat):Prop:=∀j:Nat,j<k->eX L (jm (gl X j))=some (j:Int)
theorem z7.put{L:List (ByteArray×Int)}{X:ah}(h:z7 L X k)(hX:X.Nodup)(hk:k<X.length):z7 (gX L (jm (gl X k)) (k:Int)) X (k+1):=fun j hj=>by
 rw [Dx]
 by_cases e:j=k
 ·subst e;rw [ay rfl]
 rw [aw (fun q=>by
  have q:=Hr q;rw [bP hk,bP (show j<X.length by omega)]at q;exact e ((List.getElem_inj hX).1 q).symm)]
 exact h j (by omega)
theorem z7.all{L:List (ByteArray×Int)}{X:ah}(h:z7 L X X.length){x:ai}(hx:x∈X):eX L (jm x)=some ((X.idxOf x:Nat):Int):=by
 have hl:=List.idxOf_lt_length_of_mem hx;have:=h _ hl
 rwa [bP hl,List.getElem_idxOf]at this
theorem aeP{α:Type}(b g m q1 q2:α)(X Y:List α):(b::g::q1::q2::m::(X++Y)).Perm (g::q1::q2::m::((X++ [b])++Y)):=by
 classical
 refine kN.2 fun z=>?_
 simp only [mb,kL,mE];omega
structure Iz(n:Nat)(E X:ah)(fuel:Nat):Prop where
 n1:n<=90
 run:yK (jS n n) fuel 0 [mx (n+1)]=some E
 Ay:SL X
 mem:∀x,x∈X↔x∈E
 nd:E.Nodup
 Ov:X.length<=1000
 rg:GM (n+1) X
 cl:∀i,i<n->∀f,f<X.length->pP (sJ n i) (gl X f)∈X
theorem agt(n:Nat)(E X:ah)(fuel:Nat)(w:aa)(hT:js w)(dO:Iz n E X fuel):aG prog 80 [ak n] w (CN (sH n X n) w):=by
 obtain⟨ti,qm,PZ,jQ,tj,hfew,PV,dt⟩:=dO;have ZD:=PZ.nodup;have qi:∀x:ai,Rg (n+1) x->∀y∈x,-9223372036854775808<=y/\y<=9223372036854775807:=fun x hx y hy=>by have:=hx.2 y hy;omega
 refine bA func80 O ntmps80 O (rB O O) (a8 O (gf (St.refl w) O ?_));intro A2 w1 aA;have aA:St w w1 (aT 24 2 none 0 0 [] (jS n 0)++ [dY A2 none 0 0]):=aA.nil 24;refine aI O (Cd.loop (α:=Nat×(aj×Nat)×List aN) (fun z=> [(0,ak n),(2,.pointer A2),(3,.slice z.2.1.1 z.1 z.2.1.2),(17,ak n),(18,ak (z.1:Int))]) (fun z w'=>z.1<=n/\z.2.2.length=z.1/\St w w' (aT 24 2 z.2.1.1 z.1 z.2.1.2 z.2.2 (jS n z.1)++ [dY A2 none 0 0])) (fun z=>n - z.1) (0,(none,0),[]) (ajs O) ⟨a7 _,O,aA⟩ ?_);clear aA;rintro⟨i,⟨A3,c3⟩,r3⟩ e w2 ⟨hi,B9,hS⟩;dsimp only at hi B9 hS|-;refine bL O (aR _ O (fun h1=>?_) (fun h1=>?_))
 ·have bX:i<n:=by omega
  refine aE O (aK O ?_);refine aL (RG (n+1) _ (by omega)) O ?_;rintro _ w3 ⟨A5,rfl,au⟩;have aH:St w w3 (az 2 A5 (n+1) (n+1) (mx (n+1))::(aT 24 2 A3 i c3 r3 (jS n i)++ [dY A2 none 0 0])):=hS.call au;clear hS au;refine ar O (aK O (ar O (aK O (ar O ?_))));refine aM (aH.bI 0 O).2 O (lu 0 (i:=(i:Int)) aH O O O (by omega) ?_);intro w4 aV;refine aM (aV.bI 0 O).2 O (lu 0 (i:=(i:Int)+1) aV O O O (by omega) ?_);intro w5 aW;have aW:St w w5 (az 2 A5 (n+1) (n+1) (sJ n i)::(aT 24 2 A3 i c3 r3 (jS n i)++ [dY A2 none 0 0])):=aW;clear aH aV;refine ar O (kO aW O O O ?_);intro A36 w6 ba;refine mJ 2 ba O (ba.gQ 0 O) O O O (by omega) (by omega) O ?_;intro qE rV w7 bG;have bG:St w w7 (az 2 A5 (n+1) (n+1) (sJ n i)::cd 24 qE (i+1) rV (r3++ [⟨A5,n+1,n+1⟩])::(du 2 r3 (jS n i)++ [dY A2 none 0 0])):=bG.tail;refine ar O (aK O (aU O (tQ ?_)));refine⟨(i+1,(qE,rV),r3++ [⟨A5,n+1,n+1⟩]),by show n - (i+1)<n - i;omega,(ajs O),bX,by show(r3++ [_]).length=i+1;rw [cS,B9];rfl,?_⟩;show St w w7 (aT _ _ qE (i+1) rV (r3++ [_]) (jS n (i+1))++_);rw [agS];unfold aT;rw [qy (by rw [B9,Mp])];refine bG.perm ?_;rw [List.cons_append,jy];exact(List.Perm.swap _ _ _).trans (List.Perm.cons _ (uL (l₁:=du 2 r3 (jS n i))).symm)
 obtain rfl:i=n:=by omega
 have abw:GM (i+1) (jS i i):=fun p hp=>by
  obtain⟨a,ha,rfl⟩:=db.1 hp;exact TW (fU.1 ha)
 have zv:=Mp i i;refine bw O (bz (dh O (aK O (ar O ?_))));refine aL (Yr (i+1) A3 i c3 r3 (jS i i) E X fuel _ (hT.aq hS.below) (by omega) ((hS.sub (qI _ _)).kb zv) (by omega) abw qm PZ jQ tj) O ?_;rintro _ w3 ⟨AE,cE,rE,rfl,wm,au⟩;have aH:=hS.call au;clear hS au;refine ar O (C0 aH O ?_);intro g w4 aV;have aV:St w w4 (ij 124 g (gw Value.string (Value.int .i64) [])::(aT 24 2 AE X.length cE rE X++ (aT 24 2 A3 i c3 r3 (jS i i)++ [dY A2 none 0 0]))):=aV;clear aH;refine ar O (bc O O (aI O ?_));refine Cd.loop (α:=Nat×List (ByteArray×Int)) (fun z=> [(0,ak i),(2,.pointer A2),(3,.slice A3 i c3),(6,.slice AE X.length cE),(8,.map (some g)),(47,.slice AE X.length cE),(48,ak (X.length:Int)),(49,ak (z.1:Int))]) (fun z w'=>z.1<=X.length/\z7 z.2 X z.1/\St w w' (ij 124 g (gw Value.string (Value.int .i64) z.2)::(aT 24 2 AE X.length cE rE X++ (aT 24 2 A3 i c3 r3 (jS i i)++ [dY A2 none 0 0])))) (fun z=>X.length - z.1) (0,[]) (ajs O) ⟨a7 _,fun j hj=> (by omega),aV⟩ ?_;clear aV;rintro⟨k,L⟩ e w5 ⟨hk,hL,hS⟩;dsimp only at hk hL hS|-;refine bL O (aR _ O (fun h2=>?_) (fun h2=>?_))
 ·have eN:k<X.length:=by omega
  have Ke:br w5 AE X.length rE X:=(hS.sub ((qI _ _).cons _)).kb O;have RA:=PV (gl X k) (by rw [bP eN];exact dB _);have jw:=Ke.at_ (i:=(k:Int)) (by omega) (by omega);refine aE O (aM Ke.top.2 O (dI Ke.top O (ar O ?_)));refine aL (zz _ _ _ (gl X k) _ (hT.aq hS.below) jw (qi _ RA) (by have:=jw.1;have:=RA.1;omega)) O ?_;rintro _ w6 ⟨rfl,au⟩;have ba:=hS.aq au.below;refine ar O (Ag O zA 0 (u:=(k:Int)) (a:=jm (gl X k)) (vv:=Value.int .i64) ba O O O O ?_);intro w7 bG;refine ar O (aK O (aU O (tQ ?_)));exact⟨(k+1,gX L (jm (gl X k)) (k:Int)),by show X.length - (k+1)<X.length - k;omega,(ajs O),eN,hL.put ZD eN,bG⟩
 obtain rfl:k=X.length:=by omega
 refine bw O (bz (dh O ?_));refine gf hS O ?_;intro cL w6 ba;have ba:St w w6 (dY cL none 0 0::ij 124 g (gw Value.string (Value.int .i64) L)::(aT 24 2 AE X.length cE rE X++ (aT 24 2 A3 i c3 r3 (jS i i)++ [dY A2 none 0 0]))):=ba;have ba:St w w6 (ij 124 g (gw Value.string (Value.int .i64) L)::dY cL none 0 0::dY A2 none 0 0::(aT 24 2 none 0 0 [] (sH i X 0)++ (aT 24 2 AE X.length cE rE X++aT 24 2 A3 i c3 r3 (jS i i)))):=((ba.nil 24).perm (by
  classical
  refine kN.2 fun z=>?_
  simp only [show sH i X 0=[] from rfl,aT,du,cd,List.map_nil,mb,kL,mE];omega))
 clear hS;refine ar O (bc O O (aI O ?_));refine Cd.loop (α:=Nat×(aj×Nat)×List aN) (fun z=> [(2,.pointer A2),(6,.slice AE X.length cE),(8,.map (some g)),(11,.pointer cL),(59,.slice A3 i c3),(60,ak i),(61,ak (z.1:Int))]) (fun z w'=>z.1<=i/\z.2.2.length=z.1/\St w w' (ij 124 g (gw Value.string (Value.int .i64) L)::dY cL z.2.1.1 z.1 z.2.1.2::dY A2 none 0 0::(aT 24 2 z.2.1.1 z.1 z.2.1.2 z.2.2 (sH i X z.1)++ (aT 24 2 AE X.length cE rE X++aT 24 2 A3 i c3 r3 (jS i i))))) (fun z=>i - z.1) (0,(none,0),[]) (ajs O) ⟨a7 _,O,ba⟩ ?_;clear ba;rintro⟨s,⟨AX,cX⟩,rX⟩ e w7 ⟨hs,ru,hS⟩;dsimp only at hs ru hS|-;refine bL O (aR _ O (fun h3=>?_) (fun h3=>?_))
 ·have uo:s<i:=by omega
  have Gw:br w7 A3 i r3 (jS i i):=(hS.sub ((((mH _ _).trans (mH _ _)).cons _ |>.cons _).cons _)).kb zv;have ic:=Gw.at_ (i:=(s:Int)) (by omega) (by omega);rw [TX uo]at ic;have xV:=TW uo;have K8:(rg r3 s).n=i+1:=by rw [<-ic.1];exact xV.1
  refine aE O (aM Gw.top.2 O (dI Gw.top O ?_));refine ar O (bc O O (aI O ?_));refine Cd.loop (α:=Nat×(aj×Nat)) (fun z=> [(2,.pointer A2),(6,.slice AE X.length cE),(8,.map (some g)),(11,.pointer cL),(13,.slice (rg r3 s).a (rg r3 s).n (rg r3 s).c),(14,.slice z.2.1 z.1 z.2.2),(59,.slice A3 i c3),(60,ak i),(61,ak s),(65,.slice AE X.length cE),(66,ak (X.length:Int)),(67,ak (z.1:Int))]) (fun z w'=>z.1<=X.length/\St w w' (az 2 z.2.1 z.1 z.2.2 (zS i X s z.1)::ij 124 g (gw Value.string (Value.int .i64) L)::dY cL AX s cX::dY A2 none 0 0::(aT 24 2 AX s cX rX (sH i X s)++ (aT 24 2 AE X.length cE rE X++aT 24 2 A3 i c3 r3 (jS i i))))) (fun z=>X.length - z.1) (0,(none,0)) (ajs O) ⟨a7 _,hS.nil 2⟩ ?_;clear hS Gw ic;rintro⟨f,⟨AM,cM⟩⟩ e w8 ⟨hf,hS⟩;dsimp only at hf hS|-;refine bL O (aR _ O (fun h4=>?_) (fun h4=>?_))
  ·have kH:f<X.length:=by omega
   have Kf:br w8 AE X.length rE X:=(hS.sub (((((qI _ _).trans (mH _ _)).cons _ |>.cons _).cons _).cons _)).kb O;have ZB:br w8 A3 i r3 (jS i i):=(hS.sub (((((mH _ _).trans (mH _ _)).cons _ |>.cons _).cons _).cons _)).kb zv;have ic:=ZB.at_ (i:=(s:Int)) (by omega) (by omega);rw [TX uo]at ic;have Rz:=PV (gl X f) (by rw [bP kH];exact dB _);have rv:=Kf.at_ (i:=(f:Int)) (by omega) (by omega);have hxn:(rg rE f).n=i+1:=by rw [<-rv.1];exact Rz.1
   have bW:=dt s uo f kH;refine aE O (aM Kf.top.2 O (dI Kf.top O (ar O ?_)));refine ajj (T7 _ _ _ (sJ i s) _ _ _ (gl X f) _ ic rv (by omega) (fun k hk=>by
    have:=xV.2 (gi (sJ i s) k) (gi_in (by have:=xV.1;omega));omega)) rfl rfl rfl ?_
   rintro _ w9 ⟨Uz,rfl,au⟩;rw [K8]at au|-;have xR:=T6 xV Rz;have Hh:=au.bI 0 O;have bH:=hS.aq au.below;refine aL (zz Uz (i+1) (i+1) _ _ (hT.aq bH.below) Hh (qi _ xR) (by omega)) O ?_;rintro _ eL ⟨rfl,jk⟩;have bQ:=bH.aq jk.below;refine Vk zA (jm (pP (sJ i s) (gl X f))) (bQ.Cu 1 O) O O O ?_;rw [hL.all bW];refine eH bQ O O O fun A78 fI dX=>fN 1 dX O (dX.bI 0 O) O O O fun ME NI fZ dM=>ar O (aK O (aU O (tQ ?_)));refine⟨(f+1,(ME,NI)),by show X.length - (f+1)<X.length - f;omega,(ajs O),kH,?_⟩;show St w fZ (az _ ME (f+1) NI (zS i X s (f+1))::_);rw [agn];exact dM.tail
  obtain rfl:f=X.length:=by omega
  refine bw O (bz (dh O ?_));refine aX (hS.rd 2 O) O (ajn (j:=0) (hS.rd 2 O) O O O O O (ar O (kO hS O O O ?_)));intro Uy eL bQ;refine mJ 5 bQ O (bQ.gQ 0 O) O O O (by omega) (by omega) O fun AZ cZ fI dX=>aX (dX.rd 3 O) O (kf 3 (j:=0) dX O O O O O ?_);intro fZ dM;have dM:=dM.tail.perm (aeP _ _ _ _ _ _ _);refine ar O (aK O (aU O (tQ ?_)));refine⟨(s+1,(AZ,cZ),rX++ [⟨AM,X.length,cM⟩]),by show i - (s+1)<i - s;omega,(ajs O),by show s+1<=i;omega,by show(rX++ [_]).length=s+1;rw [cS,ru];rfl,?_⟩;show St w fZ (ij _ g _::dY cL AZ (s+1) cZ::dY A2 none 0 0::(aT 24 2 AZ (s+1) cZ (rX++ [_]) (sH i X (s+1))++ (aT 24 2 AE X.length cE rE X++aT 24 2 A3 i c3 r3 (jS i i))));rw [agm];unfold aT;rw [qy (by rw [ru,TE])];exact dM
 obtain rfl:s=i:=by omega
 refine bw O (bz (dh O ?_));refine ao.b7 0 (hS.rd 1 O) O O O (cG 1 2 hS O O O O O O O ?_);intro w8 bS;refine bM O (rF O (bS.rd 2 O) ?_);have hl:=TE s X s;refine⟨AX,cX,rX,by rw [hl];rfl,by rw [hl];exact ru,?_⟩;rw [hl];exact bS.sub (show List.Sublist _ (_::_::_::_) from(((qI _ _).cons _ |>.cons _).cons _))
end
section
variable{N:Nat}{X Y C:ah}
def zZ(N:Nat)(X Y:ah)(t:ai):Prop:=t.length=N/\t.Nodup/\(∀x∈t,0<=x/\x< (N:Int))/\Y.length=X.length/\∀i,i<X.length->∀a,a<N->gi (gl Y i) (gi t a)=gi t (gi (gl X i) a)
instance (N:Nat)(X Y:ah)(t:ai):Decidable (zZ N X Y t):=by unfold zZ;infer_instance
theorem Hq{t:ai}(h:zZ N X Y t):iz N X Y (gi t):=by
 obtain⟨hl,hn,hr,hY,hc⟩:=h;refine⟨hY,fun x h0 h1=>?_,fun x y h0 h1 h2 h3 e=>?_,fun i x hi h0 h1=>?_⟩
 ·obtain⟨a,rfl⟩:∃a:Nat,x=a:=⟨x.toNat,by omega⟩;exact hr _ (gi_in (by omega))
 ·obtain⟨a,rfl⟩:∃a:Nat,x=a:=⟨x.toNat,by omega⟩;obtain⟨b,rfl⟩:∃b:Nat,y=b:=⟨y.toNat,by omega⟩;rw [bO (by omega),bO (by omega)]at e;have:=(List.getElem_inj hn).1 e;omega
 obtain⟨a,rfl⟩:∃a:Nat,x=a:=⟨x.toNat,by omega⟩;exact hc i hi a (by omega)
def Nn(N:Nat)(X Y:ah)(b:Int):ai:=(List.range N).map fun x:Nat=>gi (b8 N Y b) (((b8 N X 0).idxOf (x:Int):Nat):Int)
def Fv(N:Nat)(X:ah):ah:=X.map fun m=>Nn N X X (gi m 0)
def C7(N:Nat)(X:ah):Prop:=(∀t∈Fv N X,zZ N X X t)/\(b8 N (Fv N X) 0).length=N
instance (N:Nat)(X:ah):Decidable (C7 N X):=by unfold C7;infer_instance
theorem afH(hM:aZ X)(hN:N=(gl X 0).length)(h:C7 N X)(f:Nat)(hf:f<N):dV N X f=dV N X 0:=by
 obtain⟨h1,h2⟩:=h;have hs:Sys N (Fv N X):=fun t ht=> ⟨(h1 t ht).1,fun x h0 h3=> (Hq (h1 t ht)).cj x h0 h3⟩
 have hr:=(vo hs (by omega)).1 h2 (f:Int) (by omega) (by omega);have key:∀y:Int,Reach (Fv N X) 0 y->(0<=y/\y<N)/\dV N X y=dV N X 0:=fun y hy=>by
  induction hy with
  | refl=>exact⟨⟨by omega,by omega⟩,rfl⟩
  | step _ hm ih=>exact⟨(Hq (h1 _ hm)).cj _ ih.1.1 ih.1.2,by rw [F6 (Hq (h1 _ hm)) hM hN ih.1.1 ih.1.2];exact ih.2⟩
 exact(key _ hr).2
theorem OX{N:Nat}{X:ah}(h:∀f:Nat,f<N->dV N X f=dV N X 0):∀k,k<N->mR N X (k+1)=[dV N X 0]
 | 0,_=>by simp [mR]
 | k+1,hk=>by
  rw [mR,OX h k (by omega),ay (by rw [h (k+1) hk];exact gk.2 rfl)]
theorem afI(hM:aZ X)(hN:N=(gl X 0).length)(h:C7 N X):(mR N X N).length=1:=by
 have:=hM.2.1;obtain⟨k,rfl⟩:∃k,N=k+1:=⟨N - 1,by omega⟩;rw [OX (afH hM hN h) k (by omega)]
 rfl
theorem Xm{t:ai}(hC:aZ C)(hY:aZ Y)(hN:N=(gl C 0).length)(PH:(gl Y 0).length=N)(h:zZ N C Y.reverse t):iP N (rZ Y)=iP N C:=by
 obtain⟨φ,h2⟩:=Xi hY;rw [PH]at h2;have h3:=(Hq h).comp h2;refine ado h3 (fun y hy=>?_) hC hN (Jg hY) (by rw [Jh hY];exact PH.symm);obtain⟨x,⟨qn,gI⟩,e⟩:=h3.zH (y:=(y:Int)) (by omega) (by omega);exact⟨x.toNat,by omega,by rw [Int.toNat_of_nonneg qn];exact e⟩
def wM(n:Nat):Nat->Int
 | 0=>1
 | k+1=>wM n k* ((n:Int)+1 - ((k:Int)+1)+1) / ((k:Int)+1)
def tA(n:Nat):Nat->Int
 | 0=>1
 | k+1=>tA n k* ((n:Int) - ((k:Int)+1)+1) / ((k:Int)+1)
def uz:Nat->Int
 | 0=>1
 | k+1=>uz k*2
theorem aeZ:∀k,k<5->0<=uz k/\uz k<=100:=by decide
structure pn(n N:Nat)(X:ah)(cs:ai):Prop where
 ll:aZ X
 len:X.length=n
 num:(gl X 0).length=N
 oS:kS X=cs
 reg:(mR N X N).length=1
structure rT(n Na N:Nat)(a b c:ah)(p q r:ai):Prop where
 one:pn n Na a p
 two:pn n N b q
 three:pn n N c r
 spec:pO n n=a
 impl:sH n (di n) n=a
 Dg:fW 1 (n - 1)=b
 De:fW 2 (n - 1)=c
 self:iP Na a=iP Na (rZ a)
 oU:iP N (rZ b)=iP N c
 pl:p.length=n/\q.length=n/\r.length=n
 pb:∀i:Nat,i<n->gi p i=wM n (i+1)
 qb:∀i:Nat,i<n->gi q i=tA n i*uz (n - i)
 rb:∀i:Nat,i<n->gi r ((n:Int) - 1 - (i:Int))=gi q i
def TF:ah:=[[2,4,0,5,1,3],[1,0,3,2,5,4]]
def TG:ah:=[[6,7,12,13,18,19,0,1,14,15,20,21,2,3,8,9,22,23,4,5,10,11,16,17],[2,4,0,5,1,3,8,10,6,11,7,9,14,16,12,17,13,15,20,22,18,23,19,21],[1,0,3,2,5,4,7,6,9,8,11,10,13,12,15,14,17,16,19,18,21,20,23,22]]
theorem zG{n:Nat}{cs:ai}(hM:aZ X)(hl:X.length=n)(hN:(gl X 0).length=N)(hc:kS X=cs)(hr:C7 N X):pn n N X cs:=⟨hM,hl,hN,hc,afI hM hN.symm hr⟩
theorem zF:pn 1 2 eZ [2]:=zG (by decide+kernel) rfl rfl (by decide+kernel) (by decide+kernel)
theorem SK:pn 2 8 EZ [4,4]:=zG (by decide+kernel) rfl rfl (by decide+kernel) (by decide+kernel)
theorem SM:pn 2 8 E0 [4,4]:=zG (by decide+kernel) rfl rfl (by decide+kernel) (by decide+kernel)
theorem SI:pn 3 48 FH [8,12,6]:=zG (by decide+kernel) rfl rfl (by decide+kernel) (by decide+kernel)
theorem SJ:pn 3 48 FI [6,12,8]:=zG (by decide+kernel) rfl rfl (by decide+kernel) (by decide+kernel)
theorem LX:pn 2 6 TF [3,3]:=zG (by decide+kernel) rfl rfl (by decide+kernel) (by decide+kernel)
theorem LY:pn 3 24 TG [4,6,4]:=zG (by decide+kernel) rfl rfl (by decide+kernel) (by decide+kernel)
theorem Bc{n:Nat}{p q:ai}(hC:pn n N C p)(hY:pn n N Y q)(h:zZ N C Y.reverse (Nn N C Y.reverse 0)):iP N (rZ Y)=iP N C:=Xm hC.ll hY.ll hC.num.symm hY.num h
theorem agp:rT 1 2 2 eZ eZ eZ [2] [2] [2] where
 one:=zF
 two:=zF
 three:=zF
 spec:=by decide+kernel
 impl:=by decide+kernel
 Dg:=rfl
 De:=rfl
 self:=(Bc zF zF (by decide+kernel)).symm
 oU:=Bc zF zF (by decide+kernel)
 pl:=by decide
 pb:=by decide+kernel
 qb:=by decide+kernel
 rb:=by decide+kernel
theorem agq:rT 2 6 8 TF EZ E0 [3,3] [4,4] [4,4] where
 one:=LX
 two:=SK
 three:=SM
 spec:=by decide+kernel
 impl:=by decide+kernel
 Dg:=TP
 De:=TQ
 self:=(Bc LX LX (by decide+kernel)).symm
 oU:=Bc SM SK (by decide+kernel)
 pl:=by decide
 pb:=by decide+kernel
 qb:=by decide+kernel
 rb:=by decide+kernel
theorem agr:rT 3 24 48 TG FH FI [4,6,4] [8,12,6] [6,12,8] where
 one:=LY
 two:=SI
 three:=SJ
 spec:=by decide+kernel
 impl:=by decide+kernel
 Dg:=Wq
 De:=Wr
 self:=(Bc LY LY (by decide+kernel)).symm
 oU:=Bc SJ SI (by decide+kernel)
 pl:=by decide
 pb:=by decide+kernel
 qb:=by decide+kernel
 rb:=by decide+kernel
theorem ags(n:Nat)(h1:1<=n)(h3:n<=3):∃Na N a b c p q r,rT n Na N a b c p q r:=by
 rcases(show n=1\/n=2\/n=3 by omega)with rfl | rfl | rfl
 ·exact⟨_,_,_,_,_,_,_,_,agp⟩
 ·exact⟨_,_,_,_,_,_,_,_,agq⟩
 exact⟨_,_,_,_,_,_,_,_,agr⟩
instance (n:Nat):Decidable (C9 n):=by unfold C9;infer_instance
theorem TJ:∀n,n<4->C9 n:=by decide+kernel
def Bi(n:Nat):ah:=(yK (jS n n) 100 0 [mx (n+1)]).getD []
theorem X9:∀n,n<4->yK (jS n n) 100 0 [mx (n+1)]=some (Bi n):=by decide+kernel
theorem O2:∀n,n<4->(∀x∈di n,x∈Bi n)/\∀x∈Bi n,x∈di n:=by decide+kernel
theorem Ya:∀n,n<4->(Bi n).Nodup:=by decide+kernel
instance decLT(a b:ai):Decidable (LT a b):=by unfold LT;infer_instance
theorem Yb:∀n,n<4->(di n).Pairwise LT:=by decide+kernel
theorem Yc:∀n,n<4->∀x∈di n,x.length=n+1/\∀y∈x,0<=y/\y< ((n+1:Nat):Int):=by decide+kernel
theorem Yf:∀n,n<4->∀i,i<n->∀f,f< (di n).length->pP (sJ n i) (gl (di n) f)∈di n:=by decide+kernel
theorem ago{n:Nat}(h:n<=3):Iz n (Bi n) (di n) 100:=⟨by omega,X9 n (by omega),Yb n (by omega),fun x=> ⟨(O2 n (by omega)).1 x,(O2 n (by omega)).2 x⟩,Ya n (by omega),(TJ n (by omega)).2.1,Yc n (by omega),Yf n (by omega)⟩
end
section
open Go.RowKit
theorem ac1{M K:ah}{kind:Int}(h1:oE M K kind=0):∀X Z Y W cx cz cy cw uG vu w',uJ w' X (fD M.length (bo M M.length)) (aF M M.length) Y uG (bD M)->uJ w' Z (fD K.length (bo K K.length)) (aF K K.length) W vu (bD K)->aG prog 154 [.agg #[ak (M.length:Int),.slice X (aF M M.length+2) cx,.slice Y (aF M M.length+2) cy],.agg #[ak (K.length:Int),.slice Z (aF K K.length+2) cz,.slice W (aF K K.length+2) cw],ak kind] w' (gR (lH M K kind) (Cq M K kind) w'):=by
 obtain⟨nN,uf,ue⟩:=EN h1;obtain⟨kY,mT⟩:=qQ uf;obtain⟨mh,oZ⟩:=qQ ue;obtain⟨ok,KR,QX,Zn⟩:=ae9 h1;have hP:ok=true->rC M K kind=((gK M K kind:Nat):Int)/\gm ((gK M K kind:Nat):Int) (nq M K kind) (np M K kind):=fun h=>by
  have h0:=KR.1 h;have hd:=(L1 h0).1;unfold rC nq np;rw [ay h0,ay h0,ay h0];exact⟨O,hd⟩
 have e1:(if ok=true then yb (gK M K kind) (nq M K kind) (np M K kind)else [])=lH M K kind:=by
  cases ok
  ·have h3:=QX O;unfold lH;rw [aw (by decide),aw (by rw [h3];decide)]
  have h0:=KR.1 O;unfold lH nq np;rw [ay rfl,ay h0,ay h0,ay h0]
 have e2:(if ok=true then ya (gK M K kind) (nq M K kind) (np M K kind)else 3)=Cq M K kind:=by
  cases ok
  ·have h3:=QX O;unfold Cq;rw [aw (by decide),aw (by rw [h3];decide),h3]
  have h0:=KR.1 O;unfold Cq nq np;rw [ay rfl,ay h0,ay h0,ay h0]
 exact fun X Z Y W cx cz cy cw uG vu w' iX ou=>by
  have:=ac0 X Z Y W cx cz cy cw _ _ _ _ M.length K.length kind ok (rC M K kind) (gK M K kind) (nq M K kind) (np M K kind) w' (fun w2 hb=>Zn X Z Y W cx cz cy cw uG vu w2 (iX.aq hb) (ou.aq hb)) hP;rw [e1,e2]at this;exact this
theorem TL(n kind:Int)(hn:1<=n/\n<=4)(hk:kind=1\/kind=2)(w:aa):
 aG prog 84 [ak n,ak kind] w (CN (fW kind (n - 1).toNat) w):=by
 refine bA func84 O ntmps84 O (rB O O) (a8 O (gf (St.refl w) O ?_));intro A4 w1 aA;refine ar O (aL (TK _) O ?_);rintro _ w2 ⟨E,r,rfl,au⟩;have aB:=aA.call2 au;refine gf aB O fun A5 w3 aH=>cG 1 0 aH O O O O O O O fun w4 aV=>aI O ?_;refine Cd.loop (α:=Nat×(aj×Nat)×List aN) (fun z=> [(0,ak n),(1,ak kind),(4,.pointer A4),(5,.pointer A5),(6,ak ((z.1:Int)+1))]) (fun z w'=> (z.1:Int)<=n - 1/\z.2.2.length=(fW kind z.1).length/\St w w' ([dY A5 z.2.1.1 (fW kind z.1).length z.2.1.2,dY A4 none 0 0]++aT 24 2 z.2.1.1 (fW kind z.1).length z.2.1.2 z.2.2 (fW kind z.1))) (fun z=> (n - 1).toNat - z.1) (0,(E,1),[r]) (ajs O) ⟨by show(0:Int)<=n - 1;omega,O,aV⟩ ?_;clear aV aH aB aA au;rintro⟨j,⟨A,c⟩,rs⟩ e w5 ⟨hj,bU,aW⟩;dsimp only at hj bU aW|-;have mn:=aW.rd 0 O;have xv:br w5 A (fW kind j).length rs (fW kind j):=St.kb aW.tail.tail O;refine bL O (aR _ O (fun h1=>?_) (fun h1=>?_))
 ·have hg:=Df hk j (by omega);have hp:=(HK hg.2).1;obtain⟨kY,mT⟩:=qQ hg.1;have Bt:=ac1 hp;refine aE O (ao.b7 0 mn O O O (aL (R0 A (fW kind j).length c rs (fW kind j) _ xv kY mT.1) O ?_));rintro _ w6 ⟨X,cx,Y,cy,ys,rfl,zy,Hh⟩;have iX:=Oj kY mT.1 Hh;have ba:=aW.aq Hh.below;refine aL (TK _) O ?_;intro v7 w7 h7;obtain⟨E',r',rfl,hE,xC⟩:=h7.rows;have bG:=ba.aq xC;refine aL (R0 E' 1 1 [r'] eZ _ hE FW (by show aF eZ 1<=500;rw [Bd];omega)) O ?_;rintro _ w8 ⟨Z,cz,W,cw,zs,rfl,Ho,jk⟩;have ou:=Oj FW (by show aF eZ 1<=500;rw [Bd];omega) jk;have bS:=bG.aq jk.below;refine ar O (aL (Bt X Z Y W cx cz cy cw ys zs _ ((iX.aq xC).aq jk.below) ou) O ?_);rintro _ w9 ⟨Am,cm,jR,rfl,o8,au⟩;have bH:=bS.call2 au;refine ar O (gf bH O ?_);intro A7 eL bQ;refine cG 1 0 bQ O O O O O O O fun fI dX=>ar O (ao.b7 0 (dX.rd 0 O) O O O (cG 1 1 dX O O O O O O O ?_));intro fZ dM;refine ar O (aK O (aU O (tQ ?_)));exact⟨(j+1,(Am,cm),jR),by show(n - 1).toNat - (j+1)< (n - 1).toNat - j;omega,(ajs O),by show((j+1:Nat):Int)<=n - 1;omega,o8,dM.sub (List.Sublist.cons _ (List.Sublist.cons_cons _ (List.Sublist.cons_cons _ (mH _ _))))⟩
 have pB:(n - 1).toNat=j:=by omega
 rw [pB];refine bw O (bz (dh O ?_));refine ao.b7 0 mn O O O (cG 1 1 aW O O O O O O O ?_);intro w6 ba;refine bM O (rF O (ba.rd 1 O) ?_);exact⟨A,c,rs,O,bU,ba.tail.tail⟩
theorem ab0(n:Int)(w:aa)(hT:js w):
 aG prog 31 [ak n] w (gR (if 1<=n/\n<=4 then fW 1 (n - 1).toNat else []) (if 1<=n/\n<=4 then 0 else 2) w):=by
 refine bA func31 O ntmps31 O (pc O O) (a8 O (gf (St.refl w) O ?_));intro A2 w1 aA;refine ar O (aL (sL n 1 4 _) O ?_);rintro _ w2 ⟨rfl,au⟩;subst au
 first | refine eA rfl rfl ?_ | refine eU rfl rfl ?_
 refine aI O (aR _ O (fun h1=>?_) (fun h1=>?_))
 ·have h1:¬(1<=n/\n<=4):=h1;rw [aw h1,aw h1];refine aE O (uO (by exact inferInstance) O (cG 1 0 aA O O O O O O O ?_));intro w3 aH;refine bM O (iL O (aH.rd 0 O) O ?_);exact gR.none aH
 have h1:1<=n/\n<=4:=iy.1 h1;rw [ay h1,ay h1];refine aE O ?_;refine aL (RI n 1 ⟨by omega,by omega⟩ (by omega) _ (hT.aq aA.below)) O ?_;rintro _ w3 ⟨A,c,rs,rfl,bU,au⟩;have aH:=aA.call2 au;refine cG 1 0 aH O O O O O O O fun w4 aV=>bM O (iL O (aV.rd 0 O) O ?_);exact⟨A,c,rs,O,bU,aV.tail⟩
theorem abZ(n:Int)(w:aa)(hT:js w):
 aG prog 32 [ak n] w (gR (if 1<=n/\n<=4 then fW 2 (n - 1).toNat else []) (if 1<=n/\n<=4 then 0 else 2) w):=by
 refine bA func32 O ntmps32 O (pc O O) (a8 O (gf (St.refl w) O ?_));intro A2 w1 aA;refine ar O (aL (sL n 1 4 _) O ?_);rintro _ w2 ⟨rfl,au⟩;subst au
 first | refine eA rfl rfl ?_ | refine eU rfl rfl ?_
 refine aI O (aR _ O (fun h1=>?_) (fun h1=>?_))
 ·have h1:¬(1<=n/\n<=4):=h1;rw [aw h1,aw h1];refine aE O (uO (by exact inferInstance) O (cG 1 0 aA O O O O O O O ?_));intro w3 aH;refine bM O (iL O (aH.rd 0 O) O ?_);exact gR.none aH
 have h1:1<=n/\n<=4:=iy.1 h1;rw [ay h1,ay h1];refine aE O ?_;refine aL (RI n 2 ⟨by omega,by omega⟩ (by omega) _ (hT.aq aA.below)) O ?_;rintro _ w3 ⟨A,c,rs,rfl,bU,au⟩;have aH:=aA.call2 au;refine cG 1 0 aH O O O O O O O fun w4 aV=>bM O (iL O (aV.rd 0 O) O ?_);exact⟨A,c,rs,O,bU,aV.tail⟩
theorem agH(n:Int)(w:aa):
 aG prog 34 [ak n] w (gR (if 1<=n/\n<=4 then fW 1 (n - 1).toNat else []) (if 1<=n/\n<=4 then 0 else 2) w):=by
 refine bA func34 O ntmps34 O (pc O O) (a8 O (gf (St.refl w) O ?_));intro A2 w1 aA;refine ar O (aL (Lv n 1 4 _) O ?_);rintro _ w2 ⟨rfl,au⟩;subst au
 first | refine eA rfl rfl ?_ | refine eU rfl rfl ?_
 refine aI O (aR _ O (fun h1=>?_) (fun h1=>?_))
 ·have h1:¬(1<=n/\n<=4):=h1;rw [aw h1,aw h1];refine aE O (uO (by exact inferInstance) O (cG 1 0 aA O O O O O O O ?_));intro w3 aH;refine bM O (iL O (aH.rd 0 O) O ?_);exact gR.none aH
 have h1:1<=n/\n<=4:=iy.1 h1;rw [ay h1,ay h1];refine aE O ?_;refine aL (TL n 1 ⟨by omega,by omega⟩ (by omega) _) O ?_;rintro _ w3 ⟨A,c,rs,rfl,bU,au⟩;have aH:=aA.call2 au;refine cG 1 0 aH O O O O O O O fun w4 aV=>bM O (iL O (aV.rd 0 O) O ?_);exact⟨A,c,rs,O,bU,aV.tail⟩
theorem agG(n:Int)(w:aa):
 aG prog 35 [ak n] w (gR (if 1<=n/\n<=4 then fW 2 (n - 1).toNat else []) (if 1<=n/\n<=4 then 0 else 2) w):=by
 refine bA func35 O ntmps35 O (pc O O) (a8 O (gf (St.refl w) O ?_));intro A2 w1 aA;refine ar O (aL (Lv n 1 4 _) O ?_);rintro _ w2 ⟨rfl,au⟩;subst au
 first | refine eA rfl rfl ?_ | refine eU rfl rfl ?_
 refine aI O (aR _ O (fun h1=>?_) (fun h1=>?_))
 ·have h1:¬(1<=n/\n<=4):=h1;rw [aw h1,aw h1];refine aE O (uO (by exact inferInstance) O (cG 1 0 aA O O O O O O O ?_));intro w3 aH;refine bM O (iL O (aH.rd 0 O) O ?_);exact gR.none aH
 have h1:1<=n/\n<=4:=iy.1 h1;rw [ay h1,ay h1];refine aE O ?_;refine aL (TL n 2 ⟨by omega,by omega⟩ (by omega) _) O ?_;rintro _ w3 ⟨A,c,rs,rfl,bU,au⟩;have aH:=aA.call2 au;refine cG 1 0 aH O O O O O O O fun w4 aV=>bM O (iL O (aV.rd 0 O) O ?_);exact⟨A,c,rs,O,bU,aV.tail⟩
theorem ab2(n:Nat)(E X:ah)(fuel:Nat)(w:aa)(hn:1<=n/\n<=4)(hT:js w)(dO:Iz n E X fuel):
 aG prog 30 [ak n] w (gR (sH n X n) 0 w):=by
 refine bA func30 O ntmps30 O (pc O O) (a8 O (gf (St.refl w) O ?_));intro A2 w1 aA;refine ar O (aL (sL n 1 4 _) O ?_);rintro _ w2 ⟨rfl,au⟩;subst au
 first | refine eA rfl rfl ?_ | refine eU rfl rfl ?_
 refine aI O (mD O (fun h=>h (by omega)) (aE O (aL (agt n E X fuel _ (hT.aq aA.below) dO) O ?_)));rintro _ w3 ⟨A,c,rs,rfl,bU,au⟩;have aH:=aA.call2 au;refine cG 1 0 aH O O O O O O O fun w4 aV=>bM O (iL O (aV.rd 0 O) O ?_);exact⟨A,c,rs,O,bU,aV.tail⟩
theorem agI(n:Nat)(w:aa)(hn:1<=n/\n<=4)(dO:C9 n):
 aG prog 33 [ak n] w (gR (pO n n) 0 w):=by
 refine bA func33 O ntmps33 O (pc O O) (a8 O (gf (St.refl w) O ?_));intro A2 w1 aA;refine ar O (aL (Lv n 1 4 _) O ?_);rintro _ w2 ⟨rfl,au⟩;subst au
 first | refine eA rfl rfl ?_ | refine eU rfl rfl ?_
 refine aI O (mD O (fun h=>h (by omega)) (aE O (aL (ac4 n _ dO) O ?_)));rintro _ w3 ⟨A,c,rs,rfl,bU,au⟩;have aH:=aA.call2 au;refine cG 1 0 aH O O O O O O O fun w4 aV=>bM O (iL O (aV.rd 0 O) O ?_);exact⟨A,c,rs,O,bU,aV.tail⟩
end
section
end
section
open Go.RowKit
section
variable {P:Program} {N:Nat} {ops:Array Oper} {K:Env->aa->Prop} {rest:List Oper} {e:Env} {w0 w w':aa} {ks:List Ck} {d:Nat} {ty:ae} {pos:String} {af:Array Edge} {x y:ag} {xt yt:ae} {i j:Int}
end
def tE(m:Nat):Nat:=if m%2=0 then m+1 else m - 1
set_option maxRecDepth 100000 in
theorem ahE:∀m:Nat,m<201->bits .xor .i64 (m:Int) 1=(tE m:Int):=by decide
section
variable {P:Program} {N:Nat} {ops:Array Oper} {K:Env->aa->Prop} {rest:List Oper} {e:Env} {w:aa} {d:Nat} {ty xt yt:ae} {pos:String} {af:Array Edge} {x y:ag}
theorem M3{m:Nat}(hx:ev e x=ak m)(hy:ev e y=ak 1)(hm:m<=200)(hb:Nat.blt d N=true)(hK:ao P N ops K rest (bq e d (ak (tE m:Int))) w):
 ao P N ops K (⟨some d,.binOp .xor xt x y yt,ty,pos,af,none⟩::rest) e w:=
 .val (by simp only [execOp,hx,hy,eqGuard,binOp,intBits_xor,ahE m (by omega)];simp) hb hK
end
theorem ahy(f:Nat):qC f=(tE f:Int):=by
 unfold qC tE
 split<;>split<;>omega
theorem ahz{p f:Nat}(hp:1<=p):((tE (f+1):Int)+ ((2*p:Nat):Int) - 1)% ((2*p:Nat):Int)=lJ (2*p) f:=by
 unfold lJ tE
 by_cases h:f%2=0
 ·rw [aw (by omega),ay (by omega)]
  rfl
 rw [ay (by omega),aw (by omega)];rw [show((f+1+1:Nat):Int)+ ((2*p:Nat):Int) - 1=(f:Int)+1+ ((2*p:Nat):Int) by omega,Int.add_emod_right]
structure Pq(w0:aa)(base:List Ck)(p n:Nat)(S:Nat->Bool)(e:Env)(w:aa):Prop where
 f0:e 0=ak p
 f2:∃A0,e 2= .pointer A0/\base=[Bx 37 1 A0 [.slice none 0 0]]
 p0:S 0=true->e 5=ak p
 p1:S 1=true->e 6=ak n
 p3:S 3=true->e 8=ak p
 p4:S 4=true->e 9=ak n
 mem:∃(A1 A2 A3:aj) (b1 b2 b3:List Ck),(S 2=false->b1=[])/\(S 2=true->e 7= .slice A1 n n/\b1=[az 2 A1 n n (List.replicate n 0)])/\(S 5=false->b2=[])/\(S 5=true->e 10= .slice A2 n n/\b2=[az 2 A2 n n (List.replicate n 0)])/\(S 6=false->b3=[])/\(S 6=true->e 11= .slice A3 2 2/\b3=[cd 24 A3 2 2 [⟨A1,n,n⟩,⟨A2,n,n⟩]])/\(S 7=true->e 3= .slice A3 2 2)/\St w0 w (b3++ (b1++ (b2++base)))
theorem ae3(p:Nat)(w:aa)(hp:1<=p/\p<=60):aG prog 91 [ak p] w (CN (rz p) w):=by
 refine bA func91 O ntmps91 O (rB O O) (a8 O (gf (St.refl w) O ?_));intro A2 w1 aA;refine aI O ?_;have hn:(2:Int)* (p:Int)=((2*p:Nat):Int):=by omega
 refine UD (by kernel_rfl) (by kernel_rfl) (fun S e1 w1=>Pq w [Bx 37 1 A2 [.slice none 0 0]] p (2*p) S e1 w1) (fun w4 hb=> ⟨O,⟨A2,O,O⟩,fun h=> (nomatch h),fun h=> (nomatch h),fun h=> (nomatch h),fun h=> (nomatch h),none,none,none,[],[],[],fun _=>O,fun h=> (nomatch h),fun _=>O,fun h=> (nomatch h),fun _=>O,fun h=> (nomatch h),fun h=> (nomatch h),aA.aq hb⟩) ?_ ?_
 ·intro S q o e1 w4 hq p9 hd dt hI;obtain⟨f0,f2,p0,p1,p3,p4,A,B,C,b1,b2,b3,m1,vm,m2,vn,m3,x7,m4,hT⟩:=hI
  match q,hq,p9 with
  | 0,hq,p9=>
   obtain rfl:=oh hq;refine Ae O (by exact f0) O (ao.n ?_);exact⟨f0,f2,fun _=>O,p1,p3,p4,A,B,C,b1,b2,b3,m1,vm,m2,vn,m3,x7,m4,hT⟩
  | 1,hq,p9=>
   obtain rfl:=oh hq;refine po O (by exact p0 (uU hd 0 O)) O (by omega) ?_;rw [hn];exact ao.n ⟨f0,f2,p0,fun _=>O,p3,p4,A,B,C,b1,b2,b3,m1,vm,m2,vn,m3,x7,m4,hT⟩
  | 2,hq,p9=>
   obtain rfl:=oh hq;obtain rfl:=m1 p9;have n6:S 6=false:=by
    cases h:S 6 with
    | false=>rfl
    | true=>rw [<-p9];exact(uU (dt 6 _ h rfl) 2 rfl).symm
   obtain rfl:=m3 n6;refine wW (2*p) hT (by exact p1 (uU hd 1 O)) O (by omega) ?_;intro A' w5 nJ;refine ao.n ?_;exact⟨f0,f2,p0,p1,p3,p4,A',B,C,[az 2 A' (2*p) (2*p) (List.replicate (2*p) 0)],b2,[],fun h=> (nomatch (show true=false from h)),fun _=> ⟨O,O⟩,m2,vn,fun _=>O,fun h=> (nomatch n6.symm.trans h),m4,nJ⟩
  | 3,hq,p9=>
   obtain rfl:=oh hq;refine Ae O (by exact f0) O (ao.n ?_);exact⟨f0,f2,p0,p1,fun _=>O,p4,A,B,C,b1,b2,b3,m1,vm,m2,vn,m3,x7,m4,hT⟩
  | 4,hq,p9=>
   obtain rfl:=oh hq;refine po O (by exact p3 (uU hd 3 O)) O (by omega) ?_;rw [hn];exact ao.n ⟨f0,f2,p0,p1,p3,fun _=>O,A,B,C,b1,b2,b3,m1,vm,m2,vn,m3,x7,m4,hT⟩
  | 5,hq,p9=>
   obtain rfl:=oh hq;obtain rfl:=m2 p9;have n6:S 6=false:=by
    cases h:S 6 with
    | false=>rfl
    | true=>rw [<-p9];exact(uU (dt 6 _ h rfl) 5 rfl).symm
   obtain rfl:=m3 n6;refine wW (2*p) hT (by exact p4 (uU hd 4 O)) O (by omega) ?_;intro A' w5 nJ;refine ao.n ?_;exact⟨f0,f2,p0,p1,p3,p4,A,A',C,b1,[az 2 A' (2*p) (2*p) (List.replicate (2*p) 0)],[],m1,vm,fun h=> (nomatch (show true=false from h)),fun _=> ⟨O,O⟩,fun _=>O,fun h=> (nomatch n6.symm.trans h),m4,nJ.perm (uL (l₁:=b1)).symm⟩
  | 6,hq,p9=>
   obtain rfl:=oh hq;obtain rfl:=m3 p9;have n7:S 7=false:=by
    cases h:S 7 with
    | false=>rfl
    | true=>rw [<-p9];exact(uU (dt 7 _ h rfl) 6 rfl).symm
   refine Is hT (by exact(vm (uU hd 2 O)).1) (by exact(vn (uU hd 5 O)).1) O O O O ?_;intro A' w5 nJ;refine ao.n ?_;exact⟨f0,f2,p0,p1,p3,p4,A,B,A',b1,b2,[cd 24 A' 2 2 [⟨A,2*p,2*p⟩,⟨B,2*p,2*p⟩]],m1,vm,m2,vn,fun h=> (nomatch (show true=false from h)),fun _=> ⟨O,O⟩,fun h=> (nomatch n7.symm.trans h),nJ⟩
  | 7,hq,p9=>
   obtain rfl:=oh hq;refine tJ O (by exact(x7 (uU hd 6 O)).1) O (ao.n ?_);exact⟨f0,f2,p0,p1,p3,p4,A,B,C,b1,b2,b3,m1,vm,m2,vn,m3,x7,fun _=>O,hT⟩
  | q+8,hq,_=>exact(nomatch hq)
 ·intro S e1 w4 eu hI;obtain⟨f0,⟨A0,f2,ZJ⟩,p0,p1,p3,p4,A,B,C,b1,b2,b3,m1,vm,m2,vn,m3,x7,m4,hT⟩:=hI;obtain⟨_,rfl⟩:=vm (eu 2 (by decide));obtain⟨_,rfl⟩:=vn (eu 5 (by decide));obtain⟨_,rfl⟩:=x7 (eu 6 (by decide));rw [ZJ]at hT;refine Fl (F:=[(0,ak p),(2,.pointer A0),(3,.slice C 2 2)]) ⟨f0,f2,m4 (eu 7 (by decide)),av⟩ ?_;have hT:St w w4 [cd 24 C 2 2 [⟨A,2*p,2*p⟩,⟨B,2*p,2*p⟩],az 2 A (2*p) (2*p) (jI qC (2*p) 0),az 2 B (2*p) (2*p) (jI (lJ (2*p)) (2*p) 0),Bx 37 1 A0 [.slice none 0 0]]:=by rw [T0,T0 (lJ (2*p))];exact hT
  refine kc O (po O O O (by omega) (aI O ?_));rw [hn];refine Cd.loop (α:=Nat) (fun f=> [(0,ak p),(2,.pointer A0),(3,.slice C 2 2),(13,ak ((2*p:Nat):Int)),(14,ak f)]) (fun f w'=>St w w' [cd 24 C 2 2 [⟨A,2*p,2*p⟩,⟨B,2*p,2*p⟩],az 2 A (2*p) (2*p) (jI qC (2*p) f),az 2 B (2*p) (2*p) (jI (lJ (2*p)) (2*p) f),Bx 37 1 A0 [.slice none 0 0]]/\f<=2*p) (fun f=>2*p - f) 0 (ajs O) ⟨hT,a7 _⟩ ?_;rintro f e w5 ⟨nJ,hf⟩;refine bL O (aR _ O (fun h1=>?_) (fun h1=>?_))
  ·have kH:f<2*p:=by omega
   have hC:=nJ.gQ 0 O;refine aE O (aM hC.2 O ?_);refine ajo (i:=0) hC O (by decide) O O (ar O (M3 (m:=f) O O (by omega) O (aM (nJ.bI 1 O).2 O (lu 1 (i:=(f:Int)) nJ O O O (by omega) ?_))));intro w6 nK;have nK:St w w6 [cd 24 C 2 2 [⟨A,2*p,2*p⟩,⟨B,2*p,2*p⟩],az 2 A (2*p) (2*p) ((jI qC (2*p) f).set f (tE f:Int)),az 2 B (2*p) (2*p) (jI (lJ (2*p)) (2*p) f),Bx 37 1 A0 [.slice none 0 0]]:=nK;rw [<-ahy,T3]at nK;have DD:=nK.gQ 0 O;have Bo:cn w6 (rg [⟨A,2*p,2*p⟩,⟨B,2*p,2*p⟩] (1:Int)).a (2*p) (jI (lJ (2*p)) (2*p) f):=nK.bI 2 O;have hv:=ahz (p:=p) (f:=f) hp.1;have gI:tE (f+1)<=f+2:=by unfold tE;split<;>omega
   refine aI O ?_;refine kK [15] [yS (C) (2) (2),yP (aJ (C) ((1:Int)).toNat),yS ((rg ([⟨A,2*p,2*p⟩,⟨B,2*p,2*p⟩]) ((1:Int))).a) ((rg ([⟨A,2*p,2*p⟩,⟨B,2*p,2*p⟩]) ((1:Int))).n) ((rg ([⟨A,2*p,2*p⟩,⟨B,2*p,2*p⟩]) ((1:Int))).c),yI ((f:Int)),yI ((f:Int)),yI (((f:Int))+ ((1:Int))),yI (tE (f+1):Int),yI ((p:Int)),yI (((2:Int))* ((p:Int))),yI ((tE (f+1):Int)+ (((2:Int))* ((p:Int)))),yI (((tE (f+1):Int)+ (((2:Int))* ((p:Int)))) - ((1:Int))),yI ((p:Int)),yI (((2:Int))* ((p:Int))),yI (lJ (2*p) f),yP (aJ ((rg ([⟨A,2*p,2*p⟩,⟨B,2*p,2*p⟩]) ((1:Int))).a) ((f:Int)).toNat),.pr (fun _ w'=>St w w' [cd 24 C 2 2 [⟨A,2*p,2*p⟩,⟨B,2*p,2*p⟩],az 2 A (2*p) (2*p) (jI qC (2*p) (f+1)),az 2 B (2*p) (2*p) ((jI (lJ (2*p)) (2*p) f).set f (lJ (2*p) f)),Bx 37 1 A0 [.slice none 0 0]])] (by kernel_rfl) (by kernel_rfl) (ly (ly (ly (ly (ly (ly (ly (ly (ly (ly (ly (ly (ly (ly (ly (cI.2 ⟨Ye.cV (fun v w w' h hb=>h.aq hb),(fun _ h=>by cases h)⟩)))))))))))))))) ?_ ?_
   ·refine⟨bZ O,cP fun _ _ hb _ _ _=>aM (DD.aq hb).2 O (bK O O),cP fun _ _ hb _ _ _=>dI (DD.aq hb) O (bK O O),bZ O,bZ O,aP fun _ _=>aK O (bK O O),?_,bZ O,aP fun _ _=>po O O O (by omega) (bK O O),aP fun _ _=>aK O (bK O O),aP fun _ _=>dQ O (bK O O),bZ O,aP fun _ _=>po O O O (by omega) (bK O O),?_,cP fun _ _ hb _ _ _=>aM (Bo.aq hb).2 O (bK O O),?_,av⟩
    ·intro e1 w1 cc eB cC fq hp a6 hq;show ao _ _ _ _ _ _ _;refine M3 (m:=f+1) O O (by omega) O (ao.n (ig O (by exact O)))
    ·intro e1 w1 cc eB cC fq hp a6 hq;show ao _ _ _ _ _ _ _;refine ao.rem O O O (by omega) (ao.n ?_);exact ig O (by exact aO (Value.int .i64) (by rw [hn];exact hv))
    ·refine kQ fun e1 w1 hb hp a6 hq=>?_
     exact lu 2 (i:=(f:Int)) (nK.aq hb) O O O (by omega) fun w9 bH=>ao.n (fQ.st O bH)
   intro u w7 _ hu _ _;have kG:=hu 15 _ O (by kernel_rfl);rw [T3]at kG;refine kc O (aK O (aU O (tQ ?_)));exact⟨f+1,by show 2*p - (f+1)<2*p - f;omega,(ajs O),kG,kH⟩
  ·have mq:f=2*p:=by omega
   subst mq;refine bw O (bz (dh O ?_));refine Iq (by exact inferInstance) O O O O (cG 1 3 nJ O O O O O O O ?_);intro w7 kG;refine bM O (rF O (kG.rd 3 O) ?_);exact⟨C,2,[⟨A,2*p,2*p⟩,⟨B,2*p,2*p⟩],O,O,kG.sub (List.Sublist.cons_cons _ (List.Sublist.cons_cons _ (List.Sublist.cons_cons _ (List.nil_sublist _))))⟩
theorem Vr(p:Nat)(w:aa)(hp:1<=p/\p<=60):aG prog 42 [ak p] w (fun v w'=>∃A c,∃rs:List aN,v= .tuple #[.agg #[.slice A 2 c],ak 0]/\rs.length=2/\St w w' (aT 24 2 A 2 c rs (rz p))):=by
 refine bA func42 O ntmps42 O (pc O O) (a8 O (gf (St.refl w) O ?_));intro A2 w1 aA;refine ar O (aL (sL p 1 200 _) O ?_);rintro _ w1 ⟨rfl,rfl⟩
 first | refine eA rfl rfl ?_ | refine eU rfl rfl ?_
 refine aI O (mD O (fun h=>h (by omega)) (aE O (aL (ae3 p _ hp) O ?_)));rintro _ w2 ⟨A,c,rs,rfl,ic,au⟩;have aB:St w w2 (Bx 37 1 A2 [.slice none 0 0]::(aT 24 2 A 2 c rs (rz p))):=(aA.call au).perm me;refine cG 1 0 aB O O O O O O O fun w3 aH=>bM O (iL O (aH.rd 0 O) O ?_);exact⟨A,c,rs,O,ic,aH.tail⟩
end
end Go.Proofs.YtagdamiiececaaaGreatDoor.Vc
