/-
 Lemmas. Conditions: as each states them.
-/
import Derived.Test.YtkojeolafnadeaaGreatDoorZj
import Derived.Test.YtkojeolafnadeaaGreatDoorLayf
import Derived.Shelf.SlSortCmp.NoneTotal
import Derived.Test.YtkojeolafnadeaaGreatDoorZh
import Derived.Deep.Matrix
import Derived.ChangeSame
import Derived.ProofKit
import Derived.OpenShut
import Derived.Handed
import Derived.Lib.SmallJoins
import Derived.Maps.RangeRun
set_option maxHeartbeats 8000000
namespace Go.Proofs.YtkojeolafnadeaaGreatDoor.Vc
open Tryz
section
open Go.RowKit Go.Sort
end
section
end
section
open Go.RowKit
section
variable {P:Program} {N:Nat} {ops:Array Oper} {K:Env->aa->Prop} {rest:List Oper} {e:Env} {w0 w:aa} {ks:List Ck} {d:Nat} {ty:ad} {pos:String} {af:Array Edge}
end
section
variable {P:Program} {N:Nat} {ops:Array Oper} {K:Env->aa->Prop} {rest:List Oper} {e:Env} {w:aa} {d:Nat} {ty xt yt:ad} {pos:String} {af:Array Edge} {x y:ae} {i j:Int}
end
def p2L(l:ah):ah:=l.map fun x=>Int.tmod x 2
def ae3(xss:ag):ah:=p2L (Xk (nbL xss) (-1) 0).1
def Bd(En:ag)(parts:ah)(e:Nat):Prop:=(gl En e).length=1\/gi parts (gi (gl En e) 0)=gi parts (gi (gl En e) 1)
instance (En:ag)(parts:ah)(e:Nat):Decidable (Bd En parts e):=by unfold Bd;exact inferInstance
def SV(xss:ag):Prop:=∃e,e<Is xss/\Bd (N6 xss) (ae3 xss) e
instance (xss:ag):Decidable (SV xss):=by unfold SV;exact inferInstance
end
section
end
section
open Go.RowKit
instance (l:ag):Decidable l.Nodup:=by unfold List.Nodup;infer_instance
section
variable {P:Program} {N:Nat} {ops:Array Oper} {K:Env->aa->Prop} {rest:List Oper} {e:Env} {w0 w w':aa} {ks:List Ck} {d:Nat} {ty:ad} {pos:String} {af:Array Edge}
end
instance (l:ah):Decidable (SA l):=by unfold SA;exact inferInstance
instance (l:ag):Decidable (SL l):=by unfold SL;exact inferInstance
instance (V:Int)(F:ag):Decidable (Uq V F):=decidable_of_iff ((0<=V/\V<=60)/\F.length<=400/\(∀l∈F,(1<=l.length/\l.length<=6)/\SA l/\∀x∈l,0<=x/\x<V)/\SL F/\(∀k,k<V.toNat->∃l∈F,(k:Int)∈l)/\∀l∈F,∀m∈F,Ins l m->m=l)
 ⟨fun⟨a,b,c,d,e,f⟩=> ⟨a,b,c,d,fun x h0 h1=>by
  have:=e x.toNat (by omega)
  rwa [Int.toNat_of_nonneg h0]at this,f⟩,fun h=> ⟨h.v,h.f,h.row,h.ord,fun k hk=>h.all k (by omega) (by omega),h.top⟩⟩
def MW(most:Int)(l:ah):Prop:=SA l/\∀x∈l,0<=x/\x<=most
instance (most:Int)(l:ah):Decidable (MW most l):=by unfold MW;exact inferInstance
section
variable {P:Program} {N:Nat} {ops:Array Oper} {K:Env->aa->Prop} {rest:List Oper} {e:Env} {w0 w w':aa} {ks:List Ck} {d:Nat} {ty:ad} {pos:String} {af:Array Edge}
end
def TJ(x:ah)(T:ag):Prop:=∀y∈T,Ins x y->y=x
instance (x:ah)(T:ag):Decidable (TJ x T):=by unfold TJ;exact inferInstance
end
section
def XD(F:ag)(k:Nat):ag:=if k=0 then [[]]else F.flatMap fun f=>Lz f k
def XG(F:ag)(k:Nat):ag:=(XD F k).foldl S0 []
def Xn(F:ag):Nat:=F.foldl (fun d f=>max d f.length) 0
end
section
open Go.RowKit
def Mw(F:ag)(C0:ah):Prop:=SA C0/\(C0=[]\/∃f∈F,Ins C0 f)
instance (F:ag)(C0:ah):Decidable (Mw F C0):=by unfold Mw;exact inferInstance
end
section
variable{x y:ah}{t:Int}
def nf(F:ag)(k:Nat):Nat:=(XG F k).length
def Pure(F:ag):Prop:=∀f∈F,f.length=Xn F
instance (F:ag):Decidable (Pure F):=by unfold Pure;exact inferInstance
def bV(l:ah):Nat:=l.foldr (fun e a=>2^e.toNat^^^a) 0
theorem Ec:bV []=0:=rfl
theorem qh(a:Int)(l:ah):bV (a::l)=2^a.toNat^^^bV l:=rfl
theorem uH:∀(a b:ah),bV (a++b)=bV a^^^bV b
 | [],b=>by simp [bV]
 | x::a,b=>by rw [List.cons_append,qh,qh,uH a b,Nat.xor_assoc]
theorem Ll{a b:ah}(h:a.Perm b):bV a=bV b:=by
 induction h with
 | nil=>rfl
 | cons x _ ih=>rw [qh,qh,ih]
 | swap x y l=>rw [qh,qh,qh,qh,<-Nat.xor_assoc,<-Nat.xor_assoc,Nat.xor_comm (2^y.toNat)]
 | trans _ _ h1 h2=>exact h1.trans h2
def qi(out:ah)(e:Int):ah:=if out.getLast?=some e then out.dropLast else out++ [e]
def gr(l:ah):ah:=l.foldl qi []
theorem Sz(l:ah)(e:Int):gr (l++ [e])=qi (gr l) e:=by simp [gr]
theorem C5{l:ah}{e:Int}(h:l.getLast?=some e):l=l.dropLast++ [e]:=by
 have cS:l≠[]:=fun h'=>by rw [h']at h;cases h
 rw [List.getLast?_eq_some_getLast cS]at h;injection h with h
 rw [<-h];exact(List.dropLast_concat_getLast cS).symm
theorem Ee:∀(n:Nat) (l:ah),l.length=n->lK l->SA (gr l)/\(∀x∈gr l,x∈l)/\bV (gr l)=bV l
 | 0,l,hl,_=>by obtain rfl:=lg hl;exact⟨List.Pairwise.nil,fun _ h=>h,rfl⟩
 | n+1,l,hl,ha=>by
  obtain⟨l0,e,rfl⟩:∃l0 e,l=l0++ [e]:=⟨l.dropLast,l.getLast (fun h=>by rw [h]at hl;simp at hl),(List.dropLast_concat_getLast _).symm⟩;have JE:lK l0/\∀x∈l0,x<=e:=by
   rw [lK,List.pairwise_append]at ha;exact⟨ha.1,fun x hx=>ha.2.2 x hx e (by simp)⟩
  obtain⟨h1,h2,h3⟩:=Ee n l0 (by simpa using hl) JE.1;rw [Sz,qi]
  by_cases hg:(gr l0).getLast?=some e
  ·rw [aT hg];refine⟨List.Pairwise.sublist (List.dropLast_sublist _) h1,fun x hx=>List.mem_append_left _ (h2 x ((List.dropLast_sublist _).subset hx)),?_⟩;have e1:=C5 hg;rw [uH,<-h3]
   conv=>rhs;rw [e1]
   rw [uH,Nat.xor_assoc,Nat.xor_self,Nat.xor_zero]
  ·rw [aR hg];refine⟨?_,fun x hx=>?_,by rw [uH,uH,h3]⟩
   ·rw [SA,List.pairwise_append];refine⟨h1,List.pairwise_singleton _ _,fun x hx y hy=>?_⟩;obtain rfl:y=e:=by simpa using hy
    have hle:=JE.2 x (h2 x hx);refine Int.lt_iff_le_and_ne.2 ⟨hle,fun hxe=>hg ?_⟩;subst hxe;have cS:gr l0≠[]:=fun h'=>by rw [h']at hx;cases hx
    rw [List.getLast?_eq_some_getLast cS]
    congr 1
    have oq:=List.getLast_mem cS;have hgle:=JE.2 _ (h2 _ oq);have e2:gr l0=(gr l0).dropLast++ [(gr l0).getLast cS]:=(List.dropLast_concat_getLast cS).symm;have rJ:=h1;rw [e2,SA,List.pairwise_append]at rJ;rw [e2]at hx;rcases eD.1 hx with hx | hx
    ·have:=rJ.2.2 x hx _ (dK.2 O);omega
    ·exact(dK.1 hx).symm
   ·rcases eD.1 hx with hx | hx
    ·exact List.mem_append_left _ (h2 x hx)
    ·exact List.mem_append_right _ hx
def mP(x:ah):Prop:=SA x/\∀e∈x,0<=e
theorem xR:∀ {x:ah},x.Nodup->(∀e∈x,0<=e)->∀j,(bV x).testBit j=decide ((j:Int)∈x)
 | [],_,_,j=>by simp [bV]
 | a::l,hn,h0,j=>by
  rw [kz]at hn;have ih:=xR hn.2 (fun e he=>h0 e (eb _ he)) j;have ha:=h0 a (by simp);rw [qh,Nat.testBit_xor,ih,Nat.testBit_two_pow]
  by_cases e:(j:Int)=a
  ·have hj:¬(j:Int)∈l:=by rw [e];exact hn.1
   have h1:a.toNat=j:=by omega
   simp [e,h1,hn.1]
  ·have h1:a.toNat≠j:=by omega
   simp [e,h1]
theorem UQ{l:ah}(ha:lK l)(h0:∀e∈l,0<=e):mP (gr l):=by
 obtain⟨h1,h2,_⟩:=Ee _ l rfl ha;exact⟨h1,fun e he=>h0 e (h2 e he)⟩
theorem mP.top(h:mP x)(ht:x.getLast?=some t):oR (bV x) t.toNat:=by
 have e1:=C5 ht;have h2:=h.1;rw [e1,SA,List.pairwise_append]at h2;have Ro:t∈x:=by rw [e1];simp
 have h0:=h.2 t Ro;refine⟨?_,fun j hj=>?_⟩
 ·rw [xR h.1.nodup h.2];simpa [Int.toNat_of_nonneg h0]using Ro
 rw [xR h.1.nodup h.2];simp only [decide_eq_false_iff_not];intro hm;rw [e1]at hm;rcases eD.1 hm with hm | hm
 ·have:=h2.2.2 _ hm t (by simp);omega
 have:=dK.1 hm;omega
theorem mP.Sh(h:mP x)(ht:x.getLast?=some t):∀e∈x,e<=t:=by
 have e1:=C5 ht;have h2:=h.1;rw [e1,SA,List.pairwise_append]at h2;intro e he;rw [e1]at he;rcases eD.1 he with he | he
 ·have:=h2.2.2 e he t (by simp);omega
 have:=dK.1 he;omega
def jz(x y:ah):ah:=gr (fT (x++y))
theorem Tz(hx:mP x)(hy:mP y):mP (jz x y):=UQ (Ev _) fun e he=>by
 rcases eD.1 ((vZ _).subset he)with h | h
 ·exact hx.2 e h
 exact hy.2 e h
theorem Ty(x y:ah):bV (jz x y)=bV x^^^bV y:=by
 rw [jz,(Ee _ _ rfl (Ev _)).2.2,Ll (vZ _),uH]
theorem TB:∀e∈jz x y,e∈x\/e∈y:=fun e he=>eD.1 ((vZ _).subset ((Ee _ _ rfl (Ev _)).2.1 e he))
theorem agi(hx:mP x)(hy:mP y)(h1:x.getLast?=some t)(h2:y.getLast?=some t):∀e∈jz x y,e<t:=by
 intro e he;have hle:e<=t:=by rcases TB e he with h | h;exact hx.Sh h1 e h;exact hy.Sh h2 e h
 refine Int.lt_iff_le_and_ne.2 ⟨hle,fun h=>?_⟩;subst h;have bz:=Tz hx hy;have h0:=bz.2 e he;have hb:=xR bz.1.nodup bz.2 e.toNat;rw [Ty,Nat.testBit_xor,(hx.top h1).1,(hy.top h2).1]at hb;simp [Int.toNat_of_nonneg h0,he]at hb
theorem aeK(h:mP x):bV x=0↔x=[]:=by
 constructor
 ·intro h0;cases hg:x.getLast? with
  | none=>exact List.getLast?_eq_none_iff.1 hg
  | some t=>exact absurd h0 (h.top hg).ne
 ·rintro rfl;rfl
theorem mP.len(h:mP x){b:Nat}(hb:∀e∈x,e<b):x.length<=b:=sy h.1.nodup fun e he=> ⟨h.2 e he,hb e he⟩
theorem IK{κ ν:Type}[DecidableEq κ]:∀ {L:List (κ×ν)} {x:κ},eM L x=none->∀p∈L,p.1≠x
 | [],_,_=>by simp
 | (z,w)::r,x,h=>by
  simp only [eM]at h
  by_cases e:z=x
  ·rw [aT e]at h;cases h
  ·rw [aR e]at h;intro p hp;rcases ij.1 hp with rfl | hp
   ·exact e
   ·exact IK h p hp
theorem IM{κ ν:Type}[DecidableEq κ]:∀ {L:List (κ×ν)} {x:κ} {u:ν},eM L x=some u->(x,u)∈L
 | (z,w)::r,x,u,h=>by
  simp only [eM]at h
  by_cases e:z=x
  ·rw [aT e]at h;injection h with h;subst e h;simp
  ·rw [aR e]at h;exact eb _ (IM h)
theorem afu{κ ν:Type}[DecidableEq κ]{L:List (κ×ν)}{x:κ}{u:ν}(h:∀p∈L,p.1≠x):iD L x u=L++ [(x,u)]:=by
 induction L with
 | nil=>rfl
 | cons p r ih=>
  obtain⟨z,w⟩:=p;simp only [iD];rw [aR (h (z,w) (by simp)),ih fun p hp=>h p (eb _ hp)];rfl
def rj:ah->Nat
 | []=>0
 | a::l=> (if a=1 then 1 else 0)+2*rj l
theorem Tb:∀(l:ah) (j:Nat),(rj l).testBit j=decide (l[j]?=some 1)
 | [],j=>by simp [rj]
 | a::l,0=>by
  rw [rj,Nat.testBit_zero]
  by_cases e:a=1<;>simp [e]<;>omega
 | a::l,j+1=>by
  rw [rj,Nat.testBit_succ];have:((if a=1 then 1 else 0)+2*rj l) / 2=rj l:=by split<;>omega
  rw [this,Tb l j];simp
end
section
open Go.RowKit
theorem aeY{l:ah}{k:Nat}(h:k<l.length):gr (l.take (k+1))=qi (gr (l.take k)) (gi l k):=by rw [pg h,Sz]
theorem aeX(l:ah):(gr l).length<=l.length:=by
 have gen:∀l acc:ah,(l.foldl qi acc).length<=acc.length+l.length:=by
  intro l
  induction l with
  | nil=>intro acc;simp
  | cons a t ih=>
   intro acc;have h1:=ih (qi acc a);have h2:(qi acc a).length<=acc.length+1:=by unfold qi;split<;>simp<;>omega
   simp only [List.foldl_cons,List.length_cons];omega
 simpa [gr]using gen l []
theorem K6{l:ah}{k:Nat}(h:l.length=k+1):l.getLast?=some (gi l k):=by
 rw [List.getLast?_eq_getElem?,h,Nat.add_sub_cancel,bX (by omega),fU]
theorem Lp{w0 w:aa}{ks:List Ck}(i:Nat){A:ai}{n c:Nat}{xs:ah}(hS:St w0 w ks)(hk:ks[i]?=some (ar 2 A n c xs))(hn:n<=1000000000):
 aG prog 226 [.slice A n c] w (fun v w'=>∃A' c',v= .slice A' (gr (fT xs)).length c'/\St w0 w' (ar 2 A' (gr (fT xs)).length c' (gr (fT xs))::ks.set i (ar 2 A n c (fT xs)))):=by
 have di:=hS.zl i hk;have Kp:(fT xs).length=n:=by rw [(vZ xs).length_eq];exact di
 refine bw func226 O ntmps226 O (b7 O) (bb O (aF (Tt i hS hk hn) O ?_));rintro _ w1 ⟨rfl,aC⟩;have fA:(ks.set i (ar 2 A n c (fT xs)))[i]?=some (ar 2 A n c (fT xs)):=by rw [List.getElem?_set_self (gw.1 hk).1]
 generalize ks.set i (ar 2 A n c (fT xs))=iQ at*;generalize Gp:fT xs=ys at*;clear hS hk;refine aq O (ba O O (az O ?_));refine Cd.loop (α:=Nat×ai×Nat) (fun z=> [(3,.slice z.2.1 (gr (ys.take z.1)).length z.2.2),(8,.slice A n c),(9,aj n),(10,aj (z.1:Int))]) (fun z w'=>z.1<=n/\St w0 w' (ar 2 z.2.1 (gr (ys.take z.1)).length z.2.2 (gr (ys.take z.1))::iQ)) (fun z=>n - z.1) (0,none,0) (ajz O) ⟨bu _,aC.nil _⟩ ?_;clear aC;rintro⟨k,A3,c3⟩ e w2 ⟨hk,hS⟩;dsimp only at hk hS|-;refine b8 O (aM _ O (fun h1=>?_) (fun h1=>?_))
 ·have ib:=aeY (l:=ys) (k:=k) (by omega);have yY:=aeX (ys.take k);rw [nt]at yY;have hR:=hS.bk (i+1) (by rw [List.getElem?_cons_succ];exact fA);generalize sd:gr (ys.take k)=out at*;generalize xl:gi ys k=el at*;refine aD O (aA hR.2 O (aY hR O ?_));rw [xl];refine aq O (ba O O (aq O ?_));refine cz 17 O (fun h2=>?_) (fun h2=>?_)
  ·obtain⟨m,hm⟩:∃m,out.length=m+1:=⟨out.length - 1,by omega⟩;have oq:=K6 hm;have e1:((out.length:Int) - 1)=(m:Int):=by omega
   have h0:bt w2 A3 out.length out:=hS.bk 0 O;refine au O (aq O (au O (aq O (au O (ba O O (au O (dq O (au O ?_))))))));refine aA h0.2 O (au O (aY h0 O ?_));rw [e1];refine au O (aq O (au O (az O ?_)));refine aM _ O (fun h3=>?_) (fun h3=>?_)
   ·have xu:qi out el=out.take m:=by
     unfold qi;rw [aT (by rw [oq,h3]),List.dropLast_eq_take,hm,Nat.add_sub_cancel]
    have hlen:(out.take m).length=m:=by simp;omega
    have JN:out.length<=c3:=(hS.cap 0 O).1;refine aD O (ba O O (dq O ?_));refine sI O O O (by omega) (aq O (aK O (aS O (tQ ?_))));refine⟨(k+1,A3,c3),by show n - (k+1)<n - k;omega,⟨?_,O,O,O,aw⟩,by show k+1<=n;omega,?_⟩
    ·show Value.slice A3 (((out.length:Int) - 1).toNat) c3= .slice A3 (gr (ys.take (k+1))).length c3;rw [ib,xu,hlen,e1];rfl
    show St w0 _ (ar 2 A3 (gr (ys.take (k+1))).length c3 (gr (ys.take (k+1)))::iQ);rw [ib,xu,hlen];exact hS.Ts 0 O m (by omega)
   have xu:qi out el=out++ [el]:=by
    unfold qi;rw [aR (by rw [oq];intro h;exact h3 (bj h))]
   refine aD O (dE hS O O O ?_);intro A4 w3 aH;refine dS 1 aH O (aH.bk 0 O) O O O fun A5 c5 w4 aQ=>aq O (aK O (aS O (tQ ?_)));refine⟨(k+1,A5,c5),by show n - (k+1)<n - k;omega,⟨?_,O,O,O,aw⟩,by show k+1<=n;omega,?_⟩
   ·show Value.slice A5 (out.length+1) c5= .slice A5 (gr (ys.take (k+1))).length c5;rw [ib,xu,dh];rfl
   show St w0 _ (ar 2 A5 (gr (ys.take (k+1))).length c5 (gr (ys.take (k+1)))::iQ);rw [ib,xu,dh];exact St.tail aQ
  have mx:out=[]:=lg (by omega);have xu:qi out el=out++ [el]:=by
   unfold qi;rw [aR (by rw [mx];simp)]
  refine ay O (ay O (ay O (ay O (ay O (ay O (ay O (ay O (az O ?_))))))));refine Cd.dZ O (aD O (dE hS O O O ?_));intro A4 w3 aH;refine dS 1 aH O (aH.bk 0 O) O O O fun A5 c5 w4 aQ=>aq O (aK O (aS O (tQ ?_)));refine⟨(k+1,A5,c5),by show n - (k+1)<n - k;omega,⟨?_,O,O,O,aw⟩,by show k+1<=n;omega,?_⟩
  ·show Value.slice A5 (out.length+1) c5= .slice A5 (gr (ys.take (k+1))).length c5;rw [ib,xu,dh];rfl
  show St w0 _ (ar 2 A5 (gr (ys.take (k+1))).length c5 (gr (ys.take (k+1)))::iQ);rw [ib,xu,dh];exact St.tail aQ
 obtain rfl:k=n:=by omega
 rw [kA (by omega)]at hS|-;refine bo O (bn (eG O ?_));exact fb O ⟨A3,c3,O,hS⟩
theorem UB(n:Nat)(w:aa)(hn:n<=1000000000):
 aG prog 259 [.slice none 0 0,aj n] w (fun v w'=>∃A c,v= .slice A 0 c/\n<=c/\St w w' [ar 2 A 0 c []]):=by
 refine bw func259 O ntmps259 O (b7 O) (b8 O (gV O (by omega) (aD O (MM O O ?_))));refine aq O (ba O O (dq O (dq O (az O ?_))));refine aM _ O (fun h1=>?_) (fun h1=>?_)
 ·refine aD O (MM O O ?_);refine sI O O O (by simp) ?_;refine aq O ?_;refine UW n (by omega) (St.refl w) O (by show Value.int _ _= .int _ _;congr 1) O O (by simp only [maxLen];omega) (by omega) O ?_;intro A c w1 ko aC;refine aq O (ba O O ?_);refine sI O O O (by simp) ?_;refine bD O (fb O ?_);exact⟨A,c,O,ko,aC⟩
 refine dB O (fb O ?_);exact⟨none,0,O,by omega,(St.refl w).nil _⟩
theorem Mr(Aq:ai)(s t:aX)(x y:ah)(w:aa)(hQ:iT w Aq 2 [s,t])(hx:bt w s.a s.n x)(hy:bt w t.a t.n y)(hn:s.n+t.n<=100000000):
 aG prog 227 [.slice Aq 2 2] w (fun v w'=>∃A' c',v= .slice A' (x++y).length c'/\St w w' [ar 2 A' (x++y).length c' (x++y)]):=by
 have di:=hx.1;have pZ:=hy.1;refine bw func227 O ntmps227 O (b7 O) ?_;refine bb O (ba O O (az O ?_));have e0:rg [s,t] ((0:Nat):Int)=s:=O;have e1:rg [s,t] ((1:Nat):Int)=t:=O;refine Cd.loop (α:=Nat×Nat) (fun k=> [(0,.slice Aq 2 2),(3,aj (k.2:Int)),(9,.slice Aq 2 2),(10,aj 2),(11,aj (k.1:Int))]) (fun k w'=>w'=w/\k.1<=2/\k.2=if k.1=0 then 0 else if k.1=1 then s.n else s.n+t.n) (fun k=>2 - k.1) (0,0) (ajz O) ⟨O,by decide,O⟩ ?_;rintro⟨k,m⟩ e w1 ⟨rfl,hk,hm⟩;dsimp only at hk hm|-;refine b8 O (aM _ O (fun h1=>?_) (fun h1=>?_))
 ·rcases(show k=0\/k=1 by omega)with rfl | rfl
  ·obtain rfl:m=0:=hm;refine aD O (aA hQ.2 O ?_);refine aju (i:=((0:Nat):Int)) hQ O (by simp) O O ?_;rw [e0];refine aq O (ba O O (aK O (az O ?_)));refine gV O (by omega) (aD O (aK O (aS O (tQ ?_))));exact⟨(1,s.n),by show 2 - 1<2 - 0;omega,⟨O,by show Value.int .i64 (((0:Nat):Int)+ (s.n:Int))=aj (s.n:Int);congr 1;omega,O,O,O,aw⟩,O,by show 1<=2;omega,O⟩
  obtain rfl:m=s.n:=hm;refine aD O (aA hQ.2 O ?_);refine aju (i:=((1:Nat):Int)) hQ O (by simp) O O ?_;rw [e1];refine aq O (ba O O (aK O (az O ?_)));refine gV O (by omega) (aD O (aK O (aS O (tQ ?_))));exact⟨(2,s.n+t.n),by show 2 - 2<2 - 1;omega,⟨O,by show Value.int .i64 ((s.n:Int)+ (t.n:Int))=aj ((s.n+t.n:Nat):Int);congr 1,O,O,O,aw⟩,O,by show 2<=2;omega,O⟩
 obtain rfl:k=2:=by omega
 obtain rfl:m=s.n+t.n:=hm;refine bo O (bn (cJ O ?_));refine aF (UB (s.n+t.n) _ (by omega)) O ?_;rintro _ w2 ⟨A6,c6,rfl,ko,aE⟩;refine aq O (ba O O (az O ?_));refine Cd.loop (α:=Nat×ai×Nat×ah) (fun k=> [(6,.slice k.2.1 k.2.2.2.length k.2.2.1),(25,.slice Aq 2 2),(26,aj 2),(27,aj (k.1:Int))]) (fun k w'=>St w1 w' [ar 2 k.2.1 k.2.2.2.length k.2.2.1 k.2.2.2]/\k.1<=2/\k.2.2.2=if k.1=0 then []else if k.1=1 then x else x++y) (fun k=>2 - k.1) (0,A6,c6,[]) (ajz O) ⟨aE,by show 0<=2;omega,O⟩ ?_;rintro⟨k,A6,c6,zs⟩ e w3 ⟨aH,hk,hm⟩;dsimp only at aH hk hm|-;have sV:=aH.BP hQ;refine b8 O (aM _ O (fun h2=>?_) (fun h2=>?_))
 ·rcases(show k=0\/k=1 by omega)with rfl | rfl
  ·obtain rfl:zs=[]:=hm;refine aD O (aA sV.2 O ?_);refine aju (i:=((0:Nat):Int)) sV O (by simp) O O ?_;rw [e0];refine aq O ?_;refine ajw 0 aH O (aH.b9 hx) O O O (by simp;omega) (by simp;omega) O ?_;intro A7 c7 w4 aQ;refine aq O (aK O (aS O (tQ ?_)));refine⟨(1,A7,c7,x),by show 2 - 1<2 - 0;omega,⟨by show Value.slice A7 (0+s.n) c7= .slice A7 x.length c7;rw [di,Nat.zero_add],O,O,O,aw⟩,?_,by show 1<=2;omega,O⟩;show St w1 w4 [ar 2 A7 x.length c7 x];have h5:St w1 w4 [ar 2 A7 (0+s.n) c7 x]:=aQ;rw [di]
   rwa [Nat.zero_add]at h5
  obtain rfl:zs=x:=hm;refine aD O (aA sV.2 O ?_);refine aju (i:=((1:Nat):Int)) sV O (by simp) O O ?_;rw [e1];refine aq O (dS 0 aH O (aH.b9 hy) O O O ?_);intro A7 c7 w4 aQ;refine aq O (aK O (aS O (tQ ?_)));refine⟨(2,A7,c7,zs++y),by show 2 - 2<2 - 1;omega,⟨by show Value.slice A7 (zs.length+t.n) c7= .slice A7 (zs++y).length c7;rw [dh,pZ],O,O,O,aw⟩,?_,by show 2<=2;omega,O⟩;show St w1 w4 [ar 2 A7 (zs++y).length c7 (zs++y)];rw [dh,pZ];exact aQ
 obtain rfl:k=2:=by omega
 obtain rfl:zs=x++y:=hm;refine bo O (bn (eG O ?_));exact fb O ⟨A6,c6,O,aH⟩
abbrev KE:=Int×(aX×ah)
def UF(b:Nat)(p:KE):Prop:=(mP p.2.2/\∀e∈p.2.2,e<b)/\p.2.2.getLast?=some p.1
def Ca(M:List KE):List Nat:=M.map fun p=>bV p.2.2
def GJ(x:ah):Nat:=match x.getLast? with | some t=>t.toNat+1 | none=>0
theorem aeM{x y:ah}{t:Int}(h:x.getLast?=some t)(hy:∀e∈y,0<=e/\e<t)(h0:0<=t):GJ y<GJ x:=by
 unfold GJ;rw [h];cases e:y.getLast? with
 | none=>show 0<t.toNat+1;omega
 | some u=>
  have:=hy u (by rw [C5 e];simp);show u.toNat+1<t.toNat+1;omega
theorem mD{w0 w:aa}{ks:List Ck}{t:ad}{A:ai}{n c:Nat}{xs:ah}(h:St w0 w ks)(hm:ar t A n c xs∈ks):bt w A n xs:=by
 obtain⟨i,hi⟩:=List.mem_iff_getElem?.1 hm;exact h.bk i hi
end
section
open Go.RowKit Go.ChangeShapes Go.WideShapes
theorem laid:laidOutB prog=true:=by kernel_rfl
theorem own:ownKnob prog.godebug=none:=by kernel_rfl
section
variable {H:Type} {enc:ad×ab->H} {P:Program}
theorem TL(hl:laidOutB P=true){W W':aa}(hb:Below W.heap.size W W'){sp:Nat->Bool}:∀ {ts:List ad} {vs:List ab} {ds:List (DataW H)} {ps:List MemPlace},(ts.all fun t=>P.readableRec t && Nat.blt t P.types.size)=true->(∀p∈ps,p.block<W.heap.size)->(∀p∈ps,sp p.block=true)->
 DataW.TrodAll enc P W 0 (fun _=>true) true ts vs ds ps->DataW.TrodAll enc P W' 0 sp true ts vs ds ps
 | [],[],[],_,_,_,_,h=>h
 | t::ts,v::vs,d::ds,ps,hr,eL,iP,h=>by
  obtain⟨p,q,h1,h2,rfl⟩:=h;simp only [List.all_cons,Bool.and_eq_true]at hr;exact⟨p,q,WideElems.Trod_stays hl hr.1.1 (by simpa [Nat.blt_eq]using hr.1.2) h1 (fun x hx=>hb.same (eL x (by simp [hx]))) (fun x hx=>iP x (by simp [hx])),TL hl hb hr.2 (fun x hx=>eL x (by simp [hx])) (fun x hx=>iP x (by simp [hx])) h2,O⟩
 | [],[],_::_,_,_,_,_,h=>h.elim
 | [],_::_,_,_,_,_,_,h=>by cases h
 | _::_,[],_,_,_,_,_,h=>by cases h
 | _::_,_::_,[],_,_,_,_,h=>by cases h
theorem afr{f:Func}{s:ChangeSpec}{apart:Bool}{W W':aa}{args:Array ab}{ds gs:List (DataW H)}{before:List MemPlace}(hl:laidOutB P=true){b:ad}(hu:P.underlying b=some .bool)(Q5:f.resultTypes= #[b])(hv:s.vars=[])
 (hr:(f.params.toList.all fun t=>P.readableRec t && Nat.blt t P.types.size)=true) (kT:(s.fn H (ds++gs)).results=[.lit (.bool true)]/\(s.fn H (ds++gs)).args=ds/\(s.fn H (ds++gs)).vars=[])
 (hW:DataW.Whole enc P f.params.toList s.vars apart W args.toList ds gs before) (hb:Below W.heap.size W W'):s.post enc P f apart true false false W args (.bool true) W':=by
 have eL:∀x∈before,x.block<W.heap.size:=fun x hx=>hW.lt x hx
 have ZS:=hW;obtain⟨p,q,hA,hV,rfl,hz,hn⟩:=hW;rw [hv]at hV;obtain⟨rfl,rfl⟩:=trodVars_none hV;have QG:∀x∈p,x.block<W.heap.size:=fun x hx=>eL x (by simp [hx])
 have OX:∀sp:Nat->Bool,(∀x∈p,sp x.block=true)->DataW.TrodAll enc P W' 0 sp true f.params.toList args.toList (s.fn H (ds++ [])).args p:=fun sp iP=>by
  rw [kT.2.1];exact TL hl hb hr QG iP hA
 have wT:∀(b0:Nat) (sp:Nat->Bool) (hd:Bool),DataW.TrodAll enc P W' b0 sp hd f.resultTypes.toList ((Value.bool true).resultList f.resultTypes.size) (s.fn H (ds++ [])).results []:=fun b0 sp hd=>by
  rw [kT.1,Q5];exact trodAll_cons_mk (shut_bool hu _) trodAll_mk0
 have PN:∀sp:Nat->Bool,DataW.TrodVars enc P W' sp s.vars (s.fn H (ds++ [])).vars []:=fun sp=>by
  rw [kT.2.2,hv];rfl
 refine⟨ds,[],p++ [],[],p,[],ZS,wT _ _ _,OX _ (fun x hx=>by simpa using QG x hx),PN _,World.keptBut_mono (fun x hx=> ⟨hx,by simpa using hx⟩) (hb.frame (· ∈p++ [])),fun _=> ⟨fun j t r h1 h2=>?_,_,_,([]++p)++ [],⟨[]++p,[],trodAll_append (OX _ fun _ _=>O) (wT _ _ _),PN _,O,fun c off hc=>?_,fun ha=>by simpa using hn ha⟩,fun x hx _=>by simpa using hx⟩⟩
 ·rw [Q5]at h1 h2;cases j with
  | zero=>
   simp at h1;subst h1;simp [Value.resultList]at h2;subst h2;exact okWide_bool_mk hu _
  | succ j=>simp at h1
 ·have da:MemPlace.cell c off∈p++ []:=by simpa using hc
  rw [hb.frozen (eL _ da)];exact hz c off da
end
section
variable {H:Type} {enc:ad×ab->H} {P:Program}
end
end
section
open Go.RowKit
section
variable {P:Program} {N:Nat} {ops:Array Oper} {K:Env->aa->Prop} {rest:List Oper} {e:Env} {w0 w w':aa} {ks:List Ck} {d:Nat} {ty:ad} {pos:String} {af:Array Edge}
theorem Ve{x:ae}{t kt et:ad}{g:Nat}{gS:List (ab×ab)}[bP P t (.map kt et)](hR:pz w g gS)(hx:ev e x= .map (some g))(hb:Nat.blt d N=true)(hK:ak P N ops K rest (bC e d (aj (gS.length:Int))) w):
 ak P N ops K (⟨some d,.call ⟨.builtin .len, #[x], #[t]⟩,ty,pos,af,none⟩::rest) e w:=by
 obtain⟨es,cl,hh,hm⟩:=hR;have hl:es.size=gS.length:=by rw [<-hm];simp
 refine .val (w':=w) ?_ hb hK;simp [execOp,resolve,invoke,builtin,Builtin.len_,hx,run_underlying (bP.out (P:=P) (t:=t)),MapKept.run_getObj_map hh,goInt,Result.andThen,hl]
end
theorem N7{B L:List Nat}{r:Nat}(h:iZ B L)(hr:r∈cK B):iZ B (L++ [r]):= .of (fun b hb=>x7 (fun x hx=>List.mem_append_left _ hx) b ((h b).1 (jJ hb))) fun b hb=>by
 rcases eD.1 hb with hb | hb
 ·exact(h b).2 (jJ hb)
 obtain rfl:=dK.1 hb;exact hr
theorem N8{B L:List Nat}{r v:Nat}(h:iZ B L)(hr:r^^^v∈cK B):iZ (B++ [v]) (L++ [r]):=by
 have hB:∀u∈cK B,u∈cK (B++ [v]):=x7 fun x hx=>List.mem_append_left _ hx
 have hL:∀u∈cK L,u∈cK (L++ [r]):=x7 fun x hx=>List.mem_append_left _ hx
 have hv:v∈cK (B++ [v]):=jJ (by simp);have oy:r∈cK (L++ [r]):=jJ (by simp);refine .of (fun b hb=>?_) fun b hb=>?_
 ·rcases eD.1 hb with hb | hb
  ·exact hL _ ((h b).1 (jJ hb))
  obtain rfl:=dK.1 hb;have:=rn oy (hL _ ((h _).1 hr))
  rwa [oJ]at this
 rcases eD.1 hb with hb | hb
 ·exact hB _ ((h b).2 (jJ hb))
 obtain rfl:=dK.1 hb;have:=rn hv (hB _ hr)
 rwa [Nat.xor_comm b v,oJ]at this
theorem adg{M:List KE}{b:Nat}{L:List Nat}(hk:(M.map (·.1)).Nodup)(hM:∀p∈M,UF b p)(h:iZ (Ca M) L):lf L M.length:=by
 refine⟨Ca M,by simp [Ca],?_,h.symm⟩;have e:Ca M=(M.map fun p=> (p.1.toNat,bV p.2.2)).map (·.2):=by simp [Ca]
 rw [e];refine TK (fun p hp=>?_) ?_
 ·obtain⟨q,hq,rfl⟩:=eh.1 hp;exact(hM q hq).1.1.top (hM q hq).2
 rw [List.map_map];have h0:∀p∈M,0<=p.1:=fun p hp=> (hM p hp).1.1.2 _ (by rw [C5 (hM p hp).2];simp)
 rw [List.Nodup,List.pairwise_map]at hk|-;refine hk.imp_of_mem fun {p q} hp hq cS e=>cS ?_
 have e:p.1.toNat=q.1.toNat:=e;have:=h0 p hp;have:=h0 q hq;omega
end
section
def TF:Nat->(Nat->Int)->Int
 | 0,_=>0
 | n+1,g=>TF n g+g n
def pX(p:Nat->Int):Nat->Int
 | 0=>0
 | n+1=>p n
def pD(p:Nat->Int):Nat->Int:=fun n=>p n - pX p n
def p1:Nat->Int:=fun n=>if n=0 then 1 else 0
def SK:Nat->Nat->Int
 | 0=>p1
 | m+1=>pD (SK m)
def pW:ah->Nat->Nat->Int
 | [],_=>fun _=>0
 | a::r,m=>fun n=>a*SK m n+pX (pW r (m - 1)) n
def conv(p q:Nat->Int)(n:Nat):Int:=TF (n+1) fun i=>p i*q (n - i)
def hP(f:ah):ah:=(List.range f.length).map (pW f (f.length - 1))
end
section
open Go.RowKit
open Classical in
noncomputable def kZ(L:List Nat):Nat:=if h:∃r,lf L r then h.choose else 0
theorem GZ{L:List Nat}{r:Nat}(h:lf L r):kZ L=r:=by
 have he:∃r,lf L r:=⟨r,h⟩;unfold kZ;rw [dif_pos he];exact he.choose_spec.eq h
end
section
variable{r':Nat}
def wJ:List Nat->List Nat
 | []=> []
 | b::L=>if b∈cK (wJ L)then wJ L else b::wJ L
theorem II:∀L,iZ L (wJ L)/\(cK (wJ L)).Nodup
 | []=> ⟨iZ.refl _,by simp [wJ,cK]⟩
 | b::L=>by
  obtain⟨h1,h2⟩:=II L;unfold wJ
  split
  ·rename_i h;refine⟨.of (fun v hv=>?_) (fun v hv=>?_),h2⟩
   ·rcases ij.1 hv with rfl | hv
    ·exact h
    ·exact(h1 v).1 (jJ hv)
   ·exact x7 (fun x hx=>eb _ hx) v ((h1 v).2 (jJ hv))
  ·rename_i h;refine⟨.of (fun v hv=>?_) (fun v hv=>?_),Cb h2 h⟩
   ·rcases ij.1 hv with rfl | hv
    ·exact jJ (by simp)
    ·exact x7 (fun x hx=>eb _ hx) v ((h1 v).1 (jJ hv))
   ·rcases ij.1 hv with rfl | hv
    ·exact jJ (by simp)
    ·exact x7 (fun x hx=>eb _ hx) v ((h1 v).2 (jJ hv))
theorem acQ(L:List Nat):∃r,lf L r:=⟨_,wJ L,rfl,(II L).2,(II L).1⟩
theorem LJ(L:List Nat):lf L (kZ L):=by
 obtain⟨r,h⟩:=acQ L;rw [GZ h];exact h
def dmap:List Nat->Nat->Nat
 | [],_=>0
 | b::L,v=> (if v.testBit 0=true then b else 0)^^^dmap L (v / 2)
theorem z7:∀L,dmap L 0=0
 | []=>rfl
 | b::L=>by unfold dmap;simp [z7 L]
theorem Xl(u v:Nat):(u^^^v) / 2=u / 2^^^v / 2:=by
 apply Nat.eq_of_testBit_eq;intro i;rw [Nat.testBit_xor,<-Nat.testBit_succ,<-Nat.testBit_succ,<-Nat.testBit_succ,Nat.testBit_xor]
theorem z6:∀(L:List Nat) (u v:Nat),dmap L (u^^^v)=dmap L u^^^dmap L v
 | [],_,_=>by simp [dmap]
 | b::L,u,v=>by
  unfold dmap;rw [Xl,z6 L,Nat.testBit_xor];have h4:∀a b c d:Nat,(a^^^b)^^^ (c^^^d)=(a^^^c)^^^ (b^^^d):=fun a b c d=>by
   rw [Nat.xor_assoc,Nat.xor_assoc,<-Nat.xor_assoc b,Nat.xor_comm b c,Nat.xor_assoc c]
  rw [h4]
  congr 1
  cases u.testBit 0<;>cases v.testBit 0<;>simp
theorem Iq:∀(L:List Nat) (s:Nat),s∈cK L->∃v,v<2^L.length/\dmap L v=s
 | [],s,h=>by
  simp only [cK,dK]at h;subst h;exact⟨0,by simp,O⟩
 | b::L,s,h=>by
  rw [xO]at h;rcases h with h | h
  ·obtain⟨v,hv,e⟩:=Iq L s h;refine⟨2*v,by rw [List.length_cons,Nat.pow_succ];omega,?_⟩;unfold dmap;rw [show 2*v / 2=v by omega,e];simp [Nat.testBit_zero]
  ·obtain⟨v,hv,e⟩:=Iq L _ h;refine⟨2*v+1,by rw [List.length_cons,Nat.pow_succ];omega,?_⟩;unfold dmap;rw [show(2*v+1) / 2=v by omega,e];have:(2*v+1).testBit 0=true:=by simp [Nat.testBit_zero]
   rw [aT this];exact oJ _ _
theorem afD{L L':List Nat}(h:∀v∈L',v<2^L.length/\dmap L v=0){r:Nat}(h1:lf L r)(h2:lf L' r'):r+r'<=L.length:=by
 obtain⟨B,rfl,hB,hE⟩:=h1;obtain⟨C,rfl,hC,hF⟩:=h2;have hK:∀κ∈cK C,κ<2^L.length/\dmap L κ=0:=fun κ zg=>
  xZ (S:=fun v=>v<2^L.length/\dmap L v=0) ⟨Nat.pow_pos (by omega),z7 L⟩ (fun u v hu hv=> ⟨Nat.xor_lt_two_pow hu.1 hv.1,by rw [z6,hu.2,hv.2];rfl⟩) h κ ((hF κ).2 zg)
 have hP:∀s,∃v,s∈cK B->v<2^L.length/\dmap L v=s:=fun s=>by
  by_cases hs:s∈cK B
  ·obtain⟨v,hv⟩:=Iq L s ((hE s).2 hs);exact⟨v,fun _=>hv⟩
  ·exact⟨0,fun h=>absurd h hs⟩
 have hp:∃p:Nat->Nat,∀s,s∈cK B->p s<2^L.length/\dmap L (p s)=s:=⟨fun s=> (hP s).choose,fun s=> (hP s).choose_spec⟩;obtain⟨p,hp⟩:=hp;have r8:((cK B).flatMap fun s=> (cK C).map fun κ=>κ^^^p s).Nodup:=by
  have hx:∀s∈cK B,∀κ∈cK C,dmap L (κ^^^p s)=s:=fun s hs κ zg=>by rw [z6,(hK κ zg).2,(hp s hs).2,Nat.zero_xor]
  refine List.pairwise_flatMap.2 ⟨fun s hs=>?_,?_⟩
  ·rw [List.pairwise_map];refine hC.imp fun {a b} kl e=>kl ?_
   have:=aL (p s^^^ ·) e;simpa only [Nat.xor_comm _ (p s),oJ]using this
  ·refine List.Pairwise.imp_of_mem (R:=(· ≠ ·)) ?_ hB;intro s t hs ht ax a ha b hb e;obtain⟨κ,zg,rfl⟩:=eh.1 ha;obtain⟨μ,hμ,rfl⟩:=eh.1 hb;apply ax;rw [<-hx s hs κ zg,e,hx t ht μ hμ]
 have eL:∀x∈(cK B).flatMap fun s=> (cK C).map fun κ=>κ^^^p s,x<2^L.length:=fun x hx=>by
  obtain⟨s,hs,hx⟩:=List.mem_flatMap.1 hx;obtain⟨κ,zg,rfl⟩:=eh.1 hx;exact Nat.xor_lt_two_pow (hK κ zg).1 (hp s hs).1
 have hlen:=GL _ _ r8 eL;have hl:((cK B).flatMap fun s=> (cK C).map fun κ=>κ^^^p s).length=2^B.length*2^C.length:=by
  have gen:∀A:List Nat,(A.flatMap fun s=> (cK C).map fun κ=>κ^^^p s).length=A.length*2^C.length:=by
   intro A
   induction A with
   | nil=>simp
   | cons a t ih=>rw [List.flatMap_cons,dh,ih,mf,Ey,List.length_cons,Nat.add_mul,Nat.one_mul,Nat.add_comm]
  rw [gen,Ey]
 rw [hl,<-Nat.pow_add]at hlen;rcases Nat.lt_or_ge L.length (B.length+C.length)with h9 | h9
 ·have:=Nat.pow_lt_pow_right (a:=2) (by omega) h9;omega
 ·exact h9
theorem NY{α:Type}(g:α->Nat)(p:α->Bool):∀G:List α,dmap (G.map g) (rj (G.map fun y=>if p y=true then 1 else 0))=(G.filter p).foldr (fun y a=>g y^^^a) 0
 | []=>rfl
 | y::G=>by
  have hd:∀(b:Int) (m:Nat),((if b=1 then 1 else 0)+2*m) / 2=m:=fun b m=>by split<;>omega
  rw [List.map_cons,List.map_cons,rj,dmap,hd,NY g p G]
  by_cases h:p y=true
  ·rw [List.filter_cons_of_pos h,List.foldr_cons,aT h]
   congr 1
   rw [aT rfl,aT];simp [Nat.testBit_zero]
  ·rw [List.filter_cons_of_neg h,aR h];rw [aR (by decide:¬(0:Int)=1),aR]
   ·simp
   ·simp [Nat.testBit_zero]
theorem IF{α:Type}(g:α->Nat)(q:Nat):∀G:List α,(G.foldr (fun y a=>g y^^^a) 0).testBit q=decide ((G.filter fun y=> (g y).testBit q).length%2=1)
 | []=>by simp
 | y::G=>by
  rw [List.foldr_cons,Nat.testBit_xor,IF g q G]
  by_cases h:(g y).testBit q=true
  ·rw [List.filter_cons_of_pos (p:=fun y=> (g y).testBit q) h,List.length_cons,h]
   by_cases h2:(G.filter fun y=> (g y).testBit q).length%2=1
   ·rw [eC h2,cM (by omega)];rfl
   ·rw [cM h2,eC (by omega)];rfl
  ·rw [List.filter_cons_of_neg (p:=fun y=> (g y).testBit q) h];have h:(g y).testBit q=false:=by simpa using h
   rw [h];simp
theorem Tc:∀l:ah,rj l<2^l.length
 | []=>by simp [rj]
 | a::l=>by
  have:=Tc l;rw [rj,List.length_cons,Nat.pow_succ]
  split<;>omega
theorem G5{φ:Nat->Nat}(h0:φ 0=0)(hx:∀u v,φ (u^^^v)=φ u^^^φ v):∀B:List Nat,cK (B.map φ)=(cK B).map φ
 | []=>by simp [cK,h0]
 | b::B=>by
  rw [List.map_cons,cK,cK,G5 h0 hx B,qA,List.map_map,List.map_map]
  congr 1
  exact pw fun v _=> (hx b v).symm
theorem aeU{b:Nat}{B:List Nat}(h:(cK (b::B)).Nodup):b∉cK B:=fun hb=>by
 rw [cK,List.nodup_append]at h;exact h.2.2 b hb b (eh.2 ⟨0,tw B,Nat.xor_zero b⟩) O
theorem aeT{b:Nat}{B:List Nat}(h:(cK (b::B)).Nodup):(cK B).Nodup:=by
 rw [cK,List.nodup_append]at h;exact h.1
theorem afC{φ ψ:Nat->Nat}(h0:φ 0=0)(hx:∀u v,φ (u^^^v)=φ u^^^φ v)(k0:ψ 0=0)(kx:∀u v,ψ (u^^^v)=ψ u^^^ψ v){L:List Nat}(hi:∀x∈L,ψ (φ x)=x){r:Nat}(h:lf L r):lf (L.map φ) r:=by
 obtain⟨B,rfl,hB,hE⟩:=h;have dI:∀x∈cK B,ψ (φ x)=x:=fun x hxB=>xZ (S:=fun v=>ψ (φ v)=v) (by rw [h0,k0]) (fun u v hu hv=>by rw [hx,kx,hu,hv]) hi x ((hE x).2 hxB)
 refine⟨B.map φ,by simp,?_,fun v=>?_⟩
 ·rw [G5 h0 hx,List.Nodup,List.pairwise_map];refine List.Pairwise.imp_of_mem (R:=(· ≠ ·)) ?_ hB;intro a b ha hb kl e;exact kl (by rw [<-dI a ha,e,dI b hb])
 rw [G5 h0 hx,G5 h0 hx,eh,eh];exact⟨fun⟨u,hu,e⟩=> ⟨u,(hE u).1 hu,e⟩,fun⟨u,hu,e⟩=> ⟨u,(hE u).2 hu,e⟩⟩
theorem afB{A D:List Nat}{π:Nat->Nat}(h0:π 0=0)(hx:∀u v,π (u^^^v)=π u^^^π v)(hA:(cK (A.map π)).Nodup)(hD:∀d∈D,π d=0){r:Nat}(h:lf D r):lf (A++D) (A.length+r):=by
 obtain⟨B,rfl,hB,hE⟩:=h;have YZ:∀v∈cK B,π v=0:=fun v hv=>xZ (S:=fun v=>π v=0) h0 (fun u v hu hv=>by rw [hx,hu,hv];rfl) hD v ((hE v).2 hv)
 refine⟨A++B,by simp,?_,.of (fun b hb=>?_) (fun b hb=>?_)⟩
 ·clear hE hD
  induction A with
  | nil=>exact hB
  | cons a A ih=>
   have YS:=aeT hA;refine Cb (ih YS) fun ha=>aeU hA ?_
   refine xZ (S:=fun v=>π v∈cK (A.map π)) (by rw [h0];exact tw _) (fun u v hu hv=>by rw [hx];exact rn hu hv) (fun b hb=>?_) a ha;rcases eD.1 hb with hb | hb
   ·exact jJ (eh.2 ⟨b,hb,O⟩)
   ·rw [YZ b (jJ hb)];exact tw _
 ·rcases eD.1 hb with hb | hb
  ·exact jJ (List.mem_append_left _ hb)
  ·exact x7 (fun x hx=>List.mem_append_right _ hx) b ((hE b).1 (jJ hb))
 ·rcases eD.1 hb with hb | hb
  ·exact jJ (List.mem_append_left _ hb)
  ·exact x7 (fun x hx=>List.mem_append_right _ hx) b ((hE b).2 (jJ hb))
theorem IG{α:Type}{g:α->Nat}{L:List Nat}:∀ {G:List α},(∀y∈G,g y∈cK L)->G.foldr (fun y a=>g y^^^a) 0∈cK L
 | [],_=>tw L
 | y::G,h=>by
  rw [List.foldr_cons];exact rn (h y (by simp)) (IG fun z hz=>h z (eb _ hz))
end
section
open Go.RowKit
variable{x y R:ah}{t:Int}
abbrev KF:=Int×((aX×ah)×(aX×ah))
def GW(u:(aX×ah)×(aX×ah)):ab:= .agg #[u.1.1.v,u.2.1.v]
def fw(b:Nat)(x:ah):Prop:=mP x/\∀e∈x,e<b
def Hs(b:Nat)(p:KF):Prop:=fw b p.2.1.2/\fw b p.2.2.2/\p.2.2.2.getLast?=some p.1
def vY(M:List KF):List Nat:=M.map fun p=>bV p.2.2.2
abbrev fV(A:ai)(v u:aX):Ck:=Bx 177 2 A [v.v,u.v]
theorem ae6{α:Type}(a b:α)(R1 Y:List α):(a::b::(R1++Y)).Perm (R1++ ([a,b]++Y)):=by
 have:=(iK (l₁:=[a,b]) (l₂:=R1)).append_right Y;simpa using this
theorem TA{b:Nat}(hx:fw b x)(hy:fw b y):fw b (jz x y):=⟨Tz hx.1 hy.1,fun e he=>by
 rcases TB e he with h | h
 ·exact hx.2 e h
 exact hy.2 e h⟩
structure Vp(w0:aa)(g:Nat)(P3 P4 P5:ai)(v u v2 u2:aX)(qp y qz z:ah)(X:List Ck)(S:Nat->Bool)(e:Env)(w:aa):Prop where
 f0:e 0= .map (some g)
 f3:e 3= .pointer P3
 f4:e 4= .pointer P4
 f5:e 5= .pointer P5
 p0:S 0=true->e 27= .pointer (aB P3 0)
 p1:S 1=true->e 28=v.v
 p2:S 2=true->e 29= .pointer (aB P5 0)
 p3:S 3=true->e 30=v2.v
 p7:S 7=true->e 34= .pointer (aB P3 1)
 p8:S 8=true->e 35=u.v
 p9:S 9=true->e 36= .pointer (aB P5 1)
 db:S 10=true->e 37=u2.v
 mem:∃(A1 B1 A2 B2:ai) (c1 d1 c2 d2:Nat) (R1 R2:List Ck) (T:List ab),(S 4=false->R1=[])/\(S 4=true->S 5=false->e 31= .slice A1 2 2/\R1=[br 24 A1 2 2 [v,v2]])/\(S 5=true->S 6=false->e 32= .slice A1 (qp++qz).length c1/\R1=[ar 2 A1 (qp++qz).length c1 (qp++qz)])/\(S 6=true->e 33= .slice A1 (jz qp qz).length c1/\R1=[ar 2 A1 (jz qp qz).length c1 (jz qp qz),ar 2 B1 (qp++qz).length d1 (fT (qp++qz))])/\(S 11=false->R2=[])/\(S 11=true->S 12=false->e 38= .slice A2 2 2/\R2=[br 24 A2 2 2 [u,u2]])/\(S 12=true->S 13=false->e 39= .slice A2 (y++z).length c2/\R2=[ar 2 A2 (y++z).length c2 (y++z)])/\(S 13=true->e 40= .slice A2 (jz y z).length c2/\R2=[ar 2 A2 (jz y z).length c2 (jz y z),ar 2 B2 (y++z).length d2 (fT (y++z))])/\(S 14=true->e 41= .agg #[.slice A1 (jz qp qz).length c1,.slice A2 (jz y z).length c2])/\(S 15=false->T=[v.v,u.v])/\(S 15=true->T=[.slice A1 (jz qp qz).length c1,.slice A2 (jz y z).length c2])/\St w0 w (R1++ (R2++ (fV P5 v2 u2::Bx 177 2 P3 T::fV P4 bW bW::X)))
theorem afE(g:Nat)(M:List KF)(s0 s:aX)(x0 x:ah)(b:Nat)(w:aa)(hM:pz w g (ic (Value.int .i64) GW M))(Zq:∀p∈M,(bt w p.2.1.1.a p.2.1.1.n p.2.1.2/\bt w p.2.2.1.a p.2.2.1.n p.2.2.2)/\Hs b p)(nO:bt w s0.a s0.n x0)(mX:fw b x0)(hx:bt w s.a s.n x)(hX:fw b x)(hb:b<=1000000):
 aG prog 176 [.map (some g),.agg #[s0.v,s.v]] w (fun v w'=>∃jI oI s' x' X,v=GW ((jI,oI),(s',x'))/\fw b oI/\fw b x'/\bV x^^^bV x'∈cK (vY M)/\(∀t,x'.getLast?=some t->eM M t=none)/\St w w' X/\(jI=s0/\oI=x0\/ar 2 jI.a jI.n jI.c oI∈X)/\(s'=s/\x'=x\/ar 2 s'.a s'.n s'.c x'∈X)):=by
 refine bw func176 O ntmps176 O (kX O O) (bb O (wu (St.refl w) O O ?_));intro P3 w1 aC;refine sK aC O fun P4 w2 aE=>az O ?_;have aE:St w w2 (fV P3 s0 s::fV P4 bW bW::[]):=aE.swap;refine Cd.loop (α:=(aX×ah)×(aX×ah)×List Ck) (fun z=> [(0,.map (some g)),(3,.pointer P3),(4,.pointer P4)])
  (fun z w'=>fw b z.1.2/\fw b z.2.1.2/\bV x^^^bV z.2.1.2∈cK (vY M)/\(z.1.1=s0/\z.1.2=x0\/ar 2 z.1.1.a z.1.1.n z.1.1.c z.1.2∈z.2.2)/\(z.2.1.1=s/\z.2.1.2=x\/ar 2 z.2.1.1.a z.2.1.1.n z.2.1.1.c z.2.1.2∈z.2.2)/\St w w' (fV P3 z.1.1 z.2.1.1::fV P4 bW bW::z.2.2)) (fun z=>GJ z.2.1.2) ((s0,x0),(s,x),[]) ⟨rfl,rfl,rfl,aw⟩ ⟨mX,hX,by show bV x^^^bV x∈_;rw [Nat.xor_self];exact tw _,.inl ⟨rfl,rfl⟩,.inl ⟨rfl,rfl⟩,aE⟩ ?_
 clear aE aC;rintro⟨⟨v,qp⟩,⟨u,y⟩,X⟩ e w3 ⟨nJ,hy,iP,ur,my,hS⟩;dsimp only at nJ hy iP ur my hS|-;have QY:∀(w':aa) (Y:List Ck),St w w' Y->(∀k∈X,k∈Y)->bt w' v.a v.n qp:=fun w' Y h Kq=>by
  rcases ur with⟨rfl,rfl⟩ | h9
  ·exact h.b9 nO
  ·exact mD h (Kq _ h9)
 have RA:∀(w':aa) (Y:List Ck),St w w' Y->(∀k∈X,k∈Y)->bt w' u.a u.n y:=fun w' Y h Kq=>by
  rcases my with⟨rfl,rfl⟩ | h9
  ·exact h.b9 hx
  ·exact mD h (Kq _ h9)
 have qZ:=RA w3 _ hS (fun k hk=>by simp [hk]);have DO:=(QY w3 _ hS (fun k hk=>by simp [hk])).1;have pZ:=qZ.1;have hyb:=hy.1.len hy.2;have hqb:=nJ.1.len nJ.2;have iN:=hS.rd 0 O;refine bb O (aI iN O (aV iN O ?_));refine ba O O (az O ?_);refine aM _ O (fun h1=>?_) (fun h1=>?_)
 ·obtain⟨m,hm⟩:∃m,y.length=m+1:=⟨y.length - 1,by omega⟩;have oq:=K6 hm;have e1:((u.n:Int) - 1)=(m:Int):=by omega
  have h0:=hy.1.2 _ (show gi y m∈y by rw [bX (by omega)];exact fe _);generalize ht:gi y m=t at*;refine aD O (aI iN O (aV iN O (aI iN O (aV iN O ?_))));refine ba O O (dq O ?_);refine aA qZ.2 O (aY qZ O ?_);rw [e1,ht];cases hg:eM M t with
  | none => --dup 2
   refine Hy (v:= .agg #[.slice none 0 0,.slice none 0 0]) D8 (x:=t) (hS.SC hM) O O (by rw [hg];try rfl) O ?_;rw [hg];refine aq O (sK hS O ?_);intro P5 w4 aQ;refine bS 2 0 aQ O O O O O O O ?_;intro w5 a8;have a8:St w w5 (fV P5 bW bW::fV P3 v u::fV P4 bW bW::X):=a8;refine aq O ?_
   first | refine de rfl rfl ?_ | refine dV rfl rfl ?_
   refine az O (Cd.eH O (aD O (bI 1 (a8.rd 1 O) O O O (bS 2 2 a8 O O O O O O O ?_))));intro w6 bg;have bg:St w w6 (fV P5 bW bW::fV P3 v u::fV P4 v u::X):=bg;refine bD O (dO (dJ ?_));refine⟨P4,_,O,bg.rd 2 O,v,qp,u,y,_,O,nJ,hy,iP,fun t' h'=>?_,bg,?_,?_⟩
   ·rw [oq]at h';cases h';exact hg
   ·exact ur.imp id fun h=>by simp [h]
   ·exact my.imp id fun h=>by simp [h]
  | some p=>
   have DM:=IM hg;obtain⟨⟨Km,KG⟩,xw,sf,ox⟩:=Zq _ DM;obtain⟨⟨v2,qz⟩,⟨u2,z⟩⟩:=p;dsimp only at Km KG xw sf ox;have BC:=sf.1.len sf.2;have hqzb:=xw.1.len xw.2;have hqzl:=Km.1;have sr:=KG.1;refine Hy (v:= .agg #[v2.v,u2.v]) D8 (x:=t) (hS.SC hM) O O (by rw [hg];try rfl) O ?_;rw [hg];refine aq O (sK hS O ?_);intro P5 w4 aQ;refine bS 2 0 aQ O O O O O O O ?_;intro w5 a8;have a8:St w w5 (fV P5 v2 u2::fV P3 v u::fV P4 bW bW::X):=a8;refine aq O ?_
   first | refine de rfl rfl ?_ | refine dV rfl rfl ?_
   refine az O (Cd.dZ O ?_);clear hS aQ iN qZ;refine cW O (oO (by kernel_rfl) (by kernel_rfl) (fun S e1 w1=>Vp w g P3 P4 P5 v u v2 u2 qp y qz z X S e1 w1) (fun w4 hb=> ⟨O,O,O,O,fun h=> (nomatch h),fun h=> (nomatch h),fun h=> (nomatch h),fun h=> (nomatch h),fun h=> (nomatch h),fun h=> (nomatch h),fun h=> (nomatch h),fun h=> (nomatch h),none,none,none,none,0,0,0,0,[],[],[v.v,u.v],fun _=>O,fun h=> (nomatch h),fun h=> (nomatch h),fun h=> (nomatch h),fun _=>O,fun h=> (nomatch h),fun h=> (nomatch h),fun h=> (nomatch h),fun h=> (nomatch h),fun _=>O,fun h=> (nomatch h),a8.ao hb⟩) ?_ ?_)
   ·intro S q o e1 w4 hq aO hd bE hI;obtain⟨f0,f3,f4,f5,p0,p1,p2,p3,p7,p8,p9,db,A1,B1,A2,B2,c1,d1,c2,d2,R1,R2,T,m4,qf,qg,oE,m11,qc,qe,oD,m14,m15,vO,hT⟩:=hI
    match q,hq,aO with
    | 0,hq,aO=>
     obtain rfl:=bj hq;have nE:St w w4 (fV P5 v2 u2::Bx 177 2 P3 T::fV P4 bW bW::X):=(hT.sub (dz _ _)).sub (dz _ _);refine ajs (nE.rd 1 O) (by exact f3) O O O inferInstance (ak.n ?_);exact⟨f0,f3,f4,f5,fun _=>O,p1,p2,p3,p7,p8,p9,db,A1,B1,A2,B2,c1,d1,c2,d2,R1,R2,T,m4,qf,qg,oE,m11,qc,qe,oD,m14,m15,vO,hT⟩
    | 1,hq,aO=>
     obtain rfl:=bj hq;have n15:S 15=false:=by
      cases h:S 15 with
      | false=>rfl
      | true=>rw [<-aO];exact(aZ (bE 15 _ h rfl) 1 rfl).symm
     obtain rfl:=m15 n15;have nE:St w w4 (fV P5 v2 u2::Bx 177 2 P3 [v.v,u.v]::fV P4 bW bW::X):=(hT.sub (dz _ _)).sub (dz _ _);refine ajt (j:=0) (nE.rd 1 O) (by exact p0 (aZ hd 0 O)) O O O O (ak.n ?_);exact⟨f0,f3,f4,f5,p0,fun _=>O,p2,p3,p7,p8,p9,db,A1,B1,A2,B2,c1,d1,c2,d2,R1,R2,_,m4,qf,qg,oE,m11,qc,qe,oD,m14,fun _=>O,fun h=> (nomatch n15.symm.trans h),hT⟩
    | 2,hq,aO=>
     obtain rfl:=bj hq;have nE:St w w4 (fV P5 v2 u2::Bx 177 2 P3 T::fV P4 bW bW::X):=(hT.sub (dz _ _)).sub (dz _ _);refine ajs (nE.rd 0 O) (by exact f5) O O O inferInstance (ak.n ?_);exact⟨f0,f3,f4,f5,p0,p1,fun _=>O,p3,p7,p8,p9,db,A1,B1,A2,B2,c1,d1,c2,d2,R1,R2,T,m4,qf,qg,oE,m11,qc,qe,oD,m14,m15,vO,hT⟩
    | 3,hq,aO=>
     obtain rfl:=bj hq;have nE:St w w4 (fV P5 v2 u2::Bx 177 2 P3 T::fV P4 bW bW::X):=(hT.sub (dz _ _)).sub (dz _ _);refine ajt (j:=0) (nE.rd 0 O) (by exact p2 (aZ hd 2 O)) O O O O (ak.n ?_);exact⟨f0,f3,f4,f5,p0,p1,p2,fun _=>O,p7,p8,p9,db,A1,B1,A2,B2,c1,d1,c2,d2,R1,R2,T,m4,qf,qg,oE,m11,qc,qe,oD,m14,m15,vO,hT⟩
    | 4,hq,aO=>
     obtain rfl:=bj hq;obtain rfl:=m4 aO;have n5:S 5=false:=by
      cases h:S 5 with
      | false=>rfl
      | true=>rw [<-aO];exact(aZ (bE 5 _ h rfl) 4 rfl).symm
     have n6:S 6=false:=by
      cases h:S 6 with
      | false=>rfl
      | true=>rw [<-aO];exact(aZ (bE 5 _ (aZ (bE 6 _ h rfl) 5 rfl) rfl) 4 rfl).symm
     have n14:S 14=false:=by
      cases h:S 14 with
      | false=>rfl
      | true=>rw [<-aO];exact(aZ (bE 5 _ (aZ (bE 6 _ (aZ (bE 14 _ h rfl) 6 rfl) rfl) 5 rfl) rfl) 4 rfl).symm
     have n15:S 15=false:=by
      cases h:S 15 with
      | false=>rfl
      | true=>rw [<-aO];exact(aZ (bE 15 _ h rfl) 4 rfl).symm
     refine Hw hT (by exact p1 (aZ hd 1 O)) (by exact p3 (aZ hd 3 O)) O O O O ?_;intro A' w9 hT;refine ak.n ?_;exact⟨f0,f3,f4,f5,p0,p1,p2,p3,p7,p8,p9,db,A',B1,A2,B2,c1,d1,c2,d2,[br 24 A' 2 2 [v,v2]],R2,T,fun h=> (nomatch (show true=false from h)),fun _ _=> ⟨O,O⟩,fun h=> (nomatch n5.symm.trans h),fun h=> (nomatch n6.symm.trans h),m11,qc,qe,oD,fun h=> (nomatch n14.symm.trans h),m15,fun h=> (nomatch n15.symm.trans h),hT⟩
    | 5,hq,aO=>
     obtain rfl:=bj hq;have n6:S 6=false:=by
      cases h:S 6 with
      | false=>rfl
      | true=>rw [<-aO];exact(aZ (bE 6 _ h rfl) 5 rfl).symm
     have n14:S 14=false:=by
      cases h:S 14 with
      | false=>rfl
      | true=>rw [<-aO];exact(aZ (bE 6 _ (aZ (bE 14 _ h rfl) 6 rfl) rfl) 5 rfl).symm
     have n15:S 15=false:=by
      cases h:S 15 with
      | false=>rfl
      | true=>rw [<-aO];exact(aZ (bE 15 _ h rfl) 5 rfl).symm
     obtain⟨YA,rfl⟩:=qf (aZ hd 4 rfl) aO;have wW:iT w4 A1 2 [v,v2]:=hT.fq 0 O;have Bv:=QY w4 _ hT (fun k hk=>by simp [hk]);have hqz:=hT.b9 Km;refine ajq (Mr A1 v v2 qp qz _ wW Bv hqz (by omega)) O (by exact aL (fun v=> [v]) YA) O ?_;rintro _ w9 ⟨A',c',rfl,ax⟩;have hT:=(hT.tail).call ax;refine ak.n ?_;exact⟨f0,f3,f4,f5,p0,p1,p2,p3,p7,p8,p9,db,A',B1,A2,B2,c',d1,c2,d2,[ar 2 A' (qp++qz).length c' (qp++qz)],R2,T,fun h=> (nomatch (aZ hd 4 O).symm.trans h),fun _ h=> (nomatch (show true=false from h)),fun _ _=> ⟨O,O⟩,fun h=> (nomatch n6.symm.trans h),m11,qc,qe,oD,fun h=> (nomatch n14.symm.trans h),m15,fun h=> (nomatch n15.symm.trans h),hT⟩
    | 6,hq,aO=>
     obtain rfl:=bj hq;have n12:S 12=false:=by
      cases h:S 12 with
      | false=>rfl
      | true=>rw [<-aO];exact(aZ (bE 12 _ h rfl) 6 rfl).symm
     have n14:S 14=false:=by
      cases h:S 14 with
      | false=>rfl
      | true=>rw [<-aO];exact(aZ (bE 14 _ h rfl) 6 rfl).symm
     have n15:S 15=false:=by
      cases h:S 15 with
      | false=>rfl
      | true=>rw [<-aO];exact(aZ (bE 15 _ h rfl) 6 rfl).symm
     obtain⟨Ag,rfl⟩:=qg (aZ hd 5 rfl) aO;refine ajq (Lp 0 hT O (by rw [dh];omega)) O (by exact aL (fun v=> [v]) Ag) O ?_;rintro _ w9 ⟨A',c',rfl,hT⟩;refine ak.n ?_;exact⟨f0,f3,f4,f5,p0,p1,p2,p3,p7,p8,p9,db,A',A1,A2,B2,c',c1,c2,d2,[ar 2 A' (jz qp qz).length c' (jz qp qz),ar 2 A1 (qp++qz).length c1 (fT (qp++qz))],R2,T,fun h=> (nomatch (aZ (bE 5 _ (aZ hd 5 O) O) 4 O).symm.trans h),fun _ h=> (nomatch (aZ hd 5 O).symm.trans h),fun _ h=> (nomatch (show true=false from h)),fun _=> ⟨O,O⟩,m11,qc,qe,oD,fun h=> (nomatch n14.symm.trans h),m15,fun h=> (nomatch n15.symm.trans h),hT⟩
    | 7,hq,aO=>
     obtain rfl:=bj hq;have nE:St w w4 (fV P5 v2 u2::Bx 177 2 P3 T::fV P4 bW bW::X):=(hT.sub (dz _ _)).sub (dz _ _);refine ajs (nE.rd 1 O) (by exact f3) O O O inferInstance (ak.n ?_);exact⟨f0,f3,f4,f5,p0,p1,p2,p3,fun _=>O,p8,p9,db,A1,B1,A2,B2,c1,d1,c2,d2,R1,R2,T,m4,qf,qg,oE,m11,qc,qe,oD,m14,m15,vO,hT⟩
    | 8,hq,aO=>
     obtain rfl:=bj hq;have n15:S 15=false:=by
      cases h:S 15 with
      | false=>rfl
      | true=>rw [<-aO];exact(aZ (bE 15 _ h rfl) 8 rfl).symm
     obtain rfl:=m15 n15;have nE:St w w4 (fV P5 v2 u2::Bx 177 2 P3 [v.v,u.v]::fV P4 bW bW::X):=(hT.sub (dz _ _)).sub (dz _ _);refine ajt (j:=1) (nE.rd 1 O) (by exact p7 (aZ hd 7 O)) O O O O (ak.n ?_);exact⟨f0,f3,f4,f5,p0,p1,p2,p3,p7,fun _=>O,p9,db,A1,B1,A2,B2,c1,d1,c2,d2,R1,R2,_,m4,qf,qg,oE,m11,qc,qe,oD,m14,fun _=>O,fun h=> (nomatch n15.symm.trans h),hT⟩
    | 9,hq,aO=>
     obtain rfl:=bj hq;have nE:St w w4 (fV P5 v2 u2::Bx 177 2 P3 T::fV P4 bW bW::X):=(hT.sub (dz _ _)).sub (dz _ _);refine ajs (nE.rd 0 O) (by exact f5) O O O inferInstance (ak.n ?_);exact⟨f0,f3,f4,f5,p0,p1,p2,p3,p7,p8,fun _=>O,db,A1,B1,A2,B2,c1,d1,c2,d2,R1,R2,T,m4,qf,qg,oE,m11,qc,qe,oD,m14,m15,vO,hT⟩
    | 10,hq,aO=>
     obtain rfl:=bj hq;have nE:St w w4 (fV P5 v2 u2::Bx 177 2 P3 T::fV P4 bW bW::X):=(hT.sub (dz _ _)).sub (dz _ _);refine ajt (j:=1) (nE.rd 0 O) (by exact p9 (aZ hd 9 O)) O O O O (ak.n ?_);exact⟨f0,f3,f4,f5,p0,p1,p2,p3,p7,p8,p9,fun _=>O,A1,B1,A2,B2,c1,d1,c2,d2,R1,R2,T,m4,qf,qg,oE,m11,qc,qe,oD,m14,m15,vO,hT⟩
    | 11,hq,aO=>
     obtain rfl:=bj hq;obtain rfl:=m11 aO;have n12:S 12=false:=by
      cases h:S 12 with
      | false=>rfl
      | true=>rw [<-aO];exact(aZ (bE 12 _ h rfl) 11 rfl).symm
     have n13:S 13=false:=by
      cases h:S 13 with
      | false=>rfl
      | true=>rw [<-aO];exact(aZ (bE 12 _ (aZ (bE 13 _ h rfl) 12 rfl) rfl) 11 rfl).symm
     have n14:S 14=false:=by
      cases h:S 14 with
      | false=>rfl
      | true=>rw [<-aO];exact(aZ (bE 12 _ (aZ (bE 13 _ (aZ (bE 14 _ h rfl) 13 rfl) rfl) 12 rfl) rfl) 11 rfl).symm
     have n15:S 15=false:=by
      cases h:S 15 with
      | false=>rfl
      | true=>rw [<-aO];exact(aZ (bE 15 _ h rfl) 11 rfl).symm
     have hT:=hT.perm (show(R1++ ([]++ (fV P5 v2 u2::Bx 177 2 P3 T::fV P4 bW bW::X))).Perm (R1++ (fV P5 v2 u2::Bx 177 2 P3 T::fV P4 bW bW::X)) from List.Perm.refl _);refine Hw hT (by exact p8 (aZ hd 8 O)) (by exact db (aZ hd 10 O)) O O O O ?_;intro A' w9 hT;refine ak.n ?_;exact⟨f0,f3,f4,f5,p0,p1,p2,p3,p7,p8,p9,db,A1,B1,A',B2,c1,d1,c2,d2,R1,[br 24 A' 2 2 [u,u2]],T,m4,qf,qg,oE,fun h=> (nomatch (show true=false from h)),fun _ _=> ⟨O,O⟩,fun h=> (nomatch n12.symm.trans h),fun h=> (nomatch n13.symm.trans h),fun h=> (nomatch n14.symm.trans h),m15,fun h=> (nomatch n15.symm.trans h),hT.perm (eK (l₁:=R1)).symm⟩
    | 12,hq,aO=>
     obtain rfl:=bj hq;have n13:S 13=false:=by
      cases h:S 13 with
      | false=>rfl
      | true=>rw [<-aO];exact(aZ (bE 13 _ h rfl) 12 rfl).symm
     have n14:S 14=false:=by
      cases h:S 14 with
      | false=>rfl
      | true=>rw [<-aO];exact(aZ (bE 13 _ (aZ (bE 14 _ h rfl) 13 rfl) rfl) 12 rfl).symm
     have n15:S 15=false:=by
      cases h:S 15 with
      | false=>rfl
      | true=>rw [<-aO];exact(aZ (bE 15 _ h rfl) 12 rfl).symm
     obtain⟨YB,rfl⟩:=qc (aZ hd 11 rfl) aO;replace hT:=hT.perm (eK (l₁:=R1));have wW:iT w4 A2 2 [u,u2]:=hT.fq 0 O;have qZ:=RA w4 _ hT (fun k hk=>by simp [hk]);have hz:=hT.b9 KG;refine ajq (Mr A2 u u2 y z _ wW qZ hz (by omega)) O (by exact aL (fun v=> [v]) YB) O ?_;rintro _ w9 ⟨A',c',rfl,ax⟩;have hT:=(hT.tail).call ax;refine ak.n ?_;exact⟨f0,f3,f4,f5,p0,p1,p2,p3,p7,p8,p9,db,A1,B1,A',B2,c1,d1,c',d2,R1,[ar 2 A' (y++z).length c' (y++z)],T,m4,qf,qg,oE,fun h=> (nomatch (aZ hd 11 O).symm.trans h),fun _ h=> (nomatch (show true=false from h)),fun _ _=> ⟨O,O⟩,fun h=> (nomatch n13.symm.trans h),fun h=> (nomatch n14.symm.trans h),m15,fun h=> (nomatch n15.symm.trans h),hT.perm (eK (l₁:=R1)).symm⟩
    | 13,hq,aO=>
     obtain rfl:=bj hq;have n14:S 14=false:=by
      cases h:S 14 with
      | false=>rfl
      | true=>rw [<-aO];exact(aZ (bE 14 _ h rfl) 13 rfl).symm
     have n15:S 15=false:=by
      cases h:S 15 with
      | false=>rfl
      | true=>rw [<-aO];exact(aZ (bE 15 _ h rfl) 13 rfl).symm
     obtain⟨YC,rfl⟩:=qe (aZ hd 12 rfl) aO;replace hT:=hT.perm (eK (l₁:=R1));refine ajq (Lp 0 hT O (by rw [dh];omega)) O (by exact aL (fun v=> [v]) YC) O ?_;rintro _ w9 ⟨A',c',rfl,hT⟩;refine ak.n ?_;exact⟨f0,f3,f4,f5,p0,p1,p2,p3,p7,p8,p9,db,A1,B1,A',A2,c1,d1,c',c2,R1,[ar 2 A' (jz y z).length c' (jz y z),ar 2 A2 (y++z).length c2 (fT (y++z))],T,m4,qf,qg,oE,fun h=> (nomatch (aZ (bE 12 _ (aZ hd 12 O) O) 11 O).symm.trans h),fun _ h=> (nomatch (aZ hd 12 O).symm.trans h),fun _ h=> (nomatch (show true=false from h)),fun _=> ⟨O,O⟩,fun h=> (nomatch n14.symm.trans h),m15,fun h=> (nomatch n15.symm.trans h),hT.perm (ae6 _ _ _ _)⟩
    | 14,hq,aO=>
     obtain rfl:=bj hq;have q6:=oE (aZ hd 6 O);have q13:=oD (aZ hd 13 O);refine CC (by exact inferInstance) (by exact inferInstance) O O (by exact q6.1) (by exact q13.1) O O O (ak.n ?_);exact⟨f0,f3,f4,f5,p0,p1,p2,p3,p7,p8,p9,db,A1,B1,A2,B2,c1,d1,c2,d2,R1,R2,T,m4,qf,qg,oE,m11,qc,qe,oD,fun _=>O,m15,vO,hT⟩
    | 15,hq,aO=>
     obtain rfl:=bj hq;obtain⟨OP,rfl⟩:=oE (by first | exact aZ hd 6 rfl);obtain⟨Fv,rfl⟩:=oD (aZ hd 13 rfl);obtain rfl:=m15 aO;refine bS 2 5 hT O (by exact f3) (by exact m14 (aZ hd 14 O)) O O O O ?_;intro w9 hT;refine ak.n ?_;exact⟨f0,f3,f4,f5,p0,p1,p2,p3,p7,p8,p9,db,A1,B1,A2,B2,c1,d1,c2,d2,_,_,_,fun h=> (nomatch (aZ hd 4 O).symm.trans h),fun _ h=> (nomatch (aZ hd 5 O).symm.trans h),fun _ h=> (nomatch (aZ hd 6 O).symm.trans h),fun _=> ⟨OP,O⟩,fun h=> (nomatch (aZ hd 11 O).symm.trans h),fun _ h=> (nomatch (aZ hd 12 O).symm.trans h),fun _ h=> (nomatch (aZ hd 13 O).symm.trans h),fun _=> ⟨Fv,O⟩,m14,fun h=> (nomatch (show true=false from h)),fun _=>O,hT⟩
    | q+16,hq,_=>exact(nomatch hq)
   ·intro S e1 w4 cO hI;obtain⟨f0,f3,f4,f5,p0,p1,p2,p3,p7,p8,p9,db,A1,B1,A2,B2,c1,d1,c2,d2,R1,R2,T,m4,qf,qg,oE,m11,qc,qe,oD,m14,m15,vO,hT⟩:=hI;obtain⟨OP,rfl⟩:=oE (cO 6 (by decide));obtain⟨Fv,rfl⟩:=oD (cO 13 (by decide));obtain rfl:=vO (cO 15 (by decide));refine xT (F:=[(0,.map (some g)),(3,.pointer P3),(4,.pointer P4)]) ⟨f0,f3,f4,aw⟩ ?_;have Ri:=TA hy sf;refine Hr O (tQ ?_);refine⟨((⟨A1,(jz qp qz).length,c1⟩,jz qp qz),(⟨A2,(jz y z).length,c2⟩,jz y z),ar 2 A1 (jz qp qz).length c1 (jz qp qz)::ar 2 B1 (qp++qz).length d1 (fT (qp++qz))::ar 2 A2 (jz y z).length c2 (jz y z)::ar 2 B2 (y++z).length d2 (fT (y++z))::fV P5 v2 u2::X),?_,(ajz O),TA nJ xw,Ri,?_,.inr (by simp),.inr (by simp),?_⟩
    ·exact aeM oq (fun e he=> ⟨Ri.1.2 e he,agi hy.1 sf.1 oq ox e he⟩) h0
    ·show bV x^^^bV (jz y z)∈_;rw [Ty,<-Nat.xor_assoc];exact rn iP (jJ (eh.2 ⟨_,DM,O⟩))
    ·refine hT.perm ?_;show([_,_,_,_,_]++ [_,_]++X).Perm ([_,_]++ [_,_,_,_,_]++X);exact iK.append_right X
 ·have mx:y=[]:=lg (by omega);refine bo O (bn (cJ O ?_));refine bI 1 iN O O O (bS 2 1 hS O O O O O O O ?_);intro w6 bg;have bg:St w w6 (fV P3 v u::fV P4 v u::X):=bg;refine bD O ?_;refine⟨P4,_,O,bg.rd 1 O,v,qp,u,y,_,O,nJ,hy,iP,fun t' h'=>?_,bg,ur.imp id fun h=>by simp [h],my.imp id fun h=>by simp [h]⟩;rw [mx]at h';cases h'
def gC(R:ah)(B:ag)(e:Int)(k:Nat):ah:=((gl B e).take k).filter fun d=>decide (gi R d=gi R e - 1)
def eB(R:ah)(B:ag)(e:Int):ah:=(gl B e).filter fun d=>decide (gi R d=gi R e - 1)
def eW(R:ah)(B:ag)(ch:ah):ah:=ch.flatMap (eB R B)
theorem CN{B:ag}{e:Int}{k:Nat}(h:(gl B e).length<=k):gC R B e k=eB R B e:=by unfold gC eB;rw [List.take_of_length_le h]
theorem EY(R:ah)(B:ag)(e:Int)(k:Nat):(gC R B e k).length<=k:=iS (oa _ _) (by rw [nt];omega)
theorem EX{B:ag}{e:Int}{k:Nat}(hk:k< (gl B e).length)(h:gi R (gi (gl B e) k)=gi R e - 1):gC R B e (k+1)=gC R B e k++ [gi (gl B e) k]:=by
 unfold gC;rw [rC hk,List.filter_append,<-bX hk];simp [h]
theorem EZ{B:ag}{e:Int}{k:Nat}(hk:k< (gl B e).length)(h:¬gi R (gi (gl B e) k)=gi R e - 1):gC R B e (k+1)=gC R B e k:=by
 unfold gC;rw [rC hk,List.filter_append,<-bX hk];simp [h]
theorem HS(R:ah)(B:ag)(ch:ah)(e:Int):eW R B (ch++ [e])=eW R B ch++eB R B e:=by simp [eW]
structure wx(w:aa)(Pc:ai)(n:Int)(AR AB:ai)(m cR cB:Nat)(R:ah)(rs:List aX)(B:ag):Prop where
 bx:Rd w Pc 3 (fun j=> [Value.int .i64 n,.slice AR m cR,.slice AB m cB].getD j undef)
 rk:bt w AR m R
 be:bL w AB m rs B
theorem wx.ao{w w':aa}{Pc:ai}{n:Int}{AR AB:ai}{m cR cB:Nat}{rs:List aX}{B:ag}(h:wx w Pc n AR AB m cR cB R rs B)(hb:Below w.heap.size w w'):wx w' Pc n AR AB m cR cB R rs B:=⟨Rd.below h.bx hb,h.rk.ao hb,h.be.ao hb⟩
structure qB(m:Nat)(R:ah)(B:ag):Prop where
 wH:m<=1000
 rg:∀e:Int,0<=e->e<m->(gl B e).length<=1000/\∀d∈gl B e,0<=d/\d<m
 rk:∀e:Int,0<=e->e<m-> -1000<=gi R e/\gi R e<=1000
theorem Nb{m:Nat}{B:ag}(h:qB m R B){e:Int}(h0:0<=e)(h1:e<m):(eB R B e).length<=1000:=iS (oa _ _) (h.rg e h0 h1).1
theorem zQ{m:Nat}{B:ag}(h:qB m R B){e:Int}(h0:0<=e)(h1:e<m):∀d∈eB R B e,0<=d/\d<m:=fun d hd=> (h.rg e h0 h1).2 d (ja.1 hd).1
theorem EW{m:Nat}{R:ah}{B:ag}(h:qB m R B):∀ch:ah,(∀e∈ch,0<=e/\e< (m:Int))->(eW R B ch).length<=1000*ch.length
 | [],_=>dC _
 | e::r,hc=>by
  have h1:=Nb h (hc e (by simp)).1 (hc e (by simp)).2;have h2:=EW h r fun e he=>hc e (by simp [he])
  show(eB R B e++eW R B r).length<=1000* (r.length+1);rw [dh];omega
theorem Wz(Pc:ai)(n:Int)(AR AB:ai)(m cR cB:Nat)(R:ah)(rs:List aX)(B:ag)(Ac:ai)(nc cc:Nat)(ch:ah)(w:aa)(hP:wx w Pc n AR AB m cR cB R rs B)(hO:qB m R B)(hC:bt w Ac nc ch)(hn:nc<=1000)(sW:∀e∈ch,0<=e/\e< (m:Int)):
 aG prog 177 [.pointer Pc,.slice Ac nc cc] w (fun v w'=>∃A' c' Y,v= .slice A' (gr (fT (eW R B ch))).length c'/\St w w' (ar 2 A' (gr (fT (eW R B ch))).length c' (gr (fT (eW R B ch)))::Y)):=by
 have bE:=hC.1;have hm:=hO.wH;have mY:=hP.be.len;have bT:=hP.rk.1;refine bw func177 O ntmps177 O (b7 O) ?_;refine bb O (ba O O (az O ?_));refine Cd.loop (α:=Nat×(ai×Nat)) (fun z=> [(0,.pointer Pc),(5,.slice z.2.1 (eW R B (ch.take z.1)).length z.2.2),(10,.slice Ac nc cc),(11,aj nc),(12,aj (z.1:Int))]) (fun z w'=>z.1<=nc/\St w w' [ar 2 z.2.1 (eW R B (ch.take z.1)).length z.2.2 (eW R B (ch.take z.1))]) (fun z=>nc - z.1) (0,(none,0)) (ajz O) ⟨bu _,(St.refl w).nil 2⟩ ?_;rintro⟨i,⟨A5,c5⟩⟩ e w1 ⟨hi,hS⟩;dsimp only at hi hS|-;refine b8 O (aM _ O (fun h1=>?_) (fun h1=>?_))
 ·have dI:i<nc:=by omega
  have Da:=hS.b9 hC;have iC:=hP.ao hS.below;have xk:=sW _ (gi_in (out:=ch) (i:=i) (by omega));have nD:=EW hO (ch.take i) fun e he=>sW e (List.mem_of_mem_take he)
  rw [nt]at nD;have o6:eW R B (ch.take (i+1))=eW R B (ch.take i)++eB R B (gi ch i):=by rw [pg (by omega),HS]
  refine aD O (aA Da.2 O (aY Da O ?_));generalize gi ch i=el at*;have xA:=iC.be.at_ (i:=el) xk.1 xk.2;have aje:=xA.1;have mz:=hO.rg el xk.1 xk.2;have Ko:=hO.rk el xk.1 xk.2;refine aq O (ik iC.bx (Nat.succ_pos _) O O (aI iC.bx O (aV iC.bx O (aq O (aA iC.be.top.2 O (bQ iC.be.top O ?_))))));clear iC xA Da;refine ba O O (az O ?_);refine Cd.loop (α:=Nat×(ai×Nat)) (fun z=> [(0,.pointer Pc),(5,.slice z.2.1 (eW R B (ch.take i)++gC R B el z.1).length z.2.2),(7,aj el),(10,.slice Ac nc cc),(11,aj nc),(12,aj i),(22,.slice (rg rs el).a (rg rs el).n (rg rs el).c),(23,aj ((rg rs el).n:Int)),(24,aj (z.1:Int))]) (fun z w'=>z.1<=(rg rs el).n/\St w w' [ar 2 z.2.1 (eW R B (ch.take i)++gC R B el z.1).length z.2.2 (eW R B (ch.take i)++gC R B el z.1)]) (fun z=> (rg rs el).n - z.1) (0,(A5,c5)) ⟨O,by show Value.slice _ _ _= .slice A5 (eW R B (ch.take i)++ []).length c5;rw [iz],O,O,O,O,O,O,O,aw⟩ ⟨bu _,by show St w w1 [ar 2 A5 (eW R B (ch.take i)++ []).length c5 (eW R B (ch.take i)++ [])];rw [iz];exact hS⟩ ?_;clear hS;rintro⟨k,⟨A5,c5⟩⟩ e w2 ⟨hk,hS⟩;dsimp only at hk hS|-;have ji:=EY R B el k;have nI:(eW R B (ch.take i)++gC R B el k).length<=1001000:=by rw [dh];omega
  refine b8 O (aM _ O (fun h2=>?_) (fun h2=>?_))
  ·have eN:k< (gl B el).length:=by omega
   have rQ:=hP.ao hS.below;have Q9:=rQ.be.at_ (i:=el) xk.1 xk.2;have hd:=mz.2 _ (gi_in (out:=gl B el) (i:=k) eN);have gF:=hO.rk _ hd.1 hd.2;have DB:=EX (R:=R) (B:=B) (e:=el) eN;have Bo:=EZ (R:=R) (B:=B) (e:=el) eN;refine aD O (aA Q9.2 O (aY Q9 O ?_));generalize gi (gl B el) k=dd at*;have ec:=rQ.bx;have ew:=rQ.rk;refine az O (dQ [xP (Pc),xP (Pc),xP (aB (Pc) 1),xS (AR) (m) (cR),xI (dd),xP (aB (AR) (dd).toNat),xI (gi (R) (dd)),xP (Pc),xP (Pc),xP (aB (Pc) 1),xS (AR) (m) (cR),xI (el),xP (aB (AR) (el).toNat),xI (gi (R) (el)),xI ((gi (R) (el)) - ((1:Int))),xB (decide ((gi (R) (dd))=((gi (R) (el)) - ((1:Int)))))] O (eE O) ?_ ?_)
   ·exact⟨Dr O,fun _ _ hb _ _=>ik (ec.below hb) (Nat.succ_pos _) O O Az,fun _ _ hb _ _=>aI (ec.below hb) O Az,fun _ _ hb _ _=>aV (ec.below hb) O Az,Dr O,fun _ _ hb _ _=>aA (ew.ao hb).2 O Az,fun _ _ hb _ _=>aY (ew.ao hb) O Az,Dr O,fun _ _ hb _ _=>ik (ec.below hb) (Nat.succ_pos _) O O Az,fun _ _ hb _ _=>aI (ec.below hb) O Az,fun _ _ hb _ _=>aV (ec.below hb) O Az,Dr O,fun _ _ hb _ _=>aA (ew.ao hb).2 O Az,fun _ _ hb _ _=>aY (ew.ao hb) O Az,fun _ _ _ _ _=>dq O Az,Dr O,aw⟩
   intro u w3 km _;replace hS:=hS.ao km;refine fv O (aM _ O (fun h3=>?_) (fun h3=>?_))
   ·have hh:=DB h3;refine aD O (dE hS O O O ?_);intro A46 w4 aQ;refine dS 1 aQ O (aQ.bk 0 O) O O O fun Hg H2 w5 a8=>aq O (aK O (aS O (tQ ?_)));exact⟨(k+1,(Hg,H2)),by show(rg rs el).n - (k+1)< (rg rs el).n - k;omega,⟨O,by show Value.slice _ _ _= .slice Hg (eW R B (ch.take i)++gC R B el (k+1)).length H2;rw [hh,<-fK,dh (bs:=[dd])];rfl,O,O,O,O,O,O,aL (Value.int .i64) (by omega),aw⟩,by show k+1<=_;omega,by
     show St w w5 [ar 2 Hg (eW R B (ch.take i)++gC R B el (k+1)).length H2 (eW R B (ch.take i)++gC R B el (k+1))];rw [hh,<-fK,dh (bs:=[dd])];exact a8.tail⟩
   have hh:=Bo h3;refine aD O (aK O (aS O (tQ ?_)));exact⟨(k+1,(A5,c5)),by show(rg rs el).n - (k+1)< (rg rs el).n - k;omega,⟨O,by show Value.slice _ _ _= .slice A5 (eW R B (ch.take i)++gC R B el (k+1)).length c5;rw [hh],O,O,O,O,O,O,aL (Value.int .i64) (by omega),aw⟩,by show k+1<=_;omega,by
    show St w w3 [ar 2 A5 (eW R B (ch.take i)++gC R B el (k+1)).length c5 (eW R B (ch.take i)++gC R B el (k+1))];rw [hh];exact hS⟩
  rw [CN (by omega),<-o6]at hS;rw [CN (by omega),<-o6];refine bo O (bn (cJ O (aK O (aS O (tQ ?_)))));exact⟨(i+1,(A5,c5)),by show nc - (i+1)<nc - i;omega,⟨O,O,O,O,aL (Value.int .i64) (by omega),aw⟩,by show i+1<=nc;omega,hS⟩
 obtain rfl:i=nc:=by omega
 rw [kA (by omega)]at hS|-;have nD:=EW hO ch sW;refine bo O (bn (cJ O ?_));refine aF (Lp 0 hS O (by omega)) O ?_;rintro _ w2 ⟨A',c',rfl,hT⟩;refine bD O (fb O ?_);exact⟨A',c',_,O,hT⟩
def iE(R:ah)(B:ag)(i:Int):List Nat:=(eO R i).map fun e=>bV (eB R B e)
theorem adh{M:List KF}{b:Nat}{L:List Nat}(hk:(M.map (·.1)).Nodup)(hM:∀p∈M,Hs b p)(h:iZ (vY M) L):lf L M.length:=by
 have h1:=adg (M:=M.map fun p=> ((p.1,p.2.2):KE)) (b:=b) (L:=L) (by rw [List.map_map];exact hk) (fun p hp=>by
  obtain⟨q,hq,rfl⟩:=eh.1 hp;exact(hM q hq).2) (by unfold Ca;rw [List.map_map];exact h)
 rwa [mf]at h1
theorem X3{M:List KF}(h:eM M t=none):t∉M.map (·.1):=fun hm=>by
 obtain⟨p,hp,e⟩:=eh.1 hm;exact IK h p hp e
theorem adm{M:List KF}{p:KF}(h:(M.map (·.1)).Nodup)(hp:p.1∉M.map (·.1)):((M++ [p]).map (·.1)).Nodup:=by
 rw [qA,List.nodup_append];refine⟨h,by simp,fun a ha b hb e=>hp ?_⟩;obtain rfl:b=p.1:=by simpa using hb
 rw [<-e];exact ha
theorem ae5{α:Type}(a:α)(b:α)(X Z Y:List α):(b::(X++ (Z++ (a::Y)))).Perm (a::(b::((X++Z)++Y))):=by
 have e1:b::(X++ (Z++ (a::Y)))=(b::(X++Z))++a::Y:=by simp
 have e2:a::(b::((X++Z)++Y))=a::((b::(X++Z))++Y):=by simp
 rw [e1,e2];exact eK
abbrev Cr(g:Nat)(M:List KF):Ck:=jn 135 g (ic (Value.int .i64) GW M)
theorem V9{m:Nat}{B:ag}(h:qB m R B){e:Int}(h0:0<=e)(h1:e<m):fw m (gr (fT (eW R B [e])))/\bV (gr (fT (eW R B [e])))=bV (eB R B e):=by
 have e0:eW R B [e]=eB R B e:=by simp [eW]
 obtain⟨a,b,c⟩:=Ee _ _ rfl (Ev (eW R B [e]));rw [e0]at a b c|-;have da:∀x∈gr (fT (eB R B e)),0<=x/\x< (m:Int):=fun x hx=>zQ h h0 h1 x ((vZ _).subset (b x hx))
 exact⟨⟨⟨a,fun x hx=> (da x hx).1⟩,fun x hx=> (da x hx).2⟩,c.trans (Ll (vZ _))⟩
theorem adf(Pc:ai)(n:Int)(AR AB:ai)(m cR cB:Nat)(R:ah)(rs:List aX)(B:ag)(i:Int)(w:aa)(hP:wx w Pc n AR AB m cR cB R rs B)(hO:qB m R B):
 aG prog 129 [.pointer Pc,aj i] w (fun v w'=>∃g gS,v= .map (some g)/\pz w' g gS/\gS.length<=1000/\lf (iE R B i) gS.length/\St w w' []):=by
 have hm:=hO.wH;have bT:=hP.rk.1;have ox:=hP.rk.1;refine bw func129 O ntmps129 O (b7 O) (bb O (EO (St.refl w) O ?_));intro g w1 aC;have iC:=hP.ao aC.below;refine aq O (ik iC.bx (Nat.succ_pos _) O O (aI iC.bx O (aV iC.bx O (aq O (aF (SP AR m cR R i w1 iC.rk (by omega)) O ?_)))));rintro _ w2 ⟨ka,kM,rfl,ax⟩;have aE:St w w2 (Cr g []::[ar 2 ka (eO R i).length kM (eO R i)]):=(aC.call ax).swap;have Js:∀e∈eO R i,0<=e/\e< (m:Int):=fun e he=>by have:=(BU.1 he).1;rw [bT]at this;exact this
 have Zx:(eO R i).length<=m:=iS (oa _ _) (by rw [dL,mf,tH];omega);have ew:iE R B i=(eO R i).map fun e=>bV (eB R B e):=O
 generalize eO R i=N at*;clear aC iC ax;refine ba O O (az O ?_);refine Cd.loop (α:=Nat×List KF×List Ck) (fun z=> [(0,.pointer Pc),(5,.map (some g)),(15,.slice ka N.length kM),(16,aj (N.length:Int)),(17,aj (z.1:Int))]) (fun z w'=>z.1<=N.length/\z.2.1.length<=z.1/\(∀p∈z.2.1,Hs m p/\ar 2 p.2.1.1.a p.2.1.1.n p.2.1.1.c p.2.1.2∈z.2.2/\ar 2 p.2.2.1.a p.2.2.1.n p.2.2.1.c p.2.2.2∈z.2.2)/\(z.2.1.map (·.1)).Nodup/\iZ (vY z.2.1) ((N.take z.1).map fun e=>bV (eB R B e))/\ar 2 ka N.length kM N∈z.2.2/\St w w' (Cr g z.2.1::z.2.2)) (fun z=>N.length - z.1) (0,[],[ar 2 ka N.length kM N]) ⟨rfl,rfl,rfl,rfl,rfl,aw⟩ ⟨bu _,bu _,(fun _ h=>by cases h),List.Pairwise.nil,iZ.refl _,List.mem_cons_self,aE⟩ ?_;clear aE;rintro⟨j,M,Y⟩ e w3 ⟨hj,Zp,hM,FB,hE,da,hS⟩;dsimp only at hj Zp hM FB hE da hS|-;refine b8 O (aM _ O (fun h1=>?_) (fun h1=>?_))
 ·have xo:j<N.length:=by omega
  have Jr:=mD hS (eb _ da);have mu:=Js _ (gi_in (out:=N) (i:=j) xo);have o6:(N.take (j+1)).map (fun e=>bV (eB R B e))=(N.take j).map (fun e=>bV (eB R B e))++ [bV (eB R B (gi N j))]:=by rw [pg xo,qA];rfl
  refine aD O (aA Jr.2 O (aY Jr O ?_));generalize gi N j=el at*;obtain⟨nO,AX⟩:=V9 hO mu.1 mu.2;clear Jr;refine aq O (dE hS O O O ?_);intro sE w4 aQ;refine aq O (dE aQ O O O ?_);intro uS w5 a8;refine ajq (Wz Pc n AR AB m cR cB R rs B uS 1 1 [el] w5 (hP.ao a8.below) hO (a8.bk 0 rfl) (by omega) (fun e he=>by obtain rfl:=dK.1 he;exact mu)) rfl rfl rfl ?_;rintro _ w6 ⟨we,zT,Y1,rfl,ax⟩;generalize gr (fT (eW R B [el]))=x0 at*;have bg:St w w6 ((ar 2 we x0.length zT x0::(Y1++ [ar 2 uS 1 1 [el],ar 2 sE 1 1 [el]]))++ (Cr g M::Y)):=by
   have:=a8.call ax;simpa using this
  clear a8 aQ hS ax;refine CC (by exact inferInstance) (by exact inferInstance) O O O O O O O ?_;have Fy:=bg.sub (dz _ _);have yu:ar 2 sE 1 1 [el]∈(ar 2 we x0.length zT x0::(Y1++ [ar 2 uS 1 1 [el],ar 2 sE 1 1 [el]])):=by simp
  have vi:ar 2 we x0.length zT x0∈(ar 2 we x0.length zT x0::(Y1++ [ar 2 uS 1 1 [el],ar 2 sE 1 1 [el]])):=List.mem_cons_self;generalize ar 2 we x0.length zT x0::(Y1++ [ar 2 uS 1 1 [el],ar 2 sE 1 1 [el]])=Z0 at*;refine ajq (afE g M ⟨sE,1,1⟩ ⟨we,x0.length,zT⟩ [el] x0 m _ (Fy.BZ 0 rfl) (fun p hp=> ⟨⟨mD Fy (eb _ (hM p hp).2.1),mD Fy (eb _ (hM p hp).2.2)⟩,(hM p hp).1⟩) (mD bg (List.mem_append_left _ yu)) ⟨⟨List.pairwise_singleton _ _,fun e he=>by obtain rfl:=dK.1 he;exact mu.1⟩,fun e he=>by obtain rfl:=dK.1 he;exact mu.2⟩ (mD bg (List.mem_append_left _ vi)) nO (by omega)) rfl rfl rfl ?_;rintro _ w7 ⟨jI,oI,s',x',X,rfl,ace,gR,iP,gE,ax,abz,my⟩;have bl:=bg.call ax;refine sK bl O fun A8 w8 bK=>bS 2 0 bK O O O O O O O ?_;intro w9 bh;have bh:St w w9 (fV A8 jI s'::(X++ (Z0++ (Cr g M::Y)))):=bh;have Yk:ar 2 jI.a jI.n jI.c oI∈X++Z0:=by
   rcases abz with⟨rfl,rfl⟩ | h
   ·exact List.mem_append_right _ yu
   exact List.mem_append_left _ h
  have vJ:ar 2 s'.a s'.n s'.c x'∈X++Z0:=by
   rcases my with⟨rfl,rfl⟩ | h
   ·exact List.mem_append_right _ vi
   exact List.mem_append_left _ h
  have FM:=bh.perm (ae5 _ _ _ _ _);generalize X++Z0=Z at*;clear bh bK bl bg Fy ax;have hZ:∀q∈Z,q∈fV A8 jI s'::(Z++Y):=fun q hq=>eb _ (List.mem_append_left _ hq)
  have qL:∀q∈Y,q∈fV A8 jI s'::(Z++Y):=fun q hq=>eb _ (List.mem_append_right _ hq)
  have sT:=FM.rd 1 O;have D1:=mD FM (eb _ (hZ _ vJ));have di:=D1.1;have KA:=gR.1.len gR.2;generalize hZY:fV A8 jI s'::(Z++Y)=ZY at*;rw [AX]at iP;refine aq O (aI sT O (aV sT O ?_));refine ba O O (az O ?_);refine aM _ O (fun h4=>?_) (fun h4=>?_)
  ·obtain⟨k,hk⟩:∃k,x'.length=k+1:=⟨x'.length - 1,by omega⟩;have oq:=K6 hk;have e1:((s'.n:Int) - 1)=(k:Int):=by omega
   have Gc:=gE _ oq;refine jm [10] [.ex (.map (some g)),yP (aB (A8) 1),yS (s'.a) (s'.n) (s'.c),yP (aB (A8) 1),yS (s'.a) (s'.n) (s'.c),yI (((s'.n:Nat):Int)),yI ((((s'.n:Nat):Int)) - ((1:Int))),yP (aB s'.a ((s'.n:Int) - 1).toNat),yI (gi x' ((s'.n:Int) - 1)),.ex (.agg #[.slice (jI.a) (jI.n) (jI.c),.slice (s'.a) (s'.n) (s'.c)]),.pr (fun _ w'=>St w w' (Cr g (iD M (gi x' ((s'.n:Int) - 1)) ((jI,oI),(s',x')))::ZY))] (ly (ly (ly (ly (ly (ly (ly (ly (ly (ly (cg.2 ⟨Ye.cH (fun v w w' h hb=>h.ao hb),(fun _ h=>by cases h)⟩))))))))))) ?_ ?_
   ·refine⟨bZ O,cP fun _ _ hb _ _ _=>aI (sT.below hb) O (bq O O),cP fun _ _ hb _ _ _=>aV (sT.below hb) O (bq O O),cP fun _ _ hb _ _ _=>aI (sT.below hb) O (bq O O),cP fun _ _ hb _ _ _=>aV (sT.below hb) O (bq O O),aP fun _ _=>ba O O (bq O O),aP fun _ _=>dq O (bq O O),cP fun _ _ hb _ _ _=>ajn (i:=(s'.n:Int) - 1) (D1.ao hb).2 O O O (by omega) (by omega) (bq O O),cP fun _ _ hb _ _ _=>ajo (i:=(s'.n:Int) - 1) (D1.ao hb) O (by omega) O O (bq O O),cP fun _ _ hb _ _ _=>bI 1 (sT.below hb) O O O (bq O O),?_,aw⟩;refine ju fun e1 w1 hb hp bc hq=>?_
    exact EP O D8 0 (u:=((jI,oI),(s',x'))) (a:=gi x' ((s'.n:Int) - 1)) (FM.ao hb) O O O O fun w9 bh=>ak.n (fF.st O bh)
   intro _ iw _ hu _ _;have hT:=hu 10 _ O (by kernel_rfl);rw [e1,afu (IK Gc)]at hT;generalize gi x' k=t at*;refine fJ O (aK O (aS O (tQ ?_)));refine⟨(j+1,M++ [(t,((jI,oI),(s',x')))],ZY),by show N.length - (j+1)<N.length - j;omega,⟨O,O,O,O,aL (Value.int .i64) (by omega),aw⟩,by show j+1<=N.length;omega,by show(M++ [_]).length<=j+1;simp;omega,fun p hp=>?_,adm FB (X3 Gc),?_,qL _ da,hT⟩
   ·rcases eD.1 hp with hp | hp
    ·exact⟨(hM p hp).1,qL _ (hM p hp).2.1,qL _ (hM p hp).2.2⟩
    obtain rfl:=dK.1 hp;exact⟨⟨ace,gR,oq⟩,hZ _ Yk,hZ _ vJ⟩
   show iZ (vY (M++ [_])) ((N.take (j+1)).map _);rw [show vY (M++ [(t,((jI,oI),(s',x')))])=vY M++ [bV x'] by simp [vY],o6];exact N8 hE iP
  have mx:x'=[]:=lg (by omega);rw [mx,Ec,Nat.xor_zero]at iP;refine aD O (aK O (aS O (tQ ?_)));exact⟨(j+1,M,ZY),by show N.length - (j+1)<N.length - j;omega,⟨O,O,O,O,aL (Value.int .i64) (by omega),aw⟩,by show j+1<=N.length;omega,by show M.length<=j+1;omega,fun p hp=> ⟨(hM p hp).1,qL _ (hM p hp).2.1,qL _ (hM p hp).2.2⟩,FB,by show iZ (vY M) ((N.take (j+1)).map _);rw [o6];exact N7 hE iP,qL _ da,FM⟩
 rw [kA (show N.length<=j by omega)]at hE;refine bo O (bn (eG O ?_));refine Ek O ⟨g,_,O,hS.BZ 0 O,?_,?_,hS.none⟩
 ·simp [ic];omega
 rw [show(ic (Value.int .i64) GW M).length=M.length by simp [ic],ew];exact adh FB (fun p hp=> (hM p hp).1) hE
end
section
open Go.RowKit Go.MapKept
theorem Oq:∀ {a b:List MapEntry},pF a=pF b->a=b
 | [],[],_=>rfl
 | [],_::_,h=>by simp [pF]at h
 | _::_,[],h=>by simp [pF]at h
 | ⟨k,v,s⟩::a,⟨k',v',s'⟩::b,h=>by
  simp only [pF,List.cons.injEq,Value.int.injEq,true_and]at h;obtain⟨rfl,rfl,h1,h2⟩:=h;obtain rfl:s=s':=by omega
  rw [Oq h2]
theorem TC:∀ {a b:List Nat},(a.map fun b:Nat=>Value.int .i64 (b:Int))=b.map (fun b:Nat=>Value.int .i64 (b:Int))->a=b
 | [],[],_=>rfl
 | [],_::_,h=>by simp at h
 | _::_,[],h=>by simp at h
 | x::a,y::b,h=>by
  simp only [List.map_cons,List.cons.injEq,Value.int.injEq,true_and]at h;obtain⟨h1,h2⟩:=h;obtain rfl:x=y:=by omega
  rw [TC h2]
def wk(t:ad)(g:Nat)(es:List MapEntry)(cl:Nat):Ck:=⟨some ⟨g,0,none⟩,0,0,t,.tuple #[aj cl]::pF es⟩
def qv(t:ad)(r bm since:Nat)(seen:List Nat):Ck:=⟨some ⟨r,0,none⟩,0,0,t,.tuple #[.map (some bm),aj since]::seen.map fun b:Nat=>aj b⟩
def KQ(es:List MapEntry):List (ab×ab):=es.map fun e=> (e.key,e.val)
section
variable {w0 w w':aa} {ks:List Ck} {t:ad} {g bm since cl:Nat} {es:List MapEntry} {seen:List Nat} {gS:List (ab×ab)}
theorem St.Lu(h:St w0 w ks)(i:Nat)(hk:ks[i]?=some (wk t g es cl)):w0.heap.size<=g/\w.heap[g]?=some (.map es.toArray cl)/\sv es.toArray cl:=by
 rcases(h.get hk).cases with⟨_,_,_,g',o,hA,hg,hh,hv⟩ | ⟨hm,_⟩
 ·have hA:some (⟨g,0,Option.none⟩:Addr)=some ⟨g',0,Option.none⟩:=hA;simp only [mh,Addr.mk.injEq,and_true]at hA;subst hA
  match o,hh,hv with
  | .map pC tP,hh,⟨hw,.inl hv⟩=>
   have hv:(.tuple #[aj cl]::pF es:List ab)= .tuple #[]::pE (pC.toList.map fun e=> (e.key,e.val)):=hv;simp at hv
  | .map pC tP,hh,⟨hw,.inr hv⟩=>
   have hv:(.tuple #[aj cl]::pF es:List ab)= .tuple #[aj tP]::pF pC.toList:=hv;obtain⟨h1,h2⟩:=List.cons.inj hv;have h3:(cl:Int)=tP:=by simpa using h1
   obtain rfl:cl=tP:=by omega
   obtain rfl:=Oq h2;exact⟨hg,hh,hw⟩
  | .mapIter m since seen c0,hh,⟨_,bm,_,hv⟩=>
   have hv:(.tuple #[aj cl]::pF es:List ab)= .tuple #[.map (some bm),aj since]::_:=hv;simp at hv
 ·cases hm
theorem St.SH{r:Nat}(h:St w0 w ks)(i:Nat)(hk:ks[i]?=some (qv t r bm since seen)):w0.heap.size<=r/\w.heap[r]?=some (.mapIter (some bm) since seen.toArray since):=by
 rcases(h.get hk).cases with⟨_,_,_,g',o,hA,hg,hh,hv⟩ | ⟨hm,_⟩
 ·have hA:some (⟨r,0,Option.none⟩:Addr)=some ⟨g',0,Option.none⟩:=hA;simp only [mh,Addr.mk.injEq,and_true]at hA;subst hA
  match o,hh,hv with
  | .map pC tP,hh,⟨hw,.inl hv⟩=>
   have hv:(.tuple #[.map (some bm),aj since]::seen.map (fun b:Nat=>aj b):List ab)= .tuple #[]::pE (pC.toList.map fun e=> (e.key,e.val)):=hv;simp at hv
  | .map pC tP,hh,⟨hw,.inr hv⟩=>
   have hv:(.tuple #[.map (some bm),aj since]::seen.map (fun b:Nat=>aj b):List ab)= .tuple #[aj tP]::pF pC.toList:=hv;simp at hv
  | .mapIter m LR af8 c0,hh,⟨hc,Nj,hm,hv⟩=>
   have hv:(.tuple #[.map (some bm),aj since]::seen.map (fun b:Nat=>aj b):List ab)= .tuple #[.map (some Nj),aj LR]::af8.toList.map (fun b:Nat=>aj b):=hv;obtain⟨h1,h2⟩:=List.cons.inj hv;have h3:bm=Nj/\(since:Int)=LR:=by simpa using h1
   obtain rfl:=h3.1;obtain rfl:since=LR:=by omega
   obtain rfl:=TC h2;subst hm;subst hc;exact⟨hg,hh⟩
 ·cases hm
theorem X8(w:aa)(g:Nat):Cw w w (some g):=⟨⟨rfl,rfl,rfl,dC _,fun _ _ _=>rfl⟩,dC _⟩
theorem St.toN(h:St w0 w ks)(i:Nat)(hk:ks[i]?=some (jn t g gS)):∃es cl,KQ es=gS/\sv es.toArray cl/\St w0 w (ks.set i (wk t g es cl)):=by
 obtain⟨hg,es,cl,hh,F7,oB⟩:=h.GO i hk;refine⟨es.toList,cl,F7,oB,h.turn (k:=jn t g gS) (k':=wk t g es.toList cl) (g:=g) hk O O (X8 w g) ?_⟩;exact .ofM O ⟨O,O,g,_,O,hg,hh,oB,.inr O⟩
theorem St.VR(h:St w0 w ks)(T:ad)(bm since:Nat):St w0 (w.alloc (.mapIter (some bm) since #[] since)) (qv T w.heap.size bm since []::ks):=by
 have hb:Below w.heap.size w (w.alloc (.mapIter (some bm) since #[] since)):=(Below.refl _ _).alloc (dC _) _;have h1:=h.ao hb;refine⟨h1.below,fun k hk=>?_,?_⟩
 ·rcases ij.1 hk with rfl | hk
  ·exact .ofM O ⟨O,O,_,_,O,h.below.size,heap_alloc_new w _,O,bm,O,O⟩
  exact h1.own k hk
 simp only [List.filterMap_cons,qv,Ck.il,Option.map_some,kz];refine⟨fun da=>?_,h.apart⟩;obtain⟨k',eN,uj⟩:=List.mem_filterMap.1 da;have:=((h.own k' eN).lt uj).2;omega
def o8(es:List MapEntry)(seen:List Nat):List MapEntry:=es.filter fun e=>!seen.contains e.born
theorem Sl(es:List MapEntry)(seen:List Nat):(leftOf es.toArray seen.toArray).toList=o8 es seen:=by
 unfold leftOf o8;simp
theorem St.aeP{P:Program}{r:Nat}{T:ad}(h:St w0 w ks)(i j:Nat)(hi:ks[i]?=some (wk t g es cl))(hj:ks[j]?=some (qv T r g cl seen))(ty:ad):(o8 es seen=[]/\(Instr.next (.pointer (some ⟨r,0,Option.none⟩)) false ty).run P w= .ok (.tuple #[.bool false]) w)\/
 ∃x∈o8 es seen,∃w',(Instr.next (.pointer (some ⟨r,0,Option.none⟩)) false ty).run P w= .ok (.tuple #[.bool true,x.key,x.val]) w'/\St w0 w' (ks.set j (qv T r g cl (seen++ [x.born]))):=by
 obtain⟨hg,hh,oB⟩:=h.Lu i hi;obtain⟨hr,vH⟩:=h.SH j hj;rcases run_next_at (P:=P) w ty r g cl cl seen.toArray es.toArray cl vH hh oB.1 (dC _)with⟨h0,h1⟩ | ⟨x,hx,w1,Rv,o5⟩
 ·refine .inl ⟨?_,h1⟩;rw [<-Sl];exact List.length_eq_zero_iff.1 (by simpa using h0)
 rw [Sl]at hx;refine .inr ⟨x,hx,_,o5,?_⟩;have h1:St w0 w1 ks:=by
  rcases Rv with rfl | rfl
  ·exact h
  exact h.drew
 have Q7:w1.heap[r]?=some (.mapIter (some g) cl seen.toArray cl):=by
  rcases Rv with rfl | rfl
  ·exact vH
  exact vH
 refine h1.turn (k:=qv T r g cl seen) (k':=qv T r g cl (seen++ [x.born])) (g:=r) hj O O ⟨⟨O,O,O,by simp [ChangeMaps.setBlock],fun y _ hy=>?_⟩,dC _⟩ ?_
 ·exact(heap_set Q7).2 y fun e=>hy (by rw [e])
 refine .ofM O ⟨O,O,r,_,O,hr,(heap_set Q7).1,O,g,O,?_⟩;simp [qv]
end
section
variable{t kt et T:ad}{cl:Nat}
variable {P:Program} {N:Nat} {ops:Array Oper} {K:Env->aa->Prop} {rest:List Oper} {e:Env} {w0 w w':aa} {ks:List Ck} {d:Nat} {ty:ad} {pos:String} {af:Array Edge}
theorem Vi[hU:bP P t (.map kt et)]{m:ae}{g:Nat}{gS:List (ab×ab)}(i:Nat)(T2:ad)(hS:St w0 w ks)(hi:ks[i]?=some (jn T g gS))(hm:ev e m= .map (some g))(hb:Nat.blt d N=true)(hK:∀r es cl w',KQ es=gS->sv es.toArray cl->St w0 w' (qv T2 r g cl []::ks.set i (wk T g es cl))->ak P N ops K rest (bC e d (.pointer (some ⟨r,0,none⟩))) w'):
 ak P N ops K (⟨some d,.range t m,ty,pos,af,none⟩::rest) e w:=by
 obtain⟨es,cl,h1,h2,h3⟩:=hS.toN i hi;have eL:i<ks.length:=(gw.1 hi).1;obtain⟨_,hh,_⟩:=h3.Lu i (t:=T) (g:=g) (es:=es) (cl:=cl) (by rw [List.getElem?_set_self eL]);obtain⟨k',e',hu⟩:∃k' e',P.underlying t=some (.map k' e'):=⟨kt,et,hU.out⟩;have hr:=run_range_map (P:=P) w t k' e' g es.toArray cl hu hh;refine .val (w':=w.alloc (.mapIter (some g) cl #[] cl)) ?_ hb (hK _ es cl _ h1 h2 (h3.VR T2 g cl));simp [execOp,hm,hr]
theorem Vh{x:ae}{r g:Nat}{es:List MapEntry}{seen:List Nat}(i j:Nat)(hS:St w0 w ks)(hi:ks[i]?=some (wk t g es cl))(hj:ks[j]?=some (qv T r g cl seen))(hx:ev e x= .pointer (some ⟨r,0,none⟩))(hb:Nat.blt d N=true)(h0:o8 es seen=[]->ak P N ops K rest (bC e d (.tuple #[.bool false])) w)(h1:∀y w',y∈o8 es seen->St w0 w' (ks.set j (qv T r g cl (seen++ [y.born])))->ak P N ops K rest (bC e d (.tuple #[.bool true,y.key,y.val])) w'):
 ak P N ops K (⟨some d,.next x false,ty,pos,af,none⟩::rest) e w:=by
 rcases hS.aeP (P:=P) i j hi hj ty with⟨hl,hr⟩ | ⟨y,hy,w',hr,l8⟩
 ·refine .val (w':=w) ?_ hb (h0 hl);simp only [execOp,hx];simp [hr,Result.andThen]
 refine .val (w':=w') ?_ hb (h1 y w' hy l8);simp only [execOp,hx];simp [hr,Result.andThen]
theorem U8{x:ae}{r g:Nat}{es:List MapEntry}{seen:List Nat}{y:MapEntry}(i j:Nat)(hS:St w0 w ks)(hi:ks[i]?=some (wk t g es cl))(hj:ks[j]?=some (qv T r g cl (seen++ [y.born])))(hy:y∈es)(hx:ev e x= .pointer (some ⟨r,0,none⟩))(hb:Nat.blt d N=true)(hK:ak P N ops K rest (bC e d (.tuple #[y.key,y.val])) w):
 ak P N ops K (⟨some d,.entry x,ty,pos,af,none⟩::rest) e w:=by
 obtain⟨hg,hh,oB⟩:=hS.Lu i hi;obtain⟨hr,vH⟩:=hS.SH j hj;have abN:w.heap[r]?=some (.mapIter (some g) cl (seen.toArray.push y.born) cl):=by rw [vH];simp
 have o5:=run_entry_at (P:=P) w r g cl seen.toArray es.toArray cl y abN hh (by simpa using hy) oB.2;refine .val (w':=w) ?_ hb hK;simp only [execOp,hx];simp [o5,Result.andThen]
end
end
section
open Go.RowKit
variable{seen:List Nat}{j:Nat}{L R ch:ah}{x u:Int}
theorem aep{es:List MapEntry}{y:MapEntry}(h:y∈o8 es seen):(o8 es (seen++ [y.born])).length< (o8 es seen).length:=by
 have e:o8 es (seen++ [y.born])=(o8 es seen).filter fun e=>e.born !=y.born:=by
  unfold o8;rw [List.filter_filter]
  congr 1
  funext e
  by_cases h1:e.born=y.born<;>by_cases h2:e.born∈seen<;>simp [h1,h2,bne]
 rw [e];exact List.length_filter_lt_length_iff_exists.2 ⟨y,h,by simp⟩
theorem aeo{es:List MapEntry}{y:MapEntry}(h:y∈o8 es seen):y∈es:=(ja.1 h).1
theorem aeq{es:List MapEntry}{y:MapEntry}(h:o8 es seen=[])(hy:y∈es):y.born∈seen:=by
 have:=List.filter_eq_nil_iff.1 h y hy;simpa using this
theorem aeS{l:List Nat}(h:l.Nodup){i a:Nat}(h1:l[i]?=some a)(h2:l[j]?=some a):i=j:=by
 obtain⟨a1,b1⟩:=gw.1 h1;obtain⟨a2,b2⟩:=gw.1 h2;exact(List.getElem_inj h).1 (b1.trans b2.symm)
theorem Wv{es:List MapEntry}(hn:(es.map (·.born)).Nodup){y z:MapEntry}(hy:y∈es)(hz:z∈es)(h:z.born=y.born):z=y:=by
 obtain⟨i,hi⟩:=List.mem_iff_getElem?.1 hy;obtain⟨j,hj⟩:=List.mem_iff_getElem?.1 hz;obtain rfl:i=j:=aeS hn (a:=y.born) (by simp [hi]) (by simp [hj,h]);exact bj (hj.symm.trans hi)
theorem LU{P:ah->Prop}(h0:P [])(h1:∀L d,P L->P (L++ [d]))(L:ah):P L:=by
 have key:∀L:ah,P L.reverse:=fun L=>by
  induction L with
  | nil=>exact h0
  | cons a L ih=>rw [List.reverse_cons];exact h1 _ _ ih
 have:=key L.reverse
 rwa [List.reverse_reverse]at this
def mS(L:ah):List (Int×Int):=L.foldl (fun M d=>iD M d ((eM M d).getD 0+1)) []
theorem Fe(L:ah)(d:Int):mS (L++ [d])=iD (mS L) d ((eM (mS L) d).getD 0+1):=by simp [mS]
theorem Xc(L:ah):((mS L).map (·.1)).Nodup:=by
 refine LU (P:=fun L=> ((mS L).map (·.1)).Nodup) List.Pairwise.nil (fun L d ih=>?_) L;rw [Fe];exact LB ih
theorem Il(L:ah)(d:Int):(eM (mS L) d).getD 0=(L.count d:Int):=by
 refine LU (P:=fun L=> (eM (mS L) d).getD 0=(L.count d:Int)) O (fun L c ih=>?_) L;rw [Fe,IL,rz]
 by_cases e:c=d
 ·subst e;rw [aT rfl,ih];simp
 rw [aR e,ih];simp [nZ,e]
theorem OC{κ ν:Type}[DecidableEq κ]:∀ {L:List (κ×ν)} {x:κ} {u:ν},(L.map (·.1)).Nodup->(x,u)∈L->eM L x=some u
 | (y,v)::r,x,u,hn,h=>by
  simp only [List.map_cons,kz]at hn;rcases ij.1 h with e | h
  ·cases e;simp [eM]
  ·have cS:y≠x:=fun e=>hn.1 (e▸eh.2 ⟨_,h,O⟩)
   simp only [eM,aR cS];exact OC hn.2 h
theorem Im(h:(x,u)∈mS L):u=(L.count x:Int):=by
 have h1:=Il L x;rw [OC (Xc L) h]at h1;exact h1
theorem Xb(h:x∈L):∃u,(x,u)∈mS L:=by
 have h1:=Il L x;cases hg:eM (mS L) x with
 | none=>
  rw [hg]at h1;have:=List.count_pos_iff.2 h;simp at h1;omega
 | some u=>exact⟨u,IM hg⟩
theorem Lk:∀ {L:ah},(∀e∈L,0<=e)->∀j:Nat,(bV L).testBit j=decide (L.count (j:Int)%2=1)
 | [],_,j=>by simp [bV]
 | a::L,h,j=>by
  have ih:=Lk (L:=L) (fun e he=>h e (by simp [he])) j;have h0:=h a (by simp);rw [qh,Nat.testBit_xor,ih,Nat.testBit_two_pow,nZ]
  by_cases e:a=(j:Int)
  ·have e2:a.toNat=j:=by omega
   rw [e2,e];simp only [beq_self_eq_true,if_true];rcases Nat.mod_two_eq_zero_or_one (L.count (j:Int))with h | h
   ·have h':(L.count (j:Int)+1)%2=1:=by omega
    simp [h,h']
   ·have h':¬(L.count (j:Int)+1)%2=1:=by omega
    simp [h,h']
  ·have e2:¬a.toNat=j:=by omega
   have e3:(a==(j:Int))=false:=by simp [e]
   simp [e2,e3]
theorem aeI(h:∀e∈L,0<=e):bV L=0↔∀p∈mS L,p.2%2=0:=by
 constructor
 ·rintro h0 ⟨x,u⟩ hp;have hu:=Im hp;have hx:0<=x:=by
   refine h x (List.count_pos_iff.1 ?_);refine Nat.pos_of_ne_zero fun hc=>?_
   have gp:x∈L:=by
    rcases Decidable.em (x∈L)with hm | hm
    ·exact hm
    exfalso;have key:∀L:ah,∀p∈mS L,p.1∈L:=by
     intro L;refine LU (P:=fun L=>∀p∈mS L,p.1∈L) (fun p hp=>by cases hp) (fun L d ih p hp=>?_) L;rw [Fe]at hp;have:=(SZ _ _ _ _).1 (eh.2 ⟨p,hp,O⟩);rcases this with e | e
     ·rw [e];simp
     obtain⟨q,hq,e⟩:=eh.1 e;rw [<-e];exact List.mem_append_left _ (ih q hq)
    exact hm (key L _ hp)
   have:=List.count_pos_iff.2 gp;omega
  have hb:=Lk h x.toNat;rw [h0,Nat.zero_testBit,show((x.toNat:Nat):Int)=x by omega]at hb;have hb:=of_decide_eq_false hb.symm;show u%2=0;omega
 intro he;refine Nat.eq_of_testBit_eq fun j=>?_
 rw [Lk h,Nat.zero_testBit];refine cM fun hc=>?_
 have hm:(j:Int)∈L:=List.count_pos_iff.1 (by omega);obtain⟨u,hu⟩:=Xb hm;have h1:=he _ hu;have h2:=Im hu;have h1:u%2=0:=h1;omega
def zB(R:ah)(B:ag)(e:Int):Prop:=(gi R e=1->(gl B e).length%2=0)/\(2<=gi R e->bV (eW R B (eB R B e))=0)
def qw(R:ah)(B:ag):Prop:=∀e:Nat,e<R.length->zB R B e
def ny(R:ah)(B:ag)(e x:Int)(k:Nat):ah:=if gi R x=gi R e - 1 then gC R B x k else []
theorem Wa(R:ah)(B:ag)(e x:Int):ny R B e x 0=[]:=by unfold ny;split<;>rfl
theorem Wc{B:ag}{e:Int}{k:Nat}(hk:k< (gl B x).length)(h1:gi R x=gi R e - 1)(h2:gi R (gi (gl B x) k)=gi R e - 2):ny R B e x (k+1)=ny R B e x k++ [gi (gl B x) k]:=by
 unfold ny;rw [aT h1,aT h1];exact EX hk (by omega)
theorem Wd{B:ag}{e:Int}{k:Nat}(hk:k< (gl B x).length)(h:¬(gi R x=gi R e - 1/\gi R (gi (gl B x) k)=gi R e - 2)):ny R B e x (k+1)=ny R B e x k:=by
 unfold ny
 by_cases h1:gi R x=gi R e - 1
 ·rw [aT h1,aT h1];exact EZ hk (fun h2=>h ⟨h1,by omega⟩)
 rw [aR h1,aR h1]
theorem Wb{B:ag}{e:Int}{k:Nat}(hj:j< (gl B e).length)(hk:(gl B (gi (gl B e) j)).length<=k):eW R B (gC R B e j)++ny R B e (gi (gl B e) j) k=eW R B (gC R B e (j+1)):=by
 unfold ny
 by_cases h1:gi R (gi (gl B e) j)=gi R e - 1
 ·rw [aT h1,EX hj h1,HS,CN hk]
 rw [aR h1,EZ hj h1,iz]
theorem Wf{m:Nat}{B:ag}(h:qB m R B){e:Int}(h0:0<=e)(h1:e<m)(k:Nat):∀d∈gC R B e k,0<=d/\d<m:=fun d hd=> (h.rg e h0 h1).2 d (List.mem_of_mem_take (ja.1 hd).1)
theorem We{m:Nat}{B:ag}(h:qB m R B)(hc:∀e∈ch,0<=e/\e< (m:Int)):∀d∈eW R B ch,0<=d/\d< (m:Int):=fun d hd=>by
 obtain⟨e,he,hd⟩:=List.mem_flatMap.1 hd;exact zQ h (hc e he).1 (hc e he).2 d hd
theorem NO(L:ah)(d:Int):L.count d<=L.length:=List.count_le_length
abbrev Cq(g:Nat)(L:ah):Ck:=jn 134 g (ic (Value.int .i64) (Value.int .i64) (mS L))
theorem acI(Pc:ai)(n:Int)(AR AB:ai)(m cR cB:Nat)(R:ah)(rs:List aX)(B:ag)(w:aa)(hP:wx w Pc n AR AB m cR cB R rs B)(hO:qB m R B):
 aG prog 67 [.pointer Pc] w (fun v w'=>∃b:Bool,v= .bool b/\(b=true↔qw R B)/\St w w' []):=by
 have hm:=hO.wH;have mY:=hP.be.len;have bT:=hP.rk.1;refine bw func67 O ntmps67 O (b7 O) (bb O (ik hP.bx (Nat.succ_pos _) O O (aI hP.bx O (aV hP.bx O ?_))));refine ba O O (az O ?_);refine Cd.loop (α:=Nat) (fun z=> [(0,.pointer Pc),(15,.slice AB m cB),(16,aj m),(17,aj z)]) (fun z w'=>z<=m/\(∀e:Nat,e<z->zB R B e)/\St w w' []) (fun z=>m - z) 0 (ajz O) ⟨bu _,fun _ h=>absurd h (mg _),St.refl w⟩ ?_;rintro i e w1 ⟨hi,vy,hS⟩;refine b8 O (aM _ O (fun h1=>?_) (fun h1=>?_))
 ·have dI:i<m:=by omega
  have iC:=hP.ao hS.below;have bM:=iC.be.at_ (i:=(i:Int)) (by omega) (by omega);have abV:=bM.1;have mz:=hO.rg (i:Int) (by omega) (by omega);have Ko:=hO.rk (i:Int) (by omega) (by omega);refine aD O (aA iC.be.top.2 O (bQ iC.be.top O (zC 0 O ?_)));refine nq (α:=Unit) (fun _=> [(0,.pointer Pc),(3,aj i),(4,.slice (rg rs i).a (rg rs i).n (rg rs i).c),(15,.slice AB m cB),(16,aj m),(17,aj i)]) (fun _ w'=>w'=w1/\(gi R i=1->(gl B i).length%2=0)) ?_ ?_
  ·refine bb O (ik iC.bx (Nat.succ_pos _) O O (aI iC.bx O (aV iC.bx O (aq O (aA iC.rk.2 O (aY iC.rk O (aq O ?_)))))));refine cz 30 O (fun h2=>?_) (fun h2=>?_)
   ·refine au O (aq O (au O (ba O O (au O ?_))));refine ob O O O (by omega) (au O (az O ?_));refine aM _ O (fun h3=>?_) (fun h3=>?_)
    ·refine dB O (dO (dJ (dO (dJ ?_))));exact ck O ⟨false,O,⟨fun h=>absurd h (by decide),fun h=>absurd ((h i (by omega)).1 h2) (by omega)⟩,hS⟩
    refine mN O (tQ ?_);exact⟨(),(ajz O),O,fun _=>by omega⟩
   refine ay O (ay O (ay O (ay O (az O ?_))));refine Cd.dZ O (mN O (tQ ?_));exact⟨(),(ajz O),O,fun h=>absurd h h2⟩
  rintro⟨⟩ e1 w2 ⟨rfl,Qh⟩;refine aD O (ik iC.bx (Nat.succ_pos _) O O (aI iC.bx O (aV iC.bx O (aq O (aA iC.rk.2 O (aY iC.rk O (az O ?_)))))));refine aM _ O (fun h2=>?_) (fun h2=>?_)
  ·refine aD O (aK O (aS O (tQ ?_)));exact⟨i+1,by show m - (i+1)<m - i;omega,⟨O,O,O,aL (Value.int .i64) (by omega),aw⟩,by show i+1<=m;omega,fun e he=>by
    rcases Nat.lt_or_eq_of_le (Nat.le_of_lt_succ he)with h | h
    ·exact vy e h
    subst h;exact⟨Qh,fun h9=>absurd h9 (by omega)⟩,hS⟩
  refine aD O (EO hS O ?_);intro g w3 aH;have aH:St w w3 [Cq g (eW R B (gC R B i 0))]:=aH;clear iC bM hS;refine aq O (ba O O (az O ?_));refine Cd.loop (α:=Nat) (fun z=> [(0,.pointer Pc),(3,aj i),(5,.map (some g)),(15,.slice AB m cB),(16,aj m),(17,aj i),(45,.slice (rg rs i).a (rg rs i).n (rg rs i).c),(46,aj ((rg rs i).n:Int)),(47,aj z)]) (fun z w'=>z<=(rg rs i).n/\St w w' [Cq g (eW R B (gC R B i z))]) (fun z=> (rg rs i).n - z) 0 (ajz O) ⟨bu _,aH⟩ ?_;clear aH;rintro j e2 w4 ⟨hj,hS⟩;refine b8 O (aM _ O (fun h3=>?_) (fun h3=>?_))
  ·have kF:j< (gl B i).length:=by omega
   have rQ:=hP.ao hS.below;have bM:=rQ.be.at_ (i:=(i:Int)) (by omega) (by omega);have xG:=mz.2 _ (gi_in (out:=gl B i) (i:=j) kF);have vx:=fun k hk=>Wb (R:=R) (B:=B) (e:=(i:Int)) (k:=k) kF hk
   have yH:(eW R B (gC R B i j)).length<=1000000:=by
    have h9:=EW hO (gC R B i j) (Wf hO (by omega) (by omega) j);have fH:=EY R B i j;omega
   refine aD O (aA bM.2 O (aY bM O ?_));generalize gi (gl B i) j=x at*;have hrx:=hO.rk x xG.1 xG.2;have abM:=hO.rg x xG.1 xG.2;have Bz:=rQ.be.at_ (i:=x) xG.1 xG.2;have ajf:=Bz.1;refine aq O (ik rQ.bx (Nat.succ_pos _) O O (aI rQ.bx O (aV rQ.bx O (aq O (aA rQ.be.top.2 O (bQ rQ.be.top O ?_))))));have uc:St w w4 [Cq g (eW R B (gC R B i j)++ny R B i x 0)]:=by rw [Wa,iz];exact hS
   clear rQ bM Bz hS;generalize eW R B (gC R B i j)=L0 at*;refine ba O O (az O ?_);refine Cd.loop (α:=Nat) (fun z=> [(0,.pointer Pc),(3,aj i),(5,.map (some g)),(7,aj x),(15,.slice AB m cB),(16,aj m),(17,aj i),(45,.slice (rg rs i).a (rg rs i).n (rg rs i).c),(46,aj ((rg rs i).n:Int)),(47,aj j),(57,.slice (rg rs x).a (rg rs x).n (rg rs x).c),(58,aj ((rg rs x).n:Int)),(59,aj z)]) (fun z w'=>z<=(rg rs x).n/\St w w' [Cq g (L0++ny R B i x z)]) (fun z=> (rg rs x).n - z) 0 (ajz O) ⟨bu _,uc⟩ ?_;clear uc;rintro k e3 w5 ⟨hk,hS⟩;refine b8 O (aM _ O (fun h4=>?_) (fun h4=>?_))
   ·have eN:k< (gl B x).length:=by omega
    have FF:=hP.ao hS.below;have Bz:=FF.be.at_ (i:=x) xG.1 xG.2;have Qd:=abM.2 _ (gi_in (out:=gl B x) (i:=k) eN);have DB:=Wc (R:=R) (B:=B) (e:=(i:Int)) (x:=x) eN;have Bo:=Wd (R:=R) (B:=B) (e:=(i:Int)) (x:=x) eN;have hJl:(ny R B i x k).length<=1000:=by
     unfold ny;have:=EY R B x k
     split
     ·omega
     exact bu _
    refine aD O (aA Bz.2 O (aY Bz O ?_));generalize gi (gl B x) k=d at*;have gF:=hO.rk d Qd.1 Qd.2;have ec:=FF.bx;have ew:=FF.rk;clear FF Bz;refine az O ?_
    by_cases h5:gi R x=gi R i - 1
    ·
     refine dQ [xP (Pc),xP (Pc),xP (aB (Pc) 1),xS (AR) (m) (cR),xI (x),xP (aB (AR) (x).toNat),xI (gi (R) (x)),xP (Pc),xP (Pc),xP (aB (Pc) 1),xS (AR) (m) (cR),xI ((i:Int)),xP (aB (AR) ((i:Int)).toNat),xI (gi (R) ((i:Int))),xI ((gi (R) ((i:Int))) - ((1:Int))),xB (decide ((gi (R) (x))=((gi (R) ((i:Int))) - ((1:Int))))),xB (true),xP (Pc),xP (Pc),xP (aB (Pc) 1),xS (AR) (m) (cR),xI (d),xP (aB (AR) (d).toNat),xI (gi (R) (d)),xP (Pc),xP (Pc),xP (aB (Pc) 1),xS (AR) (m) (cR),xI ((i:Int)),xP (aB (AR) ((i:Int)).toNat),xI (gi (R) ((i:Int))),xI ((gi (R) ((i:Int))) - ((2:Int))),xB (decide ((gi (R) (d))=((gi (R) ((i:Int))) - ((2:Int))))),xB (decide ((gi (R) (d))=((gi (R) ((i:Int))) - ((2:Int)))))] O (eE O) ?_ ?_
     ·exact⟨Dr O,fun _ _ hb _ _=>ik (ec.below hb) (Nat.succ_pos _) O O Az,fun _ _ hb _ _=>aI (ec.below hb) O Az,fun _ _ hb _ _=>aV (ec.below hb) O Az,Dr O,fun _ _ hb _ _=>aA (ew.ao hb).2 O Az,fun _ _ hb _ _=>aY (ew.ao hb) O Az,Dr O,fun _ _ hb _ _=>ik (ec.below hb) (Nat.succ_pos _) O O Az,fun _ _ hb _ _=>aI (ec.below hb) O Az,fun _ _ hb _ _=>aV (ec.below hb) O Az,Dr O,fun _ _ hb _ _=>aA (ew.ao hb).2 O Az,fun _ _ hb _ _=>aY (ew.ao hb) O Az,fun _ _ _ _ _=>dq O Az,Dr O,fun _ _ _ _ _=>Dk O (by exact aL Value.bool (eC h5)),Dr O,fun _ _ hb _ _=>au O (ik (ec.below hb) (Nat.succ_pos _) O O Az),fun _ _ hb _ _=>au O (aI (ec.below hb) O Az),fun _ _ hb _ _=>au O (aV (ec.below hb) O Az),Dr O,fun _ _ hb _ _=>au O (aA (ew.ao hb).2 O Az),fun _ _ hb _ _=>au O (aY (ew.ao hb) O Az),Dr O,fun _ _ hb _ _=>au O (ik (ec.below hb) (Nat.succ_pos _) O O Az),fun _ _ hb _ _=>au O (aI (ec.below hb) O Az),fun _ _ hb _ _=>au O (aV (ec.below hb) O Az),Dr O,fun _ _ hb _ _=>au O (aA (ew.ao hb).2 O Az),fun _ _ hb _ _=>au O (aY (ew.ao hb) O Az),fun _ _ _ _ _=>au O (dq O Az),Dr O,Dr O,aw⟩
     intro u w6 jR _;replace hS:=hS.ao jR;refine fv O (aM _ O (fun h6=>?_) (fun h6=>?_))
     ·have hh:=DB h5 h6;have Qa:=Il (L0++ny R B i x k) d;have bE:=NO (L0++ny R B i x k) d;rw [dh]at bE;refine aD O (Vf D8 d (hS.BZ 0 O) O O O ?_);rw [Qa];refine aK O (EP O D8 0 (u:=((L0++ny R B i x k).count d:Int)+1) (a:=d) hS O O O O ?_);intro w7 bl;refine aq O (aK O (aS O (tQ ?_)));exact⟨k+1,by show(rg rs x).n - (k+1)< (rg rs x).n - k;omega,⟨O,O,O,O,O,O,O,O,O,O,O,O,aL (Value.int .i64) (by omega),aw⟩,by show k+1<=_;omega,by
       rw [hh,<-fK];unfold Cq;rw [Fe,Qa];exact bl⟩
     have hh:=Bo (fun h=>h6 h.2);refine aD O (aK O (aS O (tQ ?_)));exact⟨k+1,by show(rg rs x).n - (k+1)< (rg rs x).n - k;omega,⟨O,O,O,O,O,O,O,O,O,O,O,O,aL (Value.int .i64) (by omega),aw⟩,by show k+1<=_;omega,by rw [hh];exact hS⟩
    refine dQ [xP (Pc),xP (Pc),xP (aB (Pc) 1),xS (AR) (m) (cR),xI (x),xP (aB (AR) (x).toNat),xI (gi (R) (x)),xP (Pc),xP (Pc),xP (aB (Pc) 1),xS (AR) (m) (cR),xI ((i:Int)),xP (aB (AR) ((i:Int)).toNat),xI (gi (R) ((i:Int))),xI ((gi (R) ((i:Int))) - ((1:Int))),xB (decide ((gi (R) (x))=((gi (R) ((i:Int))) - ((1:Int))))),xB (false),xU,xU,xU,xU,xU,xU,xU,xU,xU,xU,xU,xU,xU,xU,xU,xU,xB (false)] O (eE O) ?_ ?_
    ·exact⟨Dr O,fun _ _ hb _ _=>ik (ec.below hb) (Nat.succ_pos _) O O Az,fun _ _ hb _ _=>aI (ec.below hb) O Az,fun _ _ hb _ _=>aV (ec.below hb) O Az,Dr O,fun _ _ hb _ _=>aA (ew.ao hb).2 O Az,fun _ _ hb _ _=>aY (ew.ao hb) O Az,Dr O,fun _ _ hb _ _=>ik (ec.below hb) (Nat.succ_pos _) O O Az,fun _ _ hb _ _=>aI (ec.below hb) O Az,fun _ _ hb _ _=>aV (ec.below hb) O Az,Dr O,fun _ _ hb _ _=>aA (ew.ao hb).2 O Az,fun _ _ hb _ _=>aY (ew.ao hb) O Az,fun _ _ _ _ _=>dq O Az,Dr O,fun _ _ _ _ _=>Dk O (by exact aL Value.bool (cM h5)),Dr O,Dr O,Dr O,Dr O,Dr O,Dr O,Dr O,Dr O,Dr O,Dr O,Dr O,Dr O,Dr O,Dr O,Dr O,Dr O,Dr O,aw⟩
    intro u w6 jR _;replace hS:=hS.ao jR;have hh:=Bo (fun h=>h5 h.1);refine fv O (Cd.dZ O ?_);refine aD O (aK O (aS O (tQ ?_)));exact⟨k+1,by show(rg rs x).n - (k+1)< (rg rs x).n - k;omega,⟨O,O,O,O,O,O,O,O,O,O,O,O,aL (Value.int .i64) (by omega),aw⟩,by show k+1<=_;omega,by rw [hh];exact hS⟩
   rw [vx k (by omega)]at hS;refine bo O (bn (cJ O (aK O (aS O (tQ ?_)))));exact⟨j+1,by show(rg rs i).n - (j+1)< (rg rs i).n - j;omega,⟨O,O,O,O,O,O,O,O,aL (Value.int .i64) (by omega),aw⟩,by show j+1<=_;omega,hS⟩
  rw [CN (show(gl B i).length<=j by omega)]at hS;have Zm:=We hO (zQ hO (e:=(i:Int)) (by omega) (by omega));have Qj:=aeI (L:=eW R B (eB R B i)) (fun e he=> (Zm e he).1);have gp:=fun(p:Int×Int) hp=>Im (L:=eW R B (eB R B i)) (x:=p.1) (u:=p.2) hp
  generalize hL:eW R B (eB R B i)=L at*;refine bo O (bn (cJ O ?_));refine Vi 0 134 hS O O O ?_;clear hS;intro r es cl w5 F7 oB hS;have ZO:∀y∈es,∃p∈mS L,y.key=aj p.1/\y.val=aj p.2:=fun y hy=>by
   have h1:(y.key,y.val)∈KQ es:=eh.2 ⟨y,hy,O⟩;rw [F7]at h1;obtain⟨p,hp,h2⟩:=eh.1 h1;exact⟨p,hp,(aL Prod.fst h2).symm,(aL Prod.snd h2).symm⟩
  have ZP:∀p∈mS L,∃y∈es,y.val=aj p.2:=fun p hp=>by
   have h1:(Value.int .i64 p.1,Value.int .i64 p.2)∈ic (Value.int .i64) (Value.int .i64) (mS L):=eh.2 ⟨p,hp,O⟩;rw [<-F7]at h1;obtain⟨y,hy,h2⟩:=eh.1 h1;exact⟨y,hy,aL Prod.snd h2⟩
  refine az O ?_;refine Cd.loop (α:=List Nat) (fun z=> [(0,.pointer Pc),(15,.slice AB m cB),(16,aj m),(17,aj i),(104,.pointer (some ⟨r,0,Option.none⟩))]) (fun z w'=> (∀y∈es,y.born∈z->∀u,y.val=aj u->u%2=0)/\St w w' [qv 134 r g cl z,wk 134 g es cl]) (fun z=> (o8 es z).length) [] ⟨rfl,rfl,rfl,rfl,rfl,aw⟩ ⟨(fun _ _ h=>by cases h),hS⟩ ?_;clear hS;rintro seen e4 w6 ⟨qV,hS⟩;refine bb O (Vh 1 0 hS O O O O (fun hl=>?_) (fun y w7 hy bl=>?_))
  ·
   refine az O (Cd.dZ O ?_);refine bo O (bn (cJ O (aK O (aS O (tQ ?_)))));exact⟨i+1,by show m - (i+1)<m - i;omega,⟨O,O,O,aL (Value.int .i64) (by omega),aw⟩,by show i+1<=m;omega,fun e he=>by
    rcases Nat.lt_or_eq_of_le (Nat.le_of_lt_succ he)with h | h
    ·exact vy e h
    subst h;refine⟨Qh,fun _=>?_⟩;rw [hL];refine Qj.2 fun p hp=>?_
    obtain⟨y,hy,hv⟩:=ZP p hp;exact qV y hy (aeq hl hy) _ hv,hS.none⟩
  have jS:=aeo hy;obtain⟨p,hp,fA,lO⟩:=ZO y jS;have Br:=gp p hp;have bE:=NO L p.1;refine az O (Cd.eH O (aD O (U8 1 0 bl O O jS O O ?_)));rw [lO];refine aq O (ob O O O (by omega) (az O ?_));refine aM _ O (fun h7=>?_) (fun h7=>?_)
  ·refine dB O (dO (dJ (dO (dJ ?_))));refine ck O ?_;exact⟨false,O,⟨fun h=>absurd h (by decide),fun h=>by
    exfalso;have h8:=(h i (by omega)).2 (by omega);rw [hL]at h8;have h9:=Qj.1 h8 p hp;omega⟩,bl.none⟩
  refine mN O (tQ ?_);refine⟨seen++ [y.born],?_,(ajz O),fun z hz BC u hu=>?_,bl⟩
  ·exact aep hy
  rcases eD.1 BC with BC | BC
  ·exact qV z hz BC u hu
  obtain rfl:=Wv (by simpa using oB.2) jS hz (dK.1 BC);rw [lO]at hu;injection hu with _ hu
  omega
 obtain rfl:i=m:=by omega
 refine bo O (bn (eG O ?_));exact ck O ⟨true,O,⟨fun _ e he=>vy e (by omega),fun _=>O⟩,hS⟩
end
section
section
variable {α:Type} {N:Nat} {el:Nat->α->Prop} {le:α->α->Prop}
end
section
variable {α:Type} {el:Nat->α->Prop} {le:α->α->Prop} {i j:Nat} {a b:α}
end
section
variable {α β:Type} {N1 N2:Nat} {Iu:Nat->α->Prop} {K7:α->α->Prop} {Iv:Nat->β->Prop} {K8:β->β->Prop}
end
section
variable {α β:Type} {N N1 N2:Nat} {el:Nat->α->Prop} {le:α->α->Prop} {Iu:Nat->α->Prop} {K7:α->α->Prop} {Iv:Nat->β->Prop} {K8:β->β->Prop}
end
section
variable {α:Type} {N:Nat} {el:Nat->α->Prop} {le:α->α->Prop}
end
section
variable {α:Type} {n:Nat} {R:ah} {B:ag} {el:Nat->α->Prop} {le:α->α->Prop} {φ:Int->α}
end
def uN(R:ah)(i:Int):ah:=(dL R.length).filter fun e=>decide (gi R e=i)
theorem mI{R:ah}{i e:Int}:e∈uN R i↔(0<=e/\e<R.length)/\gi R e=i:=by
 unfold uN;rw [ja,zq,nB]
theorem S8(R:ah)(i:Int):(uN R i).Nodup:=(vT _).nodup.filter _
section
variable {n:Nat} {R:ah} {B:ag}
end
section
variable {m n:Nat} {rk:Int->Int} {und:Int->Int->Prop}
end
section
variable {n:Nat} {R:ah} {B:ag}
end
section
variable {m1 m2 n1 n2:Nat} {uL uM:Int->Int} {wb tx:Int->Int->Prop}
variable [DecidableRel wb] [DecidableRel tx] {kind:Int}
end
section
variable {α:Type}
def cU(U:α->List α):Nat->α->Nat
 | 0,_=>1
 | r+1,a=> ((U a).map (cU U r)).sum
end
section
variable {α β:Type} {N1 N2:Nat} {Iu:Nat->α->Prop} {K7:α->α->Prop} {Iv:Nat->β->Prop} {K8:β->β->Prop} {U1:α->List α} {U2:β->List β} {U:α×β->List (α×β)}
end
section
variable {α β:Type} {n1 n2:Nat} {Iu:Nat->α->Prop} {K7:α->α->Prop} {Iv:Nat->β->Prop} {K8:β->β->Prop} {U1:α->List α} {U2:β->List β} {U:α×β->List (α×β)}
end
section
variable {m1 m2 n1 n2:Nat} {uL uM:Int->Int} {wb tx:Int->Int->Prop} [DecidableRel wb] [DecidableRel tx] {kind:Int} {U1 U2:Int->ah}
end
end
section
open Go.RowKit
section
variable {P:Program} {N:Nat} {ops:Array Oper} {K:Env->aa->Prop} {rest:List Oper} {e:Env} {w0 w w':aa} {ks:List Ck} {d:Nat} {ty:ad} {pos:String} {af:Array Edge}
end
end
section
section
variable (m1 m2:Nat) (uL uM:Int->Int) (kind:Int)
end
section
variable {m1 m2:Nat} {uL uM:Int->Int} {kind:Int} {i a b:Nat}
end
end
section
open Go.RowKit
def G8(xss:ag):Int:=((xss.map List.length).sum:Nat)
end
section
section
variable {n:Nat} {R:ah} {B:ag}
end
theorem afR(R:ah):(dL R.length).map (gi R)=R:=by
 apply jV (by simp [dL]);intro i h1 h2;simp only [dL,List.getElem_map,List.getElem_range];exact bX h2
theorem S7(R:ah)(i:Int):(uN R i).length=(R.filter fun x=>decide (x=i)).length:=by
 have h:=aL (fun l=> (l.filter fun x=>decide (x=i)).length) (afR R);simp only [List.filter_map,mf]at h;exact h
theorem Oy(M:ag)(i:Nat):∀n:Nat,((cq M n).filter fun x=>decide (x=(i:Int))).length=if i<n then(fE M i).toNat else 0
 | 0=>rfl
 | n+1=>by
  rw [cq,List.filter_append,dh,Oy M i n]
  by_cases e:i=n
  ·subst e;rw [aR (Nat.lt_irrefl _),aT (Nat.lt_succ_self _),List.filter_eq_self.2 fun x hx=>by rw [(List.mem_replicate.1 hx).2];simp,List.length_replicate,Nat.zero_add]
  ·rw [List.filter_eq_nil_iff.2 fun x hx=>by rw [(List.mem_replicate.1 hx).2];simp;omega]
   by_cases h:i<n
   ·rw [aT h,aT (by omega)];rfl
   ·rw [aR h,aR (by omega)];rfl
theorem z8(M:ag){i n:Nat}(h:i<n):((uN (cq M n) i).length:Int)=fE M i:=by
 rw [S7,Oy,aT h];have:=(rH M i).1;omega
section
variable {m1 m2:Nat} {uL uM:Int->Int} {kind:Int}
def cE(m:Nat)(k:Int->Nat)(ok:Int->Bool)(t:Nat):Nat:=((dL m).filter fun a=>decide (k a=t) && ok a).length
end
def fQ(n:Nat)(R:ah):ah:=(List.range n).map fun i:Nat=> ((uN R i).length:Int)
theorem sN(n:Nat)(R:ah):(fQ n R).length=n:=by simp [fQ]
theorem wF{n:Nat}{R:ah}{i:Nat}(h:i<n):gi (fQ n R) i=((uN R i).length:Int):=by
 rw [bX (by rw [sN];exact h)];simp [fQ]
end
section
open Go.RowKit
variable{R:ah}
theorem Wp(Ac:ai)(nc cc:Nat)(w:aa):aG prog 5 [.slice Ac nc cc] w (fun v w'=>v= .bool (decide (4096< (nc:Int)))/\St w w' []):=by
 refine bw func5 O ntmps5 O (b7 O) ?_;refine bb O (ba O O (bD O ?_));exact ck O ⟨O,St.refl w⟩
theorem Lb(A:ai)(n c:Nat)(xs:ah)(B:ai)(m cB:Nat)(ys:ah)(w:aa)(hX:bt w A n xs)(hY:bt w B m ys)(hn:n<=9223372036854775806):
 aG prog 21 [.slice A n c,.slice B m cB] w (fun v w'=>v= .bool (decide (xs=ys))/\St w w' []):=by
 have di:=hX.1;have pZ:=hY.1;refine bw func21 O ntmps21 O (b7 O) ?_;refine bb O (ba O O (aq O (ba O O (az O ?_))));refine aM _ O (fun h1=>?_) (fun h1=>?_)
 ·have cS:xs≠ys:=fun e=>h1 (by rw [<-di,<-pZ,e])
  refine dB O (ck O ?_);exact⟨by rw [cM cS],St.refl w⟩
 have hnm:n=m:=by omega
 subst hnm;refine cW O (Cd.loop (α:=Nat) (fun i=> [(0,.slice A n c),(1,.slice B n cB),(5,aj i)]) (fun i w'=>St w w' []/\i<=n/\∀j,j<i->xs[j]?=ys[j]?) (fun i=>n - i) 0 (ajz O) ⟨St.refl w,bu _,fun j hj=>absurd hj (mg _)⟩ ?_);rintro i e w1 ⟨aC,hi,hj⟩;have FP:=aC.b9 hX;have Dn:=aC.b9 hY;refine bb O (ba O O (az O ?_));refine aM _ O (fun h2=>?_) (fun h2=>?_)
 ·refine cW O (dQ [xS (A) (n) (c),xI ((i:Int)),xP (aB (A) ((i:Int)).toNat),xI (gi (xs) ((i:Int))),xS (B) (n) (cB),xI ((i:Int)),xP (aB (B) ((i:Int)).toNat),xI (gi (ys) ((i:Int))),xB (decide (¬(gi (xs) ((i:Int)))=(gi (ys) ((i:Int)))))] O (eE O) ?_ ?_)
  ·exact⟨Dr O,Dr O,fun _ _ hb _ _=>aA (FP.ao hb).2 O Az,fun _ _ hb _ _=>aY (FP.ao hb) O Az,Dr O,Dr O,fun _ _ hb _ _=>aA (Dn.ao hb).2 O Az,fun _ _ hb _ _=>aY (Dn.ao hb) O Az,Dr O,aw⟩
  intro u w2 gP _;have aE:=aC.ao gP;refine fv O (aM _ O (fun h3=>?_) (fun h3=>?_))
  ·have cS:xs≠ys:=fun e=>h3 (by rw [e])
   refine dB O (dO (dJ ?_));refine ck O ?_;exact⟨by rw [cM cS],aE⟩
  have h3:=Decidable.not_not.1 h3;rw [bX (by omega),bX (by omega)]at h3;refine aD O (aK O (aS O (tQ ?_)));refine⟨i+1,by show n - (i+1)<n - i;omega,(ajz O),aE,by omega,fun j kF=>?_⟩
  by_cases e:j=i
  ·subst e;rw [fU (by omega),fU (by omega),h3]
  exact hj j (by omega)
 have he:xs=ys:=List.ext_getElem? fun j=>by
  by_cases s4:j<n
  ·exact hj j (by omega)
  rw [qy (by omega),qy (by omega)]
 refine bo O (bn (eG O ?_));refine ck O ?_;exact⟨by rw [eC he],aC⟩
def ll(n:Nat)(R:ah)(i:Nat):ah:=(List.range n).map fun r:Nat=> (((R.take i).filter fun x=>decide (x=(r:Int))).length:Int)
theorem yk(n:Nat)(R:ah)(i:Nat):(ll n R i).length=n:=by simp [ll]
theorem H9(n:Nat)(R:ah):ll n R 0=List.replicate n 0:=by
 apply jV (by simp [ll]);intro i h1 h2;simp [ll]
theorem Ia(n:Nat)(R:ah):ll n R R.length=fQ n R:=by
 unfold ll fQ;refine pw fun r _=>?_
 rw [List.take_length,S7]
theorem Fb{n:Nat}{i r:Nat}(h:r<n):gi (ll n R i) r=(((R.take i).filter fun x=>decide (x=(r:Int))).length:Int):=by
 rw [bX (by rw [yk];exact h)];simp [ll]
theorem NH{n:Nat}{i r:Nat}(h:r<n):0<=gi (ll n R i) r/\gi (ll n R i) r<=R.length:=by
 rw [Fb h];have:=oa (fun x=>decide (x=(r:Int))) (R.take i);rw [nt]at this;omega
theorem NI{n:Nat}{i r:Nat}(hi:i<R.length)(hr:r<n)(e:gi R i=(r:Int)):(ll n R i).set r (gi (ll n R i) r+1)=ll n R (i+1):=by
 apply jV (by rw [iR,yk,yk]);intro k h1 h2;rw [yk]at h2;rw [List.getElem_set];have g1:(ll n R (i+1))[k]'(by rw [yk];exact h2)=gi (ll n R (i+1)) k:=by rw [bX]
 have g2:(ll n R i)[k]'(by rw [yk];exact h2)=gi (ll n R i) k:=by rw [bX]
 rw [g1,g2,Fb h2,Fb h2,Fb hr];have ht:R.take (i+1)=R.take i++ [gi R i]:=by rw [rC hi,bX hi]
 rw [ht,List.filter_append,dh,e]
 by_cases hk:r=k
 ·subst hk;rw [aT rfl];simp
 rw [aR hk,List.filter_cons_of_neg (by simp;omega)];simp
theorem H8{n:Nat}{r:Nat}(h:r<n):0<=gi (fQ n R) r/\gi (fQ n R) r<=R.length:=by
 rw [<-Ia];exact NH h
theorem NP(n:Nat)(A1 A D:ai)(N m cA cD:Nat)(R:ah)(w:aa)(hB:Rd w A1 3 (fun j=> [Value.int .i64 (n:Int),.slice A N cA,.slice D m cD].getD j undef))(hR:bt w A N R)(hr:∀x∈R,0<=x/\x< (n:Int))(hn:n<=1000)(hN:N<=1000000):
 aG prog 69 [.pointer A1] w (wh (fQ n R) w):=by
 have hl:=hR.1;refine bw func69 O ntmps69 O (b7 O) (bb O ?_);refine ik hB (by decide) O O ?_;refine aI hB O (fL (j:=0) hB (by exact aL Value.pointer O) O O O O ?_);refine sJ n (St.refl w) O O ⟨by omega,by omega⟩ ?_;intro du w1 aC;have aC:St w w1 [ar 2 du n n (ll n R 0)]:=by rw [H9];exact aC
 have kf:=Rd.below hB aC.below;refine aq O (ik kf (by decide) O O ?_);refine aI kf O (ajt (j:=1) kf (by exact aL Value.pointer O) O O O O ?_);refine ba O O (az O ?_);refine Cd.loop (α:=Nat) (fun i=> [(3,.slice du n n),(14,.slice A N cA),(15,aj N),(16,aj i)]) (fun i w'=>i<=N/\St w w' [ar 2 du n n (ll n R i)]) (fun i=>N - i) 0 (ajz O) ⟨bu _,aC⟩ ?_;clear aC;rintro i e w2 ⟨hi,aE⟩;refine b8 O (aM _ O (fun h1=>?_) (fun h1=>?_))
 ·have kE:i<R.length:=by omega
  have hm:=hr _ (gi_in kE);obtain⟨r,kq⟩:∃r:Nat,gi R i=r:=⟨(gi R i).toNat,by omega⟩;have jG:r<n:=by omega
  have gQ:=NH (R:=R) (i:=i) jG;have rR:=aE.b9 hR;refine aD O (aA rR.2 O (aY rR O ?_));rw [kq];refine aq O ?_;refine ajn (aE.rd 0 O) O O O (by omega) (by show(r:Int)< (n:Int);omega) ?_;refine ajo (aE.bk 0 O) O (by show(r:Int).toNat<n;omega) O O ?_;refine aK O ?_;refine ajn (aE.rd 0 O) O O O (by omega) (by show(r:Int)< (n:Int);omega) ?_;refine ak.iG 0 (i:=(r:Int)) aE O O O (by show(r:Int).toNat<n;omega) ?_;intro w3 aH;have aH:St w w3 [ar 2 du n n (ll n R (i+1))]:=by
   rw [<-NI kE jG kq];exact aH
  refine aq O (aK O (aS O (tQ ?_)));exact⟨i+1,by show N - (i+1)<N - i;omega,(ajz O),by omega,aH⟩
 have DC:i=R.length:=by omega
 rw [DC,Ia]at aE;refine bo O (bn (eG O ?_));refine fb O ?_;exact⟨du,n,by rw [sN],by rw [sN];exact aE⟩
end
section
section
variable {N:Nat} {xss zA:ag} {φ:Int->Int}
variable {f:Int}
end
section
variable {n F:Nat} {L:ag}
end
section
variable {N:Nat} {xss:ag} {f:Int}
end
section
variable {N:Nat} {xss:ag} {p q:ah}
variable {ps:ag}
end
section
variable {N:Nat} {xss:ag} {b:Int} {i k:Nat} {L Q:ah}
end
end
section
open Go.RowKit
def lM(f:ah)(i:Nat):Int:=if i%2=0 then gi f i else -gi f i
def gk(f:ah):Nat->Int
 | 0=>0
 | k+1=>gk f k+lM f k
theorem Fg{f:ah}(hb:∀x∈f,0<=x/\x<=30000):∀k,k<=f.length-> -((k:Int)*30000)<=gk f k/\gk f k<=(k:Int)*30000
 | 0,_=>by simp [gk]
 | k+1,h=>by
  have h1:=Fg hb k (by omega);have h2:=hb _ (gi_in (out:=f) (i:=k) (by omega));have h3: -30000<=lM f k/\lM f k<=30000:=by unfold lM;split<;>omega
  unfold gk;omega
theorem Od(A:ai)(n c:Nat)(f:ah)(w:aa)(hR:bt w A n f)(hn:n<=100)(hb:∀x∈f,0<=x/\x<=30000):
 aG prog 70 [.slice A n c] w (fun v w'=>v=aj (gk f f.length)/\w'=w):=by
 have kS:=hR.1;have gQ:∀k,k<=n-> -3000000<=gk f k/\gk f k<=3000000:=fun k hk=>by
  have h1:=Fg hb k (by omega);omega
 refine bw func70 O ntmps70 O (b7 O) ?_;refine bb O (ba O O (az O ?_));refine Cd.loop (α:=Nat) (fun i=> [(3,aj (gk f i)),(6,.slice A n c),(7,aj n),(8,aj i)]) (fun i w'=>w'=w/\i<=n) (fun i=>n - i) 0 (ajz O) ⟨O,bu _⟩ ?_;rintro i e w ⟨rfl,hi⟩;have h0:=gQ i hi;refine b8 O (aM _ O (fun h3=>?_) (fun h3=>?_))
 ·have h1:=gQ (i+1) (by omega);have h2:gk f (i+1)=gk f i+lM f i:=O;have h5:=hb _ (gi_in (out:=f) (i:=i) (by omega));refine aD O (aA hR.2 O (aY hR O (aq O (ob O O O (by omega) (az O ?_)))));refine aM _ O (fun h4=>?_) (fun h4=>?_)
  ·have e:lM f i=gi f i:=by unfold lM;rw [if_pos (by omega)]
   refine aD O (aK O (aq O (aK O (aS O (tQ ?_)))));exact⟨i+1,by show n - (i+1)<n - i;omega,⟨by show Value.int .i64 _=aj _;rw [h2,e],O,O,O,aw⟩,O,by omega⟩
  have e:lM f i= -gi f i:=by unfold lM;rw [if_neg (by omega)]
  refine aD O (dq O (aq O (aK O (aS O (tQ ?_)))));exact⟨i+1,by show n - (i+1)<n - i;omega,⟨by show Value.int .i64 _=aj _;rw [h2,e];congr 1,O,O,O,aw⟩,O,by omega⟩
 have da:i=f.length:=by omega
 refine bo O (bn (eG O ?_));refine iY O ?_;exact⟨by rw [da],O⟩
theorem Uy(A:ai)(n c:Nat)(rs:List aX)(M:ag)(w:aa)(hR:bL w A n rs M)(hM:dm M)(ko:n<=c)(hc:c<=9223372036854775807)(hb:∀x∈fy M,0<=x/\x<=30000):
 aG prog 25 [.agg #[.slice A n c]] w (fun v w'=>v= .tuple #[aj (gk (fy M) (fy M).length),aj 0]/\St w w' []):=by
 have yL:decide (dm M)=true:=eC hM;have hn5:=hM.1;have di:=hR.len;refine bw func25 O ntmps25 O (oF O) (bb O (mQ (St.refl w) O O ?_));intro Ab w1 hS;refine aq O (bI 0 (hS.rd 0 O) O O O (aF (Gt A n c rs M _ (hS.cV hR) ko hc) O ?_));rintro _ w2 ⟨rfl,ax⟩;replace hS:=hS.ao ax.below;rw [yL]
 first | refine de rfl rfl ?_ | refine dV rfl rfl ?_
 refine az O (Cd.dZ O (aD O ?_));refine ajq (Og Ab A n c rs M _ ((hS.rd 0 rfl).congr fun j hj=>by(have hj:j<1:=hj);(obtain rfl:j=0:=by omega);rfl) (hS.cV hR) hM) rfl rfl rfl ?_;rintro _ w3 ⟨A7,c7,rfl,DV⟩;replace hS:=hS.call DV;refine aF (Od A7 n c7 (fy M) _ (hS.bk 0 O) (by omega) hb) O ?_;rintro _ w4 ⟨rfl,rfl⟩;refine bD O (zp O O ?_);exact⟨O,hS.none⟩
theorem eV.Ly{n:Int}{R:ah}{B:ag}(h:eV n R B):qB R.length R B:=by
 refine⟨by have:=h.od;omega,fun e h0 h1=>?_,fun e h0 h1=>?_⟩
 ·obtain⟨hs,hd,_⟩:=h.at_ h0 h1;have ug:∀d∈gl B e,0<=d/\d< (R.length:Int):=fun d hm=>by have:=(hd d hm).1;omega
  refine⟨?_,ug⟩;have:=mP.len (x:=gl B e) ⟨hs,fun d hm=> (ug d hm).1⟩ (b:=R.length) (fun d hm=> (ug d hm).2);have:=h.od;omega
 have h2:=h.lH _ (OG h0 h1);have:=h.n1;omega
noncomputable def jt(R:ah)(B:ag)(N:Nat):ah:=(List.range N).map fun k:Nat=> ((kZ (iE R B ((k:Int)+1)):Nat):Int)
theorem CU(R:ah)(B:ag)(N:Nat):(jt R B N).length=N:=by simp [jt]
theorem Nq(R:ah)(B:ag)(N:Nat):jt R B (N+1)=jt R B N++ [((kZ (iE R B ((N:Int)+1)):Nat):Int)]:=by unfold jt;rw [List.range_succ,List.map_append];rfl
theorem Fs{f:Nat->Int}{N i:Nat}(h:i<N):gi ((List.range N).map f) i=f i:=by
 rw [bX (by simpa using h)];simp
def kB(c rk:ah)(z:Nat):ah:=(List.range c.length).map fun i:Nat=>if i<z then gi c i - (gi rk i+gi rk ((i:Int)+1))else gi c i
theorem HY(c rk:ah)(z:Nat):(kB c rk z).length=c.length:=by simp [kB]
theorem WH(c rk:ah):kB c rk 0=c:=X6 (by simp [kB]) fun i hi=>by
 unfold kB at hi|-;rw [mf,tH]at hi;rw [Fs hi,aR (by omega)]
where
 X6 {a b:ah} (h:a.length=b.length) (h':∀f:Nat,f<a.length->gi a f=gi b f):a=b:=jV h fun i h1 h2=>by have:=h' i h1;rwa [bX h1,bX h2]at this
theorem WI{c rk:ah}{z:Nat}(h:z<c.length):gi (kB c rk z) z=gi c z:=by
 unfold kB;rw [Fs h,aR (by omega)]
theorem WJ{c rk:ah}{z:Nat}(h:z<c.length):(kB c rk z).set z (gi c z - (gi rk z+gi rk ((z:Int)+1)))=kB c rk (z+1):=by
 refine jV (by simp [kB]) fun i h1 h2=>?_
 have hA:∀z' (h':i< (kB c rk z').length),(kB c rk z')[i]=if i<z' then gi c i - (gi rk i+gi rk ((i:Int)+1))else gi c i:=fun z' h'=>by simp [kB]
 rw [List.getElem_set,hA,hA]
 by_cases e:z=i
 ·subst e;rw [aT rfl,aT (by omega)]
 rw [aR e]
 by_cases e2:i<z
 ·rw [aT e2,aT (by omega)]
 rw [aR e2,aR (by omega)]
abbrev CW(A1:ai)(k:Nat)(A D:ai)(M cA cD:Nat):Ck:=Bx 51 3 A1 [aj ((k:Int)+1),.slice A M cA,.slice D M cD]
noncomputable def mm(n:Nat)(R:ah)(B:ag):ah:=kB (fQ n R) ([0]++jt R B (n - 1)++ [0]) n
def Mj(n:Int)(R:ah)(B:ag)(w:aa)(v:ab)(w':aa):Prop:=
 ∃(A':ai) (c':Nat) (L:ah) (cd:Int),v= .tuple #[.slice A' L.length c',aj cd]/\St w w' [ar 2 A' L.length c' L]/\((¬eV n R B/\L=[]/\cd=1)\/(eV n R B/\¬qw R B/\L=[]/\cd=5)\/(eV n R B/\qw R B/\L=mm n.toNat R B/\cd=0))
theorem Np(Pc:ai)(N:Nat)(AR AB:ai)(m cR cB:Nat)(R:ah)(rs:List aX)(B:ag)(w:aa)(hP:wx w Pc ((N:Int)+1) AR AB m cR cB R rs B)(hO:qB m R B)(hN:N<=1000):
 aG prog 68 [.pointer Pc] w (fun v w'=>∃A' c',v= .slice A' N c'/\(∀x∈jt R B N,0<=x/\x<=1000)/\St w w' [ar 2 A' N c' (jt R B N)]):=by
 refine bw func68 O ntmps68 O (b7 O) (b8 O ?_);refine Cd.loop (α:=Nat×ai×Nat) (fun z=> [(0,.pointer Pc),(3,.slice z.2.1 z.1 z.2.2),(4,aj ((z.1:Int)+1))]) (fun z w'=>z.1<=N/\(∀x∈jt R B z.1,0<=x/\x<=1000)/\St w w' [ar 2 z.2.1 z.1 z.2.2 (jt R B z.1)]) (fun z=>N - z.1) (0,none,0) ⟨rfl,rfl,rfl,aw⟩ ⟨bu _,(fun _ h=>by cases h),(St.refl w).nil _⟩ ?_;rintro⟨i,A3,c3⟩ e w1 ⟨hi,gQ,hS⟩;dsimp only at hi gQ hS|-;have iC:=hP.ao hS.below;refine bb O (ik iC.bx (Nat.succ_pos _) O O (aI iC.bx O (fL (j:=0) iC.bx (by exact aL Value.pointer O) O O O O (az O ?_))));refine aM _ O (fun h1=>?_) (fun h1=>?_)
 ·refine aD O (aF (adf Pc _ AR AB m cR cB R rs B ((i:Int)+1) w1 iC hO) O ?_);rintro _ w2 ⟨g,gS,rfl,hM,ji,ew,ax⟩;have aE:=hS.ao ax.below;have qV:=Nq R B i;rw [GZ ew]at qV;refine Ve hM O O (dE aE O O O ?_);intro pn w3 aH;refine dS 1 aH O (aH.bk 0 O) O O O fun k8 pA w4 aQ=>aq O (aK O (aS O (tQ ?_)));exact⟨(i+1,k8,pA),by show N - (i+1)<N - i;omega,⟨O,O,aL (Value.int .i64) (by omega),aw⟩,by show i+1<=N;omega,by
   show ∀x∈jt R B (i+1),_;rw [qV];intro x hx;rcases eD.1 hx with hx | hx
   ·exact gQ x hx
   ·obtain rfl:=dK.1 hx;omega,by
   show St w w4 [ar 2 k8 (i+1) pA (jt R B (i+1))];rw [qV];exact aQ.tail⟩
 obtain rfl:i=N:=by omega
 refine bo O (bn (eG O ?_));exact fb O ⟨A3,c3,O,gQ,hS⟩
theorem RB(n:Int)(A D:ai)(cA cD N M:Nat)(R:ah)(rs:List aX)(B:ag)(w:aa)(hR:bt w A N R)(hB:bL w D M rs B)(hn: -1000<=n/\n<=1000)(hN:N<=1000000)(hM:M<=1000000):
 aG prog 24 [.agg #[aj n,.slice A N cA,.slice D M cD]] w (Mj n R B w):=by
 refine bw func24 O ntmps24 O (oF O) (bb O (lT (St.refl w) O O ?_));intro A1 w1 aC;refine aq O (bI 2 (aC.rd 0 O) O O O (aF (KN n A D cA cD N M R rs B _ (aC.b9 hR) (aC.cV hB) hn hN hM) O ?_));rintro _ w2 ⟨b,rfl,hb,ax⟩;have aE:=aC.ao ax.below;clear aC ax
 first | refine de rfl rfl ?_ | refine dV rfl rfl ?_
 refine az O ?_;cases b with
 | false => --dup 2
  refine Cd.eH O (dB O (rh O O ?_));exact⟨none,0,[],1,O,aE.none.nil _,.inl ⟨fun h=>absurd (hb.2 h) (by decide),O,O⟩⟩
 | true=>
  have hP:=hb.1 O;refine Cd.dZ O ?_;obtain⟨k,rfl⟩:∃k:Nat,n=(k:Int)+1:=⟨(n - 1).toNat,by have:=hP.n1;omega⟩;obtain rfl:M=N:=by rw [<-hB.len,hP.len,hR.1]
  have hO:=hP.Ly;rw [hR.1]at hO;have gZ:=hR.1;have ue:=hP.od;have J3:=hP.n1;have bE:(fQ (k+1) R).length=k+1:=sN _ _;have Bb:=fun r (h:r<k+1)=>H8 (R:=R) h
  have PA:∀ {w':aa} {ks:List Ck},St w w' ks->Rd w' A1 3 (fun j=> [Value.int .i64 ((k:Int)+1),.slice A M cA,.slice D M cD].getD j undef)->wx w' A1 ((k:Int)+1) A D M cA cD R rs B:=fun hS hb=> ⟨hb,hS.b9 hR,hS.cV hB⟩
  refine aD O (aF (acI A1 ((k:Int)+1) A D M cA cD R rs B _ (PA aE (aE.rd 0 O)) hO) O ?_);rintro _ w3 ⟨b2,rfl,gP,ax⟩;have aH:=aE.ao ax.below;clear aE ax
  first | refine de rfl rfl ?_ | refine dV rfl rfl ?_
  refine az O ?_;cases b2 with
  | false => --dup 2
   refine Cd.eH O (dB O (rh O O ?_));exact⟨none,0,[],5,O,aH.none.nil _,.inr (.inl ⟨hP,fun h=>absurd (gP.2 h) (by decide),O,O⟩)⟩
  | true=>
   refine Cd.dZ O (aD O (dE aH O O O ?_));intro gU w4 aQ;refine aF (Np A1 k A D M cA cD R rs B _ (PA aQ (aQ.rd 1 O)) hO (by omega)) O ?_;rintro _ w5 ⟨ka,kM,rfl,xz,ax⟩;have bT:=CU R B k;have iV:mm (k+1) R B=kB (fQ (k+1) R) ([0]++jt R B k++ [0]) (k+1):=O;generalize jt R B k=rk at*;have a8:=aQ.call ax;refine dS 1 a8 O (a8.bk 0 O) O O O ?_;intro jB kN w6 bg;have bg:St w w6 (ar 2 ka k kM rk::ar 2 jB (1+k) kN ([0]++rk)::[CW A1 k A D M cA cD]):=bg;refine dE bg O O O fun pk w7 bl=>dS 2 bl O (bl.bk 0 O) O O O ?_;intro pn u7 w8 bK;have bK:St w w8 (ar 2 pk 1 1 [0]::ar 2 ka k kM rk::ar 2 pn (1+k+1) u7 ([0]++rk++ [0])::[CW A1 k A D M cA cD]):=bK;clear aH aQ a8 bg bl ax;refine aq O ?_;refine aF (NP (k+1) A1 A D M M cA cD R _ (bK.rd 3 O) (bK.b9 hR) (fun x hx=>by have:=hP.lH x hx;omega) (by omega) (by omega)) O ?_;rintro _ w9 ⟨k8,pA,rfl,ax⟩;have bh:=bK.call ax;rw [bE]at bh;have DR:∀j:Nat,j<=k+1->0<=gi ([0]++rk++ [0]) j/\gi ([0]++rk++ [0]) j<=1000:=fun j hj=>by
    have:=gi_in (out:=[0]++rk++ [0]) (i:=j) (by simp;omega);rcases eD.1 this with h | h
    ·rcases eD.1 h with h | h
     ·rw [dK.1 h];omega
     ·exact xz _ h
    ·rw [dK.1 h];omega
   generalize abO:[0]++rk++ [0]=ig at*;have bh:St w w9 (ar 2 k8 (k+1) pA (kB (fQ (k+1) R) ig 0)::ar 2 pk 1 1 [0]::ar 2 ka k kM rk::ar 2 pn (1+k+1) u7 ig::[CW A1 k A D M cA cD]):=by rw [WH];exact bh
   clear bK ax;rw [bE];refine aq O (ba O O (az O ?_));refine Cd.loop (α:=Nat) (fun z=> [(4,.slice pn (1+k+1) u7),(5,.slice k8 (k+1) pA),(21,aj ((k+1:Nat):Int)),(22,aj z)]) (fun z w'=>z<=k+1/\St w w' (ar 2 k8 (k+1) pA (kB (fQ (k+1) R) ig z)::ar 2 pk 1 1 [0]::ar 2 ka k kM rk::ar 2 pn (1+k+1) u7 ig::[CW A1 k A D M cA cD])) (fun z=>k+1 - z) 0 (ajz O) ⟨bu _,bh⟩ ?_;clear bh;rintro i e dA ⟨hi,hS⟩;refine b8 O (aM _ O (fun h1=>?_) (fun h1=>?_))
   ·have dI:i<k+1:=by omega
    have hC:=hS.bk 0 O;have hK:=hS.bk 3 O;have h1:=DR i (by omega);have h2:=DR (i+1) (by omega);have h3:=Bb i dI;have pN:=WI (c:=fQ (k+1) R) (rk:=ig) (z:=i) (by omega);have ib:=WJ (c:=fQ (k+1) R) (rk:=ig) (z:=i) (by omega);rw [show((i+1:Nat):Int)=(i:Int)+1 by omega]at h2;refine cW O ?_;refine jm [16] [yS (k8) (k+1) (pA),yI ((i:Int)),yP (aB (k8) ((i:Int)).toNat),yI (gi (kB (fQ (k+1) R) ig i) ((i:Int))),yS (pn) (1+k+1) (u7),yI ((i:Int)),yP (aB (pn) ((i:Int)).toNat),yI (gi (ig) ((i:Int))),yS (pn) (1+k+1) (u7),yI ((i:Int)),yI (((i:Int))+ ((1:Int))),yP (aB (pn) (((i:Int))+ ((1:Int))).toNat),yI (gi (ig) (((i:Int))+ ((1:Int)))),yI ((gi (ig) ((i:Int)))+ (gi (ig) (((i:Int))+ ((1:Int))))),yI ((gi (kB (fQ (k+1) R) ig i) ((i:Int))) - ((gi (ig) ((i:Int)))+ (gi (ig) (((i:Int))+ ((1:Int)))))),yP (aB (k8) ((i:Int)).toNat),.pr (fun _ w'=>St w w' (ar 2 k8 (k+1) pA (kB (fQ (k+1) R) ig (i+1))::ar 2 pk 1 1 [0]::ar 2 ka k kM rk::ar 2 pn (1+k+1) u7 ig::[CW A1 k A D M cA cD]))] (ly (ly (ly (ly (ly (ly (ly (ly (ly (ly (ly (ly (ly (ly (ly (ly (cg.2 ⟨Ye.cH (fun v w w' h hb=>h.ao hb),(fun _ h=>by cases h)⟩))))))))))))))))) ?_ ?_
    ·refine⟨bZ O,bZ O,cP fun _ _ hb _ _ _=>aA (hC.ao hb).2 O (bq O O),cP fun _ _ hb _ _ _=>aY (hC.ao hb) O (bq O O),bZ O,bZ O,cP fun _ _ hb _ _ _=>aA (hK.ao hb).2 O (bq O O),cP fun _ _ hb _ _ _=>aY (hK.ao hb) O (bq O O),bZ O,bZ O,aP fun _ _=>aK O (bq O O),cP fun _ _ hb _ _ _=>aA (hK.ao hb).2 O (bq O O),cP fun _ _ hb _ _ _=>aY (hK.ao hb) O (bq O O),aP fun _ _=>aK O (bq O O),aP fun _ _=>dq O (bq O O),cP fun _ _ hb _ _ _=>aA (hC.ao hb).2 O (bq O O),?_,aw⟩
     ·refine ju fun e1 w1 hb hp bc hq=>?_
      refine ak.iG 0 (hS.ao hb) O O O (by omega) fun w9 bh=>ak.n ?_;rw [gB,pN,ib]at bh;exact fF.st O bh
    intro u eA _ hu _ _;have eI:=hu 16 _ O (by kernel_rfl);refine fJ O (aK O (aS O (tQ ?_)));exact⟨i+1,by show k+1 - (i+1)<k+1 - i;omega,⟨O,O,O,aL (Value.int .i64) (by omega),aw⟩,by omega,eI⟩
   ·obtain rfl:i=k+1:=by omega
    refine bo O (bn (eG O ?_));refine rh O O ?_;exact⟨k8,pA,mm (k+1) R B,0,by rw [iV,HY,bE],by rw [iV,HY,bE];exact hS.sub (List.Sublist.cons_cons _ (List.nil_sublist _)),.inr (.inr ⟨hP,gP.1 O,O,O⟩)⟩
theorem RC(n:Int)(A D:ai)(cA cD N M:Nat)(R:ah)(rs:List aX)(B:ag)(w:aa)(hR:bt w A N R)(hB:bL w D M rs B)(hn: -1000<=n/\n<=1000)(hN:N<=1000000)(hM:M<=1000000):
 aG prog 29 [.agg #[aj n,.slice A N cA,.slice D M cD]] w (fun v w'=> ((¬eV n R B/\v= .tuple #[aj 0,aj 1])\/(eV n R B/\v= .tuple #[aj (gk (fQ n.toNat R) n.toNat),aj 0]))/\St w w' []):=by
 refine bw func29 O ntmps29 O (oF O) (bb O (lT (St.refl w) O O ?_));intro A1 w1 aC;refine aq O (bI 2 (aC.rd 0 O) O O O (aF (KN n A D cA cD N M R rs B _ (aC.b9 hR) (aC.cV hB) hn hN hM) O ?_));rintro _ w2 ⟨b,rfl,hb,ax⟩;have aE:=aC.ao ax.below;clear aC ax
 first | refine de rfl rfl ?_ | refine dV rfl rfl ?_
 refine az O ?_;cases b with
 | false => --dup 2
  refine Cd.eH O (dB O (zp O O ?_));exact⟨.inl ⟨fun h=>absurd (hb.2 h) (by decide),O⟩,aE.none⟩
 | true=>
  have hP:=hb.1 O;refine Cd.dZ O ?_;obtain⟨k,rfl⟩:∃k:Nat,n=(k:Int):=⟨n.toNat,by have:=hP.n1;omega⟩;have J3:=hP.n1;have ue:=hP.od;have gZ:=hR.1;have bE:(fQ k R).length=k:=sN _ _;have Bb:=fun r (h:r<k)=>H8 (R:=R) h
  refine aD O ?_;refine aF (NP k A1 A D N M cA cD R _ (aE.rd 0 O) (aE.b9 hR) (fun x hx=>by have:=hP.lH x hx;omega) (by omega) (by omega)) O ?_;rintro _ w3 ⟨A7,c7,rfl,ax⟩;have aH:=aE.call ax;rw [bE]at aH|-;refine ajq (Od A7 k c7 (fQ k R) _ (aH.bk 0 O) (by omega) (fun x hx=>by
   obtain⟨i,hi,rfl⟩:=gj.1 hx;have h9:=Bb i (by omega);rw [bX hi]at h9;omega)) rfl rfl rfl ?_
  rintro _ w4 ⟨rfl,rfl⟩;refine bD O (zp O O ?_);exact⟨.inr ⟨hP,by rw [bE];rfl⟩,aH.none⟩
theorem acx(n:Int)(A D:ai)(cA cD N M:Nat)(R:ah)(rs:List aX)(B:ag)(w:aa)(hR:bt w A N R)(hB:bL w D M rs B)(hn: -1000<=n/\n<=1000)(hN:N<=1000000)(hM:M<=1000000):
 aG prog 31 [.agg #[aj n,.slice A N cA,.slice D M cD]] w (fun v w'=>∃(A':ai) (c':Nat) (L:ah) (cd:Int),v= .tuple #[.slice A' L.length c',aj cd]/\St w w' [ar 2 A' L.length c' L]/\((¬eV n R B/\L=[]/\cd=1)\/(eV n R B/\L=jt R B (n.toNat - 1)/\cd=0))):=by
 refine bw func31 O ntmps31 O (oF O) (bb O (lT (St.refl w) O O ?_));intro A1 w1 aC;refine aq O (bI 2 (aC.rd 0 O) O O O (aF (KN n A D cA cD N M R rs B _ (aC.b9 hR) (aC.cV hB) hn hN hM) O ?_));rintro _ w2 ⟨b,rfl,hb,ax⟩;have aE:=aC.ao ax.below;clear aC ax
 first | refine de rfl rfl ?_ | refine dV rfl rfl ?_
 refine az O ?_;cases b with
 | false => --dup 2
  refine Cd.eH O (dB O (rh O O ?_));exact⟨none,0,[],1,O,aE.none.nil _,.inl ⟨fun h=>absurd (hb.2 h) (by decide),O,O⟩⟩
 | true=>
  have hP:=hb.1 O;refine Cd.dZ O ?_;obtain⟨k,rfl⟩:∃k:Nat,n=(k:Int)+1:=⟨(n - 1).toNat,by have:=hP.n1;omega⟩;obtain rfl:M=N:=by rw [<-hB.len,hP.len,hR.1]
  have hO:=hP.Ly;rw [hR.1]at hO;have J3:=hP.n1;have bT:=CU R B k;refine aD O (aF (Np A1 k A D M cA cD R rs B _ ⟨aE.rd 0 O,aE.b9 hR,aE.cV hB⟩ hO (by omega)) O ?_);rintro _ w5 ⟨ka,kM,rfl,xz,ax⟩;refine bD O (rh O O ?_);exact⟨ka,kM,jt R B k,0,by rw [bT],by rw [bT];exact(aE.call ax).sub (lQ _ _),.inr ⟨hP,O,O⟩⟩
end
end Go.Proofs.YtkojeolafnadeaaGreatDoor.Vc
