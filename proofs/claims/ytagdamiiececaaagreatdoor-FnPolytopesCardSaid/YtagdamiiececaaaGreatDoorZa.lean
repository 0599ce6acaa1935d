/-
 Lemmas. Conditions: as each states them.
-/
import Derived.WalkKit
import Derived.Deep.Quiet
import Derived.Deep.LoopGhost
import Derived.Below
import Derived.Sort.Grow
import Derived.Deep.OwnRows
set_option maxHeartbeats 8000000
namespace Go.Proofs.YtagdamiiececaaaGreatDoor.Vc
open Go.RowKit
abbrev aa:=World
abbrev ad:=Value
abbrev ae:=TypeId
abbrev ag:=Operand
abbrev ah:=List (List Int)
abbrev ai:=List Int
abbrev aj:=Option Addr
abbrev ak(i:Int):Value:=.int .i64 i
theorem av:True:=@trivial
theorem aC:∀ {c:Prop} {_:Decidable c},¬c->∀ {α:Sort _} {t e:α},(if c then t else e)=e:=@if_neg
theorem aF:∀ {c:Prop} {_:Decidable c},c->∀ {α:Sort _} {t e:α},(if c then t else e)=t:=@if_pos
theorem aH:∀ {α:Sort _} {β:Sort _} {a₁ a₂:α} (f:α->β),a₁=a₂->f a₁=f a₂:=@congrArg
theorem bn:∀(n:Nat),0<=n:=@Nat.zero_le
theorem bV:∀ {α:Type _} {val val_1:α},some val=some val_1->val=val_1:=@Option.some.inj
theorem cz:∀ {α:Type _} {l:List α} {i:Nat} {a:α},l.getD i a=l[i]?.getD a:=@List.getD_eq_getElem?_getD
theorem cM:∀ {α:Type _} {p:α->Prop} {a:α} {l:List α},(∀(x:α),x∈a::l->p x)↔p a/\∀(x:α),x∈l->p x:=@List.forall_mem_cons
theorem cS:∀ {p:Prop} [Decidable p],¬p->decide p=false:=@decide_eq_false
theorem dh:∀(n:Nat),n<=n:=@Nat.le_refl
theorem dU:∀ {α:Type _} {l:List α} {n:Nat} (h:n<l.length),l[n]∈l:=@List.getElem_mem
theorem eD:∀ {p:Prop} [Decidable p],p->decide p=true:=@decide_eq_true
theorem eP:∀ {α:Type _} {a b:α},a∈[b]↔a=b:=@List.mem_singleton
theorem eS:∀ {α:Type _} {l:List α} {i:Nat} (h:i<l.length),l[i]?=some l[i]:=@List.getElem?_eq_getElem
theorem eY:∀ {α:Type _} {cs bs:List α},(cs++bs).length=cs.length+bs.length:=@List.length_append
theorem eZ:∀ {α:Type _} {a:α} {l:List α},a∈l↔∃(i:Nat) (h:i<l.length),l[i]=a:=@List.mem_iff_getElem
theorem fh:∀ {α:Type _} {β:Type _} {b:β} {f:α->β} {l:List α},b∈List.map f l↔∃a,a∈l/\f a=b:=@List.mem_map
theorem fO:∀ {α:Type _} (cs:List α),cs++ []=cs:=@List.append_nil
theorem fP:∀ {m n:Nat},m∈List.range n↔m<n:=@List.mem_range
theorem fU:∀ {α:Type _} {xs:Array α} {i:Nat} {d:α},xs.getD i d=xs[i]?.getD d:=@Array.getD_eq_getD_getElem?
theorem fW:∀(n:Nat),(n:Int).toNat=n:=@Int.toNat_natCast
theorem fY:∀ {α:Type _} {i:Nat} {a:α} {l:List α},l[i]?=some a↔∃h,l[i]=a:=@List.getElem?_eq_some_iff
theorem fZ:∀ {α:Type _} {p:α->Bool} {cs:List α} {x:α},x∈List.filter p cs↔x∈cs/\p x=true:=@List.mem_filter
theorem gq:∀ {α:Type _} (l₁ l₂:List α),l₂.Sublist (l₁++l₂):=@List.sublist_append_right
theorem gB:∀ {α:Type _} (l:List α),l.Sublist l:=@List.Sublist.refl
theorem gL:∀ {α:Type _} {a:α} {s t:List α},a∈s++t↔a∈s\/a∈t:=@List.mem_append
theorem gM:∀(n:Nat),¬n<0:=@Nat.not_lt_zero
theorem ia:∀ {α:Type _} {l₁ l₂:List α},l₁.length=l₂.length->(∀(i:Nat) (h₁:i<l₁.length) (h₂:i<l₂.length),l₁[i]=l₂[i])->l₁=l₂:=@List.ext_getElem
theorem ig:∀ {α:Type _} (ks bs cs:List α),ks++bs++cs=ks++ (bs++cs):=@List.append_assoc
theorem ij:∀ {α:Type _} {cs:List α} {i:Nat} {a:α},(cs.set i a).length=cs.length:=@List.length_set
theorem iA:∀ {α:Type _} {a:α} {l₁ l₂:List α},(l₁++a::l₂).Perm (a::(l₁++l₂)):=@List.perm_middle
theorem jb:∀ {n m k:Nat},n<=m->m<=k->n<=k:=@Nat.le_trans
theorem jx:∀ {α:Type _} (a:α) {b:α} {l:List α} {i:Nat},(l.set i a).set i b=l.set i b:=@List.set_set
theorem jL:∀ {p:Prop} [Decidable p],(decide p=true)=p:=@decide_eq_true_eq
theorem ka:∀ {α:Type _} {l₁ l₂:List α},(l₁++l₂).Perm (l₂++l₁):=@List.perm_append_comm
theorem kg:∀ {p q:Prop} {_:Decidable p} {_:Decidable q},decide p=decide q↔(p↔q):=@decide_eq_decide
theorem kz:∀ {n m:Nat},n.beq m=true->n=m:=@Nat.eq_of_beq_eq_true
theorem kR:∀ {a:Prop},¬¬a↔a:=@Classical.not_not
theorem kS:∀ {α:Type _} {l:List α} {α_1:Type _} {f g:α->α_1},(∀(a:α),a∈l->f a=g a)->List.map f l=List.map g l:=@List.map_congr_left
theorem kT:∀ {α:Type _} {b:α} {l:List α} {a:α},a∈b::l↔a=b\/a∈l:=@List.mem_cons
theorem kU:∀ {α:Type _} (l₁ l₂:List α),l₁.Sublist (l₁++l₂):=@List.sublist_append_left
theorem lB:∀ {α:Type _} [BEq α] {a b:α} {l:List α},List.count a (b::l)=List.count a l+if(b==a)=true then 1 else 0:=@List.count_cons
theorem lC:∀ {α:Type _} {β:Type _} {cs:List α} (f:α->β),(List.map f cs).length=cs.length:=@List.length_map
theorem lD:∀ {α:Type _} {i:Nat} {l:List α},l.length<=i->List.take i l=l:=@List.take_of_length_le
theorem lF:∀ {α:Type _} (val val_1:α),(some val=some val_1)=(val=val_1):=@Option.some.injEq
theorem lX:∀ {α:Type _} {R:α->α->Prop} {l:List α} (p:α->Bool),List.Pairwise R l->List.Pairwise R (List.filter p l):=@List.Pairwise.filter
theorem lY:∀ {α:Type _} {l₁ l₂:List α} {i:Nat},i<l₁.length->(l₁++l₂)[i]?=l₁[i]?:=@List.getElem?_append_left
theorem lZ:∀ {α:Type _} {l₁ l₂:List α} {i:Nat},l₁.length<=i->(l₁++l₂)[i]?=l₂[i - l₁.length]?:=@List.getElem?_append_right
theorem l0:∀ {α:Type _} {l:List α} {i j:Nat} {a:α},(l.set i a)[j]?=if i=j then if i<l.length then some a else none else l[j]?:=@List.getElem?_set
theorem l3:∀ {α:Type _} [BEq α] [LawfulBEq α] {l₁ l₂:List α},l₁.Perm l₂↔∀(a:α),List.count a l₁=List.count a l₂:=@List.perm_iff_count
theorem l4:∀ {n:Nat},List.range n.succ=List.range n++ [n]:=@List.range_succ
theorem mr:∀ {α:Type _} {xs:Array α} {i:Nat} (h:i<xs.size),xs[i]?=some xs[i]:=@Array.getElem?_eq_getElem
theorem mW:∀ {α:Type _} [BEq α] {a:α} {l₁ l₂:List α},List.count a (l₁++l₂)=List.count a l₁+List.count a l₂:=@List.count_append
theorem mX:∀ {α:Type _} (p:α->Bool) (l:List α),(List.filter p l).length<=l.length:=@List.length_filter_le
theorem mY:∀ {α:Type _} {i:Nat} {l:List α},(List.take i l).length=min i l.length:=@List.length_take
theorem mZ:∀ {α:Type _} {a:α} {l:List α},(a::l).Nodup↔¬a∈l/\l.Nodup:=@List.nodup_cons
theorem nY:∀ {α:Type _} [BEq α] {a:α},List.count a []=0:=@List.count_nil
theorem oW:∀ {α:Type _} {p:α->Bool} (l₁ l₂:List α),List.filter p (l₁++l₂)=List.filter p l₁++List.filter p l₂:=@List.filter_append
theorem oX:∀ {α:Type _} {l:List α} {i:Nat},l.length<=i->l[i]?=none:=@List.getElem?_eq_none
theorem oY:∀ {α:Type _} (y:α) {a:α} {l:List α},a∈l->a∈y::l:=@List.mem_cons_of_mem
theorem oZ:∀ {α:Type _} {i:Nat} {l:List α} (h:i<l.length),List.take (i+1) l=List.take i l++ [l[i]]:=@List.take_succ_eq_append_getElem
theorem pL:∀ {p:Prop},(¬p->False)->p:=@Classical.byContradiction
theorem pM:∀ {α:Type _} {l:List α},l.length=0->l=[]:=@List.eq_nil_of_length_eq_zero
theorem pN:∀ {α:Type _} {l:List α} {i j:Nat},(List.take i l)[j]?=if j<i then l[j]? else none:=@List.getElem?_take
theorem pO:∀ {n:Nat},(List.range n).length=n:=@List.length_range
theorem qH:∀ {α:Type _} {xs:Array α} {i j:Nat} {a:α},(xs.setIfInBounds i a)[j]?=if i=j then if i<xs.size then some a else none else xs[j]?:=@Array.getElem?_setIfInBounds
theorem qJ:∀ {α:Type _} {p:α->Bool} {a:α} {l:List α},¬p a=true->List.filter p (a::l)=List.filter p l:=@List.filter_cons_of_neg
theorem rK:∀ {p:Prop} [Decidable p],decide p=true->p:=@of_decide_eq_true
theorem th:∀ {α:Type _} {p:α->Bool} {a:α} {l:List α},p a=true->List.filter p (a::l)=a::List.filter p l:=@List.filter_cons_of_pos
theorem uH:∀ {α:Type _} {l₁ l₂:List α} {i:Nat},i<=l₁.length->List.take i (l₁++l₂)=List.take i l₁:=@List.take_append_of_le_length
abbrev Env:=Nat->ad
def bj(e:Env)(d:Nat)(v:ad):Env:=fun i=>bif Nat.beq i d then v else e i
def ev(e:Env):ag->ad
 | .tmp t=>e t
 | .const v=>v
 | .global g=> .pointer (some ⟨g,0,none⟩)
 | .func f=> .func (.func f) #[] #[]
structure gC(N:Nat)(a:Act)(e:Env):Prop where
 defers:a.defers=[]
 size:a.tmps.size=N
 get:∀i,a.tmps.getD i undef=e i
theorem O{α:Sort _}{a:α}:a=a:=rfl
theorem gC.eval{N:Nat}{a:Act}{e:Env}(h:gC N a e):a.eval=ev e:=by
 funext x;cases x with
 | tmp t=>exact h.get t
 | const v=>rfl
 | global g=>rfl
 | func f=>rfl
theorem gC.put{N:Nat}{a:Act}{e:Env}(h:gC N a e){d:Nat}(hd:Nat.blt d N=true)(v:ad):gC N (a.put (some d) v) (bj e d v):=by
 have vj:d<a.tmps.size:=by rw [h.size];simpa [Nat.blt_eq]using hd
 refine⟨h.defers,by simp [Act.put,h.size],fun i=>?_⟩;simp only [Act.put,bj];rw [fU,qH]
 by_cases e1:d=i
 ·subst e1;simp [vj]
 ·have e2:Nat.beq i d=false:=by
   cases hb:Nat.beq i d with
   | false=>rfl
   | true=>exact absurd (kz hb).symm e1
  rw [aC e1,e2,<-fU,h.get]
  rfl
abbrev gu:=Exit->Env->aa->Prop
def low(N:Nat)(Q:gu):Exit->Act->aa->Prop:=fun x a w=>∃e,gC N a e/\Q x e w
structure Cd(P:Program)(N:Nat)(c:Code)(Q:gu)(e:Env)(w:aa):Prop where
 mk'::
 run:∀a,gC N a e->c.wp P (low N Q) a w
structure ao(P:Program)(N:Nat)(ops:Array Oper)(K:Env->aa->Prop)(l:List Oper)(e:Env)(w:aa):Prop where
 mk'::
 run:∀a,gC N a e->wpList P ops (fun x a w=>x= .normal/\∃e,gC N a e/\K e w) l a w
section
variable{x y:Code}{id:Nat}
variable {P:Program} {N:Nat} {Q:gu} {e:Env} {w:aa}
def uA(K:Env->aa->Prop)(Q:gu):gu
 | .normal,e,w=>K e w
 | x,e,w=>Q x e w
def Cw(id:Nat)(Q:gu):gu
 | .exit ER,e,w=>if ER=id then Q .normal e w else Q (.exit ER) e w
 | x,e,w=>Q x e w
theorem Cd.mono{c:Code}{Q':gu}(hq:∀x e w,Q x e w->Q' x e w)(h:Cd P N c Q e w):Cd P N c Q' e w:=
 .mk' fun a ha=>wp_mono (h.run a ha) fun _ _ _ ⟨e,he,q⟩=> ⟨e,he,hq _ _ _ q⟩
theorem Cd.seq(h:Cd P N x (uA (Cd P N y Q) Q) e w):Cd P N (.seq x y) Q e w:= .mk' fun a ha=>
 wp_seq (wp_mono (h.run a ha) fun ex a' w' ⟨e',ox,q⟩=>by
  cases ex<;>first | exact q.run a' ox | exact⟨e',ox,q⟩)
theorem Cd.skip(h:Q .normal e w):Cd P N .skip Q e w:= .mk' fun a ha=>wp_skip ⟨e,ha,h⟩
theorem Cd.ret(h:Q .ret e w):Cd P N .ret Q e w:= .mk' fun a ha=>wp_ret ⟨e,ha,h⟩
theorem Cd.exit(h:Q (.exit id) e w):Cd P N (.exit id) Q e w:= .mk' fun a ha=>wp_exit ⟨e,ha,h⟩
theorem Cd.block{c:Code}(h:Cd P N c (Cw id Q) e w):Cd P N (.block id c) Q e w:= .mk' fun a ha=>
 wp_block (wp_mono (h.run a ha) fun ex a' w' ⟨e',ox,q⟩=>by
  cases ex<;>first
   | exact⟨e',ox,q⟩
   | (
    rename_i ER;simp only [Cw]at q;simp only [Exit.inBlock]
    split
    ·rename_i hid;rw [aF hid]at q;exact⟨e',ox,q⟩
    ·rename_i hid;rw [aC hid]at q;exact⟨e',ox,q⟩))
theorem Cd.cond{c:ag}{t:Bool}(hc:ev e c= .bool t)(h1:t=true->Cd P N x Q e w)(h2:t=false->Cd P N y Q e w):Cd P N (.cond c x y) Q e w:= .mk' fun a ha=>
 wp_cond_split (t:=t) (by rw [ha.eval,hc]) (fun h=> (h1 h).run a ha) (fun h=> (h2 h).run a ha)
theorem Cd.fx{c:ag}(hc:ev e c= .bool true)(h1:Cd P N x Q e w):Cd P N (.cond c x y) Q e w:= .cond hc (fun _=>h1) (fun h=>by cases h)
theorem Cd.eM{c:ag}(hc:ev e c= .bool false)(h1:Cd P N y Q e w):Cd P N (.cond c x y) Q e w:= .cond hc (fun h=>by cases h) (fun _=>h1)
theorem aN{c:ag}(p:Prop)[Decidable p](hc:ev e c= .bool (decide p))(h1:p->Cd P N x Q e w)(h2:¬p->Cd P N y Q e w):Cd P N (.cond c x y) Q e w:=
 .cond hc (fun h=>h1 (rK h)) (fun h=>h2 (of_decide_eq_false h))
theorem Cd.region{l:List Oper}(h:ao P N l.toArray (fun e w=>Q .normal e w) l e w):Cd P N (.region id l.toArray false) Q e w:= .mk' fun a ha=>
 wp_mono (wp_region_lit (h.run a ha)) fun _ _ _ ⟨hx,e',ox,q⟩=> ⟨e',ox,by rw [hx];exact q⟩
def Mt(e:Env):List (Nat×ad)->Prop
 | []=>True
 | (i,v)::r=>e i=v/\Mt e r
theorem WM{e:Env}:∀{l:List (Nat×Value)},l.map (fun p=>e p.1)=l.map (fun p=>p.2)->Mt e l
 | [],_=>True.intro
 | _::_,h=>⟨(List.cons.inj h).1,WM (List.cons.inj h).2⟩
def ext(e:Env):List (Nat×ad)->Env
 | []=>e
 | (i,v)::r=>bj (ext e r) i v
theorem sb:∀ {l:List (Nat×ad)} {e:Env},Mt e l->ext e l=e
 | [],_,_=>rfl
 | (i,v)::r,e,h=>by
  show bj (ext e r) i v=e;rw [sb h.2];funext j;unfold bj;cases hb:Nat.beq j i with
  | false=>rfl
  | true=>rw [kz hb,h.1];rfl
theorem Cd.loop{α:Type}{c:Code}(F:α->List (Nat×ad))(I:α->aa->Prop)(m:α->Nat)(s0:α)(hF:Mt e (F s0))(hI:I s0 w)
 (round:∀s e w,I s w->Cd P N c (uA (fun e' w'=>∃s',m s'<m s/\Mt e' (F s')/\I s' w') Q) (ext e (F s)) w):Cd P N (.loop c) Q e w:=by
 have key:∀n s e w,m s=n->Mt e (F s)->I s w->∀a,gC N a e->(Code.loop c).wp P (low N Q) a w:=by
  intro n0 s e w hn hm DA a ha
  let J:Act->aa->Prop:=fun a w=>∃s e,gC N a e/\Mt e (F s)/\I s w
  refine wp_loop_ghost (I:=fun n a w=>∃s e,m s=n/\gC N a e/\Mt e (F s)/\I s w) n0 ⟨s,e,hn,ha,hm,DA⟩ ?_;intro n a w ⟨s,e,hn,ha,hm,hI⟩;have h1:=round s e w hI;rw [sb hm]at h1;refine wp_mono (h1.run a ha) fun ex a' w' ⟨e',ox,q⟩=>?_
  cases ex<;>first
   | exact⟨e',ox,q⟩
   | (
    obtain⟨s',eQ,jf,DA⟩:=q;exact⟨m s',by omega,s',e',O,ox,jf,DA⟩)
 exact .mk' fun a ha=>key _ s0 e w O hF hI a ha
end
class bG(P:Program)(t:ae)(d:outParam TypeDesc):Type where
 out:P.underlying t=some d
class bJ(P:Program)(t:ae)(z:outParam ad)(size bytes:outParam Nat):Prop where
 out:(P.info? t).map (fun i=> (i.zero,i.size,i.bytes))=some (some z,size,bytes)
class bC(P:Program)(F:FuncId):Prop where
 out : ∃ fn, P.funcs[F]? = some fn /\ (fn.name == "runtime.NumGoroutine") = false /\ fn.body.isNone = false
theorem bJ.get(P:Program)(t:ae){z:ad}{s b:Nat}[h:bJ P t z s b]:∃i,P.info? t=some i/\i.zero=some z/\i.size=s/\i.bytes=b:=by
 obtain⟨i,hi,he⟩:=Option.map_eq_some_iff.1 h.out;simp only [Prod.mk.injEq]at he;exact⟨i,hi,he.1,he.2.1,he.2.2⟩
section
variable{j dj d:Nat}{want:Bool}{x:ag}
variable {P:Program} {N:Nat} {ops:Array Oper} {K:Env->aa->Prop} {rest:List Oper} {e:Env} {w w':aa} {d:Nat} {ty:ae} {pos:String} {af:Array Edge}
theorem ao.n(h:K e w):ao P N ops K [] e w:= .mk' fun a ha=>wpList_nil ⟨rfl,e,ha,h⟩
theorem ao.val{op:Op}{v:ad}(hr:(execOp (ev e) ⟨some d,op,ty,pos,af,none⟩).run P w= .ok (.value v) w')(hb:Nat.blt d N=true)(hK:ao P N ops K rest (bj e d v) w'):
 ao P N ops K (⟨some d,op,ty,pos,af,none⟩::rest) e w:= .mk' fun a ha=>by
 refine wpList_plain O fun J hJ=>?_
 unfold Oper.wp;rw [ha.eval,hr];exact hJ _ _ (hK.run _ (ha.put hb v))
theorem ao.unit{op:Op}(hr:(execOp (ev e) ⟨none,op,ty,pos,af,none⟩).run P w= .ok .skip w')(hK:ao P N ops K rest e w'):
 ao P N ops K (⟨none,op,ty,pos,af,none⟩::rest) e w:= .mk' fun a ha=>by
 refine wpList_plain O fun J hJ=>?_
 unfold Oper.wp;rw [ha.eval,hr];exact hJ _ _ (hK.run _ ha)
theorem ao.Vi{op:Op}{v:ad}(hr:(execOp (ev e) ⟨none,op,ty,pos,af,none⟩).run P w= .ok (.value v) w')(hK:ao P N ops K rest e w'):
 ao P N ops K (⟨none,op,ty,pos,af,none⟩::rest) e w:= .mk' fun a ha=>by
 refine wpList_plain O fun J hJ=>?_
 unfold Oper.wp;rw [ha.eval,hr];exact hJ _ _ (hK.run _ ha)
theorem Lj{a:Act}{b:Bool}(ha:gC N a e)(hj:(ops[j]?).bind (·.dst)=some dj)(eQ:Nat.blt dj N=true)(hv:e dj= .bool b):yielded ops a.tmps j=some b:=by
 have h1:dj<a.tmps.size:=by rw [ha.size];simpa [Nat.blt_eq]using eQ
 have h2:=ha.get dj;rw [fU,mr h1,Option.getD_some,hv]at h2;simp [yielded,hj,mr h1,h2]
theorem Wz{o:Option Tmp}{op:Op}(hj:(ops[j]?).bind (·.dst)=some dj)(eQ:Nat.blt dj N=true)(hv:e dj= .bool want)(hK:ao P N ops K (⟨o,op,ty,pos,af,none⟩::rest) e w):ao P N ops K (⟨o,op,ty,pos,af,some (j,want)⟩::rest) e w:= .mk' fun a ha=>by
 have h:=hK.run a ha;have hy:=Lj (ops:=ops) ha hj eQ hv;have hw:Region.wanted (⟨o,op,ty,pos,af,some (j,want)⟩:Oper) (yielded ops a.tmps)=true:=by
  simp [Region.wanted,hy]
 unfold wpList at h|-;rw [aF hw];rw [aF (show Region.wanted (⟨o,op,ty,pos,af,none⟩:Oper) (yielded ops a.tmps)=true from rfl)]at h;exact h
theorem au{o:Option Tmp}{op:Op}(q9:((ops[j]?).bind (·.dst),Nat.blt dj N,e dj)=(some dj,true,.bool want))(hK:ao P N ops K (⟨o,op,ty,pos,af,none⟩::rest) e w):ao P N ops K (⟨o,op,ty,pos,af,some (j,want)⟩::rest) e w:=Wz (congrArg (fun p=>p.1) q9) (congrArg (fun p=>p.2.1) q9) (congrArg (fun p=>p.2.2) q9) hK
theorem WA{op:Op}{b:Bool}(hj:(ops[j]?).bind (·.dst)=some dj)(eQ:Nat.blt dj N=true)(hv:e dj= .bool b)(bL:(b==want)=false)(hb:Nat.blt d N=true)(hK:ao P N ops K rest (bj e d undef) w):ao P N ops K (⟨some d,op,ty,pos,af,some (j,want)⟩::rest) e w:= .mk' fun a ha=>by
 have hy:=Lj (ops:=ops) ha hj eQ hv;refine wpList_skip ?_ (hK.run _ (ha.put hb undef));simp only [Region.wanted];rw [hy];simpa using bL
theorem az{op:Op}{b:Bool}(q9:((ops[j]?).bind (·.dst),Nat.blt dj N,e dj,(b==want),Nat.blt d N)=(some dj,true,.bool b,false,true))(hK:ao P N ops K rest (bj e d undef) w):ao P N ops K (⟨some d,op,ty,pos,af,some (j,want)⟩::rest) e w:=WA (congrArg (fun p=>p.1) q9) (congrArg (fun p=>p.2.1) q9) (congrArg (fun p=>p.2.2.1) q9) (congrArg (fun p=>p.2.2.2.1) q9) (congrArg (fun p=>p.2.2.2.2) q9) hK
theorem cg{op:Op}(hj:(ops[j]?).bind (·.dst)=some dj)(eQ:Nat.blt dj N=true)(hv:e dj=undef)(hb:Nat.blt d N=true)(hK:ao P N ops K rest (bj e d undef) w):ao P N ops K (⟨some d,op,ty,pos,af,some (j,want)⟩::rest) e w:= .mk' fun a ha=>by
 refine wpList_skip ?_ (hK.run _ (ha.put hb undef));have h1:dj<a.tmps.size:=by rw [ha.size];simpa [Nat.blt_eq]using eQ
 have h2:=ha.get dj;rw [fU,mr h1,Option.getD_some,hv]at h2;simp [Region.wanted,yielded,hj,mr h1,h2,undef]
theorem Lb{e:Env}{v:ad}(h:e d=v):bj e d v=e:=by
 funext j;unfold bj;cases hb:Nat.beq j d with
 | false=>rfl
 | true=>rw [kz hb,h];rfl
theorem ao.split{l:List Oper}(d:Nat){b:Bool}(hv:e d= .bool b)(h1:b=true->ao P N ops K l (bj e d (.bool true)) w)(h2:b=false->ao P N ops K l (bj e d (.bool false)) w):ao P N ops K l e w:=by
 cases b
 ·have:=h2 O;rwa [Lb hv]at this
 have:=h1 O;rwa [Lb hv]at this
theorem bY{l:List Oper}(d:Nat){p:Prop}[Decidable p](hv:e d= .bool (decide p))(h1:p->ao P N ops K l (bj e d (.bool true)) w)(h2:¬p->ao P N ops K l (bj e d (.bool false)) w):ao P N ops K l e w:=
 .split d hv (fun h=>h1 (rK h)) (fun h=>h2 (of_decide_eq_false h))
def ur:Op->Option ag
 | .move x=>some x
 | .assign x=>some x
 | _=>none
theorem Uu{op:Op}(h:ur op=some x):(execOp (ev e) ⟨some d,op,ty,pos,af,none⟩).run P w= .ok (.value (ev e x)) w:=by
 cases op<;>simp [ur]at h<;>subst h<;>rfl
theorem ao.mv{op:Op}{v:ad}(mL:ur op=some x)(hx:ev e x=v)(hb:Nat.blt d N=true)(hK:ao P N ops K rest (bj e d v) w):ao P N ops K (⟨some d,op,ty,pos,af,none⟩::rest) e w:=
 .val (by rw [Uu mL,hx]) hb hK
theorem lE{op:Op}{k:IntKind}{i:Int}(mL:ur op=some x)(hx:ev e x= .int k i)(hb:Nat.blt d N=true)(hK:ao P N ops K rest (bj e d (.int k i)) w):ao P N ops K (⟨some d,op,ty,pos,af,none⟩::rest) e w:= .mv mL hx hb hK
theorem kA{op:Op}{A:aj}{n c:Nat}(mL:ur op=some x)(hx:ev e x= .slice A n c)(hb:Nat.blt d N=true)(hK:ao P N ops K rest (bj e d (.slice A n c)) w):ao P N ops K (⟨some d,op,ty,pos,af,none⟩::rest) e w:= .mv mL hx hb hK
theorem uI{op:Op}{p:aj}(mL:ur op=some x)(hx:ev e x= .pointer p)(hb:Nat.blt d N=true)(hK:ao P N ops K rest (bj e d (.pointer p)) w):ao P N ops K (⟨some d,op,ty,pos,af,none⟩::rest) e w:= .mv mL hx hb hK
theorem L6{op:Op}{cs:Array ad}(mL:ur op=some x)(hx:ev e x= .tuple cs)(hb:Nat.blt d N=true)(hK:ao P N ops K rest (bj e d (.tuple cs)) w):ao P N ops K (⟨some d,op,ty,pos,af,none⟩::rest) e w:= .mv mL hx hb hK
section
variable {x y:ag} {xt yt:ae} {i j:Int}
theorem WG(hx:ev e x=ak i)(hy:ev e y=ak j)(hb:Nat.blt d N=true)(hr: -9223372036854775808<=i+j/\i+j<=9223372036854775807)(hK:ao P N ops K rest (bj e d (ak (i+j))) w):
 ao P N ops K (⟨some d,.binOp .add xt x y yt,ty,pos,af,none⟩::rest) e w:=
 .val (by simp [execOp,hx,hy,eqGuard,binOp,Op.intArith,IntWalk.i64_in _ hr]) hb hK
theorem aK(q9:(ev e x,ev e y,Nat.blt d N)=(ak i,ak j,true))(hK:ao P N ops K rest (bj e d (ak (i+j))) w)(hr:-9223372036854775808<=i+j/\i+j<=9223372036854775807:=by omega):ao P N ops K (⟨some d,.binOp .add xt x y yt,ty,pos,af,none⟩::rest) e w:=WG (congrArg (fun p=>p.1) q9) (congrArg (fun p=>p.2.1) q9) (congrArg (fun p=>p.2.2) q9) hr hK
theorem WE(hx:ev e x=ak i)(hy:ev e y=ak j)(hb:Nat.blt d N=true)(hr: -9223372036854775808<=i - j/\i - j<=9223372036854775807)(hK:ao P N ops K rest (bj e d (ak (i - j))) w):
 ao P N ops K (⟨some d,.binOp .sub xt x y yt,ty,pos,af,none⟩::rest) e w:=
 .val (by simp [execOp,hx,hy,eqGuard,binOp,Op.intArith,IntWalk.i64_in _ hr]) hb hK
theorem dA(q9:(ev e x,ev e y,Nat.blt d N)=(ak i,ak j,true))(hK:ao P N ops K rest (bj e d (ak (i - j))) w)(hr:-9223372036854775808<=i - j/\i - j<=9223372036854775807:=by omega):ao P N ops K (⟨some d,.binOp .sub xt x y yt,ty,pos,af,none⟩::rest) e w:=WE (congrArg (fun p=>p.1) q9) (congrArg (fun p=>p.2.1) q9) (congrArg (fun p=>p.2.2) q9) hr hK
theorem ao.mul(hx:ev e x=ak i)(hy:ev e y=ak j)(hb:Nat.blt d N=true)(hr: -9223372036854775808<=i*j/\i*j<=9223372036854775807)(hK:ao P N ops K rest (bj e d (ak (i*j))) w):
 ao P N ops K (⟨some d,.binOp .mul xt x y yt,ty,pos,af,none⟩::rest) e w:=
 .val (by simp [execOp,hx,hy,eqGuard,binOp,Op.intArith,IntWalk.i64_in _ hr]) hb hK
theorem ao.quo(hx:ev e x=ak i)(hy:ev e y=ak j)(hb:Nat.blt d N=true)(hr:0<=i/\i<=9223372036854775807/\1<=j)(hK:ao P N ops K rest (bj e d (ak (i / j))) w):
 ao P N ops K (⟨some d,.binOp .quo xt x y yt,ty,pos,af,none⟩::rest) e w:=
 .val (by simp [execOp,hx,hy,eqGuard,binOp,Op.intDiv,IntWalk.i64_quo _ _ hr,show j≠0 by omega]) hb hK
theorem ao.rem(hx:ev e x=ak i)(hy:ev e y=ak j)(hb:Nat.blt d N=true)(hr:0<=i/\1<=j)(hK:ao P N ops K rest (bj e d (ak (i%j))) w):
 ao P N ops K (⟨some d,.binOp .rem xt x y yt,ty,pos,af,none⟩::rest) e w:=
 .val (by simp [execOp,hx,hy,eqGuard,binOp,Op.intDiv,Int.tmod_eq_emod_of_nonneg hr.1,show j≠0 by omega]) hb hK
theorem ao.lss{k:IntKind}(hx:ev e x= .int k i)(hy:ev e y= .int k j)(hb:Nat.blt d N=true)(hK:ao P N ops K rest (bj e d (.bool (decide (i<j)))) w):
 ao P N ops K (⟨some d,.binOp .lss xt x y yt,ty,pos,af,none⟩::rest) e w:= .val (by simp [execOp,hx,hy,eqGuard,binOp,Op.intCmp]) hb hK
theorem ao.leq{k:IntKind}(hx:ev e x= .int k i)(hy:ev e y= .int k j)(hb:Nat.blt d N=true)(hK:ao P N ops K rest (bj e d (.bool (decide (i<=j)))) w):
 ao P N ops K (⟨some d,.binOp .leq xt x y yt,ty,pos,af,none⟩::rest) e w:= .val (by simp [execOp,hx,hy,eqGuard,binOp,Op.intCmp]) hb hK
theorem ao.gtr{k:IntKind}(hx:ev e x= .int k i)(hy:ev e y= .int k j)(hb:Nat.blt d N=true)(hK:ao P N ops K rest (bj e d (.bool (decide (j<i)))) w):
 ao P N ops K (⟨some d,.binOp .gtr xt x y yt,ty,pos,af,none⟩::rest) e w:= .val (by simp [execOp,hx,hy,eqGuard,binOp,Op.intCmp]) hb hK
theorem ao.geq{k:IntKind}(hx:ev e x= .int k i)(hy:ev e y= .int k j)(hb:Nat.blt d N=true)(hK:ao P N ops K rest (bj e d (.bool (decide (j<=i)))) w):
 ao P N ops K (⟨some d,.binOp .geq xt x y yt,ty,pos,af,none⟩::rest) e w:= .val (by simp [execOp,hx,hy,eqGuard,binOp,Op.intCmp]) hb hK
theorem MN(i j:Int):(i==j)=decide (i=j):=by by_cases h:i=j<;>simp [h]
theorem MT(i j:Int):(i !=j)=decide (¬i=j):=by by_cases h:i=j<;>simp [h]
theorem ao.eql{k:IntKind}(hx:ev e x= .int k i)(hy:ev e y= .int k j)(hb:Nat.blt d N=true)(hK:ao P N ops K rest (bj e d (.bool (decide (i=j)))) w):
 ao P N ops K (⟨some d,.binOp .eql xt x y yt,ty,pos,af,none⟩::rest) e w:= .val (by rw [<-MN];simp [execOp,hx,hy,eqGuard,binOp,Op.intCmp]) hb hK
theorem ao.neq{k:IntKind}(hx:ev e x= .int k i)(hy:ev e y= .int k j)(hb:Nat.blt d N=true)(hK:ao P N ops K rest (bj e d (.bool (decide (¬i=j)))) w):
 ao P N ops K (⟨some d,.binOp .neq xt x y yt,ty,pos,af,none⟩::rest) e w:= .val (by rw [<-MT];simp [execOp,hx,hy,eqGuard,binOp,Op.intCmp]) hb hK
theorem eF{b:Bool}(hx:ev e x= .bool b)(hb:Nat.blt d N=true)(hK:ao P N ops K rest (bj e d (.bool (!b))) w):
 ao P N ops K (⟨some d,.unOp .not xt x,ty,pos,af,none⟩::rest) e w:= .val (by simp [execOp,hx,Op.unary]) hb hK
theorem dk{p:Prop}[Decidable p](hx:ev e x= .bool (decide p))(hb:Nat.blt d N=true)(hK:ao P N ops K rest (bj e d (.bool (decide ¬p))) w):
 ao P N ops K (⟨some d,.unOp .not xt x,ty,pos,af,none⟩::rest) e w:= .val (by simp [execOp,hx,Op.unary]) hb hK
theorem ao.TW{c:ag}{b:Bool}(hc:ev e c= .bool true)(hx:ev e x= .bool b)(hb:Nat.blt d N=true)(hK:ao P N ops K rest (bj e d (.bool b)) w):
 ao P N ops K (⟨some d,.pick c x y,ty,pos,af,none⟩::rest) e w:= .val (by simp [execOp,hc,hx,asBool]) hb hK
theorem ao.TU{c:ag}{b:Bool}(hc:ev e c= .bool false)(hx:ev e y= .bool b)(hb:Nat.blt d N=true)(hK:ao P N ops K rest (bj e d (.bool b)) w):
 ao P N ops K (⟨some d,.pick c x y,ty,pos,af,none⟩::rest) e w:= .val (by simp [execOp,hc,hx,asBool]) hb hK
end
theorem ao.extract{x:ag}{vs:Array ad}{ix:Nat}{v:ad}(hx:ev e x= .tuple vs)(hv:vs[ix]?=some v)(hb:Nat.blt d N=true)(hK:ao P N ops K rest (bj e d v) w):
 ao P N ops K (⟨some d,.extract x ix,ty,pos,af,none⟩::rest) e w:= .val (by simp [execOp,hx,Instr.extract,hv]) hb hK
theorem ba{x:ag}{t el:ae}{A:aj}{n c:Nat}[bG P t (.slice el)](hx:ev e x= .slice A n c)(hb:Nat.blt d N=true)(hK:ao P N ops K rest (bj e d (ak n)) w):
 ao P N ops K (⟨some d,.call ⟨.builtin .len, #[x], #[t]⟩,ty,pos,af,none⟩::rest) e w:=
 .val (by simp [execOp,resolve,invoke,builtin,Builtin.len_,hx,run_underlying (bG.out (P:=P) (t:=t)),goInt]) hb hK
theorem ao.Tw{x:ag}{a:Addr}(hx:ev e x= .pointer (some a))(hb:Nat.blt d N=true)(hK:ao P N ops K rest (bj e d (.pointer (some a))) w):
 ao P N ops K (⟨some d,.nilCheck x,ty,pos,af,none⟩::rest) e w:= .val (by simp [execOp,hx]) hb hK
def aJ(P:Program)(F:FuncId)(vs:List ad)(w:aa)(R:ad->aa->Prop):Prop:=Calls P F vs.toArray w fun x w'=>∃v,x= .returned v/\R v w'
theorem aJ.mono{F:FuncId}{vs:List ad}{R R':ad->aa->Prop}(h:aJ P F vs w R)(hR:∀v w',R v w'->R' v w'):aJ P F vs w R':=
 Calls.mono h fun _ _ ⟨v,he,hv⟩=> ⟨v,he,hR _ _ hv⟩
theorem WD{f:ag}{F:FuncId}{c2:Array ad}{l:List ag}{vs:List ad}{R:ad->aa->Prop}{Gu:Array ae}[hF:bC P F](hC:aJ P F vs w R)(hf:ev e f= .func (.func F) #[] c2)(hv:l.map (ev e)++c2.toList=vs)(hb:Nat.blt d N=true)(hK:∀v w',R v w'->ao P N ops K rest (bj e d v) w'):ao P N ops K (⟨some d,.call ⟨.value f,l.toArray,Gu⟩,ty,pos,af,none⟩::rest) e w:= .mk' fun a ha=>by
 obtain⟨fn,h1,h2,h3⟩:=hF.out;have po:(execOp (ev e) ⟨some d,.call ⟨.value f,l.toArray,Gu⟩,ty,pos,af,none⟩).run P w= .ok (.enter F vs.toArray) w:=by
  have h4:(l.toArray.map (ev e)++c2)=vs.toArray:=by
   rw [<-hv];simp
  have h5 : ¬ fn.name = "runtime.NumGoroutine" := by simpa using h2
  have h6:¬fn.body=none:=by intro h;rw [h]at h3;cases h3
  simp [execOp,resolve,hf,Deferred.ofValue,invoke,callFunc,h1,h5,h6];exact hv
 refine wpList_plain O fun J hJ=>?_
 unfold Oper.wp;rw [ha.eval,po];refine Calls.mono hC fun x w' ⟨v,hx,hR⟩=>?_
 subst hx;exact hJ _ _ ((hK v w' hR).run _ (ha.put hb v))
theorem aI{f:ag}{F:FuncId}{c2:Array ad}{l:List ag}{vs:List ad}{R:ad->aa->Prop}{Gu:Array ae}[hF:bC P F](hC:aJ P F vs w R)(q9:(ev e f,l.map (ev e)++c2.toList,Nat.blt d N)=(.func (.func F) #[] c2,vs,true))(hK:∀v w',R v w'->ao P N ops K rest (bj e d v) w'):ao P N ops K (⟨some d,.call ⟨.value f,l.toArray,Gu⟩,ty,pos,af,none⟩::rest) e w:=WD hC (congrArg (fun p=>p.1) q9) (congrArg (fun p=>p.2.1) q9) (congrArg (fun p=>p.2.2) q9) hK
theorem tQ{K:Env->aa->Prop}{Q:gu}(h:K e w):uA K Q .normal e w:=h
theorem dN{K:Env->aa->Prop}{Q:gu}(h:Q .ret e w):uA K Q .ret e w:=h
theorem bm{K:Env->aa->Prop}{Q:gu}{id:Nat}(h:Q (.exit id) e w):uA K Q (.exit id) e w:=h
def Cr(vs:List ad):Env:=fun i=>vs.getD i undef
def Fv(R:ad->aa->Prop):gu
 | .normal,_,w=>R (.tuple #[]) w
 | .ret,_,w=>R (.tuple #[]) w
 | _,_,_=>False
def yy(t:Nat)(R:ad->aa->Prop):gu
 | .normal,e,w=>R (e t) w
 | .ret,e,w=>R (e t) w
 | _,_,_=>False
def vU(t u:Nat)(R:ad->aa->Prop):gu
 | .normal,e,w=>R (.tuple #[e t,e u]) w
 | .ret,e,w=>R (.tuple #[e t,e u]) w
 | _,_,_=>False
theorem Uf(vs:List ad)(n:Nat)(h:Nat.ble vs.length n=true):gC n ⟨vs.toArray++Array.replicate (n - vs.toArray.size) undef,[]⟩ (Cr vs):=by
 have h':vs.length<=n:=by simpa using h
 refine⟨O,by simp;omega,fun i=>?_⟩;simp only [Cr];rw [fU,cz,Array.getElem?_append]
 split
 ·simp
 rename_i hi;simp at hi;rw [oX hi,Array.getElem?_replicate]
 split<;>rfl
theorem cH{R:ad->aa->Prop}{t:Nat}{b:Bool}(h:e t= .bool b)(hR:R (.bool b) w):yy t R .ret e w:=by show R (e t) w;rw [h];exact hR
theorem kN{R:ad->aa->Prop}{t:Nat}{k:IntKind}{i:Int}(h:e t= .int k i)(hR:R (.int k i) w):yy t R .ret e w:=by show R (e t) w;rw [h];exact hR
theorem eW{R:ad->aa->Prop}{t:Nat}{A:aj}{n c:Nat}(h:e t= .slice A n c)(hR:R (.slice A n c) w):yy t R .ret e w:=by show R (e t) w;rw [h];exact hR
theorem BF{R:ad->aa->Prop}{t:Nat}{v:ad}(h:e t=v)(hR:R v w):yy t R .ret e w:=by show R (e t) w;rw [h];exact hR
theorem Ui{R:ad->aa->Prop}(hR:R (.tuple #[]) w):Fv R .ret e w:=hR
theorem Uh{R:ad->aa->Prop}(hR:R (.tuple #[]) w):Fv R .normal e w:=hR
theorem mQ{R:ad->aa->Prop}{t u:Nat}{A:aj}{n c:Nat}{k:IntKind}{i:Int}(h:e t= .slice A n c)(h2:e u= .int k i)(hR:R (.tuple #[.slice A n c,.int k i]) w):vU t u R .ret e w:=by show R (.tuple #[e t,e u]) w;rw [h,h2];exact hR
theorem KG{R:ad->aa->Prop}{t u:Nat}{k':IntKind}{j:Int}{k:IntKind}{i:Int}(h:e t= .int k' j)(h2:e u= .int k i)(hR:R (.tuple #[.int k' j,.int k i]) w):vU t u R .ret e w:=by show R (.tuple #[e t,e u]) w;rw [h,h2];exact hR
theorem nP{R:ad->aa->Prop}{t u:Nat}{b:Bool}{k:IntKind}{i:Int}(h:e t= .bool b)(h2:e u= .int k i)(hR:R (.tuple #[.bool b,.int k i]) w):vU t u R .ret e w:=by show R (.tuple #[e t,e u]) w;rw [h,h2];exact hR
theorem Uj{R:ad->aa->Prop}{t u:Nat}{A:aj}{n c:Nat}{b:Bool}(h:e t= .slice A n c)(h2:e u= .bool b)(hR:R (.tuple #[.slice A n c,.bool b]) w):vU t u R .ret e w:=by show R (.tuple #[e t,e u]) w;rw [h,h2];exact hR
theorem br{F:FuncId}{fn:Func}{c:Code}{vs:List ad}{R:ad->aa->Prop}{Q:gu}(hf:P.funcs[F]?=some fn)(hc:fn.body=some c)(hn:fn.ntmps=N)(hl:Nat.ble vs.length N=true)(hQ:∀x a e w,gC N a e->Q x e w->bodyPost P fn (fun x w'=>∃v,x= .returned v/\R v w') x a w)(h:Cd P N c Q (Cr vs) w):aJ P F vs w R:=by
 subst hn;exact calls_of_wp hf hc (wp_mono (h.run _ (Uf vs _ hl)) fun x a w ⟨e,he,q⟩=>hQ x a e w he q)
theorem T6{fn:Func}{R:ad->aa->Prop}(hr:fn.results= #[]):∀x a e w,gC N a e->Fv R x e w->bodyPost P fn (fun x w'=>∃v,x= .returned v/\R v w') x a w:=by
 intro x a e w he q;cases x<;>first
  | exact q.elim
  | exact⟨he.defers,_,results_none hr _ _ _,_,rfl,q⟩
theorem cw{fn:Func}{R:ad->aa->Prop}{t:Nat}(hr:fn.results= #[.tmp t]):∀x a e w,gC N a e->yy t R x e w->bodyPost P fn (fun x w'=>∃v,x= .returned v/\R v w') x a w:=by
 intro x a e w he q;have hg:=he.get t;cases x<;>first
  | exact q.elim
  | exact⟨he.defers,_,results_tmp hr _ _ _,_,rfl,by rw [hg];exact q⟩
theorem jw{fn:Func}{R:ad->aa->Prop}{t u:Nat}(hr:fn.results= #[.tmp t,.tmp u]):∀x a e w,gC N a e->vU t u R x e w->bodyPost P fn (fun x w'=>∃v,x= .returned v/\R v w') x a w:=by
 intro x a e w he q;have hg:=he.get t;have hh:=he.get u;cases x<;>first
  | exact q.elim
  | exact⟨he.defers,_,results_tmp2 hr _ _ _,_,rfl,by rw [hg,hh];exact q⟩
end
def hd:ad->Option ad
 | .int k n=>some (.int k n)
 | .slice a n c=>some (.slice a n c)
 | .bool b=>some (.bool b)
 | .pointer a=>some (.pointer a)
 | .agg cs=>some (.agg cs)
 | .func f a b=>some (.func f a b)
 | .tuple cs=>some (.tuple cs)
 | .string s=>some (.string s)
 | .map r=>some (.map r)
 | _=>none
theorem D8{v u:ad}(h:hd v=some u):v=u:=by cases v<;>simp [hd]at h<;>exact h
def E7(e:Env)(x y:ag):Option ad:=
 match ev e x,ev e y with
 | .int .i64 a,.int .i64 b=>some (.bool (decide (a<b)))
 | _,_=>none
theorem SX{e:Env}{x y:ag}{v:ad}(h:E7 e x y=some v):∃a b,ev e x=ak a/\ev e y=ak b/\v= .bool (decide (a<b)):=by
 unfold E7 at h
 split at h
 ·rename_i a b h1 h2;exact⟨a,b,h1,h2,(bV h).symm⟩
 cases h
def E6(e:Env)(x y:ag):Option ad:=
 match ev e x,ev e y with
 | .int .i64 a,.int .i64 b=>some (.bool (decide (a<=b)))
 | _,_=>none
theorem SP{e:Env}{x y:ag}{v:ad}(h:E6 e x y=some v):∃a b,ev e x=ak a/\ev e y=ak b/\v= .bool (decide (a<=b)):=by
 unfold E6 at h
 split at h
 ·rename_i a b h1 h2;exact⟨a,b,h1,h2,(bV h).symm⟩
 cases h
def Dd(e:Env)(x y:ag):Option ad:=
 match ev e x,ev e y with
 | .int .i64 a,.int .i64 b=>some (.bool (decide (b<a)))
 | _,_=>none
theorem Ov{e:Env}{x y:ag}{v:ad}(h:Dd e x y=some v):∃a b,ev e x=ak a/\ev e y=ak b/\v= .bool (decide (b<a)):=by
 unfold Dd at h
 split at h
 ·rename_i a b h1 h2;exact⟨a,b,h1,h2,(bV h).symm⟩
 cases h
def C3(e:Env)(x y:ag):Option ad:=
 match ev e x,ev e y with
 | .int .i64 a,.int .i64 b=>some (.bool (decide (b<=a)))
 | _,_=>none
theorem Oh{e:Env}{x y:ag}{v:ad}(h:C3 e x y=some v):∃a b,ev e x=ak a/\ev e y=ak b/\v= .bool (decide (b<=a)):=by
 unfold C3 at h
 split at h
 ·rename_i a b h1 h2;exact⟨a,b,h1,h2,(bV h).symm⟩
 cases h
def CT(e:Env)(x y:ag):Option ad:=
 match ev e x,ev e y with
 | .int .i64 a,.int .i64 b=>some (.bool (decide (a=b)))
 | _,_=>none
theorem NK{e:Env}{x y:ag}{v:ad}(h:CT e x y=some v):∃a b,ev e x=ak a/\ev e y=ak b/\v= .bool (decide (a=b)):=by
 unfold CT at h
 split at h
 ·rename_i a b h1 h2;exact⟨a,b,h1,h2,(bV h).symm⟩
 cases h
def Ff(e:Env)(x y:ag):Option ad:=
 match ev e x,ev e y with
 | .int .i64 a,.int .i64 b=>some (.bool (decide (¬a=b)))
 | _,_=>none
theorem Tv{e:Env}{x y:ag}{v:ad}(h:Ff e x y=some v):∃a b,ev e x=ak a/\ev e y=ak b/\v= .bool (decide (¬a=b)):=by
 unfold Ff at h
 split at h
 ·rename_i a b h1 h2;exact⟨a,b,h1,h2,(bV h).symm⟩
 cases h
def FG(e:Env):Op->Option ad
 | .move x=>hd (ev e x)
 | .assign x=>hd (ev e x)
 | .binOp .lss _ x y _=>E7 e x y
 | .binOp .leq _ x y _=>E6 e x y
 | .binOp .gtr _ x y _=>Dd e x y
 | .binOp .geq _ x y _=>C3 e x y
 | .binOp .eql _ x y _=>CT e x y
 | .binOp .neq _ x y _=>Ff e x y
 | .extract x i=>match ev e x with
  | .tuple vs=> (match vs[i]? with
   | some v=>hd v
   | none=>none)
  | _=>none
 | .pick c x y=>match ev e c with
  | .bool true=> (match ev e x with
   | .bool b=>some (.bool b)
   | _=>none)
  | .bool false=> (match ev e y with
   | .bool b=>some (.bool b)
   | _=>none)
  | _=>none
 | _=>none
def nS(N:Nat)(e:Env)(o:Oper):Option (Nat×ad):=
 match o.guard,o.dst with
 | none,some d=> (match Nat.blt d N with
  | true=> (match FG e o.op with
   | some v=>some (d,v)
   | none=>none)
  | false=>none)
 | _,_=>none
def uM(N:Nat):List Oper->Env->List Oper×Env
 | [],e=> ([],e)
 | o::l,e=>match nS N e o with
  | some (d,v)=>uM N l (bj e d v)
  | none=> (o::l,e)
section
variable {P:Program} {N:Nat} {ops:Array Oper} {K:Env->aa->Prop} {e:Env} {w:aa}
theorem ao.nS{o:Oper}{l:List Oper}{d:Nat}{v:ad}(h:nS N e o=some (d,v))(hK:ao P N ops K l (bj e d v) w):ao P N ops K (o::l) e w:=by
 obtain⟨dst,op,ty,pos,af,gd⟩:=o;unfold Vc.nS at h
 split at h
 ·rename_i d' hg vj;simp only at hg vj;subst hg vj
  split at h
  ·rename_i hb
   split at h
   ·rename_i v' hv;simp only [lF,Prod.mk.injEq]at h;obtain⟨rfl,rfl⟩:=h;replace hv:FG e op=some v':=hv;unfold FG at hv
    split at hv
    ·exact .mv O (D8 hv) hb hK
    ·exact .mv O (D8 hv) hb hK
    ·obtain⟨a,b,h1,h2,rfl⟩:=SX hv;exact .lss h1 h2 hb hK
    ·obtain⟨a,b,h1,h2,rfl⟩:=SP hv;exact .leq h1 h2 hb hK
    ·obtain⟨a,b,h1,h2,rfl⟩:=Ov hv;exact .gtr h1 h2 hb hK
    ·obtain⟨a,b,h1,h2,rfl⟩:=Oh hv;exact .geq h1 h2 hb hK
    ·obtain⟨a,b,h1,h2,rfl⟩:=NK hv;exact .eql h1 h2 hb hK
    ·obtain⟨a,b,h1,h2,rfl⟩:=Tv hv;exact .neq h1 h2 hb hK
    ·split at hv
     ·rename_i h1
      split at hv
      ·rename_i h2;exact .extract h1 (by rw [h2,D8 hv]) hb hK
      cases hv
     cases hv
    ·split at hv
     ·rename_i h1
      split at hv
      ·rename_i b h2;obtain rfl:=bV hv;exact .TW h1 h2 hb hK
      cases hv
     ·rename_i h1
      split at hv
      ·rename_i b h2;obtain rfl:=bV hv;exact .TU h1 h2 hb hK
      cases hv
     cases hv
    cases hv
   cases h
  cases h
 cases h
theorem Cn:∀ {l:List Oper} {e:Env},ao P N ops K (uM N l e).1 (uM N l e).2 w->ao P N ops K l e w
 | [],_,h=>h
 | o::l,e,h=>by
  unfold uM at h
  split at h
  ·rename_i d v hs;exact .nS hs (Cn h)
  ·exact h
end
inductive Fr where
 | s (c:Code)
 | b (id:Nat)
def Qk(P:Program)(N:Nat)(Q:gu):List Fr->gu
 | []=>Q
 | .s y::r=>uA (Cd P N y (Qk P N Q r)) (Qk P N Q r)
 | .b id::r=>Cw id (Qk P N Q r)
def vS:List Fr->Option (Code×List Fr)
 | []=>none
 | .s y::r=>some (y,r)
 | .b _::r=>vS r
def vT(id:Nat):List Fr->Option (List Fr)
 | []=>none
 | .s _::r=>vT id r
 | .b i::r=>match Nat.beq id i with
  | true=>some r
  | false=>vT id r
inductive uL where
 | c (c:Code) (s:List Fr) (e:Env)
 | o (ops:Array Oper) (l:List Oper) (s:List Fr) (e:Env)
 | n (e:Env)
 | r (e:Env)
 | x (id:Nat) (e:Env)
def uL.ok(P:Program)(N:Nat)(Q:gu)(w:aa):uL->Prop
 | .c y s e=>Cd P N y (Qk P N Q s) e w
 | .o ops l s e=>ao P N ops (fun e w=>Qk P N Q s .normal e w) l e w
 | .n e=>Q .normal e w
 | .r e=>Q .ret e w
 | .x id e=>Q (.exit id) e w
def run(N:Nat):Nat->Code->List Fr->Env->uL
 | 0,c,s,e=> .c c s e
 | n+1,c,s,e=>match c with
  | .seq x y=>run N n x (.s y::s) e
  | .block id x=>run N n x (.b id::s) e
  | .region id ops dr=>match dr with
   | true=> .c (.region id ops true) s e
   | false=>match uM N ops.toList e with
    | ([],e')=> (match vS s with
     | none=> .n e'
     | some (y,r)=>run N n y r e')
    | (o::l,e')=> .o ops (o::l) s e'
  | .skip=> (match vS s with
   | none=> .n e
   | some (y,r)=>run N n y r e)
  | .ret=> .r e
  | .exit id=> (match vT id s with
   | none=> .x id e
   | some s'=> (match vS s' with
    | none=> .n e
    | some (y,r)=>run N n y r e))
  | c=> .c c s e
def runN(N n:Nat)(s:List Fr)(e:Env):uL:=match vS s with
 | none=> .n e
 | some (y,r)=>run N n y r e
def vZ(N n id:Nat)(s:List Fr)(e:Env):uL:=match vT id s with
 | none=> .x id e
 | some s'=>runN N n s' e
def uw(N n:Nat)(ops:Array Oper)(l:List Oper)(s:List Fr)(e:Env):uL:=match uM N l e with
 | ([],e')=>runN N n s e'
 | (o::l,e')=> .o ops (o::l) s e'
section
variable{id i1 i:Nat}{ops o1:Array Oper}{s1:List Fr}{e1:Env}{l1:List Oper}{c1:Code}
variable {P:Program} {N:Nat} {Q:gu} {e:Env} {w:aa}
theorem yx:∀ {s:List Fr},(match vS s with | none=>Q .normal e w | some (y,r)=>Cd P N y (Qk P N Q r) e w)->Qk P N Q s .normal e w
 | [],h=>h
 | .s _::_,h=>h
 | .b _::r,h=>yx (s:=r) h
theorem Bz{id:Nat}:∀ {s:List Fr},(match vT id s with | none=>Q (.exit id) e w | some r=>Qk P N Q r .normal e w)->Qk P N Q s (.exit id) e w
 | [],h=>h
 | .s _::r,h=>Bz (s:=r) h
 | .b i::r,h=>by
  unfold vT at h;show(if id=i then _ else _);cases hb:Nat.beq id i with
  | true=>rw [aF (kz hb)];rw [hb]at h;exact h
  | false=>
   rw [aC (fun e=>by rw [e,Nat.beq_refl]at hb;cases hb)];rw [hb]at h;exact Bz (s:=r) h
theorem dE:∀ {s:List Fr},Q .ret e w->Qk P N Q s .ret e w
 | [],h=>h
 | .s _::r,h=>dE (s:=r) h
 | .b _::r,h=>dE (s:=r) h
theorem Cd.Ud{Q:gu}(h:ao P N ops (fun e w=>Q .normal e w) ops.toList e w):Cd P N (.region id ops false) Q e w:=by
 have:=Cd.region (P:=P) (N:=N) (Q:=Q) (id:=id) (l:=ops.toList) (e:=e) (w:=w) (by rw [Array.toArray_toList];exact h)
 rwa [Array.toArray_toList]at this
theorem lS:∀ {n:Nat} {c:Code} {s:List Fr} {e:Env},(run N n c s e).ok P N Q w->Cd P N c (Qk P N Q s) e w
 | 0,_,_,_,h=>h
 | n+1,c,s,e,h=>by
  unfold run at h
  split at h
  ·exact .seq (lS h)
  ·exact .block (lS h)
  ·split at h
   ·exact h
   ·refine .Ud (Cn ?_)
    split at h
    ·rename_i he;rw [he];refine ao.n (yx ?_)
     split at h
     ·exact h
     ·exact lS h
    ·rename_i he;rw [he];exact h
  ·refine .skip (yx ?_)
   split at h
   ·exact h
   ·exact lS h
  ·exact .ret (dE h)
  ·refine .exit (Bz ?_)
   split at h
   ·exact h
   ·refine yx ?_
    split at h
    ·exact h
    ·exact lS h
  ·exact h
theorem vY{n:Nat}{s:List Fr}{e:Env}(h:(runN N n s e).ok P N Q w):Qk P N Q s .normal e w:=by
 unfold runN at h;refine yx ?_
 split at h
 ·exact h
 exact lS h
theorem BM{n:Nat}{s:List Fr}{e:Env}(h:(vZ N n id s e).ok P N Q w):Qk P N Q s (.exit id) e w:=by
 unfold vZ at h;refine Bz ?_
 split at h
 ·exact h
 exact vY h
theorem yC{n:Nat}{l:List Oper}{s:List Fr}{e:Env}(h:(uw N n ops l s e).ok P N Q w):ao P N ops (fun e w=>Qk P N Q s .normal e w) l e w:=by
 unfold uw at h;refine Cn ?_
 split at h
 ·rename_i he;rw [he];exact ao.n (vY h)
 rename_i he;rw [he];exact h
theorem Ci{s:List Fr}{F:List (Nat×ad)}(hM:Mt e F)(h:Qk P N Q s .normal (ext e F) w):Qk P N Q s .normal e w:=by rwa [sb hM]at h
theorem df{c:Code}{s:List Fr}(h:run N 1000 c s e= .c c1 s1 e1)(k:Cd P N c1 (Qk P N Q s1) e1 w):Cd P N c (Qk P N Q s) e w:=lS (n:=1000) (by rw [h];exact k)
theorem aG{c:Code}{s:List Fr}(h:run N 1000 c s e= .o o1 l1 s1 e1)(k:ao P N o1 (fun e w=>Qk P N Q s1 .normal e w) l1 e1 w):Cd P N c (Qk P N Q s) e w:=lS (n:=1000) (by rw [h];exact k)
theorem wm{c:Code}{s:List Fr}(h:run N 1000 c s e= .n e1)(k:Q .normal e1 w):Cd P N c (Qk P N Q s) e w:=lS (n:=1000) (by rw [h];exact k)
theorem du{c:Code}{s:List Fr}(h:run N 1000 c s e= .r e1)(k:Q .ret e1 w):Cd P N c (Qk P N Q s) e w:=lS (n:=1000) (by rw [h];exact k)
theorem bk{c:Code}{s:List Fr}(h:run N 1000 c s e= .x i1 e1)(k:Q (.exit i1) e1 w):Cd P N c (Qk P N Q s) e w:=lS (n:=1000) (by rw [h];exact k)
theorem wk(n:Nat){c:Code}{s:List Fr}(h:run N n c s e= .c c1 s1 e1)(k:Cd P N c1 (Qk P N Q s1) e1 w):Cd P N c (Qk P N Q s) e w:=lS (n:=n) (by rw [h];exact k)
theorem bX{c:Code}(h:run N 1000 c [] e= .c c1 s1 e1)(k:Cd P N c1 (Qk P N Q s1) e1 w):Cd P N c Q e w:=lS (s:=[]) (n:=1000) (by rw [h];exact k)
theorem a8{c:Code}(h:run N 1000 c [] e= .o o1 l1 s1 e1)(k:ao P N o1 (fun e w=>Qk P N Q s1 .normal e w) l1 e1 w):Cd P N c Q e w:=lS (s:=[]) (n:=1000) (by rw [h];exact k)
theorem F1{c:Code}(h:run N 1000 c [] e= .r e1)(k:Q .ret e1 w):Cd P N c Q e w:=lS (s:=[]) (n:=1000) (by rw [h];exact k)
theorem LG(n:Nat){c:Code}(h:run N n c [] e= .c c1 s1 e1)(k:Cd P N c1 (Qk P N Q s1) e1 w):Cd P N c Q e w:=lS (s:=[]) (n:=n) (by rw [h];exact k)
theorem aE{l:List Oper}{s:List Fr}(h:uw N 1000 ops l s e= .c c1 s1 e1)(k:Cd P N c1 (Qk P N Q s1) e1 w):ao P N ops (fun e w=>Qk P N Q s .normal e w) l e w:=yC (n:=1000) (by rw [h];exact k)
theorem ar{l:List Oper}{s:List Fr}(h:uw N 1000 ops l s e= .o o1 l1 s1 e1)(k:ao P N o1 (fun e w=>Qk P N Q s1 .normal e w) l1 e1 w):ao P N ops (fun e w=>Qk P N Q s .normal e w) l e w:=yC (n:=1000) (by rw [h];exact k)
theorem aR{l:List Oper}{s:List Fr}(h:uw N 1000 ops l s e= .n e1)(k:Q .normal e1 w):ao P N ops (fun e w=>Qk P N Q s .normal e w) l e w:=yC (n:=1000) (by rw [h];exact k)
theorem bI{l:List Oper}{s:List Fr}(h:uw N 1000 ops l s e= .r e1)(k:Q .ret e1 w):ao P N ops (fun e w=>Qk P N Q s .normal e w) l e w:=yC (n:=1000) (by rw [h];exact k)
theorem yQ(n:Nat){l:List Oper}{s:List Fr}(h:uw N n ops l s e= .c c1 s1 e1)(k:Cd P N c1 (Qk P N Q s1) e1 w):ao P N ops (fun e w=>Qk P N Q s .normal e w) l e w:=yC (n:=n) (by rw [h];exact k)
theorem fq{s:List Fr}(h:runN N 1000 s e= .c c1 s1 e1)(k:Cd P N c1 (Qk P N Q s1) e1 w):Qk P N Q s .normal e w:=vY (n:=1000) (by rw [h];exact k)
theorem gZ{s:List Fr}(h:runN N 1000 s e= .o o1 l1 s1 e1)(k:ao P N o1 (fun e w=>Qk P N Q s1 .normal e w) l1 e1 w):Qk P N Q s .normal e w:=vY (n:=1000) (by rw [h];exact k)
theorem F2{s:List Fr}(h:runN N 1000 s e= .n e1)(k:Q .normal e1 w):Qk P N Q s .normal e w:=vY (n:=1000) (by rw [h];exact k)
theorem B7{s:List Fr}(h:runN N 1000 s e= .r e1)(k:Q .ret e1 w):Qk P N Q s .normal e w:=vY (n:=1000) (by rw [h];exact k)
theorem mw{s:List Fr}(h:vZ N 1000 i s e= .c c1 s1 e1)(k:Cd P N c1 (Qk P N Q s1) e1 w):Qk P N Q s (.exit i) e w:=BM (n:=1000) (by rw [h];exact k)
theorem ct{s:List Fr}(h:vZ N 1000 i s e= .o o1 l1 s1 e1)(k:ao P N o1 (fun e w=>Qk P N Q s1 .normal e w) l1 e1 w):Qk P N Q s (.exit i) e w:=BM (n:=1000) (by rw [h];exact k)
theorem F3{s:List Fr}(h:vZ N 1000 i s e= .n e1)(k:Q .normal e1 w):Qk P N Q s (.exit i) e w:=BM (n:=1000) (by rw [h];exact k)
theorem fA{s:List Fr}(h:vZ N 1000 i s e= .r e1)(k:Q .ret e1 w):Qk P N Q s (.exit i) e w:=BM (n:=1000) (by rw [h];exact k)
end
def Mh:Prop:=False
structure Below(B:Nat)(w w':aa):Prop extends Go.RowKit.Below B w w' where
 drawn:Mh->w.drawn<=w'.drawn
theorem Below.refl(B:Nat)(w:aa):Below B w w:=⟨Go.RowKit.Below.refl B w,fun _=>dh _⟩
theorem Below.trans{B:Nat}{a b c:aa}(h:Below B a b)(k:Below B b c):Below B a c:=⟨h.toBelow.trans k.toBelow,fun s=>jb (h.drawn s) (k.drawn s)⟩
theorem Below.mono{B B':Nat}{w w':aa}(h:Below B w w')(hB:B'<=B):Below B' w w':=⟨h.toBelow.mono hB,h.drawn⟩
theorem Below.drew{B:Nat}{a w:aa}(h:Below B a w):Below B a w.drew:=⟨h.toBelow.drew,fun s=>Nat.le_succ_of_le (h.drawn s)⟩
theorem Below.alloc{B:Nat}{a w:aa}(h:Below B a w)(hB:B<=w.heap.size)(o:Obj):Below B a (w.alloc o):=⟨h.toBelow.alloc hB o,h.drawn⟩
structure yR(w w':aa)(row:Option Nat):Prop where
 g:w.grownBy w' row
 drawn:w.drawn<=w'.drawn
theorem Below.grown{B:Nat}{a w w':aa}{row:Option Nat}(h:Below B a w)(hg:yR w w' row)(hB:B<=w.heap.size)(hr:∀k,row=some k->B<=k):Below B a w':=⟨h.toBelow.grown hg.g hB hr,fun s=>jb (h.drawn s) hg.drawn⟩
def aD(A:aj)(k:Nat):aj:=A.map (·.add k)
def Rd(w:aa)(A:aj)(n:Nat)(f:Nat->ad):Prop:=∀k,k<n->∃p,aD A k=some p/\w.cell? p=some (f k)
structure Ck where
 A:aj
 n:Nat
 c:Nat
 e:ae
 vs:List ad
def Ck.fQ(k:Ck):Option Nat:=k.A.map (·.block)
def qa:List (ad×ad)->List ad
 | []=> []
 | p::r=>p.1::p.2::qa r
theorem Hh:∀ {a b:List (ad×ad)},qa a=qa b->a=b
 | [],[],_=>rfl
 | [],_::_,h=>by simp [qa]at h
 | _::_,[],h=>by simp [qa]at h
 | (x,y)::a,(x',y')::b,h=>by
  simp only [qa,List.cons.injEq]at h;rw [h.1,h.2.1,Hh h.2.2]
def eg:List ad->Bool
 | .tuple _::_=>true
 | _=>false
theorem Bh{v:ad}{r:List ad}(h:v.oneCell'=true):eg (v::r)=false:=by
 cases v<;>simp_all [eg,Value.oneCell']
theorem rE{l:List ad}(h:∀v∈l,v.oneCell'=true):eg l=false:=by
 cases l with
 | nil=>rfl
 | cons v r=>exact Bh (h v (by simp))
theorem Ry{a b:List ad}(ha:eg a=false)(hb:eg b=false):eg (a++b)=false:=by
 cases a with
 | nil=>exact hb
 | cons v r=>cases v<;>simp_all [eg]
theorem EU{a b:List ad}(ha:eg a=false)(h:a≠[]):eg (a++b)=false:=by
 cases a with
 | nil=>exact absurd rfl h
 | cons v r=>cases v<;>simp_all [eg]
theorem RC{a:List ad}(m:Nat)(ha:eg a=false):eg (a.take m)=false:=by
 cases a with
 | nil=>simp [eg]
 | cons v r=>
  cases m with
  | zero=>rfl
  | succ m=>cases v<;>simp_all [eg]
theorem RB{a:List ad}(j:Nat){u:ad}(ha:eg a=false)(hu:u.oneCell'=true):eg (a.set j u)=false:=by
 cases a with
 | nil=>rfl
 | cons v r=>
  cases j with
  | zero=>exact Bh hu
  | succ m=>cases v<;>simp_all [eg]
theorem RA{z:ad}(n:Nat)(hz:z.oneCell'=true):eg (List.replicate n z)=false:=rE fun v hv=>by rw [(List.mem_replicate.1 hv).2];exact hz
def uJ(B:Nat)(w:aa)(k:Ck):Prop:=
 k.vs.length=k.n/\k.n<=k.c/\k.c<=maxLen/\
 ((k.A=none/\k.c=0)\/∃g o cur,k.A=some ⟨g,o,none⟩/\B<=g/\w.heap[g]?=some (.cells cur k.e (0,0))/\o+k.c<=cur.size/\∀j,j<k.n->cur[o+j]?=k.vs[j]?)
def Cg(B:Nat)(w:aa)(k:Ck):Prop:=
 k.n=0/\k.c=0/\∃g es cl,k.A=some ⟨g,0,none⟩/\B<=g/\w.heap[g]?=some (.map es cl)/\k.vs= .tuple #[]::qa (es.toList.map fun e=> (e.key,e.val))
def Own(B:Nat)(w:aa)(k:Ck):Prop:=if eg k.vs=true then Cg B w k else uJ B w k
theorem Own.oP{B:Nat}{w:aa}{k:Ck}(hm:eg k.vs=false)(h:uJ B w k):Own B w k:=by unfold Own;rw [if_neg (by simp [hm])];exact h
theorem Own.FK{B:Nat}{w:aa}{k:Ck}(hm:eg k.vs=false)(h:Own B w k):uJ B w k:=by unfold Own at h;rwa [if_neg (by simp [hm])]at h
theorem Own.cases{B:Nat}{w:aa}{k:Ck}(h:Own B w k):(eg k.vs=true/\Cg B w k)\/(eg k.vs=false/\uJ B w k):=by
 unfold Own at h
 split at h
 ·rename_i hm;exact .inl ⟨hm,h⟩
 rename_i hm;exact .inr ⟨by simpa using hm,h⟩
theorem Own.ofM{B:Nat}{w:aa}{k:Ck}(hm:eg k.vs=true)(h:Cg B w k):Own B w k:=by unfold Own;rw [if_pos hm];exact h
structure St(w0 w:aa)(ks:List Ck):Prop where
 below:Below w0.heap.size w0 w
 own:∀k∈ks,Own w0.heap.size w k
 apart:(ks.filterMap Ck.fQ).Nodup
theorem wA{g o:Nat}(k:Nat):(⟨g,o,none⟩:Addr).add k=⟨g,o+k,none⟩:=by unfold Addr.add;split<;>simp_all
section
variable{B' i j:Nat}{ks':List Ck}
variable {w0 w w':aa} {ks:List Ck} {k:Ck} {B:Nat}
theorem Own.rd(h:Own B w k):Rd w k.A k.n (fun j=>k.vs.getD j undef):=by
 rcases h.cases with⟨_,hn,_⟩ | ⟨_,h1,h2,h3,h4⟩
 ·intro j hj;omega
 intro j hj;rcases h4 with⟨_,h0⟩ | ⟨g,o,cur,hA,hg,hh,hs,hc⟩
 ·omega
 refine⟨⟨g,o+j,none⟩,by simp [aD,hA,wA],?_⟩;simp only [World.cell?,hh];rw [hc j hj];simp [cz,eS (show j<k.vs.length by omega)]
theorem Own.mono(h:Own B w k)(hB:B'<=B):Own B' w k:=by
 rcases h.cases with⟨hm,hn,hc,g,es,cl,hA,hg,r⟩ | ⟨hm,h1,h2,h3,h4⟩
 ·exact .ofM hm ⟨hn,hc,g,es,cl,hA,by omega,r⟩
 refine .oP hm ⟨h1,h2,h3,?_⟩;rcases h4 with h0 | ⟨g,o,cur,hA,hg,r⟩
 ·exact .inl h0
 exact .inr ⟨g,o,cur,hA,by omega,r⟩
theorem Own.keep(h:Own B w k)(hb:∀g,k.fQ=some g->w'.heap[g]?=w.heap[g]?):Own B w' k:=by
 rcases h.cases with⟨hm,hn,hc,g,es,cl,hA,hg,hh,r⟩ | ⟨hm,h1,h2,h3,h4⟩
 ·exact .ofM hm ⟨hn,hc,g,es,cl,hA,hg,by rw [hb g (by simp [Ck.fQ,hA])];exact hh,r⟩
 refine .oP hm ⟨h1,h2,h3,?_⟩;rcases h4 with h0 | ⟨g,o,cur,hA,hg,hh,r⟩
 ·exact .inl h0
 exact .inr ⟨g,o,cur,hA,hg,by rw [hb g (by simp [Ck.fQ,hA])];exact hh,r⟩
theorem Own.lt(h:Own B w k){g:Nat}(hg:k.fQ=some g):B<=g/\g<w.heap.size:=by
 rcases h.cases with⟨hm,hn,hc,g',es,cl,hA,oy,hh,r⟩ | ⟨hm,h1,h2,h3,h4⟩
 ·simp [Ck.fQ,hA]at hg;subst hg;exact⟨oy,(Array.getElem?_eq_some_iff.1 hh).1⟩
 rcases h4 with⟨h0,_⟩ | ⟨g',o,cur,hA,oy,hh,r⟩
 ·simp [Ck.fQ,h0]at hg
 simp [Ck.fQ,hA]at hg;subst hg;exact⟨oy,(Array.getElem?_eq_some_iff.1 hh).1⟩
theorem Own.cap(h:Own B w k):k.n<=k.c/\k.c<=maxLen:=by
 rcases h.cases with⟨_,hn,hc,_⟩ | ⟨_,_,h2,h3,_⟩
 ·exact⟨by omega,by rw [hc];exact bn _⟩
 exact⟨h2,h3⟩
theorem St.refl(w:aa):St w w []:=⟨Below.refl _ _,(fun _ h=>by cases h),List.nodup_nil⟩
theorem St.get(h:St w0 w ks)(hk:ks[i]?=some k):Own w0.heap.size w k:=h.own k (List.mem_of_getElem? hk)
theorem St.qc(h:St w0 w ks)(hk:ks[i]?=some k)(hm:eg k.vs=false):uJ w0.heap.size w k:=(h.get hk).FK hm
theorem St.rd(h:St w0 w ks)(i:Nat)(hk:ks[i]?=some k):Rd w k.A k.n (fun j=>k.vs.getD j undef):=(h.get hk).rd
theorem Rd.lt{A:aj}{n:Nat}{f:Nat->ad}(h:Rd w A n f)(hj:j<n):∃p,aD A j=some p/\p.block<w.heap.size/\w.cell? p=some (f j):=by
 obtain⟨p,hp,hc⟩:=h j hj;exact⟨p,hp,World.block_lt_of_cell? _ _ hc,hc⟩
theorem Rd.below{A:aj}{n:Nat}{f:Nat->ad}(h:Rd w A n f)(hb:Below w.heap.size w w'):Rd w' A n f:=fun j hj=>by
 obtain⟨p,hp,hl,hc⟩:=h.lt hj;exact⟨p,hp,(hb.cell hl).trans hc⟩
theorem St.kM(h:St w0 w ks){A:aj}{n:Nat}{f:Nat->ad}(hR:Rd w0 A n f):Rd w A n f:=hR.below h.below
theorem Rd.congr{A:aj}{n:Nat}{f g:Nat->ad}(h:Rd w A n f)(hf:∀j,j<n->f j=g j):Rd w A n g:=fun j hj=>by
 obtain⟨p,hp,hc⟩:=h j hj;exact⟨p,hp,by rw [hc,hf j hj]⟩
theorem St.aq(h:St w0 w ks)(hb:Below w.heap.size w w'):St w0 w' ks:=
 ⟨h.below.trans (hb.mono h.below.size),fun k hk=> (h.own k hk).keep fun g hg=>hb.block g ((h.own k hk).lt hg).2,h.apart⟩
theorem St.drew(h:St w0 w ks):St w0 w.drew ks:=h.aq (Below.drew (Below.refl _ _))
theorem St.call(h:St w0 w ks)(h':St w w' ks'):St w0 w' (ks'++ks):=by
 have h1:=h.aq h'.below;refine⟨h1.below,fun k hk=>?_,?_⟩
 ·rcases gL.1 hk with hk | hk
  ·exact(h'.own k hk).mono h.below.size
  exact h1.own k hk
 rw [List.filterMap_append,List.nodup_append];refine⟨h'.apart,h.apart,fun a ha b hb=>?_⟩;obtain⟨k,hk,Eg⟩:=List.mem_filterMap.1 ha;obtain⟨k',fF,tV⟩:=List.mem_filterMap.1 hb;have l1:=((h'.own k hk).lt Eg).1;have l2:=((h.own k' fF).lt tV).2;omega
theorem St.call2(h:St w0 w ks)(h':St w w' ks'):St w0 w' (ks++ks'):=by
 have h1:=h.call h';exact⟨h1.below,fun k hk=>h1.own k ((ka (l₁:=ks') (l₂:=ks)).mem_iff.2 hk),((ka (l₁:=ks') (l₂:=ks)).filterMap _).nodup_iff.1 h1.apart⟩
theorem St.sub(h:St w0 w ks)(hs:ks'.Sublist ks):St w0 w ks':=
 ⟨h.below,fun k hk=>h.own k (hs.subset hk),h.apart.sublist (hs.filterMap _)⟩
theorem St.perm(h:St w0 w ks)(hs:ks.Perm ks'):St w0 w ks':=
 ⟨h.below,fun k hk=>h.own k (hs.mem_iff.2 hk),(hs.filterMap _).nodup_iff.1 h.apart⟩
theorem St.tail(h:St w0 w (k::ks)):St w0 w ks:=h.sub (List.sublist_cons_self _ _)
theorem St.none(h:St w0 w ks):St w0 w []:=h.sub (List.nil_sublist _)
theorem St.nil(h:St w0 w ks)(e:ae):St w0 w (⟨Option.none,0,0,e,[]⟩::ks):=
 ⟨h.below,fun k hk=>by
  rcases kT.1 hk with rfl | hk
  ·exact .oP O ⟨O,dh _,bn _,.inl ⟨O,O⟩⟩
  exact h.own k hk,h.apart⟩
theorem St.alloc(h:St w0 w ks)(cs:List ad)(e:ae)(hm:cs.length<=maxLen)(hM:eg cs=false):St w0 (w.alloc (.cells cs.toArray e)) (⟨some ⟨w.heap.size,0,Option.none⟩,cs.length,cs.length,e,cs⟩::ks):=by
 have hb:Below w.heap.size w (w.alloc (.cells cs.toArray e)):=(Below.refl _ _).alloc (dh _) _;have h1:=h.aq hb;refine⟨h1.below,fun k hk=>?_,?_⟩
 ·rcases kT.1 hk with rfl | hk
  ·exact .oP hM ⟨O,dh _,hm,.inr ⟨_,0,cs.toArray,O,h.below.size,heap_alloc_new w _,by simp,fun j hj=>by simp⟩⟩
  exact h1.own k hk
 simp only [List.filterMap_cons,Ck.fQ,Option.map_some,mZ];refine⟨fun de=>?_,h.apart⟩;obtain⟨k',fF,tV⟩:=List.mem_filterMap.1 de;have:=((h.own k' fF).lt tV).2;omega
theorem zu{α β:Type}(f:α->Option β):∀(l:List α) (i:Nat) (a b:α),l[i]?=some a->f b=f a->(l.set i b).filterMap f=l.filterMap f
 | [],_,_,_,h,_=>by simp at h
 | x::l,0,a,b,h,he=>by
  simp at h;subst h;simp [List.filterMap_cons,he]
 | x::l,i+1,a,b,h,he=>by
  simp only [List.getElem?_cons_succ]at h;simp only [List.set_cons_succ,List.filterMap_cons,zu f l i a b h he]
theorem St.turn{g:Nat}{k':Ck}(h:St w0 w ks)(hk:ks[i]?=some k)(rf:k.fQ=some g)(Pz:k'.fQ=some g)(hw:yR w w' (some g))(ho:Own w0.heap.size w' k'):St w0 w' (ks.set i k'):=by
 have eQ:=(h.get hk).lt rf;refine⟨h.below.grown hw h.below.size (fun x hx=>by cases hx;exact eQ.1),fun x hx=>?_,?_⟩
 ·obtain⟨j,hj,rfl⟩:=eZ.1 hx;have jS:j<ks.length:=by simpa using hj
  rw [List.getElem_set]
  split
  ·exact ho
  ·rename_i bL;have hm:ks[j]∈ks:=dU _;refine(h.own _ hm).keep fun g' oy=>hw.g.block g' ((h.own _ hm).lt oy).2 fun e=>?_
   injection e with e
   subst e;have eK:i<ks.length:=(fY.1 hk).1;have dz:ks[i]=k:=(fY.1 hk).2;exact absurd (show False from by
    have hn:=h.apart;have key:∀(l:List Ck),(l.filterMap Ck.fQ).Nodup->∀i j (hi:i<l.length) (hj:j<l.length),i≠j->l[i].fQ=some g'->l[j].fQ=some g'->False:=by
     intro l
     induction l with
     | nil=>intro _ i j hi;simp at hi
     | cons a l ih=>
      intro hn i j hi hj bL h1 h2;cases i with
      | zero=>
       cases j with
       | zero=>exact bL rfl
       | succ j=>
        simp only [List.getElem_cons_zero]at h1;simp only [List.getElem_cons_succ]at h2;rw [List.filterMap_cons,h1]at hn;simp only [mZ]at hn;exact hn.1 (List.mem_filterMap.2 ⟨_,dU _,h2⟩)
      | succ i=>
       cases j with
       | zero=>
        simp only [List.getElem_cons_zero]at h2;simp only [List.getElem_cons_succ]at h1;rw [List.filterMap_cons,h2]at hn;simp only [mZ]at hn;exact hn.1 (List.mem_filterMap.2 ⟨_,dU _,h1⟩)
       | succ j=>
        have tZ:(l.filterMap Ck.fQ).Nodup:=by
         rw [List.filterMap_cons]at hn
         split at hn
         ·exact hn
         ·exact(mZ.1 hn).2
        exact ih tZ i j (by simpa using hi) (by simpa using hj) (by omega) (by simpa using h1) (by simpa using h2)
    exact key ks hn i j eK jS bL (by rw [dz];exact rf) oy) id
 ·rw [zu Ck.fQ ks i k k' hk (by rw [rf,Pz])];exact h.apart
theorem St.store(h:St w0 w ks)(i:Nat)(hk:ks[i]?=some k)(hj:j<k.n)(u:ad)(hu:u.oneCell'=true):
 ∃p,aD k.A j=some p/\(∃v,w.cell? p=some v)/\w.frozen? p=false/\St w0 (w.setCell p u) (ks.set i { k with vs:=k.vs.set j u }):=by
 rcases(h.get hk).cases with⟨_,pf,_⟩ | ⟨hM,h1,h2,h3,h4⟩
 ·omega
 rcases h4 with⟨_,h0⟩ | ⟨g,o,cur,hA,hg,hh,hs,hc⟩
 ·omega
 refine⟨⟨g,o+j,Option.none⟩,by simp [aD,hA,wA],?_,?_,?_⟩
 ·have:o+j<cur.size:=by omega
  exact⟨cur[o+j],by simp [World.cell?,hh,mr this]⟩
 ·simp [World.frozen?,hh]
 have rf:k.fQ=some g:=by simp [Ck.fQ,hA]
 have eQ:=(Array.getElem?_eq_some_iff.1 hh).1;refine h.turn (k':= { k with vs:=k.vs.set j u }) hk rf rf ⟨⟨O,O,O,by simp,fun x _ hx=>heap_setCell_other w ⟨g,o+j,Option.none⟩ x u (fun e=>hx (by simp [e]))⟩,dh _⟩ ?_;refine .oP (RB j hM hu) ⟨by simpa using h1,h2,h3,.inr ⟨g,o,cur.setIfInBounds (o+j) u,hA,hg,heap_setCell_same w g (o+j) cur k.e u hh,by simpa using hs,fun m hm=>?_⟩⟩;have jf:m<k.n:=hm;rw [qH];show _=(k.vs.set j u)[m]?;rw [l0]
 by_cases e:j=m
 ·subst e;rw [aF rfl,aF rfl,aF (by omega),aF (by omega)]
 rw [aC (by omega),aC e];exact hc m jf
end
structure aL where
 a:aj
 n:Nat
 c:Nat
def aL.v(s:aL):ad:= .slice s.a s.n s.c
def cL:aL:=⟨none,0,0⟩
def gi(xs:ai)(i:Int):Int:=xs.getD i.toNat 0
def gb(xs:List Bool)(i:Int):Bool:=xs.getD i.toNat false
def rg(xs:List aL)(i:Int):aL:=xs.getD i.toNat cL
def bu(w:aa)(A:aj)(n:Nat)(xs:ai):Prop:=xs.length=n/\Rd w A n (fun j=>ak (xs.getD j 0))
def o0(w:aa)(A:aj)(n:Nat)(xs:List Bool):Prop:=xs.length=n/\Rd w A n (fun j=> .bool (xs.getD j false))
def im(w:aa)(A:aj)(n:Nat)(xs:List aL):Prop:=xs.length=n/\Rd w A n (fun j=> (xs.getD j cL).v)
abbrev aw(t:ae)(A:aj)(n c:Nat)(xs:ai):Ck:=⟨A,n,c,t,xs.map (ak)⟩
abbrev eC(t:ae)(A:aj)(n c:Nat)(xs:List Bool):Ck:=⟨A,n,c,t,xs.map .bool⟩
abbrev bE(t:ae)(A:aj)(n c:Nat)(xs:List aL):Ck:=⟨A,n,c,t,xs.map aL.v⟩
theorem qx(xs:ai):eg (xs.map (Value.int .i64))=false:=rE fun v hv=>by obtain⟨_,_,rfl⟩:=fh.1 hv;rfl
theorem yn(xs:List Bool):eg (xs.map Value.bool)=false:=rE fun v hv=>by obtain⟨_,_,rfl⟩:=fh.1 hv;rfl
theorem Bg(xs:List aL):eg (xs.map aL.v)=false:=rE fun v hv=>by obtain⟨_,_,rfl⟩:=fh.1 hv;rfl
section
variable{xs:ai}
variable {w0 w w':aa} {ks:List Ck} {t:ae} {A:aj} {n c:Nat}
theorem St.bo(h:St w0 w ks)(i:Nat)(hk:ks[i]?=some (aw t A n c xs)):bu w A n xs:=by
 have hl:xs.length=n:=by have:=(h.qc hk (qx xs)).1;simpa using this
 exact⟨hl,(h.rd i hk).congr fun j hj=>by have jS:j<n:=hj;simp [cz,eS (show j<xs.length by omega)]⟩
theorem St.gX{xs:List Bool}(h:St w0 w ks)(i:Nat)(hk:ks[i]?=some (eC t A n c xs)):o0 w A n xs:=by
 have hl:xs.length=n:=by have:=(h.qc hk (yn xs)).1;simpa using this
 exact⟨hl,(h.rd i hk).congr fun j hj=>by have jS:j<n:=hj;simp [cz,eS (show j<xs.length by omega)]⟩
theorem St.fz{xs:List aL}(h:St w0 w ks)(i:Nat)(hk:ks[i]?=some (bE t A n c xs)):im w A n xs:=by
 have hl:xs.length=n:=by have:=(h.qc hk (Bg xs)).1;simpa using this
 exact⟨hl,(h.rd i hk).congr fun j hj=>by have jS:j<n:=hj;simp [cz,eS (show j<xs.length by omega)]⟩
theorem St.da(h:St w0 w ks)(hR:bu w0 A n xs):bu w A n xs:=⟨hR.1,h.kM hR.2⟩
theorem St.Fl{xs:List aL}(h:St w0 w ks)(hR:im w0 A n xs):im w A n xs:=⟨hR.1,h.kM hR.2⟩
theorem St.cap{k:Ck}(h:St w0 w ks)(i:Nat)(hk:ks[i]?=some k):k.n<=k.c/\k.c<=maxLen:=(h.get hk).cap
theorem St.vM(h:St w0 w ks)(i:Nat)(hk:ks[i]?=some (aw t A n c xs)):xs.length=n:=(h.bo i hk).1
theorem bu.aq(h:bu w A n xs)(hb:Below w.heap.size w w'):bu w' A n xs:=⟨h.1,h.2.below hb⟩
theorem o0.aq{xs:List Bool}(h:o0 w A n xs)(hb:Below w.heap.size w w'):o0 w' A n xs:=⟨h.1,h.2.below hb⟩
theorem im.aq{xs:List aL}(h:im w A n xs)(hb:Below w.heap.size w w'):im w' A n xs:=⟨h.1,h.2.below hb⟩
theorem bu.nil:bu w none 0 []:=⟨rfl,fun k hk=>by omega⟩
end
section
variable{t te:ae}{z u v0 v1 z0:ad}{j c1 ft off sz o h c':Nat}{x ix x0 x1 lo eK y:ag}{A1 A':aj}{i:Int}{xs:ai}
variable {P:Program} {N:Nat} {ops:Array Oper} {K:Env->aa->Prop} {rest:List Oper} {e:Env} {w0 w w':aa} {ks:List Ck} {d:Nat} {ty:ae} {pos:String} {af:Array Edge}
theorem WB{el:ae}{b:Nat}[bG P t (.slice el)][bJ P el z 1 b]{A:aj}{n c:Nat}{k:IntKind}{f:Nat->ad}(hR:Rd w A n f)(hx:ev e x= .slice A n c)(hy:ev e ix= .int k i)(hb:Nat.blt d N=true)(h0:0<=i)(h1:i< (n:Int))(hK:ao P N ops K rest (bj e d (.pointer (aD A i.toNat))) w):
 ao P N ops K (⟨some d,.indexAddr t x ix,ty,pos,af,none⟩::rest) e w:=by
 obtain⟨p,hp,_⟩:=hR i.toNat (by omega);obtain⟨q,rfl⟩:∃q,A=some q:=by cases A with | none=>simp [aD]at hp | some q=>exact⟨q,rfl⟩
 obtain⟨inf,hi,_,hs,_⟩:=bJ.get P el;refine .val (w':=w) ?_ hb hK;simp [execOp,Instr.indexAt,hx,hy,asIntOf,run_underlying (bG.out (P:=P) (t:=t)),h0,h1,sizeOf,typeInfo,hi,hs,aD]
theorem aB{el:ae}{b:Nat}[bG P t (.slice el)][bJ P el z 1 b]{A:aj}{n c:Nat}{k:IntKind}{f:Nat->ad}(hR:Rd w A n f)(q9:(ev e x,ev e ix,Nat.blt d N)=(.slice A n c,.int k i,true))(hK:ao P N ops K rest (bj e d (.pointer (aD A i.toNat))) w)(h0:0<=i:=by omega)(h1:i< (n:Int):=by omega):ao P N ops K (⟨some d,.indexAddr t x ix,ty,pos,af,none⟩::rest) e w:=WB hR (congrArg (fun p=>p.1) q9) (congrArg (fun p=>p.2.1) q9) (congrArg (fun p=>p.2.2) q9) h0 h1 hK
def rM:TypeDesc->Bool
 | .struct _=>false
 | .array _ _=>false
 | _=>true
theorem Ut{u:TypeDesc}(hu:P.underlying t=some u)(hp:rM u=true):(isAgg t).run P w= .ok false w:=by
 cases u<;>simp [rM]at hp<;>simp [isAgg,run_underlying hu]
theorem ao.ld{u:TypeDesc}[bG P t u]{A:aj}{n:Nat}{f:Nat->ad}{v:ad}(hR:Rd w A n f)(hx:ev e x= .pointer (aD A j))(hj:j<n)(hv:f j=v)(hp:rM u=true)(hb:Nat.blt d N=true)(hK:ao P N ops K rest (bj e d v) w):ao P N ops K (⟨some d,.load t x,ty,pos,af,none⟩::rest) e w:=by
 obtain⟨p,pj,hc⟩:=hR j hj;subst hv;refine .val (w':=w) ?_ hb hK;simp [execOp,Instr.loadAt,hx,pj,Instr.sureAddr,loadVar,Ut (bG.out (P:=P) (t:=t)) hp,hc]
theorem WC{u:TypeDesc}[bG P t u]{A:aj}{n:Nat}(hR:bu w A n xs)(hx:ev e x= .pointer (aD A i.toNat))(hj:i.toNat<n)(hp:rM u=true)(hb:Nat.blt d N=true)(hK:ao P N ops K rest (bj e d (ak (gi xs i))) w):ao P N ops K (⟨some d,.load t x,ty,pos,af,none⟩::rest) e w:= .ld hR.2 hx hj rfl hp hb hK
theorem aW{u:TypeDesc}[bG P t u]{A:aj}{n:Nat}(hR:bu w A n xs)(q9:(ev e x,rM u,Nat.blt d N)=(.pointer (aD A i.toNat),true,true))(hK:ao P N ops K rest (bj e d (ak (gi xs i))) w)(hj:i.toNat<n:=by omega):ao P N ops K (⟨some d,.load t x,ty,pos,af,none⟩::rest) e w:=WC hR (congrArg (fun p=>p.1) q9) hj (congrArg (fun p=>p.2.1) q9) (congrArg (fun p=>p.2.2) q9) hK
theorem nh{u:TypeDesc}[bG P t u]{A:aj}{n:Nat}{xs:List Bool}(hR:o0 w A n xs)(hx:ev e x= .pointer (aD A i.toNat))(hj:i.toNat<n)(hp:rM u=true)(hb:Nat.blt d N=true)(hK:ao P N ops K rest (bj e d (.bool (gb xs i))) w):ao P N ops K (⟨some d,.load t x,ty,pos,af,none⟩::rest) e w:= .ld hR.2 hx hj rfl hp hb hK
theorem WJ{u:TypeDesc}[bG P t u]{A:aj}{n:Nat}{xs:List aL}(hR:im w A n xs)(hx:ev e x= .pointer (aD A i.toNat))(hj:i.toNat<n)(hp:rM u=true)(hb:Nat.blt d N=true)(hK:ao P N ops K rest (bj e d (.slice (rg xs i).a (rg xs i).n (rg xs i).c)) w):ao P N ops K (⟨some d,.load t x,ty,pos,af,none⟩::rest) e w:= .ld hR.2 hx hj rfl hp hb hK
theorem ck{u:TypeDesc}[bG P t u]{A:aj}{n:Nat}{xs:List aL}(hR:im w A n xs)(q9:(ev e x,rM u,Nat.blt d N)=(.pointer (aD A i.toNat),true,true))(hK:ao P N ops K rest (bj e d (.slice (rg xs i).a (rg xs i).n (rg xs i).c)) w)(hj:i.toNat<n:=by omega):ao P N ops K (⟨some d,.load t x,ty,pos,af,none⟩::rest) e w:=WJ hR (congrArg (fun p=>p.1) q9) hj (congrArg (fun p=>p.2.1) q9) (congrArg (fun p=>p.2.2) q9) hK
theorem ao.st{b:Nat}[bJ P t z 1 b]{a:ag}{i:Nat}{k:Ck}(hS:St w0 w ks)(hk:ks[i]?=some k)(ha:ev e a= .pointer (aD k.A j))(hx:ev e x=u)(h1:u.oneCell'=true)(hj:j<k.n)(hK:∀w',St w0 w' (ks.set i { k with vs:=k.vs.set j u })->ao P N ops K rest e w'):ao P N ops K (⟨none,.store t a x,ty,pos,af,none⟩::rest) e w:=by
 obtain⟨p,hp,⟨v,hc⟩,hf,mE⟩:=hS.store i hk hj u h1;obtain⟨inf,hi,_,hs,_⟩:=bJ.get P t;refine .unit (w':=w.setCell p u) ?_ (hK _ mE);have PI:u.cells= #[u]:=by cases u<;>simp [Value.oneCell']at h1<;>rfl
 simp [execOp,Instr.storeAt,ha,hx,hp,Instr.sureAddr,storeVar,sizeOf,typeInfo,hi,hs,PI,storeCells,run_store _ _ _ _ _ h1,hc,hf,Addr.add]
theorem il{b:Nat}[bJ P t z 1 b]{a:ag}(m:Nat){A:aj}{n c:Nat}{u:Int}(hS:St w0 w ks)(hk:ks[m]?=some (aw te A n c xs))(ha:ev e a= .pointer (aD A i.toNat))(hx:ev e x=ak u)(hj:i.toNat<n)(hK:∀w',St w0 w' (ks.set m (aw te A n c (xs.set i.toNat u)))->ao P N ops K rest e w'):ao P N ops K (⟨none,.store t a x,ty,pos,af,none⟩::rest) e w:=
 .st hS hk ha hx rfl hj fun w' h=>hK w' (by simpa [aw,List.map_set]using h)
theorem pQ{b:Nat}[bJ P t z 1 b]{a:ag}(m:Nat){A:aj}{n c:Nat}{xs:List Bool}{u:Bool}(hS:St w0 w ks)(hk:ks[m]?=some (eC te A n c xs))(ha:ev e a= .pointer (aD A i.toNat))(hx:ev e x= .bool u)(hj:i.toNat<n)(hK:∀w',St w0 w' (ks.set m (eC te A n c (xs.set i.toNat u)))->ao P N ops K rest e w'):ao P N ops K (⟨none,.store t a x,ty,pos,af,none⟩::rest) e w:=
 .st hS hk ha hx rfl hj fun w' h=>hK w' (by simpa [eC,List.map_set]using h)
theorem tl{b:Nat}[bJ P t z 1 b]{a:ag}(m:Nat){A:aj}{n c:Nat}{xs:List aL}{n1:Nat}(hS:St w0 w ks)(hk:ks[m]?=some (bE te A n c xs))(ha:ev e a= .pointer (aD A i.toNat))(hx:ev e x= .slice A1 n1 c1)(hj:i.toNat<n)(hK:∀w',St w0 w' (ks.set m (bE te A n c (xs.set i.toNat ⟨A1,n1,c1⟩)))->ao P N ops K rest e w'):ao P N ops K (⟨none,.store t a x,ty,pos,af,none⟩::rest) e w:=
 .st hS hk ha hx rfl hj fun w' h=>hK w' (by simpa [bE,List.map_set,aL.v]using h)
theorem E8(z:ad)(n:Nat):(madeCells #[z] n)=(List.replicate n z).toArray:=by
 rw [<-toList_madeCells_one z n]
theorem ao.mk{el:ae}{b:Nat}[bG P t (.slice el)][bJ P el z 1 b]{k:IntKind}(n:Nat)(hS:St w0 w ks)(hx:ev e x= .int k (n:Int))(hz:z.cells= #[z])(OE:z.oneCell'=true)(hb:Nat.blt d N=true)(hn:b*n<=281474976710656/\n<=9223372036854775807)(hK:∀A w',St w0 w' (⟨A,n,n,el,List.replicate n z⟩::ks)->ao P N ops K rest (bj e d (.slice A n n)) w'):ao P N ops K (⟨some d,.makeSlice t x x,ty,pos,af,none⟩::rest) e w:=by
 obtain⟨inf,hi,fH,hs,iT⟩:=bJ.get P el;have hr:=run_make_row (P:=P) t el inf z (bG.out (P:=P) (t:=t)) hi fH hs hz k k n (by rw [iT];exact hn.1) hn.2 w;have hA:=hS.alloc (List.replicate n z) el (by simp [maxLen];omega) (RA n OE);rw [E8]at hr;refine .val (w':=w.alloc (.cells (List.replicate n z).toArray el)) ?_ hb (hK _ _ (by simpa using hA));simp only [execOp,hx,Sem.run_bind,hr,Result.andThen_ok,Sem.run_pure]
theorem tj{el:ae}{b:Nat}{v:Bool}[bG P t (.slice el)][bJ P el (.bool v) 1 b]{k:IntKind}(n:Nat)(hS:St w0 w ks)(hx:ev e x= .int k (n:Int))(hb:Nat.blt d N=true)(hn:b*n<=281474976710656/\n<=9223372036854775807)(hK:∀A w',St w0 w' (eC el A n n (List.replicate n v)::ks)->ao P N ops K rest (bj e d (.slice A n n)) w'):ao P N ops K (⟨some d,.makeSlice t x x,ty,pos,af,none⟩::rest) e w:=
 .mk n hS hx rfl rfl hb hn fun A w' h=>hK A w' (by unfold eC;rw [List.map_replicate];exact h)
theorem rZ{el:ae}{b:Nat}{v:Int}[bG P t (.slice el)][bJ P el (ak v) 1 b]{k:IntKind}(n:Nat)(hS:St w0 w ks)(hx:ev e x= .int k (n:Int))(hb:Nat.blt d N=true)(hn:b*n<=281474976710656/\n<=9223372036854775807)(hK:∀A w',St w0 w' (aw el A n n (List.replicate n v)::ks)->ao P N ops K rest (bj e d (.slice A n n)) w'):ao P N ops K (⟨some d,.makeSlice t x x,ty,pos,af,none⟩::rest) e w:=
 .mk n hS hx rfl rfl hb hn fun A w' h=>hK A w' (by unfold aw;rw [List.map_replicate];exact h)
theorem y3{el:ae}{b:Nat}[bG P t (.slice el)][bJ P el (.slice none 0 0) 1 b]{k:IntKind}(n:Nat)(hS:St w0 w ks)(hx:ev e x= .int k (n:Int))(hb:Nat.blt d N=true)(hn:b*n<=281474976710656/\n<=9223372036854775807)(hK:∀A w',St w0 w' (bE el A n n (List.replicate n cL)::ks)->ao P N ops K rest (bj e d (.slice A n n)) w'):ao P N ops K (⟨some d,.makeSlice t x x,ty,pos,af,none⟩::rest) e w:=
 .mk n hS hx rfl rfl hb hn fun A w' h=>hK A w' (by unfold bE;rw [List.map_replicate];exact h)
theorem y8(f:Nat->ad)(n:Nat):(Array.range n).map f=((List.range n).map f).toArray:=by apply Array.ext';simp
theorem iB{el:ae}{b:Nat}[bG P t (.slice el)][bJ P el z 1 b](hS:St w0 w ks)(hb:Nat.blt d N=true)(hK:∀A w',St w0 w' (⟨A,0,0,el,[]⟩::ks)->ao P N ops K rest (bj e d (.slice A 0 0)) w'):ao P N ops K (⟨some d,.buildSlice t 0 #[],ty,pos,af,none⟩::rest) e w:=by
 obtain⟨inf,hi,fH,hs,iT⟩:=bJ.get P el;refine .val (w':=w.alloc (.cells #[] el)) ?_ hb (hK _ _ (hS.alloc [] el (by simp) O));simp [execOp,Instr.buildSlice,run_underlying (bG.out (P:=P) (t:=t)),sizeOf,typeInfo,hi,hs,Instr.fill,newRow,y8]
theorem ao.Cz{el:ae}{b:Nat}[bG P t (.slice el)][bJ P el z 1 b](hS:St w0 w ks)(h0:ev e x0=v0)(c0:v0.oneCell'=true)(hz:z.cells= #[z])(hb:Nat.blt d N=true)(hK:∀A w',St w0 w' (⟨A,1,1,el,[v0]⟩::ks)->ao P N ops K rest (bj e d (.slice A 1 1)) w'):ao P N ops K (⟨some d,.buildSlice t 1 #[(0,x0)],ty,pos,af,none⟩::rest) e w:=by
 obtain⟨inf,hi,fH,hs,iT⟩:=bJ.get P el;have e0:v0.cells= #[v0]:=by cases v0<;>simp [Value.oneCell']at c0<;>rfl
 refine .val (w':=w.alloc (.cells #[v0] el)) ?_ hb (hK _ _ (hS.alloc [v0] el (by simp [maxLen]) (Bh c0)));simp [execOp,Instr.buildSlice,run_underlying (bG.out (P:=P) (t:=t)),sizeOf,typeInfo,zeroValue,hi,hs,fH,hz,Instr.fill,newRow,h0,e0,y8,l4]
theorem LS{el:ae}{b:Nat}[bG P t (.slice el)][bJ P el z 1 b](hS:St w0 w ks)(h0:ev e x0=v0)(h1:ev e x1=v1)(c0:v0.oneCell'=true)(c1:v1.oneCell'=true)(hz:z.cells= #[z])(hb:Nat.blt d N=true)(hK:∀A w',St w0 w' (⟨A,2,2,el,[v0,v1]⟩::ks)->ao P N ops K rest (bj e d (.slice A 2 2)) w'):ao P N ops K (⟨some d,.buildSlice t 2 #[(0,x0),(1,x1)],ty,pos,af,none⟩::rest) e w:=by
 obtain⟨inf,hi,fH,hs,iT⟩:=bJ.get P el;have e0:v0.cells= #[v0]:=by cases v0<;>simp [Value.oneCell']at c0<;>rfl
 have e1:v1.cells= #[v1]:=by cases v1<;>simp [Value.oneCell']at c1<;>rfl
 refine .val (w':=w.alloc (.cells #[v0,v1] el)) ?_ hb (hK _ _ (hS.alloc [v0,v1] el (by simp [maxLen]) (Bh c0)));simp [execOp,Instr.buildSlice,run_underlying (bG.out (P:=P) (t:=t)),sizeOf,typeInfo,zeroValue,hi,hs,fH,hz,Instr.fill,newRow,h0,e0,h1,e1,y8,l4]
theorem ao.box{el:ae}{v:ad}(hS:St w0 w ks)(hx:ev e x=v)(hb:Nat.blt d N=true)(hm:v.cells.size<=maxLen)(hK:∀A w',St w0 w' (⟨A,v.cells.size,v.cells.size,el,v.cells.toList⟩::ks)->ao P N ops K rest (bj e d (.pointer A)) w')(hM:eg v.cells.toList=false:=by rfl):ao P N ops K (⟨some d,.box el x,ty,pos,af,none⟩::rest) e w:=by
 have hA:=hS.alloc v.cells.toList el (by simpa using hm) hM;refine .val (w':=w.alloc (.cells v.cells el)) ?_ hb (hK _ _ (by simpa using hA));simp [execOp,Instr.box,newVar,newRow,hx]
theorem ao.Cy{el:ae}{cs:Array ad}(hS:St w0 w ks)(hx:ev e x= .agg cs)(hb:Nat.blt d N=true)(hm:Nat.ble cs.size 100=true)(hK:∀A w',St w0 w' (⟨A,cs.size,cs.size,el,cs.toList⟩::ks)->ao P N ops K rest (bj e d (.pointer A)) w')(hM:eg cs.toList=false:=by rfl):ao P N ops K (⟨some d,.box el x,ty,pos,af,none⟩::rest) e w:=
 .box hS hx hb (by show cs.size<=maxLen;have:=Nat.le_of_ble_eq_true hm;simp only [maxLen];omega) hK hM
theorem ao.new{el:ae}{s b:Nat}[bJ P el z s b](hS:St w0 w ks)(hb:Nat.blt d N=true)(jf:Nat.ble z.cells.size 100=true)(hK:∀A w',St w0 w' (⟨A,z.cells.size,z.cells.size,el,z.cells.toList⟩::ks)->ao P N ops K rest (bj e d (.pointer A)) w')(hM:eg z.cells.toList=false:=by rfl):ao P N ops K (⟨some d,.alloc el,ty,pos,af,none⟩::rest) e w:=by
 obtain⟨inf,hi,fH,hs,iT⟩:=bJ.get P el;have hm:z.cells.size<=maxLen:=by have:=Nat.le_of_ble_eq_true jf;simp only [maxLen];omega
 have hA:=hS.alloc z.cells.toList el (by simpa using hm) hM;refine .val (w':=w.alloc (.cells z.cells el)) ?_ hb (hK _ _ (by simpa using hA));simp [execOp,Instr.alloc,zeroValue,typeInfo,hi,fH,newVar,newRow]
theorem kb{A:aj}{n:Nat}{f:Nat->ad}(hR:Rd w A n f)(hn:0<n)(hx:ev e x= .pointer A)(hb:Nat.blt d N=true)(hK:ao P N ops K rest (bj e d (.pointer A)) w):
 ao P N ops K (⟨some d,.nilCheck x,ty,pos,af,none⟩::rest) e w:=by
 obtain⟨p,hp,_⟩:=hR 0 hn;obtain⟨q,rfl⟩:∃q,A=some q:=by cases A with | none=>simp [aD]at hp | some q=>exact⟨q,rfl⟩
 exact .Tw hx hb hK
def wG:List Field->Nat->Option (ae×Nat)
 | f::_,0=>some (f.type,f.offset)
 | _::r,m+1=>wG r m
 | [],_=>none
theorem Hf:∀ {l:List Field} {m:Nat} {ft off:Nat},wG l m=some (ft,off)->∃fd,l[m]?=some fd/\fd.type=ft/\fd.offset=off
 | [],_,_,_,h=>by simp [wG]at h
 | f::_,0,_,_,h=>by simp [wG]at h;exact⟨f,rfl,h.1,h.2⟩
 | _::r,m+1,_,_,h=>by simpa using Hf (l:=r) (m:=m) h
theorem WH{s:ae}{fs:Array Field}[bG P s (.struct fs)]{A:aj}{n m:Nat}{f:Nat->ad}{b:Nat}(hR:Rd w A n f)(hx:ev e x= .pointer A)(hf:wG fs.toList m=some (ft,off))(hn:Nat.blt 0 n=true)(hb:Nat.blt d N=true)(hI:bJ P ft z (sz+1) b)(hK:ao P N ops K rest (bj e d (.pointer (aD A off))) w):ao P N ops K (⟨some d,.fieldAddr s x m,ty,pos,af,none⟩::rest) e w:=by
 obtain⟨p,hp,_⟩:=hR 0 (by simpa [Nat.blt_eq]using hn);obtain⟨q,rfl⟩:∃q,A=some q:=by cases A with | none=>simp [aD]at hp | some q=>exact⟨q,rfl⟩
 obtain⟨fd,tP,rfl,rfl⟩:=Hf hf;have PV:fs[m]?=some fd:=by simpa using tP
 obtain⟨inf,hi,fH,hs,iT⟩:=bJ.get P fd.type;refine .val (w':=w) ?_ hb hK;simp [execOp,Instr.fieldAt,run_underlying (bG.out (P:=P) (t:=s)),PV,hx,Instr.sureAddr,fieldPlace,sizeOf,typeInfo,hi,hs,aD]
theorem aS{s:ae}{fs:Array Field}[bG P s (.struct fs)]{A:aj}{n m:Nat}{f:Nat->ad}{b:Nat}(hR:Rd w A n f)(q9:(ev e x,wG fs.toList m,Nat.blt 0 n,Nat.blt d N)=(.pointer A,some (ft,off),true,true))[hI:bJ P ft z (sz+1) b](hK:ao P N ops K rest (bj e d (.pointer (aD A off))) w):ao P N ops K (⟨some d,.fieldAddr s x m,ty,pos,af,none⟩::rest) e w:=WH hR (congrArg (fun p=>p.1) q9) (congrArg (fun p=>p.2.1) q9) (congrArg (fun p=>p.2.2.1) q9) (congrArg (fun p=>p.2.2.2) q9) hI hK
theorem bK{fs:Array Field}{b:Nat}(m:Nat)[bG P t (.struct fs)][bJ P t z (m+1) b]{A:aj}{f:Nat->ad}{cs:Array ad}(hR:Rd w A (m+1) f)(hx:ev e x= .pointer A)(lJ:((List.range (m+1)).map f).toArray=cs)(hb:Nat.blt d N=true)(hK:ao P N ops K rest (bj e d (.agg cs)) w):ao P N ops K (⟨some d,.load t x,ty,pos,af,none⟩::rest) e w:=by
 obtain⟨p,hp,_⟩:=hR 0 (by omega);obtain⟨q,rfl⟩:∃q,A=some q:=by cases A with | none=>simp [aD]at hp | some q=>exact⟨q,rfl⟩
 obtain⟨inf,hi,fH,hs,iT⟩:=bJ.get P t;have hl:=run_loadCells (P:=P) w q (m+1) f (fun j hj=>by
  obtain⟨p,hp,hc⟩:=hR j hj;simp [aD]at hp;rw [hp];exact hc)
 subst lJ;refine .val (w':=w) ?_ hb hK;simp [execOp,Instr.loadAt,hx,Instr.sureAddr,loadVar,isAgg,run_underlying (bG.out (P:=P) (t:=t)),sizeOf,typeInfo,hi,hs,hl]
theorem ko(A:aj):aD A 0=A:=by cases A<;>simp [aD,Addr.add]
theorem T8(A:aj)(i j:Nat):aD (aD A i) j=aD A (i+j):=by
 cases A with
 | none=>rfl
 | some q=>simp only [aD,Option.map_some];unfold Addr.add;by_cases h1:i=0<;>by_cases h2:j=0<;>simp [h1,h2,Nat.add_assoc]
abbrev Bx(t:ae)(n:Nat)(A:aj)(vs:List ad):Ck:=⟨A,n,n,t,vs⟩
theorem ng{el:ae}(hS:St w0 w ks)(hx:ev e x= .agg #[v0])(hb:Nat.blt d N=true)(hK:∀A w',St w0 w' (Bx el 1 A [v0]::ks)->ao P N ops K rest (bj e d (.pointer A)) w')(hM:eg [v0]=false:=by rfl):ao P N ops K (⟨some d,.box el x,ty,pos,af,none⟩::rest) e w:= .Cy hS hx hb rfl hK hM
theorem jH{el:ae}{s b:Nat}[bJ P el (.agg #[v0]) s b](hS:St w0 w ks)(hb:Nat.blt d N=true)(hK:∀A w',St w0 w' (Bx el 1 A [v0]::ks)->ao P N ops K rest (bj e d (.pointer A)) w')(hM:eg [v0]=false:=by rfl):ao P N ops K (⟨some d,.alloc el,ty,pos,af,none⟩::rest) e w:= .new (el:=el) (z:= .agg #[v0]) (s:=s) (b:=b) hS hb rfl hK hM
theorem WI{u:TypeDesc}[bG P t u]{A:aj}{n n1:Nat}{f:Nat->ad}(hR:Rd w A n f)(hx:ev e x= .pointer (aD A j))(hj:Nat.blt j n=true)(hv:f j= .slice A1 n1 c1)(hp:rM u=true)(hb:Nat.blt d N=true)(hK:ao P N ops K rest (bj e d (.slice A1 n1 c1)) w):ao P N ops K (⟨some d,.load t x,ty,pos,af,none⟩::rest) e w:= .ld hR hx (by simpa [Nat.blt_eq]using hj) hv hp hb hK
theorem aZ{u:TypeDesc}[bG P t u]{A:aj}{n n1:Nat}{f:Nat->ad}(hR:Rd w A n f)(q9:(ev e x,Nat.blt j n,f j,rM u,Nat.blt d N)=(.pointer (aD A j),true,.slice A1 n1 c1,true,true))(hK:ao P N ops K rest (bj e d (.slice A1 n1 c1)) w):ao P N ops K (⟨some d,.load t x,ty,pos,af,none⟩::rest) e w:=WI hR (congrArg (fun p=>p.1) q9) (congrArg (fun p=>p.2.1) q9) (congrArg (fun p=>p.2.2.1) q9) (congrArg (fun p=>p.2.2.2.1) q9) (congrArg (fun p=>p.2.2.2.2) q9) hK
theorem fJ{u:TypeDesc}[bG P t u]{A:aj}{n:Nat}{k:IntKind}{f:Nat->ad}(hR:Rd w A n f)(hx:ev e x= .pointer (aD A j))(hj:Nat.blt j n=true)(hv:f j= .int k i)(hp:rM u=true)(hb:Nat.blt d N=true)(hK:ao P N ops K rest (bj e d (.int k i)) w):ao P N ops K (⟨some d,.load t x,ty,pos,af,none⟩::rest) e w:= .ld hR hx (by simpa [Nat.blt_eq]using hj) hv hp hb hK
def v7(vs:List ad)(o:Nat):List ad->List ad
 | []=>vs
 | c::r=>v7 (vs.set o c) (o+1) r
theorem KQ{k:Ck}(i:Nat):∀(cs:List ad) (ks:List Ck) (vs:List ad) (w:aa) (o:Nat) (p:Addr),St w0 w ks->ks[i]?=some { k with vs:=vs }->aD k.A o=some p->o+cs.length<=k.n->(∀u∈cs,u.oneCell'=true)->∀m q,aD k.A m=some q->o=m+ (o - m)->
 m<=o->∃w',(storeCells q cs (o - m)).run P w= .ok () w'/\St w0 w' (ks.set i { k with vs:=v7 vs o cs })
 | [],ks,vs,w,o,p,hS,hk,_,_,_,m,q,_,_,_=> ⟨w,by simp [storeCells],by
  have:ks.set i { k with vs:=v7 vs o [] }=ks:=by
   apply List.ext_getElem?;intro j;rw [l0]
   split
   ·rename_i e;subst e;rw [hk,aF (fY.1 hk).1];rfl
   ·rfl
  rw [this];exact hS⟩
 | c::r,ks,vs,w,o,p,hS,hk,hp,hl,h1,m,q,hq,ho,hm=>by
  simp only [List.length_cons]at hl;obtain⟨p',pj,⟨v,hc⟩,hf,mE⟩:=hS.store i hk (j:=o) (by show o<k.n;omega) c (h1 c (by simp));have Jo:q.add (o - m)=p':=by
   have:aD (aD k.A m) (o - m)=some p':=by rw [T8,<-ho];exact pj
   rw [hq]at this;simpa [aD]using this
  have eQ:=(fY.1 hk).1
  by_cases hr:r=[]
  ·subst hr;refine⟨_,?_,mE⟩;simp [storeCells,Jo,run_store _ _ _ _ _ (h1 c (by simp)),hc,hf]
  ·have bM:0<r.length:=by cases r with | nil=>exact absurd rfl hr | cons _ _=>simp
   obtain⟨p2,fo⟩:∃p2,aD k.A (o+1)=some p2:=by
    obtain⟨x,hx,_⟩:=(hS.rd i hk) (o+1) (by show o+1<k.n;omega);exact⟨x,hx⟩
   obtain⟨w2,po,aM⟩:=KQ i r _ (vs.set o c) _ (o+1) p2 mE (by rw [l0];simp [eQ]) fo (by omega) (fun u hu=>h1 u (by simp [hu])) m q hq (by omega) (by omega);refine⟨w2,?_,by simpa [v7]using aM⟩;have e1:o+1 - m=o - m+1:=by omega
   rw [e1]at po;simp [storeCells,Jo,run_store _ _ _ _ _ (h1 c (by simp)),hc,hf,po]
theorem ao.UL{b:Nat}(m:Nat)[bJ P t z m b]{a:ag}(i:Nat){k:Ck}{cs:Array ad}(hS:St w0 w ks)(hk:ks[i]?=some k)(ha:ev e a= .pointer (aD k.A o))(hx:ev e x= .agg cs)(lJ:cs.size=m)(tA:cs.toList.all Value.oneCell'=true)(sH:Nat.blt 0 m=true)(AA:Nat.ble (o+m) k.n=true)(hK:∀w',St w0 w' (ks.set i { k with vs:=v7 k.vs o cs.toList })->ao P N ops K rest e w'):ao P N ops K (⟨none,.store t a x,ty,pos,af,none⟩::rest) e w:=by
 have hn:0<m/\o+m<=k.n:=⟨by simpa [Nat.blt_eq]using sH,Nat.le_of_ble_eq_true AA⟩;have h1:∀u∈cs.toList,u.oneCell'=true:=fun u hu=>List.all_eq_true.1 tA u hu
 obtain⟨p,hp,_⟩:=(hS.rd i hk) o (by omega);obtain⟨w',po,mE⟩:=KQ (P:=P) (k:=k) i cs.toList ks k.vs w o p hS hk hp (by simp;omega) h1 o p hp (by omega) (by omega);obtain⟨inf,hi,_,hs,_⟩:=bJ.get P t;refine .unit (w':=w') ?_ (hK _ mE);rw [Nat.sub_self]at po;simp [execOp,Instr.storeAt,ha,hx,hp,Instr.sureAddr,storeVar,sizeOf,typeInfo,hi,hs,Value.cells,lJ,po]
theorem dG{b:Nat}(m:Nat)[bJ P t z m b]{a:ag}(i:Nat){k:Ck}{cs:Array ad}(hS:St w0 w ks)(hk:ks[i]?=some k)(ha:ev e a= .pointer k.A)(hx:ev e x= .agg cs)(lJ:cs.size=m)(h1:cs.toList.all Value.oneCell'=true)(sH:Nat.blt 0 m=true)(AA:Nat.ble (0+m) k.n=true)(hK:∀w',St w0 w' (ks.set i { k with vs:=v7 k.vs 0 cs.toList })->ao P N ops K rest e w'):ao P N ops K (⟨none,.store t a x,ty,pos,af,none⟩::rest) e w:=
 .UL m i hS hk (by rw [ko];exact ha) hx lJ h1 sH AA hK
theorem kB{b:Nat}[bJ P t z 1 b]{a:ag}(i:Nat){k:Ck}(hS:St w0 w ks)(hk:ks[i]?=some k)(ha:ev e a= .pointer (aD k.A j))(hx:ev e x=u)(h1:u.oneCell'=true)(hj:Nat.blt j k.n=true)(hK:∀w',St w0 w' (ks.set i { k with vs:=k.vs.set j u })->ao P N ops K rest e w'):ao P N ops K (⟨none,.store t a x,ty,pos,af,none⟩::rest) e w:= .st hS hk ha hx h1 (by simpa [Nat.blt_eq]using hj) hK
def KH(a n:Nat)(R:ad->aa->Prop):gu
 | .normal,e,w=>∃A f,e a= .pointer A/\Rd w A n f/\R (.agg ((List.range n).map f).toArray) w
 | .ret,e,w=>∃A f,e a= .pointer A/\Rd w A n f/\R (.agg ((List.range n).map f).toArray) w
 | _,_,_=>False
theorem jC{a n:Nat}{R:ad->aa->Prop}{A:aj}{f:Nat->ad}(h:e a= .pointer A)(hR:Rd w A n f)(h2:R (.agg ((List.range n).map f).toArray) w):KH a n R .ret e w:=⟨A,f,h,hR,h2⟩
theorem KP{fs:Array Field}{b n:Nat}[bG P t (.struct fs)][bJ P t z n b]{A:aj}{f:Nat->ad}(hn:0<n)(hR:Rd w A n f):∃q,A=some q/\(loadVar t q).run P w= .ok (.agg ((List.range n).map f).toArray) w:=by
 obtain⟨p,hp,_⟩:=hR 0 hn;obtain⟨q,rfl⟩:∃q,A=some q:=by cases A with | none=>simp [aD]at hp | some q=>exact⟨q,rfl⟩
 obtain⟨inf,hi,fH,hs,iT⟩:=bJ.get P t;have hl:=run_loadCells (P:=P) w q n f (fun j hj=>by
  obtain⟨p,hp,hc⟩:=hR j hj;simp [aD]at hp;rw [hp];exact hc)
 exact⟨q,O,by simp [loadVar,isAgg,run_underlying (bG.out (P:=P) (t:=t)),sizeOf,typeInfo,hi,hs,hl]⟩
theorem pD{fn:Func}{R:ad->aa->Prop}{a t n b:Nat}{fs:Array Field}[bG P t (.struct fs)][bJ P t z n b](hr:fn.results= #[.cell a t])(tZ:Nat.blt 0 n=true):∀x a1 e w,gC N a1 e->KH a n R x e w->bodyPost P fn (fun x w'=>∃v,x= .returned v/\R v w') x a1 w:=by
 intro x a1 e w he q;have hn:0<n:=by simpa [Nat.blt_eq]using tZ
 have hg:=he.get a;have key:∀(A:aj) (f:Nat->ad),e a= .pointer A->Rd w A n f->(results fn a1.tmps).run P w= .ok (.agg ((List.range n).map f).toArray) w:=by
  intro A f hA hR;obtain⟨q,rfl,hl⟩:=KP (P:=P) (t:=t) hn hR;rw [fU]at hg;simp [results,hr,hg,hA,asAddr,hl]
 cases x<;>first
  | exact q.elim
  | (
   obtain⟨A,f,hA,hR,h2⟩:=q;exact⟨he.defers,_,key A f hA hR,_,O,h2⟩)
def cutAt(A:aj)(c l:Nat):aj:=if c=l then A else aD A l
theorem Rd.cut{A:aj}{n c l:Nat}{f:Nat->ad}(hR:Rd w A n f)(hl:l<=h)(hn:h<=n)(hc:n<=c):Rd w (cutAt A c l) (h - l) (fun j=>f (l+j)):=fun j hj=>by
 obtain⟨p,hp,PH⟩:=hR (l+j) (by omega);refine⟨p,?_,PH⟩;unfold cutAt;rw [aC (by omega)];cases A with
 | none=>simp [aD]at hp
 | some q=>
  simp only [aD,Option.map_some,lF]at hp|-;rw [<-hp];unfold Addr.add
  by_cases rq:l=0<;>by_cases Qc:j=0<;>simp [rq,Qc,Nat.add_assoc]
theorem bu.cut{A:aj}{n c l:Nat}(hR:bu w A n xs)(hl:l<=h)(hn:h<=n)(hc:n<=c):bu w (cutAt A c l) (h - l) ((xs.drop l).take (h - l)):=
 ⟨by have:=hR.1;simp;omega,(hR.2.cut hl hn hc).congr fun j hj=>by simp [cz,pN,hj]⟩
theorem im.cut{A:aj}{n c l:Nat}{xs:List aL}(hR:im w A n xs)(hl:l<=h)(hn:h<=n)(hc:n<=c):im w (cutAt A c l) (h - l) ((xs.drop l).take (h - l)):=
 ⟨by have:=hR.1;simp;omega,(hR.2.cut hl hn hc).congr fun j hj=>by simp [cz,pN,hj]⟩
theorem Cc{el:ae}{b:Nat}[hU:bG P t (.slice el)][bJ P el z 1 b]{A:aj}{n c:Nat}{k:IntKind}{l:Int}(hx:ev e x= .slice A n c)(hl:ev e lo= .int k l)(hb:Nat.blt d N=true)(h0:0<=l/\l<=(n:Int))(hK:ao P N ops K rest (bj e d (.slice (cutAt A c l.toNat) (n - l.toNat) (c - l.toNat))) w):ao P N ops K (⟨some d,.slice t x (some lo) none none,ty,pos,af,none⟩::rest) e w:=by
 obtain⟨inf,hi,fH,hs,iT⟩:=bJ.get P el;refine .val (w':=w) ?_ hb hK;have:=run_sliceBound (P:=P) w k l n .sliceB h0.1 h0.2;simp [execOp,hx,hl,Instr.sliceAt,run_underlying hU.out,Instr.slice,Instr.sliceBounds,this,sizeOf,typeInfo,hi,hs,cutAt,aD]
theorem yZ{el:ae}{b:Nat}[hU:bG P t (.slice el)][bJ P el z 1 b]{A:aj}{n c:Nat}{k:IntKind}{h:Int}(hx:ev e x= .slice A n c)(hh:ev e eK= .int k h)(hb:Nat.blt d N=true)(h0:0<=h/\h<=(c:Int))(hK:ao P N ops K rest (bj e d (.slice A h.toNat c)) w):ao P N ops K (⟨some d,.slice t x none (some eK) none,ty,pos,af,none⟩::rest) e w:=by
 obtain⟨inf,hi,fH,hs,iT⟩:=bJ.get P el;refine .val (w':=w) ?_ hb hK;have:=run_sliceBound (P:=P) w k h c .sliceAcap h0.1 h0.2;have hA:A.map (fun x=>x.add 0)=A:=by cases A<;>simp [Addr.add]
 simp [execOp,hx,hh,Instr.sliceAt,run_underlying hU.out,Instr.slice,Instr.sliceBounds,this,sizeOf,typeInfo,hi,hs,hA]
theorem Uq{el:ae}{b:Nat}[hU:bG P t (.slice el)][bJ P el z 1 b](hz:z.cells= #[z0]){k:Ck}(i:Nat)(hS:St w0 w ks)(hk:ks[i]?=some k)(hM:eg k.vs=false)(he:k.e=el){m:Nat}{f:Nat->ad}(hR:Rd w A' m f)(h1:∀j,j<m->(f j).oneCell'=true)
 (sg:k.n+m<=maxLen) (sA:(k.n+m)*b<=140737488355328) (ty:ae):
 ∃A2 c2 w',(Builtin.append_ #[t,t] ty #[.slice k.A k.n k.c,.slice A' m c']).run P w= .ok (.slice A2 (k.n+m) c2) w'/\St w0 w' (ks.set i ⟨A2,k.n+m,c2,el,k.vs++ (List.range m).map f⟩)/\(k.n=k.c->Below w.heap.size w w'):=by
 subst he;obtain⟨inf,hi,fH,hs,iT⟩:=bJ.get P k.e;have Et:=hS.qc hk hM;have DF:eg (k.vs++ (List.range m).map f)=false:=Ry hM (rE fun u hu=>by
  obtain⟨j,hj,rfl⟩:=fh.1 hu;exact h1 j (by simpa using hj))
 obtain⟨hl,oC,lk,h4⟩:=Et;have xA:=(fY.1 hk).1
 by_cases hm:m=0
 ·subst hm;refine⟨k.A,k.c,w,?_,?_,fun _=>Below.refl _ _⟩
  ·cases A' with
   | none=>cases Qg:k.A<;>simp [Builtin.append_,run_underlying hU.out,sizeOf,typeInfo,hi,Builtin.lenOf,Builtin.firstCells,oC,storeCells]
   | some a=>
    have rq:=run_loadCells (P:=P) w a 0 f (fun j hj=>by omega);cases Qg:k.A<;>simp [Builtin.append_,run_underlying hU.out,sizeOf,typeInfo,hi,Builtin.lenOf,Builtin.firstCells,oC,storeCells,loadCells,loadCellsFrom]
  ·have:ks.set i ⟨k.A,k.n+0,k.c,k.e,k.vs++ (List.range 0).map f⟩=ks:=by
    have h5:(⟨k.A,k.n+0,k.c,k.e,k.vs++ (List.range 0).map f⟩:Ck)=k:=by simp
    rw [h5];apply List.ext_getElem?;intro j;rw [l0]
    split
    ·rename_i e;subst e;rw [hk]
     try simp [xA]
    ·rfl
   rw [this];exact hS
 ·obtain⟨a,rfl⟩:∃a,A'=some a:=by
   obtain⟨p,hp,_⟩:=hR 0 (by omega);cases A' with | none=>simp [aD]at hp | some q=>exact⟨q,rfl⟩
  have gU:((List.range m).map f).length=m:=by simp
  have xN:∀j v,((List.range m).map f)[j]?=some v->w.cell? (a.add j)=some v:=by
   intro j v hj;have Al:j<m:=by have:=(fY.1 hj).1;simpa using this
   obtain⟨p,hp,hc⟩:=hR j Al;simp only [aD,Option.map_some,lF]at hp;rw [hp,hc,<-hj];simp [Al]
  have tA:∀u∈(List.range m).map f,u.oneCell'=true:=by
   intro u hu;obtain⟨j,hj,rfl⟩:=fh.1 hu;exact h1 j (by simpa using hj)
  have fresh:∀(cs:List ad) (c2:Nat),eg cs=false->k.n+m<=c2->c2<=maxLen->cs.length=c2->cs.take (k.n+m)=k.vs++ (List.range m).map f->
   St w0 (w.drew.alloc (.cells cs.toArray k.e)) (ks.set i ⟨some ⟨w.heap.size,0,none⟩,k.n+m,c2,k.e,k.vs++ (List.range m).map f⟩):=by
   intro cs c2 OJ h5 h6 h7 h8;have hA:=hS.drew.alloc cs k.e (by omega) OJ;have hp:(⟨some ⟨w.heap.size,0,none⟩,cs.length,cs.length,k.e,cs⟩::ks).Perm (k::(ks.set i ⟨some ⟨w.heap.size,0,none⟩,cs.length,cs.length,k.e,cs⟩)):=by
    have gen:∀(l:List Ck) (i:Nat) (x y:Ck),l[i]?=some y->(x::l).Perm (y::l.set i x):=by
     intro l
     induction l with
     | nil=>intro i x y h;simp at h
     | cons u l ih=>
      intro i x y h;cases i with
      | zero=>simp at h;subst h;exact List.Perm.swap _ _ _
      | succ i=>
       simp only [List.getElem?_cons_succ]at h;simp only [List.set_cons_succ];exact(List.Perm.swap _ _ _).trans (((ih i x y h).cons u).trans (List.Perm.swap _ _ _))
    exact gen ks i _ _ hk
   have hB:=(hA.perm hp).tail;refine⟨hB.below,fun x hx=>?_,?_⟩
   ·obtain⟨j,hj,rfl⟩:=eZ.1 hx;have jS:j<ks.length:=by simpa using hj
    rw [List.getElem_set]
    split
    ·refine .oP DF ⟨?_,h5,h6,.inr ⟨w.heap.size,0,cs.toArray,O,hS.below.size,heap_alloc_new w.drew _,by simp;omega,fun q hq=>?_⟩⟩
     ·simp [hl]
     ·have AM:q<k.n+m:=hq;show cs.toArray[0+q]?=(k.vs++ (List.range m).map f)[q]?;rw [<-h8];simp [pN,AM]
    ·rename_i bL;refine hB.own _ (eZ.2 ⟨j,by simpa using jS,?_⟩);rw [List.getElem_set,aC bL]
   ·have h9:=hB.apart;rw [show(ks.set i ⟨some ⟨w.heap.size,0,none⟩,k.n+m,c2,k.e,k.vs++ (List.range m).map f⟩).filterMap Ck.fQ=(ks.set i ⟨some ⟨w.heap.size,0,none⟩,cs.length,cs.length,k.e,cs⟩).filterMap Ck.fQ from ?_]
    ·exact h9
    ·have:=zu Ck.fQ (ks.set i ⟨some ⟨w.heap.size,0,none⟩,cs.length,cs.length,k.e,cs⟩) i ⟨some ⟨w.heap.size,0,none⟩,cs.length,cs.length,k.e,cs⟩ ⟨some ⟨w.heap.size,0,none⟩,k.n+m,c2,k.e,k.vs++ (List.range m).map f⟩ (by rw [l0];simp [xA]) O;rw [<-this];simp
  have OK:((k.n+m:Nat):Int)<=9223372036854775807:=by simp only [maxLen]at sg;omega
  rcases h4 with⟨hA,h0⟩ | ⟨g,o,cur,hA,hg,hh,kK,hc⟩
  ·have pf:k.n=0:=by omega
   have yc:k.vs=[]:=pM (by omega);have hr:=run_append_nil (P:=P) w t ty k.e inf z hU.out hi fH a m c' _ (by rw [gU,hs,Nat.mul_one]) xN (by omega) (by omega) (by rw [iT];rw [pf,Nat.zero_add]at sA;omega);have vo:=grownCap_ge w m 0 k.e;refine⟨_,_,_,?_,fresh (((List.range m).map f)++List.replicate (grownCap w m 0 k.e - m) z0) (grownCap w m 0 k.e) (EU (rE tA) (by intro hn;have:=aH List.length hn;simp at this;omega)) (by omega) (grownCap_le_maxLen w m 0 k.e (by omega)) (by simp;omega) (by rw [yc,pf];simp),fun _=> (Below.refl w.heap.size w).drew.alloc (dh _) _⟩;have EN:Builtin.zeroCells z.cells (grownCap w m 0 k.e - m)=(List.replicate (grownCap w m 0 k.e - m) z0).toArray:=by
    rw [hz];simp only [Builtin.zeroCells];exact(show _=_ from by have:=E8 z0 (grownCap w m 0 k.e - m);simpa [madeCells]using this)
   rw [hA,h0,pf,Nat.zero_add,hr,EN,List.append_toArray]
  ·by_cases EA:k.n+m<=k.c
   ·have hf:=run_firstCells_some (P:=P) w inf.size m a m c' _ (by rw [gU,hs,Nat.mul_one]) xN;have ax:=run_storeCells_at P g (o+k.n) k.e ((List.range m).map f) 0 cur w hh (by rw [gU];omega) tA;simp only [Nat.add_zero]at ax;refine⟨some ⟨g,o,none⟩,k.c,_,?_,hS.turn (k:=k) (g:=g) hk (by simp [Ck.fQ,hA]) (by simp [Ck.fQ]) (w':=w.setRow g (cur.toList.take (o+k.n)++ (List.range m).map f++cur.toList.drop (o+k.n+ ((List.range m).map f).length)).toArray) ?_ ?_,fun h=>absurd EA (by omega)⟩
    ·rw [hA];simp [Builtin.append_,run_underlying hU.out,sizeOf,typeInfo,hi,hs,Builtin.lenOf,EA,Addr.add_lit];rw [hs]at hf;simp only [lC,pO]at ax|-;simp [hf,ax]
    ·exact⟨⟨O,O,O,by simp,fun x _ hx=>setRow_other w g x _ (fun e=>hx (by rw [e]))⟩,dh _⟩
    ·refine .oP DF ⟨by simp [hl],EA,lk,.inr ⟨g,o,_,O,hg,setRow_heap w g cur _ k.e _ hh,?_,fun j hj=>?_⟩⟩
     ·simp;omega
     ·have jS:j<k.n+m:=hj;show((cur.toList.take (o+k.n)++ (List.range m).map f++cur.toList.drop (o+k.n+ ((List.range m).map f).length)).toArray)[o+j]?=(k.vs++ (List.range m).map f)[j]?;have cT:cur.toList.length=cur.size:=by simp
      rw [List.getElem?_toArray]
      by_cases tU:j<k.n
      ·rw [ig,lY (by simp;omega),pN,aF (by omega),lY (by omega)];rw [Array.getElem?_toList];exact hc j tU
      ·rw [ig,lZ (by simp;omega),lY (by simp;omega),lZ (by omega)]
       congr 1
       simp;omega
   ·have holds:∀j v,k.vs[j]?=some v->w.cell? ((⟨g,o,none⟩:Addr).add j)=some v:=by
     intro j v hj;have tU:j<k.n:=by have:=(fY.1 hj).1;omega
     rw [wA];simp only [World.cell?,hh];simpa [hc j tU]using hj
    have hr:=run_append_grow (P:=P) w t ty k.e inf z hU.out hi fH ⟨g,o,none⟩ k.n k.c k.vs (by rw [hl,hs,Nat.mul_one]) holds a m c' _ (by rw [gU,hs,Nat.mul_one]) xN (by omega) OK (growslice_fits (by omega) (by rw [iT];exact sA));have vo:=grownCap_ge w (k.n+m) k.c k.e;refine⟨_,_,_,?_,fresh (k.vs++ (List.range m).map f++List.replicate (grownCap w (k.n+m) k.c k.e - (k.n+m)) z0) (grownCap w (k.n+m) k.c k.e) (EU DF (by intro hn;have:=aH List.length hn;simp at this;omega)) (by omega) (grownCap_le_maxLen w (k.n+m) k.c k.e sg) (by simp [hl];omega) (by rw [uH (by simp [hl])];exact lD (by simp [hl])),fun _=> (Below.refl w.heap.size w).drew.alloc (dh _) _⟩;have EN:Builtin.zeroCells z.cells (grownCap w (k.n+m) k.c k.e - (k.n+m))=(List.replicate (grownCap w (k.n+m) k.c k.e - (k.n+m)) z0).toArray:=by
     rw [hz];simp only [Builtin.zeroCells];exact(show _=_ from by have:=E8 z0 (grownCap w (k.n+m) k.c k.e - (k.n+m));simpa [madeCells]using this)
    rw [hA,hr,EN,List.append_toArray,List.append_toArray]
theorem ao.app{el:ae}{b:Nat}[hU:bG P t (.slice el)][bJ P el z 1 b]{k:Ck}(i:Nat){m:Nat}{f:Nat->ad}(hS:St w0 w ks)(hk:ks[i]?=some k)(hR:Rd w A' m f)(hx:ev e x= .slice k.A k.n k.c)(hy:ev e y= .slice A' m c')(he:k.e=el)(hz:z.cells= #[z0])(h1:∀j,j<m->(f j).oneCell'=true)(sg:k.n+m<=maxLen)(sA:(k.n+m)*b<=140737488355328)(hb:Nat.blt d N=true)(hK:∀A2 c2 w',St w0 w' (ks.set i ⟨A2,k.n+m,c2,el,k.vs++ (List.range m).map f⟩)->ao P N ops K rest (bj e d (.slice A2 (k.n+m) c2)) w')(hM:eg k.vs=false:=by first | rfl | exact qx _ | exact yn _ | exact Bg _):
 ao P N ops K (⟨some d,.call ⟨.builtin .append, #[x,y], #[t,t]⟩,ty,pos,af,none⟩::rest) e w:=by
 obtain⟨A2,c2,w',hr,mE,_⟩:=Uq (P:=P) (t:=t) hz i hS hk hM he hR h1 sg sA ty (c':=c');refine .val (w':=w') ?_ hb (hK _ _ _ mE);simp [execOp,resolve,invoke,builtin,hx,hy,hr]
end
inductive Yd where
 | ex (v:ad)
 | pr (p:ad->aa->Prop)
def Yd.holds:Yd->ad->aa->Prop
 | .ex v,u,_=>u=v
 | .pr p,u,w=>p u w
def Yd.nL:Yd->Prop
 | .ex _=>True
 | .pr p=>∀v w w',p v w->Below w.heap.size w w'->p v w'
theorem Yd.SH(v:ad):(Yd.ex v).nL:=True.intro
theorem lx{v:ad}{l:List Yd}(h:∀y∈l,y.nL):∀y∈Yd.ex v::l,y.nL:=cM.2 ⟨True.intro,h⟩
theorem Yd.cN{p:ad->aa->Prop}(h:∀v w w',p v w->Below w.heap.size w w'->p v w'):(Yd.pr p).nL:=h
abbrev xU:Yd:= .ex undef
abbrev xI(i:Int):Yd:= .ex (ak i)
abbrev xB(b:Bool):Yd:= .ex (.bool b)
abbrev xP(a:aj):Yd:= .ex (.pointer a)
abbrev xS(a:aj)(n c:Nat):Yd:= .ex (.slice a n c)
theorem Mi{y:Yd}(hl:y.nL){v:ad}{w w':aa}(h:y.holds v w)(hb:Below w.heap.size w w'):y.holds v w':=by
 cases y with
 | ex u=>exact h
 | pr p=>exact hl v w w' h hb
def eU(ds:List Nat)(i:Nat):Bool:=match ds with
 | []=>false
 | d::r=>bif Nat.beq i d then true else eU r i
theorem sV{ds:List Nat}{i:Nat}:eU ds i=true↔i∈ds:=by
 induction ds with
 | nil=>simp [eU]
 | cons d r ih=>
  simp only [eU,kT];cases hb:Nat.beq i d with
  | true=>simp [kz hb]
  | false=>
   have:i≠d:=fun e=>by subst e;simp at hb
   simp [this,ih]
def mix(e1 e:Env)(ds:List Nat):Env:=fun i=>bif eU ds i then e1 i else e i
def dS(o:Oper):List Edge:=o.after.toList.filter (Region.binds .any)
theorem ml{o:Oper}{ed:Edge}:ed∈dS o↔ed∈o.after/\Region.binds .any ed=true:=by
 simp [dS]
def dK(o:Oper):Nat:=match o.dst with
 | some d=>d
 | none=>0
def G1(N:Nat)(l:List Oper):Bool:=
 l.all (fun o=>match o.dst with | some d=>Nat.blt d N | none=>false) && decide ((l.map dK).Nodup) && (l.zipIdx.all fun p=> (dS p.1).all fun ed=>Nat.blt ed.on p.2)
def o5(l:List Oper)(ys:List Yd):List Edge->List (Nat×ad)
 | []=> []
 | ed::r=>match ys[ed.on]? with
  | some (.ex v)=> (((l[ed.on]?).map dK).getD 0,v)::o5 l ys r
  | _=>o5 l ys r
def pZ:List Oper->List Yd->(Nat->ad)->Nat->List (Nat×ad)
 | o::l,.ex v::ys,u,i=> (dK o,v)::pZ l ys u (i+1)
 | o::l,.pr _::ys,u,i=> (dK o,u i)::pZ l ys u (i+1)
 | _,_,_,_=> []
def gv(l:List Oper):Nat->Nat->Nat->Bool
 | 0,_,_=>false
 | f+1,k,j=>match l[k]? with
  | some o=> (dS o).any fun ed=>Nat.beq ed.on j || gv l f ed.on j
  | none=>false
theorem r6{l:List Oper}{listed:Array Bool}(cT:∀(i:Nat) (o:Oper),listed.getD i false=true->l[i]?=some o->∀ed∈dS o,listed.getD ed.on false=true):∀(f k j:Nat),gv l f k j=true->listed.getD k false=true->listed.getD j false=true
 | 0,k,j,h,_=>by simp [gv]at h
 | f+1,k,j,h,hk=>by
  simp only [gv]at h
  split at h
  ·rename_i o ho;rw [List.any_eq_true]at h;obtain⟨ed,eo,h⟩:=h;have h1:=cT k o hk ho ed eo;rw [Bool.or_eq_true]at h;rcases h with h | h
   ·rw [<-kz h];exact h1
   ·exact r6 cT f ed.on j h h1
  ·cases h
theorem Co{l:List Oper}{listed:Array Bool}(cT:∀(i:Nat) (o:Oper),listed.getD i false=true->l[i]?=some o->∀ed∈dS o,listed.getD ed.on false=true){k:Nat}{o:Oper}(ho:l[k]?=some o)(hr:∀ed∈dS o,listed.getD ed.on false=true):∀(f j:Nat),gv l f k j=true->listed.getD j false=true
 | 0,j,h=>by simp [gv]at h
 | f+1,j,h=>by
  simp only [gv,ho]at h;rw [List.any_eq_true]at h;obtain⟨ed,eo,h⟩:=h;have h1:=hr ed eo;rw [Bool.or_eq_true]at h;rcases h with h | h
  ·rw [<-kz h];exact h1
  ·exact r6 cT f ed.on j h h1
section
variable{i d id:Nat}{e1:Env}{w1 w2 w:aa}{y:Yd}{ops:Array Oper}{o:Oper}
variable {P:Program} {N:Nat} {e:Env} {w:aa}
def gK(i:Nat)(e1:Env)(w1:aa)(d:Nat)(y:Yd):Env->aa->Prop:=fun e2 w2=>Below w1.heap.size w1 w2/\y.holds (e2 d) w2/\∀j,j≠d->e2 j=e1 j
theorem gK.dn{v:ad}(hb:Below w1.heap.size w1 w2)(hv:y.holds v w2):gK i e1 w1 d y (bj e1 d v) w2:=by
 refine⟨hb,?_,fun j hj=>?_⟩
 ·have:bj e1 d v d=v:=by unfold bj;rw [Nat.beq_refl];rfl
  rw [this];exact hv
 ·have:Nat.beq j d=false:=by
   cases h:Nat.beq j d with
   | false=>rfl
   | true=>exact absurd (kz h) hj
  unfold bj;rw [this];rfl
theorem d0{v:ad}(hv:y.holds v w1):gK i e1 w1 d y (bj e1 d v) w1:=gK.dn (Below.refl _ _) hv
theorem Az{v:ad}(hv:y.holds v w1:=by exact O):ao P N ops (gK i e1 w1 d y) [] (bj e1 d v) w1:=ao.n (gK.dn (Below.refl _ _) hv)
def pF(ops:Array Oper)(N:Nat)(e:Env)(o:Oper):Option (Nat×ad):=
 match o.guard with
 | none=>nS N e o
 | some (j,want)=>match o.dst,(ops[j]?).bind (·.dst)with
  | some d,some dj=> (match Nat.blt dj N,Nat.blt d N with
   | true,true=> (match e dj with
    | .bool b=> (match b,want with
     | true,true=>nS N e ⟨some d,o.op,o.type,o.pos,o.after,none⟩
     | false,false=>nS N e ⟨some d,o.op,o.type,o.pos,o.after,none⟩
     | true,false=>some (d,undef)
     | false,true=>some (d,undef))
    | .tuple vs=> (match vs.toList with
     | []=>some (d,undef)
     | _=>none)
    | _=>none)
   | _,_=>none)
  | _,_=>none
theorem ao.pF{K:Env->aa->Prop}{v:ad}(h:pF ops N e1 o=some (d,v))(hK:K (bj e1 d v) w1):ao P N ops K [o] e1 w1:=by
 obtain⟨dst,op,ty,pos,af,gd⟩:=o;unfold Vc.pF at h
 split at h
 ·exact .nS h (ao.n hK)
 rename_i j want hg;simp only at hg;subst hg
 split at h
 ·rename_i d' dj hd hj;simp only at hd;subst hd
  split at h
  ·rename_i eQ hb
   split at h
   ·rename_i b he
    split at h
    ·exact Wz hj eQ he (.nS h (ao.n hK))
    ·exact Wz hj eQ he (.nS h (ao.n hK))
    ·simp only [lF,Prod.mk.injEq]at h;obtain⟨rfl,rfl⟩:=h;exact WA hj eQ he O hb (ao.n hK)
    simp only [lF,Prod.mk.injEq]at h;obtain⟨rfl,rfl⟩:=h;exact WA hj eQ he O hb (ao.n hK)
   ·rename_i vs he
    split at h
    ·rename_i hv;have hu:vs= #[]:=by cases vs;simp only at hv;rw [hv]
     subst hu;simp only [lF,Prod.mk.injEq]at h;obtain⟨rfl,rfl⟩:=h;exact cg hj eQ he hb (ao.n hK)
    cases h
   cases h
  cases h
 cases h
theorem KY{v:ad}(h:pF ops N e1 o=some (d,v)):o.dst=some d:=by
 have key:∀(o:Oper),nS N e1 o=some (d,v)->o.dst=some d:=fun o h=>by
  unfold nS at h
  split at h
  ·rename_i d' hg hd
   split at h
   ·split at h
    ·simp only [lF,Prod.mk.injEq]at h;rw [hd,h.1]
    cases h
   cases h
  cases h
 unfold pF at h
 split at h
 ·exact key _ h
 split at h
 ·rename_i d' dj hd hj;rw [hd]
  split at h
  ·split at h
   ·split at h
    ·exact key _ h
    ·exact key _ h
    ·simp only [lF,Prod.mk.injEq]at h;rw [h.1]
    simp only [lF,Prod.mk.injEq]at h;rw [h.1]
   ·split at h
    ·simp only [lF,Prod.mk.injEq]at h;rw [h.1]
    cases h
   cases h
  cases h
 cases h
theorem Dk{v:ad}(h:pF ops N e1 o=some (d,v))(hv:y.holds v w1):ao P N ops (gK i e1 w1 d y) [o] e1 w1:= .pF h (gK.dn (Below.refl _ _) hv)
def Mj:Yd->Bool
 | .ex _=>true
 | .pr _=>false
theorem dV{l:List Yd}(h:l.all Mj=true):∀y∈l,y.nL:=fun y hy=>by
 have:=List.all_eq_true.1 h y hy;cases y with
 | ex v=>exact True.intro
 | pr p=>cases this
def wj(P:Program)(N:Nat)(l:List Oper)(ys:List Yd)(e:Env)(w:aa):Nat->List Oper->Prop
 | _,[]=>True
 | i,o::r=> (∀e1 w1,Below w.heap.size w w1->(∀j,j<l.length->eU ((dS o).map (·.on)) j=true->∀(y:Yd) (o':Oper),ys[j]?=some y->l[j]?=some o'->y.holds (e1 (dK o')) w1)->(∀(j:Nat) (o':Oper),l[j]?=some o'->gv l l.length j i=true->e1 (dK o')=e (dK o'))-> 
  ao P N l.toArray (gK i (ext (mix e1 e (l.map dK)) (o5 l ys (dS o))) w1 (dK o) (ys.getD i (.pr fun _ _=>True))) [o] (ext (mix e1 e (l.map dK)) (o5 l ys (dS o))) w1)/\wj P N l ys e w (i+1) r
theorem Dr{l:List Oper}{ys:List Yd}{v:ad}(h:(ys.getD i (.pr fun _ _=>True),fun e1=>pF l.toArray N (ext (mix e1 e (l.map dK)) (o5 l ys (dS o))) o)=(.ex v,fun _=>some (d,v))):∀e1 w1,Below w.heap.size w w1->(∀j,j<l.length->eU ((dS o).map (·.on)) j=true->∀(y:Yd) (o':Oper),ys[j]?=some y->l[j]?=some o'->y.holds (e1 (dK o')) w1)->(∀(j:Nat) (o':Oper),l[j]?=some o'->gv l l.length j i=true->e1 (dK o')=e (dK o'))->ao P N l.toArray (gK i (ext (mix e1 e (l.map dK)) (o5 l ys (dS o))) w1 (dK o) (ys.getD i (.pr fun _ _=>True))) [o] (ext (mix e1 e (l.map dK)) (o5 l ys (dS o))) w1:=fun e1 w1 _ _ _=>by
 have h1:=congrFun (Prod.mk.inj h).2 e1;have hd:dK o=d:=by unfold dK;rw [KY h1]
 rw [hd,(Prod.mk.inj h).1];exact Dk h1 rfl
theorem wj.get{l:List Oper}{ys:List Yd}:∀ {r:List Oper} {i:Nat},wj P N l ys e w i r->∀k o,r[k]?=some o->∀e1 w1,Below w.heap.size w w1->(∀j,j<l.length->eU ((dS o).map (·.on)) j=true->∀(y:Yd) (o':Oper),ys[j]?=some y->l[j]?=some o'->y.holds (e1 (dK o')) w1)->(∀(j:Nat) (o':Oper),l[j]?=some o'->gv l l.length j (i+k)=true->e1 (dK o')=e (dK o'))-> 
 ao P N l.toArray (gK (i+k) (ext (mix e1 e (l.map dK)) (o5 l ys (dS o))) w1 (dK o) (ys.getD (i+k) (.pr fun _ _=>True))) [o] (ext (mix e1 e (l.map dK)) (o5 l ys (dS o))) w1
 | [],_,_,k,o,hk=>by simp at hk
 | x::r,i,h,0,o,hk=>by simp at hk;subst hk;exact h.1
 | x::r,i,h,k+1,o,hk=>by
  have:=wj.get h.2 k o (by simpa using hk);simpa [Nat.add_assoc,Nat.add_comm 1 k]using this
theorem Ca{a:Act}{K K2:Act->aa->Prop}{Q Q2:Exit->Act->aa->Prop}(h:o.wp P a w K Q)(hK:∀a w,K a w->K2 a w)(hQ:∀x a w,x≠ .normal->¬Q x a w):o.wp P a w K2 Q2:=by
 unfold Oper.wp at*;generalize (execOp a.eval o).run P w=r at*;cases r with
 | ok n w'=>
  cases n<;>simp only [Oper.upon]at h|-<;>first
   | exact hK _ _ h
   | (
    refine Calls.mono h fun x jY hx=>?_
    cases x with
    | returned v=>exact hK _ _ hx
    | panicked ch=>exact absurd hx (hQ _ _ _ (by simp))
    | outgrown=>obtain⟨a0,w0,hx⟩:=hx;exact absurd hx (hQ _ _ _ (by simp)))
   | exact Rows.mono h fun v jY hx=>hK _ _ hx
 | halt x w'=>
  cases x<;>simp only [Oper.upon]at h|-
  exact absurd h (hQ _ _ _ (by simp))
theorem Bo{e:Env}{ds:List Nat}(h:∀j,eU ds j=false->e1 j=e j):mix e1 e ds=e1:=by
 funext j;unfold mix;cases hm:eU ds j with
 | true=>rfl
 | false=>exact(h j hm).symm
theorem GZ{l:List Oper}{ys:List Yd}{e1:Env}{w1:aa}:∀(af:List Edge),(∀ed∈af,ed.on<l.length)->(∀j,eU (af.map (·.on)) j=true->∀(y:Yd) (o':Oper),ys[j]?=some y->l[j]?=some o'->y.holds (e1 (dK o')) w1)->Mt e1 (o5 l ys af)
 | [],_,_=>av
 | ed::r,eQ,h=>by
  have hr:=GZ r (fun x hx=>eQ x (oY _ hx)) (fun j hj=>h j (by rw [sV]at hj|-;exact oY _ hj));unfold o5
  split
  ·rename_i v hy;have hl:=eQ ed (by simp);refine⟨?_,hr⟩;rw [eS hl];exact h ed.on (by rw [sV];simp) _ _ hy (eS hl)
  ·exact hr
theorem G4{e1 e:Env}{w1:aa}:∀(l:List Oper) (ys:List Yd) (i:Nat),l.length=ys.length->(l.map dK).Nodup->(∀(k:Nat) (y:Yd) (o:Oper),ys[k]?=some y->l[k]?=some o->y.holds (e1 (dK o)) w1)->
 ∃u:Nat->ad,ext e (pZ l ys u i)=mix e1 e (l.map dK)/\(∀(k:Nat) (o:Oper),l[k]?=some o->u (i+k)=e1 (dK o))
 | [],[],i,_,_,_=> ⟨fun _=>undef,by funext j;rfl,fun k o h=>by simp at h⟩
 | [],y::ys,i,hl,_,_=>by simp at hl
 | o::l,[],i,hl,_,_=>by simp at hl
 | o::l,y::ys,i,hl,hn,h=>by
  simp only [List.map_cons,mZ]at hn;obtain⟨u,hu,mN⟩:=G4 (e1:=e1) (e:=e) (w1:=w1) l ys (i+1) (by simpa using hl) hn.2 (fun k y o hy ho=>h (k+1) y o (by simpa using hy) (by simpa using ho));have h0:=h 0 y o O O;have CG:∀(l:List Oper) (ys:List Yd) (i:Nat) (u u':Nat->ad),(∀k,i<=k->u k=u' k)->pZ l ys u i=pZ l ys u' i:=by
   intro l
   induction l with
   | nil=>intros;rfl
   | cons o l ih=>
    intro ys i u u' hk;cases ys with
    | nil=>rfl
    | cons y ys=>
     cases y with
     | ex v=>simp only [pZ];rw [ih ys (i+1) u u' (fun k fF=>hk k (by omega))]
     | pr p=>simp only [pZ];rw [ih ys (i+1) u u' (fun k fF=>hk k (by omega)),hk i (by omega)]
  refine⟨fun k=>if k=i then e1 (dK o)else u k,?_,fun k o' hk=>?_⟩
  ·have hc:=CG l ys (i+1) (fun k=>if k=i then e1 (dK o)else u k) u (fun k hk=>by rw [aC (by omega)]);have lO:∀v,v=e1 (dK o)->bj (mix e1 e (l.map dK)) (dK o) v=mix e1 e ((o::l).map dK):=by
    intro v hv;funext j;simp only [bj,mix,List.map_cons,eU];cases hb:Nat.beq j (dK o)with
    | true=>rw [kz hb,hv];rfl
    | false=>rfl
   cases y with
   | ex v=>
    simp only [pZ,ext,hc,hu];exact lO v h0.symm
   | pr p=>
    simp only [pZ,ext,hc,hu,aF];exact lO _ O
  ·cases k with
   | zero=>simp at hk;subst hk;simp
   | succ k=>
    have:=mN k o' (by simpa using hk);show(if i+ (k+1)=i then _ else u (i+ (k+1)))=_;rw [aC (by omega),<-this];congr 1;omega
theorem uW(p p':Nat->Bool)(i:Nat)(hi:p i=false)(hp:∀k,p' k=if k=i then true else p k):∀(l:List Nat),l.Nodup->i∈l->l.countP p'=l.countP p+1
 | [],_,h=>by cases h
 | x::l,hn,h=>by
  have QJ:∀(l:List Nat),¬i∈l->l.countP p'=l.countP p:=by
   intro l hl;exact List.countP_congr fun k hk=>by rw [hp k,aC (by rintro rfl;exact hl hk)]
  simp only [mZ]at hn;simp only [List.countP_cons]
  by_cases hx:x=i
  ·subst hx;rw [QJ l hn.1,hp x,aF rfl,hi];simp
  ·have xC:i∈l:=by
    rcases kT.1 h with h | h
    ·exact absurd h.symm hx
    ·exact h
   rw [uW p p' i hi hp l hn.2 xC,hp x,aC hx];omega
theorem WK{l:List Oper}{Q:gu}(ys:List Yd)(hm:P.follows .mixedOrders=true)(b8:G1 N l=true)(hlen:Nat.beq l.length ys.length=true)(An:∀y∈ys,y.nL)
 (x8:wj P N l ys e w 0 l) (rj:∀u w1,Below w.heap.size w w1->(∀(k:Nat) (p:ad->aa->Prop),ys[k]?=some (Yd.pr p)->p (u k) w1)->Q .normal (ext e (pZ l ys u 0)) w1):Cd P N (.region id l.toArray true) Q e w:= .mk' fun a ha=>by
 have qo:l.length=ys.length:=kz hlen;simp only [G1,Bool.and_eq_true,List.all_eq_true,jL]at b8;obtain⟨⟨h1,h2⟩,h3⟩:=b8;have PM:∀(i:Nat) (o:Oper),l[i]?=some o->∃d,o.dst=some d/\dK o=d/\d<N:=by
  intro i o ho;have:=h1 o (List.mem_of_getElem? ho);cases hd:o.dst with
  | none=>rw [hd]at this;cases this
  | some d=>rw [hd]at this;exact⟨d,rfl,by simp [dK,hd],by simpa [Nat.blt_eq]using this⟩
 have Pw:∀(i:Nat) (o:Oper),l[i]?=some o->∀ed∈dS o,ed.on<i/\Region.binds .any ed=true:=by
  intro i o ho ed eo;have:=h3 (o,i) (by
   obtain⟨hi,Ed⟩:=fY.1 ho;rw [List.mem_iff_getElem?];exact⟨i,by simp [ho]⟩)
  exact⟨by simpa [Nat.blt_eq]using this ed eo,(ml.1 eo).2⟩
 have re:∀(i:Nat) (o:Oper),l[i]?=some o->∀ed∈dS o,ed.on<i:=fun i o ho ed eo=> (Pw i o ho ed eo).1
 refine wp_region_any hm ?_;have key:∀(fuel:Nat) (listed:Array Bool) (a1:Act) (e1:Env) (w1:aa),gC N a1 e1->Below w.heap.size w w1->(∀j,eU (l.map dK) j=false->e1 j=e j)->listed.size=l.length->
  (∀(i:Nat) (y:Yd) (o:Oper),listed.getD i false=true->ys[i]?=some y->l[i]?=some o->y.holds (e1 (dK o)) w1)->(∀(i:Nat) (o:Oper),listed.getD i false=true->l[i]?=some o->∀ed∈dS o,listed.getD ed.on false=true)->(∀(i:Nat) (o:Oper),listed.getD i false=false->l[i]?=some o->e1 (dK o)=e (dK o))->(l.length - fuel<=(List.range l.length).countP fun i=>listed.getD i false)->
  wpAny P .any l.toArray (low N Q) fuel listed a1 w1:=by
  have lK:∀(listed:Array Bool) (a1:Act) (e1:Env) (w1:aa),gC N a1 e1->Below w.heap.size w w1->(∀j,eU (l.map dK) j=false->e1 j=e j)->
   (∀(i:Nat) (y:Yd) (o:Oper),listed.getD i false=true->ys[i]?=some y->l[i]?=some o->y.holds (e1 (dK o)) w1)->(∀i,i<l.length->listed.getD i false=true)->low N Q .normal a1 w1:=by
   intro listed a1 e1 w1 hr hb kG hS dv;obtain⟨u,hu,mN⟩:=G4 (e1:=e1) (e:=e) (w1:=w1) l ys 0 qo h2 (fun k y o hy ho=>hS k y o (dv k (fY.1 ho).1) hy ho);refine⟨e1,hr,?_⟩;have:=rj u w1 hb (fun k p hk=>by
    have gR:k<l.length:=by rw [qo];exact(fY.1 hk).1
    have h5:=hS k _ l[k] (dv k gR) hk (eS gR);have h6:=mN k l[k] (eS gR);rw [Nat.zero_add]at h6;rw [h6];exact h5)
   rw [hu,Bo kG]at this;exact this
  have xY:∀(listed:Array Bool),listed.size=l.length->Region.ready .any l.toArray listed=[]->∀i,i<l.length->listed.getD i false=true:=by
   intro listed kK pg i
   induction i using Nat.strongRecOn with
   | _ i ih=>
    intro hi;cases sF:listed.getD i false with
    | true=>rfl
    | false=>
     exfalso;have:i∈Region.ready .any l.toArray listed:=by
      rw [mem_ready];refine⟨?_,l[i],by simp [hi],fun ed eo lj=>ih ed.on (re i _ (eS hi) ed (ml.2 ⟨eo,lj⟩)) (by have:=re i _ (eS hi) ed (ml.2 ⟨eo,lj⟩);omega)⟩;rw [fU,mr (by omega)]at sF|-;exact sF
     rw [pg]at this;cases this
  intro fuel
  induction fuel with
  | zero=>
   intro listed a1 e1 w1 hr hb kG kK hS cT uh ki;have dv:∀i,i<l.length->listed.getD i false=true:=by
    have h4:(List.range l.length).countP (fun i=>listed.getD i false)=(List.range l.length).length:=by
     have:=List.countP_le_length (p:=fun i=>listed.getD i false) (l:=List.range l.length);simp at this ki|-;omega
    rw [List.countP_eq_length]at h4;intro i hi;exact h4 i (by simpa using hi)
   refine⟨?_,lK listed a1 e1 w1 hr hb kG hS dv⟩;rw [List.eq_nil_iff_forall_not_mem];intro i hi;obtain⟨h5,o,ho,_⟩:=mem_ready.1 hi;have mJ:i<l.length:=by
    rcases Nat.lt_or_ge i l.length with h | h
    ·exact h
    ·simp [oX h]at ho
   have h6:=dv i mJ;rw [fU,mr (by omega)]at h5 h6;simp at h5 h6;rw [h5]at h6;cases h6
  | succ fuel ih=>
   intro listed a1 e1 w1 hr hb kG kK hS cT uh ki;refine⟨fun pg=>lK listed a1 e1 w1 hr hb kG hS (xY listed kK pg),fun i hi=>?_⟩;obtain⟨aX,o,ho,vd⟩:=mem_ready.1 hi;have iV:l[i]?=some o:=by simpa using ho
   have mJ:i<l.length:=(fY.1 iV).1;obtain⟨d,hd,hdo,PK⟩:=PM i o iV;have IC:∀j,eU ((dS o).map (·.on)) j=true->∀(y:Yd) (o':Oper),ys[j]?=some y->l[j]?=some o'->y.holds (e1 (dK o')) w1:=by
    intro j hj y o' hy ua;rw [sV,fh]at hj;obtain⟨ed,eo,rfl⟩:=hj;exact hS _ y o' (vd ed (ml.1 eo).1 (ml.1 eo).2) hy ua
   have fS:∀ed∈dS o,listed.getD ed.on false=true:=fun ed eo=>vd ed (ml.1 eo).1 (ml.1 eo).2
   have oJ:listed.getD i false=false:=by
    have h5:=aX;rw [fU,mr (by omega)]at h5|-;exact h5
   have lL:∀k,(listed.setIfInBounds i true).getD k false=if k=i then true else listed.getD k false:=by
    intro k;rw [fU,qH]
    by_cases dz:k=i
    ·subst dz;rw [aF rfl,aF (by omega),aF rfl];rfl
    ·rw [aC (fun e=>dz e.symm),aC dz,<-fU]
   have ax:=x8.get i o iV e1 w1 hb (fun j _ hj=>IC j hj) (fun j o' hj tJ=>by
    refine uh j o' ?_ hj;cases rv:listed.getD j false with
    | false=>rfl
    | true=>
     have:=r6 cT _ _ _ tJ rv;rw [Nat.zero_add,oJ]at this;cases this)
   rw [Bo kG,sb (GZ (dS o) (fun ed eo=>by have:=re i o iV ed eo;omega) IC),Nat.zero_add]at ax;have lp:=ax.run a1 hr;have oD:∀a2 w2,(∃e2,gC N a2 e2/\gK i e1 w1 (dK o) (ys.getD i (.pr fun _ _=>True)) e2 w2)->wpAny P .any l.toArray (low N Q) fuel (listed.setIfInBounds i true) a2 w2:=by
    intro a2 w2 ⟨e2,qq,iI,rB,ve⟩;have jQ:Below w.heap.size w w2:=hb.trans (iI.mono hb.size);refine ih _ a2 e2 w2 qq jQ (fun j hj=>?_) (by simpa using kK) (fun k y o' hk hy b8=>?_) (fun k o' hk b8 ed eo=>?_) (fun k o' hk b8=>?_) ?_
    ·have bL:j≠dK o:=by
      rintro rfl;have:eU (l.map dK) (dK o)=true:=by rw [sV];exact fh.2 ⟨o,List.mem_of_getElem? iV,O⟩
      rw [this]at hj;cases hj
     rw [ve j bL];exact kG j hj
    ·by_cases dz:k=i
     ·subst dz;rw [iV]at b8;cases b8;have:ys.getD k (.pr fun _ _=>True)=y:=by simp [cz,hy]
      rw [this]at rB;exact rB
     ·have fF:listed.getD k false=true:=by
       rw [fU,qH,aC (by omega),<-fU]at hk;exact hk
      have h7:=hS k y o' fF hy b8;have bL:dK o'≠dK o:=by
       intro heq;have gR:=(fY.1 b8).1;have h9:k=i:=(List.getElem_inj (xs:=l.map dK) (h₀:=by simpa using gR) (h₁:=by simpa using mJ) h2).1 (by
        have e1:=(fY.1 b8).2;have e2:=(fY.1 iV).2;simp [e1,e2,heq])
       exact dz h9
      rw [ve _ bL];exact Mi (An y (List.mem_of_getElem? hy)) h7 iI
    ·rw [lL]
     by_cases sD:ed.on=i
     ·rw [aF sD]
     ·rw [aC sD]
      by_cases dz:k=i
      ·subst dz;rw [iV]at b8;cases b8;exact fS ed eo
      ·rw [lL,aC dz]at hk;exact cT k o' hk b8 ed eo
    ·rw [lL]at hk
     by_cases dz:k=i
     ·rw [aF dz]at hk;cases hk
     ·rw [aC dz]at hk;rw [ve _ (fun heq=>by
       have gR:=(fY.1 b8).1;have h9:k=i:=(List.getElem_inj (xs:=l.map dK) (h₀:=by simpa using gR) (h₁:=by simpa using mJ) h2).1 (by
        have e1:=(fY.1 b8).2;have e2:=(fY.1 iV).2;simp [e1,e2,heq])
       exact dz h9)]
      exact uh k o' hk b8
    ·have xo:(List.range l.length).countP (fun k=> (listed.setIfInBounds i true).getD k false)=(List.range l.length).countP (fun k=>listed.getD k false)+1:=by
      refine uW (fun k=>listed.getD k false) (fun k=> (listed.setIfInBounds i true).getD k false) i ?_ (fun k=>?_) _ List.nodup_range (by simpa using mJ)
      ·have h5:=aX;show listed.getD i false=false;rw [fU,mr (by omega)]at h5|-;exact h5
      ·show(listed.setIfInBounds i true).getD k false=if k=i then true else listed.getD k false
       rw [fU,qH]
       by_cases dz:k=i
       ·subst dz;rw [aF rfl,aF (by omega),aF rfl];rfl
       ·rw [aC (fun e=>dz e.symm),aC dz,<-fU]
     rw [xo];omega
   unfold wpOp;rw [ho];unfold wpList at lp;show if _ then _ else _
   by_cases hw:Region.wanted o (yielded l.toArray a1.tmps)=true
   ·rw [aF hw]at lp|-;rcases lp with h5 | ⟨_,a0,w0,h5⟩
    ·refine .inl (Ca h5 (fun a2 w2 hx=>?_) (fun x a w hx hq=>hx hq.1));exact oD a2 w2 hx.2
    ·exact absurd h5.1 (by simp)
   ·rw [aC hw]at lp|-;exact oD _ _ lp.2
 refine key l.length (Array.replicate l.length false) a e _ ha ⟨⟨O,O,O,dh _,fun _ _=>O⟩,fun _=>Nat.le_add_right _ _⟩ (fun _ _=>O) (by simp) (fun i y o hi=>?_) (fun i o hi=>?_) (fun _ _ _ _=>O) (by omega)
 ·exfalso;rw [fU,Array.getElem?_replicate]at hi
  split at hi<;>simp at hi
 ·exfalso;rw [fU,Array.getElem?_replicate]at hi
  split at hi<;>simp at hi
theorem dL{l:List Oper}{Q:gu}(ys:List Yd)(hlen:Nat.beq l.length ys.length=true)(An:∀y∈ys,y.nL)(x8:wj P N l ys e w 0 l)(rj:∀u w1,Below w.heap.size w w1->(∀(k:Nat) (p:ad->aa->Prop),ys[k]?=some (Yd.pr p)->p (u k) w1)->Q .normal (ext e (pZ l ys u 0)) w1)(hm:P.follows .mixedOrders=true:=by kernel_rfl)(b8:G1 N l=true:=by kernel_rfl):Cd P N (.region id l.toArray true) Q e w:=WK ys hm b8 hlen An x8 rj
theorem pK{α:Type}{x y:Code}{Q:gu}(F:α->List (Nat×ad))(I:α->aa->Prop)(hx:Cd P N x (uA (fun e' w'=>∃s,Mt e' (F s)/\I s w') Q) e w)
 (hy:∀s e' w',I s w'->Cd P N y Q (ext e' (F s)) w'):Cd P N (.seq x y) Q e w:=
 .seq (hx.mono fun ex e' w' q=>by
  cases ex<;>first
   | exact q
   | (
    obtain⟨s,hm,hi⟩:=q;have:=hy s e' w' hi;rw [sb hm]at this;exact this))
end
structure bq(w:aa)(A:aj)(n:Nat)(rs:List aL)(xss:ah):Prop where
 top:im w A n rs
 len:xss.length=n
 row:∀i,i<n->bu w (rs.getD i cL).a (rs.getD i cL).n (xss.getD i [])
 cap:∀i,i<n->(rs.getD i cL).n<=(rs.getD i cL).c/\(rs.getD i cL).c<=maxLen
def gl(xss:ah)(i:Int):ai:=xss.getD i.toNat []
theorem bq.at_{w:aa}{A:aj}{n:Nat}{rs:List aL}{xss:ah}(h:bq w A n rs xss){i:Int}(_h0:0<=i)(hi:i<n):bu w (rg rs i).a (rg rs i).n (gl xss i):=h.row _ (by omega)
theorem bq.cap_{w:aa}{A:aj}{n:Nat}{rs:List aL}{xss:ah}(h:bq w A n rs xss){i:Int}(_h0:0<=i)(hi:i<n):(rg rs i).n<=(rg rs i).c/\(rg rs i).c<=9223372036854775807:=h.cap _ (by omega)
theorem bq.aq{w w':aa}{A:aj}{n:Nat}{rs:List aL}{xss:ah}(h:bq w A n rs xss)(hb:Below w.heap.size w w'):bq w' A n rs xss:=
 ⟨h.top.aq hb,h.len,fun i hi=> (h.row i hi).aq hb,h.cap⟩
theorem St.bO{w0 w:aa}{ks:List Ck}{A:aj}{n:Nat}{rs:List aL}{xss:ah}(h:St w0 w ks)(hR:bq w0 A n rs xss):bq w A n rs xss:=hR.aq h.below
def b6(t:ae):List aL->ah->List Ck
 | r::rs,xs::xss=>aw t r.a r.n r.c xs::b6 t rs xss
 | _,_=> []
def aQ(t1 t2:ae)(A:aj)(n c:Nat)(rs:List aL)(xss:ah):List Ck:=bE t1 A n c rs::b6 t2 rs xss
theorem vV{t:ae}:∀ {rs:List aL} {xss:ah} {i:Nat},rs.length=xss.length->i<rs.length->(b6 t rs xss)[i]?=some (aw t (rs.getD i cL).a (rs.getD i cL).n (rs.getD i cL).c (xss.getD i []))
 | [],_,_,_,h=>by simp at h
 | r::rs,[],_,h,_=>by simp at h
 | r::rs,xs::xss,0,_,_=>rfl
 | r::rs,xs::xss,i+1,h,hi=>by
  have:=vV (t:=t) (rs:=rs) (xss:=xss) (i:=i) (by simpa using h) (by simpa using hi);simpa [b6]using this
theorem s6{t:ae}:∀ {rs:List aL} {xss:ah},rs.length=xss.length->(b6 t rs xss).length=rs.length
 | [],[],_=>rfl
 | [],_::_,h=>by simp at h
 | _::_,[],h=>by simp at h
 | r::rs,xs::xss,h=>by simp [b6,s6 (t:=t) (rs:=rs) (xss:=xss) (by simpa using h)]
theorem yA{t:ae}:∀ {rs rs':List aL} {xss xss':ah},rs.length=xss.length->b6 t (rs++rs') (xss++xss')=b6 t rs xss++b6 t rs' xss'
 | [],_,[],_,_=>rfl
 | [],_,_::_,_,h=>by simp at h
 | _::_,_,[],_,h=>by simp at h
 | r::rs,rs',xs::xss,xss',h=>by
  have:=yA (t:=t) (rs:=rs) (rs':=rs') (xss:=xss) (xss':=xss') (by simpa using h);simp [b6,this]
theorem St.iX{w0 w:aa}{ks:List Ck}{t1 t2:ae}{A:aj}{n c:Nat}{rs:List aL}{xss:ah}(h:St w0 w (aQ t1 t2 A n c rs xss++ks))(hl:xss.length=n):bq w A n rs xss:=by
 have h0:=h.fz 0 (show(aQ t1 t2 A n c rs xss++ks)[0]?=some (bE t1 A n c rs) from O);have hr:rs.length=xss.length:=by rw [h0.1,hl]
 have get:∀i,i<n->(aQ t1 t2 A n c rs xss++ks)[i+1]?=some (aw t2 (rs.getD i cL).a (rs.getD i cL).n (rs.getD i cL).c (xss.getD i [])):=by
  intro i hi;have h1:=vV (t:=t2) (rs:=rs) (xss:=xss) (i:=i) hr (by omega);rw [lY (by simp [aQ,s6 hr];omega)];simpa [aQ]using h1
 exact⟨h0,hl,fun i hi=>h.bo (i+1) (get i hi),fun i hi=>h.cap (i+1) (get i hi)⟩
end Go.Proofs.YtagdamiiececaaaGreatDoor.Vc
