/-
 Lemmas. Conditions: as each states them.
-/
import Derived.WalkKit
import Derived.Deep.Quiet
import Derived.Deep.LoopGhost
import Derived.Below
import Derived.Sort.Grow
import Derived.Deep.OwnRows
set_option maxHeartbeats 8000000
namespace Go.Proofs.YtopgfgdgfjddpaaGreatDoor.Vc
open Go.RowKit
abbrev aa:=World
abbrev ad:=Value
abbrev ae:=TypeId
abbrev ag:=Operand
abbrev ah:=List (List Int)
abbrev ai:=List Int
abbrev aj:=Option Addr
abbrev ak(i:Int):Value:=.int .i64 i
theorem av:True:=@trivial
theorem aw:∀ {c:Prop} {_:Decidable c},¬c->∀ {α:Sort _} {t e:α},(if c then t else e)=e:=@if_neg
theorem ay:∀ {c:Prop} {_:Decidable c},c->∀ {α:Sort _} {t e:α},(if c then t else e)=t:=@if_pos
theorem aK:∀ {α:Sort _} {β:Sort _} {a₁ a₂:α} (f:α->β),a₁=a₂->f a₁=f a₂:=@congrArg
theorem bm:∀(n:Nat),0<=n:=@Nat.zero_le
theorem bB:∀(n:Nat),n<=n:=@Nat.le_refl
theorem cj:∀ {α:Type _} {p:α->Prop} {a:α} {l:List α},(∀(x:α),x∈a::l->p x)↔p a/\∀(x:α),x∈l->p x:=@List.forall_mem_cons
theorem dd:∀ {α:Type _} {l:List α} {i:Nat} {a:α},l.getD i a=l[i]?.getD a:=@List.getD_eq_getElem?_getD
theorem dk:∀ {p:Prop} [Decidable p],¬p->decide p=false:=@decide_eq_false
theorem dv:∀ {α:Type _} {β:Type _} {b:β} {f:α->β} {l:List α},b∈List.map f l↔∃a,a∈l/\f a=b:=@List.mem_map
theorem dA:∀ {α:Type _} {val val_1:α},some val=some val_1->val=val_1:=@Option.some.inj
theorem dH:∀ {α:Type _} {l:List α} {n:Nat} (h:n<l.length),l[n]∈l:=@List.getElem_mem
theorem dI:∀ {α:Type _} {cs bs:List α},(cs++bs).length=cs.length+bs.length:=@List.length_append
theorem eu:∀ {α:Type _} (cs:List α),cs++ []=cs:=@List.append_nil
theorem eP:∀ {p:Prop} [Decidable p],p->decide p=true:=@decide_eq_true
theorem fj:∀ {α:Type _} {β:Type _} {cs:List α} (f:α->β),(List.map f cs).length=cs.length:=@List.length_map
theorem fm:∀ {α:Type _} {a b:α},a∈[b]↔a=b:=@List.mem_singleton
theorem fE:∀ {α:Type _} (l:List α),l.Sublist l:=@List.Sublist.refl
theorem fU:∀ {α:Type _} {p:α->Bool} {cs:List α} {x:α},x∈List.filter p cs↔x∈cs/\p x=true:=@List.mem_filter
theorem fV:∀ {α:Type _} {a:α} {l:List α},a∈l↔∃(i:Nat) (h:i<l.length),l[i]=a:=@List.mem_iff_getElem
theorem gI:∀(n:Nat),(n:Int).toNat=n:=@Int.toNat_natCast
theorem gN:∀ {α:Type _} (ks bs cs:List α),ks++bs++cs=ks++ (bs++cs):=@List.append_assoc
theorem gO:∀ {α:Type _} {l:List α} {i:Nat} (h:i<l.length),l[i]?=some l[i]:=@List.getElem?_eq_getElem
theorem gP:∀ {m n:Nat},m∈List.range n↔m<n:=@List.mem_range
theorem iL:∀ {α:Type _} (l₁ l₂:List α),l₂.Sublist (l₁++l₂):=@List.sublist_append_right
theorem iQ:∀ {α:Type _} {i:Nat} {a:α} {l:List α},l[i]?=some a↔∃h,l[i]=a:=@List.getElem?_eq_some_iff
theorem iR:∀ {α:Type _} {a:α} {s t:List α},a∈s++t↔a∈s\/a∈t:=@List.mem_append
theorem jc:∀ {α:Type _} {a:α} {l₁ l₂:List α},(l₁++a::l₂).Perm (a::(l₁++l₂)):=@List.perm_middle
theorem jl:∀ {a:Prop},¬¬a↔a:=@Classical.not_not
theorem jm:∀ {α:Type _} {β:Type _} {f:α->β} {l₁ l₂:List α},List.map f (l₁++l₂)=List.map f l₁++List.map f l₂:=@List.map_append
theorem jn:∀ {α:Type _} {b:α} {l:List α} {a:α},a∈b::l↔a=b\/a∈l:=@List.mem_cons
theorem jy:∀ {α:Type _} {xs:Array α} {i:Nat} {d:α},xs.getD i d=xs[i]?.getD d:=@Array.getD_eq_getD_getElem?
theorem jK:∀ {α:Type _} {cs:List α} {i:Nat} {a:α},(cs.set i a).length=cs.length:=@List.length_set
theorem jM:∀(n:Nat),¬n<0:=@Nat.not_lt_zero
theorem jX:∀ {α:Type _} {l₁ l₂:List α},l₁.length=l₂.length->(∀(i:Nat) (h₁:i<l₁.length) (h₂:i<l₂.length),l₁[i]=l₂[i])->l₁=l₂:=@List.ext_getElem
theorem ke:∀ {p q:Prop} {_:Decidable p} {_:Decidable q},decide p=decide q↔(p↔q):=@decide_eq_decide
theorem ku:∀ {α:Type _} {l₁ l₂:List α},(l₁++l₂).Perm (l₂++l₁):=@List.perm_append_comm
theorem kz:∀ {p:Prop} [Decidable p],(decide p=true)=p:=@decide_eq_true_eq
theorem kN:∀ {α:Type _} {l₁ l₂:List α} {i:Nat},l₁.length<=i->(l₁++l₂)[i]?=l₂[i - l₁.length]?:=@List.getElem?_append_right
theorem lp:∀ {α:Type _} {i:Nat} {l:List α},l.length<=i->List.take i l=l:=@List.take_of_length_le
theorem l4:∀ {α:Type _} (a:α) {b:α} {l:List α} {i:Nat},(l.set i a).set i b=l.set i b:=@List.set_set
theorem l5:∀ {n m k:Nat},n<=m->m<=k->n<=k:=@Nat.le_trans
theorem mq:∀ {α:Type _} {l₁ l₂:List α} {i:Nat},i<l₁.length->(l₁++l₂)[i]?=l₁[i]?:=@List.getElem?_append_left
theorem mV:∀ {α:Type _} [BEq α] {a b:α} {l:List α},List.count a (b::l)=List.count a l+if(b==a)=true then 1 else 0:=@List.count_cons
theorem nA:∀ {p:Prop},(¬p->False)->p:=@Classical.byContradiction
theorem nB:∀ {α:Type _} {α_1:Type _} {f:α->α_1} {R:α_1->α_1->Prop} {l:List α},List.Pairwise R (List.map f l)↔List.Pairwise (fun a b=>R (f a) (f b)) l:=@List.pairwise_map
theorem nC:∀ {α:Type _} [BEq α] [LawfulBEq α] {l₁ l₂:List α},l₁.Perm l₂↔∀(a:α),List.count a l₁=List.count a l₂:=@List.perm_iff_count
theorem nZ:∀ {n:Nat},List.range n.succ=List.range n++ [n]:=@List.range_succ
theorem oR:∀ {α:Type _} {p:α->Bool} (l₁ l₂:List α),List.filter p (l₁++l₂)=List.filter p l₁++List.filter p l₂:=@List.filter_append
theorem oS:∀ {α:Type _} {a:α} {l:List α},(a::l).Nodup↔¬a∈l/\l.Nodup:=@List.nodup_cons
theorem pA:∀ {α:Type _} {l:List α} {i j:Nat} {a:α},(l.set i a)[j]?=if i=j then if i<l.length then some a else none else l[j]?:=@List.getElem?_set
theorem pB:∀ {α:Type _} {l:List α} {α_1:Type _} {f g:α->α_1},(∀(a:α),a∈l->f a=g a)->List.map f l=List.map g l:=@List.map_congr_left
theorem pC:∀ {α:Type _} (y:α) {a:α} {l:List α},a∈l->a∈y::l:=@List.mem_cons_of_mem
theorem pD:∀ {n m:Nat},n.beq m=true->n=m:=@Nat.eq_of_beq_eq_true
theorem qj:∀ {α:Type _} {R:α->α->Prop} {l:List α} (p:α->Bool),List.Pairwise R l->List.Pairwise R (List.filter p l):=@List.Pairwise.filter
theorem qk:∀ {α:Type _} [BEq α] {a:α} {l₁ l₂:List α},List.count a (l₁++l₂)=List.count a l₁+List.count a l₂:=@List.count_append
theorem ql:∀ {α:Type _} [BEq α] {a:α},List.count a []=0:=@List.count_nil
theorem qm:∀ {α:Type _} {l:List α} {i:Nat},l.length<=i->l[i]?=none:=@List.getElem?_eq_none
theorem qo:∀ {α:Type _} (val val_1:α),(some val=some val_1)=(val=val_1):=@Option.some.injEq
theorem qE:∀ {n:Nat},(List.range n).length=n:=@List.length_range
theorem qF:∀ {α:Type _} {i:Nat} {l:List α},(List.take i l).length=min i l.length:=@List.length_take
theorem rC:∀ {α:Type _} {p:α->Bool} {a:α} {l:List α},¬p a=true->List.filter p (a::l)=List.filter p l:=@List.filter_cons_of_neg
theorem rD:∀ {α:Type _} (p:α->Bool) (l:List α),(List.filter p l).length<=l.length:=@List.length_filter_le
theorem rE:∀ {α:Type _} {l₁ l₂:List α},l₁.Nodup->l₂.Nodup->(l₁.Perm l₂↔∀(a:α),a∈l₁↔a∈l₂):=@List.perm_ext_iff_of_nodup
theorem sr:∀ {α:Type _} {xs:Array α} {i:Nat} (h:i<xs.size),xs[i]?=some xs[i]:=@Array.getElem?_eq_getElem
theorem su:∀ {α:Type _} {i:Nat} {l:List α} (h:i<l.length),List.take (i+1) l=List.take i l++ [l[i]]:=@List.take_succ_eq_append_getElem
theorem tl:∀ {α:Type _} {l:List α} {i j:Nat},(List.take i l)[j]?=if j<i then l[j]? else none:=@List.getElem?_take
theorem tX:∀ {p:Prop} [Decidable p],decide p=true->p:=@of_decide_eq_true
theorem uj:∀ {α:Type _} {xs:Array α} {i j:Nat} {a:α},(xs.setIfInBounds i a)[j]?=if i=j then if i<xs.size then some a else none else xs[j]?:=@Array.getElem?_setIfInBounds
theorem uq:∀ {α:Type _} {l:List α},l.length=0->l=[]:=@List.eq_nil_of_length_eq_zero
theorem ur:∀ {α:Type _} {p:α->Bool} {a:α} {l:List α},p a=true->List.filter p (a::l)=a::List.filter p l:=@List.filter_cons_of_pos
theorem uw:∀ {α:Type _} (l₁ l₂:List α),l₁.Sublist (l₁++l₂):=@List.sublist_append_left
theorem ze:∀ {α:Type _} {l₁ l₂:List α} {i:Nat},i<=l₁.length->List.take i (l₁++l₂)=List.take i l₁:=@List.take_append_of_le_length
abbrev Env:=Nat->ad
def bG(e:Env)(d:Nat)(v:ad):Env:=fun i=>bif Nat.beq i d then v else e i
def ev(e:Env):ag->ad
 | .tmp t=>e t
 | .const v=>v
 | .global g=> .pointer (some ⟨g,0,none⟩)
 | .func f=> .func (.func f) #[] #[]
structure ky(N:Nat)(a:Act)(e:Env):Prop where
 defers:a.defers=[]
 size:a.tmps.size=N
 get:∀i,a.tmps.getD i undef=e i
theorem O{α:Sort _}{a:α}:a=a:=rfl
theorem ky.eval{N:Nat}{a:Act}{e:Env}(h:ky N a e):a.eval=ev e:=by
 funext x;cases x with
 | tmp t=>exact h.get t
 | const v=>rfl
 | global g=>rfl
 | func f=>rfl
theorem ky.put{N:Nat}{a:Act}{e:Env}(h:ky N a e){d:Nat}(hd:Nat.blt d N=true)(v:ad):ky N (a.put (some d) v) (bG e d v):=by
 have pe:d<a.tmps.size:=by rw [h.size];simpa [Nat.blt_eq]using hd
 refine⟨h.defers,by simp [Act.put,h.size],fun i=>?_⟩;simp only [Act.put,bG];rw [jy,uj]
 by_cases e1:d=i
 ·subst e1;simp [pe]
 ·have e2:Nat.beq i d=false:=by
   cases hb:Nat.beq i d with
   | false=>rfl
   | true=>exact absurd (pD hb).symm e1
  rw [aw e1,e2,<-jy,h.get]
  rfl
abbrev kb:=Exit->Env->aa->Prop
def low(N:Nat)(Q:kb):Exit->Act->aa->Prop:=fun x a w=>∃e,ky N a e/\Q x e w
structure Cd(P:Program)(N:Nat)(c:Code)(Q:kb)(e:Env)(w:aa):Prop where
 mk'::
 run:∀a,ky N a e->c.wp P (low N Q) a w
structure ao(P:Program)(N:Nat)(ops:Array Oper)(K:Env->aa->Prop)(l:List Oper)(e:Env)(w:aa):Prop where
 mk'::
 run:∀a,ky N a e->wpList P ops (fun x a w=>x= .normal/\∃e,ky N a e/\K e w) l a w
section
variable{x y:Code}{id:Nat}
variable {P:Program} {N:Nat} {Q:kb} {e:Env} {w:aa}
def CD(K:Env->aa->Prop)(Q:kb):kb
 | .normal,e,w=>K e w
 | x,e,w=>Q x e w
def KF(id:Nat)(Q:kb):kb
 | .exit NF,e,w=>if NF=id then Q .normal e w else Q (.exit NF) e w
 | x,e,w=>Q x e w
theorem Cd.mono{c:Code}{Q':kb}(hq:∀x e w,Q x e w->Q' x e w)(h:Cd P N c Q e w):Cd P N c Q' e w:=
 .mk' fun a ha=>wp_mono (h.run a ha) fun _ _ _ ⟨e,he,q⟩=> ⟨e,he,hq _ _ _ q⟩
theorem Cd.seq(h:Cd P N x (CD (Cd P N y Q) Q) e w):Cd P N (.seq x y) Q e w:= .mk' fun a ha=>
 wp_seq (wp_mono (h.run a ha) fun ex a' w' ⟨e',qS,q⟩=>by
  cases ex<;>first | exact q.run a' qS | exact⟨e',qS,q⟩)
theorem Cd.skip(h:Q .normal e w):Cd P N .skip Q e w:= .mk' fun a ha=>wp_skip ⟨e,ha,h⟩
theorem Cd.ret(h:Q .ret e w):Cd P N .ret Q e w:= .mk' fun a ha=>wp_ret ⟨e,ha,h⟩
theorem Cd.exit(h:Q (.exit id) e w):Cd P N (.exit id) Q e w:= .mk' fun a ha=>wp_exit ⟨e,ha,h⟩
theorem Cd.block{c:Code}(h:Cd P N c (KF id Q) e w):Cd P N (.block id c) Q e w:= .mk' fun a ha=>
 wp_block (wp_mono (h.run a ha) fun ex a' w' ⟨e',qS,q⟩=>by
  cases ex<;>first
   | exact⟨e',qS,q⟩
   | (
    rename_i NF;simp only [KF]at q;simp only [Exit.inBlock]
    split
    ·rename_i hid;rw [ay hid]at q;exact⟨e',qS,q⟩
    ·rename_i hid;rw [aw hid]at q;exact⟨e',qS,q⟩))
theorem Cd.cond{c:ag}{t:Bool}(hc:ev e c= .bool t)(h1:t=true->Cd P N x Q e w)(h2:t=false->Cd P N y Q e w):Cd P N (.cond c x y) Q e w:= .mk' fun a ha=>
 wp_cond_split (t:=t) (by rw [ha.eval,hc]) (fun h=> (h1 h).run a ha) (fun h=> (h2 h).run a ha)
theorem Cd.im{c:ag}(hc:ev e c= .bool true)(h1:Cd P N x Q e w):Cd P N (.cond c x y) Q e w:= .cond hc (fun _=>h1) (fun h=>by cases h)
theorem Cd.gq{c:ag}(hc:ev e c= .bool false)(h1:Cd P N y Q e w):Cd P N (.cond c x y) Q e w:= .cond hc (fun h=>by cases h) (fun _=>h1)
theorem aR{c:ag}(p:Prop)[Decidable p](hc:ev e c= .bool (decide p))(h1:p->Cd P N x Q e w)(h2:¬p->Cd P N y Q e w):Cd P N (.cond c x y) Q e w:=
 .cond hc (fun h=>h1 (tX h)) (fun h=>h2 (of_decide_eq_false h))
theorem Cd.region{l:List Oper}(h:ao P N l.toArray (fun e w=>Q .normal e w) l e w):Cd P N (.region id l.toArray false) Q e w:= .mk' fun a ha=>
 wp_mono (wp_region_lit (h.run a ha)) fun _ _ _ ⟨hx,e',qS,q⟩=> ⟨e',qS,by rw [hx];exact q⟩
def Mt(e:Env):List (Nat×ad)->Prop
 | []=>True
 | (i,v)::r=>e i=v/\Mt e r
theorem alH{e:Env}:∀{l:List (Nat×Value)},l.map (fun p=>e p.1)=l.map (fun p=>p.2)->Mt e l
 | [],_=>True.intro
 | _::_,h=>⟨(List.cons.inj h).1,alH (List.cons.inj h).2⟩
def ext(e:Env):List (Nat×ad)->Env
 | []=>e
 | (i,v)::r=>bG (ext e r) i v
theorem zv:∀ {l:List (Nat×ad)} {e:Env},Mt e l->ext e l=e
 | [],_,_=>rfl
 | (i,v)::r,e,h=>by
  show bG (ext e r) i v=e;rw [zv h.2];funext j;unfold bG;cases hb:Nat.beq j i with
  | false=>rfl
  | true=>rw [pD hb,h.1];rfl
theorem Cd.loop{α:Type}{c:Code}(F:α->List (Nat×ad))(I:α->aa->Prop)(m:α->Nat)(s0:α)(hF:Mt e (F s0))(hI:I s0 w)
 (round:∀s e w,I s w->Cd P N c (CD (fun e' w'=>∃s',m s'<m s/\Mt e' (F s')/\I s' w') Q) (ext e (F s)) w):Cd P N (.loop c) Q e w:=by
 have key:∀n s e w,m s=n->Mt e (F s)->I s w->∀a,ky N a e->(Code.loop c).wp P (low N Q) a w:=by
  intro n0 s e w hn hm LZ a ha
  let J:Act->aa->Prop:=fun a w=>∃s e,ky N a e/\Mt e (F s)/\I s w
  refine wp_loop_ghost (I:=fun n a w=>∃s e,m s=n/\ky N a e/\Mt e (F s)/\I s w) n0 ⟨s,e,hn,ha,hm,LZ⟩ ?_;intro n a w ⟨s,e,hn,ha,hm,hI⟩;have h1:=round s e w hI;rw [zv hm]at h1;refine wp_mono (h1.run a ha) fun ex a' w' ⟨e',qS,q⟩=>?_
  cases ex<;>first
   | exact⟨e',qS,q⟩
   | (
    obtain⟨s',gB,jw,LZ⟩:=q;exact⟨m s',by omega,s',e',O,qS,jw,LZ⟩)
 exact .mk' fun a ha=>key _ s0 e w O hF hI a ha
end
class bV(P:Program)(t:ae)(d:outParam TypeDesc):Type where
 out:P.underlying t=some d
class bR(P:Program)(t:ae)(z:outParam ad)(size bytes:outParam Nat):Prop where
 out:(P.info? t).map (fun i=> (i.zero,i.size,i.bytes))=some (some z,size,bytes)
class bK(P:Program)(F:FuncId):Prop where
 out : ∃ fn, P.funcs[F]? = some fn /\ (fn.name == "runtime.NumGoroutine") = false /\ fn.body.isNone = false
theorem bR.get(P:Program)(t:ae){z:ad}{s b:Nat}[h:bR P t z s b]:∃i,P.info? t=some i/\i.zero=some z/\i.size=s/\i.bytes=b:=by
 obtain⟨i,hi,he⟩:=Option.map_eq_some_iff.1 h.out;simp only [Prod.mk.injEq]at he;exact⟨i,hi,he.1,he.2.1,he.2.2⟩
section
variable{j dj:Nat}{b want:Bool}{x:ag}
variable {P:Program} {N:Nat} {ops:Array Oper} {K:Env->aa->Prop} {rest:List Oper} {e:Env} {w w':aa} {d:Nat} {ty:ae} {pos:String} {af:Array Edge}
theorem ao.n(h:K e w):ao P N ops K [] e w:= .mk' fun a ha=>wpList_nil ⟨rfl,e,ha,h⟩
theorem ao.val{op:Op}{v:ad}(hr:(execOp (ev e) ⟨some d,op,ty,pos,af,none⟩).run P w= .ok (.value v) w')(hb:Nat.blt d N=true)(hK:ao P N ops K rest (bG e d v) w'):
 ao P N ops K (⟨some d,op,ty,pos,af,none⟩::rest) e w:= .mk' fun a ha=>by
 refine wpList_plain O fun J hJ=>?_
 unfold Oper.wp;rw [ha.eval,hr];exact hJ _ _ (hK.run _ (ha.put hb v))
theorem ao.unit{op:Op}(hr:(execOp (ev e) ⟨none,op,ty,pos,af,none⟩).run P w= .ok .skip w')(hK:ao P N ops K rest e w'):
 ao P N ops K (⟨none,op,ty,pos,af,none⟩::rest) e w:= .mk' fun a ha=>by
 refine wpList_plain O fun J hJ=>?_
 unfold Oper.wp;rw [ha.eval,hr];exact hJ _ _ (hK.run _ ha)
theorem ao.ajq{op:Op}{v:ad}(hr:(execOp (ev e) ⟨none,op,ty,pos,af,none⟩).run P w= .ok (.value v) w')(hK:ao P N ops K rest e w'):
 ao P N ops K (⟨none,op,ty,pos,af,none⟩::rest) e w:= .mk' fun a ha=>by
 refine wpList_plain O fun J hJ=>?_
 unfold Oper.wp;rw [ha.eval,hr];exact hJ _ _ (hK.run _ ha)
theorem Xu{a:Act}(ha:ky N a e)(hj:(ops[j]?).bind (·.dst)=some dj)(gB:Nat.blt dj N=true)(hv:e dj= .bool b):yielded ops a.tmps j=some b:=by
 have h1:dj<a.tmps.size:=by rw [ha.size];simpa [Nat.blt_eq]using gB
 have h2:=ha.get dj;rw [jy,sr h1,Option.getD_some,hv]at h2;simp [yielded,hj,sr h1,h2]
theorem alm{o:Option Tmp}{op:Op}(hj:(ops[j]?).bind (·.dst)=some dj)(gB:Nat.blt dj N=true)(hv:e dj= .bool want)(hK:ao P N ops K (⟨o,op,ty,pos,af,none⟩::rest) e w):ao P N ops K (⟨o,op,ty,pos,af,some (j,want)⟩::rest) e w:= .mk' fun a ha=>by
 have h:=hK.run a ha;have hy:=Xu (ops:=ops) ha hj gB hv;have hw:Region.wanted (⟨o,op,ty,pos,af,some (j,want)⟩:Oper) (yielded ops a.tmps)=true:=by
  simp [Region.wanted,hy]
 unfold wpList at h|-;rw [ay hw];rw [ay (show Region.wanted (⟨o,op,ty,pos,af,none⟩:Oper) (yielded ops a.tmps)=true from rfl)]at h;exact h
theorem au{o:Option Tmp}{op:Op}(q9:((ops[j]?).bind (·.dst),Nat.blt dj N,e dj)=(some dj,true,.bool want))(hK:ao P N ops K (⟨o,op,ty,pos,af,none⟩::rest) e w):ao P N ops K (⟨o,op,ty,pos,af,some (j,want)⟩::rest) e w:=alm (congrArg (fun p=>p.1) q9) (congrArg (fun p=>p.2.1) q9) (congrArg (fun p=>p.2.2) q9) hK
theorem aln{op:Op}(hj:(ops[j]?).bind (·.dst)=some dj)(gB:Nat.blt dj N=true)(hv:e dj= .bool b)(bt:(b==want)=false)(hb:Nat.blt d N=true)(hK:ao P N ops K rest (bG e d undef) w):ao P N ops K (⟨some d,op,ty,pos,af,some (j,want)⟩::rest) e w:= .mk' fun a ha=>by
 have hy:=Xu (ops:=ops) ha hj gB hv;refine wpList_skip ?_ (hK.run _ (ha.put hb undef));simp only [Region.wanted];rw [hy];simpa using bt
theorem aA{op:Op}(q9:((ops[j]?).bind (·.dst),Nat.blt dj N,e dj,(b==want),Nat.blt d N)=(some dj,true,.bool b,false,true))(hK:ao P N ops K rest (bG e d undef) w):ao P N ops K (⟨some d,op,ty,pos,af,some (j,want)⟩::rest) e w:=aln (congrArg (fun p=>p.1) q9) (congrArg (fun p=>p.2.1) q9) (congrArg (fun p=>p.2.2.1) q9) (congrArg (fun p=>p.2.2.2.1) q9) (congrArg (fun p=>p.2.2.2.2) q9) hK
theorem alo{op:Op}(hj:(ops[j]?).bind (·.dst)=some dj)(gB:Nat.blt dj N=true)(hv:e dj=undef)(hb:Nat.blt d N=true)(hK:ao P N ops K rest (bG e d undef) w):ao P N ops K (⟨some d,op,ty,pos,af,some (j,want)⟩::rest) e w:= .mk' fun a ha=>by
 refine wpList_skip ?_ (hK.run _ (ha.put hb undef));have h1:dj<a.tmps.size:=by rw [ha.size];simpa [Nat.blt_eq]using gB
 have h2:=ha.get dj;rw [jy,sr h1,Option.getD_some,hv]at h2;simp [Region.wanted,yielded,hj,sr h1,h2,undef]
theorem cn{op:Op}(q9:((ops[j]?).bind (·.dst),Nat.blt dj N,e dj,Nat.blt d N)=(some dj,true,undef,true))(hK:ao P N ops K rest (bG e d undef) w):ao P N ops K (⟨some d,op,ty,pos,af,some (j,want)⟩::rest) e w:=alo (congrArg (fun p=>p.1) q9) (congrArg (fun p=>p.2.1) q9) (congrArg (fun p=>p.2.2.1) q9) (congrArg (fun p=>p.2.2.2) q9) hK
theorem Xg{e:Env}{d:Nat}{v:ad}(h:e d=v):bG e d v=e:=by
 funext j;unfold bG;cases hb:Nat.beq j d with
 | false=>rfl
 | true=>rw [pD hb,h];rfl
theorem ao.split{l:List Oper}(d:Nat)(hv:e d= .bool b)(h1:b=true->ao P N ops K l (bG e d (.bool true)) w)(h2:b=false->ao P N ops K l (bG e d (.bool false)) w):ao P N ops K l e w:=by
 cases b
 ·have:=h2 O;rwa [Xg hv]at this
 have:=h1 O;rwa [Xg hv]at this
theorem cT{l:List Oper}(d:Nat){p:Prop}[Decidable p](hv:e d= .bool (decide p))(h1:p->ao P N ops K l (bG e d (.bool true)) w)(h2:¬p->ao P N ops K l (bG e d (.bool false)) w):ao P N ops K l e w:=
 .split d hv (fun h=>h1 (tX h)) (fun h=>h2 (of_decide_eq_false h))
def Co:Op->Option ag
 | .move x=>some x
 | .assign x=>some x
 | _=>none
theorem aix{op:Op}(h:Co op=some x):(execOp (ev e) ⟨some d,op,ty,pos,af,none⟩).run P w= .ok (.value (ev e x)) w:=by
 cases op<;>simp [Co]at h<;>subst h<;>rfl
theorem ao.mv{op:Op}{v:ad}(sQ:Co op=some x)(hx:ev e x=v)(hb:Nat.blt d N=true)(hK:ao P N ops K rest (bG e d v) w):ao P N ops K (⟨some d,op,ty,pos,af,none⟩::rest) e w:=
 .val (by rw [aix sQ,hx]) hb hK
theorem rH{op:Op}{k:IntKind}{i:Int}(sQ:Co op=some x)(hx:ev e x= .int k i)(hb:Nat.blt d N=true)(hK:ao P N ops K rest (bG e d (.int k i)) w):ao P N ops K (⟨some d,op,ty,pos,af,none⟩::rest) e w:= .mv sQ hx hb hK
theorem pF{op:Op}{A:aj}{n c:Nat}(sQ:Co op=some x)(hx:ev e x= .slice A n c)(hb:Nat.blt d N=true)(hK:ao P N ops K rest (bG e d (.slice A n c)) w):ao P N ops K (⟨some d,op,ty,pos,af,none⟩::rest) e w:= .mv sQ hx hb hK
theorem Be{op:Op}{p:aj}(sQ:Co op=some x)(hx:ev e x= .pointer p)(hb:Nat.blt d N=true)(hK:ao P N ops K rest (bG e d (.pointer p)) w):ao P N ops K (⟨some d,op,ty,pos,af,none⟩::rest) e w:= .mv sQ hx hb hK
theorem Ho{op:Op}{cs:Array ad}(sQ:Co op=some x)(hx:ev e x= .tuple cs)(hb:Nat.blt d N=true)(hK:ao P N ops K rest (bG e d (.tuple cs)) w):ao P N ops K (⟨some d,op,ty,pos,af,none⟩::rest) e w:= .mv sQ hx hb hK
section
variable{b:Bool}
variable {x y:ag} {xt yt:ae} {i j:Int}
theorem alu(hx:ev e x=ak i)(hy:ev e y=ak j)(hb:Nat.blt d N=true)(hr: -9223372036854775808<=i+j/\i+j<=9223372036854775807)(hK:ao P N ops K rest (bG e d (ak (i+j))) w):
 ao P N ops K (⟨some d,.binOp .add xt x y yt,ty,pos,af,none⟩::rest) e w:=
 .val (by simp [execOp,hx,hy,eqGuard,binOp,Op.intArith,IntWalk.i64_in _ hr]) hb hK
theorem aJ(q9:(ev e x,ev e y,Nat.blt d N)=(ak i,ak j,true))(hK:ao P N ops K rest (bG e d (ak (i+j))) w)(hr:-9223372036854775808<=i+j/\i+j<=9223372036854775807:=by omega):ao P N ops K (⟨some d,.binOp .add xt x y yt,ty,pos,af,none⟩::rest) e w:=alu (congrArg (fun p=>p.1) q9) (congrArg (fun p=>p.2.1) q9) (congrArg (fun p=>p.2.2) q9) hr hK
theorem alr(hx:ev e x=ak i)(hy:ev e y=ak j)(hb:Nat.blt d N=true)(hr: -9223372036854775808<=i - j/\i - j<=9223372036854775807)(hK:ao P N ops K rest (bG e d (ak (i - j))) w):
 ao P N ops K (⟨some d,.binOp .sub xt x y yt,ty,pos,af,none⟩::rest) e w:=
 .val (by simp [execOp,hx,hy,eqGuard,binOp,Op.intArith,IntWalk.i64_in _ hr]) hb hK
theorem dT(q9:(ev e x,ev e y,Nat.blt d N)=(ak i,ak j,true))(hK:ao P N ops K rest (bG e d (ak (i - j))) w)(hr:-9223372036854775808<=i - j/\i - j<=9223372036854775807:=by omega):ao P N ops K (⟨some d,.binOp .sub xt x y yt,ty,pos,af,none⟩::rest) e w:=alr (congrArg (fun p=>p.1) q9) (congrArg (fun p=>p.2.1) q9) (congrArg (fun p=>p.2.2) q9) hr hK
theorem nD(hx:ev e x=ak i)(hy:ev e y=ak j)(hb:Nat.blt d N=true)(hr: -9223372036854775808<=i*j/\i*j<=9223372036854775807)(hK:ao P N ops K rest (bG e d (ak (i*j))) w):
 ao P N ops K (⟨some d,.binOp .mul xt x y yt,ty,pos,af,none⟩::rest) e w:=
 .val (by simp [execOp,hx,hy,eqGuard,binOp,Op.intArith,IntWalk.i64_in _ hr]) hb hK
theorem ao.quo(hx:ev e x=ak i)(hy:ev e y=ak j)(hb:Nat.blt d N=true)(hr:0<=i/\i<=9223372036854775807/\1<=j)(hK:ao P N ops K rest (bG e d (ak (i / j))) w):
 ao P N ops K (⟨some d,.binOp .quo xt x y yt,ty,pos,af,none⟩::rest) e w:=
 .val (by simp [execOp,hx,hy,eqGuard,binOp,Op.intDiv,IntWalk.i64_quo _ _ hr,show j≠0 by omega]) hb hK
theorem qn(hx:ev e x=ak i)(hy:ev e y=ak j)(hb:Nat.blt d N=true)(hr:0<=i/\1<=j)(hK:ao P N ops K rest (bG e d (ak (i%j))) w):
 ao P N ops K (⟨some d,.binOp .rem xt x y yt,ty,pos,af,none⟩::rest) e w:=
 .val (by simp [execOp,hx,hy,eqGuard,binOp,Op.intDiv,Int.tmod_eq_emod_of_nonneg hr.1,show j≠0 by omega]) hb hK
theorem ao.lss{k:IntKind}(hx:ev e x= .int k i)(hy:ev e y= .int k j)(hb:Nat.blt d N=true)(hK:ao P N ops K rest (bG e d (.bool (decide (i<j)))) w):
 ao P N ops K (⟨some d,.binOp .lss xt x y yt,ty,pos,af,none⟩::rest) e w:= .val (by simp [execOp,hx,hy,eqGuard,binOp,Op.intCmp]) hb hK
theorem ao.leq{k:IntKind}(hx:ev e x= .int k i)(hy:ev e y= .int k j)(hb:Nat.blt d N=true)(hK:ao P N ops K rest (bG e d (.bool (decide (i<=j)))) w):
 ao P N ops K (⟨some d,.binOp .leq xt x y yt,ty,pos,af,none⟩::rest) e w:= .val (by simp [execOp,hx,hy,eqGuard,binOp,Op.intCmp]) hb hK
theorem ao.gtr{k:IntKind}(hx:ev e x= .int k i)(hy:ev e y= .int k j)(hb:Nat.blt d N=true)(hK:ao P N ops K rest (bG e d (.bool (decide (j<i)))) w):
 ao P N ops K (⟨some d,.binOp .gtr xt x y yt,ty,pos,af,none⟩::rest) e w:= .val (by simp [execOp,hx,hy,eqGuard,binOp,Op.intCmp]) hb hK
theorem ao.geq{k:IntKind}(hx:ev e x= .int k i)(hy:ev e y= .int k j)(hb:Nat.blt d N=true)(hK:ao P N ops K rest (bG e d (.bool (decide (j<=i)))) w):
 ao P N ops K (⟨some d,.binOp .geq xt x y yt,ty,pos,af,none⟩::rest) e w:= .val (by simp [execOp,hx,hy,eqGuard,binOp,Op.intCmp]) hb hK
theorem Zc(i j:Int):(i==j)=decide (i=j):=by by_cases h:i=j<;>simp [h]
theorem Zi(i j:Int):(i !=j)=decide (¬i=j):=by by_cases h:i=j<;>simp [h]
theorem ao.eql{k:IntKind}(hx:ev e x= .int k i)(hy:ev e y= .int k j)(hb:Nat.blt d N=true)(hK:ao P N ops K rest (bG e d (.bool (decide (i=j)))) w):
 ao P N ops K (⟨some d,.binOp .eql xt x y yt,ty,pos,af,none⟩::rest) e w:= .val (by rw [<-Zc];simp [execOp,hx,hy,eqGuard,binOp,Op.intCmp]) hb hK
theorem ao.neq{k:IntKind}(hx:ev e x= .int k i)(hy:ev e y= .int k j)(hb:Nat.blt d N=true)(hK:ao P N ops K rest (bG e d (.bool (decide (¬i=j)))) w):
 ao P N ops K (⟨some d,.binOp .neq xt x y yt,ty,pos,af,none⟩::rest) e w:= .val (by rw [<-Zi];simp [execOp,hx,hy,eqGuard,binOp,Op.intCmp]) hb hK
theorem fY(hx:ev e x= .bool b)(hb:Nat.blt d N=true)(hK:ao P N ops K rest (bG e d (.bool (!b))) w):
 ao P N ops K (⟨some d,.unOp .not xt x,ty,pos,af,none⟩::rest) e w:= .val (by simp [execOp,hx,Op.unary]) hb hK
theorem eZ{p:Prop}[Decidable p](hx:ev e x= .bool (decide p))(hb:Nat.blt d N=true)(hK:ao P N ops K rest (bG e d (.bool (decide ¬p))) w):
 ao P N ops K (⟨some d,.unOp .not xt x,ty,pos,af,none⟩::rest) e w:= .val (by simp [execOp,hx,Op.unary]) hb hK
theorem ao.ahg{c:ag}(hc:ev e c= .bool true)(hx:ev e x= .bool b)(hb:Nat.blt d N=true)(hK:ao P N ops K rest (bG e d (.bool b)) w):
 ao P N ops K (⟨some d,.pick c x y,ty,pos,af,none⟩::rest) e w:= .val (by simp [execOp,hc,hx,asBool]) hb hK
theorem ao.ahf{c:ag}(hc:ev e c= .bool false)(hx:ev e y= .bool b)(hb:Nat.blt d N=true)(hK:ao P N ops K rest (bG e d (.bool b)) w):
 ao P N ops K (⟨some d,.pick c x y,ty,pos,af,none⟩::rest) e w:= .val (by simp [execOp,hc,hx,asBool]) hb hK
end
theorem ao.extract{x:ag}{vs:Array ad}{ix:Nat}{v:ad}(hx:ev e x= .tuple vs)(hv:vs[ix]?=some v)(hb:Nat.blt d N=true)(hK:ao P N ops K rest (bG e d v) w):
 ao P N ops K (⟨some d,.extract x ix,ty,pos,af,none⟩::rest) e w:= .val (by simp [execOp,hx,Instr.extract,hv]) hb hK
theorem bk{x:ag}{t el:ae}{A:aj}{n c:Nat}[bV P t (.slice el)](hx:ev e x= .slice A n c)(hb:Nat.blt d N=true)(hK:ao P N ops K rest (bG e d (ak n)) w):
 ao P N ops K (⟨some d,.call ⟨.builtin .len, #[x], #[t]⟩,ty,pos,af,none⟩::rest) e w:=
 .val (by simp [execOp,resolve,invoke,builtin,Builtin.len_,hx,run_underlying (bV.out (P:=P) (t:=t)),goInt]) hb hK
theorem ao.agL{x:ag}{a:Addr}(hx:ev e x= .pointer (some a))(hb:Nat.blt d N=true)(hK:ao P N ops K rest (bG e d (.pointer (some a))) w):
 ao P N ops K (⟨some d,.nilCheck x,ty,pos,af,none⟩::rest) e w:= .val (by simp [execOp,hx]) hb hK
def aN(P:Program)(F:FuncId)(vs:List ad)(w:aa)(R:ad->aa->Prop):Prop:=Calls P F vs.toArray w fun x w'=>∃v,x= .returned v/\R v w'
theorem aN.mono{F:FuncId}{vs:List ad}{R R':ad->aa->Prop}(h:aN P F vs w R)(hR:∀v w',R v w'->R' v w'):aN P F vs w R':=
 Calls.mono h fun _ _ ⟨v,he,hv⟩=> ⟨v,he,hR _ _ hv⟩
theorem als{f:ag}{F:FuncId}{c2:Array ad}{l:List ag}{vs:List ad}{R:ad->aa->Prop}{Qc:Array ae}[hF:bK P F](hC:aN P F vs w R)(hf:ev e f= .func (.func F) #[] c2)(hv:l.map (ev e)++c2.toList=vs)(hb:Nat.blt d N=true)(hK:∀v w',R v w'->ao P N ops K rest (bG e d v) w'):ao P N ops K (⟨some d,.call ⟨.value f,l.toArray,Qc⟩,ty,pos,af,none⟩::rest) e w:= .mk' fun a ha=>by
 obtain⟨fn,h1,h2,h3⟩:=hF.out;have vR:(execOp (ev e) ⟨some d,.call ⟨.value f,l.toArray,Qc⟩,ty,pos,af,none⟩).run P w= .ok (.enter F vs.toArray) w:=by
  have h4:(l.toArray.map (ev e)++c2)=vs.toArray:=by
   rw [<-hv];simp
  have h5 : ¬ fn.name = "runtime.NumGoroutine" := by simpa using h2
  have h6:¬fn.body=none:=by intro h;rw [h]at h3;cases h3
  simp [execOp,resolve,hf,Deferred.ofValue,invoke,callFunc,h1,h5,h6];exact hv
 refine wpList_plain O fun J hJ=>?_
 unfold Oper.wp;rw [ha.eval,vR];refine Calls.mono hC fun x w' ⟨v,hx,hR⟩=>?_
 subst hx;exact hJ _ _ ((hK v w' hR).run _ (ha.put hb v))
theorem aL{f:ag}{F:FuncId}{c2:Array ad}{l:List ag}{vs:List ad}{R:ad->aa->Prop}{Qc:Array ae}[hF:bK P F](hC:aN P F vs w R)(q9:(ev e f,l.map (ev e)++c2.toList,Nat.blt d N)=(.func (.func F) #[] c2,vs,true))(hK:∀v w',R v w'->ao P N ops K rest (bG e d v) w'):ao P N ops K (⟨some d,.call ⟨.value f,l.toArray,Qc⟩,ty,pos,af,none⟩::rest) e w:=als hC (congrArg (fun p=>p.1) q9) (congrArg (fun p=>p.2.1) q9) (congrArg (fun p=>p.2.2) q9) hK
theorem tQ{K:Env->aa->Prop}{Q:kb}(h:K e w):CD K Q .normal e w:=h
theorem fD{K:Env->aa->Prop}{Q:kb}(h:Q .ret e w):CD K Q .ret e w:=h
theorem bA{K:Env->aa->Prop}{Q:kb}{id:Nat}(h:Q (.exit id) e w):CD K Q (.exit id) e w:=h
def Kz(vs:List ad):Env:=fun i=>vs.getD i undef
def Oz(R:ad->aa->Prop):kb
 | .normal,_,w=>R (.tuple #[]) w
 | .ret,_,w=>R (.tuple #[]) w
 | _,_,_=>False
def GV(t:Nat)(R:ad->aa->Prop):kb
 | .normal,e,w=>R (e t) w
 | .ret,e,w=>R (e t) w
 | _,_,_=>False
def Eh(t u:Nat)(R:ad->aa->Prop):kb
 | .normal,e,w=>R (.tuple #[e t,e u]) w
 | .ret,e,w=>R (.tuple #[e t,e u]) w
 | _,_,_=>False
theorem ah5(vs:List ad)(n:Nat)(h:Nat.ble vs.length n=true):ky n ⟨vs.toArray++Array.replicate (n - vs.toArray.size) undef,[]⟩ (Kz vs):=by
 have h':vs.length<=n:=by simpa using h
 refine⟨O,by simp;omega,fun i=>?_⟩;simp only [Kz];rw [jy,dd,Array.getElem?_append]
 split
 ·simp
 rename_i hi;simp at hi;rw [qm hi,Array.getElem?_replicate]
 split<;>rfl
theorem dz{R:ad->aa->Prop}{t:Nat}{b:Bool}(h:e t= .bool b)(hR:R (.bool b) w):GV t R .ret e w:=by show R (e t) w;rw [h];exact hR
theorem jj{R:ad->aa->Prop}{t:Nat}{k:IntKind}{i:Int}(h:e t= .int k i)(hR:R (.int k i) w):GV t R .ret e w:=by show R (e t) w;rw [h];exact hR
theorem gK{R:ad->aa->Prop}{t:Nat}{A:aj}{n c:Nat}(h:e t= .slice A n c)(hR:R (.slice A n c) w):GV t R .ret e w:=by show R (e t) w;rw [h];exact hR
theorem JN{R:ad->aa->Prop}{t:Nat}{v:ad}(h:e t=v)(hR:R v w):GV t R .ret e w:=by show R (e t) w;rw [h];exact hR
theorem OA{R:ad->aa->Prop}(hR:R (.tuple #[]) w):Oz R .ret e w:=hR
theorem yK{R:ad->aa->Prop}(hR:R (.tuple #[]) w):Oz R .normal e w:=hR
theorem GW{R:ad->aa->Prop}{t u:Nat}{A:aj}{n c:Nat}{k:IntKind}{i:Int}(h:e t= .slice A n c)(h2:e u= .int k i)(hR:R (.tuple #[.slice A n c,.int k i]) w):Eh t u R .ret e w:=by show R (.tuple #[e t,e u]) w;rw [h,h2];exact hR
theorem Wt{R:ad->aa->Prop}{t u:Nat}{k':IntKind}{j:Int}{k:IntKind}{i:Int}(h:e t= .int k' j)(h2:e u= .int k i)(hR:R (.tuple #[.int k' j,.int k i]) w):Eh t u R .ret e w:=by show R (.tuple #[e t,e u]) w;rw [h,h2];exact hR
theorem yL{R:ad->aa->Prop}{t u:Nat}{b:Bool}{k:IntKind}{i:Int}(h:e t= .bool b)(h2:e u= .int k i)(hR:R (.tuple #[.bool b,.int k i]) w):Eh t u R .ret e w:=by show R (.tuple #[e t,e u]) w;rw [h,h2];exact hR
theorem ah7{R:ad->aa->Prop}{t u:Nat}{A:aj}{n c:Nat}{b:Bool}(h:e t= .slice A n c)(h2:e u= .bool b)(hR:R (.tuple #[.slice A n c,.bool b]) w):Eh t u R .ret e w:=by show R (.tuple #[e t,e u]) w;rw [h,h2];exact hR
theorem bI{F:FuncId}{fn:Func}{c:Code}{vs:List ad}{R:ad->aa->Prop}{Q:kb}(hf:P.funcs[F]?=some fn)(hc:fn.body=some c)(hn:fn.ntmps=N)(hl:Nat.ble vs.length N=true)(hQ:∀x a e w,ky N a e->Q x e w->bodyPost P fn (fun x w'=>∃v,x= .returned v/\R v w') x a w)(h:Cd P N c Q (Kz vs) w):aN P F vs w R:=by
 subst hn;exact calls_of_wp hf hc (wp_mono (h.run _ (ah5 vs _ hl)) fun x a w ⟨e,he,q⟩=>hQ x a e w he q)
theorem Cu{fn:Func}{R:ad->aa->Prop}(hr:fn.results= #[]):∀x a e w,ky N a e->Oz R x e w->bodyPost P fn (fun x w'=>∃v,x= .returned v/\R v w') x a w:=by
 intro x a e w he q;cases x<;>first
  | exact q.elim
  | exact⟨he.defers,_,results_none hr _ _ _,_,rfl,q⟩
theorem du{fn:Func}{R:ad->aa->Prop}{t:Nat}(hr:fn.results= #[.tmp t]):∀x a e w,ky N a e->GV t R x e w->bodyPost P fn (fun x w'=>∃v,x= .returned v/\R v w') x a w:=by
 intro x a e w he q;have hg:=he.get t;cases x<;>first
  | exact q.elim
  | exact⟨he.defers,_,results_tmp hr _ _ _,_,rfl,by rw [hg];exact q⟩
theorem vZ{fn:Func}{R:ad->aa->Prop}{t u:Nat}(hr:fn.results= #[.tmp t,.tmp u]):∀x a e w,ky N a e->Eh t u R x e w->bodyPost P fn (fun x w'=>∃v,x= .returned v/\R v w') x a w:=by
 intro x a e w he q;have hg:=he.get t;have hh:=he.get u;cases x<;>first
  | exact q.elim
  | exact⟨he.defers,_,results_tmp2 hr _ _ _,_,rfl,by rw [hg,hh];exact q⟩
end
def hd:ad->Option ad
 | .int k n=>some (.int k n)
 | .slice a n c=>some (.slice a n c)
 | .bool b=>some (.bool b)
 | .pointer a=>some (.pointer a)
 | .agg cs=>some (.agg cs)
 | .func f a b=>some (.func f a b)
 | .tuple cs=>some (.tuple cs)
 | .string s=>some (.string s)
 | .map r=>some (.map r)
 | _=>none
theorem My{v u:ad}(h:hd v=some u):v=u:=by cases v<;>simp [hd]at h<;>exact h
def NY(e:Env)(x y:ag):Option ad:=
 match ev e x,ev e y with
 | .int .i64 a,.int .i64 b=>some (.bool (decide (a<b)))
 | _,_=>none
theorem af4{e:Env}{x y:ag}{v:ad}(h:NY e x y=some v):∃a b,ev e x=ak a/\ev e y=ak b/\v= .bool (decide (a<b)):=by
 unfold NY at h
 split at h
 ·rename_i a b h1 h2;exact⟨a,b,h1,h2,(dA h).symm⟩
 cases h
def NV(e:Env)(x y:ag):Option ad:=
 match ev e x,ev e y with
 | .int .i64 a,.int .i64 b=>some (.bool (decide (a<=b)))
 | _,_=>none
theorem afR{e:Env}{x y:ag}{v:ad}(h:NV e x y=some v):∃a b,ev e x=ak a/\ev e y=ak b/\v= .bool (decide (a<=b)):=by
 unfold NV at h
 split at h
 ·rename_i a b h1 h2;exact⟨a,b,h1,h2,(dA h).symm⟩
 cases h
def LF(e:Env)(x y:ag):Option ad:=
 match ev e x,ev e y with
 | .int .i64 a,.int .i64 b=>some (.bool (decide (b<a)))
 | _,_=>none
theorem abj{e:Env}{x y:ag}{v:ad}(h:LF e x y=some v):∃a b,ev e x=ak a/\ev e y=ak b/\v= .bool (decide (b<a)):=by
 unfold LF at h
 split at h
 ·rename_i a b h1 h2;exact⟨a,b,h1,h2,(dA h).symm⟩
 cases h
def Lq(e:Env)(x y:ag):Option ad:=
 match ev e x,ev e y with
 | .int .i64 a,.int .i64 b=>some (.bool (decide (b<=a)))
 | _,_=>none
theorem aa4{e:Env}{x y:ag}{v:ad}(h:Lq e x y=some v):∃a b,ev e x=ak a/\ev e y=ak b/\v= .bool (decide (b<=a)):=by
 unfold Lq at h
 split at h
 ·rename_i a b h1 h2;exact⟨a,b,h1,h2,(dA h).symm⟩
 cases h
def K7(e:Env)(x y:ag):Option ad:=
 match ev e x,ev e y with
 | .int .i64 a,.int .i64 b=>some (.bool (decide (a=b)))
 | _,_=>none
theorem aar{e:Env}{x y:ag}{v:ad}(h:K7 e x y=some v):∃a b,ev e x=ak a/\ev e y=ak b/\v= .bool (decide (a=b)):=by
 unfold K7 at h
 split at h
 ·rename_i a b h1 h2;exact⟨a,b,h1,h2,(dA h).symm⟩
 cases h
def Oe(e:Env)(x y:ag):Option ad:=
 match ev e x,ev e y with
 | .int .i64 a,.int .i64 b=>some (.bool (decide (¬a=b)))
 | _,_=>none
theorem agJ{e:Env}{x y:ag}{v:ad}(h:Oe e x y=some v):∃a b,ev e x=ak a/\ev e y=ak b/\v= .bool (decide (¬a=b)):=by
 unfold Oe at h
 split at h
 ·rename_i a b h1 h2;exact⟨a,b,h1,h2,(dA h).symm⟩
 cases h
def OU(e:Env):Op->Option ad
 | .move x=>hd (ev e x)
 | .assign x=>hd (ev e x)
 | .binOp .lss _ x y _=>NY e x y
 | .binOp .leq _ x y _=>NV e x y
 | .binOp .gtr _ x y _=>LF e x y
 | .binOp .geq _ x y _=>Lq e x y
 | .binOp .eql _ x y _=>K7 e x y
 | .binOp .neq _ x y _=>Oe e x y
 | .extract x i=>match ev e x with
  | .tuple vs=> (match vs[i]? with
   | some v=>hd v
   | none=>none)
  | _=>none
 | .pick c x y=>match ev e c with
  | .bool true=> (match ev e x with
   | .bool b=>some (.bool b)
   | _=>none)
  | .bool false=> (match ev e y with
   | .bool b=>some (.bool b)
   | _=>none)
  | _=>none
 | _=>none
def uf(N:Nat)(e:Env)(o:Oper):Option (Nat×ad):=
 match o.guard,o.dst with
 | none,some d=> (match Nat.blt d N with
  | true=> (match OU e o.op with
   | some v=>some (d,v)
   | none=>none)
  | false=>none)
 | _,_=>none
def CU(N:Nat):List Oper->Env->List Oper×Env
 | [],e=> ([],e)
 | o::l,e=>match uf N e o with
  | some (d,v)=>CU N l (bG e d v)
  | none=> (o::l,e)
section
variable {P:Program} {N:Nat} {ops:Array Oper} {K:Env->aa->Prop} {e:Env} {w:aa}
theorem ao.uf{o:Oper}{l:List Oper}{d:Nat}{v:ad}(h:uf N e o=some (d,v))(hK:ao P N ops K l (bG e d v) w):ao P N ops K (o::l) e w:=by
 obtain⟨dst,op,ty,pos,af,gd⟩:=o;unfold Vc.uf at h
 split at h
 ·rename_i d' hg pe;simp only at hg pe;subst hg pe
  split at h
  ·rename_i hb
   split at h
   ·rename_i v' hv;simp only [qo,Prod.mk.injEq]at h;obtain⟨rfl,rfl⟩:=h;replace hv:OU e op=some v':=hv;unfold OU at hv
    split at hv
    ·exact .mv O (My hv) hb hK
    ·exact .mv O (My hv) hb hK
    ·obtain⟨a,b,h1,h2,rfl⟩:=af4 hv;exact .lss h1 h2 hb hK
    ·obtain⟨a,b,h1,h2,rfl⟩:=afR hv;exact .leq h1 h2 hb hK
    ·obtain⟨a,b,h1,h2,rfl⟩:=abj hv;exact .gtr h1 h2 hb hK
    ·obtain⟨a,b,h1,h2,rfl⟩:=aa4 hv;exact .geq h1 h2 hb hK
    ·obtain⟨a,b,h1,h2,rfl⟩:=aar hv;exact .eql h1 h2 hb hK
    ·obtain⟨a,b,h1,h2,rfl⟩:=agJ hv;exact .neq h1 h2 hb hK
    ·split at hv
     ·rename_i h1
      split at hv
      ·rename_i h2;exact .extract h1 (by rw [h2,My hv]) hb hK
      cases hv
     cases hv
    ·split at hv
     ·rename_i h1
      split at hv
      ·rename_i b h2;obtain rfl:=dA hv;exact .ahg h1 h2 hb hK
      cases hv
     ·rename_i h1
      split at hv
      ·rename_i b h2;obtain rfl:=dA hv;exact .ahf h1 h2 hb hK
      cases hv
     cases hv
    cases hv
   cases h
  cases h
 cases h
theorem Kr:∀ {l:List Oper} {e:Env},ao P N ops K (CU N l e).1 (CU N l e).2 w->ao P N ops K l e w
 | [],_,h=>h
 | o::l,e,h=>by
  unfold CU at h
  split at h
  ·rename_i d v hs;exact .uf hs (Kr h)
  ·exact h
end
inductive Fr where
 | s (c:Code)
 | b (id:Nat)
def Qk(P:Program)(N:Nat)(Q:kb):List Fr->kb
 | []=>Q
 | .s y::r=>CD (Cd P N y (Qk P N Q r)) (Qk P N Q r)
 | .b id::r=>KF id (Qk P N Q r)
def Ea:List Fr->Option (Code×List Fr)
 | []=>none
 | .s y::r=>some (y,r)
 | .b _::r=>Ea r
def Eb(id:Nat):List Fr->Option (List Fr)
 | []=>none
 | .s _::r=>Eb id r
 | .b i::r=>match Nat.beq id i with
  | true=>some r
  | false=>Eb id r
inductive CS where
 | c (c:Code) (s:List Fr) (e:Env)
 | o (ops:Array Oper) (l:List Oper) (s:List Fr) (e:Env)
 | n (e:Env)
 | r (e:Env)
 | x (id:Nat) (e:Env)
def CS.ok(P:Program)(N:Nat)(Q:kb)(w:aa):CS->Prop
 | .c y s e=>Cd P N y (Qk P N Q s) e w
 | .o ops l s e=>ao P N ops (fun e w=>Qk P N Q s .normal e w) l e w
 | .n e=>Q .normal e w
 | .r e=>Q .ret e w
 | .x id e=>Q (.exit id) e w
def run(N:Nat):Nat->Code->List Fr->Env->CS
 | 0,c,s,e=> .c c s e
 | n+1,c,s,e=>match c with
  | .seq x y=>run N n x (.s y::s) e
  | .block id x=>run N n x (.b id::s) e
  | .region id ops dr=>match dr with
   | true=> .c (.region id ops true) s e
   | false=>match CU N ops.toList e with
    | ([],e')=> (match Ea s with
     | none=> .n e'
     | some (y,r)=>run N n y r e')
    | (o::l,e')=> .o ops (o::l) s e'
  | .skip=> (match Ea s with
   | none=> .n e
   | some (y,r)=>run N n y r e)
  | .ret=> .r e
  | .exit id=> (match Eb id s with
   | none=> .x id e
   | some s'=> (match Ea s' with
    | none=> .n e
    | some (y,r)=>run N n y r e))
  | c=> .c c s e
def runN(N n:Nat)(s:List Fr)(e:Env):CS:=match Ea s with
 | none=> .n e
 | some (y,r)=>run N n y r e
def Eo(N n id:Nat)(s:List Fr)(e:Env):CS:=match Eb id s with
 | none=> .x id e
 | some s'=>runN N n s' e
def Cz(N n:Nat)(ops:Array Oper)(l:List Oper)(s:List Fr)(e:Env):CS:=match CU N l e with
 | ([],e')=>runN N n s e'
 | (o::l,e')=> .o ops (o::l) s e'
section
variable{id i1 i:Nat}{ops o1:Array Oper}{s1:List Fr}{c1:Code}
variable {P:Program} {N:Nat} {Q:kb} {e:Env} {w:aa}
theorem GP:∀ {s:List Fr},(match Ea s with | none=>Q .normal e w | some (y,r)=>Cd P N y (Qk P N Q r) e w)->Qk P N Q s .normal e w
 | [],h=>h
 | .s _::_,h=>h
 | .b _::r,h=>GP (s:=r) h
theorem JG{id:Nat}:∀ {s:List Fr},(match Eb id s with | none=>Q (.exit id) e w | some r=>Qk P N Q r .normal e w)->Qk P N Q s (.exit id) e w
 | [],h=>h
 | .s _::r,h=>JG (s:=r) h
 | .b i::r,h=>by
  unfold Eb at h;show(if id=i then _ else _);cases hb:Nat.beq id i with
  | true=>rw [ay (pD hb)];rw [hb]at h;exact h
  | false=>
   rw [aw (fun e=>by rw [e,Nat.beq_refl]at hb;cases hb)];rw [hb]at h;exact JG (s:=r) h
theorem e6:∀ {s:List Fr},Q .ret e w->Qk P N Q s .ret e w
 | [],h=>h
 | .s _::r,h=>e6 (s:=r) h
 | .b _::r,h=>e6 (s:=r) h
theorem Cd.ah4{Q:kb}(h:ao P N ops (fun e w=>Q .normal e w) ops.toList e w):Cd P N (.region id ops false) Q e w:=by
 have:=Cd.region (P:=P) (N:=N) (Q:=Q) (id:=id) (l:=ops.toList) (e:=e) (w:=w) (by rw [Array.toArray_toList];exact h)
 rwa [Array.toArray_toList]at this
theorem rA:∀ {n:Nat} {c:Code} {s:List Fr} {e:Env},(run N n c s e).ok P N Q w->Cd P N c (Qk P N Q s) e w
 | 0,_,_,_,h=>h
 | n+1,c,s,e,h=>by
  unfold run at h
  split at h
  ·exact .seq (rA h)
  ·exact .block (rA h)
  ·split at h
   ·exact h
   ·refine .ah4 (Kr ?_)
    split at h
    ·rename_i he;rw [he];refine ao.n (GP ?_)
     split at h
     ·exact h
     ·exact rA h
    ·rename_i he;rw [he];exact h
  ·refine .skip (GP ?_)
   split at h
   ·exact h
   ·exact rA h
  ·exact .ret (e6 h)
  ·refine .exit (JG ?_)
   split at h
   ·exact h
   ·refine GP ?_
    split at h
    ·exact h
    ·exact rA h
  ·exact h
theorem Cy{n:Nat}{s:List Fr}{e:Env}(h:(runN N n s e).ok P N Q w):Qk P N Q s .normal e w:=by
 unfold runN at h;refine GP ?_
 split at h
 ·exact h
 exact rA h
theorem JW{n:Nat}{s:List Fr}{e:Env}(h:(Eo N n id s e).ok P N Q w):Qk P N Q s (.exit id) e w:=by
 unfold Eo at h;refine JG ?_
 split at h
 ·exact h
 exact Cy h
theorem GZ{n:Nat}{l:List Oper}{s:List Fr}{e:Env}(h:(Cz N n ops l s e).ok P N Q w):ao P N ops (fun e w=>Qk P N Q s .normal e w) l e w:=by
 unfold Cz at h;refine Kr ?_
 split at h
 ·rename_i he;rw [he];exact ao.n (Cy h)
 rename_i he;rw [he];exact h
theorem CQ{s:List Fr}{F:List (Nat×ad)}(hM:Mt e F)(h:Qk P N Q s .normal (ext e F) w):Qk P N Q s .normal e w:=by rwa [zv hM]at h
theorem cM{c:Code}{s:List Fr}{e1:Env}(h:run N 1000 c s e= .c c1 s1 e1)(k:Cd P N c1 (Qk P N Q s1) e1 w):Cd P N c (Qk P N Q s) e w:=rA (n:=1000) (by rw [h];exact k)
theorem aG{c:Code}{s:List Fr}{l1:List Oper}{e1:Env}(h:run N 1000 c s e= .o o1 l1 s1 e1)(k:ao P N o1 (fun e w=>Qk P N Q s1 .normal e w) l1 e1 w):Cd P N c (Qk P N Q s) e w:=rA (n:=1000) (by rw [h];exact k)
theorem mU{c:Code}{s:List Fr}{e1:Env}(h:run N 1000 c s e= .n e1)(k:Q .normal e1 w):Cd P N c (Qk P N Q s) e w:=rA (n:=1000) (by rw [h];exact k)
theorem eF{c:Code}{s:List Fr}{e1:Env}(h:run N 1000 c s e= .r e1)(k:Q .ret e1 w):Cd P N c (Qk P N Q s) e w:=rA (n:=1000) (by rw [h];exact k)
theorem bw{c:Code}{s:List Fr}{e1:Env}(h:run N 1000 c s e= .x i1 e1)(k:Q (.exit i1) e1 w):Cd P N c (Qk P N Q s) e w:=rA (n:=1000) (by rw [h];exact k)
theorem Hj(n:Nat){c:Code}{s:List Fr}{e1:Env}(h:run N n c s e= .c c1 s1 e1)(k:Cd P N c1 (Qk P N Q s1) e1 w):Cd P N c (Qk P N Q s) e w:=rA (n:=n) (by rw [h];exact k)
theorem b8{c:Code}{e1:Env}(h:run N 1000 c [] e= .c c1 s1 e1)(k:Cd P N c1 (Qk P N Q s1) e1 w):Cd P N c Q e w:=rA (s:=[]) (n:=1000) (by rw [h];exact k)
theorem bc{c:Code}{l1:List Oper}{e1:Env}(h:run N 1000 c [] e= .o o1 l1 s1 e1)(k:ao P N o1 (fun e w=>Qk P N Q s1 .normal e w) l1 e1 w):Cd P N c Q e w:=rA (s:=[]) (n:=1000) (by rw [h];exact k)
theorem Kf{c:Code}{e1:Env}(h:run N 1000 c [] e= .r e1)(k:Q .ret e1 w):Cd P N c Q e w:=rA (s:=[]) (n:=1000) (by rw [h];exact k)
theorem XO(n:Nat){c:Code}{e1:Env}(h:run N n c [] e= .c c1 s1 e1)(k:Cd P N c1 (Qk P N Q s1) e1 w):Cd P N c Q e w:=rA (s:=[]) (n:=n) (by rw [h];exact k)
theorem aI{l:List Oper}{s:List Fr}{e1:Env}(h:Cz N 1000 ops l s e= .c c1 s1 e1)(k:Cd P N c1 (Qk P N Q s1) e1 w):ao P N ops (fun e w=>Qk P N Q s .normal e w) l e w:=GZ (n:=1000) (by rw [h];exact k)
theorem ar{l:List Oper}{s:List Fr}{l1:List Oper}{e1:Env}(h:Cz N 1000 ops l s e= .o o1 l1 s1 e1)(k:ao P N o1 (fun e w=>Qk P N Q s1 .normal e w) l1 e1 w):ao P N ops (fun e w=>Qk P N Q s .normal e w) l e w:=GZ (n:=1000) (by rw [h];exact k)
theorem aT{l:List Oper}{s:List Fr}{e1:Env}(h:Cz N 1000 ops l s e= .n e1)(k:Q .normal e1 w):ao P N ops (fun e w=>Qk P N Q s .normal e w) l e w:=GZ (n:=1000) (by rw [h];exact k)
theorem bM{l:List Oper}{s:List Fr}{e1:Env}(h:Cz N 1000 ops l s e= .r e1)(k:Q .ret e1 w):ao P N ops (fun e w=>Qk P N Q s .normal e w) l e w:=GZ (n:=1000) (by rw [h];exact k)
theorem xr(n:Nat){l:List Oper}{s:List Fr}{e1:Env}(h:Cz N n ops l s e= .c c1 s1 e1)(k:Cd P N c1 (Qk P N Q s1) e1 w):ao P N ops (fun e w=>Qk P N Q s .normal e w) l e w:=GZ (n:=n) (by rw [h];exact k)
theorem fh{s:List Fr}{e1:Env}(h:runN N 1000 s e= .c c1 s1 e1)(k:Cd P N c1 (Qk P N Q s1) e1 w):Qk P N Q s .normal e w:=Cy (n:=1000) (by rw [h];exact k)
theorem iV{s:List Fr}{l1:List Oper}{e1:Env}(h:runN N 1000 s e= .o o1 l1 s1 e1)(k:ao P N o1 (fun e w=>Qk P N Q s1 .normal e w) l1 e1 w):Qk P N Q s .normal e w:=Cy (n:=1000) (by rw [h];exact k)
theorem Pv{s:List Fr}{e1:Env}(h:runN N 1000 s e= .n e1)(k:Q .normal e1 w):Qk P N Q s .normal e w:=Cy (n:=1000) (by rw [h];exact k)
theorem zd{s:List Fr}{e1:Env}(h:runN N 1000 s e= .r e1)(k:Q .ret e1 w):Qk P N Q s .normal e w:=Cy (n:=1000) (by rw [h];exact k)
theorem XP(n:Nat){s:List Fr}{e1:Env}(h:runN N n s e= .c c1 s1 e1)(k:Cd P N c1 (Qk P N Q s1) e1 w):Qk P N Q s .normal e w:=Cy (n:=n) (by rw [h];exact k)
theorem oO{s:List Fr}{e1:Env}(h:Eo N 1000 i s e= .c c1 s1 e1)(k:Cd P N c1 (Qk P N Q s1) e1 w):Qk P N Q s (.exit i) e w:=JW (n:=1000) (by rw [h];exact k)
theorem dh{s:List Fr}{l1:List Oper}{e1:Env}(h:Eo N 1000 i s e= .o o1 l1 s1 e1)(k:ao P N o1 (fun e w=>Qk P N Q s1 .normal e w) l1 e1 w):Qk P N Q s (.exit i) e w:=JW (n:=1000) (by rw [h];exact k)
theorem EE{s:List Fr}{e1:Env}(h:Eo N 1000 i s e= .n e1)(k:Q .normal e1 w):Qk P N Q s (.exit i) e w:=JW (n:=1000) (by rw [h];exact k)
theorem ij{s:List Fr}{e1:Env}(h:Eo N 1000 i s e= .r e1)(k:Q .ret e1 w):Qk P N Q s (.exit i) e w:=JW (n:=1000) (by rw [h];exact k)
end
def Yw:Prop:=False
structure Below(B:Nat)(w w':aa):Prop extends Go.RowKit.Below B w w' where
 drawn:Yw->w.drawn<=w'.drawn
theorem Below.refl(B:Nat)(w:aa):Below B w w:=⟨Go.RowKit.Below.refl B w,fun _=>bB _⟩
theorem Below.trans{B:Nat}{a b c:aa}(h:Below B a b)(k:Below B b c):Below B a c:=⟨h.toBelow.trans k.toBelow,fun s=>l5 (h.drawn s) (k.drawn s)⟩
theorem Below.mono{B B':Nat}{w w':aa}(h:Below B w w')(hB:B'<=B):Below B' w w':=⟨h.toBelow.mono hB,h.drawn⟩
theorem Below.drew{B:Nat}{a w:aa}(h:Below B a w):Below B a w.drew:=⟨h.toBelow.drew,fun s=>Nat.le_succ_of_le (h.drawn s)⟩
theorem Below.alloc{B:Nat}{a w:aa}(h:Below B a w)(hB:B<=w.heap.size)(o:Obj):Below B a (w.alloc o):=⟨h.toBelow.alloc hB o,h.drawn⟩
structure Hk(w w':aa)(row:Option Nat):Prop where
 g:w.grownBy w' row
 drawn:w.drawn<=w'.drawn
theorem Below.grown{B:Nat}{a w w':aa}{row:Option Nat}(h:Below B a w)(hg:Hk w w' row)(hB:B<=w.heap.size)(hr:∀k,row=some k->B<=k):Below B a w':=⟨h.toBelow.grown hg.g hB hr,fun s=>l5 (h.drawn s) hg.drawn⟩
def aB(A:aj)(k:Nat):aj:=A.map (·.add k)
def Rd(w:aa)(A:aj)(n:Nat)(f:Nat->ad):Prop:=∀k,k<n->∃p,aB A k=some p/\w.cell? p=some (f k)
structure Ck where
 A:aj
 n:Nat
 c:Nat
 e:ae
 vs:List ad
def Ck.iX(k:Ck):Option Nat:=k.A.map (·.block)
def wE:List (ad×ad)->List ad
 | []=> []
 | p::r=>p.1::p.2::wE r
theorem Rw:∀ {a b:List (ad×ad)},wE a=wE b->a=b
 | [],[],_=>rfl
 | [],_::_,h=>by simp [wE]at h
 | _::_,[],h=>by simp [wE]at h
 | (x,y)::a,(x',y')::b,h=>by
  simp only [wE,List.cons.injEq]at h;rw [h.1,h.2.1,Rw h.2.2]
def fw:List ad->Bool
 | .tuple _::_=>true
 | _=>false
theorem Jn{v:ad}{r:List ad}(h:v.oneCell'=true):fw (v::r)=false:=by
 cases v<;>simp_all [fw,Value.oneCell']
theorem yu{l:List ad}(h:∀v∈l,v.oneCell'=true):fw l=false:=by
 cases l with
 | nil=>rfl
 | cons v r=>exact Jn (h v (by simp))
theorem UI{a b:List ad}(ha:fw a=false)(hb:fw b=false):fw (a++b)=false:=by
 cases a with
 | nil=>exact hb
 | cons v r=>cases v<;>simp_all [fw]
theorem Gx{a b:List ad}(ha:fw a=false)(h:a≠[]):fw (a++b)=false:=by
 cases a with
 | nil=>exact absurd rfl h
 | cons v r=>cases v<;>simp_all [fw]
theorem UJ{a:List ad}(m:Nat)(ha:fw a=false):fw (a.take m)=false:=by
 cases a with
 | nil=>simp [fw]
 | cons v r=>
  cases m with
  | zero=>rfl
  | succ m=>cases v<;>simp_all [fw]
theorem aez{a:List ad}(j:Nat){u:ad}(ha:fw a=false)(hu:u.oneCell'=true):fw (a.set j u)=false:=by
 cases a with
 | nil=>rfl
 | cons v r=>
  cases j with
  | zero=>exact Jn hu
  | succ m=>cases v<;>simp_all [fw]
theorem aey{z:ad}(n:Nat)(hz:z.oneCell'=true):fw (List.replicate n z)=false:=yu fun v hv=>by rw [(List.mem_replicate.1 hv).2];exact hz
def CP(B:Nat)(w:aa)(k:Ck):Prop:=
 k.vs.length=k.n/\k.n<=k.c/\k.c<=maxLen/\
 ((k.A=none/\k.c=0)\/∃g o cur,k.A=some ⟨g,o,none⟩/\B<=g/\w.heap[g]?=some (.cells cur k.e (0,0))/\o+k.c<=cur.size/\∀j,j<k.n->cur[o+j]?=k.vs[j]?)
def Km(B:Nat)(w:aa)(k:Ck):Prop:=
 k.n=0/\k.c=0/\∃g es cl,k.A=some ⟨g,0,none⟩/\B<=g/\w.heap[g]?=some (.map es cl)/\k.vs= .tuple #[]::wE (es.toList.map fun e=> (e.key,e.val))
def Own(B:Nat)(w:aa)(k:Ck):Prop:=if fw k.vs=true then Km B w k else CP B w k
theorem Own.s5{B:Nat}{w:aa}{k:Ck}(hm:fw k.vs=false)(h:CP B w k):Own B w k:=by unfold Own;rw [if_neg (by simp [hm])];exact h
theorem Own.O1{B:Nat}{w:aa}{k:Ck}(hm:fw k.vs=false)(h:Own B w k):CP B w k:=by unfold Own at h;rwa [if_neg (by simp [hm])]at h
theorem Own.cases{B:Nat}{w:aa}{k:Ck}(h:Own B w k):(fw k.vs=true/\Km B w k)\/(fw k.vs=false/\CP B w k):=by
 unfold Own at h
 split at h
 ·rename_i hm;exact .inl ⟨hm,h⟩
 rename_i hm;exact .inr ⟨by simpa using hm,h⟩
theorem Own.ofM{B:Nat}{w:aa}{k:Ck}(hm:fw k.vs=true)(h:Km B w k):Own B w k:=by unfold Own;rw [if_pos hm];exact h
structure St(w0 w:aa)(ks:List Ck):Prop where
 below:Below w0.heap.size w0 w
 own:∀k∈ks,Own w0.heap.size w k
 apart:(ks.filterMap Ck.iX).Nodup
theorem CT{g o:Nat}(k:Nat):(⟨g,o,none⟩:Addr).add k=⟨g,o+k,none⟩:=by unfold Addr.add;split<;>simp_all
section
variable{B' i j:Nat}{ks':List Ck}
variable {w0 w w':aa} {ks:List Ck} {k:Ck} {B:Nat}
theorem Own.rd(h:Own B w k):Rd w k.A k.n (fun j=>k.vs.getD j undef):=by
 rcases h.cases with⟨_,hn,_⟩ | ⟨_,h1,h2,h3,h4⟩
 ·intro j hj;omega
 intro j hj;rcases h4 with⟨_,h0⟩ | ⟨g,o,cur,hA,hg,hh,hs,hc⟩
 ·omega
 refine⟨⟨g,o+j,none⟩,by simp [aB,hA,CT],?_⟩;simp only [World.cell?,hh];rw [hc j hj];simp [dd,gO (show j<k.vs.length by omega)]
theorem Own.mono(h:Own B w k)(hB:B'<=B):Own B' w k:=by
 rcases h.cases with⟨hm,hn,hc,g,es,cl,hA,hg,r⟩ | ⟨hm,h1,h2,h3,h4⟩
 ·exact .ofM hm ⟨hn,hc,g,es,cl,hA,by omega,r⟩
 refine .s5 hm ⟨h1,h2,h3,?_⟩;rcases h4 with h0 | ⟨g,o,cur,hA,hg,r⟩
 ·exact .inl h0
 exact .inr ⟨g,o,cur,hA,by omega,r⟩
theorem Own.keep(h:Own B w k)(hb:∀g,k.iX=some g->w'.heap[g]?=w.heap[g]?):Own B w' k:=by
 rcases h.cases with⟨hm,hn,hc,g,es,cl,hA,hg,hh,r⟩ | ⟨hm,h1,h2,h3,h4⟩
 ·exact .ofM hm ⟨hn,hc,g,es,cl,hA,hg,by rw [hb g (by simp [Ck.iX,hA])];exact hh,r⟩
 refine .s5 hm ⟨h1,h2,h3,?_⟩;rcases h4 with h0 | ⟨g,o,cur,hA,hg,hh,r⟩
 ·exact .inl h0
 exact .inr ⟨g,o,cur,hA,hg,by rw [hb g (by simp [Ck.iX,hA])];exact hh,r⟩
theorem Own.lt(h:Own B w k){g:Nat}(hg:k.iX=some g):B<=g/\g<w.heap.size:=by
 rcases h.cases with⟨hm,hn,hc,g',es,cl,hA,mI,hh,r⟩ | ⟨hm,h1,h2,h3,h4⟩
 ·simp [Ck.iX,hA]at hg;subst hg;exact⟨mI,(Array.getElem?_eq_some_iff.1 hh).1⟩
 rcases h4 with⟨h0,_⟩ | ⟨g',o,cur,hA,mI,hh,r⟩
 ·simp [Ck.iX,h0]at hg
 simp [Ck.iX,hA]at hg;subst hg;exact⟨mI,(Array.getElem?_eq_some_iff.1 hh).1⟩
theorem Own.cap(h:Own B w k):k.n<=k.c/\k.c<=maxLen:=by
 rcases h.cases with⟨_,hn,hc,_⟩ | ⟨_,_,h2,h3,_⟩
 ·exact⟨by omega,by rw [hc];exact bm _⟩
 exact⟨h2,h3⟩
theorem St.refl(w:aa):St w w []:=⟨Below.refl _ _,(fun _ h=>by cases h),List.nodup_nil⟩
theorem St.get(h:St w0 w ks)(hk:ks[i]?=some k):Own w0.heap.size w k:=h.own k (List.mem_of_getElem? hk)
theorem St.sD(h:St w0 w ks)(hk:ks[i]?=some k)(hm:fw k.vs=false):CP w0.heap.size w k:=(h.get hk).O1 hm
theorem St.rd(h:St w0 w ks)(i:Nat)(hk:ks[i]?=some k):Rd w k.A k.n (fun j=>k.vs.getD j undef):=(h.get hk).rd
theorem Rd.lt{A:aj}{n:Nat}{f:Nat->ad}(h:Rd w A n f)(hj:j<n):∃p,aB A j=some p/\p.block<w.heap.size/\w.cell? p=some (f j):=by
 obtain⟨p,hp,hc⟩:=h j hj;exact⟨p,hp,World.block_lt_of_cell? _ _ hc,hc⟩
theorem Rd.below{A:aj}{n:Nat}{f:Nat->ad}(h:Rd w A n f)(hb:Below w.heap.size w w'):Rd w' A n f:=fun j hj=>by
 obtain⟨p,hp,hl,hc⟩:=h.lt hj;exact⟨p,hp,(hb.cell hl).trans hc⟩
theorem St.sc(h:St w0 w ks){A:aj}{n:Nat}{f:Nat->ad}(hR:Rd w0 A n f):Rd w A n f:=hR.below h.below
theorem Rd.congr{A:aj}{n:Nat}{f g:Nat->ad}(h:Rd w A n f)(hf:∀j,j<n->f j=g j):Rd w A n g:=fun j hj=>by
 obtain⟨p,hp,hc⟩:=h j hj;exact⟨p,hp,by rw [hc,hf j hj]⟩
theorem St.aq(h:St w0 w ks)(hb:Below w.heap.size w w'):St w0 w' ks:=
 ⟨h.below.trans (hb.mono h.below.size),fun k hk=> (h.own k hk).keep fun g hg=>hb.block g ((h.own k hk).lt hg).2,h.apart⟩
theorem St.drew(h:St w0 w ks):St w0 w.drew ks:=h.aq (Below.drew (Below.refl _ _))
theorem St.call(h:St w0 w ks)(h':St w w' ks'):St w0 w' (ks'++ks):=by
 have h1:=h.aq h'.below;refine⟨h1.below,fun k hk=>?_,?_⟩
 ·rcases iR.1 hk with hk | hk
  ·exact(h'.own k hk).mono h.below.size
  exact h1.own k hk
 rw [List.filterMap_append,List.nodup_append];refine⟨h'.apart,h.apart,fun a ha b hb=>?_⟩;obtain⟨k,hk,MN⟩:=List.mem_filterMap.1 ha;obtain⟨k',eM,yg⟩:=List.mem_filterMap.1 hb;have l1:=((h'.own k hk).lt MN).1;have l2:=((h.own k' eM).lt yg).2;omega
theorem St.call2(h:St w0 w ks)(h':St w w' ks'):St w0 w' (ks++ks'):=by
 have h1:=h.call h';exact⟨h1.below,fun k hk=>h1.own k ((ku (l₁:=ks') (l₂:=ks)).mem_iff.2 hk),((ku (l₁:=ks') (l₂:=ks)).filterMap _).nodup_iff.1 h1.apart⟩
theorem St.sub(h:St w0 w ks)(hs:ks'.Sublist ks):St w0 w ks':=
 ⟨h.below,fun k hk=>h.own k (hs.subset hk),h.apart.sublist (hs.filterMap _)⟩
theorem St.perm(h:St w0 w ks)(hs:ks.Perm ks'):St w0 w ks':=
 ⟨h.below,fun k hk=>h.own k (hs.mem_iff.2 hk),(hs.filterMap _).nodup_iff.1 h.apart⟩
theorem St.tail(h:St w0 w (k::ks)):St w0 w ks:=h.sub (List.sublist_cons_self _ _)
theorem St.none(h:St w0 w ks):St w0 w []:=h.sub (List.nil_sublist _)
theorem St.nil(h:St w0 w ks)(e:ae):St w0 w (⟨Option.none,0,0,e,[]⟩::ks):=
 ⟨h.below,fun k hk=>by
  rcases jn.1 hk with rfl | hk
  ·exact .s5 O ⟨O,bB _,bm _,.inl ⟨O,O⟩⟩
  exact h.own k hk,h.apart⟩
theorem St.alloc(h:St w0 w ks)(cs:List ad)(e:ae)(hm:cs.length<=maxLen)(hM:fw cs=false):St w0 (w.alloc (.cells cs.toArray e)) (⟨some ⟨w.heap.size,0,Option.none⟩,cs.length,cs.length,e,cs⟩::ks):=by
 have hb:Below w.heap.size w (w.alloc (.cells cs.toArray e)):=(Below.refl _ _).alloc (bB _) _;have h1:=h.aq hb;refine⟨h1.below,fun k hk=>?_,?_⟩
 ·rcases jn.1 hk with rfl | hk
  ·exact .s5 hM ⟨O,bB _,hm,.inr ⟨_,0,cs.toArray,O,h.below.size,heap_alloc_new w _,by simp,fun j hj=>by simp⟩⟩
  exact h1.own k hk
 simp only [List.filterMap_cons,Ck.iX,Option.map_some,oS];refine⟨fun db=>?_,h.apart⟩;obtain⟨k',eM,yg⟩:=List.mem_filterMap.1 db;have:=((h.own k' eM).lt yg).2;omega
theorem HW{α β:Type}(f:α->Option β):∀(l:List α) (i:Nat) (a b:α),l[i]?=some a->f b=f a->(l.set i b).filterMap f=l.filterMap f
 | [],_,_,_,h,_=>by simp at h
 | x::l,0,a,b,h,he=>by
  simp at h;subst h;simp [List.filterMap_cons,he]
 | x::l,i+1,a,b,h,he=>by
  simp only [List.getElem?_cons_succ]at h;simp only [List.set_cons_succ,List.filterMap_cons,HW f l i a b h he]
theorem St.turn{g:Nat}{k':Ck}(h:St w0 w ks)(hk:ks[i]?=some k)(vD:k.iX=some g)(acr:k'.iX=some g)(hw:Hk w w' (some g))(ho:Own w0.heap.size w' k'):St w0 w' (ks.set i k'):=by
 have gB:=(h.get hk).lt vD;refine⟨h.below.grown hw h.below.size (fun x hx=>by cases hx;exact gB.1),fun x hx=>?_,?_⟩
 ·obtain⟨j,hj,rfl⟩:=fV.1 hx;have ll:j<ks.length:=by simpa using hj
  rw [List.getElem_set]
  split
  ·exact ho
  ·rename_i bt;have hm:ks[j]∈ks:=dH _;refine(h.own _ hm).keep fun g' mI=>hw.g.block g' ((h.own _ hm).lt mI).2 fun e=>?_
   injection e with e
   subst e;have dt:i<ks.length:=(iQ.1 hk).1;have eN:ks[i]=k:=(iQ.1 hk).2;exact absurd (show False from by
    have hn:=h.apart;have key:∀(l:List Ck),(l.filterMap Ck.iX).Nodup->∀i j (hi:i<l.length) (hj:j<l.length),i≠j->l[i].iX=some g'->l[j].iX=some g'->False:=by
     intro l
     induction l with
     | nil=>intro _ i j hi;simp at hi
     | cons a l ih=>
      intro hn i j hi hj bt h1 h2;cases i with
      | zero=>
       cases j with
       | zero=>exact bt rfl
       | succ j=>
        simp only [List.getElem_cons_zero]at h1;simp only [List.getElem_cons_succ]at h2;rw [List.filterMap_cons,h1]at hn;simp only [oS]at hn;exact hn.1 (List.mem_filterMap.2 ⟨_,dH _,h2⟩)
      | succ i=>
       cases j with
       | zero=>
        simp only [List.getElem_cons_zero]at h2;simp only [List.getElem_cons_succ]at h1;rw [List.filterMap_cons,h2]at hn;simp only [oS]at hn;exact hn.1 (List.mem_filterMap.2 ⟨_,dH _,h1⟩)
       | succ j=>
        have BZ:(l.filterMap Ck.iX).Nodup:=by
         rw [List.filterMap_cons]at hn
         split at hn
         ·exact hn
         ·exact(oS.1 hn).2
        exact ih BZ i j (by simpa using hi) (by simpa using hj) (by omega) (by simpa using h1) (by simpa using h2)
    exact key ks hn i j dt ll bt (by rw [eN];exact vD) mI) id
 ·rw [HW Ck.iX ks i k k' hk (by rw [vD,acr])];exact h.apart
theorem St.store(h:St w0 w ks)(i:Nat)(hk:ks[i]?=some k)(hj:j<k.n)(u:ad)(hu:u.oneCell'=true):
 ∃p,aB k.A j=some p/\(∃v,w.cell? p=some v)/\w.frozen? p=false/\St w0 (w.setCell p u) (ks.set i { k with vs:=k.vs.set j u }):=by
 rcases(h.get hk).cases with⟨_,qx,_⟩ | ⟨hM,h1,h2,h3,h4⟩
 ·omega
 rcases h4 with⟨_,h0⟩ | ⟨g,o,cur,hA,hg,hh,hs,hc⟩
 ·omega
 refine⟨⟨g,o+j,Option.none⟩,by simp [aB,hA,CT],?_,?_,?_⟩
 ·have:o+j<cur.size:=by omega
  exact⟨cur[o+j],by simp [World.cell?,hh,sr this]⟩
 ·simp [World.frozen?,hh]
 have vD:k.iX=some g:=by simp [Ck.iX,hA]
 have gB:=(Array.getElem?_eq_some_iff.1 hh).1;refine h.turn (k':= { k with vs:=k.vs.set j u }) hk vD vD ⟨⟨O,O,O,by simp,fun x _ hx=>heap_setCell_other w ⟨g,o+j,Option.none⟩ x u (fun e=>hx (by simp [e]))⟩,bB _⟩ ?_;refine .s5 (aez j hM hu) ⟨by simpa using h1,h2,h3,.inr ⟨g,o,cur.setIfInBounds (o+j) u,hA,hg,heap_setCell_same w g (o+j) cur k.e u hh,by simpa using hs,fun m hm=>?_⟩⟩;have jw:m<k.n:=hm;rw [uj];show _=(k.vs.set j u)[m]?;rw [pA]
 by_cases e:j=m
 ·subst e;rw [ay rfl,ay rfl,ay (by omega),ay (by omega)]
 rw [aw (by omega),aw e];exact hc m jw
end
structure aQ where
 a:aj
 n:Nat
 c:Nat
def aQ.v(s:aQ):ad:= .slice s.a s.n s.c
def eA:aQ:=⟨none,0,0⟩
def gi(xs:ai)(i:Int):Int:=xs.getD i.toNat 0
def gb(xs:List Bool)(i:Int):Bool:=xs.getD i.toNat false
def rg(xs:List aQ)(i:Int):aQ:=xs.getD i.toNat eA
def di(w:aa)(A:aj)(n:Nat)(xs:ai):Prop:=xs.length=n/\Rd w A n (fun j=>ak (xs.getD j 0))
def vf(w:aa)(A:aj)(n:Nat)(xs:List Bool):Prop:=xs.length=n/\Rd w A n (fun j=> .bool (xs.getD j false))
def jo(w:aa)(A:aj)(n:Nat)(xs:List aQ):Prop:=xs.length=n/\Rd w A n (fun j=> (xs.getD j eA).v)
abbrev az(t:ae)(A:aj)(n c:Nat)(xs:ai):Ck:=⟨A,n,c,t,xs.map (ak)⟩
abbrev gm(t:ae)(A:aj)(n c:Nat)(xs:List Bool):Ck:=⟨A,n,c,t,xs.map .bool⟩
abbrev b9(t:ae)(A:aj)(n c:Nat)(xs:List aQ):Ck:=⟨A,n,c,t,xs.map aQ.v⟩
theorem tW(xs:ai):fw (xs.map (Value.int .i64))=false:=yu fun v hv=>by obtain⟨_,_,rfl⟩:=dv.1 hv;rfl
theorem Gw(xs:List Bool):fw (xs.map Value.bool)=false:=yu fun v hv=>by obtain⟨_,_,rfl⟩:=dv.1 hv;rfl
theorem Cg(xs:List aQ):fw (xs.map aQ.v)=false:=yu fun v hv=>by obtain⟨_,_,rfl⟩:=dv.1 hv;rfl
section
variable {w0 w w':aa} {ks:List Ck} {t:ae} {A:aj} {n c:Nat}
theorem St.bF{xs:ai}(h:St w0 w ks)(i:Nat)(hk:ks[i]?=some (az t A n c xs)):di w A n xs:=by
 have hl:xs.length=n:=by have:=(h.sD hk (tW xs)).1;simpa using this
 exact⟨hl,(h.rd i hk).congr fun j hj=>by have ll:j<n:=hj;simp [dd,gO (show j<xs.length by omega)]⟩
theorem St.ji{xs:List Bool}(h:St w0 w ks)(i:Nat)(hk:ks[i]?=some (gm t A n c xs)):vf w A n xs:=by
 have hl:xs.length=n:=by have:=(h.sD hk (Gw xs)).1;simpa using this
 exact⟨hl,(h.rd i hk).congr fun j hj=>by have ll:j<n:=hj;simp [dd,gO (show j<xs.length by omega)]⟩
theorem St.ie{xs:List aQ}(h:St w0 w ks)(i:Nat)(hk:ks[i]?=some (b9 t A n c xs)):jo w A n xs:=by
 have hl:xs.length=n:=by have:=(h.sD hk (Cg xs)).1;simpa using this
 exact⟨hl,(h.rd i hk).congr fun j hj=>by have ll:j<n:=hj;simp [dd,gO (show j<xs.length by omega)]⟩
theorem St.gH{xs:ai}(h:St w0 w ks)(hR:di w0 A n xs):di w A n xs:=⟨hR.1,h.sc hR.2⟩
theorem St.Oi{xs:List aQ}(h:St w0 w ks)(hR:jo w0 A n xs):jo w A n xs:=⟨hR.1,h.sc hR.2⟩
theorem St.cap{k:Ck}(h:St w0 w ks)(i:Nat)(hk:ks[i]?=some k):k.n<=k.c/\k.c<=maxLen:=(h.get hk).cap
theorem St.D6{xs:ai}(h:St w0 w ks)(i:Nat)(hk:ks[i]?=some (az t A n c xs)):xs.length=n:=(h.bF i hk).1
theorem di.aq{xs:ai}(h:di w A n xs)(hb:Below w.heap.size w w'):di w' A n xs:=⟨h.1,h.2.below hb⟩
theorem vf.aq{xs:List Bool}(h:vf w A n xs)(hb:Below w.heap.size w w'):vf w' A n xs:=⟨h.1,h.2.below hb⟩
theorem jo.aq{xs:List aQ}(h:jo w A n xs)(hb:Below w.heap.size w w'):jo w' A n xs:=⟨h.1,h.2.below hb⟩
theorem di.nil:di w none 0 []:=⟨rfl,fun k hk=>by omega⟩
theorem jo.nil:jo w none 0 []:=⟨rfl,fun k hk=>by omega⟩
end
section
variable{t te:ae}{z u v0 v1 z0:ad}{b j c1 ft sz o h c':Nat}{x ix x0 x1 dt y:ag}{A1 A':aj}{i:Int}
variable {P:Program} {N:Nat} {ops:Array Oper} {K:Env->aa->Prop} {rest:List Oper} {e:Env} {w0 w w':aa} {ks:List Ck} {d:Nat} {ty:ae} {pos:String} {af:Array Edge}
theorem alp{el:ae}[bV P t (.slice el)][bR P el z 1 b]{A:aj}{n c:Nat}{k:IntKind}{f:Nat->ad}(hR:Rd w A n f)(hx:ev e x= .slice A n c)(hy:ev e ix= .int k i)(hb:Nat.blt d N=true)(h0:0<=i)(h1:i< (n:Int))(hK:ao P N ops K rest (bG e d (.pointer (aB A i.toNat))) w):
 ao P N ops K (⟨some d,.indexAddr t x ix,ty,pos,af,none⟩::rest) e w:=by
 obtain⟨p,hp,_⟩:=hR i.toNat (by omega);obtain⟨q,rfl⟩:∃q,A=some q:=by cases A with | none=>simp [aB]at hp | some q=>exact⟨q,rfl⟩
 obtain⟨inf,hi,_,hs,_⟩:=bR.get P el;refine .val (w':=w) ?_ hb hK;simp [execOp,Instr.indexAt,hx,hy,asIntOf,run_underlying (bV.out (P:=P) (t:=t)),h0,h1,sizeOf,typeInfo,hi,hs,aB]
theorem aF{el:ae}[bV P t (.slice el)][bR P el z 1 b]{A:aj}{n c:Nat}{k:IntKind}{f:Nat->ad}(hR:Rd w A n f)(q9:(ev e x,ev e ix,Nat.blt d N)=(.slice A n c,.int k i,true))(hK:ao P N ops K rest (bG e d (.pointer (aB A i.toNat))) w)(h0:0<=i:=by omega)(h1:i< (n:Int):=by omega):ao P N ops K (⟨some d,.indexAddr t x ix,ty,pos,af,none⟩::rest) e w:=alp hR (congrArg (fun p=>p.1) q9) (congrArg (fun p=>p.2.1) q9) (congrArg (fun p=>p.2.2) q9) h0 h1 hK
def yF:TypeDesc->Bool
 | .struct _=>false
 | .array _ _=>false
 | _=>true
theorem aiw{u:TypeDesc}(hu:P.underlying t=some u)(hp:yF u=true):(isAgg t).run P w= .ok false w:=by
 cases u<;>simp [yF]at hp<;>simp [isAgg,run_underlying hu]
theorem ao.ld{u:TypeDesc}[bV P t u]{A:aj}{n:Nat}{f:Nat->ad}{v:ad}(hR:Rd w A n f)(hx:ev e x= .pointer (aB A j))(hj:j<n)(hv:f j=v)(hp:yF u=true)(hb:Nat.blt d N=true)(hK:ao P N ops K rest (bG e d v) w):ao P N ops K (⟨some d,.load t x,ty,pos,af,none⟩::rest) e w:=by
 obtain⟨p,nm,hc⟩:=hR j hj;subst hv;refine .val (w':=w) ?_ hb hK;simp [execOp,Instr.loadAt,hx,nm,Instr.sureAddr,loadVar,aiw (bV.out (P:=P) (t:=t)) hp,hc]
theorem alq{u:TypeDesc}[bV P t u]{A:aj}{n:Nat}{xs:ai}(hR:di w A n xs)(hx:ev e x= .pointer (aB A i.toNat))(hj:i.toNat<n)(hp:yF u=true)(hb:Nat.blt d N=true)(hK:ao P N ops K rest (bG e d (ak (gi xs i))) w):ao P N ops K (⟨some d,.load t x,ty,pos,af,none⟩::rest) e w:= .ld hR.2 hx hj rfl hp hb hK
theorem bh{u:TypeDesc}[bV P t u]{A:aj}{n:Nat}{xs:ai}(hR:di w A n xs)(q9:(ev e x,yF u,Nat.blt d N)=(.pointer (aB A i.toNat),true,true))(hK:ao P N ops K rest (bG e d (ak (gi xs i))) w)(hj:i.toNat<n:=by omega):ao P N ops K (⟨some d,.load t x,ty,pos,af,none⟩::rest) e w:=alq hR (congrArg (fun p=>p.1) q9) hj (congrArg (fun p=>p.2.1) q9) (congrArg (fun p=>p.2.2) q9) hK
theorem rG{u:TypeDesc}[bV P t u]{A:aj}{n:Nat}{xs:List Bool}(hR:vf w A n xs)(hx:ev e x= .pointer (aB A i.toNat))(hj:i.toNat<n)(hp:yF u=true)(hb:Nat.blt d N=true)(hK:ao P N ops K rest (bG e d (.bool (gb xs i))) w):ao P N ops K (⟨some d,.load t x,ty,pos,af,none⟩::rest) e w:= .ld hR.2 hx hj rfl hp hb hK
theorem alx{u:TypeDesc}[bV P t u]{A:aj}{n:Nat}{xs:List aQ}(hR:jo w A n xs)(hx:ev e x= .pointer (aB A i.toNat))(hj:i.toNat<n)(hp:yF u=true)(hb:Nat.blt d N=true)(hK:ao P N ops K rest (bG e d (.slice (rg xs i).a (rg xs i).n (rg xs i).c)) w):ao P N ops K (⟨some d,.load t x,ty,pos,af,none⟩::rest) e w:= .ld hR.2 hx hj rfl hp hb hK
theorem b6{u:TypeDesc}[bV P t u]{A:aj}{n:Nat}{xs:List aQ}(hR:jo w A n xs)(q9:(ev e x,yF u,Nat.blt d N)=(.pointer (aB A i.toNat),true,true))(hK:ao P N ops K rest (bG e d (.slice (rg xs i).a (rg xs i).n (rg xs i).c)) w)(hj:i.toNat<n:=by omega):ao P N ops K (⟨some d,.load t x,ty,pos,af,none⟩::rest) e w:=alx hR (congrArg (fun p=>p.1) q9) hj (congrArg (fun p=>p.2.1) q9) (congrArg (fun p=>p.2.2) q9) hK
theorem ao.st[bR P t z 1 b]{a:ag}{i:Nat}{k:Ck}(hS:St w0 w ks)(hk:ks[i]?=some k)(ha:ev e a= .pointer (aB k.A j))(hx:ev e x=u)(h1:u.oneCell'=true)(hj:j<k.n)(hK:∀w',St w0 w' (ks.set i { k with vs:=k.vs.set j u })->ao P N ops K rest e w'):ao P N ops K (⟨none,.store t a x,ty,pos,af,none⟩::rest) e w:=by
 obtain⟨p,hp,⟨v,hc⟩,hf,o9⟩:=hS.store i hk hj u h1;obtain⟨inf,hi,_,hs,_⟩:=bR.get P t;refine .unit (w':=w.setCell p u) ?_ (hK _ o9);have acF:u.cells= #[u]:=by cases u<;>simp [Value.oneCell']at h1<;>rfl
 simp [execOp,Instr.storeAt,ha,hx,hp,Instr.sureAddr,storeVar,sizeOf,typeInfo,hi,hs,acF,storeCells,run_store _ _ _ _ _ h1,hc,hf,Addr.add]
theorem lu[bR P t z 1 b]{a:ag}(m:Nat){A:aj}{n c:Nat}{xs:ai}{u:Int}(hS:St w0 w ks)(hk:ks[m]?=some (az te A n c xs))(ha:ev e a= .pointer (aB A i.toNat))(hx:ev e x=ak u)(hj:i.toNat<n)(hK:∀w',St w0 w' (ks.set m (az te A n c (xs.set i.toNat u)))->ao P N ops K rest e w'):ao P N ops K (⟨none,.store t a x,ty,pos,af,none⟩::rest) e w:=
 .st hS hk ha hx rfl hj fun w' h=>hK w' (by simpa [az,List.map_set]using h)
theorem tn[bR P t z 1 b]{a:ag}(m:Nat){A:aj}{n c:Nat}{xs:List Bool}{u:Bool}(hS:St w0 w ks)(hk:ks[m]?=some (gm te A n c xs))(ha:ev e a= .pointer (aB A i.toNat))(hx:ev e x= .bool u)(hj:i.toNat<n)(hK:∀w',St w0 w' (ks.set m (gm te A n c (xs.set i.toNat u)))->ao P N ops K rest e w'):ao P N ops K (⟨none,.store t a x,ty,pos,af,none⟩::rest) e w:=
 .st hS hk ha hx rfl hj fun w' h=>hK w' (by simpa [gm,List.map_set]using h)
theorem Bg[bR P t z 1 b]{a:ag}(m:Nat){A:aj}{n c:Nat}{xs:List aQ}{n1:Nat}(hS:St w0 w ks)(hk:ks[m]?=some (b9 te A n c xs))(ha:ev e a= .pointer (aB A i.toNat))(hx:ev e x= .slice A1 n1 c1)(hj:i.toNat<n)(hK:∀w',St w0 w' (ks.set m (b9 te A n c (xs.set i.toNat ⟨A1,n1,c1⟩)))->ao P N ops K rest e w'):ao P N ops K (⟨none,.store t a x,ty,pos,af,none⟩::rest) e w:=
 .st hS hk ha hx rfl hj fun w' h=>hK w' (by simpa [b9,List.map_set,aQ.v]using h)
theorem N5(z:ad)(n:Nat):(madeCells #[z] n)=(List.replicate n z).toArray:=by
 rw [<-toList_madeCells_one z n]
theorem ao.mk{el:ae}[bV P t (.slice el)][bR P el z 1 b]{k:IntKind}(n:Nat)(hS:St w0 w ks)(hx:ev e x= .int k (n:Int))(hz:z.cells= #[z])(h1z:z.oneCell'=true)(hb:Nat.blt d N=true)(hn:b*n<=281474976710656/\n<=9223372036854775807)(hK:∀A w',St w0 w' (⟨A,n,n,el,List.replicate n z⟩::ks)->ao P N ops K rest (bG e d (.slice A n n)) w'):ao P N ops K (⟨some d,.makeSlice t x x,ty,pos,af,none⟩::rest) e w:=by
 obtain⟨inf,hi,fS,hs,jv⟩:=bR.get P el;have hr:=run_make_row (P:=P) t el inf z (bV.out (P:=P) (t:=t)) hi fS hs hz k k n (by rw [jv];exact hn.1) hn.2 w;have hA:=hS.alloc (List.replicate n z) el (by simp [maxLen];omega) (aey n h1z);rw [N5]at hr;refine .val (w':=w.alloc (.cells (List.replicate n z).toArray el)) ?_ hb (hK _ _ (by simpa using hA));simp only [execOp,hx,Sem.run_bind,hr,Result.andThen_ok,Sem.run_pure]
theorem xA{el:ae}{v:Bool}[bV P t (.slice el)][bR P el (.bool v) 1 b]{k:IntKind}(n:Nat)(hS:St w0 w ks)(hx:ev e x= .int k (n:Int))(hb:Nat.blt d N=true)(hn:b*n<=281474976710656/\n<=9223372036854775807)(hK:∀A w',St w0 w' (gm el A n n (List.replicate n v)::ks)->ao P N ops K rest (bG e d (.slice A n n)) w'):ao P N ops K (⟨some d,.makeSlice t x x,ty,pos,af,none⟩::rest) e w:=
 .mk n hS hx rfl rfl hb hn fun A w' h=>hK A w' (by unfold gm;rw [List.map_replicate];exact h)
theorem zh{el:ae}{v:Int}[bV P t (.slice el)][bR P el (ak v) 1 b]{k:IntKind}(n:Nat)(hS:St w0 w ks)(hx:ev e x= .int k (n:Int))(hb:Nat.blt d N=true)(hn:b*n<=281474976710656/\n<=9223372036854775807)(hK:∀A w',St w0 w' (az el A n n (List.replicate n v)::ks)->ao P N ops K rest (bG e d (.slice A n n)) w'):ao P N ops K (⟨some d,.makeSlice t x x,ty,pos,af,none⟩::rest) e w:=
 .mk n hS hx rfl rfl hb hn fun A w' h=>hK A w' (by unfold az;rw [List.map_replicate];exact h)
theorem Hn{el:ae}[bV P t (.slice el)][bR P el (.slice none 0 0) 1 b]{k:IntKind}(n:Nat)(hS:St w0 w ks)(hx:ev e x= .int k (n:Int))(hb:Nat.blt d N=true)(hn:b*n<=281474976710656/\n<=9223372036854775807)(hK:∀A w',St w0 w' (b9 el A n n (List.replicate n eA)::ks)->ao P N ops K rest (bG e d (.slice A n n)) w'):ao P N ops K (⟨some d,.makeSlice t x x,ty,pos,af,none⟩::rest) e w:=
 .mk n hS hx rfl rfl hb hn fun A w' h=>hK A w' (by unfold b9;rw [List.map_replicate];exact h)
theorem ES(f:Nat->ad)(n:Nat):(Array.range n).map f=((List.range n).map f).toArray:=by apply Array.ext';simp
theorem jO{el:ae}[bV P t (.slice el)][bR P el z 1 b](hS:St w0 w ks)(hb:Nat.blt d N=true)(hK:∀A w',St w0 w' (⟨A,0,0,el,[]⟩::ks)->ao P N ops K rest (bG e d (.slice A 0 0)) w'):ao P N ops K (⟨some d,.buildSlice t 0 #[],ty,pos,af,none⟩::rest) e w:=by
 obtain⟨inf,hi,fS,hs,jv⟩:=bR.get P el;refine .val (w':=w.alloc (.cells #[] el)) ?_ hb (hK _ _ (hS.alloc [] el (by simp) O));simp [execOp,Instr.buildSlice,run_underlying (bV.out (P:=P) (t:=t)),sizeOf,typeInfo,hi,hs,Instr.fill,newRow,ES]
theorem ao.KH{el:ae}[bV P t (.slice el)][bR P el z 1 b](hS:St w0 w ks)(h0:ev e x0=v0)(c0:v0.oneCell'=true)(hz:z.cells= #[z])(hb:Nat.blt d N=true)(hK:∀A w',St w0 w' (⟨A,1,1,el,[v0]⟩::ks)->ao P N ops K rest (bG e d (.slice A 1 1)) w'):ao P N ops K (⟨some d,.buildSlice t 1 #[(0,x0)],ty,pos,af,none⟩::rest) e w:=by
 obtain⟨inf,hi,fS,hs,jv⟩:=bR.get P el;have e0:v0.cells= #[v0]:=by cases v0<;>simp [Value.oneCell']at c0<;>rfl
 refine .val (w':=w.alloc (.cells #[v0] el)) ?_ hb (hK _ _ (hS.alloc [v0] el (by simp [maxLen]) (Jn c0)));simp [execOp,Instr.buildSlice,run_underlying (bV.out (P:=P) (t:=t)),sizeOf,typeInfo,zeroValue,hi,hs,fS,hz,Instr.fill,newRow,h0,e0,ES,nZ]
theorem CO{el:ae}[bV P t (.slice el)][bR P el z 1 b](hS:St w0 w ks)(h0:ev e x0=v0)(h1:ev e x1=v1)(c0:v0.oneCell'=true)(c1:v1.oneCell'=true)(hz:z.cells= #[z])(hb:Nat.blt d N=true)(hK:∀A w',St w0 w' (⟨A,2,2,el,[v0,v1]⟩::ks)->ao P N ops K rest (bG e d (.slice A 2 2)) w'):ao P N ops K (⟨some d,.buildSlice t 2 #[(0,x0),(1,x1)],ty,pos,af,none⟩::rest) e w:=by
 obtain⟨inf,hi,fS,hs,jv⟩:=bR.get P el;have e0:v0.cells= #[v0]:=by cases v0<;>simp [Value.oneCell']at c0<;>rfl
 have e1:v1.cells= #[v1]:=by cases v1<;>simp [Value.oneCell']at c1<;>rfl
 refine .val (w':=w.alloc (.cells #[v0,v1] el)) ?_ hb (hK _ _ (hS.alloc [v0,v1] el (by simp [maxLen]) (Jn c0)));simp [execOp,Instr.buildSlice,run_underlying (bV.out (P:=P) (t:=t)),sizeOf,typeInfo,zeroValue,hi,hs,fS,hz,Instr.fill,newRow,h0,e0,h1,e1,ES,nZ]
theorem ao.box{el:ae}{v:ad}(hS:St w0 w ks)(hx:ev e x=v)(hb:Nat.blt d N=true)(hm:v.cells.size<=maxLen)(hK:∀A w',St w0 w' (⟨A,v.cells.size,v.cells.size,el,v.cells.toList⟩::ks)->ao P N ops K rest (bG e d (.pointer A)) w')(hM:fw v.cells.toList=false:=by rfl):ao P N ops K (⟨some d,.box el x,ty,pos,af,none⟩::rest) e w:=by
 have hA:=hS.alloc v.cells.toList el (by simpa using hm) hM;refine .val (w':=w.alloc (.cells v.cells el)) ?_ hb (hK _ _ (by simpa using hA));simp [execOp,Instr.box,newVar,newRow,hx]
theorem ao.Hz{el:ae}{cs:Array ad}(hS:St w0 w ks)(hx:ev e x= .agg cs)(hb:Nat.blt d N=true)(hm:Nat.ble cs.size 100=true)(hK:∀A w',St w0 w' (⟨A,cs.size,cs.size,el,cs.toList⟩::ks)->ao P N ops K rest (bG e d (.pointer A)) w')(hM:fw cs.toList=false:=by rfl):ao P N ops K (⟨some d,.box el x,ty,pos,af,none⟩::rest) e w:=
 .box hS hx hb (by show cs.size<=maxLen;have:=Nat.le_of_ble_eq_true hm;simp only [maxLen];omega) hK hM
theorem ao.new{el:ae}{s:Nat}[bR P el z s b](hS:St w0 w ks)(hb:Nat.blt d N=true)(jw:Nat.ble z.cells.size 100=true)(hK:∀A w',St w0 w' (⟨A,z.cells.size,z.cells.size,el,z.cells.toList⟩::ks)->ao P N ops K rest (bG e d (.pointer A)) w')(hM:fw z.cells.toList=false:=by rfl):ao P N ops K (⟨some d,.alloc el,ty,pos,af,none⟩::rest) e w:=by
 obtain⟨inf,hi,fS,hs,jv⟩:=bR.get P el;have hm:z.cells.size<=maxLen:=by have:=Nat.le_of_ble_eq_true jw;simp only [maxLen];omega
 have hA:=hS.alloc z.cells.toList el (by simpa using hm) hM;refine .val (w':=w.alloc (.cells z.cells el)) ?_ hb (hK _ _ (by simpa using hA));simp [execOp,Instr.alloc,zeroValue,typeInfo,hi,fS,newVar,newRow]
theorem oh{A:aj}{n:Nat}{f:Nat->ad}(hR:Rd w A n f)(hn:0<n)(hx:ev e x= .pointer A)(hb:Nat.blt d N=true)(hK:ao P N ops K rest (bG e d (.pointer A)) w):
 ao P N ops K (⟨some d,.nilCheck x,ty,pos,af,none⟩::rest) e w:=by
 obtain⟨p,hp,_⟩:=hR 0 hn;obtain⟨q,rfl⟩:∃q,A=some q:=by cases A with | none=>simp [aB]at hp | some q=>exact⟨q,rfl⟩
 exact .agL hx hb hK
def E6:List Field->Nat->Option (ae×Nat)
 | f::_,0=>some (f.type,f.offset)
 | _::r,m+1=>E6 r m
 | [],_=>none
theorem Ro:∀ {l:List Field} {m:Nat} {ft off:Nat},E6 l m=some (ft,off)->∃fd,l[m]?=some fd/\fd.type=ft/\fd.offset=off
 | [],_,_,_,h=>by simp [E6]at h
 | f::_,0,_,_,h=>by simp [E6]at h;exact⟨f,rfl,h.1,h.2⟩
 | _::r,m+1,_,_,h=>by simpa using Ro (l:=r) (m:=m) h
theorem alv{s:ae}{fs:Array Field}[bV P s (.struct fs)]{A:aj}{n m off:Nat}{f:Nat->ad}(hR:Rd w A n f)(hx:ev e x= .pointer A)(hf:E6 fs.toList m=some (ft,off))(hn:Nat.blt 0 n=true)(hb:Nat.blt d N=true)(hI:bR P ft z (sz+1) b)(hK:ao P N ops K rest (bG e d (.pointer (aB A off))) w):ao P N ops K (⟨some d,.fieldAddr s x m,ty,pos,af,none⟩::rest) e w:=by
 obtain⟨p,hp,_⟩:=hR 0 (by simpa [Nat.blt_eq]using hn);obtain⟨q,rfl⟩:∃q,A=some q:=by cases A with | none=>simp [aB]at hp | some q=>exact⟨q,rfl⟩
 obtain⟨fd,iN,rfl,rfl⟩:=Ro hf;have oB:fs[m]?=some fd:=by simpa using iN
 obtain⟨inf,hi,fS,hs,jv⟩:=bR.get P fd.type;refine .val (w':=w) ?_ hb hK;simp [execOp,Instr.fieldAt,run_underlying (bV.out (P:=P) (t:=s)),oB,hx,Instr.sureAddr,fieldPlace,sizeOf,typeInfo,hi,hs,aB]
theorem aW{s:ae}{fs:Array Field}[bV P s (.struct fs)]{A:aj}{n m off:Nat}{f:Nat->ad}(hR:Rd w A n f)(q9:(ev e x,E6 fs.toList m,Nat.blt 0 n,Nat.blt d N)=(.pointer A,some (ft,off),true,true))[hI:bR P ft z (sz+1) b](hK:ao P N ops K rest (bG e d (.pointer (aB A off))) w):ao P N ops K (⟨some d,.fieldAddr s x m,ty,pos,af,none⟩::rest) e w:=alv hR (congrArg (fun p=>p.1) q9) (congrArg (fun p=>p.2.1) q9) (congrArg (fun p=>p.2.2.1) q9) (congrArg (fun p=>p.2.2.2) q9) hI hK
theorem ao.bP{fs:Array Field}(m:Nat)[bV P t (.struct fs)][bR P t z (m+1) b]{A:aj}{f:Nat->ad}{cs:Array ad}(hR:Rd w A (m+1) f)(hx:ev e x= .pointer A)(qR:((List.range (m+1)).map f).toArray=cs)(hb:Nat.blt d N=true)(hK:ao P N ops K rest (bG e d (.agg cs)) w):ao P N ops K (⟨some d,.load t x,ty,pos,af,none⟩::rest) e w:=by
 obtain⟨p,hp,_⟩:=hR 0 (by omega);obtain⟨q,rfl⟩:∃q,A=some q:=by cases A with | none=>simp [aB]at hp | some q=>exact⟨q,rfl⟩
 obtain⟨inf,hi,fS,hs,jv⟩:=bR.get P t;have hl:=run_loadCells (P:=P) w q (m+1) f (fun j hj=>by
  obtain⟨p,hp,hc⟩:=hR j hj;simp [aB]at hp;rw [hp];exact hc)
 subst qR;refine .val (w':=w) ?_ hb hK;simp [execOp,Instr.loadAt,hx,Instr.sureAddr,loadVar,isAgg,run_underlying (bV.out (P:=P) (t:=t)),sizeOf,typeInfo,hi,hs,hl]
theorem alC{fs:Array Field}(m:Nat)[bV P t (.struct fs)][bR P t z (m+1) b]{A:aj}{f:Nat->ad}{cs:Array ad}(hR:Rd w A (m+1) f)(q9:(ev e x,((List.range (m+1)).map f).toArray,Nat.blt d N)=(.pointer A,cs,true))(hK:ao P N ops K rest (bG e d (.agg cs)) w):ao P N ops K (⟨some d,.load t x,ty,pos,af,none⟩::rest) e w:=ao.bP m hR (congrArg (fun p=>p.1) q9) (congrArg (fun p=>p.2.1) q9) (congrArg (fun p=>p.2.2) q9) hK
theorem pv(A:aj):aB A 0=A:=by cases A<;>simp [aB,Addr.add]
theorem Wk(A:aj)(i j:Nat):aB (aB A i) j=aB A (i+j):=by
 cases A with
 | none=>rfl
 | some q=>simp only [aB,Option.map_some];unfold Addr.add;by_cases h1:i=0<;>by_cases h2:j=0<;>simp [h1,h2,Nat.add_assoc]
theorem Rd.behind{A:aj}{n m:Nat}{f:Nat->ad}(hR:Rd w A n f)(h:o+m<=n):Rd w (aB A o) m (fun j=>f (o+j)):=fun j hj=>by
 obtain⟨p,hp,hc⟩:=hR (o+j) (by omega);exact⟨p,by rw [Wk];exact hp,hc⟩
abbrev Bx(t:ae)(n:Nat)(A:aj)(vs:List ad):Ck:=⟨A,n,n,t,vs⟩
theorem ik{el:ae}(hS:St w0 w ks)(hx:ev e x= .agg #[v0])(hb:Nat.blt d N=true)(hK:∀A w',St w0 w' (Bx el 1 A [v0]::ks)->ao P N ops K rest (bG e d (.pointer A)) w')(hM:fw [v0]=false:=by rfl):ao P N ops K (⟨some d,.box el x,ty,pos,af,none⟩::rest) e w:= .Hz hS hx hb rfl hK hM
theorem gD{el:ae}{s:Nat}[bR P el (.agg #[v0]) s b](hS:St w0 w ks)(hb:Nat.blt d N=true)(hK:∀A w',St w0 w' (Bx el 1 A [v0]::ks)->ao P N ops K rest (bG e d (.pointer A)) w')(hM:fw [v0]=false:=by rfl):ao P N ops K (⟨some d,.alloc el,ty,pos,af,none⟩::rest) e w:= .new (el:=el) (z:= .agg #[v0]) (s:=s) (b:=b) hS hb rfl hK hM
theorem alw{u:TypeDesc}[bV P t u]{A:aj}{n n1:Nat}{f:Nat->ad}(hR:Rd w A n f)(hx:ev e x= .pointer (aB A j))(hj:Nat.blt j n=true)(hv:f j= .slice A1 n1 c1)(hp:yF u=true)(hb:Nat.blt d N=true)(hK:ao P N ops K rest (bG e d (.slice A1 n1 c1)) w):ao P N ops K (⟨some d,.load t x,ty,pos,af,none⟩::rest) e w:= .ld hR hx (by simpa [Nat.blt_eq]using hj) hv hp hb hK
theorem a8{u:TypeDesc}[bV P t u]{A:aj}{n n1:Nat}{f:Nat->ad}(hR:Rd w A n f)(q9:(ev e x,Nat.blt j n,f j,yF u,Nat.blt d N)=(.pointer (aB A j),true,.slice A1 n1 c1,true,true))(hK:ao P N ops K rest (bG e d (.slice A1 n1 c1)) w):ao P N ops K (⟨some d,.load t x,ty,pos,af,none⟩::rest) e w:=alw hR (congrArg (fun p=>p.1) q9) (congrArg (fun p=>p.2.1) q9) (congrArg (fun p=>p.2.2.1) q9) (congrArg (fun p=>p.2.2.2.1) q9) (congrArg (fun p=>p.2.2.2.2) q9) hK
theorem iW{u:TypeDesc}[bV P t u]{A:aj}{n:Nat}{k:IntKind}{f:Nat->ad}(hR:Rd w A n f)(hx:ev e x= .pointer (aB A j))(hj:Nat.blt j n=true)(hv:f j= .int k i)(hp:yF u=true)(hb:Nat.blt d N=true)(hK:ao P N ops K rest (bG e d (.int k i)) w):ao P N ops K (⟨some d,.load t x,ty,pos,af,none⟩::rest) e w:= .ld hR hx (by simpa [Nat.blt_eq]using hj) hv hp hb hK
def s9(vs:List ad)(o:Nat):List ad->List ad
 | []=>vs
 | c::r=>s9 (vs.set o c) (o+1) r
theorem WI{k:Ck}(i:Nat):∀(cs:List ad) (ks:List Ck) (vs:List ad) (w:aa) (o:Nat) (p:Addr),St w0 w ks->ks[i]?=some { k with vs:=vs }->aB k.A o=some p->o+cs.length<=k.n->(∀u∈cs,u.oneCell'=true)->∀m q,aB k.A m=some q->o=m+ (o - m)->
 m<=o->∃w',(storeCells q cs (o - m)).run P w= .ok () w'/\St w0 w' (ks.set i { k with vs:=s9 vs o cs })
 | [],ks,vs,w,o,p,hS,hk,_,_,_,m,q,_,_,_=> ⟨w,by simp [storeCells],by
  have:ks.set i { k with vs:=s9 vs o [] }=ks:=by
   apply List.ext_getElem?;intro j;rw [pA]
   split
   ·rename_i e;subst e;rw [hk,ay (iQ.1 hk).1];rfl
   ·rfl
  rw [this];exact hS⟩
 | c::r,ks,vs,w,o,p,hS,hk,hp,hl,h1,m,q,hq,ho,hm=>by
  simp only [List.length_cons]at hl;obtain⟨p',nm,⟨v,hc⟩,hf,o9⟩:=hS.store i hk (j:=o) (by show o<k.n;omega) c (h1 c (by simp));have T2:q.add (o - m)=p':=by
   have:aB (aB k.A m) (o - m)=some p':=by rw [Wk,<-ho];exact nm
   rw [hq]at this;simpa [aB]using this
  have gB:=(iQ.1 hk).1
  by_cases hr:r=[]
  ·subst hr;refine⟨_,?_,o9⟩;simp [storeCells,T2,run_store _ _ _ _ _ (h1 c (by simp)),hc,hf]
  ·have b5:0<r.length:=by cases r with | nil=>exact absurd rfl hr | cons _ _=>simp
   obtain⟨p2,iy⟩:∃p2,aB k.A (o+1)=some p2:=by
    obtain⟨x,hx,_⟩:=(hS.rd i hk) (o+1) (by show o+1<k.n;omega);exact⟨x,hx⟩
   obtain⟨w2,vR,aD⟩:=WI i r _ (vs.set o c) _ (o+1) p2 o9 (by rw [pA];simp [gB]) iy (by omega) (fun u hu=>h1 u (by simp [hu])) m q hq (by omega) (by omega);refine⟨w2,?_,by simpa [s9]using aD⟩;have e1:o+1 - m=o - m+1:=by omega
   rw [e1]at vR;simp [storeCells,T2,run_store _ _ _ _ _ (h1 c (by simp)),hc,hf,vR]
theorem ao.WS(m:Nat)[bR P t z m b]{a:ag}(i:Nat){k:Ck}{cs:Array ad}(hS:St w0 w ks)(hk:ks[i]?=some k)(ha:ev e a= .pointer (aB k.A o))(hx:ev e x= .agg cs)(qR:cs.size=m)(xQ:cs.toList.all Value.oneCell'=true)(vN:Nat.blt 0 m=true)(B0:Nat.ble (o+m) k.n=true)(hK:∀w',St w0 w' (ks.set i { k with vs:=s9 k.vs o cs.toList })->ao P N ops K rest e w'):ao P N ops K (⟨none,.store t a x,ty,pos,af,none⟩::rest) e w:=by
 have hn:0<m/\o+m<=k.n:=⟨by simpa [Nat.blt_eq]using vN,Nat.le_of_ble_eq_true B0⟩;have h1:∀u∈cs.toList,u.oneCell'=true:=fun u hu=>List.all_eq_true.1 xQ u hu
 obtain⟨p,hp,_⟩:=(hS.rd i hk) o (by omega);obtain⟨w',vR,o9⟩:=WI (P:=P) (k:=k) i cs.toList ks k.vs w o p hS hk hp (by simp;omega) h1 o p hp (by omega) (by omega);obtain⟨inf,hi,_,hs,_⟩:=bR.get P t;refine .unit (w':=w') ?_ (hK _ o9);rw [Nat.sub_self]at vR;simp [execOp,Instr.storeAt,ha,hx,hp,Instr.sureAddr,storeVar,sizeOf,typeInfo,hi,hs,Value.cells,qR,vR]
theorem bW(m:Nat)[bR P t z m b]{a:ag}(i:Nat){k:Ck}{cs:Array ad}(hS:St w0 w ks)(hk:ks[i]?=some k)(ha:ev e a= .pointer k.A)(hx:ev e x= .agg cs)(qR:cs.size=m)(h1:cs.toList.all Value.oneCell'=true)(vN:Nat.blt 0 m=true)(B0:Nat.ble (0+m) k.n=true)(hK:∀w',St w0 w' (ks.set i { k with vs:=s9 k.vs 0 cs.toList })->ao P N ops K rest e w'):ao P N ops K (⟨none,.store t a x,ty,pos,af,none⟩::rest) e w:=
 .WS m i hS hk (by rw [pv];exact ha) hx qR h1 vN B0 hK
theorem ka[bR P t z 1 b]{a:ag}(i:Nat){k:Ck}(hS:St w0 w ks)(hk:ks[i]?=some k)(ha:ev e a= .pointer (aB k.A j))(hx:ev e x=u)(h1:u.oneCell'=true)(hj:Nat.blt j k.n=true)(hK:∀w',St w0 w' (ks.set i { k with vs:=k.vs.set j u })->ao P N ops K rest e w'):ao P N ops K (⟨none,.store t a x,ty,pos,af,none⟩::rest) e w:= .st hS hk ha hx h1 (by simpa [Nat.blt_eq]using hj) hK
def Wu(a n:Nat)(R:ad->aa->Prop):kb
 | .normal,e,w=>∃A f,e a= .pointer A/\Rd w A n f/\R (.agg ((List.range n).map f).toArray) w
 | .ret,e,w=>∃A f,e a= .pointer A/\Rd w A n f/\R (.agg ((List.range n).map f).toArray) w
 | _,_,_=>False
theorem ko{a n:Nat}{R:ad->aa->Prop}{A:aj}{f:Nat->ad}(h:e a= .pointer A)(hR:Rd w A n f)(h2:R (.agg ((List.range n).map f).toArray) w):Wu a n R .ret e w:=⟨A,f,h,hR,h2⟩
theorem WH{fs:Array Field}{n:Nat}[bV P t (.struct fs)][bR P t z n b]{A:aj}{f:Nat->ad}(hn:0<n)(hR:Rd w A n f):∃q,A=some q/\(loadVar t q).run P w= .ok (.agg ((List.range n).map f).toArray) w:=by
 obtain⟨p,hp,_⟩:=hR 0 hn;obtain⟨q,rfl⟩:∃q,A=some q:=by cases A with | none=>simp [aB]at hp | some q=>exact⟨q,rfl⟩
 obtain⟨inf,hi,fS,hs,jv⟩:=bR.get P t;have hl:=run_loadCells (P:=P) w q n f (fun j hj=>by
  obtain⟨p,hp,hc⟩:=hR j hj;simp [aB]at hp;rw [hp];exact hc)
 exact⟨q,O,by simp [loadVar,isAgg,run_underlying (bV.out (P:=P) (t:=t)),sizeOf,typeInfo,hi,hs,hl]⟩
theorem pq{fn:Func}{R:ad->aa->Prop}{a t n:Nat}{fs:Array Field}[bV P t (.struct fs)][bR P t z n b](hr:fn.results= #[.cell a t])(BZ:Nat.blt 0 n=true):∀x a1 e w,ky N a1 e->Wu a n R x e w->bodyPost P fn (fun x w'=>∃v,x= .returned v/\R v w') x a1 w:=by
 intro x a1 e w he q;have hn:0<n:=by simpa [Nat.blt_eq]using BZ
 have hg:=he.get a;have key:∀(A:aj) (f:Nat->ad),e a= .pointer A->Rd w A n f->(results fn a1.tmps).run P w= .ok (.agg ((List.range n).map f).toArray) w:=by
  intro A f hA hR;obtain⟨q,rfl,hl⟩:=WH (P:=P) (t:=t) hn hR;rw [jy]at hg;simp [results,hr,hg,hA,asAddr,hl]
 cases x<;>first
  | exact q.elim
  | (
   obtain⟨A,f,hA,hR,h2⟩:=q;exact⟨he.defers,_,key A f hA hR,_,O,h2⟩)
def cutAt(A:aj)(c l:Nat):aj:=if c=l then A else aB A l
theorem Rd.cut{A:aj}{n c l:Nat}{f:Nat->ad}(hR:Rd w A n f)(hl:l<=h)(hn:h<=n)(hc:n<=c):Rd w (cutAt A c l) (h - l) (fun j=>f (l+j)):=fun j hj=>by
 obtain⟨p,hp,vG⟩:=hR (l+j) (by omega);refine⟨p,?_,vG⟩;unfold cutAt;rw [aw (by omega)];cases A with
 | none=>simp [aB]at hp
 | some q=>
  simp only [aB,Option.map_some,qo]at hp|-;rw [<-hp];unfold Addr.add
  by_cases rS:l=0<;>by_cases Tx:j=0<;>simp [rS,Tx,Nat.add_assoc]
theorem di.cut{A:aj}{n c l:Nat}{xs:ai}(hR:di w A n xs)(hl:l<=h)(hn:h<=n)(hc:n<=c):di w (cutAt A c l) (h - l) ((xs.drop l).take (h - l)):=
 ⟨by have:=hR.1;simp;omega,(hR.2.cut hl hn hc).congr fun j hj=>by simp [dd,tl,hj]⟩
theorem jo.cut{A:aj}{n c l:Nat}{xs:List aQ}(hR:jo w A n xs)(hl:l<=h)(hn:h<=n)(hc:n<=c):jo w (cutAt A c l) (h - l) ((xs.drop l).take (h - l)):=
 ⟨by have:=hR.1;simp;omega,(hR.2.cut hl hn hc).congr fun j hj=>by simp [dd,tl,hj]⟩
theorem EI{el:ae}[hU:bV P t (.slice el)][bR P el z 1 b]{lo:ag}{A:aj}{n c:Nat}{k:IntKind}{l:Int}(hx:ev e x= .slice A n c)(hl:ev e lo= .int k l)(hb:Nat.blt d N=true)(h0:0<=l/\l<=(n:Int))(hK:ao P N ops K rest (bG e d (.slice (cutAt A c l.toNat) (n - l.toNat) (c - l.toNat))) w):ao P N ops K (⟨some d,.slice t x (some lo) none none,ty,pos,af,none⟩::rest) e w:=by
 obtain⟨inf,hi,fS,hs,jv⟩:=bR.get P el;refine .val (w':=w) ?_ hb hK;have:=run_sliceBound (P:=P) w k l n .sliceB h0.1 h0.2;simp [execOp,hx,hl,Instr.sliceAt,run_underlying hU.out,Instr.slice,Instr.sliceBounds,this,sizeOf,typeInfo,hi,hs,cutAt,aB]
theorem Kj{el:ae}[hU:bV P t (.slice el)][bR P el z 1 b]{A:aj}{n c:Nat}{k:IntKind}{h:Int}(hx:ev e x= .slice A n c)(hh:ev e dt= .int k h)(hb:Nat.blt d N=true)(h0:0<=h/\h<=(c:Int))(hK:ao P N ops K rest (bG e d (.slice A h.toNat c)) w):ao P N ops K (⟨some d,.slice t x none (some dt) none,ty,pos,af,none⟩::rest) e w:=by
 obtain⟨inf,hi,fS,hs,jv⟩:=bR.get P el;refine .val (w':=w) ?_ hb hK;have:=run_sliceBound (P:=P) w k h c .sliceAcap h0.1 h0.2;have hA:A.map (fun x=>x.add 0)=A:=by cases A<;>simp [Addr.add]
 simp [execOp,hx,hh,Instr.sliceAt,run_underlying hU.out,Instr.slice,Instr.sliceBounds,this,sizeOf,typeInfo,hi,hs,hA]
theorem ait{el:ae}[hU:bV P t (.slice el)][bR P el z 1 b](hz:z.cells= #[z0]){k:Ck}(i:Nat)(hS:St w0 w ks)(hk:ks[i]?=some k)(hM:fw k.vs=false)(he:k.e=el){m:Nat}{f:Nat->ad}(hR:Rd w A' m f)(h1:∀j,j<m->(f j).oneCell'=true)
 (vt:k.n+m<=maxLen) (tI:(k.n+m)*b<=140737488355328) (ty:ae):
 ∃A2 c2 w',(Builtin.append_ #[t,t] ty #[.slice k.A k.n k.c,.slice A' m c']).run P w= .ok (.slice A2 (k.n+m) c2) w'/\St w0 w' (ks.set i ⟨A2,k.n+m,c2,el,k.vs++ (List.range m).map f⟩)/\(k.n=k.c->Below w.heap.size w w'):=by
 subst he;obtain⟨inf,hi,fS,hs,jv⟩:=bR.get P k.e;have Ge:=hS.sD hk hM;have L4:fw (k.vs++ (List.range m).map f)=false:=UI hM (yu fun u hu=>by
  obtain⟨j,hj,rfl⟩:=dv.1 hu;exact h1 j (by simpa using hj))
 obtain⟨hl,rU,oz,h4⟩:=Ge;have BQ:=(iQ.1 hk).1
 by_cases hm:m=0
 ·subst hm;refine⟨k.A,k.c,w,?_,?_,fun _=>Below.refl _ _⟩
  ·cases A' with
   | none=>cases hkA:k.A<;>simp [Builtin.append_,run_underlying hU.out,sizeOf,typeInfo,hi,Builtin.lenOf,Builtin.firstCells,rU,storeCells]
   | some a=>
    have rS:=run_loadCells (P:=P) w a 0 f (fun j hj=>by omega);cases hkA:k.A<;>simp [Builtin.append_,run_underlying hU.out,sizeOf,typeInfo,hi,Builtin.lenOf,Builtin.firstCells,rU,storeCells,loadCells,loadCellsFrom]
  ·have:ks.set i ⟨k.A,k.n+0,k.c,k.e,k.vs++ (List.range 0).map f⟩=ks:=by
    have h5:(⟨k.A,k.n+0,k.c,k.e,k.vs++ (List.range 0).map f⟩:Ck)=k:=by simp
    rw [h5];apply List.ext_getElem?;intro j;rw [pA]
    split
    ·rename_i e;subst e;rw [hk]
     try simp [BQ]
    ·rfl
   rw [this];exact hS
 ·obtain⟨a,rfl⟩:∃a,A'=some a:=by
   obtain⟨p,hp,_⟩:=hR 0 (by omega);cases A' with | none=>simp [aB]at hp | some q=>exact⟨q,rfl⟩
  have iZ:((List.range m).map f).length=m:=by simp
  have yk:∀j v,((List.range m).map f)[j]?=some v->w.cell? (a.add j)=some v:=by
   intro j v hj;have wO:j<m:=by have:=(iQ.1 hj).1;simpa using this
   obtain⟨p,hp,hc⟩:=hR j wO;simp only [aB,Option.map_some,qo]at hp;rw [hp,hc,<-hj];simp [wO]
  have xQ:∀u∈(List.range m).map f,u.oneCell'=true:=by
   intro u hu;obtain⟨j,hj,rfl⟩:=dv.1 hu;exact h1 j (by simpa using hj)
  have fresh:∀(cs:List ad) (c2:Nat),fw cs=false->k.n+m<=c2->c2<=maxLen->cs.length=c2->cs.take (k.n+m)=k.vs++ (List.range m).map f->
   St w0 (w.drew.alloc (.cells cs.toArray k.e)) (ks.set i ⟨some ⟨w.heap.size,0,none⟩,k.n+m,c2,k.e,k.vs++ (List.range m).map f⟩):=by
   intro cs c2 h5m h5 h6 h7 h8;have hA:=hS.drew.alloc cs k.e (by omega) h5m;have hp:(⟨some ⟨w.heap.size,0,none⟩,cs.length,cs.length,k.e,cs⟩::ks).Perm (k::(ks.set i ⟨some ⟨w.heap.size,0,none⟩,cs.length,cs.length,k.e,cs⟩)):=by
    have gen:∀(l:List Ck) (i:Nat) (x y:Ck),l[i]?=some y->(x::l).Perm (y::l.set i x):=by
     intro l
     induction l with
     | nil=>intro i x y h;simp at h
     | cons u l ih=>
      intro i x y h;cases i with
      | zero=>simp at h;subst h;exact List.Perm.swap _ _ _
      | succ i=>
       simp only [List.getElem?_cons_succ]at h;simp only [List.set_cons_succ];exact(List.Perm.swap _ _ _).trans (((ih i x y h).cons u).trans (List.Perm.swap _ _ _))
    exact gen ks i _ _ hk
   have hB:=(hA.perm hp).tail;refine⟨hB.below,fun x hx=>?_,?_⟩
   ·obtain⟨j,hj,rfl⟩:=fV.1 hx;have ll:j<ks.length:=by simpa using hj
    rw [List.getElem_set]
    split
    ·refine .s5 L4 ⟨?_,h5,h6,.inr ⟨w.heap.size,0,cs.toArray,O,hS.below.size,heap_alloc_new w.drew _,by simp;omega,fun q hq=>?_⟩⟩
     ·simp [hl]
     ·have wU:q<k.n+m:=hq;show cs.toArray[0+q]?=(k.vs++ (List.range m).map f)[q]?;rw [<-h8];simp [tl,wU]
    ·rename_i bt;refine hB.own _ (fV.2 ⟨j,by simpa using ll,?_⟩);rw [List.getElem_set,aw bt]
   ·have h9:=hB.apart;rw [show(ks.set i ⟨some ⟨w.heap.size,0,none⟩,k.n+m,c2,k.e,k.vs++ (List.range m).map f⟩).filterMap Ck.iX=(ks.set i ⟨some ⟨w.heap.size,0,none⟩,cs.length,cs.length,k.e,cs⟩).filterMap Ck.iX from ?_]
    ·exact h9
    ·have:=HW Ck.iX (ks.set i ⟨some ⟨w.heap.size,0,none⟩,cs.length,cs.length,k.e,cs⟩) i ⟨some ⟨w.heap.size,0,none⟩,cs.length,cs.length,k.e,cs⟩ ⟨some ⟨w.heap.size,0,none⟩,k.n+m,c2,k.e,k.vs++ (List.range m).map f⟩ (by rw [pA];simp [BQ]) O;rw [<-this];simp
  have LL:((k.n+m:Nat):Int)<=9223372036854775807:=by simp only [maxLen]at vt;omega
  rcases h4 with⟨hA,h0⟩ | ⟨g,o,cur,hA,hg,hh,nN,hc⟩
  ·have qx:k.n=0:=by omega
   have yp:k.vs=[]:=uq (by omega);have hr:=run_append_nil (P:=P) w t ty k.e inf z hU.out hi fS a m c' _ (by rw [iZ,hs,Nat.mul_one]) yk (by omega) (by omega) (by rw [jv];rw [qx,Nat.zero_add]at tI;omega);have wN:=grownCap_ge w m 0 k.e;refine⟨_,_,_,?_,fresh (((List.range m).map f)++List.replicate (grownCap w m 0 k.e - m) z0) (grownCap w m 0 k.e) (Gx (yu xQ) (by intro hn;have:=aK List.length hn;simp at this;omega)) (by omega) (grownCap_le_maxLen w m 0 k.e (by omega)) (by simp;omega) (by rw [yp,qx];simp),fun _=> (Below.refl w.heap.size w).drew.alloc (bB _) _⟩;have NA:Builtin.zeroCells z.cells (grownCap w m 0 k.e - m)=(List.replicate (grownCap w m 0 k.e - m) z0).toArray:=by
    rw [hz];simp only [Builtin.zeroCells];exact(show _=_ from by have:=N5 z0 (grownCap w m 0 k.e - m);simpa [madeCells]using this)
   rw [hA,h0,qx,Nat.zero_add,hr,NA,List.append_toArray]
  ·by_cases Gk:k.n+m<=k.c
   ·have hf:=run_firstCells_some (P:=P) w inf.size m a m c' _ (by rw [iZ,hs,Nat.mul_one]) yk;have ax:=run_storeCells_at P g (o+k.n) k.e ((List.range m).map f) 0 cur w hh (by rw [iZ];omega) xQ;simp only [Nat.add_zero]at ax;refine⟨some ⟨g,o,none⟩,k.c,_,?_,hS.turn (k:=k) (g:=g) hk (by simp [Ck.iX,hA]) (by simp [Ck.iX]) (w':=w.setRow g (cur.toList.take (o+k.n)++ (List.range m).map f++cur.toList.drop (o+k.n+ ((List.range m).map f).length)).toArray) ?_ ?_,fun h=>absurd Gk (by omega)⟩
    ·rw [hA];simp [Builtin.append_,run_underlying hU.out,sizeOf,typeInfo,hi,hs,Builtin.lenOf,Gk,Addr.add_lit];rw [hs]at hf;simp only [fj,qE]at ax|-;simp [hf,ax]
    ·exact⟨⟨O,O,O,by simp,fun x _ hx=>setRow_other w g x _ (fun e=>hx (by rw [e]))⟩,bB _⟩
    ·refine .s5 L4 ⟨by simp [hl],Gk,oz,.inr ⟨g,o,_,O,hg,setRow_heap w g cur _ k.e _ hh,?_,fun j hj=>?_⟩⟩
     ·simp;omega
     ·have ll:j<k.n+m:=hj;show((cur.toList.take (o+k.n)++ (List.range m).map f++cur.toList.drop (o+k.n+ ((List.range m).map f).length)).toArray)[o+j]?=(k.vs++ (List.range m).map f)[j]?;have da:cur.toList.length=cur.size:=by simp
      rw [List.getElem?_toArray]
      by_cases uT:j<k.n
      ·rw [gN,mq (by simp;omega),tl,ay (by omega),mq (by omega)];rw [Array.getElem?_toList];exact hc j uT
      ·rw [gN,kN (by simp;omega),mq (by simp;omega),kN (by omega)]
       congr 1
       simp;omega
   ·have holds:∀j v,k.vs[j]?=some v->w.cell? ((⟨g,o,none⟩:Addr).add j)=some v:=by
     intro j v hj;have uT:j<k.n:=by have:=(iQ.1 hj).1;omega
     rw [CT];simp only [World.cell?,hh];simpa [hc j uT]using hj
    have hr:=run_append_grow (P:=P) w t ty k.e inf z hU.out hi fS ⟨g,o,none⟩ k.n k.c k.vs (by rw [hl,hs,Nat.mul_one]) holds a m c' _ (by rw [iZ,hs,Nat.mul_one]) yk (by omega) LL (growslice_fits (by omega) (by rw [jv];exact tI));have wN:=grownCap_ge w (k.n+m) k.c k.e;refine⟨_,_,_,?_,fresh (k.vs++ (List.range m).map f++List.replicate (grownCap w (k.n+m) k.c k.e - (k.n+m)) z0) (grownCap w (k.n+m) k.c k.e) (Gx L4 (by intro hn;have:=aK List.length hn;simp at this;omega)) (by omega) (grownCap_le_maxLen w (k.n+m) k.c k.e vt) (by simp [hl];omega) (by rw [ze (by simp [hl])];exact lp (by simp [hl])),fun _=> (Below.refl w.heap.size w).drew.alloc (bB _) _⟩;have NA:Builtin.zeroCells z.cells (grownCap w (k.n+m) k.c k.e - (k.n+m))=(List.replicate (grownCap w (k.n+m) k.c k.e - (k.n+m)) z0).toArray:=by
     rw [hz];simp only [Builtin.zeroCells];exact(show _=_ from by have:=N5 z0 (grownCap w (k.n+m) k.c k.e - (k.n+m));simpa [madeCells]using this)
    rw [hA,hr,NA,List.append_toArray,List.append_toArray]
theorem ao.app{el:ae}[hU:bV P t (.slice el)][bR P el z 1 b]{k:Ck}(i:Nat){m:Nat}{f:Nat->ad}(hS:St w0 w ks)(hk:ks[i]?=some k)(hR:Rd w A' m f)(hx:ev e x= .slice k.A k.n k.c)(hy:ev e y= .slice A' m c')(he:k.e=el)(hz:z.cells= #[z0])(h1:∀j,j<m->(f j).oneCell'=true)(vt:k.n+m<=maxLen)(tI:(k.n+m)*b<=140737488355328)(hb:Nat.blt d N=true)(hK:∀A2 c2 w',St w0 w' (ks.set i ⟨A2,k.n+m,c2,el,k.vs++ (List.range m).map f⟩)->ao P N ops K rest (bG e d (.slice A2 (k.n+m) c2)) w')(hM:fw k.vs=false:=by first | rfl | exact tW _ | exact Gw _ | exact Cg _):
 ao P N ops K (⟨some d,.call ⟨.builtin .append, #[x,y], #[t,t]⟩,ty,pos,af,none⟩::rest) e w:=by
 obtain⟨A2,c2,w',hr,o9,_⟩:=ait (P:=P) (t:=t) hz i hS hk hM he hR h1 vt tI ty (c':=c');refine .val (w':=w') ?_ hb (hK _ _ _ o9);simp [execOp,resolve,invoke,builtin,hx,hy,hr]
end
inductive Yd where
 | ex (v:ad)
 | pr (p:ad->aa->Prop)
def Yd.holds:Yd->ad->aa->Prop
 | .ex v,u,_=>u=v
 | .pr p,u,w=>p u w
def Yd.r5:Yd->Prop
 | .ex _=>True
 | .pr p=>∀v w w',p v w->Below w.heap.size w w'->p v w'
theorem Yd.afJ(v:ad):(Yd.ex v).r5:=True.intro
theorem lx{v:ad}{l:List Yd}(h:∀y∈l,y.r5):∀y∈Yd.ex v::l,y.r5:=cj.2 ⟨True.intro,h⟩
theorem Yd.cN{p:ad->aa->Prop}(h:∀v w w',p v w->Below w.heap.size w w'->p v w'):(Yd.pr p).r5:=h
abbrev xU:Yd:= .ex undef
abbrev xI(i:Int):Yd:= .ex (ak i)
abbrev xB(b:Bool):Yd:= .ex (.bool b)
abbrev xP(a:aj):Yd:= .ex (.pointer a)
abbrev xS(a:aj)(n c:Nat):Yd:= .ex (.slice a n c)
theorem Yy{y:Yd}(hl:y.r5){v:ad}{w w':aa}(h:y.holds v w)(hb:Below w.heap.size w w'):y.holds v w':=by
 cases y with
 | ex u=>exact h
 | pr p=>exact hl v w w' h hb
def iz(ds:List Nat)(i:Nat):Bool:=match ds with
 | []=>false
 | d::r=>bif Nat.beq i d then true else iz r i
theorem An{ds:List Nat}{i:Nat}:iz ds i=true↔i∈ds:=by
 induction ds with
 | nil=>simp [iz]
 | cons d r ih=>
  simp only [iz,jn];cases hb:Nat.beq i d with
  | true=>simp [pD hb]
  | false=>
   have:i≠d:=fun e=>by subst e;simp at hb
   simp [this,ih]
def mix(e1 e:Env)(ds:List Nat):Env:=fun i=>bif iz ds i then e1 i else e i
def fO(o:Oper):List Edge:=o.after.toList.filter (Region.binds .any)
theorem sb{o:Oper}{ed:Edge}:ed∈fO o↔ed∈o.after/\Region.binds .any ed=true:=by
 simp [fO]
def fJ(o:Oper):Nat:=match o.dst with
 | some d=>d
 | none=>0
def QU(N:Nat)(l:List Oper):Bool:=
 l.all (fun o=>match o.dst with | some d=>Nat.blt d N | none=>false) && decide ((l.map fJ).Nodup) && (l.zipIdx.all fun p=> (fO p.1).all fun ed=>Nat.blt ed.on p.2)
def vm(l:List Oper)(ys:List Yd):List Edge->List (Nat×ad)
 | []=> []
 | ed::r=>match ys[ed.on]? with
  | some (.ex v)=> (((l[ed.on]?).map fJ).getD 0,v)::vm l ys r
  | _=>vm l ys r
def wD:List Oper->List Yd->(Nat->ad)->Nat->List (Nat×ad)
 | o::l,.ex v::ys,u,i=> (fJ o,v)::wD l ys u (i+1)
 | o::l,.pr _::ys,u,i=> (fJ o,u i)::wD l ys u (i+1)
 | _,_,_,_=> []
def kc(l:List Oper):Nat->Nat->Nat->Bool
 | 0,_,_=>false
 | f+1,k,j=>match l[k]? with
  | some o=> (fO o).any fun ed=>Nat.beq ed.on j || kc l f ed.on j
  | none=>false
theorem zo{l:List Oper}{listed:Array Bool}(da:∀(i:Nat) (o:Oper),listed.getD i false=true->l[i]?=some o->∀ed∈fO o,listed.getD ed.on false=true):∀(f k j:Nat),kc l f k j=true->listed.getD k false=true->listed.getD j false=true
 | 0,k,j,h,_=>by simp [kc]at h
 | f+1,k,j,h,hk=>by
  simp only [kc]at h
  split at h
  ·rename_i o ho;rw [List.any_eq_true]at h;obtain⟨ed,gv,h⟩:=h;have h1:=da k o hk ho ed gv;rw [Bool.or_eq_true]at h;rcases h with h | h
   ·rw [<-pD h];exact h1
   ·exact zo da f ed.on j h h1
  ·cases h
theorem Kv{l:List Oper}{listed:Array Bool}(da:∀(i:Nat) (o:Oper),listed.getD i false=true->l[i]?=some o->∀ed∈fO o,listed.getD ed.on false=true){k:Nat}{o:Oper}(ho:l[k]?=some o)(hr:∀ed∈fO o,listed.getD ed.on false=true):∀(f j:Nat),kc l f k j=true->listed.getD j false=true
 | 0,j,h=>by simp [kc]at h
 | f+1,j,h=>by
  simp only [kc,ho]at h;rw [List.any_eq_true]at h;obtain⟨ed,gv,h⟩:=h;have h1:=hr ed gv;rw [Bool.or_eq_true]at h;rcases h with h | h
  ·rw [<-pD h];exact h1
  ·exact zo da f ed.on j h h1
section
variable{i id:Nat}{w1 w2 w:aa}{y:Yd}{ops:Array Oper}{o:Oper}
variable {P:Program} {N:Nat} {e:Env} {w:aa}
def iB(i:Nat)(e1:Env)(w1:aa)(d:Nat)(y:Yd):Env->aa->Prop:=fun e2 w2=>Below w1.heap.size w1 w2/\y.holds (e2 d) w2/\∀j,j≠d->e2 j=e1 j
theorem iB.dn{e1:Env}{d:Nat}{v:ad}(hb:Below w1.heap.size w1 w2)(hv:y.holds v w2):iB i e1 w1 d y (bG e1 d v) w2:=by
 refine⟨hb,?_,fun j hj=>?_⟩
 ·have:bG e1 d v d=v:=by unfold bG;rw [Nat.beq_refl];rfl
  rw [this];exact hv
 ·have:Nat.beq j d=false:=by
   cases h:Nat.beq j d with
   | false=>rfl
   | true=>exact absurd (pD h) hj
  unfold bG;rw [this];rfl
theorem d0{e1:Env}{d:Nat}{v:ad}(hv:y.holds v w1):iB i e1 w1 d y (bG e1 d v) w1:=iB.dn (Below.refl _ _) hv
theorem Az{e1:Env}{d:Nat}{v:ad}(hv:y.holds v w1:=by exact O):ao P N ops (iB i e1 w1 d y) [] (bG e1 d v) w1:=ao.n (iB.dn (Below.refl _ _) hv)
def wb(ops:Array Oper)(N:Nat)(e:Env)(o:Oper):Option (Nat×ad):=
 match o.guard with
 | none=>uf N e o
 | some (j,want)=>match o.dst,(ops[j]?).bind (·.dst)with
  | some d,some dj=> (match Nat.blt dj N,Nat.blt d N with
   | true,true=> (match e dj with
    | .bool b=> (match b,want with
     | true,true=>uf N e ⟨some d,o.op,o.type,o.pos,o.after,none⟩
     | false,false=>uf N e ⟨some d,o.op,o.type,o.pos,o.after,none⟩
     | true,false=>some (d,undef)
     | false,true=>some (d,undef))
    | .tuple vs=> (match vs.toList with
     | []=>some (d,undef)
     | _=>none)
    | _=>none)
   | _,_=>none)
  | _,_=>none
theorem ao.wb{K:Env->aa->Prop}{e1:Env}{d:Nat}{v:ad}(h:wb ops N e1 o=some (d,v))(hK:K (bG e1 d v) w1):ao P N ops K [o] e1 w1:=by
 obtain⟨dst,op,ty,pos,af,gd⟩:=o;unfold Vc.wb at h
 split at h
 ·exact .uf h (ao.n hK)
 rename_i j want hg;simp only at hg;subst hg
 split at h
 ·rename_i d' dj hd hj;simp only at hd;subst hd
  split at h
  ·rename_i gB hb
   split at h
   ·rename_i b he
    split at h
    ·exact alm hj gB he (.uf h (ao.n hK))
    ·exact alm hj gB he (.uf h (ao.n hK))
    ·simp only [qo,Prod.mk.injEq]at h;obtain⟨rfl,rfl⟩:=h;exact aln hj gB he O hb (ao.n hK)
    simp only [qo,Prod.mk.injEq]at h;obtain⟨rfl,rfl⟩:=h;exact aln hj gB he O hb (ao.n hK)
   ·rename_i vs he
    split at h
    ·rename_i hv;have hu:vs= #[]:=by cases vs;simp only at hv;rw [hv]
     subst hu;simp only [qo,Prod.mk.injEq]at h;obtain⟨rfl,rfl⟩:=h;exact alo hj gB he hb (ao.n hK)
    cases h
   cases h
  cases h
 cases h
theorem WT{e1:Env}{d:Nat}{v:ad}(h:wb ops N e1 o=some (d,v)):o.dst=some d:=by
 have key:∀(o:Oper),uf N e1 o=some (d,v)->o.dst=some d:=fun o h=>by
  unfold uf at h
  split at h
  ·rename_i d' hg hd
   split at h
   ·split at h
    ·simp only [qo,Prod.mk.injEq]at h;rw [hd,h.1]
    cases h
   cases h
  cases h
 unfold wb at h
 split at h
 ·exact key _ h
 split at h
 ·rename_i d' dj hd hj;rw [hd]
  split at h
  ·split at h
   ·split at h
    ·exact key _ h
    ·exact key _ h
    ·simp only [qo,Prod.mk.injEq]at h;rw [h.1]
    simp only [qo,Prod.mk.injEq]at h;rw [h.1]
   ·split at h
    ·simp only [qo,Prod.mk.injEq]at h;rw [h.1]
    cases h
   cases h
  cases h
 cases h
theorem Dk{e1:Env}{d:Nat}{v:ad}(h:wb ops N e1 o=some (d,v))(hv:y.holds v w1):ao P N ops (iB i e1 w1 d y) [o] e1 w1:= .wb h (iB.dn (Below.refl _ _) hv)
def Yz:Yd->Bool
 | .ex _=>true
 | .pr _=>false
theorem eQ{l:List Yd}(h:l.all Yz=true):∀y∈l,y.r5:=fun y hy=>by
 have:=List.all_eq_true.1 h y hy;cases y with
 | ex v=>exact True.intro
 | pr p=>cases this
def ED(P:Program)(N:Nat)(l:List Oper)(ys:List Yd)(e:Env)(w:aa):Nat->List Oper->Prop
 | _,[]=>True
 | i,o::r=> (∀e1 w1,Below w.heap.size w w1->(∀j,j<l.length->iz ((fO o).map (·.on)) j=true->∀(y:Yd) (o':Oper),ys[j]?=some y->l[j]?=some o'->y.holds (e1 (fJ o')) w1)->(∀(j:Nat) (o':Oper),l[j]?=some o'->kc l l.length j i=true->e1 (fJ o')=e (fJ o'))-> 
  ao P N l.toArray (iB i (ext (mix e1 e (l.map fJ)) (vm l ys (fO o))) w1 (fJ o) (ys.getD i (.pr fun _ _=>True))) [o] (ext (mix e1 e (l.map fJ)) (vm l ys (fO o))) w1)/\ED P N l ys e w (i+1) r
theorem Dr{l:List Oper}{ys:List Yd}{d:Nat}{v:ad}(h:(ys.getD i (.pr fun _ _=>True),fun e1=>wb l.toArray N (ext (mix e1 e (l.map fJ)) (vm l ys (fO o))) o)=(.ex v,fun _=>some (d,v))):∀e1 w1,Below w.heap.size w w1->(∀j,j<l.length->iz ((fO o).map (·.on)) j=true->∀(y:Yd) (o':Oper),ys[j]?=some y->l[j]?=some o'->y.holds (e1 (fJ o')) w1)->(∀(j:Nat) (o':Oper),l[j]?=some o'->kc l l.length j i=true->e1 (fJ o')=e (fJ o'))->ao P N l.toArray (iB i (ext (mix e1 e (l.map fJ)) (vm l ys (fO o))) w1 (fJ o) (ys.getD i (.pr fun _ _=>True))) [o] (ext (mix e1 e (l.map fJ)) (vm l ys (fO o))) w1:=fun e1 w1 _ _ _=>by
 have h1:=congrFun (Prod.mk.inj h).2 e1;have hd:fJ o=d:=by unfold fJ;rw [WT h1]
 rw [hd,(Prod.mk.inj h).1];exact Dk h1 rfl
theorem ED.get{l:List Oper}{ys:List Yd}:∀ {r:List Oper} {i:Nat},ED P N l ys e w i r->∀k o,r[k]?=some o->∀e1 w1,Below w.heap.size w w1->(∀j,j<l.length->iz ((fO o).map (·.on)) j=true->∀(y:Yd) (o':Oper),ys[j]?=some y->l[j]?=some o'->y.holds (e1 (fJ o')) w1)->(∀(j:Nat) (o':Oper),l[j]?=some o'->kc l l.length j (i+k)=true->e1 (fJ o')=e (fJ o'))-> 
 ao P N l.toArray (iB (i+k) (ext (mix e1 e (l.map fJ)) (vm l ys (fO o))) w1 (fJ o) (ys.getD (i+k) (.pr fun _ _=>True))) [o] (ext (mix e1 e (l.map fJ)) (vm l ys (fO o))) w1
 | [],_,_,k,o,hk=>by simp at hk
 | x::r,i,h,0,o,hk=>by simp at hk;subst hk;exact h.1
 | x::r,i,h,k+1,o,hk=>by
  have:=ED.get h.2 k o (by simpa using hk);simpa [Nat.add_assoc,Nat.add_comm 1 k]using this
theorem Kg{a:Act}{K K2:Act->aa->Prop}{Q Q2:Exit->Act->aa->Prop}(h:o.wp P a w K Q)(hK:∀a w,K a w->K2 a w)(hQ:∀x a w,x≠ .normal->¬Q x a w):o.wp P a w K2 Q2:=by
 unfold Oper.wp at*;generalize (execOp a.eval o).run P w=r at*;cases r with
 | ok n w'=>
  cases n<;>simp only [Oper.upon]at h|-<;>first
   | exact hK _ _ h
   | (
    refine Calls.mono h fun x qc hx=>?_
    cases x with
    | returned v=>exact hK _ _ hx
    | panicked ch=>exact absurd hx (hQ _ _ _ (by simp))
    | outgrown=>obtain⟨a0,w0,hx⟩:=hx;exact absurd hx (hQ _ _ _ (by simp)))
   | exact Rows.mono h fun v qc hx=>hK _ _ hx
 | halt x w'=>
  cases x<;>simp only [Oper.upon]at h|-
  exact absurd h (hQ _ _ _ (by simp))
theorem Jt{e1 e:Env}{ds:List Nat}(h:∀j,iz ds j=false->e1 j=e j):mix e1 e ds=e1:=by
 funext j;unfold mix;cases hm:iz ds j with
 | true=>rfl
 | false=>exact(h j hm).symm
theorem QS{l:List Oper}{ys:List Yd}{e1:Env}{w1:aa}:∀(af:List Edge),(∀ed∈af,ed.on<l.length)->(∀j,iz (af.map (·.on)) j=true->∀(y:Yd) (o':Oper),ys[j]?=some y->l[j]?=some o'->y.holds (e1 (fJ o')) w1)->Mt e1 (vm l ys af)
 | [],_,_=>av
 | ed::r,gB,h=>by
  have hr:=QS r (fun x hx=>gB x (pC _ hx)) (fun j hj=>h j (by rw [An]at hj|-;exact pC _ hj));unfold vm
  split
  ·rename_i v hy;have hl:=gB ed (by simp);refine⟨?_,hr⟩;rw [gO hl];exact h ed.on (by rw [An];simp) _ _ hy (gO hl)
  ·exact hr
theorem Q7{e1 e:Env}{w1:aa}:∀(l:List Oper) (ys:List Yd) (i:Nat),l.length=ys.length->(l.map fJ).Nodup->(∀(k:Nat) (y:Yd) (o:Oper),ys[k]?=some y->l[k]?=some o->y.holds (e1 (fJ o)) w1)->
 ∃u:Nat->ad,ext e (wD l ys u i)=mix e1 e (l.map fJ)/\(∀(k:Nat) (o:Oper),l[k]?=some o->u (i+k)=e1 (fJ o))
 | [],[],i,_,_,_=> ⟨fun _=>undef,by funext j;rfl,fun k o h=>by simp at h⟩
 | [],y::ys,i,hl,_,_=>by simp at hl
 | o::l,[],i,hl,_,_=>by simp at hl
 | o::l,y::ys,i,hl,hn,h=>by
  simp only [List.map_cons,oS]at hn;obtain⟨u,hu,jx⟩:=Q7 (e1:=e1) (e:=e) (w1:=w1) l ys (i+1) (by simpa using hl) hn.2 (fun k y o hy ho=>h (k+1) y o (by simpa using hy) (by simpa using ho));have h0:=h 0 y o O O;have KN:∀(l:List Oper) (ys:List Yd) (i:Nat) (u u':Nat->ad),(∀k,i<=k->u k=u' k)->wD l ys u i=wD l ys u' i:=by
   intro l
   induction l with
   | nil=>intros;rfl
   | cons o l ih=>
    intro ys i u u' hk;cases ys with
    | nil=>rfl
    | cons y ys=>
     cases y with
     | ex v=>simp only [wD];rw [ih ys (i+1) u u' (fun k eM=>hk k (by omega))]
     | pr p=>simp only [wD];rw [ih ys (i+1) u u' (fun k eM=>hk k (by omega)),hk i (by omega)]
  refine⟨fun k=>if k=i then e1 (fJ o)else u k,?_,fun k o' hk=>?_⟩
  ·have hc:=KN l ys (i+1) (fun k=>if k=i then e1 (fJ o)else u k) u (fun k hk=>by rw [aw (by omega)]);have qY:∀v,v=e1 (fJ o)->bG (mix e1 e (l.map fJ)) (fJ o) v=mix e1 e ((o::l).map fJ):=by
    intro v hv;funext j;simp only [bG,mix,List.map_cons,iz];cases hb:Nat.beq j (fJ o)with
    | true=>rw [pD hb,hv];rfl
    | false=>rfl
   cases y with
   | ex v=>
    simp only [wD,ext,hc,hu];exact qY v h0.symm
   | pr p=>
    simp only [wD,ext,hc,hu,ay];exact qY _ O
  ·cases k with
   | zero=>simp at hk;subst hk;simp
   | succ k=>
    have:=jx k o' (by simpa using hk);show(if i+ (k+1)=i then _ else u (i+ (k+1)))=_;rw [aw (by omega),<-this];congr 1;omega
theorem Dd(p p':Nat->Bool)(i:Nat)(hi:p i=false)(hp:∀k,p' k=if k=i then true else p k):∀(l:List Nat),l.Nodup->i∈l->l.countP p'=l.countP p+1
 | [],_,h=>by cases h
 | x::l,hn,h=>by
  have ads:∀(l:List Nat),¬i∈l->l.countP p'=l.countP p:=by
   intro l hl;exact List.countP_congr fun k hk=>by rw [hp k,aw (by rintro rfl;exact hl hk)]
  simp only [oS]at hn;simp only [List.countP_cons]
  by_cases hx:x=i
  ·subst hx;rw [ads l hn.1,hp x,ay rfl,hi];simp
  ·have MK:i∈l:=by
    rcases jn.1 h with h | h
    ·exact absurd h.symm hx
    ·exact h
   rw [Dd p p' i hi hp l hn.2 MK,hp x,aw hx];omega
theorem aly{l:List Oper}{Q:kb}(ys:List Yd)(hm:P.follows .mixedOrders=true)(dK:QU N l=true)(hlen:Nat.beq l.length ys.length=true)(IX:∀y∈ys,y.r5)
 (Nk:ED P N l ys e w 0 l) (yc:∀u w1,Below w.heap.size w w1->(∀(k:Nat) (p:ad->aa->Prop),ys[k]?=some (Yd.pr p)->p (u k) w1)->Q .normal (ext e (wD l ys u 0)) w1):Cd P N (.region id l.toArray true) Q e w:= .mk' fun a ha=>by
 have yi:l.length=ys.length:=pD hlen;simp only [QU,Bool.and_eq_true,List.all_eq_true,kz]at dK;obtain⟨⟨h1,h2⟩,h3⟩:=dK;have acJ:∀(i:Nat) (o:Oper),l[i]?=some o->∃d,o.dst=some d/\fJ o=d/\d<N:=by
  intro i o ho;have:=h1 o (List.mem_of_getElem? ho);cases hd:o.dst with
  | none=>rw [hd]at this;cases this
  | some d=>rw [hd]at this;exact⟨d,rfl,by simp [fJ,hd],by simpa [Nat.blt_eq]using this⟩
 have acn:∀(i:Nat) (o:Oper),l[i]?=some o->∀ed∈fO o,ed.on<i/\Region.binds .any ed=true:=by
  intro i o ho ed gv;have:=h3 (o,i) (by
   obtain⟨hi,IQ⟩:=iQ.1 ho;rw [List.mem_iff_getElem?];exact⟨i,by simp [ho]⟩)
  exact⟨by simpa [Nat.blt_eq]using this ed gv,(sb.1 gv).2⟩
 have ya:∀(i:Nat) (o:Oper),l[i]?=some o->∀ed∈fO o,ed.on<i:=fun i o ho ed gv=> (acn i o ho ed gv).1
 refine wp_region_any hm ?_;have key:∀(fuel:Nat) (listed:Array Bool) (a1:Act) (e1:Env) (w1:aa),ky N a1 e1->Below w.heap.size w w1->(∀j,iz (l.map fJ) j=false->e1 j=e j)->listed.size=l.length->
  (∀(i:Nat) (y:Yd) (o:Oper),listed.getD i false=true->ys[i]?=some y->l[i]?=some o->y.holds (e1 (fJ o)) w1)->(∀(i:Nat) (o:Oper),listed.getD i false=true->l[i]?=some o->∀ed∈fO o,listed.getD ed.on false=true)->(∀(i:Nat) (o:Oper),listed.getD i false=false->l[i]?=some o->e1 (fJ o)=e (fJ o))->(l.length - fuel<=(List.range l.length).countP fun i=>listed.getD i false)->
  wpAny P .any l.toArray (low N Q) fuel listed a1 w1:=by
  have oC:∀(listed:Array Bool) (a1:Act) (e1:Env) (w1:aa),ky N a1 e1->Below w.heap.size w w1->(∀j,iz (l.map fJ) j=false->e1 j=e j)->
   (∀(i:Nat) (y:Yd) (o:Oper),listed.getD i false=true->ys[i]?=some y->l[i]?=some o->y.holds (e1 (fJ o)) w1)->(∀i,i<l.length->listed.getD i false=true)->low N Q .normal a1 w1:=by
   intro listed a1 e1 w1 hr hb pM hS dO;obtain⟨u,hu,jx⟩:=Q7 (e1:=e1) (e:=e) (w1:=w1) l ys 0 yi h2 (fun k y o hy ho=>hS k y o (dO k (iQ.1 ho).1) hy ho);refine⟨e1,hr,?_⟩;have:=yc u w1 hb (fun k p hk=>by
    have kF:k<l.length:=by rw [yi];exact(iQ.1 hk).1
    have h5:=hS k _ l[k] (dO k kF) hk (gO kF);have h6:=jx k l[k] (gO kF);rw [Nat.zero_add]at h6;rw [h6];exact h5)
   rw [hu,Jt pM]at this;exact this
  have Gj:∀(listed:Array Bool),listed.size=l.length->Region.ready .any l.toArray listed=[]->∀i,i<l.length->listed.getD i false=true:=by
   intro listed nN vO i
   induction i using Nat.strongRecOn with
   | _ i ih=>
    intro hi;cases zR:listed.getD i false with
    | true=>rfl
    | false=>
     exfalso;have:i∈Region.ready .any l.toArray listed:=by
      rw [mem_ready];refine⟨?_,l[i],by simp [hi],fun ed gv qQ=>ih ed.on (ya i _ (gO hi) ed (sb.2 ⟨gv,qQ⟩)) (by have:=ya i _ (gO hi) ed (sb.2 ⟨gv,qQ⟩);omega)⟩;rw [jy,sr (by omega)]at zR|-;exact zR
     rw [vO]at this;cases this
  intro fuel
  induction fuel with
  | zero=>
   intro listed a1 e1 w1 hr hb pM nN hS da Cc pd;have dO:∀i,i<l.length->listed.getD i false=true:=by
    have h4:(List.range l.length).countP (fun i=>listed.getD i false)=(List.range l.length).length:=by
     have:=List.countP_le_length (p:=fun i=>listed.getD i false) (l:=List.range l.length);simp at this pd|-;omega
    rw [List.countP_eq_length]at h4;intro i hi;exact h4 i (by simpa using hi)
   refine⟨?_,oC listed a1 e1 w1 hr hb pM hS dO⟩;rw [List.eq_nil_iff_forall_not_mem];intro i hi;obtain⟨h5,o,ho,_⟩:=mem_ready.1 hi;have sM:i<l.length:=by
    rcases Nat.lt_or_ge i l.length with h | h
    ·exact h
    ·simp [qm h]at ho
   have h6:=dO i sM;rw [jy,sr (by omega)]at h5 h6;simp at h5 h6;rw [h5]at h6;cases h6
  | succ fuel ih=>
   intro listed a1 e1 w1 hr hb pM nN hS da Cc pd;refine⟨fun vO=>oC listed a1 e1 w1 hr hb pM hS (Gj listed nN vO),fun i hi=>?_⟩;obtain⟨aY,o,ho,x6⟩:=mem_ready.1 hi;have ja:l[i]?=some o:=by simpa using ho
   have sM:i<l.length:=(iQ.1 ja).1;obtain⟨d,hd,hdo,hdN⟩:=acJ i o ja;have Te:∀j,iz ((fO o).map (·.on)) j=true->∀(y:Yd) (o':Oper),ys[j]?=some y->l[j]?=some o'->y.holds (e1 (fJ o')) w1:=by
    intro j hj y o' hy wT;rw [An,dv]at hj;obtain⟨ed,gv,rfl⟩:=hj;exact hS _ y o' (x6 ed (sb.1 gv).1 (sb.1 gv).2) hy wT
   have lT:∀ed∈fO o,listed.getD ed.on false=true:=fun ed gv=>x6 ed (sb.1 gv).1 (sb.1 gv).2
   have uZ:listed.getD i false=false:=by
    have h5:=aY;rw [jy,sr (by omega)]at h5|-;exact h5
   have qU:∀k,(listed.setIfInBounds i true).getD k false=if k=i then true else listed.getD k false:=by
    intro k;rw [jy,uj]
    by_cases eN:k=i
    ·subst eN;rw [ay rfl,ay (by omega),ay rfl];rfl
    ·rw [aw (fun e=>eN e.symm),aw eN,<-jy]
   have ax:=Nk.get i o ja e1 w1 hb (fun j _ hj=>Te j hj) (fun j o' hj x7=>by
    refine Cc j o' ?_ hj;cases wR:listed.getD j false with
    | false=>rfl
    | true=>
     have:=zo da _ _ _ x7 wR;rw [Nat.zero_add,uZ]at this;cases this)
   rw [Jt pM,zv (QS (fO o) (fun ed gv=>by have:=ya i o ja ed gv;omega) Te),Nat.zero_add]at ax;have qz:=ax.run a1 hr;have uV:∀a2 w2,(∃e2,ky N a2 e2/\iB i e1 w1 (fJ o) (ys.getD i (.pr fun _ _=>True)) e2 w2)->wpAny P .any l.toArray (low N Q) fuel (listed.setIfInBounds i true) a2 w2:=by
    intro a2 w2 ⟨e2,sS,eC,yq,Dx⟩;have ib:Below w.heap.size w w2:=hb.trans (eC.mono hb.size);refine ih _ a2 e2 w2 sS ib (fun j hj=>?_) (by simpa using nN) (fun k y o' hk hy dK=>?_) (fun k o' hk dK ed gv=>?_) (fun k o' hk dK=>?_) ?_
    ·have bt:j≠fJ o:=by
      rintro rfl;have:iz (l.map fJ) (fJ o)=true:=by rw [An];exact dv.2 ⟨o,List.mem_of_getElem? ja,O⟩
      rw [this]at hj;cases hj
     rw [Dx j bt];exact pM j hj
    ·by_cases eN:k=i
     ·subst eN;rw [ja]at dK;cases dK;have:ys.getD k (.pr fun _ _=>True)=y:=by simp [dd,hy]
      rw [this]at yq;exact yq
     ·have eM:listed.getD k false=true:=by
       rw [jy,uj,aw (by omega),<-jy]at hk;exact hk
      have h7:=hS k y o' eM hy dK;have bt:fJ o'≠fJ o:=by
       intro heq;have kF:=(iQ.1 dK).1;have h9:k=i:=(List.getElem_inj (xs:=l.map fJ) (h₀:=by simpa using kF) (h₁:=by simpa using sM) h2).1 (by
        have e1:=(iQ.1 dK).2;have e2:=(iQ.1 ja).2;simp [e1,e2,heq])
       exact eN h9
      rw [Dx _ bt];exact Yy (IX y (List.mem_of_getElem? hy)) h7 eC
    ·rw [qU]
     by_cases zL:ed.on=i
     ·rw [ay zL]
     ·rw [aw zL]
      by_cases eN:k=i
      ·subst eN;rw [ja]at dK;cases dK;exact lT ed gv
      ·rw [qU,aw eN]at hk;exact da k o' hk dK ed gv
    ·rw [qU]at hk
     by_cases eN:k=i
     ·rw [ay eN]at hk;cases hk
     ·rw [aw eN]at hk;rw [Dx _ (fun heq=>by
       have kF:=(iQ.1 dK).1;have h9:k=i:=(List.getElem_inj (xs:=l.map fJ) (h₀:=by simpa using kF) (h₁:=by simpa using sM) h2).1 (by
        have e1:=(iQ.1 dK).2;have e2:=(iQ.1 ja).2;simp [e1,e2,heq])
       exact eN h9)]
      exact Cc k o' hk dK
    ·have FR:(List.range l.length).countP (fun k=> (listed.setIfInBounds i true).getD k false)=(List.range l.length).countP (fun k=>listed.getD k false)+1:=by
      refine Dd (fun k=>listed.getD k false) (fun k=> (listed.setIfInBounds i true).getD k false) i ?_ (fun k=>?_) _ List.nodup_range (by simpa using sM)
      ·have h5:=aY;show listed.getD i false=false;rw [jy,sr (by omega)]at h5|-;exact h5
      ·show(listed.setIfInBounds i true).getD k false=if k=i then true else listed.getD k false
       rw [jy,uj]
       by_cases eN:k=i
       ·subst eN;rw [ay rfl,ay (by omega),ay rfl];rfl
       ·rw [aw (fun e=>eN e.symm),aw eN,<-jy]
     rw [FR];omega
   unfold wpOp;rw [ho];unfold wpList at qz;show if _ then _ else _
   by_cases hw:Region.wanted o (yielded l.toArray a1.tmps)=true
   ·rw [ay hw]at qz|-;rcases qz with h5 | ⟨_,a0,w0,h5⟩
    ·refine .inl (Kg h5 (fun a2 w2 hx=>?_) (fun x a w hx hq=>hx hq.1));exact uV a2 w2 hx.2
    ·exact absurd h5.1 (by simp)
   ·rw [aw hw]at qz|-;exact uV _ _ qz.2
 refine key l.length (Array.replicate l.length false) a e _ ha ⟨⟨O,O,O,bB _,fun _ _=>O⟩,fun _=>Nat.le_add_right _ _⟩ (fun _ _=>O) (by simp) (fun i y o hi=>?_) (fun i o hi=>?_) (fun _ _ _ _=>O) (by omega)
 ·exfalso;rw [jy,Array.getElem?_replicate]at hi
  split at hi<;>simp at hi
 ·exfalso;rw [jy,Array.getElem?_replicate]at hi
  split at hi<;>simp at hi
theorem eB{l:List Oper}{Q:kb}(ys:List Yd)(hlen:Nat.beq l.length ys.length=true)(IX:∀y∈ys,y.r5)(Nk:ED P N l ys e w 0 l)(yc:∀u w1,Below w.heap.size w w1->(∀(k:Nat) (p:ad->aa->Prop),ys[k]?=some (Yd.pr p)->p (u k) w1)->Q .normal (ext e (wD l ys u 0)) w1)(hm:P.follows .mixedOrders=true:=by kernel_rfl)(dK:QU N l=true:=by kernel_rfl):Cd P N (.region id l.toArray true) Q e w:=aly ys hm dK hlen IX Nk yc
theorem nY{α:Type}{x y:Code}{Q:kb}(F:α->List (Nat×ad))(I:α->aa->Prop)(hx:Cd P N x (CD (fun e' w'=>∃s,Mt e' (F s)/\I s w') Q) e w)
 (hy:∀s e' w',I s w'->Cd P N y Q (ext e' (F s)) w'):Cd P N (.seq x y) Q e w:=
 .seq (hx.mono fun ex e' w' q=>by
  cases ex<;>first
   | exact q
   | (
    obtain⟨s,hm,hi⟩:=q;have:=hy s e' w' hi;rw [zv hm]at this;exact this))
end
structure bz(w:aa)(A:aj)(n:Nat)(rs:List aQ)(xss:ah):Prop where
 top:jo w A n rs
 len:xss.length=n
 row:∀i,i<n->di w (rs.getD i eA).a (rs.getD i eA).n (xss.getD i [])
 cap:∀i,i<n->(rs.getD i eA).n<=(rs.getD i eA).c/\(rs.getD i eA).c<=maxLen
def gl(xss:ah)(i:Int):ai:=xss.getD i.toNat []
theorem bz.at_{w:aa}{A:aj}{n:Nat}{rs:List aQ}{xss:ah}(h:bz w A n rs xss){i:Int}(_h0:0<=i)(hi:i<n):di w (rg rs i).a (rg rs i).n (gl xss i):=h.row _ (by omega)
theorem bz.cap_{w:aa}{A:aj}{n:Nat}{rs:List aQ}{xss:ah}(h:bz w A n rs xss){i:Int}(_h0:0<=i)(hi:i<n):(rg rs i).n<=(rg rs i).c/\(rg rs i).c<=9223372036854775807:=h.cap _ (by omega)
theorem bz.aq{w w':aa}{A:aj}{n:Nat}{rs:List aQ}{xss:ah}(h:bz w A n rs xss)(hb:Below w.heap.size w w'):bz w' A n rs xss:=
 ⟨h.top.aq hb,h.len,fun i hi=> (h.row i hi).aq hb,h.cap⟩
theorem St.bS{w0 w:aa}{ks:List Ck}{A:aj}{n:Nat}{rs:List aQ}{xss:ah}(h:St w0 w ks)(hR:bz w0 A n rs xss):bz w A n rs xss:=hR.aq h.below
def dq(t:ae):List aQ->ah->List Ck
 | r::rs,xs::xss=>az t r.a r.n r.c xs::dq t rs xss
 | _,_=> []
def aO(t1 t2:ae)(A:aj)(n c:Nat)(rs:List aQ)(xss:ah):List Ck:=b9 t1 A n c rs::dq t2 rs xss
theorem JT{t:ae}:∀ {rs:List aQ} {xss:ah} {i:Nat},rs.length=xss.length->i<rs.length->(dq t rs xss)[i]?=some (az t (rs.getD i eA).a (rs.getD i eA).n (rs.getD i eA).c (xss.getD i []))
 | [],_,_,_,h=>by simp at h
 | r::rs,[],_,h,_=>by simp at h
 | r::rs,xs::xss,0,_,_=>rfl
 | r::rs,xs::xss,i+1,h,hi=>by
  have:=JT (t:=t) (rs:=rs) (xss:=xss) (i:=i) (by simpa using h) (by simpa using hi);simpa [dq]using this
theorem Ek{t:ae}:∀ {rs:List aQ} {xss:ah},rs.length=xss.length->(dq t rs xss).length=rs.length
 | [],[],_=>rfl
 | [],_::_,h=>by simp at h
 | _::_,[],h=>by simp at h
 | r::rs,xs::xss,h=>by simp [dq,Ek (t:=t) (rs:=rs) (xss:=xss) (by simpa using h)]
theorem AH{t:ae}:∀ {rs rs':List aQ} {xss xss':ah},rs.length=xss.length->dq t (rs++rs') (xss++xss')=dq t rs xss++dq t rs' xss'
 | [],_,[],_,_=>rfl
 | [],_,_::_,_,h=>by simp at h
 | _::_,_,[],_,h=>by simp at h
 | r::rs,rs',xs::xss,xss',h=>by
  have:=AH (t:=t) (rs:=rs) (rs':=rs') (xss:=xss) (xss':=xss') (by simpa using h);simp [dq,this]
theorem St.gj{w0 w:aa}{ks:List Ck}{t1 t2:ae}{A:aj}{n c:Nat}{rs:List aQ}{xss:ah}(h:St w0 w (aO t1 t2 A n c rs xss++ks))(hl:xss.length=n):bz w A n rs xss:=by
 have h0:=h.ie 0 (show(aO t1 t2 A n c rs xss++ks)[0]?=some (b9 t1 A n c rs) from O);have hr:rs.length=xss.length:=by rw [h0.1,hl]
 have get:∀i,i<n->(aO t1 t2 A n c rs xss++ks)[i+1]?=some (az t2 (rs.getD i eA).a (rs.getD i eA).n (rs.getD i eA).c (xss.getD i [])):=by
  intro i hi;have h1:=JT (t:=t2) (rs:=rs) (xss:=xss) (i:=i) hr (by omega);rw [mq (by simp [aO,Ek hr];omega)];simpa [aO]using h1
 exact⟨h0,hl,fun i hi=>h.bF (i+1) (get i hi),fun i hi=>h.cap (i+1) (get i hi)⟩
end Go.Proofs.YtopgfgdgfjddpaaGreatDoor.Vc
