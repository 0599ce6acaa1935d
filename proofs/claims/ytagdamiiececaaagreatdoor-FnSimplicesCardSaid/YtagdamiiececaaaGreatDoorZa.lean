/-
 Lemmas. Conditions: as each states them.
-/
import Derived.WalkKit
import Derived.Deep.Quiet
import Derived.Deep.LoopGhost
import Derived.Below
import Derived.Sort.Grow
import Derived.Deep.OwnRows
set_option maxHeartbeats 8000000
namespace Go.Proofs.YtagdamiiececaaaGreatDoor.Vc
open Go.RowKit
abbrev aa:=World
abbrev ad:=Value
abbrev ae:=TypeId
abbrev ag:=Operand
abbrev ah:=List (List Int)
abbrev ai:=List Int
abbrev aj:=Option Addr
abbrev ak(i:Int):Value:=.int .i64 i
theorem av:True:=@trivial
theorem aw:∀ {c:Prop} {_:Decidable c},¬c->∀ {α:Sort _} {t e:α},(if c then t else e)=e:=@if_neg
theorem ay:∀ {c:Prop} {_:Decidable c},c->∀ {α:Sort _} {t e:α},(if c then t else e)=t:=@if_pos
theorem aO:∀ {α:Sort _} {β:Sort _} {a₁ a₂:α} (f:α->β),a₁=a₂->f a₁=f a₂:=@congrArg
theorem a7:∀(n:Nat),0<=n:=@Nat.zero_le
theorem bj:∀(n:Nat),n<=n:=@Nat.le_refl
theorem cI:∀ {α:Type _} {p:α->Prop} {a:α} {l:List α},(∀(x:α),x∈a::l->p x)↔p a/\∀(x:α),x∈l->p x:=@List.forall_mem_cons
theorem cN:∀ {α:Type _} {l:List α} {i:Nat} {a:α},l.getD i a=l[i]?.getD a:=@List.getD_eq_getElem?_getD
theorem cS:∀ {α:Type _} {cs bs:List α},(cs++bs).length=cs.length+bs.length:=@List.length_append
theorem db:∀ {α:Type _} {β:Type _} {b:β} {f:α->β} {l:List α},b∈List.map f l↔∃a,a∈l/\f a=b:=@List.mem_map
theorem dB:∀ {α:Type _} {l:List α} {n:Nat} (h:n<l.length),l[n]∈l:=@List.getElem_mem
theorem dE:∀ {p:Prop} [Decidable p],¬p->decide p=false:=@decide_eq_false
theorem eM:∀ {p:Prop} [Decidable p],p->decide p=true:=@decide_eq_true
theorem fk:∀ {α:Type _} {β:Type _} {cs:List α} (f:α->β),(List.map f cs).length=cs.length:=@List.length_map
theorem fJ:∀ {α:Type _} {a:α} {l:List α},a∈l↔∃(i:Nat) (h:i<l.length),l[i]=a:=@List.mem_iff_getElem
theorem fM:∀ {α:Type _} (cs:List α),cs++ []=cs:=@List.append_nil
theorem fS:∀ {α:Type _} {l:List α} {i:Nat} (h:i<l.length),l[i]?=some l[i]:=@List.getElem?_eq_getElem
theorem fT:∀ {α:Type _} {p:α->Bool} {cs:List α} {x:α},x∈List.filter p cs↔x∈cs/\p x=true:=@List.mem_filter
theorem fU:∀ {m n:Nat},m∈List.range n↔m<n:=@List.mem_range
theorem gk:∀ {α:Type _} {a b:α},a∈[b]↔a=b:=@List.mem_singleton
theorem gG:∀(n:Nat),(n:Int).toNat=n:=@Int.toNat_natCast
theorem gS:∀ {α:Type _} {i:Nat} {a:α} {l:List α},l[i]?=some a↔∃h,l[i]=a:=@List.getElem?_eq_some_iff
theorem iy:∀ {a:Prop},¬¬a↔a:=@Classical.not_not
theorem iR:∀ {α:Type _} {xs:Array α} {i:Nat} {d:α},xs.getD i d=xs[i]?.getD d:=@Array.getD_eq_getD_getElem?
theorem jb:∀ {α:Type _} {β:Type _} {f:α->β} {l₁ l₂:List α},List.map f (l₁++l₂)=List.map f l₁++List.map f l₂:=@List.map_append
theorem jo:∀ {α:Type _} {l₁ l₂:List α},l₁.length=l₂.length->(∀(i:Nat) (h₁:i<l₁.length) (h₂:i<l₂.length),l₁[i]=l₂[i])->l₁=l₂:=@List.ext_getElem
theorem jq:∀ {α:Type _} {b:α} {l:List α} {a:α},a∈b::l↔a=b\/a∈l:=@List.mem_cons
theorem jy:∀ {α:Type _} (ks bs cs:List α),ks++bs++cs=ks++ (bs++cs):=@List.append_assoc
theorem jz:∀ {α:Type _} {a:α} {s t:List α},a∈s++t↔a∈s\/a∈t:=@List.mem_append
theorem jJ:∀ {p q:Prop} {_:Decidable p} {_:Decidable q},decide p=decide q↔(p↔q):=@decide_eq_decide
theorem jV:∀ {α:Type _} (l:List α),l.Sublist l:=@List.Sublist.refl
theorem jW:∀ {α:Type _} {i:Nat} {l:List α},l.length<=i->List.take i l=l:=@List.take_of_length_le
theorem kL:∀ {α:Type _} [BEq α] {a b:α} {l:List α},List.count a (b::l)=List.count a l+if(b==a)=true then 1 else 0:=@List.count_cons
theorem kM:∀ {α:Type _} {α_1:Type _} {f:α->α_1} {R:α_1->α_1->Prop} {l:List α},List.Pairwise R (List.map f l)↔List.Pairwise (fun a b=>R (f a) (f b)) l:=@List.pairwise_map
theorem kN:∀ {α:Type _} [BEq α] [LawfulBEq α] {l₁ l₂:List α},l₁.Perm l₂↔∀(a:α),List.count a l₁=List.count a l₂:=@List.perm_iff_count
theorem kU:∀ {p:Prop} [Decidable p],(decide p=true)=p:=@decide_eq_true_eq
theorem lp:∀ {α:Type _} {cs:List α} {i:Nat} {a:α},(cs.set i a).length=cs.length:=@List.length_set
theorem lM:∀ {α:Type _} {l₁ l₂:List α} {i:Nat},l₁.length<=i->(l₁++l₂)[i]?=l₂[i - l₁.length]?:=@List.getElem?_append_right
theorem lN:∀ {n:Nat},List.range n.succ=List.range n++ [n]:=@List.range_succ
theorem mb:∀ {α:Type _} [BEq α] {a:α} {l₁ l₂:List α},List.count a (l₁++l₂)=List.count a l₁+List.count a l₂:=@List.count_append
theorem mc:∀ {α:Type _} {l₁ l₂:List α} {i:Nat},i<l₁.length->(l₁++l₂)[i]?=l₁[i]?:=@List.getElem?_append_left
theorem me:∀ {α:Type _} {l₁ l₂:List α},(l₁++l₂).Perm (l₂++l₁):=@List.perm_append_comm
theorem mE:∀ {α:Type _} [BEq α] {a:α},List.count a []=0:=@List.count_nil
theorem mF:∀ {α:Type _} {l:List α} {i:Nat},l.length<=i->l[i]?=none:=@List.getElem?_eq_none
theorem mG:∀ {α:Type _} {l:List α} {i j:Nat} {a:α},(l.set i a)[j]?=if i=j then if i<l.length then some a else none else l[j]?:=@List.getElem?_set
theorem mH:∀ {α:Type _} (l₁ l₂:List α),l₂.Sublist (l₁++l₂):=@List.sublist_append_right
theorem nt:∀ {α:Type _} {a:α} {l:List α},(a::l).Nodup↔¬a∈l/\l.Nodup:=@List.nodup_cons
theorem nv:∀ {n m k:Nat},n<=m->m<=k->n<=k:=@Nat.le_trans
theorem ob:∀ {p:Prop},(¬p->False)->p:=@Classical.byContradiction
theorem od:∀ {α:Type _} {l:List α} {α_1:Type _} {f g:α->α_1},(∀(a:α),a∈l->f a=g a)->List.map f l=List.map g l:=@List.map_congr_left
theorem oe:∀ {n m:Nat},n.beq m=true->n=m:=@Nat.eq_of_beq_eq_true
theorem oh:∀ {α:Type _} {val val_1:α},some val=some val_1->val=val_1:=@Option.some.inj
theorem oL:∀ {α:Type _} {R:α->α->Prop} {l:List α} (p:α->Bool),List.Pairwise R l->List.Pairwise R (List.filter p l):=@List.Pairwise.filter
theorem oM:∀ {α:Type _} {i:Nat} {l:List α},(List.take i l).length=min i l.length:=@List.length_take
theorem oO:∀ {α:Type _} (val val_1:α),(some val=some val_1)=(val=val_1):=@Option.some.injEq
theorem pj:∀ {α:Type _} (y:α) {a:α} {l:List α},a∈l->a∈y::l:=@List.mem_cons_of_mem
theorem pU:∀ {n:Nat},(List.range n).length=n:=@List.length_range
theorem qF:∀ {α:Type _} {xs:Array α} {i:Nat} (h:i<xs.size),xs[i]?=some xs[i]:=@Array.getElem?_eq_getElem
theorem qH:∀ {α:Type _} {l:List α},l.length=0->l=[]:=@List.eq_nil_of_length_eq_zero
theorem qI:∀ {α:Type _} (l₁ l₂:List α),l₁.Sublist (l₁++l₂):=@List.sublist_append_left
theorem rL:∀ {α:Type _} {l:List α} {i j:Nat},(List.take i l)[j]?=if j<i then l[j]? else none:=@List.getElem?_take
theorem rM:∀ {α:Type _} (p:α->Bool) (l:List α),(List.filter p l).length<=l.length:=@List.length_filter_le
theorem rN:∀ {α:Type _} {l₁ l₂:List α},l₁.Nodup->l₂.Nodup->(l₁.Perm l₂↔∀(a:α),a∈l₁↔a∈l₂):=@List.perm_ext_iff_of_nodup
theorem rQ:∀ {α:Type _} {i:Nat} {l:List α} (h:i<l.length),List.take (i+1) l=List.take i l++ [l[i]]:=@List.take_succ_eq_append_getElem
theorem sP:∀ {α:Type _} {p:α->Bool} (l₁ l₂:List α),List.filter p (l₁++l₂)=List.filter p l₁++List.filter p l₂:=@List.filter_append
theorem sQ:∀(n:Nat),¬n<0:=@Nat.not_lt_zero
theorem uy:∀ {p:Prop} [Decidable p],decide p=true->p:=@of_decide_eq_true
theorem uL:∀ {α:Type _} {a:α} {l₁ l₂:List α},(l₁++a::l₂).Perm (a::(l₁++l₂)):=@List.perm_middle
theorem vx:∀ {α:Type _} {xs:Array α} {i j:Nat} {a:α},(xs.setIfInBounds i a)[j]?=if i=j then if i<xs.size then some a else none else xs[j]?:=@Array.getElem?_setIfInBounds
theorem vB:∀ {α:Type _} {p:α->Bool} {a:α} {l:List α},¬p a=true->List.filter p (a::l)=List.filter p l:=@List.filter_cons_of_neg
theorem wT:∀ {α:Type _} {l₁ l₂:List α} {i:Nat},i<=l₁.length->List.take i (l₁++l₂)=List.take i l₁:=@List.take_append_of_le_length
theorem yw:∀ {α:Type _} {p:α->Bool} {a:α} {l:List α},p a=true->List.filter p (a::l)=a::List.filter p l:=@List.filter_cons_of_pos
abbrev Env:=Nat->ad
def bq(e:Env)(d:Nat)(v:ad):Env:=fun i=>bif Nat.beq i d then v else e i
def ev(e:Env):ag->ad
 | .tmp t=>e t
 | .const v=>v
 | .global g=> .pointer (some ⟨g,0,none⟩)
 | .func f=> .func (.func f) #[] #[]
structure jC(N:Nat)(a:Act)(e:Env):Prop where
 defers:a.defers=[]
 size:a.tmps.size=N
 get:∀i,a.tmps.getD i undef=e i
theorem O{α:Sort _}{a:α}:a=a:=rfl
theorem jC.eval{N:Nat}{a:Act}{e:Env}(h:jC N a e):a.eval=ev e:=by
 funext x;cases x with
 | tmp t=>exact h.get t
 | const v=>rfl
 | global g=>rfl
 | func f=>rfl
theorem jC.put{N:Nat}{a:Act}{e:Env}(h:jC N a e){d:Nat}(hd:Nat.blt d N=true)(v:ad):jC N (a.put (some d) v) (bq e d v):=by
 have nM:d<a.tmps.size:=by rw [h.size];simpa [Nat.blt_eq]using hd
 refine⟨h.defers,by simp [Act.put,h.size],fun i=>?_⟩;simp only [Act.put,bq];rw [iR,vx]
 by_cases e1:d=i
 ·subst e1;simp [nM]
 ·have e2:Nat.beq i d=false:=by
   cases hb:Nat.beq i d with
   | false=>rfl
   | true=>exact absurd (oe hb).symm e1
  rw [aw e1,e2,<-iR,h.get]
  rfl
abbrev jB:=Exit->Env->aa->Prop
def low(N:Nat)(Q:jB):Exit->Act->aa->Prop:=fun x a w=>∃e,jC N a e/\Q x e w
structure Cd(P:Program)(N:Nat)(c:Code)(Q:jB)(e:Env)(w:aa):Prop where
 mk'::
 run:∀a,jC N a e->c.wp P (low N Q) a w
structure ao(P:Program)(N:Nat)(ops:Array Oper)(K:Env->aa->Prop)(l:List Oper)(e:Env)(w:aa):Prop where
 mk'::
 run:∀a,jC N a e->wpList P ops (fun x a w=>x= .normal/\∃e,jC N a e/\K e w) l a w
section
variable{x y:Code}{id:Nat}
variable {P:Program} {N:Nat} {Q:jB} {e:Env} {w:aa}
def zV(K:Env->aa->Prop)(Q:jB):jB
 | .normal,e,w=>K e w
 | x,e,w=>Q x e w
def IV(id:Nat)(Q:jB):jB
 | .exit Lq,e,w=>if Lq=id then Q .normal e w else Q (.exit Lq) e w
 | x,e,w=>Q x e w
theorem Cd.mono{c:Code}{Q':jB}(hq:∀x e w,Q x e w->Q' x e w)(h:Cd P N c Q e w):Cd P N c Q' e w:=
 .mk' fun a ha=>wp_mono (h.run a ha) fun _ _ _ ⟨e,he,q⟩=> ⟨e,he,hq _ _ _ q⟩
theorem Cd.seq(h:Cd P N x (zV (Cd P N y Q) Q) e w):Cd P N (.seq x y) Q e w:= .mk' fun a ha=>
 wp_seq (wp_mono (h.run a ha) fun ex a' w' ⟨e',td,q⟩=>by
  cases ex<;>first | exact q.run a' td | exact⟨e',td,q⟩)
theorem Cd.skip(h:Q .normal e w):Cd P N .skip Q e w:= .mk' fun a ha=>wp_skip ⟨e,ha,h⟩
theorem Cd.ret(h:Q .ret e w):Cd P N .ret Q e w:= .mk' fun a ha=>wp_ret ⟨e,ha,h⟩
theorem Cd.exit(h:Q (.exit id) e w):Cd P N (.exit id) Q e w:= .mk' fun a ha=>wp_exit ⟨e,ha,h⟩
theorem Cd.block{c:Code}(h:Cd P N c (IV id Q) e w):Cd P N (.block id c) Q e w:= .mk' fun a ha=>
 wp_block (wp_mono (h.run a ha) fun ex a' w' ⟨e',td,q⟩=>by
  cases ex<;>first
   | exact⟨e',td,q⟩
   | (
    rename_i Lq;simp only [IV]at q;simp only [Exit.inBlock]
    split
    ·rename_i hid;rw [ay hid]at q;exact⟨e',td,q⟩
    ·rename_i hid;rw [aw hid]at q;exact⟨e',td,q⟩))
theorem Cd.cond{c:ag}{t:Bool}(hc:ev e c= .bool t)(h1:t=true->Cd P N x Q e w)(h2:t=false->Cd P N y Q e w):Cd P N (.cond c x y) Q e w:= .mk' fun a ha=>
 wp_cond_split (t:=t) (by rw [ha.eval,hc]) (fun h=> (h1 h).run a ha) (fun h=> (h2 h).run a ha)
theorem Cd.jE{c:ag}(hc:ev e c= .bool true)(h1:Cd P N x Q e w):Cd P N (.cond c x y) Q e w:= .cond hc (fun _=>h1) (fun h=>by cases h)
theorem Cd.gh{c:ag}(hc:ev e c= .bool false)(h1:Cd P N y Q e w):Cd P N (.cond c x y) Q e w:= .cond hc (fun h=>by cases h) (fun _=>h1)
theorem aR{c:ag}(p:Prop)[Decidable p](hc:ev e c= .bool (decide p))(h1:p->Cd P N x Q e w)(h2:¬p->Cd P N y Q e w):Cd P N (.cond c x y) Q e w:=
 .cond hc (fun h=>h1 (uy h)) (fun h=>h2 (of_decide_eq_false h))
theorem Cd.region{l:List Oper}(h:ao P N l.toArray (fun e w=>Q .normal e w) l e w):Cd P N (.region id l.toArray false) Q e w:= .mk' fun a ha=>
 wp_mono (wp_region_lit (h.run a ha)) fun _ _ _ ⟨hx,e',td,q⟩=> ⟨e',td,by rw [hx];exact q⟩
def Mt(e:Env):List (Nat×ad)->Prop
 | []=>True
 | (i,v)::r=>e i=v/\Mt e r
theorem ajs{e:Env}:∀{l:List (Nat×Value)},l.map (fun p=>e p.1)=l.map (fun p=>p.2)->Mt e l
 | [],_=>True.intro
 | _::_,h=>⟨(List.cons.inj h).1,ajs (List.cons.inj h).2⟩
def ext(e:Env):List (Nat×ad)->Env
 | []=>e
 | (i,v)::r=>bq (ext e r) i v
theorem yE:∀ {l:List (Nat×ad)} {e:Env},Mt e l->ext e l=e
 | [],_,_=>rfl
 | (i,v)::r,e,h=>by
  show bq (ext e r) i v=e;rw [yE h.2];funext j;unfold bq;cases hb:Nat.beq j i with
  | false=>rfl
  | true=>rw [oe hb,h.1];rfl
theorem Cd.loop{α:Type}{c:Code}(F:α->List (Nat×ad))(I:α->aa->Prop)(m:α->Nat)(s0:α)(hF:Mt e (F s0))(hI:I s0 w)
 (round:∀s e w,I s w->Cd P N c (zV (fun e' w'=>∃s',m s'<m s/\Mt e' (F s')/\I s' w') Q) (ext e (F s)) w):Cd P N (.loop c) Q e w:=by
 have key:∀n s e w,m s=n->Mt e (F s)->I s w->∀a,jC N a e->(Code.loop c).wp P (low N Q) a w:=by
  intro n0 s e w hn hm J2 a ha
  let J:Act->aa->Prop:=fun a w=>∃s e,jC N a e/\Mt e (F s)/\I s w
  refine wp_loop_ghost (I:=fun n a w=>∃s e,m s=n/\jC N a e/\Mt e (F s)/\I s w) n0 ⟨s,e,hn,ha,hm,J2⟩ ?_;intro n a w ⟨s,e,hn,ha,hm,hI⟩;have h1:=round s e w hI;rw [yE hm]at h1;refine wp_mono (h1.run a ha) fun ex a' w' ⟨e',td,q⟩=>?_
  cases ex<;>first
   | exact⟨e',td,q⟩
   | (
    obtain⟨s',eO,iO,J2⟩:=q;exact⟨m s',by omega,s',e',O,td,iO,J2⟩)
 exact .mk' fun a ha=>key _ s0 e w O hF hI a ha
end
class bJ(P:Program)(t:ae)(d:outParam TypeDesc):Type where
 out:P.underlying t=some d
class bF(P:Program)(t:ae)(z:outParam ad)(size bytes:outParam Nat):Prop where
 out:(P.info? t).map (fun i=> (i.zero,i.size,i.bytes))=some (some z,size,bytes)
class bC(P:Program)(F:FuncId):Prop where
 out : ∃ fn, P.funcs[F]? = some fn /\ (fn.name == "runtime.NumGoroutine") = false /\ fn.body.isNone = false
theorem bF.get(P:Program)(t:ae){z:ad}{s b:Nat}[h:bF P t z s b]:∃i,P.info? t=some i/\i.zero=some z/\i.size=s/\i.bytes=b:=by
 obtain⟨i,hi,he⟩:=Option.map_eq_some_iff.1 h.out;simp only [Prod.mk.injEq]at he;exact⟨i,hi,he.1,he.2.1,he.2.2⟩
section
variable{j dj:Nat}{b want:Bool}{x:ag}
variable {P:Program} {N:Nat} {ops:Array Oper} {K:Env->aa->Prop} {rest:List Oper} {e:Env} {w w':aa} {d:Nat} {ty:ae} {pos:String} {af:Array Edge}
theorem ao.n(h:K e w):ao P N ops K [] e w:= .mk' fun a ha=>wpList_nil ⟨rfl,e,ha,h⟩
theorem ao.val{op:Op}{v:ad}(hr:(execOp (ev e) ⟨some d,op,ty,pos,af,none⟩).run P w= .ok (.value v) w')(hb:Nat.blt d N=true)(hK:ao P N ops K rest (bq e d v) w'):
 ao P N ops K (⟨some d,op,ty,pos,af,none⟩::rest) e w:= .mk' fun a ha=>by
 refine wpList_plain O fun J hJ=>?_
 unfold Oper.wp;rw [ha.eval,hr];exact hJ _ _ (hK.run _ (ha.put hb v))
theorem ao.unit{op:Op}(hr:(execOp (ev e) ⟨none,op,ty,pos,af,none⟩).run P w= .ok .skip w')(hK:ao P N ops K rest e w'):
 ao P N ops K (⟨none,op,ty,pos,af,none⟩::rest) e w:= .mk' fun a ha=>by
 refine wpList_plain O fun J hJ=>?_
 unfold Oper.wp;rw [ha.eval,hr];exact hJ _ _ (hK.run _ ha)
theorem ao.ahA{op:Op}{v:ad}(hr:(execOp (ev e) ⟨none,op,ty,pos,af,none⟩).run P w= .ok (.value v) w')(hK:ao P N ops K rest e w'):
 ao P N ops K (⟨none,op,ty,pos,af,none⟩::rest) e w:= .mk' fun a ha=>by
 refine wpList_plain O fun J hJ=>?_
 unfold Oper.wp;rw [ha.eval,hr];exact hJ _ _ (hK.run _ ha)
theorem Ur{a:Act}(ha:jC N a e)(hj:(ops[j]?).bind (·.dst)=some dj)(eO:Nat.blt dj N=true)(hv:e dj= .bool b):yielded ops a.tmps j=some b:=by
 have h1:dj<a.tmps.size:=by rw [ha.size];simpa [Nat.blt_eq]using eO
 have h2:=ha.get dj;rw [iR,qF h1,Option.getD_some,hv]at h2;simp [yielded,hj,qF h1,h2]
theorem ajf{o:Option Tmp}{op:Op}(hj:(ops[j]?).bind (·.dst)=some dj)(eO:Nat.blt dj N=true)(hv:e dj= .bool want)(hK:ao P N ops K (⟨o,op,ty,pos,af,none⟩::rest) e w):ao P N ops K (⟨o,op,ty,pos,af,some (j,want)⟩::rest) e w:= .mk' fun a ha=>by
 have h:=hK.run a ha;have hy:=Ur (ops:=ops) ha hj eO hv;have hw:Region.wanted (⟨o,op,ty,pos,af,some (j,want)⟩:Oper) (yielded ops a.tmps)=true:=by
  simp [Region.wanted,hy]
 unfold wpList at h|-;rw [ay hw];rw [ay (show Region.wanted (⟨o,op,ty,pos,af,none⟩:Oper) (yielded ops a.tmps)=true from rfl)]at h;exact h
theorem ax{o:Option Tmp}{op:Op}(q9:((ops[j]?).bind (·.dst),Nat.blt dj N,e dj)=(some dj,true,.bool want))(hK:ao P N ops K (⟨o,op,ty,pos,af,none⟩::rest) e w):ao P N ops K (⟨o,op,ty,pos,af,some (j,want)⟩::rest) e w:=ajf (congrArg (fun p=>p.1) q9) (congrArg (fun p=>p.2.1) q9) (congrArg (fun p=>p.2.2) q9) hK
theorem ajg{op:Op}(hj:(ops[j]?).bind (·.dst)=some dj)(eO:Nat.blt dj N=true)(hv:e dj= .bool b)(bt:(b==want)=false)(hb:Nat.blt d N=true)(hK:ao P N ops K rest (bq e d undef) w):ao P N ops K (⟨some d,op,ty,pos,af,some (j,want)⟩::rest) e w:= .mk' fun a ha=>by
 have hy:=Ur (ops:=ops) ha hj eO hv;refine wpList_skip ?_ (hK.run _ (ha.put hb undef));simp only [Region.wanted];rw [hy];simpa using bt
theorem aQ{op:Op}(q9:((ops[j]?).bind (·.dst),Nat.blt dj N,e dj,(b==want),Nat.blt d N)=(some dj,true,.bool b,false,true))(hK:ao P N ops K rest (bq e d undef) w):ao P N ops K (⟨some d,op,ty,pos,af,some (j,want)⟩::rest) e w:=ajg (congrArg (fun p=>p.1) q9) (congrArg (fun p=>p.2.1) q9) (congrArg (fun p=>p.2.2.1) q9) (congrArg (fun p=>p.2.2.2.1) q9) (congrArg (fun p=>p.2.2.2.2) q9) hK
theorem fm{op:Op}(hj:(ops[j]?).bind (·.dst)=some dj)(eO:Nat.blt dj N=true)(hv:e dj=undef)(hb:Nat.blt d N=true)(hK:ao P N ops K rest (bq e d undef) w):ao P N ops K (⟨some d,op,ty,pos,af,some (j,want)⟩::rest) e w:= .mk' fun a ha=>by
 refine wpList_skip ?_ (hK.run _ (ha.put hb undef));have h1:dj<a.tmps.size:=by rw [ha.size];simpa [Nat.blt_eq]using eO
 have h2:=ha.get dj;rw [iR,qF h1,Option.getD_some,hv]at h2;simp [Region.wanted,yielded,hj,qF h1,h2,undef]
theorem Uj{e:Env}{d:Nat}{v:ad}(h:e d=v):bq e d v=e:=by
 funext j;unfold bq;cases hb:Nat.beq j d with
 | false=>rfl
 | true=>rw [oe hb,h];rfl
theorem ao.split{l:List Oper}(d:Nat)(hv:e d= .bool b)(h1:b=true->ao P N ops K l (bq e d (.bool true)) w)(h2:b=false->ao P N ops K l (bq e d (.bool false)) w):ao P N ops K l e w:=by
 cases b
 ·have:=h2 O;rwa [Uj hv]at this
 have:=h1 O;rwa [Uj hv]at this
theorem dp{l:List Oper}(d:Nat){p:Prop}[Decidable p](hv:e d= .bool (decide p))(h1:p->ao P N ops K l (bq e d (.bool true)) w)(h2:¬p->ao P N ops K l (bq e d (.bool false)) w):ao P N ops K l e w:=
 .split d hv (fun h=>h1 (uy h)) (fun h=>h2 (of_decide_eq_false h))
def Cp:Op->Option ag
 | .move x=>some x
 | .assign x=>some x
 | _=>none
theorem aga{op:Op}(h:Cp op=some x):(execOp (ev e) ⟨some d,op,ty,pos,af,none⟩).run P w= .ok (.value (ev e x)) w:=by
 cases op<;>simp [Cp]at h<;>subst h<;>rfl
theorem ao.mv{op:Op}{v:ad}(tl:Cp op=some x)(hx:ev e x=v)(hb:Nat.blt d N=true)(hK:ao P N ops K rest (bq e d v) w):ao P N ops K (⟨some d,op,ty,pos,af,none⟩::rest) e w:=
 .val (by rw [aga tl,hx]) hb hK
theorem Ae{op:Op}{k:IntKind}{i:Int}(tl:Cp op=some x)(hx:ev e x= .int k i)(hb:Nat.blt d N=true)(hK:ao P N ops K rest (bq e d (.int k i)) w):ao P N ops K (⟨some d,op,ty,pos,af,none⟩::rest) e w:= .mv tl hx hb hK
theorem tJ{op:Op}{A:aj}{n c:Nat}(tl:Cp op=some x)(hx:ev e x= .slice A n c)(hb:Nat.blt d N=true)(hK:ao P N ops K rest (bq e d (.slice A n c)) w):ao P N ops K (⟨some d,op,ty,pos,af,none⟩::rest) e w:= .mv tl hx hb hK
theorem M1{op:Op}{cs:Array ad}(tl:Cp op=some x)(hx:ev e x= .tuple cs)(hb:Nat.blt d N=true)(hK:ao P N ops K rest (bq e d (.tuple cs)) w):ao P N ops K (⟨some d,op,ty,pos,af,none⟩::rest) e w:= .mv tl hx hb hK
section
variable{k:IntKind}{b:Bool}
variable {x y:ag} {xt yt:ae} {i j:Int}
theorem ajl(hx:ev e x=ak i)(hy:ev e y=ak j)(hb:Nat.blt d N=true)(hr: -9223372036854775808<=i+j/\i+j<=9223372036854775807)(hK:ao P N ops K rest (bq e d (ak (i+j))) w):
 ao P N ops K (⟨some d,.binOp .add xt x y yt,ty,pos,af,none⟩::rest) e w:=
 .val (by simp [execOp,hx,hy,eqGuard,binOp,Op.intArith,IntWalk.i64_in _ hr]) hb hK
theorem aK(q9:(ev e x,ev e y,Nat.blt d N)=(ak i,ak j,true))(hK:ao P N ops K rest (bq e d (ak (i+j))) w)(hr:-9223372036854775808<=i+j/\i+j<=9223372036854775807:=by omega):ao P N ops K (⟨some d,.binOp .add xt x y yt,ty,pos,af,none⟩::rest) e w:=ajl (congrArg (fun p=>p.1) q9) (congrArg (fun p=>p.2.1) q9) (congrArg (fun p=>p.2.2) q9) hr hK
theorem ajk(hx:ev e x=ak i)(hy:ev e y=ak j)(hb:Nat.blt d N=true)(hr: -9223372036854775808<=i - j/\i - j<=9223372036854775807)(hK:ao P N ops K rest (bq e d (ak (i - j))) w):
 ao P N ops K (⟨some d,.binOp .sub xt x y yt,ty,pos,af,none⟩::rest) e w:=
 .val (by simp [execOp,hx,hy,eqGuard,binOp,Op.intArith,IntWalk.i64_in _ hr]) hb hK
theorem dQ(q9:(ev e x,ev e y,Nat.blt d N)=(ak i,ak j,true))(hK:ao P N ops K rest (bq e d (ak (i - j))) w)(hr:-9223372036854775808<=i - j/\i - j<=9223372036854775807:=by omega):ao P N ops K (⟨some d,.binOp .sub xt x y yt,ty,pos,af,none⟩::rest) e w:=ajk (congrArg (fun p=>p.1) q9) (congrArg (fun p=>p.2.1) q9) (congrArg (fun p=>p.2.2) q9) hr hK
theorem po(hx:ev e x=ak i)(hy:ev e y=ak j)(hb:Nat.blt d N=true)(hr: -9223372036854775808<=i*j/\i*j<=9223372036854775807)(hK:ao P N ops K rest (bq e d (ak (i*j))) w):
 ao P N ops K (⟨some d,.binOp .mul xt x y yt,ty,pos,af,none⟩::rest) e w:=
 .val (by simp [execOp,hx,hy,eqGuard,binOp,Op.intArith,IntWalk.i64_in _ hr]) hb hK
theorem ao.quo(hx:ev e x=ak i)(hy:ev e y=ak j)(hb:Nat.blt d N=true)(hr:0<=i/\i<=9223372036854775807/\1<=j)(hK:ao P N ops K rest (bq e d (ak (i / j))) w):
 ao P N ops K (⟨some d,.binOp .quo xt x y yt,ty,pos,af,none⟩::rest) e w:=
 .val (by simp [execOp,hx,hy,eqGuard,binOp,Op.intDiv,IntWalk.i64_quo _ _ hr,show j≠0 by omega]) hb hK
theorem ao.rem(hx:ev e x=ak i)(hy:ev e y=ak j)(hb:Nat.blt d N=true)(hr:0<=i/\1<=j)(hK:ao P N ops K rest (bq e d (ak (i%j))) w):
 ao P N ops K (⟨some d,.binOp .rem xt x y yt,ty,pos,af,none⟩::rest) e w:=
 .val (by simp [execOp,hx,hy,eqGuard,binOp,Op.intDiv,Int.tmod_eq_emod_of_nonneg hr.1,show j≠0 by omega]) hb hK
theorem ao.lss(hx:ev e x= .int k i)(hy:ev e y= .int k j)(hb:Nat.blt d N=true)(hK:ao P N ops K rest (bq e d (.bool (decide (i<j)))) w):
 ao P N ops K (⟨some d,.binOp .lss xt x y yt,ty,pos,af,none⟩::rest) e w:= .val (by simp [execOp,hx,hy,eqGuard,binOp,Op.intCmp]) hb hK
theorem ao.leq(hx:ev e x= .int k i)(hy:ev e y= .int k j)(hb:Nat.blt d N=true)(hK:ao P N ops K rest (bq e d (.bool (decide (i<=j)))) w):
 ao P N ops K (⟨some d,.binOp .leq xt x y yt,ty,pos,af,none⟩::rest) e w:= .val (by simp [execOp,hx,hy,eqGuard,binOp,Op.intCmp]) hb hK
theorem ao.gtr(hx:ev e x= .int k i)(hy:ev e y= .int k j)(hb:Nat.blt d N=true)(hK:ao P N ops K rest (bq e d (.bool (decide (j<i)))) w):
 ao P N ops K (⟨some d,.binOp .gtr xt x y yt,ty,pos,af,none⟩::rest) e w:= .val (by simp [execOp,hx,hy,eqGuard,binOp,Op.intCmp]) hb hK
theorem ao.geq(hx:ev e x= .int k i)(hy:ev e y= .int k j)(hb:Nat.blt d N=true)(hK:ao P N ops K rest (bq e d (.bool (decide (j<=i)))) w):
 ao P N ops K (⟨some d,.binOp .geq xt x y yt,ty,pos,af,none⟩::rest) e w:= .val (by simp [execOp,hx,hy,eqGuard,binOp,Op.intCmp]) hb hK
theorem V7(i j:Int):(i==j)=decide (i=j):=by by_cases h:i=j<;>simp [h]
theorem Wf(i j:Int):(i !=j)=decide (¬i=j):=by by_cases h:i=j<;>simp [h]
theorem ao.eql(hx:ev e x= .int k i)(hy:ev e y= .int k j)(hb:Nat.blt d N=true)(hK:ao P N ops K rest (bq e d (.bool (decide (i=j)))) w):
 ao P N ops K (⟨some d,.binOp .eql xt x y yt,ty,pos,af,none⟩::rest) e w:= .val (by rw [<-V7];simp [execOp,hx,hy,eqGuard,binOp,Op.intCmp]) hb hK
theorem ao.neq(hx:ev e x= .int k i)(hy:ev e y= .int k j)(hb:Nat.blt d N=true)(hK:ao P N ops K rest (bq e d (.bool (decide (¬i=j)))) w):
 ao P N ops K (⟨some d,.binOp .neq xt x y yt,ty,pos,af,none⟩::rest) e w:= .val (by rw [<-Wf];simp [execOp,hx,hy,eqGuard,binOp,Op.intCmp]) hb hK
theorem eU(hx:ev e x= .bool b)(hb:Nat.blt d N=true)(hK:ao P N ops K rest (bq e d (.bool (!b))) w):
 ao P N ops K (⟨some d,.unOp .not xt x,ty,pos,af,none⟩::rest) e w:= .val (by simp [execOp,hx,Op.unary]) hb hK
theorem eA{p:Prop}[Decidable p](hx:ev e x= .bool (decide p))(hb:Nat.blt d N=true)(hK:ao P N ops K rest (bq e d (.bool (decide ¬p))) w):
 ao P N ops K (⟨some d,.unOp .not xt x,ty,pos,af,none⟩::rest) e w:= .val (by simp [execOp,hx,Op.unary]) hb hK
theorem ao.aeR{c:ag}(hc:ev e c= .bool true)(hx:ev e x= .bool b)(hb:Nat.blt d N=true)(hK:ao P N ops K rest (bq e d (.bool b)) w):
 ao P N ops K (⟨some d,.pick c x y,ty,pos,af,none⟩::rest) e w:= .val (by simp [execOp,hc,hx,asBool]) hb hK
theorem ao.aeQ{c:ag}(hc:ev e c= .bool false)(hx:ev e y= .bool b)(hb:Nat.blt d N=true)(hK:ao P N ops K rest (bq e d (.bool b)) w):
 ao P N ops K (⟨some d,.pick c x y,ty,pos,af,none⟩::rest) e w:= .val (by simp [execOp,hc,hx,asBool]) hb hK
end
theorem ao.extract{x:ag}{vs:Array ad}{ix:Nat}{v:ad}(hx:ev e x= .tuple vs)(hv:vs[ix]?=some v)(hb:Nat.blt d N=true)(hK:ao P N ops K rest (bq e d v) w):
 ao P N ops K (⟨some d,.extract x ix,ty,pos,af,none⟩::rest) e w:= .val (by simp [execOp,hx,Instr.extract,hv]) hb hK
theorem bc{x:ag}{t el:ae}{A:aj}{n c:Nat}[bJ P t (.slice el)](hx:ev e x= .slice A n c)(hb:Nat.blt d N=true)(hK:ao P N ops K rest (bq e d (ak n)) w):
 ao P N ops K (⟨some d,.call ⟨.builtin .len, #[x], #[t]⟩,ty,pos,af,none⟩::rest) e w:=
 .val (by simp [execOp,resolve,invoke,builtin,Builtin.len_,hx,run_underlying (bJ.out (P:=P) (t:=t)),goInt]) hb hK
theorem ao.aep{x:ag}{a:Addr}(hx:ev e x= .pointer (some a))(hb:Nat.blt d N=true)(hK:ao P N ops K rest (bq e d (.pointer (some a))) w):
 ao P N ops K (⟨some d,.nilCheck x,ty,pos,af,none⟩::rest) e w:= .val (by simp [execOp,hx]) hb hK
def aG(P:Program)(F:FuncId)(vs:List ad)(w:aa)(R:ad->aa->Prop):Prop:=Calls P F vs.toArray w fun x w'=>∃v,x= .returned v/\R v w'
theorem aG.mono{F:FuncId}{vs:List ad}{R R':ad->aa->Prop}(h:aG P F vs w R)(hR:∀v w',R v w'->R' v w'):aG P F vs w R':=
 Calls.mono h fun _ _ ⟨v,he,hv⟩=> ⟨v,he,hR _ _ hv⟩
theorem ajj{f:ag}{F:FuncId}{c2:Array ad}{l:List ag}{vs:List ad}{R:ad->aa->Prop}{Nl:Array ae}[hF:bC P F](hC:aG P F vs w R)(hf:ev e f= .func (.func F) #[] c2)(hv:l.map (ev e)++c2.toList=vs)(hb:Nat.blt d N=true)(hK:∀v w',R v w'->ao P N ops K rest (bq e d v) w'):ao P N ops K (⟨some d,.call ⟨.value f,l.toArray,Nl⟩,ty,pos,af,none⟩::rest) e w:= .mk' fun a ha=>by
 obtain⟨fn,h1,h2,h3⟩:=hF.out;have qm:(execOp (ev e) ⟨some d,.call ⟨.value f,l.toArray,Nl⟩,ty,pos,af,none⟩).run P w= .ok (.enter F vs.toArray) w:=by
  have h4:(l.toArray.map (ev e)++c2)=vs.toArray:=by
   rw [<-hv];simp
  have h5 : ¬ fn.name = "runtime.NumGoroutine" := by simpa using h2
  have h6:¬fn.body=none:=by intro h;rw [h]at h3;cases h3
  simp [execOp,resolve,hf,Deferred.ofValue,invoke,callFunc,h1,h5,h6];exact hv
 refine wpList_plain O fun J hJ=>?_
 unfold Oper.wp;rw [ha.eval,qm];refine Calls.mono hC fun x w' ⟨v,hx,hR⟩=>?_
 subst hx;exact hJ _ _ ((hK v w' hR).run _ (ha.put hb v))
theorem aL{f:ag}{F:FuncId}{c2:Array ad}{l:List ag}{vs:List ad}{R:ad->aa->Prop}{Nl:Array ae}[hF:bC P F](hC:aG P F vs w R)(q9:(ev e f,l.map (ev e)++c2.toList,Nat.blt d N)=(.func (.func F) #[] c2,vs,true))(hK:∀v w',R v w'->ao P N ops K rest (bq e d v) w'):ao P N ops K (⟨some d,.call ⟨.value f,l.toArray,Nl⟩,ty,pos,af,none⟩::rest) e w:=ajj hC (congrArg (fun p=>p.1) q9) (congrArg (fun p=>p.2.1) q9) (congrArg (fun p=>p.2.2) q9) hK
theorem tQ{K:Env->aa->Prop}{Q:jB}(h:K e w):zV K Q .normal e w:=h
theorem gx{K:Env->aa->Prop}{Q:jB}(h:Q .ret e w):zV K Q .ret e w:=h
theorem bz{K:Env->aa->Prop}{Q:jB}{id:Nat}(h:Q (.exit id) e w):zV K Q (.exit id) e w:=h
def IJ(vs:List ad):Env:=fun i=>vs.getD i undef
def L7(R:ad->aa->Prop):jB
 | .normal,_,w=>R (.tuple #[]) w
 | .ret,_,w=>R (.tuple #[]) w
 | _,_,_=>False
def ER(t:Nat)(R:ad->aa->Prop):jB
 | .normal,e,w=>R (e t) w
 | .ret,e,w=>R (e t) w
 | _,_,_=>False
def Cw(t u:Nat)(R:ad->aa->Prop):jB
 | .normal,e,w=>R (.tuple #[e t,e u]) w
 | .ret,e,w=>R (.tuple #[e t,e u]) w
 | _,_,_=>False
theorem afK(vs:List ad)(n:Nat)(h:Nat.ble vs.length n=true):jC n ⟨vs.toArray++Array.replicate (n - vs.toArray.size) undef,[]⟩ (IJ vs):=by
 have h':vs.length<=n:=by simpa using h
 refine⟨O,by simp;omega,fun i=>?_⟩;simp only [IJ];rw [iR,cN,Array.getElem?_append]
 split
 ·simp
 rename_i hi;simp at hi;rw [mF hi,Array.getElem?_replicate]
 split<;>rfl
theorem dK{R:ad->aa->Prop}{t:Nat}{b:Bool}(h:e t= .bool b)(hR:R (.bool b) w):ER t R .ret e w:=by show R (e t) w;rw [h];exact hR
theorem gY{R:ad->aa->Prop}{t:Nat}{k:IntKind}{i:Int}(h:e t= .int k i)(hR:R (.int k i) w):ER t R .ret e w:=by show R (e t) w;rw [h];exact hR
theorem gD{R:ad->aa->Prop}{t:Nat}{A:aj}{n c:Nat}(h:e t= .slice A n c)(hR:R (.slice A n c) w):ER t R .ret e w:=by show R (e t) w;rw [h];exact hR
theorem L9{R:ad->aa->Prop}{t:Nat}{v:ad}(h:e t=v)(hR:R v w):ER t R .ret e w:=by show R (e t) w;rw [h];exact hR
theorem L8{R:ad->aa->Prop}(hR:R (.tuple #[]) w):L7 R .ret e w:=hR
theorem wI{R:ad->aa->Prop}(hR:R (.tuple #[]) w):L7 R .normal e w:=hR
theorem zN{R:ad->aa->Prop}{t u:Nat}{A:aj}{n c:Nat}{k:IntKind}{i:Int}(h:e t= .slice A n c)(h2:e u= .int k i)(hR:R (.tuple #[.slice A n c,.int k i]) w):Cw t u R .ret e w:=by show R (.tuple #[e t,e u]) w;rw [h,h2];exact hR
theorem Tm{R:ad->aa->Prop}{t u:Nat}{k':IntKind}{j:Int}{k:IntKind}{i:Int}(h:e t= .int k' j)(h2:e u= .int k i)(hR:R (.tuple #[.int k' j,.int k i]) w):Cw t u R .ret e w:=by show R (.tuple #[e t,e u]) w;rw [h,h2];exact hR
theorem Cx{R:ad->aa->Prop}{t u:Nat}{b:Bool}{k:IntKind}{i:Int}(h:e t= .bool b)(h2:e u= .int k i)(hR:R (.tuple #[.bool b,.int k i]) w):Cw t u R .ret e w:=by show R (.tuple #[e t,e u]) w;rw [h,h2];exact hR
theorem Tn{R:ad->aa->Prop}{t u:Nat}{A:aj}{n c:Nat}{b:Bool}(h:e t= .slice A n c)(h2:e u= .bool b)(hR:R (.tuple #[.slice A n c,.bool b]) w):Cw t u R .ret e w:=by show R (.tuple #[e t,e u]) w;rw [h,h2];exact hR
theorem bA{F:FuncId}{fn:Func}{c:Code}{vs:List ad}{R:ad->aa->Prop}{Q:jB}(hf:P.funcs[F]?=some fn)(hc:fn.body=some c)(hn:fn.ntmps=N)(hl:Nat.ble vs.length N=true)(hQ:∀x a e w,jC N a e->Q x e w->bodyPost P fn (fun x w'=>∃v,x= .returned v/\R v w') x a w)(h:Cd P N c Q (IJ vs) w):aG P F vs w R:=by
 subst hn;exact calls_of_wp hf hc (wp_mono (h.run _ (afK vs _ hl)) fun x a w ⟨e,he,q⟩=>hQ x a e w he q)
theorem zJ{fn:Func}{R:ad->aa->Prop}(hr:fn.results= #[]):∀x a e w,jC N a e->L7 R x e w->bodyPost P fn (fun x w'=>∃v,x= .returned v/\R v w') x a w:=by
 intro x a e w he q;cases x<;>first
  | exact q.elim
  | exact⟨he.defers,_,results_none hr _ _ _,_,rfl,q⟩
theorem cJ{fn:Func}{R:ad->aa->Prop}{t:Nat}(hr:fn.results= #[.tmp t]):∀x a e w,jC N a e->ER t R x e w->bodyPost P fn (fun x w'=>∃v,x= .returned v/\R v w') x a w:=by
 intro x a e w he q;have hg:=he.get t;cases x<;>first
  | exact q.elim
  | exact⟨he.defers,_,results_tmp hr _ _ _,_,rfl,by rw [hg];exact q⟩
theorem rA{fn:Func}{R:ad->aa->Prop}{t u:Nat}(hr:fn.results= #[.tmp t,.tmp u]):∀x a e w,jC N a e->Cw t u R x e w->bodyPost P fn (fun x w'=>∃v,x= .returned v/\R v w') x a w:=by
 intro x a e w he q;have hg:=he.get t;have hh:=he.get u;cases x<;>first
  | exact q.elim
  | exact⟨he.defers,_,results_tmp2 hr _ _ _,_,rfl,by rw [hg,hh];exact q⟩
end
def hd:ad->Option ad
 | .int k n=>some (.int k n)
 | .slice a n c=>some (.slice a n c)
 | .bool b=>some (.bool b)
 | .pointer a=>some (.pointer a)
 | .agg cs=>some (.agg cs)
 | .func f a b=>some (.func f a b)
 | .tuple cs=>some (.tuple cs)
 | .string s=>some (.string s)
 | .map r=>some (.map r)
 | _=>none
theorem Kq{v u:ad}(h:hd v=some u):v=u:=by cases v<;>simp [hd]at h<;>exact h
def LI(e:Env)(x y:ag):Option ad:=
 match ev e x,ev e y with
 | .int .i64 a,.int .i64 b=>some (.bool (decide (a<b)))
 | _,_=>none
theorem adK{e:Env}{x y:ag}{v:ad}(h:LI e x y=some v):∃a b,ev e x=ak a/\ev e y=ak b/\v= .bool (decide (a<b)):=by
 unfold LI at h
 split at h
 ·rename_i a b h1 h2;exact⟨a,b,h1,h2,(oh h).symm⟩
 cases h
def LD(e:Env)(x y:ag):Option ad:=
 match ev e x,ev e y with
 | .int .i64 a,.int .i64 b=>some (.bool (decide (a<=b)))
 | _,_=>none
theorem adp{e:Env}{x y:ag}{v:ad}(h:LD e x y=some v):∃a b,ev e x=ak a/\ev e y=ak b/\v= .bool (decide (a<=b)):=by
 unfold LD at h
 split at h
 ·rename_i a b h1 h2;exact⟨a,b,h1,h2,(oh h).symm⟩
 cases h
def JM(e:Env)(x y:ag):Option ad:=
 match ev e x,ev e y with
 | .int .i64 a,.int .i64 b=>some (.bool (decide (b<a)))
 | _,_=>none
theorem Yy{e:Env}{x y:ag}{v:ad}(h:JM e x y=some v):∃a b,ev e x=ak a/\ev e y=ak b/\v= .bool (decide (b<a)):=by
 unfold JM at h
 split at h
 ·rename_i a b h1 h2;exact⟨a,b,h1,h2,(oh h).symm⟩
 cases h
def JA(e:Env)(x y:ag):Option ad:=
 match ev e x,ev e y with
 | .int .i64 a,.int .i64 b=>some (.bool (decide (b<=a)))
 | _,_=>none
theorem Yg{e:Env}{x y:ag}{v:ad}(h:JA e x y=some v):∃a b,ev e x=ak a/\ev e y=ak b/\v= .bool (decide (b<=a)):=by
 unfold JA at h
 split at h
 ·rename_i a b h1 h2;exact⟨a,b,h1,h2,(oh h).symm⟩
 cases h
def Jm(e:Env)(x y:ag):Option ad:=
 match ev e x,ev e y with
 | .int .i64 a,.int .i64 b=>some (.bool (decide (a=b)))
 | _,_=>none
theorem Xs{e:Env}{x y:ag}{v:ad}(h:Jm e x y=some v):∃a b,ev e x=ak a/\ev e y=ak b/\v= .bool (decide (a=b)):=by
 unfold Jm at h
 split at h
 ·rename_i a b h1 h2;exact⟨a,b,h1,h2,(oh h).symm⟩
 cases h
def LU(e:Env)(x y:ag):Option ad:=
 match ev e x,ev e y with
 | .int .i64 a,.int .i64 b=>some (.bool (decide (¬a=b)))
 | _,_=>none
theorem aen{e:Env}{x y:ag}{v:ad}(h:LU e x y=some v):∃a b,ev e x=ak a/\ev e y=ak b/\v= .bool (decide (¬a=b)):=by
 unfold LU at h
 split at h
 ·rename_i a b h1 h2;exact⟨a,b,h1,h2,(oh h).symm⟩
 cases h
def Mm(e:Env):Op->Option ad
 | .move x=>hd (ev e x)
 | .assign x=>hd (ev e x)
 | .binOp .lss _ x y _=>LI e x y
 | .binOp .leq _ x y _=>LD e x y
 | .binOp .gtr _ x y _=>JM e x y
 | .binOp .geq _ x y _=>JA e x y
 | .binOp .eql _ x y _=>Jm e x y
 | .binOp .neq _ x y _=>LU e x y
 | .extract x i=>match ev e x with
  | .tuple vs=> (match vs[i]? with
   | some v=>hd v
   | none=>none)
  | _=>none
 | .pick c x y=>match ev e c with
  | .bool true=> (match ev e x with
   | .bool b=>some (.bool b)
   | _=>none)
  | .bool false=> (match ev e y with
   | .bool b=>some (.bool b)
   | _=>none)
  | _=>none
 | _=>none
def sI(N:Nat)(e:Env)(o:Oper):Option (Nat×ad):=
 match o.guard,o.dst with
 | none,some d=> (match Nat.blt d N with
  | true=> (match Mm e o.op with
   | some v=>some (d,v)
   | none=>none)
  | false=>none)
 | _,_=>none
def Aq(N:Nat):List Oper->Env->List Oper×Env
 | [],e=> ([],e)
 | o::l,e=>match sI N e o with
  | some (d,v)=>Aq N l (bq e d v)
  | none=> (o::l,e)
section
variable {P:Program} {N:Nat} {ops:Array Oper} {K:Env->aa->Prop} {e:Env} {w:aa}
theorem ao.sI{o:Oper}{l:List Oper}{d:Nat}{v:ad}(h:sI N e o=some (d,v))(hK:ao P N ops K l (bq e d v) w):ao P N ops K (o::l) e w:=by
 obtain⟨dst,op,ty,pos,af,gd⟩:=o;unfold Vc.sI at h
 split at h
 ·rename_i d' hg nM;simp only at hg nM;subst hg nM
  split at h
  ·rename_i hb
   split at h
   ·rename_i v' hv;simp only [oO,Prod.mk.injEq]at h;obtain⟨rfl,rfl⟩:=h;replace hv:Mm e op=some v':=hv;unfold Mm at hv
    split at hv
    ·exact .mv O (Kq hv) hb hK
    ·exact .mv O (Kq hv) hb hK
    ·obtain⟨a,b,h1,h2,rfl⟩:=adK hv;exact .lss h1 h2 hb hK
    ·obtain⟨a,b,h1,h2,rfl⟩:=adp hv;exact .leq h1 h2 hb hK
    ·obtain⟨a,b,h1,h2,rfl⟩:=Yy hv;exact .gtr h1 h2 hb hK
    ·obtain⟨a,b,h1,h2,rfl⟩:=Yg hv;exact .geq h1 h2 hb hK
    ·obtain⟨a,b,h1,h2,rfl⟩:=Xs hv;exact .eql h1 h2 hb hK
    ·obtain⟨a,b,h1,h2,rfl⟩:=aen hv;exact .neq h1 h2 hb hK
    ·split at hv
     ·rename_i h1
      split at hv
      ·rename_i h2;exact .extract h1 (by rw [h2,Kq hv]) hb hK
      cases hv
     cases hv
    ·split at hv
     ·rename_i h1
      split at hv
      ·rename_i b h2;obtain rfl:=oh hv;exact .aeR h1 h2 hb hK
      cases hv
     ·rename_i h1
      split at hv
      ·rename_i b h2;obtain rfl:=oh hv;exact .aeQ h1 h2 hb hK
      cases hv
     cases hv
    cases hv
   cases h
  cases h
 cases h
theorem ID:∀ {l:List Oper} {e:Env},ao P N ops K (Aq N l e).1 (Aq N l e).2 w->ao P N ops K l e w
 | [],_,h=>h
 | o::l,e,h=>by
  unfold Aq at h
  split at h
  ·rename_i d v hs;exact .sI hs (ID h)
  ·exact h
end
inductive Fr where
 | s (c:Code)
 | b (id:Nat)
def Qk(P:Program)(N:Nat)(Q:jB):List Fr->jB
 | []=>Q
 | .s y::r=>zV (Cd P N y (Qk P N Q r)) (Qk P N Q r)
 | .b id::r=>IV id (Qk P N Q r)
def Cr:List Fr->Option (Code×List Fr)
 | []=>none
 | .s y::r=>some (y,r)
 | .b _::r=>Cr r
def Cs(id:Nat):List Fr->Option (List Fr)
 | []=>none
 | .s _::r=>Cs id r
 | .b i::r=>match Nat.beq id i with
  | true=>some r
  | false=>Cs id r
inductive Ak where
 | c (c:Code) (s:List Fr) (e:Env)
 | o (ops:Array Oper) (l:List Oper) (s:List Fr) (e:Env)
 | n (e:Env)
 | r (e:Env)
 | x (id:Nat) (e:Env)
def Ak.ok(P:Program)(N:Nat)(Q:jB)(w:aa):Ak->Prop
 | .c y s e=>Cd P N y (Qk P N Q s) e w
 | .o ops l s e=>ao P N ops (fun e w=>Qk P N Q s .normal e w) l e w
 | .n e=>Q .normal e w
 | .r e=>Q .ret e w
 | .x id e=>Q (.exit id) e w
def run(N:Nat):Nat->Code->List Fr->Env->Ak
 | 0,c,s,e=> .c c s e
 | n+1,c,s,e=>match c with
  | .seq x y=>run N n x (.s y::s) e
  | .block id x=>run N n x (.b id::s) e
  | .region id ops dr=>match dr with
   | true=> .c (.region id ops true) s e
   | false=>match Aq N ops.toList e with
    | ([],e')=> (match Cr s with
     | none=> .n e'
     | some (y,r)=>run N n y r e')
    | (o::l,e')=> .o ops (o::l) s e'
  | .skip=> (match Cr s with
   | none=> .n e
   | some (y,r)=>run N n y r e)
  | .ret=> .r e
  | .exit id=> (match Cs id s with
   | none=> .x id e
   | some s'=> (match Cr s' with
    | none=> .n e
    | some (y,r)=>run N n y r e))
  | c=> .c c s e
def runN(N n:Nat)(s:List Fr)(e:Env):Ak:=match Cr s with
 | none=> .n e
 | some (y,r)=>run N n y r e
def CB(N n id:Nat)(s:List Fr)(e:Env):Ak:=match Cs id s with
 | none=> .x id e
 | some s'=>runN N n s' e
def zR(N n:Nat)(ops:Array Oper)(l:List Oper)(s:List Fr)(e:Env):Ak:=match Aq N l e with
 | ([],e')=>runN N n s e'
 | (o::l,e')=> .o ops (o::l) s e'
section
variable{id i1 i:Nat}{ops o1:Array Oper}{s1:List Fr}{c1:Code}
variable {P:Program} {N:Nat} {Q:jB} {e:Env} {w:aa}
theorem EL:∀ {s:List Fr},(match Cr s with | none=>Q .normal e w | some (y,r)=>Cd P N y (Qk P N Q r) e w)->Qk P N Q s .normal e w
 | [],h=>h
 | .s _::_,h=>h
 | .b _::r,h=>EL (s:=r) h
theorem HJ{id:Nat}:∀ {s:List Fr},(match Cs id s with | none=>Q (.exit id) e w | some r=>Qk P N Q r .normal e w)->Qk P N Q s (.exit id) e w
 | [],h=>h
 | .s _::r,h=>HJ (s:=r) h
 | .b i::r,h=>by
  unfold Cs at h;show(if id=i then _ else _);cases hb:Nat.beq id i with
  | true=>rw [ay (oe hb)];rw [hb]at h;exact h
  | false=>
   rw [aw (fun e=>by rw [e,Nat.beq_refl]at hb;cases hb)];rw [hb]at h;exact HJ (s:=r) h
theorem fV:∀ {s:List Fr},Q .ret e w->Qk P N Q s .ret e w
 | [],h=>h
 | .s _::r,h=>fV (s:=r) h
 | .b _::r,h=>fV (s:=r) h
theorem Cd.afJ{Q:jB}(h:ao P N ops (fun e w=>Q .normal e w) ops.toList e w):Cd P N (.region id ops false) Q e w:=by
 have:=Cd.region (P:=P) (N:=N) (Q:=Q) (id:=id) (l:=ops.toList) (e:=e) (w:=w) (by rw [Array.toArray_toList];exact h)
 rwa [Array.toArray_toList]at this
theorem qA:∀ {n:Nat} {c:Code} {s:List Fr} {e:Env},(run N n c s e).ok P N Q w->Cd P N c (Qk P N Q s) e w
 | 0,_,_,_,h=>h
 | n+1,c,s,e,h=>by
  unfold run at h
  split at h
  ·exact .seq (qA h)
  ·exact .block (qA h)
  ·split at h
   ·exact h
   ·refine .afJ (ID ?_)
    split at h
    ·rename_i he;rw [he];refine ao.n (EL ?_)
     split at h
     ·exact h
     ·exact qA h
    ·rename_i he;rw [he];exact h
  ·refine .skip (EL ?_)
   split at h
   ·exact h
   ·exact qA h
  ·exact .ret (fV h)
  ·refine .exit (HJ ?_)
   split at h
   ·exact h
   ·refine EL ?_
    split at h
    ·exact h
    ·exact qA h
  ·exact h
theorem zQ{n:Nat}{s:List Fr}{e:Env}(h:(runN N n s e).ok P N Q w):Qk P N Q s .normal e w:=by
 unfold runN at h;refine EL ?_
 split at h
 ·exact h
 exact qA h
theorem H0{n:Nat}{s:List Fr}{e:Env}(h:(CB N n id s e).ok P N Q w):Qk P N Q s (.exit id) e w:=by
 unfold CB at h;refine HJ ?_
 split at h
 ·exact h
 exact zQ h
theorem EU{n:Nat}{l:List Oper}{s:List Fr}{e:Env}(h:(zR N n ops l s e).ok P N Q w):ao P N ops (fun e w=>Qk P N Q s .normal e w) l e w:=by
 unfold zR at h;refine ID ?_
 split at h
 ·rename_i he;rw [he];exact ao.n (zQ h)
 rename_i he;rw [he];exact h
theorem Fl{s:List Fr}{F:List (Nat×ad)}(hM:Mt e F)(h:Qk P N Q s .normal (ext e F) w):Qk P N Q s .normal e w:=by rwa [yE hM]at h
theorem dA{c:Code}{s:List Fr}{e1:Env}(h:run N 1000 c s e= .c c1 s1 e1)(k:Cd P N c1 (Qk P N Q s1) e1 w):Cd P N c (Qk P N Q s) e w:=qA (n:=1000) (by rw [h];exact k)
theorem aE{c:Code}{s:List Fr}{l1:List Oper}{e1:Env}(h:run N 1000 c s e= .o o1 l1 s1 e1)(k:ao P N o1 (fun e w=>Qk P N Q s1 .normal e w) l1 e1 w):Cd P N c (Qk P N Q s) e w:=qA (n:=1000) (by rw [h];exact k)
theorem oc{c:Code}{s:List Fr}{e1:Env}(h:run N 1000 c s e= .n e1)(k:Q .normal e1 w):Cd P N c (Qk P N Q s) e w:=qA (n:=1000) (by rw [h];exact k)
theorem eT{c:Code}{s:List Fr}{e1:Env}(h:run N 1000 c s e= .r e1)(k:Q .ret e1 w):Cd P N c (Qk P N Q s) e w:=qA (n:=1000) (by rw [h];exact k)
theorem bw{c:Code}{s:List Fr}{e1:Env}(h:run N 1000 c s e= .x i1 e1)(k:Q (.exit i1) e1 w):Cd P N c (Qk P N Q s) e w:=qA (n:=1000) (by rw [h];exact k)
theorem UL(n:Nat){c:Code}{s:List Fr}{e1:Env}(h:run N n c s e= .c c1 s1 e1)(k:Cd P N c1 (Qk P N Q s1) e1 w):Cd P N c (Qk P N Q s) e w:=qA (n:=n) (by rw [h];exact k)
theorem bL{c:Code}{e1:Env}(h:run N 1000 c [] e= .c c1 s1 e1)(k:Cd P N c1 (Qk P N Q s1) e1 w):Cd P N c Q e w:=qA (s:=[]) (n:=1000) (by rw [h];exact k)
theorem a8{c:Code}{l1:List Oper}{e1:Env}(h:run N 1000 c [] e= .o o1 l1 s1 e1)(k:ao P N o1 (fun e w=>Qk P N Q s1 .normal e w) l1 e1 w):Cd P N c Q e w:=qA (s:=[]) (n:=1000) (by rw [h];exact k)
theorem Fg{c:Code}{e1:Env}(h:run N 1000 c [] e= .r e1)(k:Q .ret e1 w):Cd P N c Q e w:=qA (s:=[]) (n:=1000) (by rw [h];exact k)
theorem aI{l:List Oper}{s:List Fr}{e1:Env}(h:zR N 1000 ops l s e= .c c1 s1 e1)(k:Cd P N c1 (Qk P N Q s1) e1 w):ao P N ops (fun e w=>Qk P N Q s .normal e w) l e w:=EU (n:=1000) (by rw [h];exact k)
theorem ar{l:List Oper}{s:List Fr}{l1:List Oper}{e1:Env}(h:zR N 1000 ops l s e= .o o1 l1 s1 e1)(k:ao P N o1 (fun e w=>Qk P N Q s1 .normal e w) l1 e1 w):ao P N ops (fun e w=>Qk P N Q s .normal e w) l e w:=EU (n:=1000) (by rw [h];exact k)
theorem aU{l:List Oper}{s:List Fr}{e1:Env}(h:zR N 1000 ops l s e= .n e1)(k:Q .normal e1 w):ao P N ops (fun e w=>Qk P N Q s .normal e w) l e w:=EU (n:=1000) (by rw [h];exact k)
theorem bM{l:List Oper}{s:List Fr}{e1:Env}(h:zR N 1000 ops l s e= .r e1)(k:Q .ret e1 w):ao P N ops (fun e w=>Qk P N Q s .normal e w) l e w:=EU (n:=1000) (by rw [h];exact k)
theorem CS(n:Nat){l:List Oper}{s:List Fr}{e1:Env}(h:zR N n ops l s e= .c c1 s1 e1)(k:Cd P N c1 (Qk P N Q s1) e1 w):ao P N ops (fun e w=>Qk P N Q s .normal e w) l e w:=EU (n:=n) (by rw [h];exact k)
theorem fR{s:List Fr}{e1:Env}(h:runN N 1000 s e= .c c1 s1 e1)(k:Cd P N c1 (Qk P N Q s1) e1 w):Qk P N Q s .normal e w:=zQ (n:=1000) (by rw [h];exact k)
theorem kc{s:List Fr}{l1:List Oper}{e1:Env}(h:runN N 1000 s e= .o o1 l1 s1 e1)(k:ao P N o1 (fun e w=>Qk P N Q s1 .normal e w) l1 e1 w):Qk P N Q s .normal e w:=zQ (n:=1000) (by rw [h];exact k)
theorem UN{s:List Fr}{e1:Env}(h:runN N 1000 s e= .n e1)(k:Q .normal e1 w):Qk P N Q s .normal e w:=zQ (n:=1000) (by rw [h];exact k)
theorem CT{s:List Fr}{e1:Env}(h:runN N 1000 s e= .r e1)(k:Q .ret e1 w):Qk P N Q s .normal e w:=zQ (n:=1000) (by rw [h];exact k)
theorem UM(n:Nat){s:List Fr}{e1:Env}(h:runN N n s e= .c c1 s1 e1)(k:Cd P N c1 (Qk P N Q s1) e1 w):Qk P N Q s .normal e w:=zQ (n:=n) (by rw [h];exact k)
theorem pS{s:List Fr}{e1:Env}(h:CB N 1000 i s e= .c c1 s1 e1)(k:Cd P N c1 (Qk P N Q s1) e1 w):Qk P N Q s (.exit i) e w:=H0 (n:=1000) (by rw [h];exact k)
theorem dh{s:List Fr}{l1:List Oper}{e1:Env}(h:CB N 1000 i s e= .o o1 l1 s1 e1)(k:ao P N o1 (fun e w=>Qk P N Q s1 .normal e w) l1 e1 w):Qk P N Q s (.exit i) e w:=H0 (n:=1000) (by rw [h];exact k)
theorem CU{s:List Fr}{e1:Env}(h:CB N 1000 i s e= .n e1)(k:Q .normal e1 w):Qk P N Q s (.exit i) e w:=H0 (n:=1000) (by rw [h];exact k)
theorem gE{s:List Fr}{e1:Env}(h:CB N 1000 i s e= .r e1)(k:Q .ret e1 w):Qk P N Q s (.exit i) e w:=H0 (n:=1000) (by rw [h];exact k)
end
def Vw:Prop:=False
structure Below(B:Nat)(w w':aa):Prop extends Go.RowKit.Below B w w' where
 drawn:Vw->w.drawn<=w'.drawn
theorem Below.refl(B:Nat)(w:aa):Below B w w:=⟨Go.RowKit.Below.refl B w,fun _=>bj _⟩
theorem Below.trans{B:Nat}{a b c:aa}(h:Below B a b)(k:Below B b c):Below B a c:=⟨h.toBelow.trans k.toBelow,fun s=>nv (h.drawn s) (k.drawn s)⟩
theorem Below.mono{B B':Nat}{w w':aa}(h:Below B w w')(hB:B'<=B):Below B' w w':=⟨h.toBelow.mono hB,h.drawn⟩
theorem Below.drew{B:Nat}{a w:aa}(h:Below B a w):Below B a w.drew:=⟨h.toBelow.drew,fun s=>Nat.le_succ_of_le (h.drawn s)⟩
theorem Below.alloc{B:Nat}{a w:aa}(h:Below B a w)(hB:B<=w.heap.size)(o:Obj):Below B a (w.alloc o):=⟨h.toBelow.alloc hB o,h.drawn⟩
structure CW(w w':aa)(row:Option Nat):Prop where
 g:w.grownBy w' row
 drawn:w.drawn<=w'.drawn
theorem Below.grown{B:Nat}{a w w':aa}{row:Option Nat}(h:Below B a w)(hg:CW w w' row)(hB:B<=w.heap.size)(hr:∀k,row=some k->B<=k):Below B a w':=⟨h.toBelow.grown hg.g hB hr,fun s=>nv (h.drawn s) hg.drawn⟩
def aJ(A:aj)(k:Nat):aj:=A.map (·.add k)
def Rd(w:aa)(A:aj)(n:Nat)(f:Nat->ad):Prop:=∀k,k<n->∃p,aJ A k=some p/\w.cell? p=some (f k)
structure Ck where
 A:aj
 n:Nat
 c:Nat
 e:ae
 vs:List ad
def Ck.ik(k:Ck):Option Nat:=k.A.map (·.block)
def uW:List (ad×ad)->List ad
 | []=> []
 | p::r=>p.1::p.2::uW r
theorem OE:∀ {a b:List (ad×ad)},uW a=uW b->a=b
 | [],[],_=>rfl
 | [],_::_,h=>by simp [uW]at h
 | _::_,[],h=>by simp [uW]at h
 | (x,y)::a,(x',y')::b,h=>by
  simp only [uW,List.cons.injEq]at h;rw [h.1,h.2.1,OE h.2.2]
def eG:List ad->Bool
 | .tuple _::_=>true
 | _=>false
theorem Hp{v:ad}{r:List ad}(h:v.oneCell'=true):eG (v::r)=false:=by
 cases v<;>simp_all [eG,Value.oneCell']
theorem wv{l:List ad}(h:∀v∈l,v.oneCell'=true):eG l=false:=by
 cases l with
 | nil=>rfl
 | cons v r=>exact Hp (h v (by simp))
theorem RN{a b:List ad}(ha:eG a=false)(hb:eG b=false):eG (a++b)=false:=by
 cases a with
 | nil=>exact hb
 | cons v r=>cases v<;>simp_all [eG]
theorem Et{a b:List ad}(ha:eG a=false)(h:a≠[]):eG (a++b)=false:=by
 cases a with
 | nil=>exact absurd rfl h
 | cons v r=>cases v<;>simp_all [eG]
theorem RO{a:List ad}(m:Nat)(ha:eG a=false):eG (a.take m)=false:=by
 cases a with
 | nil=>simp [eG]
 | cons v r=>
  cases m with
  | zero=>rfl
  | succ m=>cases v<;>simp_all [eG]
theorem aca{a:List ad}(j:Nat){u:ad}(ha:eG a=false)(hu:u.oneCell'=true):eG (a.set j u)=false:=by
 cases a with
 | nil=>rfl
 | cons v r=>
  cases j with
  | zero=>exact Hp hu
  | succ m=>cases v<;>simp_all [eG]
theorem ab9{z:ad}(n:Nat)(hz:z.oneCell'=true):eG (List.replicate n z)=false:=wv fun v hv=>by rw [(List.mem_replicate.1 hv).2];exact hz
def Ah(B:Nat)(w:aa)(k:Ck):Prop:=
 k.vs.length=k.n/\k.n<=k.c/\k.c<=maxLen/\
 ((k.A=none/\k.c=0)\/∃g o cur,k.A=some ⟨g,o,none⟩/\B<=g/\w.heap[g]?=some (.cells cur k.e (0,0))/\o+k.c<=cur.size/\∀j,j<k.n->cur[o+j]?=k.vs[j]?)
def Iw(B:Nat)(w:aa)(k:Ck):Prop:=
 k.n=0/\k.c=0/\∃g es cl,k.A=some ⟨g,0,none⟩/\B<=g/\w.heap[g]?=some (.map es cl)/\k.vs= .tuple #[]::uW (es.toList.map fun e=> (e.key,e.val))
def Own(B:Nat)(w:aa)(k:Ck):Prop:=if eG k.vs=true then Iw B w k else Ah B w k
theorem Own.qq{B:Nat}{w:aa}{k:Ck}(hm:eG k.vs=false)(h:Ah B w k):Own B w k:=by unfold Own;rw [if_neg (by simp [hm])];exact h
theorem Own.Mv{B:Nat}{w:aa}{k:Ck}(hm:eG k.vs=false)(h:Own B w k):Ah B w k:=by unfold Own at h;rwa [if_neg (by simp [hm])]at h
theorem Own.cases{B:Nat}{w:aa}{k:Ck}(h:Own B w k):(eG k.vs=true/\Iw B w k)\/(eG k.vs=false/\Ah B w k):=by
 unfold Own at h
 split at h
 ·rename_i hm;exact .inl ⟨hm,h⟩
 rename_i hm;exact .inr ⟨by simpa using hm,h⟩
theorem Own.ofM{B:Nat}{w:aa}{k:Ck}(hm:eG k.vs=true)(h:Iw B w k):Own B w k:=by unfold Own;rw [if_pos hm];exact h
structure St(w0 w:aa)(ks:List Ck):Prop where
 below:Below w0.heap.size w0 w
 own:∀k∈ks,Own w0.heap.size w k
 apart:(ks.filterMap Ck.ik).Nodup
theorem An{g o:Nat}(k:Nat):(⟨g,o,none⟩:Addr).add k=⟨g,o+k,none⟩:=by unfold Addr.add;split<;>simp_all
section
variable{B' i j:Nat}{oy:List Ck}
variable {w0 w w':aa} {ks:List Ck} {k:Ck} {B:Nat}
theorem Own.rd(h:Own B w k):Rd w k.A k.n (fun j=>k.vs.getD j undef):=by
 rcases h.cases with⟨_,hn,_⟩ | ⟨_,h1,h2,h3,h4⟩
 ·intro j hj;omega
 intro j hj;rcases h4 with⟨_,h0⟩ | ⟨g,o,cur,hA,hg,hh,hs,hc⟩
 ·omega
 refine⟨⟨g,o+j,none⟩,by simp [aJ,hA,An],?_⟩;simp only [World.cell?,hh];rw [hc j hj];simp [cN,fS (show j<k.vs.length by omega)]
theorem Own.mono(h:Own B w k)(hB:B'<=B):Own B' w k:=by
 rcases h.cases with⟨hm,hn,hc,g,es,cl,hA,hg,r⟩ | ⟨hm,h1,h2,h3,h4⟩
 ·exact .ofM hm ⟨hn,hc,g,es,cl,hA,by omega,r⟩
 refine .qq hm ⟨h1,h2,h3,?_⟩;rcases h4 with h0 | ⟨g,o,cur,hA,hg,r⟩
 ·exact .inl h0
 exact .inr ⟨g,o,cur,hA,by omega,r⟩
theorem Own.keep(h:Own B w k)(hb:∀g,k.ik=some g->w'.heap[g]?=w.heap[g]?):Own B w' k:=by
 rcases h.cases with⟨hm,hn,hc,g,es,cl,hA,hg,hh,r⟩ | ⟨hm,h1,h2,h3,h4⟩
 ·exact .ofM hm ⟨hn,hc,g,es,cl,hA,hg,by rw [hb g (by simp [Ck.ik,hA])];exact hh,r⟩
 refine .qq hm ⟨h1,h2,h3,?_⟩;rcases h4 with h0 | ⟨g,o,cur,hA,hg,hh,r⟩
 ·exact .inl h0
 exact .inr ⟨g,o,cur,hA,hg,by rw [hb g (by simp [Ck.ik,hA])];exact hh,r⟩
theorem Own.lt(h:Own B w k){g:Nat}(hg:k.ik=some g):B<=g/\g<w.heap.size:=by
 rcases h.cases with⟨hm,hn,hc,g',es,cl,hA,mX,hh,r⟩ | ⟨hm,h1,h2,h3,h4⟩
 ·simp [Ck.ik,hA]at hg;subst hg;exact⟨mX,(Array.getElem?_eq_some_iff.1 hh).1⟩
 rcases h4 with⟨h0,_⟩ | ⟨g',o,cur,hA,mX,hh,r⟩
 ·simp [Ck.ik,h0]at hg
 simp [Ck.ik,hA]at hg;subst hg;exact⟨mX,(Array.getElem?_eq_some_iff.1 hh).1⟩
theorem Own.cap(h:Own B w k):k.n<=k.c/\k.c<=maxLen:=by
 rcases h.cases with⟨_,hn,hc,_⟩ | ⟨_,_,h2,h3,_⟩
 ·exact⟨by omega,by rw [hc];exact a7 _⟩
 exact⟨h2,h3⟩
theorem St.refl(w:aa):St w w []:=⟨Below.refl _ _,(fun _ h=>by cases h),List.nodup_nil⟩
theorem St.get(h:St w0 w ks)(hk:ks[i]?=some k):Own w0.heap.size w k:=h.own k (List.mem_of_getElem? hk)
theorem St.pY(h:St w0 w ks)(hk:ks[i]?=some k)(hm:eG k.vs=false):Ah w0.heap.size w k:=(h.get hk).Mv hm
theorem St.rd(h:St w0 w ks)(i:Nat)(hk:ks[i]?=some k):Rd w k.A k.n (fun j=>k.vs.getD j undef):=(h.get hk).rd
theorem Rd.lt{A:aj}{n:Nat}{f:Nat->ad}(h:Rd w A n f)(hj:j<n):∃p,aJ A j=some p/\p.block<w.heap.size/\w.cell? p=some (f j):=by
 obtain⟨p,hp,hc⟩:=h j hj;exact⟨p,hp,World.block_lt_of_cell? _ _ hc,hc⟩
theorem Rd.below{A:aj}{n:Nat}{f:Nat->ad}(h:Rd w A n f)(hb:Below w.heap.size w w'):Rd w' A n f:=fun j hj=>by
 obtain⟨p,hp,hl,hc⟩:=h.lt hj;exact⟨p,hp,(hb.cell hl).trans hc⟩
theorem St.qt(h:St w0 w ks){A:aj}{n:Nat}{f:Nat->ad}(hR:Rd w0 A n f):Rd w A n f:=hR.below h.below
theorem Rd.congr{A:aj}{n:Nat}{f g:Nat->ad}(h:Rd w A n f)(hf:∀j,j<n->f j=g j):Rd w A n g:=fun j hj=>by
 obtain⟨p,hp,hc⟩:=h j hj;exact⟨p,hp,by rw [hc,hf j hj]⟩
theorem St.aq(h:St w0 w ks)(hb:Below w.heap.size w w'):St w0 w' ks:=
 ⟨h.below.trans (hb.mono h.below.size),fun k hk=> (h.own k hk).keep fun g hg=>hb.block g ((h.own k hk).lt hg).2,h.apart⟩
theorem St.drew(h:St w0 w ks):St w0 w.drew ks:=h.aq (Below.drew (Below.refl _ _))
theorem St.call(h:St w0 w ks)(h':St w w' oy):St w0 w' (oy++ks):=by
 have h1:=h.aq h'.below;refine⟨h1.below,fun k hk=>?_,?_⟩
 ·rcases jz.1 hk with hk | hk
  ·exact(h'.own k hk).mono h.below.size
  exact h1.own k hk
 rw [List.filterMap_append,List.nodup_append];refine⟨h'.apart,h.apart,fun a ha b hb=>?_⟩;obtain⟨k,hk,KF⟩:=List.mem_filterMap.1 ha;obtain⟨k',eN,qi⟩:=List.mem_filterMap.1 hb;have l1:=((h'.own k hk).lt KF).1;have l2:=((h.own k' eN).lt qi).2;omega
theorem St.call2(h:St w0 w ks)(h':St w w' oy):St w0 w' (ks++oy):=by
 have h1:=h.call h';exact⟨h1.below,fun k hk=>h1.own k ((me (l₁:=oy) (l₂:=ks)).mem_iff.2 hk),((me (l₁:=oy) (l₂:=ks)).filterMap _).nodup_iff.1 h1.apart⟩
theorem St.sub(h:St w0 w ks)(hs:oy.Sublist ks):St w0 w oy:=
 ⟨h.below,fun k hk=>h.own k (hs.subset hk),h.apart.sublist (hs.filterMap _)⟩
theorem St.perm(h:St w0 w ks)(hs:ks.Perm oy):St w0 w oy:=
 ⟨h.below,fun k hk=>h.own k (hs.mem_iff.2 hk),(hs.filterMap _).nodup_iff.1 h.apart⟩
theorem St.tail(h:St w0 w (k::ks)):St w0 w ks:=h.sub (List.sublist_cons_self _ _)
theorem St.none(h:St w0 w ks):St w0 w []:=h.sub (List.nil_sublist _)
theorem St.nil(h:St w0 w ks)(e:ae):St w0 w (⟨Option.none,0,0,e,[]⟩::ks):=
 ⟨h.below,fun k hk=>by
  rcases jq.1 hk with rfl | hk
  ·exact .qq O ⟨O,bj _,a7 _,.inl ⟨O,O⟩⟩
  exact h.own k hk,h.apart⟩
theorem St.alloc(h:St w0 w ks)(cs:List ad)(e:ae)(hm:cs.length<=maxLen)(hM:eG cs=false):St w0 (w.alloc (.cells cs.toArray e)) (⟨some ⟨w.heap.size,0,Option.none⟩,cs.length,cs.length,e,cs⟩::ks):=by
 have hb:Below w.heap.size w (w.alloc (.cells cs.toArray e)):=(Below.refl _ _).alloc (bj _) _;have h1:=h.aq hb;refine⟨h1.below,fun k hk=>?_,?_⟩
 ·rcases jq.1 hk with rfl | hk
  ·exact .qq hM ⟨O,bj _,hm,.inr ⟨_,0,cs.toArray,O,h.below.size,heap_alloc_new w _,by simp,fun j hj=>by simp⟩⟩
  exact h1.own k hk
 simp only [List.filterMap_cons,Ck.ik,Option.map_some,nt];refine⟨fun bW=>?_,h.apart⟩;obtain⟨k',eN,qi⟩:=List.mem_filterMap.1 bW;have:=((h.own k' eN).lt qi).2;omega
theorem F2{α β:Type}(f:α->Option β):∀(l:List α) (i:Nat) (a b:α),l[i]?=some a->f b=f a->(l.set i b).filterMap f=l.filterMap f
 | [],_,_,_,h,_=>by simp at h
 | x::l,0,a,b,h,he=>by
  simp at h;subst h;simp [List.filterMap_cons,he]
 | x::l,i+1,a,b,h,he=>by
  simp only [List.getElem?_cons_succ]at h;simp only [List.set_cons_succ,List.filterMap_cons,F2 f l i a b h he]
theorem St.turn{g:Nat}{k':Ck}(h:St w0 w ks)(hk:ks[i]?=some k)(uc:k.ik=some g)(ZK:k'.ik=some g)(hw:CW w w' (some g))(ho:Own w0.heap.size w' k'):St w0 w' (ks.set i k'):=by
 have eO:=(h.get hk).lt uc;refine⟨h.below.grown hw h.below.size (fun x hx=>by cases hx;exact eO.1),fun x hx=>?_,?_⟩
 ·obtain⟨j,hj,rfl⟩:=fJ.1 hx;have im:j<ks.length:=by simpa using hj
  rw [List.getElem_set]
  split
  ·exact ho
  ·rename_i bt;have hm:ks[j]∈ks:=dB _;refine(h.own _ hm).keep fun g' mX=>hw.g.block g' ((h.own _ hm).lt mX).2 fun e=>?_
   injection e with e
   subst e;have bX:i<ks.length:=(gS.1 hk).1;have e6:ks[i]=k:=(gS.1 hk).2;exact absurd (show False from by
    have hn:=h.apart;have key:∀(l:List Ck),(l.filterMap Ck.ik).Nodup->∀i j (hi:i<l.length) (hj:j<l.length),i≠j->l[i].ik=some g'->l[j].ik=some g'->False:=by
     intro l
     induction l with
     | nil=>intro _ i j hi;simp at hi
     | cons a l ih=>
      intro hn i j hi hj bt h1 h2;cases i with
      | zero=>
       cases j with
       | zero=>exact bt rfl
       | succ j=>
        simp only [List.getElem_cons_zero]at h1;simp only [List.getElem_cons_succ]at h2;rw [List.filterMap_cons,h1]at hn;simp only [nt]at hn;exact hn.1 (List.mem_filterMap.2 ⟨_,dB _,h2⟩)
      | succ i=>
       cases j with
       | zero=>
        simp only [List.getElem_cons_zero]at h2;simp only [List.getElem_cons_succ]at h1;rw [List.filterMap_cons,h2]at hn;simp only [nt]at hn;exact hn.1 (List.mem_filterMap.2 ⟨_,dB _,h1⟩)
       | succ j=>
        have zn:(l.filterMap Ck.ik).Nodup:=by
         rw [List.filterMap_cons]at hn
         split at hn
         ·exact hn
         ·exact(nt.1 hn).2
        exact ih zn i j (by simpa using hi) (by simpa using hj) (by omega) (by simpa using h1) (by simpa using h2)
    exact key ks hn i j bX im bt (by rw [e6];exact uc) mX) id
 ·rw [F2 Ck.ik ks i k k' hk (by rw [uc,ZK])];exact h.apart
theorem St.store(h:St w0 w ks)(i:Nat)(hk:ks[i]?=some k)(hj:j<k.n)(u:ad)(hu:u.oneCell'=true):
 ∃p,aJ k.A j=some p/\(∃v,w.cell? p=some v)/\w.frozen? p=false/\St w0 (w.setCell p u) (ks.set i { k with vs:=k.vs.set j u }):=by
 rcases(h.get hk).cases with⟨_,qk,_⟩ | ⟨hM,h1,h2,h3,h4⟩
 ·omega
 rcases h4 with⟨_,h0⟩ | ⟨g,o,cur,hA,hg,hh,hs,hc⟩
 ·omega
 refine⟨⟨g,o+j,Option.none⟩,by simp [aJ,hA,An],?_,?_,?_⟩
 ·have:o+j<cur.size:=by omega
  exact⟨cur[o+j],by simp [World.cell?,hh,qF this]⟩
 ·simp [World.frozen?,hh]
 have uc:k.ik=some g:=by simp [Ck.ik,hA]
 have eO:=(Array.getElem?_eq_some_iff.1 hh).1;refine h.turn (k':= { k with vs:=k.vs.set j u }) hk uc uc ⟨⟨O,O,O,by simp,fun x _ hx=>heap_setCell_other w ⟨g,o+j,Option.none⟩ x u (fun e=>hx (by simp [e]))⟩,bj _⟩ ?_;refine .qq (aca j hM hu) ⟨by simpa using h1,h2,h3,.inr ⟨g,o,cur.setIfInBounds (o+j) u,hA,hg,heap_setCell_same w g (o+j) cur k.e u hh,by simpa using hs,fun m hm=>?_⟩⟩;have iO:m<k.n:=hm;rw [vx];show _=(k.vs.set j u)[m]?;rw [mG]
 by_cases e:j=m
 ·subst e;rw [ay rfl,ay rfl,ay (by omega),ay (by omega)]
 rw [aw (by omega),aw e];exact hc m iO
end
structure aN where
 a:aj
 n:Nat
 c:Nat
def aN.v(s:aN):ad:= .slice s.a s.n s.c
def ew:aN:=⟨none,0,0⟩
def gi(xs:ai)(i:Int):Int:=xs.getD i.toNat 0
def gb(xs:List Bool)(i:Int):Bool:=xs.getD i.toNat false
def rg(xs:List aN)(i:Int):aN:=xs.getD i.toNat ew
def cn(w:aa)(A:aj)(n:Nat)(xs:ai):Prop:=xs.length=n/\Rd w A n (fun j=>ak (xs.getD j 0))
def tL(w:aa)(A:aj)(n:Nat)(xs:List Bool):Prop:=xs.length=n/\Rd w A n (fun j=> .bool (xs.getD j false))
def lQ(w:aa)(A:aj)(n:Nat)(xs:List aN):Prop:=xs.length=n/\Rd w A n (fun j=> (xs.getD j ew).v)
abbrev az(t:ae)(A:aj)(n c:Nat)(xs:ai):Ck:=⟨A,n,c,t,xs.map (ak)⟩
abbrev gu(t:ae)(A:aj)(n c:Nat)(xs:List Bool):Ck:=⟨A,n,c,t,xs.map .bool⟩
abbrev cd(t:ae)(A:aj)(n c:Nat)(xs:List aN):Ck:=⟨A,n,c,t,xs.map aN.v⟩
theorem sA(xs:ai):eG (xs.map (Value.int .i64))=false:=wv fun v hv=>by obtain⟨_,_,rfl⟩:=db.1 hv;rfl
theorem Es(xs:List Bool):eG (xs.map Value.bool)=false:=wv fun v hv=>by obtain⟨_,_,rfl⟩:=db.1 hv;rfl
theorem xZ(xs:List aN):eG (xs.map aN.v)=false:=wv fun v hv=>by obtain⟨_,_,rfl⟩:=db.1 hv;rfl
section
variable{xs:ai}
variable {w0 w w':aa} {ks:List Ck} {t:ae} {A:aj} {n c:Nat}
theorem St.bI(h:St w0 w ks)(i:Nat)(hk:ks[i]?=some (az t A n c xs)):cn w A n xs:=by
 have hl:xs.length=n:=by have:=(h.pY hk (sA xs)).1;simpa using this
 exact⟨hl,(h.rd i hk).congr fun j hj=>by have im:j<n:=hj;simp [cN,fS (show j<xs.length by omega)]⟩
theorem St.jG{xs:List Bool}(h:St w0 w ks)(i:Nat)(hk:ks[i]?=some (gu t A n c xs)):tL w A n xs:=by
 have hl:xs.length=n:=by have:=(h.pY hk (Es xs)).1;simpa using this
 exact⟨hl,(h.rd i hk).congr fun j hj=>by have im:j<n:=hj;simp [cN,fS (show j<xs.length by omega)]⟩
theorem St.gQ{xs:List aN}(h:St w0 w ks)(i:Nat)(hk:ks[i]?=some (cd t A n c xs)):lQ w A n xs:=by
 have hl:xs.length=n:=by have:=(h.pY hk (xZ xs)).1;simpa using this
 exact⟨hl,(h.rd i hk).congr fun j hj=>by have im:j<n:=hj;simp [cN,fS (show j<xs.length by omega)]⟩
theorem St.gW(h:St w0 w ks)(hR:cn w0 A n xs):cn w A n xs:=⟨hR.1,h.qt hR.2⟩
theorem St.LW{xs:List aN}(h:St w0 w ks)(hR:lQ w0 A n xs):lQ w A n xs:=⟨hR.1,h.qt hR.2⟩
theorem St.cap{k:Ck}(h:St w0 w ks)(i:Nat)(hk:ks[i]?=some k):k.n<=k.c/\k.c<=maxLen:=(h.get hk).cap
theorem St.Cm(h:St w0 w ks)(i:Nat)(hk:ks[i]?=some (az t A n c xs)):xs.length=n:=(h.bI i hk).1
theorem cn.aq(h:cn w A n xs)(hb:Below w.heap.size w w'):cn w' A n xs:=⟨h.1,h.2.below hb⟩
theorem tL.aq{xs:List Bool}(h:tL w A n xs)(hb:Below w.heap.size w w'):tL w' A n xs:=⟨h.1,h.2.below hb⟩
theorem lQ.aq{xs:List aN}(h:lQ w A n xs)(hb:Below w.heap.size w w'):lQ w' A n xs:=⟨h.1,h.2.below hb⟩
theorem cn.nil:cn w none 0 []:=⟨rfl,fun k hk=>by omega⟩
end
section
variable{t te:ae}{z u v0 v1 z0:ad}{b j c1 ft sz o h c':Nat}{x ix x0 x1 bX y:ag}{A1 A':aj}{k k':IntKind}{i:Int}{xs:ai}
variable {P:Program} {N:Nat} {ops:Array Oper} {K:Env->aa->Prop} {rest:List Oper} {e:Env} {w0 w w':aa} {ks:List Ck} {d:Nat} {ty:ae} {pos:String} {af:Array Edge}
theorem ajh{el:ae}[bJ P t (.slice el)][bF P el z 1 b]{A:aj}{n c:Nat}{f:Nat->ad}(hR:Rd w A n f)(hx:ev e x= .slice A n c)(hy:ev e ix= .int k i)(hb:Nat.blt d N=true)(h0:0<=i)(h1:i< (n:Int))(hK:ao P N ops K rest (bq e d (.pointer (aJ A i.toNat))) w):
 ao P N ops K (⟨some d,.indexAddr t x ix,ty,pos,af,none⟩::rest) e w:=by
 obtain⟨p,hp,_⟩:=hR i.toNat (by omega);obtain⟨q,rfl⟩:∃q,A=some q:=by cases A with | none=>simp [aJ]at hp | some q=>exact⟨q,rfl⟩
 obtain⟨inf,hi,_,hs,_⟩:=bF.get P el;refine .val (w':=w) ?_ hb hK;simp [execOp,Instr.indexAt,hx,hy,asIntOf,run_underlying (bJ.out (P:=P) (t:=t)),h0,h1,sizeOf,typeInfo,hi,hs,aJ]
theorem aM{el:ae}[bJ P t (.slice el)][bF P el z 1 b]{A:aj}{n c:Nat}{f:Nat->ad}(hR:Rd w A n f)(q9:(ev e x,ev e ix,Nat.blt d N)=(.slice A n c,.int k i,true))(hK:ao P N ops K rest (bq e d (.pointer (aJ A i.toNat))) w)(h0:0<=i:=by omega)(h1:i< (n:Int):=by omega):ao P N ops K (⟨some d,.indexAddr t x ix,ty,pos,af,none⟩::rest) e w:=ajh hR (congrArg (fun p=>p.1) q9) (congrArg (fun p=>p.2.1) q9) (congrArg (fun p=>p.2.2) q9) h0 h1 hK
def wF:TypeDesc->Bool
 | .struct _=>false
 | .array _ _=>false
 | _=>true
theorem af9{u:TypeDesc}(hu:P.underlying t=some u)(hp:wF u=true):(isAgg t).run P w= .ok false w:=by
 cases u<;>simp [wF]at hp<;>simp [isAgg,run_underlying hu]
theorem ao.ld{u:TypeDesc}[bJ P t u]{A:aj}{n:Nat}{f:Nat->ad}{v:ad}(hR:Rd w A n f)(hx:ev e x= .pointer (aJ A j))(hj:j<n)(hv:f j=v)(hp:wF u=true)(hb:Nat.blt d N=true)(hK:ao P N ops K rest (bq e d v) w):ao P N ops K (⟨some d,.load t x,ty,pos,af,none⟩::rest) e w:=by
 obtain⟨p,na,hc⟩:=hR j hj;subst hv;refine .val (w':=w) ?_ hb hK;simp [execOp,Instr.loadAt,hx,na,Instr.sureAddr,loadVar,af9 (bJ.out (P:=P) (t:=t)) hp,hc]
theorem aji{u:TypeDesc}[bJ P t u]{A:aj}{n:Nat}(hR:cn w A n xs)(hx:ev e x= .pointer (aJ A i.toNat))(hj:i.toNat<n)(hp:wF u=true)(hb:Nat.blt d N=true)(hK:ao P N ops K rest (bq e d (ak (gi xs i))) w):ao P N ops K (⟨some d,.load t x,ty,pos,af,none⟩::rest) e w:= .ld hR.2 hx hj rfl hp hb hK
theorem bk{u:TypeDesc}[bJ P t u]{A:aj}{n:Nat}(hR:cn w A n xs)(q9:(ev e x,wF u,Nat.blt d N)=(.pointer (aJ A i.toNat),true,true))(hK:ao P N ops K rest (bq e d (ak (gi xs i))) w)(hj:i.toNat<n:=by omega):ao P N ops K (⟨some d,.load t x,ty,pos,af,none⟩::rest) e w:=aji hR (congrArg (fun p=>p.1) q9) hj (congrArg (fun p=>p.2.1) q9) (congrArg (fun p=>p.2.2) q9) hK
theorem rS{u:TypeDesc}[bJ P t u]{A:aj}{n:Nat}{xs:List Bool}(hR:tL w A n xs)(hx:ev e x= .pointer (aJ A i.toNat))(hj:i.toNat<n)(hp:wF u=true)(hb:Nat.blt d N=true)(hK:ao P N ops K rest (bq e d (.bool (gb xs i))) w):ao P N ops K (⟨some d,.load t x,ty,pos,af,none⟩::rest) e w:= .ld hR.2 hx hj rfl hp hb hK
theorem ajo{u:TypeDesc}[bJ P t u]{A:aj}{n:Nat}{xs:List aN}(hR:lQ w A n xs)(hx:ev e x= .pointer (aJ A i.toNat))(hj:i.toNat<n)(hp:wF u=true)(hb:Nat.blt d N=true)(hK:ao P N ops K rest (bq e d (.slice (rg xs i).a (rg xs i).n (rg xs i).c)) w):ao P N ops K (⟨some d,.load t x,ty,pos,af,none⟩::rest) e w:= .ld hR.2 hx hj rfl hp hb hK
theorem dI{u:TypeDesc}[bJ P t u]{A:aj}{n:Nat}{xs:List aN}(hR:lQ w A n xs)(q9:(ev e x,wF u,Nat.blt d N)=(.pointer (aJ A i.toNat),true,true))(hK:ao P N ops K rest (bq e d (.slice (rg xs i).a (rg xs i).n (rg xs i).c)) w)(hj:i.toNat<n:=by omega):ao P N ops K (⟨some d,.load t x,ty,pos,af,none⟩::rest) e w:=ajo hR (congrArg (fun p=>p.1) q9) hj (congrArg (fun p=>p.2.1) q9) (congrArg (fun p=>p.2.2) q9) hK
theorem ao.st[bF P t z 1 b]{a:ag}{i:Nat}{k:Ck}(hS:St w0 w ks)(hk:ks[i]?=some k)(ha:ev e a= .pointer (aJ k.A j))(hx:ev e x=u)(h1:u.oneCell'=true)(hj:j<k.n)(hK:∀w',St w0 w' (ks.set i { k with vs:=k.vs.set j u })->ao P N ops K rest e w'):ao P N ops K (⟨none,.store t a x,ty,pos,af,none⟩::rest) e w:=by
 obtain⟨p,hp,⟨v,hc⟩,hf,nI⟩:=hS.store i hk hj u h1;obtain⟨inf,hi,_,hs,_⟩:=bF.get P t;refine .unit (w':=w.setCell p u) ?_ (hK _ nI);have ZY:u.cells= #[u]:=by cases u<;>simp [Value.oneCell']at h1<;>rfl
 simp [execOp,Instr.storeAt,ha,hx,hp,Instr.sureAddr,storeVar,sizeOf,typeInfo,hi,hs,ZY,storeCells,run_store _ _ _ _ _ h1,hc,hf,Addr.add]
theorem lu[bF P t z 1 b]{a:ag}(m:Nat){A:aj}{n c:Nat}{u:Int}(hS:St w0 w ks)(hk:ks[m]?=some (az te A n c xs))(ha:ev e a= .pointer (aJ A i.toNat))(hx:ev e x=ak u)(hj:i.toNat<n)(hK:∀w',St w0 w' (ks.set m (az te A n c (xs.set i.toNat u)))->ao P N ops K rest e w'):ao P N ops K (⟨none,.store t a x,ty,pos,af,none⟩::rest) e w:=
 .st hS hk ha hx rfl hj fun w' h=>hK w' (by simpa [az,List.map_set]using h)
theorem tK[bF P t z 1 b]{a:ag}(m:Nat){A:aj}{n c:Nat}{xs:List Bool}{u:Bool}(hS:St w0 w ks)(hk:ks[m]?=some (gu te A n c xs))(ha:ev e a= .pointer (aJ A i.toNat))(hx:ev e x= .bool u)(hj:i.toNat<n)(hK:∀w',St w0 w' (ks.set m (gu te A n c (xs.set i.toNat u)))->ao P N ops K rest e w'):ao P N ops K (⟨none,.store t a x,ty,pos,af,none⟩::rest) e w:=
 .st hS hk ha hx rfl hj fun w' h=>hK w' (by simpa [gu,List.map_set]using h)
theorem C5[bF P t z 1 b]{a:ag}(m:Nat){A:aj}{n c:Nat}{xs:List aN}{n1:Nat}(hS:St w0 w ks)(hk:ks[m]?=some (cd te A n c xs))(ha:ev e a= .pointer (aJ A i.toNat))(hx:ev e x= .slice A1 n1 c1)(hj:i.toNat<n)(hK:∀w',St w0 w' (ks.set m (cd te A n c (xs.set i.toNat ⟨A1,n1,c1⟩)))->ao P N ops K rest e w'):ao P N ops K (⟨none,.store t a x,ty,pos,af,none⟩::rest) e w:=
 .st hS hk ha hx rfl hj fun w' h=>hK w' (by simpa [cd,List.map_set,aN.v]using h)
theorem LN(z:ad)(n:Nat):(madeCells #[z] n)=(List.replicate n z).toArray:=by
 rw [<-toList_madeCells_one z n]
theorem ao.mk{el:ae}[bJ P t (.slice el)][bF P el z 1 b](n:Nat)(hS:St w0 w ks)(hx:ev e x= .int k (n:Int))(hz:z.cells= #[z])(YC:z.oneCell'=true)(hb:Nat.blt d N=true)(hn:b*n<=281474976710656/\n<=9223372036854775807)(hK:∀A w',St w0 w' (⟨A,n,n,el,List.replicate n z⟩::ks)->ao P N ops K rest (bq e d (.slice A n n)) w'):ao P N ops K (⟨some d,.makeSlice t x x,ty,pos,af,none⟩::rest) e w:=by
 obtain⟨inf,hi,fH,hs,iW⟩:=bF.get P el;have hr:=run_make_row (P:=P) t el inf z (bJ.out (P:=P) (t:=t)) hi fH hs hz k k n (by rw [iW];exact hn.1) hn.2 w;have hA:=hS.alloc (List.replicate n z) el (by simp [maxLen];omega) (ab9 n YC);rw [LN]at hr;refine .val (w':=w.alloc (.cells (List.replicate n z).toArray el)) ?_ hb (hK _ _ (by simpa using hA));simp only [execOp,hx,Sem.run_bind,hr,Result.andThen_ok,Sem.run_pure]
theorem yx{el:ae}{v:Bool}[bJ P t (.slice el)][bF P el (.bool v) 1 b](n:Nat)(hS:St w0 w ks)(hx:ev e x= .int k (n:Int))(hb:Nat.blt d N=true)(hn:b*n<=281474976710656/\n<=9223372036854775807)(hK:∀A w',St w0 w' (gu el A n n (List.replicate n v)::ks)->ao P N ops K rest (bq e d (.slice A n n)) w'):ao P N ops K (⟨some d,.makeSlice t x x,ty,pos,af,none⟩::rest) e w:=
 .mk n hS hx rfl rfl hb hn fun A w' h=>hK A w' (by unfold gu;rw [List.map_replicate];exact h)
theorem wW{el:ae}{v:Int}[bJ P t (.slice el)][bF P el (ak v) 1 b](n:Nat)(hS:St w0 w ks)(hx:ev e x= .int k (n:Int))(hb:Nat.blt d N=true)(hn:b*n<=281474976710656/\n<=9223372036854775807)(hK:∀A w',St w0 w' (az el A n n (List.replicate n v)::ks)->ao P N ops K rest (bq e d (.slice A n n)) w'):ao P N ops K (⟨some d,.makeSlice t x x,ty,pos,af,none⟩::rest) e w:=
 .mk n hS hx rfl rfl hb hn fun A w' h=>hK A w' (by unfold az;rw [List.map_replicate];exact h)
theorem Iu{el:ae}[bJ P t (.slice el)][bF P el (.slice none 0 0) 1 b](n:Nat)(hS:St w0 w ks)(hx:ev e x= .int k (n:Int))(hb:Nat.blt d N=true)(hn:b*n<=281474976710656/\n<=9223372036854775807)(hK:∀A w',St w0 w' (cd el A n n (List.replicate n ew)::ks)->ao P N ops K rest (bq e d (.slice A n n)) w'):ao P N ops K (⟨some d,.makeSlice t x x,ty,pos,af,none⟩::rest) e w:=
 .mk n hS hx rfl rfl hb hn fun A w' h=>hK A w' (by unfold cd;rw [List.map_replicate];exact h)
theorem Fu(f:Nat->ad)(n:Nat):(Array.range n).map f=((List.range n).map f).toArray:=by apply Array.ext';simp
theorem ny{el:ae}[bJ P t (.slice el)][bF P el z 1 b](hS:St w0 w ks)(hb:Nat.blt d N=true)(hK:∀A w',St w0 w' (⟨A,0,0,el,[]⟩::ks)->ao P N ops K rest (bq e d (.slice A 0 0)) w'):ao P N ops K (⟨some d,.buildSlice t 0 #[],ty,pos,af,none⟩::rest) e w:=by
 obtain⟨inf,hi,fH,hs,iW⟩:=bF.get P el;refine .val (w':=w.alloc (.cells #[] el)) ?_ hb (hK _ _ (hS.alloc [] el (by simp) O));simp [execOp,Instr.buildSlice,run_underlying (bJ.out (P:=P) (t:=t)),sizeOf,typeInfo,hi,hs,Instr.fill,newRow,Fu]
theorem ao.IY{el:ae}[bJ P t (.slice el)][bF P el z 1 b](hS:St w0 w ks)(h0:ev e x0=v0)(c0:v0.oneCell'=true)(hz:z.cells= #[z])(hb:Nat.blt d N=true)(hK:∀A w',St w0 w' (⟨A,1,1,el,[v0]⟩::ks)->ao P N ops K rest (bq e d (.slice A 1 1)) w'):ao P N ops K (⟨some d,.buildSlice t 1 #[(0,x0)],ty,pos,af,none⟩::rest) e w:=by
 obtain⟨inf,hi,fH,hs,iW⟩:=bF.get P el;have e0:v0.cells= #[v0]:=by cases v0<;>simp [Value.oneCell']at c0<;>rfl
 refine .val (w':=w.alloc (.cells #[v0] el)) ?_ hb (hK _ _ (hS.alloc [v0] el (by simp [maxLen]) (Hp c0)));simp [execOp,Instr.buildSlice,run_underlying (bJ.out (P:=P) (t:=t)),sizeOf,typeInfo,zeroValue,hi,hs,fH,hz,Instr.fill,newRow,h0,e0,Fu,lN]
theorem Is{el:ae}[bJ P t (.slice el)][bF P el z 1 b](hS:St w0 w ks)(h0:ev e x0=v0)(h1:ev e x1=v1)(c0:v0.oneCell'=true)(c1:v1.oneCell'=true)(hz:z.cells= #[z])(hb:Nat.blt d N=true)(hK:∀A w',St w0 w' (⟨A,2,2,el,[v0,v1]⟩::ks)->ao P N ops K rest (bq e d (.slice A 2 2)) w'):ao P N ops K (⟨some d,.buildSlice t 2 #[(0,x0),(1,x1)],ty,pos,af,none⟩::rest) e w:=by
 obtain⟨inf,hi,fH,hs,iW⟩:=bF.get P el;have e0:v0.cells= #[v0]:=by cases v0<;>simp [Value.oneCell']at c0<;>rfl
 have e1:v1.cells= #[v1]:=by cases v1<;>simp [Value.oneCell']at c1<;>rfl
 refine .val (w':=w.alloc (.cells #[v0,v1] el)) ?_ hb (hK _ _ (hS.alloc [v0,v1] el (by simp [maxLen]) (Hp c0)));simp [execOp,Instr.buildSlice,run_underlying (bJ.out (P:=P) (t:=t)),sizeOf,typeInfo,zeroValue,hi,hs,fH,hz,Instr.fill,newRow,h0,e0,h1,e1,Fu,lN]
theorem ao.box{el:ae}{v:ad}(hS:St w0 w ks)(hx:ev e x=v)(hb:Nat.blt d N=true)(hm:v.cells.size<=maxLen)(hK:∀A w',St w0 w' (⟨A,v.cells.size,v.cells.size,el,v.cells.toList⟩::ks)->ao P N ops K rest (bq e d (.pointer A)) w')(hM:eG v.cells.toList=false:=by rfl):ao P N ops K (⟨some d,.box el x,ty,pos,af,none⟩::rest) e w:=by
 have hA:=hS.alloc v.cells.toList el (by simpa using hm) hM;refine .val (w':=w.alloc (.cells v.cells el)) ?_ hb (hK _ _ (by simpa using hA));simp [execOp,Instr.box,newVar,newRow,hx]
theorem ao.Fz{el:ae}{cs:Array ad}(hS:St w0 w ks)(hx:ev e x= .agg cs)(hb:Nat.blt d N=true)(hm:Nat.ble cs.size 100=true)(hK:∀A w',St w0 w' (⟨A,cs.size,cs.size,el,cs.toList⟩::ks)->ao P N ops K rest (bq e d (.pointer A)) w')(hM:eG cs.toList=false:=by rfl):ao P N ops K (⟨some d,.box el x,ty,pos,af,none⟩::rest) e w:=
 .box hS hx hb (by show cs.size<=maxLen;have:=Nat.le_of_ble_eq_true hm;simp only [maxLen];omega) hK hM
theorem ao.new{el:ae}{s:Nat}[bF P el z s b](hS:St w0 w ks)(hb:Nat.blt d N=true)(iO:Nat.ble z.cells.size 100=true)(hK:∀A w',St w0 w' (⟨A,z.cells.size,z.cells.size,el,z.cells.toList⟩::ks)->ao P N ops K rest (bq e d (.pointer A)) w')(hM:eG z.cells.toList=false:=by rfl):ao P N ops K (⟨some d,.alloc el,ty,pos,af,none⟩::rest) e w:=by
 obtain⟨inf,hi,fH,hs,iW⟩:=bF.get P el;have hm:z.cells.size<=maxLen:=by have:=Nat.le_of_ble_eq_true iO;simp only [maxLen];omega
 have hA:=hS.alloc z.cells.toList el (by simpa using hm) hM;refine .val (w':=w.alloc (.cells z.cells el)) ?_ hb (hK _ _ (by simpa using hA));simp [execOp,Instr.alloc,zeroValue,typeInfo,hi,fH,newVar,newRow]
theorem lq{A:aj}{n:Nat}{f:Nat->ad}(hR:Rd w A n f)(hn:0<n)(hx:ev e x= .pointer A)(hb:Nat.blt d N=true)(hK:ao P N ops K rest (bq e d (.pointer A)) w):
 ao P N ops K (⟨some d,.nilCheck x,ty,pos,af,none⟩::rest) e w:=by
 obtain⟨p,hp,_⟩:=hR 0 hn;obtain⟨q,rfl⟩:∃q,A=some q:=by cases A with | none=>simp [aJ]at hp | some q=>exact⟨q,rfl⟩
 exact .aep hx hb hK
def Dp:List Field->Nat->Option (ae×Nat)
 | f::_,0=>some (f.type,f.offset)
 | _::r,m+1=>Dp r m
 | [],_=>none
theorem Ox:∀ {l:List Field} {m:Nat} {ft off:Nat},Dp l m=some (ft,off)->∃fd,l[m]?=some fd/\fd.type=ft/\fd.offset=off
 | [],_,_,_,h=>by simp [Dp]at h
 | f::_,0,_,_,h=>by simp [Dp]at h;exact⟨f,rfl,h.1,h.2⟩
 | _::r,m+1,_,_,h=>by simpa using Ox (l:=r) (m:=m) h
theorem ajm{s:ae}{fs:Array Field}[bJ P s (.struct fs)]{A:aj}{n m off:Nat}{f:Nat->ad}(hR:Rd w A n f)(hx:ev e x= .pointer A)(hf:Dp fs.toList m=some (ft,off))(hn:Nat.blt 0 n=true)(hb:Nat.blt d N=true)(hI:bF P ft z (sz+1) b)(hK:ao P N ops K rest (bq e d (.pointer (aJ A off))) w):ao P N ops K (⟨some d,.fieldAddr s x m,ty,pos,af,none⟩::rest) e w:=by
 obtain⟨p,hp,_⟩:=hR 0 (by simpa [Nat.blt_eq]using hn);obtain⟨q,rfl⟩:∃q,A=some q:=by cases A with | none=>simp [aJ]at hp | some q=>exact⟨q,rfl⟩
 obtain⟨fd,iX,rfl,rfl⟩:=Ox hf;have ou:fs[m]?=some fd:=by simpa using iX
 obtain⟨inf,hi,fH,hs,iW⟩:=bF.get P fd.type;refine .val (w':=w) ?_ hb hK;simp [execOp,Instr.fieldAt,run_underlying (bJ.out (P:=P) (t:=s)),ou,hx,Instr.sureAddr,fieldPlace,sizeOf,typeInfo,hi,hs,aJ]
theorem aX{s:ae}{fs:Array Field}[bJ P s (.struct fs)]{A:aj}{n m off:Nat}{f:Nat->ad}(hR:Rd w A n f)(q9:(ev e x,Dp fs.toList m,Nat.blt 0 n,Nat.blt d N)=(.pointer A,some (ft,off),true,true))[hI:bF P ft z (sz+1) b](hK:ao P N ops K rest (bq e d (.pointer (aJ A off))) w):ao P N ops K (⟨some d,.fieldAddr s x m,ty,pos,af,none⟩::rest) e w:=ajm hR (congrArg (fun p=>p.1) q9) (congrArg (fun p=>p.2.1) q9) (congrArg (fun p=>p.2.2.1) q9) (congrArg (fun p=>p.2.2.2) q9) hI hK
theorem ao.b7{fs:Array Field}(m:Nat)[bJ P t (.struct fs)][bF P t z (m+1) b]{A:aj}{f:Nat->ad}{cs:Array ad}(hR:Rd w A (m+1) f)(hx:ev e x= .pointer A)(vc:((List.range (m+1)).map f).toArray=cs)(hb:Nat.blt d N=true)(hK:ao P N ops K rest (bq e d (.agg cs)) w):ao P N ops K (⟨some d,.load t x,ty,pos,af,none⟩::rest) e w:=by
 obtain⟨p,hp,_⟩:=hR 0 (by omega);obtain⟨q,rfl⟩:∃q,A=some q:=by cases A with | none=>simp [aJ]at hp | some q=>exact⟨q,rfl⟩
 obtain⟨inf,hi,fH,hs,iW⟩:=bF.get P t;have hl:=run_loadCells (P:=P) w q (m+1) f (fun j hj=>by
  obtain⟨p,hp,hc⟩:=hR j hj;simp [aJ]at hp;rw [hp];exact hc)
 subst vc;refine .val (w':=w) ?_ hb hK;simp [execOp,Instr.loadAt,hx,Instr.sureAddr,loadVar,isAgg,run_underlying (bJ.out (P:=P) (t:=t)),sizeOf,typeInfo,hi,hs,hl]
theorem nY(A:aj):aJ A 0=A:=by cases A<;>simp [aJ,Addr.add]
theorem Te(A:aj)(i j:Nat):aJ (aJ A i) j=aJ A (i+j):=by
 cases A with
 | none=>rfl
 | some q=>simp only [aJ,Option.map_some];unfold Addr.add;by_cases h1:i=0<;>by_cases h2:j=0<;>simp [h1,h2,Nat.add_assoc]
theorem Rd.behind{A:aj}{n m:Nat}{f:Nat->ad}(hR:Rd w A n f)(h:o+m<=n):Rd w (aJ A o) m (fun j=>f (o+j)):=fun j hj=>by
 obtain⟨p,hp,hc⟩:=hR (o+j) (by omega);exact⟨p,by rw [Te];exact hp,hc⟩
abbrev Bx(t:ae)(n:Nat)(A:aj)(vs:List ad):Ck:=⟨A,n,n,t,vs⟩
theorem jd{el:ae}(hS:St w0 w ks)(hx:ev e x= .agg #[v0])(hb:Nat.blt d N=true)(hK:∀A w',St w0 w' (Bx el 1 A [v0]::ks)->ao P N ops K rest (bq e d (.pointer A)) w')(hM:eG [v0]=false:=by rfl):ao P N ops K (⟨some d,.box el x,ty,pos,af,none⟩::rest) e w:= .Fz hS hx hb rfl hK hM
theorem MX{el:ae}(hS:St w0 w ks)(hx:ev e x= .agg #[v0])(hb:Nat.blt d N=true)(hK:∀A w',w.drawn<=w'.drawn->St w0 w' (Bx el 1 A [v0]::ks)->ao P N ops K rest (bq e d (.pointer A)) w')(hM:eG [v0]=false:=by rfl):ao P N ops K (⟨some d,.box el x,ty,pos,af,none⟩::rest) e w:=by
 have hA:=hS.alloc (Value.agg #[v0]).cells.toList el (by show 1<=maxLen;simp [maxLen]) hM;refine .val (w':=w.alloc (.cells (Value.agg #[v0]).cells el)) ?_ hb (hK _ _ (bj _) (show St w0 _ (⟨_,(Value.agg #[v0]).cells.size,(Value.agg #[v0]).cells.size,el,(Value.agg #[v0]).cells.toList⟩::ks) from by simpa using hA));simp [execOp,Instr.box,newVar,newRow,hx]
theorem gf{el:ae}{s:Nat}[bF P el (.agg #[v0]) s b](hS:St w0 w ks)(hb:Nat.blt d N=true)(hK:∀A w',St w0 w' (Bx el 1 A [v0]::ks)->ao P N ops K rest (bq e d (.pointer A)) w')(hM:eG [v0]=false:=by rfl):ao P N ops K (⟨some d,.alloc el,ty,pos,af,none⟩::rest) e w:= .new (el:=el) (z:= .agg #[v0]) (s:=s) (b:=b) hS hb rfl hK hM
theorem ajn{u:TypeDesc}[bJ P t u]{A:aj}{n n1:Nat}{f:Nat->ad}(hR:Rd w A n f)(hx:ev e x= .pointer (aJ A j))(hj:Nat.blt j n=true)(hv:f j= .slice A1 n1 c1)(hp:wF u=true)(hb:Nat.blt d N=true)(hK:ao P N ops K rest (bq e d (.slice A1 n1 c1)) w):ao P N ops K (⟨some d,.load t x,ty,pos,af,none⟩::rest) e w:= .ld hR hx (by simpa [Nat.blt_eq]using hj) hv hp hb hK
theorem bn{u:TypeDesc}[bJ P t u]{A:aj}{n n1:Nat}{f:Nat->ad}(hR:Rd w A n f)(q9:(ev e x,Nat.blt j n,f j,wF u,Nat.blt d N)=(.pointer (aJ A j),true,.slice A1 n1 c1,true,true))(hK:ao P N ops K rest (bq e d (.slice A1 n1 c1)) w):ao P N ops K (⟨some d,.load t x,ty,pos,af,none⟩::rest) e w:=ajn hR (congrArg (fun p=>p.1) q9) (congrArg (fun p=>p.2.1) q9) (congrArg (fun p=>p.2.2.1) q9) (congrArg (fun p=>p.2.2.2.1) q9) (congrArg (fun p=>p.2.2.2.2) q9) hK
theorem iG{u:TypeDesc}[bJ P t u]{A:aj}{n:Nat}{f:Nat->ad}(hR:Rd w A n f)(hx:ev e x= .pointer (aJ A j))(hj:Nat.blt j n=true)(hv:f j= .int k i)(hp:wF u=true)(hb:Nat.blt d N=true)(hK:ao P N ops K rest (bq e d (.int k i)) w):ao P N ops K (⟨some d,.load t x,ty,pos,af,none⟩::rest) e w:= .ld hR hx (by simpa [Nat.blt_eq]using hj) hv hp hb hK
def rG(vs:List ad)(o:Nat):List ad->List ad
 | []=>vs
 | c::r=>rG (vs.set o c) (o+1) r
theorem TB{k:Ck}(i:Nat):∀(cs:List ad) (ks:List Ck) (vs:List ad) (w:aa) (o:Nat) (p:Addr),St w0 w ks->ks[i]?=some { k with vs:=vs }->aJ k.A o=some p->o+cs.length<=k.n->(∀u∈cs,u.oneCell'=true)->∀m q,aJ k.A m=some q->o=m+ (o - m)->
 m<=o->∃w',(storeCells q cs (o - m)).run P w= .ok () w'/\St w0 w' (ks.set i { k with vs:=rG vs o cs })
 | [],ks,vs,w,o,p,hS,hk,_,_,_,m,q,_,_,_=> ⟨w,by simp [storeCells],by
  have:ks.set i { k with vs:=rG vs o [] }=ks:=by
   apply List.ext_getElem?;intro j;rw [mG]
   split
   ·rename_i e;subst e;rw [hk,ay (gS.1 hk).1];rfl
   ·rfl
  rw [this];exact hS⟩
 | c::r,ks,vs,w,o,p,hS,hk,hp,hl,h1,m,q,hq,ho,hm=>by
  simp only [List.length_cons]at hl;obtain⟨p',na,⟨v,hc⟩,hf,nI⟩:=hS.store i hk (j:=o) (by show o<k.n;omega) c (h1 c (by simp));have Q5:q.add (o - m)=p':=by
   have:aJ (aJ k.A m) (o - m)=some p':=by rw [Te,<-ho];exact na
   rw [hq]at this;simpa [aJ]using this
  have eO:=(gS.1 hk).1
  by_cases hr:r=[]
  ·subst hr;refine⟨_,?_,nI⟩;simp [storeCells,Q5,run_store _ _ _ _ _ (h1 c (by simp)),hc,hf]
  ·have bU:0<r.length:=by cases r with | nil=>exact absurd rfl hr | cons _ _=>simp
   obtain⟨p2,jj⟩:∃p2,aJ k.A (o+1)=some p2:=by
    obtain⟨x,hx,_⟩:=(hS.rd i hk) (o+1) (by show o+1<k.n;omega);exact⟨x,hx⟩
   obtain⟨w2,qm,aB⟩:=TB i r _ (vs.set o c) _ (o+1) p2 nI (by rw [mG];simp [eO]) jj (by omega) (fun u hu=>h1 u (by simp [hu])) m q hq (by omega) (by omega);refine⟨w2,?_,by simpa [rG]using aB⟩;have e1:o+1 - m=o - m+1:=by omega
   rw [e1]at qm;simp [storeCells,Q5,run_store _ _ _ _ _ (h1 c (by simp)),hc,hf,qm]
theorem ao.TT(m:Nat)[bF P t z m b]{a:ag}(i:Nat){k:Ck}{cs:Array ad}(hS:St w0 w ks)(hk:ks[i]?=some k)(ha:ev e a= .pointer (aJ k.A o))(hx:ev e x= .agg cs)(vc:cs.size=m)(vO:cs.toList.all Value.oneCell'=true)(ti:Nat.blt 0 m=true)(B5:Nat.ble (o+m) k.n=true)(hK:∀w',St w0 w' (ks.set i { k with vs:=rG k.vs o cs.toList })->ao P N ops K rest e w'):ao P N ops K (⟨none,.store t a x,ty,pos,af,none⟩::rest) e w:=by
 have hn:0<m/\o+m<=k.n:=⟨by simpa [Nat.blt_eq]using ti,Nat.le_of_ble_eq_true B5⟩;have h1:∀u∈cs.toList,u.oneCell'=true:=fun u hu=>List.all_eq_true.1 vO u hu
 obtain⟨p,hp,_⟩:=(hS.rd i hk) o (by omega);obtain⟨w',qm,nI⟩:=TB (P:=P) (k:=k) i cs.toList ks k.vs w o p hS hk hp (by simp;omega) h1 o p hp (by omega) (by omega);obtain⟨inf,hi,_,hs,_⟩:=bF.get P t;refine .unit (w':=w') ?_ (hK _ nI);rw [Nat.sub_self]at qm;simp [execOp,Instr.storeAt,ha,hx,hp,Instr.sureAddr,storeVar,sizeOf,typeInfo,hi,hs,Value.cells,vc,qm]
theorem cG(m:Nat)[bF P t z m b]{a:ag}(i:Nat){k:Ck}{cs:Array ad}(hS:St w0 w ks)(hk:ks[i]?=some k)(ha:ev e a= .pointer k.A)(hx:ev e x= .agg cs)(vc:cs.size=m)(h1:cs.toList.all Value.oneCell'=true)(ti:Nat.blt 0 m=true)(B5:Nat.ble (0+m) k.n=true)(hK:∀w',St w0 w' (ks.set i { k with vs:=rG k.vs 0 cs.toList })->ao P N ops K rest e w'):ao P N ops K (⟨none,.store t a x,ty,pos,af,none⟩::rest) e w:=
 .TT m i hS hk (by rw [nY];exact ha) hx vc h1 ti B5 hK
theorem kf[bF P t z 1 b]{a:ag}(i:Nat){k:Ck}(hS:St w0 w ks)(hk:ks[i]?=some k)(ha:ev e a= .pointer (aJ k.A j))(hx:ev e x=u)(h1:u.oneCell'=true)(hj:Nat.blt j k.n=true)(hK:∀w',St w0 w' (ks.set i { k with vs:=k.vs.set j u })->ao P N ops K rest e w'):ao P N ops K (⟨none,.store t a x,ty,pos,af,none⟩::rest) e w:= .st hS hk ha hx h1 (by simpa [Nat.blt_eq]using hj) hK
def To(a n:Nat)(R:ad->aa->Prop):jB
 | .normal,e,w=>∃A f,e a= .pointer A/\Rd w A n f/\R (.agg ((List.range n).map f).toArray) w
 | .ret,e,w=>∃A f,e a= .pointer A/\Rd w A n f/\R (.agg ((List.range n).map f).toArray) w
 | _,_,_=>False
theorem rF{a n:Nat}{R:ad->aa->Prop}{A:aj}{f:Nat->ad}(h:e a= .pointer A)(hR:Rd w A n f)(h2:R (.agg ((List.range n).map f).toArray) w):To a n R .ret e w:=⟨A,f,h,hR,h2⟩
theorem TA{fs:Array Field}{n:Nat}[bJ P t (.struct fs)][bF P t z n b]{A:aj}{f:Nat->ad}(hn:0<n)(hR:Rd w A n f):∃q,A=some q/\(loadVar t q).run P w= .ok (.agg ((List.range n).map f).toArray) w:=by
 obtain⟨p,hp,_⟩:=hR 0 hn;obtain⟨q,rfl⟩:∃q,A=some q:=by cases A with | none=>simp [aJ]at hp | some q=>exact⟨q,rfl⟩
 obtain⟨inf,hi,fH,hs,iW⟩:=bF.get P t;have hl:=run_loadCells (P:=P) w q n f (fun j hj=>by
  obtain⟨p,hp,hc⟩:=hR j hj;simp [aJ]at hp;rw [hp];exact hc)
 exact⟨q,O,by simp [loadVar,isAgg,run_underlying (bJ.out (P:=P) (t:=t)),sizeOf,typeInfo,hi,hs,hl]⟩
theorem rB{fn:Func}{R:ad->aa->Prop}{a t n:Nat}{fs:Array Field}[bJ P t (.struct fs)][bF P t z n b](hr:fn.results= #[.cell a t])(zn:Nat.blt 0 n=true):∀x a1 e w,jC N a1 e->To a n R x e w->bodyPost P fn (fun x w'=>∃v,x= .returned v/\R v w') x a1 w:=by
 intro x a1 e w he q;have hn:0<n:=by simpa [Nat.blt_eq]using zn
 have hg:=he.get a;have key:∀(A:aj) (f:Nat->ad),e a= .pointer A->Rd w A n f->(results fn a1.tmps).run P w= .ok (.agg ((List.range n).map f).toArray) w:=by
  intro A f hA hR;obtain⟨q,rfl,hl⟩:=TA (P:=P) (t:=t) hn hR;rw [iR]at hg;simp [results,hr,hg,hA,asAddr,hl]
 cases x<;>first
  | exact q.elim
  | (
   obtain⟨A,f,hA,hR,h2⟩:=q;exact⟨he.defers,_,key A f hA hR,_,O,h2⟩)
def cutAt(A:aj)(c l:Nat):aj:=if c=l then A else aJ A l
theorem Rd.cut{A:aj}{n c l:Nat}{f:Nat->ad}(hR:Rd w A n f)(hl:l<=h)(hn:h<=n)(hc:n<=c):Rd w (cutAt A c l) (h - l) (fun j=>f (l+j)):=fun j hj=>by
 obtain⟨p,hp,vb⟩:=hR (l+j) (by omega);refine⟨p,?_,vb⟩;unfold cutAt;rw [aw (by omega)];cases A with
 | none=>simp [aJ]at hp
 | some q=>
  simp only [aJ,Option.map_some,oO]at hp|-;rw [<-hp];unfold Addr.add
  by_cases nO:l=0<;>by_cases QC:j=0<;>simp [nO,QC,Nat.add_assoc]
theorem cn.cut{A:aj}{n c l:Nat}(hR:cn w A n xs)(hl:l<=h)(hn:h<=n)(hc:n<=c):cn w (cutAt A c l) (h - l) ((xs.drop l).take (h - l)):=
 ⟨by have:=hR.1;simp;omega,(hR.2.cut hl hn hc).congr fun j hj=>by simp [cN,rL,hj]⟩
theorem lQ.cut{A:aj}{n c l:Nat}{xs:List aN}(hR:lQ w A n xs)(hl:l<=h)(hn:h<=n)(hc:n<=c):lQ w (cutAt A c l) (h - l) ((xs.drop l).take (h - l)):=
 ⟨by have:=hR.1;simp;omega,(hR.2.cut hl hn hc).congr fun j hj=>by simp [cN,rL,hj]⟩
theorem Fk{el:ae}[hU:bJ P t (.slice el)][bF P el z 1 b]{lo:ag}{A:aj}{n c:Nat}{l:Int}(hx:ev e x= .slice A n c)(hl:ev e lo= .int k l)(hb:Nat.blt d N=true)(h0:0<=l/\l<=(n:Int))(hK:ao P N ops K rest (bq e d (.slice (cutAt A c l.toNat) (n - l.toNat) (c - l.toNat))) w):ao P N ops K (⟨some d,.slice t x (some lo) none none,ty,pos,af,none⟩::rest) e w:=by
 obtain⟨inf,hi,fH,hs,iW⟩:=bF.get P el;refine .val (w':=w) ?_ hb hK;have:=run_sliceBound (P:=P) w k l n .sliceB h0.1 h0.2;simp [execOp,hx,hl,Instr.sliceAt,run_underlying hU.out,Instr.slice,Instr.sliceBounds,this,sizeOf,typeInfo,hi,hs,cutAt,aJ]
theorem It{el:ae}[hU:bJ P t (.slice el)][bF P el z 1 b]{A:aj}{n c:Nat}{h:Int}(hx:ev e x= .slice A n c)(hh:ev e bX= .int k h)(hb:Nat.blt d N=true)(h0:0<=h/\h<=(c:Int))(hK:ao P N ops K rest (bq e d (.slice A h.toNat c)) w):ao P N ops K (⟨some d,.slice t x none (some bX) none,ty,pos,af,none⟩::rest) e w:=by
 obtain⟨inf,hi,fH,hs,iW⟩:=bF.get P el;refine .val (w':=w) ?_ hb hK;have:=run_sliceBound (P:=P) w k h c .sliceAcap h0.1 h0.2;have hA:A.map (fun x=>x.add 0)=A:=by cases A<;>simp [Addr.add]
 simp [execOp,hx,hh,Instr.sliceAt,run_underlying hU.out,Instr.slice,Instr.sliceBounds,this,sizeOf,typeInfo,hi,hs,hA]
theorem Vb{el:ae}[hU:bJ P t (.slice el)][bF P el z 1 b]{lo:ag}{A:aj}{n c:Nat}{l h:Int}(hx:ev e x= .slice A n c)(hl:ev e lo= .int k l)(hh:ev e bX= .int k' h)(hb:Nat.blt d N=true)(h0:0<=l/\l<=h/\h<=(c:Int))(hK:ao P N ops K rest (bq e d (.slice (cutAt A c l.toNat) (h.toNat - l.toNat) (c - l.toNat))) w):ao P N ops K (⟨some d,.slice t x (some lo) (some bX) none,ty,pos,af,none⟩::rest) e w:=by
 obtain⟨inf,hi,fH,hs,iW⟩:=bF.get P el;refine .val (w':=w) ?_ hb hK;have h1:=run_sliceBound (P:=P) w k' h c .sliceAcap (by omega) h0.2.2;have h2:=run_sliceBound (P:=P) w k l h.toNat .sliceB h0.1 (by omega);simp [execOp,hx,hl,hh,Instr.sliceAt,run_underlying hU.out,Instr.slice,Instr.sliceBounds,h1,h2,sizeOf,typeInfo,hi,hs,cutAt,aJ]
theorem af6{el:ae}[hU:bJ P t (.slice el)][bF P el z 1 b](hz:z.cells= #[z0]){k:Ck}(i:Nat)(hS:St w0 w ks)(hk:ks[i]?=some k)(hM:eG k.vs=false)(he:k.e=el){m:Nat}{f:Nat->ad}(hR:Rd w A' m f)(h1:∀j,j<m->(f j).oneCell'=true)
 (tX:k.n+m<=maxLen) (sg:(k.n+m)*b<=140737488355328) (ty:ae):
 ∃A2 c2 w',(Builtin.append_ #[t,t] ty #[.slice k.A k.n k.c,.slice A' m c']).run P w= .ok (.slice A2 (k.n+m) c2) w'/\St w0 w' (ks.set i ⟨A2,k.n+m,c2,el,k.vs++ (List.range m).map f⟩)/\(k.n=k.c->Below w.heap.size w w'):=by
 subst he;obtain⟨inf,hi,fH,hs,iW⟩:=bF.get P k.e;have Eb:=hS.pY hk hM;have J4:eG (k.vs++ (List.range m).map f)=false:=RN hM (wv fun u hu=>by
  obtain⟨j,hj,rfl⟩:=db.1 hu;exact h1 j (by simpa using hj))
 obtain⟨hl,mZ,mV,h4⟩:=Eb;have ze:=(gS.1 hk).1
 by_cases hm:m=0
 ·subst hm;refine⟨k.A,k.c,w,?_,?_,fun _=>Below.refl _ _⟩
  ·cases A' with
   | none=>cases hkA:k.A<;>simp [Builtin.append_,run_underlying hU.out,sizeOf,typeInfo,hi,Builtin.lenOf,Builtin.firstCells,mZ,storeCells]
   | some a=>
    have nO:=run_loadCells (P:=P) w a 0 f (fun j hj=>by omega);cases hkA:k.A<;>simp [Builtin.append_,run_underlying hU.out,sizeOf,typeInfo,hi,Builtin.lenOf,Builtin.firstCells,mZ,storeCells,loadCells,loadCellsFrom]
  ·have:ks.set i ⟨k.A,k.n+0,k.c,k.e,k.vs++ (List.range 0).map f⟩=ks:=by
    have h5:(⟨k.A,k.n+0,k.c,k.e,k.vs++ (List.range 0).map f⟩:Ck)=k:=by simp
    rw [h5];apply List.ext_getElem?;intro j;rw [mG]
    split
    ·rename_i e;subst e;rw [hk]
     try simp [ze]
    ·rfl
   rw [this];exact hS
 ·obtain⟨a,rfl⟩:∃a,A'=some a:=by
   obtain⟨p,hp,_⟩:=hR 0 (by omega);cases A' with | none=>simp [aJ]at hp | some q=>exact⟨q,rfl⟩
  have ji:((List.range m).map f).length=m:=by simp
  have wi:∀j v,((List.range m).map f)[j]?=some v->w.cell? (a.add j)=some v:=by
   intro j v hj;have ve:j<m:=by have:=(gS.1 hj).1;simpa using this
   obtain⟨p,hp,hc⟩:=hR j ve;simp only [aJ,Option.map_some,oO]at hp;rw [hp,hc,<-hj];simp [ve]
  have vO:∀u∈(List.range m).map f,u.oneCell'=true:=by
   intro u hu;obtain⟨j,hj,rfl⟩:=db.1 hu;exact h1 j (by simpa using hj)
  have fresh:∀(cs:List ad) (c2:Nat),eG cs=false->k.n+m<=c2->c2<=maxLen->cs.length=c2->cs.take (k.n+m)=k.vs++ (List.range m).map f->
   St w0 (w.drew.alloc (.cells cs.toArray k.e)) (ks.set i ⟨some ⟨w.heap.size,0,none⟩,k.n+m,c2,k.e,k.vs++ (List.range m).map f⟩):=by
   intro cs c2 YL h5 h6 h7 h8;have hA:=hS.drew.alloc cs k.e (by omega) YL;have hp:(⟨some ⟨w.heap.size,0,none⟩,cs.length,cs.length,k.e,cs⟩::ks).Perm (k::(ks.set i ⟨some ⟨w.heap.size,0,none⟩,cs.length,cs.length,k.e,cs⟩)):=by
    have gen:∀(l:List Ck) (i:Nat) (x y:Ck),l[i]?=some y->(x::l).Perm (y::l.set i x):=by
     intro l
     induction l with
     | nil=>intro i x y h;simp at h
     | cons u l ih=>
      intro i x y h;cases i with
      | zero=>simp at h;subst h;exact List.Perm.swap _ _ _
      | succ i=>
       simp only [List.getElem?_cons_succ]at h;simp only [List.set_cons_succ];exact(List.Perm.swap _ _ _).trans (((ih i x y h).cons u).trans (List.Perm.swap _ _ _))
    exact gen ks i _ _ hk
   have hB:=(hA.perm hp).tail;refine⟨hB.below,fun x hx=>?_,?_⟩
   ·obtain⟨j,hj,rfl⟩:=fJ.1 hx;have im:j<ks.length:=by simpa using hj
    rw [List.getElem_set]
    split
    ·refine .qq J4 ⟨?_,h5,h6,.inr ⟨w.heap.size,0,cs.toArray,O,hS.below.size,heap_alloc_new w.drew _,by simp;omega,fun q hq=>?_⟩⟩
     ·simp [hl]
     ·have Q3:q<k.n+m:=hq;show cs.toArray[0+q]?=(k.vs++ (List.range m).map f)[q]?;rw [<-h8];simp [rL,Q3]
    ·rename_i bt;refine hB.own _ (fJ.2 ⟨j,by simpa using im,?_⟩);rw [List.getElem_set,aw bt]
   ·have h9:=hB.apart;rw [show(ks.set i ⟨some ⟨w.heap.size,0,none⟩,k.n+m,c2,k.e,k.vs++ (List.range m).map f⟩).filterMap Ck.ik=(ks.set i ⟨some ⟨w.heap.size,0,none⟩,cs.length,cs.length,k.e,cs⟩).filterMap Ck.ik from ?_]
    ·exact h9
    ·have:=F2 Ck.ik (ks.set i ⟨some ⟨w.heap.size,0,none⟩,cs.length,cs.length,k.e,cs⟩) i ⟨some ⟨w.heap.size,0,none⟩,cs.length,cs.length,k.e,cs⟩ ⟨some ⟨w.heap.size,0,none⟩,k.n+m,c2,k.e,k.vs++ (List.range m).map f⟩ (by rw [mG];simp [ze]) O;rw [<-this];simp
  have JS:((k.n+m:Nat):Int)<=9223372036854775807:=by simp only [maxLen]at tX;omega
  rcases h4 with⟨hA,h0⟩ | ⟨g,o,cur,hA,hg,hh,mw,hc⟩
  ·have qk:k.n=0:=by omega
   have Lk:k.vs=[]:=qH (by omega);have hr:=run_append_nil (P:=P) w t ty k.e inf z hU.out hi fH a m c' _ (by rw [ji,hs,Nat.mul_one]) wi (by omega) (by omega) (by rw [iW];rw [qk,Nat.zero_add]at sg;omega);have vd:=grownCap_ge w m 0 k.e;refine⟨_,_,_,?_,fresh (((List.range m).map f)++List.replicate (grownCap w m 0 k.e - m) z0) (grownCap w m 0 k.e) (Et (wv vO) (by intro hn;have:=aO List.length hn;simp at this;omega)) (by omega) (grownCap_le_maxLen w m 0 k.e (by omega)) (by simp;omega) (by rw [Lk,qk];simp),fun _=> (Below.refl w.heap.size w).drew.alloc (bj _) _⟩;have Lo:Builtin.zeroCells z.cells (grownCap w m 0 k.e - m)=(List.replicate (grownCap w m 0 k.e - m) z0).toArray:=by
    rw [hz];simp only [Builtin.zeroCells];exact(show _=_ from by have:=LN z0 (grownCap w m 0 k.e - m);simpa [madeCells]using this)
   rw [hA,h0,qk,Nat.zero_add,hr,Lo,List.append_toArray]
  ·by_cases Ei:k.n+m<=k.c
   ·have hf:=run_firstCells_some (P:=P) w inf.size m a m c' _ (by rw [ji,hs,Nat.mul_one]) wi;have au:=run_storeCells_at P g (o+k.n) k.e ((List.range m).map f) 0 cur w hh (by rw [ji];omega) vO;simp only [Nat.add_zero]at au;refine⟨some ⟨g,o,none⟩,k.c,_,?_,hS.turn (k:=k) (g:=g) hk (by simp [Ck.ik,hA]) (by simp [Ck.ik]) (w':=w.setRow g (cur.toList.take (o+k.n)++ (List.range m).map f++cur.toList.drop (o+k.n+ ((List.range m).map f).length)).toArray) ?_ ?_,fun h=>absurd Ei (by omega)⟩
    ·rw [hA];simp [Builtin.append_,run_underlying hU.out,sizeOf,typeInfo,hi,hs,Builtin.lenOf,Ei,Addr.add_lit];rw [hs]at hf;simp only [fk,pU]at au|-;simp [hf,au]
    ·exact⟨⟨O,O,O,by simp,fun x _ hx=>setRow_other w g x _ (fun e=>hx (by rw [e]))⟩,bj _⟩
    ·refine .qq J4 ⟨by simp [hl],Ei,mV,.inr ⟨g,o,_,O,hg,setRow_heap w g cur _ k.e _ hh,?_,fun j hj=>?_⟩⟩
     ·simp;omega
     ·have im:j<k.n+m:=hj;show((cur.toList.take (o+k.n)++ (List.range m).map f++cur.toList.drop (o+k.n+ ((List.range m).map f).length)).toArray)[o+j]?=(k.vs++ (List.range m).map f)[j]?;have dt:cur.toList.length=cur.size:=by simp
      rw [List.getElem?_toArray]
      by_cases pB:j<k.n
      ·rw [jy,mc (by simp;omega),rL,ay (by omega),mc (by omega)];rw [Array.getElem?_toList];exact hc j pB
      ·rw [jy,lM (by simp;omega),mc (by simp;omega),lM (by omega)]
       congr 1
       simp;omega
   ·have holds:∀j v,k.vs[j]?=some v->w.cell? ((⟨g,o,none⟩:Addr).add j)=some v:=by
     intro j v hj;have pB:j<k.n:=by have:=(gS.1 hj).1;omega
     rw [An];simp only [World.cell?,hh];simpa [hc j pB]using hj
    have hr:=run_append_grow (P:=P) w t ty k.e inf z hU.out hi fH ⟨g,o,none⟩ k.n k.c k.vs (by rw [hl,hs,Nat.mul_one]) holds a m c' _ (by rw [ji,hs,Nat.mul_one]) wi (by omega) JS (growslice_fits (by omega) (by rw [iW];exact sg));have vd:=grownCap_ge w (k.n+m) k.c k.e;refine⟨_,_,_,?_,fresh (k.vs++ (List.range m).map f++List.replicate (grownCap w (k.n+m) k.c k.e - (k.n+m)) z0) (grownCap w (k.n+m) k.c k.e) (Et J4 (by intro hn;have:=aO List.length hn;simp at this;omega)) (by omega) (grownCap_le_maxLen w (k.n+m) k.c k.e tX) (by simp [hl];omega) (by rw [wT (by simp [hl])];exact jW (by simp [hl])),fun _=> (Below.refl w.heap.size w).drew.alloc (bj _) _⟩;have Lo:Builtin.zeroCells z.cells (grownCap w (k.n+m) k.c k.e - (k.n+m))=(List.replicate (grownCap w (k.n+m) k.c k.e - (k.n+m)) z0).toArray:=by
     rw [hz];simp only [Builtin.zeroCells];exact(show _=_ from by have:=LN z0 (grownCap w (k.n+m) k.c k.e - (k.n+m));simpa [madeCells]using this)
    rw [hA,hr,Lo,List.append_toArray,List.append_toArray]
theorem ao.app{el:ae}[hU:bJ P t (.slice el)][bF P el z 1 b]{k:Ck}(i:Nat){m:Nat}{f:Nat->ad}(hS:St w0 w ks)(hk:ks[i]?=some k)(hR:Rd w A' m f)(hx:ev e x= .slice k.A k.n k.c)(hy:ev e y= .slice A' m c')(he:k.e=el)(hz:z.cells= #[z0])(h1:∀j,j<m->(f j).oneCell'=true)(tX:k.n+m<=maxLen)(sg:(k.n+m)*b<=140737488355328)(hb:Nat.blt d N=true)(hK:∀A2 c2 w',St w0 w' (ks.set i ⟨A2,k.n+m,c2,el,k.vs++ (List.range m).map f⟩)->ao P N ops K rest (bq e d (.slice A2 (k.n+m) c2)) w')(hM:eG k.vs=false:=by first | rfl | exact sA _ | exact Es _ | exact xZ _):
 ao P N ops K (⟨some d,.call ⟨.builtin .append, #[x,y], #[t,t]⟩,ty,pos,af,none⟩::rest) e w:=by
 obtain⟨A2,c2,w',hr,nI,_⟩:=af6 (P:=P) (t:=t) hz i hS hk hM he hR h1 tX sg ty (c':=c');refine .val (w':=w') ?_ hb (hK _ _ _ nI);simp [execOp,resolve,invoke,builtin,hx,hy,hr]
end
inductive Yd where
 | ex (v:ad)
 | pr (p:ad->aa->Prop)
def Yd.holds:Yd->ad->aa->Prop
 | .ex v,u,_=>u=v
 | .pr p,u,w=>p u w
def Yd.qo:Yd->Prop
 | .ex _=>True
 | .pr p=>∀v w w',p v w->Below w.heap.size w w'->p v w'
theorem Yd.ada(v:ad):(Yd.ex v).qo:=True.intro
theorem lx{v:ad}{l:List Yd}(h:∀y∈l,y.qo):∀y∈Yd.ex v::l,y.qo:=cI.2 ⟨True.intro,h⟩
theorem Yd.cV{p:ad->aa->Prop}(h:∀v w w',p v w->Below w.heap.size w w'->p v w'):(Yd.pr p).qo:=h
abbrev xU:Yd:= .ex undef
abbrev xI(i:Int):Yd:= .ex (ak i)
abbrev xB(b:Bool):Yd:= .ex (.bool b)
abbrev xP(a:aj):Yd:= .ex (.pointer a)
abbrev xS(a:aj)(n c:Nat):Yd:= .ex (.slice a n c)
theorem Vy{y:Yd}(hl:y.qo){v:ad}{w w':aa}(h:y.holds v w)(hb:Below w.heap.size w w'):y.holds v w':=by
 cases y with
 | ex u=>exact h
 | pr p=>exact hl v w w' h hb
def gB(ds:List Nat)(i:Nat):Bool:=match ds with
 | []=>false
 | d::r=>bif Nat.beq i d then true else gB r i
theorem x8{ds:List Nat}{i:Nat}:gB ds i=true↔i∈ds:=by
 induction ds with
 | nil=>simp [gB]
 | cons d r ih=>
  simp only [gB,jq];cases hb:Nat.beq i d with
  | true=>simp [oe hb]
  | false=>
   have:i≠d:=fun e=>by subst e;simp at hb
   simp [this,ih]
def mix(e1 e:Env)(ds:List Nat):Env:=fun i=>bif gB ds i then e1 i else e i
def fo(o:Oper):List Edge:=o.after.toList.filter (Region.binds .any)
theorem qp{o:Oper}{ed:Edge}:ed∈fo o↔ed∈o.after/\Region.binds .any ed=true:=by
 simp [fo]
def eW(o:Oper):Nat:=match o.dst with
 | some d=>d
 | none=>0
def N0(N:Nat)(l:List Oper):Bool:=
 l.all (fun o=>match o.dst with | some d=>Nat.blt d N | none=>false) && decide ((l.map eW).Nodup) && (l.zipIdx.all fun p=> (fo p.1).all fun ed=>Nat.blt ed.on p.2)
def tR(l:List Oper)(ys:List Yd):List Edge->List (Nat×ad)
 | []=> []
 | ed::r=>match ys[ed.on]? with
  | some (.ex v)=> (((l[ed.on]?).map eW).getD 0,v)::tR l ys r
  | _=>tR l ys r
def uV:List Oper->List Yd->(Nat->ad)->Nat->List (Nat×ad)
 | o::l,.ex v::ys,u,i=> (eW o,v)::uV l ys u (i+1)
 | o::l,.pr _::ys,u,i=> (eW o,u i)::uV l ys u (i+1)
 | _,_,_,_=> []
def jt(l:List Oper):Nat->Nat->Nat->Bool
 | 0,_,_=>false
 | f+1,k,j=>match l[k]? with
  | some o=> (fo o).any fun ed=>Nat.beq ed.on j || jt l f ed.on j
  | none=>false
theorem xc{l:List Oper}{listed:Array Bool}(dt:∀(i:Nat) (o:Oper),listed.getD i false=true->l[i]?=some o->∀ed∈fo o,listed.getD ed.on false=true):∀(f k j:Nat),jt l f k j=true->listed.getD k false=true->listed.getD j false=true
 | 0,k,j,h,_=>by simp [jt]at h
 | f+1,k,j,h,hk=>by
  simp only [jt]at h
  split at h
  ·rename_i o ho;rw [List.any_eq_true]at h;obtain⟨ed,fF,h⟩:=h;have h1:=dt k o hk ho ed fF;rw [Bool.or_eq_true]at h;rcases h with h | h
   ·rw [<-oe h];exact h1
   ·exact xc dt f ed.on j h h1
  ·cases h
theorem IH{l:List Oper}{listed:Array Bool}(dt:∀(i:Nat) (o:Oper),listed.getD i false=true->l[i]?=some o->∀ed∈fo o,listed.getD ed.on false=true){k:Nat}{o:Oper}(ho:l[k]?=some o)(hr:∀ed∈fo o,listed.getD ed.on false=true):∀(f j:Nat),jt l f k j=true->listed.getD j false=true
 | 0,j,h=>by simp [jt]at h
 | f+1,j,h=>by
  simp only [jt,ho]at h;rw [List.any_eq_true]at h;obtain⟨ed,fF,h⟩:=h;have h1:=hr ed fF;rw [Bool.or_eq_true]at h;rcases h with h | h
  ·rw [<-oe h];exact h1
  ·exact xc dt f ed.on j h h1
section
variable{i id:Nat}{w1 w2 w:aa}{y:Yd}{ops:Array Oper}{o:Oper}
variable {P:Program} {N:Nat} {e:Env} {w:aa}
def gz(i:Nat)(e1:Env)(w1:aa)(d:Nat)(y:Yd):Env->aa->Prop:=fun e2 w2=>Below w1.heap.size w1 w2/\y.holds (e2 d) w2/\∀j,j≠d->e2 j=e1 j
theorem gz.dn{e1:Env}{d:Nat}{v:ad}(hb:Below w1.heap.size w1 w2)(hv:y.holds v w2):gz i e1 w1 d y (bq e1 d v) w2:=by
 refine⟨hb,?_,fun j hj=>?_⟩
 ·have:bq e1 d v d=v:=by unfold bq;rw [Nat.beq_refl];rfl
  rw [this];exact hv
 ·have:Nat.beq j d=false:=by
   cases h:Nat.beq j d with
   | false=>rfl
   | true=>exact absurd (oe h) hj
  unfold bq;rw [this];rfl
theorem d0{e1:Env}{d:Nat}{v:ad}(hv:y.holds v w1):gz i e1 w1 d y (bq e1 d v) w1:=gz.dn (Below.refl _ _) hv
theorem Az{e1:Env}{d:Nat}{v:ad}(hv:y.holds v w1:=by exact O):ao P N ops (gz i e1 w1 d y) [] (bq e1 d v) w1:=ao.n (gz.dn (Below.refl _ _) hv)
def uE(ops:Array Oper)(N:Nat)(e:Env)(o:Oper):Option (Nat×ad):=
 match o.guard with
 | none=>sI N e o
 | some (j,want)=>match o.dst,(ops[j]?).bind (·.dst)with
  | some d,some dj=> (match Nat.blt dj N,Nat.blt d N with
   | true,true=> (match e dj with
    | .bool b=> (match b,want with
     | true,true=>sI N e ⟨some d,o.op,o.type,o.pos,o.after,none⟩
     | false,false=>sI N e ⟨some d,o.op,o.type,o.pos,o.after,none⟩
     | true,false=>some (d,undef)
     | false,true=>some (d,undef))
    | .tuple vs=> (match vs.toList with
     | []=>some (d,undef)
     | _=>none)
    | _=>none)
   | _,_=>none)
  | _,_=>none
theorem ao.uE{K:Env->aa->Prop}{e1:Env}{d:Nat}{v:ad}(h:uE ops N e1 o=some (d,v))(hK:K (bq e1 d v) w1):ao P N ops K [o] e1 w1:=by
 obtain⟨dst,op,ty,pos,af,gd⟩:=o;unfold Vc.uE at h
 split at h
 ·exact .sI h (ao.n hK)
 rename_i j want hg;simp only at hg;subst hg
 split at h
 ·rename_i d' dj hd hj;simp only at hd;subst hd
  split at h
  ·rename_i eO hb
   split at h
   ·rename_i b he
    split at h
    ·exact ajf hj eO he (.sI h (ao.n hK))
    ·exact ajf hj eO he (.sI h (ao.n hK))
    ·simp only [oO,Prod.mk.injEq]at h;obtain⟨rfl,rfl⟩:=h;exact ajg hj eO he O hb (ao.n hK)
    simp only [oO,Prod.mk.injEq]at h;obtain⟨rfl,rfl⟩:=h;exact ajg hj eO he O hb (ao.n hK)
   ·rename_i vs he
    split at h
    ·rename_i hv;have hu:vs= #[]:=by cases vs;simp only at hv;rw [hv]
     subst hu;simp only [oO,Prod.mk.injEq]at h;obtain⟨rfl,rfl⟩:=h;exact fm hj eO he hb (ao.n hK)
    cases h
   cases h
  cases h
 cases h
theorem TU{e1:Env}{d:Nat}{v:ad}(h:uE ops N e1 o=some (d,v)):o.dst=some d:=by
 have key:∀(o:Oper),sI N e1 o=some (d,v)->o.dst=some d:=fun o h=>by
  unfold sI at h
  split at h
  ·rename_i d' hg hd
   split at h
   ·split at h
    ·simp only [oO,Prod.mk.injEq]at h;rw [hd,h.1]
    cases h
   cases h
  cases h
 unfold uE at h
 split at h
 ·exact key _ h
 split at h
 ·rename_i d' dj hd hj;rw [hd]
  split at h
  ·split at h
   ·split at h
    ·exact key _ h
    ·exact key _ h
    ·simp only [oO,Prod.mk.injEq]at h;rw [h.1]
    simp only [oO,Prod.mk.injEq]at h;rw [h.1]
   ·split at h
    ·simp only [oO,Prod.mk.injEq]at h;rw [h.1]
    cases h
   cases h
  cases h
 cases h
theorem Dk{e1:Env}{d:Nat}{v:ad}(h:uE ops N e1 o=some (d,v))(hv:y.holds v w1):ao P N ops (gz i e1 w1 d y) [o] e1 w1:= .uE h (gz.dn (Below.refl _ _) hv)
def Vz:Yd->Bool
 | .ex _=>true
 | .pr _=>false
theorem fE{l:List Yd}(h:l.all Vz=true):∀y∈l,y.qo:=fun y hy=>by
 have:=List.all_eq_true.1 h y hy;cases y with
 | ex v=>exact True.intro
 | pr p=>cases this
def CR(P:Program)(N:Nat)(l:List Oper)(ys:List Yd)(e:Env)(w:aa):Nat->List Oper->Prop
 | _,[]=>True
 | i,o::r=> (∀e1 w1,Below w.heap.size w w1->(∀j,j<l.length->gB ((fo o).map (·.on)) j=true->∀(y:Yd) (o':Oper),ys[j]?=some y->l[j]?=some o'->y.holds (e1 (eW o')) w1)->(∀(j:Nat) (o':Oper),l[j]?=some o'->jt l l.length j i=true->e1 (eW o')=e (eW o'))-> 
  ao P N l.toArray (gz i (ext (mix e1 e (l.map eW)) (tR l ys (fo o))) w1 (eW o) (ys.getD i (.pr fun _ _=>True))) [o] (ext (mix e1 e (l.map eW)) (tR l ys (fo o))) w1)/\CR P N l ys e w (i+1) r
theorem Dr{l:List Oper}{ys:List Yd}{d:Nat}{v:ad}(h:(ys.getD i (.pr fun _ _=>True),fun e1=>uE l.toArray N (ext (mix e1 e (l.map eW)) (tR l ys (fo o))) o)=(.ex v,fun _=>some (d,v))):∀e1 w1,Below w.heap.size w w1->(∀j,j<l.length->gB ((fo o).map (·.on)) j=true->∀(y:Yd) (o':Oper),ys[j]?=some y->l[j]?=some o'->y.holds (e1 (eW o')) w1)->(∀(j:Nat) (o':Oper),l[j]?=some o'->jt l l.length j i=true->e1 (eW o')=e (eW o'))->ao P N l.toArray (gz i (ext (mix e1 e (l.map eW)) (tR l ys (fo o))) w1 (eW o) (ys.getD i (.pr fun _ _=>True))) [o] (ext (mix e1 e (l.map eW)) (tR l ys (fo o))) w1:=fun e1 w1 _ _ _=>by
 have h1:=congrFun (Prod.mk.inj h).2 e1;have hd:eW o=d:=by unfold eW;rw [TU h1]
 rw [hd,(Prod.mk.inj h).1];exact Dk h1 rfl
theorem CR.get{l:List Oper}{ys:List Yd}:∀ {r:List Oper} {i:Nat},CR P N l ys e w i r->∀k o,r[k]?=some o->∀e1 w1,Below w.heap.size w w1->(∀j,j<l.length->gB ((fo o).map (·.on)) j=true->∀(y:Yd) (o':Oper),ys[j]?=some y->l[j]?=some o'->y.holds (e1 (eW o')) w1)->(∀(j:Nat) (o':Oper),l[j]?=some o'->jt l l.length j (i+k)=true->e1 (eW o')=e (eW o'))-> 
 ao P N l.toArray (gz (i+k) (ext (mix e1 e (l.map eW)) (tR l ys (fo o))) w1 (eW o) (ys.getD (i+k) (.pr fun _ _=>True))) [o] (ext (mix e1 e (l.map eW)) (tR l ys (fo o))) w1
 | [],_,_,k,o,hk=>by simp at hk
 | x::r,i,h,0,o,hk=>by simp at hk;subst hk;exact h.1
 | x::r,i,h,k+1,o,hk=>by
  have:=CR.get h.2 k o (by simpa using hk);simpa [Nat.add_assoc,Nat.add_comm 1 k]using this
theorem Io{a:Act}{K K2:Act->aa->Prop}{Q Q2:Exit->Act->aa->Prop}(h:o.wp P a w K Q)(hK:∀a w,K a w->K2 a w)(hQ:∀x a w,x≠ .normal->¬Q x a w):o.wp P a w K2 Q2:=by
 unfold Oper.wp at*;generalize (execOp a.eval o).run P w=r at*;cases r with
 | ok n w'=>
  cases n<;>simp only [Oper.upon]at h|-<;>first
   | exact hK _ _ h
   | (
    refine Calls.mono h fun x Ia hx=>?_
    cases x with
    | returned v=>exact hK _ _ hx
    | panicked ch=>exact absurd hx (hQ _ _ _ (by simp))
    | outgrown=>obtain⟨a0,w0,hx⟩:=hx;exact absurd hx (hQ _ _ _ (by simp)))
   | exact Rows.mono h fun v Ia hx=>hK _ _ hx
 | halt x w'=>
  cases x<;>simp only [Oper.upon]at h|-
  exact absurd h (hQ _ _ _ (by simp))
theorem Hy{e1 e:Env}{ds:List Nat}(h:∀j,gB ds j=false->e1 j=e j):mix e1 e ds=e1:=by
 funext j;unfold mix;cases hm:gB ds j with
 | true=>rfl
 | false=>exact(h j hm).symm
theorem NY{l:List Oper}{ys:List Yd}{e1:Env}{w1:aa}:∀(af:List Edge),(∀ed∈af,ed.on<l.length)->(∀j,gB (af.map (·.on)) j=true->∀(y:Yd) (o':Oper),ys[j]?=some y->l[j]?=some o'->y.holds (e1 (eW o')) w1)->Mt e1 (tR l ys af)
 | [],_,_=>av
 | ed::r,eO,h=>by
  have hr:=NY r (fun x hx=>eO x (pj _ hx)) (fun j hj=>h j (by rw [x8]at hj|-;exact pj _ hj));unfold tR
  split
  ·rename_i v hy;have hl:=eO ed (by simp);refine⟨?_,hr⟩;rw [fS hl];exact h ed.on (by rw [x8];simp) _ _ hy (fS hl)
  ·exact hr
theorem Ob{e1 e:Env}{w1:aa}:∀(l:List Oper) (ys:List Yd) (i:Nat),l.length=ys.length->(l.map eW).Nodup->(∀(k:Nat) (y:Yd) (o:Oper),ys[k]?=some y->l[k]?=some o->y.holds (e1 (eW o)) w1)->
 ∃u:Nat->ad,ext e (uV l ys u i)=mix e1 e (l.map eW)/\(∀(k:Nat) (o:Oper),l[k]?=some o->u (i+k)=e1 (eW o))
 | [],[],i,_,_,_=> ⟨fun _=>undef,by funext j;rfl,fun k o h=>by simp at h⟩
 | [],y::ys,i,hl,_,_=>by simp at hl
 | o::l,[],i,hl,_,_=>by simp at hl
 | o::l,y::ys,i,hl,hn,h=>by
  simp only [List.map_cons,nt]at hn;obtain⟨u,hu,jZ⟩:=Ob (e1:=e1) (e:=e) (w1:=w1) l ys (i+1) (by simpa using hl) hn.2 (fun k y o hy ho=>h (k+1) y o (by simpa using hy) (by simpa using ho));have h0:=h 0 y o O O;have I6:∀(l:List Oper) (ys:List Yd) (i:Nat) (u u':Nat->ad),(∀k,i<=k->u k=u' k)->uV l ys u i=uV l ys u' i:=by
   intro l
   induction l with
   | nil=>intros;rfl
   | cons o l ih=>
    intro ys i u u' hk;cases ys with
    | nil=>rfl
    | cons y ys=>
     cases y with
     | ex v=>simp only [uV];rw [ih ys (i+1) u u' (fun k eN=>hk k (by omega))]
     | pr p=>simp only [uV];rw [ih ys (i+1) u u' (fun k eN=>hk k (by omega)),hk i (by omega)]
  refine⟨fun k=>if k=i then e1 (eW o)else u k,?_,fun k o' hk=>?_⟩
  ·have hc:=I6 l ys (i+1) (fun k=>if k=i then e1 (eW o)else u k) u (fun k hk=>by rw [aw (by omega)]);have pG:∀v,v=e1 (eW o)->bq (mix e1 e (l.map eW)) (eW o) v=mix e1 e ((o::l).map eW):=by
    intro v hv;funext j;simp only [bq,mix,List.map_cons,gB];cases hb:Nat.beq j (eW o)with
    | true=>rw [oe hb,hv];rfl
    | false=>rfl
   cases y with
   | ex v=>
    simp only [uV,ext,hc,hu];exact pG v h0.symm
   | pr p=>
    simp only [uV,ext,hc,hu,ay];exact pG _ O
  ·cases k with
   | zero=>simp at hk;subst hk;simp
   | succ k=>
    have:=jZ k o' (by simpa using hk);show(if i+ (k+1)=i then _ else u (i+ (k+1)))=_;rw [aw (by omega),<-this];congr 1;omega
theorem Bb(p p':Nat->Bool)(i:Nat)(hi:p i=false)(hp:∀k,p' k=if k=i then true else p k):∀(l:List Nat),l.Nodup->i∈l->l.countP p'=l.countP p+1
 | [],_,h=>by cases h
 | x::l,hn,h=>by
  have aaS:∀(l:List Nat),¬i∈l->l.countP p'=l.countP p:=by
   intro l hl;exact List.countP_congr fun k hk=>by rw [hp k,aw (by rintro rfl;exact hl hk)]
  simp only [nt]at hn;simp only [List.countP_cons]
  by_cases hx:x=i
  ·subst hx;rw [aaS l hn.1,hp x,ay rfl,hi];simp
  ·have KC:i∈l:=by
    rcases jq.1 h with h | h
    ·exact absurd h.symm hx
    ·exact h
   rw [Bb p p' i hi hp l hn.2 KC,hp x,aw hx];omega
theorem ajp{l:List Oper}{Q:jB}(ys:List Yd)(hm:P.follows .mixedOrders=true)(dO:N0 N l=true)(hlen:Nat.beq l.length ys.length=true)(GW:∀y∈ys,y.qo)
 (Lb:CR P N l ys e w 0 l) (y8:∀u w1,Below w.heap.size w w1->(∀(k:Nat) (p:ad->aa->Prop),ys[k]?=some (Yd.pr p)->p (u k) w1)->Q .normal (ext e (uV l ys u 0)) w1):Cd P N (.region id l.toArray true) Q e w:= .mk' fun a ha=>by
 have we:l.length=ys.length:=oe hlen;simp only [N0,Bool.and_eq_true,List.all_eq_true,kU]at dO;obtain⟨⟨h1,h2⟩,h3⟩:=dO;have Z5:∀(i:Nat) (o:Oper),l[i]?=some o->∃d,o.dst=some d/\eW o=d/\d<N:=by
  intro i o ho;have:=h1 o (List.mem_of_getElem? ho);cases hd:o.dst with
  | none=>rw [hd]at this;cases this
  | some d=>rw [hd]at this;exact⟨d,rfl,by simp [eW,hd],by simpa [Nat.blt_eq]using this⟩
 have ZG:∀(i:Nat) (o:Oper),l[i]?=some o->∀ed∈fo o,ed.on<i/\Region.binds .any ed=true:=by
  intro i o ho ed fF;have:=h3 (o,i) (by
   obtain⟨hi,GR⟩:=gS.1 ho;rw [List.mem_iff_getElem?];exact⟨i,by simp [ho]⟩)
  exact⟨by simpa [Nat.blt_eq]using this ed fF,(qp.1 fF).2⟩
 have vX:∀(i:Nat) (o:Oper),l[i]?=some o->∀ed∈fo o,ed.on<i:=fun i o ho ed fF=> (ZG i o ho ed fF).1
 refine wp_region_any hm ?_;have key:∀(fuel:Nat) (listed:Array Bool) (a1:Act) (e1:Env) (w1:aa),jC N a1 e1->Below w.heap.size w w1->(∀j,gB (l.map eW) j=false->e1 j=e j)->listed.size=l.length->
  (∀(i:Nat) (y:Yd) (o:Oper),listed.getD i false=true->ys[i]?=some y->l[i]?=some o->y.holds (e1 (eW o)) w1)->(∀(i:Nat) (o:Oper),listed.getD i false=true->l[i]?=some o->∀ed∈fo o,listed.getD ed.on false=true)->(∀(i:Nat) (o:Oper),listed.getD i false=false->l[i]?=some o->e1 (eW o)=e (eW o))->(l.length - fuel<=(List.range l.length).countP fun i=>listed.getD i false)->
  wpAny P .any l.toArray (low N Q) fuel listed a1 w1:=by
  have mW:∀(listed:Array Bool) (a1:Act) (e1:Env) (w1:aa),jC N a1 e1->Below w.heap.size w w1->(∀j,gB (l.map eW) j=false->e1 j=e j)->
   (∀(i:Nat) (y:Yd) (o:Oper),listed.getD i false=true->ys[i]?=some y->l[i]?=some o->y.holds (e1 (eW o)) w1)->(∀i,i<l.length->listed.getD i false=true)->low N Q .normal a1 w1:=by
   intro listed a1 e1 w1 hr hb oq hS eu;obtain⟨u,hu,jZ⟩:=Ob (e1:=e1) (e:=e) (w1:=w1) l ys 0 we h2 (fun k y o hy ho=>hS k y o (eu k (gS.1 ho).1) hy ho);refine⟨e1,hr,?_⟩;have:=y8 u w1 hb (fun k p hk=>by
    have jY:k<l.length:=by rw [we];exact(gS.1 hk).1
    have h5:=hS k _ l[k] (eu k jY) hk (fS jY);have h6:=jZ k l[k] (fS jY);rw [Nat.zero_add]at h6;rw [h6];exact h5)
   rw [hu,Hy oq]at this;exact this
  have Eh:∀(listed:Array Bool),listed.size=l.length->Region.ready .any l.toArray listed=[]->∀i,i<l.length->listed.getD i false=true:=by
   intro listed mw uk i
   induction i using Nat.strongRecOn with
   | _ i ih=>
    intro hi;cases xK:listed.getD i false with
    | true=>rfl
    | false=>
     exfalso;have:i∈Region.ready .any l.toArray listed:=by
      rw [mem_ready];refine⟨?_,l[i],by simp [hi],fun ed fF s9=>ih ed.on (vX i _ (fS hi) ed (qp.2 ⟨fF,s9⟩)) (by have:=vX i _ (fS hi) ed (qp.2 ⟨fF,s9⟩);omega)⟩;rw [iR,qF (by omega)]at xK|-;exact xK
     rw [uk]at this;cases this
  intro fuel
  induction fuel with
  | zero=>
   intro listed a1 e1 w1 hr hb oq mw hS dt zw mo;have eu:∀i,i<l.length->listed.getD i false=true:=by
    have h4:(List.range l.length).countP (fun i=>listed.getD i false)=(List.range l.length).length:=by
     have:=List.countP_le_length (p:=fun i=>listed.getD i false) (l:=List.range l.length);simp at this mo|-;omega
    rw [List.countP_eq_length]at h4;intro i hi;exact h4 i (by simpa using hi)
   refine⟨?_,mW listed a1 e1 w1 hr hb oq hS eu⟩;rw [List.eq_nil_iff_forall_not_mem];intro i hi;obtain⟨h5,o,ho,_⟩:=mem_ready.1 hi;have re:i<l.length:=by
    rcases Nat.lt_or_ge i l.length with h | h
    ·exact h
    ·simp [mF h]at ho
   have h6:=eu i re;rw [iR,qF (by omega)]at h5 h6;simp at h5 h6;rw [h5]at h6;cases h6
  | succ fuel ih=>
   intro listed a1 e1 w1 hr hb oq mw hS dt zw mo;refine⟨fun uk=>mW listed a1 e1 w1 hr hb oq hS (Eh listed mw uk),fun i hi=>?_⟩;obtain⟨a6,o,ho,vU⟩:=mem_ready.1 hi;have iq:l[i]?=some o:=by simpa using ho
   have re:i<l.length:=(gS.1 iq).1;obtain⟨d,hd,hdo,Z1⟩:=Z5 i o iq;have Qd:∀j,gB ((fo o).map (·.on)) j=true->∀(y:Yd) (o':Oper),ys[j]?=some y->l[j]?=some o'->y.holds (e1 (eW o')) w1:=by
    intro j hj y o' hy vh;rw [x8,db]at hj;obtain⟨ed,fF,rfl⟩:=hj;exact hS _ y o' (vU ed (qp.1 fF).1 (qp.1 fF).2) hy vh
   have nh:∀ed∈fo o,listed.getD ed.on false=true:=fun ed fF=>vU ed (qp.1 fF).1 (qp.1 fF).2
   have tp:listed.getD i false=false:=by
    have h5:=a6;rw [iR,qF (by omega)]at h5|-;exact h5
   have pA:∀k,(listed.setIfInBounds i true).getD k false=if k=i then true else listed.getD k false:=by
    intro k;rw [iR,vx]
    by_cases e6:k=i
    ·subst e6;rw [ay rfl,ay (by omega),ay rfl];rfl
    ·rw [aw (fun e=>e6 e.symm),aw e6,<-iR]
   have au:=Lb.get i o iq e1 w1 hb (fun j _ hj=>Qd j hj) (fun j o' hj vV=>by
    refine zw j o' ?_ hj;cases vf:listed.getD j false with
    | false=>rfl
    | true=>
     have:=xc dt _ _ _ vV vf;rw [Nat.zero_add,tp]at this;cases this)
   rw [Hy oq,yE (NY (fo o) (fun ed fF=>by have:=vX i o iq ed fF;omega) Qd),Nat.zero_add]at au;have pa:=au.run a1 hr;have vg:∀a2 w2,(∃e2,jC N a2 e2/\gz i e1 w1 (eW o) (ys.getD i (.pr fun _ _=>True)) e2 w2)->wpAny P .any l.toArray (low N Q) fuel (listed.setIfInBounds i true) a2 w2:=by
    intro a2 w2 ⟨e2,pF,dS,wo,BE⟩;have iJ:Below w.heap.size w w2:=hb.trans (dS.mono hb.size);refine ih _ a2 e2 w2 pF iJ (fun j hj=>?_) (by simpa using mw) (fun k y o' hk hy dO=>?_) (fun k o' hk dO ed fF=>?_) (fun k o' hk dO=>?_) ?_
    ·have bt:j≠eW o:=by
      rintro rfl;have:gB (l.map eW) (eW o)=true:=by rw [x8];exact db.2 ⟨o,List.mem_of_getElem? iq,O⟩
      rw [this]at hj;cases hj
     rw [BE j bt];exact oq j hj
    ·by_cases e6:k=i
     ·subst e6;rw [iq]at dO;cases dO;have:ys.getD k (.pr fun _ _=>True)=y:=by simp [cN,hy]
      rw [this]at wo;exact wo
     ·have eN:listed.getD k false=true:=by
       rw [iR,vx,aw (by omega),<-iR]at hk;exact hk
      have h7:=hS k y o' eN hy dO;have bt:eW o'≠eW o:=by
       intro heq;have jY:=(gS.1 dO).1;have h9:k=i:=(List.getElem_inj (xs:=l.map eW) (h₀:=by simpa using jY) (h₁:=by simpa using re) h2).1 (by
        have e1:=(gS.1 dO).2;have e2:=(gS.1 iq).2;simp [e1,e2,heq])
       exact e6 h9
      rw [BE _ bt];exact Vy (GW y (List.mem_of_getElem? hy)) h7 dS
    ·rw [pA]
     by_cases xG:ed.on=i
     ·rw [ay xG]
     ·rw [aw xG]
      by_cases e6:k=i
      ·subst e6;rw [iq]at dO;cases dO;exact nh ed fF
      ·rw [pA,aw e6]at hk;exact dt k o' hk dO ed fF
    ·rw [pA]at hk
     by_cases e6:k=i
     ·rw [ay e6]at hk;cases hk
     ·rw [aw e6]at hk;rw [BE _ (fun heq=>by
       have jY:=(gS.1 dO).1;have h9:k=i:=(List.getElem_inj (xs:=l.map eW) (h₀:=by simpa using jY) (h₁:=by simpa using re) h2).1 (by
        have e1:=(gS.1 dO).2;have e2:=(gS.1 iq).2;simp [e1,e2,heq])
       exact e6 h9)]
      exact zw k o' hk dO
    ·have DV:(List.range l.length).countP (fun k=> (listed.setIfInBounds i true).getD k false)=(List.range l.length).countP (fun k=>listed.getD k false)+1:=by
      refine Bb (fun k=>listed.getD k false) (fun k=> (listed.setIfInBounds i true).getD k false) i ?_ (fun k=>?_) _ List.nodup_range (by simpa using re)
      ·have h5:=a6;show listed.getD i false=false;rw [iR,qF (by omega)]at h5|-;exact h5
      ·show(listed.setIfInBounds i true).getD k false=if k=i then true else listed.getD k false
       rw [iR,vx]
       by_cases e6:k=i
       ·subst e6;rw [ay rfl,ay (by omega),ay rfl];rfl
       ·rw [aw (fun e=>e6 e.symm),aw e6,<-iR]
     rw [DV];omega
   unfold wpOp;rw [ho];unfold wpList at pa;show if _ then _ else _
   by_cases hw:Region.wanted o (yielded l.toArray a1.tmps)=true
   ·rw [ay hw]at pa|-;rcases pa with h5 | ⟨_,a0,w0,h5⟩
    ·refine .inl (Io h5 (fun a2 w2 hx=>?_) (fun x a w hx hq=>hx hq.1));exact vg a2 w2 hx.2
    ·exact absurd h5.1 (by simp)
   ·rw [aw hw]at pa|-;exact vg _ _ pa.2
 refine key l.length (Array.replicate l.length false) a e _ ha ⟨⟨O,O,O,bj _,fun _ _=>O⟩,fun _=>Nat.le_add_right _ _⟩ (fun _ _=>O) (by simp) (fun i y o hi=>?_) (fun i o hi=>?_) (fun _ _ _ _=>O) (by omega)
 ·exfalso;rw [iR,Array.getElem?_replicate]at hi
  split at hi<;>simp at hi
 ·exfalso;rw [iR,Array.getElem?_replicate]at hi
  split at hi<;>simp at hi
theorem eY{l:List Oper}{Q:jB}(ys:List Yd)(hlen:Nat.beq l.length ys.length=true)(GW:∀y∈ys,y.qo)(Lb:CR P N l ys e w 0 l)(y8:∀u w1,Below w.heap.size w w1->(∀(k:Nat) (p:ad->aa->Prop),ys[k]?=some (Yd.pr p)->p (u k) w1)->Q .normal (ext e (uV l ys u 0)) w1)(hm:P.follows .mixedOrders=true:=by kernel_rfl)(dO:N0 N l=true:=by kernel_rfl):Cd P N (.region id l.toArray true) Q e w:=ajp ys hm dO hlen GW Lb y8
theorem tG{α:Type}{x y:Code}{Q:jB}(F:α->List (Nat×ad))(I:α->aa->Prop)(hx:Cd P N x (zV (fun e' w'=>∃s,Mt e' (F s)/\I s w') Q) e w)
 (hy:∀s e' w',I s w'->Cd P N y Q (ext e' (F s)) w'):Cd P N (.seq x y) Q e w:=
 .seq (hx.mono fun ex e' w' q=>by
  cases ex<;>first
   | exact q
   | (
    obtain⟨s,hm,hi⟩:=q;have:=hy s e' w' hi;rw [yE hm]at this;exact this))
end
structure br(w:aa)(A:aj)(n:Nat)(rs:List aN)(xss:ah):Prop where
 top:lQ w A n rs
 len:xss.length=n
 row:∀i,i<n->cn w (rs.getD i ew).a (rs.getD i ew).n (xss.getD i [])
 cap:∀i,i<n->(rs.getD i ew).n<=(rs.getD i ew).c/\(rs.getD i ew).c<=maxLen
def gl(xss:ah)(i:Int):ai:=xss.getD i.toNat []
theorem br.at_{w:aa}{A:aj}{n:Nat}{rs:List aN}{xss:ah}(h:br w A n rs xss){i:Int}(_h0:0<=i)(hi:i<n):cn w (rg rs i).a (rg rs i).n (gl xss i):=h.row _ (by omega)
theorem br.cap_{w:aa}{A:aj}{n:Nat}{rs:List aN}{xss:ah}(h:br w A n rs xss){i:Int}(_h0:0<=i)(hi:i<n):(rg rs i).n<=(rg rs i).c/\(rg rs i).c<=9223372036854775807:=h.cap _ (by omega)
theorem br.aq{w w':aa}{A:aj}{n:Nat}{rs:List aN}{xss:ah}(h:br w A n rs xss)(hb:Below w.heap.size w w'):br w' A n rs xss:=
 ⟨h.top.aq hb,h.len,fun i hi=> (h.row i hi).aq hb,h.cap⟩
theorem St.bY{w0 w:aa}{ks:List Ck}{A:aj}{n:Nat}{rs:List aN}{xss:ah}(h:St w0 w ks)(hR:br w0 A n rs xss):br w A n rs xss:=hR.aq h.below
def du(t:ae):List aN->ah->List Ck
 | r::rs,xs::xss=>az t r.a r.n r.c xs::du t rs xss
 | _,_=> []
def aT(t1 t2:ae)(A:aj)(n c:Nat)(rs:List aN)(xss:ah):List Ck:=cd t1 A n c rs::du t2 rs xss
theorem Cy{t:ae}:∀ {rs:List aN} {xss:ah} {i:Nat},rs.length=xss.length->i<rs.length->(du t rs xss)[i]?=some (az t (rs.getD i ew).a (rs.getD i ew).n (rs.getD i ew).c (xss.getD i []))
 | [],_,_,_,h=>by simp at h
 | r::rs,[],_,h,_=>by simp at h
 | r::rs,xs::xss,0,_,_=>rfl
 | r::rs,xs::xss,i+1,h,hi=>by
  have:=Cy (t:=t) (rs:=rs) (xss:=xss) (i:=i) (by simpa using h) (by simpa using hi);simpa [du]using this
theorem zP{t:ae}:∀ {rs:List aN} {xss:ah},rs.length=xss.length->(du t rs xss).length=rs.length
 | [],[],_=>rfl
 | [],_::_,h=>by simp at h
 | _::_,[],h=>by simp at h
 | r::rs,xs::xss,h=>by simp [du,zP (t:=t) (rs:=rs) (xss:=xss) (by simpa using h)]
theorem HW{t:ae}:∀ {rs rs':List aN} {xss xss':ah},rs.length=xss.length->du t (rs++rs') (xss++xss')=du t rs xss++du t rs' xss'
 | [],_,[],_,_=>rfl
 | [],_,_::_,_,h=>by simp at h
 | _::_,_,[],_,h=>by simp at h
 | r::rs,rs',xs::xss,xss',h=>by
  have:=HW (t:=t) (rs:=rs) (rs':=rs') (xss:=xss) (xss':=xss') (by simpa using h);simp [du,this]
theorem St.tx{w0 w:aa}{ks:List Ck}{t1 t2:ae}{A:aj}{n c:Nat}{rs:List aN}{xss:ah}(h:St w0 w (aT t1 t2 A n c rs xss++ks))(hl:xss.length=n):br w A n rs xss:=by
 have h0:=h.gQ 0 (show(aT t1 t2 A n c rs xss++ks)[0]?=some (cd t1 A n c rs) from O);have hr:rs.length=xss.length:=by rw [h0.1,hl]
 have get:∀i,i<n->(aT t1 t2 A n c rs xss++ks)[i+1]?=some (az t2 (rs.getD i ew).a (rs.getD i ew).n (rs.getD i ew).c (xss.getD i [])):=by
  intro i hi;have h1:=Cy (t:=t2) (rs:=rs) (xss:=xss) (i:=i) hr (by omega);rw [mc (by simp [aT,zP hr];omega)];simpa [aT]using h1
 exact⟨h0,hl,fun i hi=>h.bI (i+1) (get i hi),fun i hi=>h.cap (i+1) (get i hi)⟩
end Go.Proofs.YtagdamiiececaaaGreatDoor.Vc
