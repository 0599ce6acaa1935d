/-
 Lemmas. Conditions: as each states them.
-/
import Derived.WalkKit
import Derived.Deep.Quiet
import Derived.Deep.LoopGhost
import Derived.Below
import Derived.Sort.Grow
import Derived.Deep.OwnRows
set_option maxHeartbeats 8000000
namespace Go.Proofs.YtkccgdhcpplblaaGreatDoor.Vc
open Go.RowKit
theorem am{p:Prop}(h:p:=by omega):p:=h
theorem an{p:Prop}(h:p:=by decide):p:=h
abbrev aa:=World
abbrev ad:=Value
abbrev ae:=TypeId
abbrev ag:=Operand
abbrev ah:=List (List Int)
abbrev ai:=List Int
abbrev aj:=Option Addr
abbrev ak(i:Int):Value:=.int .i64 i
theorem au:True:=@trivial
theorem az:∀ {c:Prop} {_:Decidable c},¬c->∀ {α:Sort _} {t e:α},(if c then t else e)=e:=@if_neg
theorem aB:∀ {c:Prop} {_:Decidable c},c->∀ {α:Sort _} {t e:α},(if c then t else e)=t:=@if_pos
theorem aE:∀ {α:Sort _} {β:Sort _} {a₁ a₂:α} (f:α->β),a₁=a₂->f a₁=f a₂:=@congrArg
theorem bg:∀(n:Nat),0<=n:=@Nat.zero_le
theorem br:∀(n:Nat),n<=n:=@Nat.le_refl
theorem ck:∀ {α:Type _} {cs bs:List α},(cs++bs).length=cs.length+bs.length:=@List.length_append
theorem cH:∀ {α:Type _} {p:α->Prop} {a:α} {l:List α},(∀(x:α),x∈a::l->p x)↔p a/\∀(x:α),x∈l->p x:=@List.forall_mem_cons
theorem cT:∀ {p:Prop} [Decidable p],¬p->decide p=false:=@decide_eq_false
theorem dm:∀ {α:Type _} {l:List α} {i:Nat} {a:α},l.getD i a=l[i]?.getD a:=@List.getD_eq_getElem?_getD
theorem dz:∀ {p:Prop} [Decidable p],p->decide p=true:=@decide_eq_true
theorem dF:∀ {α:Type _} {β:Type _} {b:β} {f:α->β} {l:List α},b∈List.map f l↔∃a,a∈l/\f a=b:=@List.mem_map
theorem dG:∀ {α:Type _} {val val_1:α},some val=some val_1->val=val_1:=@Option.some.inj
theorem dK:∀ {α:Type _} {l:List α} {n:Nat} (h:n<l.length),l[n]∈l:=@List.getElem_mem
theorem fq:∀ {α:Type _} {l:List α} {i:Nat} (h:i<l.length),l[i]?=some l[i]:=@List.getElem?_eq_getElem
theorem fI:∀ {α:Type _} (cs:List α),cs++ []=cs:=@List.append_nil
theorem fS:∀ {α:Type _} {β:Type _} {cs:List α} (f:α->β),(List.map f cs).length=cs.length:=@List.length_map
theorem gj:∀ {α:Type _} {a b:α},a∈[b]↔a=b:=@List.mem_singleton
theorem gx:∀ {α:Type _} {i:Nat} {a:α} {l:List α},l[i]?=some a↔∃h,l[i]=a:=@List.getElem?_eq_some_iff
theorem gy:∀ {α:Type _} {p:α->Bool} {cs:List α} {x:α},x∈List.filter p cs↔x∈cs/\p x=true:=@List.mem_filter
theorem gC:∀ {α:Type _} {a:α} {l:List α},a∈l↔∃(i:Nat) (h:i<l.length),l[i]=a:=@List.mem_iff_getElem
theorem gV:∀ {α:Type _} (ks bs cs:List α),ks++bs++cs=ks++ (bs++cs):=@List.append_assoc
theorem ig:∀ {m n:Nat},m∈List.range n↔m<n:=@List.mem_range
theorem iI:∀ {α:Type _} {β:Type _} {f:α->β} {l₁ l₂:List α},List.map f (l₁++l₂)=List.map f l₁++List.map f l₂:=@List.map_append
theorem iX:∀ {α:Type _} {b:α} {l:List α} {a:α},a∈b::l↔a=b\/a∈l:=@List.mem_cons
theorem iY:∀ {α:Type _} {i:Nat} {l:List α},l.length<=i->List.take i l=l:=@List.take_of_length_le
theorem jd:∀ {α:Type _} {a:α} {s t:List α},a∈s++t↔a∈s\/a∈t:=@List.mem_append
theorem jn:∀ {α:Type _} {xs:Array α} {i:Nat} {d:α},xs.getD i d=xs[i]?.getD d:=@Array.getD_eq_getD_getElem?
theorem jq:∀(n:Nat),(n:Int).toNat=n:=@Int.toNat_natCast
theorem ju:∀ {p q:Prop} {_:Decidable p} {_:Decidable q},decide p=decide q↔(p↔q):=@decide_eq_decide
theorem jE:∀ {α:Type _} {l₁ l₂:List α},l₁.length=l₂.length->(∀(i:Nat) (h₁:i<l₁.length) (h₂:i<l₂.length),l₁[i]=l₂[i])->l₁=l₂:=@List.ext_getElem
theorem jR:∀ {a:Prop},¬¬a↔a:=@Classical.not_not
theorem jS:∀ {α:Type _} [BEq α] {a b:α} {l:List α},List.count a (b::l)=List.count a l+if(b==a)=true then 1 else 0:=@List.count_cons
theorem jT:∀ {α:Type _} [BEq α] [LawfulBEq α] {l₁ l₂:List α},l₁.Perm l₂↔∀(a:α),List.count a l₁=List.count a l₂:=@List.perm_iff_count
theorem jU:∀ {n:Nat},List.range n.succ=List.range n++ [n]:=@List.range_succ
theorem kA:∀ {α:Type _} (l₁ l₂:List α),l₂.Sublist (l₁++l₂):=@List.sublist_append_right
theorem kB:∀ {p:Prop} [Decidable p],(decide p=true)=p:=@decide_eq_true_eq
theorem ln:∀ {α:Type _} [BEq α] {a:α},List.count a []=0:=@List.count_nil
theorem lJ:∀ {α:Type _} (l:List α),l.Sublist l:=@List.Sublist.refl
theorem l9:∀ {α:Type _} [BEq α] {a:α} {l₁ l₂:List α},List.count a (l₁++l₂)=List.count a l₁+List.count a l₂:=@List.count_append
theorem ma:∀ {α:Type _} {l₁ l₂:List α} {i:Nat},i<l₁.length->(l₁++l₂)[i]?=l₁[i]?:=@List.getElem?_append_left
theorem mc:∀ {α:Type _} {l₁ l₂:List α} {i:Nat},l₁.length<=i->(l₁++l₂)[i]?=l₂[i - l₁.length]?:=@List.getElem?_append_right
theorem me:∀ {α:Type _} {l:List α} {i:Nat},l.length<=i->l[i]?=none:=@List.getElem?_eq_none
theorem mf:∀ {α:Type _} {a:α} {l:List α},(a::l).Nodup↔¬a∈l/\l.Nodup:=@List.nodup_cons
theorem mA:∀ {α:Type _} {cs:List α} {i:Nat} {a:α},(cs.set i a).length=cs.length:=@List.length_set
theorem mB:∀ {α:Type _} (val val_1:α),(some val=some val_1)=(val=val_1):=@Option.some.injEq
theorem mR:∀ {α:Type _} {l:List α} {i j:Nat} {a:α},(l.set i a)[j]?=if i=j then if i<l.length then some a else none else l[j]?:=@List.getElem?_set
theorem mS:∀ {n m k:Nat},n<=m->m<=k->n<=k:=@Nat.le_trans
theorem ns:∀ {α:Type _} {i:Nat} {l:List α},(List.take i l).length=min i l.length:=@List.length_take
theorem nL:∀ {α:Type _} {l₁ l₂:List α},(l₁++l₂).Perm (l₂++l₁):=@List.perm_append_comm
theorem nM:∀ {α:Type _} {i:Nat} {l:List α} (h:i<l.length),List.take (i+1) l=List.take i l++ [l[i]]:=@List.take_succ_eq_append_getElem
theorem oD:∀ {α:Type _} {α_1:Type _} {f:α->α_1} {R:α_1->α_1->Prop} {l:List α},List.Pairwise R (List.map f l)↔List.Pairwise (fun a b=>R (f a) (f b)) l:=@List.pairwise_map
theorem oE:∀ {α:Type _} (l₁ l₂:List α),l₁.Sublist (l₁++l₂):=@List.sublist_append_left
theorem oF:∀(n:Nat),¬n<0:=@Nat.not_lt_zero
theorem pj:∀ {α:Type _} {l:List α} {α_1:Type _} {f g:α->α_1},(∀(a:α),a∈l->f a=g a)->List.map f l=List.map g l:=@List.map_congr_left
theorem pk:∀ {n m:Nat},n.beq m=true->n=m:=@Nat.eq_of_beq_eq_true
theorem qb:∀ {α:Type _} {R:α->α->Prop} {l:List α} (p:α->Bool),List.Pairwise R l->List.Pairwise R (List.filter p l):=@List.Pairwise.filter
theorem qD:∀ {p:Prop},(¬p->False)->p:=@Classical.byContradiction
theorem qE:∀ {α:Type _} {l:List α},l.length=0->l=[]:=@List.eq_nil_of_length_eq_zero
theorem rz:∀ {α:Type _} {l:List α} {i j:Nat},(List.take i l)[j]?=if j<i then l[j]? else none:=@List.getElem?_take
theorem rA:∀ {n:Nat},(List.range n).length=n:=@List.length_range
theorem rB:∀ {α:Type _} (y:α) {a:α} {l:List α},a∈l->a∈y::l:=@List.mem_cons_of_mem
theorem rC:∀ {α:Type _} {a:α} {l₁ l₂:List α},(l₁++a::l₂).Perm (a::(l₁++l₂)):=@List.perm_middle
theorem sG:∀ {α:Type _} {xs:Array α} {i:Nat} (h:i<xs.size),xs[i]?=some xs[i]:=@Array.getElem?_eq_getElem
theorem sK:∀ {α:Type _} {p:α->Bool} (l₁ l₂:List α),List.filter p (l₁++l₂)=List.filter p l₁++List.filter p l₂:=@List.filter_append
theorem sL:∀ {α:Type _} (p:α->Bool) (l:List α),(List.filter p l).length<=l.length:=@List.length_filter_le
theorem uq:∀ {p:Prop} [Decidable p],decide p=true->p:=@of_decide_eq_true
theorem uE:∀ {α:Type _} {xs:Array α} {i j:Nat} {a:α},(xs.setIfInBounds i a)[j]?=if i=j then if i<xs.size then some a else none else xs[j]?:=@Array.getElem?_setIfInBounds
theorem wM:∀ {α:Type _} {l₁ l₂:List α},l₁.Nodup->l₂.Nodup->(l₁.Perm l₂↔∀(a:α),a∈l₁↔a∈l₂):=@List.perm_ext_iff_of_nodup
theorem wN:∀ {α:Type _} {l₁ l₂:List α} {i:Nat},i<=l₁.length->List.take i (l₁++l₂)=List.take i l₁:=@List.take_append_of_le_length
theorem xZ:∀ {α:Type _} {p:α->Bool} {a:α} {l:List α},¬p a=true->List.filter p (a::l)=List.filter p l:=@List.filter_cons_of_neg
theorem Bu:∀ {α:Type _} {p:α->Bool} {a:α} {l:List α},p a=true->List.filter p (a::l)=a::List.filter p l:=@List.filter_cons_of_pos
abbrev Env:=Nat->ad
def bn(e:Env)(d:Nat)(v:ad):Env:=fun i=>bif Nat.beq i d then v else e i
def ev(e:Env):ag->ad
 | .tmp t=>e t
 | .const v=>v
 | .global g=> .pointer (some ⟨g,0,none⟩)
 | .func f=> .func (.func f) #[] #[]
structure kj(N:Nat)(a:Act)(e:Env):Prop where
 defers:a.defers=[]
 size:a.tmps.size=N
 get:∀i,a.tmps.getD i undef=e i
theorem O{α:Sort _}{a:α}:a=a:=rfl
theorem kj.eval{N:Nat}{a:Act}{e:Env}(h:kj N a e):a.eval=ev e:=by
 funext x;cases x with
 | tmp t=>exact h.get t
 | const v=>rfl
 | global g=>rfl
 | func f=>rfl
theorem kj.put{N:Nat}{a:Act}{e:Env}(h:kj N a e){d:Nat}(hd:Nat.blt d N=true)(v:ad):kj N (a.put (some d) v) (bn e d v):=by
 have oY:d<a.tmps.size:=by rw [h.size];simpa [Nat.blt_eq]using hd
 refine⟨h.defers,by simp [Act.put,h.size],fun i=>?_⟩;simp only [Act.put,bn];rw [jn,uE]
 by_cases e1:d=i
 ·subst e1;simp [oY]
 ·have e2:Nat.beq i d=false:=by
   cases hb:Nat.beq i d with
   | false=>rfl
   | true=>exact absurd (pk hb).symm e1
  rw [az e1,e2,<-jn,h.get]
  rfl
abbrev jX:=Exit->Env->aa->Prop
def low(N:Nat)(Q:jX):Exit->Act->aa->Prop:=fun x a w=>∃e,kj N a e/\Q x e w
structure Cd(P:Program)(N:Nat)(c:Code)(Q:jX)(e:Env)(w:aa):Prop where
 mk'::
 run:∀a,kj N a e->c.wp P (low N Q) a w
structure ao(P:Program)(N:Nat)(ops:Array Oper)(K:Env->aa->Prop)(l:List Oper)(e:Env)(w:aa):Prop where
 mk'::
 run:∀a,kj N a e->wpList P ops (fun x a w=>x= .normal/\∃e,kj N a e/\K e w) l a w
section
variable{x y:Code}{id:Nat}
variable {P:Program} {N:Nat} {Q:jX} {e:Env} {w:aa}
def C4(K:Env->aa->Prop)(Q:jX):jX
 | .normal,e,w=>K e w
 | x,e,w=>Q x e w
def LD(id:Nat)(Q:jX):jX
 | .exit OJ,e,w=>if OJ=id then Q .normal e w else Q (.exit OJ) e w
 | x,e,w=>Q x e w
theorem Cd.mono{c:Code}{Q':jX}(hq:∀x e w,Q x e w->Q' x e w)(h:Cd P N c Q e w):Cd P N c Q' e w:=
 .mk' fun a ha=>wp_mono (h.run a ha) fun _ _ _ ⟨e,he,q⟩=> ⟨e,he,hq _ _ _ q⟩
theorem Cd.seq(h:Cd P N x (C4 (Cd P N y Q) Q) e w):Cd P N (.seq x y) Q e w:= .mk' fun a ha=>
 wp_seq (wp_mono (h.run a ha) fun ex a' w' ⟨e',qQ,q⟩=>by
  cases ex<;>first | exact q.run a' qQ | exact⟨e',qQ,q⟩)
theorem Cd.skip(h:Q .normal e w):Cd P N .skip Q e w:= .mk' fun a ha=>wp_skip ⟨e,ha,h⟩
theorem Cd.ret(h:Q .ret e w):Cd P N .ret Q e w:= .mk' fun a ha=>wp_ret ⟨e,ha,h⟩
theorem Cd.exit(h:Q (.exit id) e w):Cd P N (.exit id) Q e w:= .mk' fun a ha=>wp_exit ⟨e,ha,h⟩
theorem Cd.block{c:Code}(h:Cd P N c (LD id Q) e w):Cd P N (.block id c) Q e w:= .mk' fun a ha=>
 wp_block (wp_mono (h.run a ha) fun ex a' w' ⟨e',qQ,q⟩=>by
  cases ex<;>first
   | exact⟨e',qQ,q⟩
   | (
    rename_i OJ;simp only [LD]at q;simp only [Exit.inBlock]
    split
    ·rename_i hid;rw [aB hid]at q;exact⟨e',qQ,q⟩
    ·rename_i hid;rw [az hid]at q;exact⟨e',qQ,q⟩))
theorem Cd.cond{c:ag}{t:Bool}(hc:ev e c= .bool t)(h1:t=true->Cd P N x Q e w)(h2:t=false->Cd P N y Q e w):Cd P N (.cond c x y) Q e w:= .mk' fun a ha=>
 wp_cond_split (t:=t) (by rw [ha.eval,hc]) (fun h=> (h1 h).run a ha) (fun h=> (h2 h).run a ha)
theorem Cd.gu{c:ag}(hc:ev e c= .bool true)(h1:Cd P N x Q e w):Cd P N (.cond c x y) Q e w:= .cond hc (fun _=>h1) (fun h=>by cases h)
theorem Cd.fg{c:ag}(hc:ev e c= .bool false)(h1:Cd P N y Q e w):Cd P N (.cond c x y) Q e w:= .cond hc (fun h=>by cases h) (fun _=>h1)
theorem aM{c:ag}(p:Prop)[Decidable p](hc:ev e c= .bool (decide p))(h1:p->Cd P N x Q e w)(h2:¬p->Cd P N y Q e w):Cd P N (.cond c x y) Q e w:=
 .cond hc (fun h=>h1 (uq h)) (fun h=>h2 (of_decide_eq_false h))
theorem Cd.region{l:List Oper}(h:ao P N l.toArray (fun e w=>Q .normal e w) l e w):Cd P N (.region id l.toArray false) Q e w:= .mk' fun a ha=>
 wp_mono (wp_region_lit (h.run a ha)) fun _ _ _ ⟨hx,e',qQ,q⟩=> ⟨e',qQ,by rw [hx];exact q⟩
def Mt(e:Env):List (Nat×ad)->Prop
 | []=>True
 | (i,v)::r=>e i=v/\Mt e r
theorem aqv{e:Env}:∀{l:List (Nat×Value)},l.map (fun p=>e p.1)=l.map (fun p=>p.2)->Mt e l
 | [],_=>True.intro
 | _::_,h=>⟨(List.cons.inj h).1,aqv (List.cons.inj h).2⟩
def ext(e:Env):List (Nat×ad)->Env
 | []=>e
 | (i,v)::r=>bn (ext e r) i v
theorem zM:∀ {l:List (Nat×ad)} {e:Env},Mt e l->ext e l=e
 | [],_,_=>rfl
 | (i,v)::r,e,h=>by
  show bn (ext e r) i v=e;rw [zM h.2];funext j;unfold bn;cases hb:Nat.beq j i with
  | false=>rfl
  | true=>rw [pk hb,h.1];rfl
theorem Cd.loop{α:Type}{c:Code}(F:α->List (Nat×ad))(I:α->aa->Prop)(m:α->Nat)(s0:α)(hF:Mt e (F s0))(hI:I s0 w)
 (round:∀s e w,I s w->Cd P N c (C4 (fun e' w'=>∃s',m s'<m s/\Mt e' (F s')/\I s' w') Q) (ext e (F s)) w):Cd P N (.loop c) Q e w:=by
 have key:∀n s e w,m s=n->Mt e (F s)->I s w->∀a,kj N a e->(Code.loop c).wp P (low N Q) a w:=by
  intro n0 s e w hn hm MX a ha
  let J:Act->aa->Prop:=fun a w=>∃s e,kj N a e/\Mt e (F s)/\I s w
  refine wp_loop_ghost (I:=fun n a w=>∃s e,m s=n/\kj N a e/\Mt e (F s)/\I s w) n0 ⟨s,e,hn,ha,hm,MX⟩ ?_;intro n a w ⟨s,e,hn,ha,hm,hI⟩;have h1:=round s e w hI;rw [zM hm]at h1;refine wp_mono (h1.run a ha) fun ex a' w' ⟨e',qQ,q⟩=>?_
  cases ex<;>first
   | exact⟨e',qQ,q⟩
   | (
    obtain⟨s',fG,jj,MX⟩:=q;exact⟨m s',am,s',e',O,qQ,jj,MX⟩)
 exact .mk' fun a ha=>key _ s0 e w O hF hI a ha
end
class bA(P:Program)(t:ae)(d:outParam TypeDesc):Type where
 out:P.underlying t=some d
class bq(P:Program)(t:ae)(z:outParam ad)(size bytes:outParam Nat):Prop where
 out:(P.info? t).map (fun i=> (i.zero,i.size,i.bytes))=some (some z,size,bytes)
class bE(P:Program)(F:FuncId):Prop where
 out : ∃ fn, P.funcs[F]? = some fn /\ (fn.name == "runtime.NumGoroutine") = false /\ fn.body.isNone = false
theorem bq.get(P:Program)(t:ae){z:ad}{s b:Nat}[h:bq P t z s b]:∃i,P.info? t=some i/\i.zero=some z/\i.size=s/\i.bytes=b:=by
 obtain⟨i,hi,he⟩:=Option.map_eq_some_iff.1 h.out;simp only [Prod.mk.injEq]at he;exact⟨i,hi,he.1,he.2.1,he.2.2⟩
section
variable{j dj d:Nat}{b want:Bool}{x:ag}
variable {P:Program} {N:Nat} {ops:Array Oper} {K:Env->aa->Prop} {rest:List Oper} {e:Env} {w w':aa} {d:Nat} {ty:ae} {pos:String} {af:Array Edge}
theorem ao.n(h:K e w):ao P N ops K [] e w:= .mk' fun a ha=>wpList_nil ⟨rfl,e,ha,h⟩
theorem ao.val{op:Op}{v:ad}(hr:(execOp (ev e) ⟨some d,op,ty,pos,af,none⟩).run P w= .ok (.value v) w')(hb:Nat.blt d N=true)(hK:ao P N ops K rest (bn e d v) w'):
 ao P N ops K (⟨some d,op,ty,pos,af,none⟩::rest) e w:= .mk' fun a ha=>by
 refine wpList_plain O fun J hJ=>?_
 unfold Oper.wp;rw [ha.eval,hr];exact hJ _ _ (hK.run _ (ha.put hb v))
theorem ao.unit{op:Op}(hr:(execOp (ev e) ⟨none,op,ty,pos,af,none⟩).run P w= .ok .skip w')(hK:ao P N ops K rest e w'):
 ao P N ops K (⟨none,op,ty,pos,af,none⟩::rest) e w:= .mk' fun a ha=>by
 refine wpList_plain O fun J hJ=>?_
 unfold Oper.wp;rw [ha.eval,hr];exact hJ _ _ (hK.run _ ha)
theorem ao.aog{op:Op}{v:ad}(hr:(execOp (ev e) ⟨none,op,ty,pos,af,none⟩).run P w= .ok (.value v) w')(hK:ao P N ops K rest e w'):
 ao P N ops K (⟨none,op,ty,pos,af,none⟩::rest) e w:= .mk' fun a ha=>by
 refine wpList_plain O fun J hJ=>?_
 unfold Oper.wp;rw [ha.eval,hr];exact hJ _ _ (hK.run _ ha)
theorem Y7{a:Act}(ha:kj N a e)(hj:(ops[j]?).bind (·.dst)=some dj)(fG:Nat.blt dj N=true)(hv:e dj= .bool b):yielded ops a.tmps j=some b:=by
 have h1:dj<a.tmps.size:=by rw [ha.size];simpa [Nat.blt_eq]using fG
 have h2:=ha.get dj;rw [jn,sG h1,Option.getD_some,hv]at h2;simp [yielded,hj,sG h1,h2]
theorem aqh{o:Option Tmp}{op:Op}(hj:(ops[j]?).bind (·.dst)=some dj)(fG:Nat.blt dj N=true)(hv:e dj= .bool want)(hK:ao P N ops K (⟨o,op,ty,pos,af,none⟩::rest) e w):ao P N ops K (⟨o,op,ty,pos,af,some (j,want)⟩::rest) e w:= .mk' fun a ha=>by
 have h:=hK.run a ha;have hy:=Y7 (ops:=ops) ha hj fG hv;have hw:Region.wanted (⟨o,op,ty,pos,af,some (j,want)⟩:Oper) (yielded ops a.tmps)=true:=by
  simp [Region.wanted,hy]
 unfold wpList at h|-;rw [aB hw];rw [aB (show Region.wanted (⟨o,op,ty,pos,af,none⟩:Oper) (yielded ops a.tmps)=true from rfl)]at h;exact h
theorem aw{o:Option Tmp}{op:Op}(q9:((ops[j]?).bind (·.dst),Nat.blt dj N,e dj)=(some dj,true,.bool want))(hK:ao P N ops K (⟨o,op,ty,pos,af,none⟩::rest) e w):ao P N ops K (⟨o,op,ty,pos,af,some (j,want)⟩::rest) e w:=aqh (congrArg (fun p=>p.1) q9) (congrArg (fun p=>p.2.1) q9) (congrArg (fun p=>p.2.2) q9) hK
theorem aqi{op:Op}(hj:(ops[j]?).bind (·.dst)=some dj)(fG:Nat.blt dj N=true)(hv:e dj= .bool b)(bP:(b==want)=false)(hb:Nat.blt d N=true)(hK:ao P N ops K rest (bn e d undef) w):ao P N ops K (⟨some d,op,ty,pos,af,some (j,want)⟩::rest) e w:= .mk' fun a ha=>by
 have hy:=Y7 (ops:=ops) ha hj fG hv;refine wpList_skip ?_ (hK.run _ (ha.put hb undef));simp only [Region.wanted];rw [hy];simpa using bP
theorem aK{op:Op}(q9:((ops[j]?).bind (·.dst),Nat.blt dj N,e dj,(b==want),Nat.blt d N)=(some dj,true,.bool b,false,true))(hK:ao P N ops K rest (bn e d undef) w):ao P N ops K (⟨some d,op,ty,pos,af,some (j,want)⟩::rest) e w:=aqi (congrArg (fun p=>p.1) q9) (congrArg (fun p=>p.2.1) q9) (congrArg (fun p=>p.2.2.1) q9) (congrArg (fun p=>p.2.2.2.1) q9) (congrArg (fun p=>p.2.2.2.2) q9) hK
theorem fT{op:Op}(hj:(ops[j]?).bind (·.dst)=some dj)(fG:Nat.blt dj N=true)(hv:e dj=undef)(hb:Nat.blt d N=true)(hK:ao P N ops K rest (bn e d undef) w):ao P N ops K (⟨some d,op,ty,pos,af,some (j,want)⟩::rest) e w:= .mk' fun a ha=>by
 refine wpList_skip ?_ (hK.run _ (ha.put hb undef));have h1:dj<a.tmps.size:=by rw [ha.size];simpa [Nat.blt_eq]using fG
 have h2:=ha.get dj;rw [jn,sG h1,Option.getD_some,hv]at h2;simp [Region.wanted,yielded,hj,sG h1,h2,undef]
theorem YV{e:Env}{v:ad}(h:e d=v):bn e d v=e:=by
 funext j;unfold bn;cases hb:Nat.beq j d with
 | false=>rfl
 | true=>rw [pk hb,h];rfl
theorem ao.split{l:List Oper}(d:Nat)(hv:e d= .bool b)(h1:b=true->ao P N ops K l (bn e d (.bool true)) w)(h2:b=false->ao P N ops K l (bn e d (.bool false)) w):ao P N ops K l e w:=by
 cases b
 ·have:=h2 O;rwa [YV hv]at this
 have:=h1 O;rwa [YV hv]at this
theorem dI{l:List Oper}(d:Nat){p:Prop}[Decidable p](hv:e d= .bool (decide p))(h1:p->ao P N ops K l (bn e d (.bool true)) w)(h2:¬p->ao P N ops K l (bn e d (.bool false)) w):ao P N ops K l e w:=
 .split d hv (fun h=>h1 (uq h)) (fun h=>h2 (of_decide_eq_false h))
def AV:Op->Option ag
 | .move x=>some x
 | .assign x=>some x
 | _=>none
theorem ams{op:Op}(h:AV op=some x):(execOp (ev e) ⟨some d,op,ty,pos,af,none⟩).run P w= .ok (.value (ev e x)) w:=by
 cases op<;>simp [AV]at h<;>subst h<;>rfl
theorem ao.mv{op:Op}{v:ad}(o4:AV op=some x)(hx:ev e x=v)(hb:Nat.blt d N=true)(hK:ao P N ops K rest (bn e d v) w):ao P N ops K (⟨some d,op,ty,pos,af,none⟩::rest) e w:=
 .val (by rw [ams o4,hx]) hb hK
theorem qG{op:Op}{k:IntKind}{i:Int}(o4:AV op=some x)(hx:ev e x= .int k i)(hb:Nat.blt d N=true)(hK:ao P N ops K rest (bn e d (.int k i)) w):ao P N ops K (⟨some d,op,ty,pos,af,none⟩::rest) e w:= .mv o4 hx hb hK
theorem lM{op:Op}{A:aj}{n c:Nat}(o4:AV op=some x)(hx:ev e x= .slice A n c)(hb:Nat.blt d N=true)(hK:ao P N ops K rest (bn e d (.slice A n c)) w):ao P N ops K (⟨some d,op,ty,pos,af,none⟩::rest) e w:= .mv o4 hx hb hK
theorem Rh{op:Op}(o4:AV op=some x)(hx:ev e x= .bool b)(hb:Nat.blt d N=true)(hK:ao P N ops K rest (bn e d (.bool b)) w):ao P N ops K (⟨some d,op,ty,pos,af,none⟩::rest) e w:= .mv o4 hx hb hK
theorem Rj{op:Op}{cs:Array ad}(o4:AV op=some x)(hx:ev e x= .tuple cs)(hb:Nat.blt d N=true)(hK:ao P N ops K rest (bn e d (.tuple cs)) w):ao P N ops K (⟨some d,op,ty,pos,af,none⟩::rest) e w:= .mv o4 hx hb hK
section
variable{k:IntKind}{b:Bool}
variable {x y:ag} {xt yt:ae} {i j:Int}
theorem aqn(hx:ev e x=ak i)(hy:ev e y=ak j)(hb:Nat.blt d N=true)(hr: -9223372036854775808<=i+j/\i+j<=9223372036854775807)(hK:ao P N ops K rest (bn e d (ak (i+j))) w):
 ao P N ops K (⟨some d,.binOp .add xt x y yt,ty,pos,af,none⟩::rest) e w:=
 .val (by simp [execOp,hx,hy,eqGuard,binOp,Op.intArith,IntWalk.i64_in _ hr]) hb hK
theorem aI(q9:(ev e x,ev e y,Nat.blt d N)=(ak i,ak j,true))(hK:ao P N ops K rest (bn e d (ak (i+j))) w)(hr:-9223372036854775808<=i+j/\i+j<=9223372036854775807:=by omega):ao P N ops K (⟨some d,.binOp .add xt x y yt,ty,pos,af,none⟩::rest) e w:=aqn (congrArg (fun p=>p.1) q9) (congrArg (fun p=>p.2.1) q9) (congrArg (fun p=>p.2.2) q9) hr hK
theorem aql(hx:ev e x=ak i)(hy:ev e y=ak j)(hb:Nat.blt d N=true)(hr: -9223372036854775808<=i - j/\i - j<=9223372036854775807)(hK:ao P N ops K rest (bn e d (ak (i - j))) w):
 ao P N ops K (⟨some d,.binOp .sub xt x y yt,ty,pos,af,none⟩::rest) e w:=
 .val (by simp [execOp,hx,hy,eqGuard,binOp,Op.intArith,IntWalk.i64_in _ hr]) hb hK
theorem dZ(q9:(ev e x,ev e y,Nat.blt d N)=(ak i,ak j,true))(hK:ao P N ops K rest (bn e d (ak (i - j))) w)(hr:-9223372036854775808<=i - j/\i - j<=9223372036854775807:=by omega):ao P N ops K (⟨some d,.binOp .sub xt x y yt,ty,pos,af,none⟩::rest) e w:=aql (congrArg (fun p=>p.1) q9) (congrArg (fun p=>p.2.1) q9) (congrArg (fun p=>p.2.2) q9) hr hK
theorem sN(hx:ev e x=ak i)(hy:ev e y=ak j)(hb:Nat.blt d N=true)(hr: -9223372036854775808<=i*j/\i*j<=9223372036854775807)(hK:ao P N ops K rest (bn e d (ak (i*j))) w):
 ao P N ops K (⟨some d,.binOp .mul xt x y yt,ty,pos,af,none⟩::rest) e w:=
 .val (by simp [execOp,hx,hy,eqGuard,binOp,Op.intArith,IntWalk.i64_in _ hr]) hb hK
theorem ao.quo(hx:ev e x=ak i)(hy:ev e y=ak j)(hb:Nat.blt d N=true)(hr:0<=i/\i<=9223372036854775807/\1<=j)(hK:ao P N ops K rest (bn e d (ak (i / j))) w):
 ao P N ops K (⟨some d,.binOp .quo xt x y yt,ty,pos,af,none⟩::rest) e w:=
 .val (by simp [execOp,hx,hy,eqGuard,binOp,Op.intDiv,IntWalk.i64_quo _ _ hr,show j≠0 by omega]) hb hK
theorem sO(hx:ev e x=ak i)(hy:ev e y=ak j)(hb:Nat.blt d N=true)(hr:0<=i/\1<=j)(hK:ao P N ops K rest (bn e d (ak (i%j))) w):
 ao P N ops K (⟨some d,.binOp .rem xt x y yt,ty,pos,af,none⟩::rest) e w:=
 .val (by simp [execOp,hx,hy,eqGuard,binOp,Op.intDiv,Int.tmod_eq_emod_of_nonneg hr.1,show j≠0 by omega]) hb hK
theorem ao.lss(hx:ev e x= .int k i)(hy:ev e y= .int k j)(hb:Nat.blt d N=true)(hK:ao P N ops K rest (bn e d (.bool (decide (i<j)))) w):
 ao P N ops K (⟨some d,.binOp .lss xt x y yt,ty,pos,af,none⟩::rest) e w:= .val (by simp [execOp,hx,hy,eqGuard,binOp,Op.intCmp]) hb hK
theorem ao.leq(hx:ev e x= .int k i)(hy:ev e y= .int k j)(hb:Nat.blt d N=true)(hK:ao P N ops K rest (bn e d (.bool (decide (i<=j)))) w):
 ao P N ops K (⟨some d,.binOp .leq xt x y yt,ty,pos,af,none⟩::rest) e w:= .val (by simp [execOp,hx,hy,eqGuard,binOp,Op.intCmp]) hb hK
theorem ao.gtr(hx:ev e x= .int k i)(hy:ev e y= .int k j)(hb:Nat.blt d N=true)(hK:ao P N ops K rest (bn e d (.bool (decide (j<i)))) w):
 ao P N ops K (⟨some d,.binOp .gtr xt x y yt,ty,pos,af,none⟩::rest) e w:= .val (by simp [execOp,hx,hy,eqGuard,binOp,Op.intCmp]) hb hK
theorem ao.geq(hx:ev e x= .int k i)(hy:ev e y= .int k j)(hb:Nat.blt d N=true)(hK:ao P N ops K rest (bn e d (.bool (decide (j<=i)))) w):
 ao P N ops K (⟨some d,.binOp .geq xt x y yt,ty,pos,af,none⟩::rest) e w:= .val (by simp [execOp,hx,hy,eqGuard,binOp,Op.intCmp]) hb hK
theorem aa1(i j:Int):(i==j)=decide (i=j):=by by_cases h:i=j<;>simp [h]
theorem aa8(i j:Int):(i !=j)=decide (¬i=j):=by by_cases h:i=j<;>simp [h]
theorem ao.eql(hx:ev e x= .int k i)(hy:ev e y= .int k j)(hb:Nat.blt d N=true)(hK:ao P N ops K rest (bn e d (.bool (decide (i=j)))) w):
 ao P N ops K (⟨some d,.binOp .eql xt x y yt,ty,pos,af,none⟩::rest) e w:= .val (by rw [<-aa1];simp [execOp,hx,hy,eqGuard,binOp,Op.intCmp]) hb hK
theorem ao.neq(hx:ev e x= .int k i)(hy:ev e y= .int k j)(hb:Nat.blt d N=true)(hK:ao P N ops K rest (bn e d (.bool (decide (¬i=j)))) w):
 ao P N ops K (⟨some d,.binOp .neq xt x y yt,ty,pos,af,none⟩::rest) e w:= .val (by rw [<-aa8];simp [execOp,hx,hy,eqGuard,binOp,Op.intCmp]) hb hK
theorem gz(hx:ev e x= .bool b)(hb:Nat.blt d N=true)(hK:ao P N ops K rest (bn e d (.bool (!b))) w):
 ao P N ops K (⟨some d,.unOp .not xt x,ty,pos,af,none⟩::rest) e w:= .val (by simp [execOp,hx,Op.unary]) hb hK
theorem fv{p:Prop}[Decidable p](hx:ev e x= .bool (decide p))(hb:Nat.blt d N=true)(hK:ao P N ops K rest (bn e d (.bool (decide ¬p))) w):
 ao P N ops K (⟨some d,.unOp .not xt x,ty,pos,af,none⟩::rest) e w:= .val (by simp [execOp,hx,Op.unary]) hb hK
theorem ao.ak6{c:ag}(hc:ev e c= .bool true)(hx:ev e x= .bool b)(hb:Nat.blt d N=true)(hK:ao P N ops K rest (bn e d (.bool b)) w):
 ao P N ops K (⟨some d,.pick c x y,ty,pos,af,none⟩::rest) e w:= .val (by simp [execOp,hc,hx,asBool]) hb hK
theorem ao.ak5{c:ag}(hc:ev e c= .bool false)(hx:ev e y= .bool b)(hb:Nat.blt d N=true)(hK:ao P N ops K rest (bn e d (.bool b)) w):
 ao P N ops K (⟨some d,.pick c x y,ty,pos,af,none⟩::rest) e w:= .val (by simp [execOp,hc,hx,asBool]) hb hK
end
theorem ao.extract{x:ag}{vs:Array ad}{ix:Nat}{v:ad}(hx:ev e x= .tuple vs)(hv:vs[ix]?=some v)(hb:Nat.blt d N=true)(hK:ao P N ops K rest (bn e d v) w):
 ao P N ops K (⟨some d,.extract x ix,ty,pos,af,none⟩::rest) e w:= .val (by simp [execOp,hx,Instr.extract,hv]) hb hK
theorem a8{x:ag}{t el:ae}{A:aj}{n c:Nat}[bA P t (.slice el)](hx:ev e x= .slice A n c)(hb:Nat.blt d N=true)(hK:ao P N ops K rest (bn e d (ak n)) w):
 ao P N ops K (⟨some d,.call ⟨.builtin .len, #[x], #[t]⟩,ty,pos,af,none⟩::rest) e w:=
 .val (by simp [execOp,resolve,invoke,builtin,Builtin.len_,hx,run_underlying (bA.out (P:=P) (t:=t)),goInt]) hb hK
theorem ao.akn{x:ag}{a:Addr}(hx:ev e x= .pointer (some a))(hb:Nat.blt d N=true)(hK:ao P N ops K rest (bn e d (.pointer (some a))) w):
 ao P N ops K (⟨some d,.nilCheck x,ty,pos,af,none⟩::rest) e w:= .val (by simp [execOp,hx]) hb hK
def aJ(P:Program)(F:FuncId)(vs:List ad)(w:aa)(R:ad->aa->Prop):Prop:=Calls P F vs.toArray w fun x w'=>∃v,x= .returned v/\R v w'
theorem aJ.mono{F:FuncId}{vs:List ad}{R R':ad->aa->Prop}(h:aJ P F vs w R)(hR:∀v w',R v w'->R' v w'):aJ P F vs w R':=
 Calls.mono h fun _ _ ⟨v,he,hv⟩=> ⟨v,he,hR _ _ hv⟩
theorem aqm{f:ag}{F:FuncId}{c2:Array ad}{l:List ag}{vs:List ad}{R:ad->aa->Prop}{RD:Array ae}[hF:bE P F](hC:aJ P F vs w R)(hf:ev e f= .func (.func F) #[] c2)(hv:l.map (ev e)++c2.toList=vs)(hb:Nat.blt d N=true)(hK:∀v w',R v w'->ao P N ops K rest (bn e d v) w'):ao P N ops K (⟨some d,.call ⟨.value f,l.toArray,RD⟩,ty,pos,af,none⟩::rest) e w:= .mk' fun a ha=>by
 obtain⟨fn,h1,h2,h3⟩:=hF.out;have ko:(execOp (ev e) ⟨some d,.call ⟨.value f,l.toArray,RD⟩,ty,pos,af,none⟩).run P w= .ok (.enter F vs.toArray) w:=by
  have h4:(l.toArray.map (ev e)++c2)=vs.toArray:=by
   rw [<-hv];simp
  have h5 : ¬ fn.name = "runtime.NumGoroutine" := by simpa using h2
  have h6:¬fn.body=none:=by intro h;rw [h]at h3;cases h3
  simp [execOp,resolve,hf,Deferred.ofValue,invoke,callFunc,h1,h5,h6];exact hv
 refine wpList_plain O fun J hJ=>?_
 unfold Oper.wp;rw [ha.eval,ko];refine Calls.mono hC fun x w' ⟨v,hx,hR⟩=>?_
 subst hx;exact hJ _ _ ((hK v w' hR).run _ (ha.put hb v))
theorem aL{f:ag}{F:FuncId}{c2:Array ad}{l:List ag}{vs:List ad}{R:ad->aa->Prop}{RD:Array ae}[hF:bE P F](hC:aJ P F vs w R)(q9:(ev e f,l.map (ev e)++c2.toList,Nat.blt d N)=(.func (.func F) #[] c2,vs,true))(hK:∀v w',R v w'->ao P N ops K rest (bn e d v) w'):ao P N ops K (⟨some d,.call ⟨.value f,l.toArray,RD⟩,ty,pos,af,none⟩::rest) e w:=aqm hC (congrArg (fun p=>p.1) q9) (congrArg (fun p=>p.2.1) q9) (congrArg (fun p=>p.2.2) q9) hK
theorem tQ{K:Env->aa->Prop}{Q:jX}(h:K e w):C4 K Q .normal e w:=h
theorem fB{K:Env->aa->Prop}{Q:jX}(h:Q .ret e w):C4 K Q .ret e w:=h
theorem bt{K:Env->aa->Prop}{Q:jX}{id:Nat}(h:Q (.exit id) e w):C4 K Q (.exit id) e w:=h
def Lw(vs:List ad):Env:=fun i=>vs.getD i undef
def PQ(R:ad->aa->Prop):jX
 | .normal,_,w=>R (.tuple #[]) w
 | .ret,_,w=>R (.tuple #[]) w
 | _,_,_=>False
def Hm(t:Nat)(R:ad->aa->Prop):jX
 | .normal,e,w=>R (e t) w
 | .ret,e,w=>R (e t) w
 | _,_,_=>False
def ET(t u:Nat)(R:ad->aa->Prop):jX
 | .normal,e,w=>R (.tuple #[e t,e u]) w
 | .ret,e,w=>R (.tuple #[e t,e u]) w
 | _,_,_=>False
theorem al2(vs:List ad)(n:Nat)(h:Nat.ble vs.length n=true):kj n ⟨vs.toArray++Array.replicate (n - vs.toArray.size) undef,[]⟩ (Lw vs):=by
 have h':vs.length<=n:=by simpa using h
 refine⟨O,by simp;omega,fun i=>?_⟩;simp only [Lw];rw [jn,dm,Array.getElem?_append]
 split
 ·simp
 rename_i hi;simp at hi;rw [me hi,Array.getElem?_replicate]
 split<;>rfl
theorem dq{R:ad->aa->Prop}{t:Nat}{b:Bool}(h:e t= .bool b)(hR:R (.bool b) w):Hm t R .ret e w:=by show R (e t) w;rw [h];exact hR
theorem iH{R:ad->aa->Prop}{t:Nat}{k:IntKind}{i:Int}(h:e t= .int k i)(hR:R (.int k i) w):Hm t R .ret e w:=by show R (e t) w;rw [h];exact hR
theorem gJ{R:ad->aa->Prop}{t:Nat}{A:aj}{n c:Nat}(h:e t= .slice A n c)(hR:R (.slice A n c) w):Hm t R .ret e w:=by show R (e t) w;rw [h];exact hR
theorem PT{R:ad->aa->Prop}{t:Nat}{v:ad}(h:e t=v)(hR:R v w):Hm t R .ret e w:=by show R (e t) w;rw [h];exact hR
theorem PS{R:ad->aa->Prop}(hR:R (.tuple #[]) w):PQ R .ret e w:=hR
theorem zq{R:ad->aa->Prop}(hR:R (.tuple #[]) w):PQ R .normal e w:=hR
theorem CX{R:ad->aa->Prop}{t u:Nat}{A:aj}{n c:Nat}{k:IntKind}{i:Int}(h:e t= .slice A n c)(h2:e u= .int k i)(hR:R (.tuple #[.slice A n c,.int k i]) w):ET t u R .ret e w:=by show R (.tuple #[e t,e u]) w;rw [h,h2];exact hR
theorem PX{R:ad->aa->Prop}{t u:Nat}{k':IntKind}{j:Int}{k:IntKind}{i:Int}(h:e t= .int k' j)(h2:e u= .int k i)(hR:R (.tuple #[.int k' j,.int k i]) w):ET t u R .ret e w:=by show R (.tuple #[e t,e u]) w;rw [h,h2];exact hR
theorem Bg{R:ad->aa->Prop}{t u:Nat}{b:Bool}{k:IntKind}{i:Int}(h:e t= .bool b)(h2:e u= .int k i)(hR:R (.tuple #[.bool b,.int k i]) w):ET t u R .ret e w:=by show R (.tuple #[e t,e u]) w;rw [h,h2];exact hR
theorem KI{R:ad->aa->Prop}{t u:Nat}{A:aj}{n c:Nat}{b:Bool}(h:e t= .slice A n c)(h2:e u= .bool b)(hR:R (.tuple #[.slice A n c,.bool b]) w):ET t u R .ret e w:=by show R (.tuple #[e t,e u]) w;rw [h,h2];exact hR
theorem bC{F:FuncId}{fn:Func}{c:Code}{vs:List ad}{R:ad->aa->Prop}{Q:jX}(hf:P.funcs[F]?=some fn)(hc:fn.body=some c)(hn:fn.ntmps=N)(hl:Nat.ble vs.length N=true)(hQ:∀x a e w,kj N a e->Q x e w->bodyPost P fn (fun x w'=>∃v,x= .returned v/\R v w') x a w)(h:Cd P N c Q (Lw vs) w):aJ P F vs w R:=by
 subst hn;exact calls_of_wp hf hc (wp_mono (h.run _ (al2 vs _ hl)) fun x a w ⟨e,he,q⟩=>hQ x a e w he q)
theorem CQ{fn:Func}{R:ad->aa->Prop}(hr:fn.results= #[]):∀x a e w,kj N a e->PQ R x e w->bodyPost P fn (fun x w'=>∃v,x= .returned v/\R v w') x a w:=by
 intro x a e w he q;cases x<;>first
  | exact q.elim
  | exact⟨he.defers,_,results_none hr _ _ _,_,rfl,q⟩
theorem df{fn:Func}{R:ad->aa->Prop}{t:Nat}(hr:fn.results= #[.tmp t]):∀x a e w,kj N a e->Hm t R x e w->bodyPost P fn (fun x w'=>∃v,x= .returned v/\R v w') x a w:=by
 intro x a e w he q;have hg:=he.get t;cases x<;>first
  | exact q.elim
  | exact⟨he.defers,_,results_tmp hr _ _ _,_,rfl,by rw [hg];exact q⟩
theorem pV{fn:Func}{R:ad->aa->Prop}{t u:Nat}(hr:fn.results= #[.tmp t,.tmp u]):∀x a e w,kj N a e->ET t u R x e w->bodyPost P fn (fun x w'=>∃v,x= .returned v/\R v w') x a w:=by
 intro x a e w he q;have hg:=he.get t;have hh:=he.get u;cases x<;>first
  | exact q.elim
  | exact⟨he.defers,_,results_tmp2 hr _ _ _,_,rfl,by rw [hg,hh];exact q⟩
end
def hd:ad->Option ad
 | .int k n=>some (.int k n)
 | .slice a n c=>some (.slice a n c)
 | .bool b=>some (.bool b)
 | .pointer a=>some (.pointer a)
 | .agg cs=>some (.agg cs)
 | .func f a b=>some (.func f a b)
 | .tuple cs=>some (.tuple cs)
 | .string s=>some (.string s)
 | .map r=>some (.map r)
 | _=>none
theorem NB{v u:ad}(h:hd v=some u):v=u:=by cases v<;>simp [hd]at h<;>exact h
def O5(e:Env)(x y:ag):Option ad:=
 match ev e x,ev e y with
 | .int .i64 a,.int .i64 b=>some (.bool (decide (a<b)))
 | _,_=>none
theorem ai6{e:Env}{x y:ag}{v:ad}(h:O5 e x y=some v):∃a b,ev e x=ak a/\ev e y=ak b/\v= .bool (decide (a<b)):=by
 unfold O5 at h
 split at h
 ·rename_i a b h1 h2;exact⟨a,b,h1,h2,(dG h).symm⟩
 cases h
def O0(e:Env)(x y:ag):Option ad:=
 match ev e x,ev e y with
 | .int .i64 a,.int .i64 b=>some (.bool (decide (a<=b)))
 | _,_=>none
theorem aiM{e:Env}{x y:ag}{v:ad}(h:O0 e x y=some v):∃a b,ev e x=ak a/\ev e y=ak b/\v= .bool (decide (a<=b)):=by
 unfold O0 at h
 split at h
 ·rename_i a b h1 h2;exact⟨a,b,h1,h2,(dG h).symm⟩
 cases h
def MI(e:Env)(x y:ag):Option ad:=
 match ev e x,ev e y with
 | .int .i64 a,.int .i64 b=>some (.bool (decide (b<a)))
 | _,_=>none
theorem adK{e:Env}{x y:ag}{v:ad}(h:MI e x y=some v):∃a b,ev e x=ak a/\ev e y=ak b/\v= .bool (decide (b<a)):=by
 unfold MI at h
 split at h
 ·rename_i a b h1 h2;exact⟨a,b,h1,h2,(dG h).symm⟩
 cases h
def Mw(e:Env)(x y:ag):Option ad:=
 match ev e x,ev e y with
 | .int .i64 a,.int .i64 b=>some (.bool (decide (b<=a)))
 | _,_=>none
theorem ado{e:Env}{x y:ag}{v:ad}(h:Mw e x y=some v):∃a b,ev e x=ak a/\ev e y=ak b/\v= .bool (decide (b<=a)):=by
 unfold Mw at h
 split at h
 ·rename_i a b h1 h2;exact⟨a,b,h1,h2,(dG h).symm⟩
 cases h
def Mc(e:Env)(x y:ag):Option ad:=
 match ev e x,ev e y with
 | .int .i64 a,.int .i64 b=>some (.bool (decide (a=b)))
 | _,_=>none
theorem acy{e:Env}{x y:ag}{v:ad}(h:Mc e x y=some v):∃a b,ev e x=ak a/\ev e y=ak b/\v= .bool (decide (a=b)):=by
 unfold Mc at h
 split at h
 ·rename_i a b h1 h2;exact⟨a,b,h1,h2,(dG h).symm⟩
 cases h
def Pk(e:Env)(x y:ag):Option ad:=
 match ev e x,ev e y with
 | .int .i64 a,.int .i64 b=>some (.bool (decide (¬a=b)))
 | _,_=>none
theorem ajR{e:Env}{x y:ag}{v:ad}(h:Pk e x y=some v):∃a b,ev e x=ak a/\ev e y=ak b/\v= .bool (decide (¬a=b)):=by
 unfold Pk at h
 split at h
 ·rename_i a b h1 h2;exact⟨a,b,h1,h2,(dG h).symm⟩
 cases h
def Qs(e:Env):Op->Option ad
 | .move x=>hd (ev e x)
 | .assign x=>hd (ev e x)
 | .binOp .lss _ x y _=>O5 e x y
 | .binOp .leq _ x y _=>O0 e x y
 | .binOp .gtr _ x y _=>MI e x y
 | .binOp .geq _ x y _=>Mw e x y
 | .binOp .eql _ x y _=>Mc e x y
 | .binOp .neq _ x y _=>Pk e x y
 | .extract x i=>match ev e x with
  | .tuple vs=> (match vs[i]? with
   | some v=>hd v
   | none=>none)
  | _=>none
 | .pick c x y=>match ev e c with
  | .bool true=> (match ev e x with
   | .bool b=>some (.bool b)
   | _=>none)
  | .bool false=> (match ev e y with
   | .bool b=>some (.bool b)
   | _=>none)
  | _=>none
 | _=>none
def uB(N:Nat)(e:Env)(o:Oper):Option (Nat×ad):=
 match o.guard,o.dst with
 | none,some d=> (match Nat.blt d N with
  | true=> (match Qs e o.op with
   | some v=>some (d,v)
   | none=>none)
  | false=>none)
 | _,_=>none
def Du(N:Nat):List Oper->Env->List Oper×Env
 | [],e=> ([],e)
 | o::l,e=>match uB N e o with
  | some (d,v)=>Du N l (bn e d v)
  | none=> (o::l,e)
section
variable {P:Program} {N:Nat} {ops:Array Oper} {K:Env->aa->Prop} {e:Env} {w:aa}
theorem ao.uB{o:Oper}{l:List Oper}{d:Nat}{v:ad}(h:uB N e o=some (d,v))(hK:ao P N ops K l (bn e d v) w):ao P N ops K (o::l) e w:=by
 obtain⟨dst,op,ty,pos,af,gd⟩:=o;unfold Vc.uB at h
 split at h
 ·rename_i d' hg oY;simp only at hg oY;subst hg oY
  split at h
  ·rename_i hb
   split at h
   ·rename_i v' hv;simp only [mB,Prod.mk.injEq]at h;obtain⟨rfl,rfl⟩:=h;replace hv:Qs e op=some v':=hv;unfold Qs at hv
    split at hv
    ·exact .mv O (NB hv) hb hK
    ·exact .mv O (NB hv) hb hK
    ·obtain⟨a,b,h1,h2,rfl⟩:=ai6 hv;exact .lss h1 h2 hb hK
    ·obtain⟨a,b,h1,h2,rfl⟩:=aiM hv;exact .leq h1 h2 hb hK
    ·obtain⟨a,b,h1,h2,rfl⟩:=adK hv;exact .gtr h1 h2 hb hK
    ·obtain⟨a,b,h1,h2,rfl⟩:=ado hv;exact .geq h1 h2 hb hK
    ·obtain⟨a,b,h1,h2,rfl⟩:=acy hv;exact .eql h1 h2 hb hK
    ·obtain⟨a,b,h1,h2,rfl⟩:=ajR hv;exact .neq h1 h2 hb hK
    ·split at hv
     ·rename_i h1
      split at hv
      ·rename_i h2;exact .extract h1 (by rw [h2,NB hv]) hb hK
      cases hv
     cases hv
    ·split at hv
     ·rename_i h1
      split at hv
      ·rename_i b h2;obtain rfl:=dG hv;exact .ak6 h1 h2 hb hK
      cases hv
     ·rename_i h1
      split at hv
      ·rename_i b h2;obtain rfl:=dG hv;exact .ak5 h1 h2 hb hK
      cases hv
     cases hv
    cases hv
   cases h
  cases h
 cases h
theorem Lq:∀ {l:List Oper} {e:Env},ao P N ops K (Du N l e).1 (Du N l e).2 w->ao P N ops K l e w
 | [],_,h=>h
 | o::l,e,h=>by
  unfold Du at h
  split at h
  ·rename_i d v hs;exact .uB hs (Lq h)
  ·exact h
end
inductive Fr where
 | s (c:Code)
 | b (id:Nat)
def Qk(P:Program)(N:Nat)(Q:jX):List Fr->jX
 | []=>Q
 | .s y::r=>C4 (Cd P N y (Qk P N Q r)) (Qk P N Q r)
 | .b id::r=>LD id (Qk P N Q r)
def EN:List Fr->Option (Code×List Fr)
 | []=>none
 | .s y::r=>some (y,r)
 | .b _::r=>EN r
def EO(id:Nat):List Fr->Option (List Fr)
 | []=>none
 | .s _::r=>EO id r
 | .b i::r=>match Nat.beq id i with
  | true=>some r
  | false=>EO id r
inductive Dp where
 | c (c:Code) (s:List Fr) (e:Env)
 | o (ops:Array Oper) (l:List Oper) (s:List Fr) (e:Env)
 | n (e:Env)
 | r (e:Env)
 | x (id:Nat) (e:Env)
def Dp.ok(P:Program)(N:Nat)(Q:jX)(w:aa):Dp->Prop
 | .c y s e=>Cd P N y (Qk P N Q s) e w
 | .o ops l s e=>ao P N ops (fun e w=>Qk P N Q s .normal e w) l e w
 | .n e=>Q .normal e w
 | .r e=>Q .ret e w
 | .x id e=>Q (.exit id) e w
def run(N:Nat):Nat->Code->List Fr->Env->Dp
 | 0,c,s,e=> .c c s e
 | n+1,c,s,e=>match c with
  | .seq x y=>run N n x (.s y::s) e
  | .block id x=>run N n x (.b id::s) e
  | .region id ops dr=>match dr with
   | true=> .c (.region id ops true) s e
   | false=>match Du N ops.toList e with
    | ([],e')=> (match EN s with
     | none=> .n e'
     | some (y,r)=>run N n y r e')
    | (o::l,e')=> .o ops (o::l) s e'
  | .skip=> (match EN s with
   | none=> .n e
   | some (y,r)=>run N n y r e)
  | .ret=> .r e
  | .exit id=> (match EO id s with
   | none=> .x id e
   | some s'=> (match EN s' with
    | none=> .n e
    | some (y,r)=>run N n y r e))
  | c=> .c c s e
def runN(N n:Nat)(s:List Fr)(e:Env):Dp:=match EN s with
 | none=> .n e
 | some (y,r)=>run N n y r e
def EY(N n id:Nat)(s:List Fr)(e:Env):Dp:=match EO id s with
 | none=> .x id e
 | some s'=>runN N n s' e
def C1(N n:Nat)(ops:Array Oper)(l:List Oper)(s:List Fr)(e:Env):Dp:=match Du N l e with
 | ([],e')=>runN N n s e'
 | (o::l,e')=> .o ops (o::l) s e'
section
variable{id i1 i:Nat}{ops o1:Array Oper}{s1:List Fr}{l:List Oper}{c1:Code}
variable {P:Program} {N:Nat} {Q:jX} {e:Env} {w:aa}
theorem Hh:∀ {s:List Fr},(match EN s with | none=>Q .normal e w | some (y,r)=>Cd P N y (Qk P N Q r) e w)->Qk P N Q s .normal e w
 | [],h=>h
 | .s _::_,h=>h
 | .b _::r,h=>Hh (s:=r) h
theorem KB{id:Nat}:∀ {s:List Fr},(match EO id s with | none=>Q (.exit id) e w | some r=>Qk P N Q r .normal e w)->Qk P N Q s (.exit id) e w
 | [],h=>h
 | .s _::r,h=>KB (s:=r) h
 | .b i::r,h=>by
  unfold EO at h;show(if id=i then _ else _);cases hb:Nat.beq id i with
  | true=>rw [aB (pk hb)];rw [hb]at h;exact h
  | false=>
   rw [az (fun e=>by rw [e,Nat.beq_refl]at hb;cases hb)];rw [hb]at h;exact KB (s:=r) h
theorem fe:∀ {s:List Fr},Q .ret e w->Qk P N Q s .ret e w
 | [],h=>h
 | .s _::r,h=>fe (s:=r) h
 | .b _::r,h=>fe (s:=r) h
theorem Cd.al1{Q:jX}(h:ao P N ops (fun e w=>Q .normal e w) ops.toList e w):Cd P N (.region id ops false) Q e w:=by
 have:=Cd.region (P:=P) (N:=N) (Q:=Q) (id:=id) (l:=ops.toList) (e:=e) (w:=w) (by rw [Array.toArray_toList];exact h)
 rwa [Array.toArray_toList]at this
theorem su:∀ {n:Nat} {c:Code} {s:List Fr} {e:Env},(run N n c s e).ok P N Q w->Cd P N c (Qk P N Q s) e w
 | 0,_,_,_,h=>h
 | n+1,c,s,e,h=>by
  unfold run at h
  split at h
  ·exact .seq (su h)
  ·exact .block (su h)
  ·split at h
   ·exact h
   ·refine .al1 (Lq ?_)
    split at h
    ·rename_i he;rw [he];refine ao.n (Hh ?_)
     split at h
     ·exact h
     ·exact su h
    ·rename_i he;rw [he];exact h
  ·refine .skip (Hh ?_)
   split at h
   ·exact h
   ·exact su h
  ·exact .ret (fe h)
  ·refine .exit (KB ?_)
   split at h
   ·exact h
   ·refine Hh ?_
    split at h
    ·exact h
    ·exact su h
  ·exact h
theorem C0{n:Nat}{s:List Fr}{e:Env}(h:(runN N n s e).ok P N Q w):Qk P N Q s .normal e w:=by
 unfold runN at h;refine Hh ?_
 split at h
 ·exact h
 exact su h
theorem KO{n:Nat}{s:List Fr}{e:Env}(h:(EY N n id s e).ok P N Q w):Qk P N Q s (.exit id) e w:=by
 unfold EY at h;refine KB ?_
 split at h
 ·exact h
 exact C0 h
theorem Hn{n:Nat}{s:List Fr}{e:Env}(h:(C1 N n ops l s e).ok P N Q w):ao P N ops (fun e w=>Qk P N Q s .normal e w) l e w:=by
 unfold C1 at h;refine Lq ?_
 split at h
 ·rename_i he;rw [he];exact ao.n (C0 h)
 rename_i he;rw [he];exact h
theorem Dn{s:List Fr}{F:List (Nat×ad)}(hM:Mt e F)(h:Qk P N Q s .normal (ext e F) w):Qk P N Q s .normal e w:=by rwa [zM hM]at h
theorem dA{c:Code}{s:List Fr}{e1:Env}(h:run N 1000 c s e= .c c1 s1 e1)(k:Cd P N c1 (Qk P N Q s1) e1 w):Cd P N c (Qk P N Q s) e w:=su (n:=1000) (by rw [h];exact k)
theorem aA{c:Code}{s:List Fr}{l1:List Oper}{e1:Env}(h:run N 1000 c s e= .o o1 l1 s1 e1)(k:ao P N o1 (fun e w=>Qk P N Q s1 .normal e w) l1 e1 w):Cd P N c (Qk P N Q s) e w:=su (n:=1000) (by rw [h];exact k)
theorem oC{c:Code}{s:List Fr}{e1:Env}(h:run N 1000 c s e= .n e1)(k:Q .normal e1 w):Cd P N c (Qk P N Q s) e w:=su (n:=1000) (by rw [h];exact k)
theorem dM{c:Code}{s:List Fr}{e1:Env}(h:run N 1000 c s e= .r e1)(k:Q .ret e1 w):Cd P N c (Qk P N Q s) e w:=su (n:=1000) (by rw [h];exact k)
theorem bp{c:Code}{s:List Fr}{e1:Env}(h:run N 1000 c s e= .x i1 e1)(k:Q (.exit i1) e1 w):Cd P N c (Qk P N Q s) e w:=su (n:=1000) (by rw [h];exact k)
theorem Zt(n:Nat){c:Code}{s:List Fr}{e1:Env}(h:run N n c s e= .c c1 s1 e1)(k:Cd P N c1 (Qk P N Q s1) e1 w):Cd P N c (Qk P N Q s) e w:=su (n:=n) (by rw [h];exact k)
theorem bL{c:Code}{e1:Env}(h:run N 1000 c [] e= .c c1 s1 e1)(k:Cd P N c1 (Qk P N Q s1) e1 w):Cd P N c Q e w:=su (s:=[]) (n:=1000) (by rw [h];exact k)
theorem bh{c:Code}{l1:List Oper}{e1:Env}(h:run N 1000 c [] e= .o o1 l1 s1 e1)(k:ao P N o1 (fun e w=>Qk P N Q s1 .normal e w) l1 e1 w):Cd P N c Q e w:=su (s:=[]) (n:=1000) (by rw [h];exact k)
theorem Ff{c:Code}{e1:Env}(h:run N 1000 c [] e= .r e1)(k:Q .ret e1 w):Cd P N c Q e w:=su (s:=[]) (n:=1000) (by rw [h];exact k)
theorem aC{s:List Fr}{e1:Env}(h:C1 N 1000 ops l s e= .c c1 s1 e1)(k:Cd P N c1 (Qk P N Q s1) e1 w):ao P N ops (fun e w=>Qk P N Q s .normal e w) l e w:=Hn (n:=1000) (by rw [h];exact k)
theorem ar{s:List Fr}{l1:List Oper}{e1:Env}(h:C1 N 1000 ops l s e= .o o1 l1 s1 e1)(k:ao P N o1 (fun e w=>Qk P N Q s1 .normal e w) l1 e1 w):ao P N ops (fun e w=>Qk P N Q s .normal e w) l e w:=Hn (n:=1000) (by rw [h];exact k)
theorem aT{s:List Fr}{e1:Env}(h:C1 N 1000 ops l s e= .n e1)(k:Q .normal e1 w):ao P N ops (fun e w=>Qk P N Q s .normal e w) l e w:=Hn (n:=1000) (by rw [h];exact k)
theorem bH{s:List Fr}{e1:Env}(h:C1 N 1000 ops l s e= .r e1)(k:Q .ret e1 w):ao P N ops (fun e w=>Qk P N Q s .normal e w) l e w:=Hn (n:=1000) (by rw [h];exact k)
theorem Fg(n:Nat){s:List Fr}{e1:Env}(h:C1 N n ops l s e= .c c1 s1 e1)(k:Cd P N c1 (Qk P N Q s1) e1 w):ao P N ops (fun e w=>Qk P N Q s .normal e w) l e w:=Hn (n:=n) (by rw [h];exact k)
theorem eS{s:List Fr}{e1:Env}(h:runN N 1000 s e= .c c1 s1 e1)(k:Cd P N c1 (Qk P N Q s1) e1 w):Qk P N Q s .normal e w:=C0 (n:=1000) (by rw [h];exact k)
theorem jD{s:List Fr}{l1:List Oper}{e1:Env}(h:runN N 1000 s e= .o o1 l1 s1 e1)(k:ao P N o1 (fun e w=>Qk P N Q s1 .normal e w) l1 e1 w):Qk P N Q s .normal e w:=C0 (n:=1000) (by rw [h];exact k)
theorem Zu{s:List Fr}{e1:Env}(h:runN N 1000 s e= .n e1)(k:Q .normal e1 w):Qk P N Q s .normal e w:=C0 (n:=1000) (by rw [h];exact k)
theorem zz{s:List Fr}{e1:Env}(h:runN N 1000 s e= .r e1)(k:Q .ret e1 w):Qk P N Q s .normal e w:=C0 (n:=1000) (by rw [h];exact k)
theorem QY(n:Nat){s:List Fr}{e1:Env}(h:runN N n s e= .c c1 s1 e1)(k:Cd P N c1 (Qk P N Q s1) e1 w):Qk P N Q s .normal e w:=C0 (n:=n) (by rw [h];exact k)
theorem sI{s:List Fr}{e1:Env}(h:EY N 1000 i s e= .c c1 s1 e1)(k:Cd P N c1 (Qk P N Q s1) e1 w):Qk P N Q s (.exit i) e w:=KO (n:=1000) (by rw [h];exact k)
theorem cS{s:List Fr}{l1:List Oper}{e1:Env}(h:EY N 1000 i s e= .o o1 l1 s1 e1)(k:ao P N o1 (fun e w=>Qk P N Q s1 .normal e w) l1 e1 w):Qk P N Q s (.exit i) e w:=KO (n:=1000) (by rw [h];exact k)
theorem Da{s:List Fr}{e1:Env}(h:EY N 1000 i s e= .n e1)(k:Q .normal e1 w):Qk P N Q s (.exit i) e w:=KO (n:=1000) (by rw [h];exact k)
theorem gw{s:List Fr}{e1:Env}(h:EY N 1000 i s e= .r e1)(k:Q .ret e1 w):Qk P N Q s (.exit i) e w:=KO (n:=1000) (by rw [h];exact k)
end
def aap:Prop:=False
structure Below(B:Nat)(w w':aa):Prop extends Go.RowKit.Below B w w' where
 drawn:aap->w.drawn<=w'.drawn
theorem Below.refl(B:Nat)(w:aa):Below B w w:=⟨Go.RowKit.Below.refl B w,fun _=>br _⟩
theorem Below.trans{B:Nat}{a b c:aa}(h:Below B a b)(k:Below B b c):Below B a c:=⟨h.toBelow.trans k.toBelow,fun s=>mS (h.drawn s) (k.drawn s)⟩
theorem Below.mono{B B':Nat}{w w':aa}(h:Below B w w')(hB:B'<=B):Below B' w w':=⟨h.toBelow.mono hB,h.drawn⟩
theorem Below.drew{B:Nat}{a w:aa}(h:Below B a w):Below B a w.drew:=⟨h.toBelow.drew,fun s=>Nat.le_succ_of_le (h.drawn s)⟩
theorem Below.alloc{B:Nat}{a w:aa}(h:Below B a w)(hB:B<=w.heap.size)(o:Obj):Below B a (w.alloc o):=⟨h.toBelow.alloc hB o,h.drawn⟩
structure Db(w w':aa)(row:Option Nat):Prop where
 g:w.grownBy w' row
 drawn:w.drawn<=w'.drawn
theorem Below.grown{B:Nat}{a w w':aa}{row:Option Nat}(h:Below B a w)(hg:Db w w' row)(hB:B<=w.heap.size)(hr:∀k,row=some k->B<=k):Below B a w':=⟨h.toBelow.grown hg.g hB hr,fun s=>mS (h.drawn s) hg.drawn⟩
def ay(A:aj)(k:Nat):aj:=A.map (·.add k)
def Rd(w:aa)(A:aj)(n:Nat)(f:Nat->ad):Prop:=∀k,k<n->∃p,ay A k=some p/\w.cell? p=some (f k)
structure Ck where
 A:aj
 n:Nat
 c:Nat
 e:ae
 vs:List ad
def Ck.ij(k:Ck):Option Nat:=k.A.map (·.block)
def sV:List (ad×ad)->List ad
 | []=> []
 | p::r=>p.1::p.2::sV r
theorem S5:∀ {a b:List (ad×ad)},sV a=sV b->a=b
 | [],[],_=>rfl
 | [],_::_,h=>by simp [sV]at h
 | _::_,[],h=>by simp [sV]at h
 | (x,y)::a,(x',y')::b,h=>by
  simp only [sV,List.cons.injEq]at h;rw [h.1,h.2.1,S5 h.2.2]
def eU:List ad->Bool
 | .tuple _::_=>true
 | _=>false
theorem Kg{v:ad}{r:List ad}(h:v.oneCell'=true):eU (v::r)=false:=by
 cases v<;>simp_all [eU,Value.oneCell']
theorem yY{l:List ad}(h:∀v∈l,v.oneCell'=true):eU l=false:=by
 cases l with
 | nil=>rfl
 | cons v r=>exact Kg (h v (by simp))
theorem OO{a b:List ad}(ha:eU a=false)(hb:eU b=false):eU (a++b)=false:=by
 cases a with
 | nil=>exact hb
 | cons v r=>cases v<;>simp_all [eU]
theorem CD{a b:List ad}(ha:eU a=false)(h:a≠[]):eU (a++b)=false:=by
 cases a with
 | nil=>exact absurd rfl h
 | cons v r=>cases v<;>simp_all [eU]
theorem V9{a:List ad}(m:Nat)(ha:eU a=false):eU (a.take m)=false:=by
 cases a with
 | nil=>simp [eU]
 | cons v r=>
  cases m with
  | zero=>rfl
  | succ m=>cases v<;>simp_all [eU]
theorem ahu{a:List ad}(j:Nat){u:ad}(ha:eU a=false)(hu:u.oneCell'=true):eU (a.set j u)=false:=by
 cases a with
 | nil=>rfl
 | cons v r=>
  cases j with
  | zero=>exact Kg hu
  | succ m=>cases v<;>simp_all [eU]
theorem aht{z:ad}(n:Nat)(hz:z.oneCell'=true):eU (List.replicate n z)=false:=yY fun v hv=>by rw [(List.mem_replicate.1 hv).2];exact hz
def Dj(B:Nat)(w:aa)(k:Ck):Prop:=
 k.vs.length=k.n/\k.n<=k.c/\k.c<=maxLen/\
 ((k.A=none/\k.c=0)\/∃g o cur,k.A=some ⟨g,o,none⟩/\B<=g/\w.heap[g]?=some (.cells cur k.e (0,0))/\o+k.c<=cur.size/\∀j,j<k.n->cur[o+j]?=k.vs[j]?)
def vq(es:Array MapEntry)(cl:Nat):Prop:=(∀x∈es.toList,x.born<cl)/\(es.toList.map (·.born)).Nodup
def sW:List MapEntry->List ad
 | []=> []
 | x::r=>x.key::x.val:: .int .i64 (x.born:Int)::sW r
def ZG:Obj->List ad->Prop
 | .map es cl,vs=>vq es cl/\(vs= .tuple #[]::sV (es.toList.map fun e=> (e.key,e.val))\/vs= .tuple #[.int .i64 (cl:Int)]::sW es.toList)
 | .mapIter m since seen c0,vs=>c0=since/\∃bm,m=some bm/\vs= .tuple #[.map (some bm),.int .i64 (since:Int)]::seen.toList.map fun b:Nat=> .int .i64 (b:Int)
 | _,_=>False
def Lk(B:Nat)(w:aa)(k:Ck):Prop:=
 k.n=0/\k.c=0/\∃g o,k.A=some ⟨g,0,none⟩/\B<=g/\w.heap[g]?=some o/\ZG o k.vs
def Own(B:Nat)(w:aa)(k:Ck):Prop:=if eU k.vs=true then Lk B w k else Dj B w k
theorem Own.q9{B:Nat}{w:aa}{k:Ck}(hm:eU k.vs=false)(h:Dj B w k):Own B w k:=by unfold Own;rw [if_neg (by simp [hm])];exact h
theorem Own.QA{B:Nat}{w:aa}{k:Ck}(hm:eU k.vs=false)(h:Own B w k):Dj B w k:=by unfold Own at h;rwa [if_neg (by simp [hm])]at h
theorem Own.cases{B:Nat}{w:aa}{k:Ck}(h:Own B w k):(eU k.vs=true/\Lk B w k)\/(eU k.vs=false/\Dj B w k):=by
 unfold Own at h
 split at h
 ·rename_i hm;exact .inl ⟨hm,h⟩
 rename_i hm;exact .inr ⟨by simpa using hm,h⟩
theorem Own.ofM{B:Nat}{w:aa}{k:Ck}(hm:eU k.vs=true)(h:Lk B w k):Own B w k:=by unfold Own;rw [if_pos hm];exact h
structure St(w0 w:aa)(ks:List Ck):Prop where
 below:Below w0.heap.size w0 w
 own:∀k∈ks,Own w0.heap.size w k
 apart:(ks.filterMap Ck.ij).Nodup
theorem BA{g o:Nat}(k:Nat):(⟨g,o,none⟩:Addr).add k=⟨g,o+k,none⟩:=by unfold Addr.add;split<;>simp_all
section
variable{B' i j:Nat}{pP:List Ck}
variable {w0 w w':aa} {ks:List Ck} {k:Ck} {B:Nat}
theorem Own.rd(h:Own B w k):Rd w k.A k.n (fun j=>k.vs.getD j undef):=by
 rcases h.cases with⟨_,hn,_⟩ | ⟨_,h1,h2,h3,h4⟩
 ·intro j hj;omega
 intro j hj;rcases h4 with⟨_,h0⟩ | ⟨g,o,cur,hA,hg,hh,hs,hc⟩
 ·omega
 refine⟨⟨g,o+j,none⟩,by simp [ay,hA,BA],?_⟩;simp only [World.cell?,hh];rw [hc j hj];simp [dm,fq (show j<k.vs.length by omega)]
theorem Own.mono(h:Own B w k)(hB:B'<=B):Own B' w k:=by
 rcases h.cases with⟨hm,hn,hc,g,o,hA,hg,r⟩ | ⟨hm,h1,h2,h3,h4⟩
 ·exact .ofM hm ⟨hn,hc,g,o,hA,am,r⟩
 refine .q9 hm ⟨h1,h2,h3,?_⟩;rcases h4 with h0 | ⟨g,o,cur,hA,hg,r⟩
 ·exact .inl h0
 exact .inr ⟨g,o,cur,hA,am,r⟩
theorem Own.keep(h:Own B w k)(hb:∀g,k.ij=some g->w'.heap[g]?=w.heap[g]?):Own B w' k:=by
 rcases h.cases with⟨hm,hn,hc,g,o,hA,hg,hh,r⟩ | ⟨hm,h1,h2,h3,h4⟩
 ·exact .ofM hm ⟨hn,hc,g,o,hA,hg,by rw [hb g (by simp [Ck.ij,hA])];exact hh,r⟩
 refine .q9 hm ⟨h1,h2,h3,?_⟩;rcases h4 with h0 | ⟨g,o,cur,hA,hg,hh,r⟩
 ·exact .inl h0
 exact .inr ⟨g,o,cur,hA,hg,by rw [hb g (by simp [Ck.ij,hA])];exact hh,r⟩
theorem Own.lt(h:Own B w k){g:Nat}(hg:k.ij=some g):B<=g/\g<w.heap.size:=by
 rcases h.cases with⟨hm,hn,hc,g',o,hA,od,hh,r⟩ | ⟨hm,h1,h2,h3,h4⟩
 ·simp [Ck.ij,hA]at hg;subst hg;exact⟨od,(Array.getElem?_eq_some_iff.1 hh).1⟩
 rcases h4 with⟨h0,_⟩ | ⟨g',o,cur,hA,od,hh,r⟩
 ·simp [Ck.ij,h0]at hg
 simp [Ck.ij,hA]at hg;subst hg;exact⟨od,(Array.getElem?_eq_some_iff.1 hh).1⟩
theorem Own.cap(h:Own B w k):k.n<=k.c/\k.c<=maxLen:=by
 rcases h.cases with⟨_,hn,hc,_⟩ | ⟨_,_,h2,h3,_⟩
 ·exact⟨am,by rw [hc];exact bg _⟩
 exact⟨h2,h3⟩
theorem St.refl(w:aa):St w w []:=⟨Below.refl _ _,(fun _ h=>by cases h),List.nodup_nil⟩
theorem St.get(h:St w0 w ks)(hk:ks[i]?=some k):Own w0.heap.size w k:=h.own k (List.mem_of_getElem? hk)
theorem St.qh(h:St w0 w ks)(hk:ks[i]?=some k)(hm:eU k.vs=false):Dj w0.heap.size w k:=(h.get hk).QA hm
theorem St.rd(h:St w0 w ks)(i:Nat)(hk:ks[i]?=some k):Rd w k.A k.n (fun j=>k.vs.getD j undef):=(h.get hk).rd
theorem Rd.lt{A:aj}{n:Nat}{f:Nat->ad}(h:Rd w A n f)(hj:j<n):∃p,ay A j=some p/\p.block<w.heap.size/\w.cell? p=some (f j):=by
 obtain⟨p,hp,hc⟩:=h j hj;exact⟨p,hp,World.block_lt_of_cell? _ _ hc,hc⟩
theorem Rd.below{A:aj}{n:Nat}{f:Nat->ad}(h:Rd w A n f)(hb:Below w.heap.size w w'):Rd w' A n f:=fun j hj=>by
 obtain⟨p,hp,hl,hc⟩:=h.lt hj;exact⟨p,hp,(hb.cell hl).trans hc⟩
theorem St.sd(h:St w0 w ks){A:aj}{n:Nat}{f:Nat->ad}(hR:Rd w0 A n f):Rd w A n f:=hR.below h.below
theorem Rd.congr{A:aj}{n:Nat}{f g:Nat->ad}(h:Rd w A n f)(hf:∀j,j<n->f j=g j):Rd w A n g:=fun j hj=>by
 obtain⟨p,hp,hc⟩:=h j hj;exact⟨p,hp,by rw [hc,hf j hj]⟩
theorem St.aq(h:St w0 w ks)(hb:Below w.heap.size w w'):St w0 w' ks:=
 ⟨h.below.trans (hb.mono h.below.size),fun k hk=> (h.own k hk).keep fun g hg=>hb.block g ((h.own k hk).lt hg).2,h.apart⟩
theorem St.drew(h:St w0 w ks):St w0 w.drew ks:=h.aq (Below.drew (Below.refl _ _))
theorem St.call(h:St w0 w ks)(h':St w w' pP):St w0 w' (pP++ks):=by
 have h1:=h.aq h'.below;refine⟨h1.below,fun k hk=>?_,?_⟩
 ·rcases jd.1 hk with hk | hk
  ·exact(h'.own k hk).mono h.below.size
  exact h1.own k hk
 rw [List.filterMap_append,List.nodup_append];refine⟨h'.apart,h.apart,fun a ha b hb=>?_⟩;obtain⟨k,hk,NU⟩:=List.mem_filterMap.1 ha;obtain⟨k',eI,qp⟩:=List.mem_filterMap.1 hb;have l1:=((h'.own k hk).lt NU).1;have l2:=((h.own k' eI).lt qp).2;omega
theorem St.call2(h:St w0 w ks)(h':St w w' pP):St w0 w' (ks++pP):=by
 have h1:=h.call h';exact⟨h1.below,fun k hk=>h1.own k ((nL (l₁:=pP) (l₂:=ks)).mem_iff.2 hk),((nL (l₁:=pP) (l₂:=ks)).filterMap _).nodup_iff.1 h1.apart⟩
theorem St.sub(h:St w0 w ks)(hs:pP.Sublist ks):St w0 w pP:=
 ⟨h.below,fun k hk=>h.own k (hs.subset hk),h.apart.sublist (hs.filterMap _)⟩
theorem St.perm(h:St w0 w ks)(hs:ks.Perm pP):St w0 w pP:=
 ⟨h.below,fun k hk=>h.own k (hs.mem_iff.2 hk),(hs.filterMap _).nodup_iff.1 h.apart⟩
theorem St.tail(h:St w0 w (k::ks)):St w0 w ks:=h.sub (List.sublist_cons_self _ _)
theorem St.none(h:St w0 w ks):St w0 w []:=h.sub (List.nil_sublist _)
theorem St.nil(h:St w0 w ks)(e:ae):St w0 w (⟨Option.none,0,0,e,[]⟩::ks):=
 ⟨h.below,fun k hk=>by
  rcases iX.1 hk with rfl | hk
  ·exact .q9 O ⟨O,br _,bg _,.inl ⟨O,O⟩⟩
  exact h.own k hk,h.apart⟩
theorem St.alloc(h:St w0 w ks)(cs:List ad)(e:ae)(hm:cs.length<=maxLen)(hM:eU cs=false):St w0 (w.alloc (.cells cs.toArray e)) (⟨some ⟨w.heap.size,0,Option.none⟩,cs.length,cs.length,e,cs⟩::ks):=by
 have hb:Below w.heap.size w (w.alloc (.cells cs.toArray e)):=(Below.refl _ _).alloc (br _) _;have h1:=h.aq hb;refine⟨h1.below,fun k hk=>?_,?_⟩
 ·rcases iX.1 hk with rfl | hk
  ·exact .q9 hM ⟨O,br _,hm,.inr ⟨_,0,cs.toArray,O,h.below.size,heap_alloc_new w _,by simp,fun j hj=>by simp⟩⟩
  exact h1.own k hk
 simp only [List.filterMap_cons,Ck.ij,Option.map_some,mf];refine⟨fun cI=>?_,h.apart⟩;obtain⟨k',eI,qp⟩:=List.mem_filterMap.1 cI;have:=((h.own k' eI).lt qp).2;omega
theorem IG{α β:Type}(f:α->Option β):∀(l:List α) (i:Nat) (a b:α),l[i]?=some a->f b=f a->(l.set i b).filterMap f=l.filterMap f
 | [],_,_,_,h,_=>by simp at h
 | x::l,0,a,b,h,he=>by
  simp at h;subst h;simp [List.filterMap_cons,he]
 | x::l,i+1,a,b,h,he=>by
  simp only [List.getElem?_cons_succ]at h;simp only [List.set_cons_succ,List.filterMap_cons,IG f l i a b h he]
theorem St.turn{g:Nat}{k':Ck}(h:St w0 w ks)(hk:ks[i]?=some k)(tZ:k.ij=some g)(ae0:k'.ij=some g)(hw:Db w w' (some g))(ho:Own w0.heap.size w' k'):St w0 w' (ks.set i k'):=by
 have fG:=(h.get hk).lt tZ;refine⟨h.below.grown hw h.below.size (fun x hx=>by cases hx;exact fG.1),fun x hx=>?_,?_⟩
 ·obtain⟨j,hj,rfl⟩:=gC.1 hx;have gW:j<ks.length:=by simpa using hj
  rw [List.getElem_set]
  split
  ·exact ho
  ·rename_i bP;have hm:ks[j]∈ks:=dK _;refine(h.own _ hm).keep fun g' od=>hw.g.block g' ((h.own _ hm).lt od).2 fun e=>?_
   injection e with e
   subst e;have dw:i<ks.length:=(gx.1 hk).1;have fX:ks[i]=k:=(gx.1 hk).2;exact absurd (show False from by
    have hn:=h.apart;have key:∀(l:List Ck),(l.filterMap Ck.ij).Nodup->∀i j (hi:i<l.length) (hj:j<l.length),i≠j->l[i].ij=some g'->l[j].ij=some g'->False:=by
     intro l
     induction l with
     | nil=>intro _ i j hi;simp at hi
     | cons a l ih=>
      intro hn i j hi hj bP h1 h2;cases i with
      | zero=>
       cases j with
       | zero=>exact bP rfl
       | succ j=>
        simp only [List.getElem_cons_zero]at h1;simp only [List.getElem_cons_succ]at h2;rw [List.filterMap_cons,h1]at hn;simp only [mf]at hn;exact hn.1 (List.mem_filterMap.2 ⟨_,dK _,h2⟩)
      | succ i=>
       cases j with
       | zero=>
        simp only [List.getElem_cons_zero]at h2;simp only [List.getElem_cons_succ]at h1;rw [List.filterMap_cons,h2]at hn;simp only [mf]at hn;exact hn.1 (List.mem_filterMap.2 ⟨_,dK _,h1⟩)
       | succ j=>
        have Cp:(l.filterMap Ck.ij).Nodup:=by
         rw [List.filterMap_cons]at hn
         split at hn
         ·exact hn
         ·exact(mf.1 hn).2
        exact ih Cp i j (by simpa using hi) (by simpa using hj) am (by simpa using h1) (by simpa using h2)
    exact key ks hn i j dw gW bP (by rw [fX];exact tZ) od) id
 ·rw [IG Ck.ij ks i k k' hk (by rw [tZ,ae0])];exact h.apart
theorem St.store(h:St w0 w ks)(i:Nat)(hk:ks[i]?=some k)(hj:j<k.n)(u:ad)(hu:u.oneCell'=true):
 ∃p,ay k.A j=some p/\(∃v,w.cell? p=some v)/\w.frozen? p=false/\St w0 (w.setCell p u) (ks.set i { k with vs:=k.vs.set j u }):=by
 rcases(h.get hk).cases with⟨_,oe,_⟩ | ⟨hM,h1,h2,h3,h4⟩
 ·omega
 rcases h4 with⟨_,h0⟩ | ⟨g,o,cur,hA,hg,hh,hs,hc⟩
 ·omega
 refine⟨⟨g,o+j,Option.none⟩,by simp [ay,hA,BA],?_,?_,?_⟩
 ·have:o+j<cur.size:=by omega
  exact⟨cur[o+j],by simp [World.cell?,hh,sG this]⟩
 ·simp [World.frozen?,hh]
 have tZ:k.ij=some g:=by simp [Ck.ij,hA]
 have fG:=(Array.getElem?_eq_some_iff.1 hh).1;refine h.turn (k':= { k with vs:=k.vs.set j u }) hk tZ tZ ⟨⟨O,O,O,by simp,fun x _ hx=>heap_setCell_other w ⟨g,o+j,Option.none⟩ x u (fun e=>hx (by simp [e]))⟩,br _⟩ ?_;refine .q9 (ahu j hM hu) ⟨by simpa using h1,h2,h3,.inr ⟨g,o,cur.setIfInBounds (o+j) u,hA,hg,heap_setCell_same w g (o+j) cur k.e u hh,by simpa using hs,fun m hm=>?_⟩⟩;have jj:m<k.n:=hm;rw [uE];show _=(k.vs.set j u)[m]?;rw [mR]
 by_cases e:j=m
 ·subst e;rw [aB rfl,aB rfl,aB (by omega),aB (by omega)]
 rw [az (by omega),az e];exact hc m jj
end
structure aO where
 a:aj
 n:Nat
 c:Nat
def aO.v(s:aO):ad:= .slice s.a s.n s.c
def eY:aO:=⟨none,0,0⟩
def gi(xs:ai)(i:Int):Int:=xs.getD i.toNat 0
def gb(xs:List Bool)(i:Int):Bool:=xs.getD i.toNat false
def rg(xs:List aO)(i:Int):aO:=xs.getD i.toNat eY
def cL(w:aa)(A:aj)(n:Nat)(xs:ai):Prop:=xs.length=n/\Rd w A n (fun j=>ak (xs.getD j 0))
def vI(w:aa)(A:aj)(n:Nat)(xs:List Bool):Prop:=xs.length=n/\Rd w A n (fun j=> .bool (xs.getD j false))
def mT(w:aa)(A:aj)(n:Nat)(xs:List aO):Prop:=xs.length=n/\Rd w A n (fun j=> (xs.getD j eY).v)
abbrev ax(t:ae)(A:aj)(n c:Nat)(xs:ai):Ck:=⟨A,n,c,t,xs.map (ak)⟩
abbrev gK(t:ae)(A:aj)(n c:Nat)(xs:List Bool):Ck:=⟨A,n,c,t,xs.map .bool⟩
abbrev cg(t:ae)(A:aj)(n c:Nat)(xs:List aO):Ck:=⟨A,n,c,t,xs.map aO.v⟩
theorem uk(xs:ai):eU (xs.map (Value.int .i64))=false:=yY fun v hv=>by obtain⟨_,_,rfl⟩:=dF.1 hv;rfl
theorem G0(xs:List Bool):eU (xs.map Value.bool)=false:=yY fun v hv=>by obtain⟨_,_,rfl⟩:=dF.1 hv;rfl
theorem yX(xs:List aO):eU (xs.map aO.v)=false:=yY fun v hv=>by obtain⟨_,_,rfl⟩:=dF.1 hv;rfl
section
variable{xs:ai}
variable {w0 w w':aa} {ks:List Ck} {t:ae} {A:aj} {n c:Nat}
theorem St.bz(h:St w0 w ks)(i:Nat)(hk:ks[i]?=some (ax t A n c xs)):cL w A n xs:=by
 have hl:xs.length=n:=by have:=(h.qh hk (uk xs)).1;simpa using this
 exact⟨hl,(h.rd i hk).congr fun j hj=>by have gW:j<n:=hj;simp [dm,fq (show j<xs.length by omega)]⟩
theorem St.jA{xs:List Bool}(h:St w0 w ks)(i:Nat)(hk:ks[i]?=some (gK t A n c xs)):vI w A n xs:=by
 have hl:xs.length=n:=by have:=(h.qh hk (G0 xs)).1;simpa using this
 exact⟨hl,(h.rd i hk).congr fun j hj=>by have gW:j<n:=hj;simp [dm,fq (show j<xs.length by omega)]⟩
theorem St.fQ{xs:List aO}(h:St w0 w ks)(i:Nat)(hk:ks[i]?=some (cg t A n c xs)):mT w A n xs:=by
 have hl:xs.length=n:=by have:=(h.qh hk (yX xs)).1;simpa using this
 exact⟨hl,(h.rd i hk).congr fun j hj=>by have gW:j<n:=hj;simp [dm,fq (show j<xs.length by omega)]⟩
theorem St.gA(h:St w0 w ks)(hR:cL w0 A n xs):cL w A n xs:=⟨hR.1,h.sd hR.2⟩
theorem St.Pw{xs:List aO}(h:St w0 w ks)(hR:mT w0 A n xs):mT w A n xs:=⟨hR.1,h.sd hR.2⟩
theorem St.cap{k:Ck}(h:St w0 w ks)(i:Nat)(hk:ks[i]?=some k):k.n<=k.c/\k.c<=maxLen:=(h.get hk).cap
theorem St.EH(h:St w0 w ks)(i:Nat)(hk:ks[i]?=some (ax t A n c xs)):xs.length=n:=(h.bz i hk).1
theorem cL.aq(h:cL w A n xs)(hb:Below w.heap.size w w'):cL w' A n xs:=⟨h.1,h.2.below hb⟩
theorem vI.aq{xs:List Bool}(h:vI w A n xs)(hb:Below w.heap.size w w'):vI w' A n xs:=⟨h.1,h.2.below hb⟩
theorem mT.aq{xs:List aO}(h:mT w A n xs)(hb:Below w.heap.size w w'):mT w' A n xs:=⟨h.1,h.2.below hb⟩
theorem cL.nil:cL w none 0 []:=⟨rfl,fun k hk=>by omega⟩
end
section
variable{t te:ae}{z u v0 v1 z0:ad}{b j c1 m ft off sz o l h c':Nat}{x ix x0 x1 dw y:ag}{A1 A':aj}{k k':IntKind}{i:Int}{xs:ai}
variable {P:Program} {N:Nat} {ops:Array Oper} {K:Env->aa->Prop} {rest:List Oper} {e:Env} {w0 w w':aa} {ks:List Ck} {d:Nat} {ty:ae} {pos:String} {af:Array Edge}
theorem aqj{el:ae}[bA P t (.slice el)][bq P el z 1 b]{A:aj}{n c:Nat}{f:Nat->ad}(hR:Rd w A n f)(hx:ev e x= .slice A n c)(hy:ev e ix= .int k i)(hb:Nat.blt d N=true)(h0:0<=i)(h1:i< (n:Int))(hK:ao P N ops K rest (bn e d (.pointer (ay A i.toNat))) w):
 ao P N ops K (⟨some d,.indexAddr t x ix,ty,pos,af,none⟩::rest) e w:=by
 obtain⟨p,hp,_⟩:=hR i.toNat am;obtain⟨q,rfl⟩:∃q,A=some q:=by cases A with | none=>simp [ay]at hp | some q=>exact⟨q,rfl⟩
 obtain⟨inf,hi,_,hs,_⟩:=bq.get P el;refine .val (w':=w) ?_ hb hK;simp [execOp,Instr.indexAt,hx,hy,asIntOf,run_underlying (bA.out (P:=P) (t:=t)),h0,h1,sizeOf,typeInfo,hi,hs,ay]
theorem aD{el:ae}[bA P t (.slice el)][bq P el z 1 b]{A:aj}{n c:Nat}{f:Nat->ad}(hR:Rd w A n f)(q9:(ev e x,ev e ix,Nat.blt d N)=(.slice A n c,.int k i,true))(hK:ao P N ops K rest (bn e d (.pointer (ay A i.toNat))) w)(h0:0<=i:=by omega)(h1:i< (n:Int):=by omega):ao P N ops K (⟨some d,.indexAddr t x ix,ty,pos,af,none⟩::rest) e w:=aqj hR (congrArg (fun p=>p.1) q9) (congrArg (fun p=>p.2.1) q9) (congrArg (fun p=>p.2.2) q9) h0 h1 hK
def zn:TypeDesc->Bool
 | .struct _=>false
 | .array _ _=>false
 | _=>true
theorem amq{u:TypeDesc}(hu:P.underlying t=some u)(hp:zn u=true):(isAgg t).run P w= .ok false w:=by
 cases u<;>simp [zn]at hp<;>simp [isAgg,run_underlying hu]
theorem ao.ld{u:TypeDesc}[bA P t u]{A:aj}{n:Nat}{f:Nat->ad}{v:ad}(hR:Rd w A n f)(hx:ev e x= .pointer (ay A j))(hj:j<n)(hv:f j=v)(hp:zn u=true)(hb:Nat.blt d N=true)(hK:ao P N ops K rest (bn e d v) w):ao P N ops K (⟨some d,.load t x,ty,pos,af,none⟩::rest) e w:=by
 obtain⟨p,lD,hc⟩:=hR j hj;subst hv;refine .val (w':=w) ?_ hb hK;simp [execOp,Instr.loadAt,hx,lD,Instr.sureAddr,loadVar,amq (bA.out (P:=P) (t:=t)) hp,hc]
theorem aqk{u:TypeDesc}[bA P t u]{A:aj}{n:Nat}(hR:cL w A n xs)(hx:ev e x= .pointer (ay A i.toNat))(hj:i.toNat<n)(hp:zn u=true)(hb:Nat.blt d N=true)(hK:ao P N ops K rest (bn e d (ak (gi xs i))) w):ao P N ops K (⟨some d,.load t x,ty,pos,af,none⟩::rest) e w:= .ld hR.2 hx hj rfl hp hb hK
theorem aY{u:TypeDesc}[bA P t u]{A:aj}{n:Nat}(hR:cL w A n xs)(q9:(ev e x,zn u,Nat.blt d N)=(.pointer (ay A i.toNat),true,true))(hK:ao P N ops K rest (bn e d (ak (gi xs i))) w)(hj:i.toNat<n:=by omega):ao P N ops K (⟨some d,.load t x,ty,pos,af,none⟩::rest) e w:=aqk hR (congrArg (fun p=>p.1) q9) hj (congrArg (fun p=>p.2.1) q9) (congrArg (fun p=>p.2.2) q9) hK
theorem sM{u:TypeDesc}[bA P t u]{A:aj}{n:Nat}{xs:List Bool}(hR:vI w A n xs)(hx:ev e x= .pointer (ay A i.toNat))(hj:i.toNat<n)(hp:zn u=true)(hb:Nat.blt d N=true)(hK:ao P N ops K rest (bn e d (.bool (gb xs i))) w):ao P N ops K (⟨some d,.load t x,ty,pos,af,none⟩::rest) e w:= .ld hR.2 hx hj rfl hp hb hK
theorem aqq{u:TypeDesc}[bA P t u]{A:aj}{n:Nat}{xs:List aO}(hR:mT w A n xs)(hx:ev e x= .pointer (ay A i.toNat))(hj:i.toNat<n)(hp:zn u=true)(hb:Nat.blt d N=true)(hK:ao P N ops K rest (bn e d (.slice (rg xs i).a (rg xs i).n (rg xs i).c)) w):ao P N ops K (⟨some d,.load t x,ty,pos,af,none⟩::rest) e w:= .ld hR.2 hx hj rfl hp hb hK
theorem b9{u:TypeDesc}[bA P t u]{A:aj}{n:Nat}{xs:List aO}(hR:mT w A n xs)(q9:(ev e x,zn u,Nat.blt d N)=(.pointer (ay A i.toNat),true,true))(hK:ao P N ops K rest (bn e d (.slice (rg xs i).a (rg xs i).n (rg xs i).c)) w)(hj:i.toNat<n:=by omega):ao P N ops K (⟨some d,.load t x,ty,pos,af,none⟩::rest) e w:=aqq hR (congrArg (fun p=>p.1) q9) hj (congrArg (fun p=>p.2.1) q9) (congrArg (fun p=>p.2.2) q9) hK
theorem ao.st[bq P t z 1 b]{a:ag}{i:Nat}{k:Ck}(hS:St w0 w ks)(hk:ks[i]?=some k)(ha:ev e a= .pointer (ay k.A j))(hx:ev e x=u)(h1:u.oneCell'=true)(hj:j<k.n)(hK:∀w',St w0 w' (ks.set i { k with vs:=k.vs.set j u })->ao P N ops K rest e w'):ao P N ops K (⟨none,.store t a x,ty,pos,af,none⟩::rest) e w:=by
 obtain⟨p,hp,⟨v,hc⟩,hf,kU⟩:=hS.store i hk hj u h1;obtain⟨inf,hi,_,hs,_⟩:=bq.get P t;refine .unit (w':=w.setCell p u) ?_ (hK _ kU);have afe:u.cells= #[u]:=by cases u<;>simp [Value.oneCell']at h1<;>rfl
 simp [execOp,Instr.storeAt,ha,hx,hp,Instr.sureAddr,storeVar,sizeOf,typeInfo,hi,hs,afe,storeCells,run_store _ _ _ _ _ h1,hc,hf,Addr.add]
theorem kN[bq P t z 1 b]{a:ag}(m:Nat){A:aj}{n c:Nat}{u:Int}(hS:St w0 w ks)(hk:ks[m]?=some (ax te A n c xs))(ha:ev e a= .pointer (ay A i.toNat))(hx:ev e x=ak u)(hj:i.toNat<n)(hK:∀w',St w0 w' (ks.set m (ax te A n c (xs.set i.toNat u)))->ao P N ops K rest e w'):ao P N ops K (⟨none,.store t a x,ty,pos,af,none⟩::rest) e w:=
 .st hS hk ha hx rfl hj fun w' h=>hK w' (by simpa [ax,List.map_set]using h)
theorem uK[bq P t z 1 b]{a:ag}(m:Nat){A:aj}{n c:Nat}{xs:List Bool}{u:Bool}(hS:St w0 w ks)(hk:ks[m]?=some (gK te A n c xs))(ha:ev e a= .pointer (ay A i.toNat))(hx:ev e x= .bool u)(hj:i.toNat<n)(hK:∀w',St w0 w' (ks.set m (gK te A n c (xs.set i.toNat u)))->ao P N ops K rest e w'):ao P N ops K (⟨none,.store t a x,ty,pos,af,none⟩::rest) e w:=
 .st hS hk ha hx rfl hj fun w' h=>hK w' (by simpa [gK,List.map_set]using h)
theorem Fu[bq P t z 1 b]{a:ag}(m:Nat){A:aj}{n c:Nat}{xs:List aO}{n1:Nat}(hS:St w0 w ks)(hk:ks[m]?=some (cg te A n c xs))(ha:ev e a= .pointer (ay A i.toNat))(hx:ev e x= .slice A1 n1 c1)(hj:i.toNat<n)(hK:∀w',St w0 w' (ks.set m (cg te A n c (xs.set i.toNat ⟨A1,n1,c1⟩)))->ao P N ops K rest e w'):ao P N ops K (⟨none,.store t a x,ty,pos,af,none⟩::rest) e w:=
 .st hS hk ha hx rfl hj fun w' h=>hK w' (by simpa [cg,List.map_set,aO.v]using h)
theorem Pa(z:ad)(n:Nat):(madeCells #[z] n)=(List.replicate n z).toArray:=by
 rw [<-toList_madeCells_one z n]
theorem ao.mk{el:ae}[bA P t (.slice el)][bq P el z 1 b](n:Nat)(hS:St w0 w ks)(hx:ev e x= .int k (n:Int))(hz:z.cells= #[z])(h1z:z.oneCell'=true)(hb:Nat.blt d N=true)(hn:b*n<=281474976710656/\n<=9223372036854775807)(hK:∀A w',St w0 w' (⟨A,n,n,el,List.replicate n z⟩::ks)->ao P N ops K rest (bn e d (.slice A n n)) w'):ao P N ops K (⟨some d,.makeSlice t x x,ty,pos,af,none⟩::rest) e w:=by
 obtain⟨inf,hi,dX,hs,gR⟩:=bq.get P el;have hr:=run_make_row (P:=P) t el inf z (bA.out (P:=P) (t:=t)) hi dX hs hz k k n (by rw [gR];exact hn.1) hn.2 w;have hA:=hS.alloc (List.replicate n z) el (by simp [maxLen];omega) (aht n h1z);rw [Pa]at hr;refine .val (w':=w.alloc (.cells (List.replicate n z).toArray el)) ?_ hb (hK _ _ (by simpa using hA));simp only [execOp,hx,Sem.run_bind,hr,Result.andThen_ok,Sem.run_pure]
theorem zD{el:ae}{v:Bool}[bA P t (.slice el)][bq P el (.bool v) 1 b](n:Nat)(hS:St w0 w ks)(hx:ev e x= .int k (n:Int))(hb:Nat.blt d N=true)(hn:b*n<=281474976710656/\n<=9223372036854775807)(hK:∀A w',St w0 w' (gK el A n n (List.replicate n v)::ks)->ao P N ops K rest (bn e d (.slice A n n)) w'):ao P N ops K (⟨some d,.makeSlice t x x,ty,pos,af,none⟩::rest) e w:=
 .mk n hS hx rfl rfl hb hn fun A w' h=>hK A w' (by unfold gK;rw [List.map_replicate];exact h)
theorem x4{el:ae}{v:Int}[bA P t (.slice el)][bq P el (ak v) 1 b](n:Nat)(hS:St w0 w ks)(hx:ev e x= .int k (n:Int))(hb:Nat.blt d N=true)(hn:b*n<=281474976710656/\n<=9223372036854775807)(hK:∀A w',St w0 w' (ax el A n n (List.replicate n v)::ks)->ao P N ops K rest (bn e d (.slice A n n)) w'):ao P N ops K (⟨some d,.makeSlice t x x,ty,pos,af,none⟩::rest) e w:=
 .mk n hS hx rfl rfl hb hn fun A w' h=>hK A w' (by unfold ax;rw [List.map_replicate];exact h)
theorem Lh{el:ae}[bA P t (.slice el)][bq P el (.slice none 0 0) 1 b](n:Nat)(hS:St w0 w ks)(hx:ev e x= .int k (n:Int))(hb:Nat.blt d N=true)(hn:b*n<=281474976710656/\n<=9223372036854775807)(hK:∀A w',St w0 w' (cg el A n n (List.replicate n eY)::ks)->ao P N ops K rest (bn e d (.slice A n n)) w'):ao P N ops K (⟨some d,.makeSlice t x x,ty,pos,af,none⟩::rest) e w:=
 .mk n hS hx rfl rfl hb hn fun A w' h=>hK A w' (by unfold cg;rw [List.map_replicate];exact h)
theorem Dy(f:Nat->ad)(n:Nat):(Array.range n).map f=((List.range n).map f).toArray:=by apply Array.ext';simp
theorem jr{el:ae}[bA P t (.slice el)][bq P el z 1 b](hS:St w0 w ks)(hb:Nat.blt d N=true)(hK:∀A w',St w0 w' (⟨A,0,0,el,[]⟩::ks)->ao P N ops K rest (bn e d (.slice A 0 0)) w'):ao P N ops K (⟨some d,.buildSlice t 0 #[],ty,pos,af,none⟩::rest) e w:=by
 obtain⟨inf,hi,dX,hs,gR⟩:=bq.get P el;refine .val (w':=w.alloc (.cells #[] el)) ?_ hb (hK _ _ (hS.alloc [] el (by simp) O));simp [execOp,Instr.buildSlice,run_underlying (bA.out (P:=P) (t:=t)),sizeOf,typeInfo,hi,hs,Instr.fill,newRow,Dy]
theorem ao.LH{el:ae}[bA P t (.slice el)][bq P el z 1 b](hS:St w0 w ks)(h0:ev e x0=v0)(c0:v0.oneCell'=true)(hz:z.cells= #[z])(hb:Nat.blt d N=true)(hK:∀A w',St w0 w' (⟨A,1,1,el,[v0]⟩::ks)->ao P N ops K rest (bn e d (.slice A 1 1)) w'):ao P N ops K (⟨some d,.buildSlice t 1 #[(0,x0)],ty,pos,af,none⟩::rest) e w:=by
 obtain⟨inf,hi,dX,hs,gR⟩:=bq.get P el;have e0:v0.cells= #[v0]:=by cases v0<;>simp [Value.oneCell']at c0<;>rfl
 refine .val (w':=w.alloc (.cells #[v0] el)) ?_ hb (hK _ _ (hS.alloc [v0] el (by simp [maxLen]) (Kg c0)));simp [execOp,Instr.buildSlice,run_underlying (bA.out (P:=P) (t:=t)),sizeOf,typeInfo,zeroValue,hi,hs,dX,hz,Instr.fill,newRow,h0,e0,Dy,jU]
theorem Df{el:ae}[bA P t (.slice el)][bq P el z 1 b](hS:St w0 w ks)(h0:ev e x0=v0)(h1:ev e x1=v1)(c0:v0.oneCell'=true)(c1:v1.oneCell'=true)(hz:z.cells= #[z])(hb:Nat.blt d N=true)(hK:∀A w',St w0 w' (⟨A,2,2,el,[v0,v1]⟩::ks)->ao P N ops K rest (bn e d (.slice A 2 2)) w'):ao P N ops K (⟨some d,.buildSlice t 2 #[(0,x0),(1,x1)],ty,pos,af,none⟩::rest) e w:=by
 obtain⟨inf,hi,dX,hs,gR⟩:=bq.get P el;have e0:v0.cells= #[v0]:=by cases v0<;>simp [Value.oneCell']at c0<;>rfl
 have e1:v1.cells= #[v1]:=by cases v1<;>simp [Value.oneCell']at c1<;>rfl
 refine .val (w':=w.alloc (.cells #[v0,v1] el)) ?_ hb (hK _ _ (hS.alloc [v0,v1] el (by simp [maxLen]) (Kg c0)));simp [execOp,Instr.buildSlice,run_underlying (bA.out (P:=P) (t:=t)),sizeOf,typeInfo,zeroValue,hi,hs,dX,hz,Instr.fill,newRow,h0,e0,h1,e1,Dy,jU]
theorem ao.box{el:ae}{v:ad}(hS:St w0 w ks)(hx:ev e x=v)(hb:Nat.blt d N=true)(hm:v.cells.size<=maxLen)(hK:∀A w',St w0 w' (⟨A,v.cells.size,v.cells.size,el,v.cells.toList⟩::ks)->ao P N ops K rest (bn e d (.pointer A)) w')(hM:eU v.cells.toList=false:=by rfl):ao P N ops K (⟨some d,.box el x,ty,pos,af,none⟩::rest) e w:=by
 have hA:=hS.alloc v.cells.toList el (by simpa using hm) hM;refine .val (w':=w.alloc (.cells v.cells el)) ?_ hb (hK _ _ (by simpa using hA));simp [execOp,Instr.box,newVar,newRow,hx]
theorem ao.H7{el:ae}{cs:Array ad}(hS:St w0 w ks)(hx:ev e x= .agg cs)(hb:Nat.blt d N=true)(hm:Nat.ble cs.size 100=true)(hK:∀A w',St w0 w' (⟨A,cs.size,cs.size,el,cs.toList⟩::ks)->ao P N ops K rest (bn e d (.pointer A)) w')(hM:eU cs.toList=false:=by rfl):ao P N ops K (⟨some d,.box el x,ty,pos,af,none⟩::rest) e w:=
 .box hS hx hb (by show cs.size<=maxLen;have:=Nat.le_of_ble_eq_true hm;simp only [maxLen];omega) hK hM
theorem ao.new{el:ae}{s:Nat}[bq P el z s b](hS:St w0 w ks)(hb:Nat.blt d N=true)(jj:Nat.ble z.cells.size 100=true)(hK:∀A w',St w0 w' (⟨A,z.cells.size,z.cells.size,el,z.cells.toList⟩::ks)->ao P N ops K rest (bn e d (.pointer A)) w')(hM:eU z.cells.toList=false:=by rfl):ao P N ops K (⟨some d,.alloc el,ty,pos,af,none⟩::rest) e w:=by
 obtain⟨inf,hi,dX,hs,gR⟩:=bq.get P el;have hm:z.cells.size<=maxLen:=by have:=Nat.le_of_ble_eq_true jj;simp only [maxLen];omega
 have hA:=hS.alloc z.cells.toList el (by simpa using hm) hM;refine .val (w':=w.alloc (.cells z.cells el)) ?_ hb (hK _ _ (by simpa using hA));simp [execOp,Instr.alloc,zeroValue,typeInfo,hi,dX,newVar,newRow]
theorem lN{A:aj}{n:Nat}{f:Nat->ad}(hR:Rd w A n f)(hn:0<n)(hx:ev e x= .pointer A)(hb:Nat.blt d N=true)(hK:ao P N ops K rest (bn e d (.pointer A)) w):
 ao P N ops K (⟨some d,.nilCheck x,ty,pos,af,none⟩::rest) e w:=by
 obtain⟨p,hp,_⟩:=hR 0 hn;obtain⟨q,rfl⟩:∃q,A=some q:=by cases A with | none=>simp [ay]at hp | some q=>exact⟨q,rfl⟩
 exact .akn hx hb hK
def FM:List Field->Nat->Option (ae×Nat)
 | f::_,0=>some (f.type,f.offset)
 | _::r,m+1=>FM r m
 | [],_=>none
theorem S0:∀ {l:List Field} {m:Nat} {ft off:Nat},FM l m=some (ft,off)->∃fd,l[m]?=some fd/\fd.type=ft/\fd.offset=off
 | [],_,_,_,h=>by simp [FM]at h
 | f::_,0,_,_,h=>by simp [FM]at h;exact⟨f,rfl,h.1,h.2⟩
 | _::r,m+1,_,_,h=>by simpa using S0 (l:=r) (m:=m) h
theorem aqo{s:ae}{fs:Array Field}[bA P s (.struct fs)]{A:aj}{n:Nat}{f:Nat->ad}(hR:Rd w A n f)(hx:ev e x= .pointer A)(hf:FM fs.toList m=some (ft,off))(hn:Nat.blt 0 n=true)(hb:Nat.blt d N=true)(hI:bq P ft z (sz+1) b)(hK:ao P N ops K rest (bn e d (.pointer (ay A off))) w):ao P N ops K (⟨some d,.fieldAddr s x m,ty,pos,af,none⟩::rest) e w:=by
 obtain⟨p,hp,_⟩:=hR 0 (by simpa [Nat.blt_eq]using hn);obtain⟨q,rfl⟩:∃q,A=some q:=by cases A with | none=>simp [ay]at hp | some q=>exact⟨q,rfl⟩
 obtain⟨fd,ji,rfl,rfl⟩:=S0 hf;have pF:fs[m]?=some fd:=by simpa using ji
 obtain⟨inf,hi,dX,hs,gR⟩:=bq.get P fd.type;refine .val (w':=w) ?_ hb hK;simp [execOp,Instr.fieldAt,run_underlying (bA.out (P:=P) (t:=s)),pF,hx,Instr.sureAddr,fieldPlace,sizeOf,typeInfo,hi,hs,ay]
theorem aV{s:ae}{fs:Array Field}[bA P s (.struct fs)]{A:aj}{n:Nat}{f:Nat->ad}(hR:Rd w A n f)(q9:(ev e x,FM fs.toList m,Nat.blt 0 n,Nat.blt d N)=(.pointer A,some (ft,off),true,true))[hI:bq P ft z (sz+1) b](hK:ao P N ops K rest (bn e d (.pointer (ay A off))) w):ao P N ops K (⟨some d,.fieldAddr s x m,ty,pos,af,none⟩::rest) e w:=aqo hR (congrArg (fun p=>p.1) q9) (congrArg (fun p=>p.2.1) q9) (congrArg (fun p=>p.2.2.1) q9) (congrArg (fun p=>p.2.2.2) q9) hI hK
theorem ao.cN{fs:Array Field}(m:Nat)[bA P t (.struct fs)][bq P t z (m+1) b]{A:aj}{f:Nat->ad}{cs:Array ad}(hR:Rd w A (m+1) f)(hx:ev e x= .pointer A)(qP:((List.range (m+1)).map f).toArray=cs)(hb:Nat.blt d N=true)(hK:ao P N ops K rest (bn e d (.agg cs)) w):ao P N ops K (⟨some d,.load t x,ty,pos,af,none⟩::rest) e w:=by
 obtain⟨p,hp,_⟩:=hR 0 am;obtain⟨q,rfl⟩:∃q,A=some q:=by cases A with | none=>simp [ay]at hp | some q=>exact⟨q,rfl⟩
 obtain⟨inf,hi,dX,hs,gR⟩:=bq.get P t;have hl:=run_loadCells (P:=P) w q (m+1) f (fun j hj=>by
  obtain⟨p,hp,hc⟩:=hR j hj;simp [ay]at hp;rw [hp];exact hc)
 subst qP;refine .val (w':=w) ?_ hb hK;simp [execOp,Instr.loadAt,hx,Instr.sureAddr,loadVar,isAgg,run_underlying (bA.out (P:=P) (t:=t)),sizeOf,typeInfo,hi,hs,hl]
theorem jz(A:aj):ay A 0=A:=by cases A<;>simp [ay,Addr.add]
theorem PJ(A:aj)(i j:Nat):ay (ay A i) j=ay A (i+j):=by
 cases A with
 | none=>rfl
 | some q=>simp only [ay,Option.map_some];unfold Addr.add;by_cases h1:i=0<;>by_cases h2:j=0<;>simp [h1,h2,Nat.add_assoc]
theorem Rd.behind{A:aj}{n:Nat}{f:Nat->ad}(hR:Rd w A n f)(h:o+m<=n):Rd w (ay A o) m (fun j=>f (o+j)):=fun j hj=>by
 obtain⟨p,hp,hc⟩:=hR (o+j) am;exact⟨p,by rw [PJ];exact hp,hc⟩
abbrev Bx(t:ae)(n:Nat)(A:aj)(vs:List ad):Ck:=⟨A,n,n,t,vs⟩
theorem jH{el:ae}(hS:St w0 w ks)(hx:ev e x= .agg #[v0])(hb:Nat.blt d N=true)(hK:∀A w',St w0 w' (Bx el 1 A [v0]::ks)->ao P N ops K rest (bn e d (.pointer A)) w')(hM:eU [v0]=false:=by rfl):ao P N ops K (⟨some d,.box el x,ty,pos,af,none⟩::rest) e w:= .H7 hS hx hb rfl hK hM
theorem ib{el:ae}{s:Nat}[bq P el (.agg #[v0]) s b](hS:St w0 w ks)(hb:Nat.blt d N=true)(hK:∀A w',St w0 w' (Bx el 1 A [v0]::ks)->ao P N ops K rest (bn e d (.pointer A)) w')(hM:eU [v0]=false:=by rfl):ao P N ops K (⟨some d,.alloc el,ty,pos,af,none⟩::rest) e w:= .new (el:=el) (z:= .agg #[v0]) (s:=s) (b:=b) hS hb rfl hK hM
theorem Z7{el:ae}{s:Nat}[bq P el (.agg #[v0,v1]) s b](hS:St w0 w ks)(hb:Nat.blt d N=true)(hK:∀A w',St w0 w' (Bx el 2 A [v0,v1]::ks)->ao P N ops K rest (bn e d (.pointer A)) w')(hM:eU [v0,v1]=false:=by rfl):ao P N ops K (⟨some d,.alloc el,ty,pos,af,none⟩::rest) e w:= .new (el:=el) (z:= .agg #[v0,v1]) (s:=s) (b:=b) hS hb rfl hK hM
theorem aqp{u:TypeDesc}[bA P t u]{A:aj}{n n1:Nat}{f:Nat->ad}(hR:Rd w A n f)(hx:ev e x= .pointer (ay A j))(hj:Nat.blt j n=true)(hv:f j= .slice A1 n1 c1)(hp:zn u=true)(hb:Nat.blt d N=true)(hK:ao P N ops K rest (bn e d (.slice A1 n1 c1)) w):ao P N ops K (⟨some d,.load t x,ty,pos,af,none⟩::rest) e w:= .ld hR hx (by simpa [Nat.blt_eq]using hj) hv hp hb hK
theorem bj{u:TypeDesc}[bA P t u]{A:aj}{n n1:Nat}{f:Nat->ad}(hR:Rd w A n f)(q9:(ev e x,Nat.blt j n,f j,zn u,Nat.blt d N)=(.pointer (ay A j),true,.slice A1 n1 c1,true,true))(hK:ao P N ops K rest (bn e d (.slice A1 n1 c1)) w):ao P N ops K (⟨some d,.load t x,ty,pos,af,none⟩::rest) e w:=aqp hR (congrArg (fun p=>p.1) q9) (congrArg (fun p=>p.2.1) q9) (congrArg (fun p=>p.2.2.1) q9) (congrArg (fun p=>p.2.2.2.1) q9) (congrArg (fun p=>p.2.2.2.2) q9) hK
theorem gP{u:TypeDesc}[bA P t u]{A:aj}{n:Nat}{f:Nat->ad}(hR:Rd w A n f)(hx:ev e x= .pointer (ay A j))(hj:Nat.blt j n=true)(hv:f j= .int k i)(hp:zn u=true)(hb:Nat.blt d N=true)(hK:ao P N ops K rest (bn e d (.int k i)) w):ao P N ops K (⟨some d,.load t x,ty,pos,af,none⟩::rest) e w:= .ld hR hx (by simpa [Nat.blt_eq]using hj) hv hp hb hK
def tC(vs:List ad)(o:Nat):List ad->List ad
 | []=>vs
 | c::r=>tC (vs.set o c) (o+1) r
theorem XZ{k:Ck}(i:Nat):∀(cs:List ad) (ks:List Ck) (vs:List ad) (w:aa) (o:Nat) (p:Addr),St w0 w ks->ks[i]?=some { k with vs:=vs }->ay k.A o=some p->o+cs.length<=k.n->(∀u∈cs,u.oneCell'=true)->∀m q,ay k.A m=some q->o=m+ (o - m)->
 m<=o->∃w',(storeCells q cs (o - m)).run P w= .ok () w'/\St w0 w' (ks.set i { k with vs:=tC vs o cs })
 | [],ks,vs,w,o,p,hS,hk,_,_,_,m,q,_,_,_=> ⟨w,by simp [storeCells],by
  have:ks.set i { k with vs:=tC vs o [] }=ks:=by
   apply List.ext_getElem?;intro j;rw [mR]
   split
   ·rename_i e;subst e;rw [hk,aB (gx.1 hk).1];rfl
   ·rfl
  rw [this];exact hS⟩
 | c::r,ks,vs,w,o,p,hS,hk,hp,hl,h1,m,q,hq,ho,hm=>by
  simp only [List.length_cons]at hl;obtain⟨p',lD,⟨v,hc⟩,hf,kU⟩:=hS.store i hk (j:=o) (by show o<k.n;omega) c (h1 c (by simp));have Vt:q.add (o - m)=p':=by
   have:ay (ay k.A m) (o - m)=some p':=by rw [PJ,<-ho];exact lD
   rw [hq]at this;simpa [ay]using this
  have fG:=(gx.1 hk).1
  by_cases hr:r=[]
  ·subst hr;refine⟨_,?_,kU⟩;simp [storeCells,Vt,run_store _ _ _ _ _ (h1 c (by simp)),hc,hf]
  ·have cn:0<r.length:=by cases r with | nil=>exact absurd rfl hr | cons _ _=>simp
   obtain⟨p2,jL⟩:∃p2,ay k.A (o+1)=some p2:=by
    obtain⟨x,hx,_⟩:=(hS.rd i hk) (o+1) (by show o+1<k.n;omega);exact⟨x,hx⟩
   obtain⟨w2,ko,aF⟩:=XZ i r _ (vs.set o c) _ (o+1) p2 kU (by rw [mR];simp [fG]) jL am (fun u hu=>h1 u (by simp [hu])) m q hq am am;refine⟨w2,?_,by simpa [tC]using aF⟩;have e1:o+1 - m=o - m+1:=by omega
   rw [e1]at ko;simp [storeCells,Vt,run_store _ _ _ _ _ (h1 c (by simp)),hc,hf,ko]
theorem ao.Yo(m:Nat)[bq P t z m b]{a:ag}(i:Nat){k:Ck}{cs:Array ad}(hS:St w0 w ks)(hk:ks[i]?=some k)(ha:ev e a= .pointer (ay k.A o))(hx:ev e x= .agg cs)(qP:cs.size=m)(vT:cs.toList.all Value.oneCell'=true)(tp:Nat.blt 0 m=true)(Er:Nat.ble (o+m) k.n=true)(hK:∀w',St w0 w' (ks.set i { k with vs:=tC k.vs o cs.toList })->ao P N ops K rest e w'):ao P N ops K (⟨none,.store t a x,ty,pos,af,none⟩::rest) e w:=by
 have hn:0<m/\o+m<=k.n:=⟨by simpa [Nat.blt_eq]using tp,Nat.le_of_ble_eq_true Er⟩;have h1:∀u∈cs.toList,u.oneCell'=true:=fun u hu=>List.all_eq_true.1 vT u hu
 obtain⟨p,hp,_⟩:=(hS.rd i hk) o am;obtain⟨w',ko,kU⟩:=XZ (P:=P) (k:=k) i cs.toList ks k.vs w o p hS hk hp (by simp;omega) h1 o p hp am am;obtain⟨inf,hi,_,hs,_⟩:=bq.get P t;refine .unit (w':=w') ?_ (hK _ kU);rw [Nat.sub_self]at ko;simp [execOp,Instr.storeAt,ha,hx,hp,Instr.sureAddr,storeVar,sizeOf,typeInfo,hi,hs,Value.cells,qP,ko]
theorem b5(m:Nat)[bq P t z m b]{a:ag}(i:Nat){k:Ck}{cs:Array ad}(hS:St w0 w ks)(hk:ks[i]?=some k)(ha:ev e a= .pointer k.A)(hx:ev e x= .agg cs)(qP:cs.size=m)(h1:cs.toList.all Value.oneCell'=true)(tp:Nat.blt 0 m=true)(Er:Nat.ble (0+m) k.n=true)(hK:∀w',St w0 w' (ks.set i { k with vs:=tC k.vs 0 cs.toList })->ao P N ops K rest e w'):ao P N ops K (⟨none,.store t a x,ty,pos,af,none⟩::rest) e w:=
 .Yo m i hS hk (by rw [jz];exact ha) hx qP h1 tp Er hK
theorem ki[bq P t z 1 b]{a:ag}(i:Nat){k:Ck}(hS:St w0 w ks)(hk:ks[i]?=some k)(ha:ev e a= .pointer (ay k.A j))(hx:ev e x=u)(h1:u.oneCell'=true)(hj:Nat.blt j k.n=true)(hK:∀w',St w0 w' (ks.set i { k with vs:=k.vs.set j u })->ao P N ops K rest e w'):ao P N ops K (⟨none,.store t a x,ty,pos,af,none⟩::rest) e w:= .st hS hk ha hx h1 (by simpa [Nat.blt_eq]using hj) hK
def XP(a n:Nat)(R:ad->aa->Prop):jX
 | .normal,e,w=>∃A f,e a= .pointer A/\Rd w A n f/\R (.agg ((List.range n).map f).toArray) w
 | .ret,e,w=>∃A f,e a= .pointer A/\Rd w A n f/\R (.agg ((List.range n).map f).toArray) w
 | _,_,_=>False
theorem iA{a n:Nat}{R:ad->aa->Prop}{A:aj}{f:Nat->ad}(h:e a= .pointer A)(hR:Rd w A n f)(h2:R (.agg ((List.range n).map f).toArray) w):XP a n R .ret e w:=⟨A,f,h,hR,h2⟩
theorem XY{fs:Array Field}{n:Nat}[bA P t (.struct fs)][bq P t z n b]{A:aj}{f:Nat->ad}(hn:0<n)(hR:Rd w A n f):∃q,A=some q/\(loadVar t q).run P w= .ok (.agg ((List.range n).map f).toArray) w:=by
 obtain⟨p,hp,_⟩:=hR 0 hn;obtain⟨q,rfl⟩:∃q,A=some q:=by cases A with | none=>simp [ay]at hp | some q=>exact⟨q,rfl⟩
 obtain⟨inf,hi,dX,hs,gR⟩:=bq.get P t;have hl:=run_loadCells (P:=P) w q n f (fun j hj=>by
  obtain⟨p,hp,hc⟩:=hR j hj;simp [ay]at hp;rw [hp];exact hc)
 exact⟨q,O,by simp [loadVar,isAgg,run_underlying (bA.out (P:=P) (t:=t)),sizeOf,typeInfo,hi,hs,hl]⟩
theorem re{fn:Func}{R:ad->aa->Prop}{a t n:Nat}{fs:Array Field}[bA P t (.struct fs)][bq P t z n b](hr:fn.results= #[.cell a t])(Cp:Nat.blt 0 n=true):∀x a1 e w,kj N a1 e->XP a n R x e w->bodyPost P fn (fun x w'=>∃v,x= .returned v/\R v w') x a1 w:=by
 intro x a1 e w he q;have hn:0<n:=by simpa [Nat.blt_eq]using Cp
 have hg:=he.get a;have key:∀(A:aj) (f:Nat->ad),e a= .pointer A->Rd w A n f->(results fn a1.tmps).run P w= .ok (.agg ((List.range n).map f).toArray) w:=by
  intro A f hA hR;obtain⟨q,rfl,hl⟩:=XY (P:=P) (t:=t) hn hR;rw [jn]at hg;simp [results,hr,hg,hA,asAddr,hl]
 cases x<;>first
  | exact q.elim
  | (
   obtain⟨A,f,hA,hR,h2⟩:=q;exact⟨he.defers,_,key A f hA hR,_,O,h2⟩)
def cutAt(A:aj)(c l:Nat):aj:=if c=l then A else ay A l
theorem Rd.cut{A:aj}{n c:Nat}{f:Nat->ad}(hR:Rd w A n f)(hl:l<=h)(hn:h<=n)(hc:n<=c):Rd w (cutAt A c l) (h - l) (fun j=>f (l+j)):=fun j hj=>by
 obtain⟨p,hp,afd⟩:=hR (l+j) am;refine⟨p,?_,afd⟩;unfold cutAt;rw [az (by omega)];cases A with
 | none=>simp [ay]at hp
 | some q=>
  simp only [ay,Option.map_some,mB]at hp|-;rw [<-hp];unfold Addr.add
  by_cases wh:l=0<;>by_cases U0:j=0<;>simp [wh,U0,Nat.add_assoc]
theorem cL.cut{A:aj}{n c:Nat}(hR:cL w A n xs)(hl:l<=h)(hn:h<=n)(hc:n<=c):cL w (cutAt A c l) (h - l) ((xs.drop l).take (h - l)):=
 ⟨by have:=hR.1;simp;omega,(hR.2.cut hl hn hc).congr fun j hj=>by simp [dm,rz,hj]⟩
theorem mT.cut{A:aj}{n c:Nat}{xs:List aO}(hR:mT w A n xs)(hl:l<=h)(hn:h<=n)(hc:n<=c):mT w (cutAt A c l) (h - l) ((xs.drop l).take (h - l)):=
 ⟨by have:=hR.1;simp;omega,(hR.2.cut hl hn hc).congr fun j hj=>by simp [dm,rz,hj]⟩
theorem Fo{el:ae}[hU:bA P t (.slice el)][bq P el z 1 b]{lo:ag}{A:aj}{n c:Nat}{l:Int}(hx:ev e x= .slice A n c)(hl:ev e lo= .int k l)(hb:Nat.blt d N=true)(h0:0<=l/\l<=(n:Int))(hK:ao P N ops K rest (bn e d (.slice (cutAt A c l.toNat) (n - l.toNat) (c - l.toNat))) w):ao P N ops K (⟨some d,.slice t x (some lo) none none,ty,pos,af,none⟩::rest) e w:=by
 obtain⟨inf,hi,dX,hs,gR⟩:=bq.get P el;refine .val (w':=w) ?_ hb hK;have:=run_sliceBound (P:=P) w k l n .sliceB h0.1 h0.2;simp [execOp,hx,hl,Instr.sliceAt,run_underlying hU.out,Instr.slice,Instr.sliceBounds,this,sizeOf,typeInfo,hi,hs,cutAt,ay]
theorem Lf{el:ae}[hU:bA P t (.slice el)][bq P el z 1 b]{A:aj}{n c:Nat}{h:Int}(hx:ev e x= .slice A n c)(hh:ev e dw= .int k h)(hb:Nat.blt d N=true)(h0:0<=h/\h<=(c:Int))(hK:ao P N ops K rest (bn e d (.slice A h.toNat c)) w):ao P N ops K (⟨some d,.slice t x none (some dw) none,ty,pos,af,none⟩::rest) e w:=by
 obtain⟨inf,hi,dX,hs,gR⟩:=bq.get P el;refine .val (w':=w) ?_ hb hK;have:=run_sliceBound (P:=P) w k h c .sliceAcap h0.1 h0.2;have hA:A.map (fun x=>x.add 0)=A:=by cases A<;>simp [Addr.add]
 simp [execOp,hx,hh,Instr.sliceAt,run_underlying hU.out,Instr.slice,Instr.sliceBounds,this,sizeOf,typeInfo,hi,hs,hA]
theorem ZT{el:ae}[hU:bA P t (.slice el)][bq P el z 1 b]{lo:ag}{A:aj}{n c:Nat}{l h:Int}(hx:ev e x= .slice A n c)(hl:ev e lo= .int k l)(hh:ev e dw= .int k' h)(hb:Nat.blt d N=true)(h0:0<=l/\l<=h/\h<=(c:Int))(hK:ao P N ops K rest (bn e d (.slice (cutAt A c l.toNat) (h.toNat - l.toNat) (c - l.toNat))) w):ao P N ops K (⟨some d,.slice t x (some lo) (some dw) none,ty,pos,af,none⟩::rest) e w:=by
 obtain⟨inf,hi,dX,hs,gR⟩:=bq.get P el;refine .val (w':=w) ?_ hb hK;have h1:=run_sliceBound (P:=P) w k' h c .sliceAcap am h0.2.2;have h2:=run_sliceBound (P:=P) w k l h.toNat .sliceB h0.1 am;simp [execOp,hx,hl,hh,Instr.sliceAt,run_underlying hU.out,Instr.slice,Instr.sliceBounds,h1,h2,sizeOf,typeInfo,hi,hs,cutAt,ay]
theorem amn{el:ae}[hU:bA P t (.slice el)][bq P el z 1 b](hz:z.cells= #[z0]){k:Ck}(i:Nat)(hS:St w0 w ks)(hk:ks[i]?=some k)(hM:eU k.vs=false)(he:k.e=el){f:Nat->ad}(hR:Rd w A' m f)(h1:∀j,j<m->(f j).oneCell'=true)
 (rK:k.n+m<=maxLen) (pA:(k.n+m)*b<=140737488355328) (ty:ae):
 ∃A2 c2 w',(Builtin.append_ #[t,t] ty #[.slice k.A k.n k.c,.slice A' m c']).run P w= .ok (.slice A2 (k.n+m) c2) w'/\St w0 w' (ks.set i ⟨A2,k.n+m,c2,el,k.vs++ (List.range m).map f⟩)/\(k.n=k.c->Below w.heap.size w w'):=by
 subst he;obtain⟨inf,hi,dX,hs,gR⟩:=bq.get P k.e;have Cr:=hS.qh hk hM;have MZ:eU (k.vs++ (List.range m).map f)=false:=OO hM (yY fun u hu=>by
  obtain⟨j,hj,rfl⟩:=dF.1 hu;exact h1 j (by simpa using hj))
 obtain⟨hl,mG,oW,h4⟩:=Cr;have yG:=(gx.1 hk).1
 by_cases hm:m=0
 ·subst hm;refine⟨k.A,k.c,w,?_,?_,fun _=>Below.refl _ _⟩
  ·cases A' with
   | none=>cases hkA:k.A<;>simp [Builtin.append_,run_underlying hU.out,sizeOf,typeInfo,hi,Builtin.lenOf,Builtin.firstCells,mG,storeCells]
   | some a=>
    have wh:=run_loadCells (P:=P) w a 0 f (fun j hj=>by omega);cases hkA:k.A<;>simp [Builtin.append_,run_underlying hU.out,sizeOf,typeInfo,hi,Builtin.lenOf,Builtin.firstCells,mG,storeCells,loadCells,loadCellsFrom]
  ·have:ks.set i ⟨k.A,k.n+0,k.c,k.e,k.vs++ (List.range 0).map f⟩=ks:=by
    have h5:(⟨k.A,k.n+0,k.c,k.e,k.vs++ (List.range 0).map f⟩:Ck)=k:=by simp
    rw [h5];apply List.ext_getElem?;intro j;rw [mR]
    split
    ·rename_i e;subst e;rw [hk]
     try simp [yG]
    ·rfl
   rw [this];exact hS
 ·obtain⟨a,rfl⟩:∃a,A'=some a:=by
   obtain⟨p,hp,_⟩:=hR 0 am;cases A' with | none=>simp [ay]at hp | some q=>exact⟨q,rfl⟩
  have gX:((List.range m).map f).length=m:=by simp
  have ue:∀j v,((List.range m).map f)[j]?=some v->w.cell? (a.add j)=some v:=by
   intro j v hj;have vd:j<m:=by have:=(gx.1 hj).1;simpa using this
   obtain⟨p,hp,hc⟩:=hR j vd;simp only [ay,Option.map_some,mB]at hp;rw [hp,hc,<-hj];simp [vd]
  have vT:∀u∈(List.range m).map f,u.oneCell'=true:=by
   intro u hu;obtain⟨j,hj,rfl⟩:=dF.1 hu;exact h1 j (by simpa using hj)
  have fresh:∀(cs:List ad) (c2:Nat),eU cs=false->k.n+m<=c2->c2<=maxLen->cs.length=c2->cs.take (k.n+m)=k.vs++ (List.range m).map f->
   St w0 (w.drew.alloc (.cells cs.toArray k.e)) (ks.set i ⟨some ⟨w.heap.size,0,none⟩,k.n+m,c2,k.e,k.vs++ (List.range m).map f⟩):=by
   intro cs c2 h5m h5 h6 h7 h8;have hA:=hS.drew.alloc cs k.e am h5m;have hp:(⟨some ⟨w.heap.size,0,none⟩,cs.length,cs.length,k.e,cs⟩::ks).Perm (k::(ks.set i ⟨some ⟨w.heap.size,0,none⟩,cs.length,cs.length,k.e,cs⟩)):=by
    have gen:∀(l:List Ck) (i:Nat) (x y:Ck),l[i]?=some y->(x::l).Perm (y::l.set i x):=by
     intro l
     induction l with
     | nil=>intro i x y h;simp at h
     | cons u l ih=>
      intro i x y h;cases i with
      | zero=>simp at h;subst h;exact List.Perm.swap _ _ _
      | succ i=>
       simp only [List.getElem?_cons_succ]at h;simp only [List.set_cons_succ];exact(List.Perm.swap _ _ _).trans (((ih i x y h).cons u).trans (List.Perm.swap _ _ _))
    exact gen ks i _ _ hk
   have hB:=(hA.perm hp).tail;refine⟨hB.below,fun x hx=>?_,?_⟩
   ·obtain⟨j,hj,rfl⟩:=gC.1 hx;have gW:j<ks.length:=by simpa using hj
    rw [List.getElem_set]
    split
    ·refine .q9 MZ ⟨?_,h5,h6,.inr ⟨w.heap.size,0,cs.toArray,O,hS.below.size,heap_alloc_new w.drew _,by simp;omega,fun q hq=>?_⟩⟩
     ·simp [hl]
     ·have Oe:q<k.n+m:=hq;show cs.toArray[0+q]?=(k.vs++ (List.range m).map f)[q]?;rw [<-h8];simp [rz,Oe]
    ·rename_i bP;refine hB.own _ (gC.2 ⟨j,by simpa using gW,?_⟩);rw [List.getElem_set,az bP]
   ·have h9:=hB.apart;rw [show(ks.set i ⟨some ⟨w.heap.size,0,none⟩,k.n+m,c2,k.e,k.vs++ (List.range m).map f⟩).filterMap Ck.ij=(ks.set i ⟨some ⟨w.heap.size,0,none⟩,cs.length,cs.length,k.e,cs⟩).filterMap Ck.ij from ?_]
    ·exact h9
    ·have:=IG Ck.ij (ks.set i ⟨some ⟨w.heap.size,0,none⟩,cs.length,cs.length,k.e,cs⟩) i ⟨some ⟨w.heap.size,0,none⟩,cs.length,cs.length,k.e,cs⟩ ⟨some ⟨w.heap.size,0,none⟩,k.n+m,c2,k.e,k.vs++ (List.range m).map f⟩ (by rw [mR];simp [yG]) O;rw [<-this];simp
  have FZ:((k.n+m:Nat):Int)<=9223372036854775807:=by simp only [maxLen]at rK;omega
  rcases h4 with⟨hA,h0⟩ | ⟨g,o,cur,hA,hg,hh,mr,hc⟩
  ·have oe:k.n=0:=by omega
   have GS:k.vs=[]:=qE am;have hr:=run_append_nil (P:=P) w t ty k.e inf z hU.out hi dX a m c' _ (by rw [gX,hs,Nat.mul_one]) ue am am (by rw [gR];rw [oe,Nat.zero_add]at pA;omega);have u6:=grownCap_ge w m 0 k.e;refine⟨_,_,_,?_,fresh (((List.range m).map f)++List.replicate (grownCap w m 0 k.e - m) z0) (grownCap w m 0 k.e) (CD (yY vT) (by intro hn;have:=aE List.length hn;simp at this;omega)) am (grownCap_le_maxLen w m 0 k.e am) (by simp;omega) (by rw [GS,oe];simp),fun _=> (Below.refl w.heap.size w).drew.alloc (br _) _⟩;have OG:Builtin.zeroCells z.cells (grownCap w m 0 k.e - m)=(List.replicate (grownCap w m 0 k.e - m) z0).toArray:=by
    rw [hz];simp only [Builtin.zeroCells];exact(show _=_ from by have:=Pa z0 (grownCap w m 0 k.e - m);simpa [madeCells]using this)
   rw [hA,h0,oe,Nat.zero_add,hr,OG,List.append_toArray]
  ·by_cases Cu:k.n+m<=k.c
   ·have hf:=run_firstCells_some (P:=P) w inf.size m a m c' _ (by rw [gX,hs,Nat.mul_one]) ue;have av:=run_storeCells_at P g (o+k.n) k.e ((List.range m).map f) 0 cur w hh (by rw [gX];omega) vT;simp only [Nat.add_zero]at av;refine⟨some ⟨g,o,none⟩,k.c,_,?_,hS.turn (k:=k) (g:=g) hk (by simp [Ck.ij,hA]) (by simp [Ck.ij]) (w':=w.setRow g (cur.toList.take (o+k.n)++ (List.range m).map f++cur.toList.drop (o+k.n+ ((List.range m).map f).length)).toArray) ?_ ?_,fun h=>absurd Cu am⟩
    ·rw [hA];simp [Builtin.append_,run_underlying hU.out,sizeOf,typeInfo,hi,hs,Builtin.lenOf,Cu,Addr.add_lit];rw [hs]at hf;simp only [fS,rA]at av|-;simp [hf,av]
    ·exact⟨⟨O,O,O,by simp,fun x _ hx=>setRow_other w g x _ (fun e=>hx (by rw [e]))⟩,br _⟩
    ·refine .q9 MZ ⟨by simp [hl],Cu,oW,.inr ⟨g,o,_,O,hg,setRow_heap w g cur _ k.e _ hh,?_,fun j hj=>?_⟩⟩
     ·simp;omega
     ·have gW:j<k.n+m:=hj;show((cur.toList.take (o+k.n)++ (List.range m).map f++cur.toList.drop (o+k.n+ ((List.range m).map f).length)).toArray)[o+j]?=(k.vs++ (List.range m).map f)[j]?;have de:cur.toList.length=cur.size:=by simp
      rw [List.getElem?_toArray]
      by_cases mV:j<k.n
      ·rw [gV,ma (by simp;omega),rz,aB (by omega),ma (by omega)];rw [Array.getElem?_toList];exact hc j mV
      ·rw [gV,mc (by simp;omega),ma (by simp;omega),mc (by omega)]
       congr 1
       simp;omega
   ·have holds:∀j v,k.vs[j]?=some v->w.cell? ((⟨g,o,none⟩:Addr).add j)=some v:=by
     intro j v hj;have mV:j<k.n:=by have:=(gx.1 hj).1;omega
     rw [BA];simp only [World.cell?,hh];simpa [hc j mV]using hj
    have hr:=run_append_grow (P:=P) w t ty k.e inf z hU.out hi dX ⟨g,o,none⟩ k.n k.c k.vs (by rw [hl,hs,Nat.mul_one]) holds a m c' _ (by rw [gX,hs,Nat.mul_one]) ue am FZ (growslice_fits am (by rw [gR];exact pA));have u6:=grownCap_ge w (k.n+m) k.c k.e;refine⟨_,_,_,?_,fresh (k.vs++ (List.range m).map f++List.replicate (grownCap w (k.n+m) k.c k.e - (k.n+m)) z0) (grownCap w (k.n+m) k.c k.e) (CD MZ (by intro hn;have:=aE List.length hn;simp at this;omega)) am (grownCap_le_maxLen w (k.n+m) k.c k.e rK) (by simp [hl];omega) (by rw [wN (by simp [hl])];exact iY (by simp [hl])),fun _=> (Below.refl w.heap.size w).drew.alloc (br _) _⟩;have OG:Builtin.zeroCells z.cells (grownCap w (k.n+m) k.c k.e - (k.n+m))=(List.replicate (grownCap w (k.n+m) k.c k.e - (k.n+m)) z0).toArray:=by
     rw [hz];simp only [Builtin.zeroCells];exact(show _=_ from by have:=Pa z0 (grownCap w (k.n+m) k.c k.e - (k.n+m));simpa [madeCells]using this)
    rw [hA,hr,OG,List.append_toArray,List.append_toArray]
theorem ao.app{el:ae}[hU:bA P t (.slice el)][bq P el z 1 b]{k:Ck}(i:Nat){f:Nat->ad}(hS:St w0 w ks)(hk:ks[i]?=some k)(hR:Rd w A' m f)(hx:ev e x= .slice k.A k.n k.c)(hy:ev e y= .slice A' m c')(he:k.e=el)(hz:z.cells= #[z0])(h1:∀j,j<m->(f j).oneCell'=true)(rK:k.n+m<=maxLen)(pA:(k.n+m)*b<=140737488355328)(hb:Nat.blt d N=true)(hK:∀A2 c2 w',St w0 w' (ks.set i ⟨A2,k.n+m,c2,el,k.vs++ (List.range m).map f⟩)->ao P N ops K rest (bn e d (.slice A2 (k.n+m) c2)) w')(hM:eU k.vs=false:=by first | rfl | exact uk _ | exact G0 _ | exact yX _):
 ao P N ops K (⟨some d,.call ⟨.builtin .append, #[x,y], #[t,t]⟩,ty,pos,af,none⟩::rest) e w:=by
 obtain⟨A2,c2,w',hr,kU,_⟩:=amn (P:=P) (t:=t) hz i hS hk hM he hR h1 rK pA ty (c':=c');refine .val (w':=w') ?_ hb (hK _ _ _ kU);simp [execOp,resolve,invoke,builtin,hx,hy,hr]
end
inductive Yd where
 | ex (v:ad)
 | pr (p:ad->aa->Prop)
def Yd.holds:Yd->ad->aa->Prop
 | .ex v,u,_=>u=v
 | .pr p,u,w=>p u w
def Yd.r6:Yd->Prop
 | .ex _=>True
 | .pr p=>∀v w w',p v w->Below w.heap.size w w'->p v w'
theorem Yd.aiD(v:ad):(Yd.ex v).r6:=True.intro
theorem lx{v:ad}{l:List Yd}(h:∀y∈l,y.r6):∀y∈Yd.ex v::l,y.r6:=cH.2 ⟨True.intro,h⟩
theorem Yd.cJ{p:ad->aa->Prop}(h:∀v w w',p v w->Below w.heap.size w w'->p v w'):(Yd.pr p).r6:=h
abbrev xU:Yd:= .ex undef
abbrev xI(i:Int):Yd:= .ex (ak i)
abbrev xB(b:Bool):Yd:= .ex (.bool b)
abbrev xP(a:aj):Yd:= .ex (.pointer a)
abbrev xS(a:aj)(n c:Nat):Yd:= .ex (.slice a n c)
theorem aaq{y:Yd}(hl:y.r6){v:ad}{w w':aa}(h:y.holds v w)(hb:Below w.heap.size w w'):y.holds v w':=by
 cases y with
 | ex u=>exact h
 | pr p=>exact hl v w w' h hb
def gY(ds:List Nat)(i:Nat):Bool:=match ds with
 | []=>false
 | d::r=>bif Nat.beq i d then true else gY r i
theorem AP{ds:List Nat}{i:Nat}:gY ds i=true↔i∈ds:=by
 induction ds with
 | nil=>simp [gY]
 | cons d r ih=>
  simp only [gY,iX];cases hb:Nat.beq i d with
  | true=>simp [pk hb]
  | false=>
   have:i≠d:=fun e=>by subst e;simp at hb
   simp [this,ih]
def mix(e1 e:Env)(ds:List Nat):Env:=fun i=>bif gY ds i then e1 i else e i
def fU(o:Oper):List Edge:=o.after.toList.filter (Region.binds .any)
theorem sb{o:Oper}{ed:Edge}:ed∈fU o↔ed∈o.after/\Region.binds .any ed=true:=by
 simp [fU]
def fF(o:Oper):Nat:=match o.dst with
 | some d=>d
 | none=>0
def Sv(N:Nat)(l:List Oper):Bool:=
 l.all (fun o=>match o.dst with | some d=>Nat.blt d N | none=>false) && decide ((l.map fF).Nodup) && (l.zipIdx.all fun p=> (fU p.1).all fun ed=>Nat.blt ed.on p.2)
def vO(l:List Oper)(ys:List Yd):List Edge->List (Nat×ad)
 | []=> []
 | ed::r=>match ys[ed.on]? with
  | some (.ex v)=> (((l[ed.on]?).map fF).getD 0,v)::vO l ys r
  | _=>vO l ys r
def xf:List Oper->List Yd->(Nat->ad)->Nat->List (Nat×ad)
 | o::l,.ex v::ys,u,i=> (fF o,v)::xf l ys u (i+1)
 | o::l,.pr _::ys,u,i=> (fF o,u i)::xf l ys u (i+1)
 | _,_,_,_=> []
def jY(l:List Oper):Nat->Nat->Nat->Bool
 | 0,_,_=>false
 | f+1,k,j=>match l[k]? with
  | some o=> (fU o).any fun ed=>Nat.beq ed.on j || jY l f ed.on j
  | none=>false
theorem zG{l:List Oper}{listed:Array Bool}(de:∀(i:Nat) (o:Oper),listed.getD i false=true->l[i]?=some o->∀ed∈fU o,listed.getD ed.on false=true):∀(f k j:Nat),jY l f k j=true->listed.getD k false=true->listed.getD j false=true
 | 0,k,j,h,_=>by simp [jY]at h
 | f+1,k,j,h,hk=>by
  simp only [jY]at h
  split at h
  ·rename_i o ho;rw [List.any_eq_true]at h;obtain⟨ed,gq,h⟩:=h;have h1:=de k o hk ho ed gq;rw [Bool.or_eq_true]at h;rcases h with h | h
   ·rw [<-pk h];exact h1
   ·exact zG de f ed.on j h h1
  ·cases h
theorem Lu{l:List Oper}{listed:Array Bool}(de:∀(i:Nat) (o:Oper),listed.getD i false=true->l[i]?=some o->∀ed∈fU o,listed.getD ed.on false=true){k:Nat}{o:Oper}(ho:l[k]?=some o)(hr:∀ed∈fU o,listed.getD ed.on false=true):∀(f j:Nat),jY l f k j=true->listed.getD j false=true
 | 0,j,h=>by simp [jY]at h
 | f+1,j,h=>by
  simp only [jY,ho]at h;rw [List.any_eq_true]at h;obtain⟨ed,gq,h⟩:=h;have h1:=hr ed gq;rw [Bool.or_eq_true]at h;rcases h with h | h
  ·rw [<-pk h];exact h1
  ·exact zG de f ed.on j h h1
section
variable{i d id:Nat}{w1 w2 w:aa}{y:Yd}{ops:Array Oper}{o:Oper}{l:List Oper}
variable {P:Program} {N:Nat} {e:Env} {w:aa}
def eP(i:Nat)(e1:Env)(w1:aa)(d:Nat)(y:Yd):Env->aa->Prop:=fun e2 w2=>Below w1.heap.size w1 w2/\y.holds (e2 d) w2/\∀j,j≠d->e2 j=e1 j
theorem eP.dn{e1:Env}{v:ad}(hb:Below w1.heap.size w1 w2)(hv:y.holds v w2):eP i e1 w1 d y (bn e1 d v) w2:=by
 refine⟨hb,?_,fun j hj=>?_⟩
 ·have:bn e1 d v d=v:=by unfold bn;rw [Nat.beq_refl];rfl
  rw [this];exact hv
 ·have:Nat.beq j d=false:=by
   cases h:Nat.beq j d with
   | false=>rfl
   | true=>exact absurd (pk h) hj
  unfold bn;rw [this];rfl
theorem d0{e1:Env}{v:ad}(hv:y.holds v w1):eP i e1 w1 d y (bn e1 d v) w1:=eP.dn (Below.refl _ _) hv
theorem Az{e1:Env}{v:ad}(hv:y.holds v w1:=by exact O):ao P N ops (eP i e1 w1 d y) [] (bn e1 d v) w1:=ao.n (eP.dn (Below.refl _ _) hv)
def wC(ops:Array Oper)(N:Nat)(e:Env)(o:Oper):Option (Nat×ad):=
 match o.guard with
 | none=>uB N e o
 | some (j,want)=>match o.dst,(ops[j]?).bind (·.dst)with
  | some d,some dj=> (match Nat.blt dj N,Nat.blt d N with
   | true,true=> (match e dj with
    | .bool b=> (match b,want with
     | true,true=>uB N e ⟨some d,o.op,o.type,o.pos,o.after,none⟩
     | false,false=>uB N e ⟨some d,o.op,o.type,o.pos,o.after,none⟩
     | true,false=>some (d,undef)
     | false,true=>some (d,undef))
    | .tuple vs=> (match vs.toList with
     | []=>some (d,undef)
     | _=>none)
    | _=>none)
   | _,_=>none)
  | _,_=>none
theorem ao.wC{K:Env->aa->Prop}{e1:Env}{v:ad}(h:wC ops N e1 o=some (d,v))(hK:K (bn e1 d v) w1):ao P N ops K [o] e1 w1:=by
 obtain⟨dst,op,ty,pos,af,gd⟩:=o;unfold Vc.wC at h
 split at h
 ·exact .uB h (ao.n hK)
 rename_i j want hg;simp only at hg;subst hg
 split at h
 ·rename_i d' dj hd hj;simp only at hd;subst hd
  split at h
  ·rename_i fG hb
   split at h
   ·rename_i b he
    split at h
    ·exact aqh hj fG he (.uB h (ao.n hK))
    ·exact aqh hj fG he (.uB h (ao.n hK))
    ·simp only [mB,Prod.mk.injEq]at h;obtain⟨rfl,rfl⟩:=h;exact aqi hj fG he O hb (ao.n hK)
    simp only [mB,Prod.mk.injEq]at h;obtain⟨rfl,rfl⟩:=h;exact aqi hj fG he O hb (ao.n hK)
   ·rename_i vs he
    split at h
    ·rename_i hv;have hu:vs= #[]:=by cases vs;simp only at hv;rw [hv]
     subst hu;simp only [mB,Prod.mk.injEq]at h;obtain⟨rfl,rfl⟩:=h;exact fT hj fG he hb (ao.n hK)
    cases h
   cases h
  cases h
 cases h
theorem Yq{e1:Env}{v:ad}(h:wC ops N e1 o=some (d,v)):o.dst=some d:=by
 have key:∀(o:Oper),uB N e1 o=some (d,v)->o.dst=some d:=fun o h=>by
  unfold uB at h
  split at h
  ·rename_i d' hg hd
   split at h
   ·split at h
    ·simp only [mB,Prod.mk.injEq]at h;rw [hd,h.1]
    cases h
   cases h
  cases h
 unfold wC at h
 split at h
 ·exact key _ h
 split at h
 ·rename_i d' dj hd hj;rw [hd]
  split at h
  ·split at h
   ·split at h
    ·exact key _ h
    ·exact key _ h
    ·simp only [mB,Prod.mk.injEq]at h;rw [h.1]
    simp only [mB,Prod.mk.injEq]at h;rw [h.1]
   ·split at h
    ·simp only [mB,Prod.mk.injEq]at h;rw [h.1]
    cases h
   cases h
  cases h
 cases h
theorem Dk{e1:Env}{v:ad}(h:wC ops N e1 o=some (d,v))(hv:y.holds v w1):ao P N ops (eP i e1 w1 d y) [o] e1 w1:= .wC h (eP.dn (Below.refl _ _) hv)
def aar:Yd->Bool
 | .ex _=>true
 | .pr _=>false
theorem eG{l:List Yd}(h:l.all aar=true):∀y∈l,y.r6:=fun y hy=>by
 have:=List.all_eq_true.1 h y hy;cases y with
 | ex v=>exact True.intro
 | pr p=>cases this
def Fe(P:Program)(N:Nat)(l:List Oper)(ys:List Yd)(e:Env)(w:aa):Nat->List Oper->Prop
 | _,[]=>True
 | i,o::r=> (∀e1 w1,Below w.heap.size w w1->(∀j,j<l.length->gY ((fU o).map (·.on)) j=true->∀(y:Yd) (o':Oper),ys[j]?=some y->l[j]?=some o'->y.holds (e1 (fF o')) w1)->(∀(j:Nat) (o':Oper),l[j]?=some o'->jY l l.length j i=true->e1 (fF o')=e (fF o'))-> 
  ao P N l.toArray (eP i (ext (mix e1 e (l.map fF)) (vO l ys (fU o))) w1 (fF o) (ys.getD i (.pr fun _ _=>True))) [o] (ext (mix e1 e (l.map fF)) (vO l ys (fU o))) w1)/\Fe P N l ys e w (i+1) r
theorem Dr{ys:List Yd}{v:ad}(h:(ys.getD i (.pr fun _ _=>True),fun e1=>wC l.toArray N (ext (mix e1 e (l.map fF)) (vO l ys (fU o))) o)=(.ex v,fun _=>some (d,v))):∀e1 w1,Below w.heap.size w w1->(∀j,j<l.length->gY ((fU o).map (·.on)) j=true->∀(y:Yd) (o':Oper),ys[j]?=some y->l[j]?=some o'->y.holds (e1 (fF o')) w1)->(∀(j:Nat) (o':Oper),l[j]?=some o'->jY l l.length j i=true->e1 (fF o')=e (fF o'))->ao P N l.toArray (eP i (ext (mix e1 e (l.map fF)) (vO l ys (fU o))) w1 (fF o) (ys.getD i (.pr fun _ _=>True))) [o] (ext (mix e1 e (l.map fF)) (vO l ys (fU o))) w1:=fun e1 w1 _ _ _=>by
 have h1:=congrFun (Prod.mk.inj h).2 e1;have hd:fF o=d:=by unfold fF;rw [Yq h1]
 rw [hd,(Prod.mk.inj h).1];exact Dk h1 rfl
theorem Fe.get{ys:List Yd}:∀ {r:List Oper} {i:Nat},Fe P N l ys e w i r->∀k o,r[k]?=some o->∀e1 w1,Below w.heap.size w w1->(∀j,j<l.length->gY ((fU o).map (·.on)) j=true->∀(y:Yd) (o':Oper),ys[j]?=some y->l[j]?=some o'->y.holds (e1 (fF o')) w1)->(∀(j:Nat) (o':Oper),l[j]?=some o'->jY l l.length j (i+k)=true->e1 (fF o')=e (fF o'))-> 
 ao P N l.toArray (eP (i+k) (ext (mix e1 e (l.map fF)) (vO l ys (fU o))) w1 (fF o) (ys.getD (i+k) (.pr fun _ _=>True))) [o] (ext (mix e1 e (l.map fF)) (vO l ys (fU o))) w1
 | [],_,_,k,o,hk=>by simp at hk
 | x::r,i,h,0,o,hk=>by simp at hk;subst hk;exact h.1
 | x::r,i,h,k+1,o,hk=>by
  have:=Fe.get h.2 k o (by simpa using hk);simpa [Nat.add_assoc,Nat.add_comm 1 k]using this
theorem Lb{a:Act}{K K2:Act->aa->Prop}{Q Q2:Exit->Act->aa->Prop}(h:o.wp P a w K Q)(hK:∀a w,K a w->K2 a w)(hQ:∀x a w,x≠ .normal->¬Q x a w):o.wp P a w K2 Q2:=by
 unfold Oper.wp at*;generalize (execOp a.eval o).run P w=r at*;cases r with
 | ok n w'=>
  cases n<;>simp only [Oper.upon]at h|-<;>first
   | exact hK _ _ h
   | (
    refine Calls.mono h fun x Hx hx=>?_
    cases x with
    | returned v=>exact hK _ _ hx
    | panicked ch=>exact absurd hx (hQ _ _ _ (by simp))
    | outgrown=>obtain⟨a0,w0,hx⟩:=hx;exact absurd hx (hQ _ _ _ (by simp)))
   | exact Rows.mono h fun v Hx hx=>hK _ _ hx
 | halt x w'=>
  cases x<;>simp only [Oper.upon]at h|-
  exact absurd h (hQ _ _ _ (by simp))
theorem Kq{e1 e:Env}{ds:List Nat}(h:∀j,gY ds j=false->e1 j=e j):mix e1 e ds=e1:=by
 funext j;unfold mix;cases hm:gY ds j with
 | true=>rfl
 | false=>exact(h j hm).symm
theorem Su{l:List Oper}{ys:List Yd}{e1:Env}{w1:aa}:∀(af:List Edge),(∀ed∈af,ed.on<l.length)->(∀j,gY (af.map (·.on)) j=true->∀(y:Yd) (o':Oper),ys[j]?=some y->l[j]?=some o'->y.holds (e1 (fF o')) w1)->Mt e1 (vO l ys af)
 | [],_,_=>au
 | ed::r,fG,h=>by
  have hr:=Su r (fun x hx=>fG x (rB _ hx)) (fun j hj=>h j (by rw [AP]at hj|-;exact rB _ hj));unfold vO
  split
  ·rename_i v hy;have hl:=fG ed (by simp);refine⟨?_,hr⟩;rw [fq hl];exact h ed.on (by rw [AP];simp) _ _ hy (fq hl)
  ·exact hr
theorem SF{e1 e:Env}{w1:aa}:∀(l:List Oper) (ys:List Yd) (i:Nat),l.length=ys.length->(l.map fF).Nodup->(∀(k:Nat) (y:Yd) (o:Oper),ys[k]?=some y->l[k]?=some o->y.holds (e1 (fF o)) w1)->
 ∃u:Nat->ad,ext e (xf l ys u i)=mix e1 e (l.map fF)/\(∀(k:Nat) (o:Oper),l[k]?=some o->u (i+k)=e1 (fF o))
 | [],[],i,_,_,_=> ⟨fun _=>undef,by funext j;rfl,fun k o h=>by simp at h⟩
 | [],y::ys,i,hl,_,_=>by simp at hl
 | o::l,[],i,hl,_,_=>by simp at hl
 | o::l,y::ys,i,hl,hn,h=>by
  simp only [List.map_cons,mf]at hn;obtain⟨u,hu,lb⟩:=SF (e1:=e1) (e:=e) (w1:=w1) l ys (i+1) (by simpa using hl) hn.2 (fun k y o hy ho=>h (k+1) y o (by simpa using hy) (by simpa using ho));have h0:=h 0 y o O O;have LO:∀(l:List Oper) (ys:List Yd) (i:Nat) (u u':Nat->ad),(∀k,i<=k->u k=u' k)->xf l ys u i=xf l ys u' i:=by
   intro l
   induction l with
   | nil=>intros;rfl
   | cons o l ih=>
    intro ys i u u' hk;cases ys with
    | nil=>rfl
    | cons y ys=>
     cases y with
     | ex v=>simp only [xf];rw [ih ys (i+1) u u' (fun k eI=>hk k (by omega))]
     | pr p=>simp only [xf];rw [ih ys (i+1) u u' (fun k eI=>hk k (by omega)),hk i (by omega)]
  refine⟨fun k=>if k=i then e1 (fF o)else u k,?_,fun k o' hk=>?_⟩
  ·have hc:=LO l ys (i+1) (fun k=>if k=i then e1 (fF o)else u k) u (fun k hk=>by rw [az (by omega)]);have pK:∀v,v=e1 (fF o)->bn (mix e1 e (l.map fF)) (fF o) v=mix e1 e ((o::l).map fF):=by
    intro v hv;funext j;simp only [bn,mix,List.map_cons,gY];cases hb:Nat.beq j (fF o)with
    | true=>rw [pk hb,hv];rfl
    | false=>rfl
   cases y with
   | ex v=>
    simp only [xf,ext,hc,hu];exact pK v h0.symm
   | pr p=>
    simp only [xf,ext,hc,hu,aB];exact pK _ O
  ·cases k with
   | zero=>simp at hk;subst hk;simp
   | succ k=>
    have:=lb k o' (by simpa using hk);show(if i+ (k+1)=i then _ else u (i+ (k+1)))=_;rw [az (by omega),<-this];congr 1;omega
theorem DJ(p p':Nat->Bool)(i:Nat)(hi:p i=false)(hp:∀k,p' k=if k=i then true else p k):∀(l:List Nat),l.Nodup->i∈l->l.countP p'=l.countP p+1
 | [],_,h=>by cases h
 | x::l,hn,h=>by
  have af8:∀(l:List Nat),¬i∈l->l.countP p'=l.countP p:=by
   intro l hl;exact List.countP_congr fun k hk=>by rw [hp k,az (by rintro rfl;exact hl hk)]
  simp only [mf]at hn;simp only [List.countP_cons]
  by_cases hx:x=i
  ·subst hx;rw [af8 l hn.1,hp x,aB rfl,hi];simp
  ·have Gt:i∈l:=by
    rcases iX.1 h with h | h
    ·exact absurd h.symm hx
    ·exact h
   rw [DJ p p' i hi hp l hn.2 Gt,hp x,az hx];omega
theorem aqr{Q:jX}(ys:List Yd)(hm:P.follows .mixedOrders=true)(dp:Sv N l=true)(hlen:Nat.beq l.length ys.length=true)(JM:∀y∈ys,y.r6)
 (On:Fe P N l ys e w 0 l) (Cg:∀u w1,Below w.heap.size w w1->(∀(k:Nat) (p:ad->aa->Prop),ys[k]?=some (Yd.pr p)->p (u k) w1)->Q .normal (ext e (xf l ys u 0)) w1):Cd P N (.region id l.toArray true) Q e w:= .mk' fun a ha=>by
 have yJ:l.length=ys.length:=pk hlen;simp only [Sv,Bool.and_eq_true,List.all_eq_true,kB]at dp;obtain⟨⟨h1,h2⟩,h3⟩:=dp;have afn:∀(i:Nat) (o:Oper),l[i]?=some o->∃d,o.dst=some d/\fF o=d/\d<N:=by
  intro i o ho;have:=h1 o (List.mem_of_getElem? ho);cases hd:o.dst with
  | none=>rw [hd]at this;cases this
  | some d=>rw [hd]at this;exact⟨d,rfl,by simp [fF,hd],by simpa [Nat.blt_eq]using this⟩
 have aeW:∀(i:Nat) (o:Oper),l[i]?=some o->∀ed∈fU o,ed.on<i/\Region.binds .any ed=true:=by
  intro i o ho ed gq;have:=h3 (o,i) (by
   obtain⟨hi,JH⟩:=gx.1 ho;rw [List.mem_iff_getElem?];exact⟨i,by simp [ho]⟩)
  exact⟨by simpa [Nat.blt_eq]using this ed gq,(sb.1 gq).2⟩
 have yy:∀(i:Nat) (o:Oper),l[i]?=some o->∀ed∈fU o,ed.on<i:=fun i o ho ed gq=> (aeW i o ho ed gq).1
 refine wp_region_any hm ?_;have key:∀(fuel:Nat) (listed:Array Bool) (a1:Act) (e1:Env) (w1:aa),kj N a1 e1->Below w.heap.size w w1->(∀j,gY (l.map fF) j=false->e1 j=e j)->listed.size=l.length->
  (∀(i:Nat) (y:Yd) (o:Oper),listed.getD i false=true->ys[i]?=some y->l[i]?=some o->y.holds (e1 (fF o)) w1)->(∀(i:Nat) (o:Oper),listed.getD i false=true->l[i]?=some o->∀ed∈fU o,listed.getD ed.on false=true)->(∀(i:Nat) (o:Oper),listed.getD i false=false->l[i]?=some o->e1 (fF o)=e (fF o))->(l.length - fuel<=(List.range l.length).countP fun i=>listed.getD i false)->
  wpAny P .any l.toArray (low N Q) fuel listed a1 w1:=by
  have oc:∀(listed:Array Bool) (a1:Act) (e1:Env) (w1:aa),kj N a1 e1->Below w.heap.size w w1->(∀j,gY (l.map fF) j=false->e1 j=e j)->
   (∀(i:Nat) (y:Yd) (o:Oper),listed.getD i false=true->ys[i]?=some y->l[i]?=some o->y.holds (e1 (fF o)) w1)->(∀i,i<l.length->listed.getD i false=true)->low N Q .normal a1 w1:=by
   intro listed a1 e1 w1 hr hb pz hS dt;obtain⟨u,hu,lb⟩:=SF (e1:=e1) (e:=e) (w1:=w1) l ys 0 yJ h2 (fun k y o hy ho=>hS k y o (dt k (gx.1 ho).1) hy ho);refine⟨e1,hr,?_⟩;have:=Cg u w1 hb (fun k p hk=>by
    have lB:k<l.length:=by rw [yJ];exact(gx.1 hk).1
    have h5:=hS k _ l[k] (dt k lB) hk (fq lB);have h6:=lb k l[k] (fq lB);rw [Nat.zero_add]at h6;rw [h6];exact h5)
   rw [hu,Kq pz]at this;exact this
  have GK:∀(listed:Array Bool),listed.size=l.length->Region.ready .any l.toArray listed=[]->∀i,i<l.length->listed.getD i false=true:=by
   intro listed mr wi i
   induction i using Nat.strongRecOn with
   | _ i ih=>
    intro hi;cases Al:listed.getD i false with
    | true=>rfl
    | false=>
     exfalso;have:i∈Region.ready .any l.toArray listed:=by
      rw [mem_ready];refine⟨?_,l[i],by simp [hi],fun ed gq qk=>ih ed.on (yy i _ (fq hi) ed (sb.2 ⟨gq,qk⟩)) (by have:=yy i _ (fq hi) ed (sb.2 ⟨gq,qk⟩);omega)⟩;rw [jn,sG (by omega)]at Al|-;exact Al
     rw [wi]at this;cases this
  intro fuel
  induction fuel with
  | zero=>
   intro listed a1 e1 w1 hr hb pz mr hS de Cz oX;have dt:∀i,i<l.length->listed.getD i false=true:=by
    have h4:(List.range l.length).countP (fun i=>listed.getD i false)=(List.range l.length).length:=by
     have:=List.countP_le_length (p:=fun i=>listed.getD i false) (l:=List.range l.length);simp at this oX|-;omega
    rw [List.countP_eq_length]at h4;intro i hi;exact h4 i (by simpa using hi)
   refine⟨?_,oc listed a1 e1 w1 hr hb pz hS dt⟩;rw [List.eq_nil_iff_forall_not_mem];intro i hi;obtain⟨h5,o,ho,_⟩:=mem_ready.1 hi;have tj:i<l.length:=by
    rcases Nat.lt_or_ge i l.length with h | h
    ·exact h
    ·simp [me h]at ho
   have h6:=dt i tj;rw [jn,sG (by omega)]at h5 h6;simp at h5 h6;rw [h5]at h6;cases h6
  | succ fuel ih=>
   intro listed a1 e1 w1 hr hb pz mr hS de Cz oX;refine⟨fun wi=>oc listed a1 e1 w1 hr hb pz hS (GK listed mr wi),fun i hi=>?_⟩;obtain⟨aU,o,ho,z8⟩:=mem_ready.1 hi;have iK:l[i]?=some o:=by simpa using ho
   have tj:i<l.length:=(gx.1 iK).1;obtain⟨d,hd,hdo,hdN⟩:=afn i o iK;have Ux:∀j,gY ((fU o).map (·.on)) j=true->∀(y:Yd) (o':Oper),ys[j]?=some y->l[j]?=some o'->y.holds (e1 (fF o')) w1:=by
    intro j hj y o' hy xv;rw [AP,dF]at hj;obtain⟨ed,gq,rfl⟩:=hj;exact hS _ y o' (z8 ed (sb.1 gq).1 (sb.1 gq).2) hy xv
   have pJ:∀ed∈fU o,listed.getD ed.on false=true:=fun ed gq=>z8 ed (sb.1 gq).1 (sb.1 gq).2
   have vm:listed.getD i false=false:=by
    have h5:=aU;rw [jn,sG (by omega)]at h5|-;exact h5
   have qR:∀k,(listed.setIfInBounds i true).getD k false=if k=i then true else listed.getD k false:=by
    intro k;rw [jn,uE]
    by_cases fX:k=i
    ·subst fX;rw [aB rfl,aB (by omega),aB rfl];rfl
    ·rw [az (fun e=>fX e.symm),az fX,<-jn]
   have av:=On.get i o iK e1 w1 hb (fun j _ hj=>Ux j hj) (fun j o' hj yu=>by
    refine Cz j o' ?_ hj;cases yK:listed.getD j false with
    | false=>rfl
    | true=>
     have:=zG de _ _ _ yu yK;rw [Nat.zero_add,vm]at this;cases this)
   rw [Kq pz,zM (Su (fU o) (fun ed gq=>by have:=yy i o iK ed gq;omega) Ux),Nat.zero_add]at av;have mJ:=av.run a1 hr;have xq:∀a2 w2,(∃e2,kj N a2 e2/\eP i e1 w1 (fF o) (ys.getD i (.pr fun _ _=>True)) e2 w2)->wpAny P .any l.toArray (low N Q) fuel (listed.setIfInBounds i true) a2 w2:=by
    intro a2 w2 ⟨e2,qV,eB,yV,D7⟩;have gI:Below w.heap.size w w2:=hb.trans (eB.mono hb.size);refine ih _ a2 e2 w2 qV gI (fun j hj=>?_) (by simpa using mr) (fun k y o' hk hy dp=>?_) (fun k o' hk dp ed gq=>?_) (fun k o' hk dp=>?_) ?_
    ·have bP:j≠fF o:=by
      rintro rfl;have:gY (l.map fF) (fF o)=true:=by rw [AP];exact dF.2 ⟨o,List.mem_of_getElem? iK,O⟩
      rw [this]at hj;cases hj
     rw [D7 j bP];exact pz j hj
    ·by_cases fX:k=i
     ·subst fX;rw [iK]at dp;cases dp;have:ys.getD k (.pr fun _ _=>True)=y:=by simp [dm,hy]
      rw [this]at yV;exact yV
     ·have eI:listed.getD k false=true:=by
       rw [jn,uE,az (by omega),<-jn]at hk;exact hk
      have h7:=hS k y o' eI hy dp;have bP:fF o'≠fF o:=by
       intro heq;have lB:=(gx.1 dp).1;have h9:k=i:=(List.getElem_inj (xs:=l.map fF) (h₀:=by simpa using lB) (h₁:=by simpa using tj) h2).1 (by
        have e1:=(gx.1 dp).2;have e2:=(gx.1 iK).2;simp [e1,e2,heq])
       exact fX h9
      rw [D7 _ bP];exact aaq (JM y (List.mem_of_getElem? hy)) h7 eB
    ·rw [qR]
     by_cases Ah:ed.on=i
     ·rw [aB Ah]
     ·rw [az Ah]
      by_cases fX:k=i
      ·subst fX;rw [iK]at dp;cases dp;exact pJ ed gq
      ·rw [qR,az fX]at hk;exact de k o' hk dp ed gq
    ·rw [qR]at hk
     by_cases fX:k=i
     ·rw [aB fX]at hk;cases hk
     ·rw [az fX]at hk;rw [D7 _ (fun heq=>by
       have lB:=(gx.1 dp).1;have h9:k=i:=(List.getElem_inj (xs:=l.map fF) (h₀:=by simpa using lB) (h₁:=by simpa using tj) h2).1 (by
        have e1:=(gx.1 dp).2;have e2:=(gx.1 iK).2;simp [e1,e2,heq])
       exact fX h9)]
      exact Cz k o' hk dp
    ·have Gk:(List.range l.length).countP (fun k=> (listed.setIfInBounds i true).getD k false)=(List.range l.length).countP (fun k=>listed.getD k false)+1:=by
      refine DJ (fun k=>listed.getD k false) (fun k=> (listed.setIfInBounds i true).getD k false) i ?_ (fun k=>?_) _ List.nodup_range (by simpa using tj)
      ·have h5:=aU;show listed.getD i false=false;rw [jn,sG (by omega)]at h5|-;exact h5
      ·show(listed.setIfInBounds i true).getD k false=if k=i then true else listed.getD k false
       rw [jn,uE]
       by_cases fX:k=i
       ·subst fX;rw [aB rfl,aB (by omega),aB rfl];rfl
       ·rw [az (fun e=>fX e.symm),az fX,<-jn]
     rw [Gk];omega
   unfold wpOp;rw [ho];unfold wpList at mJ;show if _ then _ else _
   by_cases hw:Region.wanted o (yielded l.toArray a1.tmps)=true
   ·rw [aB hw]at mJ|-;rcases mJ with h5 | ⟨_,a0,w0,h5⟩
    ·refine .inl (Lb h5 (fun a2 w2 hx=>?_) (fun x a w hx hq=>hx hq.1));exact xq a2 w2 hx.2
    ·exact absurd h5.1 (by simp)
   ·rw [az hw]at mJ|-;exact xq _ _ mJ.2
 refine key l.length (Array.replicate l.length false) a e _ ha ⟨⟨O,O,O,br _,fun _ _=>O⟩,fun _=>Nat.le_add_right _ _⟩ (fun _ _=>O) (by simp) (fun i y o hi=>?_) (fun i o hi=>?_) (fun _ _ _ _=>O) am
 ·exfalso;rw [jn,Array.getElem?_replicate]at hi
  split at hi<;>simp at hi
 ·exfalso;rw [jn,Array.getElem?_replicate]at hi
  split at hi<;>simp at hi
theorem dU{Q:jX}(ys:List Yd)(hlen:Nat.beq l.length ys.length=true)(JM:∀y∈ys,y.r6)(On:Fe P N l ys e w 0 l)(Cg:∀u w1,Below w.heap.size w w1->(∀(k:Nat) (p:ad->aa->Prop),ys[k]?=some (Yd.pr p)->p (u k) w1)->Q .normal (ext e (xf l ys u 0)) w1)(hm:P.follows .mixedOrders=true:=by kernel_rfl)(dp:Sv N l=true:=by kernel_rfl):Cd P N (.region id l.toArray true) Q e w:=aqr ys hm dp hlen JM On Cg
theorem uF{α:Type}{x y:Code}{Q:jX}(F:α->List (Nat×ad))(I:α->aa->Prop)(hx:Cd P N x (C4 (fun e' w'=>∃s,Mt e' (F s)/\I s w') Q) e w)
 (hy:∀s e' w',I s w'->Cd P N y Q (ext e' (F s)) w'):Cd P N (.seq x y) Q e w:=
 .seq (hx.mono fun ex e' w' q=>by
  cases ex<;>first
   | exact q
   | (
    obtain⟨s,hm,hi⟩:=q;have:=hy s e' w' hi;rw [zM hm]at this;exact this))
end
structure bF(w:aa)(A:aj)(n:Nat)(rs:List aO)(xss:ah):Prop where
 top:mT w A n rs
 len:xss.length=n
 row:∀i,i<n->cL w (rs.getD i eY).a (rs.getD i eY).n (xss.getD i [])
 cap:∀i,i<n->(rs.getD i eY).n<=(rs.getD i eY).c/\(rs.getD i eY).c<=maxLen
def gl(xss:ah)(i:Int):ai:=xss.getD i.toNat []
theorem bF.at_{w:aa}{A:aj}{n:Nat}{rs:List aO}{xss:ah}(h:bF w A n rs xss){i:Int}(_h0:0<=i)(hi:i<n):cL w (rg rs i).a (rg rs i).n (gl xss i):=h.row _ am
theorem bF.cap_{w:aa}{A:aj}{n:Nat}{rs:List aO}{xss:ah}(h:bF w A n rs xss){i:Int}(_h0:0<=i)(hi:i<n):(rg rs i).n<=(rg rs i).c/\(rg rs i).c<=9223372036854775807:=h.cap _ am
theorem bF.aq{w w':aa}{A:aj}{n:Nat}{rs:List aO}{xss:ah}(h:bF w A n rs xss)(hb:Below w.heap.size w w'):bF w' A n rs xss:=
 ⟨h.top.aq hb,h.len,fun i hi=> (h.row i hi).aq hb,h.cap⟩
theorem St.b7{w0 w:aa}{ks:List Ck}{A:aj}{n:Nat}{rs:List aO}{xss:ah}(h:St w0 w ks)(hR:bF w0 A n rs xss):bF w A n rs xss:=hR.aq h.below
def da(t:ae):List aO->ah->List Ck
 | r::rs,xs::xss=>ax t r.a r.n r.c xs::da t rs xss
 | _,_=> []
def aS(t1 t2:ae)(A:aj)(n c:Nat)(rs:List aO)(xss:ah):List Ck:=cg t1 A n c rs::da t2 rs xss
theorem EU{t:ae}:∀ {rs:List aO} {xss:ah} {i:Nat},rs.length=xss.length->i<rs.length->(da t rs xss)[i]?=some (ax t (rs.getD i eY).a (rs.getD i eY).n (rs.getD i eY).c (xss.getD i []))
 | [],_,_,_,h=>by simp at h
 | r::rs,[],_,h,_=>by simp at h
 | r::rs,xs::xss,0,_,_=>rfl
 | r::rs,xs::xss,i+1,h,hi=>by
  have:=EU (t:=t) (rs:=rs) (xss:=xss) (i:=i) (by simpa using h) (by simpa using hi);simpa [da]using this
theorem CZ{t:ae}:∀ {rs:List aO} {xss:ah},rs.length=xss.length->(da t rs xss).length=rs.length
 | [],[],_=>rfl
 | [],_::_,h=>by simp at h
 | _::_,[],h=>by simp at h
 | r::rs,xs::xss,h=>by simp [da,CZ (t:=t) (rs:=rs) (xss:=xss) (by simpa using h)]
theorem CY{t:ae}:∀ {rs rs':List aO} {xss xss':ah},rs.length=xss.length->da t (rs++rs') (xss++xss')=da t rs xss++da t rs' xss'
 | [],_,[],_,_=>rfl
 | [],_,_::_,_,h=>by simp at h
 | _::_,_,[],_,h=>by simp at h
 | r::rs,rs',xs::xss,xss',h=>by
  have:=CY (t:=t) (rs:=rs) (rs':=rs') (xss:=xss) (xss':=xss') (by simpa using h);simp [da,this]
theorem St.jB{w0 w:aa}{ks:List Ck}{t1 t2:ae}{A:aj}{n c:Nat}{rs:List aO}{xss:ah}(h:St w0 w (aS t1 t2 A n c rs xss++ks))(hl:xss.length=n):bF w A n rs xss:=by
 have h0:=h.fQ 0 (show(aS t1 t2 A n c rs xss++ks)[0]?=some (cg t1 A n c rs) from O);have hr:rs.length=xss.length:=by rw [h0.1,hl]
 have get:∀i,i<n->(aS t1 t2 A n c rs xss++ks)[i+1]?=some (ax t2 (rs.getD i eY).a (rs.getD i eY).n (rs.getD i eY).c (xss.getD i [])):=by
  intro i hi;have h1:=EU (t:=t2) (rs:=rs) (xss:=xss) (i:=i) hr am;rw [ma (by simp [aS,CZ hr];omega)];simpa [aS]using h1
 exact⟨h0,hl,fun i hi=>h.bz (i+1) (get i hi),fun i hi=>h.cap (i+1) (get i hi)⟩
end Go.Proofs.YtkccgdhcpplblaaGreatDoor.Vc
