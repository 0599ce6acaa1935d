/-
 Lemmas. Conditions: as each states them.
-/
import Derived.WalkKit
import Derived.Deep.Quiet
import Derived.Deep.LoopGhost
import Derived.Below
import Derived.Sort.Grow
import Derived.Deep.OwnRows
set_option maxHeartbeats 8000000
namespace Go.Proofs.YtkccgdhcpplblaaGreatDoor.Vc
open Go.RowKit
abbrev aa:=World
abbrev ad:=Value
abbrev ae:=TypeId
abbrev ag:=Operand
abbrev ah:=List (List Int)
abbrev ai:=List Int
abbrev aj:=Option Addr
abbrev ak(i:Int):Value:=.int .i64 i
theorem au:True:=@trivial
theorem az:∀ {c:Prop} {_:Decidable c},¬c->∀ {α:Sort _} {t e:α},(if c then t else e)=e:=@if_neg
theorem aB:∀ {c:Prop} {_:Decidable c},c->∀ {α:Sort _} {t e:α},(if c then t else e)=t:=@if_pos
theorem aF:∀ {α:Sort _} {β:Sort _} {a₁ a₂:α} (f:α->β),a₁=a₂->f a₁=f a₂:=@congrArg
theorem aZ:∀(n:Nat),0<=n:=@Nat.zero_le
theorem bs:∀(n:Nat),n<=n:=@Nat.le_refl
theorem b8:∀ {α:Type _} {cs bs:List α},(cs++bs).length=cs.length+bs.length:=@List.length_append
theorem cj:∀ {p:Prop} [Decidable p],¬p->decide p=false:=@decide_eq_false
theorem da:∀ {α:Type _} {l:List α} {i:Nat} {a:α},l.getD i a=l[i]?.getD a:=@List.getD_eq_getElem?_getD
theorem de:∀ {α:Type _} {p:α->Prop} {a:α} {l:List α},(∀(x:α),x∈a::l->p x)↔p a/\∀(x:α),x∈l->p x:=@List.forall_mem_cons
theorem dA:∀ {α:Type _} {β:Type _} {b:β} {f:α->β} {l:List α},b∈List.map f l↔∃a,a∈l/\f a=b:=@List.mem_map
theorem dC:∀ {α:Type _} {val val_1:α},some val=some val_1->val=val_1:=@Option.some.inj
theorem dM:∀ {p:Prop} [Decidable p],p->decide p=true:=@decide_eq_true
theorem dQ:∀ {α:Type _} {l:List α} {n:Nat} (h:n<l.length),l[n]∈l:=@List.getElem_mem
theorem fj:∀ {α:Type _} (cs:List α),cs++ []=cs:=@List.append_nil
theorem fO:∀ {α:Type _} {β:Type _} {cs:List α} (f:α->β),(List.map f cs).length=cs.length:=@List.length_map
theorem fZ:∀ {α:Type _} {l:List α} {i:Nat} (h:i<l.length),l[i]?=some l[i]:=@List.getElem?_eq_getElem
theorem gg:∀ {α:Type _} {p:α->Bool} {cs:List α} {x:α},x∈List.filter p cs↔x∈cs/\p x=true:=@List.mem_filter
theorem gm:∀ {α:Type _} {i:Nat} {a:α} {l:List α},l[i]?=some a↔∃h,l[i]=a:=@List.getElem?_eq_some_iff
theorem gx:∀ {α:Type _} (ks bs cs:List α),ks++bs++cs=ks++ (bs++cs):=@List.append_assoc
theorem gF:∀ {α:Type _} {a:α} {l:List α},a∈l↔∃(i:Nat) (h:i<l.length),l[i]=a:=@List.mem_iff_getElem
theorem gG:∀ {α:Type _} {a b:α},a∈[b]↔a=b:=@List.mem_singleton
theorem gR:∀ {α:Type _} {i:Nat} {l:List α},l.length<=i->List.take i l=l:=@List.take_of_length_le
theorem il:∀ {m n:Nat},m∈List.range n↔m<n:=@List.mem_range
theorem iD:∀ {α:Type _} {β:Type _} {f:α->β} {l₁ l₂:List α},List.map f (l₁++l₂)=List.map f l₁++List.map f l₂:=@List.map_append
theorem iP:∀ {α:Type _} {b:α} {l:List α} {a:α},a∈b::l↔a=b\/a∈l:=@List.mem_cons
theorem iQ:∀ {α:Type _} (l₁ l₂:List α),l₂.Sublist (l₁++l₂):=@List.sublist_append_right
theorem iZ:∀ {α:Type _} {xs:Array α} {i:Nat} {d:α},xs.getD i d=xs[i]?.getD d:=@Array.getD_eq_getD_getElem?
theorem jb:∀ {a:Prop},¬¬a↔a:=@Classical.not_not
theorem jc:∀(n:Nat),(n:Int).toNat=n:=@Int.toNat_natCast
theorem jz:∀ {α:Type _} [BEq α] {a b:α} {l:List α},List.count a (b::l)=List.count a l+if(b==a)=true then 1 else 0:=@List.count_cons
theorem jA:∀ {α:Type _} [BEq α] [LawfulBEq α] {l₁ l₂:List α},l₁.Perm l₂↔∀(a:α),List.count a l₁=List.count a l₂:=@List.perm_iff_count
theorem jB:∀ {n:Nat},List.range n.succ=List.range n++ [n]:=@List.range_succ
theorem ki:∀ {α:Type _} {l₁ l₂:List α},l₁.length=l₂.length->(∀(i:Nat) (h₁:i<l₁.length) (h₂:i<l₂.length),l₁[i]=l₂[i])->l₁=l₂:=@List.ext_getElem
theorem kj:∀ {α:Type _} {a:α} {s t:List α},a∈s++t↔a∈s\/a∈t:=@List.mem_append
theorem kk:∀ {p q:Prop} {_:Decidable p} {_:Decidable q},decide p=decide q↔(p↔q):=@decide_eq_decide
theorem kC:∀ {α:Type _} [BEq α] {a:α},List.count a []=0:=@List.count_nil
theorem kD:∀ {α:Type _} {l₁ l₂:List α} {i:Nat},l₁.length<=i->(l₁++l₂)[i]?=l₂[i - l₁.length]?:=@List.getElem?_append_right
theorem kU:∀ {α:Type _} (l:List α),l.Sublist l:=@List.Sublist.refl
theorem lg:∀ {p:Prop} [Decidable p],(decide p=true)=p:=@decide_eq_true_eq
theorem lu:∀ {α:Type _} [BEq α] {a:α} {l₁ l₂:List α},List.count a (l₁++l₂)=List.count a l₁+List.count a l₂:=@List.count_append
theorem lz:∀ {α:Type _} {l₁ l₂:List α} {i:Nat},i<l₁.length->(l₁++l₂)[i]?=l₁[i]?:=@List.getElem?_append_left
theorem lT:∀ {α:Type _} {cs:List α} {i:Nat} {a:α},(cs.set i a).length=cs.length:=@List.length_set
theorem lU:∀ {α:Type _} {a:α} {l:List α},(a::l).Nodup↔¬a∈l/\l.Nodup:=@List.nodup_cons
theorem lV:∀ {α:Type _} {i:Nat} {l:List α} (h:i<l.length),List.take (i+1) l=List.take i l++ [l[i]]:=@List.take_succ_eq_append_getElem
theorem mh:∀ {α:Type _} {l:List α} {i:Nat},l.length<=i->l[i]?=none:=@List.getElem?_eq_none
theorem mI:∀ {α:Type _} {l:List α} {i j:Nat} {a:α},(l.set i a)[j]?=if i=j then if i<l.length then some a else none else l[j]?:=@List.getElem?_set
theorem mJ:∀ {α:Type _} (val val_1:α),(some val=some val_1)=(val=val_1):=@Option.some.injEq
theorem na:∀ {α:Type _} {i:Nat} {l:List α},(List.take i l).length=min i l.length:=@List.length_take
theorem ng:∀ {α:Type _} (l₁ l₂:List α),l₁.Sublist (l₁++l₂):=@List.sublist_append_left
theorem nT:∀ {α:Type _} {l₁ l₂:List α},(l₁++l₂).Perm (l₂++l₁):=@List.perm_append_comm
theorem nU:∀ {n m k:Nat},n<=m->m<=k->n<=k:=@Nat.le_trans
theorem oE:∀ {n m:Nat},n.beq m=true->n=m:=@Nat.eq_of_beq_eq_true
theorem pc:∀ {α:Type _} {R:α->α->Prop} {l:List α} (p:α->Bool),List.Pairwise R l->List.Pairwise R (List.filter p l):=@List.Pairwise.filter
theorem pd:∀ {α:Type _} {α_1:Type _} {f:α->α_1} {R:α_1->α_1->Prop} {l:List α},List.Pairwise R (List.map f l)↔List.Pairwise (fun a b=>R (f a) (f b)) l:=@List.pairwise_map
theorem qy:∀ {p:Prop},(¬p->False)->p:=@Classical.byContradiction
theorem qA:∀ {α:Type _} {l:List α},l.length=0->l=[]:=@List.eq_nil_of_length_eq_zero
theorem qB:∀ {n:Nat},(List.range n).length=n:=@List.length_range
theorem qC:∀ {α:Type _} (y:α) {a:α} {l:List α},a∈l->a∈y::l:=@List.mem_cons_of_mem
theorem qD:∀ {α:Type _} {a:α} {l₁ l₂:List α},(l₁++a::l₂).Perm (a::(l₁++l₂)):=@List.perm_middle
theorem rG:∀ {α:Type _} {xs:Array α} {i:Nat} (h:i<xs.size),xs[i]?=some xs[i]:=@Array.getElem?_eq_getElem
theorem rJ:∀ {α:Type _} {p:α->Bool} (l₁ l₂:List α),List.filter p (l₁++l₂)=List.filter p l₁++List.filter p l₂:=@List.filter_append
theorem rK:∀ {α:Type _} {l:List α} {i j:Nat},(List.take i l)[j]?=if j<i then l[j]? else none:=@List.getElem?_take
theorem rL:∀ {α:Type _} (p:α->Bool) (l:List α),(List.filter p l).length<=l.length:=@List.length_filter_le
theorem rN:∀ {α:Type _} {l:List α} {α_1:Type _} {f g:α->α_1},(∀(a:α),a∈l->f a=g a)->List.map f l=List.map g l:=@List.map_congr_left
theorem sX:∀(n:Nat),¬n<0:=@Nat.not_lt_zero
theorem tB:∀ {p:Prop} [Decidable p],decide p=true->p:=@of_decide_eq_true
theorem tM:∀ {α:Type _} {xs:Array α} {i j:Nat} {a:α},(xs.setIfInBounds i a)[j]?=if i=j then if i<xs.size then some a else none else xs[j]?:=@Array.getElem?_setIfInBounds
theorem vJ:∀ {α:Type _} {l₁ l₂:List α},l₁.Nodup->l₂.Nodup->(l₁.Perm l₂↔∀(a:α),a∈l₁↔a∈l₂):=@List.perm_ext_iff_of_nodup
theorem vK:∀ {α:Type _} {l₁ l₂:List α} {i:Nat},i<=l₁.length->List.take i (l₁++l₂)=List.take i l₁:=@List.take_append_of_le_length
theorem wO:∀ {α:Type _} {p:α->Bool} {a:α} {l:List α},¬p a=true->List.filter p (a::l)=List.filter p l:=@List.filter_cons_of_neg
theorem zL:∀ {α:Type _} {p:α->Bool} {a:α} {l:List α},p a=true->List.filter p (a::l)=a::List.filter p l:=@List.filter_cons_of_pos
abbrev Env:=Nat->ad
def br(e:Env)(d:Nat)(v:ad):Env:=fun i=>bif Nat.beq i d then v else e i
def ev(e:Env):ag->ad
 | .tmp t=>e t
 | .const v=>v
 | .global g=> .pointer (some ⟨g,0,none⟩)
 | .func f=> .func (.func f) #[] #[]
structure jL(N:Nat)(a:Act)(e:Env):Prop where
 defers:a.defers=[]
 size:a.tmps.size=N
 get:∀i,a.tmps.getD i undef=e i
theorem O{α:Sort _}{a:α}:a=a:=rfl
theorem jL.eval{N:Nat}{a:Act}{e:Env}(h:jL N a e):a.eval=ev e:=by
 funext x;cases x with
 | tmp t=>exact h.get t
 | const v=>rfl
 | global g=>rfl
 | func f=>rfl
theorem jL.put{N:Nat}{a:Act}{e:Env}(h:jL N a e){d:Nat}(hd:Nat.blt d N=true)(v:ad):jL N (a.put (some d) v) (br e d v):=by
 have oi:d<a.tmps.size:=by rw [h.size];simpa [Nat.blt_eq]using hd
 refine⟨h.defers,by simp [Act.put,h.size],fun i=>?_⟩;simp only [Act.put,br];rw [iZ,tM]
 by_cases e1:d=i
 ·subst e1;simp [oi]
 ·have e2:Nat.beq i d=false:=by
   cases hb:Nat.beq i d with
   | false=>rfl
   | true=>exact absurd (oE hb).symm e1
  rw [az e1,e2,<-iZ,h.get]
  rfl
abbrev jD:=Exit->Env->aa->Prop
def low(N:Nat)(Q:jD):Exit->Act->aa->Prop:=fun x a w=>∃e,jL N a e/\Q x e w
structure Cd(P:Program)(N:Nat)(c:Code)(Q:jD)(e:Env)(w:aa):Prop where
 mk'::
 run:∀a,jL N a e->c.wp P (low N Q) a w
structure ao(P:Program)(N:Nat)(ops:Array Oper)(K:Env->aa->Prop)(l:List Oper)(e:Env)(w:aa):Prop where
 mk'::
 run:∀a,jL N a e->wpList P ops (fun x a w=>x= .normal/\∃e,jL N a e/\K e w) l a w
section
variable{x y:Code}{id:Nat}
variable {P:Program} {N:Nat} {Q:jD} {e:Env} {w:aa}
def BH(K:Env->aa->Prop)(Q:jD):jD
 | .normal,e,w=>K e w
 | x,e,w=>Q x e w
def J1(id:Nat)(Q:jD):jD
 | .exit MS,e,w=>if MS=id then Q .normal e w else Q (.exit MS) e w
 | x,e,w=>Q x e w
theorem Cd.mono{c:Code}{Q':jD}(hq:∀x e w,Q x e w->Q' x e w)(h:Cd P N c Q e w):Cd P N c Q' e w:=
 .mk' fun a ha=>wp_mono (h.run a ha) fun _ _ _ ⟨e,he,q⟩=> ⟨e,he,hq _ _ _ q⟩
theorem Cd.seq(h:Cd P N x (BH (Cd P N y Q) Q) e w):Cd P N (.seq x y) Q e w:= .mk' fun a ha=>
 wp_seq (wp_mono (h.run a ha) fun ex a' w' ⟨e',qb,q⟩=>by
  cases ex<;>first | exact q.run a' qb | exact⟨e',qb,q⟩)
theorem Cd.skip(h:Q .normal e w):Cd P N .skip Q e w:= .mk' fun a ha=>wp_skip ⟨e,ha,h⟩
theorem Cd.ret(h:Q .ret e w):Cd P N .ret Q e w:= .mk' fun a ha=>wp_ret ⟨e,ha,h⟩
theorem Cd.exit(h:Q (.exit id) e w):Cd P N (.exit id) Q e w:= .mk' fun a ha=>wp_exit ⟨e,ha,h⟩
theorem Cd.block{c:Code}(h:Cd P N c (J1 id Q) e w):Cd P N (.block id c) Q e w:= .mk' fun a ha=>
 wp_block (wp_mono (h.run a ha) fun ex a' w' ⟨e',qb,q⟩=>by
  cases ex<;>first
   | exact⟨e',qb,q⟩
   | (
    rename_i MS;simp only [J1]at q;simp only [Exit.inBlock]
    split
    ·rename_i hid;rw [aB hid]at q;exact⟨e',qb,q⟩
    ·rename_i hid;rw [az hid]at q;exact⟨e',qb,q⟩))
theorem Cd.cond{c:ag}{t:Bool}(hc:ev e c= .bool t)(h1:t=true->Cd P N x Q e w)(h2:t=false->Cd P N y Q e w):Cd P N (.cond c x y) Q e w:= .mk' fun a ha=>
 wp_cond_split (t:=t) (by rw [ha.eval,hc]) (fun h=> (h1 h).run a ha) (fun h=> (h2 h).run a ha)
theorem Cd.gC{c:ag}(hc:ev e c= .bool true)(h1:Cd P N x Q e w):Cd P N (.cond c x y) Q e w:= .cond hc (fun _=>h1) (fun h=>by cases h)
theorem Cd.fC{c:ag}(hc:ev e c= .bool false)(h1:Cd P N y Q e w):Cd P N (.cond c x y) Q e w:= .cond hc (fun h=>by cases h) (fun _=>h1)
theorem aM{c:ag}(p:Prop)[Decidable p](hc:ev e c= .bool (decide p))(h1:p->Cd P N x Q e w)(h2:¬p->Cd P N y Q e w):Cd P N (.cond c x y) Q e w:=
 .cond hc (fun h=>h1 (tB h)) (fun h=>h2 (of_decide_eq_false h))
theorem Cd.region{l:List Oper}(h:ao P N l.toArray (fun e w=>Q .normal e w) l e w):Cd P N (.region id l.toArray false) Q e w:= .mk' fun a ha=>
 wp_mono (wp_region_lit (h.run a ha)) fun _ _ _ ⟨hx,e',qb,q⟩=> ⟨e',qb,by rw [hx];exact q⟩
def Mt(e:Env):List (Nat×ad)->Prop
 | []=>True
 | (i,v)::r=>e i=v/\Mt e r
theorem amz{e:Env}:∀{l:List (Nat×Value)},l.map (fun p=>e p.1)=l.map (fun p=>p.2)->Mt e l
 | [],_=>True.intro
 | _::_,h=>⟨(List.cons.inj h).1,amz (List.cons.inj h).2⟩
def ext(e:Env):List (Nat×ad)->Env
 | []=>e
 | (i,v)::r=>br (ext e r) i v
theorem yu:∀ {l:List (Nat×ad)} {e:Env},Mt e l->ext e l=e
 | [],_,_=>rfl
 | (i,v)::r,e,h=>by
  show br (ext e r) i v=e;rw [yu h.2];funext j;unfold br;cases hb:Nat.beq j i with
  | false=>rfl
  | true=>rw [oE hb,h.1];rfl
theorem Cd.loop{α:Type}{c:Code}(F:α->List (Nat×ad))(I:α->aa->Prop)(m:α->Nat)(s0:α)(hF:Mt e (F s0))(hI:I s0 w)
 (round:∀s e w,I s w->Cd P N c (BH (fun e' w'=>∃s',m s'<m s/\Mt e' (F s')/\I s' w') Q) (ext e (F s)) w):Cd P N (.loop c) Q e w:=by
 have key:∀n s e w,m s=n->Mt e (F s)->I s w->∀a,jL N a e->(Code.loop c).wp P (low N Q) a w:=by
  intro n0 s e w hn hm Lg a ha
  let J:Act->aa->Prop:=fun a w=>∃s e,jL N a e/\Mt e (F s)/\I s w
  refine wp_loop_ghost (I:=fun n a w=>∃s e,m s=n/\jL N a e/\Mt e (F s)/\I s w) n0 ⟨s,e,hn,ha,hm,Lg⟩ ?_;intro n a w ⟨s,e,hn,ha,hm,hI⟩;have h1:=round s e w hI;rw [yu hm]at h1;refine wp_mono (h1.run a ha) fun ex a' w' ⟨e',qb,q⟩=>?_
  cases ex<;>first
   | exact⟨e',qb,q⟩
   | (
    obtain⟨s',fW,iU,Lg⟩:=q;exact⟨m s',by omega,s',e',O,qb,iU,Lg⟩)
 exact .mk' fun a ha=>key _ s0 e w O hF hI a ha
end
class bt(P:Program)(t:ae)(d:outParam TypeDesc):Type where
 out:P.underlying t=some d
class bq(P:Program)(t:ae)(z:outParam ad)(size bytes:outParam Nat):Prop where
 out:(P.info? t).map (fun i=> (i.zero,i.size,i.bytes))=some (some z,size,bytes)
class bC(P:Program)(F:FuncId):Prop where
 out : ∃ fn, P.funcs[F]? = some fn /\ (fn.name == "runtime.NumGoroutine") = false /\ fn.body.isNone = false
theorem bq.get(P:Program)(t:ae){z:ad}{s b:Nat}[h:bq P t z s b]:∃i,P.info? t=some i/\i.zero=some z/\i.size=s/\i.bytes=b:=by
 obtain⟨i,hi,he⟩:=Option.map_eq_some_iff.1 h.out;simp only [Prod.mk.injEq]at he;exact⟨i,hi,he.1,he.2.1,he.2.2⟩
section
variable{j dj d:Nat}{b want:Bool}{x:ag}
variable {P:Program} {N:Nat} {ops:Array Oper} {K:Env->aa->Prop} {rest:List Oper} {e:Env} {w w':aa} {d:Nat} {ty:ae} {pos:String} {af:Array Edge}
theorem ao.n(h:K e w):ao P N ops K [] e w:= .mk' fun a ha=>wpList_nil ⟨rfl,e,ha,h⟩
theorem ao.val{op:Op}{v:ad}(hr:(execOp (ev e) ⟨some d,op,ty,pos,af,none⟩).run P w= .ok (.value v) w')(hb:Nat.blt d N=true)(hK:ao P N ops K rest (br e d v) w'):
 ao P N ops K (⟨some d,op,ty,pos,af,none⟩::rest) e w:= .mk' fun a ha=>by
 refine wpList_plain O fun J hJ=>?_
 unfold Oper.wp;rw [ha.eval,hr];exact hJ _ _ (hK.run _ (ha.put hb v))
theorem ao.unit{op:Op}(hr:(execOp (ev e) ⟨none,op,ty,pos,af,none⟩).run P w= .ok .skip w')(hK:ao P N ops K rest e w'):
 ao P N ops K (⟨none,op,ty,pos,af,none⟩::rest) e w:= .mk' fun a ha=>by
 refine wpList_plain O fun J hJ=>?_
 unfold Oper.wp;rw [ha.eval,hr];exact hJ _ _ (hK.run _ ha)
theorem ao.aj8{op:Op}{v:ad}(hr:(execOp (ev e) ⟨none,op,ty,pos,af,none⟩).run P w= .ok (.value v) w')(hK:ao P N ops K rest e w'):
 ao P N ops K (⟨none,op,ty,pos,af,none⟩::rest) e w:= .mk' fun a ha=>by
 refine wpList_plain O fun J hJ=>?_
 unfold Oper.wp;rw [ha.eval,hr];exact hJ _ _ (hK.run _ ha)
theorem Wt{a:Act}(ha:jL N a e)(hj:(ops[j]?).bind (·.dst)=some dj)(fW:Nat.blt dj N=true)(hv:e dj= .bool b):yielded ops a.tmps j=some b:=by
 have h1:dj<a.tmps.size:=by rw [ha.size];simpa [Nat.blt_eq]using fW
 have h2:=ha.get dj;rw [iZ,rG h1,Option.getD_some,hv]at h2;simp [yielded,hj,rG h1,h2]
theorem aml{o:Option Tmp}{op:Op}(hj:(ops[j]?).bind (·.dst)=some dj)(fW:Nat.blt dj N=true)(hv:e dj= .bool want)(hK:ao P N ops K (⟨o,op,ty,pos,af,none⟩::rest) e w):ao P N ops K (⟨o,op,ty,pos,af,some (j,want)⟩::rest) e w:= .mk' fun a ha=>by
 have h:=hK.run a ha;have hy:=Wt (ops:=ops) ha hj fW hv;have hw:Region.wanted (⟨o,op,ty,pos,af,some (j,want)⟩:Oper) (yielded ops a.tmps)=true:=by
  simp [Region.wanted,hy]
 unfold wpList at h|-;rw [aB hw];rw [aB (show Region.wanted (⟨o,op,ty,pos,af,none⟩:Oper) (yielded ops a.tmps)=true from rfl)]at h;exact h
theorem av{o:Option Tmp}{op:Op}(q9:((ops[j]?).bind (·.dst),Nat.blt dj N,e dj)=(some dj,true,.bool want))(hK:ao P N ops K (⟨o,op,ty,pos,af,none⟩::rest) e w):ao P N ops K (⟨o,op,ty,pos,af,some (j,want)⟩::rest) e w:=aml (congrArg (fun p=>p.1) q9) (congrArg (fun p=>p.2.1) q9) (congrArg (fun p=>p.2.2) q9) hK
theorem amm{op:Op}(hj:(ops[j]?).bind (·.dst)=some dj)(fW:Nat.blt dj N=true)(hv:e dj= .bool b)(bU:(b==want)=false)(hb:Nat.blt d N=true)(hK:ao P N ops K rest (br e d undef) w):ao P N ops K (⟨some d,op,ty,pos,af,some (j,want)⟩::rest) e w:= .mk' fun a ha=>by
 have hy:=Wt (ops:=ops) ha hj fW hv;refine wpList_skip ?_ (hK.run _ (ha.put hb undef));simp only [Region.wanted];rw [hy];simpa using bU
theorem aJ{op:Op}(q9:((ops[j]?).bind (·.dst),Nat.blt dj N,e dj,(b==want),Nat.blt d N)=(some dj,true,.bool b,false,true))(hK:ao P N ops K rest (br e d undef) w):ao P N ops K (⟨some d,op,ty,pos,af,some (j,want)⟩::rest) e w:=amm (congrArg (fun p=>p.1) q9) (congrArg (fun p=>p.2.1) q9) (congrArg (fun p=>p.2.2.1) q9) (congrArg (fun p=>p.2.2.2.1) q9) (congrArg (fun p=>p.2.2.2.2) q9) hK
theorem fA{op:Op}(hj:(ops[j]?).bind (·.dst)=some dj)(fW:Nat.blt dj N=true)(hv:e dj=undef)(hb:Nat.blt d N=true)(hK:ao P N ops K rest (br e d undef) w):ao P N ops K (⟨some d,op,ty,pos,af,some (j,want)⟩::rest) e w:= .mk' fun a ha=>by
 refine wpList_skip ?_ (hK.run _ (ha.put hb undef));have h1:dj<a.tmps.size:=by rw [ha.size];simpa [Nat.blt_eq]using fW
 have h2:=ha.get dj;rw [iZ,rG h1,Option.getD_some,hv]at h2;simp [Region.wanted,yielded,hj,rG h1,h2,undef]
theorem Wr{e:Env}{v:ad}(h:e d=v):br e d v=e:=by
 funext j;unfold br;cases hb:Nat.beq j d with
 | false=>rfl
 | true=>rw [oE hb,h];rfl
theorem ao.split{l:List Oper}(d:Nat)(hv:e d= .bool b)(h1:b=true->ao P N ops K l (br e d (.bool true)) w)(h2:b=false->ao P N ops K l (br e d (.bool false)) w):ao P N ops K l e w:=by
 cases b
 ·have:=h2 O;rwa [Wr hv]at this
 have:=h1 O;rwa [Wr hv]at this
theorem ew{l:List Oper}(d:Nat){p:Prop}[Decidable p](hv:e d= .bool (decide p))(h1:p->ao P N ops K l (br e d (.bool true)) w)(h2:¬p->ao P N ops K l (br e d (.bool false)) w):ao P N ops K l e w:=
 .split d hv (fun h=>h1 (tB h)) (fun h=>h2 (of_decide_eq_false h))
def zp:Op->Option ag
 | .move x=>some x
 | .assign x=>some x
 | _=>none
theorem aiS{op:Op}(h:zp op=some x):(execOp (ev e) ⟨some d,op,ty,pos,af,none⟩).run P w= .ok (.value (ev e x)) w:=by
 cases op<;>simp [zp]at h<;>subst h<;>rfl
theorem ao.mv{op:Op}{v:ad}(oq:zp op=some x)(hx:ev e x=v)(hb:Nat.blt d N=true)(hK:ao P N ops K rest (br e d v) w):ao P N ops K (⟨some d,op,ty,pos,af,none⟩::rest) e w:=
 .val (by rw [aiS oq,hx]) hb hK
theorem qF{op:Op}{k:IntKind}{i:Int}(oq:zp op=some x)(hx:ev e x= .int k i)(hb:Nat.blt d N=true)(hK:ao P N ops K rest (br e d (.int k i)) w):ao P N ops K (⟨some d,op,ty,pos,af,none⟩::rest) e w:= .mv oq hx hb hK
theorem lW{op:Op}{A:aj}{n c:Nat}(oq:zp op=some x)(hx:ev e x= .slice A n c)(hb:Nat.blt d N=true)(hK:ao P N ops K rest (br e d (.slice A n c)) w):ao P N ops K (⟨some d,op,ty,pos,af,none⟩::rest) e w:= .mv oq hx hb hK
theorem O2{op:Op}(oq:zp op=some x)(hx:ev e x= .bool b)(hb:Nat.blt d N=true)(hK:ao P N ops K rest (br e d (.bool b)) w):ao P N ops K (⟨some d,op,ty,pos,af,none⟩::rest) e w:= .mv oq hx hb hK
theorem O4{op:Op}{cs:Array ad}(oq:zp op=some x)(hx:ev e x= .tuple cs)(hb:Nat.blt d N=true)(hK:ao P N ops K rest (br e d (.tuple cs)) w):ao P N ops K (⟨some d,op,ty,pos,af,none⟩::rest) e w:= .mv oq hx hb hK
section
variable{k:IntKind}{b:Bool}
variable {x y:ag} {xt yt:ae} {i j:Int}
theorem amr(hx:ev e x=ak i)(hy:ev e y=ak j)(hb:Nat.blt d N=true)(hr: -9223372036854775808<=i+j/\i+j<=9223372036854775807)(hK:ao P N ops K rest (br e d (ak (i+j))) w):
 ao P N ops K (⟨some d,.binOp .add xt x y yt,ty,pos,af,none⟩::rest) e w:=
 .val (by simp [execOp,hx,hy,eqGuard,binOp,Op.intArith,IntWalk.i64_in _ hr]) hb hK
theorem aH(q9:(ev e x,ev e y,Nat.blt d N)=(ak i,ak j,true))(hK:ao P N ops K rest (br e d (ak (i+j))) w)(hr:-9223372036854775808<=i+j/\i+j<=9223372036854775807:=by omega):ao P N ops K (⟨some d,.binOp .add xt x y yt,ty,pos,af,none⟩::rest) e w:=amr (congrArg (fun p=>p.1) q9) (congrArg (fun p=>p.2.1) q9) (congrArg (fun p=>p.2.2) q9) hr hK
theorem amp(hx:ev e x=ak i)(hy:ev e y=ak j)(hb:Nat.blt d N=true)(hr: -9223372036854775808<=i - j/\i - j<=9223372036854775807)(hK:ao P N ops K rest (br e d (ak (i - j))) w):
 ao P N ops K (⟨some d,.binOp .sub xt x y yt,ty,pos,af,none⟩::rest) e w:=
 .val (by simp [execOp,hx,hy,eqGuard,binOp,Op.intArith,IntWalk.i64_in _ hr]) hb hK
theorem eh(q9:(ev e x,ev e y,Nat.blt d N)=(ak i,ak j,true))(hK:ao P N ops K rest (br e d (ak (i - j))) w)(hr:-9223372036854775808<=i - j/\i - j<=9223372036854775807:=by omega):ao P N ops K (⟨some d,.binOp .sub xt x y yt,ty,pos,af,none⟩::rest) e w:=amp (congrArg (fun p=>p.1) q9) (congrArg (fun p=>p.2.1) q9) (congrArg (fun p=>p.2.2) q9) hr hK
theorem rQ(hx:ev e x=ak i)(hy:ev e y=ak j)(hb:Nat.blt d N=true)(hr: -9223372036854775808<=i*j/\i*j<=9223372036854775807)(hK:ao P N ops K rest (br e d (ak (i*j))) w):
 ao P N ops K (⟨some d,.binOp .mul xt x y yt,ty,pos,af,none⟩::rest) e w:=
 .val (by simp [execOp,hx,hy,eqGuard,binOp,Op.intArith,IntWalk.i64_in _ hr]) hb hK
theorem ao.quo(hx:ev e x=ak i)(hy:ev e y=ak j)(hb:Nat.blt d N=true)(hr:0<=i/\i<=9223372036854775807/\1<=j)(hK:ao P N ops K rest (br e d (ak (i / j))) w):
 ao P N ops K (⟨some d,.binOp .quo xt x y yt,ty,pos,af,none⟩::rest) e w:=
 .val (by simp [execOp,hx,hy,eqGuard,binOp,Op.intDiv,IntWalk.i64_quo _ _ hr,show j≠0 by omega]) hb hK
theorem ao.rem(hx:ev e x=ak i)(hy:ev e y=ak j)(hb:Nat.blt d N=true)(hr:0<=i/\1<=j)(hK:ao P N ops K rest (br e d (ak (i%j))) w):
 ao P N ops K (⟨some d,.binOp .rem xt x y yt,ty,pos,af,none⟩::rest) e w:=
 .val (by simp [execOp,hx,hy,eqGuard,binOp,Op.intDiv,Int.tmod_eq_emod_of_nonneg hr.1,show j≠0 by omega]) hb hK
theorem ao.lss(hx:ev e x= .int k i)(hy:ev e y= .int k j)(hb:Nat.blt d N=true)(hK:ao P N ops K rest (br e d (.bool (decide (i<j)))) w):
 ao P N ops K (⟨some d,.binOp .lss xt x y yt,ty,pos,af,none⟩::rest) e w:= .val (by simp [execOp,hx,hy,eqGuard,binOp,Op.intCmp]) hb hK
theorem ao.leq(hx:ev e x= .int k i)(hy:ev e y= .int k j)(hb:Nat.blt d N=true)(hK:ao P N ops K rest (br e d (.bool (decide (i<=j)))) w):
 ao P N ops K (⟨some d,.binOp .leq xt x y yt,ty,pos,af,none⟩::rest) e w:= .val (by simp [execOp,hx,hy,eqGuard,binOp,Op.intCmp]) hb hK
theorem ao.gtr(hx:ev e x= .int k i)(hy:ev e y= .int k j)(hb:Nat.blt d N=true)(hK:ao P N ops K rest (br e d (.bool (decide (j<i)))) w):
 ao P N ops K (⟨some d,.binOp .gtr xt x y yt,ty,pos,af,none⟩::rest) e w:= .val (by simp [execOp,hx,hy,eqGuard,binOp,Op.intCmp]) hb hK
theorem ao.geq(hx:ev e x= .int k i)(hy:ev e y= .int k j)(hb:Nat.blt d N=true)(hK:ao P N ops K rest (br e d (.bool (decide (j<=i)))) w):
 ao P N ops K (⟨some d,.binOp .geq xt x y yt,ty,pos,af,none⟩::rest) e w:= .val (by simp [execOp,hx,hy,eqGuard,binOp,Op.intCmp]) hb hK
theorem Ym(i j:Int):(i==j)=decide (i=j):=by by_cases h:i=j<;>simp [h]
theorem Yr(i j:Int):(i !=j)=decide (¬i=j):=by by_cases h:i=j<;>simp [h]
theorem ao.eql(hx:ev e x= .int k i)(hy:ev e y= .int k j)(hb:Nat.blt d N=true)(hK:ao P N ops K rest (br e d (.bool (decide (i=j)))) w):
 ao P N ops K (⟨some d,.binOp .eql xt x y yt,ty,pos,af,none⟩::rest) e w:= .val (by rw [<-Ym];simp [execOp,hx,hy,eqGuard,binOp,Op.intCmp]) hb hK
theorem ao.neq(hx:ev e x= .int k i)(hy:ev e y= .int k j)(hb:Nat.blt d N=true)(hK:ao P N ops K rest (br e d (.bool (decide (¬i=j)))) w):
 ao P N ops K (⟨some d,.binOp .neq xt x y yt,ty,pos,af,none⟩::rest) e w:= .val (by rw [<-Yr];simp [execOp,hx,hy,eqGuard,binOp,Op.intCmp]) hb hK
theorem gA(hx:ev e x= .bool b)(hb:Nat.blt d N=true)(hK:ao P N ops K rest (br e d (.bool (!b))) w):
 ao P N ops K (⟨some d,.unOp .not xt x,ty,pos,af,none⟩::rest) e w:= .val (by simp [execOp,hx,Op.unary]) hb hK
theorem fv{p:Prop}[Decidable p](hx:ev e x= .bool (decide p))(hb:Nat.blt d N=true)(hK:ao P N ops K rest (br e d (.bool (decide ¬p))) w):
 ao P N ops K (⟨some d,.unOp .not xt x,ty,pos,af,none⟩::rest) e w:= .val (by simp [execOp,hx,Op.unary]) hb hK
theorem ao.ahI{c:ag}(hc:ev e c= .bool true)(hx:ev e x= .bool b)(hb:Nat.blt d N=true)(hK:ao P N ops K rest (br e d (.bool b)) w):
 ao P N ops K (⟨some d,.pick c x y,ty,pos,af,none⟩::rest) e w:= .val (by simp [execOp,hc,hx,asBool]) hb hK
theorem ao.ahH{c:ag}(hc:ev e c= .bool false)(hx:ev e y= .bool b)(hb:Nat.blt d N=true)(hK:ao P N ops K rest (br e d (.bool b)) w):
 ao P N ops K (⟨some d,.pick c x y,ty,pos,af,none⟩::rest) e w:= .val (by simp [execOp,hc,hx,asBool]) hb hK
end
theorem ao.extract{x:ag}{vs:Array ad}{ix:Nat}{v:ad}(hx:ev e x= .tuple vs)(hv:vs[ix]?=some v)(hb:Nat.blt d N=true)(hK:ao P N ops K rest (br e d v) w):
 ao P N ops K (⟨some d,.extract x ix,ty,pos,af,none⟩::rest) e w:= .val (by simp [execOp,hx,Instr.extract,hv]) hb hK
theorem bc{x:ag}{t el:ae}{A:aj}{n c:Nat}[bt P t (.slice el)](hx:ev e x= .slice A n c)(hb:Nat.blt d N=true)(hK:ao P N ops K rest (br e d (ak n)) w):
 ao P N ops K (⟨some d,.call ⟨.builtin .len, #[x], #[t]⟩,ty,pos,af,none⟩::rest) e w:=
 .val (by simp [execOp,resolve,invoke,builtin,Builtin.len_,hx,run_underlying (bt.out (P:=P) (t:=t)),goInt]) hb hK
theorem ao.ag3{x:ag}{a:Addr}(hx:ev e x= .pointer (some a))(hb:Nat.blt d N=true)(hK:ao P N ops K rest (br e d (.pointer (some a))) w):
 ao P N ops K (⟨some d,.nilCheck x,ty,pos,af,none⟩::rest) e w:= .val (by simp [execOp,hx]) hb hK
def aK(P:Program)(F:FuncId)(vs:List ad)(w:aa)(R:ad->aa->Prop):Prop:=Calls P F vs.toArray w fun x w'=>∃v,x= .returned v/\R v w'
theorem aK.mono{F:FuncId}{vs:List ad}{R R':ad->aa->Prop}(h:aK P F vs w R)(hR:∀v w',R v w'->R' v w'):aK P F vs w R':=
 Calls.mono h fun _ _ ⟨v,he,hv⟩=> ⟨v,he,hR _ _ hv⟩
theorem amq{f:ag}{F:FuncId}{c2:Array ad}{l:List ag}{vs:List ad}{R:ad->aa->Prop}{Pq:Array ae}[hF:bC P F](hC:aK P F vs w R)(hf:ev e f= .func (.func F) #[] c2)(hv:l.map (ev e)++c2.toList=vs)(hb:Nat.blt d N=true)(hK:∀v w',R v w'->ao P N ops K rest (br e d v) w'):ao P N ops K (⟨some d,.call ⟨.value f,l.toArray,Pq⟩,ty,pos,af,none⟩::rest) e w:= .mk' fun a ha=>by
 obtain⟨fn,h1,h2,h3⟩:=hF.out;have mS:(execOp (ev e) ⟨some d,.call ⟨.value f,l.toArray,Pq⟩,ty,pos,af,none⟩).run P w= .ok (.enter F vs.toArray) w:=by
  have h4:(l.toArray.map (ev e)++c2)=vs.toArray:=by
   rw [<-hv];simp
  have h5 : ¬ fn.name = "runtime.NumGoroutine" := by simpa using h2
  have h6:¬fn.body=none:=by intro h;rw [h]at h3;cases h3
  simp [execOp,resolve,hf,Deferred.ofValue,invoke,callFunc,h1,h5,h6];exact hv
 refine wpList_plain O fun J hJ=>?_
 unfold Oper.wp;rw [ha.eval,mS];refine Calls.mono hC fun x w' ⟨v,hx,hR⟩=>?_
 subst hx;exact hJ _ _ ((hK v w' hR).run _ (ha.put hb v))
theorem aQ{f:ag}{F:FuncId}{c2:Array ad}{l:List ag}{vs:List ad}{R:ad->aa->Prop}{Pq:Array ae}[hF:bC P F](hC:aK P F vs w R)(q9:(ev e f,l.map (ev e)++c2.toList,Nat.blt d N)=(.func (.func F) #[] c2,vs,true))(hK:∀v w',R v w'->ao P N ops K rest (br e d v) w'):ao P N ops K (⟨some d,.call ⟨.value f,l.toArray,Pq⟩,ty,pos,af,none⟩::rest) e w:=amq hC (congrArg (fun p=>p.1) q9) (congrArg (fun p=>p.2.1) q9) (congrArg (fun p=>p.2.2) q9) hK
theorem tQ{K:Env->aa->Prop}{Q:jD}(h:K e w):BH K Q .normal e w:=h
theorem fz{K:Env->aa->Prop}{Q:jD}(h:Q .ret e w):BH K Q .ret e w:=h
theorem bo{K:Env->aa->Prop}{Q:jD}{id:Nat}(h:Q (.exit id) e w):BH K Q (.exit id) e w:=h
def JU(vs:List ad):Env:=fun i=>vs.getD i undef
def NX(R:ad->aa->Prop):jD
 | .normal,_,w=>R (.tuple #[]) w
 | .ret,_,w=>R (.tuple #[]) w
 | _,_,_=>False
def FQ(t:Nat)(R:ad->aa->Prop):jD
 | .normal,e,w=>R (e t) w
 | .ret,e,w=>R (e t) w
 | _,_,_=>False
def DD(t u:Nat)(R:ad->aa->Prop):jD
 | .normal,e,w=>R (.tuple #[e t,e u]) w
 | .ret,e,w=>R (.tuple #[e t,e u]) w
 | _,_,_=>False
theorem aiu(vs:List ad)(n:Nat)(h:Nat.ble vs.length n=true):jL n ⟨vs.toArray++Array.replicate (n - vs.toArray.size) undef,[]⟩ (JU vs):=by
 have h':vs.length<=n:=by simpa using h
 refine⟨O,by simp;omega,fun i=>?_⟩;simp only [JU];rw [iZ,da,Array.getElem?_append]
 split
 ·simp
 rename_i hi;simp at hi;rw [mh hi,Array.getElem?_replicate]
 split<;>rfl
theorem dz{R:ad->aa->Prop}{t:Nat}{b:Bool}(h:e t= .bool b)(hR:R (.bool b) w):FQ t R .ret e w:=by show R (e t) w;rw [h];exact hR
theorem gZ{R:ad->aa->Prop}{t:Nat}{k:IntKind}{i:Int}(h:e t= .int k i)(hR:R (.int k i) w):FQ t R .ret e w:=by show R (e t) w;rw [h];exact hR
theorem ia{R:ad->aa->Prop}{t:Nat}{A:aj}{n c:Nat}(h:e t= .slice A n c)(hR:R (.slice A n c) w):FQ t R .ret e w:=by show R (e t) w;rw [h];exact hR
theorem Vz{R:ad->aa->Prop}{t:Nat}{v:ad}(h:e t=v)(hR:R v w):FQ t R .ret e w:=by show R (e t) w;rw [h];exact hR
theorem NY{R:ad->aa->Prop}(hR:R (.tuple #[]) w):NX R .ret e w:=hR
theorem x8{R:ad->aa->Prop}(hR:R (.tuple #[]) w):NX R .normal e w:=hR
theorem Jb{R:ad->aa->Prop}{t u:Nat}{A:aj}{n c:Nat}{k:IntKind}{i:Int}(h:e t= .slice A n c)(h2:e u= .int k i)(hR:R (.tuple #[.slice A n c,.int k i]) w):DD t u R .ret e w:=by show R (.tuple #[e t,e u]) w;rw [h,h2];exact hR
theorem VA{R:ad->aa->Prop}{t u:Nat}{k':IntKind}{j:Int}{k:IntKind}{i:Int}(h:e t= .int k' j)(h2:e u= .int k i)(hR:R (.tuple #[.int k' j,.int k i]) w):DD t u R .ret e w:=by show R (.tuple #[e t,e u]) w;rw [h,h2];exact hR
theorem Ja{R:ad->aa->Prop}{t u:Nat}{b:Bool}{k:IntKind}{i:Int}(h:e t= .bool b)(h2:e u= .int k i)(hR:R (.tuple #[.bool b,.int k i]) w):DD t u R .ret e w:=by show R (.tuple #[e t,e u]) w;rw [h,h2];exact hR
theorem VB{R:ad->aa->Prop}{t u:Nat}{A:aj}{n c:Nat}{b:Bool}(h:e t= .slice A n c)(h2:e u= .bool b)(hR:R (.tuple #[.slice A n c,.bool b]) w):DD t u R .ret e w:=by show R (.tuple #[e t,e u]) w;rw [h,h2];exact hR
theorem bA{F:FuncId}{fn:Func}{c:Code}{vs:List ad}{R:ad->aa->Prop}{Q:jD}(hf:P.funcs[F]?=some fn)(hc:fn.body=some c)(hn:fn.ntmps=N)(hl:Nat.ble vs.length N=true)(hQ:∀x a e w,jL N a e->Q x e w->bodyPost P fn (fun x w'=>∃v,x= .returned v/\R v w') x a w)(h:Cd P N c Q (JU vs) w):aK P F vs w R:=by
 subst hn;exact calls_of_wp hf hc (wp_mono (h.run _ (aiu vs _ hl)) fun x a w ⟨e,he,q⟩=>hQ x a e w he q)
theorem Bu{fn:Func}{R:ad->aa->Prop}(hr:fn.results= #[]):∀x a e w,jL N a e->NX R x e w->bodyPost P fn (fun x w'=>∃v,x= .returned v/\R v w') x a w:=by
 intro x a e w he q;cases x<;>first
  | exact q.elim
  | exact⟨he.defers,_,results_none hr _ _ _,_,rfl,q⟩
theorem df{fn:Func}{R:ad->aa->Prop}{t:Nat}(hr:fn.results= #[.tmp t]):∀x a e w,jL N a e->FQ t R x e w->bodyPost P fn (fun x w'=>∃v,x= .returned v/\R v w') x a w:=by
 intro x a e w he q;have hg:=he.get t;cases x<;>first
  | exact q.elim
  | exact⟨he.defers,_,results_tmp hr _ _ _,_,rfl,by rw [hg];exact q⟩
theorem x5{fn:Func}{R:ad->aa->Prop}{t u:Nat}(hr:fn.results= #[.tmp t,.tmp u]):∀x a e w,jL N a e->DD t u R x e w->bodyPost P fn (fun x w'=>∃v,x= .returned v/\R v w') x a w:=by
 intro x a e w he q;have hg:=he.get t;have hh:=he.get u;cases x<;>first
  | exact q.elim
  | exact⟨he.defers,_,results_tmp2 hr _ _ _,_,rfl,by rw [hg,hh];exact q⟩
end
def hd:ad->Option ad
 | .int k n=>some (.int k n)
 | .slice a n c=>some (.slice a n c)
 | .bool b=>some (.bool b)
 | .pointer a=>some (.pointer a)
 | .agg cs=>some (.agg cs)
 | .func f a b=>some (.func f a b)
 | .tuple cs=>some (.tuple cs)
 | .string s=>some (.string s)
 | .map r=>some (.map r)
 | _=>none
theorem LO{v u:ad}(h:hd v=some u):v=u:=by cases v<;>simp [hd]at h<;>exact h
def Ni(e:Env)(x y:ag):Option ad:=
 match ev e x,ev e y with
 | .int .i64 a,.int .i64 b=>some (.bool (decide (a<b)))
 | _,_=>none
theorem af9{e:Env}{x y:ag}{v:ad}(h:Ni e x y=some v):∃a b,ev e x=ak a/\ev e y=ak b/\v= .bool (decide (a<b)):=by
 unfold Ni at h
 split at h
 ·rename_i a b h1 h2;exact⟨a,b,h1,h2,(dC h).symm⟩
 cases h
def Nc(e:Env)(x y:ag):Option ad:=
 match ev e x,ev e y with
 | .int .i64 a,.int .i64 b=>some (.bool (decide (a<=b)))
 | _,_=>none
theorem afR{e:Env}{x y:ag}{v:ad}(h:Nc e x y=some v):∃a b,ev e x=ak a/\ev e y=ak b/\v= .bool (decide (a<=b)):=by
 unfold Nc at h
 split at h
 ·rename_i a b h1 h2;exact⟨a,b,h1,h2,(dC h).symm⟩
 cases h
def KX(e:Env)(x y:ag):Option ad:=
 match ev e x,ev e y with
 | .int .i64 a,.int .i64 b=>some (.bool (decide (b<a)))
 | _,_=>none
theorem aaK{e:Env}{x y:ag}{v:ad}(h:KX e x y=some v):∃a b,ev e x=ak a/\ev e y=ak b/\v= .bool (decide (b<a)):=by
 unfold KX at h
 split at h
 ·rename_i a b h1 h2;exact⟨a,b,h1,h2,(dC h).symm⟩
 cases h
def KJ(e:Env)(x y:ag):Option ad:=
 match ev e x,ev e y with
 | .int .i64 a,.int .i64 b=>some (.bool (decide (b<=a)))
 | _,_=>none
theorem aao{e:Env}{x y:ag}{v:ad}(h:KJ e x y=some v):∃a b,ev e x=ak a/\ev e y=ak b/\v= .bool (decide (b<=a)):=by
 unfold KJ at h
 split at h
 ·rename_i a b h1 h2;exact⟨a,b,h1,h2,(dC h).symm⟩
 cases h
def Kt(e:Env)(x y:ag):Option ad:=
 match ev e x,ev e y with
 | .int .i64 a,.int .i64 b=>some (.bool (decide (a=b)))
 | _,_=>none
theorem ZG{e:Env}{x y:ag}{v:ad}(h:Kt e x y=some v):∃a b,ev e x=ak a/\ev e y=ak b/\v= .bool (decide (a=b)):=by
 unfold Kt at h
 split at h
 ·rename_i a b h1 h2;exact⟨a,b,h1,h2,(dC h).symm⟩
 cases h
def Nw(e:Env)(x y:ag):Option ad:=
 match ev e x,ev e y with
 | .int .i64 a,.int .i64 b=>some (.bool (decide (¬a=b)))
 | _,_=>none
theorem agZ{e:Env}{x y:ag}{v:ad}(h:Nw e x y=some v):∃a b,ev e x=ak a/\ev e y=ak b/\v= .bool (decide (¬a=b)):=by
 unfold Nw at h
 split at h
 ·rename_i a b h1 h2;exact⟨a,b,h1,h2,(dC h).symm⟩
 cases h
def Og(e:Env):Op->Option ad
 | .move x=>hd (ev e x)
 | .assign x=>hd (ev e x)
 | .binOp .lss _ x y _=>Ni e x y
 | .binOp .leq _ x y _=>Nc e x y
 | .binOp .gtr _ x y _=>KX e x y
 | .binOp .geq _ x y _=>KJ e x y
 | .binOp .eql _ x y _=>Kt e x y
 | .binOp .neq _ x y _=>Nw e x y
 | .extract x i=>match ev e x with
  | .tuple vs=> (match vs[i]? with
   | some v=>hd v
   | none=>none)
  | _=>none
 | .pick c x y=>match ev e c with
  | .bool true=> (match ev e x with
   | .bool b=>some (.bool b)
   | _=>none)
  | .bool false=> (match ev e y with
   | .bool b=>some (.bool b)
   | _=>none)
  | _=>none
 | _=>none
def tJ(N:Nat)(e:Env)(o:Oper):Option (Nat×ad):=
 match o.guard,o.dst with
 | none,some d=> (match Nat.blt d N with
  | true=> (match Og e o.op with
   | some v=>some (d,v)
   | none=>none)
  | false=>none)
 | _,_=>none
def Ci(N:Nat):List Oper->Env->List Oper×Env
 | [],e=> ([],e)
 | o::l,e=>match tJ N e o with
  | some (d,v)=>Ci N l (br e d v)
  | none=> (o::l,e)
section
variable {P:Program} {N:Nat} {ops:Array Oper} {K:Env->aa->Prop} {e:Env} {w:aa}
theorem ao.tJ{o:Oper}{l:List Oper}{d:Nat}{v:ad}(h:tJ N e o=some (d,v))(hK:ao P N ops K l (br e d v) w):ao P N ops K (o::l) e w:=by
 obtain⟨dst,op,ty,pos,af,gd⟩:=o;unfold Vc.tJ at h
 split at h
 ·rename_i d' hg oi;simp only at hg oi;subst hg oi
  split at h
  ·rename_i hb
   split at h
   ·rename_i v' hv;simp only [mJ,Prod.mk.injEq]at h;obtain⟨rfl,rfl⟩:=h;replace hv:Og e op=some v':=hv;unfold Og at hv
    split at hv
    ·exact .mv O (LO hv) hb hK
    ·exact .mv O (LO hv) hb hK
    ·obtain⟨a,b,h1,h2,rfl⟩:=af9 hv;exact .lss h1 h2 hb hK
    ·obtain⟨a,b,h1,h2,rfl⟩:=afR hv;exact .leq h1 h2 hb hK
    ·obtain⟨a,b,h1,h2,rfl⟩:=aaK hv;exact .gtr h1 h2 hb hK
    ·obtain⟨a,b,h1,h2,rfl⟩:=aao hv;exact .geq h1 h2 hb hK
    ·obtain⟨a,b,h1,h2,rfl⟩:=ZG hv;exact .eql h1 h2 hb hK
    ·obtain⟨a,b,h1,h2,rfl⟩:=agZ hv;exact .neq h1 h2 hb hK
    ·split at hv
     ·rename_i h1
      split at hv
      ·rename_i h2;exact .extract h1 (by rw [h2,LO hv]) hb hK
      cases hv
     cases hv
    ·split at hv
     ·rename_i h1
      split at hv
      ·rename_i b h2;obtain rfl:=dC hv;exact .ahI h1 h2 hb hK
      cases hv
     ·rename_i h1
      split at hv
      ·rename_i b h2;obtain rfl:=dC hv;exact .ahH h1 h2 hb hK
      cases hv
     cases hv
    cases hv
   cases h
  cases h
 cases h
theorem JO:∀ {l:List Oper} {e:Env},ao P N ops K (Ci N l e).1 (Ci N l e).2 w->ao P N ops K l e w
 | [],_,h=>h
 | o::l,e,h=>by
  unfold Ci at h
  split at h
  ·rename_i d v hs;exact .tJ hs (JO h)
  ·exact h
end
inductive Fr where
 | s (c:Code)
 | b (id:Nat)
def Qk(P:Program)(N:Nat)(Q:jD):List Fr->jD
 | []=>Q
 | .s y::r=>BH (Cd P N y (Qk P N Q r)) (Qk P N Q r)
 | .b id::r=>J1 id (Qk P N Q r)
def Dz:List Fr->Option (Code×List Fr)
 | []=>none
 | .s y::r=>some (y,r)
 | .b _::r=>Dz r
def DA(id:Nat):List Fr->Option (List Fr)
 | []=>none
 | .s _::r=>DA id r
 | .b i::r=>match Nat.beq id i with
  | true=>some r
  | false=>DA id r
inductive Ce where
 | c (c:Code) (s:List Fr) (e:Env)
 | o (ops:Array Oper) (l:List Oper) (s:List Fr) (e:Env)
 | n (e:Env)
 | r (e:Env)
 | x (id:Nat) (e:Env)
def Ce.ok(P:Program)(N:Nat)(Q:jD)(w:aa):Ce->Prop
 | .c y s e=>Cd P N y (Qk P N Q s) e w
 | .o ops l s e=>ao P N ops (fun e w=>Qk P N Q s .normal e w) l e w
 | .n e=>Q .normal e w
 | .r e=>Q .ret e w
 | .x id e=>Q (.exit id) e w
def run(N:Nat):Nat->Code->List Fr->Env->Ce
 | 0,c,s,e=> .c c s e
 | n+1,c,s,e=>match c with
  | .seq x y=>run N n x (.s y::s) e
  | .block id x=>run N n x (.b id::s) e
  | .region id ops dr=>match dr with
   | true=> .c (.region id ops true) s e
   | false=>match Ci N ops.toList e with
    | ([],e')=> (match Dz s with
     | none=> .n e'
     | some (y,r)=>run N n y r e')
    | (o::l,e')=> .o ops (o::l) s e'
  | .skip=> (match Dz s with
   | none=> .n e
   | some (y,r)=>run N n y r e)
  | .ret=> .r e
  | .exit id=> (match DA id s with
   | none=> .x id e
   | some s'=> (match Dz s' with
    | none=> .n e
    | some (y,r)=>run N n y r e))
  | c=> .c c s e
def runN(N n:Nat)(s:List Fr)(e:Env):Ce:=match Dz s with
 | none=> .n e
 | some (y,r)=>run N n y r e
def DI(N n id:Nat)(s:List Fr)(e:Env):Ce:=match DA id s with
 | none=> .x id e
 | some s'=>runN N n s' e
def BE(N n:Nat)(ops:Array Oper)(l:List Oper)(s:List Fr)(e:Env):Ce:=match Ci N l e with
 | ([],e')=>runN N n s e'
 | (o::l,e')=> .o ops (o::l) s e'
section
variable{id i1 i:Nat}{ops o1:Array Oper}{s1:List Fr}{l:List Oper}{c1:Code}
variable {P:Program} {N:Nat} {Q:jD} {e:Env} {w:aa}
theorem FL:∀ {s:List Fr},(match Dz s with | none=>Q .normal e w | some (y,r)=>Cd P N y (Qk P N Q r) e w)->Qk P N Q s .normal e w
 | [],h=>h
 | .s _::_,h=>h
 | .b _::r,h=>FL (s:=r) h
theorem I4{id:Nat}:∀ {s:List Fr},(match DA id s with | none=>Q (.exit id) e w | some r=>Qk P N Q r .normal e w)->Qk P N Q s (.exit id) e w
 | [],h=>h
 | .s _::r,h=>I4 (s:=r) h
 | .b i::r,h=>by
  unfold DA at h;show(if id=i then _ else _);cases hb:Nat.beq id i with
  | true=>rw [aB (oE hb)];rw [hb]at h;exact h
  | false=>
   rw [az (fun e=>by rw [e,Nat.beq_refl]at hb;cases hb)];rw [hb]at h;exact I4 (s:=r) h
theorem eW:∀ {s:List Fr},Q .ret e w->Qk P N Q s .ret e w
 | [],h=>h
 | .s _::r,h=>eW (s:=r) h
 | .b _::r,h=>eW (s:=r) h
theorem Cd.ait{Q:jD}(h:ao P N ops (fun e w=>Q .normal e w) ops.toList e w):Cd P N (.region id ops false) Q e w:=by
 have:=Cd.region (P:=P) (N:=N) (Q:=Q) (id:=id) (l:=ops.toList) (e:=e) (w:=w) (by rw [Array.toArray_toList];exact h)
 rwa [Array.toArray_toList]at this
theorem ry:∀ {n:Nat} {c:Code} {s:List Fr} {e:Env},(run N n c s e).ok P N Q w->Cd P N c (Qk P N Q s) e w
 | 0,_,_,_,h=>h
 | n+1,c,s,e,h=>by
  unfold run at h
  split at h
  ·exact .seq (ry h)
  ·exact .block (ry h)
  ·split at h
   ·exact h
   ·refine .ait (JO ?_)
    split at h
    ·rename_i he;rw [he];refine ao.n (FL ?_)
     split at h
     ·exact h
     ·exact ry h
    ·rename_i he;rw [he];exact h
  ·refine .skip (FL ?_)
   split at h
   ·exact h
   ·exact ry h
  ·exact .ret (eW h)
  ·refine .exit (I4 ?_)
   split at h
   ·exact h
   ·refine FL ?_
    split at h
    ·exact h
    ·exact ry h
  ·exact h
theorem BC{n:Nat}{s:List Fr}{e:Env}(h:(runN N n s e).ok P N Q w):Qk P N Q s .normal e w:=by
 unfold runN at h;refine FL ?_
 split at h
 ·exact h
 exact ry h
theorem Ji{n:Nat}{s:List Fr}{e:Env}(h:(DI N n id s e).ok P N Q w):Qk P N Q s (.exit id) e w:=by
 unfold DI at h;refine I4 ?_
 split at h
 ·exact h
 exact BC h
theorem FR{n:Nat}{s:List Fr}{e:Env}(h:(BE N n ops l s e).ok P N Q w):ao P N ops (fun e w=>Qk P N Q s .normal e w) l e w:=by
 unfold BE at h;refine JO ?_
 split at h
 ·rename_i he;rw [he];exact ao.n (BC h)
 rename_i he;rw [he];exact h
theorem Cc{s:List Fr}{F:List (Nat×ad)}(hM:Mt e F)(h:Qk P N Q s .normal (ext e F) w):Qk P N Q s .normal e w:=by rwa [yu hM]at h
theorem dw{c:Code}{s:List Fr}{e1:Env}(h:run N 1000 c s e= .c c1 s1 e1)(k:Cd P N c1 (Qk P N Q s1) e1 w):Cd P N c (Qk P N Q s) e w:=ry (n:=1000) (by rw [h];exact k)
theorem aA{c:Code}{s:List Fr}{l1:List Oper}{e1:Env}(h:run N 1000 c s e= .o o1 l1 s1 e1)(k:ao P N o1 (fun e w=>Qk P N Q s1 .normal e w) l1 e1 w):Cd P N c (Qk P N Q s) e w:=ry (n:=1000) (by rw [h];exact k)
theorem nS{c:Code}{s:List Fr}{e1:Env}(h:run N 1000 c s e= .n e1)(k:Q .normal e1 w):Cd P N c (Qk P N Q s) e w:=ry (n:=1000) (by rw [h];exact k)
theorem dX{c:Code}{s:List Fr}{e1:Env}(h:run N 1000 c s e= .r e1)(k:Q .ret e1 w):Cd P N c (Qk P N Q s) e w:=ry (n:=1000) (by rw [h];exact k)
theorem bn{c:Code}{s:List Fr}{e1:Env}(h:run N 1000 c s e= .x i1 e1)(k:Q (.exit i1) e1 w):Cd P N c (Qk P N Q s) e w:=ry (n:=1000) (by rw [h];exact k)
theorem WN(n:Nat){c:Code}{s:List Fr}{e1:Env}(h:run N n c s e= .c c1 s1 e1)(k:Cd P N c1 (Qk P N Q s1) e1 w):Cd P N c (Qk P N Q s) e w:=ry (n:=n) (by rw [h];exact k)
theorem bJ{c:Code}{e1:Env}(h:run N 1000 c [] e= .c c1 s1 e1)(k:Cd P N c1 (Qk P N Q s1) e1 w):Cd P N c Q e w:=ry (s:=[]) (n:=1000) (by rw [h];exact k)
theorem bg{c:Code}{l1:List Oper}{e1:Env}(h:run N 1000 c [] e= .o o1 l1 s1 e1)(k:ao P N o1 (fun e w=>Qk P N Q s1 .normal e w) l1 e1 w):Cd P N c Q e w:=ry (s:=[]) (n:=1000) (by rw [h];exact k)
theorem Gg{c:Code}{e1:Env}(h:run N 1000 c [] e= .r e1)(k:Q .ret e1 w):Cd P N c Q e w:=ry (s:=[]) (n:=1000) (by rw [h];exact k)
theorem aC{s:List Fr}{e1:Env}(h:BE N 1000 ops l s e= .c c1 s1 e1)(k:Cd P N c1 (Qk P N Q s1) e1 w):ao P N ops (fun e w=>Qk P N Q s .normal e w) l e w:=FR (n:=1000) (by rw [h];exact k)
theorem ar{s:List Fr}{l1:List Oper}{e1:Env}(h:BE N 1000 ops l s e= .o o1 l1 s1 e1)(k:ao P N o1 (fun e w=>Qk P N Q s1 .normal e w) l1 e1 w):ao P N ops (fun e w=>Qk P N Q s .normal e w) l e w:=FR (n:=1000) (by rw [h];exact k)
theorem aT{s:List Fr}{e1:Env}(h:BE N 1000 ops l s e= .n e1)(k:Q .normal e1 w):ao P N ops (fun e w=>Qk P N Q s .normal e w) l e w:=FR (n:=1000) (by rw [h];exact k)
theorem bI{s:List Fr}{e1:Env}(h:BE N 1000 ops l s e= .r e1)(k:Q .ret e1 w):ao P N ops (fun e w=>Qk P N Q s .normal e w) l e w:=FR (n:=1000) (by rw [h];exact k)
theorem DY(n:Nat){s:List Fr}{e1:Env}(h:BE N n ops l s e= .c c1 s1 e1)(k:Cd P N c1 (Qk P N Q s1) e1 w):ao P N ops (fun e w=>Qk P N Q s .normal e w) l e w:=FR (n:=n) (by rw [h];exact k)
theorem eP{s:List Fr}{e1:Env}(h:runN N 1000 s e= .c c1 s1 e1)(k:Cd P N c1 (Qk P N Q s1) e1 w):Qk P N Q s .normal e w:=BC (n:=1000) (by rw [h];exact k)
theorem jW{s:List Fr}{l1:List Oper}{e1:Env}(h:runN N 1000 s e= .o o1 l1 s1 e1)(k:ao P N o1 (fun e w=>Qk P N Q s1 .normal e w) l1 e1 w):Qk P N Q s .normal e w:=BC (n:=1000) (by rw [h];exact k)
theorem WO{s:List Fr}{e1:Env}(h:runN N 1000 s e= .n e1)(k:Q .normal e1 w):Qk P N Q s .normal e w:=BC (n:=1000) (by rw [h];exact k)
theorem BO{s:List Fr}{e1:Env}(h:runN N 1000 s e= .r e1)(k:Q .ret e1 w):Qk P N Q s .normal e w:=BC (n:=1000) (by rw [h];exact k)
theorem OP(n:Nat){s:List Fr}{e1:Env}(h:runN N n s e= .c c1 s1 e1)(k:Cd P N c1 (Qk P N Q s1) e1 w):Qk P N Q s .normal e w:=BC (n:=n) (by rw [h];exact k)
theorem rI{s:List Fr}{e1:Env}(h:DI N 1000 i s e= .c c1 s1 e1)(k:Cd P N c1 (Qk P N Q s1) e1 w):Qk P N Q s (.exit i) e w:=Ji (n:=1000) (by rw [h];exact k)
theorem cL{s:List Fr}{l1:List Oper}{e1:Env}(h:DI N 1000 i s e= .o o1 l1 s1 e1)(k:ao P N o1 (fun e w=>Qk P N Q s1 .normal e w) l1 e1 w):Qk P N Q s (.exit i) e w:=Ji (n:=1000) (by rw [h];exact k)
theorem BP{s:List Fr}{e1:Env}(h:DI N 1000 i s e= .n e1)(k:Q .normal e1 w):Qk P N Q s (.exit i) e w:=Ji (n:=1000) (by rw [h];exact k)
theorem gq{s:List Fr}{e1:Env}(h:DI N 1000 i s e= .r e1)(k:Q .ret e1 w):Qk P N Q s (.exit i) e w:=Ji (n:=1000) (by rw [h];exact k)
end
def XF:Prop:=False
structure Below(B:Nat)(w w':aa):Prop extends Go.RowKit.Below B w w' where
 drawn:XF->w.drawn<=w'.drawn
theorem Below.refl(B:Nat)(w:aa):Below B w w:=⟨Go.RowKit.Below.refl B w,fun _=>bs _⟩
theorem Below.trans{B:Nat}{a b c:aa}(h:Below B a b)(k:Below B b c):Below B a c:=⟨h.toBelow.trans k.toBelow,fun s=>nU (h.drawn s) (k.drawn s)⟩
theorem Below.mono{B B':Nat}{w w':aa}(h:Below B w w')(hB:B'<=B):Below B' w w':=⟨h.toBelow.mono hB,h.drawn⟩
theorem Below.drew{B:Nat}{a w:aa}(h:Below B a w):Below B a w.drew:=⟨h.toBelow.drew,fun s=>Nat.le_succ_of_le (h.drawn s)⟩
theorem Below.alloc{B:Nat}{a w:aa}(h:Below B a w)(hB:B<=w.heap.size)(o:Obj):Below B a (w.alloc o):=⟨h.toBelow.alloc hB o,h.drawn⟩
structure BQ(w w':aa)(row:Option Nat):Prop where
 g:w.grownBy w' row
 drawn:w.drawn<=w'.drawn
theorem Below.grown{B:Nat}{a w w':aa}{row:Option Nat}(h:Below B a w)(hg:BQ w w' row)(hB:B<=w.heap.size)(hr:∀k,row=some k->B<=k):Below B a w':=⟨h.toBelow.grown hg.g hB hr,fun s=>nU (h.drawn s) hg.drawn⟩
def ay(A:aj)(k:Nat):aj:=A.map (·.add k)
def Rd(w:aa)(A:aj)(n:Nat)(f:Nat->ad):Prop:=∀k,k<n->∃p,ay A k=some p/\w.cell? p=some (f k)
structure Ck where
 A:aj
 n:Nat
 c:Nat
 e:ae
 vs:List ad
def Ck.gS(k:Ck):Option Nat:=k.A.map (·.block)
def rZ:List (ad×ad)->List ad
 | []=> []
 | p::r=>p.1::p.2::rZ r
theorem QR:∀ {a b:List (ad×ad)},rZ a=rZ b->a=b
 | [],[],_=>rfl
 | [],_::_,h=>by simp [rZ]at h
 | _::_,[],h=>by simp [rZ]at h
 | (x,y)::a,(x',y')::b,h=>by
  simp only [rZ,List.cons.injEq]at h;rw [h.1,h.2.1,QR h.2.2]
def eK:List ad->Bool
 | .tuple _::_=>true
 | _=>false
theorem IE{v:ad}{r:List ad}(h:v.oneCell'=true):eK (v::r)=false:=by
 cases v<;>simp_all [eK,Value.oneCell']
theorem xN{l:List ad}(h:∀v∈l,v.oneCell'=true):eK l=false:=by
 cases l with
 | nil=>rfl
 | cons v r=>exact IE (h v (by simp))
theorem MX{a b:List ad}(ha:eK a=false)(hb:eK b=false):eK (a++b)=false:=by
 cases a with
 | nil=>exact hb
 | cons v r=>cases v<;>simp_all [eK]
theorem Bl{a b:List ad}(ha:eK a=false)(h:a≠[]):eK (a++b)=false:=by
 cases a with
 | nil=>exact absurd rfl h
 | cons v r=>cases v<;>simp_all [eK]
theorem TU{a:List ad}(m:Nat)(ha:eK a=false):eK (a.take m)=false:=by
 cases a with
 | nil=>simp [eK]
 | cons v r=>
  cases m with
  | zero=>rfl
  | succ m=>cases v<;>simp_all [eK]
theorem aeA{a:List ad}(j:Nat){u:ad}(ha:eK a=false)(hu:u.oneCell'=true):eK (a.set j u)=false:=by
 cases a with
 | nil=>rfl
 | cons v r=>
  cases j with
  | zero=>exact IE hu
  | succ m=>cases v<;>simp_all [eK]
theorem aez{z:ad}(n:Nat)(hz:z.oneCell'=true):eK (List.replicate n z)=false:=xN fun v hv=>by rw [(List.mem_replicate.1 hv).2];exact hz
def B9(B:Nat)(w:aa)(k:Ck):Prop:=
 k.vs.length=k.n/\k.n<=k.c/\k.c<=maxLen/\
 ((k.A=none/\k.c=0)\/∃g o cur,k.A=some ⟨g,o,none⟩/\B<=g/\w.heap[g]?=some (.cells cur k.e (0,0))/\o+k.c<=cur.size/\∀j,j<k.n->cur[o+j]?=k.vs[j]?)
def uC(es:Array MapEntry)(cl:Nat):Prop:=(∀x∈es.toList,x.born<cl)/\(es.toList.map (·.born)).Nodup
def r6:List MapEntry->List ad
 | []=> []
 | x::r=>x.key::x.val:: .int .i64 (x.born:Int)::r6 r
def WY:Obj->List ad->Prop
 | .map es cl,vs=>uC es cl/\(vs= .tuple #[]::rZ (es.toList.map fun e=> (e.key,e.val))\/vs= .tuple #[.int .i64 (cl:Int)]::r6 es.toList)
 | .mapIter m since seen c0,vs=>c0=since/\∃bm,m=some bm/\vs= .tuple #[.map (some bm),.int .i64 (since:Int)]::seen.toList.map fun b:Nat=> .int .i64 (b:Int)
 | _,_=>False
def JH(B:Nat)(w:aa)(k:Ck):Prop:=
 k.n=0/\k.c=0/\∃g o,k.A=some ⟨g,0,none⟩/\B<=g/\w.heap[g]?=some o/\WY o k.vs
def Own(B:Nat)(w:aa)(k:Ck):Prop:=if eK k.vs=true then JH B w k else B9 B w k
theorem Own.qo{B:Nat}{w:aa}{k:Ck}(hm:eK k.vs=false)(h:B9 B w k):Own B w k:=by unfold Own;rw [if_neg (by simp [hm])];exact h
theorem Own.On{B:Nat}{w:aa}{k:Ck}(hm:eK k.vs=false)(h:Own B w k):B9 B w k:=by unfold Own at h;rwa [if_neg (by simp [hm])]at h
theorem Own.cases{B:Nat}{w:aa}{k:Ck}(h:Own B w k):(eK k.vs=true/\JH B w k)\/(eK k.vs=false/\B9 B w k):=by
 unfold Own at h
 split at h
 ·rename_i hm;exact .inl ⟨hm,h⟩
 rename_i hm;exact .inr ⟨by simpa using hm,h⟩
theorem Own.ofM{B:Nat}{w:aa}{k:Ck}(hm:eK k.vs=true)(h:JH B w k):Own B w k:=by unfold Own;rw [if_pos hm];exact h
structure St(w0 w:aa)(ks:List Ck):Prop where
 below:Below w0.heap.size w0 w
 own:∀k∈ks,Own w0.heap.size w k
 apart:(ks.filterMap Ck.gS).Nodup
theorem zQ{g o:Nat}(k:Nat):(⟨g,o,none⟩:Addr).add k=⟨g,o+k,none⟩:=by unfold Addr.add;split<;>simp_all
section
variable{B' i j:Nat}{o0:List Ck}
variable {w0 w w':aa} {ks:List Ck} {k:Ck} {B:Nat}
theorem Own.rd(h:Own B w k):Rd w k.A k.n (fun j=>k.vs.getD j undef):=by
 rcases h.cases with⟨_,hn,_⟩ | ⟨_,h1,h2,h3,h4⟩
 ·intro j hj;omega
 intro j hj;rcases h4 with⟨_,h0⟩ | ⟨g,o,cur,hA,hg,hh,hs,hc⟩
 ·omega
 refine⟨⟨g,o+j,none⟩,by simp [ay,hA,zQ],?_⟩;simp only [World.cell?,hh];rw [hc j hj];simp [da,fZ (show j<k.vs.length by omega)]
theorem Own.mono(h:Own B w k)(hB:B'<=B):Own B' w k:=by
 rcases h.cases with⟨hm,hn,hc,g,o,hA,hg,r⟩ | ⟨hm,h1,h2,h3,h4⟩
 ·exact .ofM hm ⟨hn,hc,g,o,hA,by omega,r⟩
 refine .qo hm ⟨h1,h2,h3,?_⟩;rcases h4 with h0 | ⟨g,o,cur,hA,hg,r⟩
 ·exact .inl h0
 exact .inr ⟨g,o,cur,hA,by omega,r⟩
theorem Own.keep(h:Own B w k)(hb:∀g,k.gS=some g->w'.heap[g]?=w.heap[g]?):Own B w' k:=by
 rcases h.cases with⟨hm,hn,hc,g,o,hA,hg,hh,r⟩ | ⟨hm,h1,h2,h3,h4⟩
 ·exact .ofM hm ⟨hn,hc,g,o,hA,hg,by rw [hb g (by simp [Ck.gS,hA])];exact hh,r⟩
 refine .qo hm ⟨h1,h2,h3,?_⟩;rcases h4 with h0 | ⟨g,o,cur,hA,hg,hh,r⟩
 ·exact .inl h0
 exact .inr ⟨g,o,cur,hA,hg,by rw [hb g (by simp [Ck.gS,hA])];exact hh,r⟩
theorem Own.lt(h:Own B w k){g:Nat}(hg:k.gS=some g):B<=g/\g<w.heap.size:=by
 rcases h.cases with⟨hm,hn,hc,g',o,hA,nB,hh,r⟩ | ⟨hm,h1,h2,h3,h4⟩
 ·simp [Ck.gS,hA]at hg;subst hg;exact⟨nB,(Array.getElem?_eq_some_iff.1 hh).1⟩
 rcases h4 with⟨h0,_⟩ | ⟨g',o,cur,hA,nB,hh,r⟩
 ·simp [Ck.gS,h0]at hg
 simp [Ck.gS,hA]at hg;subst hg;exact⟨nB,(Array.getElem?_eq_some_iff.1 hh).1⟩
theorem Own.cap(h:Own B w k):k.n<=k.c/\k.c<=maxLen:=by
 rcases h.cases with⟨_,hn,hc,_⟩ | ⟨_,_,h2,h3,_⟩
 ·exact⟨by omega,by rw [hc];exact aZ _⟩
 exact⟨h2,h3⟩
theorem St.refl(w:aa):St w w []:=⟨Below.refl _ _,(fun _ h=>by cases h),List.nodup_nil⟩
theorem St.get(h:St w0 w ks)(hk:ks[i]?=some k):Own w0.heap.size w k:=h.own k (List.mem_of_getElem? hk)
theorem St.pU(h:St w0 w ks)(hk:ks[i]?=some k)(hm:eK k.vs=false):B9 w0.heap.size w k:=(h.get hk).On hm
theorem St.rd(h:St w0 w ks)(i:Nat)(hk:ks[i]?=some k):Rd w k.A k.n (fun j=>k.vs.getD j undef):=(h.get hk).rd
theorem Rd.lt{A:aj}{n:Nat}{f:Nat->ad}(h:Rd w A n f)(hj:j<n):∃p,ay A j=some p/\p.block<w.heap.size/\w.cell? p=some (f j):=by
 obtain⟨p,hp,hc⟩:=h j hj;exact⟨p,hp,World.block_lt_of_cell? _ _ hc,hc⟩
theorem Rd.below{A:aj}{n:Nat}{f:Nat->ad}(h:Rd w A n f)(hb:Below w.heap.size w w'):Rd w' A n f:=fun j hj=>by
 obtain⟨p,hp,hl,hc⟩:=h.lt hj;exact⟨p,hp,(hb.cell hl).trans hc⟩
theorem St.re(h:St w0 w ks){A:aj}{n:Nat}{f:Nat->ad}(hR:Rd w0 A n f):Rd w A n f:=hR.below h.below
theorem Rd.congr{A:aj}{n:Nat}{f g:Nat->ad}(h:Rd w A n f)(hf:∀j,j<n->f j=g j):Rd w A n g:=fun j hj=>by
 obtain⟨p,hp,hc⟩:=h j hj;exact⟨p,hp,by rw [hc,hf j hj]⟩
theorem St.aq(h:St w0 w ks)(hb:Below w.heap.size w w'):St w0 w' ks:=
 ⟨h.below.trans (hb.mono h.below.size),fun k hk=> (h.own k hk).keep fun g hg=>hb.block g ((h.own k hk).lt hg).2,h.apart⟩
theorem St.drew(h:St w0 w ks):St w0 w.drew ks:=h.aq (Below.drew (Below.refl _ _))
theorem St.call(h:St w0 w ks)(h':St w w' o0):St w0 w' (o0++ks):=by
 have h1:=h.aq h'.below;refine⟨h1.below,fun k hk=>?_,?_⟩
 ·rcases kj.1 hk with hk | hk
  ·exact(h'.own k hk).mono h.below.size
  exact h1.own k hk
 rw [List.filterMap_append,List.nodup_append];refine⟨h'.apart,h.apart,fun a ha b hb=>?_⟩;obtain⟨k,hk,L3⟩:=List.mem_filterMap.1 ha;obtain⟨k',eQ,pz⟩:=List.mem_filterMap.1 hb;have l1:=((h'.own k hk).lt L3).1;have l2:=((h.own k' eQ).lt pz).2;omega
theorem St.call2(h:St w0 w ks)(h':St w w' o0):St w0 w' (ks++o0):=by
 have h1:=h.call h';exact⟨h1.below,fun k hk=>h1.own k ((nT (l₁:=o0) (l₂:=ks)).mem_iff.2 hk),((nT (l₁:=o0) (l₂:=ks)).filterMap _).nodup_iff.1 h1.apart⟩
theorem St.sub(h:St w0 w ks)(hs:o0.Sublist ks):St w0 w o0:=
 ⟨h.below,fun k hk=>h.own k (hs.subset hk),h.apart.sublist (hs.filterMap _)⟩
theorem St.perm(h:St w0 w ks)(hs:ks.Perm o0):St w0 w o0:=
 ⟨h.below,fun k hk=>h.own k (hs.mem_iff.2 hk),(hs.filterMap _).nodup_iff.1 h.apart⟩
theorem St.tail(h:St w0 w (k::ks)):St w0 w ks:=h.sub (List.sublist_cons_self _ _)
theorem St.none(h:St w0 w ks):St w0 w []:=h.sub (List.nil_sublist _)
theorem St.nil(h:St w0 w ks)(e:ae):St w0 w (⟨Option.none,0,0,e,[]⟩::ks):=
 ⟨h.below,fun k hk=>by
  rcases iP.1 hk with rfl | hk
  ·exact .qo O ⟨O,bs _,aZ _,.inl ⟨O,O⟩⟩
  exact h.own k hk,h.apart⟩
theorem St.alloc(h:St w0 w ks)(cs:List ad)(e:ae)(hm:cs.length<=maxLen)(hM:eK cs=false):St w0 (w.alloc (.cells cs.toArray e)) (⟨some ⟨w.heap.size,0,Option.none⟩,cs.length,cs.length,e,cs⟩::ks):=by
 have hb:Below w.heap.size w (w.alloc (.cells cs.toArray e)):=(Below.refl _ _).alloc (bs _) _;have h1:=h.aq hb;refine⟨h1.below,fun k hk=>?_,?_⟩
 ·rcases iP.1 hk with rfl | hk
  ·exact .qo hM ⟨O,bs _,hm,.inr ⟨_,0,cs.toArray,O,h.below.size,heap_alloc_new w _,by simp,fun j hj=>by simp⟩⟩
  exact h1.own k hk
 simp only [List.filterMap_cons,Ck.gS,Option.map_some,lU];refine⟨fun du=>?_,h.apart⟩;obtain⟨k',eQ,pz⟩:=List.mem_filterMap.1 du;have:=((h.own k' eQ).lt pz).2;omega
theorem G7{α β:Type}(f:α->Option β):∀(l:List α) (i:Nat) (a b:α),l[i]?=some a->f b=f a->(l.set i b).filterMap f=l.filterMap f
 | [],_,_,_,h,_=>by simp at h
 | x::l,0,a,b,h,he=>by
  simp at h;subst h;simp [List.filterMap_cons,he]
 | x::l,i+1,a,b,h,he=>by
  simp only [List.getElem?_cons_succ]at h;simp only [List.set_cons_succ,List.filterMap_cons,G7 f l i a b h he]
theorem St.turn{g:Nat}{k':Ck}(h:St w0 w ks)(hk:ks[i]?=some k)(tm:k.gS=some g)(abX:k'.gS=some g)(hw:BQ w w' (some g))(ho:Own w0.heap.size w' k'):St w0 w' (ks.set i k'):=by
 have fW:=(h.get hk).lt tm;refine⟨h.below.grown hw h.below.size (fun x hx=>by cases hx;exact fW.1),fun x hx=>?_,?_⟩
 ·obtain⟨j,hj,rfl⟩:=gF.1 hx;have gX:j<ks.length:=by simpa using hj
  rw [List.getElem_set]
  split
  ·exact ho
  ·rename_i bU;have hm:ks[j]∈ks:=dQ _;refine(h.own _ hm).keep fun g' nB=>hw.g.block g' ((h.own _ hm).lt nB).2 fun e=>?_
   injection e with e
   subst e;have di:i<ks.length:=(gm.1 hk).1;have fE:ks[i]=k:=(gm.1 hk).2;exact absurd (show False from by
    have hn:=h.apart;have key:∀(l:List Ck),(l.filterMap Ck.gS).Nodup->∀i j (hi:i<l.length) (hj:j<l.length),i≠j->l[i].gS=some g'->l[j].gS=some g'->False:=by
     intro l
     induction l with
     | nil=>intro _ i j hi;simp at hi
     | cons a l ih=>
      intro hn i j hi hj bU h1 h2;cases i with
      | zero=>
       cases j with
       | zero=>exact bU rfl
       | succ j=>
        simp only [List.getElem_cons_zero]at h1;simp only [List.getElem_cons_succ]at h2;rw [List.filterMap_cons,h1]at hn;simp only [lU]at hn;exact hn.1 (List.mem_filterMap.2 ⟨_,dQ _,h2⟩)
      | succ i=>
       cases j with
       | zero=>
        simp only [List.getElem_cons_zero]at h2;simp only [List.getElem_cons_succ]at h1;rw [List.filterMap_cons,h2]at hn;simp only [lU]at hn;exact hn.1 (List.mem_filterMap.2 ⟨_,dQ _,h1⟩)
       | succ j=>
        have AP:(l.filterMap Ck.gS).Nodup:=by
         rw [List.filterMap_cons]at hn
         split at hn
         ·exact hn
         ·exact(lU.1 hn).2
        exact ih AP i j (by simpa using hi) (by simpa using hj) (by omega) (by simpa using h1) (by simpa using h2)
    exact key ks hn i j di gX bU (by rw [fE];exact tm) nB) id
 ·rw [G7 Ck.gS ks i k k' hk (by rw [tm,abX])];exact h.apart
theorem St.store(h:St w0 w ks)(i:Nat)(hk:ks[i]?=some k)(hj:j<k.n)(u:ad)(hu:u.oneCell'=true):
 ∃p,ay k.A j=some p/\(∃v,w.cell? p=some v)/\w.frozen? p=false/\St w0 (w.setCell p u) (ks.set i { k with vs:=k.vs.set j u }):=by
 rcases(h.get hk).cases with⟨_,oo,_⟩ | ⟨hM,h1,h2,h3,h4⟩
 ·omega
 rcases h4 with⟨_,h0⟩ | ⟨g,o,cur,hA,hg,hh,hs,hc⟩
 ·omega
 refine⟨⟨g,o+j,Option.none⟩,by simp [ay,hA,zQ],?_,?_,?_⟩
 ·have:o+j<cur.size:=by omega
  exact⟨cur[o+j],by simp [World.cell?,hh,rG this]⟩
 ·simp [World.frozen?,hh]
 have tm:k.gS=some g:=by simp [Ck.gS,hA]
 have fW:=(Array.getElem?_eq_some_iff.1 hh).1;refine h.turn (k':= { k with vs:=k.vs.set j u }) hk tm tm ⟨⟨O,O,O,by simp,fun x _ hx=>heap_setCell_other w ⟨g,o+j,Option.none⟩ x u (fun e=>hx (by simp [e]))⟩,bs _⟩ ?_;refine .qo (aeA j hM hu) ⟨by simpa using h1,h2,h3,.inr ⟨g,o,cur.setIfInBounds (o+j) u,hA,hg,heap_setCell_same w g (o+j) cur k.e u hh,by simpa using hs,fun m hm=>?_⟩⟩;have iU:m<k.n:=hm;rw [tM];show _=(k.vs.set j u)[m]?;rw [mI]
 by_cases e:j=m
 ·subst e;rw [aB rfl,aB rfl,aB (by omega),aB (by omega)]
 rw [az (by omega),az e];exact hc m iU
end
structure aO where
 a:aj
 n:Nat
 c:Nat
def aO.v(s:aO):ad:= .slice s.a s.n s.c
def dO:aO:=⟨none,0,0⟩
def gi(xs:ai)(i:Int):Int:=xs.getD i.toNat 0
def gb(xs:List Bool)(i:Int):Bool:=xs.getD i.toNat false
def rg(xs:List aO)(i:Int):aO:=xs.getD i.toNat dO
def cg(w:aa)(A:aj)(n:Nat)(xs:ai):Prop:=xs.length=n/\Rd w A n (fun j=>ak (xs.getD j 0))
def uR(w:aa)(A:aj)(n:Nat)(xs:List Bool):Prop:=xs.length=n/\Rd w A n (fun j=> .bool (xs.getD j false))
def ml(w:aa)(A:aj)(n:Nat)(xs:List aO):Prop:=xs.length=n/\Rd w A n (fun j=> (xs.getD j dO).v)
abbrev ax(t:ae)(A:aj)(n c:Nat)(xs:ai):Ck:=⟨A,n,c,t,xs.map (ak)⟩
abbrev gw(t:ae)(A:aj)(n c:Nat)(xs:List Bool):Ck:=⟨A,n,c,t,xs.map .bool⟩
abbrev bZ(t:ae)(A:aj)(n c:Nat)(xs:List aO):Ck:=⟨A,n,c,t,xs.map aO.v⟩
theorem uA(xs:ai):eK (xs.map (Value.int .i64))=false:=xN fun v hv=>by obtain⟨_,_,rfl⟩:=dA.1 hv;rfl
theorem Fv(xs:List Bool):eK (xs.map Value.bool)=false:=xN fun v hv=>by obtain⟨_,_,rfl⟩:=dA.1 hv;rfl
theorem xM(xs:List aO):eK (xs.map aO.v)=false:=xN fun v hv=>by obtain⟨_,_,rfl⟩:=dA.1 hv;rfl
section
variable{xs:ai}
variable {w0 w w':aa} {ks:List Ck} {t:ae} {A:aj} {n c:Nat}
theorem St.bz(h:St w0 w ks)(i:Nat)(hk:ks[i]?=some (ax t A n c xs)):cg w A n xs:=by
 have hl:xs.length=n:=by have:=(h.pU hk (uA xs)).1;simpa using this
 exact⟨hl,(h.rd i hk).congr fun j hj=>by have gX:j<n:=hj;simp [da,fZ (show j<xs.length by omega)]⟩
theorem St.ji{xs:List Bool}(h:St w0 w ks)(i:Nat)(hk:ks[i]?=some (gw t A n c xs)):uR w A n xs:=by
 have hl:xs.length=n:=by have:=(h.pU hk (Fv xs)).1;simpa using this
 exact⟨hl,(h.rd i hk).congr fun j hj=>by have gX:j<n:=hj;simp [da,fZ (show j<xs.length by omega)]⟩
theorem St.fG{xs:List aO}(h:St w0 w ks)(i:Nat)(hk:ks[i]?=some (bZ t A n c xs)):ml w A n xs:=by
 have hl:xs.length=n:=by have:=(h.pU hk (xM xs)).1;simpa using this
 exact⟨hl,(h.rd i hk).congr fun j hj=>by have gX:j<n:=hj;simp [da,fZ (show j<xs.length by omega)]⟩
theorem St.gh(h:St w0 w ks)(hR:cg w0 A n xs):cg w A n xs:=⟨hR.1,h.re hR.2⟩
theorem St.NJ{xs:List aO}(h:St w0 w ks)(hR:ml w0 A n xs):ml w A n xs:=⟨hR.1,h.re hR.2⟩
theorem St.cap{k:Ck}(h:St w0 w ks)(i:Nat)(hk:ks[i]?=some k):k.n<=k.c/\k.c<=maxLen:=(h.get hk).cap
theorem St.zl(h:St w0 w ks)(i:Nat)(hk:ks[i]?=some (ax t A n c xs)):xs.length=n:=(h.bz i hk).1
theorem cg.aq(h:cg w A n xs)(hb:Below w.heap.size w w'):cg w' A n xs:=⟨h.1,h.2.below hb⟩
theorem uR.aq{xs:List Bool}(h:uR w A n xs)(hb:Below w.heap.size w w'):uR w' A n xs:=⟨h.1,h.2.below hb⟩
theorem ml.aq{xs:List aO}(h:ml w A n xs)(hb:Below w.heap.size w w'):ml w' A n xs:=⟨h.1,h.2.below hb⟩
theorem cg.nil:cg w none 0 []:=⟨rfl,fun k hk=>by omega⟩
end
section
variable{t te:ae}{z u v0 v1 z0:ad}{b j c1 m ft off sz o l h c':Nat}{x ix x0 x1 di y:ag}{A1 A':aj}{k k':IntKind}{i:Int}{xs:ai}
variable {P:Program} {N:Nat} {ops:Array Oper} {K:Env->aa->Prop} {rest:List Oper} {e:Env} {w0 w w':aa} {ks:List Ck} {d:Nat} {ty:ae} {pos:String} {af:Array Edge}
theorem amn{el:ae}[bt P t (.slice el)][bq P el z 1 b]{A:aj}{n c:Nat}{f:Nat->ad}(hR:Rd w A n f)(hx:ev e x= .slice A n c)(hy:ev e ix= .int k i)(hb:Nat.blt d N=true)(h0:0<=i)(h1:i< (n:Int))(hK:ao P N ops K rest (br e d (.pointer (ay A i.toNat))) w):
 ao P N ops K (⟨some d,.indexAddr t x ix,ty,pos,af,none⟩::rest) e w:=by
 obtain⟨p,hp,_⟩:=hR i.toNat (by omega);obtain⟨q,rfl⟩:∃q,A=some q:=by cases A with | none=>simp [ay]at hp | some q=>exact⟨q,rfl⟩
 obtain⟨inf,hi,_,hs,_⟩:=bq.get P el;refine .val (w':=w) ?_ hb hK;simp [execOp,Instr.indexAt,hx,hy,asIntOf,run_underlying (bt.out (P:=P) (t:=t)),h0,h1,sizeOf,typeInfo,hi,hs,ay]
theorem aD{el:ae}[bt P t (.slice el)][bq P el z 1 b]{A:aj}{n c:Nat}{f:Nat->ad}(hR:Rd w A n f)(q9:(ev e x,ev e ix,Nat.blt d N)=(.slice A n c,.int k i,true))(hK:ao P N ops K rest (br e d (.pointer (ay A i.toNat))) w)(h0:0<=i:=by omega)(h1:i< (n:Int):=by omega):ao P N ops K (⟨some d,.indexAddr t x ix,ty,pos,af,none⟩::rest) e w:=amn hR (congrArg (fun p=>p.1) q9) (congrArg (fun p=>p.2.1) q9) (congrArg (fun p=>p.2.2) q9) h0 h1 hK
def zr:TypeDesc->Bool
 | .struct _=>false
 | .array _ _=>false
 | _=>true
theorem aiQ{u:TypeDesc}(hu:P.underlying t=some u)(hp:zr u=true):(isAgg t).run P w= .ok false w:=by
 cases u<;>simp [zr]at hp<;>simp [isAgg,run_underlying hu]
theorem ao.ld{u:TypeDesc}[bt P t u]{A:aj}{n:Nat}{f:Nat->ad}{v:ad}(hR:Rd w A n f)(hx:ev e x= .pointer (ay A j))(hj:j<n)(hv:f j=v)(hp:zr u=true)(hb:Nat.blt d N=true)(hK:ao P N ops K rest (br e d v) w):ao P N ops K (⟨some d,.load t x,ty,pos,af,none⟩::rest) e w:=by
 obtain⟨p,kM,hc⟩:=hR j hj;subst hv;refine .val (w':=w) ?_ hb hK;simp [execOp,Instr.loadAt,hx,kM,Instr.sureAddr,loadVar,aiQ (bt.out (P:=P) (t:=t)) hp,hc]
theorem amo{u:TypeDesc}[bt P t u]{A:aj}{n:Nat}(hR:cg w A n xs)(hx:ev e x= .pointer (ay A i.toNat))(hj:i.toNat<n)(hp:zr u=true)(hb:Nat.blt d N=true)(hK:ao P N ops K rest (br e d (ak (gi xs i))) w):ao P N ops K (⟨some d,.load t x,ty,pos,af,none⟩::rest) e w:= .ld hR.2 hx hj rfl hp hb hK
theorem a8{u:TypeDesc}[bt P t u]{A:aj}{n:Nat}(hR:cg w A n xs)(q9:(ev e x,zr u,Nat.blt d N)=(.pointer (ay A i.toNat),true,true))(hK:ao P N ops K rest (br e d (ak (gi xs i))) w)(hj:i.toNat<n:=by omega):ao P N ops K (⟨some d,.load t x,ty,pos,af,none⟩::rest) e w:=amo hR (congrArg (fun p=>p.1) q9) hj (congrArg (fun p=>p.2.1) q9) (congrArg (fun p=>p.2.2) q9) hK
theorem rP{u:TypeDesc}[bt P t u]{A:aj}{n:Nat}{xs:List Bool}(hR:uR w A n xs)(hx:ev e x= .pointer (ay A i.toNat))(hj:i.toNat<n)(hp:zr u=true)(hb:Nat.blt d N=true)(hK:ao P N ops K rest (br e d (.bool (gb xs i))) w):ao P N ops K (⟨some d,.load t x,ty,pos,af,none⟩::rest) e w:= .ld hR.2 hx hj rfl hp hb hK
theorem amt{u:TypeDesc}[bt P t u]{A:aj}{n:Nat}{xs:List aO}(hR:ml w A n xs)(hx:ev e x= .pointer (ay A i.toNat))(hj:i.toNat<n)(hp:zr u=true)(hb:Nat.blt d N=true)(hK:ao P N ops K rest (br e d (.slice (rg xs i).a (rg xs i).n (rg xs i).c)) w):ao P N ops K (⟨some d,.load t x,ty,pos,af,none⟩::rest) e w:= .ld hR.2 hx hj rfl hp hb hK
theorem bW{u:TypeDesc}[bt P t u]{A:aj}{n:Nat}{xs:List aO}(hR:ml w A n xs)(q9:(ev e x,zr u,Nat.blt d N)=(.pointer (ay A i.toNat),true,true))(hK:ao P N ops K rest (br e d (.slice (rg xs i).a (rg xs i).n (rg xs i).c)) w)(hj:i.toNat<n:=by omega):ao P N ops K (⟨some d,.load t x,ty,pos,af,none⟩::rest) e w:=amt hR (congrArg (fun p=>p.1) q9) hj (congrArg (fun p=>p.2.1) q9) (congrArg (fun p=>p.2.2) q9) hK
theorem ao.st[bq P t z 1 b]{a:ag}{i:Nat}{k:Ck}(hS:St w0 w ks)(hk:ks[i]?=some k)(ha:ev e a= .pointer (ay k.A j))(hx:ev e x=u)(h1:u.oneCell'=true)(hj:j<k.n)(hK:∀w',St w0 w' (ks.set i { k with vs:=k.vs.set j u })->ao P N ops K rest e w'):ao P N ops K (⟨none,.store t a x,ty,pos,af,none⟩::rest) e w:=by
 obtain⟨p,hp,⟨v,hc⟩,hf,km⟩:=hS.store i hk hj u h1;obtain⟨inf,hi,_,hs,_⟩:=bq.get P t;refine .unit (w':=w.setCell p u) ?_ (hK _ km);have acd:u.cells= #[u]:=by cases u<;>simp [Value.oneCell']at h1<;>rfl
 simp [execOp,Instr.storeAt,ha,hx,hp,Instr.sureAddr,storeVar,sizeOf,typeInfo,hi,hs,acd,storeCells,run_store _ _ _ _ _ h1,hc,hf,Addr.add]
theorem lC[bq P t z 1 b]{a:ag}(m:Nat){A:aj}{n c:Nat}{u:Int}(hS:St w0 w ks)(hk:ks[m]?=some (ax te A n c xs))(ha:ev e a= .pointer (ay A i.toNat))(hx:ev e x=ak u)(hj:i.toNat<n)(hK:∀w',St w0 w' (ks.set m (ax te A n c (xs.set i.toNat u)))->ao P N ops K rest e w'):ao P N ops K (⟨none,.store t a x,ty,pos,af,none⟩::rest) e w:=
 .st hS hk ha hx rfl hj fun w' h=>hK w' (by simpa [ax,List.map_set]using h)
theorem tT[bq P t z 1 b]{a:ag}(m:Nat){A:aj}{n c:Nat}{xs:List Bool}{u:Bool}(hS:St w0 w ks)(hk:ks[m]?=some (gw te A n c xs))(ha:ev e a= .pointer (ay A i.toNat))(hx:ev e x= .bool u)(hj:i.toNat<n)(hK:∀w',St w0 w' (ks.set m (gw te A n c (xs.set i.toNat u)))->ao P N ops K rest e w'):ao P N ops K (⟨none,.store t a x,ty,pos,af,none⟩::rest) e w:=
 .st hS hk ha hx rfl hj fun w' h=>hK w' (by simpa [gw,List.map_set]using h)
theorem D7[bq P t z 1 b]{a:ag}(m:Nat){A:aj}{n c:Nat}{xs:List aO}{n1:Nat}(hS:St w0 w ks)(hk:ks[m]?=some (bZ te A n c xs))(ha:ev e a= .pointer (ay A i.toNat))(hx:ev e x= .slice A1 n1 c1)(hj:i.toNat<n)(hK:∀w',St w0 w' (ks.set m (bZ te A n c (xs.set i.toNat ⟨A1,n1,c1⟩)))->ao P N ops K rest e w'):ao P N ops K (⟨none,.store t a x,ty,pos,af,none⟩::rest) e w:=
 .st hS hk ha hx rfl hj fun w' h=>hK w' (by simpa [bZ,List.map_set,aO.v]using h)
theorem Nq(z:ad)(n:Nat):(madeCells #[z] n)=(List.replicate n z).toArray:=by
 rw [<-toList_madeCells_one z n]
theorem ao.mk{el:ae}[bt P t (.slice el)][bq P el z 1 b](n:Nat)(hS:St w0 w ks)(hx:ev e x= .int k (n:Int))(hz:z.cells= #[z])(h1z:z.oneCell'=true)(hb:Nat.blt d N=true)(hn:b*n<=281474976710656/\n<=9223372036854775807)(hK:∀A w',St w0 w' (⟨A,n,n,el,List.replicate n z⟩::ks)->ao P N ops K rest (br e d (.slice A n n)) w'):ao P N ops K (⟨some d,.makeSlice t x x,ty,pos,af,none⟩::rest) e w:=by
 obtain⟨inf,hi,dU,hs,gI⟩:=bq.get P el;have hr:=run_make_row (P:=P) t el inf z (bt.out (P:=P) (t:=t)) hi dU hs hz k k n (by rw [gI];exact hn.1) hn.2 w;have hA:=hS.alloc (List.replicate n z) el (by simp [maxLen];omega) (aez n h1z);rw [Nq]at hr;refine .val (w':=w.alloc (.cells (List.replicate n z).toArray el)) ?_ hb (hK _ _ (by simpa using hA));simp only [execOp,hx,Sem.run_bind,hr,Result.andThen_ok,Sem.run_pure]
theorem yj{el:ae}{v:Bool}[bt P t (.slice el)][bq P el (.bool v) 1 b](n:Nat)(hS:St w0 w ks)(hx:ev e x= .int k (n:Int))(hb:Nat.blt d N=true)(hn:b*n<=281474976710656/\n<=9223372036854775807)(hK:∀A w',St w0 w' (gw el A n n (List.replicate n v)::ks)->ao P N ops K rest (br e d (.slice A n n)) w'):ao P N ops K (⟨some d,.makeSlice t x x,ty,pos,af,none⟩::rest) e w:=
 .mk n hS hx rfl rfl hb hn fun A w' h=>hK A w' (by unfold gw;rw [List.map_replicate];exact h)
theorem wP{el:ae}{v:Int}[bt P t (.slice el)][bq P el (ak v) 1 b](n:Nat)(hS:St w0 w ks)(hx:ev e x= .int k (n:Int))(hb:Nat.blt d N=true)(hn:b*n<=281474976710656/\n<=9223372036854775807)(hK:∀A w',St w0 w' (ax el A n n (List.replicate n v)::ks)->ao P N ops K rest (br e d (.slice A n n)) w'):ao P N ops K (⟨some d,.makeSlice t x x,ty,pos,af,none⟩::rest) e w:=
 .mk n hS hx rfl rfl hb hn fun A w' h=>hK A w' (by unfold ax;rw [List.map_replicate];exact h)
theorem JG{el:ae}[bt P t (.slice el)][bq P el (.slice none 0 0) 1 b](n:Nat)(hS:St w0 w ks)(hx:ev e x= .int k (n:Int))(hb:Nat.blt d N=true)(hn:b*n<=281474976710656/\n<=9223372036854775807)(hK:∀A w',St w0 w' (bZ el A n n (List.replicate n dO)::ks)->ao P N ops K rest (br e d (.slice A n n)) w'):ao P N ops K (⟨some d,.makeSlice t x x,ty,pos,af,none⟩::rest) e w:=
 .mk n hS hx rfl rfl hb hn fun A w' h=>hK A w' (by unfold bZ;rw [List.map_replicate];exact h)
theorem Cn(f:Nat->ad)(n:Nat):(Array.range n).map f=((List.range n).map f).toArray:=by apply Array.ext';simp
theorem jn{el:ae}[bt P t (.slice el)][bq P el z 1 b](hS:St w0 w ks)(hb:Nat.blt d N=true)(hK:∀A w',St w0 w' (⟨A,0,0,el,[]⟩::ks)->ao P N ops K rest (br e d (.slice A 0 0)) w'):ao P N ops K (⟨some d,.buildSlice t 0 #[],ty,pos,af,none⟩::rest) e w:=by
 obtain⟨inf,hi,dU,hs,gI⟩:=bq.get P el;refine .val (w':=w.alloc (.cells #[] el)) ?_ hb (hK _ _ (hS.alloc [] el (by simp) O));simp [execOp,Instr.buildSlice,run_underlying (bt.out (P:=P) (t:=t)),sizeOf,typeInfo,hi,hs,Instr.fill,newRow,Cn]
theorem ao.J5{el:ae}[bt P t (.slice el)][bq P el z 1 b](hS:St w0 w ks)(h0:ev e x0=v0)(c0:v0.oneCell'=true)(hz:z.cells= #[z])(hb:Nat.blt d N=true)(hK:∀A w',St w0 w' (⟨A,1,1,el,[v0]⟩::ks)->ao P N ops K rest (br e d (.slice A 1 1)) w'):ao P N ops K (⟨some d,.buildSlice t 1 #[(0,x0)],ty,pos,af,none⟩::rest) e w:=by
 obtain⟨inf,hi,dU,hs,gI⟩:=bq.get P el;have e0:v0.cells= #[v0]:=by cases v0<;>simp [Value.oneCell']at c0<;>rfl
 refine .val (w':=w.alloc (.cells #[v0] el)) ?_ hb (hK _ _ (hS.alloc [v0] el (by simp [maxLen]) (IE c0)));simp [execOp,Instr.buildSlice,run_underlying (bt.out (P:=P) (t:=t)),sizeOf,typeInfo,zeroValue,hi,hs,dU,hz,Instr.fill,newRow,h0,e0,Cn,jB]
theorem BW{el:ae}[bt P t (.slice el)][bq P el z 1 b](hS:St w0 w ks)(h0:ev e x0=v0)(h1:ev e x1=v1)(c0:v0.oneCell'=true)(c1:v1.oneCell'=true)(hz:z.cells= #[z])(hb:Nat.blt d N=true)(hK:∀A w',St w0 w' (⟨A,2,2,el,[v0,v1]⟩::ks)->ao P N ops K rest (br e d (.slice A 2 2)) w'):ao P N ops K (⟨some d,.buildSlice t 2 #[(0,x0),(1,x1)],ty,pos,af,none⟩::rest) e w:=by
 obtain⟨inf,hi,dU,hs,gI⟩:=bq.get P el;have e0:v0.cells= #[v0]:=by cases v0<;>simp [Value.oneCell']at c0<;>rfl
 have e1:v1.cells= #[v1]:=by cases v1<;>simp [Value.oneCell']at c1<;>rfl
 refine .val (w':=w.alloc (.cells #[v0,v1] el)) ?_ hb (hK _ _ (hS.alloc [v0,v1] el (by simp [maxLen]) (IE c0)));simp [execOp,Instr.buildSlice,run_underlying (bt.out (P:=P) (t:=t)),sizeOf,typeInfo,zeroValue,hi,hs,dU,hz,Instr.fill,newRow,h0,e0,h1,e1,Cn,jB]
theorem ao.box{el:ae}{v:ad}(hS:St w0 w ks)(hx:ev e x=v)(hb:Nat.blt d N=true)(hm:v.cells.size<=maxLen)(hK:∀A w',St w0 w' (⟨A,v.cells.size,v.cells.size,el,v.cells.toList⟩::ks)->ao P N ops K rest (br e d (.pointer A)) w')(hM:eK v.cells.toList=false:=by rfl):ao P N ops K (⟨some d,.box el x,ty,pos,af,none⟩::rest) e w:=by
 have hA:=hS.alloc v.cells.toList el (by simpa using hm) hM;refine .val (w':=w.alloc (.cells v.cells el)) ?_ hb (hK _ _ (by simpa using hA));simp [execOp,Instr.box,newVar,newRow,hx]
theorem ao.J4{el:ae}{cs:Array ad}(hS:St w0 w ks)(hx:ev e x= .agg cs)(hb:Nat.blt d N=true)(hm:Nat.ble cs.size 100=true)(hK:∀A w',St w0 w' (⟨A,cs.size,cs.size,el,cs.toList⟩::ks)->ao P N ops K rest (br e d (.pointer A)) w')(hM:eK cs.toList=false:=by rfl):ao P N ops K (⟨some d,.box el x,ty,pos,af,none⟩::rest) e w:=
 .box hS hx hb (by show cs.size<=maxLen;have:=Nat.le_of_ble_eq_true hm;simp only [maxLen];omega) hK hM
theorem ao.new{el:ae}{s:Nat}[bq P el z s b](hS:St w0 w ks)(hb:Nat.blt d N=true)(iU:Nat.ble z.cells.size 100=true)(hK:∀A w',St w0 w' (⟨A,z.cells.size,z.cells.size,el,z.cells.toList⟩::ks)->ao P N ops K rest (br e d (.pointer A)) w')(hM:eK z.cells.toList=false:=by rfl):ao P N ops K (⟨some d,.alloc el,ty,pos,af,none⟩::rest) e w:=by
 obtain⟨inf,hi,dU,hs,gI⟩:=bq.get P el;have hm:z.cells.size<=maxLen:=by have:=Nat.le_of_ble_eq_true iU;simp only [maxLen];omega
 have hA:=hS.alloc z.cells.toList el (by simpa using hm) hM;refine .val (w':=w.alloc (.cells z.cells el)) ?_ hb (hK _ _ (by simpa using hA));simp [execOp,Instr.alloc,zeroValue,typeInfo,hi,dU,newVar,newRow]
theorem wR{A:aj}{n:Nat}{f:Nat->ad}(hR:Rd w A n f)(hn:0<n)(hx:ev e x= .pointer A)(hb:Nat.blt d N=true)(hK:ao P N ops K rest (br e d (.pointer A)) w):
 ao P N ops K (⟨some d,.nilCheck x,ty,pos,af,none⟩::rest) e w:=by
 obtain⟨p,hp,_⟩:=hR 0 hn;obtain⟨q,rfl⟩:∃q,A=some q:=by cases A with | none=>simp [ay]at hp | some q=>exact⟨q,rfl⟩
 exact .ag3 hx hb hK
def Ej:List Field->Nat->Option (ae×Nat)
 | f::_,0=>some (f.type,f.offset)
 | _::r,m+1=>Ej r m
 | [],_=>none
theorem QM:∀ {l:List Field} {m:Nat} {ft off:Nat},Ej l m=some (ft,off)->∃fd,l[m]?=some fd/\fd.type=ft/\fd.offset=off
 | [],_,_,_,h=>by simp [Ej]at h
 | f::_,0,_,_,h=>by simp [Ej]at h;exact⟨f,rfl,h.1,h.2⟩
 | _::r,m+1,_,_,h=>by simpa using QM (l:=r) (m:=m) h
theorem amu{s:ae}{fs:Array Field}[bt P s (.struct fs)]{A:aj}{n:Nat}{f:Nat->ad}(hR:Rd w A n f)(hx:ev e x= .pointer A)(hf:Ej fs.toList m=some (ft,off))(hn:Nat.blt 0 n=true)(hb:Nat.blt d N=true)(hI:bq P ft z (sz+1) b)(hK:ao P N ops K rest (br e d (.pointer (ay A off))) w):ao P N ops K (⟨some d,.fieldAddr s x m,ty,pos,af,none⟩::rest) e w:=by
 obtain⟨p,hp,_⟩:=hR 0 (by simpa [Nat.blt_eq]using hn);obtain⟨q,rfl⟩:∃q,A=some q:=by cases A with | none=>simp [ay]at hp | some q=>exact⟨q,rfl⟩
 obtain⟨fd,jg,rfl,rfl⟩:=QM hf;have oP:fs[m]?=some fd:=by simpa using jg
 obtain⟨inf,hi,dU,hs,gI⟩:=bq.get P fd.type;refine .val (w':=w) ?_ hb hK;simp [execOp,Instr.fieldAt,run_underlying (bt.out (P:=P) (t:=s)),oP,hx,Instr.sureAddr,fieldPlace,sizeOf,typeInfo,hi,hs,ay]
theorem aU{s:ae}{fs:Array Field}[bt P s (.struct fs)]{A:aj}{n:Nat}{f:Nat->ad}(hR:Rd w A n f)(q9:(ev e x,Ej fs.toList m,Nat.blt 0 n,Nat.blt d N)=(.pointer A,some (ft,off),true,true))[hI:bq P ft z (sz+1) b](hK:ao P N ops K rest (br e d (.pointer (ay A off))) w):ao P N ops K (⟨some d,.fieldAddr s x m,ty,pos,af,none⟩::rest) e w:=amu hR (congrArg (fun p=>p.1) q9) (congrArg (fun p=>p.2.1) q9) (congrArg (fun p=>p.2.2.1) q9) (congrArg (fun p=>p.2.2.2) q9) hI hK
theorem ao.dq{fs:Array Field}(m:Nat)[bt P t (.struct fs)][bq P t z (m+1) b]{A:aj}{f:Nat->ad}{cs:Array ad}(hR:Rd w A (m+1) f)(hx:ev e x= .pointer A)(ue:((List.range (m+1)).map f).toArray=cs)(hb:Nat.blt d N=true)(hK:ao P N ops K rest (br e d (.agg cs)) w):ao P N ops K (⟨some d,.load t x,ty,pos,af,none⟩::rest) e w:=by
 obtain⟨p,hp,_⟩:=hR 0 (by omega);obtain⟨q,rfl⟩:∃q,A=some q:=by cases A with | none=>simp [ay]at hp | some q=>exact⟨q,rfl⟩
 obtain⟨inf,hi,dU,hs,gI⟩:=bq.get P t;have hl:=run_loadCells (P:=P) w q (m+1) f (fun j hj=>by
  obtain⟨p,hp,hc⟩:=hR j hj;simp [ay]at hp;rw [hp];exact hc)
 subst ue;refine .val (w':=w) ?_ hb hK;simp [execOp,Instr.loadAt,hx,Instr.sureAddr,loadVar,isAgg,run_underlying (bt.out (P:=P) (t:=t)),sizeOf,typeInfo,hi,hs,hl]
theorem jh(A:aj):ay A 0=A:=by cases A<;>simp [ay,Addr.add]
theorem NR(A:aj)(i j:Nat):ay (ay A i) j=ay A (i+j):=by
 cases A with
 | none=>rfl
 | some q=>simp only [ay,Option.map_some];unfold Addr.add;by_cases h1:i=0<;>by_cases h2:j=0<;>simp [h1,h2,Nat.add_assoc]
theorem Rd.behind{A:aj}{n:Nat}{f:Nat->ad}(hR:Rd w A n f)(h:o+m<=n):Rd w (ay A o) m (fun j=>f (o+j)):=fun j hj=>by
 obtain⟨p,hp,hc⟩:=hR (o+j) (by omega);exact⟨p,by rw [NR];exact hp,hc⟩
abbrev Bx(t:ae)(n:Nat)(A:aj)(vs:List ad):Ck:=⟨A,n,n,t,vs⟩
theorem lB{el:ae}(hS:St w0 w ks)(hx:ev e x= .agg #[v0])(hb:Nat.blt d N=true)(hK:∀A w',St w0 w' (Bx el 1 A [v0]::ks)->ao P N ops K rest (br e d (.pointer A)) w')(hM:eK [v0]=false:=by rfl):ao P N ops K (⟨some d,.box el x,ty,pos,af,none⟩::rest) e w:= .J4 hS hx hb rfl hK hM
theorem gH{el:ae}{s:Nat}[bq P el (.agg #[v0]) s b](hS:St w0 w ks)(hb:Nat.blt d N=true)(hK:∀A w',St w0 w' (Bx el 1 A [v0]::ks)->ao P N ops K rest (br e d (.pointer A)) w')(hM:eK [v0]=false:=by rfl):ao P N ops K (⟨some d,.alloc el,ty,pos,af,none⟩::rest) e w:= .new (el:=el) (z:= .agg #[v0]) (s:=s) (b:=b) hS hb rfl hK hM
theorem Xp{el:ae}{s:Nat}[bq P el (.agg #[v0,v1]) s b](hS:St w0 w ks)(hb:Nat.blt d N=true)(hK:∀A w',St w0 w' (Bx el 2 A [v0,v1]::ks)->ao P N ops K rest (br e d (.pointer A)) w')(hM:eK [v0,v1]=false:=by rfl):ao P N ops K (⟨some d,.alloc el,ty,pos,af,none⟩::rest) e w:= .new (el:=el) (z:= .agg #[v0,v1]) (s:=s) (b:=b) hS hb rfl hK hM
theorem amv{u:TypeDesc}[bt P t u]{A:aj}{n n1:Nat}{f:Nat->ad}(hR:Rd w A n f)(hx:ev e x= .pointer (ay A j))(hj:Nat.blt j n=true)(hv:f j= .slice A1 n1 c1)(hp:zr u=true)(hb:Nat.blt d N=true)(hK:ao P N ops K rest (br e d (.slice A1 n1 c1)) w):ao P N ops K (⟨some d,.load t x,ty,pos,af,none⟩::rest) e w:= .ld hR hx (by simpa [Nat.blt_eq]using hj) hv hp hb hK
theorem bh{u:TypeDesc}[bt P t u]{A:aj}{n n1:Nat}{f:Nat->ad}(hR:Rd w A n f)(q9:(ev e x,Nat.blt j n,f j,zr u,Nat.blt d N)=(.pointer (ay A j),true,.slice A1 n1 c1,true,true))(hK:ao P N ops K rest (br e d (.slice A1 n1 c1)) w):ao P N ops K (⟨some d,.load t x,ty,pos,af,none⟩::rest) e w:=amv hR (congrArg (fun p=>p.1) q9) (congrArg (fun p=>p.2.1) q9) (congrArg (fun p=>p.2.2.1) q9) (congrArg (fun p=>p.2.2.2.1) q9) (congrArg (fun p=>p.2.2.2.2) q9) hK
theorem iy{u:TypeDesc}[bt P t u]{A:aj}{n:Nat}{f:Nat->ad}(hR:Rd w A n f)(hx:ev e x= .pointer (ay A j))(hj:Nat.blt j n=true)(hv:f j= .int k i)(hp:zr u=true)(hb:Nat.blt d N=true)(hK:ao P N ops K rest (br e d (.int k i)) w):ao P N ops K (⟨some d,.load t x,ty,pos,af,none⟩::rest) e w:= .ld hR hx (by simpa [Nat.blt_eq]using hj) hv hp hb hK
def sN(vs:List ad)(o:Nat):List ad->List ad
 | []=>vs
 | c::r=>sN (vs.set o c) (o+1) r
theorem VN{k:Ck}(i:Nat):∀(cs:List ad) (ks:List Ck) (vs:List ad) (w:aa) (o:Nat) (p:Addr),St w0 w ks->ks[i]?=some { k with vs:=vs }->ay k.A o=some p->o+cs.length<=k.n->(∀u∈cs,u.oneCell'=true)->∀m q,ay k.A m=some q->o=m+ (o - m)->
 m<=o->∃w',(storeCells q cs (o - m)).run P w= .ok () w'/\St w0 w' (ks.set i { k with vs:=sN vs o cs })
 | [],ks,vs,w,o,p,hS,hk,_,_,_,m,q,_,_,_=> ⟨w,by simp [storeCells],by
  have:ks.set i { k with vs:=sN vs o [] }=ks:=by
   apply List.ext_getElem?;intro j;rw [mI]
   split
   ·rename_i e;subst e;rw [hk,aB (gm.1 hk).1];rfl
   ·rfl
  rw [this];exact hS⟩
 | c::r,ks,vs,w,o,p,hS,hk,hp,hl,h1,m,q,hq,ho,hm=>by
  simp only [List.length_cons]at hl;obtain⟨p',kM,⟨v,hc⟩,hf,km⟩:=hS.store i hk (j:=o) (by show o<k.n;omega) c (h1 c (by simp));have Tg:q.add (o - m)=p':=by
   have:ay (ay k.A m) (o - m)=some p':=by rw [NR,<-ho];exact kM
   rw [hq]at this;simpa [ay]using this
  have fW:=(gm.1 hk).1
  by_cases hr:r=[]
  ·subst hr;refine⟨_,?_,km⟩;simp [storeCells,Tg,run_store _ _ _ _ _ (h1 c (by simp)),hc,hf]
  ·have cI:0<r.length:=by cases r with | nil=>exact absurd rfl hr | cons _ _=>simp
   obtain⟨p2,jr⟩:∃p2,ay k.A (o+1)=some p2:=by
    obtain⟨x,hx,_⟩:=(hS.rd i hk) (o+1) (by show o+1<k.n;omega);exact⟨x,hx⟩
   obtain⟨w2,mS,aE⟩:=VN i r _ (vs.set o c) _ (o+1) p2 km (by rw [mI];simp [fW]) jr (by omega) (fun u hu=>h1 u (by simp [hu])) m q hq (by omega) (by omega);refine⟨w2,?_,by simpa [sN]using aE⟩;have e1:o+1 - m=o - m+1:=by omega
   rw [e1]at mS;simp [storeCells,Tg,run_store _ _ _ _ _ (h1 c (by simp)),hc,hf,mS]
theorem ao.V2(m:Nat)[bq P t z m b]{a:ag}(i:Nat){k:Ck}{cs:Array ad}(hS:St w0 w ks)(hk:ks[i]?=some k)(ha:ev e a= .pointer (ay k.A o))(hx:ev e x= .agg cs)(ue:cs.size=m)(uZ:cs.toList.all Value.oneCell'=true)(sB:Nat.blt 0 m=true)(Dc:Nat.ble (o+m) k.n=true)(hK:∀w',St w0 w' (ks.set i { k with vs:=sN k.vs o cs.toList })->ao P N ops K rest e w'):ao P N ops K (⟨none,.store t a x,ty,pos,af,none⟩::rest) e w:=by
 have hn:0<m/\o+m<=k.n:=⟨by simpa [Nat.blt_eq]using sB,Nat.le_of_ble_eq_true Dc⟩;have h1:∀u∈cs.toList,u.oneCell'=true:=fun u hu=>List.all_eq_true.1 uZ u hu
 obtain⟨p,hp,_⟩:=(hS.rd i hk) o (by omega);obtain⟨w',mS,km⟩:=VN (P:=P) (k:=k) i cs.toList ks k.vs w o p hS hk hp (by simp;omega) h1 o p hp (by omega) (by omega);obtain⟨inf,hi,_,hs,_⟩:=bq.get P t;refine .unit (w':=w') ?_ (hK _ km);rw [Nat.sub_self]at mS;simp [execOp,Instr.storeAt,ha,hx,hp,Instr.sureAddr,storeVar,sizeOf,typeInfo,hi,hs,Value.cells,ue,mS]
theorem bO(m:Nat)[bq P t z m b]{a:ag}(i:Nat){k:Ck}{cs:Array ad}(hS:St w0 w ks)(hk:ks[i]?=some k)(ha:ev e a= .pointer k.A)(hx:ev e x= .agg cs)(ue:cs.size=m)(h1:cs.toList.all Value.oneCell'=true)(sB:Nat.blt 0 m=true)(Dc:Nat.ble (0+m) k.n=true)(hK:∀w',St w0 w' (ks.set i { k with vs:=sN k.vs 0 cs.toList })->ao P N ops K rest e w'):ao P N ops K (⟨none,.store t a x,ty,pos,af,none⟩::rest) e w:=
 .V2 m i hS hk (by rw [jh];exact ha) hx ue h1 sB Dc hK
theorem kF[bq P t z 1 b]{a:ag}(i:Nat){k:Ck}(hS:St w0 w ks)(hk:ks[i]?=some k)(ha:ev e a= .pointer (ay k.A j))(hx:ev e x=u)(h1:u.oneCell'=true)(hj:Nat.blt j k.n=true)(hK:∀w',St w0 w' (ks.set i { k with vs:=k.vs.set j u })->ao P N ops K rest e w'):ao P N ops K (⟨none,.store t a x,ty,pos,af,none⟩::rest) e w:= .st hS hk ha hx h1 (by simpa [Nat.blt_eq]using hj) hK
def VC(a n:Nat)(R:ad->aa->Prop):jD
 | .normal,e,w=>∃A f,e a= .pointer A/\Rd w A n f/\R (.agg ((List.range n).map f).toArray) w
 | .ret,e,w=>∃A f,e a= .pointer A/\Rd w A n f/\R (.agg ((List.range n).map f).toArray) w
 | _,_,_=>False
theorem ij{a n:Nat}{R:ad->aa->Prop}{A:aj}{f:Nat->ad}(h:e a= .pointer A)(hR:Rd w A n f)(h2:R (.agg ((List.range n).map f).toArray) w):VC a n R .ret e w:=⟨A,f,h,hR,h2⟩
theorem VM{fs:Array Field}{n:Nat}[bt P t (.struct fs)][bq P t z n b]{A:aj}{f:Nat->ad}(hn:0<n)(hR:Rd w A n f):∃q,A=some q/\(loadVar t q).run P w= .ok (.agg ((List.range n).map f).toArray) w:=by
 obtain⟨p,hp,_⟩:=hR 0 hn;obtain⟨q,rfl⟩:∃q,A=some q:=by cases A with | none=>simp [ay]at hp | some q=>exact⟨q,rfl⟩
 obtain⟨inf,hi,dU,hs,gI⟩:=bq.get P t;have hl:=run_loadCells (P:=P) w q n f (fun j hj=>by
  obtain⟨p,hp,hc⟩:=hR j hj;simp [ay]at hp;rw [hp];exact hc)
 exact⟨q,O,by simp [loadVar,isAgg,run_underlying (bt.out (P:=P) (t:=t)),sizeOf,typeInfo,hi,hs,hl]⟩
theorem qp{fn:Func}{R:ad->aa->Prop}{a t n:Nat}{fs:Array Field}[bt P t (.struct fs)][bq P t z n b](hr:fn.results= #[.cell a t])(AP:Nat.blt 0 n=true):∀x a1 e w,jL N a1 e->VC a n R x e w->bodyPost P fn (fun x w'=>∃v,x= .returned v/\R v w') x a1 w:=by
 intro x a1 e w he q;have hn:0<n:=by simpa [Nat.blt_eq]using AP
 have hg:=he.get a;have key:∀(A:aj) (f:Nat->ad),e a= .pointer A->Rd w A n f->(results fn a1.tmps).run P w= .ok (.agg ((List.range n).map f).toArray) w:=by
  intro A f hA hR;obtain⟨q,rfl,hl⟩:=VM (P:=P) (t:=t) hn hR;rw [iZ]at hg;simp [results,hr,hg,hA,asAddr,hl]
 cases x<;>first
  | exact q.elim
  | (
   obtain⟨A,f,hA,hR,h2⟩:=q;exact⟨he.defers,_,key A f hA hR,_,O,h2⟩)
def cutAt(A:aj)(c l:Nat):aj:=if c=l then A else ay A l
theorem Rd.cut{A:aj}{n c:Nat}{f:Nat->ad}(hR:Rd w A n f)(hl:l<=h)(hn:h<=n)(hc:n<=c):Rd w (cutAt A c l) (h - l) (fun j=>f (l+j)):=fun j hj=>by
 obtain⟨p,hp,acb⟩:=hR (l+j) (by omega);refine⟨p,?_,acb⟩;unfold cutAt;rw [az (by omega)];cases A with
 | none=>simp [ay]at hp
 | some q=>
  simp only [ay,Option.map_some,mJ]at hp|-;rw [<-hp];unfold Addr.add
  by_cases vj:l=0<;>by_cases SP:j=0<;>simp [vj,SP,Nat.add_assoc]
theorem cg.cut{A:aj}{n c:Nat}(hR:cg w A n xs)(hl:l<=h)(hn:h<=n)(hc:n<=c):cg w (cutAt A c l) (h - l) ((xs.drop l).take (h - l)):=
 ⟨by have:=hR.1;simp;omega,(hR.2.cut hl hn hc).congr fun j hj=>by simp [da,rK,hj]⟩
theorem ml.cut{A:aj}{n c:Nat}{xs:List aO}(hR:ml w A n xs)(hl:l<=h)(hn:h<=n)(hc:n<=c):ml w (cutAt A c l) (h - l) ((xs.drop l).take (h - l)):=
 ⟨by have:=hR.1;simp;omega,(hR.2.cut hl hn hc).congr fun j hj=>by simp [da,rK,hj]⟩
theorem JE{el:ae}[hU:bt P t (.slice el)][bq P el z 1 b]{lo:ag}{A:aj}{n c:Nat}{l:Int}(hx:ev e x= .slice A n c)(hl:ev e lo= .int k l)(hb:Nat.blt d N=true)(h0:0<=l/\l<=(n:Int))(hK:ao P N ops K rest (br e d (.slice (cutAt A c l.toNat) (n - l.toNat) (c - l.toNat))) w):ao P N ops K (⟨some d,.slice t x (some lo) none none,ty,pos,af,none⟩::rest) e w:=by
 obtain⟨inf,hi,dU,hs,gI⟩:=bq.get P el;refine .val (w':=w) ?_ hb hK;have:=run_sliceBound (P:=P) w k l n .sliceB h0.1 h0.2;simp [execOp,hx,hl,Instr.sliceAt,run_underlying hU.out,Instr.slice,Instr.sliceBounds,this,sizeOf,typeInfo,hi,hs,cutAt,ay]
theorem JD{el:ae}[hU:bt P t (.slice el)][bq P el z 1 b]{A:aj}{n c:Nat}{h:Int}(hx:ev e x= .slice A n c)(hh:ev e di= .int k h)(hb:Nat.blt d N=true)(h0:0<=h/\h<=(c:Int))(hK:ao P N ops K rest (br e d (.slice A h.toNat c)) w):ao P N ops K (⟨some d,.slice t x none (some di) none,ty,pos,af,none⟩::rest) e w:=by
 obtain⟨inf,hi,dU,hs,gI⟩:=bq.get P el;refine .val (w':=w) ?_ hb hK;have:=run_sliceBound (P:=P) w k h c .sliceAcap h0.1 h0.2;have hA:A.map (fun x=>x.add 0)=A:=by cases A<;>simp [Addr.add]
 simp [execOp,hx,hh,Instr.sliceAt,run_underlying hU.out,Instr.slice,Instr.sliceBounds,this,sizeOf,typeInfo,hi,hs,hA]
theorem Xb{el:ae}[hU:bt P t (.slice el)][bq P el z 1 b]{lo:ag}{A:aj}{n c:Nat}{l h:Int}(hx:ev e x= .slice A n c)(hl:ev e lo= .int k l)(hh:ev e di= .int k' h)(hb:Nat.blt d N=true)(h0:0<=l/\l<=h/\h<=(c:Int))(hK:ao P N ops K rest (br e d (.slice (cutAt A c l.toNat) (h.toNat - l.toNat) (c - l.toNat))) w):ao P N ops K (⟨some d,.slice t x (some lo) (some di) none,ty,pos,af,none⟩::rest) e w:=by
 obtain⟨inf,hi,dU,hs,gI⟩:=bq.get P el;refine .val (w':=w) ?_ hb hK;have h1:=run_sliceBound (P:=P) w k' h c .sliceAcap (by omega) h0.2.2;have h2:=run_sliceBound (P:=P) w k l h.toNat .sliceB h0.1 (by omega);simp [execOp,hx,hl,hh,Instr.sliceAt,run_underlying hU.out,Instr.slice,Instr.sliceBounds,h1,h2,sizeOf,typeInfo,hi,hs,cutAt,ay]
theorem aiN{el:ae}[hU:bt P t (.slice el)][bq P el z 1 b](hz:z.cells= #[z0]){k:Ck}(i:Nat)(hS:St w0 w ks)(hk:ks[i]?=some k)(hM:eK k.vs=false)(he:k.e=el){f:Nat->ad}(hR:Rd w A' m f)(h1:∀j,j<m->(f j).oneCell'=true)
 (qK:k.n+m<=maxLen) (oM:(k.n+m)*b<=140737488355328) (ty:ae):
 ∃A2 c2 w',(Builtin.append_ #[t,t] ty #[.slice k.A k.n k.c,.slice A' m c']).run P w= .ok (.slice A2 (k.n+m) c2) w'/\St w0 w' (ks.set i ⟨A2,k.n+m,c2,el,k.vs++ (List.range m).map f⟩)/\(k.n=k.c->Below w.heap.size w w'):=by
 subst he;obtain⟨inf,hi,dU,hs,gI⟩:=bq.get P k.e;have AV:=hS.pU hk hM;have Lj:eK (k.vs++ (List.range m).map f)=false:=MX hM (xN fun u hu=>by
  obtain⟨j,hj,rfl⟩:=dA.1 hu;exact h1 j (by simpa using hj))
 obtain⟨hl,xA,pq,h4⟩:=AV;have xv:=(gm.1 hk).1
 by_cases hm:m=0
 ·subst hm;refine⟨k.A,k.c,w,?_,?_,fun _=>Below.refl _ _⟩
  ·cases A' with
   | none=>cases hkA:k.A<;>simp [Builtin.append_,run_underlying hU.out,sizeOf,typeInfo,hi,Builtin.lenOf,Builtin.firstCells,xA,storeCells]
   | some a=>
    have vj:=run_loadCells (P:=P) w a 0 f (fun j hj=>by omega);cases hkA:k.A<;>simp [Builtin.append_,run_underlying hU.out,sizeOf,typeInfo,hi,Builtin.lenOf,Builtin.firstCells,xA,storeCells,loadCells,loadCellsFrom]
  ·have:ks.set i ⟨k.A,k.n+0,k.c,k.e,k.vs++ (List.range 0).map f⟩=ks:=by
    have h5:(⟨k.A,k.n+0,k.c,k.e,k.vs++ (List.range 0).map f⟩:Ck)=k:=by simp
    rw [h5];apply List.ext_getElem?;intro j;rw [mI]
    split
    ·rename_i e;subst e;rw [hk]
     try simp [xv]
    ·rfl
   rw [this];exact hS
 ·obtain⟨a,rfl⟩:∃a,A'=some a:=by
   obtain⟨p,hp,_⟩:=hR 0 (by omega);cases A' with | none=>simp [ay]at hp | some q=>exact⟨q,rfl⟩
  have gJ:((List.range m).map f).length=m:=by simp
  have tu:∀j v,((List.range m).map f)[j]?=some v->w.cell? (a.add j)=some v:=by
   intro j v hj;have yT:j<m:=by have:=(gm.1 hj).1;simpa using this
   obtain⟨p,hp,hc⟩:=hR j yT;simp only [ay,Option.map_some,mJ]at hp;rw [hp,hc,<-hj];simp [yT]
  have uZ:∀u∈(List.range m).map f,u.oneCell'=true:=by
   intro u hu;obtain⟨j,hj,rfl⟩:=dA.1 hu;exact h1 j (by simpa using hj)
  have fresh:∀(cs:List ad) (c2:Nat),eK cs=false->k.n+m<=c2->c2<=maxLen->cs.length=c2->cs.take (k.n+m)=k.vs++ (List.range m).map f->
   St w0 (w.drew.alloc (.cells cs.toArray k.e)) (ks.set i ⟨some ⟨w.heap.size,0,none⟩,k.n+m,c2,k.e,k.vs++ (List.range m).map f⟩):=by
   intro cs c2 h5m h5 h6 h7 h8;have hA:=hS.drew.alloc cs k.e (by omega) h5m;have hp:(⟨some ⟨w.heap.size,0,none⟩,cs.length,cs.length,k.e,cs⟩::ks).Perm (k::(ks.set i ⟨some ⟨w.heap.size,0,none⟩,cs.length,cs.length,k.e,cs⟩)):=by
    have gen:∀(l:List Ck) (i:Nat) (x y:Ck),l[i]?=some y->(x::l).Perm (y::l.set i x):=by
     intro l
     induction l with
     | nil=>intro i x y h;simp at h
     | cons u l ih=>
      intro i x y h;cases i with
      | zero=>simp at h;subst h;exact List.Perm.swap _ _ _
      | succ i=>
       simp only [List.getElem?_cons_succ]at h;simp only [List.set_cons_succ];exact(List.Perm.swap _ _ _).trans (((ih i x y h).cons u).trans (List.Perm.swap _ _ _))
    exact gen ks i _ _ hk
   have hB:=(hA.perm hp).tail;refine⟨hB.below,fun x hx=>?_,?_⟩
   ·obtain⟨j,hj,rfl⟩:=gF.1 hx;have gX:j<ks.length:=by simpa using hj
    rw [List.getElem_set]
    split
    ·refine .qo Lj ⟨?_,h5,h6,.inr ⟨w.heap.size,0,cs.toArray,O,hS.below.size,heap_alloc_new w.drew _,by simp;omega,fun q hq=>?_⟩⟩
     ·simp [hl]
     ·have Mp:q<k.n+m:=hq;show cs.toArray[0+q]?=(k.vs++ (List.range m).map f)[q]?;rw [<-h8];simp [rK,Mp]
    ·rename_i bU;refine hB.own _ (gF.2 ⟨j,by simpa using gX,?_⟩);rw [List.getElem_set,az bU]
   ·have h9:=hB.apart;rw [show(ks.set i ⟨some ⟨w.heap.size,0,none⟩,k.n+m,c2,k.e,k.vs++ (List.range m).map f⟩).filterMap Ck.gS=(ks.set i ⟨some ⟨w.heap.size,0,none⟩,cs.length,cs.length,k.e,cs⟩).filterMap Ck.gS from ?_]
    ·exact h9
    ·have:=G7 Ck.gS (ks.set i ⟨some ⟨w.heap.size,0,none⟩,cs.length,cs.length,k.e,cs⟩) i ⟨some ⟨w.heap.size,0,none⟩,cs.length,cs.length,k.e,cs⟩ ⟨some ⟨w.heap.size,0,none⟩,k.n+m,c2,k.e,k.vs++ (List.range m).map f⟩ (by rw [mI];simp [xv]) O;rw [<-this];simp
  have Ew:((k.n+m:Nat):Int)<=9223372036854775807:=by simp only [maxLen]at qK;omega
  rcases h4 with⟨hA,h0⟩ | ⟨g,o,cur,hA,hg,hh,lN,hc⟩
  ·have oo:k.n=0:=by omega
   have Fm:k.vs=[]:=qA (by omega);have hr:=run_append_nil (P:=P) w t ty k.e inf z hU.out hi dU a m c' _ (by rw [gJ,hs,Nat.mul_one]) tu (by omega) (by omega) (by rw [gI];rw [oo,Nat.zero_add]at oM;omega);have xu:=grownCap_ge w m 0 k.e;refine⟨_,_,_,?_,fresh (((List.range m).map f)++List.replicate (grownCap w m 0 k.e - m) z0) (grownCap w m 0 k.e) (Bl (xN uZ) (by intro hn;have:=aF List.length hn;simp at this;omega)) (by omega) (grownCap_le_maxLen w m 0 k.e (by omega)) (by simp;omega) (by rw [Fm,oo];simp),fun _=> (Below.refl w.heap.size w).drew.alloc (bs _) _⟩;have MR:Builtin.zeroCells z.cells (grownCap w m 0 k.e - m)=(List.replicate (grownCap w m 0 k.e - m) z0).toArray:=by
    rw [hz];simp only [Builtin.zeroCells];exact(show _=_ from by have:=Nq z0 (grownCap w m 0 k.e - m);simpa [madeCells]using this)
   rw [hA,h0,oo,Nat.zero_add,hr,MR,List.append_toArray]
  ·by_cases Bc:k.n+m<=k.c
   ·have hf:=run_firstCells_some (P:=P) w inf.size m a m c' _ (by rw [gJ,hs,Nat.mul_one]) tu;have aw:=run_storeCells_at P g (o+k.n) k.e ((List.range m).map f) 0 cur w hh (by rw [gJ];omega) uZ;simp only [Nat.add_zero]at aw;refine⟨some ⟨g,o,none⟩,k.c,_,?_,hS.turn (k:=k) (g:=g) hk (by simp [Ck.gS,hA]) (by simp [Ck.gS]) (w':=w.setRow g (cur.toList.take (o+k.n)++ (List.range m).map f++cur.toList.drop (o+k.n+ ((List.range m).map f).length)).toArray) ?_ ?_,fun h=>absurd Bc (by omega)⟩
    ·rw [hA];simp [Builtin.append_,run_underlying hU.out,sizeOf,typeInfo,hi,hs,Builtin.lenOf,Bc,Addr.add_lit];rw [hs]at hf;simp only [fO,qB]at aw|-;simp [hf,aw]
    ·exact⟨⟨O,O,O,by simp,fun x _ hx=>setRow_other w g x _ (fun e=>hx (by rw [e]))⟩,bs _⟩
    ·refine .qo Lj ⟨by simp [hl],Bc,pq,.inr ⟨g,o,_,O,hg,setRow_heap w g cur _ k.e _ hh,?_,fun j hj=>?_⟩⟩
     ·simp;omega
     ·have gX:j<k.n+m:=hj;show((cur.toList.take (o+k.n)++ (List.range m).map f++cur.toList.drop (o+k.n+ ((List.range m).map f).length)).toArray)[o+j]?=(k.vs++ (List.range m).map f)[j]?;have dh:cur.toList.length=cur.size:=by simp
      rw [List.getElem?_toArray]
      by_cases nC:j<k.n
      ·rw [gx,lz (by simp;omega),rK,aB (by omega),lz (by omega)];rw [Array.getElem?_toList];exact hc j nC
      ·rw [gx,kD (by simp;omega),lz (by simp;omega),kD (by omega)]
       congr 1
       simp;omega
   ·have holds:∀j v,k.vs[j]?=some v->w.cell? ((⟨g,o,none⟩:Addr).add j)=some v:=by
     intro j v hj;have nC:j<k.n:=by have:=(gm.1 hj).1;omega
     rw [zQ];simp only [World.cell?,hh];simpa [hc j nC]using hj
    have hr:=run_append_grow (P:=P) w t ty k.e inf z hU.out hi dU ⟨g,o,none⟩ k.n k.c k.vs (by rw [hl,hs,Nat.mul_one]) holds a m c' _ (by rw [gJ,hs,Nat.mul_one]) tu (by omega) Ew (growslice_fits (by omega) (by rw [gI];exact oM));have xu:=grownCap_ge w (k.n+m) k.c k.e;refine⟨_,_,_,?_,fresh (k.vs++ (List.range m).map f++List.replicate (grownCap w (k.n+m) k.c k.e - (k.n+m)) z0) (grownCap w (k.n+m) k.c k.e) (Bl Lj (by intro hn;have:=aF List.length hn;simp at this;omega)) (by omega) (grownCap_le_maxLen w (k.n+m) k.c k.e qK) (by simp [hl];omega) (by rw [vK (by simp [hl])];exact gR (by simp [hl])),fun _=> (Below.refl w.heap.size w).drew.alloc (bs _) _⟩;have MR:Builtin.zeroCells z.cells (grownCap w (k.n+m) k.c k.e - (k.n+m))=(List.replicate (grownCap w (k.n+m) k.c k.e - (k.n+m)) z0).toArray:=by
     rw [hz];simp only [Builtin.zeroCells];exact(show _=_ from by have:=Nq z0 (grownCap w (k.n+m) k.c k.e - (k.n+m));simpa [madeCells]using this)
    rw [hA,hr,MR,List.append_toArray,List.append_toArray]
theorem ao.app{el:ae}[hU:bt P t (.slice el)][bq P el z 1 b]{k:Ck}(i:Nat){f:Nat->ad}(hS:St w0 w ks)(hk:ks[i]?=some k)(hR:Rd w A' m f)(hx:ev e x= .slice k.A k.n k.c)(hy:ev e y= .slice A' m c')(he:k.e=el)(hz:z.cells= #[z0])(h1:∀j,j<m->(f j).oneCell'=true)(qK:k.n+m<=maxLen)(oM:(k.n+m)*b<=140737488355328)(hb:Nat.blt d N=true)(hK:∀A2 c2 w',St w0 w' (ks.set i ⟨A2,k.n+m,c2,el,k.vs++ (List.range m).map f⟩)->ao P N ops K rest (br e d (.slice A2 (k.n+m) c2)) w')(hM:eK k.vs=false:=by first | rfl | exact uA _ | exact Fv _ | exact xM _):
 ao P N ops K (⟨some d,.call ⟨.builtin .append, #[x,y], #[t,t]⟩,ty,pos,af,none⟩::rest) e w:=by
 obtain⟨A2,c2,w',hr,km,_⟩:=aiN (P:=P) (t:=t) hz i hS hk hM he hR h1 qK oM ty (c':=c');refine .val (w':=w') ?_ hb (hK _ _ _ km);simp [execOp,resolve,invoke,builtin,hx,hy,hr]
end
inductive Yd where
 | ex (v:ad)
 | pr (p:ad->aa->Prop)
def Yd.holds:Yd->ad->aa->Prop
 | .ex v,u,_=>u=v
 | .pr p,u,w=>p u w
def Yd.qY:Yd->Prop
 | .ex _=>True
 | .pr p=>∀v w w',p v w->Below w.heap.size w w'->p v w'
theorem Yd.afH(v:ad):(Yd.ex v).qY:=True.intro
theorem lx{v:ad}{l:List Yd}(h:∀y∈l,y.qY):∀y∈Yd.ex v::l,y.qY:=de.2 ⟨True.intro,h⟩
theorem Yd.dp{p:ad->aa->Prop}(h:∀v w w',p v w->Below w.heap.size w w'->p v w'):(Yd.pr p).qY:=h
abbrev xU:Yd:= .ex undef
abbrev xI(i:Int):Yd:= .ex (ak i)
abbrev xB(b:Bool):Yd:= .ex (.bool b)
abbrev xP(a:aj):Yd:= .ex (.pointer a)
abbrev xS(a:aj)(n c:Nat):Yd:= .ex (.slice a n c)
theorem XG{y:Yd}(hl:y.qY){v:ad}{w w':aa}(h:y.holds v w)(hb:Below w.heap.size w w'):y.holds v w':=by
 cases y with
 | ex u=>exact h
 | pr p=>exact hl v w w' h hb
def gK(ds:List Nat)(i:Nat):Bool:=match ds with
 | []=>false
 | d::r=>bif Nat.beq i d then true else gK r i
theorem zn{ds:List Nat}{i:Nat}:gK ds i=true↔i∈ds:=by
 induction ds with
 | nil=>simp [gK]
 | cons d r ih=>
  simp only [gK,iP];cases hb:Nat.beq i d with
  | true=>simp [oE hb]
  | false=>
   have:i≠d:=fun e=>by subst e;simp at hb
   simp [this,ih]
def mix(e1 e:Env)(ds:List Nat):Env:=fun i=>bif gK ds i then e1 i else e i
def fB(o:Oper):List Edge:=o.after.toList.filter (Region.binds .any)
theorem q9{o:Oper}{ed:Edge}:ed∈fB o↔ed∈o.after/\Region.binds .any ed=true:=by
 simp [fB]
def fo(o:Oper):Nat:=match o.dst with
 | some d=>d
 | none=>0
def Qo(N:Nat)(l:List Oper):Bool:=
 l.all (fun o=>match o.dst with | some d=>Nat.blt d N | none=>false) && decide ((l.map fo).Nodup) && (l.zipIdx.all fun p=> (fB p.1).all fun ed=>Nat.blt ed.on p.2)
def uV(l:List Oper)(ys:List Yd):List Edge->List (Nat×ad)
 | []=> []
 | ed::r=>match ys[ed.on]? with
  | some (.ex v)=> (((l[ed.on]?).map fo).getD 0,v)::uV l ys r
  | _=>uV l ys r
def vX:List Oper->List Yd->(Nat->ad)->Nat->List (Nat×ad)
 | o::l,.ex v::ys,u,i=> (fo o,v)::vX l ys u (i+1)
 | o::l,.pr _::ys,u,i=> (fo o,u i)::vX l ys u (i+1)
 | _,_,_,_=> []
def jE(l:List Oper):Nat->Nat->Nat->Bool
 | 0,_,_=>false
 | f+1,k,j=>match l[k]? with
  | some o=> (fB o).any fun ed=>Nat.beq ed.on j || jE l f ed.on j
  | none=>false
theorem yn{l:List Oper}{listed:Array Bool}(dh:∀(i:Nat) (o:Oper),listed.getD i false=true->l[i]?=some o->∀ed∈fB o,listed.getD ed.on false=true):∀(f k j:Nat),jE l f k j=true->listed.getD k false=true->listed.getD j false=true
 | 0,k,j,h,_=>by simp [jE]at h
 | f+1,k,j,h,hk=>by
  simp only [jE]at h
  split at h
  ·rename_i o ho;rw [List.any_eq_true]at h;obtain⟨ed,fV,h⟩:=h;have h1:=dh k o hk ho ed fV;rw [Bool.or_eq_true]at h;rcases h with h | h
   ·rw [<-oE h];exact h1
   ·exact yn dh f ed.on j h h1
  ·cases h
theorem JS{l:List Oper}{listed:Array Bool}(dh:∀(i:Nat) (o:Oper),listed.getD i false=true->l[i]?=some o->∀ed∈fB o,listed.getD ed.on false=true){k:Nat}{o:Oper}(ho:l[k]?=some o)(hr:∀ed∈fB o,listed.getD ed.on false=true):∀(f j:Nat),jE l f k j=true->listed.getD j false=true
 | 0,j,h=>by simp [jE]at h
 | f+1,j,h=>by
  simp only [jE,ho]at h;rw [List.any_eq_true]at h;obtain⟨ed,fV,h⟩:=h;have h1:=hr ed fV;rw [Bool.or_eq_true]at h;rcases h with h | h
  ·rw [<-oE h];exact h1
  ·exact yn dh f ed.on j h h1
section
variable{i d id:Nat}{w1 w2 w:aa}{y:Yd}{ops:Array Oper}{o:Oper}{l:List Oper}
variable {P:Program} {N:Nat} {e:Env} {w:aa}
def fM(i:Nat)(e1:Env)(w1:aa)(d:Nat)(y:Yd):Env->aa->Prop:=fun e2 w2=>Below w1.heap.size w1 w2/\y.holds (e2 d) w2/\∀j,j≠d->e2 j=e1 j
theorem fM.dn{e1:Env}{v:ad}(hb:Below w1.heap.size w1 w2)(hv:y.holds v w2):fM i e1 w1 d y (br e1 d v) w2:=by
 refine⟨hb,?_,fun j hj=>?_⟩
 ·have:br e1 d v d=v:=by unfold br;rw [Nat.beq_refl];rfl
  rw [this];exact hv
 ·have:Nat.beq j d=false:=by
   cases h:Nat.beq j d with
   | false=>rfl
   | true=>exact absurd (oE h) hj
  unfold br;rw [this];rfl
theorem d0{e1:Env}{v:ad}(hv:y.holds v w1):fM i e1 w1 d y (br e1 d v) w1:=fM.dn (Below.refl _ _) hv
theorem Az{e1:Env}{v:ad}(hv:y.holds v w1:=by exact O):ao P N ops (fM i e1 w1 d y) [] (br e1 d v) w1:=ao.n (fM.dn (Below.refl _ _) hv)
def vD(ops:Array Oper)(N:Nat)(e:Env)(o:Oper):Option (Nat×ad):=
 match o.guard with
 | none=>tJ N e o
 | some (j,want)=>match o.dst,(ops[j]?).bind (·.dst)with
  | some d,some dj=> (match Nat.blt dj N,Nat.blt d N with
   | true,true=> (match e dj with
    | .bool b=> (match b,want with
     | true,true=>tJ N e ⟨some d,o.op,o.type,o.pos,o.after,none⟩
     | false,false=>tJ N e ⟨some d,o.op,o.type,o.pos,o.after,none⟩
     | true,false=>some (d,undef)
     | false,true=>some (d,undef))
    | .tuple vs=> (match vs.toList with
     | []=>some (d,undef)
     | _=>none)
    | _=>none)
   | _,_=>none)
  | _,_=>none
theorem ao.vD{K:Env->aa->Prop}{e1:Env}{v:ad}(h:vD ops N e1 o=some (d,v))(hK:K (br e1 d v) w1):ao P N ops K [o] e1 w1:=by
 obtain⟨dst,op,ty,pos,af,gd⟩:=o;unfold Vc.vD at h
 split at h
 ·exact .tJ h (ao.n hK)
 rename_i j want hg;simp only at hg;subst hg
 split at h
 ·rename_i d' dj hd hj;simp only at hd;subst hd
  split at h
  ·rename_i fW hb
   split at h
   ·rename_i b he
    split at h
    ·exact aml hj fW he (.tJ h (ao.n hK))
    ·exact aml hj fW he (.tJ h (ao.n hK))
    ·simp only [mJ,Prod.mk.injEq]at h;obtain⟨rfl,rfl⟩:=h;exact amm hj fW he O hb (ao.n hK)
    simp only [mJ,Prod.mk.injEq]at h;obtain⟨rfl,rfl⟩:=h;exact amm hj fW he O hb (ao.n hK)
   ·rename_i vs he
    split at h
    ·rename_i hv;have hu:vs= #[]:=by cases vs;simp only at hv;rw [hv]
     subst hu;simp only [mJ,Prod.mk.injEq]at h;obtain⟨rfl,rfl⟩:=h;exact fA hj fW he hb (ao.n hK)
    cases h
   cases h
  cases h
 cases h
theorem V4{e1:Env}{v:ad}(h:vD ops N e1 o=some (d,v)):o.dst=some d:=by
 have key:∀(o:Oper),tJ N e1 o=some (d,v)->o.dst=some d:=fun o h=>by
  unfold tJ at h
  split at h
  ·rename_i d' hg hd
   split at h
   ·split at h
    ·simp only [mJ,Prod.mk.injEq]at h;rw [hd,h.1]
    cases h
   cases h
  cases h
 unfold vD at h
 split at h
 ·exact key _ h
 split at h
 ·rename_i d' dj hd hj;rw [hd]
  split at h
  ·split at h
   ·split at h
    ·exact key _ h
    ·exact key _ h
    ·simp only [mJ,Prod.mk.injEq]at h;rw [h.1]
    simp only [mJ,Prod.mk.injEq]at h;rw [h.1]
   ·split at h
    ·simp only [mJ,Prod.mk.injEq]at h;rw [h.1]
    cases h
   cases h
  cases h
 cases h
theorem Dk{e1:Env}{v:ad}(h:vD ops N e1 o=some (d,v))(hv:y.holds v w1):ao P N ops (fM i e1 w1 d y) [o] e1 w1:= .vD h (fM.dn (Below.refl _ _) hv)
def XH:Yd->Bool
 | .ex _=>true
 | .pr _=>false
theorem eL{l:List Yd}(h:l.all XH=true):∀y∈l,y.qY:=fun y hy=>by
 have:=List.all_eq_true.1 h y hy;cases y with
 | ex v=>exact True.intro
 | pr p=>cases this
def DX(P:Program)(N:Nat)(l:List Oper)(ys:List Yd)(e:Env)(w:aa):Nat->List Oper->Prop
 | _,[]=>True
 | i,o::r=> (∀e1 w1,Below w.heap.size w w1->(∀j,j<l.length->gK ((fB o).map (·.on)) j=true->∀(y:Yd) (o':Oper),ys[j]?=some y->l[j]?=some o'->y.holds (e1 (fo o')) w1)->(∀(j:Nat) (o':Oper),l[j]?=some o'->jE l l.length j i=true->e1 (fo o')=e (fo o'))-> 
  ao P N l.toArray (fM i (ext (mix e1 e (l.map fo)) (uV l ys (fB o))) w1 (fo o) (ys.getD i (.pr fun _ _=>True))) [o] (ext (mix e1 e (l.map fo)) (uV l ys (fB o))) w1)/\DX P N l ys e w (i+1) r
theorem Dr{ys:List Yd}{v:ad}(h:(ys.getD i (.pr fun _ _=>True),fun e1=>vD l.toArray N (ext (mix e1 e (l.map fo)) (uV l ys (fB o))) o)=(.ex v,fun _=>some (d,v))):∀e1 w1,Below w.heap.size w w1->(∀j,j<l.length->gK ((fB o).map (·.on)) j=true->∀(y:Yd) (o':Oper),ys[j]?=some y->l[j]?=some o'->y.holds (e1 (fo o')) w1)->(∀(j:Nat) (o':Oper),l[j]?=some o'->jE l l.length j i=true->e1 (fo o')=e (fo o'))->ao P N l.toArray (fM i (ext (mix e1 e (l.map fo)) (uV l ys (fB o))) w1 (fo o) (ys.getD i (.pr fun _ _=>True))) [o] (ext (mix e1 e (l.map fo)) (uV l ys (fB o))) w1:=fun e1 w1 _ _ _=>by
 have h1:=congrFun (Prod.mk.inj h).2 e1;have hd:fo o=d:=by unfold fo;rw [V4 h1]
 rw [hd,(Prod.mk.inj h).1];exact Dk h1 rfl
theorem DX.get{ys:List Yd}:∀ {r:List Oper} {i:Nat},DX P N l ys e w i r->∀k o,r[k]?=some o->∀e1 w1,Below w.heap.size w w1->(∀j,j<l.length->gK ((fB o).map (·.on)) j=true->∀(y:Yd) (o':Oper),ys[j]?=some y->l[j]?=some o'->y.holds (e1 (fo o')) w1)->(∀(j:Nat) (o':Oper),l[j]?=some o'->jE l l.length j (i+k)=true->e1 (fo o')=e (fo o'))-> 
 ao P N l.toArray (fM (i+k) (ext (mix e1 e (l.map fo)) (uV l ys (fB o))) w1 (fo o) (ys.getD (i+k) (.pr fun _ _=>True))) [o] (ext (mix e1 e (l.map fo)) (uV l ys (fB o))) w1
 | [],_,_,k,o,hk=>by simp at hk
 | x::r,i,h,0,o,hk=>by simp at hk;subst hk;exact h.1
 | x::r,i,h,k+1,o,hk=>by
  have:=DX.get h.2 k o (by simpa using hk);simpa [Nat.add_assoc,Nat.add_comm 1 k]using this
theorem Jz{a:Act}{K K2:Act->aa->Prop}{Q Q2:Exit->Act->aa->Prop}(h:o.wp P a w K Q)(hK:∀a w,K a w->K2 a w)(hQ:∀x a w,x≠ .normal->¬Q x a w):o.wp P a w K2 Q2:=by
 unfold Oper.wp at*;generalize (execOp a.eval o).run P w=r at*;cases r with
 | ok n w'=>
  cases n<;>simp only [Oper.upon]at h|-<;>first
   | exact hK _ _ h
   | (
    refine Calls.mono h fun x F3 hx=>?_
    cases x with
    | returned v=>exact hK _ _ hx
    | panicked ch=>exact absurd hx (hQ _ _ _ (by simp))
    | outgrown=>obtain⟨a0,w0,hx⟩:=hx;exact absurd hx (hQ _ _ _ (by simp)))
   | exact Rows.mono h fun v F3 hx=>hK _ _ hx
 | halt x w'=>
  cases x<;>simp only [Oper.upon]at h|-
  exact absurd h (hQ _ _ _ (by simp))
theorem IU{e1 e:Env}{ds:List Nat}(h:∀j,gK ds j=false->e1 j=e j):mix e1 e ds=e1:=by
 funext j;unfold mix;cases hm:gK ds j with
 | true=>rfl
 | false=>exact(h j hm).symm
theorem Qm{l:List Oper}{ys:List Yd}{e1:Env}{w1:aa}:∀(af:List Edge),(∀ed∈af,ed.on<l.length)->(∀j,gK (af.map (·.on)) j=true->∀(y:Yd) (o':Oper),ys[j]?=some y->l[j]?=some o'->y.holds (e1 (fo o')) w1)->Mt e1 (uV l ys af)
 | [],_,_=>au
 | ed::r,fW,h=>by
  have hr:=Qm r (fun x hx=>fW x (qC _ hx)) (fun j hj=>h j (by rw [zn]at hj|-;exact qC _ hj));unfold uV
  split
  ·rename_i v hy;have hl:=fW ed (by simp);refine⟨?_,hr⟩;rw [fZ hl];exact h ed.on (by rw [zn];simp) _ _ hy (fZ hl)
  ·exact hr
theorem Qx{e1 e:Env}{w1:aa}:∀(l:List Oper) (ys:List Yd) (i:Nat),l.length=ys.length->(l.map fo).Nodup->(∀(k:Nat) (y:Yd) (o:Oper),ys[k]?=some y->l[k]?=some o->y.holds (e1 (fo o)) w1)->
 ∃u:Nat->ad,ext e (vX l ys u i)=mix e1 e (l.map fo)/\(∀(k:Nat) (o:Oper),l[k]?=some o->u (i+k)=e1 (fo o))
 | [],[],i,_,_,_=> ⟨fun _=>undef,by funext j;rfl,fun k o h=>by simp at h⟩
 | [],y::ys,i,hl,_,_=>by simp at hl
 | o::l,[],i,hl,_,_=>by simp at hl
 | o::l,y::ys,i,hl,hn,h=>by
  simp only [List.map_cons,lU]at hn;obtain⟨u,hu,kr⟩:=Qx (e1:=e1) (e:=e) (w1:=w1) l ys (i+1) (by simpa using hl) hn.2 (fun k y o hy ho=>h (k+1) y o (by simpa using hy) (by simpa using ho));have h0:=h 0 y o O O;have Kc:∀(l:List Oper) (ys:List Yd) (i:Nat) (u u':Nat->ad),(∀k,i<=k->u k=u' k)->vX l ys u i=vX l ys u' i:=by
   intro l
   induction l with
   | nil=>intros;rfl
   | cons o l ih=>
    intro ys i u u' hk;cases ys with
    | nil=>rfl
    | cons y ys=>
     cases y with
     | ex v=>simp only [vX];rw [ih ys (i+1) u u' (fun k eQ=>hk k (by omega))]
     | pr p=>simp only [vX];rw [ih ys (i+1) u u' (fun k eQ=>hk k (by omega)),hk i (by omega)]
  refine⟨fun k=>if k=i then e1 (fo o)else u k,?_,fun k o' hk=>?_⟩
  ·have hc:=Kc l ys (i+1) (fun k=>if k=i then e1 (fo o)else u k) u (fun k hk=>by rw [az (by omega)]);have oW:∀v,v=e1 (fo o)->br (mix e1 e (l.map fo)) (fo o) v=mix e1 e ((o::l).map fo):=by
    intro v hv;funext j;simp only [br,mix,List.map_cons,gK];cases hb:Nat.beq j (fo o)with
    | true=>rw [oE hb,hv];rfl
    | false=>rfl
   cases y with
   | ex v=>
    simp only [vX,ext,hc,hu];exact oW v h0.symm
   | pr p=>
    simp only [vX,ext,hc,hu,aB];exact oW _ O
  ·cases k with
   | zero=>simp at hk;subst hk;simp
   | succ k=>
    have:=kr k o' (by simpa using hk);show(if i+ (k+1)=i then _ else u (i+ (k+1)))=_;rw [az (by omega),<-this];congr 1;omega
theorem Cz(p p':Nat->Bool)(i:Nat)(hi:p i=false)(hp:∀k,p' k=if k=i then true else p k):∀(l:List Nat),l.Nodup->i∈l->l.countP p'=l.countP p+1
 | [],_,h=>by cases h
 | x::l,hn,h=>by
  have ada:∀(l:List Nat),¬i∈l->l.countP p'=l.countP p:=by
   intro l hl;exact List.countP_congr fun k hk=>by rw [hp k,az (by rintro rfl;exact hl hk)]
  simp only [lU]at hn;simp only [List.countP_cons]
  by_cases hx:x=i
  ·subst hx;rw [ada l hn.1,hp x,aB rfl,hi];simp
  ·have E0:i∈l:=by
    rcases iP.1 h with h | h
    ·exact absurd h.symm hx
    ·exact h
   rw [Cz p p' i hi hp l hn.2 E0,hp x,az hx];omega
theorem ams{Q:jD}(ys:List Yd)(hm:P.follows .mixedOrders=true)(dm:Qo N l=true)(hlen:Nat.beq l.length ys.length=true)(H6:∀y∈ys,y.qY)
 (MA:DX P N l ys e w 0 l) (Ar:∀u w1,Below w.heap.size w w1->(∀(k:Nat) (p:ad->aa->Prop),ys[k]?=some (Yd.pr p)->p (u k) w1)->Q .normal (ext e (vX l ys u 0)) w1):Cd P N (.region id l.toArray true) Q e w:= .mk' fun a ha=>by
 have xy:l.length=ys.length:=oE hlen;simp only [Qo,Bool.and_eq_true,List.all_eq_true,lg]at dm;obtain⟨⟨h1,h2⟩,h3⟩:=dm;have acm:∀(i:Nat) (o:Oper),l[i]?=some o->∃d,o.dst=some d/\fo o=d/\d<N:=by
  intro i o ho;have:=h1 o (List.mem_of_getElem? ho);cases hd:o.dst with
  | none=>rw [hd]at this;cases this
  | some d=>rw [hd]at this;exact⟨d,rfl,by simp [fo,hd],by simpa [Nat.blt_eq]using this⟩
 have abT:∀(i:Nat) (o:Oper),l[i]?=some o->∀ed∈fB o,ed.on<i/\Region.binds .any ed=true:=by
  intro i o ho ed fV;have:=h3 (o,i) (by
   obtain⟨hi,HZ⟩:=gm.1 ho;rw [List.mem_iff_getElem?];exact⟨i,by simp [ho]⟩)
  exact⟨by simpa [Nat.blt_eq]using this ed fV,(q9.1 fV).2⟩
 have xm:∀(i:Nat) (o:Oper),l[i]?=some o->∀ed∈fB o,ed.on<i:=fun i o ho ed fV=> (abT i o ho ed fV).1
 refine wp_region_any hm ?_;have key:∀(fuel:Nat) (listed:Array Bool) (a1:Act) (e1:Env) (w1:aa),jL N a1 e1->Below w.heap.size w w1->(∀j,gK (l.map fo) j=false->e1 j=e j)->listed.size=l.length->
  (∀(i:Nat) (y:Yd) (o:Oper),listed.getD i false=true->ys[i]?=some y->l[i]?=some o->y.holds (e1 (fo o)) w1)->(∀(i:Nat) (o:Oper),listed.getD i false=true->l[i]?=some o->∀ed∈fB o,listed.getD ed.on false=true)->(∀(i:Nat) (o:Oper),listed.getD i false=false->l[i]?=some o->e1 (fo o)=e (fo o))->(l.length - fuel<=(List.range l.length).countP fun i=>listed.getD i false)->
  wpAny P .any l.toArray (low N Q) fuel listed a1 w1:=by
  have nA:∀(listed:Array Bool) (a1:Act) (e1:Env) (w1:aa),jL N a1 e1->Below w.heap.size w w1->(∀j,gK (l.map fo) j=false->e1 j=e j)->
   (∀(i:Nat) (y:Yd) (o:Oper),listed.getD i false=true->ys[i]?=some y->l[i]?=some o->y.holds (e1 (fo o)) w1)->(∀i,i<l.length->listed.getD i false=true)->low N Q .normal a1 w1:=by
   intro listed a1 e1 w1 hr hb oL hS eJ;obtain⟨u,hu,kr⟩:=Qx (e1:=e1) (e:=e) (w1:=w1) l ys 0 xy h2 (fun k y o hy ho=>hS k y o (eJ k (gm.1 ho).1) hy ho);refine⟨e1,hr,?_⟩;have:=Ar u w1 hb (fun k p hk=>by
    have kK:k<l.length:=by rw [xy];exact(gm.1 hk).1
    have h5:=hS k _ l[k] (eJ k kK) hk (fZ kK);have h6:=kr k l[k] (fZ kK);rw [Nat.zero_add]at h6;rw [h6];exact h5)
   rw [hu,IU oL]at this;exact this
  have Ff:∀(listed:Array Bool),listed.size=l.length->Region.ready .any l.toArray listed=[]->∀i,i<l.length->listed.getD i false=true:=by
   intro listed lN vk i
   induction i using Nat.strongRecOn with
   | _ i ih=>
    intro hi;cases yV:listed.getD i false with
    | true=>rfl
    | false=>
     exfalso;have:i∈Region.ready .any l.toArray listed:=by
      rw [mem_ready];refine⟨?_,l[i],by simp [hi],fun ed fV sk=>ih ed.on (xm i _ (fZ hi) ed (q9.2 ⟨fV,sk⟩)) (by have:=xm i _ (fZ hi) ed (q9.2 ⟨fV,sk⟩);omega)⟩;rw [iZ,rG (by omega)]at yV|-;exact yV
     rw [vk]at this;cases this
  intro fuel
  induction fuel with
  | zero=>
   intro listed a1 e1 w1 hr hb oL lN hS dh Bh oh;have eJ:∀i,i<l.length->listed.getD i false=true:=by
    have h4:(List.range l.length).countP (fun i=>listed.getD i false)=(List.range l.length).length:=by
     have:=List.countP_le_length (p:=fun i=>listed.getD i false) (l:=List.range l.length);simp at this oh|-;omega
    rw [List.countP_eq_length]at h4;intro i hi;exact h4 i (by simpa using hi)
   refine⟨?_,nA listed a1 e1 w1 hr hb oL hS eJ⟩;rw [List.eq_nil_iff_forall_not_mem];intro i hi;obtain⟨h5,o,ho,_⟩:=mem_ready.1 hi;have qf:i<l.length:=by
    rcases Nat.lt_or_ge i l.length with h | h
    ·exact h
    ·simp [mh h]at ho
   have h6:=eJ i qf;rw [iZ,rG (by omega)]at h5 h6;simp at h5 h6;rw [h5]at h6;cases h6
  | succ fuel ih=>
   intro listed a1 e1 w1 hr hb oL lN hS dh Bh oh;refine⟨fun vk=>nA listed a1 e1 w1 hr hb oL hS (Ff listed lN vk),fun i hi=>?_⟩;obtain⟨aW,o,ho,yM⟩:=mem_ready.1 hi;have iz:l[i]?=some o:=by simpa using ho
   have qf:i<l.length:=(gm.1 iz).1;obtain⟨d,hd,hdo,hdN⟩:=acm i o iz;have Sf:∀j,gK ((fB o).map (·.on)) j=true->∀(y:Yd) (o':Oper),ys[j]?=some y->l[j]?=some o'->y.holds (e1 (fo o')) w1:=by
    intro j hj y o' hy wi;rw [zn,dA]at hj;obtain⟨ed,fV,rfl⟩:=hj;exact hS _ y o' (yM ed (q9.1 fV).1 (q9.1 fV).2) hy wi
   have oU:∀ed∈fB o,listed.getD ed.on false=true:=fun ed fV=>yM ed (q9.1 fV).1 (q9.1 fV).2
   have ux:listed.getD i false=false:=by
    have h5:=aW;rw [iZ,rG (by omega)]at h5|-;exact h5
   have qe:∀k,(listed.setIfInBounds i true).getD k false=if k=i then true else listed.getD k false:=by
    intro k;rw [iZ,tM]
    by_cases fE:k=i
    ·subst fE;rw [aB rfl,aB (by omega),aB rfl];rfl
    ·rw [az (fun e=>fE e.symm),az fE,<-iZ]
   have aw:=MA.get i o iz e1 w1 hb (fun j _ hj=>Sf j hj) (fun j o' hj xl=>by
    refine Bh j o' ?_ hj;cases xz:listed.getD j false with
    | false=>rfl
    | true=>
     have:=yn dh _ _ _ xl xz;rw [Nat.zero_add,ux]at this;cases this)
   rw [IU oL,yu (Qm (fB o) (fun ed fV=>by have:=xm i o iz ed fV;omega) Sf),Nat.zero_add]at aw;have l9:=aw.run a1 hr;have wg:∀a2 w2,(∃e2,jL N a2 e2/\fM i e1 w1 (fo o) (ys.getD i (.pr fun _ _=>True)) e2 w2)->wpAny P .any l.toArray (low N Q) fuel (listed.setIfInBounds i true) a2 w2:=by
    intro a2 w2 ⟨e2,qV,eM,xJ,CZ⟩;have fR:Below w.heap.size w w2:=hb.trans (eM.mono hb.size);refine ih _ a2 e2 w2 qV fR (fun j hj=>?_) (by simpa using lN) (fun k y o' hk hy dm=>?_) (fun k o' hk dm ed fV=>?_) (fun k o' hk dm=>?_) ?_
    ·have bU:j≠fo o:=by
      rintro rfl;have:gK (l.map fo) (fo o)=true:=by rw [zn];exact dA.2 ⟨o,List.mem_of_getElem? iz,O⟩
      rw [this]at hj;cases hj
     rw [CZ j bU];exact oL j hj
    ·by_cases fE:k=i
     ·subst fE;rw [iz]at dm;cases dm;have:ys.getD k (.pr fun _ _=>True)=y:=by simp [da,hy]
      rw [this]at xJ;exact xJ
     ·have eQ:listed.getD k false=true:=by
       rw [iZ,tM,az (by omega),<-iZ]at hk;exact hk
      have h7:=hS k y o' eQ hy dm;have bU:fo o'≠fo o:=by
       intro heq;have kK:=(gm.1 dm).1;have h9:k=i:=(List.getElem_inj (xs:=l.map fo) (h₀:=by simpa using kK) (h₁:=by simpa using qf) h2).1 (by
        have e1:=(gm.1 dm).2;have e2:=(gm.1 iz).2;simp [e1,e2,heq])
       exact fE h9
      rw [CZ _ bU];exact XG (H6 y (List.mem_of_getElem? hy)) h7 eM
    ·rw [qe]
     by_cases yQ:ed.on=i
     ·rw [aB yQ]
     ·rw [az yQ]
      by_cases fE:k=i
      ·subst fE;rw [iz]at dm;cases dm;exact oU ed fV
      ·rw [qe,az fE]at hk;exact dh k o' hk dm ed fV
    ·rw [qe]at hk
     by_cases fE:k=i
     ·rw [aB fE]at hk;cases hk
     ·rw [az fE]at hk;rw [CZ _ (fun heq=>by
       have kK:=(gm.1 dm).1;have h9:k=i:=(List.getElem_inj (xs:=l.map fo) (h₀:=by simpa using kK) (h₁:=by simpa using qf) h2).1 (by
        have e1:=(gm.1 dm).2;have e2:=(gm.1 iz).2;simp [e1,e2,heq])
       exact fE h9)]
      exact Bh k o' hk dm
    ·have ER:(List.range l.length).countP (fun k=> (listed.setIfInBounds i true).getD k false)=(List.range l.length).countP (fun k=>listed.getD k false)+1:=by
      refine Cz (fun k=>listed.getD k false) (fun k=> (listed.setIfInBounds i true).getD k false) i ?_ (fun k=>?_) _ List.nodup_range (by simpa using qf)
      ·have h5:=aW;show listed.getD i false=false;rw [iZ,rG (by omega)]at h5|-;exact h5
      ·show(listed.setIfInBounds i true).getD k false=if k=i then true else listed.getD k false
       rw [iZ,tM]
       by_cases fE:k=i
       ·subst fE;rw [aB rfl,aB (by omega),aB rfl];rfl
       ·rw [az (fun e=>fE e.symm),az fE,<-iZ]
     rw [ER];omega
   unfold wpOp;rw [ho];unfold wpList at l9;show if _ then _ else _
   by_cases hw:Region.wanted o (yielded l.toArray a1.tmps)=true
   ·rw [aB hw]at l9|-;rcases l9 with h5 | ⟨_,a0,w0,h5⟩
    ·refine .inl (Jz h5 (fun a2 w2 hx=>?_) (fun x a w hx hq=>hx hq.1));exact wg a2 w2 hx.2
    ·exact absurd h5.1 (by simp)
   ·rw [az hw]at l9|-;exact wg _ _ l9.2
 refine key l.length (Array.replicate l.length false) a e _ ha ⟨⟨O,O,O,bs _,fun _ _=>O⟩,fun _=>Nat.le_add_right _ _⟩ (fun _ _=>O) (by simp) (fun i y o hi=>?_) (fun i o hi=>?_) (fun _ _ _ _=>O) (by omega)
 ·exfalso;rw [iZ,Array.getElem?_replicate]at hi
  split at hi<;>simp at hi
 ·exfalso;rw [iZ,Array.getElem?_replicate]at hi
  split at hi<;>simp at hi
theorem eo{Q:jD}(ys:List Yd)(hlen:Nat.beq l.length ys.length=true)(H6:∀y∈ys,y.qY)(MA:DX P N l ys e w 0 l)(Ar:∀u w1,Below w.heap.size w w1->(∀(k:Nat) (p:ad->aa->Prop),ys[k]?=some (Yd.pr p)->p (u k) w1)->Q .normal (ext e (vX l ys u 0)) w1)(hm:P.follows .mixedOrders=true:=by kernel_rfl)(dm:Qo N l=true:=by kernel_rfl):Cd P N (.region id l.toArray true) Q e w:=ams ys hm dm hlen H6 MA Ar
theorem tN{α:Type}{x y:Code}{Q:jD}(F:α->List (Nat×ad))(I:α->aa->Prop)(hx:Cd P N x (BH (fun e' w'=>∃s,Mt e' (F s)/\I s w') Q) e w)
 (hy:∀s e' w',I s w'->Cd P N y Q (ext e' (F s)) w'):Cd P N (.seq x y) Q e w:=
 .seq (hx.mono fun ex e' w' q=>by
  cases ex<;>first
   | exact q
   | (
    obtain⟨s,hm,hi⟩:=q;have:=hy s e' w' hi;rw [yu hm]at this;exact this))
end
structure bF(w:aa)(A:aj)(n:Nat)(rs:List aO)(xss:ah):Prop where
 top:ml w A n rs
 len:xss.length=n
 row:∀i,i<n->cg w (rs.getD i dO).a (rs.getD i dO).n (xss.getD i [])
 cap:∀i,i<n->(rs.getD i dO).n<=(rs.getD i dO).c/\(rs.getD i dO).c<=maxLen
def gl(xss:ah)(i:Int):ai:=xss.getD i.toNat []
theorem bF.at_{w:aa}{A:aj}{n:Nat}{rs:List aO}{xss:ah}(h:bF w A n rs xss){i:Int}(_h0:0<=i)(hi:i<n):cg w (rg rs i).a (rg rs i).n (gl xss i):=h.row _ (by omega)
theorem bF.cap_{w:aa}{A:aj}{n:Nat}{rs:List aO}{xss:ah}(h:bF w A n rs xss){i:Int}(_h0:0<=i)(hi:i<n):(rg rs i).n<=(rg rs i).c/\(rg rs i).c<=9223372036854775807:=h.cap _ (by omega)
theorem bF.aq{w w':aa}{A:aj}{n:Nat}{rs:List aO}{xss:ah}(h:bF w A n rs xss)(hb:Below w.heap.size w w'):bF w' A n rs xss:=
 ⟨h.top.aq hb,h.len,fun i hi=> (h.row i hi).aq hb,h.cap⟩
theorem St.cT{w0 w:aa}{ks:List Ck}{A:aj}{n:Nat}{rs:List aO}{xss:ah}(h:St w0 w ks)(hR:bF w0 A n rs xss):bF w A n rs xss:=hR.aq h.below
def cK(t:ae):List aO->ah->List Ck
 | r::rs,xs::xss=>ax t r.a r.n r.c xs::cK t rs xss
 | _,_=> []
def aL(t1 t2:ae)(A:aj)(n c:Nat)(rs:List aO)(xss:ah):List Ck:=bZ t1 A n c rs::cK t2 rs xss
theorem DF{t:ae}:∀ {rs:List aO} {xss:ah} {i:Nat},rs.length=xss.length->i<rs.length->(cK t rs xss)[i]?=some (ax t (rs.getD i dO).a (rs.getD i dO).n (rs.getD i dO).c (xss.getD i []))
 | [],_,_,_,h=>by simp at h
 | r::rs,[],_,h,_=>by simp at h
 | r::rs,xs::xss,0,_,_=>rfl
 | r::rs,xs::xss,i+1,h,hi=>by
  have:=DF (t:=t) (rs:=rs) (xss:=xss) (i:=i) (by simpa using h) (by simpa using hi);simpa [cK]using this
theorem zx{t:ae}:∀ {rs:List aO} {xss:ah},rs.length=xss.length->(cK t rs xss).length=rs.length
 | [],[],_=>rfl
 | [],_::_,h=>by simp at h
 | _::_,[],h=>by simp at h
 | r::rs,xs::xss,h=>by simp [cK,zx (t:=t) (rs:=rs) (xss:=xss) (by simpa using h)]
theorem DE{t:ae}:∀ {rs rs':List aO} {xss xss':ah},rs.length=xss.length->cK t (rs++rs') (xss++xss')=cK t rs xss++cK t rs' xss'
 | [],_,[],_,_=>rfl
 | [],_,_::_,_,h=>by simp at h
 | _::_,_,[],_,h=>by simp at h
 | r::rs,rs',xs::xss,xss',h=>by
  have:=DE (t:=t) (rs:=rs) (rs':=rs') (xss:=xss) (xss':=xss') (by simpa using h);simp [cK,this]
theorem St.jj{w0 w:aa}{ks:List Ck}{t1 t2:ae}{A:aj}{n c:Nat}{rs:List aO}{xss:ah}(h:St w0 w (aL t1 t2 A n c rs xss++ks))(hl:xss.length=n):bF w A n rs xss:=by
 have h0:=h.fG 0 (show(aL t1 t2 A n c rs xss++ks)[0]?=some (bZ t1 A n c rs) from O);have hr:rs.length=xss.length:=by rw [h0.1,hl]
 have get:∀i,i<n->(aL t1 t2 A n c rs xss++ks)[i+1]?=some (ax t2 (rs.getD i dO).a (rs.getD i dO).n (rs.getD i dO).c (xss.getD i [])):=by
  intro i hi;have h1:=DF (t:=t2) (rs:=rs) (xss:=xss) (i:=i) hr (by omega);rw [lz (by simp [aL,zx hr];omega)];simpa [aL]using h1
 exact⟨h0,hl,fun i hi=>h.bz (i+1) (get i hi),fun i hi=>h.cap (i+1) (get i hi)⟩
def sS(l:ai):Prop:=l.Pairwise (· <= ·)
def nO(l:ai):ai:=l.mergeSort fun x y=>decide (x<=y)
theorem Of(l:ai):(nO l).Perm l:=List.mergeSort_perm _ _
theorem ajm(l:ai):sS (nO l):=by
 have:=List.pairwise_mergeSort (le:=fun x y:Int=>decide (x<=y)) (fun a b c h1 h2=>by simp at h1 h2|-;omega) (fun a b=>by simp;omega) l;exact this.imp fun h=>by simpa using h
theorem Yb{l l':ai}(h:l.Perm l')(h1:sS l)(h2:sS l'):l=l':=
 List.Perm.eq_of_pairwise (le:=(· <= ·)) (fun a b _ _ h1 h2=>by omega) h1 h2 h
end Go.Proofs.YtkccgdhcpplblaaGreatDoor.Vc
