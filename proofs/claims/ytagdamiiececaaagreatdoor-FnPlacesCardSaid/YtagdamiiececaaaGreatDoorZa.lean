/-
 Lemmas. Conditions: as each states them.
-/
import Derived.WalkKit
import Derived.Deep.Quiet
import Derived.Deep.LoopGhost
import Derived.Below
import Derived.Sort.Grow
import Derived.Deep.OwnRows
import Derived.Laws.IdiomCopy
import Derived.Shelf.Bits.Mul64
set_option maxHeartbeats 8000000
namespace Go.Proofs.YtagdamiiececaaaGreatDoor.Vc
open Go.RowKit
abbrev aa:=World
abbrev ab:=Value
abbrev ad:=TypeId
abbrev ae:=Operand
abbrev ag:=List (List Int)
abbrev ah:=List Int
abbrev ai:=Option Addr
abbrev aj(i:Int):Value:=.int .i64 i
theorem au:True:=@trivial
theorem aC:∀ {c:Prop} {_:Decidable c},¬c->∀ {α:Sort _} {t e:α},(if c then t else e)=e:=@if_neg
theorem aJ:∀ {c:Prop} {_:Decidable c},c->∀ {α:Sort _} {t e:α},(if c then t else e)=t:=@if_pos
theorem bw:∀ {α:Sort _} {β:Sort _} {a₁ a₂:α} (f:α->β),a₁=a₂->f a₁=f a₂:=@congrArg
theorem bA:∀(n:Nat),0<=n:=@Nat.zero_le
theorem bC:∀ {α:Type _} {val val_1:α},some val=some val_1->val=val_1:=@Option.some.inj
theorem cL:∀ {α:Type _} {p:α->Prop} {a:α} {l:List α},(∀(x:α),x∈a::l->p x)↔p a/\∀(x:α),x∈l->p x:=@List.forall_mem_cons
theorem dd:∀ {α:Type _} {l:List α} {n:Nat} (h:n<l.length),l[n]∈l:=@List.getElem_mem
theorem df:∀ {α:Type _} {l:List α} {i:Nat} {a:α},l.getD i a=l[i]?.getD a:=@List.getD_eq_getElem?_getD
theorem dq:∀ {p:Prop} [Decidable p],¬p->decide p=false:=@decide_eq_false
theorem dA:∀ {α:Type _} (l:List α),l.Sublist l:=@List.Sublist.refl
theorem dD:∀ {α:Type _} (l₁ l₂:List α),l₂.Sublist (l₁++l₂):=@List.sublist_append_right
theorem dE:∀(n:Nat),n<=n:=@Nat.le_refl
theorem dL:∀ {α:Type _} {l:List α} {i:Nat} (h:i<l.length),l[i]?=some l[i]:=@List.getElem?_eq_getElem
theorem eU:∀ {α:Type _} {a:α} {l₁ l₂:List α},(l₁++a::l₂).Perm (a::(l₁++l₂)):=@List.perm_middle
theorem e8:∀ {α:Type _} {cs bs:List α},(cs++bs).length=cs.length+bs.length:=@List.length_append
theorem fb:∀ {α:Type _} {l₁ l₂:List α},(l₁++l₂).Perm (l₂++l₁):=@List.perm_append_comm
theorem fo:∀ {p:Prop} [Decidable p],p->decide p=true:=@decide_eq_true
theorem fx:∀ {α:Type _} {β:Type _} {b:β} {f:α->β} {l:List α},b∈List.map f l↔∃a,a∈l/\f a=b:=@List.mem_map
theorem fC:∀ {α:Type _} (ks bs cs:List α),ks++bs++cs=ks++ (bs++cs):=@List.append_assoc
theorem fQ:∀ {α:Type _} {β:Type _} {cs:List α} (f:α->β),(List.map f cs).length=cs.length:=@List.length_map
theorem ga:∀ {α:Type _} {i:Nat} {a:α} {l:List α},l[i]?=some a↔∃h,l[i]=a:=@List.getElem?_eq_some_iff
theorem gn:∀(n:Nat),(n:Int).toNat=n:=@Int.toNat_natCast
theorem gu:∀ {α:Type _} {a:α} {l:List α},a∈l↔∃(i:Nat) (h:i<l.length),l[i]=a:=@List.mem_iff_getElem
theorem gA:∀ {α:Type _} {xs:Array α} {i:Nat} {d:α},xs.getD i d=xs[i]?.getD d:=@Array.getD_eq_getD_getElem?
theorem gC:∀ {a:Prop},¬¬a↔a:=@Classical.not_not
theorem gD:∀ {α:Type _} {l₁ l₂:List α},l₁.length=l₂.length->(∀(i:Nat) (h₁:i<l₁.length) (h₂:i<l₂.length),l₁[i]=l₂[i])->l₁=l₂:=@List.ext_getElem
theorem gE:∀ {α:Type _} {a:α} {s t:List α},a∈s++t↔a∈s\/a∈t:=@List.mem_append
theorem gR:∀ {α:Type _} {cs:List α} {i:Nat} {a:α},(cs.set i a).length=cs.length:=@List.length_set
theorem iv:∀ {α:Type _} {a b:α},a∈[b]↔a=b:=@List.mem_singleton
theorem iG:∀ {α:Type _} (cs:List α),cs++ []=cs:=@List.append_nil
theorem iH:∀ {α:Type _} (a:α) {b:α} {l:List α} {i:Nat},(l.set i a).set i b=l.set i b:=@List.set_set
theorem ja:∀ {α:Type _} {b:α} {l:List α} {a:α},a∈b::l↔a=b\/a∈l:=@List.mem_cons
theorem jb:∀ {α:Type _} {p:α->Bool} {cs:List α} {x:α},x∈List.filter p cs↔x∈cs/\p x=true:=@List.mem_filter
theorem jc:∀ {α:Type _} {i:Nat} {l:List α},l.length<=i->List.take i l=l:=@List.take_of_length_le
theorem jN:∀ {m n:Nat},m∈List.range n↔m<n:=@List.mem_range
theorem kc:∀ {p q:Prop} {_:Decidable p} {_:Decidable q},decide p=decide q↔(p↔q):=@decide_eq_decide
theorem kV:∀ {p:Prop},(¬p->False)->p:=@Classical.byContradiction
theorem kX:∀ {α:Type _} {l:List α} {i j:Nat} {a:α},(l.set i a)[j]?=if i=j then if i<l.length then some a else none else l[j]?:=@List.getElem?_set
theorem kY:∀ {α:Type _} (l₁ l₂:List α),l₁.Sublist (l₁++l₂):=@List.sublist_append_left
theorem lF:∀ {α:Type _} {β:Type _} {f:α->β} {l₁ l₂:List α},List.map f (l₁++l₂)=List.map f l₁++List.map f l₂:=@List.map_append
theorem lG:∀ {α:Type _} {i:Nat} {l:List α} (h:i<l.length),List.take (i+1) l=List.take i l++ [l[i]]:=@List.take_succ_eq_append_getElem
theorem lH:∀ {n m:Nat},n.beq m=true->n=m:=@Nat.eq_of_beq_eq_true
theorem lI:∀ {n m k:Nat},n<=m->m<=k->n<=k:=@Nat.le_trans
theorem mD:∀ {α:Type _} {l:List α} {i:Nat},l.length<=i->l[i]?=none:=@List.getElem?_eq_none
theorem mF:∀ {α:Type _} (val val_1:α),(some val=some val_1)=(val=val_1):=@Option.some.injEq
theorem mT:∀ {p:Prop} [Decidable p],decide p=true->p:=@of_decide_eq_true
theorem mU:∀ {α:Type _} {l₁ l₂:List α} {i:Nat},l₁.length<=i->(l₁++l₂)[i]?=l₂[i - l₁.length]?:=@List.getElem?_append_right
theorem mV:∀ {α:Type _} {a:α} {l:List α},(a::l).Nodup↔¬a∈l/\l.Nodup:=@List.nodup_cons
theorem nH:∀ {α:Type _} {xs:Array α} {i:Nat} (h:i<xs.size),xs[i]?=some xs[i]:=@Array.getElem?_eq_getElem
theorem nJ:∀ {α:Type _} {α_1:Type _} {f:α->α_1} {R:α_1->α_1->Prop} {l:List α},List.Pairwise R (List.map f l)↔List.Pairwise (fun a b=>R (f a) (f b)) l:=@List.pairwise_map
theorem ow:∀ {α:Type _} {l₁ l₂:List α} {i:Nat},i<l₁.length->(l₁++l₂)[i]?=l₁[i]?:=@List.getElem?_append_left
theorem ox:∀ {α:Type _} (p:α->Bool) (l:List α),(List.filter p l).length<=l.length:=@List.length_filter_le
theorem oy:∀(n:Nat),¬n<0:=@Nat.not_lt_zero
theorem pb:∀ {α:Type _} {xs:Array α} {i j:Nat} {a:α},(xs.setIfInBounds i a)[j]?=if i=j then if i<xs.size then some a else none else xs[j]?:=@Array.getElem?_setIfInBounds
theorem pf:∀ {n:Nat},(List.range n).length=n:=@List.length_range
theorem pg:∀ {α:Type _} {l:List α} {α_1:Type _} {f g:α->α_1},(∀(a:α),a∈l->f a=g a)->List.map f l=List.map g l:=@List.map_congr_left
theorem qg:∀ {α:Type _} {l:List α},l.length=0->l=[]:=@List.eq_nil_of_length_eq_zero
theorem qh:∀ {α:Type _} {l:List α} {i j:Nat},(List.take i l)[j]?=if j<i then l[j]? else none:=@List.getElem?_take
theorem qp:∀ {p:Prop} [Decidable p],(decide p=true)=p:=@decide_eq_true_eq
theorem ra:∀ {α:Type _} {i:Nat} {l:List α},(List.take i l).length=min i l.length:=@List.length_take
theorem rb:∀ {n:Nat},List.range n.succ=List.range n++ [n]:=@List.range_succ
theorem uZ:∀ {α:Type _} (y:α) {a:α} {l:List α},a∈l->a∈y::l:=@List.mem_cons_of_mem
abbrev Env:=Nat->ab
def bt(e:Env)(d:Nat)(v:ab):Env:=fun i=>bif Nat.beq i d then v else e i
def ev(e:Env):ae->ab
 | .tmp t=>e t
 | .const v=>v
 | .global g=> .pointer (some ⟨g,0,none⟩)
 | .func f=> .func (.func f) #[] #[]
structure gW(N:Nat)(a:Act)(e:Env):Prop where
 defers:a.defers=[]
 size:a.tmps.size=N
 get:∀i,a.tmps.getD i undef=e i
theorem O{α:Sort _}{a:α}:a=a:=rfl
theorem gW.eval{N:Nat}{a:Act}{e:Env}(h:gW N a e):a.eval=ev e:=by
 funext x;cases x with
 | tmp t=>exact h.get t
 | const v=>rfl
 | global g=>rfl
 | func f=>rfl
theorem gW.put{N:Nat}{a:Act}{e:Env}(h:gW N a e){d:Nat}(hd:Nat.blt d N=true)(v:ab):gW N (a.put (some d) v) (bt e d v):=by
 have xG:d<a.tmps.size:=by rw [h.size];simpa [Nat.blt_eq]using hd
 refine⟨h.defers,by simp [Act.put,h.size],fun i=>?_⟩;simp only [Act.put,bt];rw [gA,pb]
 by_cases e1:d=i
 ·subst e1;simp [xG]
 ·have e2:Nat.beq i d=false:=by
   cases hb:Nat.beq i d with
   | false=>rfl
   | true=>exact absurd (lH hb).symm e1
  rw [aC e1,e2,<-gA,h.get]
  rfl
abbrev gV:=Exit->Env->aa->Prop
def low(N:Nat)(Q:gV):Exit->Act->aa->Prop:=fun x a w=>∃e,gW N a e/\Q x e w
structure Cd(P:Program)(N:Nat)(c:Code)(Q:gV)(e:Env)(w:aa):Prop where
 mk'::
 run:∀a,gW N a e->c.wp P (low N Q) a w
structure ak(P:Program)(N:Nat)(ops:Array Oper)(K:Env->aa->Prop)(l:List Oper)(e:Env)(w:aa):Prop where
 mk'::
 run:∀a,gW N a e->wpList P ops (fun x a w=>x= .normal/\∃e,gW N a e/\K e w) l a w
section
variable{x y:Code}{id:Nat}
variable {P:Program} {N:Nat} {Q:gV} {e:Env} {w:aa}
def wE(K:Env->aa->Prop)(Q:gV):gV
 | .normal,e,w=>K e w
 | x,e,w=>Q x e w
def ER(id:Nat)(Q:gV):gV
 | .exit Hp,e,w=>if Hp=id then Q .normal e w else Q (.exit Hp) e w
 | x,e,w=>Q x e w
theorem Cd.mono{c:Code}{Q':gV}(hq:∀x e w,Q x e w->Q' x e w)(h:Cd P N c Q e w):Cd P N c Q' e w:=
 .mk' fun a ha=>wp_mono (h.run a ha) fun _ _ _ ⟨e,he,q⟩=> ⟨e,he,hq _ _ _ q⟩
theorem Cd.seq(h:Cd P N x (wE (Cd P N y Q) Q) e w):Cd P N (.seq x y) Q e w:= .mk' fun a ha=>
 wp_seq (wp_mono (h.run a ha) fun ex a' w' ⟨e',nX,q⟩=>by
  cases ex<;>first | exact q.run a' nX | exact⟨e',nX,q⟩)
theorem Cd.skip(h:Q .normal e w):Cd P N .skip Q e w:= .mk' fun a ha=>wp_skip ⟨e,ha,h⟩
theorem Cd.ret(h:Q .ret e w):Cd P N .ret Q e w:= .mk' fun a ha=>wp_ret ⟨e,ha,h⟩
theorem Cd.exit(h:Q (.exit id) e w):Cd P N (.exit id) Q e w:= .mk' fun a ha=>wp_exit ⟨e,ha,h⟩
theorem Cd.block{c:Code}(h:Cd P N c (ER id Q) e w):Cd P N (.block id c) Q e w:= .mk' fun a ha=>
 wp_block (wp_mono (h.run a ha) fun ex a' w' ⟨e',nX,q⟩=>by
  cases ex<;>first
   | exact⟨e',nX,q⟩
   | (
    rename_i Hp;simp only [ER]at q;simp only [Exit.inBlock]
    split
    ·rename_i hid;rw [aJ hid]at q;exact⟨e',nX,q⟩
    ·rename_i hid;rw [aC hid]at q;exact⟨e',nX,q⟩))
theorem Cd.cond{c:ae}{t:Bool}(hc:ev e c= .bool t)(h1:t=true->Cd P N x Q e w)(h2:t=false->Cd P N y Q e w):Cd P N (.cond c x y) Q e w:= .mk' fun a ha=>
 wp_cond_split (t:=t) (by rw [ha.eval,hc]) (fun h=> (h1 h).run a ha) (fun h=> (h2 h).run a ha)
theorem Cd.fW{c:ae}(hc:ev e c= .bool true)(h1:Cd P N x Q e w):Cd P N (.cond c x y) Q e w:= .cond hc (fun _=>h1) (fun h=>by cases h)
theorem Cd.dO{c:ae}(hc:ev e c= .bool false)(h1:Cd P N y Q e w):Cd P N (.cond c x y) Q e w:= .cond hc (fun h=>by cases h) (fun _=>h1)
theorem aM{c:ae}(p:Prop)[Decidable p](hc:ev e c= .bool (decide p))(h1:p->Cd P N x Q e w)(h2:¬p->Cd P N y Q e w):Cd P N (.cond c x y) Q e w:=
 .cond hc (fun h=>h1 (mT h)) (fun h=>h2 (of_decide_eq_false h))
theorem Cd.region{l:List Oper}(h:ak P N l.toArray (fun e w=>Q .normal e w) l e w):Cd P N (.region id l.toArray false) Q e w:= .mk' fun a ha=>
 wp_mono (wp_region_lit (h.run a ha)) fun _ _ _ ⟨hx,e',nX,q⟩=> ⟨e',nX,by rw [hx];exact q⟩
def Mt(e:Env):List (Nat×ab)->Prop
 | []=>True
 | (i,v)::r=>e i=v/\Mt e r
theorem ac4{e:Env}:∀{l:List (Nat×Value)},l.map (fun p=>e p.1)=l.map (fun p=>p.2)->Mt e l
 | [],_=>True.intro
 | _::_,h=>⟨(List.cons.inj h).1,ac4 (List.cons.inj h).2⟩
def ext(e:Env):List (Nat×ab)->Env
 | []=>e
 | (i,v)::r=>bt (ext e r) i v
theorem vd:∀ {l:List (Nat×ab)} {e:Env},Mt e l->ext e l=e
 | [],_,_=>rfl
 | (i,v)::r,e,h=>by
  show bt (ext e r) i v=e;rw [vd h.2];funext j;unfold bt;cases hb:Nat.beq j i with
  | false=>rfl
  | true=>rw [lH hb,h.1];rfl
theorem Cd.loop{α:Type}{c:Code}(F:α->List (Nat×ab))(I:α->aa->Prop)(m:α->Nat)(s0:α)(hF:Mt e (F s0))(hI:I s0 w)
 (round:∀s e w,I s w->Cd P N c (wE (fun e' w'=>∃s',m s'<m s/\Mt e' (F s')/\I s' w') Q) (ext e (F s)) w):Cd P N (.loop c) Q e w:=by
 have key:∀n s e w,m s=n->Mt e (F s)->I s w->∀a,gW N a e->(Code.loop c).wp P (low N Q) a w:=by
  intro n0 s e w hn hm FN a ha
  let J:Act->aa->Prop:=fun a w=>∃s e,gW N a e/\Mt e (F s)/\I s w
  refine wp_loop_ghost (I:=fun n a w=>∃s e,m s=n/\gW N a e/\Mt e (F s)/\I s w) n0 ⟨s,e,hn,ha,hm,FN⟩ ?_;intro n a w ⟨s,e,hn,ha,hm,hI⟩;have h1:=round s e w hI;rw [vd hm]at h1;refine wp_mono (h1.run a ha) fun ex a' w' ⟨e',nX,q⟩=>?_
  cases ex<;>first
   | exact⟨e',nX,q⟩
   | (
    obtain⟨s',cI,ic,FN⟩:=q;exact⟨m s',by omega,s',e',O,nX,ic,FN⟩)
 exact .mk' fun a ha=>key _ s0 e w O hF hI a ha
end
class bK(P:Program)(t:ad)(d:outParam TypeDesc):Type where
 out:P.underlying t=some d
class bF(P:Program)(t:ad)(z:outParam ab)(size bytes:outParam Nat):Prop where
 out:(P.info? t).map (fun i=> (i.zero,i.size,i.bytes))=some (some z,size,bytes)
class bk(P:Program)(F:FuncId):Prop where
 out : ∃ fn, P.funcs[F]? = some fn /\ (fn.name == "runtime.NumGoroutine") = false /\ fn.body.isNone = false
theorem bF.get(P:Program)(t:ad){z:ab}{s b:Nat}[h:bF P t z s b]:∃i,P.info? t=some i/\i.zero=some z/\i.size=s/\i.bytes=b:=by
 obtain⟨i,hi,he⟩:=Option.map_eq_some_iff.1 h.out;simp only [Prod.mk.injEq]at he;exact⟨i,hi,he.1,he.2.1,he.2.2⟩
section
variable{j dj d:Nat}{b want:Bool}{x:ae}
variable {P:Program} {N:Nat} {ops:Array Oper} {K:Env->aa->Prop} {rest:List Oper} {e:Env} {w w':aa} {d:Nat} {ty:ad} {pos:String} {af:Array Edge}
theorem ak.n(h:K e w):ak P N ops K [] e w:= .mk' fun a ha=>wpList_nil ⟨rfl,e,ha,h⟩
theorem ak.val{op:Op}{v:ab}(hr:(execOp (ev e) ⟨some d,op,ty,pos,af,none⟩).run P w= .ok (.value v) w')(hb:Nat.blt d N=true)(hK:ak P N ops K rest (bt e d v) w'):
 ak P N ops K (⟨some d,op,ty,pos,af,none⟩::rest) e w:= .mk' fun a ha=>by
 refine wpList_plain O fun J hJ=>?_
 unfold Oper.wp;rw [ha.eval,hr];exact hJ _ _ (hK.run _ (ha.put hb v))
theorem ak.unit{op:Op}(hr:(execOp (ev e) ⟨none,op,ty,pos,af,none⟩).run P w= .ok .skip w')(hK:ak P N ops K rest e w'):
 ak P N ops K (⟨none,op,ty,pos,af,none⟩::rest) e w:= .mk' fun a ha=>by
 refine wpList_plain O fun J hJ=>?_
 unfold Oper.wp;rw [ha.eval,hr];exact hJ _ _ (hK.run _ ha)
theorem ak.O7{op:Op}{v:ab}(hr:(execOp (ev e) ⟨none,op,ty,pos,af,none⟩).run P w= .ok (.value v) w')(hK:ak P N ops K rest e w'):
 ak P N ops K (⟨none,op,ty,pos,af,none⟩::rest) e w:= .mk' fun a ha=>by
 refine wpList_plain O fun J hJ=>?_
 unfold Oper.wp;rw [ha.eval,hr];exact hJ _ _ (hK.run _ ha)
theorem Pb{a:Act}(ha:gW N a e)(hj:(ops[j]?).bind (·.dst)=some dj)(cI:Nat.blt dj N=true)(hv:e dj= .bool b):yielded ops a.tmps j=some b:=by
 have h1:dj<a.tmps.size:=by rw [ha.size];simpa [Nat.blt_eq]using cI
 have h2:=ha.get dj;rw [gA,nH h1,Option.getD_some,hv]at h2;simp [yielded,hj,nH h1,h2]
theorem acR{o:Option Tmp}{op:Op}(hj:(ops[j]?).bind (·.dst)=some dj)(cI:Nat.blt dj N=true)(hv:e dj= .bool want)(hK:ak P N ops K (⟨o,op,ty,pos,af,none⟩::rest) e w):ak P N ops K (⟨o,op,ty,pos,af,some (j,want)⟩::rest) e w:= .mk' fun a ha=>by
 have h:=hK.run a ha;have hy:=Pb (ops:=ops) ha hj cI hv;have hw:Region.wanted (⟨o,op,ty,pos,af,some (j,want)⟩:Oper) (yielded ops a.tmps)=true:=by
  simp [Region.wanted,hy]
 unfold wpList at h|-;rw [aJ hw];rw [aJ (show Region.wanted (⟨o,op,ty,pos,af,none⟩:Oper) (yielded ops a.tmps)=true from rfl)]at h;exact h
theorem ar{o:Option Tmp}{op:Op}(q9:((ops[j]?).bind (·.dst),Nat.blt dj N,e dj)=(some dj,true,.bool want))(hK:ak P N ops K (⟨o,op,ty,pos,af,none⟩::rest) e w):ak P N ops K (⟨o,op,ty,pos,af,some (j,want)⟩::rest) e w:=acR (congrArg (fun p=>p.1) q9) (congrArg (fun p=>p.2.1) q9) (congrArg (fun p=>p.2.2) q9) hK
theorem acS{op:Op}(hj:(ops[j]?).bind (·.dst)=some dj)(cI:Nat.blt dj N=true)(hv:e dj= .bool b)(b9:(b==want)=false)(hb:Nat.blt d N=true)(hK:ak P N ops K rest (bt e d undef) w):ak P N ops K (⟨some d,op,ty,pos,af,some (j,want)⟩::rest) e w:= .mk' fun a ha=>by
 have hy:=Pb (ops:=ops) ha hj cI hv;refine wpList_skip ?_ (hK.run _ (ha.put hb undef));simp only [Region.wanted];rw [hy];simpa using b9
theorem av{op:Op}(q9:((ops[j]?).bind (·.dst),Nat.blt dj N,e dj,(b==want),Nat.blt d N)=(some dj,true,.bool b,false,true))(hK:ak P N ops K rest (bt e d undef) w):ak P N ops K (⟨some d,op,ty,pos,af,some (j,want)⟩::rest) e w:=acS (congrArg (fun p=>p.1) q9) (congrArg (fun p=>p.2.1) q9) (congrArg (fun p=>p.2.2.1) q9) (congrArg (fun p=>p.2.2.2.1) q9) (congrArg (fun p=>p.2.2.2.2) q9) hK
theorem acT{op:Op}(hj:(ops[j]?).bind (·.dst)=some dj)(cI:Nat.blt dj N=true)(hv:e dj=undef)(hb:Nat.blt d N=true)(hK:ak P N ops K rest (bt e d undef) w):ak P N ops K (⟨some d,op,ty,pos,af,some (j,want)⟩::rest) e w:= .mk' fun a ha=>by
 refine wpList_skip ?_ (hK.run _ (ha.put hb undef));have h1:dj<a.tmps.size:=by rw [ha.size];simpa [Nat.blt_eq]using cI
 have h2:=ha.get dj;rw [gA,nH h1,Option.getD_some,hv]at h2;simp [Region.wanted,yielded,hj,nH h1,h2,undef]
theorem bW{op:Op}(q9:((ops[j]?).bind (·.dst),Nat.blt dj N,e dj,Nat.blt d N)=(some dj,true,undef,true))(hK:ak P N ops K rest (bt e d undef) w):ak P N ops K (⟨some d,op,ty,pos,af,some (j,want)⟩::rest) e w:=acT (congrArg (fun p=>p.1) q9) (congrArg (fun p=>p.2.1) q9) (congrArg (fun p=>p.2.2.1) q9) (congrArg (fun p=>p.2.2.2) q9) hK
theorem O5{e:Env}{v:ab}(h:e d=v):bt e d v=e:=by
 funext j;unfold bt;cases hb:Nat.beq j d with
 | false=>rfl
 | true=>rw [lH hb,h];rfl
theorem ak.split{l:List Oper}(d:Nat)(hv:e d= .bool b)(h1:b=true->ak P N ops K l (bt e d (.bool true)) w)(h2:b=false->ak P N ops K l (bt e d (.bool false)) w):ak P N ops K l e w:=by
 cases b
 ·have:=h2 O;rwa [O5 hv]at this
 have:=h1 O;rwa [O5 hv]at this
theorem bX{l:List Oper}(d:Nat){p:Prop}[Decidable p](hv:e d= .bool (decide p))(h1:p->ak P N ops K l (bt e d (.bool true)) w)(h2:¬p->ak P N ops K l (bt e d (.bool false)) w):ak P N ops K l e w:=
 .split d hv (fun h=>h1 (mT h)) (fun h=>h2 (of_decide_eq_false h))
def uM:Op->Option ae
 | .move x=>some x
 | .assign x=>some x
 | _=>none
theorem ZT{op:Op}(h:uM op=some x):(execOp (ev e) ⟨some d,op,ty,pos,af,none⟩).run P w= .ok (.value (ev e x)) w:=by
 cases op<;>simp [uM]at h<;>subst h<;>rfl
theorem ak.mv{op:Op}{v:ab}(mP:uM op=some x)(hx:ev e x=v)(hb:Nat.blt d N=true)(hK:ak P N ops K rest (bt e d v) w):ak P N ops K (⟨some d,op,ty,pos,af,none⟩::rest) e w:=
 .val (by rw [ZT mP,hx]) hb hK
theorem ko{op:Op}{k:IntKind}{i:Int}(mP:uM op=some x)(hx:ev e x= .int k i)(hb:Nat.blt d N=true)(hK:ak P N ops K rest (bt e d (.int k i)) w):ak P N ops K (⟨some d,op,ty,pos,af,none⟩::rest) e w:= .mv mP hx hb hK
theorem lJ{op:Op}{A:ai}{n c:Nat}(mP:uM op=some x)(hx:ev e x= .slice A n c)(hb:Nat.blt d N=true)(hK:ak P N ops K rest (bt e d (.slice A n c)) w):ak P N ops K (⟨some d,op,ty,pos,af,none⟩::rest) e w:= .mv mP hx hb hK
theorem BP{op:Op}(mP:uM op=some x)(hx:ev e x= .bool b)(hb:Nat.blt d N=true)(hK:ak P N ops K rest (bt e d (.bool b)) w):ak P N ops K (⟨some d,op,ty,pos,af,none⟩::rest) e w:= .mv mP hx hb hK
theorem wS{op:Op}{p:ai}(mP:uM op=some x)(hx:ev e x= .pointer p)(hb:Nat.blt d N=true)(hK:ak P N ops K rest (bt e d (.pointer p)) w):ak P N ops K (⟨some d,op,ty,pos,af,none⟩::rest) e w:= .mv mP hx hb hK
theorem BQ{op:Op}{cs:Array ab}(mP:uM op=some x)(hx:ev e x= .tuple cs)(hb:Nat.blt d N=true)(hK:ak P N ops K rest (bt e d (.tuple cs)) w):ak P N ops K (⟨some d,op,ty,pos,af,none⟩::rest) e w:= .mv mP hx hb hK
section
variable{b:Bool}
variable {x y:ae} {xt yt:ad} {i j:Int}
theorem acX(hx:ev e x=aj i)(hy:ev e y=aj j)(hb:Nat.blt d N=true)(hr: -9223372036854775808<=i+j/\i+j<=9223372036854775807)(hK:ak P N ops K rest (bt e d (aj (i+j))) w):
 ak P N ops K (⟨some d,.binOp .add xt x y yt,ty,pos,af,none⟩::rest) e w:=
 .val (by simp [execOp,hx,hy,eqGuard,binOp,Op.intArith,IntWalk.i64_in _ hr]) hb hK
theorem aL(q9:(ev e x,ev e y,Nat.blt d N)=(aj i,aj j,true))(hK:ak P N ops K rest (bt e d (aj (i+j))) w)(hr:-9223372036854775808<=i+j/\i+j<=9223372036854775807:=by omega):ak P N ops K (⟨some d,.binOp .add xt x y yt,ty,pos,af,none⟩::rest) e w:=acX (congrArg (fun p=>p.1) q9) (congrArg (fun p=>p.2.1) q9) (congrArg (fun p=>p.2.2) q9) hr hK
theorem je(hx:ev e x=aj i)(hy:ev e y=aj j)(hb:Nat.blt d N=true)(hr: -9223372036854775808<=i - j/\i - j<=9223372036854775807)(hK:ak P N ops K rest (bt e d (aj (i - j))) w):
 ak P N ops K (⟨some d,.binOp .sub xt x y yt,ty,pos,af,none⟩::rest) e w:=
 .val (by simp [execOp,hx,hy,eqGuard,binOp,Op.intArith,IntWalk.i64_in _ hr]) hb hK
theorem gU(hx:ev e x=aj i)(hy:ev e y=aj j)(hb:Nat.blt d N=true)(hr: -9223372036854775808<=i*j/\i*j<=9223372036854775807)(hK:ak P N ops K rest (bt e d (aj (i*j))) w):
 ak P N ops K (⟨some d,.binOp .mul xt x y yt,ty,pos,af,none⟩::rest) e w:=
 .val (by simp [execOp,hx,hy,eqGuard,binOp,Op.intArith,IntWalk.i64_in _ hr]) hb hK
theorem ak.quo(hx:ev e x=aj i)(hy:ev e y=aj j)(hb:Nat.blt d N=true)(hr:0<=i/\i<=9223372036854775807/\1<=j)(hK:ak P N ops K rest (bt e d (aj (i / j))) w):
 ak P N ops K (⟨some d,.binOp .quo xt x y yt,ty,pos,af,none⟩::rest) e w:=
 .val (by simp [execOp,hx,hy,eqGuard,binOp,Op.intDiv,IntWalk.i64_quo _ _ hr,show j≠0 by omega]) hb hK
theorem ak.rem(hx:ev e x=aj i)(hy:ev e y=aj j)(hb:Nat.blt d N=true)(hr:0<=i/\1<=j)(hK:ak P N ops K rest (bt e d (aj (i%j))) w):
 ak P N ops K (⟨some d,.binOp .rem xt x y yt,ty,pos,af,none⟩::rest) e w:=
 .val (by simp [execOp,hx,hy,eqGuard,binOp,Op.intDiv,Int.tmod_eq_emod_of_nonneg hr.1,show j≠0 by omega]) hb hK
theorem ak.lss{k:IntKind}(hx:ev e x= .int k i)(hy:ev e y= .int k j)(hb:Nat.blt d N=true)(hK:ak P N ops K rest (bt e d (.bool (decide (i<j)))) w):
 ak P N ops K (⟨some d,.binOp .lss xt x y yt,ty,pos,af,none⟩::rest) e w:= .val (by simp [execOp,hx,hy,eqGuard,binOp,Op.intCmp]) hb hK
theorem ak.leq{k:IntKind}(hx:ev e x= .int k i)(hy:ev e y= .int k j)(hb:Nat.blt d N=true)(hK:ak P N ops K rest (bt e d (.bool (decide (i<=j)))) w):
 ak P N ops K (⟨some d,.binOp .leq xt x y yt,ty,pos,af,none⟩::rest) e w:= .val (by simp [execOp,hx,hy,eqGuard,binOp,Op.intCmp]) hb hK
theorem ak.gtr{k:IntKind}(hx:ev e x= .int k i)(hy:ev e y= .int k j)(hb:Nat.blt d N=true)(hK:ak P N ops K rest (bt e d (.bool (decide (j<i)))) w):
 ak P N ops K (⟨some d,.binOp .gtr xt x y yt,ty,pos,af,none⟩::rest) e w:= .val (by simp [execOp,hx,hy,eqGuard,binOp,Op.intCmp]) hb hK
theorem ak.geq{k:IntKind}(hx:ev e x= .int k i)(hy:ev e y= .int k j)(hb:Nat.blt d N=true)(hK:ak P N ops K rest (bt e d (.bool (decide (j<=i)))) w):
 ak P N ops K (⟨some d,.binOp .geq xt x y yt,ty,pos,af,none⟩::rest) e w:= .val (by simp [execOp,hx,hy,eqGuard,binOp,Op.intCmp]) hb hK
theorem QV(i j:Int):(i==j)=decide (i=j):=by by_cases h:i=j<;>simp [h]
theorem Q7(i j:Int):(i !=j)=decide (¬i=j):=by by_cases h:i=j<;>simp [h]
theorem ak.eql{k:IntKind}(hx:ev e x= .int k i)(hy:ev e y= .int k j)(hb:Nat.blt d N=true)(hK:ak P N ops K rest (bt e d (.bool (decide (i=j)))) w):
 ak P N ops K (⟨some d,.binOp .eql xt x y yt,ty,pos,af,none⟩::rest) e w:= .val (by rw [<-QV];simp [execOp,hx,hy,eqGuard,binOp,Op.intCmp]) hb hK
theorem ak.neq{k:IntKind}(hx:ev e x= .int k i)(hy:ev e y= .int k j)(hb:Nat.blt d N=true)(hK:ak P N ops K rest (bt e d (.bool (decide (¬i=j)))) w):
 ak P N ops K (⟨some d,.binOp .neq xt x y yt,ty,pos,af,none⟩::rest) e w:= .val (by rw [<-Q7];simp [execOp,hx,hy,eqGuard,binOp,Op.intCmp]) hb hK
theorem eI(hx:ev e x= .bool b)(hb:Nat.blt d N=true)(hK:ak P N ops K rest (bt e d (.bool (!b))) w):
 ak P N ops K (⟨some d,.unOp .not xt x,ty,pos,af,none⟩::rest) e w:= .val (by simp [execOp,hx,Op.unary]) hb hK
theorem dM{p:Prop}[Decidable p](hx:ev e x= .bool (decide p))(hb:Nat.blt d N=true)(hK:ak P N ops K rest (bt e d (.bool (decide ¬p))) w):
 ak P N ops K (⟨some d,.unOp .not xt x,ty,pos,af,none⟩::rest) e w:= .val (by simp [execOp,hx,Op.unary]) hb hK
theorem ak.Y9{c:ae}(hc:ev e c= .bool true)(hx:ev e x= .bool b)(hb:Nat.blt d N=true)(hK:ak P N ops K rest (bt e d (.bool b)) w):
 ak P N ops K (⟨some d,.pick c x y,ty,pos,af,none⟩::rest) e w:= .val (by simp [execOp,hc,hx,asBool]) hb hK
theorem ak.Y8{c:ae}(hc:ev e c= .bool false)(hx:ev e y= .bool b)(hb:Nat.blt d N=true)(hK:ak P N ops K rest (bt e d (.bool b)) w):
 ak P N ops K (⟨some d,.pick c x y,ty,pos,af,none⟩::rest) e w:= .val (by simp [execOp,hc,hx,asBool]) hb hK
end
theorem ak.extract{x:ae}{vs:Array ab}{ix:Nat}{v:ab}(hx:ev e x= .tuple vs)(hv:vs[ix]?=some v)(hb:Nat.blt d N=true)(hK:ak P N ops K rest (bt e d v) w):
 ak P N ops K (⟨some d,.extract x ix,ty,pos,af,none⟩::rest) e w:= .val (by simp [execOp,hx,Instr.extract,hv]) hb hK
theorem aZ{x:ae}{t el:ad}{A:ai}{n c:Nat}[bK P t (.slice el)](hx:ev e x= .slice A n c)(hb:Nat.blt d N=true)(hK:ak P N ops K rest (bt e d (aj n)) w):
 ak P N ops K (⟨some d,.call ⟨.builtin .len, #[x], #[t]⟩,ty,pos,af,none⟩::rest) e w:=
 .val (by simp [execOp,resolve,invoke,builtin,Builtin.len_,hx,run_underlying (bK.out (P:=P) (t:=t)),goInt]) hb hK
theorem ak.YR{x:ae}{a:Addr}(hx:ev e x= .pointer (some a))(hb:Nat.blt d N=true)(hK:ak P N ops K rest (bt e d (.pointer (some a))) w):
 ak P N ops K (⟨some d,.nilCheck x,ty,pos,af,none⟩::rest) e w:= .val (by simp [execOp,hx]) hb hK
def aE(P:Program)(F:FuncId)(vs:List ab)(w:aa)(R:ab->aa->Prop):Prop:=Calls P F vs.toArray w fun x w'=>∃v,x= .returned v/\R v w'
theorem aE.mono{F:FuncId}{vs:List ab}{R R':ab->aa->Prop}(h:aE P F vs w R)(hR:∀v w',R v w'->R' v w'):aE P F vs w R':=
 Calls.mono h fun _ _ ⟨v,he,hv⟩=> ⟨v,he,hR _ _ hv⟩
theorem acW{f:ae}{F:FuncId}{c2:Array ab}{l:List ae}{vs:List ab}{R:ab->aa->Prop}{Jp:Array ad}[hF:bk P F](hC:aE P F vs w R)(hf:ev e f= .func (.func F) #[] c2)(hv:l.map (ev e)++c2.toList=vs)(hb:Nat.blt d N=true)(hK:∀v w',R v w'->ak P N ops K rest (bt e d v) w'):ak P N ops K (⟨some d,.call ⟨.value f,l.toArray,Jp⟩,ty,pos,af,none⟩::rest) e w:= .mk' fun a ha=>by
 obtain⟨fn,h1,h2,h3⟩:=hF.out;have nt:(execOp (ev e) ⟨some d,.call ⟨.value f,l.toArray,Jp⟩,ty,pos,af,none⟩).run P w= .ok (.enter F vs.toArray) w:=by
  have h4:(l.toArray.map (ev e)++c2)=vs.toArray:=by
   rw [<-hv];simp
  have h5 : ¬ fn.name = "runtime.NumGoroutine" := by simpa using h2
  have h6:¬fn.body=none:=by intro h;rw [h]at h3;cases h3
  simp [execOp,resolve,hf,Deferred.ofValue,invoke,callFunc,h1,h5,h6];exact hv
 refine wpList_plain O fun J hJ=>?_
 unfold Oper.wp;rw [ha.eval,nt];refine Calls.mono hC fun x w' ⟨v,hx,hR⟩=>?_
 subst hx;exact hJ _ _ ((hK v w' hR).run _ (ha.put hb v))
theorem aH{f:ae}{F:FuncId}{c2:Array ab}{l:List ae}{vs:List ab}{R:ab->aa->Prop}{Jp:Array ad}[hF:bk P F](hC:aE P F vs w R)(q9:(ev e f,l.map (ev e)++c2.toList,Nat.blt d N)=(.func (.func F) #[] c2,vs,true))(hK:∀v w',R v w'->ak P N ops K rest (bt e d v) w'):ak P N ops K (⟨some d,.call ⟨.value f,l.toArray,Jp⟩,ty,pos,af,none⟩::rest) e w:=acW hC (congrArg (fun p=>p.1) q9) (congrArg (fun p=>p.2.1) q9) (congrArg (fun p=>p.2.2) q9) hK
theorem tQ{K:Env->aa->Prop}{Q:gV}(h:K e w):wE K Q .normal e w:=h
theorem de{K:Env->aa->Prop}{Q:gV}(h:Q .ret e w):wE K Q .ret e w:=h
theorem bp{K:Env->aa->Prop}{Q:gV}{id:Nat}(h:Q (.exit id) e w):wE K Q (.exit id) e w:=h
def EL(vs:List ab):Env:=fun i=>vs.getD i undef
def H8(R:ab->aa->Prop):gV
 | .normal,_,w=>R (.tuple #[]) w
 | .ret,_,w=>R (.tuple #[]) w
 | _,_,_=>False
def Bq(t:Nat)(R:ab->aa->Prop):gV
 | .normal,e,w=>R (e t) w
 | .ret,e,w=>R (e t) w
 | _,_,_=>False
def wm(t u:Nat)(R:ab->aa->Prop):gV
 | .normal,e,w=>R (.tuple #[e t,e u]) w
 | .ret,e,w=>R (.tuple #[e t,e u]) w
 | _,_,_=>False
def Ib(t u x:Nat)(R:ab->aa->Prop):gV
 | .normal,e,w=>R (.tuple #[e t,e u,e x]) w
 | .ret,e,w=>R (.tuple #[e t,e u,e x]) w
 | _,_,_=>False
theorem ZD(vs:List ab)(n:Nat)(h:Nat.ble vs.length n=true):gW n ⟨vs.toArray++Array.replicate (n - vs.toArray.size) undef,[]⟩ (EL vs):=by
 have h':vs.length<=n:=by simpa using h
 refine⟨O,by simp;omega,fun i=>?_⟩;simp only [EL];rw [gA,df,Array.getElem?_append]
 split
 ·simp
 rename_i hi;simp at hi;rw [mD hi,Array.getElem?_replicate]
 split<;>rfl
theorem bQ{R:ab->aa->Prop}{t:Nat}{b:Bool}(h:e t= .bool b)(hR:R (.bool b) w):Bq t R .ret e w:=by show R (e t) w;rw [h];exact hR
theorem fP{R:ab->aa->Prop}{t:Nat}{k:IntKind}{i:Int}(h:e t= .int k i)(hR:R (.int k i) w):Bq t R .ret e w:=by show R (e t) w;rw [h];exact hR
theorem fA{R:ab->aa->Prop}{t:Nat}{A:ai}{n c:Nat}(h:e t= .slice A n c)(hR:R (.slice A n c) w):Bq t R .ret e w:=by show R (e t) w;rw [h];exact hR
theorem D1{R:ab->aa->Prop}{t:Nat}{v:ab}(h:e t=v)(hR:R v w):Bq t R .ret e w:=by show R (e t) w;rw [h];exact hR
theorem Bp{R:ab->aa->Prop}(hR:R (.tuple #[]) w):H8 R .ret e w:=hR
theorem H9{R:ab->aa->Prop}(hR:R (.tuple #[]) w):H8 R .normal e w:=hR
theorem uT{R:ab->aa->Prop}{t u:Nat}{A:ai}{n c:Nat}{k:IntKind}{i:Int}(h:e t= .slice A n c)(h2:e u= .int k i)(hR:R (.tuple #[.slice A n c,.int k i]) w):wm t u R .ret e w:=by show R (.tuple #[e t,e u]) w;rw [h,h2];exact hR
theorem Br{R:ab->aa->Prop}{t u:Nat}{k':IntKind}{j:Int}{k:IntKind}{i:Int}(h:e t= .int k' j)(h2:e u= .int k i)(hR:R (.tuple #[.int k' j,.int k i]) w):wm t u R .ret e w:=by show R (.tuple #[e t,e u]) w;rw [h,h2];exact hR
theorem wo{R:ab->aa->Prop}{t u:Nat}{b:Bool}{k:IntKind}{i:Int}(h:e t= .bool b)(h2:e u= .int k i)(hR:R (.tuple #[.bool b,.int k i]) w):wm t u R .ret e w:=by show R (.tuple #[e t,e u]) w;rw [h,h2];exact hR
theorem ZF{R:ab->aa->Prop}{t u:Nat}{A:ai}{n c:Nat}{b:Bool}(h:e t= .slice A n c)(h2:e u= .bool b)(hR:R (.tuple #[.slice A n c,.bool b]) w):wm t u R .ret e w:=by show R (.tuple #[e t,e u]) w;rw [h,h2];exact hR
theorem bm{F:FuncId}{fn:Func}{c:Code}{vs:List ab}{R:ab->aa->Prop}{Q:gV}(hf:P.funcs[F]?=some fn)(hc:fn.body=some c)(hn:fn.ntmps=N)(hl:Nat.ble vs.length N=true)(hQ:∀x a e w,gW N a e->Q x e w->bodyPost P fn (fun x w'=>∃v,x= .returned v/\R v w') x a w)(h:Cd P N c Q (EL vs) w):aE P F vs w R:=by
 subst hn;exact calls_of_wp hf hc (wp_mono (h.run _ (ZD vs _ hl)) fun x a w ⟨e,he,q⟩=>hQ x a e w he q)
theorem Og{fn:Func}{R:ab->aa->Prop}(hr:fn.results= #[]):∀x a e w,gW N a e->H8 R x e w->bodyPost P fn (fun x w'=>∃v,x= .returned v/\R v w') x a w:=by
 intro x a e w he q;cases x<;>first
  | exact q.elim
  | exact⟨he.defers,_,results_none hr _ _ _,_,rfl,q⟩
theorem bU{fn:Func}{R:ab->aa->Prop}{t:Nat}(hr:fn.results= #[.tmp t]):∀x a e w,gW N a e->Bq t R x e w->bodyPost P fn (fun x w'=>∃v,x= .returned v/\R v w') x a w:=by
 intro x a e w he q;have hg:=he.get t;cases x<;>first
  | exact q.elim
  | exact⟨he.defers,_,results_tmp hr _ _ _,_,rfl,by rw [hg];exact q⟩
theorem my{fn:Func}{R:ab->aa->Prop}{t u:Nat}(hr:fn.results= #[.tmp t,.tmp u]):∀x a e w,gW N a e->wm t u R x e w->bodyPost P fn (fun x w'=>∃v,x= .returned v/\R v w') x a w:=by
 intro x a e w he q;have hg:=he.get t;have hh:=he.get u;cases x<;>first
  | exact q.elim
  | exact⟨he.defers,_,results_tmp2 hr _ _ _,_,rfl,by rw [hg,hh];exact q⟩
theorem Oh{fn:Func}{R:ab->aa->Prop}{t u s:Nat}(hr:fn.results= #[.tmp t,.tmp u,.tmp s]):∀x a e w,gW N a e->Ib t u s R x e w->bodyPost P fn (fun x w'=>∃v,x= .returned v/\R v w') x a w:=by
 intro x a e w he q;have hg:=he.get t;have hh:=he.get u;have hi:=he.get s;cases x<;>first
  | exact q.elim
  | exact⟨he.defers,_,results_tmp3 hr _ _ _,_,rfl,by rw [hg,hh,hi];exact q⟩
end
def hd:ab->Option ab
 | .int k n=>some (.int k n)
 | .slice a n c=>some (.slice a n c)
 | .bool b=>some (.bool b)
 | .pointer a=>some (.pointer a)
 | .agg cs=>some (.agg cs)
 | .func f a b=>some (.func f a b)
 | .tuple cs=>some (.tuple cs)
 | .string s=>some (.string s)
 | .map r=>some (.map r)
 | _=>none
theorem Gj{v u:ab}(h:hd v=some u):v=u:=by cases v<;>simp [hd]at h<;>exact h
def HM(e:Env)(x y:ae):Option ab:=
 match ev e x,ev e y with
 | .int .i64 a,.int .i64 b=>some (.bool (decide (a<b)))
 | _,_=>none
theorem YB{e:Env}{x y:ae}{v:ab}(h:HM e x y=some v):∃a b,ev e x=aj a/\ev e y=aj b/\v= .bool (decide (a<b)):=by
 unfold HM at h
 split at h
 ·rename_i a b h1 h2;exact⟨a,b,h1,h2,(bC h).symm⟩
 cases h
def HI(e:Env)(x y:ae):Option ab:=
 match ev e x,ev e y with
 | .int .i64 a,.int .i64 b=>some (.bool (decide (a<=b)))
 | _,_=>none
theorem Yq{e:Env}{x y:ae}{v:ab}(h:HI e x y=some v):∃a b,ev e x=aj a/\ev e y=aj b/\v= .bool (decide (a<=b)):=by
 unfold HI at h
 split at h
 ·rename_i a b h1 h2;exact⟨a,b,h1,h2,(bC h).symm⟩
 cases h
def FD(e:Env)(x y:ae):Option ab:=
 match ev e x,ev e y with
 | .int .i64 a,.int .i64 b=>some (.bool (decide (b<a)))
 | _,_=>none
theorem S8{e:Env}{x y:ae}{v:ab}(h:FD e x y=some v):∃a b,ev e x=aj a/\ev e y=aj b/\v= .bool (decide (b<a)):=by
 unfold FD at h
 split at h
 ·rename_i a b h1 h2;exact⟨a,b,h1,h2,(bC h).symm⟩
 cases h
def Fp(e:Env)(x y:ae):Option ab:=
 match ev e x,ev e y with
 | .int .i64 a,.int .i64 b=>some (.bool (decide (b<=a)))
 | _,_=>none
theorem SP{e:Env}{x y:ae}{v:ab}(h:Fp e x y=some v):∃a b,ev e x=aj a/\ev e y=aj b/\v= .bool (decide (b<=a)):=by
 unfold Fp at h
 split at h
 ·rename_i a b h1 h2;exact⟨a,b,h1,h2,(bC h).symm⟩
 cases h
def E8(e:Env)(x y:ae):Option ab:=
 match ev e x,ev e y with
 | .int .i64 a,.int .i64 b=>some (.bool (decide (a=b)))
 | _,_=>none
theorem R5{e:Env}{x y:ae}{v:ab}(h:E8 e x y=some v):∃a b,ev e x=aj a/\ev e y=aj b/\v= .bool (decide (a=b)):=by
 unfold E8 at h
 split at h
 ·rename_i a b h1 h2;exact⟨a,b,h1,h2,(bC h).symm⟩
 cases h
def HV(e:Env)(x y:ae):Option ab:=
 match ev e x,ev e y with
 | .int .i64 a,.int .i64 b=>some (.bool (decide (¬a=b)))
 | _,_=>none
theorem YQ{e:Env}{x y:ae}{v:ab}(h:HV e x y=some v):∃a b,ev e x=aj a/\ev e y=aj b/\v= .bool (decide (¬a=b)):=by
 unfold HV at h
 split at h
 ·rename_i a b h1 h2;exact⟨a,b,h1,h2,(bC h).symm⟩
 cases h
def It(e:Env):Op->Option ab
 | .move x=>hd (ev e x)
 | .assign x=>hd (ev e x)
 | .binOp .lss _ x y _=>HM e x y
 | .binOp .leq _ x y _=>HI e x y
 | .binOp .gtr _ x y _=>FD e x y
 | .binOp .geq _ x y _=>Fp e x y
 | .binOp .eql _ x y _=>E8 e x y
 | .binOp .neq _ x y _=>HV e x y
 | .extract x i=>match ev e x with
  | .tuple vs=> (match vs[i]? with
   | some v=>hd v
   | none=>none)
  | _=>none
 | .pick c x y=>match ev e c with
  | .bool true=> (match ev e x with
   | .bool b=>some (.bool b)
   | _=>none)
  | .bool false=> (match ev e y with
   | .bool b=>some (.bool b)
   | _=>none)
  | _=>none
 | _=>none
def pa(N:Nat)(e:Env)(o:Oper):Option (Nat×ab):=
 match o.guard,o.dst with
 | none,some d=> (match Nat.blt d N with
  | true=> (match It e o.op with
   | some v=>some (d,v)
   | none=>none)
  | false=>none)
 | _,_=>none
def wV(N:Nat):List Oper->Env->List Oper×Env
 | [],e=> ([],e)
 | o::l,e=>match pa N e o with
  | some (d,v)=>wV N l (bt e d v)
  | none=> (o::l,e)
section
variable {P:Program} {N:Nat} {ops:Array Oper} {K:Env->aa->Prop} {e:Env} {w:aa}
theorem ak.pa{o:Oper}{l:List Oper}{d:Nat}{v:ab}(h:pa N e o=some (d,v))(hK:ak P N ops K l (bt e d v) w):ak P N ops K (o::l) e w:=by
 obtain⟨dst,op,ty,pos,af,gd⟩:=o;unfold Vc.pa at h
 split at h
 ·rename_i d' hg xG;simp only at hg xG;subst hg xG
  split at h
  ·rename_i hb
   split at h
   ·rename_i v' hv;simp only [mF,Prod.mk.injEq]at h;obtain⟨rfl,rfl⟩:=h;replace hv:It e op=some v':=hv;unfold It at hv
    split at hv
    ·exact .mv O (Gj hv) hb hK
    ·exact .mv O (Gj hv) hb hK
    ·obtain⟨a,b,h1,h2,rfl⟩:=YB hv;exact .lss h1 h2 hb hK
    ·obtain⟨a,b,h1,h2,rfl⟩:=Yq hv;exact .leq h1 h2 hb hK
    ·obtain⟨a,b,h1,h2,rfl⟩:=S8 hv;exact .gtr h1 h2 hb hK
    ·obtain⟨a,b,h1,h2,rfl⟩:=SP hv;exact .geq h1 h2 hb hK
    ·obtain⟨a,b,h1,h2,rfl⟩:=R5 hv;exact .eql h1 h2 hb hK
    ·obtain⟨a,b,h1,h2,rfl⟩:=YQ hv;exact .neq h1 h2 hb hK
    ·split at hv
     ·rename_i h1
      split at hv
      ·rename_i h2;exact .extract h1 (by rw [h2,Gj hv]) hb hK
      cases hv
     cases hv
    ·split at hv
     ·rename_i h1
      split at hv
      ·rename_i b h2;obtain rfl:=bC hv;exact .Y9 h1 h2 hb hK
      cases hv
     ·rename_i h1
      split at hv
      ·rename_i b h2;obtain rfl:=bC hv;exact .Y8 h1 h2 hb hK
      cases hv
     cases hv
    cases hv
   cases h
  cases h
 cases h
theorem EH:∀ {l:List Oper} {e:Env},ak P N ops K (wV N l e).1 (wV N l e).2 w->ak P N ops K l e w
 | [],_,h=>h
 | o::l,e,h=>by
  unfold wV at h
  split at h
  ·rename_i d v hs;exact .pa hs (EH h)
  ·exact h
end
inductive Fr where
 | s (c:Code)
 | b (id:Nat)
def Qk(P:Program)(N:Nat)(Q:gV):List Fr->gV
 | []=>Q
 | .s y::r=>wE (Cd P N y (Qk P N Q r)) (Qk P N Q r)
 | .b id::r=>ER id (Qk P N Q r)
def yn:List Fr->Option (Code×List Fr)
 | []=>none
 | .s y::r=>some (y,r)
 | .b _::r=>yn r
def yo(id:Nat):List Fr->Option (List Fr)
 | []=>none
 | .s _::r=>yo id r
 | .b i::r=>match Nat.beq id i with
  | true=>some r
  | false=>yo id r
inductive wU where
 | c (c:Code) (s:List Fr) (e:Env)
 | o (ops:Array Oper) (l:List Oper) (s:List Fr) (e:Env)
 | n (e:Env)
 | r (e:Env)
 | x (id:Nat) (e:Env)
def wU.ok(P:Program)(N:Nat)(Q:gV)(w:aa):wU->Prop
 | .c y s e=>Cd P N y (Qk P N Q s) e w
 | .o ops l s e=>ak P N ops (fun e w=>Qk P N Q s .normal e w) l e w
 | .n e=>Q .normal e w
 | .r e=>Q .ret e w
 | .x id e=>Q (.exit id) e w
def run(N:Nat):Nat->Code->List Fr->Env->wU
 | 0,c,s,e=> .c c s e
 | n+1,c,s,e=>match c with
  | .seq x y=>run N n x (.s y::s) e
  | .block id x=>run N n x (.b id::s) e
  | .region id ops dr=>match dr with
   | true=> .c (.region id ops true) s e
   | false=>match wV N ops.toList e with
    | ([],e')=> (match yn s with
     | none=> .n e'
     | some (y,r)=>run N n y r e')
    | (o::l,e')=> .o ops (o::l) s e'
  | .skip=> (match yn s with
   | none=> .n e
   | some (y,r)=>run N n y r e)
  | .ret=> .r e
  | .exit id=> (match yo id s with
   | none=> .x id e
   | some s'=> (match yn s' with
    | none=> .n e
    | some (y,r)=>run N n y r e))
  | c=> .c c s e
def runN(N n:Nat)(s:List Fr)(e:Env):wU:=match yn s with
 | none=> .n e
 | some (y,r)=>run N n y r e
def yv(N n id:Nat)(s:List Fr)(e:Env):wU:=match yo id s with
 | none=> .x id e
 | some s'=>runN N n s' e
def wz(N n:Nat)(ops:Array Oper)(l:List Oper)(s:List Fr)(e:Env):wU:=match wV N l e with
 | ([],e')=>runN N n s e'
 | (o::l,e')=> .o ops (o::l) s e'
section
variable{id i1:Nat}{ops o1:Array Oper}{s1:List Fr}{e1:Env}{l l1:List Oper}{c1:Code}
variable {P:Program} {N:Nat} {Q:gV} {e:Env} {w:aa}
theorem Bm:∀ {s:List Fr},(match yn s with | none=>Q .normal e w | some (y,r)=>Cd P N y (Qk P N Q r) e w)->Qk P N Q s .normal e w
 | [],h=>h
 | .s _::_,h=>h
 | .b _::r,h=>Bm (s:=r) h
theorem DY{id:Nat}:∀ {s:List Fr},(match yo id s with | none=>Q (.exit id) e w | some r=>Qk P N Q r .normal e w)->Qk P N Q s (.exit id) e w
 | [],h=>h
 | .s _::r,h=>DY (s:=r) h
 | .b i::r,h=>by
  unfold yo at h;show(if id=i then _ else _);cases hb:Nat.beq id i with
  | true=>rw [aJ (lH hb)];rw [hb]at h;exact h
  | false=>
   rw [aC (fun e=>by rw [e,Nat.beq_refl]at hb;cases hb)];rw [hb]at h;exact DY (s:=r) h
theorem cT:∀ {s:List Fr},Q .ret e w->Qk P N Q s .ret e w
 | [],h=>h
 | .s _::r,h=>cT (s:=r) h
 | .b _::r,h=>cT (s:=r) h
theorem Cd.ZA{Q:gV}(h:ak P N ops (fun e w=>Q .normal e w) ops.toList e w):Cd P N (.region id ops false) Q e w:=by
 have:=Cd.region (P:=P) (N:=N) (Q:=Q) (id:=id) (l:=ops.toList) (e:=e) (w:=w) (by rw [Array.toArray_toList];exact h)
 rwa [Array.toArray_toList]at this
theorem nE:∀ {n:Nat} {c:Code} {s:List Fr} {e:Env},(run N n c s e).ok P N Q w->Cd P N c (Qk P N Q s) e w
 | 0,_,_,_,h=>h
 | n+1,c,s,e,h=>by
  unfold run at h
  split at h
  ·exact .seq (nE h)
  ·exact .block (nE h)
  ·split at h
   ·exact h
   ·refine .ZA (EH ?_)
    split at h
    ·rename_i he;rw [he];refine ak.n (Bm ?_)
     split at h
     ·exact h
     ·exact nE h
    ·rename_i he;rw [he];exact h
  ·refine .skip (Bm ?_)
   split at h
   ·exact h
   ·exact nE h
  ·exact .ret (cT h)
  ·refine .exit (DY ?_)
   split at h
   ·exact h
   ·refine Bm ?_
    split at h
    ·exact h
    ·exact nE h
  ·exact h
theorem wy{n:Nat}{s:List Fr}{e:Env}(h:(runN N n s e).ok P N Q w):Qk P N Q s .normal e w:=by
 unfold runN at h;refine Bm ?_
 split at h
 ·exact h
 exact nE h
theorem D8{n:Nat}{s:List Fr}{e:Env}(h:(yv N n id s e).ok P N Q w):Qk P N Q s (.exit id) e w:=by
 unfold yv at h;refine DY ?_
 split at h
 ·exact h
 exact wy h
theorem Bv{n:Nat}{s:List Fr}{e:Env}(h:(wz N n ops l s e).ok P N Q w):ak P N ops (fun e w=>Qk P N Q s .normal e w) l e w:=by
 unfold wz at h;refine EH ?_
 split at h
 ·rename_i he;rw [he];exact ak.n (wy h)
 rename_i he;rw [he];exact h
theorem yT{s:List Fr}{F:List (Nat×ab)}(hM:Mt e F)(h:Qk P N Q s .normal (ext e F) w):Qk P N Q s .normal e w:=by rwa [vd hM]at h
theorem cH{c:Code}{s:List Fr}(h:run N 1000 c s e= .c c1 s1 e1)(k:Cd P N c1 (Qk P N Q s1) e1 w):Cd P N c (Qk P N Q s) e w:=nE (n:=1000) (by rw [h];exact k)
theorem aD{c:Code}{s:List Fr}(h:run N 1000 c s e= .o o1 l1 s1 e1)(k:ak P N o1 (fun e w=>Qk P N Q s1 .normal e w) l1 e1 w):Cd P N c (Qk P N Q s) e w:=nE (n:=1000) (by rw [h];exact k)
theorem mC{c:Code}{s:List Fr}(h:run N 1000 c s e= .n e1)(k:Q .normal e1 w):Cd P N c (Qk P N Q s) e w:=nE (n:=1000) (by rw [h];exact k)
theorem cE{c:Code}{s:List Fr}(h:run N 1000 c s e= .r e1)(k:Q .ret e1 w):Cd P N c (Qk P N Q s) e w:=nE (n:=1000) (by rw [h];exact k)
theorem bo{c:Code}{s:List Fr}(h:run N 1000 c s e= .x i1 e1)(k:Q (.exit i1) e1 w):Cd P N c (Qk P N Q s) e w:=nE (n:=1000) (by rw [h];exact k)
theorem BM(n:Nat){c:Code}{s:List Fr}(h:run N n c s e= .c c1 s1 e1)(k:Cd P N c1 (Qk P N Q s1) e1 w):Cd P N c (Qk P N Q s) e w:=nE (n:=n) (by rw [h];exact k)
theorem b7{c:Code}(h:run N 1000 c [] e= .c c1 s1 e1)(k:Cd P N c1 (Qk P N Q s1) e1 w):Cd P N c Q e w:=nE (s:=[]) (n:=1000) (by rw [h];exact k)
theorem aY{c:Code}(h:run N 1000 c [] e= .o o1 l1 s1 e1)(k:ak P N o1 (fun e w=>Qk P N Q s1 .normal e w) l1 e1 w):Cd P N c Q e w:=nE (s:=[]) (n:=1000) (by rw [h];exact k)
theorem Eu{c:Code}(h:run N 1000 c [] e= .r e1)(k:Q .ret e1 w):Cd P N c Q e w:=nE (s:=[]) (n:=1000) (by rw [h];exact k)
theorem az{s:List Fr}(h:wz N 1000 ops l s e= .c c1 s1 e1)(k:Cd P N c1 (Qk P N Q s1) e1 w):ak P N ops (fun e w=>Qk P N Q s .normal e w) l e w:=Bv (n:=1000) (by rw [h];exact k)
theorem ao{s:List Fr}(h:wz N 1000 ops l s e= .o o1 l1 s1 e1)(k:ak P N o1 (fun e w=>Qk P N Q s1 .normal e w) l1 e1 w):ak P N ops (fun e w=>Qk P N Q s .normal e w) l e w:=Bv (n:=1000) (by rw [h];exact k)
theorem aU{s:List Fr}(h:wz N 1000 ops l s e= .n e1)(k:Q .normal e1 w):ak P N ops (fun e w=>Qk P N Q s .normal e w) l e w:=Bv (n:=1000) (by rw [h];exact k)
theorem bu{s:List Fr}(h:wz N 1000 ops l s e= .r e1)(k:Q .ret e1 w):ak P N ops (fun e w=>Qk P N Q s .normal e w) l e w:=Bv (n:=1000) (by rw [h];exact k)
theorem wJ(n:Nat){s:List Fr}(h:wz N n ops l s e= .c c1 s1 e1)(k:Cd P N c1 (Qk P N Q s1) e1 w):ak P N ops (fun e w=>Qk P N Q s .normal e w) l e w:=Bv (n:=n) (by rw [h];exact k)
theorem fw{s:List Fr}(h:runN N 1000 s e= .c c1 s1 e1)(k:Cd P N c1 (Qk P N Q s1) e1 w):Qk P N Q s .normal e w:=wy (n:=1000) (by rw [h];exact k)
theorem fK{s:List Fr}(h:runN N 1000 s e= .o o1 l1 s1 e1)(k:ak P N o1 (fun e w=>Qk P N Q s1 .normal e w) l1 e1 w):Qk P N Q s .normal e w:=wy (n:=1000) (by rw [h];exact k)
theorem IK{s:List Fr}(h:runN N 1000 s e= .n e1)(k:Q .normal e1 w):Qk P N Q s .normal e w:=wy (n:=1000) (by rw [h];exact k)
theorem tE{s:List Fr}(h:runN N 1000 s e= .r e1)(k:Q .ret e1 w):Qk P N Q s .normal e w:=wy (n:=1000) (by rw [h];exact k)
theorem PD(n:Nat){s:List Fr}(h:runN N n s e= .c c1 s1 e1)(k:Cd P N c1 (Qk P N Q s1) e1 w):Qk P N Q s .normal e w:=wy (n:=n) (by rw [h];exact k)
theorem qZ{i:Nat}{s:List Fr}(h:yv N 1000 i s e= .c c1 s1 e1)(k:Cd P N c1 (Qk P N Q s1) e1 w):Qk P N Q s (.exit i) e w:=D8 (n:=1000) (by rw [h];exact k)
theorem cn{i:Nat}{s:List Fr}(h:yv N 1000 i s e= .o o1 l1 s1 e1)(k:ak P N o1 (fun e w=>Qk P N Q s1 .normal e w) l1 e1 w):Qk P N Q s (.exit i) e w:=D8 (n:=1000) (by rw [h];exact k)
theorem tF{i:Nat}{s:List Fr}(h:yv N 1000 i s e= .n e1)(k:Q .normal e1 w):Qk P N Q s (.exit i) e w:=D8 (n:=1000) (by rw [h];exact k)
theorem e6{i:Nat}{s:List Fr}(h:yv N 1000 i s e= .r e1)(k:Q .ret e1 w):Qk P N Q s (.exit i) e w:=D8 (n:=1000) (by rw [h];exact k)
end
def Qt:Prop:=False
structure Below(B:Nat)(w w':aa):Prop extends Go.RowKit.Below B w w' where
 drawn:Qt->w.drawn<=w'.drawn
theorem Below.refl(B:Nat)(w:aa):Below B w w:=⟨Go.RowKit.Below.refl B w,fun _=>dE _⟩
theorem Below.trans{B:Nat}{a b c:aa}(h:Below B a b)(k:Below B b c):Below B a c:=⟨h.toBelow.trans k.toBelow,fun s=>lI (h.drawn s) (k.drawn s)⟩
theorem Below.mono{B B':Nat}{w w':aa}(h:Below B w w')(hB:B'<=B):Below B' w w':=⟨h.toBelow.mono hB,h.drawn⟩
theorem Below.drew{B:Nat}{a w:aa}(h:Below B a w):Below B a w.drew:=⟨h.toBelow.drew,fun s=>Nat.le_succ_of_le (h.drawn s)⟩
theorem Below.alloc{B:Nat}{a w:aa}(h:Below B a w)(hB:B<=w.heap.size)(o:Obj):Below B a (w.alloc o):=⟨h.toBelow.alloc hB o,h.drawn⟩
structure yF(w w':aa)(row:Option Nat):Prop where
 g:w.grownBy w' row
 drawn:w.drawn<=w'.drawn
theorem Below.grown{B:Nat}{a w w':aa}{row:Option Nat}(h:Below B a w)(hg:yF w w' row)(hB:B<=w.heap.size)(hr:∀k,row=some k->B<=k):Below B a w':=⟨h.toBelow.grown hg.g hB hr,fun s=>lI (h.drawn s) hg.drawn⟩
theorem Below.grow{w w':aa}(h:Below w.heap.size w w')(hd:w.drawn<=w'.drawn):∃q os,w'=Go.Sort.grow (w.drewN q) os:=by
 refine⟨w'.drawn - w.drawn,w'.heap.extract w.heap.size w'.heap.size,?_⟩;obtain⟨h1,h2,h3,h4,h5⟩:=h.toBelow;have hh:w'.heap=w.heap++w'.heap.extract w.heap.size w'.heap.size:=by
  apply Array.ext_getElem?;intro i
  by_cases hi:i<w.heap.size
  ·rw [Array.getElem?_append_left hi,h5 i hi]
  rw [Array.getElem?_append_right (by omega),Array.getElem?_extract]
  by_cases rH:i<w'.heap.size
  ·rw [aJ (by omega)];congr 1;omega
  rw [aC (by omega),Array.getElem?_eq_none (by omega)]
 cases w;cases w';simp only [Go.Sort.grow,World.drewN]at*;subst h1 h2 h3
 congr 1
 omega
def aF(A:ai)(k:Nat):ai:=A.map (·.add k)
def Rd(w:aa)(A:ai)(n:Nat)(f:Nat->ab):Prop:=∀k,k<n->∃p,aF A k=some p/\w.cell? p=some (f k)
structure Ck where
 A:ai
 n:Nat
 c:Nat
 e:ad
 vs:List ab
def Ck.gY(k:Ck):Option Nat:=k.A.map (·.block)
def rv:List (ab×ab)->List ab
 | []=> []
 | p::r=>p.1::p.2::rv r
theorem Kf:∀ {a b:List (ab×ab)},rv a=rv b->a=b
 | [],[],_=>rfl
 | [],_::_,h=>by simp [rv]at h
 | _::_,[],h=>by simp [rv]at h
 | (x,y)::a,(x',y')::b,h=>by
  simp only [rv,List.cons.injEq]at h;rw [h.1,h.2.1,Kf h.2.2]
def dX:List ab->Bool
 | .tuple _::_=>true
 | _=>false
theorem DA{v:ab}{r:List ab}(h:v.oneCell'=true):dX (v::r)=false:=by
 cases v<;>simp_all [dX,Value.oneCell']
theorem tm{l:List ab}(h:∀v∈l,v.oneCell'=true):dX l=false:=by
 cases l with
 | nil=>rfl
 | cons v r=>exact DA (h v (by simp))
theorem WW{a b:List ab}(ha:dX a=false)(hb:dX b=false):dX (a++b)=false:=by
 cases a with
 | nil=>exact hb
 | cons v r=>cases v<;>simp_all [dX]
theorem Hr{a b:List ab}(ha:dX a=false)(h:a≠[]):dX (a++b)=false:=by
 cases a with
 | nil=>exact absurd rfl h
 | cons v r=>cases v<;>simp_all [dX]
theorem WZ{a:List ab}(m:Nat)(ha:dX a=false):dX (a.take m)=false:=by
 cases a with
 | nil=>simp [dX]
 | cons v r=>
  cases m with
  | zero=>rfl
  | succ m=>cases v<;>simp_all [dX]
theorem M6{a:List ab}(j:Nat){u:ab}(ha:dX a=false)(hu:u.oneCell'=true):dX (a.set j u)=false:=by
 cases a with
 | nil=>rfl
 | cons v r=>
  cases j with
  | zero=>exact DA hu
  | succ m=>cases v<;>simp_all [dX]
theorem WY{z:ab}(n:Nat)(hz:z.oneCell'=true):dX (List.replicate n z)=false:=tm fun v hv=>by rw [(List.mem_replicate.1 hv).2];exact hz
def yR(B:Nat)(w:aa)(k:Ck):Prop:=
 k.vs.length=k.n/\k.n<=k.c/\k.c<=maxLen/\
 ((k.A=none/\k.c=0)\/∃g o cur,k.A=some ⟨g,o,none⟩/\B<=g/\w.heap[g]?=some (.cells cur k.e (0,0))/\o+k.c<=cur.size/\∀j,j<k.n->cur[o+j]?=k.vs[j]?)
def Ez(B:Nat)(w:aa)(k:Ck):Prop:=
 k.n=0/\k.c=0/\∃g es cl,k.A=some ⟨g,0,none⟩/\B<=g/\w.heap[g]?=some (.map es cl)/\k.vs= .tuple #[]::rv (es.toList.map fun e=> (e.key,e.val))
def Own(B:Nat)(w:aa)(k:Ck):Prop:=if dX k.vs=true then Ez B w k else yR B w k
theorem Own.o5{B:Nat}{w:aa}{k:Ck}(hm:dX k.vs=false)(h:yR B w k):Own B w k:=by unfold Own;rw [if_neg (by simp [hm])];exact h
theorem Own.OW{B:Nat}{w:aa}{k:Ck}(hm:dX k.vs=false)(h:Own B w k):yR B w k:=by unfold Own at h;rwa [if_neg (by simp [hm])]at h
theorem Own.cases{B:Nat}{w:aa}{k:Ck}(h:Own B w k):(dX k.vs=true/\Ez B w k)\/(dX k.vs=false/\yR B w k):=by
 unfold Own at h
 split at h
 ·rename_i hm;exact .inl ⟨hm,h⟩
 rename_i hm;exact .inr ⟨by simpa using hm,h⟩
theorem Own.ofM{B:Nat}{w:aa}{k:Ck}(hm:dX k.vs=true)(h:Ez B w k):Own B w k:=by unfold Own;rw [if_pos hm];exact h
structure St(w0 w:aa)(ks:List Ck):Prop where
 below:Below w0.heap.size w0 w
 own:∀k∈ks,Own w0.heap.size w k
 apart:(ks.filterMap Ck.gY).Nodup
theorem yZ{g o:Nat}(k:Nat):(⟨g,o,none⟩:Addr).add k=⟨g,o+k,none⟩:=by unfold Addr.add;split<;>simp_all
section
variable{B' j:Nat}{ks':List Ck}
variable {w0 w w':aa} {ks:List Ck} {k:Ck} {B:Nat}
theorem Own.rd(h:Own B w k):Rd w k.A k.n (fun j=>k.vs.getD j undef):=by
 rcases h.cases with⟨_,hn,_⟩ | ⟨_,h1,h2,h3,h4⟩
 ·intro j hj;omega
 intro j hj;rcases h4 with⟨_,h0⟩ | ⟨g,o,cur,hA,hg,hh,hs,hc⟩
 ·omega
 refine⟨⟨g,o+j,none⟩,by simp [aF,hA,yZ],?_⟩;simp only [World.cell?,hh];rw [hc j hj];simp [df,dL (show j<k.vs.length by omega)]
theorem Own.mono(h:Own B w k)(hB:B'<=B):Own B' w k:=by
 rcases h.cases with⟨hm,hn,hc,g,es,cl,hA,hg,r⟩ | ⟨hm,h1,h2,h3,h4⟩
 ·exact .ofM hm ⟨hn,hc,g,es,cl,hA,by omega,r⟩
 refine .o5 hm ⟨h1,h2,h3,?_⟩;rcases h4 with h0 | ⟨g,o,cur,hA,hg,r⟩
 ·exact .inl h0
 exact .inr ⟨g,o,cur,hA,by omega,r⟩
theorem Own.keep(h:Own B w k)(hb:∀g,k.gY=some g->w'.heap[g]?=w.heap[g]?):Own B w' k:=by
 rcases h.cases with⟨hm,hn,hc,g,es,cl,hA,hg,hh,r⟩ | ⟨hm,h1,h2,h3,h4⟩
 ·exact .ofM hm ⟨hn,hc,g,es,cl,hA,hg,by rw [hb g (by simp [Ck.gY,hA])];exact hh,r⟩
 refine .o5 hm ⟨h1,h2,h3,?_⟩;rcases h4 with h0 | ⟨g,o,cur,hA,hg,hh,r⟩
 ·exact .inl h0
 exact .inr ⟨g,o,cur,hA,hg,by rw [hb g (by simp [Ck.gY,hA])];exact hh,r⟩
theorem Own.lt(h:Own B w k){g:Nat}(hg:k.gY=some g):B<=g/\g<w.heap.size:=by
 rcases h.cases with⟨hm,hn,hc,g',es,cl,hA,kM,hh,r⟩ | ⟨hm,h1,h2,h3,h4⟩
 ·simp [Ck.gY,hA]at hg;subst hg;exact⟨kM,(Array.getElem?_eq_some_iff.1 hh).1⟩
 rcases h4 with⟨h0,_⟩ | ⟨g',o,cur,hA,kM,hh,r⟩
 ·simp [Ck.gY,h0]at hg
 simp [Ck.gY,hA]at hg;subst hg;exact⟨kM,(Array.getElem?_eq_some_iff.1 hh).1⟩
theorem Own.cap(h:Own B w k):k.n<=k.c/\k.c<=maxLen:=by
 rcases h.cases with⟨_,hn,hc,_⟩ | ⟨_,_,h2,h3,_⟩
 ·exact⟨by omega,by rw [hc];exact bA _⟩
 exact⟨h2,h3⟩
theorem St.refl(w:aa):St w w []:=⟨Below.refl _ _,(fun _ h=>by cases h),List.nodup_nil⟩
theorem St.get(h:St w0 w ks){i:Nat}(hk:ks[i]?=some k):Own w0.heap.size w k:=h.own k (List.mem_of_getElem? hk)
theorem St.nO(h:St w0 w ks){i:Nat}(hk:ks[i]?=some k)(hm:dX k.vs=false):yR w0.heap.size w k:=(h.get hk).OW hm
theorem St.rd(h:St w0 w ks)(i:Nat)(hk:ks[i]?=some k):Rd w k.A k.n (fun j=>k.vs.getD j undef):=(h.get hk).rd
theorem Rd.lt{A:ai}{n:Nat}{f:Nat->ab}(h:Rd w A n f)(hj:j<n):∃p,aF A j=some p/\p.block<w.heap.size/\w.cell? p=some (f j):=by
 obtain⟨p,hp,hc⟩:=h j hj;exact⟨p,hp,World.block_lt_of_cell? _ _ hc,hc⟩
theorem Rd.below{A:ai}{n:Nat}{f:Nat->ab}(h:Rd w A n f)(hb:Below w.heap.size w w'):Rd w' A n f:=fun j hj=>by
 obtain⟨p,hp,hl,hc⟩:=h.lt hj;exact⟨p,hp,(hb.cell hl).trans hc⟩
theorem St.nA(h:St w0 w ks){A:ai}{n:Nat}{f:Nat->ab}(hR:Rd w0 A n f):Rd w A n f:=hR.below h.below
theorem Rd.congr{A:ai}{n:Nat}{f g:Nat->ab}(h:Rd w A n f)(hf:∀j,j<n->f j=g j):Rd w A n g:=fun j hj=>by
 obtain⟨p,hp,hc⟩:=h j hj;exact⟨p,hp,by rw [hc,hf j hj]⟩
theorem St.aq(h:St w0 w ks)(hb:Below w.heap.size w w'):St w0 w' ks:=
 ⟨h.below.trans (hb.mono h.below.size),fun k hk=> (h.own k hk).keep fun g hg=>hb.block g ((h.own k hk).lt hg).2,h.apart⟩
theorem St.drew(h:St w0 w ks):St w0 w.drew ks:=h.aq (Below.drew (Below.refl _ _))
theorem St.call(h:St w0 w ks)(h':St w w' ks'):St w0 w' (ks'++ks):=by
 have h1:=h.aq h'.below;refine⟨h1.below,fun k hk=>?_,?_⟩
 ·rcases gE.1 hk with hk | hk
  ·exact(h'.own k hk).mono h.below.size
  exact h1.own k hk
 rw [List.filterMap_append,List.nodup_append];refine⟨h'.apart,h.apart,fun a ha b hb=>?_⟩;obtain⟨k,hk,Vo⟩:=List.mem_filterMap.1 ha;obtain⟨k',dp,ur⟩:=List.mem_filterMap.1 hb;have l1:=((h'.own k hk).lt Vo).1;have l2:=((h.own k' dp).lt ur).2;omega
theorem St.call2(h:St w0 w ks)(h':St w w' ks'):St w0 w' (ks++ks'):=by
 have h1:=h.call h';exact⟨h1.below,fun k hk=>h1.own k ((fb (l₁:=ks') (l₂:=ks)).mem_iff.2 hk),((fb (l₁:=ks') (l₂:=ks)).filterMap _).nodup_iff.1 h1.apart⟩
theorem St.sub(h:St w0 w ks)(hs:ks'.Sublist ks):St w0 w ks':=
 ⟨h.below,fun k hk=>h.own k (hs.subset hk),h.apart.sublist (hs.filterMap _)⟩
theorem St.perm(h:St w0 w ks)(hs:ks.Perm ks'):St w0 w ks':=
 ⟨h.below,fun k hk=>h.own k (hs.mem_iff.2 hk),(hs.filterMap _).nodup_iff.1 h.apart⟩
theorem St.tail(h:St w0 w (k::ks)):St w0 w ks:=h.sub (List.sublist_cons_self _ _)
theorem St.none(h:St w0 w ks):St w0 w []:=h.sub (List.nil_sublist _)
theorem St.swap{k':Ck}(h:St w0 w (k::k'::ks)):St w0 w (k'::k::ks):=h.perm (List.Perm.swap _ _ _)
theorem St.nil(h:St w0 w ks)(e:ad):St w0 w (⟨Option.none,0,0,e,[]⟩::ks):=
 ⟨h.below,fun k hk=>by
  rcases ja.1 hk with rfl | hk
  ·exact .o5 O ⟨O,dE _,bA _,.inl ⟨O,O⟩⟩
  exact h.own k hk,h.apart⟩
theorem St.alloc(h:St w0 w ks)(cs:List ab)(e:ad)(hm:cs.length<=maxLen)(hM:dX cs=false):St w0 (w.alloc (.cells cs.toArray e)) (⟨some ⟨w.heap.size,0,Option.none⟩,cs.length,cs.length,e,cs⟩::ks):=by
 have hb:Below w.heap.size w (w.alloc (.cells cs.toArray e)):=(Below.refl _ _).alloc (dE _) _;have h1:=h.aq hb;refine⟨h1.below,fun k hk=>?_,?_⟩
 ·rcases ja.1 hk with rfl | hk
  ·exact .o5 hM ⟨O,dE _,hm,.inr ⟨_,0,cs.toArray,O,h.below.size,heap_alloc_new w _,by simp,fun j hj=>by simp⟩⟩
  exact h1.own k hk
 simp only [List.filterMap_cons,Ck.gY,Option.map_some,mV];refine⟨fun cS=>?_,h.apart⟩;obtain⟨k',dp,ur⟩:=List.mem_filterMap.1 cS;have:=((h.own k' dp).lt ur).2;omega
theorem Cm{α β:Type}(f:α->Option β):∀(l:List α) (i:Nat) (a b:α),l[i]?=some a->f b=f a->(l.set i b).filterMap f=l.filterMap f
 | [],_,_,_,h,_=>by simp at h
 | x::l,0,a,b,h,he=>by
  simp at h;subst h;simp [List.filterMap_cons,he]
 | x::l,i+1,a,b,h,he=>by
  simp only [List.getElem?_cons_succ]at h;simp only [List.set_cons_succ,List.filterMap_cons,Cm f l i a b h he]
theorem St.turn{i g:Nat}{k':Ck}(h:St w0 w ks)(hk:ks[i]?=some k)(oJ:k.gY=some g)(Ut:k'.gY=some g)(hw:yF w w' (some g))(ho:Own w0.heap.size w' k'):St w0 w' (ks.set i k'):=by
 have cI:=(h.get hk).lt oJ;refine⟨h.below.grown hw h.below.size (fun x hx=>by cases hx;exact cI.1),fun x hx=>?_,?_⟩
 ·obtain⟨j,hj,rfl⟩:=gu.1 hx;have fI:j<ks.length:=by simpa using hj
  rw [List.getElem_set]
  split
  ·exact ho
  ·rename_i b9;have hm:ks[j]∈ks:=dd _;refine(h.own _ hm).keep fun g' kM=>hw.g.block g' ((h.own _ hm).lt kM).2 fun e=>?_
   injection e with e
   subst e;have di:i<ks.length:=(ga.1 hk).1;have eE:ks[i]=k:=(ga.1 hk).2;exact absurd (show False from by
    have hn:=h.apart;have key:∀(l:List Ck),(l.filterMap Ck.gY).Nodup->∀i j (hi:i<l.length) (hj:j<l.length),i≠j->l[i].gY=some g'->l[j].gY=some g'->False:=by
     intro l
     induction l with
     | nil=>intro _ i j hi;simp at hi
     | cons a l ih=>
      intro hn i j hi hj b9 h1 h2;cases i with
      | zero=>
       cases j with
       | zero=>exact b9 rfl
       | succ j=>
        simp only [List.getElem_cons_zero]at h1;simp only [List.getElem_cons_succ]at h2;rw [List.filterMap_cons,h1]at hn;simp only [mV]at hn;exact hn.1 (List.mem_filterMap.2 ⟨_,dd _,h2⟩)
      | succ i=>
       cases j with
       | zero=>
        simp only [List.getElem_cons_zero]at h2;simp only [List.getElem_cons_succ]at h1;rw [List.filterMap_cons,h2]at hn;simp only [mV]at hn;exact hn.1 (List.mem_filterMap.2 ⟨_,dd _,h1⟩)
       | succ j=>
        have pT:(l.filterMap Ck.gY).Nodup:=by
         rw [List.filterMap_cons]at hn
         split at hn
         ·exact hn
         ·exact(mV.1 hn).2
        exact ih pT i j (by simpa using hi) (by simpa using hj) (by omega) (by simpa using h1) (by simpa using h2)
    exact key ks hn i j di fI b9 (by rw [eE];exact oJ) kM) id
 ·rw [Cm Ck.gY ks i k k' hk (by rw [oJ,Ut])];exact h.apart
theorem St.store(h:St w0 w ks)(i:Nat)(hk:ks[i]?=some k)(hj:j<k.n)(u:ab)(hu:u.oneCell'=true):
 ∃p,aF k.A j=some p/\(∃v,w.cell? p=some v)/\w.frozen? p=false/\St w0 (w.setCell p u) (ks.set i { k with vs:=k.vs.set j u }):=by
 rcases(h.get hk).cases with⟨_,lr,_⟩ | ⟨hM,h1,h2,h3,h4⟩
 ·omega
 rcases h4 with⟨_,h0⟩ | ⟨g,o,cur,hA,hg,hh,hs,hc⟩
 ·omega
 refine⟨⟨g,o+j,Option.none⟩,by simp [aF,hA,yZ],?_,?_,?_⟩
 ·have:o+j<cur.size:=by omega
  exact⟨cur[o+j],by simp [World.cell?,hh,nH this]⟩
 ·simp [World.frozen?,hh]
 have oJ:k.gY=some g:=by simp [Ck.gY,hA]
 have cI:=(Array.getElem?_eq_some_iff.1 hh).1;refine h.turn (k':= { k with vs:=k.vs.set j u }) hk oJ oJ ⟨⟨O,O,O,by simp,fun x _ hx=>heap_setCell_other w ⟨g,o+j,Option.none⟩ x u (fun e=>hx (by simp [e]))⟩,dE _⟩ ?_;refine .o5 (M6 j hM hu) ⟨by simpa using h1,h2,h3,.inr ⟨g,o,cur.setIfInBounds (o+j) u,hA,hg,heap_setCell_same w g (o+j) cur k.e u hh,by simpa using hs,fun m hm=>?_⟩⟩;have ic:m<k.n:=hm;rw [pb];show _=(k.vs.set j u)[m]?;rw [kX]
 by_cases e:j=m
 ·subst e;rw [aJ rfl,aJ rfl,aJ (by omega),aJ (by omega)]
 rw [aC (by omega),aC e];exact hc m ic
end
structure aO where
 a:ai
 n:Nat
 c:Nat
def aO.v(s:aO):ab:= .slice s.a s.n s.c
def cJ:aO:=⟨none,0,0⟩
def gi(xs:ah)(i:Int):Int:=xs.getD i.toNat 0
def gb(xs:List Bool)(i:Int):Bool:=xs.getD i.toNat false
def rg(xs:List aO)(i:Int):aO:=xs.getD i.toNat cJ
def cd(w:aa)(A:ai)(n:Nat)(xs:ah):Prop:=xs.length=n/\Rd w A n (fun j=>aj (xs.getD j 0))
def tG(w:aa)(A:ai)(n:Nat)(xs:List Bool):Prop:=xs.length=n/\Rd w A n (fun j=> .bool (xs.getD j false))
def gp(w:aa)(A:ai)(n:Nat)(xs:List aO):Prop:=xs.length=n/\Rd w A n (fun j=> (xs.getD j cJ).v)
abbrev ax(t:ad)(A:ai)(n c:Nat)(xs:ah):Ck:=⟨A,n,c,t,xs.map (aj)⟩
abbrev jL(t:ad)(A:ai)(n c:Nat)(xs:List Bool):Ck:=⟨A,n,c,t,xs.map .bool⟩
abbrev aV(t:ad)(A:ai)(n c:Nat)(xs:List aO):Ck:=⟨A,n,c,t,xs.map aO.v⟩
theorem oX(xs:ah):dX (xs.map (Value.int .i64))=false:=tm fun v hv=>by obtain⟨_,_,rfl⟩:=fx.1 hv;rfl
theorem AM(xs:List Bool):dX (xs.map Value.bool)=false:=tm fun v hv=>by obtain⟨_,_,rfl⟩:=fx.1 hv;rfl
theorem qJ(xs:List aO):dX (xs.map aO.v)=false:=tm fun v hv=>by obtain⟨_,_,rfl⟩:=fx.1 hv;rfl
section
variable {w0 w w':aa} {ks:List Ck} {t:ad} {A:ai} {n c:Nat}
theorem St.bz{xs:ah}(h:St w0 w ks)(i:Nat)(hk:ks[i]?=some (ax t A n c xs)):cd w A n xs:=by
 have hl:xs.length=n:=by have:=(h.nO hk (oX xs)).1;simpa using this
 exact⟨hl,(h.rd i hk).congr fun j hj=>by have fI:j<n:=hj;simp [df,dL (show j<xs.length by omega)]⟩
theorem St.jt{xs:List Bool}(h:St w0 w ks)(i:Nat)(hk:ks[i]?=some (jL t A n c xs)):tG w A n xs:=by
 have hl:xs.length=n:=by have:=(h.nO hk (AM xs)).1;simpa using this
 exact⟨hl,(h.rd i hk).congr fun j hj=>by have fI:j<n:=hj;simp [df,dL (show j<xs.length by omega)]⟩
theorem St.eG{xs:List aO}(h:St w0 w ks)(i:Nat)(hk:ks[i]?=some (aV t A n c xs)):gp w A n xs:=by
 have hl:xs.length=n:=by have:=(h.nO hk (qJ xs)).1;simpa using this
 exact⟨hl,(h.rd i hk).congr fun j hj=>by have fI:j<n:=hj;simp [df,dL (show j<xs.length by omega)]⟩
theorem St.dY{xs:ah}(h:St w0 w ks)(hR:cd w0 A n xs):cd w A n xs:=⟨hR.1,h.nA hR.2⟩
theorem St.Bj{xs:List aO}(h:St w0 w ks)(hR:gp w0 A n xs):gp w A n xs:=⟨hR.1,h.nA hR.2⟩
theorem St.cap{k:Ck}(h:St w0 w ks)(i:Nat)(hk:ks[i]?=some k):k.n<=k.c/\k.c<=maxLen:=(h.get hk).cap
theorem St.yi{xs:ah}(h:St w0 w ks)(i:Nat)(hk:ks[i]?=some (ax t A n c xs)):xs.length=n:=(h.bz i hk).1
theorem cd.aq{xs:ah}(h:cd w A n xs)(hb:Below w.heap.size w w'):cd w' A n xs:=⟨h.1,h.2.below hb⟩
theorem tG.aq{xs:List Bool}(h:tG w A n xs)(hb:Below w.heap.size w w'):tG w' A n xs:=⟨h.1,h.2.below hb⟩
theorem gp.aq{xs:List aO}(h:gp w A n xs)(hb:Below w.heap.size w w'):gp w' A n xs:=⟨h.1,h.2.below hb⟩
theorem cd.nil:cd w none 0 []:=⟨rfl,fun k hk=>by omega⟩
theorem gp.nil:gp w none 0 []:=⟨rfl,fun k hk=>by omega⟩
end
section
variable{t te:ad}{z u v0 v1 z0:ab}{b j c1 ft off sz o l h c':Nat}{x ix x0 x1 lo di y:ae}{A1 A':ai}
variable {P:Program} {N:Nat} {ops:Array Oper} {K:Env->aa->Prop} {rest:List Oper} {e:Env} {w0 w w':aa} {ks:List Ck} {d:Nat} {ty:ad} {pos:String} {af:Array Edge}
theorem acU{el:ad}[bK P t (.slice el)][bF P el z 1 b]{A:ai}{n c:Nat}{k:IntKind}{i:Int}{f:Nat->ab}(hR:Rd w A n f)(hx:ev e x= .slice A n c)(hy:ev e ix= .int k i)(hb:Nat.blt d N=true)(h0:0<=i)(h1:i< (n:Int))(hK:ak P N ops K rest (bt e d (.pointer (aF A i.toNat))) w):
 ak P N ops K (⟨some d,.indexAddr t x ix,ty,pos,af,none⟩::rest) e w:=by
 obtain⟨p,hp,_⟩:=hR i.toNat (by omega);obtain⟨q,rfl⟩:∃q,A=some q:=by cases A with | none=>simp [aF]at hp | some q=>exact⟨q,rfl⟩
 obtain⟨inf,hi,_,hs,_⟩:=bF.get P el;refine .val (w':=w) ?_ hb hK;simp [execOp,Instr.indexAt,hx,hy,asIntOf,run_underlying (bK.out (P:=P) (t:=t)),h0,h1,sizeOf,typeInfo,hi,hs,aF]
theorem ay{el:ad}[bK P t (.slice el)][bF P el z 1 b]{A:ai}{n c:Nat}{k:IntKind}{i:Int}{f:Nat->ab}(hR:Rd w A n f)(q9:(ev e x,ev e ix,Nat.blt d N)=(.slice A n c,.int k i,true))(hK:ak P N ops K rest (bt e d (.pointer (aF A i.toNat))) w)(h0:0<=i:=by omega)(h1:i< (n:Int):=by omega):ak P N ops K (⟨some d,.indexAddr t x ix,ty,pos,af,none⟩::rest) e w:=acU hR (congrArg (fun p=>p.1) q9) (congrArg (fun p=>p.2.1) q9) (congrArg (fun p=>p.2.2) q9) h0 h1 hK
def sa:TypeDesc->Bool
 | .struct _=>false
 | .array _ _=>false
 | _=>true
theorem ZS{u:TypeDesc}(hu:P.underlying t=some u)(hp:sa u=true):(isAgg t).run P w= .ok false w:=by
 cases u<;>simp [sa]at hp<;>simp [isAgg,run_underlying hu]
theorem ak.ld{u:TypeDesc}[bK P t u]{A:ai}{n:Nat}{f:Nat->ab}{v:ab}(hR:Rd w A n f)(hx:ev e x= .pointer (aF A j))(hj:j<n)(hv:f j=v)(hp:sa u=true)(hb:Nat.blt d N=true)(hK:ak P N ops K rest (bt e d v) w):ak P N ops K (⟨some d,.load t x,ty,pos,af,none⟩::rest) e w:=by
 obtain⟨p,fV,hc⟩:=hR j hj;subst hv;refine .val (w':=w) ?_ hb hK;simp [execOp,Instr.loadAt,hx,fV,Instr.sureAddr,loadVar,ZS (bK.out (P:=P) (t:=t)) hp,hc]
theorem acV{u:TypeDesc}[bK P t u]{A:ai}{n:Nat}{i:Int}{xs:ah}(hR:cd w A n xs)(hx:ev e x= .pointer (aF A i.toNat))(hj:i.toNat<n)(hp:sa u=true)(hb:Nat.blt d N=true)(hK:ak P N ops K rest (bt e d (aj (gi xs i))) w):ak P N ops K (⟨some d,.load t x,ty,pos,af,none⟩::rest) e w:= .ld hR.2 hx hj rfl hp hb hK
theorem bc{u:TypeDesc}[bK P t u]{A:ai}{n:Nat}{i:Int}{xs:ah}(hR:cd w A n xs)(q9:(ev e x,sa u,Nat.blt d N)=(.pointer (aF A i.toNat),true,true))(hK:ak P N ops K rest (bt e d (aj (gi xs i))) w)(hj:i.toNat<n:=by omega):ak P N ops K (⟨some d,.load t x,ty,pos,af,none⟩::rest) e w:=acV hR (congrArg (fun p=>p.1) q9) hj (congrArg (fun p=>p.2.1) q9) (congrArg (fun p=>p.2.2) q9) hK
theorem su{u:TypeDesc}[bK P t u]{A:ai}{n:Nat}{i:Int}{xs:List Bool}(hR:tG w A n xs)(hx:ev e x= .pointer (aF A i.toNat))(hj:i.toNat<n)(hp:sa u=true)(hb:Nat.blt d N=true)(hK:ak P N ops K rest (bt e d (.bool (gb xs i))) w):ak P N ops K (⟨some d,.load t x,ty,pos,af,none⟩::rest) e w:= .ld hR.2 hx hj rfl hp hb hK
theorem ac0{u:TypeDesc}[bK P t u]{A:ai}{n:Nat}{i:Int}{xs:List aO}(hR:gp w A n xs)(hx:ev e x= .pointer (aF A i.toNat))(hj:i.toNat<n)(hp:sa u=true)(hb:Nat.blt d N=true)(hK:ak P N ops K rest (bt e d (.slice (rg xs i).a (rg xs i).n (rg xs i).c)) w):ak P N ops K (⟨some d,.load t x,ty,pos,af,none⟩::rest) e w:= .ld hR.2 hx hj rfl hp hb hK
theorem bB{u:TypeDesc}[bK P t u]{A:ai}{n:Nat}{i:Int}{xs:List aO}(hR:gp w A n xs)(q9:(ev e x,sa u,Nat.blt d N)=(.pointer (aF A i.toNat),true,true))(hK:ak P N ops K rest (bt e d (.slice (rg xs i).a (rg xs i).n (rg xs i).c)) w)(hj:i.toNat<n:=by omega):ak P N ops K (⟨some d,.load t x,ty,pos,af,none⟩::rest) e w:=ac0 hR (congrArg (fun p=>p.1) q9) hj (congrArg (fun p=>p.2.1) q9) (congrArg (fun p=>p.2.2) q9) hK
theorem ak.st[bF P t z 1 b]{a:ae}{i:Nat}{k:Ck}(hS:St w0 w ks)(hk:ks[i]?=some k)(ha:ev e a= .pointer (aF k.A j))(hx:ev e x=u)(h1:u.oneCell'=true)(hj:j<k.n)(hK:∀w',St w0 w' (ks.set i { k with vs:=k.vs.set j u })->ak P N ops K rest e w'):ak P N ops K (⟨none,.store t a x,ty,pos,af,none⟩::rest) e w:=by
 obtain⟨p,hp,⟨v,hc⟩,hf,lR⟩:=hS.store i hk hj u h1;obtain⟨inf,hi,_,hs,_⟩:=bF.get P t;refine .unit (w':=w.setCell p u) ?_ (hK _ lR);have UE:u.cells= #[u]:=by cases u<;>simp [Value.oneCell']at h1<;>rfl
 simp [execOp,Instr.storeAt,ha,hx,hp,Instr.sureAddr,storeVar,sizeOf,typeInfo,hi,hs,UE,storeCells,run_store _ _ _ _ _ h1,hc,hf,Addr.add]
theorem ak.gQ[bF P t z 1 b]{a:ae}(m:Nat){i:Int}{A:ai}{n c:Nat}{xs:ah}{u:Int}(hS:St w0 w ks)(hk:ks[m]?=some (ax te A n c xs))(ha:ev e a= .pointer (aF A i.toNat))(hx:ev e x=aj u)(hj:i.toNat<n)(hK:∀w',St w0 w' (ks.set m (ax te A n c (xs.set i.toNat u)))->ak P N ops K rest e w'):ak P N ops K (⟨none,.store t a x,ty,pos,af,none⟩::rest) e w:=
 .st hS hk ha hx rfl hj fun w' h=>hK w' (by simpa [ax,List.map_set]using h)
theorem sw[bF P t z 1 b]{a:ae}(m:Nat){i:Int}{A:ai}{n c:Nat}{xs:List Bool}{u:Bool}(hS:St w0 w ks)(hk:ks[m]?=some (jL te A n c xs))(ha:ev e a= .pointer (aF A i.toNat))(hx:ev e x= .bool u)(hj:i.toNat<n)(hK:∀w',St w0 w' (ks.set m (jL te A n c (xs.set i.toNat u)))->ak P N ops K rest e w'):ak P N ops K (⟨none,.store t a x,ty,pos,af,none⟩::rest) e w:=
 .st hS hk ha hx rfl hj fun w' h=>hK w' (by simpa [jL,List.map_set]using h)
theorem yQ[bF P t z 1 b]{a:ae}(m:Nat){i:Int}{A:ai}{n c:Nat}{xs:List aO}{n1:Nat}(hS:St w0 w ks)(hk:ks[m]?=some (aV te A n c xs))(ha:ev e a= .pointer (aF A i.toNat))(hx:ev e x= .slice A1 n1 c1)(hj:i.toNat<n)(hK:∀w',St w0 w' (ks.set m (aV te A n c (xs.set i.toNat ⟨A1,n1,c1⟩)))->ak P N ops K rest e w'):ak P N ops K (⟨none,.store t a x,ty,pos,af,none⟩::rest) e w:=
 .st hS hk ha hx rfl hj fun w' h=>hK w' (by simpa [aV,List.map_set,aO.v]using h)
theorem HO(z:ab)(n:Nat):(madeCells #[z] n)=(List.replicate n z).toArray:=by
 rw [<-toList_madeCells_one z n]
theorem ak.mk{el:ad}[bK P t (.slice el)][bF P el z 1 b]{k:IntKind}(n:Nat)(hS:St w0 w ks)(hx:ev e x= .int k (n:Int))(hz:z.cells= #[z])(Td:z.oneCell'=true)(hb:Nat.blt d N=true)(hn:b*n<=281474976710656/\n<=9223372036854775807)(hK:∀A w',St w0 w' (⟨A,n,n,el,List.replicate n z⟩::ks)->ak P N ops K rest (bt e d (.slice A n n)) w'):ak P N ops K (⟨some d,.makeSlice t x x,ty,pos,af,none⟩::rest) e w:=by
 obtain⟨inf,hi,eM,hs,ib⟩:=bF.get P el;have hr:=run_make_row (P:=P) t el inf z (bK.out (P:=P) (t:=t)) hi eM hs hz k k n (by rw [ib];exact hn.1) hn.2 w;have hA:=hS.alloc (List.replicate n z) el (by simp [maxLen];omega) (WY n Td);rw [HO]at hr;refine .val (w':=w.alloc (.cells (List.replicate n z).toArray el)) ?_ hb (hK _ _ (by simpa using hA));simp only [execOp,hx,Sem.run_bind,hr,Result.andThen_ok,Sem.run_pure]
theorem wR{el:ad}{v:Bool}[bK P t (.slice el)][bF P el (.bool v) 1 b]{k:IntKind}(n:Nat)(hS:St w0 w ks)(hx:ev e x= .int k (n:Int))(hb:Nat.blt d N=true)(hn:b*n<=281474976710656/\n<=9223372036854775807)(hK:∀A w',St w0 w' (jL el A n n (List.replicate n v)::ks)->ak P N ops K rest (bt e d (.slice A n n)) w'):ak P N ops K (⟨some d,.makeSlice t x x,ty,pos,af,none⟩::rest) e w:=
 .mk n hS hx rfl rfl hb hn fun A w' h=>hK A w' (by unfold jL;rw [List.map_replicate];exact h)
theorem pj{el:ad}{v:Int}[bK P t (.slice el)][bF P el (aj v) 1 b]{k:IntKind}(n:Nat)(hS:St w0 w ks)(hx:ev e x= .int k (n:Int))(hb:Nat.blt d N=true)(hn:b*n<=281474976710656/\n<=9223372036854775807)(hK:∀A w',St w0 w' (ax el A n n (List.replicate n v)::ks)->ak P N ops K rest (bt e d (.slice A n n)) w'):ak P N ops K (⟨some d,.makeSlice t x x,ty,pos,af,none⟩::rest) e w:=
 .mk n hS hx rfl rfl hb hn fun A w' h=>hK A w' (by unfold ax;rw [List.map_replicate];exact h)
theorem Ey{el:ad}[bK P t (.slice el)][bF P el (.slice none 0 0) 1 b]{k:IntKind}(n:Nat)(hS:St w0 w ks)(hx:ev e x= .int k (n:Int))(hb:Nat.blt d N=true)(hn:b*n<=281474976710656/\n<=9223372036854775807)(hK:∀A w',St w0 w' (aV el A n n (List.replicate n cJ)::ks)->ak P N ops K rest (bt e d (.slice A n n)) w'):ak P N ops K (⟨some d,.makeSlice t x x,ty,pos,af,none⟩::rest) e w:=
 .mk n hS hx rfl rfl hb hn fun A w' h=>hK A w' (by unfold aV;rw [List.map_replicate];exact h)
theorem y5(f:Nat->ab)(n:Nat):(Array.range n).map f=((List.range n).map f).toArray:=by apply Array.ext';simp
theorem jO{el:ad}[bK P t (.slice el)][bF P el z 1 b](hS:St w0 w ks)(hb:Nat.blt d N=true)(hK:∀A w',St w0 w' (⟨A,0,0,el,[]⟩::ks)->ak P N ops K rest (bt e d (.slice A 0 0)) w'):ak P N ops K (⟨some d,.buildSlice t 0 #[],ty,pos,af,none⟩::rest) e w:=by
 obtain⟨inf,hi,eM,hs,ib⟩:=bF.get P el;refine .val (w':=w.alloc (.cells #[] el)) ?_ hb (hK _ _ (hS.alloc [] el (by simp) O));simp [execOp,Instr.buildSlice,run_underlying (bK.out (P:=P) (t:=t)),sizeOf,typeInfo,hi,hs,Instr.fill,newRow,y5]
theorem ak.ES{el:ad}[bK P t (.slice el)][bF P el z 1 b](hS:St w0 w ks)(h0:ev e x0=v0)(c0:v0.oneCell'=true)(hz:z.cells= #[z])(hb:Nat.blt d N=true)(hK:∀A w',St w0 w' (⟨A,1,1,el,[v0]⟩::ks)->ak P N ops K rest (bt e d (.slice A 1 1)) w'):ak P N ops K (⟨some d,.buildSlice t 1 #[(0,x0)],ty,pos,af,none⟩::rest) e w:=by
 obtain⟨inf,hi,eM,hs,ib⟩:=bF.get P el;have e0:v0.cells= #[v0]:=by cases v0<;>simp [Value.oneCell']at c0<;>rfl
 refine .val (w':=w.alloc (.cells #[v0] el)) ?_ hb (hK _ _ (hS.alloc [v0] el (by simp [maxLen]) (DA c0)));simp [execOp,Instr.buildSlice,run_underlying (bK.out (P:=P) (t:=t)),sizeOf,typeInfo,zeroValue,hi,hs,eM,hz,Instr.fill,newRow,h0,e0,y5,rb]
theorem P9{el:ad}[bK P t (.slice el)][bF P el z 1 b](hS:St w0 w ks)(h0:ev e x0=v0)(h1:ev e x1=v1)(c0:v0.oneCell'=true)(c1:v1.oneCell'=true)(hz:z.cells= #[z])(hb:Nat.blt d N=true)(hK:∀A w',St w0 w' (⟨A,2,2,el,[v0,v1]⟩::ks)->ak P N ops K rest (bt e d (.slice A 2 2)) w'):ak P N ops K (⟨some d,.buildSlice t 2 #[(0,x0),(1,x1)],ty,pos,af,none⟩::rest) e w:=by
 obtain⟨inf,hi,eM,hs,ib⟩:=bF.get P el;have e0:v0.cells= #[v0]:=by cases v0<;>simp [Value.oneCell']at c0<;>rfl
 have e1:v1.cells= #[v1]:=by cases v1<;>simp [Value.oneCell']at c1<;>rfl
 refine .val (w':=w.alloc (.cells #[v0,v1] el)) ?_ hb (hK _ _ (hS.alloc [v0,v1] el (by simp [maxLen]) (DA c0)));simp [execOp,Instr.buildSlice,run_underlying (bK.out (P:=P) (t:=t)),sizeOf,typeInfo,zeroValue,hi,hs,eM,hz,Instr.fill,newRow,h0,e0,h1,e1,y5,rb]
theorem ak.box{el:ad}{v:ab}(hS:St w0 w ks)(hx:ev e x=v)(hb:Nat.blt d N=true)(hm:v.cells.size<=maxLen)(hK:∀A w',St w0 w' (⟨A,v.cells.size,v.cells.size,el,v.cells.toList⟩::ks)->ak P N ops K rest (bt e d (.pointer A)) w')(hM:dX v.cells.toList=false:=by rfl):ak P N ops K (⟨some d,.box el x,ty,pos,af,none⟩::rest) e w:=by
 have hA:=hS.alloc v.cells.toList el (by simpa using hm) hM;refine .val (w':=w.alloc (.cells v.cells el)) ?_ hb (hK _ _ (by simpa using hA));simp [execOp,Instr.box,newVar,newRow,hx]
theorem ak.xd{el:ad}{cs:Array ab}(hS:St w0 w ks)(hx:ev e x= .agg cs)(hb:Nat.blt d N=true)(hm:Nat.ble cs.size 100=true)(hK:∀A w',St w0 w' (⟨A,cs.size,cs.size,el,cs.toList⟩::ks)->ak P N ops K rest (bt e d (.pointer A)) w')(hM:dX cs.toList=false:=by rfl):ak P N ops K (⟨some d,.box el x,ty,pos,af,none⟩::rest) e w:=
 .box hS hx hb (by show cs.size<=maxLen;have:=Nat.le_of_ble_eq_true hm;simp only [maxLen];omega) hK hM
theorem ak.new{el:ad}{s:Nat}[bF P el z s b](hS:St w0 w ks)(hb:Nat.blt d N=true)(ic:Nat.ble z.cells.size 100=true)(hK:∀A w',St w0 w' (⟨A,z.cells.size,z.cells.size,el,z.cells.toList⟩::ks)->ak P N ops K rest (bt e d (.pointer A)) w')(hM:dX z.cells.toList=false:=by rfl):ak P N ops K (⟨some d,.alloc el,ty,pos,af,none⟩::rest) e w:=by
 obtain⟨inf,hi,eM,hs,ib⟩:=bF.get P el;have hm:z.cells.size<=maxLen:=by have:=Nat.le_of_ble_eq_true ic;simp only [maxLen];omega
 have hA:=hS.alloc z.cells.toList el (by simpa using hm) hM;refine .val (w':=w.alloc (.cells z.cells el)) ?_ hb (hK _ _ (by simpa using hA));simp [execOp,Instr.alloc,zeroValue,typeInfo,hi,eM,newVar,newRow]
theorem eV{A:ai}{n:Nat}{f:Nat->ab}(hR:Rd w A n f)(hn:0<n)(hx:ev e x= .pointer A)(hb:Nat.blt d N=true)(hK:ak P N ops K rest (bt e d (.pointer A)) w):
 ak P N ops K (⟨some d,.nilCheck x,ty,pos,af,none⟩::rest) e w:=by
 obtain⟨p,hp,_⟩:=hR 0 hn;obtain⟨q,rfl⟩:∃q,A=some q:=by cases A with | none=>simp [aF]at hp | some q=>exact⟨q,rfl⟩
 exact .YR hx hb hK
def zg:List Field->Nat->Option (ad×Nat)
 | f::_,0=>some (f.type,f.offset)
 | _::r,m+1=>zg r m
 | [],_=>none
theorem J8:∀ {l:List Field} {m:Nat} {ft off:Nat},zg l m=some (ft,off)->∃fd,l[m]?=some fd/\fd.type=ft/\fd.offset=off
 | [],_,_,_,h=>by simp [zg]at h
 | f::_,0,_,_,h=>by simp [zg]at h;exact⟨f,rfl,h.1,h.2⟩
 | _::r,m+1,_,_,h=>by simpa using J8 (l:=r) (m:=m) h
theorem acY{s:ad}{fs:Array Field}[bK P s (.struct fs)]{A:ai}{n m:Nat}{f:Nat->ab}(hR:Rd w A n f)(hx:ev e x= .pointer A)(hf:zg fs.toList m=some (ft,off))(hn:Nat.blt 0 n=true)(hb:Nat.blt d N=true)(hI:bF P ft z (sz+1) b)(hK:ak P N ops K rest (bt e d (.pointer (aF A off))) w):ak P N ops K (⟨some d,.fieldAddr s x m,ty,pos,af,none⟩::rest) e w:=by
 obtain⟨p,hp,_⟩:=hR 0 (by simpa [Nat.blt_eq]using hn);obtain⟨q,rfl⟩:∃q,A=some q:=by cases A with | none=>simp [aF]at hp | some q=>exact⟨q,rfl⟩
 obtain⟨fd,sW,rfl,rfl⟩:=J8 hf;have Gm:fs[m]?=some fd:=by simpa using sW
 obtain⟨inf,hi,eM,hs,ib⟩:=bF.get P fd.type;refine .val (w':=w) ?_ hb hK;simp [execOp,Instr.fieldAt,run_underlying (bK.out (P:=P) (t:=s)),Gm,hx,Instr.sureAddr,fieldPlace,sizeOf,typeInfo,hi,hs,aF]
theorem aS{s:ad}{fs:Array Field}[bK P s (.struct fs)]{A:ai}{n m:Nat}{f:Nat->ab}(hR:Rd w A n f)(q9:(ev e x,zg fs.toList m,Nat.blt 0 n,Nat.blt d N)=(.pointer A,some (ft,off),true,true))[hI:bF P ft z (sz+1) b](hK:ak P N ops K rest (bt e d (.pointer (aF A off))) w):ak P N ops K (⟨some d,.fieldAddr s x m,ty,pos,af,none⟩::rest) e w:=acY hR (congrArg (fun p=>p.1) q9) (congrArg (fun p=>p.2.1) q9) (congrArg (fun p=>p.2.2.1) q9) (congrArg (fun p=>p.2.2.2) q9) hI hK
theorem ak.br{fs:Array Field}(m:Nat)[bK P t (.struct fs)][bF P t z (m+1) b]{A:ai}{f:Nat->ab}{cs:Array ab}(hR:Rd w A (m+1) f)(hx:ev e x= .pointer A)(rE:((List.range (m+1)).map f).toArray=cs)(hb:Nat.blt d N=true)(hK:ak P N ops K rest (bt e d (.agg cs)) w):ak P N ops K (⟨some d,.load t x,ty,pos,af,none⟩::rest) e w:=by
 obtain⟨p,hp,_⟩:=hR 0 (by omega);obtain⟨q,rfl⟩:∃q,A=some q:=by cases A with | none=>simp [aF]at hp | some q=>exact⟨q,rfl⟩
 obtain⟨inf,hi,eM,hs,ib⟩:=bF.get P t;have hl:=run_loadCells (P:=P) w q (m+1) f (fun j hj=>by
  obtain⟨p,hp,hc⟩:=hR j hj;simp [aF]at hp;rw [hp];exact hc)
 subst rE;refine .val (w':=w) ?_ hb hK;simp [execOp,Instr.loadAt,hx,Instr.sureAddr,loadVar,isAgg,run_underlying (bK.out (P:=P) (t:=t)),sizeOf,typeInfo,hi,hs,hl]
theorem ac3{fs:Array Field}(m:Nat)[bK P t (.struct fs)][bF P t z (m+1) b]{A:ai}{f:Nat->ab}{cs:Array ab}(hR:Rd w A (m+1) f)(q9:(ev e x,((List.range (m+1)).map f).toArray,Nat.blt d N)=(.pointer A,cs,true))(hK:ak P N ops K rest (bt e d (.agg cs)) w):ak P N ops K (⟨some d,.load t x,ty,pos,af,none⟩::rest) e w:=ak.br m hR (congrArg (fun p=>p.1) q9) (congrArg (fun p=>p.2.1) q9) (congrArg (fun p=>p.2.2) q9) hK
theorem lC(A:ai):aF A 0=A:=by cases A<;>simp [aF,Addr.add]
theorem Oj(A:ai)(i j:Nat):aF (aF A i) j=aF A (i+j):=by
 cases A with
 | none=>rfl
 | some q=>simp only [aF,Option.map_some];unfold Addr.add;by_cases h1:i=0<;>by_cases h2:j=0<;>simp [h1,h2,Nat.add_assoc]
theorem Rd.behind{A:ai}{n m:Nat}{f:Nat->ab}(hR:Rd w A n f)(h:o+m<=n):Rd w (aF A o) m (fun j=>f (o+j)):=fun j hj=>by
 obtain⟨p,hp,hc⟩:=hR (o+j) (by omega);exact⟨p,by rw [Oj];exact hp,hc⟩
abbrev Bx(t:ad)(n:Nat)(A:ai)(vs:List ab):Ck:=⟨A,n,n,t,vs⟩
theorem fD{el:ad}(hS:St w0 w ks)(hx:ev e x= .agg #[v0])(hb:Nat.blt d N=true)(hK:∀A w',St w0 w' (Bx el 1 A [v0]::ks)->ak P N ops K rest (bt e d (.pointer A)) w')(hM:dX [v0]=false:=by rfl):ak P N ops K (⟨some d,.box el x,ty,pos,af,none⟩::rest) e w:= .xd hS hx hb rfl hK hM
theorem IY{el:ad}(hS:St w0 w ks)(hx:ev e x= .agg #[v0])(hb:Nat.blt d N=true)(hK:∀A w',w.drawn<=w'.drawn->St w0 w' (Bx el 1 A [v0]::ks)->ak P N ops K rest (bt e d (.pointer A)) w')(hM:dX [v0]=false:=by rfl):ak P N ops K (⟨some d,.box el x,ty,pos,af,none⟩::rest) e w:=by
 have hA:=hS.alloc (Value.agg #[v0]).cells.toList el (by show 1<=maxLen;simp [maxLen]) hM;refine .val (w':=w.alloc (.cells (Value.agg #[v0]).cells el)) ?_ hb (hK _ _ (dE _) (show St w0 _ (⟨_,(Value.agg #[v0]).cells.size,(Value.agg #[v0]).cells.size,el,(Value.agg #[v0]).cells.toList⟩::ks) from by simpa using hA));simp [execOp,Instr.box,newVar,newRow,hx]
theorem wO{el:ad}(hS:St w0 w ks)(hx:ev e x= .agg #[v0,v1])(hb:Nat.blt d N=true)(hK:∀A w',St w0 w' (Bx el 2 A [v0,v1]::ks)->ak P N ops K rest (bt e d (.pointer A)) w')(hM:dX [v0,v1]=false:=by rfl):ak P N ops K (⟨some d,.box el x,ty,pos,af,none⟩::rest) e w:= .xd hS hx hb rfl hK hM
theorem eH{el:ad}{s:Nat}[bF P el (.agg #[v0]) s b](hS:St w0 w ks)(hb:Nat.blt d N=true)(hK:∀A w',St w0 w' (Bx el 1 A [v0]::ks)->ak P N ops K rest (bt e d (.pointer A)) w')(hM:dX [v0]=false:=by rfl):ak P N ops K (⟨some d,.alloc el,ty,pos,af,none⟩::rest) e w:= .new (el:=el) (z:= .agg #[v0]) (s:=s) (b:=b) hS hb rfl hK hM
theorem yN{el:ad}{s:Nat}[bF P el (.agg #[v0,v1]) s b](hS:St w0 w ks)(hb:Nat.blt d N=true)(hK:∀A w',St w0 w' (Bx el 2 A [v0,v1]::ks)->ak P N ops K rest (bt e d (.pointer A)) w')(hM:dX [v0,v1]=false:=by rfl):ak P N ops K (⟨some d,.alloc el,ty,pos,af,none⟩::rest) e w:= .new (el:=el) (z:= .agg #[v0,v1]) (s:=s) (b:=b) hS hb rfl hK hM
theorem acZ{u:TypeDesc}[bK P t u]{A:ai}{n n1:Nat}{f:Nat->ab}(hR:Rd w A n f)(hx:ev e x= .pointer (aF A j))(hj:Nat.blt j n=true)(hv:f j= .slice A1 n1 c1)(hp:sa u=true)(hb:Nat.blt d N=true)(hK:ak P N ops K rest (bt e d (.slice A1 n1 c1)) w):ak P N ops K (⟨some d,.load t x,ty,pos,af,none⟩::rest) e w:= .ld hR hx (by simpa [Nat.blt_eq]using hj) hv hp hb hK
theorem a8{u:TypeDesc}[bK P t u]{A:ai}{n n1:Nat}{f:Nat->ab}(hR:Rd w A n f)(q9:(ev e x,Nat.blt j n,f j,sa u,Nat.blt d N)=(.pointer (aF A j),true,.slice A1 n1 c1,true,true))(hK:ak P N ops K rest (bt e d (.slice A1 n1 c1)) w):ak P N ops K (⟨some d,.load t x,ty,pos,af,none⟩::rest) e w:=acZ hR (congrArg (fun p=>p.1) q9) (congrArg (fun p=>p.2.1) q9) (congrArg (fun p=>p.2.2.1) q9) (congrArg (fun p=>p.2.2.2.1) q9) (congrArg (fun p=>p.2.2.2.2) q9) hK
theorem iw{u:TypeDesc}[bK P t u]{A:ai}{n:Nat}{k:IntKind}{i:Int}{f:Nat->ab}(hR:Rd w A n f)(hx:ev e x= .pointer (aF A j))(hj:Nat.blt j n=true)(hv:f j= .int k i)(hp:sa u=true)(hb:Nat.blt d N=true)(hK:ak P N ops K rest (bt e d (.int k i)) w):ak P N ops K (⟨some d,.load t x,ty,pos,af,none⟩::rest) e w:= .ld hR hx (by simpa [Nat.blt_eq]using hj) hv hp hb hK
theorem u9{u:TypeDesc}[bK P t u]{A:ai}{n:Nat}{i:Bool}{f:Nat->ab}(hR:Rd w A n f)(hx:ev e x= .pointer (aF A j))(hj:Nat.blt j n=true)(hv:f j= .bool i)(hp:sa u=true)(hb:Nat.blt d N=true)(hK:ak P N ops K rest (bt e d (.bool i)) w):ak P N ops K (⟨some d,.load t x,ty,pos,af,none⟩::rest) e w:= .ld hR hx (by simpa [Nat.blt_eq]using hj) hv hp hb hK
def oo(vs:List ab)(o:Nat):List ab->List ab
 | []=>vs
 | c::r=>oo (vs.set o c) (o+1) r
theorem Im{k:Ck}(i:Nat):∀(cs:List ab) (ks:List Ck) (vs:List ab) (w:aa) (o:Nat) (p:Addr),St w0 w ks->ks[i]?=some { k with vs:=vs }->aF k.A o=some p->o+cs.length<=k.n->(∀u∈cs,u.oneCell'=true)->∀m q,aF k.A m=some q->o=m+ (o - m)->
 m<=o->∃w',(storeCells q cs (o - m)).run P w= .ok () w'/\St w0 w' (ks.set i { k with vs:=oo vs o cs })
 | [],ks,vs,w,o,p,hS,hk,_,_,_,m,q,_,_,_=> ⟨w,by simp [storeCells],by
  have:ks.set i { k with vs:=oo vs o [] }=ks:=by
   apply List.ext_getElem?;intro j;rw [kX]
   split
   ·rename_i e;subst e;rw [hk,aJ (ga.1 hk).1];rfl
   ·rfl
  rw [this];exact hS⟩
 | c::r,ks,vs,w,o,p,hS,hk,hp,hl,h1,m,q,hq,ho,hm=>by
  simp only [List.length_cons]at hl;obtain⟨p',fV,⟨v,hc⟩,hf,lR⟩:=hS.store i hk (j:=o) (by show o<k.n;omega) c (h1 c (by simp));have My:q.add (o - m)=p':=by
   have:aF (aF k.A m) (o - m)=some p':=by rw [Oj,<-ho];exact fV
   rw [hq]at this;simpa [aF]using this
  have cI:=(ga.1 hk).1
  by_cases hr:r=[]
  ·subst hr;refine⟨_,?_,lR⟩;simp [storeCells,My,run_store _ _ _ _ _ (h1 c (by simp)),hc,hf]
  ·have bO:0<r.length:=by cases r with | nil=>exact absurd rfl hr | cons _ _=>simp
   obtain⟨p2,rR⟩:∃p2,aF k.A (o+1)=some p2:=by
    obtain⟨x,hx,_⟩:=(hS.rd i hk) (o+1) (by show o+1<k.n;omega);exact⟨x,hx⟩
   obtain⟨w2,nt,aw⟩:=Im i r _ (vs.set o c) _ (o+1) p2 lR (by rw [kX];simp [cI]) rR (by omega) (fun u hu=>h1 u (by simp [hu])) m q hq (by omega) (by omega);refine⟨w2,?_,by simpa [oo]using aw⟩;have e1:o+1 - m=o - m+1:=by omega
   rw [e1]at nt;simp [storeCells,My,run_store _ _ _ _ _ (h1 c (by simp)),hc,hf,nt]
theorem ak.OP(m:Nat)[bF P t z m b]{a:ae}(i:Nat){k:Ck}{cs:Array ab}(hS:St w0 w ks)(hk:ks[i]?=some k)(ha:ev e a= .pointer (aF k.A o))(hx:ev e x= .agg cs)(rE:cs.size=m)(vk:cs.toList.all Value.oneCell'=true)(zS:Nat.blt 0 m=true)(zT:Nat.ble (o+m) k.n=true)(hK:∀w',St w0 w' (ks.set i { k with vs:=oo k.vs o cs.toList })->ak P N ops K rest e w'):ak P N ops K (⟨none,.store t a x,ty,pos,af,none⟩::rest) e w:=by
 have hn:0<m/\o+m<=k.n:=⟨by simpa [Nat.blt_eq]using zS,Nat.le_of_ble_eq_true zT⟩;have h1:∀u∈cs.toList,u.oneCell'=true:=fun u hu=>List.all_eq_true.1 vk u hu
 obtain⟨p,hp,_⟩:=(hS.rd i hk) o (by omega);obtain⟨w',nt,lR⟩:=Im (P:=P) (k:=k) i cs.toList ks k.vs w o p hS hk hp (by simp;omega) h1 o p hp (by omega) (by omega);obtain⟨inf,hi,_,hs,_⟩:=bF.get P t;refine .unit (w':=w') ?_ (hK _ lR);rw [Nat.sub_self]at nt;simp [execOp,Instr.storeAt,ha,hx,hp,Instr.sureAddr,storeVar,sizeOf,typeInfo,hi,hs,Value.cells,rE,nt]
theorem bR(m:Nat)[bF P t z m b]{a:ae}(i:Nat){k:Ck}{cs:Array ab}(hS:St w0 w ks)(hk:ks[i]?=some k)(ha:ev e a= .pointer k.A)(hx:ev e x= .agg cs)(rE:cs.size=m)(h1:cs.toList.all Value.oneCell'=true)(zS:Nat.blt 0 m=true)(zT:Nat.ble (0+m) k.n=true)(hK:∀w',St w0 w' (ks.set i { k with vs:=oo k.vs 0 cs.toList })->ak P N ops K rest e w'):ak P N ops K (⟨none,.store t a x,ty,pos,af,none⟩::rest) e w:=
 .OP m i hS hk (by rw [lC];exact ha) hx rE h1 zS zT hK
theorem kD[bF P t z 1 b]{a:ae}(i:Nat){k:Ck}(hS:St w0 w ks)(hk:ks[i]?=some k)(ha:ev e a= .pointer (aF k.A j))(hx:ev e x=u)(h1:u.oneCell'=true)(hj:Nat.blt j k.n=true)(hK:∀w',St w0 w' (ks.set i { k with vs:=k.vs.set j u })->ak P N ops K rest e w'):ak P N ops K (⟨none,.store t a x,ty,pos,af,none⟩::rest) e w:= .st hS hk ha hx h1 (by simpa [Nat.blt_eq]using hj) hK
def Ou(a n:Nat)(R:ab->aa->Prop):gV
 | .normal,e,w=>∃A f,e a= .pointer A/\Rd w A n f/\R (.agg ((List.range n).map f).toArray) w
 | .ret,e,w=>∃A f,e a= .pointer A/\Rd w A n f/\R (.agg ((List.range n).map f).toArray) w
 | _,_,_=>False
theorem fZ{a n:Nat}{R:ab->aa->Prop}{A:ai}{f:Nat->ab}(h:e a= .pointer A)(hR:Rd w A n f)(h2:R (.agg ((List.range n).map f).toArray) w):Ou a n R .ret e w:=⟨A,f,h,hR,h2⟩
theorem OC{fs:Array Field}{n:Nat}[bK P t (.struct fs)][bF P t z n b]{A:ai}{f:Nat->ab}(hn:0<n)(hR:Rd w A n f):∃q,A=some q/\(loadVar t q).run P w= .ok (.agg ((List.range n).map f).toArray) w:=by
 obtain⟨p,hp,_⟩:=hR 0 hn;obtain⟨q,rfl⟩:∃q,A=some q:=by cases A with | none=>simp [aF]at hp | some q=>exact⟨q,rfl⟩
 obtain⟨inf,hi,eM,hs,ib⟩:=bF.get P t;have hl:=run_loadCells (P:=P) w q n f (fun j hj=>by
  obtain⟨p,hp,hc⟩:=hR j hj;simp [aF]at hp;rw [hp];exact hc)
 exact⟨q,O,by simp [loadVar,isAgg,run_underlying (bK.out (P:=P) (t:=t)),sizeOf,typeInfo,hi,hs,hl]⟩
theorem lB{fn:Func}{R:ab->aa->Prop}{a t n:Nat}{fs:Array Field}[bK P t (.struct fs)][bF P t z n b](hr:fn.results= #[.cell a t])(pT:Nat.blt 0 n=true):∀x a1 e w,gW N a1 e->Ou a n R x e w->bodyPost P fn (fun x w'=>∃v,x= .returned v/\R v w') x a1 w:=by
 intro x a1 e w he q;have hn:0<n:=by simpa [Nat.blt_eq]using pT
 have hg:=he.get a;have key:∀(A:ai) (f:Nat->ab),e a= .pointer A->Rd w A n f->(results fn a1.tmps).run P w= .ok (.agg ((List.range n).map f).toArray) w:=by
  intro A f hA hR;obtain⟨q,rfl,hl⟩:=OC (P:=P) (t:=t) hn hR;rw [gA]at hg;simp [results,hr,hg,hA,asAddr,hl]
 cases x<;>first
  | exact q.elim
  | (
   obtain⟨A,f,hA,hR,h2⟩:=q;exact⟨he.defers,_,key A f hA hR,_,O,h2⟩)
def cutAt(A:ai)(c l:Nat):ai:=if c=l then A else aF A l
theorem Rd.cut{A:ai}{n c:Nat}{f:Nat->ab}(hR:Rd w A n f)(hl:l<=h)(hn:h<=n)(hc:n<=c):Rd w (cutAt A c l) (h - l) (fun j=>f (l+j)):=fun j hj=>by
 obtain⟨p,hp,pM⟩:=hR (l+j) (by omega);refine⟨p,?_,pM⟩;unfold cutAt;rw [aC (by omega)];cases A with
 | none=>simp [aF]at hp
 | some q=>
  simp only [aF,Option.map_some,mF]at hp|-;rw [<-hp];unfold Addr.add
  by_cases s7:l=0<;>by_cases Vh:j=0<;>simp [s7,Vh,Nat.add_assoc]
theorem cd.cut{A:ai}{n c:Nat}{xs:ah}(hR:cd w A n xs)(hl:l<=h)(hn:h<=n)(hc:n<=c):cd w (cutAt A c l) (h - l) ((xs.drop l).take (h - l)):=
 ⟨by have:=hR.1;simp;omega,(hR.2.cut hl hn hc).congr fun j hj=>by simp [df,qh,hj]⟩
theorem gp.cut{A:ai}{n c:Nat}{xs:List aO}(hR:gp w A n xs)(hl:l<=h)(hn:h<=n)(hc:n<=c):gp w (cutAt A c l) (h - l) ((xs.drop l).take (h - l)):=
 ⟨by have:=hR.1;simp;omega,(hR.2.cut hl hn hc).congr fun j hj=>by simp [df,qh,hj]⟩
theorem sr{el:ad}[hU:bK P t (.slice el)][bF P el z 1 b]{A:ai}{n c:Nat}{k:IntKind}{l:Int}(hx:ev e x= .slice A n c)(hl:ev e lo= .int k l)(hb:Nat.blt d N=true)(h0:0<=l/\l<=(n:Int))(hK:ak P N ops K rest (bt e d (.slice (cutAt A c l.toNat) (n - l.toNat) (c - l.toNat))) w):ak P N ops K (⟨some d,.slice t x (some lo) none none,ty,pos,af,none⟩::rest) e w:=by
 obtain⟨inf,hi,eM,hs,ib⟩:=bF.get P el;refine .val (w':=w) ?_ hb hK;have:=run_sliceBound (P:=P) w k l n .sliceB h0.1 h0.2;simp [execOp,hx,hl,Instr.sliceAt,run_underlying hU.out,Instr.slice,Instr.sliceBounds,this,sizeOf,typeInfo,hi,hs,cutAt,aF]
theorem u7{el:ad}[hU:bK P t (.slice el)][bF P el z 1 b]{A:ai}{n c:Nat}{k:IntKind}{h:Int}(hx:ev e x= .slice A n c)(hh:ev e di= .int k h)(hb:Nat.blt d N=true)(h0:0<=h/\h<=(c:Int))(hK:ak P N ops K rest (bt e d (.slice A h.toNat c)) w):ak P N ops K (⟨some d,.slice t x none (some di) none,ty,pos,af,none⟩::rest) e w:=by
 obtain⟨inf,hi,eM,hs,ib⟩:=bF.get P el;refine .val (w':=w) ?_ hb hK;have:=run_sliceBound (P:=P) w k h c .sliceAcap h0.1 h0.2;have hA:A.map (fun x=>x.add 0)=A:=by cases A<;>simp [Addr.add]
 simp [execOp,hx,hh,Instr.sliceAt,run_underlying hU.out,Instr.slice,Instr.sliceBounds,this,sizeOf,typeInfo,hi,hs,hA]
theorem OB{el:ad}[hU:bK P t (.slice el)][bF P el z 1 b](hz:z.cells= #[z0]){k:Ck}(i:Nat)(hS:St w0 w ks)(hk:ks[i]?=some k)(hM:dX k.vs=false)(he:k.e=el){m:Nat}{f:Nat->ab}(hR:Rd w A' m f)(h1:∀j,j<m->(f j).oneCell'=true)
 (pC:k.n+m<=maxLen) (pL:(k.n+m)*b<=140737488355328) (ty:ad):
 ∃A2 c2 w',(Builtin.append_ #[t,t] ty #[.slice k.A k.n k.c,.slice A' m c']).run P w= .ok (.slice A2 (k.n+m) c2) w'/\St w0 w' (ks.set i ⟨A2,k.n+m,c2,el,k.vs++ (List.range m).map f⟩)/\(k.n=k.c->Below w.heap.size w w'):=by
 subst he;obtain⟨inf,hi,eM,hs,ib⟩:=bF.get P k.e;have ta:=hS.nO hk hM;have FU:dX (k.vs++ (List.range m).map f)=false:=WW hM (tm fun u hu=>by
  obtain⟨j,hj,rfl⟩:=fx.1 hu;exact h1 j (by simpa using hj))
 obtain⟨hl,ku,nV,h4⟩:=ta;have zN:=(ga.1 hk).1
 by_cases hm:m=0
 ·subst hm;refine⟨k.A,k.c,w,?_,?_,fun _=>Below.refl _ _⟩
  ·cases A' with
   | none=>cases Vn:k.A<;>simp [Builtin.append_,run_underlying hU.out,sizeOf,typeInfo,hi,Builtin.lenOf,Builtin.firstCells,ku,storeCells]
   | some a=>
    have s7:=run_loadCells (P:=P) w a 0 f (fun j hj=>by omega);cases Vn:k.A<;>simp [Builtin.append_,run_underlying hU.out,sizeOf,typeInfo,hi,Builtin.lenOf,Builtin.firstCells,ku,storeCells,loadCells,loadCellsFrom]
  ·have:ks.set i ⟨k.A,k.n+0,k.c,k.e,k.vs++ (List.range 0).map f⟩=ks:=by
    have h5:(⟨k.A,k.n+0,k.c,k.e,k.vs++ (List.range 0).map f⟩:Ck)=k:=by simp
    rw [h5];apply List.ext_getElem?;intro j;rw [kX]
    split
    ·rename_i e;subst e;rw [hk]
     try simp [zN]
    ·rfl
   rw [this];exact hS
 ·obtain⟨a,rfl⟩:∃a,A'=some a:=by
   obtain⟨p,hp,_⟩:=hR 0 (by omega);cases A' with | none=>simp [aF]at hp | some q=>exact⟨q,rfl⟩
  have jr:((List.range m).map f).length=m:=by simp
  have zV:∀j v,((List.range m).map f)[j]?=some v->w.cell? (a.add j)=some v:=by
   intro j v hj;have rI:j<m:=by have:=(ga.1 hj).1;simpa using this
   obtain⟨p,hp,hc⟩:=hR j rI;simp only [aF,Option.map_some,mF]at hp;rw [hp,hc,<-hj];simp [rI]
  have vk:∀u∈(List.range m).map f,u.oneCell'=true:=by
   intro u hu;obtain⟨j,hj,rfl⟩:=fx.1 hu;exact h1 j (by simpa using hj)
  have fresh:∀(cs:List ab) (c2:Nat),dX cs=false->k.n+m<=c2->c2<=maxLen->cs.length=c2->cs.take (k.n+m)=k.vs++ (List.range m).map f->
   St w0 (w.drew.alloc (.cells cs.toArray k.e)) (ks.set i ⟨some ⟨w.heap.size,0,none⟩,k.n+m,c2,k.e,k.vs++ (List.range m).map f⟩):=by
   intro cs c2 Tk h5 h6 h7 h8;have hA:=hS.drew.alloc cs k.e (by omega) Tk;have hp:(⟨some ⟨w.heap.size,0,none⟩,cs.length,cs.length,k.e,cs⟩::ks).Perm (k::(ks.set i ⟨some ⟨w.heap.size,0,none⟩,cs.length,cs.length,k.e,cs⟩)):=by
    have gen:∀(l:List Ck) (i:Nat) (x y:Ck),l[i]?=some y->(x::l).Perm (y::l.set i x):=by
     intro l
     induction l with
     | nil=>intro i x y h;simp at h
     | cons u l ih=>
      intro i x y h;cases i with
      | zero=>simp at h;subst h;exact List.Perm.swap _ _ _
      | succ i=>
       simp only [List.getElem?_cons_succ]at h;simp only [List.set_cons_succ];exact(List.Perm.swap _ _ _).trans (((ih i x y h).cons u).trans (List.Perm.swap _ _ _))
    exact gen ks i _ _ hk
   have hB:=(hA.perm hp).tail;refine⟨hB.below,fun x hx=>?_,?_⟩
   ·obtain⟨j,hj,rfl⟩:=gu.1 hx;have fI:j<ks.length:=by simpa using hj
    rw [List.getElem_set]
    split
    ·refine .o5 FU ⟨?_,h5,h6,.inr ⟨w.heap.size,0,cs.toArray,O,hS.below.size,heap_alloc_new w.drew _,by simp;omega,fun q hq=>?_⟩⟩
     ·simp [hl]
     ·have VQ:q<k.n+m:=hq;show cs.toArray[0+q]?=(k.vs++ (List.range m).map f)[q]?;rw [<-h8];simp [qh,VQ]
    ·rename_i b9;refine hB.own _ (gu.2 ⟨j,by simpa using fI,?_⟩);rw [List.getElem_set,aC b9]
   ·have h9:=hB.apart;rw [show(ks.set i ⟨some ⟨w.heap.size,0,none⟩,k.n+m,c2,k.e,k.vs++ (List.range m).map f⟩).filterMap Ck.gY=(ks.set i ⟨some ⟨w.heap.size,0,none⟩,cs.length,cs.length,k.e,cs⟩).filterMap Ck.gY from ?_]
    ·exact h9
    ·have:=Cm Ck.gY (ks.set i ⟨some ⟨w.heap.size,0,none⟩,cs.length,cs.length,k.e,cs⟩) i ⟨some ⟨w.heap.size,0,none⟩,cs.length,cs.length,k.e,cs⟩ ⟨some ⟨w.heap.size,0,none⟩,k.n+m,c2,k.e,k.vs++ (List.range m).map f⟩ (by rw [kX];simp [zN]) O;rw [<-this];simp
  have Tl:((k.n+m:Nat):Int)<=9223372036854775807:=by simp only [maxLen]at pC;omega
  rcases h4 with⟨hA,h0⟩ | ⟨g,o,cur,hA,hg,hh,lX,hc⟩
  ·have lr:k.n=0:=by omega
   have AE:k.vs=[]:=qg (by omega);have hr:=run_append_nil (P:=P) w t ty k.e inf z hU.out hi eM a m c' _ (by rw [jr,hs,Nat.mul_one]) zV (by omega) (by omega) (by rw [ib];rw [lr,Nat.zero_add]at pL;omega);have pP:=grownCap_ge w m 0 k.e;refine⟨_,_,_,?_,fresh (((List.range m).map f)++List.replicate (grownCap w m 0 k.e - m) z0) (grownCap w m 0 k.e) (Hr (tm vk) (by intro hn;have:=bw List.length hn;simp at this;omega)) (by omega) (grownCap_le_maxLen w m 0 k.e (by omega)) (by simp;omega) (by rw [AE,lr];simp),fun _=> (Below.refl w.heap.size w).drew.alloc (dE _) _⟩;have ye:Builtin.zeroCells z.cells (grownCap w m 0 k.e - m)=(List.replicate (grownCap w m 0 k.e - m) z0).toArray:=by
    rw [hz];simp only [Builtin.zeroCells];exact(show _=_ from by have:=HO z0 (grownCap w m 0 k.e - m);simpa [madeCells]using this)
   rw [hA,h0,lr,Nat.zero_add,hr,ye,List.append_toArray]
  ·by_cases G6:k.n+m<=k.c
   ·have hf:=run_firstCells_some (P:=P) w inf.size m a m c' _ (by rw [jr,hs,Nat.mul_one]) zV;have aA:=run_storeCells_at P g (o+k.n) k.e ((List.range m).map f) 0 cur w hh (by rw [jr];omega) vk;simp only [Nat.add_zero]at aA;refine⟨some ⟨g,o,none⟩,k.c,_,?_,hS.turn (k:=k) (g:=g) hk (by simp [Ck.gY,hA]) (by simp [Ck.gY]) (w':=w.setRow g (cur.toList.take (o+k.n)++ (List.range m).map f++cur.toList.drop (o+k.n+ ((List.range m).map f).length)).toArray) ?_ ?_,fun h=>absurd G6 (by omega)⟩
    ·rw [hA];simp [Builtin.append_,run_underlying hU.out,sizeOf,typeInfo,hi,hs,Builtin.lenOf,G6,Addr.add_lit];rw [hs]at hf;simp only [fQ,pf]at aA|-;simp [hf,aA]
    ·exact⟨⟨O,O,O,by simp,fun x _ hx=>setRow_other w g x _ (fun e=>hx (by rw [e]))⟩,dE _⟩
    ·refine .o5 FU ⟨by simp [hl],G6,nV,.inr ⟨g,o,_,O,hg,setRow_heap w g cur _ k.e _ hh,?_,fun j hj=>?_⟩⟩
     ·simp;omega
     ·have fI:j<k.n+m:=hj;show((cur.toList.take (o+k.n)++ (List.range m).map f++cur.toList.drop (o+k.n+ ((List.range m).map f).length)).toArray)[o+j]?=(k.vs++ (List.range m).map f)[j]?;have cz:cur.toList.length=cur.size:=by simp
      rw [List.getElem?_toArray]
      by_cases rJ:j<k.n
      ·rw [fC,ow (by simp;omega),qh,aJ (by omega),ow (by omega)];rw [Array.getElem?_toList];exact hc j rJ
      ·rw [fC,mU (by simp;omega),ow (by simp;omega),mU (by omega)]
       congr 1
       simp;omega
   ·have holds:∀j v,k.vs[j]?=some v->w.cell? ((⟨g,o,none⟩:Addr).add j)=some v:=by
     intro j v hj;have rJ:j<k.n:=by have:=(ga.1 hj).1;omega
     rw [yZ];simp only [World.cell?,hh];simpa [hc j rJ]using hj
    have hr:=run_append_grow (P:=P) w t ty k.e inf z hU.out hi eM ⟨g,o,none⟩ k.n k.c k.vs (by rw [hl,hs,Nat.mul_one]) holds a m c' _ (by rw [jr,hs,Nat.mul_one]) zV (by omega) Tl (growslice_fits (by omega) (by rw [ib];exact pL));have pP:=grownCap_ge w (k.n+m) k.c k.e;refine⟨_,_,_,?_,fresh (k.vs++ (List.range m).map f++List.replicate (grownCap w (k.n+m) k.c k.e - (k.n+m)) z0) (grownCap w (k.n+m) k.c k.e) (Hr FU (by intro hn;have:=bw List.length hn;simp at this;omega)) (by omega) (grownCap_le_maxLen w (k.n+m) k.c k.e pC) (by simp [hl];omega) (by rw [List.take_append_of_le_length (by simp [hl])];exact jc (by simp [hl])),fun _=> (Below.refl w.heap.size w).drew.alloc (dE _) _⟩;have ye:Builtin.zeroCells z.cells (grownCap w (k.n+m) k.c k.e - (k.n+m))=(List.replicate (grownCap w (k.n+m) k.c k.e - (k.n+m)) z0).toArray:=by
     rw [hz];simp only [Builtin.zeroCells];exact(show _=_ from by have:=HO z0 (grownCap w (k.n+m) k.c k.e - (k.n+m));simpa [madeCells]using this)
    rw [hA,hr,ye,List.append_toArray,List.append_toArray]
theorem ak.app{el:ad}[hU:bK P t (.slice el)][bF P el z 1 b]{k:Ck}(i:Nat){m:Nat}{f:Nat->ab}(hS:St w0 w ks)(hk:ks[i]?=some k)(hR:Rd w A' m f)(hx:ev e x= .slice k.A k.n k.c)(hy:ev e y= .slice A' m c')(he:k.e=el)(hz:z.cells= #[z0])(h1:∀j,j<m->(f j).oneCell'=true)(pC:k.n+m<=maxLen)(pL:(k.n+m)*b<=140737488355328)(hb:Nat.blt d N=true)(hK:∀A2 c2 w',St w0 w' (ks.set i ⟨A2,k.n+m,c2,el,k.vs++ (List.range m).map f⟩)->ak P N ops K rest (bt e d (.slice A2 (k.n+m) c2)) w')(hM:dX k.vs=false:=by first | rfl | exact oX _ | exact AM _ | exact qJ _):
 ak P N ops K (⟨some d,.call ⟨.builtin .append, #[x,y], #[t,t]⟩,ty,pos,af,none⟩::rest) e w:=by
 obtain⟨A2,c2,w',hr,lR,_⟩:=OB (P:=P) (t:=t) hz i hS hk hM he hR h1 pC pL ty (c':=c');refine .val (w':=w') ?_ hb (hK _ _ _ lR);simp [execOp,resolve,invoke,builtin,hx,hy,hr]
theorem ak.QM{el:ad}[hU:bK P t (.slice el)][bF P el z 1 b]{k:Ck}(i:Nat){m:Nat}{f:Nat->ab}(Gn:k.n=k.c)(hS:St w0 w ks)(hk:ks[i]?=some k)(hR:Rd w A' m f)(hx:ev e x= .slice k.A k.n k.c)(hy:ev e y= .slice A' m c')(he:k.e=el)(hz:z.cells= #[z0])(h1:∀j,j<m->(f j).oneCell'=true)(pC:k.n+m<=maxLen)(pL:(k.n+m)*b<=140737488355328)(hb:Nat.blt d N=true)(hK:∀A2 c2 w',Below w.heap.size w w'->St w0 w' (ks.set i ⟨A2,k.n+m,c2,el,k.vs++ (List.range m).map f⟩)->ak P N ops K rest (bt e d (.slice A2 (k.n+m) c2)) w')(hM:dX k.vs=false:=by first | rfl | exact oX _ | exact AM _ | exact qJ _):
 ak P N ops K (⟨some d,.call ⟨.builtin .append, #[x,y], #[t,t]⟩,ty,pos,af,none⟩::rest) e w:=by
 obtain⟨A2,c2,w',hr,lR,sU⟩:=OB (P:=P) (t:=t) hz i hS hk hM he hR h1 pC pL ty (c':=c');refine .val (w':=w') ?_ hb (hK _ _ _ (sU Gn) lR);simp [execOp,resolve,invoke,builtin,hx,hy,hr]
end
inductive Yd where
 | ex (v:ab)
 | pr (p:ab->aa->Prop)
def Yd.holds:Yd->ab->aa->Prop
 | .ex v,u,_=>u=v
 | .pr p,u,w=>p u w
def Yd.oc:Yd->Prop
 | .ex _=>True
 | .pr p=>∀v w w',p v w->Below w.heap.size w w'->p v w'
theorem Yd.Yg(v:ab):(Yd.ex v).oc:=True.intro
theorem lx{v:ab}{l:List Yd}(h:∀y∈l,y.oc):∀y∈Yd.ex v::l,y.oc:=cL.2 ⟨True.intro,h⟩
theorem Yd.cQ{p:ab->aa->Prop}(h:∀v w w',p v w->Below w.heap.size w w'->p v w'):(Yd.pr p).oc:=h
abbrev xU:Yd:= .ex undef
abbrev xI(i:Int):Yd:= .ex (aj i)
abbrev xB(b:Bool):Yd:= .ex (.bool b)
abbrev xP(a:ai):Yd:= .ex (.pointer a)
abbrev xS(a:ai)(n c:Nat):Yd:= .ex (.slice a n c)
theorem Qw{y:Yd}(hl:y.oc){v:ab}{w w':aa}(h:y.holds v w)(hb:Below w.heap.size w w'):y.holds v w':=by
 cases y with
 | ex u=>exact h
 | pr p=>exact hl v w w' h hb
def fJ(ds:List Nat)(i:Nat):Bool:=match ds with
 | []=>false
 | d::r=>bif Nat.beq i d then true else fJ r i
theorem uL{ds:List Nat}{i:Nat}:fJ ds i=true↔i∈ds:=by
 induction ds with
 | nil=>simp [fJ]
 | cons d r ih=>
  simp only [fJ,ja];cases hb:Nat.beq i d with
  | true=>simp [lH hb]
  | false=>
   have:i≠d:=fun e=>by subst e;simp at hb
   simp [this,ih]
def mix(e1 e:Env)(ds:List Nat):Env:=fun i=>bif fJ ds i then e1 i else e i
def eD(o:Oper):List Edge:=o.after.toList.filter (Region.binds .any)
theorem nv{o:Oper}{ed:Edge}:ed∈eD o↔ed∈o.after/\Region.binds .any ed=true:=by
 simp [eD]
def en(o:Oper):Nat:=match o.dst with
 | some d=>d
 | none=>0
def JX(N:Nat)(l:List Oper):Bool:=
 l.all (fun o=>match o.dst with | some d=>Nat.blt d N | none=>false) && decide ((l.map en).Nodup) && (l.zipIdx.all fun p=> (eD p.1).all fun ed=>Nat.blt ed.on p.2)
def qq(l:List Oper)(ys:List Yd):List Edge->List (Nat×ab)
 | []=> []
 | ed::r=>match ys[ed.on]? with
  | some (.ex v)=> (((l[ed.on]?).map en).getD 0,v)::qq l ys r
  | _=>qq l ys r
def ru:List Oper->List Yd->(Nat->ab)->Nat->List (Nat×ab)
 | o::l,.ex v::ys,u,i=> (en o,v)::ru l ys u (i+1)
 | o::l,.pr _::ys,u,i=> (en o,u i)::ru l ys u (i+1)
 | _,_,_,_=> []
def gX(l:List Oper):Nat->Nat->Nat->Bool
 | 0,_,_=>false
 | f+1,k,j=>match l[k]? with
  | some o=> (eD o).any fun ed=>Nat.beq ed.on j || gX l f ed.on j
  | none=>false
theorem tJ{l:List Oper}{listed:Array Bool}(cz:∀(i:Nat) (o:Oper),listed.getD i false=true->l[i]?=some o->∀ed∈eD o,listed.getD ed.on false=true):∀(f k j:Nat),gX l f k j=true->listed.getD k false=true->listed.getD j false=true
 | 0,k,j,h,_=>by simp [gX]at h
 | f+1,k,j,h,hk=>by
  simp only [gX]at h
  split at h
  ·rename_i o ho;rw [List.any_eq_true]at h;obtain⟨ed,eQ,h⟩:=h;have h1:=cz k o hk ho ed eQ;rw [Bool.or_eq_true]at h;rcases h with h | h
   ·rw [<-lH h];exact h1
   ·exact tJ cz f ed.on j h h1
  ·cases h
theorem EI{l:List Oper}{listed:Array Bool}(cz:∀(i:Nat) (o:Oper),listed.getD i false=true->l[i]?=some o->∀ed∈eD o,listed.getD ed.on false=true){k:Nat}{o:Oper}(ho:l[k]?=some o)(hr:∀ed∈eD o,listed.getD ed.on false=true):∀(f j:Nat),gX l f k j=true->listed.getD j false=true
 | 0,j,h=>by simp [gX]at h
 | f+1,j,h=>by
  simp only [gX,ho]at h;rw [List.any_eq_true]at h;obtain⟨ed,eQ,h⟩:=h;have h1:=hr ed eQ;rw [Bool.or_eq_true]at h;rcases h with h | h
  ·rw [<-lH h];exact h1
  ·exact tJ cz f ed.on j h h1
section
variable{d id:Nat}{e1:Env}{w1 w2 w:aa}{y:Yd}{ops:Array Oper}{o:Oper}{l:List Oper}
variable {P:Program} {N:Nat} {e:Env} {w:aa}
def eA(i:Nat)(e1:Env)(w1:aa)(d:Nat)(y:Yd):Env->aa->Prop:=fun e2 w2=>Below w1.heap.size w1 w2/\y.holds (e2 d) w2/\∀j,j≠d->e2 j=e1 j
theorem eA.dn{i:Nat}{v:ab}(hb:Below w1.heap.size w1 w2)(hv:y.holds v w2):eA i e1 w1 d y (bt e1 d v) w2:=by
 refine⟨hb,?_,fun j hj=>?_⟩
 ·have:bt e1 d v d=v:=by unfold bt;rw [Nat.beq_refl];rfl
  rw [this];exact hv
 ·have:Nat.beq j d=false:=by
   cases h:Nat.beq j d with
   | false=>rfl
   | true=>exact absurd (lH h) hj
  unfold bt;rw [this];rfl
theorem d0{i:Nat}{v:ab}(hv:y.holds v w1):eA i e1 w1 d y (bt e1 d v) w1:=eA.dn (Below.refl _ _) hv
theorem Az{i:Nat}{v:ab}(hv:y.holds v w1:=by exact O):ak P N ops (eA i e1 w1 d y) [] (bt e1 d v) w1:=ak.n (eA.dn (Below.refl _ _) hv)
def qQ(ops:Array Oper)(N:Nat)(e:Env)(o:Oper):Option (Nat×ab):=
 match o.guard with
 | none=>pa N e o
 | some (j,want)=>match o.dst,(ops[j]?).bind (·.dst)with
  | some d,some dj=> (match Nat.blt dj N,Nat.blt d N with
   | true,true=> (match e dj with
    | .bool b=> (match b,want with
     | true,true=>pa N e ⟨some d,o.op,o.type,o.pos,o.after,none⟩
     | false,false=>pa N e ⟨some d,o.op,o.type,o.pos,o.after,none⟩
     | true,false=>some (d,undef)
     | false,true=>some (d,undef))
    | .tuple vs=> (match vs.toList with
     | []=>some (d,undef)
     | _=>none)
    | _=>none)
   | _,_=>none)
  | _,_=>none
theorem ak.qQ{K:Env->aa->Prop}{v:ab}(h:qQ ops N e1 o=some (d,v))(hK:K (bt e1 d v) w1):ak P N ops K [o] e1 w1:=by
 obtain⟨dst,op,ty,pos,af,gd⟩:=o;unfold Vc.qQ at h
 split at h
 ·exact .pa h (ak.n hK)
 rename_i j want hg;simp only at hg;subst hg
 split at h
 ·rename_i d' dj hd hj;simp only at hd;subst hd
  split at h
  ·rename_i cI hb
   split at h
   ·rename_i b he
    split at h
    ·exact acR hj cI he (.pa h (ak.n hK))
    ·exact acR hj cI he (.pa h (ak.n hK))
    ·simp only [mF,Prod.mk.injEq]at h;obtain⟨rfl,rfl⟩:=h;exact acS hj cI he O hb (ak.n hK)
    simp only [mF,Prod.mk.injEq]at h;obtain⟨rfl,rfl⟩:=h;exact acS hj cI he O hb (ak.n hK)
   ·rename_i vs he
    split at h
    ·rename_i hv;have hu:vs= #[]:=by cases vs;simp only at hv;rw [hv]
     subst hu;simp only [mF,Prod.mk.injEq]at h;obtain⟨rfl,rfl⟩:=h;exact acT hj cI he hb (ak.n hK)
    cases h
   cases h
  cases h
 cases h
theorem OQ{v:ab}(h:qQ ops N e1 o=some (d,v)):o.dst=some d:=by
 have key:∀(o:Oper),pa N e1 o=some (d,v)->o.dst=some d:=fun o h=>by
  unfold pa at h
  split at h
  ·rename_i d' hg hd
   split at h
   ·split at h
    ·simp only [mF,Prod.mk.injEq]at h;rw [hd,h.1]
    cases h
   cases h
  cases h
 unfold qQ at h
 split at h
 ·exact key _ h
 split at h
 ·rename_i d' dj hd hj;rw [hd]
  split at h
  ·split at h
   ·split at h
    ·exact key _ h
    ·exact key _ h
    ·simp only [mF,Prod.mk.injEq]at h;rw [h.1]
    simp only [mF,Prod.mk.injEq]at h;rw [h.1]
   ·split at h
    ·simp only [mF,Prod.mk.injEq]at h;rw [h.1]
    cases h
   cases h
  cases h
 cases h
theorem Dk{i:Nat}{v:ab}(h:qQ ops N e1 o=some (d,v))(hv:y.holds v w1):ak P N ops (eA i e1 w1 d y) [o] e1 w1:= .qQ h (eA.dn (Below.refl _ _) hv)
def Qx:Yd->Bool
 | .ex _=>true
 | .pr _=>false
theorem eo{l:List Yd}(h:l.all Qx=true):∀y∈l,y.oc:=fun y hy=>by
 have:=List.all_eq_true.1 h y hy;cases y with
 | ex v=>exact True.intro
 | pr p=>cases this
def yE(P:Program)(N:Nat)(l:List Oper)(ys:List Yd)(e:Env)(w:aa):Nat->List Oper->Prop
 | _,[]=>True
 | i,o::r=> (∀e1 w1,Below w.heap.size w w1->(∀j,j<l.length->fJ ((eD o).map (·.on)) j=true->∀(y:Yd) (o':Oper),ys[j]?=some y->l[j]?=some o'->y.holds (e1 (en o')) w1)->(∀(j:Nat) (o':Oper),l[j]?=some o'->gX l l.length j i=true->e1 (en o')=e (en o'))-> 
  ak P N l.toArray (eA i (ext (mix e1 e (l.map en)) (qq l ys (eD o))) w1 (en o) (ys.getD i (.pr fun _ _=>True))) [o] (ext (mix e1 e (l.map en)) (qq l ys (eD o))) w1)/\yE P N l ys e w (i+1) r
theorem Dr{ys:List Yd}{i:Nat}{v:ab}(h:(ys.getD i (.pr fun _ _=>True),fun e1=>qQ l.toArray N (ext (mix e1 e (l.map en)) (qq l ys (eD o))) o)=(.ex v,fun _=>some (d,v))):∀e1 w1,Below w.heap.size w w1->(∀j,j<l.length->fJ ((eD o).map (·.on)) j=true->∀(y:Yd) (o':Oper),ys[j]?=some y->l[j]?=some o'->y.holds (e1 (en o')) w1)->(∀(j:Nat) (o':Oper),l[j]?=some o'->gX l l.length j i=true->e1 (en o')=e (en o'))->ak P N l.toArray (eA i (ext (mix e1 e (l.map en)) (qq l ys (eD o))) w1 (en o) (ys.getD i (.pr fun _ _=>True))) [o] (ext (mix e1 e (l.map en)) (qq l ys (eD o))) w1:=fun e1 w1 _ _ _=>by
 have h1:=congrFun (Prod.mk.inj h).2 e1;have hd:en o=d:=by unfold en;rw [OQ h1]
 rw [hd,(Prod.mk.inj h).1];exact Dk h1 rfl
theorem yE.get{ys:List Yd}:∀ {r:List Oper} {i:Nat},yE P N l ys e w i r->∀k o,r[k]?=some o->∀e1 w1,Below w.heap.size w w1->(∀j,j<l.length->fJ ((eD o).map (·.on)) j=true->∀(y:Yd) (o':Oper),ys[j]?=some y->l[j]?=some o'->y.holds (e1 (en o')) w1)->(∀(j:Nat) (o':Oper),l[j]?=some o'->gX l l.length j (i+k)=true->e1 (en o')=e (en o'))-> 
 ak P N l.toArray (eA (i+k) (ext (mix e1 e (l.map en)) (qq l ys (eD o))) w1 (en o) (ys.getD (i+k) (.pr fun _ _=>True))) [o] (ext (mix e1 e (l.map en)) (qq l ys (eD o))) w1
 | [],_,_,k,o,hk=>by simp at hk
 | x::r,i,h,0,o,hk=>by simp at hk;subst hk;exact h.1
 | x::r,i,h,k+1,o,hk=>by
  have:=yE.get h.2 k o (by simpa using hk);simpa [Nat.add_assoc,Nat.add_comm 1 k]using this
theorem Ev{a:Act}{K K2:Act->aa->Prop}{Q Q2:Exit->Act->aa->Prop}(h:o.wp P a w K Q)(hK:∀a w,K a w->K2 a w)(hQ:∀x a w,x≠ .normal->¬Q x a w):o.wp P a w K2 Q2:=by
 unfold Oper.wp at*;generalize (execOp a.eval o).run P w=r at*;cases r with
 | ok n w'=>
  cases n<;>simp only [Oper.upon]at h|-<;>first
   | exact hK _ _ h
   | (
    refine Calls.mono h fun x iq hx=>?_
    cases x with
    | returned v=>exact hK _ _ hx
    | panicked ch=>exact absurd hx (hQ _ _ _ (by simp))
    | outgrown=>obtain⟨a0,w0,hx⟩:=hx;exact absurd hx (hQ _ _ _ (by simp)))
   | exact Rows.mono h fun v iq hx=>hK _ _ hx
 | halt x w'=>
  cases x<;>simp only [Oper.upon]at h|-
  exact absurd h (hQ _ _ _ (by simp))
theorem DM{e:Env}{ds:List Nat}(h:∀j,fJ ds j=false->e1 j=e j):mix e1 e ds=e1:=by
 funext j;unfold mix;cases hm:fJ ds j with
 | true=>rfl
 | false=>exact(h j hm).symm
theorem JW{l:List Oper}{ys:List Yd}{e1:Env}{w1:aa}:∀(af:List Edge),(∀ed∈af,ed.on<l.length)->(∀j,fJ (af.map (·.on)) j=true->∀(y:Yd) (o':Oper),ys[j]?=some y->l[j]?=some o'->y.holds (e1 (en o')) w1)->Mt e1 (qq l ys af)
 | [],_,_=>au
 | ed::r,cI,h=>by
  have hr:=JW r (fun x hx=>cI x (uZ _ hx)) (fun j hj=>h j (by rw [uL]at hj|-;exact uZ _ hj));unfold qq
  split
  ·rename_i v hy;have hl:=cI ed (by simp);refine⟨?_,hr⟩;rw [dL hl];exact h ed.on (by rw [uL];simp) _ _ hy (dL hl)
  ·exact hr
theorem J0{e1 e:Env}{w1:aa}:∀(l:List Oper) (ys:List Yd) (i:Nat),l.length=ys.length->(l.map en).Nodup->(∀(k:Nat) (y:Yd) (o:Oper),ys[k]?=some y->l[k]?=some o->y.holds (e1 (en o)) w1)->
 ∃u:Nat->ab,ext e (ru l ys u i)=mix e1 e (l.map en)/\(∀(k:Nat) (o:Oper),l[k]?=some o->u (i+k)=e1 (en o))
 | [],[],i,_,_,_=> ⟨fun _=>undef,by funext j;rfl,fun k o h=>by simp at h⟩
 | [],y::ys,i,hl,_,_=>by simp at hl
 | o::l,[],i,hl,_,_=>by simp at hl
 | o::l,y::ys,i,hl,hn,h=>by
  simp only [List.map_cons,mV]at hn;obtain⟨u,hu,mR⟩:=J0 (e1:=e1) (e:=e) (w1:=w1) l ys (i+1) (by simpa using hl) hn.2 (fun k y o hy ho=>h (k+1) y o (by simpa using hy) (by simpa using ho));have h0:=h 0 y o O O;have EZ:∀(l:List Oper) (ys:List Yd) (i:Nat) (u u':Nat->ab),(∀k,i<=k->u k=u' k)->ru l ys u i=ru l ys u' i:=by
   intro l
   induction l with
   | nil=>intros;rfl
   | cons o l ih=>
    intro ys i u u' hk;cases ys with
    | nil=>rfl
    | cons y ys=>
     cases y with
     | ex v=>simp only [ru];rw [ih ys (i+1) u u' (fun k dp=>hk k (by omega))]
     | pr p=>simp only [ru];rw [ih ys (i+1) u u' (fun k dp=>hk k (by omega)),hk i (by omega)]
  refine⟨fun k=>if k=i then e1 (en o)else u k,?_,fun k o' hk=>?_⟩
  ·have hc:=EZ l ys (i+1) (fun k=>if k=i then e1 (en o)else u k) u (fun k hk=>by rw [aC (by omega)]);have ig:∀v,v=e1 (en o)->bt (mix e1 e (l.map en)) (en o) v=mix e1 e ((o::l).map en):=by
    intro v hv;funext j;simp only [bt,mix,List.map_cons,fJ];cases hb:Nat.beq j (en o)with
    | true=>rw [lH hb,hv];rfl
    | false=>rfl
   cases y with
   | ex v=>
    simp only [ru,ext,hc,hu];exact ig v h0.symm
   | pr p=>
    simp only [ru,ext,hc,hu,aJ];exact ig _ O
  ·cases k with
   | zero=>simp at hk;subst hk;simp
   | succ k=>
    have:=mR k o' (by simpa using hk);show(if i+ (k+1)=i then _ else u (i+ (k+1)))=_;rw [aC (by omega),<-this];congr 1;omega
theorem xj(p p':Nat->Bool)(i:Nat)(hi:p i=false)(hp:∀k,p' k=if k=i then true else p k):∀(l:List Nat),l.Nodup->i∈l->l.countP p'=l.countP p+1
 | [],_,h=>by cases h
 | x::l,hn,h=>by
  have GR:∀(l:List Nat),¬i∈l->l.countP p'=l.countP p:=by
   intro l hl;exact List.countP_congr fun k hk=>by rw [hp k,aC (by rintro rfl;exact hl hk)]
  simp only [mV]at hn;simp only [List.countP_cons]
  by_cases hx:x=i
  ·subst hx;rw [GR l hn.1,hp x,aJ rfl,hi];simp
  ·have s5:i∈l:=by
    rcases ja.1 h with h | h
    ·exact absurd h.symm hx
    ·exact h
   rw [xj p p' i hi hp l hn.2 s5,hp x,aC hx];omega
theorem ac1{Q:gV}(ys:List Yd)(hm:P.follows .mixedOrders=true)(bq:JX N l=true)(hlen:Nat.beq l.length ys.length=true)(xT:∀y∈ys,y.oc)
 (Hb:yE P N l ys e w 0 l) (sV:∀u w1,Below w.heap.size w w1->(∀(k:Nat) (p:ab->aa->Prop),ys[k]?=some (Yd.pr p)->p (u k) w1)->Q .normal (ext e (ru l ys u 0)) w1):Cd P N (.region id l.toArray true) Q e w:= .mk' fun a ha=>by
 have s8:l.length=ys.length:=lH hlen;simp only [JX,Bool.and_eq_true,List.all_eq_true,qp]at bq;obtain⟨⟨h1,h2⟩,h3⟩:=bq;have UO:∀(i:Nat) (o:Oper),l[i]?=some o->∃d,o.dst=some d/\en o=d/\d<N:=by
  intro i o ho;have:=h1 o (List.mem_of_getElem? ho);cases hd:o.dst with
  | none=>rw [hd]at this;cases this
  | some d=>rw [hd]at this;exact⟨d,rfl,by simp [en,hd],by simpa [Nat.blt_eq]using this⟩
 have Uq:∀(i:Nat) (o:Oper),l[i]?=some o->∀ed∈eD o,ed.on<i/\Region.binds .any ed=true:=by
  intro i o ho ed eQ;have:=h3 (o,i) (by
   obtain⟨hi,s6⟩:=ga.1 ho;rw [List.mem_iff_getElem?];exact⟨i,by simp [ho]⟩)
  exact⟨by simpa [Nat.blt_eq]using this ed eQ,(nv.1 eQ).2⟩
 have mL:∀(i:Nat) (o:Oper),l[i]?=some o->∀ed∈eD o,ed.on<i:=fun i o ho ed eQ=> (Uq i o ho ed eQ).1
 refine wp_region_any hm ?_;have key:∀(fuel:Nat) (listed:Array Bool) (a1:Act) (e1:Env) (w1:aa),gW N a1 e1->Below w.heap.size w w1->(∀j,fJ (l.map en) j=false->e1 j=e j)->listed.size=l.length->
  (∀(i:Nat) (y:Yd) (o:Oper),listed.getD i false=true->ys[i]?=some y->l[i]?=some o->y.holds (e1 (en o)) w1)->(∀(i:Nat) (o:Oper),listed.getD i false=true->l[i]?=some o->∀ed∈eD o,listed.getD ed.on false=true)->(∀(i:Nat) (o:Oper),listed.getD i false=false->l[i]?=some o->e1 (en o)=e (en o))->(l.length - fuel<=(List.range l.length).countP fun i=>listed.getD i false)->
  wpAny P .any l.toArray (low N Q) fuel listed a1 w1:=by
  have jo:∀(listed:Array Bool) (a1:Act) (e1:Env) (w1:aa),gW N a1 e1->Below w.heap.size w w1->(∀j,fJ (l.map en) j=false->e1 j=e j)->
   (∀(i:Nat) (y:Yd) (o:Oper),listed.getD i false=true->ys[i]?=some y->l[i]?=some o->y.holds (e1 (en o)) w1)->(∀i,i<l.length->listed.getD i false=true)->low N Q .normal a1 w1:=by
   intro listed a1 e1 w1 hr hb lT hS ct;obtain⟨u,hu,mR⟩:=J0 (e1:=e1) (e:=e) (w1:=w1) l ys 0 s8 h2 (fun k y o hy ho=>hS k y o (ct k (ga.1 ho).1) hy ho);refine⟨e1,hr,?_⟩;have:=sV u w1 hb (fun k p hk=>by
    have gM:k<l.length:=by rw [s8];exact(ga.1 hk).1
    have h5:=hS k _ l[k] (ct k gM) hk (dL gM);have h6:=mR k l[k] (dL gM);rw [Nat.zero_add]at h6;rw [h6];exact h5)
   rw [hu,DM lT]at this;exact this
  have Aq:∀(listed:Array Bool),listed.size=l.length->Region.ready .any l.toArray listed=[]->∀i,i<l.length->listed.getD i false=true:=by
   intro listed lX qB i
   induction i using Nat.strongRecOn with
   | _ i ih=>
    intro hi;cases uv:listed.getD i false with
    | true=>rfl
    | false=>
     exfalso;have:i∈Region.ready .any l.toArray listed:=by
      rw [mem_ready];refine⟨?_,l[i],by simp [hi],fun ed eQ gx=>ih ed.on (mL i _ (dL hi) ed (nv.2 ⟨eQ,gx⟩)) (by have:=mL i _ (dL hi) ed (nv.2 ⟨eQ,gx⟩);omega)⟩;rw [gA,nH (by omega)]at uv|-;exact uv
     rw [qB]at this;cases this
  intro fuel
  induction fuel with
  | zero=>
   intro listed a1 e1 w1 hr hb lT lX hS cz vV lk;have ct:∀i,i<l.length->listed.getD i false=true:=by
    have h4:(List.range l.length).countP (fun i=>listed.getD i false)=(List.range l.length).length:=by
     have:=List.countP_le_length (p:=fun i=>listed.getD i false) (l:=List.range l.length);simp at this lk|-;omega
    rw [List.countP_eq_length]at h4;intro i hi;exact h4 i (by simpa using hi)
   refine⟨?_,jo listed a1 e1 w1 hr hb lT hS ct⟩;rw [List.eq_nil_iff_forall_not_mem];intro i hi;obtain⟨h5,o,ho,_⟩:=mem_ready.1 hi;have jW:i<l.length:=by
    rcases Nat.lt_or_ge i l.length with h | h
    ·exact h
    ·simp [mD h]at ho
   have h6:=ct i jW;rw [gA,nH (by omega)]at h5 h6;simp at h5 h6;rw [h5]at h6;cases h6
  | succ fuel ih=>
   intro listed a1 e1 w1 hr hb lT lX hS cz vV lk;refine⟨fun qB=>jo listed a1 e1 w1 hr hb lT hS (Aq listed lX qB),fun i hi=>?_⟩;obtain⟨aX,o,ho,sT⟩:=mem_ready.1 hi;have jX:l[i]?=some o:=by simpa using ho
   have jW:i<l.length:=(ga.1 jX).1;obtain⟨d,hd,hdo,UK⟩:=UO i o jX;have LK:∀j,fJ ((eD o).map (·.on)) j=true->∀(y:Yd) (o':Oper),ys[j]?=some y->l[j]?=some o'->y.holds (e1 (en o')) w1:=by
    intro j hj y o' hy rQ;rw [uL,fx]at hj;obtain⟨ed,eQ,rfl⟩:=hj;exact hS _ y o' (sT ed (nv.1 eQ).1 (nv.1 eQ).2) hy rQ
   have kf:∀ed∈eD o,listed.getD ed.on false=true:=fun ed eQ=>sT ed (nv.1 eQ).1 (nv.1 eQ).2
   have qa:listed.getD i false=false:=by
    have h5:=aX;rw [gA,nH (by omega)]at h5|-;exact h5
   have mM:∀k,(listed.setIfInBounds i true).getD k false=if k=i then true else listed.getD k false:=by
    intro k;rw [gA,pb]
    by_cases eE:k=i
    ·subst eE;rw [aJ rfl,aJ (by omega),aJ rfl];rfl
    ·rw [aC (fun e=>eE e.symm),aC eE,<-gA]
   have aA:=Hb.get i o jX e1 w1 hb (fun j _ hj=>LK j hj) (fun j o' hj vF=>by
    refine vV j o' ?_ hj;cases rK:listed.getD j false with
    | false=>rfl
    | true=>
     have:=tJ cz _ _ _ vF rK;rw [Nat.zero_add,qa]at this;cases this)
   rw [DM lT,vd (JW (eD o) (fun ed eQ=>by have:=mL i o jX ed eQ;omega) LK),Nat.zero_add]at aA;have lz:=aA.run a1 hr;have rP:∀a2 w2,(∃e2,gW N a2 e2/\eA i e1 w1 (en o) (ys.getD i (.pr fun _ _=>True)) e2 w2)->wpAny P .any l.toArray (low N Q) fuel (listed.setIfInBounds i true) a2 w2:=by
    intro a2 w2 ⟨e2,rT,gj,rY,xC⟩;have iA:Below w.heap.size w w2:=hb.trans (gj.mono hb.size);refine ih _ a2 e2 w2 rT iA (fun j hj=>?_) (by simpa using lX) (fun k y o' hk hy bq=>?_) (fun k o' hk bq ed eQ=>?_) (fun k o' hk bq=>?_) ?_
    ·have b9:j≠en o:=by
      rintro rfl;have:fJ (l.map en) (en o)=true:=by rw [uL];exact fx.2 ⟨o,List.mem_of_getElem? jX,O⟩
      rw [this]at hj;cases hj
     rw [xC j b9];exact lT j hj
    ·by_cases eE:k=i
     ·subst eE;rw [jX]at bq;cases bq;have:ys.getD k (.pr fun _ _=>True)=y:=by simp [df,hy]
      rw [this]at rY;exact rY
     ·have dp:listed.getD k false=true:=by
       rw [gA,pb,aC (by omega),<-gA]at hk;exact hk
      have h7:=hS k y o' dp hy bq;have b9:en o'≠en o:=by
       intro heq;have gM:=(ga.1 bq).1;have h9:k=i:=(List.getElem_inj (xs:=l.map en) (h₀:=by simpa using gM) (h₁:=by simpa using jW) h2).1 (by
        have e1:=(ga.1 bq).2;have e2:=(ga.1 jX).2;simp [e1,e2,heq])
       exact eE h9
      rw [xC _ b9];exact Qw (xT y (List.mem_of_getElem? hy)) h7 gj
    ·rw [mM]
     by_cases um:ed.on=i
     ·rw [aJ um]
     ·rw [aC um]
      by_cases eE:k=i
      ·subst eE;rw [jX]at bq;cases bq;exact kf ed eQ
      ·rw [mM,aC eE]at hk;exact cz k o' hk bq ed eQ
    ·rw [mM]at hk
     by_cases eE:k=i
     ·rw [aJ eE]at hk;cases hk
     ·rw [aC eE]at hk;rw [xC _ (fun heq=>by
       have gM:=(ga.1 bq).1;have h9:k=i:=(List.getElem_inj (xs:=l.map en) (h₀:=by simpa using gM) (h₁:=by simpa using jW) h2).1 (by
        have e1:=(ga.1 bq).2;have e2:=(ga.1 jX).2;simp [e1,e2,heq])
       exact eE h9)]
      exact vV k o' hk bq
    ·have zJ:(List.range l.length).countP (fun k=> (listed.setIfInBounds i true).getD k false)=(List.range l.length).countP (fun k=>listed.getD k false)+1:=by
      refine xj (fun k=>listed.getD k false) (fun k=> (listed.setIfInBounds i true).getD k false) i ?_ (fun k=>?_) _ List.nodup_range (by simpa using jW)
      ·have h5:=aX;show listed.getD i false=false;rw [gA,nH (by omega)]at h5|-;exact h5
      ·show(listed.setIfInBounds i true).getD k false=if k=i then true else listed.getD k false
       rw [gA,pb]
       by_cases eE:k=i
       ·subst eE;rw [aJ rfl,aJ (by omega),aJ rfl];rfl
       ·rw [aC (fun e=>eE e.symm),aC eE,<-gA]
     rw [zJ];omega
   unfold wpOp;rw [ho];unfold wpList at lz;show if _ then _ else _
   by_cases hw:Region.wanted o (yielded l.toArray a1.tmps)=true
   ·rw [aJ hw]at lz|-;rcases lz with h5 | ⟨_,a0,w0,h5⟩
    ·refine .inl (Ev h5 (fun a2 w2 hx=>?_) (fun x a w hx hq=>hx hq.1));exact rP a2 w2 hx.2
    ·exact absurd h5.1 (by simp)
   ·rw [aC hw]at lz|-;exact rP _ _ lz.2
 refine key l.length (Array.replicate l.length false) a e _ ha ⟨⟨O,O,O,dE _,fun _ _=>O⟩,fun _=>Nat.le_add_right _ _⟩ (fun _ _=>O) (by simp) (fun i y o hi=>?_) (fun i o hi=>?_) (fun _ _ _ _=>O) (by omega)
 ·exfalso;rw [gA,Array.getElem?_replicate]at hi
  split at hi<;>simp at hi
 ·exfalso;rw [gA,Array.getElem?_replicate]at hi
  split at hi<;>simp at hi
theorem dK{Q:gV}(ys:List Yd)(hlen:Nat.beq l.length ys.length=true)(xT:∀y∈ys,y.oc)(Hb:yE P N l ys e w 0 l)(sV:∀u w1,Below w.heap.size w w1->(∀(k:Nat) (p:ab->aa->Prop),ys[k]?=some (Yd.pr p)->p (u k) w1)->Q .normal (ext e (ru l ys u 0)) w1)(hm:P.follows .mixedOrders=true:=by kernel_rfl)(bq:JX N l=true:=by kernel_rfl):Cd P N (.region id l.toArray true) Q e w:=ac1 ys hm bq hlen xT Hb sV
theorem pc{α:Type}{x y:Code}{Q:gV}(F:α->List (Nat×ab))(I:α->aa->Prop)(hx:Cd P N x (wE (fun e' w'=>∃s,Mt e' (F s)/\I s w') Q) e w)
 (hy:∀s e' w',I s w'->Cd P N y Q (ext e' (F s)) w'):Cd P N (.seq x y) Q e w:=
 .seq (hx.mono fun ex e' w' q=>by
  cases ex<;>first
   | exact q
   | (
    obtain⟨s,hm,hi⟩:=q;have:=hy s e' w' hi;rw [vd hm]at this;exact this))
end
section
variable{t:ad}{z z0:ab}{b c0 c':Nat}
variable {P:Program} {N:Nat} {ops:Array Oper} {K:Env->aa->Prop} {rest:List Oper} {e:Env} {w0 w w':aa} {ks:List Ck} {d:Nat} {ty:ad} {pos:String} {af:Array Edge}
theorem fk{el:ad}[bK P t (.slice el)][bF P el z 1 b]{x0:ae}{i:Int}(hS:St w0 w ks)(h0:ev e x0=aj i)(hz:z.cells= #[z])(hb:Nat.blt d N=true)(hK:∀A w',St w0 w' (ax el A 1 1 [i]::ks)->ak P N ops K rest (bt e d (.slice A 1 1)) w'):ak P N ops K (⟨some d,.buildSlice t 1 #[(0,x0)],ty,pos,af,none⟩::rest) e w:=
 .ES hS h0 rfl hz hb hK
theorem mW{el:ad}[bK P t (.slice el)][bF P el z 1 b]{x0:ae}{A0:ai}{n0:Nat}(hS:St w0 w ks)(h0:ev e x0= .slice A0 n0 c0)(hz:z.cells= #[z])(hb:Nat.blt d N=true)(hK:∀A w',St w0 w' (aV el A 1 1 [⟨A0,n0,c0⟩]::ks)->ak P N ops K rest (bt e d (.slice A 1 1)) w'):ak P N ops K (⟨some d,.buildSlice t 1 #[(0,x0)],ty,pos,af,none⟩::rest) e w:=
 .ES hS h0 rfl hz hb hK
theorem YD{ys:ah}{m:Nat}(h:ys.length=m):(List.range m).map (fun j=>Value.int .i64 (ys.getD j 0))=ys.map (aj):=by
 subst h;apply gD
 ·simp
 intro i h1 h2;simp [df,dL (show i<ys.length by simpa using h1)]
theorem NN{ys:List aO}{m:Nat}(h:ys.length=m):(List.range m).map (fun j=> (ys.getD j cJ).v)=ys.map aO.v:=by
 subst h;apply gD
 ·simp
 intro i h1 h2;simp [df,dL (show i<ys.length by simpa using h1)]
theorem ac2{el:ad}[hU:bK P t (.slice el)][bF P el z 1 b]{x y:ae}(i:Nat){A:ai}{n c:Nat}{xs:ah}{A':ai}{m:Nat}{ys:ah}(hS:St w0 w ks)(hk:ks[i]?=some (ax el A n c xs))(hR:cd w A' m ys)(hx:ev e x= .slice A n c)(hy:ev e y= .slice A' m c')(hz:z.cells= #[z])(pC:n+m<=9223372036854775807)(pL:(n+m)*b<=140737488355328)(hb:Nat.blt d N=true)(hK:∀A2 c2 w',St w0 w' (ks.set i (ax el A2 (n+m) c2 (xs++ys)))->ak P N ops K rest (bt e d (.slice A2 (n+m) c2)) w'):
 ak P N ops K (⟨some d,.call ⟨.builtin .append, #[x,y], #[t,t]⟩,ty,pos,af,none⟩::rest) e w:=
 .app i hS hk hR.2 hx hy rfl hz (fun _ _=>rfl) (by simpa [maxLen]using pC) pL hb fun A2 c2 w' h=>hK A2 c2 w' (by
  rw [YD hR.1]at h;simpa [ax]using h)
theorem fR{el:ad}[hU:bK P t (.slice el)][bF P el z 1 b]{x y:ae}(i:Nat){A:ai}{n c:Nat}{xs:ah}{A':ai}{m:Nat}{ys:ah}(hS:St w0 w ks)(hk:ks[i]?=some (ax el A n c xs))(hR:cd w A' m ys)(hx:ev e x= .slice A n c)(hy:ev e y= .slice A' m c')(q9:(z.cells,Nat.blt d N)=(#[z],true))(hK:∀A2 c2 w',St w0 w' (ks.set i (ax el A2 (n+m) c2 (xs++ys)))->ak P N ops K rest (bt e d (.slice A2 (n+m) c2)) w')(pC:n+m<=9223372036854775807:=by omega)(pL:(n+m)*b<=140737488355328:=by omega):ak P N ops K (⟨some d,.call ⟨.builtin .append, #[x,y], #[t,t]⟩,ty,pos,af,none⟩::rest) e w:=ac2 i hS hk hR hx hy (congrArg (fun p=>p.1) q9) pC pL (congrArg (fun p=>p.2) q9) hK
theorem km{el:ad}[hU:bK P t (.slice el)][bF P el z 1 b]{x y:ae}(i:Nat){A:ai}{n c:Nat}{xs:List aO}{A':ai}{m:Nat}{ys:List aO}(hS:St w0 w ks)(hk:ks[i]?=some (aV el A n c xs))(hR:gp w A' m ys)(hx:ev e x= .slice A n c)(hy:ev e y= .slice A' m c')(hz:z.cells= #[z0])(pC:n+m<=9223372036854775807)(pL:(n+m)*b<=140737488355328)(hb:Nat.blt d N=true)(hK:∀A2 c2 w',St w0 w' (ks.set i (aV el A2 (n+m) c2 (xs++ys)))->ak P N ops K rest (bt e d (.slice A2 (n+m) c2)) w'):
 ak P N ops K (⟨some d,.call ⟨.builtin .append, #[x,y], #[t,t]⟩,ty,pos,af,none⟩::rest) e w:=
 .app i hS hk hR.2 hx hy rfl hz (fun _ _=>rfl) (by simpa [maxLen]using pC) pL hb fun A2 c2 w' h=>hK A2 c2 w' (by
  rw [NN hR.1]at h;simpa [aV]using h)
end
section
variable {P:Program} {N:Nat} {e:Env} {w:aa}
end
section
variable{t t':ad}
variable {P:Program} {N:Nat} {ops:Array Oper} {K:Env->aa->Prop} {rest:List Oper} {e:Env} {w0 w w':aa} {ks:List Ck} {d:Nat} {ty:ad} {pos:String} {af:Array Edge}
theorem IG{Q:gV}{c:ae}{x y:Code}{p:Prop}[Decidable p](hc:ev e c= .bool (decide p))(hp:p)(h1:Cd P N x Q e w):Cd P N (.cond c x y) Q e w:= .fW (by rw [hc,fo hp]) h1
theorem jw{Q:gV}{c:ae}{x y:Code}{p:Prop}[Decidable p](hc:ev e c= .bool (decide p))(hp:¬p)(h1:Cd P N y Q e w):Cd P N (.cond c x y) Q e w:= .dO (by rw [hc,dq hp]) h1
theorem RP(A:ai)(c:Nat):cutAt A c 0=A:=by
 unfold cutAt
 split
 ·rfl
 cases A<;>simp [aF,Addr.add]
theorem WX{vs fs:List ab}{l q:Nat}(hM:dX vs=false)(h1:∀u∈fs,u.oneCell'=true)(hq:l=0->fs≠[]:=by first | assumption | (intro _ hn;have:=bw List.length hn;simp at this;omega)):dX (vs.take l++fs++vs.drop q)=false:=by
 by_cases hl:l=0
 ·subst hl;rw [List.take_zero,List.nil_append];exact Hr (tm h1) (hq O)
 ·cases vs with
  | nil=>simp only [List.take_nil,List.drop_nil,List.nil_append,iG];exact tm h1
  | cons v r=>
   obtain⟨m,rfl⟩:∃m,l=m+1:=⟨l - 1,by omega⟩;cases v<;>simp_all [dX]
theorem ZQ{el:ad}{z:ab}{b:Nat}[hU:bK P t (.slice el)][bF P el z 1 b]{k:Ck}(i l:Nat)(hS:St w0 w ks)(hk:ks[i]?=some k)(hM:dX k.vs=false)(hl:l<=k.n){A':ai}{m dc c':Nat}{f:Nat->ab}(hR:Rd w A' m f)(h1:∀j,j<m->(f j).oneCell'=true)(ty:ad)(q:Nat)(hq:q=min m (k.n - l)):
 ∃w',(Builtin.copy_ #[t,t'] ty #[.slice (cutAt k.A k.c l) (k.n - l) dc,.slice A' m c']).run P w= .ok (aj q) w'/\St w0 w' (ks.set i { k with vs:=k.vs.take l++ (List.range q).map f++k.vs.drop (l+q) }):=by
 obtain⟨inf,hi,eM,hs,ib⟩:=bF.get P el;have ta:=hS.nO hk hM;obtain⟨AB,ku,nV,h4⟩:=ta;have zN:=(ga.1 hk).1;have ky:(P.info? el).map (·.size)=some 1:=by simp [hi,hs]
 by_cases x9:q=0
 ·have hr:=run_copy_none (P:=P) w t t' ty el (cutAt k.A k.c l) A' (k.n - l) dc m c' hU.out ky (by show min m (k.n - l)=0;omega);refine⟨w,by rw [hr,x9];rfl,?_⟩;have h5:({ k with vs:=k.vs.take l++ (List.range q).map f++k.vs.drop (l+q) }:Ck)=k:=by subst x9;simp [List.take_append_drop]
  have:ks.set i { k with vs:=k.vs.take l++ (List.range q).map f++k.vs.drop (l+q) }=ks:=by
   rw [h5];apply List.ext_getElem?;intro j;rw [kX]
   split
   ·rename_i e;subst e;rw [hk]
    try simp [zN]
   rfl
  rw [this];exact hS
 obtain⟨a,rfl⟩:∃a,A'=some a:=by
  obtain⟨p,hp,_⟩:=hR 0 (by omega);cases A' with | none=>simp [aF]at hp | some q=>exact⟨q,rfl⟩
 rcases h4 with⟨hA,h0⟩ | ⟨g,o,cur,hA,hg,hh,lX,hc⟩
 ·omega
 have hD:cutAt k.A k.c l=some ⟨g,o+l,none⟩:=by
  unfold cutAt;rw [aC (by omega),hA];simp [aF,yZ]
 have jr:((List.range q).map f).length=q:=by simp
 have zV:∀j v,((List.range q).map f)[j]?=some v->w.cell? (a.add j)=some v:=by
  intro j v hj;have rI:j<q:=by have:=(ga.1 hj).1;simpa using this
  obtain⟨p,hp,hc⟩:=hR j (by omega);simp only [aF,Option.map_some,mF]at hp;rw [hp,hc,<-hj];simp [rI]
 have vk:∀u∈(List.range q).map f,u.oneCell'=true:=by
  intro u hu;obtain⟨j,hj,rfl⟩:=fx.1 hu;have Gy:j<q:=by simpa using hj
  exact h1 j (by omega)
 have hr:=run_copy_row (P:=P) w t t' ty el g (o+l) (k.n - l) dc a m c' cur k.e ((List.range q).map f) hU.out ky hh (by rw [jr,hq]) zV (by rw [jr];omega) vk;rw [jr]at hr;rw [hD];refine⟨w.setRow g (cur.toList.take (o+l)++ (List.range q).map f++cur.toList.drop (o+l+q)).toArray,hr,hS.turn (k:=k) (k':= { k with vs:=k.vs.take l++ (List.range q).map f++k.vs.drop (l+q) }) (g:=g) hk (by simp [Ck.gY,hA]) (by simp [Ck.gY,hA]) ⟨⟨O,O,O,by simp,fun x _ hx=>setRow_other w g x _ (fun e=>hx (by rw [e]))⟩,dE _⟩ ?_⟩;refine .o5 (WX hM vk) ⟨by simp [AB];omega,ku,nV,.inr ⟨g,o,_,hA,hg,setRow_heap w g cur _ k.e _ hh,?_,fun j hj=>?_⟩⟩
 ·simp;omega
 have fI:j<k.n:=hj;have cz:cur.toList.length=cur.size:=by simp
 show((cur.toList.take (o+l)++ (List.range q).map f++cur.toList.drop (o+l+q)).toArray)[o+j]?=(k.vs.take l++ (List.range q).map f++k.vs.drop (l+q))[j]?;rw [List.getElem?_toArray,fC,fC]
 by_cases mo:j<l
 ·rw [ow (by simp;omega),qh,aJ (by omega),ow (by simp;omega),qh,aJ mo,Array.getElem?_toList];exact hc j fI
 have e1:o+j - (cur.toList.take (o+l)).length=j - l:=by simp;omega
 have e2:j - (k.vs.take l).length=j - l:=by simp;omega
 have e3:(cur.toList.take (o+l)++ ((List.range q).map f++cur.toList.drop (o+l+q)))[o+j]?=((List.range q).map f++cur.toList.drop (o+l+q))[j - l]?:=by
  rw [mU (by simp;omega),e1]
 have e4:(k.vs.take l++ ((List.range q).map f++k.vs.drop (l+q)))[j]?=((List.range q).map f++k.vs.drop (l+q))[j - l]?:=by
  rw [mU (by simp;omega),e2]
 rw [e3,e4]
 by_cases Gy:j - l<q
 ·rw [ow (by simpa using Gy),ow (by simpa using Gy)]
 rw [mU (by rw [jr];omega),mU (by rw [jr];omega),jr,List.getElem?_drop,List.getElem?_drop,Array.getElem?_toList,show o+l+q+ (j - l - q)=o+j by omega,show l+q+ (j - l - q)=j by omega];exact hc j fI
theorem I4{el:ad}{z:ab}{b:Nat}[hU:bK P t (.slice el)][bF P el z 1 b]{x y:ae}{k:Ck}(i l:Nat){A':ai}{m dc c':Nat}{f:Nat->ab}(q:Nat)(hS:St w0 w ks)(hk:ks[i]?=some k)(hR:Rd w A' m f)(hl:l<=k.n)(hx:ev e x= .slice (cutAt k.A k.c l) (k.n - l) dc)(hy:ev e y= .slice A' m c')(h1:∀j,j<m->(f j).oneCell'=true)(hq:q=min m (k.n - l))(hb:Nat.blt d N=true)(hK:∀w',St w0 w' (ks.set i { k with vs:=k.vs.take l++ (List.range q).map f++k.vs.drop (l+q) })->ak P N ops K rest (bt e d (aj q)) w')(hM:dX k.vs=false:=by first | rfl | exact oX _ | exact AM _ | exact qJ _):
 ak P N ops K (⟨some d,.call ⟨.builtin .copy, #[x,y], #[t,t']⟩,ty,pos,af,none⟩::rest) e w:=by
 obtain⟨w',hr,lR⟩:=ZQ (P:=P) (t:=t) (t':=t') (dc:=dc) (c':=c') i l hS hk hM hl hR h1 ty q hq;refine .val (w':=w') ?_ hb (hK _ lR);simp [execOp,resolve,invoke,builtin,hx,hy,hr]
theorem I9{x y:ae}{i j:Int}(hx:ev e x=aj i)(hy:ev e y=aj j)(hb:Nat.blt d N=true)(hK:ak P N ops K rest (bt e d (aj (min i j))) w):
 ak P N ops K (⟨some d,.call ⟨.builtin .min, #[x,y], #[t,t']⟩,ty,pos,af,none⟩::rest) e w:=by
 have hm:(if j<i then j else i)=min i j:=by split<;>omega
 refine .val (w':=w) ?_ hb hK;simp [execOp,resolve,invoke,builtin,hx,hy,Builtin.min_,Builtin.min2,hm]
section
variable {x y:ae} {xt yt:ad} {i j:Int}
theorem yy(i:Int)(h:0<=i/\i<=18446744073709551615):IntKind.u64.wrap i=i:=by rw [IntKind.wrap_u64];omega
theorem BN(r:Int)(hx:ev e x= .int .u64 i)(hy:ev e y= .int .u64 j)(hb:Nat.blt d N=true)(he:i+j=r)(hr:0<=r/\r<=18446744073709551615)(hK:ak P N ops K rest (bt e d (.int .u64 r)) w):
 ak P N ops K (⟨some d,.binOp .add xt x y yt,ty,pos,af,none⟩::rest) e w:=
 .val (by simp [execOp,hx,hy,eqGuard,binOp,Op.intArith,he,yy _ hr]) hb hK
theorem yM(r:Int)(hx:ev e x= .int .u64 i)(hy:ev e y= .int .u64 j)(hb:Nat.blt d N=true)(he:i*j=r)(hr:0<=r/\r<=18446744073709551615)(hK:ak P N ops K rest (bt e d (.int .u64 r)) w):
 ak P N ops K (⟨some d,.binOp .mul xt x y yt,ty,pos,af,none⟩::rest) e w:=
 .val (by simp [execOp,hx,hy,eqGuard,binOp,Op.intArith,he,yy _ hr]) hb hK
theorem Ew(r:Int)(hx:ev e x= .int .u64 i)(hy:ev e y= .int .u64 4294967295)(hb:Nat.blt d N=true)(hr:0<=i/\i<=18446744073709551615)(he:i%4294967296=r)(hK:ak P N ops K rest (bt e d (.int .u64 r)) w):
 ak P N ops K (⟨some d,.binOp .and xt x y yt,ty,pos,af,none⟩::rest) e w:=by
 subst he;obtain⟨a,rfl⟩:∃a:Nat,i=a:=⟨i.toNat,by omega⟩;have h:=Mul64.maskN a (by omega);rw [show((a%4294967296:Nat):Int)=(a:Int)%4294967296 by omega]at h;refine .val ?_ hb hK;simp only [execOp,hx,hy,eqGuard,binOp,intBits_and,h];simp
theorem yO(r:Int)(hx:ev e x= .int .u64 i)(hy:ev e y= .int .u64 32)(hb:Nat.blt d N=true)(hr:0<=i)(he:i / 4294967296=r)(hK:ak P N ops K rest (bt e d (.int .u64 r)) w):
 ak P N ops K (⟨some d,.binOp .shr xt x y yt,ty,pos,af,none⟩::rest) e w:=by
 subst he;refine .val ?_ hb hK;have e1:min 32 IntKind.u64.bits=32:=by decide
 have e2:i.fdiv (2^32)=i / 4294967296:=by rw [Int.fdiv_eq_ediv_of_nonneg _ (by decide)];rfl
 have R1:i.fdiv 4294967296=i / 4294967296:=e2;simp [execOp,hx,hy,eqGuard,binOp,Op.shift,e1,R1]
theorem sq{k k':IntKind}[bK P yt (.int k')](hx:ev e x= .int k i)(hb:Nat.blt d N=true)(hw:k'.wrap i=i){u:TypeDesc}[bK P xt u](hK:ak P N ops K rest (bt e d (.int k' i)) w):
 ak P N ops K (⟨some d,.convert xt yt x,ty,pos,af,none⟩::rest) e w:=
 .val (by simp [execOp,hx,convert,run_underlying (bK.out (P:=P) (t:=xt)),run_underlying (bK.out (P:=P) (t:=yt)),Conv.intToInt,hw]) hb hK
end
end
structure bl(w:aa)(A:ai)(n:Nat)(rs:List aO)(xss:ag):Prop where
 top:gp w A n rs
 len:xss.length=n
 row:∀i,i<n->cd w (rs.getD i cJ).a (rs.getD i cJ).n (xss.getD i [])
 cap:∀i,i<n->(rs.getD i cJ).n<=(rs.getD i cJ).c/\(rs.getD i cJ).c<=maxLen
def gl(xss:ag)(i:Int):ah:=xss.getD i.toNat []
theorem bl.at_{w:aa}{A:ai}{n:Nat}{rs:List aO}{xss:ag}(h:bl w A n rs xss){i:Int}(_h0:0<=i)(hi:i<n):cd w (rg rs i).a (rg rs i).n (gl xss i):=h.row _ (by omega)
theorem bl.cap_{w:aa}{A:ai}{n:Nat}{rs:List aO}{xss:ag}(h:bl w A n rs xss){i:Int}(_h0:0<=i)(hi:i<n):(rg rs i).n<=(rg rs i).c/\(rg rs i).c<=9223372036854775807:=h.cap _ (by omega)
theorem bl.aq{w w':aa}{A:ai}{n:Nat}{rs:List aO}{xss:ag}(h:bl w A n rs xss)(hb:Below w.heap.size w w'):bl w' A n rs xss:=
 ⟨h.top.aq hb,h.len,fun i hi=> (h.row i hi).aq hb,h.cap⟩
theorem St.bE{w0 w:aa}{ks:List Ck}{A:ai}{n:Nat}{rs:List aO}{xss:ag}(h:St w0 w ks)(hR:bl w0 A n rs xss):bl w A n rs xss:=hR.aq h.below
theorem bl.nil(w:aa):bl w none 0 [] []:=⟨gp.nil,rfl,fun i hi=>by omega,fun i hi=>by omega⟩
def bS(t:ad):List aO->ag->List Ck
 | r::rs,xs::xss=>ax t r.a r.n r.c xs::bS t rs xss
 | _,_=> []
def aK(t1 t2:ad)(A:ai)(n c:Nat)(rs:List aO)(xss:ag):List Ck:=aV t1 A n c rs::bS t2 rs xss
theorem Ih{t:ad}:∀ {rs:List aO} {xss:ag} {i:Nat},rs.length=xss.length->i<rs.length->(bS t rs xss)[i]?=some (ax t (rs.getD i cJ).a (rs.getD i cJ).n (rs.getD i cJ).c (xss.getD i []))
 | [],_,_,_,h=>by simp at h
 | r::rs,[],_,h,_=>by simp at h
 | r::rs,xs::xss,0,_,_=>rfl
 | r::rs,xs::xss,i+1,h,hi=>by
  have:=Ih (t:=t) (rs:=rs) (xss:=xss) (i:=i) (by simpa using h) (by simpa using hi);simpa [bS]using this
theorem wq{t:ad}:∀ {rs:List aO} {xss:ag},rs.length=xss.length->(bS t rs xss).length=rs.length
 | [],[],_=>rfl
 | [],_::_,h=>by simp at h
 | _::_,[],h=>by simp at h
 | r::rs,xs::xss,h=>by simp [bS,wq (t:=t) (rs:=rs) (xss:=xss) (by simpa using h)]
theorem nD{t:ad}:∀ {rs rs':List aO} {xss xss':ag},rs.length=xss.length->bS t (rs++rs') (xss++xss')=bS t rs xss++bS t rs' xss'
 | [],_,[],_,_=>rfl
 | [],_,_::_,_,h=>by simp at h
 | _::_,_,[],_,h=>by simp at h
 | r::rs,rs',xs::xss,xss',h=>by
  have:=nD (t:=t) (rs:=rs) (rs':=rs') (xss:=xss) (xss':=xss') (by simpa using h);simp [bS,this]
theorem St.du{w0 w:aa}{ks:List Ck}{t1 t2:ad}{A:ai}{n c:Nat}{rs:List aO}{xss:ag}(h:St w0 w (aK t1 t2 A n c rs xss++ks))(hl:xss.length=n):bl w A n rs xss:=by
 have h0:=h.eG 0 (show(aK t1 t2 A n c rs xss++ks)[0]?=some (aV t1 A n c rs) from O);have hr:rs.length=xss.length:=by rw [h0.1,hl]
 have get:∀i,i<n->(aK t1 t2 A n c rs xss++ks)[i+1]?=some (ax t2 (rs.getD i cJ).a (rs.getD i cJ).n (rs.getD i cJ).c (xss.getD i [])):=by
  intro i hi;have h1:=Ih (t:=t2) (rs:=rs) (xss:=xss) (i:=i) hr (by omega);rw [ow (by simp [aK,wq hr];omega)];simpa [aK]using h1
 exact⟨h0,hl,fun i hi=>h.bz (i+1) (get i hi),fun i hi=>h.cap (i+1) (get i hi)⟩
theorem St.aaE{w0 w:aa}{ks:List Ck}{t1 t2:ad}{A:ai}{n c:Nat}{rs:List aO}{xss:ag}(h:St w0 w (aK t1 t2 A n c rs xss++ks)):St w0 w ks:=h.sub (dD _ _)
end Go.Proofs.YtagdamiiececaaaGreatDoor.Vc
