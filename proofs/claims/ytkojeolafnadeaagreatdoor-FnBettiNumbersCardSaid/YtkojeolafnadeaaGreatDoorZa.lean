/-
 Lemmas. Conditions: as each states them.
-/
import Derived.WalkKit
import Derived.Deep.Quiet
import Derived.Deep.LoopGhost
import Derived.Below
import Derived.Sort.Grow
import Derived.Deep.OwnRows
import Derived.Laws.IdiomCopy
import Derived.Shelf.Bits.Mul64
set_option maxHeartbeats 8000000
namespace Go.Proofs.YtkojeolafnadeaaGreatDoor.Vc
open Go.RowKit
abbrev aa:=World
abbrev ab:=Value
abbrev ad:=TypeId
abbrev ae:=Operand
abbrev ag:=List (List Int)
abbrev ah:=List Int
abbrev ai:=Option Addr
abbrev aj(i:Int):Value:=.int .i64 i
theorem aw:True:=@trivial
theorem aL:∀ {α:Sort _} {β:Sort _} {a₁ a₂:α} (f:α->β),a₁=a₂->f a₁=f a₂:=@congrArg
theorem aR:∀ {c:Prop} {_:Decidable c},¬c->∀ {α:Sort _} {t e:α},(if c then t else e)=e:=@if_neg
theorem aT:∀ {c:Prop} {_:Decidable c},c->∀ {α:Sort _} {t e:α},(if c then t else e)=t:=@if_pos
theorem bj:∀ {α:Type _} {val val_1:α},some val=some val_1->val=val_1:=@Option.some.inj
theorem bu:∀(n:Nat),0<=n:=@Nat.zero_le
theorem cg:∀ {α:Type _} {p:α->Prop} {a:α} {l:List α},(∀(x:α),x∈a::l->p x)↔p a/\∀(x:α),x∈l->p x:=@List.forall_mem_cons
theorem cM:∀ {p:Prop} [Decidable p],¬p->decide p=false:=@decide_eq_false
theorem dh:∀ {α:Type _} {cs bs:List α},(cs++bs).length=cs.length+bs.length:=@List.length_append
theorem dt:∀ {α:Type _} {l:List α} {i:Nat} {a:α},l.getD i a=l[i]?.getD a:=@List.getD_eq_getElem?_getD
theorem dz:∀ {α:Type _} (l₁ l₂:List α),l₂.Sublist (l₁++l₂):=@List.sublist_append_right
theorem dC:∀(n:Nat),n<=n:=@Nat.le_refl
theorem dK:∀ {α:Type _} {a b:α},a∈[b]↔a=b:=@List.mem_singleton
theorem dY:∀ {α:Type _} (l:List α),l.Sublist l:=@List.Sublist.refl
theorem eb:∀ {α:Type _} (y:α) {a:α} {l:List α},a∈l->a∈y::l:=@List.mem_cons_of_mem
theorem eh:∀ {α:Type _} {β:Type _} {b:β} {f:α->β} {l:List α},b∈List.map f l↔∃a,a∈l/\f a=b:=@List.mem_map
theorem eC:∀ {p:Prop} [Decidable p],p->decide p=true:=@decide_eq_true
theorem eD:∀ {α:Type _} {a:α} {s t:List α},a∈s++t↔a∈s\/a∈t:=@List.mem_append
theorem eK:∀ {α:Type _} {a:α} {l₁ l₂:List α},(l₁++a::l₂).Perm (a::(l₁++l₂)):=@List.perm_middle
theorem fe:∀ {α:Type _} {l:List α} {n:Nat} (h:n<l.length),l[n]∈l:=@List.getElem_mem
theorem fK:∀ {α:Type _} (ks bs cs:List α),ks++bs++cs=ks++ (bs++cs):=@List.append_assoc
theorem fU:∀ {α:Type _} {l:List α} {i:Nat} (h:i<l.length),l[i]?=some l[i]:=@List.getElem?_eq_getElem
theorem gj:∀ {α:Type _} {a:α} {l:List α},a∈l↔∃(i:Nat) (h:i<l.length),l[i]=a:=@List.mem_iff_getElem
theorem gw:∀ {α:Type _} {i:Nat} {a:α} {l:List α},l[i]?=some a↔∃h,l[i]=a:=@List.getElem?_eq_some_iff
theorem gB:∀(n:Nat),(n:Int).toNat=n:=@Int.toNat_natCast
theorem gW:∀ {α:Type _} (a:α) {b:α} {l:List α} {i:Nat},(l.set i a).set i b=l.set i b:=@List.set_set
theorem ij:∀ {α:Type _} {b:α} {l:List α} {a:α},a∈b::l↔a=b\/a∈l:=@List.mem_cons
theorem iz:∀ {α:Type _} (cs:List α),cs++ []=cs:=@List.append_nil
theorem iI:∀ {α:Type _} {xs:Array α} {i:Nat} {d:α},xs.getD i d=xs[i]?.getD d:=@Array.getD_eq_getD_getElem?
theorem iK:∀ {α:Type _} {l₁ l₂:List α},(l₁++l₂).Perm (l₂++l₁):=@List.perm_append_comm
theorem iR:∀ {α:Type _} {cs:List α} {i:Nat} {a:α},(cs.set i a).length=cs.length:=@List.length_set
theorem iS:∀ {n m k:Nat},n<=m->m<=k->n<=k:=@Nat.le_trans
theorem ja:∀ {α:Type _} {p:α->Bool} {cs:List α} {x:α},x∈List.filter p cs↔x∈cs/\p x=true:=@List.mem_filter
theorem jV:∀ {α:Type _} {l₁ l₂:List α},l₁.length=l₂.length->(∀(i:Nat) (h₁:i<l₁.length) (h₂:i<l₂.length),l₁[i]=l₂[i])->l₁=l₂:=@List.ext_getElem
theorem jW:∀ {α:Type _} {l₁ l₂:List α} {i:Nat},l₁.length<=i->(l₁++l₂)[i]?=l₂[i - l₁.length]?:=@List.getElem?_append_right
theorem kz:∀ {α:Type _} {a:α} {l:List α},(a::l).Nodup↔¬a∈l/\l.Nodup:=@List.nodup_cons
theorem kA:∀ {α:Type _} {i:Nat} {l:List α},l.length<=i->List.take i l=l:=@List.take_of_length_le
theorem lg:∀ {α:Type _} {l:List α},l.length=0->l=[]:=@List.eq_nil_of_length_eq_zero
theorem lh:∀ {α:Type _} {l₁ l₂:List α} {i:Nat},i<l₁.length->(l₁++l₂)[i]?=l₁[i]?:=@List.getElem?_append_left
theorem lQ:∀ {α:Type _} (l₁ l₂:List α),l₁.Sublist (l₁++l₂):=@List.sublist_append_left
theorem mf:∀ {α:Type _} {β:Type _} {cs:List α} (f:α->β),(List.map f cs).length=cs.length:=@List.length_map
theorem mg:∀(n:Nat),¬n<0:=@Nat.not_lt_zero
theorem mh:∀ {α:Type _} (val val_1:α),(some val=some val_1)=(val=val_1):=@Option.some.injEq
theorem mM:∀ {a:Prop},¬¬a↔a:=@Classical.not_not
theorem mO:∀ {n m:Nat},n.beq m=true->n=m:=@Nat.eq_of_beq_eq_true
theorem nt:∀ {α:Type _} {i:Nat} {l:List α},(List.take i l).length=min i l.length:=@List.length_take
theorem nu:∀ {m n:Nat},m∈List.range n↔m<n:=@List.mem_range
theorem nA:∀ {p q:Prop} {_:Decidable p} {_:Decidable q},decide p=decide q↔(p↔q):=@decide_eq_decide
theorem nB:∀ {p:Prop} [Decidable p],(decide p=true)=p:=@decide_eq_true_eq
theorem nZ:∀ {α:Type _} [BEq α] {a b:α} {l:List α},List.count a (b::l)=List.count a l+if(b==a)=true then 1 else 0:=@List.count_cons
theorem n3:∀ {α:Type _} {l:List α} {i j:Nat} {a:α},(l.set i a)[j]?=if i=j then if i<l.length then some a else none else l[j]?:=@List.getElem?_set
theorem oa:∀ {α:Type _} (p:α->Bool) (l:List α),(List.filter p l).length<=l.length:=@List.length_filter_le
theorem pv:∀ {α:Type _} {xs:Array α} {i:Nat} (h:i<xs.size),xs[i]?=some xs[i]:=@Array.getElem?_eq_getElem
theorem pw:∀ {α:Type _} {l:List α} {α_1:Type _} {f g:α->α_1},(∀(a:α),a∈l->f a=g a)->List.map f l=List.map g l:=@List.map_congr_left
theorem px:∀ {α:Type _} [BEq α] [LawfulBEq α] {l₁ l₂:List α},l₁.Perm l₂↔∀(a:α),List.count a l₁=List.count a l₂:=@List.perm_iff_count
theorem qy:∀ {α:Type _} {l:List α} {i:Nat},l.length<=i->l[i]?=none:=@List.getElem?_eq_none
theorem qA:∀ {α:Type _} {β:Type _} {f:α->β} {l₁ l₂:List α},List.map f (l₁++l₂)=List.map f l₁++List.map f l₂:=@List.map_append
theorem rb:∀ {p:Prop} [Decidable p],decide p=true->p:=@of_decide_eq_true
theorem ru:∀ {α:Type _} {xs:Array α} {i j:Nat} {a:α},(xs.setIfInBounds i a)[j]?=if i=j then if i<xs.size then some a else none else xs[j]?:=@Array.getElem?_setIfInBounds
theorem rz:∀ {α:Type _} [BEq α] {a:α} {l₁ l₂:List α},List.count a (l₁++l₂)=List.count a l₁+List.count a l₂:=@List.count_append
theorem rA:∀ {α:Type _} [BEq α] {a:α},List.count a []=0:=@List.count_nil
theorem rB:∀ {α:Type _} {l:List α} {i j:Nat},(List.take i l)[j]?=if j<i then l[j]? else none:=@List.getElem?_take
theorem rC:∀ {α:Type _} {i:Nat} {l:List α} (h:i<l.length),List.take (i+1) l=List.take i l++ [l[i]]:=@List.take_succ_eq_append_getElem
theorem tG:∀ {α:Type _} {R:α->α->Prop} {l:List α} (p:α->Bool),List.Pairwise R l->List.Pairwise R (List.filter p l):=@List.Pairwise.filter
theorem tH:∀ {n:Nat},(List.range n).length=n:=@List.length_range
theorem tI:∀ {n:Nat},List.range n.succ=List.range n++ [n]:=@List.range_succ
theorem yb:∀ {p:Prop},(¬p->False)->p:=@Classical.byContradiction
theorem zF:∀ {α:Type _} {l₁ l₂:List α} {i:Nat},i<=l₁.length->List.take i (l₁++l₂)=List.take i l₁:=@List.take_append_of_le_length
abbrev Env:=Nat->ab
def bC(e:Env)(d:Nat)(v:ab):Env:=fun i=>bif Nat.beq i d then v else e i
def ev(e:Env):ae->ab
 | .tmp t=>e t
 | .const v=>v
 | .global g=> .pointer (some ⟨g,0,none⟩)
 | .func f=> .func (.func f) #[] #[]
structure js(N:Nat)(a:Act)(e:Env):Prop where
 defers:a.defers=[]
 size:a.tmps.size=N
 get:∀i,a.tmps.getD i undef=e i
theorem O{α:Sort _}{a:α}:a=a:=rfl
theorem js.eval{N:Nat}{a:Act}{e:Env}(h:js N a e):a.eval=ev e:=by
 funext x;cases x with
 | tmp t=>exact h.get t
 | const v=>rfl
 | global g=>rfl
 | func f=>rfl
theorem js.put{N:Nat}{a:Act}{e:Env}(h:js N a e){d:Nat}(hd:Nat.blt d N=true)(v:ab):js N (a.put (some d) v) (bC e d v):=by
 have ug:d<a.tmps.size:=by rw [h.size];simpa [Nat.blt_eq]using hd
 refine⟨h.defers,by simp [Act.put,h.size],fun i=>?_⟩;simp only [Act.put,bC];rw [iI,ru]
 by_cases e1:d=i
 ·subst e1;simp [ug]
 ·have e2:Nat.beq i d=false:=by
   cases hb:Nat.beq i d with
   | false=>rfl
   | true=>exact absurd (mO hb).symm e1
  rw [aR e1,e2,<-iI,h.get]
  rfl
abbrev jr:=Exit->Env->aa->Prop
def low(N:Nat)(Q:jr):Exit->Act->aa->Prop:=fun x a w=>∃e,js N a e/\Q x e w
structure Cd(P:Program)(N:Nat)(c:Code)(Q:jr)(e:Env)(w:aa):Prop where
 mk'::
 run:∀a,js N a e->c.wp P (low N Q) a w
structure ak(P:Program)(N:Nat)(ops:Array Oper)(K:Env->aa->Prop)(l:List Oper)(e:Env)(w:aa):Prop where
 mk'::
 run:∀a,js N a e->wpList P ops (fun x a w=>x= .normal/\∃e,js N a e/\K e w) l a w
section
variable{x y:Code}{id:Nat}
variable {P:Program} {N:Nat} {Q:jr} {e:Env} {w:aa}
def zw(K:Env->aa->Prop)(Q:jr):jr
 | .normal,e,w=>K e w
 | x,e,w=>Q x e w
def HU(id:Nat)(Q:jr):jr
 | .exit KJ,e,w=>if KJ=id then Q .normal e w else Q (.exit KJ) e w
 | x,e,w=>Q x e w
theorem Cd.mono{c:Code}{Q':jr}(hq:∀x e w,Q x e w->Q' x e w)(h:Cd P N c Q e w):Cd P N c Q' e w:=
 .mk' fun a ha=>wp_mono (h.run a ha) fun _ _ _ ⟨e,he,q⟩=> ⟨e,he,hq _ _ _ q⟩
theorem Cd.seq(h:Cd P N x (zw (Cd P N y Q) Q) e w):Cd P N (.seq x y) Q e w:= .mk' fun a ha=>
 wp_seq (wp_mono (h.run a ha) fun ex a' w' ⟨e',rY,q⟩=>by
  cases ex<;>first | exact q.run a' rY | exact⟨e',rY,q⟩)
theorem Cd.skip(h:Q .normal e w):Cd P N .skip Q e w:= .mk' fun a ha=>wp_skip ⟨e,ha,h⟩
theorem Cd.ret(h:Q .ret e w):Cd P N .ret Q e w:= .mk' fun a ha=>wp_ret ⟨e,ha,h⟩
theorem Cd.exit(h:Q (.exit id) e w):Cd P N (.exit id) Q e w:= .mk' fun a ha=>wp_exit ⟨e,ha,h⟩
theorem Cd.block{c:Code}(h:Cd P N c (HU id Q) e w):Cd P N (.block id c) Q e w:= .mk' fun a ha=>
 wp_block (wp_mono (h.run a ha) fun ex a' w' ⟨e',rY,q⟩=>by
  cases ex<;>first
   | exact⟨e',rY,q⟩
   | (
    rename_i KJ;simp only [HU]at q;simp only [Exit.inBlock]
    split
    ·rename_i hid;rw [aT hid]at q;exact⟨e',rY,q⟩
    ·rename_i hid;rw [aR hid]at q;exact⟨e',rY,q⟩))
theorem Cd.cond{c:ae}{t:Bool}(hc:ev e c= .bool t)(h1:t=true->Cd P N x Q e w)(h2:t=false->Cd P N y Q e w):Cd P N (.cond c x y) Q e w:= .mk' fun a ha=>
 wp_cond_split (t:=t) (by rw [ha.eval,hc]) (fun h=> (h1 h).run a ha) (fun h=> (h2 h).run a ha)
theorem Cd.eH{c:ae}(hc:ev e c= .bool true)(h1:Cd P N x Q e w):Cd P N (.cond c x y) Q e w:= .cond hc (fun _=>h1) (fun h=>by cases h)
theorem Cd.dZ{c:ae}(hc:ev e c= .bool false)(h1:Cd P N y Q e w):Cd P N (.cond c x y) Q e w:= .cond hc (fun h=>by cases h) (fun _=>h1)
theorem aM{c:ae}(p:Prop)[Decidable p](hc:ev e c= .bool (decide p))(h1:p->Cd P N x Q e w)(h2:¬p->Cd P N y Q e w):Cd P N (.cond c x y) Q e w:=
 .cond hc (fun h=>h1 (rb h)) (fun h=>h2 (of_decide_eq_false h))
theorem Cd.region{l:List Oper}(h:ak P N l.toArray (fun e w=>Q .normal e w) l e w):Cd P N (.region id l.toArray false) Q e w:= .mk' fun a ha=>
 wp_mono (wp_region_lit (h.run a ha)) fun _ _ _ ⟨hx,e',rY,q⟩=> ⟨e',rY,by rw [hx];exact q⟩
def Mt(e:Env):List (Nat×ab)->Prop
 | []=>True
 | (i,v)::r=>e i=v/\Mt e r
theorem ajz{e:Env}:∀{l:List (Nat×Value)},l.map (fun p=>e p.1)=l.map (fun p=>p.2)->Mt e l
 | [],_=>True.intro
 | _::_,h=>⟨(List.cons.inj h).1,ajz (List.cons.inj h).2⟩
def ext(e:Env):List (Nat×ab)->Env
 | []=>e
 | (i,v)::r=>bC (ext e r) i v
theorem yo:∀ {l:List (Nat×ab)} {e:Env},Mt e l->ext e l=e
 | [],_,_=>rfl
 | (i,v)::r,e,h=>by
  show bC (ext e r) i v=e;rw [yo h.2];funext j;unfold bC;cases hb:Nat.beq j i with
  | false=>rfl
  | true=>rw [mO hb,h.1];rfl
theorem Cd.loop{α:Type}{c:Code}(F:α->List (Nat×ab))(I:α->aa->Prop)(m:α->Nat)(s0:α)(hF:Mt e (F s0))(hI:I s0 w)
 (round:∀s e w,I s w->Cd P N c (zw (fun e' w'=>∃s',m s'<m s/\Mt e' (F s')/\I s' w') Q) (ext e (F s)) w):Cd P N (.loop c) Q e w:=by
 have key:∀n s e w,m s=n->Mt e (F s)->I s w->∀a,js N a e->(Code.loop c).wp P (low N Q) a w:=by
  intro n0 s e w hn hm Jk a ha
  let J:Act->aa->Prop:=fun a w=>∃s e,js N a e/\Mt e (F s)/\I s w
  refine wp_loop_ghost (I:=fun n a w=>∃s e,m s=n/\js N a e/\Mt e (F s)/\I s w) n0 ⟨s,e,hn,ha,hm,Jk⟩ ?_;intro n a w ⟨s,e,hn,ha,hm,hI⟩;have h1:=round s e w hI;rw [yo hm]at h1;refine wp_mono (h1.run a ha) fun ex a' w' ⟨e',rY,q⟩=>?_
  cases ex<;>first
   | exact⟨e',rY,q⟩
   | (
    obtain⟨s',eL,kU,Jk⟩:=q;exact⟨m s',by omega,s',e',O,rY,kU,Jk⟩)
 exact .mk' fun a ha=>key _ s0 e w O hF hI a ha
end
class bP(P:Program)(t:ad)(d:outParam TypeDesc):Type where
 out:P.underlying t=some d
class bO(P:Program)(t:ad)(z:outParam ab)(size bytes:outParam Nat):Prop where
 out:(P.info? t).map (fun i=> (i.zero,i.size,i.bytes))=some (some z,size,bytes)
class bB(P:Program)(F:FuncId):Prop where
 out : ∃ fn, P.funcs[F]? = some fn /\ (fn.name == "runtime.NumGoroutine") = false /\ fn.body.isNone = false
theorem bO.get(P:Program)(t:ad){z:ab}{s b:Nat}[h:bO P t z s b]:∃i,P.info? t=some i/\i.zero=some z/\i.size=s/\i.bytes=b:=by
 obtain⟨i,hi,he⟩:=Option.map_eq_some_iff.1 h.out;simp only [Prod.mk.injEq]at he;exact⟨i,hi,he.1,he.2.1,he.2.2⟩
section
variable{j dj:Nat}{want:Bool}{x:ae}
variable {P:Program} {N:Nat} {ops:Array Oper} {K:Env->aa->Prop} {rest:List Oper} {e:Env} {w w':aa} {d:Nat} {ty:ad} {pos:String} {af:Array Edge}
theorem ak.n(h:K e w):ak P N ops K [] e w:= .mk' fun a ha=>wpList_nil ⟨rfl,e,ha,h⟩
theorem ak.val{op:Op}{v:ab}(hr:(execOp (ev e) ⟨some d,op,ty,pos,af,none⟩).run P w= .ok (.value v) w')(hb:Nat.blt d N=true)(hK:ak P N ops K rest (bC e d v) w'):
 ak P N ops K (⟨some d,op,ty,pos,af,none⟩::rest) e w:= .mk' fun a ha=>by
 refine wpList_plain O fun J hJ=>?_
 unfold Oper.wp;rw [ha.eval,hr];exact hJ _ _ (hK.run _ (ha.put hb v))
theorem ak.unit{op:Op}(hr:(execOp (ev e) ⟨none,op,ty,pos,af,none⟩).run P w= .ok .skip w')(hK:ak P N ops K rest e w'):
 ak P N ops K (⟨none,op,ty,pos,af,none⟩::rest) e w:= .mk' fun a ha=>by
 refine wpList_plain O fun J hJ=>?_
 unfold Oper.wp;rw [ha.eval,hr];exact hJ _ _ (hK.run _ ha)
theorem ak.ag5{op:Op}{v:ab}(hr:(execOp (ev e) ⟨none,op,ty,pos,af,none⟩).run P w= .ok (.value v) w')(hK:ak P N ops K rest e w'):
 ak P N ops K (⟨none,op,ty,pos,af,none⟩::rest) e w:= .mk' fun a ha=>by
 refine wpList_plain O fun J hJ=>?_
 unfold Oper.wp;rw [ha.eval,hr];exact hJ _ _ (hK.run _ ha)
theorem T5{a:Act}{b:Bool}(ha:js N a e)(hj:(ops[j]?).bind (·.dst)=some dj)(eL:Nat.blt dj N=true)(hv:e dj= .bool b):yielded ops a.tmps j=some b:=by
 have h1:dj<a.tmps.size:=by rw [ha.size];simpa [Nat.blt_eq]using eL
 have h2:=ha.get dj;rw [iI,pv h1,Option.getD_some,hv]at h2;simp [yielded,hj,pv h1,h2]
theorem ajl{o:Option Tmp}{op:Op}(hj:(ops[j]?).bind (·.dst)=some dj)(eL:Nat.blt dj N=true)(hv:e dj= .bool want)(hK:ak P N ops K (⟨o,op,ty,pos,af,none⟩::rest) e w):ak P N ops K (⟨o,op,ty,pos,af,some (j,want)⟩::rest) e w:= .mk' fun a ha=>by
 have h:=hK.run a ha;have hy:=T5 (ops:=ops) ha hj eL hv;have hw:Region.wanted (⟨o,op,ty,pos,af,some (j,want)⟩:Oper) (yielded ops a.tmps)=true:=by
  simp [Region.wanted,hy]
 unfold wpList at h|-;rw [aT hw];rw [aT (show Region.wanted (⟨o,op,ty,pos,af,none⟩:Oper) (yielded ops a.tmps)=true from rfl)]at h;exact h
theorem au{o:Option Tmp}{op:Op}(q9:((ops[j]?).bind (·.dst),Nat.blt dj N,e dj)=(some dj,true,.bool want))(hK:ak P N ops K (⟨o,op,ty,pos,af,none⟩::rest) e w):ak P N ops K (⟨o,op,ty,pos,af,some (j,want)⟩::rest) e w:=ajl (congrArg (fun p=>p.1) q9) (congrArg (fun p=>p.2.1) q9) (congrArg (fun p=>p.2.2) q9) hK
theorem ajm{op:Op}{b:Bool}(hj:(ops[j]?).bind (·.dst)=some dj)(eL:Nat.blt dj N=true)(hv:e dj= .bool b)(cS:(b==want)=false)(hb:Nat.blt d N=true)(hK:ak P N ops K rest (bC e d undef) w):ak P N ops K (⟨some d,op,ty,pos,af,some (j,want)⟩::rest) e w:= .mk' fun a ha=>by
 have hy:=T5 (ops:=ops) ha hj eL hv;refine wpList_skip ?_ (hK.run _ (ha.put hb undef));simp only [Region.wanted];rw [hy];simpa using cS
theorem ay{op:Op}{b:Bool}(q9:((ops[j]?).bind (·.dst),Nat.blt dj N,e dj,(b==want),Nat.blt d N)=(some dj,true,.bool b,false,true))(hK:ak P N ops K rest (bC e d undef) w):ak P N ops K (⟨some d,op,ty,pos,af,some (j,want)⟩::rest) e w:=ajm (congrArg (fun p=>p.1) q9) (congrArg (fun p=>p.2.1) q9) (congrArg (fun p=>p.2.2.1) q9) (congrArg (fun p=>p.2.2.2.1) q9) (congrArg (fun p=>p.2.2.2.2) q9) hK
theorem iA{op:Op}(hj:(ops[j]?).bind (·.dst)=some dj)(eL:Nat.blt dj N=true)(hv:e dj=undef)(hb:Nat.blt d N=true)(hK:ak P N ops K rest (bC e d undef) w):ak P N ops K (⟨some d,op,ty,pos,af,some (j,want)⟩::rest) e w:= .mk' fun a ha=>by
 refine wpList_skip ?_ (hK.run _ (ha.put hb undef));have h1:dj<a.tmps.size:=by rw [ha.size];simpa [Nat.blt_eq]using eL
 have h2:=ha.get dj;rw [iI,pv h1,Option.getD_some,hv]at h2;simp [Region.wanted,yielded,hj,pv h1,h2,undef]
theorem TY{e:Env}{d:Nat}{v:ab}(h:e d=v):bC e d v=e:=by
 funext j;unfold bC;cases hb:Nat.beq j d with
 | false=>rfl
 | true=>rw [mO hb,h];rfl
theorem ak.split{l:List Oper}(d:Nat){b:Bool}(hv:e d= .bool b)(h1:b=true->ak P N ops K l (bC e d (.bool true)) w)(h2:b=false->ak P N ops K l (bC e d (.bool false)) w):ak P N ops K l e w:=by
 cases b
 ·have:=h2 O;rwa [TY hv]at this
 have:=h1 O;rwa [TY hv]at this
theorem cz{l:List Oper}(d:Nat){p:Prop}[Decidable p](hv:e d= .bool (decide p))(h1:p->ak P N ops K l (bC e d (.bool true)) w)(h2:¬p->ak P N ops K l (bC e d (.bool false)) w):ak P N ops K l e w:=
 .split d hv (fun h=>h1 (rb h)) (fun h=>h2 (of_decide_eq_false h))
def zn:Op->Option ae
 | .move x=>some x
 | .assign x=>some x
 | _=>none
theorem af3{op:Op}(h:zn op=some x):(execOp (ev e) ⟨some d,op,ty,pos,af,none⟩).run P w= .ok (.value (ev e x)) w:=by
 cases op<;>simp [zn]at h<;>subst h<;>rfl
theorem ak.mv{op:Op}{v:ab}(pS:zn op=some x)(hx:ev e x=v)(hb:Nat.blt d N=true)(hK:ak P N ops K rest (bC e d v) w):ak P N ops K (⟨some d,op,ty,pos,af,none⟩::rest) e w:=
 .val (by rw [af3 pS,hx]) hb hK
theorem jq{op:Op}{k:IntKind}{i:Int}(pS:zn op=some x)(hx:ev e x= .int k i)(hb:Nat.blt d N=true)(hK:ak P N ops K rest (bC e d (.int k i)) w):ak P N ops K (⟨some d,op,ty,pos,af,none⟩::rest) e w:= .mv pS hx hb hK
theorem kc{op:Op}{A:ai}{n c:Nat}(pS:zn op=some x)(hx:ev e x= .slice A n c)(hb:Nat.blt d N=true)(hK:ak P N ops K rest (bC e d (.slice A n c)) w):ak P N ops K (⟨some d,op,ty,pos,af,none⟩::rest) e w:= .mv pS hx hb hK
theorem uW{op:Op}{p:ai}(pS:zn op=some x)(hx:ev e x= .pointer p)(hb:Nat.blt d N=true)(hK:ak P N ops K rest (bC e d (.pointer p)) w):ak P N ops K (⟨some d,op,ty,pos,af,none⟩::rest) e w:= .mv pS hx hb hK
theorem HA{op:Op}{cs:Array ab}(pS:zn op=some x)(hx:ev e x= .tuple cs)(hb:Nat.blt d N=true)(hK:ak P N ops K rest (bC e d (.tuple cs)) w):ak P N ops K (⟨some d,op,ty,pos,af,none⟩::rest) e w:= .mv pS hx hb hK
section
variable {x y:ae} {xt yt:ad} {i j:Int}
theorem ajr(hx:ev e x=aj i)(hy:ev e y=aj j)(hb:Nat.blt d N=true)(hr: -9223372036854775808<=i+j/\i+j<=9223372036854775807)(hK:ak P N ops K rest (bC e d (aj (i+j))) w):
 ak P N ops K (⟨some d,.binOp .add xt x y yt,ty,pos,af,none⟩::rest) e w:=
 .val (by simp [execOp,hx,hy,eqGuard,binOp,Op.intArith,IntWalk.i64_in _ hr]) hb hK
theorem aK(q9:(ev e x,ev e y,Nat.blt d N)=(aj i,aj j,true))(hK:ak P N ops K rest (bC e d (aj (i+j))) w)(hr:-9223372036854775808<=i+j/\i+j<=9223372036854775807:=by omega):ak P N ops K (⟨some d,.binOp .add xt x y yt,ty,pos,af,none⟩::rest) e w:=ajr (congrArg (fun p=>p.1) q9) (congrArg (fun p=>p.2.1) q9) (congrArg (fun p=>p.2.2) q9) hr hK
theorem ajp(hx:ev e x=aj i)(hy:ev e y=aj j)(hb:Nat.blt d N=true)(hr: -9223372036854775808<=i - j/\i - j<=9223372036854775807)(hK:ak P N ops K rest (bC e d (aj (i - j))) w):
 ak P N ops K (⟨some d,.binOp .sub xt x y yt,ty,pos,af,none⟩::rest) e w:=
 .val (by simp [execOp,hx,hy,eqGuard,binOp,Op.intArith,IntWalk.i64_in _ hr]) hb hK
theorem dq(q9:(ev e x,ev e y,Nat.blt d N)=(aj i,aj j,true))(hK:ak P N ops K rest (bC e d (aj (i - j))) w)(hr:-9223372036854775808<=i - j/\i - j<=9223372036854775807:=by omega):ak P N ops K (⟨some d,.binOp .sub xt x y yt,ty,pos,af,none⟩::rest) e w:=ajp (congrArg (fun p=>p.1) q9) (congrArg (fun p=>p.2.1) q9) (congrArg (fun p=>p.2.2) q9) hr hK
theorem iL(hx:ev e x=aj i)(hy:ev e y=aj j)(hb:Nat.blt d N=true)(hr: -9223372036854775808<=i*j/\i*j<=9223372036854775807)(hK:ak P N ops K rest (bC e d (aj (i*j))) w):
 ak P N ops K (⟨some d,.binOp .mul xt x y yt,ty,pos,af,none⟩::rest) e w:=
 .val (by simp [execOp,hx,hy,eqGuard,binOp,Op.intArith,IntWalk.i64_in _ hr]) hb hK
theorem ak.quo(hx:ev e x=aj i)(hy:ev e y=aj j)(hb:Nat.blt d N=true)(hr:0<=i/\i<=9223372036854775807/\1<=j)(hK:ak P N ops K rest (bC e d (aj (i / j))) w):
 ak P N ops K (⟨some d,.binOp .quo xt x y yt,ty,pos,af,none⟩::rest) e w:=
 .val (by simp [execOp,hx,hy,eqGuard,binOp,Op.intDiv,IntWalk.i64_quo _ _ hr,show j≠0 by omega]) hb hK
theorem ob(hx:ev e x=aj i)(hy:ev e y=aj j)(hb:Nat.blt d N=true)(hr:0<=i/\1<=j)(hK:ak P N ops K rest (bC e d (aj (i%j))) w):
 ak P N ops K (⟨some d,.binOp .rem xt x y yt,ty,pos,af,none⟩::rest) e w:=
 .val (by simp [execOp,hx,hy,eqGuard,binOp,Op.intDiv,Int.tmod_eq_emod_of_nonneg hr.1,show j≠0 by omega]) hb hK
theorem ak.lss{k:IntKind}(hx:ev e x= .int k i)(hy:ev e y= .int k j)(hb:Nat.blt d N=true)(hK:ak P N ops K rest (bC e d (.bool (decide (i<j)))) w):
 ak P N ops K (⟨some d,.binOp .lss xt x y yt,ty,pos,af,none⟩::rest) e w:= .val (by simp [execOp,hx,hy,eqGuard,binOp,Op.intCmp]) hb hK
theorem ak.leq{k:IntKind}(hx:ev e x= .int k i)(hy:ev e y= .int k j)(hb:Nat.blt d N=true)(hK:ak P N ops K rest (bC e d (.bool (decide (i<=j)))) w):
 ak P N ops K (⟨some d,.binOp .leq xt x y yt,ty,pos,af,none⟩::rest) e w:= .val (by simp [execOp,hx,hy,eqGuard,binOp,Op.intCmp]) hb hK
theorem ak.gtr{k:IntKind}(hx:ev e x= .int k i)(hy:ev e y= .int k j)(hb:Nat.blt d N=true)(hK:ak P N ops K rest (bC e d (.bool (decide (j<i)))) w):
 ak P N ops K (⟨some d,.binOp .gtr xt x y yt,ty,pos,af,none⟩::rest) e w:= .val (by simp [execOp,hx,hy,eqGuard,binOp,Op.intCmp]) hb hK
theorem ak.geq{k:IntKind}(hx:ev e x= .int k i)(hy:ev e y= .int k j)(hb:Nat.blt d N=true)(hK:ak P N ops K rest (bC e d (.bool (decide (j<=i)))) w):
 ak P N ops K (⟨some d,.binOp .geq xt x y yt,ty,pos,af,none⟩::rest) e w:= .val (by simp [execOp,hx,hy,eqGuard,binOp,Op.intCmp]) hb hK
theorem Wn(i j:Int):(i==j)=decide (i=j):=by by_cases h:i=j<;>simp [h]
theorem Wu(i j:Int):(i !=j)=decide (¬i=j):=by by_cases h:i=j<;>simp [h]
theorem ak.eql{k:IntKind}(hx:ev e x= .int k i)(hy:ev e y= .int k j)(hb:Nat.blt d N=true)(hK:ak P N ops K rest (bC e d (.bool (decide (i=j)))) w):
 ak P N ops K (⟨some d,.binOp .eql xt x y yt,ty,pos,af,none⟩::rest) e w:= .val (by rw [<-Wn];simp [execOp,hx,hy,eqGuard,binOp,Op.intCmp]) hb hK
theorem ak.neq{k:IntKind}(hx:ev e x= .int k i)(hy:ev e y= .int k j)(hb:Nat.blt d N=true)(hK:ak P N ops K rest (bC e d (.bool (decide (¬i=j)))) w):
 ak P N ops K (⟨some d,.binOp .neq xt x y yt,ty,pos,af,none⟩::rest) e w:= .val (by rw [<-Wu];simp [execOp,hx,hy,eqGuard,binOp,Op.intCmp]) hb hK
theorem dV{b:Bool}(hx:ev e x= .bool b)(hb:Nat.blt d N=true)(hK:ak P N ops K rest (bC e d (.bool (!b))) w):
 ak P N ops K (⟨some d,.unOp .not xt x,ty,pos,af,none⟩::rest) e w:= .val (by simp [execOp,hx,Op.unary]) hb hK
theorem de{p:Prop}[Decidable p](hx:ev e x= .bool (decide p))(hb:Nat.blt d N=true)(hK:ak P N ops K rest (bC e d (.bool (decide ¬p))) w):
 ak P N ops K (⟨some d,.unOp .not xt x,ty,pos,af,none⟩::rest) e w:= .val (by simp [execOp,hx,Op.unary]) hb hK
theorem ak.afh{c:ae}{b:Bool}(hc:ev e c= .bool true)(hx:ev e x= .bool b)(hb:Nat.blt d N=true)(hK:ak P N ops K rest (bC e d (.bool b)) w):
 ak P N ops K (⟨some d,.pick c x y,ty,pos,af,none⟩::rest) e w:= .val (by simp [execOp,hc,hx,asBool]) hb hK
theorem ak.afg{c:ae}{b:Bool}(hc:ev e c= .bool false)(hx:ev e y= .bool b)(hb:Nat.blt d N=true)(hK:ak P N ops K rest (bC e d (.bool b)) w):
 ak P N ops K (⟨some d,.pick c x y,ty,pos,af,none⟩::rest) e w:= .val (by simp [execOp,hc,hx,asBool]) hb hK
end
theorem ak.extract{x:ae}{vs:Array ab}{ix:Nat}{v:ab}(hx:ev e x= .tuple vs)(hv:vs[ix]?=some v)(hb:Nat.blt d N=true)(hK:ak P N ops K rest (bC e d v) w):
 ak P N ops K (⟨some d,.extract x ix,ty,pos,af,none⟩::rest) e w:= .val (by simp [execOp,hx,Instr.extract,hv]) hb hK
theorem ba{x:ae}{t el:ad}{A:ai}{n c:Nat}[bP P t (.slice el)](hx:ev e x= .slice A n c)(hb:Nat.blt d N=true)(hK:ak P N ops K rest (bC e d (aj n)) w):
 ak P N ops K (⟨some d,.call ⟨.builtin .len, #[x], #[t]⟩,ty,pos,af,none⟩::rest) e w:=
 .val (by simp [execOp,resolve,invoke,builtin,Builtin.len_,hx,run_underlying (bP.out (P:=P) (t:=t)),goInt]) hb hK
theorem ak.aeQ{x:ae}{a:Addr}(hx:ev e x= .pointer (some a))(hb:Nat.blt d N=true)(hK:ak P N ops K rest (bC e d (.pointer (some a))) w):
 ak P N ops K (⟨some d,.nilCheck x,ty,pos,af,none⟩::rest) e w:= .val (by simp [execOp,hx]) hb hK
def aG(P:Program)(F:FuncId)(vs:List ab)(w:aa)(R:ab->aa->Prop):Prop:=Calls P F vs.toArray w fun x w'=>∃v,x= .returned v/\R v w'
theorem aG.mono{F:FuncId}{vs:List ab}{R R':ab->aa->Prop}(h:aG P F vs w R)(hR:∀v w',R v w'->R' v w'):aG P F vs w R':=
 Calls.mono h fun _ _ ⟨v,he,hv⟩=> ⟨v,he,hR _ _ hv⟩
theorem ajq{f:ae}{F:FuncId}{c2:Array ab}{l:List ae}{vs:List ab}{R:ab->aa->Prop}{M8:Array ad}[hF:bB P F](hC:aG P F vs w R)(hf:ev e f= .func (.func F) #[] c2)(hv:l.map (ev e)++c2.toList=vs)(hb:Nat.blt d N=true)(hK:∀v w',R v w'->ak P N ops K rest (bC e d v) w'):ak P N ops K (⟨some d,.call ⟨.value f,l.toArray,M8⟩,ty,pos,af,none⟩::rest) e w:= .mk' fun a ha=>by
 obtain⟨fn,h1,h2,h3⟩:=hF.out;have o5:(execOp (ev e) ⟨some d,.call ⟨.value f,l.toArray,M8⟩,ty,pos,af,none⟩).run P w= .ok (.enter F vs.toArray) w:=by
  have h4:(l.toArray.map (ev e)++c2)=vs.toArray:=by
   rw [<-hv];simp
  have h5 : ¬ fn.name = "runtime.NumGoroutine" := by simpa using h2
  have h6:¬fn.body=none:=by intro h;rw [h]at h3;cases h3
  simp [execOp,resolve,hf,Deferred.ofValue,invoke,callFunc,h1,h5,h6];exact hv
 refine wpList_plain O fun J hJ=>?_
 unfold Oper.wp;rw [ha.eval,o5];refine Calls.mono hC fun x w' ⟨v,hx,hR⟩=>?_
 subst hx;exact hJ _ _ ((hK v w' hR).run _ (ha.put hb v))
theorem aF{f:ae}{F:FuncId}{c2:Array ab}{l:List ae}{vs:List ab}{R:ab->aa->Prop}{M8:Array ad}[hF:bB P F](hC:aG P F vs w R)(q9:(ev e f,l.map (ev e)++c2.toList,Nat.blt d N)=(.func (.func F) #[] c2,vs,true))(hK:∀v w',R v w'->ak P N ops K rest (bC e d v) w'):ak P N ops K (⟨some d,.call ⟨.value f,l.toArray,M8⟩,ty,pos,af,none⟩::rest) e w:=ajq hC (congrArg (fun p=>p.1) q9) (congrArg (fun p=>p.2.1) q9) (congrArg (fun p=>p.2.2) q9) hK
theorem tQ{K:Env->aa->Prop}{Q:jr}(h:K e w):zw K Q .normal e w:=h
theorem dO{K:Env->aa->Prop}{Q:jr}(h:Q .ret e w):zw K Q .ret e w:=h
theorem bn{K:Env->aa->Prop}{Q:jr}{id:Nat}(h:Q (.exit id) e w):zw K Q (.exit id) e w:=h
def HM(vs:List ab):Env:=fun i=>vs.getD i undef
def LG(R:ab->aa->Prop):jr
 | .normal,_,w=>R (.tuple #[]) w
 | .ret,_,w=>R (.tuple #[]) w
 | _,_,_=>False
def Ej(t:Nat)(R:ab->aa->Prop):jr
 | .normal,e,w=>R (e t) w
 | .ret,e,w=>R (e t) w
 | _,_,_=>False
def B5(t u:Nat)(R:ab->aa->Prop):jr
 | .normal,e,w=>R (.tuple #[e t,e u]) w
 | .ret,e,w=>R (.tuple #[e t,e u]) w
 | _,_,_=>False
theorem afH(vs:List ab)(n:Nat)(h:Nat.ble vs.length n=true):js n ⟨vs.toArray++Array.replicate (n - vs.toArray.size) undef,[]⟩ (HM vs):=by
 have h':vs.length<=n:=by simpa using h
 refine⟨O,by simp;omega,fun i=>?_⟩;simp only [HM];rw [iI,dt,Array.getElem?_append]
 split
 ·simp
 rename_i hi;simp at hi;rw [qy hi,Array.getElem?_replicate]
 split<;>rfl
theorem ck{R:ab->aa->Prop}{t:Nat}{b:Bool}(h:e t= .bool b)(hR:R (.bool b) w):Ej t R .ret e w:=by show R (e t) w;rw [h];exact hR
theorem iY{R:ab->aa->Prop}{t:Nat}{k:IntKind}{i:Int}(h:e t= .int k i)(hR:R (.int k i) w):Ej t R .ret e w:=by show R (e t) w;rw [h];exact hR
theorem fb{R:ab->aa->Prop}{t:Nat}{A:ai}{n c:Nat}(h:e t= .slice A n c)(hR:R (.slice A n c) w):Ej t R .ret e w:=by show R (e t) w;rw [h];exact hR
theorem Ek{R:ab->aa->Prop}{t:Nat}{v:ab}(h:e t=v)(hR:R v w):Ej t R .ret e w:=by show R (e t) w;rw [h];exact hR
theorem afK{R:ab->aa->Prop}(hR:R (.tuple #[]) w):LG R .ret e w:=hR
theorem afJ{R:ab->aa->Prop}(hR:R (.tuple #[]) w):LG R .normal e w:=hR
theorem rh{R:ab->aa->Prop}{t u:Nat}{A:ai}{n c:Nat}{k:IntKind}{i:Int}(h:e t= .slice A n c)(h2:e u= .int k i)(hR:R (.tuple #[.slice A n c,.int k i]) w):B5 t u R .ret e w:=by show R (.tuple #[e t,e u]) w;rw [h,h2];exact hR
theorem zp{R:ab->aa->Prop}{t u:Nat}{k':IntKind}{j:Int}{k:IntKind}{i:Int}(h:e t= .int k' j)(h2:e u= .int k i)(hR:R (.tuple #[.int k' j,.int k i]) w):B5 t u R .ret e w:=by show R (.tuple #[e t,e u]) w;rw [h,h2];exact hR
theorem B6{R:ab->aa->Prop}{t u:Nat}{b:Bool}{k:IntKind}{i:Int}(h:e t= .bool b)(h2:e u= .int k i)(hR:R (.tuple #[.bool b,.int k i]) w):B5 t u R .ret e w:=by show R (.tuple #[e t,e u]) w;rw [h,h2];exact hR
theorem afL{R:ab->aa->Prop}{t u:Nat}{A:ai}{n c:Nat}{b:Bool}(h:e t= .slice A n c)(h2:e u= .bool b)(hR:R (.tuple #[.slice A n c,.bool b]) w):B5 t u R .ret e w:=by show R (.tuple #[e t,e u]) w;rw [h,h2];exact hR
theorem bw{F:FuncId}{fn:Func}{c:Code}{vs:List ab}{R:ab->aa->Prop}{Q:jr}(hf:P.funcs[F]?=some fn)(hc:fn.body=some c)(hn:fn.ntmps=N)(hl:Nat.ble vs.length N=true)(hQ:∀x a e w,js N a e->Q x e w->bodyPost P fn (fun x w'=>∃v,x= .returned v/\R v w') x a w)(h:Cd P N c Q (HM vs) w):aG P F vs w R:=by
 subst hn;exact calls_of_wp hf hc (wp_mono (h.run _ (afH vs _ hl)) fun x a w ⟨e,he,q⟩=>hQ x a e w he q)
theorem afq{fn:Func}{R:ab->aa->Prop}(hr:fn.results= #[]):∀x a e w,js N a e->LG R x e w->bodyPost P fn (fun x w'=>∃v,x= .returned v/\R v w') x a w:=by
 intro x a e w he q;cases x<;>first
  | exact q.elim
  | exact⟨he.defers,_,results_none hr _ _ _,_,rfl,q⟩
theorem b7{fn:Func}{R:ab->aa->Prop}{t:Nat}(hr:fn.results= #[.tmp t]):∀x a e w,js N a e->Ej t R x e w->bodyPost P fn (fun x w'=>∃v,x= .returned v/\R v w') x a w:=by
 intro x a e w he q;have hg:=he.get t;cases x<;>first
  | exact q.elim
  | exact⟨he.defers,_,results_tmp hr _ _ _,_,rfl,by rw [hg];exact q⟩
theorem oF{fn:Func}{R:ab->aa->Prop}{t u:Nat}(hr:fn.results= #[.tmp t,.tmp u]):∀x a e w,js N a e->B5 t u R x e w->bodyPost P fn (fun x w'=>∃v,x= .returned v/\R v w') x a w:=by
 intro x a e w he q;have hg:=he.get t;have hh:=he.get u;cases x<;>first
  | exact q.elim
  | exact⟨he.defers,_,results_tmp2 hr _ _ _,_,rfl,by rw [hg,hh];exact q⟩
end
def hd:ab->Option ab
 | .int k n=>some (.int k n)
 | .slice a n c=>some (.slice a n c)
 | .bool b=>some (.bool b)
 | .pointer a=>some (.pointer a)
 | .agg cs=>some (.agg cs)
 | .func f a b=>some (.func f a b)
 | .tuple cs=>some (.tuple cs)
 | .string s=>some (.string s)
 | .map r=>some (.map r)
 | _=>none
theorem JP{v u:ab}(h:hd v=some u):v=u:=by cases v<;>simp [hd]at h<;>exact h
def Lf(e:Env)(x y:ae):Option ab:=
 match ev e x,ev e y with
 | .int .i64 a,.int .i64 b=>some (.bool (decide (a<b)))
 | _,_=>none
theorem aev{e:Env}{x y:ae}{v:ab}(h:Lf e x y=some v):∃a b,ev e x=aj a/\ev e y=aj b/\v= .bool (decide (a<b)):=by
 unfold Lf at h
 split at h
 ·rename_i a b h1 h2;exact⟨a,b,h1,h2,(bj h).symm⟩
 cases h
def K9(e:Env)(x y:ae):Option ab:=
 match ev e x,ev e y with
 | .int .i64 a,.int .i64 b=>some (.bool (decide (a<=b)))
 | _,_=>none
theorem aen{e:Env}{x y:ae}{v:ab}(h:K9 e x y=some v):∃a b,ev e x=aj a/\ev e y=aj b/\v= .bool (decide (a<=b)):=by
 unfold K9 at h
 split at h
 ·rename_i a b h1 h2;exact⟨a,b,h1,h2,(bj h).symm⟩
 cases h
def I0(e:Env)(x y:ae):Option ab:=
 match ev e x,ev e y with
 | .int .i64 a,.int .i64 b=>some (.bool (decide (b<a)))
 | _,_=>none
theorem Yi{e:Env}{x y:ae}{v:ab}(h:I0 e x y=some v):∃a b,ev e x=aj a/\ev e y=aj b/\v= .bool (decide (b<a)):=by
 unfold I0 at h
 split at h
 ·rename_i a b h1 h2;exact⟨a,b,h1,h2,(bj h).symm⟩
 cases h
def IJ(e:Env)(x y:ae):Option ab:=
 match ev e x,ev e y with
 | .int .i64 a,.int .i64 b=>some (.bool (decide (b<=a)))
 | _,_=>none
theorem X2{e:Env}{x y:ae}{v:ab}(h:IJ e x y=some v):∃a b,ev e x=aj a/\ev e y=aj b/\v= .bool (decide (b<=a)):=by
 unfold IJ at h
 split at h
 ·rename_i a b h1 h2;exact⟨a,b,h1,h2,(bj h).symm⟩
 cases h
def Iw(e:Env)(x y:ae):Option ab:=
 match ev e x,ev e y with
 | .int .i64 a,.int .i64 b=>some (.bool (decide (a=b)))
 | _,_=>none
theorem Xy{e:Env}{x y:ae}{v:ab}(h:Iw e x y=some v):∃a b,ev e x=aj a/\ev e y=aj b/\v= .bool (decide (a=b)):=by
 unfold Iw at h
 split at h
 ·rename_i a b h1 h2;exact⟨a,b,h1,h2,(bj h).symm⟩
 cases h
def Lo(e:Env)(x y:ae):Option ab:=
 match ev e x,ev e y with
 | .int .i64 a,.int .i64 b=>some (.bool (decide (¬a=b)))
 | _,_=>none
theorem aeO{e:Env}{x y:ae}{v:ab}(h:Lo e x y=some v):∃a b,ev e x=aj a/\ev e y=aj b/\v= .bool (decide (¬a=b)):=by
 unfold Lo at h
 split at h
 ·rename_i a b h1 h2;exact⟨a,b,h1,h2,(bj h).symm⟩
 cases h
def LW(e:Env):Op->Option ab
 | .move x=>hd (ev e x)
 | .assign x=>hd (ev e x)
 | .binOp .lss _ x y _=>Lf e x y
 | .binOp .leq _ x y _=>K9 e x y
 | .binOp .gtr _ x y _=>I0 e x y
 | .binOp .geq _ x y _=>IJ e x y
 | .binOp .eql _ x y _=>Iw e x y
 | .binOp .neq _ x y _=>Lo e x y
 | .extract x i=>match ev e x with
  | .tuple vs=> (match vs[i]? with
   | some v=>hd v
   | none=>none)
  | _=>none
 | .pick c x y=>match ev e c with
  | .bool true=> (match ev e x with
   | .bool b=>some (.bool b)
   | _=>none)
  | .bool false=> (match ev e y with
   | .bool b=>some (.bool b)
   | _=>none)
  | _=>none
 | _=>none
def rm(N:Nat)(e:Env)(o:Oper):Option (Nat×ab):=
 match o.guard,o.dst with
 | none,some d=> (match Nat.blt d N with
  | true=> (match LW e o.op with
   | some v=>some (d,v)
   | none=>none)
  | false=>none)
 | _,_=>none
def zM(N:Nat):List Oper->Env->List Oper×Env
 | [],e=> ([],e)
 | o::l,e=>match rm N e o with
  | some (d,v)=>zM N l (bC e d v)
  | none=> (o::l,e)
section
variable {P:Program} {N:Nat} {ops:Array Oper} {K:Env->aa->Prop} {e:Env} {w:aa}
theorem ak.rm{o:Oper}{l:List Oper}{d:Nat}{v:ab}(h:rm N e o=some (d,v))(hK:ak P N ops K l (bC e d v) w):ak P N ops K (o::l) e w:=by
 obtain⟨dst,op,ty,pos,af,gd⟩:=o;unfold Vc.rm at h
 split at h
 ·rename_i d' hg ug;simp only at hg ug;subst hg ug
  split at h
  ·rename_i hb
   split at h
   ·rename_i v' hv;simp only [mh,Prod.mk.injEq]at h;obtain⟨rfl,rfl⟩:=h;replace hv:LW e op=some v':=hv;unfold LW at hv
    split at hv
    ·exact .mv O (JP hv) hb hK
    ·exact .mv O (JP hv) hb hK
    ·obtain⟨a,b,h1,h2,rfl⟩:=aev hv;exact .lss h1 h2 hb hK
    ·obtain⟨a,b,h1,h2,rfl⟩:=aen hv;exact .leq h1 h2 hb hK
    ·obtain⟨a,b,h1,h2,rfl⟩:=Yi hv;exact .gtr h1 h2 hb hK
    ·obtain⟨a,b,h1,h2,rfl⟩:=X2 hv;exact .geq h1 h2 hb hK
    ·obtain⟨a,b,h1,h2,rfl⟩:=Xy hv;exact .eql h1 h2 hb hK
    ·obtain⟨a,b,h1,h2,rfl⟩:=aeO hv;exact .neq h1 h2 hb hK
    ·split at hv
     ·rename_i h1
      split at hv
      ·rename_i h2;exact .extract h1 (by rw [h2,JP hv]) hb hK
      cases hv
     cases hv
    ·split at hv
     ·rename_i h1
      split at hv
      ·rename_i b h2;obtain rfl:=bj hv;exact .afh h1 h2 hb hK
      cases hv
     ·rename_i h1
      split at hv
      ·rename_i b h2;obtain rfl:=bj hv;exact .afg h1 h2 hb hK
      cases hv
     cases hv
    cases hv
   cases h
  cases h
 cases h
theorem HH:∀ {l:List Oper} {e:Env},ak P N ops K (zM N l e).1 (zM N l e).2 w->ak P N ops K l e w
 | [],_,h=>h
 | o::l,e,h=>by
  unfold zM at h
  split at h
  ·rename_i d v hs;exact .rm hs (HH h)
  ·exact h
end
inductive Fr where
 | s (c:Code)
 | b (id:Nat)
def Qk(P:Program)(N:Nat)(Q:jr):List Fr->jr
 | []=>Q
 | .s y::r=>zw (Cd P N y (Qk P N Q r)) (Qk P N Q r)
 | .b id::r=>HU id (Qk P N Q r)
def BV:List Fr->Option (Code×List Fr)
 | []=>none
 | .s y::r=>some (y,r)
 | .b _::r=>BV r
def BW(id:Nat):List Fr->Option (List Fr)
 | []=>none
 | .s _::r=>BW id r
 | .b i::r=>match Nat.beq id i with
  | true=>some r
  | false=>BW id r
inductive zK where
 | c (c:Code) (s:List Fr) (e:Env)
 | o (ops:Array Oper) (l:List Oper) (s:List Fr) (e:Env)
 | n (e:Env)
 | r (e:Env)
 | x (id:Nat) (e:Env)
def zK.ok(P:Program)(N:Nat)(Q:jr)(w:aa):zK->Prop
 | .c y s e=>Cd P N y (Qk P N Q s) e w
 | .o ops l s e=>ak P N ops (fun e w=>Qk P N Q s .normal e w) l e w
 | .n e=>Q .normal e w
 | .r e=>Q .ret e w
 | .x id e=>Q (.exit id) e w
def run(N:Nat):Nat->Code->List Fr->Env->zK
 | 0,c,s,e=> .c c s e
 | n+1,c,s,e=>match c with
  | .seq x y=>run N n x (.s y::s) e
  | .block id x=>run N n x (.b id::s) e
  | .region id ops dr=>match dr with
   | true=> .c (.region id ops true) s e
   | false=>match zM N ops.toList e with
    | ([],e')=> (match BV s with
     | none=> .n e'
     | some (y,r)=>run N n y r e')
    | (o::l,e')=> .o ops (o::l) s e'
  | .skip=> (match BV s with
   | none=> .n e
   | some (y,r)=>run N n y r e)
  | .ret=> .r e
  | .exit id=> (match BW id s with
   | none=> .x id e
   | some s'=> (match BV s' with
    | none=> .n e
    | some (y,r)=>run N n y r e))
  | c=> .c c s e
def runN(N n:Nat)(s:List Fr)(e:Env):zK:=match BV s with
 | none=> .n e
 | some (y,r)=>run N n y r e
def B8(N n id:Nat)(s:List Fr)(e:Env):zK:=match BW id s with
 | none=> .x id e
 | some s'=>runN N n s' e
def zv(N n:Nat)(ops:Array Oper)(l:List Oper)(s:List Fr)(e:Env):zK:=match zM N l e with
 | ([],e')=>runN N n s e'
 | (o::l,e')=> .o ops (o::l) s e'
section
variable{id i1:Nat}{ops o1:Array Oper}{s1:List Fr}{e1:Env}{l1:List Oper}{c1:Code}
variable {P:Program} {N:Nat} {Q:jr} {e:Env} {w:aa}
theorem Eh:∀ {s:List Fr},(match BV s with | none=>Q .normal e w | some (y,r)=>Cd P N y (Qk P N Q r) e w)->Qk P N Q s .normal e w
 | [],h=>h
 | .s _::_,h=>h
 | .b _::r,h=>Eh (s:=r) h
theorem GR{id:Nat}:∀ {s:List Fr},(match BW id s with | none=>Q (.exit id) e w | some r=>Qk P N Q r .normal e w)->Qk P N Q s (.exit id) e w
 | [],h=>h
 | .s _::r,h=>GR (s:=r) h
 | .b i::r,h=>by
  unfold BW at h;show(if id=i then _ else _);cases hb:Nat.beq id i with
  | true=>rw [aT (mO hb)];rw [hb]at h;exact h
  | false=>
   rw [aR (fun e=>by rw [e,Nat.beq_refl]at hb;cases hb)];rw [hb]at h;exact GR (s:=r) h
theorem dJ:∀ {s:List Fr},Q .ret e w->Qk P N Q s .ret e w
 | [],h=>h
 | .s _::r,h=>dJ (s:=r) h
 | .b _::r,h=>dJ (s:=r) h
theorem Cd.afF{Q:jr}(h:ak P N ops (fun e w=>Q .normal e w) ops.toList e w):Cd P N (.region id ops false) Q e w:=by
 have:=Cd.region (P:=P) (N:=N) (Q:=Q) (id:=id) (l:=ops.toList) (e:=e) (w:=w) (by rw [Array.toArray_toList];exact h)
 rwa [Array.toArray_toList]at this
theorem oH:∀ {n:Nat} {c:Code} {s:List Fr} {e:Env},(run N n c s e).ok P N Q w->Cd P N c (Qk P N Q s) e w
 | 0,_,_,_,h=>h
 | n+1,c,s,e,h=>by
  unfold run at h
  split at h
  ·exact .seq (oH h)
  ·exact .block (oH h)
  ·split at h
   ·exact h
   ·refine .afF (HH ?_)
    split at h
    ·rename_i he;rw [he];refine ak.n (Eh ?_)
     split at h
     ·exact h
     ·exact oH h
    ·rename_i he;rw [he];exact h
  ·refine .skip (Eh ?_)
   split at h
   ·exact h
   ·exact oH h
  ·exact .ret (dJ h)
  ·refine .exit (GR ?_)
   split at h
   ·exact h
   ·refine Eh ?_
    split at h
    ·exact h
    ·exact oH h
  ·exact h
theorem zu{n:Nat}{s:List Fr}{e:Env}(h:(runN N n s e).ok P N Q w):Qk P N Q s .normal e w:=by
 unfold runN at h;refine Eh ?_
 split at h
 ·exact h
 exact oH h
theorem G3{n:Nat}{s:List Fr}{e:Env}(h:(B8 N n id s e).ok P N Q w):Qk P N Q s (.exit id) e w:=by
 unfold B8 at h;refine GR ?_
 split at h
 ·exact h
 exact zu h
theorem Em{n:Nat}{l:List Oper}{s:List Fr}{e:Env}(h:(zv N n ops l s e).ok P N Q w):ak P N ops (fun e w=>Qk P N Q s .normal e w) l e w:=by
 unfold zv at h;refine HH ?_
 split at h
 ·rename_i he;rw [he];exact ak.n (zu h)
 rename_i he;rw [he];exact h
theorem yf{s:List Fr}{F:List (Nat×ab)}(hM:Mt e F)(h:Qk P N Q s .normal (ext e F) w):Qk P N Q s .normal e w:=by rwa [yo hM]at h
theorem cW{c:Code}{s:List Fr}(h:run N 1000 c s e= .c c1 s1 e1)(k:Cd P N c1 (Qk P N Q s1) e1 w):Cd P N c (Qk P N Q s) e w:=oH (n:=1000) (by rw [h];exact k)
theorem aD{c:Code}{s:List Fr}(h:run N 1000 c s e= .o o1 l1 s1 e1)(k:ak P N o1 (fun e w=>Qk P N Q s1 .normal e w) l1 e1 w):Cd P N c (Qk P N Q s) e w:=oH (n:=1000) (by rw [h];exact k)
theorem mN{c:Code}{s:List Fr}(h:run N 1000 c s e= .n e1)(k:Q .normal e1 w):Cd P N c (Qk P N Q s) e w:=oH (n:=1000) (by rw [h];exact k)
theorem dB{c:Code}{s:List Fr}(h:run N 1000 c s e= .r e1)(k:Q .ret e1 w):Cd P N c (Qk P N Q s) e w:=oH (n:=1000) (by rw [h];exact k)
theorem bo{c:Code}{s:List Fr}(h:run N 1000 c s e= .x i1 e1)(k:Q (.exit i1) e1 w):Cd P N c (Qk P N Q s) e w:=oH (n:=1000) (by rw [h];exact k)
theorem wm(n:Nat){c:Code}{s:List Fr}(h:run N n c s e= .c c1 s1 e1)(k:Cd P N c1 (Qk P N Q s1) e1 w):Cd P N c (Qk P N Q s) e w:=oH (n:=n) (by rw [h];exact k)
theorem b8{c:Code}(h:run N 1000 c [] e= .c c1 s1 e1)(k:Cd P N c1 (Qk P N Q s1) e1 w):Cd P N c Q e w:=oH (s:=[]) (n:=1000) (by rw [h];exact k)
theorem bb{c:Code}(h:run N 1000 c [] e= .o o1 l1 s1 e1)(k:ak P N o1 (fun e w=>Qk P N Q s1 .normal e w) l1 e1 w):Cd P N c Q e w:=oH (s:=[]) (n:=1000) (by rw [h];exact k)
theorem MA{c:Code}(h:run N 1000 c [] e= .r e1)(k:Q .ret e1 w):Cd P N c Q e w:=oH (s:=[]) (n:=1000) (by rw [h];exact k)
theorem Mz(n:Nat){c:Code}(h:run N n c [] e= .c c1 s1 e1)(k:Cd P N c1 (Qk P N Q s1) e1 w):Cd P N c Q e w:=oH (s:=[]) (n:=n) (by rw [h];exact k)
theorem az{l:List Oper}{s:List Fr}(h:zv N 1000 ops l s e= .c c1 s1 e1)(k:Cd P N c1 (Qk P N Q s1) e1 w):ak P N ops (fun e w=>Qk P N Q s .normal e w) l e w:=Em (n:=1000) (by rw [h];exact k)
theorem aq{l:List Oper}{s:List Fr}(h:zv N 1000 ops l s e= .o o1 l1 s1 e1)(k:ak P N o1 (fun e w=>Qk P N Q s1 .normal e w) l1 e1 w):ak P N ops (fun e w=>Qk P N Q s .normal e w) l e w:=Em (n:=1000) (by rw [h];exact k)
theorem aS{l:List Oper}{s:List Fr}(h:zv N 1000 ops l s e= .n e1)(k:Q .normal e1 w):ak P N ops (fun e w=>Qk P N Q s .normal e w) l e w:=Em (n:=1000) (by rw [h];exact k)
theorem bD{l:List Oper}{s:List Fr}(h:zv N 1000 ops l s e= .r e1)(k:Q .ret e1 w):ak P N ops (fun e w=>Qk P N Q s .normal e w) l e w:=Em (n:=1000) (by rw [h];exact k)
theorem zC(n:Nat){l:List Oper}{s:List Fr}(h:zv N n ops l s e= .c c1 s1 e1)(k:Cd P N c1 (Qk P N Q s1) e1 w):ak P N ops (fun e w=>Qk P N Q s .normal e w) l e w:=Em (n:=n) (by rw [h];exact k)
theorem fv{s:List Fr}(h:runN N 1000 s e= .c c1 s1 e1)(k:Cd P N c1 (Qk P N Q s1) e1 w):Qk P N Q s .normal e w:=zu (n:=1000) (by rw [h];exact k)
theorem fJ{s:List Fr}(h:runN N 1000 s e= .o o1 l1 s1 e1)(k:ak P N o1 (fun e w=>Qk P N Q s1 .normal e w) l1 e1 w):Qk P N Q s .normal e w:=zu (n:=1000) (by rw [h];exact k)
theorem Hr{s:List Fr}(h:runN N 1000 s e= .n e1)(k:Q .normal e1 w):Qk P N Q s .normal e w:=zu (n:=1000) (by rw [h];exact k)
theorem Cv{s:List Fr}(h:runN N 1000 s e= .r e1)(k:Q .ret e1 w):Qk P N Q s .normal e w:=zu (n:=1000) (by rw [h];exact k)
theorem UA{s:List Fr}(h:runN N 1000 s e= .x i1 e1)(k:Q (.exit i1) e1 w):Qk P N Q s .normal e w:=zu (n:=1000) (by rw [h];exact k)
theorem nY{i:Nat}{s:List Fr}(h:B8 N 1000 i s e= .c c1 s1 e1)(k:Cd P N c1 (Qk P N Q s1) e1 w):Qk P N Q s (.exit i) e w:=G3 (n:=1000) (by rw [h];exact k)
theorem cJ{i:Nat}{s:List Fr}(h:B8 N 1000 i s e= .o o1 l1 s1 e1)(k:ak P N o1 (fun e w=>Qk P N Q s1 .normal e w) l1 e1 w):Qk P N Q s (.exit i) e w:=G3 (n:=1000) (by rw [h];exact k)
theorem zD{i:Nat}{s:List Fr}(h:B8 N 1000 i s e= .n e1)(k:Q .normal e1 w):Qk P N Q s (.exit i) e w:=G3 (n:=1000) (by rw [h];exact k)
theorem eG{i:Nat}{s:List Fr}(h:B8 N 1000 i s e= .r e1)(k:Q .ret e1 w):Qk P N Q s (.exit i) e w:=G3 (n:=1000) (by rw [h];exact k)
end
def Vz:Prop:=False
structure Below(B:Nat)(w w':aa):Prop extends Go.RowKit.Below B w w' where
 drawn:Vz->w.drawn<=w'.drawn
theorem Below.refl(B:Nat)(w:aa):Below B w w:=⟨Go.RowKit.Below.refl B w,fun _=>dC _⟩
theorem Below.trans{B:Nat}{a b c:aa}(h:Below B a b)(k:Below B b c):Below B a c:=⟨h.toBelow.trans k.toBelow,fun s=>iS (h.drawn s) (k.drawn s)⟩
theorem Below.mono{B B':Nat}{w w':aa}(h:Below B w w')(hB:B'<=B):Below B' w w':=⟨h.toBelow.mono hB,h.drawn⟩
theorem Below.drew{B:Nat}{a w:aa}(h:Below B a w):Below B a w.drew:=⟨h.toBelow.drew,fun s=>Nat.le_succ_of_le (h.drawn s)⟩
theorem Below.alloc{B:Nat}{a w:aa}(h:Below B a w)(hB:B<=w.heap.size)(o:Obj):Below B a (w.alloc o):=⟨h.toBelow.alloc hB o,h.drawn⟩
structure Cw(w w':aa)(row:Option Nat):Prop where
 g:w.grownBy w' row
 drawn:w.drawn<=w'.drawn
theorem Below.grown{B:Nat}{a w w':aa}{row:Option Nat}(h:Below B a w)(hg:Cw w w' row)(hB:B<=w.heap.size)(hr:∀k,row=some k->B<=k):Below B a w':=⟨h.toBelow.grown hg.g hB hr,fun s=>iS (h.drawn s) hg.drawn⟩
def aB(A:ai)(k:Nat):ai:=A.map (·.add k)
def Rd(w:aa)(A:ai)(n:Nat)(f:Nat->ab):Prop:=∀k,k<n->∃p,aB A k=some p/\w.cell? p=some (f k)
structure Ck where
 A:ai
 n:Nat
 c:Nat
 e:ad
 vs:List ab
def Ck.il(k:Ck):Option Nat:=k.A.map (·.block)
def pE:List (ab×ab)->List ab
 | []=> []
 | p::r=>p.1::p.2::pE r
theorem Oo:∀ {a b:List (ab×ab)},pE a=pE b->a=b
 | [],[],_=>rfl
 | [],_::_,h=>by simp [pE]at h
 | _::_,[],h=>by simp [pE]at h
 | (x,y)::a,(x',y')::b,h=>by
  simp only [pE,List.cons.injEq]at h;rw [h.1,h.2.1,Oo h.2.2]
def eT:List ab->Bool
 | .tuple _::_=>true
 | _=>false
theorem Gs{v:ab}{r:List ab}(h:v.oneCell'=true):eT (v::r)=false:=by
 cases v<;>simp_all [eT,Value.oneCell']
theorem vL{l:List ab}(h:∀v∈l,v.oneCell'=true):eT l=false:=by
 cases l with
 | nil=>rfl
 | cons v r=>exact Gs (h v (by simp))
theorem RF{a b:List ab}(ha:eT a=false)(hb:eT b=false):eT (a++b)=false:=by
 cases a with
 | nil=>exact hb
 | cons v r=>cases v<;>simp_all [eT]
theorem D7{a b:List ab}(ha:eT a=false)(h:a≠[]):eT (a++b)=false:=by
 cases a with
 | nil=>exact absurd rfl h
 | cons v r=>cases v<;>simp_all [eT]
theorem RH{a:List ab}(m:Nat)(ha:eT a=false):eT (a.take m)=false:=by
 cases a with
 | nil=>simp [eT]
 | cons v r=>
  cases m with
  | zero=>rfl
  | succ m=>cases v<;>simp_all [eT]
theorem acL{a:List ab}(j:Nat){u:ab}(ha:eT a=false)(hu:u.oneCell'=true):eT (a.set j u)=false:=by
 cases a with
 | nil=>rfl
 | cons v r=>
  cases j with
  | zero=>exact Gs hu
  | succ m=>cases v<;>simp_all [eT]
theorem RG{z:ab}(n:Nat)(hz:z.oneCell'=true):eT (List.replicate n z)=false:=vL fun v hv=>by rw [(List.mem_replicate.1 hv).2];exact hz
def CI(B:Nat)(w:aa)(k:Ck):Prop:=
 k.vs.length=k.n/\k.n<=k.c/\k.c<=maxLen/\
 ((k.A=none/\k.c=0)\/∃g o cur,k.A=some ⟨g,o,none⟩/\B<=g/\w.heap[g]?=some (.cells cur k.e (0,0))/\o+k.c<=cur.size/\∀j,j<k.n->cur[o+j]?=k.vs[j]?)
def sv(es:Array MapEntry)(cl:Nat):Prop:=(∀x∈es.toList,x.born<cl)/\(es.toList.map (·.born)).Nodup
def pF:List MapEntry->List ab
 | []=> []
 | x::r=>x.key::x.val:: .int .i64 (x.born:Int)::pF r
def UP:Obj->List ab->Prop
 | .map es cl,vs=>sv es cl/\(vs= .tuple #[]::pE (es.toList.map fun e=> (e.key,e.val))\/vs= .tuple #[.int .i64 (cl:Int)]::pF es.toList)
 | .mapIter m since seen c0,vs=>c0=since/\∃bm,m=some bm/\vs= .tuple #[.map (some bm),.int .i64 (since:Int)]::seen.toList.map fun b:Nat=> .int .i64 (b:Int)
 | _,_=>False
def HC(B:Nat)(w:aa)(k:Ck):Prop:=
 k.n=0/\k.c=0/\∃g o,k.A=some ⟨g,0,none⟩/\B<=g/\w.heap[g]?=some o/\UP o k.vs
def Own(B:Nat)(w:aa)(k:Ck):Prop:=if eT k.vs=true then HC B w k else CI B w k
theorem Own.qj{B:Nat}{w:aa}{k:Ck}(hm:eT k.vs=false)(h:CI B w k):Own B w k:=by unfold Own;rw [if_neg (by simp [hm])];exact h
theorem Own.toC{B:Nat}{w:aa}{k:Ck}(hm:eT k.vs=false)(h:Own B w k):CI B w k:=by unfold Own at h;rwa [if_neg (by simp [hm])]at h
theorem Own.cases{B:Nat}{w:aa}{k:Ck}(h:Own B w k):(eT k.vs=true/\HC B w k)\/(eT k.vs=false/\CI B w k):=by
 unfold Own at h
 split at h
 ·rename_i hm;exact .inl ⟨hm,h⟩
 rename_i hm;exact .inr ⟨by simpa using hm,h⟩
theorem Own.ofM{B:Nat}{w:aa}{k:Ck}(hm:eT k.vs=true)(h:HC B w k):Own B w k:=by unfold Own;rw [if_pos hm];exact h
structure St(w0 w:aa)(ks:List Ck):Prop where
 below:Below w0.heap.size w0 w
 own:∀k∈ks,Own w0.heap.size w k
 apart:(ks.filterMap Ck.il).Nodup
theorem zL{g o:Nat}(k:Nat):(⟨g,o,none⟩:Addr).add k=⟨g,o+k,none⟩:=by unfold Addr.add;split<;>simp_all
section
variable{B' j:Nat}{ks':List Ck}
variable {w0 w w':aa} {ks:List Ck} {k:Ck} {B:Nat}
theorem Own.rd(h:Own B w k):Rd w k.A k.n (fun j=>k.vs.getD j undef):=by
 rcases h.cases with⟨_,hn,_⟩ | ⟨_,h1,h2,h3,h4⟩
 ·intro j hj;omega
 intro j hj;rcases h4 with⟨_,h0⟩ | ⟨g,o,cur,hA,hg,hh,hs,hc⟩
 ·omega
 refine⟨⟨g,o+j,none⟩,by simp [aB,hA,zL],?_⟩;simp only [World.cell?,hh];rw [hc j hj];simp [dt,fU (show j<k.vs.length by omega)]
theorem Own.mono(h:Own B w k)(hB:B'<=B):Own B' w k:=by
 rcases h.cases with⟨hm,hn,hc,g,o,hA,hg,r⟩ | ⟨hm,h1,h2,h3,h4⟩
 ·exact .ofM hm ⟨hn,hc,g,o,hA,by omega,r⟩
 refine .qj hm ⟨h1,h2,h3,?_⟩;rcases h4 with h0 | ⟨g,o,cur,hA,hg,r⟩
 ·exact .inl h0
 exact .inr ⟨g,o,cur,hA,by omega,r⟩
theorem Own.keep(h:Own B w k)(hb:∀g,k.il=some g->w'.heap[g]?=w.heap[g]?):Own B w' k:=by
 rcases h.cases with⟨hm,hn,hc,g,o,hA,hg,hh,r⟩ | ⟨hm,h1,h2,h3,h4⟩
 ·exact .ofM hm ⟨hn,hc,g,o,hA,hg,by rw [hb g (by simp [Ck.il,hA])];exact hh,r⟩
 refine .qj hm ⟨h1,h2,h3,?_⟩;rcases h4 with h0 | ⟨g,o,cur,hA,hg,hh,r⟩
 ·exact .inl h0
 exact .inr ⟨g,o,cur,hA,hg,by rw [hb g (by simp [Ck.il,hA])];exact hh,r⟩
theorem Own.lt(h:Own B w k){g:Nat}(hg:k.il=some g):B<=g/\g<w.heap.size:=by
 rcases h.cases with⟨hm,hn,hc,g',o,hA,rZ,hh,r⟩ | ⟨hm,h1,h2,h3,h4⟩
 ·simp [Ck.il,hA]at hg;subst hg;exact⟨rZ,(Array.getElem?_eq_some_iff.1 hh).1⟩
 rcases h4 with⟨h0,_⟩ | ⟨g',o,cur,hA,rZ,hh,r⟩
 ·simp [Ck.il,h0]at hg
 simp [Ck.il,hA]at hg;subst hg;exact⟨rZ,(Array.getElem?_eq_some_iff.1 hh).1⟩
theorem Own.cap(h:Own B w k):k.n<=k.c/\k.c<=maxLen:=by
 rcases h.cases with⟨_,hn,hc,_⟩ | ⟨_,_,h2,h3,_⟩
 ·exact⟨by omega,by rw [hc];exact bu _⟩
 exact⟨h2,h3⟩
theorem St.refl(w:aa):St w w []:=⟨Below.refl _ _,(fun _ h=>by cases h),List.nodup_nil⟩
theorem St.get(h:St w0 w ks){i:Nat}(hk:ks[i]?=some k):Own w0.heap.size w k:=h.own k (List.mem_of_getElem? hk)
theorem St.rI(h:St w0 w ks){i:Nat}(hk:ks[i]?=some k)(hm:eT k.vs=false):CI w0.heap.size w k:=(h.get hk).toC hm
theorem St.rd(h:St w0 w ks)(i:Nat)(hk:ks[i]?=some k):Rd w k.A k.n (fun j=>k.vs.getD j undef):=(h.get hk).rd
theorem Rd.lt{A:ai}{n:Nat}{f:Nat->ab}(h:Rd w A n f)(hj:j<n):∃p,aB A j=some p/\p.block<w.heap.size/\w.cell? p=some (f j):=by
 obtain⟨p,hp,hc⟩:=h j hj;exact⟨p,hp,World.block_lt_of_cell? _ _ hc,hc⟩
theorem Rd.below{A:ai}{n:Nat}{f:Nat->ab}(h:Rd w A n f)(hb:Below w.heap.size w w'):Rd w' A n f:=fun j hj=>by
 obtain⟨p,hp,hl,hc⟩:=h.lt hj;exact⟨p,hp,(hb.cell hl).trans hc⟩
theorem St.nj(h:St w0 w ks){A:ai}{n:Nat}{f:Nat->ab}(hR:Rd w0 A n f):Rd w A n f:=hR.below h.below
theorem Rd.congr{A:ai}{n:Nat}{f g:Nat->ab}(h:Rd w A n f)(hf:∀j,j<n->f j=g j):Rd w A n g:=fun j hj=>by
 obtain⟨p,hp,hc⟩:=h j hj;exact⟨p,hp,by rw [hc,hf j hj]⟩
theorem St.ao(h:St w0 w ks)(hb:Below w.heap.size w w'):St w0 w' ks:=
 ⟨h.below.trans (hb.mono h.below.size),fun k hk=> (h.own k hk).keep fun g hg=>hb.block g ((h.own k hk).lt hg).2,h.apart⟩
theorem St.drew(h:St w0 w ks):St w0 w.drew ks:=h.ao (Below.drew (Below.refl _ _))
theorem St.call(h:St w0 w ks)(h':St w w' ks'):St w0 w' (ks'++ks):=by
 have h1:=h.ao h'.below;refine⟨h1.below,fun k hk=>?_,?_⟩
 ·rcases eD.1 hk with hk | hk
  ·exact(h'.own k hk).mono h.below.size
  exact h1.own k hk
 rw [List.filterMap_append,List.nodup_append];refine⟨h'.apart,h.apart,fun a ha b hb=>?_⟩;obtain⟨k,hk,hka⟩:=List.mem_filterMap.1 ha;obtain⟨k',eN,uj⟩:=List.mem_filterMap.1 hb;have l1:=((h'.own k hk).lt hka).1;have l2:=((h.own k' eN).lt uj).2;omega
theorem St.call2(h:St w0 w ks)(h':St w w' ks'):St w0 w' (ks++ks'):=by
 have h1:=h.call h';exact⟨h1.below,fun k hk=>h1.own k ((iK (l₁:=ks') (l₂:=ks)).mem_iff.2 hk),((iK (l₁:=ks') (l₂:=ks)).filterMap _).nodup_iff.1 h1.apart⟩
theorem St.sub(h:St w0 w ks)(hs:ks'.Sublist ks):St w0 w ks':=
 ⟨h.below,fun k hk=>h.own k (hs.subset hk),h.apart.sublist (hs.filterMap _)⟩
theorem St.perm(h:St w0 w ks)(hs:ks.Perm ks'):St w0 w ks':=
 ⟨h.below,fun k hk=>h.own k (hs.mem_iff.2 hk),(hs.filterMap _).nodup_iff.1 h.apart⟩
theorem St.tail(h:St w0 w (k::ks)):St w0 w ks:=h.sub (List.sublist_cons_self _ _)
theorem St.none(h:St w0 w ks):St w0 w []:=h.sub (List.nil_sublist _)
theorem St.swap{k':Ck}(h:St w0 w (k::k'::ks)):St w0 w (k'::k::ks):=h.perm (List.Perm.swap _ _ _)
theorem St.nil(h:St w0 w ks)(e:ad):St w0 w (⟨Option.none,0,0,e,[]⟩::ks):=
 ⟨h.below,fun k hk=>by
  rcases ij.1 hk with rfl | hk
  ·exact .qj O ⟨O,dC _,bu _,.inl ⟨O,O⟩⟩
  exact h.own k hk,h.apart⟩
theorem St.alloc(h:St w0 w ks)(cs:List ab)(e:ad)(hm:cs.length<=maxLen)(hM:eT cs=false):St w0 (w.alloc (.cells cs.toArray e)) (⟨some ⟨w.heap.size,0,Option.none⟩,cs.length,cs.length,e,cs⟩::ks):=by
 have hb:Below w.heap.size w (w.alloc (.cells cs.toArray e)):=(Below.refl _ _).alloc (dC _) _;have h1:=h.ao hb;refine⟨h1.below,fun k hk=>?_,?_⟩
 ·rcases ij.1 hk with rfl | hk
  ·exact .qj hM ⟨O,dC _,hm,.inr ⟨_,0,cs.toArray,O,h.below.size,heap_alloc_new w _,by simp,fun j hj=>by simp⟩⟩
  exact h1.own k hk
 simp only [List.filterMap_cons,Ck.il,Option.map_some,kz];refine⟨fun da=>?_,h.apart⟩;obtain⟨k',eN,uj⟩:=List.mem_filterMap.1 da;have:=((h.own k' eN).lt uj).2;omega
theorem Fj{α β:Type}(f:α->Option β):∀(l:List α) (i:Nat) (a b:α),l[i]?=some a->f b=f a->(l.set i b).filterMap f=l.filterMap f
 | [],_,_,_,h,_=>by simp at h
 | x::l,0,a,b,h,he=>by
  simp at h;subst h;simp [List.filterMap_cons,he]
 | x::l,i+1,a,b,h,he=>by
  simp only [List.getElem?_cons_succ]at h;simp only [List.set_cons_succ,List.filterMap_cons,Fj f l i a b h he]
theorem St.turn{i g:Nat}{k':Ck}(h:St w0 w ks)(hk:ks[i]?=some k)(vw:k.il=some g)(Z9:k'.il=some g)(hw:Cw w w' (some g))(ho:Own w0.heap.size w' k'):St w0 w' (ks.set i k'):=by
 have eL:=(h.get hk).lt vw;refine⟨h.below.grown hw h.below.size (fun x hx=>by cases hx;exact eL.1),fun x hx=>?_,?_⟩
 ·obtain⟨j,hj,rfl⟩:=gj.1 hx;have kF:j<ks.length:=by simpa using hj
  rw [List.getElem_set]
  split
  ·exact ho
  ·rename_i cS;have hm:ks[j]∈ks:=fe _;refine(h.own _ hm).keep fun g' rZ=>hw.g.block g' ((h.own _ hm).lt rZ).2 fun e=>?_
   injection e with e
   subst e;have dI:i<ks.length:=(gw.1 hk).1;have fo:ks[i]=k:=(gw.1 hk).2;exact absurd (show False from by
    have hn:=h.apart;have key:∀(l:List Ck),(l.filterMap Ck.il).Nodup->∀i j (hi:i<l.length) (hj:j<l.length),i≠j->l[i].il=some g'->l[j].il=some g'->False:=by
     intro l
     induction l with
     | nil=>intro _ i j hi;simp at hi
     | cons a l ih=>
      intro hn i j hi hj cS h1 h2;cases i with
      | zero=>
       cases j with
       | zero=>exact cS rfl
       | succ j=>
        simp only [List.getElem_cons_zero]at h1;simp only [List.getElem_cons_succ]at h2;rw [List.filterMap_cons,h1]at hn;simp only [kz]at hn;exact hn.1 (List.mem_filterMap.2 ⟨_,fe _,h2⟩)
      | succ i=>
       cases j with
       | zero=>
        simp only [List.getElem_cons_zero]at h2;simp only [List.getElem_cons_succ]at h1;rw [List.filterMap_cons,h2]at hn;simp only [kz]at hn;exact hn.1 (List.mem_filterMap.2 ⟨_,fe _,h1⟩)
       | succ j=>
        have uo:(l.filterMap Ck.il).Nodup:=by
         rw [List.filterMap_cons]at hn
         split at hn
         ·exact hn
         ·exact(kz.1 hn).2
        exact ih uo i j (by simpa using hi) (by simpa using hj) (by omega) (by simpa using h1) (by simpa using h2)
    exact key ks hn i j dI kF cS (by rw [fo];exact vw) rZ) id
 ·rw [Fj Ck.il ks i k k' hk (by rw [vw,Z9])];exact h.apart
theorem St.store(h:St w0 w ks)(i:Nat)(hk:ks[i]?=some k)(hj:j<k.n)(u:ab)(hu:u.oneCell'=true):
 ∃p,aB k.A j=some p/\(∃v,w.cell? p=some v)/\w.frozen? p=false/\St w0 (w.setCell p u) (ks.set i { k with vs:=k.vs.set j u }):=by
 rcases(h.get hk).cases with⟨_,qT,_⟩ | ⟨hM,h1,h2,h3,h4⟩
 ·omega
 rcases h4 with⟨_,h0⟩ | ⟨g,o,cur,hA,hg,hh,hs,hc⟩
 ·omega
 refine⟨⟨g,o+j,Option.none⟩,by simp [aB,hA,zL],?_,?_,?_⟩
 ·have:o+j<cur.size:=by omega
  exact⟨cur[o+j],by simp [World.cell?,hh,pv this]⟩
 ·simp [World.frozen?,hh]
 have vw:k.il=some g:=by simp [Ck.il,hA]
 have eL:=(Array.getElem?_eq_some_iff.1 hh).1;refine h.turn (k':= { k with vs:=k.vs.set j u }) hk vw vw ⟨⟨O,O,O,by simp,fun x _ hx=>heap_setCell_other w ⟨g,o+j,Option.none⟩ x u (fun e=>hx (by simp [e]))⟩,dC _⟩ ?_;refine .qj (acL j hM hu) ⟨by simpa using h1,h2,h3,.inr ⟨g,o,cur.setIfInBounds (o+j) u,hA,hg,heap_setCell_same w g (o+j) cur k.e u hh,by simpa using hs,fun m hm=>?_⟩⟩;have kU:m<k.n:=hm;rw [ru];show _=(k.vs.set j u)[m]?;rw [n3]
 by_cases e:j=m
 ·subst e;rw [aT rfl,aT rfl,aT (by omega),aT (by omega)]
 rw [aR (by omega),aR e];exact hc m kU
end
structure aX where
 a:ai
 n:Nat
 c:Nat
def aX.v(s:aX):ab:= .slice s.a s.n s.c
def bW:aX:=⟨none,0,0⟩
def gi(xs:ah)(i:Int):Int:=xs.getD i.toNat 0
def gb(xs:List Bool)(i:Int):Bool:=xs.getD i.toNat false
def rg(xs:List aX)(i:Int):aX:=xs.getD i.toNat bW
def bt(w:aa)(A:ai)(n:Nat)(xs:ah):Prop:=xs.length=n/\Rd w A n (fun j=>aj (xs.getD j 0))
def uZ(w:aa)(A:ai)(n:Nat)(xs:List Bool):Prop:=xs.length=n/\Rd w A n (fun j=> .bool (xs.getD j false))
def iT(w:aa)(A:ai)(n:Nat)(xs:List aX):Prop:=xs.length=n/\Rd w A n (fun j=> (xs.getD j bW).v)
abbrev ar(t:ad)(A:ai)(n c:Nat)(xs:ah):Ck:=⟨A,n,c,t,xs.map (aj)⟩
abbrev iy(t:ad)(A:ai)(n c:Nat)(xs:List Bool):Ck:=⟨A,n,c,t,xs.map .bool⟩
abbrev br(t:ad)(A:ai)(n c:Nat)(xs:List aX):Ck:=⟨A,n,c,t,xs.map aX.v⟩
theorem tf(xs:ah):eT (xs.map (Value.int .i64))=false:=vL fun v hv=>by obtain⟨_,_,rfl⟩:=eh.1 hv;rfl
theorem Gr(xs:List Bool):eT (xs.map Value.bool)=false:=vL fun v hv=>by obtain⟨_,_,rfl⟩:=eh.1 hv;rfl
theorem BG(xs:List aX):eT (xs.map aX.v)=false:=vL fun v hv=>by obtain⟨_,_,rfl⟩:=eh.1 hv;rfl
section
variable{xs:ah}
variable {w0 w w':aa} {ks:List Ck} {t:ad} {A:ai} {n c:Nat}
theorem St.bk(h:St w0 w ks)(i:Nat)(hk:ks[i]?=some (ar t A n c xs)):bt w A n xs:=by
 have hl:xs.length=n:=by have:=(h.rI hk (tf xs)).1;simpa using this
 exact⟨hl,(h.rd i hk).congr fun j hj=>by have kF:j<n:=hj;simp [dt,fU (show j<xs.length by omega)]⟩
theorem St.kY{xs:List Bool}(h:St w0 w ks)(i:Nat)(hk:ks[i]?=some (iy t A n c xs)):uZ w A n xs:=by
 have hl:xs.length=n:=by have:=(h.rI hk (Gr xs)).1;simpa using this
 exact⟨hl,(h.rd i hk).congr fun j hj=>by have kF:j<n:=hj;simp [dt,fU (show j<xs.length by omega)]⟩
theorem St.fq{xs:List aX}(h:St w0 w ks)(i:Nat)(hk:ks[i]?=some (br t A n c xs)):iT w A n xs:=by
 have hl:xs.length=n:=by have:=(h.rI hk (BG xs)).1;simpa using this
 exact⟨hl,(h.rd i hk).congr fun j hj=>by have kF:j<n:=hj;simp [dt,fU (show j<xs.length by omega)]⟩
theorem St.b9(h:St w0 w ks)(hR:bt w0 A n xs):bt w A n xs:=⟨hR.1,h.nj hR.2⟩
theorem St.BP{xs:List aX}(h:St w0 w ks)(hR:iT w0 A n xs):iT w A n xs:=⟨hR.1,h.nj hR.2⟩
theorem St.cap{k:Ck}(h:St w0 w ks)(i:Nat)(hk:ks[i]?=some k):k.n<=k.c/\k.c<=maxLen:=(h.get hk).cap
theorem St.zl(h:St w0 w ks)(i:Nat)(hk:ks[i]?=some (ar t A n c xs)):xs.length=n:=(h.bk i hk).1
theorem bt.ao(h:bt w A n xs)(hb:Below w.heap.size w w'):bt w' A n xs:=⟨h.1,h.2.below hb⟩
theorem uZ.ao{xs:List Bool}(h:uZ w A n xs)(hb:Below w.heap.size w w'):uZ w' A n xs:=⟨h.1,h.2.below hb⟩
theorem iT.ao{xs:List aX}(h:iT w A n xs)(hb:Below w.heap.size w w'):iT w' A n xs:=⟨h.1,h.2.below hb⟩
theorem bt.nil:bt w none 0 []:=⟨rfl,fun k hk=>by omega⟩
theorem iT.nil:iT w none 0 []:=⟨rfl,fun k hk=>by omega⟩
end
section
variable{t te:ad}{z u v0 v1 z0:ab}{j c1 ft off sz o h c':Nat}{x ix x0 x1 lo dI y:ae}{A1 A':ai}{xs:ah}
variable {P:Program} {N:Nat} {ops:Array Oper} {K:Env->aa->Prop} {rest:List Oper} {e:Env} {w0 w w':aa} {ks:List Ck} {d:Nat} {ty:ad} {pos:String} {af:Array Edge}
theorem ajn{el:ad}{b:Nat}[bP P t (.slice el)][bO P el z 1 b]{A:ai}{n c:Nat}{k:IntKind}{i:Int}{f:Nat->ab}(hR:Rd w A n f)(hx:ev e x= .slice A n c)(hy:ev e ix= .int k i)(hb:Nat.blt d N=true)(h0:0<=i)(h1:i< (n:Int))(hK:ak P N ops K rest (bC e d (.pointer (aB A i.toNat))) w):
 ak P N ops K (⟨some d,.indexAddr t x ix,ty,pos,af,none⟩::rest) e w:=by
 obtain⟨p,hp,_⟩:=hR i.toNat (by omega);obtain⟨q,rfl⟩:∃q,A=some q:=by cases A with | none=>simp [aB]at hp | some q=>exact⟨q,rfl⟩
 obtain⟨inf,hi,_,hs,_⟩:=bO.get P el;refine .val (w':=w) ?_ hb hK;simp [execOp,Instr.indexAt,hx,hy,asIntOf,run_underlying (bP.out (P:=P) (t:=t)),h0,h1,sizeOf,typeInfo,hi,hs,aB]
theorem aA{el:ad}{b:Nat}[bP P t (.slice el)][bO P el z 1 b]{A:ai}{n c:Nat}{k:IntKind}{i:Int}{f:Nat->ab}(hR:Rd w A n f)(q9:(ev e x,ev e ix,Nat.blt d N)=(.slice A n c,.int k i,true))(hK:ak P N ops K rest (bC e d (.pointer (aB A i.toNat))) w)(h0:0<=i:=by omega)(h1:i< (n:Int):=by omega):ak P N ops K (⟨some d,.indexAddr t x ix,ty,pos,af,none⟩::rest) e w:=ajn hR (congrArg (fun p=>p.1) q9) (congrArg (fun p=>p.2.1) q9) (congrArg (fun p=>p.2.2) q9) h0 h1 hK
def uK:TypeDesc->Bool
 | .struct _=>false
 | .array _ _=>false
 | _=>true
theorem af2{u:TypeDesc}(hu:P.underlying t=some u)(hp:uK u=true):(isAgg t).run P w= .ok false w:=by
 cases u<;>simp [uK]at hp<;>simp [isAgg,run_underlying hu]
theorem ak.ld{u:TypeDesc}[bP P t u]{A:ai}{n:Nat}{f:Nat->ab}{v:ab}(hR:Rd w A n f)(hx:ev e x= .pointer (aB A j))(hj:j<n)(hv:f j=v)(hp:uK u=true)(hb:Nat.blt d N=true)(hK:ak P N ops K rest (bC e d v) w):ak P N ops K (⟨some d,.load t x,ty,pos,af,none⟩::rest) e w:=by
 obtain⟨p,jj,hc⟩:=hR j hj;subst hv;refine .val (w':=w) ?_ hb hK;simp [execOp,Instr.loadAt,hx,jj,Instr.sureAddr,loadVar,af2 (bP.out (P:=P) (t:=t)) hp,hc]
theorem ajo{u:TypeDesc}[bP P t u]{A:ai}{n:Nat}{i:Int}(hR:bt w A n xs)(hx:ev e x= .pointer (aB A i.toNat))(hj:i.toNat<n)(hp:uK u=true)(hb:Nat.blt d N=true)(hK:ak P N ops K rest (bC e d (aj (gi xs i))) w):ak P N ops K (⟨some d,.load t x,ty,pos,af,none⟩::rest) e w:= .ld hR.2 hx hj rfl hp hb hK
theorem aY{u:TypeDesc}[bP P t u]{A:ai}{n:Nat}{i:Int}(hR:bt w A n xs)(q9:(ev e x,uK u,Nat.blt d N)=(.pointer (aB A i.toNat),true,true))(hK:ak P N ops K rest (bC e d (aj (gi xs i))) w)(hj:i.toNat<n:=by omega):ak P N ops K (⟨some d,.load t x,ty,pos,af,none⟩::rest) e w:=ajo hR (congrArg (fun p=>p.1) q9) hj (congrArg (fun p=>p.2.1) q9) (congrArg (fun p=>p.2.2) q9) hK
theorem uV{u:TypeDesc}[bP P t u]{A:ai}{n:Nat}{i:Int}{xs:List Bool}(hR:uZ w A n xs)(hx:ev e x= .pointer (aB A i.toNat))(hj:i.toNat<n)(hp:uK u=true)(hb:Nat.blt d N=true)(hK:ak P N ops K rest (bC e d (.bool (gb xs i))) w):ak P N ops K (⟨some d,.load t x,ty,pos,af,none⟩::rest) e w:= .ld hR.2 hx hj rfl hp hb hK
theorem aju{u:TypeDesc}[bP P t u]{A:ai}{n:Nat}{i:Int}{xs:List aX}(hR:iT w A n xs)(hx:ev e x= .pointer (aB A i.toNat))(hj:i.toNat<n)(hp:uK u=true)(hb:Nat.blt d N=true)(hK:ak P N ops K rest (bC e d (.slice (rg xs i).a (rg xs i).n (rg xs i).c)) w):ak P N ops K (⟨some d,.load t x,ty,pos,af,none⟩::rest) e w:= .ld hR.2 hx hj rfl hp hb hK
theorem bQ{u:TypeDesc}[bP P t u]{A:ai}{n:Nat}{i:Int}{xs:List aX}(hR:iT w A n xs)(q9:(ev e x,uK u,Nat.blt d N)=(.pointer (aB A i.toNat),true,true))(hK:ak P N ops K rest (bC e d (.slice (rg xs i).a (rg xs i).n (rg xs i).c)) w)(hj:i.toNat<n:=by omega):ak P N ops K (⟨some d,.load t x,ty,pos,af,none⟩::rest) e w:=aju hR (congrArg (fun p=>p.1) q9) hj (congrArg (fun p=>p.2.1) q9) (congrArg (fun p=>p.2.2) q9) hK
theorem ak.st{b:Nat}[bO P t z 1 b]{a:ae}{i:Nat}{k:Ck}(hS:St w0 w ks)(hk:ks[i]?=some k)(ha:ev e a= .pointer (aB k.A j))(hx:ev e x=u)(h1:u.oneCell'=true)(hj:j<k.n)(hK:∀w',St w0 w' (ks.set i { k with vs:=k.vs.set j u })->ak P N ops K rest e w'):ak P N ops K (⟨none,.store t a x,ty,pos,af,none⟩::rest) e w:=by
 obtain⟨p,hp,⟨v,hc⟩,hf,l8⟩:=hS.store i hk hj u h1;obtain⟨inf,hi,_,hs,_⟩:=bO.get P t;refine .unit (w':=w.setCell p u) ?_ (hK _ l8);have aal:u.cells= #[u]:=by cases u<;>simp [Value.oneCell']at h1<;>rfl
 simp [execOp,Instr.storeAt,ha,hx,hp,Instr.sureAddr,storeVar,sizeOf,typeInfo,hi,hs,aal,storeCells,run_store _ _ _ _ _ h1,hc,hf,Addr.add]
theorem ak.iG{b:Nat}[bO P t z 1 b]{a:ae}(m:Nat){i:Int}{A:ai}{n c:Nat}{u:Int}(hS:St w0 w ks)(hk:ks[m]?=some (ar te A n c xs))(ha:ev e a= .pointer (aB A i.toNat))(hx:ev e x=aj u)(hj:i.toNat<n)(hK:∀w',St w0 w' (ks.set m (ar te A n c (xs.set i.toNat u)))->ak P N ops K rest e w'):ak P N ops K (⟨none,.store t a x,ty,pos,af,none⟩::rest) e w:=
 .st hS hk ha hx rfl hj fun w' h=>hK w' (by simpa [ar,List.map_set]using h)
theorem wv{b:Nat}[bO P t z 1 b]{a:ae}(m:Nat){i:Int}{A:ai}{n c:Nat}{xs:List Bool}{u:Bool}(hS:St w0 w ks)(hk:ks[m]?=some (iy te A n c xs))(ha:ev e a= .pointer (aB A i.toNat))(hx:ev e x= .bool u)(hj:i.toNat<n)(hK:∀w',St w0 w' (ks.set m (iy te A n c (xs.set i.toNat u)))->ak P N ops K rest e w'):ak P N ops K (⟨none,.store t a x,ty,pos,af,none⟩::rest) e w:=
 .st hS hk ha hx rfl hj fun w' h=>hK w' (by simpa [iy,List.map_set]using h)
theorem uY{b:Nat}[bO P t z 1 b]{a:ae}(m:Nat){i:Int}{A:ai}{n c:Nat}{xs:List aX}{n1:Nat}(hS:St w0 w ks)(hk:ks[m]?=some (br te A n c xs))(ha:ev e a= .pointer (aB A i.toNat))(hx:ev e x= .slice A1 n1 c1)(hj:i.toNat<n)(hK:∀w',St w0 w' (ks.set m (br te A n c (xs.set i.toNat ⟨A1,n1,c1⟩)))->ak P N ops K rest e w'):ak P N ops K (⟨none,.store t a x,ty,pos,af,none⟩::rest) e w:=
 .st hS hk ha hx rfl hj fun w' h=>hK w' (by simpa [br,List.map_set,aX.v]using h)
theorem GG(z:ab)(n:Nat):(madeCells #[z] n)=(List.replicate n z).toArray:=by
 rw [<-toList_madeCells_one z n]
theorem ak.mk{el:ad}{b:Nat}[bP P t (.slice el)][bO P el z 1 b]{k:IntKind}(n:Nat)(hS:St w0 w ks)(hx:ev e x= .int k (n:Int))(hz:z.cells= #[z])(Yw:z.oneCell'=true)(hb:Nat.blt d N=true)(hn:b*n<=281474976710656/\n<=9223372036854775807)(hK:∀A w',St w0 w' (⟨A,n,n,el,List.replicate n z⟩::ks)->ak P N ops K rest (bC e d (.slice A n n)) w'):ak P N ops K (⟨some d,.makeSlice t x x,ty,pos,af,none⟩::rest) e w:=by
 obtain⟨inf,hi,fp,hs,iq⟩:=bO.get P el;have hr:=run_make_row (P:=P) t el inf z (bP.out (P:=P) (t:=t)) hi fp hs hz k k n (by rw [iq];exact hn.1) hn.2 w;have hA:=hS.alloc (List.replicate n z) el (by simp [maxLen];omega) (RG n Yw);rw [GG]at hr;refine .val (w':=w.alloc (.cells (List.replicate n z).toArray el)) ?_ hb (hK _ _ (by simpa using hA));simp only [execOp,hx,Sem.run_bind,hr,Result.andThen_ok,Sem.run_pure]
theorem zH{el:ad}{b:Nat}{v:Bool}[bP P t (.slice el)][bO P el (.bool v) 1 b]{k:IntKind}(n:Nat)(hS:St w0 w ks)(hx:ev e x= .int k (n:Int))(hb:Nat.blt d N=true)(hn:b*n<=281474976710656/\n<=9223372036854775807)(hK:∀A w',St w0 w' (iy el A n n (List.replicate n v)::ks)->ak P N ops K rest (bC e d (.slice A n n)) w'):ak P N ops K (⟨some d,.makeSlice t x x,ty,pos,af,none⟩::rest) e w:=
 .mk n hS hx rfl rfl hb hn fun A w' h=>hK A w' (by unfold iy;rw [List.map_replicate];exact h)
theorem sJ{el:ad}{b:Nat}{v:Int}[bP P t (.slice el)][bO P el (aj v) 1 b]{k:IntKind}(n:Nat)(hS:St w0 w ks)(hx:ev e x= .int k (n:Int))(hb:Nat.blt d N=true)(hn:b*n<=281474976710656/\n<=9223372036854775807)(hK:∀A w',St w0 w' (ar el A n n (List.replicate n v)::ks)->ak P N ops K rest (bC e d (.slice A n n)) w'):ak P N ops K (⟨some d,.makeSlice t x x,ty,pos,af,none⟩::rest) e w:=
 .mk n hS hx rfl rfl hb hn fun A w' h=>hK A w' (by unfold ar;rw [List.map_replicate];exact h)
theorem Hz{el:ad}{b:Nat}[bP P t (.slice el)][bO P el (.slice none 0 0) 1 b]{k:IntKind}(n:Nat)(hS:St w0 w ks)(hx:ev e x= .int k (n:Int))(hb:Nat.blt d N=true)(hn:b*n<=281474976710656/\n<=9223372036854775807)(hK:∀A w',St w0 w' (br el A n n (List.replicate n bW)::ks)->ak P N ops K rest (bC e d (.slice A n n)) w'):ak P N ops K (⟨some d,.makeSlice t x x,ty,pos,af,none⟩::rest) e w:=
 .mk n hS hx rfl rfl hb hn fun A w' h=>hK A w' (by unfold br;rw [List.map_replicate];exact h)
theorem zP(f:Nat->ab)(n:Nat):(Array.range n).map f=((List.range n).map f).toArray:=by apply Array.ext';simp
theorem fZ{el:ad}{b:Nat}[bP P t (.slice el)][bO P el z 1 b](hS:St w0 w ks)(hb:Nat.blt d N=true)(hK:∀A w',St w0 w' (⟨A,0,0,el,[]⟩::ks)->ak P N ops K rest (bC e d (.slice A 0 0)) w'):ak P N ops K (⟨some d,.buildSlice t 0 #[],ty,pos,af,none⟩::rest) e w:=by
 obtain⟨inf,hi,fp,hs,iq⟩:=bO.get P el;refine .val (w':=w.alloc (.cells #[] el)) ?_ hb (hK _ _ (hS.alloc [] el (by simp) O));simp [execOp,Instr.buildSlice,run_underlying (bP.out (P:=P) (t:=t)),sizeOf,typeInfo,hi,hs,Instr.fill,newRow,zP]
theorem ak.HW{el:ad}{b:Nat}[bP P t (.slice el)][bO P el z 1 b](hS:St w0 w ks)(h0:ev e x0=v0)(c0:v0.oneCell'=true)(hz:z.cells= #[z])(hb:Nat.blt d N=true)(hK:∀A w',St w0 w' (⟨A,1,1,el,[v0]⟩::ks)->ak P N ops K rest (bC e d (.slice A 1 1)) w'):ak P N ops K (⟨some d,.buildSlice t 1 #[(0,x0)],ty,pos,af,none⟩::rest) e w:=by
 obtain⟨inf,hi,fp,hs,iq⟩:=bO.get P el;have e0:v0.cells= #[v0]:=by cases v0<;>simp [Value.oneCell']at c0<;>rfl
 refine .val (w':=w.alloc (.cells #[v0] el)) ?_ hb (hK _ _ (hS.alloc [v0] el (by simp [maxLen]) (Gs c0)));simp [execOp,Instr.buildSlice,run_underlying (bP.out (P:=P) (t:=t)),sizeOf,typeInfo,zeroValue,hi,hs,fp,hz,Instr.fill,newRow,h0,e0,zP,tI]
theorem Hw{el:ad}{b:Nat}[bP P t (.slice el)][bO P el z 1 b](hS:St w0 w ks)(h0:ev e x0=v0)(h1:ev e x1=v1)(c0:v0.oneCell'=true)(c1:v1.oneCell'=true)(hz:z.cells= #[z])(hb:Nat.blt d N=true)(hK:∀A w',St w0 w' (⟨A,2,2,el,[v0,v1]⟩::ks)->ak P N ops K rest (bC e d (.slice A 2 2)) w'):ak P N ops K (⟨some d,.buildSlice t 2 #[(0,x0),(1,x1)],ty,pos,af,none⟩::rest) e w:=by
 obtain⟨inf,hi,fp,hs,iq⟩:=bO.get P el;have e0:v0.cells= #[v0]:=by cases v0<;>simp [Value.oneCell']at c0<;>rfl
 have e1:v1.cells= #[v1]:=by cases v1<;>simp [Value.oneCell']at c1<;>rfl
 refine .val (w':=w.alloc (.cells #[v0,v1] el)) ?_ hb (hK _ _ (hS.alloc [v0,v1] el (by simp [maxLen]) (Gs c0)));simp [execOp,Instr.buildSlice,run_underlying (bP.out (P:=P) (t:=t)),sizeOf,typeInfo,zeroValue,hi,hs,fp,hz,Instr.fill,newRow,h0,e0,h1,e1,zP,tI]
theorem ak.box{el:ad}{v:ab}(hS:St w0 w ks)(hx:ev e x=v)(hb:Nat.blt d N=true)(hm:v.cells.size<=maxLen)(hK:∀A w',St w0 w' (⟨A,v.cells.size,v.cells.size,el,v.cells.toList⟩::ks)->ak P N ops K rest (bC e d (.pointer A)) w')(hM:eT v.cells.toList=false:=by rfl):ak P N ops K (⟨some d,.box el x,ty,pos,af,none⟩::rest) e w:=by
 have hA:=hS.alloc v.cells.toList el (by simpa using hm) hM;refine .val (w':=w.alloc (.cells v.cells el)) ?_ hb (hK _ _ (by simpa using hA));simp [execOp,Instr.box,newVar,newRow,hx]
theorem ak.CT{el:ad}{cs:Array ab}(hS:St w0 w ks)(hx:ev e x= .agg cs)(hb:Nat.blt d N=true)(hm:Nat.ble cs.size 100=true)(hK:∀A w',St w0 w' (⟨A,cs.size,cs.size,el,cs.toList⟩::ks)->ak P N ops K rest (bC e d (.pointer A)) w')(hM:eT cs.toList=false:=by rfl):ak P N ops K (⟨some d,.box el x,ty,pos,af,none⟩::rest) e w:=
 .box hS hx hb (by show cs.size<=maxLen;have:=Nat.le_of_ble_eq_true hm;simp only [maxLen];omega) hK hM
theorem ak.new{el:ad}{s b:Nat}[bO P el z s b](hS:St w0 w ks)(hb:Nat.blt d N=true)(kU:Nat.ble z.cells.size 100=true)(hK:∀A w',St w0 w' (⟨A,z.cells.size,z.cells.size,el,z.cells.toList⟩::ks)->ak P N ops K rest (bC e d (.pointer A)) w')(hM:eT z.cells.toList=false:=by rfl):ak P N ops K (⟨some d,.alloc el,ty,pos,af,none⟩::rest) e w:=by
 obtain⟨inf,hi,fp,hs,iq⟩:=bO.get P el;have hm:z.cells.size<=maxLen:=by have:=Nat.le_of_ble_eq_true kU;simp only [maxLen];omega
 have hA:=hS.alloc z.cells.toList el (by simpa using hm) hM;refine .val (w':=w.alloc (.cells z.cells el)) ?_ hb (hK _ _ (by simpa using hA));simp [execOp,Instr.alloc,zeroValue,typeInfo,hi,fp,newVar,newRow]
theorem ik{A:ai}{n:Nat}{f:Nat->ab}(hR:Rd w A n f)(hn:0<n)(hx:ev e x= .pointer A)(hb:Nat.blt d N=true)(hK:ak P N ops K rest (bC e d (.pointer A)) w):
 ak P N ops K (⟨some d,.nilCheck x,ty,pos,af,none⟩::rest) e w:=by
 obtain⟨p,hp,_⟩:=hR 0 hn;obtain⟨q,rfl⟩:∃q,A=some q:=by cases A with | none=>simp [aB]at hp | some q=>exact⟨q,rfl⟩
 exact .aeQ hx hb hK
def C3:List Field->Nat->Option (ad×Nat)
 | f::_,0=>some (f.type,f.offset)
 | _::r,m+1=>C3 r m
 | [],_=>none
theorem Oj:∀ {l:List Field} {m:Nat} {ft off:Nat},C3 l m=some (ft,off)->∃fd,l[m]?=some fd/\fd.type=ft/\fd.offset=off
 | [],_,_,_,h=>by simp [C3]at h
 | f::_,0,_,_,h=>by simp [C3]at h;exact⟨f,rfl,h.1,h.2⟩
 | _::r,m+1,_,_,h=>by simpa using Oj (l:=r) (m:=m) h
theorem ajs{s:ad}{fs:Array Field}[bP P s (.struct fs)]{A:ai}{n m:Nat}{f:Nat->ab}{b:Nat}(hR:Rd w A n f)(hx:ev e x= .pointer A)(hf:C3 fs.toList m=some (ft,off))(hn:Nat.blt 0 n=true)(hb:Nat.blt d N=true)(hI:bO P ft z (sz+1) b)(hK:ak P N ops K rest (bC e d (.pointer (aB A off))) w):ak P N ops K (⟨some d,.fieldAddr s x m,ty,pos,af,none⟩::rest) e w:=by
 obtain⟨p,hp,_⟩:=hR 0 (by simpa [Nat.blt_eq]using hn);obtain⟨q,rfl⟩:∃q,A=some q:=by cases A with | none=>simp [aB]at hp | some q=>exact⟨q,rfl⟩
 obtain⟨fd,yM,rfl,rfl⟩:=Oj hf;have hf2:fs[m]?=some fd:=by simpa using yM
 obtain⟨inf,hi,fp,hs,iq⟩:=bO.get P fd.type;refine .val (w':=w) ?_ hb hK;simp [execOp,Instr.fieldAt,run_underlying (bP.out (P:=P) (t:=s)),hf2,hx,Instr.sureAddr,fieldPlace,sizeOf,typeInfo,hi,hs,aB]
theorem aI{s:ad}{fs:Array Field}[bP P s (.struct fs)]{A:ai}{n m:Nat}{f:Nat->ab}{b:Nat}(hR:Rd w A n f)(q9:(ev e x,C3 fs.toList m,Nat.blt 0 n,Nat.blt d N)=(.pointer A,some (ft,off),true,true))[hI:bO P ft z (sz+1) b](hK:ak P N ops K rest (bC e d (.pointer (aB A off))) w):ak P N ops K (⟨some d,.fieldAddr s x m,ty,pos,af,none⟩::rest) e w:=ajs hR (congrArg (fun p=>p.1) q9) (congrArg (fun p=>p.2.1) q9) (congrArg (fun p=>p.2.2.1) q9) (congrArg (fun p=>p.2.2.2) q9) hI hK
theorem bI{fs:Array Field}{b:Nat}(m:Nat)[bP P t (.struct fs)][bO P t z (m+1) b]{A:ai}{f:Nat->ab}{cs:Array ab}(hR:Rd w A (m+1) f)(hx:ev e x= .pointer A)(uf:((List.range (m+1)).map f).toArray=cs)(hb:Nat.blt d N=true)(hK:ak P N ops K rest (bC e d (.agg cs)) w):ak P N ops K (⟨some d,.load t x,ty,pos,af,none⟩::rest) e w:=by
 obtain⟨p,hp,_⟩:=hR 0 (by omega);obtain⟨q,rfl⟩:∃q,A=some q:=by cases A with | none=>simp [aB]at hp | some q=>exact⟨q,rfl⟩
 obtain⟨inf,hi,fp,hs,iq⟩:=bO.get P t;have hl:=run_loadCells (P:=P) w q (m+1) f (fun j hj=>by
  obtain⟨p,hp,hc⟩:=hR j hj;simp [aB]at hp;rw [hp];exact hc)
 subst uf;refine .val (w':=w) ?_ hb hK;simp [execOp,Instr.loadAt,hx,Instr.sureAddr,loadVar,isAgg,run_underlying (bP.out (P:=P) (t:=t)),sizeOf,typeInfo,hi,hs,hl]
theorem mF(A:ai):aB A 0=A:=by cases A<;>simp [aB,Addr.add]
theorem SX(A:ai)(i j:Nat):aB (aB A i) j=aB A (i+j):=by
 cases A with
 | none=>rfl
 | some q=>simp only [aB,Option.map_some];unfold Addr.add;by_cases h1:i=0<;>by_cases h2:j=0<;>simp [h1,h2,Nat.add_assoc]
theorem Rd.behind{A:ai}{n m:Nat}{f:Nat->ab}(hR:Rd w A n f)(h:o+m<=n):Rd w (aB A o) m (fun j=>f (o+j)):=fun j hj=>by
 obtain⟨p,hp,hc⟩:=hR (o+j) (by omega);exact⟨p,by rw [SX];exact hp,hc⟩
abbrev Bx(t:ad)(n:Nat)(A:ai)(vs:List ab):Ck:=⟨A,n,n,t,vs⟩
theorem mQ{el:ad}(hS:St w0 w ks)(hx:ev e x= .agg #[v0])(hb:Nat.blt d N=true)(hK:∀A w',St w0 w' (Bx el 1 A [v0]::ks)->ak P N ops K rest (bC e d (.pointer A)) w')(hM:eT [v0]=false:=by rfl):ak P N ops K (⟨some d,.box el x,ty,pos,af,none⟩::rest) e w:= .CT hS hx hb rfl hK hM
theorem wu{el:ad}(hS:St w0 w ks)(hx:ev e x= .agg #[v0,v1])(hb:Nat.blt d N=true)(hK:∀A w',St w0 w' (Bx el 2 A [v0,v1]::ks)->ak P N ops K rest (bC e d (.pointer A)) w')(hM:eT [v0,v1]=false:=by rfl):ak P N ops K (⟨some d,.box el x,ty,pos,af,none⟩::rest) e w:= .CT hS hx hb rfl hK hM
theorem jN{el:ad}{s b:Nat}[bO P el (.agg #[v0]) s b](hS:St w0 w ks)(hb:Nat.blt d N=true)(hK:∀A w',St w0 w' (Bx el 1 A [v0]::ks)->ak P N ops K rest (bC e d (.pointer A)) w')(hM:eT [v0]=false:=by rfl):ak P N ops K (⟨some d,.alloc el,ty,pos,af,none⟩::rest) e w:= .new (el:=el) (z:= .agg #[v0]) (s:=s) (b:=b) hS hb rfl hK hM
theorem sK{el:ad}{s b:Nat}[bO P el (.agg #[v0,v1]) s b](hS:St w0 w ks)(hb:Nat.blt d N=true)(hK:∀A w',St w0 w' (Bx el 2 A [v0,v1]::ks)->ak P N ops K rest (bC e d (.pointer A)) w')(hM:eT [v0,v1]=false:=by rfl):ak P N ops K (⟨some d,.alloc el,ty,pos,af,none⟩::rest) e w:= .new (el:=el) (z:= .agg #[v0,v1]) (s:=s) (b:=b) hS hb rfl hK hM
theorem ajt{u:TypeDesc}[bP P t u]{A:ai}{n n1:Nat}{f:Nat->ab}(hR:Rd w A n f)(hx:ev e x= .pointer (aB A j))(hj:Nat.blt j n=true)(hv:f j= .slice A1 n1 c1)(hp:uK u=true)(hb:Nat.blt d N=true)(hK:ak P N ops K rest (bC e d (.slice A1 n1 c1)) w):ak P N ops K (⟨some d,.load t x,ty,pos,af,none⟩::rest) e w:= .ld hR hx (by simpa [Nat.blt_eq]using hj) hv hp hb hK
theorem aV{u:TypeDesc}[bP P t u]{A:ai}{n n1:Nat}{f:Nat->ab}(hR:Rd w A n f)(q9:(ev e x,Nat.blt j n,f j,uK u,Nat.blt d N)=(.pointer (aB A j),true,.slice A1 n1 c1,true,true))(hK:ak P N ops K rest (bC e d (.slice A1 n1 c1)) w):ak P N ops K (⟨some d,.load t x,ty,pos,af,none⟩::rest) e w:=ajt hR (congrArg (fun p=>p.1) q9) (congrArg (fun p=>p.2.1) q9) (congrArg (fun p=>p.2.2.1) q9) (congrArg (fun p=>p.2.2.2.1) q9) (congrArg (fun p=>p.2.2.2.2) q9) hK
theorem fL{u:TypeDesc}[bP P t u]{A:ai}{n:Nat}{k:IntKind}{i:Int}{f:Nat->ab}(hR:Rd w A n f)(hx:ev e x= .pointer (aB A j))(hj:Nat.blt j n=true)(hv:f j= .int k i)(hp:uK u=true)(hb:Nat.blt d N=true)(hK:ak P N ops K rest (bC e d (.int k i)) w):ak P N ops K (⟨some d,.load t x,ty,pos,af,none⟩::rest) e w:= .ld hR hx (by simpa [Nat.blt_eq]using hj) hv hp hb hK
theorem ye{u:TypeDesc}[bP P t u]{A:ai}{n:Nat}{i:Bool}{f:Nat->ab}(hR:Rd w A n f)(hx:ev e x= .pointer (aB A j))(hj:Nat.blt j n=true)(hv:f j= .bool i)(hp:uK u=true)(hb:Nat.blt d N=true)(hK:ak P N ops K rest (bC e d (.bool i)) w):ak P N ops K (⟨some d,.load t x,ty,pos,af,none⟩::rest) e w:= .ld hR hx (by simpa [Nat.blt_eq]using hj) hv hp hb hK
def B9(vs:List ab)(o:Nat):List ab->List ab
 | []=>vs
 | c::r=>B9 (vs.set o c) (o+1) r
theorem Tk{k:Ck}(i:Nat):∀(cs:List ab) (ks:List Ck) (vs:List ab) (w:aa) (o:Nat) (p:Addr),St w0 w ks->ks[i]?=some { k with vs:=vs }->aB k.A o=some p->o+cs.length<=k.n->(∀u∈cs,u.oneCell'=true)->∀m q,aB k.A m=some q->o=m+ (o - m)->
 m<=o->∃w',(storeCells q cs (o - m)).run P w= .ok () w'/\St w0 w' (ks.set i { k with vs:=B9 vs o cs })
 | [],ks,vs,w,o,p,hS,hk,_,_,_,m,q,_,_,_=> ⟨w,by simp [storeCells],by
  have:ks.set i { k with vs:=B9 vs o [] }=ks:=by
   apply List.ext_getElem?;intro j;rw [n3]
   split
   ·rename_i e;subst e;rw [hk,aT (gw.1 hk).1];rfl
   ·rfl
  rw [this];exact hS⟩
 | c::r,ks,vs,w,o,p,hS,hk,hp,hl,h1,m,q,hq,ho,hm=>by
  simp only [List.length_cons]at hl;obtain⟨p',jj,⟨v,hc⟩,hf,l8⟩:=hS.store i hk (j:=o) (by show o<k.n;omega) c (h1 c (by simp));have nJ:q.add (o - m)=p':=by
   have:aB (aB k.A m) (o - m)=some p':=by rw [SX,<-ho];exact jj
   rw [hq]at this;simpa [aB]using this
  have eL:=(gw.1 hk).1
  by_cases hr:r=[]
  ·subst hr;refine⟨_,?_,l8⟩;simp [storeCells,nJ,run_store _ _ _ _ _ (h1 c (by simp)),hc,hf]
  ·have bT:0<r.length:=by cases r with | nil=>exact absurd rfl hr | cons _ _=>simp
   obtain⟨p2,gA⟩:∃p2,aB k.A (o+1)=some p2:=by
    obtain⟨x,hx,_⟩:=(hS.rd i hk) (o+1) (by show o+1<k.n;omega);exact⟨x,hx⟩
   obtain⟨w2,o5,aE⟩:=Tk i r _ (vs.set o c) _ (o+1) p2 l8 (by rw [n3];simp [eL]) gA (by omega) (fun u hu=>h1 u (by simp [hu])) m q hq (by omega) (by omega);refine⟨w2,?_,by simpa [B9]using aE⟩;have e1:o+1 - m=o - m+1:=by omega
   rw [e1]at o5;simp [storeCells,nJ,run_store _ _ _ _ _ (h1 c (by simp)),hc,hf,o5]
theorem ak.agj{b:Nat}(m:Nat)[bO P t z m b]{a:ae}(i:Nat){k:Ck}{cs:Array ab}(hS:St w0 w ks)(hk:ks[i]?=some k)(ha:ev e a= .pointer (aB k.A o))(hx:ev e x= .agg cs)(uf:cs.size=m)(rJ:cs.toList.all Value.oneCell'=true)(vD:Nat.blt 0 m=true)(s6:Nat.ble (o+m) k.n=true)(hK:∀w',St w0 w' (ks.set i { k with vs:=B9 k.vs o cs.toList })->ak P N ops K rest e w'):ak P N ops K (⟨none,.store t a x,ty,pos,af,none⟩::rest) e w:=by
 have hn:0<m/\o+m<=k.n:=⟨by simpa [Nat.blt_eq]using vD,Nat.le_of_ble_eq_true s6⟩;have h1:∀u∈cs.toList,u.oneCell'=true:=fun u hu=>List.all_eq_true.1 rJ u hu
 obtain⟨p,hp,_⟩:=(hS.rd i hk) o (by omega);obtain⟨w',o5,l8⟩:=Tk (P:=P) (k:=k) i cs.toList ks k.vs w o p hS hk hp (by simp;omega) h1 o p hp (by omega) (by omega);obtain⟨inf,hi,_,hs,_⟩:=bO.get P t;refine .unit (w':=w') ?_ (hK _ l8);rw [Nat.sub_self]at o5;simp [execOp,Instr.storeAt,ha,hx,hp,Instr.sureAddr,storeVar,sizeOf,typeInfo,hi,hs,Value.cells,uf,o5]
theorem bS{b:Nat}(m:Nat)[bO P t z m b]{a:ae}(i:Nat){k:Ck}{cs:Array ab}(hS:St w0 w ks)(hk:ks[i]?=some k)(ha:ev e a= .pointer k.A)(hx:ev e x= .agg cs)(uf:cs.size=m)(h1:cs.toList.all Value.oneCell'=true)(vD:Nat.blt 0 m=true)(s6:Nat.ble (0+m) k.n=true)(hK:∀w',St w0 w' (ks.set i { k with vs:=B9 k.vs 0 cs.toList })->ak P N ops K rest e w'):ak P N ops K (⟨none,.store t a x,ty,pos,af,none⟩::rest) e w:=
 .agj m i hS hk (by rw [mF];exact ha) hx uf h1 vD s6 hK
theorem ke{b:Nat}[bO P t z 1 b]{a:ae}(i:Nat){k:Ck}(hS:St w0 w ks)(hk:ks[i]?=some k)(ha:ev e a= .pointer (aB k.A j))(hx:ev e x=u)(h1:u.oneCell'=true)(hj:Nat.blt j k.n=true)(hK:∀w',St w0 w' (ks.set i { k with vs:=k.vs.set j u })->ak P N ops K rest e w'):ak P N ops K (⟨none,.store t a x,ty,pos,af,none⟩::rest) e w:= .st hS hk ha hx h1 (by simpa [Nat.blt_eq]using hj) hK
def S5(a n:Nat)(R:ab->aa->Prop):jr
 | .normal,e,w=>∃A f,e a= .pointer A/\Rd w A n f/\R (.agg ((List.range n).map f).toArray) w
 | .ret,e,w=>∃A f,e a= .pointer A/\Rd w A n f/\R (.agg ((List.range n).map f).toArray) w
 | _,_,_=>False
theorem fI{a n:Nat}{R:ab->aa->Prop}{A:ai}{f:Nat->ab}(h:e a= .pointer A)(hR:Rd w A n f)(h2:R (.agg ((List.range n).map f).toArray) w):S5 a n R .ret e w:=⟨A,f,h,hR,h2⟩
theorem Ti{fs:Array Field}{b n:Nat}[bP P t (.struct fs)][bO P t z n b]{A:ai}{f:Nat->ab}(hn:0<n)(hR:Rd w A n f):∃q,A=some q/\(loadVar t q).run P w= .ok (.agg ((List.range n).map f).toArray) w:=by
 obtain⟨p,hp,_⟩:=hR 0 hn;obtain⟨q,rfl⟩:∃q,A=some q:=by cases A with | none=>simp [aB]at hp | some q=>exact⟨q,rfl⟩
 obtain⟨inf,hi,fp,hs,iq⟩:=bO.get P t;have hl:=run_loadCells (P:=P) w q n f (fun j hj=>by
  obtain⟨p,hp,hc⟩:=hR j hj;simp [aB]at hp;rw [hp];exact hc)
 exact⟨q,O,by simp [loadVar,isAgg,run_underlying (bP.out (P:=P) (t:=t)),sizeOf,typeInfo,hi,hs,hl]⟩
theorem kX{fn:Func}{R:ab->aa->Prop}{a t n b:Nat}{fs:Array Field}[bP P t (.struct fs)][bO P t z n b](hr:fn.results= #[.cell a t])(uo:Nat.blt 0 n=true):∀x a1 e w,js N a1 e->S5 a n R x e w->bodyPost P fn (fun x w'=>∃v,x= .returned v/\R v w') x a1 w:=by
 intro x a1 e w he q;have hn:0<n:=by simpa [Nat.blt_eq]using uo
 have hg:=he.get a;have key:∀(A:ai) (f:Nat->ab),e a= .pointer A->Rd w A n f->(results fn a1.tmps).run P w= .ok (.agg ((List.range n).map f).toArray) w:=by
  intro A f hA hR;obtain⟨q,rfl,hl⟩:=Ti (P:=P) (t:=t) hn hR;rw [iI]at hg;simp [results,hr,hg,hA,asAddr,hl]
 cases x<;>first
  | exact q.elim
  | (
   obtain⟨A,f,hA,hR,h2⟩:=q;exact⟨he.defers,_,key A f hA hR,_,O,h2⟩)
def cutAt(A:ai)(c l:Nat):ai:=if c=l then A else aB A l
theorem Rd.cut{A:ai}{n c l:Nat}{f:Nat->ab}(hR:Rd w A n f)(hl:l<=h)(hn:h<=n)(hc:n<=c):Rd w (cutAt A c l) (h - l) (fun j=>f (l+j)):=fun j hj=>by
 obtain⟨p,hp,aak⟩:=hR (l+j) (by omega);refine⟨p,?_,aak⟩;unfold cutAt;rw [aR (by omega)];cases A with
 | none=>simp [aB]at hp
 | some q=>
  simp only [aB,Option.map_some,mh]at hp|-;rw [<-hp];unfold Addr.add
  by_cases uk:l=0<;>by_cases hj0:j=0<;>simp [uk,hj0,Nat.add_assoc]
theorem bt.cut{A:ai}{n c l:Nat}(hR:bt w A n xs)(hl:l<=h)(hn:h<=n)(hc:n<=c):bt w (cutAt A c l) (h - l) ((xs.drop l).take (h - l)):=
 ⟨by have:=hR.1;simp;omega,(hR.2.cut hl hn hc).congr fun j hj=>by simp [dt,rB,hj]⟩
theorem iT.cut{A:ai}{n c l:Nat}{xs:List aX}(hR:iT w A n xs)(hl:l<=h)(hn:h<=n)(hc:n<=c):iT w (cutAt A c l) (h - l) ((xs.drop l).take (h - l)):=
 ⟨by have:=hR.1;simp;omega,(hR.2.cut hl hn hc).congr fun j hj=>by simp [dt,rB,hj]⟩
theorem yd{el:ad}{b:Nat}[hU:bP P t (.slice el)][bO P el z 1 b]{A:ai}{n c:Nat}{k:IntKind}{l:Int}(hx:ev e x= .slice A n c)(hl:ev e lo= .int k l)(hb:Nat.blt d N=true)(h0:0<=l/\l<=(n:Int))(hK:ak P N ops K rest (bC e d (.slice (cutAt A c l.toNat) (n - l.toNat) (c - l.toNat))) w):ak P N ops K (⟨some d,.slice t x (some lo) none none,ty,pos,af,none⟩::rest) e w:=by
 obtain⟨inf,hi,fp,hs,iq⟩:=bO.get P el;refine .val (w':=w) ?_ hb hK;have:=run_sliceBound (P:=P) w k l n .sliceB h0.1 h0.2;simp [execOp,hx,hl,Instr.sliceAt,run_underlying hU.out,Instr.slice,Instr.sliceBounds,this,sizeOf,typeInfo,hi,hs,cutAt,aB]
theorem sI{el:ad}{b:Nat}[hU:bP P t (.slice el)][bO P el z 1 b]{A:ai}{n c:Nat}{k:IntKind}{h:Int}(hx:ev e x= .slice A n c)(hh:ev e dI= .int k h)(hb:Nat.blt d N=true)(h0:0<=h/\h<=(c:Int))(hK:ak P N ops K rest (bC e d (.slice A h.toNat c)) w):ak P N ops K (⟨some d,.slice t x none (some dI) none,ty,pos,af,none⟩::rest) e w:=by
 obtain⟨inf,hi,fp,hs,iq⟩:=bO.get P el;refine .val (w':=w) ?_ hb hK;have:=run_sliceBound (P:=P) w k h c .sliceAcap h0.1 h0.2;have hA:A.map (fun x=>x.add 0)=A:=by cases A<;>simp [Addr.add]
 simp [execOp,hx,hh,Instr.sliceAt,run_underlying hU.out,Instr.slice,Instr.sliceBounds,this,sizeOf,typeInfo,hi,hs,hA]
theorem Th{el:ad}{b:Nat}[hU:bP P t (.slice el)][bO P el z 1 b](hz:z.cells= #[z0]){k:Ck}(i:Nat)(hS:St w0 w ks)(hk:ks[i]?=some k)(hM:eT k.vs=false)(he:k.e=el){m:Nat}{f:Nat->ab}(hR:Rd w A' m f)(h1:∀j,j<m->(f j).oneCell'=true)
 (oh:k.n+m<=maxLen) (mr:(k.n+m)*b<=140737488355328) (ty:ad):
 ∃A2 c2 w',(Builtin.append_ #[t,t] ty #[.slice k.A k.n k.c,.slice A' m c']).run P w= .ok (.slice A2 (k.n+m) c2) w'/\St w0 w' (ks.set i ⟨A2,k.n+m,c2,el,k.vs++ (List.range m).map f⟩)/\(k.n=k.c->Below w.heap.size w w'):=by
 subst he;obtain⟨inf,hi,fp,hs,iq⟩:=bO.get P k.e;have DK:=hS.rI hk hM;have Df:eT (k.vs++ (List.range m).map f)=false:=RF hM (vL fun u hu=>by
  obtain⟨j,hj,rfl⟩:=eh.1 hu;exact h1 j (by simpa using hj))
 obtain⟨hl,ko,rW,h4⟩:=DK;have yQ:=(gw.1 hk).1
 by_cases hm:m=0
 ·subst hm;refine⟨k.A,k.c,w,?_,?_,fun _=>Below.refl _ _⟩
  ·cases A' with
   | none=>cases hkA:k.A<;>simp [Builtin.append_,run_underlying hU.out,sizeOf,typeInfo,hi,Builtin.lenOf,Builtin.firstCells,ko,storeCells]
   | some a=>
    have uk:=run_loadCells (P:=P) w a 0 f (fun j hj=>by omega);cases hkA:k.A<;>simp [Builtin.append_,run_underlying hU.out,sizeOf,typeInfo,hi,Builtin.lenOf,Builtin.firstCells,ko,storeCells,loadCells,loadCellsFrom]
  ·have:ks.set i ⟨k.A,k.n+0,k.c,k.e,k.vs++ (List.range 0).map f⟩=ks:=by
    have h5:(⟨k.A,k.n+0,k.c,k.e,k.vs++ (List.range 0).map f⟩:Ck)=k:=by simp
    rw [h5];apply List.ext_getElem?;intro j;rw [n3]
    split
    ·rename_i e;subst e;rw [hk]
     try simp [yQ]
    ·rfl
   rw [this];exact hS
 ·obtain⟨a,rfl⟩:∃a,A'=some a:=by
   obtain⟨p,hp,_⟩:=hR 0 (by omega);cases A' with | none=>simp [aB]at hp | some q=>exact⟨q,rfl⟩
  have gL:((List.range m).map f).length=m:=by simp
  have vE:∀j v,((List.range m).map f)[j]?=some v->w.cell? (a.add j)=some v:=by
   intro j v hj;have Bm:j<m:=by have:=(gw.1 hj).1;simpa using this
   obtain⟨p,hp,hc⟩:=hR j Bm;simp only [aB,Option.map_some,mh]at hp;rw [hp,hc,<-hj];simp [Bm]
  have rJ:∀u∈(List.range m).map f,u.oneCell'=true:=by
   intro u hu;obtain⟨j,hj,rfl⟩:=eh.1 hu;exact h1 j (by simpa using hj)
  have fresh:∀(cs:List ab) (c2:Nat),eT cs=false->k.n+m<=c2->c2<=maxLen->cs.length=c2->cs.take (k.n+m)=k.vs++ (List.range m).map f->
   St w0 (w.drew.alloc (.cells cs.toArray k.e)) (ks.set i ⟨some ⟨w.heap.size,0,none⟩,k.n+m,c2,k.e,k.vs++ (List.range m).map f⟩):=by
   intro cs c2 YI h5 h6 h7 h8;have hA:=hS.drew.alloc cs k.e (by omega) YI;have hp:(⟨some ⟨w.heap.size,0,none⟩,cs.length,cs.length,k.e,cs⟩::ks).Perm (k::(ks.set i ⟨some ⟨w.heap.size,0,none⟩,cs.length,cs.length,k.e,cs⟩)):=by
    have gen:∀(l:List Ck) (i:Nat) (x y:Ck),l[i]?=some y->(x::l).Perm (y::l.set i x):=by
     intro l
     induction l with
     | nil=>intro i x y h;simp at h
     | cons u l ih=>
      intro i x y h;cases i with
      | zero=>simp at h;subst h;exact List.Perm.swap _ _ _
      | succ i=>
       simp only [List.getElem?_cons_succ]at h;simp only [List.set_cons_succ];exact(List.Perm.swap _ _ _).trans (((ih i x y h).cons u).trans (List.Perm.swap _ _ _))
    exact gen ks i _ _ hk
   have hB:=(hA.perm hp).tail;refine⟨hB.below,fun x hx=>?_,?_⟩
   ·obtain⟨j,hj,rfl⟩:=gj.1 hx;have kF:j<ks.length:=by simpa using hj
    rw [List.getElem_set]
    split
    ·refine .qj Df ⟨?_,h5,h6,.inr ⟨w.heap.size,0,cs.toArray,O,hS.below.size,heap_alloc_new w.drew _,by simp;omega,fun q hq=>?_⟩⟩
     ·simp [hl]
     ·have hq':q<k.n+m:=hq;show cs.toArray[0+q]?=(k.vs++ (List.range m).map f)[q]?;rw [<-h8];simp [rB,hq']
    ·rename_i cS;refine hB.own _ (gj.2 ⟨j,by simpa using kF,?_⟩);rw [List.getElem_set,aR cS]
   ·have h9:=hB.apart;rw [show(ks.set i ⟨some ⟨w.heap.size,0,none⟩,k.n+m,c2,k.e,k.vs++ (List.range m).map f⟩).filterMap Ck.il=(ks.set i ⟨some ⟨w.heap.size,0,none⟩,cs.length,cs.length,k.e,cs⟩).filterMap Ck.il from ?_]
    ·exact h9
    ·have:=Fj Ck.il (ks.set i ⟨some ⟨w.heap.size,0,none⟩,cs.length,cs.length,k.e,cs⟩) i ⟨some ⟨w.heap.size,0,none⟩,cs.length,cs.length,k.e,cs⟩ ⟨some ⟨w.heap.size,0,none⟩,k.n+m,c2,k.e,k.vs++ (List.range m).map f⟩ (by rw [n3];simp [yQ]) O;rw [<-this];simp
  have I8:((k.n+m:Nat):Int)<=9223372036854775807:=by simp only [maxLen]at oh;omega
  rcases h4 with⟨hA,h0⟩ | ⟨g,o,cur,hA,hg,hh,lP,hc⟩
  ·have qT:k.n=0:=by omega
   have zd:k.vs=[]:=lg (by omega);have hr:=run_append_nil (P:=P) w t ty k.e inf z hU.out hi fp a m c' _ (by rw [gL,hs,Nat.mul_one]) vE (by omega) (by omega) (by rw [iq];rw [qT,Nat.zero_add]at mr;omega);have ui:=grownCap_ge w m 0 k.e;refine⟨_,_,_,?_,fresh (((List.range m).map f)++List.replicate (grownCap w m 0 k.e - m) z0) (grownCap w m 0 k.e) (D7 (vL rJ) (by intro hn;have:=aL List.length hn;simp at this;omega)) (by omega) (grownCap_le_maxLen w m 0 k.e (by omega)) (by simp;omega) (by rw [zd,qT];simp),fun _=> (Below.refl w.heap.size w).drew.alloc (dC _) _⟩;have D4:Builtin.zeroCells z.cells (grownCap w m 0 k.e - m)=(List.replicate (grownCap w m 0 k.e - m) z0).toArray:=by
    rw [hz];simp only [Builtin.zeroCells];exact(show _=_ from by have:=GG z0 (grownCap w m 0 k.e - m);simpa [madeCells]using this)
   rw [hA,h0,qT,Nat.zero_add,hr,D4,List.append_toArray]
  ·by_cases DS:k.n+m<=k.c
   ·have hf:=run_firstCells_some (P:=P) w inf.size m a m c' _ (by rw [gL,hs,Nat.mul_one]) vE;have ax:=run_storeCells_at P g (o+k.n) k.e ((List.range m).map f) 0 cur w hh (by rw [gL];omega) rJ;simp only [Nat.add_zero]at ax;refine⟨some ⟨g,o,none⟩,k.c,_,?_,hS.turn (k:=k) (g:=g) hk (by simp [Ck.il,hA]) (by simp [Ck.il]) (w':=w.setRow g (cur.toList.take (o+k.n)++ (List.range m).map f++cur.toList.drop (o+k.n+ ((List.range m).map f).length)).toArray) ?_ ?_,fun h=>absurd DS (by omega)⟩
    ·rw [hA];simp [Builtin.append_,run_underlying hU.out,sizeOf,typeInfo,hi,hs,Builtin.lenOf,DS,Addr.add_lit];rw [hs]at hf;simp only [mf,tH]at ax|-;simp [hf,ax]
    ·exact⟨⟨O,O,O,by simp,fun x _ hx=>setRow_other w g x _ (fun e=>hx (by rw [e]))⟩,dC _⟩
    ·refine .qj Df ⟨by simp [hl],DS,rW,.inr ⟨g,o,_,O,hg,setRow_heap w g cur _ k.e _ hh,?_,fun j hj=>?_⟩⟩
     ·simp;omega
     ·have kF:j<k.n+m:=hj;show((cur.toList.take (o+k.n)++ (List.range m).map f++cur.toList.drop (o+k.n+ ((List.range m).map f).length)).toArray)[o+j]?=(k.vs++ (List.range m).map f)[j]?;have bE:cur.toList.length=cur.size:=by simp
      rw [List.getElem?_toArray]
      by_cases s4:j<k.n
      ·rw [fK,lh (by simp;omega),rB,aT (by omega),lh (by omega)];rw [Array.getElem?_toList];exact hc j s4
      ·rw [fK,jW (by simp;omega),lh (by simp;omega),jW (by omega)]
       congr 1
       simp;omega
   ·have holds:∀j v,k.vs[j]?=some v->w.cell? ((⟨g,o,none⟩:Addr).add j)=some v:=by
     intro j v hj;have s4:j<k.n:=by have:=(gw.1 hj).1;omega
     rw [zL];simp only [World.cell?,hh];simpa [hc j s4]using hj
    have hr:=run_append_grow (P:=P) w t ty k.e inf z hU.out hi fp ⟨g,o,none⟩ k.n k.c k.vs (by rw [hl,hs,Nat.mul_one]) holds a m c' _ (by rw [gL,hs,Nat.mul_one]) vE (by omega) I8 (growslice_fits (by omega) (by rw [iq];exact mr));have ui:=grownCap_ge w (k.n+m) k.c k.e;refine⟨_,_,_,?_,fresh (k.vs++ (List.range m).map f++List.replicate (grownCap w (k.n+m) k.c k.e - (k.n+m)) z0) (grownCap w (k.n+m) k.c k.e) (D7 Df (by intro hn;have:=aL List.length hn;simp at this;omega)) (by omega) (grownCap_le_maxLen w (k.n+m) k.c k.e oh) (by simp [hl];omega) (by rw [zF (by simp [hl])];exact kA (by simp [hl])),fun _=> (Below.refl w.heap.size w).drew.alloc (dC _) _⟩;have D4:Builtin.zeroCells z.cells (grownCap w (k.n+m) k.c k.e - (k.n+m))=(List.replicate (grownCap w (k.n+m) k.c k.e - (k.n+m)) z0).toArray:=by
     rw [hz];simp only [Builtin.zeroCells];exact(show _=_ from by have:=GG z0 (grownCap w (k.n+m) k.c k.e - (k.n+m));simpa [madeCells]using this)
    rw [hA,hr,D4,List.append_toArray,List.append_toArray]
theorem ak.app{el:ad}{b:Nat}[hU:bP P t (.slice el)][bO P el z 1 b]{k:Ck}(i:Nat){m:Nat}{f:Nat->ab}(hS:St w0 w ks)(hk:ks[i]?=some k)(hR:Rd w A' m f)(hx:ev e x= .slice k.A k.n k.c)(hy:ev e y= .slice A' m c')(he:k.e=el)(hz:z.cells= #[z0])(h1:∀j,j<m->(f j).oneCell'=true)(oh:k.n+m<=maxLen)(mr:(k.n+m)*b<=140737488355328)(hb:Nat.blt d N=true)(hK:∀A2 c2 w',St w0 w' (ks.set i ⟨A2,k.n+m,c2,el,k.vs++ (List.range m).map f⟩)->ak P N ops K rest (bC e d (.slice A2 (k.n+m) c2)) w')(hM:eT k.vs=false:=by first | rfl | exact tf _ | exact Gr _ | exact BG _):
 ak P N ops K (⟨some d,.call ⟨.builtin .append, #[x,y], #[t,t]⟩,ty,pos,af,none⟩::rest) e w:=by
 obtain⟨A2,c2,w',hr,l8,_⟩:=Th (P:=P) (t:=t) hz i hS hk hM he hR h1 oh mr ty (c':=c');refine .val (w':=w') ?_ hb (hK _ _ _ l8);simp [execOp,resolve,invoke,builtin,hx,hy,hr]
theorem ak.VZ{el:ad}{b:Nat}[hU:bP P t (.slice el)][bO P el z 1 b]{k:Ck}(i:Nat){m:Nat}{f:Nat->ab}(JR:k.n=k.c)(hS:St w0 w ks)(hk:ks[i]?=some k)(hR:Rd w A' m f)(hx:ev e x= .slice k.A k.n k.c)(hy:ev e y= .slice A' m c')(he:k.e=el)(hz:z.cells= #[z0])(h1:∀j,j<m->(f j).oneCell'=true)(oh:k.n+m<=maxLen)(mr:(k.n+m)*b<=140737488355328)(hb:Nat.blt d N=true)(hK:∀A2 c2 w',Below w.heap.size w w'->St w0 w' (ks.set i ⟨A2,k.n+m,c2,el,k.vs++ (List.range m).map f⟩)->ak P N ops K rest (bC e d (.slice A2 (k.n+m) c2)) w')(hM:eT k.vs=false:=by first | rfl | exact tf _ | exact Gr _ | exact BG _):
 ak P N ops K (⟨some d,.call ⟨.builtin .append, #[x,y], #[t,t]⟩,ty,pos,af,none⟩::rest) e w:=by
 obtain⟨A2,c2,w',hr,l8,mY⟩:=Th (P:=P) (t:=t) hz i hS hk hM he hR h1 oh mr ty (c':=c');refine .val (w':=w') ?_ hb (hK _ _ _ (mY JR) l8);simp [execOp,resolve,invoke,builtin,hx,hy,hr]
end
inductive Yd where
 | ex (v:ab)
 | pr (p:ab->aa->Prop)
def Yd.holds:Yd->ab->aa->Prop
 | .ex v,u,_=>u=v
 | .pr p,u,w=>p u w
def Yd.o7:Yd->Prop
 | .ex _=>True
 | .pr p=>∀v w w',p v w->Below w.heap.size w w'->p v w'
theorem Yd.aee(v:ab):(Yd.ex v).o7:=True.intro
theorem lx{v:ab}{l:List Yd}(h:∀y∈l,y.o7):∀y∈Yd.ex v::l,y.o7:=cg.2 ⟨True.intro,h⟩
theorem Yd.cH{p:ab->aa->Prop}(h:∀v w w',p v w->Below w.heap.size w w'->p v w'):(Yd.pr p).o7:=h
abbrev xU:Yd:= .ex undef
abbrev xI(i:Int):Yd:= .ex (aj i)
abbrev xB(b:Bool):Yd:= .ex (.bool b)
abbrev xP(a:ai):Yd:= .ex (.pointer a)
abbrev xS(a:ai)(n c:Nat):Yd:= .ex (.slice a n c)
theorem VE{y:Yd}(hl:y.o7){v:ab}{w w':aa}(h:y.holds v w)(hb:Below w.heap.size w w'):y.holds v w':=by
 cases y with
 | ex u=>exact h
 | pr p=>exact hl v w w' h hb
def gg(ds:List Nat)(i:Nat):Bool:=match ds with
 | []=>false
 | d::r=>bif Nat.beq i d then true else gg r i
theorem xQ{ds:List Nat}{i:Nat}:gg ds i=true↔i∈ds:=by
 induction ds with
 | nil=>simp [gg]
 | cons d r ih=>
  simp only [gg,ij];cases hb:Nat.beq i d with
  | true=>simp [mO hb]
  | false=>
   have:i≠d:=fun e=>by subst e;simp at hb
   simp [this,ih]
def mix(e1 e:Env)(ds:List Nat):Env:=fun i=>bif gg ds i then e1 i else e i
def fk(o:Oper):List Edge:=o.after.toList.filter (Region.binds .any)
theorem pa{o:Oper}{ed:Edge}:ed∈fk o↔ed∈o.after/\Region.binds .any ed=true:=by
 simp [fk]
def eY(o:Oper):Nat:=match o.dst with
 | some d=>d
 | none=>0
def NZ(N:Nat)(l:List Oper):Bool:=
 l.all (fun o=>match o.dst with | some d=>Nat.blt d N | none=>false) && decide ((l.map eY).Nodup) && (l.zipIdx.all fun p=> (fk p.1).all fun ed=>Nat.blt ed.on p.2)
def sQ(l:List Oper)(ys:List Yd):List Edge->List (Nat×ab)
 | []=> []
 | ed::r=>match ys[ed.on]? with
  | some (.ex v)=> (((l[ed.on]?).map eY).getD 0,v)::sQ l ys r
  | _=>sQ l ys r
def tS:List Oper->List Yd->(Nat->ab)->Nat->List (Nat×ab)
 | o::l,.ex v::ys,u,i=> (eY o,v)::tS l ys u (i+1)
 | o::l,.pr _::ys,u,i=> (eY o,u i)::tS l ys u (i+1)
 | _,_,_,_=> []
def jd(l:List Oper):Nat->Nat->Nat->Bool
 | 0,_,_=>false
 | f+1,k,j=>match l[k]? with
  | some o=> (fk o).any fun ed=>Nat.beq ed.on j || jd l f ed.on j
  | none=>false
theorem wA{l:List Oper}{listed:Array Bool}(bE:∀(i:Nat) (o:Oper),listed.getD i false=true->l[i]?=some o->∀ed∈fk o,listed.getD ed.on false=true):∀(f k j:Nat),jd l f k j=true->listed.getD k false=true->listed.getD j false=true
 | 0,k,j,h,_=>by simp [jd]at h
 | f+1,k,j,h,hk=>by
  simp only [jd]at h
  split at h
  ·rename_i o ho;rw [List.any_eq_true]at h;obtain⟨ed,fh,h⟩:=h;have h1:=bE k o hk ho ed fh;rw [Bool.or_eq_true]at h;rcases h with h | h
   ·rw [<-mO h];exact h1
   ·exact wA bE f ed.on j h h1
  ·cases h
theorem HI{l:List Oper}{listed:Array Bool}(bE:∀(i:Nat) (o:Oper),listed.getD i false=true->l[i]?=some o->∀ed∈fk o,listed.getD ed.on false=true){k:Nat}{o:Oper}(ho:l[k]?=some o)(hr:∀ed∈fk o,listed.getD ed.on false=true):∀(f j:Nat),jd l f k j=true->listed.getD j false=true
 | 0,j,h=>by simp [jd]at h
 | f+1,j,h=>by
  simp only [jd,ho]at h;rw [List.any_eq_true]at h;obtain⟨ed,fh,h⟩:=h;have h1:=hr ed fh;rw [Bool.or_eq_true]at h;rcases h with h | h
  ·rw [<-mO h];exact h1
  ·exact wA bE f ed.on j h h1
section
variable{id:Nat}{e1:Env}{w1 w2 w:aa}{y:Yd}{ops:Array Oper}{o:Oper}
variable {P:Program} {N:Nat} {e:Env} {w:aa}
def e6(i:Nat)(e1:Env)(w1:aa)(d:Nat)(y:Yd):Env->aa->Prop:=fun e2 w2=>Below w1.heap.size w1 w2/\y.holds (e2 d) w2/\∀j,j≠d->e2 j=e1 j
theorem e6.dn{i:Nat}{d:Nat}{v:ab}(hb:Below w1.heap.size w1 w2)(hv:y.holds v w2):e6 i e1 w1 d y (bC e1 d v) w2:=by
 refine⟨hb,?_,fun j hj=>?_⟩
 ·have:bC e1 d v d=v:=by unfold bC;rw [Nat.beq_refl];rfl
  rw [this];exact hv
 ·have:Nat.beq j d=false:=by
   cases h:Nat.beq j d with
   | false=>rfl
   | true=>exact absurd (mO h) hj
  unfold bC;rw [this];rfl
theorem d0{i:Nat}{d:Nat}{v:ab}(hv:y.holds v w1):e6 i e1 w1 d y (bC e1 d v) w1:=e6.dn (Below.refl _ _) hv
theorem Az{i:Nat}{d:Nat}{v:ab}(hv:y.holds v w1:=by exact O):ak P N ops (e6 i e1 w1 d y) [] (bC e1 d v) w1:=ak.n (e6.dn (Below.refl _ _) hv)
def tv(ops:Array Oper)(N:Nat)(e:Env)(o:Oper):Option (Nat×ab):=
 match o.guard with
 | none=>rm N e o
 | some (j,want)=>match o.dst,(ops[j]?).bind (·.dst)with
  | some d,some dj=> (match Nat.blt dj N,Nat.blt d N with
   | true,true=> (match e dj with
    | .bool b=> (match b,want with
     | true,true=>rm N e ⟨some d,o.op,o.type,o.pos,o.after,none⟩
     | false,false=>rm N e ⟨some d,o.op,o.type,o.pos,o.after,none⟩
     | true,false=>some (d,undef)
     | false,true=>some (d,undef))
    | .tuple vs=> (match vs.toList with
     | []=>some (d,undef)
     | _=>none)
    | _=>none)
   | _,_=>none)
  | _,_=>none
theorem ak.tv{K:Env->aa->Prop}{d:Nat}{v:ab}(h:tv ops N e1 o=some (d,v))(hK:K (bC e1 d v) w1):ak P N ops K [o] e1 w1:=by
 obtain⟨dst,op,ty,pos,af,gd⟩:=o;unfold Vc.tv at h
 split at h
 ·exact .rm h (ak.n hK)
 rename_i j want hg;simp only at hg;subst hg
 split at h
 ·rename_i d' dj hd hj;simp only at hd;subst hd
  split at h
  ·rename_i eL hb
   split at h
   ·rename_i b he
    split at h
    ·exact ajl hj eL he (.rm h (ak.n hK))
    ·exact ajl hj eL he (.rm h (ak.n hK))
    ·simp only [mh,Prod.mk.injEq]at h;obtain⟨rfl,rfl⟩:=h;exact ajm hj eL he O hb (ak.n hK)
    simp only [mh,Prod.mk.injEq]at h;obtain⟨rfl,rfl⟩:=h;exact ajm hj eL he O hb (ak.n hK)
   ·rename_i vs he
    split at h
    ·rename_i hv;have hu:vs= #[]:=by cases vs;simp only at hv;rw [hv]
     subst hu;simp only [mh,Prod.mk.injEq]at h;obtain⟨rfl,rfl⟩:=h;exact iA hj eL he hb (ak.n hK)
    cases h
   cases h
  cases h
 cases h
theorem TD{d:Nat}{v:ab}(h:tv ops N e1 o=some (d,v)):o.dst=some d:=by
 have key:∀(o:Oper),rm N e1 o=some (d,v)->o.dst=some d:=fun o h=>by
  unfold rm at h
  split at h
  ·rename_i d' hg hd
   split at h
   ·split at h
    ·simp only [mh,Prod.mk.injEq]at h;rw [hd,h.1]
    cases h
   cases h
  cases h
 unfold tv at h
 split at h
 ·exact key _ h
 split at h
 ·rename_i d' dj hd hj;rw [hd]
  split at h
  ·split at h
   ·split at h
    ·exact key _ h
    ·exact key _ h
    ·simp only [mh,Prod.mk.injEq]at h;rw [h.1]
    simp only [mh,Prod.mk.injEq]at h;rw [h.1]
   ·split at h
    ·simp only [mh,Prod.mk.injEq]at h;rw [h.1]
    cases h
   cases h
  cases h
 cases h
theorem Dk{i:Nat}{d:Nat}{v:ab}(h:tv ops N e1 o=some (d,v))(hv:y.holds v w1):ak P N ops (e6 i e1 w1 d y) [o] e1 w1:= .tv h (e6.dn (Below.refl _ _) hv)
def VF:Yd->Bool
 | .ex _=>true
 | .pr _=>false
theorem eE{l:List Yd}(h:l.all VF=true):∀y∈l,y.o7:=fun y hy=>by
 have:=List.all_eq_true.1 h y hy;cases y with
 | ex v=>exact True.intro
 | pr p=>cases this
def Cu(P:Program)(N:Nat)(l:List Oper)(ys:List Yd)(e:Env)(w:aa):Nat->List Oper->Prop
 | _,[]=>True
 | i,o::r=> (∀e1 w1,Below w.heap.size w w1->(∀j,j<l.length->gg ((fk o).map (·.on)) j=true->∀(y:Yd) (o':Oper),ys[j]?=some y->l[j]?=some o'->y.holds (e1 (eY o')) w1)->(∀(j:Nat) (o':Oper),l[j]?=some o'->jd l l.length j i=true->e1 (eY o')=e (eY o'))-> 
  ak P N l.toArray (e6 i (ext (mix e1 e (l.map eY)) (sQ l ys (fk o))) w1 (eY o) (ys.getD i (.pr fun _ _=>True))) [o] (ext (mix e1 e (l.map eY)) (sQ l ys (fk o))) w1)/\Cu P N l ys e w (i+1) r
theorem Dr{l:List Oper}{ys:List Yd}{i:Nat}{d:Nat}{v:ab}(h:(ys.getD i (.pr fun _ _=>True),fun e1=>tv l.toArray N (ext (mix e1 e (l.map eY)) (sQ l ys (fk o))) o)=(.ex v,fun _=>some (d,v))):∀e1 w1,Below w.heap.size w w1->(∀j,j<l.length->gg ((fk o).map (·.on)) j=true->∀(y:Yd) (o':Oper),ys[j]?=some y->l[j]?=some o'->y.holds (e1 (eY o')) w1)->(∀(j:Nat) (o':Oper),l[j]?=some o'->jd l l.length j i=true->e1 (eY o')=e (eY o'))->ak P N l.toArray (e6 i (ext (mix e1 e (l.map eY)) (sQ l ys (fk o))) w1 (eY o) (ys.getD i (.pr fun _ _=>True))) [o] (ext (mix e1 e (l.map eY)) (sQ l ys (fk o))) w1:=fun e1 w1 _ _ _=>by
 have h1:=congrFun (Prod.mk.inj h).2 e1;have hd:eY o=d:=by unfold eY;rw [TD h1]
 rw [hd,(Prod.mk.inj h).1];exact Dk h1 rfl
theorem Cu.get{l:List Oper}{ys:List Yd}:∀ {r:List Oper} {i:Nat},Cu P N l ys e w i r->∀k o,r[k]?=some o->∀e1 w1,Below w.heap.size w w1->(∀j,j<l.length->gg ((fk o).map (·.on)) j=true->∀(y:Yd) (o':Oper),ys[j]?=some y->l[j]?=some o'->y.holds (e1 (eY o')) w1)->(∀(j:Nat) (o':Oper),l[j]?=some o'->jd l l.length j (i+k)=true->e1 (eY o')=e (eY o'))-> 
 ak P N l.toArray (e6 (i+k) (ext (mix e1 e (l.map eY)) (sQ l ys (fk o))) w1 (eY o) (ys.getD (i+k) (.pr fun _ _=>True))) [o] (ext (mix e1 e (l.map eY)) (sQ l ys (fk o))) w1
 | [],_,_,k,o,hk=>by simp at hk
 | x::r,i,h,0,o,hk=>by simp at hk;subst hk;exact h.1
 | x::r,i,h,k+1,o,hk=>by
  have:=Cu.get h.2 k o (by simpa using hk);simpa [Nat.add_assoc,Nat.add_comm 1 k]using this
theorem Hu{a:Act}{K K2:Act->aa->Prop}{Q Q2:Exit->Act->aa->Prop}(h:o.wp P a w K Q)(hK:∀a w,K a w->K2 a w)(hQ:∀x a w,x≠ .normal->¬Q x a w):o.wp P a w K2 Q2:=by
 unfold Oper.wp at*;generalize (execOp a.eval o).run P w=r at*;cases r with
 | ok n w'=>
  cases n<;>simp only [Oper.upon]at h|-<;>first
   | exact hK _ _ h
   | (
    refine Calls.mono h fun x fX hx=>?_
    cases x with
    | returned v=>exact hK _ _ hx
    | panicked ch=>exact absurd hx (hQ _ _ _ (by simp))
    | outgrown=>obtain⟨a0,w0,hx⟩:=hx;exact absurd hx (hQ _ _ _ (by simp)))
   | exact Rows.mono h fun v fX hx=>hK _ _ hx
 | halt x w'=>
  cases x<;>simp only [Oper.upon]at h|-
  exact absurd h (hQ _ _ _ (by simp))
theorem GH{e:Env}{ds:List Nat}(h:∀j,gg ds j=false->e1 j=e j):mix e1 e ds=e1:=by
 funext j;unfold mix;cases hm:gg ds j with
 | true=>rfl
 | false=>exact(h j hm).symm
theorem NW{l:List Oper}{ys:List Yd}{e1:Env}{w1:aa}:∀(af:List Edge),(∀ed∈af,ed.on<l.length)->(∀j,gg (af.map (·.on)) j=true->∀(y:Yd) (o':Oper),ys[j]?=some y->l[j]?=some o'->y.holds (e1 (eY o')) w1)->Mt e1 (sQ l ys af)
 | [],_,_=>aw
 | ed::r,eL,h=>by
  have hr:=NW r (fun x hx=>eL x (eb _ hx)) (fun j hj=>h j (by rw [xQ]at hj|-;exact eb _ hj));unfold sQ
  split
  ·rename_i v hy;have hl:=eL ed (by simp);refine⟨?_,hr⟩;rw [fU hl];exact h ed.on (by rw [xQ];simp) _ _ hy (fU hl)
  ·exact hr
theorem N5{e1 e:Env}{w1:aa}:∀(l:List Oper) (ys:List Yd) (i:Nat),l.length=ys.length->(l.map eY).Nodup->(∀(k:Nat) (y:Yd) (o:Oper),ys[k]?=some y->l[k]?=some o->y.holds (e1 (eY o)) w1)->
 ∃u:Nat->ab,ext e (tS l ys u i)=mix e1 e (l.map eY)/\(∀(k:Nat) (o:Oper),l[k]?=some o->u (i+k)=e1 (eY o))
 | [],[],i,_,_,_=> ⟨fun _=>undef,by funext j;rfl,fun k o h=>by simp at h⟩
 | [],y::ys,i,hl,_,_=>by simp at hl
 | o::l,[],i,hl,_,_=>by simp at hl
 | o::l,y::ys,i,hl,hn,h=>by
  simp only [List.map_cons,kz]at hn;obtain⟨u,hu,pY⟩:=N5 (e1:=e1) (e:=e) (w1:=w1) l ys (i+1) (by simpa using hl) hn.2 (fun k y o hy ho=>h (k+1) y o (by simpa using hy) (by simpa using ho));have h0:=h 0 y o O O;have Ib:∀(l:List Oper) (ys:List Yd) (i:Nat) (u u':Nat->ab),(∀k,i<=k->u k=u' k)->tS l ys u i=tS l ys u' i:=by
   intro l
   induction l with
   | nil=>intros;rfl
   | cons o l ih=>
    intro ys i u u' hk;cases ys with
    | nil=>rfl
    | cons y ys=>
     cases y with
     | ex v=>simp only [tS];rw [ih ys (i+1) u u' (fun k eN=>hk k (by omega))]
     | pr p=>simp only [tS];rw [ih ys (i+1) u u' (fun k eN=>hk k (by omega)),hk i (by omega)]
  refine⟨fun k=>if k=i then e1 (eY o)else u k,?_,fun k o' hk=>?_⟩
  ·have hc:=Ib l ys (i+1) (fun k=>if k=i then e1 (eY o)else u k) u (fun k hk=>by rw [aR (by omega)]);have ib:∀v,v=e1 (eY o)->bC (mix e1 e (l.map eY)) (eY o) v=mix e1 e ((o::l).map eY):=by
    intro v hv;funext j;simp only [bC,mix,List.map_cons,gg];cases hb:Nat.beq j (eY o)with
    | true=>rw [mO hb,hv];rfl
    | false=>rfl
   cases y with
   | ex v=>
    simp only [tS,ext,hc,hu];exact ib v h0.symm
   | pr p=>
    simp only [tS,ext,hc,hu,aT];exact ib _ O
  ·cases k with
   | zero=>simp at hk;subst hk;simp
   | succ k=>
    have:=pY k o' (by simpa using hk);show(if i+ (k+1)=i then _ else u (i+ (k+1)))=_;rw [aR (by omega),<-this];congr 1;omega
theorem zZ(p p':Nat->Bool)(i:Nat)(hi:p i=false)(hp:∀k,p' k=if k=i then true else p k):∀(l:List Nat),l.Nodup->i∈l->l.countP p'=l.countP p+1
 | [],_,h=>by cases h
 | x::l,hn,h=>by
  have abv:∀(l:List Nat),¬i∈l->l.countP p'=l.countP p:=by
   intro l hl;exact List.countP_congr fun k hk=>by rw [hp k,aR (by rintro rfl;exact hl hk)]
  simp only [kz]at hn;simp only [List.countP_cons]
  by_cases hx:x=i
  ·subst hx;rw [abv l hn.1,hp x,aT rfl,hi];simp
  ·have s3:i∈l:=by
    rcases ij.1 h with h | h
    ·exact absurd h.symm hx
    ·exact h
   rw [zZ p p' i hi hp l hn.2 s3,hp x,aR hx];omega
theorem ajv{l:List Oper}{Q:jr}(ys:List Yd)(hm:P.follows .mixedOrders=true)(bz:NZ N l=true)(hlen:Nat.beq l.length ys.length=true)(Ga:∀y∈ys,y.o7)
 (DW:Cu P N l ys e w 0 l) (vx:∀u w1,Below w.heap.size w w1->(∀(k:Nat) (p:ab->aa->Prop),ys[k]?=some (Yd.pr p)->p (u k) w1)->Q .normal (ext e (tS l ys u 0)) w1):Cd P N (.region id l.toArray true) Q e w:= .mk' fun a ha=>by
 have qR:l.length=ys.length:=mO hlen;simp only [NZ,Bool.and_eq_true,List.all_eq_true,nB]at bz;obtain⟨⟨h1,h2⟩,h3⟩:=bz;have aav:∀(i:Nat) (o:Oper),l[i]?=some o->∃d,o.dst=some d/\eY o=d/\d<N:=by
  intro i o ho;have:=h1 o (List.mem_of_getElem? ho);cases hd:o.dst with
  | none=>rw [hd]at this;cases this
  | some d=>rw [hd]at this;exact⟨d,rfl,by simp [eY,hd],by simpa [Nat.blt_eq]using this⟩
 have Z5:∀(i:Nat) (o:Oper),l[i]?=some o->∀ed∈fk o,ed.on<i/\Region.binds .any ed=true:=by
  intro i o ho ed fh;have:=h3 (o,i) (by
   obtain⟨hi,xn⟩:=gw.1 ho;rw [List.mem_iff_getElem?];exact⟨i,by simp [ho]⟩)
  exact⟨by simpa [Nat.blt_eq]using this ed fh,(pa.1 fh).2⟩
 have vu:∀(i:Nat) (o:Oper),l[i]?=some o->∀ed∈fk o,ed.on<i:=fun i o ho ed fh=> (Z5 i o ho ed fh).1
 refine wp_region_any hm ?_;have key:∀(fuel:Nat) (listed:Array Bool) (a1:Act) (e1:Env) (w1:aa),js N a1 e1->Below w.heap.size w w1->(∀j,gg (l.map eY) j=false->e1 j=e j)->listed.size=l.length->
  (∀(i:Nat) (y:Yd) (o:Oper),listed.getD i false=true->ys[i]?=some y->l[i]?=some o->y.holds (e1 (eY o)) w1)->(∀(i:Nat) (o:Oper),listed.getD i false=true->l[i]?=some o->∀ed∈fk o,listed.getD ed.on false=true)->(∀(i:Nat) (o:Oper),listed.getD i false=false->l[i]?=some o->e1 (eY o)=e (eY o))->(l.length - fuel<=(List.range l.length).countP fun i=>listed.getD i false)->
  wpAny P .any l.toArray (low N Q) fuel listed a1 w1:=by
  have iV:∀(listed:Array Bool) (a1:Act) (e1:Env) (w1:aa),js N a1 e1->Below w.heap.size w w1->(∀j,gg (l.map eY) j=false->e1 j=e j)->
   (∀(i:Nat) (y:Yd) (o:Oper),listed.getD i false=true->ys[i]?=some y->l[i]?=some o->y.holds (e1 (eY o)) w1)->(∀i,i<l.length->listed.getD i false=true)->low N Q .normal a1 w1:=by
   intro listed a1 e1 w1 hr hb oZ hS cO;obtain⟨u,hu,pY⟩:=N5 (e1:=e1) (e:=e) (w1:=w1) l ys 0 qR h2 (fun k y o hy ho=>hS k y o (cO k (gw.1 ho).1) hy ho);refine⟨e1,hr,?_⟩;have:=vx u w1 hb (fun k p hk=>by
    have ji:k<l.length:=by rw [qR];exact(gw.1 hk).1
    have h5:=hS k _ l[k] (cO k ji) hk (fU ji);have h6:=pY k l[k] (fU ji);rw [Nat.zero_add]at h6;rw [h6];exact h5)
   rw [hu,GH oZ]at this;exact this
  have DQ:∀(listed:Array Bool),listed.size=l.length->Region.ready .any l.toArray listed=[]->∀i,i<l.length->listed.getD i false=true:=by
   intro listed lP mx i
   induction i using Nat.strongRecOn with
   | _ i ih=>
    intro hi;cases um:listed.getD i false with
    | true=>rfl
    | false=>
     exfalso;have:i∈Region.ready .any l.toArray listed:=by
      rw [mem_ready];refine⟨?_,l[i],by simp [hi],fun ed fh gQ=>ih ed.on (vu i _ (fU hi) ed (pa.2 ⟨fh,gQ⟩)) (by have:=vu i _ (fU hi) ed (pa.2 ⟨fh,gQ⟩);omega)⟩;rw [iI,pv (by omega)]at um|-;exact um
     rw [mx]at this;cases this
  intro fuel
  induction fuel with
  | zero=>
   intro listed a1 e1 w1 hr hb oZ lP hS bE zc lq;have cO:∀i,i<l.length->listed.getD i false=true:=by
    have h4:(List.range l.length).countP (fun i=>listed.getD i false)=(List.range l.length).length:=by
     have:=List.countP_le_length (p:=fun i=>listed.getD i false) (l:=List.range l.length);simp at this lq|-;omega
    rw [List.countP_eq_length]at h4;intro i hi;exact h4 i (by simpa using hi)
   refine⟨?_,iV listed a1 e1 w1 hr hb oZ hS cO⟩;rw [List.eq_nil_iff_forall_not_mem];intro i hi;obtain⟨h5,o,ho,_⟩:=mem_ready.1 hi;have pP:i<l.length:=by
    rcases Nat.lt_or_ge i l.length with h | h
    ·exact h
    ·simp [qy h]at ho
   have h6:=cO i pP;rw [iI,pv (by omega)]at h5 h6;simp at h5 h6;rw [h5]at h6;cases h6
  | succ fuel ih=>
   intro listed a1 e1 w1 hr hb oZ lP hS bE zc lq;refine⟨fun mx=>iV listed a1 e1 w1 hr hb oZ hS (DQ listed lP mx),fun i hi=>?_⟩;obtain⟨bc,o,ho,AM⟩:=mem_ready.1 hi;have kV:l[i]?=some o:=by simpa using ho
   have pP:i<l.length:=(gw.1 kV).1;obtain⟨d,hd,hdo,hdN⟩:=aav i o kV;have Qc:∀j,gg ((fk o).map (·.on)) j=true->∀(y:Yd) (o':Oper),ys[j]?=some y->l[j]?=some o'->y.holds (e1 (eY o')) w1:=by
    intro j hj y o' hy yV;rw [xQ,eh]at hj;obtain⟨ed,fh,rfl⟩:=hj;exact hS _ y o' (AM ed (pa.1 fh).1 (pa.1 fh).2) hy yV
   have gF:∀ed∈fk o,listed.getD ed.on false=true:=fun ed fh=>AM ed (pa.1 fh).1 (pa.1 fh).2
   have sk:listed.getD i false=false:=by
    have h5:=bc;rw [iI,pv (by omega)]at h5|-;exact h5
   have ot:∀k,(listed.setIfInBounds i true).getD k false=if k=i then true else listed.getD k false:=by
    intro k;rw [iI,ru]
    by_cases fo:k=i
    ·subst fo;rw [aT rfl,aT (by omega),aT rfl];rfl
    ·rw [aR (fun e=>fo e.symm),aR fo,<-iI]
   have ax:=DW.get i o kV e1 w1 hb (fun j _ hj=>Qc j hj) (fun j o' hj ud=>by
    refine zc j o' ?_ hj;cases vA:listed.getD j false with
    | false=>rfl
    | true=>
     have:=wA bE _ _ _ ud vA;rw [Nat.zero_add,sk]at this;cases this)
   rw [GH oZ,yo (NW (fk o) (fun ed fh=>by have:=vu i o kV ed fh;omega) Qc),Nat.zero_add]at ax;have mB:=ax.run a1 hr;have pR:∀a2 w2,(∃e2,js N a2 e2/\e6 i e1 w1 (eY o) (ys.getD i (.pr fun _ _=>True)) e2 w2)->wpAny P .any l.toArray (low N Q) fuel (listed.setIfInBounds i true) a2 w2:=by
    intro a2 w2 ⟨e2,xy,gP,uB,AO⟩;have km:Below w.heap.size w w2:=hb.trans (gP.mono hb.size);refine ih _ a2 e2 w2 xy km (fun j hj=>?_) (by simpa using lP) (fun k y o' hk hy bz=>?_) (fun k o' hk bz ed fh=>?_) (fun k o' hk bz=>?_) ?_
    ·have cS:j≠eY o:=by
      rintro rfl;have:gg (l.map eY) (eY o)=true:=by rw [xQ];exact eh.2 ⟨o,List.mem_of_getElem? kV,O⟩
      rw [this]at hj;cases hj
     rw [AO j cS];exact oZ j hj
    ·by_cases fo:k=i
     ·subst fo;rw [kV]at bz;cases bz;have:ys.getD k (.pr fun _ _=>True)=y:=by simp [dt,hy]
      rw [this]at uB;exact uB
     ·have eN:listed.getD k false=true:=by
       rw [iI,ru,aR (by omega),<-iI]at hk;exact hk
      have h7:=hS k y o' eN hy bz;have cS:eY o'≠eY o:=by
       intro heq;have ji:=(gw.1 bz).1;have h9:k=i:=(List.getElem_inj (xs:=l.map eY) (h₀:=by simpa using ji) (h₁:=by simpa using pP) h2).1 (by
        have e1:=(gw.1 bz).2;have e2:=(gw.1 kV).2;simp [e1,e2,heq])
       exact fo h9
      rw [AO _ cS];exact VE (Ga y (List.mem_of_getElem? hy)) h7 gP
    ·rw [ot]
     by_cases xj:ed.on=i
     ·rw [aT xj]
     ·rw [aR xj]
      by_cases fo:k=i
      ·subst fo;rw [kV]at bz;cases bz;exact gF ed fh
      ·rw [ot,aR fo]at hk;exact bE k o' hk bz ed fh
    ·rw [ot]at hk
     by_cases fo:k=i
     ·rw [aT fo]at hk;cases hk
     ·rw [aR fo]at hk;rw [AO _ (fun heq=>by
       have ji:=(gw.1 bz).1;have h9:k=i:=(List.getElem_inj (xs:=l.map eY) (h₀:=by simpa using ji) (h₁:=by simpa using pP) h2).1 (by
        have e1:=(gw.1 bz).2;have e2:=(gw.1 kV).2;simp [e1,e2,heq])
       exact fo h9)]
      exact zc k o' hk bz
    ·have Dt:(List.range l.length).countP (fun k=> (listed.setIfInBounds i true).getD k false)=(List.range l.length).countP (fun k=>listed.getD k false)+1:=by
      refine zZ (fun k=>listed.getD k false) (fun k=> (listed.setIfInBounds i true).getD k false) i ?_ (fun k=>?_) _ List.nodup_range (by simpa using pP)
      ·have h5:=bc;show listed.getD i false=false;rw [iI,pv (by omega)]at h5|-;exact h5
      ·show(listed.setIfInBounds i true).getD k false=if k=i then true else listed.getD k false
       rw [iI,ru]
       by_cases fo:k=i
       ·subst fo;rw [aT rfl,aT (by omega),aT rfl];rfl
       ·rw [aR (fun e=>fo e.symm),aR fo,<-iI]
     rw [Dt];omega
   unfold wpOp;rw [ho];unfold wpList at mB;show if _ then _ else _
   by_cases hw:Region.wanted o (yielded l.toArray a1.tmps)=true
   ·rw [aT hw]at mB|-;rcases mB with h5 | ⟨_,a0,w0,h5⟩
    ·refine .inl (Hu h5 (fun a2 w2 hx=>?_) (fun x a w hx hq=>hx hq.1));exact pR a2 w2 hx.2
    ·exact absurd h5.1 (by simp)
   ·rw [aR hw]at mB|-;exact pR _ _ mB.2
 refine key l.length (Array.replicate l.length false) a e _ ha ⟨⟨O,O,O,dC _,fun _ _=>O⟩,fun _=>Nat.le_add_right _ _⟩ (fun _ _=>O) (by simp) (fun i y o hi=>?_) (fun i o hi=>?_) (fun _ _ _ _=>O) (by omega)
 ·exfalso;rw [iI,Array.getElem?_replicate]at hi
  split at hi<;>simp at hi
 ·exfalso;rw [iI,Array.getElem?_replicate]at hi
  split at hi<;>simp at hi
theorem dQ{l:List Oper}{Q:jr}(ys:List Yd)(hlen:Nat.beq l.length ys.length=true)(Ga:∀y∈ys,y.o7)(DW:Cu P N l ys e w 0 l)(vx:∀u w1,Below w.heap.size w w1->(∀(k:Nat) (p:ab->aa->Prop),ys[k]?=some (Yd.pr p)->p (u k) w1)->Q .normal (ext e (tS l ys u 0)) w1)(hm:P.follows .mixedOrders=true:=by kernel_rfl)(bz:NZ N l=true:=by kernel_rfl):Cd P N (.region id l.toArray true) Q e w:=ajv ys hm bz hlen Ga DW vx
theorem nq{α:Type}{x y:Code}{Q:jr}(F:α->List (Nat×ab))(I:α->aa->Prop)(hx:Cd P N x (zw (fun e' w'=>∃s,Mt e' (F s)/\I s w') Q) e w)
 (hy:∀s e' w',I s w'->Cd P N y Q (ext e' (F s)) w'):Cd P N (.seq x y) Q e w:=
 .seq (hx.mono fun ex e' w' q=>by
  cases ex<;>first
   | exact q
   | (
    obtain⟨s,hm,hi⟩:=q;have:=hy s e' w' hi;rw [yo hm]at this;exact this))
end
section
variable{t:ad}{z z0:ab}{n0 c0 c':Nat}{x0 x y:ae}{A0 A':ai}{ys xs:ah}
variable {P:Program} {N:Nat} {ops:Array Oper} {K:Env->aa->Prop} {rest:List Oper} {e:Env} {w0 w w':aa} {ks:List Ck} {d:Nat} {ty:ad} {pos:String} {af:Array Edge}
theorem dE{el:ad}{b:Nat}[bP P t (.slice el)][bO P el z 1 b]{i:Int}(hS:St w0 w ks)(h0:ev e x0=aj i)(hz:z.cells= #[z])(hb:Nat.blt d N=true)(hK:∀A w',St w0 w' (ar el A 1 1 [i]::ks)->ak P N ops K rest (bC e d (.slice A 1 1)) w'):ak P N ops K (⟨some d,.buildSlice t 1 #[(0,x0)],ty,pos,af,none⟩::rest) e w:=
 .HW hS h0 rfl hz hb hK
theorem lU{el:ad}{b:Nat}[bP P t (.slice el)][bO P el z 1 b](hS:St w0 w ks)(h0:ev e x0= .slice A0 n0 c0)(hz:z.cells= #[z])(hb:Nat.blt d N=true)(hK:∀A w',St w0 w' (br el A 1 1 [⟨A0,n0,c0⟩]::ks)->ak P N ops K rest (bC e d (.slice A 1 1)) w'):ak P N ops K (⟨some d,.buildSlice t 1 #[(0,x0)],ty,pos,af,none⟩::rest) e w:=
 .HW hS h0 rfl hz hb hK
theorem Sp{m:Nat}(h:ys.length=m):(List.range m).map (fun j=>Value.int .i64 (ys.getD j 0))=ys.map (aj):=by
 subst h;apply jV
 ·simp
 intro i h1 h2;simp [dt,fU (show i<ys.length by simpa using h1)]
theorem aez{ys:List aX}{m:Nat}(h:ys.length=m):(List.range m).map (fun j=> (ys.getD j bW).v)=ys.map aX.v:=by
 subst h;apply jV
 ·simp
 intro i h1 h2;simp [dt,fU (show i<ys.length by simpa using h1)]
theorem ajw{el:ad}{b:Nat}[hU:bP P t (.slice el)][bO P el z 1 b](i:Nat){A:ai}{n c:Nat}{m:Nat}(hS:St w0 w ks)(hk:ks[i]?=some (ar el A n c xs))(hR:bt w A' m ys)(hx:ev e x= .slice A n c)(hy:ev e y= .slice A' m c')(hz:z.cells= #[z])(oh:n+m<=9223372036854775807)(mr:(n+m)*b<=140737488355328)(hb:Nat.blt d N=true)(hK:∀A2 c2 w',St w0 w' (ks.set i (ar el A2 (n+m) c2 (xs++ys)))->ak P N ops K rest (bC e d (.slice A2 (n+m) c2)) w'):
 ak P N ops K (⟨some d,.call ⟨.builtin .append, #[x,y], #[t,t]⟩,ty,pos,af,none⟩::rest) e w:=
 .app i hS hk hR.2 hx hy rfl hz (fun _ _=>rfl) (by simpa [maxLen]using oh) mr hb fun A2 c2 w' h=>hK A2 c2 w' (by
  rw [Sp hR.1]at h;simpa [ar]using h)
theorem dS{el:ad}{b:Nat}[hU:bP P t (.slice el)][bO P el z 1 b](i:Nat){A:ai}{n c:Nat}{m:Nat}(hS:St w0 w ks)(hk:ks[i]?=some (ar el A n c xs))(hR:bt w A' m ys)(hx:ev e x= .slice A n c)(hy:ev e y= .slice A' m c')(q9:(z.cells,Nat.blt d N)=(#[z],true))(hK:∀A2 c2 w',St w0 w' (ks.set i (ar el A2 (n+m) c2 (xs++ys)))->ak P N ops K rest (bC e d (.slice A2 (n+m) c2)) w')(oh:n+m<=9223372036854775807:=by omega)(mr:(n+m)*b<=140737488355328:=by omega):ak P N ops K (⟨some d,.call ⟨.builtin .append, #[x,y], #[t,t]⟩,ty,pos,af,none⟩::rest) e w:=ajw i hS hk hR hx hy (congrArg (fun p=>p.1) q9) oh mr (congrArg (fun p=>p.2) q9) hK
theorem MJ{el:ad}{b:Nat}[hU:bP P t (.slice el)][bO P el z 1 b](i:Nat){A:ai}{n c:Nat}{m:Nat}(JR:n=c)(hS:St w0 w ks)(hk:ks[i]?=some (ar el A n c xs))(hR:bt w A' m ys)(hx:ev e x= .slice A n c)(hy:ev e y= .slice A' m c')(hz:z.cells= #[z])(oh:n+m<=9223372036854775807)(mr:(n+m)*b<=140737488355328)(hb:Nat.blt d N=true)(hK:∀A2 c2 w',Below w.heap.size w w'->St w0 w' (ks.set i (ar el A2 (n+m) c2 (xs++ys)))->ak P N ops K rest (bC e d (.slice A2 (n+m) c2)) w'):
 ak P N ops K (⟨some d,.call ⟨.builtin .append, #[x,y], #[t,t]⟩,ty,pos,af,none⟩::rest) e w:=
 .VZ i JR hS hk hR.2 hx hy rfl hz (fun _ _=>rfl) (by simpa [maxLen]using oh) mr hb fun A2 c2 w' AW h=>hK A2 c2 w' AW (by
  rw [Sp hR.1]at h;simpa [ar]using h)
theorem lS{el:ad}{b:Nat}[hU:bP P t (.slice el)][bO P el z 1 b](i:Nat){A:ai}{n c:Nat}{xs:List aX}{m:Nat}{ys:List aX}(hS:St w0 w ks)(hk:ks[i]?=some (br el A n c xs))(hR:iT w A' m ys)(hx:ev e x= .slice A n c)(hy:ev e y= .slice A' m c')(hz:z.cells= #[z0])(oh:n+m<=9223372036854775807)(mr:(n+m)*b<=140737488355328)(hb:Nat.blt d N=true)(hK:∀A2 c2 w',St w0 w' (ks.set i (br el A2 (n+m) c2 (xs++ys)))->ak P N ops K rest (bC e d (.slice A2 (n+m) c2)) w'):
 ak P N ops K (⟨some d,.call ⟨.builtin .append, #[x,y], #[t,t]⟩,ty,pos,af,none⟩::rest) e w:=
 .app i hS hk hR.2 hx hy rfl hz (fun _ _=>rfl) (by simpa [maxLen]using oh) mr hb fun A2 c2 w' h=>hK A2 c2 w' (by
  rw [aez hR.1]at h;simpa [br]using h)
end
section
variable {P:Program} {N:Nat} {e:Env} {w:aa}
end
section
variable{t t':ad}
variable {P:Program} {N:Nat} {ops:Array Oper} {K:Env->aa->Prop} {rest:List Oper} {e:Env} {w0 w w':aa} {ks:List Ck} {d:Nat} {ty:ad} {pos:String} {af:Array Edge}
theorem ya{Q:jr}{c:ae}{x y:Code}{p:Prop}[Decidable p](hc:ev e c= .bool (decide p))(hp:p)(h1:Cd P N x Q e w):Cd P N (.cond c x y) Q e w:= .eH (by rw [hc,eC hp]) h1
theorem gV{Q:jr}{c:ae}{x y:Code}{p:Prop}[Decidable p](hc:ev e c= .bool (decide p))(hp:¬p)(h1:Cd P N y Q e w):Cd P N (.cond c x y) Q e w:= .dZ (by rw [hc,cM hp]) h1
theorem NR(A:ai)(c:Nat):cutAt A c 0=A:=by
 unfold cutAt
 split
 ·rfl
 cases A<;>simp [aB,Addr.add]
theorem acK{vs fs:List ab}{l q:Nat}(hM:eT vs=false)(h1:∀u∈fs,u.oneCell'=true)(hq:l=0->fs≠[]:=by first | assumption | (intro _ hn;have:=aL List.length hn;simp at this;omega)):eT (vs.take l++fs++vs.drop q)=false:=by
 by_cases hl:l=0
 ·subst hl;rw [List.take_zero,List.nil_append];exact D7 (vL h1) (hq O)
 ·cases vs with
  | nil=>simp only [List.take_nil,List.drop_nil,List.nil_append,iz];exact vL h1
  | cons v r=>
   obtain⟨m,rfl⟩:∃m,l=m+1:=⟨l - 1,by omega⟩;cases v<;>simp_all [eT]
theorem af0{el:ad}{z:ab}{b:Nat}[hU:bP P t (.slice el)][bO P el z 1 b]{k:Ck}(i l:Nat)(hS:St w0 w ks)(hk:ks[i]?=some k)(hM:eT k.vs=false)(hl:l<=k.n){A':ai}{m dc c':Nat}{f:Nat->ab}(hR:Rd w A' m f)(h1:∀j,j<m->(f j).oneCell'=true)(ty:ad)(q:Nat)(hq:q=min m (k.n - l)):
 ∃w',(Builtin.copy_ #[t,t'] ty #[.slice (cutAt k.A k.c l) (k.n - l) dc,.slice A' m c']).run P w= .ok (aj q) w'/\St w0 w' (ks.set i { k with vs:=k.vs.take l++ (List.range q).map f++k.vs.drop (l+q) }):=by
 obtain⟨inf,hi,fp,hs,iq⟩:=bO.get P el;have DK:=hS.rI hk hM;obtain⟨Gl,ko,rW,h4⟩:=DK;have yQ:=(gw.1 hk).1;have BA:(P.info? el).map (·.size)=some 1:=by simp [hi,hs]
 by_cases uv:q=0
 ·have hr:=run_copy_none (P:=P) w t t' ty el (cutAt k.A k.c l) A' (k.n - l) dc m c' hU.out BA (by show min m (k.n - l)=0;omega);refine⟨w,by rw [hr,uv];rfl,?_⟩;have h5:({ k with vs:=k.vs.take l++ (List.range q).map f++k.vs.drop (l+q) }:Ck)=k:=by subst uv;simp [List.take_append_drop]
  have:ks.set i { k with vs:=k.vs.take l++ (List.range q).map f++k.vs.drop (l+q) }=ks:=by
   rw [h5];apply List.ext_getElem?;intro j;rw [n3]
   split
   ·rename_i e;subst e;rw [hk]
    try simp [yQ]
   rfl
  rw [this];exact hS
 obtain⟨a,rfl⟩:∃a,A'=some a:=by
  obtain⟨p,hp,_⟩:=hR 0 (by omega);cases A' with | none=>simp [aB]at hp | some q=>exact⟨q,rfl⟩
 rcases h4 with⟨hA,h0⟩ | ⟨g,o,cur,hA,hg,hh,lP,hc⟩
 ·omega
 have hD:cutAt k.A k.c l=some ⟨g,o+l,none⟩:=by
  unfold cutAt;rw [aR (by omega),hA];simp [aB,zL]
 have gL:((List.range q).map f).length=q:=by simp
 have vE:∀j v,((List.range q).map f)[j]?=some v->w.cell? (a.add j)=some v:=by
  intro j v hj;have Bm:j<q:=by have:=(gw.1 hj).1;simpa using this
  obtain⟨p,hp,hc⟩:=hR j (by omega);simp only [aB,Option.map_some,mh]at hp;rw [hp,hc,<-hj];simp [Bm]
 have rJ:∀u∈(List.range q).map f,u.oneCell'=true:=by
  intro u hu;obtain⟨j,hj,rfl⟩:=eh.1 hu;have J1:j<q:=by simpa using hj
  exact h1 j (by omega)
 have hr:=run_copy_row (P:=P) w t t' ty el g (o+l) (k.n - l) dc a m c' cur k.e ((List.range q).map f) hU.out BA hh (by rw [gL,hq]) vE (by rw [gL];omega) rJ;rw [gL]at hr;rw [hD];refine⟨w.setRow g (cur.toList.take (o+l)++ (List.range q).map f++cur.toList.drop (o+l+q)).toArray,hr,hS.turn (k:=k) (k':= { k with vs:=k.vs.take l++ (List.range q).map f++k.vs.drop (l+q) }) (g:=g) hk (by simp [Ck.il,hA]) (by simp [Ck.il,hA]) ⟨⟨O,O,O,by simp,fun x _ hx=>setRow_other w g x _ (fun e=>hx (by rw [e]))⟩,dC _⟩ ?_⟩;refine .qj (acK hM rJ) ⟨by simp [Gl];omega,ko,rW,.inr ⟨g,o,_,hA,hg,setRow_heap w g cur _ k.e _ hh,?_,fun j hj=>?_⟩⟩
 ·simp;omega
 have kF:j<k.n:=hj;have bE:cur.toList.length=cur.size:=by simp
 show((cur.toList.take (o+l)++ (List.range q).map f++cur.toList.drop (o+l+q)).toArray)[o+j]?=(k.vs.take l++ (List.range q).map f++k.vs.drop (l+q))[j]?;rw [List.getElem?_toArray,fK,fK]
 by_cases nG:j<l
 ·rw [lh (by simp;omega),rB,aT (by omega),lh (by simp;omega),rB,aT nG,Array.getElem?_toList];exact hc j kF
 have e1:o+j - (cur.toList.take (o+l)).length=j - l:=by simp;omega
 have e2:j - (k.vs.take l).length=j - l:=by simp;omega
 have e3:(cur.toList.take (o+l)++ ((List.range q).map f++cur.toList.drop (o+l+q)))[o+j]?=((List.range q).map f++cur.toList.drop (o+l+q))[j - l]?:=by
  rw [jW (by simp;omega),e1]
 have e4:(k.vs.take l++ ((List.range q).map f++k.vs.drop (l+q)))[j]?=((List.range q).map f++k.vs.drop (l+q))[j - l]?:=by
  rw [jW (by simp;omega),e2]
 rw [e3,e4]
 by_cases J1:j - l<q
 ·rw [lh (by simpa using J1),lh (by simpa using J1)]
 rw [jW (by rw [gL];omega),jW (by rw [gL];omega),gL,List.getElem?_drop,List.getElem?_drop,Array.getElem?_toList,show o+l+q+ (j - l - q)=o+j by omega,show l+q+ (j - l - q)=j by omega];exact hc j kF
theorem ML{el:ad}{z:ab}{b:Nat}[hU:bP P t (.slice el)][bO P el z 1 b]{x y:ae}{k:Ck}(i l:Nat){A':ai}{m dc c':Nat}{f:Nat->ab}(q:Nat)(hS:St w0 w ks)(hk:ks[i]?=some k)(hR:Rd w A' m f)(hl:l<=k.n)(hx:ev e x= .slice (cutAt k.A k.c l) (k.n - l) dc)(hy:ev e y= .slice A' m c')(h1:∀j,j<m->(f j).oneCell'=true)(hq:q=min m (k.n - l))(hb:Nat.blt d N=true)(hK:∀w',St w0 w' (ks.set i { k with vs:=k.vs.take l++ (List.range q).map f++k.vs.drop (l+q) })->ak P N ops K rest (bC e d (aj q)) w')(hM:eT k.vs=false:=by first | rfl | exact tf _ | exact Gr _ | exact BG _):
 ak P N ops K (⟨some d,.call ⟨.builtin .copy, #[x,y], #[t,t']⟩,ty,pos,af,none⟩::rest) e w:=by
 obtain⟨w',hr,l8⟩:=af0 (P:=P) (t:=t) (t':=t') (dc:=dc) (c':=c') i l hS hk hM hl hR h1 ty q hq;refine .val (w':=w') ?_ hb (hK _ l8);simp [execOp,resolve,invoke,builtin,hx,hy,hr]
theorem MO{x y:ae}{i j:Int}(hx:ev e x=aj i)(hy:ev e y=aj j)(hb:Nat.blt d N=true)(hK:ak P N ops K rest (bC e d (aj (min i j))) w):
 ak P N ops K (⟨some d,.call ⟨.builtin .min, #[x,y], #[t,t']⟩,ty,pos,af,none⟩::rest) e w:=by
 have hm:(if j<i then j else i)=min i j:=by split<;>omega
 refine .val (w':=w) ?_ hb hK;simp [execOp,resolve,invoke,builtin,hx,hy,Builtin.min_,Builtin.min2,hm]
section
variable {x y:ae} {xt yt:ad} {i j:Int}
theorem nX(i:Int)(h:0<=i/\i<=18446744073709551615):IntKind.u64.wrap i=i:=by rw [IntKind.wrap_u64];omega
theorem EL(r:Int)(hx:ev e x= .int .u64 i)(hy:ev e y= .int .u64 j)(hb:Nat.blt d N=true)(he:i+j=r)(hr:0<=r/\r<=18446744073709551615)(hK:ak P N ops K rest (bC e d (.int .u64 r)) w):
 ak P N ops K (⟨some d,.binOp .add xt x y yt,ty,pos,af,none⟩::rest) e w:=
 .val (by simp [execOp,hx,hy,eqGuard,binOp,Op.intArith,he,nX _ hr]) hb hK
theorem CF(r:Int)(hx:ev e x= .int .u64 i)(hy:ev e y= .int .u64 j)(hb:Nat.blt d N=true)(he:i*j=r)(hr:0<=r/\r<=18446744073709551615)(hK:ak P N ops K rest (bC e d (.int .u64 r)) w):
 ak P N ops K (⟨some d,.binOp .mul xt x y yt,ty,pos,af,none⟩::rest) e w:=
 .val (by simp [execOp,hx,hy,eqGuard,binOp,Op.intArith,he,nX _ hr]) hb hK
theorem Hv(r:Int)(hx:ev e x= .int .u64 i)(hy:ev e y= .int .u64 4294967295)(hb:Nat.blt d N=true)(hr:0<=i/\i<=18446744073709551615)(he:i%4294967296=r)(hK:ak P N ops K rest (bC e d (.int .u64 r)) w):
 ak P N ops K (⟨some d,.binOp .and xt x y yt,ty,pos,af,none⟩::rest) e w:=by
 subst he;obtain⟨a,rfl⟩:∃a:Nat,i=a:=⟨i.toNat,by omega⟩;have h:=Mul64.maskN a (by omega);rw [show((a%4294967296:Nat):Int)=(a:Int)%4294967296 by omega]at h;refine .val ?_ hb hK;simp only [execOp,hx,hy,eqGuard,binOp,intBits_and,h];simp
theorem CG(r:Int)(hx:ev e x= .int .u64 i)(hy:ev e y= .int .u64 32)(hb:Nat.blt d N=true)(hr:0<=i)(he:i / 4294967296=r)(hK:ak P N ops K rest (bC e d (.int .u64 r)) w):
 ak P N ops K (⟨some d,.binOp .shr xt x y yt,ty,pos,af,none⟩::rest) e w:=by
 subst he;refine .val ?_ hb hK;have e1:min 32 IntKind.u64.bits=32:=by decide
 have e2:i.fdiv (2^32)=i / 4294967296:=by rw [Int.fdiv_eq_ediv_of_nonneg _ (by decide)];rfl
 have Xr:i.fdiv 4294967296=i / 4294967296:=e2;simp [execOp,hx,hy,eqGuard,binOp,Op.shift,e1,Xr]
theorem lV{k k':IntKind}[bP P yt (.int k')](hx:ev e x= .int k i)(hb:Nat.blt d N=true)(hw:k'.wrap i=i){u:TypeDesc}[bP P xt u](hK:ak P N ops K rest (bC e d (.int k' i)) w):
 ak P N ops K (⟨some d,.convert xt yt x,ty,pos,af,none⟩::rest) e w:=
 .val (by simp [execOp,hx,convert,run_underlying (bP.out (P:=P) (t:=xt)),run_underlying (bP.out (P:=P) (t:=yt)),Conv.intToInt,hw]) hb hK
end
end
structure bL(w:aa)(A:ai)(n:Nat)(rs:List aX)(xss:ag):Prop where
 top:iT w A n rs
 len:xss.length=n
 row:∀i,i<n->bt w (rs.getD i bW).a (rs.getD i bW).n (xss.getD i [])
 cap:∀i,i<n->(rs.getD i bW).n<=(rs.getD i bW).c/\(rs.getD i bW).c<=maxLen
def gl(xss:ag)(i:Int):ah:=xss.getD i.toNat []
theorem bL.at_{w:aa}{A:ai}{n:Nat}{rs:List aX}{xss:ag}(h:bL w A n rs xss){i:Int}(_h0:0<=i)(hi:i<n):bt w (rg rs i).a (rg rs i).n (gl xss i):=h.row _ (by omega)
theorem bL.cap_{w:aa}{A:ai}{n:Nat}{rs:List aX}{xss:ag}(h:bL w A n rs xss){i:Int}(_h0:0<=i)(hi:i<n):(rg rs i).n<=(rg rs i).c/\(rg rs i).c<=9223372036854775807:=h.cap _ (by omega)
theorem bL.ao{w w':aa}{A:ai}{n:Nat}{rs:List aX}{xss:ag}(h:bL w A n rs xss)(hb:Below w.heap.size w w'):bL w' A n rs xss:=
 ⟨h.top.ao hb,h.len,fun i hi=> (h.row i hi).ao hb,h.cap⟩
theorem St.cV{w0 w:aa}{ks:List Ck}{A:ai}{n:Nat}{rs:List aX}{xss:ag}(h:St w0 w ks)(hR:bL w0 A n rs xss):bL w A n rs xss:=hR.ao h.below
theorem bL.nil(w:aa):bL w none 0 [] []:=⟨iT.nil,rfl,fun i hi=>by omega,fun i hi=>by omega⟩
def bF(t:ad):List aX->ag->List Ck
 | r::rs,xs::xss=>ar t r.a r.n r.c xs::bF t rs xss
 | _,_=> []
def aU(t1 t2:ad)(A:ai)(n c:Nat)(rs:List aX)(xss:ag):List Ck:=br t1 A n c rs::bF t2 rs xss
theorem vU{t:ad}:∀ {rs:List aX} {xss:ag} {i:Nat},rs.length=xss.length->i<rs.length->(bF t rs xss)[i]?=some (ar t (rs.getD i bW).a (rs.getD i bW).n (rs.getD i bW).c (xss.getD i []))
 | [],_,_,_,h=>by simp at h
 | r::rs,[],_,h,_=>by simp at h
 | r::rs,xs::xss,0,_,_=>rfl
 | r::rs,xs::xss,i+1,h,hi=>by
  have:=vU (t:=t) (rs:=rs) (xss:=xss) (i:=i) (by simpa using h) (by simpa using hi);simpa [bF]using this
theorem tq{t:ad}:∀ {rs:List aX} {xss:ag},rs.length=xss.length->(bF t rs xss).length=rs.length
 | [],[],_=>rfl
 | [],_::_,h=>by simp at h
 | _::_,[],h=>by simp at h
 | r::rs,xs::xss,h=>by simp [bF,tq (t:=t) (rs:=rs) (xss:=xss) (by simpa using h)]
theorem tp{t:ad}:∀ {rs rs':List aX} {xss xss':ag},rs.length=xss.length->bF t (rs++rs') (xss++xss')=bF t rs xss++bF t rs' xss'
 | [],_,[],_,_=>rfl
 | [],_,_::_,_,h=>by simp at h
 | _::_,_,[],_,h=>by simp at h
 | r::rs,rs',xs::xss,xss',h=>by
  have:=tp (t:=t) (rs:=rs) (rs':=rs') (xss:=xss) (xss':=xss') (by simpa using h);simp [bF,this]
theorem St.eU{w0 w:aa}{ks:List Ck}{t1 t2:ad}{A:ai}{n c:Nat}{rs:List aX}{xss:ag}(h:St w0 w (aU t1 t2 A n c rs xss++ks))(hl:xss.length=n):bL w A n rs xss:=by
 have h0:=h.fq 0 (show(aU t1 t2 A n c rs xss++ks)[0]?=some (br t1 A n c rs) from O);have hr:rs.length=xss.length:=by rw [h0.1,hl]
 have get:∀i,i<n->(aU t1 t2 A n c rs xss++ks)[i+1]?=some (ar t2 (rs.getD i bW).a (rs.getD i bW).n (rs.getD i bW).c (xss.getD i [])):=by
  intro i hi;have h1:=vU (t:=t2) (rs:=rs) (xss:=xss) (i:=i) hr (by omega);rw [lh (by simp [aU,tq hr];omega)];simpa [aU]using h1
 exact⟨h0,hl,fun i hi=>h.bk (i+1) (get i hi),fun i hi=>h.cap (i+1) (get i hi)⟩
end Go.Proofs.YtkojeolafnadeaaGreatDoor.Vc
