/-
 Lemmas. Conditions: as each states them.
-/
import Derived.WalkKit
import Derived.Deep.Quiet
import Derived.Deep.LoopGhost
import Derived.Below
import Derived.Sort.Grow
import Derived.Deep.OwnRows
set_option maxHeartbeats 8000000
namespace Go.Proofs.YtagdamiiececaaaGreatDoor.Vc
open Go.RowKit
abbrev aa:=World
abbrev ab:=Value
abbrev ad:=TypeId
abbrev ae:=Operand
abbrev ag:=List (List Int)
abbrev ah:=List Int
abbrev ai:=Option Addr
abbrev aj(i:Int):Value:=.int .i64 i
theorem av:True:=@trivial
theorem aB:∀ {c:Prop} {_:Decidable c},¬c->∀ {α:Sort _} {t e:α},(if c then t else e)=e:=@if_neg
theorem aF:∀ {c:Prop} {_:Decidable c},c->∀ {α:Sort _} {t e:α},(if c then t else e)=t:=@if_pos
theorem aS:∀ {α:Sort _} {β:Sort _} {a₁ a₂:α} (f:α->β),a₁=a₂->f a₁=f a₂:=@congrArg
theorem bk:∀(n:Nat),0<=n:=@Nat.zero_le
theorem bX:∀ {α:Type _} {l:List α} {i:Nat} {a:α},l.getD i a=l[i]?.getD a:=@List.getD_eq_getElem?_getD
theorem cb:∀ {p:Prop} [Decidable p],¬p->decide p=false:=@decide_eq_false
theorem cq:∀ {α:Type _} {p:α->Prop} {a:α} {l:List α},(∀(x:α),x∈a::l->p x)↔p a/\∀(x:α),x∈l->p x:=@List.forall_mem_cons
theorem cO:∀(n:Nat),n<=n:=@Nat.le_refl
theorem di:∀ {α:Type _} {l:List α} {n:Nat} (h:n<l.length),l[n]∈l:=@List.getElem_mem
theorem dE:∀ {α:Type _} {l:List α} {i:Nat} (h:i<l.length),l[i]?=some l[i]:=@List.getElem?_eq_getElem
theorem dF:∀ {p:Prop} [Decidable p],p->decide p=true:=@decide_eq_true
theorem dS:∀ {α:Type _} {cs bs:List α},(cs++bs).length=cs.length+bs.length:=@List.length_append
theorem eG:∀ {α:Type _} (cs:List α),cs++ []=cs:=@List.append_nil
theorem eH:∀(n:Nat),(n:Int).toNat=n:=@Int.toNat_natCast
theorem eI:∀ {α:Type _} {i:Nat} {l:List α},l.length<=i->List.take i l=l:=@List.take_of_length_le
theorem eO:∀ {α:Type _} {p:α->Bool} {cs:List α} {x:α},x∈List.filter p cs↔x∈cs/\p x=true:=@List.mem_filter
theorem fp:∀ {a:Prop},¬¬a↔a:=@Classical.not_not
theorem fq:∀ {α:Type _} {β:Type _} {b:β} {f:α->β} {l:List α},b∈List.map f l↔∃a,a∈l/\f a=b:=@List.mem_map
theorem fu:∀ {α:Type _} {i:Nat} {a:α} {l:List α},l[i]?=some a↔∃h,l[i]=a:=@List.getElem?_eq_some_iff
theorem fv:∀ {α:Type _} {β:Type _} {cs:List α} (f:α->β),(List.map f cs).length=cs.length:=@List.length_map
theorem fB:∀ {α:Type _} (ks bs cs:List α),ks++bs++cs=ks++ (bs++cs):=@List.append_assoc
theorem fP:∀ {α:Type _} {a:α} {l:List α},a∈l↔∃(i:Nat) (h:i<l.length),l[i]=a:=@List.mem_iff_getElem
theorem fQ:∀ {α:Type _} {a b:α},a∈[b]↔a=b:=@List.mem_singleton
theorem gj:∀ {α:Type _} {l₁ l₂:List α},l₁.length=l₂.length->(∀(i:Nat) (h₁:i<l₁.length) (h₂:i<l₂.length),l₁[i]=l₂[i])->l₁=l₂:=@List.ext_getElem
theorem gk:∀ {α:Type _} {i:Nat} {l:List α} (h:i<l.length),List.take (i+1) l=List.take i l++ [l[i]]:=@List.take_succ_eq_append_getElem
theorem gm:∀ {n m k:Nat},n<=m->m<=k->n<=k:=@Nat.le_trans
theorem gB:∀ {α:Type _} {l₁ l₂:List α},(l₁++l₂).Perm (l₂++l₁):=@List.perm_append_comm
theorem gJ:∀ {p q:Prop} {_:Decidable p} {_:Decidable q},decide p=decide q↔(p↔q):=@decide_eq_decide
theorem gP:∀ {α:Type _} {xs:Array α} {i:Nat} {d:α},xs.getD i d=xs[i]?.getD d:=@Array.getD_eq_getD_getElem?
theorem gQ:∀ {α:Type _} {a:α} {s t:List α},a∈s++t↔a∈s\/a∈t:=@List.mem_append
theorem gR:∀(n:Nat),¬n<0:=@Nat.not_lt_zero
theorem iw:∀ {α:Type _} (l₁ l₂:List α),l₂.Sublist (l₁++l₂):=@List.sublist_append_right
theorem iI:∀ {m n:Nat},m∈List.range n↔m<n:=@List.mem_range
theorem iS:∀ {α:Type _} {cs:List α} {i:Nat} {a:α},(cs.set i a).length=cs.length:=@List.length_set
theorem iT:∀ {α:Type _} {β:Type _} {f:α->β} {l₁ l₂:List α},List.map f (l₁++l₂)=List.map f l₁++List.map f l₂:=@List.map_append
theorem jj:∀ {p:Prop} [Decidable p],(decide p=true)=p:=@decide_eq_true_eq
theorem jy:∀ {α:Type _} {l:List α} {i j:Nat} {a:α},(l.set i a)[j]?=if i=j then if i<l.length then some a else none else l[j]?:=@List.getElem?_set
theorem jN:∀ {α:Type _} (p:α->Bool) (l:List α),(List.filter p l).length<=l.length:=@List.length_filter_le
theorem kc:∀ {p:Prop} [Decidable p],decide p=true->p:=@of_decide_eq_true
theorem ki:∀ {α:Type _} {l:List α} {α_1:Type _} {f g:α->α_1},(∀(a:α),a∈l->f a=g a)->List.map f l=List.map g l:=@List.map_congr_left
theorem kj:∀ {α:Type _} {b:α} {l:List α} {a:α},a∈b::l↔a=b\/a∈l:=@List.mem_cons
theorem kK:∀ {p:Prop},(¬p->False)->p:=@Classical.byContradiction
theorem kM:∀ {α:Type _} {i:Nat} {l:List α},(List.take i l).length=min i l.length:=@List.length_take
theorem kO:∀ {n m:Nat},n.beq m=true->n=m:=@Nat.eq_of_beq_eq_true
theorem kP:∀ {α:Type _} (val val_1:α),(some val=some val_1)=(val=val_1):=@Option.some.injEq
theorem lg:∀ {n:Nat},List.range n.succ=List.range n++ [n]:=@List.range_succ
theorem lL:∀ {α:Type _} {R:α->α->Prop} {l:List α} (p:α->Bool),List.Pairwise R l->List.Pairwise R (List.filter p l):=@List.Pairwise.filter
theorem lM:∀ {α:Type _} {a:α} {l:List α},(a::l).Nodup↔¬a∈l/\l.Nodup:=@List.nodup_cons
theorem mm:∀ {α:Type _} [BEq α] {a b:α} {l:List α},List.count a (b::l)=List.count a l+if(b==a)=true then 1 else 0:=@List.count_cons
theorem mn:∀ {α:Type _} {p:α->Bool} (l₁ l₂:List α),List.filter p (l₁++l₂)=List.filter p l₁++List.filter p l₂:=@List.filter_append
theorem mo:∀ {α:Type _} {l₁ l₂:List α} {i:Nat},i<l₁.length->(l₁++l₂)[i]?=l₁[i]?:=@List.getElem?_append_left
theorem mq:∀ {α:Type _} {l₁ l₂:List α} {i:Nat},l₁.length<=i->(l₁++l₂)[i]?=l₂[i - l₁.length]?:=@List.getElem?_append_right
theorem na:∀ {α:Type _} (l:List α),l.Sublist l:=@List.Sublist.refl
theorem nb:∀ {α:Type _} [BEq α] [LawfulBEq α] {l₁ l₂:List α},l₁.Perm l₂↔∀(a:α),List.count a l₁=List.count a l₂:=@List.perm_iff_count
theorem nc:∀ {α:Type _} (l₁ l₂:List α),l₁.Sublist (l₁++l₂):=@List.sublist_append_left
theorem nW:∀ {α:Type _} {xs:Array α} {i:Nat} (h:i<xs.size),xs[i]?=some xs[i]:=@Array.getElem?_eq_getElem
theorem nY:∀ {α:Type _} [BEq α] {a:α} {l₁ l₂:List α},List.count a (l₁++l₂)=List.count a l₁+List.count a l₂:=@List.count_append
theorem nZ:∀ {α:Type _} {l:List α},l.length=0->l=[]:=@List.eq_nil_of_length_eq_zero
theorem n3:∀ {n:Nat},(List.range n).length=n:=@List.length_range
theorem n4:∀ {α:Type _} (y:α) {a:α} {l:List α},a∈l->a∈y::l:=@List.mem_cons_of_mem
theorem oP:∀ {α:Type _} {l:List α} {i:Nat},l.length<=i->l[i]?=none:=@List.getElem?_eq_none
theorem oQ:∀ {α:Type _} {l:List α} {i j:Nat},(List.take i l)[j]?=if j<i then l[j]? else none:=@List.getElem?_take
theorem pA:∀ {α:Type _} [BEq α] {a:α},List.count a []=0:=@List.count_nil
theorem pB:∀ {α:Type _} {a:α} {l₁ l₂:List α},(l₁++a::l₂).Perm (a::(l₁++l₂)):=@List.perm_middle
theorem qE:∀ {α:Type _} {xs:Array α} {i j:Nat} {a:α},(xs.setIfInBounds i a)[j]?=if i=j then if i<xs.size then some a else none else xs[j]?:=@Array.getElem?_setIfInBounds
theorem qH:∀ {α:Type _} {val val_1:α},some val=some val_1->val=val_1:=@Option.some.inj
theorem tA:∀ {α:Type _} {l₁ l₂:List α} {i:Nat},i<=l₁.length->List.take i (l₁++l₂)=List.take i l₁:=@List.take_append_of_le_length
abbrev Env:=Nat->ab
def br(e:Env)(d:Nat)(v:ab):Env:=fun i=>bif Nat.beq i d then v else e i
def ev(e:Env):ae->ab
 | .tmp t=>e t
 | .const v=>v
 | .global g=> .pointer (some ⟨g,0,none⟩)
 | .func f=> .func (.func f) #[] #[]
structure gI(N:Nat)(a:Act)(e:Env):Prop where
 defers:a.defers=[]
 size:a.tmps.size=N
 get:∀i,a.tmps.getD i undef=e i
theorem O{α:Sort _}{a:α}:a=a:=rfl
theorem gI.eval{N:Nat}{a:Act}{e:Env}(h:gI N a e):a.eval=ev e:=by
 funext x;cases x with
 | tmp t=>exact h.get t
 | const v=>rfl
 | global g=>rfl
 | func f=>rfl
theorem gI.put{N:Nat}{a:Act}{e:Env}(h:gI N a e){d:Nat}(hd:Nat.blt d N=true)(v:ab):gI N (a.put (some d) v) (br e d v):=by
 have um:d<a.tmps.size:=by rw [h.size];simpa [Nat.blt_eq]using hd
 refine⟨h.defers,by simp [Act.put,h.size],fun i=>?_⟩;simp only [Act.put,br];rw [gP,qE]
 by_cases e1:d=i
 ·subst e1;simp [um]
 ·have e2:Nat.beq i d=false:=by
   cases hb:Nat.beq i d with
   | false=>rfl
   | true=>exact absurd (kO hb).symm e1
  rw [aB e1,e2,<-gP,h.get]
  rfl
abbrev gn:=Exit->Env->aa->Prop
def low(N:Nat)(Q:gn):Exit->Act->aa->Prop:=fun x a w=>∃e,gI N a e/\Q x e w
structure Cd(P:Program)(N:Nat)(c:Code)(Q:gn)(e:Env)(w:aa):Prop where
 mk'::
 run:∀a,gI N a e->c.wp P (low N Q) a w
structure ak(P:Program)(N:Nat)(ops:Array Oper)(K:Env->aa->Prop)(l:List Oper)(e:Env)(w:aa):Prop where
 mk'::
 run:∀a,gI N a e->wpList P ops (fun x a w=>x= .normal/\∃e,gI N a e/\K e w) l a w
section
variable{x y:Code}{id:Nat}
variable {P:Program} {N:Nat} {Q:gn} {e:Env} {w:aa}
def tv(K:Env->aa->Prop)(Q:gn):gn
 | .normal,e,w=>K e w
 | x,e,w=>Q x e w
def zY(id:Nat)(Q:gn):gn
 | .exit Du,e,w=>if Du=id then Q .normal e w else Q (.exit Du) e w
 | x,e,w=>Q x e w
theorem Cd.mono{c:Code}{Q':gn}(hq:∀x e w,Q x e w->Q' x e w)(h:Cd P N c Q e w):Cd P N c Q' e w:=
 .mk' fun a ha=>wp_mono (h.run a ha) fun _ _ _ ⟨e,he,q⟩=> ⟨e,he,hq _ _ _ q⟩
theorem Cd.seq(h:Cd P N x (tv (Cd P N y Q) Q) e w):Cd P N (.seq x y) Q e w:= .mk' fun a ha=>
 wp_seq (wp_mono (h.run a ha) fun ex a' w' ⟨e',lV,q⟩=>by
  cases ex<;>first | exact q.run a' lV | exact⟨e',lV,q⟩)
theorem Cd.skip(h:Q .normal e w):Cd P N .skip Q e w:= .mk' fun a ha=>wp_skip ⟨e,ha,h⟩
theorem Cd.ret(h:Q .ret e w):Cd P N .ret Q e w:= .mk' fun a ha=>wp_ret ⟨e,ha,h⟩
theorem Cd.exit(h:Q (.exit id) e w):Cd P N (.exit id) Q e w:= .mk' fun a ha=>wp_exit ⟨e,ha,h⟩
theorem Cd.block{c:Code}(h:Cd P N c (zY id Q) e w):Cd P N (.block id c) Q e w:= .mk' fun a ha=>
 wp_block (wp_mono (h.run a ha) fun ex a' w' ⟨e',lV,q⟩=>by
  cases ex<;>first
   | exact⟨e',lV,q⟩
   | (
    rename_i Du;simp only [zY]at q;simp only [Exit.inBlock]
    split
    ·rename_i hid;rw [aF hid]at q;exact⟨e',lV,q⟩
    ·rename_i hid;rw [aB hid]at q;exact⟨e',lV,q⟩))
theorem Cd.cond{c:ae}{t:Bool}(hc:ev e c= .bool t)(h1:t=true->Cd P N x Q e w)(h2:t=false->Cd P N y Q e w):Cd P N (.cond c x y) Q e w:= .mk' fun a ha=>
 wp_cond_split (t:=t) (by rw [ha.eval,hc]) (fun h=> (h1 h).run a ha) (fun h=> (h2 h).run a ha)
theorem Cd.eP{c:ae}(hc:ev e c= .bool true)(h1:Cd P N x Q e w):Cd P N (.cond c x y) Q e w:= .cond hc (fun _=>h1) (fun h=>by cases h)
theorem Cd.dO{c:ae}(hc:ev e c= .bool false)(h1:Cd P N y Q e w):Cd P N (.cond c x y) Q e w:= .cond hc (fun h=>by cases h) (fun _=>h1)
theorem aJ{c:ae}(p:Prop)[Decidable p](hc:ev e c= .bool (decide p))(h1:p->Cd P N x Q e w)(h2:¬p->Cd P N y Q e w):Cd P N (.cond c x y) Q e w:=
 .cond hc (fun h=>h1 (kc h)) (fun h=>h2 (of_decide_eq_false h))
theorem Cd.region{l:List Oper}(h:ak P N l.toArray (fun e w=>Q .normal e w) l e w):Cd P N (.region id l.toArray false) Q e w:= .mk' fun a ha=>
 wp_mono (wp_region_lit (h.run a ha)) fun _ _ _ ⟨hx,e',lV,q⟩=> ⟨e',lV,by rw [hx];exact q⟩
def Mt(e:Env):List (Nat×ab)->Prop
 | []=>True
 | (i,v)::r=>e i=v/\Mt e r
theorem Wn{e:Env}:∀{l:List (Nat×Value)},l.map (fun p=>e p.1)=l.map (fun p=>p.2)->Mt e l
 | [],_=>True.intro
 | _::_,h=>⟨(List.cons.inj h).1,Wn (List.cons.inj h).2⟩
def ext(e:Env):List (Nat×ab)->Env
 | []=>e
 | (i,v)::r=>br (ext e r) i v
theorem tU:∀ {l:List (Nat×ab)} {e:Env},Mt e l->ext e l=e
 | [],_,_=>rfl
 | (i,v)::r,e,h=>by
  show br (ext e r) i v=e;rw [tU h.2];funext j;unfold br;cases hb:Nat.beq j i with
  | false=>rfl
  | true=>rw [kO hb,h.1];rfl
theorem Cd.loop{α:Type}{c:Code}(F:α->List (Nat×ab))(I:α->aa->Prop)(m:α->Nat)(s0:α)(hF:Mt e (F s0))(hI:I s0 w)
 (round:∀s e w,I s w->Cd P N c (tv (fun e' w'=>∃s',m s'<m s/\Mt e' (F s')/\I s' w') Q) (ext e (F s)) w):Cd P N (.loop c) Q e w:=by
 have key:∀n s e w,m s=n->Mt e (F s)->I s w->∀a,gI N a e->(Code.loop c).wp P (low N Q) a w:=by
  intro n0 s e w hn hm BI a ha
  let J:Act->aa->Prop:=fun a w=>∃s e,gI N a e/\Mt e (F s)/\I s w
  refine wp_loop_ghost (I:=fun n a w=>∃s e,m s=n/\gI N a e/\Mt e (F s)/\I s w) n0 ⟨s,e,hn,ha,hm,BI⟩ ?_;intro n a w ⟨s,e,hn,ha,hm,hI⟩;have h1:=round s e w hI;rw [tU hm]at h1;refine wp_mono (h1.run a ha) fun ex a' w' ⟨e',lV,q⟩=>?_
  cases ex<;>first
   | exact⟨e',lV,q⟩
   | (
    obtain⟨s',cW,fj,BI⟩:=q;exact⟨m s',by omega,s',e',O,lV,fj,BI⟩)
 exact .mk' fun a ha=>key _ s0 e w O hF hI a ha
end
class bK(P:Program)(t:ad)(d:outParam TypeDesc):Type where
 out:P.underlying t=some d
class bL(P:Program)(t:ad)(z:outParam ab)(size bytes:outParam Nat):Prop where
 out:(P.info? t).map (fun i=> (i.zero,i.size,i.bytes))=some (some z,size,bytes)
class bp(P:Program)(F:FuncId):Prop where
 out : ∃ fn, P.funcs[F]? = some fn /\ (fn.name == "runtime.NumGoroutine") = false /\ fn.body.isNone = false
theorem bL.get(P:Program)(t:ad){z:ab}{s b:Nat}[h:bL P t z s b]:∃i,P.info? t=some i/\i.zero=some z/\i.size=s/\i.bytes=b:=by
 obtain⟨i,hi,he⟩:=Option.map_eq_some_iff.1 h.out;simp only [Prod.mk.injEq]at he;exact⟨i,hi,he.1,he.2.1,he.2.2⟩
section
variable{j dj d:Nat}{b want:Bool}{x:ae}
variable {P:Program} {N:Nat} {ops:Array Oper} {K:Env->aa->Prop} {rest:List Oper} {e:Env} {w w':aa} {d:Nat} {ty:ad} {pos:String} {af:Array Edge}
theorem ak.n(h:K e w):ak P N ops K [] e w:= .mk' fun a ha=>wpList_nil ⟨rfl,e,ha,h⟩
theorem ak.val{op:Op}{v:ab}(hr:(execOp (ev e) ⟨some d,op,ty,pos,af,none⟩).run P w= .ok (.value v) w')(hb:Nat.blt d N=true)(hK:ak P N ops K rest (br e d v) w'):
 ak P N ops K (⟨some d,op,ty,pos,af,none⟩::rest) e w:= .mk' fun a ha=>by
 refine wpList_plain O fun J hJ=>?_
 unfold Oper.wp;rw [ha.eval,hr];exact hJ _ _ (hK.run _ (ha.put hb v))
theorem ak.unit{op:Op}(hr:(execOp (ev e) ⟨none,op,ty,pos,af,none⟩).run P w= .ok .skip w')(hK:ak P N ops K rest e w'):
 ak P N ops K (⟨none,op,ty,pos,af,none⟩::rest) e w:= .mk' fun a ha=>by
 refine wpList_plain O fun J hJ=>?_
 unfold Oper.wp;rw [ha.eval,hr];exact hJ _ _ (hK.run _ ha)
theorem ak.Kh{op:Op}{v:ab}(hr:(execOp (ev e) ⟨none,op,ty,pos,af,none⟩).run P w= .ok (.value v) w')(hK:ak P N ops K rest e w'):
 ak P N ops K (⟨none,op,ty,pos,af,none⟩::rest) e w:= .mk' fun a ha=>by
 refine wpList_plain O fun J hJ=>?_
 unfold Oper.wp;rw [ha.eval,hr];exact hJ _ _ (hK.run _ ha)
theorem Kk{a:Act}(ha:gI N a e)(hj:(ops[j]?).bind (·.dst)=some dj)(cW:Nat.blt dj N=true)(hv:e dj= .bool b):yielded ops a.tmps j=some b:=by
 have h1:dj<a.tmps.size:=by rw [ha.size];simpa [Nat.blt_eq]using cW
 have h2:=ha.get dj;rw [gP,nW h1,Option.getD_some,hv]at h2;simp [yielded,hj,nW h1,h2]
theorem Wc{o:Option Tmp}{op:Op}(hj:(ops[j]?).bind (·.dst)=some dj)(cW:Nat.blt dj N=true)(hv:e dj= .bool want)(hK:ak P N ops K (⟨o,op,ty,pos,af,none⟩::rest) e w):ak P N ops K (⟨o,op,ty,pos,af,some (j,want)⟩::rest) e w:= .mk' fun a ha=>by
 have h:=hK.run a ha;have hy:=Kk (ops:=ops) ha hj cW hv;have hw:Region.wanted (⟨o,op,ty,pos,af,some (j,want)⟩:Oper) (yielded ops a.tmps)=true:=by
  simp [Region.wanted,hy]
 unfold wpList at h|-;rw [aF hw];rw [aF (show Region.wanted (⟨o,op,ty,pos,af,none⟩:Oper) (yielded ops a.tmps)=true from rfl)]at h;exact h
theorem ar{o:Option Tmp}{op:Op}(q9:((ops[j]?).bind (·.dst),Nat.blt dj N,e dj)=(some dj,true,.bool want))(hK:ak P N ops K (⟨o,op,ty,pos,af,none⟩::rest) e w):ak P N ops K (⟨o,op,ty,pos,af,some (j,want)⟩::rest) e w:=Wc (congrArg (fun p=>p.1) q9) (congrArg (fun p=>p.2.1) q9) (congrArg (fun p=>p.2.2) q9) hK
theorem Wd{op:Op}(hj:(ops[j]?).bind (·.dst)=some dj)(cW:Nat.blt dj N=true)(hv:e dj= .bool b)(cG:(b==want)=false)(hb:Nat.blt d N=true)(hK:ak P N ops K rest (br e d undef) w):ak P N ops K (⟨some d,op,ty,pos,af,some (j,want)⟩::rest) e w:= .mk' fun a ha=>by
 have hy:=Kk (ops:=ops) ha hj cW hv;refine wpList_skip ?_ (hK.run _ (ha.put hb undef));simp only [Region.wanted];rw [hy];simpa using cG
theorem au{op:Op}(q9:((ops[j]?).bind (·.dst),Nat.blt dj N,e dj,(b==want),Nat.blt d N)=(some dj,true,.bool b,false,true))(hK:ak P N ops K rest (br e d undef) w):ak P N ops K (⟨some d,op,ty,pos,af,some (j,want)⟩::rest) e w:=Wd (congrArg (fun p=>p.1) q9) (congrArg (fun p=>p.2.1) q9) (congrArg (fun p=>p.2.2.1) q9) (congrArg (fun p=>p.2.2.2.1) q9) (congrArg (fun p=>p.2.2.2.2) q9) hK
theorem We{op:Op}(hj:(ops[j]?).bind (·.dst)=some dj)(cW:Nat.blt dj N=true)(hv:e dj=undef)(hb:Nat.blt d N=true)(hK:ak P N ops K rest (br e d undef) w):ak P N ops K (⟨some d,op,ty,pos,af,some (j,want)⟩::rest) e w:= .mk' fun a ha=>by
 refine wpList_skip ?_ (hK.run _ (ha.put hb undef));have h1:dj<a.tmps.size:=by rw [ha.size];simpa [Nat.blt_eq]using cW
 have h2:=ha.get dj;rw [gP,nW h1,Option.getD_some,hv]at h2;simp [Region.wanted,yielded,hj,nW h1,h2,undef]
theorem bc{op:Op}(q9:((ops[j]?).bind (·.dst),Nat.blt dj N,e dj,Nat.blt d N)=(some dj,true,undef,true))(hK:ak P N ops K rest (br e d undef) w):ak P N ops K (⟨some d,op,ty,pos,af,some (j,want)⟩::rest) e w:=We (congrArg (fun p=>p.1) q9) (congrArg (fun p=>p.2.1) q9) (congrArg (fun p=>p.2.2.1) q9) (congrArg (fun p=>p.2.2.2) q9) hK
theorem Ke{e:Env}{v:ab}(h:e d=v):br e d v=e:=by
 funext j;unfold br;cases hb:Nat.beq j d with
 | false=>rfl
 | true=>rw [kO hb,h];rfl
theorem ak.split{l:List Oper}(d:Nat)(hv:e d= .bool b)(h1:b=true->ak P N ops K l (br e d (.bool true)) w)(h2:b=false->ak P N ops K l (br e d (.bool false)) w):ak P N ops K l e w:=by
 cases b
 ·have:=h2 O;rwa [Ke hv]at this
 have:=h1 O;rwa [Ke hv]at this
theorem bR{l:List Oper}(d:Nat){p:Prop}[Decidable p](hv:e d= .bool (decide p))(h1:p->ak P N ops K l (br e d (.bool true)) w)(h2:¬p->ak P N ops K l (br e d (.bool false)) w):ak P N ops K l e w:=
 .split d hv (fun h=>h1 (kc h)) (fun h=>h2 (of_decide_eq_false h))
def tf:Op->Option ae
 | .move x=>some x
 | .assign x=>some x
 | _=>none
theorem TM{op:Op}(h:tf op=some x):(execOp (ev e) ⟨some d,op,ty,pos,af,none⟩).run P w= .ok (.value (ev e x)) w:=by
 cases op<;>simp [tf]at h<;>subst h<;>rfl
theorem ak.mv{op:Op}{v:ab}(lZ:tf op=some x)(hx:ev e x=v)(hb:Nat.blt d N=true)(hK:ak P N ops K rest (br e d v) w):ak P N ops K (⟨some d,op,ty,pos,af,none⟩::rest) e w:=
 .val (by rw [TM lZ,hx]) hb hK
theorem zI{op:Op}{k:IntKind}{i:Int}(lZ:tf op=some x)(hx:ev e x= .int k i)(hb:Nat.blt d N=true)(hK:ak P N ops K rest (br e d (.int k i)) w):ak P N ops K (⟨some d,op,ty,pos,af,none⟩::rest) e w:= .mv lZ hx hb hK
theorem pE{op:Op}{A:ai}{n c:Nat}(lZ:tf op=some x)(hx:ev e x= .slice A n c)(hb:Nat.blt d N=true)(hK:ak P N ops K rest (br e d (.slice A n c)) w):ak P N ops K (⟨some d,op,ty,pos,af,none⟩::rest) e w:= .mv lZ hx hb hK
theorem EK{op:Op}(lZ:tf op=some x)(hx:ev e x= .bool b)(hb:Nat.blt d N=true)(hK:ak P N ops K rest (br e d (.bool b)) w):ak P N ops K (⟨some d,op,ty,pos,af,none⟩::rest) e w:= .mv lZ hx hb hK
theorem KX{op:Op}{cs:Array ab}(lZ:tf op=some x)(hx:ev e x= .tuple cs)(hb:Nat.blt d N=true)(hK:ak P N ops K rest (br e d (.tuple cs)) w):ak P N ops K (⟨some d,op,ty,pos,af,none⟩::rest) e w:= .mv lZ hx hb hK
section
variable{k:IntKind}{b:Bool}
variable {x y:ae} {xt yt:ad} {i j:Int}
theorem Wi(hx:ev e x=aj i)(hy:ev e y=aj j)(hb:Nat.blt d N=true)(hr: -9223372036854775808<=i+j/\i+j<=9223372036854775807)(hK:ak P N ops K rest (br e d (aj (i+j))) w):
 ak P N ops K (⟨some d,.binOp .add xt x y yt,ty,pos,af,none⟩::rest) e w:=
 .val (by simp [execOp,hx,hy,eqGuard,binOp,Op.intArith,IntWalk.i64_in _ hr]) hb hK
theorem aI(q9:(ev e x,ev e y,Nat.blt d N)=(aj i,aj j,true))(hK:ak P N ops K rest (br e d (aj (i+j))) w)(hr:-9223372036854775808<=i+j/\i+j<=9223372036854775807:=by omega):ak P N ops K (⟨some d,.binOp .add xt x y yt,ty,pos,af,none⟩::rest) e w:=Wi (congrArg (fun p=>p.1) q9) (congrArg (fun p=>p.2.1) q9) (congrArg (fun p=>p.2.2) q9) hr hK
theorem gH(hx:ev e x=aj i)(hy:ev e y=aj j)(hb:Nat.blt d N=true)(hr: -9223372036854775808<=i - j/\i - j<=9223372036854775807)(hK:ak P N ops K rest (br e d (aj (i - j))) w):
 ak P N ops K (⟨some d,.binOp .sub xt x y yt,ty,pos,af,none⟩::rest) e w:=
 .val (by simp [execOp,hx,hy,eqGuard,binOp,Op.intArith,IntWalk.i64_in _ hr]) hb hK
theorem ak.mul(hx:ev e x=aj i)(hy:ev e y=aj j)(hb:Nat.blt d N=true)(hr: -9223372036854775808<=i*j/\i*j<=9223372036854775807)(hK:ak P N ops K rest (br e d (aj (i*j))) w):
 ak P N ops K (⟨some d,.binOp .mul xt x y yt,ty,pos,af,none⟩::rest) e w:=
 .val (by simp [execOp,hx,hy,eqGuard,binOp,Op.intArith,IntWalk.i64_in _ hr]) hb hK
theorem ak.quo(hx:ev e x=aj i)(hy:ev e y=aj j)(hb:Nat.blt d N=true)(hr:0<=i/\i<=9223372036854775807/\1<=j)(hK:ak P N ops K rest (br e d (aj (i / j))) w):
 ak P N ops K (⟨some d,.binOp .quo xt x y yt,ty,pos,af,none⟩::rest) e w:=
 .val (by simp [execOp,hx,hy,eqGuard,binOp,Op.intDiv,IntWalk.i64_quo _ _ hr,show j≠0 by omega]) hb hK
theorem ak.rem(hx:ev e x=aj i)(hy:ev e y=aj j)(hb:Nat.blt d N=true)(hr:0<=i/\1<=j)(hK:ak P N ops K rest (br e d (aj (i%j))) w):
 ak P N ops K (⟨some d,.binOp .rem xt x y yt,ty,pos,af,none⟩::rest) e w:=
 .val (by simp [execOp,hx,hy,eqGuard,binOp,Op.intDiv,Int.tmod_eq_emod_of_nonneg hr.1,show j≠0 by omega]) hb hK
theorem ak.lss(hx:ev e x= .int k i)(hy:ev e y= .int k j)(hb:Nat.blt d N=true)(hK:ak P N ops K rest (br e d (.bool (decide (i<j)))) w):
 ak P N ops K (⟨some d,.binOp .lss xt x y yt,ty,pos,af,none⟩::rest) e w:= .val (by simp [execOp,hx,hy,eqGuard,binOp,Op.intCmp]) hb hK
theorem ak.leq(hx:ev e x= .int k i)(hy:ev e y= .int k j)(hb:Nat.blt d N=true)(hK:ak P N ops K rest (br e d (.bool (decide (i<=j)))) w):
 ak P N ops K (⟨some d,.binOp .leq xt x y yt,ty,pos,af,none⟩::rest) e w:= .val (by simp [execOp,hx,hy,eqGuard,binOp,Op.intCmp]) hb hK
theorem ak.gtr(hx:ev e x= .int k i)(hy:ev e y= .int k j)(hb:Nat.blt d N=true)(hK:ak P N ops K rest (br e d (.bool (decide (j<i)))) w):
 ak P N ops K (⟨some d,.binOp .gtr xt x y yt,ty,pos,af,none⟩::rest) e w:= .val (by simp [execOp,hx,hy,eqGuard,binOp,Op.intCmp]) hb hK
theorem ak.geq(hx:ev e x= .int k i)(hy:ev e y= .int k j)(hb:Nat.blt d N=true)(hK:ak P N ops K rest (br e d (.bool (decide (j<=i)))) w):
 ak P N ops K (⟨some d,.binOp .geq xt x y yt,ty,pos,af,none⟩::rest) e w:= .val (by simp [execOp,hx,hy,eqGuard,binOp,Op.intCmp]) hb hK
theorem LI(i j:Int):(i==j)=decide (i=j):=by by_cases h:i=j<;>simp [h]
theorem LM(i j:Int):(i !=j)=decide (¬i=j):=by by_cases h:i=j<;>simp [h]
theorem ak.eql(hx:ev e x= .int k i)(hy:ev e y= .int k j)(hb:Nat.blt d N=true)(hK:ak P N ops K rest (br e d (.bool (decide (i=j)))) w):
 ak P N ops K (⟨some d,.binOp .eql xt x y yt,ty,pos,af,none⟩::rest) e w:= .val (by rw [<-LI];simp [execOp,hx,hy,eqGuard,binOp,Op.intCmp]) hb hK
theorem ak.neq(hx:ev e x= .int k i)(hy:ev e y= .int k j)(hb:Nat.blt d N=true)(hK:ak P N ops K rest (br e d (.bool (decide (¬i=j)))) w):
 ak P N ops K (⟨some d,.binOp .neq xt x y yt,ty,pos,af,none⟩::rest) e w:= .val (by rw [<-LM];simp [execOp,hx,hy,eqGuard,binOp,Op.intCmp]) hb hK
theorem eJ(hx:ev e x= .bool b)(hb:Nat.blt d N=true)(hK:ak P N ops K rest (br e d (.bool (!b))) w):
 ak P N ops K (⟨some d,.unOp .not xt x,ty,pos,af,none⟩::rest) e w:= .val (by simp [execOp,hx,Op.unary]) hb hK
theorem dv{p:Prop}[Decidable p](hx:ev e x= .bool (decide p))(hb:Nat.blt d N=true)(hK:ak P N ops K rest (br e d (.bool (decide ¬p))) w):
 ak P N ops K (⟨some d,.unOp .not xt x,ty,pos,af,none⟩::rest) e w:= .val (by simp [execOp,hx,Op.unary]) hb hK
theorem ak.Tc{c:ae}(hc:ev e c= .bool true)(hx:ev e x= .bool b)(hb:Nat.blt d N=true)(hK:ak P N ops K rest (br e d (.bool b)) w):
 ak P N ops K (⟨some d,.pick c x y,ty,pos,af,none⟩::rest) e w:= .val (by simp [execOp,hc,hx,asBool]) hb hK
theorem ak.Tb{c:ae}(hc:ev e c= .bool false)(hx:ev e y= .bool b)(hb:Nat.blt d N=true)(hK:ak P N ops K rest (br e d (.bool b)) w):
 ak P N ops K (⟨some d,.pick c x y,ty,pos,af,none⟩::rest) e w:= .val (by simp [execOp,hc,hx,asBool]) hb hK
end
theorem ak.extract{x:ae}{vs:Array ab}{ix:Nat}{v:ab}(hx:ev e x= .tuple vs)(hv:vs[ix]?=some v)(hb:Nat.blt d N=true)(hK:ak P N ops K rest (br e d v) w):
 ak P N ops K (⟨some d,.extract x ix,ty,pos,af,none⟩::rest) e w:= .val (by simp [execOp,hx,Instr.extract,hv]) hb hK
theorem aR{x:ae}{t el:ad}{A:ai}{n c:Nat}[bK P t (.slice el)](hx:ev e x= .slice A n c)(hb:Nat.blt d N=true)(hK:ak P N ops K rest (br e d (aj n)) w):
 ak P N ops K (⟨some d,.call ⟨.builtin .len, #[x], #[t]⟩,ty,pos,af,none⟩::rest) e w:=
 .val (by simp [execOp,resolve,invoke,builtin,Builtin.len_,hx,run_underlying (bK.out (P:=P) (t:=t)),goInt]) hb hK
theorem ak.SE{x:ae}{a:Addr}(hx:ev e x= .pointer (some a))(hb:Nat.blt d N=true)(hK:ak P N ops K rest (br e d (.pointer (some a))) w):
 ak P N ops K (⟨some d,.nilCheck x,ty,pos,af,none⟩::rest) e w:= .val (by simp [execOp,hx]) hb hK
def aG(P:Program)(F:FuncId)(vs:List ab)(w:aa)(R:ab->aa->Prop):Prop:=Calls P F vs.toArray w fun x w'=>∃v,x= .returned v/\R v w'
theorem aG.mono{F:FuncId}{vs:List ab}{R R':ab->aa->Prop}(h:aG P F vs w R)(hR:∀v w',R v w'->R' v w'):aG P F vs w R':=
 Calls.mono h fun _ _ ⟨v,he,hv⟩=> ⟨v,he,hR _ _ hv⟩
theorem Wh{f:ae}{F:FuncId}{c2:Array ab}{l:List ae}{vs:List ab}{R:ab->aa->Prop}{EX:Array ad}[hF:bp P F](hC:aG P F vs w R)(hf:ev e f= .func (.func F) #[] c2)(hv:l.map (ev e)++c2.toList=vs)(hb:Nat.blt d N=true)(hK:∀v w',R v w'->ak P N ops K rest (br e d v) w'):ak P N ops K (⟨some d,.call ⟨.value f,l.toArray,EX⟩,ty,pos,af,none⟩::rest) e w:= .mk' fun a ha=>by
 obtain⟨fn,h1,h2,h3⟩:=hF.out;have lC:(execOp (ev e) ⟨some d,.call ⟨.value f,l.toArray,EX⟩,ty,pos,af,none⟩).run P w= .ok (.enter F vs.toArray) w:=by
  have h4:(l.toArray.map (ev e)++c2)=vs.toArray:=by
   rw [<-hv];simp
  have h5 : ¬ fn.name = "runtime.NumGoroutine" := by simpa using h2
  have h6:¬fn.body=none:=by intro h;rw [h]at h3;cases h3
  simp [execOp,resolve,hf,Deferred.ofValue,invoke,callFunc,h1,h5,h6];exact hv
 refine wpList_plain O fun J hJ=>?_
 unfold Oper.wp;rw [ha.eval,lC];refine Calls.mono hC fun x w' ⟨v,hx,hR⟩=>?_
 subst hx;exact hJ _ _ ((hK v w' hR).run _ (ha.put hb v))
theorem aO{f:ae}{F:FuncId}{c2:Array ab}{l:List ae}{vs:List ab}{R:ab->aa->Prop}{EX:Array ad}[hF:bp P F](hC:aG P F vs w R)(q9:(ev e f,l.map (ev e)++c2.toList,Nat.blt d N)=(.func (.func F) #[] c2,vs,true))(hK:∀v w',R v w'->ak P N ops K rest (br e d v) w'):ak P N ops K (⟨some d,.call ⟨.value f,l.toArray,EX⟩,ty,pos,af,none⟩::rest) e w:=Wh hC (congrArg (fun p=>p.1) q9) (congrArg (fun p=>p.2.1) q9) (congrArg (fun p=>p.2.2) q9) hK
theorem tQ{K:Env->aa->Prop}{Q:gn}(h:K e w):tv K Q .normal e w:=h
theorem cy{K:Env->aa->Prop}{Q:gn}(h:Q .ret e w):tv K Q .ret e w:=h
theorem bl{K:Env->aa->Prop}{Q:gn}{id:Nat}(h:Q (.exit id) e w):tv K Q (.exit id) e w:=h
def zS(vs:List ab):Env:=fun i=>vs.getD i undef
def D9(R:ab->aa->Prop):gn
 | .normal,_,w=>R (.tuple #[]) w
 | .ret,_,w=>R (.tuple #[]) w
 | _,_,_=>False
def wU(t:Nat)(R:ab->aa->Prop):gn
 | .normal,e,w=>R (e t) w
 | .ret,e,w=>R (e t) w
 | _,_,_=>False
def tj(t u:Nat)(R:ab->aa->Prop):gn
 | .normal,e,w=>R (.tuple #[e t,e u]) w
 | .ret,e,w=>R (.tuple #[e t,e u]) w
 | _,_,_=>False
theorem Tv(vs:List ab)(n:Nat)(h:Nat.ble vs.length n=true):gI n ⟨vs.toArray++Array.replicate (n - vs.toArray.size) undef,[]⟩ (zS vs):=by
 have h':vs.length<=n:=by simpa using h
 refine⟨O,by simp;omega,fun i=>?_⟩;simp only [zS];rw [gP,bX,Array.getElem?_append]
 split
 ·simp
 rename_i hi;simp at hi;rw [oP hi,Array.getElem?_replicate]
 split<;>rfl
theorem bG{R:ab->aa->Prop}{t:Nat}{b:Bool}(h:e t= .bool b)(hR:R (.bool b) w):wU t R .ret e w:=by show R (e t) w;rw [h];exact hR
theorem eF{R:ab->aa->Prop}{t:Nat}{k:IntKind}{i:Int}(h:e t= .int k i)(hR:R (.int k i) w):wU t R .ret e w:=by show R (e t) w;rw [h];exact hR
theorem dH{R:ab->aa->Prop}{t:Nat}{A:ai}{n c:Nat}(h:e t= .slice A n c)(hR:R (.slice A n c) w):wU t R .ret e w:=by show R (e t) w;rw [h];exact hR
theorem JI{R:ab->aa->Prop}{t:Nat}{v:ab}(h:e t=v)(hR:R v w):wU t R .ret e w:=by show R (e t) w;rw [h];exact hR
theorem wT{R:ab->aa->Prop}(hR:R (.tuple #[]) w):D9 R .ret e w:=hR
theorem Ea{R:ab->aa->Prop}(hR:R (.tuple #[]) w):D9 R .normal e w:=hR
theorem qy{R:ab->aa->Prop}{t u:Nat}{A:ai}{n c:Nat}{k:IntKind}{i:Int}(h:e t= .slice A n c)(h2:e u= .int k i)(hR:R (.tuple #[.slice A n c,.int k i]) w):tj t u R .ret e w:=by show R (.tuple #[e t,e u]) w;rw [h,h2];exact hR
theorem JJ{R:ab->aa->Prop}{t u:Nat}{k':IntKind}{j:Int}{k:IntKind}{i:Int}(h:e t= .int k' j)(h2:e u= .int k i)(hR:R (.tuple #[.int k' j,.int k i]) w):tj t u R .ret e w:=by show R (.tuple #[e t,e u]) w;rw [h,h2];exact hR
theorem rW{R:ab->aa->Prop}{t u:Nat}{b:Bool}{k:IntKind}{i:Int}(h:e t= .bool b)(h2:e u= .int k i)(hR:R (.tuple #[.bool b,.int k i]) w):tj t u R .ret e w:=by show R (.tuple #[e t,e u]) w;rw [h,h2];exact hR
theorem Tx{R:ab->aa->Prop}{t u:Nat}{A:ai}{n c:Nat}{b:Bool}(h:e t= .slice A n c)(h2:e u= .bool b)(hR:R (.tuple #[.slice A n c,.bool b]) w):tj t u R .ret e w:=by show R (.tuple #[e t,e u]) w;rw [h,h2];exact hR
theorem bs{F:FuncId}{fn:Func}{c:Code}{vs:List ab}{R:ab->aa->Prop}{Q:gn}(hf:P.funcs[F]?=some fn)(hc:fn.body=some c)(hn:fn.ntmps=N)(hl:Nat.ble vs.length N=true)(hQ:∀x a e w,gI N a e->Q x e w->bodyPost P fn (fun x w'=>∃v,x= .returned v/\R v w') x a w)(h:Cd P N c Q (zS vs) w):aG P F vs w R:=by
 subst hn;exact calls_of_wp hf hc (wp_mono (h.run _ (Tv vs _ hl)) fun x a w ⟨e,he,q⟩=>hQ x a e w he q)
theorem Jy{fn:Func}{R:ab->aa->Prop}(hr:fn.results= #[]):∀x a e w,gI N a e->D9 R x e w->bodyPost P fn (fun x w'=>∃v,x= .returned v/\R v w') x a w:=by
 intro x a e w he q;cases x<;>first
  | exact q.elim
  | exact⟨he.defers,_,results_none hr _ _ _,_,rfl,q⟩
theorem bF{fn:Func}{R:ab->aa->Prop}{t:Nat}(hr:fn.results= #[.tmp t]):∀x a e w,gI N a e->wU t R x e w->bodyPost P fn (fun x w'=>∃v,x= .returned v/\R v w') x a w:=by
 intro x a e w he q;have hg:=he.get t;cases x<;>first
  | exact q.elim
  | exact⟨he.defers,_,results_tmp hr _ _ _,_,rfl,by rw [hg];exact q⟩
theorem mV{fn:Func}{R:ab->aa->Prop}{t u:Nat}(hr:fn.results= #[.tmp t,.tmp u]):∀x a e w,gI N a e->tj t u R x e w->bodyPost P fn (fun x w'=>∃v,x= .returned v/\R v w') x a w:=by
 intro x a e w he q;have hg:=he.get t;have hh:=he.get u;cases x<;>first
  | exact q.elim
  | exact⟨he.defers,_,results_tmp2 hr _ _ _,_,rfl,by rw [hg,hh];exact q⟩
end
def hd:ab->Option ab
 | .int k n=>some (.int k n)
 | .slice a n c=>some (.slice a n c)
 | .bool b=>some (.bool b)
 | .pointer a=>some (.pointer a)
 | .agg cs=>some (.agg cs)
 | .func f a b=>some (.func f a b)
 | .tuple cs=>some (.tuple cs)
 | .string s=>some (.string s)
 | .map r=>some (.map r)
 | _=>none
theorem Cp{v u:ab}(h:hd v=some u):v=u:=by cases v<;>simp [hd]at h<;>exact h
def DJ(e:Env)(x y:ae):Option ab:=
 match ev e x,ev e y with
 | .int .i64 a,.int .i64 b=>some (.bool (decide (a<b)))
 | _,_=>none
theorem R8{e:Env}{x y:ae}{v:ab}(h:DJ e x y=some v):∃a b,ev e x=aj a/\ev e y=aj b/\v= .bool (decide (a<b)):=by
 unfold DJ at h
 split at h
 ·rename_i a b h1 h2;exact⟨a,b,h1,h2,(qH h).symm⟩
 cases h
def DH(e:Env)(x y:ae):Option ab:=
 match ev e x,ev e y with
 | .int .i64 a,.int .i64 b=>some (.bool (decide (a<=b)))
 | _,_=>none
theorem R0{e:Env}{x y:ae}{v:ab}(h:DH e x y=some v):∃a b,ev e x=aj a/\ev e y=aj b/\v= .bool (decide (a<=b)):=by
 unfold DH at h
 split at h
 ·rename_i a b h1 h2;exact⟨a,b,h1,h2,(qH h).symm⟩
 cases h
def Bj(e:Env)(x y:ae):Option ab:=
 match ev e x,ev e y with
 | .int .i64 a,.int .i64 b=>some (.bool (decide (b<a)))
 | _,_=>none
theorem Nu{e:Env}{x y:ae}{v:ab}(h:Bj e x y=some v):∃a b,ev e x=aj a/\ev e y=aj b/\v= .bool (decide (b<a)):=by
 unfold Bj at h
 split at h
 ·rename_i a b h1 h2;exact⟨a,b,h1,h2,(qH h).symm⟩
 cases h
def AW(e:Env)(x y:ae):Option ab:=
 match ev e x,ev e y with
 | .int .i64 a,.int .i64 b=>some (.bool (decide (b<=a)))
 | _,_=>none
theorem Nd{e:Env}{x y:ae}{v:ab}(h:AW e x y=some v):∃a b,ev e x=aj a/\ev e y=aj b/\v= .bool (decide (b<=a)):=by
 unfold AW at h
 split at h
 ·rename_i a b h1 h2;exact⟨a,b,h1,h2,(qH h).symm⟩
 cases h
def AG(e:Env)(x y:ae):Option ab:=
 match ev e x,ev e y with
 | .int .i64 a,.int .i64 b=>some (.bool (decide (a=b)))
 | _,_=>none
theorem MJ{e:Env}{x y:ae}{v:ab}(h:AG e x y=some v):∃a b,ev e x=aj a/\ev e y=aj b/\v= .bool (decide (a=b)):=by
 unfold AG at h
 split at h
 ·rename_i a b h1 h2;exact⟨a,b,h1,h2,(qH h).symm⟩
 cases h
def DR(e:Env)(x y:ae):Option ab:=
 match ev e x,ev e y with
 | .int .i64 a,.int .i64 b=>some (.bool (decide (¬a=b)))
 | _,_=>none
theorem SD{e:Env}{x y:ae}{v:ab}(h:DR e x y=some v):∃a b,ev e x=aj a/\ev e y=aj b/\v= .bool (decide (¬a=b)):=by
 unfold DR at h
 split at h
 ·rename_i a b h1 h2;exact⟨a,b,h1,h2,(qH h).symm⟩
 cases h
def En(e:Env):Op->Option ab
 | .move x=>hd (ev e x)
 | .assign x=>hd (ev e x)
 | .binOp .lss _ x y _=>DJ e x y
 | .binOp .leq _ x y _=>DH e x y
 | .binOp .gtr _ x y _=>Bj e x y
 | .binOp .geq _ x y _=>AW e x y
 | .binOp .eql _ x y _=>AG e x y
 | .binOp .neq _ x y _=>DR e x y
 | .extract x i=>match ev e x with
  | .tuple vs=> (match vs[i]? with
   | some v=>hd v
   | none=>none)
  | _=>none
 | .pick c x y=>match ev e c with
  | .bool true=> (match ev e x with
   | .bool b=>some (.bool b)
   | _=>none)
  | .bool false=> (match ev e y with
   | .bool b=>some (.bool b)
   | _=>none)
  | _=>none
 | _=>none
def mZ(N:Nat)(e:Env)(o:Oper):Option (Nat×ab):=
 match o.guard,o.dst with
 | none,some d=> (match Nat.blt d N with
  | true=> (match En e o.op with
   | some v=>some (d,v)
   | none=>none)
  | false=>none)
 | _,_=>none
def tI(N:Nat):List Oper->Env->List Oper×Env
 | [],e=> ([],e)
 | o::l,e=>match mZ N e o with
  | some (d,v)=>tI N l (br e d v)
  | none=> (o::l,e)
section
variable {P:Program} {N:Nat} {ops:Array Oper} {K:Env->aa->Prop} {e:Env} {w:aa}
theorem ak.mZ{o:Oper}{l:List Oper}{d:Nat}{v:ab}(h:mZ N e o=some (d,v))(hK:ak P N ops K l (br e d v) w):ak P N ops K (o::l) e w:=by
 obtain⟨dst,op,ty,pos,af,gd⟩:=o;unfold Vc.mZ at h
 split at h
 ·rename_i d' hg um;simp only at hg um;subst hg um
  split at h
  ·rename_i hb
   split at h
   ·rename_i v' hv;simp only [kP,Prod.mk.injEq]at h;obtain⟨rfl,rfl⟩:=h;replace hv:En e op=some v':=hv;unfold En at hv
    split at hv
    ·exact .mv O (Cp hv) hb hK
    ·exact .mv O (Cp hv) hb hK
    ·obtain⟨a,b,h1,h2,rfl⟩:=R8 hv;exact .lss h1 h2 hb hK
    ·obtain⟨a,b,h1,h2,rfl⟩:=R0 hv;exact .leq h1 h2 hb hK
    ·obtain⟨a,b,h1,h2,rfl⟩:=Nu hv;exact .gtr h1 h2 hb hK
    ·obtain⟨a,b,h1,h2,rfl⟩:=Nd hv;exact .geq h1 h2 hb hK
    ·obtain⟨a,b,h1,h2,rfl⟩:=MJ hv;exact .eql h1 h2 hb hK
    ·obtain⟨a,b,h1,h2,rfl⟩:=SD hv;exact .neq h1 h2 hb hK
    ·split at hv
     ·rename_i h1
      split at hv
      ·rename_i h2;exact .extract h1 (by rw [h2,Cp hv]) hb hK
      cases hv
     cases hv
    ·split at hv
     ·rename_i h1
      split at hv
      ·rename_i b h2;obtain rfl:=qH hv;exact .Tc h1 h2 hb hK
      cases hv
     ·rename_i h1
      split at hv
      ·rename_i b h2;obtain rfl:=qH hv;exact .Tb h1 h2 hb hK
      cases hv
     cases hv
    cases hv
   cases h
  cases h
 cases h
theorem zP:∀ {l:List Oper} {e:Env},ak P N ops K (tI N l e).1 (tI N l e).2 w->ak P N ops K l e w
 | [],_,h=>h
 | o::l,e,h=>by
  unfold tI at h
  split at h
  ·rename_i d v hs;exact .mZ hs (zP h)
  ·exact h
end
inductive Fr where
 | s (c:Code)
 | b (id:Nat)
def Qk(P:Program)(N:Nat)(Q:gn):List Fr->gn
 | []=>Q
 | .s y::r=>tv (Cd P N y (Qk P N Q r)) (Qk P N Q r)
 | .b id::r=>zY id (Qk P N Q r)
def uO:List Fr->Option (Code×List Fr)
 | []=>none
 | .s y::r=>some (y,r)
 | .b _::r=>uO r
def uP(id:Nat):List Fr->Option (List Fr)
 | []=>none
 | .s _::r=>uP id r
 | .b i::r=>match Nat.beq id i with
  | true=>some r
  | false=>uP id r
inductive tH where
 | c (c:Code) (s:List Fr) (e:Env)
 | o (ops:Array Oper) (l:List Oper) (s:List Fr) (e:Env)
 | n (e:Env)
 | r (e:Env)
 | x (id:Nat) (e:Env)
def tH.ok(P:Program)(N:Nat)(Q:gn)(w:aa):tH->Prop
 | .c y s e=>Cd P N y (Qk P N Q s) e w
 | .o ops l s e=>ak P N ops (fun e w=>Qk P N Q s .normal e w) l e w
 | .n e=>Q .normal e w
 | .r e=>Q .ret e w
 | .x id e=>Q (.exit id) e w
def run(N:Nat):Nat->Code->List Fr->Env->tH
 | 0,c,s,e=> .c c s e
 | n+1,c,s,e=>match c with
  | .seq x y=>run N n x (.s y::s) e
  | .block id x=>run N n x (.b id::s) e
  | .region id ops dr=>match dr with
   | true=> .c (.region id ops true) s e
   | false=>match tI N ops.toList e with
    | ([],e')=> (match uO s with
     | none=> .n e'
     | some (y,r)=>run N n y r e')
    | (o::l,e')=> .o ops (o::l) s e'
  | .skip=> (match uO s with
   | none=> .n e
   | some (y,r)=>run N n y r e)
  | .ret=> .r e
  | .exit id=> (match uP id s with
   | none=> .x id e
   | some s'=> (match uO s' with
    | none=> .n e
    | some (y,r)=>run N n y r e))
  | c=> .c c s e
def runN(N n:Nat)(s:List Fr)(e:Env):tH:=match uO s with
 | none=> .n e
 | some (y,r)=>run N n y r e
def uU(N n id:Nat)(s:List Fr)(e:Env):tH:=match uP id s with
 | none=> .x id e
 | some s'=>runN N n s' e
def tq(N n:Nat)(ops:Array Oper)(l:List Oper)(s:List Fr)(e:Env):tH:=match tI N l e with
 | ([],e')=>runN N n s e'
 | (o::l,e')=> .o ops (o::l) s e'
section
variable{id i1 i:Nat}{ops o1:Array Oper}{s1:List Fr}{e1:Env}{l l1:List Oper}{c1:Code}
variable {P:Program} {N:Nat} {Q:gn} {e:Env} {w:aa}
theorem wR:∀ {s:List Fr},(match uO s with | none=>Q .normal e w | some (y,r)=>Cd P N y (Qk P N Q r) e w)->Qk P N Q s .normal e w
 | [],h=>h
 | .s _::_,h=>h
 | .b _::r,h=>wR (s:=r) h
theorem zh{id:Nat}:∀ {s:List Fr},(match uP id s with | none=>Q (.exit id) e w | some r=>Qk P N Q r .normal e w)->Qk P N Q s (.exit id) e w
 | [],h=>h
 | .s _::r,h=>zh (s:=r) h
 | .b i::r,h=>by
  unfold uP at h;show(if id=i then _ else _);cases hb:Nat.beq id i with
  | true=>rw [aF (kO hb)];rw [hb]at h;exact h
  | false=>
   rw [aB (fun e=>by rw [e,Nat.beq_refl]at hb;cases hb)];rw [hb]at h;exact zh (s:=r) h
theorem b9:∀ {s:List Fr},Q .ret e w->Qk P N Q s .ret e w
 | [],h=>h
 | .s _::r,h=>b9 (s:=r) h
 | .b _::r,h=>b9 (s:=r) h
theorem Cd.Tt{Q:gn}(h:ak P N ops (fun e w=>Q .normal e w) ops.toList e w):Cd P N (.region id ops false) Q e w:=by
 have:=Cd.region (P:=P) (N:=N) (Q:=Q) (id:=id) (l:=ops.toList) (e:=e) (w:=w) (by rw [Array.toArray_toList];exact h)
 rwa [Array.toArray_toList]at this
theorem lI:∀ {n:Nat} {c:Code} {s:List Fr} {e:Env},(run N n c s e).ok P N Q w->Cd P N c (Qk P N Q s) e w
 | 0,_,_,_,h=>h
 | n+1,c,s,e,h=>by
  unfold run at h
  split at h
  ·exact .seq (lI h)
  ·exact .block (lI h)
  ·split at h
   ·exact h
   ·refine .Tt (zP ?_)
    split at h
    ·rename_i he;rw [he];refine ak.n (wR ?_)
     split at h
     ·exact h
     ·exact lI h
    ·rename_i he;rw [he];exact h
  ·refine .skip (wR ?_)
   split at h
   ·exact h
   ·exact lI h
  ·exact .ret (b9 h)
  ·refine .exit (zh ?_)
   split at h
   ·exact h
   ·refine wR ?_
    split at h
    ·exact h
    ·exact lI h
  ·exact h
theorem tp{n:Nat}{s:List Fr}{e:Env}(h:(runN N n s e).ok P N Q w):Qk P N Q s .normal e w:=by
 unfold runN at h;refine wR ?_
 split at h
 ·exact h
 exact lI h
theorem zo{n:Nat}{s:List Fr}{e:Env}(h:(uU N n id s e).ok P N Q w):Qk P N Q s (.exit id) e w:=by
 unfold uU at h;refine zh ?_
 split at h
 ·exact h
 exact tp h
theorem wX{n:Nat}{s:List Fr}{e:Env}(h:(tq N n ops l s e).ok P N Q w):ak P N ops (fun e w=>Qk P N Q s .normal e w) l e w:=by
 unfold tq at h;refine zP ?_
 split at h
 ·rename_i he;rw [he];exact ak.n (tp h)
 rename_i he;rw [he];exact h
theorem cj{c:Code}{s:List Fr}(h:run N 1000 c s e= .c c1 s1 e1)(k:Cd P N c1 (Qk P N Q s1) e1 w):Cd P N c (Qk P N Q s) e w:=lI (n:=1000) (by rw [h];exact k)
theorem aC{c:Code}{s:List Fr}(h:run N 1000 c s e= .o o1 l1 s1 e1)(k:ak P N o1 (fun e w=>Qk P N Q s1 .normal e w) l1 e1 w):Cd P N c (Qk P N Q s) e w:=lI (n:=1000) (by rw [h];exact k)
theorem sc{c:Code}{s:List Fr}(h:run N 1000 c s e= .n e1)(k:Q .normal e1 w):Cd P N c (Qk P N Q s) e w:=lI (n:=1000) (by rw [h];exact k)
theorem bV{c:Code}{s:List Fr}(h:run N 1000 c s e= .r e1)(k:Q .ret e1 w):Cd P N c (Qk P N Q s) e w:=lI (n:=1000) (by rw [h];exact k)
theorem bj{c:Code}{s:List Fr}(h:run N 1000 c s e= .x i1 e1)(k:Q (.exit i1) e1 w):Cd P N c (Qk P N Q s) e w:=lI (n:=1000) (by rw [h];exact k)
theorem u6(n:Nat){c:Code}{s:List Fr}(h:run N n c s e= .c c1 s1 e1)(k:Cd P N c1 (Qk P N Q s1) e1 w):Cd P N c (Qk P N Q s) e w:=lI (n:=n) (by rw [h];exact k)
theorem bH{c:Code}(h:run N 1000 c [] e= .c c1 s1 e1)(k:Cd P N c1 (Qk P N Q s1) e1 w):Cd P N c Q e w:=lI (s:=[]) (n:=1000) (by rw [h];exact k)
theorem aY{c:Code}(h:run N 1000 c [] e= .o o1 l1 s1 e1)(k:ak P N o1 (fun e w=>Qk P N Q s1 .normal e w) l1 e1 w):Cd P N c Q e w:=lI (s:=[]) (n:=1000) (by rw [h];exact k)
theorem zF{c:Code}(h:run N 1000 c [] e= .r e1)(k:Q .ret e1 w):Cd P N c Q e w:=lI (s:=[]) (n:=1000) (by rw [h];exact k)
theorem aA{s:List Fr}(h:tq N 1000 ops l s e= .c c1 s1 e1)(k:Cd P N c1 (Qk P N Q s1) e1 w):ak P N ops (fun e w=>Qk P N Q s .normal e w) l e w:=wX (n:=1000) (by rw [h];exact k)
theorem aq{s:List Fr}(h:tq N 1000 ops l s e= .o o1 l1 s1 e1)(k:ak P N o1 (fun e w=>Qk P N Q s1 .normal e w) l1 e1 w):ak P N ops (fun e w=>Qk P N Q s .normal e w) l e w:=wX (n:=1000) (by rw [h];exact k)
theorem aM{s:List Fr}(h:tq N 1000 ops l s e= .n e1)(k:Q .normal e1 w):ak P N ops (fun e w=>Qk P N Q s .normal e w) l e w:=wX (n:=1000) (by rw [h];exact k)
theorem bW{s:List Fr}(h:tq N 1000 ops l s e= .r e1)(k:Q .ret e1 w):ak P N ops (fun e w=>Qk P N Q s .normal e w) l e w:=wX (n:=1000) (by rw [h];exact k)
theorem zG(n:Nat){s:List Fr}(h:tq N n ops l s e= .c c1 s1 e1)(k:Cd P N c1 (Qk P N Q s1) e1 w):ak P N ops (fun e w=>Qk P N Q s .normal e w) l e w:=wX (n:=n) (by rw [h];exact k)
theorem dM{s:List Fr}(h:runN N 1000 s e= .c c1 s1 e1)(k:Cd P N c1 (Qk P N Q s1) e1 w):Qk P N Q s .normal e w:=tp (n:=1000) (by rw [h];exact k)
theorem ib{s:List Fr}(h:runN N 1000 s e= .o o1 l1 s1 e1)(k:ak P N o1 (fun e w=>Qk P N Q s1 .normal e w) l1 e1 w):Qk P N Q s .normal e w:=tp (n:=1000) (by rw [h];exact k)
theorem Kz{s:List Fr}(h:runN N 1000 s e= .n e1)(k:Q .normal e1 w):Qk P N Q s .normal e w:=tp (n:=1000) (by rw [h];exact k)
theorem sd{s:List Fr}(h:runN N 1000 s e= .r e1)(k:Q .ret e1 w):Qk P N Q s .normal e w:=tp (n:=1000) (by rw [h];exact k)
theorem Ky(n:Nat){s:List Fr}(h:runN N n s e= .c c1 s1 e1)(k:Cd P N c1 (Qk P N Q s1) e1 w):Qk P N Q s .normal e w:=tp (n:=n) (by rw [h];exact k)
theorem lK{s:List Fr}(h:uU N 1000 i s e= .c c1 s1 e1)(k:Cd P N c1 (Qk P N Q s1) e1 w):Qk P N Q s (.exit i) e w:=zo (n:=1000) (by rw [h];exact k)
theorem cn{s:List Fr}(h:uU N 1000 i s e= .o o1 l1 s1 e1)(k:ak P N o1 (fun e w=>Qk P N Q s1 .normal e w) l1 e1 w):Qk P N Q s (.exit i) e w:=zo (n:=1000) (by rw [h];exact k)
theorem qF{s:List Fr}(h:uU N 1000 i s e= .n e1)(k:Q .normal e1 w):Qk P N Q s (.exit i) e w:=zo (n:=1000) (by rw [h];exact k)
theorem dd{s:List Fr}(h:uU N 1000 i s e= .r e1)(k:Q .ret e1 w):Qk P N Q s (.exit i) e w:=zo (n:=1000) (by rw [h];exact k)
end
def K5:Prop:=False
structure Below(B:Nat)(w w':aa):Prop extends Go.RowKit.Below B w w' where
 drawn:K5->w.drawn<=w'.drawn
theorem Below.refl(B:Nat)(w:aa):Below B w w:=⟨Go.RowKit.Below.refl B w,fun _=>cO _⟩
theorem Below.trans{B:Nat}{a b c:aa}(h:Below B a b)(k:Below B b c):Below B a c:=⟨h.toBelow.trans k.toBelow,fun s=>gm (h.drawn s) (k.drawn s)⟩
theorem Below.mono{B B':Nat}{w w':aa}(h:Below B w w')(hB:B'<=B):Below B' w w':=⟨h.toBelow.mono hB,h.drawn⟩
theorem Below.drew{B:Nat}{a w:aa}(h:Below B a w):Below B a w.drew:=⟨h.toBelow.drew,fun s=>Nat.le_succ_of_le (h.drawn s)⟩
theorem Below.alloc{B:Nat}{a w:aa}(h:Below B a w)(hB:B<=w.heap.size)(o:Obj):Below B a (w.alloc o):=⟨h.toBelow.alloc hB o,h.drawn⟩
structure u7(w w':aa)(row:Option Nat):Prop where
 g:w.grownBy w' row
 drawn:w.drawn<=w'.drawn
theorem Below.grown{B:Nat}{a w w':aa}{row:Option Nat}(h:Below B a w)(hg:u7 w w' row)(hB:B<=w.heap.size)(hr:∀k,row=some k->B<=k):Below B a w':=⟨h.toBelow.grown hg.g hB hr,fun s=>gm (h.drawn s) hg.drawn⟩
theorem Below.grow{w w':aa}(h:Below w.heap.size w w')(hd:w.drawn<=w'.drawn):∃q os,w'=Go.Sort.grow (w.drewN q) os:=by
 refine⟨w'.drawn - w.drawn,w'.heap.extract w.heap.size w'.heap.size,?_⟩;obtain⟨h1,h2,h3,h4,h5⟩:=h.toBelow;have hh:w'.heap=w.heap++w'.heap.extract w.heap.size w'.heap.size:=by
  apply Array.ext_getElem?;intro i
  by_cases hi:i<w.heap.size
  ·rw [Array.getElem?_append_left hi,h5 i hi]
  rw [Array.getElem?_append_right (by omega),Array.getElem?_extract]
  by_cases ym:i<w'.heap.size
  ·rw [aF (by omega)];congr 1;omega
  rw [aB (by omega),Array.getElem?_eq_none (by omega)]
 cases w;cases w';simp only [Go.Sort.grow,World.drewN]at*;subst h1 h2 h3
 congr 1
 omega
def az(A:ai)(k:Nat):ai:=A.map (·.add k)
def Rd(w:aa)(A:ai)(n:Nat)(f:Nat->ab):Prop:=∀k,k<n->∃p,az A k=some p/\w.cell? p=some (f k)
structure Ck where
 A:ai
 n:Nat
 c:Nat
 e:ad
 vs:List ab
def Ck.fw(k:Ck):Option Nat:=k.A.map (·.block)
def oX:List (ab×ab)->List ab
 | []=> []
 | p::r=>p.1::p.2::oX r
theorem FI:∀ {a b:List (ab×ab)},oX a=oX b->a=b
 | [],[],_=>rfl
 | [],_::_,h=>by simp [oX]at h
 | _::_,[],h=>by simp [oX]at h
 | (x,y)::a,(x',y')::b,h=>by
  simp only [oX,List.cons.injEq]at h;rw [h.1,h.2.1,FI h.2.2]
def cX:List ab->Bool
 | .tuple _::_=>true
 | _=>false
theorem Dx{v:ab}{r:List ab}(h:v.oneCell'=true):cX (v::r)=false:=by
 cases v<;>simp_all [cX,Value.oneCell']
theorem qn{l:List ab}(h:∀v∈l,v.oneCell'=true):cX l=false:=by
 cases l with
 | nil=>rfl
 | cons v r=>exact Dx (h v (by simp))
theorem QA{a b:List ab}(ha:cX a=false)(hb:cX b=false):cX (a++b)=false:=by
 cases a with
 | nil=>exact hb
 | cons v r=>cases v<;>simp_all [cX]
theorem Dw{a b:List ab}(ha:cX a=false)(h:a≠[]):cX (a++b)=false:=by
 cases a with
 | nil=>exact absurd rfl h
 | cons v r=>cases v<;>simp_all [cX]
theorem QD{a:List ab}(m:Nat)(ha:cX a=false):cX (a.take m)=false:=by
 cases a with
 | nil=>simp [cX]
 | cons v r=>
  cases m with
  | zero=>rfl
  | succ m=>cases v<;>simp_all [cX]
theorem Ih{a:List ab}(j:Nat){u:ab}(ha:cX a=false)(hu:u.oneCell'=true):cX (a.set j u)=false:=by
 cases a with
 | nil=>rfl
 | cons v r=>
  cases j with
  | zero=>exact Dx hu
  | succ m=>cases v<;>simp_all [cX]
theorem QC{z:ab}(n:Nat)(hz:z.oneCell'=true):cX (List.replicate n z)=false:=qn fun v hv=>by rw [(List.mem_replicate.1 hv).2];exact hz
def tG(B:Nat)(w:aa)(k:Ck):Prop:=
 k.vs.length=k.n/\k.n<=k.c/\k.c<=maxLen/\
 ((k.A=none/\k.c=0)\/∃g o cur,k.A=some ⟨g,o,none⟩/\B<=g/\w.heap[g]?=some (.cells cur k.e (0,0))/\o+k.c<=cur.size/\∀j,j<k.n->cur[o+j]?=k.vs[j]?)
def zJ(B:Nat)(w:aa)(k:Ck):Prop:=
 k.n=0/\k.c=0/\∃g es cl,k.A=some ⟨g,0,none⟩/\B<=g/\w.heap[g]?=some (.map es cl)/\k.vs= .tuple #[]::oX (es.toList.map fun e=> (e.key,e.val))
def Own(B:Nat)(w:aa)(k:Ck):Prop:=if cX k.vs=true then zJ B w k else tG B w k
theorem Own.mU{B:Nat}{w:aa}{k:Ck}(hm:cX k.vs=false)(h:tG B w k):Own B w k:=by unfold Own;rw [if_neg (by simp [hm])];exact h
theorem Own.zs{B:Nat}{w:aa}{k:Ck}(hm:cX k.vs=false)(h:Own B w k):tG B w k:=by unfold Own at h;rwa [if_neg (by simp [hm])]at h
theorem Own.cases{B:Nat}{w:aa}{k:Ck}(h:Own B w k):(cX k.vs=true/\zJ B w k)\/(cX k.vs=false/\tG B w k):=by
 unfold Own at h
 split at h
 ·rename_i hm;exact .inl ⟨hm,h⟩
 rename_i hm;exact .inr ⟨by simpa using hm,h⟩
theorem Own.ofM{B:Nat}{w:aa}{k:Ck}(hm:cX k.vs=true)(h:zJ B w k):Own B w k:=by unfold Own;rw [if_pos hm];exact h
structure St(w0 w:aa)(ks:List Ck):Prop where
 below:Below w0.heap.size w0 w
 own:∀k∈ks,Own w0.heap.size w k
 apart:(ks.filterMap Ck.fw).Nodup
theorem vj{g o:Nat}(k:Nat):(⟨g,o,none⟩:Addr).add k=⟨g,o+k,none⟩:=by unfold Addr.add;split<;>simp_all
section
variable{B' i j:Nat}{jt:List Ck}
variable {w0 w w':aa} {ks:List Ck} {k:Ck} {B:Nat}
theorem Own.rd(h:Own B w k):Rd w k.A k.n (fun j=>k.vs.getD j undef):=by
 rcases h.cases with⟨_,hn,_⟩ | ⟨_,h1,h2,h3,h4⟩
 ·intro j hj;omega
 intro j hj;rcases h4 with⟨_,h0⟩ | ⟨g,o,cur,hA,hg,hh,hs,hc⟩
 ·omega
 refine⟨⟨g,o+j,none⟩,by simp [az,hA,vj],?_⟩;simp only [World.cell?,hh];rw [hc j hj];simp [bX,dE (show j<k.vs.length by omega)]
theorem Own.mono(h:Own B w k)(hB:B'<=B):Own B' w k:=by
 rcases h.cases with⟨hm,hn,hc,g,es,cl,hA,hg,r⟩ | ⟨hm,h1,h2,h3,h4⟩
 ·exact .ofM hm ⟨hn,hc,g,es,cl,hA,by omega,r⟩
 refine .mU hm ⟨h1,h2,h3,?_⟩;rcases h4 with h0 | ⟨g,o,cur,hA,hg,r⟩
 ·exact .inl h0
 exact .inr ⟨g,o,cur,hA,by omega,r⟩
theorem Own.keep(h:Own B w k)(hb:∀g,k.fw=some g->w'.heap[g]?=w.heap[g]?):Own B w' k:=by
 rcases h.cases with⟨hm,hn,hc,g,es,cl,hA,hg,hh,r⟩ | ⟨hm,h1,h2,h3,h4⟩
 ·exact .ofM hm ⟨hn,hc,g,es,cl,hA,hg,by rw [hb g (by simp [Ck.fw,hA])];exact hh,r⟩
 refine .mU hm ⟨h1,h2,h3,?_⟩;rcases h4 with h0 | ⟨g,o,cur,hA,hg,hh,r⟩
 ·exact .inl h0
 exact .inr ⟨g,o,cur,hA,hg,by rw [hb g (by simp [Ck.fw,hA])];exact hh,r⟩
theorem Own.lt(h:Own B w k){g:Nat}(hg:k.fw=some g):B<=g/\g<w.heap.size:=by
 rcases h.cases with⟨hm,hn,hc,g',es,cl,hA,jV,hh,r⟩ | ⟨hm,h1,h2,h3,h4⟩
 ·simp [Ck.fw,hA]at hg;subst hg;exact⟨jV,(Array.getElem?_eq_some_iff.1 hh).1⟩
 rcases h4 with⟨h0,_⟩ | ⟨g',o,cur,hA,jV,hh,r⟩
 ·simp [Ck.fw,h0]at hg
 simp [Ck.fw,hA]at hg;subst hg;exact⟨jV,(Array.getElem?_eq_some_iff.1 hh).1⟩
theorem Own.cap(h:Own B w k):k.n<=k.c/\k.c<=maxLen:=by
 rcases h.cases with⟨_,hn,hc,_⟩ | ⟨_,_,h2,h3,_⟩
 ·exact⟨by omega,by rw [hc];exact bk _⟩
 exact⟨h2,h3⟩
theorem St.refl(w:aa):St w w []:=⟨Below.refl _ _,(fun _ h=>by cases h),List.nodup_nil⟩
theorem St.get(h:St w0 w ks)(hk:ks[i]?=some k):Own w0.heap.size w k:=h.own k (List.mem_of_getElem? hk)
theorem St.mE(h:St w0 w ks)(hk:ks[i]?=some k)(hm:cX k.vs=false):tG w0.heap.size w k:=(h.get hk).zs hm
theorem St.rd(h:St w0 w ks)(i:Nat)(hk:ks[i]?=some k):Rd w k.A k.n (fun j=>k.vs.getD j undef):=(h.get hk).rd
theorem Rd.lt{A:ai}{n:Nat}{f:Nat->ab}(h:Rd w A n f)(hj:j<n):∃p,az A j=some p/\p.block<w.heap.size/\w.cell? p=some (f j):=by
 obtain⟨p,hp,hc⟩:=h j hj;exact⟨p,hp,World.block_lt_of_cell? _ _ hc,hc⟩
theorem Rd.below{A:ai}{n:Nat}{f:Nat->ab}(h:Rd w A n f)(hb:Below w.heap.size w w'):Rd w' A n f:=fun j hj=>by
 obtain⟨p,hp,hl,hc⟩:=h.lt hj;exact⟨p,hp,(hb.cell hl).trans hc⟩
theorem St.lH(h:St w0 w ks){A:ai}{n:Nat}{f:Nat->ab}(hR:Rd w0 A n f):Rd w A n f:=hR.below h.below
theorem Rd.congr{A:ai}{n:Nat}{f g:Nat->ab}(h:Rd w A n f)(hf:∀j,j<n->f j=g j):Rd w A n g:=fun j hj=>by
 obtain⟨p,hp,hc⟩:=h j hj;exact⟨p,hp,by rw [hc,hf j hj]⟩
theorem St.ao(h:St w0 w ks)(hb:Below w.heap.size w w'):St w0 w' ks:=
 ⟨h.below.trans (hb.mono h.below.size),fun k hk=> (h.own k hk).keep fun g hg=>hb.block g ((h.own k hk).lt hg).2,h.apart⟩
theorem St.drew(h:St w0 w ks):St w0 w.drew ks:=h.ao (Below.drew (Below.refl _ _))
theorem St.call(h:St w0 w ks)(h':St w w' jt):St w0 w' (jt++ks):=by
 have h1:=h.ao h'.below;refine⟨h1.below,fun k hk=>?_,?_⟩
 ·rcases gQ.1 hk with hk | hk
  ·exact(h'.own k hk).mono h.below.size
  exact h1.own k hk
 rw [List.filterMap_append,List.nodup_append];refine⟨h'.apart,h.apart,fun a ha b hb=>?_⟩;obtain⟨k,hk,CE⟩:=List.mem_filterMap.1 ha;obtain⟨k',cE,o7⟩:=List.mem_filterMap.1 hb;have l1:=((h'.own k hk).lt CE).1;have l2:=((h.own k' cE).lt o7).2;omega
theorem St.call2(h:St w0 w ks)(h':St w w' jt):St w0 w' (ks++jt):=by
 have h1:=h.call h';exact⟨h1.below,fun k hk=>h1.own k ((gB (l₁:=jt) (l₂:=ks)).mem_iff.2 hk),((gB (l₁:=jt) (l₂:=ks)).filterMap _).nodup_iff.1 h1.apart⟩
theorem St.sub(h:St w0 w ks)(hs:jt.Sublist ks):St w0 w jt:=
 ⟨h.below,fun k hk=>h.own k (hs.subset hk),h.apart.sublist (hs.filterMap _)⟩
theorem St.perm(h:St w0 w ks)(hs:ks.Perm jt):St w0 w jt:=
 ⟨h.below,fun k hk=>h.own k (hs.mem_iff.2 hk),(hs.filterMap _).nodup_iff.1 h.apart⟩
theorem St.tail(h:St w0 w (k::ks)):St w0 w ks:=h.sub (List.sublist_cons_self _ _)
theorem St.none(h:St w0 w ks):St w0 w []:=h.sub (List.nil_sublist _)
theorem St.swap{k':Ck}(h:St w0 w (k::k'::ks)):St w0 w (k'::k::ks):=h.perm (List.Perm.swap _ _ _)
theorem St.nil(h:St w0 w ks)(e:ad):St w0 w (⟨Option.none,0,0,e,[]⟩::ks):=
 ⟨h.below,fun k hk=>by
  rcases kj.1 hk with rfl | hk
  ·exact .mU O ⟨O,cO _,bk _,.inl ⟨O,O⟩⟩
  exact h.own k hk,h.apart⟩
theorem St.alloc(h:St w0 w ks)(cs:List ab)(e:ad)(hm:cs.length<=maxLen)(hM:cX cs=false):St w0 (w.alloc (.cells cs.toArray e)) (⟨some ⟨w.heap.size,0,Option.none⟩,cs.length,cs.length,e,cs⟩::ks):=by
 have hb:Below w.heap.size w (w.alloc (.cells cs.toArray e)):=(Below.refl _ _).alloc (cO _) _;have h1:=h.ao hb;refine⟨h1.below,fun k hk=>?_,?_⟩
 ·rcases kj.1 hk with rfl | hk
  ·exact .mU hM ⟨O,cO _,hm,.inr ⟨_,0,cs.toArray,O,h.below.size,heap_alloc_new w _,by simp,fun j hj=>by simp⟩⟩
  exact h1.own k hk
 simp only [List.filterMap_cons,Ck.fw,Option.map_some,lM];refine⟨fun cd=>?_,h.apart⟩;obtain⟨k',cE,o7⟩:=List.mem_filterMap.1 cd;have:=((h.own k' cE).lt o7).2;omega
theorem xF{α β:Type}(f:α->Option β):∀(l:List α) (i:Nat) (a b:α),l[i]?=some a->f b=f a->(l.set i b).filterMap f=l.filterMap f
 | [],_,_,_,h,_=>by simp at h
 | x::l,0,a,b,h,he=>by
  simp at h;subst h;simp [List.filterMap_cons,he]
 | x::l,i+1,a,b,h,he=>by
  simp only [List.getElem?_cons_succ]at h;simp only [List.set_cons_succ,List.filterMap_cons,xF f l i a b h he]
theorem St.turn{g:Nat}{k':Ck}(h:St w0 w ks)(hk:ks[i]?=some k)(o4:k.fw=some g)(Ou:k'.fw=some g)(hw:u7 w w' (some g))(ho:Own w0.heap.size w' k'):St w0 w' (ks.set i k'):=by
 have cW:=(h.get hk).lt o4;refine⟨h.below.grown hw h.below.size (fun x hx=>by cases hx;exact cW.1),fun x hx=>?_,?_⟩
 ·obtain⟨j,hj,rfl⟩:=fP.1 hx;have eV:j<ks.length:=by simpa using hj
  rw [List.getElem_set]
  split
  ·exact ho
  ·rename_i cG;have hm:ks[j]∈ks:=di _;refine(h.own _ hm).keep fun g' jV=>hw.g.block g' ((h.own _ hm).lt jV).2 fun e=>?_
   injection e with e
   subst e;have bP:i<ks.length:=(fu.1 hk).1;have dI:ks[i]=k:=(fu.1 hk).2;exact absurd (show False from by
    have hn:=h.apart;have key:∀(l:List Ck),(l.filterMap Ck.fw).Nodup->∀i j (hi:i<l.length) (hj:j<l.length),i≠j->l[i].fw=some g'->l[j].fw=some g'->False:=by
     intro l
     induction l with
     | nil=>intro _ i j hi;simp at hi
     | cons a l ih=>
      intro hn i j hi hj cG h1 h2;cases i with
      | zero=>
       cases j with
       | zero=>exact cG rfl
       | succ j=>
        simp only [List.getElem_cons_zero]at h1;simp only [List.getElem_cons_succ]at h2;rw [List.filterMap_cons,h1]at hn;simp only [lM]at hn;exact hn.1 (List.mem_filterMap.2 ⟨_,di _,h2⟩)
      | succ i=>
       cases j with
       | zero=>
        simp only [List.getElem_cons_zero]at h2;simp only [List.getElem_cons_succ]at h1;rw [List.filterMap_cons,h2]at hn;simp only [lM]at hn;exact hn.1 (List.mem_filterMap.2 ⟨_,di _,h1⟩)
       | succ j=>
        have qd:(l.filterMap Ck.fw).Nodup:=by
         rw [List.filterMap_cons]at hn
         split at hn
         ·exact hn
         ·exact(lM.1 hn).2
        exact ih qd i j (by simpa using hi) (by simpa using hj) (by omega) (by simpa using h1) (by simpa using h2)
    exact key ks hn i j bP eV cG (by rw [dI];exact o4) jV) id
 ·rw [xF Ck.fw ks i k k' hk (by rw [o4,Ou])];exact h.apart
theorem St.store(h:St w0 w ks)(i:Nat)(hk:ks[i]?=some k)(hj:j<k.n)(u:ab)(hu:u.oneCell'=true):
 ∃p,az k.A j=some p/\(∃v,w.cell? p=some v)/\w.frozen? p=false/\St w0 (w.setCell p u) (ks.set i { k with vs:=k.vs.set j u }):=by
 rcases(h.get hk).cases with⟨_,k5,_⟩ | ⟨hM,h1,h2,h3,h4⟩
 ·omega
 rcases h4 with⟨_,h0⟩ | ⟨g,o,cur,hA,hg,hh,hs,hc⟩
 ·omega
 refine⟨⟨g,o+j,Option.none⟩,by simp [az,hA,vj],?_,?_,?_⟩
 ·have:o+j<cur.size:=by omega
  exact⟨cur[o+j],by simp [World.cell?,hh,nW this]⟩
 ·simp [World.frozen?,hh]
 have o4:k.fw=some g:=by simp [Ck.fw,hA]
 have cW:=(Array.getElem?_eq_some_iff.1 hh).1;refine h.turn (k':= { k with vs:=k.vs.set j u }) hk o4 o4 ⟨⟨O,O,O,by simp,fun x _ hx=>heap_setCell_other w ⟨g,o+j,Option.none⟩ x u (fun e=>hx (by simp [e]))⟩,cO _⟩ ?_;refine .mU (Ih j hM hu) ⟨by simpa using h1,h2,h3,.inr ⟨g,o,cur.setIfInBounds (o+j) u,hA,hg,heap_setCell_same w g (o+j) cur k.e u hh,by simpa using hs,fun m hm=>?_⟩⟩;have fj:m<k.n:=hm;rw [qE];show _=(k.vs.set j u)[m]?;rw [jy]
 by_cases e:j=m
 ·subst e;rw [aF rfl,aF rfl,aF (by omega),aF (by omega)]
 rw [aB (by omega),aB e];exact hc m fj
end
structure aH where
 a:ai
 n:Nat
 c:Nat
def aH.v(s:aH):ab:= .slice s.a s.n s.c
def bA:aH:=⟨none,0,0⟩
def gi(xs:ah)(i:Int):Int:=xs.getD i.toNat 0
def gb(xs:List Bool)(i:Int):Bool:=xs.getD i.toNat false
def rg(xs:List aH)(i:Int):aH:=xs.getD i.toNat bA
def bS(w:aa)(A:ai)(n:Nat)(xs:ah):Prop:=xs.length=n/\Rd w A n (fun j=>aj (xs.getD j 0))
def oe(w:aa)(A:ai)(n:Nat)(xs:List Bool):Prop:=xs.length=n/\Rd w A n (fun j=> .bool (xs.getD j false))
def eU(w:aa)(A:ai)(n:Nat)(xs:List aH):Prop:=xs.length=n/\Rd w A n (fun j=> (xs.getD j bA).v)
abbrev aE(t:ad)(A:ai)(n c:Nat)(xs:ah):Ck:=⟨A,n,c,t,xs.map (aj)⟩
abbrev dC(t:ad)(A:ai)(n c:Nat)(xs:List Bool):Ck:=⟨A,n,c,t,xs.map .bool⟩
abbrev aQ(t:ad)(A:ai)(n c:Nat)(xs:List aH):Ck:=⟨A,n,c,t,xs.map aH.v⟩
theorem nK(xs:ah):cX (xs.map (Value.int .i64))=false:=qn fun v hv=>by obtain⟨_,_,rfl⟩:=fq.1 hv;rfl
theorem s6(xs:List Bool):cX (xs.map Value.bool)=false:=qn fun v hv=>by obtain⟨_,_,rfl⟩:=fq.1 hv;rfl
theorem pj(xs:List aH):cX (xs.map aH.v)=false:=qn fun v hv=>by obtain⟨_,_,rfl⟩:=fq.1 hv;rfl
section
variable{xs:ah}
variable {w0 w w':aa} {ks:List Ck} {t:ad} {A:ai} {n c:Nat}
theorem St.bU(h:St w0 w ks)(i:Nat)(hk:ks[i]?=some (aE t A n c xs)):bS w A n xs:=by
 have hl:xs.length=n:=by have:=(h.mE hk (nK xs)).1;simpa using this
 exact⟨hl,(h.rd i hk).congr fun j hj=>by have eV:j<n:=hj;simp [bX,dE (show j<xs.length by omega)]⟩
theorem St.fm{xs:List Bool}(h:St w0 w ks)(i:Nat)(hk:ks[i]?=some (dC t A n c xs)):oe w A n xs:=by
 have hl:xs.length=n:=by have:=(h.mE hk (s6 xs)).1;simpa using this
 exact⟨hl,(h.rd i hk).congr fun j hj=>by have eV:j<n:=hj;simp [bX,dE (show j<xs.length by omega)]⟩
theorem St.dB{xs:List aH}(h:St w0 w ks)(i:Nat)(hk:ks[i]?=some (aQ t A n c xs)):eU w A n xs:=by
 have hl:xs.length=n:=by have:=(h.mE hk (pj xs)).1;simpa using this
 exact⟨hl,(h.rd i hk).congr fun j hj=>by have eV:j<n:=hj;simp [bX,dE (show j<xs.length by omega)]⟩
theorem St.dh(h:St w0 w ks)(hR:bS w0 A n xs):bS w A n xs:=⟨hR.1,h.lH hR.2⟩
theorem St.wP{xs:List aH}(h:St w0 w ks)(hR:eU w0 A n xs):eU w A n xs:=⟨hR.1,h.lH hR.2⟩
theorem St.cap{k:Ck}(h:St w0 w ks)(i:Nat)(hk:ks[i]?=some k):k.n<=k.c/\k.c<=maxLen:=(h.get hk).cap
theorem St.rL(h:St w0 w ks)(i:Nat)(hk:ks[i]?=some (aE t A n c xs)):xs.length=n:=(h.bU i hk).1
theorem bS.ao(h:bS w A n xs)(hb:Below w.heap.size w w'):bS w' A n xs:=⟨h.1,h.2.below hb⟩
theorem oe.ao{xs:List Bool}(h:oe w A n xs)(hb:Below w.heap.size w w'):oe w' A n xs:=⟨h.1,h.2.below hb⟩
theorem eU.ao{xs:List aH}(h:eU w A n xs)(hb:Below w.heap.size w w'):eU w' A n xs:=⟨h.1,h.2.below hb⟩
theorem bS.nil:bS w none 0 []:=⟨rfl,fun k hk=>by omega⟩
end
section
variable{t te:ad}{z u v0 z0:ab}{b j c1 m ft off sz o l h c':Nat}{x ix x0 lo bP y:ae}{A1 A':ai}{k:IntKind}{i:Int}{xs:ah}
variable {P:Program} {N:Nat} {ops:Array Oper} {K:Env->aa->Prop} {rest:List Oper} {e:Env} {w0 w w':aa} {ks:List Ck} {d:Nat} {ty:ad} {pos:String} {af:Array Edge}
theorem Wf{el:ad}[bK P t (.slice el)][bL P el z 1 b]{A:ai}{n c:Nat}{f:Nat->ab}(hR:Rd w A n f)(hx:ev e x= .slice A n c)(hy:ev e ix= .int k i)(hb:Nat.blt d N=true)(h0:0<=i)(h1:i< (n:Int))(hK:ak P N ops K rest (br e d (.pointer (az A i.toNat))) w):
 ak P N ops K (⟨some d,.indexAddr t x ix,ty,pos,af,none⟩::rest) e w:=by
 obtain⟨p,hp,_⟩:=hR i.toNat (by omega);obtain⟨q,rfl⟩:∃q,A=some q:=by cases A with | none=>simp [az]at hp | some q=>exact⟨q,rfl⟩
 obtain⟨inf,hi,_,hs,_⟩:=bL.get P el;refine .val (w':=w) ?_ hb hK;simp [execOp,Instr.indexAt,hx,hy,asIntOf,run_underlying (bK.out (P:=P) (t:=t)),h0,h1,sizeOf,typeInfo,hi,hs,az]
theorem aw{el:ad}[bK P t (.slice el)][bL P el z 1 b]{A:ai}{n c:Nat}{f:Nat->ab}(hR:Rd w A n f)(q9:(ev e x,ev e ix,Nat.blt d N)=(.slice A n c,.int k i,true))(hK:ak P N ops K rest (br e d (.pointer (az A i.toNat))) w)(h0:0<=i:=by omega)(h1:i< (n:Int):=by omega):ak P N ops K (⟨some d,.indexAddr t x ix,ty,pos,af,none⟩::rest) e w:=Wf hR (congrArg (fun p=>p.1) q9) (congrArg (fun p=>p.2.1) q9) (congrArg (fun p=>p.2.2) q9) h0 h1 hK
def rT:TypeDesc->Bool
 | .struct _=>false
 | .array _ _=>false
 | _=>true
theorem TL{u:TypeDesc}(hu:P.underlying t=some u)(hp:rT u=true):(isAgg t).run P w= .ok false w:=by
 cases u<;>simp [rT]at hp<;>simp [isAgg,run_underlying hu]
theorem ak.ld{u:TypeDesc}[bK P t u]{A:ai}{n:Nat}{f:Nat->ab}{v:ab}(hR:Rd w A n f)(hx:ev e x= .pointer (az A j))(hj:j<n)(hv:f j=v)(hp:rT u=true)(hb:Nat.blt d N=true)(hK:ak P N ops K rest (br e d v) w):ak P N ops K (⟨some d,.load t x,ty,pos,af,none⟩::rest) e w:=by
 obtain⟨p,jH,hc⟩:=hR j hj;subst hv;refine .val (w':=w) ?_ hb hK;simp [execOp,Instr.loadAt,hx,jH,Instr.sureAddr,loadVar,TL (bK.out (P:=P) (t:=t)) hp,hc]
theorem Wg{u:TypeDesc}[bK P t u]{A:ai}{n:Nat}(hR:bS w A n xs)(hx:ev e x= .pointer (az A i.toNat))(hj:i.toNat<n)(hp:rT u=true)(hb:Nat.blt d N=true)(hK:ak P N ops K rest (br e d (aj (gi xs i))) w):ak P N ops K (⟨some d,.load t x,ty,pos,af,none⟩::rest) e w:= .ld hR.2 hx hj rfl hp hb hK
theorem a6{u:TypeDesc}[bK P t u]{A:ai}{n:Nat}(hR:bS w A n xs)(q9:(ev e x,rT u,Nat.blt d N)=(.pointer (az A i.toNat),true,true))(hK:ak P N ops K rest (br e d (aj (gi xs i))) w)(hj:i.toNat<n:=by omega):ak P N ops K (⟨some d,.load t x,ty,pos,af,none⟩::rest) e w:=Wg hR (congrArg (fun p=>p.1) q9) hj (congrArg (fun p=>p.2.1) q9) (congrArg (fun p=>p.2.2) q9) hK
theorem lh{u:TypeDesc}[bK P t u]{A:ai}{n:Nat}{xs:List Bool}(hR:oe w A n xs)(hx:ev e x= .pointer (az A i.toNat))(hj:i.toNat<n)(hp:rT u=true)(hb:Nat.blt d N=true)(hK:ak P N ops K rest (br e d (.bool (gb xs i))) w):ak P N ops K (⟨some d,.load t x,ty,pos,af,none⟩::rest) e w:= .ld hR.2 hx hj rfl hp hb hK
theorem Wk{u:TypeDesc}[bK P t u]{A:ai}{n:Nat}{xs:List aH}(hR:eU w A n xs)(hx:ev e x= .pointer (az A i.toNat))(hj:i.toNat<n)(hp:rT u=true)(hb:Nat.blt d N=true)(hK:ak P N ops K rest (br e d (.slice (rg xs i).a (rg xs i).n (rg xs i).c)) w):ak P N ops K (⟨some d,.load t x,ty,pos,af,none⟩::rest) e w:= .ld hR.2 hx hj rfl hp hb hK
theorem bn{u:TypeDesc}[bK P t u]{A:ai}{n:Nat}{xs:List aH}(hR:eU w A n xs)(q9:(ev e x,rT u,Nat.blt d N)=(.pointer (az A i.toNat),true,true))(hK:ak P N ops K rest (br e d (.slice (rg xs i).a (rg xs i).n (rg xs i).c)) w)(hj:i.toNat<n:=by omega):ak P N ops K (⟨some d,.load t x,ty,pos,af,none⟩::rest) e w:=Wk hR (congrArg (fun p=>p.1) q9) hj (congrArg (fun p=>p.2.1) q9) (congrArg (fun p=>p.2.2) q9) hK
theorem ak.st[bL P t z 1 b]{a:ae}{i:Nat}{k:Ck}(hS:St w0 w ks)(hk:ks[i]?=some k)(ha:ev e a= .pointer (az k.A j))(hx:ev e x=u)(h1:u.oneCell'=true)(hj:j<k.n)(hK:∀w',St w0 w' (ks.set i { k with vs:=k.vs.set j u })->ak P N ops K rest e w'):ak P N ops K (⟨none,.store t a x,ty,pos,af,none⟩::rest) e w:=by
 obtain⟨p,hp,⟨v,hc⟩,hf,jT⟩:=hS.store i hk hj u h1;obtain⟨inf,hi,_,hs,_⟩:=bL.get P t;refine .unit (w':=w.setCell p u) ?_ (hK _ jT);have OA:u.cells= #[u]:=by cases u<;>simp [Value.oneCell']at h1<;>rfl
 simp [execOp,Instr.storeAt,ha,hx,hp,Instr.sureAddr,storeVar,sizeOf,typeInfo,hi,hs,OA,storeCells,run_store _ _ _ _ _ h1,hc,hf,Addr.add]
theorem ak.mg[bL P t z 1 b]{a:ae}(m:Nat){A:ai}{n c:Nat}{u:Int}(hS:St w0 w ks)(hk:ks[m]?=some (aE te A n c xs))(ha:ev e a= .pointer (az A i.toNat))(hx:ev e x=aj u)(hj:i.toNat<n)(hK:∀w',St w0 w' (ks.set m (aE te A n c (xs.set i.toNat u)))->ak P N ops K rest e w'):ak P N ops K (⟨none,.store t a x,ty,pos,af,none⟩::rest) e w:=
 .st hS hk ha hx rfl hj fun w' h=>hK w' (by simpa [aE,List.map_set]using h)
theorem mw[bL P t z 1 b]{a:ae}(m:Nat){A:ai}{n c:Nat}{xs:List Bool}{u:Bool}(hS:St w0 w ks)(hk:ks[m]?=some (dC te A n c xs))(ha:ev e a= .pointer (az A i.toNat))(hx:ev e x= .bool u)(hj:i.toNat<n)(hK:∀w',St w0 w' (ks.set m (dC te A n c (xs.set i.toNat u)))->ak P N ops K rest e w'):ak P N ops K (⟨none,.store t a x,ty,pos,af,none⟩::rest) e w:=
 .st hS hk ha hx rfl hj fun w' h=>hK w' (by simpa [dC,List.map_set]using h)
theorem tF[bL P t z 1 b]{a:ae}(m:Nat){A:ai}{n c:Nat}{xs:List aH}{n1:Nat}(hS:St w0 w ks)(hk:ks[m]?=some (aQ te A n c xs))(ha:ev e a= .pointer (az A i.toNat))(hx:ev e x= .slice A1 n1 c1)(hj:i.toNat<n)(hK:∀w',St w0 w' (ks.set m (aQ te A n c (xs.set i.toNat ⟨A1,n1,c1⟩)))->ak P N ops K rest e w'):ak P N ops K (⟨none,.store t a x,ty,pos,af,none⟩::rest) e w:=
 .st hS hk ha hx rfl hj fun w' h=>hK w' (by simpa [aQ,List.map_set,aH.v]using h)
theorem DL(z:ab)(n:Nat):(madeCells #[z] n)=(List.replicate n z).toArray:=by
 rw [<-toList_madeCells_one z n]
theorem ak.mk{el:ad}[bK P t (.slice el)][bL P el z 1 b](n:Nat)(hS:St w0 w ks)(hx:ev e x= .int k (n:Int))(hz:z.cells= #[z])(Ny:z.oneCell'=true)(hb:Nat.blt d N=true)(hn:b*n<=281474976710656/\n<=9223372036854775807)(hK:∀A w',St w0 w' (⟨A,n,n,el,List.replicate n z⟩::ks)->ak P N ops K rest (br e d (.slice A n n)) w'):ak P N ops K (⟨some d,.makeSlice t x x,ty,pos,af,none⟩::rest) e w:=by
 obtain⟨inf,hi,fk,hs,iE⟩:=bL.get P el;have hr:=run_make_row (P:=P) t el inf z (bK.out (P:=P) (t:=t)) hi fk hs hz k k n (by rw [iE];exact hn.1) hn.2 w;have hA:=hS.alloc (List.replicate n z) el (by simp [maxLen];omega) (QC n Ny);rw [DL]at hr;refine .val (w':=w.alloc (.cells (List.replicate n z).toArray el)) ?_ hb (hK _ _ (by simpa using hA));simp only [execOp,hx,Sem.run_bind,hr,Result.andThen_ok,Sem.run_pure]
theorem pD{el:ad}{v:Bool}[bK P t (.slice el)][bL P el (.bool v) 1 b](n:Nat)(hS:St w0 w ks)(hx:ev e x= .int k (n:Int))(hb:Nat.blt d N=true)(hn:b*n<=281474976710656/\n<=9223372036854775807)(hK:∀A w',St w0 w' (dC el A n n (List.replicate n v)::ks)->ak P N ops K rest (br e d (.slice A n n)) w'):ak P N ops K (⟨some d,.makeSlice t x x,ty,pos,af,none⟩::rest) e w:=
 .mk n hS hx rfl rfl hb hn fun A w' h=>hK A w' (by unfold dC;rw [List.map_replicate];exact h)
theorem xm{el:ad}{v:Int}[bK P t (.slice el)][bL P el (aj v) 1 b](n:Nat)(hS:St w0 w ks)(hx:ev e x= .int k (n:Int))(hb:Nat.blt d N=true)(hn:b*n<=281474976710656/\n<=9223372036854775807)(hK:∀A w',St w0 w' (aE el A n n (List.replicate n v)::ks)->ak P N ops K rest (br e d (.slice A n n)) w'):ak P N ops K (⟨some d,.makeSlice t x x,ty,pos,af,none⟩::rest) e w:=
 .mk n hS hx rfl rfl hb hn fun A w' h=>hK A w' (by unfold aE;rw [List.map_replicate];exact h)
theorem xo{el:ad}[bK P t (.slice el)][bL P el (.slice none 0 0) 1 b](n:Nat)(hS:St w0 w ks)(hx:ev e x= .int k (n:Int))(hb:Nat.blt d N=true)(hn:b*n<=281474976710656/\n<=9223372036854775807)(hK:∀A w',St w0 w' (aQ el A n n (List.replicate n bA)::ks)->ak P N ops K rest (br e d (.slice A n n)) w'):ak P N ops K (⟨some d,.makeSlice t x x,ty,pos,af,none⟩::rest) e w:=
 .mk n hS hx rfl rfl hb hn fun A w' h=>hK A w' (by unfold aQ;rw [List.map_replicate];exact h)
theorem zU(f:Nat->ab)(n:Nat):(Array.range n).map f=((List.range n).map f).toArray:=by apply Array.ext';simp
theorem ic{el:ad}[bK P t (.slice el)][bL P el z 1 b](hS:St w0 w ks)(hb:Nat.blt d N=true)(hK:∀A w',St w0 w' (⟨A,0,0,el,[]⟩::ks)->ak P N ops K rest (br e d (.slice A 0 0)) w'):ak P N ops K (⟨some d,.buildSlice t 0 #[],ty,pos,af,none⟩::rest) e w:=by
 obtain⟨inf,hi,fk,hs,iE⟩:=bL.get P el;refine .val (w':=w.alloc (.cells #[] el)) ?_ hb (hK _ _ (hS.alloc [] el (by simp) O));simp [execOp,Instr.buildSlice,run_underlying (bK.out (P:=P) (t:=t)),sizeOf,typeInfo,hi,hs,Instr.fill,newRow,zU]
theorem ak.z7{el:ad}[bK P t (.slice el)][bL P el z 1 b](hS:St w0 w ks)(h0:ev e x0=v0)(c0:v0.oneCell'=true)(hz:z.cells= #[z])(hb:Nat.blt d N=true)(hK:∀A w',St w0 w' (⟨A,1,1,el,[v0]⟩::ks)->ak P N ops K rest (br e d (.slice A 1 1)) w'):ak P N ops K (⟨some d,.buildSlice t 1 #[(0,x0)],ty,pos,af,none⟩::rest) e w:=by
 obtain⟨inf,hi,fk,hs,iE⟩:=bL.get P el;have e0:v0.cells= #[v0]:=by cases v0<;>simp [Value.oneCell']at c0<;>rfl
 refine .val (w':=w.alloc (.cells #[v0] el)) ?_ hb (hK _ _ (hS.alloc [v0] el (by simp [maxLen]) (Dx c0)));simp [execOp,Instr.buildSlice,run_underlying (bK.out (P:=P) (t:=t)),sizeOf,typeInfo,zeroValue,hi,hs,fk,hz,Instr.fill,newRow,h0,e0,zU,lg]
theorem ak.box{el:ad}{v:ab}(hS:St w0 w ks)(hx:ev e x=v)(hb:Nat.blt d N=true)(hm:v.cells.size<=maxLen)(hK:∀A w',St w0 w' (⟨A,v.cells.size,v.cells.size,el,v.cells.toList⟩::ks)->ak P N ops K rest (br e d (.pointer A)) w')(hM:cX v.cells.toList=false:=by rfl):ak P N ops K (⟨some d,.box el x,ty,pos,af,none⟩::rest) e w:=by
 have hA:=hS.alloc v.cells.toList el (by simpa using hm) hM;refine .val (w':=w.alloc (.cells v.cells el)) ?_ hb (hK _ _ (by simpa using hA));simp [execOp,Instr.box,newVar,newRow,hx]
theorem ak.z6{el:ad}{cs:Array ab}(hS:St w0 w ks)(hx:ev e x= .agg cs)(hb:Nat.blt d N=true)(hm:Nat.ble cs.size 100=true)(hK:∀A w',St w0 w' (⟨A,cs.size,cs.size,el,cs.toList⟩::ks)->ak P N ops K rest (br e d (.pointer A)) w')(hM:cX cs.toList=false:=by rfl):ak P N ops K (⟨some d,.box el x,ty,pos,af,none⟩::rest) e w:=
 .box hS hx hb (by show cs.size<=maxLen;have:=Nat.le_of_ble_eq_true hm;simp only [maxLen];omega) hK hM
theorem ak.new{el:ad}{s:Nat}[bL P el z s b](hS:St w0 w ks)(hb:Nat.blt d N=true)(fj:Nat.ble z.cells.size 100=true)(hK:∀A w',St w0 w' (⟨A,z.cells.size,z.cells.size,el,z.cells.toList⟩::ks)->ak P N ops K rest (br e d (.pointer A)) w')(hM:cX z.cells.toList=false:=by rfl):ak P N ops K (⟨some d,.alloc el,ty,pos,af,none⟩::rest) e w:=by
 obtain⟨inf,hi,fk,hs,iE⟩:=bL.get P el;have hm:z.cells.size<=maxLen:=by have:=Nat.le_of_ble_eq_true fj;simp only [maxLen];omega
 have hA:=hS.alloc z.cells.toList el (by simpa using hm) hM;refine .val (w':=w.alloc (.cells z.cells el)) ?_ hb (hK _ _ (by simpa using hA));simp [execOp,Instr.alloc,zeroValue,typeInfo,hi,fk,newVar,newRow]
theorem eT{A:ai}{n:Nat}{f:Nat->ab}(hR:Rd w A n f)(hn:0<n)(hx:ev e x= .pointer A)(hb:Nat.blt d N=true)(hK:ak P N ops K rest (br e d (.pointer A)) w):
 ak P N ops K (⟨some d,.nilCheck x,ty,pos,af,none⟩::rest) e w:=by
 obtain⟨p,hp,_⟩:=hR 0 hn;obtain⟨q,rfl⟩:∃q,A=some q:=by cases A with | none=>simp [az]at hp | some q=>exact⟨q,rfl⟩
 exact .SE hx hb hK
def vx:List Field->Nat->Option (ad×Nat)
 | f::_,0=>some (f.type,f.offset)
 | _::r,m+1=>vx r m
 | [],_=>none
theorem FF:∀ {l:List Field} {m:Nat} {ft off:Nat},vx l m=some (ft,off)->∃fd,l[m]?=some fd/\fd.type=ft/\fd.offset=off
 | [],_,_,_,h=>by simp [vx]at h
 | f::_,0,_,_,h=>by simp [vx]at h;exact⟨f,rfl,h.1,h.2⟩
 | _::r,m+1,_,_,h=>by simpa using FF (l:=r) (m:=m) h
theorem Wl{s:ad}{fs:Array Field}[bK P s (.struct fs)]{A:ai}{n:Nat}{f:Nat->ab}(hR:Rd w A n f)(hx:ev e x= .pointer A)(hf:vx fs.toList m=some (ft,off))(hn:Nat.blt 0 n=true)(hb:Nat.blt d N=true)(hI:bL P ft z (sz+1) b)(hK:ak P N ops K rest (br e d (.pointer (az A off))) w):ak P N ops K (⟨some d,.fieldAddr s x m,ty,pos,af,none⟩::rest) e w:=by
 obtain⟨p,hp,_⟩:=hR 0 (by simpa [Nat.blt_eq]using hn);obtain⟨q,rfl⟩:∃q,A=some q:=by cases A with | none=>simp [az]at hp | some q=>exact⟨q,rfl⟩
 obtain⟨fd,pW,rfl,rfl⟩:=FF hf;have Cs:fs[m]?=some fd:=by simpa using pW
 obtain⟨inf,hi,fk,hs,iE⟩:=bL.get P fd.type;refine .val (w':=w) ?_ hb hK;simp [execOp,Instr.fieldAt,run_underlying (bK.out (P:=P) (t:=s)),Cs,hx,Instr.sureAddr,fieldPlace,sizeOf,typeInfo,hi,hs,az]
theorem aT{s:ad}{fs:Array Field}[bK P s (.struct fs)]{A:ai}{n:Nat}{f:Nat->ab}(hR:Rd w A n f)(q9:(ev e x,vx fs.toList m,Nat.blt 0 n,Nat.blt d N)=(.pointer A,some (ft,off),true,true))[hI:bL P ft z (sz+1) b](hK:ak P N ops K rest (br e d (.pointer (az A off))) w):ak P N ops K (⟨some d,.fieldAddr s x m,ty,pos,af,none⟩::rest) e w:=Wl hR (congrArg (fun p=>p.1) q9) (congrArg (fun p=>p.2.1) q9) (congrArg (fun p=>p.2.2.1) q9) (congrArg (fun p=>p.2.2.2) q9) hI hK
theorem ak.dz{fs:Array Field}(m:Nat)[bK P t (.struct fs)][bL P t z (m+1) b]{A:ai}{f:Nat->ab}{cs:Array ab}(hR:Rd w A (m+1) f)(hx:ev e x= .pointer A)(lU:((List.range (m+1)).map f).toArray=cs)(hb:Nat.blt d N=true)(hK:ak P N ops K rest (br e d (.agg cs)) w):ak P N ops K (⟨some d,.load t x,ty,pos,af,none⟩::rest) e w:=by
 obtain⟨p,hp,_⟩:=hR 0 (by omega);obtain⟨q,rfl⟩:∃q,A=some q:=by cases A with | none=>simp [az]at hp | some q=>exact⟨q,rfl⟩
 obtain⟨inf,hi,fk,hs,iE⟩:=bL.get P t;have hl:=run_loadCells (P:=P) w q (m+1) f (fun j hj=>by
  obtain⟨p,hp,hc⟩:=hR j hj;simp [az]at hp;rw [hp];exact hc)
 subst lU;refine .val (w':=w) ?_ hb hK;simp [execOp,Instr.loadAt,hx,Instr.sureAddr,loadVar,isAgg,run_underlying (bK.out (P:=P) (t:=t)),sizeOf,typeInfo,hi,hs,hl]
theorem jJ(A:ai):az A 0=A:=by cases A<;>simp [az,Addr.add]
theorem JC(A:ai)(i j:Nat):az (az A i) j=az A (i+j):=by
 cases A with
 | none=>rfl
 | some q=>simp only [az,Option.map_some];unfold Addr.add;by_cases h1:i=0<;>by_cases h2:j=0<;>simp [h1,h2,Nat.add_assoc]
theorem Rd.behind{A:ai}{n:Nat}{f:Nat->ab}(hR:Rd w A n f)(h:o+m<=n):Rd w (az A o) m (fun j=>f (o+j)):=fun j hj=>by
 obtain⟨p,hp,hc⟩:=hR (o+j) (by omega);exact⟨p,by rw [JC];exact hp,hc⟩
abbrev Bx(t:ad)(n:Nat)(A:ai)(vs:List ab):Ck:=⟨A,n,n,t,vs⟩
theorem gS{el:ad}(hS:St w0 w ks)(hx:ev e x= .agg #[v0])(hb:Nat.blt d N=true)(hK:∀A w',St w0 w' (Bx el 1 A [v0]::ks)->ak P N ops K rest (br e d (.pointer A)) w')(hM:cX [v0]=false:=by rfl):ak P N ops K (⟨some d,.box el x,ty,pos,af,none⟩::rest) e w:= .z6 hS hx hb rfl hK hM
theorem EG{el:ad}(hS:St w0 w ks)(hx:ev e x= .agg #[v0])(hb:Nat.blt d N=true)(hK:∀A w',w.drawn<=w'.drawn->St w0 w' (Bx el 1 A [v0]::ks)->ak P N ops K rest (br e d (.pointer A)) w')(hM:cX [v0]=false:=by rfl):ak P N ops K (⟨some d,.box el x,ty,pos,af,none⟩::rest) e w:=by
 have hA:=hS.alloc (Value.agg #[v0]).cells.toList el (by show 1<=maxLen;simp [maxLen]) hM;refine .val (w':=w.alloc (.cells (Value.agg #[v0]).cells el)) ?_ hb (hK _ _ (cO _) (show St w0 _ (⟨_,(Value.agg #[v0]).cells.size,(Value.agg #[v0]).cells.size,el,(Value.agg #[v0]).cells.toList⟩::ks) from by simpa using hA));simp [execOp,Instr.box,newVar,newRow,hx]
theorem lN{el:ad}{s:Nat}[bL P el (.agg #[v0]) s b](hS:St w0 w ks)(hb:Nat.blt d N=true)(hK:∀A w',St w0 w' (Bx el 1 A [v0]::ks)->ak P N ops K rest (br e d (.pointer A)) w')(hM:cX [v0]=false:=by rfl):ak P N ops K (⟨some d,.alloc el,ty,pos,af,none⟩::rest) e w:= .new (el:=el) (z:= .agg #[v0]) (s:=s) (b:=b) hS hb rfl hK hM
theorem Wm{u:TypeDesc}[bK P t u]{A:ai}{n n1:Nat}{f:Nat->ab}(hR:Rd w A n f)(hx:ev e x= .pointer (az A j))(hj:Nat.blt j n=true)(hv:f j= .slice A1 n1 c1)(hp:rT u=true)(hb:Nat.blt d N=true)(hK:ak P N ops K rest (br e d (.slice A1 n1 c1)) w):ak P N ops K (⟨some d,.load t x,ty,pos,af,none⟩::rest) e w:= .ld hR hx (by simpa [Nat.blt_eq]using hj) hv hp hb hK
theorem a7{u:TypeDesc}[bK P t u]{A:ai}{n n1:Nat}{f:Nat->ab}(hR:Rd w A n f)(q9:(ev e x,Nat.blt j n,f j,rT u,Nat.blt d N)=(.pointer (az A j),true,.slice A1 n1 c1,true,true))(hK:ak P N ops K rest (br e d (.slice A1 n1 c1)) w):ak P N ops K (⟨some d,.load t x,ty,pos,af,none⟩::rest) e w:=Wm hR (congrArg (fun p=>p.1) q9) (congrArg (fun p=>p.2.1) q9) (congrArg (fun p=>p.2.2.1) q9) (congrArg (fun p=>p.2.2.2.1) q9) (congrArg (fun p=>p.2.2.2.2) q9) hK
theorem kk{u:TypeDesc}[bK P t u]{A:ai}{n:Nat}{f:Nat->ab}(hR:Rd w A n f)(hx:ev e x= .pointer (az A j))(hj:Nat.blt j n=true)(hv:f j= .int k i)(hp:rT u=true)(hb:Nat.blt d N=true)(hK:ak P N ops K rest (br e d (.int k i)) w):ak P N ops K (⟨some d,.load t x,ty,pos,af,none⟩::rest) e w:= .ld hR hx (by simpa [Nat.blt_eq]using hj) hv hp hb hK
def mf(vs:List ab)(o:Nat):List ab->List ab
 | []=>vs
 | c::r=>mf (vs.set o c) (o+1) r
theorem Eh{k:Ck}(i:Nat):∀(cs:List ab) (ks:List Ck) (vs:List ab) (w:aa) (o:Nat) (p:Addr),St w0 w ks->ks[i]?=some { k with vs:=vs }->az k.A o=some p->o+cs.length<=k.n->(∀u∈cs,u.oneCell'=true)->∀m q,az k.A m=some q->o=m+ (o - m)->
 m<=o->∃w',(storeCells q cs (o - m)).run P w= .ok () w'/\St w0 w' (ks.set i { k with vs:=mf vs o cs })
 | [],ks,vs,w,o,p,hS,hk,_,_,_,m,q,_,_,_=> ⟨w,by simp [storeCells],by
  have:ks.set i { k with vs:=mf vs o [] }=ks:=by
   apply List.ext_getElem?;intro j;rw [jy]
   split
   ·rename_i e;subst e;rw [hk,aF (fu.1 hk).1];rfl
   ·rfl
  rw [this];exact hS⟩
 | c::r,ks,vs,w,o,p,hS,hk,hp,hl,h1,m,q,hq,ho,hm=>by
  simp only [List.length_cons]at hl;obtain⟨p',jH,⟨v,hc⟩,hf,jT⟩:=hS.store i hk (j:=o) (by show o<k.n;omega) c (h1 c (by simp));have HM:q.add (o - m)=p':=by
   have:az (az k.A m) (o - m)=some p':=by rw [JC,<-ho];exact jH
   rw [hq]at this;simpa [az]using this
  have cW:=(fu.1 hk).1
  by_cases hr:r=[]
  ·subst hr;refine⟨_,?_,jT⟩;simp [storeCells,HM,run_store _ _ _ _ _ (h1 c (by simp)),hc,hf]
  ·have cT:0<r.length:=by cases r with | nil=>exact absurd rfl hr | cons _ _=>simp
   obtain⟨p2,pa⟩:∃p2,az k.A (o+1)=some p2:=by
    obtain⟨x,hx,_⟩:=(hS.rd i hk) (o+1) (by show o+1<k.n;omega);exact⟨x,hx⟩
   obtain⟨w2,lC,ay⟩:=Eh i r _ (vs.set o c) _ (o+1) p2 jT (by rw [jy];simp [cW]) pa (by omega) (fun u hu=>h1 u (by simp [hu])) m q hq (by omega) (by omega);refine⟨w2,?_,by simpa [mf]using ay⟩;have e1:o+1 - m=o - m+1:=by omega
   rw [e1]at lC;simp [storeCells,HM,run_store _ _ _ _ _ (h1 c (by simp)),hc,hf,lC]
theorem ak.JY(m:Nat)[bL P t z m b]{a:ae}(i:Nat){k:Ck}{cs:Array ab}(hS:St w0 w ks)(hk:ks[i]?=some k)(ha:ev e a= .pointer (az k.A o))(hx:ev e x= .agg cs)(lU:cs.size=m)(sn:cs.toList.all Value.oneCell'=true)(yu:Nat.blt 0 m=true)(CR:Nat.ble (o+m) k.n=true)(hK:∀w',St w0 w' (ks.set i { k with vs:=mf k.vs o cs.toList })->ak P N ops K rest e w'):ak P N ops K (⟨none,.store t a x,ty,pos,af,none⟩::rest) e w:=by
 have hn:0<m/\o+m<=k.n:=⟨by simpa [Nat.blt_eq]using yu,Nat.le_of_ble_eq_true CR⟩;have h1:∀u∈cs.toList,u.oneCell'=true:=fun u hu=>List.all_eq_true.1 sn u hu
 obtain⟨p,hp,_⟩:=(hS.rd i hk) o (by omega);obtain⟨w',lC,jT⟩:=Eh (P:=P) (k:=k) i cs.toList ks k.vs w o p hS hk hp (by simp;omega) h1 o p hp (by omega) (by omega);obtain⟨inf,hi,_,hs,_⟩:=bL.get P t;refine .unit (w':=w') ?_ (hK _ jT);rw [Nat.sub_self]at lC;simp [execOp,Instr.storeAt,ha,hx,hp,Instr.sureAddr,storeVar,sizeOf,typeInfo,hi,hs,Value.cells,lU,lC]
theorem gU(m:Nat)[bL P t z m b]{a:ae}(i:Nat){k:Ck}{cs:Array ab}(hS:St w0 w ks)(hk:ks[i]?=some k)(ha:ev e a= .pointer k.A)(hx:ev e x= .agg cs)(lU:cs.size=m)(h1:cs.toList.all Value.oneCell'=true)(yu:Nat.blt 0 m=true)(CR:Nat.ble (0+m) k.n=true)(hK:∀w',St w0 w' (ks.set i { k with vs:=mf k.vs 0 cs.toList })->ak P N ops K rest e w'):ak P N ops K (⟨none,.store t a x,ty,pos,af,none⟩::rest) e w:=
 .JY m i hS hk (by rw [jJ];exact ha) hx lU h1 yu CR hK
theorem od[bL P t z 1 b]{a:ae}(i:Nat){k:Ck}(hS:St w0 w ks)(hk:ks[i]?=some k)(ha:ev e a= .pointer (az k.A j))(hx:ev e x=u)(h1:u.oneCell'=true)(hj:Nat.blt j k.n=true)(hK:∀w',St w0 w' (ks.set i { k with vs:=k.vs.set j u })->ak P N ops K rest e w'):ak P N ops K (⟨none,.store t a x,ty,pos,af,none⟩::rest) e w:= .st hS hk ha hx h1 (by simpa [Nat.blt_eq]using hj) hK
def JK(a n:Nat)(R:ab->aa->Prop):gn
 | .normal,e,w=>∃A f,e a= .pointer A/\Rd w A n f/\R (.agg ((List.range n).map f).toArray) w
 | .ret,e,w=>∃A f,e a= .pointer A/\Rd w A n f/\R (.agg ((List.range n).map f).toArray) w
 | _,_,_=>False
theorem uR{a n:Nat}{R:ab->aa->Prop}{A:ai}{f:Nat->ab}(h:e a= .pointer A)(hR:Rd w A n f)(h2:R (.agg ((List.range n).map f).toArray) w):JK a n R .ret e w:=⟨A,f,h,hR,h2⟩
theorem JR{fs:Array Field}{n:Nat}[bK P t (.struct fs)][bL P t z n b]{A:ai}{f:Nat->ab}(hn:0<n)(hR:Rd w A n f):∃q,A=some q/\(loadVar t q).run P w= .ok (.agg ((List.range n).map f).toArray) w:=by
 obtain⟨p,hp,_⟩:=hR 0 hn;obtain⟨q,rfl⟩:∃q,A=some q:=by cases A with | none=>simp [az]at hp | some q=>exact⟨q,rfl⟩
 obtain⟨inf,hi,fk,hs,iE⟩:=bL.get P t;have hl:=run_loadCells (P:=P) w q n f (fun j hj=>by
  obtain⟨p,hp,hc⟩:=hR j hj;simp [az]at hp;rw [hp];exact hc)
 exact⟨q,O,by simp [loadVar,isAgg,run_underlying (bK.out (P:=P) (t:=t)),sizeOf,typeInfo,hi,hs,hl]⟩
theorem uQ{fn:Func}{R:ab->aa->Prop}{a t n:Nat}{fs:Array Field}[bK P t (.struct fs)][bL P t z n b](hr:fn.results= #[.cell a t])(qd:Nat.blt 0 n=true):∀x a1 e w,gI N a1 e->JK a n R x e w->bodyPost P fn (fun x w'=>∃v,x= .returned v/\R v w') x a1 w:=by
 intro x a1 e w he q;have hn:0<n:=by simpa [Nat.blt_eq]using qd
 have hg:=he.get a;have key:∀(A:ai) (f:Nat->ab),e a= .pointer A->Rd w A n f->(results fn a1.tmps).run P w= .ok (.agg ((List.range n).map f).toArray) w:=by
  intro A f hA hR;obtain⟨q,rfl,hl⟩:=JR (P:=P) (t:=t) hn hR;rw [gP]at hg;simp [results,hr,hg,hA,asAddr,hl]
 cases x<;>first
  | exact q.elim
  | (
   obtain⟨A,f,hA,hR,h2⟩:=q;exact⟨he.defers,_,key A f hA hR,_,O,h2⟩)
def cutAt(A:ai)(c l:Nat):ai:=if c=l then A else az A l
theorem Rd.cut{A:ai}{n c:Nat}{f:Nat->ab}(hR:Rd w A n f)(hl:l<=h)(hn:h<=n)(hc:n<=c):Rd w (cutAt A c l) (h - l) (fun j=>f (l+j)):=fun j hj=>by
 obtain⟨p,hp,G8⟩:=hR (l+j) (by omega);refine⟨p,?_,G8⟩;unfold cutAt;rw [aB (by omega)];cases A with
 | none=>simp [az]at hp
 | some q=>
  simp only [az,Option.map_some,kP]at hp|-;rw [<-hp];unfold Addr.add
  by_cases o8:l=0<;>by_cases O9:j=0<;>simp [o8,O9,Nat.add_assoc]
theorem bS.cut{A:ai}{n c:Nat}(hR:bS w A n xs)(hl:l<=h)(hn:h<=n)(hc:n<=c):bS w (cutAt A c l) (h - l) ((xs.drop l).take (h - l)):=
 ⟨by have:=hR.1;simp;omega,(hR.2.cut hl hn hc).congr fun j hj=>by simp [bX,oQ,hj]⟩
theorem eU.cut{A:ai}{n c:Nat}{xs:List aH}(hR:eU w A n xs)(hl:l<=h)(hn:h<=n)(hc:n<=c):eU w (cutAt A c l) (h - l) ((xs.drop l).take (h - l)):=
 ⟨by have:=hR.1;simp;omega,(hR.2.cut hl hn hc).congr fun j hj=>by simp [bX,oQ,hj]⟩
theorem tD{el:ad}[hU:bK P t (.slice el)][bL P el z 1 b]{A:ai}{n c:Nat}{l:Int}(hx:ev e x= .slice A n c)(hl:ev e lo= .int k l)(hb:Nat.blt d N=true)(h0:0<=l/\l<=(n:Int))(hK:ak P N ops K rest (br e d (.slice (cutAt A c l.toNat) (n - l.toNat) (c - l.toNat))) w):ak P N ops K (⟨some d,.slice t x (some lo) none none,ty,pos,af,none⟩::rest) e w:=by
 obtain⟨inf,hi,fk,hs,iE⟩:=bL.get P el;refine .val (w':=w) ?_ hb hK;have:=run_sliceBound (P:=P) w k l n .sliceB h0.1 h0.2;simp [execOp,hx,hl,Instr.sliceAt,run_underlying hU.out,Instr.slice,Instr.sliceBounds,this,sizeOf,typeInfo,hi,hs,cutAt,az]
theorem tC{el:ad}[hU:bK P t (.slice el)][bL P el z 1 b]{A:ai}{n c:Nat}{h:Int}(hx:ev e x= .slice A n c)(hh:ev e bP= .int k h)(hb:Nat.blt d N=true)(h0:0<=h/\h<=(c:Int))(hK:ak P N ops K rest (br e d (.slice A h.toNat c)) w):ak P N ops K (⟨some d,.slice t x none (some bP) none,ty,pos,af,none⟩::rest) e w:=by
 obtain⟨inf,hi,fk,hs,iE⟩:=bL.get P el;refine .val (w':=w) ?_ hb hK;have:=run_sliceBound (P:=P) w k h c .sliceAcap h0.1 h0.2;have hA:A.map (fun x=>x.add 0)=A:=by cases A<;>simp [Addr.add]
 simp [execOp,hx,hh,Instr.sliceAt,run_underlying hU.out,Instr.slice,Instr.sliceBounds,this,sizeOf,typeInfo,hi,hs,hA]
theorem JQ{el:ad}[hU:bK P t (.slice el)][bL P el z 1 b](hz:z.cells= #[z0]){k:Ck}(i:Nat)(hS:St w0 w ks)(hk:ks[i]?=some k)(hM:cX k.vs=false)(he:k.e=el){f:Nat->ab}(hR:Rd w A' m f)(h1:∀j,j<m->(f j).oneCell'=true)
 (nv:k.n+m<=maxLen) (nB:(k.n+m)*b<=140737488355328) (ty:ad):
 ∃A2 c2 w',(Builtin.append_ #[t,t] ty #[.slice k.A k.n k.c,.slice A' m c']).run P w= .ok (.slice A2 (k.n+m) c2) w'/\St w0 w' (ks.set i ⟨A2,k.n+m,c2,el,k.vs++ (List.range m).map f⟩)/\(k.n=k.c->Below w.heap.size w w'):=by
 subst he;obtain⟨inf,hi,fk,hs,iE⟩:=bL.get P k.e;have qf:=hS.mE hk hM;have BS:cX (k.vs++ (List.range m).map f)=false:=QA hM (qn fun u hu=>by
  obtain⟨j,hj,rfl⟩:=fq.1 hu;exact h1 j (by simpa using hj))
 obtain⟨hl,sR,sG,h4⟩:=qf;have vW:=(fu.1 hk).1
 by_cases hm:m=0
 ·subst hm;refine⟨k.A,k.c,w,?_,?_,fun _=>Below.refl _ _⟩
  ·cases A' with
   | none=>cases Pc:k.A<;>simp [Builtin.append_,run_underlying hU.out,sizeOf,typeInfo,hi,Builtin.lenOf,Builtin.firstCells,sR,storeCells]
   | some a=>
    have o8:=run_loadCells (P:=P) w a 0 f (fun j hj=>by omega);cases Pc:k.A<;>simp [Builtin.append_,run_underlying hU.out,sizeOf,typeInfo,hi,Builtin.lenOf,Builtin.firstCells,sR,storeCells,loadCells,loadCellsFrom]
  ·have:ks.set i ⟨k.A,k.n+0,k.c,k.e,k.vs++ (List.range 0).map f⟩=ks:=by
    have h5:(⟨k.A,k.n+0,k.c,k.e,k.vs++ (List.range 0).map f⟩:Ck)=k:=by simp
    rw [h5];apply List.ext_getElem?;intro j;rw [jy]
    split
    ·rename_i e;subst e;rw [hk]
     try simp [vW]
    ·rfl
   rw [this];exact hS
 ·obtain⟨a,rfl⟩:∃a,A'=some a:=by
   obtain⟨p,hp,_⟩:=hR 0 (by omega);cases A' with | none=>simp [az]at hp | some q=>exact⟨q,rfl⟩
  have gX:((List.range m).map f).length=m:=by simp
  have wb:∀j v,((List.range m).map f)[j]?=some v->w.cell? (a.add j)=some v:=by
   intro j v hj;have ux:j<m:=by have:=(fu.1 hj).1;simpa using this
   obtain⟨p,hp,hc⟩:=hR j ux;simp only [az,Option.map_some,kP]at hp;rw [hp,hc,<-hj];simp [ux]
  have sn:∀u∈(List.range m).map f,u.oneCell'=true:=by
   intro u hu;obtain⟨j,hj,rfl⟩:=fq.1 hu;exact h1 j (by simpa using hj)
  have fresh:∀(cs:List ab) (c2:Nat),cX cs=false->k.n+m<=c2->c2<=maxLen->cs.length=c2->cs.take (k.n+m)=k.vs++ (List.range m).map f->
   St w0 (w.drew.alloc (.cells cs.toArray k.e)) (ks.set i ⟨some ⟨w.heap.size,0,none⟩,k.n+m,c2,k.e,k.vs++ (List.range m).map f⟩):=by
   intro cs c2 NG h5 h6 h7 h8;have hA:=hS.drew.alloc cs k.e (by omega) NG;have hp:(⟨some ⟨w.heap.size,0,none⟩,cs.length,cs.length,k.e,cs⟩::ks).Perm (k::(ks.set i ⟨some ⟨w.heap.size,0,none⟩,cs.length,cs.length,k.e,cs⟩)):=by
    have gen:∀(l:List Ck) (i:Nat) (x y:Ck),l[i]?=some y->(x::l).Perm (y::l.set i x):=by
     intro l
     induction l with
     | nil=>intro i x y h;simp at h
     | cons u l ih=>
      intro i x y h;cases i with
      | zero=>simp at h;subst h;exact List.Perm.swap _ _ _
      | succ i=>
       simp only [List.getElem?_cons_succ]at h;simp only [List.set_cons_succ];exact(List.Perm.swap _ _ _).trans (((ih i x y h).cons u).trans (List.Perm.swap _ _ _))
    exact gen ks i _ _ hk
   have hB:=(hA.perm hp).tail;refine⟨hB.below,fun x hx=>?_,?_⟩
   ·obtain⟨j,hj,rfl⟩:=fP.1 hx;have eV:j<ks.length:=by simpa using hj
    rw [List.getElem_set]
    split
    ·refine .mU BS ⟨?_,h5,h6,.inr ⟨w.heap.size,0,cs.toArray,O,hS.below.size,heap_alloc_new w.drew _,by simp;omega,fun q hq=>?_⟩⟩
     ·simp [hl]
     ·have yC:q<k.n+m:=hq;show cs.toArray[0+q]?=(k.vs++ (List.range m).map f)[q]?;rw [<-h8];simp [oQ,yC]
    ·rename_i cG;refine hB.own _ (fP.2 ⟨j,by simpa using eV,?_⟩);rw [List.getElem_set,aB cG]
   ·have h9:=hB.apart;rw [show(ks.set i ⟨some ⟨w.heap.size,0,none⟩,k.n+m,c2,k.e,k.vs++ (List.range m).map f⟩).filterMap Ck.fw=(ks.set i ⟨some ⟨w.heap.size,0,none⟩,cs.length,cs.length,k.e,cs⟩).filterMap Ck.fw from ?_]
    ·exact h9
    ·have:=xF Ck.fw (ks.set i ⟨some ⟨w.heap.size,0,none⟩,cs.length,cs.length,k.e,cs⟩) i ⟨some ⟨w.heap.size,0,none⟩,cs.length,cs.length,k.e,cs⟩ ⟨some ⟨w.heap.size,0,none⟩,k.n+m,c2,k.e,k.vs++ (List.range m).map f⟩ (by rw [jy];simp [vW]) O;rw [<-this];simp
  have NH:((k.n+m:Nat):Int)<=9223372036854775807:=by simp only [maxLen]at nv;omega
  rcases h4 with⟨hA,h0⟩ | ⟨g,o,cur,hA,hg,hh,mP,hc⟩
  ·have k5:k.n=0:=by omega
   have Qe:k.vs=[]:=nZ (by omega);have hr:=run_append_nil (P:=P) w t ty k.e inf z hU.out hi fk a m c' _ (by rw [gX,hs,Nat.mul_one]) wb (by omega) (by omega) (by rw [iE];rw [k5,Nat.zero_add]at nB;omega);have nD:=grownCap_ge w m 0 k.e;refine⟨_,_,_,?_,fresh (((List.range m).map f)++List.replicate (grownCap w m 0 k.e - m) z0) (grownCap w m 0 k.e) (Dw (qn sn) (by intro hn;have:=aS List.length hn;simp at this;omega)) (by omega) (grownCap_le_maxLen w m 0 k.e (by omega)) (by simp;omega) (by rw [Qe,k5];simp),fun _=> (Below.refl w.heap.size w).drew.alloc (cO _) _⟩;have uI:Builtin.zeroCells z.cells (grownCap w m 0 k.e - m)=(List.replicate (grownCap w m 0 k.e - m) z0).toArray:=by
    rw [hz];simp only [Builtin.zeroCells];exact(show _=_ from by have:=DL z0 (grownCap w m 0 k.e - m);simpa [madeCells]using this)
   rw [hA,h0,k5,Nat.zero_add,hr,uI,List.append_toArray]
  ·by_cases Db:k.n+m<=k.c
   ·have hf:=run_firstCells_some (P:=P) w inf.size m a m c' _ (by rw [gX,hs,Nat.mul_one]) wb;have ax:=run_storeCells_at P g (o+k.n) k.e ((List.range m).map f) 0 cur w hh (by rw [gX];omega) sn;simp only [Nat.add_zero]at ax;refine⟨some ⟨g,o,none⟩,k.c,_,?_,hS.turn (k:=k) (g:=g) hk (by simp [Ck.fw,hA]) (by simp [Ck.fw]) (w':=w.setRow g (cur.toList.take (o+k.n)++ (List.range m).map f++cur.toList.drop (o+k.n+ ((List.range m).map f).length)).toArray) ?_ ?_,fun h=>absurd Db (by omega)⟩
    ·rw [hA];simp [Builtin.append_,run_underlying hU.out,sizeOf,typeInfo,hi,hs,Builtin.lenOf,Db,Addr.add_lit];rw [hs]at hf;simp only [fv,n3]at ax|-;simp [hf,ax]
    ·exact⟨⟨O,O,O,by simp,fun x _ hx=>setRow_other w g x _ (fun e=>hx (by rw [e]))⟩,cO _⟩
    ·refine .mU BS ⟨by simp [hl],Db,sG,.inr ⟨g,o,_,O,hg,setRow_heap w g cur _ k.e _ hh,?_,fun j hj=>?_⟩⟩
     ·simp;omega
     ·have eV:j<k.n+m:=hj;show((cur.toList.take (o+k.n)++ (List.range m).map f++cur.toList.drop (o+k.n+ ((List.range m).map f).length)).toArray)[o+j]?=(k.vs++ (List.range m).map f)[j]?;have fx:cur.toList.length=cur.size:=by simp
      rw [List.getElem?_toArray]
      by_cases ru:j<k.n
      ·rw [fB,mo (by simp;omega),oQ,aF (by omega),mo (by omega)];rw [Array.getElem?_toList];exact hc j ru
      ·rw [fB,mq (by simp;omega),mo (by simp;omega),mq (by omega)]
       congr 1
       simp;omega
   ·have holds:∀j v,k.vs[j]?=some v->w.cell? ((⟨g,o,none⟩:Addr).add j)=some v:=by
     intro j v hj;have ru:j<k.n:=by have:=(fu.1 hj).1;omega
     rw [vj];simp only [World.cell?,hh];simpa [hc j ru]using hj
    have hr:=run_append_grow (P:=P) w t ty k.e inf z hU.out hi fk ⟨g,o,none⟩ k.n k.c k.vs (by rw [hl,hs,Nat.mul_one]) holds a m c' _ (by rw [gX,hs,Nat.mul_one]) wb (by omega) NH (growslice_fits (by omega) (by rw [iE];exact nB));have nD:=grownCap_ge w (k.n+m) k.c k.e;refine⟨_,_,_,?_,fresh (k.vs++ (List.range m).map f++List.replicate (grownCap w (k.n+m) k.c k.e - (k.n+m)) z0) (grownCap w (k.n+m) k.c k.e) (Dw BS (by intro hn;have:=aS List.length hn;simp at this;omega)) (by omega) (grownCap_le_maxLen w (k.n+m) k.c k.e nv) (by simp [hl];omega) (by rw [tA (by simp [hl])];exact eI (by simp [hl])),fun _=> (Below.refl w.heap.size w).drew.alloc (cO _) _⟩;have uI:Builtin.zeroCells z.cells (grownCap w (k.n+m) k.c k.e - (k.n+m))=(List.replicate (grownCap w (k.n+m) k.c k.e - (k.n+m)) z0).toArray:=by
     rw [hz];simp only [Builtin.zeroCells];exact(show _=_ from by have:=DL z0 (grownCap w (k.n+m) k.c k.e - (k.n+m));simpa [madeCells]using this)
    rw [hA,hr,uI,List.append_toArray,List.append_toArray]
theorem ak.app{el:ad}[hU:bK P t (.slice el)][bL P el z 1 b]{k:Ck}(i:Nat){f:Nat->ab}(hS:St w0 w ks)(hk:ks[i]?=some k)(hR:Rd w A' m f)(hx:ev e x= .slice k.A k.n k.c)(hy:ev e y= .slice A' m c')(he:k.e=el)(hz:z.cells= #[z0])(h1:∀j,j<m->(f j).oneCell'=true)(nv:k.n+m<=maxLen)(nB:(k.n+m)*b<=140737488355328)(hb:Nat.blt d N=true)(hK:∀A2 c2 w',St w0 w' (ks.set i ⟨A2,k.n+m,c2,el,k.vs++ (List.range m).map f⟩)->ak P N ops K rest (br e d (.slice A2 (k.n+m) c2)) w')(hM:cX k.vs=false:=by first | rfl | exact nK _ | exact s6 _ | exact pj _):
 ak P N ops K (⟨some d,.call ⟨.builtin .append, #[x,y], #[t,t]⟩,ty,pos,af,none⟩::rest) e w:=by
 obtain⟨A2,c2,w',hr,jT,_⟩:=JQ (P:=P) (t:=t) hz i hS hk hM he hR h1 nv nB ty (c':=c');refine .val (w':=w') ?_ hb (hK _ _ _ jT);simp [execOp,resolve,invoke,builtin,hx,hy,hr]
theorem ak.Lt{el:ad}[hU:bK P t (.slice el)][bL P el z 1 b]{k:Ck}(i:Nat){f:Nat->ab}(Ct:k.n=k.c)(hS:St w0 w ks)(hk:ks[i]?=some k)(hR:Rd w A' m f)(hx:ev e x= .slice k.A k.n k.c)(hy:ev e y= .slice A' m c')(he:k.e=el)(hz:z.cells= #[z0])(h1:∀j,j<m->(f j).oneCell'=true)(nv:k.n+m<=maxLen)(nB:(k.n+m)*b<=140737488355328)(hb:Nat.blt d N=true)(hK:∀A2 c2 w',Below w.heap.size w w'->St w0 w' (ks.set i ⟨A2,k.n+m,c2,el,k.vs++ (List.range m).map f⟩)->ak P N ops K rest (br e d (.slice A2 (k.n+m) c2)) w')(hM:cX k.vs=false:=by first | rfl | exact nK _ | exact s6 _ | exact pj _):
 ak P N ops K (⟨some d,.call ⟨.builtin .append, #[x,y], #[t,t]⟩,ty,pos,af,none⟩::rest) e w:=by
 obtain⟨A2,c2,w',hr,jT,nA⟩:=JQ (P:=P) (t:=t) hz i hS hk hM he hR h1 nv nB ty (c':=c');refine .val (w':=w') ?_ hb (hK _ _ _ (nA Ct) jT);simp [execOp,resolve,invoke,builtin,hx,hy,hr]
end
inductive Yd where
 | ex (v:ab)
 | pr (p:ab->aa->Prop)
def Yd.holds:Yd->ab->aa->Prop
 | .ex v,u,_=>u=v
 | .pr p,u,w=>p u w
def Yd.mS:Yd->Prop
 | .ex _=>True
 | .pr p=>∀v w w',p v w->Below w.heap.size w w'->p v w'
theorem Yd.RP(v:ab):(Yd.ex v).mS:=True.intro
theorem lx{v:ab}{l:List Yd}(h:∀y∈l,y.mS):∀y∈Yd.ex v::l,y.mS:=cq.2 ⟨True.intro,h⟩
theorem Yd.ct{p:ab->aa->Prop}(h:∀v w w',p v w->Below w.heap.size w w'->p v w'):(Yd.pr p).mS:=h
abbrev xU:Yd:= .ex undef
abbrev xI(i:Int):Yd:= .ex (aj i)
abbrev xB(b:Bool):Yd:= .ex (.bool b)
abbrev xP(a:ai):Yd:= .ex (.pointer a)
abbrev xS(a:ai)(n c:Nat):Yd:= .ex (.slice a n c)
theorem K6{y:Yd}(hl:y.mS){v:ab}{w w':aa}(h:y.holds v w)(hb:Below w.heap.size w w'):y.holds v w':=by
 cases y with
 | ex u=>exact h
 | pr p=>exact hl v w w' h hb
def eu(ds:List Nat)(i:Nat):Bool:=match ds with
 | []=>false
 | d::r=>bif Nat.beq i d then true else eu r i
theorem rP{ds:List Nat}{i:Nat}:eu ds i=true↔i∈ds:=by
 induction ds with
 | nil=>simp [eu]
 | cons d r ih=>
  simp only [eu,kj];cases hb:Nat.beq i d with
  | true=>simp [kO hb]
  | false=>
   have:i≠d:=fun e=>by subst e;simp at hb
   simp [this,ih]
def mix(e1 e:Env)(ds:List Nat):Env:=fun i=>bif eu ds i then e1 i else e i
def dX(o:Oper):List Edge:=o.after.toList.filter (Region.binds .any)
theorem oE{o:Oper}{ed:Edge}:ed∈dX o↔ed∈o.after/\Region.binds .any ed=true:=by
 simp [dX]
def cV(o:Oper):Nat:=match o.dst with
 | some d=>d
 | none=>0
def Fv(N:Nat)(l:List Oper):Bool:=
 l.all (fun o=>match o.dst with | some d=>Nat.blt d N | none=>false) && decide ((l.map cV).Nodup) && (l.zipIdx.all fun p=> (dX p.1).all fun ed=>Nat.blt ed.on p.2)
def oi(l:List Oper)(ys:List Yd):List Edge->List (Nat×ab)
 | []=> []
 | ed::r=>match ys[ed.on]? with
  | some (.ex v)=> (((l[ed.on]?).map cV).getD 0,v)::oi l ys r
  | _=>oi l ys r
def oW:List Oper->List Yd->(Nat->ab)->Nat->List (Nat×ab)
 | o::l,.ex v::ys,u,i=> (cV o,v)::oW l ys u (i+1)
 | o::l,.pr _::ys,u,i=> (cV o,u i)::oW l ys u (i+1)
 | _,_,_,_=> []
def fT(l:List Oper):Nat->Nat->Nat->Bool
 | 0,_,_=>false
 | f+1,k,j=>match l[k]? with
  | some o=> (dX o).any fun ed=>Nat.beq ed.on j || fT l f ed.on j
  | none=>false
theorem qJ{l:List Oper}{listed:Array Bool}(fx:∀(i:Nat) (o:Oper),listed.getD i false=true->l[i]?=some o->∀ed∈dX o,listed.getD ed.on false=true):∀(f k j:Nat),fT l f k j=true->listed.getD k false=true->listed.getD j false=true
 | 0,k,j,h,_=>by simp [fT]at h
 | f+1,k,j,h,hk=>by
  simp only [fT]at h
  split at h
  ·rename_i o ho;rw [List.any_eq_true]at h;obtain⟨ed,fe,h⟩:=h;have h1:=fx k o hk ho ed fe;rw [Bool.or_eq_true]at h;rcases h with h | h
   ·rw [<-kO h];exact h1
   ·exact qJ fx f ed.on j h h1
  ·cases h
theorem zQ{l:List Oper}{listed:Array Bool}(fx:∀(i:Nat) (o:Oper),listed.getD i false=true->l[i]?=some o->∀ed∈dX o,listed.getD ed.on false=true){k:Nat}{o:Oper}(ho:l[k]?=some o)(hr:∀ed∈dX o,listed.getD ed.on false=true):∀(f j:Nat),fT l f k j=true->listed.getD j false=true
 | 0,j,h=>by simp [fT]at h
 | f+1,j,h=>by
  simp only [fT,ho]at h;rw [List.any_eq_true]at h;obtain⟨ed,fe,h⟩:=h;have h1:=hr ed fe;rw [Bool.or_eq_true]at h;rcases h with h | h
  ·rw [<-kO h];exact h1
  ·exact qJ fx f ed.on j h h1
section
variable{i d id:Nat}{e1:Env}{w1 w2 w:aa}{y:Yd}{ops:Array Oper}{o:Oper}{l:List Oper}
variable {P:Program} {N:Nat} {e:Env} {w:aa}
def ew(i:Nat)(e1:Env)(w1:aa)(d:Nat)(y:Yd):Env->aa->Prop:=fun e2 w2=>Below w1.heap.size w1 w2/\y.holds (e2 d) w2/\∀j,j≠d->e2 j=e1 j
theorem ew.dn{v:ab}(hb:Below w1.heap.size w1 w2)(hv:y.holds v w2):ew i e1 w1 d y (br e1 d v) w2:=by
 refine⟨hb,?_,fun j hj=>?_⟩
 ·have:br e1 d v d=v:=by unfold br;rw [Nat.beq_refl];rfl
  rw [this];exact hv
 ·have:Nat.beq j d=false:=by
   cases h:Nat.beq j d with
   | false=>rfl
   | true=>exact absurd (kO h) hj
  unfold br;rw [this];rfl
theorem d0{v:ab}(hv:y.holds v w1):ew i e1 w1 d y (br e1 d v) w1:=ew.dn (Below.refl _ _) hv
theorem Az{v:ab}(hv:y.holds v w1:=by exact O):ak P N ops (ew i e1 w1 d y) [] (br e1 d v) w1:=ak.n (ew.dn (Below.refl _ _) hv)
def oJ(ops:Array Oper)(N:Nat)(e:Env)(o:Oper):Option (Nat×ab):=
 match o.guard with
 | none=>mZ N e o
 | some (j,want)=>match o.dst,(ops[j]?).bind (·.dst)with
  | some d,some dj=> (match Nat.blt dj N,Nat.blt d N with
   | true,true=> (match e dj with
    | .bool b=> (match b,want with
     | true,true=>mZ N e ⟨some d,o.op,o.type,o.pos,o.after,none⟩
     | false,false=>mZ N e ⟨some d,o.op,o.type,o.pos,o.after,none⟩
     | true,false=>some (d,undef)
     | false,true=>some (d,undef))
    | .tuple vs=> (match vs.toList with
     | []=>some (d,undef)
     | _=>none)
    | _=>none)
   | _,_=>none)
  | _,_=>none
theorem ak.oJ{K:Env->aa->Prop}{v:ab}(h:oJ ops N e1 o=some (d,v))(hK:K (br e1 d v) w1):ak P N ops K [o] e1 w1:=by
 obtain⟨dst,op,ty,pos,af,gd⟩:=o;unfold Vc.oJ at h
 split at h
 ·exact .mZ h (ak.n hK)
 rename_i j want hg;simp only at hg;subst hg
 split at h
 ·rename_i d' dj hd hj;simp only at hd;subst hd
  split at h
  ·rename_i cW hb
   split at h
   ·rename_i b he
    split at h
    ·exact Wc hj cW he (.mZ h (ak.n hK))
    ·exact Wc hj cW he (.mZ h (ak.n hK))
    ·simp only [kP,Prod.mk.injEq]at h;obtain⟨rfl,rfl⟩:=h;exact Wd hj cW he O hb (ak.n hK)
    simp only [kP,Prod.mk.injEq]at h;obtain⟨rfl,rfl⟩:=h;exact Wd hj cW he O hb (ak.n hK)
   ·rename_i vs he
    split at h
    ·rename_i hv;have hu:vs= #[]:=by cases vs;simp only at hv;rw [hv]
     subst hu;simp only [kP,Prod.mk.injEq]at h;obtain⟨rfl,rfl⟩:=h;exact We hj cW he hb (ak.n hK)
    cases h
   cases h
  cases h
 cases h
theorem JZ{v:ab}(h:oJ ops N e1 o=some (d,v)):o.dst=some d:=by
 have key:∀(o:Oper),mZ N e1 o=some (d,v)->o.dst=some d:=fun o h=>by
  unfold mZ at h
  split at h
  ·rename_i d' hg hd
   split at h
   ·split at h
    ·simp only [kP,Prod.mk.injEq]at h;rw [hd,h.1]
    cases h
   cases h
  cases h
 unfold oJ at h
 split at h
 ·exact key _ h
 split at h
 ·rename_i d' dj hd hj;rw [hd]
  split at h
  ·split at h
   ·split at h
    ·exact key _ h
    ·exact key _ h
    ·simp only [kP,Prod.mk.injEq]at h;rw [h.1]
    simp only [kP,Prod.mk.injEq]at h;rw [h.1]
   ·split at h
    ·simp only [kP,Prod.mk.injEq]at h;rw [h.1]
    cases h
   cases h
  cases h
 cases h
theorem Dk{v:ab}(h:oJ ops N e1 o=some (d,v))(hv:y.holds v w1):ak P N ops (ew i e1 w1 d y) [o] e1 w1:= .oJ h (ew.dn (Below.refl _ _) hv)
def K7:Yd->Bool
 | .ex _=>true
 | .pr _=>false
theorem da{l:List Yd}(h:l.all K7=true):∀y∈l,y.mS:=fun y hy=>by
 have:=List.all_eq_true.1 h y hy;cases y with
 | ex v=>exact True.intro
 | pr p=>cases this
def u5(P:Program)(N:Nat)(l:List Oper)(ys:List Yd)(e:Env)(w:aa):Nat->List Oper->Prop
 | _,[]=>True
 | i,o::r=> (∀e1 w1,Below w.heap.size w w1->(∀j,j<l.length->eu ((dX o).map (·.on)) j=true->∀(y:Yd) (o':Oper),ys[j]?=some y->l[j]?=some o'->y.holds (e1 (cV o')) w1)->(∀(j:Nat) (o':Oper),l[j]?=some o'->fT l l.length j i=true->e1 (cV o')=e (cV o'))-> 
  ak P N l.toArray (ew i (ext (mix e1 e (l.map cV)) (oi l ys (dX o))) w1 (cV o) (ys.getD i (.pr fun _ _=>True))) [o] (ext (mix e1 e (l.map cV)) (oi l ys (dX o))) w1)/\u5 P N l ys e w (i+1) r
theorem Dr{ys:List Yd}{v:ab}(h:(ys.getD i (.pr fun _ _=>True),fun e1=>oJ l.toArray N (ext (mix e1 e (l.map cV)) (oi l ys (dX o))) o)=(.ex v,fun _=>some (d,v))):∀e1 w1,Below w.heap.size w w1->(∀j,j<l.length->eu ((dX o).map (·.on)) j=true->∀(y:Yd) (o':Oper),ys[j]?=some y->l[j]?=some o'->y.holds (e1 (cV o')) w1)->(∀(j:Nat) (o':Oper),l[j]?=some o'->fT l l.length j i=true->e1 (cV o')=e (cV o'))->ak P N l.toArray (ew i (ext (mix e1 e (l.map cV)) (oi l ys (dX o))) w1 (cV o) (ys.getD i (.pr fun _ _=>True))) [o] (ext (mix e1 e (l.map cV)) (oi l ys (dX o))) w1:=fun e1 w1 _ _ _=>by
 have h1:=congrFun (Prod.mk.inj h).2 e1;have hd:cV o=d:=by unfold cV;rw [JZ h1]
 rw [hd,(Prod.mk.inj h).1];exact Dk h1 rfl
theorem u5.get{ys:List Yd}:∀ {r:List Oper} {i:Nat},u5 P N l ys e w i r->∀k o,r[k]?=some o->∀e1 w1,Below w.heap.size w w1->(∀j,j<l.length->eu ((dX o).map (·.on)) j=true->∀(y:Yd) (o':Oper),ys[j]?=some y->l[j]?=some o'->y.holds (e1 (cV o')) w1)->(∀(j:Nat) (o':Oper),l[j]?=some o'->fT l l.length j (i+k)=true->e1 (cV o')=e (cV o'))-> 
 ak P N l.toArray (ew (i+k) (ext (mix e1 e (l.map cV)) (oi l ys (dX o))) w1 (cV o) (ys.getD (i+k) (.pr fun _ _=>True))) [o] (ext (mix e1 e (l.map cV)) (oi l ys (dX o))) w1
 | [],_,_,k,o,hk=>by simp at hk
 | x::r,i,h,0,o,hk=>by simp at hk;subst hk;exact h.1
 | x::r,i,h,k+1,o,hk=>by
  have:=u5.get h.2 k o (by simpa using hk);simpa [Nat.add_assoc,Nat.add_comm 1 k]using this
theorem EC{a:Act}{K K2:Act->aa->Prop}{Q Q2:Exit->Act->aa->Prop}(h:o.wp P a w K Q)(hK:∀a w,K a w->K2 a w)(hQ:∀x a w,x≠ .normal->¬Q x a w):o.wp P a w K2 Q2:=by
 unfold Oper.wp at*;generalize (execOp a.eval o).run P w=r at*;cases r with
 | ok n w'=>
  cases n<;>simp only [Oper.upon]at h|-<;>first
   | exact hK _ _ h
   | (
    refine Calls.mono h fun x nU hx=>?_
    cases x with
    | returned v=>exact hK _ _ hx
    | panicked ch=>exact absurd hx (hQ _ _ _ (by simp))
    | outgrown=>obtain⟨a0,w0,hx⟩:=hx;exact absurd hx (hQ _ _ _ (by simp)))
   | exact Rows.mono h fun v nU hx=>hK _ _ hx
 | halt x w'=>
  cases x<;>simp only [Oper.upon]at h|-
  exact absurd h (hQ _ _ _ (by simp))
theorem y6{e:Env}{ds:List Nat}(h:∀j,eu ds j=false->e1 j=e j):mix e1 e ds=e1:=by
 funext j;unfold mix;cases hm:eu ds j with
 | true=>rfl
 | false=>exact(h j hm).symm
theorem Fu{l:List Oper}{ys:List Yd}{e1:Env}{w1:aa}:∀(af:List Edge),(∀ed∈af,ed.on<l.length)->(∀j,eu (af.map (·.on)) j=true->∀(y:Yd) (o':Oper),ys[j]?=some y->l[j]?=some o'->y.holds (e1 (cV o')) w1)->Mt e1 (oi l ys af)
 | [],_,_=>av
 | ed::r,cW,h=>by
  have hr:=Fu r (fun x hx=>cW x (n4 _ hx)) (fun j hj=>h j (by rw [rP]at hj|-;exact n4 _ hj));unfold oi
  split
  ·rename_i v hy;have hl:=cW ed (by simp);refine⟨?_,hr⟩;rw [dE hl];exact h ed.on (by rw [rP];simp) _ _ hy (dE hl)
  ·exact hr
theorem Fy{e1 e:Env}{w1:aa}:∀(l:List Oper) (ys:List Yd) (i:Nat),l.length=ys.length->(l.map cV).Nodup->(∀(k:Nat) (y:Yd) (o:Oper),ys[k]?=some y->l[k]?=some o->y.holds (e1 (cV o)) w1)->
 ∃u:Nat->ab,ext e (oW l ys u i)=mix e1 e (l.map cV)/\(∀(k:Nat) (o:Oper),l[k]?=some o->u (i+k)=e1 (cV o))
 | [],[],i,_,_,_=> ⟨fun _=>undef,by funext j;rfl,fun k o h=>by simp at h⟩
 | [],y::ys,i,hl,_,_=>by simp at hl
 | o::l,[],i,hl,_,_=>by simp at hl
 | o::l,y::ys,i,hl,hn,h=>by
  simp only [List.map_cons,lM]at hn;obtain⟨u,hu,l6⟩:=Fy (e1:=e1) (e:=e) (w1:=w1) l ys (i+1) (by simpa using hl) hn.2 (fun k y o hy ho=>h (k+1) y o (by simpa using hy) (by simpa using ho));have h0:=h 0 y o O O;have Ak:∀(l:List Oper) (ys:List Yd) (i:Nat) (u u':Nat->ab),(∀k,i<=k->u k=u' k)->oW l ys u i=oW l ys u' i:=by
   intro l
   induction l with
   | nil=>intros;rfl
   | cons o l ih=>
    intro ys i u u' hk;cases ys with
    | nil=>rfl
    | cons y ys=>
     cases y with
     | ex v=>simp only [oW];rw [ih ys (i+1) u u' (fun k cE=>hk k (by omega))]
     | pr p=>simp only [oW];rw [ih ys (i+1) u u' (fun k cE=>hk k (by omega)),hk i (by omega)]
  refine⟨fun k=>if k=i then e1 (cV o)else u k,?_,fun k o' hk=>?_⟩
  ·have hc:=Ak l ys (i+1) (fun k=>if k=i then e1 (cV o)else u k) u (fun k hk=>by rw [aB (by omega)]);have gY:∀v,v=e1 (cV o)->br (mix e1 e (l.map cV)) (cV o) v=mix e1 e ((o::l).map cV):=by
    intro v hv;funext j;simp only [br,mix,List.map_cons,eu];cases hb:Nat.beq j (cV o)with
    | true=>rw [kO hb,hv];rfl
    | false=>rfl
   cases y with
   | ex v=>
    simp only [oW,ext,hc,hu];exact gY v h0.symm
   | pr p=>
    simp only [oW,ext,hc,hu,aF];exact gY _ O
  ·cases k with
   | zero=>simp at hk;subst hk;simp
   | succ k=>
    have:=l6 k o' (by simpa using hk);show(if i+ (k+1)=i then _ else u (i+ (k+1)))=_;rw [aB (by omega),<-this];congr 1;omega
theorem vq(p p':Nat->Bool)(i:Nat)(hi:p i=false)(hp:∀k,p' k=if k=i then true else p k):∀(l:List Nat),l.Nodup->i∈l->l.countP p'=l.countP p+1
 | [],_,h=>by cases h
 | x::l,hn,h=>by
  have CX:∀(l:List Nat),¬i∈l->l.countP p'=l.countP p:=by
   intro l hl;exact List.countP_congr fun k hk=>by rw [hp k,aB (by rintro rfl;exact hl hk)]
  simp only [lM]at hn;simp only [List.countP_cons]
  by_cases hx:x=i
  ·subst hx;rw [CX l hn.1,hp x,aF rfl,hi];simp
  ·have CA:i∈l:=by
    rcases kj.1 h with h | h
    ·exact absurd h.symm hx
    ·exact h
   rw [vq p p' i hi hp l hn.2 CA,hp x,aB hx];omega
theorem Wj{Q:gn}(ys:List Yd)(hm:P.follows .mixedOrders=true)(b6:Fv N l=true)(hlen:Nat.beq l.length ys.length=true)(uz:∀y∈ys,y.mS)
 (Dh:u5 P N l ys e w 0 l) (pV:∀u w1,Below w.heap.size w w1->(∀(k:Nat) (p:ab->aa->Prop),ys[k]?=some (Yd.pr p)->p (u k) w1)->Q .normal (ext e (oW l ys u 0)) w1):Cd P N (.region id l.toArray true) Q e w:= .mk' fun a ha=>by
 have p9:l.length=ys.length:=kO hlen;simp only [Fv,Bool.and_eq_true,List.all_eq_true,jj]at b6;obtain⟨⟨h1,h2⟩,h3⟩:=b6;have OK:∀(i:Nat) (o:Oper),l[i]?=some o->∃d,o.dst=some d/\cV o=d/\d<N:=by
  intro i o ho;have:=h1 o (List.mem_of_getElem? ho);cases hd:o.dst with
  | none=>rw [hd]at this;cases this
  | some d=>rw [hd]at this;exact⟨d,rfl,by simp [cV,hd],by simpa [Nat.blt_eq]using this⟩
 have Oq:∀(i:Nat) (o:Oper),l[i]?=some o->∀ed∈dX o,ed.on<i/\Region.binds .any ed=true:=by
  intro i o ho ed fe;have:=h3 (o,i) (by
   obtain⟨hi,CB⟩:=fu.1 ho;rw [List.mem_iff_getElem?];exact⟨i,by simp [ho]⟩)
  exact⟨by simpa [Nat.blt_eq]using this ed fe,(oE.1 fe).2⟩
 have rh:∀(i:Nat) (o:Oper),l[i]?=some o->∀ed∈dX o,ed.on<i:=fun i o ho ed fe=> (Oq i o ho ed fe).1
 refine wp_region_any hm ?_;have key:∀(fuel:Nat) (listed:Array Bool) (a1:Act) (e1:Env) (w1:aa),gI N a1 e1->Below w.heap.size w w1->(∀j,eu (l.map cV) j=false->e1 j=e j)->listed.size=l.length->
  (∀(i:Nat) (y:Yd) (o:Oper),listed.getD i false=true->ys[i]?=some y->l[i]?=some o->y.holds (e1 (cV o)) w1)->(∀(i:Nat) (o:Oper),listed.getD i false=true->l[i]?=some o->∀ed∈dX o,listed.getD ed.on false=true)->(∀(i:Nat) (o:Oper),listed.getD i false=false->l[i]?=some o->e1 (cV o)=e (cV o))->(l.length - fuel<=(List.range l.length).countP fun i=>listed.getD i false)->
  wpAny P .any l.toArray (low N Q) fuel listed a1 w1:=by
  have lu:∀(listed:Array Bool) (a1:Act) (e1:Env) (w1:aa),gI N a1 e1->Below w.heap.size w w1->(∀j,eu (l.map cV) j=false->e1 j=e j)->
   (∀(i:Nat) (y:Yd) (o:Oper),listed.getD i false=true->ys[i]?=some y->l[i]?=some o->y.holds (e1 (cV o)) w1)->(∀i,i<l.length->listed.getD i false=true)->low N Q .normal a1 w1:=by
   intro listed a1 e1 w1 hr hb lp hS dV;obtain⟨u,hu,l6⟩:=Fy (e1:=e1) (e:=e) (w1:=w1) l ys 0 p9 h2 (fun k y o hy ho=>hS k y o (dV k (fu.1 ho).1) hy ho);refine⟨e1,hr,?_⟩;have:=pV u w1 hb (fun k p hk=>by
    have fE:k<l.length:=by rw [p9];exact(fu.1 hk).1
    have h5:=hS k _ l[k] (dV k fE) hk (dE fE);have h6:=l6 k l[k] (dE fE);rw [Nat.zero_add]at h6;rw [h6];exact h5)
   rw [hu,y6 lp]at this;exact this
  have C9:∀(listed:Array Bool),listed.size=l.length->Region.ready .any l.toArray listed=[]->∀i,i<l.length->listed.getD i false=true:=by
   intro listed mP sS i
   induction i using Nat.strongRecOn with
   | _ i ih=>
    intro hi;cases vZ:listed.getD i false with
    | true=>rfl
    | false=>
     exfalso;have:i∈Region.ready .any l.toArray listed:=by
      rw [mem_ready];refine⟨?_,l[i],by simp [hi],fun ed fe im=>ih ed.on (rh i _ (dE hi) ed (oE.2 ⟨fe,im⟩)) (by have:=rh i _ (dE hi) ed (oE.2 ⟨fe,im⟩);omega)⟩;rw [gP,nW (by omega)]at vZ|-;exact vZ
     rw [sS]at this;cases this
  intro fuel
  induction fuel with
  | zero=>
   intro listed a1 e1 w1 hr hb lp mP hS fx s4 kz;have dV:∀i,i<l.length->listed.getD i false=true:=by
    have h4:(List.range l.length).countP (fun i=>listed.getD i false)=(List.range l.length).length:=by
     have:=List.countP_le_length (p:=fun i=>listed.getD i false) (l:=List.range l.length);simp at this kz|-;omega
    rw [List.countP_eq_length]at h4;intro i hi;exact h4 i (by simpa using hi)
   refine⟨?_,lu listed a1 e1 w1 hr hb lp hS dV⟩;rw [List.eq_nil_iff_forall_not_mem];intro i hi;obtain⟨h5,o,ho,_⟩:=mem_ready.1 hi;have lW:i<l.length:=by
    rcases Nat.lt_or_ge i l.length with h | h
    ·exact h
    ·simp [oP h]at ho
   have h6:=dV i lW;rw [gP,nW (by omega)]at h5 h6;simp at h5 h6;rw [h5]at h6;cases h6
  | succ fuel ih=>
   intro listed a1 e1 w1 hr hb lp mP hS fx s4 kz;refine⟨fun sS=>lu listed a1 e1 w1 hr hb lp hS (C9 listed mP sS),fun i hi=>?_⟩;obtain⟨aZ,o,ho,x8⟩:=mem_ready.1 hi;have jG:l[i]?=some o:=by simpa using ho
   have lW:i<l.length:=(fu.1 jG).1;obtain⟨d,hd,hdo,OI⟩:=OK i o jG;have Ha:∀j,eu ((dX o).map (·.on)) j=true->∀(y:Yd) (o':Oper),ys[j]?=some y->l[j]?=some o'->y.holds (e1 (cV o')) w1:=by
    intro j hj y o' hy o9;rw [rP,fq]at hj;obtain⟨ed,fe,rfl⟩:=hj;exact hS _ y o' (x8 ed (oE.1 fe).1 (oE.1 fe).2) hy o9
   have jq:∀ed∈dX o,listed.getD ed.on false=true:=fun ed fe=>x8 ed (oE.1 fe).1 (oE.1 fe).2
   have qj:listed.getD i false=false:=by
    have h5:=aZ;rw [gP,nW (by omega)]at h5|-;exact h5
   have ou:∀k,(listed.setIfInBounds i true).getD k false=if k=i then true else listed.getD k false:=by
    intro k;rw [gP,qE]
    by_cases dI:k=i
    ·subst dI;rw [aF rfl,aF (by omega),aF rfl];rfl
    ·rw [aB (fun e=>dI e.symm),aB dI,<-gP]
   have ax:=Dh.get i o jG e1 w1 hb (fun j _ hj=>Ha j hj) (fun j o' hj sE=>by
    refine s4 j o' ?_ hj;cases qa:listed.getD j false with
    | false=>rfl
    | true=>
     have:=qJ fx _ _ _ sE qa;rw [Nat.zero_add,qj]at this;cases this)
   rw [y6 lp,tU (Fu (dX o) (fun ed fe=>by have:=rh i o jG ed fe;omega) Ha),Nat.zero_add]at ax;have oz:=ax.run a1 hr;have qe:∀a2 w2,(∃e2,gI N a2 e2/\ew i e1 w1 (cV o) (ys.getD i (.pr fun _ _=>True)) e2 w2)->wpAny P .any l.toArray (low N Q) fuel (listed.setIfInBounds i true) a2 w2:=by
    intro a2 w2 ⟨e2,C8,gK,ql,uh⟩;have dZ:Below w.heap.size w w2:=hb.trans (gK.mono hb.size);refine ih _ a2 e2 w2 C8 dZ (fun j hj=>?_) (by simpa using mP) (fun k y o' hk hy b6=>?_) (fun k o' hk b6 ed fe=>?_) (fun k o' hk b6=>?_) ?_
    ·have cG:j≠cV o:=by
      rintro rfl;have:eu (l.map cV) (cV o)=true:=by rw [rP];exact fq.2 ⟨o,List.mem_of_getElem? jG,O⟩
      rw [this]at hj;cases hj
     rw [uh j cG];exact lp j hj
    ·by_cases dI:k=i
     ·subst dI;rw [jG]at b6;cases b6;have:ys.getD k (.pr fun _ _=>True)=y:=by simp [bX,hy]
      rw [this]at ql;exact ql
     ·have cE:listed.getD k false=true:=by
       rw [gP,qE,aB (by omega),<-gP]at hk;exact hk
      have h7:=hS k y o' cE hy b6;have cG:cV o'≠cV o:=by
       intro heq;have fE:=(fu.1 b6).1;have h9:k=i:=(List.getElem_inj (xs:=l.map cV) (h₀:=by simpa using fE) (h₁:=by simpa using lW) h2).1 (by
        have e1:=(fu.1 b6).2;have e2:=(fu.1 jG).2;simp [e1,e2,heq])
       exact dI h9
      rw [uh _ cG];exact K6 (uz y (List.mem_of_getElem? hy)) h7 gK
    ·rw [ou]
     by_cases vR:ed.on=i
     ·rw [aF vR]
     ·rw [aB vR]
      by_cases dI:k=i
      ·subst dI;rw [jG]at b6;cases b6;exact jq ed fe
      ·rw [ou,aB dI]at hk;exact fx k o' hk b6 ed fe
    ·rw [ou]at hk
     by_cases dI:k=i
     ·rw [aF dI]at hk;cases hk
     ·rw [aB dI]at hk;rw [uh _ (fun heq=>by
       have fE:=(fu.1 b6).1;have h9:k=i:=(List.getElem_inj (xs:=l.map cV) (h₀:=by simpa using fE) (h₁:=by simpa using lW) h2).1 (by
        have e1:=(fu.1 b6).2;have e2:=(fu.1 jG).2;simp [e1,e2,heq])
       exact dI h9)]
      exact s4 k o' hk b6
    ·have Cn:(List.range l.length).countP (fun k=> (listed.setIfInBounds i true).getD k false)=(List.range l.length).countP (fun k=>listed.getD k false)+1:=by
      refine vq (fun k=>listed.getD k false) (fun k=> (listed.setIfInBounds i true).getD k false) i ?_ (fun k=>?_) _ List.nodup_range (by simpa using lW)
      ·have h5:=aZ;show listed.getD i false=false;rw [gP,nW (by omega)]at h5|-;exact h5
      ·show(listed.setIfInBounds i true).getD k false=if k=i then true else listed.getD k false
       rw [gP,qE]
       by_cases dI:k=i
       ·subst dI;rw [aF rfl,aF (by omega),aF rfl];rfl
       ·rw [aB (fun e=>dI e.symm),aB dI,<-gP]
     rw [Cn];omega
   unfold wpOp;rw [ho];unfold wpList at oz;show if _ then _ else _
   by_cases hw:Region.wanted o (yielded l.toArray a1.tmps)=true
   ·rw [aF hw]at oz|-;rcases oz with h5 | ⟨_,a0,w0,h5⟩
    ·refine .inl (EC h5 (fun a2 w2 hx=>?_) (fun x a w hx hq=>hx hq.1));exact qe a2 w2 hx.2
    ·exact absurd h5.1 (by simp)
   ·rw [aB hw]at oz|-;exact qe _ _ oz.2
 refine key l.length (Array.replicate l.length false) a e _ ha ⟨⟨O,O,O,cO _,fun _ _=>O⟩,fun _=>Nat.le_add_right _ _⟩ (fun _ _=>O) (by simp) (fun i y o hi=>?_) (fun i o hi=>?_) (fun _ _ _ _=>O) (by omega)
 ·exfalso;rw [gP,Array.getElem?_replicate]at hi
  split at hi<;>simp at hi
 ·exfalso;rw [gP,Array.getElem?_replicate]at hi
  split at hi<;>simp at hi
theorem cN{Q:gn}(ys:List Yd)(hlen:Nat.beq l.length ys.length=true)(uz:∀y∈ys,y.mS)(Dh:u5 P N l ys e w 0 l)(pV:∀u w1,Below w.heap.size w w1->(∀(k:Nat) (p:ab->aa->Prop),ys[k]?=some (Yd.pr p)->p (u k) w1)->Q .normal (ext e (oW l ys u 0)) w1)(hm:P.follows .mixedOrders=true:=by kernel_rfl)(b6:Fv N l=true:=by kernel_rfl):Cd P N (.region id l.toArray true) Q e w:=Wj ys hm b6 hlen uz Dh pV
theorem oN{α:Type}{x y:Code}{Q:gn}(F:α->List (Nat×ab))(I:α->aa->Prop)(hx:Cd P N x (tv (fun e' w'=>∃s,Mt e' (F s)/\I s w') Q) e w)
 (hy:∀s e' w',I s w'->Cd P N y Q (ext e' (F s)) w'):Cd P N (.seq x y) Q e w:=
 .seq (hx.mono fun ex e' w' q=>by
  cases ex<;>first
   | exact q
   | (
    obtain⟨s,hm,hi⟩:=q;have:=hy s e' w' hi;rw [tU hm]at this;exact this))
end
structure bu(w:aa)(A:ai)(n:Nat)(rs:List aH)(xss:ag):Prop where
 top:eU w A n rs
 len:xss.length=n
 row:∀i,i<n->bS w (rs.getD i bA).a (rs.getD i bA).n (xss.getD i [])
 cap:∀i,i<n->(rs.getD i bA).n<=(rs.getD i bA).c/\(rs.getD i bA).c<=maxLen
def gl(xss:ag)(i:Int):ah:=xss.getD i.toNat []
theorem bu.at_{w:aa}{A:ai}{n:Nat}{rs:List aH}{xss:ag}(h:bu w A n rs xss){i:Int}(_h0:0<=i)(hi:i<n):bS w (rg rs i).a (rg rs i).n (gl xss i):=h.row _ (by omega)
theorem bu.cap_{w:aa}{A:ai}{n:Nat}{rs:List aH}{xss:ag}(h:bu w A n rs xss){i:Int}(_h0:0<=i)(hi:i<n):(rg rs i).n<=(rg rs i).c/\(rg rs i).c<=9223372036854775807:=h.cap _ (by omega)
theorem bu.ao{w w':aa}{A:ai}{n:Nat}{rs:List aH}{xss:ag}(h:bu w A n rs xss)(hb:Below w.heap.size w w'):bu w' A n rs xss:=
 ⟨h.top.ao hb,h.len,fun i hi=> (h.row i hi).ao hb,h.cap⟩
theorem St.bE{w0 w:aa}{ks:List Ck}{A:ai}{n:Nat}{rs:List aH}{xss:ag}(h:St w0 w ks)(hR:bu w0 A n rs xss):bu w A n rs xss:=hR.ao h.below
def cw(t:ad):List aH->ag->List Ck
 | r::rs,xs::xss=>aE t r.a r.n r.c xs::cw t rs xss
 | _,_=> []
def aW(t1 t2:ad)(A:ai)(n c:Nat)(rs:List aH)(xss:ag):List Ck:=aQ t1 A n c rs::cw t2 rs xss
theorem zm{t:ad}:∀ {rs:List aH} {xss:ag} {i:Nat},rs.length=xss.length->i<rs.length->(cw t rs xss)[i]?=some (aE t (rs.getD i bA).a (rs.getD i bA).n (rs.getD i bA).c (xss.getD i []))
 | [],_,_,_,h=>by simp at h
 | r::rs,[],_,h,_=>by simp at h
 | r::rs,xs::xss,0,_,_=>rfl
 | r::rs,xs::xss,i+1,h,hi=>by
  have:=zm (t:=t) (rs:=rs) (xss:=xss) (i:=i) (by simpa using h) (by simpa using hi);simpa [cw]using this
theorem tl{t:ad}:∀ {rs:List aH} {xss:ag},rs.length=xss.length->(cw t rs xss).length=rs.length
 | [],[],_=>rfl
 | [],_::_,h=>by simp at h
 | _::_,[],h=>by simp at h
 | r::rs,xs::xss,h=>by simp [cw,tl (t:=t) (rs:=rs) (xss:=xss) (by simpa using h)]
theorem rX{t:ad}:∀ {rs rs':List aH} {xss xss':ag},rs.length=xss.length->cw t (rs++rs') (xss++xss')=cw t rs xss++cw t rs' xss'
 | [],_,[],_,_=>rfl
 | [],_,_::_,_,h=>by simp at h
 | _::_,_,[],_,h=>by simp at h
 | r::rs,rs',xs::xss,xss',h=>by
  have:=rX (t:=t) (rs:=rs) (rs':=rs') (xss:=xss) (xss':=xss') (by simpa using h);simp [cw,this]
theorem St.jL{w0 w:aa}{ks:List Ck}{t1 t2:ad}{A:ai}{n c:Nat}{rs:List aH}{xss:ag}(h:St w0 w (aW t1 t2 A n c rs xss++ks))(hl:xss.length=n):bu w A n rs xss:=by
 have h0:=h.dB 0 (show(aW t1 t2 A n c rs xss++ks)[0]?=some (aQ t1 A n c rs) from O);have hr:rs.length=xss.length:=by rw [h0.1,hl]
 have get:∀i,i<n->(aW t1 t2 A n c rs xss++ks)[i+1]?=some (aE t2 (rs.getD i bA).a (rs.getD i bA).n (rs.getD i bA).c (xss.getD i [])):=by
  intro i hi;have h1:=zm (t:=t2) (rs:=rs) (xss:=xss) (i:=i) hr (by omega);rw [mo (by simp [aW,tl hr];omega)];simpa [aW]using h1
 exact⟨h0,hl,fun i hi=>h.bU (i+1) (get i hi),fun i hi=>h.cap (i+1) (get i hi)⟩
theorem St.Uq{w0 w:aa}{ks:List Ck}{t1 t2:ad}{A:ai}{n c:Nat}{rs:List aH}{xss:ag}(h:St w0 w (aW t1 t2 A n c rs xss++ks)):St w0 w ks:=h.sub (iw _ _)
end Go.Proofs.YtagdamiiececaaaGreatDoor.Vc
