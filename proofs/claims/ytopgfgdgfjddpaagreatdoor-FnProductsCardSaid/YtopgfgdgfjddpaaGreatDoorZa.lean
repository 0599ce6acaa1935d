/-
  The texts Vc, Ops, Go, Mem, Mop, Draw, App, Drw, Cpy, Mat in one. Conditions: as each part states them.
-/
import Derived.WalkKit
import Derived.Deep.Quiet
import Derived.Deep.LoopGhost
import Derived.Below
import Derived.Sort.Grow
import Derived.Deep.OwnRows
import Derived.Laws.IdiomCopy
import Derived.Shelf.Bits.Mul64
namespace Go.Proofs.YtopgfgdgfjddpaaGreatDoor.Vc
open Go.RowKit
abbrev Env:=Nat→Value
def a7(e:Env)(d:Nat)(v:Value):Env:=fun i=>bif Nat.beq i d then v else e i
def ev(e:Env):Operand→Value
 | .tmp t=>e t
 | .const v=>v
 | .global g=> .pointer (some ⟨g,0,none⟩)
 | .func f=> .func (.func f) #[] #[]
structure jE(N:Nat)(a:Act)(e:Env):Prop where
 defers:a.defers=[]
 size:a.tmps.size=N
 get:∀i,a.tmps.getD i undef=e i
abbrev aiB:=List (List Int)
abbrev aiC:=Option Addr
abbrev aiD(i:Int):Value:=.int .i64 i
theorem ae:True:=@trivial
theorem ag:∀ {c:Prop} {_:Decidable c},¬c→∀ {α:Sort _} {t e:α},(if c then t else e)=e:=@if_neg
theorem aj:∀ {c:Prop} {_:Decidable c},c→∀ {α:Sort _} {t e:α},(if c then t else e)=t:=@if_pos
theorem ax:∀ {α:Sort _} {β:Sort _} {a₁ a₂:α} (f:α→β),a₁=a₂→f a₁=f a₂:=@congrArg
theorem aW:∀(n:Nat),0≤n:=@Nat.zero_le
theorem a8:∀(n:Nat),n≤n:=@Nat.le_refl
theorem bV:∀ {α:Type _} {p:α→Prop} {a:α} {l:List α},(∀(x:α),x∈a::l→p x)↔p a∧∀(x:α),x∈l→p x:=@List.forall_mem_cons
theorem cd:∀ {p:Prop} [Decidable p],¬p→decide p=false:=@decide_eq_false
theorem cJ:∀ {α:Type _} {l:List α} {i:Nat} {a:α},l.getD i a=l[i]?.getD a:=@List.getD_eq_getElem?_getD
theorem cO:∀ {α:Type _} {val val_1:α},some val=some val_1→val=val_1:=@Option.some.inj
theorem dh:∀ {α:Type _} {β:Type _} {b:β} {f:α→β} {l:List α},b∈List.map f l↔∃a,a∈l∧f a=b:=@List.mem_map
theorem dm:∀ {α:Type _} {cs bs:List α},(cs++bs).length=cs.length+bs.length:=@List.length_append
theorem dQ:∀ {α:Type _} {l:List α} {n:Nat} (h:n<l.length),l[n]∈l:=@List.getElem_mem
theorem dX:∀ {p:Prop} [Decidable p],p→decide p=true:=@decide_eq_true
theorem eT:∀ {α:Type _} {a b:α},a∈[b]↔a=b:=@List.mem_singleton
theorem fg:∀ {α:Type _} (cs:List α),cs++ []=cs:=@List.append_nil
theorem fA:∀ {α:Type _} {p:α→Bool} {cs:List α} {x:α},x∈List.filter p cs↔x∈cs∧p x=true:=@List.mem_filter
theorem fJ:∀ {α:Type _} (l:List α),l.Sublist l:=@List.Sublist.refl
theorem fN:∀ {α:Type _} {β:Type _} {cs:List α} (f:α→β),(List.map f cs).length=cs.length:=@List.length_map
theorem fR:∀ {α:Type _} (ks bs cs:List α),ks++bs++cs=ks++ (bs++cs):=@List.append_assoc
theorem gf:∀ {α:Type _} {l:List α} {i:Nat} (h:i<l.length),l[i]?=some l[i]:=@List.getElem?_eq_getElem
theorem gg:∀ {m n:Nat},m∈List.range n↔m<n:=@List.mem_range
theorem gJ:∀ {α:Type _} {a:α} {l:List α},a∈l↔∃(i:Nat) (h:i<l.length),l[i]=a:=@List.mem_iff_getElem
theorem gR:∀ {α:Type _} (l₁ l₂:List α),l₂.Sublist (l₁++l₂):=@List.sublist_append_right
theorem ia:∀ {α:Type _} {i:Nat} {a:α} {l:List α},l[i]?=some a↔∃h,l[i]=a:=@List.getElem?_eq_some_iff
theorem ir:∀(n:Nat),(n:Int).toNat=n:=@Int.toNat_natCast
theorem iw:∀ {α:Type _} {cs:List α} {i:Nat} {a:α},(cs.set i a).length=cs.length:=@List.length_set
theorem iG:∀ {α:Type _} {a:α} {s t:List α},a∈s++t↔a∈s∨a∈t:=@List.mem_append
theorem iH:∀ {α:Type _} {a:α} {l₁ l₂:List α},(l₁++a::l₂).Perm (a::(l₁++l₂)):=@List.perm_middle
theorem iN:∀ {α:Type _} {xs:Array α} {i:Nat} {d:α},xs.getD i d=xs[i]?.getD d:=@Array.getD_eq_getD_getElem?
theorem iP:∀ {a:Prop},¬¬a↔a:=@Classical.not_not
theorem iQ:∀ {α:Type _} {β:Type _} {f:α→β} {l₁ l₂:List α},List.map f (l₁++l₂)=List.map f l₁++List.map f l₂:=@List.map_append
theorem iW:∀ {α:Type _} {b:α} {l:List α} {a:α},a∈b::l↔a=b∨a∈l:=@List.mem_cons
theorem ji:∀ {α:Type _} {l₁ l₂:List α},l₁.length=l₂.length→(∀(i:Nat) (h₁:i<l₁.length) (h₂:i<l₂.length),l₁[i]=l₂[i])→l₁=l₂:=@List.ext_getElem
theorem jk:∀(n:Nat),¬n<0:=@Nat.not_lt_zero
theorem jo:∀ {p q:Prop} {_:Decidable p} {_:Decidable q},decide p=decide q↔(p↔q):=@decide_eq_decide
theorem jQ:∀ {α:Type _} {l₁ l₂:List α} {i:Nat},l₁.length≤i→(l₁++l₂)[i]?=l₂[i - l₁.length]?:=@List.getElem?_append_right
theorem jT:∀ {p:Prop} [Decidable p],(decide p=true)=p:=@decide_eq_true_eq
theorem kI:∀ {α:Type _} (a:α) {b:α} {l:List α} {i:Nat},(l.set i a).set i b=l.set i b:=@List.set_set
theorem kJ:∀ {n m k:Nat},n≤m→m≤k→n≤k:=@Nat.le_trans
theorem lh:∀ {α:Type _} {l₁ l₂:List α},(l₁++l₂).Perm (l₂++l₁):=@List.perm_append_comm
theorem lE:∀ {α:Type _} [BEq α] {a b:α} {l:List α},List.count a (b::l)=List.count a l+if(b==a)=true then 1 else 0:=@List.count_cons
theorem lQ:∀ {α:Type _} {l₁ l₂:List α} {i:Nat},i<l₁.length→(l₁++l₂)[i]?=l₁[i]?:=@List.getElem?_append_left
theorem lR:∀ {α:Type _} [BEq α] [LawfulBEq α] {l₁ l₂:List α},l₁.Perm l₂↔∀(a:α),List.count a l₁=List.count a l₂:=@List.perm_iff_count
theorem lS:∀ {α:Type _} {i:Nat} {l:List α},l.length≤i→List.take i l=l:=@List.take_of_length_le
theorem mJ:∀ {α:Type _} {l:List α} {α_1:Type _} {f g:α→α_1},(∀(a:α),a∈l→f a=g a)→List.map f l=List.map g l:=@List.map_congr_left
theorem ng:∀ {n:Nat},List.range n.succ=List.range n++ [n]:=@List.range_succ
theorem nL:∀ {p:Prop},(¬p→False)→p:=@Classical.byContradiction
theorem nP:∀ {α:Type _} [BEq α] {a:α} {l₁ l₂:List α},List.count a (l₁++l₂)=List.count a l₁+List.count a l₂:=@List.count_append
theorem nQ:∀ {α:Type _} [BEq α] {a:α},List.count a []=0:=@List.count_nil
theorem nS:∀ {α:Type _} {p:α→Bool} (l₁ l₂:List α),List.filter p (l₁++l₂)=List.filter p l₁++List.filter p l₂:=@List.filter_append
theorem oH:∀ {α:Type _} {l:List α} {i:Nat},l.length≤i→l[i]?=none:=@List.getElem?_eq_none
theorem oI:∀ {α:Type _} {l:List α} {i j:Nat} {a:α},(l.set i a)[j]?=if i=j then if i<l.length then some a else none else l[j]?:=@List.getElem?_set
theorem oJ:∀ {α:Type _} (p:α→Bool) (l:List α),(List.filter p l).length≤l.length:=@List.length_filter_le
theorem oK:∀ {α:Type _} (y:α) {a:α} {l:List α},a∈l→a∈y::l:=@List.mem_cons_of_mem
theorem oL:∀ {n m:Nat},n.beq m=true→n=m:=@Nat.eq_of_beq_eq_true
theorem pd:∀ {α:Type _} {R:α→α→Prop} {l:List α} (p:α→Bool),List.Pairwise R l→List.Pairwise R (List.filter p l):=@List.Pairwise.filter
theorem pe:∀ {n:Nat},(List.range n).length=n:=@List.length_range
theorem pf:∀ {α:Type _} {i:Nat} {l:List α},(List.take i l).length=min i l.length:=@List.length_take
theorem pg:∀ {α:Type _} {a:α} {l:List α},(a::l).Nodup↔¬a∈l∧l.Nodup:=@List.nodup_cons
theorem pj:∀ {α:Type _} (val val_1:α),(some val=some val_1)=(val=val_1):=@Option.some.injEq
theorem pG:∀ {α:Type _} {p:α→Bool} {a:α} {l:List α},¬p a=true→List.filter p (a::l)=List.filter p l:=@List.filter_cons_of_neg
theorem qd:∀ {α:Type _} {α_1:Type _} {f:α→α_1} {R:α_1→α_1→Prop} {l:List α},List.Pairwise R (List.map f l)↔List.Pairwise (fun a b=>R (f a) (f b)) l:=@List.pairwise_map
theorem qL:∀ {α:Type _} {xs:Array α} {i:Nat} (h:i<xs.size),xs[i]?=some xs[i]:=@Array.getElem?_eq_getElem
theorem rW:∀ {α:Type _} {l:List α} {i j:Nat},(List.take i l)[j]?=if j<i then l[j]? else none:=@List.getElem?_take
theorem rX:∀ {α:Type _} (l₁ l₂:List α),l₁.Sublist (l₁++l₂):=@List.sublist_append_left
theorem rY:∀ {α:Type _} {i:Nat} {l:List α} (h:i<l.length),List.take (i+1) l=List.take i l++ [l[i]]:=@List.take_succ_eq_append_getElem
theorem sP:∀ {p:Prop} [Decidable p],decide p=true→p:=@of_decide_eq_true
theorem sX:∀ {α:Type _} {xs:Array α} {i j:Nat} {a:α},(xs.setIfInBounds i a)[j]?=if i=j then if i<xs.size then some a else none else xs[j]?:=@Array.getElem?_setIfInBounds
theorem s7:∀ {α:Type _} {l:List α},l.length=0→l=[]:=@List.eq_nil_of_length_eq_zero
theorem s8:∀ {α:Type _} {p:α→Bool} {a:α} {l:List α},p a=true→List.filter p (a::l)=a::List.filter p l:=@List.filter_cons_of_pos
theorem s9:∀ {α:Type _} {l₁ l₂:List α},l₁.Nodup→l₂.Nodup→(l₁.Perm l₂↔∀(a:α),a∈l₁↔a∈l₂):=@List.perm_ext_iff_of_nodup
theorem xG:∀ {α:Type _} {l₁ l₂:List α} {i:Nat},i≤l₁.length→List.take i (l₁++l₂)=List.take i l₁:=@List.take_append_of_le_length
theorem O{α:Sort _}{a:α}:a=a:=rfl
theorem jE.eval{N:Nat}{a:Act}{e:Env}(h:jE N a e):a.eval=ev e:=by
 funext x;cases x with
 | tmp t=>exact h.get t
 | const v=>rfl
 | global g=>rfl
 | func f=>rfl
theorem jE.put{N:Nat}{a:Act}{e:Env}(h:jE N a e){d:Nat}(hd:Nat.blt d N=true)(v:Value):jE N (a.put (some d) v) (a7 e d v):=by
 have ou:d<a.tmps.size:=by rw [h.size];simpa [Nat.blt_eq]using hd
 refine⟨h.defers,by simp [Act.put,h.size],fun i=>?_⟩;simp only [Act.put,a7];rw [iN,sX]
 by_cases e1:d=i
 ·subst e1;simp [ou]
 ·have e2:Nat.beq i d=false:=by
   cases hb:Nat.beq i d with
   | false=>rfl
   | true=>exact absurd (oL hb).symm e1
  rw [ag e1,e2,←iN,h.get]
  rfl
abbrev jm:=Exit→Env→World→Prop
def low(N:Nat)(Q:jm):Exit→Act→World→Prop:=fun x a w=>∃e,jE N a e∧Q x e w
structure Cd(P:Program)(N:Nat)(c:Code)(Q:jm)(e:Env)(w:World):Prop where
 mk'::
 run:∀a,jE N a e→c.wp P (low N Q) a w
structure aa(P:Program)(N:Nat)(ops:Array Oper)(K:Env→World→Prop)(l:List Oper)(e:Env)(w:World):Prop where
 mk'::
 run:∀a,jE N a e→wpList P ops (fun x a w=>x= .normal∧∃e,jE N a e∧K e w) l a w
section
variable{x y:Code}{id:Nat}
variable {P:Program} {N:Nat} {Q:jm} {e:Env} {w:World}
def AH(K:Env→World→Prop)(Q:jm):jm
 | .normal,e,w=>K e w
 | x,e,w=>Q x e w
def ID(id:Nat)(Q:jm):jm
 | .exit Lx,e,w=>if Lx=id then Q .normal e w else Q (.exit Lx) e w
 | x,e,w=>Q x e w
theorem Cd.mono{c:Code}{Q':jm}(hq:∀x e w,Q x e w→Q' x e w)(h:Cd P N c Q e w):Cd P N c Q' e w:=
 .mk' fun a ha=>wp_mono (h.run a ha) fun _ _ _ ⟨e,he,q⟩=> ⟨e,he,hq _ _ _ q⟩
theorem Cd.seq(h:Cd P N x (AH (Cd P N y Q) Q) e w):Cd P N (.seq x y) Q e w:= .mk' fun a ha=>
 wp_seq (wp_mono (h.run a ha) fun ex a' w' ⟨e',tD,q⟩=>by
  cases ex<;>first | exact q.run a' tD | exact⟨e',tD,q⟩)
theorem Cd.skip(h:Q .normal e w):Cd P N .skip Q e w:= .mk' fun a ha=>wp_skip ⟨e,ha,h⟩
theorem Cd.ret(h:Q .ret e w):Cd P N .ret Q e w:= .mk' fun a ha=>wp_ret ⟨e,ha,h⟩
theorem Cd.exit(h:Q (.exit id) e w):Cd P N (.exit id) Q e w:= .mk' fun a ha=>wp_exit ⟨e,ha,h⟩
theorem Cd.block{c:Code}(h:Cd P N c (ID id Q) e w):Cd P N (.block id c) Q e w:= .mk' fun a ha=>
 wp_block (wp_mono (h.run a ha) fun ex a' w' ⟨e',tD,q⟩=>by
  cases ex<;>first
   | exact⟨e',tD,q⟩
   | (
    rename_i Lx;simp only [ID]at q;simp only [Exit.inBlock]
    split
    ·rename_i hid;rw [aj hid]at q;exact⟨e',tD,q⟩
    ·rename_i hid;rw [ag hid]at q;exact⟨e',tD,q⟩))
theorem Cd.cond{c:Operand}{t:Bool}(hc:ev e c= .bool t)(h1:t=true→Cd P N x Q e w)(h2:t=false→Cd P N y Q e w):Cd P N (.cond c x y) Q e w:= .mk' fun a ha=>
 wp_cond_split (t:=t) (by rw [ha.eval,hc]) (fun h=> (h1 h).run a ha) (fun h=> (h2 h).run a ha)
theorem Cd.gj{c:Operand}(hc:ev e c= .bool true)(h1:Cd P N x Q e w):Cd P N (.cond c x y) Q e w:= .cond hc (fun _=>h1) (fun h=>by cases h)
theorem Cd.eV{c:Operand}(hc:ev e c= .bool false)(h1:Cd P N y Q e w):Cd P N (.cond c x y) Q e w:= .cond hc (fun h=>by cases h) (fun _=>h1)
theorem aB{c:Operand}(p:Prop)[Decidable p](hc:ev e c= .bool (decide p))(h1:p→Cd P N x Q e w)(h2:¬p→Cd P N y Q e w):Cd P N (.cond c x y) Q e w:=
 .cond hc (fun h=>h1 (sP h)) (fun h=>h2 (of_decide_eq_false h))
theorem Cd.region{l:List Oper}(h:aa P N l.toArray (fun e w=>Q .normal e w) l e w):Cd P N (.region id l.toArray false) Q e w:= .mk' fun a ha=>
 wp_mono (wp_region_lit (h.run a ha)) fun _ _ _ ⟨hx,e',tD,q⟩=> ⟨e',tD,by rw [hx];exact q⟩
def Mt(e:Env):List (Nat×Value)→Prop
 | []=>True
 | (i,v)::r=>e i=v∧Mt e r
def ext(e:Env):List (Nat×Value)→Env
 | []=>e
 | (i,v)::r=>a7 (ext e r) i v
theorem x4:∀ {l:List (Nat×Value)} {e:Env},Mt e l→ext e l=e
 | [],_,_=>rfl
 | (i,v)::r,e,h=>by
  show a7 (ext e r) i v=e;rw [x4 h.2];funext j;unfold a7;cases hb:Nat.beq j i with
  | false=>rfl
  | true=>rw [oL hb,h.1];rfl
theorem Cd.loop{α:Type}{c:Code}(F:α→List (Nat×Value))(I:α→World→Prop)(m:α→Nat)(s0:α)(hF:Mt e (F s0))(hI:I s0 w)
 (round:∀s e w,I s w→Cd P N c (AH (fun e' w'=>∃s',m s'<m s∧Mt e' (F s')∧I s' w') Q) (ext e (F s)) w):Cd P N (.loop c) Q e w:=by
 have key:∀n s e w,m s=n→Mt e (F s)→I s w→∀a,jE N a e→(Code.loop c).wp P (low N Q) a w:=by
  intro n0 s e w hn hm JP a ha
  let J:Act→World→Prop:=fun a w=>∃s e,jE N a e∧Mt e (F s)∧I s w
  refine wp_loop_ghost (I:=fun n a w=>∃s e,m s=n∧jE N a e∧Mt e (F s)∧I s w) n0 ⟨s,e,hn,ha,hm,JP⟩ ?_;intro n a w ⟨s,e,hn,ha,hm,hI⟩;have h1:=round s e w hI;rw [x4 hm]at h1;refine wp_mono (h1.run a ha) fun ex a' w' ⟨e',tD,q⟩=>?_
  cases ex<;>first
   | exact⟨e',tD,q⟩
   | (
    obtain⟨s',fY,ku,JP⟩:=q;exact⟨m s',by omega,s',e',O,tD,ku,JP⟩)
 exact .mk' fun a ha=>key _ s0 e w O hF hI a ha
end
class bB(P:Program)(t:TypeId)(d:outParam TypeDesc):Type where
 out:P.underlying t=some d
class bp(P:Program)(t:TypeId)(z:outParam Value)(size bytes:outParam Nat):Prop where
 out:(P.info? t).map (fun i=> (i.zero,i.size,i.bytes))=some (some z,size,bytes)
class bo(P:Program)(F:FuncId):Prop where
 out : ∃ fn, P.funcs[F]? = some fn ∧ (fn.name == "runtime.NumGoroutine") = false ∧ fn.body.isNone = false
theorem bp.get(P:Program)(t:TypeId){z:Value}{s b:Nat}[h:bp P t z s b]:∃i,P.info? t=some i∧i.zero=some z∧i.size=s∧i.bytes=b:=by
 obtain⟨i,hi,he⟩:=Option.map_eq_some_iff.1 h.out;simp only [Prod.mk.injEq]at he;exact⟨i,hi,he.1,he.2.1,he.2.2⟩
section
variable{j dj:Nat}{b want:Bool}{x:Operand}
variable {P:Program} {N:Nat} {ops:Array Oper} {K:Env→World→Prop} {rest:List Oper} {e:Env} {w w':World} {d:Nat} {ty:TypeId} {pos:String} {af:Array Edge}
theorem aa.n(h:K e w):aa P N ops K [] e w:= .mk' fun a ha=>wpList_nil ⟨rfl,e,ha,h⟩
theorem aa.val{op:Op}{v:Value}(hr:(execOp (ev e) ⟨some d,op,ty,pos,af,none⟩).run P w= .ok (.value v) w')(hb:Nat.blt d N=true)(hK:aa P N ops K rest (a7 e d v) w'):
 aa P N ops K (⟨some d,op,ty,pos,af,none⟩::rest) e w:= .mk' fun a ha=>by
 refine wpList_plain O fun J hJ=>?_
 unfold Oper.wp;rw [ha.eval,hr];exact hJ _ _ (hK.run _ (ha.put hb v))
theorem aa.unit{op:Op}(hr:(execOp (ev e) ⟨none,op,ty,pos,af,none⟩).run P w= .ok .skip w')(hK:aa P N ops K rest e w'):
 aa P N ops K (⟨none,op,ty,pos,af,none⟩::rest) e w:= .mk' fun a ha=>by
 refine wpList_plain O fun J hJ=>?_
 unfold Oper.wp;rw [ha.eval,hr];exact hJ _ _ (hK.run _ ha)
theorem aa.agM{op:Op}{v:Value}(hr:(execOp (ev e) ⟨none,op,ty,pos,af,none⟩).run P w= .ok (.value v) w')(hK:aa P N ops K rest e w'):
 aa P N ops K (⟨none,op,ty,pos,af,none⟩::rest) e w:= .mk' fun a ha=>by
 refine wpList_plain O fun J hJ=>?_
 unfold Oper.wp;rw [ha.eval,hr];exact hJ _ _ (hK.run _ ha)
theorem UW{a:Act}(ha:jE N a e)(hj:(ops[j]?).bind (·.dst)=some dj)(fY:Nat.blt dj N=true)(hv:e dj= .bool b):yielded ops a.tmps j=some b:=by
 have h1:dj<a.tmps.size:=by rw [ha.size];simpa [Nat.blt_eq]using fY
 have h2:=ha.get dj;rw [iN,qL h1,Option.getD_some,hv]at h2;simp [yielded,hj,qL h1,h2]
theorem aa.g{o:Option Tmp}{op:Op}(hj:(ops[j]?).bind (·.dst)=some dj)(fY:Nat.blt dj N=true)(hv:e dj= .bool want)(hK:aa P N ops K (⟨o,op,ty,pos,af,none⟩::rest) e w):aa P N ops K (⟨o,op,ty,pos,af,some (j,want)⟩::rest) e w:= .mk' fun a ha=>by
 have h:=hK.run a ha;have hy:=UW (ops:=ops) ha hj fY hv;have hw:Region.wanted (⟨o,op,ty,pos,af,some (j,want)⟩:Oper) (yielded ops a.tmps)=true:=by
  simp [Region.wanted,hy]
 unfold wpList at h⊢;rw [aj hw];rw [aj (show Region.wanted (⟨o,op,ty,pos,af,none⟩:Oper) (yielded ops a.tmps)=true from rfl)]at h;exact h
theorem ai{op:Op}(hj:(ops[j]?).bind (·.dst)=some dj)(fY:Nat.blt dj N=true)(hv:e dj= .bool b)(bt:(b==want)=false)(hb:Nat.blt d N=true)(hK:aa P N ops K rest (a7 e d undef) w):aa P N ops K (⟨some d,op,ty,pos,af,some (j,want)⟩::rest) e w:= .mk' fun a ha=>by
 have hy:=UW (ops:=ops) ha hj fY hv;refine wpList_skip ?_ (hK.run _ (ha.put hb undef));simp only [Region.wanted];rw [hy];simpa using bt
theorem bM{op:Op}(hj:(ops[j]?).bind (·.dst)=some dj)(fY:Nat.blt dj N=true)(hv:e dj=undef)(hb:Nat.blt d N=true)(hK:aa P N ops K rest (a7 e d undef) w):aa P N ops K (⟨some d,op,ty,pos,af,some (j,want)⟩::rest) e w:= .mk' fun a ha=>by
 refine wpList_skip ?_ (hK.run _ (ha.put hb undef));have h1:dj<a.tmps.size:=by rw [ha.size];simpa [Nat.blt_eq]using fY
 have h2:=ha.get dj;rw [iN,qL h1,Option.getD_some,hv]at h2;simp [Region.wanted,yielded,hj,qL h1,h2,undef]
theorem UO{e:Env}{d:Nat}{v:Value}(h:e d=v):a7 e d v=e:=by
 funext j;unfold a7;cases hb:Nat.beq j d with
 | false=>rfl
 | true=>rw [oL hb,h];rfl
theorem aa.split{l:List Oper}(d:Nat)(hv:e d= .bool b)(h1:b=true→aa P N ops K l (a7 e d (.bool true)) w)(h2:b=false→aa P N ops K l (a7 e d (.bool false)) w):aa P N ops K l e w:=by
 cases b
 ·have:=h2 O;rwa [UO hv]at this
 have:=h1 O;rwa [UO hv]at this
theorem bY{l:List Oper}(d:Nat){p:Prop}[Decidable p](hv:e d= .bool (decide p))(h1:p→aa P N ops K l (a7 e d (.bool true)) w)(h2:¬p→aa P N ops K l (a7 e d (.bool false)) w):aa P N ops K l e w:=
 .split d hv (fun h=>h1 (sP h)) (fun h=>h2 (of_decide_eq_false h))
def z8:Op→Option Operand
 | .move x=>some x
 | .assign x=>some x
 | _=>none
theorem afV{op:Op}(h:z8 op=some x):(execOp (ev e) ⟨some d,op,ty,pos,af,none⟩).run P w= .ok (.value (ev e x)) w:=by
 cases op<;>simp [z8]at h<;>subst h<;>rfl
theorem aa.mv{op:Op}{v:Value}(ry:z8 op=some x)(hx:ev e x=v)(hb:Nat.blt d N=true)(hK:aa P N ops K rest (a7 e d v) w):aa P N ops K (⟨some d,op,ty,pos,af,none⟩::rest) e w:=
 .val (by rw [afV ry,hx]) hb hK
theorem pI{op:Op}{k:IntKind}{i:Int}(ry:z8 op=some x)(hx:ev e x= .int k i)(hb:Nat.blt d N=true)(hK:aa P N ops K rest (a7 e d (.int k i)) w):aa P N ops K (⟨some d,op,ty,pos,af,none⟩::rest) e w:= .mv ry hx hb hK
theorem oO{op:Op}{A:aiC}{n c:Nat}(ry:z8 op=some x)(hx:ev e x= .slice A n c)(hb:Nat.blt d N=true)(hK:aa P N ops K rest (a7 e d (.slice A n c)) w):aa P N ops K (⟨some d,op,ty,pos,af,none⟩::rest) e w:= .mv ry hx hb hK
theorem y8{op:Op}{p:aiC}(ry:z8 op=some x)(hx:ev e x= .pointer p)(hb:Nat.blt d N=true)(hK:aa P N ops K rest (a7 e d (.pointer p)) w):aa P N ops K (⟨some d,op,ty,pos,af,none⟩::rest) e w:= .mv ry hx hb hK
theorem Nl{op:Op}{cs:Array Value}(ry:z8 op=some x)(hx:ev e x= .tuple cs)(hb:Nat.blt d N=true)(hK:aa P N ops K rest (a7 e d (.tuple cs)) w):aa P N ops K (⟨some d,op,ty,pos,af,none⟩::rest) e w:= .mv ry hx hb hK
section
variable{b:Bool}
variable {x y:Operand} {xt yt:TypeId} {i j:Int}
theorem aa.add(hx:ev e x=aiD i)(hy:ev e y=aiD j)(hb:Nat.blt d N=true)(hr: -9223372036854775808≤i+j∧i+j≤9223372036854775807)(hK:aa P N ops K rest (a7 e d (aiD (i+j))) w):
 aa P N ops K (⟨some d,.binOp .add xt x y yt,ty,pos,af,none⟩::rest) e w:=
 .val (by simp [execOp,hx,hy,eqGuard,binOp,Op.intArith,IntWalk.i64_in _ hr]) hb hK
theorem aa.sub(hx:ev e x=aiD i)(hy:ev e y=aiD j)(hb:Nat.blt d N=true)(hr: -9223372036854775808≤i - j∧i - j≤9223372036854775807)(hK:aa P N ops K rest (a7 e d (aiD (i - j))) w):
 aa P N ops K (⟨some d,.binOp .sub xt x y yt,ty,pos,af,none⟩::rest) e w:=
 .val (by simp [execOp,hx,hy,eqGuard,binOp,Op.intArith,IntWalk.i64_in _ hr]) hb hK
theorem aa.mul(hx:ev e x=aiD i)(hy:ev e y=aiD j)(hb:Nat.blt d N=true)(hr: -9223372036854775808≤i*j∧i*j≤9223372036854775807)(hK:aa P N ops K rest (a7 e d (aiD (i*j))) w):
 aa P N ops K (⟨some d,.binOp .mul xt x y yt,ty,pos,af,none⟩::rest) e w:=
 .val (by simp [execOp,hx,hy,eqGuard,binOp,Op.intArith,IntWalk.i64_in _ hr]) hb hK
theorem aa.quo(hx:ev e x=aiD i)(hy:ev e y=aiD j)(hb:Nat.blt d N=true)(hr:0≤i∧i≤9223372036854775807∧1≤j)(hK:aa P N ops K rest (a7 e d (aiD (i / j))) w):
 aa P N ops K (⟨some d,.binOp .quo xt x y yt,ty,pos,af,none⟩::rest) e w:=
 .val (by simp [execOp,hx,hy,eqGuard,binOp,Op.intDiv,IntWalk.i64_quo _ _ hr,show j≠0 by omega]) hb hK
theorem aa.rem(hx:ev e x=aiD i)(hy:ev e y=aiD j)(hb:Nat.blt d N=true)(hr:0≤i∧1≤j)(hK:aa P N ops K rest (a7 e d (aiD (i%j))) w):
 aa P N ops K (⟨some d,.binOp .rem xt x y yt,ty,pos,af,none⟩::rest) e w:=
 .val (by simp [execOp,hx,hy,eqGuard,binOp,Op.intDiv,Int.tmod_eq_emod_of_nonneg hr.1,show j≠0 by omega]) hb hK
theorem aa.lss{k:IntKind}(hx:ev e x= .int k i)(hy:ev e y= .int k j)(hb:Nat.blt d N=true)(hK:aa P N ops K rest (a7 e d (.bool (decide (i<j)))) w):
 aa P N ops K (⟨some d,.binOp .lss xt x y yt,ty,pos,af,none⟩::rest) e w:= .val (by simp [execOp,hx,hy,eqGuard,binOp,Op.intCmp]) hb hK
theorem aa.leq{k:IntKind}(hx:ev e x= .int k i)(hy:ev e y= .int k j)(hb:Nat.blt d N=true)(hK:aa P N ops K rest (a7 e d (.bool (decide (i≤j)))) w):
 aa P N ops K (⟨some d,.binOp .leq xt x y yt,ty,pos,af,none⟩::rest) e w:= .val (by simp [execOp,hx,hy,eqGuard,binOp,Op.intCmp]) hb hK
theorem aa.gtr{k:IntKind}(hx:ev e x= .int k i)(hy:ev e y= .int k j)(hb:Nat.blt d N=true)(hK:aa P N ops K rest (a7 e d (.bool (decide (j<i)))) w):
 aa P N ops K (⟨some d,.binOp .gtr xt x y yt,ty,pos,af,none⟩::rest) e w:= .val (by simp [execOp,hx,hy,eqGuard,binOp,Op.intCmp]) hb hK
theorem aa.geq{k:IntKind}(hx:ev e x= .int k i)(hy:ev e y= .int k j)(hb:Nat.blt d N=true)(hK:aa P N ops K rest (a7 e d (.bool (decide (j≤i)))) w):
 aa P N ops K (⟨some d,.binOp .geq xt x y yt,ty,pos,af,none⟩::rest) e w:= .val (by simp [execOp,hx,hy,eqGuard,binOp,Op.intCmp]) hb hK
theorem WB(i j:Int):(i==j)=decide (i=j):=by by_cases h:i=j<;>simp [h]
theorem WL(i j:Int):(i !=j)=decide (¬i=j):=by by_cases h:i=j<;>simp [h]
theorem aa.eql{k:IntKind}(hx:ev e x= .int k i)(hy:ev e y= .int k j)(hb:Nat.blt d N=true)(hK:aa P N ops K rest (a7 e d (.bool (decide (i=j)))) w):
 aa P N ops K (⟨some d,.binOp .eql xt x y yt,ty,pos,af,none⟩::rest) e w:= .val (by rw [←WB];simp [execOp,hx,hy,eqGuard,binOp,Op.intCmp]) hb hK
theorem aa.neq{k:IntKind}(hx:ev e x= .int k i)(hy:ev e y= .int k j)(hb:Nat.blt d N=true)(hK:aa P N ops K rest (a7 e d (.bool (decide (¬i=j)))) w):
 aa P N ops K (⟨some d,.binOp .neq xt x y yt,ty,pos,af,none⟩::rest) e w:= .val (by rw [←WL];simp [execOp,hx,hy,eqGuard,binOp,Op.intCmp]) hb hK
theorem aa.not(hx:ev e x= .bool b)(hb:Nat.blt d N=true)(hK:aa P N ops K rest (a7 e d (.bool (!b))) w):
 aa P N ops K (⟨some d,.unOp .not xt x,ty,pos,af,none⟩::rest) e w:= .val (by simp [execOp,hx,Op.unary]) hb hK
theorem eC{p:Prop}[Decidable p](hx:ev e x= .bool (decide p))(hb:Nat.blt d N=true)(hK:aa P N ops K rest (a7 e d (.bool (decide ¬p))) w):
 aa P N ops K (⟨some d,.unOp .not xt x,ty,pos,af,none⟩::rest) e w:= .val (by simp [execOp,hx,Op.unary]) hb hK
theorem aa.aeI{c:Operand}(hc:ev e c= .bool true)(hx:ev e x= .bool b)(hb:Nat.blt d N=true)(hK:aa P N ops K rest (a7 e d (.bool b)) w):
 aa P N ops K (⟨some d,.pick c x y,ty,pos,af,none⟩::rest) e w:= .val (by simp [execOp,hc,hx,asBool]) hb hK
theorem aa.aeH{c:Operand}(hc:ev e c= .bool false)(hx:ev e y= .bool b)(hb:Nat.blt d N=true)(hK:aa P N ops K rest (a7 e d (.bool b)) w):
 aa P N ops K (⟨some d,.pick c x y,ty,pos,af,none⟩::rest) e w:= .val (by simp [execOp,hc,hx,asBool]) hb hK
end
theorem aa.extract{x:Operand}{vs:Array Value}{ix:Nat}{v:Value}(hx:ev e x= .tuple vs)(hv:vs[ix]?=some v)(hb:Nat.blt d N=true)(hK:aa P N ops K rest (a7 e d v) w):
 aa P N ops K (⟨some d,.extract x ix,ty,pos,af,none⟩::rest) e w:= .val (by simp [execOp,hx,Instr.extract,hv]) hb hK
theorem aa.len{x:Operand}{t el:TypeId}{A:aiC}{n c:Nat}[bB P t (.slice el)](hx:ev e x= .slice A n c)(hb:Nat.blt d N=true)(hK:aa P N ops K rest (a7 e d (aiD (n:Int))) w):
 aa P N ops K (⟨some d,.call ⟨.builtin .len, #[x], #[t]⟩,ty,pos,af,none⟩::rest) e w:=
 .val (by simp [execOp,resolve,invoke,builtin,Builtin.len_,hx,run_underlying (bB.out (P:=P) (t:=t)),goInt]) hb hK
theorem aa.aeb{x:Operand}{a:Addr}(hx:ev e x= .pointer (some a))(hb:Nat.blt d N=true)(hK:aa P N ops K rest (a7 e d (.pointer (some a))) w):
 aa P N ops K (⟨some d,.nilCheck x,ty,pos,af,none⟩::rest) e w:= .val (by simp [execOp,hx]) hb hK
def aA(P:Program)(F:FuncId)(vs:List Value)(w:World)(R:Value→World→Prop):Prop:=Calls P F vs.toArray w fun x w'=>∃v,x= .returned v∧R v w'
theorem aA.mono{F:FuncId}{vs:List Value}{R R':Value→World→Prop}(h:aA P F vs w R)(hR:∀v w',R v w'→R' v w'):aA P F vs w R':=
 Calls.mono h fun _ _ ⟨v,he,hv⟩=> ⟨v,he,hR _ _ hv⟩
theorem aa.call{f:Operand}{F:FuncId}{c2:Array Value}{l:List Operand}{vs:List Value}{R:Value→World→Prop}{NJ:Array TypeId}[hF:bo P F](hC:aA P F vs w R)(hf:ev e f= .func (.func F) #[] c2)(hv:l.map (ev e)++c2.toList=vs)(hb:Nat.blt d N=true)(hK:∀v w',R v w'→aa P N ops K rest (a7 e d v) w'):aa P N ops K (⟨some d,.call ⟨.value f,l.toArray,NJ⟩,ty,pos,af,none⟩::rest) e w:= .mk' fun a ha=>by
 obtain⟨fn,h1,h2,h3⟩:=hF.out;have uM:(execOp (ev e) ⟨some d,.call ⟨.value f,l.toArray,NJ⟩,ty,pos,af,none⟩).run P w= .ok (.enter F vs.toArray) w:=by
  have h4:(l.toArray.map (ev e)++c2)=vs.toArray:=by
   rw [←hv];simp
  have h5 : ¬ fn.name = "runtime.NumGoroutine" := by simpa using h2
  have h6:¬fn.body=none:=by intro h;rw [h]at h3;cases h3
  simp [execOp,resolve,hf,Deferred.ofValue,invoke,callFunc,h1,h5,h6];exact hv
 refine wpList_plain O fun J hJ=>?_
 unfold Oper.wp;rw [ha.eval,uM];refine Calls.mono hC fun x w' ⟨v,hx,hR⟩=>?_
 subst hx;exact hJ _ _ ((hK v w' hR).run _ (ha.put hb v))
theorem tQ{K:Env→World→Prop}{Q:jm}(h:K e w):AH K Q .normal e w:=h
theorem eZ{K:Env→World→Prop}{Q:jm}(h:Q .ret e w):AH K Q .ret e w:=h
theorem aZ{K:Env→World→Prop}{Q:jm}{id:Nat}(h:Q (.exit id) e w):AH K Q (.exit id) e w:=h
def Ix(vs:List Value):Env:=fun i=>vs.getD i undef
def Mo(R:Value→World→Prop):jm
 | .normal,_,w=>R (.tuple #[]) w
 | .ret,_,w=>R (.tuple #[]) w
 | _,_,_=>False
def E4(t:Nat)(R:Value→World→Prop):jm
 | .normal,e,w=>R (e t) w
 | .ret,e,w=>R (e t) w
 | _,_,_=>False
def CT(t u:Nat)(R:Value→World→Prop):jm
 | .normal,e,w=>R (.tuple #[e t,e u]) w
 | .ret,e,w=>R (.tuple #[e t,e u]) w
 | _,_,_=>False
theorem afz(vs:List Value)(n:Nat)(h:Nat.ble vs.length n=true):jE n ⟨vs.toArray++Array.replicate (n - vs.toArray.size) undef,[]⟩ (Ix vs):=by
 have h':vs.length≤n:=by simpa using h
 refine⟨O,by simp;omega,fun i=>?_⟩;simp only [Ix];rw [iN,cJ,Array.getElem?_append]
 split
 ·simp
 rename_i hi;simp at hi;rw [oH hi,Array.getElem?_replicate]
 split<;>rfl
theorem cM{R:Value→World→Prop}{t:Nat}{b:Bool}(h:e t= .bool b)(hR:R (.bool b) w):E4 t R .ret e w:=by show R (e t) w;rw [h];exact hR
theorem gP{R:Value→World→Prop}{t:Nat}{k:IntKind}{i:Int}(h:e t= .int k i)(hR:R (.int k i) w):E4 t R .ret e w:=by show R (e t) w;rw [h];exact hR
theorem gB{R:Value→World→Prop}{t:Nat}{A:aiC}{n c:Nat}(h:e t= .slice A n c)(hR:R (.slice A n c) w):E4 t R .ret e w:=by show R (e t) w;rw [h];exact hR
theorem HM{R:Value→World→Prop}{t:Nat}{v:Value}(h:e t=v)(hR:R v w):E4 t R .ret e w:=by show R (e t) w;rw [h];exact hR
theorem Mp{R:Value→World→Prop}(hR:R (.tuple #[]) w):Mo R .ret e w:=hR
theorem xo{R:Value→World→Prop}(hR:R (.tuple #[]) w):Mo R .normal e w:=hR
theorem Aq{R:Value→World→Prop}{t u:Nat}{A:aiC}{n c:Nat}{k:IntKind}{i:Int}(h:e t= .slice A n c)(h2:e u= .int k i)(hR:R (.tuple #[.slice A n c,.int k i]) w):CT t u R .ret e w:=by show R (.tuple #[e t,e u]) w;rw [h,h2];exact hR
theorem HN{R:Value→World→Prop}{t u:Nat}{k':IntKind}{j:Int}{k:IntKind}{i:Int}(h:e t= .int k' j)(h2:e u= .int k i)(hR:R (.tuple #[.int k' j,.int k i]) w):CT t u R .ret e w:=by show R (.tuple #[e t,e u]) w;rw [h,h2];exact hR
theorem yQ{R:Value→World→Prop}{t u:Nat}{b:Bool}{k:IntKind}{i:Int}(h:e t= .bool b)(h2:e u= .int k i)(hR:R (.tuple #[.bool b,.int k i]) w):CT t u R .ret e w:=by show R (.tuple #[e t,e u]) w;rw [h,h2];exact hR
theorem afB{R:Value→World→Prop}{t u:Nat}{A:aiC}{n c:Nat}{b:Bool}(h:e t= .slice A n c)(h2:e u= .bool b)(hR:R (.tuple #[.slice A n c,.bool b]) w):CT t u R .ret e w:=by show R (.tuple #[e t,e u]) w;rw [h,h2];exact hR
theorem bk{F:FuncId}{fn:Func}{c:Code}{vs:List Value}{R:Value→World→Prop}{Q:jm}(hf:P.funcs[F]?=some fn)(hc:fn.body=some c)(hn:fn.ntmps=N)(hl:Nat.ble vs.length N=true)(hQ:∀x a e w,jE N a e→Q x e w→bodyPost P fn (fun x w'=>∃v,x= .returned v∧R v w') x a w)(h:Cd P N c Q (Ix vs) w):aA P F vs w R:=by
 subst hn;refine calls_of_wp hf hc ?_;exact wp_mono (h.run _ (afz vs _ hl)) fun x a w ⟨e,he,q⟩=>hQ x a e w he q
theorem Al{fn:Func}{R:Value→World→Prop}(hr:fn.results= #[]):∀x a e w,jE N a e→Mo R x e w→bodyPost P fn (fun x w'=>∃v,x= .returned v∧R v w') x a w:=by
 intro x a e w he q;cases x<;>first
  | exact q.elim
  | exact⟨he.defers,_,results_none hr _ _ _,_,rfl,q⟩
theorem cK{fn:Func}{R:Value→World→Prop}{t:Nat}(hr:fn.results= #[.tmp t]):∀x a e w,jE N a e→E4 t R x e w→bodyPost P fn (fun x w'=>∃v,x= .returned v∧R v w') x a w:=by
 intro x a e w he q;have hg:=he.get t;cases x<;>first
  | exact q.elim
  | exact⟨he.defers,_,results_tmp hr _ _ _,_,rfl,by rw [hg];exact q⟩
theorem sQ{fn:Func}{R:Value→World→Prop}{t u:Nat}(hr:fn.results= #[.tmp t,.tmp u]):∀x a e w,jE N a e→CT t u R x e w→bodyPost P fn (fun x w'=>∃v,x= .returned v∧R v w') x a w:=by
 intro x a e w he q;have hg:=he.get t;have hh:=he.get u;cases x<;>first
  | exact q.elim
  | exact⟨he.defers,_,results_tmp2 hr _ _ _,_,rfl,by rw [hg,hh];exact q⟩
end
def hd:Value→Option Value
 | .int k n=>some (.int k n)
 | .slice a n c=>some (.slice a n c)
 | .bool b=>some (.bool b)
 | .pointer a=>some (.pointer a)
 | .agg cs=>some (.agg cs)
 | .func f a b=>some (.func f a b)
 | .tuple cs=>some (.tuple cs)
 | .string s=>some (.string s)
 | .map r=>some (.map r)
 | _=>none
theorem Ko{v u:Value}(h:hd v=some u):v=u:=by cases v<;>simp [hd]at h<;>exact h
def LR(e:Env)(x y:Operand):Option Value:=
 match ev e x,ev e y with
 | .int .i64 a,.int .i64 b=>some (.bool (decide (a<b)))
 | _,_=>none
theorem adu{e:Env}{x y:Operand}{v:Value}(h:LR e x y=some v):∃a b,ev e x=aiD a∧ev e y=aiD b∧v= .bool (decide (a<b)):=by
 unfold LR at h
 split at h
 ·rename_i a b h1 h2;exact⟨a,b,h1,h2,(cO h).symm⟩
 cases h
def LN(e:Env)(x y:Operand):Option Value:=
 match ev e x,ev e y with
 | .int .i64 a,.int .i64 b=>some (.bool (decide (a≤b)))
 | _,_=>none
theorem adl{e:Env}{x y:Operand}{v:Value}(h:LN e x y=some v):∃a b,ev e x=aiD a∧ev e y=aiD b∧v= .bool (decide (a≤b)):=by
 unfold LN at h
 split at h
 ·rename_i a b h1 h2;exact⟨a,b,h1,h2,(cO h).symm⟩
 cases h
def Jv(e:Env)(x y:Operand):Option Value:=
 match ev e x,ev e y with
 | .int .i64 a,.int .i64 b=>some (.bool (decide (b<a)))
 | _,_=>none
theorem YU{e:Env}{x y:Operand}{v:Value}(h:Jv e x y=some v):∃a b,ev e x=aiD a∧ev e y=aiD b∧v= .bool (decide (b<a)):=by
 unfold Jv at h
 split at h
 ·rename_i a b h1 h2;exact⟨a,b,h1,h2,(cO h).symm⟩
 cases h
def Jj(e:Env)(x y:Operand):Option Value:=
 match ev e x,ev e y with
 | .int .i64 a,.int .i64 b=>some (.bool (decide (b≤a)))
 | _,_=>none
theorem YE{e:Env}{x y:Operand}{v:Value}(h:Jj e x y=some v):∃a b,ev e x=aiD a∧ev e y=aiD b∧v= .bool (decide (b≤a)):=by
 unfold Jj at h
 split at h
 ·rename_i a b h1 h2;exact⟨a,b,h1,h2,(cO h).symm⟩
 cases h
def I3(e:Env)(x y:Operand):Option Value:=
 match ev e x,ev e y with
 | .int .i64 a,.int .i64 b=>some (.bool (decide (a=b)))
 | _,_=>none
theorem XX{e:Env}{x y:Operand}{v:Value}(h:I3 e x y=some v):∃a b,ev e x=aiD a∧ev e y=aiD b∧v= .bool (decide (a=b)):=by
 unfold I3 at h
 split at h
 ·rename_i a b h1 h2;exact⟨a,b,h1,h2,(cO h).symm⟩
 cases h
def L7(e:Env)(x y:Operand):Option Value:=
 match ev e x,ev e y with
 | .int .i64 a,.int .i64 b=>some (.bool (decide (¬a=b)))
 | _,_=>none
theorem ad9{e:Env}{x y:Operand}{v:Value}(h:L7 e x y=some v):∃a b,ev e x=aiD a∧ev e y=aiD b∧v= .bool (decide (¬a=b)):=by
 unfold L7 at h
 split at h
 ·rename_i a b h1 h2;exact⟨a,b,h1,h2,(cO h).symm⟩
 cases h
def ME(e:Env):Op→Option Value
 | .move x=>hd (ev e x)
 | .assign x=>hd (ev e x)
 | .binOp .lss _ x y _=>LR e x y
 | .binOp .leq _ x y _=>LN e x y
 | .binOp .gtr _ x y _=>Jv e x y
 | .binOp .geq _ x y _=>Jj e x y
 | .binOp .eql _ x y _=>I3 e x y
 | .binOp .neq _ x y _=>L7 e x y
 | .extract x i=>match ev e x with
  | .tuple vs=> (match vs[i]? with
   | some v=>hd v
   | none=>none)
  | _=>none
 | .pick c x y=>match ev e c with
  | .bool true=> (match ev e x with
   | .bool b=>some (.bool b)
   | _=>none)
  | .bool false=> (match ev e y with
   | .bool b=>some (.bool b)
   | _=>none)
  | _=>none
 | _=>none
def sS(N:Nat)(e:Env)(o:Oper):Option (Nat×Value):=
 match o.guard,o.dst with
 | none,some d=> (match Nat.blt d N with
  | true=> (match ME e o.op with
   | some v=>some (d,v)
   | none=>none)
  | false=>none)
 | _,_=>none
def Bh(N:Nat):List Oper→Env→List Oper×Env
 | [],e=> ([],e)
 | o::l,e=>match sS N e o with
  | some (d,v)=>Bh N l (a7 e d v)
  | none=> (o::l,e)
section
variable {P:Program} {N:Nat} {ops:Array Oper} {K:Env→World→Prop} {e:Env} {w:World}
theorem aa.sS{o:Oper}{l:List Oper}{d:Nat}{v:Value}(h:sS N e o=some (d,v))(hK:aa P N ops K l (a7 e d v) w):aa P N ops K (o::l) e w:=by
 obtain⟨dst,op,ty,pos,af,gd⟩:=o;unfold Vc.sS at h
 split at h
 ·rename_i d' hg ou;simp only at hg ou;subst hg ou
  split at h
  ·rename_i hb
   split at h
   ·rename_i v' hv;simp only [pj,Prod.mk.injEq]at h;obtain⟨rfl,rfl⟩:=h;replace hv:ME e op=some v':=hv;unfold ME at hv
    split at hv
    ·exact .mv O (Ko hv) hb hK
    ·exact .mv O (Ko hv) hb hK
    ·obtain⟨a,b,h1,h2,rfl⟩:=adu hv;exact .lss h1 h2 hb hK
    ·obtain⟨a,b,h1,h2,rfl⟩:=adl hv;exact .leq h1 h2 hb hK
    ·obtain⟨a,b,h1,h2,rfl⟩:=YU hv;exact .gtr h1 h2 hb hK
    ·obtain⟨a,b,h1,h2,rfl⟩:=YE hv;exact .geq h1 h2 hb hK
    ·obtain⟨a,b,h1,h2,rfl⟩:=XX hv;exact .eql h1 h2 hb hK
    ·obtain⟨a,b,h1,h2,rfl⟩:=ad9 hv;exact .neq h1 h2 hb hK
    ·split at hv
     ·rename_i h1
      split at hv
      ·rename_i h2;exact .extract h1 (by rw [h2,Ko hv]) hb hK
      cases hv
     cases hv
    ·split at hv
     ·rename_i h1
      split at hv
      ·rename_i b h2;obtain rfl:=cO hv;exact .aeI h1 h2 hb hK
      cases hv
     ·rename_i h1
      split at hv
      ·rename_i b h2;obtain rfl:=cO hv;exact .aeH h1 h2 hb hK
      cases hv
     cases hv
    cases hv
   cases h
  cases h
 cases h
theorem Iq:∀ {l:List Oper} {e:Env},aa P N ops K (Bh N l e).1 (Bh N l e).2 w→aa P N ops K l e w
 | [],_,h=>h
 | o::l,e,h=>by
  unfold Bh at h
  split at h
  ·rename_i d v hs;exact .sS hs (Iq h)
  ·exact h
end
inductive Fr where
 | s (c:Code)
 | b (id:Nat)
def Qk(P:Program)(N:Nat)(Q:jm):List Fr→jm
 | []=>Q
 | .s y::r=>AH (Cd P N y (Qk P N Q r)) (Qk P N Q r)
 | .b id::r=>ID id (Qk P N Q r)
def CL:List Fr→Option (Code×List Fr)
 | []=>none
 | .s y::r=>some (y,r)
 | .b _::r=>CL r
def CM(id:Nat):List Fr→Option (List Fr)
 | []=>none
 | .s _::r=>CM id r
 | .b i::r=>match Nat.beq id i with
  | true=>some r
  | false=>CM id r
inductive Bf where
 | c (c:Code) (s:List Fr) (e:Env)
 | o (ops:Array Oper) (l:List Oper) (s:List Fr) (e:Env)
 | n (e:Env)
 | r (e:Env)
 | x (id:Nat) (e:Env)
def Bf.ok(P:Program)(N:Nat)(Q:jm)(w:World):Bf→Prop
 | .c y s e=>Cd P N y (Qk P N Q s) e w
 | .o ops l s e=>aa P N ops (fun e w=>Qk P N Q s .normal e w) l e w
 | .n e=>Q .normal e w
 | .r e=>Q .ret e w
 | .x id e=>Q (.exit id) e w
def run(N:Nat):Nat→Code→List Fr→Env→Bf
 | 0,c,s,e=> .c c s e
 | n+1,c,s,e=>match c with
  | .seq x y=>run N n x (.s y::s) e
  | .block id x=>run N n x (.b id::s) e
  | .region id ops dr=>match dr with
   | true=> .c (.region id ops true) s e
   | false=>match Bh N ops.toList e with
    | ([],e')=> (match CL s with
     | none=> .n e'
     | some (y,r)=>run N n y r e')
    | (o::l,e')=> .o ops (o::l) s e'
  | .skip=> (match CL s with
   | none=> .n e
   | some (y,r)=>run N n y r e)
  | .ret=> .r e
  | .exit id=> (match CM id s with
   | none=> .x id e
   | some s'=> (match CL s' with
    | none=> .n e
    | some (y,r)=>run N n y r e))
  | c=> .c c s e
def runN(N n:Nat)(s:List Fr)(e:Env):Bf:=match CL s with
 | none=> .n e
 | some (y,r)=>run N n y r e
def Ay(N n id:Nat)(s:List Fr)(e:Env):Bf:=match CM id s with
 | none=> .x id e
 | some s'=>runN N n s' e
def Aw(N n:Nat)(ops:Array Oper)(l:List Oper)(s:List Fr)(e:Env):Bf:=match Bh N l e with
 | ([],e')=>runN N n s e'
 | (o::l,e')=> .o ops (o::l) s e'
section
variable{i:Nat}{ops o1:Array Oper}{s1:List Fr}{l:List Oper}{c1:Code}
variable {P:Program} {N:Nat} {Q:jm} {e:Env} {w:World}
theorem E0:∀ {s:List Fr},(match CL s with | none=>Q .normal e w | some (y,r)=>Cd P N y (Qk P N Q r) e w)→Qk P N Q s .normal e w
 | [],h=>h
 | .s _::_,h=>h
 | .b _::r,h=>E0 (s:=r) h
theorem HH{id:Nat}:∀ {s:List Fr},(match CM id s with | none=>Q (.exit id) e w | some r=>Qk P N Q r .normal e w)→Qk P N Q s (.exit id) e w
 | [],h=>h
 | .s _::r,h=>HH (s:=r) h
 | .b i::r,h=>by
  unfold CM at h;show(if id=i then _ else _);cases hb:Nat.beq id i with
  | true=>rw [aj (oL hb)];rw [hb]at h;exact h
  | false=>
   rw [ag (fun e=>by rw [e,Nat.beq_refl]at hb;cases hb)];rw [hb]at h;exact HH (s:=r) h
theorem eE:∀ {s:List Fr},Q .ret e w→Qk P N Q s .ret e w
 | [],h=>h
 | .s _::r,h=>eE (s:=r) h
 | .b _::r,h=>eE (s:=r) h
theorem Cd.afy{id:Nat}{Q:jm}(h:aa P N ops (fun e w=>Q .normal e w) ops.toList e w):Cd P N (.region id ops false) Q e w:=by
 have:=Cd.region (P:=P) (N:=N) (Q:=Q) (id:=id) (l:=ops.toList) (e:=e) (w:=w) (by rw [Array.toArray_toList];exact h)
 rwa [Array.toArray_toList]at this
theorem qb:∀ {n:Nat} {c:Code} {s:List Fr} {e:Env},(run N n c s e).ok P N Q w→Cd P N c (Qk P N Q s) e w
 | 0,_,_,_,h=>h
 | n+1,c,s,e,h=>by
  unfold run at h
  split at h
  ·exact .seq (qb h)
  ·exact .block (qb h)
  ·split at h
   ·exact h
   ·refine .afy (Iq ?_)
    split at h
    ·rename_i he;rw [he];refine aa.n (E0 ?_)
     split at h
     ·exact h
     ·exact qb h
    ·rename_i he;rw [he];exact h
  ·refine .skip (E0 ?_)
   split at h
   ·exact h
   ·exact qb h
  ·exact .ret (eE h)
  ·refine .exit (HH ?_)
   split at h
   ·exact h
   ·refine E0 ?_
    split at h
    ·exact h
    ·exact qb h
  ·exact h
theorem Av{n:Nat}{s:List Fr}{e:Env}(h:(runN N n s e).ok P N Q w):Qk P N Q s .normal e w:=by
 unfold runN at h;refine E0 ?_
 split at h
 ·exact h
 exact qb h
theorem E7{n id:Nat}{s:List Fr}{e:Env}(h:(Ay N n id s e).ok P N Q w):Qk P N Q s (.exit id) e w:=by
 unfold Ay at h;refine HH ?_
 split at h
 ·exact h
 exact Av h
theorem E6{n:Nat}{s:List Fr}{e:Env}(h:(Aw N n ops l s e).ok P N Q w):aa P N ops (fun e w=>Qk P N Q s .normal e w) l e w:=by
 unfold Aw at h;refine Iq ?_
 split at h
 ·rename_i he;rw [he];exact aa.n (Av h)
 rename_i he;rw [he];exact h
theorem FD{s:List Fr}{F:List (Nat×Value)}(hM:Mt e F)(h:Qk P N Q s .normal (ext e F) w):Qk P N Q s .normal e w:=by rwa [x4 hM]at h
theorem bP{c:Code}{s:List Fr}{e1:Env}(h:run N 1000 c s e= .c c1 s1 e1)(k:Cd P N c1 (Qk P N Q s1) e1 w):Cd P N c (Qk P N Q s) e w:=qb (n:=1000) (by rw [h];exact k)
theorem av{c:Code}{s:List Fr}{l1:List Oper}{e1:Env}(h:run N 1000 c s e= .o o1 l1 s1 e1)(k:aa P N o1 (fun e w=>Qk P N Q s1 .normal e w) l1 e1 w):Cd P N c (Qk P N Q s) e w:=qb (n:=1000) (by rw [h];exact k)
theorem kD{c:Code}{s:List Fr}{e1:Env}(h:run N 1000 c s e= .n e1)(k:Q .normal e1 w):Cd P N c (Qk P N Q s) e w:=qb (n:=1000) (by rw [h];exact k)
theorem dN{c:Code}{s:List Fr}{e1:Env}(h:run N 1000 c s e= .r e1)(k:Q .ret e1 w):Cd P N c (Qk P N Q s) e w:=qb (n:=1000) (by rw [h];exact k)
theorem aY{c:Code}{s:List Fr}{i1:Nat}{e1:Env}(h:run N 1000 c s e= .x i1 e1)(k:Q (.exit i1) e1 w):Cd P N c (Qk P N Q s) e w:=qb (n:=1000) (by rw [h];exact k)
theorem C7(n:Nat){c:Code}{s:List Fr}{e1:Env}(h:run N n c s e= .c c1 s1 e1)(k:Cd P N c1 (Qk P N Q s1) e1 w):Cd P N c (Qk P N Q s) e w:=qb (n:=n) (by rw [h];exact k)
theorem bK{c:Code}{e1:Env}(h:run N 1000 c [] e= .c c1 s1 e1)(k:Cd P N c1 (Qk P N Q s1) e1 w):Cd P N c Q e w:=qb (s:=[]) (n:=1000) (by rw [h];exact k)
theorem aQ{c:Code}{l1:List Oper}{e1:Env}(h:run N 1000 c [] e= .o o1 l1 s1 e1)(k:aa P N o1 (fun e w=>Qk P N Q s1 .normal e w) l1 e1 w):Cd P N c Q e w:=qb (s:=[]) (n:=1000) (by rw [h];exact k)
theorem H8{c:Code}{e1:Env}(h:run N 1000 c [] e= .r e1)(k:Q .ret e1 w):Cd P N c Q e w:=qb (s:=[]) (n:=1000) (by rw [h];exact k)
theorem Vi(n:Nat){c:Code}{e1:Env}(h:run N n c [] e= .c c1 s1 e1)(k:Cd P N c1 (Qk P N Q s1) e1 w):Cd P N c Q e w:=qb (s:=[]) (n:=n) (by rw [h];exact k)
theorem ay{s:List Fr}{e1:Env}(h:Aw N 1000 ops l s e= .c c1 s1 e1)(k:Cd P N c1 (Qk P N Q s1) e1 w):aa P N ops (fun e w=>Qk P N Q s .normal e w) l e w:=E6 (n:=1000) (by rw [h];exact k)
theorem ad{s:List Fr}{l1:List Oper}{e1:Env}(h:Aw N 1000 ops l s e= .o o1 l1 s1 e1)(k:aa P N o1 (fun e w=>Qk P N Q s1 .normal e w) l1 e1 w):aa P N ops (fun e w=>Qk P N Q s .normal e w) l e w:=E6 (n:=1000) (by rw [h];exact k)
theorem aF{s:List Fr}{e1:Env}(h:Aw N 1000 ops l s e= .n e1)(k:Q .normal e1 w):aa P N ops (fun e w=>Qk P N Q s .normal e w) l e w:=E6 (n:=1000) (by rw [h];exact k)
theorem bh{s:List Fr}{e1:Env}(h:Aw N 1000 ops l s e= .r e1)(k:Q .ret e1 w):aa P N ops (fun e w=>Qk P N Q s .normal e w) l e w:=E6 (n:=1000) (by rw [h];exact k)
theorem vb(n:Nat){s:List Fr}{e1:Env}(h:Aw N n ops l s e= .c c1 s1 e1)(k:Cd P N c1 (Qk P N Q s1) e1 w):aa P N ops (fun e w=>Qk P N Q s .normal e w) l e w:=E6 (n:=n) (by rw [h];exact k)
theorem eo{s:List Fr}{e1:Env}(h:runN N 1000 s e= .c c1 s1 e1)(k:Cd P N c1 (Qk P N Q s1) e1 w):Qk P N Q s .normal e w:=Av (n:=1000) (by rw [h];exact k)
theorem iq{s:List Fr}{l1:List Oper}{e1:Env}(h:runN N 1000 s e= .o o1 l1 s1 e1)(k:aa P N o1 (fun e w=>Qk P N Q s1 .normal e w) l1 e1 w):Qk P N Q s .normal e w:=Av (n:=1000) (by rw [h];exact k)
theorem M8{s:List Fr}{e1:Env}(h:runN N 1000 s e= .n e1)(k:Q .normal e1 w):Qk P N Q s .normal e w:=Av (n:=1000) (by rw [h];exact k)
theorem xF{s:List Fr}{e1:Env}(h:runN N 1000 s e= .r e1)(k:Q .ret e1 w):Qk P N Q s .normal e w:=Av (n:=1000) (by rw [h];exact k)
theorem Vj(n:Nat){s:List Fr}{e1:Env}(h:runN N n s e= .c c1 s1 e1)(k:Cd P N c1 (Qk P N Q s1) e1 w):Qk P N Q s .normal e w:=Av (n:=n) (by rw [h];exact k)
theorem nN{s:List Fr}{e1:Env}(h:Ay N 1000 i s e= .c c1 s1 e1)(k:Cd P N c1 (Qk P N Q s1) e1 w):Qk P N Q s (.exit i) e w:=E7 (n:=1000) (by rw [h];exact k)
theorem cL{s:List Fr}{l1:List Oper}{e1:Env}(h:Ay N 1000 i s e= .o o1 l1 s1 e1)(k:aa P N o1 (fun e w=>Qk P N Q s1 .normal e w) l1 e1 w):Qk P N Q s (.exit i) e w:=E7 (n:=1000) (by rw [h];exact k)
theorem C8{s:List Fr}{e1:Env}(h:Ay N 1000 i s e= .n e1)(k:Q .normal e1 w):Qk P N Q s (.exit i) e w:=E7 (n:=1000) (by rw [h];exact k)
theorem gE{s:List Fr}{e1:Env}(h:Ay N 1000 i s e= .r e1)(k:Q .ret e1 w):Qk P N Q s (.exit i) e w:=E7 (n:=1000) (by rw [h];exact k)
theorem Vk(n:Nat){s:List Fr}{e1:Env}(h:Ay N n i s e= .c c1 s1 e1)(k:Cd P N c1 (Qk P N Q s1) e1 w):Qk P N Q s (.exit i) e w:=E7 (n:=n) (by rw [h];exact k)
end
def VY:Prop:=False
structure Below(B:Nat)(w w':World):Prop extends Go.RowKit.Below B w w' where
 drawn:VY→w.drawn≤w'.drawn
theorem Below.refl(B:Nat)(w:World):Below B w w:=⟨Go.RowKit.Below.refl B w,fun _=>a8 _⟩
theorem Below.trans{B:Nat}{a b c:World}(h:Below B a b)(k:Below B b c):Below B a c:=⟨h.toBelow.trans k.toBelow,fun s=>kJ (h.drawn s) (k.drawn s)⟩
theorem Below.mono{B B':Nat}{w w':World}(h:Below B w w')(hB:B'≤B):Below B' w w':=⟨h.toBelow.mono hB,h.drawn⟩
theorem Below.drew{B:Nat}{a w:World}(h:Below B a w):Below B a w.drew:=⟨h.toBelow.drew,fun s=>Nat.le_succ_of_le (h.drawn s)⟩
theorem Below.alloc{B:Nat}{a w:World}(h:Below B a w)(hB:B≤w.heap.size)(o:Obj):Below B a (w.alloc o):=⟨h.toBelow.alloc hB o,h.drawn⟩
structure Fu(w w':World)(row:Option Nat):Prop where
 g:w.grownBy w' row
 drawn:w.drawn≤w'.drawn
theorem Below.grown{B:Nat}{a w w':World}{row:Option Nat}(h:Below B a w)(hg:Fu w w' row)(hB:B≤w.heap.size)(hr:∀k,row=some k→B≤k):Below B a w':=⟨h.toBelow.grown hg.g hB hr,fun s=>kJ (h.drawn s) hg.drawn⟩
def aq(A:aiC)(k:Nat):aiC:=A.map (·.add k)
def Rd(w:World)(A:aiC)(n:Nat)(f:Nat→Value):Prop:=∀k,k<n→∃p,aq A k=some p∧w.cell? p=some (f k)
structure Ck where
 A:aiC
 n:Nat
 c:Nat
 e:TypeId
 vs:List Value
def Ck.ie(k:Ck):Option Nat:=k.A.map (·.block)
def vn:List (Value×Value)→List Value
 | []=> []
 | p::r=>p.1::p.2::vn r
theorem OS:∀ {a b:List (Value×Value)},vn a=vn b→a=b
 | [],[],_=>rfl
 | [],_::_,h=>by simp [vn]at h
 | _::_,[],h=>by simp [vn]at h
 | (x,y)::a,(x',y')::b,h=>by
  simp only [vn,List.cons.injEq]at h;rw [h.1,h.2.1,OS h.2.2]
def eH:List Value→Bool
 | .tuple _::_=>true
 | _=>false
theorem Hs{v:Value}{r:List Value}(h:v.oneCell'=true):eH (v::r)=false:=by
 cases v<;>simp_all [eH,Value.oneCell']
theorem xb{l:List Value}(h:∀v∈l,v.oneCell'=true):eH l=false:=by
 cases l with
 | nil=>rfl
 | cons v r=>exact Hs (h v (by simp))
theorem Si{a b:List Value}(ha:eH a=false)(hb:eH b=false):eH (a++b)=false:=by
 cases a with
 | nil=>exact hb
 | cons v r=>cases v<;>simp_all [eH]
theorem EL{a b:List Value}(ha:eH a=false)(h:a≠[]):eH (a++b)=false:=by
 cases a with
 | nil=>exact absurd rfl h
 | cons v r=>cases v<;>simp_all [eH]
theorem Sj{a:List Value}(m:Nat)(ha:eH a=false):eH (a.take m)=false:=by
 cases a with
 | nil=>simp [eH]
 | cons v r=>
  cases m with
  | zero=>rfl
  | succ m=>cases v<;>simp_all [eH]
theorem ab0{a:List Value}(j:Nat){u:Value}(ha:eH a=false)(hu:u.oneCell'=true):eH (a.set j u)=false:=by
 cases a with
 | nil=>rfl
 | cons v r=>
  cases j with
  | zero=>exact Hs hu
  | succ m=>cases v<;>simp_all [eH]
theorem abZ{z:Value}(n:Nat)(hz:z.oneCell'=true):eH (List.replicate n z)=false:=xb fun v hv=>by rw [(List.mem_replicate.1 hv).2];exact hz
def Bd(B:Nat)(w:World)(k:Ck):Prop:=
 k.vs.length=k.n∧k.n≤k.c∧k.c≤maxLen∧
 ((k.A=none∧k.c=0)∨∃g o cur,k.A=some ⟨g,o,none⟩∧B≤g∧w.heap[g]?=some (.cells cur k.e (0,0))∧o+k.c≤cur.size∧∀j,j<k.n→cur[o+j]?=k.vs[j]?)
def Ii(B:Nat)(w:World)(k:Ck):Prop:=
 k.n=0∧k.c=0∧∃g es cl,k.A=some ⟨g,0,none⟩∧B≤g∧w.heap[g]?=some (.map es cl)∧k.vs= .tuple #[]::vn (es.toList.map fun e=> (e.key,e.val))
def Own(B:Nat)(w:World)(k:Ck):Prop:=if eH k.vs=true then Ii B w k else Bd B w k
theorem Own.rI{B:Nat}{w:World}{k:Ck}(hm:eH k.vs=false)(h:Bd B w k):Own B w k:=by unfold Own;rw [if_neg (by simp [hm])];exact h
theorem Own.ML{B:Nat}{w:World}{k:Ck}(hm:eH k.vs=false)(h:Own B w k):Bd B w k:=by unfold Own at h;rwa [if_neg (by simp [hm])]at h
theorem Own.cases{B:Nat}{w:World}{k:Ck}(h:Own B w k):(eH k.vs=true∧Ii B w k)∨(eH k.vs=false∧Bd B w k):=by
 unfold Own at h
 split at h
 ·rename_i hm;exact .inl ⟨hm,h⟩
 rename_i hm;exact .inr ⟨by simpa using hm,h⟩
theorem Own.ofM{B:Nat}{w:World}{k:Ck}(hm:eH k.vs=true)(h:Ii B w k):Own B w k:=by unfold Own;rw [if_pos hm];exact h
structure St(w0 w:World)(ks:List Ck):Prop where
 below:Below w0.heap.size w0 w
 own:∀k∈ks,Own w0.heap.size w k
 apart:(ks.filterMap Ck.ie).Nodup
theorem Bg{g o:Nat}(k:Nat):(⟨g,o,none⟩:Addr).add k=⟨g,o+k,none⟩:=by unfold Addr.add;split<;>simp_all
section
variable{i:Nat}{ks':List Ck}
variable {w0 w w':World} {ks:List Ck} {k:Ck} {B:Nat}
theorem Own.rd(h:Own B w k):Rd w k.A k.n (fun j=>k.vs.getD j undef):=by
 rcases h.cases with⟨_,hn,_⟩ | ⟨_,h1,h2,h3,h4⟩
 ·intro j hj;omega
 intro j hj;rcases h4 with⟨_,h0⟩ | ⟨g,o,cur,hA,hg,hh,hs,hc⟩
 ·omega
 refine⟨⟨g,o+j,none⟩,by simp [aq,hA,Bg],?_⟩;simp only [World.cell?,hh];rw [hc j hj];simp [cJ,gf (show j<k.vs.length by omega)]
theorem Own.mono{B':Nat}(h:Own B w k)(hB:B'≤B):Own B' w k:=by
 rcases h.cases with⟨hm,hn,hc,g,es,cl,hA,hg,r⟩ | ⟨hm,h1,h2,h3,h4⟩
 ·exact .ofM hm ⟨hn,hc,g,es,cl,hA,by omega,r⟩
 refine .rI hm ⟨h1,h2,h3,?_⟩;rcases h4 with h0 | ⟨g,o,cur,hA,hg,r⟩
 ·exact .inl h0
 exact .inr ⟨g,o,cur,hA,by omega,r⟩
theorem Own.keep(h:Own B w k)(hb:∀g,k.ie=some g→w'.heap[g]?=w.heap[g]?):Own B w' k:=by
 rcases h.cases with⟨hm,hn,hc,g,es,cl,hA,hg,hh,r⟩ | ⟨hm,h1,h2,h3,h4⟩
 ·exact .ofM hm ⟨hn,hc,g,es,cl,hA,hg,by rw [hb g (by simp [Ck.ie,hA])];exact hh,r⟩
 refine .rI hm ⟨h1,h2,h3,?_⟩;rcases h4 with h0 | ⟨g,o,cur,hA,hg,hh,r⟩
 ·exact .inl h0
 exact .inr ⟨g,o,cur,hA,hg,by rw [hb g (by simp [Ck.ie,hA])];exact hh,r⟩
theorem Own.lt(h:Own B w k){g:Nat}(hg:k.ie=some g):B≤g∧g<w.heap.size:=by
 rcases h.cases with⟨hm,hn,hc,g',es,cl,hA,tE,hh,r⟩ | ⟨hm,h1,h2,h3,h4⟩
 ·simp [Ck.ie,hA]at hg;subst hg;exact⟨tE,(Array.getElem?_eq_some_iff.1 hh).1⟩
 rcases h4 with⟨h0,_⟩ | ⟨g',o,cur,hA,tE,hh,r⟩
 ·simp [Ck.ie,h0]at hg
 simp [Ck.ie,hA]at hg;subst hg;exact⟨tE,(Array.getElem?_eq_some_iff.1 hh).1⟩
theorem Own.cap(h:Own B w k):k.n≤k.c∧k.c≤maxLen:=by
 rcases h.cases with⟨_,hn,hc,_⟩ | ⟨_,_,h2,h3,_⟩
 ·exact⟨by omega,by rw [hc];exact aW _⟩
 exact⟨h2,h3⟩
theorem St.refl(w:World):St w w []:=⟨Below.refl _ _,(fun _ h=>by cases h),List.nodup_nil⟩
theorem St.get(h:St w0 w ks)(hk:ks[i]?=some k):Own w0.heap.size w k:=h.own k (List.mem_of_getElem? hk)
theorem St.tp(h:St w0 w ks)(hk:ks[i]?=some k)(hm:eH k.vs=false):Bd w0.heap.size w k:=(h.get hk).ML hm
theorem St.rd(h:St w0 w ks)(i:Nat)(hk:ks[i]?=some k):Rd w k.A k.n (fun j=>k.vs.getD j undef):=(h.get hk).rd
theorem Rd.lt{A:aiC}{n:Nat}{f:Nat→Value}(h:Rd w A n f){j:Nat}(hj:j<n):∃p,aq A j=some p∧p.block<w.heap.size∧w.cell? p=some (f j):=by
 obtain⟨p,hp,hc⟩:=h j hj;exact⟨p,hp,World.block_lt_of_cell? _ _ hc,hc⟩
theorem Rd.below{A:aiC}{n:Nat}{f:Nat→Value}(h:Rd w A n f)(hb:Below w.heap.size w w'):Rd w' A n f:=fun j hj=>by
 obtain⟨p,hp,hl,hc⟩:=h.lt hj;exact⟨p,hp,(hb.cell hl).trans hc⟩
theorem St.o7(h:St w0 w ks){A:aiC}{n:Nat}{f:Nat→Value}(hR:Rd w0 A n f):Rd w A n f:=hR.below h.below
theorem Rd.congr{A:aiC}{n:Nat}{f g:Nat→Value}(h:Rd w A n f)(hf:∀j,j<n→f j=g j):Rd w A n g:=fun j hj=>by
 obtain⟨p,hp,hc⟩:=h j hj;exact⟨p,hp,by rw [hc,hf j hj]⟩
theorem St.later(h:St w0 w ks)(hb:Below w.heap.size w w'):St w0 w' ks:=
 ⟨h.below.trans (hb.mono h.below.size),fun k hk=> (h.own k hk).keep fun g hg=>hb.block g ((h.own k hk).lt hg).2,h.apart⟩
theorem St.drew(h:St w0 w ks):St w0 w.drew ks:=h.later (Below.drew (Below.refl _ _))
theorem St.call(h:St w0 w ks)(h':St w w' ks'):St w0 w' (ks'++ks):=by
 have h1:=h.later h'.below;refine⟨h1.below,fun k hk=>?_,?_⟩
 ·rcases iG.1 hk with hk | hk
  ·exact(h'.own k hk).mono h.below.size
  exact h1.own k hk
 rw [List.filterMap_append,List.nodup_append];refine⟨h'.apart,h.apart,fun a ha b hb=>?_⟩;obtain⟨k,hk,KF⟩:=List.mem_filterMap.1 ha;obtain⟨k',fM,wJ⟩:=List.mem_filterMap.1 hb;have l1:=((h'.own k hk).lt KF).1;have l2:=((h.own k' fM).lt wJ).2;omega
theorem St.call2(h:St w0 w ks)(h':St w w' ks'):St w0 w' (ks++ks'):=by
 have h1:=h.call h';exact⟨h1.below,fun k hk=>h1.own k ((lh (l₁:=ks') (l₂:=ks)).mem_iff.2 hk),((lh (l₁:=ks') (l₂:=ks)).filterMap _).nodup_iff.1 h1.apart⟩
theorem St.sub(h:St w0 w ks)(hs:ks'.Sublist ks):St w0 w ks':=
 ⟨h.below,fun k hk=>h.own k (hs.subset hk),h.apart.sublist (hs.filterMap _)⟩
theorem St.perm(h:St w0 w ks)(hs:ks.Perm ks'):St w0 w ks':=
 ⟨h.below,fun k hk=>h.own k (hs.mem_iff.2 hk),(hs.filterMap _).nodup_iff.1 h.apart⟩
theorem St.tail(h:St w0 w (k::ks)):St w0 w ks:=h.sub (List.sublist_cons_self _ _)
theorem St.none(h:St w0 w ks):St w0 w []:=h.sub (List.nil_sublist _)
theorem St.nil(h:St w0 w ks)(e:TypeId):St w0 w (⟨Option.none,0,0,e,[]⟩::ks):=
 ⟨h.below,fun k hk=>by
  rcases iW.1 hk with rfl | hk
  ·exact .rI O ⟨O,a8 _,aW _,.inl ⟨O,O⟩⟩
  exact h.own k hk,h.apart⟩
theorem St.alloc(h:St w0 w ks)(cs:List Value)(e:TypeId)(hm:cs.length≤maxLen)(hM:eH cs=false):St w0 (w.alloc (.cells cs.toArray e)) (⟨some ⟨w.heap.size,0,Option.none⟩,cs.length,cs.length,e,cs⟩::ks):=by
 have hb:Below w.heap.size w (w.alloc (.cells cs.toArray e)):=(Below.refl _ _).alloc (a8 _) _;have h1:=h.later hb;refine⟨h1.below,fun k hk=>?_,?_⟩
 ·rcases iW.1 hk with rfl | hk
  ·exact .rI hM ⟨O,a8 _,hm,.inr ⟨_,0,cs.toArray,O,h.below.size,heap_alloc_new w _,by simp,fun j hj=>by simp⟩⟩
  exact h1.own k hk
 simp only [List.filterMap_cons,Ck.ie,Option.map_some,pg];refine⟨fun dq=>?_,h.apart⟩;obtain⟨k',fM,wJ⟩:=List.mem_filterMap.1 dq;have:=((h.own k' fM).lt wJ).2;omega
theorem Gd{α β:Type}(f:α→Option β):∀(l:List α) (i:Nat) (a b:α),l[i]?=some a→f b=f a→(l.set i b).filterMap f=l.filterMap f
 | [],_,_,_,h,_=>by simp at h
 | x::l,0,a,b,h,he=>by
  simp at h;subst h;simp [List.filterMap_cons,he]
 | x::l,i+1,a,b,h,he=>by
  simp only [List.getElem?_cons_succ]at h;simp only [List.set_cons_succ,List.filterMap_cons,Gd f l i a b h he]
theorem St.turn{g:Nat}{k':Ck}(h:St w0 w ks)(hk:ks[i]?=some k)(wF:k.ie=some g)(ZZ:k'.ie=some g)(hw:Fu w w' (some g))(ho:Own w0.heap.size w' k'):St w0 w' (ks.set i k'):=by
 have fY:=(h.get hk).lt wF;refine⟨h.below.grown hw h.below.size (fun x hx=>by cases hx;exact fY.1),fun x hx=>?_,?_⟩
 ·obtain⟨j,hj,rfl⟩:=gJ.1 hx;have kF:j<ks.length:=by simpa using hj
  rw [List.getElem_set]
  split
  ·exact ho
  ·rename_i bt;have hm:ks[j]∈ks:=dQ _;refine(h.own _ hm).keep fun g' tE=>hw.g.block g' ((h.own _ hm).lt tE).2 fun e=>?_
   injection e with e
   subst e;have dT:i<ks.length:=(ia.1 hk).1;have dU:ks[i]=k:=(ia.1 hk).2;exact absurd (show False from by
    have hn:=h.apart;have key:∀(l:List Ck),(l.filterMap Ck.ie).Nodup→∀i j (hi:i<l.length) (hj:j<l.length),i≠j→l[i].ie=some g'→l[j].ie=some g'→False:=by
     intro l
     induction l with
     | nil=>intro _ i j hi;simp at hi
     | cons a l ih=>
      intro hn i j hi hj bt h1 h2;cases i with
      | zero=>
       cases j with
       | zero=>exact bt rfl
       | succ j=>
        simp only [List.getElem_cons_zero]at h1;simp only [List.getElem_cons_succ]at h2;rw [List.filterMap_cons,h1]at hn;simp only [pg]at hn;exact hn.1 (List.mem_filterMap.2 ⟨_,dQ _,h2⟩)
      | succ i=>
       cases j with
       | zero=>
        simp only [List.getElem_cons_zero]at h2;simp only [List.getElem_cons_succ]at h1;rw [List.filterMap_cons,h2]at hn;simp only [pg]at hn;exact hn.1 (List.mem_filterMap.2 ⟨_,dQ _,h1⟩)
       | succ j=>
        have wN:(l.filterMap Ck.ie).Nodup:=by
         rw [List.filterMap_cons]at hn
         split at hn
         ·exact hn
         ·exact(pg.1 hn).2
        exact ih wN i j (by simpa using hi) (by simpa using hj) (by omega) (by simpa using h1) (by simpa using h2)
    exact key ks hn i j dT kF bt (by rw [dU];exact wF) tE) id
 ·rw [Gd Ck.ie ks i k k' hk (by rw [wF,ZZ])];exact h.apart
theorem St.store(h:St w0 w ks)(i:Nat)(hk:ks[i]?=some k){j:Nat}(hj:j<k.n)(u:Value)(hu:u.oneCell'=true):
 ∃p,aq k.A j=some p∧(∃v,w.cell? p=some v)∧w.frozen? p=false∧St w0 (w.setCell p u) (ks.set i { k with vs:=k.vs.set j u }):=by
 rcases(h.get hk).cases with⟨_,qt,_⟩ | ⟨hM,h1,h2,h3,h4⟩
 ·omega
 rcases h4 with⟨_,h0⟩ | ⟨g,o,cur,hA,hg,hh,hs,hc⟩
 ·omega
 refine⟨⟨g,o+j,Option.none⟩,by simp [aq,hA,Bg],?_,?_,?_⟩
 ·have:o+j<cur.size:=by omega
  exact⟨cur[o+j],by simp [World.cell?,hh,qL this]⟩
 ·simp [World.frozen?,hh]
 have wF:k.ie=some g:=by simp [Ck.ie,hA]
 have fY:=(Array.getElem?_eq_some_iff.1 hh).1;refine h.turn (k':= { k with vs:=k.vs.set j u }) hk wF wF ⟨⟨O,O,O,by simp,fun x _ hx=>heap_setCell_other w ⟨g,o+j,Option.none⟩ x u (fun e=>hx (by simp [e]))⟩,a8 _⟩ ?_;refine .rI (ab0 j hM hu) ⟨by simpa using h1,h2,h3,.inr ⟨g,o,cur.setIfInBounds (o+j) u,hA,hg,heap_setCell_same w g (o+j) cur k.e u hh,by simpa using hs,fun m hm=>?_⟩⟩;have ku:m<k.n:=hm;rw [sX];show _=(k.vs.set j u)[m]?;rw [oI]
 by_cases e:j=m
 ·subst e;rw [aj rfl,aj rfl,aj (by omega),aj (by omega)]
 rw [ag (by omega),ag e];exact hc m ku
end
structure aG where
 a:aiC
 n:Nat
 c:Nat
def aG.v(s:aG):Value:= .slice s.a s.n s.c
def dE:aG:=⟨none,0,0⟩
def gi(xs:List Int)(i:Int):Int:=xs.getD i.toNat 0
def gb(xs:List Bool)(i:Int):Bool:=xs.getD i.toNat false
def rg(xs:List aG)(i:Int):aG:=xs.getD i.toNat dE
def bS(w:World)(A:aiC)(n:Nat)(xs:List Int):Prop:=xs.length=n∧Rd w A n (fun j=>aiD (xs.getD j 0))
def ud(w:World)(A:aiC)(n:Nat)(xs:List Bool):Prop:=xs.length=n∧Rd w A n (fun j=> .bool (xs.getD j false))
def jD(w:World)(A:aiC)(n:Nat)(xs:List aG):Prop:=xs.length=n∧Rd w A n (fun j=> (xs.getD j dE).v)
abbrev ah(t:TypeId)(A:aiC)(n c:Nat)(xs:List Int):Ck:=⟨A,n,c,t,xs.map (aiD)⟩
abbrev fQ(t:TypeId)(A:aiC)(n c:Nat)(xs:List Bool):Ck:=⟨A,n,c,t,xs.map .bool⟩
abbrev bU(t:TypeId)(A:aiC)(n c:Nat)(xs:List aG):Ck:=⟨A,n,c,t,xs.map aG.v⟩
theorem tS(xs:List Int):eH (xs.map (Value.int .i64))=false:=xb fun v hv=>by obtain⟨_,_,rfl⟩:=dh.1 hv;rfl
theorem EK(xs:List Bool):eH (xs.map Value.bool)=false:=xb fun v hv=>by obtain⟨_,_,rfl⟩:=dh.1 hv;rfl
theorem Cy(xs:List aG):eH (xs.map aG.v)=false:=xb fun v hv=>by obtain⟨_,_,rfl⟩:=dh.1 hv;rfl
section
variable {w0 w w':World} {ks:List Ck} {t:TypeId} {A:aiC} {n c:Nat}
theorem St.bc{xs:List Int}(h:St w0 w ks)(i:Nat)(hk:ks[i]?=some (ah t A n c xs)):bS w A n xs:=by
 have hl:xs.length=n:=by have:=(h.tp hk (tS xs)).1;simpa using this
 exact⟨hl,(h.rd i hk).congr fun j hj=>by have kF:j<n:=hj;simp [cJ,gf (show j<xs.length by omega)]⟩
theorem St.jy{xs:List Bool}(h:St w0 w ks)(i:Nat)(hk:ks[i]?=some (fQ t A n c xs)):ud w A n xs:=by
 have hl:xs.length=n:=by have:=(h.tp hk (EK xs)).1;simpa using this
 exact⟨hl,(h.rd i hk).congr fun j hj=>by have kF:j<n:=hj;simp [cJ,gf (show j<xs.length by omega)]⟩
theorem St.il{xs:List aG}(h:St w0 w ks)(i:Nat)(hk:ks[i]?=some (bU t A n c xs)):jD w A n xs:=by
 have hl:xs.length=n:=by have:=(h.tp hk (Cy xs)).1;simpa using this
 exact⟨hl,(h.rd i hk).congr fun j hj=>by have kF:j<n:=hj;simp [cJ,gf (show j<xs.length by omega)]⟩
theorem St.eY{xs:List Int}(h:St w0 w ks)(hR:bS w0 A n xs):bS w A n xs:=⟨hR.1,h.o7 hR.2⟩
theorem St.Mc{xs:List aG}(h:St w0 w ks)(hR:jD w0 A n xs):jD w A n xs:=⟨hR.1,h.o7 hR.2⟩
theorem St.cap{k:Ck}(h:St w0 w ks)(i:Nat)(hk:ks[i]?=some k):k.n≤k.c∧k.c≤maxLen:=(h.get hk).cap
theorem St.CE{xs:List Int}(h:St w0 w ks)(i:Nat)(hk:ks[i]?=some (ah t A n c xs)):xs.length=n:=(h.bc i hk).1
theorem bS.later{xs:List Int}(h:bS w A n xs)(hb:Below w.heap.size w w'):bS w' A n xs:=⟨h.1,h.2.below hb⟩
theorem ud.later{xs:List Bool}(h:ud w A n xs)(hb:Below w.heap.size w w'):ud w' A n xs:=⟨h.1,h.2.below hb⟩
theorem jD.later{xs:List aG}(h:jD w A n xs)(hb:Below w.heap.size w w'):jD w' A n xs:=⟨h.1,h.2.below hb⟩
theorem bS.nil:bS w none 0 []:=⟨rfl,fun k hk=>by omega⟩
end
section
variable{t te:TypeId}{z v0:Value}{b j m l h:Nat}{x:Operand}{i:Int}{cs:Array Value}
variable {P:Program} {N:Nat} {ops:Array Oper} {K:Env→World→Prop} {rest:List Oper} {e:Env} {w0 w w':World} {ks:List Ck} {d:Nat} {ty:TypeId} {pos:String} {af:Array Edge}
theorem aw{el:TypeId}[bB P t (.slice el)][bp P el z 1 b]{ix:Operand}{A:aiC}{n c:Nat}{k:IntKind}{f:Nat→Value}(hR:Rd w A n f)(hx:ev e x= .slice A n c)(hy:ev e ix= .int k i)(hb:Nat.blt d N=true)(h0:0≤i)(h1:i< (n:Int))(hK:aa P N ops K rest (a7 e d (.pointer (aq A i.toNat))) w):
 aa P N ops K (⟨some d,.indexAddr t x ix,ty,pos,af,none⟩::rest) e w:=by
 obtain⟨p,hp,_⟩:=hR i.toNat (by omega);obtain⟨q,rfl⟩:∃q,A=some q:=by cases A with | none=>simp [aq]at hp | some q=>exact⟨q,rfl⟩
 obtain⟨inf,hi,_,hs,_⟩:=bp.get P el;refine .val (w':=w) ?_ hb hK;simp [execOp,Instr.indexAt,hx,hy,asIntOf,run_underlying (bB.out (P:=P) (t:=t)),h0,h1,sizeOf,typeInfo,hi,hs,aq]
def xj:TypeDesc→Bool
 | .struct _=>false
 | .array _ _=>false
 | _=>true
theorem afU{u:TypeDesc}(hu:P.underlying t=some u)(hp:xj u=true):(isAgg t).run P w= .ok false w:=by
 cases u<;>simp [xj]at hp<;>simp [isAgg,run_underlying hu]
theorem aa.ld{u:TypeDesc}[bB P t u]{A:aiC}{n:Nat}{f:Nat→Value}{v:Value}(hR:Rd w A n f)(hx:ev e x= .pointer (aq A j))(hj:j<n)(hv:f j=v)(hp:xj u=true)(hb:Nat.blt d N=true)(hK:aa P N ops K rest (a7 e d v) w):aa P N ops K (⟨some d,.load t x,ty,pos,af,none⟩::rest) e w:=by
 obtain⟨p,tK,hc⟩:=hR j hj;subst hv;refine .val (w':=w) ?_ hb hK;simp [execOp,Instr.loadAt,hx,tK,Instr.sureAddr,loadVar,afU (bB.out (P:=P) (t:=t)) hp,hc]
theorem aT{u:TypeDesc}[bB P t u]{A:aiC}{n:Nat}{xs:List Int}(hR:bS w A n xs)(hx:ev e x= .pointer (aq A i.toNat))(hj:i.toNat<n)(hp:xj u=true)(hb:Nat.blt d N=true)(hK:aa P N ops K rest (a7 e d (aiD (gi xs i))) w):aa P N ops K (⟨some d,.load t x,ty,pos,af,none⟩::rest) e w:= .ld hR.2 hx hj rfl hp hb hK
theorem qN{u:TypeDesc}[bB P t u]{A:aiC}{n:Nat}{xs:List Bool}(hR:ud w A n xs)(hx:ev e x= .pointer (aq A i.toNat))(hj:i.toNat<n)(hp:xj u=true)(hb:Nat.blt d N=true)(hK:aa P N ops K rest (a7 e d (.bool (gb xs i))) w):aa P N ops K (⟨some d,.load t x,ty,pos,af,none⟩::rest) e w:= .ld hR.2 hx hj rfl hp hb hK
theorem bQ{u:TypeDesc}[bB P t u]{A:aiC}{n:Nat}{xs:List aG}(hR:jD w A n xs)(hx:ev e x= .pointer (aq A i.toNat))(hj:i.toNat<n)(hp:xj u=true)(hb:Nat.blt d N=true)(hK:aa P N ops K rest (a7 e d (.slice (rg xs i).a (rg xs i).n (rg xs i).c)) w):aa P N ops K (⟨some d,.load t x,ty,pos,af,none⟩::rest) e w:= .ld hR.2 hx hj rfl hp hb hK
theorem aa.st[bp P t z 1 b]{a:Operand}{i:Nat}{k:Ck}{u:Value}(hS:St w0 w ks)(hk:ks[i]?=some k)(ha:ev e a= .pointer (aq k.A j))(hx:ev e x=u)(h1:u.oneCell'=true)(hj:j<k.n)(hK:∀w',St w0 w' (ks.set i { k with vs:=k.vs.set j u })→aa P N ops K rest e w'):aa P N ops K (⟨none,.store t a x,ty,pos,af,none⟩::rest) e w:=by
 obtain⟨p,hp,⟨v,hc⟩,hf,oi⟩:=hS.store i hk hj u h1;obtain⟨inf,hi,_,hs,_⟩:=bp.get P t;refine .unit (w':=w.setCell p u) ?_ (hK _ oi);have aab:u.cells= #[u]:=by cases u<;>simp [Value.oneCell']at h1<;>rfl
 simp [execOp,Instr.storeAt,ha,hx,hp,Instr.sureAddr,storeVar,sizeOf,typeInfo,hi,hs,aab,storeCells,run_store _ _ _ _ _ h1,hc,hf,Addr.add]
theorem jR[bp P t z 1 b]{a:Operand}(m:Nat){A:aiC}{n c:Nat}{xs:List Int}{u:Int}(hS:St w0 w ks)(hk:ks[m]?=some (ah te A n c xs))(ha:ev e a= .pointer (aq A i.toNat))(hx:ev e x=aiD u)(hj:i.toNat<n)(hK:∀w',St w0 w' (ks.set m (ah te A n c (xs.set i.toNat u)))→aa P N ops K rest e w'):aa P N ops K (⟨none,.store t a x,ty,pos,af,none⟩::rest) e w:=
 .st hS hk ha hx rfl hj fun w' h=>hK w' (by simpa [ah,List.map_set]using h)
theorem uc[bp P t z 1 b]{a:Operand}(m:Nat){A:aiC}{n c:Nat}{xs:List Bool}{u:Bool}(hS:St w0 w ks)(hk:ks[m]?=some (fQ te A n c xs))(ha:ev e a= .pointer (aq A i.toNat))(hx:ev e x= .bool u)(hj:i.toNat<n)(hK:∀w',St w0 w' (ks.set m (fQ te A n c (xs.set i.toNat u)))→aa P N ops K rest e w'):aa P N ops K (⟨none,.store t a x,ty,pos,af,none⟩::rest) e w:=
 .st hS hk ha hx rfl hj fun w' h=>hK w' (by simpa [fQ,List.map_set]using h)
theorem zc[bp P t z 1 b]{a:Operand}(m:Nat){A:aiC}{n c:Nat}{xs:List aG}{A1:aiC}{n1 c1:Nat}(hS:St w0 w ks)(hk:ks[m]?=some (bU te A n c xs))(ha:ev e a= .pointer (aq A i.toNat))(hx:ev e x= .slice A1 n1 c1)(hj:i.toNat<n)(hK:∀w',St w0 w' (ks.set m (bU te A n c (xs.set i.toNat ⟨A1,n1,c1⟩)))→aa P N ops K rest e w'):aa P N ops K (⟨none,.store t a x,ty,pos,af,none⟩::rest) e w:=
 .st hS hk ha hx rfl hj fun w' h=>hK w' (by simpa [bU,List.map_set,aG.v]using h)
theorem LX(z:Value)(n:Nat):(madeCells #[z] n)=(List.replicate n z).toArray:=by
 rw [←toList_madeCells_one z n]
theorem aa.mk{el:TypeId}[bB P t (.slice el)][bp P el z 1 b]{k:IntKind}(n:Nat)(hS:St w0 w ks)(hx:ev e x= .int k (n:Int))(hz:z.cells= #[z])(YX:z.oneCell'=true)(hb:Nat.blt d N=true)(hn:b*n≤281474976710656∧n≤9223372036854775807)(hK:∀A w',St w0 w' (⟨A,n,n,el,List.replicate n z⟩::ks)→aa P N ops K rest (a7 e d (.slice A n n)) w'):aa P N ops K (⟨some d,.makeSlice t x x,ty,pos,af,none⟩::rest) e w:=by
 obtain⟨inf,hi,fv,hs,iS⟩:=bp.get P el;have hr:=run_make_row (P:=P) t el inf z (bB.out (P:=P) (t:=t)) hi fv hs hz k k n (by rw [iS];exact hn.1) hn.2 w;have hA:=hS.alloc (List.replicate n z) el (by simp [maxLen];omega) (abZ n YX);rw [LX]at hr;refine .val (w':=w.alloc (.cells (List.replicate n z).toArray el)) ?_ hb (hK _ _ (by simpa using hA));simp only [execOp,hx,Sem.run_bind,hr,Result.andThen_ok,Sem.run_pure]
theorem xL{el:TypeId}{v:Bool}[bB P t (.slice el)][bp P el (.bool v) 1 b]{k:IntKind}(n:Nat)(hS:St w0 w ks)(hx:ev e x= .int k (n:Int))(hb:Nat.blt d N=true)(hn:b*n≤281474976710656∧n≤9223372036854775807)(hK:∀A w',St w0 w' (fQ el A n n (List.replicate n v)::ks)→aa P N ops K rest (a7 e d (.slice A n n)) w'):aa P N ops K (⟨some d,.makeSlice t x x,ty,pos,af,none⟩::rest) e w:=
 .mk n hS hx rfl rfl hb hn fun A w' h=>hK A w' (by unfold fQ;rw [List.map_replicate];exact h)
theorem vT{el:TypeId}{v:Int}[bB P t (.slice el)][bp P el (aiD v) 1 b]{k:IntKind}(n:Nat)(hS:St w0 w ks)(hx:ev e x= .int k (n:Int))(hb:Nat.blt d N=true)(hn:b*n≤281474976710656∧n≤9223372036854775807)(hK:∀A w',St w0 w' (ah el A n n (List.replicate n v)::ks)→aa P N ops K rest (a7 e d (.slice A n n)) w'):aa P N ops K (⟨some d,.makeSlice t x x,ty,pos,af,none⟩::rest) e w:=
 .mk n hS hx rfl rfl hb hn fun A w' h=>hK A w' (by unfold ah;rw [List.map_replicate];exact h)
theorem FB{el:TypeId}[bB P t (.slice el)][bp P el (.slice none 0 0) 1 b]{k:IntKind}(n:Nat)(hS:St w0 w ks)(hx:ev e x= .int k (n:Int))(hb:Nat.blt d N=true)(hn:b*n≤281474976710656∧n≤9223372036854775807)(hK:∀A w',St w0 w' (bU el A n n (List.replicate n dE)::ks)→aa P N ops K rest (a7 e d (.slice A n n)) w'):aa P N ops K (⟨some d,.makeSlice t x x,ty,pos,af,none⟩::rest) e w:=
 .mk n hS hx rfl rfl hb hn fun A w' h=>hK A w' (by unfold bU;rw [List.map_replicate];exact h)
theorem Dh(f:Nat→Value)(n:Nat):(Array.range n).map f=((List.range n).map f).toArray:=by apply Array.ext';simp
theorem jl{el:TypeId}[bB P t (.slice el)][bp P el z 1 b](hS:St w0 w ks)(hb:Nat.blt d N=true)(hK:∀A w',St w0 w' (⟨A,0,0,el,[]⟩::ks)→aa P N ops K rest (a7 e d (.slice A 0 0)) w'):aa P N ops K (⟨some d,.buildSlice t 0 #[],ty,pos,af,none⟩::rest) e w:=by
 obtain⟨inf,hi,fv,hs,iS⟩:=bp.get P el;refine .val (w':=w.alloc (.cells #[] el)) ?_ hb (hK _ _ (hS.alloc [] el (by simp) O));simp [execOp,Instr.buildSlice,run_underlying (bB.out (P:=P) (t:=t)),sizeOf,typeInfo,hi,hs,Instr.fill,newRow,Dh]
theorem aa.IF{el:TypeId}[bB P t (.slice el)][bp P el z 1 b]{x0:Operand}(hS:St w0 w ks)(h0:ev e x0=v0)(c0:v0.oneCell'=true)(hz:z.cells= #[z])(hb:Nat.blt d N=true)(hK:∀A w',St w0 w' (⟨A,1,1,el,[v0]⟩::ks)→aa P N ops K rest (a7 e d (.slice A 1 1)) w'):aa P N ops K (⟨some d,.buildSlice t 1 #[(0,x0)],ty,pos,af,none⟩::rest) e w:=by
 obtain⟨inf,hi,fv,hs,iS⟩:=bp.get P el;have e0:v0.cells= #[v0]:=by cases v0<;>simp [Value.oneCell']at c0<;>rfl
 refine .val (w':=w.alloc (.cells #[v0] el)) ?_ hb (hK _ _ (hS.alloc [v0] el (by simp [maxLen]) (Hs c0)));simp [execOp,Instr.buildSlice,run_underlying (bB.out (P:=P) (t:=t)),sizeOf,typeInfo,zeroValue,hi,hs,fv,hz,Instr.fill,newRow,h0,e0,Dh,ng]
theorem Fz{el:TypeId}[bB P t (.slice el)][bp P el z 1 b]{x0 x1:Operand}{v1:Value}(hS:St w0 w ks)(h0:ev e x0=v0)(h1:ev e x1=v1)(c0:v0.oneCell'=true)(c1:v1.oneCell'=true)(hz:z.cells= #[z])(hb:Nat.blt d N=true)(hK:∀A w',St w0 w' (⟨A,2,2,el,[v0,v1]⟩::ks)→aa P N ops K rest (a7 e d (.slice A 2 2)) w'):aa P N ops K (⟨some d,.buildSlice t 2 #[(0,x0),(1,x1)],ty,pos,af,none⟩::rest) e w:=by
 obtain⟨inf,hi,fv,hs,iS⟩:=bp.get P el;have e0:v0.cells= #[v0]:=by cases v0<;>simp [Value.oneCell']at c0<;>rfl
 have e1:v1.cells= #[v1]:=by cases v1<;>simp [Value.oneCell']at c1<;>rfl
 refine .val (w':=w.alloc (.cells #[v0,v1] el)) ?_ hb (hK _ _ (hS.alloc [v0,v1] el (by simp [maxLen]) (Hs c0)));simp [execOp,Instr.buildSlice,run_underlying (bB.out (P:=P) (t:=t)),sizeOf,typeInfo,zeroValue,hi,hs,fv,hz,Instr.fill,newRow,h0,e0,h1,e1,Dh,ng]
theorem aa.box{el:TypeId}{v:Value}(hS:St w0 w ks)(hx:ev e x=v)(hb:Nat.blt d N=true)(hm:v.cells.size≤maxLen)(hK:∀A w',St w0 w' (⟨A,v.cells.size,v.cells.size,el,v.cells.toList⟩::ks)→aa P N ops K rest (a7 e d (.pointer A)) w')(hM:eH v.cells.toList=false:=by rfl):aa P N ops K (⟨some d,.box el x,ty,pos,af,none⟩::rest) e w:=by
 have hA:=hS.alloc v.cells.toList el (by simpa using hm) hM;refine .val (w':=w.alloc (.cells v.cells el)) ?_ hb (hK _ _ (by simpa using hA));simp [execOp,Instr.box,newVar,newRow,hx]
theorem aa.FN{el:TypeId}(hS:St w0 w ks)(hx:ev e x= .agg cs)(hb:Nat.blt d N=true)(hm:Nat.ble cs.size 100=true)(hK:∀A w',St w0 w' (⟨A,cs.size,cs.size,el,cs.toList⟩::ks)→aa P N ops K rest (a7 e d (.pointer A)) w')(hM:eH cs.toList=false:=by rfl):aa P N ops K (⟨some d,.box el x,ty,pos,af,none⟩::rest) e w:=
 .box hS hx hb (by show cs.size≤maxLen;have:=Nat.le_of_ble_eq_true hm;simp only [maxLen];omega) hK hM
theorem aa.new{el:TypeId}{s:Nat}[bp P el z s b](hS:St w0 w ks)(hb:Nat.blt d N=true)(ku:Nat.ble z.cells.size 100=true)(hK:∀A w',St w0 w' (⟨A,z.cells.size,z.cells.size,el,z.cells.toList⟩::ks)→aa P N ops K rest (a7 e d (.pointer A)) w')(hM:eH z.cells.toList=false:=by rfl):aa P N ops K (⟨some d,.alloc el,ty,pos,af,none⟩::rest) e w:=by
 obtain⟨inf,hi,fv,hs,iS⟩:=bp.get P el;have hm:z.cells.size≤maxLen:=by have:=Nat.le_of_ble_eq_true ku;simp only [maxLen];omega
 have hA:=hS.alloc z.cells.toList el (by simpa using hm) hM;refine .val (w':=w.alloc (.cells z.cells el)) ?_ hb (hK _ _ (by simpa using hA));simp [execOp,Instr.alloc,zeroValue,typeInfo,hi,fv,newVar,newRow]
theorem mh{A:aiC}{n:Nat}{f:Nat→Value}(hR:Rd w A n f)(hn:0<n)(hx:ev e x= .pointer A)(hb:Nat.blt d N=true)(hK:aa P N ops K rest (a7 e d (.pointer A)) w):
 aa P N ops K (⟨some d,.nilCheck x,ty,pos,af,none⟩::rest) e w:=by
 obtain⟨p,hp,_⟩:=hR 0 hn;obtain⟨q,rfl⟩:∃q,A=some q:=by cases A with | none=>simp [aq]at hp | some q=>exact⟨q,rfl⟩
 exact .aeb hx hb hK
def Dw:List Field→Nat→Option (TypeId×Nat)
 | f::_,0=>some (f.type,f.offset)
 | _::r,m+1=>Dw r m
 | [],_=>none
theorem OM:∀ {l:List Field} {m:Nat} {ft off:Nat},Dw l m=some (ft,off)→∃fd,l[m]?=some fd∧fd.type=ft∧fd.offset=off
 | [],_,_,_,h=>by simp [Dw]at h
 | f::_,0,_,_,h=>by simp [Dw]at h;exact⟨f,rfl,h.1,h.2⟩
 | _::r,m+1,_,_,h=>by simpa using OM (l:=r) (m:=m) h
theorem aH{s:TypeId}{fs:Array Field}[bB P s (.struct fs)]{A:aiC}{n ft off:Nat}{f:Nat→Value}{sz:Nat}(hR:Rd w A n f)(hx:ev e x= .pointer A)(hf:Dw fs.toList m=some (ft,off))(hn:Nat.blt 0 n=true)(hb:Nat.blt d N=true)(hI:bp P ft z (sz+1) b)(hK:aa P N ops K rest (a7 e d (.pointer (aq A off))) w):aa P N ops K (⟨some d,.fieldAddr s x m,ty,pos,af,none⟩::rest) e w:=by
 obtain⟨p,hp,_⟩:=hR 0 (by simpa [Nat.blt_eq]using hn);obtain⟨q,rfl⟩:∃q,A=some q:=by cases A with | none=>simp [aq]at hp | some q=>exact⟨q,rfl⟩
 obtain⟨fd,iL,rfl,rfl⟩:=OM hf;have nB:fs[m]?=some fd:=by simpa using iL
 obtain⟨inf,hi,fv,hs,iS⟩:=bp.get P fd.type;refine .val (w':=w) ?_ hb hK;simp [execOp,Instr.fieldAt,run_underlying (bB.out (P:=P) (t:=s)),nB,hx,Instr.sureAddr,fieldPlace,sizeOf,typeInfo,hi,hs,aq]
theorem aa.bq{fs:Array Field}(m:Nat)[bB P t (.struct fs)][bp P t z (m+1) b]{A:aiC}{f:Nat→Value}(hR:Rd w A (m+1) f)(hx:ev e x= .pointer A)(pP:((List.range (m+1)).map f).toArray=cs)(hb:Nat.blt d N=true)(hK:aa P N ops K rest (a7 e d (.agg cs)) w):aa P N ops K (⟨some d,.load t x,ty,pos,af,none⟩::rest) e w:=by
 obtain⟨p,hp,_⟩:=hR 0 (by omega);obtain⟨q,rfl⟩:∃q,A=some q:=by cases A with | none=>simp [aq]at hp | some q=>exact⟨q,rfl⟩
 obtain⟨inf,hi,fv,hs,iS⟩:=bp.get P t;have hl:=run_loadCells (P:=P) w q (m+1) f (fun j hj=>by
  obtain⟨p,hp,hc⟩:=hR j hj;simp [aq]at hp;rw [hp];exact hc)
 subst pP;refine .val (w':=w) ?_ hb hK;simp [execOp,Instr.loadAt,hx,Instr.sureAddr,loadVar,isAgg,run_underlying (bB.out (P:=P) (t:=t)),sizeOf,typeInfo,hi,hs,hl]
theorem oA(A:aiC):aq A 0=A:=by cases A<;>simp [aq,Addr.add]
theorem TW(A:aiC)(i j:Nat):aq (aq A i) j=aq A (i+j):=by
 cases A with
 | none=>rfl
 | some q=>simp only [aq,Option.map_some];unfold Addr.add;by_cases h1:i=0<;>by_cases h2:j=0<;>simp [h1,h2,Nat.add_assoc]
theorem Rd.behind{A:aiC}{n o:Nat}{f:Nat→Value}(hR:Rd w A n f)(h:o+m≤n):Rd w (aq A o) m (fun j=>f (o+j)):=fun j hj=>by
 obtain⟨p,hp,hc⟩:=hR (o+j) (by omega);exact⟨p,by rw [TW];exact hp,hc⟩
abbrev Bx(t:TypeId)(n:Nat)(A:aiC)(vs:List Value):Ck:=⟨A,n,n,t,vs⟩
theorem iI{el:TypeId}(hS:St w0 w ks)(hx:ev e x= .agg #[v0])(hb:Nat.blt d N=true)(hK:∀A w',St w0 w' (Bx el 1 A [v0]::ks)→aa P N ops K rest (a7 e d (.pointer A)) w')(hM:eH [v0]=false:=by rfl):aa P N ops K (⟨some d,.box el x,ty,pos,af,none⟩::rest) e w:= .FN hS hx hb rfl hK hM
theorem gS{el:TypeId}{s:Nat}[bp P el (.agg #[v0]) s b](hS:St w0 w ks)(hb:Nat.blt d N=true)(hK:∀A w',St w0 w' (Bx el 1 A [v0]::ks)→aa P N ops K rest (a7 e d (.pointer A)) w')(hM:eH [v0]=false:=by rfl):aa P N ops K (⟨some d,.alloc el,ty,pos,af,none⟩::rest) e w:= .new (el:=el) (z:= .agg #[v0]) (s:=s) (b:=b) hS hb rfl hK hM
theorem aM{u:TypeDesc}[bB P t u]{A A1:aiC}{n n1 c1:Nat}{f:Nat→Value}(hR:Rd w A n f)(hx:ev e x= .pointer (aq A j))(hj:Nat.blt j n=true)(hv:f j= .slice A1 n1 c1)(hp:xj u=true)(hb:Nat.blt d N=true)(hK:aa P N ops K rest (a7 e d (.slice A1 n1 c1)) w):aa P N ops K (⟨some d,.load t x,ty,pos,af,none⟩::rest) e w:= .ld hR hx (by simpa [Nat.blt_eq]using hj) hv hp hb hK
theorem gK{u:TypeDesc}[bB P t u]{A:aiC}{n:Nat}{k:IntKind}{f:Nat→Value}(hR:Rd w A n f)(hx:ev e x= .pointer (aq A j))(hj:Nat.blt j n=true)(hv:f j= .int k i)(hp:xj u=true)(hb:Nat.blt d N=true)(hK:aa P N ops K rest (a7 e d (.int k i)) w):aa P N ops K (⟨some d,.load t x,ty,pos,af,none⟩::rest) e w:= .ld hR hx (by simpa [Nat.blt_eq]using hj) hv hp hb hK
def rO(vs:List Value)(o:Nat):List Value→List Value
 | []=>vs
 | c::r=>rO (vs.set o c) (o+1) r
theorem Uf{k:Ck}(i:Nat):∀(cs:List Value) (ks:List Ck) (vs:List Value) (w:World) (o:Nat) (p:Addr),St w0 w ks→ks[i]?=some { k with vs:=vs }→aq k.A o=some p→o+cs.length≤k.n→(∀u∈cs,u.oneCell'=true)→∀m q,aq k.A m=some q→o=m+ (o - m)→
 m≤o→∃w',(storeCells q cs (o - m)).run P w= .ok () w'∧St w0 w' (ks.set i { k with vs:=rO vs o cs })
 | [],ks,vs,w,o,p,hS,hk,_,_,_,m,q,_,_,_=> ⟨w,by simp [storeCells],by
  have:ks.set i { k with vs:=rO vs o [] }=ks:=by
   apply List.ext_getElem?;intro j;rw [oI]
   split
   ·rename_i e;subst e;rw [hk,aj (ia.1 hk).1];rfl
   ·rfl
  rw [this];exact hS⟩
 | c::r,ks,vs,w,o,p,hS,hk,hp,hl,h1,m,q,hq,ho,hm=>by
  simp only [List.length_cons]at hl;obtain⟨p',tK,⟨v,hc⟩,hf,oi⟩:=hS.store i hk (j:=o) (by show o<k.n;omega) c (h1 c (by simp));have RG:q.add (o - m)=p':=by
   have:aq (aq k.A m) (o - m)=some p':=by rw [TW,←ho];exact tK
   rw [hq]at this;simpa [aq]using this
  have fY:=(ia.1 hk).1
  by_cases hr:r=[]
  ·subst hr;refine⟨_,?_,oi⟩;simp [storeCells,RG,run_store _ _ _ _ _ (h1 c (by simp)),hc,hf]
  ·have bW:0<r.length:=by cases r with | nil=>exact absurd rfl hr | cons _ _=>simp
   obtain⟨p2,gX⟩:∃p2,aq k.A (o+1)=some p2:=by
    obtain⟨x,hx,_⟩:=(hS.rd i hk) (o+1) (by show o+1<k.n;omega);exact⟨x,hx⟩
   obtain⟨w2,uM,ar⟩:=Uf i r _ (vs.set o c) _ (o+1) p2 oi (by rw [oI];simp [fY]) gX (by omega) (fun u hu=>h1 u (by simp [hu])) m q hq (by omega) (by omega);refine⟨w2,?_,by simpa [rO]using ar⟩;have e1:o+1 - m=o - m+1:=by omega
   rw [e1]at uM;simp [storeCells,RG,run_store _ _ _ _ _ (h1 c (by simp)),hc,hf,uM]
theorem aa.Uq{o:Nat}(m:Nat)[bp P t z m b]{a:Operand}(i:Nat){k:Ck}(hS:St w0 w ks)(hk:ks[i]?=some k)(ha:ev e a= .pointer (aq k.A o))(hx:ev e x= .agg cs)(pP:cs.size=m)(wi:cs.toList.all Value.oneCell'=true)(uJ:Nat.blt 0 m=true)(zL:Nat.ble (o+m) k.n=true)(hK:∀w',St w0 w' (ks.set i { k with vs:=rO k.vs o cs.toList })→aa P N ops K rest e w'):aa P N ops K (⟨none,.store t a x,ty,pos,af,none⟩::rest) e w:=by
 have hn:0<m∧o+m≤k.n:=⟨by simpa [Nat.blt_eq]using uJ,Nat.le_of_ble_eq_true zL⟩;have h1:∀u∈cs.toList,u.oneCell'=true:=fun u hu=>List.all_eq_true.1 wi u hu
 obtain⟨p,hp,_⟩:=(hS.rd i hk) o (by omega);obtain⟨w',uM,oi⟩:=Uf (P:=P) (k:=k) i cs.toList ks k.vs w o p hS hk hp (by simp;omega) h1 o p hp (by omega) (by omega);obtain⟨inf,hi,_,hs,_⟩:=bp.get P t;refine .unit (w':=w') ?_ (hK _ oi);rw [Nat.sub_self]at uM;simp [execOp,Instr.storeAt,ha,hx,hp,Instr.sureAddr,storeVar,sizeOf,typeInfo,hi,hs,Value.cells,pP,uM]
theorem bG(m:Nat)[bp P t z m b]{a:Operand}(i:Nat){k:Ck}(hS:St w0 w ks)(hk:ks[i]?=some k)(ha:ev e a= .pointer k.A)(hx:ev e x= .agg cs)(pP:cs.size=m)(h1:cs.toList.all Value.oneCell'=true)(uJ:Nat.blt 0 m=true)(zL:Nat.ble (0+m) k.n=true)(hK:∀w',St w0 w' (ks.set i { k with vs:=rO k.vs 0 cs.toList })→aa P N ops K rest e w'):aa P N ops K (⟨none,.store t a x,ty,pos,af,none⟩::rest) e w:=
 .Uq m i hS hk (by rw [oA];exact ha) hx pP h1 uJ zL hK
theorem jS[bp P t z 1 b]{a:Operand}(i:Nat){k:Ck}{u:Value}(hS:St w0 w ks)(hk:ks[i]?=some k)(ha:ev e a= .pointer (aq k.A j))(hx:ev e x=u)(h1:u.oneCell'=true)(hj:Nat.blt j k.n=true)(hK:∀w',St w0 w' (ks.set i { k with vs:=k.vs.set j u })→aa P N ops K rest e w'):aa P N ops K (⟨none,.store t a x,ty,pos,af,none⟩::rest) e w:= .st hS hk ha hx h1 (by simpa [Nat.blt_eq]using hj) hK
def T7(a n:Nat)(R:Value→World→Prop):jm
 | .normal,e,w=>∃A f,e a= .pointer A∧Rd w A n f∧R (.agg ((List.range n).map f).toArray) w
 | .ret,e,w=>∃A f,e a= .pointer A∧Rd w A n f∧R (.agg ((List.range n).map f).toArray) w
 | _,_,_=>False
theorem kX{a n:Nat}{R:Value→World→Prop}{A:aiC}{f:Nat→Value}(h:e a= .pointer A)(hR:Rd w A n f)(h2:R (.agg ((List.range n).map f).toArray) w):T7 a n R .ret e w:=⟨A,f,h,hR,h2⟩
theorem HT{fs:Array Field}{n:Nat}[bB P t (.struct fs)][bp P t z n b]{A:aiC}{f:Nat→Value}(hn:0<n)(hR:Rd w A n f):∃q,A=some q∧(loadVar t q).run P w= .ok (.agg ((List.range n).map f).toArray) w:=by
 obtain⟨p,hp,_⟩:=hR 0 hn;obtain⟨q,rfl⟩:∃q,A=some q:=by cases A with | none=>simp [aq]at hp | some q=>exact⟨q,rfl⟩
 obtain⟨inf,hi,fv,hs,iS⟩:=bp.get P t;have hl:=run_loadCells (P:=P) w q n f (fun j hj=>by
  obtain⟨p,hp,hc⟩:=hR j hj;simp [aq]at hp;rw [hp];exact hc)
 exact⟨q,O,by simp [loadVar,isAgg,run_underlying (bB.out (P:=P) (t:=t)),sizeOf,typeInfo,hi,hs,hl]⟩
theorem qH{fn:Func}{R:Value→World→Prop}{a t n:Nat}{fs:Array Field}[bB P t (.struct fs)][bp P t z n b](hr:fn.results= #[.cell a t])(wN:Nat.blt 0 n=true):∀x a1 e w,jE N a1 e→T7 a n R x e w→bodyPost P fn (fun x w'=>∃v,x= .returned v∧R v w') x a1 w:=by
 intro x a1 e w he q;have hn:0<n:=by simpa [Nat.blt_eq]using wN
 have hg:=he.get a;have key:∀(A:aiC) (f:Nat→Value),e a= .pointer A→Rd w A n f→(results fn a1.tmps).run P w= .ok (.agg ((List.range n).map f).toArray) w:=by
  intro A f hA hR;obtain⟨q,rfl,hl⟩:=HT (P:=P) (t:=t) hn hR;rw [iN]at hg;simp [results,hr,hg,hA,asAddr,hl]
 cases x<;>first
  | exact q.elim
  | (
   obtain⟨A,f,hA,hR,h2⟩:=q;exact⟨he.defers,_,key A f hA hR,_,O,h2⟩)
def cutAt(A:aiC)(c l:Nat):aiC:=if c=l then A else aq A l
theorem Rd.cut{A:aiC}{n c:Nat}{f:Nat→Value}(hR:Rd w A n f)(hl:l≤h)(hn:h≤n)(hc:n≤c):Rd w (cutAt A c l) (h - l) (fun j=>f (l+j)):=fun j hj=>by
 obtain⟨p,hp,QD⟩:=hR (l+j) (by omega);refine⟨p,?_,QD⟩;unfold cutAt;rw [ag (by omega)];cases A with
 | none=>simp [aq]at hp
 | some q=>
  simp only [aq,Option.map_some,pj]at hp⊢;rw [←hp];unfold Addr.add
  by_cases wK:l=0<;>by_cases Q6:j=0<;>simp [wK,Q6,Nat.add_assoc]
theorem bS.cut{A:aiC}{n c:Nat}{xs:List Int}(hR:bS w A n xs)(hl:l≤h)(hn:h≤n)(hc:n≤c):bS w (cutAt A c l) (h - l) ((xs.drop l).take (h - l)):=
 ⟨by have:=hR.1;simp;omega,(hR.2.cut hl hn hc).congr fun j hj=>by simp [cJ,rW,hj]⟩
theorem jD.cut{A:aiC}{n c:Nat}{xs:List aG}(hR:jD w A n xs)(hl:l≤h)(hn:h≤n)(hc:n≤c):jD w (cutAt A c l) (h - l) ((xs.drop l).take (h - l)):=
 ⟨by have:=hR.1;simp;omega,(hR.2.cut hl hn hc).congr fun j hj=>by simp [cJ,rW,hj]⟩
theorem FA{el:TypeId}[hU:bB P t (.slice el)][bp P el z 1 b]{lo:Operand}{A:aiC}{n c:Nat}{k:IntKind}{l:Int}(hx:ev e x= .slice A n c)(hl:ev e lo= .int k l)(hb:Nat.blt d N=true)(h0:0≤l∧l≤(n:Int))(hK:aa P N ops K rest (a7 e d (.slice (cutAt A c l.toNat) (n - l.toNat) (c - l.toNat))) w):aa P N ops K (⟨some d,.slice t x (some lo) none none,ty,pos,af,none⟩::rest) e w:=by
 obtain⟨inf,hi,fv,hs,iS⟩:=bp.get P el;refine .val (w':=w) ?_ hb hK;have:=run_sliceBound (P:=P) w k l n .sliceB h0.1 h0.2;simp [execOp,hx,hl,Instr.sliceAt,run_underlying hU.out,Instr.slice,Instr.sliceBounds,this,sizeOf,typeInfo,hi,hs,cutAt,aq]
theorem Ic{el:TypeId}[hU:bB P t (.slice el)][bp P el z 1 b]{dT:Operand}{A:aiC}{n c:Nat}{k:IntKind}{h:Int}(hx:ev e x= .slice A n c)(hh:ev e dT= .int k h)(hb:Nat.blt d N=true)(h0:0≤h∧h≤(c:Int))(hK:aa P N ops K rest (a7 e d (.slice A h.toNat c)) w):aa P N ops K (⟨some d,.slice t x none (some dT) none,ty,pos,af,none⟩::rest) e w:=by
 obtain⟨inf,hi,fv,hs,iS⟩:=bp.get P el;refine .val (w':=w) ?_ hb hK;have:=run_sliceBound (P:=P) w k h c .sliceAcap h0.1 h0.2;have hA:A.map (fun x=>x.add 0)=A:=by cases A<;>simp [Addr.add]
 simp [execOp,hx,hh,Instr.sliceAt,run_underlying hU.out,Instr.slice,Instr.sliceBounds,this,sizeOf,typeInfo,hi,hs,hA]
theorem afR{el:TypeId}[hU:bB P t (.slice el)][bp P el z 1 b]{z0:Value}(hz:z.cells= #[z0]){k:Ck}(i:Nat)(hS:St w0 w ks)(hk:ks[i]?=some k)(hM:eH k.vs=false)(he:k.e=el){A':aiC}{c':Nat}{f:Nat→Value}(hR:Rd w A' m f)(h1:∀j,j<m→(f j).oneCell'=true)
 (ur:k.n+m≤maxLen) (sy:(k.n+m)*b≤140737488355328) (ty:TypeId):
 ∃A2 c2 w',(Builtin.append_ #[t,t] ty #[.slice k.A k.n k.c,.slice A' m c']).run P w= .ok (.slice A2 (k.n+m) c2) w'∧St w0 w' (ks.set i ⟨A2,k.n+m,c2,el,k.vs++ (List.range m).map f⟩)∧(k.n=k.c→Below w.heap.size w w'):=by
 subst he;obtain⟨inf,hi,fv,hs,iS⟩:=bp.get P k.e;have Er:=hS.tp hk hM;have JT:eH (k.vs++ (List.range m).map f)=false:=Si hM (xb fun u hu=>by
  obtain⟨j,hj,rfl⟩:=dh.1 hu;exact h1 j (by simpa using hj))
 obtain⟨hl,qu,qo,h4⟩:=Er;have zH:=(ia.1 hk).1
 by_cases hm:m=0
 ·subst hm;refine⟨k.A,k.c,w,?_,?_,fun _=>Below.refl _ _⟩
  ·cases A' with
   | none=>cases hkA:k.A<;>simp [Builtin.append_,run_underlying hU.out,sizeOf,typeInfo,hi,Builtin.lenOf,Builtin.firstCells,qu,storeCells]
   | some a=>
    have wK:=run_loadCells (P:=P) w a 0 f (fun j hj=>by omega);cases hkA:k.A<;>simp [Builtin.append_,run_underlying hU.out,sizeOf,typeInfo,hi,Builtin.lenOf,Builtin.firstCells,qu,storeCells,loadCells,loadCellsFrom]
  ·have:ks.set i ⟨k.A,k.n+0,k.c,k.e,k.vs++ (List.range 0).map f⟩=ks:=by
    have h5:(⟨k.A,k.n+0,k.c,k.e,k.vs++ (List.range 0).map f⟩:Ck)=k:=by simp
    rw [h5];apply List.ext_getElem?;intro j;rw [oI]
    split
    ·rename_i e;subst e;rw [hk]
     try simp [zH]
    ·rfl
   rw [this];exact hS
 ·obtain⟨a,rfl⟩:∃a,A'=some a:=by
   obtain⟨p,hp,_⟩:=hR 0 (by omega);cases A' with | none=>simp [aq]at hp | some q=>exact⟨q,rfl⟩
  have ig:((List.range m).map f).length=m:=by simp
  have wO:∀j v,((List.range m).map f)[j]?=some v→w.cell? (a.add j)=some v:=by
   intro j v hj;have Ch:j<m:=by have:=(ia.1 hj).1;simpa using this
   obtain⟨p,hp,hc⟩:=hR j Ch;simp only [aq,Option.map_some,pj]at hp;rw [hp,hc,←hj];simp [Ch]
  have wi:∀u∈(List.range m).map f,u.oneCell'=true:=by
   intro u hu;obtain⟨j,hj,rfl⟩:=dh.1 hu;exact h1 j (by simpa using hj)
  have fresh:∀(cs:List Value) (c2:Nat),eH cs=false→k.n+m≤c2→c2≤maxLen→cs.length=c2→cs.take (k.n+m)=k.vs++ (List.range m).map f→
   St w0 (w.drew.alloc (.cells cs.toArray k.e)) (ks.set i ⟨some ⟨w.heap.size,0,none⟩,k.n+m,c2,k.e,k.vs++ (List.range m).map f⟩):=by
   intro cs c2 Za h5 h6 h7 h8;have hA:=hS.drew.alloc cs k.e (by omega) Za;have hp:(⟨some ⟨w.heap.size,0,none⟩,cs.length,cs.length,k.e,cs⟩::ks).Perm (k::(ks.set i ⟨some ⟨w.heap.size,0,none⟩,cs.length,cs.length,k.e,cs⟩)):=by
    have gen:∀(l:List Ck) (i:Nat) (x y:Ck),l[i]?=some y→(x::l).Perm (y::l.set i x):=by
     intro l
     induction l with
     | nil=>intro i x y h;simp at h
     | cons u l ih=>
      intro i x y h;cases i with
      | zero=>simp at h;subst h;exact List.Perm.swap _ _ _
      | succ i=>
       simp only [List.getElem?_cons_succ]at h;simp only [List.set_cons_succ];exact(List.Perm.swap _ _ _).trans (((ih i x y h).cons u).trans (List.Perm.swap _ _ _))
    exact gen ks i _ _ hk
   have hB:=(hA.perm hp).tail;refine⟨hB.below,fun x hx=>?_,?_⟩
   ·obtain⟨j,hj,rfl⟩:=gJ.1 hx;have kF:j<ks.length:=by simpa using hj
    rw [List.getElem_set]
    split
    ·refine .rI JT ⟨?_,h5,h6,.inr ⟨w.heap.size,0,cs.toArray,O,hS.below.size,heap_alloc_new w.drew _,by simp;omega,fun q hq=>?_⟩⟩
     ·simp [hl]
     ·have Es:q<k.n+m:=hq;show cs.toArray[0+q]?=(k.vs++ (List.range m).map f)[q]?;rw [←h8];simp [rW,Es]
    ·rename_i bt;refine hB.own _ (gJ.2 ⟨j,by simpa using kF,?_⟩);rw [List.getElem_set,ag bt]
   ·have h9:=hB.apart;rw [show(ks.set i ⟨some ⟨w.heap.size,0,none⟩,k.n+m,c2,k.e,k.vs++ (List.range m).map f⟩).filterMap Ck.ie=(ks.set i ⟨some ⟨w.heap.size,0,none⟩,cs.length,cs.length,k.e,cs⟩).filterMap Ck.ie from ?_]
    ·exact h9
    ·have:=Gd Ck.ie (ks.set i ⟨some ⟨w.heap.size,0,none⟩,cs.length,cs.length,k.e,cs⟩) i ⟨some ⟨w.heap.size,0,none⟩,cs.length,cs.length,k.e,cs⟩ ⟨some ⟨w.heap.size,0,none⟩,k.n+m,c2,k.e,k.vs++ (List.range m).map f⟩ (by rw [oI];simp [zH]) O;rw [←this];simp
  have JB:((k.n+m:Nat):Int)≤9223372036854775807:=by simp only [maxLen]at ur;omega
  rcases h4 with⟨hA,h0⟩ | ⟨g,o,cur,hA,hg,hh,l7,hc⟩
  ·have qt:k.n=0:=by omega
   have wV:k.vs=[]:=s7 (by omega);have hr:=run_append_nil (P:=P) w t ty k.e inf z hU.out hi fv a m c' _ (by rw [ig,hs,Nat.mul_one]) wO (by omega) (by omega) (by rw [iS];rw [qt,Nat.zero_add]at sy;omega);have zE:=grownCap_ge w m 0 k.e;refine⟨_,_,_,?_,fresh (((List.range m).map f)++List.replicate (grownCap w m 0 k.e - m) z0) (grownCap w m 0 k.e) (EL (xb wi) (by intro hn;have:=ax List.length hn;simp at this;omega)) (by omega) (grownCap_le_maxLen w m 0 k.e (by omega)) (by simp;omega) (by rw [wV,qt];simp),fun _=> (Below.refl w.heap.size w).drew.alloc (a8 _) _⟩;have Lu:Builtin.zeroCells z.cells (grownCap w m 0 k.e - m)=(List.replicate (grownCap w m 0 k.e - m) z0).toArray:=by
    rw [hz];simp only [Builtin.zeroCells];exact(show _=_ from by have:=LX z0 (grownCap w m 0 k.e - m);simpa [madeCells]using this)
   rw [hA,h0,qt,Nat.zero_add,hr,Lu,List.append_toArray]
  ·by_cases Ez:k.n+m≤k.c
   ·have hf:=run_firstCells_some (P:=P) w inf.size m a m c' _ (by rw [ig,hs,Nat.mul_one]) wO;have ak:=run_storeCells_at P g (o+k.n) k.e ((List.range m).map f) 0 cur w hh (by rw [ig];omega) wi;simp only [Nat.add_zero]at ak;refine⟨some ⟨g,o,none⟩,k.c,_,?_,hS.turn (k:=k) (g:=g) hk (by simp [Ck.ie,hA]) (by simp [Ck.ie]) (w':=w.setRow g (cur.toList.take (o+k.n)++ (List.range m).map f++cur.toList.drop (o+k.n+ ((List.range m).map f).length)).toArray) ?_ ?_,fun h=>absurd Ez (by omega)⟩
    ·rw [hA];simp [Builtin.append_,run_underlying hU.out,sizeOf,typeInfo,hi,hs,Builtin.lenOf,Ez,Addr.add_lit];rw [hs]at hf;simp only [fN,pe]at ak⊢;simp [hf,ak]
    ·exact⟨⟨O,O,O,by simp,fun x _ hx=>setRow_other w g x _ (fun e=>hx (by rw [e]))⟩,a8 _⟩
    ·refine .rI JT ⟨by simp [hl],Ez,qo,.inr ⟨g,o,_,O,hg,setRow_heap w g cur _ k.e _ hh,?_,fun j hj=>?_⟩⟩
     ·simp;omega
     ·have kF:j<k.n+m:=hj;show((cur.toList.take (o+k.n)++ (List.range m).map f++cur.toList.drop (o+k.n+ ((List.range m).map f).length)).toArray)[o+j]?=(k.vs++ (List.range m).map f)[j]?;have cg:cur.toList.length=cur.size:=by simp
      rw [List.getElem?_toArray]
      by_cases tG:j<k.n
      ·rw [fR,lQ (by simp;omega),rW,aj (by omega),lQ (by omega)];rw [Array.getElem?_toList];exact hc j tG
      ·rw [fR,jQ (by simp;omega),lQ (by simp;omega),jQ (by omega)]
       congr 1
       simp;omega
   ·have holds:∀j v,k.vs[j]?=some v→w.cell? ((⟨g,o,none⟩:Addr).add j)=some v:=by
     intro j v hj;have tG:j<k.n:=by have:=(ia.1 hj).1;omega
     rw [Bg];simp only [World.cell?,hh];simpa [hc j tG]using hj
    have hr:=run_append_grow (P:=P) w t ty k.e inf z hU.out hi fv ⟨g,o,none⟩ k.n k.c k.vs (by rw [hl,hs,Nat.mul_one]) holds a m c' _ (by rw [ig,hs,Nat.mul_one]) wO (by omega) JB (growslice_fits (by omega) (by rw [iS];exact sy));have zE:=grownCap_ge w (k.n+m) k.c k.e;refine⟨_,_,_,?_,fresh (k.vs++ (List.range m).map f++List.replicate (grownCap w (k.n+m) k.c k.e - (k.n+m)) z0) (grownCap w (k.n+m) k.c k.e) (EL JT (by intro hn;have:=ax List.length hn;simp at this;omega)) (by omega) (grownCap_le_maxLen w (k.n+m) k.c k.e ur) (by simp [hl];omega) (by rw [xG (by simp [hl])];exact lS (by simp [hl])),fun _=> (Below.refl w.heap.size w).drew.alloc (a8 _) _⟩;have Lu:Builtin.zeroCells z.cells (grownCap w (k.n+m) k.c k.e - (k.n+m))=(List.replicate (grownCap w (k.n+m) k.c k.e - (k.n+m)) z0).toArray:=by
     rw [hz];simp only [Builtin.zeroCells];exact(show _=_ from by have:=LX z0 (grownCap w (k.n+m) k.c k.e - (k.n+m));simpa [madeCells]using this)
    rw [hA,hr,Lu,List.append_toArray,List.append_toArray]
theorem aa.app{el:TypeId}[hU:bB P t (.slice el)][bp P el z 1 b]{y:Operand}{k:Ck}(i:Nat){A':aiC}{c':Nat}{f:Nat→Value}(hS:St w0 w ks)(hk:ks[i]?=some k)(hR:Rd w A' m f)(hx:ev e x= .slice k.A k.n k.c)(hy:ev e y= .slice A' m c')(he:k.e=el){z0:Value}(hz:z.cells= #[z0])(h1:∀j,j<m→(f j).oneCell'=true)(ur:k.n+m≤maxLen)(sy:(k.n+m)*b≤140737488355328)(hb:Nat.blt d N=true)(hK:∀A2 c2 w',St w0 w' (ks.set i ⟨A2,k.n+m,c2,el,k.vs++ (List.range m).map f⟩)→aa P N ops K rest (a7 e d (.slice A2 (k.n+m) c2)) w')(hM:eH k.vs=false:=by first | rfl | exact tS _ | exact EK _ | exact Cy _):
 aa P N ops K (⟨some d,.call ⟨.builtin .append, #[x,y], #[t,t]⟩,ty,pos,af,none⟩::rest) e w:=by
 obtain⟨A2,c2,w',hr,oi,_⟩:=afR (P:=P) (t:=t) hz i hS hk hM he hR h1 ur sy ty (c':=c');refine .val (w':=w') ?_ hb (hK _ _ _ oi);simp [execOp,resolve,invoke,builtin,hx,hy,hr]
end
inductive Yd where
 | ex (v:Value)
 | pr (p:Value→World→Prop)
def Yd.holds:Yd→Value→World→Prop
 | .ex v,u,_=>u=v
 | .pr p,u,w=>p u w
def Yd.qA:Yd→Prop
 | .ex _=>True
 | .pr p=>∀v w w',p v w→Below w.heap.size w w'→p v w'
theorem Yd.ada(v:Value):(Yd.ex v).qA:=True.intro
theorem lx{v:Value}{l:List Yd}(h:∀y∈l,y.qA):∀y∈Yd.ex v::l,y.qA:=bV.2 ⟨True.intro,h⟩
theorem Yd.b9{p:Value→World→Prop}(h:∀v w w',p v w→Below w.heap.size w w'→p v w'):(Yd.pr p).qA:=h
abbrev xU:Yd:= .ex undef
abbrev xI(i:Int):Yd:= .ex (aiD i)
abbrev xB(b:Bool):Yd:= .ex (.bool b)
abbrev xP(a:aiC):Yd:= .ex (.pointer a)
abbrev xS(a:aiC)(n c:Nat):Yd:= .ex (.slice a n c)
theorem V0{y:Yd}(hl:y.qA){v:Value}{w w':World}(h:y.holds v w)(hb:Below w.heap.size w w'):y.holds v w':=by
 cases y with
 | ex u=>exact h
 | pr p=>exact hl v w w' h hb
def gz(ds:List Nat)(i:Nat):Bool:=match ds with
 | []=>false
 | d::r=>bif Nat.beq i d then true else gz r i
theorem yE{ds:List Nat}{i:Nat}:gz ds i=true↔i∈ds:=by
 induction ds with
 | nil=>simp [gz]
 | cons d r ih=>
  simp only [gz,iW];cases hb:Nat.beq i d with
  | true=>simp [oL hb]
  | false=>
   have:i≠d:=fun e=>by subst e;simp at hb
   simp [this,ih]
def mix(e1 e:Env)(ds:List Nat):Env:=fun i=>bif gz ds i then e1 i else e i
def fm(o:Oper):List Edge:=o.after.toList.filter (Region.binds .any)
theorem qD{o:Oper}{ed:Edge}:ed∈fm o↔ed∈o.after∧Region.binds .any ed=true:=by
 simp [fm]
def eW(o:Oper):Nat:=match o.dst with
 | some d=>d
 | none=>0
def Ot(N:Nat)(l:List Oper):Bool:=
 l.all (fun o=>match o.dst with | some d=>Nat.blt d N | none=>false) && decide ((l.map eW).Nodup) && (l.zipIdx.all fun p=> (fm p.1).all fun ed=>Nat.blt ed.on p.2)
def ui(l:List Oper)(ys:List Yd):List Edge→List (Nat×Value)
 | []=> []
 | ed::r=>match ys[ed.on]? with
  | some (.ex v)=> (((l[ed.on]?).map eW).getD 0,v)::ui l ys r
  | _=>ui l ys r
def vm:List Oper→List Yd→(Nat→Value)→Nat→List (Nat×Value)
 | o::l,.ex v::ys,u,i=> (eW o,v)::vm l ys u (i+1)
 | o::l,.pr _::ys,u,i=> (eW o,u i)::vm l ys u (i+1)
 | _,_,_,_=> []
def jF(l:List Oper):Nat→Nat→Nat→Bool
 | 0,_,_=>false
 | f+1,k,j=>match l[k]? with
  | some o=> (fm o).any fun ed=>Nat.beq ed.on j || jF l f ed.on j
  | none=>false
theorem xR{l:List Oper}{listed:Array Bool}(cg:∀(i:Nat) (o:Oper),listed.getD i false=true→l[i]?=some o→∀ed∈fm o,listed.getD ed.on false=true):∀(f k j:Nat),jF l f k j=true→listed.getD k false=true→listed.getD j false=true
 | 0,k,j,h,_=>by simp [jF]at h
 | f+1,k,j,h,hk=>by
  simp only [jF]at h
  split at h
  ·rename_i o ho;rw [List.any_eq_true]at h;obtain⟨ed,fL,h⟩:=h;have h1:=cg k o hk ho ed fL;rw [Bool.or_eq_true]at h;rcases h with h | h
   ·rw [←oL h];exact h1
   ·exact xR cg f ed.on j h h1
  ·cases h
theorem Iu{l:List Oper}{listed:Array Bool}(cg:∀(i:Nat) (o:Oper),listed.getD i false=true→l[i]?=some o→∀ed∈fm o,listed.getD ed.on false=true){k:Nat}{o:Oper}(ho:l[k]?=some o)(hr:∀ed∈fm o,listed.getD ed.on false=true):∀(f j:Nat),jF l f k j=true→listed.getD j false=true
 | 0,j,h=>by simp [jF]at h
 | f+1,j,h=>by
  simp only [jF,ho]at h;rw [List.any_eq_true]at h;obtain⟨ed,fL,h⟩:=h;have h1:=hr ed fL;rw [Bool.or_eq_true]at h;rcases h with h | h
  ·rw [←oL h];exact h1
  ·exact xR cg f ed.on j h h1
section
variable{i d:Nat}{w1:World}{y:Yd}{ops:Array Oper}{o:Oper}{l:List Oper}
variable {P:Program} {N:Nat} {e:Env} {w:World}
def gD(i:Nat)(e1:Env)(w1:World)(d:Nat)(y:Yd):Env→World→Prop:=fun e2 w2=>Below w1.heap.size w1 w2∧y.holds (e2 d) w2∧∀j,j≠d→e2 j=e1 j
theorem gD.dn{e1:Env}{w2:World}{v:Value}(hb:Below w1.heap.size w1 w2)(hv:y.holds v w2):gD i e1 w1 d y (a7 e1 d v) w2:=by
 refine⟨hb,?_,fun j hj=>?_⟩
 ·have:a7 e1 d v d=v:=by unfold a7;rw [Nat.beq_refl];rfl
  rw [this];exact hv
 ·have:Nat.beq j d=false:=by
   cases h:Nat.beq j d with
   | false=>rfl
   | true=>exact absurd (oL h) hj
  unfold a7;rw [this];rfl
theorem d0{e1:Env}{v:Value}(hv:y.holds v w1):gD i e1 w1 d y (a7 e1 d v) w1:=gD.dn (Below.refl _ _) hv
theorem Az{e1:Env}{v:Value}(hv:y.holds v w1):aa P N ops (gD i e1 w1 d y) [] (a7 e1 d v) w1:=aa.n (gD.dn (Below.refl _ _) hv)
def u5(ops:Array Oper)(N:Nat)(e:Env)(o:Oper):Option (Nat×Value):=
 match o.guard with
 | none=>sS N e o
 | some (j,want)=>match o.dst,(ops[j]?).bind (·.dst)with
  | some d,some dj=> (match Nat.blt dj N,Nat.blt d N with
   | true,true=> (match e dj with
    | .bool b=> (match b,want with
     | true,true=>sS N e ⟨some d,o.op,o.type,o.pos,o.after,none⟩
     | false,false=>sS N e ⟨some d,o.op,o.type,o.pos,o.after,none⟩
     | true,false=>some (d,undef)
     | false,true=>some (d,undef))
    | .tuple vs=> (match vs.toList with
     | []=>some (d,undef)
     | _=>none)
    | _=>none)
   | _,_=>none)
  | _,_=>none
theorem aa.u5{K:Env→World→Prop}{e1:Env}{v:Value}(h:u5 ops N e1 o=some (d,v))(hK:K (a7 e1 d v) w1):aa P N ops K [o] e1 w1:=by
 obtain⟨dst,op,ty,pos,af,gd⟩:=o;unfold Vc.u5 at h
 split at h
 ·exact .sS h (aa.n hK)
 rename_i j want hg;simp only at hg;subst hg
 split at h
 ·rename_i d' dj hd hj;simp only at hd;subst hd
  split at h
  ·rename_i fY hb
   split at h
   ·rename_i b he
    split at h
    ·exact aa.g hj fY he (.sS h (aa.n hK))
    ·exact aa.g hj fY he (.sS h (aa.n hK))
    ·simp only [pj,Prod.mk.injEq]at h;obtain⟨rfl,rfl⟩:=h;exact ai hj fY he O hb (aa.n hK)
    simp only [pj,Prod.mk.injEq]at h;obtain⟨rfl,rfl⟩:=h;exact ai hj fY he O hb (aa.n hK)
   ·rename_i vs he
    split at h
    ·rename_i hv;have hu:vs= #[]:=by cases vs;simp only at hv;rw [hv]
     subst hu;simp only [pj,Prod.mk.injEq]at h;obtain⟨rfl,rfl⟩:=h;exact bM hj fY he hb (aa.n hK)
    cases h
   cases h
  cases h
 cases h
theorem Ur{e1:Env}{v:Value}(h:u5 ops N e1 o=some (d,v)):o.dst=some d:=by
 have key:∀(o:Oper),sS N e1 o=some (d,v)→o.dst=some d:=fun o h=>by
  unfold sS at h
  split at h
  ·rename_i d' hg hd
   split at h
   ·split at h
    ·simp only [pj,Prod.mk.injEq]at h;rw [hd,h.1]
    cases h
   cases h
  cases h
 unfold u5 at h
 split at h
 ·exact key _ h
 split at h
 ·rename_i d' dj hd hj;rw [hd]
  split at h
  ·split at h
   ·split at h
    ·exact key _ h
    ·exact key _ h
    ·simp only [pj,Prod.mk.injEq]at h;rw [h.1]
    simp only [pj,Prod.mk.injEq]at h;rw [h.1]
   ·split at h
    ·simp only [pj,Prod.mk.injEq]at h;rw [h.1]
    cases h
   cases h
  cases h
 cases h
theorem Dk{e1:Env}{v:Value}(h:u5 ops N e1 o=some (d,v))(hv:y.holds v w1):aa P N ops (gD i e1 w1 d y) [o] e1 w1:= .u5 h (gD.dn (Below.refl _ _) hv)
def V1:Yd→Bool
 | .ex _=>true
 | .pr _=>false
theorem eg{l:List Yd}(h:l.all V1=true):∀y∈l,y.qA:=fun y hy=>by
 have:=List.all_eq_true.1 h y hy;cases y with
 | ex v=>exact True.intro
 | pr p=>cases this
def C6(P:Program)(N:Nat)(l:List Oper)(ys:List Yd)(e:Env)(w:World):Nat→List Oper→Prop
 | _,[]=>True
 | i,o::r=> (∀e1 w1,Below w.heap.size w w1→(∀j,j<l.length→gz ((fm o).map (·.on)) j=true→∀(y:Yd) (o':Oper),ys[j]?=some y→l[j]?=some o'→y.holds (e1 (eW o')) w1)→(∀(j:Nat) (o':Oper),l[j]?=some o'→jF l l.length j i=true→e1 (eW o')=e (eW o'))→ 
  aa P N l.toArray (gD i (ext (mix e1 e (l.map eW)) (ui l ys (fm o))) w1 (eW o) (ys.getD i (.pr fun _ _=>True))) [o] (ext (mix e1 e (l.map eW)) (ui l ys (fm o))) w1)∧C6 P N l ys e w (i+1) r
theorem Dr{ys:List Yd}{v:Value}(h:(ys.getD i (.pr fun _ _=>True),fun e1=>u5 l.toArray N (ext (mix e1 e (l.map eW)) (ui l ys (fm o))) o)=(.ex v,fun _=>some (d,v))):∀e1 w1,Below w.heap.size w w1→(∀j,j<l.length→gz ((fm o).map (·.on)) j=true→∀(y:Yd) (o':Oper),ys[j]?=some y→l[j]?=some o'→y.holds (e1 (eW o')) w1)→(∀(j:Nat) (o':Oper),l[j]?=some o'→jF l l.length j i=true→e1 (eW o')=e (eW o'))→aa P N l.toArray (gD i (ext (mix e1 e (l.map eW)) (ui l ys (fm o))) w1 (eW o) (ys.getD i (.pr fun _ _=>True))) [o] (ext (mix e1 e (l.map eW)) (ui l ys (fm o))) w1:=fun e1 w1 _ _ _=>by
 have h1:=congrFun (Prod.mk.inj h).2 e1;have hd:eW o=d:=by unfold eW;rw [Ur h1]
 rw [hd,(Prod.mk.inj h).1];exact Dk h1 rfl
theorem C6.get{ys:List Yd}:∀ {r:List Oper} {i:Nat},C6 P N l ys e w i r→∀k o,r[k]?=some o→∀e1 w1,Below w.heap.size w w1→(∀j,j<l.length→gz ((fm o).map (·.on)) j=true→∀(y:Yd) (o':Oper),ys[j]?=some y→l[j]?=some o'→y.holds (e1 (eW o')) w1)→(∀(j:Nat) (o':Oper),l[j]?=some o'→jF l l.length j (i+k)=true→e1 (eW o')=e (eW o'))→ 
 aa P N l.toArray (gD (i+k) (ext (mix e1 e (l.map eW)) (ui l ys (fm o))) w1 (eW o) (ys.getD (i+k) (.pr fun _ _=>True))) [o] (ext (mix e1 e (l.map eW)) (ui l ys (fm o))) w1
 | [],_,_,k,o,hk=>by simp at hk
 | x::r,i,h,0,o,hk=>by simp at hk;subst hk;exact h.1
 | x::r,i,h,k+1,o,hk=>by
  have:=C6.get h.2 k o (by simpa using hk);simpa [Nat.add_assoc,Nat.add_comm 1 k]using this
theorem H9{a:Act}{w:World}{K K2:Act→World→Prop}{Q Q2:Exit→Act→World→Prop}(h:o.wp P a w K Q)(hK:∀a w,K a w→K2 a w)(hQ:∀x a w,x≠ .normal→¬Q x a w):o.wp P a w K2 Q2:=by
 unfold Oper.wp at*;generalize (execOp a.eval o).run P w=r at*;cases r with
 | ok n w'=>
  cases n<;>simp only [Oper.upon]at h⊢<;>first
   | exact hK _ _ h
   | (
    refine Calls.mono h fun x lO hx=>?_
    cases x with
    | returned v=>exact hK _ _ hx
    | panicked ch=>exact absurd hx (hQ _ _ _ (by simp))
    | outgrown=>obtain⟨a0,w0,hx⟩:=hx;exact absurd hx (hQ _ _ _ (by simp)))
   | exact Rows.mono h fun v lO hx=>hK _ _ hx
 | halt x w'=>
  cases x<;>simp only [Oper.upon]at h⊢
  exact absurd h (hQ _ _ _ (by simp))
theorem Hx{e1 e:Env}{ds:List Nat}(h:∀j,gz ds j=false→e1 j=e j):mix e1 e ds=e1:=by
 funext j;unfold mix;cases hm:gz ds j with
 | true=>rfl
 | false=>exact(h j hm).symm
theorem Oo{l:List Oper}{ys:List Yd}{e1:Env}{w1:World}:∀(af:List Edge),(∀ed∈af,ed.on<l.length)→(∀j,gz (af.map (·.on)) j=true→∀(y:Yd) (o':Oper),ys[j]?=some y→l[j]?=some o'→y.holds (e1 (eW o')) w1)→Mt e1 (ui l ys af)
 | [],_,_=>ae
 | ed::r,fY,h=>by
  have hr:=Oo r (fun x hx=>fY x (oK _ hx)) (fun j hj=>h j (by rw [yE]at hj⊢;exact oK _ hj));unfold ui
  split
  ·rename_i v hy;have hl:=fY ed (by simp);refine⟨?_,hr⟩;rw [gf hl];exact h ed.on (by rw [yE];simp) _ _ hy (gf hl)
  ·exact hr
theorem Oz{e1 e:Env}{w1:World}:∀(l:List Oper) (ys:List Yd) (i:Nat),l.length=ys.length→(l.map eW).Nodup→(∀(k:Nat) (y:Yd) (o:Oper),ys[k]?=some y→l[k]?=some o→y.holds (e1 (eW o)) w1)→
 ∃u:Nat→Value,ext e (vm l ys u i)=mix e1 e (l.map eW)∧(∀(k:Nat) (o:Oper),l[k]?=some o→u (i+k)=e1 (eW o))
 | [],[],i,_,_,_=> ⟨fun _=>undef,by funext j;rfl,fun k o h=>by simp at h⟩
 | [],y::ys,i,hl,_,_=>by simp at hl
 | o::l,[],i,hl,_,_=>by simp at hl
 | o::l,y::ys,i,hl,hn,h=>by
  simp only [List.map_cons,pg]at hn;obtain⟨u,hu,jM⟩:=Oz (e1:=e1) (e:=e) (w1:=w1) l ys (i+1) (by simpa using hl) hn.2 (fun k y o hy ho=>h (k+1) y o (by simpa using hy) (by simpa using ho));have h0:=h 0 y o O O;have IJ:∀(l:List Oper) (ys:List Yd) (i:Nat) (u u':Nat→Value),(∀k,i≤k→u k=u' k)→vm l ys u i=vm l ys u' i:=by
   intro l
   induction l with
   | nil=>intros;rfl
   | cons o l ih=>
    intro ys i u u' hk;cases ys with
    | nil=>rfl
    | cons y ys=>
     cases y with
     | ex v=>simp only [vm];rw [ih ys (i+1) u u' (fun k fM=>hk k (by omega))]
     | pr p=>simp only [vm];rw [ih ys (i+1) u u' (fun k fM=>hk k (by omega)),hk i (by omega)]
  refine⟨fun k=>if k=i then e1 (eW o)else u k,?_,fun k o' hk=>?_⟩
  ·have hc:=IJ l ys (i+1) (fun k=>if k=i then e1 (eW o)else u k) u (fun k hk=>by rw [ag (by omega)]);have pV:∀v,v=e1 (eW o)→a7 (mix e1 e (l.map eW)) (eW o) v=mix e1 e ((o::l).map eW):=by
    intro v hv;funext j;simp only [a7,mix,List.map_cons,gz];cases hb:Nat.beq j (eW o)with
    | true=>rw [oL hb,hv];rfl
    | false=>rfl
   cases y with
   | ex v=>
    simp only [vm,ext,hc,hu];exact pV v h0.symm
   | pr p=>
    simp only [vm,ext,hc,hu,aj];exact pV _ O
  ·cases k with
   | zero=>simp at hk;subst hk;simp
   | succ k=>
    have:=jM k o' (by simpa using hk);show(if i+ (k+1)=i then _ else u (i+ (k+1)))=_;rw [ag (by omega),←this];congr 1;omega
theorem Bz(p p':Nat→Bool)(i:Nat)(hi:p i=false)(hp:∀k,p' k=if k=i then true else p k):∀(l:List Nat),l.Nodup→i∈l→l.countP p'=l.countP p+1
 | [],_,h=>by cases h
 | x::l,hn,h=>by
  have aaV:∀(l:List Nat),¬i∈l→l.countP p'=l.countP p:=by
   intro l hl;exact List.countP_congr fun k hk=>by rw [hp k,ag (by rintro rfl;exact hl hk)]
  simp only [pg]at hn;simp only [List.countP_cons]
  by_cases hx:x=i
  ·subst hx;rw [aaV l hn.1,hp x,aj rfl,hi];simp
  ·have Kz:i∈l:=by
    rcases iW.1 h with h | h
    ·exact absurd h.symm hx
    ·exact h
   rw [Bz p p' i hi hp l hn.2 Kz,hp x,ag hx];omega
theorem dI{id:Nat}{Q:jm}(ys:List Yd)(hm:P.follows .mixedOrders=true)(de:Ot N l=true)(hlen:Nat.beq l.length ys.length=true)(G2:∀y∈ys,y.qA)
 (Ld:C6 P N l ys e w 0 l) (wG:∀u w1,Below w.heap.size w w1→(∀(k:Nat) (p:Value→World→Prop),ys[k]?=some (Yd.pr p)→p (u k) w1)→Q .normal (ext e (vm l ys u 0)) w1):Cd P N (.region id l.toArray true) Q e w:= .mk' fun a ha=>by
 have yl:l.length=ys.length:=oL hlen;simp only [Ot,Bool.and_eq_true,List.all_eq_true,jT]at de;obtain⟨⟨h1,h2⟩,h3⟩:=de;have aaf:∀(i:Nat) (o:Oper),l[i]?=some o→∃d,o.dst=some d∧eW o=d∧d<N:=by
  intro i o ho;have:=h1 o (List.mem_of_getElem? ho);cases hd:o.dst with
  | none=>rw [hd]at this;cases this
  | some d=>rw [hd]at this;exact⟨d,rfl,by simp [eW,hd],by simpa [Nat.blt_eq]using this⟩
 have ZV:∀(i:Nat) (o:Oper),l[i]?=some o→∀ed∈fm o,ed.on<i∧Region.binds .any ed=true:=by
  intro i o ho ed fL;have:=h3 (o,i) (by
   obtain⟨hi,KA⟩:=ia.1 ho;rw [List.mem_iff_getElem?];exact⟨i,by simp [ho]⟩)
  exact⟨by simpa [Nat.blt_eq]using this ed fL,(qD.1 fL).2⟩
 have wE:∀(i:Nat) (o:Oper),l[i]?=some o→∀ed∈fm o,ed.on<i:=fun i o ho ed fL=> (ZV i o ho ed fL).1
 refine wp_region_any hm ?_;have key:∀(fuel:Nat) (listed:Array Bool) (a1:Act) (e1:Env) (w1:World),jE N a1 e1→Below w.heap.size w w1→(∀j,gz (l.map eW) j=false→e1 j=e j)→listed.size=l.length→
  (∀(i:Nat) (y:Yd) (o:Oper),listed.getD i false=true→ys[i]?=some y→l[i]?=some o→y.holds (e1 (eW o)) w1)→(∀(i:Nat) (o:Oper),listed.getD i false=true→l[i]?=some o→∀ed∈fm o,listed.getD ed.on false=true)→(∀(i:Nat) (o:Oper),listed.getD i false=false→l[i]?=some o→e1 (eW o)=e (eW o))→(l.length - fuel≤(List.range l.length).countP fun i=>listed.getD i false)→
  wpAny P .any l.toArray (low N Q) fuel listed a1 w1:=by
  have nC:∀(listed:Array Bool) (a1:Act) (e1:Env) (w1:World),jE N a1 e1→Below w.heap.size w w1→(∀j,gz (l.map eW) j=false→e1 j=e j)→
   (∀(i:Nat) (y:Yd) (o:Oper),listed.getD i false=true→ys[i]?=some y→l[i]?=some o→y.holds (e1 (eW o)) w1)→(∀i,i<l.length→listed.getD i false=true)→low N Q .normal a1 w1:=by
   intro listed a1 e1 w1 hr hb oV hS dL;obtain⟨u,hu,jM⟩:=Oz (e1:=e1) (e:=e) (w1:=w1) l ys 0 yl h2 (fun k y o hy ho=>hS k y o (dL k (ia.1 ho).1) hy ho);refine⟨e1,hr,?_⟩;have:=wG u w1 hb (fun k p hk=>by
    have je:k<l.length:=by rw [yl];exact(ia.1 hk).1
    have h5:=hS k _ l[k] (dL k je) hk (gf je);have h6:=jM k l[k] (gf je);rw [Nat.zero_add]at h6;rw [h6];exact h5)
   rw [hu,Hx oV]at this;exact this
  have Ey:∀(listed:Array Bool),listed.size=l.length→Region.ready .any l.toArray listed=[]→∀i,i<l.length→listed.getD i false=true:=by
   intro listed l7 uK i
   induction i using Nat.strongRecOn with
   | _ i ih=>
    intro hi;cases ym:listed.getD i false with
    | true=>rfl
    | false=>
     exfalso;have:i∈Region.ready .any l.toArray listed:=by
      rw [mem_ready];refine⟨?_,l[i],by simp [hi],fun ed fL om=>ih ed.on (wE i _ (gf hi) ed (qD.2 ⟨fL,om⟩)) (by have:=wE i _ (gf hi) ed (qD.2 ⟨fL,om⟩);omega)⟩;rw [iN,qL (by omega)]at ym⊢;exact ym
     rw [uK]at this;cases this
  intro fuel
  induction fuel with
  | zero=>
   intro listed a1 e1 w1 hr hb oV l7 hS cg zS ot;have dL:∀i,i<l.length→listed.getD i false=true:=by
    have h4:(List.range l.length).countP (fun i=>listed.getD i false)=(List.range l.length).length:=by
     have:=List.countP_le_length (p:=fun i=>listed.getD i false) (l:=List.range l.length);simp at this ot⊢;omega
    rw [List.countP_eq_length]at h4;intro i hi;exact h4 i (by simpa using hi)
   refine⟨?_,nC listed a1 e1 w1 hr hb oV hS dL⟩;rw [List.eq_nil_iff_forall_not_mem];intro i hi;obtain⟨h5,o,ho,_⟩:=mem_ready.1 hi;have rq:i<l.length:=by
    rcases Nat.lt_or_ge i l.length with h | h
    ·exact h
    ·simp [oH h]at ho
   have h6:=dL i rq;rw [iN,qL (by omega)]at h5 h6;simp at h5 h6;rw [h5]at h6;cases h6
  | succ fuel ih=>
   intro listed a1 e1 w1 hr hb oV l7 hS cg zS ot;refine⟨fun uK=>nC listed a1 e1 w1 hr hb oV hS (Ey listed l7 uK),fun i hi=>?_⟩;obtain⟨aL,o,ho,wy⟩:=mem_ready.1 hi;have ik:l[i]?=some o:=by simpa using ho
   have rq:i<l.length:=(ia.1 ik).1;obtain⟨d,hd,hdo,hdN⟩:=aaf i o ik;have QH:∀j,gz ((fm o).map (·.on)) j=true→∀(y:Yd) (o':Oper),ys[j]?=some y→l[j]?=some o'→y.holds (e1 (eW o')) w1:=by
    intro j hj y o' hy zO;rw [yE,dh]at hj;obtain⟨ed,fL,rfl⟩:=hj;exact hS _ y o' (wy ed (qD.1 fL).1 (qD.1 fL).2) hy zO
   have lq:∀ed∈fm o,listed.getD ed.on false=true:=fun ed fL=>wy ed (qD.1 fL).1 (qD.1 fL).2
   have tP:listed.getD i false=false:=by
    have h5:=aL;rw [iN,qL (by omega)]at h5⊢;exact h5
   have pQ:∀k,(listed.setIfInBounds i true).getD k false=if k=i then true else listed.getD k false:=by
    intro k;rw [iN,sX]
    by_cases dU:k=i
    ·subst dU;rw [aj rfl,aj (by omega),aj rfl];rfl
    ·rw [ag (fun e=>dU e.symm),ag dU,←iN]
   have ak:=Ld.get i o ik e1 w1 hb (fun j _ hj=>QH j hj) (fun j o' hj wz=>by
    refine zS j o' ?_ hj;cases vu:listed.getD j false with
    | false=>rfl
    | true=>
     have:=xR cg _ _ _ wz vu;rw [Nat.zero_add,tP]at this;cases this)
   rw [Hx oV,x4 (Oo (fm o) (fun ed fL=>by have:=wE i o ik ed fL;omega) QH),Nat.zero_add]at ak;have pB:=ak.run a1 hr;have tI:∀a2 w2,(∃e2,jE N a2 e2∧gD i e1 w1 (eW o) (ys.getD i (.pr fun _ _=>True)) e2 w2)→wpAny P .any l.toArray (low N Q) fuel (listed.setIfInBounds i true) a2 w2:=by
    intro a2 w2 ⟨e2,rz,dG,wX,BX⟩;have gu:Below w.heap.size w w2:=hb.trans (dG.mono hb.size);refine ih _ a2 e2 w2 rz gu (fun j hj=>?_) (by simpa using l7) (fun k y o' hk hy de=>?_) (fun k o' hk de ed fL=>?_) (fun k o' hk de=>?_) ?_
    ·have bt:j≠eW o:=by
      rintro rfl;have:gz (l.map eW) (eW o)=true:=by rw [yE];exact dh.2 ⟨o,List.mem_of_getElem? ik,O⟩
      rw [this]at hj;cases hj
     rw [BX j bt];exact oV j hj
    ·by_cases dU:k=i
     ·subst dU;rw [ik]at de;cases de;have:ys.getD k (.pr fun _ _=>True)=y:=by simp [cJ,hy]
      rw [this]at wX;exact wX
     ·have fM:listed.getD k false=true:=by
       rw [iN,sX,ag (by omega),←iN]at hk;exact hk
      have h7:=hS k y o' fM hy de;have bt:eW o'≠eW o:=by
       intro heq;have je:=(ia.1 de).1;have h9:k=i:=(List.getElem_inj (xs:=l.map eW) (h₀:=by simpa using je) (h₁:=by simpa using rq) h2).1 (by
        have e1:=(ia.1 de).2;have e2:=(ia.1 ik).2;simp [e1,e2,heq])
       exact dU h9
      rw [BX _ bt];exact V0 (G2 y (List.mem_of_getElem? hy)) h7 dG
    ·rw [pQ]
     by_cases yf:ed.on=i
     ·rw [aj yf]
     ·rw [ag yf]
      by_cases dU:k=i
      ·subst dU;rw [ik]at de;cases de;exact lq ed fL
      ·rw [pQ,ag dU]at hk;exact cg k o' hk de ed fL
    ·rw [pQ]at hk
     by_cases dU:k=i
     ·rw [aj dU]at hk;cases hk
     ·rw [ag dU]at hk;rw [BX _ (fun heq=>by
       have je:=(ia.1 de).1;have h9:k=i:=(List.getElem_inj (xs:=l.map eW) (h₀:=by simpa using je) (h₁:=by simpa using rq) h2).1 (by
        have e1:=(ia.1 de).2;have e2:=(ia.1 ik).2;simp [e1,e2,heq])
       exact dU h9)]
      exact zS k o' hk de
    ·have D6:(List.range l.length).countP (fun k=> (listed.setIfInBounds i true).getD k false)=(List.range l.length).countP (fun k=>listed.getD k false)+1:=by
      refine Bz (fun k=>listed.getD k false) (fun k=> (listed.setIfInBounds i true).getD k false) i ?_ (fun k=>?_) _ List.nodup_range (by simpa using rq)
      ·have h5:=aL;show listed.getD i false=false;rw [iN,qL (by omega)]at h5⊢;exact h5
      ·show(listed.setIfInBounds i true).getD k false=if k=i then true else listed.getD k false
       rw [iN,sX]
       by_cases dU:k=i
       ·subst dU;rw [aj rfl,aj (by omega),aj rfl];rfl
       ·rw [ag (fun e=>dU e.symm),ag dU,←iN]
     rw [D6];omega
   unfold wpOp;rw [ho];unfold wpList at pB;show if _ then _ else _
   by_cases hw:Region.wanted o (yielded l.toArray a1.tmps)=true
   ·rw [aj hw]at pB⊢;rcases pB with h5 | ⟨_,a0,w0,h5⟩
    ·refine .inl (H9 h5 (fun a2 w2 hx=>?_) (fun x a w hx hq=>hx hq.1));exact tI a2 w2 hx.2
    ·exact absurd h5.1 (by simp)
   ·rw [ag hw]at pB⊢;exact tI _ _ pB.2
 refine key l.length (Array.replicate l.length false) a e _ ha ⟨⟨O,O,O,a8 _,fun _ _=>O⟩,fun _=>Nat.le_add_right _ _⟩ (fun _ _=>O) (by simp) (fun i y o hi=>?_) (fun i o hi=>?_) (fun _ _ _ _=>O) (by omega)
 ·exfalso;rw [iN,Array.getElem?_replicate]at hi
  split at hi<;>simp at hi
 ·exfalso;rw [iN,Array.getElem?_replicate]at hi
  split at hi<;>simp at hi
theorem lC{α:Type}{x y:Code}{Q:jm}(F:α→List (Nat×Value))(I:α→World→Prop)(hx:Cd P N x (AH (fun e' w'=>∃s,Mt e' (F s)∧I s w') Q) e w)
 (hy:∀s e' w',I s w'→Cd P N y Q (ext e' (F s)) w'):Cd P N (.seq x y) Q e w:=
 .seq (hx.mono fun ex e' w' q=>by
  cases ex<;>first
   | exact q
   | (
    obtain⟨s,hm,hi⟩:=q;have:=hy s e' w' hi;rw [x4 hm]at this;exact this))
end
section
variable{t:TypeId}{z:Value}{b m:Nat}
variable {P:Program} {N:Nat} {ops:Array Oper} {K:Env→World→Prop} {rest:List Oper} {e:Env} {w0 w w':World} {ks:List Ck} {d:Nat} {ty:TypeId} {pos:String} {af:Array Edge}
theorem dJ{el:TypeId}[bB P t (.slice el)][bp P el z 1 b]{x0:Operand}{i:Int}(hS:St w0 w ks)(h0:ev e x0=aiD i)(hz:z.cells= #[z])(hb:Nat.blt d N=true)(hK:∀A w',St w0 w' (ah el A 1 1 [i]::ks)→aa P N ops K rest (a7 e d (.slice A 1 1)) w'):aa P N ops K (⟨some d,.buildSlice t 1 #[(0,x0)],ty,pos,af,none⟩::rest) e w:=
 .IF hS h0 rfl hz hb hK
theorem nj{el:TypeId}[bB P t (.slice el)][bp P el z 1 b]{x0:Operand}{A0:aiC}{n0 c0:Nat}(hS:St w0 w ks)(h0:ev e x0= .slice A0 n0 c0)(hz:z.cells= #[z])(hb:Nat.blt d N=true)(hK:∀A w',St w0 w' (bU el A 1 1 [⟨A0,n0,c0⟩]::ks)→aa P N ops K rest (a7 e d (.slice A 1 1)) w'):aa P N ops K (⟨some d,.buildSlice t 1 #[(0,x0)],ty,pos,af,none⟩::rest) e w:=
 .IF hS h0 rfl hz hb hK
theorem adz{ys:List Int}(h:ys.length=m):(List.range m).map (fun j=>Value.int .i64 (ys.getD j 0))=ys.map (aiD):=by
 subst h;apply ji
 ·simp
 intro i h1 h2;simp [cJ,gf (show i<ys.length by simpa using h1)]
theorem adA{ys:List aG}(h:ys.length=m):(List.range m).map (fun j=> (ys.getD j dE).v)=ys.map aG.v:=by
 subst h;apply ji
 ·simp
 intro i h1 h2;simp [cJ,gf (show i<ys.length by simpa using h1)]
theorem eK{el:TypeId}[hU:bB P t (.slice el)][bp P el z 1 b]{x y:Operand}(i:Nat){A:aiC}{n c:Nat}{xs:List Int}{A':aiC}{c':Nat}{ys:List Int}(hS:St w0 w ks)(hk:ks[i]?=some (ah el A n c xs))(hR:bS w A' m ys)(hx:ev e x= .slice A n c)(hy:ev e y= .slice A' m c')(hz:z.cells= #[z])(ur:n+m≤9223372036854775807)(sy:(n+m)*b≤140737488355328)(hb:Nat.blt d N=true)(hK:∀A2 c2 w',St w0 w' (ks.set i (ah el A2 (n+m) c2 (xs++ys)))→aa P N ops K rest (a7 e d (.slice A2 (n+m) c2)) w'):
 aa P N ops K (⟨some d,.call ⟨.builtin .append, #[x,y], #[t,t]⟩,ty,pos,af,none⟩::rest) e w:=
 .app i hS hk hR.2 hx hy rfl hz (fun _ _=>rfl) (by simpa [maxLen]using ur) sy hb fun A2 c2 w' h=>hK A2 c2 w' (by
  rw [adz hR.1]at h;simpa [ah]using h)
theorem oM{el:TypeId}[hU:bB P t (.slice el)][bp P el z 1 b]{x y:Operand}(i:Nat){A:aiC}{n c:Nat}{xs:List aG}{A':aiC}{c':Nat}{ys:List aG}(hS:St w0 w ks)(hk:ks[i]?=some (bU el A n c xs))(hR:jD w A' m ys)(hx:ev e x= .slice A n c)(hy:ev e y= .slice A' m c'){z0:Value}(hz:z.cells= #[z0])(ur:n+m≤9223372036854775807)(sy:(n+m)*b≤140737488355328)(hb:Nat.blt d N=true)(hK:∀A2 c2 w',St w0 w' (ks.set i (bU el A2 (n+m) c2 (xs++ys)))→aa P N ops K rest (a7 e d (.slice A2 (n+m) c2)) w'):
 aa P N ops K (⟨some d,.call ⟨.builtin .append, #[x,y], #[t,t]⟩,ty,pos,af,none⟩::rest) e w:=
 .app i hS hk hR.2 hx hy rfl hz (fun _ _=>rfl) (by simpa [maxLen]using ur) sy hb fun A2 c2 w' h=>hK A2 c2 w' (by
  rw [adA hR.1]at h;simpa [bU]using h)
end
section
variable {P:Program} {N:Nat} {e:Env} {w:World}
end
section
variable{t t':TypeId}
variable {P:Program} {N:Nat} {ops:Array Oper} {K:Env→World→Prop} {rest:List Oper} {e:Env} {w0 w w':World} {ks:List Ck} {d:Nat} {ty:TypeId} {pos:String} {af:Array Edge}
theorem C4{Q:jm}{c:Operand}{x y:Code}{p:Prop}[Decidable p](hc:ev e c= .bool (decide p))(hp:p)(h1:Cd P N x Q e w):Cd P N (.cond c x y) Q e w:= .gj (by rw [hc,dX hp]) h1
theorem qM{Q:jm}{c:Operand}{x y:Code}{p:Prop}[Decidable p](hc:ev e c= .bool (decide p))(hp:¬p)(h1:Cd P N y Q e w):Cd P N (.cond c x y) Q e w:= .eV (by rw [hc,cd hp]) h1
theorem XC(A:aiC)(c:Nat):cutAt A c 0=A:=by
 unfold cutAt
 split
 ·rfl
 cases A<;>simp [aq,Addr.add]
theorem abY{vs fs:List Value}{l q:Nat}(hM:eH vs=false)(h1:∀u∈fs,u.oneCell'=true)(hq:l=0→fs≠[]:=by first | assumption | (intro _ hn;have:=ax List.length hn;simp at this;omega)):eH (vs.take l++fs++vs.drop q)=false:=by
 by_cases hl:l=0
 ·subst hl;rw [List.take_zero,List.nil_append];exact EL (xb h1) (hq O)
 ·cases vs with
  | nil=>simp only [List.take_nil,List.drop_nil,List.nil_append,fg];exact xb h1
  | cons v r=>
   obtain⟨m,rfl⟩:∃m,l=m+1:=⟨l - 1,by omega⟩;cases v<;>simp_all [eH]
theorem afS{el:TypeId}{z:Value}{b:Nat}[hU:bB P t (.slice el)][bp P el z 1 b]{k:Ck}(i l:Nat)(hS:St w0 w ks)(hk:ks[i]?=some k)(hM:eH k.vs=false)(hl:l≤k.n){A':aiC}{m dc c':Nat}{f:Nat→Value}(hR:Rd w A' m f)(h1:∀j,j<m→(f j).oneCell'=true)(ty:TypeId)(q:Nat)(hq:q=min m (k.n - l)):
 ∃w',(Builtin.copy_ #[t,t'] ty #[.slice (cutAt k.A k.c l) (k.n - l) dc,.slice A' m c']).run P w= .ok (aiD (q:Int)) w'∧St w0 w' (ks.set i { k with vs:=k.vs.take l++ (List.range q).map f++k.vs.drop (l+q) }):=by
 obtain⟨inf,hi,fv,hs,iS⟩:=bp.get P el;have Er:=hS.tp hk hM;obtain⟨Ho,qu,qo,h4⟩:=Er;have zH:=(ia.1 hk).1;have Cr:(P.info? el).map (·.size)=some 1:=by simp [hi,hs]
 by_cases Co:q=0
 ·have hr:=run_copy_none (P:=P) w t t' ty el (cutAt k.A k.c l) A' (k.n - l) dc m c' hU.out Cr (by show min m (k.n - l)=0;omega);refine⟨w,by rw [hr,Co];rfl,?_⟩;have h5:({ k with vs:=k.vs.take l++ (List.range q).map f++k.vs.drop (l+q) }:Ck)=k:=by subst Co;simp [List.take_append_drop]
  have:ks.set i { k with vs:=k.vs.take l++ (List.range q).map f++k.vs.drop (l+q) }=ks:=by
   rw [h5];apply List.ext_getElem?;intro j;rw [oI]
   split
   ·rename_i e;subst e;rw [hk]
    try simp [zH]
   rfl
  rw [this];exact hS
 obtain⟨a,rfl⟩:∃a,A'=some a:=by
  obtain⟨p,hp,_⟩:=hR 0 (by omega);cases A' with | none=>simp [aq]at hp | some q=>exact⟨q,rfl⟩
 rcases h4 with⟨hA,h0⟩ | ⟨g,o,cur,hA,hg,hh,l7,hc⟩
 ·omega
 have hD:cutAt k.A k.c l=some ⟨g,o+l,none⟩:=by
  unfold cutAt;rw [ag (by omega),hA];simp [aq,Bg]
 have ig:((List.range q).map f).length=q:=by simp
 have wO:∀j v,((List.range q).map f)[j]?=some v→w.cell? (a.add j)=some v:=by
  intro j v hj;have Ch:j<q:=by have:=(ia.1 hj).1;simpa using this
  obtain⟨p,hp,hc⟩:=hR j (by omega);simp only [aq,Option.map_some,pj]at hp;rw [hp,hc,←hj];simp [Ch]
 have wi:∀u∈(List.range q).map f,u.oneCell'=true:=by
  intro u hu;obtain⟨j,hj,rfl⟩:=dh.1 hu;have KC:j<q:=by simpa using hj
  exact h1 j (by omega)
 have hr:=run_copy_row (P:=P) w t t' ty el g (o+l) (k.n - l) dc a m c' cur k.e ((List.range q).map f) hU.out Cr hh (by rw [ig,hq]) wO (by rw [ig];omega) wi;rw [ig]at hr;rw [hD];refine⟨w.setRow g (cur.toList.take (o+l)++ (List.range q).map f++cur.toList.drop (o+l+q)).toArray,hr,hS.turn (k:=k) (k':= { k with vs:=k.vs.take l++ (List.range q).map f++k.vs.drop (l+q) }) (g:=g) hk (by simp [Ck.ie,hA]) (by simp [Ck.ie,hA]) ⟨⟨O,O,O,by simp,fun x _ hx=>setRow_other w g x _ (fun e=>hx (by rw [e]))⟩,a8 _⟩ ?_⟩;refine .rI (abY hM wi) ⟨by simp [Ho];omega,qu,qo,.inr ⟨g,o,_,hA,hg,setRow_heap w g cur _ k.e _ hh,?_,fun j hj=>?_⟩⟩
 ·simp;omega
 have kF:j<k.n:=hj;have cg:cur.toList.length=cur.size:=by simp
 show((cur.toList.take (o+l)++ (List.range q).map f++cur.toList.drop (o+l+q)).toArray)[o+j]?=(k.vs.take l++ (List.range q).map f++k.vs.drop (l+q))[j]?;rw [List.getElem?_toArray,fR,fR]
 by_cases ln:j<l
 ·rw [lQ (by simp;omega),rW,aj (by omega),lQ (by simp;omega),rW,aj ln,Array.getElem?_toList];exact hc j kF
 have e1:o+j - (cur.toList.take (o+l)).length=j - l:=by simp;omega
 have e2:j - (k.vs.take l).length=j - l:=by simp;omega
 have e3:(cur.toList.take (o+l)++ ((List.range q).map f++cur.toList.drop (o+l+q)))[o+j]?=((List.range q).map f++cur.toList.drop (o+l+q))[j - l]?:=by
  rw [jQ (by simp;omega),e1]
 have e4:(k.vs.take l++ ((List.range q).map f++k.vs.drop (l+q)))[j]?=((List.range q).map f++k.vs.drop (l+q))[j - l]?:=by
  rw [jQ (by simp;omega),e2]
 rw [e3,e4]
 by_cases KC:j - l<q
 ·rw [lQ (by simpa using KC),lQ (by simpa using KC)]
 rw [jQ (by rw [ig];omega),jQ (by rw [ig];omega),ig,List.getElem?_drop,List.getElem?_drop,Array.getElem?_toList,show o+l+q+ (j - l - q)=o+j by omega,show l+q+ (j - l - q)=j by omega];exact hc j kF
theorem Nh{el:TypeId}{z:Value}{b:Nat}[hU:bB P t (.slice el)][bp P el z 1 b]{x y:Operand}{k:Ck}(i l:Nat){A':aiC}{m dc c':Nat}{f:Nat→Value}(q:Nat)(hS:St w0 w ks)(hk:ks[i]?=some k)(hR:Rd w A' m f)(hl:l≤k.n)(hx:ev e x= .slice (cutAt k.A k.c l) (k.n - l) dc)(hy:ev e y= .slice A' m c')(h1:∀j,j<m→(f j).oneCell'=true)(hq:q=min m (k.n - l))(hb:Nat.blt d N=true)(hK:∀w',St w0 w' (ks.set i { k with vs:=k.vs.take l++ (List.range q).map f++k.vs.drop (l+q) })→aa P N ops K rest (a7 e d (aiD (q:Int))) w')(hM:eH k.vs=false:=by first | rfl | exact tS _ | exact EK _ | exact Cy _):
 aa P N ops K (⟨some d,.call ⟨.builtin .copy, #[x,y], #[t,t']⟩,ty,pos,af,none⟩::rest) e w:=by
 obtain⟨w',hr,oi⟩:=afS (P:=P) (t:=t) (t':=t') (dc:=dc) (c':=c') i l hS hk hM hl hR h1 ty q hq;refine .val (w':=w') ?_ hb (hK _ oi);simp [execOp,resolve,invoke,builtin,hx,hy,hr]
theorem VN{x y:Operand}{i j:Int}(hx:ev e x=aiD i)(hy:ev e y=aiD j)(hb:Nat.blt d N=true)(hK:aa P N ops K rest (a7 e d (aiD (min i j))) w):
 aa P N ops K (⟨some d,.call ⟨.builtin .min, #[x,y], #[t,t']⟩,ty,pos,af,none⟩::rest) e w:=by
 have hm:(if j<i then j else i)=min i j:=by split<;>omega
 refine .val (w':=w) ?_ hb hK;simp [execOp,resolve,invoke,builtin,hx,hy,Builtin.min_,Builtin.min2,hm]
section
variable {x y:Operand} {xt yt:TypeId} {i j:Int}
theorem sU(i:Int)(h:0≤i∧i≤18446744073709551615):IntKind.u64.wrap i=i:=by rw [IntKind.wrap_u64];omega
theorem Fv(r:Int)(hx:ev e x= .int .u64 i)(hy:ev e y= .int .u64 j)(hb:Nat.blt d N=true)(he:i+j=r)(hr:0≤r∧r≤18446744073709551615)(hK:aa P N ops K rest (a7 e d (.int .u64 r)) w):
 aa P N ops K (⟨some d,.binOp .add xt x y yt,ty,pos,af,none⟩::rest) e w:=
 .val (by simp [execOp,hx,hy,eqGuard,binOp,Op.intArith,he,sU _ hr]) hb hK
theorem Db(r:Int)(hx:ev e x= .int .u64 i)(hy:ev e y= .int .u64 j)(hb:Nat.blt d N=true)(he:i*j=r)(hr:0≤r∧r≤18446744073709551615)(hK:aa P N ops K rest (a7 e d (.int .u64 r)) w):
 aa P N ops K (⟨some d,.binOp .mul xt x y yt,ty,pos,af,none⟩::rest) e w:=
 .val (by simp [execOp,hx,hy,eqGuard,binOp,Op.intArith,he,sU _ hr]) hb hK
theorem Ia(r:Int)(hx:ev e x= .int .u64 i)(hy:ev e y= .int .u64 4294967295)(hb:Nat.blt d N=true)(hr:0≤i∧i≤18446744073709551615)(he:i%4294967296=r)(hK:aa P N ops K rest (a7 e d (.int .u64 r)) w):
 aa P N ops K (⟨some d,.binOp .and xt x y yt,ty,pos,af,none⟩::rest) e w:=by
 subst he;obtain⟨a,rfl⟩:∃a:Nat,i=a:=⟨i.toNat,by omega⟩;have h:=Mul64.maskN a (by omega);rw [show((a%4294967296:Nat):Int)=(a:Int)%4294967296 by omega]at h;refine .val ?_ hb hK;simp only [execOp,hx,hy,eqGuard,binOp,intBits_and,h];simp
theorem Dd(r:Int)(hx:ev e x= .int .u64 i)(hy:ev e y= .int .u64 32)(hb:Nat.blt d N=true)(hr:0≤i)(he:i / 4294967296=r)(hK:aa P N ops K rest (a7 e d (.int .u64 r)) w):
 aa P N ops K (⟨some d,.binOp .shr xt x y yt,ty,pos,af,none⟩::rest) e w:=by
 subst he;refine .val ?_ hb hK;have e1:min 32 IntKind.u64.bits=32:=by decide
 have e2:i.fdiv (2^32)=i / 4294967296:=by rw [Int.fdiv_eq_ediv_of_nonneg _ (by decide)];rfl
 have XU:i.fdiv 4294967296=i / 4294967296:=e2;simp [execOp,hx,hy,eqGuard,binOp,Op.shift,e1,XU]
theorem nk{k k':IntKind}[bB P yt (.int k')](hx:ev e x= .int k i)(hb:Nat.blt d N=true)(hw:k'.wrap i=i){u:TypeDesc}[bB P xt u](hK:aa P N ops K rest (a7 e d (.int k' i)) w):
 aa P N ops K (⟨some d,.convert xt yt x,ty,pos,af,none⟩::rest) e w:=
 .val (by simp [execOp,hx,convert,run_underlying (bB.out (P:=P) (t:=xt)),run_underlying (bB.out (P:=P) (t:=yt)),Conv.intToInt,hw]) hb hK
end
end
structure br(w:World)(A:aiC)(n:Nat)(rs:List aG)(xss:aiB):Prop where
 top:jD w A n rs
 len:xss.length=n
 row:∀i,i<n→bS w (rs.getD i dE).a (rs.getD i dE).n (xss.getD i [])
 cap:∀i,i<n→(rs.getD i dE).n≤(rs.getD i dE).c∧(rs.getD i dE).c≤maxLen
def gl(xss:aiB)(i:Int):List Int:=xss.getD i.toNat []
theorem br.at_{w:World}{A:aiC}{n:Nat}{rs:List aG}{xss:aiB}(h:br w A n rs xss){i:Int}(_h0:0≤i)(hi:i<n):bS w (rg rs i).a (rg rs i).n (gl xss i):=h.row _ (by omega)
theorem br.cap_{w:World}{A:aiC}{n:Nat}{rs:List aG}{xss:aiB}(h:br w A n rs xss){i:Int}(_h0:0≤i)(hi:i<n):(rg rs i).n≤(rg rs i).c∧(rg rs i).c≤9223372036854775807:=h.cap _ (by omega)
theorem br.later{w w':World}{A:aiC}{n:Nat}{rs:List aG}{xss:aiB}(h:br w A n rs xss)(hb:Below w.heap.size w w'):br w' A n rs xss:=
 ⟨h.top.later hb,h.len,fun i hi=> (h.row i hi).later hb,h.cap⟩
theorem St.bF{w0 w:World}{ks:List Ck}{A:aiC}{n:Nat}{rs:List aG}{xss:aiB}(h:St w0 w ks)(hR:br w0 A n rs xss):br w A n rs xss:=hR.later h.below
def cS(t:TypeId):List aG→aiB→List Ck
 | r::rs,xs::xss=>ah t r.a r.n r.c xs::cS t rs xss
 | _,_=> []
def aE(t1 t2:TypeId)(A:aiC)(n c:Nat)(rs:List aG)(xss:aiB):List Ck:=bU t1 A n c rs::cS t2 rs xss
theorem HQ{t:TypeId}:∀ {rs:List aG} {xss:aiB} {i:Nat},rs.length=xss.length→i<rs.length→(cS t rs xss)[i]?=some (ah t (rs.getD i dE).a (rs.getD i dE).n (rs.getD i dE).c (xss.getD i []))
 | [],_,_,_,h=>by simp at h
 | r::rs,[],_,h,_=>by simp at h
 | r::rs,xs::xss,0,_,_=>rfl
 | r::rs,xs::xss,i+1,h,hi=>by
  have:=HQ (t:=t) (rs:=rs) (xss:=xss) (i:=i) (by simpa using h) (by simpa using hi);simpa [cS]using this
theorem CW{t:TypeId}:∀ {rs:List aG} {xss:aiB},rs.length=xss.length→(cS t rs xss).length=rs.length
 | [],[],_=>rfl
 | [],_::_,h=>by simp at h
 | _::_,[],h=>by simp at h
 | r::rs,xs::xss,h=>by simp [cS,CW (t:=t) (rs:=rs) (xss:=xss) (by simpa using h)]
theorem CU{t:TypeId}:∀ {rs rs':List aG} {xss xss':aiB},rs.length=xss.length→cS t (rs++rs') (xss++xss')=cS t rs xss++cS t rs' xss'
 | [],_,[],_,_=>rfl
 | [],_,_::_,_,h=>by simp at h
 | _::_,_,[],_,h=>by simp at h
 | r::rs,rs',xs::xss,xss',h=>by
  have:=CU (t:=t) (rs:=rs) (rs':=rs') (xss:=xss) (xss':=xss') (by simpa using h);simp [cS,this]
theorem St.gC{w0 w:World}{ks:List Ck}{t1 t2:TypeId}{A:aiC}{n c:Nat}{rs:List aG}{xss:aiB}(h:St w0 w (aE t1 t2 A n c rs xss++ks))(hl:xss.length=n):br w A n rs xss:=by
 have h0:=h.il 0 (show(aE t1 t2 A n c rs xss++ks)[0]?=some (bU t1 A n c rs) from O);have hr:rs.length=xss.length:=by rw [h0.1,hl]
 have get:∀i,i<n→(aE t1 t2 A n c rs xss++ks)[i+1]?=some (ah t2 (rs.getD i dE).a (rs.getD i dE).n (rs.getD i dE).c (xss.getD i [])):=by
  intro i hi;have h1:=HQ (t:=t2) (rs:=rs) (xss:=xss) (i:=i) hr (by omega);rw [lQ (by simp [aE,CW hr];omega)];simpa [aE]using h1
 exact⟨h0,hl,fun i hi=>h.bc (i+1) (get i hi),fun i hi=>h.cap (i+1) (get i hi)⟩
end Go.Proofs.YtopgfgdgfjddpaaGreatDoor.Vc
