/-
 Lemmas. Conditions: as each states them.
-/
import Derived.WalkKit
import Derived.Deep.Quiet
import Derived.Deep.LoopGhost
import Derived.Below
import Derived.Sort.Grow
import Derived.Deep.OwnRows
import Derived.Laws.IdiomCopy
import Derived.Shelf.Bits.Mul64
set_option maxHeartbeats 8000000
namespace Go.Proofs.YtimbpgackifflaaGreatDoor.Vc
open Go.RowKit
theorem an{p:Prop}(h:p:=by kernel_rfl):p:=h
theorem aL{p:Prop}(h:p:=by exact inferInstance):p:=h
theorem ac{p:Prop}(h:p:=by omega):p:=h
theorem am{p:Prop}(h:p:=by decide):p:=h
abbrev aa:=World
abbrev ab:=Value
abbrev ad:=TypeId
abbrev ae:=Operand
abbrev ag:=List (List Int)
abbrev ah:=List Int
abbrev ai:=Option Addr
abbrev aj(i:Int):Value:=.int .i64 i
theorem au:True:=@trivial
theorem aD:∀{c:Prop}{_:Decidable c},¬c->∀{α:Sort _}{t e:α},(if c then t else e)=e:=@if_neg
theorem aG:∀{c:Prop}{_:Decidable c},c->∀{α:Sort _}{t e:α},(if c then t else e)=t:=@if_pos
theorem aQ:∀{α:Sort _}{β:Sort _}{a₁ a₂:α} (f:α->β),a₁=a₂->f a₁=f a₂:=@congrArg
theorem bl:∀(n:Nat),0<=n:=@Nat.zero_le
theorem bV:∀{α:Type _}{p:α->Prop}{a:α}{l:List α},(∀(x:α),x∈a::l->p x)↔p a/\∀(x:α),x∈l->p x:=@List.forall_mem_cons
theorem bX:∀{p:Prop}[Decidable p],decide p=true->p:=@of_decide_eq_true
theorem b5:∀{α:Type _}{l:List α}{i:Nat}{a:α},l.getD i a=l[i]?.getD a:=@List.getD_eq_getElem?_getD
theorem cj:∀{α:Type _}{cs bs:List α},(cs++bs).length=cs.length+bs.length:=@List.length_append
theorem cn:∀{α:Type _}{val val_1:α},some val=some val_1->val=val_1:=@Option.some.inj
theorem cJ:∀(n:Nat),n<=n:=@Nat.le_refl
theorem db:∀{p:Prop}[Decidable p],¬p->decide p=false:=@decide_eq_false
theorem de:∀{α:Type _}{β:Type _}{b:β}{f:α->β}{l:List α},b∈List.map f l↔∃a,a∈l/\f a=b:=@List.mem_map
theorem dt:∀{α:Type _}{l:List α}{n:Nat} (h:n<l.length),l[n]∈l:=@List.getElem_mem
theorem dB:∀{p:Prop}[Decidable p],p->decide p=true:=@decide_eq_true
theorem dF:∀{α:Type _}{a:α}{s t:List α},a∈s++t↔a∈s\/a∈t:=@List.mem_append
theorem dQ:∀{α:Type _}(cs:List α),cs++[]=cs:=@List.append_nil
theorem ef:∀{α:Type _}(ks bs cs:List α),ks++bs++cs=ks++(bs++cs):=@List.append_assoc
theorem eX:∀{α:Type _}{a b:α},a∈[b]↔a=b:=@List.mem_singleton
theorem fj:∀{α:Type _}(l₁ l₂:List α),l₂.Sublist (l₁++l₂):=@List.sublist_append_right
theorem fo:∀{m n:Nat},m∈List.range n↔m<n:=@List.mem_range
theorem fD:∀{α:Type _}(l:List α),l.Sublist l:=@List.Sublist.refl
theorem fE:∀{α:Type _}(y:α){a:α}{l:List α},a∈l->a∈y::l:=@List.mem_cons_of_mem
theorem fL:∀{α:Type _}{l:List α}{i:Nat} (h:i<l.length),l[i]?=some l[i]:=@List.getElem?_eq_getElem
theorem fM:∀{α:Type _}{p:α->Bool}{cs:List α}{x:α},x∈List.filter p cs↔x∈cs/\p x=true:=@List.mem_filter
theorem fR:∀{α:Type _}{cs:List α}{i:Nat}{a:α},(cs.set i a).length=cs.length:=@List.length_set
theorem fS:∀{α:Type _}{a:α}{l:List α},a∈l↔∃(i:Nat)(h:i<l.length),l[i]=a:=@List.mem_iff_getElem
theorem gx:∀(n:Nat),(n:Int).toNat=n:=@Int.toNat_natCast
theorem gL:∀{α:Type _}{l₁ l₂:List α},(l₁++l₂).Perm (l₂++l₁):=@List.perm_append_comm
theorem gW:∀{α:Type _}{b:α}{l:List α}{a:α},a∈b::l↔a=b\/a∈l:=@List.mem_cons
theorem iC:∀{α:Type _}{l₁ l₂:List α},l₁.length=l₂.length->(∀(i:Nat)(h₁:i<l₁.length)(h₂:i<l₂.length),l₁[i]=l₂[i])->l₁=l₂:=@List.ext_getElem
theorem iD:∀{α:Type _}{i:Nat}{a:α}{l:List α},l[i]?=some a↔∃h,l[i]=a:=@List.getElem?_eq_some_iff
theorem iE:∀{α:Type _}{β:Type _}{f:α->β}{l₁ l₂:List α},List.map f (l₁++l₂)=List.map f l₁++List.map f l₂:=@List.map_append
theorem iL:∀{α:Type _}{l:List α},l.length=0->l=[]:=@List.eq_nil_of_length_eq_zero
theorem jd:∀{α:Type _}{β:Type _}{cs:List α} (f:α->β),(List.map f cs).length=cs.length:=@List.length_map
theorem je:∀{n m k:Nat},n<=m->m<=k->n<=k:=@Nat.le_trans
theorem jw:∀{α:Type _}{i:Nat}{l:List α},l.length<=i->List.take i l=l:=@List.take_of_length_le
theorem jF:∀{α:Type _}{l₁ l₂:List α}{i:Nat},i<l₁.length->(l₁++l₂)[i]?=l₁[i]?:=@List.getElem?_append_left
theorem jG:∀{α:Type _}{i:Nat}{l:List α},(List.take i l).length=min i l.length:=@List.length_take
theorem jM:∀{α:Type _}{l₁ l₂:List α}{i:Nat},l₁.length<=i->(l₁++l₂)[i]?=l₂[i-l₁.length]?:=@List.getElem?_append_right
theorem ki:∀{α:Type _}{l:List α}{α_1:Type _}{f g:α->α_1},(∀(a:α),a∈l->f a=g a)->List.map f l=List.map g l:=@List.map_congr_left
theorem kl:∀{p q:Prop}{_:Decidable p}{_:Decidable q},decide p=decide q↔(p↔q):=@decide_eq_decide
theorem kW:∀{a:Prop},¬¬a↔a:=@Classical.not_not
theorem kY:∀(n:Nat),¬n<0:=@Nat.not_lt_zero
theorem k5:∀{p:Prop}[Decidable p],(decide p=true)=p:=@decide_eq_true_eq
theorem lg:∀{n m:Nat},n.beq m=true->n=m:=@Nat.eq_of_beq_eq_true
theorem lI:∀{α:Type _}{l:List α}{i j:Nat}{a:α},(l.set i a)[j]?=if i=j then if i<l.length then some a else none else l[j]?:=@List.getElem?_set
theorem lJ:∀{α:Type _}(p:α->Bool)(l:List α),(List.filter p l).length<=l.length:=@List.length_filter_le
theorem lK:∀{n:Nat},List.range n.succ=List.range n++[n]:=@List.range_succ
theorem mj:∀{α:Type _}{a:α}{l:List α},(a::l).Nodup↔¬a∈l/\l.Nodup:=@List.nodup_cons
theorem mM:∀{α:Type _}[BEq α]{a b:α}{l:List α},List.count a (b::l)=List.count a l+if(b==a)=true then 1 else 0:=@List.count_cons
theorem mN:∀{α:Type _}{p:α->Bool} (l₁ l₂:List α),List.filter p (l₁++l₂)=List.filter p l₁++List.filter p l₂:=@List.filter_append
theorem mO:∀{α:Type _}{a:α}{l₁ l₂:List α},(l₁++a::l₂).Perm (a::(l₁++l₂)):=@List.perm_middle
theorem ny:∀{α:Type _}(l₁ l₂:List α),l₁.Sublist (l₁++l₂):=@List.sublist_append_left
theorem ob:∀{α:Type _}[BEq α]{a:α}{l₁ l₂:List α},List.count a (l₁++l₂)=List.count a l₁+List.count a l₂:=@List.count_append
theorem od:∀{n:Nat},(List.range n).length=n:=@List.length_range
theorem oe:∀{α:Type _}[BEq α][LawfulBEq α]{l₁ l₂:List α},l₁.Perm l₂↔∀(a:α),List.count a l₁=List.count a l₂:=@List.perm_iff_count
theorem oh:∀{α:Type _}(val val_1:α),(some val=some val_1)=(val=val_1):=@Option.some.injEq
theorem oO:∀{α:Type _}{R:α->α->Prop}{l:List α} (p:α->Bool),List.Pairwise R l->List.Pairwise R (List.filter p l):=@List.Pairwise.filter
theorem oP:∀{α:Type _}{l:List α}{i:Nat},l.length<=i->l[i]?=none:=@List.getElem?_eq_none
theorem oQ:∀{α:Type _}{i:Nat}{l:List α} (h:i<l.length),List.take (i+1) l=List.take i l++[l[i]]:=@List.take_succ_eq_append_getElem
theorem qi:∀{p:Prop},(¬p->False)->p:=@Classical.byContradiction
theorem qk:∀{α:Type _}{l:List α}{i j:Nat},(List.take i l)[j]?=if j<i then l[j]? else none:=@List.getElem?_take
theorem rV:∀{α:Type _}{α_1:Type _}{f:α->α_1}{R:α_1->α_1->Prop}{l:List α},List.Pairwise R (List.map f l)↔List.Pairwise (λa b=>R (f a) (f b)) l:=@List.pairwise_map
theorem sL:∀{α:Type _}{xs:Array α}{i:Nat}{d:α},xs.getD i d=xs[i]?.getD d:=@Array.getD_eq_getD_getElem?
theorem sR:∀{α:Type _}[BEq α]{a:α},List.count a []=0:=@List.count_nil
theorem zC:∀{α:Type _}{xs:Array α}{i j:Nat}{a:α},(xs.setIfInBounds i a)[j]?=if i=j then if i<xs.size then some a else none else xs[j]?:=@Array.getElem?_setIfInBounds
theorem zE:∀{α:Type _}{p:α->Bool}{a:α}{l:List α},p a=true->List.filter p (a::l)=a::List.filter p l:=@List.filter_cons_of_pos
theorem zF:∀{α:Type _}{l₁ l₂:List α}{i:Nat},i<=l₁.length->List.take i (l₁++l₂)=List.take i l₁:=@List.take_append_of_le_length
theorem BO:∀{α:Type _}{xs:Array α}{i:Nat} (h:i<xs.size),xs[i]?=some xs[i]:=@Array.getElem?_eq_getElem
theorem BP:∀{α:Type _}{p:α->Bool}{a:α}{l:List α},¬p a=true->List.filter p (a::l)=List.filter p l:=@List.filter_cons_of_neg
abbrev Env:=Nat->ab
def bE(e:Env)(d:Nat)(v:ab):Env:=λi=>bif Nat.beq i d then v else e i
def ev(e:Env):ae->ab
 | .tmp t=>e t
 | .const v=>v
 | .global g=>.pointer (some ⟨g,0,none⟩)
 | .func f=>.func (.func f) #[] #[]
structure lM(N:Nat)(a:Act)(e:Env):Prop where
 defers:a.defers=[]
 size:a.tmps.size=N
 get:∀i,a.tmps.getD i undef=e i
theorem O{α:Sort _}{a:α}:a=a:=rfl
theorem ap{p:Prop}(h:p:=by exact O):p:=h
theorem lM.eval{N:Nat}{a:Act}{e:Env}(h:lM N a e):a.eval=ev e:=by
 funext x;cases x with
 |tmp t=>exact h.get t
 |const v=>rfl
 |global g=>rfl
 |func f=>rfl
theorem lM.put{N:Nat}{a:Act}{e:Env}(h:lM N a e){d:Nat}(hd:Nat.blt d N=true)(v:ab):lM N (a.put (some d) v) (bE e d v):=by
 have wM:d<a.tmps.size:=by rw[h.size];simpa[Nat.blt_eq]using hd
 refine⟨h.defers,by simp[Act.put,h.size],λi=>?_⟩;simp only[Act.put,bE];rw[sL,zC]
 by_cases e1:d=i
 ·subst e1;simp[wM]
 ·have e2:Nat.beq i d=false:=by
   cases hb:Nat.beq i d with
   |false=>rfl
   |true=>exact absurd (lg hb).symm e1
  rw[aD e1,e2,<-sL,h.get]
  rfl
abbrev jo:=Exit->Env->aa->Prop
def low(N:Nat)(Q:jo):Exit->Act->aa->Prop:=λx a w=>∃e,lM N a e/\Q x e w
structure Cd(P:Program)(N:Nat)(c:Code)(Q:jo)(e:Env)(w:aa):Prop where
 mk'::
 run:∀a,lM N a e->c.wp P (low N Q) a w
structure ak(P:Program)(N:Nat)(ops:Array Oper)(K:Env->aa->Prop)(l:List Oper)(e:Env)(w:aa):Prop where
 mk'::
 run:∀a,lM N a e->wpList P ops (λx a w=>x=.normal/\∃e,lM N a e/\K e w) l a w
section
variable{y:Code}{id:Nat}
variable {P:Program}{N:Nat}{Q:jo}{e:Env}{w:aa}
def Du(K:Env->aa->Prop)(Q:jo):jo
 | .normal,e,w=>K e w
 |x,e,w=>Q x e w
def MX(id:Nat)(Q:jo):jo
 | .exit Qz,e,w=>if Qz=id then Q .normal e w else Q (.exit Qz) e w
 |x,e,w=>Q x e w
theorem Cd.mono{c:Code}{Q':jo}(hq:∀x e w,Q x e w->Q' x e w)(h:Cd P N c Q e w):Cd P N c Q' e w:=
 .mk' λa ha=>wp_mono (h.run a ha) λ_ _ _ ⟨e,he,q⟩=>⟨e,he,hq _ _ _ q⟩
theorem Cd.seq{x:Code}(h:Cd P N x (Du (Cd P N y Q) Q) e w):Cd P N (.seq x y) Q e w:=.mk' λa ha=>
 wp_seq (wp_mono (h.run a ha) λex a' w' ⟨e',uc,q⟩=>by
  cases ex<;>first|exact q.run a' uc|exact⟨e',uc,q⟩)
theorem Cd.skip(h:Q .normal e w):Cd P N .skip Q e w:=.mk' λa ha=>wp_skip ⟨e,ha,h⟩
theorem Cd.ret(h:Q .ret e w):Cd P N .ret Q e w:=.mk' λa ha=>wp_ret ⟨e,ha,h⟩
theorem Cd.exit(h:Q (.exit id) e w):Cd P N (.exit id) Q e w:=.mk' λa ha=>wp_exit ⟨e,ha,h⟩
theorem Cd.block{c:Code}(h:Cd P N c (MX id Q) e w):Cd P N (.block id c) Q e w:=.mk' λa ha=>
 wp_block (wp_mono (h.run a ha) λex a' w' ⟨e',uc,q⟩=>by
  cases ex<;>first
   |exact⟨e',uc,q⟩
   |(
    rename_i Qz;simp only[MX]at q;simp only[Exit.inBlock]
    split
    ·rename_i hid;rw[aG hid]at q;exact⟨e',uc,q⟩
    ·rename_i hid;rw[aD hid]at q;exact⟨e',uc,q⟩))
theorem Cd.cond{c:ae}{x:Code}{t:Bool}(hc:ev e c=.bool t)(h1:t=true->Cd P N x Q e w)(h2:t=false->Cd P N y Q e w):Cd P N (.cond c x y) Q e w:=.mk' λa ha=>
 wp_cond_split (t:=t) (by rw[ha.eval,hc]) (λh=>(h1 h).run a ha) (λh=>(h2 h).run a ha)
theorem Cd.iw{c:ae}{x:Code}(hc:ev e c=.bool true)(h1:Cd P N x Q e w):Cd P N (.cond c x y) Q e w:=.cond hc (λ_=>h1) (λh=>by cases h)
theorem Cd.cX{c:ae}{x:Code}(hc:ev e c=.bool false)(h1:Cd P N y Q e w):Cd P N (.cond c x y) Q e w:=.cond hc (λh=>by cases h) (λ_=>h1)
theorem aK{c:ae}{x:Code}(p:Prop)[Decidable p](hc:ev e c=.bool (decide p))(h1:p->Cd P N x Q e w)(h2:¬p->Cd P N y Q e w):Cd P N (.cond c x y) Q e w:=
 .cond hc (λh=>h1 (bX h)) (λh=>h2 (of_decide_eq_false h))
theorem Cd.region{l:List Oper}(h:ak P N l.toArray (λe w=>Q .normal e w) l e w):Cd P N (.region id l.toArray false) Q e w:=.mk' λa ha=>
 wp_mono (wp_region_lit (h.run a ha)) λ_ _ _ ⟨hx,e',uc,q⟩=>⟨e',uc,by rw[hx];exact q⟩
def Mt(e:Env):List (Nat×ab)->Prop
 |[]=>True
 |(i,v)::r=>e i=v/\Mt e r
theorem auV{e:Env}:∀{l:List (Nat×Value)},l.map (λp=>e p.1)=l.map (λp=>p.2)->Mt e l
 |[],_=>True.intro
 |_::_,h=>⟨(List.cons.inj h).1,auV (List.cons.inj h).2⟩
def ext(e:Env):List (Nat×ab)->Env
 |[]=>e
 |(i,v)::r=>bE (ext e r) i v
theorem yb:∀{l:List (Nat×ab)}{e:Env},Mt e l->ext e l=e
 |[],_,_=>rfl
 |(i,v)::r,e,h=>by
  show bE (ext e r) i v=e;rw[yb h.2];funext j;unfold bE;cases hb:Nat.beq j i with
  |false=>rfl
  |true=>rw[lg hb,h.1];rfl
theorem Cd.loop{α:Type}{c:Code}(F:α->List (Nat×ab))(I:α->aa->Prop)(m:α->Nat)(s0:α)(hF:Mt e (F s0))(hI:I s0 w)
 (round:∀s e w,I s w->Cd P N c (Du (λe' w'=>∃s',m s'<m s/\Mt e' (F s')/\I s' w') Q) (ext e (F s)) w):Cd P N (.loop c) Q e w:=by
 have key:∀n s e w,m s=n->Mt e (F s)->I s w->∀a,lM N a e->(Code.loop c).wp P (low N Q) a w:=by
  intro n0 s e w hn hm OC a ha
  let J:Act->aa->Prop:=λa w=>∃s e,lM N a e/\Mt e (F s)/\I s w
  refine wp_loop_ghost (I:=λn a w=>∃s e,m s=n/\lM N a e/\Mt e (F s)/\I s w) n0 ⟨s,e,hn,ha,hm,OC⟩ ?_;intro n a w ⟨s,e,hn,ha,hm,hI⟩;have h1:=round s e w hI;rw[yb hm]at h1;refine wp_mono (h1.run a ha) λex a' w' ⟨e',uc,q⟩=>?_
  cases ex<;>first
   |exact⟨e',uc,q⟩
   |(
    obtain⟨s',dH,jS,OC⟩:=q;exact⟨m s',ac,s',e',O,uc,jS,OC⟩)
 exact .mk' λa ha=>key _ s0 e w O hF hI a ha
end
class bJ(P:Program)(t:ad)(d:outParam TypeDesc):Type where
 out:P.underlying t=some d
class bL(P:Program)(t:ad)(z:outParam ab)(size bytes:outParam Nat):Prop where
 out:(P.info? t).map (λi=>(i.zero,i.size,i.bytes))=some (some z,size,bytes)
class bq(P:Program)(F:FuncId):Prop where
 out:∃ fn, P.funcs[F]? = some fn /\ (fn.name == "runtime.NumGoroutine") = false /\ fn.body.isNone = false
theorem bL.get(P:Program)(t:ad){z:ab}{s b:Nat}[h:bL P t z s b]:∃i,P.info? t=some i/\i.zero=some z/\i.size=s/\i.bytes=b:=by
 obtain⟨i,hi,he⟩:=Option.map_eq_some_iff.1 h.out;simp only[Prod.mk.injEq]at he;exact⟨i,hi,he.1,he.2.1,he.2.2⟩
section
variable{j dj d:Nat}{b want:Bool}
variable {P:Program}{N:Nat}{ops:Array Oper}{K:Env->aa->Prop}{rest:List Oper}{e:Env}{w w':aa}{d:Nat}{ty:ad}{pos:String}{af:Array Edge}
theorem ak.n(h:K e w):ak P N ops K [] e w:=.mk' λa ha=>wpList_nil ⟨rfl,e,ha,h⟩
theorem ak.val{op:Op}{v:ab}(hr:(execOp (ev e) ⟨some d,op,ty,pos,af,none⟩).run P w=.ok (.value v) w')(hb:Nat.blt d N=true)(hK:ak P N ops K rest (bE e d v) w'):
 ak P N ops K (⟨some d,op,ty,pos,af,none⟩::rest) e w:=.mk' λa ha=>by
 refine wpList_plain O λJ hJ=>?_
 unfold Oper.wp;rw[ha.eval,hr];exact hJ _ _ (hK.run _ (ha.put hb v))
theorem ak.unit{op:Op}(hr:(execOp (ev e) ⟨none,op,ty,pos,af,none⟩).run P w=.ok .skip w')(hK:ak P N ops K rest e w'):
 ak P N ops K (⟨none,op,ty,pos,af,none⟩::rest) e w:=.mk' λa ha=>by
 refine wpList_plain O λJ hJ=>?_
 unfold Oper.wp;rw[ha.eval,hr];exact hJ _ _ (hK.run _ ha)
theorem ak.abT{op:Op}{v:ab}(hr:(execOp (ev e) ⟨none,op,ty,pos,af,none⟩).run P w=.ok (.value v) w')(hK:ak P N ops K rest e w'):
 ak P N ops K (⟨none,op,ty,pos,af,none⟩::rest) e w:=.mk' λa ha=>by
 refine wpList_plain O λJ hJ=>?_
 unfold Oper.wp;rw[ha.eval,hr];exact hJ _ _ (hK.run _ ha)
theorem abW{a:Act}(ha:lM N a e)(hj:(ops[j]?).bind (·.dst)=some dj)(dH:Nat.blt dj N=true)(hv:e dj=.bool b):yielded ops a.tmps j=some b:=by
 have h1:dj<a.tmps.size:=by rw[ha.size];simpa[Nat.blt_eq]using dH
 have h2:=ha.get dj;rw[sL,BO h1,Option.getD_some,hv]at h2;simp[yielded,hj,BO h1,h2]
theorem auH{o:Option Tmp}{op:Op}(hj:(ops[j]?).bind (·.dst)=some dj)(dH:Nat.blt dj N=true)(hv:e dj=.bool want)(hK:ak P N ops K (⟨o,op,ty,pos,af,none⟩::rest) e w):ak P N ops K (⟨o,op,ty,pos,af,some (j,want)⟩::rest) e w:=.mk' λa ha=>by
 have h:=hK.run a ha;have hy:=abW (ops:=ops) ha hj dH hv;have hw:Region.wanted (⟨o,op,ty,pos,af,some (j,want)⟩:Oper) (yielded ops a.tmps)=true:=by
  simp[Region.wanted,hy]
 unfold wpList at h|-;rw[aG hw];rw[aG (show Region.wanted (⟨o,op,ty,pos,af,none⟩:Oper) (yielded ops a.tmps)=true from rfl)]at h;exact h
theorem ar{o:Option Tmp}{op:Op}(q9:((ops[j]?).bind (·.dst),Nat.blt dj N,e dj)=(some dj,true,.bool want))(hK:ak P N ops K (⟨o,op,ty,pos,af,none⟩::rest) e w):ak P N ops K (⟨o,op,ty,pos,af,some (j,want)⟩::rest) e w:=auH (congrArg (λp=>p.1) q9) (congrArg (λp=>p.2.1) q9) (congrArg (λp=>p.2.2) q9) hK
theorem auI{op:Op}(hj:(ops[j]?).bind (·.dst)=some dj)(dH:Nat.blt dj N=true)(hv:e dj=.bool b)(bN:(b==want)=false)(hb:Nat.blt d N=true)(hK:ak P N ops K rest (bE e d undef) w):ak P N ops K (⟨some d,op,ty,pos,af,some (j,want)⟩::rest) e w:=.mk' λa ha=>by
 have hy:=abW (ops:=ops) ha hj dH hv;refine wpList_skip ?_ (hK.run _ (ha.put hb undef));simp only[Region.wanted];rw[hy];simpa using bN
theorem aB{op:Op}(q9:((ops[j]?).bind (·.dst),Nat.blt dj N,e dj,(b==want),Nat.blt d N)=(some dj,true,.bool b,false,true))(hK:ak P N ops K rest (bE e d undef) w):ak P N ops K (⟨some d,op,ty,pos,af,some (j,want)⟩::rest) e w:=auI (congrArg (λp=>p.1) q9) (congrArg (λp=>p.2.1) q9) (congrArg (λp=>p.2.2.1) q9) (congrArg (λp=>p.2.2.2.1) q9) (congrArg (λp=>p.2.2.2.2) q9) hK
theorem cW{op:Op}(hj:(ops[j]?).bind (·.dst)=some dj)(dH:Nat.blt dj N=true)(hv:e dj=undef)(hb:Nat.blt d N=true)(hK:ak P N ops K rest (bE e d undef) w):ak P N ops K (⟨some d,op,ty,pos,af,some (j,want)⟩::rest) e w:=.mk' λa ha=>by
 refine wpList_skip ?_ (hK.run _ (ha.put hb undef));have h1:dj<a.tmps.size:=by rw[ha.size];simpa[Nat.blt_eq]using dH
 have h2:=ha.get dj;rw[sL,BO h1,Option.getD_some,hv]at h2;simp[Region.wanted,yielded,hj,BO h1,h2,undef]
theorem abR{e:Env}{v:ab}(h:e d=v):bE e d v=e:=by
 funext j;unfold bE;cases hb:Nat.beq j d with
 |false=>rfl
 |true=>rw[lg hb,h];rfl
theorem ak.split{l:List Oper}(d:Nat)(hv:e d=.bool b)(h1:b=true->ak P N ops K l (bE e d (.bool true)) w)(h2:b=false->ak P N ops K l (bE e d (.bool false)) w):ak P N ops K l e w:=by
 cases b
 ·have:=h2 O;rwa[abR hv]at this
 have:=h1 O;rwa[abR hv]at this
theorem b9{l:List Oper}(d:Nat){p:Prop}[Decidable p](hv:e d=.bool (decide p))(h1:p->ak P N ops K l (bE e d (.bool true)) w)(h2:¬p->ak P N ops K l (bE e d (.bool false)) w):ak P N ops K l e w:=
 .split d hv (λh=>h1 (bX h)) (λh=>h2 (of_decide_eq_false h))
def Bz:Op->Option ae
 | .move x=>some x
 | .assign x=>some x
 |_=>none
theorem ap9{op:Op}{x:ae}(h:Bz op=some x):(execOp (ev e) ⟨some d,op,ty,pos,af,none⟩).run P w=.ok (.value (ev e x)) w:=by
 cases op<;>simp[Bz]at h<;>subst h<;>rfl
theorem ak.mv{op:Op}{x:ae}{v:ab}(qI:Bz op=some x)(hx:ev e x=v)(hb:Nat.blt d N=true)(hK:ak P N ops K rest (bE e d v) w):ak P N ops K (⟨some d,op,ty,pos,af,none⟩::rest) e w:=
 .val (by rw[ap9 qI,hx]) hb hK
theorem uZ{op:Op}{x:ae}{k:IntKind}{i:Int}(qI:Bz op=some x)(hx:ev e x=.int k i)(hb:Nat.blt d N=true)(hK:ak P N ops K rest (bE e d (.int k i)) w):ak P N ops K (⟨some d,op,ty,pos,af,none⟩::rest) e w:=.mv qI hx hb hK
theorem mm{op:Op}{x:ae}{A:ai}{n c:Nat}(qI:Bz op=some x)(hx:ev e x=.slice A n c)(hb:Nat.blt d N=true)(hK:ak P N ops K rest (bE e d (.slice A n c)) w):ak P N ops K (⟨some d,op,ty,pos,af,none⟩::rest) e w:=.mv qI hx hb hK
theorem IA{op:Op}{x:ae}(qI:Bz op=some x)(hx:ev e x=.bool b)(hb:Nat.blt d N=true)(hK:ak P N ops K rest (bE e d (.bool b)) w):ak P N ops K (⟨some d,op,ty,pos,af,none⟩::rest) e w:=.mv qI hx hb hK
theorem acV{op:Op}{x:ae}{p:ai}(qI:Bz op=some x)(hx:ev e x=.pointer p)(hb:Nat.blt d N=true)(hK:ak P N ops K rest (bE e d (.pointer p)) w):ak P N ops K (⟨some d,op,ty,pos,af,none⟩::rest) e w:=.mv qI hx hb hK
theorem MB{op:Op}{x:ae}{cs:Array ab}(qI:Bz op=some x)(hx:ev e x=.tuple cs)(hb:Nat.blt d N=true)(hK:ak P N ops K rest (bE e d (.tuple cs)) w):ak P N ops K (⟨some d,op,ty,pos,af,none⟩::rest) e w:=.mv qI hx hb hK
section
variable{b:Bool}
variable {x y:ae}{xt yt:ad}{i j:Int}
theorem auN(hx:ev e x=aj i)(hy:ev e y=aj j)(hb:Nat.blt d N=true)(hr: -9223372036854775808<=i+j/\i+j<=9223372036854775807)(hK:ak P N ops K rest (bE e d (aj (i+j))) w):
 ak P N ops K (⟨some d,.binOp .add xt x y yt,ty,pos,af,none⟩::rest) e w:=
 .val (by simp[execOp,hx,hy,eqGuard,binOp,Op.intArith,IntWalk.i64_in _ hr]) hb hK
theorem aJ(q9:(ev e x,ev e y,Nat.blt d N)=(aj i,aj j,true))(hK:ak P N ops K rest (bE e d (aj (i+j))) w)(hr:-9223372036854775808<=i+j/\i+j<=9223372036854775807:=by omega):ak P N ops K (⟨some d,.binOp .add xt x y yt,ty,pos,af,none⟩::rest) e w:=auN (congrArg (λp=>p.1) q9) (congrArg (λp=>p.2.1) q9) (congrArg (λp=>p.2.2) q9) hr hK
theorem auL(hx:ev e x=aj i)(hy:ev e y=aj j)(hb:Nat.blt d N=true)(hr: -9223372036854775808<=i-j/\i-j<=9223372036854775807)(hK:ak P N ops K rest (bE e d (aj (i-j))) w):
 ak P N ops K (⟨some d,.binOp .sub xt x y yt,ty,pos,af,none⟩::rest) e w:=
 .val (by simp[execOp,hx,hy,eqGuard,binOp,Op.intArith,IntWalk.i64_in _ hr]) hb hK
theorem cV(q9:(ev e x,ev e y,Nat.blt d N)=(aj i,aj j,true))(hK:ak P N ops K rest (bE e d (aj (i-j))) w)(hr:-9223372036854775808<=i-j/\i-j<=9223372036854775807:=by omega):ak P N ops K (⟨some d,.binOp .sub xt x y yt,ty,pos,af,none⟩::rest) e w:=auL (congrArg (λp=>p.1) q9) (congrArg (λp=>p.2.1) q9) (congrArg (λp=>p.2.2) q9) hr hK
theorem ak.mul(hx:ev e x=aj i)(hy:ev e y=aj j)(hb:Nat.blt d N=true)(hr: -9223372036854775808<=i*j/\i*j<=9223372036854775807)(hK:ak P N ops K rest (bE e d (aj (i*j))) w):
 ak P N ops K (⟨some d,.binOp .mul xt x y yt,ty,pos,af,none⟩::rest) e w:=
 .val (by simp[execOp,hx,hy,eqGuard,binOp,Op.intArith,IntWalk.i64_in _ hr]) hb hK
theorem ak.quo(hx:ev e x=aj i)(hy:ev e y=aj j)(hb:Nat.blt d N=true)(hr:0<=i/\i<=9223372036854775807/\1<=j)(hK:ak P N ops K rest (bE e d (aj (i / j))) w):
 ak P N ops K (⟨some d,.binOp .quo xt x y yt,ty,pos,af,none⟩::rest) e w:=
 .val (by simp[execOp,hx,hy,eqGuard,binOp,Op.intDiv,IntWalk.i64_quo _ _ hr,show j≠0 by omega]) hb hK
theorem ak.rem(hx:ev e x=aj i)(hy:ev e y=aj j)(hb:Nat.blt d N=true)(hr:0<=i/\1<=j)(hK:ak P N ops K rest (bE e d (aj (i%j))) w):
 ak P N ops K (⟨some d,.binOp .rem xt x y yt,ty,pos,af,none⟩::rest) e w:=
 .val (by simp[execOp,hx,hy,eqGuard,binOp,Op.intDiv,Int.tmod_eq_emod_of_nonneg hr.1,show j≠0 by omega]) hb hK
theorem ak.lss{k:IntKind}(hx:ev e x=.int k i)(hy:ev e y=.int k j)(hb:Nat.blt d N=true)(hK:ak P N ops K rest (bE e d (.bool (decide (i<j)))) w):
 ak P N ops K (⟨some d,.binOp .lss xt x y yt,ty,pos,af,none⟩::rest) e w:=.val (by simp[execOp,hx,hy,eqGuard,binOp,Op.intCmp]) hb hK
theorem ak.leq{k:IntKind}(hx:ev e x=.int k i)(hy:ev e y=.int k j)(hb:Nat.blt d N=true)(hK:ak P N ops K rest (bE e d (.bool (decide (i<=j)))) w):
 ak P N ops K (⟨some d,.binOp .leq xt x y yt,ty,pos,af,none⟩::rest) e w:=.val (by simp[execOp,hx,hy,eqGuard,binOp,Op.intCmp]) hb hK
theorem ak.gtr{k:IntKind}(hx:ev e x=.int k i)(hy:ev e y=.int k j)(hb:Nat.blt d N=true)(hK:ak P N ops K rest (bE e d (.bool (decide (j<i)))) w):
 ak P N ops K (⟨some d,.binOp .gtr xt x y yt,ty,pos,af,none⟩::rest) e w:=.val (by simp[execOp,hx,hy,eqGuard,binOp,Op.intCmp]) hb hK
theorem ak.geq{k:IntKind}(hx:ev e x=.int k i)(hy:ev e y=.int k j)(hb:Nat.blt d N=true)(hK:ak P N ops K rest (bE e d (.bool (decide (j<=i)))) w):
 ak P N ops K (⟨some d,.binOp .geq xt x y yt,ty,pos,af,none⟩::rest) e w:=.val (by simp[execOp,hx,hy,eqGuard,binOp,Op.intCmp]) hb hK
theorem adZ(i j:Int):(i==j)=decide (i=j):=by by_cases h:i=j<;>simp[h]
theorem aeg(i j:Int):(i !=j)=decide (¬i=j):=by by_cases h:i=j<;>simp[h]
theorem ak.eql{k:IntKind}(hx:ev e x=.int k i)(hy:ev e y=.int k j)(hb:Nat.blt d N=true)(hK:ak P N ops K rest (bE e d (.bool (decide (i=j)))) w):
 ak P N ops K (⟨some d,.binOp .eql xt x y yt,ty,pos,af,none⟩::rest) e w:=.val (by rw[<-adZ];simp[execOp,hx,hy,eqGuard,binOp,Op.intCmp]) hb hK
theorem ak.neq{k:IntKind}(hx:ev e x=.int k i)(hy:ev e y=.int k j)(hb:Nat.blt d N=true)(hK:ak P N ops K rest (bE e d (.bool (decide (¬i=j)))) w):
 ak P N ops K (⟨some d,.binOp .neq xt x y yt,ty,pos,af,none⟩::rest) e w:=.val (by rw[<-aeg];simp[execOp,hx,hy,eqGuard,binOp,Op.intCmp]) hb hK
theorem dv(hx:ev e x=.bool b)(hb:Nat.blt d N=true)(hK:ak P N ops K rest (bE e d (.bool (!b))) w):
 ak P N ops K (⟨some d,.unOp .not xt x,ty,pos,af,none⟩::rest) e w:=.val (by simp[execOp,hx,Op.unary]) hb hK
theorem cO{p:Prop}[Decidable p](hx:ev e x=.bool (decide p))(hb:Nat.blt d N=true)(hK:ak P N ops K rest (bE e d (.bool (decide ¬p))) w):
 ak P N ops K (⟨some d,.unOp .not xt x,ty,pos,af,none⟩::rest) e w:=.val (by simp[execOp,hx,Op.unary]) hb hK
theorem ak.neg(hx:ev e x=aj i)(hb:Nat.blt d N=true)(hr: -9223372036854775807<=i/\i<=9223372036854775807)(hK:ak P N ops K rest (bE e d (aj (-i))) w):
 ak P N ops K (⟨some d,.unOp .neg xt x,ty,pos,af,none⟩::rest) e w:=.val (by simp[execOp,hx,Op.unary,Op.intArith,IntWalk.i64_in (-i) (by omega)]) hb hK
theorem ak.Rl{c:ae}(hc:ev e c=.bool true)(hx:ev e x=.bool b)(hb:Nat.blt d N=true)(hK:ak P N ops K rest (bE e d (.bool b)) w):
 ak P N ops K (⟨some d,.pick c x y,ty,pos,af,none⟩::rest) e w:=.val (by simp[execOp,hc,hx,asBool]) hb hK
theorem ak.Rk{c:ae}(hc:ev e c=.bool false)(hx:ev e y=.bool b)(hb:Nat.blt d N=true)(hK:ak P N ops K rest (bE e d (.bool b)) w):
 ak P N ops K (⟨some d,.pick c x y,ty,pos,af,none⟩::rest) e w:=.val (by simp[execOp,hc,hx,asBool]) hb hK
end
theorem ak.extract{x:ae}{vs:Array ab}{ix:Nat}{v:ab}(hx:ev e x=.tuple vs)(hv:vs[ix]?=some v)(hb:Nat.blt d N=true)(hK:ak P N ops K rest (bE e d v) w):
 ak P N ops K (⟨some d,.extract x ix,ty,pos,af,none⟩::rest) e w:=.val (by simp[execOp,hx,Instr.extract,hv]) hb hK
theorem aR{x:ae}{t el:ad}{A:ai}{n c:Nat}[bJ P t (.slice el)](hx:ev e x=.slice A n c)(hb:Nat.blt d N=true)(hK:ak P N ops K rest (bE e d (aj n)) w):
 ak P N ops K (⟨some d,.call ⟨.builtin .len, #[x], #[t]⟩,ty,pos,af,none⟩::rest) e w:=
 .val (by simp[execOp,resolve,invoke,builtin,Builtin.len_,hx,run_underlying (bJ.out (P:=P) (t:=t)),goInt]) hb hK
theorem ak.an8{x:ae}{a:Addr}(hx:ev e x=.pointer (some a))(hb:Nat.blt d N=true)(hK:ak P N ops K rest (bE e d (.pointer (some a))) w):
 ak P N ops K (⟨some d,.nilCheck x,ty,pos,af,none⟩::rest) e w:=.val (by simp[execOp,hx]) hb hK
def aF(P:Program)(F:FuncId)(vs:List ab)(w:aa)(R:ab->aa->Prop):Prop:=Calls P F vs.toArray w λx w'=>∃v,x=.returned v/\R v w'
theorem auM{f:ae}{F:FuncId}{c2:Array ab}{l:List ae}{vs:List ab}{R:ab->aa->Prop}{TG:Array ad}[hF:bq P F](hC:aF P F vs w R)(hf:ev e f=.func (.func F) #[] c2)(hv:l.map (ev e)++c2.toList=vs)(hb:Nat.blt d N=true)(hK:∀v w',R v w'->ak P N ops K rest (bE e d v) w'):ak P N ops K (⟨some d,.call ⟨.value f,l.toArray,TG⟩,ty,pos,af,none⟩::rest) e w:=.mk' λa ha=>by
 obtain⟨fn,h1,h2,h3⟩:=hF.out;have jI:(execOp (ev e) ⟨some d,.call ⟨.value f,l.toArray,TG⟩,ty,pos,af,none⟩).run P w=.ok (.enter F vs.toArray) w:=by
  have h4:(l.toArray.map (ev e)++c2)=vs.toArray:=by
   rw[<-hv];simp
  have h5:¬ fn.name = "runtime.NumGoroutine":=by simpa using h2
  have h6:¬fn.body=none:=by intro h;rw[h]at h3;cases h3
  simp[execOp,resolve,hf,Deferred.ofValue,invoke,callFunc,h1,h5,h6];exact hv
 refine wpList_plain O λJ hJ=>?_
 unfold Oper.wp;rw[ha.eval,jI];refine Calls.mono hC λx w' ⟨v,hx,hR⟩=>?_
 subst hx;exact hJ _ _ ((hK v w' hR).run _ (ha.put hb v))
theorem aI{f:ae}{F:FuncId}{c2:Array ab}{l:List ae}{vs:List ab}{R:ab->aa->Prop}{TG:Array ad}[hF:bq P F](hC:aF P F vs w R)(q9:(ev e f,l.map (ev e)++c2.toList,Nat.blt d N)=(.func (.func F) #[] c2,vs,true))(hK:∀v w',R v w'->ak P N ops K rest (bE e d v) w'):ak P N ops K (⟨some d,.call ⟨.value f,l.toArray,TG⟩,ty,pos,af,none⟩::rest) e w:=auM hC (congrArg (λp=>p.1) q9) (congrArg (λp=>p.2.1) q9) (congrArg (λp=>p.2.2) q9) hK
theorem tQ{K:Env->aa->Prop}{Q:jo}(h:K e w):Du K Q .normal e w:=h
theorem fz{K:Env->aa->Prop}{Q:jo}(h:Q .ret e w):Du K Q .ret e w:=h
theorem bc{K:Env->aa->Prop}{Q:jo}{id:Nat}(h:Q (.exit id) e w):Du K Q (.exit id) e w:=h
def MN(vs:List ab):Env:=λi=>vs.getD i undef
def RE(R:ab->aa->Prop):jo
 | .normal,_,w=>R (.tuple #[]) w
 | .ret,_,w=>R (.tuple #[]) w
 |_,_,_=>False
def HW(t:Nat)(R:ab->aa->Prop):jo
 | .normal,e,w=>R (e t) w
 | .ret,e,w=>R (e t) w
 |_,_,_=>False
def E4(t u:Nat)(R:ab->aa->Prop):jo
 | .normal,e,w=>R (.tuple #[e t,e u]) w
 | .ret,e,w=>R (.tuple #[e t,e u]) w
 |_,_,_=>False
theorem apL(vs:List ab)(n:Nat)(h:Nat.ble vs.length n=true):lM n ⟨vs.toArray++Array.replicate (n-vs.toArray.size) undef,[]⟩ (MN vs):=by
 have h':vs.length<=n:=by simpa using h
 refine⟨O,by simp;omega,λi=>?_⟩;simp only[MN];rw[sL,b5,Array.getElem?_append]
 split
 ·simp
 rename_i hi;simp at hi;rw[oP hi,Array.getElem?_replicate]
 split<;>rfl
theorem cK{R:ab->aa->Prop}{t:Nat}{b:Bool}(h:e t=.bool b)(hR:R (.bool b) w):HW t R .ret e w:=by show R (e t) w;rw[h];exact hR
theorem gj{R:ab->aa->Prop}{t:Nat}{k:IntKind}{i:Int}(h:e t=.int k i)(hR:R (.int k i) w):HW t R .ret e w:=by show R (e t) w;rw[h];exact hR
theorem dV{R:ab->aa->Prop}{t:Nat}{A:ai}{n c:Nat}(h:e t=.slice A n c)(hR:R (.slice A n c) w):HW t R .ret e w:=by show R (e t) w;rw[h];exact hR
theorem LF{R:ab->aa->Prop}{t:Nat}{v:ab}(h:e t=v)(hR:R v w):HW t R .ret e w:=by show R (e t) w;rw[h];exact hR
theorem LD{R:ab->aa->Prop}(hR:R (.tuple #[]) w):RE R .ret e w:=hR
theorem qU{R:ab->aa->Prop}(hR:R (.tuple #[]) w):RE R .normal e w:=hR
theorem vQ{R:ab->aa->Prop}{t u:Nat}{A:ai}{n c:Nat}{k:IntKind}{i:Int}(h:e t=.slice A n c)(h2:e u=.int k i)(hR:R (.tuple #[.slice A n c,.int k i]) w):E4 t u R .ret e w:=by show R (.tuple #[e t,e u]) w;rw[h,h2];exact hR
theorem LG{R:ab->aa->Prop}{t u:Nat}{k':IntKind}{j:Int}{k:IntKind}{i:Int}(h:e t=.int k' j)(h2:e u=.int k i)(hR:R (.tuple #[.int k' j,.int k i]) w):E4 t u R .ret e w:=by show R (.tuple #[e t,e u]) w;rw[h,h2];exact hR
theorem uI{R:ab->aa->Prop}{t u:Nat}{b:Bool}{k:IntKind}{i:Int}(h:e t=.bool b)(h2:e u=.int k i)(hR:R (.tuple #[.bool b,.int k i]) w):E4 t u R .ret e w:=by show R (.tuple #[e t,e u]) w;rw[h,h2];exact hR
theorem RG{R:ab->aa->Prop}{t u:Nat}{A:ai}{n c:Nat}{b:Bool}(h:e t=.slice A n c)(h2:e u=.bool b)(hR:R (.tuple #[.slice A n c,.bool b]) w):E4 t u R .ret e w:=by show R (.tuple #[e t,e u]) w;rw[h,h2];exact hR
theorem bn{F:FuncId}{fn:Func}{c:Code}{vs:List ab}{R:ab->aa->Prop}{Q:jo}(hf:P.funcs[F]?=some fn)(hc:fn.body=some c)(hn:fn.ntmps=N)(hl:Nat.ble vs.length N=true)(hQ:∀x a e w,lM N a e->Q x e w->bodyPost P fn (λx w'=>∃v,x=.returned v/\R v w') x a w)(h:Cd P N c Q (MN vs) w):aF P F vs w R:=by
 subst hn;exact calls_of_wp hf hc (wp_mono (h.run _ (apL vs _ hl)) λx a w ⟨e,he,q⟩=>hQ x a e w he q)
theorem vM{fn:Func}{R:ab->aa->Prop}(hr:fn.results= #[]):∀x a e w,lM N a e->RE R x e w->bodyPost P fn (λx w'=>∃v,x=.returned v/\R v w') x a w:=by
 intro x a e w he q;cases x<;>first
  |exact q.elim
  |exact⟨he.defers,_,results_none hr _ _ _,_,rfl,q⟩
theorem bM{fn:Func}{R:ab->aa->Prop}{t:Nat}(hr:fn.results= #[.tmp t]):∀x a e w,lM N a e->HW t R x e w->bodyPost P fn (λx w'=>∃v,x=.returned v/\R v w') x a w:=by
 intro x a e w he q;have hg:=he.get t;cases x<;>first
  |exact q.elim
  |exact⟨he.defers,_,results_tmp hr _ _ _,_,rfl,by rw[hg];exact q⟩
theorem mI{fn:Func}{R:ab->aa->Prop}{t u:Nat}(hr:fn.results= #[.tmp t,.tmp u]):∀x a e w,lM N a e->E4 t u R x e w->bodyPost P fn (λx w'=>∃v,x=.returned v/\R v w') x a w:=by
 intro x a e w he q;have hg:=he.get t;have hh:=he.get u;cases x<;>first
  |exact q.elim
  |exact⟨he.defers,_,results_tmp2 hr _ _ _,_,rfl,by rw[hg,hh];exact q⟩
end
def hd:ab->Option ab
 | .int k n=>some (.int k n)
 | .slice a n c=>some (.slice a n c)
 | .bool b=>some (.bool b)
 | .pointer a=>some (.pointer a)
 | .agg cs=>some (.agg cs)
 | .func f a b=>some (.func f a b)
 | .tuple cs=>some (.tuple cs)
 | .string s=>some (.string s)
 | .map r=>some (.map r)
 |_=>none
theorem Pk{v u:ab}(h:hd v=some u):v=u:=by cases v<;>simp[hd]at h<;>exact h
def QV(e:Env)(x y:ae):Option ab:=
 match ev e x,ev e y with
 | .int .i64 a,.int .i64 b=>some (.bool (decide (a<b)))
 |_,_=>none
theorem anK{e:Env}{x y:ae}{v:ab}(h:QV e x y=some v):∃a b,ev e x=aj a/\ev e y=aj b/\v=.bool (decide (a<b)):=by
 unfold QV at h
 split at h
 ·rename_i a b h1 h2;exact⟨a,b,h1,h2,(cn h).symm⟩
 cases h
def QP(e:Env)(x y:ae):Option ab:=
 match ev e x,ev e y with
 | .int .i64 a,.int .i64 b=>some (.bool (decide (a<=b)))
 |_,_=>none
theorem ans{e:Env}{x y:ae}{v:ab}(h:QP e x y=some v):∃a b,ev e x=aj a/\ev e y=aj b/\v=.bool (decide (a<=b)):=by
 unfold QP at h
 split at h
 ·rename_i a b h1 h2;exact⟨a,b,h1,h2,(cn h).symm⟩
 cases h
def N6(e:Env)(x y:ae):Option ab:=
 match ev e x,ev e y with
 | .int .i64 a,.int .i64 b=>some (.bool (decide (b<a)))
 |_,_=>none
theorem ahH{e:Env}{x y:ae}{v:ab}(h:N6 e x y=some v):∃a b,ev e x=aj a/\ev e y=aj b/\v=.bool (decide (b<a)):=by
 unfold N6 at h
 split at h
 ·rename_i a b h1 h2;exact⟨a,b,h1,h2,(cn h).symm⟩
 cases h
def NT(e:Env)(x y:ae):Option ab:=
 match ev e x,ev e y with
 | .int .i64 a,.int .i64 b=>some (.bool (decide (b<=a)))
 |_,_=>none
theorem ahe{e:Env}{x y:ae}{v:ab}(h:NT e x y=some v):∃a b,ev e x=aj a/\ev e y=aj b/\v=.bool (decide (b<=a)):=by
 unfold NT at h
 split at h
 ·rename_i a b h1 h2;exact⟨a,b,h1,h2,(cn h).symm⟩
 cases h
def Nw(e:Env)(x y:ae):Option ab:=
 match ev e x,ev e y with
 | .int .i64 a,.int .i64 b=>some (.bool (decide (a=b)))
 |_,_=>none
theorem af9{e:Env}{x y:ae}{v:ab}(h:Nw e x y=some v):∃a b,ev e x=aj a/\ev e y=aj b/\v=.bool (decide (a=b)):=by
 unfold Nw at h
 split at h
 ·rename_i a b h1 h2;exact⟨a,b,h1,h2,(cn h).symm⟩
 cases h
def Q5(e:Env)(x y:ae):Option ab:=
 match ev e x,ev e y with
 | .int .i64 a,.int .i64 b=>some (.bool (decide (¬a=b)))
 |_,_=>none
theorem an6{e:Env}{x y:ae}{v:ab}(h:Q5 e x y=some v):∃a b,ev e x=aj a/\ev e y=aj b/\v=.bool (decide (¬a=b)):=by
 unfold Q5 at h
 split at h
 ·rename_i a b h1 h2;exact⟨a,b,h1,h2,(cn h).symm⟩
 cases h
def Sm(e:Env):Op->Option ab
 | .move x=>hd (ev e x)
 | .assign x=>hd (ev e x)
 | .binOp .lss _ x y _=>QV e x y
 | .binOp .leq _ x y _=>QP e x y
 | .binOp .gtr _ x y _=>N6 e x y
 | .binOp .geq _ x y _=>NT e x y
 | .binOp .eql _ x y _=>Nw e x y
 | .binOp .neq _ x y _=>Q5 e x y
 | .extract x i=>match ev e x with
  | .tuple vs=>(match vs[i]? with
   |some v=>hd v
   |none=>none)
  |_=>none
 | .pick c x y=>match ev e c with
  | .bool true=>(match ev e x with
   | .bool b=>some (.bool b)
   |_=>none)
  | .bool false=>(match ev e y with
   | .bool b=>some (.bool b)
   |_=>none)
  |_=>none
 |_=>none
def qY(N:Nat)(e:Env)(o:Oper):Option (Nat×ab):=
 match o.guard,o.dst with
 |none,some d=>(match Nat.blt d N with
  |true=>(match Sm e o.op with
   |some v=>some (d,v)
   |none=>none)
  |false=>none)
 |_,_=>none
def DJ(N:Nat):List Oper->Env->List Oper×Env
 |[],e=>([],e)
 |o::l,e=>match qY N e o with
  |some (d,v)=>DJ N l (bE e d v)
  |none=>(o::l,e)
section
variable {P:Program}{N:Nat}{ops:Array Oper}{K:Env->aa->Prop}{e:Env}{w:aa}
theorem ak.qY{o:Oper}{l:List Oper}{d:Nat}{v:ab}(h:qY N e o=some (d,v))(hK:ak P N ops K l (bE e d v) w):ak P N ops K (o::l) e w:=by
 obtain⟨dst,op,ty,pos,af,gd⟩:=o;unfold Vc.qY at h
 split at h
 ·rename_i d' hg wM;simp only at hg wM;subst hg wM
  split at h
  ·rename_i hb
   split at h
   ·rename_i v' hv;simp only[oh,Prod.mk.injEq]at h;obtain⟨rfl,rfl⟩:=h;replace hv:Sm e op=some v':=hv;unfold Sm at hv
    split at hv
    ·exact .mv O (Pk hv) hb hK
    ·exact .mv O (Pk hv) hb hK
    ·obtain⟨a,b,h1,h2,rfl⟩:=anK hv;exact .lss h1 h2 hb hK
    ·obtain⟨a,b,h1,h2,rfl⟩:=ans hv;exact .leq h1 h2 hb hK
    ·obtain⟨a,b,h1,h2,rfl⟩:=ahH hv;exact .gtr h1 h2 hb hK
    ·obtain⟨a,b,h1,h2,rfl⟩:=ahe hv;exact .geq h1 h2 hb hK
    ·obtain⟨a,b,h1,h2,rfl⟩:=af9 hv;exact .eql h1 h2 hb hK
    ·obtain⟨a,b,h1,h2,rfl⟩:=an6 hv;exact .neq h1 h2 hb hK
    ·split at hv
     ·rename_i h1
      split at hv
      ·rename_i h2;exact .extract h1 (by rw[h2,Pk hv]) hb hK
      cases hv
     cases hv
    ·split at hv
     ·rename_i h1
      split at hv
      ·rename_i b h2;obtain rfl:=cn hv;exact .Rl h1 h2 hb hK
      cases hv
     ·rename_i h1
      split at hv
      ·rename_i b h2;obtain rfl:=cn hv;exact .Rk h1 h2 hb hK
      cases hv
     cases hv
    cases hv
   cases h
  cases h
 cases h
theorem MJ:∀{l:List Oper}{e:Env},ak P N ops K (DJ N l e).1 (DJ N l e).2 w->ak P N ops K l e w
 |[],_,h=>h
 |o::l,e,h=>by
  unfold DJ at h
  split at h
  ·rename_i d v hs;exact .qY hs (MJ h)
  ·exact h
end
inductive Fr where
 |s (c:Code)
 |b (id:Nat)
def Qk(P:Program)(N:Nat)(Q:jo):List Fr->jo
 |[]=>Q
 | .s y::r=>Du (Cd P N y (Qk P N Q r)) (Qk P N Q r)
 | .b id::r=>MX id (Qk P N Q r)
def E0:List Fr->Option (Code×List Fr)
 |[]=>none
 | .s y::r=>some (y,r)
 | .b _::r=>E0 r
def E1(id:Nat):List Fr->Option (List Fr)
 |[]=>none
 | .s _::r=>E1 id r
 | .b i::r=>match Nat.beq id i with
  |true=>some r
  |false=>E1 id r
inductive DH where
 |c (c:Code) (s:List Fr) (e:Env)
 |o (ops:Array Oper) (l:List Oper) (s:List Fr) (e:Env)
 |n (e:Env)
 |r (e:Env)
 |x (id:Nat) (e:Env)
def DH.ok(P:Program)(N:Nat)(Q:jo)(w:aa):DH->Prop
 | .c y s e=>Cd P N y (Qk P N Q s) e w
 | .o ops l s e=>ak P N ops (λe w=>Qk P N Q s .normal e w) l e w
 | .n e=>Q .normal e w
 | .r e=>Q .ret e w
 | .x id e=>Q (.exit id) e w
def run(N:Nat):Nat->Code->List Fr->Env->DH
 |0,c,s,e=>.c c s e
 |n+1,c,s,e=>match c with
  | .seq x y=>run N n x (.s y::s) e
  | .block id x=>run N n x (.b id::s) e
  | .region id ops dr=>match dr with
   |true=>.c (.region id ops true) s e
   |false=>match DJ N ops.toList e with
    |([],e')=>(match E0 s with
     |none=>.n e'
     |some (y,r)=>run N n y r e')
    |(o::l,e')=>.o ops (o::l) s e'
  | .skip=>(match E0 s with
   |none=>.n e
   |some (y,r)=>run N n y r e)
  | .ret=>.r e
  | .exit id=>(match E1 id s with
   |none=>.x id e
   |some s'=>(match E0 s' with
    |none=>.n e
    |some (y,r)=>run N n y r e))
  |c=>.c c s e
def runN(N n:Nat)(s:List Fr)(e:Env):DH:=match E0 s with
 |none=>.n e
 |some (y,r)=>run N n y r e
def Fb(N n id:Nat)(s:List Fr)(e:Env):DH:=match E1 id s with
 |none=>.x id e
 |some s'=>runN N n s' e
def Ds(N n:Nat)(ops:Array Oper)(l:List Oper)(s:List Fr)(e:Env):DH:=match DJ N l e with
 |([],e')=>runN N n s e'
 |(o::l,e')=>.o ops (o::l) s e'
section
variable{id i1:Nat}{ops o1:Array Oper}{s1:List Fr}{e1:Env}{l l1:List Oper}{c1:Code}
variable {P:Program}{N:Nat}{Q:jo}{e:Env}{w:aa}
theorem HU:∀{s:List Fr},(match E0 s with|none=>Q .normal e w|some (y,r)=>Cd P N y (Qk P N Q r) e w)->Qk P N Q s .normal e w
 |[],h=>h
 | .s _::_,h=>h
 | .b _::r,h=>HU (s:=r) h
theorem Lr{id:Nat}:∀{s:List Fr},(match E1 id s with|none=>Q (.exit id) e w|some r=>Qk P N Q r .normal e w)->Qk P N Q s (.exit id) e w
 |[],h=>h
 | .s _::r,h=>Lr (s:=r) h
 | .b i::r,h=>by
  unfold E1 at h;show(if id=i then _ else _);cases hb:Nat.beq id i with
  |true=>rw[aG (lg hb)];rw[hb]at h;exact h
  |false=>
   rw[aD (λe=>by rw[e,Nat.beq_refl]at hb;cases hb)];rw[hb]at h;exact Lr (s:=r) h
theorem fe:∀{s:List Fr},Q .ret e w->Qk P N Q s .ret e w
 |[],h=>h
 | .s _::r,h=>fe (s:=r) h
 | .b _::r,h=>fe (s:=r) h
theorem Cd.apK{Q:jo}(h:ak P N ops (λe w=>Q .normal e w) ops.toList e w):Cd P N (.region id ops false) Q e w:=by
 have:=Cd.region (P:=P) (N:=N) (Q:=Q) (id:=id) (l:=ops.toList) (e:=e) (w:=w) (by rw[Array.toArray_toList];exact h)
 rwa[Array.toArray_toList]at this
theorem qX:∀{n:Nat}{c:Code}{s:List Fr}{e:Env},(run N n c s e).ok P N Q w->Cd P N c (Qk P N Q s) e w
 |0,_,_,_,h=>h
 |n+1,c,s,e,h=>by
  unfold run at h
  split at h
  ·exact .seq (qX h)
  ·exact .block (qX h)
  ·split at h
   ·exact h
   ·refine .apK (MJ ?_)
    split at h
    ·rename_i he;rw[he];refine ak.n (HU ?_)
     split at h
     ·exact h
     ·exact qX h
    ·rename_i he;rw[he];exact h
  ·refine .skip (HU ?_)
   split at h
   ·exact h
   ·exact qX h
  ·exact .ret (fe h)
  ·refine .exit (Lr ?_)
   split at h
   ·exact h
   ·refine HU ?_
    split at h
    ·exact h
    ·exact qX h
  ·exact h
theorem Fa{n:Nat}{s:List Fr}{e:Env}(h:(runN N n s e).ok P N Q w):Qk P N Q s .normal e w:=by
 unfold runN at h;refine HU ?_
 split at h
 ·exact h
 exact qX h
theorem LL{n:Nat}{s:List Fr}{e:Env}(h:(Fb N n id s e).ok P N Q w):Qk P N Q s (.exit id) e w:=by
 unfold Fb at h;refine Lr ?_
 split at h
 ·exact h
 exact Fa h
theorem H0{n:Nat}{s:List Fr}{e:Env}(h:(Ds N n ops l s e).ok P N Q w):ak P N ops (λe w=>Qk P N Q s .normal e w) l e w:=by
 unfold Ds at h;refine MJ ?_
 split at h
 ·rename_i he;rw[he];exact ak.n (Fa h)
 rename_i he;rw[he];exact h
theorem IB{s:List Fr}{F:List (Nat×ab)}(hM:Mt e F)(h:Qk P N Q s .normal (ext e F) w):Qk P N Q s .normal e w:=by rwa[yb hM]at h
theorem cM{c:Code}{s:List Fr}(h:run N 1000 c s e=.c c1 s1 e1)(k:Cd P N c1 (Qk P N Q s1) e1 w):Cd P N c (Qk P N Q s) e w:=qX (n:=1000) (by rw[h];exact k)
theorem aC{c:Code}{s:List Fr}(h:run N 1000 c s e=.o o1 l1 s1 e1)(k:ak P N o1 (λe w=>Qk P N Q s1 .normal e w) l1 e1 w):Cd P N c (Qk P N Q s) e w:=qX (n:=1000) (by rw[h];exact k)
theorem jE{c:Code}{s:List Fr}(h:run N 1000 c s e=.n e1)(k:Q .normal e1 w):Cd P N c (Qk P N Q s) e w:=qX (n:=1000) (by rw[h];exact k)
theorem dE{c:Code}{s:List Fr}(h:run N 1000 c s e=.r e1)(k:Q .ret e1 w):Cd P N c (Qk P N Q s) e w:=qX (n:=1000) (by rw[h];exact k)
theorem ba{c:Code}{s:List Fr}(h:run N 1000 c s e=.x i1 e1)(k:Q (.exit i1) e1 w):Cd P N c (Qk P N Q s) e w:=qX (n:=1000) (by rw[h];exact k)
theorem xL(n:Nat){c:Code}{s:List Fr}(h:run N n c s e=.c c1 s1 e1)(k:Cd P N c1 (Qk P N Q s1) e1 w):Cd P N c (Qk P N Q s) e w:=qX (n:=n) (by rw[h];exact k)
theorem bC{c:Code}(h:run N 1000 c [] e=.c c1 s1 e1)(k:Cd P N c1 (Qk P N Q s1) e1 w):Cd P N c Q e w:=qX (s:=[]) (n:=1000) (by rw[h];exact k)
theorem aY{c:Code}(h:run N 1000 c [] e=.o o1 l1 s1 e1)(k:ak P N o1 (λe w=>Qk P N Q s1 .normal e w) l1 e1 w):Cd P N c Q e w:=qX (s:=[]) (n:=1000) (by rw[h];exact k)
theorem Mr{c:Code}(h:run N 1000 c [] e=.r e1)(k:Q .ret e1 w):Cd P N c Q e w:=qX (s:=[]) (n:=1000) (by rw[h];exact k)
theorem Gbj(n:Nat){c:Code}(h:run N n c [] e=.c c1 s1 e1)(k:Cd P N c1 (Qk P N Q s1) e1 w):Cd P N c Q e w:=qX (s:=[]) (n:=n) (by rw[h];exact k)
theorem ay{s:List Fr}(h:Ds N 1000 ops l s e=.c c1 s1 e1)(k:Cd P N c1 (Qk P N Q s1) e1 w):ak P N ops (λe w=>Qk P N Q s .normal e w) l e w:=H0 (n:=1000) (by rw[h];exact k)
theorem aq{s:List Fr}(h:Ds N 1000 ops l s e=.o o1 l1 s1 e1)(k:ak P N o1 (λe w=>Qk P N Q s1 .normal e w) l1 e1 w):ak P N ops (λe w=>Qk P N Q s .normal e w) l e w:=H0 (n:=1000) (by rw[h];exact k)
theorem aN{s:List Fr}(h:Ds N 1000 ops l s e=.n e1)(k:Q .normal e1 w):ak P N ops (λe w=>Qk P N Q s .normal e w) l e w:=H0 (n:=1000) (by rw[h];exact k)
theorem bR{s:List Fr}(h:Ds N 1000 ops l s e=.r e1)(k:Q .ret e1 w):ak P N ops (λe w=>Qk P N Q s .normal e w) l e w:=H0 (n:=1000) (by rw[h];exact k)
theorem tG(n:Nat){s:List Fr}(h:Ds N n ops l s e=.c c1 s1 e1)(k:Cd P N c1 (Qk P N Q s1) e1 w):ak P N ops (λe w=>Qk P N Q s .normal e w) l e w:=H0 (n:=n) (by rw[h];exact k)
theorem fG{s:List Fr}(h:runN N 1000 s e=.c c1 s1 e1)(k:Cd P N c1 (Qk P N Q s1) e1 w):Qk P N Q s .normal e w:=Fa (n:=1000) (by rw[h];exact k)
theorem gq{s:List Fr}(h:runN N 1000 s e=.o o1 l1 s1 e1)(k:ak P N o1 (λe w=>Qk P N Q s1 .normal e w) l1 e1 w):Qk P N Q s .normal e w:=Fa (n:=1000) (by rw[h];exact k)
theorem Ir{s:List Fr}(h:runN N 1000 s e=.n e1)(k:Q .normal e1 w):Qk P N Q s .normal e w:=Fa (n:=1000) (by rw[h];exact k)
theorem xM{s:List Fr}(h:runN N 1000 s e=.r e1)(k:Q .ret e1 w):Qk P N Q s .normal e w:=Fa (n:=1000) (by rw[h];exact k)
theorem kX{i:Nat}{s:List Fr}(h:Fb N 1000 i s e=.c c1 s1 e1)(k:Cd P N c1 (Qk P N Q s1) e1 w):Qk P N Q s (.exit i) e w:=LL (n:=1000) (by rw[h];exact k)
theorem bY{i:Nat}{s:List Fr}(h:Fb N 1000 i s e=.o o1 l1 s1 e1)(k:ak P N o1 (λe w=>Qk P N Q s1 .normal e w) l1 e1 w):Qk P N Q s (.exit i) e w:=LL (n:=1000) (by rw[h];exact k)
theorem vZ{i:Nat}{s:List Fr}(h:Fb N 1000 i s e=.n e1)(k:Q .normal e1 w):Qk P N Q s (.exit i) e w:=LL (n:=1000) (by rw[h];exact k)
theorem ew{i:Nat}{s:List Fr}(h:Fb N 1000 i s e=.r e1)(k:Q .ret e1 w):Qk P N Q s (.exit i) e w:=LL (n:=1000) (by rw[h];exact k)
end
def ac7:Prop:=False
structure Below(B:Nat)(w w':aa):Prop extends Go.RowKit.Below B w w' where
 drawn:ac7->w.drawn<=w'.drawn
theorem Below.refl(B:Nat)(w:aa):Below B w w:=⟨Go.RowKit.Below.refl B w,λ_=>cJ _⟩
theorem Below.trans{B:Nat}{a b c:aa}(h:Below B a b)(k:Below B b c):Below B a c:=⟨h.toBelow.trans k.toBelow,λs=>je (h.drawn s) (k.drawn s)⟩
theorem Below.mono{B B':Nat}{w w':aa}(h:Below B w w')(hB:B'<=B):Below B' w w':=⟨h.toBelow.mono hB,h.drawn⟩
theorem Below.drew{B:Nat}{a w:aa}(h:Below B a w):Below B a w.drew:=⟨h.toBelow.drew,λs=>Nat.le_succ_of_le (h.drawn s)⟩
theorem Below.alloc{B:Nat}{a w:aa}(h:Below B a w)(hB:B<=w.heap.size)(o:Obj):Below B a (w.alloc o):=⟨h.toBelow.alloc hB o,h.drawn⟩
structure DB(w w':aa)(row:Option Nat):Prop where
 g:w.grownBy w' row
 drawn:w.drawn<=w'.drawn
theorem Below.grown{B:Nat}{a w w':aa}{row:Option Nat}(h:Below B a w)(hg:DB w w' row)(hB:B<=w.heap.size)(hr:∀k,row=some k->B<=k):Below B a w':=⟨h.toBelow.grown hg.g hB hr,λs=>je (h.drawn s) hg.drawn⟩
def aH(A:ai)(k:Nat):ai:=A.map (·.add k)
def Rd(w:aa)(A:ai)(n:Nat)(f:Nat->ab):Prop:=∀k,k<n->∃p,aH A k=some p/\w.cell? p=some (f k)
structure Ck where
 A:ai
 n:Nat
 c:Nat
 e:ad
 vs:List ab
def Ck.iv(k:Ck):Option Nat:=k.A.map (·.block)
def r7:List (ab×ab)->List ab
 |[]=>[]
 |p::r=>p.1::p.2::r7 r
theorem U7:∀{a b:List (ab×ab)},r7 a=r7 b->a=b
 |[],[],_=>rfl
 |[],_::_,h=>by simp[r7]at h
 |_::_,[],h=>by simp[r7]at h
 |(x,y)::a,(x',y')::b,h=>by
  simp only[r7,List.cons.injEq]at h;rw[h.1,h.2.1,U7 h.2.2]
def eV:List ab->Bool
 | .tuple _::_=>true
 |_=>false
theorem K1{v:ab}{r:List ab}(h:v.oneCell'=true):eV (v::r)=false:=by
 cases v<;>simp_all [eV,Value.oneCell']
theorem xk{l:List ab}(h:∀v∈l,v.oneCell'=true):eV l=false:=by
 cases l with
 |nil=>rfl
 |cons v r=>exact K1 (h v (by simp))
theorem YU{a b:List ab}(ha:eV a=false)(hb:eV b=false):eV (a++b)=false:=by
 cases a with
 |nil=>exact hb
 |cons v r=>cases v<;>simp_all [eV]
theorem HB{a b:List ab}(ha:eV a=false)(h:a≠[]):eV (a++b)=false:=by
 cases a with
 |nil=>exact absurd rfl h
 |cons v r=>cases v<;>simp_all [eV]
theorem YY{a:List ab}(m:Nat)(ha:eV a=false):eV (a.take m)=false:=by
 cases a with
 |nil=>simp[eV]
 |cons v r=>
  cases m with
  |zero=>rfl
  |succ m=>cases v<;>simp_all [eV]
theorem YW{a:List ab}(j:Nat){u:ab}(ha:eV a=false)(hu:u.oneCell'=true):eV (a.set j u)=false:=by
 cases a with
 |nil=>rfl
 |cons v r=>
  cases j with
  |zero=>exact K1 hu
  |succ m=>cases v<;>simp_all [eV]
theorem YV{z:ab}(n:Nat)(hz:z.oneCell'=true):eV (List.replicate n z)=false:=xk λv hv=>by rw[(List.mem_replicate.1 hv).2];exact hz
def DG(B:Nat)(w:aa)(k:Ck):Prop:=
 k.vs.length=k.n/\k.n<=k.c/\k.c<=maxLen/\
 ((k.A=none/\k.c=0)\/∃g o cur,k.A=some ⟨g,o,none⟩/\B<=g/\w.heap[g]?=some (.cells cur k.e (0,0))/\o+k.c<=cur.size/\∀j,j<k.n->cur[o+j]?=k.vs[j]?)
def uA(es:Array MapEntry)(cl:Nat):Prop:=(∀x∈es.toList,x.born<cl)/\(es.toList.map (·.born)).Nodup
def r8:List MapEntry->List ab
 |[]=>[]
 |x::r=>x.key::x.val:: .int .i64 (x.born:Int)::r8 r
def ObV:Obj->List ab->Prop
 | .map es cl,vs=>uA es cl/\(vs=.tuple #[]::r7 (es.toList.map λe=>(e.key,e.val))\/vs=.tuple #[.int .i64 (cl:Int)]::r8 es.toList)
 | .mapIter m since seen c0,vs=>c0=since/\∃bm,m=some bm/\vs=.tuple #[.map (some bm),.int .i64 (since:Int)]::seen.toList.map λb:Nat=>.int .i64 (b:Int)
 |_,_=>False
def MD(B:Nat)(w:aa)(k:Ck):Prop:=
 k.n=0/\k.c=0/\∃g o,k.A=some ⟨g,0,none⟩/\B<=g/\w.heap[g]?=some o/\ObV o k.vs
def Own(B:Nat)(w:aa)(k:Ck):Prop:=if eV k.vs=true then MD B w k else DG B w k
theorem Own.qS{B:Nat}{w:aa}{k:Ck}(hm:eV k.vs=false)(h:DG B w k):Own B w k:=by unfold Own;rw[if_neg (by simp[hm])];exact h
theorem Own.Sx{B:Nat}{w:aa}{k:Ck}(hm:eV k.vs=false)(h:Own B w k):DG B w k:=by unfold Own at h;rwa[if_neg (by simp[hm])]at h
theorem Own.cases{B:Nat}{w:aa}{k:Ck}(h:Own B w k):(eV k.vs=true/\MD B w k)\/(eV k.vs=false/\DG B w k):=by
 unfold Own at h
 split at h
 ·rename_i hm;exact .inl ⟨hm,h⟩
 rename_i hm;exact .inr ⟨by simpa using hm,h⟩
theorem Own.ofM{B:Nat}{w:aa}{k:Ck}(hm:eV k.vs=true)(h:MD B w k):Own B w k:=by unfold Own;rw[if_pos hm];exact h
structure St(w0 w:aa)(ks:List Ck):Prop where
 below:Below w0.heap.size w0 w
 own:∀k∈ks,Own w0.heap.size w k
 apart:(ks.filterMap Ck.iv).Nodup
theorem BX{g o:Nat}(k:Nat):(⟨g,o,none⟩:Addr).add k=⟨g,o+k,none⟩:=by unfold Addr.add;split<;>simp_all
section
variable{B' j:Nat}{ks':List Ck}
variable {w0 w w':aa}{ks:List Ck}{k:Ck}{B:Nat}
theorem Own.rd(h:Own B w k):Rd w k.A k.n (λj=>k.vs.getD j undef):=by
 rcases h.cases with⟨_,hn,_⟩|⟨_,h1,h2,h3,h4⟩
 ·intro j hj;omega
 intro j hj;rcases h4 with⟨_,h0⟩|⟨g,o,cur,hA,hg,hh,hs,hc⟩
 ·omega
 refine⟨⟨g,o+j,none⟩,by simp[aH,hA,BX],?_⟩;simp only[World.cell?,hh];rw[hc j hj];simp[b5,fL (show j<k.vs.length by omega)]
theorem Own.mono(h:Own B w k)(hB:B'<=B):Own B' w k:=by
 rcases h.cases with⟨hm,hn,hc,g,o,hA,hg,r⟩|⟨hm,h1,h2,h3,h4⟩
 ·exact .ofM hm ⟨hn,hc,g,o,hA,ac,r⟩
 refine .qS hm ⟨h1,h2,h3,?_⟩;rcases h4 with h0|⟨g,o,cur,hA,hg,r⟩
 ·exact .inl h0
 exact .inr ⟨g,o,cur,hA,ac,r⟩
theorem Own.keep(h:Own B w k)(hb:∀g,k.iv=some g->w'.heap[g]?=w.heap[g]?):Own B w' k:=by
 rcases h.cases with⟨hm,hn,hc,g,o,hA,hg,hh,r⟩|⟨hm,h1,h2,h3,h4⟩
 ·exact .ofM hm ⟨hn,hc,g,o,hA,hg,by rw[hb g (by simp[Ck.iv,hA])];exact hh,r⟩
 refine .qS hm ⟨h1,h2,h3,?_⟩;rcases h4 with h0|⟨g,o,cur,hA,hg,hh,r⟩
 ·exact .inl h0
 exact .inr ⟨g,o,cur,hA,hg,by rw[hb g (by simp[Ck.iv,hA])];exact hh,r⟩
theorem Own.lt(h:Own B w k){g:Nat}(hg:k.iv=some g):B<=g/\g<w.heap.size:=by
 rcases h.cases with⟨hm,hn,hc,g',o,hA,ud,hh,r⟩|⟨hm,h1,h2,h3,h4⟩
 ·simp[Ck.iv,hA]at hg;subst hg;exact⟨ud,(Array.getElem?_eq_some_iff.1 hh).1⟩
 rcases h4 with⟨h0,_⟩|⟨g',o,cur,hA,ud,hh,r⟩
 ·simp[Ck.iv,h0]at hg
 simp[Ck.iv,hA]at hg;subst hg;exact⟨ud,(Array.getElem?_eq_some_iff.1 hh).1⟩
theorem Own.cap(h:Own B w k):k.n<=k.c/\k.c<=maxLen:=by
 rcases h.cases with⟨_,hn,hc,_⟩|⟨_,_,h2,h3,_⟩
 ·exact⟨ac,by rw[hc];exact bl _⟩
 exact⟨h2,h3⟩
theorem St.refl(w:aa):St w w []:=⟨Below.refl _ _,(λ_ h=>by cases h),List.nodup_nil⟩
theorem St.get(h:St w0 w ks){i:Nat}(hk:ks[i]?=some k):Own w0.heap.size w k:=h.own k (List.mem_of_getElem? hk)
theorem St.py(h:St w0 w ks){i:Nat}(hk:ks[i]?=some k)(hm:eV k.vs=false):DG w0.heap.size w k:=(h.get hk).Sx hm
theorem St.rd(h:St w0 w ks)(i:Nat)(hk:ks[i]?=some k):Rd w k.A k.n (λj=>k.vs.getD j undef):=(h.get hk).rd
theorem Rd.lt{A:ai}{n:Nat}{f:Nat->ab}(h:Rd w A n f)(hj:j<n):∃p,aH A j=some p/\p.block<w.heap.size/\w.cell? p=some (f j):=by
 obtain⟨p,hp,hc⟩:=h j hj;exact⟨p,hp,World.block_lt_of_cell? _ _ hc,hc⟩
theorem Rd.below{A:ai}{n:Nat}{f:Nat->ab}(h:Rd w A n f)(hb:Below w.heap.size w w'):Rd w' A n f:=λj hj=>by
 obtain⟨p,hp,hl,hc⟩:=h.lt hj;exact⟨p,hp,(hb.cell hl).trans hc⟩
theorem St.gS(h:St w0 w ks){A:ai}{n:Nat}{f:Nat->ab}(hR:Rd w0 A n f):Rd w A n f:=hR.below h.below
theorem Rd.congr{A:ai}{n:Nat}{f g:Nat->ab}(h:Rd w A n f)(hf:∀j,j<n->f j=g j):Rd w A n g:=λj hj=>by
 obtain⟨p,hp,hc⟩:=h j hj;exact⟨p,hp,by rw[hc,hf j hj]⟩
theorem St.ao(h:St w0 w ks)(hb:Below w.heap.size w w'):St w0 w' ks:=
 ⟨h.below.trans (hb.mono h.below.size),λk hk=>(h.own k hk).keep λg hg=>hb.block g ((h.own k hk).lt hg).2,h.apart⟩
theorem St.drew(h:St w0 w ks):St w0 w.drew ks:=h.ao (Below.drew (Below.refl _ _))
theorem St.call(h:St w0 w ks)(h':St w w' ks'):St w0 w' (ks'++ks):=by
 have h1:=h.ao h'.below;refine⟨h1.below,λk hk=>?_,?_⟩
 ·rcases dF.1 hk with hk|hk
  ·exact(h'.own k hk).mono h.below.size
  exact h1.own k hk
 rw[List.filterMap_append,List.nodup_append];refine⟨h'.apart,h.apart,λa ha b hb=>?_⟩;obtain⟨k,hk,Ew⟩:=List.mem_filterMap.1 ha;obtain⟨k',fU,vw⟩:=List.mem_filterMap.1 hb;have l1:=((h'.own k hk).lt Ew).1;have l2:=((h.own k' fU).lt vw).2;omega
theorem St.call2(h:St w0 w ks)(h':St w w' ks'):St w0 w' (ks++ks'):=by
 have h1:=h.call h';exact⟨h1.below,λk hk=>h1.own k ((gL (l₁:=ks') (l₂:=ks)).mem_iff.2 hk),((gL (l₁:=ks') (l₂:=ks)).filterMap _).nodup_iff.1 h1.apart⟩
theorem St.sub(h:St w0 w ks)(hs:ks'.Sublist ks):St w0 w ks':=
 ⟨h.below,λk hk=>h.own k (hs.subset hk),h.apart.sublist (hs.filterMap _)⟩
theorem St.perm(h:St w0 w ks)(hs:ks.Perm ks'):St w0 w ks':=
 ⟨h.below,λk hk=>h.own k (hs.mem_iff.2 hk),(hs.filterMap _).nodup_iff.1 h.apart⟩
theorem St.tail(h:St w0 w (k::ks)):St w0 w ks:=h.sub (List.sublist_cons_self _ _)
theorem St.none(h:St w0 w ks):St w0 w []:=h.sub (List.nil_sublist _)
theorem St.swap{k':Ck}(h:St w0 w (k::k'::ks)):St w0 w (k'::k::ks):=h.perm (List.Perm.swap _ _ _)
theorem St.nil(h:St w0 w ks)(e:ad):St w0 w (⟨Option.none,0,0,e,[]⟩::ks):=
 ⟨h.below,λk hk=>by
  rcases gW.1 hk with rfl|hk
  ·exact .qS O ⟨O,cJ _,bl _,.inl ⟨O,O⟩⟩
  exact h.own k hk,h.apart⟩
theorem St.alloc(h:St w0 w ks)(cs:List ab)(e:ad)(hm:cs.length<=maxLen)(hM:eV cs=false):St w0 (w.alloc (.cells cs.toArray e)) (⟨some ⟨w.heap.size,0,Option.none⟩,cs.length,cs.length,e,cs⟩::ks):=by
 have hb:Below w.heap.size w (w.alloc (.cells cs.toArray e)):=(Below.refl _ _).alloc (cJ _) _;have h1:=h.ao hb;refine⟨h1.below,λk hk=>?_,?_⟩
 ·rcases gW.1 hk with rfl|hk
  ·exact .qS hM ⟨O,cJ _,hm,.inr ⟨_,0,cs.toArray,O,h.below.size,heap_alloc_new w _,by simp,λj hj=>by simp⟩⟩
  exact h1.own k hk
 simp only[List.filterMap_cons,Ck.iv,Option.map_some,mj];refine⟨λcE=>?_,h.apart⟩;obtain⟨k',fU,vw⟩:=List.mem_filterMap.1 cE;have:=((h.own k' fU).lt vw).2;omega
theorem Ju{α β:Type}(f:α->Option β):∀(l:List α)(i:Nat)(a b:α),l[i]?=some a->f b=f a->(l.set i b).filterMap f=l.filterMap f
 |[],_,_,_,h,_=>by simp at h
 |x::l,0,a,b,h,he=>by
  simp at h;subst h;simp[List.filterMap_cons,he]
 |x::l,i+1,a,b,h,he=>by
  simp only[List.getElem?_cons_succ]at h;simp only[List.set_cons_succ,List.filterMap_cons,Ju f l i a b h he]
theorem St.turn{i g:Nat}{k':Ck}(h:St w0 w ks)(hk:ks[i]?=some k)(ta:k.iv=some g)(ai6:k'.iv=some g)(hw:DB w w' (some g))(ho:Own w0.heap.size w' k'):St w0 w' (ks.set i k'):=by
 have dH:=(h.get hk).lt ta;refine⟨h.below.grown hw h.below.size (λx hx=>by cases hx;exact dH.1),λx hx=>?_,?_⟩
 ·obtain⟨j,hj,rfl⟩:=fS.1 hx;have iJ:j<ks.length:=by simpa using hj
  rw[List.getElem_set]
  split
  ·exact ho
  ·rename_i bN;have hm:ks[j]∈ks:=dt _;refine(h.own _ hm).keep λg' ud=>hw.g.block g' ((h.own _ hm).lt ud).2 λe=>?_
   injection e with e
   subst e;have fY:i<ks.length:=(iD.1 hk).1;have fV:ks[i]=k:=(iD.1 hk).2;exact absurd (show False from by
    have hn:=h.apart;have key:∀(l:List Ck),(l.filterMap Ck.iv).Nodup->∀i j (hi:i<l.length) (hj:j<l.length),i≠j->l[i].iv=some g'->l[j].iv=some g'->False:=by
     intro l
     induction l with
     |nil=>intro _ i j hi;simp at hi
     |cons a l ih=>
      intro hn i j hi hj bN h1 h2;cases i with
      |zero=>
       cases j with
       |zero=>exact bN rfl
       |succ j=>
        simp only[List.getElem_cons_zero]at h1;simp only[List.getElem_cons_succ]at h2;rw[List.filterMap_cons,h1]at hn;simp only[mj]at hn;exact hn.1 (List.mem_filterMap.2 ⟨_,dt _,h2⟩)
      |succ i=>
       cases j with
       |zero=>
        simp only[List.getElem_cons_zero]at h2;simp only[List.getElem_cons_succ]at h1;rw[List.filterMap_cons,h2]at hn;simp only[mj]at hn;exact hn.1 (List.mem_filterMap.2 ⟨_,dt _,h1⟩)
       |succ j=>
        have tj:(l.filterMap Ck.iv).Nodup:=by
         rw[List.filterMap_cons]at hn
         split at hn
         ·exact hn
         ·exact(mj.1 hn).2
        exact ih tj i j (by simpa using hi) (by simpa using hj) ac (by simpa using h1) (by simpa using h2)
    exact key ks hn i j fY iJ bN (by rw[fV];exact ta) ud) id
 ·rw[Ju Ck.iv ks i k k' hk (by rw[ta,ai6])];exact h.apart
theorem St.store(h:St w0 w ks)(i:Nat)(hk:ks[i]?=some k)(hj:j<k.n)(u:ab)(hu:u.oneCell'=true):
 ∃p,aH k.A j=some p/\(∃v,w.cell? p=some v)/\w.frozen? p=false/\St w0 (w.setCell p u) (ks.set i { k with vs:=k.vs.set j u }):=by
 rcases(h.get hk).cases with⟨_,pP,_⟩|⟨hM,h1,h2,h3,h4⟩
 ·omega
 rcases h4 with⟨_,h0⟩|⟨g,o,cur,hA,hg,hh,hs,hc⟩
 ·omega
 refine⟨⟨g,o+j,Option.none⟩,by simp[aH,hA,BX],?_,?_,?_⟩
 ·have:o+j<cur.size:=by omega
  exact⟨cur[o+j],by simp[World.cell?,hh,BO this]⟩
 ·simp[World.frozen?,hh]
 have ta:k.iv=some g:=by simp[Ck.iv,hA]
 have dH:=(Array.getElem?_eq_some_iff.1 hh).1;refine h.turn (k':={ k with vs:=k.vs.set j u }) hk ta ta ⟨⟨O,O,O,by simp,λx _ hx=>heap_setCell_other w ⟨g,o+j,Option.none⟩ x u (λe=>hx (by simp[e]))⟩,cJ _⟩ ?_;refine .qS (YW j hM hu) ⟨by simpa using h1,h2,h3,.inr ⟨g,o,cur.setIfInBounds (o+j) u,hA,hg,heap_setCell_same w g (o+j) cur k.e u hh,by simpa using hs,λm hm=>?_⟩⟩;have jS:m<k.n:=hm;rw[zC];show _=(k.vs.set j u)[m]?;rw[lI]
 by_cases e:j=m
 ·subst e;rw[aG rfl,aG rfl,aG (by omega),aG (by omega)]
 rw[aD (by omega),aD e];exact hc m jS
end
structure aE where
 a:ai
 n:Nat
 c:Nat
def aE.v(s:aE):ab:=.slice s.a s.n s.c
def bI:aE:=⟨none,0,0⟩
def gi(xs:ah)(i:Int):Int:=xs.getD i.toNat 0
def gb(xs:List Bool)(i:Int):Bool:=xs.getD i.toNat false
def rg(xs:List aE)(i:Int):aE:=xs.getD i.toNat bI
def bu(w:aa)(A:ai)(n:Nat)(xs:ah):Prop:=xs.length=n/\Rd w A n (λj=>aj (xs.getD j 0))
def ve(w:aa)(A:ai)(n:Nat)(xs:List Bool):Prop:=xs.length=n/\Rd w A n (λj=>.bool (xs.getD j false))
def fu(w:aa)(A:ai)(n:Nat)(xs:List aE):Prop:=xs.length=n/\Rd w A n (λj=>(xs.getD j bI).v)
abbrev av(t:ad)(A:ai)(n c:Nat)(xs:ah):Ck:=⟨A,n,c,t,xs.map (aj)⟩
abbrev fB(t:ad)(A:ai)(n c:Nat)(xs:List Bool):Ck:=⟨A,n,c,t,xs.map .bool⟩
abbrev aX(t:ad)(A:ai)(n c:Nat)(xs:List aE):Ck:=⟨A,n,c,t,xs.map aE.v⟩
theorem vH(xs:ah):eV (xs.map (Value.int .i64))=false:=xk λv hv=>by obtain⟨_,_,rfl⟩:=de.1 hv;rfl
theorem EO(xs:List Bool):eV (xs.map Value.bool)=false:=xk λv hv=>by obtain⟨_,_,rfl⟩:=de.1 hv;rfl
theorem yY(xs:List aE):eV (xs.map aE.v)=false:=xk λv hv=>by obtain⟨_,_,rfl⟩:=de.1 hv;rfl
section
variable{xs:ah}
variable {w0 w w':aa}{ks:List Ck}{t:ad}{A:ai}{n c:Nat}
theorem St.bF(h:St w0 w ks)(i:Nat)(hk:ks[i]?=some (av t A n c xs)):bu w A n xs:=by
 have hl:xs.length=n:=by have:=(h.py hk (vH xs)).1;simpa using this
 exact⟨hl,(h.rd i hk).congr λj hj=>by have iJ:j<n:=hj;simp[b5,fL (show j<xs.length by omega)]⟩
theorem St.iQ{xs:List Bool}(h:St w0 w ks)(i:Nat)(hk:ks[i]?=some (fB t A n c xs)):ve w A n xs:=by
 have hl:xs.length=n:=by have:=(h.py hk (EO xs)).1;simpa using this
 exact⟨hl,(h.rd i hk).congr λj hj=>by have iJ:j<n:=hj;simp[b5,fL (show j<xs.length by omega)]⟩
theorem St.dm{xs:List aE}(h:St w0 w ks)(i:Nat)(hk:ks[i]?=some (aX t A n c xs)):fu w A n xs:=by
 have hl:xs.length=n:=by have:=(h.py hk (yY xs)).1;simpa using this
 exact⟨hl,(h.rd i hk).congr λj hj=>by have iJ:j<n:=hj;simp[b5,fL (show j<xs.length by omega)]⟩
theorem St.dq(h:St w0 w ks)(hR:bu w0 A n xs):bu w A n xs:=⟨hR.1,h.gS hR.2⟩
theorem St.pc{xs:List aE}(h:St w0 w ks)(hR:fu w0 A n xs):fu w A n xs:=⟨hR.1,h.gS hR.2⟩
theorem St.cap{k:Ck}(h:St w0 w ks)(i:Nat)(hk:ks[i]?=some k):k.n<=k.c/\k.c<=maxLen:=(h.get hk).cap
theorem St.Bw(h:St w0 w ks)(i:Nat)(hk:ks[i]?=some (av t A n c xs)):xs.length=n:=(h.bF i hk).1
theorem bu.ao(h:bu w A n xs)(hb:Below w.heap.size w w'):bu w' A n xs:=⟨h.1,h.2.below hb⟩
theorem ve.ao{xs:List Bool}(h:ve w A n xs)(hb:Below w.heap.size w w'):ve w' A n xs:=⟨h.1,h.2.below hb⟩
theorem fu.ao{xs:List aE}(h:fu w A n xs)(hb:Below w.heap.size w w'):fu w' A n xs:=⟨h.1,h.2.below hb⟩
theorem bu.nil:bu w none 0 []:=⟨rfl,λk hk=>by omega⟩
end
section
variable{t te:ad}{u v0 v1 z0:ab}{b j c1 ft off sz o l h c':Nat}{ix x0 x1 fY y:ae}{A1 A':ai}{xs:ah}
variable {P:Program}{N:Nat}{ops:Array Oper}{K:Env->aa->Prop}{rest:List Oper}{e:Env}{w0 w w':aa}{ks:List Ck}{d:Nat}{ty:ad}{pos:String}{af:Array Edge}
theorem auJ{el:ad}{z:ab}[bJ P t (.slice el)][bL P el z 1 b]{x:ae}{A:ai}{n c:Nat}{k:IntKind}{i:Int}{f:Nat->ab}(hR:Rd w A n f)(hx:ev e x=.slice A n c)(hy:ev e ix=.int k i)(hb:Nat.blt d N=true)(h0:0<=i)(h1:i<(n:Int))(hK:ak P N ops K rest (bE e d (.pointer (aH A i.toNat))) w):
 ak P N ops K (⟨some d,.indexAddr t x ix,ty,pos,af,none⟩::rest) e w:=by
 obtain⟨p,hp,_⟩:=hR i.toNat ac;obtain⟨q,rfl⟩:∃q,A=some q:=by cases A with|none=>simp[aH]at hp|some q=>exact⟨q,rfl⟩
 obtain⟨inf,hi,_,hs,_⟩:=bL.get P el;refine .val (w':=w) ?_ hb hK;simp[execOp,Instr.indexAt,hx,hy,asIntOf,run_underlying (bJ.out (P:=P) (t:=t)),h0,h1,sizeOf,typeInfo,hi,hs,aH]
theorem aA{el:ad}{z:ab}[bJ P t (.slice el)][bL P el z 1 b]{x:ae}{A:ai}{n c:Nat}{k:IntKind}{i:Int}{f:Nat->ab}(hR:Rd w A n f)(q9:(ev e x,ev e ix,Nat.blt d N)=(.slice A n c,.int k i,true))(hK:ak P N ops K rest (bE e d (.pointer (aH A i.toNat))) w)(h0:0<=i:=by omega)(h1:i<(n:Int):=by omega):ak P N ops K (⟨some d,.indexAddr t x ix,ty,pos,af,none⟩::rest) e w:=auJ hR (congrArg (λp=>p.1) q9) (congrArg (λp=>p.2.1) q9) (congrArg (λp=>p.2.2) q9) h0 h1 hK
def xv:TypeDesc->Bool
 | .struct _=>false
 | .array _ _=>false
 |_=>true
theorem ap8{u:TypeDesc}(hu:P.underlying t=some u)(hp:xv u=true):(isAgg t).run P w=.ok false w:=by
 cases u<;>simp[xv]at hp<;>simp[isAgg,run_underlying hu]
theorem ak.ld{u:TypeDesc}[bJ P t u]{x:ae}{A:ai}{n:Nat}{f:Nat->ab}{v:ab}(hR:Rd w A n f)(hx:ev e x=.pointer (aH A j))(hj:j<n)(hv:f j=v)(hp:xv u=true)(hb:Nat.blt d N=true)(hK:ak P N ops K rest (bE e d v) w):ak P N ops K (⟨some d,.load t x,ty,pos,af,none⟩::rest) e w:=by
 obtain⟨p,gR,hc⟩:=hR j hj;subst hv;refine .val (w':=w) ?_ hb hK;simp[execOp,Instr.loadAt,hx,gR,Instr.sureAddr,loadVar,ap8 (bJ.out (P:=P) (t:=t)) hp,hc]
theorem auK{u:TypeDesc}[bJ P t u]{x:ae}{A:ai}{n:Nat}{i:Int}(hR:bu w A n xs)(hx:ev e x=.pointer (aH A i.toNat))(hj:i.toNat<n)(hp:xv u=true)(hb:Nat.blt d N=true)(hK:ak P N ops K rest (bE e d (aj (gi xs i))) w):ak P N ops K (⟨some d,.load t x,ty,pos,af,none⟩::rest) e w:=.ld hR.2 hx hj rfl hp hb hK
theorem bg{u:TypeDesc}[bJ P t u]{x:ae}{A:ai}{n:Nat}{i:Int}(hR:bu w A n xs)(q9:(ev e x,xv u,Nat.blt d N)=(.pointer (aH A i.toNat),true,true))(hK:ak P N ops K rest (bE e d (aj (gi xs i))) w)(hj:i.toNat<n:=by omega):ak P N ops K (⟨some d,.load t x,ty,pos,af,none⟩::rest) e w:=auK hR (congrArg (λp=>p.1) q9) hj (congrArg (λp=>p.2.1) q9) (congrArg (λp=>p.2.2) q9) hK
theorem rj{u:TypeDesc}[bJ P t u]{x:ae}{A:ai}{n:Nat}{i:Int}{xs:List Bool}(hR:ve w A n xs)(hx:ev e x=.pointer (aH A i.toNat))(hj:i.toNat<n)(hp:xv u=true)(hb:Nat.blt d N=true)(hK:ak P N ops K rest (bE e d (.bool (gb xs i))) w):ak P N ops K (⟨some d,.load t x,ty,pos,af,none⟩::rest) e w:=.ld hR.2 hx hj rfl hp hb hK
theorem auQ{u:TypeDesc}[bJ P t u]{x:ae}{A:ai}{n:Nat}{i:Int}{xs:List aE}(hR:fu w A n xs)(hx:ev e x=.pointer (aH A i.toNat))(hj:i.toNat<n)(hp:xv u=true)(hb:Nat.blt d N=true)(hK:ak P N ops K rest (bE e d (.slice (rg xs i).a (rg xs i).n (rg xs i).c)) w):ak P N ops K (⟨some d,.load t x,ty,pos,af,none⟩::rest) e w:=.ld hR.2 hx hj rfl hp hb hK
theorem bw{u:TypeDesc}[bJ P t u]{x:ae}{A:ai}{n:Nat}{i:Int}{xs:List aE}(hR:fu w A n xs)(q9:(ev e x,xv u,Nat.blt d N)=(.pointer (aH A i.toNat),true,true))(hK:ak P N ops K rest (bE e d (.slice (rg xs i).a (rg xs i).n (rg xs i).c)) w)(hj:i.toNat<n:=by omega):ak P N ops K (⟨some d,.load t x,ty,pos,af,none⟩::rest) e w:=auQ hR (congrArg (λp=>p.1) q9) hj (congrArg (λp=>p.2.1) q9) (congrArg (λp=>p.2.2) q9) hK
theorem ak.st{z:ab}[bL P t z 1 b]{a x:ae}{i:Nat}{k:Ck}(hS:St w0 w ks)(hk:ks[i]?=some k)(ha:ev e a=.pointer (aH k.A j))(hx:ev e x=u)(h1:u.oneCell'=true)(hj:j<k.n)(hK:∀w',St w0 w' (ks.set i { k with vs:=k.vs.set j u })->ak P N ops K rest e w'):ak P N ops K (⟨none,.store t a x,ty,pos,af,none⟩::rest) e w:=by
 obtain⟨p,hp,⟨v,hc⟩,hf,mu⟩:=hS.store i hk hj u h1;obtain⟨inf,hi,_,hs,_⟩:=bL.get P t;refine .unit (w':=w.setCell p u) ?_ (hK _ mu);have ajh:u.cells= #[u]:=by cases u<;>simp[Value.oneCell']at h1<;>rfl
 simp[execOp,Instr.storeAt,ha,hx,hp,Instr.sureAddr,storeVar,sizeOf,typeInfo,hi,hs,ajh,storeCells,run_store _ _ _ _ _ h1,hc,hf,Addr.add]
theorem ak.oL{z:ab}[bL P t z 1 b]{a x:ae}(m:Nat){i:Int}{A:ai}{n c:Nat}{u:Int}(hS:St w0 w ks)(hk:ks[m]?=some (av te A n c xs))(ha:ev e a=.pointer (aH A i.toNat))(hx:ev e x=aj u)(hj:i.toNat<n)(hK:∀w',St w0 w' (ks.set m (av te A n c (xs.set i.toNat u)))->ak P N ops K rest e w'):ak P N ops K (⟨none,.store t a x,ty,pos,af,none⟩::rest) e w:=
 .st hS hk ha hx rfl hj λw' h=>hK w' (by simpa[av,List.map_set]using h)
theorem pn{z:ab}[bL P t z 1 b]{a x:ae}(m:Nat){i:Int}{A:ai}{n c:Nat}{xs:List Bool}{u:Bool}(hS:St w0 w ks)(hk:ks[m]?=some (fB te A n c xs))(ha:ev e a=.pointer (aH A i.toNat))(hx:ev e x=.bool u)(hj:i.toNat<n)(hK:∀w',St w0 w' (ks.set m (fB te A n c (xs.set i.toNat u)))->ak P N ops K rest e w'):ak P N ops K (⟨none,.store t a x,ty,pos,af,none⟩::rest) e w:=
 .st hS hk ha hx rfl hj λw' h=>hK w' (by simpa[fB,List.map_set]using h)
theorem nC{z:ab}[bL P t z 1 b]{a x:ae}(m:Nat){i:Int}{A:ai}{n c:Nat}{xs:List aE}{n1:Nat}(hS:St w0 w ks)(hk:ks[m]?=some (aX te A n c xs))(ha:ev e a=.pointer (aH A i.toNat))(hx:ev e x=.slice A1 n1 c1)(hj:i.toNat<n)(hK:∀w',St w0 w' (ks.set m (aX te A n c (xs.set i.toNat ⟨A1,n1,c1⟩)))->ak P N ops K rest e w'):ak P N ops K (⟨none,.store t a x,ty,pos,af,none⟩::rest) e w:=
 .st hS hk ha hx rfl hj λw' h=>hK w' (by simpa[aX,List.map_set,aE.v]using h)
theorem Ld(z:ab)(n:Nat):(madeCells #[z] n)=(List.replicate n z).toArray:=by
 rw[<-toList_madeCells_one z n]
theorem ak.mk{el:ad}{z:ab}[bJ P t (.slice el)][bL P el z 1 b]{x:ae}{k:IntKind}(n:Nat)(hS:St w0 w ks)(hx:ev e x=.int k (n:Int))(hz:z.cells= #[z])(h1z:z.oneCell'=true)(hb:Nat.blt d N=true)(hn:b*n<=281474976710656/\n<=9223372036854775807)(hK:∀A w',St w0 w' (⟨A,n,n,el,List.replicate n z⟩::ks)->ak P N ops K rest (bE e d (.slice A n n)) w'):ak P N ops K (⟨some d,.makeSlice t x x,ty,pos,af,none⟩::rest) e w:=by
 obtain⟨inf,hi,eN,hs,iI⟩:=bL.get P el;have hr:=run_make_row (P:=P) t el inf z (bJ.out (P:=P) (t:=t)) hi eN hs hz k k n (by rw[iI];exact hn.1) hn.2 w;have hA:=hS.alloc (List.replicate n z) el (by simp[maxLen];omega) (YV n h1z);rw[Ld]at hr;refine .val (w':=w.alloc (.cells (List.replicate n z).toArray el)) ?_ hb (hK _ _ (by simpa using hA));simp only[execOp,hx,Sem.run_bind,hr,Result.andThen_ok,Sem.run_pure]
theorem wb{el:ad}{v:Bool}[bJ P t (.slice el)][bL P el (.bool v) 1 b]{x:ae}{k:IntKind}(n:Nat)(hS:St w0 w ks)(hx:ev e x=.int k (n:Int))(hb:Nat.blt d N=true)(hn:b*n<=281474976710656/\n<=9223372036854775807)(hK:∀A w',St w0 w' (fB el A n n (List.replicate n v)::ks)->ak P N ops K rest (bE e d (.slice A n n)) w'):ak P N ops K (⟨some d,.makeSlice t x x,ty,pos,af,none⟩::rest) e w:=
 .mk n hS hx rfl rfl hb hn λA w' h=>hK A w' (by unfold fB;rw[List.map_replicate];exact h)
theorem FG{el:ad}{v:Int}[bJ P t (.slice el)][bL P el (aj v) 1 b]{x:ae}{k:IntKind}(n:Nat)(hS:St w0 w ks)(hx:ev e x=.int k (n:Int))(hb:Nat.blt d N=true)(hn:b*n<=281474976710656/\n<=9223372036854775807)(hK:∀A w',St w0 w' (av el A n n (List.replicate n v)::ks)->ak P N ops K rest (bE e d (.slice A n n)) w'):ak P N ops K (⟨some d,.makeSlice t x x,ty,pos,af,none⟩::rest) e w:=
 .mk n hS hx rfl rfl hb hn λA w' h=>hK A w' (by unfold av;rw[List.map_replicate];exact h)
theorem BV{el:ad}[bJ P t (.slice el)][bL P el (.slice none 0 0) 1 b]{x:ae}{k:IntKind}(n:Nat)(hS:St w0 w ks)(hx:ev e x=.int k (n:Int))(hb:Nat.blt d N=true)(hn:b*n<=281474976710656/\n<=9223372036854775807)(hK:∀A w',St w0 w' (aX el A n n (List.replicate n bI)::ks)->ak P N ops K rest (bE e d (.slice A n n)) w'):ak P N ops K (⟨some d,.makeSlice t x x,ty,pos,af,none⟩::rest) e w:=
 .mk n hS hx rfl rfl hb hn λA w' h=>hK A w' (by unfold aX;rw[List.map_replicate];exact h)
theorem IP(f:Nat->ab)(n:Nat):(Array.range n).map f=((List.range n).map f).toArray:=by apply Array.ext';simp
theorem jy{el:ad}{z:ab}[bJ P t (.slice el)][bL P el z 1 b](hS:St w0 w ks)(hb:Nat.blt d N=true)(hK:∀A w',St w0 w' (⟨A,0,0,el,[]⟩::ks)->ak P N ops K rest (bE e d (.slice A 0 0)) w'):ak P N ops K (⟨some d,.buildSlice t 0 #[],ty,pos,af,none⟩::rest) e w:=by
 obtain⟨inf,hi,eN,hs,iI⟩:=bL.get P el;refine .val (w':=w.alloc (.cells #[] el)) ?_ hb (hK _ _ (hS.alloc [] el (by simp) O));simp[execOp,Instr.buildSlice,run_underlying (bJ.out (P:=P) (t:=t)),sizeOf,typeInfo,hi,hs,Instr.fill,newRow,IP]
theorem ak.IX{el:ad}{z:ab}[bJ P t (.slice el)][bL P el z 1 b](hS:St w0 w ks)(h0:ev e x0=v0)(c0:v0.oneCell'=true)(hz:z.cells= #[z])(hb:Nat.blt d N=true)(hK:∀A w',St w0 w' (⟨A,1,1,el,[v0]⟩::ks)->ak P N ops K rest (bE e d (.slice A 1 1)) w'):ak P N ops K (⟨some d,.buildSlice t 1 #[(0,x0)],ty,pos,af,none⟩::rest) e w:=by
 obtain⟨inf,hi,eN,hs,iI⟩:=bL.get P el;have e0:v0.cells= #[v0]:=by cases v0<;>simp[Value.oneCell']at c0<;>rfl
 refine .val (w':=w.alloc (.cells #[v0] el)) ?_ hb (hK _ _ (hS.alloc [v0] el (by simp[maxLen]) (K1 c0)));simp[execOp,Instr.buildSlice,run_underlying (bJ.out (P:=P) (t:=t)),sizeOf,typeInfo,zeroValue,hi,hs,eN,hz,Instr.fill,newRow,h0,e0,IP,lK]
theorem FC{el:ad}{z:ab}[bJ P t (.slice el)][bL P el z 1 b](hS:St w0 w ks)(h0:ev e x0=v0)(h1:ev e x1=v1)(c0:v0.oneCell'=true)(c1:v1.oneCell'=true)(hz:z.cells= #[z])(hb:Nat.blt d N=true)(hK:∀A w',St w0 w' (⟨A,2,2,el,[v0,v1]⟩::ks)->ak P N ops K rest (bE e d (.slice A 2 2)) w'):ak P N ops K (⟨some d,.buildSlice t 2 #[(0,x0),(1,x1)],ty,pos,af,none⟩::rest) e w:=by
 obtain⟨inf,hi,eN,hs,iI⟩:=bL.get P el;have e0:v0.cells= #[v0]:=by cases v0<;>simp[Value.oneCell']at c0<;>rfl
 have e1:v1.cells= #[v1]:=by cases v1<;>simp[Value.oneCell']at c1<;>rfl
 refine .val (w':=w.alloc (.cells #[v0,v1] el)) ?_ hb (hK _ _ (hS.alloc [v0,v1] el (by simp[maxLen]) (K1 c0)));simp[execOp,Instr.buildSlice,run_underlying (bJ.out (P:=P) (t:=t)),sizeOf,typeInfo,zeroValue,hi,hs,eN,hz,Instr.fill,newRow,h0,e0,h1,e1,IP,lK]
theorem ak.box{el:ad}{x:ae}{v:ab}(hS:St w0 w ks)(hx:ev e x=v)(hb:Nat.blt d N=true)(hm:v.cells.size<=maxLen)(hK:∀A w',St w0 w' (⟨A,v.cells.size,v.cells.size,el,v.cells.toList⟩::ks)->ak P N ops K rest (bE e d (.pointer A)) w')(hM:eV v.cells.toList=false:=by rfl):ak P N ops K (⟨some d,.box el x,ty,pos,af,none⟩::rest) e w:=by
 have hA:=hS.alloc v.cells.toList el (by simpa using hm) hM;refine .val (w':=w.alloc (.cells v.cells el)) ?_ hb (hK _ _ (by simpa using hA));simp[execOp,Instr.box,newVar,newRow,hx]
theorem ak.FQ{el:ad}{x:ae}{cs:Array ab}(hS:St w0 w ks)(hx:ev e x=.agg cs)(hb:Nat.blt d N=true)(hm:Nat.ble cs.size 100=true)(hK:∀A w',St w0 w' (⟨A,cs.size,cs.size,el,cs.toList⟩::ks)->ak P N ops K rest (bE e d (.pointer A)) w')(hM:eV cs.toList=false:=by rfl):ak P N ops K (⟨some d,.box el x,ty,pos,af,none⟩::rest) e w:=
 .box hS hx hb (by show cs.size<=maxLen;have:=Nat.le_of_ble_eq_true hm;simp only[maxLen];omega) hK hM
theorem ak.new{el:ad}{z:ab}{s:Nat}[bL P el z s b](hS:St w0 w ks)(hb:Nat.blt d N=true)(jS:Nat.ble z.cells.size 100=true)(hK:∀A w',St w0 w' (⟨A,z.cells.size,z.cells.size,el,z.cells.toList⟩::ks)->ak P N ops K rest (bE e d (.pointer A)) w')(hM:eV z.cells.toList=false:=by rfl):ak P N ops K (⟨some d,.alloc el,ty,pos,af,none⟩::rest) e w:=by
 obtain⟨inf,hi,eN,hs,iI⟩:=bL.get P el;have hm:z.cells.size<=maxLen:=by have:=Nat.le_of_ble_eq_true jS;simp only[maxLen];omega
 have hA:=hS.alloc z.cells.toList el (by simpa using hm) hM;refine .val (w':=w.alloc (.cells z.cells el)) ?_ hb (hK _ _ (by simpa using hA));simp[execOp,Instr.alloc,zeroValue,typeInfo,hi,eN,newVar,newRow]
theorem dX{x:ae}{A:ai}{n:Nat}{f:Nat->ab}(hR:Rd w A n f)(hn:0<n)(hx:ev e x=.pointer A)(hb:Nat.blt d N=true)(hK:ak P N ops K rest (bE e d (.pointer A)) w):
 ak P N ops K (⟨some d,.nilCheck x,ty,pos,af,none⟩::rest) e w:=by
 obtain⟨p,hp,_⟩:=hR 0 hn;obtain⟨q,rfl⟩:∃q,A=some q:=by cases A with|none=>simp[aH]at hp|some q=>exact⟨q,rfl⟩
 exact .an8 hx hb hK
def F1:List Field->Nat->Option (ad×Nat)
 |f::_,0=>some (f.type,f.offset)
 |_::r,m+1=>F1 r m
 |[],_=>none
theorem U3:∀{l:List Field}{m:Nat}{ft off:Nat},F1 l m=some (ft,off)->∃fd,l[m]?=some fd/\fd.type=ft/\fd.offset=off
 |[],_,_,_,h=>by simp[F1]at h
 |f::_,0,_,_,h=>by simp[F1]at h;exact⟨f,rfl,h.1,h.2⟩
 |_::r,m+1,_,_,h=>by simpa using U3 (l:=r) (m:=m) h
theorem auO{s:ad}{fs:Array Field}[bJ P s (.struct fs)]{x:ae}{A:ai}{n m:Nat}{f:Nat->ab}{z:ab}(hR:Rd w A n f)(hx:ev e x=.pointer A)(hf:F1 fs.toList m=some (ft,off))(hn:Nat.blt 0 n=true)(hb:Nat.blt d N=true)(hI:bL P ft z (sz+1) b)(hK:ak P N ops K rest (bE e d (.pointer (aH A off))) w):ak P N ops K (⟨some d,.fieldAddr s x m,ty,pos,af,none⟩::rest) e w:=by
 obtain⟨p,hp,_⟩:=hR 0 (by simpa[Nat.blt_eq]using hn);obtain⟨q,rfl⟩:∃q,A=some q:=by cases A with|none=>simp[aH]at hp|some q=>exact⟨q,rfl⟩
 obtain⟨fd,rH,rfl,rfl⟩:=U3 hf;have Po:fs[m]?=some fd:=by simpa using rH
 obtain⟨inf,hi,eN,hs,iI⟩:=bL.get P fd.type;refine .val (w':=w) ?_ hb hK;simp[execOp,Instr.fieldAt,run_underlying (bJ.out (P:=P) (t:=s)),Po,hx,Instr.sureAddr,fieldPlace,sizeOf,typeInfo,hi,hs,aH]
theorem aS{s:ad}{fs:Array Field}[bJ P s (.struct fs)]{x:ae}{A:ai}{n m:Nat}{f:Nat->ab}{z:ab}(hR:Rd w A n f)(q9:(ev e x,F1 fs.toList m,Nat.blt 0 n,Nat.blt d N)=(.pointer A,some (ft,off),true,true))[hI:bL P ft z (sz+1) b](hK:ak P N ops K rest (bE e d (.pointer (aH A off))) w):ak P N ops K (⟨some d,.fieldAddr s x m,ty,pos,af,none⟩::rest) e w:=auO hR (congrArg (λp=>p.1) q9) (congrArg (λp=>p.2.1) q9) (congrArg (λp=>p.2.2.1) q9) (congrArg (λp=>p.2.2.2) q9) hI hK
theorem cG{fs:Array Field}{z:ab}(m:Nat)[bJ P t (.struct fs)][bL P t z (m+1) b]{x:ae}{A:ai}{f:Nat->ab}{cs:Array ab}(hR:Rd w A (m+1) f)(hx:ev e x=.pointer A)(sc:((List.range (m+1)).map f).toArray=cs)(hb:Nat.blt d N=true)(hK:ak P N ops K rest (bE e d (.agg cs)) w):ak P N ops K (⟨some d,.load t x,ty,pos,af,none⟩::rest) e w:=by
 obtain⟨p,hp,_⟩:=hR 0 ac;obtain⟨q,rfl⟩:∃q,A=some q:=by cases A with|none=>simp[aH]at hp|some q=>exact⟨q,rfl⟩
 obtain⟨inf,hi,eN,hs,iI⟩:=bL.get P t;have hl:=run_loadCells (P:=P) w q (m+1) f (λj hj=>by
  obtain⟨p,hp,hc⟩:=hR j hj;simp[aH]at hp;rw[hp];exact hc)
 subst sc;refine .val (w':=w) ?_ hb hK;simp[execOp,Instr.loadAt,hx,Instr.sureAddr,loadVar,isAgg,run_underlying (bJ.out (P:=P) (t:=t)),sizeOf,typeInfo,hi,hs,hl]
theorem iK(A:ai):aH A 0=A:=by cases A<;>simp[aH,Addr.add]
theorem Rr(A:ai)(i j:Nat):aH (aH A i) j=aH A (i+j):=by
 cases A with
 |none=>rfl
 |some q=>simp only[aH,Option.map_some];unfold Addr.add;by_cases h1:i=0<;>by_cases h2:j=0<;>simp[h1,h2,Nat.add_assoc]
theorem Rd.behind{A:ai}{n m:Nat}{f:Nat->ab}(hR:Rd w A n f)(h:o+m<=n):Rd w (aH A o) m (λj=>f (o+j)):=λj hj=>by
 obtain⟨p,hp,hc⟩:=hR (o+j) ac;exact⟨p,by rw[Rr];exact hp,hc⟩
abbrev Bx(t:ad)(n:Nat)(A:ai)(vs:List ab):Ck:=⟨A,n,n,t,vs⟩
theorem rf{el:ad}{x:ae}(hS:St w0 w ks)(hx:ev e x=.agg #[v0])(hb:Nat.blt d N=true)(hK:∀A w',St w0 w' (Bx el 1 A [v0]::ks)->ak P N ops K rest (bE e d (.pointer A)) w')(hM:eV [v0]=false:=by rfl):ak P N ops K (⟨some d,.box el x,ty,pos,af,none⟩::rest) e w:=.FQ hS hx hb rfl hK hM
theorem nB{el:ad}{x:ae}(hS:St w0 w ks)(hx:ev e x=.agg #[v0,v1])(hb:Nat.blt d N=true)(hK:∀A w',St w0 w' (Bx el 2 A [v0,v1]::ks)->ak P N ops K rest (bE e d (.pointer A)) w')(hM:eV [v0,v1]=false:=by rfl):ak P N ops K (⟨some d,.box el x,ty,pos,af,none⟩::rest) e w:=.FQ hS hx hb rfl hK hM
theorem DE{el:ad}{s:Nat}[bL P el (.agg #[v0]) s b](hS:St w0 w ks)(hb:Nat.blt d N=true)(hK:∀A w',St w0 w' (Bx el 1 A [v0]::ks)->ak P N ops K rest (bE e d (.pointer A)) w')(hM:eV [v0]=false:=by rfl):ak P N ops K (⟨some d,.alloc el,ty,pos,af,none⟩::rest) e w:=.new (el:=el) (z:=.agg #[v0]) (s:=s) (b:=b) hS hb rfl hK hM
theorem kM{el:ad}{s:Nat}[bL P el (.agg #[v0,v1]) s b](hS:St w0 w ks)(hb:Nat.blt d N=true)(hK:∀A w',St w0 w' (Bx el 2 A [v0,v1]::ks)->ak P N ops K rest (bE e d (.pointer A)) w')(hM:eV [v0,v1]=false:=by rfl):ak P N ops K (⟨some d,.alloc el,ty,pos,af,none⟩::rest) e w:=.new (el:=el) (z:=.agg #[v0,v1]) (s:=s) (b:=b) hS hb rfl hK hM
theorem auP{u:TypeDesc}[bJ P t u]{x:ae}{A:ai}{n n1:Nat}{f:Nat->ab}(hR:Rd w A n f)(hx:ev e x=.pointer (aH A j))(hj:Nat.blt j n=true)(hv:f j=.slice A1 n1 c1)(hp:xv u=true)(hb:Nat.blt d N=true)(hK:ak P N ops K rest (bE e d (.slice A1 n1 c1)) w):ak P N ops K (⟨some d,.load t x,ty,pos,af,none⟩::rest) e w:=.ld hR hx (by simpa[Nat.blt_eq]using hj) hv hp hb hK
theorem a6{u:TypeDesc}[bJ P t u]{x:ae}{A:ai}{n n1:Nat}{f:Nat->ab}(hR:Rd w A n f)(q9:(ev e x,Nat.blt j n,f j,xv u,Nat.blt d N)=(.pointer (aH A j),true,.slice A1 n1 c1,true,true))(hK:ak P N ops K rest (bE e d (.slice A1 n1 c1)) w):ak P N ops K (⟨some d,.load t x,ty,pos,af,none⟩::rest) e w:=auP hR (congrArg (λp=>p.1) q9) (congrArg (λp=>p.2.1) q9) (congrArg (λp=>p.2.2.1) q9) (congrArg (λp=>p.2.2.2.1) q9) (congrArg (λp=>p.2.2.2.2) q9) hK
theorem fX{u:TypeDesc}[bJ P t u]{x:ae}{A:ai}{n:Nat}{k:IntKind}{i:Int}{f:Nat->ab}(hR:Rd w A n f)(hx:ev e x=.pointer (aH A j))(hj:Nat.blt j n=true)(hv:f j=.int k i)(hp:xv u=true)(hb:Nat.blt d N=true)(hK:ak P N ops K rest (bE e d (.int k i)) w):ak P N ops K (⟨some d,.load t x,ty,pos,af,none⟩::rest) e w:=.ld hR hx (by simpa[Nat.blt_eq]using hj) hv hp hb hK
theorem tK{u:TypeDesc}[bJ P t u]{x:ae}{A:ai}{n:Nat}{i:Bool}{f:Nat->ab}(hR:Rd w A n f)(hx:ev e x=.pointer (aH A j))(hj:Nat.blt j n=true)(hv:f j=.bool i)(hp:xv u=true)(hb:Nat.blt d N=true)(hK:ak P N ops K rest (bE e d (.bool i)) w):ak P N ops K (⟨some d,.load t x,ty,pos,af,none⟩::rest) e w:=.ld hR hx (by simpa[Nat.blt_eq]using hj) hv hp hb hK
def tC(vs:List ab)(o:Nat):List ab->List ab
 |[]=>vs
 |c::r=>tC (vs.set o c) (o+1) r
theorem RQ{k:Ck}(i:Nat):∀(cs:List ab)(ks:List Ck)(vs:List ab)(w:aa)(o:Nat)(p:Addr),St w0 w ks->ks[i]?=some { k with vs:=vs }->aH k.A o=some p->o+cs.length<=k.n->(∀u∈cs,u.oneCell'=true)->∀m q,aH k.A m=some q->o=m+(o-m)->
 m<=o->∃w',(storeCells q cs (o-m)).run P w=.ok () w'/\St w0 w' (ks.set i { k with vs:=tC vs o cs })
 |[],ks,vs,w,o,p,hS,hk,_,_,_,m,q,_,_,_=>⟨w,by simp[storeCells],by
  have:ks.set i { k with vs:=tC vs o [] }=ks:=by
   apply List.ext_getElem?;intro j;rw[lI]
   split
   ·rename_i e;subst e;rw[hk,aG (iD.1 hk).1];rfl
   ·rfl
  rw[this];exact hS⟩
 |c::r,ks,vs,w,o,p,hS,hk,hp,hl,h1,m,q,hq,ho,hm=>by
  simp only[List.length_cons]at hl;obtain⟨p',gR,⟨v,hc⟩,hf,mu⟩:=hS.store i hk (j:=o) (by show o<k.n;omega) c (h1 c (by simp));have yG:q.add (o-m)=p':=by
   have:aH (aH k.A m) (o-m)=some p':=by rw[Rr,<-ho];exact gR
   rw[hq]at this;simpa[aH]using this
  have dH:=(iD.1 hk).1
  by_cases hr:r=[]
  ·subst hr;refine⟨_,?_,mu⟩;simp[storeCells,yG,run_store _ _ _ _ _ (h1 c (by simp)),hc,hf]
  ·have bT:0<r.length:=by cases r with|nil=>exact absurd rfl hr|cons _ _=>simp
   obtain⟨p2,kQ⟩:∃p2,aH k.A (o+1)=some p2:=by
    obtain⟨x,hx,_⟩:=(hS.rd i hk) (o+1) (by show o+1<k.n;omega);exact⟨x,hx⟩
   obtain⟨w2,jI,az⟩:=RQ i r _ (vs.set o c) _ (o+1) p2 mu (by rw[lI];simp[dH]) kQ ac (λu hu=>h1 u (by simp[hu])) m q hq ac ac;refine⟨w2,?_,by simpa[tC]using az⟩;have e1:o+1-m=o-m+1:=by omega
   rw[e1]at jI;simp[storeCells,yG,run_store _ _ _ _ _ (h1 c (by simp)),hc,hf,jI]
theorem ak.arQ{z:ab}(m:Nat)[bL P t z m b]{a x:ae}(i:Nat){k:Ck}{cs:Array ab}(hS:St w0 w ks)(hk:ks[i]?=some k)(ha:ev e a=.pointer (aH k.A o))(hx:ev e x=.agg cs)(sc:cs.size=m)(tU:cs.toList.all Value.oneCell'=true)(CR:Nat.blt 0 m=true)(CS:Nat.ble (o+m) k.n=true)(hK:∀w',St w0 w' (ks.set i { k with vs:=tC k.vs o cs.toList })->ak P N ops K rest e w'):ak P N ops K (⟨none,.store t a x,ty,pos,af,none⟩::rest) e w:=by
 have hn:0<m/\o+m<=k.n:=⟨by simpa[Nat.blt_eq]using CR,Nat.le_of_ble_eq_true CS⟩;have h1:∀u∈cs.toList,u.oneCell'=true:=λu hu=>List.all_eq_true.1 tU u hu
 obtain⟨p,hp,_⟩:=(hS.rd i hk) o ac;obtain⟨w',jI,mu⟩:=RQ (P:=P) (k:=k) i cs.toList ks k.vs w o p hS hk hp (by simp;omega) h1 o p hp ac ac;obtain⟨inf,hi,_,hs,_⟩:=bL.get P t;refine .unit (w':=w') ?_ (hK _ mu);rw[Nat.sub_self]at jI;simp[execOp,Instr.storeAt,ha,hx,hp,Instr.sureAddr,storeVar,sizeOf,typeInfo,hi,hs,Value.cells,sc,jI]
theorem dU{z:ab}(m:Nat)[bL P t z m b]{a x:ae}(i:Nat){k:Ck}{cs:Array ab}(hS:St w0 w ks)(hk:ks[i]?=some k)(ha:ev e a=.pointer k.A)(hx:ev e x=.agg cs)(sc:cs.size=m)(h1:cs.toList.all Value.oneCell'=true)(CR:Nat.blt 0 m=true)(CS:Nat.ble (0+m) k.n=true)(hK:∀w',St w0 w' (ks.set i { k with vs:=tC k.vs 0 cs.toList })->ak P N ops K rest e w'):ak P N ops K (⟨none,.store t a x,ty,pos,af,none⟩::rest) e w:=
 .arQ m i hS hk (by rw[iK];exact ha) hx sc h1 CR CS hK
theorem oR{z:ab}[bL P t z 1 b]{a x:ae}(i:Nat){k:Ck}(hS:St w0 w ks)(hk:ks[i]?=some k)(ha:ev e a=.pointer (aH k.A j))(hx:ev e x=u)(h1:u.oneCell'=true)(hj:Nat.blt j k.n=true)(hK:∀w',St w0 w' (ks.set i { k with vs:=k.vs.set j u })->ak P N ops K rest e w'):ak P N ops K (⟨none,.store t a x,ty,pos,af,none⟩::rest) e w:=.st hS hk ha hx h1 (by simpa[Nat.blt_eq]using hj) hK
def aaO(a n:Nat)(R:ab->aa->Prop):jo
 | .normal,e,w=>∃A f,e a=.pointer A/\Rd w A n f/\R (.agg ((List.range n).map f).toArray) w
 | .ret,e,w=>∃A f,e a=.pointer A/\Rd w A n f/\R (.agg ((List.range n).map f).toArray) w
 |_,_,_=>False
theorem zj{a n:Nat}{R:ab->aa->Prop}{A:ai}{f:Nat->ab}(h:e a=.pointer A)(hR:Rd w A n f)(h2:R (.agg ((List.range n).map f).toArray) w):aaO a n R .ret e w:=⟨A,f,h,hR,h2⟩
theorem aa0{fs:Array Field}{z:ab}{n:Nat}[bJ P t (.struct fs)][bL P t z n b]{A:ai}{f:Nat->ab}(hn:0<n)(hR:Rd w A n f):∃q,A=some q/\(loadVar t q).run P w=.ok (.agg ((List.range n).map f).toArray) w:=by
 obtain⟨p,hp,_⟩:=hR 0 hn;obtain⟨q,rfl⟩:∃q,A=some q:=by cases A with|none=>simp[aH]at hp|some q=>exact⟨q,rfl⟩
 obtain⟨inf,hi,eN,hs,iI⟩:=bL.get P t;have hl:=run_loadCells (P:=P) w q n f (λj hj=>by
  obtain⟨p,hp,hc⟩:=hR j hj;simp[aH]at hp;rw[hp];exact hc)
 exact⟨q,O,by simp[loadVar,isAgg,run_underlying (bJ.out (P:=P) (t:=t)),sizeOf,typeInfo,hi,hs,hl]⟩
theorem BA{fn:Func}{R:ab->aa->Prop}{a t n:Nat}{fs:Array Field}{z:ab}[bJ P t (.struct fs)][bL P t z n b](hr:fn.results= #[.cell a t])(tj:Nat.blt 0 n=true):∀x a1 e w,lM N a1 e->aaO a n R x e w->bodyPost P fn (λx w'=>∃v,x=.returned v/\R v w') x a1 w:=by
 intro x a1 e w he q;have hn:0<n:=by simpa[Nat.blt_eq]using tj
 have hg:=he.get a;have key:∀(A:ai)(f:Nat->ab),e a=.pointer A->Rd w A n f->(results fn a1.tmps).run P w=.ok (.agg ((List.range n).map f).toArray) w:=by
  intro A f hA hR;obtain⟨q,rfl,hl⟩:=aa0 (P:=P) (t:=t) hn hR;rw[sL]at hg;simp[results,hr,hg,hA,asAddr,hl]
 cases x<;>first
  |exact q.elim
  |(
   obtain⟨A,f,hA,hR,h2⟩:=q;exact⟨he.defers,_,key A f hA hR,_,O,h2⟩)
def cutAt(A:ai)(c l:Nat):ai:=if c=l then A else aH A l
theorem Rd.cut{A:ai}{n c:Nat}{f:Nat->ab}(hR:Rd w A n f)(hl:l<=h)(hn:h<=n)(hc:n<=c):Rd w (cutAt A c l) (h-l) (λj=>f (l+j)):=λj hj=>by
 obtain⟨p,hp,ajg⟩:=hR (l+j) ac;refine⟨p,?_,ajg⟩;unfold cutAt;rw[aD (by omega)];cases A with
 |none=>simp[aH]at hp
 |some q=>
  simp only[aH,Option.map_some,oh]at hp|-;rw[<-hp];unfold Addr.add
  by_cases wT:l=0<;>by_cases Py:j=0<;>simp[wT,Py,Nat.add_assoc]
theorem bu.cut{A:ai}{n c:Nat}(hR:bu w A n xs)(hl:l<=h)(hn:h<=n)(hc:n<=c):bu w (cutAt A c l) (h-l) ((xs.drop l).take (h-l)):=
 ⟨by have:=hR.1;simp;omega,(hR.2.cut hl hn hc).congr λj hj=>by simp[b5,qk,hj]⟩
theorem fu.cut{A:ai}{n c:Nat}{xs:List aE}(hR:fu w A n xs)(hl:l<=h)(hn:h<=n)(hc:n<=c):fu w (cutAt A c l) (h-l) ((xs.drop l).take (h-l)):=
 ⟨by have:=hR.1;simp;omega,(hR.2.cut hl hn hc).congr λj hj=>by simp[b5,qk,hj]⟩
theorem uY{el:ad}{z:ab}[hU:bJ P t (.slice el)][bL P el z 1 b]{x lo:ae}{A:ai}{n c:Nat}{k:IntKind}{l:Int}(hx:ev e x=.slice A n c)(hl:ev e lo=.int k l)(hb:Nat.blt d N=true)(h0:0<=l/\l<=(n:Int))(hK:ak P N ops K rest (bE e d (.slice (cutAt A c l.toNat) (n-l.toNat) (c-l.toNat))) w):ak P N ops K (⟨some d,.slice t x (some lo) none none,ty,pos,af,none⟩::rest) e w:=by
 obtain⟨inf,hi,eN,hs,iI⟩:=bL.get P el;refine .val (w':=w) ?_ hb hK;have:=run_sliceBound (P:=P) w k l n .sliceB h0.1 h0.2;simp[execOp,hx,hl,Instr.sliceAt,run_underlying hU.out,Instr.slice,Instr.sliceBounds,this,sizeOf,typeInfo,hi,hs,cutAt,aH]
theorem rW{el:ad}{z:ab}[hU:bJ P t (.slice el)][bL P el z 1 b]{x:ae}{A:ai}{n c:Nat}{k:IntKind}{h:Int}(hx:ev e x=.slice A n c)(hh:ev e fY=.int k h)(hb:Nat.blt d N=true)(h0:0<=h/\h<=(c:Int))(hK:ak P N ops K rest (bE e d (.slice A h.toNat c)) w):ak P N ops K (⟨some d,.slice t x none (some fY) none,ty,pos,af,none⟩::rest) e w:=by
 obtain⟨inf,hi,eN,hs,iI⟩:=bL.get P el;refine .val (w':=w) ?_ hb hK;have:=run_sliceBound (P:=P) w k h c .sliceAcap h0.1 h0.2;have hA:A.map (λx=>x.add 0)=A:=by cases A<;>simp[Addr.add]
 simp[execOp,hx,hh,Instr.sliceAt,run_underlying hU.out,Instr.slice,Instr.sliceBounds,this,sizeOf,typeInfo,hi,hs,hA]
theorem ap5{el:ad}{z:ab}[hU:bJ P t (.slice el)][bL P el z 1 b](hz:z.cells= #[z0]){k:Ck}(i:Nat)(hS:St w0 w ks)(hk:ks[i]?=some k)(hM:eV k.vs=false)(he:k.e=el){m:Nat}{f:Nat->ab}(hR:Rd w A' m f)(h1:∀j,j<m->(f j).oneCell'=true)
 (r9:k.n+m<=maxLen) (pF:(k.n+m)*b<=140737488355328) (ty:ad):
 ∃A2 c2 w',(Builtin.append_ #[t,t] ty #[.slice k.A k.n k.c,.slice A' m c']).run P w=.ok (.slice A2 (k.n+m) c2) w'/\St w0 w' (ks.set i ⟨A2,k.n+m,c2,el,k.vs++(List.range m).map f⟩)/\(k.n=k.c->Below w.heap.size w w'):=by
 subst he;obtain⟨inf,hi,eN,hs,iI⟩:=bL.get P k.e;have G9:=hS.py hk hM;have OV:eV (k.vs++(List.range m).map f)=false:=YU hM (xk λu hu=>by
  obtain⟨j,hj,rfl⟩:=de.1 hu;exact h1 j (by simpa using hj))
 obtain⟨hl,ni,pG,h4⟩:=G9;have CL:=(iD.1 hk).1
 by_cases hm:m=0
 ·subst hm;refine⟨k.A,k.c,w,?_,?_,λ_=>Below.refl _ _⟩
  ·cases A' with
   |none=>cases hkA:k.A<;>simp[Builtin.append_,run_underlying hU.out,sizeOf,typeInfo,hi,Builtin.lenOf,Builtin.firstCells,ni,storeCells]
   |some a=>
    have wT:=run_loadCells (P:=P) w a 0 f (λj hj=>by omega);cases hkA:k.A<;>simp[Builtin.append_,run_underlying hU.out,sizeOf,typeInfo,hi,Builtin.lenOf,Builtin.firstCells,ni,storeCells,loadCells,loadCellsFrom]
  ·have:ks.set i ⟨k.A,k.n+0,k.c,k.e,k.vs++(List.range 0).map f⟩=ks:=by
    have h5:(⟨k.A,k.n+0,k.c,k.e,k.vs++(List.range 0).map f⟩:Ck)=k:=by simp
    rw[h5];apply List.ext_getElem?;intro j;rw[lI]
    split
    ·rename_i e;subst e;rw[hk]
     try simp[CL]
    ·rfl
   rw[this];exact hS
 ·obtain⟨a,rfl⟩:∃a,A'=some a:=by
   obtain⟨p,hp,_⟩:=hR 0 ac;cases A' with|none=>simp[aH]at hp|some q=>exact⟨q,rfl⟩
  have gP:((List.range m).map f).length=m:=by simp
  have yC:∀j v,((List.range m).map f)[j]?=some v->w.cell? (a.add j)=some v:=by
   intro j v hj;have wS:j<m:=by have:=(iD.1 hj).1;simpa using this
   obtain⟨p,hp,hc⟩:=hR j wS;simp only[aH,Option.map_some,oh]at hp;rw[hp,hc,<-hj];simp[wS]
  have tU:∀u∈(List.range m).map f,u.oneCell'=true:=by
   intro u hu;obtain⟨j,hj,rfl⟩:=de.1 hu;exact h1 j (by simpa using hj)
  have fresh:∀(cs:List ab)(c2:Nat),eV cs=false->k.n+m<=c2->c2<=maxLen->cs.length=c2->cs.take (k.n+m)=k.vs++(List.range m).map f->
   St w0 (w.drew.alloc (.cells cs.toArray k.e)) (ks.set i ⟨some ⟨w.heap.size,0,none⟩,k.n+m,c2,k.e,k.vs++(List.range m).map f⟩):=by
   intro cs c2 h5m h5 h6 h7 h8;have hA:=hS.drew.alloc cs k.e ac h5m;have hp:(⟨some ⟨w.heap.size,0,none⟩,cs.length,cs.length,k.e,cs⟩::ks).Perm (k::(ks.set i ⟨some ⟨w.heap.size,0,none⟩,cs.length,cs.length,k.e,cs⟩)):=by
    have gen:∀(l:List Ck)(i:Nat)(x y:Ck),l[i]?=some y->(x::l).Perm (y::l.set i x):=by
     intro l
     induction l with
     |nil=>intro i x y h;simp at h
     |cons u l ih=>
      intro i x y h;cases i with
      |zero=>simp at h;subst h;exact List.Perm.swap _ _ _
      |succ i=>
       simp only[List.getElem?_cons_succ]at h;simp only[List.set_cons_succ];exact(List.Perm.swap _ _ _).trans (((ih i x y h).cons u).trans (List.Perm.swap _ _ _))
    exact gen ks i _ _ hk
   have hB:=(hA.perm hp).tail;refine⟨hB.below,λx hx=>?_,?_⟩
   ·obtain⟨j,hj,rfl⟩:=fS.1 hx;have iJ:j<ks.length:=by simpa using hj
    rw[List.getElem_set]
    split
    ·refine .qS OV ⟨?_,h5,h6,.inr ⟨w.heap.size,0,cs.toArray,O,hS.below.size,heap_alloc_new w.drew _,by simp;omega,λq hq=>?_⟩⟩
     ·simp[hl]
     ·have KA:q<k.n+m:=hq;show cs.toArray[0+q]?=(k.vs++(List.range m).map f)[q]?;rw[<-h8];simp[qk,KA]
    ·rename_i bN;refine hB.own _ (fS.2 ⟨j,by simpa using iJ,?_⟩);rw[List.getElem_set,aD bN]
   ·have h9:=hB.apart;rw[show(ks.set i ⟨some ⟨w.heap.size,0,none⟩,k.n+m,c2,k.e,k.vs++(List.range m).map f⟩).filterMap Ck.iv=(ks.set i ⟨some ⟨w.heap.size,0,none⟩,cs.length,cs.length,k.e,cs⟩).filterMap Ck.iv from ?_]
    ·exact h9
    ·have:=Ju Ck.iv (ks.set i ⟨some ⟨w.heap.size,0,none⟩,cs.length,cs.length,k.e,cs⟩) i ⟨some ⟨w.heap.size,0,none⟩,cs.length,cs.length,k.e,cs⟩ ⟨some ⟨w.heap.size,0,none⟩,k.n+m,c2,k.e,k.vs++(List.range m).map f⟩ (by rw[lI];simp[CL]) O;rw[<-this];simp
  have Oi:((k.n+m:Nat):Int)<=9223372036854775807:=by simp only[maxLen]at r9;omega
  rcases h4 with⟨hA,h0⟩|⟨g,o,cur,hA,hg,hh,vC,hc⟩
  ·have pP:k.n=0:=by omega
   have Qs:k.vs=[]:=iL ac;have hr:=run_append_nil (P:=P) w t ty k.e inf z hU.out hi eN a m c' _ (by rw[gP,hs,Nat.mul_one]) yC ac ac (by rw[iI];rw[pP,Nat.zero_add]at pF;omega);have pJ:=grownCap_ge w m 0 k.e;refine⟨_,_,_,?_,fresh (((List.range m).map f)++List.replicate (grownCap w m 0 k.e-m) z0) (grownCap w m 0 k.e) (HB (xk tU) (by intro hn;have:=aQ List.length hn;simp at this;omega)) ac (grownCap_le_maxLen w m 0 k.e ac) (by simp;omega) (by rw[Qs,pP];simp),λ_=>(Below.refl w.heap.size w).drew.alloc (cJ _) _⟩;have Bp:Builtin.zeroCells z.cells (grownCap w m 0 k.e-m)=(List.replicate (grownCap w m 0 k.e-m) z0).toArray:=by
    rw[hz];simp only[Builtin.zeroCells];exact(show _=_ from by have:=Ld z0 (grownCap w m 0 k.e-m);simpa[madeCells]using this)
   rw[hA,h0,pP,Nat.zero_add,hr,Bp,List.append_toArray]
  ·by_cases Hj:k.n+m<=k.c
   ·have hf:=run_firstCells_some (P:=P) w inf.size m a m c' _ (by rw[gP,hs,Nat.mul_one]) yC;have aw:=run_storeCells_at P g (o+k.n) k.e ((List.range m).map f) 0 cur w hh (by rw[gP];omega) tU;simp only[Nat.add_zero]at aw;refine⟨some ⟨g,o,none⟩,k.c,_,?_,hS.turn (k:=k) (g:=g) hk (by simp[Ck.iv,hA]) (by simp[Ck.iv]) (w':=w.setRow g (cur.toList.take (o+k.n)++(List.range m).map f++cur.toList.drop (o+k.n+((List.range m).map f).length)).toArray) ?_ ?_,λh=>absurd Hj ac⟩
    ·rw[hA];simp[Builtin.append_,run_underlying hU.out,sizeOf,typeInfo,hi,hs,Builtin.lenOf,Hj,Addr.add_lit];rw[hs]at hf;simp only[jd,od]at aw|-;simp[hf,aw]
    ·exact⟨⟨O,O,O,by simp,λx _ hx=>setRow_other w g x _ (λe=>hx (by rw[e]))⟩,cJ _⟩
    ·refine .qS OV ⟨by simp[hl],Hj,pG,.inr ⟨g,o,_,O,hg,setRow_heap w g cur _ k.e _ hh,?_,λj hj=>?_⟩⟩
     ·simp;omega
     ·have iJ:j<k.n+m:=hj;show((cur.toList.take (o+k.n)++(List.range m).map f++cur.toList.drop (o+k.n+((List.range m).map f).length)).toArray)[o+j]?=(k.vs++(List.range m).map f)[j]?;have b8:cur.toList.length=cur.size:=by simp
      rw[List.getElem?_toArray]
      by_cases tg:j<k.n
      ·rw[ef,jF (by simp;omega),qk,aG (by omega),jF (by omega)];rw[Array.getElem?_toList];exact hc j tg
      ·rw[ef,jM (by simp;omega),jF (by simp;omega),jM (by omega)]
       congr 1
       simp;omega
   ·have holds:∀j v,k.vs[j]?=some v->w.cell? ((⟨g,o,none⟩:Addr).add j)=some v:=by
     intro j v hj;have tg:j<k.n:=by have:=(iD.1 hj).1;omega
     rw[BX];simp only[World.cell?,hh];simpa[hc j tg]using hj
    have hr:=run_append_grow (P:=P) w t ty k.e inf z hU.out hi eN ⟨g,o,none⟩ k.n k.c k.vs (by rw[hl,hs,Nat.mul_one]) holds a m c' _ (by rw[gP,hs,Nat.mul_one]) yC ac Oi (growslice_fits ac (by rw[iI];exact pF));have pJ:=grownCap_ge w (k.n+m) k.c k.e;refine⟨_,_,_,?_,fresh (k.vs++(List.range m).map f++List.replicate (grownCap w (k.n+m) k.c k.e-(k.n+m)) z0) (grownCap w (k.n+m) k.c k.e) (HB OV (by intro hn;have:=aQ List.length hn;simp at this;omega)) ac (grownCap_le_maxLen w (k.n+m) k.c k.e r9) (by simp[hl];omega) (by rw[zF (by simp[hl])];exact jw (by simp[hl])),λ_=>(Below.refl w.heap.size w).drew.alloc (cJ _) _⟩;have Bp:Builtin.zeroCells z.cells (grownCap w (k.n+m) k.c k.e-(k.n+m))=(List.replicate (grownCap w (k.n+m) k.c k.e-(k.n+m)) z0).toArray:=by
     rw[hz];simp only[Builtin.zeroCells];exact(show _=_ from by have:=Ld z0 (grownCap w (k.n+m) k.c k.e-(k.n+m));simpa[madeCells]using this)
    rw[hA,hr,Bp,List.append_toArray,List.append_toArray]
theorem ak.app{el:ad}{z:ab}[hU:bJ P t (.slice el)][bL P el z 1 b]{x:ae}{k:Ck}(i:Nat){m:Nat}{f:Nat->ab}(hS:St w0 w ks)(hk:ks[i]?=some k)(hR:Rd w A' m f)(hx:ev e x=.slice k.A k.n k.c)(hy:ev e y=.slice A' m c')(he:k.e=el)(hz:z.cells= #[z0])(h1:∀j,j<m->(f j).oneCell'=true)(r9:k.n+m<=maxLen)(pF:(k.n+m)*b<=140737488355328)(hb:Nat.blt d N=true)(hK:∀A2 c2 w',St w0 w' (ks.set i ⟨A2,k.n+m,c2,el,k.vs++(List.range m).map f⟩)->ak P N ops K rest (bE e d (.slice A2 (k.n+m) c2)) w')(hM:eV k.vs=false:=by first|rfl|exact vH _|exact EO _|exact yY _):
 ak P N ops K (⟨some d,.call ⟨.builtin .append, #[x,y], #[t,t]⟩,ty,pos,af,none⟩::rest) e w:=by
 obtain⟨A2,c2,w',hr,mu,_⟩:=ap5 (P:=P) (t:=t) hz i hS hk hM he hR h1 r9 pF ty (c':=c');refine .val (w':=w') ?_ hb (hK _ _ _ mu);simp[execOp,resolve,invoke,builtin,hx,hy,hr]
end
def eS(o:Oper):List Edge:=o.after.toList.filter (Region.binds .any)
theorem Le{o:Oper}{ed:Edge}:ed∈eS o↔ed∈o.after/\Region.binds .any ed=true:=by
 simp[eS]
def B3(l:List Oper):Bool:=l.zipIdx.all λp=>(eS p.1).all λed=>Nat.blt ed.on p.2
def ij(l:List Oper):Nat->Nat->Nat->Bool
 |0,_,_=>false
 |f+1,k,j=>match l[k]? with
  |some o=>(eS o).any λed=>Nat.beq ed.on j||ij l f ed.on j
  |none=>false
theorem xX{l:List Oper}{S:Nat->Bool}(b8:∀(i:Nat)(o:Oper),S i=true->l[i]?=some o->∀ed∈eS o,S ed.on=true):∀(f k j:Nat),ij l f k j=true->S k=true->S j=true
 |0,k,j,h,_=>by simp[ij]at h
 |f+1,k,j,h,hk=>by
  simp only[ij]at h
  split at h
  ·rename_i o ho;rw[List.any_eq_true]at h;obtain⟨ed,mx,h⟩:=h;have h1:=b8 k o hk ho ed mx;rw[Bool.or_eq_true]at h;rcases h with h|h
   ·rw[<-lg h];exact h1
   ·exact xX b8 f ed.on j h h1
  ·cases h
theorem IM{l:List Oper}{S:Nat->Bool}(b8:∀(i:Nat)(o:Oper),S i=true->l[i]?=some o->∀ed∈eS o,S ed.on=true){k:Nat}{o:Oper}(ho:l[k]?=some o)(hr:∀ed∈eS o,S ed.on=true):∀(f j:Nat),ij l f k j=true->S j=true
 |0,j,h=>by simp[ij]at h
 |f+1,j,h=>by
  simp only[ij,ho]at h;rw[List.any_eq_true]at h;obtain⟨ed,mx,h⟩:=h;have h1:=hr ed mx;rw[Bool.or_eq_true]at h;rcases h with h|h
  ·rw[<-lg h];exact h1
  ·exact xX b8 f ed.on j h h1
theorem FM{S:Nat->Bool}{k i:Nat}(h:(Nat.beq k i||S k)=true)(hk:k≠i):S k=true:=by
 rw[Bool.or_eq_true]at h;exact h.resolve_left λe=>hk (lg e)
theorem ID{S:Nat->Bool}{k i:Nat}(h:(Nat.beq k i||S k)=false):k≠i/\S k=false:=by
 rw[Bool.or_eq_false_iff]at h;exact⟨λe=>by rw[e,Nat.beq_refl]at h;exact absurd h.1 am,h.2⟩
theorem MG{l:List Oper}{S:Nat->Bool}(b8:∀(i:Nat)(o:Oper),S i=true->l[i]?=some o->∀ed∈eS o,S ed.on=true){i j:Nat}(hS:S i=false)(h:ij l l.length j i=true):S j=false:=by
 cases hj:S j with
 |false=>rfl
 |true=>rw[xX b8 _ _ _ h hj]at hS;cases hS
section
variable {P:Program}{N:Nat}{e:Env}{w:aa}
theorem acz{o:Oper}{a:Act}{w:aa}{K K2:Act->aa->Prop}{Q Q2:Exit->Act->aa->Prop}(h:o.wp P a w K Q)(hK:∀a w,K a w->K2 a w)(hQ:∀x a w,x≠ .normal->¬Q x a w):o.wp P a w K2 Q2:=by
 unfold Oper.wp at*;generalize (execOp a.eval o).run P w=r at*;cases r with
 |ok n w'=>
  cases n<;>simp only[Oper.upon]at h|-<;>first
   |exact hK _ _ h
   |(
    refine Calls.mono h λx nX hx=>?_
    cases x with
    |returned v=>exact hK _ _ hx
    |panicked ch=>exact absurd hx (hQ _ _ _ (by simp))
    |outgrown=>obtain⟨a0,w0,hx⟩:=hx;exact absurd hx (hQ _ _ _ (by simp)))
   |exact Rows.mono h λv nX hx=>hK _ _ hx
 |halt x w'=>
  cases x<;>simp only[Oper.upon]at h|-
  exact absurd h (hQ _ _ _ (by simp))
theorem Je(p p':Nat->Bool)(i:Nat)(hi:p i=false)(hp:∀k,p' k=if k=i then true else p k):∀(l:List Nat),l.Nodup->i∈l->l.countP p'=l.countP p+1
 |[],_,h=>by cases h
 |x::l,hn,h=>by
  have akh:∀(l:List Nat),¬i∈l->l.countP p'=l.countP p:=by
   intro l hl;exact List.countP_congr λk hk=>by rw[hp k,aD (by rintro rfl;exact hl hk)]
  simp only[mj]at hn;simp only[List.countP_cons]
  by_cases hx:x=i
  ·subst hx;rw[akh l hn.1,hp x,aG rfl,hi];simp
  ·have ln:i∈l:=by
    rcases gW.1 h with h|h
    ·exact absurd h.symm hx
    ·exact h
   rw[Je p p' i hi hp l hn.2 ln,hp x,aD hx];omega
theorem Ip{id:Nat}{l:List Oper}{Q:jo}(hm:P.follows .mixedOrders=true)(ta:B3 l=true)(I:(Nat->Bool)->Env->aa->Prop)(h0:∀w1,Below w.heap.size w w1->I (λ_=>false) e w1)
 (ku:∀(S:Nat->Bool)(i:Nat)(o:Oper)(e1:Env)(w1:aa),l[i]?=some o->S i=false->(∀ed∈eS o,S ed.on=true)->(∀(k:Nat)(o':Oper),S k=true->l[k]?=some o'->∀ed∈eS o',S ed.on=true)->I S e1 w1->∃K:Env->aa->Prop,ak P N l.toArray K [o] e1 w1/\∀e2 w2,K e2 w2->I (λk=>Nat.beq k i||S k) e2 w2)
 (ow:∀(S:Nat->Bool)(e1:Env)(w1:aa),(∀i,i<l.length->S i=true)->I S e1 w1->Q .normal e1 w1):Cd P N (.region id l.toArray true) Q e w:=.mk' λa ha=>by
 have WM:∀(i:Nat)(o:Oper),l[i]?=some o->∀ed∈eS o,ed.on<i:=by
  intro i o ho ed mx;simp only[B3,List.all_eq_true]at ta;have:=ta (o,i) (by
   obtain⟨hi,CN⟩:=iD.1 ho;rw[List.mem_iff_getElem?];exact⟨i,by simp[ho]⟩)
  simpa[Nat.blt_eq]using this ed mx
 refine wp_region_any hm ?_;have key:∀(fuel:Nat)(listed:Array Bool)(a1:Act)(e1:Env)(w1:aa),lM N a1 e1->listed.size=l.length->
  (∀(i:Nat)(o:Oper),listed.getD i false=true->l[i]?=some o->∀ed∈eS o,listed.getD ed.on false=true)->I (λk=>listed.getD k false) e1 w1->(l.length-fuel<=(List.range l.length).countP λi=>listed.getD i false)->
  wpAny P .any l.toArray (low N Q) fuel listed a1 w1:=by
  have iY:∀(listed:Array Bool)(a1:Act)(e1:Env)(w1:aa),lM N a1 e1->I (λk=>listed.getD k false) e1 w1->(∀i,i<l.length->listed.getD i false=true)->low N Q .normal a1 w1:=
   λlisted a1 e1 w1 hr hI eA=>⟨e1,hr,ow _ e1 w1 eA hI⟩
  have akD:∀(listed:Array Bool),listed.size=l.length->Region.ready .any l.toArray listed=[]->∀i,i<l.length->listed.getD i false=true:=by
   intro listed vC oA i
   induction i using Nat.strongRecOn with
   |_ i ih=>
    intro hi;cases Xt:listed.getD i false with
    |true=>rfl
    |false=>
     exfalso;have:i∈Region.ready .any l.toArray listed:=by
      rw[mem_ready];refine⟨?_,l[i],by simp[hi],λed mx la=>ih ed.on (WM i _ (fL hi) ed (Le.2 ⟨mx,la⟩)) (by have:=WM i _ (fL hi) ed (Le.2 ⟨mx,la⟩);omega)⟩;rw[sL,BO (by omega)]at Xt|-;exact Xt
     rw[oA]at this;cases this
  intro fuel
  induction fuel with
  |zero=>
   intro listed a1 e1 w1 hr vC b8 hI ub;have eA:∀i,i<l.length->listed.getD i false=true:=by
    have h4:(List.range l.length).countP (λi=>listed.getD i false)=(List.range l.length).length:=by
     have:=List.countP_le_length (p:=λi=>listed.getD i false) (l:=List.range l.length);simp at this ub|-;omega
    rw[List.countP_eq_length]at h4;intro i hi;exact h4 i (by simpa using hi)
   refine⟨?_,iY listed a1 e1 w1 hr hI eA⟩;rw[List.eq_nil_iff_forall_not_mem];intro i hi;obtain⟨h5,o,ho,_⟩:=mem_ready.1 hi;have Eu:i<l.length:=by
    rcases Nat.lt_or_ge i l.length with h|h
    ·exact h
    ·simp[oP h]at ho
   have h6:=eA i Eu;rw[sL,BO (by omega)]at h5 h6;simp at h5 h6;rw[h5]at h6;cases h6
  |succ fuel ih=>
   intro listed a1 e1 w1 hr vC b8 hI ub;refine⟨λoA=>iY listed a1 e1 w1 hr hI (akD listed vC oA),λi hi=>?_⟩;obtain⟨aW,o,ho,haf⟩:=mem_ready.1 hi;have PW:l[i]?=some o:=by simpa using ho
   have Eu:i<l.length:=(iD.1 PW).1;have gI:∀ed∈eS o,listed.getD ed.on false=true:=λed mx=>haf ed (Le.1 mx).1 (Le.1 mx).2
   have Yv:listed.getD i false=false:=by
    have h5:=aW;rw[sL,BO (by omega)]at h5|-;exact h5
   have AM:∀k,(listed.setIfInBounds i true).getD k false=if k=i then true else listed.getD k false:=by
    intro k;rw[sL,zC]
    by_cases fV:k=i
    ·subst fV;rw[aG rfl,aG (by omega),aG rfl];rfl
    ·rw[aD (λe=>fV e.symm),aD fV,<-sL]
   have hS:(λk=>(listed.setIfInBounds i true).getD k false)=λk=>Nat.beq k i||listed.getD k false:=by
    funext k;rw[AM]
    by_cases fV:k=i
    ·subst fV;rw[aG rfl,Nat.beq_refl];rfl
    ·rw[aD fV];have:Nat.beq k i=false:=by
      cases hb:Nat.beq k i with
      |false=>rfl
      |true=>exact absurd (lg hb) fV
     rw[this];rfl
   obtain⟨K,aw,hK⟩:=ku (λk=>listed.getD k false) i o e1 w1 PW Yv gI (λk o' hk bD=>b8 k o' hk bD) hI;have pa:=aw.run a1 hr;have tk:∀a2 w2,(∃e2,lM N a2 e2/\K e2 w2)->wpAny P .any l.toArray (low N Q) fuel (listed.setIfInBounds i true) a2 w2:=by
    intro a2 w2 ⟨e2,vA,qu⟩;replace qu:=hK e2 w2 qu;refine ih _ a2 e2 w2 vA (by simpa using vC) (λk o' hk bD ed mx=>?_) (by rw[hS];exact qu) ?_
    ·rw[AM]
     by_cases W3:ed.on=i
     ·rw[aG W3]
     ·rw[aD W3]
      by_cases fV:k=i
      ·subst fV;rw[PW]at bD;cases bD;exact gI ed mx
      ·rw[AM,aD fV]at hk;exact b8 k o' hk bD ed mx
    ·have ajj:(List.range l.length).countP (λk=>(listed.setIfInBounds i true).getD k false)=(List.range l.length).countP (λk=>listed.getD k false)+1:=
      Je (λk=>listed.getD k false) (λk=>(listed.setIfInBounds i true).getD k false) i Yv AM _ List.nodup_range (by simpa using Eu)
     rw[ajj];omega
   unfold wpOp;rw[ho];unfold wpList at pa;show if _ then _ else _
   by_cases hw:Region.wanted o (yielded l.toArray a1.tmps)=true
   ·rw[aG hw]at pa|-;rcases pa with h5|⟨_,a0,w0,h5⟩
    ·refine .inl (acz h5 (λa2 w2 hx=>?_) (λx a w hx hq=>hx hq.1));exact tk a2 w2 hx.2
    ·exact absurd h5.1 (by simp)
   ·rw[aD hw]at pa|-;exact tk _ _ pa.2
 refine key l.length (Array.replicate l.length false) a e _ ha (by simp) (λi o hi=>?_) (by
  have:(λk=>(Array.replicate l.length false).getD k false)=λ_=>false:=by
   funext k;rw[sL,Array.getElem?_replicate]
   split<;>rfl
  rw[this];exact h0 _ ⟨⟨rfl,rfl,rfl,cJ _,λ_ _=>rfl⟩,λ_=>Nat.le_add_right _ _⟩) ac
 exfalso;rw[sL,Array.getElem?_replicate]at hi
 split at hi<;>simp at hi
end
inductive Yd where
 |ex (v:ab)
 |pr (p:ab->aa->Prop)
def Yd.holds:Yd->ab->aa->Prop
 | .ex v,u,_=>u=v
 | .pr p,u,w=>p u w
def Yd.rN:Yd->Prop
 | .ex _=>True
 | .pr p=>∀v w w',p v w->Below w.heap.size w w'->p v w'
theorem Yd.ank(v:ab):(Yd.ex v).rN:=True.intro
theorem lx{v:ab}{l:List Yd}(h:∀y∈l,y.rN):∀y∈Yd.ex v::l,y.rN:=bV.2 ⟨True.intro,h⟩
theorem Yd.bW{p:ab->aa->Prop}(h:∀v w w',p v w->Below w.heap.size w w'->p v w'):(Yd.pr p).rN:=h
abbrev xU:Yd:=.ex undef
abbrev xI(i:Int):Yd:=.ex (aj i)
abbrev xB(b:Bool):Yd:=.ex (.bool b)
abbrev xP(a:ai):Yd:=.ex (.pointer a)
abbrev xS(a:ai)(n c:Nat):Yd:=.ex (.slice a n c)
theorem Ty{y:Yd}(hl:y.rN){v:ab}{w w':aa}(h:y.holds v w)(hb:Below w.heap.size w w'):y.holds v w':=by
 cases y with
 |ex u=>exact h
 |pr p=>exact hl v w w' h hb
def ir(ds:List Nat)(i:Nat):Bool:=match ds with
 |[]=>false
 |d::r=>bif Nat.beq i d then true else ir r i
theorem y8{ds:List Nat}{i:Nat}:ir ds i=true↔i∈ds:=by
 induction ds with
 |nil=>simp[ir]
 |cons d r ih=>
  simp only[ir,gW];cases hb:Nat.beq i d with
  |true=>simp[lg hb]
  |false=>
   have:i≠d:=λe=>by subst e;simp at hb
   simp[this,ih]
def mix(e1 e:Env)(ds:List Nat):Env:=λi=>bif ir ds i then e1 i else e i
def dL(o:Oper):Nat:=match o.dst with
 |some d=>d
 |none=>0
def Jn(N:Nat)(l:List Oper):Bool:=
 l.all (λo=>match o.dst with|some d=>Nat.blt d N|none=>false) && decide ((l.map dL).Nodup) &&(l.zipIdx.all λp=>(eS p.1).all λed=>Nat.blt ed.on p.2)
def oj(l:List Oper)(ys:List Yd):List Edge->List (Nat×ab)
 |[]=>[]
 |ed::r=>match ys[ed.on]? with
  |some (.ex v)=>(((l[ed.on]?).map dL).getD 0,v)::oj l ys r
  |_=>oj l ys r
def tS:List Oper->List Yd->(Nat->ab)->Nat->List (Nat×ab)
 |o::l,.ex v::ys,u,i=>(dL o,v)::tS l ys u (i+1)
 |o::l,.pr _::ys,u,i=>(dL o,u i)::tS l ys u (i+1)
 |_,_,_,_=>[]
section
variable{d id:Nat}{e1:Env}{w1 w2:aa}{y:Yd}{ops:Array Oper}{o o':Oper}{l:List Oper}{ys:List Yd}
variable {P:Program}{N:Nat}{e:Env}{w:aa}
def gk(i:Nat)(e1:Env)(w1:aa)(d:Nat)(y:Yd):Env->aa->Prop:=λe2 w2=>Below w1.heap.size w1 w2/\y.holds (e2 d) w2/\∀j,j≠d->e2 j=e1 j
theorem gk.dn{i:Nat}{v:ab}(hb:Below w1.heap.size w1 w2)(hv:y.holds v w2):gk i e1 w1 d y (bE e1 d v) w2:=by
 refine⟨hb,?_,λj hj=>?_⟩
 ·have:bE e1 d v d=v:=by unfold bE;rw[Nat.beq_refl];rfl
  rw[this];exact hv
 ·have:Nat.beq j d=false:=by
   cases h:Nat.beq j d with
   |false=>rfl
   |true=>exact absurd (lg h) hj
  unfold bE;rw[this];rfl
theorem d0{i:Nat}{v:ab}(hv:y.holds v w1):gk i e1 w1 d y (bE e1 d v) w1:=gk.dn (Below.refl _ _) hv
theorem Az{i:Nat}{v:ab}(hv:y.holds v w1:=by exact O):ak P N ops (gk i e1 w1 d y) [] (bE e1 d v) w1:=ak.n (gk.dn (Below.refl _ _) hv)
def vT(ops:Array Oper)(N:Nat)(e:Env)(o:Oper):Option (Nat×ab):=
 match o.guard with
 |none=>qY N e o
 |some (j,want)=>match o.dst,(ops[j]?).bind (·.dst)with
  |some d,some dj=>(match Nat.blt dj N,Nat.blt d N with
   |true,true=>(match e dj with
    | .bool b=>(match b,want with
     |true,true=>qY N e ⟨some d,o.op,o.type,o.pos,o.after,none⟩
     |false,false=>qY N e ⟨some d,o.op,o.type,o.pos,o.after,none⟩
     |true,false=>some (d,undef)
     |false,true=>some (d,undef))
    | .tuple vs=>(match vs.toList with
     |[]=>some (d,undef)
     |_=>none)
    |_=>none)
   |_,_=>none)
  |_,_=>none
theorem ak.vT{K:Env->aa->Prop}{v:ab}(h:vT ops N e1 o=some (d,v))(hK:K (bE e1 d v) w1):ak P N ops K [o] e1 w1:=by
 obtain⟨dst,op,ty,pos,af,gd⟩:=o;unfold Vc.vT at h
 split at h
 ·exact .qY h (ak.n hK)
 rename_i j want hg;simp only at hg;subst hg
 split at h
 ·rename_i d' dj hd hj;simp only at hd;subst hd
  split at h
  ·rename_i dH hb
   split at h
   ·rename_i b he
    split at h
    ·exact auH hj dH he (.qY h (ak.n hK))
    ·exact auH hj dH he (.qY h (ak.n hK))
    ·simp only[oh,Prod.mk.injEq]at h;obtain⟨rfl,rfl⟩:=h;exact auI hj dH he O hb (ak.n hK)
    simp only[oh,Prod.mk.injEq]at h;obtain⟨rfl,rfl⟩:=h;exact auI hj dH he O hb (ak.n hK)
   ·rename_i vs he
    split at h
    ·rename_i hv;have hu:vs= #[]:=by cases vs;simp only at hv;rw[hv]
     subst hu;simp only[oh,Prod.mk.injEq]at h;obtain⟨rfl,rfl⟩:=h;exact cW hj dH he hb (ak.n hK)
    cases h
   cases h
  cases h
 cases h
theorem abA{v:ab}(h:vT ops N e1 o=some (d,v)):o.dst=some d:=by
 have key:∀(o:Oper),qY N e1 o=some (d,v)->o.dst=some d:=λo h=>by
  unfold qY at h
  split at h
  ·rename_i d' hg hd
   split at h
   ·split at h
    ·simp only[oh,Prod.mk.injEq]at h;rw[hd,h.1]
    cases h
   cases h
  cases h
 unfold vT at h
 split at h
 ·exact key _ h
 split at h
 ·rename_i d' dj hd hj;rw[hd]
  split at h
  ·split at h
   ·split at h
    ·exact key _ h
    ·exact key _ h
    ·simp only[oh,Prod.mk.injEq]at h;rw[h.1]
    simp only[oh,Prod.mk.injEq]at h;rw[h.1]
   ·split at h
    ·simp only[oh,Prod.mk.injEq]at h;rw[h.1]
    cases h
   cases h
  cases h
 cases h
theorem Dk{i:Nat}{v:ab}(h:vT ops N e1 o=some (d,v))(hv:y.holds v w1):ak P N ops (gk i e1 w1 d y) [o] e1 w1:=.vT h (gk.dn (Below.refl _ _) hv)
def ada:Yd->Bool
 | .ex _=>true
 | .pr _=>false
theorem eK{l:List Yd}(h:l.all ada=true):∀y∈l,y.rN:=λy hy=>by
 have:=List.all_eq_true.1 h y hy;cases y with
 |ex v=>exact True.intro
 |pr p=>cases this
def Fv(P:Program)(N:Nat)(l:List Oper)(ys:List Yd)(e:Env)(w:aa):Nat->List Oper->Prop
 |_,[]=>True
 |i,o::r=>(∀e1 w1,Below w.heap.size w w1->(∀j,j<l.length->ir ((eS o).map (·.on)) j=true->∀(y:Yd)(o':Oper),ys[j]?=some y->l[j]?=some o'->y.holds (e1 (dL o')) w1)->(∀(j:Nat)(o':Oper),l[j]?=some o'->ij l l.length j i=true->e1 (dL o')=e (dL o'))-> 
  ak P N l.toArray (gk i (ext (mix e1 e (l.map dL)) (oj l ys (eS o))) w1 (dL o) (ys.getD i (.pr λ_ _=>True))) [o] (ext (mix e1 e (l.map dL)) (oj l ys (eS o))) w1)/\Fv P N l ys e w (i+1) r
theorem Dr{i:Nat}{v:ab}(h:(ys.getD i (.pr λ_ _=>True),λe1=>vT l.toArray N (ext (mix e1 e (l.map dL)) (oj l ys (eS o))) o)=(.ex v,λ_=>some (d,v))):∀e1 w1,Below w.heap.size w w1->(∀j,j<l.length->ir ((eS o).map (·.on)) j=true->∀(y:Yd)(o':Oper),ys[j]?=some y->l[j]?=some o'->y.holds (e1 (dL o')) w1)->(∀(j:Nat)(o':Oper),l[j]?=some o'->ij l l.length j i=true->e1 (dL o')=e (dL o'))->ak P N l.toArray (gk i (ext (mix e1 e (l.map dL)) (oj l ys (eS o))) w1 (dL o) (ys.getD i (.pr λ_ _=>True))) [o] (ext (mix e1 e (l.map dL)) (oj l ys (eS o))) w1:=λe1 w1 _ _ _=>by
 have h1:=congrFun (Prod.mk.inj h).2 e1;have hd:dL o=d:=by unfold dL;rw[abA h1]
 rw[hd,(Prod.mk.inj h).1];exact Dk h1 rfl
theorem Fv.get:∀{r:List Oper}{i:Nat},Fv P N l ys e w i r->∀k o,r[k]?=some o->∀e1 w1,Below w.heap.size w w1->(∀j,j<l.length->ir ((eS o).map (·.on)) j=true->∀(y:Yd)(o':Oper),ys[j]?=some y->l[j]?=some o'->y.holds (e1 (dL o')) w1)->(∀(j:Nat)(o':Oper),l[j]?=some o'->ij l l.length j (i+k)=true->e1 (dL o')=e (dL o'))-> 
 ak P N l.toArray (gk (i+k) (ext (mix e1 e (l.map dL)) (oj l ys (eS o))) w1 (dL o) (ys.getD (i+k) (.pr λ_ _=>True))) [o] (ext (mix e1 e (l.map dL)) (oj l ys (eS o))) w1
 |[],_,_,k,o,hk=>by simp at hk
 |x::r,i,h,0,o,hk=>by simp at hk;subst hk;exact h.1
 |x::r,i,h,k+1,o,hk=>by
  have:=Fv.get h.2 k o (by simpa using hk);simpa[Nat.add_assoc,Nat.add_comm 1 k]using this
theorem HJ{e:Env}{ds:List Nat}(h:∀j,ir ds j=false->e1 j=e j):mix e1 e ds=e1:=by
 funext j;unfold mix;cases hm:ir ds j with
 |true=>rfl
 |false=>exact(h j hm).symm
theorem Nl{l:List Oper}{ys:List Yd}{e1:Env}{w1:aa}:∀(af:List Edge),(∀ed∈af,ed.on<l.length)->(∀j,ir (af.map (·.on)) j=true->∀(y:Yd)(o':Oper),ys[j]?=some y->l[j]?=some o'->y.holds (e1 (dL o')) w1)->Mt e1 (oj l ys af)
 |[],_,_=>au
 |ed::r,dH,h=>by
  have hr:=Nl r (λx hx=>dH x (fE _ hx)) (λj hj=>h j (by rw[y8]at hj|-;exact fE _ hj));unfold oj
  split
  ·rename_i v hy;have hl:=dH ed (by simp);refine⟨?_,hr⟩;rw[fL hl];exact h ed.on (by rw[y8];simp) _ _ hy (fL hl)
  ·exact hr
theorem UE{e1 e:Env}{w1:aa}:∀(l:List Oper)(ys:List Yd)(i:Nat),l.length=ys.length->(l.map dL).Nodup->(∀(k:Nat)(y:Yd)(o:Oper),ys[k]?=some y->l[k]?=some o->y.holds (e1 (dL o)) w1)->
 ∃u:Nat->ab,ext e (tS l ys u i)=mix e1 e (l.map dL)/\(∀(k:Nat)(o:Oper),l[k]?=some o->u (i+k)=e1 (dL o))
 |[],[],i,_,_,_=>⟨λ_=>undef,by funext j;rfl,λk o h=>by simp at h⟩
 |[],y::ys,i,hl,_,_=>by simp at hl
 |o::l,[],i,hl,_,_=>by simp at hl
 |o::l,y::ys,i,hl,hn,h=>by
  simp only[List.map_cons,mj]at hn;obtain⟨u,hu,xg⟩:=UE (e1:=e1) (e:=e) (w1:=w1) l ys (i+1) (by simpa using hl) hn.2 (λk y o hy ho=>h (k+1) y o (by simpa using hy) (by simpa using ho));have h0:=h 0 y o O O;have Nd:∀(l:List Oper)(ys:List Yd)(i:Nat)(u u':Nat->ab),(∀k,i<=k->u k=u' k)->tS l ys u i=tS l ys u' i:=by
   intro l
   induction l with
   |nil=>intros;rfl
   |cons o l ih=>
    intro ys i u u' hk;cases ys with
    |nil=>rfl
    |cons y ys=>
     cases y with
     |ex v=>simp only[tS];rw[ih ys (i+1) u u' (λk fU=>hk k (by omega))]
     |pr p=>simp only[tS];rw[ih ys (i+1) u u' (λk fU=>hk k (by omega)),hk i (by omega)]
  refine⟨λk=>if k=i then e1 (dL o)else u k,?_,λk o' hk=>?_⟩
  ·have hc:=Nd l ys (i+1) (λk=>if k=i then e1 (dL o)else u k) u (λk hk=>by rw[aD (by omega)]);have ku:∀v,v=e1 (dL o)->bE (mix e1 e (l.map dL)) (dL o) v=mix e1 e ((o::l).map dL):=by
    intro v hv;funext j;simp only[bE,mix,List.map_cons,ir];cases hb:Nat.beq j (dL o)with
    |true=>rw[lg hb,hv];rfl
    |false=>rfl
   cases y with
   |ex v=>
    simp only[tS,ext,hc,hu];exact ku v h0.symm
   |pr p=>
    simp only[tS,ext,hc,hu,aG];exact ku _ O
  ·cases k with
   |zero=>simp at hk;subst hk;simp
   |succ k=>
    have:=xg k o' (by simpa using hk);show(if i+(k+1)=i then _ else u (i+(k+1)))=_;rw[aD (by omega),<-this];congr 1;omega
theorem Jo(h2:(l.map dL).Nodup){k i:Nat}(hk:l[k]?=some o')(hi:l[i]?=some o)(fV:k≠i):dL o'≠dL o:=λh=>by
 obtain⟨h3,rfl⟩:=iD.1 hk;obtain⟨h4,rfl⟩:=iD.1 hi;exact fV ((List.getElem_inj (xs:=l.map dL) (h₀:=by simpa using h3) (h₁:=by simpa using h4) h2).1 (by simpa using h))
theorem UA{S:Nat->Bool}(hS:∀(i:Nat)(y:Yd)(o:Oper),S i=true->ys[i]?=some y->l[i]?=some o->y.holds (e1 (dL o)) w1)(gI:∀ed∈eS o,S ed.on=true):∀j,ir ((eS o).map (·.on)) j=true->∀(y:Yd)(o':Oper),ys[j]?=some y->l[j]?=some o'->y.holds (e1 (dL o')) w1:=λj hj y o' hy CW=>by
 rw[y8,de]at hj;obtain⟨ed,mx,rfl⟩:=hj;exact hS _ y o' (gI ed mx) hy CW
theorem TH(h:B3 l=true){i:Nat}(ho:l[i]?=some o):∀ed∈eS o,ed.on<l.length:=λed mx=>by
 simp only[B3,List.all_eq_true]at h;have h1:=h (o,i) (by rw[List.mem_iff_getElem?];exact⟨i,by simp[ho]⟩) ed mx;have h2:=(iD.1 ho).1;simp only[Nat.blt_eq]at h1;omega
theorem UB{S:Nat->Bool}{Q:jo}(hlen:l.length=ys.length)(h2:(l.map dL).Nodup)(eA:∀i,i<l.length->S i=true)(qv:∀j,ir (l.map dL) j=false->e1 j=e j)(hS:∀(i:Nat)(y:Yd)(o:Oper),S i=true->ys[i]?=some y->l[i]?=some o->y.holds (e1 (dL o)) w1)(ow:∀u,(∀(k:Nat)(p:ab->aa->Prop),ys[k]?=some (Yd.pr p)->p (u k) w1)->Q .normal (ext e (tS l ys u 0)) w1):Q .normal e1 w1:=by
 obtain⟨u,hu,xg⟩:=UE (e1:=e1) (e:=e) (w1:=w1) l ys 0 hlen h2 (λk y o hy ho=>hS k y o (eA k (iD.1 ho).1) hy ho);have:=ow u (λk p hk=>by
  have qG:k<l.length:=by rw[hlen];exact(iD.1 hk).1
  have h5:=hS k _ l[k] (eA k qG) hk (fL qG);have h6:=xg k l[k] (fL qG);rw[Nat.zero_add]at h6;rw[h6];exact h5)
 rwa[hu,HJ qv]at this
theorem auR{Q:jo}(ys:List Yd)(hm:P.follows .mixedOrders=true)(bD:Jn N l=true)(hlen:Nat.beq l.length ys.length=true)(Ex:∀y∈ys,y.rN)(Hq:Fv P N l ys e w 0 l)(ow:∀u w1,Below w.heap.size w w1->(∀(k:Nat)(p:ab->aa->Prop),ys[k]?=some (Yd.pr p)->p (u k) w1)->Q .normal (ext e (tS l ys u 0)) w1):Cd P N (.region id l.toArray true) Q e w:=by
 have oy:l.length=ys.length:=lg hlen;simp only[Jn,Bool.and_eq_true,k5]at bD;obtain⟨⟨_,h2⟩,h3⟩:=bD;refine Ip hm h3 (λS e1 w1=>Below w.heap.size w w1/\(∀j,ir (l.map dL) j=false->e1 j=e j)/\(∀(i:Nat)(y:Yd)(o:Oper),S i=true->ys[i]?=some y->l[i]?=some o->y.holds (e1 (dL o)) w1)/\∀(i:Nat)(o:Oper),S i=false->l[i]?=some o->e1 (dL o)=e (dL o)) (λw1 hb=>⟨hb,λ_ _=>O,λ_ _ _ h=>(nomatch h),λ_ _ _ _=>O⟩) ?_ ?_
 ·rintro S i o e1 w1 ho o0 gI b8 ⟨hb,qv,hS,aW⟩;have GG:=UA hS gI;have aw:=Hq.get i o ho e1 w1 hb (λj _ hj=>GG j hj) (λj o' hj o6=>aW j o' (MG b8 o0 (by rwa[Nat.zero_add]at o6)) hj);rw[HJ qv,yb (Nl (eS o) (TH h3 ho) GG),Nat.zero_add]at aw;refine⟨_,aw,?_⟩;rintro e2 w2 ⟨jR,nN,wL⟩;refine⟨hb.trans (jR.mono hb.size),λj hj=>?_,λk y o' hk hy bD=>?_,λk o' hk bD=>?_⟩
  ·rw[wL j (by rintro rfl;rw[y8.2 (de.2 ⟨o,List.mem_of_getElem? ho,rfl⟩)]at hj;cases hj)];exact qv j hj
  ·by_cases fV:k=i
   ·subst fV;cases ho.symm.trans bD
    rwa[show ys.getD k (.pr λ_ _=>True)=y by simp[b5,hy]]at nN
   rw[wL _ (Jo h2 bD ho fV)];exact Ty (Ex y (List.mem_of_getElem? hy)) (hS k y o' (FM hk fV) hy bD) jR
  obtain⟨h5,h6⟩:=ID hk;rw[wL _ (Jo h2 bD ho h5)];exact aW k o' h6 bD
 rintro S e1 w1 eA ⟨hb,qv,hS,_⟩;exact UB oy h2 eA qv hS λu h=>ow u w1 hb h
theorem ec{Q:jo}(ys:List Yd)(hlen:Nat.beq l.length ys.length=true)(Ex:∀y∈ys,y.rN)(Hq:Fv P N l ys e w 0 l)(ow:∀u w1,Below w.heap.size w w1->(∀(k:Nat)(p:ab->aa->Prop),ys[k]?=some (Yd.pr p)->p (u k) w1)->Q .normal (ext e (tS l ys u 0)) w1)(hm:P.follows .mixedOrders=true:=by kernel_rfl)(bD:Jn N l=true:=by kernel_rfl):Cd P N (.region id l.toArray true) Q e w:=auR ys hm bD hlen Ex Hq ow
theorem lH{α:Type}{x y:Code}{Q:jo}(F:α->List (Nat×ab))(I:α->aa->Prop)(hx:Cd P N x (Du (λe' w'=>∃s,Mt e' (F s)/\I s w') Q) e w)
 (hy:∀s e' w',I s w'->Cd P N y Q (ext e' (F s)) w'):Cd P N (.seq x y) Q e w:=
 .seq (hx.mono λex e' w' q=>by
  cases ex<;>first
   |exact q
   |(
    obtain⟨s,hm,hi⟩:=q;have:=hy s e' w' hi;rw[yb hm]at this;exact this))
end
section
variable{t:ad}{z0:ab}{b n0 c0 c':Nat}
variable {P:Program}{N:Nat}{ops:Array Oper}{K:Env->aa->Prop}{rest:List Oper}{e:Env}{w0 w w':aa}{ks:List Ck}{d:Nat}{ty:ad}{pos:String}{af:Array Edge}
theorem eh{el:ad}{z:ab}[bJ P t (.slice el)][bL P el z 1 b]{x0:ae}{i:Int}(hS:St w0 w ks)(h0:ev e x0=aj i)(hz:z.cells= #[z])(hb:Nat.blt d N=true)(hK:∀A w',St w0 w' (av el A 1 1 [i]::ks)->ak P N ops K rest (bE e d (.slice A 1 1)) w'):ak P N ops K (⟨some d,.buildSlice t 1 #[(0,x0)],ty,pos,af,none⟩::rest) e w:=
 .IX hS h0 rfl hz hb hK
theorem jW{el:ad}{z:ab}[bJ P t (.slice el)][bL P el z 1 b]{x0:ae}{A0:ai}(hS:St w0 w ks)(h0:ev e x0=.slice A0 n0 c0)(hz:z.cells= #[z])(hb:Nat.blt d N=true)(hK:∀A w',St w0 w' (aX el A 1 1 [⟨A0,n0,c0⟩]::ks)->ak P N ops K rest (bE e d (.slice A 1 1)) w'):ak P N ops K (⟨some d,.buildSlice t 1 #[(0,x0)],ty,pos,af,none⟩::rest) e w:=
 .IX hS h0 rfl hz hb hK
theorem anP{ys:ah}{m:Nat}(h:ys.length=m):(List.range m).map (λj=>Value.int .i64 (ys.getD j 0))=ys.map (aj):=by
 subst h;apply iC
 ·simp
 intro i h1 h2;simp[b5,fL (show i<ys.length by simpa using h1)]
theorem anR{ys:List aE}{m:Nat}(h:ys.length=m):(List.range m).map (λj=>(ys.getD j bI).v)=ys.map aE.v:=by
 subst h;apply iC
 ·simp
 intro i h1 h2;simp[b5,fL (show i<ys.length by simpa using h1)]
theorem auS{el:ad}{z:ab}[hU:bJ P t (.slice el)][bL P el z 1 b]{x y:ae}(i:Nat){A:ai}{n c:Nat}{xs:ah}{A':ai}{m:Nat}{ys:ah}(hS:St w0 w ks)(hk:ks[i]?=some (av el A n c xs))(hR:bu w A' m ys)(hx:ev e x=.slice A n c)(hy:ev e y=.slice A' m c')(hz:z.cells= #[z])(r9:n+m<=9223372036854775807)(pF:(n+m)*b<=140737488355328)(hb:Nat.blt d N=true)(hK:∀A2 c2 w',St w0 w' (ks.set i (av el A2 (n+m) c2 (xs++ys)))->ak P N ops K rest (bE e d (.slice A2 (n+m) c2)) w'):
 ak P N ops K (⟨some d,.call ⟨.builtin .append, #[x,y], #[t,t]⟩,ty,pos,af,none⟩::rest) e w:=
 .app i hS hk hR.2 hx hy rfl hz (λ_ _=>rfl) (by simpa[maxLen]using r9) pF hb λA2 c2 w' h=>hK A2 c2 w' (by
  rw[anP hR.1]at h;simpa[av]using h)
theorem eQ{el:ad}{z:ab}[hU:bJ P t (.slice el)][bL P el z 1 b]{x y:ae}(i:Nat){A:ai}{n c:Nat}{xs:ah}{A':ai}{m:Nat}{ys:ah}(hS:St w0 w ks)(hk:ks[i]?=some (av el A n c xs))(hR:bu w A' m ys)(hx:ev e x=.slice A n c)(hy:ev e y=.slice A' m c')(q9:(z.cells,Nat.blt d N)=(#[z],true))(hK:∀A2 c2 w',St w0 w' (ks.set i (av el A2 (n+m) c2 (xs++ys)))->ak P N ops K rest (bE e d (.slice A2 (n+m) c2)) w')(r9:n+m<=9223372036854775807:=by omega)(pF:(n+m)*b<=140737488355328:=by omega):ak P N ops K (⟨some d,.call ⟨.builtin .append, #[x,y], #[t,t]⟩,ty,pos,af,none⟩::rest) e w:=auS i hS hk hR hx hy (congrArg (λp=>p.1) q9) r9 pF (congrArg (λp=>p.2) q9) hK
theorem iT{el:ad}{z:ab}[hU:bJ P t (.slice el)][bL P el z 1 b]{x y:ae}(i:Nat){A:ai}{n c:Nat}{xs:List aE}{A':ai}{m:Nat}{ys:List aE}(hS:St w0 w ks)(hk:ks[i]?=some (aX el A n c xs))(hR:fu w A' m ys)(hx:ev e x=.slice A n c)(hy:ev e y=.slice A' m c')(hz:z.cells= #[z0])(r9:n+m<=9223372036854775807)(pF:(n+m)*b<=140737488355328)(hb:Nat.blt d N=true)(hK:∀A2 c2 w',St w0 w' (ks.set i (aX el A2 (n+m) c2 (xs++ys)))->ak P N ops K rest (bE e d (.slice A2 (n+m) c2)) w'):
 ak P N ops K (⟨some d,.call ⟨.builtin .append, #[x,y], #[t,t]⟩,ty,pos,af,none⟩::rest) e w:=
 .app i hS hk hR.2 hx hy rfl hz (λ_ _=>rfl) (by simpa[maxLen]using r9) pF hb λA2 c2 w' h=>hK A2 c2 w' (by
  rw[anR hR.1]at h;simpa[aX]using h)
end
def Rp(l:List Oper)(m:Nat)(ys:List Yd):Bool:=ys.zipIdx.all λp=>match p.1 with
 | .ex _=>true
 | .pr _=>Nat.beq p.2 m||ij l l.length p.2 m
theorem apg{l:List Oper}{m:Nat}{ys:List Yd}(h:Rp l m ys=true){k:Nat}{y:Yd}(hy:ys[k]?=some y)(hk:k≠m):(∃v,y=.ex v)\/ij l l.length k m=true:=by
 simp only[Rp,List.all_eq_true]at h;have:=h (y,k) (by
  obtain⟨hi,CN⟩:=iD.1 hy;rw[List.mem_iff_getElem?];exact⟨k,by simp[hy]⟩)
 cases y with
 |ex v=>exact .inl ⟨v,rfl⟩
 |pr p=>
  simp only[Bool.or_eq_true]at this;rcases this with h|h
  ·exact absurd (lg h) hk
  ·exact .inr h
section
variable {P:Program}{N:Nat}{e:Env}{w:aa}
def Phase(l:List Oper)(m i:Nat)(w w1:aa)(p:ab->aa->Prop):Prop:=(Below w.heap.size w w1/\ij l l.length i m=false)\/((∃v,p v w1)/\ij l l.length m i=false)
def Fp(e1:Env)(d:Nat)(p:ab->aa->Prop):Env->aa->Prop:=λe2 w2=>p (e2 d) w2/\∀j,j≠d->e2 j=e1 j
theorem Fp.dn{e1:Env}{w2:aa}{d:Nat}{p:ab->aa->Prop}{v:ab}(hv:p v w2):Fp e1 d p (bE e1 d v) w2:=by
 refine⟨?_,λj hj=>?_⟩
 ·have:bE e1 d v d=v:=by unfold bE;rw[Nat.beq_refl];rfl
  rw[this];exact hv
 ·have:Nat.beq j d=false:=by
   cases h:Nat.beq j d with
   |false=>rfl
   |true=>exact absurd (lg h) hj
  unfold bE;rw[this];rfl
def Fw(P:Program)(N:Nat)(l:List Oper)(ys:List Yd)(e:Env)(w:aa)(m:Nat)(p:ab->aa->Prop):Nat->List Oper->Prop
 |_,[]=>True
 |i,o::r=>(∀e1 w1,Phase l m i w w1 p->(∀j,j<l.length->ir ((eS o).map (·.on)) j=true->∀(y:Yd)(o':Oper),ys[j]?=some y->l[j]?=some o'->y.holds (e1 (dL o')) w1)->(∀(j:Nat)(o':Oper),l[j]?=some o'->ij l l.length j i=true->e1 (dL o')=e (dL o'))-> 
  bif Nat.beq i m then(Below w.heap.size w w1->ak P N l.toArray (Fp (ext (mix e1 e (l.map dL)) (oj l ys (eS o))) (dL o) p) [o] (ext (mix e1 e (l.map dL)) (oj l ys (eS o))) w1)
  else ak P N l.toArray (gk i (ext (mix e1 e (l.map dL)) (oj l ys (eS o))) w1 (dL o) (ys.getD i (.pr λ_ _=>True))) [o] (ext (mix e1 e (l.map dL)) (oj l ys (eS o))) w1)/\Fw P N l ys e w m p (i+1) r
theorem Fw.get{l:List Oper}{ys:List Yd}{m:Nat}{p:ab->aa->Prop}:∀{r:List Oper}{i:Nat},Fw P N l ys e w m p i r->∀k o,r[k]?=some o->∀e1 w1,Phase l m (i+k) w w1 p->(∀j,j<l.length->ir ((eS o).map (·.on)) j=true->∀(y:Yd)(o':Oper),ys[j]?=some y->l[j]?=some o'->y.holds (e1 (dL o')) w1)->(∀(j:Nat)(o':Oper),l[j]?=some o'->ij l l.length j (i+k)=true->e1 (dL o')=e (dL o'))-> 
 bif Nat.beq (i+k) m then(Below w.heap.size w w1->ak P N l.toArray (Fp (ext (mix e1 e (l.map dL)) (oj l ys (eS o))) (dL o) p) [o] (ext (mix e1 e (l.map dL)) (oj l ys (eS o))) w1)
 else ak P N l.toArray (gk (i+k) (ext (mix e1 e (l.map dL)) (oj l ys (eS o))) w1 (dL o) (ys.getD (i+k) (.pr λ_ _=>True))) [o] (ext (mix e1 e (l.map dL)) (oj l ys (eS o))) w1
 |[],_,_,k,o,hk=>by simp at hk
 |x::r,i,h,0,o,hk=>by simp at hk;subst hk;exact h.1
 |x::r,i,h,k+1,o,hk=>by
  have:=Fw.get h.2 k o (by simpa using hk);simpa[Nat.add_assoc,Nat.add_comm 1 k]using this
theorem ab7{id:Nat}{l:List Oper}{Q:jo}(m:Nat)(p:ab->aa->Prop)(ys:List Yd)(hm:P.follows .mixedOrders=true)(bD:Jn N l=true)(hlen:Nat.beq l.length ys.length=true)(hp:ys[m]?=some (.pr p))(akn:Rp l m ys=true)(PI:∀y∈ys,y.rN)
 (Hq:Fw P N l ys e w m p 0 l) (ow:∀u w1,(∀(k:Nat)(p:ab->aa->Prop),ys[k]?=some (Yd.pr p)->p (u k) w1)->Q .normal (ext e (tS l ys u 0)) w1):Cd P N (.region id l.toArray true) Q e w:=by
 have oy:l.length=ys.length:=lg hlen;have EA:m<l.length:=by rw[oy];exact(iD.1 hp).1
 simp only[Jn,Bool.and_eq_true,k5]at bD;obtain⟨⟨_,h2⟩,h3⟩:=bD;refine Ip hm h3 (λS e1 w1=>(S m=false->Below w.heap.size w w1)/\(∀j,ir (l.map dL) j=false->e1 j=e j)/\(∀(i:Nat)(y:Yd)(o:Oper),S i=true->ys[i]?=some y->l[i]?=some o->y.holds (e1 (dL o)) w1)/\∀(i:Nat)(o:Oper),S i=false->l[i]?=some o->e1 (dL o)=e (dL o)) (λw1 hb=>⟨λ_=>hb,λ_ _=>O,λ_ _ _ h=>(nomatch h),λ_ _ _ _=>O⟩) ?_ ?_
 ·rintro S i o e1 w1 ho o0 gI b8 ⟨hb,qv,hS,aW⟩;have GG:=UA hS gI;have cg:Phase l m (0+i) w w1 p:=by
   rw[Nat.zero_add];cases yA:S m with
   |false=>
    refine .inl ⟨hb yA,?_⟩;cases o6:ij l l.length i m with
    |false=>rfl
    |true=>have:=IM b8 ho gI _ _ o6;rw[yA]at this;cases this
   |true=>
    refine .inr ⟨⟨_,hS m _ l[m] yA hp (fL EA)⟩,?_⟩;cases o6:ij l l.length m i with
    |false=>rfl
    |true=>have:=xX b8 _ _ _ o6 yA;rw[o0]at this;cases this
  have aw:=Hq.get i o ho e1 w1 cg (λj _ hj=>GG j hj) (λj o' hj o6=>aW j o' (MG b8 o0 (by rwa[Nat.zero_add]at o6)) hj);rw[HJ qv,yb (Nl (eS o) (TH h3 ho) GG),Nat.zero_add]at aw;have pa:∃K:Env->aa->Prop,ak P N l.toArray K [o] e1 w1/\∀e2 w2,K e2 w2->(if i=m then p (e2 (dL o)) w2 else Below w1.heap.size w1 w2/\(ys.getD i (.pr λ_ _=>True)).holds (e2 (dL o)) w2)/\∀j,j≠dL o->e2 j=e1 j:=by
   by_cases ln:i=m
   ·rw[ln,Nat.beq_refl]at aw;exact⟨_,aw (hb (by rw[<-ln];exact o0)),λe2 w2 h=>⟨by rw[aG ln];exact h.1,h.2⟩⟩
   ·have hbm:Nat.beq i m=false:=by
     cases Ei:Nat.beq i m with
     |false=>rfl
     |true=>exact absurd (lg Ei) ln
    rw[hbm]at aw;exact⟨_,aw,λe2 w2 h=>⟨by rw[aD ln];exact⟨h.1,h.2.1⟩,h.2.2⟩⟩
  obtain⟨K,aw,hK⟩:=pa;refine⟨K,aw,λe2 w2 D8=>?_⟩;obtain⟨nN,wL⟩:=hK _ _ D8;refine⟨λyA=>?_,λj hj=>?_,λk y o' hk hy bD=>?_,λk o' hk bD=>?_⟩
  ·obtain⟨h5,h6⟩:=ID yA;rw[aD λh=>h5 h.symm]at nN;exact(hb h6).trans (nN.1.mono (hb h6).size)
  ·rw[wL j (by rintro rfl;rw[y8.2 (de.2 ⟨o,List.mem_of_getElem? ho,rfl⟩)]at hj;cases hj)];exact qv j hj
  ·by_cases fV:k=i
   ·subst fV;cases ho.symm.trans bD
    by_cases ln:k=m
    ·subst ln;rw[aG rfl]at nN;rw[hp]at hy;cases hy;exact nN
    ·rw[aD ln,show ys.getD k (.pr λ_ _=>True)=y by simp[b5,hy]]at nN;exact nN.2
   ·have h7:=hS k y o' (FM hk fV) hy bD;rw[wL _ (Jo h2 bD ho fV)]
    by_cases ln:i=m
    ·rcases apg akn hy (λe=>fV (e.trans ln.symm))with⟨v,rfl⟩|o6
     ·exact h7
     ·have:=xX b8 _ _ _ o6 (FM hk fV);rw[<-ln,o0]at this;cases this
    ·rw[aD ln]at nN;exact Ty (PI y (List.mem_of_getElem? hy)) h7 nN.1
  ·obtain⟨h5,h6⟩:=ID hk;rw[wL _ (Jo h2 bD ho h5)];exact aW k o' h6 bD
 ·rintro S e1 w1 eA ⟨_,qv,hS,_⟩;exact UB oy h2 eA qv hS λu h=>ow u w1 h
end
section
variable{t t':ad}
variable {P:Program}{N:Nat}{ops:Array Oper}{K:Env->aa->Prop}{rest:List Oper}{e:Env}{w0 w w':aa}{ks:List Ck}{d:Nat}{ty:ad}{pos:String}{af:Array Edge}
theorem vY{Q:jo}{c:ae}{x y:Code}{p:Prop}[Decidable p](hc:ev e c=.bool (decide p))(hp:p)(h1:Cd P N x Q e w):Cd P N (.cond c x y) Q e w:=.iw (by rw[hc,dB hp]) h1
theorem auT{Q:jo}{c:ae}{x y:Code}{p:Prop}[Decidable p](hc:ev e c=.bool (decide p))(hp:¬p)(h1:Cd P N y Q e w):Cd P N (.cond c x y) Q e w:=.cX (by rw[hc,db hp]) h1
theorem fq{Q:jo}{c:ae}{x y:Code}{p:Prop}[Decidable p](hc:ev e c=.bool (decide p))(h1:Cd P N y Q e w)(hp:¬p:=by omega):Cd P N (.cond c x y) Q e w:=auT hc hp h1
theorem Ui(A:ai)(c:Nat):cutAt A c 0=A:=by
 unfold cutAt
 split
 ·rfl
 cases A<;>simp[aH,Addr.add]
theorem alN{vs fs:List ab}{l q:Nat}(hM:eV vs=false)(h1:∀u∈fs,u.oneCell'=true)(hq:l=0->fs≠[]:=by first|assumption|(intro _ hn;have:=aQ List.length hn;simp at this;omega)):eV (vs.take l++fs++vs.drop q)=false:=by
 by_cases hl:l=0
 ·subst hl;rw[List.take_zero,List.nil_append];exact HB (xk h1) (hq O)
 ·cases vs with
  |nil=>simp only[List.take_nil,List.drop_nil,List.nil_append,dQ];exact xk h1
  |cons v r=>
   obtain⟨m,rfl⟩:∃m,l=m+1:=⟨l-1,ac⟩;cases v<;>simp_all [eV]
theorem ap6{el:ad}{z:ab}{b:Nat}[hU:bJ P t (.slice el)][bL P el z 1 b]{k:Ck}(i l:Nat)(hS:St w0 w ks)(hk:ks[i]?=some k)(hM:eV k.vs=false)(hl:l<=k.n){A':ai}{m dc c':Nat}{f:Nat->ab}(hR:Rd w A' m f)(h1:∀j,j<m->(f j).oneCell'=true)(ty:ad)(q:Nat)(hq:q=min m (k.n-l)):
 ∃w',(Builtin.copy_ #[t,t'] ty #[.slice (cutAt k.A k.c l) (k.n-l) dc,.slice A' m c']).run P w=.ok (aj q) w'/\St w0 w' (ks.set i { k with vs:=k.vs.take l++(List.range q).map f++k.vs.drop (l+q) }):=by
 obtain⟨inf,hi,eN,hs,iI⟩:=bL.get P el;have G9:=hS.py hk hM;obtain⟨C3,ni,pG,h4⟩:=G9;have CL:=(iD.1 hk).1;have KN:(P.info? el).map (·.size)=some 1:=by simp[hi,hs]
 by_cases sg:q=0
 ·have hr:=run_copy_none (P:=P) w t t' ty el (cutAt k.A k.c l) A' (k.n-l) dc m c' hU.out KN (by show min m (k.n-l)=0;omega);refine⟨w,by rw[hr,sg];rfl,?_⟩;have h5:({ k with vs:=k.vs.take l++(List.range q).map f++k.vs.drop (l+q) }:Ck)=k:=by subst sg;simp[List.take_append_drop]
  have:ks.set i { k with vs:=k.vs.take l++(List.range q).map f++k.vs.drop (l+q) }=ks:=by
   rw[h5];apply List.ext_getElem?;intro j;rw[lI]
   split
   ·rename_i e;subst e;rw[hk]
    try simp[CL]
   rfl
  rw[this];exact hS
 obtain⟨a,rfl⟩:∃a,A'=some a:=by
  obtain⟨p,hp,_⟩:=hR 0 ac;cases A' with|none=>simp[aH]at hp|some q=>exact⟨q,rfl⟩
 rcases h4 with⟨hA,h0⟩|⟨g,o,cur,hA,hg,hh,vC,hc⟩
 ·omega
 have hD:cutAt k.A k.c l=some ⟨g,o+l,none⟩:=by
  unfold cutAt;rw[aD (by omega),hA];simp[aH,BX]
 have gP:((List.range q).map f).length=q:=by simp
 have yC:∀j v,((List.range q).map f)[j]?=some v->w.cell? (a.add j)=some v:=by
  intro j v hj;have wS:j<q:=by have:=(iD.1 hj).1;simpa using this
  obtain⟨p,hp,hc⟩:=hR j ac;simp only[aH,Option.map_some,oh]at hp;rw[hp,hc,<-hj];simp[wS]
 have tU:∀u∈(List.range q).map f,u.oneCell'=true:=by
  intro u hu;obtain⟨j,hj,rfl⟩:=de.1 hu;have Pz:j<q:=by simpa using hj
  exact h1 j ac
 have hr:=run_copy_row (P:=P) w t t' ty el g (o+l) (k.n-l) dc a m c' cur k.e ((List.range q).map f) hU.out KN hh (by rw[gP,hq]) yC (by rw[gP];omega) tU;rw[gP]at hr;rw[hD];refine⟨w.setRow g (cur.toList.take (o+l)++(List.range q).map f++cur.toList.drop (o+l+q)).toArray,hr,hS.turn (k:=k) (k':={ k with vs:=k.vs.take l++(List.range q).map f++k.vs.drop (l+q) }) (g:=g) hk (by simp[Ck.iv,hA]) (by simp[Ck.iv,hA]) ⟨⟨O,O,O,by simp,λx _ hx=>setRow_other w g x _ (λe=>hx (by rw[e]))⟩,cJ _⟩ ?_⟩;refine .qS (alN hM tU) ⟨by simp[C3];omega,ni,pG,.inr ⟨g,o,_,hA,hg,setRow_heap w g cur _ k.e _ hh,?_,λj hj=>?_⟩⟩
 ·simp;omega
 have iJ:j<k.n:=hj;have b8:cur.toList.length=cur.size:=by simp
 show((cur.toList.take (o+l)++(List.range q).map f++cur.toList.drop (o+l+q)).toArray)[o+j]?=(k.vs.take l++(List.range q).map f++k.vs.drop (l+q))[j]?;rw[List.getElem?_toArray,ef,ef]
 by_cases gp:j<l
 ·rw[jF (by simp;omega),qk,aG (by omega),jF (by simp;omega),qk,aG gp,Array.getElem?_toList];exact hc j iJ
 have e1:o+j-(cur.toList.take (o+l)).length=j-l:=by simp;omega
 have e2:j-(k.vs.take l).length=j-l:=by simp;omega
 have e3:(cur.toList.take (o+l)++((List.range q).map f++cur.toList.drop (o+l+q)))[o+j]?=((List.range q).map f++cur.toList.drop (o+l+q))[j-l]?:=by
  rw[jM (by simp;omega),e1]
 have e4:(k.vs.take l++((List.range q).map f++k.vs.drop (l+q)))[j]?=((List.range q).map f++k.vs.drop (l+q))[j-l]?:=by
  rw[jM (by simp;omega),e2]
 rw[e3,e4]
 by_cases Pz:j-l<q
 ·rw[jF (by simpa using Pz),jF (by simpa using Pz)]
 rw[jM (by rw[gP];omega),jM (by rw[gP];omega),gP,List.getElem?_drop,List.getElem?_drop,Array.getElem?_toList,show o+l+q+(j-l-q)=o+j by omega,show l+q+(j-l-q)=j by omega];exact hc j iJ
theorem Ix{el:ad}{z:ab}{b:Nat}[hU:bJ P t (.slice el)][bL P el z 1 b]{x y:ae}{k:Ck}(i l:Nat){A':ai}{m dc c':Nat}{f:Nat->ab}(q:Nat)(hS:St w0 w ks)(hk:ks[i]?=some k)(hR:Rd w A' m f)(hl:l<=k.n)(hx:ev e x=.slice (cutAt k.A k.c l) (k.n-l) dc)(hy:ev e y=.slice A' m c')(h1:∀j,j<m->(f j).oneCell'=true)(hq:q=min m (k.n-l))(hb:Nat.blt d N=true)(hK:∀w',St w0 w' (ks.set i { k with vs:=k.vs.take l++(List.range q).map f++k.vs.drop (l+q) })->ak P N ops K rest (bE e d (aj q)) w')(hM:eV k.vs=false:=by first|rfl|exact vH _|exact EO _|exact yY _):
 ak P N ops K (⟨some d,.call ⟨.builtin .copy, #[x,y], #[t,t']⟩,ty,pos,af,none⟩::rest) e w:=by
 obtain⟨w',hr,mu⟩:=ap6 (P:=P) (t:=t) (t':=t') (dc:=dc) (c':=c') i l hS hk hM hl hR h1 ty q hq;refine .val (w':=w') ?_ hb (hK _ mu);simp[execOp,resolve,invoke,builtin,hx,hy,hr]
theorem Tq{x y:ae}{i j:Int}(hx:ev e x=aj i)(hy:ev e y=aj j)(hb:Nat.blt d N=true)(hK:ak P N ops K rest (bE e d (aj (min i j))) w):
 ak P N ops K (⟨some d,.call ⟨.builtin .min, #[x,y], #[t,t']⟩,ty,pos,af,none⟩::rest) e w:=by
 have hm:(if j<i then j else i)=min i j:=by split<;>omega
 refine .val (w':=w) ?_ hb hK;simp[execOp,resolve,invoke,builtin,hx,hy,Builtin.min_,Builtin.min2,hm]
section
variable {x y:ae}{xt yt:ad}{i j:Int}
theorem rS(i:Int)(h:0<=i/\i<=18446744073709551615):IntKind.u64.wrap i=i:=by rw[IntKind.wrap_u64];omega
theorem Iu(r:Int)(hx:ev e x=.int .u64 i)(hy:ev e y=.int .u64 j)(hb:Nat.blt d N=true)(he:i+j=r)(hr:0<=r/\r<=18446744073709551615)(hK:ak P N ops K rest (bE e d (.int .u64 r)) w):
 ak P N ops K (⟨some d,.binOp .add xt x y yt,ty,pos,af,none⟩::rest) e w:=
 .val (by simp[execOp,hx,hy,eqGuard,binOp,Op.intArith,he,rS _ hr]) hb hK
theorem FH(r:Int)(hx:ev e x=.int .u64 i)(hy:ev e y=.int .u64 j)(hb:Nat.blt d N=true)(he:i*j=r)(hr:0<=r/\r<=18446744073709551615)(hK:ak P N ops K rest (bE e d (.int .u64 r)) w):
 ak P N ops K (⟨some d,.binOp .mul xt x y yt,ty,pos,af,none⟩::rest) e w:=
 .val (by simp[execOp,hx,hy,eqGuard,binOp,Op.intArith,he,rS _ hr]) hb hK
theorem Mw(r:Int)(hx:ev e x=.int .u64 i)(hy:ev e y=.int .u64 4294967295)(hb:Nat.blt d N=true)(hr:0<=i/\i<=18446744073709551615)(he:i%4294967296=r)(hK:ak P N ops K rest (bE e d (.int .u64 r)) w):
 ak P N ops K (⟨some d,.binOp .and xt x y yt,ty,pos,af,none⟩::rest) e w:=by
 subst he;obtain⟨a,rfl⟩:∃a:Nat,i=a:=⟨i.toNat,ac⟩;have h:=Mul64.maskN a ac;rw[show((a%4294967296:Nat):Int)=(a:Int)%4294967296 by omega]at h;refine .val ?_ hb hK;simp only[execOp,hx,hy,eqGuard,binOp,intBits_and,h];simp
theorem FJ(r:Int)(hx:ev e x=.int .u64 i)(hy:ev e y=.int .u64 32)(hb:Nat.blt d N=true)(hr:0<=i)(he:i / 4294967296=r)(hK:ak P N ops K rest (bE e d (.int .u64 r)) w):
 ak P N ops K (⟨some d,.binOp .shr xt x y yt,ty,pos,af,none⟩::rest) e w:=by
 subst he;refine .val ?_ hb hK;have e1:min 32 IntKind.u64.bits=32:=by decide
 have e2:i.fdiv (2^32)=i / 4294967296:=by rw[Int.fdiv_eq_ediv_of_nonneg _ (by decide)];rfl
 have e2':i.fdiv 4294967296=i / 4294967296:=e2;simp[execOp,hx,hy,eqGuard,binOp,Op.shift,e1,e2']
theorem lL{k k':IntKind}[bJ P yt (.int k')](hx:ev e x=.int k i)(hb:Nat.blt d N=true)(hw:k'.wrap i=i){u:TypeDesc}[bJ P xt u](hK:ak P N ops K rest (bE e d (.int k' i)) w):
 ak P N ops K (⟨some d,.convert xt yt x,ty,pos,af,none⟩::rest) e w:=
 .val (by simp[execOp,hx,convert,run_underlying (bJ.out (P:=P) (t:=xt)),run_underlying (bJ.out (P:=P) (t:=yt)),Conv.intToInt,hw]) hb hK
end
end
structure bH(w:aa)(A:ai)(n:Nat)(rs:List aE)(xss:ag):Prop where
 top:fu w A n rs
 len:xss.length=n
 row:∀i,i<n->bu w (rs.getD i bI).a (rs.getD i bI).n (xss.getD i [])
 cap:∀i,i<n->(rs.getD i bI).n<=(rs.getD i bI).c/\(rs.getD i bI).c<=maxLen
def gl(xss:ag)(i:Int):ah:=xss.getD i.toNat []
theorem bH.at_{w:aa}{A:ai}{n:Nat}{rs:List aE}{xss:ag}(h:bH w A n rs xss){i:Int}(_h0:0<=i)(hi:i<n):bu w (rg rs i).a (rg rs i).n (gl xss i):=h.row _ ac
theorem bH.cap_{w:aa}{A:ai}{n:Nat}{rs:List aE}{xss:ag}(h:bH w A n rs xss){i:Int}(_h0:0<=i)(hi:i<n):(rg rs i).n<=(rg rs i).c/\(rg rs i).c<=9223372036854775807:=h.cap _ ac
theorem bH.ao{w w':aa}{A:ai}{n:Nat}{rs:List aE}{xss:ag}(h:bH w A n rs xss)(hb:Below w.heap.size w w'):bH w' A n rs xss:=
 ⟨h.top.ao hb,h.len,λi hi=>(h.row i hi).ao hb,h.cap⟩
theorem St.bU{w0 w:aa}{ks:List Ck}{A:ai}{n:Nat}{rs:List aE}{xss:ag}(h:St w0 w ks)(hR:bH w0 A n rs xss):bH w A n rs xss:=hR.ao h.below
def cC(t:ad):List aE->ag->List Ck
 |r::rs,xs::xss=>av t r.a r.n r.c xs::cC t rs xss
 |_,_=>[]
def aV(t1 t2:ad)(A:ai)(n c:Nat)(rs:List aE)(xss:ag):List Ck:=aX t1 A n c rs::cC t2 rs xss
theorem BC{t:ad}:∀{rs:List aE}{xss:ag}{i:Nat},rs.length=xss.length->i<rs.length->(cC t rs xss)[i]?=some (av t (rs.getD i bI).a (rs.getD i bI).n (rs.getD i bI).c (xss.getD i []))
 |[],_,_,_,h=>by simp at h
 |r::rs,[],_,h,_=>by simp at h
 |r::rs,xs::xss,0,_,_=>rfl
 |r::rs,xs::xss,i+1,h,hi=>by
  have:=BC (t:=t) (rs:=rs) (xss:=xss) (i:=i) (by simpa using h) (by simpa using hi);simpa[cC]using this
theorem xA{t:ad}:∀{rs:List aE}{xss:ag},rs.length=xss.length->(cC t rs xss).length=rs.length
 |[],[],_=>rfl
 |[],_::_,h=>by simp at h
 |_::_,[],h=>by simp at h
 |r::rs,xs::xss,h=>by simp[cC,xA (t:=t) (rs:=rs) (xss:=xss) (by simpa using h)]
theorem tA{t:ad}:∀{rs rs':List aE}{xss xss':ag},rs.length=xss.length->cC t (rs++rs') (xss++xss')=cC t rs xss++cC t rs' xss'
 |[],_,[],_,_=>rfl
 |[],_,_::_,_,h=>by simp at h
 |_::_,_,[],_,h=>by simp at h
 |r::rs,rs',xs::xss,xss',h=>by
  have:=tA (t:=t) (rs:=rs) (rs':=rs') (xss:=xss) (xss':=xss') (by simpa using h);simp[cC,this]
theorem St.fO{w0 w:aa}{ks:List Ck}{t1 t2:ad}{A:ai}{n c:Nat}{rs:List aE}{xss:ag}(h:St w0 w (aV t1 t2 A n c rs xss++ks))(hl:xss.length=n):bH w A n rs xss:=by
 have h0:=h.dm 0 (show(aV t1 t2 A n c rs xss++ks)[0]?=some (aX t1 A n c rs)from O);have hr:rs.length=xss.length:=by rw[h0.1,hl]
 have get:∀i,i<n->(aV t1 t2 A n c rs xss++ks)[i+1]?=some (av t2 (rs.getD i bI).a (rs.getD i bI).n (rs.getD i bI).c (xss.getD i [])):=by
  intro i hi;have h1:=BC (t:=t2) (rs:=rs) (xss:=xss) (i:=i) hr ac;rw[jF (by simp[aV,xA hr];omega)];simpa[aV]using h1
 exact⟨h0,hl,λi hi=>h.bF (i+1) (get i hi),λi hi=>h.cap (i+1) (get i hi)⟩
end Go.Proofs.YtimbpgackifflaaGreatDoor.Vc
