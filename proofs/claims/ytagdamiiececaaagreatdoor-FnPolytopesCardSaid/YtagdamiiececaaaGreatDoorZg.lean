/-
 Lemmas. Conditions: as each states them.
-/
import Derived.Test.YtagdamiiececaaaGreatDoorZa
import Derived.MapKept
import Derived.Carry
set_option maxHeartbeats 8000000
namespace Go.Proofs.YtagdamiiececaaaGreatDoor.Vc
open Go.RowKit Go.MapKept
structure oV{κ:Type}(d:TypeDesc)(kv:κ->ad):Prop where
 isKey:∀a,IsKey d (kv a)
 inj:∀a b,kv a=kv b->a=b
theorem JY:oV .string Value.string:=⟨fun _=>av,fun a b h=>by injection h⟩
section
variable {κ ν:Type} [DecidableEq κ]
def eB:List (κ×ν)->κ->Option ν
 | [],_=>none
 | (y,v)::r,x=>if y=x then some v else eB r x
def gy:List (κ×ν)->κ->ν->List (κ×ν)
 | [],x,v=> [(x,v)]
 | (y,u)::r,x,v=>if y=x then(x,v)::r else(y,u)::gy r x v
def kC:List (κ×ν)->κ->Option (Nat×ν)
 | [],_=>none
 | (y,v)::r,x=>if y=x then some (0,v)else(kC r x).map fun p=> (p.1+1,p.2)
theorem Hj:∀(L:List (κ×ν)) (x:κ),eB L x=(kC L x).map (·.2)
 | [],_=>rfl
 | (y,v)::r,x=>by
  simp only [eB,kC]
  split
  ·rfl
  ·rw [Hj r x,Option.map_map];rfl
theorem Hl:∀ {L:List (κ×ν)} {x:κ} {j:Nat} {v:ν},kC L x=some (j,v)->L[j]?=some (x,v)/\∀u,gy L x u=L.set j (x,u)
 | (y,w)::r,x,j,v,h=>by
  simp only [kC]at h
  split at h
  ·rename_i e;simp only [lF,Prod.mk.injEq]at h;obtain⟨rfl,rfl⟩:=h;subst e;exact⟨O,fun u=>by simp [gy]⟩
  ·rename_i e;cases hf:kC r x with
   | none=>simp [hf]at h
   | some p=>
    simp only [hf,Option.map_some,lF,Prod.mk.injEq]at h;obtain⟨rfl,rfl⟩:=h;obtain⟨h1,h2⟩:=Hl (L:=r) (x:=x) (j:=p.1) (v:=p.2) hf;exact⟨by simpa using h1,fun u=>by simp only [gy,aC e,h2 u,List.set_cons_succ]⟩
theorem Hk:∀ {L:List (κ×ν)} {x:κ},kC L x=none->∀u,gy L x u=L++ [(x,u)]
 | [],x,_,u=>rfl
 | (y,w)::r,x,h,u=>by
  simp only [kC]at h
  split at h
  ·cases h
  ·rename_i e;rw [Option.map_eq_none_iff]at h;simp only [gy,aC e,Hk h u,List.cons_append]
theorem C4(L:List (κ×ν))(x y:κ)(u:ν):eB (gy L x u) y=if x=y then some u else eB L y:=by
 induction L with
 | nil=>simp only [gy,eB]
 | cons p r ih=>
  obtain⟨z,w⟩:=p;simp only [gy]
  by_cases e:z=x
  ·subst e;rw [aF rfl];simp only [eB]
   split<;>simp_all
  ·rw [aC e];simp only [eB,ih]
   by_cases e2:z=y
   ·subst e2;rw [aF rfl,aC (fun h=>e h.symm),aF rfl]
   ·rw [aC e2,aC e2]
def gH(kv:κ->ad)(vv:ν->ad)(L:List (κ×ν)):List (ad×ad):=L.map fun p=> (kv p.1,vv p.2)
theorem zv{d:TypeDesc}{kv:κ->ad}{vv:ν->ad}(K:oV d kv)(x:κ):∀(l:List MapEntry) (L:List (κ×ν)) (i:Nat),l.map (fun e=> (e.key,e.val))=gH kv vv L->Instr.findNow d (kv x) l i=some ((kC L x).map fun p=> (i+p.1,vv p.2))
 | [],[],_,_=>rfl
 | [],_::_,_,h=>by simp [gH]at h
 | _::_,[],_,h=>by simp [gH]at h
 | e::l,(y,v)::L,i,h=>by
  simp only [gH,List.map_cons,List.cons.injEq,Prod.mk.injEq]at h;obtain⟨⟨h1,h2⟩,h3⟩:=h;obtain⟨r,hr,xz⟩:=sameNow_of_keys (K.isKey x) (K.isKey y);simp only [Instr.findNow,kC];rw [h1,hr];cases r with
  | true=>
   have e1:=K.inj _ _ (xz.1 O);subst e1;simp [h2]
  | false=>
   have bL:¬y=x:=fun q=>by
    have:=xz.2 (by rw [q]);cases this
   rw [aC bL];simp only;rw [zv K x l L (i+1) h3,Option.map_map]
   congr 2
   funext p;simp only [Function.comp];rw [Nat.add_assoc,Nat.add_comm 1]
end
def iF(t:ae)(g:Nat)(pz:List (ad×ad)):Ck:=⟨some ⟨g,0,none⟩,0,0,t,.tuple #[]::qa pz⟩
def uK(w:aa)(g:Nat)(pz:List (ad×ad)):Prop:=∃es cl,w.heap[g]?=some (.map es cl)/\es.toList.map (fun e=> (e.key,e.val))=pz
section
variable {w0 w w':aa} {ks:List Ck} {t:ae} {g:Nat} {pz:List (ad×ad)}
theorem St.Bu(h:St w0 w ks)(i:Nat)(hk:ks[i]?=some (iF t g pz)):w0.heap.size<=g/\uK w g pz:=by
 rcases(h.get hk).cases with⟨_,_,_,g',es,cl,hA,hg,hh,hv⟩ | ⟨hm,_⟩
 ·have hA:some (⟨g,0,Option.none⟩:Addr)=some ⟨g',0,Option.none⟩:=hA;simp only [lF,Addr.mk.injEq,and_true]at hA;subst hA;have hv:(.tuple #[]::qa pz:List ad)= .tuple #[]::qa (es.toList.map fun e=> (e.key,e.val)):=hv;simp only [List.cons.injEq,true_and]at hv;exact⟨hg,es,cl,hh,(Hh hv).symm⟩
 cases hm
theorem St.BE(h:St w0 w ks)(i:Nat)(hk:ks[i]?=some (iF t g pz)):uK w g pz:=(h.Bu i hk).2
theorem St.My(h:St w0 w ks)(t:ae):St w0 (w.alloc (.map #[] 0)) (iF t w.heap.size []::ks):=by
 have hb:Below w.heap.size w (w.alloc (.map #[] 0)):=(Below.refl _ _).alloc (dh _) _;have h1:=h.aq hb;refine⟨h1.below,fun k hk=>?_,?_⟩
 ·rcases kT.1 hk with rfl | hk
  ·exact .ofM O ⟨O,O,_, #[],0,O,h.below.size,heap_alloc_new w _,O⟩
  exact h1.own k hk
 simp only [List.filterMap_cons,iF,Ck.fQ,Option.map_some,mZ];refine⟨fun de=>?_,h.apart⟩;obtain⟨k',fF,tV⟩:=List.mem_filterMap.1 de;have:=((h.own k' fF).lt tV).2;omega
theorem St.BS{i:Nat}{EX:List (ad×ad)}{CX:Array MapEntry}{GJ:Nat}(h:St w0 w ks)(hk:ks[i]?=some (iF t g pz))(hv:CX.toList.map (fun e=> (e.key,e.val))=EX):St w0 { w with heap:=w.heap.setIfInBounds g (.map CX GJ) } (ks.set i (iF t g EX)):=by
 obtain⟨hg,es,cl,hh,_⟩:=h.Bu i hk;refine h.turn (k:=iF t g pz) (k':=iF t g EX) (g:=g) hk O O ⟨⟨O,O,O,by simp,fun x _ hx=>?_⟩,dh _⟩ ?_
 ·exact(heap_set hh).2 x fun e=>hx (by rw [e])
 refine .ofM O ⟨O,O,g,CX,GJ,O,hg,(heap_set hh).1,?_⟩;rw [hv];rfl
end
section
variable{t kt et T:ae}{ix x:ag}
variable {P:Program} {N:Nat} {ops:Array Oper} {K:Env->aa->Prop} {rest:List Oper} {e:Env} {w0 w w':aa} {ks:List Ck} {d:Nat} {ty:ae} {pos:String} {af:Array Edge}
variable {κ ν:Type} [DecidableEq κ] {kd:TypeDesc} {kv:κ->ad} {vv:ν->ad}
theorem Ce(hS:St w0 w ks)(hb:Nat.blt d N=true)(hK:∀g w',St w0 w' (iF t g []::ks)->ao P N ops K rest (bj e d (.map (some g))) w'):
 ao P N ops K (⟨some d,.makeMap t none,ty,pos,af,none⟩::rest) e w:=
 .val (w':=w.alloc (.map #[] 0)) (by simp [execOp,run_makeMap]) hb (hK _ _ (hS.My t))
theorem FB{z:ad}{s b:Nat}[hU:bG P t (.map kt et)][hk:bG P kt kd][bJ P et z s b](KT:oV kd kv){g:Nat}{L:List (κ×ν)}{x:κ}(hR:uK w g (gH kv vv L))(ok:Bool):
 (Instr.lookup t (.map (some g)) (kv x) ok).run P w= .ok (if ok then .tuple #[((eB L x).map vv).getD z,.bool (eB L x).isSome]else((eB L x).map vv).getD z) w:=by
 obtain⟨es,cl,hh,hm⟩:=hR;obtain⟨inf,hi,fH,_,_⟩:=bJ.get P et;have hf:=zv (vv:=vv) KT x es.toList L 0 hm;rw [Hj];unfold Instr.lookup;simp only [Sem.run_bind,run_underlying hU.out,Result.andThen,MapKept.run_getObj_map hh,MapKept.run_checkKey hk.out (KT.isKey x)];cases iU:kC L x with
 | none=>
  rw [iU]at hf;have rm:=MapKept.run_findKey (P:=P) (w:=w) hk.out hf;cases ok<;>simp [rm,zeroValue,typeInfo,hi,fH]
 | some p=>
  rw [iU]at hf;have rm:=MapKept.run_findKey (P:=P) (w:=w) hk.out hf;cases ok<;>simp [rm]
theorem Gd{z v:ad}{s b:Nat}[bG P t (.map kt et)][bG P kt kd][bJ P et z s b](KT:oV kd kv){g:Nat}{L:List (κ×ν)}{m:ag}{x:κ}(hR:uK w g (gH kv vv L))(hx:ev e m= .map (some g))(hy:ev e ix=kv x)(hv:((eB L x).map vv).getD z=v)(hb:Nat.blt d N=true)(hK:ao P N ops K rest (bj e d v) w):ao P N ops K (⟨some d,.lookup t m ix false,ty,pos,af,none⟩::rest) e w:=by
 subst hv;refine .val (w':=w) ?_ hb hK;have:=FB (P:=P) (t:=t) (x:=x) KT hR false;simp [execOp,hx,hy,this]
theorem L4{b:Nat}[bG P t (.map kt et)][bG P kt kd][bJ P et (ak 0) 1 b](KT:oV kd kv){g:Nat}{L:List (κ×Int)}{m:ag}(x:κ)(hR:uK w g (gH kv (Value.int .i64) L))(hx:ev e m= .map (some g))(hy:ev e ix=kv x)(hb:Nat.blt d N=true)(hK:ao P N ops K rest (bj e d (.tuple #[ak ((eB L x).getD 0),.bool (eB L x).isSome])) w):ao P N ops K (⟨some d,.lookup t m ix true,ty,pos,af,none⟩::rest) e w:=by
 refine .val (w':=w) ?_ hb hK;have:=FB (P:=P) (t:=t) (x:=x) KT hR true;have e1:((eB L x).map (Value.int .i64)).getD (ak 0)=ak ((eB L x).getD 0):=by cases eB L x<;>rfl
 rw [e1]at this;simp [execOp,hx,hy,this]
theorem Uv[hU:bG P t (.map kt et)][hk:bG P kt kd](KT:oV kd kv){g:Nat}{L:List (κ×ν)}(i:Nat)(x:κ)(u:ν)(hS:St w0 w ks)(hi:ks[i]?=some (iF T g (gH kv vv L))):
 ∃w',(Instr.mapUpdate t (.map (some g)) (kv x) (vv u)).run P w= .ok () w'/\St w0 w' (ks.set i (iF T g (gH kv vv (gy L x u)))):=by
 obtain⟨_,es,cl,hh,hm⟩:=hS.Bu i hi;have hf:=zv (vv:=vv) KT x es.toList L 0 hm;have rm:=MapKept.run_findKey (P:=P) (w:=w) hk.out hf;cases iU:kC L x with
 | none=>
  refine⟨{ w with heap:=w.heap.setIfInBounds g (.map (es.push ⟨kv x,vv u,cl⟩) (cl+1)) },?_,hS.BS hi ?_⟩
  ·simp [Instr.mapUpdate,run_underlying hU.out,MapKept.run_getObj_map hh,MapKept.run_checkKey hk.out (KT.isKey x),rm,iU,MapKept.run_setObj_map _ hh,Result.andThen]
  ·rw [Hk iU];simp only [Array.toList_push,List.map_append,hm,gH]
   rfl
 | some p=>
  obtain⟨j,v⟩:=p;obtain⟨h1,h2⟩:=Hl iU;have je:j<L.length:=(fY.1 h1).1;have PT:es.toList.length=L.length:=by have:=aH List.length hm;simpa [gH]using this
  have hes:es.size=L.length:=by simpa using PT
  have xF:j<es.size:=by omega
  have Qh:es[j].key=kv x:=by
   have:=aH (fun l=>l[j]?) hm;simp [gH,h1,xF]at this;exact this.1
  have ax:=MapKept.run_keyThatStays (P:=P) (w:=w) (KT.isKey x);refine⟨{ w with heap:=w.heap.setIfInBounds g (.map (es.modify j fun e=> { e with key:=kv x,val:=vv u }) cl) },?_,hS.BS hi ?_⟩
  ·simp [Instr.mapUpdate,run_underlying hU.out,MapKept.run_getObj_map hh,MapKept.run_checkKey hk.out (KT.isKey x),rm,iU,MapKept.run_setObj_map _ hh,Result.andThen,xF,Qh,ax]
  ·rw [h2 u];apply List.ext_getElem?;intro q;have hq:=aH (fun l=>l[q]?) hm;simp only [gH,List.getElem?_map,Array.getElem?_toList]at hq;simp only [gH,List.getElem?_map,l0,Array.getElem?_toList,Array.getElem?_modify]
   by_cases e1:j=q
   ·subst e1;simp [xF,je]
   ·rw [aC e1,aC e1];exact hq
def K7:Op->Option (ae×ag×ag×ag)
 | .mapUpdate t m k x=>some (t,m,k,x)
 | .insert t m k x=>some (t,m,k,x)
 | _=>none
theorem Cf{op:Op}{m k:ag}[hU:bG P t (.map kt et)][bG P kt kd](mL:K7 op=some (t,m,k,x))(KT:oV kd kv){g:Nat}{L:List (κ×ν)}(i:Nat){a:κ}{u:ν}(hS:St w0 w ks)(hi:ks[i]?=some (iF T g (gH kv vv L)))(hm:ev e m= .map (some g))(hk:ev e k=kv a)(hx:ev e x=vv u)(hK:∀w',St w0 w' (ks.set i (iF T g (gH kv vv (gy L a u))))->ao P N ops K rest e w'):ao P N ops K (⟨none,op,ty,pos,af,none⟩::rest) e w:=by
 obtain⟨w',po,mE⟩:=Uv (P:=P) (t:=t) KT i a u hS hi;refine .unit (w':=w') ?_ (hK _ mE);cases op<;>simp [K7]at mL<;>obtain⟨rfl,rfl,rfl,rfl⟩:=mL<;>simp [execOp,hm,hk,hx,po]
end
end Go.Proofs.YtagdamiiececaaaGreatDoor.Vc
