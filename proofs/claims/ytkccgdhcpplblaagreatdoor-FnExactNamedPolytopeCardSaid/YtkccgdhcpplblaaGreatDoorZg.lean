/-
 Lemmas. Conditions: as each states them.
-/
import Derived.Test.YtkccgdhcpplblaaGreatDoorZf
import Derived.Lib.ItoaLen
import Derived.Test.YtkccgdhcpplblaaGreatDoorLayd
import Derived.Shelf.Strconv.AppendIntPublic10
set_option maxHeartbeats 8000000
namespace Go.Proofs.YtkccgdhcpplblaaGreatDoor.Vc
open Tryz
section
open Go.RowKit
variable{w w':aa}
def lO(xs:ai):List UInt8:=xs.flatMap fun x=>Lib.itoa x++ [32]
def ju(xs:ai):ByteArray:=⟨(lO xs).toArray⟩
def Ot(l:List UInt8):Nat:=l.foldl (fun a b=>10*a+ (b.toNat - 48)) 0
theorem Jo{d:Nat}(h:d<10):(UInt8.ofNat (48+d)).toNat=48+d:=by
 rw [UInt8.toNat_ofNat'];omega
theorem Ee:∀u:Nat,Ot (Lib.decDigits u)=u/\∀b∈Lib.decDigits u,48<=b.toNat/\b.toNat<=57:=by
 intro u
 induction u using Nat.strongRecOn with
 | ind u ih=>
  rw [Lib.decDigits]
  split
  ·rename_i h;refine⟨?_,fun b hb=>?_⟩
   ·simp only [Ot,List.foldl_cons,List.foldl_nil,Jo h];omega
   ·simp only [gG]at hb;subst hb;rw [Jo h];omega
  ·rename_i h;obtain⟨h1,h2⟩:=ih (u / 10) (by omega);refine⟨?_,fun b hb=>?_⟩
   ·unfold Ot at h1|-;rw [List.foldl_append,h1];simp only [List.foldl_cons,List.foldl_nil,Jo (show u%10<10 by omega)];omega
   ·rcases kj.1 hb with hb | hb
    ·exact h2 b hb
    ·simp only [gG]at hb;subst hb;rw [Jo (by omega)];omega
theorem Qg{u v:Nat}(h:Lib.decDigits u=Lib.decDigits v):u=v:=by rw [<-(Ee u).1,h,(Ee v).1]
theorem TY{x:Int}:∀b∈Lib.itoa x,b≠32:=by
 intro b hb e;subst e;unfold Lib.itoa at hb
 split at hb
 ·rcases iP.1 hb with h | h
  ·exact absurd h (by decide)
  have:=(Ee _).2 _ h;exact absurd this (by decide)
 have:=(Ee _).2 _ hb;exact absurd this (by decide)
theorem aeF{x y:Int}(h:Lib.itoa x=Lib.itoa y):x=y:=by
 have UQ:∀(u v:Nat),45::Lib.decDigits u≠Lib.decDigits v:=fun u v e=>by
  have:=(Ee v).2 45 (by rw [<-e];simp);exact absurd this (by decide)
 unfold Lib.itoa at h
 split at h<;>split at h
 ·simp only [List.cons.injEq,true_and]at h;have:=Qg h;omega
 ·exact absurd h (UQ _ _)
 ·exact absurd h.symm (UQ _ _)
 have:=Qg h;omega
theorem V0:∀ {a b r s:List UInt8},(∀x∈a,x≠32)->(∀x∈b,x≠32)->a++32::r=b++32::s->a=b/\r=s
 | [],[],_,_,_,_,h=>by simpa using h
 | [],y::b,_,_,_,hb,h=>by
  simp only [List.nil_append,List.cons_append,List.cons.injEq]at h;exact absurd h.1.symm (hb y (by simp))
 | x::a,[],_,_,ha,_,h=>by
  simp only [List.nil_append,List.cons_append,List.cons.injEq]at h;exact absurd h.1 (ha x (by simp))
 | x::a,y::b,_,_,ha,hb,h=>by
  simp only [List.cons_append,List.cons.injEq]at h;obtain⟨h1,h2⟩:=V0 (fun z hz=>ha z (by simp [hz])) (fun z hz=>hb z (by simp [hz])) h.2;exact⟨by rw [h.1,h1],h2⟩
theorem Fx(x:Int)(xs:ai):lO (x::xs)=Lib.itoa x++32::lO xs:=by simp [lO]
theorem ae2(xs:ai)(x:Int):lO (xs++ [x])=(lO xs++Lib.itoa x)++ [32]:=by simp [lO]
theorem T3:∀ {xs ys:ai},lO xs=lO ys->xs=ys
 | [],[],_=>rfl
 | [],y::ys,h=>by rw [Fx]at h;simp [lO]at h
 | x::xs,[],h=>by rw [Fx]at h;simp [lO]at h
 | x::xs,y::ys,h=>by
  rw [Fx,Fx]at h;obtain⟨h1,h2⟩:=V0 TY TY h;rw [aeF h1,T3 h2]
theorem IG{xs ys:ai}(h:ju xs=ju ys):xs=ys:=by
 have h1:(lO xs).toArray=(lO ys).toArray:=aF ByteArray.data h;exact T3 (by simpa using h1)
theorem fold_push:∀(l:List UInt8) (s:ByteArray),(l.map fun b=> ((b.toNat:Nat):Int)).foldl (fun r n=>r.push (UInt8.ofNat n.toNat)) s=⟨s.data++l.toArray⟩
 | [],s=>by simp
 | b::l,s=>by
  simp only [List.map_cons,List.foldl_cons];rw [fold_push l];have e:UInt8.ofNat ((b.toNat:Nat):Int).toNat=b:=by simp
  rw [e];have e2:(s.push b).data=s.data.push b:=O;rw [e2]
  congr 1
  apply Array.ext';simp
def kX(w : aa): Prop := Lib.TabIs prog w "internal/strconv.uint64pow10" .u64 Lib.pow10Tab
theorem kX.aq(h:kX w)(hb:Below w.heap.size w w'):kX w':=Lib.tabBelow_of_tabIs h w' hb.toBelow
def vO(B:Nat)(w:aa)(A:aj)(m c:Nat)(l:List UInt8):Prop:=w.ownsRow B 5 1 (.slice A m c) m (Lib.byteCells l)
theorem U0{B m:Nat}{v:ad}{xs:List ad}(h:w.ownsRow B 5 1 v m xs):∃A c,v= .slice A m c:=by
 rcases h.2 with⟨rfl,rfl⟩ | ⟨g,cap,cur,rfl,_⟩
 ·exact⟨_,_,O⟩
 exact⟨_,_,O⟩
theorem vO.aq{B:Nat}{A:aj}{m c:Nat}{l:List UInt8}(h:vO B w A m c l)(hb:Below w.heap.size w w'):vO B w' A m c l:=by
 refine⟨h.1,?_⟩;rcases h.2 with h1 | ⟨g,cap,cur,h1,h2,h3,r⟩
 ·exact .inl h1
 exact .inr ⟨g,cap,cur,h1,h2,by rw [hb.block g (Array.getElem?_eq_some_iff.1 h3).1];exact h3,r⟩
section
variable {N:Nat} {ops:Array Oper} {K:Env->aa->Prop} {rest:List Oper} {e:Env} {w0 w w':aa} {ks:List Ck} {d:Nat} {ty:ae} {pos:String} {af:Array Edge}
theorem W1{B m c:Nat}{A:aj}{l:List UInt8}{A1:aj}{b:UInt8}{x y:ag}(hO:vO B w A m c l)(hB:B<=w.heap.size)(hR:Rd w A1 1 (fun _=> .int .u8 (b.toNat:Nat)))(hx:ev e x= .slice A m c)(hy:ev e y= .slice A1 1 1)(hm:m<=1000000000)(hb:Nat.blt d N=true)
 (hK:∀A2 c2 w',Go.RowKit.Below B w w'->vO B w' A2 (m+1) c2 (l++ [b])->ao prog N ops K rest (br e d (.slice A2 (m+1) c2)) w'):
 ao prog N ops K (⟨some d,.call ⟨.builtin .append, #[x,y], #[30,30]⟩,ty,pos,af,none⟩::rest) e w:=by
 obtain⟨inf,hi,dU,hs,gI⟩:=bq.get prog 5;obtain⟨p,hp,hc⟩:=hR 0 (by omega);obtain⟨a,rfl⟩:∃a,A1=some a:=by cases A1 with | none=>simp [ay]at hp | some q=>exact⟨q,rfl⟩
 simp only [ay,Option.map_some,mJ]at hp;obtain⟨v',w',hr,EF,hg,_⟩:=run_append_own (P:=prog) (w:=w) B 30 ty 5 inf (.int .u8 0) 1 1 underlying30 hi dU hs gI rfl (by decide) (.slice A m c) m (Lib.byteCells l) hO a 1 1 [.int .u8 (b.toNat:Nat)] rfl
  (fun j u hj=>by
    match j,hj with
    | 0,hj=>simp at hj;subst hj;rw [hp];exact hc) (fun u hu=>by simp at hu;subst hu;rfl) (by simp only [maxLen];omega) (by omega) hB
 obtain⟨A2,c2,rfl⟩:=U0 EF;refine .val (w':=w') ?_ hb (hK A2 c2 w' ?_ ?_)
 ·simp [execOp,resolve,invoke,builtin,hx,hy,hr]
 ·exact(Go.RowKit.Below.refl B w).grown hg hB (fun k hk=> (hO.lt k hk).1)
 ·show w'.ownsRow B 5 1 (.slice A2 (m+1) c2) (m+1) (Lib.byteCells (l++ [b]));rw [show Lib.byteCells (l++ [b])=Lib.byteCells l++ [.int .u8 (b.toNat:Nat)] by simp [Lib.byteCells]];exact EF
theorem W7{B m c:Nat}{A:aj}{l:List UInt8}{x:ag}(hO:vO B w A m c l)(hx:ev e x= .slice A m c)(hb:Nat.blt d N=true)(hK:ao prog N ops K rest (br e d (.string ⟨l.toArray⟩)) w):
 ao prog N ops K (⟨some d,.convert 30 9 x,ty,pos,af,none⟩::rest) e w:=by
 have hr:(Conv.bytesToString (.slice A m c)).run prog w= .ok (.string ⟨l.toArray⟩) w:=by
  have hl:(Lib.byteCells l).length=m*1:=hO.1;rcases hO.2 with⟨h1,h2⟩ | ⟨g,cap,cur,h1,_⟩
  ·simp only [Value.slice.injEq]at h1;obtain⟨rfl,rfl,rfl⟩:=h1;have:l=[]:=qA (by rw [Lib.byteCells_length]at hl;omega);subst this
   rfl
  simp only [Value.slice.injEq]at h1;obtain⟨rfl,_,rfl⟩:=h1;have h2:=hO.cells (g:=g) O;have h3:=run_loadCells_list (P:=prog) (w:=w) (⟨g,0,none⟩:Addr) (Lib.byteCells l) h2;rw [hl,Nat.mul_one]at h3;have e1:Lib.byteCells l=(l.map fun b=> ((b.toNat:Nat):Int)).map (Value.int .u8):=by simp [Lib.byteCells]
  rw [e1]at h3;rw [run_bytesToString w _ m c _ h3,fold_push];simp
 refine .val (w':=w) ?_ hb hK;simp [execOp,hx,convert,run_underlying underlying30,run_underlying underlying9,run_underlying underlying5,hr]
end
theorem WD{B m c : Nat}{A : aj}{l : List UInt8}(x : Int)(w : aa)(hx : -9223372036854775808 <= x /\ x <= 9223372036854775807)(hO : vO B w A m c l)(hB : B <= w.heap.size)(hm : m <= 1000000000)(hT : Lib.TabBelow prog B w "internal/strconv.uint64pow10" .u64 Lib.pow10Tab):
 aK prog 206 [.slice A m c,ak x,ak 10] w (fun v w'=>∃A' c',v= .slice A' (m+ (Lib.itoa x).length) c'/\vO B w' A' (m+ (Lib.itoa x).length) c' (l++Lib.itoa x)/\Go.RowKit.Below B w w'):=by
 have key:=Any.strconv_AppendInt_10 lai B m x hx.1 hx.2 (.slice A m c) (Lib.byteCells l) w hO hB (by omega) hT;refine Calls.mono key fun y w' ⟨v',hy,EF,hb,_⟩=> ⟨_,hy,?_⟩
 obtain⟨A2,c2,rfl⟩:=U0 EF;refine⟨A2,c2,O,?_,hb⟩;show w'.ownsRow B 5 1 (.slice A2 _ c2) _ (Lib.byteCells (l++Lib.itoa x));rw [Lib.byteCells_append];exact EF
theorem TZ(x:Int)(hx: -9223372036854775808<=x/\x<=9223372036854775807):(Lib.itoa x).length<=21:=Lib.itoa_length_le x hx.1 hx.2
theorem T4:∀(xs:ai),(∀x∈xs,-9223372036854775808<=x/\x<=9223372036854775807)->(lO xs).length<=22*xs.length
 | [],_=>by simp [lO]
 | x::xs,h=>by
  have h1:=TZ x (h x (by simp));have h2:=T4 xs fun y hy=>h y (by simp [hy])
  rw [Fx];simp only [b8,List.length_cons];omega
theorem Bm(A:aj)(n c:Nat)(xs:ai)(w:aa)(hT:kX w)(hR:cg w A n xs)(hx:∀x∈xs,-9223372036854775808<=x/\x<=9223372036854775807)(hn:n<=1000000):
 aK prog 147 [.slice A n c] w (fun v w'=>v= .string (ju xs)/\St w w' []):=by
 have jH:=hR.1;refine bA func147 O ntmps147 O (df O) ?_;refine bg O (bc O O (aC O ?_));refine Cd.loop (α:=Nat×aj×Nat) (fun s=> [(3,.slice s.2.1 (lO (xs.take s.1)).length s.2.2),(6,.slice A n c),(7,ak n),(8,ak (s.1:Int))]) (fun s w'=>vO w.heap.size w' s.2.1 (lO (xs.take s.1)).length s.2.2 (lO (xs.take s.1))/\Go.RowKit.Below w.heap.size w w'/\s.1<=n) (fun s=>n - s.1) (0,none,0) (amz O) ⟨World.ownsRow_nil w _ _ _,Go.RowKit.Below.refl _ _,aZ _⟩ ?_;rintro⟨i,A3,c3⟩ e w1 ⟨hO,dF,hi⟩;dsimp only at hO dF hi|-;refine bJ O (aM _ O (fun h1=>?_) (fun h1=>?_))
 ·have di:i<xs.length:=by omega
  have ll : cg w1 A n xs := hR.aq ⟨dF, fun s => s.elim⟩;have hT1 : Lib.TabBelow prog w.heap.size w1 "internal/strconv.uint64pow10" .u64 Lib.pow10Tab := (Lib.tabBelow_of_tabIs hT).on dF
  have gv:=hx _ (gi_in di);have AH:=T4 (xs.take i) fun x hm=>hx x (List.mem_of_mem_take hm)
  have qf:=TZ _ gv;rw [na]at AH;have lN:=dF.size;have xG:lO (xs.take (i+1))=(lO (xs.take i)++Lib.itoa (gi xs i))++ [32]:=by rw [tK di,ae2]
  refine aA O (aD ll.2 O (a8 ll O (ar O (aQ (WD (gi xs i) _ gv hO lN (by omega) hT1) O ?_))));rintro _ w2 ⟨A4,c4,rfl,hO2,eM⟩;have hsz2:=eM.size;refine ar O (ao.J5 (St.refl w2) O O O O ?_);intro A5 w3 aR;have hO3:=hO2.aq aR.below;have fR:Go.RowKit.Below w.heap.size w2 w3:=aR.below.toBelow.mono (by omega);have hsz3:=fR.size;refine W1 (b:=32) hO3 (by omega) (aR.rd 0 rfl |>.congr fun j hj=>by obtain rfl:j=0:=by { have:j<1:=hj;omega };rfl) rfl rfl (by omega) rfl ?_;intro A6 c6 w4 og Hy;refine ar O (aH O (aT O (tQ ?_)));refine⟨(i+1,A6,c6),by show n - (i+1)<n - i;omega,⟨?_,O,O,O,au⟩,?_,((dF.trans eM).trans fR).trans og,by show i+1<=n;omega⟩
  ·show Value.slice _ _ _= .slice _ _ _;rw [xG];simp [Nat.add_assoc]
  show vO _ w4 A6 (lO (xs.take (i+1))).length c6 (lO (xs.take (i+1)));rw [xG];have e1:((lO (xs.take i)++Lib.itoa (gi xs i))++ [32]).length=(lO (xs.take i)).length+ (Lib.itoa (gi xs i)).length+1:=by simp;omega
  rw [e1];exact Hy
 have du:i=xs.length:=by omega
 subst du;rw [List.take_length]at hO;refine bn O (bo (cL O ?_));refine W7 hO (by show Value.slice _ _ _= .slice _ _ _;rw [List.take_length]) O ?_;refine bI O (Vz O ?_);exact⟨rfl,⟨⟨dF,fun s=>s.elim⟩,fun k hk=> (by cases hk),List.nodup_nil⟩⟩
end
section
open Go.RowKit Go.MapKept
section
variable {κ ν:Type} [DecidableEq κ]
def iR:List (κ×ν)->κ->List (κ×ν)
 | [],_=> []
 | (y,v)::r,x=>if y=x then r else(y,v)::iR r x
theorem Qj:∀ {L:List (κ×ν)} {x:κ} {j:Nat} {v:ν},kI L x=some (j,v)->iR L x=L.eraseIdx j
 | (y,w)::r,x,j,v,h=>by
  simp only [kI]at h
  split at h
  ·rename_i e;simp only [mJ,Prod.mk.injEq]at h;obtain⟨rfl,rfl⟩:=h;simp only [iR,aB e,List.eraseIdx_zero,List.tail_cons]
  ·rename_i e;cases hf:kI r x with
   | none=>simp [hf]at h
   | some p=>
    simp only [hf,Option.map_some,mJ,Prod.mk.injEq]at h;obtain⟨rfl,rfl⟩:=h;simp only [iR,az e,List.eraseIdx_cons_succ,Qj (L:=r) (x:=x) (j:=p.1) (v:=p.2) hf]
theorem Qh:∀ {L:List (κ×ν)} {x:κ},kI L x=none->iR L x=L
 | [],_,_=>rfl
 | (y,w)::r,x,h=>by
  simp only [kI]at h
  split at h
  ·cases h
  ·rename_i e;rw [Option.map_eq_none_iff]at h;simp only [iR,az e,Qh h]
theorem Kn:∀(L:List (κ×ν)) (x:κ),(iR L x).Sublist L
 | [],_=> .slnil
 | (y,v)::r,x=>by
  simp only [iR]
  split
  ·exact(kU _).cons _
  ·exact(Kn r x).cons_cons _
theorem Rf:∀ {L:List (κ×ν)} {x:κ},x∉L.map (·.1)->dL L x=none
 | [],_,_=>rfl
 | (y,v)::r,x,h=>by
  simp only [List.map_cons,iP,not_or]at h;simp only [dL,az (fun e:y=x=>h.1 e.symm),Rf h.2]
theorem Re:∀ {L:List (κ×ν)} {x y:κ},(L.map (·.1)).Nodup->dL (iR L x) y=if x=y then none else dL L y
 | [],x,y,_=>by simp [iR,dL]
 | (z,v)::r,x,y,h=>by
  simp only [List.map_cons,lU]at h;simp only [iR]
  split
  ·rename_i e;subst e
   split
   ·rename_i e;subst e;exact Rf h.1
   ·rename_i e;simp only [dL,az e]
  ·rename_i e;simp only [dL,Re (L:=r) (x:=x) (y:=y) h.2]
   by_cases e2:z=y
   ·subst e2;rw [aB rfl,az (fun q=>e q.symm),aB rfl]
   ·rw [az e2,az e2]
theorem aie(L:List (κ×ν))(x:κ)(u:ν):∀y,y∈(eO L x u).map (·.1)↔y=x\/y∈L.map (·.1):=by
 induction L with
 | nil=>intro y;simp [eO]
 | cons p r ih=>
  obtain⟨z,w⟩:=p;intro y;simp only [eO]
  split
  ·rename_i e;subst e;simp
  ·simp only [List.map_cons,iP,ih];exact⟨fun h=>by rcases h with h | h | h<;>simp [h],fun h=>by rcases h with h | h | h<;>simp [h]⟩
theorem Vp:∀ {L:List (κ×ν)} {x:κ} {u:ν},(L.map (·.1)).Nodup->((eO L x u).map (·.1)).Nodup
 | [],x,u,_=>by simp [eO]
 | (z,v)::r,x,u,h=>by
  simp only [List.map_cons,lU]at h;simp only [eO]
  split
  ·rename_i e;subst e;simp only [List.map_cons,lU];exact h
  ·rename_i e;simp only [List.map_cons,lU];refine⟨fun hm=>?_,Vp h.2⟩;rcases(aie r x u z).1 hm with h1 | h1
   ·exact e h1
   ·exact h.1 h1
theorem Zn{L:List (κ×ν)}{x:κ}(h:(L.map (·.1)).Nodup):((iR L x).map (·.1)).Nodup:=h.sublist ((Kn L x).map _)
theorem Vt(L:List (κ×ν))(x:κ)(u:ν):(eO L x u).Perm ((x,u)::iR L x):=by
 induction L with
 | nil=>exact .refl _
 | cons p r ih=>
  obtain⟨z,w⟩:=p;simp only [eO,iR]
  split
  ·rename_i e;exact .refl _
  ·exact(ih.cons _).trans (.swap _ _ _)
theorem KM:∀ {L:List (κ×ν)} {x:κ} {u:ν},dL L x=some u->L.Perm ((x,u)::iR L x)
 | (z,w)::r,x,u,h=>by
  simp only [dL]at h;simp only [iR]
  split at h
  ·rename_i e;subst e;injection h with h
   subst h;rw [aB rfl]
  ·rename_i e;rw [az e];exact((KM h).cons _).trans (.swap _ _ _)
theorem Hf:∀ {L:List (κ×ν)} {x:κ},dL L x=none->iR L x=L
 | [],_,_=>rfl
 | (z,w)::r,x,h=>by
  simp only [dL]at h;simp only [iR]
  split at h
  ·cases h
  ·rename_i e;rw [az e,Hf h]
end
section
variable {P:Program} {N:Nat} {ops:Array Oper} {K:Env->aa->Prop} {rest:List Oper} {e:Env} {w0 w w':aa} {ks:List Ck} {d:Nat} {ty:ae} {pos:String} {af:Array Edge}
variable {κ ν:Type} [DecidableEq κ] {kd:TypeDesc} {kv:κ->ad} {vv:ν->ad}
theorem Ku{α β:Type}(f:α->β):∀(l:List α) (j:Nat),(l.eraseIdx j).map f=(l.map f).eraseIdx j
 | [],_=>rfl
 | _::_,0=>rfl
 | a::r,j+1=>by simp only [List.eraseIdx_cons_succ,List.map_cons,Ku f r j]
theorem aiP{t kt et T:ae}[hU:bt P t (.map kt et)][hk:bt P kt kd](KT:sV kd kv){g:Nat}{L:List (κ×ν)}(i:Nat)(x:κ)(IH:ae)(hS:St w0 w ks)(hi:ks[i]?=some (fu T g (dY kv vv L))):
 ∃w',(Builtin.delete_ #[t,IH] ty #[.map (some g),kv x]).run P w= .ok (.tuple #[]) w'/\St w0 w' (ks.set i (fu T g (dY kv vv (iR L x)))):=by
 obtain⟨_,es,cl,hh,hm,ou⟩:=hS.FH i hi;have hf:=G8 (vv:=vv) KT x es.toList L 0 hm;have pw:=MapKept.run_findKey (P:=P) (w:=w) hk.out hf;cases ko:kI L x with
 | none=>
  refine⟨{ w with heap:=w.heap.setIfInBounds g (.map es cl) },?_,hS.DM hi ?_ ou⟩
  ·simp [Builtin.delete_,run_underlying hU.out,MapKept.run_getObj_map hh,MapKept.run_checkKey hk.out (KT.isKey x),pw,ko,MapKept.run_setObj_map _ hh,Result.andThen]
  ·rw [Qh ko];exact hm
 | some p=>
  obtain⟨j,v⟩:=p;refine⟨{ w with heap:=w.heap.setIfInBounds g (.map (es.eraseIdxIfInBounds j) cl) },?_,hS.DM hi ?_ (age ou (by
   unfold Array.eraseIdxIfInBounds
   split
   ·rw [Array.toList_eraseIdx];exact List.eraseIdx_sublist _ _
   ·exact kU _))⟩
  ·simp [Builtin.delete_,run_underlying hU.out,MapKept.run_getObj_map hh,MapKept.run_checkKey hk.out (KT.isKey x),pw,ko,MapKept.run_setObj_map _ hh,Result.andThen]
  ·rw [Qj ko];have e1:(es.eraseIdxIfInBounds j).toList=es.toList.eraseIdx j:=by
    unfold Array.eraseIdxIfInBounds
    split
    ·rw [Array.toList_eraseIdx]
    ·rename_i h;rw [List.eraseIdx_of_length_le (by simpa using h)]
   rw [e1,Ku,hm];unfold dY;rw [Ku]
theorem Xc{t kt et T IH:ae}{m k:ag}[hU:bt P t (.map kt et)][bt P kt kd](KT:sV kd kv){g:Nat}{L:List (κ×ν)}(i:Nat){a:κ}(hS:St w0 w ks)(hi:ks[i]?=some (fu T g (dY kv vv L)))(hm:ev e m= .map (some g))(hk:ev e k=kv a)(hK:∀w',St w0 w' (ks.set i (fu T g (dY kv vv (iR L a))))->ao P N ops K rest e w'):ao P N ops K (⟨none,.call ⟨.builtin .delete, #[m,k], #[t,IH]⟩,ty,pos,af,none⟩::rest) e w:=by
 obtain⟨w',mS,km⟩:=aiP (P:=P) (t:=t) (ty:=ty) KT i a IH hS hi;refine .aj8 (w':=w') (v:= .tuple #[]) ?_ (hK _ km);simp [execOp,resolve,invoke,builtin,hm,hk,mS]
end
section
variable {P:Program} {N:Nat} {ops:Array Oper} {K:Env->aa->Prop} {rest:List Oper} {e:Env} {w0 w w':aa} {ks:List Ck} {d:Nat} {ty:ae} {pos:String} {af:Array Edge}
theorem Xl{κ ν:Type}[DecidableEq κ]{kd:TypeDesc}{kv:κ->ad}{vv:ν->ad}{t kt et:ae}{z v:ad}{s b:Nat}[bt P t (.map kt et)][bt P kt kd][bq P et z s b](KT:sV kd kv){g:Nat}{L:List (κ×ν)}{m ix:ag}{x:κ}(hR:uS w g (dY kv vv L))(hx:ev e m= .map (some g))(hy:ev e ix=kv x)(hv:((dL L x).map vv).getD z=v)(hb:Nat.blt d N=true)(hK:ao P N ops K rest (br e d (.tuple #[v,.bool (dL L x).isSome])) w):ao P N ops K (⟨some d,.lookup t m ix true,ty,pos,af,none⟩::rest) e w:=by
 subst hv;refine .val (w':=w) ?_ hb hK;have:=Oa (P:=P) (t:=t) (x:=x) KT hR true;simp [execOp,hx,hy,this]
end
def xO(l:ai):ad:= .string (ju l)
theorem Dp:sV .string xO:=⟨fun _=>au,fun a b h=>IG (by injection h)⟩
abbrev ni:=ai×aO×ai
def Dv(u:aO×ai):ad:=u.1.v
def pI(t:ae)(M:List ni):List Ck:=M.map fun p=>ax t p.2.1.a p.2.1.n p.2.1.c p.2.2
def jd(M:List ni)(x:ai):aO:=((dL M x).map (·.1)).getD dO
def jF(M:List ni)(x:ai):ai:=((dL M x).map (·.2)).getD []
section
variable {w0 w w':aa} {ks pre:List Ck} {t:ae} {M:List ni} {x:ai}
theorem KR{u:aO×ai}(h:dL M x=some u):jd M x=u.1/\jF M x=u.2:=by simp [jd,jF,h]
theorem Ri(h:dL M x=none):jd M x=dO/\jF M x=[]:=by simp [jd,jF,h]
theorem St.Wa(h:St w0 w (pre++ (pI t M++ks))):St w0 w (ax t (jd M x).a (jd M x).n (jd M x).c (jF M x)::(pre++ (pI t (iR M x)++ks))):=by
 cases hg:dL M x with
 | none=>
  rw [(Ri hg).1,(Ri hg).2,Hf hg];exact h.nil t
 | some u=>
  rw [(KR hg).1,(KR hg).2];refine h.perm ?_;have h1:(pI t M).Perm (ax t u.1.a u.1.n u.1.c u.2::pI t (iR M x)):=(KM hg).map _;exact((h1.append_right ks).append_left pre).trans qD
theorem O7{u:aO×ai}(h:St w0 w (ax t u.1.a u.1.n u.1.c u.2::(pre++ (pI t (iR M x)++ks)))):St w0 w (pre++ (pI t (eO M x u)++ks)):=by
 refine h.perm ?_;have h1:(ax t u.1.a u.1.n u.1.c u.2::pI t (iR M x)).Perm (pI t (eO M x u)):=((Vt M x u).map fun p:ni=>ax t p.2.1.a p.2.1.n p.2.1.c p.2.2).symm;exact qD.symm.trans ((h1.append_right ks).append_left pre)
theorem JM(h:St w0 w (pre++ (pI t M++ks))):cg w (jd M x).a (jd M x).n (jF M x):=(h.Wa (x:=x)).bz 0 rfl
theorem XD(h:St w0 w (pre++ (pI t M++ks))):St w0 w (pre++ (pI t (iR M x)++ks)):=h.sub (((((Kn M x).map _).append_right ks)).append_left pre)
end
end
section
variable{N b i k y j:Nat}{L L' L0 R x l:ai}{fl B:ah}{S:Nat->Prop}{Q:List Nat}
structure Ca(N:Nat)(K:Nat->Nat->Prop):Prop where
 sym:∀a b,K a b->K b a
 yc:∀a b c,K a b->K b c->K a c
 gO:∀a b,K a b->a<N/\b<N
def kh(N:Nat)(K:Nat->Nat->Prop)(f:Nat)(L:ai):Prop:=
 L.length=N/\∀x:Nat,x<N->(0<=gi L x->∃r:Nat,gi L x=r/\r<f/\K r x/\∀c,K c x->r<=c)/\(gi L x<0->gi L x= -1/\∀c,c<f->¬K c x)
theorem kh.zero(N:Nat)(K:Nat->Nat->Prop):kh N K 0 (List.replicate N (-1)):=
 ⟨by simp,fun x hx=>by
  rw [yy (by omega) (by omega)];exact⟨fun h=>absurd h (by omega),fun _=> ⟨O,fun c hc=>absurd hc (by omega)⟩⟩⟩
theorem kh.skip{K:Nat->Nat->Prop}(hK:Ca N K){f:Nat}(h:kh N K f L)(hf:f<N)(h0:0<=gi L f\/¬K f f):kh N K (f+1) L:=by
 refine⟨h.1,fun x hx=> ⟨fun h1=>?_,fun h1=>?_⟩⟩
 ·obtain⟨r,h2,h3,h4⟩:=(h.2 x hx).1 h1;exact⟨r,h2,by omega,h4⟩
 obtain⟨h2,h3⟩:=(h.2 x hx).2 h1;refine⟨h2,fun c hc hk=>?_⟩
 by_cases e:c=f
 ·subst e;rcases h0 with h0 | h0
  ·obtain⟨r,h4,h5,h6,_⟩:=(h.2 c hf).1 h0;exact h3 r h5 (hK.yc _ _ _ h6 hk)
  exact h0 (hK.yc _ _ _ hk (hK.sym _ _ hk))
 exact h3 c (by omega) hk
theorem kh.pF{K:Nat->Nat->Prop}(hK:Ca N K){f:Nat}(h:kh N K f L)(hf:f<N)(h0:gi L f<0)(hl:L'.length=N)(hp:∀x:Nat,x<N->(K f x->gi L' x=f)/\(¬K f x->gi L' x=gi L x)):kh N K (f+1) L':=by
 refine⟨hl,fun x hx=>?_⟩;have h9:=(h.2 f hf).2 h0
 by_cases hk:K f x
 ·rw [(hp x hx).1 hk];refine⟨fun _=> ⟨f,O,by omega,hk,fun c hc=>?_⟩,fun h=>absurd h (by omega)⟩;refine Nat.le_of_not_lt fun fW=>h9.2 c fW (hK.yc _ _ _ hc (hK.sym _ _ hk))
 rw [(hp x hx).2 hk];refine⟨fun h1=>?_,fun h1=>?_⟩
 ·obtain⟨r,h2,h3,h4⟩:=(h.2 x hx).1 h1;exact⟨r,h2,by omega,h4⟩
 obtain⟨h2,h3⟩:=(h.2 x hx).2 h1;refine⟨h2,fun c hc kq=>?_⟩
 by_cases e:c=f
 ·subst e;exact hk kq
 exact h3 c (by omega) kq
theorem kh.done{K:Nat->Nat->Prop}(hK:Ca N K)(h:kh N K N L){a:Nat}(ha:K a a)(hb:K b b):gi L a=gi L b↔K a b:=by
 have get:∀x,K x x->∃r:Nat,gi L x=r/\K r x/\∀c,K c x->r<=c:=fun x hx=>by
  have ML:=(hK.gO _ _ hx).1;rcases Int.lt_or_le (gi L x) 0 with h1 | h1
  ·exact absurd hx (((h.2 x ML).2 h1).2 x ML)
  obtain⟨r,h2,_,h4,h5⟩:=(h.2 x ML).1 h1;exact⟨r,h2,h4,h5⟩
 obtain⟨r,h1,h2,h3⟩:=get a ha;obtain⟨s,h4,h5,h6⟩:=get b hb;rw [h1,h4];constructor
 ·intro e;obtain rfl:r=s:=by omega
  exact hK.yc _ _ _ (hK.sym _ _ h2) h5
 intro hk;have h7:=h3 s (hK.yc _ _ _ h5 (hK.sym _ _ hk));have h8:=h6 r (hK.yc _ _ _ h2 hk);omega
def mZ(n:Nat)(fl:ah)(i a b:Nat):Prop:=a<fl.length/\b<fl.length/\∀k:Nat,k<n->k≠i->gi (gl fl a) k=gi (gl fl b) k
theorem mZ.symm{n:Nat}{a:Nat}(h:mZ n fl i a b):mZ n fl i b a:=⟨h.2.1,h.1,fun k hk bU=> (h.2.2 k hk bU).symm⟩
inductive jm(n:Nat)(fl:ah)(S:Nat->Prop)(a:Nat):Nat->Prop where
 | refl:a<fl.length->jm n fl S a a
 | step {b c i:Nat}:jm n fl S a b->i<n->¬S i->mZ n fl i b c->jm n fl S a c
theorem jm.trans{n:Nat}{a c:Nat}(h:jm n fl S a b)(h':jm n fl S b c):jm n fl S a c:=by
 induction h' with
 | refl=>exact h
 | step _ hi hs ha ih=>exact .step ih hi hs ha
theorem jm.gO{n:Nat}{a:Nat}(h:jm n fl S a b):a<fl.length/\b<fl.length:=by
 induction h with
 | refl h=>exact⟨h,h⟩
 | step _ _ _ ha ih=>exact⟨ih.1,ha.2.1⟩
theorem jm.symm{n:Nat}{a:Nat}(h:jm n fl S a b):jm n fl S b a:=by
 induction h with
 | refl h=>exact .refl h
 | step h hi hs ha ih=>exact(jm.step (.refl ha.2.1) hi hs ha.symm).trans ih
theorem jm.keep{n:Nat}{a:Nat}(h:jm n fl S a b):∀k:Nat,k<n->S k->gi (gl fl b) k=gi (gl fl a) k:=by
 induction h with
 | refl h=>exact fun _ _ _=>rfl
 | step h hi hs ha ih=>
  intro k hk hS;rw [<-ha.2.2 k hk (fun e=>hs (e▸hS)),ih k hk hS]
def zH(n:Nat)(fl:ah):Prop:=∀a b:Nat,a<b->b<fl.length->jm n fl (fun k=>gi (gl fl a) k=gi (gl fl b) k) a b
structure pN(N:Nat)(K A:Nat->Nat->Prop)(f:Nat)(L0 L:ai)(Q:List Nat)(k:Nat):Prop where
 len:L.length=N
 Bk:∀x∈Q,x<N/\gi L0 x<0/\K f x
 bw:∀x:Nat,x<N->gi L x=if x∈Q then(f:Int)else gi L0 x
 root:f∈Q
 MY:k<=Q.length
 done:∀p,p<k->∀y,A (Q.getD p 0) y->0<=gi L y
 nd:Q.Nodup
theorem pN.meet{K A:Nat->Nat->Prop}{f:Nat}(h:pN N K A f L0 L Q k)(hy:y<N)(hl:gi L y<0)(hk:K f y):pN N K A f L0 (L.set y (f:Int)) (Q++ [y]) k:=by
 have TL:y∉Q:=fun hm=>by
  have:=h.bw y hy;rw [aB hm]at this;omega
 have e:∀x:Nat,x<N->gi (L.set y (f:Int)) x=if x=y then(f:Int)else gi L x:=fun x hx=>by
  have:=r7 (S:=L) (x:=(y:Int)) (y:=(x:Int)) (b:=(f:Int)) (by omega) (by rw [h.len];omega) (by omega);rw [jc]at this;rw [this]
  by_cases e:x=y
  ·subst e;simp
  rw [az e,az (by omega)]
 have vj:gi L0 y<0:=by
  have:=h.bw y hy;rw [az TL]at this;omega
 refine⟨by rw [lT];exact h.len,fun x hx=>?_,fun x hx=>?_,List.mem_append_left _ h.root,by rw [b8];have:=h.MY;omega,fun p hp z hz=>?_,List.nodup_append.2 ⟨h.nd,by simp,fun a ha b hb e=>TL (by rw [<-gG.1 hb,<-e];exact ha)⟩⟩
 ·rcases kj.1 hx with hx | hx
  ·exact h.Bk x hx
  obtain rfl:=gG.1 hx;exact⟨hy,vj,hk⟩
 ·rw [e x hx]
  by_cases ex:x=y
  ·subst ex;simp
  rw [az ex,h.bw x hx];simp [ex]
 have hk:=h.MY;rw [da,lz (by omega),<-da]at hz;have h2:=h.done p hp z hz
 by_cases hzN:z<N
 ·rw [e z hzN]
  split<;>omega
 have:gi L z=gi (L.set y (f:Int)) z:=by
  simp [gi,da,mh (show L.length<=z by rw [h.len];omega),mh (show(L.set y (f:Int)).length<=z by rw [lT,h.len];omega)]
 omega
theorem pN.next{K A:Nat->Nat->Prop}{f:Nat}(h:pN N K A f L0 L Q k)(hk:k<Q.length)(hd:∀y,A (Q.getD k 0) y->0<=gi L y):pN N K A f L0 L Q (k+1):=
 ⟨h.len,h.Bk,h.bw,h.root,hk,fun p hp y hy=>by
  by_cases e:p=k
  ·subst e;exact hd y hy
  exact h.done p (by omega) y hy,h.nd⟩
theorem pN.NU{K A:Nat->Nat->Prop}{f:Nat}(h:pN N K A f L0 L Q k):Q.length<=N:=Nx N Q h.nd fun x hx=> (h.Bk x hx).1
theorem pN.start{K A:Nat->Nat->Prop}{f:Nat}(hl:L0.length=N)(hf:f<N)(h0:gi L0 f<0)(hk:K f f):pN N K A f L0 (L0.set f (f:Int)) [f] 0:=by
 refine⟨by simp [hl],fun x hx=>?_,fun x hx=>?_,by simp,aZ _,fun p hp=>absurd hp (by omega),by simp⟩
 ·obtain rfl:=gG.1 hx;exact⟨hf,h0,hk⟩
 have:=r7 (S:=L0) (x:=(f:Int)) (y:=(x:Int)) (b:=(f:Int)) (by omega) (by rw [hl];omega) (by omega);rw [jc]at this;rw [this]
 by_cases e:x=f
 ·subst e;simp
 rw [az (by omega),az (by simpa using e)]
theorem pN.end_{K A:Nat->Nat->Prop}(hK:Ca N K){f:Nat}(h:pN N K A f L0 L Q Q.length)(hL:kh N K f L0)(hf:f<N)(h0:gi L0 f<0)(hA:∀S:Nat->Prop,S f->(∀x y,S x->K f x->A x y->S y)->∀x,K f x->S x)(hAK:∀x y,A x y->K x y):kh N K (f+1) L:=by
 have hQ:∀x,K f x->x∈Q:=hA (fun x=>x∈Q) h.root fun x y hx oS ha=>by
  obtain⟨p,hp,e⟩:=gF.1 hx;have e2:Q.getD p 0=x:=by rw [da,fZ hp];exact e
  have h1:=h.done p hp y (by rw [e2];exact ha);have hk:=hAK x y ha;have Bj:=(hK.gO _ _ hk).2;refine qy fun hn=>?_
  have h2:=h.bw y Bj;rw [az hn]at h2;obtain⟨r,_,h3,h4,_⟩:=(hL.2 y Bj).1 (by omega);exact((hL.2 f hf).2 h0).2 r h3 (hK.yc _ _ _ (hK.yc _ _ _ h4 (hK.sym _ _ hk)) (hK.sym _ _ oS))
 refine hL.pF hK hf h0 h.len fun x hx=> ⟨fun hk=>?_,fun hk=>?_⟩
 ·rw [h.bw x hx,aB (hQ x hk)]
 rw [h.bw x hx,az fun hm=>hk (h.Bk x hm).2.2]
theorem oc{n:Nat}(hn:1<=n){a:Nat}(ha:a< (aG n R B).length):(gl (aG n R B) a).length=n/\(∀i:Nat,i<n->(0<=gi (gl (aG n R B) a) i/\gi (gl (aG n R B) a) i<R.length)/\gi R (gi (gl (aG n R B) a) i)=i)/\∀i:Nat,i+1<n->gi (gl (aG n R B) a) i∈gl B (gi (gl (aG n R B) a) ((i+1:Nat):Int)):=(pS hn).1 (by rw [b7 ha];exact dQ _)
theorem wv{n:Nat}{y:ai}(hx:x.length=n)(hy:y.length=n)(h:∀i:Nat,i<n->gi x i=gi y i):x=y:=
 ki (by omega) fun i h1 h2=>by
  have:=h i (by omega)
  rwa [b9 h1,b9 h2]at this
theorem yx{n:Nat}{a:Nat}(ha:a< (aG n R B).length)(hb:b< (aG n R B).length)(h:gl (aG n R B) a=gl (aG n R B) b):a=b:=by
 rw [b7 ha,b7 hb]at h;exact(List.getElem_inj (G9 n R B).nodup).1 h
theorem ZX{n:Nat}(hP:gr n R B)(hD:uN n R B){a:Nat}(ha:a< (aG n R B).length)(hi:i<n):∃b:Nat,b≠a/\∀c:Nat,(mZ n (aG n R B) i a c/\c≠a)↔c=b:=by
 have hn:1<=n:=by have:=hP.n1;omega
 obtain⟨hl,hr,hc⟩:=oc hn ha;generalize hx:gl (aG n R B) a=x at hl hr hc;have eZ:yi R i (if i=0 then -1 else gi x ((i - 1:Nat):Int)):=by
  by_cases e:i=0
  ·rw [aB e];exact .inl ⟨rfl,by omega⟩
  rw [az e];have:=hr (i - 1) (by omega);exact .inr ⟨this.1,by omega,by rw [this.2];omega⟩
 have dt:yh n R i (if i=n - 1 then -1 else gi x ((i+1:Nat):Int)):=by
  by_cases e:i=n - 1
  ·rw [aB e];exact .inl ⟨rfl,by omega⟩
  rw [az e];have:=hr (i+1) (by omega);exact .inr ⟨this.1,by omega,by rw [this.2];omega⟩
 have Md:0<=(if i=0 then -1 else gi x ((i - 1:Nat):Int))->0<=(if i=n - 1 then -1 else gi x ((i+1:Nat):Int))->(if i=0 then -1 else gi x ((i - 1:Nat):Int))∈gl B (if i=n - 1 then -1 else gi x ((i+1:Nat):Int)):=fun h1 h2=>by
  by_cases e:i=0
  ·rw [aB e]at h1;omega
  by_cases e2:i=n - 1
  ·rw [aB e2]at h2;omega
  rw [az e,az e2];have AK:=hc (i - 1) (by omega);have tt:=hc i (by omega);rw [show i - 1+1=i by omega]at AK;have qV:=hr (i+1) (by omega);exact(hP.at_ qV.1.1 qV.1.2).2.2 _ tt _ AK
 have h2:=hD (i:Int) _ _ (by omega) (by omega) eZ dt Md;have Fi:∀d:Int,d∈nh R B i (if i=0 then -1 else gi x ((i - 1:Nat):Int)) (if i=n - 1 then -1 else gi x ((i+1:Nat):Int))↔x.set i d∈aG n R B:=fun d=>by
  rw [zM,pS hn];have gs:∀k:Nat,gi (x.set i d) k=if k=i then d else gi x k:=fun k=>by
   have:=r7 (S:=x) (x:=(i:Int)) (y:=(k:Int)) (b:=d) (by omega) (by omega) (by omega);rw [jc]at this;rw [this]
   by_cases e:k=i
   ·subst e;simp
   rw [az e,az (by omega)]
  constructor
  ·rintro⟨hd,rd,u,v⟩;refine⟨by rw [lT];exact hl,fun k hk=>?_,fun k hk=>?_⟩
   ·rw [gs k]
    by_cases e:k=i
    ·rw [aB e,e];exact⟨hd,rd⟩
    rw [az e];exact hr k hk
   rw [gs k,gs (k+1)]
   by_cases e:k=i
   ·rw [aB e,az (by omega)];rw [az (by omega)]at v;have:=hr (i+1) (by omega);rw [e];exact v.resolve_left (by omega)
   rw [az e]
   by_cases e2:k+1=i
   ·rw [aB e2];rw [az (by omega),show i - 1=k by omega]at u;have:=hr k (by omega);exact u.resolve_left (by omega)
   rw [az e2];exact hc k hk
  rintro⟨_,h3,h4⟩;have h5:=h3 i hi;rw [gs i,aB rfl]at h5;refine⟨h5.1,h5.2,?_,?_⟩
  ·by_cases e:i=0
   ·left;rw [aB e];omega
   right;rw [az e];have h6:=h4 (i - 1) (by omega);rw [gs (i - 1),show i - 1+1=i by omega,gs i,az (show ¬i - 1=i by omega),aB rfl]at h6;exact h6
  by_cases e:i=n - 1
  ·left;rw [aB e];omega
  right;rw [az e];have h6:=h4 i (by omega);rw [gs i,gs (i+1),aB rfl,az (by omega)]at h6;exact h6
 obtain⟨p,q,uo,hm⟩:=Wm (D0 _ _ _ _ _) h2;have It:gi x i=p\/gi x i=q:=(hm _).1 ((Fi _).2 (by
  have e:x.set i (gi x i)=x:=by
   rw [b9 (by omega)];exact List.set_getElem_self _
  rw [e,<-hx,b7 ha];exact dQ _))
 obtain⟨d,hd,Sg⟩:∃d,d≠gi x i/\∀c,(c=p\/c=q)↔(c=gi x i\/c=d):=by
  rcases It with h | h
  ·exact⟨q,fun e=>uo (by rw [<-h,e]),fun c=>by rw [h]⟩
  exact⟨p,fun e=>uo (by rw [<-h,e]),fun c=>by rw [h];exact or_comm⟩
 have qa:x.set i d∈aG n R B:=(Fi d).1 ((hm d).2 ((Sg d).2 (.inr O)));obtain⟨b,hb,eb⟩:=gF.1 qa;have GX:gl (aG n R B) b=x.set i d:=by rw [b7 hb];exact eb
 have KV:∀(d:Int) (k:Nat),gi (x.set i d) k=if k=i then d else gi x k:=fun d k=>by
  have:=r7 (S:=x) (x:=(i:Int)) (y:=(k:Int)) (b:=d) (by omega) (by omega) (by omega);rw [jc]at this;rw [this]
  by_cases e:k=i
  ·subst e;simp
  rw [az e,az (by omega)]
 have qR:b≠a:=fun e=>by
  subst e;rw [hx]at GX;have:=KV d i;rw [<-GX,aB rfl]at this;exact hd this.symm
 refine⟨b,qR,fun c=> ⟨fun⟨⟨_,dh,oL⟩,hca⟩=>?_,?_⟩⟩
 ·
  rw [hx]at oL;obtain⟨qg,qV,oN⟩:=oc hn dh;have ec:gl (aG n R B) c=x.set i (gi (gl (aG n R B) c) i):=wv qg (by rw [lT];exact hl) fun k hk=>by
   rw [KV]
   by_cases e:k=i
   ·rw [aB e,e]
   rw [az e];exact(oL k hk e).symm
  have pq:x.set i (gi (gl (aG n R B) c) i)∈aG n R B:=by rw [<-ec,b7 dh];exact dQ _
  rcases(Sg _).1 ((hm _).1 ((Fi _).2 pq))with h | h
  ·exfalso;refine hca (yx dh ha ?_);rw [ec,h,hx,b9 (by omega)];exact List.set_getElem_self _
  rw [h]at ec;exact yx dh hb (ec.trans GX.symm)
 rintro rfl;exact⟨⟨ha,hb,fun k hk bU=>by rw [GX,hx,KV,az bU]⟩,qR⟩
open Classical in
noncomputable def Bs(n:Nat)(fl:ah)(i:Nat)(a:Nat):ai:=((List.range fl.length).filter fun b=>decide (mZ n fl i a b/\b≠a)).map fun b:Nat=> (b:Int)
noncomputable def vw(n:Nat)(fl:ah)(i:Nat):ai:=(List.range fl.length).flatMap (Bs n fl i)
noncomputable def bV(n:Nat)(fl:ah):ah:=(List.range n).map (vw n fl)
def jX(n:Nat)(fl:ah):Prop:=∀a i:Nat,a<fl.length->i<n->∃b:Nat,b≠a/\∀c:Nat,(mZ n fl i a c/\c≠a)↔c=b
open Classical in
theorem agX{n:Nat}{a:Nat}(h:∀c:Nat,(mZ n fl i a c/\c≠a)↔c=b):Bs n fl i a=[(b:Int)]:=by
 have hb:=((h b).2 O).1.2.1;have key:∀p:Nat->Bool,(∀c,p c=true↔c=b)->((List.range fl.length).filter p)=[b]:=fun p hp=>by
  refine List.Perm.eq_singleton ((vJ (List.nodup_range.filter _) (by simp)).2 fun c=>?_);rw [gg,il,hp c,gG];exact⟨fun h=>h.2,fun h=> ⟨by rw [h];exact hb,h⟩⟩
 unfold Bs;exact aF (List.map fun b:Nat=> (b:Int)) (key _ fun c=>decide_eq_true_iff.trans (h c))
open Classical in
noncomputable def e6(n:Nat)(fl:ah)(i a:Nat):Nat:=if h:∃b:Nat,b≠a/\∀c:Nat,(mZ n fl i a c/\c≠a)↔c=b then h.choose else 0
theorem jX.pt{n:Nat}(h:jX n fl){a:Nat}(ha:a<fl.length)(hi:i<n):e6 n fl i a≠a/\∀c:Nat,(mZ n fl i a c/\c≠a)↔c=e6 n fl i a:=by
 have he:=h a i ha hi;unfold e6;rw [dif_pos he];exact he.choose_spec
theorem jX.lt{n:Nat}(h:jX n fl){a:Nat}(ha:a<fl.length)(hi:i<n):e6 n fl i a<fl.length:=(((h.pt ha hi).2 _).2 rfl).1.2.1
theorem jX.pp{n:Nat}(h:jX n fl){a:Nat}(ha:a<fl.length)(hi:i<n):e6 n fl i (e6 n fl i a)=a:=by
 have h1:=((h.pt ha hi).2 _).2 O;exact(((h.pt (h.lt ha hi) hi).2 a).1 ⟨h1.1.symm,fun e=> (h.pt ha hi).1 e.symm⟩).symm
theorem UH{n:Nat}(h:jX n fl)(hi:i<n):vw n fl i=(List.range fl.length).map fun a=> (e6 n fl i a:Int):=by
 unfold vw;have e:∀l:List Nat,(∀a∈l,a<fl.length)->l.flatMap (Bs n fl i)=l.map fun a=> (e6 n fl i a:Int):=by
  intro l
  induction l with
  | nil=>intro _;rfl
  | cons a r ih=>
   intro hl;rw [List.flatMap_cons,List.map_cons,ih fun b hb=>hl b (qC _ hb),agX (h.pt (hl a (by simp)) hi).2];rfl
 exact e _ fun a ha=>il.1 ha
theorem CG{n:Nat}(hP:gr n R B)(hD:uN n R B):jX n (aG n R B):=fun _ _ ha hi=>ZX hP hD ha hi
def JI(n:Nat)(R:ai)(B:ah):Prop:=∀e:Int,0<=e->e<R.length->∃x∈aG n R B,e∈x
def zP(n:Nat)(R:ai)(B:ah):Prop:=aG n R B≠[]/\JI n R B/\uN n R B/\zH n (aG n R B)
def nZ(a b:ai):ai:=(List.range a.length).map fun k:Nat=>if gi a k=gi b k then gi a k else -1
theorem Cw(a b:ai):(nZ a b).length=a.length:=by simp [nZ]
theorem Cv{a b:ai}(h:k<a.length):gi (nZ a b) k=if gi a k=gi b k then gi a k else -1:=by
 rw [b9 (by rw [Cw];exact h)];simp [nZ]
def jK(n:Nat)(c x:ai):Prop:=∀k:Nat,k<n->gi c k≠ -1->gi c k=gi x k
instance (n:Nat)(c x:ai):Decidable (jK n c x):=by unfold jK;infer_instance
def jC(n:Nat)(fl:ah)(c:ai)(a b:Nat):Prop:=jK n c (gl fl a)/\jm n fl (fun k=>gi c k≠ -1) a b
theorem jK.of{n:Nat}{c:ai}{a:Nat}(h:jK n c (gl fl a))(h':jm n fl (fun k=>gi c k≠ -1) a b):jK n c (gl fl b):=fun k hk bU=>by
 rw [h'.keep k hk bU];exact h k hk bU
theorem DZ(n:Nat)(fl:ah)(c:ai):Ca fl.length (jC n fl c):=
 ⟨fun _ _ h=> ⟨h.1.of h.2,h.2.symm⟩,fun _ _ _ h h'=> ⟨h.1,h.2.trans h'.2⟩,fun _ _ h=>h.2.gO⟩
theorem YK{n:Nat}(hl:∀x∈fl,x.length=n/\∀e∈x,0<=e){a:Nat}(ha:a<fl.length)(hb:b<fl.length):
 jC n fl (nZ (gl fl a) (gl fl b)) a a/\jC n fl (nZ (gl fl a) (gl fl b)) b b/\(jC n fl (nZ (gl fl a) (gl fl b)) a b↔jm n fl (fun k=>gi (gl fl a) k=gi (gl fl b) k) a b):=by
 have hxa:=hl _ (by rw [b7 ha];exact dQ _:gl fl a∈fl);have bU:∀k:Nat,k<n->(gi (nZ (gl fl a) (gl fl b)) k≠ -1↔gi (gl fl a) k=gi (gl fl b) k):=fun k hk=>by
  rw [Cv (by omega)];have:=hxa.2 _ (gi_in (show k< (gl fl a).length by omega))
  split
  ·exact⟨fun _=>by assumption,fun _=>by omega⟩
  ·rename_i h;exact⟨fun h'=>absurd rfl h',fun h'=>absurd h' h⟩
 have h1:jK n (nZ (gl fl a) (gl fl b)) (gl fl a):=fun k hk h=>by
  have:=(bU k hk).1 h;rw [Cv (by omega),aB this]
 have h2:jK n (nZ (gl fl a) (gl fl b)) (gl fl b):=fun k hk h=>by
  have:=(bU k hk).1 h;rw [Cv (by omega),aB this,this]
 have cv:∀ {S S':Nat->Prop},(∀k,k<n->(S k↔S' k))->∀ {u v},jm n fl S u v->jm n fl S' u v:=fun {S S'} hS {u v} h=>by
  induction h with
  | refl h=>exact .refl h
  | step _ hi hs had ih=>exact .step ih hi (fun h=>hs ((hS _ hi).2 h)) had
 exact⟨⟨h1,.refl ha⟩,⟨h2,.refl hb⟩,fun h=>cv bU h.2,fun h=> ⟨h1,cv (fun k hk=> (bU k hk).symm) h⟩⟩
def yg(n:Nat)(fl:ah)(c:ai)(x y:Nat):Prop:=jK n c (gl fl x)/\jK n c (gl fl y)/\∃i,i<n/\mZ n fl i x y
theorem QZ{n:Nat}(hn:fl.Nodup)(hl:∀x∈fl,x.length=n){x:Nat}(hx:x<fl.length)(hy:y<fl.length)(h:∀k:Nat,k<n->gi (gl fl x) k=gi (gl fl y) k):x=y:=by
 have e:gl fl x=gl fl y:=wv (hl _ (by rw [b7 hx];exact dQ _)) (hl _ (by rw [b7 hy];exact dQ _)) h;rw [b7 hx,b7 hy]at e;exact(List.getElem_inj hn).1 e
theorem yg.link{n:Nat}(hn:fl.Nodup)(hl:∀x∈fl,x.length=n){c:ai}{x:Nat}(h:yg n fl c x y):jC n fl c x y:=by
 obtain⟨h1,h2,i,hi,ha⟩:=h;refine⟨h1,?_⟩
 by_cases hc:gi c i≠ -1
 ·have:x=y:=QZ hn hl ha.1 ha.2.1 fun k hk=>by
   by_cases e:k=i
   ·subst e;rw [<-h1 k hk hc,h2 k hk hc]
   exact ha.2.2 k hk e
  subst this;exact .refl ha.1
 exact .step (.refl ha.1) hi hc ha
theorem WV{n:Nat}{c:ai}{f:Nat}(S:Nat->Prop)(hf:S f)(hs:∀x y,S x->jC n fl c f x->yg n fl c x y->S y):∀x,jC n fl c f x->S x:=fun x h=>by
 obtain⟨h1,h2⟩:=h
 induction h2 with
 | refl _=>exact hf
 | step h hi hS ha ih=>exact hs _ _ ih ⟨h1,h⟩ ⟨h1.of h,h1.of (.step h hi hS ha),_,hi,ha⟩
def iK(x:ai)(i:Nat):ai:=x.set i (-1)
theorem N9(x:ai)(i:Nat):(iK x i).length=x.length:=by simp [iK]
theorem DH(hk:k<x.length):gi (iK x i) k=if k=i then -1 else gi x k:=by
 rw [b9 (by rw [N9];exact hk),b9 hk];unfold iK;rw [List.getElem_set]
 by_cases e:i=k
 ·rw [aB e,aB e.symm]
 rw [az e,az (fun h=>e h.symm)]
theorem Jh{n:Nat}{y:ai}(hx:x.length=n)(hy:y.length=n):iK x i=iK y i↔∀k:Nat,k<n->k≠i->gi x k=gi y k:=by
 constructor
 ·intro h k hk bU;have:=aF (fun l=>gi l k) h;simp only [DH (x:=x) (i:=i) (show k<x.length by omega),DH (x:=y) (i:=i) (show k<y.length by omega),az bU]at this;exact this
 intro h;refine wv (n:=n) (by rw [N9,hx]) (by rw [N9,hy]) fun k hk=>?_
 rw [DH (by omega),DH (by omega)]
 split
 ·rfl
 rename_i e;exact h k hk e
theorem aiJ{n:Nat}{y:ai}(hx:x.length=n)(hy:y.length=n)(hi:i<n)(h0:∀e∈y,0<=e)(h:iK x i=iK y j):i=j:=by
 have:=aF (fun l=>gi l i) h;simp only [DH (x:=x) (i:=i) (show i<x.length by omega),DH (x:=y) (i:=j) (show i<y.length by omega),aB]at this
 by_cases e:i=j
 ·exact e
 rw [az e]at this;have h2:=h0 _ (gi_in (show i<y.length by omega));omega
theorem KQ(M:List ni)(x l:ai)(u:aO×ai):jF (eO M x u) l=if x=l then u.2 else jF M l:=by
 unfold jF;rw [Et]
 split<;>rfl
theorem KP{M:List ni}(h:(M.map (·.1)).Nodup):jF (iR M x) l=if x=l then []else jF M l:=by
 unfold jF;rw [Re h]
 split<;>rfl
structure ja(n:Nat)(fl:ah)(D:Nat->Nat->Prop)(G:Nat->Prop)(b:Nat)(M:List ni):Prop where
 nd:(M.map (·.1)).Nodup
 el:∀l y,y∈jF M l->∃y' i:Nat,y=(y':Int)/\y'<fl.length/\i<n/\D y' i/\l=iK (gl fl y') i
 al:∀y i:Nat,y<fl.length->i<n->D y i->(y:Int)∈jF M (iK (gl fl y) i)\/G y
 len:∀l,(jF M l).length<=b
section
variable{b' i:Nat}
variable {n:Nat} {fl:ah} {D D':Nat->Nat->Prop} {G G':Nat->Prop} {b:Nat} {M:List ni} {c:ai}
def x7(n:Nat)(fl:ah)(c:ai)(f i:Nat)(y j:Nat):Prop:=jK n c (gl fl y)/\(y<f\/y=f/\j<i)
theorem ja.zero:ja n fl (x7 n fl c 0 0) (fun _=>False) 0 []:=⟨by simp,fun l y h=>by simp [jF,dL]at h,fun y i _ _ h=>by have:=h.2;omega,fun l=>by simp [jF,dL]⟩
theorem ja.congr(h:ja n fl D G b M)(hD:∀y i,y<fl.length->i<n->(D y i↔D' y i)):ja n fl D' G b M:=
 ⟨h.nd,fun l y hy=>by obtain⟨y',i,h1,h2,h3,h4,h5⟩:=h.el l y hy;exact⟨y',i,h1,h2,h3,(hD y' i h2 h3).1 h4,h5⟩,fun y i hy hi hd=>h.al y i hy hi ((hD y i hy hi).2 hd),h.len⟩
theorem ja.more(h:ja n fl D G b M)(hb:b<=b'):ja n fl D G b' M:=⟨h.nd,h.el,h.al,fun l=>nU (h.len l) hb⟩
theorem ja.skip{f:Nat}(h:ja n fl (x7 n fl c f 0) G b M)(hf:¬jK n c (gl fl f)):ja n fl (x7 n fl c (f+1) 0) G b M:=
 h.congr fun y i _ _=> ⟨fun h=> ⟨h.1,by have:=h.2;omega⟩,fun h=> ⟨h.1,by
  have h2:=h.2;have:y≠f:=fun e=>hf (e▸h.1)
  omega⟩⟩
theorem ja.row{f:Nat}(h:ja n fl (x7 n fl c f n) G b M):ja n fl (x7 n fl c (f+1) 0) G b M:=
 h.congr fun y i _ hi=> ⟨fun h=> ⟨h.1,by have:=h.2;omega⟩,fun h=> ⟨h.1,by have:=h.2;omega⟩⟩
theorem ja.put{f:Nat}(h:ja n fl (x7 n fl c f i) G b M)(hf:f<fl.length)(hi:i<n)(hH:jK n c (gl fl f))(s:aO):
 ja n fl (x7 n fl c f (i+1)) G (b+1) (eO M (iK (gl fl f) i) (s,jF M (iK (gl fl f) i)++ [(f:Int)])):=by
 refine⟨Vp h.nd,fun l y hy=>?_,fun y j hy hj hd=>?_,fun l=>?_⟩
 ·rw [KQ]at hy
  split at hy
  ·rename_i e;rcases kj.1 hy with hy | hy
   ·obtain⟨y',j,h1,h2,h3,h4,h5⟩:=h.el _ y hy;exact⟨y',j,h1,h2,h3,⟨h4.1,by have:=h4.2;omega⟩,e.symm.trans h5⟩
   exact⟨f,i,gG.1 hy,hf,hi,⟨hH,.inr ⟨O,Nat.lt_succ_self _⟩⟩,e.symm⟩
  obtain⟨y',j,h1,h2,h3,h4,h5⟩:=h.el _ y hy;exact⟨y',j,h1,h2,h3,⟨h4.1,by have:=h4.2;omega⟩,h5⟩
 ·rw [KQ]
  by_cases e:y=f/\j=i
  ·obtain⟨rfl,rfl⟩:=e;rw [aB rfl];exact .inl (List.mem_append_right _ (by simp))
  rcases h.al y j hy hj ⟨hd.1,by have:=hd.2;omega⟩with h1 | h1
  ·left
   split
   ·rename_i e2;rw [e2];exact List.mem_append_left _ h1
   exact h1
  exact .inr h1
 rw [KQ]
 split
 ·rename_i e;have:=h.len (iK (gl fl f) i);rw [b8];simp;omega
 have:=h.len l;omega
theorem ja.mono(h:ja n fl D G b M)(hG:∀y,y<fl.length->G y->G' y):ja n fl D G' b M:=
 ⟨h.nd,h.el,fun y i hy hi hd=> (h.al y i hy hi hd).imp id (hG y hy),h.len⟩
theorem ja.del(h:ja n fl D G b M){x:ai}(hx:∀y:Nat,(y:Int)∈jF M x->G y):ja n fl D G b (iR M x):=by
 refine⟨Zn h.nd,fun l y hy=>?_,fun y i hy hi hd=>?_,fun l=>?_⟩
 ·rw [KP h.nd]at hy
  split at hy
  ·cases hy
  exact h.el l y hy
 ·rcases h.al y i hy hi hd with h1 | h1
  ·rw [KP h.nd]
   split
   ·rename_i e;rw [<-e]at h1;exact .inr (hx y h1)
   exact .inl h1
  exact .inr h1
 rw [KP h.nd]
 split
 ·exact aZ _
 exact h.len l
theorem ja.XJ(h:ja n fl (fun y _=>jK n c (gl fl y)) G b M)(hl:∀x∈fl,x.length=n/\∀e∈x,0<=e){x:Nat}(hx:x<fl.length)(hi:i<n)(hH:jK n c (gl fl x)){y:Int}(hy:y∈jF M (iK (gl fl x) i)):∃y':Nat,y=y'/\y'<fl.length/\yg n fl c x y':=by
 obtain⟨y',j,h1,h2,h3,h4,h5⟩:=h.el _ y hy;have hm:∀z:Nat,z<fl.length->gl fl z∈fl:=fun z hz=>by rw [b7 hz];exact dQ _
 have sA:=hl _ (hm x hx);have Me:=hl _ (hm y' h2);have e:i=j:=aiJ sA.1 Me.1 hi Me.2 h5;subst e;exact⟨y',h1,h2,hH,h4,i,hi,hx,h2,fun k hk bU=> (Jh sA.1 Me.1).1 h5 k hk bU⟩
end
theorem YJ{n:Nat}{c x:ai}(hc:c.length=n):nZ c x=c↔jK n c x:=by
 constructor
 ·intro h k hk bU;have:=aF (fun l=>gi l k) h;simp only [Cv (a:=c) (b:=x) (show k<c.length by omega)]at this
  by_cases e:gi c k=gi x k
  ·exact e
  rw [az e]at this;exact absurd this.symm bU
 intro h;refine wv (n:=n) (by rw [Cw,hc]) hc fun k hk=>?_
 rw [Cv (by omega)]
 split
 ·rfl
 rename_i e;refine qy fun h2=>e (h k hk fun h3=>h2 h3.symm)
def iE(n:Nat)(fl:ah)(c:ai)(f:Nat):ai:=(bS f).filter fun y=>decide (jK n c (gl fl y))
theorem XL{n:Nat}{fl:ah}{c:ai}{f:Nat}:iE n fl c (f+1)=if jK n c (gl fl f)then iE n fl c f++ [(f:Int)]else iE n fl c f:=by
 have:bS (f+1)=bS f++ [(f:Int)]:=by
  unfold bS;rw [jB,iD];rfl
 unfold iE;rw [this,rJ]
 by_cases c:jK n c (gl fl f)
 ·rw [aB c];simp [c]
 rw [az c];simp [c]
theorem Eb{n:Nat}{fl:ah}{c:ai}{f:Nat}{y:Int}:y∈iE n fl c f↔(0<=y/\y<f)/\jK n c (gl fl y):=by
 unfold iE;rw [gg,jU,lg]
def pf(N:Nat)(al:ai)(j:Nat):Nat:=if j<al.length then(gi al j).toNat else N
theorem kh.jump{N:Nat}{K:Nat->Nat->Prop}(hK:Ca N K){L:ai}:∀(d f:Nat),kh N K f L->f+d<=N->(∀x,f<=x->x<f+d->¬K x x)->kh N K (f+d) L
 | 0,f,h,_,_=>h
 | d+1,f,h,hn,hx=>by
  have h1:=h.skip hK (by omega) (.inr (hx f (bs _) (by omega)));have:=kh.jump hK d (f+1) h1 (by omega) fun x h2 h3=>hx x (by omega) (by omega)
  rwa [show f+1+d=f+ (d+1) by omega]at this
section
variable {n:Nat} {fl:ah} {c:ai} {L:ai}
theorem Gx(f:Nat):SA (iE n fl c f):=pc _ (mf _)
theorem PM{j:Nat}:pf fl.length (iE n fl c fl.length) j<=fl.length:=by
 unfold pf
 split
 ·rename_i h;have:=(Eb.1 (gi_in h)).1;omega
 exact bs _
theorem afI(h:kh fl.length (jC n fl c) 0 L):kh fl.length (jC n fl c) (pf fl.length (iE n fl c fl.length) 0) L:=by
 have hle:=PM (n:=n) (fl:=fl) (c:=c) (j:=0);have:=h.jump (DZ n fl c) (pf fl.length (iE n fl c fl.length) 0) 0 (by omega) fun x _ hx hk=>by
  have hm:(x:Int)∈iE n fl c fl.length:=Eb.2 ⟨by omega,hk.1⟩;obtain⟨p,hp,e⟩:=gF.1 hm;rw [<-b9 hp]at e;unfold pf at hx;rw [aB (by omega)]at hx
  by_cases e0:p=0
  ·subst e0;omega
  have:=(Gx (n:=n) (fl:=fl) (c:=c) fl.length).zm (show 0<p by omega) hp;omega
 rwa [Nat.zero_add]at this
theorem afJ{j:Nat}(hj:j< (iE n fl c fl.length).length){f:Nat}(hf:gi (iE n fl c fl.length) j=f)(h:kh fl.length (jC n fl c) (f+1) L):kh fl.length (jC n fl c) (pf fl.length (iE n fl c fl.length) (j+1)) L:=by
 have hle:=PM (n:=n) (fl:=fl) (c:=c) (j:=j+1);have lp:=(Eb.1 (gi_in hj)).1;have xu:f+1<=pf fl.length (iE n fl c fl.length) (j+1):=by
  unfold pf
  split
  ·rename_i h2;have:=(Gx (n:=n) (fl:=fl) (c:=c) fl.length).zm (show j<j+1 by omega) h2;omega
  omega
 have:=h.jump (DZ n fl c) (pf fl.length (iE n fl c fl.length) (j+1) - (f+1)) (f+1) (by omega) fun x uy hx hk=>by
  have hm:(x:Int)∈iE n fl c fl.length:=Eb.2 ⟨by omega,hk.1⟩;obtain⟨p,hp,e⟩:=gF.1 hm;rw [<-b9 hp]at e;have hpj:j<p:=by
   rcases Nat.lt_trichotomy j p with h2 | h2 | h2
   ·exact h2
   ·subst h2;omega
   have:=(Gx (n:=n) (fl:=fl) (c:=c) fl.length).zm h2 hj;omega
  unfold pf at hx;rw [aB (by omega)]at hx
  by_cases e0:p=j+1
  ·subst e0;omega
  have:=(Gx (n:=n) (fl:=fl) (c:=c) fl.length).zm (show j+1<p by omega) hp;omega
 rwa [show f+1+ (pf fl.length (iE n fl c fl.length) (j+1) - (f+1))=pf fl.length (iE n fl c fl.length) (j+1) by omega]at this
end
noncomputable def mX(n:Nat)(fl:ah)(i f:Nat):ai:=(List.range fl.length).map fun a=>if a<f/\e6 n fl i a<f then(e6 n fl i a:Int)else 0
def tO(n:Nat)(fl:ah)(i f:Nat)(L:List (ByteArray×Int)):Prop:=∀a:Nat,f<=a->a<fl.length->dL L (ju (iK (gl fl a) i))=if e6 n fl i a<f then some (e6 n fl i a:Int)else none
section
variable {n:Nat} {fl:ah} {i f:Nat} {L:List (ByteArray×Int)}
theorem agT:(mX n fl i f).length=fl.length:=by simp [mX]
theorem agQ:mX n fl i 0=List.replicate fl.length 0:=by
 apply ki
 ·simp [mX]
 intro a h1 h2;simp [mX]
theorem agR(h:jX n fl)(hi:i<n):mX n fl i fl.length=vw n fl i:=by
 rw [UH h hi];unfold mX;refine rN fun a ha=>?_
 have ha:=il.1 ha;rw [aB ⟨ha,h.lt ha hi⟩]
theorem agU(h:jX n fl)(hi:i<n)(hf:f<fl.length)(hp:¬e6 n fl i f<f):mX n fl i (f+1)=mX n fl i f:=by
 unfold mX;refine rN fun a ha=>?_
 have ha:=il.1 ha;have h1:=(h.pt hf hi).1;have h2:=h.pp ha hi
 by_cases e:a=f
 ·subst e;rw [az (by omega),az (by omega)]
 by_cases e2:e6 n fl i a=f
 ·have h3:a=e6 n fl i f:=by rw [<-h2,e2]
  rw [az (by omega),az (by omega)]
 by_cases c:a<f/\e6 n fl i a<f
 ·rw [aB c,aB (by omega)]
 rw [az c,az (by omega)]
theorem agS(h:jX n fl)(hi:i<n)(hf:f<fl.length)(hp:e6 n fl i f<f):mX n fl i (f+1)=((mX n fl i f).set f (e6 n fl i f:Int)).set (e6 n fl i f) (f:Int):=by
 have hpp:=h.pp hf hi;apply ki
 ·simp [mX]
 intro a h1 h2;have ha:a<fl.length:=by simpa [mX]using h1
 have h3:=h.pp ha hi;rw [List.getElem_set,List.getElem_set];simp only [mX,List.getElem_map,List.getElem_range]
 by_cases e:e6 n fl i f=a
 ·subst e;rw [aB rfl,hpp,aB (by omega)]
 rw [az e]
 by_cases e2:f=a
 ·subst e2;rw [aB rfl,aB (by omega)]
 rw [az e2];have h4:e6 n fl i a≠f:=fun e3=>e (by rw [<-h3,e3])
 by_cases c:a<f/\e6 n fl i a<f
 ·rw [aB c,aB (by omega)]
 rw [az c,az (by omega)]
theorem tO.zero:tO n fl i 0 []:=fun a _ _=>by rw [az (by omega)];rfl
theorem tO.at_(h:tO n fl i f L)(hf:f<fl.length):dL L (ju (iK (gl fl f) i))=if e6 n fl i f<f then some (e6 n fl i f:Int)else none:=h f (bs _) hf
theorem tO.H0(hN:jX n fl)(hi:i<n)(h:tO n fl i f L)(hf:f<fl.length)(hp:e6 n fl i f<f):tO n fl i (f+1) L:=fun a h0 ha=>by
 have h2:=hN.pp ha hi;rw [h a (by omega) ha];have h4:e6 n fl i a≠f:=fun e=>by rw [e]at h2;omega
 by_cases c:e6 n fl i a<f
 ·rw [aB c,aB (by omega)]
 rw [az c,az (by omega)]
theorem tO.agt(hN:jX n fl)(hl:∀x∈fl,x.length=n)(hi:i<n)(h:tO n fl i f L)(hf:f<fl.length)(hp:¬e6 n fl i f<f):tO n fl i (f+1) (eO L (ju (iK (gl fl f) i)) (f:Int)):=fun a h0 ha=>by
 have h1:=hN.pp hf hi;have h2:=hN.pp ha hi;have hk:ju (iK (gl fl f) i)=ju (iK (gl fl a) i)↔a=f\/a=e6 n fl i f:=by
  have lf:(gl fl f).length=n:=hl _ (by rw [b7 hf];exact dQ _);have la:(gl fl a).length=n:=hl _ (by rw [b7 ha];exact dQ _);constructor
  ·intro e;have e:=(Jh lf la).1 (IG e)
   by_cases c:a=f
   ·exact .inl c
   exact .inr (((hN.pt hf hi).2 a).1 ⟨⟨hf,ha,fun k hk bU=>e k hk bU⟩,c⟩)
  intro e;rcases e with e | e
  ·subst e;rfl
  have h3:=((hN.pt hf hi).2 a).2 e;exact aF ju ((Jh lf la).2 h3.1.2.2)
 rw [Et,h a (by omega) ha]
 by_cases e2:a=e6 n fl i f
 ·rw [aB (hk.2 (.inr e2))];have h3:e6 n fl i a=f:=by rw [e2,h1]
  rw [aB (by omega),h3]
 rw [az fun e3=> (hk.1 e3).elim (by omega) e2];have h4:e6 n fl i a≠f:=fun e3=>e2 (by rw [<-h2,e3])
 by_cases c:e6 n fl i a<f
 ·rw [aB c,aB (by omega)]
 rw [az c,az (by omega)]
end
section
variable{i b:Nat}
variable {n:Nat} {fl:ah}
theorem sI(n:Nat)(fl:ah):(bV n fl).length=n:=by simp [bV]
theorem agJ(n:Nat)(fl:ah)(hi:i<n):gl (bV n fl) i=vw n fl i:=by
 rw [b7 (by rw [sI];exact hi)];simp [bV]
theorem IV(h:jX n fl)(hi:i<n):gl (bV n fl) i=(List.range fl.length).map fun a=> (e6 n fl i a:Int):=by rw [agJ n fl hi,UH h hi]
theorem uE(h:jX n fl){a:Nat}(hi:i<n)(ha:a<fl.length):gi (gl (bV n fl) i) a=e6 n fl i a:=by
 rw [IV h hi,b9 (by simpa using ha)];simp
theorem Du(h:jX n fl)(hi:i<n):(gl (bV n fl) i).length=fl.length:=by rw [IV h hi];simp
theorem IW(h:jX n fl){p:ai}:p∈bV n fl↔∃i:Nat,i<n/\p=gl (bV n fl) i:=by
 constructor
 ·intro hp;obtain⟨i,hi,e⟩:=gF.1 hp;rw [sI]at hi;exact⟨i,hi,by rw [b7 (by rw [sI];exact hi)];exact e.symm⟩
 rintro⟨i,hi,rfl⟩;rw [b7 (by rw [sI];exact hi)];exact dQ _
theorem agE(h:jX n fl)(hi:i<n){x:Int}(h0:0<=x)(h1:x<fl.length):gi (gl (bV n fl) i) x=e6 n fl i x.toNat:=by
 obtain⟨a,rfl⟩:∃a:Nat,x=a:=⟨x.toNat,by omega⟩;rw [uE h hi (by omega)];simp
theorem agI(h:jX n fl)(hb:fl.length<=400)(hi:i<n):kg (gl (bV n fl) i)/\oD (gl (bV n fl) i):=by
 have hl:=Du h hi;refine⟨⟨by omega,fun x hx=>?_,?_⟩,fun a ha=>?_⟩
 ·rw [hl];rw [IV h hi]at hx;obtain⟨a,ha,rfl⟩:=dA.1 hx;have:=h.lt (il.1 ha) hi;omega
 ·rw [IV h hi];refine pd.2 ((List.nodup_range (n:=fl.length)).imp_of_mem fun {a b} ha hb bU e=>bU ?_);have ha:=il.1 ha;have hb:=il.1 hb;have e:e6 n fl i a=e6 n fl i b:=by omega
  rw [<-h.pp ha hi,e,h.pp hb hi]
 rw [hl]at ha;rw [uE h hi ha,uE h hi (h.lt ha hi),h.pp ha hi];have:=(h.pt ha hi).1;exact⟨by omega,O⟩
theorem agK(h:jX n fl):Sys fl.length (bV n fl):=fun p hp=>by
 obtain⟨i,hi,rfl⟩:=(IW h).1 hp;refine⟨Du h hi,fun x h0 h1=>?_⟩;rw [agE h hi h0 h1];have:=h.lt (a:=x.toNat) (by omega) hi;omega
theorem FA(h:jX n fl){a:Nat}(ha:a<fl.length)(hi:i<n):mZ n fl i a (e6 n fl i a):=(((h.pt ha hi).2 _).2 rfl).1
theorem UB(h:jX n fl){p:ai}:p∈(bV n fl).eraseIdx i↔∃k:Nat,k<n/\k≠i/\p=gl (bV n fl) k:=by
 rw [List.mem_eraseIdx_iff_getElem];constructor
 ·rintro⟨k,hk,bU,e⟩;rw [sI]at hk;exact⟨k,hk,bU,by rw [b7 (by rw [sI];exact hk)];exact e.symm⟩
 rintro⟨k,hk,bU,rfl⟩;exact⟨k,by rw [sI];exact hk,bU,by rw [b7 (by rw [sI];exact hk)]⟩
theorem agF(h:jX n fl)(hi:i<n){a:Nat}(ha:a<fl.length){y:Int}(hr:Reach ((bV n fl).eraseIdx i) (a:Int) y):(0<=y/\y<fl.length)/\gi (gl fl y) i=gi (gl fl a) i:=by
 induction hr with
 | refl=>exact⟨by omega,rfl⟩
 | step hr hp ih=>
  rename_i y p;obtain⟨k,hk,bU,rfl⟩:=(UB h).1 hp;obtain⟨b,rfl⟩:∃b:Nat,y=b:=⟨y.toNat,by omega⟩;have hb:b<fl.length:=by omega
  rw [uE h hk hb];have h1:=h.lt hb hk;exact⟨by omega,by rw [<-(FA h hb hk).2.2 i hi (fun e=>bU e.symm)];exact ih.2⟩
theorem UC(h:jX n fl){S:Nat->Prop}(hS:S i){a:Nat}(hl:jm n fl S a b):Reach ((bV n fl).eraseIdx i) (a:Int) (b:Int):=by
 induction hl with
 | refl=>exact .refl
 | step hl hk hs ha ih=>
  rename_i b c k
  by_cases e:c=b
  ·subst e;exact ih
  have hb:=hl.gO.2;have e2:c=e6 n fl k b:=((h.pt hb hk).2 c).1 ⟨ha,e⟩;have:=Reach.step ih ((UB h).2 ⟨k,hk,fun e3=>hs (e3▸hS),O⟩);rw [uE h hk hb,<-e2]at this;exact this
theorem agG(h:jX n fl){S:Nat->Prop}{a:Nat}(hl:jm n fl S a b):Reach (bV n fl) (a:Int) (b:Int):=by
 induction hl with
 | refl=>exact .refl
 | step hl hk hs ha ih=>
  rename_i b c k
  by_cases e:c=b
  ·subst e;exact ih
  have hb:=hl.gO.2;have e2:c=e6 n fl k b:=((h.pt hb hk).2 c).1 ⟨ha,e⟩;have:=Reach.step ih ((IW h).2 ⟨k,hk,O⟩);rw [uE h hk hb,<-e2]at this;exact this
theorem agD(h:jX n fl)(hc:zH n fl)(hi:i<n){a:Nat}(ha:a<fl.length)(hb:b<fl.length):Reach ((bV n fl).eraseIdx i) (a:Int) (b:Int)↔gi (gl fl a) i=gi (gl fl b) i:=by
 constructor
 ·intro hr;exact(agF h hi ha hr).2.symm
 intro e;rcases Nat.lt_trichotomy a b with eB | eB | eB
 ·exact UC h (S:=fun k=>gi (gl fl a) k=gi (gl fl b) k) e (hc a b eB hb)
 ·subst eB;exact .refl
 exact UC h (S:=fun k=>gi (gl fl b) k=gi (gl fl a) k) e.symm (hc b a eB ha).symm
end
section
variable {n:Nat} {R:ai} {B:ah}
theorem ZW(hP:gr n R B)(hD:uN n R B){i k a:Nat}(hi:i<n)(hk:k<n)(mQ:i+2<=k)(ha:a< (aG n R B).length):
 e6 n (aG n R B) k (e6 n (aG n R B) i a)=e6 n (aG n R B) i (e6 n (aG n R B) k a):=by
 have h:=CG hP hD;have hn:1<=n:=by omega
 obtain⟨b,hb⟩:∃b,e6 n (aG n R B) i a=b:=⟨_,rfl⟩;obtain⟨c,hc⟩:∃c,e6 n (aG n R B) k a=c:=⟨_,rfl⟩;have mP:b< (aG n R B).length:=hb▸h.lt ha hi;have dh:c< (aG n R B).length:=hc▸h.lt ha hk;have ab:=FA h ha hi;have ac:=FA h ha hk;have nb:=(h.pt ha hi).1;have nc:=(h.pt ha hk).1;rw [hb]at ab nb|-;rw [hc]at ac nc|-;have fa:=oc hn ha;have fb:=oc hn mP;have fc:=oc hn dh;obtain⟨x,hx⟩:∃x:ai,x=(gl (aG n R B) c).set i (gi (gl (aG n R B) b) i):=⟨_,rfl⟩;have jH:x.length=n:=by rw [hx,lT];exact fc.1
 have gv:∀j:Nat,j<n->gi x j=if i=j then gi (gl (aG n R B) b) i else gi (gl (aG n R B) c) j:=fun j hj=>by
  rw [b9 (by omega)];subst hx;rw [List.getElem_set]
  split
  ·rfl
  exact(b9 (by rw [fc.1];exact hj)).symm
 have hm:x∈aG n R B:=by
  refine(pS hn).2 ⟨jH,fun j hj=>?_,fun j hj=>?_⟩
  ·rw [gv j hj]
   split
   ·rename_i e;subst e;exact fb.2.1 i hj
   exact fc.2.1 j hj
  rw [gv j (by omega),gv (j+1) hj]
  by_cases e1:i=j
  ·subst e1;rw [aB rfl,az (by omega),<-ac.2.2 (i+1) hj (by omega),ab.2.2 (i+1) hj (by omega)];exact fb.2.2 i hj
  by_cases e2:i=j+1
  ·subst e2;rw [az e1,aB rfl,<-ac.2.2 j (by omega) (by omega),ab.2.2 j (by omega) (by omega)];exact fb.2.2 j hj
  rw [az e1,az e2];exact fc.2.2 j hj
 obtain⟨d,hd,ed⟩:=gF.1 hm;have GY:gl (aG n R B) d=x:=by rw [b7 hd];exact ed
 have e1:e6 n (aG n R B) k b=d:=by
  refine(((h.pt mP hk).2 d).1 ⟨⟨mP,hd,fun j hj bU=>?_⟩,fun e=>?_⟩).symm
  ·rw [GY,gv j hj]
   split
   ·rename_i e;subst e;rfl
   rename_i e;rw [<-ab.2.2 j hj (fun e'=>e e'.symm),ac.2.2 j hj bU]
  subst e;have h1:=gv k hk;rw [az (by omega),<-GY,<-ab.2.2 k hk (by omega)]at h1;exact nc (yx dh ha (wv (n:=n) fc.1 fa.1 fun j hj=>by
   by_cases e:j=k
   ·subst e;exact h1.symm
   exact(ac.2.2 j hj e).symm))
 have e2:e6 n (aG n R B) i c=d:=by
  refine(((h.pt dh hi).2 d).1 ⟨⟨dh,hd,fun j hj bU=>?_⟩,fun e=>?_⟩).symm
  ·rw [GY,gv j hj,az (fun e=>bU e.symm)]
  subst e;have h1:=gv i hi;rw [aB rfl,<-GY,<-ac.2.2 i hi (by omega)]at h1;exact nb (yx mP ha (wv (n:=n) fb.1 fa.1 fun j hj=>by
   by_cases e:j=i
   ·subst e;exact h1.symm
   exact(ab.2.2 j hj e).symm))
 rw [e1,e2]
theorem agH(hP:gr n R B)(hY:zP n R B)(hn:n<=5)(hb:(aG n R B).length<=400):cN (bV n (aG n R B)):=by
 have h:=CG hP hY.2.2.1;have sB:=hP.n1;have h0:0<n:=by omega
 have Ih:0< (aG n R B).length:=List.length_pos_iff.2 hY.1;have vj:(gl (bV n (aG n R B)) 0).length=(aG n R B).length:=Du h h0;have h2:2<=(aG n R B).length:=by
  have h1:=(h.pt Ih h0).1;have h3:=h.lt Ih h0;omega
 refine⟨by rw [sI];omega,by rw [vj];omega,fun p hp=>?_,fun i hi k hk mQ f hf=>?_,?_⟩
 ·obtain⟨i,hi,rfl⟩:=(IW h).1 hp;rw [vj,Du h hi];exact⟨O,agI h hb hi⟩
 ·rw [sI]at hi hk;rw [vj]at hf;have di:=h.lt hf hi;have eQ:=h.lt hf hk;refine⟨?_,?_⟩
  ·rw [uE h hi hf,uE h hk hf,uE h hk di,uE h hi eQ,ZW hP hY.2.2.1 hi hk mQ hf]
  rw [uE h hi hf,uE h hk hf];intro e;have e:e6 n (aG n R B) i f=e6 n (aG n R B) k f:=by omega
  have a1:=FA h hf hi;have a2:=FA h hf hk;rw [<-e]at a2;refine(h.pt hf hi).1 (yx di hf (wv (n:=n) (oc (by omega) di).1 (oc (by omega) hf).1 fun j hj=>?_))
  by_cases e3:j=i
  ·exact(a2.2.2 j hj (by omega)).symm
  exact(a1.2.2 j hj e3).symm
 rw [vj];refine(FG (agK h) Ih).2 fun x uy ka=>?_
 obtain⟨b,rfl⟩:∃b:Nat,x=b:=⟨x.toNat,by omega⟩
 by_cases e:b=0
 ·subst e;exact .refl
 exact agG h (hY.2.2.2 0 b (by omega) (by omega))
end
theorem ZO{M:ah}(hM:cN M){i:Nat}{f g:Int}(h0:0<=f)(h1:f< (gl M 0).length)(h:Reach (M.eraseIdx i) f g):gi (eG M i) f=gi (eG M i) g:=
 Nb (hM.2.2.1.sys.erase i) (hM.2.2.1.inj.erase i) h0 h1 h _ (bs _)
def vA(R:ai)(i:Int):ai:=(bS R.length).filter fun e=>decide (gi R e=i)
theorem N4{R:ai}{i e:Int}:e∈vA R i↔(0<=e/\e<R.length)/\gi R e=i:=by
 unfold vA;rw [gg,jU,lg]
theorem aix(R:ai)(i:Int):(vA R i).Nodup:=(mf _).nodup.filter _
structure fp(n:Nat)(R:ai)(B:ah):Prop where
 pos:gr n R B
 zu:zP n R B
 n5:n<=5
 zW:(aG n R B).length<=400
section
variable{i b:Nat}
variable {n:Nat} {R:ai} {B:ah}
theorem fp.nb(h:fp n R B):jX n (aG n R B):=CG h.pos h.zu.2.2.1
theorem fp.n1(h:fp n R B):1<=n:=by have:=h.pos.n1;omega
theorem fp.nF(h:fp n R B):cN (bV n (aG n R B)):=agH h.pos h.zu h.n5 h.zW
theorem fp.nl(h:fp n R B):(gl (bV n (aG n R B)) 0).length=(aG n R B).length:=Du h.nb (show 0<n by have:=h.n1;omega)
theorem fp.Uh(h:fp n R B)(hi:i<n){a:Nat}(ha:a< (aG n R B).length)(hb:b< (aG n R B).length):gi (eG (bV n (aG n R B)) i) a=gi (eG (bV n (aG n R B)) i) b↔gi (gl (aG n R B) a) i=gi (gl (aG n R B) b) i:=by
 rw [<-agD h.nb h.zu.2.2.2 hi ha hb];constructor
 ·exact QI h.nF (by omega) (by rw [h.nl];omega) (by omega) (by rw [h.nl];omega)
 exact ZO h.nF (by omega) (by rw [h.nl];omega)
theorem fp.Om(h:fp n R B){e:Int}(h0:0<=e)(h1:e<R.length):∃a:Nat,a< (aG n R B).length/\gi (gl (aG n R B) a) (gi R e)=e:=by
 obtain⟨x,hx,he⟩:=h.zu.2.1 e h0 h1;obtain⟨a,ha,ea⟩:=gF.1 hx;obtain⟨k,hk,ek⟩:=gF.1 he;have hf:=(pS h.n1).1 hx;have iM:k<n:=by rw [<-hf.1];exact hk
 have e1:gi x k=e:=by rw [b9 hk];exact ek
 have e2:=(hf.2.1 k iM).2;rw [e1]at e2;exact⟨a,ha,by rw [b7 ha,ea,e2];exact e1⟩
theorem fp.at_(h:fp n R B){a:Nat}(ha:a< (aG n R B).length)(hi:i<n):(0<=gi (gl (aG n R B) a) i/\gi (gl (aG n R B) a) i<R.length)/\gi R (gi (gl (aG n R B) a) i)=i:=(oc h.n1 ha).2.1 i hi
theorem fp.qG(h:fp n R B)(hi:i<n):iS (bV n (aG n R B)) i=((vA R i).length:Int):=by
 have hN:=h.nl;have h0:=(CD (bV n (aG n R B)) i).1;have hex:∀e:Int,∃v:Int,e∈vA R i->(0<=v/\v<iS (bV n (aG n R B)) i)/\∀a:Nat,a< (aG n R B).length->(gi (eG (bV n (aG n R B)) i) a=v↔gi (gl (aG n R B) a) i=e):=fun e=>by
  by_cases he:e∈vA R i
  ·have hr:=N4.1 he;obtain⟨b,hb,eb⟩:=h.Om hr.1.1 hr.1.2;rw [hr.2]at eb;exact⟨gi (eG (bV n (aG n R B)) i) b,fun _=> ⟨Kx h.nF i b (by rw [hN];exact hb),fun a ha=>by rw [h.Uh hi ha hb,eb]⟩⟩
  exact⟨0,fun h=>absurd h he⟩
 obtain⟨g,hg⟩:=Classical.axiomOfChoice hex;have hg:∀e:Int,e∈vA R i->(0<=g e/\g e<iS (bV n (aG n R B)) i)/\∀a:Nat,a< (aG n R B).length->(gi (eG (bV n (aG n R B)) i) a=g e↔gi (gl (aG n R B) a) i=e):=hg;have hp:((vA R i).map g).Perm (bS (iS (bV n (aG n R B)) i).toNat):=by
  refine(vJ ?_ (mf _).nodup).2 fun v=>?_
  ·refine pd.2 ((aix R i).imp_of_mem fun {e d} he hd bU q=>bU ?_);have hr:=N4.1 he;obtain⟨b,hb,eb⟩:=h.Om hr.1.1 hr.1.2;rw [hr.2]at eb;have h1:=((hg e he).2 b hb).2 eb;rw [q]at h1;rw [<-((hg d hd).2 b hb).1 h1];exact eb.symm
  rw [jU,dA];constructor
  ·rintro⟨e,he,rfl⟩;have:=(hg e he).1;omega
  intro hv;obtain⟨f,hf,ef⟩:=Kw h.nF i v hv.1 (by omega);rw [hN]at hf;have h1:=h.at_ hf hi;have hm:gi (gl (aG n R B) f) i∈vA R i:=N4.2 h1;refine⟨_,hm,?_⟩;rw [<-((hg _ hm).2 f hf).2 rfl];exact ef
 have hl:=hp.length_eq;rw [fO,N6]at hl;omega
theorem aiz(R:ai)(hR:∀e:Int,0<=e->e<R.length->0<=gi R e):∀i:Nat,((bS R.length).filter fun e=>decide (gi R e< (i:Int))).length+ (vA R i).length=((bS R.length).filter fun e=>decide (gi R e< ((i+1:Nat):Int))).length:=fun i=>by
 unfold vA;generalize bS R.length=l
 induction l with
 | nil=>rfl
 | cons e l ih=>
  rcases Int.lt_trichotomy (gi R e) (i:Int)with c | c | c
  ·rw [zL (by simpa using c),wO (by simp;omega),zL (by simp;omega)];simp only [List.length_cons];omega
  ·rw [wO (by simp;omega),zL (by simpa using c),zL (by simp;omega)];simp only [List.length_cons];omega
  ·rw [wO (by simp;omega),wO (by simp;omega),wO (by simp;omega)];exact ih
theorem fp.off(h:fp n R B):∀i:Nat,i<=n->aS (bV n (aG n R B)) i=((bS R.length).filter fun e=>decide (gi R e< (i:Int))).length:=by
 have gf:∀e:Int,0<=e->e<R.length->0<=gi R e:=fun e h0 h1=> (h.pos.ri h0 h1).1
 intro i
 induction i with
 | zero=>
  intro _;rw [List.filter_eq_nil_iff.2 fun e he=>?_]
  ·rfl
  ·have hr:=(jU _ _).1 he;have:=gf e hr.1 hr.2;simp;omega
 | succ i ih=>
  intro hi;have h1:=h.qG (show i<n by omega);show aS _ i+ (iS _ i).toNat=_;rw [ih (by omega),h1,<-aiz R gf i];omega
theorem fp.UR(h:fp n R B):aS (bV n (aG n R B)) n=R.length:=by
 rw [h.off n (bs _),List.filter_eq_self.2 fun e he=>?_]
 ·exact N6 _
 have hr:=(jU _ _).1 he;have:=(h.pos.ri hr.1 hr.2).2;simp;omega
end
end
section
open Go.RowKit
theorem WT(A:aj)(n c:Nat)(xs:ai)(w:aa)(hR:cg w A n xs)(hn:n<=1000000000):
 aK prog 162 [.slice A n c] w (fun v w'=>∃b:Bool,v= .bool b/\(b=true↔sS xs)/\St w w' []):=by
 have jH:=hR.1;refine bA func162 O ntmps162 O (df O) ?_;refine bg O (bc O O (eh O (aC O ?_)));refine Cd.loop (α:=Nat) (fun k=> [(0,.slice A n c),(3,ak ((n:Int) - 1 - (k:Int)))]) (fun k w'=>St w w' []/\(k<=n - 1)/\∀j:Nat,n - k<=j->j<n->gi xs ((j:Int) - 1)<=gi xs j) (fun k=>n - k) 0 ⟨O,aF (Value.int .i64) (by show(n:Int) - 1=(n:Int) - 1 - ((0:Nat):Int);omega),au⟩ ⟨St.refl w,aZ _,fun j h1 h2=>by omega⟩ ?_;rintro k e w1 ⟨hS,hk,hK⟩;have ll:=hS.gh hR;refine bJ O (aM _ O (fun h1=>?_) (fun h1=>?_))
 ·have e1:((n:Int) - 1 - (k:Int))=((n - 1 - k:Nat):Int):=by omega
  have e2:((n:Int) - 1 - (k:Int) - 1)=((n - 1 - k:Nat):Int) - 1:=by omega
  refine dw O ?_;refine eo [xS (A) (n) (c),xI (((n:Int) - 1 - (k:Int))),xP (ay (A) (((n:Int) - 1 - (k:Int))).toNat),xI (gi (xs) (((n:Int) - 1 - (k:Int)))),xS (A) (n) (c),xI (((n:Int) - 1 - (k:Int))),xI ((((n:Int) - 1 - (k:Int))) - ((1:Int))),xP (ay (A) ((((n:Int) - 1 - (k:Int))) - ((1:Int))).toNat),xI (gi (xs) ((((n:Int) - 1 - (k:Int))) - ((1:Int)))),xB (decide (gi xs ((n:Int) - 1 - (k:Int))<gi xs ((n:Int) - 1 - (k:Int) - 1)))] O (eL O) ?_ ?_
  ·refine⟨Dr O,Dr O,fun _ _ hb _ _=>aD (ll.aq hb).2 O Az,fun _ _ hb _ _=>a8 (ll.aq hb) O Az,Dr O,Dr O,fun _ _ _ _ _=>eh O Az,fun _ _ hb _ _=>aD (ll.aq hb).2 O Az,fun _ _ hb _ _=>a8 (ll.aq hb) O Az,?_,au⟩
   ·intro e1 w1 hb hp aW;refine aQ (Qc _ _ _) O ?_;rintro _ w2 ⟨rfl,aw⟩;subst aw;refine ao.n (d0 (by exact O))
  intro u w2 hb _;have aE:=hS.aq hb;refine eP O (aM _ O (fun h2=>?_) (fun h2=>?_))
  ·refine dX O (fz (eW ?_));refine dz O ?_;refine⟨false,rfl,⟨fun h=> (by cases h),fun h=>?_⟩,aE⟩;rw [e1]at h2;have h3:=List.pairwise_iff_getElem.1 h (n - 1 - k - 1) (n - 1 - k) (by omega) (by omega) (by omega);rw [<-b9 (by omega),<-b9 (by omega),show((n - 1 - k - 1:Nat):Int)=((n - 1 - k:Nat):Int) - 1 by omega]at h3;omega
  ·refine aA O (eh O (aT O (tQ ?_)));refine⟨k+1,by show n - (k+1)<n - k;omega,⟨O,aF (Value.int .i64) (by show(n:Int) - 1 - (k:Int) - 1=(n:Int) - 1 - ((k+1:Nat):Int);omega),au⟩,aE,by omega,fun j LY oR=>?_⟩
   by_cases ej:n - k<=j
   ·exact hK j ej oR
   ·have:(j:Int)=(n:Int) - 1 - (k:Int):=by omega
    rw [this];omega
 ·refine bn O (bo (gq O ?_));refine dz O ⟨true,O,⟨fun _=>?_,fun _=>O⟩,hS⟩;have key:∀j i:Nat,i<=j->j<n->gi xs i<=gi xs j:=by
   intro j
   induction j with
   | zero=>
    intro i hi _;have:i=0:=by omega
    rw [this];exact Int.le_refl _
   | succ j ih=>
    intro i hi hj
    by_cases e:i=j+1
    ·subst e;exact Int.le_refl _
    ·have h3:=ih i (by omega) (by omega);have h4:=hK (j+1) (by omega) hj;rw [show((j+1:Nat):Int) - 1=(j:Int) by omega]at h4;omega
  refine List.pairwise_iff_getElem.2 fun i j hi hj ig=>?_
  have:=key j i (by omega) (by omega)
  rwa [b9 hi,b9 hj]at this
theorem X3{n:Int}{R:ai}(h:∀x∈R,0<=x/\x<=n - 1):zR 0 (n - 1) R:=h
theorem TW(n:Int)(A D:aj)(cA cD:Nat)(R:ai)(rs:List aO)(B:ah)(w:aa)(hR:cg w A R.length R)(hB:bF w D B.length rs B)(hP:gr n R B):
 aK prog 88 [.agg #[ak n,.slice A R.length cA,.slice D B.length cD]] w (fun v w'=>v= .bool true/\St w w' []):=by
 have hn:=hP.n1;have sq:=hP.pe;have hle:=hP.len;have bP:=fun e (h:e<R.length)=>hP.row e h
 have cI:∀e:Nat,e<R.length->(gl B e).length<=500:=fun e h=>by
  have:=sJ (N:=R.length) (bP e h).1.nodup fun x hx=> ((bP e h).2 x hx).1
  omega
 obtain⟨N,hN⟩:∃N,R.length=N:=⟨_,rfl⟩;rw [hN]at hR sq hle bP cI|-;rw [hle]at hB|-;refine bA func88 O ntmps88 O (df O) (bg O (nV (St.refl w) O O ?_));intro A1 w1 aI;have dF:=aI.below;have h1:Rd w1 A1 3 (fun j=> [Value.int .i64 n,.slice A N cA,.slice D N cD].getD j undef):=aI.rd 0 O;have hR:=hR.aq dF;have hB:=hB.aq dF;have aI:=aI.none;refine ar O (aU h1 O (bh h1 O (aQ (wH _ _ _ _) O ?_)));rintro _ w1 ⟨rfl,rfl⟩;refine ar O (aU h1 O (iy (j:=0) h1 (by exact aF Value.pointer O) O O O O (aQ (ye _ _ _ _) O ?_)));rintro _ w1 ⟨rfl,rfl⟩
 first | refine fv rfl rfl ?_ | refine gA rfl rfl ?_
 refine ar O (ew 23 O (fun h=>absurd (by omega) h) (fun _=>?_));refine av O (ar O (av O (ar O ?_)));refine ew 27 O (fun h=>by omega) (fun _=>?_);refine av O (aU h1 O (av O (bh h1 O ?_)));refine av O (bc O O (av O ?_));refine aU h1 O (av O (bh h1 O ?_));refine av O (bc O O (av O (ar O ?_)));refine ew 36 O (fun h=>absurd O h) (fun _=>?_);refine av O (aU h1 O (av O (bh h1 O (av O (aU h1 O (av O (iy (j:=0) h1 (by exact aF Value.pointer O) O O O O ?_)))))));refine av O (eh O (av O ?_));refine aQ (Ya A N cA R 0 (n - 1) _ hR (by omega)) O ?_;rintro _ w2 ⟨rfl,aw⟩;have hb:=aw.below;have h1:=Rd.below h1 hb;have hR:=hR.aq hb;have hB:=hB.aq hb;have aI:=aI.aq hb;clear aw hb;refine av O ?_
 first | refine fv rfl rfl ?_ | refine gA rfl rfl ?_
 refine ar O (ew 45 O (fun h=>absurd (X3 hP.gO) h) (fun _=>?_));refine av O (aU h1 O (av O (bh h1 O (av O (aQ (WT A N cA R _ hR (by omega)) O ?_)))));rintro _ w3 ⟨b,rfl,HJ,aw⟩;obtain rfl:=HJ.2 hP.Co;have hb:=aw.below;have h1:=Rd.below h1 hb;have hR:=hR.aq hb;have hB:=hB.aq hb;have aI:=aI.aq hb;clear aw hb;refine av O ?_
 first | refine fv rfl rfl ?_ | refine gA rfl rfl ?_
 refine aC O (Cd.fC O (aA O (aU h1 O (bh h1 O ?_))));refine bc O O (aC O ?_);refine Cd.loop (α:=Nat) (fun k=> [(1,.pointer A1),(3,ak N),(52,.slice D N cD),(53,ak N),(54,ak k)]) (fun k w'=>k<=N/\St w3 w' []) (fun k=>N - k) 0 (amz O) ⟨aZ _,St.refl _⟩ ?_;rintro k e w4 ⟨hk,aw⟩;have hb:=aw.below;have h1:=Rd.below h1 hb;have hR:=hR.aq hb;have hB:=hB.aq hb;have aI:=aI.aq hb;clear hb;refine bJ O (aM _ O (fun h3=>?_) (fun h3=>?_))
 ·have xw:k<N:=by omega
  have iA:=hB.at_ (i:=(k:Int)) (by omega) (by omega);have oV:=iA.1;have Dg:=cI k xw;have js:=bP k xw;refine aA O (aD hB.top.2 O (bW hB.top O ?_));refine ar O (bc O O (aC O ?_));refine Cd.loop (α:=Nat) (fun q=> [(1,.pointer A1),(3,ak N),(52,.slice D N cD),(53,ak N),(54,ak k),(4,ak k),(5,.slice (rg rs k).a (rg rs k).n (rg rs k).c),(59,.slice (rg rs k).a (rg rs k).n (rg rs k).c),(60,ak ((rg rs k).n:Int)),(61,ak q)]) (fun q w'=>q<=(rg rs k).n/\St w4 w' []) (fun q=> (rg rs k).n - q) 0 (amz O) ⟨aZ _,St.refl _⟩ ?_;rintro q e w5 ⟨hq,kN⟩;have hb:=kN.below;have h1:=Rd.below h1 hb;have hR:=hR.aq hb;have hB:=hB.aq hb;have iA:=iA.aq hb;clear hb;refine bJ O (aM _ O (fun h4=>?_) (fun h4=>?_))
  ·have Bb:q< (gl B k).length:=by omega
   have hd:=js.2 (gi (gl B k) q) (gi_in Bb);refine aA O (aD iA.2 O (a8 iA O (aC O ?_)));generalize Se:gi (gl B k) q=d at*
   by_cases Mq:0<q
   ·
    have Ir:=js.1.zm (show q - 1<q by omega) Bb;rw [Se,show((q - 1:Nat):Int)=(q:Int) - 1 by omega]at Ir;refine eo [xI (d),xI ((N:Int)),xI (((N:Int)) - ((1:Int))),xB (decide (0<=d/\d<=(N:Int) - 1)),xB (false),xB (false),xP (ay (A1) 1),xS (A) (N) (cA),xI (d),xP (ay (A) (d).toNat),xI (gi (R) (d)),xP (ay (A1) 1),xS (A) (N) (cA),xI ((k:Int)),xP (ay (A) ((k:Int)).toNat),xI (gi (R) ((k:Int))),xB (false),xB (false),xB (false),xI ((q:Int)),xB (true),xB (true),xS ((rg rs k).a) ((rg rs k).n) ((rg rs k).c),xI ((q:Int)),xI (((q:Int)) - ((1:Int))),xP (ay ((rg rs k).a) (((q:Int)) - ((1:Int))).toNat),xI (gi (gl B k) (((q:Int)) - ((1:Int)))),xI (d),xB (false),xB (false),xB (false)] O (eL O) ?_ ?_
    ·refine⟨Dr O,Dr O,fun _ _ _ _ _=>eh O Az,?_,fun _ _ _ _ _=>fv O O (Az (by exact aF Value.bool (cj (fun h=>h (by omega))))),Dr O,fun _ _ hb _ _=>av O (aU (h1.below hb) O Az),fun _ _ hb _ _=>av O (bh (h1.below hb) O Az),Dr O,fun _ _ hb _ _=>av O (aD (hR.aq hb).2 O Az),fun _ _ hb _ _=>av O (a8 (hR.aq hb) O Az),fun _ _ hb _ _=>av O (aU (h1.below hb) O Az),fun _ _ hb _ _=>av O (bh (h1.below hb) O Az),Dr O,fun _ _ hb _ _=>av O (aD (hR.aq hb).2 O Az),fun _ _ hb _ _=>av O (a8 (hR.aq hb) O Az),fun _ _ _ _ _=>Dk O (by exact aF Value.bool (cj (by omega))),Dr O,Dr O,Dr O,fun _ _ _ _ _=>Dk O (by exact aF Value.bool (dM (by omega))),Dr O,Dr O,Dr O,fun _ _ _ _ _=>av O (eh O Az),fun _ _ hb _ _=>av O (aD (iA.aq hb).2 O Az),fun _ _ hb _ _=>av O (a8 (iA.aq hb) O Az),Dr O,fun _ _ _ _ _=>Dk O (by exact aF Value.bool (cj (by omega))),Dr O,Dr O,au⟩;intro e1 w1 hb hp aW;refine aQ (ye _ _ _ _) O ?_;rintro _ w2 ⟨rfl,aw⟩;subst aw;refine ao.n (d0 (by exact O))
    intro u w6 hb _;refine eP O (Cd.fC O ?_);refine aA O (aH O (aT O (tQ ?_)));exact⟨q+1,by show(rg rs k).n - (q+1)< (rg rs k).n - q;omega,(amz O),by omega,kN.aq hb⟩
   refine eo [xI (d),xI ((N:Int)),xI (((N:Int)) - ((1:Int))),xB (decide (0<=d/\d<=(N:Int) - 1)),xB (false),xB (false),xP (ay (A1) 1),xS (A) (N) (cA),xI (d),xP (ay (A) (d).toNat),xI (gi (R) (d)),xP (ay (A1) 1),xS (A) (N) (cA),xI ((k:Int)),xP (ay (A) ((k:Int)).toNat),xI (gi (R) ((k:Int))),xB (false),xB (false),xB (false),xI ((q:Int)),xB (false),xB (false),xU,xU,xU,xU,xU,xU,xU,xB (false),xB (false)] O (eL O) ?_ ?_
   ·refine⟨Dr O,Dr O,fun _ _ _ _ _=>eh O Az,?_,fun _ _ _ _ _=>fv O O (Az (by exact aF Value.bool (cj (fun h=>h (by omega))))),Dr O,fun _ _ hb _ _=>av O (aU (h1.below hb) O Az),fun _ _ hb _ _=>av O (bh (h1.below hb) O Az),Dr O,fun _ _ hb _ _=>av O (aD (hR.aq hb).2 O Az),fun _ _ hb _ _=>av O (a8 (hR.aq hb) O Az),fun _ _ hb _ _=>av O (aU (h1.below hb) O Az),fun _ _ hb _ _=>av O (bh (h1.below hb) O Az),Dr O,fun _ _ hb _ _=>av O (aD (hR.aq hb).2 O Az),fun _ _ hb _ _=>av O (a8 (hR.aq hb) O Az),fun _ _ _ _ _=>Dk O (by exact aF Value.bool (cj (by omega))),Dr O,Dr O,Dr O,fun _ _ _ _ _=>Dk O (by exact aF Value.bool (cj (by omega))),Dr O,Dr O,Dr O,Dr O,Dr O,Dr O,Dr O,Dr O,Dr O,Dr O,au⟩;intro e1 w1 hb hp aW;refine aQ (ye _ _ _ _) O ?_;rintro _ w2 ⟨rfl,aw⟩;subst aw;refine ao.n (d0 (by exact O))
   intro u w6 hb _;refine eP O (Cd.fC O ?_);refine aA O (aH O (aT O (tQ ?_)));exact⟨q+1,by show(rg rs k).n - (q+1)< (rg rs k).n - q;omega,(amz O),by omega,kN.aq hb⟩
  refine bn O (bo (cL O (aH O (aT O (tQ ?_)))));exact⟨k+1,by show N - (k+1)<N - k;omega,(amz O),by omega,aw.aq kN.below⟩
 clear aw h3;refine bn O (bo (cL O ?_));refine aU h1 O (bh h1 O ?_);refine bc O O (aC O ?_);refine Cd.loop (α:=Nat) (fun k=> [(1,.pointer A1),(100,.slice D N cD),(101,ak N),(102,ak k)]) (fun k w'=>k<=N/\St w4 w' []) (fun k=>N - k) 0 (amz O) ⟨aZ _,St.refl _⟩ ?_;rintro k e w5 ⟨hk,aw⟩;have hb:=aw.below;have h1:=Rd.below h1 hb;have hB:=hB.aq hb;have aI:=aI.aq hb;clear hb;refine bJ O (aM _ O (fun h3=>?_) (fun h3=>?_))
 ·have xw:k<N:=by omega
  have iA:=hB.at_ (i:=(k:Int)) (by omega) (by omega);have oV:=iA.1;have Dg:=cI k xw;have js:=bP k xw;refine aA O (aD hB.top.2 O (bW hB.top O ?_));refine ar O (bc O O (aC O ?_));refine Cd.loop (α:=Nat) (fun q=> [(1,.pointer A1),(100,.slice D N cD),(101,ak N),(102,ak k),(9,.slice (rg rs k).a (rg rs k).n (rg rs k).c),(106,.slice (rg rs k).a (rg rs k).n (rg rs k).c),(107,ak ((rg rs k).n:Int)),(108,ak q)]) (fun q w'=>q<=(rg rs k).n/\w'=w5) (fun q=> (rg rs k).n - q) 0 (amz O) ⟨aZ _,O⟩ ?_;rintro q e w6 ⟨hq,rfl⟩;refine bJ O (aM _ O (fun h4=>?_) (fun h4=>?_))
  ·have Bb:q< (gl B k).length:=by omega
   have qa:=gi_in Bb;have hd:=js.2 (gi (gl B k) q) qa;refine aA O (aD iA.2 O (a8 iA O (ar O (aU h1 O (bh h1 O (ar O ?_))))));generalize Se:gi (gl B k) q=d at*;have oU:=hB.at_ (i:=d) (by omega) (by omega);have hrdn:=oU.1;have Fc:(gl B d).length<=500:=by
    have:=cI d.toNat (by omega)
    rwa [Int.toNat_of_nonneg hd.1.1]at this
   refine aD hB.top.2 O (bW hB.top O ?_);refine bc O O (aC O ?_);refine Cd.loop (α:=Nat) (fun t=> [(1,.pointer A1),(100,.slice D N cD),(101,ak N),(102,ak k),(9,.slice (rg rs k).a (rg rs k).n (rg rs k).c),(106,.slice (rg rs k).a (rg rs k).n (rg rs k).c),(107,ak ((rg rs k).n:Int)),(108,ak q),(116,.slice (rg rs d).a (rg rs d).n (rg rs d).c),(117,ak ((rg rs d).n:Int)),(118,ak t)]) (fun t w'=>t<=(rg rs d).n/\w'=w6) (fun t=> (rg rs d).n - t) 0 (amz O) ⟨aZ _,O⟩ ?_;rintro t e w7 ⟨ht,rfl⟩;refine bJ O (aM _ O (fun h5=>?_) (fun h5=>?_))
   ·have htn:t< (gl B d).length:=by omega
    have pq:=gi_in htn;have htr:=hP.tr k (by omega) d qa _ pq;refine aA O (aD oU.2 O (a8 oU O (ar O (aQ (PH _ _ _ (gl B k) _ _ iA js.1 (by omega)) O ?_))));rintro _ _ ⟨⟨p,rfl⟩,rfl⟩;refine ar O ?_
    first | refine fv rfl rfl ?_ | refine gA rfl rfl ?_
    refine aC O (nP O (fun h=>h htr) (aA O (aH O (aT O (tQ ?_)))));exact⟨t+1,by show(rg rs d).n - (t+1)< (rg rs d).n - t;omega,(amz O),by omega,O⟩
   refine bn O (bo (cL O (aH O (aT O (tQ ?_)))));exact⟨q+1,by show(rg rs k).n - (q+1)< (rg rs k).n - q;omega,(amz O),by omega,O⟩
  refine bn O (bo (cL O (aH O (aT O (tQ ?_)))));exact⟨k+1,by show N - (k+1)<N - k;omega,(amz O),by omega,aw⟩
 refine bn O (bo (gq O ?_));exact dz O ⟨O,aI⟩
section
variable {P:Program} {N:Nat} {ops:Array Oper} {K:Env->aa->Prop} {rest:List Oper} {e:Env} {w:aa} {d:Nat} {ty:ae} {pos:String} {af:Array Edge}
theorem Xh{F:FuncId}{x y z u:ag}{v1 v2 v3 v4:ad}(hx:ev e x=v1)(hy:ev e y=v2)(hz:ev e z=v3)(hu:ev e u=v4)(hb:Nat.blt d N=true)(hK:ao P N ops K rest (br e d (.func (.func F) #[] #[v1,v2,v3,v4])) w):
 ao P N ops K (⟨some d,.makeFunc (.func F) #[] #[x,y,z,u],ty,pos,af,none⟩::rest) e w:=
 .val (by simp [execOp,Instr.makeFunc,hx,hy,hz,hu]) hb hK
end
theorem zU{l:ah}(h:l.length<=401):cap l=l:=by
 unfold cap;exact gR h
def wW(U:ah):Nat->Int->ah
 | 0,_=> [[]]
 | k+1,e=> (gl U e).flatMap fun f=> (wW U k f).map (f:: ·)
def nt(U:ah)(k:Nat)(fl xs:ai):ah:=xs.flatMap fun e=> (wW U k e).map fun y=>fl++e::y
theorem aaB{U:ah}{k:Nat}{fl xs:ai}{j:Nat}(h:j<xs.length):nt U k fl (xs.take (j+1))=nt U k fl (xs.take j)++ (wW U k (gi xs j)).map fun y=>fl++gi xs j::y:=by
 unfold nt;rw [lV h,List.flatMap_append,b9 h];simp
theorem aaA(U:ah)(k:Nat)(fl:ai)(e:Int):(wW U (k+1) e).map (fun y=>fl++e::y)=nt U k (fl++ [e]) (gl U e):=by
 unfold nt;rw [wW,List.map_flatMap];refine aF (fun g=>List.flatMap g (gl U e)) (funext fun f=>?_);rw [List.map_map];refine rN fun y _=>?_
 show fl++e::f::y=(fl++ [e])++f::y;rw [gx];rfl
abbrev oI(PF A:aj)(c:Nat)(rs:List aO)(F:ah)(PB:aj)(n:Int)(AR:aj)(nR cR:Nat)(AD:aj)(m d:Nat)(PG PU Au:aj)(N cU:Nat)(dN:List aO)(U:ah)(fL:List Ck):List Ck:=
 Bx 22 1 PF [.slice A F.length c]::(aL 34 2 A F.length c rs F++ (bD PB n AR nR cR AD m d::Bx 161 1 PG [.func (.func 166) #[] #[.pointer PF,.pointer PB,.pointer PG,.pointer PU]]::Bx 22 1 PU [.slice Au N cU]::(aL 34 2 Au N cU dN U++fL)))
theorem ahs{α:Type}(x b c:α)(X Y:List α):(x::b::c::(X++Y)).Perm (b::c::((X++ [x])++Y)):=by
 classical
 refine jA.2 fun z=>?_
 simp only [lu,jz,kC];omega
theorem Hj(PF A:aj)(c:Nat)(rs:List aO)(F:ah)(PB:aj)(n:Int)(AR:aj)(nR cR:Nat)(AD:aj)(m d:Nat)(PG PU Au:aj)(N cU:Nat)(dN:List aO)(U:ah)(fL:List Ck):(bD PB n AR nR cR AD m d::Bx 161 1 PG [.func (.func 166) #[] #[.pointer PF,.pointer PB,.pointer PG,.pointer PU]]::Bx 22 1 PU [.slice Au N cU]::(aL 34 2 Au N cU dN U++fL)).Sublist (oI PF A c rs F PB n AR nR cR AD m d PG PU Au N cU dN U fL):=(iQ _ _).cons _
theorem Rn(PF A:aj)(c:Nat)(rs:List aO)(F:ah)(PB:aj)(n:Int)(AR:aj)(nR cR:Nat)(AD:aj)(m d:Nat)(PG PU Au:aj)(N cU:Nat)(dN:List aO)(U:ah)(fL:List Ck)(x:Ck):(x::oI PF A c rs F PB n AR nR cR AD m d PG PU Au N cU dN U fL).Perm (oI PF A c rs F PB n AR nR cR AD m d PG PU Au N cU dN U (x::fL)):=by
 classical
 refine jA.2 fun z=>?_
 simp only [oI,lu,jz];omega
theorem Uy{w0 w':aa}{PF A:aj}{c:Nat}{rs:List aO}{F:ah}{PB:aj}{n:Int}{AR:aj}{nR cR:Nat}{AD:aj}{m d:Nat}{PG PU Au:aj}{N cU:Nat}{dN:List aO}{U:ah}{fL:List Ck}{t:ae}{B:aj}{q r:Nat}{xs:ai}(h:St w0 w' (oI PF A c rs F PB n AR nR cR AD m d PG PU Au N cU dN U (ax t B q r xs::fL))):cg w' B q xs:=(h.perm (Rn ..).symm).bz 0 rfl
theorem aaL(PF A:aj)(c:Nat)(rs:List aO)(F:ah)(PB:aj)(n:Int)(AR:aj)(nR cR:Nat)(AD:aj)(m d:Nat)(PG PU Au:aj)(N cU:Nat)(dN:List aO)(U:ah)(fL:List Ck)(x:Ck):(oI PF A c rs F PB n AR nR cR AD m d PG PU Au N cU dN U fL).Sublist (oI PF A c rs F PB n AR nR cR AD m d PG PU Au N cU dN U (x::fL)):=(((((((kU fL).cons x).append_left _).cons_cons _).cons_cons _).cons_cons _).append_left _).cons_cons _
theorem Ro{w0 w':aa}{PF A:aj}{c:Nat}{rs:List aO}{F:ah}{PB:aj}{n:Int}{AR:aj}{nR cR:Nat}{AD:aj}{m d:Nat}{PG PU Au:aj}{N cU:Nat}{dN:List aO}{U:ah}{fL:List Ck}(HC:U.length=N)(h:St w0 w' (oI PF A c rs F PB n AR nR cR AD m d PG PU Au N cU dN U fL)):bF w' Au N dN U:=
 St.jj (t1:=34) (t2:=2) (c:=cU) (h.sub (((((kU (aL 34 2 Au N cU dN U++fL)).cons _).cons _).cons _).trans (Hj ..))) HC
theorem aaE(w0:aa)(n:Nat)(S4:n<=5)(PF PB AR AD PG PU Au:aj)(nR cR m d N cU:Nat)(dN:List aO)(U:ah)(HC:U.length=N)(hN:N<=500)(hUr:∀e:Nat,e<N->(gl U e).length<=500/\∀x∈gl U e,0<=x/\x< (N:Int)):
 ∀(k nf nx:Nat) (fl xs:ai) (Af Ax:aj) (cf cx:Nat) (fL:List Ck) (w:aa) (A:aj) (c:Nat) (rs:List aO) (F:ah),fl.length=nf->xs.length=nx->nf+ (k+1)=n->nx<=500->(∀x∈xs,0<=x/\x< (N:Int))->
  (∀w' A c rs F,St w0 w' (oI PF A c rs F PB n AR nR cR AD m d PG PU Au N cU dN U fL)->cg w' Af nf fl)->
  (∀w' A c rs F,St w0 w' (oI PF A c rs F PB n AR nR cR AD m d PG PU Au N cU dN U fL)->cg w' Ax nx xs)->
  rs.length=F.length->F.length<=401->St w0 w (oI PF A c rs F PB n AR nR cR AD m d PG PU Au N cU dN U fL)->
  aK prog 166 [.slice Af nf cf,.slice Ax nx cx,.pointer PF,.pointer PB,.pointer PG,.pointer PU] w (fun v w'=>v= .tuple #[]/\∃A' c' rs',rs'.length=(cap (F++nt U k fl xs)).length/\St w0 w' (oI PF A' c' rs' (cap (F++nt U k fl xs)) PB n AR nR cR AD m d PG PU Au N cU dN U fL)):=by
 intro k
 induction k using Nat.strongRecOn with
 | _ k ih=>
  intro nf nx fl xs Af Ax cf cx fL w A c rs F Dd iJ jQ MM Bi hf hx dH hF hS;refine bA func166 O ntmps166 O (Bu O) ?_;refine bg O (bc O O (aC O ?_));refine Cd.loop (α:=Nat×aj×Nat×List aO) (fun z=> [(0,.slice Af nf cf),(2,.pointer PF),(3,.pointer PB),(4,.pointer PG),(5,.pointer PU),(11,.slice Ax nx cx),(12,ak nx),(13,ak (z.1:Int))])
   (fun z w'=>z.1<=nx/\z.2.2.2.length=(cap (F++nt U k fl (xs.take z.1))).length/\St w0 w' (oI PF z.2.1 z.2.2.1 z.2.2.2 (cap (F++nt U k fl (xs.take z.1))) PB n AR nR cR AD m d PG PU Au N cU dN U fL)) (fun z=>nx - z.1) (0,A,c,rs) ⟨rfl,rfl,rfl,rfl,rfl,rfl,rfl,rfl,au⟩ ⟨aZ _,by
     show rs.length=(cap (F++ [])).length;rw [fj,zU hF];exact dH,by
     show St w0 w (oI PF A c rs (cap (F++ [])) _ _ _ _ _ _ _ _ _ _ _ _ _ _ _ _);rw [fj,zU hF];exact hS⟩ ?_
  clear hS dH;rintro⟨j,A,c,rs⟩ e w1 ⟨hj,dH,hS⟩;dsimp only at hj dH hS|-;generalize hG:F++nt U k fl (xs.take j)=G at*;refine bJ O (aM _ O (fun h1=>?_) (fun h1=>?_))
  ·have vi:j<xs.length:=by omega
   have hR:=hx _ _ _ _ _ hS;have Fp:=Bi _ (gi_in vi);have CR:F++nt U k fl (xs.take (j+1))=G++ (wW U k (gi xs j)).map fun y=>fl++gi xs j::y:=by
    rw [aaB vi,<-gx,hG]
   have H6:F++nt U k fl xs=G++nt U k fl (xs.drop j):=by
    rw [<-hG,gx]
    congr 1
    unfold nt;rw [<-List.flatMap_append,List.take_append_drop]
   refine aA O (aD hR.2 O (a8 hR O (ar O ?_)));obtain⟨E,hE⟩:∃E:Nat,gi xs j=E:=⟨(gi xs j).toNat,by omega⟩;rw [hE]at CR Fp|-;refine aQ (Ge Af nf cf fl _ (hf _ _ _ _ _ hS) (by omega)) O ?_;rintro _ w2 ⟨sR,zT,rfl,aw⟩;have aE:=hS.call aw;clear aw hS;refine ar O (eS aE O O O ?_);intro jk w3 aR;refine fk 1 aR O (aR.bz 0 O) O O O ?_;intro dW fq w4 aX;have aX:St w0 w4 (ax 2 dW (nf+1) fq (fl++ [(E:Int)])::oI PF A c rs (cap G) PB n AR nR cR AD m d PG PU Au N cU dN U fL):=aX.tail;clear aR aE;have dF:Rd w4 PF 1 (fun _=> .slice A (cap G).length c):=Rd.one (aX.rd 1 O);refine ar O (amv (j:=0) dF (by exact aF Value.pointer (jh _).symm) O O O O ?_);refine bc O O (aC O ?_);refine aM _ O (fun h2=>?_) (fun h2=>?_)
   ·refine dX O (fz (eW ?_));refine NY ⟨O,A,c,rs,?_,?_⟩
    ·rw [H6,GL _ (by omega)];exact dH
    ·rw [H6,GL _ (by omega)];exact aX.tail
   have dh:=J9 (l:=G) (by omega);have eM:=((aX.tail).sub (Hj ..)).rd 0 O
   by_cases mR:k=0
   ·--dup 2
    refine dw O (eo [xS (dW) (nf+1) (fq),xI ((nf+1:Nat):Int),xP (ay (PB) 0),xI ((n:Int)),xB (true),xB (true)] O (eL O) ?_ ?_)
    ·refine⟨Dr O,?_,fun _ _ hb _ _=>aU (eM.below hb) O Az,fun _ _ hb _ _=>iy (eM.below hb) O O O O O Az,fun _ _ _ _ _=>Dk O (by exact aF Value.bool (dM (by omega))),Dr O,au⟩
     ·intro e1 w1 hb hp aW;refine aQ (wH _ _ _ _) O ?_;rintro _ w2 ⟨rfl,aw⟩;subst aw;refine ao.n (d0 (by exact O))
    intro u w5 lI _;have aY:=aX.aq lI;clear aX eM dF;have dF:Rd w5 PF 1 (fun _=> .slice A (cap G).length c):=Rd.one (aY.rd 1 O);refine eP O (Cd.gC O (aA O (amv (j:=0) dF (by exact aF Value.pointer (jh _).symm) O O O O (ar O (kV aY O O O ?_)))));intro A41 w6 bk;refine lA 3 bk O (bk.fG 0 O) O O O (by omega) (by omega) O ?_;intro BK Cs w7 bG;refine ao.st (i:=2) (j:=0) bG O (by exact aF Value.pointer (jh _).symm) O O (Nat.succ_pos _) ?_;intro w8 b6;have bL:St w0 w8 (ax 2 dW (nf+1) fq (fl++ [(E:Int)])::Bx 22 1 PF [.slice BK ((cap G).length+1) Cs]::bZ 34 BK ((cap G).length+1) Cs (rs++ [⟨dW,nf+1,fq⟩])::(cK 2 rs (cap G)++_)):=b6.tail;have bL:=bL.perm (ahs _ _ _ _ _);rw [<-o9 dH]at bL;have hex:(wW U k (E:Int)).map (fun y=>fl++ (E:Int)::y)=[fl++ [(E:Int)]]:=by rw [mR];rfl
    rw [hex]at CR;have ue:=YD (l:=G) (fl++ [(E:Int)]) (by omega);refine ar O (aH O (aT O (tQ ?_)));refine⟨(j+1,BK,Cs,rs++ [⟨dW,nf+1,fq⟩]),by show nx - (j+1)<nx - j;omega,(amz O),by show j+1<=nx;omega,?_,?_⟩
    ·show(rs++ [_]).length=(cap (F++nt U k fl (xs.take (j+1)))).length;rw [CR,ue,b8,b8,dH];rfl
    ·show St w0 w8 (oI PF BK Cs (rs++ [_]) (cap (F++nt U k fl (xs.take (j+1)))) PB n AR nR cR AD m d PG PU Au N cU dN U fL);rw [CR,ue];show St w0 w8 (Bx _ 1 PF [.slice BK (cap G++ [fl++ [(E:Int)]]).length Cs]::(bZ _ BK (cap G++ [fl++ [(E:Int)]]).length Cs _::_));rw [show(cap G++ [fl++ [(E:Int)]]).length=(cap G).length+1 by simp];exact bL
   ·obtain⟨k',rfl⟩:∃k',k=k'+1:=⟨k - 1,by omega⟩;rw [aaA]at CR;refine dw O (eo [xS (dW) (nf+1) (fq),xI ((nf+1:Nat):Int),xP (ay (PB) 0),xI ((n:Int)),xB (false),xB (false)] O (eL O) ?_ ?_)
    ·refine⟨Dr O,?_,fun _ _ hb _ _=>aU (eM.below hb) O Az,fun _ _ hb _ _=>iy (eM.below hb) O O O O O Az,fun _ _ _ _ _=>Dk O (by exact aF Value.bool (cj (by omega))),Dr O,au⟩
     ·intro e1 w1 hb hp aW;refine aQ (wH _ _ _ _) O ?_;rintro _ w2 ⟨rfl,aw⟩;subst aw;refine ao.n (d0 (by exact O))
    intro u w5 lI _;have aY:=(aX.aq lI).perm (Rn ..);clear aX eM dF;have fR:Rd w5 PG 1 (fun _=> .func (.func 166) #[] #[.pointer PF,.pointer PB,.pointer PG,.pointer PU]):=Rd.one ((aY.sub (Hj ..)).rd 1 O);have og:Rd w5 PU 1 (fun _=> .slice Au N cU):=Rd.one ((aY.sub (Hj ..)).rd 2 O);have hU:=Ro HC aY;have Tr:=hU.at_ (i:=(E:Int)) (by omega) (by omega);have wa:=hUr E (by omega);refine eP O (Cd.fC O ?_);refine kB [6] [.ex (.func (.func 166) #[] #[.pointer PF,.pointer PB,.pointer PG,.pointer PU]),yS (dW) (nf+1) (fq),yS (Au) (N) (cU),yI ((E:Int)),yP (ay (Au) ((E:Int)).toNat),yS ((rg (dN) ((E:Int))).a) ((rg (dN) ((E:Int))).n) ((rg (dN) ((E:Int))).c),.pr (fun v w'=>∃A' c' rs',rs'.length=(cap (cap G++nt U k' (fl++ [(E:Int)]) (gl U E))).length/\St w0 w' (oI PF A' c' rs' (cap (cap G++nt U k' (fl++ [(E:Int)]) (gl U E))) PB n AR nR cR AD m d PG PU Au N cU dN U fL))] (ly (ly (ly (ly (ly (ly (de.2 ⟨Ye.dp (fun v w w' h hb=>by obtain⟨A',c',rs',fX,hT⟩:=h;exact⟨A',c',rs',fX,hT.aq hb⟩),(fun _ h=>by cases h)⟩))))))) ?_ ?_
    ·refine⟨?_,bT O,cP fun _ _ hb _ _ _=>amv (j:=0) (og.below hb) (by exact aF Value.pointer (jh _).symm) O O O O (bE O O),bT O,cP fun _ _ hb _ _ _=>aD (hU.top.aq hb).2 O (bE O O),cP fun _ _ hb _ _ _=>bW (hU.top.aq hb) O (bE O O),?_,au⟩
     ·refine cP fun e1 w1 hb hp aW hq=>?_
      refine ao.ld (Rd.below fR hb) (by exact aF Value.pointer (jh _).symm) (by decide) O O O ?_;refine ao.n (iN O (by exact O))
     ·refine kG fun e1 w1 hb hp aW hq=>?_
      refine aQ (ih k' (Nat.lt_succ_self _) (nf+1) (rg dN E).n (fl++ [(E:Int)]) (gl U E) dW (rg dN E).a fq (rg dN E).c (ax 2 dW (nf+1) fq (fl++ [(E:Int)])::fL) _ A c rs (cap G) (by rw [b8,Dd];rfl) Tr.1 (by omega) (by have:=Tr.1;omega) wa.2 (fun w' A c rs F h=>Uy h) (fun w' A c rs F h=> (Ro HC h).at_ (i:=(E:Int)) (by omega) (by omega)) dH (Ka G) (aY.aq hb)) O ?_;rintro _ w9 ⟨rfl,A',c',rs',fX,bL⟩;exact ao.n (fY.dn O ⟨A',c',rs',fX,bL.sub (aaL ..)⟩)
    intro u w6 _ hu _ _;obtain⟨A',c',rs',fX,hT⟩:=hu 6 _ rfl (by kernel_rfl);rw [dh,<-CR]at fX hT;refine jW O (aH O (aT O (tQ ?_)));exact⟨(j+1,A',c',rs'),by show nx - (j+1)<nx - j;omega,(amz O),by show j+1<=nx;omega,fX,hT⟩
  ·have vi:j=xs.length:=by omega
   rw [vi,List.take_length]at hG;rw [<-hG]at dH hS;refine bn O (bo (BP O ?_));exact x8 ⟨O,A,c,rs,dH,hS⟩
def wI(n:Nat)(R:ai)(B:ah)(E F x:Nat):ai:=
 if x<E then []else(ke R B x).filter fun g=>decide (dS n R B g/\(x=E->g< (F:Int)))
def gE(n:Nat)(R:ai)(B:ah)(E F:Nat):ah:=(List.range R.length).map (wI n R B E F)
def vS(n:Nat)(R:ai)(B:ah)(E F x:Nat):Bool:=
 if x<E then false else if x=E then decide (gi R x=(n:Int) - 1\/∃g∈ke R B x,dS n R B g/\g< (F:Int))else decide (dS n R B x)
def gy(n:Nat)(R:ai)(B:ah)(E F:Nat):List Bool:=(List.range R.length).map (vS n R B E F)
section
variable {n:Nat} {R:ai} {B:ah} {E F x:Nat}
theorem zB:(gE n R B E F).length=R.length:=by simp [gE]
theorem s5:(gy n R B E F).length=R.length:=by simp [gy]
theorem Oq(h:x<R.length):gl (gE n R B E F) x=wI n R B E F x:=by
 rw [b7 (by rw [zB];exact h)];simp [gE]
theorem Pg(h:x<R.length):gb (gy n R B E F) x=vS n R B E F x:=by
 unfold gb;rw [jc,da,fZ (by rw [s5];exact h),Option.getD_some];simp [gy]
theorem aj1:gE n R B R.length F=List.replicate R.length []:=by
 refine List.eq_replicate_iff.2 ⟨zB,fun y hy=>?_⟩;obtain⟨x,hx,rfl⟩:=dA.1 hy;unfold wI;rw [aB (il.1 hx)]
theorem XO:gy n R B R.length F=List.replicate R.length false:=by
 refine List.eq_replicate_iff.2 ⟨s5,fun y hy=>?_⟩;obtain⟨x,hx,rfl⟩:=dA.1 hy;unfold vS;rw [aB (il.1 hx)]
theorem zC(hP:gr n R B){e g:Int}(h:g∈ke R B e):e<g/\g<R.length:=by
 obtain⟨h1,_,h3⟩:=mF.1 h;exact⟨((hP.at_ h1.1 h1.2).2.1 e h3).1.2,h1.2⟩
theorem aj4(hP:gr n R B)(hE:E<R.length):gE n R B E (E+1)=gE n R B (E+1) R.length:=by
 refine rN fun x hx=>?_
 have hx:=il.1 hx;unfold wI
 by_cases c1:x<E
 ·rw [aB c1,aB (by omega)]
 rw [az c1]
 by_cases c2:x=E
 ·subst c2;rw [aB (by omega),List.filter_eq_nil_iff];intro g hg h;have h3:=(tB h).2 O;have:=zC hP hg;omega
 rw [az (by omega)];refine List.filter_congr fun g hg=>kk.2 ?_
 have:=zC hP hg;exact⟨fun h=> ⟨h.1,fun _=>by omega⟩,fun h=> ⟨h.1,fun h=>absurd h c2⟩⟩
theorem aj3(h:¬(dS n R B F/\(F:Int)∈ke R B E)):gE n R B E (F+1)=gE n R B E F:=by
 refine rN fun x hx=>?_
 unfold wI
 by_cases c1:x<E
 ·rw [aB c1,aB c1]
 rw [az c1,az c1];refine List.filter_congr fun g hg=>kk.2 ⟨fun h2=> ⟨h2.1,fun e=>?_⟩,fun h2=> ⟨h2.1,fun e=>by have:=h2.2 e;omega⟩⟩
 have h3:=h2.2 e;subst e;have:g≠(F:Int):=fun e=>h ⟨e▸h2.1,e▸hg⟩
 omega
theorem aj2(hE:E<R.length)(h:dS n R B F/\(F:Int)∈ke R B E):(gE n R B E F).set E (gl (gE n R B E F) E++ [(F:Int)])=gE n R B E (F+1):=by
 apply ki (by rw [lT,zB,zB]);intro x h1 h2;rw [zB]at h2;have e2:∀d' (hx:x< (gE n R B E d').length),(gE n R B E d')[x]=wI n R B E d' x:=fun d' hx=>by simp [gE]
 rw [List.getElem_set,e2 (F+1) (by rw [zB];exact h2),e2 F (by rw [zB];exact h2)]
 by_cases c:E=x
 ·subst c;rw [aB rfl,Oq hE];unfold wI;rw [az (Nat.lt_irrefl _),az (Nat.lt_irrefl _)];have hs:=DP R B E;refine SA.eq ?_ (pc _ hs) fun y=>?_
  ·rw [SA,List.pairwise_append];refine⟨pc _ hs,List.pairwise_singleton _ _,fun a ha b hb=>?_⟩;obtain rfl:=gG.1 hb;exact(tB (gg.1 ha).2).2 O
  rw [kj,gg,gg,gG];simp only [lg];constructor
  ·rintro(⟨h3,h4,h5⟩ | rfl)
   ·exact⟨h3,h4,fun e=>by have:=h5 e;omega⟩
   exact⟨h.2,h.1,fun _=>by omega⟩
  rintro⟨h3,h4,h5⟩
  by_cases e3:y=(F:Int)
  ·exact .inr e3
  exact .inl ⟨h3,h4,fun e=>by have:=h5 e;omega⟩
 rw [az c];unfold wI
 by_cases c1:x<E
 ·rw [aB c1,aB c1]
 rw [az c1,az c1];exact List.filter_congr fun g hg=>kk.2 ⟨fun h2=> ⟨h2.1,fun e=>absurd e.symm c⟩,fun h2=> ⟨h2.1,fun e=>absurd e.symm c⟩⟩
theorem Ph{x:Nat}(hP:gr n R B)(hx:x<R.length)(h:(gi R x=(n:Int) - 1\/∃g∈ke R B x,dS n R B g/\g< (R.length:Int))):dS n R B x:=by
 rcases h with h | ⟨g,h1,h2,_⟩
 ·exact Po h
 have h3:=(mF.1 h1);have:=hP.ri h3.1.1 h3.1.2;have:=hP.ri (e:=(x:Int)) (by omega) (by omega);exact(Gz (by omega) (by omega)).2 ⟨g,h1,h2⟩
theorem Pj{x:Nat}(hP:gr n R B)(hx:x<R.length)(h:dS n R B x):(gi R x=(n:Int) - 1\/∃g∈ke R B x,dS n R B g/\g< (R.length:Int)):=by
 have:=hP.ri (e:=(x:Int)) (by omega) (by omega)
 by_cases c:gi R x=(n:Int) - 1
 ·exact .inl c
 obtain⟨g,h1,h2⟩:=(Gz (by omega) (by omega)).1 h;exact .inr ⟨g,h1,h2,(zC hP h1).2⟩
theorem XR(hP:gr n R B)(hE:E<R.length):(gy n R B (E+1) R.length).set E (decide (gi R E=(n:Int) - 1))=gy n R B E (E+1):=by
 apply ki (by rw [lT,s5,s5]);intro x h1 h2;rw [s5]at h2;have e2:∀e' d' (hx:x< (gy n R B e' d').length),(gy n R B e' d')[x]=vS n R B e' d' x:=fun e' d' hx=>by simp [gy]
 rw [List.getElem_set,e2 _ _ (by rw [s5];exact h2),e2 _ _ (by rw [s5];exact h2)];unfold vS
 by_cases c:E=x
 ·subst c;rw [aB rfl,az (Nat.lt_irrefl _),aB rfl];refine kk.2 ⟨fun h=> .inl h,fun h=>?_⟩;rcases h with h | ⟨g,h3,_,h4⟩
  ·exact h
  have:=zC hP h3;omega
 rw [az c]
 by_cases c1:x<E
 ·rw [aB (by omega),aB c1]
 rw [az (by omega),az c1,az (show ¬x=E from fun e=>c e.symm)]
 split
 ·refine kk.2 ⟨fun h=>Ph hP h2 h,fun h=>Pj hP h2 h⟩
 rfl
theorem XQ(h:¬(dS n R B F/\(F:Int)∈ke R B E)):gy n R B E (F+1)=gy n R B E F:=by
 refine rN fun x hx=>?_
 unfold vS
 by_cases c1:x<E
 ·rw [aB c1,aB c1]
 rw [az c1,az c1]
 by_cases c2:x=E
 ·subst c2;rw [aB rfl,aB rfl];refine kk.2 (or_congr Iff.rfl ⟨?_,?_⟩)
  ·rintro⟨g,h1,h2,h3⟩;have:g≠(F:Int):=fun e=>h ⟨e▸h2,e▸h1⟩
   exact⟨g,h1,h2,by omega⟩
  rintro⟨g,h1,h2,h3⟩;exact⟨g,h1,h2,by omega⟩
 rw [az c2,az c2]
theorem XP(hE:E<R.length)(h:dS n R B F/\(F:Int)∈ke R B E):(gy n R B E F).set E true=gy n R B E (F+1):=by
 apply ki (by rw [lT,s5,s5]);intro x h1 h2;rw [s5]at h2;have e2:∀e' d' (hx:x< (gy n R B e' d').length),(gy n R B e' d')[x]=vS n R B e' d' x:=fun e' d' hx=>by simp [gy]
 rw [List.getElem_set,e2 _ _ (by rw [s5];exact h2),e2 _ _ (by rw [s5];exact h2)];unfold vS
 by_cases c:E=x
 ·subst c;rw [aB rfl,az (Nat.lt_irrefl _),aB rfl];exact(dM (.inr ⟨_,h.2,h.1,by omega⟩)).symm
 rw [az c]
 by_cases c1:x<E
 ·rw [aB c1,aB c1]
 rw [az c1,az c1,az (fun e=>c e.symm),az (fun e=>c e.symm)]
theorem XN(hP:gr n R B)(z8:E<F)(hF:F<R.length):gb (gy n R B E F) F=decide (dS n R B F):=by
 rw [Pg hF];unfold vS;rw [az (by omega),az (by omega)]
theorem XM(hP:gr n R B)(hx:x<R.length):gb (gy n R B 0 R.length) x=decide (dS n R B x):=by
 rw [Pg hx];unfold vS;rw [az (by omega)]
 split
 ·exact kk.2 ⟨fun h=>Ph hP hx h,fun h=>Pj hP hx h⟩
 rfl
theorem Wo(hP:gr n R B)(hx:x<R.length):gl (gE n R B 0 R.length) x=(ke R B x).filter fun g=>decide (dS n R B g):=by
 rw [Oq hx];unfold wI;rw [az (by omega)];refine List.filter_congr fun g hg=>kk.2 ⟨fun h=>h.1,fun h=> ⟨h,fun _=> (zC hP hg).2⟩⟩
theorem En{α β:Type}{f g:α->List β}:∀ {l:List α},(∀x∈l,f x=g x)->l.flatMap f=l.flatMap g
 | [],_=>rfl
 | a::r,h=>by rw [List.flatMap_cons,List.flatMap_cons,h a (List.mem_cons_self ..),En fun x hx=>h x (qC _ hx)]
theorem QA(hP:gr n R B):∀(k:Nat) (e:Int),0<=e->e<R.length->(gi R e).toNat+k=n - 1->wW (gE n R B 0 R.length) k e=nq R B k e
 | 0,_,_,_,_=>rfl
 | k+1,e,h0,h1,h2=>by
  have hr:=hP.ri h0 h1;obtain⟨x,rfl⟩:∃x:Nat,e=x:=⟨e.toNat,by omega⟩;rw [wW,Wo hP (by omega),Ws hr.1 (by omega)];refine En fun f hf=>?_
  have hf:=(mF.1 (gg.1 hf).1);rw [QA hP k f hf.1.1 hf.1.2 (by omega)]
theorem aaz(hn:1<=n)(hP:gr n R B):nt (gE n R B 0 R.length) (n - 1) [] ((uU R).filter fun f=>decide (dS n R B f))=aG n R B:=by
 rw [PN];unfold nt;refine En fun e he=>?_
 have he:=tV.1 (gg.1 he).1;rw [QA hP _ e he.1.1 he.1.2 (by omega)]
 rfl
theorem Yt{m:Nat}(hm:m<R.length):((bS (m+1)).filter fun e=>decide (gi R e=0) && decide (dS n R B e))=((bS m).filter fun e=>decide (gi R e=0) && decide (dS n R B e))++ (if gi R m=0/\dS n R B m then [(m:Int)]else []):=by
 unfold bS;rw [jB,iD,rJ]
 congr 1
 by_cases c:gi R m=0/\dS n R B m
 ·rw [aB c];simp [c.1,c.2]
 rw [az c];rw [List.filter_eq_nil_iff];intro a ha h;obtain rfl:=gG.1 ha;simp at h;exact c h
theorem Ys:((bS R.length).filter fun e=>decide (gi R e=0) && decide (dS n R B e))=(uU R).filter fun f=>decide (dS n R B f):=by
 unfold uU;rw [List.filter_filter];exact List.filter_congr fun x _=>Bool.and_comm _ _
end
def xa(n:Nat)(R:ai)(B:ah):ah:=if(aG n R B).length<=400 then aG n R B else []
def pR(n:Nat)(R:ai)(B:ah):Int:=if(aG n R B).length<=400 then 0 else 3
abbrev uX(A1 PU Au fh:aj)(n:Nat)(A D:aj)(N cA cD:Nat)(al:List Bool)(dN:List aO)(U:ah):List Ck:=
 gw 4 fh N N al::Bx 22 1 PU [.slice Au N N]::bD A1 n A N cA D N cD::(aL 34 2 Au N N dN U++ [])
theorem QQ(n:Nat)(A D:aj)(cA cD:Nat)(R:ai)(rs:List aO)(B:ah)(w:aa)(hR:cg w A R.length R)(hB:bF w D B.length rs B)(hP:gr n R B):
 aK prog 92 [.agg #[ak n,.slice A R.length cA,.slice D B.length cD]] w (Gd (xa n R B) (pR n R B) w):=by
 have hn:=hP.n1;have sq:=hP.pe;have hle:=hP.len;have bP:=fun e (h:e<R.length)=>hP.row e h
 have cI:∀e:Nat,e<R.length->(gl B e).length<=500:=fun e h=>by
  have:=sJ (N:=R.length) (bP e h).1.nodup fun x hx=> ((bP e h).2 x hx).1
  omega
 have MH:∀E F:Nat,(gE n R B E F).length=R.length:=fun E F=>zB
 have sj:∀E F:Nat,(gy n R B E F).length=R.length:=fun E F=>s5
 have Tx:=fun E (h:E<R.length)=>aj4 (n:=n) hP h
 have Tw:=fun E (h:E<R.length)=>XR (n:=n) hP h
 have SN:=aj1 (n:=n) (R:=R) (B:=B) (F:=R.length);have SO:=XO (n:=n) (R:=R) (B:=B) (F:=R.length);have HY:=fun E F (h:E<F) (hF:F<R.length)=>XN (n:=n) hP h hF
 have Fa:=fun E F (hE:E<R.length) h=>aj2 (n:=n) (R:=R) (B:=B) (E:=E) (F:=F) hE h
 have Tb:=fun E F (hE:E<R.length) h=>XP (n:=n) (R:=R) (B:=B) (E:=E) (F:=F) hE h
 have Lb:bF w D R.length rs B:=hle▸hB;have acM:=TW n A D cA cD R rs B w hR hB hP;have nA:=fun x (h:x<R.length)=>XM (n:=n) hP h
 have TB:=fun x (h:x<R.length)=>Wo (n:=n) hP h
 have SJ:=aaz (n:=n) (by omega) hP;have xo:=fun m (h:m<R.length)=>Yt (n:=n) (B:=B) h
 have qR:=Ys (n:=n) (R:=R) (B:=B);have TC:=fun(e f:Int)=>mF (R:=R) (B:=B) (e:=e) (f:=f)
 obtain⟨N,hN⟩:∃N,R.length=N:=⟨_,rfl⟩;rw [hN]at hR sq hle bP cI Lb Tx Tw SN SO HY Fa Tb nA TB SJ xo qR;simp only [hN]at MH sj TC;rw [hN,hle]at acM|-;refine bA func92 O ntmps92 O (x5 O) (bg O (nV (St.refl w) O O ?_));intro A1 w1 aI;have h1:Rd w1 A1 3 (fun j=> [Value.int .i64 (n:Int),.slice A N cA,.slice D N cD].getD j undef):=aI.rd 0 O;refine ar O (ao.dq 2 h1 O O O ?_);refine amq (TW n A D cA cD R rs B w1 (by rw [hN];exact aI.gh hR) (by rw [hle];exact aI.cT Lb) hP) O (by rw [hN,hle];rfl) O ?_;rintro _ w2 ⟨rfl,aw⟩;have aE:=aI.aq aw.below;have h1:=Rd.below h1 aw.below;clear aw aI
 first | refine fv rfl rfl ?_ | refine gA rfl rfl ?_
 refine aC O (Cd.fC O (aA O (aU h1 O (bh h1 O (aQ (wH _ _ _ _) O ?_)))));rintro _ w2 ⟨rfl,rfl⟩;refine ar O (JG N aE O O (by omega) ?_);intro Au w3 aR;have aR:St w w3 ([bZ 34 Au N N (List.replicate N dO),bD A1 n A N cA D N cD]):=aR;refine ao.new (z:= .slice none 0 0) aR O O ?_;intro PU w4 aX;refine ao.st (i:=0) (j:=0) aX O (by exact aF Value.pointer (jh _).symm) O O (Nat.succ_pos _) ?_;intro w5 aY;have aY:St w w5 (Bx 22 1 PU [.slice Au N N]::[bZ 34 Au N N (List.replicate N dO),bD A1 n A N cA D N cD]):=aY;refine ar O (yj (v:=false) N aY O O (by omega) ?_);intro fh w6 bk;have bk:=IX (t:=2) N bk;have bG:St w w6 (uX A1 PU Au fh n A D N cA cD (gy n R B N N) (List.replicate N dO) (gE n R B N N)):=by
  rw [SN,SO];refine bk.perm ?_
  classical
  refine jA.2 fun z=>?_
  simp only [uX,aL,lu,jz,kC];omega
 clear bk aY aX aR aE h1;refine ar O (eh O (aC O ?_));refine Cd.loop (α:=Nat×List aO) (fun z=> [(1,.pointer A1),(4,ak N),(5,.pointer PU),(6,.slice fh N N),(7,ak ((z.1:Int) - 1))]) (fun z w'=>z.1<=N/\z.2.length=N/\St w w' (uX A1 PU Au fh n A D N cA cD (gy n R B z.1 N) z.2 (gE n R B z.1 N))) (fun z=>z.1) (N,List.replicate N dO) (amz O) ⟨bs _,by simp,bG⟩ ?_;clear bG;rintro⟨E',dN⟩ e w7 ⟨hE,wm,hS⟩;dsimp only at hE wm hS|-;refine bJ O (aM _ O (fun h2=>?_) (fun h2=>?_))
 ·obtain⟨E,rfl⟩:∃E,E'=E+1:=⟨E' - 1,by omega⟩;have se:E<N:=by omega
  rw [show((E+1:Nat):Int) - 1=(E:Int) by omega];have yF:=hS.gh hR;have hal7:=sj (E+1) N;refine dw O ?_;refine kB [12] [yS (fh) (N) (N),yI ((E:Int)),yP (ay (A1) 1),yS (A) (N) (cA),yI ((E:Int)),yP (ay (A) ((E:Int)).toNat),yI (gi (R) ((E:Int))),yP (ay (A1) 0),yI ((n:Int)),yI (((n:Int)) - ((1:Int))),yB (decide ((gi (R) ((E:Int)))=(((n:Int)) - ((1:Int))))),yP (ay (fh) ((E:Int)).toNat),.pr (fun _ w'=>St w w' (uX A1 PU Au fh n A D N cA cD ((gy n R B (E+1) N).set E (decide (gi R E=(n:Int) - 1))) dN (gE n R B (E+1) N)))] (ly (ly (ly (ly (ly (ly (ly (ly (ly (ly (ly (ly (de.2 ⟨Ye.dp (fun v w w' h hb=>h.aq hb),(fun _ h=>by cases h)⟩))))))))))))) ?_ ?_
  ·refine⟨bT O,bT O,cP fun _ _ hb _ _ _=>aU ((hS.rd 2 O).below hb) O (bE O O),cP fun _ _ hb _ _ _=>bh ((hS.rd 2 O).below hb) O (bE O O),bT O,cP fun _ _ hb _ _ _=>aD (yF.aq hb).2 O (bE O O),cP fun _ _ hb _ _ _=>a8 (yF.aq hb) O (bE O O),cP fun _ _ hb _ _ _=>aU ((hS.rd 2 O).below hb) O (bE O O),cP fun _ _ hb _ _ _=>iy ((hS.rd 2 O).below hb) O O O O O (bE O O),aP fun _ _=>eh O (bE O O),bT O,cP fun _ _ hb _ _ _=>aD ((hS.ji 0 O).aq hb).2 O (bE O O),?_,au⟩;refine kG fun e1 w1 hb hp aW hq=>?_
   exact tT 0 (hS.aq hb) O O O (by omega) fun w6 bk=>ao.n (fY.st O bk)
  intro u w8 _ hu kr hu3;have b6:=hu 12 _ O (by kernel_rfl);rw [Tw E se,<-Tx E se]at b6;clear hS hu kr hu3;refine jW O (aH O (aC O ?_));refine Cd.loop (α:=Nat×List aO) (fun z=> [(1,.pointer A1),(4,ak N),(5,.pointer PU),(6,.slice fh N N),(7,ak E),(8,ak (z.1:Int))]) (fun z w'=> (E<z.1/\z.1<=N)/\z.2.length=N/\St w w' (uX A1 PU Au fh n A D N cA cD (gy n R B E z.1) z.2 (gE n R B E z.1))) (fun z=>N - z.1) (E+1,dN) (amz O) ⟨⟨Nat.lt_succ_self _,by show E+1<=N;omega⟩,wm,b6⟩ ?_;clear b6 wm dN;rintro⟨F,dN⟩ e w9 ⟨⟨z8,hFN⟩,wm,hS⟩;dsimp only at z8 hFN wm hS|-;refine bJ O (aM _ O (fun h3=>?_) (fun h3=>?_))
  ·have hF:F<N:=by omega
   have tk:=hS.gh hR;have hB9:=hS.cT Lb;have hal9:=sj E F;have LS:=HY E F z8 hF;have Fe:=bP F hF;have MI:=TC (E:Int) (F:Int);have gf:=hP.ri (e:=(E:Int)) (by omega) (by omega);have h1:Rd w9 A1 3 (fun j=> [Value.int .i64 (n:Int),.slice A N cA,.slice D N cD].getD j undef):=hS.rd 2 O;have EN:gb (gy n R B E F) F=false\/(gb (gy n R B E F) F=true/\¬gi R F=gi R E+1)\/(gb (gy n R B E F) F=true/\gi R F=gi R E+1):=by
    cases gb (gy n R B E F) F<;>simp [Decidable.em,Classical.em]
    exact(Classical.em _).symm
   have mU:¬(dS n R B F/\(F:Int)∈ke R B E)->St w w9 (uX A1 PU Au fh n A D N cA cD (gy n R B E (F+1)) dN (gE n R B E (F+1))):=fun h=>by
    rw [XQ h,aj3 h];exact hS
   rcases EN with hg | ⟨hg,hr⟩ | ⟨hg,hr⟩
   ·
    have gD:¬(dS n R B F/\(F:Int)∈ke R B E):=fun h=>by
     rw [hg]at LS;have:=dM h.1;rw [<-LS]at this;cases this
    refine dw O (eo [xS (fh) (N) (N),xI ((F:Int)),xP (ay (fh) ((F:Int)).toNat),xB (gb (gy n R B E F) ((F:Int))),xB (false),xU,xU,xU,xU,xU,xU,xU,xU,xU,xU,xU,xU,xB (false),xB (false),xU,xU,xU,xB (false)] O (eL O) ?_ ?_)
    ·exact⟨Dr O,Dr O,fun _ _ hb _ _=>aD ((hS.ji 0 O).aq hb).2 O Az,fun _ _ hb _ _=>rP ((hS.ji 0 O).aq hb) O (by omega) O O Az,fun _ _ _ _ _=>Dk O (by exact aF Value.bool (hg)),Dr O,Dr O,Dr O,Dr O,Dr O,Dr O,Dr O,Dr O,Dr O,Dr O,Dr O,Dr O,Dr O,fun _ _ _ _ _=>Dk O (by exact aF Value.bool (O)),Dr O,Dr O,Dr O,Dr O,au⟩
    intro u dV hb _;refine eP O (Cd.fC O ?_);refine aA O (aH O (aT O (tQ ?_)));exact⟨(F+1,dN),by show N - (F+1)<N - F;omega,(amz O),⟨Nat.lt_succ_of_lt z8,hF⟩,wm,(mU gD).aq hb⟩
   ·have gD:¬(dS n R B F/\(F:Int)∈ke R B E):=fun h=>hr (MI.1 h.2).2.1
    refine dw O ?_;refine eo [xS (fh) (N) (N),xI ((F:Int)),xP (ay (fh) ((F:Int)).toNat),xB (gb (gy n R B E F) ((F:Int))),xB (true),xP (ay (A1) 1),xS (A) (N) (cA),xI ((F:Int)),xP (ay (A) ((F:Int)).toNat),xI (gi (R) ((F:Int))),xP (ay (A1) 1),xS (A) (N) (cA),xI ((E:Int)),xP (ay (A) ((E:Int)).toNat),xI (gi (R) ((E:Int))),xI ((gi (R) ((E:Int)))+ ((1:Int))),xB (decide ((gi (R) ((F:Int)))=((gi (R) ((E:Int)))+ ((1:Int))))),xB (decide ((gi (R) ((F:Int)))=((gi (R) ((E:Int)))+ ((1:Int))))),xB (false),xU,xU,xU,xB (false)] O (eL O) ?_ ?_
    ·exact⟨Dr O,Dr O,fun _ _ hb _ _=>aD ((hS.ji 0 O).aq hb).2 O Az,fun _ _ hb _ _=>rP ((hS.ji 0 O).aq hb) O (by omega) O O Az,fun _ _ _ _ _=>Dk O (by exact aF Value.bool (hg)),fun _ _ hb _ _=>av O (aU (h1.below hb) O Az),fun _ _ hb _ _=>av O (bh (h1.below hb) O Az),Dr O,fun _ _ hb _ _=>av O (aD (tk.aq hb).2 O Az),fun _ _ hb _ _=>av O (a8 (tk.aq hb) O Az),fun _ _ hb _ _=>av O (aU (h1.below hb) O Az),fun _ _ hb _ _=>av O (bh (h1.below hb) O Az),Dr O,fun _ _ hb _ _=>av O (aD (tk.aq hb).2 O Az),fun _ _ hb _ _=>av O (a8 (tk.aq hb) O Az),fun _ _ _ _ _=>av O (aH O Az),Dr O,Dr O,fun _ _ _ _ _=>Dk O (by exact aF Value.bool (cj hr)),Dr O,Dr O,Dr O,Dr O,au⟩
    intro u dV hb _;refine eP O (Cd.fC O ?_);refine aA O (aH O (aT O (tQ ?_)));exact⟨(F+1,dN),by show N - (F+1)<N - F;omega,(amz O),⟨Nat.lt_succ_of_lt z8,hF⟩,wm,(mU gD).aq hb⟩
   have ha:dS n R B F:=tB (LS▸hg);refine dw O ?_;refine eo [xS (fh) (N) (N),xI ((F:Int)),xP (ay (fh) ((F:Int)).toNat),xB (gb (gy n R B E F) ((F:Int))),xB (true),xP (ay (A1) 1),xS (A) (N) (cA),xI ((F:Int)),xP (ay (A) ((F:Int)).toNat),xI (gi (R) ((F:Int))),xP (ay (A1) 1),xS (A) (N) (cA),xI ((E:Int)),xP (ay (A) ((E:Int)).toNat),xI (gi (R) ((E:Int))),xI ((gi (R) ((E:Int)))+ ((1:Int))),xB (decide ((gi (R) ((F:Int)))=((gi (R) ((E:Int)))+ ((1:Int))))),xB (decide ((gi (R) ((F:Int)))=((gi (R) ((E:Int)))+ ((1:Int))))),xB (true),xI ((E:Int)),xI ((F:Int)),xB (decide ((E:Int)∈gl B F)),xB (decide ((E:Int)∈gl B F))] O (eL O) ?_ ?_
   ·refine⟨Dr O,Dr O,fun _ _ hb _ _=>aD ((hS.ji 0 O).aq hb).2 O Az,fun _ _ hb _ _=>rP ((hS.ji 0 O).aq hb) O (by omega) O O Az,fun _ _ _ _ _=>Dk O (by exact aF Value.bool (hg)),fun _ _ hb _ _=>av O (aU (h1.below hb) O Az),fun _ _ hb _ _=>av O (bh (h1.below hb) O Az),Dr O,fun _ _ hb _ _=>av O (aD (tk.aq hb).2 O Az),fun _ _ hb _ _=>av O (a8 (tk.aq hb) O Az),fun _ _ hb _ _=>av O (aU (h1.below hb) O Az),fun _ _ hb _ _=>av O (bh (h1.below hb) O Az),Dr O,fun _ _ hb _ _=>av O (aD (tk.aq hb).2 O Az),fun _ _ hb _ _=>av O (a8 (tk.aq hb) O Az),fun _ _ _ _ _=>av O (aH O Az),Dr O,Dr O,fun _ _ _ _ _=>Dk O (by exact aF Value.bool (dM hr)),Dr O,Dr O,?_,Dr O,au⟩;intro e1 w1 hb hp aW;refine av O ?_;refine aQ (vu A1 A D cA cD n R rs B E F _ (by rw [hN,hle];exact Rd.below h1 hb) (by rw [hle];exact hB9.aq hb) (by omega) Fe.1 (by have:=cI F hF;omega)) O ?_;rintro _ w2 ⟨rfl,aw⟩;subst aw;refine ao.n (d0 (by exact O))
   intro u dV hb _;have bN:=hS.aq hb;refine eP O (aM _ O (fun h4=>?_) (fun h4=>?_))
   ·have jS:dS n R B F/\(F:Int)∈ke R B E:=⟨ha,MI.2 ⟨by omega,hr,h4⟩⟩;have ad5:=MH E F;have jP:bF dV Au N dN (gE n R B E F):=by
     have h9:=bN.sub (show(aL 34 2 Au N N dN (gE n R B E F)).Sublist _ from(((ng _ _).cons _).cons _).cons _);exact h9.oz ad5
    have xF:=(jP.at_ (i:=(E:Int)) (by omega) (by omega)).1;have oV:(rg dN E).n<=500:=by
     rw [<-xF,Oq (by omega)];unfold wI
     split
     ·exact aZ _
     refine nU (rL _ _) ?_;have:=sJ (N:=R.length) (DP R B E).nodup fun x hx=> (mF.1 hx).1
     omega
    have R7:Rd dV PU 1 (fun _=> .slice Au N N):=Rd.one (bN.rd 1 O);have vh:∀A9:aj,(ax 2 A9 1 1 [(F:Int)]::uX A1 PU Au fh n A D N cA cD (gy n R B E F) dN (gE n R B E F))[4+1+E]?=some (ax 2 (rg dN E).a (rg dN E).n (rg dN E).c (gl (gE n R B E F) E)):=fun A9=>Ds (t1:=34) (t2:=2) (A:=Au) (n:=N) (c:=N) (rs:=dN) (xss:=gE n R B E F) (pre:=[ax 2 A9 1 1 [(F:Int)],gw 4 fh N N (gy n R B E F),Bx 22 1 PU [.slice Au N N],bD A1 n A N cA D N cD]) (ks:=[]) (i:=E) (by omega) (by omega)
    have qO:=fun(A9:aj) (s:aO) (xs:ai)=>Uw (t1:=34) (t2:=2) (A:=Au) (n:=N) (c:=N) (rs:=dN) (xss:=gE n R B E F) (ks:=[]) (pre:=[ax 2 A9 1 1 [(F:Int)],gw 4 fh N N (gy n R B E F),Bx 22 1 PU [.slice Au N N],bD A1 n A N cA D N cD]) (i:=E) s xs (by omega) (by omega)
    clear hS;refine dw O ?_;refine kB [8,10] [yS Au N N,yI ((E:Int)),yS (Au) (N) (N),yI ((E:Int)),yP (ay (Au) ((E:Int)).toNat),yS ((rg (dN) ((E:Int))).a) ((rg (dN) ((E:Int))).n) ((rg (dN) ((E:Int))).c),yI ((F:Int)),.pr (fun v w'=>∃A9,v= .slice A9 1 1/\St w w' (ax 2 A9 1 1 [(F:Int)]::uX A1 PU Au fh n A D N cA cD (gy n R B E F) dN (gE n R B E F))),.pr (fun v w'=>∃AZ cZ,v= .slice AZ ((rg dN E).n+1) cZ/\St w w' (gw 4 fh N N (gy n R B E F)::Bx 22 1 PU [.slice Au N N]::bD A1 n A N cA D N cD::(bZ 34 Au N N dN::(cK 2 (dN.set E ⟨AZ,(rg dN E).n+1,cZ⟩) ((gE n R B E F).set E (gl (gE n R B E F) E++ [(F:Int)]))++ [])))),yP (ay Au ((E:Int)).toNat),.pr (fun _ w'=>∃AZ cZ,St w w' (uX A1 PU Au fh n A D N cA cD (gy n R B E F) (dN.set E ⟨AZ,(rg dN E).n+1,cZ⟩) ((gE n R B E F).set E (gl (gE n R B E F) E++ [(F:Int)]))))] (ly (ly (ly (ly (ly (ly (ly (de.2 ⟨Ye.dp (fun v w w' h hb=>by obtain⟨A9,hv,hT⟩:=h;exact⟨A9,hv,hT.aq hb⟩),(de.2 ⟨Ye.dp (fun v w w' h hb=>by obtain⟨AZ,cZ,hv,hT⟩:=h;exact⟨AZ,cZ,hv,hT.aq hb⟩),(ly (de.2 ⟨Ye.dp (fun v w w' h hb=>by obtain⟨AZ,cZ,hT⟩:=h;exact⟨AZ,cZ,hT.aq hb⟩),(fun _ h=>by cases h)⟩))⟩)⟩)))))))) ?_ ?_
    ·refine⟨?_,bT O,cP fun _ _ hb _ _ _=>amv (j:=0) (R7.below hb) (by exact aF Value.pointer (jh _).symm) O O O O (bE O O),bT O,cP fun _ _ hb _ _ _=>aD (jP.top.aq hb).2 O (bE O O),cP fun _ _ hb _ _ _=>bW (jP.top.aq hb) O (bE O O),bT O,?_,?_,?_,?_,au⟩
     ·intro e1 w1 cc eZ dt fQ hp aW hq;show ao _ _ _ _ _ _ _;have hX:Rd w1 PU 1 (fun _=> .slice Au N N):=by { have dt:=qn dt (b:=1) (by kernel_rfl);rcases(show cc=0\/cc=1 by omega)with h | h; { exact Rd.below R7 (fQ h) }; { subst h;obtain⟨AZ,cZ,_,hT⟩:=hq 8 _ _ (by kernel_rfl) (by kernel_rfl) (by kernel_rfl) rfl rfl (by kernel_rfl);exact Rd.one (hT.rd 1 rfl) } }
      refine amv (j:=0) hX (by exact aF Value.pointer (jh _).symm) O O O O (ao.n (iN O (by exact O)))
     ·refine cP fun e1 w1 hb hp aW hq=>?_
      exact eS (St.refl _) O O O fun A9 w9 aw=>ao.n (fN.dn O aw.below ⟨A9,O,(bN.aq hb).call aw⟩)
     ·refine kG fun e1 w1 hb hp aW hq=>?_
      obtain⟨A9,h78,hT⟩:=(hp 7 _ _ (by kernel_rfl) rfl rfl (by kernel_rfl));refine fk (4+1+E) hT (vh A9) (hT.bz 0 O) O (by exact h78) O ?_;intro AZ cZ wZ hZ;have hZ:=(qO A9 ⟨AZ,(rg dN E).n+1,cZ⟩ (gl (gE n R B E F) E++ [(F:Int)]))▸hZ;exact ao.n (fY.dn O ⟨AZ,cZ,O,hZ.tail⟩)
     ·intro e1 w1 cc eZ dt fQ hp aW hq;show ao _ _ _ _ _ _ _;have hX:ml w1 Au N dN:=by { have dt:=qn dt (b:=1) (by kernel_rfl);rcases(show cc=0\/cc=1 by omega)with h | h; { exact jP.top.aq (fQ h) }; { subst h;obtain⟨AZ,cZ,_,hT⟩:=hq 8 _ _ (by kernel_rfl) (by kernel_rfl) (by kernel_rfl) rfl rfl (by kernel_rfl);exact hT.fG 3 rfl } }
      refine aD hX.2 O (ao.n (iN O (by exact O)))
     refine rU 1 fun e1 w1 hp aW hq=>?_
     have eN:=hp 8 _ _ (by kernel_rfl) O O (by kernel_rfl);obtain⟨AZ,cZ,h79,hT⟩:=eN;refine D7 (te:=34) (n:=N) (c:=N) (A:=Au) (xs:=dN) 3 hT O O (by exact h79) (by omega) ?_;intro wY hY;exact ao.n (fY.st O ⟨AZ,cZ,hY⟩)
    intro u lS _ hu _ _;obtain⟨AZ,cZ,hT⟩:=hu 10 _ rfl (by kernel_rfl);rw [Fa E F se jS]at hT;refine jW O (aD (hT.ji 0 O).2 O (tT 0 hT O O O (by omega) ?_));intro rB im;rw [jc,Tb E F se jS]at im;refine ar O (aH O (aT O (tQ ?_)));exact⟨(F+1,_),by show N - (F+1)<N - F;omega,(amz O),⟨Nat.lt_succ_of_lt z8,hF⟩,by simp [wm],im⟩
   have gD:¬(dS n R B F/\(F:Int)∈ke R B E):=fun h=>h4 (MI.1 h.2).2.2
   refine aA O (aH O (aT O (tQ ?_)));exact⟨(F+1,dN),by show N - (F+1)<N - F;omega,(amz O),⟨Nat.lt_succ_of_lt z8,hF⟩,wm,(mU gD).aq hb⟩
  have hF:F=N:=by omega
  subst hF;refine bn O (bo (cL O (eh O (aT O (tQ ?_)))));exact⟨(E,dN),by show E<E+1;omega,(amz O),by show E<=F;omega,wm,hS⟩
 obtain rfl:E'=0:=by omega
 refine bn O (bo (cL O ?_));refine ao.new (z:= .slice none 0 0) hS O O fun PF w8 b6=>ar O (ao.new (z:= .nilFunc) b6 O O ?_);intro PG w9 bL;refine ar O (Xh O O O O O (ao.st (i:=0) (j:=0) bL O (by exact aF Value.pointer (jh _).symm) O O (Nat.succ_pos _) ?_));intro dV bN;have bN:=(bN.nil 2);clear bL b6 hS;refine aC O (Cd.loop (α:=Nat×aj×Nat) (fun z=> [(1,.pointer A1),(4,ak N),(6,.slice fh N N),(9,.pointer PF),(10,.pointer PG),(11,.slice z.2.1 ((bS z.1).filter fun e=>decide (gi R e=0) && decide (dS n R B e)).length z.2.2),(85,ak N),(86,ak (z.1:Int))]) (fun z w'=>z.1<=N/\St w w' (ax 2 z.2.1 ((bS z.1).filter fun e=>decide (gi R e=0) && decide (dS n R B e)).length z.2.2 ((bS z.1).filter fun e=>decide (gi R e=0) && decide (dS n R B e))::Bx 161 1 PG [.func (.func 166) #[] #[.pointer PF,.pointer A1,.pointer PG,.pointer PU]]::Bx 22 1 PF [.slice none 0 0]::uX A1 PU Au fh n A D N cA cD (gy n R B 0 N) dN (gE n R B 0 N))) (fun z=>N - z.1) (0,none,0) (amz O) ⟨aZ _,bN⟩ ?_);clear bN;rintro⟨j,AF,cF⟩ e dZ ⟨hj,hS⟩;dsimp only at hj hS|-;have jQ:((bS j).filter fun e=>decide (gi R e=0) && decide (dS n R B e)).length<=500:=by
  refine nU (rL _ _) ?_;rw [bS,fO,qB];omega
 refine bJ O (aM _ O (fun h3=>?_) (fun h3=>?_))
 ·have yR:j<N:=by omega
  have HL:=xo j yR;have u9:=hS.gh hR;have h1:Rd dZ A1 3 (fun j=> [Value.int .i64 (n:Int),.slice A N cA,.slice D N cD].getD j undef):=hS.rd 5 O;have Rv:uR dZ fh N (gy n R B 0 N):=hS.ji 3 O;have hfj:=nA j yR;have mU:¬(gi R j=0/\dS n R B j)->((bS (j+1)).filter fun e=>decide (gi R e=0) && decide (dS n R B e))=((bS j).filter fun e=>decide (gi R e=0) && decide (dS n R B e)):=fun h=>by
   rw [HL,az h,fj]
  refine aA O (aU h1 O (bh h1 O (ar O (aD u9.2 O (a8 u9 O (ar O ?_))))));refine ew 95 O (fun h4=>?_) (fun h4=>?_)
  ·refine av O (ar O (av O (ar O (av O ?_))));refine aD Rv.2 O (av O (rP Rv O (by omega) O O (aC O ?_)));rw [hfj];refine aM _ O (fun h5=>?_) (fun h5=>?_)
   ·rw [aB ⟨h4,h5⟩]at HL;refine aA O (eS hS O O O ?_);intro A9 fg dG;refine fk 1 dG O (dG.bz 0 O) O O O ?_;intro AZ cZ gj ic;have ic:=ic.tail;refine ar O (aH O (aT O (tQ ?_)));refine⟨(j+1,AZ,cZ),by show N - (j+1)<N - j;omega,⟨O,O,O,O,O,?_,O,O,au⟩,by show j+1<=N;omega,?_⟩
    ·show Value.slice _ _ _=_;rw [HL,b8];rfl
    show St w gj (ax _ _ (((bS (j+1)).filter _).length) _ ((bS (j+1)).filter _)::_);rw [HL,b8];exact ic
   refine aA O (aH O (aT O (tQ ?_)));refine⟨(j+1,AF,cF),by show N - (j+1)<N - j;omega,⟨O,O,O,O,O,?_,O,O,au⟩,by show j+1<=N;omega,?_⟩
   ·show Value.slice _ _ _=_;rw [mU (fun h=>h5 h.2)]
   show St w dZ (ax _ _ (((bS (j+1)).filter _).length) _ ((bS (j+1)).filter _)::_);rw [mU (fun h=>h5 h.2)];exact hS
  refine aJ O (aJ O (aJ O (aJ O (aC O ?_))));refine Cd.fC O (aA O (aH O (aT O (tQ ?_))));refine⟨(j+1,AF,cF),by show N - (j+1)<N - j;omega,⟨O,O,O,O,O,?_,O,O,au⟩,by show j+1<=N;omega,?_⟩
  ·show Value.slice _ _ _=_;rw [mU (fun h=>h4 h.1)]
  show St w dZ (ax _ _ (((bS (j+1)).filter _).length) _ ((bS (j+1)).filter _)::_);rw [mU (fun h=>h4 h.1)];exact hS
 obtain rfl:j=N:=by omega
 rw [qR]at hS jQ|-;generalize hfi:((uU R).filter fun f=>decide (dS n R B f))=fi at*;have acy:∀x∈fi,0<=x/\x< (j:Int):=fun x hx=>by
  rw [<-hfi]at hx;have:=(tV.1 (gg.1 hx).1).1;omega
 have lI:Rd dZ PG 1 (fun _=> .func (.func 166) #[] #[.pointer PF,.pointer A1,.pointer PG,.pointer PU]):=Rd.one (hS.rd 1 O);have hSG:St w dZ (oI PF none 0 [] [] A1 n A j cA D j cD PG PU Au j j dN (gE n R B 0 j) [ax 2 AF fi.length cF fi,gw 4 fh j j (gy n R B 0 j)]):=by
  have h9:=(hS.perm (show List.Perm _ (Bx 22 1 PF [.slice none 0 0]::(bD A1 n A j cA D j cD::Bx 161 1 PG [.func (.func 166) #[] #[.pointer PF,.pointer A1,.pointer PG,.pointer PU]]::Bx 22 1 PU [.slice Au j j]::(aL 34 2 Au j j dN (gE n R B 0 j)++ [ax 2 AF fi.length cF fi,gw 4 fh j j (gy n R B 0 j)]))) from by
   classical
   refine jA.2 fun z=>?_
   simp only [uX,lu,jz,kC];omega))
  exact(h9.nil 34).perm (List.Perm.swap _ _ _)
 clear hS;have wa:∀e:Nat,e<j->(gl (gE n R B 0 j) e).length<=500/\∀x∈gl (gE n R B 0 j) e,0<=x/\x< (j:Int):=fun e he=>by
  rw [TB e he];refine⟨nU (rL _ _) ?_,fun x hx=>?_⟩
  ·have:=sJ (N:=R.length) (DP R B e).nodup fun x hx=> (mF.1 hx).1
   omega
  have:=(mF.1 (gg.1 hx).1).1;omega
 refine bn O (bo (cL O ?_));refine ao.ld lI (by exact aF Value.pointer (jh _).symm) (by decide) O O O ?_;refine ar O (aQ (aaE w n (by omega) PF A1 A D PG PU Au j cA j cD j j dN (gE n R B 0 j) (MH 0 j) (by omega) wa (n - 1) 0 fi.length [] fi none AF 0 cF [ax 2 AF fi.length cF fi,gw 4 fh j j (gy n R B 0 j)] _ none 0 [] [] O O (by omega) jQ acy (fun _ _ _ _ _ _=>cg.nil) (fun w' A c rs F h=>Uy h) O (aZ _) hSG) O ?_);rintro _ fg ⟨rfl,A',c',rs',fX,hS⟩;rw [List.nil_append,SJ]at fX hS;have dF:Rd fg PF 1 (fun _=> .slice A' (cap (aG n R B)).length c'):=Rd.one (hS.rd 0 O);refine ar O (amv (j:=0) dF (by exact aF Value.pointer (jh _).symm) O O O O ?_);refine bc O O (aC O ?_);have dh:=Ka (aG n R B);have LI:=GK (l:=aG n R B);refine aM _ O (fun h4=>?_) (fun h4=>?_)
 ·have gD:¬(aG n R B).length<=400:=fun h=>by have:=LI.2 h;omega
  refine dX O (Jb O O ?_);unfold xa pR;rw [az gD,az gD];exact Gd.none hS
 have jS:(aG n R B).length<=400:=LI.1 (by omega);rw [zU (by omega)]at fX hS dF|-;refine aA O (amv (j:=0) dF (by exact aF Value.pointer (jh _).symm) O O O O (bI O (Jb O O ?_)));unfold xa pR;rw [aB jS,aB jS];exact⟨A',c',rs',O,fX,XE (pre:=[]) (hS.sub ((ng _ _).cons _))⟩
def oy(H:List Bool)(vs:ai):List Bool:=vs.foldl (fun H v=>H.set v.toNat true) H
theorem ahQ(H:List Bool)(vs:ai)(v:Int):oy H (vs++ [v])=(oy H vs).set v.toNat true:=by simp [oy,List.foldl_append]
theorem ahP(H:List Bool):∀vs,(oy H vs).length=H.length:=by
 intro vs;unfold oy
 induction vs generalizing H with
 | nil=>rfl
 | cons a r ih=>rw [List.foldl_cons,ih,lT]
theorem ahO(H:List Bool)(vs:ai)(hv:∀v∈vs,0<=v/\v<H.length)(x:Int)(h0:0<=x):gb (oy H vs) x=(gb H x || decide (x∈vs)):=by
 unfold oy
 induction vs generalizing H with
 | nil=>simp
 | cons a r ih=>
  have ha:=hv a (by simp);rw [List.foldl_cons,ih _ (fun v h=>by rw [lT];exact hv v (by simp [h])),Es ha.1 ha.2 h0]
  by_cases e:a=x
  ·subst e;simp
  ·have e':¬x=a:=fun h=>e h.symm
   simp [e,e']
theorem Q7(n:Nat)(x:Int):gb (List.replicate n false) x=false:=by
 unfold gb;rw [da,List.getElem?_replicate]
 split<;>rfl
theorem ahN{m:Nat}{F:ah}(h:∀l∈F,∀x∈l,0<=x/\x< (m:Int))(x:Int)(h0:0<=x):gb (oy (List.replicate m false) F.flatten) x=decide (∃l∈F,x∈l):=by
 rw [ahO _ _ (fun v hv=>by
  obtain⟨l,hl,hx⟩:=List.mem_flatten.1 hv;rw [List.length_replicate];exact h l hl v hx) x h0,Q7,Bool.false_or]
 exact kk.2 (by rw [List.mem_flatten])
def uD(m:Nat):List Bool:=List.replicate m false
theorem U9(m:Nat)(vs:ai):(oy (uD m) vs).length=m:=by rw [ahP];simp [uD]
theorem ag7{m:Nat}{F:ah}(h:∀l∈F,∀x∈l,0<=x/\x< (m:Int)):¬(false∈oy (uD m) F.flatten)↔∀x:Int,0<=x->x< (m:Int)->∃l∈F,x∈l:=by
 have hl:=U9 m F.flatten;have hg:=fun(x:Int) (h0:0<=x)=>ahN h x h0
 constructor
 ·intro hn x h0 h1;apply qy;intro hc;have h2:gb (oy (uD m) F.flatten) x=false:=(hg x h0).trans (cj hc);apply hn;have h3:x.toNat< (oy (uD m) F.flatten).length:=by omega
  rw [<-h2,gb,da,fZ h3];exact dQ _
 intro ha hm;obtain⟨k,hk,e⟩:=gF.1 hm;have h2:=hg (k:Int) (by omega);rw [dM (ha (k:Int) (by omega) (by omega))]at h2;have h3:gb (oy (uD m) F.flatten) k=(oy (uD m) F.flatten)[k]:=by simp [gb,da,hk]
 have h4:gb (oy (uD m) F.flatten) k=true:=h2;rw [h3,e]at h4;cases h4
theorem WQ(A:aj)(n c:Nat)(xs:List Bool)(v:Bool)(w:aa)(hR:uR w A n xs)(hn:n<=9223372036854775807):
 aK prog 281 [.slice A n c,.bool v] w (fun r w'=> (∃i:Int,r=ak i/\(0<=i↔v∈xs))/\w'=w):=by
 have jH:=hR.1;refine bA func281 O ntmps281 O (df O) ?_;refine bg O (bc O O (aC O ?_));refine Cd.loop (α:=Nat) (fun k=> [(0,.slice A n c),(1,.bool v),(7,ak n),(8,ak k)]) (fun k w'=>w'=w/\k<=n/\∀j:Nat,j<k->gb xs j≠v) (fun k=>n - k) 0 (amz O) ⟨O,aZ _,fun j hj=>by omega⟩ ?_;rintro k e w ⟨rfl,hk,hK⟩;refine bJ O (aM _ O (fun h3=>?_) (fun h3=>?_))
 ·have hg:gb xs k=xs[k]'(by omega):=by simp [gb,da,show k<xs.length by omega]
  refine aA O (aD hR.2 O (rP hR O (by omega) O O (Xe O O O (aC O ?_))));refine Cd.cond O (fun h4=>?_) (fun h4=>?_)
  ·refine dX O (fz (eW ?_));refine gZ O ?_;have h4:v=gb xs k:=by simpa using h4
   exact⟨⟨(k:Int),O,⟨fun _=>by rw [h4,hg];exact dQ _,fun _=>by omega⟩⟩,O⟩
  refine aA O (aH O (aT O (tQ ?_)));have h4:¬v=gb xs k:=by simpa using h4
  refine⟨k+1,by show n - (k+1)<n - k;omega,(amz O),O,by omega,fun j hj=>?_⟩
  by_cases ej:j=k
  ·subst ej;exact fun h=>h4 h.symm
  exact hK j (by omega)
 refine bn O (bo (gq O ?_));refine gZ O ⟨⟨-1,O,⟨fun h=>absurd h (by decide),fun h=>?_⟩⟩,O⟩;obtain⟨j,hj,L1⟩:=gF.1 h;exact absurd (by simpa [gb,da,hj]using L1) (hK j (by omega))
theorem WG(A:aj)(n c:Nat)(xs:List Bool)(v:Bool)(w:aa)(hR:uR w A n xs)(hn:n<=9223372036854775807):
 aK prog 222 [.slice A n c,.bool v] w (fun r w'=>r= .bool (decide (v∈xs))/\w'=w):=by
 refine bA func222 O ntmps222 O (df O) (bg O (aQ (WQ A n c xs v _ hR hn) O ?_));rintro _ w ⟨⟨i,rfl,hi⟩,rfl⟩;refine bI O (dz O ?_);exact⟨aF Value.bool (kk.2 hi),O⟩
theorem D8{w:aa}{A:aj}{n:Nat}{f:Nat->ad}(h:Rd w A n f)(hn:0<n):A.isNone=false:=by
 obtain⟨p,hp,_⟩:=h 0 hn;cases A with
 | none=>simp [ay]at hp
 | some q=>rfl
def DT(L:ai)(w:aa)(v:ad)(w':aa):Prop:=∃A' c',v= .slice A' L.length c'/\St w w' [ax 2 A' L.length c' L]
theorem DL{xs:ai}{j:Nat}(h:j<xs.length):xs.take (j+1)=xs.take j++ [gi xs j]:=by
 rw [lV h,b9 h]
theorem aeE(n:Int)(A D:aj)(cA N m cD:Nat)(Af:aj)(nf cf:Nat)(rs:List aO)(fl:ah)(w:aa)(hF:bF w Af nf rs fl)(hN:N<=500)(hr:∀l∈fl,l.length<=1000/\∀x∈l,0<=x/\x< (N:Int))(Dd:nf<=100000):
 aK prog 167 [.agg #[ak n,.slice A N cA,.slice D m cD],.slice Af nf cf] w (fun v w'=>∃b:Bool,v= .bool b/\(b=true↔∀x:Int,0<=x->x< (N:Int)->∃l∈fl,x∈l)/\St w w' []):=by
 have jQ:=hF.len;refine bA func167 O ntmps167 O (df O) (bg O (nV (St.refl w) O O ?_));intro A1 w1 aI;have h1:Rd w1 A1 3 (fun j=> [Value.int .i64 n,.slice A N cA,.slice D m cD].getD j undef):=aI.rd 0 O;refine ar O (aU h1 O (bh h1 O (bc O O (yj (v:=false) N aI O O (by omega) ?_))));intro A5 w2 aE;have aE:St w w2 [gw 4 A5 N N (oy (uD N) (fl.take 0).flatten),bD A1 n A N cA D m cD]:=aE;refine ar O (bc O O (aC O ?_));refine Cd.loop (α:=Nat) (fun i=> [(2,.pointer A1),(5,.slice A5 N N),(14,.slice Af nf cf),(15,ak nf),(16,ak i)]) (fun i w'=>i<=nf/\St w w' [gw 4 A5 N N (oy (uD N) (fl.take i).flatten),bD A1 n A N cA D m cD]) (fun i=>nf - i) 0 (amz O) ⟨aZ _,aE⟩ ?_;clear aE aI h1;rintro i e w3 ⟨hi,hS⟩;refine bJ O (aM _ O (fun h2=>?_) (fun h2=>?_))
 ·have LW:i<fl.length:=by omega
  have hM:=hS.cT hF;have iA:=hM.at_ (i:=(i:Int)) (by omega) (by omega);have oV:=iA.1;have kL:gl fl i∈fl:=by rw [b7 LW];exact dQ _
  have gf:=hr _ kL;refine aA O (aD hM.top.2 O (bW hM.top O ?_));refine ar O (bc O O (aC O ?_));refine Cd.loop (α:=Nat) (fun j=> [(2,.pointer A1),(5,.slice A5 N N),(14,.slice Af nf cf),(15,ak nf),(16,ak i),(20,.slice (rg rs i).a (rg rs i).n (rg rs i).c),(21,ak ((rg rs i).n:Int)),(22,ak j)]) (fun j w'=>j<=(rg rs i).n/\St w w' [gw 4 A5 N N (oy (uD N) ((fl.take i).flatten++ (gl fl i).take j)),bD A1 n A N cA D m cD]) (fun j=> (rg rs i).n - j) 0 (amz O) ⟨aZ _,by rw [List.take_zero,fj];exact hS⟩ ?_;clear iA hM hS;rintro j e w4 ⟨hj,hS⟩;refine bJ O (aM _ O (fun h3=>?_) (fun h3=>?_))
  ·have lK:j< (gl fl i).length:=by omega
   have iA:=(hS.cT hF).at_ (i:=(i:Int)) (by omega) (by omega);have hx:=gf.2 _ (gi_in lK);have vn:=U9 N ((fl.take i).flatten++ (gl fl i).take j);refine aA O (aD iA.2 O (a8 iA O (ar O (aD (hS.ji 0 O).2 O (tT 0 hS O O O (by omega) ?_)))));intro w5 aY;have aY:St w w5 [gw 4 A5 N N (oy (uD N) ((fl.take i).flatten++ (gl fl i).take (j+1))),bD A1 n A N cA D m cD]:=by
    rw [DL lK,<-gx,ahQ];exact aY
   refine ar O (aH O (aT O (tQ ?_)));exact⟨j+1,by show(rg rs i).n - (j+1)< (rg rs i).n - j;omega,(amz O),by omega,aY⟩
  rw [show(gl fl i).take j=gl fl i from gR (by omega)]at hS;refine bn O (bo (cL O (aH O (aT O (tQ ?_)))));refine⟨i+1,by show nf - (i+1)<nf - i;omega,(amz O),by omega,?_⟩;rw [lV LW,List.flatten_append,<-b7 LW];simpa using hS
 have du:i=fl.length:=by omega
 rw [du,List.take_length]at hS;have ac8:=ag7 (m:=N) (F:=fl) (fun l hl=> (hr l hl).2);refine bn O (bo (cL O ?_));refine aQ (WG A5 N N _ false _ (hS.ji 0 O) (by omega)) O ?_;rintro _ _ ⟨rfl,rfl⟩
 first | refine fv rfl rfl ?_ | refine gA rfl rfl ?_
 refine bI O (dz O ?_);refine⟨_,O,?_,hS.none⟩;rw [<-ac8];simp
def tY(a b:ai)(i:Nat):ai:=(List.range a.length).map fun k:Nat=>if i<=k\/gi a k=gi b k then gi a k else -1
theorem vW(a b:ai)(i:Nat):(tY a b i).length=a.length:=by simp [tY]
theorem yq{a b:ai}{i k:Nat}(h:k<a.length):gi (tY a b i) k=if i<=k\/gi a k=gi b k then gi a k else -1:=by
 rw [b9 (by rw [vW];exact h)];simp [tY]
theorem YG(a b:ai):tY a b 0=a:=by
 apply ki (vW ..);intro k h1 h2;rw [<-b9 h1,<-b9 h2,yq h2,aB (.inl (aZ _))]
theorem YH(a b:ai):tY a b a.length=nZ a b:=by
 apply ki (by rw [vW,Cw]);intro k h1 h2;have h3:k<a.length:=by rw [vW]at h1;exact h1
 rw [<-b9 h1,<-b9 h2,yq h3,Cv h3]
 by_cases c:gi a k=gi b k
 ·rw [aB (.inr c),aB c]
 rw [az (by omega),az c]
theorem YI{a b:ai}{i:Nat}:tY a b (i+1)=if gi a i=gi b i then tY a b i else(tY a b i).set i (-1):=by
 by_cases c:gi a i=gi b i
 ·rw [aB c];apply ki (by simp [vW]);intro k h1 h4;have h3:k<a.length:=by rw [vW]at h1;exact h1
  rw [<-b9 h1,yq h3,<-b9 h4,yq h3]
  by_cases e:k=i
  ·subst e;rw [aB (.inr c),aB (.inr c)]
  by_cases e2:i+1<=k\/gi a k=gi b k
  ·rw [aB e2,aB (by omega)]
  rw [az e2,az (by omega)]
 rw [az c];apply ki (by simp [vW]);intro k h1 h2;have h3:k<a.length:=by rw [vW]at h1;exact h1
 have h4:k< (tY a b i).length:=by rw [vW];exact h3
 rw [<-b9 h1,yq h3,List.getElem_set]
 split
 ·rename_i h;rw [az (fun e=>by subst e;rcases h with h | h<;>first | omega | exact c h),<-b9 h4,yq h3,aB (by omega)]
 rename_i h
 by_cases e:i=k
 ·rw [aB e]
 rw [az e,<-b9 h4,yq h3,az (fun h'=>h (by omega))]
theorem Qe(A A2:aj)(n c m c2:Nat)(a b:ai)(w:aa)(hA:cg w A n a)(hB:cg w A2 m b)(hm:n=m)(hn:n<=1000):
 aK prog 224 [.slice A n c,.slice A2 m c2] w (DT (nZ a b) w):=by
 subst hm;have ha:=hA.1;have hb:=hB.1;refine bA func224 O ntmps224 O (df O) (bg O (aQ (Ge A n c a w hA (by omega)) O ?_));rintro _ w1 ⟨A5,c5,rfl,hS⟩;have hS:St w w1 [ax 2 A5 n c5 (tY a b 0)]:=by rw [YG];exact hS
 refine ar O (bc O O (aC O ?_));refine Cd.loop (α:=Nat) (fun i=> [(5,.slice A5 n c5),(10,.slice A2 n c2),(11,ak n),(12,ak i)]) (fun i w'=>i<=n/\St w w' [ax 2 A5 n c5 (tY a b i)]) (fun i=>n - i) 0 (amz O) ⟨aZ _,hS⟩ ?_;clear hS;rintro i e w2 ⟨hi,hS⟩;have hl:=vW a b i;refine bJ O (aM _ O (fun h2=>?_) (fun h2=>?_))
 ·have du:i<a.length:=by omega
  have iJ:=YI (a:=a) (b:=b) (i:=i);have EL:=yq (b:=b) (i:=i) du;rw [aB (.inl (bs _))]at EL;have tj:=hS.gh hB;have h5:=hS.bz 0 O;refine aA O (aD tj.2 O (a8 tj O (ar O (aD h5.2 O (a8 h5 O (aC O ?_))))));rw [EL];refine aM _ O (fun h3=>?_) (fun h3=>?_)
  ·rw [az h3]at iJ;refine aA O (aD h5.2 O (lC 0 hS O O O (by omega) ?_));intro w3 aR;refine ar O (aH O (aT O (tQ ?_)));exact⟨i+1,by show n - (i+1)<n - i;omega,(amz O),by omega,by rw [iJ];exact aR⟩
  rw [aB (jb.1 h3)]at iJ;refine aA O (aH O (aT O (tQ ?_)));exact⟨i+1,by show n - (i+1)<n - i;omega,(amz O),by omega,by rw [iJ];exact hS⟩
 have du:i=a.length:=by omega
 rw [du,YH]at hS;have qg:=Cw a b;refine bn O (bo (gq O ?_));refine ia O ?_;exact⟨A5,c5,by rw [qg,ha],by rw [qg,ha];exact hS⟩
def zt(xs:ai)(x:Int):ai:=(bS xs.length).filter fun e=>decide (gi xs e=x)
theorem ahM{xs:ai}{x:Int}{m:Nat}:((bS (m+1)).filter fun e=>decide (gi xs e=x))=if x=gi xs m then((bS m).filter fun e=>decide (gi xs e=x))++ [(m:Int)]else((bS m).filter fun e=>decide (gi xs e=x)):=by
 have:bS (m+1)=bS m++ [(m:Int)]:=by
  unfold bS;rw [jB,iD];rfl
 rw [this,rJ]
 by_cases c:gi xs m=x
 ·rw [aB c.symm];simp [c]
 rw [az (fun h=>c h.symm)];simp [c]
theorem ahL(A:aj)(n c:Nat)(xs:ai)(x:Int)(w:aa)(hA:cg w A n xs)(hn:n<=100000):
 aK prog 219 [.slice A n c,ak x] w (DT (zt xs x) w):=by
 have ha:=hA.1;refine bA func219 O ntmps219 O (df O) ?_;refine bg O (bc O O (aC O ?_));refine Cd.loop (α:=Nat×aj×Nat) (fun z=> [(1,ak x),(5,.slice z.2.1 ((bS z.1).filter fun e=>decide (gi xs e=x)).length z.2.2),(8,.slice A n c),(9,ak n),(10,ak (z.1:Int))]) (fun z w'=>z.1<=n/\St w w' [ax 2 z.2.1 ((bS z.1).filter fun e=>decide (gi xs e=x)).length z.2.2 ((bS z.1).filter fun e=>decide (gi xs e=x))]) (fun z=>n - z.1) (0,none,0) (amz O) ⟨aZ _,(St.refl w).nil _⟩ ?_;rintro⟨i,A5,c5⟩ e w1 ⟨hi,hS⟩;dsimp only at hi hS|-;have jQ:((bS i).filter fun e=>decide (gi xs e=x)).length<=100000:=by
  refine nU (rL _ _) ?_;rw [bS,fO,qB];omega
 have iJ:=ahM (xs:=xs) (x:=x) (m:=i);refine bJ O (aM _ O (fun h2=>?_) (fun h2=>?_))
 ·have CO:=hS.gh hA;refine aA O (aD CO.2 O (a8 CO O (aC O ?_)));refine aM _ O (fun h3=>?_) (fun h3=>?_)
  ·rw [aB h3]at iJ;refine aA O (eS hS O O O ?_);intro A9 w2 aE;refine fk 1 aE O (aE.bz 0 O) O O O ?_;intro AZ cZ w3 aR;have aR:=aR.tail;refine ar O (aH O (aT O (tQ ?_)));refine⟨(i+1,AZ,cZ),by show n - (i+1)<n - i;omega,⟨O,?_,O,O,O,au⟩,by show i+1<=n;omega,?_⟩
   ·show Value.slice _ _ _=_;rw [iJ,b8];rfl
   show St w w3 [ax _ _ (((bS (i+1)).filter _).length) _ ((bS (i+1)).filter _)];rw [iJ,b8];exact aR
  rw [az h3]at iJ;refine aA O (aH O (aT O (tQ ?_)));refine⟨(i+1,A5,c5),by show n - (i+1)<n - i;omega,⟨O,?_,O,O,O,au⟩,by show i+1<=n;omega,?_⟩
  ·show Value.slice _ _ _=_;rw [iJ]
  show St w w1 [ax _ _ (((bS (i+1)).filter _).length) _ ((bS (i+1)).filter _)];rw [iJ];exact hS
 have du:i=xs.length:=by omega
 rw [du]at hS|-;refine bn O (bo (gq O ?_));exact ia O ⟨A5,c5,O,hS⟩
def o8(n:Int)(R:ai)(i:Int):ai:=if 0<=i/\i<=n - 1 then zt R i else [-1]
theorem NI(P A D:aj)(n:Int)(N cA m cD:Nat)(R:ai)(i:Int)(w:aa)(hP:Rd w P 3 (fun j=> [Value.int .i64 n,.slice A N cA,.slice D m cD].getD j undef))(hR:cg w A N R)(hN:N<=1000)(hn:0<=n/\n<=100):
 aK prog 223 [.pointer P,ak i] w (DT (o8 n R i) w):=by
 refine bA func223 O ntmps223 O (df O) (bg O ?_);refine wR hP (by decide) O O ?_;refine aU hP O (iy (j:=0) hP (by exact aF Value.pointer O) O O O O (eh O (aQ (ye _ _ _ _) O ?_)));rintro _ _ ⟨rfl,rfl⟩
 first | refine fv rfl rfl ?_ | refine gA rfl rfl ?_
 refine aC O (aM _ O (fun h2=>?_) (fun h2=>?_))
 ·refine aA O (eS (i:= -1) (St.refl _) O O O ?_);intro A9 w2 aE;refine bI O (ia O ?_);unfold DT o8;rw [az h2];exact⟨A9,1,O,aE⟩
 refine aA O (wR hP (by decide) O O (aU hP O (bh hP O (ar O (aQ (ahL A N cA R i _ hR (by omega)) O ?_)))));rintro _ w2 ⟨A9,c9,rfl,aE⟩;refine bI O (ia O ?_);unfold DT o8;rw [aB (jb.1 h2)];exact⟨A9,c9,O,aE⟩
end
end Go.Proofs.YtkccgdhcpplblaaGreatDoor.Vc
