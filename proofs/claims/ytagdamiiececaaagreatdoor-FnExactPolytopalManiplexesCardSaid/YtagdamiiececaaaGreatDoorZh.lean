/-
 Lemmas. Conditions: as each states them.
-/
import Derived.Test.YtagdamiiececaaaGreatDoorZg
import Derived.Lib.ItoaLen
import Derived.Test.YtagdamiiececaaaGreatDoorLayd
import Derived.Shelf.Strconv.AppendIntPublic10
set_option maxHeartbeats 8000000
namespace Go.Proofs.YtagdamiiececaaaGreatDoor.Vc
open Tryz
section
open Go.RowKit
variable{w w':aa}
def iu(xs:ah):List UInt8:=xs.flatMap fun x=>Lib.itoa x++ [32]
def yV(xs:ah):ByteArray:=⟨(iu xs).toArray⟩
def Et(l:List UInt8):Nat:=l.foldl (fun a b=>10*a+ (b.toNat - 48)) 0
theorem zw{d:Nat}(h:d<10):(UInt8.ofNat (48+d)).toNat=48+d:=by
 rw [UInt8.toNat_ofNat'];omega
theorem vr:∀u:Nat,Et (Lib.decDigits u)=u/\∀b∈Lib.decDigits u,48<=b.toNat/\b.toNat<=57:=by
 intro u
 induction u using Nat.strongRecOn with
 | ind u ih=>
  rw [Lib.decDigits]
  split
  ·rename_i h;refine⟨?_,fun b hb=>?_⟩
   ·simp only [Et,List.foldl_cons,List.foldl_nil,zw h];omega
   ·simp only [fQ]at hb;subst hb;rw [zw h];omega
  ·rename_i h;obtain⟨h1,h2⟩:=ih (u / 10) (by omega);refine⟨?_,fun b hb=>?_⟩
   ·unfold Et at h1|-;rw [List.foldl_append,h1];simp only [List.foldl_cons,List.foldl_nil,zw (show u%10<10 by omega)];omega
   ·rcases gQ.1 hb with hb | hb
    ·exact h2 b hb
    ·simp only [fQ]at hb;subst hb;rw [zw (by omega)];omega
theorem Fp{u v:Nat}(h:Lib.decDigits u=Lib.decDigits v):u=v:=by rw [<-(vr u).1,h,(vr v).1]
theorem Il{x:Int}:∀b∈Lib.itoa x,b≠32:=by
 intro b hb e;subst e;unfold Lib.itoa at hb
 split at hb
 ·rcases kj.1 hb with h | h
  ·exact absurd h (by decide)
  have:=(vr _).2 _ h;exact absurd this (by decide)
 have:=(vr _).2 _ hb;exact absurd this (by decide)
theorem QK{x y:Int}(h:Lib.itoa x=Lib.itoa y):x=y:=by
 have Jl:∀(u v:Nat),45::Lib.decDigits u≠Lib.decDigits v:=fun u v e=>by
  have:=(vr v).2 45 (by rw [<-e];simp);exact absurd this (by decide)
 unfold Lib.itoa at h
 split at h<;>split at h
 ·simp only [List.cons.injEq,true_and]at h;have:=Fp h;omega
 ·exact absurd h (Jl _ _)
 ·exact absurd h.symm (Jl _ _)
 have:=Fp h;omega
theorem JW:∀ {a b r s:List UInt8},(∀x∈a,x≠32)->(∀x∈b,x≠32)->a++32::r=b++32::s->a=b/\r=s
 | [],[],_,_,_,_,h=>by simpa using h
 | [],y::b,_,_,_,hb,h=>by
  simp only [List.nil_append,List.cons_append,List.cons.injEq]at h;exact absurd h.1.symm (hb y (by simp))
 | x::a,[],_,_,ha,_,h=>by
  simp only [List.nil_append,List.cons_append,List.cons.injEq]at h;exact absurd h.1 (ha x (by simp))
 | x::a,y::b,_,_,ha,hb,h=>by
  simp only [List.cons_append,List.cons.injEq]at h;obtain⟨h1,h2⟩:=JW (fun z hz=>ha z (by simp [hz])) (fun z hz=>hb z (by simp [hz])) h.2;exact⟨by rw [h.1,h1],h2⟩
theorem wG(x:Int)(xs:ah):iu (x::xs)=Lib.itoa x++32::iu xs:=by simp [iu]
theorem Q8(xs:ah)(x:Int):iu (xs++ [x])=(iu xs++Lib.itoa x)++ [32]:=by simp [iu]
theorem Ip:∀ {xs ys:ah},iu xs=iu ys->xs=ys
 | [],[],_=>rfl
 | [],y::ys,h=>by rw [wG]at h;simp [iu]at h
 | x::xs,[],h=>by rw [wG]at h;simp [iu]at h
 | x::xs,y::ys,h=>by
  rw [wG,wG]at h;obtain⟨h1,h2⟩:=JW Il Il h;rw [QK h1,Ip h2]
theorem Q7{xs ys:ah}(h:yV xs=yV ys):xs=ys:=by
 have h1:(iu xs).toArray=(iu ys).toArray:=aS ByteArray.data h;exact Ip (by simpa using h1)
theorem fold_push:∀(l:List UInt8) (s:ByteArray),(l.map fun b=> ((b.toNat:Nat):Int)).foldl (fun r n=>r.push (UInt8.ofNat n.toNat)) s=⟨s.data++l.toArray⟩
 | [],s=>by simp
 | b::l,s=>by
  simp only [List.map_cons,List.foldl_cons];rw [fold_push l];have e:UInt8.ofNat ((b.toNat:Nat):Int).toNat=b:=by simp
  rw [e];have e2:(s.push b).data=s.data.push b:=O;rw [e2]
  congr 1
  apply Array.ext';simp
def mx(w : aa): Prop := Lib.TabIs prog w "internal/strconv.uint64pow10" .u64 Lib.pow10Tab
theorem mx.ao(h:mx w)(hb:Below w.heap.size w w'):mx w':=Lib.tabBelow_of_tabIs h w' hb.toBelow
def oT(B:Nat)(w:aa)(A:ai)(m c:Nat)(l:List UInt8):Prop:=w.ownsRow B 5 1 (.slice A m c) m (Lib.byteCells l)
theorem Jq{B m:Nat}{v:ab}{xs:List ab}(h:w.ownsRow B 5 1 v m xs):∃A c,v= .slice A m c:=by
 rcases h.2 with⟨rfl,rfl⟩ | ⟨g,cap,cur,rfl,_⟩
 ·exact⟨_,_,O⟩
 exact⟨_,_,O⟩
theorem oT.ao{B:Nat}{A:ai}{m c:Nat}{l:List UInt8}(h:oT B w A m c l)(hb:Below w.heap.size w w'):oT B w' A m c l:=by
 refine⟨h.1,?_⟩;rcases h.2 with h1 | ⟨g,cap,cur,h1,h2,h3,r⟩
 ·exact .inl h1
 exact .inr ⟨g,cap,cur,h1,h2,by rw [hb.block g (Array.getElem?_eq_some_iff.1 h3).1];exact h3,r⟩
section
variable {N:Nat} {ops:Array Oper} {K:Env->aa->Prop} {rest:List Oper} {e:Env} {w0 w w':aa} {ks:List Ck} {d:Nat} {ty:ad} {pos:String} {af:Array Edge}
theorem KH{B m c:Nat}{A:ai}{l:List UInt8}{A1:ai}{b:UInt8}{x y:ae}(hO:oT B w A m c l)(hB:B<=w.heap.size)(hR:Rd w A1 1 (fun _=> .int .u8 (b.toNat:Nat)))(hx:ev e x= .slice A m c)(hy:ev e y= .slice A1 1 1)(hm:m<=1000000000)(hb:Nat.blt d N=true)
 (hK:∀A2 c2 w',Go.RowKit.Below B w w'->oT B w' A2 (m+1) c2 (l++ [b])->ak prog N ops K rest (br e d (.slice A2 (m+1) c2)) w'):
 ak prog N ops K (⟨some d,.call ⟨.builtin .append, #[x,y], #[22,22]⟩,ty,pos,af,none⟩::rest) e w:=by
 obtain⟨inf,hi,fk,hs,iE⟩:=bL.get prog 5;obtain⟨p,hp,hc⟩:=hR 0 (by omega);obtain⟨a,rfl⟩:∃a,A1=some a:=by cases A1 with | none=>simp [az]at hp | some q=>exact⟨q,rfl⟩
 simp only [az,Option.map_some,kP]at hp;obtain⟨v',w',hr,vJ,hg,_⟩:=run_append_own (P:=prog) (w:=w) B 22 ty 5 inf (.int .u8 0) 1 1 underlying22 hi fk hs iE rfl (by decide) (.slice A m c) m (Lib.byteCells l) hO a 1 1 [.int .u8 (b.toNat:Nat)] rfl
  (fun j u hj=>by
    match j,hj with
    | 0,hj=>simp at hj;subst hj;rw [hp];exact hc) (fun u hu=>by simp at hu;subst hu;rfl) (by simp only [maxLen];omega) (by omega) hB
 obtain⟨A2,c2,rfl⟩:=Jq vJ;refine .val (w':=w') ?_ hb (hK A2 c2 w' ?_ ?_)
 ·simp [execOp,resolve,invoke,builtin,hx,hy,hr]
 ·exact(Go.RowKit.Below.refl B w).grown hg hB (fun k hk=> (hO.lt k hk).1)
 ·show w'.ownsRow B 5 1 (.slice A2 (m+1) c2) (m+1) (Lib.byteCells (l++ [b]));rw [show Lib.byteCells (l++ [b])=Lib.byteCells l++ [.int .u8 (b.toNat:Nat)] by simp [Lib.byteCells]];exact vJ
theorem KN{B m c:Nat}{A:ai}{l:List UInt8}{x:ae}(hO:oT B w A m c l)(hx:ev e x= .slice A m c)(hb:Nat.blt d N=true)(hK:ak prog N ops K rest (br e d (.string ⟨l.toArray⟩)) w):
 ak prog N ops K (⟨some d,.convert 22 9 x,ty,pos,af,none⟩::rest) e w:=by
 have hr:(Conv.bytesToString (.slice A m c)).run prog w= .ok (.string ⟨l.toArray⟩) w:=by
  have hl:(Lib.byteCells l).length=m*1:=hO.1;rcases hO.2 with⟨h1,h2⟩ | ⟨g,cap,cur,h1,_⟩
  ·simp only [Value.slice.injEq]at h1;obtain⟨rfl,rfl,rfl⟩:=h1;have:l=[]:=nZ (by rw [Lib.byteCells_length]at hl;omega);subst this
   rfl
  simp only [Value.slice.injEq]at h1;obtain⟨rfl,_,rfl⟩:=h1;have h2:=hO.cells (g:=g) O;have h3:=run_loadCells_list (P:=prog) (w:=w) (⟨g,0,none⟩:Addr) (Lib.byteCells l) h2;rw [hl,Nat.mul_one]at h3;have e1:Lib.byteCells l=(l.map fun b=> ((b.toNat:Nat):Int)).map (Value.int .u8):=by simp [Lib.byteCells]
  rw [e1]at h3;rw [run_bytesToString w _ m c _ h3,fold_push];simp
 refine .val (w':=w) ?_ hb hK;simp [execOp,hx,convert,run_underlying underlying22,run_underlying underlying9,run_underlying underlying5,hr]
end
theorem Kp{B m c : Nat}{A : ai}{l : List UInt8}(x : Int)(w : aa)(hx : -9223372036854775808 <= x /\ x <= 9223372036854775807)(hO : oT B w A m c l)(hB : B <= w.heap.size)(hm : m <= 1000000000)(hT : Lib.TabBelow prog B w "internal/strconv.uint64pow10" .u64 Lib.pow10Tab):
 aG prog 191 [.slice A m c,aj x,aj 10] w (fun v w'=>∃A' c',v= .slice A' (m+ (Lib.itoa x).length) c'/\oT B w' A' (m+ (Lib.itoa x).length) c' (l++Lib.itoa x)/\Go.RowKit.Below B w w'):=by
 have key:=Any.strconv_AppendInt_10 RM B m x hx.1 hx.2 (.slice A m c) (Lib.byteCells l) w hO hB (by omega) hT;refine Calls.mono key fun y w' ⟨v',hy,vJ,hb,_⟩=> ⟨_,hy,?_⟩
 obtain⟨A2,c2,rfl⟩:=Jq vJ;refine⟨A2,c2,O,?_,hb⟩;show w'.ownsRow B 5 1 (.slice A2 _ c2) _ (Lib.byteCells (l++Lib.itoa x));rw [Lib.byteCells_append];exact vJ
theorem Im(x:Int)(hx: -9223372036854775808<=x/\x<=9223372036854775807):(Lib.itoa x).length<=21:=Lib.itoa_length_le x hx.1 hx.2
theorem Iq:∀(xs:ah),(∀x∈xs,-9223372036854775808<=x/\x<=9223372036854775807)->(iu xs).length<=22*xs.length
 | [],_=>by simp [iu]
 | x::xs,h=>by
  have h1:=Im x (h x (by simp));have h2:=Iq xs fun y hy=>h y (by simp [hy])
  rw [wG];simp only [dS,List.length_cons];omega
theorem Ir(A:ai)(n c:Nat)(xs:ah)(w:aa)(hT:mx w)(hR:bS w A n xs)(hx:∀x∈xs,-9223372036854775808<=x/\x<=9223372036854775807)(hn:n<=1000000):
 aG prog 122 [.slice A n c] w (fun v w'=>v= .string (yV xs)/\St w w' []):=by
 have eW:=hR.1;refine bs func122 O ntmps122 O (bF O) ?_;refine aY O (aR O O (aA O ?_));refine Cd.loop (α:=Nat×ai×Nat) (fun s=> [(3,.slice s.2.1 (iu (xs.take s.1)).length s.2.2),(6,.slice A n c),(7,aj n),(8,aj (s.1:Int))]) (fun s w'=>oT w.heap.size w' s.2.1 (iu (xs.take s.1)).length s.2.2 (iu (xs.take s.1))/\Go.RowKit.Below w.heap.size w w'/\s.1<=n) (fun s=>n - s.1) (0,none,0) (Wn O) ⟨World.ownsRow_nil w _ _ _,Go.RowKit.Below.refl _ _,bk _⟩ ?_;rintro⟨i,A3,c3⟩ e w1 ⟨hO,dT,hi⟩;dsimp only at hO dT hi|-;refine bH O (aJ _ O (fun h1=>?_) (fun h1=>?_))
 ·have bP:i<xs.length:=by omega
  have iC : bS w1 A n xs := hR.ao ⟨dT, fun s => s.elim⟩;have Oa : Lib.TabBelow prog w.heap.size w1 "internal/strconv.uint64pow10" .u64 Lib.pow10Tab := (Lib.tabBelow_of_tabIs hT).on dT
  have js:=hx _ (gi_in bP);have qb:=Iq (xs.take i) fun x hm=>hx x (List.mem_of_mem_take hm)
  have lW:=Im _ js;rw [kM]at qb;have mP:=dT.size;have yQ:iu (xs.take (i+1))=(iu (xs.take i)++Lib.itoa (gi xs i))++ [32]:=by rw [mh bP,Q8]
  refine aC O (aw iC.2 O (a6 iC O (aq O (aO (Kp (gi xs i) _ js hO mP (by omega) Oa) O ?_))));rintro _ w2 ⟨A4,c4,rfl,N2,gK⟩;have hsz2:=gK.size;refine aq O (ak.z7 (St.refl w2) O O O O ?_);intro A5 w3 aL;have N3:=N2.ao aL.below;have dZ:Go.RowKit.Below w.heap.size w2 w3:=aL.below.toBelow.mono (by omega);have hsz3:=dZ.size;refine KH (b:=32) N3 (by omega) (aL.rd 0 rfl |>.congr fun j hj=>by obtain rfl:j=0:=by { have:j<1:=hj;omega };rfl) rfl rfl (by omega) rfl ?_;intro A6 c6 w4 kr xW;refine aq O (aI O (aM O (tQ ?_)));refine⟨(i+1,A6,c6),by show n - (i+1)<n - i;omega,⟨?_,O,O,O,av⟩,?_,((dT.trans gK).trans dZ).trans kr,by show i+1<=n;omega⟩
  ·show Value.slice _ _ _= .slice _ _ _;rw [yQ];simp [Nat.add_assoc]
  show oT _ w4 A6 (iu (xs.take (i+1))).length c6 (iu (xs.take (i+1)));rw [yQ];have e1:((iu (xs.take i)++Lib.itoa (gi xs i))++ [32]).length=(iu (xs.take i)).length+ (Lib.itoa (gi xs i)).length+1:=by simp;omega
  rw [e1];exact xW
 have cd:i=xs.length:=by omega
 subst cd;rw [List.take_length]at hO;refine bj O (bl (cn O ?_));refine KN hO (by show Value.slice _ _ _= .slice _ _ _;rw [List.take_length]) O ?_;refine bW O (JI O ?_);exact⟨rfl,⟨⟨dT,fun s=>s.elim⟩,fun k hk=> (by cases hk),List.nodup_nil⟩⟩
end
section
open Go.RowKit Go.MapKept
section
variable {κ ν:Type} [DecidableEq κ]
def gq:List (κ×ν)->κ->List (κ×ν)
 | [],_=> []
 | (y,v)::r,x=>if y=x then r else(y,v)::gq r x
theorem Fs:∀ {L:List (κ×ν)} {x:κ} {j:Nat} {v:ν},jQ L x=some (j,v)->gq L x=L.eraseIdx j
 | (y,w)::r,x,j,v,h=>by
  simp only [jQ]at h
  split at h
  ·rename_i e;simp only [kP,Prod.mk.injEq]at h;obtain⟨rfl,rfl⟩:=h;simp only [gq,aF e,List.eraseIdx_zero,List.tail_cons]
  ·rename_i e;cases hf:jQ r x with
   | none=>simp [hf]at h
   | some p=>
    simp only [hf,Option.map_some,kP,Prod.mk.injEq]at h;obtain⟨rfl,rfl⟩:=h;simp only [gq,aB e,List.eraseIdx_cons_succ,Fs (L:=r) (x:=x) (j:=p.1) (v:=p.2) hf]
theorem Fq:∀ {L:List (κ×ν)} {x:κ},jQ L x=none->gq L x=L
 | [],_,_=>rfl
 | (y,w)::r,x,h=>by
  simp only [jQ]at h
  split at h
  ·cases h
  ·rename_i e;rw [Option.map_eq_none_iff]at h;simp only [gq,aB e,Fq h]
theorem AB:∀(L:List (κ×ν)) (x:κ),(gq L x).Sublist L
 | [],_=> .slnil
 | (y,v)::r,x=>by
  simp only [gq]
  split
  ·exact(na _).cons _
  ·exact(AB r x).cons_cons _
theorem FY:∀ {L:List (κ×ν)} {x:κ},x∉L.map (·.1)->eB L x=none
 | [],_,_=>rfl
 | (y,v)::r,x,h=>by
  simp only [List.map_cons,kj,not_or]at h;simp only [eB,aB (fun e:y=x=>h.1 e.symm),FY h.2]
theorem FX:∀ {L:List (κ×ν)} {x y:κ},(L.map (·.1)).Nodup->eB (gq L x) y=if x=y then none else eB L y
 | [],x,y,_=>by simp [gq,eB]
 | (z,v)::r,x,y,h=>by
  simp only [List.map_cons,lM]at h;simp only [gq]
  split
  ·rename_i e;subst e
   split
   ·rename_i e;subst e;exact FY h.1
   ·rename_i e;simp only [eB,aB e]
  ·rename_i e;simp only [eB,FX (L:=r) (x:=x) (y:=y) h.2]
   by_cases e2:z=y
   ·subst e2;rw [aF rfl,aB (fun q=>e q.symm),aF rfl]
   ·rw [aB e2,aB e2]
theorem Tp(L:List (κ×ν))(x:κ)(u:ν):∀y,y∈(gz L x u).map (·.1)↔y=x\/y∈L.map (·.1):=by
 induction L with
 | nil=>intro y;simp [gz]
 | cons p r ih=>
  obtain⟨z,w⟩:=p;intro y;simp only [gz]
  split
  ·rename_i e;subst e;simp
  ·simp only [List.map_cons,kj,ih];exact⟨fun h=>by rcases h with h | h | h<;>simp [h],fun h=>by rcases h with h | h | h<;>simp [h]⟩
theorem JD:∀ {L:List (κ×ν)} {x:κ} {u:ν},(L.map (·.1)).Nodup->((gz L x u).map (·.1)).Nodup
 | [],x,u,_=>by simp [gz]
 | (z,v)::r,x,u,h=>by
  simp only [List.map_cons,lM]at h;simp only [gz]
  split
  ·rename_i e;subst e;simp only [List.map_cons,lM];exact h
  ·rename_i e;simp only [List.map_cons,lM];refine⟨fun hm=>?_,JD h.2⟩;rcases(Tp r x u z).1 hm with h1 | h1
   ·exact e h1
   ·exact h.1 h1
theorem Mq{L:List (κ×ν)}{x:κ}(h:(L.map (·.1)).Nodup):((gq L x).map (·.1)).Nodup:=h.sublist ((AB L x).map _)
theorem Tr(L:List (κ×ν))(x:κ)(u:ν):(gz L x u).Perm ((x,u)::gq L x):=by
 induction L with
 | nil=>exact .refl _
 | cons p r ih=>
  obtain⟨z,w⟩:=p;simp only [gz,gq]
  split
  ·rename_i e;exact .refl _
  ·exact(ih.cons _).trans (.swap _ _ _)
theorem F2:∀ {L:List (κ×ν)} {x:κ} {u:ν},eB L x=some u->L.Perm ((x,u)::gq L x)
 | (z,w)::r,x,u,h=>by
  simp only [eB]at h;simp only [gq]
  split at h
  ·rename_i e;subst e;injection h with h
   subst h;rw [aF rfl]
  ·rename_i e;rw [aB e];exact((F2 h).cons _).trans (.swap _ _ _)
theorem AX:∀ {L:List (κ×ν)} {x:κ},eB L x=none->gq L x=L
 | [],_,_=>rfl
 | (z,w)::r,x,h=>by
  simp only [eB]at h;simp only [gq]
  split at h
  ·cases h
  ·rename_i e;rw [aB e,AX h]
end
section
variable {P:Program} {N:Nat} {ops:Array Oper} {K:Env->aa->Prop} {rest:List Oper} {e:Env} {w0 w w':aa} {ks:List Ck} {d:Nat} {ty:ad} {pos:String} {af:Array Edge}
variable {κ ν:Type} [DecidableEq κ] {kd:TypeDesc} {kv:κ->ab} {vv:ν->ab}
theorem AH{α β:Type}(f:α->β):∀(l:List α) (j:Nat),(l.eraseIdx j).map f=(l.map f).eraseIdx j
 | [],_=>rfl
 | _::_,0=>rfl
 | a::r,j+1=>by simp only [List.eraseIdx_cons_succ,List.map_cons,AH f r j]
theorem TK{t kt et T:ad}[hU:bK P t (.map kt et)][hk:bK P kt kd](KT:pz kd kv){g:Nat}{L:List (κ×ν)}(i:Nat)(x:κ)(yX:ad)(hS:St w0 w ks)(hi:ks[i]?=some (iv T g (gF kv vv L))):
 ∃w',(Builtin.delete_ #[t,yX] ty #[.map (some g),kv x]).run P w= .ok (.tuple #[]) w'/\St w0 w' (ks.set i (iv T g (gF kv vv (gq L x)))):=by
 obtain⟨_,es,cl,hh,hm⟩:=hS.ze i hi;have hf:=xG (vv:=vv) KT x es.toList L 0 hm;have pY:=MapKept.run_findKey (P:=P) (w:=w) hk.out hf;cases jn:jQ L x with
 | none=>
  refine⟨{ w with heap:=w.heap.setIfInBounds g (.map es cl) },?_,hS.zv hi ?_⟩
  ·simp [Builtin.delete_,run_underlying hU.out,MapKept.run_getObj_map hh,MapKept.run_checkKey hk.out (KT.isKey x),pY,jn,MapKept.run_setObj_map _ hh,Result.andThen]
  ·rw [Fq jn];exact hm
 | some p=>
  obtain⟨j,v⟩:=p;refine⟨{ w with heap:=w.heap.setIfInBounds g (.map (es.eraseIdxIfInBounds j) cl) },?_,hS.zv hi ?_⟩
  ·simp [Builtin.delete_,run_underlying hU.out,MapKept.run_getObj_map hh,MapKept.run_checkKey hk.out (KT.isKey x),pY,jn,MapKept.run_setObj_map _ hh,Result.andThen]
  ·rw [Fs jn];have e1:(es.eraseIdxIfInBounds j).toList=es.toList.eraseIdx j:=by
    unfold Array.eraseIdxIfInBounds
    split
    ·rw [Array.toList_eraseIdx]
    ·rename_i h;rw [List.eraseIdx_of_length_le (by simpa using h)]
   rw [e1,AH,hm];unfold gF;rw [AH]
theorem KO{t kt et T yX:ad}{m k:ae}[hU:bK P t (.map kt et)][bK P kt kd](KT:pz kd kv){g:Nat}{L:List (κ×ν)}(i:Nat){a:κ}(hS:St w0 w ks)(hi:ks[i]?=some (iv T g (gF kv vv L)))(hm:ev e m= .map (some g))(hk:ev e k=kv a)(hK:∀w',St w0 w' (ks.set i (iv T g (gF kv vv (gq L a))))->ak P N ops K rest e w'):ak P N ops K (⟨none,.call ⟨.builtin .delete, #[m,k], #[t,yX]⟩,ty,pos,af,none⟩::rest) e w:=by
 obtain⟨w',lC,jT⟩:=TK (P:=P) (t:=t) (ty:=ty) KT i a yX hS hi;refine .Kh (w':=w') (v:= .tuple #[]) ?_ (hK _ jT);simp [execOp,resolve,invoke,builtin,hm,hk,lC]
end
section
variable {P:Program} {N:Nat} {ops:Array Oper} {K:Env->aa->Prop} {rest:List Oper} {e:Env} {w0 w w':aa} {ks:List Ck} {d:Nat} {ty:ad} {pos:String} {af:Array Edge}
theorem KV{κ ν:Type}[DecidableEq κ]{kd:TypeDesc}{kv:κ->ab}{vv:ν->ab}{t kt et:ad}{z v:ab}{s b:Nat}[bK P t (.map kt et)][bK P kt kd][bL P et z s b](KT:pz kd kv){g:Nat}{L:List (κ×ν)}{m ix:ae}{x:κ}(hR:ve w g (gF kv vv L))(hx:ev e m= .map (some g))(hy:ev e ix=kv x)(hv:((eB L x).map vv).getD z=v)(hb:Nat.blt d N=true)(hK:ak P N ops K rest (br e d (.tuple #[v,.bool (eB L x).isSome])) w):ak P N ops K (⟨some d,.lookup t m ix true,ty,pos,af,none⟩::rest) e w:=by
 subst hv;refine .val (w':=w) ?_ hb hK;have:=JS (P:=P) (t:=t) (x:=x) KT hR true;simp [execOp,hx,hy,this]
end
def qo(l:ah):ab:= .string (yV l)
theorem uK:pz .string qo:=⟨fun _=>av,fun a b h=>Q7 (by injection h)⟩
abbrev jd:=ah×aH×ah
def uN(u:aH×ah):ab:=u.1.v
def kH(t:ad)(M:List jd):List Ck:=M.map fun p=>aE t p.2.1.a p.2.1.n p.2.1.c p.2.2
def fC(M:List jd)(x:ah):aH:=((eB M x).map (·.1)).getD bA
def fV(M:List jd)(x:ah):ah:=((eB M x).map (·.2)).getD []
section
variable {w0 w w':aa} {ks pre:List Ck} {t:ad} {M:List jd} {x:ah}
theorem Bc{u:aH×ah}(h:eB M x=some u):fC M x=u.1/\fV M x=u.2:=by simp [fC,fV,h]
theorem F4(h:eB M x=none):fC M x=bA/\fV M x=[]:=by simp [fC,fV,h]
theorem St.J3(h:St w0 w (pre++ (kH t M++ks))):St w0 w (aE t (fC M x).a (fC M x).n (fC M x).c (fV M x)::(pre++ (kH t (gq M x)++ks))):=by
 cases hg:eB M x with
 | none=>
  rw [(F4 hg).1,(F4 hg).2,AX hg];exact h.nil t
 | some u=>
  rw [(Bc hg).1,(Bc hg).2];refine h.perm ?_;have h1:(kH t M).Perm (aE t u.1.a u.1.n u.1.c u.2::kH t (gq M x)):=(F2 hg).map _;exact((h1.append_right ks).append_left pre).trans pB
theorem EP{u:aH×ah}(h:St w0 w (aE t u.1.a u.1.n u.1.c u.2::(pre++ (kH t (gq M x)++ks)))):St w0 w (pre++ (kH t (gz M x u)++ks)):=by
 refine h.perm ?_;have h1:(aE t u.1.a u.1.n u.1.c u.2::kH t (gq M x)).Perm (kH t (gz M x u)):=((Tr M x u).map fun p:jd=>aE t p.2.1.a p.2.1.n p.2.1.c p.2.2).symm;exact pB.symm.trans ((h1.append_right ks).append_left pre)
theorem zO(h:St w0 w (pre++ (kH t M++ks))):bS w (fC M x).a (fC M x).n (fV M x):=(h.J3 (x:=x)).bU 0 rfl
theorem K3(h:St w0 w (pre++ (kH t M++ks))):St w0 w (pre++ (kH t (gq M x)++ks)):=h.sub (((((AB M x).map _).append_right ks)).append_left pre)
end
end
section
variable{x y l:ah}{i k j:Nat}
def gZ(x:ah)(i:Nat):ah:=x.set i (-1)
theorem Eg(x:ah)(i:Nat):(gZ x i).length=x.length:=by simp [gZ]
theorem uT(hk:k<x.length):gi (gZ x i) k=if k=i then -1 else gi x k:=by
 rw [bQ (by rw [Eg];exact hk),bQ hk];unfold gZ;rw [List.getElem_set]
 by_cases e:i=k
 ·rw [aF e,aF e.symm]
 rw [aB e,aB (fun h=>e h.symm)]
theorem JP{n:Nat}(hx:x.length=n)(hy:y.length=n):gZ x i=gZ y i↔∀k:Nat,k<n->k≠i->gi x k=gi y k:=by
 constructor
 ·intro h k hk cG;have:=aS (fun l=>gi l k) h;simp only [uT (x:=x) (i:=i) (show k<x.length by omega),uT (x:=y) (i:=i) (show k<y.length by omega),aB cG]at this;exact this
 intro h;refine DI (n:=n) (by rw [Eg,hx]) (by rw [Eg,hy]) fun k hk=>?_
 rw [uT (by omega),uT (by omega)]
 split
 ·rfl
 rename_i e;exact h k hk e
theorem TI{n:Nat}(hx:x.length=n)(hy:y.length=n)(hi:i<n)(h0:∀e∈y,0<=e)(h:gZ x i=gZ y j):i=j:=by
 have:=aS (fun l=>gi l i) h;simp only [uT (x:=x) (i:=i) (show i<x.length by omega),uT (x:=y) (i:=j) (show i<y.length by omega),aF]at this
 by_cases e:i=j
 ·exact e
 rw [aB e]at this;have h2:=h0 _ (gi_in (show i<y.length by omega));omega
theorem Bb(M:List jd)(x l:ah)(u:aH×ah):fV (gz M x u) l=if x=l then u.2 else fV M l:=by
 unfold fV;rw [FZ]
 split<;>rfl
theorem Ba{M:List jd}(h:(M.map (·.1)).Nodup):fV (gq M x) l=if x=l then []else fV M l:=by
 unfold fV;rw [FX h]
 split<;>rfl
structure fz(n:Nat)(fl:ag)(D:Nat->Nat->Prop)(G:Nat->Prop)(b:Nat)(M:List jd):Prop where
 nd:(M.map (·.1)).Nodup
 el:∀l y,y∈fV M l->∃y' i:Nat,y=(y':Int)/\y'<fl.length/\i<n/\D y' i/\l=gZ (gl fl y') i
 al:∀y i:Nat,y<fl.length->i<n->D y i->(y:Int)∈fV M (gZ (gl fl y) i)\/G y
 len:∀l,(fV M l).length<=b
section
variable{b' i:Nat}
variable {n:Nat} {fl:ag} {D D':Nat->Nat->Prop} {G G':Nat->Prop} {b:Nat} {M:List jd} {c:ah}
def qx(n:Nat)(fl:ag)(c:ah)(f i:Nat)(y j:Nat):Prop:=ga n c (gl fl y)/\(y<f\/y=f/\j<i)
theorem fz.zero:fz n fl (qx n fl c 0 0) (fun _=>False) 0 []:=⟨by simp,fun l y h=>by simp [fV,eB]at h,fun y i _ _ h=>by have:=h.2;omega,fun l=>by simp [fV,eB]⟩
theorem fz.congr(h:fz n fl D G b M)(hD:∀y i,y<fl.length->i<n->(D y i↔D' y i)):fz n fl D' G b M:=
 ⟨h.nd,fun l y hy=>by obtain⟨y',i,h1,h2,h3,h4,h5⟩:=h.el l y hy;exact⟨y',i,h1,h2,h3,(hD y' i h2 h3).1 h4,h5⟩,fun y i hy hi hd=>h.al y i hy hi ((hD y i hy hi).2 hd),h.len⟩
theorem fz.more(h:fz n fl D G b M)(hb:b<=b'):fz n fl D G b' M:=⟨h.nd,h.el,h.al,fun l=>gm (h.len l) hb⟩
theorem fz.skip{f:Nat}(h:fz n fl (qx n fl c f 0) G b M)(hf:¬ga n c (gl fl f)):fz n fl (qx n fl c (f+1) 0) G b M:=
 h.congr fun y i _ _=> ⟨fun h=> ⟨h.1,by have:=h.2;omega⟩,fun h=> ⟨h.1,by
  have h2:=h.2;have:y≠f:=fun e=>hf (e▸h.1)
  omega⟩⟩
theorem fz.row{f:Nat}(h:fz n fl (qx n fl c f n) G b M):fz n fl (qx n fl c (f+1) 0) G b M:=
 h.congr fun y i _ hi=> ⟨fun h=> ⟨h.1,by have:=h.2;omega⟩,fun h=> ⟨h.1,by have:=h.2;omega⟩⟩
theorem fz.put{f:Nat}(h:fz n fl (qx n fl c f i) G b M)(hf:f<fl.length)(hi:i<n)(hH:ga n c (gl fl f))(s:aH):
 fz n fl (qx n fl c f (i+1)) G (b+1) (gz M (gZ (gl fl f) i) (s,fV M (gZ (gl fl f) i)++ [(f:Int)])):=by
 refine⟨JD h.nd,fun l y hy=>?_,fun y j hy hj hd=>?_,fun l=>?_⟩
 ·rw [Bb]at hy
  split at hy
  ·rename_i e;rcases gQ.1 hy with hy | hy
   ·obtain⟨y',j,h1,h2,h3,h4,h5⟩:=h.el _ y hy;exact⟨y',j,h1,h2,h3,⟨h4.1,by have:=h4.2;omega⟩,e.symm.trans h5⟩
   exact⟨f,i,fQ.1 hy,hf,hi,⟨hH,.inr ⟨O,Nat.lt_succ_self _⟩⟩,e.symm⟩
  obtain⟨y',j,h1,h2,h3,h4,h5⟩:=h.el _ y hy;exact⟨y',j,h1,h2,h3,⟨h4.1,by have:=h4.2;omega⟩,h5⟩
 ·rw [Bb]
  by_cases e:y=f/\j=i
  ·obtain⟨rfl,rfl⟩:=e;rw [aF rfl];exact .inl (List.mem_append_right _ (by simp))
  rcases h.al y j hy hj ⟨hd.1,by have:=hd.2;omega⟩with h1 | h1
  ·left
   split
   ·rename_i e2;rw [e2];exact List.mem_append_left _ h1
   exact h1
  exact .inr h1
 rw [Bb]
 split
 ·rename_i e;have:=h.len (gZ (gl fl f) i);rw [dS];simp;omega
 have:=h.len l;omega
theorem fz.mono(h:fz n fl D G b M)(hG:∀y,y<fl.length->G y->G' y):fz n fl D G' b M:=
 ⟨h.nd,h.el,fun y i hy hi hd=> (h.al y i hy hi hd).imp id (hG y hy),h.len⟩
theorem fz.del(h:fz n fl D G b M){x:ah}(hx:∀y:Nat,(y:Int)∈fV M x->G y):fz n fl D G b (gq M x):=by
 refine⟨Mq h.nd,fun l y hy=>?_,fun y i hy hi hd=>?_,fun l=>?_⟩
 ·rw [Ba h.nd]at hy
  split at hy
  ·cases hy
  exact h.el l y hy
 ·rcases h.al y i hy hi hd with h1 | h1
  ·rw [Ba h.nd]
   split
   ·rename_i e;rw [<-e]at h1;exact .inr (hx y h1)
   exact .inl h1
  exact .inr h1
 rw [Ba h.nd]
 split
 ·exact bk _
 exact h.len l
theorem fz.K8(h:fz n fl (fun y _=>ga n c (gl fl y)) G b M)(hl:∀x∈fl,x.length=n/\∀e∈x,0<=e){x:Nat}(hx:x<fl.length)(hi:i<n)(hH:ga n c (gl fl x)){y:Int}(hy:y∈fV M (gZ (gl fl x) i)):∃y':Nat,y=y'/\y'<fl.length/\qC n fl c x y':=by
 obtain⟨y',j,h1,h2,h3,h4,h5⟩:=h.el _ y hy;have hm:∀z:Nat,z<fl.length->gl fl z∈fl:=fun z hz=>by rw [cQ hz];exact di _
 have sO:=hl _ (hm x hx);have CM:=hl _ (hm y' h2);have e:i=j:=TI sO.1 CM.1 hi CM.2 h5;subst e;exact⟨y',h1,h2,hH,h4,i,hi,hx,h2,fun k hk cG=> (JP sO.1 CM.1).1 h5 k hk cG⟩
end
theorem L3{n:Nat}{c x:ah}(hc:c.length=n):jA c x=c↔ga n c x:=by
 constructor
 ·intro h k hk cG;have:=aS (fun l=>gi l k) h;simp only [tN (a:=c) (b:=x) (show k<c.length by omega)]at this
  by_cases e:gi c k=gi x k
  ·exact e
  rw [aB e]at this;exact absurd this.symm cG
 intro h;refine DI (n:=n) (by rw [tO,hc]) hc fun k hk=>?_
 rw [tN (by omega)]
 split
 ·rfl
 rename_i e;refine kK fun h2=>e (h k hk fun h3=>h2 h3.symm)
def fa(n:Nat)(fl:ag)(c:ah)(f:Nat):ah:=(cL f).filter fun y=>decide (ga n c (gl fl y))
theorem K9{n:Nat}{fl:ag}{c:ah}{f:Nat}:fa n fl c (f+1)=if ga n c (gl fl f)then fa n fl c f++ [(f:Int)]else fa n fl c f:=by
 have:cL (f+1)=cL f++ [(f:Int)]:=by
  unfold cL;rw [lg,iT];rfl
 unfold fa;rw [this,mn]
 by_cases c:ga n c (gl fl f)
 ·rw [aF c];simp [c]
 rw [aB c];simp [c]
theorem vk{n:Nat}{fl:ag}{c:ah}{f:Nat}{y:Int}:y∈fa n fl c f↔(0<=y/\y<f)/\ga n c (gl fl y):=by
 unfold fa;rw [eO,tk,jj]
def kl(N:Nat)(al:ah)(j:Nat):Nat:=if j<al.length then(gi al j).toNat else N
theorem fA.jump{N:Nat}{K:Nat->Nat->Prop}(hK:pF N K){L:ah}:∀(d f:Nat),fA N K f L->f+d<=N->(∀x,f<=x->x<f+d->¬K x x)->fA N K (f+d) L
 | 0,f,h,_,_=>h
 | d+1,f,h,hn,hx=>by
  have h1:=h.skip hK (by omega) (.inr (hx f (cO _) (by omega)));have:=fA.jump hK d (f+1) h1 (by omega) fun x h2 h3=>hx x (by omega) (by omega)
  rwa [show f+1+d=f+ (d+1) by omega]at this
section
variable {n:Nat} {fl:ag} {c:ah} {L:ah}
theorem xr(f:Nat):SA (fa n fl c f):=lL _ (qz _)
theorem E8{j:Nat}:kl fl.length (fa n fl c fl.length) j<=fl.length:=by
 unfold kl
 split
 ·rename_i h;have:=(vk.1 (gi_in h)).1;omega
 exact cO _
theorem RQ(h:fA fl.length (fR n fl c) 0 L):fA fl.length (fR n fl c) (kl fl.length (fa n fl c fl.length) 0) L:=by
 have hle:=E8 (n:=n) (fl:=fl) (c:=c) (j:=0);have:=h.jump (fR.rR n fl c) (kl fl.length (fa n fl c fl.length) 0) 0 (by omega) fun x _ hx hk=>by
  have hm:(x:Int)∈fa n fl c fl.length:=vk.2 ⟨by omega,hk.1⟩;obtain⟨p,hp,e⟩:=fP.1 hm;rw [<-bQ hp]at e;unfold kl at hx;rw [aF (by omega)]at hx
  by_cases e0:p=0
  ·subst e0;omega
  have:=(xr (n:=n) (fl:=fl) (c:=c) fl.length).rN (show 0<p by omega) hp;omega
 rwa [Nat.zero_add]at this
theorem RR{j:Nat}(hj:j< (fa n fl c fl.length).length){f:Nat}(hf:gi (fa n fl c fl.length) j=f)(h:fA fl.length (fR n fl c) (f+1) L):fA fl.length (fR n fl c) (kl fl.length (fa n fl c fl.length) (j+1)) L:=by
 have hle:=E8 (n:=n) (fl:=fl) (c:=c) (j:=j+1);have ja:=(vk.1 (gi_in hj)).1;have nD:f+1<=kl fl.length (fa n fl c fl.length) (j+1):=by
  unfold kl
  split
  ·rename_i h2;have:=(xr (n:=n) (fl:=fl) (c:=c) fl.length).rN (show j<j+1 by omega) h2;omega
  omega
 have:=h.jump (fR.rR n fl c) (kl fl.length (fa n fl c fl.length) (j+1) - (f+1)) (f+1) (by omega) fun x wC hx hk=>by
  have hm:(x:Int)∈fa n fl c fl.length:=vk.2 ⟨by omega,hk.1⟩;obtain⟨p,hp,e⟩:=fP.1 hm;rw [<-bQ hp]at e;have uD:j<p:=by
   rcases Nat.lt_trichotomy j p with h2 | h2 | h2
   ·exact h2
   ·subst h2;omega
   have:=(xr (n:=n) (fl:=fl) (c:=c) fl.length).rN h2 hj;omega
  unfold kl at hx;rw [aF (by omega)]at hx
  by_cases e0:p=j+1
  ·subst e0;omega
  have:=(xr (n:=n) (fl:=fl) (c:=c) fl.length).rN (show j+1<p by omega) hp;omega
 rwa [show f+1+ (kl fl.length (fa n fl c fl.length) (j+1) - (f+1))=kl fl.length (fa n fl c fl.length) (j+1) by omega]at this
end
end
section
open Go.RowKit
variable{Q:List Nat}{k y z:Nat}{L xs R:ah}{x i:Int}
theorem JH(PB A:ai)(N c n:Nat)(rs:List aH)(fl:ag)(f i:Nat)(w:aa)(hT:mx w)(hb:Rd w PB 1 (fun _=> .slice A N c))(hM:bu w A N rs fl)(hf:f<N)(hN:N<=1000)(hl:(gl fl f).length=n)(hi:i<n)(hn:n<=100)(hr:∀x∈gl fl f,0<=x/\x<=1000000):
 aG prog 192 [aj f,aj i,.pointer PB] w (fun v w'=>v=qo (gZ (gl fl f) i)/\St w w' []):=by
 have eC:=hM.len;have eQ:=hM.at_ (i:=(f:Int)) (by omega) (by omega);have eM:=eQ.1;refine bs func192 O ntmps192 O (bF O) (aY O (Wm (j:=0) hb (by exact aS Value.pointer (jJ _).symm) O O O O (aq O (aw hM.top.2 O (bn hM.top O (aO (xi _ _ _ _ _ eQ (by omega)) O ?_))))));rintro _ w1 ⟨A6,c6,rfl,hS⟩;refine aq O (aw (hS.bU 0 O).2 O (ak.mg 0 hS O O O (by omega) ?_));intro w2 ay;have ay:St w w2 [aE 2 A6 (rg rs f).n c6 (gZ (gl fl f) i)]:=ay;refine aq O ?_;refine Wh (Ir A6 _ c6 (gZ (gl fl f) i) _ (hT.ao ay.below) (ay.bU 0 O) (fun x hx=>by
  rcases List.mem_or_eq_of_mem_set hx with h | h
  ·have:=hr x h;omega
  omega) (by omega)) rfl rfl rfl ?_
 rintro _ w3 ⟨rfl,ax⟩;refine bW O (JI O ?_);exact⟨O,ay.none.ao ax.below⟩
abbrev mW(PB A:ai)(N c:Nat)(db:ai)(L:ah)(Aa:ai)(ca:Nat)(al:ah)(g:Nat)(M:List jd)(ks:List Ck):List Ck:=
 aE 2 db N N L::Bx 25 1 PB [.slice A N c]::aE 2 Aa al.length ca al::iv 118 g (gF qo uN M)::(kH 2 M++ks)
def gx(Q:List Nat):ah:=Q.map fun x:Nat=> (x:Int)
theorem Ie(h:k<Q.length):gi (gx Q) k=(Q.getD k 0:Nat):=by
 rw [bQ (by simp [gx,h])];simp [gx,bX,h]
theorem F0(h:k<Q.length):(Q++ [y]).getD k 0=Q.getD k 0:=by
 rw [bX,mo h,<-bX]
theorem Qx(h:k<=Q.length):gx ((Q++ [y]).drop k)=gx (Q.drop k)++ [(y:Int)]:=by
 rw [List.drop_append_of_le_length h];simp [gx]
theorem vB{f:Nat}(h:0<=gi L z):0<=gi (L.set y (f:Int)) z:=by
 simp only [gi,eH,bX,jy]at h|-
 split
 ·split
  ·simp
  exact Int.le_refl _
 exact h
theorem F3{f:Nat}(h:y<L.length):gi (L.set y (f:Int)) y=f:=by
 rw [bQ (by simpa using h)];simp
theorem SY(A:ai)(N c:Nat)(rs:List aH)(fl:ag)(n:Nat)(A2:ai)(c2:Nat)(cm:ah)(w:aa)(hT:mx w)(hM:bu w A N rs fl)(hC:bS w A2 n cm)(hN:N<=401)(hn:n<=5)(hl:∀x∈fl,x.length=n/\∀e∈x,0<=e/\e<=1000000)(lY:fl.Nodup):
 aG prog 123 [.slice A N c,.slice A2 n c2] w (fun v w'=>∃A' L,v= .slice A' N N/\fA N (fR n fl cm) N L/\St w w' [aE 2 A' N N L]):=by
 have eC:=hM.len;have fx:=hC.1;have kY:∀f:Nat,f<N->gl fl f∈fl:=fun f hf=>by rw [cQ (by omega)];exact di _
 have lz:∀x∈fl,x.length=n/\∀e∈x,0<=e:=fun x hx=> ⟨(hl x hx).1,fun e he=> ((hl x hx).2 e he).1⟩
 have qb:∀x∈fl,x.length=n:=fun x hx=> (hl x hx).1
 refine bs func123 O ntmps123 O (bF O) (aY O ?_);refine ak.box (v:= .slice A N c) (St.refl w) O O (by show(1:Nat)<=maxLen;simp [maxLen]) ?_;intro PB w1 aD;have dT:Rd w1 PB 1 (fun _=> .slice A N c):=jf (aD.rd 0 O);refine aq O (e6 (i:= -1) aD O O O ?_);intro zA w2 ay;have dT:Rd w2 PB 1 (fun _=> .slice A N c):=jf (ay.rd 1 O);refine Wm (j:=0) dT (by exact aS Value.pointer (jJ _).symm) O O O O (aR O O (aO (xp zA 1 (-1) N _ (ay.bU 0 O) (by omega)) O ?_));rintro _ w3 ⟨db,rfl,ax⟩;have aL:=ay.call ax;clear ax;refine aq O (EL aL O ?_);intro g w4 aN;have dT:Rd w4 PB 1 (fun _=> .slice A N c):=jf (aN.rd 3 O);refine aq O (KQ O O (aq O (Wm (j:=0) dT (by exact aS Value.pointer (jJ _).symm) O O O O (aO (tu _ _ _ _) O ?_))));rintro _ w4 ⟨rfl,rfl⟩;have aV:St w w4 [aE 2 none 0 0 [],iv 118 g [],aE 2 db N N (List.replicate N (-1)),aE 2 zA 1 1 [-1],Bx 25 1 PB [.slice A N c]]:=aN.nil 2;have aV:St w w4 (mW PB A N c db (List.replicate N (-1)) none 0 (fa n fl cm 0) g [] []):=by
  have h9:=aV.perm (show List.Perm _ (aE 2 zA 1 1 [-1]::mW PB A N c db (List.replicate N (-1)) none 0 (fa n fl cm 0) g [] []) from by
   classical
   refine nb.2 fun z=>?_
   simp only [mW,kH,List.map_nil,nY,mm,pA,fa,cL,List.range_zero,List.filter_nil,List.length_nil];have:gF qo uN ([]:List jd)=[]:=O;rw [this];omega)
  exact h9.tail
 clear aN aL ay aD dT;refine aA O (Cd.loop (α:=Nat×ai×Nat×List jd) (fun z=> [(1,.slice A2 n c2),(2,.pointer PB),(5,.slice db N N),(6,.map (some g)),(7,.func (.func 192) #[] #[.pointer PB]),(8,.slice z.2.1 (fa n fl cm z.1).length z.2.2.1),(26,aj N),(27,aj (z.1:Int))]) (fun z w'=>z.1<=N/\fz n fl (qx n fl cm z.1 0) (fun _=>False) (5*z.1) z.2.2.2/\St w w' (mW PB A N c db (List.replicate N (-1)) z.2.1 z.2.2.1 (fa n fl cm z.1) g z.2.2.2 [])) (fun z=>N - z.1) (0,none,0,[]) (Wn O) ⟨bk _,fz.zero,aV⟩ ?_);clear aV;rintro⟨f,Aa,ca,M⟩ e w5 ⟨hf,fD,hS⟩;dsimp only at hf fD hS|-;have dV:(fa n fl cm f).length<=500:=by
  refine gm (jN _ _) ?_;rw [cL,fv,n3];omega
 refine bH O (aJ _ O (fun h1=>?_) (fun h1=>?_))
 ·have ja:f<N:=by omega
  have dT:Rd w5 PB 1 (fun _=> .slice A N c):=jf (hS.rd 1 O);have ub:=hS.bE hM;have eQ:=ub.at_ (i:=(f:Int)) (by omega) (by omega);have eM:=eQ.1;have Hs:=hl _ (kY f ja);have Pv:(rg rs f).n=n:=by omega
  have vP:=L3 (n:=n) (c:=cm) (x:=gl fl f) fx;have ui:=K9 (n:=n) (fl:=fl) (c:=cm) (f:=f);refine aC O (Wm (j:=0) dT (by exact aS Value.pointer (jJ _).symm) O O O O (aq O (aw ub.top.2 O (bn ub.top O (aO (Fk A2 (rg rs f).a n c2 (rg rs f).n (rg rs f).c cm (gl fl f) _ (hS.dh hC) eQ Pv.symm (by omega)) O ?_)))));rintro _ w6 ⟨Kn,LR,rfl,ax⟩;have bg:=hS.ao ax.below;have Gn:=bg.dh hC;have Gd:=ax.bU 0 O;clear ax hS dT ub eQ;refine aq O ?_;refine aO (Ew Kn _ LR (jA cm (gl fl f)) A2 n c2 cm _ Gd Gn (by rw [tO];omega)) O ?_;rintro _ w7 ⟨rfl,ax⟩;have bm:=bg.ao ax.below;clear ax bg Gd Gn
  first | refine dv rfl rfl ?_ | refine eJ rfl rfl ?_
  refine aA O (aJ _ O (fun h2=>?_) (fun h2=>?_))
  ·have eD:¬ga n cm (gl fl f):=fun h=>h2 (vP.2 h)
   rw [aB eD]at ui;refine aC O (aI O (aM O (tQ ?_)));refine⟨(f+1,Aa,ca,M),by show N - (f+1)<N - f;omega,⟨O,O,O,O,O,?_,O,O,av⟩,by show f+1<=N;omega,(fD.skip eD).more (by show 5*f<=5* (f+1);omega),?_⟩
   ·show Value.slice _ _ _=_;rw [ui]
   show St w w7 (mW _ _ _ _ _ _ _ _ (fa n fl cm (f+1)) _ _ _);rw [ui];exact bm
  have fy:ga n cm (gl fl f):=vP.1 (fp.1 h2);rw [aF fy]at ui;refine aC O (e6 bm O O O ?_);intro A9 w8 bI;refine fS 3 bI O (bI.bU 0 O) O O O (by omega) (by omega) O ?_;intro AZ cZ w9 bO;have bO:St w w9 (mW PB A N c db (List.replicate N (-1)) AZ cZ (fa n fl cm (f+1)) g M []):=by
   have h9:=bO.tail;rw [ui];show St w w9 (_::_::aE _ AZ ((fa n fl cm f++ [(f:Int)]).length) cZ _::_);rw [dS];exact h9
  have OW:(fa n fl cm f).length+1=(fa n fl cm (f+1)).length:=by rw [ui,dS];rfl
  clear bI bm;refine aq O (aR O O (aA O ?_));refine Cd.loop (α:=Nat×List jd) (fun z=> [(1,.slice A2 n c2),(2,.pointer PB),(5,.slice db N N),(6,.map (some g)),(7,.func (.func 192) #[] #[.pointer PB]),(8,.slice AZ (fa n fl cm (f+1)).length cZ),(26,aj N),(27,aj f),(9,aj f),(44,aj n),(45,aj (z.1:Int))]) (fun z w'=>z.1<=n/\fz n fl (qx n fl cm f z.1) (fun _=>False) (5*f+z.1) z.2/\St w w' (mW PB A N c db (List.replicate N (-1)) AZ cZ (fa n fl cm (f+1)) g z.2 [])) (fun z=>n - z.1) (0,M) ⟨O,O,O,O,O,aS (fun m=>Value.slice AZ m cZ) OW,O,O,O,O,O,av⟩ ⟨bk _,fD,bO⟩ ?_;clear bO fD;rintro⟨i,M⟩ e dW ⟨hi,fD,hS⟩;dsimp only at hi fD hS|-;refine bH O (aJ _ O (fun h3=>?_) (fun h3=>?_))
  ·have cd:i<n:=by omega
   refine aC O (aO (JH PB A N c n rs fl f i _ (hT.ao hS.below) (jf (hS.rd 1 O)) (hS.bE hM) ja (by omega) Hs.1 cd (by omega) Hs.2) O ?_);rintro _ eZ ⟨rfl,ax⟩;have hS:=hS.ao ax.below;have hlen:=fD.len (gZ (gl fl f) i);have pc:=fD.put (by omega) cd fy;generalize lX:gZ (gl fl f) i=kx at*;have HV:=(zO (pre:=[_,_,_,_]) (x:=kx) hS).1;clear ax;refine aq O ?_;refine EI (v:= .slice (fC M kx).a (fC M kx).n (fC M kx).c) uK (hS.D7 3 rfl) rfl rfl (by unfold fC;cases eB M kx<;>rfl) rfl ?_;refine aq O (e6 hS O O O ?_);intro A9 iR gv;have gv:=St.J3 (pre:=[_,_,_,_,_]) (x:=kx) gv;refine fS 0 gv O (gv.bU 1 O) O O O (by omega) (by omega) O fun AY cY lb kV=>EO O uK 5 (a:=kx) (u:=(⟨AY,(fC M kx).n+1,cY⟩,fV M kx++ [(f:Int)])) kV O O O O ?_;intro uX kW;have jC:=(EP (M:=M) (x:=kx) (u:=(⟨AY,(fC M kx).n+1,cY⟩,fV M kx++ [(f:Int)])) (pre:=[_,_,_,_,_]) kW).tail;refine aq O (aI O (aM O (tQ ?_)));exact⟨(i+1,gz M kx (⟨AY,(fC M kx).n+1,cY⟩,fV M kx++ [(f:Int)])),by show n - (i+1)<n - i;omega,(Wn O),by show i+1<=n;omega,pc _,jC⟩
  obtain rfl:i=n:=by omega
  refine bj O (bl (cn O (aI O (aM O (tQ ?_)))));exact⟨(f+1,AZ,cZ,M),by show N - (f+1)<N - f;omega,(Wn O),by show f+1<=N;omega,fD.row.more (by show 5*f+i<=5* (f+1);omega),hS⟩
 obtain rfl:f=N:=by omega
 subst eC;have pR:=fR.rR n fl cm;have fD:fz n fl (fun y _=>ga n cm (gl fl y)) (fun y=>0<=gi (List.replicate fl.length (-1:Int)) y) 2005 M:=((fD.congr fun y i hy hi=> ⟨fun h=>h.1,fun h=> ⟨h,.inl hy⟩⟩).mono fun y _ h=>h.elim).more (by omega);have iJ:=RQ (n:=n) (fl:=fl) (c:=cm) (fA.zero fl.length (fR n fl cm));have eE:=fun(L:ah) (j f:Nat) (hj:j< (fa n fl cm fl.length).length) (hf:gi (fa n fl cm fl.length) j=f) h=>RR (n:=n) (fl:=fl) (c:=cm) (L:=L) hj hf h
 have gC:=fun y:Int=>vk (n:=n) (fl:=fl) (c:=cm) (f:=fl.length) (y:=y)
 generalize fa n fl cm fl.length=al at*;refine bj O (bl (cn O (aR O O (aA O ?_))));refine Cd.loop (α:=Nat×ah×List jd) (fun z=> [(1,.slice A2 n c2),(2,.pointer PB),(5,.slice db fl.length fl.length),(6,.map (some g)),(7,.func (.func 192) #[] #[.pointer PB]),(62,.slice Aa al.length ca),(63,aj (al.length:Int)),(64,aj (z.1:Int))]) (fun z w'=>z.1<=al.length/\fA fl.length (fR n fl cm) (kl fl.length al z.1) z.2.1/\fz n fl (fun y _=>ga n cm (gl fl y)) (fun y=>0<=gi z.2.1 y) 2005 z.2.2/\St w w' (mW PB A fl.length c db z.2.1 Aa ca al g z.2.2 [])) (fun z=>al.length - z.1) (0,List.replicate fl.length (-1),M) (Wn O) ⟨bk _,iJ,fD,hS⟩ ?_;clear hS fD iJ hf h1;rintro⟨j,L0,M⟩ e w6 ⟨hj,iJ,fD,hS⟩;dsimp only at hj iJ fD hS|-;refine bH O (aJ _ O (fun h1=>?_) (fun h1=>?_))
 ·have yn:j<al.length:=by omega
  have Hg:=(gC _).1 (gi_in yn);obtain⟨f,hf⟩:∃f:Nat,gi al j=f:=⟨(gi al j).toNat,by omega⟩;have im:kl fl.length al j=f:=by unfold kl;rw [if_pos yn,hf];rfl
  rw [hf]at Hg;rw [im]at iJ;have ny:=iJ.1;have BN:fR n fl cm f f:=⟨Hg.2,.refl (by omega)⟩;have kq:=hS.bU 0 O;refine aC O (aw (hS.bU 2 O).2 O (a6 (hS.bU 2 O) O (aq O ?_)));rw [hf];refine aw kq.2 O (a6 kq O (aA O ?_));refine aJ _ O (fun h2=>?_) (fun h2=>?_)
  ·refine aC O (aI O (aM O (tQ ?_)));exact⟨(j+1,L0,M),by show al.length - (j+1)<al.length - j;omega,(Wn O),by show j+1<=al.length;omega,eE _ j f yn hf (iJ.skip pR (by omega) (.inl h2)),fD,hS⟩
  have h0:gi L0 f<0:=by omega
  refine aC O (aw kq.2 O (ak.mg 0 hS O O O (by omega) ?_));intro w7 bm;have bm:St w w7 (mW PB A fl.length c db (L0.set f (f:Int)) Aa ca al g M []):=bm;refine aq O (e6 bm O O O ?_);intro Ao w8 bI;have dp:=jg.start (A:=qC n fl cm) ny (show f<fl.length by omega) h0 BN;have fD:=fD.mono (G':=fun y=>0<=gi (L0.set f (f:Int)) y) fun y _ h=>vB h
  refine aA O (Cd.loop (α:=Nat×ah×List Nat×ai×Nat×List jd) (fun z=> [(1,.slice A2 n c2),(2,.pointer PB),(5,.slice db fl.length fl.length),(6,.map (some g)),(7,.func (.func 192) #[] #[.pointer PB]),(62,.slice Aa al.length ca),(63,aj (al.length:Int)),(64,aj j),(13,aj f),(14,.slice z.2.2.2.1 (z.2.2.1.length - z.1) z.2.2.2.2.1)]) (fun z w'=>jg fl.length (fR n fl cm) (qC n fl cm) f L0 z.2.1 z.2.2.1 z.1/\fz n fl (fun y _=>ga n cm (gl fl y)) (fun y=>0<=gi z.2.1 y) 2005 z.2.2.2.2.2/\St w w' (aE 2 z.2.2.2.1 (z.2.2.1.length - z.1) z.2.2.2.2.1 (gx (z.2.2.1.drop z.1))::mW PB A fl.length c db z.2.1 Aa ca al g z.2.2.2.2.2 [])) (fun z=>fl.length+1 - z.1) (0,L0.set f (f:Int),[f],Ao,1,M) (Wn O) ⟨dp,fD,bI⟩ ?_);clear bI bm hS kq dp fD;rintro⟨k,L,Q,Ao,co,M⟩ e w9 ⟨dp,fD,hS⟩;dsimp only at dp fD hS|-;have l0:=dp.rV;have fE:=dp.yW;refine aY O (aR O O (aA O ?_));refine aJ _ O (fun h3=>?_) (fun h3=>?_)
  ·have fh:k<Q.length:=by omega
   obtain⟨x,hx⟩:∃x,Q.getD k 0=x:=⟨_,rfl⟩;have wD:x∈Q:=by rw [<-hx,bX,dE fh];exact di _
   have js:=dp.rJ x wD;have NT:ga n cm (gl fl x):=(js.2.2.1.of js.2.2.2);have sO:=hl _ (kY x js.1);refine aC O (aR O O (aA O ?_));refine Cd.loop (α:=Nat×ah×List Nat×ai×Nat×List jd) (fun z=> [(1,.slice A2 n c2),(2,.pointer PB),(5,.slice db fl.length fl.length),(6,.map (some g)),(7,.func (.func 192) #[] #[.pointer PB]),(62,.slice Aa al.length ca),(63,aj (al.length:Int)),(64,aj j),(13,aj f),(14,.slice z.2.2.2.1 (z.2.2.1.length - k) z.2.2.2.2.1),(85,aj n),(86,aj (z.1:Int))]) (fun z w'=>z.1<=n/\jg fl.length (fR n fl cm) (qC n fl cm) f L0 z.2.1 z.2.2.1 k/\(k<z.2.2.1.length/\z.2.2.1.getD k 0=x)/\fz n fl (fun y _=>ga n cm (gl fl y)) (fun y=>0<=gi z.2.1 y) 2005 z.2.2.2.2.2/\(∀i' y:Nat,i'<z.1->y<fl.length->ga n cm (gl fl y)->gZ (gl fl y) i'=gZ (gl fl x) i'->0<=gi z.2.1 y)/\St w w' (aE 2 z.2.2.2.1 (z.2.2.1.length - k) z.2.2.2.2.1 (gx (z.2.2.1.drop k))::mW PB A fl.length c db z.2.1 Aa ca al g z.2.2.2.2.2 [])) (fun z=>n - z.1) (0,L,Q,Ao,co,M) (Wn O) ⟨bk _,dp,⟨fh,hx⟩,fD,fun i' y h=>absurd h (gR _),hS⟩ ?_;clear hS fD dp hx wD fh l0 fE h3;rintro⟨i,Li,Qi,Ao,co,M⟩ e dW ⟨hi,dp,⟨fh,hx⟩,fD,iF,hS⟩;dsimp only at hi dp fh hx fD iF hS|-;refine bH O (aJ _ O (fun h4=>?_) (fun h4=>?_))
   ·have cd:i<n:=by omega
    have vT:gi (gx (Qi.drop k)) 0=(x:Int):=by
     have h9:=Ie fh;rw [hx]at h9;rw [<-h9];unfold gx;rw [List.map_drop,Ng]
    have yh:(gx (Qi.drop k)).length=Qi.length - k:=by simp [gx]
    have sA:=hS.bU 0 O;refine aC O (Wf (i:=0) sA.2 O O O (by omega) (by omega) ?_);refine Wg (i:=0) sA O (by show 0<_;omega) O O ?_;refine aq O ?_;rw [vT];refine aO (JH PB A fl.length c n rs fl x i _ (hT.ao hS.below) (jf (hS.rd 2 O)) (hS.bE hM) js.1 (by omega) sO.1 cd (by omega) sO.2) O ?_;rintro _ eZ ⟨rfl,ax⟩;have hS:=hS.ao ax.below;have ug:=fun y hy=>fD.K8 lz js.1 cd NT (y:=y) hy
    have Ov:=fD.len (gZ (gl fl x) i);have G2:=fun(y:Nat) (hy:y<fl.length) (hH:ga n cm (gl fl y)) (he:gZ (gl fl y) i=gZ (gl fl x) i)=>he▸fD.al y i hy cd hH
    generalize lX:gZ (gl fl x) i=kx at*;clear ax sA;obtain⟨sx,wy⟩:∃sx,fC M kx=sx:=⟨_,rfl⟩;obtain⟨ys,rI⟩:∃ys,fV M kx=ys:=⟨_,rfl⟩;have jq:∀ {w':aa} {Ao:ai} {no co:Nat} {qs:ah} {L:ah},St w w' (aE 2 Ao no co qs::mW PB A fl.length c db L Aa ca al g M [])->bS w' sx.a sx.n ys:=fun h=>by
     rw [<-wy,<-rI];exact zO (pre:=[_,_,_,_,_]) (x:=kx) h
    rw [rI]at Ov ug G2;have rH:=(jq hS).1;refine aq O ?_;refine EI (v:= .slice sx.a sx.n sx.c) uK (hS.D7 4 rfl) rfl rfl (by rw [<-wy];unfold fC;cases eB M kx<;>rfl) rfl ?_;refine aR O O (aA O ?_);refine Cd.loop (α:=Nat×ah×List Nat×ai×Nat) (fun z=> [(1,.slice A2 n c2),(2,.pointer PB),(5,.slice db fl.length fl.length),(6,.map (some g)),(7,.func (.func 192) #[] #[.pointer PB]),(62,.slice Aa al.length ca),(63,aj (al.length:Int)),(64,aj j),(13,aj f),(14,.slice z.2.2.2.1 (z.2.2.1.length - k) z.2.2.2.2),(85,aj n),(86,aj i),(16,qo kx),(97,.slice sx.a sx.n sx.c),(98,aj (sx.n:Int)),(99,aj (z.1:Int))]) (fun z w'=>z.1<=sx.n/\jg fl.length (fR n fl cm) (qC n fl cm) f L0 z.2.1 z.2.2.1 k/\(k<z.2.2.1.length/\z.2.2.1.getD k 0=x)/\(∀p:Nat,p<z.1->0<=gi z.2.1 (gi ys p))/\(∀y:Nat,0<=gi Li y->0<=gi z.2.1 y)/\St w w' (aE 2 z.2.2.2.1 (z.2.2.1.length - k) z.2.2.2.2 (gx (z.2.2.1.drop k))::mW PB A fl.length c db z.2.1 Aa ca al g M [])) (fun z=>sx.n - z.1) (0,Li,Qi,Ao,co) (Wn O) ⟨bk _,dp,⟨fh,hx⟩,fun p h=>absurd h (gR _),fun y h=>h,hS⟩ ?_;clear hS dp fh hx vT yh;rintro⟨q,L,Q,Ao,co⟩ e iR ⟨hq,dp,⟨fh,hx⟩,p8,ow,hS⟩;dsimp only at hq dp fh hx p8 ow hS|-;have l0:=dp.rV;have NX:=dp.len;refine bH O (aJ _ O (fun h5=>?_) (fun h5=>?_))
    ·have C7:q<ys.length:=by omega
     have nI:=jq hS;obtain⟨y,hy,qm,wE⟩:=ug _ (gi_in C7);have kq:=hS.bU 1 O;refine aC O (aw nI.2 O (a6 nI O (aq O ?_)));rw [hy];refine aw kq.2 O (a6 kq O (aA O ?_));refine aJ _ O (fun h6=>?_) (fun h6=>?_)
     ·have kC:=dp.meet qm h6 (pR.pq _ _ _ js.2.2 (wE.link lY qb));refine aC O (aw kq.2 O (ak.mg 1 hS O O O (by omega) ?_));intro lb kV;refine aq O (e6 kV O O O ?_);intro A9 uX kW;refine fS 1 kW O (kW.bU 0 O) O O O (by omega) (by omega) O ?_;intro AZ cZ r8 jC;have jC:=jC.tail;have v7:(Q++ [y]).length - k=(Q.length - k)+1:=by rw [dS];show Q.length+1 - k=_;omega
      refine aq O (aI O (aM O (tQ ?_)));refine⟨(q+1,L.set y (f:Int),Q++ [y],AZ,cZ),by show sx.n - (q+1)<sx.n - q;omega,⟨O,O,O,O,O,O,O,O,O,aS (fun m=>Value.slice AZ m cZ) v7.symm,O,O,O,O,O,O,av⟩,by show q+1<=sx.n;omega,kC,⟨by show k< (Q++ [y]).length;rw [dS];omega,by show(Q++ [y]).getD k 0=x;rw [F0 fh,hx]⟩,fun p hp=>?_,fun z hz=>vB (ow z hz),?_⟩
      ·by_cases ep:p=q
       ·subst ep;rw [hy];have h9:=F3 (L:=L) (y:=y) (f:=f) (by omega);show 0<=gi (L.set y (f:Int)) y;omega
       have hp:p<q+1:=hp;obtain⟨y9,Dt,_,_⟩:=ug _ (gi_in (show p<ys.length by omega));have h9:=p8 p (by omega);rw [Dt]at h9|-;exact vB h9
      show St w r8 (aE _ AZ ((Q++ [y]).length - k) cZ (gx ((Q++ [y]).drop k))::_);rw [v7,Qx (by omega)];exact jC
     refine aC O (aI O (aM O (tQ ?_)));refine⟨(q+1,L,Q,Ao,co),by show sx.n - (q+1)<sx.n - q;omega,(Wn O),by show q+1<=sx.n;omega,dp,⟨fh,hx⟩,fun p hp=>?_,ow,hS⟩
     by_cases ep:p=q
     ·subst ep;rw [hy];show 0<=gi L y;omega
     have hp:p<q+1:=hp;exact p8 p (by omega)
    have dV:∀y:Nat,(y:Int)∈ys->0<=gi L y:=fun y hy=>by
     obtain⟨p,hp,e9⟩:=fP.1 hy;rw [<-bQ hp]at e9;have:=p8 p (by omega)
     rwa [e9]at this
    have NP:=(fD.mono (G':=fun y=>0<=gi L y) fun y _ h=>ow y h).del (x:=kx) fun y hy=>dV y (rI▸hy)
    refine bj O (bl (cn O ?_));refine KO uK 4 (a:=kx) hS O O O ?_;intro lb kV;have kV:=K3 (pre:=[_,_,_,_,_]) (x:=kx) kV;refine aq O (aI O (aM O (tQ ?_)));refine⟨(i+1,L,Q,Ao,co,gq M kx),by show n - (i+1)<n - i;omega,(Wn O),by show i+1<=n;omega,dp,⟨fh,hx⟩,NP,fun i' y bP qm hH he=>?_,kV⟩
    by_cases ei:i'=i
    ·subst ei;rcases G2 y qm hH (he.trans lX)with h9 | h9
     ·exact dV y h9
     exact ow y h9
    exact ow y (iF i' y (by have bP:i'<i+1:=bP;omega) qm hH he)
   obtain rfl:i=n:=by omega
   have l0:=dp.rV;have qe:=dp.next fh fun y hy=>by
    rw [hx]at hy;obtain⟨_,NU,i',bP,ha⟩:=hy;exact iF i' y bP ha.2.1 NU ((JP sO.1 (hl _ (kY y ha.2.1)).1).2 fun k9 h9 fJ=>ha.2.2 k9 h9 fJ).symm
   have hkQ2:k<Qi.length:=fh;have o5:=K1 (i:=0) (l:=1) hS O (by show 1<=Qi.length - k;omega);refine bj O (bl (cn O ?_));refine tD (l:=1) O O O (by omega) (aM O (tQ ?_));refine⟨(k+1,Li,Qi,cutAt Ao co 1,co - 1,M),by show fl.length+1 - (k+1)<fl.length+1 - k;omega,⟨O,O,O,O,O,O,O,O,O,aS (fun m=>Value.slice (cutAt Ao co 1) m (co - 1)) (Nat.sub_sub _ _ _),av⟩,qe,fD,?_⟩;show St w dW (aE _ (cutAt Ao co 1) (Qi.length - (k+1)) (co - 1) (gx (Qi.drop (k+1)))::_);have e9:gx (Qi.drop (k+1))=(gx (Qi.drop k)).drop 1:=by simp [gx]
   rw [e9,<-Nat.sub_sub];exact o5
  have fh:k=Q.length:=by omega
  subst fh;have pV:=dp.end_ pR iJ (by omega) h0 (fun S aD ay=>fR.ind S aD ay) (fun x y h=>h.link lY qb);refine bj O (bl (cn O (aI O (aM O (tQ ?_)))));exact⟨(j+1,L,M),by show al.length - (j+1)<al.length - j;omega,(Wn O),by show j+1<=al.length;omega,eE _ j f yn hf pV,fD,hS.tail⟩
 have uw:j=al.length:=by omega
 have im:kl fl.length al j=fl.length:=by unfold kl;rw [if_neg (by omega)]
 rw [im]at iJ;refine bj O (bl (dd O ?_));exact dH O ⟨db,L0,O,iJ,hS.sub ((List.nil_sublist _).cons_cons _)⟩
def uset(u:Nat->ab)(k:Nat)(v:ab):Nat->ab:=fun j=>cond (Nat.beq j k) v (u j)
theorem Uv{u:Nat->ab}{v:ab}(h:u k=v):u=uset u k v:=by
 funext j;unfold uset;cases hb:Nat.beq j k with
 | true=>rw [kO hb,h];rfl
 | false=>rfl
theorem Mh(A:ai)(N c:Nat)(rs:List aH)(fl:ag)(n:Nat)(w:aa)(hT:mx w)(hM:bu w A N rs fl)(hN:N<=401)(hn:n<=5)(hl:∀x∈fl,x.length=n/\∀e∈x,0<=e/\e<=1000000)(lY:fl.Nodup):
 aG prog 64 [.slice A N c] w (fun v w'=>∃A' n' c',v= .slice A' n' c'/\(A'.isNone=true↔zD n fl)/\St w w' []):=by
 have eC:=hM.len;have kY:∀f:Nat,f<N->gl fl f∈fl:=fun f hf=>by rw [cQ (by omega)];exact di _
 have lz:∀x∈fl,x.length=n/\∀e∈x,0<=e:=fun x hx=> ⟨(hl x hx).1,fun e he=> ((hl x hx).2 e he).1⟩
 refine bs func64 O ntmps64 O (bF O) (aY O (EL (St.refl w) O ?_));intro g w1 aD;have aD:St w w1 (iv 118 g (gF qo uN ([]:List jd))::(kH 2 ([]:List jd)++ [])):=aD;refine aq O (aO (tu _ _ _ _) O ?_);rintro _ w1 ⟨rfl,rfl⟩;refine aA O ?_;refine Cd.loop (α:=Nat×List jd) (fun z=> [(0,.slice A N c),(3,.map (some g)),(12,aj N),(13,aj (z.1:Int))])
  (fun z w'=>z.1<=N/\(∀l u,eB z.2 l=some u->fA N (fR n fl l) N u.2)/\(∀a b:Nat,a<z.1->a<b->b<N->dN n fl (fun k=>gi (gl fl a) k=gi (gl fl b) k) a b)/\St w w' (iv 118 g (gF qo uN z.2)::(kH 2 z.2++ []))) (fun z=>N - z.1) (0,[]) ⟨rfl,rfl,rfl,rfl,av⟩ ⟨bk _,fun l u h=>by simp [eB]at h,fun a b h=>absurd h (gR _),aD⟩ ?_
 clear aD;rintro⟨a,M⟩ e w2 ⟨ha,mI,iF,hS⟩;dsimp only at ha mI iF hS|-;refine bH O (aJ _ O (fun h1=>?_) (fun h1=>?_))
 ·have oZ:a<N:=by omega
  refine aC O (aI O (aA O ?_));refine Cd.loop (α:=Nat×List jd) (fun z=> [(0,.slice A N c),(3,.map (some g)),(12,aj N),(13,aj a),(4,aj a),(5,aj (z.1:Int))])
   (fun z w'=> (a<z.1/\z.1<=N)/\(∀l u,eB z.2 l=some u->fA N (fR n fl l) N u.2)/\(∀b:Nat,a<b->b<z.1->dN n fl (fun k=>gi (gl fl a) k=gi (gl fl b) k) a b)/\St w w' (iv 118 g (gF qo uN z.2)::(kH 2 z.2++ []))) (fun z=>N - z.1) (a+1,M) ⟨rfl,rfl,rfl,rfl,rfl,rfl,av⟩ ⟨⟨Nat.lt_succ_self _,oZ⟩,mI,fun b h h'=>by omega,hS⟩ ?_
  clear hS mI;rintro⟨b,M⟩ e w3 ⟨⟨jD,uj⟩,mI,oq,hS⟩;dsimp only at jD uj mI oq hS|-;refine aY O (aO (tu _ _ _ _) O ?_);rintro _ w3 ⟨rfl,rfl⟩;refine aA O (aJ _ O (fun h2=>?_) (fun h2=>?_))
  ·have hb:b<N:=by omega
   have pQ:=hS.bE hM;have lB:=pQ.at_ (i:=(a:Int)) (by omega) (by omega);have jb:=pQ.at_ (i:=(b:Int)) (by omega) (by omega);have CI:=hl _ (kY a oZ);have Ph:=hl _ (kY b hb);have yv:(rg rs a).n=n:=by rw [<-lB.1];exact CI.1
   have Hy:(rg rs b).n=n:=by rw [<-jb.1];exact Ph.1
   have kZ:=L4 (n:=n) lz (show a<fl.length by omega) (show b<fl.length by omega);have fx:(jA (gl fl a) (gl fl b)).length=n:=by rw [tO];exact CI.1
   have OE:∀x∈jA (gl fl a) (gl fl b),-1<=x/\x<=1000000:=fun x hx=>by
    obtain⟨k,hk,rfl⟩:=fq.1 hx;have hk:=iI.1 hk
    split
    ·have:=CI.2 _ (gi_in hk);omega
    ·omega
   refine cj O ?_;refine cN [xS (A) (N) (c),xI ((a:Int)),xP (az (A) ((a:Int)).toNat),xS ((rg (rs) ((a:Int))).a) ((rg (rs) ((a:Int))).n) ((rg (rs) ((a:Int))).c),xS (A) (N) (c),xI ((b:Int)),xP (az (A) ((b:Int)).toNat),xS ((rg (rs) ((b:Int))).a) ((rg (rs) ((b:Int))).n) ((rg (rs) ((b:Int))).c),.pr (fun v w'=>∃A6 c6,v= .slice A6 n c6/\bS w' A6 n (jA (gl fl a) (gl fl b))),.pr (fun v w'=>∃A6 c6,v= .slice A6 n c6/\bS w' A6 n (jA (gl fl a) (gl fl b)))] rfl (lx (lx (lx (lx (lx (lx (lx (lx (cq.2 ⟨Yd.ct (fun v w w' h hb=>by obtain⟨A6,c6,hv,hT⟩:=h;exact⟨A6,c6,hv,hT.ao hb⟩),(cq.2 ⟨Yd.ct (fun v w w' h hb=>by obtain⟨A6,c6,hv,hT⟩:=h;exact⟨A6,c6,hv,hT.ao hb⟩),(fun _ h=>by cases h)⟩)⟩))))))))) ?_ ?_
   ·refine⟨Dr O,Dr O,fun _ _ hb _ _=>aw (pQ.top.ao hb).2 O Az,fun _ _ hb _ _=>bn (pQ.top.ao hb) O Az,Dr O,Dr O,fun _ _ hb _ _=>aw (pQ.top.ao hb).2 O Az,fun _ _ hb _ _=>bn (pQ.top.ao hb) O Az,?_,?_,av⟩
    ·intro e1 w1 hb hp aZ;refine aO (Fk (rg rs a).a (rg rs b).a (rg rs a).n (rg rs a).c (rg rs b).n (rg rs b).c (gl fl a) (gl fl b) _ (lB.ao hb) (jb.ao hb) (by omega) (by omega)) O ?_;rintro _ w9 ⟨A6,c6,rfl,ax⟩;refine ak.n ?_;exact ew.dn ax.below ⟨A6,c6,by rw [fx],by have h9:=ax.bU 0 O;rw [fx]at h9;exact h9⟩
    ·intro e1 w1 hb hp aZ;obtain⟨A6,c6,NC,hT⟩:=(hp 8 (by decide) rfl _ _ rfl rfl);refine pE O (by exact NC) O (ak.n ?_);exact ew.dn (Below.refl _ _) ⟨A6,c6,O,hT⟩
   intro u w4 kr hu;obtain⟨A6,c6,h6,jS⟩:=hu 9 _ rfl;rw [Uv h6];have aN:=hS.ao kr;generalize sG:jA (gl fl a) (gl fl b)=cm at*;clear hu hS pQ lB jb;refine ib O ?_;refine aO (Ir A6 n c6 cm _ (hT.ao aN.below) jS (fun x hx=>by have:=OE x hx;omega) (by omega)) O ?_;rintro _ w5 ⟨rfl,ax⟩;have aV:=aN.ao ax.below;have jS:=jS.ao ax.below;clear ax aN;refine aq O ?_;refine KV (v:= .slice (fC M cm).a (fC M cm).n (fC M cm).c) uK (x:=cm) (aV.D7 0 rfl) rfl rfl (by unfold fC;cases eB M cm<;>rfl) rfl ?_;refine aq O ?_
   first | refine dv rfl rfl ?_ | refine eJ rfl rfl ?_
   refine aA O ?_;cases Cw:eB M cm with
   | none => --dup 2
    refine Cd.eP O (aC O (aO (SY A N c rs fl n A6 c6 cm _ (hT.ao aV.below) (aV.bE hM) jS hN hn hl lY) O ?_));rintro _ w6 ⟨A8,L,rfl,hL,ax⟩;have bg:=aV.call ax;refine aq O (EO O uK 1 (a:=cm) (u:=(⟨A8,N,N⟩,L)) bg O O O O ?_);intro w7 bm;have bw:bS w7 A8 N L:=bm.bU 0 O;have bI:St w w7 (iv 118 g (gF qo uN (gz M cm (⟨A8,N,N⟩,L)))::(kH 2 (gz M cm (⟨A8,N,N⟩,L))++ [])):=EP (M:=M) (x:=cm) (u:=(⟨A8,N,N⟩,L)) (pre:=[_]) (by rw [AX Cw];exact bm);have NW:∀l u,eB (gz M cm (⟨A8,N,N⟩,L)) l=some u->fA N (fR n fl l) N u.2:=fun l u h=>by
     rw [FZ]at h
     split at h
     ·rename_i e;subst e;injection h with h
      subst h;exact hL
     ·exact mI l u h
    clear bm bg aV ax jS;have ny:=hL.1;have cT:=bw.1;have rj:=hL.done (fR.rR n fl cm |>fun h=>eC▸h) kZ.1 kZ.2.1;refine aA O (cN [xS (A8) (N) (N),xI ((a:Int)),xP (az (A8) ((a:Int)).toNat),xI (gi (L) ((a:Int))),xS (A8) (N) (N),xI ((b:Int)),xP (az (A8) ((b:Int)).toNat),xI (gi (L) ((b:Int))),xB (decide (¬(gi (L) ((a:Int)))=(gi (L) ((b:Int)))))] O (da O) ?_ ?_)
    ·exact⟨Dr O,Dr O,fun _ _ hb _ _=>aw (bw.ao hb).2 O Az,fun _ _ hb _ _=>a6 (bw.ao hb) O Az,Dr O,Dr O,fun _ _ hb _ _=>aw (bw.ao hb).2 O Az,fun _ _ hb _ _=>a6 (bw.ao hb) O Az,Dr O,av⟩
    intro u w9 ya _;have bO:=bI.ao ya;refine dM O (aJ _ O (fun h3=>?_) (fun h3=>?_))
    ·refine aC O (se [(a:Int),(b:Int)] bO O O (by decide) (by decide) O O fun A9 dW cJ=>bW O (cy (b9 (cy (b9 ?_)))));refine dH O ⟨A9,2,2,O,⟨fun h=>?_,fun h=>?_⟩,cJ.none⟩
     ·rw [vd (cJ.bU 0 rfl).2 (by decide)]at h;cases h
     ·exact absurd (rj.2 (kZ.2.2.2 (h a b jD (by omega)))) h3
    ·have b6:=kZ.2.2.1 (rj.1 (fp.1 h3));refine aC O (aI O (aM O (tQ ?_)));exact⟨(b+1,gz M cm (⟨A8,N,N⟩,L)),by show N - (b+1)<N - b;omega,(Wn O),⟨Nat.lt_succ_of_lt jD,hb⟩,NW,fun b' h4 h5=>by
      by_cases e9:b'=b
      ·subst e9;exact b6
      ·exact oq b' h4 (by have h5:b'<b+1:=h5;omega),bO⟩
   | some u0=>
    have hL:fA N (fR n fl cm) N (fV M cm):=by
     rw [(Bc Cw).2];exact mI cm u0 Cw
    have bw:bS w5 (fC M cm).a (fC M cm).n (fV M cm):=zO (pre:=[_]) (x:=cm) aV;refine Cd.dO O ?_;have ny:=hL.1;have cT:=bw.1;have rj:=hL.done (fR.rR n fl cm |>fun h=>eC▸h) kZ.1 kZ.2.1;refine cj O (cN [xS ((fC M cm).a) ((fC M cm).n) ((fC M cm).c),xI ((a:Int)),xP (az ((fC M cm).a) ((a:Int)).toNat),xI (gi (fV M cm) ((a:Int))),xS ((fC M cm).a) ((fC M cm).n) ((fC M cm).c),xI ((b:Int)),xP (az ((fC M cm).a) ((b:Int)).toNat),xI (gi (fV M cm) ((b:Int))),xB (decide (¬(gi (fV M cm) ((a:Int)))=(gi (fV M cm) ((b:Int)))))] O (da O) ?_ ?_)
    ·exact⟨Dr O,Dr O,fun _ _ hb _ _=>aw (bw.ao hb).2 O Az,fun _ _ hb _ _=>a6 (bw.ao hb) O Az,Dr O,Dr O,fun _ _ hb _ _=>aw (bw.ao hb).2 O Az,fun _ _ hb _ _=>a6 (bw.ao hb) O Az,Dr O,av⟩
    intro u w9 ya _;have bO:=aV.ao ya;refine dM O (aJ _ O (fun h3=>?_) (fun h3=>?_))
    ·refine aC O (se [(a:Int),(b:Int)] bO O O (by decide) (by decide) O O fun A9 dW cJ=>bW O (cy (b9 (cy (b9 ?_)))));refine dH O ⟨A9,2,2,O,⟨fun h=>?_,fun h=>?_⟩,cJ.none⟩
     ·rw [vd (cJ.bU 0 rfl).2 (by decide)]at h;cases h
     ·exact absurd (rj.2 (kZ.2.2.2 (h a b jD (by omega)))) h3
    ·have b6:=kZ.2.2.1 (rj.1 (fp.1 h3));refine aC O (aI O (aM O (tQ ?_)));exact⟨(b+1,M),by show N - (b+1)<N - b;omega,(Wn O),⟨Nat.lt_succ_of_lt jD,hb⟩,mI,fun b' h4 h5=>by
      by_cases e9:b'=b
      ·subst e9;exact b6
      ·exact oq b' h4 (by have h5:b'<b+1:=h5;omega),bO⟩
  ·have yc:b=N:=by omega
   refine bj O (bl (cn O (aI O (aM O (tQ ?_)))));exact⟨(a+1,M),by show N - (a+1)<N - a;omega,(Wn O),oZ,mI,fun a' b' h3 h4 h5=>by
    by_cases e9:a'=a
    ·subst e9;exact oq b' h4 (by omega)
    ·exact iF a' b' (by have h3:a'<a+1:=h3;omega) h4 h5,hS⟩
 ·have GZ:a=N:=by omega
  refine bj O (bl (dd O ?_));exact dH O ⟨none,0,0,O,⟨fun _ a' b' h3 h4=>iF a' b' (by omega) h3 (by omega),fun _=>O⟩,hS.none⟩
theorem zg{e:Int}:e∈rU xs x↔(0<=e/\e<xs.length)/\gi xs e=x:=by
 unfold rU;rw [eO,tk,jj]
theorem zl{n:Int}{e:Int}(h0:0<=i)(h1:i<n):e∈ke n R (i - 1)↔ng R i e:=by
 unfold ke ng
 split
 ·rw [zg];exact⟨fun h=> .inr ⟨h.1,by omega,h.2⟩,fun h=>h.elim (fun h=>by omega) fun h=> ⟨h.1,h.2.2⟩⟩
 rw [fQ];exact⟨fun h=> .inl ⟨h,by omega⟩,fun h=>h.elim (fun h=>h.1) fun h=>by omega⟩
theorem zk{n:Int}{f:Int}(h0:0<=i)(h1:i<n):f∈ke n R (i+1)↔kL n R i f:=by
 unfold ke kL
 split
 ·rw [zg];exact⟨fun h=> .inr ⟨h.1,by omega,h.2⟩,fun h=>h.elim (fun h=>by omega) fun h=> ⟨h.1,h.2.2⟩⟩
 rw [fQ];exact⟨fun h=> .inl ⟨h,by omega⟩,fun h=>h.elim (fun h=>h.1) fun h=>by omega⟩
theorem TA{n:Int}(h0:0<=i)(h1:i<n):ke n R i=rU R i:=by
 unfold ke;rw [aF (by omega)]
theorem Ee{n:Int}(h:R.length<=500):(ke n R i).length<=500:=by
 unfold ke
 split
 ·refine gm (jN _ _) ?_;rw [cL,fv,n3];exact h
 exact(by decide:1<=500)
theorem JM{n:Int}{e:Int}(h:e∈ke n R i):e= -1\/(0<=e/\e<R.length):=by
 unfold ke at h
 split at h
 ·exact .inr (zg.1 h).1
 exact .inl (fQ.1 h)
def mC(P:Int->Prop)[DecidablePred P](xs:ah)(q:Nat):Nat:=((xs.take q).filter fun x=>decide (P x)).length
section
variable {P:Int->Prop} [DecidablePred P] {xs:ah} {q:Nat}
theorem Aq:mC P xs q<=q:=by
 unfold mC;refine gm (jN _ _) ?_;rw [kM];omega
theorem Av(h:q<xs.length)(hp:P (gi xs q)):mC P xs (q+1)=mC P xs q+1:=by
 unfold mC;rw [zr h,mn,dS];simp [hp]
theorem Ar(h:q<xs.length)(hp:¬P (gi xs q)):mC P xs (q+1)=mC P xs q:=by
 unfold mC;rw [zr h,mn,dS];simp [hp]
end
def kQ(B:ag)(e f x:Int):Prop:=(e<0\/e∈gl B x)/\(f<0\/x∈gl B f)
instance (B:ag)(e f:Int):DecidablePred (kQ B e f):=fun x=>by unfold kQ;infer_instance
theorem Mc{R:ah}{B:ag}{i e f:Int}:mC (kQ B e f) (rU R i) (rU R i).length=(kN R B i e f).length:=by
 unfold mC kN rU;rw [List.take_length,List.filter_filter]
 congr 1
 refine List.filter_congr fun x _=>?_
 rw [<-Bool.decide_and];refine gJ.2 ?_;unfold kQ;exact⟨fun h=> ⟨h.2,h.1⟩,fun h=> ⟨h.2,h.1⟩⟩
theorem Mz(n:Int)(A D:ai)(cA cD:Nat)(R:ah)(rs:List aH)(B:ag)(w:aa)(hR:bS w A R.length R)(hB:bu w D B.length rs B)(hP:gf n R B):
 aG prog 63 [.agg #[aj n,.slice A R.length cA,.slice D B.length cD]] w (fun v w'=>∃A' n' c',v= .slice A' n' c'/\(A'.isNone=true↔zE n R B)/\St w w' []):=by
 have hn:=hP.n1;have jE:=hP.qL;have hle:=hP.len;have bw:=fun(e:Int) (h0:0<=e) (h:e< (R.length:Int))=> (hP.at_ h0 h).1
 have cT:∀e:Int,0<=e->e<R.length->(gl B e).length<=500:=fun e h0 h=>by
  have:=oH (N:=R.length) (bw e h0 h).nodup fun x hx=>by have:=((hP.at_ h0 h).2.1 x hx).1;omega
  omega
 refine bs func63 O ntmps63 O (bF O) (aY O (nh (St.refl w) O O ?_));intro A1 w1 aD;have h1:Rd w1 A1 3 (fun j=> [Value.int .i64 n,.slice A R.length cA,.slice D B.length cD].getD j undef):=aD.rd 0 O;have hR:=aD.dh hR;have hB:=aD.bE hB;have aD:=aD.none;refine aq O (aT h1 O (kk (j:=0) h1 (by exact aS Value.pointer O) O O O O (aA O ?_)));refine Cd.loop (α:=Nat) (fun i=> [(1,.pointer A1),(14,aj n),(15,aj i)]) (fun i w'=> (i:Int)<=n/\(∀i' e f:Int,0<=i'->i'< (i:Int)->e∈ke n R (i' - 1)->f∈ke n R (i'+1)->(0<=e->0<=f->e∈gl B f)->(kN R B i' e f).length=2)/\St w1 w' []) (fun i=>n.toNat - i) 0 (Wn O) ⟨by show((0:Nat):Int)<=n;omega,fun i' e f h h'=>by have h':i'< ((0:Nat):Int):=h';omega,St.refl _⟩ ?_;rintro i e w2 ⟨hi,iF,ax⟩;have h1:=Rd.below h1 ax.below;have hR:=ax.dh hR;have hB:=ax.bE hB;have ay:=aD.ao ax.below;refine bH O (aJ _ O (fun h2=>?_) (fun h2=>?_))
 ·have CO:=TA (R:=R) (show 0<=(i:Int) by omega) h2;have Pp:=Ee (n:=n) (i:=(i:Int)) jE;have Pk:=Ee (n:=n) (i:=(i:Int) - 1) jE;have O3:=Ee (n:=n) (i:=(i:Int)+1) jE;have Pq:=fun x=>zg (xs:=R) (x:=(i:Int)) (e:=x)
  refine aC O (aO (DV A1 A D n R.length cA B.length cD R i _ h1 hR (by omega) (by omega)) O ?_);rintro _ w3 ⟨A4,c4,rfl,oy⟩;have h4:=oy.bU 0 O;refine aq O (aI O ?_);refine aO (DV A1 A D n R.length cA B.length cD R ((i:Int)+1) _ (Rd.below h1 oy.below) (oy.dh hR) (by omega) (by omega)) O ?_;rintro _ w4 ⟨A5,c5,rfl,k6⟩;have h5:=k6.bU 0 O;have h4:=h4.ao k6.below;refine aq O (gH O O O (by omega) ?_);refine aO (DV A1 A D n R.length cA B.length cD R ((i:Int) - 1) _ (Rd.below h1 (oy.below.trans (k6.below.mono oy.below.size))) (k6.dh (oy.dh hR)) (by omega) (by omega)) O ?_;rintro _ w5 ⟨A6,c6,rfl,l5⟩;have h6:=l5.bU 0 O;have h4:=h4.ao l5.below;have h5:=h5.ao l5.below;have iY:=(oy.below.trans (k6.below.mono oy.below.size));have iY:=iY.trans (l5.below.mono iY.size);have h1:=Rd.below h1 iY;have hB:=hB.ao iY;have aV:=ay.ao iY;have P3:=ax.ao iY;clear oy k6 l5 ax ay;obtain⟨ms,nF⟩:∃ms,ke n R i=ms:=⟨_,rfl⟩;obtain⟨iM,sN⟩:∃iM,ke n R ((i:Int) - 1)=iM:=⟨_,rfl⟩;obtain⟨fg,sK⟩:∃fg,ke n R ((i:Int)+1)=fg:=⟨_,rfl⟩;rw [nF]at h4 Pp CO;rw [sK]at h5 O3;rw [sN]at h6 Pk;have uk:=fun e f=>Mc (R:=R) (B:=B) (i:=(i:Int)) (e:=e) (f:=f)
  rw [<-CO]at uk;have sP:∀x∈ms,(0<=x/\x<R.length):=fun x hx=> ((Pq x).1 (CO▸hx)).1
  have Pl:∀x∈iM,x= -1\/(0<=x/\x<R.length):=fun x hx=>JM (sN▸hx)
  have O4:∀x∈fg,x= -1\/(0<=x/\x<R.length):=fun x hx=>JM (sK▸hx)
  rw [nF,sN,sK];refine aR O O (aA O ?_);refine Cd.loop (α:=Nat) (fun j=> [(1,.pointer A1),(14,aj n),(15,aj i),(3,aj i),(4,.slice A4 ms.length c4),(5,.slice A5 fg.length c5),(25,.slice A6 iM.length c6),(26,aj (iM.length:Int)),(27,aj j)]) (fun j w'=>j<=iM.length/\w'=w5/\∀p:Nat,p<j->∀f∈fg,(0<=gi iM p->0<=f->gi iM p∈gl B f)->(kN R B i (gi iM p) f).length=2) (fun j=>iM.length - j) 0 (Wn O) ⟨bk _,O,fun p h=>absurd h (gR _)⟩ ?_;rintro j e w6 ⟨hj,rfl,en⟩;refine bH O (aJ _ O (fun h7=>?_) (fun h7=>?_))
  ·have iL:j<iM.length:=by omega
   refine aC O (aw h6.2 O (a6 h6 O ?_));refine aq O (aR O O (aA O ?_));have her:=Pl _ (gi_in iL);generalize uq:gi iM j=ee at*;refine Cd.loop (α:=Nat) (fun k=> [(1,.pointer A1),(14,aj n),(15,aj i),(3,aj i),(4,.slice A4 ms.length c4),(5,.slice A5 fg.length c5),(25,.slice A6 iM.length c6),(26,aj (iM.length:Int)),(27,aj j),(7,aj ee),(31,.slice A5 fg.length c5),(32,aj (fg.length:Int)),(33,aj k)]) (fun k w'=>k<=fg.length/\w'=w6/\∀p:Nat,p<k->(0<=ee->0<=gi fg p->ee∈gl B (gi fg p))->(kN R B i ee (gi fg p)).length=2) (fun k=>fg.length - k) 0 (Wn O) ⟨bk _,O,fun p h=>absurd h (gR _)⟩ ?_;rintro k e w7 ⟨hk,rfl,cC⟩;refine bH O (aJ _ O (fun h8=>?_) (fun h8=>?_))
   ·have fE:k<fg.length:=by omega
    refine aC O (aw h5.2 O (a6 h5 O (aq O ?_)));have sI:=O4 _ (gi_in fE);generalize yk:gi fg k=ff at*;have gY:((0<=ee->0<=ff->ee∈gl B ff)->(kN R B i ee ff).length=2)->∀p:Nat,p<k+1->(0<=ee->0<=gi fg p->ee∈gl B (gi fg p))->(kN R B i ee (gi fg p)).length=2:=fun h p hp=>by
     by_cases ep:p=k
     ·subst ep;rw [yk];exact h
     exact cC p (by omega)
    refine bR 39 O (fun h9=>?_) (fun h9=>?_)
    ·refine ar O (aq O (ar O (aq O ?_)));refine bR 43 O (fun fJ=>?_) (fun fJ=>?_)
     ·refine ar O (aq O (ar O (aq O (ar O ?_))));refine aO (oB A1 A D cA cD n R rs B ee ff _ h1 hB (by omega) (bw ff fJ (by omega)) (by have:=cT ff fJ (by omega);omega)) O ?_;rintro _ w8 ⟨rfl,rfl⟩;refine ar O ?_
      first | refine dv rfl rfl ?_ | refine eJ rfl rfl ?_
      refine aA O (aJ _ O (fun mH=>?_) (fun mH=>?_))
      ·refine aC O (aI O (aM O (tQ ?_)));exact⟨k+1,by show fg.length - (k+1)<fg.length - k;omega,(Wn O),by omega,O,gY fun h=>absurd (h h9 fJ) mH⟩
      have mN:0<=ee->0<=ff->ee∈gl B ff:=fun _ _=>fp.1 mH
      refine aC O (aR O O (aA O ?_));refine Cd.loop (α:=Nat) (fun q=> [(1,.pointer A1),(14,aj n),(15,aj i),(3,aj i),(4,.slice A4 ms.length c4),(5,.slice A5 fg.length c5),(25,.slice A6 iM.length c6),(26,aj (iM.length:Int)),(27,aj j),(7,aj ee),(31,.slice A5 fg.length c5),(32,aj (fg.length:Int)),(33,aj k),(9,aj ff),(10,aj ((mC (kQ B ee ff) ms q:Nat):Int)),(49,.slice A4 ms.length c4),(50,aj (ms.length:Int)),(51,aj q)]) (fun q w'=>q<=ms.length/\w'=w8) (fun q=>ms.length - q) 0 (Wn O) ⟨bk _,O⟩ ?_;rintro q e w9 ⟨hq,rfl⟩;have fx:=Aq (P:=kQ B ee ff) (xs:=ms) (q:=q);refine bH O (aJ _ O (fun qX=>?_) (fun qX=>?_))
      ·have l3:q<ms.length:=by omega
       have hx:=sP _ (gi_in l3);have fy:=Av (P:=kQ B ee ff) l3;have eD:=Ar (P:=kQ B ee ff) l3;refine aC O (aw h4.2 O (a6 h4 O (aq O ?_)));generalize s5:gi ms q=xx at*;refine bR 57 O (fun jm=>?_) (fun jm=>?_)
       ·refine au O (au O (au O (aq O (ar O (aq O (ar O (aq O (ar O (aq O ?_)))))))));refine bR 65 O (fun iA=>?_) (fun iA=>?_)
        ·refine au O (au O (au O (ar O (aA O ?_))));refine Cd.eP O (aC O (aI O (aq O (aI O (aM O (tQ ?_))))));exact⟨q+1,by show ms.length - (q+1)<ms.length - q;omega,⟨O,O,O,O,O,O,O,O,O,O,O,O,O,O,aS (fun m:Nat=>Value.int .i64 (m:Int)) (fy ⟨.inl jm,.inl iA⟩).symm,O,O,O,av⟩,by omega,O⟩
        refine ar O (aq O (ar O (aq O (ar O ?_))));refine aO (oB A1 A D cA cD n R rs B xx ff _ h1 hB (by omega) (bw ff (by omega) (by omega)) (by have:=cT ff (by omega) (by omega);omega)) O ?_;rintro _ dW ⟨rfl,rfl⟩;refine ar O (aA O ?_);refine aJ _ O (fun iB=>?_) (fun iB=>?_)
        ·refine aC O (aI O (aq O (aI O (aM O (tQ ?_)))));exact⟨q+1,by show ms.length - (q+1)<ms.length - q;omega,⟨O,O,O,O,O,O,O,O,O,O,O,O,O,O,aS (fun m:Nat=>Value.int .i64 (m:Int)) (fy ⟨.inl jm,.inr iB⟩).symm,O,O,O,av⟩,by omega,O⟩
        refine aC O (aI O (aM O (tQ ?_)));exact⟨q+1,by show ms.length - (q+1)<ms.length - q;omega,⟨O,O,O,O,O,O,O,O,O,O,O,O,O,O,aS (fun m:Nat=>Value.int .i64 (m:Int)) (eD fun h=>h.2.elim iA iB).symm,O,O,O,av⟩,by omega,O⟩
       refine ar O (aq O (ar O (aq O (ar O ?_))));refine aO (oB A1 A D cA cD n R rs B ee xx _ h1 hB (by omega) (bw xx (by omega) (by omega)) (by have:=cT xx (by omega) (by omega);omega)) O ?_;rintro _ dW ⟨rfl,rfl⟩;refine aq O (bR 62 O (fun kU=>?_) (fun kU=>?_))
       ·refine ar O (aq O (ar O (aq O (ar O (aq O ?_)))));refine bR 65 O (fun iA=>?_) (fun iA=>?_)
        ·refine au O (au O (au O (ar O (aA O ?_))));refine Cd.eP O (aC O (aI O (aq O (aI O (aM O (tQ ?_))))));exact⟨q+1,by show ms.length - (q+1)<ms.length - q;omega,⟨O,O,O,O,O,O,O,O,O,O,O,O,O,O,aS (fun m:Nat=>Value.int .i64 (m:Int)) (fy ⟨.inr kU,.inl iA⟩).symm,O,O,O,av⟩,by omega,O⟩
        refine ar O (aq O (ar O (aq O (ar O ?_))));refine aO (oB A1 A D cA cD n R rs B xx ff _ h1 hB (by omega) (bw ff (by omega) (by omega)) (by have:=cT ff (by omega) (by omega);omega)) O ?_;rintro _ eZ ⟨rfl,rfl⟩;refine ar O (aA O ?_);refine aJ _ O (fun iB=>?_) (fun iB=>?_)
        ·refine aC O (aI O (aq O (aI O (aM O (tQ ?_)))));exact⟨q+1,by show ms.length - (q+1)<ms.length - q;omega,⟨O,O,O,O,O,O,O,O,O,O,O,O,O,O,aS (fun m:Nat=>Value.int .i64 (m:Int)) (fy ⟨.inr kU,.inr iB⟩).symm,O,O,O,av⟩,by omega,O⟩
        refine aC O (aI O (aM O (tQ ?_)));exact⟨q+1,by show ms.length - (q+1)<ms.length - q;omega,⟨O,O,O,O,O,O,O,O,O,O,O,O,O,O,aS (fun m:Nat=>Value.int .i64 (m:Int)) (eD fun h=>h.2.elim iA iB).symm,O,O,O,av⟩,by omega,O⟩
       refine au O (au O (au O (bc O (bc O (bc O (au O (aA O ?_)))))));refine Cd.dO O (aC O (aI O (aM O (tQ ?_))));exact⟨q+1,by show ms.length - (q+1)<ms.length - q;omega,⟨O,O,O,O,O,O,O,O,O,O,O,O,O,O,aS (fun m:Nat=>Value.int .i64 (m:Int)) (eD fun h=>h.1.elim jm kU).symm,O,O,O,av⟩,by omega,O⟩
      have sV:q=ms.length:=by omega
      subst sV;have G7:=uk ee ff;refine bj O (bl (lK O ?_));refine aJ _ O (fun jm=>?_) (fun jm=>?_)
      ·refine aC O (se [(i:Int),ee,ff] aV O O (by decide) (by decide) O O fun A9 dW cJ=>bW O (cy (b9 (cy (b9 (cy (b9 ?_)))))));refine dH O ⟨A9,3,3,O,⟨fun h=>?_,fun h=>?_⟩,cJ.none⟩
       ·rw [vd (cJ.bU 0 rfl).2 (by decide)]at h;cases h
       have G1:=h (i:Int) ee ff (by omega) h2 ((zl (by omega) h2).1 (by rw [sN,<-uq];exact gi_in iL)) ((zk (by omega) h2).1 (by rw [sK,<-yk];exact gi_in fE)) mN;omega
      refine aC O (aI O (aM O (tQ ?_)));exact⟨k+1,by show fg.length - (k+1)<fg.length - k;omega,(Wn O),by omega,O,gY fun _=>by omega⟩
     have mN:0<=ee->0<=ff->ee∈gl B ff:=fun _ h=>absurd h fJ
     refine au O (au O (au O (au O (aA O ?_))));refine Cd.dO O (aC O (aR O O (aA O ?_)));refine Cd.loop (α:=Nat) (fun q=> [(1,.pointer A1),(14,aj n),(15,aj i),(3,aj i),(4,.slice A4 ms.length c4),(5,.slice A5 fg.length c5),(25,.slice A6 iM.length c6),(26,aj (iM.length:Int)),(27,aj j),(7,aj ee),(31,.slice A5 fg.length c5),(32,aj (fg.length:Int)),(33,aj k),(9,aj ff),(10,aj ((mC (kQ B ee ff) ms q:Nat):Int)),(49,.slice A4 ms.length c4),(50,aj (ms.length:Int)),(51,aj q)]) (fun q w'=>q<=ms.length/\w'=w7) (fun q=>ms.length - q) 0 (Wn O) ⟨bk _,O⟩ ?_;rintro q e w9 ⟨hq,rfl⟩;have fx:=Aq (P:=kQ B ee ff) (xs:=ms) (q:=q);refine bH O (aJ _ O (fun qX=>?_) (fun qX=>?_))
     ·have l3:q<ms.length:=by omega
      have hx:=sP _ (gi_in l3);have fy:=Av (P:=kQ B ee ff) l3;have eD:=Ar (P:=kQ B ee ff) l3;refine aC O (aw h4.2 O (a6 h4 O (aq O ?_)));generalize s5:gi ms q=xx at*;refine bR 57 O (fun jm=>?_) (fun jm=>?_)
      ·refine au O (au O (au O (aq O (ar O (aq O (ar O (aq O (ar O (aq O ?_)))))))));refine bR 65 O (fun iA=>?_) (fun iA=>?_)
       ·refine au O (au O (au O (ar O (aA O ?_))));refine Cd.eP O (aC O (aI O (aq O (aI O (aM O (tQ ?_))))));exact⟨q+1,by show ms.length - (q+1)<ms.length - q;omega,⟨O,O,O,O,O,O,O,O,O,O,O,O,O,O,aS (fun m:Nat=>Value.int .i64 (m:Int)) (fy ⟨.inl jm,.inl iA⟩).symm,O,O,O,av⟩,by omega,O⟩
       refine ar O (aq O (ar O (aq O (ar O ?_))));refine aO (oB A1 A D cA cD n R rs B xx ff _ h1 hB (by omega) (bw ff (by omega) (by omega)) (by have:=cT ff (by omega) (by omega);omega)) O ?_;rintro _ dW ⟨rfl,rfl⟩;refine ar O (aA O ?_);refine aJ _ O (fun iB=>?_) (fun iB=>?_)
       ·refine aC O (aI O (aq O (aI O (aM O (tQ ?_)))));exact⟨q+1,by show ms.length - (q+1)<ms.length - q;omega,⟨O,O,O,O,O,O,O,O,O,O,O,O,O,O,aS (fun m:Nat=>Value.int .i64 (m:Int)) (fy ⟨.inl jm,.inr iB⟩).symm,O,O,O,av⟩,by omega,O⟩
       refine aC O (aI O (aM O (tQ ?_)));exact⟨q+1,by show ms.length - (q+1)<ms.length - q;omega,⟨O,O,O,O,O,O,O,O,O,O,O,O,O,O,aS (fun m:Nat=>Value.int .i64 (m:Int)) (eD fun h=>h.2.elim iA iB).symm,O,O,O,av⟩,by omega,O⟩
      refine ar O (aq O (ar O (aq O (ar O ?_))));refine aO (oB A1 A D cA cD n R rs B ee xx _ h1 hB (by omega) (bw xx (by omega) (by omega)) (by have:=cT xx (by omega) (by omega);omega)) O ?_;rintro _ dW ⟨rfl,rfl⟩;refine aq O (bR 62 O (fun kU=>?_) (fun kU=>?_))
      ·refine ar O (aq O (ar O (aq O (ar O (aq O ?_)))));refine bR 65 O (fun iA=>?_) (fun iA=>?_)
       ·refine au O (au O (au O (ar O (aA O ?_))));refine Cd.eP O (aC O (aI O (aq O (aI O (aM O (tQ ?_))))));exact⟨q+1,by show ms.length - (q+1)<ms.length - q;omega,⟨O,O,O,O,O,O,O,O,O,O,O,O,O,O,aS (fun m:Nat=>Value.int .i64 (m:Int)) (fy ⟨.inr kU,.inl iA⟩).symm,O,O,O,av⟩,by omega,O⟩
       refine ar O (aq O (ar O (aq O (ar O ?_))));refine aO (oB A1 A D cA cD n R rs B xx ff _ h1 hB (by omega) (bw ff (by omega) (by omega)) (by have:=cT ff (by omega) (by omega);omega)) O ?_;rintro _ eZ ⟨rfl,rfl⟩;refine ar O (aA O ?_);refine aJ _ O (fun iB=>?_) (fun iB=>?_)
       ·refine aC O (aI O (aq O (aI O (aM O (tQ ?_)))));exact⟨q+1,by show ms.length - (q+1)<ms.length - q;omega,⟨O,O,O,O,O,O,O,O,O,O,O,O,O,O,aS (fun m:Nat=>Value.int .i64 (m:Int)) (fy ⟨.inr kU,.inr iB⟩).symm,O,O,O,av⟩,by omega,O⟩
       refine aC O (aI O (aM O (tQ ?_)));exact⟨q+1,by show ms.length - (q+1)<ms.length - q;omega,⟨O,O,O,O,O,O,O,O,O,O,O,O,O,O,aS (fun m:Nat=>Value.int .i64 (m:Int)) (eD fun h=>h.2.elim iA iB).symm,O,O,O,av⟩,by omega,O⟩
      refine au O (au O (au O (bc O (bc O (bc O (au O (aA O ?_)))))));refine Cd.dO O (aC O (aI O (aM O (tQ ?_))));exact⟨q+1,by show ms.length - (q+1)<ms.length - q;omega,⟨O,O,O,O,O,O,O,O,O,O,O,O,O,O,aS (fun m:Nat=>Value.int .i64 (m:Int)) (eD fun h=>h.1.elim jm kU).symm,O,O,O,av⟩,by omega,O⟩
     have sV:q=ms.length:=by omega
     subst sV;have G7:=uk ee ff;refine bj O (bl (lK O ?_));refine aJ _ O (fun jm=>?_) (fun jm=>?_)
     ·refine aC O (se [(i:Int),ee,ff] aV O O (by decide) (by decide) O O fun A9 dW cJ=>bW O (cy (b9 (cy (b9 (cy (b9 ?_)))))));refine dH O ⟨A9,3,3,O,⟨fun h=>?_,fun h=>?_⟩,cJ.none⟩
      ·rw [vd (cJ.bU 0 rfl).2 (by decide)]at h;cases h
      have G1:=h (i:Int) ee ff (by omega) h2 ((zl (by omega) h2).1 (by rw [sN,<-uq];exact gi_in iL)) ((zk (by omega) h2).1 (by rw [sK,<-yk];exact gi_in fE)) mN;omega
     refine aC O (aI O (aM O (tQ ?_)));exact⟨k+1,by show fg.length - (k+1)<fg.length - k;omega,(Wn O),by omega,O,gY fun _=>by omega⟩
    have mN:0<=ee->0<=ff->ee∈gl B ff:=fun h _=>absurd h h9
    refine au O (au O (aq O (au O (au O (au O (au O (aA O ?_)))))));refine Cd.dO O (aC O (aR O O (aA O ?_)));refine Cd.loop (α:=Nat) (fun q=> [(1,.pointer A1),(14,aj n),(15,aj i),(3,aj i),(4,.slice A4 ms.length c4),(5,.slice A5 fg.length c5),(25,.slice A6 iM.length c6),(26,aj (iM.length:Int)),(27,aj j),(7,aj ee),(31,.slice A5 fg.length c5),(32,aj (fg.length:Int)),(33,aj k),(9,aj ff),(10,aj ((mC (kQ B ee ff) ms q:Nat):Int)),(49,.slice A4 ms.length c4),(50,aj (ms.length:Int)),(51,aj q)]) (fun q w'=>q<=ms.length/\w'=w7) (fun q=>ms.length - q) 0 (Wn O) ⟨bk _,O⟩ ?_;rintro q e w9 ⟨hq,rfl⟩;have fx:=Aq (P:=kQ B ee ff) (xs:=ms) (q:=q);refine bH O (aJ _ O (fun qX=>?_) (fun qX=>?_))
    ·have l3:q<ms.length:=by omega
     have hx:=sP _ (gi_in l3);have fy:=Av (P:=kQ B ee ff) l3;have eD:=Ar (P:=kQ B ee ff) l3;refine aC O (aw h4.2 O (a6 h4 O (aq O ?_)));generalize s5:gi ms q=xx at*;refine bR 57 O (fun jm=>?_) (fun jm=>?_)
     ·refine au O (au O (au O (aq O (ar O (aq O (ar O (aq O (ar O (aq O ?_)))))))));refine bR 65 O (fun iA=>?_) (fun iA=>?_)
      ·refine au O (au O (au O (ar O (aA O ?_))));refine Cd.eP O (aC O (aI O (aq O (aI O (aM O (tQ ?_))))));exact⟨q+1,by show ms.length - (q+1)<ms.length - q;omega,⟨O,O,O,O,O,O,O,O,O,O,O,O,O,O,aS (fun m:Nat=>Value.int .i64 (m:Int)) (fy ⟨.inl jm,.inl iA⟩).symm,O,O,O,av⟩,by omega,O⟩
      refine ar O (aq O (ar O (aq O (ar O ?_))));refine aO (oB A1 A D cA cD n R rs B xx ff _ h1 hB (by omega) (bw ff (by omega) (by omega)) (by have:=cT ff (by omega) (by omega);omega)) O ?_;rintro _ dW ⟨rfl,rfl⟩;refine ar O (aA O ?_);refine aJ _ O (fun iB=>?_) (fun iB=>?_)
      ·refine aC O (aI O (aq O (aI O (aM O (tQ ?_)))));exact⟨q+1,by show ms.length - (q+1)<ms.length - q;omega,⟨O,O,O,O,O,O,O,O,O,O,O,O,O,O,aS (fun m:Nat=>Value.int .i64 (m:Int)) (fy ⟨.inl jm,.inr iB⟩).symm,O,O,O,av⟩,by omega,O⟩
      refine aC O (aI O (aM O (tQ ?_)));exact⟨q+1,by show ms.length - (q+1)<ms.length - q;omega,⟨O,O,O,O,O,O,O,O,O,O,O,O,O,O,aS (fun m:Nat=>Value.int .i64 (m:Int)) (eD fun h=>h.2.elim iA iB).symm,O,O,O,av⟩,by omega,O⟩
     refine ar O (aq O (ar O (aq O (ar O ?_))));refine aO (oB A1 A D cA cD n R rs B ee xx _ h1 hB (by omega) (bw xx (by omega) (by omega)) (by have:=cT xx (by omega) (by omega);omega)) O ?_;rintro _ dW ⟨rfl,rfl⟩;refine aq O (bR 62 O (fun kU=>?_) (fun kU=>?_))
     ·refine ar O (aq O (ar O (aq O (ar O (aq O ?_)))));refine bR 65 O (fun iA=>?_) (fun iA=>?_)
      ·refine au O (au O (au O (ar O (aA O ?_))));refine Cd.eP O (aC O (aI O (aq O (aI O (aM O (tQ ?_))))));exact⟨q+1,by show ms.length - (q+1)<ms.length - q;omega,⟨O,O,O,O,O,O,O,O,O,O,O,O,O,O,aS (fun m:Nat=>Value.int .i64 (m:Int)) (fy ⟨.inr kU,.inl iA⟩).symm,O,O,O,av⟩,by omega,O⟩
      refine ar O (aq O (ar O (aq O (ar O ?_))));refine aO (oB A1 A D cA cD n R rs B xx ff _ h1 hB (by omega) (bw ff (by omega) (by omega)) (by have:=cT ff (by omega) (by omega);omega)) O ?_;rintro _ eZ ⟨rfl,rfl⟩;refine ar O (aA O ?_);refine aJ _ O (fun iB=>?_) (fun iB=>?_)
      ·refine aC O (aI O (aq O (aI O (aM O (tQ ?_)))));exact⟨q+1,by show ms.length - (q+1)<ms.length - q;omega,⟨O,O,O,O,O,O,O,O,O,O,O,O,O,O,aS (fun m:Nat=>Value.int .i64 (m:Int)) (fy ⟨.inr kU,.inr iB⟩).symm,O,O,O,av⟩,by omega,O⟩
      refine aC O (aI O (aM O (tQ ?_)));exact⟨q+1,by show ms.length - (q+1)<ms.length - q;omega,⟨O,O,O,O,O,O,O,O,O,O,O,O,O,O,aS (fun m:Nat=>Value.int .i64 (m:Int)) (eD fun h=>h.2.elim iA iB).symm,O,O,O,av⟩,by omega,O⟩
     refine au O (au O (au O (bc O (bc O (bc O (au O (aA O ?_)))))));refine Cd.dO O (aC O (aI O (aM O (tQ ?_))));exact⟨q+1,by show ms.length - (q+1)<ms.length - q;omega,⟨O,O,O,O,O,O,O,O,O,O,O,O,O,O,aS (fun m:Nat=>Value.int .i64 (m:Int)) (eD fun h=>h.1.elim jm kU).symm,O,O,O,av⟩,by omega,O⟩
    have sV:q=ms.length:=by omega
    subst sV;have G7:=uk ee ff;refine bj O (bl (lK O ?_));refine aJ _ O (fun jm=>?_) (fun jm=>?_)
    ·refine aC O (se [(i:Int),ee,ff] aV O O (by decide) (by decide) O O fun A9 dW cJ=>bW O (cy (b9 (cy (b9 (cy (b9 ?_)))))));refine dH O ⟨A9,3,3,O,⟨fun h=>?_,fun h=>?_⟩,cJ.none⟩
     ·rw [vd (cJ.bU 0 rfl).2 (by decide)]at h;cases h
     have G1:=h (i:Int) ee ff (by omega) h2 ((zl (by omega) h2).1 (by rw [sN,<-uq];exact gi_in iL)) ((zk (by omega) h2).1 (by rw [sK,<-yk];exact gi_in fE)) mN;omega
    refine aC O (aI O (aM O (tQ ?_)));exact⟨k+1,by show fg.length - (k+1)<fg.length - k;omega,(Wn O),by omega,O,gY fun _=>by omega⟩
   refine bj O (bl (cn O (aI O (aM O (tQ ?_)))));exact⟨j+1,by show iM.length - (j+1)<iM.length - j;omega,(Wn O),by omega,O,fun p hp f hf=>by
    by_cases ep:p=j
    ·subst ep;rw [uq];obtain⟨q,hq,e9⟩:=fP.1 hf;rw [<-bQ hq]at e9;have:=cC q (by omega)
     rwa [e9]at this
    exact en p (by omega) f hf⟩
  refine bj O (bl (cn O (aI O (aM O (tQ ?_)))));exact⟨i+1,by show n.toNat - (i+1)<n.toNat - i;omega,(Wn O),by show((i+1:Nat):Int)<=n;omega,fun i' e f h0 h' he hf mN=>by
   by_cases ei:i'=(i:Int)
   ·subst ei;rw [sN]at he;rw [sK]at hf;obtain⟨q,hq,e9⟩:=fP.1 he;rw [<-bQ hq]at e9;have:=en q (by omega) f hf;rw [e9]at this;exact this mN
   exact iF i' e f h0 (by have h':i'< ((i+1:Nat):Int):=h';omega) he hf mN,P3⟩
 refine bj O (bl (dd O ?_));exact dH O ⟨none,0,0,O,⟨fun _ i' e f h0 h3 h4 h5 h6=>iF i' e f h0 (by omega) ((zl h0 h3).2 h4) ((zk h0 h3).2 h5) h6,fun _=>O⟩,ay⟩
theorem FL{n:Nat}{R:ah}{B:ag}(hn:1<=n)(hb:R.length<=500):∀x∈bZ n R B,x.length=n/\∀e∈x,0<=e/\e< (R.length:Int):=fun x hx=>by
 obtain⟨h1,h2,_⟩:=(MX hn).1 hx;refine⟨h1,fun e he=>?_⟩;obtain⟨k,hk,rfl⟩:=fP.1 he;rw [<-bQ hk];exact(h2 k (by omega)).1
theorem zZ(b:Bool):b=decide (b=true):=by cases b<;>rfl
theorem QH(n:Nat)(A D:ai)(cA cD:Nat)(R:ah)(rs:List aH)(B:ag)(Af:ai)(cf:Nat)(tn:List aH)(w:aa)(hT:mx w)(hR:bS w A R.length R)(hB:bu w D B.length rs B)(hP:gf n R B)(hF:bu w Af (bZ n R B).length tn (bZ n R B))(yj:(bZ n R B).length<=400):
 aG prog 57 [.agg #[aj n,.slice A R.length cA,.slice D B.length cD],.slice Af (bZ n R B).length cf] w (fun v w'=>∃b:Bool,v= .bool b/\(b=true↔zK n R B)/\St w w' []):=by
 have hn:=hP.n1;have jE:=hP.qL;have rm:=FL (n:=n) (R:=R) (B:=B) (by omega) jE;have OU:∀x∈bZ n R B,x.length=n/\∀e∈x,0<=e/\e<=1000000:=fun x hx=> ⟨(rm x hx).1,fun e he=>by have:=(rm x hx).2 e he;omega⟩
 have lY:(bZ n R B).Nodup:=(FK n R B).nodup;refine bs func57 O ntmps57 O (bF O) (aY O (nh (St.refl w) O O ?_));intro A1 w1 aD;have h1:Rd w1 A1 3 (fun j=> [Value.int .i64 n,.slice A R.length cA,.slice D B.length cD].getD j undef):=aD.rd 0 O;have hR:=aD.dh hR;have hB:=aD.bE hB;have hF:=aD.bE hF;have hT:=hT.ao aD.below;have aD:=aD.none;refine aq O (aR O O (aq O ?_));refine bR 8 O (fun h2=>?_) (fun h2=>?_)
 ·have cG:bZ n R B≠[]:=fun h=>by rw [h]at h2;exact absurd h2 (by decide)
  refine ar O (ak.dz 2 h1 O O O ?_);refine ar O (aq O (ar O ?_));refine aO (QI n A D cA R.length B.length cD Af (bZ n R B).length cf tn (bZ n R B) _ hF jE (fun l hl=> ⟨by have:=(rm l hl).1;omega,(rm l hl).2⟩) (by omega)) O ?_;rintro _ w2 ⟨b,rfl,hb,ax⟩;have h1:=Rd.below h1 ax.below;have hR:=ax.dh hR;have hB:=ax.bE hB;have hF:=ax.bE hF;have hT:=hT.ao ax.below;have aD:=aD.ao ax.below;have rC:b=true↔zL n R B:=hb;clear ax hb;rw [zZ b];refine aq O (bR 13 O (fun h3=>?_) (fun h3=>?_))
  ·refine ar O (ak.dz 2 h1 O O O (ar O (aO (Mz n A D cA cD R rs B _ hR hB hP) O ?_)));rintro _ w3 ⟨A9,n9,c9,rfl,hd,ax⟩;have hF:=ax.bE hF;have hT:=hT.ao ax.below;have aD:=aD.ao ax.below;clear ax;refine ar O (va O O O ?_);rw [zZ A9.isNone];refine aq O (bR 18 O (fun h4=>?_) (fun h4=>?_))
   ·refine ar O (aq O (ar O ?_));refine aO (Mh Af (bZ n R B).length cf tn (bZ n R B) n _ hT hF (by omega) (by omega) OU lY) O ?_;rintro _ w4 ⟨A8,n8,c8,rfl,hc,ax⟩;have aD:=aD.ao ax.below;refine ar O (va O O O (bW O (bG O ?_)));exact⟨A8.isNone,O,⟨fun h=> ⟨cG,rC.1 h3,hd.1 h4,hc.1 h⟩,fun h=>hc.2 h.2.2.2⟩,aD⟩
   refine au O (au O (au O (bW O ?_)));refine bG O ?_;exact⟨false,rfl,⟨fun h=> (by cases h),fun h=>absurd (hd.2 h.2.2.1) h4⟩,aD⟩
  refine au O (au O (au O (aq O (au O (au O (au O (bW O ?_)))))));refine bG O ?_;exact⟨false,rfl,⟨fun h=> (by cases h),fun h=>absurd (rC.2 h.2.1) h3⟩,aD⟩
 refine au O (au O (au O (aq O (au O (au O (au O (aq O (au O (au O (au O (bW O ?_)))))))))));refine bG O ?_;exact⟨false,rfl,⟨fun h=> (by cases h),fun h=>absurd (List.length_pos_iff.2 h.1) (by omega)⟩,aD⟩
noncomputable def FH(M:ag):ag:=bZ M.length (b5 M M.length) (bY M)
noncomputable def nP(M:ag):Int:=if 500<aX M M.length\/400< (FH M).length then 3 else 0
def xj(M:ag):Prop:=aX M M.length<=500/\(FH M).length=(gl M 0).length/\zK M.length (b5 M M.length) (bY M)
theorem Jx{M:ag}(hM:bN M)(h:aX M M.length<=500):gf (M.length:Int) (b5 M M.length) (bY M):=Na hM h
theorem QG(A:ai)(n c:Nat)(rs:List aH)(M:ag)(w:aa)(hT:mx w)(hR:bu w A n rs M)(hM:bN M):
 aG prog 69 [.agg #[.slice A n c]] w (fun v w'=>∃b:Bool,v= .tuple #[.bool b,aj (nP M)]/\(b=true↔xj M)/\St w w' []):=by
 have hl:=hR.len;have h5:=hM.1;have h4:=hM.2.1;have rb:=tV M M.length;have ln:=qT M;have l4:=hR.jv (k:=0) (by omega) (by omega);refine bs func69 O ntmps69 O (mV O) (aY O (gS (St.refl w) O O ?_));intro A1 w1 aD;refine aq O (ak.dz 0 (aD.rd 0 O) O O O (aO (MQ A n c rs M _ (aD.bE hR) hM) O ?_));rintro _ w2 (⟨pU,rfl,ax⟩ | ⟨pU,AR,cR,AD,cD,gA,rfl,rE,ax⟩)
 ·have ay:=aD.ao ax.below;refine aq O (oS ay O ?_);intro A4 w3 aL;refine gU 3 0 aL O O O O O O O fun w4 aN=>aq O ?_
  first | refine dv rfl rfl ?_ | refine eJ rfl rfl ?_
  refine aA O (Cd.eP O (bV O (rW O O ?_)));unfold nP;rw [aF (.inl pU)];exact⟨false,rfl,⟨fun h=> (by cases h),fun h=>by have:=h.1;omega⟩,aN.none⟩
 have hP:=Jx hM pU;have ay:=aD.call ax;clear ax aD;refine aq O (oS ay O ?_);intro A4 w3 aL;refine gU 3 0 aL O O O O O O O ?_;intro w4 aN;have aN:St w w4 (bD A4 (M.length:Int) AR (aX M M.length) cR AD (aX M M.length) cD::(aE 2 AR (aX M M.length) cR (b5 M M.length)::((aW 24 2 AD (aX M M.length) cD gA (bY M)++ [])++ [Bx 37 1 A1 [.slice A n c]]))):=aN;have ik:bS w4 AR (b5 M M.length).length (b5 M M.length):=by rw [rb];exact aN.bU 1 O
 have gu:bu w4 AD (bY M).length gA (bY M):=by
  rw [ln];have h9:=aN.sub (show(aW 24 2 AD (aX M M.length) cD gA (bY M)).Sublist _ from List.Sublist.cons _ (List.Sublist.cons _ (by rw [eG];exact nc _ _)));exact h9.nQ ln
 have kr:=aN.rd 0 O;have dT:Rd w4 A1 1 (fun _=> .slice A n c):=by
  have h9:=aN.sub (show List.Sublist [Bx 37 1 A1 [.slice A n c]] _ from List.Sublist.cons _ (List.Sublist.cons _ (iw _ _)));exact jf (h9.rd 0 O)
 refine aq O ?_
 first | refine dv rfl rfl ?_ | refine eJ rfl rfl ?_
 refine aA O (Cd.dO O (aC O (ak.dz 2 kr O O O ?_)));refine Wh (MW M.length AR AD cR cD (b5 M M.length) gA (bY M) _ ik gu hP) O (by rw [rb,ln];rfl) O ?_;rintro _ w5 ⟨Af,cf,wW,rfl,wj,ax⟩;have aV:=aN.ao ax.below;have oo:=ik.ao ax.below;have BA:=gu.ao ax.below;have iY:=Rd.below kr ax.below;have dT:=Rd.below dT ax.below
 by_cases eC:(bZ M.length (b5 M M.length) (bY M)).length<=400
 ·
  have hL:sk M.length (b5 M M.length) (bY M)=bZ M.length (b5 M M.length) (bY M):=by unfold sk;rw [if_pos eC]
  have hK:sj M.length (b5 M M.length) (bY M)=0:=by unfold sj;rw [if_pos eC]
  have rB:nP M=0:=by unfold nP;rw [if_neg (by show ¬(500<aX M M.length\/400< (bZ M.length (b5 M M.length) (bY M)).length);omega)]
  rw [hL]at wj ax|-;rw [hK,rB];have BF:bu w5 Af (bZ M.length (b5 M M.length) (bY M)).length wW (bZ M.length (b5 M M.length) (bY M)):=by
   rw [eG]at ax;exact ax.nQ O
  refine aq O (bR 22 O (fun _=>?_) (fun h=>absurd O h));refine ar O (aq O (ar O ?_));refine aO (tu _ _ _ _) O ?_;rintro _ w5 ⟨rfl,rfl⟩;refine ar O (aO (qS A1 A n c rs M _ _ dT O (aV.bE hR) (by omega)) O ?_);rintro _ w5 ⟨rfl,rfl⟩;refine ar O (aq O ?_);refine bR 28 O (fun h6=>?_) (fun h6=>?_)
  ·refine ar O (ak.dz 2 iY O O O ?_);refine ar O (aq O (ar O ?_));refine Wh (QH M.length AR AD cR cD (b5 M M.length) gA (bY M) Af cf wW _ (hT.ao aV.below) oo BA hP BF eC) O (by rw [rb,ln];rfl) O ?_;rintro _ w6 ⟨b,rfl,hb,mO⟩;refine bW O (rW O O ?_);refine⟨b,O,hb.trans ⟨fun h=> ⟨pU,?_,h⟩,fun h=>h.2.2⟩,(aV.ao mO.below).none⟩;show(bZ M.length (b5 M M.length) (bY M)).length=_;omega
  refine au O (au O (au O (bW O ?_)));refine rW O O ?_;refine⟨false,rfl,⟨fun h=> (by cases h),fun h=>?_⟩,aV.none⟩;have h9:(bZ M.length (b5 M M.length) (bY M)).length=(gl M 0).length:=h.2.1;omega
 have hL:sk M.length (b5 M M.length) (bY M)=[]:=by unfold sk;rw [if_neg eC]
 have hK:sj M.length (b5 M M.length) (bY M)=3:=by unfold sj;rw [if_neg eC]
 have rB:nP M=3:=by unfold nP;rw [if_pos (.inr (by show 400< (bZ M.length (b5 M M.length) (bY M)).length;omega))]
 rw [hL]at wj ax|-;rw [hK,rB];refine aq O (bR 22 O (fun h=>absurd h (by decide)) (fun _=>?_));refine au O (au O (au O (au O (aq O (au O (au O (au O (bW O ?_))))))));refine rW O O ?_;refine⟨false,rfl,⟨fun h=> (by cases h),fun h=>?_⟩,aV.none⟩;have h9:(bZ M.length (b5 M M.length) (bY M)).length=(gl M 0).length:=h.2.1;omega
section
variable {P:Program} {N:Nat} {e:Env} {w:aa}
end
def tJ(n:Nat)(R:ah)(B:ag)(f:Nat)(x:Nat):Prop:=(f<=x/\gi R x=(n:Int) - 1)\/∃g:Nat,(g:Int)∈gO R B x/\cI n R B g/\f<=g
def pG(n:Nat)(R:ah)(B:ag)(f j:Nat)(x:Nat):Prop:=tJ n R B (f+1) x\/(x=f/\gi R x=(n:Int) - 1)\/(cI n R B f/\(x:Int)∈(gl B f).take j/\gi R f=gi R x+1)
section
variable{x j:Nat}
variable {n:Nat} {R:ah} {B:ag}
theorem EV(hP:gf n R B){f:Nat}(hf:f<=x)(hx:x<R.length):tJ n R B f x↔cI n R B x:=by
 have hr:=hP.ri (e:=(x:Int)) (by omega) (by omega);constructor
 ·rintro(h | ⟨g,h1,h2,_⟩)
  ·exact EW h.2
  have h3:=kI.1 h1;have:=hP.ri h3.1.1 h3.1.2;exact(xu (by omega) (by omega)).2 ⟨_,h1,h2⟩
 intro h
 by_cases c:gi R x=(n:Int) - 1
 ·exact .inl ⟨hf,c⟩
 obtain⟨g,h1,h2⟩:=(xu (by omega) (by omega)).1 h;have h3:=r7 hP h1;obtain⟨g',rfl⟩:∃g':Nat,g=g':=⟨g.toNat,by omega⟩;exact .inr ⟨g',h1,h2,by omega⟩
theorem Lh(hP:gf n R B)(hx:x<R.length):¬tJ n R B R.length x:=by
 rintro(h | ⟨g,h1,_,h2⟩)
 ·omega
 have:=r7 hP h1;omega
theorem Ll(hP:gf n R B){f:Nat}(hf:f<R.length):pG n R B f j f↔cI n R B f:=by
 rw [<-EV hP (cO f) hf];constructor
 ·rintro(h | h | h)
  ·rcases h with h | ⟨g,h1,h2,h3⟩
   ·omega
   exact .inr ⟨g,h1,h2,by omega⟩
  ·exact .inl ⟨cO _,h.2⟩
  have:=((hP.at_ (e:=(f:Int)) (by omega) (by omega)).2.1 _ (List.mem_of_mem_take h.2.1)).1;omega
 rintro(h | ⟨g,h1,h2,h3⟩)
 ·exact .inr (.inl ⟨O,h.2⟩)
 have:=r7 hP h1;exact .inl (.inr ⟨g,h1,h2,by omega⟩)
theorem Lj(hP:gf n R B){f:Nat}(hf:f<R.length)(hj:¬cI n R B f\/(gl B f).length<=j)(hx:x<R.length):pG n R B f j x↔tJ n R B f x:=by
 constructor
 ·rintro(h | h | h)
  ·rcases h with h | ⟨g,h1,h2,h3⟩
   ·exact .inl ⟨by omega,h.2⟩
   exact .inr ⟨g,h1,h2,by omega⟩
  ·exact .inl ⟨by omega,h.2⟩
  exact .inr ⟨f,kI.2 ⟨by omega,h.2.2,List.mem_of_mem_take h.2.1⟩,h.1,cO _⟩
 rintro(h | ⟨g,h1,h2,h3⟩)
 ·by_cases e:x=f
  ·exact .inr (.inl ⟨e,h.2⟩)
  exact .inl (.inl ⟨by omega,h.2⟩)
 by_cases e:g=f
 ·subst e;have h4:=kI.1 h1;rcases hj with hj | hj
  ·exact absurd h2 hj
  exact .inr (.inr ⟨h2,by rw [eI hj];exact h4.2.2,h4.2.1⟩)
 exact .inl (.inr ⟨g,h1,h2,by omega⟩)
theorem Lk{f:Nat}(hj:j< (gl B f).length):pG n R B f (j+1) x↔pG n R B f j x\/(cI n R B f/\(x:Int)=gi (gl B f) j/\gi R f=gi R x+1):=by
 have e9:(gl B f).take (j+1)=(gl B f).take j++ [gi (gl B f) j]:=by
  rw [gk hj,bQ hj]
 unfold pG;rw [e9,gQ,fQ];constructor
 ·rintro(h | h | ⟨h1,h2 | h2,h3⟩)
  ·exact .inl (.inl h)
  ·exact .inl (.inr (.inl h))
  ·exact .inl (.inr (.inr ⟨h1,h2,h3⟩))
  exact .inr ⟨h1,h2,h3⟩
 rintro((h | h | ⟨h1,h2,h3⟩) | ⟨h1,h2,h3⟩)
 ·exact .inl h
 ·exact .inr (.inl h)
 ·exact .inr (.inr ⟨h1,.inl h2,h3⟩)
 exact .inr (.inr ⟨h1,.inr h2,h3⟩)
end
def mr(N:Nat)(L:List Bool)(P:Nat->Prop):Prop:=L.length=N/\∀x:Nat,x<N->(gb L x=true↔P x)
theorem mr.set{N:Nat}{L:List Bool}{P P':Nat->Prop}(h:mr N L P){y:Nat}(hy:y<N)(hP:∀x,x<N->(P' x↔P x\/x=y)):mr N (L.set y true) P':=by
 refine⟨by rw [iS];exact h.1,fun x hx=>?_⟩;have:=vA (S:=L) (x:=(y:Int)) (y:=(x:Int)) (b:=true) (by omega) (by rw [h.1];omega) (by omega);rw [eH]at this;rw [this,hP x hx,<-h.2 x hx]
 by_cases e:x=y
 ·subst e;simp
 rw [aB (by omega)];exact⟨fun h=> .inl h,fun h=>h.resolve_right e⟩
theorem mr.congr{N:Nat}{L:List Bool}{P P':Nat->Prop}(h:mr N L P)(hP:∀x,x<N->(P' x↔P x)):mr N L P':=⟨h.1,fun x hx=> (h.2 x hx).trans (hP x hx).symm⟩
theorem Rr(n:Nat)(A D:ai)(cA cD:Nat)(R:ah)(rs:List aH)(B:ag)(w:aa)(hR:bS w A R.length R)(hB:bu w D B.length rs B)(hP:gf n R B):
 aG prog 181 [.agg #[aj n,.slice A R.length cA,.slice D B.length cD]] w (fun v w'=>∃A' L,v= .slice A' R.length R.length/\mr R.length L (fun x=>cI n R B x)/\St w w' [dC 4 A' R.length R.length L]):=by
 have hn:=hP.n1;have jE:=hP.qL;have hle:=hP.len;have bw:=fun(f:Nat) (h:f<R.length)=>hP.at_ (e:=(f:Int)) (by omega) (by omega)
 have cT:∀f:Nat,f<R.length->(gl B f).length<=500:=fun f h=>by
  have:=oH (N:=R.length) (bw f h).1.nodup fun x hx=>by have:=((bw f h).2.1 x hx).1;omega
  omega
 have wq:=fun f j (h:f<R.length)=>Ll (n:=n) (j:=j) hP h
 have vQ:=fun f j x (h:f<R.length) hj (hx:x<R.length)=>Lj (n:=n) (j:=j) hP h hj hx
 have H0:=fun x (h:x<R.length)=>Lh (n:=n) hP h
 have nD:=fun x (h:x<R.length)=>EV (n:=n) (f:=0) hP (bk _) h
 have dt:=fun(x:Nat) (h:x<R.length)=>hP.ri (e:=(x:Int)) (by omega) (by omega)
 obtain⟨N,hN⟩:∃N,R.length=N:=⟨_,rfl⟩;rw [hN]at hR jE hle bw cT wq vQ H0 nD dt|-;rw [hle]at hB|-;refine bs func181 O ntmps181 O (bF O) (aY O (nh (St.refl w) O O ?_));intro A1 w1 aD;have h1:Rd w1 A1 3 (fun j=> [Value.int .i64 (n:Int),.slice A N cA,.slice D N cD].getD j undef):=aD.rd 0 O;have hR:=aD.dh hR;have hB:=aD.bE hB;refine aq O (aT h1 O (Wm (j:=1) h1 (by exact aS Value.pointer O) O O O O (aR O O (pD (v:=false) N (St.refl w1) O O (by omega) ?_))));intro A3 w2 B1;have Bm:=Rd.below h1 B1.below;refine aq O (aT Bm O (Wm (j:=1) Bm (by exact aS Value.pointer O) O O O O ?_));have Gw:mr N (List.replicate N false) (tJ n R B N):=⟨by simp,fun x hx=> ⟨fun h=> (by rw [FW]at h;cases h),fun h=>absurd h (H0 x hx)⟩⟩;clear Bm;refine aR O O (gH O O O (by omega) (aA O ?_));refine Cd.loop (α:=Nat×List Bool) (fun z=> [(1,.pointer A1),(3,.slice A3 N N),(4,aj ((z.1:Int) - 1))]) (fun z w'=>z.1<=N/\mr N z.2 (tJ n R B z.1)/\St w1 w' [dC 4 A3 N N z.2]) (fun z=>z.1) (N,List.replicate N false) (Wn O) ⟨cO _,Gw,B1⟩ ?_;clear B1 Gw;rintro⟨E',L⟩ e w3 ⟨hE,hL,hT⟩;dsimp only at hE hL hT|-;refine bH O (aJ _ O (fun h2=>?_) (fun h2=>?_))
 ·obtain⟨f,rfl⟩:∃f,E'=f+1:=⟨E' - 1,by omega⟩;have ja:f<N:=by omega
  rw [show((f+1:Nat):Int) - 1=(f:Int) by omega];have ll:=Rd.below h1 hT.below;have pS:=hR.ao hT.below;have wj:=dt f ja;refine u6 3 O (oN (α:=List Bool) (fun _=> [(1,.pointer A1),(3,.slice A3 N N),(4,aj f)]) (fun L' w'=>mr N L' (pG n R B f 0)/\St w1 w' [dC 4 A3 N N L']) ?_ ?_)
  ·refine bH O (cN [xP (az (A1) 1),xS (A) (N) (cA),xI ((f:Int)),xP (az (A) ((f:Int)).toNat),xI (gi (R) ((f:Int))),xP (az (A1) 0),xI ((n:Int)),xI (((n:Int)) - ((1:Int))),xB (decide ((gi (R) ((f:Int)))=(((n:Int)) - ((1:Int)))))] O (da O) ?_ ?_)
   ·exact⟨fun _ _ hb _ _=>aT (ll.below hb) O Az,fun _ _ hb _ _=>a7 (ll.below hb) O Az,Dr O,fun _ _ hb _ _=>aw (pS.ao hb).2 O Az,fun _ _ hb _ _=>a6 (pS.ao hb) O Az,fun _ _ hb _ _=>aT (ll.below hb) O Az,fun _ _ hb _ _=>kk (ll.below hb) O O O O O Az,fun _ _ _ _ _=>gH O O O (by omega) Az,Dr O,av⟩
   intro u w4 kr _;have B2:=hT.ao kr;clear hT ll pS;refine dM O (aJ _ O (fun h3=>?_) (fun h3=>?_))
   ·refine aC O (aw (B2.fm 0 O).2 O (mw 0 B2 O O O (by omega) ?_));intro w5 GM;rw [eH]at GM;refine aM O (tQ ?_);refine⟨L.set f true,(Wn O),hL.set ja fun x hx=>?_,GM⟩;unfold pG;rw [List.take_zero];constructor
    ·rintro(h | h | h)
     ·exact .inl h
     ·exact .inr h.1
     cases h.2.1
    rintro(h | h)
    ·exact .inl h
    subst h;exact .inr (.inl ⟨rfl,h3⟩)
   refine sc O (tQ ?_);refine⟨L,(Wn O),hL.congr fun x hx=>?_,B2⟩;unfold pG;rw [List.take_zero];constructor
   ·rintro(h | h | h)
    ·exact h
    ·exact absurd (h.1▸h.2) h3
    cases h.2.1
   exact fun h=> .inl h
  clear hT hL ll pS;rintro L e w5 ⟨hL,hT⟩;have PQ:=bw f ja;have hrl5:=cT f ja;refine cj O (Cd.loop (α:=Nat×List Bool) (fun z=> [(1,.pointer A1),(3,.slice A3 N N),(4,aj f),(5,aj (z.1:Int))]) (fun z w'=>z.1<=(gl B f).length/\mr N z.2 (pG n R B f z.1)/\St w1 w' [dC 4 A3 N N z.2]) (fun z=> (gl B f).length - z.1) (0,L) (Wn O) ⟨bk _,hL,hT⟩ ?_);clear hT hL;rintro⟨j,L⟩ e w6 ⟨hj,hL,hT⟩;dsimp only at hj hL hT|-;have ll:=Rd.below h1 hT.below;have q7:=hB.ao hT.below;have eQ:=q7.at_ (i:=(f:Int)) (by omega) (by omega);have eM:=eQ.1;have ny:=hL.1;have ur:=(hL.2 f ja).trans (wq f j ja);refine aY O (aT ll O (Wm (j:=2) ll (by exact aS Value.pointer O) O O O O (aq O (aw q7.top.2 O (bn q7.top O ?_)))));refine aR O O (aq O ?_);refine bR 39 O (fun h3=>?_) (fun h3=>?_)
  ·have iL:j< (gl B f).length:=by omega
   refine ar O (aq O (ar O (aq O (ar O ?_))));refine aw (hT.fm 0 O).2 O (ar O (lh (hT.fm 0 O) O (by omega) O O ?_));generalize O1:gb L f=bb at*;rw [show bb=decide (bb=true) by cases bb<;>rfl];refine aA O (aJ _ O (fun h4=>?_) (fun h4=>?_))
   ·have kX:=ur.1 h4;have yi:=PQ.2.1 _ (gi_in iL);have eE:=fun x=>Lk (n:=n) (R:=R) (B:=B) (f:=f) (x:=x) iL
    have pS:=hR.ao hT.below;obtain⟨d,hd⟩:∃d:Nat,gi (gl B f) j=d:=⟨(gi (gl B f) j).toNat,by omega⟩;rw [hd]at yi eE;have jq:=dt d (by omega);refine aC O (aT ll O (Wm (j:=2) ll (by exact aS Value.pointer O) O O O O (aq O (aw q7.top.2 O (bn q7.top O (aq O (aw eQ.2 O (a6 eQ O ?_))))))));rw [hd];refine aA O (cN [xP (az (A1) 1),xS (A) (N) (cA),xI ((d:Int)),xP (az (A) ((d:Int)).toNat),xI (gi (R) ((d:Int))),xP (az (A1) 1),xS (A) (N) (cA),xI ((f:Int)),xP (az (A) ((f:Int)).toNat),xI (gi (R) ((f:Int))),xI ((gi (R) ((f:Int))) - ((1:Int))),xB (decide ((gi (R) ((d:Int)))=((gi (R) ((f:Int))) - ((1:Int)))))] O (da O) ?_ ?_)
    ·exact⟨fun _ _ hb _ _=>aT (ll.below hb) O Az,fun _ _ hb _ _=>a7 (ll.below hb) O Az,Dr O,fun _ _ hb _ _=>aw (pS.ao hb).2 O Az,fun _ _ hb _ _=>a6 (pS.ao hb) O Az,fun _ _ hb _ _=>aT (ll.below hb) O Az,fun _ _ hb _ _=>a7 (ll.below hb) O Az,Dr O,fun _ _ hb _ _=>aw (pS.ao hb).2 O Az,fun _ _ hb _ _=>a6 (pS.ao hb) O Az,fun _ _ _ _ _=>gH O O O (by omega) Az,Dr O,av⟩
    intro u w7 lr _;have pT:=hT.ao lr;refine dM O (aJ _ O (fun h5=>?_) (fun h5=>?_))
    ·refine aC O (aw (pT.fm 0 O).2 O (mw 0 pT O O O (by omega) ?_));intro w8 x4;rw [eH]at x4;refine aq O (aI O (aM O (tQ ?_)));refine⟨(j+1,L.set d true),by show(gl B f).length - (j+1)< (gl B f).length - j;omega,(Wn O),by show j+1<=_;omega,hL.set (by omega) fun x hx=>?_,x4⟩;rw [eE x];constructor
     ·rintro(h | h)
      ·exact .inl h
      exact .inr (by omega)
     rintro(h | h)
     ·exact .inl h
     subst h;exact .inr ⟨kX,rfl,by omega⟩
    refine aC O (aI O (aM O (tQ ?_)));refine⟨(j+1,L),by show(gl B f).length - (j+1)< (gl B f).length - j;omega,(Wn O),by show j+1<=_;omega,hL.congr fun x hx=>?_,pT⟩;rw [eE x];constructor
    ·rintro(h | h)
     ·exact h
     have h9:=h.2.1;have fJ:=h.2.2;rw [h9]at fJ;omega
    exact fun h=> .inl h
   have kX:¬cI n R B f:=fun h=>h4 (ur.2 h)
   refine bj O (bl (cn O (gH O O O (by omega) (aM O (tQ ?_)))));exact⟨(f,L),by show f<f+1;omega,(Wn O),by show f<=N;omega,hL.congr fun x hx=> (vQ f j x ja (.inl kX) hx).symm,hT⟩
  refine au O (au O (au O (au O (aA O ?_))));refine Cd.dO O (bj O (bl (cn O (gH O O O (by omega) (aM O (tQ ?_))))));exact⟨(f,L),by show f<f+1;omega,(Wn O),by show f<=N;omega,hL.congr fun x hx=> (vQ f j x ja (.inr (by omega)) hx).symm,hT⟩
 obtain rfl:E'=0:=by omega
 refine bj O (bl (dd O ?_));refine dH O ?_;have h9:=aD.none.call hT;exact⟨A3,L,O,hL.congr fun x hx=> (nD x hx).symm,h9⟩
theorem LS(G X:ag):cap (cap G++X)=cap (G++X):=by
 unfold cap
 by_cases h:G.length<=401
 ·rw [eI h]
 rw [tA (by rw [kM];omega),tA (by omega),List.take_take,Nat.min_self]
section
variable (n:Nat) (R:ah) (B:ag)
def iO(st:ah)(m:Nat):ah:=(cL m).filter fun e=>decide (gi R e=(st.length:Int)/\cI n R B e/\(st.length=0\/gi st ((st.length:Int) - 1)∈gl B e))
def dw:Nat->ah->ag
 | 0,st=> [st]
 | k+1,st=> (iO n R B st R.length).flatMap fun e=>dw k (st++ [e])
end
section
variable {n:Nat} {R:ah} {B:ag}
theorem SN(st:ah)(m:Nat):iO n R B st (m+1)=if gi R m=(st.length:Int)/\cI n R B m/\(st.length=0\/gi st ((st.length:Int) - 1)∈gl B m)then iO n R B st m++ [(m:Int)]else iO n R B st m:=by
 have e9:cL (m+1)=cL m++ [(m:Int)]:=by
  unfold cL;rw [lg,iT];rfl
 unfold iO;rw [e9,mn]
 by_cases c:gi R m=(st.length:Int)/\cI n R B m/\(st.length=0\/gi st ((st.length:Int) - 1)∈gl B m)
 ·rw [aF c,List.filter_cons_of_pos (by simpa using c)];rfl
 rw [aB c,List.filter_cons_of_neg (by simpa using c)];simp
theorem FA:∀(k:Nat) (st:ah) (e:Int),0<st.length->gi st ((st.length:Int) - 1)=e->(0<=e/\e<R.length)->gi R e=(st.length:Int) - 1->st.length+k=n->dw n R B k st=(km R B k e).map (st++ ·)
 | 0,st,e,_,_,_,_,_=>by simp [dw,km]
 | k+1,st,e,h0,hl,he,hr,hk=>by
  rw [dw,Kg (n:=n) (by omega) (by omega),List.map_flatMap];have hn:iO n R B st R.length=(gO R B e).filter fun f=>decide (cI n R B f):=by
   refine SA.eq (lL _ (qz _)) (lL _ (xe _ _ _)) fun y=>?_
   unfold iO;rw [eO,eO,tk,kI,jj,jj,hl];constructor
   ·rintro⟨h1,h2,h3,h4⟩;exact⟨⟨h1,by omega,h4.resolve_left (by omega)⟩,h3⟩
   ·rintro⟨⟨h1,h2,h4⟩,h3⟩;exact⟨h1,by omega,h3,.inr h4⟩
  rw [hn];refine vy fun f hf=>?_
  have hf:=kI.1 (eO.1 hf).1;have hlen:(st++ [f]).length=st.length+1:=by simp
  rw [FA k (st++ [f]) f (by omega) (by
   rw [hlen,show((st.length+1:Nat):Int) - 1=(st.length:Int) by omega,bQ (by omega)];simp) hf.1 (by rw [hlen];omega) (by omega),List.map_map]
  refine ki fun y _=>?_
  show(st++ [f])++y=st++ (f::y);rw [fB];rfl
theorem MM(hn:1<=n):dw n R B n []=bZ n R B:=by
 obtain⟨k,rfl⟩:∃k,n=k+1:=⟨n - 1,by omega⟩;rw [E9,dw];have hb:iO (k+1) R B [] R.length=(pH R).filter fun f=>decide (cI (k+1) R B f):=by
  refine SA.eq (lL _ (qz _)) (lL _ (lL _ (qz _))) fun y=>?_
  unfold iO;rw [eO,eO,tk,sg,jj,jj];exact⟨fun h=> ⟨⟨h.1,h.2.1⟩,h.2.2.1⟩,fun h=> ⟨h.1.1,h.1.2,h.2,.inl O⟩⟩
 rw [hb];refine vy fun f hf=>?_
 have hf:=sg.1 (eO.1 hf).1;rw [List.nil_append,FA k [f] f (by simp) (by simp [gi]) hf.1 (by rw [hf.2];rfl) (by simp;omega)]
 rfl
end
theorem D2{Q:gn}{e:Env}{w:aa}{F:List (Nat×ab)}(hM:Mt e F)(h:Q .normal (ext e F) w):Q .normal e w:=by rwa [tU hM]at h
theorem Si{w0 w:aa}{ks:List Ck}{t:ad}{A:ai}{n c:Nat}{xs:List Bool}(h:St w0 w ks)(hm:dC t A n c xs∈ks):oe w A n xs:=by
 obtain⟨i,hi,e⟩:=fP.1 hm;exact h.fm i (by rw [dE hi,e])
theorem Js{α:Type}(s m:α)(X K:List α):(s::m::(X++K)).Perm (m::((X++ [s])++K)):=by
 classical
 refine nb.2 fun z=>?_
 simp only [nY,mm,pA];omega
theorem S6{α:Type}(p s:α)(X K:List α):(p::s::(X++K)).Perm (X++ (p::s::K)):=by
 classical
 refine nb.2 fun z=>?_
 simp only [nY,mm];omega
theorem Rt(w0:aa)(n:Nat)(AR AD:ai)(cR cD:Nat)(R:ah)(zn:List aH)(B:ag)(N:Nat)(hN:R.length=N)(hR:bS w0 AR N R)(hB:bu w0 AD N zn B)(hP:gf n R B)(Aa:ai)(La:List Bool)(pP:mr N La (fun x=>cI n R B x)):
 ∀(k r:Nat) (st:ah) (As:ai) (cs:Nat) (du:List Ck) (w:aa) (A:ai) (c:Nat) (rs:List aH) (F:ag),r+k=n->st.length=r->(∀x∈st,0<=x/\x< (N:Int))->dC 4 Aa N N La∈du->rs.length=F.length->F.length<=401->
  St w0 w (aE 2 As r cs st::(aW 24 2 A F.length c rs F++du))->
  aG prog 180 [.agg #[aj n,.slice AR N cR,.slice AD N cD],.slice Aa N N,.slice As r cs,.slice A F.length c] w (fun v w'=>∃A' c' rs',v= .slice A' (cap (F++dw n R B k st)).length c'/\rs'.length=(cap (F++dw n R B k st)).length/\St w0 w' (aW 24 2 A' (cap (F++dw n R B k st)).length c' rs' (cap (F++dw n R B k st))++du)):=by
 have hn:=hP.n1;have jE:=hP.qL;have hle:=hP.len;have bw:=fun(f:Nat) (h:f<R.length)=>hP.at_ (e:=(f:Int)) (by omega) (by omega)
 have cT:∀f:Nat,f<R.length->(gl B f).length<=500:=fun f h=>by
  have:=oH (N:=R.length) (bw f h).1.nodup fun x hx=>by have:=((bw f h).2.1 x hx).1;omega
  omega
 have dt:=fun(x:Nat) (h:x<R.length)=>hP.ri (e:=(x:Int)) (by omega) (by omega)
 rw [hN]at jE hle cT dt;have ny:=pP.1;intro k
 induction k with
 | zero=>
  intro r st As cs du w A c rs F hk ax De xQ gL hF hS;refine bs func180 O ntmps180 O (bF O) (aY O (nh hS O O ?_));intro A4 w1 aD;refine aq O (aR O O (aA O ?_));refine aJ _ O (fun h1=>?_) (fun h1=>?_)
  ·have hc:cap (F++dw n R B 0 st)=F:=by
    have h9:cap F=F:=qM hF;rw [xy (l:=F) _ (by rw [h9];omega),h9]
   refine bV O (dH O ?_);rw [hc];exact⟨A,c,rs,O,gL,aD.tail.tail⟩
  refine aC O (aR O O (aq O ?_));refine aT (aD.rd 0 O) O (kk (j:=0) (aD.rd 0 O) (by exact aS Value.pointer O) O O O O (aA O (zB O (by omega) ?_)));have hc:cap (F++dw n R B 0 st)=F++ [st]:=qM (by rw [dw,dS];show F.length+1<=401;omega);have aD:=aD.tail;refine aC O (mu aD O O O ?_);intro A9 w2 ay;refine iU 2 ay O (ay.dB 0 O) O O O (by omega) (by omega) O ?_;intro AZ cZ w3 aL;have aL:=aL.tail;refine bW O (dH O ?_);rw [hc];refine⟨AZ,cZ,rs++ [⟨As,r,cs⟩],by rw [dS];rfl,by simp [gL],?_⟩;have aN:St w0 w3 (aE 2 As r cs st::aQ 24 AZ (F.length+1) cZ (rs++ [⟨As,r,cs⟩])::(cw 2 rs F++du)):=aL;have aN:=aN.perm (Js _ _ _ _);rw [<-wV gL]at aN;rw [dS];exact aN
 | succ k ih=>
  intro r st As cs du w A c rs F hk ax De xQ gL hF hS;refine bs func180 O ntmps180 O (bF O) (aY O (nh hS O O ?_));intro A4 w1 aD;refine aq O (aR O O (aA O ?_));refine aJ _ O (fun h1=>?_) (fun h1=>?_)
  ·have hc:cap (F++dw n R B (k+1) st)=F:=by
    have h9:cap F=F:=qM hF;rw [xy (l:=F) _ (by rw [h9];omega),h9]
   refine bV O (dH O ?_);rw [hc];exact⟨A,c,rs,O,gL,aD.tail.tail⟩
  refine aC O (aR O O (aq O ?_));refine aT (aD.rd 0 O) O (kk (j:=0) (aD.rd 0 O) (by exact aS Value.pointer O) O O O O (aA O (kJ O (by omega) ?_)));have aD:St w0 w1 (bD A4 n AR N cR AD N cD::aE 2 As r cs st::(aW 24 2 A F.length c rs F++du)):=aD;have ay:=aD.perm (S6 _ _ _ _);have BE:cap (F++ (iO n R B st 0).flatMap fun e=>dw n R B k (st++ [e]))=F:=by
   show cap (F++ [])=F;rw [eG,qM hF]
  clear aD hS;refine cj O ?_;refine Cd.loop (α:=Nat×ai×Nat×List aH) (fun z=> [(1,.slice Aa N N),(2,.slice As r cs),(3,.slice z.2.1 (cap (F++ (iO n R B st z.1).flatMap fun e=>dw n R B k (st++ [e]))).length z.2.2.1),(4,.pointer A4),(9,aj r),(10,aj (z.1:Int))])
   (fun z w'=>z.1<=N/\z.2.2.2.length=(cap (F++ (iO n R B st z.1).flatMap fun e=>dw n R B k (st++ [e]))).length/\St w0 w' (aW 24 2 z.2.1 (cap (F++ (iO n R B st z.1).flatMap fun e=>dw n R B k (st++ [e]))).length z.2.2.1 z.2.2.2 (cap (F++ (iO n R B st z.1).flatMap fun e=>dw n R B k (st++ [e])))++ (bD A4 n AR N cR AD N cD::aE 2 As r cs st::du))) (fun z=>N - z.1) (0,A,c,rs) ⟨rfl,rfl,aS (fun m:ag=>Value.slice A m.length c) BE.symm,rfl,rfl,rfl,av⟩ ⟨bk _,by show rs.length=_;rw [BE];exact gL,by show St w0 w1 (aW _ _ A (cap _).length c rs (cap _)++_);rw [BE];exact ay⟩ ?_
  clear ay gL;rintro⟨q,A,c,rs⟩ e w2 ⟨hq,gL,hS⟩;dsimp only at hq gL hS|-;have eE:=SN (n:=n) (R:=R) (B:=B) st q;have fx:=Ah (F++ (iO n R B st q).flatMap fun e=>dw n R B k (st++ [e]));have G6:=LS (F++ (iO n R B st q).flatMap fun e=>dw n R B k (st++ [e]));generalize hG:(F++ (iO n R B st q).flatMap fun e=>dw n R B k (st++ [e]))=G at*;have mK:∀ {w':aa} {A:ai} {c:Nat} {rs:List aH} {F:ag},St w0 w' (aW 24 2 A F.length c rs F++ (bD A4 n AR N cR AD N cD::aE 2 As r cs st::du))->Rd w' A4 3 (fun q=> [Value.int .i64 (n:Int),.slice AR N cR,.slice AD N cD].getD q undef):=fun h=> (h.sub (iw _ _)).rd 0 O
  have Ci:∀ {w':aa} {A:ai} {c:Nat} {rs:List aH} {F:ag},St w0 w' (aW 24 2 A F.length c rs F++ (bD A4 n AR N cR AD N cD::aE 2 As r cs st::du))->bS w' As r st:=fun h=> (h.sub (iw _ _)).bU 1 O
  have yb:∀ {w':aa} {A:ai} {c:Nat} {rs:List aH} {F:ag},St w0 w' (aW 24 2 A F.length c rs F++ (bD A4 n AR N cR AD N cD::aE 2 As r cs st::du))->oe w' Aa N La:=fun h=>Si h (List.mem_append_right _ (n4 _ (n4 _ xQ)))
  have nu:=mK hS;refine aY O (aT nu O (Wm (j:=1) nu (by exact aS Value.pointer O) O O O O ?_));refine aR O O (aA O ?_);refine aJ _ O (fun h3=>?_) (fun h3=>?_)
  ·have HL:q<N:=by omega
   have fc:=hS.dh hR;have gr:=hS.bE hB;have mO:=Ci hS;have tX:=yb hS;have Cy:=pP.2 q HL;have hriq:=dt q HL;have hrlq:=cT q (by omega);have HS:=gr.at_ (i:=(q:Int)) (by omega) (by omega);have eM:=HS.1;have nJ:¬(gi R q=(st.length:Int)/\cI n R B q/\(st.length=0\/gi st ((st.length:Int) - 1)∈gl B q))->F++ ((iO n R B st (q+1)).flatMap fun e=>dw n R B k (st++ [e]))=G:=fun h=>by
    rw [eE,aB h];exact hG
   have Cj:¬gi R q=(r:Int)\/(gi R q=(r:Int)/\gb La q=false)\/(gi R q=(r:Int)/\gb La q=true/\(r:Int)=0)\/(gi R q=(r:Int)/\gb La q=true/\¬(r:Int)=0):=by
    by_cases a:gi R q=(r:Int)
    ·cases gb La q
     ·exact .inr (.inl ⟨a,O⟩)
     ·by_cases b:(r:Int)=0
      ·exact .inr (.inr (.inl ⟨a,O,b⟩))
      ·exact .inr (.inr (.inr ⟨a,O,b⟩))
    ·exact .inl a
   rcases Cj with a1 | ⟨a1,a2⟩ | ⟨a1,a2,a3⟩ | ⟨a1,a2,a3⟩
   ·--dup 4
    have lD:=nJ (fun h=>a1 (by rw [h.1,ax]));refine cj O (cN [xP (az (A4) 1),xS (AR) (N) (cR),xI ((q:Int)),xP (az (AR) ((q:Int)).toNat),xI (gi (R) ((q:Int))),xI ((r:Int)),xB (decide ((gi (R) ((q:Int)))=((r:Int)))),xB (false),xU,xU,xU,xU,xB (false),xB (false),xU,xU,xU,xU,xU,xU,xU,xU,xU,xU,xU,xU,xU,xU,xU,xB (false)] O (da O) ?_ ?_)
    ·exact⟨fun _ _ hb _ _=>aT (nu.below hb) O Az,fun _ _ hb _ _=>a7 (nu.below hb) O Az,Dr O,fun _ _ hb _ _=>aw (fc.ao hb).2 O Az,fun _ _ hb _ _=>a6 (fc.ao hb) O Az,Dr O,Dr O,fun _ _ _ _ _=>Dk O (by exact aS Value.bool (cb a1)),Dr O,Dr O,Dr O,Dr O,Dr O,fun _ _ _ _ _=>Dk O (by exact aS Value.bool (O)),Dr O,Dr O,Dr O,Dr O,Dr O,Dr O,Dr O,Dr O,Dr O,Dr O,Dr O,Dr O,Dr O,Dr O,Dr O,Dr O,av⟩
    intro u w3 dZ _;refine dM O (Cd.dO O ?_);refine aC O (aI O (aM O (tQ ?_)));exact⟨(q+1,A,c,rs),by show N - (q+1)<N - q;omega,⟨O,O,aS (fun m:ag=>Value.slice A (cap m).length c) lD.symm,O,O,O,av⟩,by show q+1<=N;omega,by show rs.length=(cap _).length;rw [lD];exact gL,by show St w0 w3 (aW _ _ A (cap _).length c rs (cap _)++_);rw [lD];exact hS.ao dZ⟩
   ·have lD:=nJ (fun h=>by have:=Cy.2 h.2.1;rw [a2]at this;cases this);refine cj O (cN [xP (az (A4) 1),xS (AR) (N) (cR),xI ((q:Int)),xP (az (AR) ((q:Int)).toNat),xI (gi (R) ((q:Int))),xI ((r:Int)),xB (decide ((gi (R) ((q:Int)))=((r:Int)))),xB (true),xS (Aa) (N) (N),xI ((q:Int)),xP (az (Aa) ((q:Int)).toNat),xB (gb (La) ((q:Int))),xB (gb (La) ((q:Int))),xB (false),xU,xU,xU,xU,xU,xU,xU,xU,xU,xU,xU,xU,xU,xU,xU,xB (false)] O (da O) ?_ ?_)
    ·exact⟨fun _ _ hb _ _=>aT (nu.below hb) O Az,fun _ _ hb _ _=>a7 (nu.below hb) O Az,Dr O,fun _ _ hb _ _=>aw (fc.ao hb).2 O Az,fun _ _ hb _ _=>a6 (fc.ao hb) O Az,Dr O,Dr O,fun _ _ _ _ _=>Dk O (by exact aS Value.bool (dF a1)),Dr O,Dr O,fun _ _ hb _ _=>ar O (aw (tX.ao hb).2 O Az),fun _ _ hb _ _=>ar O (lh (tX.ao hb) O (by omega) O O Az),Dr O,fun _ _ _ _ _=>Dk O (by exact aS Value.bool (a2)),Dr O,Dr O,Dr O,Dr O,Dr O,Dr O,Dr O,Dr O,Dr O,Dr O,Dr O,Dr O,Dr O,Dr O,Dr O,Dr O,av⟩
    intro u w3 dZ _;refine dM O (Cd.dO O ?_);refine aC O (aI O (aM O (tQ ?_)));exact⟨(q+1,A,c,rs),by show N - (q+1)<N - q;omega,⟨O,O,aS (fun m:ag=>Value.slice A (cap m).length c) lD.symm,O,O,O,av⟩,by show q+1<=N;omega,by show rs.length=(cap _).length;rw [lD];exact gL,by show St w0 w3 (aW _ _ A (cap _).length c rs (cap _)++_);rw [lD];exact hS.ao dZ⟩
   ·have fy:gi R q=(st.length:Int)/\cI n R B q/\(st.length=0\/gi st ((st.length:Int) - 1)∈gl B q):=⟨by omega,Cy.1 a2,.inl (by omega)⟩;refine cj O (cN [xP (az (A4) 1),xS (AR) (N) (cR),xI ((q:Int)),xP (az (AR) ((q:Int)).toNat),xI (gi (R) ((q:Int))),xI ((r:Int)),xB (decide ((gi (R) ((q:Int)))=((r:Int)))),xB (true),xS (Aa) (N) (N),xI ((q:Int)),xP (az (Aa) ((q:Int)).toNat),xB (gb (La) ((q:Int))),xB (gb (La) ((q:Int))),xB (true),xI ((r:Int)),xB (decide (((r:Int))=((0:Int)))),xB (true),xU,xU,xU,xU,xU,xU,xU,xU,xU,xU,xU,xB (true),xB (true)] O (da O) ?_ ?_)
    ·exact⟨fun _ _ hb _ _=>aT (nu.below hb) O Az,fun _ _ hb _ _=>a7 (nu.below hb) O Az,Dr O,fun _ _ hb _ _=>aw (fc.ao hb).2 O Az,fun _ _ hb _ _=>a6 (fc.ao hb) O Az,Dr O,Dr O,fun _ _ _ _ _=>Dk O (by exact aS Value.bool (dF a1)),Dr O,Dr O,fun _ _ hb _ _=>ar O (aw (tX.ao hb).2 O Az),fun _ _ hb _ _=>ar O (lh (tX.ao hb) O (by omega) O O Az),Dr O,fun _ _ _ _ _=>Dk O (by exact aS Value.bool (a2)),Dr O,Dr O,fun _ _ _ _ _=>Dk O (by exact aS Value.bool (dF a3)),Dr O,Dr O,Dr O,Dr O,Dr O,Dr O,Dr O,Dr O,Dr O,Dr O,Dr O,Dr O,Dr O,av⟩
    intro u w3 dZ _;have hS:=hS.ao dZ;refine dM O (Cd.eP O ?_);have wc:=eE;rw [aF fy]at wc;have BG:F++ ((iO n R B st (q+1)).flatMap fun e=>dw n R B k (st++ [e]))=G++dw n R B k (st++ [(q:Int)]):=by
     rw [wc,List.flatMap_append,<-fB,hG];simp
    have Cl:=G6 (dw n R B k (st++ [(q:Int)]));have Df:∀x∈st++ [(q:Int)],0<=x/\x< (N:Int):=fun x hx=>by
     rcases gQ.1 hx with h | h
     ·exact De x h
     ·obtain rfl:=fQ.1 h;omega
    generalize hH:cap G=H at*;refine jc [6,8] [.ex (.agg #[aj n,.slice AR N cR,.slice AD N cD]),yS (Aa) (N) (N),yS (As) (r) (cs),.pr (fun v w'=>∃A9 c9,v= .slice A9 r c9/\St w0 w' (aE 2 A9 r c9 st::(aW 24 2 A H.length c rs H++ (bD A4 n AR N cR AD N cD::aE 2 As r cs st::du)))),yI ((q:Int)),.pr (fun v w'=>∃A9,v= .slice A9 1 1/\bS w' A9 1 [(q:Int)]),.pr (fun v w'=>∃AZ cZ,v= .slice AZ (r+1) cZ/\St w0 w' (aE 2 AZ (r+1) cZ (st++ [(q:Int)])::(aW 24 2 A H.length c rs H++ (bD A4 n AR N cR AD N cD::aE 2 As r cs st::du)))),yS (A) (H.length) (c),.pr (fun v w'=>∃A' c' rs',v= .slice A' (cap (G++dw n R B k (st++ [(q:Int)]))).length c'/\rs'.length=(cap (G++dw n R B k (st++ [(q:Int)]))).length/\St w0 w' (aW 24 2 A' (cap (G++dw n R B k (st++ [(q:Int)]))).length c' rs' (cap (G++dw n R B k (st++ [(q:Int)])))++ (bD A4 n AR N cR AD N cD::aE 2 As r cs st::du))),.pr (fun v w'=>∃A' c' rs',v= .slice A' (cap (G++dw n R B k (st++ [(q:Int)]))).length c'/\rs'.length=(cap (G++dw n R B k (st++ [(q:Int)]))).length/\St w0 w' (aW 24 2 A' (cap (G++dw n R B k (st++ [(q:Int)]))).length c' rs' (cap (G++dw n R B k (st++ [(q:Int)])))++ (bD A4 n AR N cR AD N cD::aE 2 As r cs st::du)))] (by kernel_rfl) (by kernel_rfl) (ly (ly (ly (cq.2 ⟨Ye.ct (fun v w w' h hb=>by obtain⟨A9,c9,hv,hT⟩:=h;exact⟨A9,c9,hv,hT.ao hb⟩),(ly (cq.2 ⟨Ye.ct (fun v w w' h hb=>by obtain⟨A9,hv,hT⟩:=h;exact⟨A9,hv,hT.ao hb⟩),(cq.2 ⟨Ye.ct (fun v w w' h hb=>by obtain⟨AZ,cZ,hv,hT⟩:=h;exact⟨AZ,cZ,hv,hT.ao hb⟩),(ly (cq.2 ⟨Ye.ct (fun v w w' h hb=>by obtain⟨A',c',rs',hv,dJ,hT⟩:=h;exact⟨A',c',rs',hv,dJ,hT.ao hb⟩),(cq.2 ⟨Ye.ct (fun v w w' h hb=>by obtain⟨A',c',rs',hv,dJ,hT⟩:=h;exact⟨A',c',rs',hv,dJ,hT.ao hb⟩),(fun _ h=>by cases h)⟩)⟩))⟩)⟩))⟩)))) ?_ ?_
    ·refine⟨?_,b8 O,b8 O,?_,b8 O,?_,?_,?_,?_,?_,av⟩
     ·intro e1 w1 cc en cC dq hp aZ hq;show ak _ _ _ _ _ _ _;have hX:Rd w1 A4 3 (fun q=> [Value.int .i64 (n:Int),.slice AR N cR,.slice AD N cD].getD q undef):=by { have cC:=k7 cC (b:=1) (by kernel_rfl);rcases(show cc=0\/cc=1 by omega)with h | h; { exact Rd.below (mK hS) (dq h) }; { subst h;obtain⟨AZ,cZ,_,hT⟩:=hq 6 _ _ (by kernel_rfl) (by kernel_rfl) (by kernel_rfl) rfl rfl (by kernel_rfl);exact mK hT.tail } }
      refine ak.dz 2 hX O O O (ak.n (fO O (by exact O)))
     ·refine cP fun e1 w1 hb hp aZ hq=>?_
      refine aO (DC As r cs st _ (Ci (hS.ao hb)) (by omega)) O ?_;rintro _ w9 ⟨A9,c9,rfl,jX⟩;exact ak.n (eS.dn O jX.below ⟨A9,c9,O,(hS.ao hb).call jX⟩)
     ·intro e1 w1 cc en cC dq hp aZ hq;show ak _ _ _ _ _ _ _;exact e6 (St.refl _) O O O fun A9 w9 jX=>ak.n (eS.dn O jX.below ⟨A9,O,jX.bU 0 O⟩)
     ·refine jh fun e1 w1 hb hp aZ hq=>?_
      obtain⟨A8,c8,Bs,hT⟩:=(hp 3 _ _ (by kernel_rfl) rfl rfl (by kernel_rfl));obtain⟨A9,Bt,vN⟩:=(hp 5 _ _ (by kernel_rfl) rfl rfl (by kernel_rfl));refine fS 0 hT O vN (by exact Bs) (by exact Bt) O (by omega) (by omega) O ?_;intro AZ cZ wZ hZ;exact ak.n (eA.dn O ⟨AZ,cZ,O,hZ⟩)
     ·intro e1 w1 cc en cC dq hp aZ hq;show ak _ _ _ _ _ _ _;refine pE O (by exact aZ 9 _ O (by kernel_rfl)) O (ak.n (fO O (by exact O)))
     ·refine mD 1 fun e1 w1 hp aZ hq=>?_
      have cS:=hp 6 _ _ (by kernel_rfl) O O (by kernel_rfl);obtain⟨AZ,cZ,Bu,hT⟩:=(hp 6 _ _ (by kernel_rfl) rfl rfl (by kernel_rfl));refine Wh (ih (r+1) (st++ [(q:Int)]) AZ cZ (bD A4 n AR N cR AD N cD::aE 2 As r cs st::du) _ A c rs H (by omega) (by rw [dS,ax];rfl) Df (n4 _ (n4 _ xQ)) gL (by omega) hT) O (by exact aS (fun v=> [Value.agg #[aj n,.slice AR N cR,.slice AD N cD],.slice Aa N N,v,.slice A H.length c]) Bu) O ?_;rintro _ w9 ⟨A',c',rs',rfl,dJ,rf⟩;rw [Cl]at dJ rf|-;exact ak.n (eA.dn O ⟨A',c',rs',O,dJ,rf⟩)
     ·refine dP 2 fun e1 w1 hp aZ hq=>?_
      have cS:=hp 8 _ _ (by kernel_rfl) O O (by kernel_rfl);obtain⟨A',c',rs',Bv,dJ,hT⟩:=(hp 8 _ _ (by kernel_rfl) rfl rfl (by kernel_rfl));refine pE O (by exact Bv) O (ak.n ?_);exact eS.dn O (Below.refl _ _) ⟨A',c',rs',O,dJ,hT⟩
    intro u4 w4 _ Dm _ _;obtain⟨A',c',rs',wA,dJ,hT⟩:=Dm 9 _ rfl (by kernel_rfl);rw [<-BG]at wA dJ hT;refine D2 (F:=[(1,.slice Aa N N),(2,.slice As r cs),(3,.slice A' (cap (F++ ((iO n R B st (q+1)).flatMap fun e=>dw n R B k (st++ [e])))).length c'),(4,.pointer A4),(9,aj r),(10,aj q)]) ⟨O,O,wA,O,O,O,av⟩ (ib O (aI O (aM O (tQ ?_))));exact⟨(q+1,A',c',rs'),by show N - (q+1)<N - q;omega,(Wn O),by show q+1<=N;omega,dJ,hT⟩
   ·refine cj O ?_;refine cN [xP (az (A4) 1),xS (AR) (N) (cR),xI ((q:Int)),xP (az (AR) ((q:Int)).toNat),xI (gi (R) ((q:Int))),xI ((r:Int)),xB (decide ((gi (R) ((q:Int)))=((r:Int)))),xB (true),xS (Aa) (N) (N),xI ((q:Int)),xP (az (Aa) ((q:Int)).toNat),xB (gb (La) ((q:Int))),xB (gb (La) ((q:Int))),xB (true),xI ((r:Int)),xB (decide (((r:Int))=((0:Int)))),xB (false),xP (az (A4) 2),xS (AD) (N) (cD),xI ((q:Int)),xP (az (AD) ((q:Int)).toNat),xS ((rg (zn) ((q:Int))).a) ((rg (zn) ((q:Int))).n) ((rg (zn) ((q:Int))).c),xS (As) (r) (cs),xI ((r:Int)),xI (((r:Int)) - ((1:Int))),xP (az (As) (((r:Int)) - ((1:Int))).toNat),xI (gi (st) (((r:Int)) - ((1:Int)))),xB (decide (gi st ((r:Int) - 1)∈gl B q)),xB (decide (gi st ((r:Int) - 1)∈gl B q)),xB (decide (gi st ((r:Int) - 1)∈gl B q))] O (da O) ?_ ?_
    ·refine⟨fun _ _ hb _ _=>aT (nu.below hb) O Az,fun _ _ hb _ _=>a7 (nu.below hb) O Az,Dr O,fun _ _ hb _ _=>aw (fc.ao hb).2 O Az,fun _ _ hb _ _=>a6 (fc.ao hb) O Az,Dr O,Dr O,fun _ _ _ _ _=>Dk O (by exact aS Value.bool (dF a1)),Dr O,Dr O,fun _ _ hb _ _=>ar O (aw (tX.ao hb).2 O Az),fun _ _ hb _ _=>ar O (lh (tX.ao hb) O (by omega) O O Az),Dr O,fun _ _ _ _ _=>Dk O (by exact aS Value.bool (a2)),Dr O,Dr O,fun _ _ _ _ _=>Dk O (by exact aS Value.bool (cb a3)),fun _ _ hb _ _=>ar O (aT (nu.below hb) O Az),fun _ _ hb _ _=>ar O (a7 (nu.below hb) O Az),Dr O,fun _ _ hb _ _=>ar O (aw (gr.top.ao hb).2 O Az),fun _ _ hb _ _=>ar O (bn (gr.top.ao hb) O Az),Dr O,Dr O,fun _ _ _ _ _=>ar O (gH O O O (by omega) Az),fun _ _ hb _ _=>ar O (aw (mO.ao hb).2 O Az),fun _ _ hb _ _=>ar O (a6 (mO.ao hb) O Az),?_,Dr O,Dr O,av⟩
     ·intro e1 w1 hb hp aZ;refine ar O (aO (uL _ _ _ _ _ _ (HS.ao hb) (by omega)) O ?_);rintro _ w2 ⟨rfl,ax⟩;subst ax;refine ak.n (d0 (by exact O))
    intro u w3 dZ _;have hS:=hS.ao dZ;refine dM O (aJ _ O (fun h5=>?_) (fun h5=>?_))
    ·have fy:gi R q=(st.length:Int)/\cI n R B q/\(st.length=0\/gi st ((st.length:Int) - 1)∈gl B q):=⟨by omega,Cy.1 a2,.inr (by rw [ax];exact h5)⟩;have wc:=eE;rw [aF fy]at wc;have BG:F++ ((iO n R B st (q+1)).flatMap fun e=>dw n R B k (st++ [e]))=G++dw n R B k (st++ [(q:Int)]):=by
      rw [wc,List.flatMap_append,<-fB,hG];simp
     have Cl:=G6 (dw n R B k (st++ [(q:Int)]));have Df:∀x∈st++ [(q:Int)],0<=x/\x< (N:Int):=fun x hx=>by
      rcases gQ.1 hx with h | h
      ·exact De x h
      ·obtain rfl:=fQ.1 h;omega
     generalize hH:cap G=H at*;refine jc [6,8] [.ex (.agg #[aj n,.slice AR N cR,.slice AD N cD]),yS (Aa) (N) (N),yS (As) (r) (cs),.pr (fun v w'=>∃A9 c9,v= .slice A9 r c9/\St w0 w' (aE 2 A9 r c9 st::(aW 24 2 A H.length c rs H++ (bD A4 n AR N cR AD N cD::aE 2 As r cs st::du)))),yI ((q:Int)),.pr (fun v w'=>∃A9,v= .slice A9 1 1/\bS w' A9 1 [(q:Int)]),.pr (fun v w'=>∃AZ cZ,v= .slice AZ (r+1) cZ/\St w0 w' (aE 2 AZ (r+1) cZ (st++ [(q:Int)])::(aW 24 2 A H.length c rs H++ (bD A4 n AR N cR AD N cD::aE 2 As r cs st::du)))),yS (A) (H.length) (c),.pr (fun v w'=>∃A' c' rs',v= .slice A' (cap (G++dw n R B k (st++ [(q:Int)]))).length c'/\rs'.length=(cap (G++dw n R B k (st++ [(q:Int)]))).length/\St w0 w' (aW 24 2 A' (cap (G++dw n R B k (st++ [(q:Int)]))).length c' rs' (cap (G++dw n R B k (st++ [(q:Int)])))++ (bD A4 n AR N cR AD N cD::aE 2 As r cs st::du))),.pr (fun v w'=>∃A' c' rs',v= .slice A' (cap (G++dw n R B k (st++ [(q:Int)]))).length c'/\rs'.length=(cap (G++dw n R B k (st++ [(q:Int)]))).length/\St w0 w' (aW 24 2 A' (cap (G++dw n R B k (st++ [(q:Int)]))).length c' rs' (cap (G++dw n R B k (st++ [(q:Int)])))++ (bD A4 n AR N cR AD N cD::aE 2 As r cs st::du)))] (by kernel_rfl) (by kernel_rfl) (ly (ly (ly (cq.2 ⟨Ye.ct (fun v w w' h hb=>by obtain⟨A9,c9,hv,hT⟩:=h;exact⟨A9,c9,hv,hT.ao hb⟩),(ly (cq.2 ⟨Ye.ct (fun v w w' h hb=>by obtain⟨A9,hv,hT⟩:=h;exact⟨A9,hv,hT.ao hb⟩),(cq.2 ⟨Ye.ct (fun v w w' h hb=>by obtain⟨AZ,cZ,hv,hT⟩:=h;exact⟨AZ,cZ,hv,hT.ao hb⟩),(ly (cq.2 ⟨Ye.ct (fun v w w' h hb=>by obtain⟨A',c',rs',hv,dJ,hT⟩:=h;exact⟨A',c',rs',hv,dJ,hT.ao hb⟩),(cq.2 ⟨Ye.ct (fun v w w' h hb=>by obtain⟨A',c',rs',hv,dJ,hT⟩:=h;exact⟨A',c',rs',hv,dJ,hT.ao hb⟩),(fun _ h=>by cases h)⟩)⟩))⟩)⟩))⟩)))) ?_ ?_
     ·refine⟨?_,b8 O,b8 O,?_,b8 O,?_,?_,?_,?_,?_,av⟩
      ·intro e1 w1 cc en cC dq hp aZ hq;show ak _ _ _ _ _ _ _;have hX:Rd w1 A4 3 (fun q=> [Value.int .i64 (n:Int),.slice AR N cR,.slice AD N cD].getD q undef):=by { have cC:=k7 cC (b:=1) (by kernel_rfl);rcases(show cc=0\/cc=1 by omega)with h | h; { exact Rd.below (mK hS) (dq h) }; { subst h;obtain⟨AZ,cZ,_,hT⟩:=hq 6 _ _ (by kernel_rfl) (by kernel_rfl) (by kernel_rfl) rfl rfl (by kernel_rfl);exact mK hT.tail } }
       refine ak.dz 2 hX O O O (ak.n (fO O (by exact O)))
      ·refine cP fun e1 w1 hb hp aZ hq=>?_
       refine aO (DC As r cs st _ (Ci (hS.ao hb)) (by omega)) O ?_;rintro _ w9 ⟨A9,c9,rfl,jX⟩;exact ak.n (eS.dn O jX.below ⟨A9,c9,O,(hS.ao hb).call jX⟩)
      ·intro e1 w1 cc en cC dq hp aZ hq;show ak _ _ _ _ _ _ _;exact e6 (St.refl _) O O O fun A9 w9 jX=>ak.n (eS.dn O jX.below ⟨A9,O,jX.bU 0 O⟩)
      ·refine jh fun e1 w1 hb hp aZ hq=>?_
       obtain⟨A8,c8,Bs,hT⟩:=(hp 3 _ _ (by kernel_rfl) rfl rfl (by kernel_rfl));obtain⟨A9,Bt,vN⟩:=(hp 5 _ _ (by kernel_rfl) rfl rfl (by kernel_rfl));refine fS 0 hT O vN (by exact Bs) (by exact Bt) O (by omega) (by omega) O ?_;intro AZ cZ wZ hZ;exact ak.n (eA.dn O ⟨AZ,cZ,O,hZ⟩)
      ·intro e1 w1 cc en cC dq hp aZ hq;show ak _ _ _ _ _ _ _;refine pE O (by exact aZ 9 _ O (by kernel_rfl)) O (ak.n (fO O (by exact O)))
      ·refine mD 1 fun e1 w1 hp aZ hq=>?_
       have cS:=hp 6 _ _ (by kernel_rfl) O O (by kernel_rfl);obtain⟨AZ,cZ,Bu,hT⟩:=(hp 6 _ _ (by kernel_rfl) rfl rfl (by kernel_rfl));refine Wh (ih (r+1) (st++ [(q:Int)]) AZ cZ (bD A4 n AR N cR AD N cD::aE 2 As r cs st::du) _ A c rs H (by omega) (by rw [dS,ax];rfl) Df (n4 _ (n4 _ xQ)) gL (by omega) hT) O (by exact aS (fun v=> [Value.agg #[aj n,.slice AR N cR,.slice AD N cD],.slice Aa N N,v,.slice A H.length c]) Bu) O ?_;rintro _ w9 ⟨A',c',rs',rfl,dJ,rf⟩;rw [Cl]at dJ rf|-;exact ak.n (eA.dn O ⟨A',c',rs',O,dJ,rf⟩)
      ·refine dP 2 fun e1 w1 hp aZ hq=>?_
       have cS:=hp 8 _ _ (by kernel_rfl) O O (by kernel_rfl);obtain⟨A',c',rs',Bv,dJ,hT⟩:=(hp 8 _ _ (by kernel_rfl) rfl rfl (by kernel_rfl));refine pE O (by exact Bv) O (ak.n ?_);exact eS.dn O (Below.refl _ _) ⟨A',c',rs',O,dJ,hT⟩
     intro u4 w4 _ Dm _ _;obtain⟨A',c',rs',wA,dJ,hT⟩:=Dm 9 _ rfl (by kernel_rfl);rw [<-BG]at wA dJ hT;refine D2 (F:=[(1,.slice Aa N N),(2,.slice As r cs),(3,.slice A' (cap (F++ ((iO n R B st (q+1)).flatMap fun e=>dw n R B k (st++ [e])))).length c'),(4,.pointer A4),(9,aj r),(10,aj q)]) ⟨O,O,wA,O,O,O,av⟩ (ib O (aI O (aM O (tQ ?_))));exact⟨(q+1,A',c',rs'),by show N - (q+1)<N - q;omega,(Wn O),by show q+1<=N;omega,dJ,hT⟩
    ·have lD:=nJ (fun h=>by rcases h.2.2 with h6 | h6; { omega }; { rw [ax]at h6;exact h5 h6 });refine aC O (aI O (aM O (tQ ?_)));exact⟨(q+1,A,c,rs),by show N - (q+1)<N - q;omega,⟨O,O,aS (fun m:ag=>Value.slice A (cap m).length c) lD.symm,O,O,O,av⟩,by show q+1<=N;omega,by show rs.length=(cap _).length;rw [lD];exact gL,by show St w0 w3 (aW _ _ A (cap _).length c rs (cap _)++_);rw [lD];exact hS⟩
  ·have sV:q=N:=by omega
   subst sV;have lu:F++dw n R B (k+1) st=G:=by rw [<-hG,dw,hN]
   refine bj O (bl (dd O ?_));refine dH O ?_;rw [lu];exact⟨A,c,rs,O,gL,hS.sub ((na _).append (((na du).cons _).cons _))⟩
theorem St.merge{w0 w:aa}{ks jt:List Ck}(h:St w0 w ks)(h':St w0 w jt)(hk:∀k∈ks,cX k.vs=false)(cE:∀k∈jt,cX k.vs=false)(he:∀k∈ks,∀k'∈jt,k.e≠k'.e):St w0 w (ks++jt):=by
 refine⟨h.below,fun k hm=>?_,?_⟩
 ·rcases gQ.1 hm with hm | hm
  ·exact h.own k hm
  exact h'.own k hm
 rw [List.filterMap_append,List.nodup_append];refine⟨h.apart,h'.apart,fun a ha b hb=>?_⟩;rintro rfl;obtain⟨k,hm,CE⟩:=List.mem_filterMap.1 ha;obtain⟨k',fj,o7⟩:=List.mem_filterMap.1 hb;have one:∀ {q:Ck},tG w0.heap.size w q->q.fw=some a->∃cur,w.heap[a]?=some (.cells cur q.e (0,0)):=fun {q} ho hq=>by
  obtain⟨_,_,_,⟨h1,_⟩ | ⟨g,o,cur,h1,_,h2,_⟩⟩:=ho
  ·unfold Ck.fw at hq;rw [h1]at hq;cases hq
  unfold Ck.fw at hq;rw [h1]at hq;obtain rfl:g=a:=qH hq;exact⟨cur,h2⟩
 obtain⟨c1,e1⟩:=one ((h.own k hm).zs (hk k hm)) CE;obtain⟨c2,e2⟩:=one ((h'.own k' fj).zs (cE k' fj)) o7;rw [e1]at e2;injection e2 with e2
 injection e2 with _ e2 _
 exact he k hm k' fj e2
section
variable {P:Program} {N:Nat} {ops:Array Oper} {K:Env->aa->Prop} {rest:List Oper} {e:Env} {w0 w w':aa} {ks:List Ck} {d:Nat} {ty:ad} {pos:String} {af:Array Edge}
end
theorem eq_4{a b c d b' c' d':ab}(h1:b=b')(h2:c=c')(h3:d=d'):[a,b,c,d]=[a,b',c',d']:=by rw [h1,h2,h3]
theorem Rv(n:Nat)(A D:ai)(cA cD:Nat)(R:ah)(rs:List aH)(B:ag)(w:aa)(hR:bS w A R.length R)(hB:bu w D B.length rs B)(hP:gf n R B):
 aG prog 110 [.agg #[aj n,.slice A R.length cA,.slice D B.length cD]] w (fun v w'=>∃A' c' rs',v= .tuple #[.slice A' (cap (bZ n R B)).length c',.bool (decide ((bZ n R B).length<=400))]/\rs'.length=(cap (bZ n R B)).length/\St w w' (aW 24 2 A' (cap (bZ n R B)).length c' rs' (cap (bZ n R B))++ [])):=by
 have hn:=hP.n1;have hle:=hP.len;have dV:=MM (n:=n) (R:=R) (B:=B) (by omega);have Cm:=Ae (l:=bZ n R B);obtain⟨N,hN⟩:∃N,R.length=N:=⟨_,rfl⟩;have kX:=fun(w:aa) hR hB=>Rr n A D cA cD R rs B w hR hB hP
 have hex:=fun(w:aa) La hR hB Aa pP=>Rt w n A D cA cD R rs B N hN hR hB hP Aa La pP
 rw [hle]at hB kX;rw [hN]at hR hB kX;rw [hle,hN];refine bs func110 O ntmps110 O (mV O) (aY O (nh (St.refl w) O O ?_));intro A1 wB aD;have h1:Rd wB A1 3 (fun j=> [Value.int .i64 (n:Int),.slice A N cA,.slice D N cD].getD j undef):=aD.rd 0 O;have hR:=aD.dh hR;have hB:=aD.bE hB;have aD:=aD.none;refine aA O ?_;refine jc [5] [.ex (.agg #[aj n,.slice A N cA,.slice D N cD]),.ex (.agg #[aj n,.slice A N cA,.slice D N cD]),.pr (fun v w'=>∃A7 L,v= .slice A7 N N/\mr N L (fun x=>cI n R B x)/\St wB w' [dC 4 A7 N N L]),.pr (fun v w'=>∃A8,v= .slice A8 0 0/\St wB w' [aE 2 A8 0 0 []]),.pr (fun v w'=>∃A9,v= .slice A9 0 0/\St wB w' [aQ 24 A9 0 0 []]),.pr (fun v w'=>∃A' c' rs',v= .slice A' (cap (bZ n R B)).length c'/\rs'.length=(cap (bZ n R B)).length/\St wB w' (aW 24 2 A' (cap (bZ n R B)).length c' rs' (cap (bZ n R B))++ [])),.pr (fun v w'=>∃A' c' rs',v= .slice A' (cap (bZ n R B)).length c'/\rs'.length=(cap (bZ n R B)).length/\St wB w' (aW 24 2 A' (cap (bZ n R B)).length c' rs' (cap (bZ n R B))++ []))] (by kernel_rfl) (by kernel_rfl) (ly (ly (cq.2 ⟨Ye.ct (fun v w w' h hb=>by obtain⟨A7,L,hv,hL,hT⟩:=h;exact⟨A7,L,hv,hL,hT.ao hb⟩),(cq.2 ⟨Ye.ct (fun v w w' h hb=>by obtain⟨A8,hv,hT⟩:=h;exact⟨A8,hv,hT.ao hb⟩),(cq.2 ⟨Ye.ct (fun v w w' h hb=>by obtain⟨A9,hv,hT⟩:=h;exact⟨A9,hv,hT.ao hb⟩),(cq.2 ⟨Ye.ct (fun v w w' h hb=>by obtain⟨A',c',rs',hv,dJ,hT⟩:=h;exact⟨A',c',rs',hv,dJ,hT.ao hb⟩),(cq.2 ⟨Ye.ct (fun v w w' h hb=>by obtain⟨A',c',rs',hv,dJ,hT⟩:=h;exact⟨A',c',rs',hv,dJ,hT.ao hb⟩),(fun _ h=>by cases h)⟩)⟩)⟩)⟩)⟩))) ?_ ?_
 ·refine⟨cP fun _ _ hb _ _ _=>ak.dz 2 (Rd.below h1 hb) O O O (bJ O O),cP fun _ _ hb _ _ _=>ak.dz 2 (Rd.below h1 hb) O O O (bJ O O),?_,?_,?_,?_,?_,av⟩
  ·refine cP fun e1 w1 hb hp aZ hq=>?_
   refine aO (kX _ (hR.ao hb) (hB.ao hb)) O ?_;rintro _ w9 ⟨A7,L,rfl,hL,ax⟩;refine ak.n ?_;exact eS.dn O ax.below ⟨A7,L,O,hL,by have:=((St.refl wB).ao hb).call ax;rwa [eG]at this⟩
  ·refine cP fun e1 w1 hb hp aZ hq=>?_
   refine ic (St.refl _) O fun A8 w9 ax=>ak.n ?_;exact eS.dn O ax.below ⟨A8,O,by have:=((St.refl wB).ao hb).call ax;rwa [eG]at this⟩
  ·refine cP fun e1 w1 hb hp aZ hq=>?_
   refine ic (St.refl _) O fun A9 w9 ax=>ak.n ?_;exact eS.dn O ax.below ⟨A9,O,by have:=((St.refl wB).ao hb).call ax;rwa [eG]at this⟩
  ·refine jh fun e1 w1 hb hp aZ hq=>?_
   obtain⟨A7,L,h7,hL,pT⟩:=(hp 2 _ _ (by kernel_rfl) rfl rfl (by kernel_rfl));obtain⟨A8,h8,x4⟩:=(hp 3 _ _ (by kernel_rfl) rfl rfl (by kernel_rfl));obtain⟨A9,h9,vN⟩:=(hp 4 _ _ (by kernel_rfl) rfl rfl (by kernel_rfl));have N0:=vN.merge pT (fun k hk=>by obtain rfl:=fQ.1 hk;rfl) (fun k hk=>by obtain rfl:=fQ.1 hk;exact s6 _) (fun k hk k' cE=>by obtain rfl:=fQ.1 hk;obtain rfl:=fQ.1 cE;exact(by decide:¬(24=4)));have vI:=x4.merge N0 (fun k hk=>by obtain rfl:=fQ.1 hk;rfl) (fun k hk=>by rcases kj.1 hk with rfl | hk; { rfl }; { obtain rfl:=fQ.1 hk;exact s6 _ }) (fun k hk k' cE=>by obtain rfl:=fQ.1 hk;rcases kj.1 cE with rfl | cE; { exact(by decide:¬(2=24)) }; { obtain rfl:=fQ.1 cE;exact(by decide:¬(2=4)) });refine Wh (hex wB L hR hB A7 hL n 0 [] A8 0 [dC 4 A7 N N L] _ A9 0 [] [] (by omega) rfl (fun x hx=>by cases hx) (fQ.2 rfl) rfl (bk _) vI) rfl (by exact eq_4 h7 h8 h9) rfl ?_;rintro _ w9 ⟨A',c',rs',rfl,dJ,rf⟩;rw [List.nil_append,dV]at dJ rf|-;exact ak.n (eA.dn O ⟨A',c',rs',O,dJ,rf.sub ((na _).append (List.nil_sublist _))⟩)
  refine dP 1 fun e1 w1 hp aZ hq=>?_
  have cS:=hp 5 _ _ (by kernel_rfl) O O (by kernel_rfl);obtain⟨A',c',rs',fJ,dJ,hT⟩:=(hp 5 _ _ (by kernel_rfl) rfl rfl (by kernel_rfl));refine pE O (by exact fJ) O (ak.n ?_);exact eS.dn O (Below.refl _ _) ⟨A',c',rs',O,dJ,hT⟩
 intro u w2 _ hu _ _;obtain⟨A',c',rs',hv,dJ,hT⟩:=hu 6 _ rfl (by kernel_rfl);refine D2 (F:=[(4,.slice A' (cap (bZ n R B)).length c')]) ⟨hv,av⟩ (ib O (aR O O (bW O ?_)));refine Tx O O ?_;refine⟨A',c',rs',?_,dJ,(by rw [eG]at hT;exact aD.none.call hT)⟩;show Value.tuple #[_,Value.bool (decide _)]=_;rw [show decide ((((cap (bZ n R B)).length:Nat):Int)<=400)=decide ((bZ n R B).length<=400) from gJ.2 (by omega)]
theorem T2(A:ai)(n c:Nat)(rs:List aH)(M:ag)(w:aa)(hR:bu w A n rs M)(hn:n<=9223372036854775807)(hM:bN M):
 aG prog 135 [.agg #[.slice A n c]] w (fun v w'=>
  (500<aX M M.length/\v= .tuple #[.agg #[aj 0,.slice none 0 0,.slice none 0 0],aj 3]/\St w w' [])\/
  (aX M M.length<=500/\∃AR c AD d rs,v= .tuple #[.agg #[aj (M.length:Int),.slice AR (aX M M.length) c,.slice AD (aX M M.length) d],aj 0]/\rs.length=aX M M.length/\St w w' (aE 2 AR (aX M M.length) c (b5 M M.length)::(aW 24 2 AD (aX M M.length) d rs (bY M)++ [])))):=by
 refine bs func135 O ntmps135 O (Jz O O) (aY O (gS (St.refl w) O O ?_));intro A1 w1 aD;refine oS aD O fun A2 w2 ay=>aq O (ak.dz 0 (ay.rd 1 O) O O O (aO (Rm A n c rs M _ (ay.bE hR) hn) O ?_));rintro _ w3 ⟨rfl,ax⟩;have aL:=ay.ao ax.below
 first | refine dv rfl rfl ?_ | refine eJ rfl rfl ?_
 refine aA O (kJ O (fun h=>h hM) (aC O (ak.dz 0 (aL.rd 1 O) O O O (aO (RB A n c rs M _ (aL.bE hR) hM) O ?_))));rintro _ w4 ⟨AR,cR,AD,cD,gA,rfl,rE,oy⟩;have aN:=(aL.call oy).perm gB;refine oS aN O fun A4 w5 aV=>gU 3 0 aV O O O O O O O ?_;intro w6 bg;have bg:St w w6 (bD A4 (M.length:Int) AR (aX M M.length) cR AD (aX M M.length) cD::bD A2 0 none 0 0 none 0 0::Bx 37 1 A1 [.slice A n c]::(aE 2 AR (aX M M.length) cR (b5 M M.length)::(aW 24 2 AD (aX M M.length) cD gA (bY M)++ []))):=bg;refine aq O (aT (bg.rd 0 O) O (Wm (j:=1) (bg.rd 0 O) (by exact aS Value.pointer O) O O O O ?_));refine aR O O (aA O ?_);refine aJ _ O (fun h1=>?_) (fun h1=>?_)
 ·refine aC O (EE (by exact inferInstance) (by exact inferInstance) (by exact inferInstance) O (gU 3 1 bg O O O O O O O ?_));intro w7 bm;refine bW O (zj O (bm.rd 1 O) O ?_);exact .inl ⟨by omega,O,bm.none⟩
 refine aC O (ak.dz 2 (bg.rd 0 O) O O O (gU 3 1 bg O O O O O O O ?_));intro w7 bm;refine bW O (zj O (bm.rd 1 O) O ?_);exact .inr ⟨by omega,AR,cR,AD,cD,gA,O,rE,bm.tail.tail.tail⟩
theorem Nc{L:List Bool}{x:Nat}(h:x<L.length):gb L x=L[x]:=by
 unfold gb;rw [eH,bX,dE h,Option.getD_some]
theorem Fj:∀(L:List Bool) (x:Nat) (h:x<L.length),L[x]=false->(L.set x true).count false+1=L.count false
 | b::r,0,_,e=>by
  have e:b=false:=e;subst e;simp [List.set_cons_zero]
 | b::r,x+1,h,e=>by
  have h:x+1<r.length+1:=h;have ih:=Fj r x (by omega) e;simp only [List.set_cons_succ,mm];omega
theorem TS(L:List Bool)(x:Nat)(h:x<L.length)(e:L[x]=true):L.set x true=L:=by
 apply gj (by simp);intro i h1 h2;rw [List.getElem_set]
 split
 ·rename_i h3;subst h3;exact e.symm
 rfl
theorem RC(n:Int)(A D:ai)(cA N m cD:Nat)(Af:ai)(nf cf:Nat)(rs:List aH)(fl:ag)(w:aa)(hF:bu w Af nf rs fl)(hN:N<=500)(hr:∀l∈fl,l.length<=1000/\∀x∈l,0<=x/\x< (N:Int))(CT:nf<=100000):
 aG prog 111 [.agg #[aj n,.slice A N cA,.slice D m cD],.slice Af nf cf] w (fun v w'=>∃b:Bool,v= .bool b/\(b=true↔∀x:Int,0<=x->x< (N:Int)->∃l∈fl,x∈l)/\St w w' []):=by
 have eC:=hF.len;refine bs func111 O ntmps111 O (bF O) (aY O (nh (St.refl w) O O ?_));intro A1 w1 aD;have h1:Rd w1 A1 3 (fun j=> [Value.int .i64 n,.slice A N cA,.slice D m cD].getD j undef):=aD.rd 0 O;refine aq O (aT h1 O (a7 h1 O (aR O O (pD (v:=false) N aD O O (by omega) ?_))));intro A5 w2 ay;have ay:St w w2 [dC 4 A5 N N (fG (iG N) (fl.take 0).flatten),bD A1 n A N cA D m cD]:=ay;refine aA O ?_;refine Cd.loop (α:=Nat×Nat) (fun z=> [(1,.slice Af nf cf),(2,.pointer A1),(5,.slice A5 N N),(6,aj (z.2:Int)),(7,aj (z.1:Int))]) (fun z w'=>z.1<=nf/\z.2+ (fG (iG N) (fl.take z.1).flatten).count false=N/\St w w' [dC 4 A5 N N (fG (iG N) (fl.take z.1).flatten),bD A1 n A N cA D m cD]) (fun z=>nf - z.1) (0,0) (Wn O) ⟨bk _,by simp [fG,iG],ay⟩ ?_;clear ay aD h1;rintro⟨i,k⟩ e w3 ⟨hi,hk,hS⟩;dsimp only at hi hk hS|-;refine aY O (aR O O (aA O ?_));refine aJ _ O (fun h2=>?_) (fun h2=>?_)
 ·have sL:i<fl.length:=by omega
  have gC:gl fl i∈fl:=by rw [cQ sL];exact di _
  have dt:=hr _ gC;have eM:=((hS.bE hF).at_ (i:=(i:Int)) (by omega) (by omega)).1;refine cj O ?_;refine Cd.loop (α:=Nat×Nat) (fun z=> [(1,.slice Af nf cf),(2,.pointer A1),(5,.slice A5 N N),(6,aj (z.2:Int)),(7,aj i),(8,aj (z.1:Int))]) (fun z w'=>z.1<=(rg rs i).n/\z.2+ (fG (iG N) ((fl.take i).flatten++ (gl fl i).take z.1)).count false=N/\St w w' [dC 4 A5 N N (fG (iG N) ((fl.take i).flatten++ (gl fl i).take z.1)),bD A1 n A N cA D m cD]) (fun z=> (rg rs i).n - z.1) (0,k) (Wn O) ⟨bk _,by rw [List.take_zero,eG];exact hk,by rw [List.take_zero,eG];exact hS⟩ ?_;clear hS hk;rintro⟨j,k⟩ e w4 ⟨hj,hk,hS⟩;dsimp only at hj hk hS|-;have hM:=hS.bE hF;have eQ:=hM.at_ (i:=(i:Int)) (by omega) (by omega);have qg:=D1 N ((fl.take i).flatten++ (gl fl i).take j);refine aY O (aw hM.top.2 O (bn hM.top O ?_));refine aR O O (aA O ?_);refine aJ _ O (fun h3=>?_) (fun h3=>?_)
  ·have iL:j< (gl fl i).length:=by omega
   have hx:=dt.2 _ (gi_in iL);obtain⟨x,s5⟩:∃x:Nat,gi (gl fl i) j=x:=⟨(gi (gl fl i) j).toNat,by omega⟩;have eE:fG (iG N) ((fl.take i).flatten++ (gl fl i).take (j+1))=(fG (iG N) ((fl.take i).flatten++ (gl fl i).take j)).set x true:=by
    rw [zr iL,<-fB,Jw,s5,eH]
   rw [s5]at hx;generalize fG (iG N) ((fl.take i).flatten++ (gl fl i).take j)=L at*;have O2:=Nc (L:=L) (x:=x) (by omega);have lU:=Fj L x (by omega);have wv:=TS L x (by omega);rw [<-O2]at lU wv;refine aC O (aw hM.top.2 O (bn hM.top O (aq O (aw eQ.2 O (a6 eQ O ?_)))));rw [s5];refine aw (hS.fm 0 O).2 O (lh (hS.fm 0 O) O (by omega) O O ?_);generalize hbb:gb L x=bb at*;cases bb with
   | false => --dup 2
    have lU:=lU O
    first | refine dv rfl rfl ?_ | refine eJ rfl rfl ?_
    refine aA O (Cd.eP O (aC O (aw hM.top.2 O (bn hM.top O (aq O (aw eQ.2 O (a6 eQ O ?_)))))));rw [s5];refine aw (hS.fm 0 O).2 O (mw 0 hS O O O (by omega) ?_);intro w5 aV;rw [eH]at aV;refine aq O (aI O (aq O (aI O (aM O (tQ ?_)))));exact⟨(j+1,k+1),by show(rg rs i).n - (j+1)< (rg rs i).n - j;omega,(Wn O),by show j+1<=_;omega,by show k+1+_=N;rw [eE];omega,by show St w w5 [dC _ A5 N N (fG _ _),_];rw [eE];exact aV⟩
   | true=>
    have wv:=wv O
    first | refine dv rfl rfl ?_ | refine eJ rfl rfl ?_
    refine aA O (Cd.dO O ?_);refine aC O (aI O (aM O (tQ ?_)));exact⟨(j+1,k),by show(rg rs i).n - (j+1)< (rg rs i).n - j;omega,(Wn O),by show j+1<=_;omega,by show k+_=N;rw [eE,wv];exact hk,by show St w w4 [dC _ A5 N N (fG _ _),_];rw [eE,wv];exact hS⟩
  ·have pX:fG (iG N) ((fl.take i).flatten++ (gl fl i).take j)=fG (iG N) (fl.take (i+1)).flatten:=by
    rw [show(gl fl i).take j=gl fl i from eI (by omega),gk sL,List.flatten_append,<-cQ sL];simp
   rw [pX]at hk hS;refine bj O (bl (cn O (aI O (aM O (tQ ?_)))));exact⟨(i+1,k),by show nf - (i+1)<nf - i;omega,(Wn O),by show i+1<=nf;omega,hk,hS⟩
 ·have cd:i=fl.length:=by omega
  rw [cd,List.take_length]at hS hk;have CW:=Jm (m:=N) (F:=fl) (fun l hl=> (hr l hl).2);have h1:Rd w3 A1 3 (fun j=> [Value.int .i64 n,.slice A N cA,.slice D m cD].getD j undef):=hS.rd 1 O;refine bj O (bl (cn O ?_));refine aT h1 O (a7 h1 O ?_);refine aR O O (bW O ?_);refine bG O ⟨_,O,?_,hS.none⟩;rw [<-CW,<-List.count_eq_zero,jj];omega
def nq(a b:ah)(i:Nat):Nat:=((List.range i).filter fun k:Nat=>decide (gi a k≠gi b k)).length
theorem Mw(a b:ah)(i:Nat):nq a b (i+1)=if gi a i≠gi b i then nq a b i+1 else nq a b i:=by
 unfold nq;rw [lg,mn,dS]
 by_cases c:gi a i≠gi b i
 ·rw [aF c];simp [c]
 rw [aB c];simp [c]
theorem Mv(a b:ah)(i:Nat):nq a b i<=i:=by
 refine gm (jN _ _) ?_;rw [n3];exact cO _
theorem Rs(A A2:ai)(n c m c2:Nat)(a b:ah)(w:aa)(hA:bS w A n a)(hB:bS w A2 m b)(hm:m=n)(hn:n<=1000):
 aG prog 231 [.slice A n c,.slice A2 m c2] w (fun v w'=>v=aj ((nq a b n:Nat):Int)/\St w w' []):=by
 have ha:=hA.1;have hb:=hB.1;refine bs func231 O ntmps231 O (bF O) (bH O ?_);refine Cd.loop (α:=Nat) (fun i=> [(0,.slice A n c),(1,.slice A2 m c2),(5,aj ((nq a b i:Nat):Int)),(6,aj i)]) (fun i w'=>i<=n/\St w w' []) (fun i=>n - i) 0 (Wn O) ⟨bk _,St.refl w⟩ ?_;rintro i e w2 ⟨hi,hS⟩;have yh:=Mv a b i;have iF:=Mw a b i;have Gi:=hS.dh hA;have gr:=hS.dh hB;refine aY O (aR O O (aA O ?_));refine aJ _ O (fun h2=>?_) (fun h2=>?_)
 ·refine cj O (cN [xS (A) (n) (c),xI ((i:Int)),xP (az (A) ((i:Int)).toNat),xI (gi (a) ((i:Int))),xS (A2) (m) (c2),xI ((i:Int)),xP (az (A2) ((i:Int)).toNat),xI (gi (b) ((i:Int))),xB (decide (¬(gi (a) ((i:Int)))=(gi (b) ((i:Int)))))] O (da O) ?_ ?_)
  ·exact⟨Dr O,Dr O,fun _ _ hb _ _=>aw (Gi.ao hb).2 O Az,fun _ _ hb _ _=>a6 (Gi.ao hb) O Az,Dr O,Dr O,fun _ _ hb _ _=>aw (gr.ao hb).2 O Az,fun _ _ hb _ _=>a6 (gr.ao hb) O Az,Dr O,av⟩
  intro u w3 dZ _;have aL:=hS.ao dZ;refine dM O (aJ _ O (fun h3=>?_) (fun h3=>?_))
  ·rw [aF h3]at iF;refine aC O (aI O (aq O (aI O (aM O (tQ ?_)))));exact⟨i+1,by show n - (i+1)<n - i;omega,⟨O,O,aS (fun m:Nat=>Value.int .i64 (m:Int)) iF.symm,O,av⟩,by omega,aL⟩
  rw [aB h3]at iF;refine aC O (aI O (aM O (tQ ?_)));exact⟨i+1,by show n - (i+1)<n - i;omega,⟨O,O,aS (fun m:Nat=>Value.int .i64 (m:Int)) iF.symm,O,av⟩,by omega,aL⟩
 obtain rfl:i=n:=by omega
 refine bj O (bl (dd O ?_));exact eF O ⟨O,hS⟩
end
end Go.Proofs.YtagdamiiececaaaGreatDoor.Vc
