/-
 Lemmas. Conditions: as each states them.
-/
import Derived.Test.YtopgfgdgfjddpaaGreatDoorZf
import Derived.Lib.ItoaLen
import Derived.Test.YtopgfgdgfjddpaaGreatDoorLayd
import Derived.Shelf.Strconv.AppendIntPublic10
set_option maxHeartbeats 8000000
namespace Go.Proofs.YtopgfgdgfjddpaaGreatDoor.Vc
open Tryz
section
open Go.RowKit
variable{w w':aa}
def mc(xs:ai):List UInt8:=xs.flatMap fun x=>Lib.itoa x++ [32]
def rZ(xs:ai):ByteArray:=⟨(mc xs).toArray⟩
def O6(l:List UInt8):Nat:=l.foldl (fun a b=>10*a+ (b.toNat - 48)) 0
theorem J2{d:Nat}(h:d<10):(UInt8.ofNat (48+d)).toNat=48+d:=by
 rw [UInt8.toNat_ofNat'];omega
theorem EZ:∀u:Nat,O6 (Lib.decDigits u)=u/\∀b∈Lib.decDigits u,48<=b.toNat/\b.toNat<=57:=by
 intro u
 induction u using Nat.strongRecOn with
 | ind u ih=>
  rw [Lib.decDigits]
  split
  ·rename_i h;refine⟨?_,fun b hb=>?_⟩
   ·simp only [O6,List.foldl_cons,List.foldl_nil,J2 h];omega
   ·simp only [fm]at hb;subst hb;rw [J2 h];omega
  ·rename_i h;obtain⟨h1,h2⟩:=ih (u / 10) (by omega);refine⟨?_,fun b hb=>?_⟩
   ·unfold O6 at h1|-;rw [List.foldl_append,h1];simp only [List.foldl_cons,List.foldl_nil,J2 (show u%10<10 by omega)];omega
   ·rcases iR.1 hb with hb | hb
    ·exact h2 b hb
    ·simp only [fm]at hb;subst hb;rw [J2 (by omega)];omega
theorem QO{u v:Nat}(h:Lib.decDigits u=Lib.decDigits v):u=v:=by rw [<-(EZ u).1,h,(EZ v).1]
theorem UO{x:Int}:∀b∈Lib.itoa x,b≠32:=by
 intro b hb e;subst e;unfold Lib.itoa at hb
 split at hb
 ·rcases jn.1 hb with h | h
  ·exact absurd h (by decide)
  have:=(EZ _).2 _ h;exact absurd this (by decide)
 have:=(EZ _).2 _ hb;exact absurd this (by decide)
theorem aeH{x y:Int}(h:Lib.itoa x=Lib.itoa y):x=y:=by
 have VL:∀(u v:Nat),45::Lib.decDigits u≠Lib.decDigits v:=fun u v e=>by
  have:=(EZ v).2 45 (by rw [<-e];simp);exact absurd this (by decide)
 unfold Lib.itoa at h
 split at h<;>split at h
 ·simp only [List.cons.injEq,true_and]at h;have:=QO h;omega
 ·exact absurd h (VL _ _)
 ·exact absurd h.symm (VL _ _)
 have:=QO h;omega
theorem WQ:∀ {a b r s:List UInt8},(∀x∈a,x≠32)->(∀x∈b,x≠32)->a++32::r=b++32::s->a=b/\r=s
 | [],[],_,_,_,_,h=>by simpa using h
 | [],y::b,_,_,_,hb,h=>by
  simp only [List.nil_append,List.cons_append,List.cons.injEq]at h;exact absurd h.1.symm (hb y (by simp))
 | x::a,[],_,_,ha,_,h=>by
  simp only [List.nil_append,List.cons_append,List.cons.injEq]at h;exact absurd h.1 (ha x (by simp))
 | x::a,y::b,_,_,ha,hb,h=>by
  simp only [List.cons_append,List.cons.injEq]at h;obtain⟨h1,h2⟩:=WQ (fun z hz=>ha z (by simp [hz])) (fun z hz=>hb z (by simp [hz])) h.2;exact⟨by rw [h.1,h1],h2⟩
theorem Gy(x:Int)(xs:ai):mc (x::xs)=Lib.itoa x++32::mc xs:=by simp [mc]
theorem ae4(xs:ai)(x:Int):mc (xs++ [x])=(mc xs++Lib.itoa x)++ [32]:=by simp [mc]
theorem US:∀ {xs ys:ai},mc xs=mc ys->xs=ys
 | [],[],_=>rfl
 | [],y::ys,h=>by rw [Gy]at h;simp [mc]at h
 | x::xs,[],h=>by rw [Gy]at h;simp [mc]at h
 | x::xs,y::ys,h=>by
  rw [Gy,Gy]at h;obtain⟨h1,h2⟩:=WQ UO UO h;rw [aeH h1,US h2]
theorem UR{xs ys:ai}(h:rZ xs=rZ ys):xs=ys:=by
 have h1:(mc xs).toArray=(mc ys).toArray:=aK ByteArray.data h;exact US (by simpa using h1)
theorem fold_push:∀(l:List UInt8) (s:ByteArray),(l.map fun b=> ((b.toNat:Nat):Int)).foldl (fun r n=>r.push (UInt8.ofNat n.toNat)) s=⟨s.data++l.toArray⟩
 | [],s=>by simp
 | b::l,s=>by
  simp only [List.map_cons,List.foldl_cons];rw [fold_push l];have e:UInt8.ofNat ((b.toNat:Nat):Int).toNat=b:=by simp
  rw [e];have e2:(s.push b).data=s.data.push b:=O;rw [e2]
  congr 1
  apply Array.ext';simp
def na(w : aa): Prop := Lib.TabIs prog w "internal/strconv.uint64pow10" .u64 Lib.pow10Tab
theorem na.aq(h:na w)(hb:Below w.heap.size w w'):na w':=Lib.tabBelow_of_tabIs h w' hb.toBelow
def wo(B:Nat)(w:aa)(A:aj)(m c:Nat)(l:List UInt8):Prop:=w.ownsRow B 5 1 (.slice A m c) m (Lib.byteCells l)
theorem VQ{B m:Nat}{v:ad}{xs:List ad}(h:w.ownsRow B 5 1 v m xs):∃A c,v= .slice A m c:=by
 rcases h.2 with⟨rfl,rfl⟩ | ⟨g,cap,cur,rfl,_⟩
 ·exact⟨_,_,O⟩
 exact⟨_,_,O⟩
theorem wo.aq{B:Nat}{A:aj}{m c:Nat}{l:List UInt8}(h:wo B w A m c l)(hb:Below w.heap.size w w'):wo B w' A m c l:=by
 refine⟨h.1,?_⟩;rcases h.2 with h1 | ⟨g,cap,cur,h1,h2,h3,r⟩
 ·exact .inl h1
 exact .inr ⟨g,cap,cur,h1,h2,by rw [hb.block g (Array.getElem?_eq_some_iff.1 h3).1];exact h3,r⟩
section
variable {N:Nat} {ops:Array Oper} {K:Env->aa->Prop} {rest:List Oper} {e:Env} {w0 w w':aa} {ks:List Ck} {d:Nat} {ty:ae} {pos:String} {af:Array Edge}
theorem X0{B m c:Nat}{A:aj}{l:List UInt8}{A1:aj}{b:UInt8}{x y:ag}(hO:wo B w A m c l)(hB:B<=w.heap.size)(hR:Rd w A1 1 (fun _=> .int .u8 (b.toNat:Nat)))(hx:ev e x= .slice A m c)(hy:ev e y= .slice A1 1 1)(hm:m<=1000000000)(hb:Nat.blt d N=true)
 (hK:∀A2 c2 w',Go.RowKit.Below B w w'->wo B w' A2 (m+1) c2 (l++ [b])->ao prog N ops K rest (bG e d (.slice A2 (m+1) c2)) w'):
 ao prog N ops K (⟨some d,.call ⟨.builtin .append, #[x,y], #[30,30]⟩,ty,pos,af,none⟩::rest) e w:=by
 obtain⟨inf,hi,fS,hs,jv⟩:=bR.get prog 5;obtain⟨p,hp,hc⟩:=hR 0 (by omega);obtain⟨a,rfl⟩:∃a,A1=some a:=by cases A1 with | none=>simp [aB]at hp | some q=>exact⟨q,rfl⟩
 simp only [aB,Option.map_some,qo]at hp;obtain⟨v',w',hr,FF,hg,_⟩:=run_append_own (P:=prog) (w:=w) B 30 ty 5 inf (.int .u8 0) 1 1 underlying30 hi fS hs jv rfl (by decide) (.slice A m c) m (Lib.byteCells l) hO a 1 1 [.int .u8 (b.toNat:Nat)] rfl
  (fun j u hj=>by
    match j,hj with
    | 0,hj=>simp at hj;subst hj;rw [hp];exact hc) (fun u hu=>by simp at hu;subst hu;rfl) (by simp only [maxLen];omega) (by omega) hB
 obtain⟨A2,c2,rfl⟩:=VQ FF;refine .val (w':=w') ?_ hb (hK A2 c2 w' ?_ ?_)
 ·simp [execOp,resolve,invoke,builtin,hx,hy,hr]
 ·exact(Go.RowKit.Below.refl B w).grown hg hB (fun k hk=> (hO.lt k hk).1)
 ·show w'.ownsRow B 5 1 (.slice A2 (m+1) c2) (m+1) (Lib.byteCells (l++ [b]));rw [show Lib.byteCells (l++ [b])=Lib.byteCells l++ [.int .u8 (b.toNat:Nat)] by simp [Lib.byteCells]];exact FF
theorem Ya{B m c:Nat}{A:aj}{l:List UInt8}{x:ag}(hO:wo B w A m c l)(hx:ev e x= .slice A m c)(hb:Nat.blt d N=true)(hK:ao prog N ops K rest (bG e d (.string ⟨l.toArray⟩)) w):
 ao prog N ops K (⟨some d,.convert 30 9 x,ty,pos,af,none⟩::rest) e w:=by
 have hr:(Conv.bytesToString (.slice A m c)).run prog w= .ok (.string ⟨l.toArray⟩) w:=by
  have hl:(Lib.byteCells l).length=m*1:=hO.1;rcases hO.2 with⟨h1,h2⟩ | ⟨g,cap,cur,h1,_⟩
  ·simp only [Value.slice.injEq]at h1;obtain⟨rfl,rfl,rfl⟩:=h1;have:l=[]:=uq (by rw [Lib.byteCells_length]at hl;omega);subst this
   rfl
  simp only [Value.slice.injEq]at h1;obtain⟨rfl,_,rfl⟩:=h1;have h2:=hO.cells (g:=g) O;have h3:=run_loadCells_list (P:=prog) (w:=w) (⟨g,0,none⟩:Addr) (Lib.byteCells l) h2;rw [hl,Nat.mul_one]at h3;have e1:Lib.byteCells l=(l.map fun b=> ((b.toNat:Nat):Int)).map (Value.int .u8):=by simp [Lib.byteCells]
  rw [e1]at h3;rw [run_bytesToString w _ m c _ h3,fold_push];simp
 refine .val (w':=w) ?_ hb hK;simp [execOp,hx,convert,run_underlying underlying30,run_underlying underlying9,run_underlying underlying5,hr]
end
theorem XE{B m c : Nat}{A : aj}{l : List UInt8}(x : Int)(w : aa)(hx : -9223372036854775808 <= x /\ x <= 9223372036854775807)(hO : wo B w A m c l)(hB : B <= w.heap.size)(hm : m <= 1000000000)(hT : Lib.TabBelow prog B w "internal/strconv.uint64pow10" .u64 Lib.pow10Tab):
 aN prog 212 [.slice A m c,ak x,ak 10] w (fun v w'=>∃A' c',v= .slice A' (m+ (Lib.itoa x).length) c'/\wo B w' A' (m+ (Lib.itoa x).length) c' (l++Lib.itoa x)/\Go.RowKit.Below B w w'):=by
 have key:=Any.strconv_AppendInt_10 lai B m x hx.1 hx.2 (.slice A m c) (Lib.byteCells l) w hO hB (by omega) hT;refine Calls.mono key fun y w' ⟨v',hy,FF,hb,_⟩=> ⟨_,hy,?_⟩
 obtain⟨A2,c2,rfl⟩:=VQ FF;refine⟨A2,c2,O,?_,hb⟩;show w'.ownsRow B 5 1 (.slice A2 _ c2) _ (Lib.byteCells (l++Lib.itoa x));rw [Lib.byteCells_append];exact FF
theorem UP(x:Int)(hx: -9223372036854775808<=x/\x<=9223372036854775807):(Lib.itoa x).length<=21:=Lib.itoa_length_le x hx.1 hx.2
theorem UT:∀(xs:ai),(∀x∈xs,-9223372036854775808<=x/\x<=9223372036854775807)->(mc xs).length<=22*xs.length
 | [],_=>by simp [mc]
 | x::xs,h=>by
  have h1:=UP x (h x (by simp));have h2:=UT xs fun y hy=>h y (by simp [hy])
  rw [Gy];simp only [dI,List.length_cons];omega
theorem NI(A:aj)(n c:Nat)(xs:ai)(w:aa)(hT:na w)(hR:di w A n xs)(hx:∀x∈xs,-9223372036854775808<=x/\x<=9223372036854775807)(hn:n<=1000000):
 aN prog 154 [.slice A n c] w (fun v w'=>v= .string (rZ xs)/\St w w' []):=by
 have dG:=hR.1;refine bI func154 O ntmps154 O (du O) ?_;refine bc O (bk O O (aI O ?_));refine Cd.loop (α:=Nat×aj×Nat) (fun s=> [(3,.slice s.2.1 (mc (xs.take s.1)).length s.2.2),(6,.slice A n c),(7,ak n),(8,ak (s.1:Int))]) (fun s w'=>wo w.heap.size w' s.2.1 (mc (xs.take s.1)).length s.2.2 (mc (xs.take s.1))/\Go.RowKit.Below w.heap.size w w'/\s.1<=n) (fun s=>n - s.1) (0,none,0) (alH O) ⟨World.ownsRow_nil w _ _ _,Go.RowKit.Below.refl _ _,bm _⟩ ?_;rintro⟨i,A3,c3⟩ e w1 ⟨hO,df,hi⟩;dsimp only at hO df hi|-;refine b8 O (aR _ O (fun h1=>?_) (fun h1=>?_))
 ·have dt:i<xs.length:=by omega
  have kC : di w1 A n xs := hR.aq ⟨df, fun s => s.elim⟩;have BF : Lib.TabBelow prog w.heap.size w1 "internal/strconv.uint64pow10" .u64 Lib.pow10Tab := (Lib.tabBelow_of_tabIs hT).on df
  have gw:=hx _ (gi_in dt);have zS:=UT (xs.take i) fun x hm=>hx x (List.mem_of_mem_take hm)
  have sM:=UP _ gw;rw [qF]at zS;have nN:=df.size;have DV:mc (xs.take (i+1))=(mc (xs.take i)++Lib.itoa (gi xs i))++ [32]:=by rw [yR dt,ae4]
  refine aG O (aF kC.2 O (bh kC O (ar O (aL (XE (gi xs i) _ gw hO nN (by omega) BF) O ?_))));rintro _ w2 ⟨A4,c4,rfl,hO2,eC⟩;have hsz2:=eC.size;refine ar O (ao.KH (St.refl w2) O O O O ?_);intro A5 w3 aM;have hO3:=hO2.aq aM.below;have ib:Go.RowKit.Below w.heap.size w2 w3:=aM.below.toBelow.mono (by omega);have hsz3:=ib.size;refine X0 (b:=32) hO3 (by omega) (aM.rd 0 rfl |>.congr fun j hj=>by obtain rfl:j=0:=by { have:j<1:=hj;omega };rfl) rfl rfl (by omega) rfl ?_;intro A6 c6 w4 lD Ix;refine ar O (aJ O (aT O (tQ ?_)));refine⟨(i+1,A6,c6),by show n - (i+1)<n - i;omega,⟨?_,O,O,O,av⟩,?_,((df.trans eC).trans ib).trans lD,by show i+1<=n;omega⟩
  ·show Value.slice _ _ _= .slice _ _ _;rw [DV];simp [Nat.add_assoc]
  show wo _ w4 A6 (mc (xs.take (i+1))).length c6 (mc (xs.take (i+1)));rw [DV];have e1:((mc (xs.take i)++Lib.itoa (gi xs i))++ [32]).length=(mc (xs.take i)).length+ (Lib.itoa (gi xs i)).length+1:=by simp;omega
  rw [e1];exact Ix
 have db:i=xs.length:=by omega
 subst db;rw [List.take_length]at hO;refine bw O (bA (dh O ?_));refine Ya hO (by show Value.slice _ _ _= .slice _ _ _;rw [List.take_length]) O ?_;refine bM O (JN O ?_);exact⟨rfl,⟨⟨df,fun s=>s.elim⟩,fun k hk=> (by cases hk),List.nodup_nil⟩⟩
end
section
open Go.RowKit Go.MapKept
section
variable {κ ν:Type} [DecidableEq κ]
def kQ:List (κ×ν)->κ->List (κ×ν)
 | [],_=> []
 | (y,v)::r,x=>if y=x then r else(y,v)::kQ r x
theorem QQ:∀ {L:List (κ×ν)} {x:κ} {j:Nat} {v:ν},pI L x=some (j,v)->kQ L x=L.eraseIdx j
 | (y,w)::r,x,j,v,h=>by
  simp only [pI]at h
  split at h
  ·rename_i e;simp only [qo,Prod.mk.injEq]at h;obtain⟨rfl,rfl⟩:=h;simp only [kQ,ay e,List.eraseIdx_zero,List.tail_cons]
  ·rename_i e;cases hf:pI r x with
   | none=>simp [hf]at h
   | some p=>
    simp only [hf,Option.map_some,qo,Prod.mk.injEq]at h;obtain⟨rfl,rfl⟩:=h;simp only [kQ,aw e,List.eraseIdx_cons_succ,QQ (L:=r) (x:=x) (j:=p.1) (v:=p.2) hf]
theorem QP:∀ {L:List (κ×ν)} {x:κ},pI L x=none->kQ L x=L
 | [],_,_=>rfl
 | (y,w)::r,x,h=>by
  simp only [pI]at h
  split at h
  ·cases h
  ·rename_i e;rw [Option.map_eq_none_iff]at h;simp only [kQ,aw e,QP h]
theorem KY:∀(L:List (κ×ν)) (x:κ),(kQ L x).Sublist L
 | [],_=> .slnil
 | (y,v)::r,x=>by
  simp only [kQ]
  split
  ·exact(fE _).cons _
  ·exact(KY r x).cons_cons _
theorem RR:∀ {L:List (κ×ν)} {x:κ},x∉L.map (·.1)->gy L x=none
 | [],_,_=>rfl
 | (y,v)::r,x,h=>by
  simp only [List.map_cons,jn,not_or]at h;simp only [gy,aw (fun e:y=x=>h.1 e.symm),RR h.2]
theorem RQ:∀ {L:List (κ×ν)} {x y:κ},(L.map (·.1)).Nodup->gy (kQ L x) y=if x=y then none else gy L y
 | [],x,y,_=>by simp [kQ,gy]
 | (z,v)::r,x,y,h=>by
  simp only [List.map_cons,oS]at h;simp only [kQ]
  split
  ·rename_i e;subst e
   split
   ·rename_i e;subst e;exact RR h.1
   ·rename_i e;simp only [gy,aw e]
  ·rename_i e;simp only [gy,RQ (L:=r) (x:=x) (y:=y) h.2]
   by_cases e2:z=y
   ·subst e2;rw [ay rfl,aw (fun q=>e q.symm),ay rfl]
   ·rw [aw e2,aw e2]
theorem ahK(L:List (κ×ν))(x:κ)(u:ν):∀y,y∈(km L x u).map (·.1)↔y=x\/y∈L.map (·.1):=by
 induction L with
 | nil=>intro y;simp [km]
 | cons p r ih=>
  obtain⟨z,w⟩:=p;intro y;simp only [km]
  split
  ·rename_i e;subst e;simp
  ·simp only [List.map_cons,jn,ih];exact⟨fun h=>by rcases h with h | h | h<;>simp [h],fun h=>by rcases h with h | h | h<;>simp [h]⟩
theorem Wl:∀ {L:List (κ×ν)} {x:κ} {u:ν},(L.map (·.1)).Nodup->((km L x u).map (·.1)).Nodup
 | [],x,u,_=>by simp [km]
 | (z,v)::r,x,u,h=>by
  simp only [List.map_cons,oS]at h;simp only [km]
  split
  ·rename_i e;subst e;simp only [List.map_cons,oS];exact h
  ·rename_i e;simp only [List.map_cons,oS];refine⟨fun hm=>?_,Wl h.2⟩;rcases(ahK r x u z).1 hm with h1 | h1
   ·exact e h1
   ·exact h.1 h1
theorem Z9{L:List (κ×ν)}{x:κ}(h:(L.map (·.1)).Nodup):((kQ L x).map (·.1)).Nodup:=h.sublist ((KY L x).map _)
theorem ahM(L:List (κ×ν))(x:κ)(u:ν):(km L x u).Perm ((x,u)::kQ L x):=by
 induction L with
 | nil=>exact .refl _
 | cons p r ih=>
  obtain⟨z,w⟩:=p;simp only [km,kQ]
  split
  ·rename_i e;exact .refl _
  ·exact(ih.cons _).trans (.swap _ _ _)
theorem RV:∀ {L:List (κ×ν)} {x:κ} {u:ν},gy L x=some u->L.Perm ((x,u)::kQ L x)
 | (z,w)::r,x,u,h=>by
  simp only [gy]at h;simp only [kQ]
  split at h
  ·rename_i e;subst e;injection h with h
   subst h;rw [ay rfl]
  ·rename_i e;rw [aw e];exact((RV h).cons _).trans (.swap _ _ _)
theorem Lv:∀ {L:List (κ×ν)} {x:κ},gy L x=none->kQ L x=L
 | [],_,_=>rfl
 | (z,w)::r,x,h=>by
  simp only [gy]at h;simp only [kQ]
  split at h
  ·cases h
  ·rename_i e;rw [aw e,Lv h]
end
section
variable {P:Program} {N:Nat} {ops:Array Oper} {K:Env->aa->Prop} {rest:List Oper} {e:Env} {w0 w w':aa} {ks:List Ck} {d:Nat} {ty:ae} {pos:String} {af:Array Edge}
variable {κ ν:Type} [DecidableEq κ] {kd:TypeDesc} {kv:κ->ad} {vv:ν->ad}
theorem K8{α β:Type}(f:α->β):∀(l:List α) (j:Nat),(l.eraseIdx j).map f=(l.map f).eraseIdx j
 | [],_=>rfl
 | _::_,0=>rfl
 | a::r,j+1=>by simp only [List.eraseIdx_cons_succ,List.map_cons,K8 f r j]
theorem aiv{t kt et T:ae}[hU:bV P t (.map kt et)][hk:bV P kt kd](KT:vc kd kv){g:Nat}{L:List (κ×ν)}(i:Nat)(x:κ)(Jp:ae)(hS:St w0 w ks)(hi:ks[i]?=some (lZ T g (kJ kv vv L))):
 ∃w',(Builtin.delete_ #[t,Jp] ty #[.map (some g),kv x]).run P w= .ok (.tuple #[]) w'/\St w0 w' (ks.set i (lZ T g (kJ kv vv (kQ L x)))):=by
 obtain⟨_,es,cl,hh,hm⟩:=hS.JE i hi;have hf:=HX (vv:=vv) KT x es.toList L 0 hm;have yd:=MapKept.run_findKey (P:=P) (w:=w) hk.out hf;cases mH:pI L x with
 | none=>
  refine⟨{ w with heap:=w.heap.setIfInBounds g (.map es cl) },?_,hS.J1 hi ?_⟩
  ·simp [Builtin.delete_,run_underlying hU.out,MapKept.run_getObj_map hh,MapKept.run_checkKey hk.out (KT.isKey x),yd,mH,MapKept.run_setObj_map _ hh,Result.andThen]
  ·rw [QP mH];exact hm
 | some p=>
  obtain⟨j,v⟩:=p;refine⟨{ w with heap:=w.heap.setIfInBounds g (.map (es.eraseIdxIfInBounds j) cl) },?_,hS.J1 hi ?_⟩
  ·simp [Builtin.delete_,run_underlying hU.out,MapKept.run_getObj_map hh,MapKept.run_checkKey hk.out (KT.isKey x),yd,mH,MapKept.run_setObj_map _ hh,Result.andThen]
  ·rw [QQ mH];have e1:(es.eraseIdxIfInBounds j).toList=es.toList.eraseIdx j:=by
    unfold Array.eraseIdxIfInBounds
    split
    ·rw [Array.toList_eraseIdx]
    ·rename_i h;rw [List.eraseIdx_of_length_le (by simpa using h)]
   rw [e1,K8,hm];unfold kJ;rw [K8]
theorem Yc{t kt et T Jp:ae}{m k:ag}[hU:bV P t (.map kt et)][bV P kt kd](KT:vc kd kv){g:Nat}{L:List (κ×ν)}(i:Nat){a:κ}(hS:St w0 w ks)(hi:ks[i]?=some (lZ T g (kJ kv vv L)))(hm:ev e m= .map (some g))(hk:ev e k=kv a)(hK:∀w',St w0 w' (ks.set i (lZ T g (kJ kv vv (kQ L a))))->ao P N ops K rest e w'):ao P N ops K (⟨none,.call ⟨.builtin .delete, #[m,k], #[t,Jp]⟩,ty,pos,af,none⟩::rest) e w:=by
 obtain⟨w',vR,o9⟩:=aiv (P:=P) (t:=t) (ty:=ty) KT i a Jp hS hi;refine .ajq (w':=w') (v:= .tuple #[]) ?_ (hK _ o9);simp [execOp,resolve,invoke,builtin,hm,hk,vR]
end
section
variable {P:Program} {N:Nat} {ops:Array Oper} {K:Env->aa->Prop} {rest:List Oper} {e:Env} {w0 w w':aa} {ks:List Ck} {d:Nat} {ty:ae} {pos:String} {af:Array Edge}
theorem Yj{κ ν:Type}[DecidableEq κ]{kd:TypeDesc}{kv:κ->ad}{vv:ν->ad}{t kt et:ae}{z v:ad}{s b:Nat}[bV P t (.map kt et)][bV P kt kd][bR P et z s b](KT:vc kd kv){g:Nat}{L:List (κ×ν)}{m ix:ag}{x:κ}(hR:CR w g (kJ kv vv L))(hx:ev e m= .map (some g))(hy:ev e ix=kv x)(hv:((gy L x).map vv).getD z=v)(hb:Nat.blt d N=true)(hK:ao P N ops K rest (bG e d (.tuple #[v,.bool (gy L x).isSome])) w):ao P N ops K (⟨some d,.lookup t m ix true,ty,pos,af,none⟩::rest) e w:=by
 subst hv;refine .val (w':=w) ?_ hb hK;have:=OK (P:=P) (t:=t) (x:=x) KT hR true;simp [execOp,hx,hy,this]
end
def yv(l:ai):ad:= .string (rZ l)
theorem D1:vc .string yv:=⟨fun _=>av,fun a b h=>UR (by injection h)⟩
abbrev ob:=ai×aQ×ai
def D8(u:aQ×ai):ad:=u.1.v
def qC(t:ae)(M:List ob):List Ck:=M.map fun p=>az t p.2.1.a p.2.1.n p.2.1.c p.2.2
def jE(M:List ob)(x:ai):aQ:=((gy M x).map (·.1)).getD eA
def kg(M:List ob)(x:ai):ai:=((gy M x).map (·.2)).getD []
section
variable {w0 w w':aa} {ks pre:List Ck} {t:ae} {M:List ob} {x:ai}
theorem Lz{u:aQ×ai}(h:gy M x=some u):jE M x=u.1/\kg M x=u.2:=by simp [jE,kg,h]
theorem R1(h:gy M x=none):jE M x=eA/\kg M x=[]:=by simp [jE,kg,h]
theorem St.WZ(h:St w0 w (pre++ (qC t M++ks))):St w0 w (az t (jE M x).a (jE M x).n (jE M x).c (kg M x)::(pre++ (qC t (kQ M x)++ks))):=by
 cases hg:gy M x with
 | none=>
  rw [(R1 hg).1,(R1 hg).2,Lv hg];exact h.nil t
 | some u=>
  rw [(Lz hg).1,(Lz hg).2];refine h.perm ?_;have h1:(qC t M).Perm (az t u.1.a u.1.n u.1.c u.2::qC t (kQ M x)):=(RV hg).map _;exact((h1.append_right ks).append_left pre).trans jc
theorem PX{u:aQ×ai}(h:St w0 w (az t u.1.a u.1.n u.1.c u.2::(pre++ (qC t (kQ M x)++ks)))):St w0 w (pre++ (qC t (km M x u)++ks)):=by
 refine h.perm ?_;have h1:(az t u.1.a u.1.n u.1.c u.2::qC t (kQ M x)).Perm (qC t (km M x u)):=((ahM M x u).map fun p:ob=>az t p.2.1.a p.2.1.n p.2.1.c p.2.2).symm;exact jc.symm.trans ((h1.append_right ks).append_left pre)
theorem Ko(h:St w0 w (pre++ (qC t M++ks))):di w (jE M x).a (jE M x).n (kg M x):=(h.WZ (x:=x)).bF 0 rfl
theorem Yu(h:St w0 w (pre++ (qC t M++ks))):St w0 w (pre++ (qC t (kQ M x)++ks)):=h.sub (((((KY M x).map _).append_right ks)).append_left pre)
end
end
section
variable{b i y j:Nat}{L L' L0 R x:ai}{fl:ah}{S:Nat->Prop}{Q:List Nat}
structure xC(N:Nat)(K:Nat->Nat->Prop):Prop where
 sym:∀a b,K a b->K b a
 xj:∀a b c,K a b->K b c->K a c
 dp:∀a b,K a b->a<N/\b<N
def jB(N:Nat)(K:Nat->Nat->Prop)(f:Nat)(L:ai):Prop:=
 L.length=N/\∀x:Nat,x<N->(0<=gi L x->∃r:Nat,gi L x=r/\r<f/\K r x/\∀c,K c x->r<=c)/\(gi L x<0->gi L x= -1/\∀c,c<f->¬K c x)
theorem jB.zero(N:Nat)(K:Nat->Nat->Prop):jB N K 0 (List.replicate N (-1)):=
 ⟨by simp,fun x hx=>by
  rw [zA (by omega) (by omega)];exact⟨fun h=>absurd h (by omega),fun _=> ⟨O,fun c hc=>absurd hc (by omega)⟩⟩⟩
theorem jB.skip{N:Nat}{K:Nat->Nat->Prop}(hK:xC N K){f:Nat}(h:jB N K f L)(hf:f<N)(h0:0<=gi L f\/¬K f f):jB N K (f+1) L:=by
 refine⟨h.1,fun x hx=> ⟨fun h1=>?_,fun h1=>?_⟩⟩
 ·obtain⟨r,h2,h3,h4⟩:=(h.2 x hx).1 h1;exact⟨r,h2,by omega,h4⟩
 obtain⟨h2,h3⟩:=(h.2 x hx).2 h1;refine⟨h2,fun c hc hk=>?_⟩
 by_cases e:c=f
 ·subst e;rcases h0 with h0 | h0
  ·obtain⟨r,h4,h5,h6,_⟩:=(h.2 c hf).1 h0;exact h3 r h5 (hK.xj _ _ _ h6 hk)
  exact h0 (hK.xj _ _ _ hk (hK.sym _ _ hk))
 exact h3 c (by omega) hk
theorem jB.pX{N:Nat}{K:Nat->Nat->Prop}(hK:xC N K){f:Nat}(h:jB N K f L)(hf:f<N)(h0:gi L f<0)(hl:L'.length=N)(hp:∀x:Nat,x<N->(K f x->gi L' x=f)/\(¬K f x->gi L' x=gi L x)):jB N K (f+1) L':=by
 refine⟨hl,fun x hx=>?_⟩;have h9:=(h.2 f hf).2 h0
 by_cases hk:K f x
 ·rw [(hp x hx).1 hk];refine⟨fun _=> ⟨f,O,by omega,hk,fun c hc=>?_⟩,fun h=>absurd h (by omega)⟩;refine Nat.le_of_not_lt fun gB=>h9.2 c gB (hK.xj _ _ _ hc (hK.sym _ _ hk))
 rw [(hp x hx).2 hk];refine⟨fun h1=>?_,fun h1=>?_⟩
 ·obtain⟨r,h2,h3,h4⟩:=(h.2 x hx).1 h1;exact⟨r,h2,by omega,h4⟩
 obtain⟨h2,h3⟩:=(h.2 x hx).2 h1;refine⟨h2,fun c hc gW=>?_⟩
 by_cases e:c=f
 ·subst e;exact hk gW
 exact h3 c (by omega) gW
theorem jB.done{N:Nat}{K:Nat->Nat->Prop}(hK:xC N K)(h:jB N K N L){a:Nat}(ha:K a a)(hb:K b b):gi L a=gi L b↔K a b:=by
 have get:∀x,K x x->∃r:Nat,gi L x=r/\K r x/\∀c,K c x->r<=c:=fun x hx=>by
  have Gq:=(hK.dp _ _ hx).1;rcases Int.lt_or_le (gi L x) 0 with h1 | h1
  ·exact absurd hx (((h.2 x Gq).2 h1).2 x Gq)
  obtain⟨r,h2,_,h4,h5⟩:=(h.2 x Gq).1 h1;exact⟨r,h2,h4,h5⟩
 obtain⟨r,h1,h2,h3⟩:=get a ha;obtain⟨s,h4,h5,h6⟩:=get b hb;rw [h1,h4];constructor
 ·intro e;obtain rfl:r=s:=by omega
  exact hK.xj _ _ _ (hK.sym _ _ h2) h5
 intro hk;have h7:=h3 s (hK.xj _ _ _ h5 (hK.sym _ _ hk));have h8:=h6 r (hK.xj _ _ _ h2 hk);omega
def jW(n:Nat)(fl:ah)(i a b:Nat):Prop:=a<fl.length/\b<fl.length/\∀k:Nat,k<n->k≠i->gi (gl fl a) k=gi (gl fl b) k
theorem jW.symm{n:Nat}{a:Nat}(h:jW n fl i a b):jW n fl i b a:=⟨h.2.1,h.1,fun k hk bt=> (h.2.2 k hk bt).symm⟩
inductive fo(n:Nat)(fl:ah)(S:Nat->Prop)(a:Nat):Nat->Prop where
 | refl:a<fl.length->fo n fl S a a
 | step {b c i:Nat}:fo n fl S a b->i<n->¬S i->jW n fl i b c->fo n fl S a c
theorem fo.trans{n:Nat}{a c:Nat}(h:fo n fl S a b)(h':fo n fl S b c):fo n fl S a c:=by
 induction h' with
 | refl=>exact h
 | step _ hi hs ha ih=>exact .step ih hi hs ha
theorem fo.dp{n:Nat}{a:Nat}(h:fo n fl S a b):a<fl.length/\b<fl.length:=by
 induction h with
 | refl h=>exact⟨h,h⟩
 | step _ _ _ ha ih=>exact⟨ih.1,ha.2.1⟩
theorem fo.symm{n:Nat}{a:Nat}(h:fo n fl S a b):fo n fl S b a:=by
 induction h with
 | refl h=>exact .refl h
 | step h hi hs ha ih=>exact(fo.step (.refl ha.2.1) hi hs ha.symm).trans ih
theorem fo.Ay(n:Nat)(fl:ah)(S:Nat->Prop):xC fl.length (fo n fl S):=⟨fun _ _ h=>h.symm,fun _ _ _ h h'=>h.trans h',fun _ _ h=>h.dp⟩
theorem fo.keep{n:Nat}{a:Nat}(h:fo n fl S a b):∀k:Nat,k<n->S k->gi (gl fl b) k=gi (gl fl a) k:=by
 induction h with
 | refl h=>exact fun _ _ _=>rfl
 | step h hi hs ha ih=>
  intro k hk hS;rw [<-ha.2.2 k hk (fun e=>hs (e▸hS)),ih k hk hS]
def wi(n:Nat)(fl:ah):Prop:=∀a b:Nat,a<b->b<fl.length->fo n fl (fun k=>gi (gl fl a) k=gi (gl fl b) k) a b
structure oi(N:Nat)(K A:Nat->Nat->Prop)(f:Nat)(L0 L:ai)(Q:List Nat)(k:Nat):Prop where
 len:L.length=N
 xc:∀x∈Q,x<N/\gi L0 x<0/\K f x
 bD:∀x:Nat,x<N->gi L x=if x∈Q then(f:Int)else gi L0 x
 root:f∈Q
 Jo:k<=Q.length
 done:∀p,p<k->∀y,A (Q.getD p 0) y->0<=gi L y
 nd:Q.Nodup
theorem oi.meet{N:Nat}{K A:Nat->Nat->Prop}{f:Nat}{k:Nat}(h:oi N K A f L0 L Q k)(hy:y<N)(hl:gi L y<0)(hk:K f y):oi N K A f L0 (L.set y (f:Int)) (Q++ [y]) k:=by
 have Ux:y∉Q:=fun hm=>by
  have:=h.bD y hy;rw [ay hm]at this;omega
 have e:∀x:Nat,x<N->gi (L.set y (f:Int)) x=if x=y then(f:Int)else gi L x:=fun x hx=>by
  have:=qK (S:=L) (x:=(y:Int)) (y:=(x:Int)) (b:=(f:Int)) (by omega) (by rw [h.len];omega) (by omega);rw [gI]at this;rw [this]
  by_cases e:x=y
  ·subst e;simp
  rw [aw e,aw (by omega)]
 have rS:gi L0 y<0:=by
  have:=h.bD y hy;rw [aw Ux]at this;omega
 refine⟨by rw [jK];exact h.len,fun x hx=>?_,fun x hx=>?_,List.mem_append_left _ h.root,by rw [dI];have:=h.Jo;omega,fun p hp z hz=>?_,List.nodup_append.2 ⟨h.nd,by simp,fun a ha b hb e=>Ux (by rw [<-fm.1 hb,<-e];exact ha)⟩⟩
 ·rcases iR.1 hx with hx | hx
  ·exact h.xc x hx
  obtain rfl:=fm.1 hx;exact⟨hy,rS,hk⟩
 ·rw [e x hx]
  by_cases ex:x=y
  ·subst ex;simp
  rw [aw ex,h.bD x hx];simp [ex]
 have hk:=h.Jo;rw [dd,mq (by omega),<-dd]at hz;have h2:=h.done p hp z hz
 by_cases hzN:z<N
 ·rw [e z hzN]
  split<;>omega
 have:gi L z=gi (L.set y (f:Int)) z:=by
  simp [gi,dd,qm (show L.length<=z by rw [h.len];omega),qm (show(L.set y (f:Int)).length<=z by rw [jK,h.len];omega)]
 omega
theorem oi.next{N:Nat}{K A:Nat->Nat->Prop}{f:Nat}{k:Nat}(h:oi N K A f L0 L Q k)(hk:k<Q.length)(hd:∀y,A (Q.getD k 0) y->0<=gi L y):oi N K A f L0 L Q (k+1):=
 ⟨h.len,h.xc,h.bD,h.root,hk,fun p hp y hy=>by
  by_cases e:p=k
  ·subst e;exact hd y hy
  exact h.done p (by omega) y hy,h.nd⟩
theorem oi.AG{N:Nat}{K A:Nat->Nat->Prop}{f:Nat}{k:Nat}(h:oi N K A f L0 L Q k):Q.length<=N:=JA N Q h.nd fun x hx=> (h.xc x hx).1
theorem oi.start{N:Nat}{K A:Nat->Nat->Prop}{f:Nat}(hl:L0.length=N)(hf:f<N)(h0:gi L0 f<0)(hk:K f f):oi N K A f L0 (L0.set f (f:Int)) [f] 0:=by
 refine⟨by simp [hl],fun x hx=>?_,fun x hx=>?_,by simp,bm _,fun p hp=>absurd hp (by omega),by simp⟩
 ·obtain rfl:=fm.1 hx;exact⟨hf,h0,hk⟩
 have:=qK (S:=L0) (x:=(f:Int)) (y:=(x:Int)) (b:=(f:Int)) (by omega) (by rw [hl];omega) (by omega);rw [gI]at this;rw [this]
 by_cases e:x=f
 ·subst e;simp
 rw [aw (by omega),aw (by simpa using e)]
theorem oi.end_{N:Nat}{K A:Nat->Nat->Prop}(hK:xC N K){f:Nat}(h:oi N K A f L0 L Q Q.length)(hL:jB N K f L0)(hf:f<N)(h0:gi L0 f<0)(hA:∀S:Nat->Prop,S f->(∀x y,S x->K f x->A x y->S y)->∀x,K f x->S x)(hAK:∀x y,A x y->K x y):jB N K (f+1) L:=by
 have hQ:∀x,K f x->x∈Q:=hA (fun x=>x∈Q) h.root fun x y hx pP ha=>by
  obtain⟨p,hp,e⟩:=fV.1 hx;have e2:Q.getD p 0=x:=by rw [dd,gO hp];exact e
  have h1:=h.done p hp y (by rw [e2];exact ha);have hk:=hAK x y ha;have yr:=(hK.dp _ _ hk).2;refine nA fun hn=>?_
  have h2:=h.bD y yr;rw [aw hn]at h2;obtain⟨r,_,h3,h4,_⟩:=(hL.2 y yr).1 (by omega);exact((hL.2 f hf).2 h0).2 r h3 (hK.xj _ _ _ (hK.xj _ _ _ h4 (hK.sym _ _ hk)) (hK.sym _ _ pP))
 refine hL.pX hK hf h0 h.len fun x hx=> ⟨fun hk=>?_,fun hk=>?_⟩
 ·rw [h.bD x hx,ay (hQ x hk)]
 rw [h.bD x hx,aw fun hm=>hk (h.xc x hm).2.2]
theorem o3{n:Nat}{B:ah}(hn:1<=n){a:Nat}(ha:a< (aC n R B).length):(gl (aC n R B) a).length=n/\(∀i:Nat,i<n->(0<=gi (gl (aC n R B) a) i/\gi (gl (aC n R B) a) i<R.length)/\gi R (gi (gl (aC n R B) a) i)=i)/\∀i:Nat,i+1<n->gi (gl (aC n R B) a) i∈gl B (gi (gl (aC n R B) a) ((i+1:Nat):Int)):=(nh hn).1 (by rw [cK ha];exact dH _)
theorem u5{n:Nat}{y:ai}(hx:x.length=n)(hy:y.length=n)(h:∀i:Nat,i<n->gi x i=gi y i):x=y:=
 jX (by omega) fun i h1 h2=>by
  have:=h i (by omega)
  rwa [cd h1,cd h2]at this
theorem vr{n:Nat}{B:ah}{a:Nat}(ha:a< (aC n R B).length)(hb:b< (aC n R B).length)(h:gl (aC n R B) a=gl (aC n R B) b):a=b:=by
 rw [cK ha,cK hb]at h;exact(List.getElem_inj (xM n R B).nodup).1 h
theorem aaJ{n:Nat}{B:ah}(hP:gE n R B)(hD:th n R B){a:Nat}(ha:a< (aC n R B).length)(hi:i<n):∃b:Nat,b≠a/\∀c:Nat,(jW n (aC n R B) i a c/\c≠a)↔c=b:=by
 have hn:1<=n:=by have:=hP.n1;omega
 obtain⟨hl,hr,hc⟩:=o3 hn ha;generalize hx:gl (aC n R B) a=x at hl hr hc;have dS:rF R i (if i=0 then -1 else gi x ((i - 1:Nat):Int)):=by
  by_cases e:i=0
  ·rw [ay e];exact .inl ⟨rfl,by omega⟩
  rw [aw e];have:=hr (i - 1) (by omega);exact .inr ⟨this.1,by omega,by rw [this.2];omega⟩
 have cI:oQ n R i (if i=n - 1 then -1 else gi x ((i+1:Nat):Int)):=by
  by_cases e:i=n - 1
  ·rw [ay e];exact .inl ⟨rfl,by omega⟩
  rw [aw e];have:=hr (i+1) (by omega);exact .inr ⟨this.1,by omega,by rw [this.2];omega⟩
 have MS:0<=(if i=0 then -1 else gi x ((i - 1:Nat):Int))->0<=(if i=n - 1 then -1 else gi x ((i+1:Nat):Int))->(if i=0 then -1 else gi x ((i - 1:Nat):Int))∈gl B (if i=n - 1 then -1 else gi x ((i+1:Nat):Int)):=fun h1 h2=>by
  by_cases e:i=0
  ·rw [ay e]at h1;omega
  by_cases e2:i=n - 1
  ·rw [ay e2]at h2;omega
  rw [aw e,aw e2];have zT:=hc (i - 1) (by omega);have qW:=hc i (by omega);rw [show i - 1+1=i by omega]at zT;have sS:=hr (i+1) (by omega);exact(hP.at_ sS.1.1 sS.1.2).2.2 _ qW _ zT
 have h2:=hD (i:Int) _ _ (by omega) (by omega) dS cI MS;have zZ:∀d:Int,d∈jZ R B i (if i=0 then -1 else gi x ((i - 1:Nat):Int)) (if i=n - 1 then -1 else gi x ((i+1:Nat):Int))↔x.set i d∈aC n R B:=fun d=>by
  rw [zg,nh hn];have gs:∀k:Nat,gi (x.set i d) k=if k=i then d else gi x k:=fun k=>by
   have:=qK (S:=x) (x:=(i:Int)) (y:=(k:Int)) (b:=d) (by omega) (by omega) (by omega);rw [gI]at this;rw [this]
   by_cases e:k=i
   ·subst e;simp
   rw [aw e,aw (by omega)]
  constructor
  ·rintro⟨hd,rd,u,v⟩;refine⟨by rw [jK];exact hl,fun k hk=>?_,fun k hk=>?_⟩
   ·rw [gs k]
    by_cases e:k=i
    ·rw [ay e,e];exact⟨hd,rd⟩
    rw [aw e];exact hr k hk
   rw [gs k,gs (k+1)]
   by_cases e:k=i
   ·rw [ay e,aw (by omega)];rw [aw (by omega)]at v;have:=hr (i+1) (by omega);rw [e];exact v.resolve_left (by omega)
   rw [aw e]
   by_cases e2:k+1=i
   ·rw [ay e2];rw [aw (by omega),show i - 1=k by omega]at u;have:=hr k (by omega);exact u.resolve_left (by omega)
   rw [aw e2];exact hc k hk
  rintro⟨_,h3,h4⟩;have h5:=h3 i hi;rw [gs i,ay rfl]at h5;refine⟨h5.1,h5.2,?_,?_⟩
  ·by_cases e:i=0
   ·left;rw [ay e];omega
   right;rw [aw e];have h6:=h4 (i - 1) (by omega);rw [gs (i - 1),show i - 1+1=i by omega,gs i,aw (show ¬i - 1=i by omega),ay rfl]at h6;exact h6
  by_cases e:i=n - 1
  ·left;rw [ay e];omega
  right;rw [aw e];have h6:=h4 i (by omega);rw [gs i,gs (i+1),ay rfl,aw (by omega)]at h6;exact h6
 obtain⟨p,q,tO,hm⟩:=Xa (CN _ _ _ _ _) h2;have Jg:gi x i=p\/gi x i=q:=(hm _).1 ((zZ _).2 (by
  have e:x.set i (gi x i)=x:=by
   rw [cd (by omega)];exact List.set_getElem_self _
  rw [e,<-hx,cK ha];exact dH _))
 obtain⟨d,hd,FT⟩:∃d,d≠gi x i/\∀c,(c=p\/c=q)↔(c=gi x i\/c=d):=by
  rcases Jg with h | h
  ·exact⟨q,fun e=>tO (by rw [<-h,e]),fun c=>by rw [h]⟩
  exact⟨p,fun e=>tO (by rw [<-h,e]),fun c=>by rw [h];exact or_comm⟩
 have sJ:x.set i d∈aC n R B:=(zZ d).1 ((hm d).2 ((FT d).2 (.inr O)));obtain⟨b,hb,eb⟩:=fV.1 sJ;have HO:gl (aC n R B) b=x.set i d:=by rw [cK hb];exact eb
 have LC:∀(d:Int) (k:Nat),gi (x.set i d) k=if k=i then d else gi x k:=fun d k=>by
  have:=qK (S:=x) (x:=(i:Int)) (y:=(k:Int)) (b:=d) (by omega) (by omega) (by omega);rw [gI]at this;rw [this]
  by_cases e:k=i
  ·subst e;simp
  rw [aw e,aw (by omega)]
 have vC:b≠a:=fun e=>by
  subst e;rw [hx]at HO;have:=LC d i;rw [<-HO,ay rfl]at this;exact hd this.symm
 refine⟨b,vC,fun c=> ⟨fun⟨⟨_,da,pM⟩,Mp⟩=>?_,?_⟩⟩
 ·
  rw [hx]at pM;obtain⟨wP,sS,ni⟩:=o3 hn da;have ec:gl (aC n R B) c=x.set i (gi (gl (aC n R B) c) i):=u5 wP (by rw [jK];exact hl) fun k hk=>by
   rw [LC]
   by_cases e:k=i
   ·rw [ay e,e]
   rw [aw e];exact(pM k hk e).symm
  have oz:x.set i (gi (gl (aC n R B) c) i)∈aC n R B:=by rw [<-ec,cK da];exact dH _
  rcases(FT _).1 ((hm _).1 ((zZ _).2 oz))with h | h
  ·exfalso;refine Mp (vr da ha ?_);rw [ec,h,hx,cd (by omega)];exact List.set_getElem_self _
  rw [h]at ec;exact vr da hb (ec.trans HO.symm)
 rintro rfl;exact⟨⟨ha,hb,fun k hk bt=>by rw [HO,hx,LC,aw bt]⟩,vC⟩
open Classical in
noncomputable def sX(n:Nat)(fl:ah)(i:Nat)(a:Nat):ai:=((List.range fl.length).filter fun b=>decide (jW n fl i a b/\b≠a)).map fun b:Nat=> (b:Int)
noncomputable def vX(n:Nat)(fl:ah)(i:Nat):ai:=(List.range fl.length).flatMap (sX n fl i)
noncomputable def bZ(n:Nat)(fl:ah):ah:=(List.range n).map (vX n fl)
def jN(n:Nat)(fl:ah):Prop:=∀a i:Nat,a<fl.length->i<n->∃b:Nat,b≠a/\∀c:Nat,(jW n fl i a c/\c≠a)↔c=b
open Classical in
theorem agG{n:Nat}{a:Nat}(h:∀c:Nat,(jW n fl i a c/\c≠a)↔c=b):sX n fl i a=[(b:Int)]:=by
 have hb:=((h b).2 O).1.2.1;have key:∀p:Nat->Bool,(∀c,p c=true↔c=b)->((List.range fl.length).filter p)=[b]:=fun p hp=>by
  refine List.Perm.eq_singleton ((rE (List.nodup_range.filter _) (by simp)).2 fun c=>?_);rw [fU,gP,hp c,fm];exact⟨fun h=>h.2,fun h=> ⟨by rw [h];exact hb,h⟩⟩
 unfold sX;exact aK (List.map fun b:Nat=> (b:Int)) (key _ fun c=>decide_eq_true_iff.trans (h c))
open Classical in
noncomputable def fz(n:Nat)(fl:ah)(i a:Nat):Nat:=if h:∃b:Nat,b≠a/\∀c:Nat,(jW n fl i a c/\c≠a)↔c=b then h.choose else 0
theorem jN.pt{n:Nat}(h:jN n fl){a:Nat}(ha:a<fl.length)(hi:i<n):fz n fl i a≠a/\∀c:Nat,(jW n fl i a c/\c≠a)↔c=fz n fl i a:=by
 have he:=h a i ha hi;unfold fz;rw [dif_pos he];exact he.choose_spec
theorem jN.lt{n:Nat}(h:jN n fl){a:Nat}(ha:a<fl.length)(hi:i<n):fz n fl i a<fl.length:=(((h.pt ha hi).2 _).2 rfl).1.2.1
theorem jN.pp{n:Nat}(h:jN n fl){a:Nat}(ha:a<fl.length)(hi:i<n):fz n fl i (fz n fl i a)=a:=by
 have h1:=((h.pt ha hi).2 _).2 O;exact(((h.pt (h.lt ha hi) hi).2 a).1 ⟨h1.1.symm,fun e=> (h.pt ha hi).1 e.symm⟩).symm
theorem Vz{n:Nat}(h:jN n fl)(hi:i<n):vX n fl i=(List.range fl.length).map fun a=> (fz n fl i a:Int):=by
 unfold vX;have e:∀l:List Nat,(∀a∈l,a<fl.length)->l.flatMap (sX n fl i)=l.map fun a=> (fz n fl i a:Int):=by
  intro l
  induction l with
  | nil=>intro _;rfl
  | cons a r ih=>
   intro hl;rw [List.flatMap_cons,List.map_cons,ih fun b hb=>hl b (pC _ hb),agG (h.pt (hl a (by simp)) hi).2];rfl
 exact e _ fun a ha=>gP.1 ha
theorem HY{n:Nat}{B:ah}(hP:gE n R B)(hD:th n R B):jN n (aC n R B):=fun _ _ ha hi=>aaJ hP hD ha hi
def Hp(n:Nat)(R:ai)(B:ah):Prop:=∀e:Int,0<=e->e<R.length->∃x∈aC n R B,e∈x
def zl(n:Nat)(R:ai)(B:ah):Prop:=aC n R B≠[]/\Hp n R B/\th n R B/\wi n (aC n R B)
def oY(a b:ai):ai:=(List.range a.length).map fun k:Nat=>if gi a k=gi b k then gi a k else -1
theorem C9(a b:ai):(oY a b).length=a.length:=by simp [oY]
theorem C8{a b:ai}{k:Nat}(h:k<a.length):gi (oY a b) k=if gi a k=gi b k then gi a k else -1:=by
 rw [cd (by rw [C9];exact h)];simp [oY]
def kr(n:Nat)(c x:ai):Prop:=∀k:Nat,k<n->gi c k≠ -1->gi c k=gi x k
instance (n:Nat)(c x:ai):Decidable (kr n c x):=by unfold kr;infer_instance
def jY(n:Nat)(fl:ah)(c:ai)(a b:Nat):Prop:=kr n c (gl fl a)/\fo n fl (fun k=>gi c k≠ -1) a b
theorem kr.of{n:Nat}{c:ai}{a:Nat}(h:kr n c (gl fl a))(h':fo n fl (fun k=>gi c k≠ -1) a b):kr n c (gl fl b):=fun k hk bt=>by
 rw [h'.keep k hk bt];exact h k hk bt
theorem jY.Ay(n:Nat)(fl:ah)(c:ai):xC fl.length (jY n fl c):=
 ⟨fun _ _ h=> ⟨h.1.of h.2,h.2.symm⟩,fun _ _ _ h h'=> ⟨h.1,h.2.trans h'.2⟩,fun _ _ h=>h.2.dp⟩
theorem ZB{n:Nat}(hl:∀x∈fl,x.length=n/\∀e∈x,0<=e){a:Nat}(ha:a<fl.length)(hb:b<fl.length):
 jY n fl (oY (gl fl a) (gl fl b)) a a/\jY n fl (oY (gl fl a) (gl fl b)) b b/\(jY n fl (oY (gl fl a) (gl fl b)) a b↔fo n fl (fun k=>gi (gl fl a) k=gi (gl fl b) k) a b):=by
 have hxa:=hl _ (by rw [cK ha];exact dH _:gl fl a∈fl);have bt:∀k:Nat,k<n->(gi (oY (gl fl a) (gl fl b)) k≠ -1↔gi (gl fl a) k=gi (gl fl b) k):=fun k hk=>by
  rw [C8 (by omega)];have:=hxa.2 _ (gi_in (show k< (gl fl a).length by omega))
  split
  ·exact⟨fun _=>by assumption,fun _=>by omega⟩
  ·rename_i h;exact⟨fun h'=>absurd rfl h',fun h'=>absurd h' h⟩
 have h1:kr n (oY (gl fl a) (gl fl b)) (gl fl a):=fun k hk h=>by
  have:=(bt k hk).1 h;rw [C8 (by omega),ay this]
 have h2:kr n (oY (gl fl a) (gl fl b)) (gl fl b):=fun k hk h=>by
  have:=(bt k hk).1 h;rw [C8 (by omega),ay this,this]
 have cv:∀ {S S':Nat->Prop},(∀k,k<n->(S k↔S' k))->∀ {u v},fo n fl S u v->fo n fl S' u v:=fun {S S'} hS {u v} h=>by
  induction h with
  | refl h=>exact .refl h
  | step _ hi hs Mi ih=>exact .step ih hi (fun h=>hs ((hS _ hi).2 h)) Mi
 exact⟨⟨h1,.refl ha⟩,⟨h2,.refl hb⟩,fun h=>cv bt h.2,fun h=> ⟨h1,cv (fun k hk=> (bt k hk).symm) h⟩⟩
def yY(n:Nat)(fl:ah)(c:ai)(x y:Nat):Prop:=kr n c (gl fl x)/\kr n c (gl fl y)/\∃i,i<n/\jW n fl i x y
theorem Lk{n:Nat}(hn:fl.Nodup)(hl:∀x∈fl,x.length=n){x:Nat}(hx:x<fl.length)(hy:y<fl.length)(h:∀k:Nat,k<n->gi (gl fl x) k=gi (gl fl y) k):x=y:=by
 have e:gl fl x=gl fl y:=u5 (hl _ (by rw [cK hx];exact dH _)) (hl _ (by rw [cK hy];exact dH _)) h;rw [cK hx,cK hy]at e;exact(List.getElem_inj hn).1 e
theorem yY.link{n:Nat}(hn:fl.Nodup)(hl:∀x∈fl,x.length=n){c:ai}{x:Nat}(h:yY n fl c x y):jY n fl c x y:=by
 obtain⟨h1,h2,i,hi,ha⟩:=h;refine⟨h1,?_⟩
 by_cases hc:gi c i≠ -1
 ·have:x=y:=Lk hn hl ha.1 ha.2.1 fun k hk=>by
   by_cases e:k=i
   ·subst e;rw [<-h1 k hk hc,h2 k hk hc]
   exact ha.2.2 k hk e
  subst this;exact .refl ha.1
 exact .step (.refl ha.1) hi hc ha
theorem jY.ind{n:Nat}{c:ai}{f:Nat}(S:Nat->Prop)(hf:S f)(hs:∀x y,S x->jY n fl c f x->yY n fl c x y->S y):∀x,jY n fl c f x->S x:=fun x h=>by
 obtain⟨h1,h2⟩:=h
 induction h2 with
 | refl _=>exact hf
 | step h hi hS ha ih=>exact hs _ _ ih ⟨h1,h⟩ ⟨h1.of h,h1.of (.step h hi hS ha),_,hi,ha⟩
def yZ(n:Nat)(fl:ah)(S:Nat->Prop)(x y:Nat):Prop:=∃i,i<n/\¬S i/\jW n fl i x y/\y≠x
theorem fo.ind{n:Nat}{f:Nat}(T:Nat->Prop)(hf:T f)(hs:∀x y,T x->fo n fl S f x->yZ n fl S x y->T y):∀x,fo n fl S f x->T x:=fun x h=>by
 induction h with
 | refl _=>exact hf
 | step h hi hS ha ih=>
  rename_i b c i
  by_cases e:c=b
  ·rw [e];exact ih
  ·exact hs _ _ ih h ⟨_,hi,hS,ha,e⟩
theorem yZ.link{n:Nat}{x:Nat}(h:yZ n fl S x y):fo n fl S x y:=by
 obtain⟨i,hi,hS,ha,_⟩:=h;exact .step (.refl ha.1) hi hS ha
def jk(x:ai)(i:Nat):ai:=x.set i (-1)
theorem OJ(x:ai)(i:Nat):(jk x i).length=x.length:=by simp [jk]
theorem En{k:Nat}(hk:k<x.length):gi (jk x i) k=if k=i then -1 else gi x k:=by
 rw [cd (by rw [OJ];exact hk),cd hk];unfold jk;rw [List.getElem_set]
 by_cases e:i=k
 ·rw [ay e,ay e.symm]
 rw [aw e,aw (fun h=>e h.symm)]
theorem JV{n:Nat}{y:ai}(hx:x.length=n)(hy:y.length=n):jk x i=jk y i↔∀k:Nat,k<n->k≠i->gi x k=gi y k:=by
 constructor
 ·intro h k hk bt;have:=aK (fun l=>gi l k) h;simp only [En (x:=x) (i:=i) (show k<x.length by omega),En (x:=y) (i:=i) (show k<y.length by omega),aw bt]at this;exact this
 intro h;refine u5 (n:=n) (by rw [OJ,hx]) (by rw [OJ,hy]) fun k hk=>?_
 rw [En (by omega),En (by omega)]
 split
 ·rfl
 rename_i e;exact h k hk e
theorem air{n:Nat}{y:ai}(hx:x.length=n)(hy:y.length=n)(hi:i<n)(h0:∀e∈y,0<=e)(h:jk x i=jk y j):i=j:=by
 have:=aK (fun l=>gi l i) h;simp only [En (x:=x) (i:=i) (show i<x.length by omega),En (x:=y) (i:=j) (show i<y.length by omega),ay]at this
 by_cases e:i=j
 ·exact e
 rw [aw e]at this;have h2:=h0 _ (gi_in (show i<y.length by omega));omega
theorem Ly(M:List ob)(x l:ai)(u:aQ×ai):kg (km M x u) l=if x=l then u.2 else kg M l:=by
 unfold kg;rw [Lr]
 split<;>rfl
theorem Lx{M:List ob}{l:ai}(h:(M.map (·.1)).Nodup):kg (kQ M x) l=if x=l then []else kg M l:=by
 unfold kg;rw [RQ h]
 split<;>rfl
structure jz(n:Nat)(fl:ah)(D:Nat->Nat->Prop)(G:Nat->Prop)(b:Nat)(M:List ob):Prop where
 nd:(M.map (·.1)).Nodup
 el:∀l y,y∈kg M l->∃y' i:Nat,y=(y':Int)/\y'<fl.length/\i<n/\D y' i/\l=jk (gl fl y') i
 al:∀y i:Nat,y<fl.length->i<n->D y i->(y:Int)∈kg M (jk (gl fl y) i)\/G y
 len:∀l,(kg M l).length<=b
section
variable{b' i:Nat}
variable {n:Nat} {fl:ah} {D D':Nat->Nat->Prop} {G G':Nat->Prop} {b:Nat} {M:List ob} {c:ai}
def yJ(n:Nat)(fl:ah)(c:ai)(f i:Nat)(y j:Nat):Prop:=kr n c (gl fl y)/\(y<f\/y=f/\j<i)
theorem jz.zero:jz n fl (yJ n fl c 0 0) (fun _=>False) 0 []:=⟨by simp,fun l y h=>by simp [kg,gy]at h,fun y i _ _ h=>by have:=h.2;omega,fun l=>by simp [kg,gy]⟩
theorem jz.congr(h:jz n fl D G b M)(hD:∀y i,y<fl.length->i<n->(D y i↔D' y i)):jz n fl D' G b M:=
 ⟨h.nd,fun l y hy=>by obtain⟨y',i,h1,h2,h3,h4,h5⟩:=h.el l y hy;exact⟨y',i,h1,h2,h3,(hD y' i h2 h3).1 h4,h5⟩,fun y i hy hi hd=>h.al y i hy hi ((hD y i hy hi).2 hd),h.len⟩
theorem jz.more(h:jz n fl D G b M)(hb:b<=b'):jz n fl D G b' M:=⟨h.nd,h.el,h.al,fun l=>l5 (h.len l) hb⟩
theorem jz.skip{f:Nat}(h:jz n fl (yJ n fl c f 0) G b M)(hf:¬kr n c (gl fl f)):jz n fl (yJ n fl c (f+1) 0) G b M:=
 h.congr fun y i _ _=> ⟨fun h=> ⟨h.1,by have:=h.2;omega⟩,fun h=> ⟨h.1,by
  have h2:=h.2;have:y≠f:=fun e=>hf (e▸h.1)
  omega⟩⟩
theorem jz.row{f:Nat}(h:jz n fl (yJ n fl c f n) G b M):jz n fl (yJ n fl c (f+1) 0) G b M:=
 h.congr fun y i _ hi=> ⟨fun h=> ⟨h.1,by have:=h.2;omega⟩,fun h=> ⟨h.1,by have:=h.2;omega⟩⟩
theorem jz.put{f:Nat}(h:jz n fl (yJ n fl c f i) G b M)(hf:f<fl.length)(hi:i<n)(hH:kr n c (gl fl f))(s:aQ):
 jz n fl (yJ n fl c f (i+1)) G (b+1) (km M (jk (gl fl f) i) (s,kg M (jk (gl fl f) i)++ [(f:Int)])):=by
 refine⟨Wl h.nd,fun l y hy=>?_,fun y j hy hj hd=>?_,fun l=>?_⟩
 ·rw [Ly]at hy
  split at hy
  ·rename_i e;rcases iR.1 hy with hy | hy
   ·obtain⟨y',j,h1,h2,h3,h4,h5⟩:=h.el _ y hy;exact⟨y',j,h1,h2,h3,⟨h4.1,by have:=h4.2;omega⟩,e.symm.trans h5⟩
   exact⟨f,i,fm.1 hy,hf,hi,⟨hH,.inr ⟨O,Nat.lt_succ_self _⟩⟩,e.symm⟩
  obtain⟨y',j,h1,h2,h3,h4,h5⟩:=h.el _ y hy;exact⟨y',j,h1,h2,h3,⟨h4.1,by have:=h4.2;omega⟩,h5⟩
 ·rw [Ly]
  by_cases e:y=f/\j=i
  ·obtain⟨rfl,rfl⟩:=e;rw [ay rfl];exact .inl (List.mem_append_right _ (by simp))
  rcases h.al y j hy hj ⟨hd.1,by have:=hd.2;omega⟩with h1 | h1
  ·left
   split
   ·rename_i e2;rw [e2];exact List.mem_append_left _ h1
   exact h1
  exact .inr h1
 rw [Ly]
 split
 ·rename_i e;have:=h.len (jk (gl fl f) i);rw [dI];simp;omega
 have:=h.len l;omega
theorem jz.mono(h:jz n fl D G b M)(hG:∀y,y<fl.length->G y->G' y):jz n fl D G' b M:=
 ⟨h.nd,h.el,fun y i hy hi hd=> (h.al y i hy hi hd).imp id (hG y hy),h.len⟩
theorem jz.del(h:jz n fl D G b M){x:ai}(hx:∀y:Nat,(y:Int)∈kg M x->G y):jz n fl D G b (kQ M x):=by
 refine⟨Z9 h.nd,fun l y hy=>?_,fun y i hy hi hd=>?_,fun l=>?_⟩
 ·rw [Lx h.nd]at hy
  split at hy
  ·cases hy
  exact h.el l y hy
 ·rcases h.al y i hy hi hd with h1 | h1
  ·rw [Lx h.nd]
   split
   ·rename_i e;rw [<-e]at h1;exact .inr (hx y h1)
   exact .inl h1
  exact .inr h1
 rw [Lx h.nd]
 split
 ·exact bm _
 exact h.len l
theorem jz.Kq{N:Nat}(h:jz n fl (fun y _=>kr n c (gl fl y)) G b M)(hl:∀x∈fl,x.length=n/\∀e∈x,0<=e){x:Nat}(hx:x<fl.length)(hi:i<n)(hH:kr n c (gl fl x)){y:Int}(hy:y∈kg M (jk (gl fl x) i)):∃y':Nat,y=y'/\y'<fl.length/\yY n fl c x y':=by
 obtain⟨y',j,h1,h2,h3,h4,h5⟩:=h.el _ y hy;have hm:∀z:Nat,z<fl.length->gl fl z∈fl:=fun z hz=>by rw [cK hz];exact dH _
 have DM:=hl _ (hm x hx);have MV:=hl _ (hm y' h2);have e:i=j:=air DM.1 MV.1 hi MV.2 h5;subst e;exact⟨y',h1,h2,hH,h4,i,hi,hx,h2,fun k hk bt=> (JV DM.1 MV.1).1 h5 k hk bt⟩
end
theorem ZA{n:Nat}{c x:ai}(hc:c.length=n):oY c x=c↔kr n c x:=by
 constructor
 ·intro h k hk bt;have:=aK (fun l=>gi l k) h;simp only [C8 (a:=c) (b:=x) (show k<c.length by omega)]at this
  by_cases e:gi c k=gi x k
  ·exact e
  rw [aw e]at this;exact absurd this.symm bt
 intro h;refine u5 (n:=n) (by rw [C9,hc]) hc fun k hk=>?_
 rw [C8 (by omega)]
 split
 ·rfl
 rename_i e;refine nA fun h2=>e (h k hk fun h3=>h2 h3.symm)
def jd(n:Nat)(fl:ah)(c:ai)(f:Nat):ai:=(bN f).filter fun y=>decide (kr n c (gl fl y))
theorem YB{n:Nat}{fl:ah}{c:ai}{f:Nat}:jd n fl c (f+1)=if kr n c (gl fl f)then jd n fl c f++ [(f:Int)]else jd n fl c f:=by
 have:bN (f+1)=bN f++ [(f:Int)]:=by
  unfold bN;rw [nZ,jm];rfl
 unfold jd;rw [this,oR]
 by_cases c:kr n c (gl fl f)
 ·rw [ay c];simp [c]
 rw [aw c];simp [c]
theorem ER{n:Nat}{fl:ah}{c:ai}{f:Nat}{y:Int}:y∈jd n fl c f↔(0<=y/\y<f)/\kr n c (gl fl y):=by
 unfold jd;rw [fU,fM,kz]
def qp(N:Nat)(al:ai)(j:Nat):Nat:=if j<al.length then(gi al j).toNat else N
theorem jB.jump{N:Nat}{K:Nat->Nat->Prop}(hK:xC N K){L:ai}:∀(d f:Nat),jB N K f L->f+d<=N->(∀x,f<=x->x<f+d->¬K x x)->jB N K (f+d) L
 | 0,f,h,_,_=>h
 | d+1,f,h,hn,hx=>by
  have h1:=h.skip hK (by omega) (.inr (hx f (bB _) (by omega)));have:=jB.jump hK d (f+1) h1 (by omega) fun x h2 h3=>hx x (by omega) (by omega)
  rwa [show f+1+d=f+ (d+1) by omega]at this
section
variable {n:Nat} {fl:ah} {c:ai} {L:ai}
theorem Hv(f:Nat):SA (jd n fl c f):=qj _ (lh _)
theorem Qv{j:Nat}:qp fl.length (jd n fl c fl.length) j<=fl.length:=by
 unfold qp
 split
 ·rename_i h;have:=(ER.1 (gi_in h)).1;omega
 exact bB _
theorem afK(h:jB fl.length (jY n fl c) 0 L):jB fl.length (jY n fl c) (qp fl.length (jd n fl c fl.length) 0) L:=by
 have hle:=Qv (n:=n) (fl:=fl) (c:=c) (j:=0);have:=h.jump (jY.Ay n fl c) (qp fl.length (jd n fl c fl.length) 0) 0 (by omega) fun x _ hx hk=>by
  have hm:(x:Int)∈jd n fl c fl.length:=ER.2 ⟨by omega,hk.1⟩;obtain⟨p,hp,e⟩:=fV.1 hm;rw [<-cd hp]at e;unfold qp at hx;rw [ay (by omega)]at hx
  by_cases e0:p=0
  ·subst e0;omega
  have:=(Hv (n:=n) (fl:=fl) (c:=c) fl.length).Aj (show 0<p by omega) hp;omega
 rwa [Nat.zero_add]at this
theorem afL{j:Nat}(hj:j< (jd n fl c fl.length).length){f:Nat}(hf:gi (jd n fl c fl.length) j=f)(h:jB fl.length (jY n fl c) (f+1) L):jB fl.length (jY n fl c) (qp fl.length (jd n fl c fl.length) (j+1)) L:=by
 have hle:=Qv (n:=n) (fl:=fl) (c:=c) (j:=j+1);have kE:=(ER.1 (gi_in hj)).1;have wN:f+1<=qp fl.length (jd n fl c fl.length) (j+1):=by
  unfold qp
  split
  ·rename_i h2;have:=(Hv (n:=n) (fl:=fl) (c:=c) fl.length).Aj (show j<j+1 by omega) h2;omega
  omega
 have:=h.jump (jY.Ay n fl c) (qp fl.length (jd n fl c fl.length) (j+1) - (f+1)) (f+1) (by omega) fun x rX hx hk=>by
  have hm:(x:Int)∈jd n fl c fl.length:=ER.2 ⟨by omega,hk.1⟩;obtain⟨p,hp,e⟩:=fV.1 hm;rw [<-cd hp]at e;have hpj:j<p:=by
   rcases Nat.lt_trichotomy j p with h2 | h2 | h2
   ·exact h2
   ·subst h2;omega
   have:=(Hv (n:=n) (fl:=fl) (c:=c) fl.length).Aj h2 hj;omega
  unfold qp at hx;rw [ay (by omega)]at hx
  by_cases e0:p=j+1
  ·subst e0;omega
  have:=(Hv (n:=n) (fl:=fl) (c:=c) fl.length).Aj (show j+1<p by omega) hp;omega
 rwa [show f+1+ (qp fl.length (jd n fl c fl.length) (j+1) - (f+1))=qp fl.length (jd n fl c fl.length) (j+1) by omega]at this
end
noncomputable def nP(n:Nat)(fl:ah)(i f:Nat):ai:=(List.range fl.length).map fun a=>if a<f/\fz n fl i a<f then(fz n fl i a:Int)else 0
def um(n:Nat)(fl:ah)(i f:Nat)(L:List (ByteArray×Int)):Prop:=∀a:Nat,f<=a->a<fl.length->gy L (rZ (jk (gl fl a) i))=if fz n fl i a<f then some (fz n fl i a:Int)else none
section
variable {n:Nat} {fl:ah} {i f:Nat} {L:List (ByteArray×Int)}
theorem agD:(nP n fl i f).length=fl.length:=by simp [nP]
theorem agA:nP n fl i 0=List.replicate fl.length 0:=by
 apply jX
 ·simp [nP]
 intro a h1 h2;simp [nP]
theorem agB(h:jN n fl)(hi:i<n):nP n fl i fl.length=vX n fl i:=by
 rw [Vz h hi];unfold nP;refine pB fun a ha=>?_
 have ha:=gP.1 ha;rw [ay ⟨ha,h.lt ha hi⟩]
theorem agE(h:jN n fl)(hi:i<n)(hf:f<fl.length)(hp:¬fz n fl i f<f):nP n fl i (f+1)=nP n fl i f:=by
 unfold nP;refine pB fun a ha=>?_
 have ha:=gP.1 ha;have h1:=(h.pt hf hi).1;have h2:=h.pp ha hi
 by_cases e:a=f
 ·subst e;rw [aw (by omega),aw (by omega)]
 by_cases e2:fz n fl i a=f
 ·have h3:a=fz n fl i f:=by rw [<-h2,e2]
  rw [aw (by omega),aw (by omega)]
 by_cases c:a<f/\fz n fl i a<f
 ·rw [ay c,ay (by omega)]
 rw [aw c,aw (by omega)]
theorem agC(h:jN n fl)(hi:i<n)(hf:f<fl.length)(hp:fz n fl i f<f):nP n fl i (f+1)=((nP n fl i f).set f (fz n fl i f:Int)).set (fz n fl i f) (f:Int):=by
 have hpp:=h.pp hf hi;apply jX
 ·simp [nP]
 intro a h1 h2;have ha:a<fl.length:=by simpa [nP]using h1
 have h3:=h.pp ha hi;rw [List.getElem_set,List.getElem_set];simp only [nP,List.getElem_map,List.getElem_range]
 by_cases e:fz n fl i f=a
 ·subst e;rw [ay rfl,hpp,ay (by omega)]
 rw [aw e]
 by_cases e2:f=a
 ·subst e2;rw [ay rfl,ay (by omega)]
 rw [aw e2];have h4:fz n fl i a≠f:=fun e3=>e (by rw [<-h3,e3])
 by_cases c:a<f/\fz n fl i a<f
 ·rw [ay c,ay (by omega)]
 rw [aw c,aw (by omega)]
theorem um.zero:um n fl i 0 []:=fun a _ _=>by rw [aw (by omega)];rfl
theorem um.at_(h:um n fl i f L)(hf:f<fl.length):gy L (rZ (jk (gl fl f) i))=if fz n fl i f<f then some (fz n fl i f:Int)else none:=h f (bB _) hf
theorem um.IU(hN:jN n fl)(hi:i<n)(h:um n fl i f L)(hf:f<fl.length)(hp:fz n fl i f<f):um n fl i (f+1) L:=fun a h0 ha=>by
 have h2:=hN.pp ha hi;rw [h a (by omega) ha];have h4:fz n fl i a≠f:=fun e=>by rw [e]at h2;omega
 by_cases c:fz n fl i a<f
 ·rw [ay c,ay (by omega)]
 rw [aw c,aw (by omega)]
theorem um.agh(hN:jN n fl)(hl:∀x∈fl,x.length=n)(hi:i<n)(h:um n fl i f L)(hf:f<fl.length)(hp:¬fz n fl i f<f):um n fl i (f+1) (km L (rZ (jk (gl fl f) i)) (f:Int)):=fun a h0 ha=>by
 have h1:=hN.pp hf hi;have h2:=hN.pp ha hi;have hk:rZ (jk (gl fl f) i)=rZ (jk (gl fl a) i)↔a=f\/a=fz n fl i f:=by
  have lf:(gl fl f).length=n:=hl _ (by rw [cK hf];exact dH _);have la:(gl fl a).length=n:=hl _ (by rw [cK ha];exact dH _);constructor
  ·intro e;have e:=(JV lf la).1 (UR e)
   by_cases c:a=f
   ·exact .inl c
   exact .inr (((hN.pt hf hi).2 a).1 ⟨⟨hf,ha,fun k hk bt=>e k hk bt⟩,c⟩)
  intro e;rcases e with e | e
  ·subst e;rfl
  have h3:=((hN.pt hf hi).2 a).2 e;exact aK rZ ((JV lf la).2 h3.1.2.2)
 rw [Lr,h a (by omega) ha]
 by_cases e2:a=fz n fl i f
 ·rw [ay (hk.2 (.inr e2))];have h3:fz n fl i a=f:=by rw [e2,h1]
  rw [ay (by omega),h3]
 rw [aw fun e3=> (hk.1 e3).elim (by omega) e2];have h4:fz n fl i a≠f:=fun e3=>e2 (by rw [<-h2,e3])
 by_cases c:fz n fl i a<f
 ·rw [ay c,ay (by omega)]
 rw [aw c,aw (by omega)]
end
section
variable{i b:Nat}
variable {n:Nat} {fl:ah}
theorem pk(n:Nat)(fl:ah):(bZ n fl).length=n:=by simp [bZ]
theorem agt(n:Nat)(fl:ah)(hi:i<n):gl (bZ n fl) i=vX n fl i:=by
 rw [cK (by rw [pk];exact hi)];simp [bZ]
theorem Jv(h:jN n fl)(hi:i<n):gl (bZ n fl) i=(List.range fl.length).map fun a=> (fz n fl i a:Int):=by rw [agt n fl hi,Vz h hi]
theorem sW(h:jN n fl){a:Nat}(hi:i<n)(ha:a<fl.length):gi (gl (bZ n fl) i) a=fz n fl i a:=by
 rw [Jv h hi,cd (by simpa using ha)];simp
theorem GD(h:jN n fl)(hi:i<n):(gl (bZ n fl) i).length=fl.length:=by rw [Jv h hi];simp
theorem Ob(h:jN n fl){p:ai}:p∈bZ n fl↔∃i:Nat,i<n/\p=gl (bZ n fl) i:=by
 constructor
 ·intro hp;obtain⟨i,hi,e⟩:=fV.1 hp;rw [pk]at hi;exact⟨i,hi,by rw [cK (by rw [pk];exact hi)];exact e.symm⟩
 rintro⟨i,hi,rfl⟩;rw [cK (by rw [pk];exact hi)];exact dH _
theorem ago(h:jN n fl)(hi:i<n){x:Int}(h0:0<=x)(h1:x<fl.length):gi (gl (bZ n fl) i) x=fz n fl i x.toNat:=by
 obtain⟨a,rfl⟩:∃a:Nat,x=a:=⟨x.toNat,by omega⟩;rw [sW h hi (by omega)];simp
theorem ags(h:jN n fl)(hb:fl.length<=400)(hi:i<n):lk (gl (bZ n fl) i)/\pz (gl (bZ n fl) i):=by
 have hl:=GD h hi;refine⟨⟨by omega,fun x hx=>?_,?_⟩,fun a ha=>?_⟩
 ·rw [hl];rw [Jv h hi]at hx;obtain⟨a,ha,rfl⟩:=dv.1 hx;have:=h.lt (gP.1 ha) hi;omega
 ·rw [Jv h hi];refine nB.2 ((List.nodup_range (n:=fl.length)).imp_of_mem fun {a b} ha hb bt e=>bt ?_);have ha:=gP.1 ha;have hb:=gP.1 hb;have e:fz n fl i a=fz n fl i b:=by omega
  rw [<-h.pp ha hi,e,h.pp hb hi]
 rw [hl]at ha;rw [sW h hi ha,sW h hi (h.lt ha hi),h.pp ha hi];have:=(h.pt ha hi).1;exact⟨by omega,O⟩
theorem agu(h:jN n fl):Sys fl.length (bZ n fl):=fun p hp=>by
 obtain⟨i,hi,rfl⟩:=(Ob h).1 hp;refine⟨GD h hi,fun x h0 h1=>?_⟩;rw [ago h hi h0 h1];have:=h.lt (a:=x.toNat) (by omega) hi;omega
theorem GC(h:jN n fl){a:Nat}(ha:a<fl.length)(hi:i<n):jW n fl i a (fz n fl i a):=(((h.pt ha hi).2 _).2 rfl).1
theorem Vs(h:jN n fl){p:ai}:p∈(bZ n fl).eraseIdx i↔∃k:Nat,k<n/\k≠i/\p=gl (bZ n fl) k:=by
 rw [List.mem_eraseIdx_iff_getElem];constructor
 ·rintro⟨k,hk,bt,e⟩;rw [pk]at hk;exact⟨k,hk,bt,by rw [cK (by rw [pk];exact hk)];exact e.symm⟩
 rintro⟨k,hk,bt,rfl⟩;exact⟨k,by rw [pk];exact hk,bt,by rw [cK (by rw [pk];exact hk)]⟩
theorem agp(h:jN n fl)(hi:i<n){a:Nat}(ha:a<fl.length){y:Int}(hr:Reach ((bZ n fl).eraseIdx i) (a:Int) y):(0<=y/\y<fl.length)/\gi (gl fl y) i=gi (gl fl a) i:=by
 induction hr with
 | refl=>exact⟨by omega,rfl⟩
 | step hr hp ih=>
  rename_i y p;obtain⟨k,hk,bt,rfl⟩:=(Vs h).1 hp;obtain⟨b,rfl⟩:∃b:Nat,y=b:=⟨y.toNat,by omega⟩;have hb:b<fl.length:=by omega
  rw [sW h hk hb];have h1:=h.lt hb hk;exact⟨by omega,by rw [<-(GC h hb hk).2.2 i hi (fun e=>bt e.symm)];exact ih.2⟩
theorem Vt(h:jN n fl){S:Nat->Prop}(hS:S i){a:Nat}(hl:fo n fl S a b):Reach ((bZ n fl).eraseIdx i) (a:Int) (b:Int):=by
 induction hl with
 | refl=>exact .refl
 | step hl hk hs ha ih=>
  rename_i b c k
  by_cases e:c=b
  ·subst e;exact ih
  have hb:=hl.dp.2;have e2:c=fz n fl k b:=((h.pt hb hk).2 c).1 ⟨ha,e⟩;have:=Reach.step ih ((Vs h).2 ⟨k,hk,fun e3=>hs (e3▸hS),O⟩);rw [sW h hk hb,<-e2]at this;exact this
theorem agq(h:jN n fl){S:Nat->Prop}{a:Nat}(hl:fo n fl S a b):Reach (bZ n fl) (a:Int) (b:Int):=by
 induction hl with
 | refl=>exact .refl
 | step hl hk hs ha ih=>
  rename_i b c k
  by_cases e:c=b
  ·subst e;exact ih
  have hb:=hl.dp.2;have e2:c=fz n fl k b:=((h.pt hb hk).2 c).1 ⟨ha,e⟩;have:=Reach.step ih ((Ob h).2 ⟨k,hk,O⟩);rw [sW h hk hb,<-e2]at this;exact this
theorem agn(h:jN n fl)(hc:wi n fl)(hi:i<n){a:Nat}(ha:a<fl.length)(hb:b<fl.length):Reach ((bZ n fl).eraseIdx i) (a:Int) (b:Int)↔gi (gl fl a) i=gi (gl fl b) i:=by
 constructor
 ·intro hr;exact(agp h hi ha hr).2.symm
 intro e;rcases Nat.lt_trichotomy a b with eG | eG | eG
 ·exact Vt h (S:=fun k=>gi (gl fl a) k=gi (gl fl b) k) e (hc a b eG hb)
 ·subst eG;exact .refl
 exact Vt h (S:=fun k=>gi (gl fl b) k=gi (gl fl a) k) e.symm (hc b a eG ha).symm
end
section
variable {n:Nat} {R:ai} {B:ah}
theorem aaI(hP:gE n R B)(hD:th n R B){i k a:Nat}(hi:i<n)(hk:k<n)(mJ:i+2<=k)(ha:a< (aC n R B).length):
 fz n (aC n R B) k (fz n (aC n R B) i a)=fz n (aC n R B) i (fz n (aC n R B) k a):=by
 have h:=HY hP hD;have hn:1<=n:=by omega
 obtain⟨b,hb⟩:∃b,fz n (aC n R B) i a=b:=⟨_,rfl⟩;obtain⟨c,hc⟩:∃c,fz n (aC n R B) k a=c:=⟨_,rfl⟩;have ki:b< (aC n R B).length:=hb▸h.lt ha hi;have da:c< (aC n R B).length:=hc▸h.lt ha hk;have ab:=GC h ha hi;have ac:=GC h ha hk;have nb:=(h.pt ha hi).1;have nc:=(h.pt ha hk).1;rw [hb]at ab nb|-;rw [hc]at ac nc|-;have fa:=o3 hn ha;have fb:=o3 hn ki;have fc:=o3 hn da;obtain⟨x,hx⟩:∃x:ai,x=(gl (aC n R B) c).set i (gi (gl (aC n R B) b) i):=⟨_,rfl⟩;have dG:x.length=n:=by rw [hx,jK];exact fc.1
 have gw:∀j:Nat,j<n->gi x j=if i=j then gi (gl (aC n R B) b) i else gi (gl (aC n R B) c) j:=fun j hj=>by
  rw [cd (by omega)];subst hx;rw [List.getElem_set]
  split
  ·rfl
  exact(cd (by rw [fc.1];exact hj)).symm
 have hm:x∈aC n R B:=by
  refine(nh hn).2 ⟨dG,fun j hj=>?_,fun j hj=>?_⟩
  ·rw [gw j hj]
   split
   ·rename_i e;subst e;exact fb.2.1 i hj
   exact fc.2.1 j hj
  rw [gw j (by omega),gw (j+1) hj]
  by_cases e1:i=j
  ·subst e1;rw [ay rfl,aw (by omega),<-ac.2.2 (i+1) hj (by omega),ab.2.2 (i+1) hj (by omega)];exact fb.2.2 i hj
  by_cases e2:i=j+1
  ·subst e2;rw [aw e1,ay rfl,<-ac.2.2 j (by omega) (by omega),ab.2.2 j (by omega) (by omega)];exact fb.2.2 j hj
  rw [aw e1,aw e2];exact fc.2.2 j hj
 obtain⟨d,hd,ed⟩:=fV.1 hm;have HP:gl (aC n R B) d=x:=by rw [cK hd];exact ed
 have e1:fz n (aC n R B) k b=d:=by
  refine(((h.pt ki hk).2 d).1 ⟨⟨ki,hd,fun j hj bt=>?_⟩,fun e=>?_⟩).symm
  ·rw [HP,gw j hj]
   split
   ·rename_i e;subst e;rfl
   rename_i e;rw [<-ab.2.2 j hj (fun e'=>e e'.symm),ac.2.2 j hj bt]
  subst e;have h1:=gw k hk;rw [aw (by omega),<-HP,<-ab.2.2 k hk (by omega)]at h1;exact nc (vr da ha (u5 (n:=n) fc.1 fa.1 fun j hj=>by
   by_cases e:j=k
   ·subst e;exact h1.symm
   exact(ac.2.2 j hj e).symm))
 have e2:fz n (aC n R B) i c=d:=by
  refine(((h.pt da hi).2 d).1 ⟨⟨da,hd,fun j hj bt=>?_⟩,fun e=>?_⟩).symm
  ·rw [HP,gw j hj,aw (fun e=>bt e.symm)]
  subst e;have h1:=gw i hi;rw [ay rfl,<-HP,<-ac.2.2 i hi (by omega)]at h1;exact nb (vr ki ha (u5 (n:=n) fb.1 fa.1 fun j hj=>by
   by_cases e:j=i
   ·subst e;exact h1.symm
   exact(ab.2.2 j hj e).symm))
 rw [e1,e2]
theorem agr(hP:gE n R B)(hY:zl n R B)(hn:n<=5)(hb:(aC n R B).length<=400):bg (bZ n (aC n R B)):=by
 have h:=HY hP hY.2.2.1;have vN:=hP.n1;have h0:0<n:=by omega
 have DP:0< (aC n R B).length:=List.length_pos_iff.2 hY.1;have rS:(gl (bZ n (aC n R B)) 0).length=(aC n R B).length:=GD h h0;have h2:2<=(aC n R B).length:=by
  have h1:=(h.pt DP h0).1;have h3:=h.lt DP h0;omega
 refine⟨by rw [pk];omega,by rw [rS];omega,fun p hp=>?_,fun i hi k hk mJ f hf=>?_,?_⟩
 ·obtain⟨i,hi,rfl⟩:=(Ob h).1 hp;rw [rS,GD h hi];exact⟨O,ags h hb hi⟩
 ·rw [pk]at hi hk;rw [rS]at hf;have dt:=h.lt hf hi;have eM:=h.lt hf hk;refine⟨?_,?_⟩
  ·rw [sW h hi hf,sW h hk hf,sW h hk dt,sW h hi eM,aaI hP hY.2.2.1 hi hk mJ hf]
  rw [sW h hi hf,sW h hk hf];intro e;have e:fz n (aC n R B) i f=fz n (aC n R B) k f:=by omega
  have a1:=GC h hf hi;have a2:=GC h hf hk;rw [<-e]at a2;refine(h.pt hf hi).1 (vr dt hf (u5 (n:=n) (o3 (by omega) dt).1 (o3 (by omega) hf).1 fun j hj=>?_))
  by_cases e3:j=i
  ·exact(a2.2.2 j hj (by omega)).symm
  exact(a1.2.2 j hj e3).symm
 rw [rS];refine(Cs (agu h) DP).2 fun x rX jq=>?_
 obtain⟨b,rfl⟩:∃b:Nat,x=b:=⟨x.toNat,by omega⟩
 by_cases e:b=0
 ·subst e;exact .refl
 exact agq h (hY.2.2.2 0 b (by omega) (by omega))
end
theorem Le{M:ah}(hM:bg M){i:Nat}{f g:Int}(h0:0<=f)(h1:f< (gl M 0).length)(h:Reach (M.eraseIdx i) f g):gi (cH M i) f=gi (cH M i) g:=
 NT (hM.2.2.1.sys.erase i) (hM.2.2.1.inj.erase i) h0 h1 h _ (bB _)
def mh(R:ai)(i:Int):ai:=(bN R.length).filter fun e=>decide (gi R e=i)
theorem OD{R:ai}{i e:Int}:e∈mh R i↔(0<=e/\e<R.length)/\gi R e=i:=by
 unfold mh;rw [fU,fM,kz]
theorem aid(R:ai)(i:Int):(mh R i).Nodup:=(lh _).nodup.filter _
structure fF(n:Nat)(R:ai)(B:ah):Prop where
 pos:gE n R B
 AB:zl n R B
 n5:n<=5
 few:(aC n R B).length<=400
section
variable{i b:Nat}
variable {n:Nat} {R:ai} {B:ah}
theorem fF.nb(h:fF n R B):jN n (aC n R B):=HY h.pos h.AB.2.2.1
theorem fF.n1(h:fF n R B):1<=n:=by have:=h.pos.n1;omega
theorem fF.vW(h:fF n R B):bg (bZ n (aC n R B)):=agr h.pos h.AB h.n5 h.few
theorem fF.nl(h:fF n R B):(gl (bZ n (aC n R B)) 0).length=(aC n R B).length:=GD h.nb (show 0<n by have:=h.n1;omega)
theorem fF.Vf(h:fF n R B)(hi:i<n){a:Nat}(ha:a< (aC n R B).length)(hb:b< (aC n R B).length):gi (cH (bZ n (aC n R B)) i) a=gi (cH (bZ n (aC n R B)) i) b↔gi (gl (aC n R B) a) i=gi (gl (aC n R B) b) i:=by
 rw [<-agn h.nb h.AB.2.2.2 hi ha hb];constructor
 ·exact E4 h.vW (by omega) (by rw [h.nl];omega) (by omega) (by rw [h.nl];omega)
 exact Le h.vW (by omega) (by rw [h.nl];omega)
theorem fF.O0(h:fF n R B){e:Int}(h0:0<=e)(h1:e<R.length):∃a:Nat,a< (aC n R B).length/\gi (gl (aC n R B) a) (gi R e)=e:=by
 obtain⟨x,hx,he⟩:=h.AB.2.1 e h0 h1;obtain⟨a,ha,ea⟩:=fV.1 hx;obtain⟨k,hk,ek⟩:=fV.1 he;have hf:=(nh h.n1).1 hx;have mK:k<n:=by rw [<-hf.1];exact hk
 have e1:gi x k=e:=by rw [cd hk];exact ek
 have e2:=(hf.2.1 k mK).2;rw [e1]at e2;exact⟨a,ha,by rw [cK ha,ea,e2];exact e1⟩
theorem fF.at_(h:fF n R B){a:Nat}(ha:a< (aC n R B).length)(hi:i<n):(0<=gi (gl (aC n R B) a) i/\gi (gl (aC n R B) a) i<R.length)/\gi R (gi (gl (aC n R B) a) i)=i:=(o3 h.n1 ha).2.1 i hi
theorem fF.qI(h:fF n R B)(hi:i<n):fA (bZ n (aC n R B)) i=((mh R i).length:Int):=by
 have hN:=h.nl;have h0:=(vo (bZ n (aC n R B)) i).1;have hex:∀e:Int,∃v:Int,e∈mh R i->(0<=v/\v<fA (bZ n (aC n R B)) i)/\∀a:Nat,a< (aC n R B).length->(gi (cH (bZ n (aC n R B)) i) a=v↔gi (gl (aC n R B) a) i=e):=fun e=>by
  by_cases he:e∈mh R i
  ·have hr:=OD.1 he;obtain⟨b,hb,eb⟩:=h.O0 hr.1.1 hr.1.2;rw [hr.2]at eb;exact⟨gi (cH (bZ n (aC n R B)) i) b,fun _=> ⟨zw h.vW i b (by rw [hN];exact hb),fun a ha=>by rw [h.Vf hi ha hb,eb]⟩⟩
  exact⟨0,fun h=>absurd h he⟩
 obtain⟨g,hg⟩:=Classical.axiomOfChoice hex;have hg:∀e:Int,e∈mh R i->(0<=g e/\g e<fA (bZ n (aC n R B)) i)/\∀a:Nat,a< (aC n R B).length->(gi (cH (bZ n (aC n R B)) i) a=g e↔gi (gl (aC n R B) a) i=e):=hg;have hp:((mh R i).map g).Perm (bN (fA (bZ n (aC n R B)) i).toNat):=by
  refine(rE ?_ (lh _).nodup).2 fun v=>?_
  ·refine nB.2 ((aid R i).imp_of_mem fun {e d} he hd bt q=>bt ?_);have hr:=OD.1 he;obtain⟨b,hb,eb⟩:=h.O0 hr.1.1 hr.1.2;rw [hr.2]at eb;have h1:=((hg e he).2 b hb).2 eb;rw [q]at h1;rw [<-((hg d hd).2 b hb).1 h1];exact eb.symm
  rw [fM,dv];constructor
  ·rintro⟨e,he,rfl⟩;have:=(hg e he).1;omega
  intro hv;obtain⟨f,hf,ef⟩:=Bl h.vW i v hv.1 (by omega);rw [hN]at hf;have h1:=h.at_ hf hi;have hm:gi (gl (aC n R B) f) i∈mh R i:=OD.2 h1;refine⟨_,hm,?_⟩;rw [<-((hg _ hm).2 f hf).2 rfl];exact ef
 have hl:=hp.length_eq;rw [fj,yN]at hl;omega
theorem aif(R:ai)(hR:∀e:Int,0<=e->e<R.length->0<=gi R e):∀i:Nat,((bN R.length).filter fun e=>decide (gi R e< (i:Int))).length+ (mh R i).length=((bN R.length).filter fun e=>decide (gi R e< ((i+1:Nat):Int))).length:=fun i=>by
 unfold mh;generalize bN R.length=l
 induction l with
 | nil=>rfl
 | cons e l ih=>
  rcases Int.lt_trichotomy (gi R e) (i:Int)with c | c | c
  ·rw [ur (by simpa using c),rC (by simp;omega),ur (by simp;omega)];simp only [List.length_cons];omega
  ·rw [rC (by simp;omega),ur (by simpa using c),ur (by simp;omega)];simp only [List.length_cons];omega
  ·rw [rC (by simp;omega),rC (by simp;omega),rC (by simp;omega)];exact ih
theorem fF.off(h:fF n R B):∀i:Nat,i<=n->aH (bZ n (aC n R B)) i=((bN R.length).filter fun e=>decide (gi R e< (i:Int))).length:=by
 have fR:∀e:Int,0<=e->e<R.length->0<=gi R e:=fun e h0 h1=> (h.pos.ri h0 h1).1
 intro i
 induction i with
 | zero=>
  intro _;rw [List.filter_eq_nil_iff.2 fun e he=>?_]
  ·rfl
  ·have hr:=(fM _ _).1 he;have:=fR e hr.1 hr.2;simp;omega
 | succ i ih=>
  intro hi;have h1:=h.qI (show i<n by omega);show aH _ i+ (fA _ i).toNat=_;rw [ih (by omega),h1,<-aif R fR i];omega
theorem fF.VN(h:fF n R B):aH (bZ n (aC n R B)) n=R.length:=by
 rw [h.off n (bB _),List.filter_eq_self.2 fun e he=>?_]
 ·exact yN _
 have hr:=(fM _ _).1 he;have:=(h.pos.ri hr.1 hr.2).2;simp;omega
end
end
section
open Go.RowKit
section
variable {P:Program} {N:Nat} {ops:Array Oper} {K:Env->aa->Prop} {rest:List Oper} {e:Env} {w:aa} {d:Nat} {ty:ae} {pos:String} {af:Array Edge} {x y:ag} {xt yt:ae} {i:Int}
theorem EL{k:IntKind}(hx:ev e x= .int .u64 i)(hy:ev e y= .int k 1)(hb:Nat.blt d N=true)(h0:0<=i)(hK:ao P N ops K rest (bG e d (.int .u64 (i / 2))) w):
 ao P N ops K (⟨some d,.binOp .shr xt x y yt,ty,pos,af,none⟩::rest) e w:=by
 refine .val (v:= .int .u64 (i / 2)) ?_ hb hK;have e1:min 1 IntKind.u64.bits=1:=by decide
 have e2:i.fdiv 2=i / 2:=Int.fdiv_eq_ediv_of_nonneg _ (by decide);simp [execOp,hx,hy,eqGuard,binOp,Op.shift,e1,e2]
end
section
variable {w:aa} {e:Env}
theorem OB{R:ad->aa->Prop}{t u:Nat}{b:Bool}{k:IntKind}{i:Int}(h:e t= .int k i)(h2:e u= .bool b)(hR:R (.tuple #[.int k i,.bool b]) w):Eh t u R .ret e w:=by show R (.tuple #[e t,e u]) w;rw [h,h2];exact hR
end
theorem ZG(x:Int)(w:aa):aN prog 221 [ak x] w (fun v w'=>v= .bool (decide (¬x=x))/\w'=w):=by
 refine bI func221 O ntmps221 O (du O) (Kf O (dz O ?_));exact⟨O,O⟩
theorem QG(x y:Int)(w:aa):aN prog 207 [ak x,ak y] w (fun v w'=>v= .bool (decide (x<y))/\w'=w):=by
 refine bI func207 O ntmps207 O (du O) (bc O (aL (ZG x w) O ?_));rintro _ _ ⟨rfl,rfl⟩;refine ar O (cT 7 O (fun h=>absurd O h) (fun _=>?_));refine aA O (aA O (aA O (ar O (au O (ar O (au O (ar O (au O (bM O ?_)))))))));exact dz O ⟨O,O⟩
theorem aiF(x:Int)(w:aa):aN prog 208 [ak x] w (fun v w'=>v= .bool (decide (¬x=x))/\w'=w):=by
 refine bI func208 O ntmps208 O (du O) (Kf O (dz O ?_));exact⟨O,O⟩
theorem Qo(A:aj)(n c:Nat)(xs:ai)(x:Int)(w:aa)(hR:di w A n xs)(hs:SA xs)(hn:n<=1000000000):
 aN prog 148 [.slice A n c,ak x] w (fun v w'=> (∃k:Int,v= .tuple #[ak k,.bool (decide (x∈xs))])/\w'=w):=by
 have dG:=hR.1;refine bI func148 O ntmps148 O (vZ O) ?_;refine bc O (bk O O (aI O ?_));refine Cd.loop (α:=Nat×Nat) (fun z=> [(0,.slice A n c),(1,ak x),(6,ak n),(7,ak (z.1:Int)),(8,ak (z.2:Int))]) (fun z w'=>w'=w/\z.1<=z.2/\z.2<=n/\(∀p:Nat,p<z.1->gi xs p<x)/\∀p:Nat,z.2<=p->p<n->x<=gi xs p) (fun z=>z.2 - z.1) (0,n) (alH O) ⟨O,bm _,bB _,fun p hp=>absurd hp (jM _),fun p hp iy=>by have hp:n<=p:=hp;omega⟩ ?_;rintro⟨i,j⟩ e w ⟨rfl,iJ,uT,dS,cI⟩;dsimp only at iJ uT dS cI|-;refine b8 O (aR _ O (fun h1=>?_) (fun h1=>?_))
 ·refine aG O (aJ O ?_);refine og O O (uh _ (by omega)) (EL O O O (by omega) (og O O (IntWalk.i64_in _ (by omega)) ?_));obtain⟨h,hh⟩:∃h:Nat,h=(i+j) / 2:=⟨_,rfl⟩;rw [show((i:Int)+ (j:Int)) / 2=(h:Int) by omega];refine ar O (aF hR.2 O (bh hR O (ar O (aL (QG _ _ _) O ?_))));rintro _ _ ⟨rfl,rfl⟩;refine aI O (aR _ O (fun h2=>?_) (fun h2=>?_))
  ·refine aG O (aJ O (aT O (tQ ?_)));refine⟨(h+1,j),by show j - (h+1)<j - i;omega,(alH O),O,by show h+1<=j;omega,uT,fun p hp=>?_,cI⟩;have hp:p<h+1:=hp
   by_cases e:p=h
   ·subst e;exact h2
   have:=hs.Aj (show p<h by omega) (by omega);omega
  refine mU O (tQ ?_);refine⟨(i,h),by show h - i<j - i;omega,(alH O),O,by show i<=h;omega,by show h<=n;omega,dS,fun p hp iy=>?_⟩;have hp:h<=p:=hp
  by_cases e:p=h
  ·subst e;omega
  have:=hs.Aj (show h<p by omega) (by omega);omega
 obtain rfl:i=j:=by omega
 have iF:∀p:Nat,p<n->gi xs p=x->p=i:=fun p hp hx=>by
  rcases Nat.lt_trichotomy p i with h | h | h
  ·have:=dS p h;omega
  ·exact h
  have h3:=hs.Aj h (by omega);have h4:=cI i (bB _) (by omega);omega
 have kV:x∈xs↔i<n/\gi xs i=x:=by
  constructor
  ·intro hm;obtain⟨p,hp,e⟩:=fV.1 hm;have e2:gi xs p=x:=by rw [cd hp];exact e
   have:=iF p (by omega) e2;subst this;exact⟨by omega,e2⟩
  rintro⟨h2,h3⟩;rw [<-h3];exact gi_in (by omega)
 refine bw O (bA (dh O ?_));refine cT 35 O (fun h2=>?_) (fun h2=>?_)
 ·refine au O (ar O (au O (ar O (au O ?_))));refine aF hR.2 O (au O (bh hR O ?_));refine au O (ar O (au O (ar O (au O (ar O ?_)))));refine cT 42 O (fun h3=>?_) (fun h3=>?_)
  ·refine aA O (aA O (aA O (aA O (aA O (aA O (cn O (cn O (aA O (au O (bM O ?_))))))))));refine OB O O ?_;exact⟨⟨_,by rw [eP (kV.2 ⟨by omega,h3⟩)]⟩,O⟩
  refine au O (ar O (au O (ar O (au O ?_))));refine aF hR.2 O (au O (bh hR O (au O (aL (aiF _ _) O ?_))));rintro _ _ ⟨rfl,rfl⟩;refine au O (ar O ?_);refine cT 48 O (fun h=>absurd O h) (fun _=>?_);refine aA O (aA O (au O (ar O (au O (bM O ?_)))));refine OB O O ?_;exact⟨⟨_,by rw [dk (fun h=>h3 (kV.1 h).2)]⟩,O⟩
 refine aA O (aA O (aA O (aA O (aA O (aA O (aA O (cn O (cn O (cn O (cn O (cn O ?_)))))))))));refine cn O (cn O (cn O (cn O (aA O (bM O ?_)))));refine OB O O ?_;exact⟨⟨_,by rw [dk (fun h=>by have:=(kV.1 h).1;omega)]⟩,O⟩
theorem UG(P A D:aj)(cA r cD:Nat)(n:Int)(N:Nat)(rs:List aQ)(B:ah)(e f:Int)(w:aa)(hP:Rd w P 3 (fun j=> [Value.int .i64 n,.slice A r cA,.slice D N cD].getD j undef))(hB:bz w D N rs B)(o4:B.length=N)(hf:0<=f/\f<N)(hs:SA (gl B f))(hl:(gl B f).length<=1000000):
 aN prog 139 [.pointer P,ak e,ak f] w (fun v w'=>v= .bool (decide (e∈gl B f))/\w'=w):=by
 have cJ:=hB.at_ (i:=f) hf.1 hf.2;have iS:=cJ.1;refine bI func139 O ntmps139 O (du O) (bc O ?_);refine oh hP (by decide) O O (aW hP O (a8 hP O (ar O (aF hB.top.2 O (b6 hB.top O (ar O (aL (Qo _ _ _ (gl B f) e w cJ hs (by omega)) O ?_)))))));rintro _ _ ⟨⟨k,rfl⟩,rfl⟩;refine bM O (dz O ?_);exact⟨O,O⟩
theorem vU(P A D:aj)(cA cD:Nat)(n:Int)(R:ai)(rs:List aQ)(B:ah)(e f:Int)(w:aa)(hP:Rd w P 3 (fun j=> [Value.int .i64 n,.slice A R.length cA,.slice D B.length cD].getD j undef))(hB:bz w D B.length rs B)(hf:0<=f/\f<B.length)(hs:SA (gl B f))(hl:(gl B f).length<=1000000):
 aN prog 139 [.pointer P,ak e,ak f] w (fun v w'=>v= .bool (decide (e∈gl B f))/\w'=w):=
 UG P A D cA R.length cD n B.length rs B e f w hP hB rfl hf hs hl
theorem N6{t1 t2:ae}{A:aj}{n c:Nat}{rs:List aQ}{xss:ah}{ks:List Ck}{q:Ck}{i:Nat}(s:aQ)(xs:ai)(hr:rs.length=xss.length)(hi:i<rs.length):(q::(aO t1 t2 A n c rs xss++ks)).set (2+i) (az t2 s.a s.n s.c xs)=q::(b9 t1 A n c rs::(dq t2 (rs.set i s) (xss.set i xs)++ks)):=by
 rw [show 2+i=i+1+1 by omega,List.set_cons_succ];show _::(b9 t1 A n c rs::(dq t2 rs xss++ks)).set (i+1) _=_;rw [List.set_cons_succ,List.set_append_left _ _ (by rw [Ek hr];exact hi),OH hr]
def kB(M:ah)(i f:Nat):ah:=(List.range (gl M 0).length).map fun g=> (List.range (if g<f then i+1 else i)).map fun k=>bC M k g
def qt(M:ah):ah:=(List.range (gl M 0).length).map fun g=> (List.range M.length).map fun k=>bC M k g
theorem H5(M:ah)(i f:Nat):(kB M i f).length=(gl M 0).length:=by simp [kB]
theorem aaZ(M:ah)(f:Nat)(h:f=0):kB M 0 f=List.replicate (gl M 0).length []:=by
 subst h;apply jX (by simp [kB]);intro i h1 h2;simp [kB]
theorem aaX(M:ah)(i:Nat):kB M i (gl M 0).length=kB M (i+1) 0:=by
 unfold kB;refine pB fun g hg=>?_
 rw [ay (gP.1 hg),aw (jM _)]
theorem aaW(M:ah):kB M M.length 0=qt M:=by
 unfold kB qt;exact pB fun g _=>by rw [aw (jM _)]
theorem H4{M:ah}{i f g:Nat}(hg:g< (gl M 0).length):gl (kB M i f) g=(List.range (if g<f then i+1 else i)).map fun k=>bC M k g:=by
 rw [cK (by rw [H5];exact hg)];simp [kB]
theorem aaY{M:ah}{i f:Nat}(hf:f< (gl M 0).length):(kB M i f).set f (gl (kB M i f) f++ [bC M i f])=kB M i (f+1):=by
 apply jX (by simp [kB]);intro g h1 h2;have hg:g< (gl M 0).length:=by rw [H5]at h2;exact h2
 rw [List.getElem_set];have e:(kB M i (f+1))[g]=gl (kB M i (f+1)) g:=by rw [cK h2]
 rw [e,H4 hg]
 by_cases h:f=g
 ·subst h;rw [ay rfl,ay (by omega),H4 hg,aw (by omega),nZ,jm];rfl
 rw [aw h];have e2:(kB M i f)[g]'(by rw [H5];exact hg)=gl (kB M i f) g:=by rw [cK]
 rw [e2,H4 hg]
 by_cases h3:g<f
 ·rw [ay h3,ay (by omega)]
 rw [aw h3,aw (by omega)]
theorem JC{M:ah}:∀i,aH M i<=i* (gl M 0).length
 | 0=>bm _
 | i+1=>by
  have h1:=JC (M:=M) i;have h2:=vo M i;show aH M i+ (fA M i).toNat<=_;rw [Nat.succ_mul];omega
theorem YQ(Ab A:aj)(n c:Nat)(rs:List aQ)(M:ah)(w:aa)(hB:Rd w Ab 1 (fun _=> .slice A n c))(hR:bz w A n rs M)(hM:bg M):
 aN prog 97 [.pointer Ab] w (fun v w'=>∃A' rs',v= .slice A' (gl M 0).length (gl M 0).length/\rs'.length=(gl M 0).length/\St w w' (aO 32 2 A' (gl M 0).length (gl M 0).length rs' (qt M)++ [])):=by
 have hl:=hR.len;have h1:=hM.1;have h2:=hM.2.1;have e0:(rg rs 0).n=(gl M 0).length:=(hR.ny (by omega) (by omega)).symm;have zU:∀i,i<=n->aH M i<=2000:=fun i hi=>by
  have h3:=JC (M:=M) i;have h4:i* (gl M 0).length<=5*400:=Nat.mul_le_mul (by omega) (by omega);omega
 generalize hF:(gl M 0).length=F at*;refine bI func97 O ntmps97 O (du O) (bc O (aL (vq Ab A n c rs M _ w hB O hR (by omega)) O ?_));rintro _ w ⟨rfl,rfl⟩;rw [e0];refine Hn F (St.refl w) O O (by omega) ?_;intro A3 w1 aE;have aE:St w w1 (aO 32 2 A3 F F (List.replicate F eA) (List.replicate F [])):=GG F aE;refine ar O (aL (Ef Ab A n c _ _ (aE.sc hB) O) O ?_);rintro _ w1 ⟨rfl,rfl⟩;refine aI O ?_;refine Cd.loop (α:=Nat×List aQ) (fun z=> [(0,.pointer Ab),(3,.slice A3 F F),(4,ak (aH M z.1:Int)),(14,ak n),(15,ak (z.1:Int))]) (fun z w'=>z.1<=n/\z.2.length=F/\St w w' (aO 32 2 A3 F F z.2 (kB M z.1 0)++ [])) (fun z=>n - z.1) (0,List.replicate F eA) (alH O) ⟨bm _,by simp,by rw [aaZ M 0 O,hF,eu];exact aE⟩ ?_;clear aE;rintro⟨i,Em⟩ e w2 ⟨hi,b5,hS⟩;dsimp only at hi b5 hS|-;have TT:=zU i hi;refine b8 O (aR _ O (fun h3=>?_) (fun h3=>?_))
 ·have db:i<n:=by omega
  have uW:=zU (i+1) (by omega);have kE:=vo M i;have B9:aH M (i+1)=aH M i+ (fA M i).toNat:=O;refine aG O (aL (Rj Ab A n c rs M i _ (hS.sc hB) (hS.bS hR) hM db) O ?_);rintro _ w3 ⟨A6,rfl,ax⟩;have aM:=(hS.call ax).perm (ku (l₁:=[az 2 A6 (gl M 0).length (gl M 0).length (cH M i)]));rw [hF]at aM|-;clear ax hS;refine ar O (bk O O (aI O ?_));refine Cd.loop (α:=Nat×List aQ) (fun z=> [(0,.pointer Ab),(3,.slice A3 F F),(4,ak (aH M i:Int)),(7,ak (fA M i)),(14,ak n),(15,ak i),(24,.slice A6 F F),(5,ak i),(25,ak F),(26,ak (z.1:Int))]) (fun z w'=>z.1<=F/\z.2.length=F/\St w w' (aO 32 2 A3 F F z.2 (kB M i z.1)++ [az 2 A6 F F (cH M i)])) (fun z=>F - z.1) (0,Em) (alH O) ⟨bm _,b5,by simpa using aM⟩ ?_;clear aM;rintro⟨f,de⟩ e w4 ⟨hf,uX,aU⟩;dsimp only at hf uX aU|-;have Ts:=H5 M i f;rw [hF]at Ts;refine b8 O (aR _ O (fun h4=>?_) (fun h4=>?_))
  ·have tJ:f<F:=by omega
   have mD:=St.gj aU Ts;have lF:(aO 32 2 A3 F F de (kB M i f)++ [az 2 A6 F F (cH M i)])[F+1]?=some (az 2 A6 F F (cH M i)):=by
    rw [kN (by rw [Vn (by omega)];omega),Vn (by omega),uX,Nat.sub_self];rfl
   have BV:di w4 A6 F (cH M i):=aU.bF (F+1) lF;have hin2:=qq hM (i:=i) (f:=f) (by omega);have acU:(aH M i:Int)+gi (cH M i) f=bC M i f:=O;have cJ:=mD.at_ (i:=(f:Int)) (by omega) (by omega);have iS:(rg de f).n<=5:=by
    have:=cJ.1;rw [<-this,H4 (by omega),aw (by omega)];simp;omega
   refine aG O (aF BV.2 O (bh BV O (ar O (aF mD.top.2 O (b6 mD.top O ?_)))));refine ar O (aJ O ?_);refine dV aU O O O ?_;intro AQ wQ hQ;have qT:(az 2 AQ 1 1 [((aH M i:Int)+gi (cH M i) f)]::(aO 32 2 A3 F F de (kB M i f)++ [az 2 A6 F F (cH M i)]))[2+f]?=some (az 2 (rg de f).a (rg de f).n (rg de f).c (gl (kB M i f) f)):=by
    have h0:=D7 (t1:=32) (t2:=2) (A:=A3) (n:=F) (c:=F) (rs:=de) (xss:=(kB M i f)) (pre:=[az 2 AQ 1 1 [((aH M i:Int)+gi (cH M i) f)]]) (ks:=[az 2 A6 F F (cH M i)]) (i:=f) (by omega) (by omega);exact h0
   refine fp (2+f) hQ qT (hQ.bF 0 O) O O O ?_;intro AZ cZ wZ hZ;rw [N6 ⟨AZ,(rg de f).n+1,cZ⟩ (gl (kB M i f) f++ [((aH M i:Int)+gi (cH M i) f)]) (by omega) (by omega)]at hZ;have SW:jo wZ A3 F de:=hZ.ie 1 O;refine aF SW.2 O (Bg (te:=32) (n:=F) (c:=F) (A:=A3) (xs:=de) 1 hZ O O O (by omega) ?_);intro wY hY;have aV:St w wY (aO 32 2 A3 F F (de.set f ⟨AZ,(rg de f).n+1,cZ⟩) ((kB M i f).set f (gl (kB M i f) f++ [((aH M i:Int)+gi (cH M i) f)]))++ [az 2 A6 F F (cH M i)]):=St.tail hY;clear hY SW hZ qT hQ;rw [acU,aaY (by omega)]at aV;refine ar O (aJ O (aT O (tQ ?_)));exact⟨(f+1,_),by show F - (f+1)<F - f;omega,(alH O),by show f+1<=F;omega,by simp [uX],aV⟩
  have tJ:f=F:=by omega
  subst tJ;have iG:=aaX M i;rw [hF]at iG;rw [iG]at aU;refine bw O (bA (dh O (aJ O (ar O (aJ O (aT O (tQ ?_)))))));exact⟨(i+1,de),by show n - (i+1)<n - i;omega,⟨O,O,by show Value.int .i64 ((aH M i:Int)+fA M i)=ak ((aH M (i+1):Nat):Int);congr 1;omega,O,O,av⟩,by show i+1<=n;omega,uX,aU.sub (List.Sublist.append_left (List.nil_sublist _) _)⟩
 have db:i=n:=by omega
 subst db;have he:=aaW M;rw [hl]at he;rw [he]at hS;refine bw O (bA (ij O ?_));exact gK O ⟨A3,Em,O,b5,hS⟩
def fI(xss:ah):ai:=(List.range xss.length).map fun i=>fA xss i
theorem KO(xss:ah):(fI xss).length=xss.length:=by simp [fI]
theorem ZK{xss:ah}{i:Nat}(h:i<xss.length):(fI xss).take (i+1)=(fI xss).take i++ [fA xss i]:=by
 rw [su (by rw [KO];exact h)];simp [fI]
theorem Rh(Ab A:aj)(n c:Nat)(rs:List aQ)(xss:ah)(w:aa)(hB:Rd w Ab 1 (fun _=> .slice A n c))(hR:bz w A n rs xss)(hM:bg xss):
 aN prog 124 [.pointer Ab] w (fun v w'=>∃A' c',v= .slice A' n c'/\St w w' [az 2 A' n c' (fI xss)]):=by
 have hl:=hR.len;have h1:=hM.1;have h2:=hM.2.1;refine bI func124 O ntmps124 O (du O) (bc O (aL (Ef Ab A n c _ _ hB O) O ?_));rintro _ w ⟨rfl,rfl⟩;refine aI O (Cd.loop (α:=Nat×aj×Nat) (fun s=> [(0,.pointer Ab),(3,.slice s.2.1 s.1 s.2.2),(8,ak n),(9,ak (s.1:Int))]) (fun s w'=>St w w' [az 2 s.2.1 s.1 s.2.2 ((fI xss).take s.1)]/\s.1<=n) (fun s=>n - s.1) (0,none,0) (alH O) ⟨(St.refl w).nil _,bm _⟩ ?_);rintro⟨i,A3,c3⟩ e w1 ⟨aE,hi⟩;dsimp only at aE hi|-;refine b8 O (aR _ O (fun h3=>?_) (fun h3=>?_))
 ·have dt:i<n:=by omega
  have mH:=vo xss i;refine aG O (aL (Rj Ab A n c rs xss i _ (hB.below aE.below) (aE.bS hR) hM dt) O ?_);rintro _ w2 ⟨A5,rfl,np⟩;have aD:=(aE.call np).tail;refine ar O (dV aD O O O ?_);intro A6 w3 aM;refine fp 1 aM O (aM.bF 0 O) O O O fun A7 c7 w4 aU=>ar O (aJ O (aT O (tQ ?_)));refine⟨(i+1,A7,c7),by show n - (i+1)<n - i;omega,(alH O),?_,dt⟩;show St w w4 [az _ A7 (i+1) c7 ((fI xss).take (i+1))];rw [ZK (by omega)];exact aU.tail
 refine bw O (bA (ij O ?_));refine gK O ?_;have db:i=n:=by omega
 rw [db,lp (by rw [KO];omega)]at aE;rw [db];exact⟨A3,c3,O,aE⟩
section
variable{b b0 b1 b2:Nat}
variable {P:Program} {N:Nat} {ops:Array Oper} {K:Env->aa->Prop} {rest:List Oper} {e:Env} {w0 w w':aa} {ks:List Ck} {d:Nat} {ty:ae} {pos:String} {af:Array Edge}
theorem EH{t:ae}{f0 f1 f2:Field}{z0 z1 z2 y0 y1 y2:ad}[bV P t (.struct #[f0,f1,f2])][bR P t (.agg #[z0,z1,z2]) 3 b]{x0:ag}{v0:ad}(tB:bR P f0.type y0 1 b0)(tC:bR P f1.type y1 1 b1)(vw:bR P f2.type y2 1 b2)(ho:f0.offset=0)(uW:f1.offset=1)(B7:f2.offset=2)(h0:ev e x0=v0)(c0:v0.oneCell'=true)(hb:Nat.blt d N=true)(hK:ao P N ops K rest (bG e d (.agg #[v0,z1,z2])) w):ao P N ops K (⟨some d,.build t #[(0,x0)],ty,pos,af,none⟩::rest) e w:=by
 obtain⟨inf,hi,fS,hs,jv⟩:=bR.get P t;obtain⟨DY,fG,_,qy,_⟩:=tB.get P f0.type;obtain⟨DZ,kU,_,tP,_⟩:=tC.get P f1.type;obtain⟨Gv,pO,_,pg,_⟩:=vw.get P f2.type;have e0:v0.cells= #[v0]:=by cases v0<;>simp [Value.oneCell']at c0<;>rfl
 have ez:(Value.agg #[z0,z1,z2]).cells= #[z0,z1,z2]:=O;refine .val (w':=w) ?_ hb hK;simp [execOp,Instr.build,run_underlying (bV.out (P:=P) (t:=t)),sizeOf,typeInfo,zeroValue,hi,fS,fG,qy,kU,tP,pO,pg,ho,h0,e0,ez,Instr.fill]
theorem alG{t:ae}{f0 f1 f2:Field}{z0 z1 z2 y0 y1 y2:ad}[bV P t (.struct #[f0,f1,f2])][bR P t (.agg #[z0,z1,z2]) 3 b](tB:bR P f0.type y0 1 b0)(tC:bR P f1.type y1 1 b1)(vw:bR P f2.type y2 1 b2)(hb:Nat.blt d N=true)(hK:ao P N ops K rest (bG e d (.agg #[z0,z1,z2])) w):ao P N ops K (⟨some d,.build t #[],ty,pos,af,none⟩::rest) e w:=by
 obtain⟨inf,hi,fS,hs,jv⟩:=bR.get P t;obtain⟨DY,fG,_,qy,_⟩:=tB.get P f0.type;obtain⟨DZ,kU,_,tP,_⟩:=tC.get P f1.type;obtain⟨Gv,pO,_,pg,_⟩:=vw.get P f2.type;have ez:(Value.agg #[z0,z1,z2]).cells= #[z0,z1,z2]:=O;refine .val (w':=w) ?_ hb hK;simp [execOp,Instr.build,run_underlying (bV.out (P:=P) (t:=t)),sizeOf,typeInfo,zeroValue,hi,fS,fG,qy,kU,tP,pO,pg,ez,Instr.fill]
theorem Bd{t:ae}{f0 f1 f2:Field}{z0 z1 z2 y0 y1 y2:ad}[bV P t (.struct #[f0,f1,f2])][bR P t (.agg #[z0,z1,z2]) 3 b](hb:Nat.blt d N=true)(hK:ao P N ops K rest (bG e d (.agg #[z0,z1,z2])) w)(tB:bR P f0.type y0 1 b0:=by exact inferInstance)(tC:bR P f1.type y1 1 b1:=by exact inferInstance)(vw:bR P f2.type y2 1 b2:=by exact inferInstance):ao P N ops K (⟨some d,.build t #[],ty,pos,af,none⟩::rest) e w:=alG tB tC vw hb hK
theorem kO{el:ae}{v0 v1 v2:ad}{s:Nat}[bR P el (.agg #[v0,v1,v2]) s b](hS:St w0 w ks)(hb:Nat.blt d N=true)(hK:∀A w',St w0 w' (Bx el 3 A [v0,v1,v2]::ks)->ao P N ops K rest (bG e d (.pointer A)) w')(hM:fw [v0,v1,v2]=false:=by rfl):ao P N ops K (⟨some d,.alloc el,ty,pos,af,none⟩::rest) e w:= .new (el:=el) (z:= .agg #[v0,v1,v2]) (s:=s) (b:=b) hS hb rfl hK hM
end
theorem ag5{α:Type}(q1 q2 q3 q4 q5 q6:α)(X Y:List α):([q1,q2,q3,q4,q5,q6]++Y++X).Perm (q4::(q2::((q1::X)++ (q3::q5::q6::Y)))):=by
 classical
 refine nC.2 fun z=>?_
 simp only [qk,mV,List.cons_append,List.nil_append];omega
abbrev bH(A:aj)(n:Int)(AR:aj)(N c:Nat)(AD:aj)(m d:Nat):Ck:=Bx 34 3 A [ak n,.slice AR N c,.slice AD m d]
theorem ZJ{M:ah}{i:Nat}(h:i<M.length):gi (fI M) i=fA M i:=by
 rw [cd (by rw [KO];exact h)];simp [fI]
structure sv(M:ah)(f i:Nat)(B:ah):Prop where
 len:B.length=aH M M.length
 mem:∀e:Nat,e<aH M M.length->∀x,x∈gl B e↔∃f' i',(f'<f\/f'=f/\i'<i)/\f'< (gl M 0).length/\i'<M.length/\bC M i' f'=e/\∃k,k<i'/\x=bC M k f'
 num:∀e:Nat,(gl B e).length<=25*f+5*i
theorem sv.zero(M:ah):sv M 0 0 (List.replicate (aH M M.length) []):=by
 have hg:∀e:Nat,gl (List.replicate (aH M M.length) ([]:ai)) e=[]:=fun e=>by
  simp only [gl,gI,dd,List.getElem?_replicate]
  split<;>rfl
 refine⟨by simp,fun e he x=>?_,fun e=>by rw [hg];exact bm _⟩;rw [hg];constructor
 ·intro h;cases h
 rintro⟨f',i',h,_⟩;omega
theorem sv.next{M:ah}{f i:Nat}{B:ah}(hM:bg M)(h:sv M f i B)(hf:f< (gl M 0).length)(hi:i<M.length):sv M f (i+1) (B.set (bC M i f).toNat (gl B (bC M i f)++ (List.range i).map fun k=>bC M k f)):=by
 have db:=qq hM (i:=i) hf;have I0:=oI M (show i+1<=M.length by omega);have h5:=hM.1;obtain⟨q,hq⟩:∃q:Nat,bC M i f=q:=⟨(bC M i f).toNat,by omega⟩;rw [hq,gI];have hg:∀e:Nat,gl (B.set q (gl B q++ (List.range i).map fun k=>bC M k f)) e=if q=e then gl B q++ (List.range i).map fun k=>bC M k f else gl B e:=fun e=>aa6 (by rw [h.len];omega)
 refine⟨by rw [jK];exact h.len,fun e he x=>?_,fun e=>?_⟩
 ·rw [hg]
  by_cases e1:q=e
  ·subst e1;rw [ay rfl,iR,h.mem q he];constructor
   ·rintro(⟨f',i',h1,h2⟩ | h1)
    ·exact⟨f',i',by omega,h2⟩
    obtain⟨k,hk,rfl⟩:=dv.1 h1;exact⟨f,i,.inr ⟨O,by omega⟩,hf,hi,hq,k,gP.1 hk,O⟩
   rintro⟨f',i',h1,h2,h3,h4,k,hk,rfl⟩
   by_cases e2:f'=f/\i'=i
   ·obtain⟨rfl,rfl⟩:=e2;exact .inr (dv.2 ⟨k,gP.2 hk,O⟩)
   exact .inl ⟨f',i',by omega,h2,h3,h4,k,hk,O⟩
  rw [aw e1,h.mem e he];constructor
  ·rintro⟨f',i',h1,h2⟩;exact⟨f',i',by omega,h2⟩
  rintro⟨f',i',h1,h2,h3,h4,h6⟩;refine⟨f',i',?_,h2,h3,h4,h6⟩
  by_cases e2:f'=f/\i'=i
  ·obtain⟨rfl,rfl⟩:=e2;omega
  omega
 rw [hg];have h1:=h.num q;have h2:=h.num e
 split
 ·rw [dI,fj,qE];omega
 omega
theorem sv.row{M:ah}{f:Nat}{B:ah}(hM:bg M)(h:sv M f M.length B):sv M (f+1) 0 B:=by
 have h5:=hM.1;refine⟨h.len,fun e he x=>?_,fun e=>by have:=h.num e;omega⟩;rw [h.mem e he];constructor
 ·rintro⟨f',i',h1,h2⟩;exact⟨f',i',by omega,h2⟩
 rintro⟨f',i',h1,h2,h3,h4⟩;exact⟨f',i',by omega,h2,h3,h4⟩
theorem sv.done{M:ah}{B:ah}(hM:bg M)(h:sv M (gl M 0).length 0 B){e:Nat}(he:e<aH M M.length):cs (gl B e)=gl (bE M) e:=by
 refine(ZX _).eq ?_ fun x=>?_
 ·rw [cK (by rw [uG];exact he)];unfold bE;rw [List.getElem_map];exact qj _ (lh _)
 rw [ZY,h.mem e he,ot (by omega) (by omega)];constructor
 ·rintro⟨f',i',_,h2,h3,h4,k,hk,rfl⟩;have hI:xu M (bC M k f') e:=⟨f',h2,i',h3,k,hk,h4.symm,O⟩;exact⟨(hI.dp hM).1,hI⟩
 rintro⟨_,f',h2,i',h3,k,hk,h4,rfl⟩;exact⟨f',i',.inl h2,h2,h3,h4.symm,k,hk,O⟩
def XC(M:ah)(w:aa)(v:ad)(w':aa):Prop:=(500<aH M M.length/\v= .tuple #[.agg #[ak 0,.slice none 0 0,.slice none 0 0],.bool false]/\St w w' [])\/(aH M M.length<=500/\∃AR c AD d rs,v= .tuple #[.agg #[ak (M.length:Int),.slice AR (aH M M.length) c,.slice AD (aH M M.length) d],.bool true]/\rs.length=aH M M.length/\St w w' (az 2 AR (aH M M.length) c (bn M M.length)::(aO 32 2 AD (aH M M.length) d rs (bE M)++ [])))
theorem Ri(A:aj)(n c:Nat)(rs:List aQ)(M:ah)(w:aa)(hR:bz w A n rs M)(hM:bg M):
 aN prog 92 [.agg #[.slice A n c]] w (XC M w):=by
 have hl:=hR.len;have h1:=hM.1;have h2:=hM.2.1;have zU:∀i,i<=n->aH M i<=2000:=fun i hi=>by
  have h3:=JC (M:=M) i;have h4:i* (gl M 0).length<=5*400:=Nat.mul_le_mul (by omega) (by omega);omega
 refine bI func92 O ntmps92 O (sg O O) (bc O (ik (St.refl w) O O ?_));intro A1 w1 aE;refine kO aE O fun A2 w2 aD=>ar O (aL (Ef A1 A n c _ _ (Rd.one (aD.rd 1 O)) O) O ?_);rintro _ w2 ⟨rfl,rfl⟩;refine EH (by exact inferInstance) (by exact inferInstance) (by exact inferInstance) O O O O O O (kO aD O ?_);intro A4 w3 aM;refine bW 3 0 aM O O O O O O O ?_;intro w4 aU;have aU:St w w4 [bH A4 n none 0 0 none 0 0,bH A2 0 none 0 0 none 0 0,Bx 24 1 A1 [.slice A n c]]:=aU;clear aM aD aE;refine ar O (aL (Rh A1 A n c rs M _ (Rd.one (aU.rd 2 O)) (aU.bS hR) hM) O ?_);rintro _ w5 ⟨lL,uB,rfl,ax⟩;have aV:=aU.call ax;clear ax aU;have aV:St w w5 [bH A4 n none 0 0 none 0 0,az 2 none 0 0 [],az 2 lL n uB (fI M),bH A2 0 none 0 0 none 0 0,Bx 24 1 A1 [.slice A n c]]:=(aV.nil 2).perm (jc (l₁:=[_,_]));refine bk O O (aI O ?_);refine Cd.loop (α:=Nat×aj×Nat) (fun z=> [(1,.pointer A1),(2,.pointer A2),(4,.pointer A4),(14,.slice lL n uB),(15,ak n),(16,ak (z.1:Int))]) (fun z w'=>z.1<=n/\St w w' [bH A4 n z.2.1 (aH M z.1) z.2.2 none 0 0,az 2 z.2.1 (aH M z.1) z.2.2 (bn M z.1),az 2 lL n uB (fI M),bH A2 0 none 0 0 none 0 0,Bx 24 1 A1 [.slice A n c]]) (fun z=>n - z.1) (0,none,0) (alH O) ⟨bm _,aV⟩ ?_;clear aV;rintro⟨i,AR,cR⟩ e w6 ⟨hi,hS⟩;dsimp only at hi hS|-;have TT:=zU i hi;have o8:=je M i;refine b8 O (aR _ O (fun h3=>?_) (fun h3=>?_))
 ·have db:i<n:=by omega
  have wL:=ZJ (M:=M) (i:=i) (by omega);have kE:=vo M i;have uW:=zU (i+1) (by omega);have B9:aH M (i+1)=aH M i+ (fA M i).toNat:=O;have pN:bn M (i+1)=bn M i++List.replicate (fA M i).toNat (i:Int):=O;have hC:=hS.bF 2 O;refine aG O (aF hC.2 O (bh hC O (aI O ?_)));rw [wL];obtain⟨N,hN⟩:∃N:Nat,fA M i=N:=⟨(fA M i).toNat,by omega⟩;rw [hN,gI]at B9 pN;rw [hN]at kE|-;refine jA [6,8] [yP (aB (A4) 1),yS (AR) (aH M i) (cR),yI ((i:Int)),.pr (fun v w'=>∃A9,v= .slice A9 1 1/\St w w' (az 2 A9 1 1 [(i:Int)]::[bH A4 n AR (aH M i) cR none 0 0,az 2 AR (aH M i) cR (bn M i),az 2 lL n uB (fI M),bH A2 0 none 0 0 none 0 0,Bx 24 1 A1 [.slice A n c]])),yI ((N:Int)),.pr (fun v w'=>∃A9,v= .slice A9 N N/\St w w' (az 2 A9 N N (List.replicate N (i:Int))::[bH A4 n AR (aH M i) cR none 0 0,az 2 AR (aH M i) cR (bn M i),az 2 lL n uB (fI M),bH A2 0 none 0 0 none 0 0,Bx 24 1 A1 [.slice A n c]])),.pr (fun v w'=>∃bT eh,v= .slice bT (aH M i+N) eh/\St w w' [bH A4 n AR (aH M i) cR none 0 0,az 2 bT (aH M i+N) eh (bn M i++List.replicate N (i:Int)),az 2 lL n uB (fI M),bH A2 0 none 0 0 none 0 0,Bx 24 1 A1 [.slice A n c]]),yP (aB (A4) 1),.pr (fun _ w'=>∃bT eh,St w w' [bH A4 n bT (aH M i+N) eh none 0 0,az 2 bT (aH M i+N) eh (bn M i++List.replicate N (i:Int)),az 2 lL n uB (fI M),bH A2 0 none 0 0 none 0 0,Bx 24 1 A1 [.slice A n c]])] (ly (ly (ly (cj.2 ⟨Ye.cN (fun v w w' h hb=>by obtain⟨A9,hv,hT⟩:=h;exact⟨A9,hv,hT.aq hb⟩),(ly (cj.2 ⟨Ye.cN (fun v w w' h hb=>by obtain⟨A9,hv,hT⟩:=h;exact⟨A9,hv,hT.aq hb⟩),(cj.2 ⟨Ye.cN (fun v w w' h hb=>by obtain⟨bT,eh,hv,hT⟩:=h;exact⟨bT,eh,hv,hT.aq hb⟩),(ly (cj.2 ⟨Ye.cN (fun v w w' h hb=>by obtain⟨bT,eh,hT⟩:=h;exact⟨bT,eh,hT.aq hb⟩),(fun _ h=>by cases h)⟩))⟩)⟩))⟩)))) ?_ ?_
  ·refine⟨cP fun _ _ hb _ _ _=>aW ((hS.rd 0 O).below hb) O (bq O O),cP fun _ _ hb _ _ _=>a8 ((hS.rd 0 O).below hb) O (bq O O),bQ O,?_,bQ O,?_,?_,?_,?_,av⟩
   ·refine cP fun e1 w1 hb hp aY hq=>?_
    exact dV (St.refl _) O O O fun A9 w9 ax=>ao.n (eO.dn O ax.below ⟨A9,O,(hS.aq hb).call ax⟩)
   ·refine cP fun e1 w1 hb hp aY hq=>?_
    obtain⟨A9,Bs,hT⟩:=(hp 3 _ _ (by kernel_rfl) rfl rfl (by kernel_rfl));refine als (Hq A9 1 i N _ (hT.bF 0 O) (by omega)) O (by exact aK (fun v=> [v,Value.int .i64 (N:Int)]) Bs) O ?_;rintro _ w2 ⟨A5,rfl,ax⟩;exact ao.n (eO.dn O ax.below ⟨A5,O,hT.tail.call ax⟩)
   ·refine jC fun e1 w1 hb hp aY hq=>?_
    obtain⟨A9,Fi,hT⟩:=(hp 5 _ _ (by kernel_rfl) rfl rfl (by kernel_rfl));refine fp 2 hT O (hT.bF 0 O) O (by exact Fi) O ?_;intro bT eh dQ uL;exact ao.n (fH.dn O ⟨bT,eh,O,uL.tail⟩)
   ·refine dP 1 fun e1 w1 hp aY hq=>?_
    have fe:=hp 6 _ _ (by kernel_rfl) O O (by kernel_rfl);obtain⟨bT,eh,Ig,hT⟩:=fe;refine aW ((hT.rd 0 O)) O (ao.n (fL O (by exact O)))
   refine rJ 1 fun e1 w1 hp aY hq=>?_
   have fe:=hp 6 _ _ (by kernel_rfl) O O (by kernel_rfl);obtain⟨bT,eh,Ig,hT⟩:=fe;refine ka 0 hT O O (by exact Ig) O O ?_;intro eI vz;exact ao.n (fH.st O ⟨bT,eh,vz⟩)
  intro u w7 _ hu _ _;obtain⟨bT,eh,hT⟩:=hu 8 _ rfl (by kernel_rfl);rw [<-B9,<-pN]at hT;refine iV O (aJ O (aT O (tQ ?_)));exact⟨(i+1,bT,eh),by show n - (i+1)<n - i;omega,(alH O),by show i+1<=n;omega,hT⟩
 obtain rfl:i=n:=by omega
 have iZ:M.length=i:=hl;generalize hK:aH M i=N at*;have gf:=hS.rd 0 O;refine bw O (bA (dh O ?_));refine aW gf O (a8 gf O ?_);refine bk O O (aI O ?_);refine aR _ O (fun h4=>?_) (fun h4=>?_)
 ·refine aG O (Bd O (bW 3 3 hS O O O O O O O ?_));intro w9 a7;refine bM O (jI O (a7.rd 3 O) O ?_);exact .inl ⟨by rw [iZ,hK];omega,O,a7.none⟩
 refine aG O (aW gf O (a8 gf O (bk O O (Hn N hS O O (by omega) ?_))));intro dE w7 a6;have a6:St w w7 (b9 32 dE N N (List.replicate N eA)::[bH A4 i AR N cR none 0 0,az 2 AR N cR (bn M i),az 2 lL i uB (fI M),bH A2 0 none 0 0 none 0 0,Bx 24 1 A1 [.slice A i c]]):=a6;refine aW (a6.rd 1 O) O (ka 1 a6 O O O O O ?_);intro w8 bL;have bL:St w w8 (b9 32 dE N N (List.replicate N eA)::[bH A4 i AR N cR dE N N,az 2 AR N cR (bn M i),az 2 lL i uB (fI M),bH A2 0 none 0 0 none 0 0,Bx 24 1 A1 [.slice A i c]]):=bL;clear a6 hS;refine ar O (aL (YQ A1 A i c rs M _ (Rd.one (bL.rd 5 O)) (bL.bS hR) hM) O ?_);rintro _ w9 ⟨tc,pw,rfl,adJ,ax⟩;obtain⟨F,hF⟩:∃F,(gl M 0).length=F:=⟨_,rfl⟩;rw [hF]at h2 adJ ax|-;have Sq:(qt M).length=F:=by simp [qt,hF]
 have a7:=bL.call ax;clear ax bL;obtain⟨KK,sH⟩:∃KK:List Ck,KK=az 2 AR N cR (bn M i)::bH A2 0 none 0 0 none 0 0::Bx 24 1 A1 [.slice A i c]::(aO 32 2 tc F F pw (qt M)++ []):=⟨_,rfl⟩;have a7:St w w9 (bH A4 i AR N cR dE N N::(aO 32 2 dE N N (List.replicate N eA) (List.replicate N [])++KK)):=by
  rw [sH];have h9:=(a7.perm ku);have h9:=GG (t:=2) N h9;have hp:([b9 32 dE N N (List.replicate N eA),bH A4 i AR N cR dE N N,az 2 AR N cR (bn M i),az 2 lL i uB (fI M),bH A2 0 none 0 0 none 0 0,Bx 24 1 A1 [.slice A i c]]++ (aO 32 2 tc F F pw (qt M)++ [])++dq 2 (List.replicate N eA) (List.replicate N [])).Perm (az 2 lL i uB (fI M)::(bH A4 i AR N cR dE N N::(aO 32 2 dE N N (List.replicate N eA) (List.replicate N [])++ (az 2 AR N cR (bn M i)::bH A2 0 none 0 0 none 0 0::Bx 24 1 A1 [.slice A i c]::(aO 32 2 tc F F pw (qt M)++ []))))):=by
   unfold aO;generalize dq 2 (List.replicate N eA) (List.replicate N [])=X;generalize b9 32 tc F F pw::dq 2 pw (qt M)++ []=Y;generalize b9 32 dE N N (List.replicate N eA)=q1;generalize bH A4 i AR N cR dE N N=q2;generalize az 2 AR N cR (bn M i)=q3;generalize az 2 lL i uB (fI M)=q4;generalize bH A2 0 none 0 0 none 0 0=q5;generalize Bx 24 1 A1 [.slice A i c]=q6;exact ag5 q1 q2 q3 q4 q5 q6 X Y
  exact(h9.perm hp).tail
 have lF:∀(rs':List aQ) (B:ah),(aO 32 2 tc F F pw (qt M)).Sublist (bH A4 i AR N cR dE N N::(aO 32 2 dE N N rs' B++KK)):=fun rs' B=>by
  rw [sH];refine List.Sublist.cons _ (List.Sublist.trans ?_ (iL _ _));refine List.Sublist.cons _ (List.Sublist.cons _ (List.Sublist.cons _ ?_));rw [eu];exact fE _
 have mC:aH M M.length=N:=by rw [iZ,hK]
 refine bk O O (aI O ?_);refine Cd.loop (α:=Nat×List aQ×ah) (fun z=> [(1,.pointer A1),(2,.pointer A2),(4,.pointer A4),(40,.slice tc F F),(41,ak F),(42,ak (z.1:Int))]) (fun z w'=>z.1<=F/\z.2.1.length=N/\sv M z.1 0 z.2.2/\St w w' (bH A4 i AR N cR dE N N::(aO 32 2 dE N N z.2.1 z.2.2++KK))) (fun z=>F - z.1) (0,List.replicate N eA,List.replicate N []) (alH O) ⟨bm _,by simp,by have:=sv.zero M;rwa [mC]at this,a7⟩ ?_;clear a7;rintro⟨f,Em,B⟩ e dQ ⟨hf,Jc,hB,hS⟩;dsimp only at hf Jc hB hS|-;refine b8 O (aR _ O (fun h5=>?_) (fun h5=>?_))
 ·have tJ:f<F:=by omega
  have zC:=(hS.sub (lF Em B)).s7 Sq;have cJ:=zC.at_ (i:=(f:Int)) (by omega) (by omega);have b5:=cJ.1;have DG:gl (qt M) f=(List.range M.length).map fun k=>bC M k f:=by rw [cK (by omega)];simp [qt]
  have iS:(rg pw f).n=i:=by rw [<-b5,DG];simp [iZ]
  refine aG O (aF zC.top.2 O (b6 zC.top O ?_));refine ar O (bk O O (aI O ?_));refine Cd.loop (α:=Nat×List aQ×ah) (fun z=> [(1,.pointer A1),(2,.pointer A2),(4,.pointer A4),(40,.slice tc F F),(41,ak F),(42,ak f),(8,.slice (rg pw f).a (rg pw f).n (rg pw f).c),(46,.slice (rg pw f).a (rg pw f).n (rg pw f).c),(47,ak ((rg pw f).n:Int)),(48,ak (z.1:Int))]) (fun z w'=>z.1<=i/\z.2.1.length=N/\sv M f z.1 z.2.2/\St w w' (bH A4 i AR N cR dE N N::(aO 32 2 dE N N z.2.1 z.2.2++KK))) (fun z=>i - z.1) (0,Em,B) (alH O) ⟨bm _,Jc,hB,hS⟩ ?_;clear hS hB zC cJ b5 Jc;rintro⟨j,de,B4⟩ e eI ⟨hj,uX,gf,aU⟩;dsimp only at hj uX gf aU|-;have o4:B4.length=N:=by rw [gf.len,mC]
  refine b8 O (aR _ O (fun h6=>?_) (fun h6=>?_))
  ·have sO:j<i:=by omega
   have zC:=(aU.sub (lF de B4)).s7 Sq;have cJ:=zC.at_ (i:=(f:Int)) (by omega) (by omega);have b5:=cJ.1;have Tr:gi (gl (qt M) f) j=bC M j f:=by rw [cd (by omega)];simp [DG]
   have db:=qq hM (i:=j) (f:=f) (by omega);have I0:=oI M (show j+1<=M.length by omega);rw [mC]at I0;obtain⟨E,hE⟩:∃E:Nat,bC M j f=E:=⟨(bC M j f).toNat,by omega⟩;rw [hE]at Tr db;have iG:=gf.next hM (by omega) (show j<M.length by omega);rw [hE,gI]at iG;have sG:E<N:=by omega
   have DV:(gl (qt M) f).take j=(List.range j).map fun k=>bC M k f:=by
    rw [DG,<-List.map_take,List.take_range,Nat.min_eq_left (by omega)]
   have mD:bz eI dE N de B4:=(aU.perm (jc (l₁:=aO 32 2 dE N N de B4)).symm).gj o4;have yn:=(mD.at_ (i:=(E:Int)) (by omega) (by omega)).1;have wS:=gf.num E;refine aG O (aF cJ.2 O (bh cJ O (aI O ?_)));rw [Tr];have qT:(bH A4 i AR N cR dE N N::(aO 32 2 dE N N de B4++KK))[2+E]?=some (az 2 (rg de E).a (rg de E).n (rg de E).c (gl B4 E)):=D7 (t1:=32) (t2:=2) (A:=dE) (n:=N) (c:=N) (rs:=de) (xss:=B4) (pre:=[bH A4 i AR N cR dE N N]) (ks:=KK) (i:=E) (by omega) (by omega);have oy:=fun(s:aQ) (xs:ai)=>N6 (t1:=32) (t2:=2) (A:=dE) (n:=N) (c:=N) (rs:=de) (xss:=B4) (ks:=KK) (q:=bH A4 i AR N cR dE N N) (i:=E) s xs (by omega) (by omega)
   refine jA [11,13] [yP (aB A4 2),yS (dE) (N) (N),yI ((E:Int)),yP (aB (A4) 2),yS (dE) (N) (N),yI ((E:Int)),yP (aB (dE) ((E:Int)).toNat),yS ((rg (de) ((E:Int))).a) ((rg (de) ((E:Int))).n) ((rg (de) ((E:Int))).c),yS ((rg pw f).a) ((rg pw f).n) ((rg pw f).c),yI ((j:Int)),yS ((rg pw f).a) (j) ((rg pw f).c),.pr (fun v w'=>∃AZ cZ,v= .slice AZ ((rg de E).n+j) cZ/\St w w' (bH A4 i AR N cR dE N N::(b9 32 dE N N de::(dq 2 (de.set E ⟨AZ,(rg de E).n+j,cZ⟩) (B4.set E (gl B4 E++ (gl (qt M) f).take j))++KK)))),yP (aB dE ((E:Int)).toNat),.pr (fun _ w'=>∃AZ cZ,St w w' (bH A4 i AR N cR dE N N::(aO 32 2 dE N N (de.set E ⟨AZ,(rg de E).n+j,cZ⟩) (B4.set E (gl B4 E++ (gl (qt M) f).take j))++KK)))] (ly (ly (ly (ly (ly (ly (ly (ly (ly (ly (ly (cj.2 ⟨Ye.cN (fun v w w' h hb=>by obtain⟨AZ,cZ,hv,hT⟩:=h;exact⟨AZ,cZ,hv,hT.aq hb⟩),(ly (cj.2 ⟨Ye.cN (fun v w w' h hb=>by obtain⟨AZ,cZ,hT⟩:=h;exact⟨AZ,cZ,hT.aq hb⟩),(fun _ h=>by cases h)⟩))⟩)))))))))))) ?_ ?_
   ·refine⟨?_,?_,bQ O,cP fun _ _ hb _ _ _=>aW ((aU.rd 0 O).below hb) O (bq O O),cP fun _ _ hb _ _ _=>a8 ((aU.rd 0 O).below hb) O (bq O O),bQ O,cP fun _ _ hb _ _ _=>aF (mD.top.aq hb).2 O (bq O O),cP fun _ _ hb _ _ _=>b6 (mD.top.aq hb) O (bq O O),bQ O,bQ O,aP fun _ _=>Kj O O O (by have:=zC.cap_ (i:=(f:Int)) (by omega) (by omega);omega) (bq O O),?_,?_,?_,av⟩
    ·intro e1 w1 cc dS cI dX hp aY hq;show ao _ _ _ _ _ _ _;have hX:Rd w1 A4 3 (fun q=> [Value.int .i64 (i:Int),.slice AR N cR,.slice dE N N].getD q undef):=by { have cI:=pj cI (b:=1) (by kernel_rfl);rcases(show cc=0\/cc=1 by omega)with h | h; { exact(aU.aq (dX h)).rd 0 rfl }; { subst h;obtain⟨AZ,cZ,_,hT⟩:=hq 11 _ _ (by kernel_rfl) (by kernel_rfl) (by kernel_rfl) rfl rfl (by kernel_rfl);exact hT.rd 0 rfl } }
     refine aW hX O (ao.n (fL O (by exact O)))
    ·intro e1 w1 cc dS cI dX hp aY hq;show ao _ _ _ _ _ _ _;have hX:Rd w1 A4 3 (fun q=> [Value.int .i64 (i:Int),.slice AR N cR,.slice dE N N].getD q undef):=by { have cI:=pj cI (b:=1) (by kernel_rfl);rcases(show cc=0\/cc=1 by omega)with h | h; { exact(aU.aq (dX h)).rd 0 rfl }; { subst h;obtain⟨AZ,cZ,_,hT⟩:=hq 11 _ _ (by kernel_rfl) (by kernel_rfl) (by kernel_rfl) rfl rfl (by kernel_rfl);exact hT.rd 0 rfl } }
     refine a8 hX O (ao.n (fL O (by exact O)))
    ·refine jC fun e1 w1 hb hp aY hq=>?_
     have abO:=zC.aq hb;refine fp (2+E) (aU.aq hb) qT ((abO.at_ (i:=(f:Int)) (by omega) (by omega)).take (l:=j) (by omega)) O O O ?_;intro AZ cZ wZ hZ;rw [oy ⟨AZ,(rg de E).n+j,cZ⟩ (gl B4 E++ (gl (qt M) f).take j)]at hZ;exact ao.n (fH.dn O ⟨AZ,cZ,O,hZ⟩)
    ·intro e1 w1 cc dS cI dX hp aY hq;show ao _ _ _ _ _ _ _;have hX:jo w1 dE N de:=by { have cI:=pj cI (b:=1) (by kernel_rfl);rcases(show cc=0\/cc=1 by omega)with h | h; { exact(aU.aq (dX h)).ie 1 rfl }; { subst h;obtain⟨AZ,cZ,_,hT⟩:=hq 11 _ _ (by kernel_rfl) (by kernel_rfl) (by kernel_rfl) rfl rfl (by kernel_rfl);exact hT.ie 1 rfl } }
     refine aF hX.2 O (ao.n (fL O (by exact O)))
    refine rJ 1 fun e1 w1 hp aY hq=>?_
    have fe:=hp 11 _ _ (by kernel_rfl) O O (by kernel_rfl);obtain⟨AZ,cZ,h64,hT⟩:=fe;refine Bg (te:=32) (n:=N) (c:=N) (A:=dE) (xs:=de) 1 hT O O (by exact h64) (by omega) ?_;intro wY hY;exact ao.n (fH.st O ⟨AZ,cZ,hY⟩)
   intro u gL _ hu _ _;obtain⟨AZ,cZ,hT⟩:=hu 13 _ rfl (by kernel_rfl);rw [DV]at hT;refine iV O (aJ O (aT O (tQ ?_)));exact⟨(j+1,_,_),by show i - (j+1)<i - j;omega,(alH O),by show j+1<=i;omega,by simp [uX],iG,hT⟩
  have sO:j=M.length:=by omega
  subst sO;refine bw O (bA (dh O (aJ O (aT O (tQ ?_)))));exact⟨(f+1,de,B4),by show F - (f+1)<F - f;omega,(alH O),by show f+1<=F;omega,uX,gf.row hM,aU⟩
 have tJ:f=F:=by omega
 subst tJ;have o4:B.length=N:=by rw [hB.len,mC]
 have FU:∀e':Nat,e'<N->cs (gl B e')=gl (bE M) e':=fun e' qS=>sv.done hM (by rw [hF];exact hB) (by omega)
 have wS:∀e':Nat,(gl B e').length<=25*f:=fun e'=>by have:=hB.num e';omega
 have gf:=hS.rd 0 O;refine bw O (bA (dh O ?_));refine aW gf O (a8 gf O ?_);refine bk O O (aI O ?_);refine Cd.loop (α:=Nat×List aQ) (fun z=> [(2,.pointer A2),(4,.pointer A4),(70,ak N),(71,ak (z.1:Int))]) (fun z w'=>z.1<=N/\z.2.length=N/\St w w' (bH A4 i AR N cR dE N N::(aO 32 2 dE N N z.2 (ns B z.1)++KK))) (fun z=>N - z.1) (0,Em) (alH O) ⟨bm _,Jc,by rw [agm];exact hS⟩ ?_;clear hS gf;rintro⟨E,de⟩ e eI ⟨hE,uX,hS⟩;dsimp only at hE uX hS|-;have kW:=agk B E;refine b8 O (aR _ O (fun h6=>?_) (fun h6=>?_))
 ·have sG:E<N:=by omega
  have TI:=agj (B:=B) (e:=E) (by omega);have qY:=agl (B:=B) (e:=E) (by omega);have gf:=hS.rd 0 O;have mD:bz eI dE N de (ns B E):=(hS.perm (jc (l₁:=aO 32 2 dE N N de (ns B E))).symm).gj (by omega);have yn:=(mD.at_ (i:=(E:Int)) (by omega) (by omega)).1;rw [TI]at yn;have hq:=wS E;have qT:(bH A4 i AR N cR dE N N::(aO 32 2 dE N N de (ns B E)++KK))[2+E]?=some (az 2 (rg de E).a (rg de E).n (rg de E).c (gl B E)):=by
   have h0:=D7 (t1:=32) (t2:=2) (A:=dE) (n:=N) (c:=N) (rs:=de) (xss:=ns B E) (pre:=[bH A4 i AR N cR dE N N]) (ks:=KK) (i:=E) (by omega) (by omega);rw [<-TI];exact h0
  have ada:=(iQ.1 qT).1;have oy:=fun(s:aQ) (xs:ai)=>N6 (t1:=32) (t2:=2) (A:=dE) (n:=N) (c:=N) (rs:=de) (xss:=ns B E) (ks:=KK) (q:=bH A4 i AR N cR dE N N) (i:=E) s xs (by omega) (by omega)
  refine aG O (aW gf O (a8 gf O (ar O (aF mD.top.2 O (b6 mD.top O (aL (aiG (2+E) hS qT (by omega)) O ?_))))));rintro _ gL ⟨rfl,a6⟩;have yf:((bH A4 i AR N cR dE N N::(aO 32 2 dE N N de (ns B E)++KK)).set (2+E) (az 2 (rg de E).a (rg de E).n (rg de E).c (oK (gl B E))))[2+E]?=some (az 2 (rg de E).a (rg de E).n (rg de E).c (oK (gl B E))):=by
   rw [pA,ay rfl,ay ada]
  have e7:=oy ⟨(rg de E).a,(rg de E).n,(rg de E).c⟩ (oK (gl B E));have eo:jo gL dE N de:=by
   have h8:=a6;rw [e7]at h8;exact h8.ie 1 O
  have Bt:Rd gL A4 3 (fun q=> [Value.int .i64 (i:Int),.slice AR N cR,.slice dE N N].getD q undef):=by
   have h8:=a6;rw [e7]at h8;exact h8.rd 0 O
  refine aI O ?_;refine jA [8,10] [yP (aB A4 2),yS (dE) (N) (N),yI ((E:Int)),yP (aB (A4) 2),yS (dE) (N) (N),yI ((E:Int)),yP (aB (dE) ((E:Int)).toNat),yS ((rg (de) ((E:Int))).a) ((rg (de) ((E:Int))).n) ((rg (de) ((E:Int))).c),.pr (fun v w'=>v= .slice (rg de E).a (l6 (oK (gl B E))).length (rg de E).c/\St w w' (bH A4 i AR N cR dE N N::(b9 32 dE N N de::(dq 2 (de.set E ⟨(rg de E).a,(l6 (oK (gl B E))).length,(rg de E).c⟩) ((ns B E).set E (l6 (oK (gl B E))))++KK)))),yP (aB dE ((E:Int)).toNat),.pr (fun _ w'=>St w w' (bH A4 i AR N cR dE N N::(aO 32 2 dE N N (de.set E ⟨(rg de E).a,(l6 (oK (gl B E))).length,(rg de E).c⟩) ((ns B E).set E (l6 (oK (gl B E))))++KK)))] (ly (ly (ly (ly (ly (ly (ly (ly (cj.2 ⟨Ye.cN (fun v w w' h hb=> ⟨h.1,h.2.aq hb⟩),(ly (cj.2 ⟨Ye.cN (fun v w w' h hb=>h.aq hb),(fun _ h=>by cases h)⟩))⟩))))))))) ?_ ?_
  ·refine⟨?_,?_,bQ O,cP fun _ _ hb _ _ _=>aW (Bt.below hb) O (bq O O),cP fun _ _ hb _ _ _=>a8 (Bt.below hb) O (bq O O),bQ O,cP fun _ _ hb _ _ _=>aF (eo.aq hb).2 O (bq O O),cP fun _ _ hb _ _ _=>b6 (eo.aq hb) O (bq O O),?_,?_,?_,av⟩
   ·intro e1 w1 cc dS cI dX hp aY hq;show ao _ _ _ _ _ _ _;have hX:Rd w1 A4 3 (fun q=> [Value.int .i64 (i:Int),.slice AR N cR,.slice dE N N].getD q undef):=by { have cI:=pj cI (b:=1) (by kernel_rfl);rcases(show cc=0\/cc=1 by omega)with h | h; { exact Rd.below Bt (dX h) }; { subst h;obtain⟨_,hT⟩:=hq 8 _ _ (by kernel_rfl) (by kernel_rfl) (by kernel_rfl) rfl rfl (by kernel_rfl);exact hT.rd 0 rfl } }
    refine aW hX O (ao.n (fL O (by exact O)))
   ·intro e1 w1 cc dS cI dX hp aY hq;show ao _ _ _ _ _ _ _;have hX:Rd w1 A4 3 (fun q=> [Value.int .i64 (i:Int),.slice AR N cR,.slice dE N N].getD q undef):=by { have cI:=pj cI (b:=1) (by kernel_rfl);rcases(show cc=0\/cc=1 by omega)with h | h; { exact Rd.below Bt (dX h) }; { subst h;obtain⟨_,hT⟩:=hq 8 _ _ (by kernel_rfl) (by kernel_rfl) (by kernel_rfl) rfl rfl (by kernel_rfl);exact hT.rd 0 rfl } }
    refine a8 hX O (ao.n (fL O (by exact O)))
   ·refine jC fun e1 w1 hb hp aY hq=>?_
    refine aL (ZO (2+E) (a6.aq hb) yf (by omega)) O ?_;rintro _ w9 ⟨rfl,bL⟩;rw [l4,oy ⟨(rg de E).a,(l6 (oK (gl B E))).length,(rg de E).c⟩ (l6 (oK (gl B E)))]at bL;exact ao.n (fH.dn O ⟨O,bL⟩)
   ·intro e1 w1 cc dS cI dX hp aY hq;show ao _ _ _ _ _ _ _;have hX:jo w1 dE N de:=by { have cI:=pj cI (b:=1) (by kernel_rfl);rcases(show cc=0\/cc=1 by omega)with h | h; { exact eo.aq (dX h) }; { subst h;obtain⟨_,hT⟩:=hq 8 _ _ (by kernel_rfl) (by kernel_rfl) (by kernel_rfl) rfl rfl (by kernel_rfl);exact hT.ie 1 rfl } }
    refine aF hX.2 O (ao.n (fL O (by exact O)))
   refine rJ 1 fun e1 w1 hp aY hq=>?_
   have fe:=hp 8 _ _ (by kernel_rfl) O O (by kernel_rfl);obtain⟨LO,hT⟩:=fe;refine Bg (te:=32) (n:=N) (c:=N) (A:=dE) (xs:=de) 1 hT O O (by exact LO) (by omega) ?_;intro wY hY;exact ao.n (fH.st O hY)
  intro u gC _ hu _ _;have hT:=hu 10 _ O (by kernel_rfl);have hT:St w gC (bH A4 i AR N cR dE N N::(aO 32 2 dE N N (de.set E ⟨(rg de E).a,(l6 (oK (gl B E))).length,(rg de E).c⟩) ((ns B E).set E (cs (gl B E)))++KK)):=hT;rw [qY]at hT;refine iV O (aJ O (aT O (tQ ?_)));exact⟨(E+1,_),by show N - (E+1)<N - E;omega,(alH O),by show E+1<=N;omega,by simp [uX],hT⟩
 have sG:E=N:=by omega
 have dO:ns B E=bE M:=by
  rw [sG,<-o4,agi];apply jX
  ·rw [fj,uG,o4,mC]
  intro k h1 h2;rw [fj]at h1;have e1:=FU k (by omega);rw [cK h1,cK h2]at e1;rw [List.getElem_map];exact e1
 rw [dO]at hS;refine bw O (bA (dh O ?_));refine alC 2 (hS.rd 0 O) O ?_;have aD:St w eI (bH A2 0 none 0 0 none 0 0::(az 2 AR N cR (bn M i)::(aO 32 2 dE N N de (bE M)++ []))):=by
  have hs:(aO 32 2 dE N N de (bE M)++ [az 2 AR N cR (bn M i),bH A2 0 none 0 0 none 0 0]).Sublist (bH A4 i AR N cR dE N N::(aO 32 2 dE N N de (bE M)++KK)):=by
   rw [sH];exact List.Sublist.cons _ (List.Sublist.append_left (List.Sublist.cons_cons _ (List.Sublist.cons_cons _ (List.nil_sublist _))) _)
  refine(hS.sub hs).perm ?_;rw [eu];exact(ku).trans (List.Perm.swap _ _ _)
 refine bW 3 0 aD O O O O O O O fun gL fB=>bM O (jI O (fB.rd 0 O) O ?_);refine .inr ⟨by omega,AR,cR,dE,N,de,?_,by rw [mC];exact uX,?_⟩
 ·rw [mC,iZ];rfl
 rw [mC,iZ];exact fB.tail
theorem XT(A:aj)(n c:Nat)(xs:ai)(w:aa)(hR:di w A n xs)(hn:n<=1000000000):
 aN prog 147 [.slice A n c] w (fun v w'=>∃b:Bool,v= .bool b/\(b=true↔tf xs)/\St w w' []):=by
 have dG:=hR.1;refine bI func147 O ntmps147 O (du O) ?_;refine bc O (bk O O (dT O (aI O ?_)));refine Cd.loop (α:=Nat) (fun k=> [(0,.slice A n c),(3,ak ((n:Int) - 1 - (k:Int)))]) (fun k w'=>St w w' []/\(k<=n - 1)/\∀j:Nat,n - k<=j->j<n->gi xs ((j:Int) - 1)<=gi xs j) (fun k=>n - k) 0 ⟨O,aK (Value.int .i64) (by show(n:Int) - 1=(n:Int) - 1 - ((0:Nat):Int);omega),av⟩ ⟨St.refl w,bm _,fun j h1 h2=>by omega⟩ ?_;rintro k e w1 ⟨hS,hk,hK⟩;have kC:=hS.gH hR;refine b8 O (aR _ O (fun h1=>?_) (fun h1=>?_))
 ·have e1:((n:Int) - 1 - (k:Int))=((n - 1 - k:Nat):Int):=by omega
  have e2:((n:Int) - 1 - (k:Int) - 1)=((n - 1 - k:Nat):Int) - 1:=by omega
  refine cM O ?_;refine eB [xS (A) (n) (c),xI (((n:Int) - 1 - (k:Int))),xP (aB (A) (((n:Int) - 1 - (k:Int))).toNat),xI (gi (xs) (((n:Int) - 1 - (k:Int)))),xS (A) (n) (c),xI (((n:Int) - 1 - (k:Int))),xI ((((n:Int) - 1 - (k:Int))) - ((1:Int))),xP (aB (A) ((((n:Int) - 1 - (k:Int))) - ((1:Int))).toNat),xI (gi (xs) ((((n:Int) - 1 - (k:Int))) - ((1:Int)))),xB (decide (gi xs ((n:Int) - 1 - (k:Int))<gi xs ((n:Int) - 1 - (k:Int) - 1)))] O (eQ O) ?_ ?_
  ·refine⟨Dr O,Dr O,fun _ _ hb _ _=>aF (kC.aq hb).2 O Az,fun _ _ hb _ _=>bh (kC.aq hb) O Az,Dr O,Dr O,fun _ _ _ _ _=>dT O Az,fun _ _ hb _ _=>aF (kC.aq hb).2 O Az,fun _ _ hb _ _=>bh (kC.aq hb) O Az,?_,av⟩
   ·intro e1 w1 hb hp aY;refine aL (QG _ _ _) O ?_;rintro _ w2 ⟨rfl,ax⟩;subst ax;refine ao.n (d0 (by exact O))
  intro u w2 hb _;have aD:=hS.aq hb;refine fh O (aR _ O (fun h2=>?_) (fun h2=>?_))
  ·refine eF O (fD (e6 ?_));refine dz O ?_;refine⟨false,rfl,⟨fun h=> (by cases h),fun h=>?_⟩,aD⟩;rw [e1]at h2;have h3:=List.pairwise_iff_getElem.1 h (n - 1 - k - 1) (n - 1 - k) (by omega) (by omega) (by omega);rw [<-cd (by omega),<-cd (by omega),show((n - 1 - k - 1:Nat):Int)=((n - 1 - k:Nat):Int) - 1 by omega]at h3;omega
  ·refine aG O (dT O (aT O (tQ ?_)));refine⟨k+1,by show n - (k+1)<n - k;omega,⟨O,aK (Value.int .i64) (by show(n:Int) - 1 - (k:Int) - 1=(n:Int) - 1 - ((k+1:Nat):Int);omega),av⟩,aD,by omega,fun j F4 oD=>?_⟩
   by_cases ej:n - k<=j
   ·exact hK j ej oD
   ·have:(j:Int)=(n:Int) - 1 - (k:Int):=by omega
    rw [this];omega
 ·refine bw O (bA (ij O ?_));refine dz O ⟨true,O,⟨fun _=>?_,fun _=>O⟩,hS⟩;have key:∀j i:Nat,i<=j->j<n->gi xs i<=gi xs j:=by
   intro j
   induction j with
   | zero=>
    intro i hi _;have:i=0:=by omega
    rw [this];exact Int.le_refl _
   | succ j ih=>
    intro i hi hj
    by_cases e:i=j+1
    ·subst e;exact Int.le_refl _
    ·have h3:=ih i (by omega) (by omega);have h4:=hK (j+1) (by omega) hj;rw [show((j+1:Nat):Int) - 1=(j:Int) by omega]at h4;omega
  refine List.pairwise_iff_getElem.2 fun i j hi hj iJ=>?_
  have:=key j i (by omega) (by omega)
  rwa [cd hi,cd hj]at this
theorem YR{n:Int}{R:ai}(h:∀x∈R,0<=x/\x<=n - 1):Bh 0 (n - 1) R:=h
theorem UL(n:Int)(A D:aj)(cA cD:Nat)(R:ai)(rs:List aQ)(B:ah)(w:aa)(hR:di w A R.length R)(hB:bz w D B.length rs B)(hP:gE n R B):
 aN prog 85 [.agg #[ak n,.slice A R.length cA,.slice D B.length cD]] w (fun v w'=>v= .bool true/\St w w' []):=by
 have hn:=hP.n1;have pb:=hP.oV;have hle:=hP.len;have cJ:=fun e (h:e<R.length)=>hP.row e h
 have b5:∀e:Nat,e<R.length->(gl B e).length<=500:=fun e h=>by
  have:=qA (N:=R.length) (cJ e h).1.nodup fun x hx=> ((cJ e h).2 x hx).1
  omega
 obtain⟨N,hN⟩:∃N,R.length=N:=⟨_,rfl⟩;rw [hN]at hR pb hle cJ b5|-;rw [hle]at hB|-;refine bI func85 O ntmps85 O (du O) (bc O (mW (St.refl w) O O ?_));intro A1 w1 aE;have df:=aE.below;have h1:Rd w1 A1 3 (fun j=> [Value.int .i64 n,.slice A N cA,.slice D N cD].getD j undef):=aE.rd 0 O;have hR:=hR.aq df;have hB:=hB.aq df;have aE:=aE.none;refine ar O (aW h1 O (a8 h1 O (aL (CA _ _ _ _) O ?_)));rintro _ w1 ⟨rfl,rfl⟩;refine ar O (aW h1 O (iW (j:=0) h1 (by exact aK Value.pointer O) O O O O (aL (yV _ _ _ _) O ?_)));rintro _ w1 ⟨rfl,rfl⟩
 first | refine eZ rfl rfl ?_ | refine fY rfl rfl ?_
 refine ar O (cT 23 O (fun h=>absurd (by omega) h) (fun _=>?_));refine au O (ar O (au O (ar O ?_)));refine cT 27 O (fun h=>by omega) (fun _=>?_);refine au O (aW h1 O (au O (a8 h1 O ?_)));refine au O (bk O O (au O ?_));refine aW h1 O (au O (a8 h1 O ?_));refine au O (bk O O (au O (ar O ?_)));refine cT 36 O (fun h=>absurd O h) (fun _=>?_);refine au O (aW h1 O (au O (a8 h1 O (au O (aW h1 O (au O (iW (j:=0) h1 (by exact aK Value.pointer O) O O O O ?_)))))));refine au O (dT O (au O ?_));refine aL (Y0 A N cA R 0 (n - 1) _ hR (by omega)) O ?_;rintro _ w2 ⟨rfl,ax⟩;have hb:=ax.below;have h1:=Rd.below h1 hb;have hR:=hR.aq hb;have hB:=hB.aq hb;have aE:=aE.aq hb;clear ax hb;refine au O ?_
 first | refine eZ rfl rfl ?_ | refine fY rfl rfl ?_
 refine ar O (cT 45 O (fun h=>absurd (YR hP.dp) h) (fun _=>?_));refine au O (aW h1 O (au O (a8 h1 O (au O (aL (XT A N cA R _ hR (by omega)) O ?_)))));rintro _ w3 ⟨b,rfl,hbS,ax⟩;obtain rfl:=hbS.2 hP.ET;have hb:=ax.below;have h1:=Rd.below h1 hb;have hR:=hR.aq hb;have hB:=hB.aq hb;have aE:=aE.aq hb;clear ax hb;refine au O ?_
 first | refine eZ rfl rfl ?_ | refine fY rfl rfl ?_
 refine aI O (Cd.gq O (aG O (aW h1 O (a8 h1 O ?_))));refine bk O O (aI O ?_);refine Cd.loop (α:=Nat) (fun k=> [(1,.pointer A1),(3,ak N),(52,.slice D N cD),(53,ak N),(54,ak k)]) (fun k w'=>k<=N/\St w3 w' []) (fun k=>N - k) 0 (alH O) ⟨bm _,St.refl _⟩ ?_;rintro k e w4 ⟨hk,ax⟩;have hb:=ax.below;have h1:=Rd.below h1 hb;have hR:=hR.aq hb;have hB:=hB.aq hb;have aE:=aE.aq hb;clear hb;refine b8 O (aR _ O (fun h3=>?_) (fun h3=>?_))
 ·have vK:k<N:=by omega
  have gS:=hB.at_ (i:=(k:Int)) (by omega) (by omega);have iS:=gS.1;have hr5:=b5 k vK;have jG:=cJ k vK;refine aG O (aF hB.top.2 O (b6 hB.top O ?_));refine ar O (bk O O (aI O ?_));refine Cd.loop (α:=Nat) (fun q=> [(1,.pointer A1),(3,ak N),(52,.slice D N cD),(53,ak N),(54,ak k),(4,ak k),(5,.slice (rg rs k).a (rg rs k).n (rg rs k).c),(59,.slice (rg rs k).a (rg rs k).n (rg rs k).c),(60,ak ((rg rs k).n:Int)),(61,ak q)]) (fun q w'=>q<=(rg rs k).n/\St w4 w' []) (fun q=> (rg rs k).n - q) 0 (alH O) ⟨bm _,St.refl _⟩ ?_;rintro q e w5 ⟨hq,np⟩;have hb:=np.below;have h1:=Rd.below h1 hb;have hR:=hR.aq hb;have hB:=hB.aq hb;have gS:=gS.aq hb;clear hb;refine b8 O (aR _ O (fun h4=>?_) (fun h4=>?_))
  ·have I9:q< (gl B k).length:=by omega
   have hd:=jG.2 (gi (gl B k) q) (gi_in I9);refine aG O (aF gS.2 O (bh gS O (aI O ?_)));generalize Td:gi (gl B k) q=d at*
   by_cases DQ:0<q
   ·
    have Jf:=jG.1.Aj (show q - 1<q by omega) I9;rw [Td,show((q - 1:Nat):Int)=(q:Int) - 1 by omega]at Jf;refine eB [xI (d),xI ((N:Int)),xI (((N:Int)) - ((1:Int))),xB (decide (0<=d/\d<=(N:Int) - 1)),xB (false),xB (false),xP (aB (A1) 1),xS (A) (N) (cA),xI (d),xP (aB (A) (d).toNat),xI (gi (R) (d)),xP (aB (A1) 1),xS (A) (N) (cA),xI ((k:Int)),xP (aB (A) ((k:Int)).toNat),xI (gi (R) ((k:Int))),xB (false),xB (false),xB (false),xI ((q:Int)),xB (true),xB (true),xS ((rg rs k).a) ((rg rs k).n) ((rg rs k).c),xI ((q:Int)),xI (((q:Int)) - ((1:Int))),xP (aB ((rg rs k).a) (((q:Int)) - ((1:Int))).toNat),xI (gi (gl B k) (((q:Int)) - ((1:Int)))),xI (d),xB (false),xB (false),xB (false)] O (eQ O) ?_ ?_
    ·refine⟨Dr O,Dr O,fun _ _ _ _ _=>dT O Az,?_,fun _ _ _ _ _=>eZ O O (Az (by exact aK Value.bool (dk (fun h=>h (by omega))))),Dr O,fun _ _ hb _ _=>au O (aW (h1.below hb) O Az),fun _ _ hb _ _=>au O (a8 (h1.below hb) O Az),Dr O,fun _ _ hb _ _=>au O (aF (hR.aq hb).2 O Az),fun _ _ hb _ _=>au O (bh (hR.aq hb) O Az),fun _ _ hb _ _=>au O (aW (h1.below hb) O Az),fun _ _ hb _ _=>au O (a8 (h1.below hb) O Az),Dr O,fun _ _ hb _ _=>au O (aF (hR.aq hb).2 O Az),fun _ _ hb _ _=>au O (bh (hR.aq hb) O Az),fun _ _ _ _ _=>Dk O (by exact aK Value.bool (dk (by omega))),Dr O,Dr O,Dr O,fun _ _ _ _ _=>Dk O (by exact aK Value.bool (eP (by omega))),Dr O,Dr O,Dr O,fun _ _ _ _ _=>au O (dT O Az),fun _ _ hb _ _=>au O (aF (gS.aq hb).2 O Az),fun _ _ hb _ _=>au O (bh (gS.aq hb) O Az),Dr O,fun _ _ _ _ _=>Dk O (by exact aK Value.bool (dk (by omega))),Dr O,Dr O,av⟩;intro e1 w1 hb hp aY;refine aL (yV _ _ _ _) O ?_;rintro _ w2 ⟨rfl,ax⟩;subst ax;refine ao.n (d0 (by exact O))
    intro u w6 hb _;refine fh O (Cd.gq O ?_);refine aG O (aJ O (aT O (tQ ?_)));exact⟨q+1,by show(rg rs k).n - (q+1)< (rg rs k).n - q;omega,(alH O),by omega,np.aq hb⟩
   refine eB [xI (d),xI ((N:Int)),xI (((N:Int)) - ((1:Int))),xB (decide (0<=d/\d<=(N:Int) - 1)),xB (false),xB (false),xP (aB (A1) 1),xS (A) (N) (cA),xI (d),xP (aB (A) (d).toNat),xI (gi (R) (d)),xP (aB (A1) 1),xS (A) (N) (cA),xI ((k:Int)),xP (aB (A) ((k:Int)).toNat),xI (gi (R) ((k:Int))),xB (false),xB (false),xB (false),xI ((q:Int)),xB (false),xB (false),xU,xU,xU,xU,xU,xU,xU,xB (false),xB (false)] O (eQ O) ?_ ?_
   ·refine⟨Dr O,Dr O,fun _ _ _ _ _=>dT O Az,?_,fun _ _ _ _ _=>eZ O O (Az (by exact aK Value.bool (dk (fun h=>h (by omega))))),Dr O,fun _ _ hb _ _=>au O (aW (h1.below hb) O Az),fun _ _ hb _ _=>au O (a8 (h1.below hb) O Az),Dr O,fun _ _ hb _ _=>au O (aF (hR.aq hb).2 O Az),fun _ _ hb _ _=>au O (bh (hR.aq hb) O Az),fun _ _ hb _ _=>au O (aW (h1.below hb) O Az),fun _ _ hb _ _=>au O (a8 (h1.below hb) O Az),Dr O,fun _ _ hb _ _=>au O (aF (hR.aq hb).2 O Az),fun _ _ hb _ _=>au O (bh (hR.aq hb) O Az),fun _ _ _ _ _=>Dk O (by exact aK Value.bool (dk (by omega))),Dr O,Dr O,Dr O,fun _ _ _ _ _=>Dk O (by exact aK Value.bool (dk (by omega))),Dr O,Dr O,Dr O,Dr O,Dr O,Dr O,Dr O,Dr O,Dr O,Dr O,av⟩;intro e1 w1 hb hp aY;refine aL (yV _ _ _ _) O ?_;rintro _ w2 ⟨rfl,ax⟩;subst ax;refine ao.n (d0 (by exact O))
   intro u w6 hb _;refine fh O (Cd.gq O ?_);refine aG O (aJ O (aT O (tQ ?_)));exact⟨q+1,by show(rg rs k).n - (q+1)< (rg rs k).n - q;omega,(alH O),by omega,np.aq hb⟩
  refine bw O (bA (dh O (aJ O (aT O (tQ ?_)))));exact⟨k+1,by show N - (k+1)<N - k;omega,(alH O),by omega,ax.aq np.below⟩
 clear ax h3;refine bw O (bA (dh O ?_));refine aW h1 O (a8 h1 O ?_);refine bk O O (aI O ?_);refine Cd.loop (α:=Nat) (fun k=> [(1,.pointer A1),(100,.slice D N cD),(101,ak N),(102,ak k)]) (fun k w'=>k<=N/\St w4 w' []) (fun k=>N - k) 0 (alH O) ⟨bm _,St.refl _⟩ ?_;rintro k e w5 ⟨hk,ax⟩;have hb:=ax.below;have h1:=Rd.below h1 hb;have hB:=hB.aq hb;have aE:=aE.aq hb;clear hb;refine b8 O (aR _ O (fun h3=>?_) (fun h3=>?_))
 ·have vK:k<N:=by omega
  have gS:=hB.at_ (i:=(k:Int)) (by omega) (by omega);have iS:=gS.1;have hr5:=b5 k vK;have jG:=cJ k vK;refine aG O (aF hB.top.2 O (b6 hB.top O ?_));refine ar O (bk O O (aI O ?_));refine Cd.loop (α:=Nat) (fun q=> [(1,.pointer A1),(100,.slice D N cD),(101,ak N),(102,ak k),(9,.slice (rg rs k).a (rg rs k).n (rg rs k).c),(106,.slice (rg rs k).a (rg rs k).n (rg rs k).c),(107,ak ((rg rs k).n:Int)),(108,ak q)]) (fun q w'=>q<=(rg rs k).n/\w'=w5) (fun q=> (rg rs k).n - q) 0 (alH O) ⟨bm _,O⟩ ?_;rintro q e w6 ⟨hq,rfl⟩;refine b8 O (aR _ O (fun h4=>?_) (fun h4=>?_))
  ·have I9:q< (gl B k).length:=by omega
   have sJ:=gi_in I9;have hd:=jG.2 (gi (gl B k) q) sJ;refine aG O (aF gS.2 O (bh gS O (ar O (aW h1 O (a8 h1 O (ar O ?_))))));generalize Td:gi (gl B k) q=d at*;have lT:=hB.at_ (i:=d) (by omega) (by omega);have hrdn:=lT.1;have Gg:(gl B d).length<=500:=by
    have:=b5 d.toNat (by omega)
    rwa [Int.toNat_of_nonneg hd.1.1]at this
   refine aF hB.top.2 O (b6 hB.top O ?_);refine bk O O (aI O ?_);refine Cd.loop (α:=Nat) (fun t=> [(1,.pointer A1),(100,.slice D N cD),(101,ak N),(102,ak k),(9,.slice (rg rs k).a (rg rs k).n (rg rs k).c),(106,.slice (rg rs k).a (rg rs k).n (rg rs k).c),(107,ak ((rg rs k).n:Int)),(108,ak q),(116,.slice (rg rs d).a (rg rs d).n (rg rs d).c),(117,ak ((rg rs d).n:Int)),(118,ak t)]) (fun t w'=>t<=(rg rs d).n/\w'=w6) (fun t=> (rg rs d).n - t) 0 (alH O) ⟨bm _,O⟩ ?_;rintro t e w7 ⟨ht,rfl⟩;refine b8 O (aR _ O (fun h5=>?_) (fun h5=>?_))
   ·have htn:t< (gl B d).length:=by omega
    have oz:=gi_in htn;have htr:=hP.tr k (by omega) d sJ _ oz;refine aG O (aF lT.2 O (bh lT O (ar O (aL (Qo _ _ _ (gl B k) _ _ gS jG.1 (by omega)) O ?_))));rintro _ _ ⟨⟨p,rfl⟩,rfl⟩;refine ar O ?_
    first | refine eZ rfl rfl ?_ | refine fY rfl rfl ?_
    refine aI O (oM O (fun h=>h htr) (aG O (aJ O (aT O (tQ ?_)))));exact⟨t+1,by show(rg rs d).n - (t+1)< (rg rs d).n - t;omega,(alH O),by omega,O⟩
   refine bw O (bA (dh O (aJ O (aT O (tQ ?_)))));exact⟨q+1,by show(rg rs k).n - (q+1)< (rg rs k).n - q;omega,(alH O),by omega,O⟩
  refine bw O (bA (dh O (aJ O (aT O (tQ ?_)))));exact⟨k+1,by show N - (k+1)<N - k;omega,(alH O),by omega,ax⟩
 refine bw O (bA (ij O ?_));exact dz O ⟨O,aE⟩
theorem ag0{α:Type}(x a b c d e f g:α)(X Y:List α):(x::a::b::c::d::e::f::g::(X++Y)).Perm (a::b::c::d::e::f::g::((X++ [x])++Y)):=by
 classical
 refine nC.2 fun z=>?_
 simp only [qk,mV,ql];omega
theorem ag1{α:Type}(x a b c d e f g:α)(X Y:List α):(x::a::b::c::d::e::f::g::(X++Y)).Perm (a::b::c::d::e::f::g::(X++ (Y++ [x]))):=by
 classical
 refine nC.2 fun z=>?_
 simp only [qk,mV,ql];omega
theorem ag2{α:Type}(a b c d e f g:α)(X Y:List α):(a::b::c::d::e::f::g::(X++Y)).Perm (a::((f::X)++ (b::c::d::e::((g::Y)++ [])))):=by
 classical
 refine nC.2 fun z=>?_
 simp only [qk,mV,ql];omega
def nu(M:ah)(i:Nat):ai:=(List.range i).map fun k=> (aH M k:Int)
def pT(M:ah)(i:Nat):ah:=(List.range i).map (cH M)
theorem agU(M:ah)(i:Nat):nu M (i+1)=nu M i++ [(aH M i:Int)]:=by simp [nu,nZ]
theorem afE(M:ah)(i:Nat):pT M (i+1)=pT M i++ [cH M i]:=by simp [pT,nZ]
theorem VO{M:ah}{i k:Nat}(h:k<i):gi (nu M i) k=(aH M k:Int):=by
 rw [cd (by simp [nu];exact h)];simp [nu]
theorem Vb{M:ah}{i k:Nat}(h:k<i):gl (pT M i) k=cH M k:=by
 rw [cK (by simp [pT];exact h)];simp [pT]
theorem NR(M:ah)(i:Nat):(pT M i).length=i:=by simp [pT]
def tj(M:ah)(i f k:Nat)(G:List Bool):Prop:=G.length=aH M M.length*aH M M.length/\∀e d:Nat,e<aH M M.length->d<aH M M.length->(gb G ((e*aH M M.length+d:Nat):Int)=true↔∃f' k',(f'<f\/f'=f/\k'<k)/\f'< (gl M 0).length/\k'<i/\bC M i f'=e/\bC M k' f'=d)
theorem agX{N e d e' d':Nat}(h1:d<N)(h2:d'<N)(h:e*N+d=e'*N+d'):e=e'/\d=d':=by
 have h3:(e*N+d) / N=e:=by rw [Nat.add_comm,Nat.add_mul_div_right _ _ (by omega),Nat.div_eq_of_lt h1,Nat.zero_add]
 have h4:(e'*N+d') / N=e':=by rw [Nat.add_comm,Nat.add_mul_div_right _ _ (by omega),Nat.div_eq_of_lt h2,Nat.zero_add]
 have h5:e=e':=by rw [<-h3,h,h4]
 subst h5;exact⟨O,by omega⟩
theorem Oj{N e d:Nat}(h1:e<N)(h2:d<N):e*N+d<N*N:=by
 have:(e+1)*N<=N*N:=Nat.mul_le_mul_right N h1;rw [Nat.succ_mul]at this;omega
theorem tj.zero(M:ah)(i:Nat):tj M i 0 0 (List.replicate (aH M M.length*aH M M.length) false):=by
 refine⟨by simp,fun e d he hd=>?_⟩;have:gb (List.replicate (aH M M.length*aH M M.length) false) ((e*aH M M.length+d:Nat):Int)=false:=by
  simp only [gb,gI,dd,List.getElem?_replicate]
  split<;>rfl
 rw [this];constructor
 ·intro h;cases h
 rintro⟨f',k',h,_⟩;omega
theorem tj.next{M:ah}(hM:bg M){i f k:Nat}{G:List Bool}(h:tj M i f k G)(hf:f< (gl M 0).length)(hi:i<M.length)(hk:k<i):tj M i f (k+1) (G.set ((bC M i f).toNat*aH M M.length+ (bC M k f).toNat) true):=by
 have h1:=qq hM (i:=i) hf;have h2:=qq hM (i:=k) hf;have h3:=oI M (show i+1<=M.length by omega);have h4:=oI M (show k+1<=M.length by omega);refine⟨by rw [jK];exact h.1,fun e d he hd=>?_⟩;have hl:=Oj (e:=(bC M i f).toNat) (d:=(bC M k f).toNat) (N:=aH M M.length) (by omega) (by omega);have hg:gb (G.set ((bC M i f).toNat*aH M M.length+ (bC M k f).toNat) true) ((e*aH M M.length+d:Nat):Int)=if(bC M i f).toNat*aH M M.length+ (bC M k f).toNat=e*aH M M.length+d then true else gb G ((e*aH M M.length+d:Nat):Int):=by
  simp only [gb,gI,dd,pA]
  by_cases e1:(bC M i f).toNat*aH M M.length+ (bC M k f).toNat=e*aH M M.length+d
  ·rw [ay e1,ay (by rw [h.1];exact hl),ay e1];rfl
  rw [aw e1,aw e1]
 rw [hg]
 by_cases e1:(bC M i f).toNat*aH M M.length+ (bC M k f).toNat=e*aH M M.length+d
 ·rw [ay e1];have:=agX (by omega) hd e1;exact⟨fun _=> ⟨f,k,.inr ⟨O,by omega⟩,hf,hk,by omega,by omega⟩,fun _=>O⟩
 rw [aw e1,h.2 e d he hd];constructor
 ·rintro⟨f',k',q,r⟩;exact⟨f',k',by omega,r⟩
 rintro⟨f',k',q,r1,r2,r3,r4⟩;refine⟨f',k',?_,r1,r2,r3,r4⟩
 by_cases e2:f'=f/\k'=k
 ·obtain⟨rfl,rfl⟩:=e2;exact absurd (by rw [r3,r4];rfl) e1
 omega
theorem tj.row{M:ah}{i f:Nat}{G:List Bool}(h:tj M i f i G):tj M i (f+1) 0 G:=by
 refine⟨h.1,fun e d he hd=>?_⟩;rw [h.2 e d he hd];constructor
 ·rintro⟨f',k',q,r⟩;exact⟨f',k',by omega,r⟩
 rintro⟨f',k',q,r1,r2,r3⟩;exact⟨f',k',by omega,r1,r2,r3⟩
theorem tj.done{M:ah}(hM:bg M){i:Nat}{G:List Bool}(h:tj M i (gl M 0).length 0 G)(hi:i<M.length){e d:Nat}(he:e<aH M M.length)(hd:d<aH M M.length):gb G ((e*aH M M.length+d:Nat):Int)=true↔((aH M i<=e/\e<aH M (i+1))/\(d:Int)∈gl (bE M) e):=by
 rw [h.2 e d he hd,ot (by omega) (by omega)];constructor
 ·rintro⟨f',k',_,r1,r2,r3,r4⟩;have:=qq hM (i:=i) r1;exact⟨by omega,by omega,f',r1,i,hi,k',r2,r3.symm,r4.symm⟩
 rintro⟨h1,_,f',r1,i',dt,k',r2,r3,r4⟩;have h5:=qq hM (i:=i') r1;have:i'=i:=by
  rcases Nat.lt_trichotomy i' i with h | h | h
  ·have:=oI M (show i'+1<=i by omega);omega
  ·exact h
  have:=oI M (show i+1<=i' by omega);omega
 subst this;exact⟨f',k',by omega,r1,r2,r3.symm,r4.symm⟩
noncomputable def uy(M:ah)(i e d x:Nat):ai:=if x<aH M i then gl (bE M) x else if aH M (i+1)<=x then []else if x<e then gl (bE M) x else if x=e then(gl (bE M) x).filter fun y=>decide (y<d)else []
noncomputable def gQ(M:ah)(i e d:Nat):ah:=(List.range (aH M M.length)).map (uy M i e d)
theorem zp(M:ah)(i e d:Nat):(gQ M i e d).length=aH M M.length:=by simp [gQ]
theorem Qh{M:ah}{i e d x:Nat}(h:x<aH M M.length):gl (gQ M i e d) x=uy M i e d x:=by
 rw [cK (by rw [zp];exact h)];simp [gQ]
theorem aaT{M:ah}{e:Nat}(he:e<aH M M.length):gl (bE M) e=(gl (bE M) e).filter (fun y=>decide (y< (aH M M.length:Int))):=by
 refine(List.filter_eq_self.2 fun y hy=>?_).symm;rw [ot (by omega) (by omega)]at hy;exact eP hy.1.2
theorem RF(M:ah)(e:Int):SA (gl (bE M) e):=by
 have dO:∀l∈bE M,SA l:=fun l hl=>by
  unfold bE at hl;obtain⟨x,_,rfl⟩:=dv.1 hl;exact qj _ (lh _)
 by_cases h:e.toNat< (bE M).length
 ·have:gl (bE M) e=gl (bE M) (e.toNat:Int):=by simp only [gl,gI]
  rw [this,cK h];exact dO _ (dH _)
 have:gl (bE M) e=[]:=by simp [gl,dd,qm (Nat.le_of_not_lt h)]
 rw [this];exact List.Pairwise.nil
theorem aaU{M:ah}(hM:bg M){e:Nat}(he:e<aH M 1):gl (bE M) e=[]:=by
 have h5:=hM.1;have I0:=oI M (show 1<=M.length by omega);refine List.eq_nil_iff_forall_not_mem.2 fun y hy=>?_
 rw [ot (by omega) (by omega)]at hy;obtain⟨_,f,hf,i,hi,k,hk,h1,_⟩:=hy;have h2:=qq hM (i:=i) hf;have h3:=oI M (show 1<=i by omega);omega
theorem Y7{M:ah}(hM:bg M):gQ M 1 0 0=List.replicate (aH M M.length) []:=by
 apply jX (by simp [gQ]);intro x h1 h2;rw [zp]at h1;simp only [gQ,List.getElem_map,List.getElem_range,List.getElem_replicate];unfold uy
 split
 ·exact aaU hM (by assumption)
 split
 ·rfl
 split
 ·omega
 split
 ·rename_i h;subst h;rw [List.filter_eq_nil_iff];intro y hy h;have:=tX h;rw [ot (by omega) (by omega)]at hy;omega
 rfl
theorem Y6{M:ah}{i:Nat}:gQ M i (aH M M.length) 0=gQ M (i+1) 0 0:=by
 unfold gQ;refine pB fun x hx=>?_
 have hx:=gP.1 hx;have h1:=oI M (show i+1<=i+1+1 by omega);have h2:=oI M (show i<=i+1 by omega);have hz:∀y∈gl (bE M) x,0<=y:=fun y hy=>by rw [ot (by omega) (by omega)]at hy;omega
 unfold uy
 by_cases c1:x<aH M i
 ·rw [ay c1,ay (by omega)]
 rw [aw c1]
 by_cases c2:x<aH M (i+1)
 ·rw [aw (by omega),ay hx,ay c2]
 rw [ay (by omega),aw c2]
 split
 ·rfl
 rw [aw (by omega)]
 split
 ·rename_i h;subst h;symm;rw [List.filter_eq_nil_iff];intro y hy h;have:=tX h;have:=hz y hy;omega
 rfl
theorem Za{M:ah}{i e:Nat}:gQ M i e (aH M M.length)=gQ M i (e+1) 0:=by
 unfold gQ;refine pB fun x hx=>?_
 have hx:=gP.1 hx;have hz:∀y∈gl (bE M) x,0<=y:=fun y hy=>by rw [ot (by omega) (by omega)]at hy;omega
 unfold uy
 by_cases c1:x<aH M i
 ·rw [ay c1,ay c1]
 rw [aw c1,aw c1]
 by_cases c2:aH M (i+1)<=x
 ·rw [ay c2,ay c2]
 rw [aw c2,aw c2]
 by_cases c3:x<e
 ·rw [ay c3,ay (by omega)]
 rw [aw c3]
 by_cases c4:x=e
 ·rw [ay c4,ay (by omega),<-aaT hx]
 rw [aw c4,aw (by omega)]
 split
 ·rename_i h;subst h;symm;rw [List.filter_eq_nil_iff];intro y hy h;have:=tX h;have:=hz y hy;omega
 rfl
theorem Zb{M:ah}{i e d:Nat}(he:e<aH M M.length)(hd:d<aH M M.length)(h:¬((aH M i<=e/\e<aH M (i+1))/\(d:Int)∈gl (bE M) e)):gQ M i e (d+1)=gQ M i e d:=by
 unfold gQ;refine pB fun x hx=>?_
 unfold uy
 by_cases c1:x<aH M i
 ·rw [ay c1,ay c1]
 rw [aw c1,aw c1]
 by_cases c2:aH M (i+1)<=x
 ·rw [ay c2,ay c2]
 rw [aw c2,aw c2]
 by_cases c3:x<e
 ·rw [ay c3,ay c3]
 rw [aw c3,aw c3]
 by_cases c4:x=e
 ·subst c4;rw [ay rfl,ay rfl];refine List.filter_congr fun y hy=>?_
  have bt:y≠(d:Int):=fun e=>h ⟨by omega,e▸hy⟩
  exact ke.2 (by omega)
 rw [aw c4,aw c4]
theorem Y9{M:ah}{i e d:Nat}(he:e<aH M M.length)(h:(aH M i<=e/\e<aH M (i+1))/\(d:Int)∈gl (bE M) e):(gQ M i e d).set e (gl (gQ M i e d) e++ [(d:Int)])=gQ M i e (d+1):=by
 apply jX (by simp [gQ]);intro x h1 h2;rw [zp]at h2;rw [List.getElem_set];have e2:∀d' (hx:x< (gQ M i e d').length),(gQ M i e d')[x]=uy M i e d' x:=fun d' hx=>by simp [gQ]
 rw [e2 (d+1) (by rw [zp];exact h2),e2 d (by rw [zp];exact h2)]
 by_cases c:e=x
 ·subst c;rw [ay rfl,Qh he];have hz:∀d':Nat,uy M i e d' e=(gl (bE M) e).filter fun y=>decide (y< (d':Int)):=fun d'=>by
   unfold uy;rw [aw (by omega),aw (by omega),aw (by omega),ay rfl]
  rw [hz,hz];have hs:=RF M e;refine SA.eq ?_ (qj _ hs) fun y=>?_
  ·rw [SA,List.pairwise_append];refine⟨qj _ hs,List.pairwise_singleton _ _,fun a ha b hb=>?_⟩;obtain rfl:=fm.1 hb;exact tX (fU.1 ha).2
  rw [iR,fU,fU,fm];simp only [kz];constructor
  ·rintro(⟨h3,h4⟩ | rfl)
   ·exact⟨h3,by omega⟩
   exact⟨h.2,by omega⟩
  rintro⟨h3,h4⟩
  by_cases e3:y=(d:Int)
  ·exact .inr e3
  exact .inl ⟨h3,by omega⟩
 rw [aw c];unfold uy
 by_cases c1:x<aH M i
 ·rw [ay c1,ay c1]
 rw [aw c1,aw c1]
 by_cases c2:aH M (i+1)<=x
 ·rw [ay c2,ay c2]
 rw [aw c2,aw c2]
 by_cases c3:x<e
 ·rw [ay c3,ay c3]
 rw [aw c3,aw c3,aw (fun h=>c h.symm),aw (fun h=>c h.symm)]
theorem Y5{M:ah}:gQ M M.length 0 0=bE M:=by
 apply jX (by rw [zp,uG]);intro x h1 h2;rw [zp]at h1;simp only [gQ,List.getElem_map,List.getElem_range];unfold uy;rw [ay h1,cK h2]
end
end Go.Proofs.YtopgfgdgfjddpaaGreatDoor.Vc
