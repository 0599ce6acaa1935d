/-
 Lemmas. Conditions: as each states them.
-/
import Derived.Test.YtagdamiiececaaaGreatDoorZi
import Derived.Lib.ItoaLen
import Derived.Test.YtagdamiiececaaaGreatDoorLayd
import Derived.Shelf.Strconv.AppendIntPublic10
set_option maxHeartbeats 8000000
namespace Go.Proofs.YtagdamiiececaaaGreatDoor.Vc
open Go.RowKit Tryz
variable{w w':aa}
def jG(xs:ah):List UInt8:=xs.flatMap fun x=>Lib.itoa x++ [32]
def DB(xs:ah):ByteArray:=⟨(jG xs).toArray⟩
def IA(l:List UInt8):Nat:=l.foldl (fun a b=>10*a+ (b.toNat - 48)) 0
theorem Eg{d:Nat}(h:d<10):(UInt8.ofNat (48+d)).toNat=48+d:=by
 rw [UInt8.toNat_ofNat'];omega
theorem zc:∀u:Nat,IA (Lib.decDigits u)=u/\∀b∈Lib.decDigits u,48<=b.toNat/\b.toNat<=57:=by
 intro u
 induction u using Nat.strongRecOn with
 | ind u ih=>
  rw [Lib.decDigits]
  split
  ·rename_i h;refine⟨?_,fun b hb=>?_⟩
   ·simp only [IA,List.foldl_cons,List.foldl_nil,Eg h];omega
   ·simp only [iv]at hb;subst hb;rw [Eg h];omega
  ·rename_i h;obtain⟨h1,h2⟩:=ih (u / 10) (by omega);refine⟨?_,fun b hb=>?_⟩
   ·unfold IA at h1|-;rw [List.foldl_append,h1];simp only [List.foldl_cons,List.foldl_nil,Eg (show u%10<10 by omega)];omega
   ·rcases gE.1 hb with hb | hb
    ·exact h2 b hb
    ·simp only [iv]at hb;subst hb;rw [Eg (by omega)];omega
theorem JS{u v:Nat}(h:Lib.decDigits u=Lib.decDigits v):u=v:=by rw [<-(zc u).1,h,(zc v).1]
theorem Nb{x:Int}:∀b∈Lib.itoa x,b≠32:=by
 intro b hb e;subst e;unfold Lib.itoa at hb
 split at hb
 ·rcases ja.1 hb with h | h
  ·exact absurd h (by decide)
  have:=(zc _).2 _ h;exact absurd this (by decide)
 have:=(zc _).2 _ hb;exact absurd this (by decide)
theorem W6{x y:Int}(h:Lib.itoa x=Lib.itoa y):x=y:=by
 have N1:∀(u v:Nat),45::Lib.decDigits u≠Lib.decDigits v:=fun u v e=>by
  have:=(zc v).2 45 (by rw [<-e];simp);exact absurd this (by decide)
 unfold Lib.itoa at h
 split at h<;>split at h
 ·simp only [List.cons.injEq,true_and]at h;have:=JS h;omega
 ·exact absurd h (N1 _ _)
 ·exact absurd h.symm (N1 _ _)
 have:=JS h;omega
theorem OM:∀ {a b r s:List UInt8},(∀x∈a,x≠32)->(∀x∈b,x≠32)->a++32::r=b++32::s->a=b/\r=s
 | [],[],_,_,_,_,h=>by simpa using h
 | [],y::b,_,_,_,hb,h=>by
  simp only [List.nil_append,List.cons_append,List.cons.injEq]at h;exact absurd h.1.symm (hb y (by simp))
 | x::a,[],_,_,ha,_,h=>by
  simp only [List.nil_append,List.cons_append,List.cons.injEq]at h;exact absurd h.1 (ha x (by simp))
 | x::a,y::b,_,_,ha,hb,h=>by
  simp only [List.cons_append,List.cons.injEq]at h;obtain⟨h1,h2⟩:=OM (fun z hz=>ha z (by simp [hz])) (fun z hz=>hb z (by simp [hz])) h.2;exact⟨by rw [h.1,h1],h2⟩
theorem AU(x:Int)(xs:ah):jG (x::xs)=Lib.itoa x++32::jG xs:=by simp [jG]
theorem Xt(xs:ah)(x:Int):jG (xs++ [x])=(jG xs++Lib.itoa x)++ [32]:=by simp [jG]
theorem Nf:∀ {xs ys:ah},jG xs=jG ys->xs=ys
 | [],[],_=>rfl
 | [],y::ys,h=>by rw [AU]at h;simp [jG]at h
 | x::xs,[],h=>by rw [AU]at h;simp [jG]at h
 | x::xs,y::ys,h=>by
  rw [AU,AU]at h;obtain⟨h1,h2⟩:=OM Nb Nb h;rw [W6 h1,Nf h2]
theorem Xs{xs ys:ah}(h:DB xs=DB ys):xs=ys:=by
 have h1:(jG xs).toArray=(jG ys).toArray:=bw ByteArray.data h;exact Nf (by simpa using h1)
theorem fold_push:∀(l:List UInt8) (s:ByteArray),(l.map fun b=> ((b.toNat:Nat):Int)).foldl (fun r n=>r.push (UInt8.ofNat n.toNat)) s=⟨s.data++l.toArray⟩
 | [],s=>by simp
 | b::l,s=>by
  simp only [List.map_cons,List.foldl_cons];rw [fold_push l];have e:UInt8.ofNat ((b.toNat:Nat):Int).toNat=b:=by simp
  rw [e];have e2:(s.push b).data=s.data.push b:=O;rw [e2]
  congr 1
  apply Array.ext';simp
def nM(w : aa): Prop := Lib.TabIs prog w "internal/strconv.uint64pow10" .u64 Lib.pow10Tab
theorem nM.aq(h:nM w)(hb:Below w.heap.size w w'):nM w':=Lib.tabBelow_of_tabIs h w' hb.toBelow
def rh(B:Nat)(w:aa)(A:ai)(m c:Nat)(l:List UInt8):Prop:=w.ownsRow B 5 1 (.slice A m c) m (Lib.byteCells l)
theorem N9{B m:Nat}{v:ab}{xs:List ab}(h:w.ownsRow B 5 1 v m xs):∃A c,v= .slice A m c:=by
 rcases h.2 with⟨rfl,rfl⟩ | ⟨g,cap,cur,rfl,_⟩
 ·exact⟨_,_,O⟩
 exact⟨_,_,O⟩
theorem rh.aq{B:Nat}{A:ai}{m c:Nat}{l:List UInt8}(h:rh B w A m c l)(hb:Below w.heap.size w w'):rh B w' A m c l:=by
 refine⟨h.1,?_⟩;rcases h.2 with h1 | ⟨g,cap,cur,h1,h2,h3,r⟩
 ·exact .inl h1
 exact .inr ⟨g,cap,cur,h1,h2,by rw [hb.block g (Array.getElem?_eq_some_iff.1 h3).1];exact h3,r⟩
section
variable {N:Nat} {ops:Array Oper} {K:Env->aa->Prop} {rest:List Oper} {e:Env} {w0 w w':aa} {ks:List Ck} {d:Nat} {ty:ad} {pos:String} {af:Array Edge}
theorem PX{B m c:Nat}{A:ai}{l:List UInt8}{A1:ai}{b:UInt8}{x y:ae}(hO:rh B w A m c l)(hB:B<=w.heap.size)(hR:Rd w A1 1 (fun _=> .int .u8 (b.toNat:Nat)))(hx:ev e x= .slice A m c)(hy:ev e y= .slice A1 1 1)(hm:m<=1000000000)(hb:Nat.blt d N=true)
 (hK:∀A2 c2 w',Go.RowKit.Below B w w'->rh B w' A2 (m+1) c2 (l++ [b])->ak prog N ops K rest (bt e d (.slice A2 (m+1) c2)) w'):
 ak prog N ops K (⟨some d,.call ⟨.builtin .append, #[x,y], #[22,22]⟩,ty,pos,af,none⟩::rest) e w:=by
 obtain⟨inf,hi,eM,hs,ib⟩:=bF.get prog 5;obtain⟨p,hp,hc⟩:=hR 0 (by omega);obtain⟨a,rfl⟩:∃a,A1=some a:=by cases A1 with | none=>simp [aF]at hp | some q=>exact⟨q,rfl⟩
 simp only [aF,Option.map_some,mF]at hp;obtain⟨v',w',hr,zw,hg,_⟩:=run_append_own (P:=prog) (w:=w) B 22 ty 5 inf (.int .u8 0) 1 1 underlying22 hi eM hs ib rfl (by decide) (.slice A m c) m (Lib.byteCells l) hO a 1 1 [.int .u8 (b.toNat:Nat)] rfl
  (fun j u hj=>by
    match j,hj with
    | 0,hj=>simp at hj;subst hj;rw [hp];exact hc) (fun u hu=>by simp at hu;subst hu;rfl) (by simp only [maxLen];omega) (by omega) hB
 obtain⟨A2,c2,rfl⟩:=N9 zw;refine .val (w':=w') ?_ hb (hK A2 c2 w' ?_ ?_)
 ·simp [execOp,resolve,invoke,builtin,hx,hy,hr]
 ·exact(Go.RowKit.Below.refl B w).grown hg hB (fun k hk=> (hO.lt k hk).1)
 ·show w'.ownsRow B 5 1 (.slice A2 (m+1) c2) (m+1) (Lib.byteCells (l++ [b]));rw [show Lib.byteCells (l++ [b])=Lib.byteCells l++ [.int .u8 (b.toNat:Nat)] by simp [Lib.byteCells]];exact zw
theorem Qd{B m c:Nat}{A:ai}{l:List UInt8}{x:ae}(hO:rh B w A m c l)(hx:ev e x= .slice A m c)(hb:Nat.blt d N=true)(hK:ak prog N ops K rest (bt e d (.string ⟨l.toArray⟩)) w):
 ak prog N ops K (⟨some d,.convert 22 9 x,ty,pos,af,none⟩::rest) e w:=by
 have hr:(Conv.bytesToString (.slice A m c)).run prog w= .ok (.string ⟨l.toArray⟩) w:=by
  have hl:(Lib.byteCells l).length=m*1:=hO.1;rcases hO.2 with⟨h1,h2⟩ | ⟨g,cap,cur,h1,_⟩
  ·simp only [Value.slice.injEq]at h1;obtain⟨rfl,rfl,rfl⟩:=h1;have:l=[]:=qg (by rw [Lib.byteCells_length]at hl;omega);subst this
   rfl
  simp only [Value.slice.injEq]at h1;obtain⟨rfl,_,rfl⟩:=h1;have h2:=hO.cells (g:=g) O;have h3:=run_loadCells_list (P:=prog) (w:=w) (⟨g,0,none⟩:Addr) (Lib.byteCells l) h2;rw [hl,Nat.mul_one]at h3;have e1:Lib.byteCells l=(l.map fun b=> ((b.toNat:Nat):Int)).map (Value.int .u8):=by simp [Lib.byteCells]
  rw [e1]at h3;rw [run_bytesToString w _ m c _ h3,fold_push];simp
 refine .val (w':=w) ?_ hb hK;simp [execOp,hx,convert,run_underlying underlying22,run_underlying underlying9,run_underlying underlying5,hr]
end
theorem Pp{B m c : Nat}{A : ai}{l : List UInt8}(x : Int)(w : aa)(hx : -9223372036854775808 <= x /\ x <= 9223372036854775807)(hO : rh B w A m c l)(hB : B <= w.heap.size)(hm : m <= 1000000000)(hT : Lib.TabBelow prog B w "internal/strconv.uint64pow10" .u64 Lib.pow10Tab):
 aE prog 191 [.slice A m c,aj x,aj 10] w (fun v w'=>∃A' c',v= .slice A' (m+ (Lib.itoa x).length) c'/\rh B w' A' (m+ (Lib.itoa x).length) c' (l++Lib.itoa x)/\Go.RowKit.Below B w w'):=by
 have key:=Any.strconv_AppendInt_10 Ya B m x hx.1 hx.2 (.slice A m c) (Lib.byteCells l) w hO hB (by omega) hT;refine Calls.mono key fun y w' ⟨v',hy,zw,hb,_⟩=> ⟨_,hy,?_⟩
 obtain⟨A2,c2,rfl⟩:=N9 zw;refine⟨A2,c2,O,?_,hb⟩;show w'.ownsRow B 5 1 (.slice A2 _ c2) _ (Lib.byteCells (l++Lib.itoa x));rw [Lib.byteCells_append];exact zw
theorem Nc(x:Int)(hx: -9223372036854775808<=x/\x<=9223372036854775807):(Lib.itoa x).length<=21:=Lib.itoa_length_le x hx.1 hx.2
theorem Ng:∀(xs:ah),(∀x∈xs,-9223372036854775808<=x/\x<=9223372036854775807)->(jG xs).length<=22*xs.length
 | [],_=>by simp [jG]
 | x::xs,h=>by
  have h1:=Nc x (h x (by simp));have h2:=Ng xs fun y hy=>h y (by simp [hy])
  rw [AU];simp only [e8,List.length_cons];omega
theorem Nh(A:ai)(n c:Nat)(xs:ah)(w:aa)(hT:nM w)(hR:cd w A n xs)(hx:∀x∈xs,-9223372036854775808<=x/\x<=9223372036854775807)(hn:n<=1000000):
 aE prog 122 [.slice A n c] w (fun v w'=>v= .string (DB xs)/\St w w' []):=by
 have bP:=hR.1;refine bm func122 O ntmps122 O (bU O) ?_;refine aY O (aZ O O (az O ?_));refine Cd.loop (α:=Nat×ai×Nat) (fun s=> [(3,.slice s.2.1 (jG (xs.take s.1)).length s.2.2),(6,.slice A n c),(7,aj n),(8,aj (s.1:Int))]) (fun s w'=>rh w.heap.size w' s.2.1 (jG (xs.take s.1)).length s.2.2 (jG (xs.take s.1))/\Go.RowKit.Below w.heap.size w w'/\s.1<=n) (fun s=>n - s.1) (0,none,0) (ac4 O) ⟨World.ownsRow_nil w _ _ _,Go.RowKit.Below.refl _ _,bA _⟩ ?_;rintro⟨i,A3,c3⟩ e w1 ⟨hO,fp,hi⟩;dsimp only at hO fp hi|-;refine b7 O (aM _ O (fun h1=>?_) (fun h1=>?_))
 ·have di:i<xs.length:=by omega
  have fT : cd w1 A n xs := hR.aq ⟨fp, fun s => s.elim⟩;have xz : Lib.TabBelow prog w.heap.size w1 "internal/strconv.uint64pow10" .u64 Lib.pow10Tab := (Lib.tabBelow_of_tabIs hT).on fp
  have lY:=hx _ (gi_in di);have lq:=Ng (xs.take i) fun x hm=>hx x (List.mem_of_mem_take hm)
  have jW:=Nc _ lY;rw [ra]at lq;have lX:=fp.size;have Dw:jG (xs.take (i+1))=(jG (xs.take i)++Lib.itoa (gi xs i))++ [32]:=by rw [sd di,Xt]
  refine aD O (ay fT.2 O (bc fT O (ao O (aH (Pp (gi xs i) _ lY hO lX (by omega) xz) O ?_))));rintro _ w2 ⟨A4,c4,rfl,T2,gj⟩;have hsz2:=gj.size;refine ao O (ak.ES (St.refl w2) O O O O ?_);intro A5 w3 aI;have T3:=T2.aq aI.below;have iA:Go.RowKit.Below w.heap.size w2 w3:=aI.below.toBelow.mono (by omega);have hsz3:=iA.size;refine PX (b:=32) T3 (by omega) (aI.rd 0 rfl |>.congr fun j hj=>by obtain rfl:j=0:=by { have:j<1:=hj;omega };rfl) rfl rfl (by omega) rfl ?_;intro A6 c6 w4 kL CB;refine ao O (aL O (aU O (tQ ?_)));refine⟨(i+1,A6,c6),by show n - (i+1)<n - i;omega,⟨?_,O,O,O,au⟩,?_,((fp.trans gj).trans iA).trans kL,by show i+1<=n;omega⟩
  ·show Value.slice _ _ _= .slice _ _ _;rw [Dw];simp [Nat.add_assoc]
  show rh _ w4 A6 (jG (xs.take (i+1))).length c6 (jG (xs.take (i+1)));rw [Dw];have e1:((jG (xs.take i)++Lib.itoa (gi xs i))++ [32]).length=(jG (xs.take i)).length+ (Lib.itoa (gi xs i)).length+1:=by simp;omega
  rw [e1];exact CB
 have cS:i=xs.length:=by omega
 subst cS;rw [List.take_length]at hO;refine bo O (bp (cn O ?_));refine Qd hO (by show Value.slice _ _ _= .slice _ _ _;rw [List.take_length]) O ?_;refine bu O (D1 O ?_);exact⟨rfl,⟨⟨fp,fun s=>s.elim⟩,fun k hk=> (by cases hk),List.nodup_nil⟩⟩
end Go.Proofs.YtagdamiiececaaaGreatDoor.Vc
namespace Go.Proofs.YtagdamiiececaaaGreatDoor.Vc
open Go.RowKit Go.MapKept Tryz
section
variable {κ ν:Type} [DecidableEq κ]
def iJ:List (κ×ν)->κ->List (κ×ν)
 | [],_=> []
 | (y,v)::r,x=>if y=x then r else(y,v)::iJ r x
theorem JU:∀ {L:List (κ×ν)} {x:κ} {j:Nat} {v:ν},lK L x=some (j,v)->iJ L x=L.eraseIdx j
 | (y,w)::r,x,j,v,h=>by
  simp only [lK]at h
  split at h
  ·rename_i e;simp only [mF,Prod.mk.injEq]at h;obtain⟨rfl,rfl⟩:=h;simp only [iJ,aJ e,List.eraseIdx_zero,List.tail_cons]
  ·rename_i e;cases hf:lK r x with
   | none=>simp [hf]at h
   | some p=>
    simp only [hf,Option.map_some,mF,Prod.mk.injEq]at h;obtain⟨rfl,rfl⟩:=h;simp only [iJ,aC e,List.eraseIdx_cons_succ,JU (L:=r) (x:=x) (j:=p.1) (v:=p.2) hf]
theorem JT:∀ {L:List (κ×ν)} {x:κ},lK L x=none->iJ L x=L
 | [],_,_=>rfl
 | (y,w)::r,x,h=>by
  simp only [lK]at h
  split at h
  ·cases h
  ·rename_i e;rw [Option.map_eq_none_iff]at h;simp only [iJ,aC e,JT h]
theorem E5:∀(L:List (κ×ν)) (x:κ),(iJ L x).Sublist L
 | [],_=> .slnil
 | (y,v)::r,x=>by
  simp only [iJ]
  split
  ·exact(dA _).cons _
  ·exact(E5 r x).cons_cons _
theorem Ku:∀ {L:List (κ×ν)} {x:κ},x∉L.map (·.1)->fL L x=none
 | [],_,_=>rfl
 | (y,v)::r,x,h=>by
  simp only [List.map_cons,ja,not_or]at h;simp only [fL,aC (fun e:y=x=>h.1 e.symm),Ku h.2]
theorem Kt:∀ {L:List (κ×ν)} {x y:κ},(L.map (·.1)).Nodup->fL (iJ L x) y=if x=y then none else fL L y
 | [],x,y,_=>by simp [iJ,fL]
 | (z,v)::r,x,y,h=>by
  simp only [List.map_cons,mV]at h;simp only [iJ]
  split
  ·rename_i e;subst e
   split
   ·rename_i e;subst e;exact Ku h.1
   ·rename_i e;simp only [fL,aC e]
  ·rename_i e;simp only [fL,Kt (L:=r) (x:=x) (y:=y) h.2]
   by_cases e2:z=y
   ·subst e2;rw [aJ rfl,aC (fun q=>e q.symm),aJ rfl]
   ·rw [aC e2,aC e2]
theorem Zw(L:List (κ×ν))(x:κ)(u:ν):∀y,y∈(iM L x u).map (·.1)↔y=x\/y∈L.map (·.1):=by
 induction L with
 | nil=>intro y;simp [iM]
 | cons p r ih=>
  obtain⟨z,w⟩:=p;intro y;simp only [iM]
  split
  ·rename_i e;subst e;simp
  ·simp only [List.map_cons,ja,ih];exact⟨fun h=>by rcases h with h | h | h<;>simp [h],fun h=>by rcases h with h | h | h<;>simp [h]⟩
theorem Om:∀ {L:List (κ×ν)} {x:κ} {u:ν},(L.map (·.1)).Nodup->((iM L x u).map (·.1)).Nodup
 | [],x,u,_=>by simp [iM]
 | (z,v)::r,x,u,h=>by
  simp only [List.map_cons,mV]at h;simp only [iM]
  split
  ·rename_i e;subst e;simp only [List.map_cons,mV];exact h
  ·rename_i e;simp only [List.map_cons,mV];refine⟨fun hm=>?_,Om h.2⟩;rcases(Zw r x u z).1 hm with h1 | h1
   ·exact e h1
   ·exact h.1 h1
theorem RS{L:List (κ×ν)}{x:κ}(h:(L.map (·.1)).Nodup):((iJ L x).map (·.1)).Nodup:=h.sublist ((E5 L x).map _)
theorem Zy(L:List (κ×ν))(x:κ)(u:ν):(iM L x u).Perm ((x,u)::iJ L x):=by
 induction L with
 | nil=>exact .refl _
 | cons p r ih=>
  obtain⟨z,w⟩:=p;simp only [iM,iJ]
  split
  ·rename_i e;exact .refl _
  ·exact(ih.cons _).trans (.swap _ _ _)
theorem Kw:∀ {L:List (κ×ν)} {x:κ} {u:ν},fL L x=some u->L.Perm ((x,u)::iJ L x)
 | (z,w)::r,x,u,h=>by
  simp only [fL]at h;simp only [iJ]
  split at h
  ·rename_i e;subst e;injection h with h
   subst h;rw [aJ rfl]
  ·rename_i e;rw [aC e];exact((Kw h).cons _).trans (.swap _ _ _)
theorem Fs:∀ {L:List (κ×ν)} {x:κ},fL L x=none->iJ L x=L
 | [],_,_=>rfl
 | (z,w)::r,x,h=>by
  simp only [fL]at h;simp only [iJ]
  split at h
  ·cases h
  ·rename_i e;rw [aC e,Fs h]
end
section
variable {P:Program} {N:Nat} {ops:Array Oper} {K:Env->aa->Prop} {rest:List Oper} {e:Env} {w0 w w':aa} {ks:List Ck} {d:Nat} {ty:ad} {pos:String} {af:Array Edge}
variable {κ ν:Type} [DecidableEq κ] {kd:TypeDesc} {kv:κ->ab} {vv:ν->ab}
theorem E9{α β:Type}(f:α->β):∀(l:List α) (j:Nat),(l.eraseIdx j).map f=(l.map f).eraseIdx j
 | [],_=>rfl
 | _::_,0=>rfl
 | a::r,j+1=>by simp only [List.eraseIdx_cons_succ,List.map_cons,E9 f r j]
theorem ZR{t kt et T:ad}[hU:bK P t (.map kt et)][hk:bK P kt kd](KT:sk kd kv){g:Nat}{L:List (κ×ν)}(i:Nat)(x:κ)(DC:ad)(hS:St w0 w ks)(hi:ks[i]?=some (jM T g (iZ kv vv L))):
 ∃w',(Builtin.delete_ #[t,DC] ty #[.map (some g),kv x]).run P w= .ok (.tuple #[]) w'/\St w0 w' (ks.set i (jM T g (iZ kv vv (iJ L x)))):=by
 obtain⟨_,es,cl,hh,hm⟩:=hS.DV i hi;have hf:=Cn (vv:=vv) KT x es.toList L 0 hm;have sX:=MapKept.run_findKey (P:=P) (w:=w) hk.out hf;cases jC:lK L x with
 | none=>
  refine⟨{ w with heap:=w.heap.setIfInBounds g (.map es cl) },?_,hS.Ef hi ?_⟩
  ·simp [Builtin.delete_,run_underlying hU.out,MapKept.run_getObj_map hh,MapKept.run_checkKey hk.out (KT.isKey x),sX,jC,MapKept.run_setObj_map _ hh,Result.andThen]
  ·rw [JT jC];exact hm
 | some p=>
  obtain⟨j,v⟩:=p;refine⟨{ w with heap:=w.heap.setIfInBounds g (.map (es.eraseIdxIfInBounds j) cl) },?_,hS.Ef hi ?_⟩
  ·simp [Builtin.delete_,run_underlying hU.out,MapKept.run_getObj_map hh,MapKept.run_checkKey hk.out (KT.isKey x),sX,jC,MapKept.run_setObj_map _ hh,Result.andThen]
  ·rw [JU jC];have e1:(es.eraseIdxIfInBounds j).toList=es.toList.eraseIdx j:=by
    unfold Array.eraseIdxIfInBounds
    split
    ·rw [Array.toList_eraseIdx]
    ·rename_i h;rw [List.eraseIdx_of_length_le (by simpa using h)]
   rw [e1,E9,hm];unfold iZ;rw [E9]
theorem Qe{t kt et T DC:ad}{m k:ae}[hU:bK P t (.map kt et)][bK P kt kd](KT:sk kd kv){g:Nat}{L:List (κ×ν)}(i:Nat){a:κ}(hS:St w0 w ks)(hi:ks[i]?=some (jM T g (iZ kv vv L)))(hm:ev e m= .map (some g))(hk:ev e k=kv a)(hK:∀w',St w0 w' (ks.set i (jM T g (iZ kv vv (iJ L a))))->ak P N ops K rest e w'):ak P N ops K (⟨none,.call ⟨.builtin .delete, #[m,k], #[t,DC]⟩,ty,pos,af,none⟩::rest) e w:=by
 obtain⟨w',nt,lR⟩:=ZR (P:=P) (t:=t) (ty:=ty) KT i a DC hS hi;refine .O7 (w':=w') (v:= .tuple #[]) ?_ (hK _ lR);simp [execOp,resolve,invoke,builtin,hm,hk,nt]
end
section
variable {P:Program} {N:Nat} {ops:Array Oper} {K:Env->aa->Prop} {rest:List Oper} {e:Env} {w0 w w':aa} {ks:List Ck} {d:Nat} {ty:ad} {pos:String} {af:Array Edge}
theorem Qh{κ ν:Type}[DecidableEq κ]{kd:TypeDesc}{kv:κ->ab}{vv:ν->ab}{t kt et:ad}{z v:ab}{s b:Nat}[bK P t (.map kt et)][bK P kt kd][bF P et z s b](KT:sk kd kv){g:Nat}{L:List (κ×ν)}{m ix:ae}{x:κ}(hR:yW w g (iZ kv vv L))(hx:ev e m= .map (some g))(hy:ev e ix=kv x)(hv:((fL L x).map vv).getD z=v)(hb:Nat.blt d N=true)(hK:ak P N ops K rest (bt e d (.tuple #[v,.bool (fL L x).isSome])) w):ak P N ops K (⟨some d,.lookup t m ix true,ty,pos,af,none⟩::rest) e w:=by
 subst hv;refine .val (w':=w) ?_ hb hK;have:=OD (P:=P) (t:=t) (x:=x) KT hR true;simp [execOp,hx,hy,this]
end
def tn(l:ah):ab:= .string (DB l)
theorem yh:sk .string tn:=⟨fun _=>au,fun a b h=>Xs (by injection h)⟩
abbrev kC:=ah×aO×ah
def yk(u:aO×ah):ab:=u.1.v
def mB(t:ad)(M:List kC):List Ck:=M.map fun p=>ax t p.2.1.a p.2.1.n p.2.1.c p.2.2
def gF(M:List kC)(x:ah):aO:=((fL M x).map (·.1)).getD cJ
def gZ(M:List kC)(x:ah):ah:=((fL M x).map (·.2)).getD []
section
variable {w0 w w':aa} {ks pre:List Ck} {t:ad} {M:List kC} {x:ah}
theorem Fw{u:aO×ah}(h:fL M x=some u):gF M x=u.1/\gZ M x=u.2:=by simp [gF,gZ,h]
theorem KA(h:fL M x=none):gF M x=cJ/\gZ M x=[]:=by simp [gF,gZ,h]
theorem St.OU(h:St w0 w (pre++ (mB t M++ks))):St w0 w (ax t (gF M x).a (gF M x).n (gF M x).c (gZ M x)::(pre++ (mB t (iJ M x)++ks))):=by
 cases hg:fL M x with
 | none=>
  rw [(KA hg).1,(KA hg).2,Fs hg];exact h.nil t
 | some u=>
  rw [(Fw hg).1,(Fw hg).2];refine h.perm ?_;have h1:(mB t M).Perm (ax t u.1.a u.1.n u.1.c u.2::mB t (iJ M x)):=(Kw hg).map _;exact((h1.append_right ks).append_left pre).trans eU
theorem Jg{u:aO×ah}(h:St w0 w (ax t u.1.a u.1.n u.1.c u.2::(pre++ (mB t (iJ M x)++ks)))):St w0 w (pre++ (mB t (iM M x u)++ks)):=by
 refine h.perm ?_;have h1:(ax t u.1.a u.1.n u.1.c u.2::mB t (iJ M x)).Perm (mB t (iM M x u)):=((Zy M x u).map fun p:kC=>ax t p.2.1.a p.2.1.n p.2.1.c p.2.2).symm;exact eU.symm.trans ((h1.append_right ks).append_left pre)
theorem EE(h:St w0 w (pre++ (mB t M++ks))):cd w (gF M x).a (gF M x).n (gZ M x):=(h.OU (x:=x)).bz 0 rfl
theorem Qr(h:St w0 w (pre++ (mB t M++ks))):St w0 w (pre++ (mB t (iJ M x)++ks)):=h.sub (((((E5 M x).map _).append_right ks)).append_left pre)
end
end Go.Proofs.YtagdamiiececaaaGreatDoor.Vc
namespace Go.Proofs.YtagdamiiececaaaGreatDoor.Vc
open Tryz
variable{x y l:ah}{j:Nat}
def jv(x:ah)(i:Nat):ah:=x.set i (-1)
theorem Ik(x:ah)(i:Nat):(jv x i).length=x.length:=by simp [jv]
theorem yu{i k:Nat}(hk:k<x.length):gi (jv x i) k=if k=i then -1 else gi x k:=by
 rw [bN (by rw [Ik];exact hk),bN hk];unfold jv;rw [List.getElem_set]
 by_cases e:i=k
 ·rw [aJ e,aJ e.symm]
 rw [aC e,aC (fun h=>e h.symm)]
theorem OA{n:Nat}{i:Nat}(hx:x.length=n)(hy:y.length=n):jv x i=jv y i↔∀k:Nat,k<n->k≠i->gi x k=gi y k:=by
 constructor
 ·intro h k hk b9;have:=bw (fun l=>gi l k) h;simp only [yu (x:=x) (i:=i) (show k<x.length by omega),yu (x:=y) (i:=i) (show k<y.length by omega),aC b9]at this;exact this
 intro h;refine Bc (n:=n) (by rw [Ik,hx]) (by rw [Ik,hy]) fun k hk=>?_
 rw [yu (by omega),yu (by omega)]
 split
 ·rfl
 rename_i e;exact h k hk e
theorem ZP{n:Nat}{i:Nat}(hx:x.length=n)(hy:y.length=n)(hi:i<n)(h0:∀e∈y,0<=e)(h:jv x i=jv y j):i=j:=by
 have:=bw (fun l=>gi l i) h;simp only [yu (x:=x) (i:=i) (show i<x.length by omega),yu (x:=y) (i:=j) (show i<y.length by omega),aJ]at this
 by_cases e:i=j
 ·exact e
 rw [aC e]at this;have h2:=h0 _ (gi_in (show i<y.length by omega));omega
theorem Fv(M:List kC)(x l:ah)(u:aO×ah):gZ (iM M x u) l=if x=l then u.2 else gZ M l:=by
 unfold gZ;rw [Kv]
 split<;>rfl
theorem Fu{M:List kC}(h:(M.map (·.1)).Nodup):gZ (iJ M x) l=if x=l then []else gZ M l:=by
 unfold gZ;rw [Kt h]
 split<;>rfl
structure gB(n:Nat)(fl:ag)(D:Nat->Nat->Prop)(G:Nat->Prop)(b:Nat)(M:List kC):Prop where
 nd:(M.map (·.1)).Nodup
 el:∀l y,y∈gZ M l->∃y' i:Nat,y=(y':Int)/\y'<fl.length/\i<n/\D y' i/\l=jv (gl fl y') i
 al:∀y i:Nat,y<fl.length->i<n->D y i->(y:Int)∈gZ M (jv (gl fl y) i)\/G y
 len:∀l,(gZ M l).length<=b
section
variable{b':Nat}
variable {n:Nat} {fl:ag} {D D':Nat->Nat->Prop} {G G':Nat->Prop} {b:Nat} {M:List kC} {c:ah}
def tu(n:Nat)(fl:ag)(c:ah)(f i:Nat)(y j:Nat):Prop:=ir n c (gl fl y)/\(y<f\/y=f/\j<i)
theorem gB.zero:gB n fl (tu n fl c 0 0) (fun _=>False) 0 []:=⟨by simp,fun l y h=>by simp [gZ,fL]at h,fun y i _ _ h=>by have:=h.2;omega,fun l=>by simp [gZ,fL]⟩
theorem gB.congr(h:gB n fl D G b M)(hD:∀y i,y<fl.length->i<n->(D y i↔D' y i)):gB n fl D' G b M:=
 ⟨h.nd,fun l y hy=>by obtain⟨y',i,h1,h2,h3,h4,h5⟩:=h.el l y hy;exact⟨y',i,h1,h2,h3,(hD y' i h2 h3).1 h4,h5⟩,fun y i hy hi hd=>h.al y i hy hi ((hD y i hy hi).2 hd),h.len⟩
theorem gB.more(h:gB n fl D G b M)(hb:b<=b'):gB n fl D G b' M:=⟨h.nd,h.el,h.al,fun l=>lI (h.len l) hb⟩
theorem gB.skip{f:Nat}(h:gB n fl (tu n fl c f 0) G b M)(hf:¬ir n c (gl fl f)):gB n fl (tu n fl c (f+1) 0) G b M:=
 h.congr fun y i _ _=> ⟨fun h=> ⟨h.1,by have:=h.2;omega⟩,fun h=> ⟨h.1,by
  have h2:=h.2;have:y≠f:=fun e=>hf (e▸h.1)
  omega⟩⟩
theorem gB.row{f:Nat}(h:gB n fl (tu n fl c f n) G b M):gB n fl (tu n fl c (f+1) 0) G b M:=
 h.congr fun y i _ hi=> ⟨fun h=> ⟨h.1,by have:=h.2;omega⟩,fun h=> ⟨h.1,by have:=h.2;omega⟩⟩
theorem gB.put{f i:Nat}(h:gB n fl (tu n fl c f i) G b M)(hf:f<fl.length)(hi:i<n)(hH:ir n c (gl fl f))(s:aO):
 gB n fl (tu n fl c f (i+1)) G (b+1) (iM M (jv (gl fl f) i) (s,gZ M (jv (gl fl f) i)++ [(f:Int)])):=by
 refine⟨Om h.nd,fun l y hy=>?_,fun y j hy hj hd=>?_,fun l=>?_⟩
 ·rw [Fv]at hy
  split at hy
  ·rename_i e;rcases gE.1 hy with hy | hy
   ·obtain⟨y',j,h1,h2,h3,h4,h5⟩:=h.el _ y hy;exact⟨y',j,h1,h2,h3,⟨h4.1,by have:=h4.2;omega⟩,e.symm.trans h5⟩
   exact⟨f,i,iv.1 hy,hf,hi,⟨hH,.inr ⟨O,Nat.lt_succ_self _⟩⟩,e.symm⟩
  obtain⟨y',j,h1,h2,h3,h4,h5⟩:=h.el _ y hy;exact⟨y',j,h1,h2,h3,⟨h4.1,by have:=h4.2;omega⟩,h5⟩
 ·rw [Fv]
  by_cases e:y=f/\j=i
  ·obtain⟨rfl,rfl⟩:=e;rw [aJ rfl];exact .inl (List.mem_append_right _ (by simp))
  rcases h.al y j hy hj ⟨hd.1,by have:=hd.2;omega⟩with h1 | h1
  ·left
   split
   ·rename_i e2;rw [e2];exact List.mem_append_left _ h1
   exact h1
  exact .inr h1
 rw [Fv]
 split
 ·rename_i e;have:=h.len (jv (gl fl f) i);rw [e8];simp;omega
 have:=h.len l;omega
theorem gB.mono(h:gB n fl D G b M)(hG:∀y,y<fl.length->G y->G' y):gB n fl D G' b M:=
 ⟨h.nd,h.el,fun y i hy hi hd=> (h.al y i hy hi hd).imp id (hG y hy),h.len⟩
theorem gB.del(h:gB n fl D G b M){x:ah}(hx:∀y:Nat,(y:Int)∈gZ M x->G y):gB n fl D G b (iJ M x):=by
 refine⟨RS h.nd,fun l y hy=>?_,fun y i hy hi hd=>?_,fun l=>?_⟩
 ·rw [Fu h.nd]at hy
  split at hy
  ·cases hy
  exact h.el l y hy
 ·rcases h.al y i hy hi hd with h1 | h1
  ·rw [Fu h.nd]
   split
   ·rename_i e;rw [<-e]at h1;exact .inr (hx y h1)
   exact .inl h1
  exact .inr h1
 rw [Fu h.nd]
 split
 ·exact bA _
 exact h.len l
theorem gB.EG(h:gB n fl (fun y _=>ir n c (gl fl y)) G b M)(hl:∀x∈fl,x.length=n/\∀e∈x,0<=e){x i:Nat}(hx:x<fl.length)(hi:i<n)(hH:ir n c (gl fl x)){y:Int}(hy:y∈gZ M (jv (gl fl x) i)):∃y':Nat,y=y'/\y'<fl.length/\tD n fl c x y':=by
 obtain⟨y',j,h1,h2,h3,h4,h5⟩:=h.el _ y hy;have hm:∀z:Nat,z<fl.length->gl fl z∈fl:=fun z hz=>by rw [cM hz];exact dd _
 have vQ:=hl _ (hm x hx);have GK:=hl _ (hm y' h2);have e:i=j:=ZP vQ.1 GK.1 hi GK.2 h5;subst e;exact⟨y',h1,h2,hH,h4,i,hi,hx,h2,fun k hk b9=> (OA vQ.1 GK.1).1 h5 k hk b9⟩
end
theorem Rt{n:Nat}{c x:ah}(hc:c.length=n):k8 c x=c↔ir n c x:=by
 constructor
 ·intro h k hk b9;have:=bw (fun l=>gi l k) h;simp only [xg (a:=c) (b:=x) (show k<c.length by omega)]at this
  by_cases e:gi c k=gi x k
  ·exact e
  rw [aC e]at this;exact absurd this.symm b9
 intro h;refine Bc (n:=n) (by rw [xh,hc]) hc fun k hk=>?_
 rw [xg (by omega)]
 split
 ·rfl
 rename_i e;refine kV fun h2=>e (h k hk fun h3=>h2 h3.symm)
def gh(n:Nat)(fl:ag)(c:ah)(f:Nat):ah:=(dV f).filter fun y=>decide (ir n c (gl fl y))
theorem Qz{n:Nat}{fl:ag}{c:ah}{f:Nat}:gh n fl c (f+1)=if ir n c (gl fl f)then gh n fl c f++ [(f:Int)]else gh n fl c f:=by
 have:dV (f+1)=dV f++ [(f:Int)]:=by
  unfold dV;rw [rb,lF];rfl
 unfold gh;rw [this,List.filter_append]
 by_cases c:ir n c (gl fl f)
 ·rw [aJ c];simp [c]
 rw [aC c];simp [c]
theorem y4{n:Nat}{fl:ag}{c:ah}{f:Nat}{y:Int}:y∈gh n fl c f↔(0<=y/\y<f)/\ir n c (gl fl y):=by
 unfold gh;rw [jb,mA,qp]
def mf(N:Nat)(al:ah)(j:Nat):Nat:=if j<al.length then(gi al j).toNat else N
theorem iS.jump{N:Nat}{K:Nat->Nat->Prop}(hK:wT N K){L:ah}:∀(d f:Nat),iS N K f L->f+d<=N->(∀x,f<=x->x<f+d->¬K x x)->iS N K (f+d) L
 | 0,f,h,_,_=>h
 | d+1,f,h,hn,hx=>by
  have h1:=h.skip hK (by omega) (.inr (hx f (dE _) (by omega)));have:=iS.jump hK d (f+1) h1 (by omega) fun x h2 h3=>hx x (by omega) (by omega)
  rwa [show f+1+d=f+ (d+1) by omega]at this
section
variable {n:Nat} {fl:ag} {c:ah} {L:ah}
theorem BW(f:Nat):SA (gh n fl c f):=List.Pairwise.filter _ (tv _)
theorem Jz{j:Nat}:mf fl.length (gh n fl c fl.length) j<=fl.length:=by
 unfold mf
 split
 ·rename_i h;have:=(y4.1 (gi_in h)).1;omega
 exact dE _
theorem Yh(h:iS fl.length (gS n fl c) 0 L):iS fl.length (gS n fl c) (mf fl.length (gh n fl c fl.length) 0) L:=by
 have hle:=Jz (n:=n) (fl:=fl) (c:=c) (j:=0);have:=h.jump (yG n fl c) (mf fl.length (gh n fl c fl.length) 0) 0 (by omega) fun x _ hx hk=>by
  have hm:(x:Int)∈gh n fl c fl.length:=y4.2 ⟨by omega,hk.1⟩;obtain⟨p,hp,e⟩:=gu.1 hm;rw [<-bN hp]at e;unfold mf at hx;rw [aJ (by omega)]at hx
  by_cases e0:p=0
  ·subst e0;omega
  have:=(BW (n:=n) (fl:=fl) (c:=c) fl.length).uI (show 0<p by omega) hp;omega
 rwa [Nat.zero_add]at this
theorem Yi{j:Nat}(hj:j< (gh n fl c fl.length).length){f:Nat}(hf:gi (gh n fl c fl.length) j=f)(h:iS fl.length (gS n fl c) (f+1) L):iS fl.length (gS n fl c) (mf fl.length (gh n fl c fl.length) (j+1)) L:=by
 have hle:=Jz (n:=n) (fl:=fl) (c:=c) (j:=j+1);have xK:=(y4.1 (gi_in hj)).1;have pP:f+1<=mf fl.length (gh n fl c fl.length) (j+1):=by
  unfold mf
  split
  ·rename_i h2;have:=(BW (n:=n) (fl:=fl) (c:=c) fl.length).uI (show j<j+1 by omega) h2;omega
  omega
 have:=h.jump (yG n fl c) (mf fl.length (gh n fl c fl.length) (j+1) - (f+1)) (f+1) (by omega) fun x th hx hk=>by
  have hm:(x:Int)∈gh n fl c fl.length:=y4.2 ⟨by omega,hk.1⟩;obtain⟨p,hp,e⟩:=gu.1 hm;rw [<-bN hp]at e;have xZ:j<p:=by
   rcases Nat.lt_trichotomy j p with h2 | h2 | h2
   ·exact h2
   ·subst h2;omega
   have:=(BW (n:=n) (fl:=fl) (c:=c) fl.length).uI h2 hj;omega
  unfold mf at hx;rw [aJ (by omega)]at hx
  by_cases e0:p=j+1
  ·subst e0;omega
  have:=(BW (n:=n) (fl:=fl) (c:=c) fl.length).uI (show j+1<p by omega) hp;omega
 rwa [show f+1+ (mf fl.length (gh n fl c fl.length) (j+1) - (f+1))=mf fl.length (gh n fl c fl.length) (j+1) by omega]at this
end
end Go.Proofs.YtagdamiiececaaaGreatDoor.Vc
namespace Go.Proofs.YtagdamiiececaaaGreatDoor.Vc
open Go.RowKit Tryz
variable{Q:List Nat}{y z:Nat}{L R:ah}{x:Int}
theorem Ot(PB A:ai)(N c n:Nat)(rs:List aO)(fl:ag)(f i:Nat)(w:aa)(hT:nM w)(hb:Rd w PB 1 (fun _=> .slice A N c))(hM:bl w A N rs fl)(hf:f<N)(hN:N<=1000)(hl:(gl fl f).length=n)(hi:i<n)(hn:n<=100)(hr:∀x∈gl fl f,0<=x/\x<=1000000):
 aE prog 192 [aj f,aj i,.pointer PB] w (fun v w'=>v=tn (jv (gl fl f) i)/\St w w' []):=by
 have jq:=hM.len;have js:=hM.at_ (i:=(f:Int)) (by omega) (by omega);have gI:=js.1;refine bm func192 O ntmps192 O (bU O) (aY O (acZ (j:=0) hb (by exact bw Value.pointer (lC _).symm) O O O O (ao O (ay hM.top.2 O (bB hM.top O (aH (BJ _ _ _ _ _ js (by omega)) O ?_))))));rintro _ w1 ⟨A6,c6,rfl,hS⟩;refine ao O (ay (hS.bz 0 O).2 O (ak.gQ 0 hS O O O (by omega) ?_));intro w2 aw;have aw:St w w2 [ax 2 A6 (rg rs f).n c6 (jv (gl fl f) i)]:=aw;refine ao O ?_;refine acW (Nh A6 _ c6 (jv (gl fl f) i) _ (hT.aq aw.below) (aw.bz 0 O) (fun x hx=>by
  rcases List.mem_or_eq_of_mem_set hx with h | h
  ·have:=hr x h;omega
  omega) (by omega)) rfl rfl rfl ?_
 rintro _ w3 ⟨rfl,aA⟩;refine bu O (D1 O ?_);exact⟨O,aw.none.aq aA.below⟩
abbrev o7(PB A:ai)(N c:Nat)(ew:ai)(L:ah)(Aa:ai)(ca:Nat)(al:ah)(g:Nat)(M:List kC)(ks:List Ck):List Ck:=
 ax 2 ew N N L::Bx 25 1 PB [.slice A N c]::ax 2 Aa al.length ca al::jM 118 g (iZ tn yk M)::(mB 2 M++ks)
def lZ(Q:List Nat):ah:=Q.map fun x:Nat=> (x:Int)
theorem WS{k:Nat}(h:k<Q.length):gi (lZ Q) k=(Q.getD k 0:Nat):=by
 rw [bN (by simp [lZ,h])];simp [lZ,df,h]
theorem SQ{k:Nat}(h:k<Q.length):(Q++ [y]).getD k 0=Q.getD k 0:=by
 rw [df,ow h,<-df]
theorem WT{k:Nat}(h:k<=Q.length):lZ ((Q++ [y]).drop k)=lZ (Q.drop k)++ [(y:Int)]:=by
 rw [List.drop_append_of_le_length h];simp [lZ]
theorem Ft{f:Nat}(h:0<=gi L z):0<=gi (L.set y (f:Int)) z:=by
 simp only [gi,gn,df,kX]at h|-
 split
 ·split
  ·simp
  exact Int.le_refl _
 exact h
theorem SS{f:Nat}(h:y<L.length):gi (L.set y (f:Int)) y=f:=by
 rw [bN (by simpa using h)];simp
theorem Y1(A:ai)(N c:Nat)(rs:List aO)(fl:ag)(n:Nat)(A2:ai)(c2:Nat)(cm:ah)(w:aa)(hT:nM w)(hM:bl w A N rs fl)(hC:cd w A2 n cm)(hN:N<=401)(hn:n<=5)(hl:∀x∈fl,x.length=n/\∀e∈x,0<=e/\e<=1000000)(rO:fl.Nodup):
 aE prog 123 [.slice A N c,.slice A2 n c2] w (fun v w'=>∃A' L,v= .slice A' N N/\iS N (gS n fl cm) N L/\St w w' [ax 2 A' N N L]):=by
 have jq:=hM.len;have cz:=hC.1;have pQ:∀f:Nat,f<N->gl fl f∈fl:=fun f hf=>by rw [cM (by omega)];exact dd _
 have qA:∀x∈fl,x.length=n/\∀e∈x,0<=e:=fun x hx=> ⟨(hl x hx).1,fun e he=> ((hl x hx).2 e he).1⟩
 have lq:∀x∈fl,x.length=n:=fun x hx=> (hl x hx).1
 refine bm func123 O ntmps123 O (bU O) (aY O ?_);refine ak.box (v:= .slice A N c) (St.refl w) O O (by show(1:Nat)<=maxLen;simp [maxLen]) ?_;intro PB w1 aB;have fp:Rd w1 PB 1 (fun _=> .slice A N c):=Rd.one (aB.rd 0 O);refine ao O (fk (i:= -1) aB O O O ?_);intro En w2 aw;have fp:Rd w2 PB 1 (fun _=> .slice A N c):=Rd.one (aw.rd 1 O);refine acZ (j:=0) fp (by exact bw Value.pointer (lC _).symm) O O O O (aZ O O (aH (yX En 1 (-1) N _ (aw.bz 0 O) (by omega)) O ?_));rintro _ w3 ⟨ew,rfl,aA⟩;have aI:=aw.call aA;clear aA;refine ao O (Ja aI O ?_);intro g w4 aG;have fp:Rd w4 PB 1 (fun _=> .slice A N c):=Rd.one (aG.rd 3 O);refine ao O (I6 O O (ao O (acZ (j:=0) fp (by exact bw Value.pointer (lC _).symm) O O O O (aH (wC _ _ _ _) O ?_))));rintro _ w4 ⟨rfl,rfl⟩;have aR:St w w4 [ax 2 none 0 0 [],jM 118 g [],ax 2 ew N N (List.replicate N (-1)),ax 2 En 1 1 [-1],Bx 25 1 PB [.slice A N c]]:=aG.nil 2;have aR:St w w4 (o7 PB A N c ew (List.replicate N (-1)) none 0 (gh n fl cm 0) g [] []):=by
  have h9:=aR.perm (show List.Perm _ (ax 2 En 1 1 [-1]::o7 PB A N c ew (List.replicate N (-1)) none 0 (gh n fl cm 0) g [] []) from by
   classical
   refine List.perm_iff_count.2 fun z=>?_
   simp only [o7,mB,List.map_nil,List.count_append,List.count_cons,List.count_nil,gh,dV,List.range_zero,List.filter_nil,List.length_nil];have:iZ tn yk ([]:List kC)=[]:=O;rw [this];omega)
  exact h9.tail
 clear aG aI aw aB fp;refine az O (Cd.loop (α:=Nat×ai×Nat×List kC) (fun z=> [(1,.slice A2 n c2),(2,.pointer PB),(5,.slice ew N N),(6,.map (some g)),(7,.func (.func 192) #[] #[.pointer PB]),(8,.slice z.2.1 (gh n fl cm z.1).length z.2.2.1),(26,aj N),(27,aj (z.1:Int))]) (fun z w'=>z.1<=N/\gB n fl (tu n fl cm z.1 0) (fun _=>False) (5*z.1) z.2.2.2/\St w w' (o7 PB A N c ew (List.replicate N (-1)) z.2.1 z.2.2.1 (gh n fl cm z.1) g z.2.2.2 [])) (fun z=>N - z.1) (0,none,0,[]) (ac4 O) ⟨bA _,gB.zero,aR⟩ ?_);clear aR;rintro⟨f,Aa,ca,M⟩ e w5 ⟨hf,gG,hS⟩;dsimp only at hf gG hS|-;have ct:(gh n fl cm f).length<=500:=by
  refine lI (ox _ _) ?_;rw [dV,fQ,pf];omega
 refine b7 O (aM _ O (fun h1=>?_) (fun h1=>?_))
 ·have xK:f<N:=by omega
  have fp:Rd w5 PB 1 (fun _=> .slice A N c):=Rd.one (hS.rd 1 O);have Cz:=hS.bE hM;have js:=Cz.at_ (i:=(f:Int)) (by omega) (by omega);have gI:=js.1;have Me:=hl _ (pQ f xK);have VE:(rg rs f).n=n:=by omega
  have zI:=Rt (n:=n) (c:=cm) (x:=gl fl f) cz;have xD:=Qz (n:=n) (fl:=fl) (c:=cm) (f:=f);refine aD O (acZ (j:=0) fp (by exact bw Value.pointer (lC _).symm) O O O O (ao O (ay Cz.top.2 O (bB Cz.top O (aH (JN A2 (rg rs f).a n c2 (rg rs f).n (rg rs f).c cm (gl fl f) _ (hS.dY hC) js VE.symm (by omega)) O ?_)))));rintro _ w6 ⟨kB,Ri,rfl,aA⟩;have aQ:=hS.aq aA.below;have K3:=aQ.dY hC;have zl:=aA.bz 0 O;clear aA hS fp Cz js;refine ao O ?_;refine aH (II kB _ Ri (k8 cm (gl fl f)) A2 n c2 cm _ zl K3 (by rw [xh];omega)) O ?_;rintro _ w7 ⟨rfl,aA⟩;have a6:=aQ.aq aA.below;clear aA aQ zl K3
  first | refine dM rfl rfl ?_ | refine eI rfl rfl ?_
  refine az O (aM _ O (fun h2=>?_) (fun h2=>?_))
  ·have eC:¬ir n cm (gl fl f):=fun h=>h2 (zI.2 h)
   rw [aC eC]at xD;refine aD O (aL O (aU O (tQ ?_)));refine⟨(f+1,Aa,ca,M),by show N - (f+1)<N - f;omega,⟨O,O,O,O,O,?_,O,O,au⟩,by show f+1<=N;omega,(gG.skip eC).more (by show 5*f<=5* (f+1);omega),?_⟩
   ·show Value.slice _ _ _=_;rw [xD]
   show St w w7 (o7 _ _ _ _ _ _ _ _ (gh n fl cm (f+1)) _ _ _);rw [xD];exact a6
  have iX:ir n cm (gl fl f):=zI.1 (gC.1 h2);rw [aJ iX]at xD;refine aD O (fk a6 O O O ?_);intro A9 w8 a7;refine fR 3 a7 O (a7.bz 0 O) O O O ?_;intro AZ cZ w9 aW;have aW:St w w9 (o7 PB A N c ew (List.replicate N (-1)) AZ cZ (gh n fl cm (f+1)) g M []):=by
   have h9:=aW.tail;rw [xD];show St w w9 (_::_::ax _ AZ ((gh n fl cm f++ [(f:Int)]).length) cZ _::_);rw [e8];exact h9
  have U2:(gh n fl cm f).length+1=(gh n fl cm (f+1)).length:=by rw [xD,e8];rfl
  clear a7 a6;refine ao O (aZ O O (az O ?_));refine Cd.loop (α:=Nat×List kC) (fun z=> [(1,.slice A2 n c2),(2,.pointer PB),(5,.slice ew N N),(6,.map (some g)),(7,.func (.func 192) #[] #[.pointer PB]),(8,.slice AZ (gh n fl cm (f+1)).length cZ),(26,aj N),(27,aj f),(9,aj f),(44,aj n),(45,aj (z.1:Int))]) (fun z w'=>z.1<=n/\gB n fl (tu n fl cm f z.1) (fun _=>False) (5*f+z.1) z.2/\St w w' (o7 PB A N c ew (List.replicate N (-1)) AZ cZ (gh n fl cm (f+1)) g z.2 [])) (fun z=>n - z.1) (0,M) ⟨O,O,O,O,O,bw (fun m=>Value.slice AZ m cZ) U2,O,O,O,O,O,au⟩ ⟨bA _,gG,aW⟩ ?_;clear aW gG;rintro⟨i,M⟩ e dt ⟨hi,gG,hS⟩;dsimp only at hi gG hS|-;refine b7 O (aM _ O (fun h3=>?_) (fun h3=>?_))
  ·have cS:i<n:=by omega
   refine aD O (aH (Ot PB A N c n rs fl f i _ (hT.aq hS.below) (Rd.one (hS.rd 1 O)) (hS.bE hM) xK (by omega) Me.1 cS (by omega) Me.2) O ?_);rintro _ dB ⟨rfl,aA⟩;have hS:=hS.aq aA.below;have hlen:=gG.len (jv (gl fl f) i);have Ai:=gG.put (by omega) cS iX;generalize nY:jv (gl fl f) i=kx at*;have G8:=(EE (pre:=[_,_,_,_]) (x:=kx) hS).1;clear aA;refine ao O ?_;refine I8 (v:= .slice (gF M kx).a (gF M kx).n (gF M kx).c) yh (hS.H6 3 rfl) rfl rfl (by unfold gF;cases fL M kx<;>rfl) rfl ?_;refine ao O (fk hS O O O ?_);intro A9 iO fU;have fU:=St.OU (pre:=[_,_,_,_,_]) (x:=kx) fU;refine fR 0 fU O (fU.bz 1 O) O O O fun AY cY jK gL=>Jd O yh 5 (a:=kx) (u:=(⟨AY,(gF M kx).n+1,cY⟩,gZ M kx++ [(f:Int)])) gL O O O O ?_;intro si oI;have nn:=(Jg (M:=M) (x:=kx) (u:=(⟨AY,(gF M kx).n+1,cY⟩,gZ M kx++ [(f:Int)])) (pre:=[_,_,_,_,_]) oI).tail;refine ao O (aL O (aU O (tQ ?_)));exact⟨(i+1,iM M kx (⟨AY,(gF M kx).n+1,cY⟩,gZ M kx++ [(f:Int)])),by show n - (i+1)<n - i;omega,(ac4 O),by show i+1<=n;omega,Ai _,nn⟩
  obtain rfl:i=n:=by omega
  refine bo O (bp (cn O (aL O (aU O (tQ ?_)))));exact⟨(f+1,AZ,cZ,M),by show N - (f+1)<N - f;omega,(ac4 O),by show f+1<=N;omega,gG.row.more (by show 5*f+i<=5* (f+1);omega),hS⟩
 obtain rfl:f=N:=by omega
 subst jq;have FX:=yG n fl cm;have gG:gB n fl (fun y _=>ir n cm (gl fl y)) (fun y=>0<=gi (List.replicate fl.length (-1:Int)) y) 2005 M:=((gG.congr fun y i hy hi=> ⟨fun h=>h.1,fun h=> ⟨h,.inl hy⟩⟩).mono fun y _ h=>h.elim).more (by omega);have nm:=Yh (n:=n) (fl:=fl) (c:=cm) (iS.zero fl.length (gS n fl cm));have gH:=fun(L:ah) (j f:Nat) (hj:j< (gh n fl cm fl.length).length) (hf:gi (gh n fl cm fl.length) j=f) h=>Yi (n:=n) (fl:=fl) (c:=cm) (L:=L) hj hf h
 have jE:=fun y:Int=>y4 (n:=n) (fl:=fl) (c:=cm) (f:=fl.length) (y:=y)
 generalize gh n fl cm fl.length=al at*;refine bo O (bp (cn O (aZ O O (az O ?_))));refine Cd.loop (α:=Nat×ah×List kC) (fun z=> [(1,.slice A2 n c2),(2,.pointer PB),(5,.slice ew fl.length fl.length),(6,.map (some g)),(7,.func (.func 192) #[] #[.pointer PB]),(62,.slice Aa al.length ca),(63,aj (al.length:Int)),(64,aj (z.1:Int))]) (fun z w'=>z.1<=al.length/\iS fl.length (gS n fl cm) (mf fl.length al z.1) z.2.1/\gB n fl (fun y _=>ir n cm (gl fl y)) (fun y=>0<=gi z.2.1 y) 2005 z.2.2/\St w w' (o7 PB A fl.length c ew z.2.1 Aa ca al g z.2.2 [])) (fun z=>al.length - z.1) (0,List.replicate fl.length (-1),M) (ac4 O) ⟨bA _,nm,gG,hS⟩ ?_;clear hS gG nm hf h1;rintro⟨j,L0,M⟩ e w6 ⟨hj,nm,gG,hS⟩;dsimp only at hj nm gG hS|-;refine b7 O (aM _ O (fun h1=>?_) (fun h1=>?_))
 ·have C8:j<al.length:=by omega
  have C5:=(jE _).1 (gi_in C8);obtain⟨f,hf⟩:∃f:Nat,gi al j=f:=⟨(gi al j).toNat,by omega⟩;have gx:mf fl.length al j=f:=by unfold mf;rw [if_pos C8,hf];rfl
  rw [hf]at C5;rw [gx]at nm;have vp:=nm.1;have TG:gS n fl cm f f:=⟨C5.2,.refl (by omega)⟩;have ub:=hS.bz 0 O;refine aD O (ay (hS.bz 2 O).2 O (bc (hS.bz 2 O) O (ao O ?_)));rw [hf];refine ay ub.2 O (bc ub O (az O ?_));refine aM _ O (fun h2=>?_) (fun h2=>?_)
  ·refine aD O (aL O (aU O (tQ ?_)));exact⟨(j+1,L0,M),by show al.length - (j+1)<al.length - j;omega,(ac4 O),by show j+1<=al.length;omega,gH _ j f C8 hf (nm.skip FX (by omega) (.inl h2)),gG,hS⟩
  have h0:gi L0 f<0:=by omega
  refine aD O (ay ub.2 O (ak.gQ 0 hS O O O (by omega) ?_));intro w7 a6;have a6:St w w7 (o7 PB A fl.length c ew (L0.set f (f:Int)) Aa ca al g M []):=a6;refine ao O (fk a6 O O O ?_);intro Ao w8 a7;have jU:=mG.start (A:=tD n fl cm) vp (show f<fl.length by omega) h0 TG;have gG:=gG.mono (G':=fun y=>0<=gi (L0.set f (f:Int)) y) fun y _ h=>Ft h
  refine az O (Cd.loop (α:=Nat×ah×List Nat×ai×Nat×List kC) (fun z=> [(1,.slice A2 n c2),(2,.pointer PB),(5,.slice ew fl.length fl.length),(6,.map (some g)),(7,.func (.func 192) #[] #[.pointer PB]),(62,.slice Aa al.length ca),(63,aj (al.length:Int)),(64,aj j),(13,aj f),(14,.slice z.2.2.2.1 (z.2.2.1.length - z.1) z.2.2.2.2.1)]) (fun z w'=>mG fl.length (gS n fl cm) (tD n fl cm) f L0 z.2.1 z.2.2.1 z.1/\gB n fl (fun y _=>ir n cm (gl fl y)) (fun y=>0<=gi z.2.1 y) 2005 z.2.2.2.2.2/\St w w' (ax 2 z.2.2.2.1 (z.2.2.1.length - z.1) z.2.2.2.2.1 (lZ (z.2.2.1.drop z.1))::o7 PB A fl.length c ew z.2.1 Aa ca al g z.2.2.2.2.2 [])) (fun z=>fl.length+1 - z.1) (0,L0.set f (f:Int),[f],Ao,1,M) (ac4 O) ⟨jU,gG,a7⟩ ?_);clear a7 a6 hS ub jU gG;rintro⟨k,L,Q,Ao,co,M⟩ e w9 ⟨jU,gG,hS⟩;dsimp only at jU gG hS|-;have tb:=jU.H4;have gM:=jU.Hu;refine aY O (aZ O O (az O ?_));refine aM _ O (fun h3=>?_) (fun h3=>?_)
  ·have mq:k<Q.length:=by omega
   obtain⟨x,hx⟩:∃x,Q.getD k 0=x:=⟨_,rfl⟩;have MV:x∈Q:=by rw [<-hx,df,dL mq];exact dd _
   have lY:=jU.tl x MV;have TC:ir n cm (gl fl x):=(lY.2.2.1.of lY.2.2.2);have vQ:=hl _ (pQ x lY.1);refine aD O (aZ O O (az O ?_));refine Cd.loop (α:=Nat×ah×List Nat×ai×Nat×List kC) (fun z=> [(1,.slice A2 n c2),(2,.pointer PB),(5,.slice ew fl.length fl.length),(6,.map (some g)),(7,.func (.func 192) #[] #[.pointer PB]),(62,.slice Aa al.length ca),(63,aj (al.length:Int)),(64,aj j),(13,aj f),(14,.slice z.2.2.2.1 (z.2.2.1.length - k) z.2.2.2.2.1),(85,aj n),(86,aj (z.1:Int))]) (fun z w'=>z.1<=n/\mG fl.length (gS n fl cm) (tD n fl cm) f L0 z.2.1 z.2.2.1 k/\(k<z.2.2.1.length/\z.2.2.1.getD k 0=x)/\gB n fl (fun y _=>ir n cm (gl fl y)) (fun y=>0<=gi z.2.1 y) 2005 z.2.2.2.2.2/\(∀i' y:Nat,i'<z.1->y<fl.length->ir n cm (gl fl y)->jv (gl fl y) i'=jv (gl fl x) i'->0<=gi z.2.1 y)/\St w w' (ax 2 z.2.2.2.1 (z.2.2.1.length - k) z.2.2.2.2.1 (lZ (z.2.2.1.drop k))::o7 PB A fl.length c ew z.2.1 Aa ca al g z.2.2.2.2.2 [])) (fun z=>n - z.1) (0,L,Q,Ao,co,M) (ac4 O) ⟨bA _,jU,⟨mq,hx⟩,gG,fun i' y h=>absurd h (oy _),hS⟩ ?_;clear hS gG jU hx MV mq tb gM h3;rintro⟨i,Li,Qi,Ao,co,M⟩ e dt ⟨hi,jU,⟨mq,hx⟩,gG,nW,hS⟩;dsimp only at hi jU mq hx gG nW hS|-;refine b7 O (aM _ O (fun h4=>?_) (fun h4=>?_))
   ·have cS:i<n:=by omega
    have vK:gi (lZ (Qi.drop k)) 0=(x:Int):=by
     have h9:=WS mq;rw [hx]at h9;rw [<-h9];unfold lZ;rw [List.map_drop,Kx]
    have C0:(lZ (Qi.drop k)).length=Qi.length - k:=by simp [lZ]
    have FZ:=hS.bz 0 O;refine aD O (acU (i:=0) FZ.2 O O O (by omega) (by omega) ?_);refine acV (i:=0) FZ O (by show 0<_;omega) O O ?_;refine ao O ?_;rw [vK];refine aH (Ot PB A fl.length c n rs fl x i _ (hT.aq hS.below) (Rd.one (hS.rd 2 O)) (hS.bE hM) lY.1 (by omega) vQ.1 cS (by omega) vQ.2) O ?_;rintro _ dB ⟨rfl,aA⟩;have hS:=hS.aq aA.below;have Gc:=fun y hy=>gG.EG qA lY.1 cS TC (y:=y) hy
    have Uu:=gG.len (jv (gl fl x) i);have Ly:=fun(y:Nat) (hy:y<fl.length) (hH:ir n cm (gl fl y)) (he:jv (gl fl y) i=jv (gl fl x) i)=>he▸gG.al y i hy cS hH
    generalize nY:jv (gl fl x) i=kx at*;clear aA FZ;obtain⟨sx,MQ⟩:∃sx,gF M kx=sx:=⟨_,rfl⟩;obtain⟨ys,Hm⟩:∃ys,gZ M kx=ys:=⟨_,rfl⟩;have kf:∀ {w':aa} {Ao:ai} {no co:Nat} {qs:ah} {L:ah},St w w' (ax 2 Ao no co qs::o7 PB A fl.length c ew L Aa ca al g M [])->cd w' sx.a sx.n ys:=fun h=>by
     rw [<-MQ,<-Hm];exact EE (pre:=[_,_,_,_,_]) (x:=kx) h
    rw [Hm]at Uu Gc Ly;have mw:=(kf hS).1;refine ao O ?_;refine I8 (v:= .slice sx.a sx.n sx.c) yh (hS.H6 4 rfl) rfl rfl (by rw [<-MQ];unfold gF;cases fL M kx<;>rfl) rfl ?_;refine aZ O O (az O ?_);refine Cd.loop (α:=Nat×ah×List Nat×ai×Nat) (fun z=> [(1,.slice A2 n c2),(2,.pointer PB),(5,.slice ew fl.length fl.length),(6,.map (some g)),(7,.func (.func 192) #[] #[.pointer PB]),(62,.slice Aa al.length ca),(63,aj (al.length:Int)),(64,aj j),(13,aj f),(14,.slice z.2.2.2.1 (z.2.2.1.length - k) z.2.2.2.2),(85,aj n),(86,aj i),(16,tn kx),(97,.slice sx.a sx.n sx.c),(98,aj (sx.n:Int)),(99,aj (z.1:Int))]) (fun z w'=>z.1<=sx.n/\mG fl.length (gS n fl cm) (tD n fl cm) f L0 z.2.1 z.2.2.1 k/\(k<z.2.2.1.length/\z.2.2.1.getD k 0=x)/\(∀p:Nat,p<z.1->0<=gi z.2.1 (gi ys p))/\(∀y:Nat,0<=gi Li y->0<=gi z.2.1 y)/\St w w' (ax 2 z.2.2.2.1 (z.2.2.1.length - k) z.2.2.2.2 (lZ (z.2.2.1.drop k))::o7 PB A fl.length c ew z.2.1 Aa ca al g M [])) (fun z=>sx.n - z.1) (0,Li,Qi,Ao,co) (ac4 O) ⟨bA _,jU,⟨mq,hx⟩,fun p h=>absurd h (oy _),fun y h=>h,hS⟩ ?_;clear hS jU mq hx vK C0;rintro⟨q,L,Q,Ao,co⟩ e iO ⟨hq,jU,⟨mq,hx⟩,Db,xW,hS⟩;dsimp only at hq jU mq hx Db xW hS|-;have tb:=jU.H4;have hLl2:=jU.len;refine b7 O (aM _ O (fun h5=>?_) (fun h5=>?_))
    ·have VU:q<ys.length:=by omega
     have Dq:=kf hS;obtain⟨y,hy,vW,Hl⟩:=Gc _ (gi_in VU);have ub:=hS.bz 1 O;refine aD O (ay Dq.2 O (bc Dq O (ao O ?_)));rw [hy];refine ay ub.2 O (bc ub O (az O ?_));refine aM _ O (fun h6=>?_) (fun h6=>?_)
     ·have uz:=jU.meet vW h6 (FX.tz _ _ _ lY.2.2 (Hl.link rO lq));refine aD O (ay ub.2 O (ak.gQ 1 hS O O O (by omega) ?_));intro jK gL;refine ao O (fk gL O O O ?_);intro A9 si oI;refine fR 1 oI O (oI.bz 0 O) O O O ?_;intro AZ cZ qT nn;have nn:=nn.tail;have Mg:(Q++ [y]).length - k=(Q.length - k)+1:=by rw [e8];show Q.length+1 - k=_;omega
      refine ao O (aL O (aU O (tQ ?_)));refine⟨(q+1,L.set y (f:Int),Q++ [y],AZ,cZ),by show sx.n - (q+1)<sx.n - q;omega,⟨O,O,O,O,O,O,O,O,O,bw (fun m=>Value.slice AZ m cZ) Mg.symm,O,O,O,O,O,O,au⟩,by show q+1<=sx.n;omega,uz,⟨by show k< (Q++ [y]).length;rw [e8];omega,by show(Q++ [y]).getD k 0=x;rw [SQ mq,hx]⟩,fun p hp=>?_,fun z hz=>Ft (xW z hz),?_⟩
      ·by_cases ep:p=q
       ·subst ep;rw [hy];have h9:=SS (L:=L) (y:=y) (f:=f) (by omega);show 0<=gi (L.set y (f:Int)) y;omega
       have hp:p<q+1:=hp;obtain⟨y9,Wu,_,_⟩:=Gc _ (gi_in (show p<ys.length by omega));have h9:=Db p (by omega);rw [Wu]at h9|-;exact Ft h9
      show St w qT (ax _ AZ ((Q++ [y]).length - k) cZ (lZ ((Q++ [y]).drop k))::_);rw [Mg,WT (by omega)];exact nn
     refine aD O (aL O (aU O (tQ ?_)));refine⟨(q+1,L,Q,Ao,co),by show sx.n - (q+1)<sx.n - q;omega,(ac4 O),by show q+1<=sx.n;omega,jU,⟨mq,hx⟩,fun p hp=>?_,xW,hS⟩
     by_cases ep:p=q
     ·subst ep;rw [hy];show 0<=gi L y;omega
     have hp:p<q+1:=hp;exact Db p (by omega)
    have ct:∀y:Nat,(y:Int)∈ys->0<=gi L y:=fun y hy=>by
     obtain⟨p,hp,e9⟩:=gu.1 hy;rw [<-bN hp]at e9;have:=Db p (by omega)
     rwa [e9]at this
    have Tx:=(gG.mono (G':=fun y=>0<=gi L y) fun y _ h=>xW y h).del (x:=kx) fun y hy=>ct y (Hm▸hy)
    refine bo O (bp (cn O ?_));refine Qe yh 4 (a:=kx) hS O O O ?_;intro jK gL;have gL:=Qr (pre:=[_,_,_,_,_]) (x:=kx) gL;refine ao O (aL O (aU O (tQ ?_)));refine⟨(i+1,L,Q,Ao,co,iJ M kx),by show n - (i+1)<n - i;omega,(ac4 O),by show i+1<=n;omega,jU,⟨mq,hx⟩,Tx,fun i' y di vW hH he=>?_,gL⟩
    by_cases ei:i'=i
    ·subst ei;rcases Ly y vW hH (he.trans nY)with h9 | h9
     ·exact ct y h9
     exact xW y h9
    exact xW y (nW i' y (by have di:i'<i+1:=di;omega) vW hH he)
   obtain rfl:i=n:=by omega
   have tb:=jU.H4;have rP:=jU.next mq fun y hy=>by
    rw [hx]at hy;obtain⟨_,TD,i',di,ha⟩:=hy;exact nW i' y di ha.2.1 TD ((OA vQ.1 (hl _ (pQ y ha.2.1)).1).2 fun k9 h9 fG=>ha.2.2 k9 h9 fG).symm
   have hkQ2:k<Qi.length:=mq;have rF:=St.JR (i:=0) (l:=1) hS O (by show 1<=Qi.length - k;omega);refine bo O (bp (cn O ?_));refine sr (l:=1) O O O (by omega) (aU O (tQ ?_));refine⟨(k+1,Li,Qi,cutAt Ao co 1,co - 1,M),by show fl.length+1 - (k+1)<fl.length+1 - k;omega,⟨O,O,O,O,O,O,O,O,O,bw (fun m=>Value.slice (cutAt Ao co 1) m (co - 1)) (Nat.sub_sub _ _ _),au⟩,rP,gG,?_⟩;show St w dt (ax _ (cutAt Ao co 1) (Qi.length - (k+1)) (co - 1) (lZ (Qi.drop (k+1)))::_);have e9:lZ (Qi.drop (k+1))=(lZ (Qi.drop k)).drop 1:=by simp [lZ]
   rw [e9,<-Nat.sub_sub];exact rF
  have mq:k=Q.length:=by omega
  subst mq;have sV:=jU.end_ FX nm (by omega) h0 (fun S aB aw=>PM S aB aw) (fun x y h=>h.link rO lq);refine bo O (bp (cn O (aL O (aU O (tQ ?_)))));exact⟨(j+1,L,M),by show al.length - (j+1)<al.length - j;omega,(ac4 O),by show j+1<=al.length;omega,gH _ j f C8 hf sV,gG,hS.tail⟩
 have vM:j=al.length:=by omega
 have gx:mf fl.length al j=fl.length:=by unfold mf;rw [if_neg (by omega)]
 rw [gx]at nm;refine bo O (bp (e6 O ?_));exact fA O ⟨ew,L0,O,nm,hS.sub ((List.nil_sublist _).cons_cons _)⟩
def uset(u:Nat->ab)(k:Nat)(v:ab):Nat->ab:=fun j=>cond (Nat.beq j k) v (u j)
theorem aaK{u:Nat->ab}{k:Nat}{v:ab}(h:u k=v):u=uset u k v:=by
 funext j;unfold uset;cases hb:Nat.beq j k with
 | true=>rw [lH hb,h];rfl
 | false=>rfl
theorem RI(A:ai)(N c:Nat)(rs:List aO)(fl:ag)(n:Nat)(w:aa)(hT:nM w)(hM:bl w A N rs fl)(hN:N<=401)(hn:n<=5)(hl:∀x∈fl,x.length=n/\∀e∈x,0<=e/\e<=1000000)(rO:fl.Nodup):
 aE prog 64 [.slice A N c] w (fun v w'=>∃A' n' c',v= .slice A' n' c'/\(A'.isNone=true↔BK n fl)/\St w w' []):=by
 have jq:=hM.len;have pQ:∀f:Nat,f<N->gl fl f∈fl:=fun f hf=>by rw [cM (by omega)];exact dd _
 have qA:∀x∈fl,x.length=n/\∀e∈x,0<=e:=fun x hx=> ⟨(hl x hx).1,fun e he=> ((hl x hx).2 e he).1⟩
 refine bm func64 O ntmps64 O (bU O) (aY O (Ja (St.refl w) O ?_));intro g w1 aB;have aB:St w w1 (jM 118 g (iZ tn yk ([]:List kC))::(mB 2 ([]:List kC)++ [])):=aB;refine ao O (aH (wC _ _ _ _) O ?_);rintro _ w1 ⟨rfl,rfl⟩;refine az O ?_;refine Cd.loop (α:=Nat×List kC) (fun z=> [(0,.slice A N c),(3,.map (some g)),(12,aj N),(13,aj (z.1:Int))])
  (fun z w'=>z.1<=N/\(∀l u,fL z.2 l=some u->iS N (gS n fl l) N u.2)/\(∀a b:Nat,a<z.1->a<b->b<N->jd n fl (fun k=>gi (gl fl a) k=gi (gl fl b) k) a b)/\St w w' (jM 118 g (iZ tn yk z.2)::(mB 2 z.2++ []))) (fun z=>N - z.1) (0,[]) ⟨rfl,rfl,rfl,rfl,au⟩ ⟨bA _,fun l u h=>by simp [fL]at h,fun a b h=>absurd h (oy _),aB⟩ ?_
 clear aB;rintro⟨a,M⟩ e w2 ⟨ha,qw,nW,hS⟩;dsimp only at ha qw nW hS|-;refine b7 O (aM _ O (fun h1=>?_) (fun h1=>?_))
 ·have Gb:a<N:=by omega
  refine aD O (aL O (az O ?_));refine Cd.loop (α:=Nat×List kC) (fun z=> [(0,.slice A N c),(3,.map (some g)),(12,aj N),(13,aj a),(4,aj a),(5,aj (z.1:Int))])
   (fun z w'=> (a<z.1/\z.1<=N)/\(∀l u,fL z.2 l=some u->iS N (gS n fl l) N u.2)/\(∀b:Nat,a<b->b<z.1->jd n fl (fun k=>gi (gl fl a) k=gi (gl fl b) k) a b)/\St w w' (jM 118 g (iZ tn yk z.2)::(mB 2 z.2++ []))) (fun z=>N - z.1) (a+1,M) ⟨rfl,rfl,rfl,rfl,rfl,rfl,au⟩ ⟨⟨Nat.lt_succ_self _,Gb⟩,qw,fun b h h'=>by omega,hS⟩ ?_
  clear hS qw;rintro⟨b,M⟩ e w3 ⟨⟨jn,Uo⟩,qw,xH,hS⟩;dsimp only at jn Uo qw xH hS|-;refine aY O (aH (wC _ _ _ _) O ?_);rintro _ w3 ⟨rfl,rfl⟩;refine az O (aM _ O (fun h2=>?_) (fun h2=>?_))
  ·have hb:b<N:=by omega
   have vq:=hS.bE hM;have G1:=vq.at_ (i:=(a:Int)) (by omega) (by omega);have G2:=vq.at_ (i:=(b:Int)) (by omega) (by omega);have GD:=hl _ (pQ a Gb);have GF:=hl _ (pQ b hb);have hna:(rg rs a).n=n:=by rw [<-G1.1];exact GD.1
   have GO:(rg rs b).n=n:=by rw [<-G2.1];exact GF.1
   have nq:=Ru (n:=n) qA (show a<fl.length by omega) (show b<fl.length by omega);have cz:(k8 (gl fl a) (gl fl b)).length=n:=by rw [xh];exact GD.1
   have UI:∀x∈k8 (gl fl a) (gl fl b),-1<=x/\x<=1000000:=fun x hx=>by
    obtain⟨k,hk,rfl⟩:=fx.1 hx;have hk:=jN.1 hk
    split
    ·have:=GD.2 _ (gi_in hk);omega
    ·omega
   refine cH O ?_;refine dK [xS (A) (N) (c),xI ((a:Int)),xP (aF (A) ((a:Int)).toNat),xS ((rg (rs) ((a:Int))).a) ((rg (rs) ((a:Int))).n) ((rg (rs) ((a:Int))).c),xS (A) (N) (c),xI ((b:Int)),xP (aF (A) ((b:Int)).toNat),xS ((rg (rs) ((b:Int))).a) ((rg (rs) ((b:Int))).n) ((rg (rs) ((b:Int))).c),.pr (fun v w'=>∃A6 c6,v= .slice A6 n c6/\cd w' A6 n (k8 (gl fl a) (gl fl b))),.pr (fun v w'=>∃A6 c6,v= .slice A6 n c6/\cd w' A6 n (k8 (gl fl a) (gl fl b)))] rfl (lx (lx (lx (lx (lx (lx (lx (lx (cL.2 ⟨Yd.cQ (fun v w w' h hb=>by obtain⟨A6,c6,hv,hT⟩:=h;exact⟨A6,c6,hv,hT.aq hb⟩),(cL.2 ⟨Yd.cQ (fun v w w' h hb=>by obtain⟨A6,c6,hv,hT⟩:=h;exact⟨A6,c6,hv,hT.aq hb⟩),(fun _ h=>by cases h)⟩)⟩))))))))) ?_ ?_
   ·refine⟨Dr O,Dr O,fun _ _ hb _ _=>ay (vq.top.aq hb).2 O Az,fun _ _ hb _ _=>bB (vq.top.aq hb) O Az,Dr O,Dr O,fun _ _ hb _ _=>ay (vq.top.aq hb).2 O Az,fun _ _ hb _ _=>bB (vq.top.aq hb) O Az,?_,?_,au⟩
    ·intro e1 w1 hb hp aX;refine aH (JN (rg rs a).a (rg rs b).a (rg rs a).n (rg rs a).c (rg rs b).n (rg rs b).c (gl fl a) (gl fl b) _ (G1.aq hb) (G2.aq hb) (by omega) (by omega)) O ?_;rintro _ w9 ⟨A6,c6,rfl,aA⟩;refine ak.n ?_;exact eA.dn aA.below ⟨A6,c6,by rw [cz],by have h9:=aA.bz 0 O;rw [cz]at h9;exact h9⟩
    ·intro e1 w1 hb hp aX;obtain⟨A6,c6,Th,hT⟩:=(hp 8 (by decide) rfl _ _ rfl rfl);refine lJ O (by exact Th) O (ak.n ?_);exact eA.dn (Below.refl _ _) ⟨A6,c6,O,hT⟩
   intro u w4 kL hu;obtain⟨A6,c6,h6,sQ⟩:=hu 9 _ rfl;rw [aaK h6];have aG:=hS.aq kL;generalize nV:k8 (gl fl a) (gl fl b)=cm at*;clear hu hS vq G1 G2;refine fK O ?_;refine aH (Nh A6 n c6 cm _ (hT.aq aG.below) sQ (fun x hx=>by have:=UI x hx;omega) (by omega)) O ?_;rintro _ w5 ⟨rfl,aA⟩;have aR:=aG.aq aA.below;have sQ:=sQ.aq aA.below;clear aA aG;refine ao O ?_;refine Qh (v:= .slice (gF M cm).a (gF M cm).n (gF M cm).c) yh (x:=cm) (aR.H6 0 rfl) rfl rfl (by unfold gF;cases fL M cm<;>rfl) rfl ?_;refine ao O ?_
   first | refine dM rfl rfl ?_ | refine eI rfl rfl ?_
   refine az O ?_;cases Gr:fL M cm with
   | none => --dup 2
    refine Cd.fW O (aD O (aH (Y1 A N c rs fl n A6 c6 cm _ (hT.aq aR.below) (aR.bE hM) sQ hN hn hl rO) O ?_));rintro _ w6 ⟨A8,L,rfl,hL,aA⟩;have aQ:=aR.call aA;refine ao O (Jd O yh 1 (a:=cm) (u:=(⟨A8,N,N⟩,L)) aQ O O O O ?_);intro w7 a6;have bH:cd w7 A8 N L:=a6.bz 0 O;have a7:St w w7 (jM 118 g (iZ tn yk (iM M cm (⟨A8,N,N⟩,L)))::(mB 2 (iM M cm (⟨A8,N,N⟩,L))++ [])):=Jg (M:=M) (x:=cm) (u:=(⟨A8,N,N⟩,L)) (pre:=[_]) (by rw [Fs Gr];exact a6);have TP:∀l u,fL (iM M cm (⟨A8,N,N⟩,L)) l=some u->iS N (gS n fl l) N u.2:=fun l u h=>by
     rw [Kv]at h
     split at h
     ·rename_i e;subst e;injection h with h
      subst h;exact hL
     ·exact qw l u h
    clear a6 aQ aR aA sQ;have vp:=hL.1;have bO:=bH.1;have zL:=hL.done (yG n fl cm |>fun h=>jq▸h) nq.1 nq.2.1;refine az O (dK [xS (A8) (N) (N),xI ((a:Int)),xP (aF (A8) ((a:Int)).toNat),xI (gi (L) ((a:Int))),xS (A8) (N) (N),xI ((b:Int)),xP (aF (A8) ((b:Int)).toNat),xI (gi (L) ((b:Int))),xB (decide (¬(gi (L) ((a:Int)))=(gi (L) ((b:Int)))))] O (eo O) ?_ ?_)
    ·exact⟨Dr O,Dr O,fun _ _ hb _ _=>ay (bH.aq hb).2 O Az,fun _ _ hb _ _=>bc (bH.aq hb) O Az,Dr O,Dr O,fun _ _ hb _ _=>ay (bH.aq hb).2 O Az,fun _ _ hb _ _=>bc (bH.aq hb) O Az,Dr O,au⟩
    intro u w9 vH _;have aW:=a7.aq vH;refine fw O (aM _ O (fun h3=>?_) (fun h3=>?_))
    ·refine aD O (me [(a:Int),(b:Int)] aW O O (by decide) (by decide) O O fun A9 dt bV=>bu O (de (cT (de (cT ?_)))));refine fA O ⟨A9,2,2,O,⟨fun h=>?_,fun h=>?_⟩,bV.none⟩
     ·rw [yV (bV.bz 0 rfl).2 (by decide)]at h;cases h
     ·exact absurd (zL.2 (nq.2.2.2 (h a b jn (by omega)))) h3
    ·have bq:=nq.2.2.1 (zL.1 (gC.1 h3));refine aD O (aL O (aU O (tQ ?_)));exact⟨(b+1,iM M cm (⟨A8,N,N⟩,L)),by show N - (b+1)<N - b;omega,(ac4 O),⟨Nat.lt_succ_of_lt jn,hb⟩,TP,fun b' h4 h5=>by
      by_cases e9:b'=b
      ·subst e9;exact bq
      ·exact xH b' h4 (by have h5:b'<b+1:=h5;omega),aW⟩
   | some u0=>
    have hL:iS N (gS n fl cm) N (gZ M cm):=by
     rw [(Fw Gr).2];exact qw cm u0 Gr
    have bH:cd w5 (gF M cm).a (gF M cm).n (gZ M cm):=EE (pre:=[_]) (x:=cm) aR;refine Cd.dO O ?_;have vp:=hL.1;have bO:=bH.1;have zL:=hL.done (yG n fl cm |>fun h=>jq▸h) nq.1 nq.2.1;refine cH O (dK [xS ((gF M cm).a) ((gF M cm).n) ((gF M cm).c),xI ((a:Int)),xP (aF ((gF M cm).a) ((a:Int)).toNat),xI (gi (gZ M cm) ((a:Int))),xS ((gF M cm).a) ((gF M cm).n) ((gF M cm).c),xI ((b:Int)),xP (aF ((gF M cm).a) ((b:Int)).toNat),xI (gi (gZ M cm) ((b:Int))),xB (decide (¬(gi (gZ M cm) ((a:Int)))=(gi (gZ M cm) ((b:Int)))))] O (eo O) ?_ ?_)
    ·exact⟨Dr O,Dr O,fun _ _ hb _ _=>ay (bH.aq hb).2 O Az,fun _ _ hb _ _=>bc (bH.aq hb) O Az,Dr O,Dr O,fun _ _ hb _ _=>ay (bH.aq hb).2 O Az,fun _ _ hb _ _=>bc (bH.aq hb) O Az,Dr O,au⟩
    intro u w9 vH _;have aW:=aR.aq vH;refine fw O (aM _ O (fun h3=>?_) (fun h3=>?_))
    ·refine aD O (me [(a:Int),(b:Int)] aW O O (by decide) (by decide) O O fun A9 dt bV=>bu O (de (cT (de (cT ?_)))));refine fA O ⟨A9,2,2,O,⟨fun h=>?_,fun h=>?_⟩,bV.none⟩
     ·rw [yV (bV.bz 0 rfl).2 (by decide)]at h;cases h
     ·exact absurd (zL.2 (nq.2.2.2 (h a b jn (by omega)))) h3
    ·have bq:=nq.2.2.1 (zL.1 (gC.1 h3));refine aD O (aL O (aU O (tQ ?_)));exact⟨(b+1,M),by show N - (b+1)<N - b;omega,(ac4 O),⟨Nat.lt_succ_of_lt jn,hb⟩,qw,fun b' h4 h5=>by
      by_cases e9:b'=b
      ·subst e9;exact bq
      ·exact xH b' h4 (by have h5:b'<b+1:=h5;omega),aW⟩
  ·have Lz:b=N:=by omega
   refine bo O (bp (cn O (aL O (aU O (tQ ?_)))));exact⟨(a+1,M),by show N - (a+1)<N - a;omega,(ac4 O),Gb,qw,fun a' b' h3 h4 h5=>by
    by_cases e9:a'=a
    ·subst e9;exact xH b' h4 (by omega)
    ·exact nW a' b' (by have h3:a'<a+1:=h3;omega) h4 h5,hS⟩
 ·have Gd:a=N:=by omega
  refine bo O (bp (e6 O ?_));exact fA O ⟨none,0,0,O,⟨fun _ a' b' h3 h4=>nW a' b' (by omega) h3 (by omega),fun _=>O⟩,hS.none⟩
theorem DW{xs:ah}{e:Int}:e∈uP xs x↔(0<=e/\e<xs.length)/\gi xs e=x:=by
 unfold uP;rw [jb,mA,qp]
theorem D4{n:Int}{i e:Int}(h0:0<=i)(h1:i<n):e∈l7 n R (i - 1)↔wM R i e:=by
 unfold l7 wM
 split
 ·rw [DW];exact⟨fun h=> .inr ⟨h.1,by omega,h.2⟩,fun h=>h.elim (fun h=>by omega) fun h=> ⟨h.1,h.2.2⟩⟩
 rw [iv];exact⟨fun h=> .inl ⟨h,by omega⟩,fun h=>h.elim (fun h=>h.1) fun h=>by omega⟩
theorem D3{n:Int}{i f:Int}(h0:0<=i)(h1:i<n):f∈l7 n R (i+1)↔wK n R i f:=by
 unfold l7 wK
 split
 ·rw [DW];exact⟨fun h=> .inr ⟨h.1,by omega,h.2⟩,fun h=>h.elim (fun h=>by omega) fun h=> ⟨h.1,h.2.2⟩⟩
 rw [iv];exact⟨fun h=> .inl ⟨h,by omega⟩,fun h=>h.elim (fun h=>h.1) fun h=>by omega⟩
theorem ZI{n:Int}{i:Int}(h0:0<=i)(h1:i<n):l7 n R i=uP R i:=by
 unfold l7;rw [aJ (by omega)]
theorem Ie{n:Int}{i:Int}(h:R.length<=500):(l7 n R i).length<=500:=by
 unfold l7
 split
 ·refine lI (ox _ _) ?_;rw [dV,fQ,pf];exact h
 exact(by decide:1<=500)
theorem Ow{n:Int}{i e:Int}(h:e∈l7 n R i):e= -1\/(0<=e/\e<R.length):=by
 unfold l7 at h
 split at h
 ·exact .inr (DW.1 h).1
 exact .inl (iv.1 h)
def oG(P:Int->Prop)[DecidablePred P](xs:ah)(q:Nat):Nat:=((xs.take q).filter fun x=>decide (P x)).length
section
variable {P:Int->Prop} [DecidablePred P] {xs:ah} {q:Nat}
theorem E1:oG P xs q<=q:=by
 unfold oG;refine lI (ox _ _) ?_;rw [ra];omega
theorem E3(h:q<xs.length)(hp:P (gi xs q)):oG P xs (q+1)=oG P xs q+1:=by
 unfold oG;rw [Iw h,List.filter_append,e8];simp [hp]
theorem E2(h:q<xs.length)(hp:¬P (gi xs q)):oG P xs (q+1)=oG P xs q:=by
 unfold oG;rw [Iw h,List.filter_append,e8];simp [hp]
end
def mH(B:ag)(e f x:Int):Prop:=(e<0\/e∈gl B x)/\(f<0\/x∈gl B f)
instance (B:ag)(e f:Int):DecidablePred (mH B e f):=fun x=>by unfold mH;infer_instance
theorem RC{R:ah}{B:ag}{i e f:Int}:oG (mH B e f) (uP R i) (uP R i).length=(nK R B i e f).length:=by
 unfold oG nK uP;rw [List.take_length,List.filter_filter]
 congr 1
 refine List.filter_congr fun x _=>?_
 rw [<-Bool.decide_and];refine kc.2 ?_;unfold mH;exact⟨fun h=> ⟨h.2,h.1⟩,fun h=> ⟨h.2,h.1⟩⟩
theorem RX(n:Int)(A D:ai)(cA cD:Nat)(R:ah)(rs:List aO)(B:ag)(w:aa)(hR:cd w A R.length R)(hB:bl w D B.length rs B)(hP:jP n R B):
 aE prog 63 [.agg #[aj n,.slice A R.length cA,.slice D B.length cD]] w (fun v w'=>∃A' n' c',v= .slice A' n' c'/\(A'.isNone=true↔yD n R B)/\St w w' []):=by
 have hn:=hP.n1;have rD:=hP.B9;have hle:=hP.len;have bH:=fun(e:Int) (h0:0<=e) (h:e< (R.length:Int))=> (hP.at_ h0 h).1
 have bO:∀e:Int,0<=e->e<R.length->(gl B e).length<=500:=fun e h0 h=>by
  have:=tq (N:=R.length) (bH e h0 h).nodup fun x hx=>by have:=((hP.at_ h0 h).2.1 x hx).1;omega
  omega
 refine bm func63 O ntmps63 O (bU O) (aY O (yJ (St.refl w) O O ?_));intro A1 w1 aB;have h1:Rd w1 A1 3 (fun j=> [Value.int .i64 n,.slice A R.length cA,.slice D B.length cD].getD j undef):=aB.rd 0 O;have hR:=aB.dY hR;have hB:=aB.bE hB;have aB:=aB.none;refine ao O (aS h1 O (iw (j:=0) h1 (by exact bw Value.pointer O) O O O O (az O ?_)));refine Cd.loop (α:=Nat) (fun i=> [(1,.pointer A1),(14,aj n),(15,aj i)]) (fun i w'=> (i:Int)<=n/\(∀i' e f:Int,0<=i'->i'< (i:Int)->e∈l7 n R (i' - 1)->f∈l7 n R (i'+1)->(0<=e->0<=f->e∈gl B f)->(nK R B i' e f).length=2)/\St w1 w' []) (fun i=>n.toNat - i) 0 (ac4 O) ⟨by show((0:Nat):Int)<=n;omega,fun i' e f h h'=>by have h':i'< ((0:Nat):Int):=h';omega,St.refl _⟩ ?_;rintro i e w2 ⟨hi,nW,aA⟩;have h1:=Rd.below h1 aA.below;have hR:=aA.dY hR;have hB:=aA.bE hB;have aw:=aB.aq aA.below;refine b7 O (aM _ O (fun h2=>?_) (fun h2=>?_))
 ·have GL:=ZI (R:=R) (show 0<=(i:Int) by omega) h2;have Vw:=Ie (n:=n) (i:=(i:Int)) rD;have Vr:=Ie (n:=n) (i:=(i:Int) - 1) rD;have Vb:=Ie (n:=n) (i:=(i:Int)+1) rD;have Vx:=fun x=>DW (xs:=R) (x:=(i:Int)) (e:=x)
  refine aD O (aH (HW A1 A D n R.length cA B.length cD R i _ h1 hR (by omega) (by omega)) O ?_);rintro _ w3 ⟨A4,c4,rfl,oT⟩;have h4:=oT.bz 0 O;refine ao O (aL O ?_);refine aH (HW A1 A D n R.length cA B.length cD R ((i:Int)+1) _ (Rd.below h1 oT.below) (oT.dY hR) (by omega) (by omega)) O ?_;rintro _ w4 ⟨A5,c5,rfl,kP⟩;have h5:=kP.bz 0 O;have h4:=h4.aq kP.below;refine ao O (je O O O (by omega) ?_);refine aH (HW A1 A D n R.length cA B.length cD R ((i:Int) - 1) _ (Rd.below h1 (oT.below.trans (kP.below.mono oT.below.size))) (kP.dY (oT.dY hR)) (by omega) (by omega)) O ?_;rintro _ w5 ⟨A6,c6,rfl,Ay⟩;have h6:=Ay.bz 0 O;have h4:=h4.aq Ay.below;have h5:=h5.aq Ay.below;have lh:=(oT.below.trans (kP.below.mono oT.below.size));have lh:=lh.trans (Ay.below.mono lh.size);have h1:=Rd.below h1 lh;have hB:=hB.aq lh;have aR:=aw.aq lh;have Wc:=aA.aq lh;clear oT kP Ay aA aw;obtain⟨ms,rM⟩:∃ms,l7 n R i=ms:=⟨_,rfl⟩;obtain⟨kg,vP⟩:∃kg,l7 n R ((i:Int) - 1)=kg:=⟨_,rfl⟩;obtain⟨gk,vL⟩:∃gk,l7 n R ((i:Int)+1)=gk:=⟨_,rfl⟩;rw [rM]at h4 Vw GL;rw [vL]at h5 Vb;rw [vP]at h6 Vr;have uk:=fun e f=>RC (R:=R) (B:=B) (i:=(i:Int)) (e:=e) (f:=f)
  rw [<-GL]at uk;have vS:∀x∈ms,(0<=x/\x<R.length):=fun x hx=> ((Vx x).1 (GL▸hx)).1
  have Vs:∀x∈kg,x= -1\/(0<=x/\x<R.length):=fun x hx=>Ow (vP▸hx)
  have Vd:∀x∈gk,x= -1\/(0<=x/\x<R.length):=fun x hx=>Ow (vL▸hx)
  rw [rM,vP,vL];refine aZ O O (az O ?_);refine Cd.loop (α:=Nat) (fun j=> [(1,.pointer A1),(14,aj n),(15,aj i),(3,aj i),(4,.slice A4 ms.length c4),(5,.slice A5 gk.length c5),(25,.slice A6 kg.length c6),(26,aj (kg.length:Int)),(27,aj j)]) (fun j w'=>j<=kg.length/\w'=w5/\∀p:Nat,p<j->∀f∈gk,(0<=gi kg p->0<=f->gi kg p∈gl B f)->(nK R B i (gi kg p) f).length=2) (fun j=>kg.length - j) 0 (ac4 O) ⟨bA _,O,fun p h=>absurd h (oy _)⟩ ?_;rintro j e w6 ⟨hj,rfl,eY⟩;refine b7 O (aM _ O (fun h7=>?_) (fun h7=>?_))
  ·have mo:j<kg.length:=by omega
   refine aD O (ay h6.2 O (bc h6 O ?_));refine ao O (aZ O O (az O ?_));have her:=Vs _ (gi_in mo);generalize xJ:gi kg j=ee at*;refine Cd.loop (α:=Nat) (fun k=> [(1,.pointer A1),(14,aj n),(15,aj i),(3,aj i),(4,.slice A4 ms.length c4),(5,.slice A5 gk.length c5),(25,.slice A6 kg.length c6),(26,aj (kg.length:Int)),(27,aj j),(7,aj ee),(31,.slice A5 gk.length c5),(32,aj (gk.length:Int)),(33,aj k)]) (fun k w'=>k<=gk.length/\w'=w6/\∀p:Nat,p<k->(0<=ee->0<=gi gk p->ee∈gl B (gi gk p))->(nK R B i ee (gi gk p)).length=2) (fun k=>gk.length - k) 0 (ac4 O) ⟨bA _,O,fun p h=>absurd h (oy _)⟩ ?_;rintro k e w7 ⟨hk,rfl,dQ⟩;refine b7 O (aM _ O (fun h8=>?_) (fun h8=>?_))
   ·have gM:k<gk.length:=by omega
    refine aD O (ay h5.2 O (bc h5 O (ao O ?_)));have zM:=Vd _ (gi_in gM);generalize C3:gi gk k=ff at*;have ig:((0<=ee->0<=ff->ee∈gl B ff)->(nK R B i ee ff).length=2)->∀p:Nat,p<k+1->(0<=ee->0<=gi gk p->ee∈gl B (gi gk p))->(nK R B i ee (gi gk p)).length=2:=fun h p hp=>by
     by_cases ep:p=k
     ·subst ep;rw [C3];exact h
     exact dQ p (by omega)
    refine bX 39 O (fun h9=>?_) (fun h9=>?_)
    ·refine ar O (ao O (ar O (ao O ?_)));refine bX 43 O (fun fG=>?_) (fun fG=>?_)
     ·refine ar O (ao O (ar O (ao O (ar O ?_))));refine aH (qI A1 A D cA cD n R rs B ee ff _ h1 hB (by omega) (bH ff fG (by omega)) (by have:=bO ff fG (by omega);omega)) O ?_;rintro _ w8 ⟨rfl,rfl⟩;refine ar O ?_
      first | refine dM rfl rfl ?_ | refine eI rfl rfl ?_
      refine az O (aM _ O (fun qu=>?_) (fun qu=>?_))
      ·refine aD O (aL O (aU O (tQ ?_)));exact⟨k+1,by show gk.length - (k+1)<gk.length - k;omega,(ac4 O),by omega,O,ig fun h=>absurd (h h9 fG) qu⟩
      have fX:0<=ee->0<=ff->ee∈gl B ff:=fun _ _=>gC.1 qu
      refine aD O (aZ O O (az O ?_));refine Cd.loop (α:=Nat) (fun q=> [(1,.pointer A1),(14,aj n),(15,aj i),(3,aj i),(4,.slice A4 ms.length c4),(5,.slice A5 gk.length c5),(25,.slice A6 kg.length c6),(26,aj (kg.length:Int)),(27,aj j),(7,aj ee),(31,.slice A5 gk.length c5),(32,aj (gk.length:Int)),(33,aj k),(9,aj ff),(10,aj ((oG (mH B ee ff) ms q:Nat):Int)),(49,.slice A4 ms.length c4),(50,aj (ms.length:Int)),(51,aj q)]) (fun q w'=>q<=ms.length/\w'=w8) (fun q=>ms.length - q) 0 (ac4 O) ⟨bA _,O⟩ ?_;rintro q e w9 ⟨hq,rfl⟩;have cz:=E1 (P:=mH B ee ff) (xs:=ms) (q:=q);refine b7 O (aM _ O (fun pz=>?_) (fun pz=>?_))
      ·have nZ:q<ms.length:=by omega
       have hx:=vS _ (gi_in nZ);have iX:=E3 (P:=mH B ee ff) nZ;have eC:=E2 (P:=mH B ee ff) nZ;refine aD O (ay h4.2 O (bc h4 O (ao O ?_)));generalize MW:gi ms q=xx at*;refine bX 57 O (fun kG=>?_) (fun kG=>?_)
       ·refine av O (av O (av O (ao O (ar O (ao O (ar O (ao O (ar O (ao O ?_)))))))));refine bX 65 O (fun jR=>?_) (fun jR=>?_)
        ·refine av O (av O (av O (ar O (az O ?_))));refine Cd.fW O (aD O (aL O (ao O (aL O (aU O (tQ ?_))))));exact⟨q+1,by show ms.length - (q+1)<ms.length - q;omega,⟨O,O,O,O,O,O,O,O,O,O,O,O,O,O,bw (fun m:Nat=>Value.int .i64 (m:Int)) (iX ⟨.inl kG,.inl jR⟩).symm,O,O,O,au⟩,by omega,O⟩
        refine ar O (ao O (ar O (ao O (ar O ?_))));refine aH (qI A1 A D cA cD n R rs B xx ff _ h1 hB (by omega) (bH ff (by omega) (by omega)) (by have:=bO ff (by omega) (by omega);omega)) O ?_;rintro _ dt ⟨rfl,rfl⟩;refine ar O (az O ?_);refine aM _ O (fun jS=>?_) (fun jS=>?_)
        ·refine aD O (aL O (ao O (aL O (aU O (tQ ?_)))));exact⟨q+1,by show ms.length - (q+1)<ms.length - q;omega,⟨O,O,O,O,O,O,O,O,O,O,O,O,O,O,bw (fun m:Nat=>Value.int .i64 (m:Int)) (iX ⟨.inl kG,.inr jS⟩).symm,O,O,O,au⟩,by omega,O⟩
        refine aD O (aL O (aU O (tQ ?_)));exact⟨q+1,by show ms.length - (q+1)<ms.length - q;omega,⟨O,O,O,O,O,O,O,O,O,O,O,O,O,O,bw (fun m:Nat=>Value.int .i64 (m:Int)) (eC fun h=>h.2.elim jR jS).symm,O,O,O,au⟩,by omega,O⟩
       refine ar O (ao O (ar O (ao O (ar O ?_))));refine aH (qI A1 A D cA cD n R rs B ee xx _ h1 hB (by omega) (bH xx (by omega) (by omega)) (by have:=bO xx (by omega) (by omega);omega)) O ?_;rintro _ dt ⟨rfl,rfl⟩;refine ao O (bX 62 O (fun lf=>?_) (fun lf=>?_))
       ·refine ar O (ao O (ar O (ao O (ar O (ao O ?_)))));refine bX 65 O (fun jR=>?_) (fun jR=>?_)
        ·refine av O (av O (av O (ar O (az O ?_))));refine Cd.fW O (aD O (aL O (ao O (aL O (aU O (tQ ?_))))));exact⟨q+1,by show ms.length - (q+1)<ms.length - q;omega,⟨O,O,O,O,O,O,O,O,O,O,O,O,O,O,bw (fun m:Nat=>Value.int .i64 (m:Int)) (iX ⟨.inr lf,.inl jR⟩).symm,O,O,O,au⟩,by omega,O⟩
        refine ar O (ao O (ar O (ao O (ar O ?_))));refine aH (qI A1 A D cA cD n R rs B xx ff _ h1 hB (by omega) (bH ff (by omega) (by omega)) (by have:=bO ff (by omega) (by omega);omega)) O ?_;rintro _ dB ⟨rfl,rfl⟩;refine ar O (az O ?_);refine aM _ O (fun jS=>?_) (fun jS=>?_)
        ·refine aD O (aL O (ao O (aL O (aU O (tQ ?_)))));exact⟨q+1,by show ms.length - (q+1)<ms.length - q;omega,⟨O,O,O,O,O,O,O,O,O,O,O,O,O,O,bw (fun m:Nat=>Value.int .i64 (m:Int)) (iX ⟨.inr lf,.inr jS⟩).symm,O,O,O,au⟩,by omega,O⟩
        refine aD O (aL O (aU O (tQ ?_)));exact⟨q+1,by show ms.length - (q+1)<ms.length - q;omega,⟨O,O,O,O,O,O,O,O,O,O,O,O,O,O,bw (fun m:Nat=>Value.int .i64 (m:Int)) (eC fun h=>h.2.elim jR jS).symm,O,O,O,au⟩,by omega,O⟩
       refine av O (av O (av O (bW O (bW O (bW O (av O (az O ?_)))))));refine Cd.dO O (aD O (aL O (aU O (tQ ?_))));exact⟨q+1,by show ms.length - (q+1)<ms.length - q;omega,⟨O,O,O,O,O,O,O,O,O,O,O,O,O,O,bw (fun m:Nat=>Value.int .i64 (m:Int)) (eC fun h=>h.1.elim kG lf).symm,O,O,O,au⟩,by omega,O⟩
      have Aj:q=ms.length:=by omega
      subst Aj;have LF:=uk ee ff;refine bo O (bp (qZ O ?_));refine aM _ O (fun kG=>?_) (fun kG=>?_)
      ·refine aD O (me [(i:Int),ee,ff] aR O O (by decide) (by decide) O O fun A9 dt bV=>bu O (de (cT (de (cT (de (cT ?_)))))));refine fA O ⟨A9,3,3,O,⟨fun h=>?_,fun h=>?_⟩,bV.none⟩
       ·rw [yV (bV.bz 0 rfl).2 (by decide)]at h;cases h
       have Lx:=h (i:Int) ee ff (by omega) h2 ((D4 (by omega) h2).1 (by rw [vP,<-xJ];exact gi_in mo)) ((D3 (by omega) h2).1 (by rw [vL,<-C3];exact gi_in gM)) fX;omega
      refine aD O (aL O (aU O (tQ ?_)));exact⟨k+1,by show gk.length - (k+1)<gk.length - k;omega,(ac4 O),by omega,O,ig fun _=>by omega⟩
     have fX:0<=ee->0<=ff->ee∈gl B ff:=fun _ h=>absurd h fG
     refine av O (av O (av O (av O (az O ?_))));refine Cd.dO O (aD O (aZ O O (az O ?_)));refine Cd.loop (α:=Nat) (fun q=> [(1,.pointer A1),(14,aj n),(15,aj i),(3,aj i),(4,.slice A4 ms.length c4),(5,.slice A5 gk.length c5),(25,.slice A6 kg.length c6),(26,aj (kg.length:Int)),(27,aj j),(7,aj ee),(31,.slice A5 gk.length c5),(32,aj (gk.length:Int)),(33,aj k),(9,aj ff),(10,aj ((oG (mH B ee ff) ms q:Nat):Int)),(49,.slice A4 ms.length c4),(50,aj (ms.length:Int)),(51,aj q)]) (fun q w'=>q<=ms.length/\w'=w7) (fun q=>ms.length - q) 0 (ac4 O) ⟨bA _,O⟩ ?_;rintro q e w9 ⟨hq,rfl⟩;have cz:=E1 (P:=mH B ee ff) (xs:=ms) (q:=q);refine b7 O (aM _ O (fun pz=>?_) (fun pz=>?_))
     ·have nZ:q<ms.length:=by omega
      have hx:=vS _ (gi_in nZ);have iX:=E3 (P:=mH B ee ff) nZ;have eC:=E2 (P:=mH B ee ff) nZ;refine aD O (ay h4.2 O (bc h4 O (ao O ?_)));generalize MW:gi ms q=xx at*;refine bX 57 O (fun kG=>?_) (fun kG=>?_)
      ·refine av O (av O (av O (ao O (ar O (ao O (ar O (ao O (ar O (ao O ?_)))))))));refine bX 65 O (fun jR=>?_) (fun jR=>?_)
       ·refine av O (av O (av O (ar O (az O ?_))));refine Cd.fW O (aD O (aL O (ao O (aL O (aU O (tQ ?_))))));exact⟨q+1,by show ms.length - (q+1)<ms.length - q;omega,⟨O,O,O,O,O,O,O,O,O,O,O,O,O,O,bw (fun m:Nat=>Value.int .i64 (m:Int)) (iX ⟨.inl kG,.inl jR⟩).symm,O,O,O,au⟩,by omega,O⟩
       refine ar O (ao O (ar O (ao O (ar O ?_))));refine aH (qI A1 A D cA cD n R rs B xx ff _ h1 hB (by omega) (bH ff (by omega) (by omega)) (by have:=bO ff (by omega) (by omega);omega)) O ?_;rintro _ dt ⟨rfl,rfl⟩;refine ar O (az O ?_);refine aM _ O (fun jS=>?_) (fun jS=>?_)
       ·refine aD O (aL O (ao O (aL O (aU O (tQ ?_)))));exact⟨q+1,by show ms.length - (q+1)<ms.length - q;omega,⟨O,O,O,O,O,O,O,O,O,O,O,O,O,O,bw (fun m:Nat=>Value.int .i64 (m:Int)) (iX ⟨.inl kG,.inr jS⟩).symm,O,O,O,au⟩,by omega,O⟩
       refine aD O (aL O (aU O (tQ ?_)));exact⟨q+1,by show ms.length - (q+1)<ms.length - q;omega,⟨O,O,O,O,O,O,O,O,O,O,O,O,O,O,bw (fun m:Nat=>Value.int .i64 (m:Int)) (eC fun h=>h.2.elim jR jS).symm,O,O,O,au⟩,by omega,O⟩
      refine ar O (ao O (ar O (ao O (ar O ?_))));refine aH (qI A1 A D cA cD n R rs B ee xx _ h1 hB (by omega) (bH xx (by omega) (by omega)) (by have:=bO xx (by omega) (by omega);omega)) O ?_;rintro _ dt ⟨rfl,rfl⟩;refine ao O (bX 62 O (fun lf=>?_) (fun lf=>?_))
      ·refine ar O (ao O (ar O (ao O (ar O (ao O ?_)))));refine bX 65 O (fun jR=>?_) (fun jR=>?_)
       ·refine av O (av O (av O (ar O (az O ?_))));refine Cd.fW O (aD O (aL O (ao O (aL O (aU O (tQ ?_))))));exact⟨q+1,by show ms.length - (q+1)<ms.length - q;omega,⟨O,O,O,O,O,O,O,O,O,O,O,O,O,O,bw (fun m:Nat=>Value.int .i64 (m:Int)) (iX ⟨.inr lf,.inl jR⟩).symm,O,O,O,au⟩,by omega,O⟩
       refine ar O (ao O (ar O (ao O (ar O ?_))));refine aH (qI A1 A D cA cD n R rs B xx ff _ h1 hB (by omega) (bH ff (by omega) (by omega)) (by have:=bO ff (by omega) (by omega);omega)) O ?_;rintro _ dB ⟨rfl,rfl⟩;refine ar O (az O ?_);refine aM _ O (fun jS=>?_) (fun jS=>?_)
       ·refine aD O (aL O (ao O (aL O (aU O (tQ ?_)))));exact⟨q+1,by show ms.length - (q+1)<ms.length - q;omega,⟨O,O,O,O,O,O,O,O,O,O,O,O,O,O,bw (fun m:Nat=>Value.int .i64 (m:Int)) (iX ⟨.inr lf,.inr jS⟩).symm,O,O,O,au⟩,by omega,O⟩
       refine aD O (aL O (aU O (tQ ?_)));exact⟨q+1,by show ms.length - (q+1)<ms.length - q;omega,⟨O,O,O,O,O,O,O,O,O,O,O,O,O,O,bw (fun m:Nat=>Value.int .i64 (m:Int)) (eC fun h=>h.2.elim jR jS).symm,O,O,O,au⟩,by omega,O⟩
      refine av O (av O (av O (bW O (bW O (bW O (av O (az O ?_)))))));refine Cd.dO O (aD O (aL O (aU O (tQ ?_))));exact⟨q+1,by show ms.length - (q+1)<ms.length - q;omega,⟨O,O,O,O,O,O,O,O,O,O,O,O,O,O,bw (fun m:Nat=>Value.int .i64 (m:Int)) (eC fun h=>h.1.elim kG lf).symm,O,O,O,au⟩,by omega,O⟩
     have Aj:q=ms.length:=by omega
     subst Aj;have LF:=uk ee ff;refine bo O (bp (qZ O ?_));refine aM _ O (fun kG=>?_) (fun kG=>?_)
     ·refine aD O (me [(i:Int),ee,ff] aR O O (by decide) (by decide) O O fun A9 dt bV=>bu O (de (cT (de (cT (de (cT ?_)))))));refine fA O ⟨A9,3,3,O,⟨fun h=>?_,fun h=>?_⟩,bV.none⟩
      ·rw [yV (bV.bz 0 rfl).2 (by decide)]at h;cases h
      have Lx:=h (i:Int) ee ff (by omega) h2 ((D4 (by omega) h2).1 (by rw [vP,<-xJ];exact gi_in mo)) ((D3 (by omega) h2).1 (by rw [vL,<-C3];exact gi_in gM)) fX;omega
     refine aD O (aL O (aU O (tQ ?_)));exact⟨k+1,by show gk.length - (k+1)<gk.length - k;omega,(ac4 O),by omega,O,ig fun _=>by omega⟩
    have fX:0<=ee->0<=ff->ee∈gl B ff:=fun h _=>absurd h h9
    refine av O (av O (ao O (av O (av O (av O (av O (az O ?_)))))));refine Cd.dO O (aD O (aZ O O (az O ?_)));refine Cd.loop (α:=Nat) (fun q=> [(1,.pointer A1),(14,aj n),(15,aj i),(3,aj i),(4,.slice A4 ms.length c4),(5,.slice A5 gk.length c5),(25,.slice A6 kg.length c6),(26,aj (kg.length:Int)),(27,aj j),(7,aj ee),(31,.slice A5 gk.length c5),(32,aj (gk.length:Int)),(33,aj k),(9,aj ff),(10,aj ((oG (mH B ee ff) ms q:Nat):Int)),(49,.slice A4 ms.length c4),(50,aj (ms.length:Int)),(51,aj q)]) (fun q w'=>q<=ms.length/\w'=w7) (fun q=>ms.length - q) 0 (ac4 O) ⟨bA _,O⟩ ?_;rintro q e w9 ⟨hq,rfl⟩;have cz:=E1 (P:=mH B ee ff) (xs:=ms) (q:=q);refine b7 O (aM _ O (fun pz=>?_) (fun pz=>?_))
    ·have nZ:q<ms.length:=by omega
     have hx:=vS _ (gi_in nZ);have iX:=E3 (P:=mH B ee ff) nZ;have eC:=E2 (P:=mH B ee ff) nZ;refine aD O (ay h4.2 O (bc h4 O (ao O ?_)));generalize MW:gi ms q=xx at*;refine bX 57 O (fun kG=>?_) (fun kG=>?_)
     ·refine av O (av O (av O (ao O (ar O (ao O (ar O (ao O (ar O (ao O ?_)))))))));refine bX 65 O (fun jR=>?_) (fun jR=>?_)
      ·refine av O (av O (av O (ar O (az O ?_))));refine Cd.fW O (aD O (aL O (ao O (aL O (aU O (tQ ?_))))));exact⟨q+1,by show ms.length - (q+1)<ms.length - q;omega,⟨O,O,O,O,O,O,O,O,O,O,O,O,O,O,bw (fun m:Nat=>Value.int .i64 (m:Int)) (iX ⟨.inl kG,.inl jR⟩).symm,O,O,O,au⟩,by omega,O⟩
      refine ar O (ao O (ar O (ao O (ar O ?_))));refine aH (qI A1 A D cA cD n R rs B xx ff _ h1 hB (by omega) (bH ff (by omega) (by omega)) (by have:=bO ff (by omega) (by omega);omega)) O ?_;rintro _ dt ⟨rfl,rfl⟩;refine ar O (az O ?_);refine aM _ O (fun jS=>?_) (fun jS=>?_)
      ·refine aD O (aL O (ao O (aL O (aU O (tQ ?_)))));exact⟨q+1,by show ms.length - (q+1)<ms.length - q;omega,⟨O,O,O,O,O,O,O,O,O,O,O,O,O,O,bw (fun m:Nat=>Value.int .i64 (m:Int)) (iX ⟨.inl kG,.inr jS⟩).symm,O,O,O,au⟩,by omega,O⟩
      refine aD O (aL O (aU O (tQ ?_)));exact⟨q+1,by show ms.length - (q+1)<ms.length - q;omega,⟨O,O,O,O,O,O,O,O,O,O,O,O,O,O,bw (fun m:Nat=>Value.int .i64 (m:Int)) (eC fun h=>h.2.elim jR jS).symm,O,O,O,au⟩,by omega,O⟩
     refine ar O (ao O (ar O (ao O (ar O ?_))));refine aH (qI A1 A D cA cD n R rs B ee xx _ h1 hB (by omega) (bH xx (by omega) (by omega)) (by have:=bO xx (by omega) (by omega);omega)) O ?_;rintro _ dt ⟨rfl,rfl⟩;refine ao O (bX 62 O (fun lf=>?_) (fun lf=>?_))
     ·refine ar O (ao O (ar O (ao O (ar O (ao O ?_)))));refine bX 65 O (fun jR=>?_) (fun jR=>?_)
      ·refine av O (av O (av O (ar O (az O ?_))));refine Cd.fW O (aD O (aL O (ao O (aL O (aU O (tQ ?_))))));exact⟨q+1,by show ms.length - (q+1)<ms.length - q;omega,⟨O,O,O,O,O,O,O,O,O,O,O,O,O,O,bw (fun m:Nat=>Value.int .i64 (m:Int)) (iX ⟨.inr lf,.inl jR⟩).symm,O,O,O,au⟩,by omega,O⟩
      refine ar O (ao O (ar O (ao O (ar O ?_))));refine aH (qI A1 A D cA cD n R rs B xx ff _ h1 hB (by omega) (bH ff (by omega) (by omega)) (by have:=bO ff (by omega) (by omega);omega)) O ?_;rintro _ dB ⟨rfl,rfl⟩;refine ar O (az O ?_);refine aM _ O (fun jS=>?_) (fun jS=>?_)
      ·refine aD O (aL O (ao O (aL O (aU O (tQ ?_)))));exact⟨q+1,by show ms.length - (q+1)<ms.length - q;omega,⟨O,O,O,O,O,O,O,O,O,O,O,O,O,O,bw (fun m:Nat=>Value.int .i64 (m:Int)) (iX ⟨.inr lf,.inr jS⟩).symm,O,O,O,au⟩,by omega,O⟩
      refine aD O (aL O (aU O (tQ ?_)));exact⟨q+1,by show ms.length - (q+1)<ms.length - q;omega,⟨O,O,O,O,O,O,O,O,O,O,O,O,O,O,bw (fun m:Nat=>Value.int .i64 (m:Int)) (eC fun h=>h.2.elim jR jS).symm,O,O,O,au⟩,by omega,O⟩
     refine av O (av O (av O (bW O (bW O (bW O (av O (az O ?_)))))));refine Cd.dO O (aD O (aL O (aU O (tQ ?_))));exact⟨q+1,by show ms.length - (q+1)<ms.length - q;omega,⟨O,O,O,O,O,O,O,O,O,O,O,O,O,O,bw (fun m:Nat=>Value.int .i64 (m:Int)) (eC fun h=>h.1.elim kG lf).symm,O,O,O,au⟩,by omega,O⟩
    have Aj:q=ms.length:=by omega
    subst Aj;have LF:=uk ee ff;refine bo O (bp (qZ O ?_));refine aM _ O (fun kG=>?_) (fun kG=>?_)
    ·refine aD O (me [(i:Int),ee,ff] aR O O (by decide) (by decide) O O fun A9 dt bV=>bu O (de (cT (de (cT (de (cT ?_)))))));refine fA O ⟨A9,3,3,O,⟨fun h=>?_,fun h=>?_⟩,bV.none⟩
     ·rw [yV (bV.bz 0 rfl).2 (by decide)]at h;cases h
     have Lx:=h (i:Int) ee ff (by omega) h2 ((D4 (by omega) h2).1 (by rw [vP,<-xJ];exact gi_in mo)) ((D3 (by omega) h2).1 (by rw [vL,<-C3];exact gi_in gM)) fX;omega
    refine aD O (aL O (aU O (tQ ?_)));exact⟨k+1,by show gk.length - (k+1)<gk.length - k;omega,(ac4 O),by omega,O,ig fun _=>by omega⟩
   refine bo O (bp (cn O (aL O (aU O (tQ ?_)))));exact⟨j+1,by show kg.length - (j+1)<kg.length - j;omega,(ac4 O),by omega,O,fun p hp f hf=>by
    by_cases ep:p=j
    ·subst ep;rw [xJ];obtain⟨q,hq,e9⟩:=gu.1 hf;rw [<-bN hq]at e9;have:=dQ q (by omega)
     rwa [e9]at this
    exact eY p (by omega) f hf⟩
  refine bo O (bp (cn O (aL O (aU O (tQ ?_)))));exact⟨i+1,by show n.toNat - (i+1)<n.toNat - i;omega,(ac4 O),by show((i+1:Nat):Int)<=n;omega,fun i' e f h0 h' he hf fX=>by
   by_cases ei:i'=(i:Int)
   ·subst ei;rw [vP]at he;rw [vL]at hf;obtain⟨q,hq,e9⟩:=gu.1 he;rw [<-bN hq]at e9;have:=eY q (by omega) f hf;rw [e9]at this;exact this fX
   exact nW i' e f h0 (by have h':i'< ((i+1:Nat):Int):=h';omega) he hf fX,Wc⟩
 refine bo O (bp (e6 O ?_));exact fA O ⟨none,0,0,O,⟨fun _ i' e f h0 h3 h4 h5 h6=>nW i' e f h0 (by omega) ((D4 h0 h3).2 h4) ((D3 h0 h3).2 h5) h6,fun _=>O⟩,aw⟩
theorem Sm{n:Nat}{R:ah}{B:ag}(hn:1<=n)(hb:R.length<=500):∀x∈dF n R B,x.length=n/\∀e∈x,0<=e/\e< (R.length:Int):=fun x hx=>by
 obtain⟨h1,h2,_⟩:=(vi hn).1 hx;refine⟨h1,fun e he=>?_⟩;obtain⟨k,hk,rfl⟩:=gu.1 he;rw [<-bN hk];exact(h2 k (by omega)).1
theorem JA(b:Bool):b=decide (b=true):=by cases b<;>rfl
theorem W2(n:Nat)(A D:ai)(cA cD:Nat)(R:ah)(rs:List aO)(B:ag)(Af:ai)(cf:Nat)(Ij:List aO)(w:aa)(hT:nM w)(hR:cd w A R.length R)(hB:bl w D B.length rs B)(hP:jP n R B)(hF:bl w Af (dF n R B).length Ij (dF n R B))(LO:(dF n R B).length<=400):
 aE prog 57 [.agg #[aj n,.slice A R.length cA,.slice D B.length cD],.slice Af (dF n R B).length cf] w (fun v w'=>∃b:Bool,v= .bool b/\(b=true↔EB n R B)/\St w w' []):=by
 have hn:=hP.n1;have rD:=hP.B9;have C4:=Sm (n:=n) (R:=R) (B:=B) (by omega) rD;have U0:∀x∈dF n R B,x.length=n/\∀e∈x,0<=e/\e<=1000000:=fun x hx=> ⟨(C4 x hx).1,fun e he=>by have:=(C4 x hx).2 e he;omega⟩
 have rO:(dF n R B).Nodup:=(zh n R B).nodup;refine bm func57 O ntmps57 O (bU O) (aY O (yJ (St.refl w) O O ?_));intro A1 w1 aB;have h1:Rd w1 A1 3 (fun j=> [Value.int .i64 n,.slice A R.length cA,.slice D B.length cD].getD j undef):=aB.rd 0 O;have hR:=aB.dY hR;have hB:=aB.bE hB;have hF:=aB.bE hF;have hT:=hT.aq aB.below;have aB:=aB.none;refine ao O (aZ O O (ao O ?_));refine bX 8 O (fun h2=>?_) (fun h2=>?_)
 ·have b9:dF n R B≠[]:=fun h=>by rw [h]at h2;exact absurd h2 (by decide)
  refine ar O (ac3 2 h1 O ?_);refine ar O (ao O (ar O ?_));refine aH (W3 n A D cA R.length B.length cD Af (dF n R B).length cf Ij (dF n R B) _ hF rD (fun l hl=> ⟨by have:=(C4 l hl).1;omega,(C4 l hl).2⟩) (by omega)) O ?_;rintro _ w2 ⟨b,rfl,hb,aA⟩;have h1:=Rd.below h1 aA.below;have hR:=aA.dY hR;have hB:=aA.bE hB;have hF:=aA.bE hF;have hT:=hT.aq aA.below;have aB:=aB.aq aA.below;have Ah:b=true↔Jf n R B:=hb;clear aA hb;rw [JA b];refine ao O (bX 13 O (fun h3=>?_) (fun h3=>?_))
  ·refine ar O (ac3 2 h1 O (ar O (aH (RX n A D cA cD R rs B _ hR hB hP) O ?_)));rintro _ w3 ⟨A9,n9,c9,rfl,hd,aA⟩;have hF:=aA.bE hF;have hT:=hT.aq aA.below;have aB:=aB.aq aA.below;clear aA;refine ar O (yL O O O ?_);rw [JA A9.isNone];refine ao O (bX 18 O (fun h4=>?_) (fun h4=>?_))
   ·refine ar O (ao O (ar O ?_));refine aH (RI Af (dF n R B).length cf Ij (dF n R B) n _ hT hF (by omega) (by omega) U0 rO) O ?_;rintro _ w4 ⟨A8,n8,c8,rfl,hc,aA⟩;have aB:=aB.aq aA.below;refine ar O (yL O O O (bu O (bQ O ?_)));exact⟨A8.isNone,O,⟨fun h=> ⟨b9,Ah.1 h3,hd.1 h4,hc.1 h⟩,fun h=>hc.2 h.2.2.2⟩,aB⟩
   refine av O (av O (av O (bu O ?_)));refine bQ O ?_;exact⟨false,rfl,⟨fun h=> (by cases h),fun h=>absurd (hd.2 h.2.2.1) h4⟩,aB⟩
  refine av O (av O (av O (ao O (av O (av O (av O (bu O ?_)))))));refine bQ O ?_;exact⟨false,rfl,⟨fun h=> (by cases h),fun h=>absurd (Ah.2 h.2.1) h3⟩,aB⟩
 refine av O (av O (av O (ao O (av O (av O (av O (ao O (av O (av O (av O (bu O ?_)))))))))));refine bQ O ?_;exact⟨false,rfl,⟨fun h=> (by cases h),fun h=>absurd (List.length_pos_iff.2 h.1) (by omega)⟩,aB⟩
noncomputable def eJ(M:ag):ag:=dF M.length (dJ M M.length) (eW M)
noncomputable def sc(M:ag):Int:=if 500<cb M M.length\/400< (eJ M).length then 3 else 0
def ov(M:ag):Prop:=cb M M.length<=500/\(eJ M).length=(gl M 0).length/\EB M.length (dJ M M.length) (eW M)
theorem Of{M:ag}(hM:bj M)(h:cb M M.length<=500):jP (M.length:Int) (dJ M M.length) (eW M):=SK hM h
theorem M9(A:ai)(n c:Nat)(rs:List aO)(M:ag)(w:aa)(hT:nM w)(hR:bl w A n rs M)(hM:bj M):
 aE prog 69 [.agg #[.slice A n c]] w (fun v w'=>∃b:Bool,v= .tuple #[.bool b,aj (sc M)]/\(b=true↔ov M)/\St w w' []):=by
 have hl:=hR.len;have h5:=hM.1;have h4:=hM.2.1;have lQ:=nj M M.length;have rz:=xk M;have ie:=hR.jh (k:=0) (by omega) (by omega);refine bm func69 O ntmps69 O (my O) (aY O (fD (St.refl w) O O ?_));intro A1 w1 aB;refine ao O (ac3 0 (aB.rd 0 O) O (aH (Sb A n c rs M _ (aB.bE hR) hM) O ?_));rintro _ w2 (⟨CU,rfl,aA⟩ | ⟨CU,AR,cR,AD,cD,Bu,rfl,hrD,aA⟩)
 ·have aw:=aB.aq aA.below;refine ao O (BR aw O ?_);intro A4 w3 aI;refine bR 3 0 aI O O O O O O O fun w4 aG=>ao O ?_
  first | refine dM rfl rfl ?_ | refine eI rfl rfl ?_
  refine az O (Cd.fW O (cE O (wo O O ?_)));unfold sc;rw [aJ (.inl CU)];exact⟨false,rfl,⟨fun h=> (by cases h),fun h=>by have:=h.1;omega⟩,aG.none⟩
 have hP:=Of hM CU;have aw:=aB.call aA;clear aA aB;refine ao O (BR aw O ?_);intro A4 w3 aI;refine bR 3 0 aI O O O O O O O ?_;intro w4 aG;have aG:St w w4 (dU A4 (M.length:Int) AR (cb M M.length) cR AD (cb M M.length) cD::(ax 2 AR (cb M M.length) cR (dJ M M.length)::((aK 24 2 AD (cb M M.length) cD Bu (eW M)++ [])++ [Bx 37 1 A1 [.slice A n c]]))):=aG;have kJ:cd w4 AR (dJ M M.length).length (dJ M M.length):=by rw [lQ];exact aG.bz 1 O
 have kH:bl w4 AD (eW M).length Bu (eW M):=by
  rw [rz];have h9:=aG.sub (show(aK 24 2 AD (cb M M.length) cD Bu (eW M)).Sublist _ from List.Sublist.cons _ (List.Sublist.cons _ (by rw [iG];exact kY _ _)));exact h9.yr rz
 have kL:=aG.rd 0 O;have fp:Rd w4 A1 1 (fun _=> .slice A n c):=by
  have h9:=aG.sub (show List.Sublist [Bx 37 1 A1 [.slice A n c]] _ from List.Sublist.cons _ (List.Sublist.cons _ (dD _ _)));exact Rd.one (h9.rd 0 O)
 refine ao O ?_
 first | refine dM rfl rfl ?_ | refine eI rfl rfl ?_
 refine az O (Cd.dO O (aD O (ac3 2 kL O ?_)));refine acW (Sk M.length AR AD cR cD (dJ M M.length) Bu (eW M) _ kJ kH hP) O (by rw [lQ,rz];rfl) O ?_;rintro _ w5 ⟨Af,cf,Oz,rfl,MB,aA⟩;have aR:=aG.aq aA.below;have sP:=kJ.aq aA.below;have Tu:=kH.aq aA.below;have lh:=Rd.below kL aA.below;have fp:=Rd.below fp aA.below
 by_cases jq:(dF M.length (dJ M M.length) (eW M)).length<=400
 ·
  have hL:vh M.length (dJ M M.length) (eW M)=dF M.length (dJ M M.length) (eW M):=by unfold vh;rw [if_pos jq]
  have hK:ve M.length (dJ M M.length) (eW M)=0:=by unfold ve;rw [if_pos jq]
  have x8:sc M=0:=by unfold sc;rw [if_neg (by show ¬(500<cb M M.length\/400< (dF M.length (dJ M M.length) (eW M)).length);omega)]
  rw [hL]at MB aA|-;rw [hK,x8];have Tz:bl w5 Af (dF M.length (dJ M M.length) (eW M)).length Oz (dF M.length (dJ M M.length) (eW M)):=by
   rw [iG]at aA;exact aA.yr O
  refine ao O (bX 22 O (fun _=>?_) (fun h=>absurd O h));refine ar O (ao O (ar O ?_));refine aH (wC _ _ _ _) O ?_;rintro _ w5 ⟨rfl,rfl⟩;refine ar O (aH (nN A1 A n c rs M _ _ fp O (aR.bE hR) (by omega)) O ?_);rintro _ w5 ⟨rfl,rfl⟩;refine ar O (ao O ?_);refine bX 28 O (fun h6=>?_) (fun h6=>?_)
  ·refine ar O (ac3 2 lh O ?_);refine ar O (ao O (ar O ?_));refine acW (W2 M.length AR AD cR cD (dJ M M.length) Bu (eW M) Af cf Oz _ (hT.aq aR.below) sP Tu hP Tz jq) O (by rw [lQ,rz];rfl) O ?_;rintro _ w6 ⟨b,rfl,hb,pZ⟩;refine bu O (wo O O ?_);refine⟨b,O,hb.trans ⟨fun h=> ⟨CU,?_,h⟩,fun h=>h.2.2⟩,(aR.aq pZ.below).none⟩;show(dF M.length (dJ M M.length) (eW M)).length=_;omega
  refine av O (av O (av O (bu O ?_)));refine wo O O ?_;refine⟨false,rfl,⟨fun h=> (by cases h),fun h=>?_⟩,aR.none⟩;have h9:(dF M.length (dJ M M.length) (eW M)).length=(gl M 0).length:=h.2.1;omega
 have hL:vh M.length (dJ M M.length) (eW M)=[]:=by unfold vh;rw [if_neg jq]
 have hK:ve M.length (dJ M M.length) (eW M)=3:=by unfold ve;rw [if_neg jq]
 have x8:sc M=3:=by unfold sc;rw [if_pos (.inr (by show 400< (dF M.length (dJ M M.length) (eW M)).length;omega))]
 rw [hL]at MB aA|-;rw [hK,x8];refine ao O (bX 22 O (fun h=>absurd h (by decide)) (fun _=>?_));refine av O (av O (av O (av O (ao O (av O (av O (av O (bu O ?_))))))));refine wo O O ?_;refine⟨false,rfl,⟨fun h=> (by cases h),fun h=>?_⟩,aR.none⟩;have h9:(dF M.length (dJ M M.length) (eW M)).length=(gl M 0).length:=h.2.1;omega
section
variable {n:Nat} {R:ah} {B:ag}
end
section
variable (n:Nat) (R:ah) (B:ag)
end
section
variable {n:Nat} {R:ah} {B:ag}
end
section
variable {P:Program} {N:Nat} {ops:Array Oper} {K:Env->aa->Prop} {rest:List Oper} {e:Env} {w0 w w':aa} {ks:List Ck} {d:Nat} {ty:ad} {pos:String} {af:Array Edge}
end
section
variable {n:Nat} {fl:ag} {a b k i:Nat}
end
section
variable {P:Program} {N:Nat} {ops:Array Oper} {K:Env->aa->Prop} {rest:List Oper} {e:Env} {w:aa} {d:Nat} {ty:ad} {pos:String} {af:Array Edge} {x y:ae} {xt yt:ad}
end
instance (R:ah)(i e:Int):Decidable (wM R i e):=by unfold wM;infer_instance
instance (n:Int)(R:ah)(i e:Int):Decidable (wK n R i e):=by unfold wK;infer_instance
noncomputable def py(L:Mx):Bool:= @decide (ov L) (Classical.propDecidable _)
theorem KB{L:Mx}:py L=true↔ov L:= @decide_eq_true_iff _ (Classical.propDecidable _)
noncomputable def Bl(rank flags:Int):List Mx:=(eh rank flags).filter py
theorem Zg{rank flags:Int}{L:Mx}(h:L∈Bl rank flags):L∈eh rank flags:=(jb.1 h).1
theorem Zf(rank flags:Int):(Bl rank flags).length<=4000000000000:=lI (ox _ _) (Bd rank flags)
noncomputable def sb(ms:List cq):List cq:=ms.filter fun m=>py m.xss
theorem Zi(ms:List cq):(sb ms).map (·.xss)=(ms.map (·.xss)).filter py:=by
 unfold sb;rw [List.filter_map]
 rfl
theorem Zh{ms:List cq}{i:Nat}(hi:i<ms.length):sb (ms.take (i+1))=if py (ms[i]).xss=true then sb (ms.take i)++ [ms[i]]else sb (ms.take i):=by
 unfold sb;rw [lG hi,List.filter_append]
 by_cases h:py (ms[i]).xss=true
 ·rw [aJ h];simp [h]
 rw [aC h];simp [h]
theorem Zo(A:ai)(n c:Nat)(rs:List aO)(xss:ag)(w:aa)(hT:nM w)(hR:bl w A n rs xss)(hM:bj xss):
 aE prog 75 [.agg #[.slice A n c]] w (fun v w'=>v= .bool (!(py xss))/\St w w' []):=by
 refine bm func75 O ntmps75 O (bU O) (aY O (fD (St.refl w) O O ?_));intro A1 w1 aB;refine ao O (ac3 0 (aB.rd 0 O) O (aH (M9 A n c rs xss _ (hT.aq aB.below) (aB.bE hR) hM) O ?_));rintro _ w2 ⟨b,rfl,hb,aA⟩;refine ao O ?_
 first | refine dM rfl rfl ?_ | refine eI rfl rfl ?_
 refine bu O (bQ O ?_);refine⟨?_,(aB.aq aA.below).none⟩;have:b=py xss:=Bool.eq_iff_iff.2 (hb.trans KB.symm);rw [this]
theorem Nd{pd:Nat->Bool}{ms:List cq}(h:∀(j:Nat) (hj:j<ms.length),pd j= !(py ms[j].xss)):∀k,k<=ms.length->(l5 pd k).map (fun j=> (ms.map (·.top)).getD j cJ)=(sb (ms.take k)).map (·.top)
 | 0,_=>rfl
 | k+1,hk=>by
  have ih:=Nd h k (by omega);have dp:k<ms.length:=by omega
  have hp:=h k dp;rw [vZ,Zh dp]
  by_cases ho:py ms[k].xss=true
  ·rw [aJ ho,aC (by rw [hp];simp [ho]),lF,lF,ih];simp [df,dL dp]
  ·rw [aC ho,aJ (by rw [hp];simp [ho]),ih]
theorem WJ(rank flags:Int)(w:aa)(hT:nM w):aE prog 24 [aj rank,aj flags] w (Pn (Bl rank flags) (uH rank flags) w):=by
 have hlst:=Bd rank flags;refine bm func24 O ntmps24 O (my O) (aY O (aH (BX rank flags _) O ?_));rintro _ w2 ⟨A,c,ms,rfl,hL,bq,hS⟩;have mN:ms.length=(eh rank flags).length:=by rw [<-hL,fQ]
 have Gk:∀(j:Nat) (hj:j<ms.length),bj ms[j].xss/\flags.toNat=(gl ms[j].xss 0).length/\kZ flags.toNat ms[j].xss/\0<flags.toNat:=fun j hj=>by
  have hs:Small rank flags:=kV fun hs=>by
   rw [eh,aC hs]at mN;have mN:ms.length=0:=mN;omega
  have h1:=hs.1;have h2:=hs.2;have:=YC (n:=rank.toNat) (F:=flags.toNat) (by omega) (by omega) (by rw [hL,eh,aJ hs]) hj;exact⟨this.1,this.2.1,this.2.2,by omega⟩
 refine ao O ?_;refine aH (RU 0 hS O (by omega) 75 (fun j=>if hj:j<ms.length then !(py ms[j].xss)else false) (fun w' q hq CI a ha=>?_)) O ?_
 ·obtain⟨hM,hN,hO,hF⟩:=Gk a ha;have CI:St w w' (aV 37 A ms.length c (q.map fun j=> (ms.map (·.top)).getD j cJ)::dv 24 2 ms):=CI;have T7:=CI.oh (c:=ms[a].top.c) (t1:=24) (t2:=2) ((sn (dd ha)).trans (List.sublist_cons_self _ _)) (bq _ (dd ha));have e1:(ms.map (·.top)).getD a cJ=ms[a].top:=by simp [df,dL ha]
  rw [e1];refine(Zo ms[a].top.a ms[a].top.n ms[a].top.c ms[a].rs ms[a].xss w' (hT.aq CI.below) T7 hM).mono ?_;rintro v iq ⟨rfl,aA⟩;exact⟨by rw [dif_pos ha],aA⟩
 rintro _ w3 ⟨rfl,aI⟩;have GA:=Nd (pd:=fun j=>if hj:j<ms.length then !(py ms[j].xss)else false) (fun j hj=>by rw [dif_pos hj]) ms.length (dE _);have gM:=bw List.length GA;rw [fQ,fQ,jc (dE _)]at gM;rw [jc (dE _)]at GA;rw [GA,gM]at aI;rw [gM];have aI:St w w3 (aV 37 A (sb ms).length c ((sb ms).map (·.top))::dv 24 2 ms):=aI;refine bu O (uT O O ?_);exact⟨A,c,sb ms,O,by rw [Zi,hL];rfl,fun m hm=>bq m (jb.1 hm).1,aI.sub (List.Sublist.cons_cons _ (HR List.filter_sublist))⟩
def Pl(M:ag)(w:aa)(v:ab)(w':aa):Prop:=∃b:Bool,v= .tuple #[.bool b,aj (if bj M then sc M else 1)]/\(b=true↔bj M/\ov M)/\St w w' []
theorem WG(A:ai)(n c:Nat)(rs:List aO)(M:ag)(w:aa)(hT:nM w)(hR:bl w A n rs M)(hn:n<=c)(hc:c<=9223372036854775807):
 aE prog 20 [.agg #[.slice A n c]] w (Pl M w):=by
 refine bm func20 O ntmps20 O (my O) (aY O (fD (St.refl w) O O ?_));intro A1 w1 aB;refine ao O (ac3 0 (aB.rd 0 O) O (aH (AO A n c rs M _ (aB.bE hR) hn hc) O ?_));rintro _ w2 ⟨rfl,aA⟩;have aw:=aB.aq aA.below
 first | refine dM rfl rfl ?_ | refine eI rfl rfl ?_
 refine az O (aM _ O (fun h1=>?_) (fun h1=>?_))
 ·have h1:¬bj M:=h1;refine cE O (wo O O ?_);exact⟨false,by rw [aC h1],⟨fun h=> (by cases h),fun h=>absurd h.1 h1⟩,aw.none⟩
 have h1:bj M:=gC.1 h1;refine aD O (ac3 0 (aw.rd 0 O) O (aH (M9 A n c rs M _ (hT.aq aw.below) (aw.bE hR) h1) O ?_));rintro _ w3 ⟨b,rfl,hb,tf⟩;have aI:=aw.aq tf.below;refine bu O (wo O O ?_);exact⟨b,by rw [aJ h1],⟨fun h=> ⟨h1,hb.1 h⟩,fun h=>hb.2 h.2⟩,aI.none⟩
theorem Sj(A:ai)(n c:Nat)(rs:List aO)(xss:ag)(w:aa)(hR:bl w A n rs xss)(hn:0<n):
 aE prog 48 [.agg #[.slice A n c]] w (fun v w'=>v=aj ((gl xss 0).length:Int)/\St w w' []):=by
 have ie:=hR.jh (k:=0) (by omega) (by omega);refine bm func48 O ntmps48 O (bU O) (aY O (fD (St.refl w) O O ?_));intro A1 w1 aB;have fT:=aB.bE hR;refine ao O (aS (aB.rd 0 O) O (a8 (aB.rd 0 O) O ?_));refine aZ O O (az O ?_);refine jw O (by omega) (aD O (aS (aB.rd 0 O) O (a8 (aB.rd 0 O) O (ay fT.top.2 O (ac0 (i:=0) fT.top O (by omega) O O ?_)))));refine aZ O O (bu O ?_);refine fP O ?_;exact⟨by rw [ie],aB.none⟩
def sy(rank flags i:Int):Int:=if ¬Small rank flags\/i<0 then 2 else if((eh rank flags).length:Int)<=i then 4 else 0
def sA(rank flags i:Int):Mx:=if i<0 then []else(eh rank flags).getD i.toNat []
theorem BZ{rank flags i:Int}(h:¬Small rank flags\/i<0):sA rank flags i=[]/\sy rank flags i=2:=by
 unfold sA sy;refine⟨?_,aJ h⟩
 split
 ·rfl
 rename_i hi;have hs:¬Small rank flags:=h.resolve_right hi;rw [eh,aC hs]
 rfl
theorem Jo{rank flags i:Int}(hs:Small rank flags)(h0:0<=i)(h:((eh rank flags).length:Int)<=i):sA rank flags i=[]/\sy rank flags i=4:=by
 unfold sA sy;rw [aC (by omega),aC (fun h=>h.elim (fun h=>h hs) (by omega)),aJ h];refine⟨?_,O⟩;rw [df,mD (by omega)]
 rfl
theorem Jn{rank flags i:Int}{ms:List cq}(hs:Small rank flags)(h0:0<=i)(h:i.toNat<ms.length)(hL:ms.map (·.xss)=eh rank flags):sA rank flags i=ms[i.toNat].xss/\sy rank flags i=0:=by
 have hl:ms.length=(eh rank flags).length:=by rw [<-hL,fQ]
 unfold sA sy;rw [aC (by omega),aC (fun h=>h.elim (fun h=>h hs) (by omega)),aC (by omega)];refine⟨?_,O⟩;rw [<-hL,df,List.getElem?_map,dL h]
 rfl
theorem WH(rank flags i:Int)(w:aa):aE prog 49 [aj rank,aj flags,aj i] w (qW (sA rank flags i) (sy rank flags i) w):=by
 refine bm func49 O ntmps49 O (uQ O O) (aY O (eH (St.refl w) O ?_));intro A6 w1 aB;refine ao O (aH (Hs rank flags _) O ?_);rintro _ w1 ⟨rfl,rfl⟩
 first | refine dM rfl rfl ?_ | refine eI rfl rfl ?_
 refine ao O (bX 14 O (fun h=>?_) (fun h=>?_))
 ·have hs:¬Small rank flags:=h;refine av O (av O (az O ?_));refine Cd.fW O (aD O (re (by exact inferInstance) O (bR 1 0 aB O O O O O O O ?_)));intro w2 aw;refine bu O (mz O (aw.rd 0 O) O ?_);rw [(BZ (.inl hs)).1,(BZ (i:=i) (.inl hs)).2];exact qW.none aw
 have hs:Small rank flags:=gC.1 h;refine ar O (ao O (ar O (az O ?_)));refine aM _ O (fun h2=>?_) (fun h2=>?_)
 ·refine aD O (re (by exact inferInstance) O (bR 1 0 aB O O O O O O O ?_));intro w2 aw;refine bu O (mz O (aw.rd 0 O) O ?_);rw [(BZ (.inr h2)).1,(BZ (.inr h2)).2];exact qW.none aw
 have iB:0<=i:=by omega
 refine aD O (aH (BX rank flags _) O ?_);rintro _ w2 ⟨A,c,ms,rfl,hL,bq,hS⟩;have hl:ms.length=(eh rank flags).length:=by rw [<-hL,fQ]
 have aw:=(aB.call hS).perm fb;refine ao O (aH (Iq _ _ _ _) O ?_);rintro _ w2 ⟨rfl,rfl⟩;refine az O (aM _ O (fun h3=>?_) (fun h3=>?_))
 ·refine aD O (re (by exact inferInstance) O (bR 1 0 aw O O O O O O O ?_));intro w3 aI;refine bu O (mz O (aI.rd 0 O) O ?_);rw [(Jo hs iB (by omega)).1,(Jo hs iB (by omega)).2];exact qW.none aI
 have cI:i.toNat<ms.length:=by omega
 have hR:=aw.eG 1 O;refine aD O (acU hR.2 O O O iB (by omega) (oz hR O cI O (bR 1 0 aw O O O O O O O ?_)));intro w3 aI;refine bu O (mz O (aI.rd 0 O) O ?_);have ht:rg (ms.map (·.top)) i=ms[i.toNat].top:=by
  have:=wF cI
  rwa [Int.toNat_of_nonneg iB]at this
 have ho:=bq _ (dd cI);have qF:(ms[i.toNat].fc 24 2).Sublist (Bx 37 1 A6 [.slice (rg (ms.map (·.top)) i).a (rg (ms.map (·.top)) i).n (rg (ms.map (·.top)) i).c]::aV 37 A ms.length c (ms.map (·.top))::dv 24 2 ms):=((sn (dd cI)).trans (List.sublist_cons_self _ _)).trans (List.sublist_cons_self _ _);have bO:=aI.Oy qF;have hX:=aI.sub qF;rw [(Jn hs iB cI hL).1,(Jn hs iB cI hL).2];unfold cq.ok at ho;refine⟨ms[i.toNat].top.a,ms[i.toNat].top.c,ms[i.toNat].rs,?_,by rw [bO,ho],?_⟩
 ·rw [ho,<-ht];rfl
 rw [ho];exact hX
theorem XB(A:ai)(n c:Nat)(rs:List aO)(xss:ag)(A':ai)(c':Nat)(rs':List aO)(bb:ag)(w:aa)(hX:bl w A n rs xss)(hY:bl w A' n rs' bb)(hn:n<=9223372036854775807):
 aE prog 224 [.slice A n c,.slice A' n c'] w (fun v w'=>v= .bool (decide (dZ xss bb<0))/\St w w' []):=by
 have bP:=hX.len;have mw:=hY.len;refine bm func224 O ntmps224 O (bU O) (b7 O ?_);refine Cd.loop (α:=Nat) (fun k=> [(0,.slice A n c),(1,.slice A' n c'),(5,aj k)]) (fun k w'=>St w w' []/\k<=n/\dZ xss bb=dZ (xss.drop k) (bb.drop k)) (fun k=>n - k) 0 (ac4 O) ⟨St.refl w,bA _,O⟩ ?_;rintro k e w3 ⟨aI,hk,hK⟩;refine aY O (aZ O O (ao O ?_));refine bX 10 O (fun h1=>?_) (fun h1=>?_)
 ·rw [HK (by omega) (by omega)]at hK;have rC:=aI.bE hX;have ui:=aI.bE hY;have lN:=rC.top;have tX:=ui.top;have ha:=rC.at_ (i:=(k:Int)) (by omega) h1;have kr:=ui.at_ (i:=(k:Int)) (by omega) (by omega);have hc:=rC.cap_ (i:=(k:Int)) (by omega) h1;refine ar O (ao O (ar O (ao O (ar O (aZ O O (ar O (az O ?_)))))));refine aM _ O (fun _=>?_) (fun h2=>?_)
  ·refine cH O (dK [xS (A) (n) (c),xI ((k:Int)),xP (aF (A) ((k:Int)).toNat),xS ((rg (rs) ((k:Int))).a) ((rg (rs) ((k:Int))).n) ((rg (rs) ((k:Int))).c),xS (A') (n) (c'),xI ((k:Int)),xP (aF (A') ((k:Int)).toNat),xS ((rg (rs') ((k:Int))).a) ((rg (rs') ((k:Int))).n) ((rg (rs') ((k:Int))).c),xB (decide (gl xss k=gl bb k)),xB (decide (¬(gl xss k=gl bb k)))] O (eo O) ?_ ?_)
   ·refine⟨Dr O,Dr O,fun _ _ hb _ _=>ay (lN.aq hb).2 O Az,fun _ _ hb _ _=>bB (lN.aq hb) O Az,Dr O,Dr O,fun _ _ hb _ _=>ay (tX.aq hb).2 O Az,fun _ _ hb _ _=>bB (tX.aq hb) O Az,?_,fun _ _ _ _ _=>dM O O Az,au⟩;intro e1 w1 hb hp aX;refine aH (Hy _ _ _ _ _ _ _ _ _ (ha.aq hb) (kr.aq hb) (by omega)) O ?_;rintro _ w2 ⟨rfl,aA⟩;refine ak.n ?_;exact eA.dn aA.below (by exact O)
   intro u w4 kL _;have aG:=aI.aq kL;have zy:=aG.bE hX;have zA:=aG.bE hY;have zm:=zy.top;have zo:=zA.top;have Ga:=zy.at_ (i:=(k:Int)) (by omega) h1;have Gg:=zA.at_ (i:=(k:Int)) (by omega) (by omega);refine fw O (aM _ O (fun h3=>?_) (fun h3=>?_))
   ·rw [aC (fun h=>h3 (r5.1 h))]at hK;refine cH O (dK [xS (A) (n) (c),xI ((k:Int)),xP (aF (A) ((k:Int)).toNat),xS ((rg (rs) ((k:Int))).a) ((rg (rs) ((k:Int))).n) ((rg (rs) ((k:Int))).c),xS (A') (n) (c'),xI ((k:Int)),xP (aF (A') ((k:Int)).toNat),xS ((rg (rs') ((k:Int))).a) ((rg (rs') ((k:Int))).n) ((rg (rs') ((k:Int))).c),xB (decide (fz (gl xss k) (gl bb k)<0)),xB (decide (fz (gl xss k) (gl bb k)<0))] O (eo O) ?_ ?_)
    ·refine⟨Dr O,Dr O,fun _ _ hb _ _=>ay (zm.aq hb).2 O Az,fun _ _ hb _ _=>bB (zm.aq hb) O Az,Dr O,Dr O,fun _ _ hb _ _=>ay (zo.aq hb).2 O Az,fun _ _ hb _ _=>bB (zo.aq hb) O Az,?_,Dr O,au⟩;intro e1 w1 hb hp aX;refine aH (Nk _ _ _ _ _ _ _ _ _ (Ga.aq hb) (Gg.aq hb) (by omega)) O ?_;rintro _ w2 ⟨rfl,aA⟩;refine ak.n ?_;exact eA.dn aA.below (by exact O)
    intro u2 w5 lh _;have aR:=aG.aq lh;refine tE O (de (cT ?_));refine bQ O ?_;exact⟨bw Value.bool (kc.2 (by rw [hK])),aR⟩
   rw [aJ (r5.2 (gC.1 h3))]at hK;refine aD O (aL O (aU O (tQ ?_)));exact⟨k+1,by show n - (k+1)<n - k;omega,(ac4 O),aG,by omega,hK⟩
  exact absurd h1 h2
 rw [HJ (by omega),aC (by omega)]at hK;refine av O (av O (av O (av O (az O ?_))));refine Cd.dO O (bo O (bp (cn O (aZ O O (ao O (aZ O O (bu O ?_)))))));refine bQ O ?_;exact⟨bw Value.bool (by rw [hK];simp),aI⟩
theorem XJ(A:ai)(n c:Nat)(rs:List aO)(xss:ag)(N:Nat)(w:aa)(hR:bl w A n rs xss)(hM:bj xss)(hN:N=(gl xss 0).length):
 aE prog 171 [.agg #[.slice A n c]] w (fun v w'=>∃A' c' rs',v= .agg #[.slice A' n c']/\rs'.length=n/\St w w' (aK 24 2 A' n c' rs' (gO N xss))):=by
 have h5:=hM.1;have Cy:=hM.2.1;have bP:=hR.len;have lq:∀k,(fe N xss k).length=n:=fun k=>by
  induction k with
  | zero=>rw [fe,mh,bP]
  | succ k ih=>
   rw [fe]
   split
   ·rw [mh,bP]
   ·exact ih
 have jq:∀f:Int,(cW N xss f).length=n:=fun f=>by rw [mh,bP]
 have Tc:fe N xss 1=cW N xss 0:=by
  show(if dZ (cW N xss ((0:Nat):Int)) (fe N xss 0)<0 then cW N xss ((0:Nat):Int)else fe N xss 0)=_
  split<;>rfl
 refine bm func171 O ntmps171 O (lB O O) (aY O (fD (St.refl w) O O ?_));intro Ab w1 aB;refine eH aB O fun Ac w2 aw=>ao O (ac3 0 (aw.rd 1 O) O (aH (HA A n c rs xss N 0 _ (aw.bE hR) hM hN (by omega) (by omega)) O ?_));rintro _ w3 ⟨A4,c4,bY,rfl,vO,aA⟩;have aI:=(aw.call aA).perm fb;refine eH aI O fun Ad w4 aG=>bR 1 0 aG O O O O O O O ?_;intro w5 aR;have aR:St w w5 (Bx 37 1 Ad [.slice A4 n c4]::Bx 37 1 Ac [.slice none 0 0]::Bx 37 1 Ab [.slice A n c]::aK 24 2 A4 n c4 bY (fe N xss 1)):=by rw [Tc];exact aR
 refine az O ?_;refine Cd.loop (α:=Nat×ai×Nat×List aO) (fun s=> [(1,.pointer Ab),(2,.pointer Ac),(3,.pointer Ad),(4,aj (s.1:Int))]) (fun s w'=>St w w' (Bx 37 1 Ad [.slice s.2.1 n s.2.2.1]::Bx 37 1 Ac [.slice none 0 0]::Bx 37 1 Ab [.slice A n c]::aK 24 2 s.2.1 n s.2.2.1 s.2.2.2 (fe N xss s.1))/\s.1<=N/\s.2.2.2.length=n) (fun s=>N - s.1) (1,A4,c4,bY) (ac4 O) ⟨aR,by show 1<=N;omega,vO⟩ ?_;rintro⟨k,A6,c6,o8⟩ e w6 ⟨aQ,hk,pS⟩;dsimp only at aQ hk pS|-;refine aY O (ac3 0 (aQ.rd 2 O) O (aH (oY A n c rs xss _ (aQ.bE hR) (by omega)) O ?_));rintro _ w61 ⟨rfl,Wd⟩;have aQ:=aQ.aq Wd.below;refine az O (aM _ O (fun h1=>?_) (fun h1=>?_))
 ·refine aD O (ac3 0 (aQ.rd 2 O) O (ao O (aH (HA A n c rs xss N k _ (aQ.bE hR) hM hN (by omega) (by omega)) O ?_)));rintro _ w7 ⟨A7,c7,fq,rfl,lp,tg⟩;have a6:=(aQ.call tg).perm fb;refine eH a6 O fun A8 w8 a7=>bR 1 0 a7 O O O O O O O ?_;intro w9 aW;have aW:St w w9 (Bx 37 1 A8 [.slice A7 n c7]::Bx 37 1 Ad [.slice A6 n c6]::Bx 37 1 Ac [.slice none 0 0]::Bx 37 1 Ab [.slice A n c]::(aK 24 2 A6 n c6 o8 (fe N xss k)++aK 24 2 A7 n c7 fq (cW N xss k))):=aW;have uA:bl w9 A6 n o8 (fe N xss k):=aW.oh ((kY _ _).trans (dD [_,_,_,_] _)) (lq k);have tc:bl w9 A7 n fq (cW N xss k):=aW.oh (((((dD _ _).cons _).cons _).cons _).cons _) (jq k);refine ao O (aS (aW.rd 0 O) O (a8 (aW.rd 0 O) O (aS (aW.rd 1 O) O (a8 (aW.rd 1 O) O (aH (XB A7 n c7 fq _ A6 c6 o8 _ _ tc uA (by omega)) O ?_)))));rintro _ dt ⟨rfl,Av⟩;have bV:=aW.aq Av.below;refine az O (aM _ O (fun h2=>?_) (fun h2=>?_))
  ·have hle:fe N xss (k+1)=cW N xss k:=by rw [fe,aJ h2]
   refine aD O (ac3 0 (bV.rd 0 O) O (bR 1 1 bV O O O O O O O ?_));intro dB dW;refine ao O (aL O (aU O (tQ ?_)));refine⟨(k+1,A7,c7,fq),by show N - (k+1)<N - k;omega,(ac4 O),?_,by show k+1<=N;omega,lp⟩;show St w dB (Bx _ 1 Ad [.slice A7 n c7]::_::_::aK _ _ A7 n c7 fq (fe N xss (k+1)));rw [hle];exact dW.sub (((List.Sublist.cons_cons _ (List.Sublist.cons_cons _ (List.Sublist.cons_cons _ (dD _ _)))).cons _))
  ·have hle:fe N xss (k+1)=fe N xss k:=by rw [fe,aC h2]
   refine aD O (aL O (aU O (tQ ?_)));refine⟨(k+1,A6,c6,o8),by show N - (k+1)<N - k;omega,(ac4 O),?_,by show k+1<=N;omega,pS⟩;show St w dt (Bx _ 1 Ad [.slice A6 n c6]::_::_::aK _ _ A6 n c6 o8 (fe N xss (k+1)));rw [hle];exact bV.sub (((List.Sublist.cons_cons _ (List.Sublist.cons_cons _ (List.Sublist.cons_cons _ (kY _ _)))).cons _))
 ·have np:k=N:=by omega
  rw [np]at aQ;refine bo O (bp (cn O ?_));refine ac3 0 (aQ.rd 0 O) O (bR 1 1 aQ O O O O O O O ?_);intro w7 a6;refine bu O (fZ O (a6.rd 1 O) ?_);exact⟨A6,c6,o8,O,pS,a6.sub (((List.sublist_cons_self _ _).trans (List.sublist_cons_self _ _)).trans (List.sublist_cons_self _ _))⟩
section
variable {P:Program} {N:Nat} {ops:Array Oper} {K:Env->aa->Prop} {rest:List Oper} {e:Env} {w0 w:aa} {ks:List Ck} {d:Nat} {ty:ad} {pos:String} {af:Array Edge}
theorem D2{R:ab->aa->Prop}{t u s:Nat}{k':IntKind}{j:Int}{A:ai}{n c:Nat}{k:IntKind}{i:Int}(h:e t= .int k' j)(h2:e u= .slice A n c)(h3:e s= .int k i)(hR:R (.tuple #[.int k' j,.slice A n c,.int k i]) w):Ib t u s R .ret e w:=by show R (.tuple #[e t,e u,e s]) w;rw [h,h2,h3];exact hR
theorem Ic{R:ab->aa->Prop}{t u s:Nat}{k':IntKind}{j:Int}{A:ai}{n c:Nat}{k:IntKind}{i:Int}(h:e t= .slice A n c)(h2:e u= .int k' j)(h3:e s= .int k i)(hR:R (.tuple #[.slice A n c,.int k' j,.int k i]) w):Ib t u s R .ret e w:=by show R (.tuple #[e t,e u,e s]) w;rw [h,h2,h3];exact hR
end
theorem WL(A:ai)(n c:Nat)(ss:List aO)(G:FuncId)[hF:bk prog G](cv:ab)(pd:Nat->Bool)(w:aa)(hR:gp w A n ss)(hn:n<=4000000000000)(xF:∀(w':aa) (j:Nat),Below w.heap.size w w'->j<n->aE prog G [.agg #[(rg ss j).v],cv] w' (fun v iq=>v= .bool (pd j)/\St w' iq [])):
 aE prog 140 [.slice A n c,.func (.func G) #[] #[cv]] w (fun v w'=> (∃i:Int,v=aj i/\((i= -1/\∀j,j<n->pd j=false)\/∃k:Nat,k<n/\i=k/\pd k=true/\∀j,j<k->pd j=false))/\St w w' []):=by
 refine bm func140 O ntmps140 O (bU O) ?_;refine aY O (aZ O O (az O ?_));refine Cd.loop (α:=Nat) (fun k=> [(0,.slice A n c),(1,.func (.func G) #[] #[cv]),(7,aj n),(8,aj k)]) (fun k w'=>St w w' []/\k<=n/\∀j,j<k->pd j=false) (fun k=>n - k) 0 (ac4 O) ⟨St.refl w,bA _,fun j hj=>by omega⟩ ?_;rintro k e w1 ⟨hS,hk,hK⟩;refine b7 O (aM _ O (fun h3=>?_) (fun h3=>?_))
 ·have dp:k<n:=by omega
  have fT:=hR.aq hS.below;refine aD O (ay fT.2 O (oz fT O (by omega) O (aH (xF w1 k hS.below dp) O ?_)));rintro _ w2 ⟨rfl,aA⟩;have aw:=hS.aq aA.below;rw [show pd k=decide (pd k=true) by simp];refine az O (aM _ O (fun h4=>?_) (fun h4=>?_))
  ·refine cE O (de (cT ?_));exact fP O ⟨⟨(k:Int),O,.inr ⟨k,dp,O,h4,hK⟩⟩,aw⟩
  refine aD O (aL O (aU O (tQ ?_)));refine⟨k+1,by show n - (k+1)<n - k;omega,(ac4 O),aw,by omega,fun j hj=>?_⟩
  by_cases ej:j=k
  ·subst ej;simpa using h4
  exact hK j (by omega)
 refine bo O (bp (e6 O ?_));exact fP O ⟨⟨-1,O,.inl ⟨O,fun j hj=>hK j (by omega)⟩⟩,hS⟩
def sH(x:Mx):List Mx->Nat
 | []=>0
 | y::l=>if y=x then 0 else sH x l+1
theorem zk{x:Mx}:∀ {l:List Mx},x∈l->sH x l<l.length
 | y::l,h=>by
  simp only [sH,List.length_cons]
  split
  ·omega
  ·rename_i b9;have:=zk (x:=x) (l:=l) ((ja.1 h).resolve_left (fun e=>b9 e.symm));omega
theorem Cs{x:Mx}:∀ {l:List Mx} {k:Nat},l[k]?=some x->(∀j,j<k->l[j]?≠some x)->sH x l=k
 | y::l,0,h,_=>by
  simp only [sH];rw [aJ (by simpa using h)]
 | y::l,k+1,h,hn=>by
  have h0:=hn 0 (by omega);simp only [sH];rw [aC (fun e=>h0 (by simp [e]))];rw [Cs (l:=l) (k:=k) (by simpa using h) (fun j hj=>by have:=hn (j+1) (by omega);simpa using this)]
def gv(xss:Mx):Prop:=bj xss/\xss.length<=4/\(gl xss 0).length<=12
instance (xss:Mx):Decidable (gv xss):=by unfold gv;exact inferInstance
theorem gv.small{xss:Mx}(h:gv xss):Small (xss.length:Nat) ((gl xss 0).length:Nat):=by
 have h1:=h.1.1;have h2:=h.1.2.1;have h3:=h.2;unfold Small;omega
def gz(xss:Mx):List Mx:=if gv xss then od xss.length (gl xss 0).length else []
def eR(xss:Mx):Nat:=sH (gO (gl xss 0).length xss) (gz xss)
def l6(xss:Mx):Int:=if ¬bj xss then 1 else if gv xss then 0 else 3
theorem gv.eh{xss:Mx}(h:gv xss):Vc.eh (xss.length:Nat) ((gl xss 0).length:Nat)=gz xss:=by
 rw [Vc.eh,aJ h.small,gz,aJ h,gn,gn]
theorem gv.mem{xss:Mx}(h:gv xss):gO (gl xss 0).length xss∈gz xss:=by
 rw [gz,aJ h];exact Yo h.1 O
theorem gv.k0{xss:Mx}(h:gv xss):l6 xss=0:=by rw [l6,aC (fun hn=>hn h.1),aJ h]
def oA(xss:Mx)(w:aa)(A:ai)(c:Nat)(ms:List cq)(w':aa):Prop:=ms.map (·.xss)=gz xss/\(∀m∈ms,m.ok)/\St w w' (aV 37 A ms.length c (ms.map (·.top))::dv 24 2 ms)
theorem oA.none{xss:Mx}{w w':aa}{ks:List Ck}(h:¬gv xss)(hS:St w w' ks):oA xss w Option.none 0 [] w':=⟨by rw [gz,aC h];rfl,fun m hm=> (nomatch hm),hS.none.nil _⟩
theorem wi{xss:Mx}(h:¬gv xss):eR xss=0:=by rw [eR,gz,aC h];rfl
theorem X6(A:ai)(n c:Nat)(rs:List aO)(xss:Mx)(w:aa)(hR:bl w A n rs xss)(hn:n<=9223372036854775807):
 aE prog 97 [.agg #[.slice A n c]] w (fun v w'=>∃A5 c5 ms,v= .tuple #[aj (eR xss:Nat),.slice A5 ms.length c5,aj (l6 xss)]/\oA xss w A5 c5 ms w'):=by
 have bP:=hR.len;refine bm func97 O ntmps97 O (Oh O) (aY O (fD (St.refl w) O O ?_));intro Ab w1 aB;refine ao O (ac3 0 (aB.rd 0 O) O (aH (DG A n c rs xss _ (aB.bE hR) hn) O ?_));rintro _ w2 ⟨rfl,pZ⟩;have aw:=aB.aq pZ.below
 first | refine dM rfl rfl ?_ | refine eI rfl rfl ?_
 refine az O (aM _ O (fun h1=>?_) (fun h1=>?_))
 ·have hp:¬gv xss:=fun h=>h1 h.1
  refine cE O (D2 O O O ?_);exact⟨none,0,[],by rw [wi hp,l6,aJ h1];rfl,oA.none hp aw⟩
 have hM:bj xss:=gC.1 h1;have FR:=hM.1;have TQ:=hM.2.1;refine aD O (aS (aw.rd 0 O) O (a8 (aw.rd 0 O) O ?_));refine aZ O O (ao O ?_);refine bX 16 O (fun h2=>?_) (fun h2=>?_)
 ·have hp:¬gv xss:=fun h=>by have:=h.2.1;omega
  refine av O (av O (av O (az O ?_)));refine Cd.fW O (cE O (D2 O O O ?_));exact⟨none,0,[],by rw [wi hp,l6,aC (fun h=>h hM),aC hp];rfl,oA.none hp aw⟩
 refine ar O (ac3 0 (aw.rd 0 O) O (ar O (aH (oY A n c rs xss _ (aw.bE hR) (by omega)) O ?_)));rintro _ w3 ⟨rfl,tf⟩;have aI:=aw.aq tf.below;refine ar O (az O ?_);refine aM _ O (fun h3=>?_) (fun h3=>?_)
 ·have hp:¬gv xss:=fun h=>by have:=h.2.2;omega
  refine cE O (D2 O O O ?_);exact⟨none,0,[],by rw [wi hp,l6,aC (fun h=>h hM),aC hp];rfl,oA.none hp aI⟩
 have nS:gv xss:=⟨hM,by omega,by omega⟩;have FJ:=aI.rd 0 O;refine cH O ?_;refine dK [xP (aF (Ab) 0),xS (A) (n) (c),xI (((n:Nat):Int)),.ex (.agg #[.slice (A) (n) (c)]),xI (((gl xss 0).length:Nat):Int),.pr (fun v w'=>∃A5 c5 A2 c2,∃ms:List cq,v= .tuple #[.slice A5 ms.length c5,.slice A2 ms.length c2]/\oA xss w A5 c5 ms w'),.pr (fun v w'=>∃A5 c5 A2 c2,∃ms:List cq,v= .tuple #[.slice A5 ms.length c5,.slice A2 ms.length c2]/\oA xss w A5 c5 ms w'),.pr (fun v w'=>∃A5 c5,∃ms:List cq,v= .slice A5 ms.length c5/\oA xss w A5 c5 ms w'),.pr (fun v w'=>∃A2 n2 c2,v= .slice A2 n2 c2),.pr (fun v w'=>∃A5 c5,∃ms:List cq,v= .slice A5 ms.length c5/\oA xss w A5 c5 ms w'),.pr (fun v w'=>∃A2 n2 c2,v= .slice A2 n2 c2)] rfl (lx (lx (lx (lx (lx (cL.2 ⟨Yd.cQ (fun v w w' h hb=>by obtain⟨A5,c5,A2,c2,ms,hv,h1,h2,h3⟩:=h;exact⟨A5,c5,A2,c2,ms,hv,h1,h2,h3.aq hb⟩),(cL.2 ⟨Yd.cQ (fun v w w' h hb=>by obtain⟨A5,c5,A2,c2,ms,hv,h1,h2,h3⟩:=h;exact⟨A5,c5,A2,c2,ms,hv,h1,h2,h3.aq hb⟩),(cL.2 ⟨Yd.cQ (fun v w w' h hb=>by obtain⟨A5,c5,ms,hv,h1,h2,h3⟩:=h;exact⟨A5,c5,ms,hv,h1,h2,h3.aq hb⟩),(cL.2 ⟨Yd.cQ (fun _ _ _ h _=>h),(cL.2 ⟨Yd.cQ (fun v w w' h hb=>by obtain⟨A5,c5,ms,hv,h1,h2,h3⟩:=h;exact⟨A5,c5,ms,hv,h1,h2,h3.aq hb⟩),(cL.2 ⟨Yd.cQ (fun _ _ _ h _=>h),(fun _ h=>by cases h)⟩)⟩)⟩)⟩)⟩)⟩)))))) ?_ ?_
 ·refine⟨fun _ _ hb _ _=>aS (FJ.below hb) O Az,fun _ _ hb _ _=>a8 (FJ.below hb) O Az,fun _ _ _ _ _=>aZ O O Az,fun _ _ hb _ _=>ac3 0 (FJ.below hb) O Az,?_,?_,?_,?_,?_,?_,?_,au⟩
  ·intro e1 w1 hb hp aX;refine aH (oY A n c rs xss _ ((aI.aq hb).bE hR) (by omega)) O ?_;rintro _ w2 ⟨rfl,aA⟩;refine ak.n ?_;exact eA.dn aA.below (by exact O)
  ·intro e1 w1 hb hp aX;refine acW (X4 xss.length (gl xss 0).length (by omega) (by omega) _) O (by rw [bP];rfl) O ?_;rintro _ w2 ⟨A5,c5,A2,c2,ms,rfl,hL,bq,aA⟩;refine ak.n ?_;exact eA.dn aA.below ⟨A5,c5,A2,c2,ms,O,by rw [hL,gz,aJ nS],bq,((aI.aq hb).call aA).sub ((List.Sublist.cons_cons _ (List.sublist_cons_self _ _)).trans (kY _ _))⟩
  ·intro e1 w1 hb hp aX;obtain⟨A5,c5,A2,c2,ms,xm,h1,h2,h3⟩:=(hp 5 (by decide) rfl _ _ rfl rfl);refine BQ O (by exact xm) O (ak.n ?_);exact eA.dn (Below.refl _ _) ⟨A5,c5,A2,c2,ms,O,h1,h2,h3⟩
  ·intro e1 w1 hb hp aX;obtain⟨A5,c5,A2,c2,ms,vm,h1,h2,h3⟩:=(hp 6 (by decide) rfl _ _ rfl rfl);refine ak.extract (by exact vm) O O (ak.n ?_);exact eA.dn (Below.refl _ _) ⟨A5,c5,ms,O,h1,h2,h3⟩
  ·intro e1 w1 hb hp aX;obtain⟨A5,c5,A2,c2,ms,vm,h1,h2,h3⟩:=(hp 6 (by decide) rfl _ _ rfl rfl);refine ak.extract (by exact vm) O O (ak.n ?_);exact eA.dn (Below.refl _ _) ⟨A2,_,c2,O⟩
  ·intro e1 w1 hb hp aX;obtain⟨A5,c5,ms,Tf,h1,h2,h3⟩:=(hp 7 (by decide) rfl _ _ rfl rfl);refine lJ O (by exact Tf) O (ak.n ?_);exact eA.dn (Below.refl _ _) ⟨A5,c5,ms,O,h1,h2,h3⟩
  intro e1 w1 hb hp aX;obtain⟨A2,n2,c2,Tg⟩:=(hp 8 (by decide) rfl _ _ rfl rfl);refine lJ O (by exact Tg) O (ak.n ?_);exact eA.dn (Below.refl _ _) ⟨A2,n2,c2,O⟩
 intro u w4 kL hu;have aG:=aI.aq kL;obtain⟨A5,c5,ms,h5,hL,bq,aR⟩:=hu 9 _ rfl;have pX:∀m∈ms,m.xss.length<=4:=fun m hm=> (HN (rank:=(xss.length:Nat)) (flags:=((gl xss 0).length:Nat)) (by rw [nS.eh,<-hL];exact List.mem_map_of_mem (f:=(·.xss)) hm)).2.2.2.1
 have lq:(gO (gl xss 0).length xss).length=n:=by rw [HF,bP]
 have mN:ms.length=(gz xss).length:=by rw [<-hL,fQ]
 have GI:ms.length<=4000000000000:=by rw [mN,<-nS.eh];exact Bd _ _
 rw [Oa u h5];refine fK O (ac3 0 (aG.rd 0 O) O (aH (XJ A n c rs xss _ _ (aG.bE hR) hM O) O ?_));rintro _ w5 ⟨B,cB,iN,rfl,GF,kP⟩;have aQ:=aR.call kP;refine eH aQ O fun A7 w6 a6=>bR 1 0 a6 O O O O O O O ?_;intro w7 a7;have a7:St w w7 (Bx 37 1 A7 [.slice B n cB]::(aK 24 2 B n cB iN (gO (gl xss 0).length xss)++ (aV 37 A5 ms.length c5 (ms.map (·.top))::dv 24 2 ms))):=a7;refine az O ?_;refine Cd.loop (α:=Nat) (fun i=> [(5,.slice A5 ms.length c5),(7,.pointer A7),(8,aj i)]) (fun i w'=>St w w' (Bx 37 1 A7 [.slice B n cB]::(aK 24 2 B n cB iN (gO (gl xss 0).length xss)++ (aV 37 A5 ms.length c5 (ms.map (·.top))::dv 24 2 ms)))/\i<=ms.length/\∀j,j<i->(gz xss)[j]?≠some (gO (gl xss 0).length xss)) (fun i=>ms.length - i) 0 (ac4 O) ⟨a7,bA _,fun j hj=>by omega⟩ ?_;rintro i e w8 ⟨hS,hi,eC⟩;refine aY O (aZ O O (az O ?_));refine aM _ O (fun h4=>?_) (fun h4=>?_)
 ·have di:i<ms.length:=by omega
  have nQ:=hS.HU (A:=A5) (c:=c5) bq ((dD _ _).trans (List.sublist_cons_self _ _));have TO:bl w8 B n iN (gO (gl xss 0).length xss):=hS.oh (c:=cB) (t1:=24) (t2:=2) ((kY _ _).trans (List.sublist_cons_self _ _)) lq;have qv:=hS.rd 0 O;have ha:=nQ.at_ di;have gf:(rg (ms.map (·.top)) i).n<=9223372036854775807:=by
   have h1:=ha.len;have h2:=pX _ (dd di);omega
  have z8:(gz xss)[i]?=some ms[i].xss:=by rw [<-hL,List.getElem?_map,dL di];rfl
  refine cH O (dK [xS (A5) (ms.length) (c5),xI ((i:Int)),xP (aF (A5) ((i:Int)).toNat),.ex (.agg #[.slice (rg (ms.map (·.top)) ((i:Int))).a (rg (ms.map (·.top)) ((i:Int))).n (rg (ms.map (·.top)) ((i:Int))).c]),.ex (.agg #[.slice (B) (n) (cB)]),xB (decide (ms[i].xss=gO (gl xss 0).length xss))] O (eo O) ?_ ?_)
  ·refine⟨Dr O,Dr O,fun _ _ hb _ _=>ay (nQ.top.aq hb).2 O Az,fun _ _ hb _ _=>oz (nQ.top.aq hb) O (by omega) O Az,fun _ _ hb _ _=>ac3 0 (qv.below hb) O Az,?_,au⟩;intro e1 w1 hb hp aX;refine aH (Np _ _ _ _ _ _ _ _ _ _ _ (ha.aq hb) (TO.aq hb) gf) O ?_;rintro _ w2 ⟨rfl,aA⟩;refine ak.n ?_;exact eA.dn aA.below (by exact O)
  intro u2 w9 vH _;have aW:=hS.aq vH;refine fw O (aM _ O (fun h6=>?_) (fun h6=>?_))
  ·have e1:eR xss=i:=Cs (by rw [z8,h6]) eC;refine cE O (de (cT ?_));refine D2 O O O ?_;exact⟨A5,c5,ms,by rw [e1,nS.k0],hL,bq,aW.sub ((dD _ _).trans (List.sublist_cons_self _ _))⟩
  refine aD O (aL O (aU O (tQ ?_)));refine⟨i+1,by omega,(ac4 O),aW,by omega,fun j hj=>?_⟩
  by_cases ej:j=i
  ·subst ej;rw [z8];exact fun h=>h6 (bC h)
  exact eC j (by omega)
 exfalso;obtain⟨j,hj,e⟩:=gu.1 nS.mem;exact eC j (by omega) (by rw [dL hj,e])
theorem Zb(A:ai)(n c:Nat)(rs:List aO)(xss:Mx)(Pf B:ai)(n' cB:Nat)(iN:List aO)(bb:Mx)(w:aa)(hX:bl w A n rs xss)(hB:Rd w Pf 1 (fun _=> .slice B n' cB))(hY:bl w B n' iN bb)(hn:n<=9223372036854775807):
 aE prog 170 [.agg #[.slice A n c],.pointer Pf] w (fun v w'=>v= .bool (decide (xss=bb))/\St w w' []):=by
 refine bm func170 O ntmps170 O (bU O) (aY O (fD (St.refl w) O O ?_));intro Ab w1 aB;refine ao O (ac3 0 (aB.rd 0 O) O (ac3 0 (hB.below aB.below) O (aH (OE A n c rs xss B n' cB iN bb _ (aB.bE hX) (aB.bE hY) hn) O ?_)));rintro _ w2 ⟨rfl,aA⟩;refine bu O (bQ O ?_);exact⟨O,(aB.aq aA.below).none⟩
theorem Ob(A:ai)(n c:Nat)(rs:List aO)(xss:Mx)(w:aa)(hR:bl w A n rs xss)(ku:n<=c)(hc:c<=9223372036854775807):
 aE prog 96 [.agg #[.slice A n c]] w (fun v w'=>∃A5 c5 ms,v= .tuple #[.slice A5 ms.length c5,aj (eR xss:Nat),aj (l6 xss)]/\oA xss w A5 c5 ms w'):=by
 have bP:=hR.len;have r0:0<n->(rg rs 0).n=(gl xss 0).length:=fun h=> (hR.jh (by omega) (by omega)).symm
 refine bm func96 O ntmps96 O (Oh O) (aY O (fD (St.refl w) O O ?_));intro Ab w1 aB;refine ao O (ac3 0 (aB.rd 0 O) O (aH (AO A n c rs xss _ (aB.bE hR) ku hc) O ?_));rintro _ w2 ⟨rfl,pZ⟩;have aw:=aB.aq pZ.below
 first | refine dM rfl rfl ?_ | refine eI rfl rfl ?_
 refine az O (aM _ O (fun h1=>?_) (fun h1=>?_))
 ·have hp:¬gv xss:=fun h=>h1 h.1
  refine cE O (Ic O O O ?_);exact⟨none,0,[],by rw [wi hp,l6,aJ h1];rfl,oA.none hp aw⟩
 have hM:bj xss:=gC.1 h1;have FR:=hM.1;have TQ:=hM.2.1;have r0:=r0 (by omega);refine aD O (aH (uS Ab A n c _ _ (aw.rd 0 O) O) O ?_);rintro _ w2 ⟨rfl,rfl⟩;refine aH (nN Ab A n c rs xss _ _ (aw.rd 0 O) O (aw.bE hR) (by omega)) O ?_;rintro _ w2 ⟨rfl,rfl⟩;rw [r0,<-bP];refine aH (Hs (xss.length:Nat) ((gl xss 0).length:Nat) _) O ?_;rintro _ w2 ⟨rfl,rfl⟩
 first | refine dM rfl rfl ?_ | refine eI rfl rfl ?_
 refine az O (aM _ O (fun h2=>?_) (fun h2=>?_))
 ·have hp:¬gv xss:=fun h=>h2 h.small
  refine cE O (Ic O O O ?_);exact⟨none,0,[],by rw [wi hp,l6,aC (fun h=>h hM),aC hp];rfl,oA.none hp aw⟩
 have pX:=gC.1 h2;have nS:gv xss:=⟨hM,by have:=pX.1;omega,by have:=pX.2;omega⟩;refine aD O ?_;refine aH (uS Ab A xss.length c _ _ (aw.rd 0 O) (by rw [bP];rfl)) O ?_;rintro _ w2 ⟨rfl,rfl⟩;refine aH (nN Ab A n c rs xss _ _ (aw.rd 0 O) O (aw.bE hR) (by omega)) O ?_;rintro _ w2 ⟨rfl,rfl⟩;rw [r0];refine aH (BX (xss.length:Nat) ((gl xss 0).length:Nat) _) O ?_;rintro _ w3 ⟨A5,c5,ms,rfl,hL,bq,tf⟩;have mN:ms.length=(gz xss).length:=by rw [<-nS.eh,<-hL,fQ]
 have GI:ms.length<=4000000000000:=by rw [mN,<-nS.eh];exact Bd _ _
 rw [nS.eh]at hL;have V8:∀m∈ms,m.xss.length<=4:=fun m hm=> (HN (rank:=(xss.length:Nat)) (flags:=((gl xss 0).length:Nat)) (by rw [nS.eh,<-hL];exact List.mem_map_of_mem (f:=(·.xss)) hm)).2.2.2.1
 have lq:(gO (gl xss 0).length xss).length=n:=by rw [HF,bP]
 have aI:=(aw.call tf).perm fb;refine ao O (ac3 0 (aI.rd 0 O) O (aH (NA A n c rs xss _ _ (aI.bE hR) hM O) O ?_));rintro _ w4 ⟨B,cB,iN,rfl,GF,oT⟩;have aG:=aI.call oT;refine eH aG O fun A7 w5 aR=>bR 1 0 aR O O O O O O O ?_;intro w6 aQ;have aQ:St w w6 (Bx 37 1 A7 [.slice B n cB]::(aK 24 2 B n cB iN (gO (gl xss 0).length xss)++ (Bx 37 1 Ab [.slice A n c]::aV 37 A5 ms.length c5 (ms.map (·.top))::dv 24 2 ms))):=aQ;have nQ:=aQ.HU (A:=A5) (c:=c5) bq (((List.sublist_cons_self _ _).trans (dD _ _)).trans (List.sublist_cons_self _ _));have FQ:bl w6 B n iN (gO (gl xss 0).length xss):=aQ.oh (c:=cB) (t1:=24) (t2:=2) ((kY _ _).trans (List.sublist_cons_self _ _)) lq;have qv:Rd w6 A7 1 (fun _=> .slice B n cB):=Rd.first (aQ.rd 0 O);refine ao O (I6 O O ?_);refine aH (WL A5 ms.length c5 (ms.map (·.top)) 170 (.pointer A7) (fun j=>decide ((gz xss)[j]?=some (gO (gl xss 0).length xss))) _ nQ.top GI (fun w' j hb hj=>?_)) O ?_
 ·have ha:=nQ.at_ hj;have gf:(rg (ms.map (·.top)) j).n<=9223372036854775807:=by
   have h1:=ha.len;have h2:=V8 _ (dd hj);omega
  refine(Zb _ _ _ _ ms[j].xss A7 B n cB iN (gO (gl xss 0).length xss) w' (ha.aq hb) (qv.below hb) (FQ.aq hb) gf).mono ?_;rintro v iq ⟨rfl,aA⟩;refine⟨?_,aA⟩;have z8:(gz xss)[j]?=some ms[j].xss:=by rw [<-hL,List.getElem?_map,dL hj];rfl
  congr 1
  rw [kc,z8];exact⟨fun h=>by rw [h],fun h=>bC h⟩
 rintro _ w7 ⟨⟨i,rfl,hi⟩,tg⟩;have a6:=aQ.aq tg.below;have hi:i=(eR xss:Nat):=by
  rcases hi with⟨_,eC⟩ | ⟨k,hk,rfl,x7,eC⟩
  ·exfalso;obtain⟨j,hj,e⟩:=gu.1 nS.mem;exact of_decide_eq_false (eC j (by omega)) (by rw [dL hj,e])
  rw [show eR xss=k from Cs (mT x7) (fun j hj=>of_decide_eq_false (eC j hj))]
 subst hi;refine bu O (Ic O O O ?_);exact⟨A5,c5,ms,by rw [nS.k0],hL,bq,a6.sub (((List.sublist_cons_self _ _).trans (dD _ _)).trans (List.sublist_cons_self _ _))⟩
theorem Z6(A:ai)(n c:Nat)(rs:List aO)(xss:Mx)(w:aa)(hR:bl w A n rs xss)(hn:n<=9223372036854775807):
 aE prog 47 [.agg #[.slice A n c]] w (fun v w'=>v= .tuple #[aj (eR xss:Nat),aj (l6 xss)]/\St w w' []):=by
 refine bm func47 O ntmps47 O (my O) (aY O (fD (St.refl w) O O ?_));intro Ab w1 aB;refine ao O (ac3 0 (aB.rd 0 O) O (aH (X6 A n c rs xss _ (aB.bE hR) hn) O ?_));rintro _ w2 ⟨A5,c5,ms,rfl,_,_,aA⟩;refine bu O (Br O O ?_);exact⟨O,(aB.call aA).none⟩
theorem MZ(A:ai)(n c:Nat)(rs:List aO)(xss:Mx)(w:aa)(hR:bl w A n rs xss)(ku:n<=c)(hc:c<=9223372036854775807):
 aE prog 46 [.agg #[.slice A n c]] w (fun v w'=>v= .tuple #[aj (eR xss:Nat),aj (l6 xss)]/\St w w' []):=by
 refine bm func46 O ntmps46 O (my O) (aY O (fD (St.refl w) O O ?_));intro Ab w1 aB;refine ao O (ac3 0 (aB.rd 0 O) O (aH (Ob A n c rs xss _ (aB.bE hR) ku hc) O ?_));rintro _ w2 ⟨A5,c5,ms,rfl,_,_,aA⟩;refine bu O (Br O O ?_);exact⟨O,(aB.call aA).none⟩
def qM(xss:Mx):Int:=if ¬l6 xss=0 then l6 xss else if eR xss+1=(gz xss).length then 4 else 0
def oi(xss:Mx):Mx:=if ¬l6 xss=0 then []else(gz xss).getD (eR xss+1) []
theorem Od{xss:Mx}(h:l6 xss=0):gv xss:=kV fun hn=>by
 unfold l6 at h;rw [aC hn]at h
 split at h<;>omega
theorem H0(xss:Mx):(gz xss).length<=4000000000000:=by
 by_cases h:gv xss
 ·rw [<-h.eh];exact Bd _ _
 rw [gz,aC h];exact bA _
theorem Za(xss:Mx):eR xss<=4000000000000:=by
 by_cases h:gv xss
 ·have h1:=zk h.mem;have h2:=H0 xss;unfold eR;omega
 rw [wi h];exact bA _
theorem WI(A:ai)(n c:Nat)(rs:List aO)(xss:Mx)(w:aa)(hR:bl w A n rs xss)(ku:n<=c)(hc:c<=9223372036854775807):
 aE prog 50 [.agg #[.slice A n c]] w (qW (oi xss) (qM xss) w):=by
 have GI:=H0 xss;have z8:=Za xss;refine bm func50 O ntmps50 O (uQ O O) (aY O (fD (St.refl w) O O ?_));intro Ab w1 aB;refine eH aB O fun A2 w2 aw=>ao O (ac3 0 (aw.rd 1 O) O (aH (Ob A n c rs xss _ (aw.bE hR) ku hc) O ?_));rintro _ w3 ⟨A5,c5,ms,rfl,hL,bq,aA⟩;have mN:ms.length=(gz xss).length:=by rw [<-hL,fQ]
 have aI:=(aw.call aA).perm fb;refine az O (aM _ O (fun h1=>?_) (fun h1=>?_))
 ·refine aD O (re (by exact inferInstance) O (ao O (bR 1 0 aI O O O O O O O ?_)));intro w4 aG;refine bu O (mz O (aG.rd 0 O) O ?_);rw [oi,qM,aJ h1,aJ h1];exact qW.none aG
 have h0:l6 xss=0:=gC.1 h1;have nS:=Od h0;have cI:eR xss<ms.length:=by rw [mN];exact zk nS.mem
 refine aD O (aL O (ao O ?_));refine aH (Iq _ _ _ _) O ?_;rintro _ w3 ⟨rfl,rfl⟩;refine az O (aM _ O (fun h2=>?_) (fun h2=>?_))
 ·refine aD O (re (by exact inferInstance) O (bR 1 0 aI O O O O O O O ?_));intro w4 aG;refine bu O (mz O (aG.rd 0 O) O ?_);have e1:qM xss=4:=by rw [qM,aC h1,aJ (by omega)]
  have e2:oi xss=[]:=by rw [oi,aC h1,df,mD (by omega)];rfl
  rw [e1,e2];exact qW.none aG
 have rL:eR xss+1<ms.length:=by omega
 have oH:=aI.eG 2 O;have ht:=wF rL;refine aD O (aL O ?_);refine ay oH.2 O (oz oH O (by omega) O ?_);rw [show((eR xss:Nat):Int)+1=((eR xss+1:Nat):Int) by omega,ht];refine bR 1 0 aI O O O O O O O fun w4 aG=>bu O (mz O (aG.rd 0 O) O ?_);have ho:=bq _ (dd rL);have qF:(ms[eR xss+1].fc 24 2).Sublist (Bx 37 1 A2 [.slice ms[eR xss+1].top.a ms[eR xss+1].top.n ms[eR xss+1].top.c]::Bx 37 1 Ab [.slice A n c]::aV 37 A5 ms.length c5 (ms.map (·.top))::dv 24 2 ms):=(((sn (dd rL)).trans (List.sublist_cons_self _ _)).trans (List.sublist_cons_self _ _)).trans (List.sublist_cons_self _ _);have bO:=aG.Oy qF;have hX:=aG.sub qF;have e1:qM xss=0:=by rw [qM,aC h1,aC (by omega)]
 have e2:oi xss=ms[eR xss+1].xss:=by rw [oi,aC h1,<-hL,df,List.getElem?_map,dL rL];rfl
 rw [e1,e2];unfold cq.ok at ho;refine⟨ms[eR xss+1].top.a,ms[eR xss+1].top.c,ms[eR xss+1].rs,?_,by rw [bO,ho],?_⟩
 ·rw [ho];rfl
 rw [ho];exact hX
end Go.Proofs.YtagdamiiececaaaGreatDoor.Vc
namespace Go.Proofs.YtagdamiiececaaaGreatDoor.Vc
open Tryz
end Go.Proofs.YtagdamiiececaaaGreatDoor.Vc
namespace Go.Proofs.YtagdamiiececaaaGreatDoor.Vc
open Go.RowKit Tryz
structure CE where
 s:aO
 xs:ah
 v:Int
def aaQ(e:CE):CV:=⟨e.s,e.v⟩
def aaP(t:ad)(e:CE):Ck:=ax t e.s.a e.s.n e.s.c e.xs
def CE.pr(e:CE):ah×Int:=(e.xs,e.v)
section
variable {w0 w:aa} {ks:List Ck} {A:ai} {q:Nat} {es:List CE}
end
theorem YT{α β:Type}{f:α->List β}{l:List α}(h1:∀a∈l,(f a).Nodup)(h2:l.Pairwise fun a b=>∀x∈f a,∀y∈f b,x≠y):(l.flatMap f).Nodup:=by
 rw [List.nodup_iff_pairwise_ne,List.pairwise_flatMap];exact⟨fun a ha=>List.nodup_iff_pairwise_ne.1 (h1 a ha),h2⟩
theorem Fz{n F:Nat}{ok:ag->Nat->Nat->Bool}{fin:ag->Bool}:∀(k at_ met:Nat) (M:ag),Inv n F M met at_->(grow n F ok fin k at_ met M).Nodup
 | 0,_,_,_,_=>by simp [grow]
 | k+1,at_,met,M,h=>by
  simp only [grow]
  split
  ·split
   ·simp
   ·simp
  ·rename_i ha
   split
   ·rename_i hk;exact Fz k _ _ _ (h.next ha hk)
   ·rename_i hk;have hb:∀g∈List.range' (at_ / n+1) (min met (F - 1) - at_ / n),∀L∈(if 0<=cell M (at_%n) (g:Nat)then []else if ok (put M (at_%n) (at_ / n) g) (at_%n) (at_ / n)=true then grow n F ok fin k (at_+1) (max met (g+1)) (put M (at_%n) (at_ / n) g)else []),cell L (at_%n) ((at_ / n:Nat):Int)=(g:Int):=by
     intro g hg L hL;obtain⟨h1,h2,h3⟩:=wk h ha hg
     split at hL
     ·cases hL
     ·rename_i jD
      split at hL
      ·have hI:=h.put ha hk h1 h2 h3 jD;obtain⟨hE,_⟩:=sJ _ _ _ _ hI L hL;have hp:=h.pos ha;have xV:=h.kz;have e1:cell (put M (at_%n) (at_ / n) g) (at_%n) ((at_ / n:Nat):Int)=(g:Int):=by
        rw [vb h.dz hp.1 (by omega) h3 (Int.natCast_nonneg _),aC (fun e=>by have:=e.2;omega),aJ ⟨rfl,rfl⟩]
       rw [hE _ _ hp.1 (Int.natCast_nonneg _) (by omega) (by rw [e1];exact Int.natCast_nonneg _),e1]
      ·cases hL
    refine YT (fun g hg=>?_) ?_
    ·obtain⟨h1,h2,h3⟩:=wk h ha hg
     split
     ·simp
     ·rename_i jD
      split
      ·exact Fz k _ _ _ (h.put ha hk h1 h2 h3 jD)
      ·simp
    ·have hn:(List.range' (at_ / n+1) (min met (F - 1) - at_ / n)).Nodup:=List.nodup_range';refine List.Pairwise.imp_of_mem (fun {a b} F9 kr jn x hx y hy e=>?_) (List.nodup_iff_pairwise_ne.1 hn);subst e;have e1:=hb a F9 x hx;have e2:=hb b kr x hy;rw [e1]at e2;exact jn (by omega)
theorem SB{n F:Nat}(hn:0<n)(hF:0<F):(pv n F).Nodup:=List.Nodup.sublist List.filter_sublist (Fz _ _ _ _ (Inv.blank hn hF))
theorem Yu{n F:Nat}(hn:0<n)(hF:0<F):(od n F).Nodup:=(DT _).nodup_iff.2 (List.Nodup.sublist List.filter_sublist (SB hn hF))
section
variable {N:Nat} {xss:Mx} {f:Int}
end
theorem NM{rank flags:Int}(hs:Small rank flags){i:Nat}(hi:i< (eh rank flags).length):gv (eh rank flags)[i]/\gO flags.toNat (eh rank flags)[i]=(eh rank flags)[i]/\eR (eh rank flags)[i]=i/\(gl (eh rank flags)[i] 0).length=flags.toNat:=by
 have h1:=hs.1;have h2:=hs.2;have hn:0<rank.toNat:=by omega
 have hF:0<flags.toNat:=by omega
 have hm:(eh rank flags)[i]∈eh rank flags:=dd _;generalize hL:(eh rank flags)[i]=L at*;have ic:=hm;rw [eh,aJ hs]at ic;obtain⟨a1,a2⟩:=DK.1 ic;obtain⟨a3,a4⟩:=zi hn hF a1;have e0:(gl L 0).length=flags.toNat:=a4.dz.row (i:=0) hn;have e1:gO flags.toNat L=L:=(N8 hn hF a1).2 a2;have hP:gv L:=⟨a3,by rw [a4.dz.1];omega,by rw [e0];omega⟩;refine⟨hP,e1,?_,e0⟩;rw [eR,e0,e1];have e2:gz L=eh rank flags:=by
  rw [<-hP.eh,e0,a4.dz.1,Int.toNat_of_nonneg (by omega),Int.toNat_of_nonneg (by omega)]
 rw [e2];have rO:(eh rank flags).Nodup:=by rw [eh,aJ hs];exact Yu hn hF
 refine Cs (by rw [dL hi,hL]) fun j hj e=>?_
 rw [dL (by omega)]at e;have e:=bC e;rw [<-hL]at e;have:=(List.getElem_inj (h₀:=by omega) (h₁:=hi) rO).1 e;omega
theorem QW(Ac:ai)(nc cc:Nat)(w:aa):aE prog 7 [.slice Ac nc cc] w (fun v w'=>v= .bool (decide (4096< (nc:Int)))/\St w w' []):=by
 refine bm func7 O ntmps7 O (bU O) ?_;refine aY O (aZ O O (bu O ?_));exact bQ O ⟨O,St.refl w⟩
theorem Ys(A:ai)(n c:Nat)(xs:ah)(B:ai)(m cB:Nat)(ys:ah)(w:aa)(hX:cd w A n xs)(hY:cd w B m ys)(hn:n<=9223372036854775806):
 aE prog 21 [.slice A n c,.slice B m cB] w (fun v w'=>v= .bool (decide (xs=ys))/\St w w' []):=by
 have bP:=hX.1;have mw:=hY.1;refine bm func21 O ntmps21 O (bU O) ?_;refine aY O (aZ O O (ao O (aZ O O (az O ?_))));refine aM _ O (fun h1=>?_) (fun h1=>?_)
 ·have b9:xs≠ys:=fun e=>h1 (by rw [<-bP,<-mw,e])
  refine cE O (bQ O ?_);exact⟨by rw [dq b9],St.refl w⟩
 have GQ:n=m:=by omega
 subst GQ;refine cH O (Cd.loop (α:=Nat) (fun i=> [(0,.slice A n c),(1,.slice B n cB),(5,aj i)]) (fun i w'=>St w w' []/\i<=n/\∀j,j<i->xs[j]?=ys[j]?) (fun i=>n - i) 0 (ac4 O) ⟨St.refl w,bA _,fun j hj=>absurd hj (oy _)⟩ ?_);rintro i e w1 ⟨aB,hi,hj⟩;have uh:=aB.dY hX;have sS:=aB.dY hY;refine aY O (aZ O O (az O ?_));refine aM _ O (fun h2=>?_) (fun h2=>?_)
 ·refine cH O (dK [xS (A) (n) (c),xI ((i:Int)),xP (aF (A) ((i:Int)).toNat),xI (gi (xs) ((i:Int))),xS (B) (n) (cB),xI ((i:Int)),xP (aF (B) ((i:Int)).toNat),xI (gi (ys) ((i:Int))),xB (decide (¬(gi (xs) ((i:Int)))=(gi (ys) ((i:Int)))))] O (eo O) ?_ ?_)
  ·exact⟨Dr O,Dr O,fun _ _ hb _ _=>ay (uh.aq hb).2 O Az,fun _ _ hb _ _=>bc (uh.aq hb) O Az,Dr O,Dr O,fun _ _ hb _ _=>ay (sS.aq hb).2 O Az,fun _ _ hb _ _=>bc (sS.aq hb) O Az,Dr O,au⟩
  intro u w2 gj _;have aw:=aB.aq gj;refine fw O (aM _ O (fun h3=>?_) (fun h3=>?_))
  ·have b9:xs≠ys:=fun e=>h3 (by rw [e])
   refine cE O (de (cT ?_));refine bQ O ?_;exact⟨by rw [dq b9],aw⟩
  have h3:=Decidable.not_not.1 h3;rw [bN (by omega),bN (by omega)]at h3;refine aD O (aL O (aU O (tQ ?_)));refine⟨i+1,by show n - (i+1)<n - i;omega,(ac4 O),aw,by omega,fun j fI=>?_⟩
  by_cases e:j=i
  ·subst e;rw [dL (by omega),dL (by omega),h3]
  exact hj j (by omega)
 have he:xs=ys:=List.ext_getElem? fun j=>by
  by_cases rJ:j<n
  ·exact hj j (by omega)
  rw [mD (by omega),mD (by omega)]
 refine bo O (bp (e6 O ?_));refine bQ O ?_;exact⟨by rw [fo he],aB⟩
theorem ZV(A:ai)(n c:Nat)(rs:List aO)(xss:ag)(B:ai)(m cB:Nat)(rs':List aO)(bb:ag)(w:aa)(hX:bl w A n rs xss)(hY:bl w B m rs' bb)(hn:n<=9223372036854775806)(hr:∀x∈xss,x.length<=9223372036854775806):
 aE prog 101 [.slice A n c,.slice B m cB] w (fun v w'=>v= .bool (decide (xss=bb))/\St w w' []):=by
 have bP:=hX.len;have mw:=hY.len;refine bm func101 O ntmps101 O (bU O) ?_;refine aY O (aZ O O (ao O (aZ O O (az O ?_))));refine aM _ O (fun h1=>?_) (fun h1=>?_)
 ·have b9:xss≠bb:=fun e=>h1 (by rw [<-bP,<-mw,e])
  refine cE O (bQ O ?_);exact⟨by rw [dq b9],St.refl w⟩
 have GQ:n=m:=by omega
 subst GQ;refine cH O (Cd.loop (α:=Nat) (fun i=> [(0,.slice A n c),(1,.slice B n cB),(5,aj i)]) (fun i w'=>St w w' []/\i<=n/\∀j,j<i->xss[j]?=bb[j]?) (fun i=>n - i) 0 (ac4 O) ⟨St.refl w,bA _,fun j hj=>absurd hj (oy _)⟩ ?_);rintro i e w1 ⟨aB,hi,hj⟩;have uh:=aB.bE hX;have sS:=aB.bE hY;refine aY O (aZ O O (az O ?_));refine aM _ O (fun h2=>?_) (fun h2=>?_)
 ·have lY:=uh.at_ (i:=(i:Int)) (by omega) (by omega);have Ww:=sS.at_ (i:=(i:Int)) (by omega) (by omega);have fN:(rg rs i).n<=9223372036854775806:=by
   rw [<-lY.1,cM (by omega)];exact hr _ (dd _)
  refine cH O (dK [xS (A) (n) (c),xI ((i:Int)),xP (aF (A) ((i:Int)).toNat),xS ((rg (rs) ((i:Int))).a) ((rg (rs) ((i:Int))).n) ((rg (rs) ((i:Int))).c),xS (B) (n) (cB),xI ((i:Int)),xP (aF (B) ((i:Int)).toNat),xS ((rg (rs') ((i:Int))).a) ((rg (rs') ((i:Int))).n) ((rg (rs') ((i:Int))).c),xB (decide (gl xss i=gl bb i)),xB (decide (¬(gl xss i=gl bb i)))] O (eo O) ?_ ?_)
  ·refine⟨Dr O,Dr O,fun _ _ hb _ _=>ay (uh.top.aq hb).2 O Az,fun _ _ hb _ _=>bB (uh.top.aq hb) O Az,Dr O,Dr O,fun _ _ hb _ _=>ay (sS.top.aq hb).2 O Az,fun _ _ hb _ _=>bB (sS.top.aq hb) O Az,?_,fun _ _ _ _ _=>dM O O Az,au⟩;intro e1 w1 hb hp aX;refine aH (Ys _ _ _ _ _ _ _ _ _ (lY.aq hb) (Ww.aq hb) fN) O ?_;rintro _ w2 ⟨rfl,aA⟩;refine ak.n ?_;exact eA.dn aA.below (by exact O)
  intro u w2 gj _;have aw:=aB.aq gj;refine fw O (aM _ O (fun h3=>?_) (fun h3=>?_))
  ·have b9:xss≠bb:=fun e=>h3 (by rw [e])
   refine cE O (de (cT ?_));refine bQ O ?_;exact⟨by rw [dq b9],aw⟩
  have h3:=Decidable.not_not.1 h3;rw [cM (by omega),cM (by omega)]at h3;refine aD O (aL O (aU O (tQ ?_)));refine⟨i+1,by show n - (i+1)<n - i;omega,(ac4 O),aw,by omega,fun j fI=>?_⟩
  by_cases e:j=i
  ·subst e;rw [dL (by omega),dL (by omega),h3]
  exact hj j (by omega)
 have he:xss=bb:=List.ext_getElem? fun j=>by
  by_cases rJ:j<n
  ·exact hj j (by omega)
  rw [mD (by omega),mD (by omega)]
 refine bo O (bp (e6 O ?_));refine bQ O ?_;exact⟨by rw [fo he],aB⟩
theorem R6(A:ai)(n c:Nat)(rs:List aO)(xss:ag)(B:ai)(m cB:Nat)(rs':List aO)(bb:ag)(w:aa)(hX:bl w A n rs xss)(hY:bl w B m rs' bb)(hn:n<=9223372036854775806)(hr:∀x∈xss,x.length<=9223372036854775806):
 aE prog 53 [.agg #[.slice A n c],.agg #[.slice B m cB]] w (fun v w'=>v= .bool (decide (xss=bb))/\St w w' []):=by
 refine bm func53 O ntmps53 O (bU O) (aY O (fD (St.refl w) O O ?_));intro A1 w1 aB;refine fD aB O O fun A2 w2 aw=>ao O (aS (aw.rd 1 O) O (a8 (aw.rd 1 O) O (aS (aw.rd 0 O) O (a8 (aw.rd 0 O) O (aH (ZV A n c rs xss B m cB rs' bb _ (aw.bE hX) (aw.bE hY) hn hr) O ?_)))));rintro _ w3 ⟨rfl,aA⟩;refine bu O (bQ O ?_);exact⟨O,(aw.aq aA.below).none⟩
end Go.Proofs.YtagdamiiececaaaGreatDoor.Vc
namespace Go.Proofs.YtagdamiiececaaaGreatDoor.Vc.TS
open Go.RowKit Tryz
def gs(l:List TV)(i:Nat):TV:=l.getD i aac
def iB(a m b:Nat):Nat:=if(a+b) / 2<m then(a+b) / 2 else m
end Go.Proofs.YtagdamiiececaaaGreatDoor.Vc.TS
namespace Go.Proofs.YtagdamiiececaaaGreatDoor.Vc
open TS Tryz
def IU(m1 m2:Nat)(kind:Int)(a b:Int):Prop:=
 if kind=1 then(a=0\/b=0\/(a=(m1:Int) - 1/\b=(m2:Int) - 1))else if kind=2 then(a=(m1:Int) - 1\/b=(m2:Int) - 1\/(a=0/\b=0))else((a=0/\b=0)\/(a=(m1:Int) - 1/\b=(m2:Int) - 1))
instance (m1 m2:Nat)(kind a b:Int):Decidable (IU m1 m2 kind a b):=by unfold IU;infer_instance
section
variable {m1 m2:Nat} {kind:Int} {n1 n2:Int} {Bs Bt:Int->Int} {BG wH:Int->Int->Prop}
end
end Go.Proofs.YtagdamiiececaaaGreatDoor.Vc
namespace Go.Proofs.YtagdamiiececaaaGreatDoor.Vc
open Tryz
section
variable {m1 m2:Nat} {n1 n2:Int} {Bs Bt:Int->Int} {BG wH:Int->Int->Prop} [DecidableRel BG] [DecidableRel wH] {kind:Int}
end
section
variable {n:Nat} {fl:ag} {i f:Nat} {L:List (ByteArray×Int)}
end
section
variable {n:Nat} {fl:ag}
end
section
variable {n:Nat} {R:ah} {B:ag}
end
theorem J7{M:ag}(hM:bj M){i:Nat}{f g:Int}(h0:0<=f)(h1:f< (gl M 0).length)(h:Reach (M.eraseIdx i) f g):gi (dI M i) f=gi (dI M i) g:=
 HD (hM.2.2.1.sys.erase i) (hM.2.2.1.inj.erase i) h0 h1 h _ (dE _)
structure EA(n:Nat)(R:ah)(B:ag):Prop where
 pos:jP n R B
 Ze:EB n R B
 n5:n<=5
 few:(dF n R B).length<=400
section
variable {n:Nat} {R:ah} {B:ag}
theorem EA.nb(h:EA n R B):yH n (dF n R B):=Sn h.pos h.Ze.2.2.1
end
section
variable {n:Nat} {R:ah} {B:ag}
def jl(n:Nat)(M:ag)(a:Nat):ah:=(List.range n).map fun i=>dm M i a
theorem mI{M:ag}{a i:Nat}(hi:i<n):gi (jl n M a) i=dm M i a:=by
 unfold jl;rw [bN (by simpa using hi),List.getElem_map,List.getElem_range]
end
section
variable{b:Nat}
variable {M:ag}
theorem ry{i a:Nat}:dm M i a=dm M i b↔gi (dI M i) a=gi (dI M i) b:=by
 unfold dm;omega
theorem pw(hM:bj M){i a:Nat}(hi:i<M.length)(ha:a< (gl M 0).length):(0<=dm M i a/\dm M i a< (cb M M.length:Int))/\gi (dJ M M.length) (dm M i a)=i:=by
 have h1:=tT hM (i:=i) ha;have h2:=uN M (show i+1<=M.length by omega);exact⟨by omega,Fl hi h1.1 h1.2⟩
theorem Fk(hM:bj M){e:Int}(h0:0<=e)(h1:e< (cb M M.length:Int)):∃i a:Nat,i<M.length/\a< (gl M 0).length/\e=dm M i a:=by
 obtain⟨i,hi,h2,h3⟩:=SJ h0 h1;have h4:cb M (i+1)=cb M i+ (gq M i).toNat:=O;have h5:=tP M i;obtain⟨a,ha,e1⟩:=Ci hM i (e - cb M i) (by omega) (by omega);exact⟨i,a,hi,ha,by unfold dm;omega⟩
theorem tR(hM:bj M){y:ah}:y∈eJ M↔∃a:Nat,a< (gl M 0).length/\y=jl M.length M a:=by
 have hn:=hM.1;unfold eJ;rw [vi hn.1];constructor
 ·rintro⟨hl,hr,hc⟩;have key:∀i:Nat,i<M.length->∃a:Nat,a< (gl M 0).length/\∀k:Nat,k<=i->gi y k=dm M k a:=by
   intro i
   induction i with
   | zero=>
    intro hi;have h1:=hr 0 hi;rw [nj]at h1;obtain⟨j,a,hj,ha,e⟩:=Fk hM h1.1.1 h1.1.2;have h2:=(pw hM hj ha).2;rw [<-e,h1.2]at h2;obtain rfl:j=0:=by omega
    exact⟨a,ha,fun k hk=>by obtain rfl:k=0:=(by omega);exact e⟩
   | succ i ih=>
    intro hi;obtain⟨a,ha,hk⟩:=ih (by omega);have h1:=hr (i+1) hi;have h0:=hr i (by omega);rw [nj]at h1 h0;have hm:=hc i hi;rw [tS h1.1.1 h1.1.2]at hm;obtain⟨_,f,hf,j,hj,l,rK,e1,e2⟩:=hm;have r1:=(pw hM hj hf).2;have r2:=(pw hM (show l<M.length by omega) hf).2;rw [<-e1,h1.2]at r1;rw [<-e2,h0.2]at r2;obtain rfl:j=i+1:=by omega
    obtain rfl:l=i:=by omega
    have e3:gi (dI M l) a=gi (dI M l) f:=ry.1 (by rw [<-hk l (dE _),e2]);obtain⟨u,hu,eY,dQ⟩:=ON hM (j:=l) (f:=(a:Int)) (by omega) (by omega) (Cl hM (by omega) (by omega) (by omega) (by omega) e3);obtain⟨b,rfl⟩:∃b:Nat,u=b:=⟨u.toNat,by omega⟩;refine⟨b,by omega,fun k gM=>?_⟩
    by_cases Mb:k<=l
    ·rw [hk k Mb];exact ry.2 (eY k Mb).symm
    ·obtain rfl:k=l+1:=by omega
     rw [e1];exact ry.2 (dQ (l+1) (by omega)).symm
  obtain⟨a,ha,h⟩:=key (M.length - 1) (by omega);refine⟨a,ha,Bc (n:=M.length) hl (by simp [jl]) fun i hi=>?_⟩;rw [mI hi];exact h i (by omega)
 ·rintro⟨a,ha,rfl⟩;refine⟨by simp [jl],fun i hi=>?_,fun i hi=>?_⟩
  ·rw [mI hi,nj];exact pw hM hi ha
  ·rw [mI (show i<M.length by omega),mI hi];have h1:=pw hM hi ha;have h2:=pw hM (show i<M.length by omega) ha;rw [tS h1.1.1 h1.1.2];exact⟨h2.1,a,ha,i+1,hi,i,by omega,O,O⟩
theorem Ke(hM:bj M)(hl:(eJ M).length=(gl M 0).length){a:Nat}(ha:a< (gl M 0).length)(hb:b< (gl M 0).length)(e:jl M.length M a=jl M.length M b):a=b:=by
 refine kV fun b9=>?_
 have hex:∀y:ah,∃c:Nat,y∈eJ M->c< (gl M 0).length/\c≠a/\y=jl M.length M c:=fun y=>by
  by_cases hy:y∈eJ M
  ·obtain⟨c,hc,ec⟩:=(tR hM).1 hy
   by_cases h:c=a
   ·exact⟨b,fun _=> ⟨hb,fun q=>b9 q.symm,by rw [ec,h,e]⟩⟩
   exact⟨c,fun _=> ⟨hc,h,ec⟩⟩
  exact⟨0,fun h=>absurd h hy⟩
 obtain⟨g,hg⟩:=Classical.axiomOfChoice hex;have hg:∀y:ah,y∈eJ M->g y< (gl M 0).length/\g y≠a/\y=jl M.length M (g y):=hg;have rO:(eJ M).Nodup:=(zh _ _ _).nodup;have hq:(a::(eJ M).map g).Nodup:=by
  refine mV.2 ⟨fun hm=>?_,?_⟩
  ·obtain⟨y,hy,e1⟩:=fx.1 hm;exact(hg y hy).2.1 e1
  exact nJ.2 (rO.imp_of_mem fun {x y} hx hy MX q=>MX (by rw [(hg x hx).2.2,(hg y hy).2.2,q]))
 have:=DQ (gl M 0).length _ hq fun x hx=>by
  rcases ja.1 hx with rfl | hx
  ·exact ha
  obtain⟨y,hy,rfl⟩:=fx.1 hx;exact(hg y hy).1
 rw [List.length_cons,fQ,hl]at this;omega
theorem SX(hM:bj M)(hG:ov M):EA M.length (dJ M M.length) (eW M):=
 ⟨Of hM hG.1,hG.2.2,by have:=hM.1;omega,by
  have h1:=hG.2.1;have h2:=hM.2.1;unfold eJ at h1;omega⟩
end
end Go.Proofs.YtagdamiiececaaaGreatDoor.Vc
