/-
 Lemmas. Conditions: as each states them.
-/
import Derived.Test.YtkojeolafnadeaaGreatDoorZi
import Derived.Lib.ItoaLen
import Derived.Test.YtkojeolafnadeaaGreatDoorLayd
import Derived.Shelf.Strconv.AppendIntPublic10
import Derived.Lib.AppendZeros
import Derived.Shelf.SlSortCmp.KitK
set_option maxHeartbeats 8000000
namespace Go.Proofs.YtkojeolafnadeaaGreatDoor.Vc
open Go.RowKit Tryz
variable{w w':aa}
def kH(xs:ah):List UInt8:=xs.flatMap fun x=>Lib.itoa x++ [32]
def Gu(xs:ah):ByteArray:=⟨(kH xs).toArray⟩
def Mc(l:List UInt8):Nat:=l.foldl (fun a b=>10*a+ (b.toNat - 48)) 0
theorem Ha{d:Nat}(h:d<10):(UInt8.ofNat (48+d)).toNat=48+d:=by
 rw [UInt8.toNat_ofNat'];omega
theorem CY:∀u:Nat,Mc (Lib.decDigits u)=u/\∀b∈Lib.decDigits u,48<=b.toNat/\b.toNat<=57:=by
 intro u
 induction u using Nat.strongRecOn with
 | ind u ih=>
  rw [Lib.decDigits]
  split
  ·rename_i h;refine⟨?_,fun b hb=>?_⟩
   ·simp only [Mc,List.foldl_cons,List.foldl_nil,Ha h];omega
   ·simp only [dK]at hb;subst hb;rw [Ha h];omega
  ·rename_i h;obtain⟨h1,h2⟩:=ih (u / 10) (by omega);refine⟨?_,fun b hb=>?_⟩
   ·unfold Mc at h1|-;rw [List.foldl_append,h1];simp only [List.foldl_cons,List.foldl_nil,Ha (show u%10<10 by omega)];omega
   ·rcases eD.1 hb with hb | hb
    ·exact h2 b hb
    ·simp only [dK]at hb;subst hb;rw [Ha (by omega)];omega
theorem NS{u v:Nat}(h:Lib.decDigits u=Lib.decDigits v):u=v:=by rw [<-(CY u).1,h,(CY v).1]
theorem RJ{x:Int}:∀b∈Lib.itoa x,b≠32:=by
 intro b hb e;subst e;unfold Lib.itoa at hb
 split at hb
 ·rcases ij.1 hb with h | h
  ·exact absurd h (by decide)
  have:=(CY _).2 _ h;exact absurd this (by decide)
 have:=(CY _).2 _ hb;exact absurd this (by decide)
theorem acR{x y:Int}(h:Lib.itoa x=Lib.itoa y):x=y:=by
 have Sx:∀(u v:Nat),45::Lib.decDigits u≠Lib.decDigits v:=fun u v e=>by
  have:=(CY v).2 45 (by rw [<-e];simp);exact absurd this (by decide)
 unfold Lib.itoa at h
 split at h<;>split at h
 ·simp only [List.cons.injEq,true_and]at h;have:=NS h;omega
 ·exact absurd h (Sx _ _)
 ·exact absurd h.symm (Sx _ _)
 have:=NS h;omega
theorem Tx:∀ {a b r s:List UInt8},(∀x∈a,x≠32)->(∀x∈b,x≠32)->a++32::r=b++32::s->a=b/\r=s
 | [],[],_,_,_,_,h=>by simpa using h
 | [],y::b,_,_,_,hb,h=>by
  simp only [List.nil_append,List.cons_append,List.cons.injEq]at h;exact absurd h.1.symm (hb y (by simp))
 | x::a,[],_,_,ha,_,h=>by
  simp only [List.nil_append,List.cons_append,List.cons.injEq]at h;exact absurd h.1 (ha x (by simp))
 | x::a,y::b,_,_,ha,hb,h=>by
  simp only [List.cons_append,List.cons.injEq]at h;obtain⟨h1,h2⟩:=Tx (fun z hz=>ha z (by simp [hz])) (fun z hz=>hb z (by simp [hz])) h.2;exact⟨by rw [h.1,h1],h2⟩
theorem D9(x:Int)(xs:ah):kH (x::xs)=Lib.itoa x++32::kH xs:=by simp [kH]
theorem adl(xs:ah)(x:Int):kH (xs++ [x])=(kH xs++Lib.itoa x)++ [32]:=by simp [kH]
theorem RM:∀ {xs ys:ah},kH xs=kH ys->xs=ys
 | [],[],_=>rfl
 | [],y::ys,h=>by rw [D9]at h;simp [kH]at h
 | x::xs,[],h=>by rw [D9]at h;simp [kH]at h
 | x::xs,y::ys,h=>by
  rw [D9,D9]at h;obtain⟨h1,h2⟩:=Tx RJ RJ h;rw [acR h1,RM h2]
theorem adk{xs ys:ah}(h:Gu xs=Gu ys):xs=ys:=by
 have h1:(kH xs).toArray=(kH ys).toArray:=aL ByteArray.data h;exact RM (by simpa using h1)
theorem fold_push:∀(l:List UInt8) (s:ByteArray),(l.map fun b=> ((b.toNat:Nat):Int)).foldl (fun r n=>r.push (UInt8.ofNat n.toNat)) s=⟨s.data++l.toArray⟩
 | [],s=>by simp
 | b::l,s=>by
  simp only [List.map_cons,List.foldl_cons];rw [fold_push l];have e:UInt8.ofNat ((b.toNat:Nat):Int).toNat=b:=by simp
  rw [e];have e2:(s.push b).data=s.data.push b:=O;rw [e2]
  congr 1
  apply Array.ext';simp
def qD(w : aa): Prop := Lib.TabIs prog w "internal/strconv.uint64pow10" .u64 Lib.pow10Tab
theorem qD.ao(h:qD w)(hb:Below w.heap.size w w'):qD w':=Lib.tabBelow_of_tabIs h w' hb.toBelow
def tK(B:Nat)(w:aa)(A:ai)(m c:Nat)(l:List UInt8):Prop:=w.ownsRow B 5 1 (.slice A m c) m (Lib.byteCells l)
theorem SJ{B m:Nat}{v:ab}{xs:List ab}(h:w.ownsRow B 5 1 v m xs):∃A c,v= .slice A m c:=by
 rcases h.2 with⟨rfl,rfl⟩ | ⟨g,cap,cur,rfl,_⟩
 ·exact⟨_,_,O⟩
 exact⟨_,_,O⟩
theorem tK.ao{B:Nat}{A:ai}{m c:Nat}{l:List UInt8}(h:tK B w A m c l)(hb:Below w.heap.size w w'):tK B w' A m c l:=by
 refine⟨h.1,?_⟩;rcases h.2 with h1 | ⟨g,cap,cur,h1,h2,h3,r⟩
 ·exact .inl h1
 exact .inr ⟨g,cap,cur,h1,h2,by rw [hb.block g (Array.getElem?_eq_some_iff.1 h3).1];exact h3,r⟩
section
variable {N:Nat} {ops:Array Oper} {K:Env->aa->Prop} {rest:List Oper} {e:Env} {w0 w w':aa} {ks:List Ck} {d:Nat} {ty:ad} {pos:String} {af:Array Edge}
theorem UU{B m c:Nat}{A:ai}{l:List UInt8}{A1:ai}{b:UInt8}{x y:ae}(hO:tK B w A m c l)(hB:B<=w.heap.size)(hR:Rd w A1 1 (fun _=> .int .u8 (b.toNat:Nat)))(hx:ev e x= .slice A m c)(hy:ev e y= .slice A1 1 1)(hm:m<=1000000000)(hb:Nat.blt d N=true)
 (hK:∀A2 c2 w',Go.RowKit.Below B w w'->tK B w' A2 (m+1) c2 (l++ [b])->ak prog N ops K rest (bC e d (.slice A2 (m+1) c2)) w'):
 ak prog N ops K (⟨some d,.call ⟨.builtin .append, #[x,y], #[22,22]⟩,ty,pos,af,none⟩::rest) e w:=by
 obtain⟨inf,hi,fp,hs,iq⟩:=bO.get prog 5;obtain⟨p,hp,hc⟩:=hR 0 (by omega);obtain⟨a,rfl⟩:∃a,A1=some a:=by cases A1 with | none=>simp [aB]at hp | some q=>exact⟨q,rfl⟩
 simp only [aB,Option.map_some,mh]at hp;obtain⟨v',w',hr,Dg,hg,_⟩:=run_append_own (P:=prog) (w:=w) B 22 ty 5 inf (.int .u8 0) 1 1 underlying22 hi fp hs iq rfl (by decide) (.slice A m c) m (Lib.byteCells l) hO a 1 1 [.int .u8 (b.toNat:Nat)] rfl
  (fun j u hj=>by
    match j,hj with
    | 0,hj=>simp at hj;subst hj;rw [hp];exact hc) (fun u hu=>by simp at hu;subst hu;rfl) (by simp only [maxLen];omega) (by omega) hB
 obtain⟨A2,c2,rfl⟩:=SJ Dg;refine .val (w':=w') ?_ hb (hK A2 c2 w' ?_ ?_)
 ·simp [execOp,resolve,invoke,builtin,hx,hy,hr]
 ·exact(Go.RowKit.Below.refl B w).grown hg hB (fun k hk=> (hO.lt k hk).1)
 ·show w'.ownsRow B 5 1 (.slice A2 (m+1) c2) (m+1) (Lib.byteCells (l++ [b]));rw [show Lib.byteCells (l++ [b])=Lib.byteCells l++ [.int .u8 (b.toNat:Nat)] by simp [Lib.byteCells]];exact Dg
theorem U6{B m c:Nat}{A:ai}{l:List UInt8}{x:ae}(hO:tK B w A m c l)(hx:ev e x= .slice A m c)(hb:Nat.blt d N=true)(hK:ak prog N ops K rest (bC e d (.string ⟨l.toArray⟩)) w):
 ak prog N ops K (⟨some d,.convert 22 9 x,ty,pos,af,none⟩::rest) e w:=by
 have hr:(Conv.bytesToString (.slice A m c)).run prog w= .ok (.string ⟨l.toArray⟩) w:=by
  have hl:(Lib.byteCells l).length=m*1:=hO.1;rcases hO.2 with⟨h1,h2⟩ | ⟨g,cap,cur,h1,_⟩
  ·simp only [Value.slice.injEq]at h1;obtain⟨rfl,rfl,rfl⟩:=h1;have:l=[]:=lg (by rw [Lib.byteCells_length]at hl;omega);subst this
   rfl
  simp only [Value.slice.injEq]at h1;obtain⟨rfl,_,rfl⟩:=h1;have h2:=hO.cells (g:=g) O;have h3:=run_loadCells_list (P:=prog) (w:=w) (⟨g,0,none⟩:Addr) (Lib.byteCells l) h2;rw [hl,Nat.mul_one]at h3;have e1:Lib.byteCells l=(l.map fun b=> ((b.toNat:Nat):Int)).map (Value.int .u8):=by simp [Lib.byteCells]
  rw [e1]at h3;rw [run_bytesToString w _ m c _ h3,fold_push];simp
 refine .val (w':=w) ?_ hb hK;simp [execOp,hx,convert,run_underlying underlying22,run_underlying underlying9,run_underlying underlying5,hr]
end
theorem Ul{B m c : Nat}{A : ai}{l : List UInt8}(x : Int)(w : aa)(hx : -9223372036854775808 <= x /\ x <= 9223372036854775807)(hO : tK B w A m c l)(hB : B <= w.heap.size)(hm : m <= 1000000000)(hT : Lib.TabBelow prog B w "internal/strconv.uint64pow10" .u64 Lib.pow10Tab):
 aG prog 161 [.slice A m c,aj x,aj 10] w (fun v w'=>∃A' c',v= .slice A' (m+ (Lib.itoa x).length) c'/\tK B w' A' (m+ (Lib.itoa x).length) c' (l++Lib.itoa x)/\Go.RowKit.Below B w w'):=by
 have key:=Any.strconv_AppendInt_10 lai B m x hx.1 hx.2 (.slice A m c) (Lib.byteCells l) w hO hB (by omega) hT;refine Calls.mono key fun y w' ⟨v',hy,Dg,hb,_⟩=> ⟨_,hy,?_⟩
 obtain⟨A2,c2,rfl⟩:=SJ Dg;refine⟨A2,c2,O,?_,hb⟩;show w'.ownsRow B 5 1 (.slice A2 _ c2) _ (Lib.byteCells (l++Lib.itoa x));rw [Lib.byteCells_append];exact Dg
theorem RK(x:Int)(hx: -9223372036854775808<=x/\x<=9223372036854775807):(Lib.itoa x).length<=21:=Lib.itoa_length_le x hx.1 hx.2
theorem RN:∀(xs:ah),(∀x∈xs,-9223372036854775808<=x/\x<=9223372036854775807)->(kH xs).length<=22*xs.length
 | [],_=>by simp [kH]
 | x::xs,h=>by
  have h1:=RK x (h x (by simp));have h2:=RN xs fun y hy=>h y (by simp [hy])
  rw [D9];simp only [dh,List.length_cons];omega
theorem RO(A:ai)(n c:Nat)(xs:ah)(w:aa)(hT:qD w)(hR:bt w A n xs)(hx:∀x∈xs,-9223372036854775808<=x/\x<=9223372036854775807)(hn:n<=1000000):
 aG prog 111 [.slice A n c] w (fun v w'=>v= .string (Gu xs)/\St w w' []):=by
 have di:=hR.1;refine bw func111 O ntmps111 O (b7 O) ?_;refine bb O (ba O O (az O ?_));refine Cd.loop (α:=Nat×ai×Nat) (fun s=> [(3,.slice s.2.1 (kH (xs.take s.1)).length s.2.2),(6,.slice A n c),(7,aj n),(8,aj (s.1:Int))]) (fun s w'=>tK w.heap.size w' s.2.1 (kH (xs.take s.1)).length s.2.2 (kH (xs.take s.1))/\Go.RowKit.Below w.heap.size w w'/\s.1<=n) (fun s=>n - s.1) (0,none,0) (ajz O) ⟨World.ownsRow_nil w _ _ _,Go.RowKit.Below.refl _ _,bu _⟩ ?_;rintro⟨i,A3,c3⟩ e w1 ⟨hO,fa,hi⟩;dsimp only at hO fa hi|-;refine b8 O (aM _ O (fun h1=>?_) (fun h1=>?_))
 ·have dI:i<xs.length:=by omega
  have kj : bt w1 A n xs := hR.ao ⟨fa, fun s => s.elim⟩;have xa : Lib.TabBelow prog w.heap.size w1 "internal/strconv.uint64pow10" .u64 Lib.pow10Tab := (Lib.tabBelow_of_tabIs hT).on fa
  have sq:=hx _ (gi_in dI);have nI:=RN (xs.take i) fun x hm=>hx x (List.mem_of_mem_take hm)
  have pP:=RK _ sq;rw [nt]at nI;have lP:=fa.size;have o6:kH (xs.take (i+1))=(kH (xs.take i)++Lib.itoa (gi xs i))++ [32]:=by rw [pg dI,adl]
  refine aD O (aA kj.2 O (aY kj O (aq O (aF (Ul (gi xs i) _ sq hO lP (by omega) xa) O ?_))));rintro _ w2 ⟨A4,c4,rfl,Zy,gP⟩;have hsz2:=gP.size;refine aq O (ak.HW (St.refl w2) O O O O ?_);intro A5 w3 aH;have Zz:=Zy.ao aH.below;have km:Go.RowKit.Below w.heap.size w2 w3:=aH.below.toBelow.mono (by omega);have hsz3:=km.size;refine UU (b:=32) Zz (by omega) (aH.rd 0 rfl |>.congr fun j hj=>by obtain rfl:j=0:=by { have:j<1:=hj;omega };rfl) rfl rfl (by omega) rfl ?_;intro A6 c6 w4 jX ZA;refine aq O (aK O (aS O (tQ ?_)));refine⟨(i+1,A6,c6),by show n - (i+1)<n - i;omega,⟨?_,O,O,O,aw⟩,?_,((fa.trans gP).trans km).trans jX,by show i+1<=n;omega⟩
  ·show Value.slice _ _ _= .slice _ _ _;rw [o6];simp [Nat.add_assoc]
  show tK _ w4 A6 (kH (xs.take (i+1))).length c6 (kH (xs.take (i+1)));rw [o6];have e1:((kH (xs.take i)++Lib.itoa (gi xs i))++ [32]).length=(kH (xs.take i)).length+ (Lib.itoa (gi xs i)).length+1:=by simp;omega
  rw [e1];exact ZA
 have da:i=xs.length:=by omega
 subst da;rw [List.take_length]at hO;refine bo O (bn (cJ O ?_));refine U6 hO (by show Value.slice _ _ _= .slice _ _ _;rw [List.take_length]) O ?_;refine bD O (Ek O ?_);exact⟨rfl,⟨⟨fa,fun s=>s.elim⟩,fun k hk=> (by cases hk),List.nodup_nil⟩⟩
end Go.Proofs.YtkojeolafnadeaaGreatDoor.Vc
namespace Go.Proofs.YtkojeolafnadeaaGreatDoor.Vc
open Go.RowKit Go.MapKept Tryz
section
variable {κ ν:Type} [DecidableEq κ]
def jD:List (κ×ν)->κ->List (κ×ν)
 | [],_=> []
 | (y,v)::r,x=>if y=x then r else(y,v)::jD r x
theorem NU:∀ {L:List (κ×ν)} {x:κ} {j:Nat} {v:ν},mT L x=some (j,v)->jD L x=L.eraseIdx j
 | (y,w)::r,x,j,v,h=>by
  simp only [mT]at h
  split at h
  ·rename_i e;simp only [mh,Prod.mk.injEq]at h;obtain⟨rfl,rfl⟩:=h;simp only [jD,aT e,List.eraseIdx_zero,List.tail_cons]
  ·rename_i e;cases hf:mT r x with
   | none=>simp [hf]at h
   | some p=>
    simp only [hf,Option.map_some,mh,Prod.mk.injEq]at h;obtain⟨rfl,rfl⟩:=h;simp only [jD,aR e,List.eraseIdx_cons_succ,NU (L:=r) (x:=x) (j:=p.1) (v:=p.2) hf]
theorem NT:∀ {L:List (κ×ν)} {x:κ},mT L x=none->jD L x=L
 | [],_,_=>rfl
 | (y,w)::r,x,h=>by
  simp only [mT]at h
  split at h
  ·cases h
  ·rename_i e;rw [Option.map_eq_none_iff]at h;simp only [jD,aR e,NT h]
theorem Ip:∀(L:List (κ×ν)) (x:κ),(jD L x).Sublist L
 | [],_=> .slnil
 | (y,v)::r,x=>by
  simp only [jD]
  split
  ·exact(dY _).cons _
  ·exact(Ip r x).cons_cons _
theorem OD:∀ {L:List (κ×ν)} {x:κ},x∉L.map (·.1)->eM L x=none
 | [],_,_=>rfl
 | (y,v)::r,x,h=>by
  simp only [List.map_cons,ij,not_or]at h;simp only [eM,aR (fun e:y=x=>h.1 e.symm),OD h.2]
theorem OB:∀ {L:List (κ×ν)} {x y:κ},(L.map (·.1)).Nodup->eM (jD L x) y=if x=y then none else eM L y
 | [],x,y,_=>by simp [jD,eM]
 | (z,v)::r,x,y,h=>by
  simp only [List.map_cons,kz]at h;simp only [jD]
  split
  ·rename_i e;subst e
   split
   ·rename_i e;subst e;exact OD h.1
   ·rename_i e;simp only [eM,aR e]
  ·rename_i e;simp only [eM,OB (L:=r) (x:=x) (y:=y) h.2]
   by_cases e2:z=y
   ·subst e2;rw [aT rfl,aR (fun q=>e q.symm),aT rfl]
   ·rw [aR e2,aR e2]
theorem SZ(L:List (κ×ν))(x:κ)(u:ν):∀y,y∈(iD L x u).map (·.1)↔y=x\/y∈L.map (·.1):=by
 induction L with
 | nil=>intro y;simp [iD]
 | cons p r ih=>
  obtain⟨z,w⟩:=p;intro y;simp only [iD]
  split
  ·rename_i e;subst e;simp
  ·simp only [List.map_cons,ij,ih];exact⟨fun h=>by rcases h with h | h | h<;>simp [h],fun h=>by rcases h with h | h | h<;>simp [h]⟩
theorem LB:∀ {L:List (κ×ν)} {x:κ} {u:ν},(L.map (·.1)).Nodup->((iD L x u).map (·.1)).Nodup
 | [],x,u,_=>by simp [iD]
 | (z,v)::r,x,u,h=>by
  simp only [List.map_cons,kz]at h;simp only [iD]
  split
  ·rename_i e;subst e;simp only [List.map_cons,kz];exact h
  ·rename_i e;simp only [List.map_cons,kz];refine⟨fun hm=>?_,LB h.2⟩;rcases(SZ r x u z).1 hm with h1 | h1
   ·exact e h1
   ·exact h.1 h1
theorem Xg{L:List (κ×ν)}{x:κ}(h:(L.map (·.1)).Nodup):((jD L x).map (·.1)).Nodup:=h.sublist ((Ip L x).map _)
theorem afw(L:List (κ×ν))(x:κ)(u:ν):(iD L x u).Perm ((x,u)::jD L x):=by
 induction L with
 | nil=>exact .refl _
 | cons p r ih=>
  obtain⟨z,w⟩:=p;simp only [iD,jD]
  split
  ·rename_i e;exact .refl _
  ·exact(ih.cons _).trans (.swap _ _ _)
theorem OE:∀ {L:List (κ×ν)} {x:κ} {u:ν},eM L x=some u->L.Perm ((x,u)::jD L x)
 | (z,w)::r,x,u,h=>by
  simp only [eM]at h;simp only [jD]
  split at h
  ·rename_i e;subst e;injection h with h
   subst h;rw [aT rfl]
  ·rename_i e;rw [aR e];exact((OE h).cons _).trans (.swap _ _ _)
theorem IQ:∀ {L:List (κ×ν)} {x:κ},eM L x=none->jD L x=L
 | [],_,_=>rfl
 | (z,w)::r,x,h=>by
  simp only [eM]at h;simp only [jD]
  split at h
  ·cases h
  ·rename_i e;rw [aR e,IQ h]
end
section
variable {P:Program} {N:Nat} {ops:Array Oper} {K:Env->aa->Prop} {rest:List Oper} {e:Env} {w0 w w':aa} {ks:List Ck} {d:Nat} {ty:ad} {pos:String} {af:Array Edge}
variable {κ ν:Type} [DecidableEq κ] {kd:TypeDesc} {kv:κ->ab} {vv:ν->ab}
theorem Ix{α β:Type}(f:α->β):∀(l:List α) (j:Nat),(l.eraseIdx j).map f=(l.map f).eraseIdx j
 | [],_=>rfl
 | _::_,0=>rfl
 | a::r,j+1=>by simp only [List.eraseIdx_cons_succ,List.map_cons,Ix f r j]
theorem af1{t kt et T:ad}[hU:bP P t (.map kt et)][hk:bP P kt kd](KT:sG kd kv){g:Nat}{L:List (κ×ν)}(i:Nat)(x:κ)(Gv:ad)(hS:St w0 w ks)(hi:ks[i]?=some (jn T g (ic kv vv L))):
 ∃w',(Builtin.delete_ #[t,Gv] ty #[.map (some g),kv x]).run P w= .ok (.tuple #[]) w'/\St w0 w' (ks.set i (jn T g (ic kv vv (jD L x)))):=by
 obtain⟨_,es,cl,hh,hm,oB⟩:=hS.GO i hi;have hf:=Fk (vv:=vv) KT x es.toList L 0 hm;have vz:=MapKept.run_findKey (P:=P) (w:=w) hk.out hf;cases kT:mT L x with
 | none=>
  refine⟨{ w with heap:=w.heap.setIfInBounds g (.map es cl) },?_,hS.G9 hi ?_ oB⟩
  ·simp [Builtin.delete_,run_underlying hU.out,MapKept.run_getObj_map hh,MapKept.run_checkKey hk.out (KT.isKey x),vz,kT,MapKept.run_setObj_map _ hh,Result.andThen]
  ·rw [NT kT];exact hm
 | some p=>
  obtain⟨j,v⟩:=p;refine⟨{ w with heap:=w.heap.setIfInBounds g (.map (es.eraseIdxIfInBounds j) cl) },?_,hS.G9 hi ?_ (aey oB (by
   unfold Array.eraseIdxIfInBounds
   split
   ·rw [Array.toList_eraseIdx];exact List.eraseIdx_sublist _ _
   ·exact dY _))⟩
  ·simp [Builtin.delete_,run_underlying hU.out,MapKept.run_getObj_map hh,MapKept.run_checkKey hk.out (KT.isKey x),vz,kT,MapKept.run_setObj_map _ hh,Result.andThen]
  ·rw [NU kT];have e1:(es.eraseIdxIfInBounds j).toList=es.toList.eraseIdx j:=by
    unfold Array.eraseIdxIfInBounds
    split
    ·rw [Array.toList_eraseIdx]
    ·rename_i h;rw [List.eraseIdx_of_length_le (by simpa using h)]
   rw [e1,Ix,hm];unfold ic;rw [Ix]
theorem U7{t kt et T Gv:ad}{m k:ae}[hU:bP P t (.map kt et)][bP P kt kd](KT:sG kd kv){g:Nat}{L:List (κ×ν)}(i:Nat){a:κ}(hS:St w0 w ks)(hi:ks[i]?=some (jn T g (ic kv vv L)))(hm:ev e m= .map (some g))(hk:ev e k=kv a)(hK:∀w',St w0 w' (ks.set i (jn T g (ic kv vv (jD L a))))->ak P N ops K rest e w'):ak P N ops K (⟨none,.call ⟨.builtin .delete, #[m,k], #[t,Gv]⟩,ty,pos,af,none⟩::rest) e w:=by
 obtain⟨w',o5,l8⟩:=af1 (P:=P) (t:=t) (ty:=ty) KT i a Gv hS hi;refine .ag5 (w':=w') (v:= .tuple #[]) ?_ (hK _ l8);simp [execOp,resolve,invoke,builtin,hm,hk,o5]
end
section
variable {P:Program} {N:Nat} {ops:Array Oper} {K:Env->aa->Prop} {rest:List Oper} {e:Env} {w0 w w':aa} {ks:List Ck} {d:Nat} {ty:ad} {pos:String} {af:Array Edge}
theorem Hy{κ ν:Type}[DecidableEq κ]{kd:TypeDesc}{kv:κ->ab}{vv:ν->ab}{t kt et:ad}{z v:ab}{s b:Nat}[bP P t (.map kt et)][bP P kt kd][bO P et z s b](KT:sG kd kv){g:Nat}{L:List (κ×ν)}{m ix:ae}{x:κ}(hR:pz w g (ic kv vv L))(hx:ev e m= .map (some g))(hy:ev e ix=kv x)(hv:((eM L x).map vv).getD z=v)(hb:Nat.blt d N=true)(hK:ak P N ops K rest (bC e d (.tuple #[v,.bool (eM L x).isSome])) w):ak P N ops K (⟨some d,.lookup t m ix true,ty,pos,af,none⟩::rest) e w:=by
 subst hv;refine .val (w':=w) ?_ hb hK;have:=Tj (P:=P) (t:=t) (x:=x) KT hR true;simp [execOp,hx,hy,this]
end
def vM(l:ah):ab:= .string (Gu l)
theorem BI:sG .string vM:=⟨fun _=>aw,fun a b h=>adk (by injection h)⟩
abbrev lR:=ah×aX×ah
def BM(u:aX×ah):ab:=u.1.v
def nW(t:ad)(M:List lR):List Ck:=M.map fun p=>ar t p.2.1.a p.2.1.n p.2.1.c p.2.2
def iM(M:List lR)(x:ah):aX:=((eM M x).map (·.1)).getD bW
def je(M:List lR)(x:ah):ah:=((eM M x).map (·.2)).getD []
section
variable {w0 w w':aa} {ks pre:List Ck} {t:ad} {M:List lR} {x:ah}
theorem IZ{u:aX×ah}(h:eM M x=some u):iM M x=u.1/\je M x=u.2:=by simp [iM,je,h]
theorem OH(h:eM M x=none):iM M x=bW/\je M x=[]:=by simp [iM,je,h]
theorem St.TH(h:St w0 w (pre++ (nW t M++ks))):St w0 w (ar t (iM M x).a (iM M x).n (iM M x).c (je M x)::(pre++ (nW t (jD M x)++ks))):=by
 cases hg:eM M x with
 | none=>
  rw [(OH hg).1,(OH hg).2,IQ hg];exact h.nil t
 | some u=>
  rw [(IZ hg).1,(IZ hg).2];refine h.perm ?_;have h1:(nW t M).Perm (ar t u.1.a u.1.n u.1.c u.2::nW t (jD M x)):=(OE hg).map _;exact((h1.append_right ks).append_left pre).trans eK
theorem MX{u:aX×ah}(h:St w0 w (ar t u.1.a u.1.n u.1.c u.2::(pre++ (nW t (jD M x)++ks)))):St w0 w (pre++ (nW t (iD M x u)++ks)):=by
 refine h.perm ?_;have h1:(ar t u.1.a u.1.n u.1.c u.2::nW t (jD M x)).Perm (nW t (iD M x u)):=((afw M x u).map fun p:lR=>ar t p.2.1.a p.2.1.n p.2.1.c p.2.2).symm;exact eK.symm.trans ((h1.append_right ks).append_left pre)
theorem HF(h:St w0 w (pre++ (nW t M++ks))):bt w (iM M x).a (iM M x).n (je M x):=(h.TH (x:=x)).bk 0 rfl
theorem Vx(h:St w0 w (pre++ (nW t M++ks))):St w0 w (pre++ (nW t (jD M x)++ks)):=h.sub (((((Ip M x).map _).append_right ks)).append_left pre)
end
end Go.Proofs.YtkojeolafnadeaaGreatDoor.Vc
namespace Go.Proofs.YtkojeolafnadeaaGreatDoor.Vc
open Tryz
variable{x y:ah}{j:Nat}
def ku(x:ah)(i:Nat):ah:=x.set i (-1)
theorem LM(x:ah)(i:Nat):(ku x i).length=x.length:=by simp [ku]
theorem B7{i k:Nat}(hk:k<x.length):gi (ku x i) k=if k=i then -1 else gi x k:=by
 rw [bX (by rw [LM];exact hk),bX hk];unfold ku;rw [List.getElem_set]
 by_cases e:i=k
 ·rw [aT e,aT e.symm]
 rw [aR e,aR (fun h=>e h.symm)]
theorem Tg{n:Nat}{i:Nat}(hx:x.length=n)(hy:y.length=n):ku x i=ku y i↔∀k:Nat,k<n->k≠i->gi x k=gi y k:=by
 constructor
 ·intro h k hk cS;have:=aL (fun l=>gi l k) h;simp only [B7 (x:=x) (i:=i) (show k<x.length by omega),B7 (x:=y) (i:=i) (show k<y.length by omega),aR cS]at this;exact this
 intro h;refine Lc (n:=n) (by rw [LM,hx]) (by rw [LM,hy]) fun k hk=>?_
 rw [B7 (by omega),B7 (by omega)]
 split
 ·rfl
 rename_i e;exact h k hk e
theorem afY{n:Nat}{i:Nat}(hx:x.length=n)(hy:y.length=n)(hi:i<n)(h0:∀e∈y,0<=e)(h:ku x i=ku y j):i=j:=by
 have:=aL (fun l=>gi l i) h;simp only [B7 (x:=x) (i:=i) (show i<x.length by omega),B7 (x:=y) (i:=j) (show i<y.length by omega),aT]at this
 by_cases e:i=j
 ·exact e
 rw [aR e]at this;have h2:=h0 _ (gi_in (show i<y.length by omega));omega
theorem IY(M:List lR)(x l:ah)(u:aX×ah):je (iD M x u) l=if x=l then u.2 else je M l:=by
 unfold je;rw [IL]
 split<;>rfl
theorem IX{M:List lR}{l:ah}(h:(M.map (·.1)).Nodup):je (jD M x) l=if x=l then []else je M l:=by
 unfold je;rw [OB h]
 split<;>rfl
structure iJ(n:Nat)(fl:ag)(D:Nat->Nat->Prop)(G:Nat->Prop)(b:Nat)(M:List lR):Prop where
 nd:(M.map (·.1)).Nodup
 el:∀l y,y∈je M l->∃y' i:Nat,y=(y':Int)/\y'<fl.length/\i<n/\D y' i/\l=ku (gl fl y') i
 al:∀y i:Nat,y<fl.length->i<n->D y i->(y:Int)∈je M (ku (gl fl y) i)\/G y
 len:∀l,(je M l).length<=b
section
variable{b':Nat}
variable {n:Nat} {fl:ag} {D D':Nat->Nat->Prop} {G G':Nat->Prop} {b:Nat} {M:List lR} {c:ah}
def vS(n:Nat)(fl:ag)(c:ah)(f i:Nat)(y j:Nat):Prop:=jo n c (gl fl y)/\(y<f\/y=f/\j<i)
theorem iJ.zero:iJ n fl (vS n fl c 0 0) (fun _=>False) 0 []:=⟨by simp,fun l y h=>by simp [je,eM]at h,fun y i _ _ h=>by have:=h.2;omega,fun l=>by simp [je,eM]⟩
theorem iJ.congr(h:iJ n fl D G b M)(hD:∀y i,y<fl.length->i<n->(D y i↔D' y i)):iJ n fl D' G b M:=
 ⟨h.nd,fun l y hy=>by obtain⟨y',i,h1,h2,h3,h4,h5⟩:=h.el l y hy;exact⟨y',i,h1,h2,h3,(hD y' i h2 h3).1 h4,h5⟩,fun y i hy hi hd=>h.al y i hy hi ((hD y i hy hi).2 hd),h.len⟩
theorem iJ.more(h:iJ n fl D G b M)(hb:b<=b'):iJ n fl D G b' M:=⟨h.nd,h.el,h.al,fun l=>iS (h.len l) hb⟩
theorem iJ.skip{f:Nat}(h:iJ n fl (vS n fl c f 0) G b M)(hf:¬jo n c (gl fl f)):iJ n fl (vS n fl c (f+1) 0) G b M:=
 h.congr fun y i _ _=> ⟨fun h=> ⟨h.1,by have:=h.2;omega⟩,fun h=> ⟨h.1,by
  have h2:=h.2;have:y≠f:=fun e=>hf (e▸h.1)
  omega⟩⟩
theorem iJ.row{f:Nat}(h:iJ n fl (vS n fl c f n) G b M):iJ n fl (vS n fl c (f+1) 0) G b M:=
 h.congr fun y i _ hi=> ⟨fun h=> ⟨h.1,by have:=h.2;omega⟩,fun h=> ⟨h.1,by have:=h.2;omega⟩⟩
theorem iJ.put{f i:Nat}(h:iJ n fl (vS n fl c f i) G b M)(hf:f<fl.length)(hi:i<n)(hH:jo n c (gl fl f))(s:aX):
 iJ n fl (vS n fl c f (i+1)) G (b+1) (iD M (ku (gl fl f) i) (s,je M (ku (gl fl f) i)++ [(f:Int)])):=by
 refine⟨LB h.nd,fun l y hy=>?_,fun y j hy hj hd=>?_,fun l=>?_⟩
 ·rw [IY]at hy
  split at hy
  ·rename_i e;rcases eD.1 hy with hy | hy
   ·obtain⟨y',j,h1,h2,h3,h4,h5⟩:=h.el _ y hy;exact⟨y',j,h1,h2,h3,⟨h4.1,by have:=h4.2;omega⟩,e.symm.trans h5⟩
   exact⟨f,i,dK.1 hy,hf,hi,⟨hH,.inr ⟨O,Nat.lt_succ_self _⟩⟩,e.symm⟩
  obtain⟨y',j,h1,h2,h3,h4,h5⟩:=h.el _ y hy;exact⟨y',j,h1,h2,h3,⟨h4.1,by have:=h4.2;omega⟩,h5⟩
 ·rw [IY]
  by_cases e:y=f/\j=i
  ·obtain⟨rfl,rfl⟩:=e;rw [aT rfl];exact .inl (List.mem_append_right _ (by simp))
  rcases h.al y j hy hj ⟨hd.1,by have:=hd.2;omega⟩with h1 | h1
  ·left
   split
   ·rename_i e2;rw [e2];exact List.mem_append_left _ h1
   exact h1
  exact .inr h1
 rw [IY]
 split
 ·rename_i e;have:=h.len (ku (gl fl f) i);rw [dh];simp;omega
 have:=h.len l;omega
theorem iJ.mono(h:iJ n fl D G b M)(hG:∀y,y<fl.length->G y->G' y):iJ n fl D G' b M:=
 ⟨h.nd,h.el,fun y i hy hi hd=> (h.al y i hy hi hd).imp id (hG y hy),h.len⟩
theorem iJ.del(h:iJ n fl D G b M){x:ah}(hx:∀y:Nat,(y:Int)∈je M x->G y):iJ n fl D G b (jD M x):=by
 refine⟨Xg h.nd,fun l y hy=>?_,fun y i hy hi hd=>?_,fun l=>?_⟩
 ·rw [IX h.nd]at hy
  split at hy
  ·cases hy
  exact h.el l y hy
 ·rcases h.al y i hy hi hd with h1 | h1
  ·rw [IX h.nd]
   split
   ·rename_i e;rw [<-e]at h1;exact .inr (hx y h1)
   exact .inl h1
  exact .inr h1
 rw [IX h.nd]
 split
 ·exact bu _
 exact h.len l
theorem iJ.VI(h:iJ n fl (fun y _=>jo n c (gl fl y)) G b M)(hl:∀x∈fl,x.length=n/\∀e∈x,0<=e){x i:Nat}(hx:x<fl.length)(hi:i<n)(hH:jo n c (gl fl x)){y:Int}(hy:y∈je M (ku (gl fl x) i)):∃y':Nat,y=y'/\y'<fl.length/\wg n fl c x y':=by
 obtain⟨y',j,h1,h2,h3,h4,h5⟩:=h.el _ y hy;have hm:∀z:Nat,z<fl.length->gl fl z∈fl:=fun z hz=>by rw [fm hz];exact fe _
 have Bn:=hl _ (hm x hx);have J7:=hl _ (hm y' h2);have e:i=j:=afY Bn.1 J7.1 hi J7.2 h5;subst e;exact⟨y',h1,h2,hH,h4,i,hi,hx,h2,fun k hk cS=> (Tg Bn.1 J7.1).1 h5 k hk cS⟩
end
theorem WV{n:Nat}{c x:ah}(hc:c.length=n):mn c x=c↔jo n c x:=by
 constructor
 ·intro h k hk cS;have:=aL (fun l=>gi l k) h;simp only [zW (a:=c) (b:=x) (show k<c.length by omega)]at this
  by_cases e:gi c k=gi x k
  ·exact e
  rw [aR e]at this;exact absurd this.symm cS
 intro h;refine Lc (n:=n) (by rw [zX,hc]) hc fun k hk=>?_
 rw [zW (by omega)]
 split
 ·rfl
 rename_i e;refine yb fun h2=>e (h k hk fun h3=>h2 h3.symm)
def gX(n:Nat)(fl:ag)(c:ah)(f:Nat):ah:=(dL f).filter fun y=>decide (jo n c (gl fl y))
theorem VJ{n:Nat}{fl:ag}{c:ah}{f:Nat}:gX n fl c (f+1)=if jo n c (gl fl f)then gX n fl c f++ [(f:Int)]else gX n fl c f:=by
 have:dL (f+1)=dL f++ [(f:Int)]:=by
  unfold dL;rw [tI,qA];rfl
 unfold gX;rw [this,List.filter_append]
 by_cases c:jo n c (gl fl f)
 ·rw [aT c];simp [c]
 rw [aR c];simp [c]
theorem CM{n:Nat}{fl:ag}{c:ah}{f:Nat}{y:Int}:y∈gX n fl c f↔(0<=y/\y<f)/\jo n c (gl fl y):=by
 unfold gX;rw [ja,zq,nB]
def nz(N:Nat)(al:ah)(j:Nat):Nat:=if j<al.length then(gi al j).toNat else N
theorem jM.jump{N:Nat}{K:Nat->Nat->Prop}(hK:zI N K){L:ah}:∀(d f:Nat),jM N K f L->f+d<=N->(∀x,f<=x->x<f+d->¬K x x)->jM N K (f+d) L
 | 0,f,h,_,_=>h
 | d+1,f,h,hn,hx=>by
  have h1:=h.skip hK (by omega) (.inr (hx f (dC _) (by omega)));have:=jM.jump hK d (f+1) h1 (by omega) fun x h2 h3=>hx x (by omega) (by omega)
  rwa [show f+1+d=f+ (d+1) by omega]at this
section
variable {n:Nat} {fl:ag} {c:ah} {L:ah}
theorem EU(f:Nat):SA (gX n fl c f):=tG _ (vT _)
theorem Nk{j:Nat}:nz fl.length (gX n fl c fl.length) j<=fl.length:=by
 unfold nz
 split
 ·rename_i h;have:=(CM.1 (gi_in h)).1;omega
 exact dC _
theorem aeg(h:jM fl.length (jb n fl c) 0 L):jM fl.length (jb n fl c) (nz fl.length (gX n fl c fl.length) 0) L:=by
 have hle:=Nk (n:=n) (fl:=fl) (c:=c) (j:=0);have:=h.jump (Cy n fl c) (nz fl.length (gX n fl c fl.length) 0) 0 (by omega) fun x _ hx hk=>by
  have hm:(x:Int)∈gX n fl c fl.length:=CM.2 ⟨by omega,hk.1⟩;obtain⟨p,hp,e⟩:=gj.1 hm;rw [<-bX hp]at e;unfold nz at hx;rw [aT (by omega)]at hx
  by_cases e0:p=0
  ·subst e0;omega
  have:=(EU (n:=n) (fl:=fl) (c:=c) fl.length).uF (show 0<p by omega) hp;omega
 rwa [Nat.zero_add]at this
theorem aeh{j:Nat}(hj:j< (gX n fl c fl.length).length){f:Nat}(hf:gi (gX n fl c fl.length) j=f)(h:jM fl.length (jb n fl c) (f+1) L):jM fl.length (jb n fl c) (nz fl.length (gX n fl c fl.length) (j+1)) L:=by
 have hle:=Nk (n:=n) (fl:=fl) (c:=c) (j:=j+1);have xm:=(CM.1 (gi_in hj)).1;have ui:f+1<=nz fl.length (gX n fl c fl.length) (j+1):=by
  unfold nz
  split
  ·rename_i h2;have:=(EU (n:=n) (fl:=fl) (c:=c) fl.length).uF (show j<j+1 by omega) h2;omega
  omega
 have:=h.jump (Cy n fl c) (nz fl.length (gX n fl c fl.length) (j+1) - (f+1)) (f+1) (by omega) fun x nO hx hk=>by
  have hm:(x:Int)∈gX n fl c fl.length:=CM.2 ⟨by omega,hk.1⟩;obtain⟨p,hp,e⟩:=gj.1 hm;rw [<-bX hp]at e;have hpj:j<p:=by
   rcases Nat.lt_trichotomy j p with h2 | h2 | h2
   ·exact h2
   ·subst h2;omega
   have:=(EU (n:=n) (fl:=fl) (c:=c) fl.length).uF h2 hj;omega
  unfold nz at hx;rw [aT (by omega)]at hx
  by_cases e0:p=j+1
  ·subst e0;omega
  have:=(EU (n:=n) (fl:=fl) (c:=c) fl.length).uF (show j+1<p by omega) hp;omega
 rwa [show f+1+ (nz fl.length (gX n fl c fl.length) (j+1) - (f+1))=nz fl.length (gX n fl c fl.length) (j+1) by omega]at this
end
end Go.Proofs.YtkojeolafnadeaaGreatDoor.Vc
namespace Go.Proofs.YtkojeolafnadeaaGreatDoor.Vc
open Go.RowKit Tryz
variable{Q:List Nat}{y z:Nat}{L xs R:ah}{x:Int}
theorem S4(PB A:ai)(N c n:Nat)(rs:List aX)(fl:ag)(f i:Nat)(w:aa)(hT:qD w)(hb:Rd w PB 1 (fun _=> .slice A N c))(hM:bL w A N rs fl)(hf:f<N)(hN:N<=1000)(hl:(gl fl f).length=n)(hi:i<n)(hn:n<=100)(hr:∀x∈gl fl f,0<=x/\x<=1000000):
 aG prog 229 [aj f,aj i,.pointer PB] w (fun v w'=>v=vM (ku (gl fl f) i)/\St w w' []):=by
 have kS:=hM.len;have dM:=hM.at_ (i:=(f:Int)) (by omega) (by omega);have jG:=dM.1;refine bw func229 O ntmps229 O (b7 O) (bb O (ajt (j:=0) hb (by exact aL Value.pointer (mF _).symm) O O O O (aq O (aA hM.top.2 O (bQ hM.top O (aF (Ho _ _ _ _ _ dM (by omega)) O ?_))))));rintro _ w1 ⟨A6,c6,rfl,hS⟩;refine aq O (aA (hS.bk 0 O).2 O (ak.iG 0 hS O O O (by omega) ?_));intro w2 aE;have aE:St w w2 [ar 2 A6 (rg rs f).n c6 (ku (gl fl f) i)]:=aE;refine aq O ?_;refine ajq (RO A6 _ c6 (ku (gl fl f) i) _ (hT.ao aE.below) (aE.bk 0 O) (fun x hx=>by
  rcases List.mem_or_eq_of_mem_set hx with h | h
  ·have:=hr x h;omega
  omega) (by omega)) rfl rfl rfl ?_
 rintro _ w3 ⟨rfl,ax⟩;refine bD O (Ek O ?_);exact⟨O,aE.none.ao ax.below⟩
abbrev rf(PB A:ai)(N c:Nat)(fc:ai)(L:ah)(Aa:ai)(ca:Nat)(al:ah)(g:Nat)(M:List lR)(ks:List Ck):List Ck:=
 ar 2 fc N N L::Bx 25 1 PB [.slice A N c]::ar 2 Aa al.length ca al::jn 180 g (ic vM BM M)::(nW 2 M++ks)
def nh(Q:List Nat):ah:=Q.map fun x:Nat=> (x:Int)
theorem acF{k:Nat}(h:k<Q.length):gi (nh Q) k=(Q.getD k 0:Nat):=by
 rw [bX (by simp [nh,h])];simp [nh,dt,h]
theorem X4{k:Nat}(h:k<Q.length):(Q++ [y]).getD k 0=Q.getD k 0:=by
 rw [dt,lh h,<-dt]
theorem acG{k:Nat}(h:k<=Q.length):nh ((Q++ [y]).drop k)=nh (Q.drop k)++ [(y:Int)]:=by
 rw [List.drop_append_of_le_length h];simp [nh]
theorem IV{f:Nat}(h:0<=gi L z):0<=gi (L.set y (f:Int)) z:=by
 simp only [gi,gB,dt,n3]at h|-
 split
 ·split
  ·simp
  exact Int.le_refl _
 exact h
theorem X7{f:Nat}(h:y<L.length):gi (L.set y (f:Int)) y=f:=by
 rw [bX (by simpa using h)];simp
theorem ae4(A:ai)(N c:Nat)(rs:List aX)(fl:ag)(n:Nat)(A2:ai)(c2:Nat)(cm:ah)(w:aa)(hT:qD w)(hM:bL w A N rs fl)(hC:bt w A2 n cm)(hN:N<=401)(hn:n<=5)(hl:∀x∈fl,x.length=n/\∀e∈x,0<=e/\e<=1000000)(r8:fl.Nodup):
 aG prog 181 [.slice A N c,.slice A2 n c2] w (fun v w'=>∃A' L,v= .slice A' N N/\jM N (jb n fl cm) N L/\St w w' [ar 2 A' N N L]):=by
 have kS:=hM.len;have bE:=hC.1;have Bh:∀f:Nat,f<N->gl fl f∈fl:=fun f hf=>by rw [fm (by omega)];exact fe _
 have DH:∀x∈fl,x.length=n/\∀e∈x,0<=e:=fun x hx=> ⟨(hl x hx).1,fun e he=> ((hl x hx).2 e he).1⟩
 have nI:∀x∈fl,x.length=n:=fun x hx=> (hl x hx).1
 refine bw func181 O ntmps181 O (b7 O) (bb O ?_);refine ak.box (v:= .slice A N c) (St.refl w) O O (by show(1:Nat)<=maxLen;simp [maxLen]) ?_;intro PB w1 aC;have fa:Rd w1 PB 1 (fun _=> .slice A N c):=Rd.one (aC.rd 0 O);refine aq O (dE (i:= -1) aC O O O ?_);intro k8 w2 aE;have fa:Rd w2 PB 1 (fun _=> .slice A N c):=Rd.one (aE.rd 1 O);refine ajt (j:=0) fa (by exact aL Value.pointer (mF _).symm) O O O O (ba O O (aF (HD k8 1 (-1) N _ (aE.bk 0 O) (by omega)) O ?_));rintro _ w3 ⟨fc,rfl,ax⟩;have aH:=aE.call ax;clear ax;refine aq O (EO aH O ?_);intro g w4 aQ;have fa:Rd w4 PB 1 (fun _=> .slice A N c):=Rd.one (aQ.rd 3 O);refine aq O (Va O O (aq O (ajt (j:=0) fa (by exact aL Value.pointer (mF _).symm) O O O O (aF (Er _ _ _ _) O ?_))));rintro _ w4 ⟨rfl,rfl⟩;have a8:St w w4 [ar 2 none 0 0 [],jn 180 g [],ar 2 fc N N (List.replicate N (-1)),ar 2 k8 1 1 [-1],Bx 25 1 PB [.slice A N c]]:=aQ.nil 2;have a8:St w w4 (rf PB A N c fc (List.replicate N (-1)) none 0 (gX n fl cm 0) g [] []):=by
  have h9:=a8.perm (show List.Perm _ (ar 2 k8 1 1 [-1]::rf PB A N c fc (List.replicate N (-1)) none 0 (gX n fl cm 0) g [] []) from by
   classical
   refine px.2 fun z=>?_
   simp only [rf,nW,List.map_nil,rz,nZ,rA,gX,dL,List.range_zero,List.filter_nil,List.length_nil];have:ic vM BM ([]:List lR)=[]:=O;rw [this];omega)
  exact h9.tail
 clear aQ aH aE aC fa;refine az O (Cd.loop (α:=Nat×ai×Nat×List lR) (fun z=> [(1,.slice A2 n c2),(2,.pointer PB),(5,.slice fc N N),(6,.map (some g)),(7,.func (.func 229) #[] #[.pointer PB]),(8,.slice z.2.1 (gX n fl cm z.1).length z.2.2.1),(26,aj N),(27,aj (z.1:Int))]) (fun z w'=>z.1<=N/\iJ n fl (vS n fl cm z.1 0) (fun _=>False) (5*z.1) z.2.2.2/\St w w' (rf PB A N c fc (List.replicate N (-1)) z.2.1 z.2.2.1 (gX n fl cm z.1) g z.2.2.2 [])) (fun z=>N - z.1) (0,none,0,[]) (ajz O) ⟨bu _,iJ.zero,a8⟩ ?_);clear a8;rintro⟨f,Aa,ca,M⟩ e w5 ⟨hf,gN,hS⟩;dsimp only at hf gN hS|-;have cO:(gX n fl cm f).length<=500:=by
  refine iS (oa _ _) ?_;rw [dL,mf,tH];omega
 refine b8 O (aM _ O (fun h1=>?_) (fun h1=>?_))
 ·have xm:f<N:=by omega
  have fa:Rd w5 PB 1 (fun _=> .slice A N c):=Rd.one (hS.rd 1 O);have FA:=hS.cV hM;have dM:=FA.at_ (i:=(f:Int)) (by omega) (by omega);have jG:=dM.1;have QD:=hl _ (Bh f xm);have hnn:(rg rs f).n=n:=by omega
  have sW:=WV (n:=n) (c:=cm) (x:=gl fl f) bE;have AV:=VJ (n:=n) (fl:=fl) (c:=cm) (f:=f);refine aD O (ajt (j:=0) fa (by exact aL Value.pointer (mF _).symm) O O O O (aq O (aA FA.top.2 O (bQ FA.top O (aF (NK A2 (rg rs f).a n c2 (rg rs f).n (rg rs f).c cm (gl fl f) _ (hS.b9 hC) dM hnn.symm (by omega)) O ?_)))));rintro _ w6 ⟨lJ,Ny,rfl,ax⟩;have bg:=hS.ao ax.below;have O7:=bg.b9 hC;have C7:=ax.bk 0 O;clear ax hS fa FA dM;refine aq O ?_;refine aF (Ux lJ _ Ny (mn cm (gl fl f)) A2 n c2 cm _ C7 O7 (by rw [zX];omega)) O ?_;rintro _ w7 ⟨rfl,ax⟩;have bl:=bg.ao ax.below;clear ax bg C7 O7
  first | refine de rfl rfl ?_ | refine dV rfl rfl ?_
  refine az O (aM _ O (fun h2=>?_) (fun h2=>?_))
  ·have gE:¬jo n cm (gl fl f):=fun h=>h2 (sW.2 h)
   rw [aR gE]at AV;refine aD O (aK O (aS O (tQ ?_)));refine⟨(f+1,Aa,ca,M),by show N - (f+1)<N - f;omega,⟨O,O,O,O,O,?_,O,O,aw⟩,by show f+1<=N;omega,(gN.skip gE).more (by show 5*f<=5* (f+1);omega),?_⟩
   ·show Value.slice _ _ _=_;rw [AV]
   show St w w7 (rf _ _ _ _ _ _ _ _ (gX n fl cm (f+1)) _ _ _);rw [AV];exact bl
  have jS:jo n cm (gl fl f):=sW.1 (mM.1 h2);rw [aT jS]at AV;refine aD O (dE bl O O O ?_);intro A9 w8 bK;refine dS 3 bK O (bK.bk 0 O) O O O ?_;intro AZ cZ w9 bh;have bh:St w w9 (rf PB A N c fc (List.replicate N (-1)) AZ cZ (gX n fl cm (f+1)) g M []):=by
   have h9:=bh.tail;rw [AV];show St w w9 (_::_::ar _ AZ ((gX n fl cm f++ [(f:Int)]).length) cZ _::_);rw [dh];exact h9
  have aaH:(gX n fl cm f).length+1=(gX n fl cm (f+1)).length:=by rw [AV,dh];rfl
  clear bK bl;refine aq O (ba O O (az O ?_));refine Cd.loop (α:=Nat×List lR) (fun z=> [(1,.slice A2 n c2),(2,.pointer PB),(5,.slice fc N N),(6,.map (some g)),(7,.func (.func 229) #[] #[.pointer PB]),(8,.slice AZ (gX n fl cm (f+1)).length cZ),(26,aj N),(27,aj f),(9,aj f),(44,aj n),(45,aj (z.1:Int))]) (fun z w'=>z.1<=n/\iJ n fl (vS n fl cm f z.1) (fun _=>False) (5*f+z.1) z.2/\St w w' (rf PB A N c fc (List.replicate N (-1)) AZ cZ (gX n fl cm (f+1)) g z.2 [])) (fun z=>n - z.1) (0,M) ⟨O,O,O,O,O,aL (fun m=>Value.slice AZ m cZ) aaH,O,O,O,O,O,aw⟩ ⟨bu _,gN,bh⟩ ?_;clear bh gN;rintro⟨i,M⟩ e dA ⟨hi,gN,hS⟩;dsimp only at hi gN hS|-;refine b8 O (aM _ O (fun h3=>?_) (fun h3=>?_))
  ·have da:i<n:=by omega
   refine aD O (aF (S4 PB A N c n rs fl f i _ (hT.ao hS.below) (Rd.one (hS.rd 1 O)) (hS.cV hM) xm (by omega) QD.1 da (by omega) QD.2) O ?_);rintro _ eA ⟨rfl,ax⟩;have hS:=hS.ao ax.below;have hlen:=gN.len (ku (gl fl f) i);have Bt:=gN.put (by omega) da jS;generalize pQ:ku (gl fl f) i=kx at*;have hrx:=(HF (pre:=[_,_,_,_]) (x:=kx) hS).1;clear ax;refine aq O ?_;refine ak.look (v:= .slice (iM M kx).a (iM M kx).n (iM M kx).c) BI (hS.BZ 3 rfl) rfl rfl (by unfold iM;cases eM M kx<;>rfl) rfl ?_;refine aq O (dE hS O O O ?_);intro A9 fY eo;have eo:=St.TH (pre:=[_,_,_,_,_]) (x:=kx) eo;refine dS 0 eo O (eo.bk 1 O) O O O fun AY cY iw fR=>EP O BI 5 (a:=kx) (u:=(⟨AY,(iM M kx).n+1,cY⟩,je M kx++ [(f:Int)])) fR O O O O ?_;intro rq l9;have kD:=(MX (M:=M) (x:=kx) (u:=(⟨AY,(iM M kx).n+1,cY⟩,je M kx++ [(f:Int)])) (pre:=[_,_,_,_,_]) l9).tail;refine aq O (aK O (aS O (tQ ?_)));exact⟨(i+1,iD M kx (⟨AY,(iM M kx).n+1,cY⟩,je M kx++ [(f:Int)])),by show n - (i+1)<n - i;omega,(ajz O),by show i+1<=n;omega,Bt _,kD⟩
  obtain rfl:i=n:=by omega
  refine bo O (bn (cJ O (aK O (aS O (tQ ?_)))));exact⟨(f+1,AZ,cZ,M),by show N - (f+1)<N - f;omega,(ajz O),by show f+1<=N;omega,gN.row.more (by show 5*f+i<=5* (f+1);omega),hS⟩
 obtain rfl:f=N:=by omega
 subst kS;have Jt:=Cy n fl cm;have gN:iJ n fl (fun y _=>jo n cm (gl fl y)) (fun y=>0<=gi (List.replicate fl.length (-1:Int)) y) 2005 M:=((gN.congr fun y i hy hi=> ⟨fun h=>h.1,fun h=> ⟨h,.inl hy⟩⟩).mono fun y _ h=>h.elim).more (by omega);have oi:=aeg (n:=n) (fl:=fl) (c:=cm) (jM.zero fl.length (jb n fl cm));have gf:=fun(L:ah) (j f:Nat) (hj:j< (gX n fl cm fl.length).length) (hf:gi (gX n fl cm fl.length) j=f) h=>aeh (n:=n) (fl:=fl) (c:=cm) (L:=L) hj hf h
 have gp:=fun y:Int=>CM (n:=n) (fl:=fl) (c:=cm) (f:=fl.length) (y:=y)
 generalize gX n fl cm fl.length=al at*;refine bo O (bn (cJ O (ba O O (az O ?_))));refine Cd.loop (α:=Nat×ah×List lR) (fun z=> [(1,.slice A2 n c2),(2,.pointer PB),(5,.slice fc fl.length fl.length),(6,.map (some g)),(7,.func (.func 229) #[] #[.pointer PB]),(62,.slice Aa al.length ca),(63,aj (al.length:Int)),(64,aj (z.1:Int))]) (fun z w'=>z.1<=al.length/\jM fl.length (jb n fl cm) (nz fl.length al z.1) z.2.1/\iJ n fl (fun y _=>jo n cm (gl fl y)) (fun y=>0<=gi z.2.1 y) 2005 z.2.2/\St w w' (rf PB A fl.length c fc z.2.1 Aa ca al g z.2.2 [])) (fun z=>al.length - z.1) (0,List.replicate fl.length (-1),M) (ajz O) ⟨bu _,oi,gN,hS⟩ ?_;clear hS gN oi hf h1;rintro⟨j,L0,M⟩ e w6 ⟨hj,oi,gN,hS⟩;dsimp only at hj oi gN hS|-;refine b8 O (aM _ O (fun h1=>?_) (fun h1=>?_))
 ·have F4:j<al.length:=by omega
  have Qn:=(gp _).1 (gi_in F4);obtain⟨f,hf⟩:∃f:Nat,gi al j=f:=⟨(gi al j).toNat,by omega⟩;have gQ:nz fl.length al j=f:=by unfold nz;rw [if_pos F4,hf];rfl
  rw [hf]at Qn;rw [gQ]at oi;have nD:=oi.1;have Ze:jb n fl cm f f:=⟨Qn.2,.refl (by omega)⟩;have wV:=hS.bk 0 O;refine aD O (aA (hS.bk 2 O).2 O (aY (hS.bk 2 O) O (aq O ?_)));rw [hf];refine aA wV.2 O (aY wV O (az O ?_));refine aM _ O (fun h2=>?_) (fun h2=>?_)
  ·refine aD O (aK O (aS O (tQ ?_)));exact⟨(j+1,L0,M),by show al.length - (j+1)<al.length - j;omega,(ajz O),by show j+1<=al.length;omega,gf _ j f F4 hf (oi.skip Jt (by omega) (.inl h2)),gN,hS⟩
  have h0:gi L0 f<0:=by omega
  refine aD O (aA wV.2 O (ak.iG 0 hS O O O (by omega) ?_));intro w7 bl;have bl:St w w7 (rf PB A fl.length c fc (L0.set f (f:Int)) Aa ca al g M []):=bl;refine aq O (dE bl O O O ?_);intro Ao w8 bK;have kQ:=oc.start (A:=wg n fl cm) nD (show f<fl.length by omega) h0 Ze;have gN:=gN.mono (G':=fun y=>0<=gi (L0.set f (f:Int)) y) fun y _ h=>IV h
  refine az O (Cd.loop (α:=Nat×ah×List Nat×ai×Nat×List lR) (fun z=> [(1,.slice A2 n c2),(2,.pointer PB),(5,.slice fc fl.length fl.length),(6,.map (some g)),(7,.func (.func 229) #[] #[.pointer PB]),(62,.slice Aa al.length ca),(63,aj (al.length:Int)),(64,aj j),(13,aj f),(14,.slice z.2.2.2.1 (z.2.2.1.length - z.1) z.2.2.2.2.1)]) (fun z w'=>oc fl.length (jb n fl cm) (wg n fl cm) f L0 z.2.1 z.2.2.1 z.1/\iJ n fl (fun y _=>jo n cm (gl fl y)) (fun y=>0<=gi z.2.1 y) 2005 z.2.2.2.2.2/\St w w' (ar 2 z.2.2.2.1 (z.2.2.1.length - z.1) z.2.2.2.2.1 (nh (z.2.2.1.drop z.1))::rf PB A fl.length c fc z.2.1 Aa ca al g z.2.2.2.2.2 [])) (fun z=>fl.length+1 - z.1) (0,L0.set f (f:Int),[f],Ao,1,M) (ajz O) ⟨kQ,gN,bK⟩ ?_);clear bK bl hS wV kQ gN;rintro⟨k,L,Q,Ao,co,M⟩ e w9 ⟨kQ,gN,hS⟩;dsimp only at kQ gN hS|-;have DO:=kQ.LC;have ji:=kQ.KO;refine bb O (ba O O (az O ?_));refine aM _ O (fun h3=>?_) (fun h3=>?_)
  ·have nH:k<Q.length:=by omega
   obtain⟨x,hx⟩:∃x,Q.getD k 0=x:=⟨_,rfl⟩;have Rw:x∈Q:=by rw [<-hx,dt,fU nH];exact fe _
   have sq:=kQ.su x Rw;have Za:jo n cm (gl fl x):=(sq.2.2.1.of sq.2.2.2);have Bn:=hl _ (Bh x sq.1);refine aD O (ba O O (az O ?_));refine Cd.loop (α:=Nat×ah×List Nat×ai×Nat×List lR) (fun z=> [(1,.slice A2 n c2),(2,.pointer PB),(5,.slice fc fl.length fl.length),(6,.map (some g)),(7,.func (.func 229) #[] #[.pointer PB]),(62,.slice Aa al.length ca),(63,aj (al.length:Int)),(64,aj j),(13,aj f),(14,.slice z.2.2.2.1 (z.2.2.1.length - k) z.2.2.2.2.1),(85,aj n),(86,aj (z.1:Int))]) (fun z w'=>z.1<=n/\oc fl.length (jb n fl cm) (wg n fl cm) f L0 z.2.1 z.2.2.1 k/\(k<z.2.2.1.length/\z.2.2.1.getD k 0=x)/\iJ n fl (fun y _=>jo n cm (gl fl y)) (fun y=>0<=gi z.2.1 y) 2005 z.2.2.2.2.2/\(∀i' y:Nat,i'<z.1->y<fl.length->jo n cm (gl fl y)->ku (gl fl y) i'=ku (gl fl x) i'->0<=gi z.2.1 y)/\St w w' (ar 2 z.2.2.2.1 (z.2.2.1.length - k) z.2.2.2.2.1 (nh (z.2.2.1.drop k))::rf PB A fl.length c fc z.2.1 Aa ca al g z.2.2.2.2.2 [])) (fun z=>n - z.1) (0,L,Q,Ao,co,M) (ajz O) ⟨bu _,kQ,⟨nH,hx⟩,gN,fun i' y h=>absurd h (mg _),hS⟩ ?_;clear hS gN kQ hx Rw nH DO ji h3;rintro⟨i,Li,Qi,Ao,co,M⟩ e dA ⟨hi,kQ,⟨nH,hx⟩,gN,sX,hS⟩;dsimp only at hi kQ nH hx gN sX hS|-;refine b8 O (aM _ O (fun h4=>?_) (fun h4=>?_))
   ·have da:i<n:=by omega
    have yN:gi (nh (Qi.drop k)) 0=(x:Int):=by
     have h9:=acF nH;rw [hx]at h9;rw [<-h9];unfold nh;rw [List.map_drop,X5]
    have hdl:(nh (Qi.drop k)).length=Qi.length - k:=by simp [nh]
    have Jv:=hS.bk 0 O;refine aD O (ajn (i:=0) Jv.2 O O O (by omega) (by omega) ?_);refine ajo (i:=0) Jv O (by show 0<_;omega) O O ?_;refine aq O ?_;rw [yN];refine aF (S4 PB A fl.length c n rs fl x i _ (hT.ao hS.below) (Rd.one (hS.rd 2 O)) (hS.cV hM) sq.1 (by omega) Bn.1 da (by omega) Bn.2) O ?_;rintro _ eA ⟨rfl,ax⟩;have hS:=hS.ao ax.below;have JG:=fun y hy=>gN.VI DH sq.1 da Za (y:=y) hy
    have aaa:=gN.len (ku (gl fl x) i);have PZ:=fun(y:Nat) (hy:y<fl.length) (hH:jo n cm (gl fl y)) (he:ku (gl fl y) i=ku (gl fl x) i)=>he▸gN.al y i hy da hH
    generalize pQ:ku (gl fl x) i=kx at*;clear ax Jv;obtain⟨sx,DX⟩:∃sx,iM M kx=sx:=⟨_,rfl⟩;obtain⟨ys,Gp⟩:∃ys,je M kx=ys:=⟨_,rfl⟩;have gF:∀ {w':aa} {Ao:ai} {no co:Nat} {qs:ah} {L:ah},St w w' (ar 2 Ao no co qs::rf PB A fl.length c fc L Aa ca al g M [])->bt w' sx.a sx.n ys:=fun h=>by
     rw [<-DX,<-Gp];exact HF (pre:=[_,_,_,_,_]) (x:=kx) h
    rw [Gp]at aaa JG PZ;have pZ:=(gF hS).1;refine aq O ?_;refine ak.look (v:= .slice sx.a sx.n sx.c) BI (hS.BZ 4 rfl) rfl rfl (by rw [<-DX];unfold iM;cases eM M kx<;>rfl) rfl ?_;refine ba O O (az O ?_);refine Cd.loop (α:=Nat×ah×List Nat×ai×Nat) (fun z=> [(1,.slice A2 n c2),(2,.pointer PB),(5,.slice fc fl.length fl.length),(6,.map (some g)),(7,.func (.func 229) #[] #[.pointer PB]),(62,.slice Aa al.length ca),(63,aj (al.length:Int)),(64,aj j),(13,aj f),(14,.slice z.2.2.2.1 (z.2.2.1.length - k) z.2.2.2.2),(85,aj n),(86,aj i),(16,vM kx),(97,.slice sx.a sx.n sx.c),(98,aj (sx.n:Int)),(99,aj (z.1:Int))]) (fun z w'=>z.1<=sx.n/\oc fl.length (jb n fl cm) (wg n fl cm) f L0 z.2.1 z.2.2.1 k/\(k<z.2.2.1.length/\z.2.2.1.getD k 0=x)/\(∀p:Nat,p<z.1->0<=gi z.2.1 (gi ys p))/\(∀y:Nat,0<=gi Li y->0<=gi z.2.1 y)/\St w w' (ar 2 z.2.2.2.1 (z.2.2.1.length - k) z.2.2.2.2 (nh (z.2.2.1.drop k))::rf PB A fl.length c fc z.2.1 Aa ca al g M [])) (fun z=>sx.n - z.1) (0,Li,Qi,Ao,co) (ajz O) ⟨bu _,kQ,⟨nH,hx⟩,fun p h=>absurd h (mg _),fun y h=>h,hS⟩ ?_;clear hS kQ nH hx yN hdl;rintro⟨q,L,Q,Ao,co⟩ e fY ⟨hq,kQ,⟨nH,hx⟩,F9,Bp,hS⟩;dsimp only at hq kQ nH hx F9 Bp hS|-;have DO:=kQ.LC;have hLl2:=kQ.len;refine b8 O (aM _ O (fun h5=>?_) (fun h5=>?_))
    ·have hqy:q<ys.length:=by omega
     have Rc:=gF hS;obtain⟨y,hy,ze,KC⟩:=JG _ (gi_in hqy);have wV:=hS.bk 1 O;refine aD O (aA Rc.2 O (aY Rc O (aq O ?_)));rw [hy];refine aA wV.2 O (aY wV O (az O ?_));refine aM _ O (fun h6=>?_) (fun h6=>?_)
     ·have hmt:=kQ.meet ze h6 (Jt.wa _ _ _ sq.2.2 (KC.link r8 nI));refine aD O (aA wV.2 O (ak.iG 1 hS O O O (by omega) ?_));intro iw fR;refine aq O (dE fR O O O ?_);intro A9 rq l9;refine dS 1 l9 O (l9.bk 0 O) O O O ?_;intro AZ cZ uR kD;have kD:=kD.tail;have QH:(Q++ [y]).length - k=(Q.length - k)+1:=by rw [dh];show Q.length+1 - k=_;omega
      refine aq O (aK O (aS O (tQ ?_)));refine⟨(q+1,L.set y (f:Int),Q++ [y],AZ,cZ),by show sx.n - (q+1)<sx.n - q;omega,⟨O,O,O,O,O,O,O,O,O,aL (fun m=>Value.slice AZ m cZ) QH.symm,O,O,O,O,O,O,aw⟩,by show q+1<=sx.n;omega,hmt,⟨by show k< (Q++ [y]).length;rw [dh];omega,by show(Q++ [y]).getD k 0=x;rw [X4 nH,hx]⟩,fun p hp=>?_,fun z hz=>IV (Bp z hz),?_⟩
      ·by_cases ep:p=q
       ·subst ep;rw [hy];have h9:=X7 (L:=L) (y:=y) (f:=f) (by omega);show 0<=gi (L.set y (f:Int)) y;omega
       have hp:p<q+1:=hp;obtain⟨y9,KB,_,_⟩:=JG _ (gi_in (show p<ys.length by omega));have h9:=F9 p (by omega);rw [KB]at h9|-;exact IV h9
      show St w uR (ar _ AZ ((Q++ [y]).length - k) cZ (nh ((Q++ [y]).drop k))::_);rw [QH,acG (by omega)];exact kD
     refine aD O (aK O (aS O (tQ ?_)));refine⟨(q+1,L,Q,Ao,co),by show sx.n - (q+1)<sx.n - q;omega,(ajz O),by show q+1<=sx.n;omega,kQ,⟨nH,hx⟩,fun p hp=>?_,Bp,hS⟩
     by_cases ep:p=q
     ·subst ep;rw [hy];show 0<=gi L y;omega
     have hp:p<q+1:=hp;exact F9 p (by omega)
    have cO:∀y:Nat,(y:Int)∈ys->0<=gi L y:=fun y hy=>by
     obtain⟨p,hp,e9⟩:=gj.1 hy;rw [<-bX hp]at e9;have:=F9 p (by omega)
     rwa [e9]at this
    have YY:=(gN.mono (G':=fun y=>0<=gi L y) fun y _ h=>Bp y h).del (x:=kx) fun y hy=>cO y (Gp▸hy)
    refine bo O (bn (cJ O ?_));refine U7 BI 4 (a:=kx) hS O O O ?_;intro iw fR;have fR:=Vx (pre:=[_,_,_,_,_]) (x:=kx) fR;refine aq O (aK O (aS O (tQ ?_)));refine⟨(i+1,L,Q,Ao,co,jD M kx),by show n - (i+1)<n - i;omega,(ajz O),by show i+1<=n;omega,kQ,⟨nH,hx⟩,YY,fun i' y dI ze hH he=>?_,fR⟩
    by_cases ei:i'=i
    ·subst ei;rcases PZ y ze hH (he.trans pQ)with h9 | h9
     ·exact cO y h9
     exact Bp y h9
    exact Bp y (sX i' y (by have dI:i'<i+1:=dI;omega) ze hH he)
   obtain rfl:i=n:=by omega
   have DO:=kQ.LC;have pR:=kQ.next nH fun y hy=>by
    rw [hx]at hy;obtain⟨_,Zb,i',dI,ha⟩:=hy;exact sX i' y dI ha.2.1 Zb ((Tg Bn.1 (hl _ (Bh y ha.2.1)).1).2 fun k9 h9 fH=>ha.2.2 k9 h9 fH).symm
   have hkQ2:k<Qi.length:=nH;have Be:=Vw (i:=0) (l:=1) hS O (by show 1<=Qi.length - k;omega);refine bo O (bn (cJ O ?_));refine yd (l:=1) O O O (by omega) (aS O (tQ ?_));refine⟨(k+1,Li,Qi,cutAt Ao co 1,co - 1,M),by show fl.length+1 - (k+1)<fl.length+1 - k;omega,⟨O,O,O,O,O,O,O,O,O,aL (fun m=>Value.slice (cutAt Ao co 1) m (co - 1)) (Nat.sub_sub _ _ _),aw⟩,pR,gN,?_⟩;show St w dA (ar _ (cutAt Ao co 1) (Qi.length - (k+1)) (co - 1) (nh (Qi.drop (k+1)))::_);have e9:nh (Qi.drop (k+1))=(nh (Qi.drop k)).drop 1:=by simp [nh]
   rw [e9,<-Nat.sub_sub];exact Be
  have nH:k=Q.length:=by omega
  subst nH;have vx:=kQ.end_ Jt oi (by omega) h0 (fun S aC aE=>UJ S aC aE) (fun x y h=>h.link r8 nI);refine bo O (bn (cJ O (aK O (aS O (tQ ?_)))));exact⟨(j+1,L,M),by show al.length - (j+1)<al.length - j;omega,(ajz O),by show j+1<=al.length;omega,gf _ j f F4 hf vx,gN,hS.tail⟩
 have DE:j=al.length:=by omega
 have gQ:nz fl.length al j=fl.length:=by unfold nz;rw [if_neg (by omega)]
 rw [gQ]at oi;refine bo O (bn (eG O ?_));exact fb O ⟨fc,L0,O,oi,hS.sub ((List.nil_sublist _).cons_cons _)⟩
def uset(u:Nat->ab)(k:Nat)(v:ab):Nat->ab:=fun j=>cond (Nat.beq j k) v (u j)
theorem ag4{u:Nat->ab}{k:Nat}{v:ab}(h:u k=v):u=uset u k v:=by
 funext j;unfold uset;cases hb:Nat.beq j k with
 | true=>rw [mO hb,h];rfl
 | false=>rfl
theorem W7(A:ai)(N c:Nat)(rs:List aX)(fl:ag)(n:Nat)(w:aa)(hT:qD w)(hM:bL w A N rs fl)(hN:N<=401)(hn:n<=5)(hl:∀x∈fl,x.length=n/\∀e∈x,0<=e/\e<=1000000)(r8:fl.Nodup):
 aG prog 134 [.slice A N c] w (fun v w'=>∃A' n' c',v= .slice A' n' c'/\(A'.isNone=true↔Mq n fl)/\St w w' []):=by
 have kS:=hM.len;have Bh:∀f:Nat,f<N->gl fl f∈fl:=fun f hf=>by rw [fm (by omega)];exact fe _
 have DH:∀x∈fl,x.length=n/\∀e∈x,0<=e:=fun x hx=> ⟨(hl x hx).1,fun e he=> ((hl x hx).2 e he).1⟩
 refine bw func134 O ntmps134 O (b7 O) (bb O (EO (St.refl w) O ?_));intro g w1 aC;have aC:St w w1 (jn 180 g (ic vM BM ([]:List lR))::(nW 2 ([]:List lR)++ [])):=aC;refine aq O (aF (Er _ _ _ _) O ?_);rintro _ w1 ⟨rfl,rfl⟩;refine az O ?_;refine Cd.loop (α:=Nat×List lR) (fun z=> [(0,.slice A N c),(3,.map (some g)),(12,aj N),(13,aj (z.1:Int))])
  (fun z w'=>z.1<=N/\(∀l u,eM z.2 l=some u->jM N (jb n fl l) N u.2)/\(∀a b:Nat,a<z.1->a<b->b<N->kK n fl (fun k=>gi (gl fl a) k=gi (gl fl b) k) a b)/\St w w' (jn 180 g (ic vM BM z.2)::(nW 2 z.2++ []))) (fun z=>N - z.1) (0,[]) ⟨rfl,rfl,rfl,rfl,aw⟩ ⟨bu _,fun l u h=>by simp [eM]at h,fun a b h=>absurd h (mg _),aC⟩ ?_
 clear aC;rintro⟨a,M⟩ e w2 ⟨ha,sU,sX,hS⟩;dsimp only at ha sU sX hS|-;refine b8 O (aM _ O (fun h1=>?_) (fun h1=>?_))
 ·have JF:a<N:=by omega
  refine aD O (aK O (az O ?_));refine Cd.loop (α:=Nat×List lR) (fun z=> [(0,.slice A N c),(3,.map (some g)),(12,aj N),(13,aj a),(4,aj a),(5,aj (z.1:Int))])
   (fun z w'=> (a<z.1/\z.1<=N)/\(∀l u,eM z.2 l=some u->jM N (jb n fl l) N u.2)/\(∀b:Nat,a<b->b<z.1->kK n fl (fun k=>gi (gl fl a) k=gi (gl fl b) k) a b)/\St w w' (jn 180 g (ic vM BM z.2)::(nW 2 z.2++ []))) (fun z=>N - z.1) (a+1,M) ⟨rfl,rfl,rfl,rfl,rfl,rfl,aw⟩ ⟨⟨Nat.lt_succ_self _,JF⟩,sU,fun b h h'=>by omega,hS⟩ ?_
  clear hS sU;rintro⟨b,M⟩ e w3 ⟨⟨kl,Z4⟩,sU,Bf,hS⟩;dsimp only at kl Z4 sU Bf hS|-;refine bb O (aF (Er _ _ _ _) O ?_);rintro _ w3 ⟨rfl,rfl⟩;refine az O (aM _ O (fun h2=>?_) (fun h2=>?_))
  ·have hb:b<N:=by omega
   have yz:=hS.cV hM;have DP:=yz.at_ (i:=(a:Int)) (by omega) (by omega);have xz:=yz.at_ (i:=(b:Int)) (by omega) (by omega);have J4:=hl _ (Bh a JF);have hlB:=hl _ (Bh b hb);have hna:(rg rs a).n=n:=by rw [<-DP.1];exact J4.1
   have hnb:(rg rs b).n=n:=by rw [<-xz.1];exact hlB.1
   have ov:=WW (n:=n) DH (show a<fl.length by omega) (show b<fl.length by omega);have bE:(mn (gl fl a) (gl fl b)).length=n:=by rw [zX];exact J4.1
   have hcr:∀x∈mn (gl fl a) (gl fl b),-1<=x/\x<=1000000:=fun x hx=>by
    obtain⟨k,hk,rfl⟩:=eh.1 hx;have hk:=nu.1 hk
    split
    ·have:=J4.2 _ (gi_in hk);omega
    ·omega
   refine cW O ?_;refine dQ [xS (A) (N) (c),xI ((a:Int)),xP (aB (A) ((a:Int)).toNat),xS ((rg (rs) ((a:Int))).a) ((rg (rs) ((a:Int))).n) ((rg (rs) ((a:Int))).c),xS (A) (N) (c),xI ((b:Int)),xP (aB (A) ((b:Int)).toNat),xS ((rg (rs) ((b:Int))).a) ((rg (rs) ((b:Int))).n) ((rg (rs) ((b:Int))).c),.pr (fun v w'=>∃A6 c6,v= .slice A6 n c6/\bt w' A6 n (mn (gl fl a) (gl fl b))),.pr (fun v w'=>∃A6 c6,v= .slice A6 n c6/\bt w' A6 n (mn (gl fl a) (gl fl b)))] rfl (lx (lx (lx (lx (lx (lx (lx (lx (cg.2 ⟨Yd.cH (fun v w w' h hb=>by obtain⟨A6,c6,hv,hT⟩:=h;exact⟨A6,c6,hv,hT.ao hb⟩),(cg.2 ⟨Yd.cH (fun v w w' h hb=>by obtain⟨A6,c6,hv,hT⟩:=h;exact⟨A6,c6,hv,hT.ao hb⟩),(fun _ h=>by cases h)⟩)⟩))))))))) ?_ ?_
   ·refine⟨Dr O,Dr O,fun _ _ hb _ _=>aA (yz.top.ao hb).2 O Az,fun _ _ hb _ _=>bQ (yz.top.ao hb) O Az,Dr O,Dr O,fun _ _ hb _ _=>aA (yz.top.ao hb).2 O Az,fun _ _ hb _ _=>bQ (yz.top.ao hb) O Az,?_,?_,aw⟩
    ·intro e1 w1 hb hp bc;refine aF (NK (rg rs a).a (rg rs b).a (rg rs a).n (rg rs a).c (rg rs b).n (rg rs b).c (gl fl a) (gl fl b) _ (DP.ao hb) (xz.ao hb) (by omega) (by omega)) O ?_;rintro _ w9 ⟨A6,c6,rfl,ax⟩;refine ak.n ?_;exact e6.dn ax.below ⟨A6,c6,by rw [bE],by have h9:=ax.bk 0 O;rw [bE]at h9;exact h9⟩
    ·intro e1 w1 hb hp bc;obtain⟨A6,c6,Ag,hT⟩:=(hp 8 (by decide) rfl _ _ rfl rfl);refine kc O (by exact Ag) O (ak.n ?_);exact e6.dn (Below.refl _ _) ⟨A6,c6,O,hT⟩
   intro u w4 jX hu;obtain⟨A6,c6,h6,oj⟩:=hu 9 _ rfl;rw [ag4 h6];have aQ:=hS.ao jX;generalize rW:mn (gl fl a) (gl fl b)=cm at*;clear hu hS yz DP xz;refine fJ O ?_;refine aF (RO A6 n c6 cm _ (hT.ao aQ.below) oj (fun x hx=>by have:=hcr x hx;omega) (by omega)) O ?_;rintro _ w5 ⟨rfl,ax⟩;have a8:=aQ.ao ax.below;have oj:=oj.ao ax.below;clear ax aQ;refine aq O ?_;refine Hy (v:= .slice (iM M cm).a (iM M cm).n (iM M cm).c) BI (x:=cm) (a8.BZ 0 rfl) rfl rfl (by unfold iM;cases eM M cm<;>rfl) rfl ?_;refine aq O ?_
   first | refine de rfl rfl ?_ | refine dV rfl rfl ?_
   refine az O ?_;cases JV:eM M cm with
   | none => --dup 2
    refine Cd.eH O (aD O (aF (ae4 A N c rs fl n A6 c6 cm _ (hT.ao a8.below) (a8.cV hM) oj hN hn hl r8) O ?_));rintro _ w6 ⟨A8,L,rfl,hL,ax⟩;have bg:=a8.call ax;refine aq O (EP O BI 1 (a:=cm) (u:=(⟨A8,N,N⟩,L)) bg O O O O ?_);intro w7 bl;have bM:bt w7 A8 N L:=bl.bk 0 O;have bK:St w w7 (jn 180 g (ic vM BM (iD M cm (⟨A8,N,N⟩,L)))::(nW 2 (iD M cm (⟨A8,N,N⟩,L))++ [])):=MX (M:=M) (x:=cm) (u:=(⟨A8,N,N⟩,L)) (pre:=[_]) (by rw [IQ JV];exact bl);have Zl:∀l u,eM (iD M cm (⟨A8,N,N⟩,L)) l=some u->jM N (jb n fl l) N u.2:=fun l u h=>by
     rw [IL]at h
     split at h
     ·rename_i e;subst e;injection h with h
      subst h;exact hL
     ·exact sU l u h
    clear bl bg a8 ax oj;have nD:=hL.1;have bT:=bM.1;have Dv:=hL.done (Cy n fl cm |>fun h=>kS▸h) ov.1 ov.2.1;refine az O (dQ [xS (A8) (N) (N),xI ((a:Int)),xP (aB (A8) ((a:Int)).toNat),xI (gi (L) ((a:Int))),xS (A8) (N) (N),xI ((b:Int)),xP (aB (A8) ((b:Int)).toNat),xI (gi (L) ((b:Int))),xB (decide (¬(gi (L) ((a:Int)))=(gi (L) ((b:Int)))))] O (eE O) ?_ ?_)
    ·exact⟨Dr O,Dr O,fun _ _ hb _ _=>aA (bM.ao hb).2 O Az,fun _ _ hb _ _=>aY (bM.ao hb) O Az,Dr O,Dr O,fun _ _ hb _ _=>aA (bM.ao hb).2 O Az,fun _ _ hb _ _=>aY (bM.ao hb) O Az,Dr O,aw⟩
    intro u w9 vt _;have bh:=bK.ao vt;refine fv O (aM _ O (fun h3=>?_) (fun h3=>?_))
    ·refine aD O (lj [(a:Int),(b:Int)] bh O O (by decide) (by decide) O O fun A9 dA cj=>bD O (dO (dJ (dO (dJ ?_)))));refine fb O ⟨A9,2,2,O,⟨fun h=>?_,fun h=>?_⟩,cj.none⟩
     ·rw [CK (cj.bk 0 rfl).2 (by decide)]at h;cases h
     ·exact absurd (Dv.2 (ov.2.2.2 (h a b kl (by omega)))) h3
    ·have bz:=ov.2.2.1 (Dv.1 (mM.1 h3));refine aD O (aK O (aS O (tQ ?_)));exact⟨(b+1,iD M cm (⟨A8,N,N⟩,L)),by show N - (b+1)<N - b;omega,(ajz O),⟨Nat.lt_succ_of_lt kl,hb⟩,Zl,fun b' h4 h5=>by
      by_cases e9:b'=b
      ·subst e9;exact bz
      ·exact Bf b' h4 (by have h5:b'<b+1:=h5;omega),bh⟩
   | some u0=>
    have hL:jM N (jb n fl cm) N (je M cm):=by
     rw [(IZ JV).2];exact sU cm u0 JV
    have bM:bt w5 (iM M cm).a (iM M cm).n (je M cm):=HF (pre:=[_]) (x:=cm) a8;refine Cd.dZ O ?_;have nD:=hL.1;have bT:=bM.1;have Dv:=hL.done (Cy n fl cm |>fun h=>kS▸h) ov.1 ov.2.1;refine cW O (dQ [xS ((iM M cm).a) ((iM M cm).n) ((iM M cm).c),xI ((a:Int)),xP (aB ((iM M cm).a) ((a:Int)).toNat),xI (gi (je M cm) ((a:Int))),xS ((iM M cm).a) ((iM M cm).n) ((iM M cm).c),xI ((b:Int)),xP (aB ((iM M cm).a) ((b:Int)).toNat),xI (gi (je M cm) ((b:Int))),xB (decide (¬(gi (je M cm) ((a:Int)))=(gi (je M cm) ((b:Int)))))] O (eE O) ?_ ?_)
    ·exact⟨Dr O,Dr O,fun _ _ hb _ _=>aA (bM.ao hb).2 O Az,fun _ _ hb _ _=>aY (bM.ao hb) O Az,Dr O,Dr O,fun _ _ hb _ _=>aA (bM.ao hb).2 O Az,fun _ _ hb _ _=>aY (bM.ao hb) O Az,Dr O,aw⟩
    intro u w9 vt _;have bh:=a8.ao vt;refine fv O (aM _ O (fun h3=>?_) (fun h3=>?_))
    ·refine aD O (lj [(a:Int),(b:Int)] bh O O (by decide) (by decide) O O fun A9 dA cj=>bD O (dO (dJ (dO (dJ ?_)))));refine fb O ⟨A9,2,2,O,⟨fun h=>?_,fun h=>?_⟩,cj.none⟩
     ·rw [CK (cj.bk 0 rfl).2 (by decide)]at h;cases h
     ·exact absurd (Dv.2 (ov.2.2.2 (h a b kl (by omega)))) h3
    ·have bz:=ov.2.2.1 (Dv.1 (mM.1 h3));refine aD O (aK O (aS O (tQ ?_)));exact⟨(b+1,M),by show N - (b+1)<N - b;omega,(ajz O),⟨Nat.lt_succ_of_lt kl,hb⟩,sU,fun b' h4 h5=>by
      by_cases e9:b'=b
      ·subst e9;exact bz
      ·exact Bf b' h4 (by have h5:b'<b+1:=h5;omega),bh⟩
  ·have hbe:b=N:=by omega
   refine bo O (bn (cJ O (aK O (aS O (tQ ?_)))));exact⟨(a+1,M),by show N - (a+1)<N - a;omega,(ajz O),JF,sU,fun a' b' h3 h4 h5=>by
    by_cases e9:a'=a
    ·subst e9;exact Bf b' h4 (by omega)
    ·exact sX a' b' (by have h3:a'<a+1:=h3;omega) h4 h5,hS⟩
 ·have hae:a=N:=by omega
  refine bo O (bn (eG O ?_));exact fb O ⟨none,0,0,O,⟨fun _ a' b' h3 h4=>sX a' b' (by omega) h3 (by omega),fun _=>O⟩,hS.none⟩
theorem BU{e:Int}:e∈eO xs x↔(0<=e/\e<xs.length)/\gi xs e=x:=by
 unfold eO;rw [ja,zq,nB]
theorem GY{n:Int}{i e:Int}(h0:0<=i)(h1:i<n):e∈nm n R (i - 1)↔Cz R i e:=by
 unfold nm Cz
 split
 ·rw [BU];exact⟨fun h=> .inr ⟨h.1,by omega,h.2⟩,fun h=>h.elim (fun h=>by omega) fun h=> ⟨h.1,h.2.2⟩⟩
 rw [dK];exact⟨fun h=> .inl ⟨h,by omega⟩,fun h=>h.elim (fun h=>h.1) fun h=>by omega⟩
theorem GX{n:Int}{i f:Int}(h0:0<=i)(h1:i<n):f∈nm n R (i+1)↔Cx n R i f:=by
 unfold nm Cx
 split
 ·rw [BU];exact⟨fun h=> .inr ⟨h.1,by omega,h.2⟩,fun h=>h.elim (fun h=>by omega) fun h=> ⟨h.1,h.2.2⟩⟩
 rw [dK];exact⟨fun h=> .inl ⟨h,by omega⟩,fun h=>h.elim (fun h=>h.1) fun h=>by omega⟩
theorem afN{n:Int}{i:Int}(h0:0<=i)(h1:i<n):nm n R i=eO R i:=by
 unfold nm;rw [aT (by omega)]
theorem LI{n:Int}{i:Int}(h:R.length<=500):(nm n R i).length<=500:=by
 unfold nm
 split
 ·refine iS (oa _ _) ?_;rw [dL,mf,tH];exact h
 exact(by decide:1<=500)
theorem Ta{n:Int}{i e:Int}(h:e∈nm n R i):e= -1\/(0<=e/\e<R.length):=by
 unfold nm at h
 split at h
 ·exact .inr (BU.1 h).1
 exact .inl (dK.1 h)
def qJ(P:Int->Prop)[DecidablePred P](xs:ah)(q:Nat):Nat:=((xs.take q).filter fun x=>decide (P x)).length
section
variable {P:Int->Prop} [DecidablePred P] {xs:ah} {q:Nat}
theorem Ie:qJ P xs q<=q:=by
 unfold qJ;refine iS (oa _ _) ?_;rw [nt];omega
theorem Ih(h:q<xs.length)(hp:P (gi xs q)):qJ P xs (q+1)=qJ P xs q+1:=by
 unfold qJ;rw [LZ h,List.filter_append,dh];simp [hp]
theorem Ig(h:q<xs.length)(hp:¬P (gi xs q)):qJ P xs (q+1)=qJ P xs q:=by
 unfold qJ;rw [LZ h,List.filter_append,dh];simp [hp]
end
def oe(B:ag)(e f x:Int):Prop:=(e<0\/e∈gl B x)/\(f<0\/x∈gl B f)
instance (B:ag)(e f:Int):DecidablePred (oe B e f):=fun x=>by unfold oe;infer_instance
theorem W3{R:ah}{B:ag}{i e f:Int}:qJ (oe B e f) (eO R i) (eO R i).length=(oP R B i e f).length:=by
 unfold qJ oP eO;rw [List.take_length,List.filter_filter]
 congr 1
 refine List.filter_congr fun x _=>?_
 rw [<-Bool.decide_and];refine nA.2 ?_;unfold oe;exact⟨fun h=> ⟨h.2,h.1⟩,fun h=> ⟨h.2,h.1⟩⟩
theorem Xj(n:Int)(A D:ai)(cA cD:Nat)(R:ah)(rs:List aX)(B:ag)(w:aa)(hR:bt w A R.length R)(hB:bL w D B.length rs B)(hP:eV n R B):
 aG prog 133 [.agg #[aj n,.slice A R.length cA,.slice D B.length cD]] w (fun v w'=>∃A' n' c',v= .slice A' n' c'/\(A'.isNone=true↔Hp n R B)/\St w w' []):=by
 have hn:=hP.n1;have rV:=hP.od;have hle:=hP.len;have bM:=fun(e:Int) (h0:0<=e) (h:e< (R.length:Int))=> (hP.at_ h0 h).1
 have bT:∀e:Int,0<=e->e<R.length->(gl B e).length<=500:=fun e h0 h=>by
  have:=sy (N:=R.length) (bM e h0 h).nodup fun x hx=>by have:=((hP.at_ h0 h).2.1 x hx).1;omega
  omega
 refine bw func133 O ntmps133 O (b7 O) (bb O (lT (St.refl w) O O ?_));intro A1 w1 aC;have h1:Rd w1 A1 3 (fun j=> [Value.int .i64 n,.slice A R.length cA,.slice D B.length cD].getD j undef):=aC.rd 0 O;have hR:=aC.b9 hR;have hB:=aC.cV hB;have aC:=aC.none;refine aq O (aI h1 O (fL (j:=0) h1 (by exact aL Value.pointer O) O O O O (az O ?_)));refine Cd.loop (α:=Nat) (fun i=> [(1,.pointer A1),(14,aj n),(15,aj i)]) (fun i w'=> (i:Int)<=n/\(∀i' e f:Int,0<=i'->i'< (i:Int)->e∈nm n R (i' - 1)->f∈nm n R (i'+1)->(0<=e->0<=f->e∈gl B f)->(oP R B i' e f).length=2)/\St w1 w' []) (fun i=>n.toNat - i) 0 (ajz O) ⟨by show((0:Nat):Int)<=n;omega,fun i' e f h h'=>by have h':i'< ((0:Nat):Int):=h';omega,St.refl _⟩ ?_;rintro i e w2 ⟨hi,sX,ax⟩;have h1:=Rd.below h1 ax.below;have hR:=ax.b9 hR;have hB:=ax.cV hB;have aE:=aC.ao ax.below;refine b8 O (aM _ O (fun h2=>?_) (fun h2=>?_))
 ·have Ka:=afN (R:=R) (show 0<=(i:Int) by omega) h2;have aba:=LI (n:=n) (i:=(i:Int)) rV;have aa4:=LI (n:=n) (i:=(i:Int) - 1) rV;have aaM:=LI (n:=n) (i:=(i:Int)+1) rV;have abb:=fun x=>BU (xs:=R) (x:=(i:Int)) (e:=x)
  refine aD O (aF (Lq A1 A D n R.length cA B.length cD R i _ h1 hR (by omega) (by omega)) O ?_);rintro _ w3 ⟨A4,c4,rfl,nN⟩;have h4:=nN.bk 0 O;refine aq O (aK O ?_);refine aF (Lq A1 A D n R.length cA B.length cD R ((i:Int)+1) _ (Rd.below h1 nN.below) (nN.b9 hR) (by omega) (by omega)) O ?_;rintro _ w4 ⟨A5,c5,rfl,qW⟩;have h5:=qW.bk 0 O;have h4:=h4.ao qW.below;refine aq O (dq O ?_);refine aF (Lq A1 A D n R.length cA B.length cD R ((i:Int) - 1) _ (Rd.below h1 (nN.below.trans (qW.below.mono nN.below.size))) (qW.b9 (nN.b9 hR)) (by omega) (by omega)) O ?_;rintro _ w5 ⟨A6,c6,rfl,uz⟩;have h6:=uz.bk 0 O;have h4:=h4.ao uz.below;have h5:=h5.ao uz.below;have fS:=(nN.below.trans (qW.below.mono nN.below.size));have fS:=fS.trans (uz.below.mono fS.size);have h1:=Rd.below h1 fS;have hB:=hB.ao fS;have a8:=aE.ao fS;have ab4:=ax.ao fS;clear nN qW uz ax aE;obtain⟨ms,QM⟩:∃ms,nm n R i=ms:=⟨_,rfl⟩;obtain⟨lr,yR⟩:∃lr,nm n R ((i:Int) - 1)=lr:=⟨_,rfl⟩;obtain⟨ia,yO⟩:∃ia,nm n R ((i:Int)+1)=ia:=⟨_,rfl⟩;rw [QM]at h4 aba Ka;rw [yO]at h5 aaM;rw [yR]at h6 aa4;have Bc:=fun e f=>W3 (R:=R) (B:=B) (i:=(i:Int)) (e:=e) (f:=f)
  rw [<-Ka]at Bc;have yT:∀x∈ms,(0<=x/\x<R.length):=fun x hx=> ((abb x).1 (Ka▸hx)).1
  have hlr:∀x∈lr,x= -1\/(0<=x/\x<R.length):=fun x hx=>Ta (yR▸hx)
  have hhr:∀x∈ia,x= -1\/(0<=x/\x<R.length):=fun x hx=>Ta (yO▸hx)
  rw [QM,yR,yO];refine ba O O (az O ?_);refine Cd.loop (α:=Nat) (fun j=> [(1,.pointer A1),(14,aj n),(15,aj i),(3,aj i),(4,.slice A4 ms.length c4),(5,.slice A5 ia.length c5),(25,.slice A6 lr.length c6),(26,aj (lr.length:Int)),(27,aj j)]) (fun j w'=>j<=lr.length/\w'=w5/\∀p:Nat,p<j->∀f∈ia,(0<=gi lr p->0<=f->gi lr p∈gl B f)->(oP R B i (gi lr p) f).length=2) (fun j=>lr.length - j) 0 (ajz O) ⟨bu _,O,fun p h=>absurd h (mg _)⟩ ?_;rintro j e w6 ⟨hj,rfl,fB⟩;refine b8 O (aM _ O (fun h7=>?_) (fun h7=>?_))
  ·have nG:j<lr.length:=by omega
   refine aD O (aA h6.2 O (aY h6 O ?_));refine aq O (ba O O (az O ?_));have her:=hlr _ (gi_in nG);generalize mu:gi lr j=ee at*;refine Cd.loop (α:=Nat) (fun k=> [(1,.pointer A1),(14,aj n),(15,aj i),(3,aj i),(4,.slice A4 ms.length c4),(5,.slice A5 ia.length c5),(25,.slice A6 lr.length c6),(26,aj (lr.length:Int)),(27,aj j),(7,aj ee),(31,.slice A5 ia.length c5),(32,aj (ia.length:Int)),(33,aj k)]) (fun k w'=>k<=ia.length/\w'=w6/\∀p:Nat,p<k->(0<=ee->0<=gi ia p->ee∈gl B (gi ia p))->(oP R B i ee (gi ia p)).length=2) (fun k=>ia.length - k) 0 (ajz O) ⟨bu _,O,fun p h=>absurd h (mg _)⟩ ?_;rintro k e w7 ⟨hk,rfl,ea⟩;refine b8 O (aM _ O (fun h8=>?_) (fun h8=>?_))
   ·have ji:k<ia.length:=by omega
    refine aD O (aA h5.2 O (aY h5 O (aq O ?_)));have Dx:=hhr _ (gi_in ji);generalize FZ:gi ia k=ff at*;have ib:((0<=ee->0<=ff->ee∈gl B ff)->(oP R B i ee ff).length=2)->∀p:Nat,p<k+1->(0<=ee->0<=gi ia p->ee∈gl B (gi ia p))->(oP R B i ee (gi ia p)).length=2:=fun h p hp=>by
     by_cases ep:p=k
     ·subst ep;rw [FZ];exact h
     exact ea p (by omega)
    refine cz 39 O (fun h9=>?_) (fun h9=>?_)
    ·refine au O (aq O (au O (aq O ?_)));refine cz 43 O (fun fH=>?_) (fun fH=>?_)
     ·refine au O (aq O (au O (aq O (au O ?_))));refine aF (td A1 A D cA cD n R rs B ee ff _ h1 hB (by omega) (bM ff fH (by omega)) (by have:=bT ff fH (by omega);omega)) O ?_;rintro _ w8 ⟨rfl,rfl⟩;refine au O ?_
      first | refine de rfl rfl ?_ | refine dV rfl rfl ?_
      refine az O (aM _ O (fun pI=>?_) (fun pI=>?_))
      ·refine aD O (aK O (aS O (tQ ?_)));exact⟨k+1,by show ia.length - (k+1)<ia.length - k;omega,(ajz O),by omega,O,ib fun h=>absurd (h h9 fH) pI⟩
      have iW:0<=ee->0<=ff->ee∈gl B ff:=fun _ _=>mM.1 pI
      refine aD O (ba O O (az O ?_));refine Cd.loop (α:=Nat) (fun q=> [(1,.pointer A1),(14,aj n),(15,aj i),(3,aj i),(4,.slice A4 ms.length c4),(5,.slice A5 ia.length c5),(25,.slice A6 lr.length c6),(26,aj (lr.length:Int)),(27,aj j),(7,aj ee),(31,.slice A5 ia.length c5),(32,aj (ia.length:Int)),(33,aj k),(9,aj ff),(10,aj ((qJ (oe B ee ff) ms q:Nat):Int)),(49,.slice A4 ms.length c4),(50,aj (ms.length:Int)),(51,aj q)]) (fun q w'=>q<=ms.length/\w'=w8) (fun q=>ms.length - q) 0 (ajz O) ⟨bu _,O⟩ ?_;rintro q e w9 ⟨hq,rfl⟩;have bE:=Ie (P:=oe B ee ff) (xs:=ms) (q:=q);refine b8 O (aM _ O (fun wL=>?_) (fun wL=>?_))
      ·have qU:q<ms.length:=by omega
       have hx:=yT _ (gi_in qU);have jS:=Ih (P:=oe B ee ff) qU;have gE:=Ig (P:=oe B ee ff) qU;refine aD O (aA h4.2 O (aY h4 O (aq O ?_)));generalize Ry:gi ms q=xx at*;refine cz 57 O (fun lp=>?_) (fun lp=>?_)
       ·refine ay O (ay O (ay O (aq O (au O (aq O (au O (aq O (au O (aq O ?_)))))))));refine cz 65 O (fun jP=>?_) (fun jP=>?_)
        ·refine ay O (ay O (ay O (au O (az O ?_))));refine Cd.eH O (aD O (aK O (aq O (aK O (aS O (tQ ?_))))));exact⟨q+1,by show ms.length - (q+1)<ms.length - q;omega,⟨O,O,O,O,O,O,O,O,O,O,O,O,O,O,aL (fun m:Nat=>Value.int .i64 (m:Int)) (jS ⟨.inl lp,.inl jP⟩).symm,O,O,O,aw⟩,by omega,O⟩
        refine au O (aq O (au O (aq O (au O ?_))));refine aF (td A1 A D cA cD n R rs B xx ff _ h1 hB (by omega) (bM ff (by omega) (by omega)) (by have:=bT ff (by omega) (by omega);omega)) O ?_;rintro _ dA ⟨rfl,rfl⟩;refine au O (az O ?_);refine aM _ O (fun kO=>?_) (fun kO=>?_)
        ·refine aD O (aK O (aq O (aK O (aS O (tQ ?_)))));exact⟨q+1,by show ms.length - (q+1)<ms.length - q;omega,⟨O,O,O,O,O,O,O,O,O,O,O,O,O,O,aL (fun m:Nat=>Value.int .i64 (m:Int)) (jS ⟨.inl lp,.inr kO⟩).symm,O,O,O,aw⟩,by omega,O⟩
        refine aD O (aK O (aS O (tQ ?_)));exact⟨q+1,by show ms.length - (q+1)<ms.length - q;omega,⟨O,O,O,O,O,O,O,O,O,O,O,O,O,O,aL (fun m:Nat=>Value.int .i64 (m:Int)) (gE fun h=>h.2.elim jP kO).symm,O,O,O,aw⟩,by omega,O⟩
       refine au O (aq O (au O (aq O (au O ?_))));refine aF (td A1 A D cA cD n R rs B ee xx _ h1 hB (by omega) (bM xx (by omega) (by omega)) (by have:=bT xx (by omega) (by omega);omega)) O ?_;rintro _ dA ⟨rfl,rfl⟩;refine aq O (cz 62 O (fun l7=>?_) (fun l7=>?_))
       ·refine au O (aq O (au O (aq O (au O (aq O ?_)))));refine cz 65 O (fun jP=>?_) (fun jP=>?_)
        ·refine ay O (ay O (ay O (au O (az O ?_))));refine Cd.eH O (aD O (aK O (aq O (aK O (aS O (tQ ?_))))));exact⟨q+1,by show ms.length - (q+1)<ms.length - q;omega,⟨O,O,O,O,O,O,O,O,O,O,O,O,O,O,aL (fun m:Nat=>Value.int .i64 (m:Int)) (jS ⟨.inr l7,.inl jP⟩).symm,O,O,O,aw⟩,by omega,O⟩
        refine au O (aq O (au O (aq O (au O ?_))));refine aF (td A1 A D cA cD n R rs B xx ff _ h1 hB (by omega) (bM ff (by omega) (by omega)) (by have:=bT ff (by omega) (by omega);omega)) O ?_;rintro _ eA ⟨rfl,rfl⟩;refine au O (az O ?_);refine aM _ O (fun kO=>?_) (fun kO=>?_)
        ·refine aD O (aK O (aq O (aK O (aS O (tQ ?_)))));exact⟨q+1,by show ms.length - (q+1)<ms.length - q;omega,⟨O,O,O,O,O,O,O,O,O,O,O,O,O,O,aL (fun m:Nat=>Value.int .i64 (m:Int)) (jS ⟨.inr l7,.inr kO⟩).symm,O,O,O,aw⟩,by omega,O⟩
        refine aD O (aK O (aS O (tQ ?_)));exact⟨q+1,by show ms.length - (q+1)<ms.length - q;omega,⟨O,O,O,O,O,O,O,O,O,O,O,O,O,O,aL (fun m:Nat=>Value.int .i64 (m:Int)) (gE fun h=>h.2.elim jP kO).symm,O,O,O,aw⟩,by omega,O⟩
       refine ay O (ay O (ay O (iA O O O O (iA O O O O (iA O O O O (ay O (az O ?_)))))));refine Cd.dZ O (aD O (aK O (aS O (tQ ?_))));exact⟨q+1,by show ms.length - (q+1)<ms.length - q;omega,⟨O,O,O,O,O,O,O,O,O,O,O,O,O,O,aL (fun m:Nat=>Value.int .i64 (m:Int)) (gE fun h=>h.1.elim lp l7).symm,O,O,O,aw⟩,by omega,O⟩
      have uw:q=ms.length:=by omega
      subst uw;have P7:=Bc ee ff;refine bo O (bn (nY O ?_));refine aM _ O (fun lp=>?_) (fun lp=>?_)
      ·refine aD O (lj [(i:Int),ee,ff] a8 O O (by decide) (by decide) O O fun A9 dA cj=>bD O (dO (dJ (dO (dJ (dO (dJ ?_)))))));refine fb O ⟨A9,3,3,O,⟨fun h=>?_,fun h=>?_⟩,cj.none⟩
       ·rw [CK (cj.bk 0 rfl).2 (by decide)]at h;cases h
       have rU:=h (i:Int) ee ff (by omega) h2 ((GY (by omega) h2).1 (by rw [yR,<-mu];exact gi_in nG)) ((GX (by omega) h2).1 (by rw [yO,<-FZ];exact gi_in ji)) iW;omega
      refine aD O (aK O (aS O (tQ ?_)));exact⟨k+1,by show ia.length - (k+1)<ia.length - k;omega,(ajz O),by omega,O,ib fun _=>by omega⟩
     have iW:0<=ee->0<=ff->ee∈gl B ff:=fun _ h=>absurd h fH
     refine ay O (ay O (ay O (ay O (az O ?_))));refine Cd.dZ O (aD O (ba O O (az O ?_)));refine Cd.loop (α:=Nat) (fun q=> [(1,.pointer A1),(14,aj n),(15,aj i),(3,aj i),(4,.slice A4 ms.length c4),(5,.slice A5 ia.length c5),(25,.slice A6 lr.length c6),(26,aj (lr.length:Int)),(27,aj j),(7,aj ee),(31,.slice A5 ia.length c5),(32,aj (ia.length:Int)),(33,aj k),(9,aj ff),(10,aj ((qJ (oe B ee ff) ms q:Nat):Int)),(49,.slice A4 ms.length c4),(50,aj (ms.length:Int)),(51,aj q)]) (fun q w'=>q<=ms.length/\w'=w7) (fun q=>ms.length - q) 0 (ajz O) ⟨bu _,O⟩ ?_;rintro q e w9 ⟨hq,rfl⟩;have bE:=Ie (P:=oe B ee ff) (xs:=ms) (q:=q);refine b8 O (aM _ O (fun wL=>?_) (fun wL=>?_))
     ·have qU:q<ms.length:=by omega
      have hx:=yT _ (gi_in qU);have jS:=Ih (P:=oe B ee ff) qU;have gE:=Ig (P:=oe B ee ff) qU;refine aD O (aA h4.2 O (aY h4 O (aq O ?_)));generalize Ry:gi ms q=xx at*;refine cz 57 O (fun lp=>?_) (fun lp=>?_)
      ·refine ay O (ay O (ay O (aq O (au O (aq O (au O (aq O (au O (aq O ?_)))))))));refine cz 65 O (fun jP=>?_) (fun jP=>?_)
       ·refine ay O (ay O (ay O (au O (az O ?_))));refine Cd.eH O (aD O (aK O (aq O (aK O (aS O (tQ ?_))))));exact⟨q+1,by show ms.length - (q+1)<ms.length - q;omega,⟨O,O,O,O,O,O,O,O,O,O,O,O,O,O,aL (fun m:Nat=>Value.int .i64 (m:Int)) (jS ⟨.inl lp,.inl jP⟩).symm,O,O,O,aw⟩,by omega,O⟩
       refine au O (aq O (au O (aq O (au O ?_))));refine aF (td A1 A D cA cD n R rs B xx ff _ h1 hB (by omega) (bM ff (by omega) (by omega)) (by have:=bT ff (by omega) (by omega);omega)) O ?_;rintro _ dA ⟨rfl,rfl⟩;refine au O (az O ?_);refine aM _ O (fun kO=>?_) (fun kO=>?_)
       ·refine aD O (aK O (aq O (aK O (aS O (tQ ?_)))));exact⟨q+1,by show ms.length - (q+1)<ms.length - q;omega,⟨O,O,O,O,O,O,O,O,O,O,O,O,O,O,aL (fun m:Nat=>Value.int .i64 (m:Int)) (jS ⟨.inl lp,.inr kO⟩).symm,O,O,O,aw⟩,by omega,O⟩
       refine aD O (aK O (aS O (tQ ?_)));exact⟨q+1,by show ms.length - (q+1)<ms.length - q;omega,⟨O,O,O,O,O,O,O,O,O,O,O,O,O,O,aL (fun m:Nat=>Value.int .i64 (m:Int)) (gE fun h=>h.2.elim jP kO).symm,O,O,O,aw⟩,by omega,O⟩
      refine au O (aq O (au O (aq O (au O ?_))));refine aF (td A1 A D cA cD n R rs B ee xx _ h1 hB (by omega) (bM xx (by omega) (by omega)) (by have:=bT xx (by omega) (by omega);omega)) O ?_;rintro _ dA ⟨rfl,rfl⟩;refine aq O (cz 62 O (fun l7=>?_) (fun l7=>?_))
      ·refine au O (aq O (au O (aq O (au O (aq O ?_)))));refine cz 65 O (fun jP=>?_) (fun jP=>?_)
       ·refine ay O (ay O (ay O (au O (az O ?_))));refine Cd.eH O (aD O (aK O (aq O (aK O (aS O (tQ ?_))))));exact⟨q+1,by show ms.length - (q+1)<ms.length - q;omega,⟨O,O,O,O,O,O,O,O,O,O,O,O,O,O,aL (fun m:Nat=>Value.int .i64 (m:Int)) (jS ⟨.inr l7,.inl jP⟩).symm,O,O,O,aw⟩,by omega,O⟩
       refine au O (aq O (au O (aq O (au O ?_))));refine aF (td A1 A D cA cD n R rs B xx ff _ h1 hB (by omega) (bM ff (by omega) (by omega)) (by have:=bT ff (by omega) (by omega);omega)) O ?_;rintro _ eA ⟨rfl,rfl⟩;refine au O (az O ?_);refine aM _ O (fun kO=>?_) (fun kO=>?_)
       ·refine aD O (aK O (aq O (aK O (aS O (tQ ?_)))));exact⟨q+1,by show ms.length - (q+1)<ms.length - q;omega,⟨O,O,O,O,O,O,O,O,O,O,O,O,O,O,aL (fun m:Nat=>Value.int .i64 (m:Int)) (jS ⟨.inr l7,.inr kO⟩).symm,O,O,O,aw⟩,by omega,O⟩
       refine aD O (aK O (aS O (tQ ?_)));exact⟨q+1,by show ms.length - (q+1)<ms.length - q;omega,⟨O,O,O,O,O,O,O,O,O,O,O,O,O,O,aL (fun m:Nat=>Value.int .i64 (m:Int)) (gE fun h=>h.2.elim jP kO).symm,O,O,O,aw⟩,by omega,O⟩
      refine ay O (ay O (ay O (iA O O O O (iA O O O O (iA O O O O (ay O (az O ?_)))))));refine Cd.dZ O (aD O (aK O (aS O (tQ ?_))));exact⟨q+1,by show ms.length - (q+1)<ms.length - q;omega,⟨O,O,O,O,O,O,O,O,O,O,O,O,O,O,aL (fun m:Nat=>Value.int .i64 (m:Int)) (gE fun h=>h.1.elim lp l7).symm,O,O,O,aw⟩,by omega,O⟩
     have uw:q=ms.length:=by omega
     subst uw;have P7:=Bc ee ff;refine bo O (bn (nY O ?_));refine aM _ O (fun lp=>?_) (fun lp=>?_)
     ·refine aD O (lj [(i:Int),ee,ff] a8 O O (by decide) (by decide) O O fun A9 dA cj=>bD O (dO (dJ (dO (dJ (dO (dJ ?_)))))));refine fb O ⟨A9,3,3,O,⟨fun h=>?_,fun h=>?_⟩,cj.none⟩
      ·rw [CK (cj.bk 0 rfl).2 (by decide)]at h;cases h
      have rU:=h (i:Int) ee ff (by omega) h2 ((GY (by omega) h2).1 (by rw [yR,<-mu];exact gi_in nG)) ((GX (by omega) h2).1 (by rw [yO,<-FZ];exact gi_in ji)) iW;omega
     refine aD O (aK O (aS O (tQ ?_)));exact⟨k+1,by show ia.length - (k+1)<ia.length - k;omega,(ajz O),by omega,O,ib fun _=>by omega⟩
    have iW:0<=ee->0<=ff->ee∈gl B ff:=fun h _=>absurd h h9
    refine ay O (ay O (aq O (ay O (ay O (ay O (ay O (az O ?_)))))));refine Cd.dZ O (aD O (ba O O (az O ?_)));refine Cd.loop (α:=Nat) (fun q=> [(1,.pointer A1),(14,aj n),(15,aj i),(3,aj i),(4,.slice A4 ms.length c4),(5,.slice A5 ia.length c5),(25,.slice A6 lr.length c6),(26,aj (lr.length:Int)),(27,aj j),(7,aj ee),(31,.slice A5 ia.length c5),(32,aj (ia.length:Int)),(33,aj k),(9,aj ff),(10,aj ((qJ (oe B ee ff) ms q:Nat):Int)),(49,.slice A4 ms.length c4),(50,aj (ms.length:Int)),(51,aj q)]) (fun q w'=>q<=ms.length/\w'=w7) (fun q=>ms.length - q) 0 (ajz O) ⟨bu _,O⟩ ?_;rintro q e w9 ⟨hq,rfl⟩;have bE:=Ie (P:=oe B ee ff) (xs:=ms) (q:=q);refine b8 O (aM _ O (fun wL=>?_) (fun wL=>?_))
    ·have qU:q<ms.length:=by omega
     have hx:=yT _ (gi_in qU);have jS:=Ih (P:=oe B ee ff) qU;have gE:=Ig (P:=oe B ee ff) qU;refine aD O (aA h4.2 O (aY h4 O (aq O ?_)));generalize Ry:gi ms q=xx at*;refine cz 57 O (fun lp=>?_) (fun lp=>?_)
     ·refine ay O (ay O (ay O (aq O (au O (aq O (au O (aq O (au O (aq O ?_)))))))));refine cz 65 O (fun jP=>?_) (fun jP=>?_)
      ·refine ay O (ay O (ay O (au O (az O ?_))));refine Cd.eH O (aD O (aK O (aq O (aK O (aS O (tQ ?_))))));exact⟨q+1,by show ms.length - (q+1)<ms.length - q;omega,⟨O,O,O,O,O,O,O,O,O,O,O,O,O,O,aL (fun m:Nat=>Value.int .i64 (m:Int)) (jS ⟨.inl lp,.inl jP⟩).symm,O,O,O,aw⟩,by omega,O⟩
      refine au O (aq O (au O (aq O (au O ?_))));refine aF (td A1 A D cA cD n R rs B xx ff _ h1 hB (by omega) (bM ff (by omega) (by omega)) (by have:=bT ff (by omega) (by omega);omega)) O ?_;rintro _ dA ⟨rfl,rfl⟩;refine au O (az O ?_);refine aM _ O (fun kO=>?_) (fun kO=>?_)
      ·refine aD O (aK O (aq O (aK O (aS O (tQ ?_)))));exact⟨q+1,by show ms.length - (q+1)<ms.length - q;omega,⟨O,O,O,O,O,O,O,O,O,O,O,O,O,O,aL (fun m:Nat=>Value.int .i64 (m:Int)) (jS ⟨.inl lp,.inr kO⟩).symm,O,O,O,aw⟩,by omega,O⟩
      refine aD O (aK O (aS O (tQ ?_)));exact⟨q+1,by show ms.length - (q+1)<ms.length - q;omega,⟨O,O,O,O,O,O,O,O,O,O,O,O,O,O,aL (fun m:Nat=>Value.int .i64 (m:Int)) (gE fun h=>h.2.elim jP kO).symm,O,O,O,aw⟩,by omega,O⟩
     refine au O (aq O (au O (aq O (au O ?_))));refine aF (td A1 A D cA cD n R rs B ee xx _ h1 hB (by omega) (bM xx (by omega) (by omega)) (by have:=bT xx (by omega) (by omega);omega)) O ?_;rintro _ dA ⟨rfl,rfl⟩;refine aq O (cz 62 O (fun l7=>?_) (fun l7=>?_))
     ·refine au O (aq O (au O (aq O (au O (aq O ?_)))));refine cz 65 O (fun jP=>?_) (fun jP=>?_)
      ·refine ay O (ay O (ay O (au O (az O ?_))));refine Cd.eH O (aD O (aK O (aq O (aK O (aS O (tQ ?_))))));exact⟨q+1,by show ms.length - (q+1)<ms.length - q;omega,⟨O,O,O,O,O,O,O,O,O,O,O,O,O,O,aL (fun m:Nat=>Value.int .i64 (m:Int)) (jS ⟨.inr l7,.inl jP⟩).symm,O,O,O,aw⟩,by omega,O⟩
      refine au O (aq O (au O (aq O (au O ?_))));refine aF (td A1 A D cA cD n R rs B xx ff _ h1 hB (by omega) (bM ff (by omega) (by omega)) (by have:=bT ff (by omega) (by omega);omega)) O ?_;rintro _ eA ⟨rfl,rfl⟩;refine au O (az O ?_);refine aM _ O (fun kO=>?_) (fun kO=>?_)
      ·refine aD O (aK O (aq O (aK O (aS O (tQ ?_)))));exact⟨q+1,by show ms.length - (q+1)<ms.length - q;omega,⟨O,O,O,O,O,O,O,O,O,O,O,O,O,O,aL (fun m:Nat=>Value.int .i64 (m:Int)) (jS ⟨.inr l7,.inr kO⟩).symm,O,O,O,aw⟩,by omega,O⟩
      refine aD O (aK O (aS O (tQ ?_)));exact⟨q+1,by show ms.length - (q+1)<ms.length - q;omega,⟨O,O,O,O,O,O,O,O,O,O,O,O,O,O,aL (fun m:Nat=>Value.int .i64 (m:Int)) (gE fun h=>h.2.elim jP kO).symm,O,O,O,aw⟩,by omega,O⟩
     refine ay O (ay O (ay O (iA O O O O (iA O O O O (iA O O O O (ay O (az O ?_)))))));refine Cd.dZ O (aD O (aK O (aS O (tQ ?_))));exact⟨q+1,by show ms.length - (q+1)<ms.length - q;omega,⟨O,O,O,O,O,O,O,O,O,O,O,O,O,O,aL (fun m:Nat=>Value.int .i64 (m:Int)) (gE fun h=>h.1.elim lp l7).symm,O,O,O,aw⟩,by omega,O⟩
    have uw:q=ms.length:=by omega
    subst uw;have P7:=Bc ee ff;refine bo O (bn (nY O ?_));refine aM _ O (fun lp=>?_) (fun lp=>?_)
    ·refine aD O (lj [(i:Int),ee,ff] a8 O O (by decide) (by decide) O O fun A9 dA cj=>bD O (dO (dJ (dO (dJ (dO (dJ ?_)))))));refine fb O ⟨A9,3,3,O,⟨fun h=>?_,fun h=>?_⟩,cj.none⟩
     ·rw [CK (cj.bk 0 rfl).2 (by decide)]at h;cases h
     have rU:=h (i:Int) ee ff (by omega) h2 ((GY (by omega) h2).1 (by rw [yR,<-mu];exact gi_in nG)) ((GX (by omega) h2).1 (by rw [yO,<-FZ];exact gi_in ji)) iW;omega
    refine aD O (aK O (aS O (tQ ?_)));exact⟨k+1,by show ia.length - (k+1)<ia.length - k;omega,(ajz O),by omega,O,ib fun _=>by omega⟩
   refine bo O (bn (cJ O (aK O (aS O (tQ ?_)))));exact⟨j+1,by show lr.length - (j+1)<lr.length - j;omega,(ajz O),by omega,O,fun p hp f hf=>by
    by_cases ep:p=j
    ·subst ep;rw [mu];obtain⟨q,hq,e9⟩:=gj.1 hf;rw [<-bX hq]at e9;have:=ea q (by omega)
     rwa [e9]at this
    exact fB p (by omega) f hf⟩
  refine bo O (bn (cJ O (aK O (aS O (tQ ?_)))));exact⟨i+1,by show n.toNat - (i+1)<n.toNat - i;omega,(ajz O),by show((i+1:Nat):Int)<=n;omega,fun i' e f h0 h' he hf iW=>by
   by_cases ei:i'=(i:Int)
   ·subst ei;rw [yR]at he;rw [yO]at hf;obtain⟨q,hq,e9⟩:=gj.1 he;rw [<-bX hq]at e9;have:=fB q (by omega) f hf;rw [e9]at this;exact this iW
   exact sX i' e f h0 (by have h':i'< ((i+1:Nat):Int):=h';omega) he hf iW,ab4⟩
 refine bo O (bn (eG O ?_));exact fb O ⟨none,0,0,O,⟨fun _ i' e f h0 h3 h4 h5 h6=>sX i' e f h0 (by omega) ((GY h0 h3).2 h4) ((GX h0 h3).2 h5) h6,fun _=>O⟩,aE⟩
theorem XL{n:Nat}{R:ah}{B:ag}(hn:1<=n)(hb:R.length<=500):∀x∈gy n R B,x.length=n/\∀e∈x,0<=e/\e< (R.length:Int):=fun x hx=>by
 obtain⟨h1,h2,_⟩:=(XM hn).1 hx;refine⟨h1,fun e he=>?_⟩;obtain⟨k,hk,rfl⟩:=gj.1 he;rw [<-bX hk];exact(h2 k (by omega)).1
theorem Nl(b:Bool):b=decide (b=true):=by cases b<;>rfl
theorem acO(n:Nat)(A D:ai)(cA cD:Nat)(R:ah)(rs:List aX)(B:ag)(Af:ai)(cf:Nat)(LL:List aX)(w:aa)(hT:qD w)(hR:bt w A R.length R)(hB:bL w D B.length rs B)(hP:eV n R B)(hF:bL w Af (gy n R B).length LL (gy n R B))(hf4:(gy n R B).length<=400):
 aG prog 72 [.agg #[aj n,.slice A R.length cA,.slice D B.length cD],.slice Af (gy n R B).length cf] w (fun v w'=>∃b:Bool,v= .bool b/\(b=true↔MT n R B)/\St w w' []):=by
 have hn:=hP.n1;have rV:=hP.od;have F0:=XL (n:=n) (R:=R) (B:=B) (by omega) rV;have aaE:∀x∈gy n R B,x.length=n/\∀e∈x,0<=e/\e<=1000000:=fun x hx=> ⟨(F0 x hx).1,fun e he=>by have:=(F0 x hx).2 e he;omega⟩
 have r8:(gy n R B).Nodup:=(XK n R B).nodup;refine bw func72 O ntmps72 O (b7 O) (bb O (lT (St.refl w) O O ?_));intro A1 w1 aC;have h1:Rd w1 A1 3 (fun j=> [Value.int .i64 n,.slice A R.length cA,.slice D B.length cD].getD j undef):=aC.rd 0 O;have hR:=aC.b9 hR;have hB:=aC.cV hB;have hF:=aC.cV hF;have hT:=hT.ao aC.below;have aC:=aC.none;refine aq O (ba O O (aq O ?_));refine cz 8 O (fun h2=>?_) (fun h2=>?_)
 ·have cS:gy n R B≠[]:=fun h=>by rw [h]at h2;exact absurd h2 (by decide)
  refine au O (bI 2 h1 O O O ?_);refine au O (aq O (au O ?_));refine aF (acP n A D cA R.length B.length cD Af (gy n R B).length cf LL (gy n R B) _ hF rV (fun l hl=> ⟨by have:=(F0 l hl).1;omega,(F0 l hl).2⟩) (by omega)) O ?_;rintro _ w2 ⟨b,rfl,hb,ax⟩;have h1:=Rd.below h1 ax.below;have hR:=ax.b9 hR;have hB:=ax.cV hB;have hF:=ax.cV hF;have hT:=hT.ao ax.below;have aC:=aC.ao ax.below;have DN:b=true↔MV n R B:=hb;clear ax hb;rw [Nl b];refine aq O (cz 13 O (fun h3=>?_) (fun h3=>?_))
  ·refine au O (bI 2 h1 O O O (au O (aF (Xj n A D cA cD R rs B _ hR hB hP) O ?_)));rintro _ w3 ⟨A9,n9,c9,rfl,hd,ax⟩;have hF:=ax.cV hF;have hT:=hT.ao ax.below;have aC:=aC.ao ax.below;clear ax;refine au O (CE O O O ?_);rw [Nl A9.isNone];refine aq O (cz 18 O (fun h4=>?_) (fun h4=>?_))
   ·refine au O (aq O (au O ?_));refine aF (W7 Af (gy n R B).length cf LL (gy n R B) n _ hT hF (by omega) (by omega) aaE r8) O ?_;rintro _ w4 ⟨A8,n8,c8,rfl,hc,ax⟩;have aC:=aC.ao ax.below;refine au O (CE O O O (bD O (ck O ?_)));exact⟨A8.isNone,O,⟨fun h=> ⟨cS,DN.1 h3,hd.1 h4,hc.1 h⟩,fun h=>hc.2 h.2.2.2⟩,aC⟩
   refine ay O (ay O (ay O (bD O ?_)));refine ck O ?_;exact⟨false,rfl,⟨fun h=> (by cases h),fun h=>absurd (hd.2 h.2.2.1) h4⟩,aC⟩
  refine ay O (ay O (ay O (aq O (ay O (ay O (ay O (bD O ?_)))))));refine ck O ?_;exact⟨false,rfl,⟨fun h=> (by cases h),fun h=>absurd (DN.2 h.2.1) h3⟩,aC⟩
 refine ay O (ay O (ay O (aq O (ay O (ay O (ay O (aq O (ay O (ay O (ay O (bD O ?_)))))))))));refine ck O ?_;exact⟨false,rfl,⟨fun h=> (by cases h),fun h=>absurd (List.length_pos_iff.2 h.1) (by omega)⟩,aC⟩
noncomputable def On(M:ag):ag:=gy M.length (cq M M.length) (b6 M)
noncomputable def re(M:ag):Int:=if 500<a7 M M.length\/400< (On M).length then 3 else 0
def EJ(M:ag):Prop:=a7 M M.length<=500/\(On M).length=(gl M 0).length/\MT M.length (cq M M.length) (b6 M)
theorem afp{M:ag}(hM:dm M)(h:a7 M M.length<=500):eV (M.length:Int) (cq M M.length) (b6 M):=Fo hM h
theorem acN(A:ai)(n c:Nat)(rs:List aX)(M:ag)(w:aa)(hT:qD w)(hR:bL w A n rs M)(hM:dm M):
 aG prog 81 [.agg #[.slice A n c]] w (fun v w'=>∃b:Bool,v= .tuple #[.bool b,aj (re M)]/\(b=true↔EJ M)/\St w w' []):=by
 have hl:=hR.len;have h5:=hM.1;have h4:=hM.2.1;have gZ:=tT M M.length;have kh:=pH M;have kq:=hR.ql (k:=0) (by omega) (by omega);refine bw func81 O ntmps81 O (oF O) (bb O (mQ (St.refl w) O O ?_));intro A1 w1 aC;refine aq O (bI 0 (aC.rd 0 O) O O O (aF (Iy A n c rs M _ (aC.cV hR) hM) O ?_));rintro _ w2 (⟨ue,rfl,ax⟩ | ⟨ue,AR,cR,AD,cD,bN,rfl,pT,ax⟩)
 ·have aE:=aC.ao ax.below;refine aq O (jc aE O ?_);intro A4 w3 aH;refine bS 3 0 aH O O O O O O O fun w4 aQ=>aq O ?_
  first | refine de rfl rfl ?_ | refine dV rfl rfl ?_
  refine az O (Cd.eH O (dB O (B6 O O ?_)));unfold re;rw [aT (.inl ue)];exact⟨false,rfl,⟨fun h=> (by cases h),fun h=>by have:=h.1;omega⟩,aQ.none⟩
 have hP:=afp hM ue;have aE:=aC.call ax;clear ax aC;refine aq O (jc aE O ?_);intro A4 w3 aH;refine bS 3 0 aH O O O O O O O ?_;intro w4 aQ;have aQ:St w w4 (bp A4 (M.length:Int) AR (a7 M M.length) cR AD (a7 M M.length) cD::(ar 2 AR (a7 M M.length) cR (cq M M.length)::((aU 24 2 AD (a7 M M.length) cD bN (b6 M)++ [])++ [Bx 31 1 A1 [.slice A n c]]))):=aQ;have FK:bt w4 AR (cq M M.length).length (cq M M.length):=by rw [gZ];exact aQ.bk 1 O
 have kg:bL w4 AD (b6 M).length bN (b6 M):=by
  rw [kh];have h9:=aQ.sub (show(aU 24 2 AD (a7 M M.length) cD bN (b6 M)).Sublist _ from List.Sublist.cons _ (List.Sublist.cons _ (by rw [iz];exact lQ _ _)));exact h9.nn kh
 have jX:=aQ.rd 0 O;have fa:Rd w4 A1 1 (fun _=> .slice A n c):=by
  have h9:=aQ.sub (show List.Sublist [Bx 31 1 A1 [.slice A n c]] _ from List.Sublist.cons _ (List.Sublist.cons _ (dz _ _)));exact Rd.one (h9.rd 0 O)
 refine aq O ?_
 first | refine de rfl rfl ?_ | refine dV rfl rfl ?_
 refine az O (Cd.dZ O (aD O (bI 2 jX O O O ?_)));refine ajq (XJ M.length AR AD cR cD (cq M M.length) bN (b6 M) _ FK kg hP) O (by rw [gZ,kh];rfl) O ?_;rintro _ w5 ⟨Af,cf,Tf,rfl,Q6,ax⟩;have a8:=aQ.ao ax.below;have ua:=FK.ao ax.below;have yw:=kg.ao ax.below;have fS:=Rd.below jX ax.below;have fa:=Rd.below fa ax.below
 by_cases kS:(gy M.length (cq M M.length) (b6 M)).length<=400
 ·
  have hL:yr M.length (cq M M.length) (b6 M)=gy M.length (cq M M.length) (b6 M):=by unfold yr;rw [if_pos kS]
  have hK:yq M.length (cq M M.length) (b6 M)=0:=by unfold yq;rw [if_pos kS]
  have se:re M=0:=by unfold re;rw [if_neg (by show ¬(500<a7 M M.length\/400< (gy M.length (cq M M.length) (b6 M)).length);omega)]
  rw [hL]at Q6 ax|-;rw [hK,se];have Y5:bL w5 Af (gy M.length (cq M M.length) (b6 M)).length Tf (gy M.length (cq M M.length) (b6 M)):=by
   rw [iz]at ax;exact ax.nn O
  refine aq O (cz 22 O (fun _=>?_) (fun h=>absurd O h));refine au O (aq O (au O ?_));refine aF (Er _ _ _ _) O ?_;rintro _ w5 ⟨rfl,rfl⟩;refine au O (aF (yp A1 A n c rs M _ _ fa O (a8.cV hR) (by omega)) O ?_);rintro _ w5 ⟨rfl,rfl⟩;refine au O (aq O ?_);refine cz 28 O (fun h6=>?_) (fun h6=>?_)
  ·refine au O (bI 2 fS O O O ?_);refine au O (aq O (au O ?_));refine ajq (acO M.length AR AD cR cD (cq M M.length) bN (b6 M) Af cf Tf _ (hT.ao a8.below) ua yw hP Y5 kS) O (by rw [gZ,kh];rfl) O ?_;rintro _ w6 ⟨b,rfl,hb,oA⟩;refine bD O (B6 O O ?_);refine⟨b,O,hb.trans ⟨fun h=> ⟨ue,?_,h⟩,fun h=>h.2.2⟩,(a8.ao oA.below).none⟩;show(gy M.length (cq M M.length) (b6 M)).length=_;omega
  refine ay O (ay O (ay O (bD O ?_)));refine B6 O O ?_;refine⟨false,rfl,⟨fun h=> (by cases h),fun h=>?_⟩,a8.none⟩;have h9:(gy M.length (cq M M.length) (b6 M)).length=(gl M 0).length:=h.2.1;omega
 have hL:yr M.length (cq M M.length) (b6 M)=[]:=by unfold yr;rw [if_neg kS]
 have hK:yq M.length (cq M M.length) (b6 M)=3:=by unfold yq;rw [if_neg kS]
 have se:re M=3:=by unfold re;rw [if_pos (.inr (by show 400< (gy M.length (cq M M.length) (b6 M)).length;omega))]
 rw [hL]at Q6 ax|-;rw [hK,se];refine aq O (cz 22 O (fun h=>absurd h (by decide)) (fun _=>?_));refine ay O (ay O (ay O (ay O (aq O (ay O (ay O (ay O (bD O ?_))))))));refine B6 O O ?_;refine⟨false,rfl,⟨fun h=> (by cases h),fun h=>?_⟩,a8.none⟩;have h9:(gy M.length (cq M M.length) (b6 M)).length=(gl M 0).length:=h.2.1;omega
section
variable {P:Program} {N:Nat} {ops:Array Oper} {K:Env->aa->Prop} {rest:List Oper} {e:Env} {w0 w w':aa} {ks:List Ck} {d:Nat} {ty:ad} {pos:String} {af:Array Edge}
end
section
variable {n:Nat} {R:ah} {B:ag}
end
section
variable (n:Nat) (R:ah) (B:ag)
end
section
variable {n:Nat} {R:ah} {B:ag}
end
theorem agf(A:ai)(n c:Nat)(rs:List aX)(M:ag)(w:aa)(hR:bL w A n rs M)(hn:n<=9223372036854775807)(hM:dm M):
 aG prog 33 [.agg #[.slice A n c]] w (fun v w'=>
  (500<a7 M M.length/\v= .tuple #[.agg #[aj 0,.slice none 0 0,.slice none 0 0],aj 3]/\St w w' [])\/
  (a7 M M.length<=500/\∃AR c AD d rs,v= .tuple #[.agg #[aj (M.length:Int),.slice AR (a7 M M.length) c,.slice AD (a7 M M.length) d],aj 0]/\rs.length=a7 M M.length/\St w w' (ar 2 AR (a7 M M.length) c (cq M M.length)::(aU 24 2 AD (a7 M M.length) d rs (b6 M)++ [])))):=by
 refine bw func33 O ntmps33 O (tm O O) (bb O (mQ (St.refl w) O O ?_));intro A1 w1 aC;refine jc aC O fun A2 w2 aE=>aq O (bI 0 (aE.rd 1 O) O O O (aF (Gz A n c rs M _ (aE.cV hR) hn) O ?_));rintro _ w3 ⟨rfl,ax⟩;have aH:=aE.ao ax.below
 first | refine de rfl rfl ?_ | refine dV rfl rfl ?_
 refine az O (gV O (fun h=>h hM) (aD O (bI 0 (aH.rd 1 O) O O O (aF (KW A n c rs M _ (aH.cV hR) hM) O ?_))));rintro _ w4 ⟨AR,cR,AD,cD,bN,rfl,pT,nN⟩;have aQ:=(aH.call nN).perm iK;refine jc aQ O fun A4 w5 a8=>bS 3 0 a8 O O O O O O O ?_;intro w6 bg;have bg:St w w6 (bp A4 (M.length:Int) AR (a7 M M.length) cR AD (a7 M M.length) cD::bp A2 0 none 0 0 none 0 0::Bx 31 1 A1 [.slice A n c]::(ar 2 AR (a7 M M.length) cR (cq M M.length)::(aU 24 2 AD (a7 M M.length) cD bN (b6 M)++ []))):=bg;refine aq O (aI (bg.rd 0 O) O (ajt (j:=1) (bg.rd 0 O) (by exact aL Value.pointer O) O O O O ?_));refine ba O O (az O ?_);refine aM _ O (fun h1=>?_) (fun h1=>?_)
 ·refine aD O (yc O (bS 3 1 bg O O O O O O O ?_));intro w7 bl;refine bD O (mH O (bl.rd 1 O) O ?_);exact .inl ⟨by omega,O,bl.none⟩
 refine aD O (bI 2 (bg.rd 0 O) O O O (bS 3 1 bg O O O O O O O ?_));intro w7 bl;refine bD O (mH O (bl.rd 1 O) O ?_);exact .inr ⟨by omega,AR,cR,AD,cD,bN,O,pT,bl.tail.tail.tail⟩
section
variable {n:Nat} {fl:ag} {a b k i:Nat}
end
instance (R:ah)(i e:Int):Decidable (Cz R i e):=by unfold Cz;infer_instance
instance (n:Int)(R:ah)(i e:Int):Decidable (Cx n R i e):=by unfold Cx;infer_instance
def Uf(M:ag)(w:aa)(v:ab)(w':aa):Prop:=∃b:Bool,v= .tuple #[.bool b,aj (if dm M then re M else 1)]/\(b=true↔dm M/\EJ M)/\St w w' []
theorem RD(A:ai)(n c:Nat)(rs:List aX)(M:ag)(w:aa)(hT:qD w)(hR:bL w A n rs M)(hn:n<=c)(hc:c<=9223372036854775807):
 aG prog 34 [.agg #[.slice A n c]] w (Uf M w):=by
 refine bw func34 O ntmps34 O (oF O) (bb O (mQ (St.refl w) O O ?_));intro A1 w1 aC;refine aq O (bI 0 (aC.rd 0 O) O O O (aF (Gt A n c rs M _ (aC.cV hR) hn hc) O ?_));rintro _ w2 ⟨rfl,ax⟩;have aE:=aC.ao ax.below
 first | refine de rfl rfl ?_ | refine dV rfl rfl ?_
 refine az O (aM _ O (fun h1=>?_) (fun h1=>?_))
 ·have h1:¬dm M:=h1;refine dB O (B6 O O ?_);exact⟨false,by rw [aR h1],⟨fun h=> (by cases h),fun h=>absurd h.1 h1⟩,aE.none⟩
 have h1:dm M:=mM.1 h1;refine aD O (bI 0 (aE.rd 0 O) O O O (aF (acN A n c rs M _ (hT.ao aE.below) (aE.cV hR) h1) O ?_));rintro _ w3 ⟨b,rfl,hb,DV⟩;have aH:=aE.ao DV.below;refine bD O (B6 O O ?_);exact⟨b,by rw [aT h1],⟨fun h=> ⟨h1,hb.1 h⟩,fun h=>hb.2 h.2⟩,aH.none⟩
theorem age(A:ai)(n c:Nat)(rs:List aX)(M:ag)(w:aa)(hR:bL w A n rs M)(hn:n<=9223372036854775807)(hM:¬dm M):
 aG prog 33 [.agg #[.slice A n c]] w (fun v w'=>v= .tuple #[.agg #[aj 0,.slice none 0 0,.slice none 0 0],aj 1]/\St w w' []):=by
 refine bw func33 O ntmps33 O (tm O O) (bb O (mQ (St.refl w) O O ?_));intro A1 w1 aC;refine jc aC O fun A2 w2 aE=>aq O (bI 0 (aE.rd 1 O) O O O (aF (Gz A n c rs M _ (aE.cV hR) hn) O ?_));rintro _ w3 ⟨rfl,ax⟩;have aH:=aE.ao ax.below
 first | refine de rfl rfl ?_ | refine dV rfl rfl ?_
 refine az O (aM _ O (fun h1=>?_) (fun h1=>?_))
 ·refine aD O (yc O (bS 3 0 aH O O O O O O O ?_));intro w4 aQ;refine bD O (mH O (aQ.rd 0 O) O ?_);exact⟨O,aQ.none⟩
 exact absurd (mM.1 h1) hM
end Go.Proofs.YtkojeolafnadeaaGreatDoor.Vc
namespace Go.Proofs.YtkojeolafnadeaaGreatDoor.Vc.TS
open Go.RowKit Tryz
def gs(l:List TV)(i:Nat):TV:=l.getD i agt
def mw(a m b:Nat):Nat:=if(a+b) / 2<m then(a+b) / 2 else m
end Go.Proofs.YtkojeolafnadeaaGreatDoor.Vc.TS
namespace Go.Proofs.YtkojeolafnadeaaGreatDoor.Vc
open TS Tryz
def MG(m1 m2:Nat)(kind:Int)(a b:Int):Prop:=
 if kind=1 then(a=0\/b=0\/(a=(m1:Int) - 1/\b=(m2:Int) - 1))else if kind=2 then(a=(m1:Int) - 1\/b=(m2:Int) - 1\/(a=0/\b=0))else((a=0/\b=0)\/(a=(m1:Int) - 1/\b=(m2:Int) - 1))
instance (m1 m2:Nat)(kind a b:Int):Decidable (MG m1 m2 kind a b):=by unfold MG;infer_instance
section
variable {m1 m2:Nat} {kind:Int} {n1 n2:Int} {uL uM:Int->Int} {wb tx:Int->Int->Prop}
end
end Go.Proofs.YtkojeolafnadeaaGreatDoor.Vc
namespace Go.Proofs.YtkojeolafnadeaaGreatDoor.Vc
open Tryz
section
variable {m1 m2:Nat} {n1 n2:Int} {uL uM:Int->Int} {wb tx:Int->Int->Prop} [DecidableRel wb] [DecidableRel tx] {kind:Int}
end
section
variable {n:Nat} {fl:ag} {i f:Nat} {L:List (ByteArray×Int)}
end
section
variable {n:Nat} {fl:ag}
end
section
variable {n:Nat} {R:ah} {B:ag}
end
end Go.Proofs.YtkojeolafnadeaaGreatDoor.Vc
namespace Go.Proofs.YtkojeolafnadeaaGreatDoor.Vc
open Go.RowKit Tryz
section
variable {n:Nat} {fl:ag} {i a b:Nat}
end
end Go.Proofs.YtkojeolafnadeaaGreatDoor.Vc
namespace Go.Proofs.YtkojeolafnadeaaGreatDoor.Vc.TS
open Go.RowKit Tryz
end Go.Proofs.YtkojeolafnadeaaGreatDoor.Vc.TS
namespace Go.Proofs.YtkojeolafnadeaaGreatDoor.Vc
open Go.RowKit Tryz
section
variable (N1 N2:Nat) (B1 B2:ag) (L:List (Int×Int))
end
theorem acz(A:ai)(n c:Nat)(rs:List aX)(M:ag)(w:aa)(hR:bL w A n rs M)(hn:n<=c)(hc:c<=9223372036854775807)(hM:dm M)(ue:a7 M M.length<=500):
 aG prog 23 [.agg #[.slice A n c]] w (fun v w'=>∃AR c AD d,∃rs:List aX,v= .tuple #[.agg #[aj (M.length:Int),.slice AR (a7 M M.length) c,.slice AD (a7 M M.length) d],aj 0]/\rs.length=a7 M M.length/\St w w' (ar 2 AR (a7 M M.length) c (cq M M.length)::(aU 24 2 AD (a7 M M.length) d rs (b6 M)++ []))):=by
 refine bw func23 O ntmps23 O (tm O O) (bb O (mQ (St.refl w) O O ?_));intro A1 w1 aC;refine jc aC O fun A2 w2 aE=>aq O (bI 0 (aE.rd 1 O) O O O (aF (Gt A n c rs M _ (aE.cV hR) hn hc) O ?_));rintro _ w3 ⟨rfl,ax⟩;have aH:=aE.ao ax.below
 first | refine de rfl rfl ?_ | refine dV rfl rfl ?_
 refine az O (gV O (fun h=>h hM) (aD O (bI 0 (aH.rd 1 O) O O O (aF (Iy A n c rs M _ (aH.cV hR) hM) O ?_))));rintro _ w4 (⟨hb,_⟩ | ⟨_,AR,cR,AD,cD,bN,rfl,pT,nN⟩)
 ·omega
 have aQ:=(aH.call nN).perm iK;refine aq O (jc aQ O ?_);intro A4 w5 a8;refine bS 3 0 a8 O O O O O O O fun w6 bg=>aq O ?_
 first | refine de rfl rfl ?_ | refine dV rfl rfl ?_
 refine az O (Cd.dZ O (aD O (bI 2 (bg.rd 0 O) O O O (bS 3 1 bg O O O O O O O ?_))));intro w7 bl;refine bD O (mH O (bl.rd 1 O) O ?_);refine⟨AR,cR,AD,cD,bN,O,pT,bl.sub (show List.Sublist _ (_::_::_::_) from((dY _).cons _ |>.cons _ |>.cons _))⟩
def Mk(M:ag)(w:aa)(v:ab)(w':aa):Prop:=((¬dm M\/500<a7 M M.length)/\v= .tuple #[.agg #[aj 0,.slice none 0 0,.slice none 0 0],aj (if dm M then 3 else 1)]/\St w w' [])\/(dm M/\a7 M M.length<=500/\∃(AR:ai) (c:Nat) (AD:ai) (d:Nat) (rs:List aX),v= .tuple #[.agg #[aj (M.length:Int),.slice AR (a7 M M.length) c,.slice AD (a7 M M.length) d],aj 0]/\rs.length=a7 M M.length/\St w w' (ar 2 AR (a7 M M.length) c (cq M M.length)::(aU 24 2 AD (a7 M M.length) d rs (b6 M)++ [])))
theorem acy(A:ai)(n c:Nat)(rs:List aX)(M:ag)(w:aa)(hR:bL w A n rs M)(hn:n<=c)(hc:c<=9223372036854775807):
 aG prog 23 [.agg #[.slice A n c]] w (Mk M w):=by
 by_cases hg:dm M/\a7 M M.length<=500
 ·exact(acz A n c rs M w hR hn hc hg.1 hg.2).mono fun v w' ⟨AR,cR,AD,cD,bN,h1,h2,h3⟩=> .inr ⟨hg.1,hg.2,AR,cR,AD,cD,bN,h1,h2,h3⟩
 refine bw func23 O ntmps23 O (tm O O) (bb O (mQ (St.refl w) O O ?_));intro A1 w1 aC;refine jc aC O fun A2 w2 aE=>aq O (bI 0 (aE.rd 1 O) O O O (aF (Gt A n c rs M _ (aE.cV hR) hn hc) O ?_));rintro _ w3 ⟨rfl,ax⟩;have aH:=aE.ao ax.below;clear ax aE aC
 first | refine de rfl rfl ?_ | refine dV rfl rfl ?_
 refine az O (aM _ O (fun h1=>?_) (fun h1=>?_))
 ·have h1:¬dm M:=h1;refine aD O (yc O (bS 3 0 aH O O O O O O O ?_));intro w4 aQ;refine bD O (mH O (aQ.rd 0 O) O ?_);exact .inl ⟨.inl h1,by rw [aR h1];rfl,aQ.none⟩
 --else
 have hM:dm M:=mM.1 h1;have hb:500<a7 M M.length:=by
  rcases Nat.lt_or_ge 500 (a7 M M.length)with h | h
  ·exact h
  exact absurd ⟨hM,h⟩ hg
 refine aD O (bI 0 (aH.rd 1 O) O O O (aF (Iy A n c rs M _ (aH.cV hR) hM) O ?_));rintro _ w4 AU;obtain⟨_,rfl,nN⟩:=AU.resolve_right fun h=>absurd h.1 (by omega)
 have aQ:=aH.ao nN.below;refine aq O (jc aQ O ?_);intro A4 w5 a8;refine bS 3 0 a8 O O O O O O O fun w6 bg=>aq O ?_
 first | refine de rfl rfl ?_ | refine dV rfl rfl ?_
 refine az O (Cd.eH O (aD O (yc O (bS 3 1 bg O O O O O O O ?_))));intro w7 bl;refine bD O (mH O (bl.rd 1 O) O ?_);exact .inl ⟨.inr hb,by rw [aT hM];rfl,bl.none⟩
theorem Tv(A:ai)(n c:Nat)(rs:List aX)(M:ag)(w:aa)(hR:bL w A n rs M)(hn:n<=9223372036854775807):
 aG prog 33 [.agg #[.slice A n c]] w (Mk M w):=by
 by_cases hM:dm M
 ·refine(agf A n c rs M w hR hn hM).mono fun v w' h=>?_
  rcases h with⟨h1,h2,h3⟩ | ⟨h1,AR,cR,AD,cD,bN,h2,h3,h4⟩
  ·exact .inl ⟨.inr h1,by rw [aT hM];exact h2,h3⟩
  exact .inr ⟨hM,h1,AR,cR,AD,cD,bN,h2,h3,h4⟩
 exact(age A n c rs M w hR hn hM).mono fun v w' ⟨h1,h2⟩=> .inl ⟨.inl hM,by rw [aR hM];exact h1,h2⟩
section
variable {P:Program} {N:Nat} {ops:Array Oper} {K:Env->aa->Prop} {rest:List Oper} {e:Env} {w0 w w':aa} {ks:List Ck} {d:Nat} {ty:ad} {pos:String} {af:Array Edge}
theorem MM{x:ae}{t el:ad}{A:ai}{n c:Nat}[bP P t (.slice el)](hx:ev e x= .slice A n c)(hb:Nat.blt d N=true)(hK:ak P N ops K rest (bC e d (aj c)) w):
 ak P N ops K (⟨some d,.call ⟨.builtin .cap, #[x], #[t]⟩,ty,pos,af,none⟩::rest) e w:=
 .val (by simp [execOp,resolve,invoke,builtin,hx,Builtin.cap_,run_underlying (bP.out (P:=P) (t:=t)),goInt]) hb hK
theorem UW{t tn el:ad}{kn:IntKind}{z:ab}{b:Nat}[hU:bP P t (.slice el)][hN:bP P tn (.int kn)][bO P el z 1 b]{x y:ae}{k:IntKind}(n:Nat)(h0:0<n)(hS:St w0 w ks)(hx:ev e x= .slice none 0 0)(hy:ev e y= .int k (n:Int))(hz:z.cells= #[z])(BB:z.oneCell'=true)(hm:n<=maxLen)(mr:n*b<=281474976710656)(hb:Nat.blt d N=true)(hK:∀A c w',n<=c->St w0 w' (⟨A,0,c,el,[]⟩::ks)->ak P N ops K rest (bC e d (.slice A n c)) w'):
 ak P N ops K (⟨some d,.call ⟨.builtin .append, #[x,y], #[t,tn]⟩,ty,pos,af,none⟩::rest) e w:=by
 obtain⟨inf,hi,fp,hs,iq⟩:=bO.get P el;have ui:=grownCap_ge w n 0 el;have hle:=grownCap_le_maxLen w n 0 el hm;have hr:=Go.Lib.run_append_nil_zeros (P:=P) w t tn ty el inf z k kn hU.out hN.out hi fp n h0 (by omega) (by simp only [maxLen]at hm;omega) (by rw [iq];exact mr);have hA:=hS.drew.M4 (List.replicate (grownCap w n 0 el) z) el 0 (grownCap w n 0 el) (bu _) (by simp) hle (RG _ BB);have D4:Builtin.zeroCells z.cells n++Builtin.zeroCells z.cells (grownCap w n 0 el - n)=(List.replicate (grownCap w n 0 el) z).toArray:=by
  have gen:∀m,Builtin.zeroCells z.cells m=(List.replicate m z).toArray:=fun m=>by
   rw [hz];simp only [Builtin.zeroCells];exact(show _=_ from by have:=GG z m;simpa [madeCells]using this)
  rw [gen,gen,List.append_toArray,List.replicate_append_replicate,Nat.add_sub_cancel' ui]
 rw [D4]at hr;refine .val (w':=w.drew.alloc (.cells (List.replicate (grownCap w n 0 el) z).toArray el)) ?_ hb (hK _ _ _ ui hA);simp [execOp,resolve,invoke,builtin,hx,hy,hr]
end
end Go.Proofs.YtkojeolafnadeaaGreatDoor.Vc
namespace Go.Proofs.YtkojeolafnadeaaGreatDoor.Vc
open Tryz
variable{t u:Nat}{C L:List Nat}
def cK:List Nat->List Nat
 | []=> [0]
 | b::B=>cK B++ (cK B).map (b^^^ ·)
theorem Ey:∀B,(cK B).length=2^B.length
 | []=>rfl
 | b::B=>by simp [cK,Ey B,Nat.pow_succ];omega
theorem tw:∀B,0∈cK B
 | []=>by simp [cK]
 | b::B=>by simp only [cK,eD];exact .inl (tw B)
theorem oJ(a b:Nat):a^^^ (a^^^b)=b:=by rw [<-Nat.xor_assoc,Nat.xor_self,Nat.zero_xor]
theorem xO{b v:Nat}{B:List Nat}:v∈cK (b::B)↔v∈cK B\/b^^^v∈cK B:=by
 simp only [cK,eD,eh];constructor
 ·rintro(h | ⟨u,h,rfl⟩)
  ·exact .inl h
  exact .inr (by rw [oJ];exact h)
 rintro(h | h)
 ·exact .inl h
 exact .inr ⟨_,h,oJ _ _⟩
theorem rn:∀ {B:List Nat} {u v:Nat},u∈cK B->v∈cK B->u^^^v∈cK B
 | [],u,v,hu,hv=>by
  simp only [cK,dK]at hu hv|-;subst hu hv;rfl
 | b::B,u,v,hu,hv=>by
  rw [xO]at hu hv|-;rcases hu with hu | hu<;>rcases hv with hv | hv
  ·exact .inl (rn hu hv)
  ·right;have:=rn hu hv
   rwa [<-Nat.xor_assoc,Nat.xor_comm u b,Nat.xor_assoc]at this
  ·right;have:=rn hu hv
   rwa [Nat.xor_assoc]at this
  ·left;have:=rn hu hv
   rwa [Nat.xor_comm b u,Nat.xor_assoc,oJ]at this
theorem jJ:∀ {B:List Nat} {b:Nat},b∈B->b∈cK B
 | a::B,b,h=>by
  rw [xO];rcases ij.1 h with rfl | h
  ·exact .inr (by rw [Nat.xor_self];exact tw B)
  ·exact .inl (jJ h)
theorem xZ{S:Nat->Prop}(h0:S 0)(hx:∀u v,S u->S v->S (u^^^v)):∀ {B:List Nat},(∀b∈B,S b)->∀v∈cK B,S v
 | [],_,v,h=>by simp only [cK,dK]at h;subst h;exact h0
 | b::B,hb,v,h=>by
  rw [xO]at h;rcases h with h | h
  ·exact xZ h0 hx (fun x hx=>hb x (eb _ hx)) v h
  ·have h1:=xZ h0 hx (fun x hx=>hb x (eb _ hx)) _ h;have h2:=hx _ _ (hb b (by simp)) h1
   rwa [oJ]at h2
theorem LY{B:List Nat}(h:∀b∈B,b∈cK C):∀v∈cK B,v∈cK C:=xZ (tw C) (fun _ _=>rn) h
theorem x7{B:List Nat}(h:∀b∈B,b∈C):∀v∈cK B,v∈cK C:=LY fun b hb=>jJ (h b hb)
def iZ(B C:List Nat):Prop:=∀v,v∈cK B↔v∈cK C
theorem iZ.of{B:List Nat}(h1:∀b∈B,b∈cK C)(h2:∀b∈C,b∈cK B):iZ B C:=fun v=> ⟨LY h1 v,LY h2 v⟩
theorem iZ.refl(B:List Nat):iZ B B:=fun _=> .rfl
theorem iZ.trans{A B:List Nat}(h:iZ A B)(h':iZ B C):iZ A C:=fun v=> (h v).trans (h' v)
theorem iZ.symm{A B:List Nat}(h:iZ A B):iZ B A:=fun v=> (h v).symm
theorem Cb{b:Nat}{B:List Nat}(hB:(cK B).Nodup)(hb:b∉cK B):(cK (b::B)).Nodup:=by
 rw [cK,List.nodup_append];refine⟨hB,?_,?_⟩
 ·rw [List.Nodup,List.pairwise_map];refine hB.imp fun {u v} h e=>h ?_
  have:=aL (b^^^ ·) e;simpa only [oJ]using this
 rintro u hu v hv rfl;obtain⟨x,hx,rfl⟩:=eh.1 hv;have:=rn hu hx;rw [Nat.xor_assoc,Nat.xor_self,Nat.xor_zero]at this;exact hb this
def lf(L:List Nat)(r:Nat):Prop:=∃B,B.length=r/\(cK B).Nodup/\iZ L B
theorem lf.eq{r s:Nat}(h:lf L r)(h':lf L s):r=s:=by
 obtain⟨B,rfl,hB,hE⟩:=h;obtain⟨C,rfl,hC,hF⟩:=h';have tX:=hE.symm.trans hF;have h1:=Ex _ _ hB fun x hx=> (tX x).1 hx
 have h2:=Ex _ _ hC fun x hx=> (tX x).2 hx
 rw [Ey,Ey]at h1 h2;have h3:2^B.length=2^C.length:=by omega
 rcases Nat.lt_trichotomy B.length C.length with h | h | h
 ·have:=Nat.pow_lt_pow_right (a:=2) (by omega) h;omega
 ·exact h
 have:=Nat.pow_lt_pow_right (a:=2) (by omega) h;omega
def oR(v t:Nat):Prop:=v.testBit t=true/\∀j,t<j->v.testBit j=false
theorem oR.eq{v s:Nat}(h:oR v s)(h':oR v t):s=t:=by
 rcases Nat.lt_trichotomy s t with hl | e | hl
 ·have:=h.2 t hl;rw [h'.1]at this;cases this
 ·exact e
 have:=h'.2 s hl;rw [h.1]at this;cases this
theorem oR.ne{v:Nat}(h:oR v t):v≠0:=by rintro rfl;simp [oR]at h
theorem oR.xor{v s:Nat}(h:oR u s)(h':oR v t)(hl:s<t):oR (u^^^v) t:=by
 refine⟨by rw [Nat.testBit_xor,h.2 t hl,h'.1];rfl,fun j hj=>?_⟩;rw [Nat.testBit_xor,h.2 j (by omega),h'.2 j hj];rfl
theorem L9:∀ {B:List (Nat×Nat)},(∀p∈B,oR p.2 p.1)->(B.map (·.1)).Nodup->∀v∈cK (B.map (·.2)),v≠0->∃t∈B.map (·.1),oR v t
 | [],_,_,v,hv,cS=>by simp [cK]at hv;exact absurd hv cS
 | p::B,hT,hn,v,hv,cS=>by
  simp only [List.map_cons,kz]at hn;rw [List.map_cons,xO]at hv;have jh:∀q∈B,oR q.2 q.1:=fun q hq=>hT q (eb _ hq)
  rcases hv with hv | hv
  ·obtain⟨t,ht,h⟩:=L9 jh hn.2 v hv cS;exact⟨t,eb _ ht,h⟩
  ·by_cases e:p.2^^^v=0
   ·have e2:v=p.2:=by
     have:=aL (p.2^^^ ·) e;simpa only [oJ,Nat.xor_zero]using this
    exact⟨p.1,by simp,by rw [e2];exact hT p (by simp)⟩
   ·obtain⟨t,ht,h⟩:=L9 jh hn.2 _ hv e;have se:p.1≠t:=fun e=>hn.1 (by rw [e];exact ht)
    have hp:=hT p (by simp);have e3:v=p.2^^^ (p.2^^^v):=(oJ _ _).symm;rcases Nat.lt_or_gt_of_ne se with hl | hl
    ·exact⟨t,by simp [ht],by rw [e3];exact hp.xor h hl⟩
    ·exact⟨p.1,by simp,by rw [e3,Nat.xor_comm];exact h.xor hp hl⟩
theorem TK:∀ {B:List (Nat×Nat)},(∀p∈B,oR p.2 p.1)->(B.map (·.1)).Nodup->(cK (B.map (·.2))).Nodup
 | [],_,_=>by simp [cK]
 | p::B,hT,hn=>by
  simp only [List.map_cons,kz]at hn;rw [List.map_cons];refine Cb (TK (fun q hq=>hT q (eb _ hq)) hn.2) fun hb=>?_
  obtain⟨t,ht,h⟩:=L9 (fun q hq=>hT q (eb _ hq)) hn.2 _ hb (hT p (by simp)).ne;exact hn.1 (by rw [(hT p (by simp)).eq h];exact ht)
end Go.Proofs.YtkojeolafnadeaaGreatDoor.Vc
namespace Go.Proofs.YtkojeolafnadeaaGreatDoor.Vc
open Go.RowKit Tryz
def gs(l:List aX)(i:Nat):aX:=l.getD i bW
def mw(a m b:Nat):Nat:=if(a+b) / 2<m then(a+b) / 2 else m
section
variable {P:Program} {N:Nat} {ops:Array Oper} {K:Env->aa->Prop} {rest:List Oper} {e:Env} {w:aa} {d:Nat} {ty:ad} {pos:String} {af:Array Edge} {x y:ae} {xt yt:ad} {i:Int}
end
end Go.Proofs.YtkojeolafnadeaaGreatDoor.Vc
namespace Go.Proofs.YtkojeolafnadeaaGreatDoor.Vc
open Go.RowKit Go.Sort Tryz
end Go.Proofs.YtkojeolafnadeaaGreatDoor.Vc
