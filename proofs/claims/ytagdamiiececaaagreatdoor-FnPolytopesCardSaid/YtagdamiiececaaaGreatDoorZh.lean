/-
 Lemmas. Conditions: as each states them.
-/
import Derived.Test.YtagdamiiececaaaGreatDoorZg
import Derived.Lib.ItoaLen
import Derived.Test.YtagdamiiececaaaGreatDoorLayd
import Derived.Shelf.Strconv.AppendIntPublic10
import Derived.Test.YtagdamiiececaaaGreatDoorZf
set_option maxHeartbeats 8000000
namespace Go.Proofs.YtagdamiiececaaaGreatDoor.Vc
open Tryz
section
open Go.RowKit
variable{w w':aa}
def iK(xs:ai):List UInt8:=xs.flatMap fun x=>Lib.itoa x++ [32]
def nK(xs:ai):ByteArray:=⟨(iK xs).toArray⟩
def FN(l:List UInt8):Nat:=l.foldl (fun a b=>10*a+ (b.toNat - 48)) 0
theorem BU{d:Nat}(h:d<10):(UInt8.ofNat (48+d)).toNat=48+d:=by
 rw [UInt8.toNat_ofNat'];omega
theorem wD:∀u:Nat,FN (Lib.decDigits u)=u/\∀b∈Lib.decDigits u,48<=b.toNat/\b.toNat<=57:=by
 intro u
 induction u using Nat.strongRecOn with
 | ind u ih=>
  rw [Lib.decDigits]
  split
  ·rename_i h;refine⟨?_,fun b hb=>?_⟩
   ·simp only [FN,List.foldl_cons,List.foldl_nil,BU h];omega
   ·simp only [eP]at hb;subst hb;rw [BU h];omega
  ·rename_i h;obtain⟨h1,h2⟩:=ih (u / 10) (by omega);refine⟨?_,fun b hb=>?_⟩
   ·unfold FN at h1|-;rw [List.foldl_append,h1];simp only [List.foldl_cons,List.foldl_nil,BU (show u%10<10 by omega)];omega
   ·rcases gL.1 hb with hb | hb
    ·exact h2 b hb
    ·simp only [eP]at hb;subst hb;rw [BU (by omega)];omega
theorem GV{u v:Nat}(h:Lib.decDigits u=Lib.decDigits v):u=v:=by rw [<-(wD u).1,h,(wD v).1]
theorem JT{x:Int}:∀b∈Lib.itoa x,b≠32:=by
 intro b hb e;subst e;unfold Lib.itoa at hb
 split at hb
 ·rcases kT.1 hb with h | h
  ·exact absurd h (by decide)
  have:=(wD _).2 _ h;exact absurd this (by decide)
 have:=(wD _).2 _ hb;exact absurd this (by decide)
theorem RF{x y:Int}(h:Lib.itoa x=Lib.itoa y):x=y:=by
 have Kp:∀(u v:Nat),45::Lib.decDigits u≠Lib.decDigits v:=fun u v e=>by
  have:=(wD v).2 45 (by rw [<-e];simp);exact absurd this (by decide)
 unfold Lib.itoa at h
 split at h<;>split at h
 ·simp only [List.cons.injEq,true_and]at h;have:=GV h;omega
 ·exact absurd h (Kp _ _)
 ·exact absurd h.symm (Kp _ _)
 have:=GV h;omega
theorem KX:∀ {a b r s:List UInt8},(∀x∈a,x≠32)->(∀x∈b,x≠32)->a++32::r=b++32::s->a=b/\r=s
 | [],[],_,_,_,_,h=>by simpa using h
 | [],y::b,_,_,_,hb,h=>by
  simp only [List.nil_append,List.cons_append,List.cons.injEq]at h;exact absurd h.1.symm (hb y (by simp))
 | x::a,[],_,_,ha,_,h=>by
  simp only [List.nil_append,List.cons_append,List.cons.injEq]at h;exact absurd h.1 (ha x (by simp))
 | x::a,y::b,_,_,ha,hb,h=>by
  simp only [List.cons_append,List.cons.injEq]at h;obtain⟨h1,h2⟩:=KX (fun z hz=>ha z (by simp [hz])) (fun z hz=>hb z (by simp [hz])) h.2;exact⟨by rw [h.1,h1],h2⟩
theorem yo(x:Int)(xs:ai):iK (x::xs)=Lib.itoa x++32::iK xs:=by simp [iK]
theorem R2(xs:ai)(x:Int):iK (xs++ [x])=(iK xs++Lib.itoa x)++ [32]:=by simp [iK]
theorem JW:∀ {xs ys:ai},iK xs=iK ys->xs=ys
 | [],[],_=>rfl
 | [],y::ys,h=>by rw [yo]at h;simp [iK]at h
 | x::xs,[],h=>by rw [yo]at h;simp [iK]at h
 | x::xs,y::ys,h=>by
  rw [yo,yo]at h;obtain⟨h1,h2⟩:=KX JT JT h;rw [RF h1,JW h2]
theorem JV{xs ys:ai}(h:nK xs=nK ys):xs=ys:=by
 have h1:(iK xs).toArray=(iK ys).toArray:=aH ByteArray.data h;exact JW (by simpa using h1)
theorem fold_push:∀(l:List UInt8) (s:ByteArray),(l.map fun b=> ((b.toNat:Nat):Int)).foldl (fun r n=>r.push (UInt8.ofNat n.toNat)) s=⟨s.data++l.toArray⟩
 | [],s=>by simp
 | b::l,s=>by
  simp only [List.map_cons,List.foldl_cons];rw [fold_push l];have e:UInt8.ofNat ((b.toNat:Nat):Int).toNat=b:=by simp
  rw [e];have e2:(s.push b).data=s.data.push b:=O;rw [e2]
  congr 1
  apply Array.ext';simp
def kW(w : aa): Prop := Lib.TabIs prog w "internal/strconv.uint64pow10" .u64 Lib.pow10Tab
theorem kW.aq(h:kW w)(hb:Below w.heap.size w w'):kW w':=Lib.tabBelow_of_tabIs h w' hb.toBelow
def pR(B:Nat)(w:aa)(A:aj)(m c:Nat)(l:List UInt8):Prop:=w.ownsRow B 5 1 (.slice A m c) m (Lib.byteCells l)
theorem Ku{B m:Nat}{v:ad}{xs:List ad}(h:w.ownsRow B 5 1 v m xs):∃A c,v= .slice A m c:=by
 rcases h.2 with⟨rfl,rfl⟩ | ⟨g,cap,cur,rfl,_⟩
 ·exact⟨_,_,O⟩
 exact⟨_,_,O⟩
theorem pR.aq{B:Nat}{A:aj}{m c:Nat}{l:List UInt8}(h:pR B w A m c l)(hb:Below w.heap.size w w'):pR B w' A m c l:=by
 refine⟨h.1,?_⟩;rcases h.2 with h1 | ⟨g,cap,cur,h1,h2,h3,r⟩
 ·exact .inl h1
 exact .inr ⟨g,cap,cur,h1,h2,by rw [hb.block g (Array.getElem?_eq_some_iff.1 h3).1];exact h3,r⟩
section
variable {N:Nat} {ops:Array Oper} {K:Env->aa->Prop} {rest:List Oper} {e:Env} {w0 w w':aa} {ks:List Ck} {d:Nat} {ty:ae} {pos:String} {af:Array Edge}
theorem LO{B m c:Nat}{A:aj}{l:List UInt8}{A1:aj}{b:UInt8}{x y:ag}(hO:pR B w A m c l)(hB:B<=w.heap.size)(hR:Rd w A1 1 (fun _=> .int .u8 (b.toNat:Nat)))(hx:ev e x= .slice A m c)(hy:ev e y= .slice A1 1 1)(hm:m<=1000000000)(hb:Nat.blt d N=true)
 (hK:∀A2 c2 w',Go.RowKit.Below B w w'->pR B w' A2 (m+1) c2 (l++ [b])->ao prog N ops K rest (bj e d (.slice A2 (m+1) c2)) w'):
 ao prog N ops K (⟨some d,.call ⟨.builtin .append, #[x,y], #[22,22]⟩,ty,pos,af,none⟩::rest) e w:=by
 obtain⟨inf,hi,fH,hs,iT⟩:=bJ.get prog 5;obtain⟨p,hp,hc⟩:=hR 0 (by omega);obtain⟨a,rfl⟩:∃a,A1=some a:=by cases A1 with | none=>simp [aD]at hp | some q=>exact⟨q,rfl⟩
 simp only [aD,Option.map_some,lF]at hp;obtain⟨v',w',hr,xb,hg,_⟩:=run_append_own (P:=prog) (w:=w) B 22 ty 5 inf (.int .u8 0) 1 1 underlying22 hi fH hs iT rfl (by decide) (.slice A m c) m (Lib.byteCells l) hO a 1 1 [.int .u8 (b.toNat:Nat)] rfl
  (fun j u hj=>by
    match j,hj with
    | 0,hj=>simp at hj;subst hj;rw [hp];exact hc) (fun u hu=>by simp at hu;subst hu;rfl) (by simp only [maxLen];omega) (by omega) hB
 obtain⟨A2,c2,rfl⟩:=Ku xb;refine .val (w':=w') ?_ hb (hK A2 c2 w' ?_ ?_)
 ·simp [execOp,resolve,invoke,builtin,hx,hy,hr]
 ·exact(Go.RowKit.Below.refl B w).grown hg hB (fun k hk=> (hO.lt k hk).1)
 ·show w'.ownsRow B 5 1 (.slice A2 (m+1) c2) (m+1) (Lib.byteCells (l++ [b]));rw [show Lib.byteCells (l++ [b])=Lib.byteCells l++ [.int .u8 (b.toNat:Nat)] by simp [Lib.byteCells]];exact xb
theorem LV{B m c:Nat}{A:aj}{l:List UInt8}{x:ag}(hO:pR B w A m c l)(hx:ev e x= .slice A m c)(hb:Nat.blt d N=true)(hK:ao prog N ops K rest (bj e d (.string ⟨l.toArray⟩)) w):
 ao prog N ops K (⟨some d,.convert 22 9 x,ty,pos,af,none⟩::rest) e w:=by
 have hr:(Conv.bytesToString (.slice A m c)).run prog w= .ok (.string ⟨l.toArray⟩) w:=by
  have hl:(Lib.byteCells l).length=m*1:=hO.1;rcases hO.2 with⟨h1,h2⟩ | ⟨g,cap,cur,h1,_⟩
  ·simp only [Value.slice.injEq]at h1;obtain⟨rfl,rfl,rfl⟩:=h1;have:l=[]:=pM (by rw [Lib.byteCells_length]at hl;omega);subst this
   rfl
  simp only [Value.slice.injEq]at h1;obtain⟨rfl,_,rfl⟩:=h1;have h2:=hO.cells (g:=g) O;have h3:=run_loadCells_list (P:=prog) (w:=w) (⟨g,0,none⟩:Addr) (Lib.byteCells l) h2;rw [hl,Nat.mul_one]at h3;have e1:Lib.byteCells l=(l.map fun b=> ((b.toNat:Nat):Int)).map (Value.int .u8):=by simp [Lib.byteCells]
  rw [e1]at h3;rw [run_bytesToString w _ m c _ h3,fold_push];simp
 refine .val (w':=w) ?_ hb hK;simp [execOp,hx,convert,run_underlying underlying22,run_underlying underlying9,run_underlying underlying5,hr]
end
theorem Lw{B m c : Nat}{A : aj}{l : List UInt8}(x : Int)(w : aa)(hx : -9223372036854775808 <= x /\ x <= 9223372036854775807)(hO : pR B w A m c l)(hB : B <= w.heap.size)(hm : m <= 1000000000)(hT : Lib.TabBelow prog B w "internal/strconv.uint64pow10" .u64 Lib.pow10Tab):
 aJ prog 191 [.slice A m c,ak x,ak 10] w (fun v w'=>∃A' c',v= .slice A' (m+ (Lib.itoa x).length) c'/\pR B w' A' (m+ (Lib.itoa x).length) c' (l++Lib.itoa x)/\Go.RowKit.Below B w w'):=by
 have key:=Any.strconv_AppendInt_10 SE B m x hx.1 hx.2 (.slice A m c) (Lib.byteCells l) w hO hB (by omega) hT;refine Calls.mono key fun y w' ⟨v',hy,xb,hb,_⟩=> ⟨_,hy,?_⟩
 obtain⟨A2,c2,rfl⟩:=Ku xb;refine⟨A2,c2,O,?_,hb⟩;show w'.ownsRow B 5 1 (.slice A2 _ c2) _ (Lib.byteCells (l++Lib.itoa x));rw [Lib.byteCells_append];exact xb
theorem JU(x:Int)(hx: -9223372036854775808<=x/\x<=9223372036854775807):(Lib.itoa x).length<=21:=Lib.itoa_length_le x hx.1 hx.2
theorem JX:∀(xs:ai),(∀x∈xs,-9223372036854775808<=x/\x<=9223372036854775807)->(iK xs).length<=22*xs.length
 | [],_=>by simp [iK]
 | x::xs,h=>by
  have h1:=JU x (h x (by simp));have h2:=JX xs fun y hy=>h y (by simp [hy])
  rw [yo];simp only [eY,List.length_cons];omega
theorem EW(A:aj)(n c:Nat)(xs:ai)(w:aa)(hT:kW w)(hR:bu w A n xs)(hx:∀x∈xs,-9223372036854775808<=x/\x<=9223372036854775807)(hn:n<=1000000):
 aJ prog 122 [.slice A n c] w (fun v w'=>v= .string (nK xs)/\St w w' []):=by
 have eu:=hR.1;refine br func122 O ntmps122 O (cw O) ?_;refine a8 O (ba O O (aE O ?_));refine Cd.loop (α:=Nat×aj×Nat) (fun s=> [(3,.slice s.2.1 (iK (xs.take s.1)).length s.2.2),(6,.slice A n c),(7,ak n),(8,ak (s.1:Int))]) (fun s w'=>pR w.heap.size w' s.2.1 (iK (xs.take s.1)).length s.2.2 (iK (xs.take s.1))/\Go.RowKit.Below w.heap.size w w'/\s.1<=n) (fun s=>n - s.1) (0,none,0) (WM O) ⟨World.ownsRow_nil w _ _ _,Go.RowKit.Below.refl _ _,bn _⟩ ?_;rintro⟨i,A3,c3⟩ e w1 ⟨hO,eN,hi⟩;dsimp only at hO eN hi|-;refine bX O (aN _ O (fun h1=>?_) (fun h1=>?_))
 ·have eK:i<xs.length:=by omega
  have jA : bu w1 A n xs := hR.aq ⟨eN, fun s => s.elim⟩;have vb : Lib.TabBelow prog w.heap.size w1 "internal/strconv.uint64pow10" .u64 Lib.pow10Tab := (Lib.tabBelow_of_tabIs hT).on eN
  have fT:=hx _ (gi_in eK);have Av:=JX (xs.take i) fun x hm=>hx x (List.mem_of_mem_take hm)
  have mJ:=JU _ fT;rw [mY]at Av;have kK:=eN.size;have Bb:iK (xs.take (i+1))=(iK (xs.take i)++Lib.itoa (gi xs i))++ [32]:=by rw [rR eK,R2]
  refine aG O (aB jA.2 O (aW jA O (ar O (aI (Lw (gi xs i) _ fT hO kK (by omega) vb) O ?_))));rintro _ w2 ⟨A4,c4,rfl,Pf,iI⟩;have hsz2:=iI.size;refine ar O (ao.Cz (St.refl w2) O O O O ?_);intro A5 w3 aU;have Pg:=Pf.aq aU.below;have jQ:Go.RowKit.Below w.heap.size w2 w3:=aU.below.toBelow.mono (by omega);have hsz3:=jQ.size;refine LO (b:=32) Pg (by omega) (aU.rd 0 rfl |>.congr fun j hj=>by obtain rfl:j=0:=by { have:j<1:=hj;omega };rfl) rfl rfl (by omega) rfl ?_;intro A6 c6 w4 mF Ph;refine ar O (aK O (aR O (tQ ?_)));refine⟨(i+1,A6,c6),by show n - (i+1)<n - i;omega,⟨?_,O,O,O,av⟩,?_,((eN.trans iI).trans jQ).trans mF,by show i+1<=n;omega⟩
  ·show Value.slice _ _ _= .slice _ _ _;rw [Bb];simp [Nat.add_assoc]
  show pR _ w4 A6 (iK (xs.take (i+1))).length c6 (iK (xs.take (i+1)));rw [Bb];have e1:((iK (xs.take i)++Lib.itoa (gi xs i))++ [32]).length=(iK (xs.take i)).length+ (Lib.itoa (gi xs i)).length+1:=by simp;omega
  rw [e1];exact Ph
 have de:i=xs.length:=by omega
 subst de;rw [List.take_length]at hO;refine bk O (bm (ct O ?_));refine LV hO (by show Value.slice _ _ _= .slice _ _ _;rw [List.take_length]) O ?_;refine bI O (BF O ?_);exact⟨rfl,⟨⟨eN,fun s=>s.elim⟩,fun k hk=> (by cases hk),List.nodup_nil⟩⟩
end
section
open Go.RowKit Go.MapKept
section
variable {κ ν:Type} [DecidableEq κ]
def gO:List (κ×ν)->κ->List (κ×ν)
 | [],_=> []
 | (y,v)::r,x=>if y=x then r else(y,v)::gO r x
theorem GX:∀ {L:List (κ×ν)} {x:κ} {j:Nat} {v:ν},kC L x=some (j,v)->gO L x=L.eraseIdx j
 | (y,w)::r,x,j,v,h=>by
  simp only [kC]at h
  split at h
  ·rename_i e;simp only [lF,Prod.mk.injEq]at h;obtain⟨rfl,rfl⟩:=h;simp only [gO,aF e,List.eraseIdx_zero,List.tail_cons]
  ·rename_i e;cases hf:kC r x with
   | none=>simp [hf]at h
   | some p=>
    simp only [hf,Option.map_some,lF,Prod.mk.injEq]at h;obtain⟨rfl,rfl⟩:=h;simp only [gO,aC e,List.eraseIdx_cons_succ,GX (L:=r) (x:=x) (j:=p.1) (v:=p.2) hf]
theorem GW:∀ {L:List (κ×ν)} {x:κ},kC L x=none->gO L x=L
 | [],_,_=>rfl
 | (y,w)::r,x,h=>by
  simp only [kC]at h
  split at h
  ·cases h
  ·rename_i e;rw [Option.map_eq_none_iff]at h;simp only [gO,aC e,GW h]
theorem CP:∀(L:List (κ×ν)) (x:κ),(gO L x).Sublist L
 | [],_=> .slnil
 | (y,v)::r,x=>by
  simp only [gO]
  split
  ·exact(gB _).cons _
  ·exact(CP r x).cons_cons _
theorem Hr:∀ {L:List (κ×ν)} {x:κ},x∉L.map (·.1)->eB L x=none
 | [],_,_=>rfl
 | (y,v)::r,x,h=>by
  simp only [List.map_cons,kT,not_or]at h;simp only [eB,aC (fun e:y=x=>h.1 e.symm),Hr h.2]
theorem Hq:∀ {L:List (κ×ν)} {x y:κ},(L.map (·.1)).Nodup->eB (gO L x) y=if x=y then none else eB L y
 | [],x,y,_=>by simp [gO,eB]
 | (z,v)::r,x,y,h=>by
  simp only [List.map_cons,mZ]at h;simp only [gO]
  split
  ·rename_i e;subst e
   split
   ·rename_i e;subst e;exact Hr h.1
   ·rename_i e;simp only [eB,aC e]
  ·rename_i e;simp only [eB,Hq (L:=r) (x:=x) (y:=y) h.2]
   by_cases e2:z=y
   ·subst e2;rw [aF rfl,aC (fun q=>e q.symm),aF rfl]
   ·rw [aC e2,aC e2]
theorem Ua(L:List (κ×ν))(x:κ)(u:ν):∀y,y∈(gy L x u).map (·.1)↔y=x\/y∈L.map (·.1):=by
 induction L with
 | nil=>intro y;simp [gy]
 | cons p r ih=>
  obtain⟨z,w⟩:=p;intro y;simp only [gy]
  split
  ·rename_i e;subst e;simp
  ·simp only [List.map_cons,kT,ih];exact⟨fun h=>by rcases h with h | h | h<;>simp [h],fun h=>by rcases h with h | h | h<;>simp [h]⟩
theorem KC:∀ {L:List (κ×ν)} {x:κ} {u:ν},(L.map (·.1)).Nodup->((gy L x u).map (·.1)).Nodup
 | [],x,u,_=>by simp [gy]
 | (z,v)::r,x,u,h=>by
  simp only [List.map_cons,mZ]at h;simp only [gy]
  split
  ·rename_i e;subst e;simp only [List.map_cons,mZ];exact h
  ·rename_i e;simp only [List.map_cons,mZ];refine⟨fun hm=>?_,KC h.2⟩;rcases(Ua r x u z).1 hm with h1 | h1
   ·exact e h1
   ·exact h.1 h1
theorem NA{L:List (κ×ν)}{x:κ}(h:(L.map (·.1)).Nodup):((gO L x).map (·.1)).Nodup:=h.sublist ((CP L x).map _)
theorem Uc(L:List (κ×ν))(x:κ)(u:ν):(gy L x u).Perm ((x,u)::gO L x):=by
 induction L with
 | nil=>exact .refl _
 | cons p r ih=>
  obtain⟨z,w⟩:=p;simp only [gy,gO]
  split
  ·rename_i e;exact .refl _
  ·exact(ih.cons _).trans (.swap _ _ _)
theorem Hu:∀ {L:List (κ×ν)} {x:κ} {u:ν},eB L x=some u->L.Perm ((x,u)::gO L x)
 | (z,w)::r,x,u,h=>by
  simp only [eB]at h;simp only [gO]
  split at h
  ·rename_i e;subst e;injection h with h
   subst h;rw [aF rfl]
  ·rename_i e;rw [aC e];exact((Hu h).cons _).trans (.swap _ _ _)
theorem C5:∀ {L:List (κ×ν)} {x:κ},eB L x=none->gO L x=L
 | [],_,_=>rfl
 | (z,w)::r,x,h=>by
  simp only [eB]at h;simp only [gO]
  split at h
  ·cases h
  ·rename_i e;rw [aC e,C5 h]
end
section
variable {P:Program} {N:Nat} {ops:Array Oper} {K:Env->aa->Prop} {rest:List Oper} {e:Env} {w0 w w':aa} {ks:List Ck} {d:Nat} {ty:ae} {pos:String} {af:Array Edge}
variable {κ ν:Type} [DecidableEq κ] {kd:TypeDesc} {kv:κ->ad} {vv:ν->ad}
theorem CU{α β:Type}(f:α->β):∀(l:List α) (j:Nat),(l.eraseIdx j).map f=(l.map f).eraseIdx j
 | [],_=>rfl
 | _::_,0=>rfl
 | a::r,j+1=>by simp only [List.eraseIdx_cons_succ,List.map_cons,CU f r j]
theorem Us{t kt et T:ae}[hU:bG P t (.map kt et)][hk:bG P kt kd](KT:oV kd kv){g:Nat}{L:List (κ×ν)}(i:Nat)(x:κ)(Bk:ae)(hS:St w0 w ks)(hi:ks[i]?=some (iF T g (gH kv vv L))):
 ∃w',(Builtin.delete_ #[t,Bk] ty #[.map (some g),kv x]).run P w= .ok (.tuple #[]) w'/\St w0 w' (ks.set i (iF T g (gH kv vv (gO L x)))):=by
 obtain⟨_,es,cl,hh,hm⟩:=hS.Bu i hi;have hf:=zv (vv:=vv) KT x es.toList L 0 hm;have rm:=MapKept.run_findKey (P:=P) (w:=w) hk.out hf;cases iU:kC L x with
 | none=>
  refine⟨{ w with heap:=w.heap.setIfInBounds g (.map es cl) },?_,hS.BS hi ?_⟩
  ·simp [Builtin.delete_,run_underlying hU.out,MapKept.run_getObj_map hh,MapKept.run_checkKey hk.out (KT.isKey x),rm,iU,MapKept.run_setObj_map _ hh,Result.andThen]
  ·rw [GW iU];exact hm
 | some p=>
  obtain⟨j,v⟩:=p;refine⟨{ w with heap:=w.heap.setIfInBounds g (.map (es.eraseIdxIfInBounds j) cl) },?_,hS.BS hi ?_⟩
  ·simp [Builtin.delete_,run_underlying hU.out,MapKept.run_getObj_map hh,MapKept.run_checkKey hk.out (KT.isKey x),rm,iU,MapKept.run_setObj_map _ hh,Result.andThen]
  ·rw [GX iU];have e1:(es.eraseIdxIfInBounds j).toList=es.toList.eraseIdx j:=by
    unfold Array.eraseIdxIfInBounds
    split
    ·rw [Array.toList_eraseIdx]
    ·rename_i h;rw [List.eraseIdx_of_length_le (by simpa using h)]
   rw [e1,CU,hm];unfold gH;rw [CU]
theorem LW{t kt et T Bk:ae}{m k:ag}[hU:bG P t (.map kt et)][bG P kt kd](KT:oV kd kv){g:Nat}{L:List (κ×ν)}(i:Nat){a:κ}(hS:St w0 w ks)(hi:ks[i]?=some (iF T g (gH kv vv L)))(hm:ev e m= .map (some g))(hk:ev e k=kv a)(hK:∀w',St w0 w' (ks.set i (iF T g (gH kv vv (gO L a))))->ao P N ops K rest e w'):ao P N ops K (⟨none,.call ⟨.builtin .delete, #[m,k], #[t,Bk]⟩,ty,pos,af,none⟩::rest) e w:=by
 obtain⟨w',po,mE⟩:=Us (P:=P) (t:=t) (ty:=ty) KT i a Bk hS hi;refine .Vi (w':=w') (v:= .tuple #[]) ?_ (hK _ mE);simp [execOp,resolve,invoke,builtin,hm,hk,po]
end
section
variable {P:Program} {N:Nat} {ops:Array Oper} {K:Env->aa->Prop} {rest:List Oper} {e:Env} {w0 w w':aa} {ks:List Ck} {d:Nat} {ty:ae} {pos:String} {af:Array Edge}
theorem L3{κ ν:Type}[DecidableEq κ]{kd:TypeDesc}{kv:κ->ad}{vv:ν->ad}{t kt et:ae}{z v:ad}{s b:Nat}[bG P t (.map kt et)][bG P kt kd][bJ P et z s b](KT:oV kd kv){g:Nat}{L:List (κ×ν)}{m ix:ag}{x:κ}(hR:uK w g (gH kv vv L))(hx:ev e m= .map (some g))(hy:ev e ix=kv x)(hv:((eB L x).map vv).getD z=v)(hb:Nat.blt d N=true)(hK:ao P N ops K rest (bj e d (.tuple #[v,.bool (eB L x).isSome])) w):ao P N ops K (⟨some d,.lookup t m ix true,ty,pos,af,none⟩::rest) e w:=by
 subst hv;refine .val (w':=w) ?_ hb hK;have:=FB (P:=P) (t:=t) (x:=x) KT hR true;simp [execOp,hx,hy,this]
end
def rF(l:ai):ad:= .string (nK l)
theorem vK:oV .string rF:=⟨fun _=>av,fun a b h=>JV (by injection h)⟩
abbrev jF:=ai×aL×ai
def vO(u:aL×ai):ad:=u.1.v
def lz(t:ae)(M:List jF):List Ck:=M.map fun p=>aw t p.2.1.a p.2.1.n p.2.1.c p.2.2
def gg(M:List jF)(x:ai):aL:=((eB M x).map (·.1)).getD cL
def gw(M:List jF)(x:ai):ai:=((eB M x).map (·.2)).getD []
section
variable {w0 w w':aa} {ks pre:List Ck} {t:ae} {M:List jF} {x:ai}
theorem C9{u:aL×ai}(h:eB M x=some u):gg M x=u.1/\gw M x=u.2:=by simp [gg,gw,h]
theorem Hw(h:eB M x=none):gg M x=cL/\gw M x=[]:=by simp [gg,gw,h]
theorem St.K1(h:St w0 w (pre++ (lz t M++ks))):St w0 w (aw t (gg M x).a (gg M x).n (gg M x).c (gw M x)::(pre++ (lz t (gO M x)++ks))):=by
 cases hg:eB M x with
 | none=>
  rw [(Hw hg).1,(Hw hg).2,C5 hg];exact h.nil t
 | some u=>
  rw [(C9 hg).1,(C9 hg).2];refine h.perm ?_;have h1:(lz t M).Perm (aw t u.1.a u.1.n u.1.c u.2::lz t (gO M x)):=(Hu hg).map _;exact((h1.append_right ks).append_left pre).trans iA
theorem Gk{u:aL×ai}(h:St w0 w (aw t u.1.a u.1.n u.1.c u.2::(pre++ (lz t (gO M x)++ks)))):St w0 w (pre++ (lz t (gy M x u)++ks)):=by
 refine h.perm ?_;have h1:(aw t u.1.a u.1.n u.1.c u.2::lz t (gO M x)).Perm (lz t (gy M x u)):=((Uc M x u).map fun p:jF=>aw t p.2.1.a p.2.1.n p.2.1.c p.2.2).symm;exact iA.symm.trans ((h1.append_right ks).append_left pre)
theorem Cm(h:St w0 w (pre++ (lz t M++ks))):bu w (gg M x).a (gg M x).n (gw M x):=(h.K1 (x:=x)).bo 0 rfl
theorem Mf(h:St w0 w (pre++ (lz t M++ks))):St w0 w (pre++ (lz t (gO M x)++ks)):=h.sub (((((CP M x).map _).append_right ks)).append_left pre)
end
end
section
variable{x y:ai}{i j:Nat}
def fI(x:ai)(i:Nat):ai:=x.set i (-1)
theorem FA(x:ai)(i:Nat):(fI x i).length=x.length:=by simp [fI]
theorem vX{k:Nat}(hk:k<x.length):gi (fI x i) k=if k=i then -1 else gi x k:=by
 rw [bF (by rw [FA];exact hk),bF hk];unfold fI;rw [List.getElem_set]
 by_cases e:i=k
 ·rw [aF e,aF e.symm]
 rw [aC e,aC (fun h=>e h.symm)]
theorem BK{n:Nat}(hx:x.length=n)(hy:y.length=n):fI x i=fI y i↔∀k:Nat,k<n->k≠i->gi x k=gi y k:=by
 constructor
 ·intro h k hk bL;have:=aH (fun l=>gi l k) h;simp only [vX (x:=x) (i:=i) (show k<x.length by omega),vX (x:=y) (i:=i) (show k<y.length by omega),aC bL]at this;exact this
 intro h;refine rH (n:=n) (by rw [FA,hx]) (by rw [FA,hy]) fun k hk=>?_
 rw [vX (by omega),vX (by omega)]
 split
 ·rfl
 rename_i e;exact h k hk e
theorem Up{n:Nat}(hx:x.length=n)(hy:y.length=n)(hi:i<n)(h0:∀e∈y,0<=e)(h:fI x i=fI y j):i=j:=by
 have:=aH (fun l=>gi l i) h;simp only [vX (x:=x) (i:=i) (show i<x.length by omega),vX (x:=y) (i:=j) (show i<y.length by omega),aF]at this
 by_cases e:i=j
 ·exact e
 rw [aC e]at this;have h2:=h0 _ (gi_in (show i<y.length by omega));omega
theorem C8(M:List jF)(x l:ai)(u:aL×ai):gw (gy M x u) l=if x=l then u.2 else gw M l:=by
 unfold gw;rw [C4]
 split<;>rfl
theorem C7{M:List jF}{l:ai}(h:(M.map (·.1)).Nodup):gw (gO M x) l=if x=l then []else gw M l:=by
 unfold gw;rw [Hq h]
 split<;>rfl
structure fV(n:Nat)(fl:ah)(D:Nat->Nat->Prop)(G:Nat->Prop)(b:Nat)(M:List jF):Prop where
 nd:(M.map (·.1)).Nodup
 el:∀l y,y∈gw M l->∃y' i:Nat,y=(y':Int)/\y'<fl.length/\i<n/\D y' i/\l=fI (gl fl y') i
 al:∀y i:Nat,y<fl.length->i<n->D y i->(y:Int)∈gw M (fI (gl fl y) i)\/G y
 len:∀l,(gw M l).length<=b
section
variable{b' i:Nat}
variable {n:Nat} {fl:ah} {D D':Nat->Nat->Prop} {G G':Nat->Prop} {b:Nat} {M:List jF} {c:ai}
def rP(n:Nat)(fl:ah)(c:ai)(f i:Nat)(y j:Nat):Prop:=gA n c (gl fl y)/\(y<f\/y=f/\j<i)
theorem fV.zero:fV n fl (rP n fl c 0 0) (fun _=>False) 0 []:=⟨by simp,fun l y h=>by simp [gw,eB]at h,fun y i _ _ h=>by have:=h.2;omega,fun l=>by simp [gw,eB]⟩
theorem fV.congr(h:fV n fl D G b M)(hD:∀y i,y<fl.length->i<n->(D y i↔D' y i)):fV n fl D' G b M:=
 ⟨h.nd,fun l y hy=>by obtain⟨y',i,h1,h2,h3,h4,h5⟩:=h.el l y hy;exact⟨y',i,h1,h2,h3,(hD y' i h2 h3).1 h4,h5⟩,fun y i hy hi hd=>h.al y i hy hi ((hD y i hy hi).2 hd),h.len⟩
theorem fV.more(h:fV n fl D G b M)(hb:b<=b'):fV n fl D G b' M:=⟨h.nd,h.el,h.al,fun l=>jb (h.len l) hb⟩
theorem fV.skip{f:Nat}(h:fV n fl (rP n fl c f 0) G b M)(hf:¬gA n c (gl fl f)):fV n fl (rP n fl c (f+1) 0) G b M:=
 h.congr fun y i _ _=> ⟨fun h=> ⟨h.1,by have:=h.2;omega⟩,fun h=> ⟨h.1,by
  have h2:=h.2;have:y≠f:=fun e=>hf (e▸h.1)
  omega⟩⟩
theorem fV.row{f:Nat}(h:fV n fl (rP n fl c f n) G b M):fV n fl (rP n fl c (f+1) 0) G b M:=
 h.congr fun y i _ hi=> ⟨fun h=> ⟨h.1,by have:=h.2;omega⟩,fun h=> ⟨h.1,by have:=h.2;omega⟩⟩
theorem fV.put{f:Nat}(h:fV n fl (rP n fl c f i) G b M)(hf:f<fl.length)(hi:i<n)(hH:gA n c (gl fl f))(s:aL):
 fV n fl (rP n fl c f (i+1)) G (b+1) (gy M (fI (gl fl f) i) (s,gw M (fI (gl fl f) i)++ [(f:Int)])):=by
 refine⟨KC h.nd,fun l y hy=>?_,fun y j hy hj hd=>?_,fun l=>?_⟩
 ·rw [C8]at hy
  split at hy
  ·rename_i e;rcases gL.1 hy with hy | hy
   ·obtain⟨y',j,h1,h2,h3,h4,h5⟩:=h.el _ y hy;exact⟨y',j,h1,h2,h3,⟨h4.1,by have:=h4.2;omega⟩,e.symm.trans h5⟩
   exact⟨f,i,eP.1 hy,hf,hi,⟨hH,.inr ⟨O,Nat.lt_succ_self _⟩⟩,e.symm⟩
  obtain⟨y',j,h1,h2,h3,h4,h5⟩:=h.el _ y hy;exact⟨y',j,h1,h2,h3,⟨h4.1,by have:=h4.2;omega⟩,h5⟩
 ·rw [C8]
  by_cases e:y=f/\j=i
  ·obtain⟨rfl,rfl⟩:=e;rw [aF rfl];exact .inl (List.mem_append_right _ (by simp))
  rcases h.al y j hy hj ⟨hd.1,by have:=hd.2;omega⟩with h1 | h1
  ·left
   split
   ·rename_i e2;rw [e2];exact List.mem_append_left _ h1
   exact h1
  exact .inr h1
 rw [C8]
 split
 ·rename_i e;have:=h.len (fI (gl fl f) i);rw [eY];simp;omega
 have:=h.len l;omega
theorem fV.mono(h:fV n fl D G b M)(hG:∀y,y<fl.length->G y->G' y):fV n fl D G' b M:=
 ⟨h.nd,h.el,fun y i hy hi hd=> (h.al y i hy hi hd).imp id (hG y hy),h.len⟩
theorem fV.del(h:fV n fl D G b M){x:ai}(hx:∀y:Nat,(y:Int)∈gw M x->G y):fV n fl D G b (gO M x):=by
 refine⟨NA h.nd,fun l y hy=>?_,fun y i hy hi hd=>?_,fun l=>?_⟩
 ·rw [C7 h.nd]at hy
  split at hy
  ·cases hy
  exact h.el l y hy
 ·rcases h.al y i hy hi hd with h1 | h1
  ·rw [C7 h.nd]
   split
   ·rename_i e;rw [<-e]at h1;exact .inr (hx y h1)
   exact .inl h1
  exact .inr h1
 rw [C7 h.nd]
 split
 ·exact bn _
 exact h.len l
theorem fV.Mk(h:fV n fl (fun y _=>gA n c (gl fl y)) G b M)(hl:∀x∈fl,x.length=n/\∀e∈x,0<=e){x:Nat}(hx:x<fl.length)(hi:i<n)(hH:gA n c (gl fl x)){y:Int}(hy:y∈gw M (fI (gl fl x) i)):∃y':Nat,y=y'/\y'<fl.length/\rU n fl c x y':=by
 obtain⟨y',j,h1,h2,h3,h4,h5⟩:=h.el _ y hy;have hm:∀z:Nat,z<fl.length->gl fl z∈fl:=fun z hz=>by rw [cX hz];exact dU _
 have vA:=hl _ (hm x hx);have Em:=hl _ (hm y' h2);have e:i=j:=Up vA.1 Em.1 hi Em.2 h5;subst e;exact⟨y',h1,h2,hH,h4,i,hi,hx,h2,fun k hk bL=> (BK vA.1 Em.1).1 h5 k hk bL⟩
end
theorem M9{n:Nat}{c x:ai}(hc:c.length=n):kf c x=c↔gA n c x:=by
 constructor
 ·intro h k hk bL;have:=aH (fun l=>gi l k) h;simp only [uS (a:=c) (b:=x) (show k<c.length by omega)]at this
  by_cases e:gi c k=gi x k
  ·exact e
  rw [aC e]at this;exact absurd this.symm bL
 intro h;refine rH (n:=n) (by rw [uT,hc]) hc fun k hk=>?_
 rw [uS (by omega)]
 split
 ·rfl
 rename_i e;refine pL fun h2=>e (h k hk fun h3=>h2 h3.symm)
def fD(n:Nat)(fl:ah)(c:ai)(f:Nat):ai:=(cI f).filter fun y=>decide (gA n c (gl fl y))
theorem Ml{n:Nat}{fl:ah}{c:ai}{f:Nat}:fD n fl c (f+1)=if gA n c (gl fl f)then fD n fl c f++ [(f:Int)]else fD n fl c f:=by
 have:cI (f+1)=cI f++ [(f:Int)]:=by
  unfold cI;rw [l4,List.map_append];rfl
 unfold fD;rw [this,oW]
 by_cases c:gA n c (gl fl f)
 ·rw [aF c];simp [c]
 rw [aC c];simp [c]
theorem wC{n:Nat}{fl:ah}{c:ai}{f:Nat}{y:Int}:y∈fD n fl c f↔(0<=y/\y<f)/\gA n c (gl fl y):=by
 unfold fD;rw [fZ,oQ,jL]
def kX(N:Nat)(al:ai)(j:Nat):Nat:=if j<al.length then(gi al j).toNat else N
theorem fX.jump{N:Nat}{K:Nat->Nat->Prop}(hK:qL N K){L:ai}:∀(d f:Nat),fX N K f L->f+d<=N->(∀x,f<=x->x<f+d->¬K x x)->fX N K (f+d) L
 | 0,f,h,_,_=>h
 | d+1,f,h,hn,hx=>by
  have h1:=h.skip hK (by omega) (.inr (hx f (dh _) (by omega)));have:=fX.jump hK d (f+1) h1 (by omega) fun x h2 h3=>hx x (by omega) (by omega)
  rwa [show f+1+d=f+ (d+1) by omega]at this
section
variable {n:Nat} {fl:ah} {c:ai} {L:ai}
theorem y6(f:Nat):SA (fD n fl c f):=lX _ (nQ _)
theorem GF{j:Nat}:kX fl.length (fD n fl c fl.length) j<=fl.length:=by
 unfold kX
 split
 ·rename_i h;have:=(wC.1 (gi_in h)).1;omega
 exact dh _
theorem SI(h:fX fl.length (gr n fl c) 0 L):fX fl.length (gr n fl c) (kX fl.length (fD n fl c fl.length) 0) L:=by
 have hle:=GF (n:=n) (fl:=fl) (c:=c) (j:=0);have:=h.jump (gr.sZ n fl c) (kX fl.length (fD n fl c fl.length) 0) 0 (by omega) fun x _ hx hk=>by
  have hm:(x:Int)∈fD n fl c fl.length:=wC.2 ⟨by omega,hk.1⟩;obtain⟨p,hp,e⟩:=eZ.1 hm;rw [<-bF hp]at e;unfold kX at hx;rw [aF (by omega)]at hx
  by_cases e0:p=0
  ·subst e0;omega
  have:=(y6 (n:=n) (fl:=fl) (c:=c) fl.length).qz (show 0<p by omega) hp;omega
 rwa [Nat.zero_add]at this
theorem SJ{j:Nat}(hj:j< (fD n fl c fl.length).length){f:Nat}(hf:gi (fD n fl c fl.length) j=f)(h:fX fl.length (gr n fl c) (f+1) L):fX fl.length (gr n fl c) (kX fl.length (fD n fl c fl.length) (j+1)) L:=by
 have hle:=GF (n:=n) (fl:=fl) (c:=c) (j:=j+1);have gE:=(wC.1 (gi_in hj)).1;have vo:f+1<=kX fl.length (fD n fl c fl.length) (j+1):=by
  unfold kX
  split
  ·rename_i h2;have:=(y6 (n:=n) (fl:=fl) (c:=c) fl.length).qz (show j<j+1 by omega) h2;omega
  omega
 have:=h.jump (gr.sZ n fl c) (kX fl.length (fD n fl c fl.length) (j+1) - (f+1)) (f+1) (by omega) fun x sM hx hk=>by
  have hm:(x:Int)∈fD n fl c fl.length:=wC.2 ⟨by omega,hk.1⟩;obtain⟨p,hp,e⟩:=eZ.1 hm;rw [<-bF hp]at e;have hpj:j<p:=by
   rcases Nat.lt_trichotomy j p with h2 | h2 | h2
   ·exact h2
   ·subst h2;omega
   have:=(y6 (n:=n) (fl:=fl) (c:=c) fl.length).qz h2 hj;omega
  unfold kX at hx;rw [aF (by omega)]at hx
  by_cases e0:p=j+1
  ·subst e0;omega
  have:=(y6 (n:=n) (fl:=fl) (c:=c) fl.length).qz (show j+1<p by omega) hp;omega
 rwa [show f+1+ (kX fl.length (fD n fl c fl.length) (j+1) - (f+1))=kX fl.length (fD n fl c fl.length) (j+1) by omega]at this
end
end
section
open Go.RowKit
variable{Q:List Nat}{y z:Nat}{L xs R:ai}{x i:Int}
theorem KF(PB A:aj)(N c n:Nat)(rs:List aL)(fl:ah)(f i:Nat)(w:aa)(hT:kW w)(hb:Rd w PB 1 (fun _=> .slice A N c))(hM:bq w A N rs fl)(hf:f<N)(hN:N<=1000)(hl:(gl fl f).length=n)(hi:i<n)(hn:n<=100)(hr:∀x∈gl fl f,0<=x/\x<=1000000):
 aJ prog 192 [ak f,ak i,.pointer PB] w (fun v w'=>v=rF (fI (gl fl f) i)/\St w w' []):=by
 have fB:=hM.len;have bW:=hM.at_ (i:=(f:Int)) (by omega) (by omega);have fp:=bW.1;refine br func192 O ntmps192 O (cw O) (a8 O (WI (j:=0) hb (by exact aH Value.pointer (ko _).symm) O O O O (ar O (aB hM.top.2 O (ck hM.top O (aI (yN _ _ _ _ _ bW (by omega)) O ?_))))));rintro _ w1 ⟨A6,c6,rfl,hS⟩;refine ar O (aB (hS.bo 0 O).2 O (il 0 hS O O O (by omega) ?_));intro w2 aM;have aM:St w w2 [aw 2 A6 (rg rs f).n c6 (fI (gl fl f) i)]:=aM;refine ar O ?_;refine WD (EW A6 _ c6 (fI (gl fl f) i) _ (hT.aq aM.below) (aM.bo 0 O) (fun x hx=>by
  rcases List.mem_or_eq_of_mem_set hx with h | h
  ·have:=hr x h;omega
  omega) (by omega)) rfl rfl rfl ?_
 rintro _ w3 ⟨rfl,ax⟩;refine bI O (BF O ?_);exact⟨O,aM.none.aq ax.below⟩
abbrev nO(PB A:aj)(N c:Nat)(dJ:aj)(L:ai)(Aa:aj)(ca:Nat)(al:ai)(g:Nat)(M:List jF)(ks:List Ck):List Ck:=
 aw 2 dJ N N L::Bx 25 1 PB [.slice A N c]::aw 2 Aa al.length ca al::iF 118 g (gH rF vO M)::(lz 2 M++ks)
def gW(Q:List Nat):ai:=Q.map fun x:Nat=> (x:Int)
theorem JO{k:Nat}(h:k<Q.length):gi (gW Q) k=(Q.getD k 0:Nat):=by
 rw [bF (by simp [gW,h])];simp [gW,cz,h]
theorem Hs{k:Nat}(h:k<Q.length):(Q++ [y]).getD k 0=Q.getD k 0:=by
 rw [cz,lY h,<-cz]
theorem Rv{k:Nat}(h:k<=Q.length):gW ((Q++ [y]).drop k)=gW (Q.drop k)++ [(y:Int)]:=by
 rw [List.drop_append_of_le_length h];simp [gW]
theorem wN{f:Nat}(h:0<=gi L z):0<=gi (L.set y (f:Int)) z:=by
 simp only [gi,fW,cz,l0]at h|-
 split
 ·split
  ·simp
  exact Int.le_refl _
 exact h
theorem Hv{f:Nat}(h:y<L.length):gi (L.set y (f:Int)) y=f:=by
 rw [bF (by simpa using h)];simp
theorem TI(A:aj)(N c:Nat)(rs:List aL)(fl:ah)(n:Nat)(A2:aj)(c2:Nat)(cm:ai)(w:aa)(hT:kW w)(hM:bq w A N rs fl)(hC:bu w A2 n cm)(hN:N<=401)(hn:n<=5)(hl:∀x∈fl,x.length=n/\∀e∈x,0<=e/\e<=1000000)(mK:fl.Nodup):
 aJ prog 123 [.slice A N c,.slice A2 n c2] w (fun v w'=>∃A' L,v= .slice A' N N/\fX N (gr n fl cm) N L/\St w w' [aw 2 A' N N L]):=by
 have fB:=hM.len;have cT:=hC.1;have ql:∀f:Nat,f<N->gl fl f∈fl:=fun f hf=>by rw [cX (by omega)];exact dU _
 have xH:∀x∈fl,x.length=n/\∀e∈x,0<=e:=fun x hx=> ⟨(hl x hx).1,fun e he=> ((hl x hx).2 e he).1⟩
 have Av:∀x∈fl,x.length=n:=fun x hx=> (hl x hx).1
 refine br func123 O ntmps123 O (cw O) (a8 O ?_);refine ao.box (v:= .slice A N c) (St.refl w) O O (by show(1:Nat)<=maxLen;simp [maxLen]) ?_;intro PB w1 ay;have eN:Rd w1 PB 1 (fun _=> .slice A N c):=jI (ay.rd 0 O);refine ar O (eE (i:= -1) ay O O O ?_);intro BW w2 aM;have eN:Rd w2 PB 1 (fun _=> .slice A N c):=jI (aM.rd 1 O);refine WI (j:=0) eN (by exact aH Value.pointer (ko _).symm) O O O O (ba O O (aI (Cj BW 1 (-1) N _ (aM.bo 0 O) (by omega)) O ?_));rintro _ w3 ⟨dJ,rfl,ax⟩;have aU:=aM.call ax;clear ax;refine ar O (Ce aU O ?_);intro g w4 bd;have eN:Rd w4 PB 1 (fun _=> .slice A N c):=jI (bd.rd 3 O);refine ar O (LY O O (ar O (WI (j:=0) eN (by exact aH Value.pointer (ko _).symm) O O O O (aI (yE _ _ _ _) O ?_))));rintro _ w4 ⟨rfl,rfl⟩;have bh:St w w4 [aw 2 none 0 0 [],iF 118 g [],aw 2 dJ N N (List.replicate N (-1)),aw 2 BW 1 1 [-1],Bx 25 1 PB [.slice A N c]]:=bd.nil 2;have bh:St w w4 (nO PB A N c dJ (List.replicate N (-1)) none 0 (fD n fl cm 0) g [] []):=by
  have h9:=bh.perm (show List.Perm _ (aw 2 BW 1 1 [-1]::nO PB A N c dJ (List.replicate N (-1)) none 0 (fD n fl cm 0) g [] []) from by
   classical
   refine l3.2 fun z=>?_
   simp only [nO,lz,List.map_nil,mW,lB,nY,fD,cI,List.range_zero,List.filter_nil,List.length_nil];have:gH rF vO ([]:List jF)=[]:=O;rw [this];omega)
  exact h9.tail
 clear bd aU aM ay eN;refine aE O (Cd.loop (α:=Nat×aj×Nat×List jF) (fun z=> [(1,.slice A2 n c2),(2,.pointer PB),(5,.slice dJ N N),(6,.map (some g)),(7,.func (.func 192) #[] #[.pointer PB]),(8,.slice z.2.1 (fD n fl cm z.1).length z.2.2.1),(26,ak N),(27,ak (z.1:Int))]) (fun z w'=>z.1<=N/\fV n fl (rP n fl cm z.1 0) (fun _=>False) (5*z.1) z.2.2.2/\St w w' (nO PB A N c dJ (List.replicate N (-1)) z.2.1 z.2.2.1 (fD n fl cm z.1) g z.2.2.2 [])) (fun z=>N - z.1) (0,none,0,[]) (WM O) ⟨bn _,fV.zero,bh⟩ ?_);clear bh;rintro⟨f,Aa,ca,M⟩ e w5 ⟨hf,gh,hS⟩;dsimp only at hf gh hS|-;have dv:(fD n fl cm f).length<=500:=by
  refine jb (mX _ _) ?_;rw [cI,lC,pO];omega
 refine bX O (aN _ O (fun h1=>?_) (fun h1=>?_))
 ·have gE:f<N:=by omega
  have eN:Rd w5 PB 1 (fun _=> .slice A N c):=jI (hS.rd 1 O);have zJ:=hS.bO hM;have bW:=zJ.at_ (i:=(f:Int)) (by omega) (by omega);have fp:=bW.1;have xK:=hl _ (ql f gE);have QG:(rg rs f).n=n:=by omega
  have xm:=M9 (n:=n) (c:=cm) (x:=gl fl f) cT;have vf:=Ml (n:=n) (fl:=fl) (c:=cm) (f:=f);refine aG O (WI (j:=0) eN (by exact aH Value.pointer (ko _).symm) O O O O (ar O (aB zJ.top.2 O (ck zJ.top O (aI (GO A2 (rg rs f).a n c2 (rg rs f).n (rg rs f).c cm (gl fl f) _ (hS.da hC) bW QG.symm (by omega)) O ?_)))));rintro _ w6 ⟨Lk,M1,rfl,ax⟩;have bD:=hS.aq ax.below;have HP:=bD.da hC;have HE:=ax.bo 0 O;clear ax hS eN zJ bW;refine ar O ?_;refine aI (LD Lk _ M1 (kf cm (gl fl f)) A2 n c2 cm _ HE HP (by rw [uT];omega)) O ?_;rintro _ w7 ⟨rfl,ax⟩;have bl:=bD.aq ax.below;clear ax bD HE HP
  first | refine dk rfl rfl ?_ | refine eF rfl rfl ?_
  refine aE O (aN _ O (fun h2=>?_) (fun h2=>?_))
  ·have fC:¬gA n cm (gl fl f):=fun h=>h2 (xm.2 h)
   rw [aC fC]at vf;refine aG O (aK O (aR O (tQ ?_)));refine⟨(f+1,Aa,ca,M),by show N - (f+1)<N - f;omega,⟨O,O,O,O,O,?_,O,O,av⟩,by show f+1<=N;omega,(gh.skip fC).more (by show 5*f<=5* (f+1);omega),?_⟩
   ·show Value.slice _ _ _=_;rw [vf]
   show St w w7 (nO _ _ _ _ _ _ _ _ (fD n fl cm (f+1)) _ _ _);rw [vf];exact bl
  have gG:gA n cm (gl fl f):=xm.1 (kR.1 h2);rw [aF gG]at vf;refine aG O (eE bl O O O ?_);intro A9 w8 b7;refine fj 3 b7 O (b7.bo 0 O) O O O ?_;intro AZ cZ w9 bg;have bg:St w w9 (nO PB A N c dJ (List.replicate N (-1)) AZ cZ (fD n fl cm (f+1)) g M []):=by
   have h9:=bg.tail;rw [vf];show St w w9 (_::_::aw _ AZ ((fD n fl cm f++ [(f:Int)]).length) cZ _::_);rw [eY];exact h9
  have P0:(fD n fl cm f).length+1=(fD n fl cm (f+1)).length:=by rw [vf,eY];rfl
  clear b7 bl;refine ar O (ba O O (aE O ?_));refine Cd.loop (α:=Nat×List jF) (fun z=> [(1,.slice A2 n c2),(2,.pointer PB),(5,.slice dJ N N),(6,.map (some g)),(7,.func (.func 192) #[] #[.pointer PB]),(8,.slice AZ (fD n fl cm (f+1)).length cZ),(26,ak N),(27,ak f),(9,ak f),(44,ak n),(45,ak (z.1:Int))]) (fun z w'=>z.1<=n/\fV n fl (rP n fl cm f z.1) (fun _=>False) (5*f+z.1) z.2/\St w w' (nO PB A N c dJ (List.replicate N (-1)) AZ cZ (fD n fl cm (f+1)) g z.2 [])) (fun z=>n - z.1) (0,M) ⟨O,O,O,O,O,aH (fun m=>Value.slice AZ m cZ) P0,O,O,O,O,O,av⟩ ⟨bn _,gh,bg⟩ ?_;clear bg gh;rintro⟨i,M⟩ e dw ⟨hi,gh,hS⟩;dsimp only at hi gh hS|-;refine bX O (aN _ O (fun h3=>?_) (fun h3=>?_))
  ·have de:i<n:=by omega
   refine aG O (aI (KF PB A N c n rs fl f i _ (hT.aq hS.below) (jI (hS.rd 1 O)) (hS.bO hM) gE (by omega) xK.1 de (by omega) xK.2) O ?_);rintro _ ew ⟨rfl,ax⟩;have hS:=hS.aq ax.below;have hlen:=gh.len (fI (gl fl f) i);have vD:=gh.put (by omega) de gG;generalize rp:fI (gl fl f) i=kx at*;have hrx:=(Cm (pre:=[_,_,_,_]) (x:=kx) hS).1;clear ax;refine ar O ?_;refine Gd (v:= .slice (gg M kx).a (gg M kx).n (gg M kx).c) vK (hS.BE 3 rfl) rfl rfl (by unfold gg;cases eB M kx<;>rfl) rfl ?_;refine ar O (eE hS O O O ?_);intro A9 eh dC;have dC:=St.K1 (pre:=[_,_,_,_,_]) (x:=kx) dC;refine fj 0 dC O (dC.bo 1 O) O O O fun AY cY gp eJ=>Cf O vK 5 (a:=kx) (u:=(⟨AY,(gg M kx).n+1,cY⟩,gw M kx++ [(f:Int)])) eJ O O O O ?_;intro lT iS;have gP:=(Gk (M:=M) (x:=kx) (u:=(⟨AY,(gg M kx).n+1,cY⟩,gw M kx++ [(f:Int)])) (pre:=[_,_,_,_,_]) iS).tail;refine ar O (aK O (aR O (tQ ?_)));exact⟨(i+1,gy M kx (⟨AY,(gg M kx).n+1,cY⟩,gw M kx++ [(f:Int)])),by show n - (i+1)<n - i;omega,(WM O),by show i+1<=n;omega,vD _,gP⟩
  obtain rfl:i=n:=by omega
  refine bk O (bm (ct O (aK O (aR O (tQ ?_)))));exact⟨(f+1,AZ,cZ,M),by show N - (f+1)<N - f;omega,(WM O),by show f+1<=N;omega,gh.row.more (by show 5*f+i<=5* (f+1);omega),hS⟩
 obtain rfl:f=N:=by omega
 subst fB;have q7:=gr.sZ n fl cm;have gh:fV n fl (fun y _=>gA n cm (gl fl y)) (fun y=>0<=gi (List.replicate fl.length (-1:Int)) y) 2005 M:=((gh.congr fun y i hy hi=> ⟨fun h=>h.1,fun h=> ⟨h,.inl hy⟩⟩).mono fun y _ h=>h.elim).more (by omega);have lb:=SI (n:=n) (fl:=fl) (c:=cm) (fX.zero fl.length (gr n fl cm));have e6:=fun(L:ai) (j f:Nat) (hj:j< (fD n fl cm fl.length).length) (hf:gi (fD n fl cm fl.length) j=f) h=>SJ (n:=n) (fl:=fl) (c:=cm) (L:=L) hj hf h
 have gS:=fun y:Int=>wC (n:=n) (fl:=fl) (c:=cm) (f:=fl.length) (y:=y)
 generalize fD n fl cm fl.length=al at*;refine bk O (bm (ct O (ba O O (aE O ?_))));refine Cd.loop (α:=Nat×ai×List jF) (fun z=> [(1,.slice A2 n c2),(2,.pointer PB),(5,.slice dJ fl.length fl.length),(6,.map (some g)),(7,.func (.func 192) #[] #[.pointer PB]),(62,.slice Aa al.length ca),(63,ak (al.length:Int)),(64,ak (z.1:Int))]) (fun z w'=>z.1<=al.length/\fX fl.length (gr n fl cm) (kX fl.length al z.1) z.2.1/\fV n fl (fun y _=>gA n cm (gl fl y)) (fun y=>0<=gi z.2.1 y) 2005 z.2.2/\St w w' (nO PB A fl.length c dJ z.2.1 Aa ca al g z.2.2 [])) (fun z=>al.length - z.1) (0,List.replicate fl.length (-1),M) (WM O) ⟨bn _,lb,gh,hS⟩ ?_;clear hS gh lb hf h1;rintro⟨j,L0,M⟩ e w6 ⟨hj,lb,gh,hS⟩;dsimp only at hj lb gh hS|-;refine bX O (aN _ O (fun h1=>?_) (fun h1=>?_))
 ·have Aj:j<al.length:=by omega
  have IJ:=(gS _).1 (gi_in Aj);obtain⟨f,hf⟩:∃f:Nat,gi al j=f:=⟨(gi al j).toNat,by omega⟩;have lj:kX fl.length al j=f:=by unfold kX;rw [if_pos Aj,hf];rfl
  rw [hf]at IJ;rw [lj]at lb;have ou:=lb.1;have DC:gr n fl cm f f:=⟨IJ.2,.refl (by omega)⟩;have lh:=hS.bo 0 O;refine aG O (aB (hS.bo 2 O).2 O (aW (hS.bo 2 O) O (ar O ?_)));rw [hf];refine aB lh.2 O (aW lh O (aE O ?_));refine aN _ O (fun h2=>?_) (fun h2=>?_)
  ·refine aG O (aK O (aR O (tQ ?_)));exact⟨(j+1,L0,M),by show al.length - (j+1)<al.length - j;omega,(WM O),by show j+1<=al.length;omega,e6 _ j f Aj hf (lb.skip q7 (by omega) (.inl h2)),gh,hS⟩
  have h0:gi L0 f<0:=by omega
  refine aG O (aB lh.2 O (il 0 hS O O O (by omega) ?_));intro w7 bl;have bl:St w w7 (nO PB A fl.length c dJ (L0.set f (f:Int)) Aa ca al g M []):=bl;refine ar O (eE bl O O O ?_);intro Ao w8 b7;have dW:=jJ.start (A:=rU n fl cm) ou (show f<fl.length by omega) h0 DC;have gh:=gh.mono (G':=fun y=>0<=gi (L0.set f (f:Int)) y) fun y _ h=>wN h
  refine aE O (Cd.loop (α:=Nat×ai×List Nat×aj×Nat×List jF) (fun z=> [(1,.slice A2 n c2),(2,.pointer PB),(5,.slice dJ fl.length fl.length),(6,.map (some g)),(7,.func (.func 192) #[] #[.pointer PB]),(62,.slice Aa al.length ca),(63,ak (al.length:Int)),(64,ak j),(13,ak f),(14,.slice z.2.2.2.1 (z.2.2.1.length - z.1) z.2.2.2.2.1)]) (fun z w'=>jJ fl.length (gr n fl cm) (rU n fl cm) f L0 z.2.1 z.2.2.1 z.1/\fV n fl (fun y _=>gA n cm (gl fl y)) (fun y=>0<=gi z.2.1 y) 2005 z.2.2.2.2.2/\St w w' (aw 2 z.2.2.2.1 (z.2.2.1.length - z.1) z.2.2.2.2.1 (gW (z.2.2.1.drop z.1))::nO PB A fl.length c dJ z.2.1 Aa ca al g z.2.2.2.2.2 [])) (fun z=>fl.length+1 - z.1) (0,L0.set f (f:Int),[f],Ao,1,M) (WM O) ⟨dW,gh,b7⟩ ?_);clear b7 bl hS lh dW gh;rintro⟨k,L,Q,Ao,co,M⟩ e w9 ⟨dW,gh,hS⟩;dsimp only at dW gh hS|-;have rz:=dW.s5;have gR:=dW.Bj;refine a8 O (ba O O (aE O ?_));refine aN _ O (fun h3=>?_) (fun h3=>?_)
  ·have fG:k<Q.length:=by omega
   obtain⟨x,hx⟩:∃x,Q.getD k 0=x:=⟨_,rfl⟩;have yf:x∈Q:=by rw [<-hx,cz,eS fG];exact dU _
   have fT:=dW.sP x yf;have O3:gA n cm (gl fl x):=(fT.2.2.1.of fT.2.2.2);have vA:=hl _ (ql x fT.1);refine aG O (ba O O (aE O ?_));refine Cd.loop (α:=Nat×ai×List Nat×aj×Nat×List jF) (fun z=> [(1,.slice A2 n c2),(2,.pointer PB),(5,.slice dJ fl.length fl.length),(6,.map (some g)),(7,.func (.func 192) #[] #[.pointer PB]),(62,.slice Aa al.length ca),(63,ak (al.length:Int)),(64,ak j),(13,ak f),(14,.slice z.2.2.2.1 (z.2.2.1.length - k) z.2.2.2.2.1),(85,ak n),(86,ak (z.1:Int))]) (fun z w'=>z.1<=n/\jJ fl.length (gr n fl cm) (rU n fl cm) f L0 z.2.1 z.2.2.1 k/\(k<z.2.2.1.length/\z.2.2.1.getD k 0=x)/\fV n fl (fun y _=>gA n cm (gl fl y)) (fun y=>0<=gi z.2.1 y) 2005 z.2.2.2.2.2/\(∀i' y:Nat,i'<z.1->y<fl.length->gA n cm (gl fl y)->fI (gl fl y) i'=fI (gl fl x) i'->0<=gi z.2.1 y)/\St w w' (aw 2 z.2.2.2.1 (z.2.2.1.length - k) z.2.2.2.2.1 (gW (z.2.2.1.drop k))::nO PB A fl.length c dJ z.2.1 Aa ca al g z.2.2.2.2.2 [])) (fun z=>n - z.1) (0,L,Q,Ao,co,M) (WM O) ⟨bn _,dW,⟨fG,hx⟩,gh,fun i' y h=>absurd h (gM _),hS⟩ ?_;clear hS gh dW hx yf fG rz gR h3;rintro⟨i,Li,Qi,Ao,co,M⟩ e dw ⟨hi,dW,⟨fG,hx⟩,gh,jR,hS⟩;dsimp only at hi dW fG hx gh jR hS|-;refine bX O (aN _ O (fun h4=>?_) (fun h4=>?_))
   ·have de:i<n:=by omega
    have xv:gi (gW (Qi.drop k)) 0=(x:Int):=by
     have h9:=JO fG;rw [hx]at h9;rw [<-h9];unfold gW;rw [List.map_drop,Oi]
    have z6:(gW (Qi.drop k)).length=Qi.length - k:=by simp [gW]
    have tH:=hS.bo 0 O;refine aG O (WB (i:=0) tH.2 O O O (by omega) (by omega) ?_);refine WC (i:=0) tH O (by show 0<_;omega) O O ?_;refine ar O ?_;rw [xv];refine aI (KF PB A fl.length c n rs fl x i _ (hT.aq hS.below) (jI (hS.rd 2 O)) (hS.bO hM) fT.1 (by omega) vA.1 de (by omega) vA.2) O ?_;rintro _ ew ⟨rfl,ax⟩;have hS:=hS.aq ax.below;have vc:=fun y hy=>gh.Mk xH fT.1 de O3 (y:=y) hy
    have PA:=gh.len (fI (gl fl x) i);have Iu:=fun(y:Nat) (hy:y<fl.length) (hH:gA n cm (gl fl y)) (he:fI (gl fl y) i=fI (gl fl x) i)=>he▸gh.al y i hy de hH
    generalize rp:fI (gl fl x) i=kx at*;clear ax tH;obtain⟨sx,x9⟩:∃sx,gg M kx=sx:=⟨_,rfl⟩;obtain⟨ys,sO⟩:∃ys,gw M kx=ys:=⟨_,rfl⟩;have fS:∀ {w':aa} {Ao:aj} {no co:Nat} {qs:ai} {L:ai},St w w' (aw 2 Ao no co qs::nO PB A fl.length c dJ L Aa ca al g M [])->bu w' sx.a sx.n ys:=fun h=>by
     rw [<-x9,<-sO];exact Cm (pre:=[_,_,_,_,_]) (x:=kx) h
    rw [sO]at PA vc Iu;have vI:=(fS hS).1;refine ar O ?_;refine Gd (v:= .slice sx.a sx.n sx.c) vK (hS.BE 4 rfl) rfl rfl (by rw [<-x9];unfold gg;cases eB M kx<;>rfl) rfl ?_;refine ba O O (aE O ?_);refine Cd.loop (α:=Nat×ai×List Nat×aj×Nat) (fun z=> [(1,.slice A2 n c2),(2,.pointer PB),(5,.slice dJ fl.length fl.length),(6,.map (some g)),(7,.func (.func 192) #[] #[.pointer PB]),(62,.slice Aa al.length ca),(63,ak (al.length:Int)),(64,ak j),(13,ak f),(14,.slice z.2.2.2.1 (z.2.2.1.length - k) z.2.2.2.2),(85,ak n),(86,ak i),(16,rF kx),(97,.slice sx.a sx.n sx.c),(98,ak (sx.n:Int)),(99,ak (z.1:Int))]) (fun z w'=>z.1<=sx.n/\jJ fl.length (gr n fl cm) (rU n fl cm) f L0 z.2.1 z.2.2.1 k/\(k<z.2.2.1.length/\z.2.2.1.getD k 0=x)/\(∀p:Nat,p<z.1->0<=gi z.2.1 (gi ys p))/\(∀y:Nat,0<=gi Li y->0<=gi z.2.1 y)/\St w w' (aw 2 z.2.2.2.1 (z.2.2.1.length - k) z.2.2.2.2 (gW (z.2.2.1.drop k))::nO PB A fl.length c dJ z.2.1 Aa ca al g M [])) (fun z=>sx.n - z.1) (0,Li,Qi,Ao,co) (WM O) ⟨bn _,dW,⟨fG,hx⟩,fun p h=>absurd h (gM _),fun y h=>h,hS⟩ ?_;clear hS dW fG hx xv z6;rintro⟨q,L,Q,Ao,co⟩ e eh ⟨hq,dW,⟨fG,hx⟩,ru,pe,hS⟩;dsimp only at hq dW fG hx ru pe hS|-;have rz:=dW.s5;have O7:=dW.len;refine bX O (aN _ O (fun h5=>?_) (fun h5=>?_))
    ·have Ez:q<ys.length:=by omega
     have qu:=fS hS;obtain⟨y,hy,rC,yk⟩:=vc _ (gi_in Ez);have lh:=hS.bo 1 O;refine aG O (aB qu.2 O (aW qu O (ar O ?_)));rw [hy];refine aB lh.2 O (aW lh O (aE O ?_));refine aN _ O (fun h6=>?_) (fun h6=>?_)
     ·have ll:=dW.meet rC h6 (q7.qF _ _ _ fT.2.2 (yk.link mK Av));refine aG O (aB lh.2 O (il 1 hS O O O (by omega) ?_));intro gp eJ;refine ar O (eE eJ O O O ?_);intro A9 lT iS;refine fj 1 iS O (iS.bo 0 O) O O O ?_;intro AZ cZ lU gP;have gP:=gP.tail;have xL:(Q++ [y]).length - k=(Q.length - k)+1:=by rw [eY];show Q.length+1 - k=_;omega
      refine ar O (aK O (aR O (tQ ?_)));refine⟨(q+1,L.set y (f:Int),Q++ [y],AZ,cZ),by show sx.n - (q+1)<sx.n - q;omega,⟨O,O,O,O,O,O,O,O,O,aH (fun m=>Value.slice AZ m cZ) xL.symm,O,O,O,O,O,O,av⟩,by show q+1<=sx.n;omega,ll,⟨by show k< (Q++ [y]).length;rw [eY];omega,by show(Q++ [y]).getD k 0=x;rw [Hs fG,hx]⟩,fun p hp=>?_,fun z hz=>wN (pe z hz),?_⟩
      ·by_cases ep:p=q
       ·subst ep;rw [hy];have h9:=Hv (L:=L) (y:=y) (f:=f) (by omega);show 0<=gi (L.set y (f:Int)) y;omega
       have hp:p<q+1:=hp;obtain⟨y9,yj,_,_⟩:=vc _ (gi_in (show p<ys.length by omega));have h9:=ru p (by omega);rw [yj]at h9|-;exact wN h9
      show St w lU (aw _ AZ ((Q++ [y]).length - k) cZ (gW ((Q++ [y]).drop k))::_);rw [xL,Rv (by omega)];exact gP
     refine aG O (aK O (aR O (tQ ?_)));refine⟨(q+1,L,Q,Ao,co),by show sx.n - (q+1)<sx.n - q;omega,(WM O),by show q+1<=sx.n;omega,dW,⟨fG,hx⟩,fun p hp=>?_,pe,hS⟩
     by_cases ep:p=q
     ·subst ep;rw [hy];show 0<=gi L y;omega
     have hp:p<q+1:=hp;exact ru p (by omega)
    have dv:∀y:Nat,(y:Int)∈ys->0<=gi L y:=fun y hy=>by
     obtain⟨p,hp,e9⟩:=eZ.1 hy;rw [<-bF hp]at e9;have:=ru p (by omega)
     rwa [e9]at this
    have OW:=(gh.mono (G':=fun y=>0<=gi L y) fun y _ h=>pe y h).del (x:=kx) fun y hy=>dv y (sO▸hy)
    refine bk O (bm (ct O ?_));refine LW vK 4 (a:=kx) hS O O O ?_;intro gp eJ;have eJ:=Mf (pre:=[_,_,_,_,_]) (x:=kx) eJ;refine ar O (aK O (aR O (tQ ?_)));refine⟨(i+1,L,Q,Ao,co,gO M kx),by show n - (i+1)<n - i;omega,(WM O),by show i+1<=n;omega,dW,⟨fG,hx⟩,OW,fun i' y eK rC hH he=>?_,eJ⟩
    by_cases ei:i'=i
    ·subst ei;rcases Iu y rC hH (he.trans rp)with h9 | h9
     ·exact dv y h9
     exact pe y h9
    exact pe y (jR i' y (by have eK:i'<i+1:=eK;omega) rC hH he)
   obtain rfl:i=n:=by omega
   have rz:=dW.s5;have oD:=dW.next fG fun y hy=>by
    rw [hx]at hy;obtain⟨_,O4,i',eK,ha⟩:=hy;exact jR i' y eK ha.2.1 O4 ((BK vA.1 (hl _ (ql y ha.2.1)).1).2 fun k9 h9 iq=>ha.2.2 k9 h9 iq).symm
   have hkQ2:k<Qi.length:=fG;have vi:=Me (i:=0) (l:=1) hS O (by show 1<=Qi.length - k;omega);refine bk O (bm (ct O ?_));refine Cc (l:=1) O O O (by omega) (aR O (tQ ?_));refine⟨(k+1,Li,Qi,cutAt Ao co 1,co - 1,M),by show fl.length+1 - (k+1)<fl.length+1 - k;omega,⟨O,O,O,O,O,O,O,O,O,aH (fun m=>Value.slice (cutAt Ao co 1) m (co - 1)) (Nat.sub_sub _ _ _),av⟩,oD,gh,?_⟩;show St w dw (aw _ (cutAt Ao co 1) (Qi.length - (k+1)) (co - 1) (gW (Qi.drop (k+1)))::_);have e9:gW (Qi.drop (k+1))=(gW (Qi.drop k)).drop 1:=by simp [gW]
   rw [e9,<-Nat.sub_sub];exact vi
  have fG:k=Q.length:=by omega
  subst fG;have rj:=dW.end_ q7 lb (by omega) h0 (fun S ay aM=>gr.ind S ay aM) (fun x y h=>h.link mK Av);refine bk O (bm (ct O (aK O (aR O (tQ ?_)))));exact⟨(j+1,L,M),by show al.length - (j+1)<al.length - j;omega,(WM O),by show j+1<=al.length;omega,e6 _ j f Aj hf rj,gh,hS.tail⟩
 have xF:j=al.length:=by omega
 have lj:kX fl.length al j=fl.length:=by unfold kX;rw [if_neg (by omega)]
 rw [lj]at lb;refine bk O (bm (fA O ?_));exact eW O ⟨dJ,L0,O,lb,hS.sub ((List.nil_sublist _).cons_cons _)⟩
def uset(u:Nat->ad)(k:Nat)(v:ad):Nat->ad:=fun j=>cond (Nat.beq j k) v (u j)
theorem Vh{u:Nat->ad}{k:Nat}{v:ad}(h:u k=v):u=uset u k v:=by
 funext j;unfold uset;cases hb:Nat.beq j k with
 | true=>rw [kz hb,h];rfl
 | false=>rfl
theorem GQ(A:aj)(N c:Nat)(rs:List aL)(fl:ah)(n:Nat)(w:aa)(hT:kW w)(hM:bq w A N rs fl)(hN:N<=401)(hn:n<=5)(hl:∀x∈fl,x.length=n/\∀e∈x,0<=e/\e<=1000000)(mK:fl.Nodup):
 aJ prog 64 [.slice A N c] w (fun v w'=>∃A' n' c',v= .slice A' n' c'/\(A'.isNone=true↔uG n fl)/\St w w' []):=by
 have fB:=hM.len;have ql:∀f:Nat,f<N->gl fl f∈fl:=fun f hf=>by rw [cX (by omega)];exact dU _
 have xH:∀x∈fl,x.length=n/\∀e∈x,0<=e:=fun x hx=> ⟨(hl x hx).1,fun e he=> ((hl x hx).2 e he).1⟩
 refine br func64 O ntmps64 O (cw O) (a8 O (Ce (St.refl w) O ?_));intro g w1 ay;have ay:St w w1 (iF 118 g (gH rF vO ([]:List jF))::(lz 2 ([]:List jF)++ [])):=ay;refine ar O (aI (yE _ _ _ _) O ?_);rintro _ w1 ⟨rfl,rfl⟩;refine aE O ?_;refine Cd.loop (α:=Nat×List jF) (fun z=> [(0,.slice A N c),(3,.map (some g)),(12,ak N),(13,ak (z.1:Int))])
  (fun z w'=>z.1<=N/\(∀l u,eB z.2 l=some u->fX N (gr n fl l) N u.2)/\(∀a b:Nat,a<z.1->a<b->b<N->dQ n fl (fun k=>gi (gl fl a) k=gi (gl fl b) k) a b)/\St w w' (iF 118 g (gH rF vO z.2)::(lz 2 z.2++ []))) (fun z=>N - z.1) (0,[]) ⟨rfl,rfl,rfl,rfl,av⟩ ⟨bn _,fun l u h=>by simp [eB]at h,fun a b h=>absurd h (gM _),ay⟩ ?_
 clear ay;rintro⟨a,M⟩ e w2 ⟨ha,nv,jR,hS⟩;dsimp only at ha nv jR hS|-;refine bX O (aN _ O (fun h1=>?_) (fun h1=>?_))
 ·have qh:a<N:=by omega
  refine aG O (aK O (aE O ?_));refine Cd.loop (α:=Nat×List jF) (fun z=> [(0,.slice A N c),(3,.map (some g)),(12,ak N),(13,ak a),(4,ak a),(5,ak (z.1:Int))])
   (fun z w'=> (a<z.1/\z.1<=N)/\(∀l u,eB z.2 l=some u->fX N (gr n fl l) N u.2)/\(∀b:Nat,a<b->b<z.1->dQ n fl (fun k=>gi (gl fl a) k=gi (gl fl b) k) a b)/\St w w' (iF 118 g (gH rF vO z.2)::(lz 2 z.2++ []))) (fun z=>N - z.1) (a+1,M) ⟨rfl,rfl,rfl,rfl,rfl,rfl,av⟩ ⟨⟨Nat.lt_succ_self _,qh⟩,nv,fun b h h'=>by omega,hS⟩ ?_
  clear hS nv;rintro⟨b,M⟩ e w3 ⟨⟨ie,vg⟩,nv,o8,hS⟩;dsimp only at ie vg nv o8 hS|-;refine a8 O (aI (yE _ _ _ _) O ?_);rintro _ w3 ⟨rfl,rfl⟩;refine aE O (aN _ O (fun h2=>?_) (fun h2=>?_))
  ·have hb:b<N:=by omega
   have qZ:=hS.bO hM;have ln:=qZ.at_ (i:=(a:Int)) (by omega) (by omega);have mh:=qZ.at_ (i:=(b:Int)) (by omega) (by omega);have Eh:=hl _ (ql a qh);have Qm:=hl _ (ql b hb);have AB:(rg rs a).n=n:=by rw [<-ln.1];exact Eh.1
   have I7:(rg rs b).n=n:=by rw [<-mh.1];exact Qm.1
   have kI:=Na (n:=n) xH (show a<fl.length by omega) (show b<fl.length by omega);have cT:(kf (gl fl a) (gl fl b)).length=n:=by rw [uT];exact Eh.1
   have PJ:∀x∈kf (gl fl a) (gl fl b),-1<=x/\x<=1000000:=fun x hx=>by
    obtain⟨k,hk,rfl⟩:=fh.1 hx;have hk:=fP.1 hk
    split
    ·have:=Eh.2 _ (gi_in hk);omega
    ·omega
   refine df O ?_;refine dL [xS (A) (N) (c),xI ((a:Int)),xP (aD (A) ((a:Int)).toNat),xS ((rg (rs) ((a:Int))).a) ((rg (rs) ((a:Int))).n) ((rg (rs) ((a:Int))).c),xS (A) (N) (c),xI ((b:Int)),xP (aD (A) ((b:Int)).toNat),xS ((rg (rs) ((b:Int))).a) ((rg (rs) ((b:Int))).n) ((rg (rs) ((b:Int))).c),.pr (fun v w'=>∃A6 c6,v= .slice A6 n c6/\bu w' A6 n (kf (gl fl a) (gl fl b))),.pr (fun v w'=>∃A6 c6,v= .slice A6 n c6/\bu w' A6 n (kf (gl fl a) (gl fl b)))] rfl (lx (lx (lx (lx (lx (lx (lx (lx (cM.2 ⟨Yd.cN (fun v w w' h hb=>by obtain⟨A6,c6,hv,hT⟩:=h;exact⟨A6,c6,hv,hT.aq hb⟩),(cM.2 ⟨Yd.cN (fun v w w' h hb=>by obtain⟨A6,c6,hv,hT⟩:=h;exact⟨A6,c6,hv,hT.aq hb⟩),(fun _ h=>by cases h)⟩)⟩))))))))) ?_ ?_
   ·refine⟨Dr O,Dr O,fun _ _ hb _ _=>aB (qZ.top.aq hb).2 O Az,fun _ _ hb _ _=>ck (qZ.top.aq hb) O Az,Dr O,Dr O,fun _ _ hb _ _=>aB (qZ.top.aq hb).2 O Az,fun _ _ hb _ _=>ck (qZ.top.aq hb) O Az,?_,?_,av⟩
    ·intro e1 w1 hb hp aX;refine aI (GO (rg rs a).a (rg rs b).a (rg rs a).n (rg rs a).c (rg rs b).n (rg rs b).c (gl fl a) (gl fl b) _ (ln.aq hb) (mh.aq hb) (by omega) (by omega)) O ?_;rintro _ w9 ⟨A6,c6,rfl,ax⟩;refine ao.n ?_;exact gK.dn ax.below ⟨A6,c6,by rw [cT],by have h9:=ax.bo 0 O;rw [cT]at h9;exact h9⟩
    ·intro e1 w1 hb hp aX;obtain⟨A6,c6,OI,hT⟩:=(hp 8 (by decide) rfl _ _ rfl rfl);refine kA O (by exact OI) O (ao.n ?_);exact gK.dn (Below.refl _ _) ⟨A6,c6,O,hT⟩
   intro u w4 mF hu;obtain⟨A6,c6,h6,mD⟩:=hu 9 _ rfl;rw [Vh h6];have bd:=hS.aq mF;generalize lk:kf (gl fl a) (gl fl b)=cm at*;clear hu hS qZ ln mh;refine gZ O ?_;refine aI (EW A6 n c6 cm _ (hT.aq bd.below) mD (fun x hx=>by have:=PJ x hx;omega) (by omega)) O ?_;rintro _ w5 ⟨rfl,ax⟩;have bh:=bd.aq ax.below;have mD:=mD.aq ax.below;clear ax bd;refine ar O ?_;refine L3 (v:= .slice (gg M cm).a (gg M cm).n (gg M cm).c) vK (x:=cm) (bh.BE 0 rfl) rfl rfl (by unfold gg;cases eB M cm<;>rfl) rfl ?_;refine ar O ?_
   first | refine dk rfl rfl ?_ | refine eF rfl rfl ?_
   refine aE O ?_;cases Eb:eB M cm with
   | none => --dup 2
    refine Cd.fx O (aG O (aI (TI A N c rs fl n A6 c6 cm _ (hT.aq bh.below) (bh.bO hM) mD hN hn hl mK) O ?_));rintro _ w6 ⟨A8,L,rfl,hL,ax⟩;have bD:=bh.call ax;refine ar O (Cf O vK 1 (a:=cm) (u:=(⟨A8,N,N⟩,L)) bD O O O O ?_);intro w7 bl;have bH:bu w7 A8 N L:=bl.bo 0 O;have b7:St w w7 (iF 118 g (gH rF vO (gy M cm (⟨A8,N,N⟩,L)))::(lz 2 (gy M cm (⟨A8,N,N⟩,L))++ [])):=Gk (M:=M) (x:=cm) (u:=(⟨A8,N,N⟩,L)) (pre:=[_]) (by rw [C5 Eb];exact bl);have O6:∀l u,eB (gy M cm (⟨A8,N,N⟩,L)) l=some u->fX N (gr n fl l) N u.2:=fun l u h=>by
     rw [C4]at h
     split at h
     ·rename_i e;subst e;injection h with h
      subst h;exact hL
     ·exact nv l u h
    clear bl bD bh ax mD;have ou:=hL.1;have bM:=bH.1;have sC:=hL.done (gr.sZ n fl cm |>fun h=>fB▸h) kI.1 kI.2.1;refine aE O (dL [xS (A8) (N) (N),xI ((a:Int)),xP (aD (A8) ((a:Int)).toNat),xI (gi (L) ((a:Int))),xS (A8) (N) (N),xI ((b:Int)),xP (aD (A8) ((b:Int)).toNat),xI (gi (L) ((b:Int))),xB (decide (¬(gi (L) ((a:Int)))=(gi (L) ((b:Int)))))] O (dV O) ?_ ?_)
    ·exact⟨Dr O,Dr O,fun _ _ hb _ _=>aB (bH.aq hb).2 O Az,fun _ _ hb _ _=>aW (bH.aq hb) O Az,Dr O,Dr O,fun _ _ hb _ _=>aB (bH.aq hb).2 O Az,fun _ _ hb _ _=>aW (bH.aq hb) O Az,Dr O,av⟩
    intro u w9 tM _;have bg:=b7.aq tM;refine fq O (aN _ O (fun h3=>?_) (fun h3=>?_))
    ·refine aG O (pP [(a:Int),(b:Int)] bg O O (by decide) (by decide) O O fun A9 dw bQ=>bI O (dN (dE (dN (dE ?_)))));refine eW O ⟨A9,2,2,O,⟨fun h=>?_,fun h=>?_⟩,bQ.none⟩
     ·rw [wy (bQ.bo 0 rfl).2 (by decide)]at h;cases h
     ·exact absurd (sC.2 (kI.2.2.2 (h a b ie (by omega)))) h3
    ·have b8:=kI.2.2.1 (sC.1 (kR.1 h3));refine aG O (aK O (aR O (tQ ?_)));exact⟨(b+1,gy M cm (⟨A8,N,N⟩,L)),by show N - (b+1)<N - b;omega,(WM O),⟨Nat.lt_succ_of_lt ie,hb⟩,O6,fun b' h4 h5=>by
      by_cases e9:b'=b
      ·subst e9;exact b8
      ·exact o8 b' h4 (by have h5:b'<b+1:=h5;omega),bg⟩
   | some u0=>
    have hL:fX N (gr n fl cm) N (gw M cm):=by
     rw [(C9 Eb).2];exact nv cm u0 Eb
    have bH:bu w5 (gg M cm).a (gg M cm).n (gw M cm):=Cm (pre:=[_]) (x:=cm) bh;refine Cd.eM O ?_;have ou:=hL.1;have bM:=bH.1;have sC:=hL.done (gr.sZ n fl cm |>fun h=>fB▸h) kI.1 kI.2.1;refine df O (dL [xS ((gg M cm).a) ((gg M cm).n) ((gg M cm).c),xI ((a:Int)),xP (aD ((gg M cm).a) ((a:Int)).toNat),xI (gi (gw M cm) ((a:Int))),xS ((gg M cm).a) ((gg M cm).n) ((gg M cm).c),xI ((b:Int)),xP (aD ((gg M cm).a) ((b:Int)).toNat),xI (gi (gw M cm) ((b:Int))),xB (decide (¬(gi (gw M cm) ((a:Int)))=(gi (gw M cm) ((b:Int)))))] O (dV O) ?_ ?_)
    ·exact⟨Dr O,Dr O,fun _ _ hb _ _=>aB (bH.aq hb).2 O Az,fun _ _ hb _ _=>aW (bH.aq hb) O Az,Dr O,Dr O,fun _ _ hb _ _=>aB (bH.aq hb).2 O Az,fun _ _ hb _ _=>aW (bH.aq hb) O Az,Dr O,av⟩
    intro u w9 tM _;have bg:=bh.aq tM;refine fq O (aN _ O (fun h3=>?_) (fun h3=>?_))
    ·refine aG O (pP [(a:Int),(b:Int)] bg O O (by decide) (by decide) O O fun A9 dw bQ=>bI O (dN (dE (dN (dE ?_)))));refine eW O ⟨A9,2,2,O,⟨fun h=>?_,fun h=>?_⟩,bQ.none⟩
     ·rw [wy (bQ.bo 0 rfl).2 (by decide)]at h;cases h
     ·exact absurd (sC.2 (kI.2.2.2 (h a b ie (by omega)))) h3
    ·have b8:=kI.2.2.1 (sC.1 (kR.1 h3));refine aG O (aK O (aR O (tQ ?_)));exact⟨(b+1,M),by show N - (b+1)<N - b;omega,(WM O),⟨Nat.lt_succ_of_lt ie,hb⟩,nv,fun b' h4 h5=>by
      by_cases e9:b'=b
      ·subst e9;exact b8
      ·exact o8 b' h4 (by have h5:b'<b+1:=h5;omega),bg⟩
  ·have Iv:b=N:=by omega
   refine bk O (bm (ct O (aK O (aR O (tQ ?_)))));exact⟨(a+1,M),by show N - (a+1)<N - a;omega,(WM O),qh,nv,fun a' b' h3 h4 h5=>by
    by_cases e9:a'=a
    ·subst e9;exact o8 b' h4 (by omega)
    ·exact jR a' b' (by have h3:a'<a+1:=h3;omega) h4 h5,hS⟩
 ·have Iq:a=N:=by omega
  refine bk O (bm (fA O ?_));exact eW O ⟨none,0,0,O,⟨fun _ a' b' h3 h4=>jR a' b' (by omega) h3 (by omega),fun _=>O⟩,hS.none⟩
theorem Bv{e:Int}:e∈s3 xs x↔(0<=e/\e<xs.length)/\gi xs e=x:=by
 unfold s3;rw [fZ,oQ,jL]
theorem BH{n:Int}{e:Int}(h0:0<=i)(h1:i<n):e∈kO n R (i - 1)↔mx R i e:=by
 unfold kO mx
 split
 ·rw [Bv];exact⟨fun h=> .inr ⟨h.1,by omega,h.2⟩,fun h=>h.elim (fun h=>by omega) fun h=> ⟨h.1,h.2.2⟩⟩
 rw [eP];exact⟨fun h=> .inl ⟨h,by omega⟩,fun h=>h.elim (fun h=>h.1) fun h=>by omega⟩
theorem BG{n:Int}{f:Int}(h0:0<=i)(h1:i<n):f∈kO n R (i+1)↔ky n R i f:=by
 unfold kO ky
 split
 ·rw [Bv];exact⟨fun h=> .inr ⟨h.1,by omega,h.2⟩,fun h=>h.elim (fun h=>by omega) fun h=> ⟨h.1,h.2.2⟩⟩
 rw [eP];exact⟨fun h=> .inl ⟨h,by omega⟩,fun h=>h.elim (fun h=>h.1) fun h=>by omega⟩
theorem Um{n:Int}(h0:0<=i)(h1:i<n):kO n R i=s3 R i:=by
 unfold kO;rw [aF (by omega)]
theorem Fy{n:Int}(h:R.length<=500):(kO n R i).length<=500:=by
 unfold kO
 split
 ·refine jb (mX _ _) ?_;rw [cI,lC,pO];exact h
 exact(by decide:1<=500)
theorem KL{n:Int}{e:Int}(h:e∈kO n R i):e= -1\/(0<=e/\e<R.length):=by
 unfold kO at h
 split at h
 ·exact .inr (Bv.1 h).1
 exact .inl (eP.1 h)
def ns(P:Int->Prop)[DecidablePred P](xs:ai)(q:Nat):Nat:=((xs.take q).filter fun x=>decide (P x)).length
section
variable {P:Int->Prop} [DecidablePred P] {xs:ai} {q:Nat}
theorem CI:ns P xs q<=q:=by
 unfold ns;refine jb (mX _ _) ?_;rw [mY];omega
theorem CK(h:q<xs.length)(hp:P (gi xs q)):ns P xs (q+1)=ns P xs q+1:=by
 unfold ns;rw [BQ h,oW,eY];simp [hp]
theorem CJ(h:q<xs.length)(hp:¬P (gi xs q)):ns P xs (q+1)=ns P xs q:=by
 unfold ns;rw [BQ h,oW,eY];simp [hp]
end
def lG(B:ah)(e f x:Int):Prop:=(e<0\/e∈gl B x)/\(f<0\/x∈gl B f)
instance (B:ah)(e f:Int):DecidablePred (lG B e f):=fun x=>by unfold lG;infer_instance
theorem Nn{R:ai}{B:ah}{i e f:Int}:ns (lG B e f) (s3 R i) (s3 R i).length=(ik R B i e f).length:=by
 unfold ns ik s3;rw [List.take_length,List.filter_filter]
 congr 1
 refine List.filter_congr fun x _=>?_
 rw [<-Bool.decide_and];refine kg.2 ?_;unfold lG;exact⟨fun h=> ⟨h.2,h.1⟩,fun h=> ⟨h.2,h.1⟩⟩
theorem G0(n:Int)(A D:aj)(cA cD:Nat)(R:ai)(rs:List aL)(B:ah)(w:aa)(hR:bu w A R.length R)(hB:bq w D B.length rs B)(hP:dm n R B):
 aJ prog 63 [.agg #[ak n,.slice A R.length cA,.slice D B.length cD]] w (fun v w'=>∃A' n' c',v= .slice A' n' c'/\(A'.isNone=true↔rX n R B)/\St w w' []):=by
 have hn:=hP.n1;have gQ:=hP.jK;have hle:=hP.len;have bH:=fun(e:Int) (h0:0<=e) (h:e< (R.length:Int))=> (hP.at_ h0 h).1
 have bM:∀e:Int,0<=e->e<R.length->(gl B e).length<=500:=fun e h0 h=>by
  have:=nN (N:=R.length) (bH e h0 h).nodup fun x hx=>by have:=((hP.at_ h0 h).2.1 x hx).1;omega
  omega
 refine br func63 O ntmps63 O (cw O) (a8 O (ga (St.refl w) O O ?_));intro A1 w1 ay;have h1:Rd w1 A1 3 (fun j=> [Value.int .i64 n,.slice A R.length cA,.slice D B.length cD].getD j undef):=ay.rd 0 O;have hR:=ay.da hR;have hB:=ay.bO hB;have ay:=ay.none;refine ar O (aS h1 O (fJ (j:=0) h1 (by exact aH Value.pointer O) O O O O (aE O ?_)));refine Cd.loop (α:=Nat) (fun i=> [(1,.pointer A1),(14,ak n),(15,ak i)]) (fun i w'=> (i:Int)<=n/\(∀i' e f:Int,0<=i'->i'< (i:Int)->e∈kO n R (i' - 1)->f∈kO n R (i'+1)->(0<=e->0<=f->e∈gl B f)->(ik R B i' e f).length=2)/\St w1 w' []) (fun i=>n.toNat - i) 0 (WM O) ⟨by show((0:Nat):Int)<=n;omega,fun i' e f h h'=>by have h':i'< ((0:Nat):Int):=h';omega,St.refl _⟩ ?_;rintro i e w2 ⟨hi,jR,ax⟩;have h1:=Rd.below h1 ax.below;have hR:=ax.da hR;have hB:=ax.bO hB;have aM:=ay.aq ax.below;refine bX O (aN _ O (fun h2=>?_) (fun h2=>?_))
 ·have En:=Um (R:=R) (show 0<=(i:Int) by omega) h2;have Qu:=Fy (n:=n) (i:=(i:Int)) gQ;have Qq:=Fy (n:=n) (i:=(i:Int) - 1) gQ;have P6:=Fy (n:=n) (i:=(i:Int)+1) gQ;have Qv:=fun x=>Bv (xs:=R) (x:=(i:Int)) (e:=x)
  refine aG O (aI (Fj A1 A D n R.length cA B.length cD R i _ h1 hR (by omega) (by omega)) O ?_);rintro _ w3 ⟨A4,c4,rfl,jh⟩;have h4:=jh.bo 0 O;refine ar O (aK O ?_);refine aI (Fj A1 A D n R.length cA B.length cD R ((i:Int)+1) _ (Rd.below h1 jh.below) (jh.da hR) (by omega) (by omega)) O ?_;rintro _ w4 ⟨A5,c5,rfl,nH⟩;have h5:=nH.bo 0 O;have h4:=h4.aq nH.below;refine ar O (dA O ?_);refine aI (Fj A1 A D n R.length cA B.length cD R ((i:Int) - 1) _ (Rd.below h1 (jh.below.trans (nH.below.mono jh.below.size))) (nH.da (jh.da hR)) (by omega) (by omega)) O ?_;rintro _ w5 ⟨A6,c6,rfl,qw⟩;have h6:=qw.bo 0 O;have h4:=h4.aq qw.below;have h5:=h5.aq qw.below;have fm:=(jh.below.trans (nH.below.mono jh.below.size));have fm:=fm.trans (qw.below.mono fm.size);have h1:=Rd.below h1 fm;have hB:=hB.aq fm;have bh:=aM.aq fm;have QY:=ax.aq fm;clear jh nH qw ax aM;obtain⟨ms,Ay⟩:∃ms,kO n R i=ms:=⟨_,rfl⟩;obtain⟨ji,tW⟩:∃ji,kO n R ((i:Int) - 1)=ji:=⟨_,rfl⟩;obtain⟨fE,tR⟩:∃fE,kO n R ((i:Int)+1)=fE:=⟨_,rfl⟩;rw [Ay]at h4 Qu En;rw [tR]at h5 P6;rw [tW]at h6 Qq;have sB:=fun e f=>Nn (R:=R) (B:=B) (i:=(i:Int)) (e:=e) (f:=f)
  rw [<-En]at sB;have tY:∀x∈ms,(0<=x/\x<R.length):=fun x hx=> ((Qv x).1 (En▸hx)).1
  have Qr:∀x∈ji,x= -1\/(0<=x/\x<R.length):=fun x hx=>KL (tW▸hx)
  have P8:∀x∈fE,x= -1\/(0<=x/\x<R.length):=fun x hx=>KL (tR▸hx)
  rw [Ay,tW,tR];refine ba O O (aE O ?_);refine Cd.loop (α:=Nat) (fun j=> [(1,.pointer A1),(14,ak n),(15,ak i),(3,ak i),(4,.slice A4 ms.length c4),(5,.slice A5 fE.length c5),(25,.slice A6 ji.length c6),(26,ak (ji.length:Int)),(27,ak j)]) (fun j w'=>j<=ji.length/\w'=w5/\∀p:Nat,p<j->∀f∈fE,(0<=gi ji p->0<=f->gi ji p∈gl B f)->(ik R B i (gi ji p) f).length=2) (fun j=>ji.length - j) 0 (WM O) ⟨bn _,O,fun p h=>absurd h (gM _)⟩ ?_;rintro j e w6 ⟨hj,rfl,dF⟩;refine bX O (aN _ O (fun h7=>?_) (fun h7=>?_))
  ·have je:j<ji.length:=by omega
   refine aG O (aB h6.2 O (aW h6 O ?_));refine ar O (ba O O (aE O ?_));have her:=Qr _ (gi_in je);generalize z7:gi ji j=ee at*;refine Cd.loop (α:=Nat) (fun k=> [(1,.pointer A1),(14,ak n),(15,ak i),(3,ak i),(4,.slice A4 ms.length c4),(5,.slice A5 fE.length c5),(25,.slice A6 ji.length c6),(26,ak (ji.length:Int)),(27,ak j),(7,ak ee),(31,.slice A5 fE.length c5),(32,ak (fE.length:Int)),(33,ak k)]) (fun k w'=>k<=fE.length/\w'=w6/\∀p:Nat,p<k->(0<=ee->0<=gi fE p->ee∈gl B (gi fE p))->(ik R B i ee (gi fE p)).length=2) (fun k=>fE.length - k) 0 (WM O) ⟨bn _,O,fun p h=>absurd h (gM _)⟩ ?_;rintro k e w7 ⟨hk,rfl,bU⟩;refine bX O (aN _ O (fun h8=>?_) (fun h8=>?_))
   ·have gR:k<fE.length:=by omega
    refine aG O (aB h5.2 O (aW h5 O (ar O ?_)));have xr:=P8 _ (gi_in gR);generalize z8:gi fE k=ff at*;have lO:((0<=ee->0<=ff->ee∈gl B ff)->(ik R B i ee ff).length=2)->∀p:Nat,p<k+1->(0<=ee->0<=gi fE p->ee∈gl B (gi fE p))->(ik R B i ee (gi fE p)).length=2:=fun h p hp=>by
     by_cases ep:p=k
     ·subst ep;rw [z8];exact h
     exact bU p (by omega)
    refine bY 39 O (fun h9=>?_) (fun h9=>?_)
    ·refine au O (ar O (au O (ar O ?_)));refine bY 43 O (fun iq=>?_) (fun iq=>?_)
     ·refine au O (ar O (au O (ar O (au O ?_))));refine aI (py A1 A D cA cD n R rs B ee ff _ h1 hB (by omega) (bH ff iq (by omega)) (by have:=bM ff iq (by omega);omega)) O ?_;rintro _ w8 ⟨rfl,rfl⟩;refine au O ?_
      first | refine dk rfl rfl ?_ | refine eF rfl rfl ?_
      refine aE O (aN _ O (fun o7=>?_) (fun o7=>?_))
      ·refine aG O (aK O (aR O (tQ ?_)));exact⟨k+1,by show fE.length - (k+1)<fE.length - k;omega,(WM O),by omega,O,lO fun h=>absurd (h h9 iq) o7⟩
      have lN:0<=ee->0<=ff->ee∈gl B ff:=fun _ _=>kR.1 o7
      refine aG O (ba O O (aE O ?_));refine Cd.loop (α:=Nat) (fun q=> [(1,.pointer A1),(14,ak n),(15,ak i),(3,ak i),(4,.slice A4 ms.length c4),(5,.slice A5 fE.length c5),(25,.slice A6 ji.length c6),(26,ak (ji.length:Int)),(27,ak j),(7,ak ee),(31,.slice A5 fE.length c5),(32,ak (fE.length:Int)),(33,ak k),(9,ak ff),(10,ak ((ns (lG B ee ff) ms q:Nat):Int)),(49,.slice A4 ms.length c4),(50,ak (ms.length:Int)),(51,ak q)]) (fun q w'=>q<=ms.length/\w'=w8) (fun q=>ms.length - q) 0 (WM O) ⟨bn _,O⟩ ?_;rintro q e w9 ⟨hq,rfl⟩;have cT:=CI (P:=lG B ee ff) (xs:=ms) (q:=q);refine bX O (aN _ O (fun uX=>?_) (fun uX=>?_))
      ·have nE:q<ms.length:=by omega
       have hx:=tY _ (gi_in nE);have gG:=CK (P:=lG B ee ff) nE;have fC:=CJ (P:=lG B ee ff) nE;refine aG O (aB h4.2 O (aW h4 O (ar O ?_)));generalize ui:gi ms q=xx at*;refine bY 57 O (fun jN=>?_) (fun jN=>?_)
       ·refine az O (az O (az O (ar O (au O (ar O (au O (ar O (au O (ar O ?_)))))))));refine bY 65 O (fun iO=>?_) (fun iO=>?_)
        ·refine az O (az O (az O (au O (aE O ?_))));refine Cd.fx O (aG O (aK O (ar O (aK O (aR O (tQ ?_))))));exact⟨q+1,by show ms.length - (q+1)<ms.length - q;omega,⟨O,O,O,O,O,O,O,O,O,O,O,O,O,O,aH (fun m:Nat=>Value.int .i64 (m:Int)) (gG ⟨.inl jN,.inl iO⟩).symm,O,O,O,av⟩,by omega,O⟩
        refine au O (ar O (au O (ar O (au O ?_))));refine aI (py A1 A D cA cD n R rs B xx ff _ h1 hB (by omega) (bH ff (by omega) (by omega)) (by have:=bM ff (by omega) (by omega);omega)) O ?_;rintro _ dw ⟨rfl,rfl⟩;refine au O (aE O ?_);refine aN _ O (fun iP=>?_) (fun iP=>?_)
        ·refine aG O (aK O (ar O (aK O (aR O (tQ ?_)))));exact⟨q+1,by show ms.length - (q+1)<ms.length - q;omega,⟨O,O,O,O,O,O,O,O,O,O,O,O,O,O,aH (fun m:Nat=>Value.int .i64 (m:Int)) (gG ⟨.inl jN,.inr iP⟩).symm,O,O,O,av⟩,by omega,O⟩
        refine aG O (aK O (aR O (tQ ?_)));exact⟨q+1,by show ms.length - (q+1)<ms.length - q;omega,⟨O,O,O,O,O,O,O,O,O,O,O,O,O,O,aH (fun m:Nat=>Value.int .i64 (m:Int)) (fC fun h=>h.2.elim iO iP).symm,O,O,O,av⟩,by omega,O⟩
       refine au O (ar O (au O (ar O (au O ?_))));refine aI (py A1 A D cA cD n R rs B ee xx _ h1 hB (by omega) (bH xx (by omega) (by omega)) (by have:=bM xx (by omega) (by omega);omega)) O ?_;rintro _ dw ⟨rfl,rfl⟩;refine ar O (bY 62 O (fun k8=>?_) (fun k8=>?_))
       ·refine au O (ar O (au O (ar O (au O (ar O ?_)))));refine bY 65 O (fun iO=>?_) (fun iO=>?_)
        ·refine az O (az O (az O (au O (aE O ?_))));refine Cd.fx O (aG O (aK O (ar O (aK O (aR O (tQ ?_))))));exact⟨q+1,by show ms.length - (q+1)<ms.length - q;omega,⟨O,O,O,O,O,O,O,O,O,O,O,O,O,O,aH (fun m:Nat=>Value.int .i64 (m:Int)) (gG ⟨.inr k8,.inl iO⟩).symm,O,O,O,av⟩,by omega,O⟩
        refine au O (ar O (au O (ar O (au O ?_))));refine aI (py A1 A D cA cD n R rs B xx ff _ h1 hB (by omega) (bH ff (by omega) (by omega)) (by have:=bM ff (by omega) (by omega);omega)) O ?_;rintro _ ew ⟨rfl,rfl⟩;refine au O (aE O ?_);refine aN _ O (fun iP=>?_) (fun iP=>?_)
        ·refine aG O (aK O (ar O (aK O (aR O (tQ ?_)))));exact⟨q+1,by show ms.length - (q+1)<ms.length - q;omega,⟨O,O,O,O,O,O,O,O,O,O,O,O,O,O,aH (fun m:Nat=>Value.int .i64 (m:Int)) (gG ⟨.inr k8,.inr iP⟩).symm,O,O,O,av⟩,by omega,O⟩
        refine aG O (aK O (aR O (tQ ?_)));exact⟨q+1,by show ms.length - (q+1)<ms.length - q;omega,⟨O,O,O,O,O,O,O,O,O,O,O,O,O,O,aH (fun m:Nat=>Value.int .i64 (m:Int)) (fC fun h=>h.2.elim iO iP).symm,O,O,O,av⟩,by omega,O⟩
       refine az O (az O (az O (cg O O O O (cg O O O O (cg O O O O (az O (aE O ?_)))))));refine Cd.eM O (aG O (aK O (aR O (tQ ?_))));exact⟨q+1,by show ms.length - (q+1)<ms.length - q;omega,⟨O,O,O,O,O,O,O,O,O,O,O,O,O,O,aH (fun m:Nat=>Value.int .i64 (m:Int)) (fC fun h=>h.1.elim jN k8).symm,O,O,O,av⟩,by omega,O⟩
      have oE:q=ms.length:=by omega
      subst oE;have IB:=sB ee ff;refine bk O (bm (mw O ?_));refine aN _ O (fun jN=>?_) (fun jN=>?_)
      ·refine aG O (pP [(i:Int),ee,ff] bh O O (by decide) (by decide) O O fun A9 dw bQ=>bI O (dN (dE (dN (dE (dN (dE ?_)))))));refine eW O ⟨A9,3,3,O,⟨fun h=>?_,fun h=>?_⟩,bQ.none⟩
       ·rw [wy (bQ.bo 0 rfl).2 (by decide)]at h;cases h
       have qj:=h (i:Int) ee ff (by omega) h2 ((BH (by omega) h2).1 (by rw [tW,<-z7];exact gi_in je)) ((BG (by omega) h2).1 (by rw [tR,<-z8];exact gi_in gR)) lN;omega
      refine aG O (aK O (aR O (tQ ?_)));exact⟨k+1,by show fE.length - (k+1)<fE.length - k;omega,(WM O),by omega,O,lO fun _=>by omega⟩
     have lN:0<=ee->0<=ff->ee∈gl B ff:=fun _ h=>absurd h iq
     refine az O (az O (az O (az O (aE O ?_))));refine Cd.eM O (aG O (ba O O (aE O ?_)));refine Cd.loop (α:=Nat) (fun q=> [(1,.pointer A1),(14,ak n),(15,ak i),(3,ak i),(4,.slice A4 ms.length c4),(5,.slice A5 fE.length c5),(25,.slice A6 ji.length c6),(26,ak (ji.length:Int)),(27,ak j),(7,ak ee),(31,.slice A5 fE.length c5),(32,ak (fE.length:Int)),(33,ak k),(9,ak ff),(10,ak ((ns (lG B ee ff) ms q:Nat):Int)),(49,.slice A4 ms.length c4),(50,ak (ms.length:Int)),(51,ak q)]) (fun q w'=>q<=ms.length/\w'=w7) (fun q=>ms.length - q) 0 (WM O) ⟨bn _,O⟩ ?_;rintro q e w9 ⟨hq,rfl⟩;have cT:=CI (P:=lG B ee ff) (xs:=ms) (q:=q);refine bX O (aN _ O (fun uX=>?_) (fun uX=>?_))
     ·have nE:q<ms.length:=by omega
      have hx:=tY _ (gi_in nE);have gG:=CK (P:=lG B ee ff) nE;have fC:=CJ (P:=lG B ee ff) nE;refine aG O (aB h4.2 O (aW h4 O (ar O ?_)));generalize ui:gi ms q=xx at*;refine bY 57 O (fun jN=>?_) (fun jN=>?_)
      ·refine az O (az O (az O (ar O (au O (ar O (au O (ar O (au O (ar O ?_)))))))));refine bY 65 O (fun iO=>?_) (fun iO=>?_)
       ·refine az O (az O (az O (au O (aE O ?_))));refine Cd.fx O (aG O (aK O (ar O (aK O (aR O (tQ ?_))))));exact⟨q+1,by show ms.length - (q+1)<ms.length - q;omega,⟨O,O,O,O,O,O,O,O,O,O,O,O,O,O,aH (fun m:Nat=>Value.int .i64 (m:Int)) (gG ⟨.inl jN,.inl iO⟩).symm,O,O,O,av⟩,by omega,O⟩
       refine au O (ar O (au O (ar O (au O ?_))));refine aI (py A1 A D cA cD n R rs B xx ff _ h1 hB (by omega) (bH ff (by omega) (by omega)) (by have:=bM ff (by omega) (by omega);omega)) O ?_;rintro _ dw ⟨rfl,rfl⟩;refine au O (aE O ?_);refine aN _ O (fun iP=>?_) (fun iP=>?_)
       ·refine aG O (aK O (ar O (aK O (aR O (tQ ?_)))));exact⟨q+1,by show ms.length - (q+1)<ms.length - q;omega,⟨O,O,O,O,O,O,O,O,O,O,O,O,O,O,aH (fun m:Nat=>Value.int .i64 (m:Int)) (gG ⟨.inl jN,.inr iP⟩).symm,O,O,O,av⟩,by omega,O⟩
       refine aG O (aK O (aR O (tQ ?_)));exact⟨q+1,by show ms.length - (q+1)<ms.length - q;omega,⟨O,O,O,O,O,O,O,O,O,O,O,O,O,O,aH (fun m:Nat=>Value.int .i64 (m:Int)) (fC fun h=>h.2.elim iO iP).symm,O,O,O,av⟩,by omega,O⟩
      refine au O (ar O (au O (ar O (au O ?_))));refine aI (py A1 A D cA cD n R rs B ee xx _ h1 hB (by omega) (bH xx (by omega) (by omega)) (by have:=bM xx (by omega) (by omega);omega)) O ?_;rintro _ dw ⟨rfl,rfl⟩;refine ar O (bY 62 O (fun k8=>?_) (fun k8=>?_))
      ·refine au O (ar O (au O (ar O (au O (ar O ?_)))));refine bY 65 O (fun iO=>?_) (fun iO=>?_)
       ·refine az O (az O (az O (au O (aE O ?_))));refine Cd.fx O (aG O (aK O (ar O (aK O (aR O (tQ ?_))))));exact⟨q+1,by show ms.length - (q+1)<ms.length - q;omega,⟨O,O,O,O,O,O,O,O,O,O,O,O,O,O,aH (fun m:Nat=>Value.int .i64 (m:Int)) (gG ⟨.inr k8,.inl iO⟩).symm,O,O,O,av⟩,by omega,O⟩
       refine au O (ar O (au O (ar O (au O ?_))));refine aI (py A1 A D cA cD n R rs B xx ff _ h1 hB (by omega) (bH ff (by omega) (by omega)) (by have:=bM ff (by omega) (by omega);omega)) O ?_;rintro _ ew ⟨rfl,rfl⟩;refine au O (aE O ?_);refine aN _ O (fun iP=>?_) (fun iP=>?_)
       ·refine aG O (aK O (ar O (aK O (aR O (tQ ?_)))));exact⟨q+1,by show ms.length - (q+1)<ms.length - q;omega,⟨O,O,O,O,O,O,O,O,O,O,O,O,O,O,aH (fun m:Nat=>Value.int .i64 (m:Int)) (gG ⟨.inr k8,.inr iP⟩).symm,O,O,O,av⟩,by omega,O⟩
       refine aG O (aK O (aR O (tQ ?_)));exact⟨q+1,by show ms.length - (q+1)<ms.length - q;omega,⟨O,O,O,O,O,O,O,O,O,O,O,O,O,O,aH (fun m:Nat=>Value.int .i64 (m:Int)) (fC fun h=>h.2.elim iO iP).symm,O,O,O,av⟩,by omega,O⟩
      refine az O (az O (az O (cg O O O O (cg O O O O (cg O O O O (az O (aE O ?_)))))));refine Cd.eM O (aG O (aK O (aR O (tQ ?_))));exact⟨q+1,by show ms.length - (q+1)<ms.length - q;omega,⟨O,O,O,O,O,O,O,O,O,O,O,O,O,O,aH (fun m:Nat=>Value.int .i64 (m:Int)) (fC fun h=>h.1.elim jN k8).symm,O,O,O,av⟩,by omega,O⟩
     have oE:q=ms.length:=by omega
     subst oE;have IB:=sB ee ff;refine bk O (bm (mw O ?_));refine aN _ O (fun jN=>?_) (fun jN=>?_)
     ·refine aG O (pP [(i:Int),ee,ff] bh O O (by decide) (by decide) O O fun A9 dw bQ=>bI O (dN (dE (dN (dE (dN (dE ?_)))))));refine eW O ⟨A9,3,3,O,⟨fun h=>?_,fun h=>?_⟩,bQ.none⟩
      ·rw [wy (bQ.bo 0 rfl).2 (by decide)]at h;cases h
      have qj:=h (i:Int) ee ff (by omega) h2 ((BH (by omega) h2).1 (by rw [tW,<-z7];exact gi_in je)) ((BG (by omega) h2).1 (by rw [tR,<-z8];exact gi_in gR)) lN;omega
     refine aG O (aK O (aR O (tQ ?_)));exact⟨k+1,by show fE.length - (k+1)<fE.length - k;omega,(WM O),by omega,O,lO fun _=>by omega⟩
    have lN:0<=ee->0<=ff->ee∈gl B ff:=fun h _=>absurd h h9
    refine az O (az O (ar O (az O (az O (az O (az O (aE O ?_)))))));refine Cd.eM O (aG O (ba O O (aE O ?_)));refine Cd.loop (α:=Nat) (fun q=> [(1,.pointer A1),(14,ak n),(15,ak i),(3,ak i),(4,.slice A4 ms.length c4),(5,.slice A5 fE.length c5),(25,.slice A6 ji.length c6),(26,ak (ji.length:Int)),(27,ak j),(7,ak ee),(31,.slice A5 fE.length c5),(32,ak (fE.length:Int)),(33,ak k),(9,ak ff),(10,ak ((ns (lG B ee ff) ms q:Nat):Int)),(49,.slice A4 ms.length c4),(50,ak (ms.length:Int)),(51,ak q)]) (fun q w'=>q<=ms.length/\w'=w7) (fun q=>ms.length - q) 0 (WM O) ⟨bn _,O⟩ ?_;rintro q e w9 ⟨hq,rfl⟩;have cT:=CI (P:=lG B ee ff) (xs:=ms) (q:=q);refine bX O (aN _ O (fun uX=>?_) (fun uX=>?_))
    ·have nE:q<ms.length:=by omega
     have hx:=tY _ (gi_in nE);have gG:=CK (P:=lG B ee ff) nE;have fC:=CJ (P:=lG B ee ff) nE;refine aG O (aB h4.2 O (aW h4 O (ar O ?_)));generalize ui:gi ms q=xx at*;refine bY 57 O (fun jN=>?_) (fun jN=>?_)
     ·refine az O (az O (az O (ar O (au O (ar O (au O (ar O (au O (ar O ?_)))))))));refine bY 65 O (fun iO=>?_) (fun iO=>?_)
      ·refine az O (az O (az O (au O (aE O ?_))));refine Cd.fx O (aG O (aK O (ar O (aK O (aR O (tQ ?_))))));exact⟨q+1,by show ms.length - (q+1)<ms.length - q;omega,⟨O,O,O,O,O,O,O,O,O,O,O,O,O,O,aH (fun m:Nat=>Value.int .i64 (m:Int)) (gG ⟨.inl jN,.inl iO⟩).symm,O,O,O,av⟩,by omega,O⟩
      refine au O (ar O (au O (ar O (au O ?_))));refine aI (py A1 A D cA cD n R rs B xx ff _ h1 hB (by omega) (bH ff (by omega) (by omega)) (by have:=bM ff (by omega) (by omega);omega)) O ?_;rintro _ dw ⟨rfl,rfl⟩;refine au O (aE O ?_);refine aN _ O (fun iP=>?_) (fun iP=>?_)
      ·refine aG O (aK O (ar O (aK O (aR O (tQ ?_)))));exact⟨q+1,by show ms.length - (q+1)<ms.length - q;omega,⟨O,O,O,O,O,O,O,O,O,O,O,O,O,O,aH (fun m:Nat=>Value.int .i64 (m:Int)) (gG ⟨.inl jN,.inr iP⟩).symm,O,O,O,av⟩,by omega,O⟩
      refine aG O (aK O (aR O (tQ ?_)));exact⟨q+1,by show ms.length - (q+1)<ms.length - q;omega,⟨O,O,O,O,O,O,O,O,O,O,O,O,O,O,aH (fun m:Nat=>Value.int .i64 (m:Int)) (fC fun h=>h.2.elim iO iP).symm,O,O,O,av⟩,by omega,O⟩
     refine au O (ar O (au O (ar O (au O ?_))));refine aI (py A1 A D cA cD n R rs B ee xx _ h1 hB (by omega) (bH xx (by omega) (by omega)) (by have:=bM xx (by omega) (by omega);omega)) O ?_;rintro _ dw ⟨rfl,rfl⟩;refine ar O (bY 62 O (fun k8=>?_) (fun k8=>?_))
     ·refine au O (ar O (au O (ar O (au O (ar O ?_)))));refine bY 65 O (fun iO=>?_) (fun iO=>?_)
      ·refine az O (az O (az O (au O (aE O ?_))));refine Cd.fx O (aG O (aK O (ar O (aK O (aR O (tQ ?_))))));exact⟨q+1,by show ms.length - (q+1)<ms.length - q;omega,⟨O,O,O,O,O,O,O,O,O,O,O,O,O,O,aH (fun m:Nat=>Value.int .i64 (m:Int)) (gG ⟨.inr k8,.inl iO⟩).symm,O,O,O,av⟩,by omega,O⟩
      refine au O (ar O (au O (ar O (au O ?_))));refine aI (py A1 A D cA cD n R rs B xx ff _ h1 hB (by omega) (bH ff (by omega) (by omega)) (by have:=bM ff (by omega) (by omega);omega)) O ?_;rintro _ ew ⟨rfl,rfl⟩;refine au O (aE O ?_);refine aN _ O (fun iP=>?_) (fun iP=>?_)
      ·refine aG O (aK O (ar O (aK O (aR O (tQ ?_)))));exact⟨q+1,by show ms.length - (q+1)<ms.length - q;omega,⟨O,O,O,O,O,O,O,O,O,O,O,O,O,O,aH (fun m:Nat=>Value.int .i64 (m:Int)) (gG ⟨.inr k8,.inr iP⟩).symm,O,O,O,av⟩,by omega,O⟩
      refine aG O (aK O (aR O (tQ ?_)));exact⟨q+1,by show ms.length - (q+1)<ms.length - q;omega,⟨O,O,O,O,O,O,O,O,O,O,O,O,O,O,aH (fun m:Nat=>Value.int .i64 (m:Int)) (fC fun h=>h.2.elim iO iP).symm,O,O,O,av⟩,by omega,O⟩
     refine az O (az O (az O (cg O O O O (cg O O O O (cg O O O O (az O (aE O ?_)))))));refine Cd.eM O (aG O (aK O (aR O (tQ ?_))));exact⟨q+1,by show ms.length - (q+1)<ms.length - q;omega,⟨O,O,O,O,O,O,O,O,O,O,O,O,O,O,aH (fun m:Nat=>Value.int .i64 (m:Int)) (fC fun h=>h.1.elim jN k8).symm,O,O,O,av⟩,by omega,O⟩
    have oE:q=ms.length:=by omega
    subst oE;have IB:=sB ee ff;refine bk O (bm (mw O ?_));refine aN _ O (fun jN=>?_) (fun jN=>?_)
    ·refine aG O (pP [(i:Int),ee,ff] bh O O (by decide) (by decide) O O fun A9 dw bQ=>bI O (dN (dE (dN (dE (dN (dE ?_)))))));refine eW O ⟨A9,3,3,O,⟨fun h=>?_,fun h=>?_⟩,bQ.none⟩
     ·rw [wy (bQ.bo 0 rfl).2 (by decide)]at h;cases h
     have qj:=h (i:Int) ee ff (by omega) h2 ((BH (by omega) h2).1 (by rw [tW,<-z7];exact gi_in je)) ((BG (by omega) h2).1 (by rw [tR,<-z8];exact gi_in gR)) lN;omega
    refine aG O (aK O (aR O (tQ ?_)));exact⟨k+1,by show fE.length - (k+1)<fE.length - k;omega,(WM O),by omega,O,lO fun _=>by omega⟩
   refine bk O (bm (ct O (aK O (aR O (tQ ?_)))));exact⟨j+1,by show ji.length - (j+1)<ji.length - j;omega,(WM O),by omega,O,fun p hp f hf=>by
    by_cases ep:p=j
    ·subst ep;rw [z7];obtain⟨q,hq,e9⟩:=eZ.1 hf;rw [<-bF hq]at e9;have:=bU q (by omega)
     rwa [e9]at this
    exact dF p (by omega) f hf⟩
  refine bk O (bm (ct O (aK O (aR O (tQ ?_)))));exact⟨i+1,by show n.toNat - (i+1)<n.toNat - i;omega,(WM O),by show((i+1:Nat):Int)<=n;omega,fun i' e f h0 h' he hf lN=>by
   by_cases ei:i'=(i:Int)
   ·subst ei;rw [tW]at he;rw [tR]at hf;obtain⟨q,hq,e9⟩:=eZ.1 he;rw [<-bF hq]at e9;have:=dF q (by omega) f hf;rw [e9]at this;exact this lN
   exact jR i' e f h0 (by have h':i'< ((i+1:Nat):Int):=h';omega) he hf lN,QY⟩
 refine bk O (bm (fA O ?_));exact eW O ⟨none,0,0,O,⟨fun _ i' e f h0 h3 h4 h5 h6=>jR i' e f h0 (by omega) ((BH h0 h3).2 h4) ((BG h0 h3).2 h5) h6,fun _=>O⟩,aM⟩
theorem zw{n:Nat}{R:ai}{B:ah}(hn:1<=n)(hb:R.length<=500):∀x∈aA n R B,x.length=n/\∀e∈x,0<=e/\e< (R.length:Int):=fun x hx=>by
 obtain⟨h1,h2,_⟩:=(qT hn).1 hx;refine⟨h1,fun e he=>?_⟩;obtain⟨k,hk,rfl⟩:=eZ.1 he;rw [<-bF hk];exact(h2 k (by omega)).1
theorem Cx(b:Bool):b=decide (b=true):=by cases b<;>rfl
theorem EV(n:Nat)(A D:aj)(cA cD:Nat)(R:ai)(rs:List aL)(B:ah)(Af:aj)(cf:Nat)(gI:List aL)(w:aa)(hT:kW w)(hR:bu w A R.length R)(hB:bq w D B.length rs B)(hP:dm n R B)(hF:bq w Af (aA n R B).length gI (aA n R B))(IG:(aA n R B).length<=400):
 aJ prog 57 [.agg #[ak n,.slice A R.length cA,.slice D B.length cD],.slice Af (aA n R B).length cf] w (fun v w'=>∃b:Bool,v= .bool b/\(b=true↔ni n R B)/\St w w' []):=by
 have hn:=hP.n1;have gQ:=hP.jK;have mH:=zw (n:=n) (R:=R) (B:=B) (by omega) gQ;have PY:∀x∈aA n R B,x.length=n/\∀e∈x,0<=e/\e<=1000000:=fun x hx=> ⟨(mH x hx).1,fun e he=>by have:=(mH x hx).2 e he;omega⟩
 have mK:(aA n R B).Nodup:=(wJ n R B).nodup;refine br func57 O ntmps57 O (cw O) (a8 O (ga (St.refl w) O O ?_));intro A1 w1 ay;have h1:Rd w1 A1 3 (fun j=> [Value.int .i64 n,.slice A R.length cA,.slice D B.length cD].getD j undef):=ay.rd 0 O;have hR:=ay.da hR;have hB:=ay.bO hB;have hF:=ay.bO hF;have hT:=hT.aq ay.below;have ay:=ay.none;refine ar O (ba O O (ar O ?_));refine bY 8 O (fun h2=>?_) (fun h2=>?_)
 ·have bL:aA n R B≠[]:=fun h=>by rw [h]at h2;exact absurd h2 (by decide)
  refine au O (bK 2 h1 O O O ?_);refine au O (ar O (au O ?_));refine aI (JS n A D cA R.length B.length cD Af (aA n R B).length cf gI (aA n R B) _ hF gQ (fun l hl=> ⟨by have:=(mH l hl).1;omega,(mH l hl).2⟩) (by omega)) O ?_;rintro _ w2 ⟨b,rfl,hb,ax⟩;have h1:=Rd.below h1 ax.below;have hR:=ax.da hR;have hB:=ax.bO hB;have hF:=ax.bO hF;have hT:=hT.aq ax.below;have ay:=ay.aq ax.below;have sJ:b=true↔Ch n R B:=hb;clear ax hb;rw [Cx b];refine ar O (bY 13 O (fun h3=>?_) (fun h3=>?_))
  ·refine au O (bK 2 h1 O O O (au O (aI (G0 n A D cA cD R rs B _ hR hB hP) O ?_)));rintro _ w3 ⟨A9,n9,c9,rfl,hd,ax⟩;have hF:=ax.bO hF;have hT:=hT.aq ax.below;have ay:=ay.aq ax.below;clear ax;refine au O (ti O O O ?_);rw [Cx A9.isNone];refine ar O (bY 18 O (fun h4=>?_) (fun h4=>?_))
   ·refine au O (ar O (au O ?_));refine aI (GQ Af (aA n R B).length cf gI (aA n R B) n _ hT hF (by omega) (by omega) PY mK) O ?_;rintro _ w4 ⟨A8,n8,c8,rfl,hc,ax⟩;have ay:=ay.aq ax.below;refine au O (ti O O O (bI O (cH O ?_)));exact⟨A8.isNone,O,⟨fun h=> ⟨bL,sJ.1 h3,hd.1 h4,hc.1 h⟩,fun h=>hc.2 h.2.2.2⟩,ay⟩
   refine az O (az O (az O (bI O ?_)));refine cH O ?_;exact⟨false,rfl,⟨fun h=> (by cases h),fun h=>absurd (hd.2 h.2.2.1) h4⟩,ay⟩
  refine az O (az O (az O (ar O (az O (az O (az O (bI O ?_)))))));refine cH O ?_;exact⟨false,rfl,⟨fun h=> (by cases h),fun h=>absurd (sJ.2 h.2.1) h3⟩,ay⟩
 refine az O (az O (az O (ar O (az O (az O (az O (ar O (az O (az O (az O (bI O ?_)))))))))));refine cH O ?_;exact⟨false,rfl,⟨fun h=> (by cases h),fun h=>absurd (List.length_pos_iff.2 h.1) (by omega)⟩,ay⟩
noncomputable def C0(M:ah):ah:=aA M.length (bS M M.length) (bP M)
noncomputable def rO(M:ah):Int:=if 500<aV M M.length\/400< (C0 M).length then 3 else 0
def B8(M:ah):Prop:=aV M M.length<=500/\(C0 M).length=(gl M 0).length/\ni M.length (bS M M.length) (bP M)
theorem KA{M:ah}(hM:eA M)(h:aV M M.length<=500):dm (M.length:Int) (bS M M.length) (bP M):=Of hM h
theorem RE(A:aj)(n c:Nat)(rs:List aL)(M:ah)(w:aa)(hT:kW w)(hR:bq w A n rs M)(hM:eA M):
 aJ prog 69 [.agg #[.slice A n c]] w (fun v w'=>∃b:Bool,v= .tuple #[.bool b,ak (rO M)]/\(b=true↔B8 M)/\St w w' []):=by
 have hl:=hR.len;have h5:=hM.1;have h4:=hM.2.1;have ny:=nu M M.length;have iH:=oj M;have oF:=hR.pE (k:=0) (by omega) (by omega);refine br func69 O ntmps69 O (jw O) (a8 O (ng (St.refl w) O O ?_));intro A1 w1 ay;refine ar O (bK 0 (ay.rd 0 O) O O O (aI (G8 A n c rs M _ (ay.bO hR) hM) O ?_));rintro _ w2 (⟨vh,rfl,ax⟩ | ⟨vh,AR,cR,AD,cD,cq,rfl,rA,ax⟩)
 ·have aM:=ay.aq ax.below;refine ar O (kV aM O ?_);intro A4 w3 aU;refine dG 3 0 aU O O O O O O O fun w4 bd=>ar O ?_
  first | refine dk rfl rfl ?_ | refine eF rfl rfl ?_
  refine aE O (Cd.fx O (du O (nP O O ?_)));unfold rO;rw [aF (.inl vh)];exact⟨false,rfl,⟨fun h=> (by cases h),fun h=>by have:=h.1;omega⟩,bd.none⟩
 have hP:=KA hM vh;have aM:=ay.call ax;clear ax ay;refine ar O (kV aM O ?_);intro A4 w3 aU;refine dG 3 0 aU O O O O O O O ?_;intro w4 bd;have bd:St w w4 (a7 A4 (M.length:Int) AR (aV M M.length) cR AD (aV M M.length) cD::(aw 2 AR (aV M M.length) cR (bS M M.length)::((aQ 24 2 AD (aV M M.length) cD cq (bP M)++ [])++ [Bx 37 1 A1 [.slice A n c]]))):=bd;have zQ:bu w4 AR (bS M M.length).length (bS M M.length):=by rw [ny];exact bd.bo 1 O
 have iE:bq w4 AD (bP M).length cq (bP M):=by
  rw [iH];have h9:=bd.sub (show(aQ 24 2 AD (aV M M.length) cD cq (bP M)).Sublist _ from List.Sublist.cons _ (List.Sublist.cons _ (by rw [fO];exact kU _ _)));exact h9.kq iH
 have mF:=bd.rd 0 O;have eN:Rd w4 A1 1 (fun _=> .slice A n c):=by
  have h9:=bd.sub (show List.Sublist [Bx 37 1 A1 [.slice A n c]] _ from List.Sublist.cons _ (List.Sublist.cons _ (gq _ _)));exact jI (h9.rd 0 O)
 refine ar O ?_
 first | refine dk rfl rfl ?_ | refine eF rfl rfl ?_
 refine aE O (Cd.eM O (aG O (bK 2 mF O O O ?_)));refine WD (tw M.length AR AD cR cD (bS M M.length) cq (bP M) _ zQ iE hP) O (by rw [ny,iH];rfl) O ?_;rintro _ w5 ⟨Af,cf,KO,rfl,ue,ax⟩;have bh:=bd.aq ax.below;have tG:=zQ.aq ax.below;have OT:=iE.aq ax.below;have fm:=Rd.below mF ax.below;have eN:=Rd.below eN ax.below
 by_cases fB:(aA M.length (bS M M.length) (bP M)).length<=400
 ·
  have hL:qb M.length (bS M M.length) (bP M)=aA M.length (bS M M.length) (bP M):=by unfold qb;rw [if_pos fB]
  have hK:me M.length (bS M M.length) (bP M)=0:=by unfold me;rw [if_pos fB]
  have vC:rO M=0:=by unfold rO;rw [if_neg (by show ¬(500<aV M M.length\/400< (aA M.length (bS M M.length) (bP M)).length);omega)]
  rw [hL]at ue ax|-;rw [hK,vC];have OY:bq w5 Af (aA M.length (bS M M.length) (bP M)).length KO (aA M.length (bS M M.length) (bP M)):=by
   rw [fO]at ax;exact ax.kq O
  refine ar O (bY 22 O (fun _=>?_) (fun h=>absurd O h));refine au O (ar O (au O ?_));refine aI (yE _ _ _ _) O ?_;rintro _ w5 ⟨rfl,rfl⟩;refine au O (aI (tx A1 A n c rs M _ _ eN O (bh.bO hR) (by omega)) O ?_);rintro _ w5 ⟨rfl,rfl⟩;refine au O (ar O ?_);refine bY 28 O (fun h6=>?_) (fun h6=>?_)
  ·refine au O (bK 2 fm O O O ?_);refine au O (ar O (au O ?_));refine WD (EV M.length AR AD cR cD (bS M M.length) cq (bP M) Af cf KO _ (hT.aq bh.below) tG OT hP OY fB) O (by rw [ny,iH];rfl) O ?_;rintro _ w6 ⟨b,rfl,hb,kl⟩;refine bI O (nP O O ?_);refine⟨b,O,hb.trans ⟨fun h=> ⟨vh,?_,h⟩,fun h=>h.2.2⟩,(bh.aq kl.below).none⟩;show(aA M.length (bS M M.length) (bP M)).length=_;omega
  refine az O (az O (az O (bI O ?_)));refine nP O O ?_;refine⟨false,rfl,⟨fun h=> (by cases h),fun h=>?_⟩,bh.none⟩;have h9:(aA M.length (bS M M.length) (bP M)).length=(gl M 0).length:=h.2.1;omega
 have hL:qb M.length (bS M M.length) (bP M)=[]:=by unfold qb;rw [if_neg fB]
 have hK:me M.length (bS M M.length) (bP M)=3:=by unfold me;rw [if_neg fB]
 have vC:rO M=3:=by unfold rO;rw [if_pos (.inr (by show 400< (aA M.length (bS M M.length) (bP M)).length;omega))]
 rw [hL]at ue ax|-;rw [hK,vC];refine ar O (bY 22 O (fun h=>absurd h (by decide)) (fun _=>?_));refine az O (az O (az O (az O (ar O (az O (az O (az O (bI O ?_))))))));refine nP O O ?_;refine⟨false,rfl,⟨fun h=> (by cases h),fun h=>?_⟩,bh.none⟩;have h9:(aA M.length (bS M M.length) (bP M)).length=(gl M 0).length:=h.2.1;omega
section
variable {P:Program} {N:Nat} {ops:Array Oper} {K:Env->aa->Prop} {rest:List Oper} {e:Env} {w0 w w':aa} {ks:List Ck} {d:Nat} {ty:ae} {pos:String} {af:Array Edge}
end
def uN(n:Nat)(R:ai)(B:ah)(f:Nat)(x:Nat):Prop:=(f<=x/\gi R x=(n:Int) - 1)\/∃g:Nat,(g:Int)∈iy R B x/\cW n R B g/\f<=g
def qM(n:Nat)(R:ai)(B:ah)(f j:Nat)(x:Nat):Prop:=uN n R B (f+1) x\/(x=f/\gi R x=(n:Int) - 1)\/(cW n R B f/\(x:Int)∈(gl B f).take j/\gi R f=gi R x+1)
section
variable{x j:Nat}
variable {n:Nat} {R:ai} {B:ah}
theorem Gq(hP:dm n R B){f:Nat}(hf:f<=x)(hx:x<R.length):uN n R B f x↔cW n R B x:=by
 have hr:=hP.ri (e:=(x:Int)) (by omega) (by omega);constructor
 ·rintro(h | ⟨g,h1,h2,_⟩)
  ·exact Gs h.2
  have h3:=lA.1 h1;have:=hP.ri h3.1.1 h3.1.2;exact(y7 (by omega) (by omega)).2 ⟨_,h1,h2⟩
 intro h
 by_cases c:gi R x=(n:Int) - 1
 ·exact .inl ⟨hf,c⟩
 obtain⟨g,h1,h2⟩:=(y7 (by omega) (by omega)).1 h;have h3:=tb hP h1;obtain⟨g',rfl⟩:∃g':Nat,g=g':=⟨g.toNat,by omega⟩;exact .inr ⟨g',h1,h2,by omega⟩
theorem Ms(hP:dm n R B)(hx:x<R.length):¬uN n R B R.length x:=by
 rintro(h | ⟨g,h1,_,h2⟩)
 ·omega
 have:=tb hP h1;omega
theorem Mw(hP:dm n R B){f:Nat}(hf:f<R.length):qM n R B f j f↔cW n R B f:=by
 rw [<-Gq hP (dh f) hf];constructor
 ·rintro(h | h | h)
  ·rcases h with h | ⟨g,h1,h2,h3⟩
   ·omega
   exact .inr ⟨g,h1,h2,by omega⟩
  ·exact .inl ⟨dh _,h.2⟩
  have:=((hP.at_ (e:=(f:Int)) (by omega) (by omega)).2.1 _ (List.mem_of_mem_take h.2.1)).1;omega
 rintro(h | ⟨g,h1,h2,h3⟩)
 ·exact .inr (.inl ⟨O,h.2⟩)
 have:=tb hP h1;exact .inl (.inr ⟨g,h1,h2,by omega⟩)
theorem Mu(hP:dm n R B){f:Nat}(hf:f<R.length)(hj:¬cW n R B f\/(gl B f).length<=j)(hx:x<R.length):qM n R B f j x↔uN n R B f x:=by
 constructor
 ·rintro(h | h | h)
  ·rcases h with h | ⟨g,h1,h2,h3⟩
   ·exact .inl ⟨by omega,h.2⟩
   exact .inr ⟨g,h1,h2,by omega⟩
  ·exact .inl ⟨by omega,h.2⟩
  exact .inr ⟨f,lA.2 ⟨by omega,h.2.2,List.mem_of_mem_take h.2.1⟩,h.1,dh _⟩
 rintro(h | ⟨g,h1,h2,h3⟩)
 ·by_cases e:x=f
  ·exact .inr (.inl ⟨e,h.2⟩)
  exact .inl (.inl ⟨by omega,h.2⟩)
 by_cases e:g=f
 ·subst e;have h4:=lA.1 h1;rcases hj with hj | hj
  ·exact absurd h2 hj
  exact .inr (.inr ⟨h2,by rw [lD hj];exact h4.2.2,h4.2.1⟩)
 exact .inl (.inr ⟨g,h1,h2,by omega⟩)
theorem Mv{f:Nat}(hj:j< (gl B f).length):qM n R B f (j+1) x↔qM n R B f j x\/(cW n R B f/\(x:Int)=gi (gl B f) j/\gi R f=gi R x+1):=by
 have e9:(gl B f).take (j+1)=(gl B f).take j++ [gi (gl B f) j]:=by
  rw [oZ hj,bF hj]
 unfold qM;rw [e9,gL,eP];constructor
 ·rintro(h | h | ⟨h1,h2 | h2,h3⟩)
  ·exact .inl (.inl h)
  ·exact .inl (.inr (.inl h))
  ·exact .inl (.inr (.inr ⟨h1,h2,h3⟩))
  exact .inr ⟨h1,h2,h3⟩
 rintro((h | h | ⟨h1,h2,h3⟩) | ⟨h1,h2,h3⟩)
 ·exact .inl h
 ·exact .inr (.inl h)
 ·exact .inr (.inr ⟨h1,.inl h2,h3⟩)
 exact .inr (.inr ⟨h1,.inr h2,h3⟩)
end
def na(N:Nat)(L:List Bool)(P:Nat->Prop):Prop:=L.length=N/\∀x:Nat,x<N->(gb L x=true↔P x)
theorem na.set{N:Nat}{L:List Bool}{P P':Nat->Prop}(h:na N L P){y:Nat}(hy:y<N)(hP:∀x,x<N->(P' x↔P x\/x=y)):na N (L.set y true) P':=by
 refine⟨by rw [ij];exact h.1,fun x hx=>?_⟩;have:=wM (S:=L) (x:=(y:Int)) (y:=(x:Int)) (b:=true) (by omega) (by rw [h.1];omega) (by omega);rw [fW]at this;rw [this,hP x hx,<-h.2 x hx]
 by_cases e:x=y
 ·subst e;simp
 rw [aC (by omega)];exact⟨fun h=> .inl h,fun h=>h.resolve_right e⟩
theorem na.congr{N:Nat}{L:List Bool}{P P':Nat->Prop}(h:na N L P)(hP:∀x,x<N->(P' x↔P x)):na N L P':=⟨h.1,fun x hx=> (h.2 x hx).trans (hP x hx).symm⟩
theorem Sm(n:Nat)(A D:aj)(cA cD:Nat)(R:ai)(rs:List aL)(B:ah)(w:aa)(hR:bu w A R.length R)(hB:bq w D B.length rs B)(hP:dm n R B):
 aJ prog 181 [.agg #[ak n,.slice A R.length cA,.slice D B.length cD]] w (fun v w'=>∃A' L,v= .slice A' R.length R.length/\na R.length L (fun x=>cW n R B x)/\St w w' [eC 4 A' R.length R.length L]):=by
 have hn:=hP.n1;have gQ:=hP.jK;have hle:=hP.len;have bH:=fun(f:Nat) (h:f<R.length)=>hP.at_ (e:=(f:Int)) (by omega) (by omega)
 have bM:∀f:Nat,f<R.length->(gl B f).length<=500:=fun f h=>by
  have:=nN (N:=R.length) (bH f h).1.nodup fun x hx=>by have:=((bH f h).2.1 x hx).1;omega
  omega
 have AV:=fun f j (h:f<R.length)=>Mw (n:=n) (j:=j) hP h
 have xq:=fun f j x (h:f<R.length) hj (hx:x<R.length)=>Mu (n:=n) (j:=j) hP h hj hx
 have JF:=fun x (h:x<R.length)=>Ms (n:=n) hP h
 have vo:=fun x (h:x<R.length)=>Gq (n:=n) (f:=0) hP (bn _) h
 have gj:=fun(x:Nat) (h:x<R.length)=>hP.ri (e:=(x:Int)) (by omega) (by omega)
 obtain⟨N,hN⟩:∃N,R.length=N:=⟨_,rfl⟩;rw [hN]at hR gQ hle bH bM AV xq JF vo gj|-;rw [hle]at hB|-;refine br func181 O ntmps181 O (cw O) (a8 O (ga (St.refl w) O O ?_));intro A1 w1 ay;have h1:Rd w1 A1 3 (fun j=> [Value.int .i64 (n:Int),.slice A N cA,.slice D N cD].getD j undef):=ay.rd 0 O;have hR:=ay.da hR;have hB:=ay.bO hB;refine ar O (aS h1 O (WI (j:=1) h1 (by exact aH Value.pointer O) O O O O (ba O O (tj (v:=false) N (St.refl w1) O O (by omega) ?_))));intro A3 w2 DO;have Df:=Rd.below h1 DO.below;refine ar O (aS Df O (WI (j:=1) Df (by exact aH Value.pointer O) O O O O ?_));have H4:na N (List.replicate N false) (uN n R B N):=⟨by simp,fun x hx=> ⟨fun h=> (by rw [Hp]at h;cases h),fun h=>absurd h (JF x hx)⟩⟩;clear Df;refine ba O O (dA O (aE O ?_));refine Cd.loop (α:=Nat×List Bool) (fun z=> [(1,.pointer A1),(3,.slice A3 N N),(4,ak ((z.1:Int) - 1))]) (fun z w'=>z.1<=N/\na N z.2 (uN n R B z.1)/\St w1 w' [eC 4 A3 N N z.2]) (fun z=>z.1) (N,List.replicate N false) (WM O) ⟨dh _,H4,DO⟩ ?_;clear DO H4;rintro⟨E',L⟩ e w3 ⟨hE,hL,hT⟩;dsimp only at hE hL hT|-;refine bX O (aN _ O (fun h2=>?_) (fun h2=>?_))
 ·obtain⟨f,rfl⟩:∃f,E'=f+1:=⟨E' - 1,by omega⟩;have gE:f<N:=by omega
  rw [show((f+1:Nat):Int) - 1=(f:Int) by omega];have mf:=Rd.below h1 hT.below;have q9:=hR.aq hT.below;have ue:=gj f gE;refine wk 3 O (pK (α:=List Bool) (fun _=> [(1,.pointer A1),(3,.slice A3 N N),(4,ak f)]) (fun L' w'=>na N L' (qM n R B f 0)/\St w1 w' [eC 4 A3 N N L']) ?_ ?_)
  ·refine bX O (dL [xP (aD (A1) 1),xS (A) (N) (cA),xI ((f:Int)),xP (aD (A) ((f:Int)).toNat),xI (gi (R) ((f:Int))),xP (aD (A1) 0),xI ((n:Int)),xI (((n:Int)) - ((1:Int))),xB (decide ((gi (R) ((f:Int)))=(((n:Int)) - ((1:Int)))))] O (dV O) ?_ ?_)
   ·exact⟨fun _ _ hb _ _=>aS (mf.below hb) O Az,fun _ _ hb _ _=>aZ (mf.below hb) O Az,Dr O,fun _ _ hb _ _=>aB (q9.aq hb).2 O Az,fun _ _ hb _ _=>aW (q9.aq hb) O Az,fun _ _ hb _ _=>aS (mf.below hb) O Az,fun _ _ hb _ _=>fJ (mf.below hb) O O O O O Az,fun _ _ _ _ _=>dA O Az,Dr O,av⟩
   intro u w4 mF _;have DR:=hT.aq mF;clear hT mf q9;refine fq O (aN _ O (fun h3=>?_) (fun h3=>?_))
   ·refine aG O (aB (DR.gX 0 O).2 O (pQ 0 DR O O O (by omega) ?_));intro w5 gx;rw [fW]at gx;refine aR O (tQ ?_);refine⟨L.set f true,(WM O),hL.set gE fun x hx=>?_,gx⟩;unfold qM;rw [List.take_zero];constructor
    ·rintro(h | h | h)
     ·exact .inl h
     ·exact .inr h.1
     cases h.2.1
    rintro(h | h)
    ·exact .inl h
    subst h;exact .inr (.inl ⟨rfl,h3⟩)
   refine wm O (tQ ?_);refine⟨L,(WM O),hL.congr fun x hx=>?_,DR⟩;unfold qM;rw [List.take_zero];constructor
   ·rintro(h | h | h)
    ·exact h
    ·exact absurd (h.1▸h.2) h3
    cases h.2.1
   exact fun h=> .inl h
  clear hT hL mf q9;rintro L e w5 ⟨hL,hT⟩;have QS:=bH f gE;have hrl5:=bM f gE;refine df O (Cd.loop (α:=Nat×List Bool) (fun z=> [(1,.pointer A1),(3,.slice A3 N N),(4,ak f),(5,ak (z.1:Int))]) (fun z w'=>z.1<=(gl B f).length/\na N z.2 (qM n R B f z.1)/\St w1 w' [eC 4 A3 N N z.2]) (fun z=> (gl B f).length - z.1) (0,L) (WM O) ⟨bn _,hL,hT⟩ ?_);clear hT hL;rintro⟨j,L⟩ e w6 ⟨hj,hL,hT⟩;dsimp only at hj hL hT|-;have mf:=Rd.below h1 hT.below;have wP:=hB.aq hT.below;have bW:=wP.at_ (i:=(f:Int)) (by omega) (by omega);have fp:=bW.1;have ou:=hL.1;have vr:=(hL.2 f gE).trans (AV f j gE);refine a8 O (aS mf O (WI (j:=2) mf (by exact aH Value.pointer O) O O O O (ar O (aB wP.top.2 O (ck wP.top O ?_)))));refine ba O O (ar O ?_);refine bY 39 O (fun h3=>?_) (fun h3=>?_)
  ·have je:j< (gl B f).length:=by omega
   refine au O (ar O (au O (ar O (au O ?_))));refine aB (hT.gX 0 O).2 O (au O (nh (hT.gX 0 O) O (by omega) O O ?_));generalize P4:gb L f=bb at*;rw [show bb=decide (bb=true) by cases bb<;>rfl];refine aE O (aN _ O (fun h4=>?_) (fun h4=>?_))
   ·have kH:=vr.1 h4;have rh:=QS.2.1 _ (gi_in je);have e6:=fun x=>Mv (n:=n) (R:=R) (B:=B) (f:=f) (x:=x) je
    have q9:=hR.aq hT.below;obtain⟨d,hd⟩:∃d:Nat,gi (gl B f) j=d:=⟨(gi (gl B f) j).toNat,by omega⟩;rw [hd]at rh e6;have fS:=gj d (by omega);refine aG O (aS mf O (WI (j:=2) mf (by exact aH Value.pointer O) O O O O (ar O (aB wP.top.2 O (ck wP.top O (ar O (aB bW.2 O (aW bW O ?_))))))));rw [hd];refine aE O (dL [xP (aD (A1) 1),xS (A) (N) (cA),xI ((d:Int)),xP (aD (A) ((d:Int)).toNat),xI (gi (R) ((d:Int))),xP (aD (A1) 1),xS (A) (N) (cA),xI ((f:Int)),xP (aD (A) ((f:Int)).toNat),xI (gi (R) ((f:Int))),xI ((gi (R) ((f:Int))) - ((1:Int))),xB (decide ((gi (R) ((d:Int)))=((gi (R) ((f:Int))) - ((1:Int)))))] O (dV O) ?_ ?_)
    ·exact⟨fun _ _ hb _ _=>aS (mf.below hb) O Az,fun _ _ hb _ _=>aZ (mf.below hb) O Az,Dr O,fun _ _ hb _ _=>aB (q9.aq hb).2 O Az,fun _ _ hb _ _=>aW (q9.aq hb) O Az,fun _ _ hb _ _=>aS (mf.below hb) O Az,fun _ _ hb _ _=>aZ (mf.below hb) O Az,Dr O,fun _ _ hb _ _=>aB (q9.aq hb).2 O Az,fun _ _ hb _ _=>aW (q9.aq hb) O Az,fun _ _ _ _ _=>dA O Az,Dr O,av⟩
    intro u w7 rb _;have fL:=hT.aq rb;refine fq O (aN _ O (fun h5=>?_) (fun h5=>?_))
    ·refine aG O (aB (fL.gX 0 O).2 O (pQ 0 fL O O O (by omega) ?_));intro w8 sv;rw [fW]at sv;refine ar O (aK O (aR O (tQ ?_)));refine⟨(j+1,L.set d true),by show(gl B f).length - (j+1)< (gl B f).length - j;omega,(WM O),by show j+1<=_;omega,hL.set (by omega) fun x hx=>?_,sv⟩;rw [e6 x];constructor
     ·rintro(h | h)
      ·exact .inl h
      exact .inr (by omega)
     rintro(h | h)
     ·exact .inl h
     subst h;exact .inr ⟨kH,rfl,by omega⟩
    refine aG O (aK O (aR O (tQ ?_)));refine⟨(j+1,L),by show(gl B f).length - (j+1)< (gl B f).length - j;omega,(WM O),by show j+1<=_;omega,hL.congr fun x hx=>?_,fL⟩;rw [e6 x];constructor
    ·rintro(h | h)
     ·exact h
     have h9:=h.2.1;have iq:=h.2.2;rw [h9]at iq;omega
    exact fun h=> .inl h
   have kH:¬cW n R B f:=fun h=>h4 (vr.2 h)
   refine bk O (bm (ct O (dA O (aR O (tQ ?_)))));exact⟨(f,L),by show f<f+1;omega,(WM O),by show f<=N;omega,hL.congr fun x hx=> (xq f j x gE (.inl kH) hx).symm,hT⟩
  refine az O (az O (az O (az O (aE O ?_))));refine Cd.eM O (bk O (bm (ct O (dA O (aR O (tQ ?_))))));exact⟨(f,L),by show f<f+1;omega,(WM O),by show f<=N;omega,hL.congr fun x hx=> (xq f j x gE (.inr (by omega)) hx).symm,hT⟩
 obtain rfl:E'=0:=by omega
 refine bk O (bm (fA O ?_));refine eW O ?_;have h9:=ay.none.call hT;exact⟨A3,L,O,hL.congr fun x hx=> (vo x hx).symm,h9⟩
theorem M4(G X:ah):cap (cap G++X)=cap (G++X):=by
 unfold cap
 by_cases h:G.length<=401
 ·rw [lD h]
 rw [uH (by rw [mY];omega),uH (by omega),List.take_take,Nat.min_self]
section
variable (n:Nat) (R:ai) (B:ah)
def jk(st:ai)(m:Nat):ai:=(cI m).filter fun e=>decide (gi R e=(st.length:Int)/\cW n R B e/\(st.length=0\/gi st ((st.length:Int) - 1)∈gl B e))
def dY:Nat->ai->ah
 | 0,st=> [st]
 | k+1,st=> (jk n R B st R.length).flatMap fun e=>dY k (st++ [e])
end
section
variable {n:Nat} {R:ai} {B:ah}
theorem TD(st:ai)(m:Nat):jk n R B st (m+1)=if gi R m=(st.length:Int)/\cW n R B m/\(st.length=0\/gi st ((st.length:Int) - 1)∈gl B m)then jk n R B st m++ [(m:Int)]else jk n R B st m:=by
 have e9:cI (m+1)=cI m++ [(m:Int)]:=by
  unfold cI;rw [l4,List.map_append];rfl
 unfold jk;rw [e9,oW]
 by_cases c:gi R m=(st.length:Int)/\cW n R B m/\(st.length=0\/gi st ((st.length:Int) - 1)∈gl B m)
 ·rw [aF c,th (by simpa using c)];rfl
 rw [aC c,qJ (by simpa using c)];simp
theorem G5:∀(k:Nat) (st:ai) (e:Int),0<st.length->gi st ((st.length:Int) - 1)=e->(0<=e/\e<R.length)->gi R e=(st.length:Int) - 1->st.length+k=n->dY n R B k st=(kY R B k e).map (st++ ·)
 | 0,st,e,_,_,_,_,_=>by simp [dY,kY]
 | k+1,st,e,h0,hl,he,hr,hk=>by
  rw [dY,Lc (n:=n) (by omega) (by omega),List.map_flatMap];have hn:jk n R B st R.length=(iy R B e).filter fun f=>decide (cW n R B f):=by
   refine SA.eq (lX _ (nQ _)) (lX _ (yG _ _ _)) fun y=>?_
   unfold jk;rw [fZ,fZ,oQ,lA,jL,jL,hl];constructor
   ·rintro⟨h1,h2,h3,h4⟩;exact⟨⟨h1,by omega,h4.resolve_left (by omega)⟩,h3⟩
   ·rintro⟨⟨h1,h2,h4⟩,h3⟩;exact⟨h1,by omega,h3,.inr h4⟩
  rw [hn];refine wH fun f hf=>?_
  have hf:=lA.1 (fZ.1 hf).1;have hlen:(st++ [f]).length=st.length+1:=by simp
  rw [G5 k (st++ [f]) f (by omega) (by
   rw [hlen,show((st.length+1:Nat):Int) - 1=(st.length:Int) by omega,bF (by omega)];simp) hf.1 (by rw [hlen];omega) (by omega),List.map_map]
  refine kS fun y _=>?_
  show(st++ [f])++y=st++ (f::y);rw [ig];rfl
theorem NN(hn:1<=n):dY n R B n []=aA n R B:=by
 obtain⟨k,rfl⟩:∃k,n=k+1:=⟨n - 1,by omega⟩;rw [GG,dY];have hb:jk (k+1) R B [] R.length=(qN R).filter fun f=>decide (cW (k+1) R B f):=by
  refine SA.eq (lX _ (nQ _)) (lX _ (lX _ (nQ _))) fun y=>?_
  unfold jk;rw [fZ,fZ,oQ,tn,jL,jL];exact⟨fun h=> ⟨⟨h.1,h.2.1⟩,h.2.2.1⟩,fun h=> ⟨h.1.1,h.1.2,h.2,.inl O⟩⟩
 rw [hb];refine wH fun f hf=>?_
 have hf:=tn.1 (fZ.1 hf).1;rw [List.nil_append,G5 k [f] f (by simp) (by simp [gi]) hf.1 (by rw [hf.2];rfl) (by simp;omega)]
 rfl
end
theorem Fq{Q:gu}{e:Env}{w:aa}{F:List (Nat×ad)}(hM:Mt e F)(h:Q .normal (ext e F) w):Q .normal e w:=by rwa [sb hM]at h
theorem S2{w0 w:aa}{ks:List Ck}{t:ae}{A:aj}{n c:Nat}{xs:List Bool}(h:St w0 w ks)(hm:eC t A n c xs∈ks):o0 w A n xs:=by
 obtain⟨i,hi,e⟩:=eZ.1 hm;exact h.gX i (by rw [eS hi,e])
theorem Kx{α:Type}(s m:α)(X K:List α):(s::m::(X++K)).Perm (m::((X++ [s])++K)):=by
 classical
 refine l3.2 fun z=>?_
 simp only [mW,lB,nY];omega
theorem TQ{α:Type}(p s:α)(X K:List α):(p::s::(X++K)).Perm (X++ (p::s::K)):=by
 classical
 refine l3.2 fun z=>?_
 simp only [mW,lB];omega
theorem Sr(w0:aa)(n:Nat)(AR AD:aj)(cR cD:Nat)(R:ai)(BJ:List aL)(B:ah)(N:Nat)(hN:R.length=N)(hR:bu w0 AR N R)(hB:bq w0 AD N BJ B)(hP:dm n R B)(Aa:aj)(La:List Bool)(qY:na N La (fun x=>cW n R B x)):
 ∀(k r:Nat) (st:ai) (As:aj) (cs:Nat) (dX:List Ck) (w:aa) (A:aj) (c:Nat) (rs:List aL) (F:ah),r+k=n->st.length=r->(∀x∈st,0<=x/\x< (N:Int))->eC 4 Aa N N La∈dX->rs.length=F.length->F.length<=401->
  St w0 w (aw 2 As r cs st::(aQ 24 2 A F.length c rs F++dX))->
  aJ prog 180 [.agg #[ak n,.slice AR N cR,.slice AD N cD],.slice Aa N N,.slice As r cs,.slice A F.length c] w (fun v w'=>∃A' c' rs',v= .slice A' (cap (F++dY n R B k st)).length c'/\rs'.length=(cap (F++dY n R B k st)).length/\St w0 w' (aQ 24 2 A' (cap (F++dY n R B k st)).length c' rs' (cap (F++dY n R B k st))++dX)):=by
 have hn:=hP.n1;have gQ:=hP.jK;have hle:=hP.len;have bH:=fun(f:Nat) (h:f<R.length)=>hP.at_ (e:=(f:Int)) (by omega) (by omega)
 have bM:∀f:Nat,f<R.length->(gl B f).length<=500:=fun f h=>by
  have:=nN (N:=R.length) (bH f h).1.nodup fun x hx=>by have:=((bH f h).2.1 x hx).1;omega
  omega
 have gj:=fun(x:Nat) (h:x<R.length)=>hP.ri (e:=(x:Int)) (by omega) (by omega)
 rw [hN]at gQ hle bM gj;have ou:=qY.1;intro k
 induction k with
 | zero=>
  intro r st As cs dX w A c rs F hk ax EC zE gV hF hS;refine br func180 O ntmps180 O (cw O) (a8 O (ga hS O O ?_));intro A4 w1 ay;refine ar O (ba O O (aE O ?_));refine aN _ O (fun h1=>?_) (fun h1=>?_)
  ·have hc:cap (F++dY n R B 0 st)=F:=by
    have h9:cap F=F:=tq hF;rw [zh (l:=F) _ (by rw [h9];omega),h9]
   refine du O (eW O ?_);rw [hc];exact⟨A,c,rs,O,gV,ay.tail.tail⟩
  refine aG O (ba O O (ar O ?_));refine aS (ay.rd 0 O) O (fJ (j:=0) (ay.rd 0 O) (by exact aH Value.pointer O) O O O O (aE O (FW O (by omega) ?_)));have hc:cap (F++dY n R B 0 st)=F++ [st]:=tq (by rw [dY,eY];show F.length+1<=401;omega);have ay:=ay.tail;refine aG O (l6 ay O O O ?_);intro A9 w2 aM;refine l5 2 aM O (aM.fz 0 O) O O O (by omega) (by omega) O ?_;intro AZ cZ w3 aU;have aU:=aU.tail;refine bI O (eW O ?_);rw [hc];refine⟨AZ,cZ,rs++ [⟨As,r,cs⟩],by rw [eY];rfl,by simp [gV],?_⟩;have bd:St w0 w3 (aw 2 As r cs st::bE 24 AZ (F.length+1) cZ (rs++ [⟨As,r,cs⟩])::(b6 2 rs F++dX)):=aU;have bd:=bd.perm (Kx _ _ _ _);rw [<-rQ gV]at bd;rw [eY];exact bd
 | succ k ih=>
  intro r st As cs dX w A c rs F hk ax EC zE gV hF hS;refine br func180 O ntmps180 O (cw O) (a8 O (ga hS O O ?_));intro A4 w1 ay;refine ar O (ba O O (aE O ?_));refine aN _ O (fun h1=>?_) (fun h1=>?_)
  ·have hc:cap (F++dY n R B (k+1) st)=F:=by
    have h9:cap F=F:=tq hF;rw [zh (l:=F) _ (by rw [h9];omega),h9]
   refine du O (eW O ?_);rw [hc];exact⟨A,c,rs,O,gV,ay.tail.tail⟩
  refine aG O (ba O O (ar O ?_));refine aS (ay.rd 0 O) O (fJ (j:=0) (ay.rd 0 O) (by exact aH Value.pointer O) O O O O (aE O (tf O (by omega) ?_)));have ay:St w0 w1 (a7 A4 n AR N cR AD N cD::aw 2 As r cs st::(aQ 24 2 A F.length c rs F++dX)):=ay;have aM:=ay.perm (TQ _ _ _ _);have Dw:cap (F++ (jk n R B st 0).flatMap fun e=>dY n R B k (st++ [e]))=F:=by
   show cap (F++ [])=F;rw [fO,tq hF]
  clear ay hS;refine df O ?_;refine Cd.loop (α:=Nat×aj×Nat×List aL) (fun z=> [(1,.slice Aa N N),(2,.slice As r cs),(3,.slice z.2.1 (cap (F++ (jk n R B st z.1).flatMap fun e=>dY n R B k (st++ [e]))).length z.2.2.1),(4,.pointer A4),(9,ak r),(10,ak (z.1:Int))])
   (fun z w'=>z.1<=N/\z.2.2.2.length=(cap (F++ (jk n R B st z.1).flatMap fun e=>dY n R B k (st++ [e]))).length/\St w0 w' (aQ 24 2 z.2.1 (cap (F++ (jk n R B st z.1).flatMap fun e=>dY n R B k (st++ [e]))).length z.2.2.1 z.2.2.2 (cap (F++ (jk n R B st z.1).flatMap fun e=>dY n R B k (st++ [e])))++ (a7 A4 n AR N cR AD N cD::aw 2 As r cs st::dX))) (fun z=>N - z.1) (0,A,c,rs) ⟨rfl,rfl,aH (fun m:ah=>Value.slice A m.length c) Dw.symm,rfl,rfl,rfl,av⟩ ⟨bn _,by show rs.length=_;rw [Dw];exact gV,by show St w0 w1 (aQ _ _ A (cap _).length c rs (cap _)++_);rw [Dw];exact aM⟩ ?_
  clear aM gV;rintro⟨q,A,c,rs⟩ e w2 ⟨hq,gV,hS⟩;dsimp only at hq gV hS|-;have e6:=TD (n:=n) (R:=R) (B:=B) st q;have cT:=CD (F++ (jk n R B st q).flatMap fun e=>dY n R B k (st++ [e]));have IA:=M4 (F++ (jk n R B st q).flatMap fun e=>dY n R B k (st++ [e]));generalize hG:(F++ (jk n R B st q).flatMap fun e=>dY n R B k (st++ [e]))=G at*;have xk:∀ {w':aa} {A:aj} {c:Nat} {rs:List aL} {F:ah},St w0 w' (aQ 24 2 A F.length c rs F++ (a7 A4 n AR N cR AD N cD::aw 2 As r cs st::dX))->Rd w' A4 3 (fun q=> [Value.int .i64 (n:Int),.slice AR N cR,.slice AD N cD].getD q undef):=fun h=> (h.sub (gq _ _)).rd 0 O
  have D2:∀ {w':aa} {A:aj} {c:Nat} {rs:List aL} {F:ah},St w0 w' (aQ 24 2 A F.length c rs F++ (a7 A4 n AR N cR AD N cD::aw 2 As r cs st::dX))->bu w' As r st:=fun h=> (h.sub (gq _ _)).bo 1 O
  have tN:∀ {w':aa} {A:aj} {c:Nat} {rs:List aL} {F:ah},St w0 w' (aQ 24 2 A F.length c rs F++ (a7 A4 n AR N cR AD N cD::aw 2 As r cs st::dX))->o0 w' Aa N La:=fun h=>S2 h (List.mem_append_right _ (oY _ (oY _ zE)))
  have oo:=xk hS;refine a8 O (aS oo O (WI (j:=1) oo (by exact aH Value.pointer O) O O O O ?_));refine ba O O (aE O ?_);refine aN _ O (fun h3=>?_) (fun h3=>?_)
  ·have Jn:q<N:=by omega
   have nw:=hS.da hR;have qX:=hS.bO hB;have kl:=D2 hS;have uY:=tN hS;have Ec:=qY.2 q Jn;have hriq:=gj q Jn;have hrlq:=bM q (by omega);have Jw:=qX.at_ (i:=(q:Int)) (by omega) (by omega);have fp:=Jw.1;have oI:¬(gi R q=(st.length:Int)/\cW n R B q/\(st.length=0\/gi st ((st.length:Int) - 1)∈gl B q))->F++ ((jk n R B st (q+1)).flatMap fun e=>dY n R B k (st++ [e]))=G:=fun h=>by
    rw [e6,aC h];exact hG
   have D4:¬gi R q=(r:Int)\/(gi R q=(r:Int)/\gb La q=false)\/(gi R q=(r:Int)/\gb La q=true/\(r:Int)=0)\/(gi R q=(r:Int)/\gb La q=true/\¬(r:Int)=0):=by
    by_cases a:gi R q=(r:Int)
    ·cases gb La q
     ·exact .inr (.inl ⟨a,O⟩)
     ·by_cases b:(r:Int)=0
      ·exact .inr (.inr (.inl ⟨a,O,b⟩))
      ·exact .inr (.inr (.inr ⟨a,O,b⟩))
    ·exact .inl a
   rcases D4 with a1 | ⟨a1,a2⟩ | ⟨a1,a2,a3⟩ | ⟨a1,a2,a3⟩
   ·--dup 4
    have mj:=oI (fun h=>a1 (by rw [h.1,ax]));refine df O (dL [xP (aD (A4) 1),xS (AR) (N) (cR),xI ((q:Int)),xP (aD (AR) ((q:Int)).toNat),xI (gi (R) ((q:Int))),xI ((r:Int)),xB (decide ((gi (R) ((q:Int)))=((r:Int)))),xB (false),xU,xU,xU,xU,xB (false),xB (false),xU,xU,xU,xU,xU,xU,xU,xU,xU,xU,xU,xU,xU,xU,xU,xB (false)] O (dV O) ?_ ?_)
    ·exact⟨fun _ _ hb _ _=>aS (oo.below hb) O Az,fun _ _ hb _ _=>aZ (oo.below hb) O Az,Dr O,fun _ _ hb _ _=>aB (nw.aq hb).2 O Az,fun _ _ hb _ _=>aW (nw.aq hb) O Az,Dr O,Dr O,fun _ _ _ _ _=>Dk O (by exact aH Value.bool (cS a1)),Dr O,Dr O,Dr O,Dr O,Dr O,fun _ _ _ _ _=>Dk O (by exact aH Value.bool (O)),Dr O,Dr O,Dr O,Dr O,Dr O,Dr O,Dr O,Dr O,Dr O,Dr O,Dr O,Dr O,Dr O,Dr O,Dr O,Dr O,av⟩
    intro u w3 jQ _;refine fq O (Cd.eM O ?_);refine aG O (aK O (aR O (tQ ?_)));exact⟨(q+1,A,c,rs),by show N - (q+1)<N - q;omega,⟨O,O,aH (fun m:ah=>Value.slice A (cap m).length c) mj.symm,O,O,O,av⟩,by show q+1<=N;omega,by show rs.length=(cap _).length;rw [mj];exact gV,by show St w0 w3 (aQ _ _ A (cap _).length c rs (cap _)++_);rw [mj];exact hS.aq jQ⟩
   ·have mj:=oI (fun h=>by have:=Ec.2 h.2.1;rw [a2]at this;cases this);refine df O (dL [xP (aD (A4) 1),xS (AR) (N) (cR),xI ((q:Int)),xP (aD (AR) ((q:Int)).toNat),xI (gi (R) ((q:Int))),xI ((r:Int)),xB (decide ((gi (R) ((q:Int)))=((r:Int)))),xB (true),xS (Aa) (N) (N),xI ((q:Int)),xP (aD (Aa) ((q:Int)).toNat),xB (gb (La) ((q:Int))),xB (gb (La) ((q:Int))),xB (false),xU,xU,xU,xU,xU,xU,xU,xU,xU,xU,xU,xU,xU,xU,xU,xB (false)] O (dV O) ?_ ?_)
    ·exact⟨fun _ _ hb _ _=>aS (oo.below hb) O Az,fun _ _ hb _ _=>aZ (oo.below hb) O Az,Dr O,fun _ _ hb _ _=>aB (nw.aq hb).2 O Az,fun _ _ hb _ _=>aW (nw.aq hb) O Az,Dr O,Dr O,fun _ _ _ _ _=>Dk O (by exact aH Value.bool (eD a1)),Dr O,Dr O,fun _ _ hb _ _=>au O (aB (uY.aq hb).2 O Az),fun _ _ hb _ _=>au O (nh (uY.aq hb) O (by omega) O O Az),Dr O,fun _ _ _ _ _=>Dk O (by exact aH Value.bool (a2)),Dr O,Dr O,Dr O,Dr O,Dr O,Dr O,Dr O,Dr O,Dr O,Dr O,Dr O,Dr O,Dr O,Dr O,Dr O,Dr O,av⟩
    intro u w3 jQ _;refine fq O (Cd.eM O ?_);refine aG O (aK O (aR O (tQ ?_)));exact⟨(q+1,A,c,rs),by show N - (q+1)<N - q;omega,⟨O,O,aH (fun m:ah=>Value.slice A (cap m).length c) mj.symm,O,O,O,av⟩,by show q+1<=N;omega,by show rs.length=(cap _).length;rw [mj];exact gV,by show St w0 w3 (aQ _ _ A (cap _).length c rs (cap _)++_);rw [mj];exact hS.aq jQ⟩
   ·have gG:gi R q=(st.length:Int)/\cW n R B q/\(st.length=0\/gi st ((st.length:Int) - 1)∈gl B q):=⟨by omega,Ec.1 a2,.inl (by omega)⟩;refine df O (dL [xP (aD (A4) 1),xS (AR) (N) (cR),xI ((q:Int)),xP (aD (AR) ((q:Int)).toNat),xI (gi (R) ((q:Int))),xI ((r:Int)),xB (decide ((gi (R) ((q:Int)))=((r:Int)))),xB (true),xS (Aa) (N) (N),xI ((q:Int)),xP (aD (Aa) ((q:Int)).toNat),xB (gb (La) ((q:Int))),xB (gb (La) ((q:Int))),xB (true),xI ((r:Int)),xB (decide (((r:Int))=((0:Int)))),xB (true),xU,xU,xU,xU,xU,xU,xU,xU,xU,xU,xU,xB (true),xB (true)] O (dV O) ?_ ?_)
    ·exact⟨fun _ _ hb _ _=>aS (oo.below hb) O Az,fun _ _ hb _ _=>aZ (oo.below hb) O Az,Dr O,fun _ _ hb _ _=>aB (nw.aq hb).2 O Az,fun _ _ hb _ _=>aW (nw.aq hb) O Az,Dr O,Dr O,fun _ _ _ _ _=>Dk O (by exact aH Value.bool (eD a1)),Dr O,Dr O,fun _ _ hb _ _=>au O (aB (uY.aq hb).2 O Az),fun _ _ hb _ _=>au O (nh (uY.aq hb) O (by omega) O O Az),Dr O,fun _ _ _ _ _=>Dk O (by exact aH Value.bool (a2)),Dr O,Dr O,fun _ _ _ _ _=>Dk O (by exact aH Value.bool (eD a3)),Dr O,Dr O,Dr O,Dr O,Dr O,Dr O,Dr O,Dr O,Dr O,Dr O,Dr O,Dr O,Dr O,av⟩
    intro u w3 jQ _;have hS:=hS.aq jQ;refine fq O (Cd.fx O ?_);have xR:=e6;rw [aF gG]at xR;have Dy:F++ ((jk n R B st (q+1)).flatMap fun e=>dY n R B k (st++ [e]))=G++dY n R B k (st++ [(q:Int)]):=by
     rw [xR,List.flatMap_append,<-ig,hG];simp
    have D5:=IA (dY n R B k (st++ [(q:Int)]));have ED:∀x∈st++ [(q:Int)],0<=x/\x< (N:Int):=fun x hx=>by
     rcases gL.1 hx with h | h
     ·exact EC x h
     ·obtain rfl:=eP.1 h;omega
    generalize hH:cap G=H at*;refine ja [6,8] [.ex (.agg #[ak n,.slice AR N cR,.slice AD N cD]),yS (Aa) (N) (N),yS (As) (r) (cs),.pr (fun v w'=>∃A9 c9,v= .slice A9 r c9/\St w0 w' (aw 2 A9 r c9 st::(aQ 24 2 A H.length c rs H++ (a7 A4 n AR N cR AD N cD::aw 2 As r cs st::dX)))),yI ((q:Int)),.pr (fun v w'=>∃A9,v= .slice A9 1 1/\bu w' A9 1 [(q:Int)]),.pr (fun v w'=>∃AZ cZ,v= .slice AZ (r+1) cZ/\St w0 w' (aw 2 AZ (r+1) cZ (st++ [(q:Int)])::(aQ 24 2 A H.length c rs H++ (a7 A4 n AR N cR AD N cD::aw 2 As r cs st::dX)))),yS (A) (H.length) (c),.pr (fun v w'=>∃A' c' rs',v= .slice A' (cap (G++dY n R B k (st++ [(q:Int)]))).length c'/\rs'.length=(cap (G++dY n R B k (st++ [(q:Int)]))).length/\St w0 w' (aQ 24 2 A' (cap (G++dY n R B k (st++ [(q:Int)]))).length c' rs' (cap (G++dY n R B k (st++ [(q:Int)])))++ (a7 A4 n AR N cR AD N cD::aw 2 As r cs st::dX))),.pr (fun v w'=>∃A' c' rs',v= .slice A' (cap (G++dY n R B k (st++ [(q:Int)]))).length c'/\rs'.length=(cap (G++dY n R B k (st++ [(q:Int)]))).length/\St w0 w' (aQ 24 2 A' (cap (G++dY n R B k (st++ [(q:Int)]))).length c' rs' (cap (G++dY n R B k (st++ [(q:Int)])))++ (a7 A4 n AR N cR AD N cD::aw 2 As r cs st::dX)))] (by kernel_rfl) (by kernel_rfl) (ly (ly (ly (cM.2 ⟨Ye.cN (fun v w w' h hb=>by obtain⟨A9,c9,hv,hT⟩:=h;exact⟨A9,c9,hv,hT.aq hb⟩),(ly (cM.2 ⟨Ye.cN (fun v w w' h hb=>by obtain⟨A9,hv,hT⟩:=h;exact⟨A9,hv,hT.aq hb⟩),(cM.2 ⟨Ye.cN (fun v w w' h hb=>by obtain⟨AZ,cZ,hv,hT⟩:=h;exact⟨AZ,cZ,hv,hT.aq hb⟩),(ly (cM.2 ⟨Ye.cN (fun v w w' h hb=>by obtain⟨A',c',rs',hv,dZ,hT⟩:=h;exact⟨A',c',rs',hv,dZ,hT.aq hb⟩),(cM.2 ⟨Ye.cN (fun v w w' h hb=>by obtain⟨A',c',rs',hv,dZ,hT⟩:=h;exact⟨A',c',rs',hv,dZ,hT.aq hb⟩),(fun _ h=>by cases h)⟩)⟩))⟩)⟩))⟩)))) ?_ ?_
    ·refine⟨?_,bT O,bT O,?_,bT O,?_,?_,?_,?_,?_,av⟩
     ·intro e1 w1 cc dF bU dO hp aX hq;show ao _ _ _ _ _ _ _;have hX:Rd w1 A4 3 (fun q=> [Value.int .i64 (n:Int),.slice AR N cR,.slice AD N cD].getD q undef):=by { have bU:=lQ bU (b:=1) (by kernel_rfl);rcases(show cc=0\/cc=1 by omega)with h | h; { exact Rd.below (xk hS) (dO h) }; { subst h;obtain⟨AZ,cZ,_,hT⟩:=hq 6 _ _ (by kernel_rfl) (by kernel_rfl) (by kernel_rfl) rfl rfl (by kernel_rfl);exact xk hT.tail } }
      refine bK 2 hX O O O (ao.n (eO O (by exact O)))
     ·refine cP fun e1 w1 hb hp aX hq=>?_
      refine aI (EY As r cs st _ (D2 (hS.aq hb)) (by omega)) O ?_;rintro _ w9 ⟨A9,c9,rfl,nI⟩;exact ao.n (eX.dn O nI.below ⟨A9,c9,O,(hS.aq hb).call nI⟩)
     ·intro e1 w1 cc dF bU dO hp aX hq;show ao _ _ _ _ _ _ _;exact eE (St.refl _) O O O fun A9 w9 nI=>ao.n (eX.dn O nI.below ⟨A9,O,nI.bo 0 O⟩)
     ·refine jc fun e1 w1 hb hp aX hq=>?_
      obtain⟨A8,c8,Di,hT⟩:=(hp 3 _ _ (by kernel_rfl) rfl rfl (by kernel_rfl));obtain⟨A9,Dj,ra⟩:=(hp 5 _ _ (by kernel_rfl) rfl rfl (by kernel_rfl));refine fj 0 hT O ra (by exact Di) (by exact Dj) O ?_;intro AZ cZ wZ hZ;exact ao.n (fg.dn O ⟨AZ,cZ,O,hZ⟩)
     ·intro e1 w1 cc dF bU dO hp aX hq;show ao _ _ _ _ _ _ _;refine kA O (by exact aX 9 _ O (by kernel_rfl)) O (ao.n (eO O (by exact O)))
     ·refine pY 1 fun e1 w1 hp aX hq=>?_
      have eT:=hp 6 _ _ (by kernel_rfl) O O (by kernel_rfl);obtain⟨AZ,cZ,Dl,hT⟩:=(hp 6 _ _ (by kernel_rfl) rfl rfl (by kernel_rfl));refine WD (ih (r+1) (st++ [(q:Int)]) AZ cZ (a7 A4 n AR N cR AD N cD::aw 2 As r cs st::dX) _ A c rs H (by omega) (by rw [eY,ax];rfl) ED (oY _ (oY _ zE)) gV (by omega) hT) O (by exact aH (fun v=> [Value.agg #[ak n,.slice AR N cR,.slice AD N cD],.slice Aa N N,v,.slice A H.length c]) Dl) O ?_;rintro _ w9 ⟨A',c',rs',rfl,dZ,ic⟩;rw [D5]at dZ ic|-;exact ao.n (fg.dn O ⟨A',c',rs',O,dZ,ic⟩)
     ·refine dP 2 fun e1 w1 hp aX hq=>?_
      have eT:=hp 8 _ _ (by kernel_rfl) O O (by kernel_rfl);obtain⟨A',c',rs',Dm,dZ,hT⟩:=(hp 8 _ _ (by kernel_rfl) rfl rfl (by kernel_rfl));refine kA O (by exact Dm) O (ao.n ?_);exact eX.dn O (Below.refl _ _) ⟨A',c',rs',O,dZ,hT⟩
    intro u4 w4 _ EG _ _;obtain⟨A',c',rs',yb,dZ,hT⟩:=EG 9 _ rfl (by kernel_rfl);rw [<-Dy]at yb dZ hT;refine Fq (F:=[(1,.slice Aa N N),(2,.slice As r cs),(3,.slice A' (cap (F++ ((jk n R B st (q+1)).flatMap fun e=>dY n R B k (st++ [e])))).length c'),(4,.pointer A4),(9,ak r),(10,ak q)]) ⟨O,O,yb,O,O,O,av⟩ (gZ O (aK O (aR O (tQ ?_))));exact⟨(q+1,A',c',rs'),by show N - (q+1)<N - q;omega,(WM O),by show q+1<=N;omega,dZ,hT⟩
   ·refine df O ?_;refine dL [xP (aD (A4) 1),xS (AR) (N) (cR),xI ((q:Int)),xP (aD (AR) ((q:Int)).toNat),xI (gi (R) ((q:Int))),xI ((r:Int)),xB (decide ((gi (R) ((q:Int)))=((r:Int)))),xB (true),xS (Aa) (N) (N),xI ((q:Int)),xP (aD (Aa) ((q:Int)).toNat),xB (gb (La) ((q:Int))),xB (gb (La) ((q:Int))),xB (true),xI ((r:Int)),xB (decide (((r:Int))=((0:Int)))),xB (false),xP (aD (A4) 2),xS (AD) (N) (cD),xI ((q:Int)),xP (aD (AD) ((q:Int)).toNat),xS ((rg (BJ) ((q:Int))).a) ((rg (BJ) ((q:Int))).n) ((rg (BJ) ((q:Int))).c),xS (As) (r) (cs),xI ((r:Int)),xI (((r:Int)) - ((1:Int))),xP (aD (As) (((r:Int)) - ((1:Int))).toNat),xI (gi (st) (((r:Int)) - ((1:Int)))),xB (decide (gi st ((r:Int) - 1)∈gl B q)),xB (decide (gi st ((r:Int) - 1)∈gl B q)),xB (decide (gi st ((r:Int) - 1)∈gl B q))] O (dV O) ?_ ?_
    ·refine⟨fun _ _ hb _ _=>aS (oo.below hb) O Az,fun _ _ hb _ _=>aZ (oo.below hb) O Az,Dr O,fun _ _ hb _ _=>aB (nw.aq hb).2 O Az,fun _ _ hb _ _=>aW (nw.aq hb) O Az,Dr O,Dr O,fun _ _ _ _ _=>Dk O (by exact aH Value.bool (eD a1)),Dr O,Dr O,fun _ _ hb _ _=>au O (aB (uY.aq hb).2 O Az),fun _ _ hb _ _=>au O (nh (uY.aq hb) O (by omega) O O Az),Dr O,fun _ _ _ _ _=>Dk O (by exact aH Value.bool (a2)),Dr O,Dr O,fun _ _ _ _ _=>Dk O (by exact aH Value.bool (cS a3)),fun _ _ hb _ _=>au O (aS (oo.below hb) O Az),fun _ _ hb _ _=>au O (aZ (oo.below hb) O Az),Dr O,fun _ _ hb _ _=>au O (aB (qX.top.aq hb).2 O Az),fun _ _ hb _ _=>au O (ck (qX.top.aq hb) O Az),Dr O,Dr O,fun _ _ _ _ _=>au O (dA O Az),fun _ _ hb _ _=>au O (aB (kl.aq hb).2 O Az),fun _ _ hb _ _=>au O (aW (kl.aq hb) O Az),?_,Dr O,Dr O,av⟩
     ·intro e1 w1 hb hp aX;refine au O (aI (uk _ _ _ _ _ _ (Jw.aq hb) (by omega)) O ?_);rintro _ w2 ⟨rfl,ax⟩;subst ax;refine ao.n (d0 (by exact O))
    intro u w3 jQ _;have hS:=hS.aq jQ;refine fq O (aN _ O (fun h5=>?_) (fun h5=>?_))
    ·have gG:gi R q=(st.length:Int)/\cW n R B q/\(st.length=0\/gi st ((st.length:Int) - 1)∈gl B q):=⟨by omega,Ec.1 a2,.inr (by rw [ax];exact h5)⟩;have xR:=e6;rw [aF gG]at xR;have Dy:F++ ((jk n R B st (q+1)).flatMap fun e=>dY n R B k (st++ [e]))=G++dY n R B k (st++ [(q:Int)]):=by
      rw [xR,List.flatMap_append,<-ig,hG];simp
     have D5:=IA (dY n R B k (st++ [(q:Int)]));have ED:∀x∈st++ [(q:Int)],0<=x/\x< (N:Int):=fun x hx=>by
      rcases gL.1 hx with h | h
      ·exact EC x h
      ·obtain rfl:=eP.1 h;omega
     generalize hH:cap G=H at*;refine ja [6,8] [.ex (.agg #[ak n,.slice AR N cR,.slice AD N cD]),yS (Aa) (N) (N),yS (As) (r) (cs),.pr (fun v w'=>∃A9 c9,v= .slice A9 r c9/\St w0 w' (aw 2 A9 r c9 st::(aQ 24 2 A H.length c rs H++ (a7 A4 n AR N cR AD N cD::aw 2 As r cs st::dX)))),yI ((q:Int)),.pr (fun v w'=>∃A9,v= .slice A9 1 1/\bu w' A9 1 [(q:Int)]),.pr (fun v w'=>∃AZ cZ,v= .slice AZ (r+1) cZ/\St w0 w' (aw 2 AZ (r+1) cZ (st++ [(q:Int)])::(aQ 24 2 A H.length c rs H++ (a7 A4 n AR N cR AD N cD::aw 2 As r cs st::dX)))),yS (A) (H.length) (c),.pr (fun v w'=>∃A' c' rs',v= .slice A' (cap (G++dY n R B k (st++ [(q:Int)]))).length c'/\rs'.length=(cap (G++dY n R B k (st++ [(q:Int)]))).length/\St w0 w' (aQ 24 2 A' (cap (G++dY n R B k (st++ [(q:Int)]))).length c' rs' (cap (G++dY n R B k (st++ [(q:Int)])))++ (a7 A4 n AR N cR AD N cD::aw 2 As r cs st::dX))),.pr (fun v w'=>∃A' c' rs',v= .slice A' (cap (G++dY n R B k (st++ [(q:Int)]))).length c'/\rs'.length=(cap (G++dY n R B k (st++ [(q:Int)]))).length/\St w0 w' (aQ 24 2 A' (cap (G++dY n R B k (st++ [(q:Int)]))).length c' rs' (cap (G++dY n R B k (st++ [(q:Int)])))++ (a7 A4 n AR N cR AD N cD::aw 2 As r cs st::dX)))] (by kernel_rfl) (by kernel_rfl) (ly (ly (ly (cM.2 ⟨Ye.cN (fun v w w' h hb=>by obtain⟨A9,c9,hv,hT⟩:=h;exact⟨A9,c9,hv,hT.aq hb⟩),(ly (cM.2 ⟨Ye.cN (fun v w w' h hb=>by obtain⟨A9,hv,hT⟩:=h;exact⟨A9,hv,hT.aq hb⟩),(cM.2 ⟨Ye.cN (fun v w w' h hb=>by obtain⟨AZ,cZ,hv,hT⟩:=h;exact⟨AZ,cZ,hv,hT.aq hb⟩),(ly (cM.2 ⟨Ye.cN (fun v w w' h hb=>by obtain⟨A',c',rs',hv,dZ,hT⟩:=h;exact⟨A',c',rs',hv,dZ,hT.aq hb⟩),(cM.2 ⟨Ye.cN (fun v w w' h hb=>by obtain⟨A',c',rs',hv,dZ,hT⟩:=h;exact⟨A',c',rs',hv,dZ,hT.aq hb⟩),(fun _ h=>by cases h)⟩)⟩))⟩)⟩))⟩)))) ?_ ?_
     ·refine⟨?_,bT O,bT O,?_,bT O,?_,?_,?_,?_,?_,av⟩
      ·intro e1 w1 cc dF bU dO hp aX hq;show ao _ _ _ _ _ _ _;have hX:Rd w1 A4 3 (fun q=> [Value.int .i64 (n:Int),.slice AR N cR,.slice AD N cD].getD q undef):=by { have bU:=lQ bU (b:=1) (by kernel_rfl);rcases(show cc=0\/cc=1 by omega)with h | h; { exact Rd.below (xk hS) (dO h) }; { subst h;obtain⟨AZ,cZ,_,hT⟩:=hq 6 _ _ (by kernel_rfl) (by kernel_rfl) (by kernel_rfl) rfl rfl (by kernel_rfl);exact xk hT.tail } }
       refine bK 2 hX O O O (ao.n (eO O (by exact O)))
      ·refine cP fun e1 w1 hb hp aX hq=>?_
       refine aI (EY As r cs st _ (D2 (hS.aq hb)) (by omega)) O ?_;rintro _ w9 ⟨A9,c9,rfl,nI⟩;exact ao.n (eX.dn O nI.below ⟨A9,c9,O,(hS.aq hb).call nI⟩)
      ·intro e1 w1 cc dF bU dO hp aX hq;show ao _ _ _ _ _ _ _;exact eE (St.refl _) O O O fun A9 w9 nI=>ao.n (eX.dn O nI.below ⟨A9,O,nI.bo 0 O⟩)
      ·refine jc fun e1 w1 hb hp aX hq=>?_
       obtain⟨A8,c8,Di,hT⟩:=(hp 3 _ _ (by kernel_rfl) rfl rfl (by kernel_rfl));obtain⟨A9,Dj,ra⟩:=(hp 5 _ _ (by kernel_rfl) rfl rfl (by kernel_rfl));refine fj 0 hT O ra (by exact Di) (by exact Dj) O ?_;intro AZ cZ wZ hZ;exact ao.n (fg.dn O ⟨AZ,cZ,O,hZ⟩)
      ·intro e1 w1 cc dF bU dO hp aX hq;show ao _ _ _ _ _ _ _;refine kA O (by exact aX 9 _ O (by kernel_rfl)) O (ao.n (eO O (by exact O)))
      ·refine pY 1 fun e1 w1 hp aX hq=>?_
       have eT:=hp 6 _ _ (by kernel_rfl) O O (by kernel_rfl);obtain⟨AZ,cZ,Dl,hT⟩:=(hp 6 _ _ (by kernel_rfl) rfl rfl (by kernel_rfl));refine WD (ih (r+1) (st++ [(q:Int)]) AZ cZ (a7 A4 n AR N cR AD N cD::aw 2 As r cs st::dX) _ A c rs H (by omega) (by rw [eY,ax];rfl) ED (oY _ (oY _ zE)) gV (by omega) hT) O (by exact aH (fun v=> [Value.agg #[ak n,.slice AR N cR,.slice AD N cD],.slice Aa N N,v,.slice A H.length c]) Dl) O ?_;rintro _ w9 ⟨A',c',rs',rfl,dZ,ic⟩;rw [D5]at dZ ic|-;exact ao.n (fg.dn O ⟨A',c',rs',O,dZ,ic⟩)
      ·refine dP 2 fun e1 w1 hp aX hq=>?_
       have eT:=hp 8 _ _ (by kernel_rfl) O O (by kernel_rfl);obtain⟨A',c',rs',Dm,dZ,hT⟩:=(hp 8 _ _ (by kernel_rfl) rfl rfl (by kernel_rfl));refine kA O (by exact Dm) O (ao.n ?_);exact eX.dn O (Below.refl _ _) ⟨A',c',rs',O,dZ,hT⟩
     intro u4 w4 _ EG _ _;obtain⟨A',c',rs',yb,dZ,hT⟩:=EG 9 _ rfl (by kernel_rfl);rw [<-Dy]at yb dZ hT;refine Fq (F:=[(1,.slice Aa N N),(2,.slice As r cs),(3,.slice A' (cap (F++ ((jk n R B st (q+1)).flatMap fun e=>dY n R B k (st++ [e])))).length c'),(4,.pointer A4),(9,ak r),(10,ak q)]) ⟨O,O,yb,O,O,O,av⟩ (gZ O (aK O (aR O (tQ ?_))));exact⟨(q+1,A',c',rs'),by show N - (q+1)<N - q;omega,(WM O),by show q+1<=N;omega,dZ,hT⟩
    ·have mj:=oI (fun h=>by rcases h.2.2 with h6 | h6; { omega }; { rw [ax]at h6;exact h5 h6 });refine aG O (aK O (aR O (tQ ?_)));exact⟨(q+1,A,c,rs),by show N - (q+1)<N - q;omega,⟨O,O,aH (fun m:ah=>Value.slice A (cap m).length c) mj.symm,O,O,O,av⟩,by show q+1<=N;omega,by show rs.length=(cap _).length;rw [mj];exact gV,by show St w0 w3 (aQ _ _ A (cap _).length c rs (cap _)++_);rw [mj];exact hS⟩
  ·have oE:q=N:=by omega
   subst oE;have lK:F++dY n R B (k+1) st=G:=by rw [<-hG,dY,hN]
   refine bk O (bm (fA O ?_));refine eW O ?_;rw [lK];exact⟨A,c,rs,O,gV,hS.sub ((gB _).append (((gB dX).cons _).cons _))⟩
theorem St.merge{w0 w:aa}{ks ks':List Ck}(h:St w0 w ks)(h':St w0 w ks')(hk:∀k∈ks,eg k.vs=false)(fF:∀k∈ks',eg k.vs=false)(he:∀k∈ks,∀k'∈ks',k.e≠k'.e):St w0 w (ks++ks'):=by
 refine⟨h.below,fun k hm=>?_,?_⟩
 ·rcases gL.1 hm with hm | hm
  ·exact h.own k hm
  exact h'.own k hm
 rw [List.filterMap_append,List.nodup_append];refine⟨h.apart,h'.apart,fun a ha b hb=>?_⟩;rintro rfl;obtain⟨k,hm,Eg⟩:=List.mem_filterMap.1 ha;obtain⟨k',jf,tV⟩:=List.mem_filterMap.1 hb;have one:∀ {q:Ck},uJ w0.heap.size w q->q.fQ=some a->∃cur,w.heap[a]?=some (.cells cur q.e (0,0)):=fun {q} ho hq=>by
  obtain⟨_,_,_,⟨h1,_⟩ | ⟨g,o,cur,h1,_,h2,_⟩⟩:=ho
  ·unfold Ck.fQ at hq;rw [h1]at hq;cases hq
  unfold Ck.fQ at hq;rw [h1]at hq;obtain rfl:g=a:=bV hq;exact⟨cur,h2⟩
 obtain⟨c1,e1⟩:=one ((h.own k hm).FK (hk k hm)) Eg;obtain⟨c2,e2⟩:=one ((h'.own k' jf).FK (fF k' jf)) tV;rw [e1]at e2;injection e2 with e2
 injection e2 with _ e2 _
 exact he k hm k' jf e2
theorem eq_4{a b c d b' c' d':ad}(h1:b=b')(h2:c=c')(h3:d=d'):[a,b,c,d]=[a,b',c',d']:=by rw [h1,h2,h3]
theorem Su(n:Nat)(A D:aj)(cA cD:Nat)(R:ai)(rs:List aL)(B:ah)(w:aa)(hR:bu w A R.length R)(hB:bq w D B.length rs B)(hP:dm n R B):
 aJ prog 110 [.agg #[ak n,.slice A R.length cA,.slice D B.length cD]] w (fun v w'=>∃A' c' rs',v= .tuple #[.slice A' (cap (aA n R B)).length c',.bool (decide ((aA n R B).length<=400))]/\rs'.length=(cap (aA n R B)).length/\St w w' (aQ 24 2 A' (cap (aA n R B)).length c' rs' (cap (aA n R B))++ [])):=by
 have hn:=hP.n1;have hle:=hP.len;have dv:=NN (n:=n) (R:=R) (B:=B) (by omega);have D6:=zg (l:=aA n R B);obtain⟨N,hN⟩:∃N,R.length=N:=⟨_,rfl⟩;have kH:=fun(w:aa) hR hB=>Sm n A D cA cD R rs B w hR hB hP
 have hex:=fun(w:aa) La hR hB Aa qY=>Sr w n A D cA cD R rs B N hN hR hB hP Aa La qY
 rw [hle]at hB kH;rw [hN]at hR hB kH;rw [hle,hN];refine br func110 O ntmps110 O (jw O) (a8 O (ga (St.refl w) O O ?_));intro A1 wB ay;have h1:Rd wB A1 3 (fun j=> [Value.int .i64 (n:Int),.slice A N cA,.slice D N cD].getD j undef):=ay.rd 0 O;have hR:=ay.da hR;have hB:=ay.bO hB;have ay:=ay.none;refine aE O ?_;refine ja [5] [.ex (.agg #[ak n,.slice A N cA,.slice D N cD]),.ex (.agg #[ak n,.slice A N cA,.slice D N cD]),.pr (fun v w'=>∃A7 L,v= .slice A7 N N/\na N L (fun x=>cW n R B x)/\St wB w' [eC 4 A7 N N L]),.pr (fun v w'=>∃A8,v= .slice A8 0 0/\St wB w' [aw 2 A8 0 0 []]),.pr (fun v w'=>∃A9,v= .slice A9 0 0/\St wB w' [bE 24 A9 0 0 []]),.pr (fun v w'=>∃A' c' rs',v= .slice A' (cap (aA n R B)).length c'/\rs'.length=(cap (aA n R B)).length/\St wB w' (aQ 24 2 A' (cap (aA n R B)).length c' rs' (cap (aA n R B))++ [])),.pr (fun v w'=>∃A' c' rs',v= .slice A' (cap (aA n R B)).length c'/\rs'.length=(cap (aA n R B)).length/\St wB w' (aQ 24 2 A' (cap (aA n R B)).length c' rs' (cap (aA n R B))++ []))] (by kernel_rfl) (by kernel_rfl) (ly (ly (cM.2 ⟨Ye.cN (fun v w w' h hb=>by obtain⟨A7,L,hv,hL,hT⟩:=h;exact⟨A7,L,hv,hL,hT.aq hb⟩),(cM.2 ⟨Ye.cN (fun v w w' h hb=>by obtain⟨A8,hv,hT⟩:=h;exact⟨A8,hv,hT.aq hb⟩),(cM.2 ⟨Ye.cN (fun v w w' h hb=>by obtain⟨A9,hv,hT⟩:=h;exact⟨A9,hv,hT.aq hb⟩),(cM.2 ⟨Ye.cN (fun v w w' h hb=>by obtain⟨A',c',rs',hv,dZ,hT⟩:=h;exact⟨A',c',rs',hv,dZ,hT.aq hb⟩),(cM.2 ⟨Ye.cN (fun v w w' h hb=>by obtain⟨A',c',rs',hv,dZ,hT⟩:=h;exact⟨A',c',rs',hv,dZ,hT.aq hb⟩),(fun _ h=>by cases h)⟩)⟩)⟩)⟩)⟩))) ?_ ?_
 ·refine⟨cP fun _ _ hb _ _ _=>bK 2 (Rd.below h1 hb) O O O (bB O O),cP fun _ _ hb _ _ _=>bK 2 (Rd.below h1 hb) O O O (bB O O),?_,?_,?_,?_,?_,av⟩
  ·refine cP fun e1 w1 hb hp aX hq=>?_
   refine aI (kH _ (hR.aq hb) (hB.aq hb)) O ?_;rintro _ w9 ⟨A7,L,rfl,hL,ax⟩;refine ao.n ?_;exact eX.dn O ax.below ⟨A7,L,O,hL,by have:=((St.refl wB).aq hb).call ax;rwa [fO]at this⟩
  ·refine cP fun e1 w1 hb hp aX hq=>?_
   refine iB (St.refl _) O fun A8 w9 ax=>ao.n ?_;exact eX.dn O ax.below ⟨A8,O,by have:=((St.refl wB).aq hb).call ax;rwa [fO]at this⟩
  ·refine cP fun e1 w1 hb hp aX hq=>?_
   refine iB (St.refl _) O fun A9 w9 ax=>ao.n ?_;exact eX.dn O ax.below ⟨A9,O,by have:=((St.refl wB).aq hb).call ax;rwa [fO]at this⟩
  ·refine jc fun e1 w1 hb hp aX hq=>?_
   obtain⟨A7,L,h7,hL,fL⟩:=(hp 2 _ _ (by kernel_rfl) rfl rfl (by kernel_rfl));obtain⟨A8,h8,sv⟩:=(hp 3 _ _ (by kernel_rfl) rfl rfl (by kernel_rfl));obtain⟨A9,h9,ra⟩:=(hp 4 _ _ (by kernel_rfl) rfl rfl (by kernel_rfl));have O9:=ra.merge fL (fun k hk=>by obtain rfl:=eP.1 hk;rfl) (fun k hk=>by obtain rfl:=eP.1 hk;exact yn _) (fun k hk k' fF=>by obtain rfl:=eP.1 hk;obtain rfl:=eP.1 fF;exact(by decide:¬(24=4)));have wX:=sv.merge O9 (fun k hk=>by obtain rfl:=eP.1 hk;rfl) (fun k hk=>by rcases kT.1 hk with rfl | hk; { rfl }; { obtain rfl:=eP.1 hk;exact yn _ }) (fun k hk k' fF=>by obtain rfl:=eP.1 hk;rcases kT.1 fF with rfl | fF; { exact(by decide:¬(2=24)) }; { obtain rfl:=eP.1 fF;exact(by decide:¬(2=4)) });refine WD (hex wB L hR hB A7 hL n 0 [] A8 0 [eC 4 A7 N N L] _ A9 0 [] [] (by omega) rfl (fun x hx=>by cases hx) (eP.2 rfl) rfl (bn _) wX) rfl (by exact eq_4 h7 h8 h9) rfl ?_;rintro _ w9 ⟨A',c',rs',rfl,dZ,ic⟩;rw [List.nil_append,dv]at dZ ic|-;exact ao.n (fg.dn O ⟨A',c',rs',O,dZ,ic.sub ((gB _).append (List.nil_sublist _))⟩)
  refine dP 1 fun e1 w1 hp aX hq=>?_
  have eT:=hp 5 _ _ (by kernel_rfl) O O (by kernel_rfl);obtain⟨A',c',rs',iq,dZ,hT⟩:=(hp 5 _ _ (by kernel_rfl) rfl rfl (by kernel_rfl));refine kA O (by exact iq) O (ao.n ?_);exact eX.dn O (Below.refl _ _) ⟨A',c',rs',O,dZ,hT⟩
 intro u w2 _ hu _ _;obtain⟨A',c',rs',hv,dZ,hT⟩:=hu 6 _ rfl (by kernel_rfl);refine Fq (F:=[(4,.slice A' (cap (aA n R B)).length c')]) ⟨hv,av⟩ (gZ O (ba O O (bI O ?_)));refine Uj O O ?_;refine⟨A',c',rs',?_,dZ,(by rw [fO]at hT;exact ay.none.call hT)⟩;show Value.tuple #[_,Value.bool (decide _)]=_;rw [show decide ((((cap (aA n R B)).length:Nat):Int)<=400)=decide ((aA n R B).length<=400) from kg.2 (by omega)]
theorem Og{L:List Bool}{x:Nat}(h:x<L.length):gb L x=L[x]:=by
 unfold gb;rw [fW,cz,eS h,Option.getD_some]
theorem GN:∀(L:List Bool) (x:Nat) (h:x<L.length),L[x]=false->(L.set x true).count false+1=L.count false
 | b::r,0,_,e=>by
  have e:b=false:=e;subst e;simp [List.set_cons_zero]
 | b::r,x+1,h,e=>by
  have h:x+1<r.length+1:=h;have ih:=GN r x (by omega) e;simp only [List.set_cons_succ,lB];omega
theorem Uw(L:List Bool)(x:Nat)(h:x<L.length)(e:L[x]=true):L.set x true=L:=by
 apply ia (by simp);intro i h1 h2;rw [List.getElem_set]
 split
 ·rename_i h3;subst h3;exact e.symm
 rfl
theorem Sz(n:Int)(A D:aj)(cA N m cD:Nat)(Af:aj)(nf cf:Nat)(rs:List aL)(fl:ah)(w:aa)(hF:bq w Af nf rs fl)(hN:N<=500)(hr:∀l∈fl,l.length<=1000/\∀x∈l,0<=x/\x< (N:Int))(xO:nf<=100000):
 aJ prog 111 [.agg #[ak n,.slice A N cA,.slice D m cD],.slice Af nf cf] w (fun v w'=>∃b:Bool,v= .bool b/\(b=true↔∀x:Int,0<=x->x< (N:Int)->∃l∈fl,x∈l)/\St w w' []):=by
 have fB:=hF.len;refine br func111 O ntmps111 O (cw O) (a8 O (ga (St.refl w) O O ?_));intro A1 w1 ay;have h1:Rd w1 A1 3 (fun j=> [Value.int .i64 n,.slice A N cA,.slice D m cD].getD j undef):=ay.rd 0 O;refine ar O (aS h1 O (aZ h1 O (ba O O (tj (v:=false) N ay O O (by omega) ?_))));intro A5 w2 aM;have aM:St w w2 [eC 4 A5 N N (gk (iW N) (fl.take 0).flatten),a7 A1 n A N cA D m cD]:=aM;refine aE O ?_;refine Cd.loop (α:=Nat×Nat) (fun z=> [(1,.slice Af nf cf),(2,.pointer A1),(5,.slice A5 N N),(6,ak (z.2:Int)),(7,ak (z.1:Int))]) (fun z w'=>z.1<=nf/\z.2+ (gk (iW N) (fl.take z.1).flatten).count false=N/\St w w' [eC 4 A5 N N (gk (iW N) (fl.take z.1).flatten),a7 A1 n A N cA D m cD]) (fun z=>nf - z.1) (0,0) (WM O) ⟨bn _,by simp [gk,iW],aM⟩ ?_;clear aM ay h1;rintro⟨i,k⟩ e w3 ⟨hi,hk,hS⟩;dsimp only at hi hk hS|-;refine a8 O (ba O O (aE O ?_));refine aN _ O (fun h2=>?_) (fun h2=>?_)
 ·have tS:i<fl.length:=by omega
  have gS:gl fl i∈fl:=by rw [cX tS];exact dU _
  have gj:=hr _ gS;have fp:=((hS.bO hF).at_ (i:=(i:Int)) (by omega) (by omega)).1;refine df O ?_;refine Cd.loop (α:=Nat×Nat) (fun z=> [(1,.slice Af nf cf),(2,.pointer A1),(5,.slice A5 N N),(6,ak (z.2:Int)),(7,ak i),(8,ak (z.1:Int))]) (fun z w'=>z.1<=(rg rs i).n/\z.2+ (gk (iW N) ((fl.take i).flatten++ (gl fl i).take z.1)).count false=N/\St w w' [eC 4 A5 N N (gk (iW N) ((fl.take i).flatten++ (gl fl i).take z.1)),a7 A1 n A N cA D m cD]) (fun z=> (rg rs i).n - z.1) (0,k) (WM O) ⟨bn _,by rw [List.take_zero,fO];exact hk,by rw [List.take_zero,fO];exact hS⟩ ?_;clear hS hk;rintro⟨j,k⟩ e w4 ⟨hj,hk,hS⟩;dsimp only at hj hk hS|-;have hM:=hS.bO hF;have bW:=hM.at_ (i:=(i:Int)) (by omega) (by omega);have xW:=Fp N ((fl.take i).flatten++ (gl fl i).take j);refine a8 O (aB hM.top.2 O (ck hM.top O ?_));refine ba O O (aE O ?_);refine aN _ O (fun h3=>?_) (fun h3=>?_)
  ·have je:j< (gl fl i).length:=by omega
   have hx:=gj.2 _ (gi_in je);obtain⟨x,ui⟩:∃x:Nat,gi (gl fl i) j=x:=⟨(gi (gl fl i) j).toNat,by omega⟩;have e6:gk (iW N) ((fl.take i).flatten++ (gl fl i).take (j+1))=(gk (iW N) ((fl.take i).flatten++ (gl fl i).take j)).set x true:=by
    rw [BQ je,<-ig,Kz,ui,fW]
   rw [ui]at hx;generalize gk (iW N) ((fl.take i).flatten++ (gl fl i).take j)=L at*;have P5:=Og (L:=L) (x:=x) (by omega);have lJ:=GN L x (by omega);have x4:=Uw L x (by omega);rw [<-P5]at lJ x4;refine aG O (aB hM.top.2 O (ck hM.top O (ar O (aB bW.2 O (aW bW O ?_)))));rw [ui];refine aB (hS.gX 0 O).2 O (nh (hS.gX 0 O) O (by omega) O O ?_);generalize hbb:gb L x=bb at*;cases bb with
   | false => --dup 2
    have lJ:=lJ O
    first | refine dk rfl rfl ?_ | refine eF rfl rfl ?_
    refine aE O (Cd.fx O (aG O (aB hM.top.2 O (ck hM.top O (ar O (aB bW.2 O (aW bW O ?_)))))));rw [ui];refine aB (hS.gX 0 O).2 O (pQ 0 hS O O O (by omega) ?_);intro w5 bh;rw [fW]at bh;refine ar O (aK O (ar O (aK O (aR O (tQ ?_)))));exact⟨(j+1,k+1),by show(rg rs i).n - (j+1)< (rg rs i).n - j;omega,(WM O),by show j+1<=_;omega,by show k+1+_=N;rw [e6];omega,by show St w w5 [eC _ A5 N N (gk _ _),_];rw [e6];exact bh⟩
   | true=>
    have x4:=x4 O
    first | refine dk rfl rfl ?_ | refine eF rfl rfl ?_
    refine aE O (Cd.eM O ?_);refine aG O (aK O (aR O (tQ ?_)));exact⟨(j+1,k),by show(rg rs i).n - (j+1)< (rg rs i).n - j;omega,(WM O),by show j+1<=_;omega,by show k+_=N;rw [e6,x4];exact hk,by show St w w4 [eC _ A5 N N (gk _ _),_];rw [e6,x4];exact hS⟩
  ·have vn:gk (iW N) ((fl.take i).flatten++ (gl fl i).take j)=gk (iW N) (fl.take (i+1)).flatten:=by
    rw [show(gl fl i).take j=gl fl i from lD (by omega),oZ tS,List.flatten_append,<-cX tS];simp
   rw [vn]at hk hS;refine bk O (bm (ct O (aK O (aR O (tQ ?_)))));exact⟨(i+1,k),by show nf - (i+1)<nf - i;omega,(WM O),by show i+1<=nf;omega,hk,hS⟩
 ·have de:i=fl.length:=by omega
  rw [de,List.take_length]at hS hk;have Ep:=Kq (m:=N) (F:=fl) (fun l hl=> (hr l hl).2);have h1:Rd w3 A1 3 (fun j=> [Value.int .i64 n,.slice A N cA,.slice D m cD].getD j undef):=hS.rd 1 O;refine bk O (bm (ct O ?_));refine aS h1 O (aZ h1 O ?_);refine ba O O (bI O ?_);refine cH O ⟨_,O,?_,hS.none⟩;rw [<-Ep,<-List.count_eq_zero,jL];omega
def oh(a b:ai)(i:Nat):Nat:=((List.range i).filter fun k:Nat=>decide (gi a k≠gi b k)).length
theorem NF(a b:ai)(i:Nat):oh a b (i+1)=if gi a i≠gi b i then oh a b i+1 else oh a b i:=by
 unfold oh;rw [l4,oW,eY]
 by_cases c:gi a i≠gi b i
 ·rw [aF c];simp [c]
 rw [aC c];simp [c]
theorem ND(a b:ai)(i:Nat):oh a b i<=i:=by
 refine jb (mX _ _) ?_;rw [pO];exact dh _
theorem Sp(A A2:aj)(n c m c2:Nat)(a b:ai)(w:aa)(hA:bu w A n a)(hB:bu w A2 m b)(hm:m=n)(hn:n<=1000):
 aJ prog 231 [.slice A n c,.slice A2 m c2] w (fun v w'=>v=ak ((oh a b n:Nat):Int)/\St w w' []):=by
 have ha:=hA.1;have hb:=hB.1;refine br func231 O ntmps231 O (cw O) (bX O ?_);refine Cd.loop (α:=Nat) (fun i=> [(0,.slice A n c),(1,.slice A2 m c2),(5,ak ((oh a b i:Nat):Int)),(6,ak i)]) (fun i w'=>i<=n/\St w w' []) (fun i=>n - i) 0 (WM O) ⟨bn _,St.refl w⟩ ?_;rintro i e w2 ⟨hi,hS⟩;have z6:=ND a b i;have jR:=NF a b i;have HL:=hS.da hA;have qX:=hS.da hB;refine a8 O (ba O O (aE O ?_));refine aN _ O (fun h2=>?_) (fun h2=>?_)
 ·refine df O (dL [xS (A) (n) (c),xI ((i:Int)),xP (aD (A) ((i:Int)).toNat),xI (gi (a) ((i:Int))),xS (A2) (m) (c2),xI ((i:Int)),xP (aD (A2) ((i:Int)).toNat),xI (gi (b) ((i:Int))),xB (decide (¬(gi (a) ((i:Int)))=(gi (b) ((i:Int)))))] O (dV O) ?_ ?_)
  ·exact⟨Dr O,Dr O,fun _ _ hb _ _=>aB (HL.aq hb).2 O Az,fun _ _ hb _ _=>aW (HL.aq hb) O Az,Dr O,Dr O,fun _ _ hb _ _=>aB (qX.aq hb).2 O Az,fun _ _ hb _ _=>aW (qX.aq hb) O Az,Dr O,av⟩
  intro u w3 jQ _;have aU:=hS.aq jQ;refine fq O (aN _ O (fun h3=>?_) (fun h3=>?_))
  ·rw [aF h3]at jR;refine aG O (aK O (ar O (aK O (aR O (tQ ?_)))));exact⟨i+1,by show n - (i+1)<n - i;omega,⟨O,O,aH (fun m:Nat=>Value.int .i64 (m:Int)) jR.symm,O,av⟩,by omega,aU⟩
  rw [aC h3]at jR;refine aG O (aK O (aR O (tQ ?_)));exact⟨i+1,by show n - (i+1)<n - i;omega,⟨O,O,aH (fun m:Nat=>Value.int .i64 (m:Int)) jR.symm,O,av⟩,by omega,aU⟩
 obtain rfl:i=n:=by omega
 refine bk O (bm (fA O ?_));exact kN O ⟨O,hS⟩
def mz(N:Nat):List aL->List (List aL)->List (ah)->List Ck
 | o::os,r::rss,X::Xs=>aQ 24 2 o.a N o.c r X++mz N os rss Xs
 | _,_,_=> []
theorem CM(N:Nat):∀ {os:List aL} {rss:List (List aL)} {Xs:List (ah)} {i:Nat},i<os.length->rss.length=os.length->Xs.length=os.length->
 (mz N os rss Xs).Perm (aQ 24 2 (os.getD i cL).a N (os.getD i cL).c (rss.getD i []) (Xs.getD i [])++mz N (os.eraseIdx i) (rss.eraseIdx i) (Xs.eraseIdx i))
 | o::os,r::rss,X::Xs,0,_,_,_=>List.Perm.refl _
 | o::os,r::rss,X::Xs,i+1,h,h1,h2=>by
  have ih:=CM N (os:=os) (rss:=rss) (Xs:=Xs) (i:=i) (by simpa using h) (by simpa using h1) (by simpa using h2);simp only [List.getD_cons_succ,List.eraseIdx_cons_succ,mz];refine(ih.append_left _).trans ?_;rw [<-ig,<-ig];exact ka.append_right _
 | [],_,_,_,h,_,_=>absurd h (gM _)
 | _::_,[],_,_,_,h,_=>by simp at h
 | _::_,_::_,[],_,_,_,h=>by simp at h
theorem CW{α:Type}(x:α):∀(l:List α) (i:Nat),(l.set i x).eraseIdx i=l.eraseIdx i
 | [],_=>rfl
 | _::_,0=>rfl
 | a::r,i+1=>by simp only [List.set_cons_succ,List.eraseIdx_cons_succ,CW x r i]
theorem Nx(N:Nat){os:List aL}{rss:List (List aL)}{Xs:List (ah)}{i:Nat}(r:List aL)(X:ah)(h:i<os.length)(h1:rss.length=os.length)(h2:Xs.length=os.length):(aQ 24 2 (os.getD i cL).a N (os.getD i cL).c r X++mz N (os.eraseIdx i) (rss.eraseIdx i) (Xs.eraseIdx i)).Perm (mz N os (rss.set i r) (Xs.set i X)):=by
 have h9:=(CM N (os:=os) (rss:=rss.set i r) (Xs:=Xs.set i X) (i:=i) h (by rw [ij];exact h1) (by rw [ij];exact h2)).symm;rw [CW,CW]at h9;have e1:(rss.set i r).getD i []=r:=by rw [cz,List.getElem?_set_self (by omega)];rfl
 have e2:(Xs.set i X).getD i []=X:=by rw [cz,List.getElem?_set_self (by omega)];rfl
 rwa [e1,e2]at h9
theorem GS(N:Nat):∀ {os:List aL} {rss:List (List aL)} {Xs:List (ah)} (o:aL) (r:List aL) (X:ah),rss.length=os.length->Xs.length=os.length->mz N (os++ [o]) (rss++ [r]) (Xs++ [X])=mz N os rss Xs++aQ 24 2 o.a N o.c r X
 | [],[],[],o,r,X,_,_=>by simp [mz]
 | a::os,b::rss,c::Xs,o,r,X,h,h'=>by
  simp only [List.cons_append,mz,GS N (os:=os) (rss:=rss) (Xs:=Xs) o r X (by simpa using h) (by simpa using h'),ig]
 | [],_::_,_,_,_,_,h,_=>by simp at h
 | [],[],_::_,_,_,_,_,h=>by simp at h
 | _::_,[],_,_,_,_,h,_=>by simp at h
 | _::_,_::_,[],_,_,_,_,h=>by simp at h
open Classical in
noncomputable def oO(n:Nat)(fl:ah)(i a m:Nat):ai:=((List.range m).filter fun b=>decide (iM n fl i a b/\b≠a)).map fun b:Nat=> (b:Int)
theorem Kk(n:Nat)(fl:ah)(i a:Nat):oO n fl i a fl.length=pC n fl i a:=rfl
theorem Tt{n:Nat}{fl:ah}{i a m:Nat}(h:iM n fl i a m/\m≠a):oO n fl i a (m+1)=oO n fl i a m++ [(m:Int)]:=by
 unfold oO;rw [l4,oW,List.map_append];rw [th (by simpa using h)];rfl
theorem Km{n:Nat}{fl:ah}{i a m:Nat}(h:¬(iM n fl i a m/\m≠a)):oO n fl i a (m+1)=oO n fl i a m:=by
 unfold oO;rw [l4,oW,List.map_append];rw [qJ (by simpa using h)];simp
theorem Kl(n:Nat)(fl:ah)(i a m:Nat):(oO n fl i a m).length<=m:=by
 unfold oO;rw [lC];refine jb (mX _ _) ?_;rw [pO];exact dh _
theorem NG{n:Nat}{fl:ah}(mK:fl.Nodup)(hl:∀x∈fl,x.length=n){a b i:Nat}(ha:a<fl.length)(hb:b<fl.length)(hi:i<n):(oh (gl fl a) (gl fl b) n=1/\gi (gl fl a) i≠gi (gl fl b) i)↔(iM n fl i a b/\b≠a):=by
 unfold oh;constructor
 ·rintro⟨h1,h2⟩;refine⟨⟨ha,hb,fun k hk bL=>?_⟩,fun e=>h2 (by rw [e])⟩;obtain⟨y,hy⟩:=List.length_eq_one_iff.1 h1;have hm:∀q,q<n->gi (gl fl a) q≠gi (gl fl b) q->q=y:=fun q hq hd=>by
   have:q∈(List.range n).filter fun k:Nat=>decide (gi (gl fl a) k≠gi (gl fl b) k):=fZ.2 ⟨fP.2 hq,eD hd⟩
   rw [hy]at this;exact eP.1 this
  refine pL fun hd=>bL ?_
  rw [hm k hk hd,hm i hi h2]
 rintro⟨h,bL⟩;have hd:gi (gl fl a) i≠gi (gl fl b) i:=fun e=>bL (Hi mK hl hb ha fun k hk=>by
  by_cases ek:k=i
  ·subst ek;exact e.symm
  exact(h.2.2 k hk ek).symm)
 refine⟨?_,hd⟩;have:(List.range n).filter (fun k:Nat=>decide (gi (gl fl a) k≠gi (gl fl b) k))=[i]:=by
  refine List.Perm.eq_singleton ?_;refine(List.perm_ext_iff_of_nodup (List.nodup_range.filter _) (by simp)).2 fun q=>?_
  rw [fZ,fP,jL,eP];constructor
  ·rintro⟨hq,QO⟩;exact pL fun e=>QO (h.2.2 q hq e)
  rintro rfl;exact⟨hi,hd⟩
 rw [this];rfl
noncomputable def mO(n:Nat)(fl:ah)(a b k i a':Nat):ai:=if a'<a then oO n fl i a' fl.length else if a'=a then(if i<k then oO n fl i a (b+1)else oO n fl i a b)else []
noncomputable def mP(n:Nat)(fl:ah)(a b k i:Nat):ah:=(List.range fl.length).map (mO n fl a b k i)
noncomputable def gn(n:Nat)(fl:ah)(a b k:Nat):List (ah):=(List.range n).map (mP n fl a b k)
section
variable {n:Nat} {fl:ah} {a b k i:Nat}
theorem rJ:(mP n fl a b k i).length=fl.length:=by simp [mP]
theorem uv:(gn n fl a b k).length=n:=by simp [gn]
theorem Fh(h:i<n):(gn n fl a b k).getD i []=mP n fl a b k i:=by
 rw [cz,eS (by rw [uv];exact h),Option.getD_some];simp [gn]
theorem Fi{a':Nat}(h:a'<fl.length):gl (mP n fl a b k i) a'=mO n fl a b k i a':=by
 rw [cX (by rw [rJ];exact h)];simp [mP]
theorem Bs{a2 b2 k2:Nat}(h:∀i a',i<n->a'<fl.length->mO n fl a b k i a'=mO n fl a2 b2 k2 i a'):gn n fl a b k=gn n fl a2 b2 k2:=
 kS fun i hi=>kS fun a' ha=>h i a' (fP.1 hi) (fP.1 ha)
theorem TC:gn n fl 0 0 0=List.replicate n (List.replicate fl.length []):=by
 refine List.eq_replicate_iff.2 ⟨uv,fun y hy=>?_⟩;obtain⟨i,_,rfl⟩:=fh.1 hy;refine List.eq_replicate_iff.2 ⟨rJ,fun z hz=>?_⟩;obtain⟨a',_,rfl⟩:=fh.1 hz;unfold mO;rw [aC (gM _)]
 split
 ·rw [aC (gM _)];rfl
 rfl
theorem TA:gn n fl (a+1) 0 0=gn n fl a fl.length 0:=Bs fun i a' _ ha=>by
 unfold mO
 by_cases c:a'<a
 ·rw [aF (by omega),aF c]
 rw [aC c]
 by_cases c2:a'=a
 ·subst c2;rw [aF (by omega),aF rfl,aC (gM _)]
 rw [aC (by omega),aC c2]
 split
 ·rw [aC (gM _)];rfl
 rfl
theorem Tx:gn n fl a (b+1) 0=gn n fl a b n:=Bs fun i a' hi ha=>by
 unfold mO;rw [aC (gM i),aF hi]
theorem Ty(h:∀i,i<n->¬(iM n fl i a b/\b≠a)):gn n fl a (b+1) 0=gn n fl a b 0:=Bs fun i a' hi ha=>by
 unfold mO;rw [aC (gM i),Km (h i hi),aC (gM i)]
theorem TB(h:¬(iM n fl k a b/\b≠a)):gn n fl a b (k+1)=gn n fl a b k:=Bs fun i a' hi ha=>by
 unfold mO
 by_cases c:a'<a
 ·rw [aF c,aF c]
 rw [aC c,aC c]
 by_cases c2:a'=a
 ·rw [aF c2,aF c2]
  by_cases c3:i=k
  ·subst c3;rw [aF (by omega),aC (by omega),Km h]
  by_cases c4:i<k
  ·rw [aF (by omega),aF c4]
  rw [aC (by omega),aC c4]
 rw [aC c2,aC c2]
theorem Tz(hk:k<n)(ha:a<fl.length)(h:iM n fl k a b/\b≠a):(gn n fl a b k).set k ((mP n fl a b k k).set a (gl (mP n fl a b k k) a++ [(b:Int)]))=gn n fl a b (k+1):=by
 apply ia (by rw [ij,uv,uv]);intro i h1 h2;rw [uv]at h2;rw [List.getElem_set];have e2:∀k' (hx:i< (gn n fl a b k').length),(gn n fl a b k')[i]=mP n fl a b k' i:=fun k' hx=>by simp [gn]
 rw [e2 (k+1) (by rw [uv];exact h2),e2 k (by rw [uv];exact h2)]
 by_cases c:k=i
 ·subst c;rw [aF rfl];apply ia (by rw [ij,rJ,rJ]);intro a' h3 h4;rw [rJ]at h4;have e3:∀k' (hx:a'< (mP n fl a b k' k).length),(mP n fl a b k' k)[a']=mO n fl a b k' k a':=fun k' hx=>by simp [mP]
  rw [List.getElem_set,e3 (k+1) (by rw [rJ];exact h4),e3 k (by rw [rJ];exact h4),Fi ha];unfold mO
  by_cases c2:a=a'
  ·subst c2;rw [aF rfl,aC (Nat.lt_irrefl _),aF rfl,aC (Nat.lt_irrefl _),aC (Nat.lt_irrefl _),aF rfl,aF (Nat.lt_succ_self _),Tt h]
  rw [aC c2]
  by_cases c3:a'<a
  ·rw [aF c3,aF c3]
  rw [aC c3,aC c3,aC (fun e=>c2 e.symm),aC (fun e=>c2 e.symm)]
 rw [aC c];refine kS fun a' ha'=>?_
 unfold mO
 by_cases c3:a'<a
 ·rw [aF c3,aF c3]
 rw [aC c3,aC c3]
 by_cases c2:a'=a
 ·rw [aF c2,aF c2]
  by_cases c4:i<k
  ·rw [aF c4,aF (by omega)]
  rw [aC c4,aC (by omega)]
 rw [aC c2,aC c2]
end
end
end Go.Proofs.YtagdamiiececaaaGreatDoor.Vc
