/-
 Lemmas. Conditions: as each states them.
-/
import Derived.Test.YtkccgdhcpplblaaGreatDoorZf
import Derived.Lib.ItoaLen
import Derived.Test.YtkccgdhcpplblaaGreatDoorLayd
import Derived.Shelf.Strconv.AppendIntPublic10
set_option maxHeartbeats 8000000
namespace Go.Proofs.YtkccgdhcpplblaaGreatDoor.Vc
open Tryz
section
open Go.RowKit
variable{w w':aa}
def mu(xs:ai):List UInt8:=xs.flatMap fun x=>Lib.itoa x++ [32]
def jO(xs:ai):ByteArray:=⟨(mu xs).toArray⟩
def QF(l:List UInt8):Nat:=l.foldl (fun a b=>10*a+ (b.toNat - 48)) 0
theorem KS{d:Nat}(h:d<10):(UInt8.ofNat (48+d)).toNat=48+d:=by
 rw [UInt8.toNat_ofNat'];omega
theorem FH:∀u:Nat,QF (Lib.decDigits u)=u/\∀b∈Lib.decDigits u,48<=b.toNat/\b.toNat<=57:=by
 intro u
 induction u using Nat.strongRecOn with
 | ind u ih=>
  rw [Lib.decDigits]
  split
  ·rename_i h;refine⟨?_,fun b hb=>?_⟩
   ·simp only [QF,List.foldl_cons,List.foldl_nil,KS h];omega
   ·simp only [gj]at hb;subst hb;rw [KS h];omega
  ·rename_i h;obtain⟨h1,h2⟩:=ih (u / 10) am;refine⟨?_,fun b hb=>?_⟩
   ·unfold QF at h1|-;rw [List.foldl_append,h1];simp only [List.foldl_cons,List.foldl_nil,KS (show u%10<10 by omega)];omega
   ·rcases jd.1 hb with hb | hb
    ·exact h2 b hb
    ·simp only [gj]at hb;subst hb;rw [KS (by omega)];omega
theorem Sp{u v:Nat}(h:Lib.decDigits u=Lib.decDigits v):u=v:=by rw [<-(FH u).1,h,(FH v).1]
theorem Wc{x:Int}:∀b∈Lib.itoa x,b≠32:=by
 intro b hb e;subst e;unfold Lib.itoa at hb
 split at hb
 ·rcases iX.1 hb with h | h
  ·exact absurd h an
  have:=(FH _).2 _ h;exact absurd this an
 have:=(FH _).2 _ hb;exact absurd this an
theorem ahB{x y:Int}(h:Lib.itoa x=Lib.itoa y):x=y:=by
 have W9:∀(u v:Nat),45::Lib.decDigits u≠Lib.decDigits v:=fun u v e=>by
  have:=(FH v).2 45 (by rw [<-e];simp);exact absurd this an
 unfold Lib.itoa at h
 split at h<;>split at h
 ·simp only [List.cons.injEq,true_and]at h;have:=Sp h;omega
 ·exact absurd h (W9 _ _)
 ·exact absurd h.symm (W9 _ _)
 have:=Sp h;omega
theorem Ym:∀ {a b r s:List UInt8},(∀x∈a,x≠32)->(∀x∈b,x≠32)->a++32::r=b++32::s->a=b/\r=s
 | [],[],_,_,_,_,h=>by simpa using h
 | [],y::b,_,_,_,hb,h=>by
  simp only [List.nil_append,List.cons_append,List.cons.injEq]at h;exact absurd h.1.symm (hb y (by simp))
 | x::a,[],_,_,ha,_,h=>by
  simp only [List.nil_append,List.cons_append,List.cons.injEq]at h;exact absurd h.1 (ha x (by simp))
 | x::a,y::b,_,_,ha,hb,h=>by
  simp only [List.cons_append,List.cons.injEq]at h;obtain⟨h1,h2⟩:=Ym (fun z hz=>ha z (by simp [hz])) (fun z hz=>hb z (by simp [hz])) h.2;exact⟨by rw [h.1,h1],h2⟩
theorem G2(x:Int)(xs:ai):mu (x::xs)=Lib.itoa x++32::mu xs:=by simp [mu]
theorem ahY(xs:ai)(x:Int):mu (xs++ [x])=(mu xs++Lib.itoa x)++ [32]:=by simp [mu]
theorem Wg:∀ {xs ys:ai},mu xs=mu ys->xs=ys
 | [],[],_=>rfl
 | [],y::ys,h=>by rw [G2]at h;simp [mu]at h
 | x::xs,[],h=>by rw [G2]at h;simp [mu]at h
 | x::xs,y::ys,h=>by
  rw [G2,G2]at h;obtain⟨h1,h2⟩:=Ym Wc Wc h;rw [ahB h1,Wg h2]
theorem Kh{xs ys:ai}(h:jO xs=jO ys):xs=ys:=by
 have h1:(mu xs).toArray=(mu ys).toArray:=aE ByteArray.data h;exact Wg (by simpa using h1)
theorem fold_push:∀(l:List UInt8) (s:ByteArray),(l.map fun b=> ((b.toNat:Nat):Int)).foldl (fun r n=>r.push (UInt8.ofNat n.toNat)) s=⟨s.data++l.toArray⟩
 | [],s=>by simp
 | b::l,s=>by
  simp only [List.map_cons,List.foldl_cons];rw [fold_push l];have e:UInt8.ofNat ((b.toNat:Nat):Int).toNat=b:=by simp
  rw [e];have e2:(s.push b).data=s.data.push b:=O;rw [e2]
  congr 1
  apply Array.ext';simp
def lO(w : aa): Prop := Lib.TabIs prog w "internal/strconv.uint64pow10" .u64 Lib.pow10Tab
theorem lO.aq(h:lO w)(hb:Below w.heap.size w w'):lO w':=Lib.tabBelow_of_tabIs h w' hb.toBelow
def wS(B:Nat)(w:aa)(A:aj)(m c:Nat)(l:List UInt8):Prop:=w.ownsRow B 5 1 (.slice A m c) m (Lib.byteCells l)
theorem Xh{B m:Nat}{v:ad}{xs:List ad}(h:w.ownsRow B 5 1 v m xs):∃A c,v= .slice A m c:=by
 rcases h.2 with⟨rfl,rfl⟩ | ⟨g,cap,cur,rfl,_⟩
 ·exact⟨_,_,O⟩
 exact⟨_,_,O⟩
theorem wS.aq{B:Nat}{A:aj}{m c:Nat}{l:List UInt8}(h:wS B w A m c l)(hb:Below w.heap.size w w'):wS B w' A m c l:=by
 refine⟨h.1,?_⟩;rcases h.2 with h1 | ⟨g,cap,cur,h1,h2,h3,r⟩
 ·exact .inl h1
 exact .inr ⟨g,cap,cur,h1,h2,by rw [hb.block g (Array.getElem?_eq_some_iff.1 h3).1];exact h3,r⟩
section
variable {N:Nat} {ops:Array Oper} {K:Env->aa->Prop} {rest:List Oper} {e:Env} {w0 w w':aa} {ks:List Ck} {d:Nat} {ty:ae} {pos:String} {af:Array Edge}
theorem ZJ{B m c:Nat}{A:aj}{l:List UInt8}{A1:aj}{b:UInt8}{x y:ag}(hO:wS B w A m c l)(hB:B<=w.heap.size)(hR:Rd w A1 1 (fun _=> .int .u8 (b.toNat:Nat)))(hx:ev e x= .slice A m c)(hy:ev e y= .slice A1 1 1)(hm:m<=1000000000)(hb:Nat.blt d N=true)
 (hK:∀A2 c2 w',Go.RowKit.Below B w w'->wS B w' A2 (m+1) c2 (l++ [b])->ao prog N ops K rest (bn e d (.slice A2 (m+1) c2)) w'):
 ao prog N ops K (⟨some d,.call ⟨.builtin .append, #[x,y], #[30,30]⟩,ty,pos,af,none⟩::rest) e w:=by
 obtain⟨inf,hi,dX,hs,gR⟩:=bq.get prog 5;obtain⟨p,hp,hc⟩:=hR 0 am;obtain⟨a,rfl⟩:∃a,A1=some a:=by cases A1 with | none=>simp [ay]at hp | some q=>exact⟨q,rfl⟩
 simp only [ay,Option.map_some,mB]at hp;obtain⟨v',w',hr,F8,hg,_⟩:=run_append_own (P:=prog) (w:=w) B 30 ty 5 inf (.int .u8 0) 1 1 underlying30 hi dX hs gR rfl an (.slice A m c) m (Lib.byteCells l) hO a 1 1 [.int .u8 (b.toNat:Nat)] rfl
  (fun j u hj=>by
    match j,hj with
    | 0,hj=>simp at hj;subst hj;rw [hp];exact hc) (fun u hu=>by simp at hu;subst hu;rfl) (by simp only [maxLen];omega) am hB
 obtain⟨A2,c2,rfl⟩:=Xh F8;refine .val (w':=w') ?_ hb (hK A2 c2 w' ?_ ?_)
 ·simp [execOp,resolve,invoke,builtin,hx,hy,hr]
 ·exact(Go.RowKit.Below.refl B w).grown hg hB (fun k hk=> (hO.lt k hk).1)
 ·show w'.ownsRow B 5 1 (.slice A2 (m+1) c2) (m+1) (Lib.byteCells (l++ [b]));rw [show Lib.byteCells (l++ [b])=Lib.byteCells l++ [.int .u8 (b.toNat:Nat)] by simp [Lib.byteCells]];exact F8
theorem ZR{B m c:Nat}{A:aj}{l:List UInt8}{x:ag}(hO:wS B w A m c l)(hx:ev e x= .slice A m c)(hb:Nat.blt d N=true)(hK:ao prog N ops K rest (bn e d (.string ⟨l.toArray⟩)) w):
 ao prog N ops K (⟨some d,.convert 30 9 x,ty,pos,af,none⟩::rest) e w:=by
 have hr:(Conv.bytesToString (.slice A m c)).run prog w= .ok (.string ⟨l.toArray⟩) w:=by
  have hl:(Lib.byteCells l).length=m*1:=hO.1;rcases hO.2 with⟨h1,h2⟩ | ⟨g,cap,cur,h1,_⟩
  ·simp only [Value.slice.injEq]at h1;obtain⟨rfl,rfl,rfl⟩:=h1;have:l=[]:=qE (by rw [Lib.byteCells_length]at hl;omega);subst this
   rfl
  simp only [Value.slice.injEq]at h1;obtain⟨rfl,_,rfl⟩:=h1;have h2:=hO.cells (g:=g) O;have h3:=run_loadCells_list (P:=prog) (w:=w) (⟨g,0,none⟩:Addr) (Lib.byteCells l) h2;rw [hl,Nat.mul_one]at h3;have e1:Lib.byteCells l=(l.map fun b=> ((b.toNat:Nat):Int)).map (Value.int .u8):=by simp [Lib.byteCells]
  rw [e1]at h3;rw [run_bytesToString w _ m c _ h3,fold_push];simp
 refine .val (w':=w) ?_ hb hK;simp [execOp,hx,convert,run_underlying underlying30,run_underlying underlying9,run_underlying underlying5,hr]
end
theorem Zi{B m c : Nat}{A : aj}{l : List UInt8}(x : Int)(w : aa)(hx : -9223372036854775808 <= x /\ x <= 9223372036854775807)(hO : wS B w A m c l)(hB : B <= w.heap.size)(hm : m <= 1000000000)(hT : Lib.TabBelow prog B w "internal/strconv.uint64pow10" .u64 Lib.pow10Tab):
 aJ prog 206 [.slice A m c,ak x,ak 10] w (fun v w'=>∃A' c',v= .slice A' (m+ (Lib.itoa x).length) c'/\wS B w' A' (m+ (Lib.itoa x).length) c' (l++Lib.itoa x)/\Go.RowKit.Below B w w'):=by
 have key:=Any.strconv_AppendInt_10 lai B m x hx.1 hx.2 (.slice A m c) (Lib.byteCells l) w hO hB am hT;refine Calls.mono key fun y w' ⟨v',hy,F8,hb,_⟩=> ⟨_,hy,?_⟩
 obtain⟨A2,c2,rfl⟩:=Xh F8;refine⟨A2,c2,O,?_,hb⟩;show w'.ownsRow B 5 1 (.slice A2 _ c2) _ (Lib.byteCells (l++Lib.itoa x));rw [Lib.byteCells_append];exact F8
theorem Wd(x:Int)(hx: -9223372036854775808<=x/\x<=9223372036854775807):(Lib.itoa x).length<=21:=Lib.itoa_length_le x hx.1 hx.2
theorem Wh:∀(xs:ai),(∀x∈xs,-9223372036854775808<=x/\x<=9223372036854775807)->(mu xs).length<=22*xs.length
 | [],_=>by simp [mu]
 | x::xs,h=>by
  have h1:=Wd x (h x (by simp));have h2:=Wh xs fun y hy=>h y (by simp [hy])
  rw [G2];simp only [ck,List.length_cons];omega
theorem CE(A:aj)(n c:Nat)(xs:ai)(w:aa)(hT:lO w)(hR:cL w A n xs)(hx:∀x∈xs,-9223372036854775808<=x/\x<=9223372036854775807)(hn:n<=1000000):
 aJ prog 147 [.slice A n c] w (fun v w'=>v= .string (jO xs)/\St w w' []):=by
 have iU:=hR.1;refine bC func147 O ntmps147 O (df O) ?_;refine bh O (a8 O O (aC O ?_));refine Cd.loop (α:=Nat×aj×Nat) (fun s=> [(3,.slice s.2.1 (mu (xs.take s.1)).length s.2.2),(6,.slice A n c),(7,ak n),(8,ak (s.1:Int))]) (fun s w'=>wS w.heap.size w' s.2.1 (mu (xs.take s.1)).length s.2.2 (mu (xs.take s.1))/\Go.RowKit.Below w.heap.size w w'/\s.1<=n) (fun s=>n - s.1) (0,none,0) (aqv O) ⟨World.ownsRow_nil w _ _ _,Go.RowKit.Below.refl _ _,bg _⟩ ?_;rintro⟨i,A3,c3⟩ e w1 ⟨hO,dE,hi⟩;dsimp only at hO dE hi|-;refine bL O (aM _ O (fun h1=>?_) (fun h1=>?_))
 ·have dw:i<xs.length:=by omega
  have lW : cL w1 A n xs := hR.aq ⟨dE, fun s => s.elim⟩;have hT1 : Lib.TabBelow prog w.heap.size w1 "internal/strconv.uint64pow10" .u64 Lib.pow10Tab := (Lib.tabBelow_of_tabIs hT).on dE
  have gE:=hx _ (gi_in dw);have JN:=Wh (xs.take i) fun x hm=>hx x (List.mem_of_mem_take hm)
  have tj:=Wd _ gE;rw [ns]at JN;have mr:=dE.size;have yR:mu (xs.take (i+1))=(mu (xs.take i)++Lib.itoa (gi xs i))++ [32]:=by rw [wE dw,ahY]
  refine aA O (aD lW.2 O (aY lW O (ar O (aL (Zi (gi xs i) _ gE hO mr am hT1) O ?_))));rintro _ w2 ⟨A4,c4,rfl,hO2,eB⟩;have hsz2:=eB.size;refine ar O (ao.LH (St.refl w2) O O O O ?_);intro A5 w3 aQ;have hO3:=hO2.aq aQ.below;have gI:Go.RowKit.Below w.heap.size w2 w3:=aQ.below.toBelow.mono am;have hsz3:=gI.size;refine ZJ (b:=32) hO3 am (aQ.rd 0 rfl |>.congr fun j hj=>by obtain rfl:j=0:=by { have:j<1:=hj;omega };rfl) rfl rfl am rfl ?_;intro A6 c6 w4 oU Je;refine ar O (aI O (aT O (tQ ?_)));refine⟨(i+1,A6,c6),by show n - (i+1)<n - i;omega,⟨?_,O,O,O,au⟩,?_,((dE.trans eB).trans gI).trans oU,by show i+1<=n;omega⟩
  ·show Value.slice _ _ _= .slice _ _ _;rw [yR];simp [Nat.add_assoc]
  show wS _ w4 A6 (mu (xs.take (i+1))).length c6 (mu (xs.take (i+1)));rw [yR];have e1:((mu (xs.take i)++Lib.itoa (gi xs i))++ [32]).length=(mu (xs.take i)).length+ (Lib.itoa (gi xs i)).length+1:=by simp;omega
  rw [e1];exact Je
 have cI:i=xs.length:=by omega
 subst cI;rw [List.take_length]at hO;refine bp O (bt (cS O ?_));refine ZR hO (by show Value.slice _ _ _= .slice _ _ _;rw [List.take_length]) O ?_;refine bH O (PT O ?_);exact⟨rfl,⟨⟨dE,fun s=>s.elim⟩,fun k hk=> (by cases hk),List.nodup_nil⟩⟩
end
section
open Go.RowKit Go.MapKept
section
variable {κ ν:Type} [DecidableEq κ]
def jf:List (κ×ν)->κ->List (κ×ν)
 | [],_=> []
 | (y,v)::r,x=>if y=x then r else(y,v)::jf r x
theorem Sr:∀ {L:List (κ×ν)} {x:κ} {j:Nat} {v:ν},lz L x=some (j,v)->jf L x=L.eraseIdx j
 | (y,w)::r,x,j,v,h=>by
  simp only [lz]at h
  split at h
  ·rename_i e;simp only [mB,Prod.mk.injEq]at h;obtain⟨rfl,rfl⟩:=h;simp only [jf,aB e,List.eraseIdx_zero,List.tail_cons]
  ·rename_i e;cases hf:lz r x with
   | none=>simp [hf]at h
   | some p=>
    simp only [hf,Option.map_some,mB,Prod.mk.injEq]at h;obtain⟨rfl,rfl⟩:=h;simp only [jf,az e,List.eraseIdx_cons_succ,Sr (L:=r) (x:=x) (j:=p.1) (v:=p.2) hf]
theorem Sq:∀ {L:List (κ×ν)} {x:κ},lz L x=none->jf L x=L
 | [],_,_=>rfl
 | (y,w)::r,x,h=>by
  simp only [lz]at h
  split at h
  ·cases h
  ·rename_i e;rw [Option.map_eq_none_iff]at h;simp only [jf,az e,Sq h]
theorem LZ:∀(L:List (κ×ν)) (x:κ),(jf L x).Sublist L
 | [],_=> .slnil
 | (y,v)::r,x=>by
  simp only [jf]
  split
  ·exact(lJ _).cons _
  ·exact(LZ r x).cons_cons _
theorem Tt:∀ {L:List (κ×ν)} {x:κ},x∉L.map (·.1)->dS L x=none
 | [],_,_=>rfl
 | (y,v)::r,x,h=>by
  simp only [List.map_cons,iX,not_or]at h;simp only [dS,az (fun e:y=x=>h.1 e.symm),Tt h.2]
theorem Ts:∀ {L:List (κ×ν)} {x y:κ},(L.map (·.1)).Nodup->dS (jf L x) y=if x=y then none else dS L y
 | [],x,y,_=>by simp [jf,dS]
 | (z,v)::r,x,y,h=>by
  simp only [List.map_cons,mf]at h;simp only [jf]
  split
  ·rename_i e;subst e
   split
   ·rename_i e;subst e;exact Tt h.1
   ·rename_i e;simp only [dS,az e]
  ·rename_i e;simp only [dS,Ts (L:=r) (x:=x) (y:=y) h.2]
   by_cases e2:z=y
   ·subst e2;rw [aB rfl,az (fun q=>e q.symm),aB rfl]
   ·rw [az e2,az e2]
theorem alJ(L:List (κ×ν))(x:κ)(u:ν):∀y,y∈(fj L x u).map (·.1)↔y=x\/y∈L.map (·.1):=by
 induction L with
 | nil=>intro y;simp [fj]
 | cons p r ih=>
  obtain⟨z,w⟩:=p;intro y;simp only [fj]
  split
  ·rename_i e;subst e;simp
  ·simp only [List.map_cons,iX,ih];exact⟨fun h=>by rcases h with h | h | h<;>simp [h],fun h=>by rcases h with h | h | h<;>simp [h]⟩
theorem XF:∀ {L:List (κ×ν)} {x:κ} {u:ν},(L.map (·.1)).Nodup->((fj L x u).map (·.1)).Nodup
 | [],x,u,_=>by simp [fj]
 | (z,v)::r,x,u,h=>by
  simp only [List.map_cons,mf]at h;simp only [fj]
  split
  ·rename_i e;subst e;simp only [List.map_cons,mf];exact h
  ·rename_i e;simp only [List.map_cons,mf];refine⟨fun hm=>?_,XF h.2⟩;rcases(alJ r x u z).1 hm with h1 | h1
   ·exact e h1
   ·exact h.1 h1
theorem acd{L:List (κ×ν)}{x:κ}(h:(L.map (·.1)).Nodup):((jf L x).map (·.1)).Nodup:=h.sublist ((LZ L x).map _)
theorem XJ(L:List (κ×ν))(x:κ)(u:ν):(fj L x u).Perm ((x,u)::jf L x):=by
 induction L with
 | nil=>exact .refl _
 | cons p r ih=>
  obtain⟨z,w⟩:=p;simp only [fj,jf]
  split
  ·rename_i e;exact .refl _
  ·exact(ih.cons _).trans (.swap _ _ _)
theorem Mz:∀ {L:List (κ×ν)} {x:κ} {u:ν},dS L x=some u->L.Perm ((x,u)::jf L x)
 | (z,w)::r,x,u,h=>by
  simp only [dS]at h;simp only [jf]
  split at h
  ·rename_i e;subst e;injection h with h
   subst h;rw [aB rfl]
  ·rename_i e;rw [az e];exact((Mz h).cons _).trans (.swap _ _ _)
theorem IV:∀ {L:List (κ×ν)} {x:κ},dS L x=none->jf L x=L
 | [],_,_=>rfl
 | (z,w)::r,x,h=>by
  simp only [dS]at h;simp only [jf]
  split at h
  ·cases h
  ·rename_i e;rw [az e,IV h]
end
section
variable {P:Program} {N:Nat} {ops:Array Oper} {K:Env->aa->Prop} {rest:List Oper} {e:Env} {w0 w w':aa} {ks:List Ck} {d:Nat} {ty:ae} {pos:String} {af:Array Edge}
variable {κ ν:Type} [DecidableEq κ] {kd:TypeDesc} {kv:κ->ad} {vv:ν->ad}
theorem Md{α β:Type}(f:α->β):∀(l:List α) (j:Nat),(l.eraseIdx j).map f=(l.map f).eraseIdx j
 | [],_=>rfl
 | _::_,0=>rfl
 | a::r,j+1=>by simp only [List.eraseIdx_cons_succ,List.map_cons,Md f r j]
theorem amp{t kt et T:ae}[hU:bA P t (.map kt et)][hk:bA P kt kd](KT:tI kd kv){g:Nat}{L:List (κ×ν)}(i:Nat)(x:κ)(Ki:ae)(hS:St w0 w ks)(hi:ks[i]?=some (fN T g (eC kv vv L))):
 ∃w',(Builtin.delete_ #[t,Ki] ty #[.map (some g),kv x]).run P w= .ok (.tuple #[]) w'/\St w0 w' (ks.set i (fN T g (eC kv vv (jf L x)))):=by
 obtain⟨_,es,cl,hh,hm,o8⟩:=hS.Hd i hi;have hf:=IH (vv:=vv) KT x es.toList L 0 hm;have oZ:=MapKept.run_findKey (P:=P) (w:=w) hk.out hf;cases kW:lz L x with
 | none=>
  refine⟨{ w with heap:=w.heap.setIfInBounds g (.map es cl) },?_,hS.E1 hi ?_ o8⟩
  ·simp [Builtin.delete_,run_underlying hU.out,MapKept.run_getObj_map hh,MapKept.run_checkKey hk.out (KT.isKey x),oZ,kW,MapKept.run_setObj_map _ hh,Result.andThen]
  ·rw [Sq kW];exact hm
 | some p=>
  obtain⟨j,v⟩:=p;refine⟨{ w with heap:=w.heap.setIfInBounds g (.map (es.eraseIdxIfInBounds j) cl) },?_,hS.E1 hi ?_ (ajb o8 (by
   unfold Array.eraseIdxIfInBounds
   split
   ·rw [Array.toList_eraseIdx];exact List.eraseIdx_sublist _ _
   ·exact lJ _))⟩
  ·simp [Builtin.delete_,run_underlying hU.out,MapKept.run_getObj_map hh,MapKept.run_checkKey hk.out (KT.isKey x),oZ,kW,MapKept.run_setObj_map _ hh,Result.andThen]
  ·rw [Sr kW];have e1:(es.eraseIdxIfInBounds j).toList=es.toList.eraseIdx j:=by
    unfold Array.eraseIdxIfInBounds
    split
    ·rw [Array.toList_eraseIdx]
    ·rename_i h;rw [List.eraseIdx_of_length_le (by simpa using h)]
   rw [e1,Md,hm];unfold eC;rw [Md]
theorem ZU{t kt et T Ki:ae}{m k:ag}[hU:bA P t (.map kt et)][bA P kt kd](KT:tI kd kv){g:Nat}{L:List (κ×ν)}(i:Nat){a:κ}(hS:St w0 w ks)(hi:ks[i]?=some (fN T g (eC kv vv L)))(hm:ev e m= .map (some g))(hk:ev e k=kv a)(hK:∀w',St w0 w' (ks.set i (fN T g (eC kv vv (jf L a))))->ao P N ops K rest e w'):ao P N ops K (⟨none,.call ⟨.builtin .delete, #[m,k], #[t,Ki]⟩,ty,pos,af,none⟩::rest) e w:=by
 obtain⟨w',ko,kU⟩:=amp (P:=P) (t:=t) (ty:=ty) KT i a Ki hS hi;refine .aog (w':=w') (v:= .tuple #[]) ?_ (hK _ kU);simp [execOp,resolve,invoke,builtin,hm,hk,ko]
end
section
variable {P:Program} {N:Nat} {ops:Array Oper} {K:Env->aa->Prop} {rest:List Oper} {e:Env} {w0 w w':aa} {ks:List Ck} {d:Nat} {ty:ae} {pos:String} {af:Array Edge}
theorem Z1{κ ν:Type}[DecidableEq κ]{kd:TypeDesc}{kv:κ->ad}{vv:ν->ad}{t kt et:ae}{z v:ad}{s b:Nat}[bA P t (.map kt et)][bA P kt kd][bq P et z s b](KT:tI kd kv){g:Nat}{L:List (κ×ν)}{m ix:ag}{x:κ}(hR:vJ w g (eC kv vv L))(hx:ev e m= .map (some g))(hy:ev e ix=kv x)(hv:((dS L x).map vv).getD z=v)(hb:Nat.blt d N=true)(hK:ao P N ops K rest (bn e d (.tuple #[v,.bool (dS L x).isSome])) w):ao P N ops K (⟨some d,.lookup t m ix true,ty,pos,af,none⟩::rest) e w:=by
 subst hv;refine .val (w':=w) ?_ hb hK;have:=Qh (P:=P) (t:=t) (x:=x) KT hR true;simp [execOp,hx,hy,this]
end
def y7(l:ai):ad:= .string (jO l)
theorem EE:tI .string y7:=⟨fun _=>au,fun a b h=>Kh (by injection h)⟩
abbrev nO:=ai×aO×ai
def EJ(u:aO×ai):ad:=u.1.v
def qz(t:ae)(M:List nO):List Ck:=M.map fun p=>ax t p.2.1.a p.2.1.n p.2.1.c p.2.2
def jv(M:List nO)(x:ai):aO:=((dS M x).map (·.1)).getD eY
def ka(M:List nO)(x:ai):ai:=((dS M x).map (·.2)).getD []
section
variable {w0 w w':aa} {ks pre:List Ck} {t:ae} {M:List nO} {x:ai}
theorem ME{u:aO×ai}(h:dS M x=some u):jv M x=u.1/\ka M x=u.2:=by simp [jv,ka,h]
theorem Ty(h:dS M x=none):jv M x=eY/\ka M x=[]:=by simp [jv,ka,h]
theorem St.Yw(h:St w0 w (pre++ (qz t M++ks))):St w0 w (ax t (jv M x).a (jv M x).n (jv M x).c (ka M x)::(pre++ (qz t (jf M x)++ks))):=by
 cases hg:dS M x with
 | none=>
  rw [(Ty hg).1,(Ty hg).2,IV hg];exact h.nil t
 | some u=>
  rw [(ME hg).1,(ME hg).2];refine h.perm ?_;have h1:(qz t M).Perm (ax t u.1.a u.1.n u.1.c u.2::qz t (jf M x)):=(Mz hg).map _;exact((h1.append_right ks).append_left pre).trans rC
theorem Rm{u:aO×ai}(h:St w0 w (ax t u.1.a u.1.n u.1.c u.2::(pre++ (qz t (jf M x)++ks)))):St w0 w (pre++ (qz t (fj M x u)++ks)):=by
 refine h.perm ?_;have h1:(ax t u.1.a u.1.n u.1.c u.2::qz t (jf M x)).Perm (qz t (fj M x u)):=((XJ M x u).map fun p:nO=>ax t p.2.1.a p.2.1.n p.2.1.c p.2.2).symm;exact rC.symm.trans ((h1.append_right ks).append_left pre)
theorem Lo(h:St w0 w (pre++ (qz t M++ks))):cL w (jv M x).a (jv M x).n (ka M x):=(h.Yw (x:=x)).bz 0 rfl
theorem aan(h:St w0 w (pre++ (qz t M++ks))):St w0 w (pre++ (qz t (jf M x)++ks)):=h.sub (((((LZ M x).map _).append_right ks)).append_left pre)
end
end
section
variable{x y l:ai}{i k j:Nat}
def iW(x:ai)(i:Nat):ai:=x.set i (-1)
theorem Qg(x:ai)(i:Nat):(iW x i).length=x.length:=by simp [iW]
theorem EX(hk:k<x.length):gi (iW x i) k=if k=i then -1 else gi x k:=by
 rw [bV (by rw [Qg];exact hk),bV hk];unfold iW;rw [List.getElem_set]
 by_cases e:i=k
 ·rw [aB e,aB e.symm]
 rw [az e,az (fun h=>e h.symm)]
theorem KN{n:Nat}(hx:x.length=n)(hy:y.length=n):iW x i=iW y i↔∀k:Nat,k<n->k≠i->gi x k=gi y k:=by
 constructor
 ·intro h k hk bP;have:=aE (fun l=>gi l k) h;simp only [EX (x:=x) (i:=i) (show k<x.length by omega),EX (x:=y) (i:=i) (show k<y.length by omega),az bP]at this;exact this
 intro h;refine xG (n:=n) (by rw [Qg,hx]) (by rw [Qg,hy]) fun k hk=>?_
 rw [EX (by omega),EX (by omega)]
 split
 ·rfl
 rename_i e;exact h k hk e
theorem amj{n:Nat}(hx:x.length=n)(hy:y.length=n)(hi:i<n)(h0:∀e∈y,0<=e)(h:iW x i=iW y j):i=j:=by
 have:=aE (fun l=>gi l i) h;simp only [EX (x:=x) (i:=i) (show i<x.length by omega),EX (x:=y) (i:=j) (show i<y.length by omega),aB]at this
 by_cases e:i=j
 ·exact e
 rw [az e]at this;have h2:=h0 _ (gi_in (show i<y.length by omega));omega
theorem MD(M:List nO)(x l:ai)(u:aO×ai):ka (fj M x u) l=if x=l then u.2 else ka M l:=by
 unfold ka;rw [FW]
 split<;>rfl
theorem MC{M:List nO}(h:(M.map (·.1)).Nodup):ka (jf M x) l=if x=l then []else ka M l:=by
 unfold ka;rw [Ts h]
 split<;>rfl
structure jo(n:Nat)(fl:ah)(D:Nat->Nat->Prop)(G:Nat->Prop)(b:Nat)(M:List nO):Prop where
 nd:(M.map (·.1)).Nodup
 el:∀l y,y∈ka M l->∃y' i:Nat,y=(y':Int)/\y'<fl.length/\i<n/\D y' i/\l=iW (gl fl y') i
 al:∀y i:Nat,y<fl.length->i<n->D y i->(y:Int)∈ka M (iW (gl fl y) i)\/G y
 len:∀l,(ka M l).length<=b
section
variable{b' i:Nat}
variable {n:Nat} {fl:ah} {D D':Nat->Nat->Prop} {G G':Nat->Prop} {b:Nat} {M:List nO} {c:ai}
def zp(n:Nat)(fl:ah)(c:ai)(f i:Nat)(y j:Nat):Prop:=kh n c (gl fl y)/\(y<f\/y=f/\j<i)
theorem jo.zero:jo n fl (zp n fl c 0 0) (fun _=>False) 0 []:=⟨by simp,fun l y h=>by simp [ka,dS]at h,fun y i _ _ h=>by have:=h.2;omega,fun l=>by simp [ka,dS]⟩
theorem jo.congr(h:jo n fl D G b M)(hD:∀y i,y<fl.length->i<n->(D y i↔D' y i)):jo n fl D' G b M:=
 ⟨h.nd,fun l y hy=>by obtain⟨y',i,h1,h2,h3,h4,h5⟩:=h.el l y hy;exact⟨y',i,h1,h2,h3,(hD y' i h2 h3).1 h4,h5⟩,fun y i hy hi hd=>h.al y i hy hi ((hD y i hy hi).2 hd),h.len⟩
theorem jo.more(h:jo n fl D G b M)(hb:b<=b'):jo n fl D G b' M:=⟨h.nd,h.el,h.al,fun l=>mS (h.len l) hb⟩
theorem jo.skip{f:Nat}(h:jo n fl (zp n fl c f 0) G b M)(hf:¬kh n c (gl fl f)):jo n fl (zp n fl c (f+1) 0) G b M:=
 h.congr fun y i _ _=> ⟨fun h=> ⟨h.1,by have:=h.2;omega⟩,fun h=> ⟨h.1,by
  have h2:=h.2;have:y≠f:=fun e=>hf (e▸h.1)
  omega⟩⟩
theorem jo.row{f:Nat}(h:jo n fl (zp n fl c f n) G b M):jo n fl (zp n fl c (f+1) 0) G b M:=
 h.congr fun y i _ hi=> ⟨fun h=> ⟨h.1,by have:=h.2;omega⟩,fun h=> ⟨h.1,by have:=h.2;omega⟩⟩
theorem jo.put{f:Nat}(h:jo n fl (zp n fl c f i) G b M)(hf:f<fl.length)(hi:i<n)(hH:kh n c (gl fl f))(s:aO):
 jo n fl (zp n fl c f (i+1)) G (b+1) (fj M (iW (gl fl f) i) (s,ka M (iW (gl fl f) i)++ [(f:Int)])):=by
 refine⟨XF h.nd,fun l y hy=>?_,fun y j hy hj hd=>?_,fun l=>?_⟩
 ·rw [MD]at hy
  split at hy
  ·rename_i e;rcases jd.1 hy with hy | hy
   ·obtain⟨y',j,h1,h2,h3,h4,h5⟩:=h.el _ y hy;exact⟨y',j,h1,h2,h3,⟨h4.1,by have:=h4.2;omega⟩,e.symm.trans h5⟩
   exact⟨f,i,gj.1 hy,hf,hi,⟨hH,.inr ⟨O,Nat.lt_succ_self _⟩⟩,e.symm⟩
  obtain⟨y',j,h1,h2,h3,h4,h5⟩:=h.el _ y hy;exact⟨y',j,h1,h2,h3,⟨h4.1,by have:=h4.2;omega⟩,h5⟩
 ·rw [MD]
  by_cases e:y=f/\j=i
  ·obtain⟨rfl,rfl⟩:=e;rw [aB rfl];exact .inl (List.mem_append_right _ (by simp))
  rcases h.al y j hy hj ⟨hd.1,by have:=hd.2;omega⟩with h1 | h1
  ·left
   split
   ·rename_i e2;rw [e2];exact List.mem_append_left _ h1
   exact h1
  exact .inr h1
 rw [MD]
 split
 ·rename_i e;have:=h.len (iW (gl fl f) i);rw [ck];simp;omega
 have:=h.len l;omega
theorem jo.mono(h:jo n fl D G b M)(hG:∀y,y<fl.length->G y->G' y):jo n fl D G' b M:=
 ⟨h.nd,h.el,fun y i hy hi hd=> (h.al y i hy hi hd).imp id (hG y hy),h.len⟩
theorem jo.del(h:jo n fl D G b M){x:ai}(hx:∀y:Nat,(y:Int)∈ka M x->G y):jo n fl D G b (jf M x):=by
 refine⟨acd h.nd,fun l y hy=>?_,fun y i hy hi hd=>?_,fun l=>?_⟩
 ·rw [MC h.nd]at hy
  split at hy
  ·cases hy
  exact h.el l y hy
 ·rcases h.al y i hy hi hd with h1 | h1
  ·rw [MC h.nd]
   split
   ·rename_i e;rw [<-e]at h1;exact .inr (hx y h1)
   exact .inl h1
  exact .inr h1
 rw [MC h.nd]
 split
 ·exact bg _
 exact h.len l
theorem jo.adj(h:jo n fl (fun y _=>kh n c (gl fl y)) G b M)(hl:∀x∈fl,x.length=n/\∀e∈x,0<=e){x:Nat}(hx:x<fl.length)(hi:i<n)(hH:kh n c (gl fl x)){y:Int}(hy:y∈ka M (iW (gl fl x) i)):∃y':Nat,y=y'/\y'<fl.length/\zx n fl c x y':=by
 obtain⟨y',j,h1,h2,h3,h4,h5⟩:=h.el _ y hy;have hm:∀z:Nat,z<fl.length->gl fl z∈fl:=fun z hz=>by rw [bR hz];exact dK _
 have tn:=hl _ (hm x hx);have N3:=hl _ (hm y' h2);have e:i=j:=amj tn.1 N3.1 hi N3.2 h5;subst e;exact⟨y',h1,h2,hH,h4,i,hi,hx,h2,fun k hk bP=> (KN tn.1 N3.1).1 h5 k hk bP⟩
end
theorem abv{n:Nat}{c x:ai}(hc:c.length=n):oL c x=c↔kh n c x:=by
 constructor
 ·intro h k hk bP;have:=aE (fun l=>gi l k) h;simp only [DF (a:=c) (b:=x) (show k<c.length by omega)]at this
  by_cases e:gi c k=gi x k
  ·exact e
  rw [az e]at this;exact absurd this.symm bP
 intro h;refine xG (n:=n) (by rw [DG,hc]) hc fun k hk=>?_
 rw [DF (by omega)]
 split
 ·rfl
 rename_i e;refine qD fun h2=>e (h k hk fun h3=>h2 h3.symm)
def iN(n:Nat)(fl:ah)(c:ai)(f:Nat):ai:=(bY f).filter fun y=>decide (kh n c (gl fl y))
theorem aav{n:Nat}{fl:ah}{c:ai}{f:Nat}:iN n fl c (f+1)=if kh n c (gl fl f)then iN n fl c f++ [(f:Int)]else iN n fl c f:=by
 have:bY (f+1)=bY f++ [(f:Int)]:=by
  unfold bY;rw [jU,iI];rfl
 unfold iN;rw [this,sK]
 by_cases c:kh n c (gl fl f)
 ·rw [aB c];simp [c]
 rw [az c];simp [c]
theorem FB{n:Nat}{fl:ah}{c:ai}{f:Nat}{y:Int}:y∈iN n fl c f↔(0<=y/\y<f)/\kh n c (gl fl y):=by
 unfold iN;rw [gy,ky,kB]
def qe(N:Nat)(al:ai)(j:Nat):Nat:=if j<al.length then(gi al j).toNat else N
theorem kM.jump{N:Nat}{K:Nat->Nat->Prop}(hK:Dl N K){L:ai}:∀(d f:Nat),kM N K f L->f+d<=N->(∀x,f<=x->x<f+d->¬K x x)->kM N K (f+d) L
 | 0,f,h,_,_=>h
 | d+1,f,h,hn,hx=>by
  have h1:=h.skip hK am (.inr (hx f (br _) am));have:=kM.jump hK d (f+1) h1 am fun x h2 h3=>hx x am am
  rwa [show f+1+d=f+ (d+1) by omega]at this
section
variable {n:Nat} {fl:ah} {c:ai} {L:ai}
theorem H2(f:Nat):SA (iN n fl c f):=qb _ (mM _)
theorem RX{j:Nat}:qe fl.length (iN n fl c fl.length) j<=fl.length:=by
 unfold qe
 split
 ·rename_i h;have:=(FB.1 (gi_in h)).1;omega
 exact br _
theorem aiE(h:kM fl.length (jV n fl c) 0 L):kM fl.length (jV n fl c) (qe fl.length (iN n fl c fl.length) 0) L:=by
 have hle:=RX (n:=n) (fl:=fl) (c:=c) (j:=0);have:=h.jump (Fj n fl c) (qe fl.length (iN n fl c fl.length) 0) 0 am fun x _ hx hk=>by
  have hm:(x:Int)∈iN n fl c fl.length:=FB.2 ⟨am,hk.1⟩;obtain⟨p,hp,e⟩:=gC.1 hm;rw [<-bV hp]at e;unfold qe at hx;rw [aB (by omega)]at hx
  by_cases e0:p=0
  ·subst e0;omega
  have:=(H2 (n:=n) (fl:=fl) (c:=c) fl.length).AL (show 0<p by omega) hp;omega
 rwa [Nat.zero_add]at this
theorem aiF{j:Nat}(hj:j< (iN n fl c fl.length).length){f:Nat}(hf:gi (iN n fl c fl.length) j=f)(h:kM fl.length (jV n fl c) (f+1) L):kM fl.length (jV n fl c) (qe fl.length (iN n fl c fl.length) (j+1)) L:=by
 have hle:=RX (n:=n) (fl:=fl) (c:=c) (j:=j+1);have l4:=(FB.1 (gi_in hj)).1;have u6:f+1<=qe fl.length (iN n fl c fl.length) (j+1):=by
  unfold qe
  split
  ·rename_i h2;have:=(H2 (n:=n) (fl:=fl) (c:=c) fl.length).AL (show j<j+1 by omega) h2;omega
  omega
 have:=h.jump (Fj n fl c) (qe fl.length (iN n fl c fl.length) (j+1) - (f+1)) (f+1) am fun x vn hx hk=>by
  have hm:(x:Int)∈iN n fl c fl.length:=FB.2 ⟨am,hk.1⟩;obtain⟨p,hp,e⟩:=gC.1 hm;rw [<-bV hp]at e;have hpj:j<p:=by
   rcases Nat.lt_trichotomy j p with h2 | h2 | h2
   ·exact h2
   ·subst h2;omega
   have:=(H2 (n:=n) (fl:=fl) (c:=c) fl.length).AL h2 hj;omega
  unfold qe at hx;rw [aB (by omega)]at hx
  by_cases e0:p=j+1
  ·subst e0;omega
  have:=(H2 (n:=n) (fl:=fl) (c:=c) fl.length).AL (show j+1<p by omega) hp;omega
 rwa [show f+1+ (qe fl.length (iN n fl c fl.length) (j+1) - (f+1))=qe fl.length (iN n fl c fl.length) (j+1) by omega]at this
end
noncomputable def nG(n:Nat)(fl:ah)(i f:Nat):ai:=(List.range fl.length).map fun a=>if a<f/\fC n fl i a<f then(fC n fl i a:Int)else 0
def uH(n:Nat)(fl:ah)(i f:Nat)(L:List (ByteArray×Int)):Prop:=∀a:Nat,f<=a->a<fl.length->dS L (jO (iW (gl fl a) i))=if fC n fl i a<f then some (fC n fl i a:Int)else none
section
variable {n:Nat} {fl:ah} {i f:Nat} {L:List (ByteArray×Int)}
theorem ajH:(nG n fl i f).length=fl.length:=by simp [nG]
theorem ajE:nG n fl i 0=List.replicate fl.length 0:=by
 apply jE
 ·simp [nG]
 intro a h1 h2;simp [nG]
theorem ajF(h:jW n fl)(hi:i<n):nG n fl i fl.length=uo n fl i:=by
 rw [Pj h hi];unfold nG;refine pj fun a ha=>?_
 have ha:=ig.1 ha;rw [aB ⟨ha,h.lt ha hi⟩]
theorem ajI(h:jW n fl)(hi:i<n)(hf:f<fl.length)(hp:¬fC n fl i f<f):nG n fl i (f+1)=nG n fl i f:=by
 unfold nG;refine pj fun a ha=>?_
 have ha:=ig.1 ha;have h1:=(h.pt hf hi).1;have h2:=h.pp ha hi
 by_cases e:a=f
 ·subst e;rw [az (by omega),az (by omega)]
 by_cases e2:fC n fl i a=f
 ·have h3:a=fC n fl i f:=by rw [<-h2,e2]
  rw [az (by omega),az (by omega)]
 by_cases c:a<f/\fC n fl i a<f
 ·rw [aB c,aB (by omega)]
 rw [az c,az (by omega)]
theorem ajG(h:jW n fl)(hi:i<n)(hf:f<fl.length)(hp:fC n fl i f<f):nG n fl i (f+1)=((nG n fl i f).set f (fC n fl i f:Int)).set (fC n fl i f) (f:Int):=by
 have hpp:=h.pp hf hi;apply jE
 ·simp [nG]
 intro a h1 h2;have ha:a<fl.length:=by simpa [nG]using h1
 have h3:=h.pp ha hi;rw [List.getElem_set,List.getElem_set];simp only [nG,List.getElem_map,List.getElem_range]
 by_cases e:fC n fl i f=a
 ·subst e;rw [aB rfl,hpp,aB (by omega)]
 rw [az e]
 by_cases e2:f=a
 ·subst e2;rw [aB rfl,aB (by omega)]
 rw [az e2];have h4:fC n fl i a≠f:=fun e3=>e (by rw [<-h3,e3])
 by_cases c:a<f/\fC n fl i a<f
 ·rw [aB c,aB (by omega)]
 rw [az c,az (by omega)]
theorem uH.zero:uH n fl i 0 []:=fun a _ _=>by rw [az (by omega)];rfl
theorem uH.at_(h:uH n fl i f L)(hf:f<fl.length):dS L (jO (iW (gl fl f) i))=if fC n fl i f<f then some (fC n fl i f:Int)else none:=h f (br _) hf
theorem uH.JI(hN:jW n fl)(hi:i<n)(h:uH n fl i f L)(hf:f<fl.length)(hp:fC n fl i f<f):uH n fl i (f+1) L:=fun a h0 ha=>by
 have h2:=hN.pp ha hi;rw [h a (by omega) ha];have h4:fC n fl i a≠f:=fun e=>by rw [e]at h2;omega
 by_cases c:fC n fl i a<f
 ·rw [aB c,aB (by omega)]
 rw [az c,az (by omega)]
theorem uH.ajk(hN:jW n fl)(hl:∀x∈fl,x.length=n)(hi:i<n)(h:uH n fl i f L)(hf:f<fl.length)(hp:¬fC n fl i f<f):uH n fl i (f+1) (fj L (jO (iW (gl fl f) i)) (f:Int)):=fun a h0 ha=>by
 have h1:=hN.pp hf hi;have h2:=hN.pp ha hi;have hk:jO (iW (gl fl f) i)=jO (iW (gl fl a) i)↔a=f\/a=fC n fl i f:=by
  have lf:(gl fl f).length=n:=hl _ (by rw [bR hf];exact dK _);have la:(gl fl a).length=n:=hl _ (by rw [bR ha];exact dK _);constructor
  ·intro e;have e:=(KN lf la).1 (Kh e)
   by_cases c:a=f
   ·exact .inl c
   exact .inr (((hN.pt hf hi).2 a).1 ⟨⟨hf,ha,fun k hk bP=>e k hk bP⟩,c⟩)
  intro e;rcases e with e | e
  ·subst e;rfl
  have h3:=((hN.pt hf hi).2 a).2 e;exact aE jO ((KN lf la).2 h3.1.2.2)
 rw [FW,h a (by omega) ha]
 by_cases e2:a=fC n fl i f
 ·rw [aB (hk.2 (.inr e2))];have h3:fC n fl i a=f:=by rw [e2,h1]
  rw [aB (by omega),h3]
 rw [az fun e3=> (hk.1 e3).elim (by omega) e2];have h4:fC n fl i a≠f:=fun e3=>e2 (by rw [<-h2,e3])
 by_cases c:fC n fl i a<f
 ·rw [aB c,aB (by omega)]
 rw [az c,az (by omega)]
end
section
variable{i b:Nat}
variable {n:Nat} {fl:ah}
theorem um(n:Nat)(fl:ah):(b6 n fl).length=n:=by simp [b6]
theorem ajx(n:Nat)(fl:ah)(hi:i<n):gl (b6 n fl) i=uo n fl i:=by
 rw [bR (by rw [um];exact hi)];simp [b6]
theorem Kr(h:jW n fl)(hi:i<n):gl (b6 n fl) i=(List.range fl.length).map fun a=> (fC n fl i a:Int):=by rw [ajx n fl hi,Pj h hi]
theorem vt(h:jW n fl){a:Nat}(hi:i<n)(ha:a<fl.length):gi (gl (b6 n fl) i) a=fC n fl i a:=by
 rw [Kr h hi,bV (by simpa using ha)];simp
theorem G6(h:jW n fl)(hi:i<n):(gl (b6 n fl) i).length=fl.length:=by rw [Kr h hi];simp
theorem Pg(h:jW n fl){p:ai}:p∈b6 n fl↔∃i:Nat,i<n/\p=gl (b6 n fl) i:=by
 constructor
 ·intro hp;obtain⟨i,hi,e⟩:=gC.1 hp;rw [um]at hi;exact⟨i,hi,by rw [bR (by rw [um];exact hi)];exact e.symm⟩
 rintro⟨i,hi,rfl⟩;rw [bR (by rw [um];exact hi)];exact dK _
theorem ajs(h:jW n fl)(hi:i<n){x:Int}(h0:0<=x)(h1:x<fl.length):gi (gl (b6 n fl) i) x=fC n fl i x.toNat:=by
 obtain⟨a,rfl⟩:∃a:Nat,x=a:=⟨x.toNat,am⟩;rw [vt h hi (by omega)];simp
theorem ajw(h:jW n fl)(hb:fl.length<=400)(hi:i<n):kL (gl (b6 n fl) i)/\pg (gl (b6 n fl) i):=by
 have hl:=G6 h hi;refine⟨⟨am,fun x hx=>?_,?_⟩,fun a ha=>?_⟩
 ·rw [hl];rw [Kr h hi]at hx;obtain⟨a,ha,rfl⟩:=dF.1 hx;have:=h.lt (ig.1 ha) hi;omega
 ·rw [Kr h hi];refine oD.2 ((List.nodup_range (n:=fl.length)).imp_of_mem fun {a b} ha hb bP e=>bP ?_);have ha:=ig.1 ha;have hb:=ig.1 hb;have e:fC n fl i a=fC n fl i b:=by omega
  rw [<-h.pp ha hi,e,h.pp hb hi]
 rw [hl]at ha;rw [vt h hi ha,vt h hi (h.lt ha hi),h.pp ha hi];have:=(h.pt ha hi).1;exact⟨am,O⟩
theorem ajy(h:jW n fl):Sys fl.length (b6 n fl):=fun p hp=>by
 obtain⟨i,hi,rfl⟩:=(Pg h).1 hp;refine⟨G6 h hi,fun x h0 h1=>?_⟩;rw [ajs h hi h0 h1];have:=h.lt (a:=x.toNat) am hi;omega
theorem G5(h:jW n fl){a:Nat}(ha:a<fl.length)(hi:i<n):mQ n fl i a (fC n fl i a):=(((h.pt ha hi).2 _).2 rfl).1
theorem WS(h:jW n fl){p:ai}:p∈(b6 n fl).eraseIdx i↔∃k:Nat,k<n/\k≠i/\p=gl (b6 n fl) k:=by
 rw [List.mem_eraseIdx_iff_getElem];constructor
 ·rintro⟨k,hk,bP,e⟩;rw [um]at hk;exact⟨k,hk,bP,by rw [bR (by rw [um];exact hk)];exact e.symm⟩
 rintro⟨k,hk,bP,rfl⟩;exact⟨k,by rw [um];exact hk,bP,by rw [bR (by rw [um];exact hk)]⟩
theorem ajt(h:jW n fl)(hi:i<n){a:Nat}(ha:a<fl.length){y:Int}(hr:Reach ((b6 n fl).eraseIdx i) (a:Int) y):(0<=y/\y<fl.length)/\gi (gl fl y) i=gi (gl fl a) i:=by
 induction hr with
 | refl=>exact⟨am,rfl⟩
 | step hr hp ih=>
  rename_i y p;obtain⟨k,hk,bP,rfl⟩:=(WS h).1 hp;obtain⟨b,rfl⟩:∃b:Nat,y=b:=⟨y.toNat,am⟩;have hb:b<fl.length:=by omega
  rw [vt h hk hb];have h1:=h.lt hb hk;exact⟨am,by rw [<-(G5 h hb hk).2.2 i hi (fun e=>bP e.symm)];exact ih.2⟩
theorem WT(h:jW n fl){S:Nat->Prop}(hS:S i){a:Nat}(hl:jG n fl S a b):Reach ((b6 n fl).eraseIdx i) (a:Int) (b:Int):=by
 induction hl with
 | refl=>exact .refl
 | step hl hk hs ha ih=>
  rename_i b c k
  by_cases e:c=b
  ·subst e;exact ih
  have hb:=hl.eE.2;have e2:c=fC n fl k b:=((h.pt hb hk).2 c).1 ⟨ha,e⟩;have:=Reach.step ih ((WS h).2 ⟨k,hk,fun e3=>hs (e3▸hS),O⟩);rw [vt h hk hb,<-e2]at this;exact this
theorem aju(h:jW n fl){S:Nat->Prop}{a:Nat}(hl:jG n fl S a b):Reach (b6 n fl) (a:Int) (b:Int):=by
 induction hl with
 | refl=>exact .refl
 | step hl hk hs ha ih=>
  rename_i b c k
  by_cases e:c=b
  ·subst e;exact ih
  have hb:=hl.eE.2;have e2:c=fC n fl k b:=((h.pt hb hk).2 c).1 ⟨ha,e⟩;have:=Reach.step ih ((Pg h).2 ⟨k,hk,O⟩);rw [vt h hk hb,<-e2]at this;exact this
theorem ajr(h:jW n fl)(hc:Bq n fl)(hi:i<n){a:Nat}(ha:a<fl.length)(hb:b<fl.length):Reach ((b6 n fl).eraseIdx i) (a:Int) (b:Int)↔gi (gl fl a) i=gi (gl fl b) i:=by
 constructor
 ·intro hr;exact(ajt h hi ha hr).2.symm
 intro e;rcases Nat.lt_trichotomy a b with eA | eA | eA
 ·exact WT h (S:=fun k=>gi (gl fl a) k=gi (gl fl b) k) e (hc a b eA hb)
 ·subst eA;exact .refl
 exact WT h (S:=fun k=>gi (gl fl b) k=gi (gl fl a) k) e.symm (hc b a eA ha).symm
end
section
variable {n:Nat} {R:ai} {B:ah}
theorem acQ(hP:gL n R B)(hD:wJ n R B){i k a:Nat}(hi:i<n)(hk:k<n)(nB:i+2<=k)(ha:a< (aG n R B).length):
 fC n (aG n R B) k (fC n (aG n R B) i a)=fC n (aG n R B) i (fC n (aG n R B) k a):=by
 have h:=FR hP hD;have hn:1<=n:=by omega
 obtain⟨b,hb⟩:∃b,fC n (aG n R B) i a=b:=⟨_,rfl⟩;obtain⟨c,hc⟩:∃c,fC n (aG n R B) k a=c:=⟨_,rfl⟩;have nA:b< (aG n R B).length:=hb▸h.lt ha hi;have de:c< (aG n R B).length:=hc▸h.lt ha hk;have ab:=G5 h ha hi;have ac:=G5 h ha hk;have nb:=(h.pt ha hi).1;have nc:=(h.pt ha hk).1;rw [hb]at ab nb|-;rw [hc]at ac nc|-;have fa:=oP hn ha;have fb:=oP hn nA;have fc:=oP hn de;obtain⟨x,hx⟩:∃x:ai,x=(gl (aG n R B) c).set i (gi (gl (aG n R B) b) i):=⟨_,rfl⟩;have iU:x.length=n:=by rw [hx,mA];exact fc.1
 have gE:∀j:Nat,j<n->gi x j=if i=j then gi (gl (aG n R B) b) i else gi (gl (aG n R B) c) j:=fun j hj=>by
  rw [bV (by omega)];subst hx;rw [List.getElem_set]
  split
  ·rfl
  exact(bV (by rw [fc.1];exact hj)).symm
 have hm:x∈aG n R B:=by
  refine(qL hn).2 ⟨iU,fun j hj=>?_,fun j hj=>?_⟩
  ·rw [gE j hj]
   split
   ·rename_i e;subst e;exact fb.2.1 i hj
   exact fc.2.1 j hj
  rw [gE j (by omega),gE (j+1) hj]
  by_cases e1:i=j
  ·subst e1;rw [aB rfl,az (by omega),<-ac.2.2 (i+1) hj (by omega),ab.2.2 (i+1) hj (by omega)];exact fb.2.2 i hj
  by_cases e2:i=j+1
  ·subst e2;rw [az e1,aB rfl,<-ac.2.2 j (by omega) (by omega),ab.2.2 j (by omega) (by omega)];exact fb.2.2 j hj
  rw [az e1,az e2];exact fc.2.2 j hj
 obtain⟨d,hd,ed⟩:=gC.1 hm;have Iw:gl (aG n R B) d=x:=by rw [bR hd];exact ed
 have e1:fC n (aG n R B) k b=d:=by
  refine(((h.pt nA hk).2 d).1 ⟨⟨nA,hd,fun j hj bP=>?_⟩,fun e=>?_⟩).symm
  ·rw [Iw,gE j hj]
   split
   ·rename_i e;subst e;rfl
   rename_i e;rw [<-ab.2.2 j hj (fun e'=>e e'.symm),ac.2.2 j hj bP]
  subst e;have h1:=gE k hk;rw [az (by omega),<-Iw,<-ab.2.2 k hk (by omega)]at h1;exact nc (zO de ha (xG (n:=n) fc.1 fa.1 fun j hj=>by
   by_cases e:j=k
   ·subst e;exact h1.symm
   exact(ac.2.2 j hj e).symm))
 have e2:fC n (aG n R B) i c=d:=by
  refine(((h.pt de hi).2 d).1 ⟨⟨de,hd,fun j hj bP=>?_⟩,fun e=>?_⟩).symm
  ·rw [Iw,gE j hj,az (fun e=>bP e.symm)]
  subst e;have h1:=gE i hi;rw [aB rfl,<-Iw,<-ac.2.2 i hi (by omega)]at h1;exact nb (zO nA ha (xG (n:=n) fb.1 fa.1 fun j hj=>by
   by_cases e:j=i
   ·subst e;exact h1.symm
   exact(ab.2.2 j hj e).symm))
 rw [e1,e2]
theorem ajv(hP:gL n R B)(hY:Bz n R B)(hn:n<=5)(hb:(aG n R B).length<=400):bI (b6 n (aG n R B)):=by
 have h:=FR hP hY.2.2.1;have tp:=hP.n1;have h0:0<n:=by omega
 have Eu:0< (aG n R B).length:=List.length_pos_iff.2 hY.1;have wh:(gl (b6 n (aG n R B)) 0).length=(aG n R B).length:=G6 h h0;have h2:2<=(aG n R B).length:=by
  have h1:=(h.pt Eu h0).1;have h3:=h.lt Eu h0;omega
 refine⟨by rw [um];omega,by rw [wh];omega,fun p hp=>?_,fun i hi k hk nB f hf=>?_,?_⟩
 ·obtain⟨i,hi,rfl⟩:=(Pg h).1 hp;rw [wh,G6 h hi];exact⟨O,ajw h hb hi⟩
 ·rw [um]at hi hk;rw [wh]at hf;have dw:=h.lt hf hi;have eI:=h.lt hf hk;refine⟨?_,?_⟩
  ·rw [vt h hi hf,vt h hk hf,vt h hk dw,vt h hi eI,acQ hP hY.2.2.1 hi hk nB hf]
  rw [vt h hi hf,vt h hk hf];intro e;have e:fC n (aG n R B) i f=fC n (aG n R B) k f:=by omega
  have a1:=G5 h hf hi;have a2:=G5 h hf hk;rw [<-e]at a2;refine(h.pt hf hi).1 (zO dw hf (xG (n:=n) (oP am dw).1 (oP am hf).1 fun j hj=>?_))
  by_cases e3:j=i
  ·exact(a2.2.2 j hj am).symm
  exact(a1.2.2 j hj e3).symm
 rw [wh];refine(CN (ajy h) Eu).2 fun x vn iT=>?_
 obtain⟨b,rfl⟩:∃b:Nat,x=b:=⟨x.toNat,am⟩
 by_cases e:b=0
 ·subst e;exact .refl
 exact aju h (hY.2.2.2 0 b am am)
end
theorem acG{M:ah}(hM:bI M){i:Nat}{f g:Int}(h0:0<=f)(h1:f< (gl M 0).length)(h:Reach (M.eraseIdx i) f g):gi (eT M i) f=gi (eT M i) g:=
 OZ (hM.2.2.1.sys.erase i) (hM.2.2.1.inj.erase i) h0 h1 h _ (br _)
def vy(R:ai)(i:Int):ai:=(bY R.length).filter fun e=>decide (gi R e=i)
theorem Qa{R:ai}{i e:Int}:e∈vy R i↔(0<=e/\e<R.length)/\gi R e=i:=by
 unfold vy;rw [gy,ky,kB]
theorem al5(R:ai)(i:Int):(vy R i).Nodup:=(mM _).nodup.filter _
structure fJ(n:Nat)(R:ai)(B:ah):Prop where
 pos:gL n R B
 Be:Bz n R B
 n5:n<=5
 BN:(aG n R B).length<=400
section
variable{i b:Nat}
variable {n:Nat} {R:ai} {B:ah}
theorem fJ.nb(h:fJ n R B):jW n (aG n R B):=FR h.pos h.Be.2.2.1
theorem fJ.n1(h:fJ n R B):1<=n:=by have:=h.pos.n1;omega
theorem fJ.qv(h:fJ n R B):bI (b6 n (aG n R B)):=ajv h.pos h.Be h.n5 h.BN
theorem fJ.nl(h:fJ n R B):(gl (b6 n (aG n R B)) 0).length=(aG n R B).length:=G6 h.nb (show 0<n by have:=h.n1;omega)
theorem fJ.Wv(h:fJ n R B)(hi:i<n){a:Nat}(ha:a< (aG n R B).length)(hb:b< (aG n R B).length):gi (eT (b6 n (aG n R B)) i) a=gi (eT (b6 n (aG n R B)) i) b↔gi (gl (aG n R B) a) i=gi (gl (aG n R B) b) i:=by
 rw [<-ajr h.nb h.Be.2.2.2 hi ha hb];constructor
 ·exact SV h.qv am (by rw [h.nl];omega) am (by rw [h.nl];omega)
 exact acG h.qv am (by rw [h.nl];omega)
theorem fJ.Qz(h:fJ n R B){e:Int}(h0:0<=e)(h1:e<R.length):∃a:Nat,a< (aG n R B).length/\gi (gl (aG n R B) a) (gi R e)=e:=by
 obtain⟨x,hx,he⟩:=h.Be.2.1 e h0 h1;obtain⟨a,ha,ea⟩:=gC.1 hx;obtain⟨k,hk,ek⟩:=gC.1 he;have hf:=(qL h.n1).1 hx;have jb:k<n:=by rw [<-hf.1];exact hk
 have e1:gi x k=e:=by rw [bV hk];exact ek
 have e2:=(hf.2.1 k jb).2;rw [e1]at e2;exact⟨a,ha,by rw [bR ha,ea,e2];exact e1⟩
theorem fJ.at_(h:fJ n R B){a:Nat}(ha:a< (aG n R B).length)(hi:i<n):(0<=gi (gl (aG n R B) a) i/\gi (gl (aG n R B) a) i<R.length)/\gi R (gi (gl (aG n R B) a) i)=i:=(oP h.n1 ha).2.1 i hi
theorem fJ.nT(h:fJ n R B)(hi:i<n):jg (b6 n (aG n R B)) i=((vy R i).length:Int):=by
 have hN:=h.nl;have h0:=(DO (b6 n (aG n R B)) i).1;have hex:∀e:Int,∃v:Int,e∈vy R i->(0<=v/\v<jg (b6 n (aG n R B)) i)/\∀a:Nat,a< (aG n R B).length->(gi (eT (b6 n (aG n R B)) i) a=v↔gi (gl (aG n R B) a) i=e):=fun e=>by
  by_cases he:e∈vy R i
  ·have hr:=Qa.1 he;obtain⟨b,hb,eb⟩:=h.Qz hr.1.1 hr.1.2;rw [hr.2]at eb;exact⟨gi (eT (b6 n (aG n R B)) i) b,fun _=> ⟨Mh h.qv i b (by rw [hN];exact hb),fun a ha=>by rw [h.Wv hi ha hb,eb]⟩⟩
  exact⟨0,fun h=>absurd h he⟩
 obtain⟨g,hg⟩:=Classical.axiomOfChoice hex;have hg:∀e:Int,e∈vy R i->(0<=g e/\g e<jg (b6 n (aG n R B)) i)/\∀a:Nat,a< (aG n R B).length->(gi (eT (b6 n (aG n R B)) i) a=g e↔gi (gl (aG n R B) a) i=e):=hg;have hp:((vy R i).map g).Perm (bY (jg (b6 n (aG n R B)) i).toNat):=by
  refine(wM ?_ (mM _).nodup).2 fun v=>?_
  ·refine oD.2 ((al5 R i).imp_of_mem fun {e d} he hd bP q=>bP ?_);have hr:=Qa.1 he;obtain⟨b,hb,eb⟩:=h.Qz hr.1.1 hr.1.2;rw [hr.2]at eb;have h1:=((hg e he).2 b hb).2 eb;rw [q]at h1;rw [<-((hg d hd).2 b hb).1 h1];exact eb.symm
  rw [ky,dF];constructor
  ·rintro⟨e,he,rfl⟩;have:=(hg e he).1;omega
  intro hv;obtain⟨f,hf,ef⟩:=Mg h.qv i v hv.1 am;rw [hN]at hf;have h1:=h.at_ hf hi;have hm:gi (gl (aG n R B) f) i∈vy R i:=Qa.2 h1;refine⟨_,hm,?_⟩;rw [<-((hg _ hm).2 f hf).2 rfl];exact ef
 have hl:=hp.length_eq;rw [fS,Qc]at hl;omega
theorem al7(R:ai)(hR:∀e:Int,0<=e->e<R.length->0<=gi R e):∀i:Nat,((bY R.length).filter fun e=>decide (gi R e< (i:Int))).length+ (vy R i).length=((bY R.length).filter fun e=>decide (gi R e< ((i+1:Nat):Int))).length:=fun i=>by
 unfold vy;generalize bY R.length=l
 induction l with
 | nil=>rfl
 | cons e l ih=>
  rcases Int.lt_trichotomy (gi R e) (i:Int)with c | c | c
  ·rw [Bu (by simpa using c),xZ (by simp;omega),Bu (by simp;omega)];simp only [List.length_cons];omega
  ·rw [xZ (by simp;omega),Bu (by simpa using c),Bu (by simp;omega)];simp only [List.length_cons];omega
  ·rw [xZ (by simp;omega),xZ (by simp;omega),xZ (by simp;omega)];exact ih
theorem fJ.off(h:fJ n R B):∀i:Nat,i<=n->aR (b6 n (aG n R B)) i=((bY R.length).filter fun e=>decide (gi R e< (i:Int))).length:=by
 have gm:∀e:Int,0<=e->e<R.length->0<=gi R e:=fun e h0 h1=> (h.pos.ri h0 h1).1
 intro i
 induction i with
 | zero=>
  intro _;rw [List.filter_eq_nil_iff.2 fun e he=>?_]
  ·rfl
  ·have hr:=(ky _ _).1 he;have:=gm e hr.1 hr.2;simp;omega
 | succ i ih=>
  intro hi;have h1:=h.nT (show i<n by omega);show aR _ i+ (jg _ i).toNat=_;rw [ih (by omega),h1,<-al7 R gm i];omega
theorem fJ.Xa(h:fJ n R B):aR (b6 n (aG n R B)) n=R.length:=by
 rw [h.off n (br _),List.filter_eq_self.2 fun e he=>?_]
 ·exact Qc _
 have hr:=(ky _ _).1 he;have:=(h.pos.ri hr.1 hr.2).2;simp;omega
end
def vF(m:Nat)(rk:Int->Int)(ir:Int->Int->Prop):Prop:=∀a b:Int,0<=a/\a<m->0<=b/\b<m->ir a b->rk a+1<rk b->∃c:Int,(0<=c/\c<m)/\ir a c/\ir c b/\rk c=rk a+1
def kR(m:Nat)(rk:Int->Int)(p:Nat)(a:Int):Prop:=(0<=a/\a<m)/\rk a+1=p
section
variable {m n:Nat} {rk:Int->Int} {ir:Int->Int->Prop}
theorem gg.DU(h:gg m n rk ir)(hb:vF m rk ir):ia (n+1) (kR m rk) ir where
 one:=fun ha hb=>by have:=ha.2;have:=hb.2;omega
 rf:=h.refl
 tr:=fun ha hb hc=>h.trans _ _ _ ha.1 hb.1 hc.1
 st:=fun {i j a b} ha hb eA=>by
  by_cases e:a=b
  ·exact .inl e
  have:=h.strict a b ha.1 hb.1 eA e;have:=ha.2;have:=hb.2;exact .inr am
 uO:=fun {i j a b} ha hc eA iy=>by
  have h1:=ha.2;have h2:=hc.2;obtain⟨c,h3,h4,h5,h6⟩:=hb a b ha.1 hc.1 eA am;exact⟨c,⟨h3,am⟩,h4,h5⟩
 oJ:=fun ha=>by have:=(h.eE ha.1).2;have:=ha.2;omega
 bot:=⟨0,⟨⟨am,by have:=h.two;omega⟩,by rw [h.r0];rfl⟩,fun i a ha=> ⟨h.bot a,fun e=>h.zero ha.1 (by have:=ha.2;omega)⟩⟩
 top:=⟨(m:Int) - 1,⟨⟨by have:=h.two;omega,am⟩,by rw [h.rt];omega⟩,fun i a ha=> ⟨h.top a,fun e=>h.whole ha.1 (by have:=ha.2;omega)⟩⟩
end
section
variable {n:Nat} {R:ai} {B:ah}
theorem XN(hP:gL n R B)(hb:vF (R.length+2) (gi (ik n R)) (eM R.length B)):nt n R B (kR (R.length+2) (gi (ik n R))) (eM R.length B) (fun e=>e+1) where
 n1:=by have:=hP.n1;omega
 g:=(G3 hP).DU hb
 CG:=fun e he i _ hi=> ⟨am,by rw [zN _ _ (by omega) (by omega),Int.add_sub_cancel,hi];omega⟩
 Hw:=fun i a hi ha=>by
  have h1:=ha.1;have h2:=ha.2;have n0:a≠0:=fun e=>by subst e;have:gi (ik n R) 0= -1:=rfl;omega
  have n9:a≠(R.length:Int)+1:=fun e=>by subst e;rw [FK]at h2;omega
  rw [zN _ _ (by omega) (by omega)]at h2;exact⟨a - 1,am,am,am⟩
 inj:=fun d e _ _ h=>by have h:d+1=e+1:=h;omega
 inc:=fun d e hd he hr=>by
  show _↔eM R.length B (d+1) (e+1);unfold eM;rw [Int.add_sub_cancel,Int.add_sub_cancel];constructor
  ·intro h;exact .inr (.inr (.inr ⟨am,am,am,am,h⟩))
  rintro(h | h | h | h)
  ·have:d=e:=by omega
   subst this;omega
  ·omega
  ·omega
  exact h.2.2.2.2
theorem amx(hP:gL n R B)(hb:vF (R.length+2) (gi (ik n R)) (eM R.length B))(hc:Bq n (aG n R B)):nu (kR (R.length+2) (gi (ik n R))) (eM R.length B):=
 amy ((G3 hP).DU hb) ((XN hP hb).abV hc)
end
theorem ac7{M:ah}(hM:bI M){e:Int}(h0:0<=e)(h1:e< (aR M M.length:Int)):∃i:Nat,i<M.length/\∃f:Nat,f< (gl M 0).length/\e=dd M i f:=by
 obtain⟨i,hi,h2,h3⟩:=Tl h0 h1;have h3:e< ((aR M i+ (jg M i).toNat:Nat):Int):=h3;obtain⟨f,hf,e1⟩:=Mg hM i (e - (aR M i:Int)) am am;refine⟨i,hi,f,hf,?_⟩;unfold dd;rw [e1];omega
theorem BP{M:ah}(hM:bI M){i f:Nat}(hi:i<M.length)(hf:f< (gl M 0).length):(0<=dd M i f/\dd M i f< (aR M M.length:Int))/\gi (bU M M.length) (dd M i f)=i:=by
 have h:=yh hM (i:=i) hf;have:=pa M (i:=i+1) (j:=M.length) hi;exact⟨am,IP hi h.1 h.2⟩
theorem ac6{M:ah}(hM:bI M):vF ((bU M M.length).length+2) (gi (ik M.length (bU M M.length))) (eM (bU M M.length).length (bQ M)):=by
 have hl:=pq M M.length;have h1:=hM.1;rw [hl];have el:∀(i f:Nat),i<M.length->f< (gl M 0).length->(0<=dd M i f+1/\dd M i f+1< ((aR M M.length+2:Nat):Int))/\gi (ik M.length (bU M M.length)) (dd M i f+1)=i:=fun i f hi hf=>by
  have h:=BP hM hi hf;exact⟨am,by rw [zN _ _ (by omega) (by omega),Int.add_sub_cancel];exact h.2⟩
 have ir:∀(k i f:Nat),k<i->i<M.length->f< (gl M 0).length->eM (aR M M.length) (bQ M) (dd M k f+1) (dd M i f+1):=fun k i f hk hi hf=>by
  have h:=BP hM hi hf;have h':=BP hM (show k<M.length by omega) hf;exact .inr (.inr (.inr ⟨am,am,am,am,by rw [Int.add_sub_cancel,Int.add_sub_cancel,rI h.1.1 h.1.2];exact⟨h'.1,f,hf,i,hi,k,hk,O,O⟩⟩))
 have cs:∀a:Int,0<=a->a< ((aR M M.length+2:Nat):Int)->a=0\/a=(aR M M.length:Int)+1\/∃i:Nat,i<M.length/\∃f:Nat,f< (gl M 0).length/\a=dd M i f+1:=fun a h0 h9=>by
  by_cases e0:a=0
  ·exact .inl e0
  by_cases e9:a=(aR M M.length:Int)+1
  ·exact .inr (.inl e9)
  obtain⟨i,hi,f,hf,e⟩:=ac7 hM (e:=a - 1) am am;exact .inr (.inr ⟨i,hi,f,hf,am⟩)
 have r0:gi (ik M.length (bU M M.length)) 0= -1:=O;have r9:gi (ik M.length (bU M M.length)) ((aR M M.length:Int)+1)=M.length:=by rw [<-hl];exact FK _ _
 intro a b ha hb eA hr;rcases cs a ha.1 ha.2 with rfl | rfl | ⟨i,hi,f,hf,rfl⟩
 ·rw [r0]at hr|-;rcases cs b hb.1 hb.2 with rfl | rfl | ⟨k,hk,g,hg,rfl⟩
  ·rw [r0]at hr;omega
  ·have hN:0< (gl M 0).length:=by have:=hM.2.1;omega
   exact⟨dd M 0 0+1,(el 0 0 am hN).1,.inr (.inl O),.inr (.inr (.inl O)),(el 0 0 am hN).2⟩
  rw [(el k g hk hg).2]at hr;exact⟨dd M 0 g+1,(el 0 g am hg).1,.inr (.inl O),ir 0 k g am hk hg,(el 0 g am hg).2⟩
 ·rw [r9]at hr;rcases cs b hb.1 hb.2 with rfl | rfl | ⟨k,hk,g,hg,rfl⟩
  ·rw [r0]at hr;omega
  ·rw [r9]at hr;omega
  rw [(el k g hk hg).2]at hr;omega
 rw [(el i f hi hf).2]at hr|-;rcases cs b hb.1 hb.2 with rfl | rfl | ⟨k,hk,g,hg,rfl⟩
 ·rw [r0]at hr;omega
 ·rw [r9]at hr;exact⟨dd M (i+1) f+1,(el (i+1) f am hf).1,ir i (i+1) f am am hf,.inr (.inr (.inl O)),by rw [(el (i+1) f (by omega) hf).2];omega⟩
 rw [(el k g hk hg).2]at hr;have hA:=BP hM hi hf;have hB:=BP hM hk hg;have hm:dd M i f∈gl (bQ M) (dd M k g):=by
  rcases eA with h | h | h | h
  ·have:dd M i f=dd M k g:=by omega
   have e:=hA.2;rw [this,hB.2]at e;omega
  ·omega
  ·omega
  have:=h.2.2.2.2;rwa [Int.add_sub_cancel,Int.add_sub_cancel]at this
 rw [rI hB.1.1 hB.1.2]at hm;obtain⟨_,f',iD,i',dw,k',eI,e1,e2⟩:=hm;have I1:=BP hM (show k'<M.length by omega) iD;have hB':=BP hM dw iD;have ei:i=k':=by have a:=hA.2;have b:=I1.2;rw [e2]at a;omega
 have ek:k=i':=by have a:=hB.2;have b:=hB'.2;rw [e1]at a;omega
 subst ei;subst ek;rw [e1,e2];exact⟨dd M (i+1) f'+1,(el (i+1) f' am iD).1,ir i (i+1) f' am am iD,ir (i+1) k f' am hk iD,by rw [(el (i+1) f' (by omega) iD).2];omega⟩
section
variable{i k:Nat}
variable {m1 m2 n1 n2:Nat} {rk1 rk2:Int->Int} {di db:Int->Int->Prop}
theorem SB(h1:gg m1 n1 rk1 di)(h2:gg m2 n2 rk2 db){c:Int×Int}:Iz (kR m1 rk1) (kR m2 rk2) (i+1) c↔nq m1 m2 rk1 rk2 0 i c:=by
 constructor
 ·rintro⟨p,q,a,b,e⟩;have h3:=a.2;have h4:=b.2;exact⟨a.1,b.1,by show rk1 c.1+rk2 c.2+1=_;omega,fun h=>by rcases h with h | h<;>omega⟩
 rintro⟨a,b,e,_⟩;have e:rk1 c.1+rk2 c.2+1=i:=e;have:=h1.eE a;have:=h2.eE b;exact⟨(rk1 c.1+1).toNat,(rk2 c.2+1).toNat,⟨a,am⟩,⟨b,am⟩,am⟩
theorem Sz(h1:gg m1 n1 rk1 di)(h2:gg m2 n2 rk2 db){c:Int×Int}:vP (kR m1 rk1) (kR m2 rk2) (i+1) c↔nq m1 m2 rk1 rk2 1 i c:=by
 constructor
 ·rintro(⟨e,_⟩ | ⟨p,q,hp,hq,a,b,e⟩)
  ·omega
  have h3:=a.2;have h4:=b.2;refine⟨a.1,b.1,by show rk1 c.1+rk2 c.2+0=_;omega,fun h=>?_⟩;rcases h with⟨_,h | h⟩ | h
  ·rw [h,h1.r0]at h3;omega
  ·rw [h,h2.r0]at h4;omega
  omega
 rintro⟨a,b,e,hx⟩;have e:rk1 c.1+rk2 c.2+0=i:=e;have k1:=h1.eE a;have k2:=h2.eE b;have n1:rk1 c.1≠ -1:=fun h=>hx (.inl ⟨O,.inl (h1.zero a h)⟩)
 have n2:rk2 c.2≠ -1:=fun h=>hx (.inl ⟨O,.inr (h2.zero b h)⟩)
 exact .inr ⟨(rk1 c.1+1).toNat,(rk2 c.2+1).toNat,am,am,⟨a,am⟩,⟨b,am⟩,am⟩
def zL(N1 N2:Nat){α β:Type}(dN:Nat->α->Prop)(dO:Nat->β->Prop):Nat->α×β->Prop:=DM (N1+N2 - 1) (vP (DM N1 dN) (DM N2 dO))
theorem SC(h1:gg m1 n1 rk1 di)(h2:gg m2 n2 rk2 db)(hi:i<n1+n2){c:Int×Int}:zL (n1+1) (n2+1) (kR m1 rk1) (kR m2 rk2) (i+1) c↔nq m1 m2 rk1 rk2 2 i c:=by
 constructor
 ·rintro⟨hN,⟨e,_⟩ | ⟨p,q,hp,hq,⟨lD,a⟩,⟨Oe,b⟩,e⟩⟩
  ·omega
  have h3:=a.2;have h4:=b.2;refine⟨a.1,b.1,by show rk1 c.1+rk2 c.2+1=_;omega,fun h=>?_⟩;rcases h with h | ⟨_,h | h⟩
  ·omega
  ·rw [h,h1.rt]at h3;omega
  rw [h,h2.rt]at h4;omega
 rintro⟨a,b,e,hx⟩;have e:rk1 c.1+rk2 c.2+1=i:=e;have k1:=h1.eE a;have k2:=h2.eE b;have x1:rk1 c.1≠n1:=fun h=>hx (.inr ⟨O,.inl (h1.whole a h)⟩)
 have x2:rk2 c.2≠n2:=fun h=>hx (.inr ⟨O,.inr (h2.whole b h)⟩)
 refine⟨am,.inr ⟨n1+1 - (rk1 c.1+1).toNat,n2+1 - (rk2 c.2+1).toNat,am,am,⟨am,a,?_⟩,⟨am,b,?_⟩,am⟩⟩
 ·rw [show n1+1 - (n1+1 - (rk1 c.1+1).toNat)=(rk1 c.1+1).toNat by omega];omega
 rw [show n2+1 - (n2+1 - (rk2 c.2+1).toNat)=(rk2 c.2+1).toNat by omega];omega
variable [DecidableRel di] [DecidableRel db] {kind:Int}
theorem ES(h1:gg m1 n1 rk1 di)(h2:gg m2 n2 rk2 db)(hk:1<=k){el:Nat->Int×Int->Prop}{le:Int×Int->Int×Int->Prop}(g:ia (k+1) el le)(jw:∀i:Nat,i<k->∀c:Int×Int,el (i+1) c↔nq m1 m2 rk1 rk2 kind i c)(hle:∀c d:Int×Int,le c d↔di c.1 d.1/\db c.2 d.2):
 nt k ((cK m1 m2 rk1 rk2 kind k).map (dh rk1 rk2 kind)) (nH di db (cK m1 m2 rk1 rk2 kind k)) el le (gp (cK m1 m2 rk1 rk2 kind k)):=by
 have hl:((cK m1 m2 rk1 rk2 kind k).map (dh rk1 rk2 kind)).length=(cK m1 m2 rk1 rk2 kind k).length:=by simp
 refine⟨hk,g,fun e he i hi hr=>?_,fun i a hi ha=>?_,fun d e hd he h=>?_,fun d e hd he hr=>?_⟩
 ·rw [hl]at he;obtain⟨j,hj,hE,hJ⟩:=xh he;have:i=j:=by omega
  subst this;exact(jw i hi _).2 hE
 ·obtain⟨e,he,h⟩:=Mb hi ((jw i hi a).1 ha);refine⟨e,by rw [hl];exact he,?_,h⟩;obtain⟨j,hj,hE,hJ⟩:=xh he;rw [hJ];rw [h]at hE;have h3:=((jw i hi a).1 ha).2.2.1;have h4:=hE.2.2.1;omega
 ·rw [hl]at hd he;exact IX hd he h
 rw [hl]at hd he;rw [xM he.1 he.2,wv h1 h2 he,hle];exact⟨fun h=>h.2.2,fun h=> ⟨hd,fun e=>by rw [e]at hr;omega,h⟩⟩
theorem alw(h1:gg m1 n1 rk1 di)(h2:gg m2 n2 rk2 db)(b1:vF m1 rk1 di)(b2:vF m2 rk2 db)(s1:nu (kR m1 rk1) di)(s2:nu (kR m2 rk2) db)(o3:0<=kind/\kind<=2)(hk:(k:Int)=iM n1 n2 kind)(fO:1<=k):
 ∃(el:Nat->Int×Int->Prop) (le:Int×Int->Int×Int->Prop),nt k ((cK m1 m2 rk1 rk2 kind k).map (dh rk1 rk2 kind)) (nH di db (cK m1 m2 rk1 rk2 kind k)) el le (gp (cK m1 m2 rk1 rk2 kind k))/\nu el le:=by
 have g1:=h1.DU b1;have g2:=h2.DU b2;rcases(show kind=0\/kind=1\/kind=2 by omega)with rfl | rfl | rfl
 ·have e:(k:Int)=n1+n2+1:=hk;have g:=We g1 g2;rw [show n1+1+ (n2+1)=k+1 by omega]at g;exact⟨_,_,ES h1 h2 fO g (fun i _ c=>SB h1 h2) (fun c d=>Iff.rfl),ahX g1 g2 s1 s2⟩
 ·have e:(k:Int)=n1+n2:=hk;have g:=Ii g1 g2 am am;rw [show n1+1+ (n2+1) - 1=k+1 by omega]at g;exact⟨_,_,ES h1 h2 fO g (fun i _ c=>Sz h1 h2) (fun c d=>Iff.rfl),R9 g1 g2 s1 s2⟩
 have e:(k:Int)=n1+n2:=hk;have g0:=Ii g1.oN g2.oN am am;have g:=g0.oN;have c0:=(R9 g1.oN g2.oN (s1.oN g1) (s2.oN g2)).oN g0;have hg:ia (k+1) (zL (n1+1) (n2+1) (kR m1 rk1) (kR m2 rk2)) (EG (oi (EG di) (EG db))):=by
  have:=g;rw [show n1+1+ (n2+1) - 1=k+1 by omega]at this;unfold zL;rw [show n1+1+ (n2+1) - 1=k+1 by omega];exact this
 exact⟨_,_,ES h1 h2 fO hg (fun i hi c=>SC h1 h2 am) (fun c d=>Iff.rfl),c0⟩
theorem alu(h1:gg m1 n1 rk1 di)(h2:gg m2 n2 rk2 db)(b1:vF m1 rk1 di)(b2:vF m2 rk2 db)(s1:nu (kR m1 rk1) di)(s2:nu (kR m2 rk2) db)(d1:xY m1 rk1 di)(d2:xY m2 rk2 db)(c1:Fb m1 n1 rk1 di)(c2:Fb m2 n2 rk2 db)(o3:0<=kind/\kind<=2)(hk:(k:Int)=iM n1 n2 kind)(kX:2<=k)(yL:1<=(n1:Int)/\(1<=(n2:Int)\/kind=0)):Bz k ((cK m1 m2 rk1 rk2 kind k).map (dh rk1 rk2 kind)) (nH di db (cK m1 m2 rk1 rk2 kind k)):=by
 obtain⟨el,le,hr,hs⟩:=alw h1 h2 b1 b2 s1 s2 o3 hk am;refine⟨XC h1 h2 c1 c2 o3 hk am yL,hr.pure fun e h0 h9=>?_,XB h1 h2 d1 d2 o3 hk kX yL,hr.con (abW hr.g hs)⟩;rw [fS]at h9;obtain⟨i,hi,_,e⟩:=xh ⟨h0,h9⟩;rw [e];omega
end
def jZ:Nat->Nat->Nat
 | 0,_=>1
 | _+1,0=>1
 | r+1,s+1=>jZ r (s+1)+jZ (r+1) s
theorem H6(s:Nat):jZ 0 s=1:=by rw [jZ]
theorem LF(r:Nat):jZ r 0=1:=by cases r<;>rw [jZ]
theorem RW(r s:Nat):jZ (r+1) (s+1)=jZ r (s+1)+jZ (r+1) s:=by rw [jZ]
section
variable{N:Nat}{R:ai}{B:ah}
variable {α:Type}
def cU(U:α->List α):Nat->α->Nat
 | 0,_=>1
 | r+1,a=> ((U a).map (cU U r)).sum
structure nr(el:Nat->α->Prop)(le:α->α->Prop)(U:α->List α):Prop where
 nd:∀ {p:Nat} {a:α},el p a->(U a).Nodup
 mem:∀ {p:Nat} {a b:α},el p a->(b∈U a↔el (p+1) b/\le a b)
theorem Hv{l m:List Nat}(h:l.Perm m):l.sum=m.sum:=by
 induction h with
 | nil=>rfl
 | cons x _ ih=>simp [ih]
 | swap x y l=>simp [Nat.add_left_comm]
 | trans _ _ h1 h2=>exact h1.trans h2
theorem Hg{l m:List α}(hl:l.Nodup)(hm:m.Nodup)(h:∀x,x∈l↔x∈m):l.Perm m:=(wM hl hm).2 h
theorem EZ{l:List α}{f g:α->Nat}(h:∀x∈l,f x=g x):(l.map f).sum=(l.map g).sum:=by rw [pj h]
theorem Qt(l:List α)(f:α->Nat)(k:Nat):(l.map fun x=>f x*k).sum=(l.map f).sum*k:=by
 induction l with
 | nil=>simp
 | cons x l ih=>simp only [List.map_cons,List.sum_cons,ih,Nat.add_mul]
theorem CJ{β:Type}{l:List α}{f:α->β}(hn:l.Nodup)(h:∀x∈l,∀y∈l,f x=f y->x=y):(l.map f).Nodup:=by
 induction l with
 | nil=>simp
 | cons x l ih=>
  rw [mf]at hn;rw [List.map_cons,mf];refine⟨fun hm=>?_,ih hn.2 fun a ha b hb=>h a (rB _ ha) b (rB _ hb)⟩;obtain⟨y,hy,e⟩:=dF.1 hm;have:=h y (rB _ hy) x (List.mem_cons_self ..) e;subst this;exact hn.1 hy
theorem nt.ext{n:Nat}{el:Nat->α->Prop}{le:α->α->Prop}{φ:Int->α}(h:nt n R B el le φ){U:α->List α}(hU:nr el le U):
 ∀(r:Nat) (e:Int) (i:Nat),0<=e/\e<R.length->gi R e=i->i+r<n->(nU R B r e).length=cU U r (φ e):=by
 intro r
 induction r with
 | zero=>intro e i _ _ _;rfl
 | succ r ih=>
  intro e i he hr hi;have jw:=h.CG e he i am hr;have hp:((kI R B e).map φ).Perm (U (φ e)):=by
   refine Hg (CJ (E4 R B e).nodup fun x hx y hy=>h.inj x y (np.1 hx).1 (np.1 hy).1) (hU.nd jw) fun b=>?_
   rw [dF,hU.mem jw];constructor
   ·rintro⟨f,hf,rfl⟩;have hf:=np.1 hf;refine⟨h.CG f hf.1 (i+1) am am,(h.inc e f he hf.1 hf.2.1).1 hf.2.2⟩
   ·rintro⟨h1,h2⟩;obtain⟨f,hf,k1,k2⟩:=h.Hw (i+1) b am h1;subst k2;exact⟨f,np.2 ⟨hf,am,(h.inc e f he hf am).2 h2⟩,O⟩
  show((kI R B e).flatMap fun f=> (nU R B r f).map (f:: ·)).length=((U (φ e)).map (cU U r)).sum;rw [List.length_flatMap,<-Hv (hp.map (cU U r)),List.map_map];refine EZ fun f hf=>?_
  have hf:=np.1 hf;rw [fS,ih f (i+1) hf.1 (by omega) (by omega)]
  rfl
theorem nt.flags{n:Nat}{el:Nat->α->Prop}{le:α->α->Prop}{φ:Int->α}(h:nt n R B el le φ){U:α->List α}(hU:nr el le U){o:α}(ho:el 0 o)(iK:∀(i:Nat) (a:α),el i a->le o a):(aG n R B).length=cU U n o:=by
 have hn:=h.n1;obtain⟨k,rfl⟩:∃k,n=k+1:=⟨n - 1,am⟩;have hp:((vM R).map φ).Perm (U o):=by
  refine Hg (CJ ((mM _).nodup.filter _) fun x hx y hy=>h.inj x y (uN.1 hx).1 (uN.1 hy).1) (hU.nd ho) fun b=>?_
  rw [dF,hU.mem ho];constructor
  ·rintro⟨f,hf,rfl⟩;have hf:=uN.1 hf;have:=h.CG f hf.1 0 am am;exact⟨this,iK _ _ this⟩
  rintro⟨h1,h2⟩;obtain⟨f,hf,k1,k2⟩:=h.Hw 0 b am h1;exact⟨f,uN.2 ⟨hf,am⟩,k2⟩
 show((vM R).flatMap fun e=> (nU R B (k+1 - 1) e).map (e:: ·)).length=((U o).map (cU U k)).sum;rw [List.length_flatMap,<-Hv (hp.map (cU U k)),List.map_map];refine EZ fun f hf=>?_
 have hf:=uN.1 hf;rw [fS,h.ext hU _ f 0 hf.1 (by omega) (by omega)]
 rfl
open Classical in
theorem nt.en{n:Nat}{el:Nat->α->Prop}{le:α->α->Prop}{φ:Int->α}(h:nt n R B el le φ)(hr:∀e:Int,0<=e->e<R.length->gi R e<n):∃U,nr el le U:=by
 obtain⟨t,ht,pL⟩:=h.g.top;have hL:∀(a:α) (e:Int),e∈(bY R.length).filter (fun e=>decide (∃p:Nat,el p a/\gi R e=(p:Int)/\le a (φ e)))↔(0<=e/\e<R.length)/\∃p:Nat,el p a/\gi R e=(p:Int)/\le a (φ e):=fun a e=>by
  rw [gy,ky,kB]
 refine⟨fun a=> ((bY R.length).filter (fun e=>decide (∃p:Nat,el p a/\gi R e=(p:Int)/\le a (φ e)))).map φ++ (if el n a then [t]else []),fun {p a} ha=>?_,fun {p a b} ha=>?_⟩
 ·rw [List.nodup_append];refine⟨CJ ((mM _).nodup.filter _) fun x hx y hy=>h.inj x y ((hL a x).1 hx).1 ((hL a y).1 hy).1,by split<;>simp,fun x hx y hy=>?_⟩
  split at hy
  ·rename_i hn;obtain⟨e,he,rfl⟩:=dF.1 hx;obtain⟨he,q,hq,AB,_⟩:=(hL a e).1 he;have:=h.g.one hq hn;have:=hr e he.1 he.2;omega
  cases hy
 rw [jd,dF];constructor
 ·rintro(⟨e,he,rfl⟩ | hb)
  ·obtain⟨he,q,hq,AB,hle⟩:=(hL a e).1 he;have e2:=h.g.one hq ha;have:=hr e he.1 he.2;exact⟨e2▸h.CG e he q am AB,hle⟩
  split at hb
  ·rename_i hn;have e2:=h.g.one hn ha;have:b=t:=by simpa using hb
   subst this;exact⟨e2▸ht,(pL _ _ ha).1⟩
  cases hb
 rintro⟨hb,hle⟩
 by_cases hp:p<n
 ·obtain⟨e,he,k1,k2⟩:=h.Hw p b hp hb;exact .inl ⟨e,(hL a e).2 ⟨he,p,ha,k1,by rw [k2];exact hle⟩,k2⟩
 have yw:=h.g.oJ hb;obtain rfl:p=n:=by omega
 refine .inr ?_;rw [aB ha,(pL _ _ hb).2 rfl];exact gj.2 O
theorem DD{el:Nat->α->Prop}{le:α->α->Prop}(g:ia (N+1) el le){U:α->List α}(hU:nr el le U):∀(r p:Nat) (a:α),el p a->p+r=N->cU U (r+1) a=cU U r a:=by
 intro r
 induction r with
 | zero=>
  intro p a ha hp;obtain⟨t,ht,pL⟩:=g.top;obtain rfl:p=N:=by omega
  have:(U a).Perm [t]:=Hg (hU.nd ha) (by simp) fun b=>by
   rw [hU.mem ha,gj];exact⟨fun h=> (pL _ _ h.1).2 rfl,fun h=>by subst h;exact⟨ht,(pL _ _ ha).1⟩⟩
  show((U a).map (cU U 0)).sum=1;rw [Hv (this.map _)];rfl
 | succ r ih=>
  intro p a ha hp;show((U a).map (cU U (r+1))).sum=((U a).map (cU U r)).sum;exact EZ fun b hb=>ih (p+1) b ((hU.mem ha).1 hb).1 am
end
section
variable {α β:Type} {N1 N2:Nat} {dN:Nat->α->Prop} {eV:α->α->Prop} {dO:Nat->β->Prop} {eW:β->β->Prop} {U1:α->List α} {U2:β->List β} {U:α×β->List (α×β)}
theorem LQ(h1:nr dN eV U1)(h2:nr dO eW U2){K1 K2 s:Nat}
 (hU:∀(p q r1 r2:Nat) (a:α) (b:β),s<=p->s<=q->dN p a->dO q b->p+r1=K1->q+r2=K2->1<=r1+r2->(U (a,b)).Perm ((if r1=0 then []else(U1 a).map fun x=> (x,b))++ (if r2=0 then []else(U2 b).map fun y=> (a,y)))):
 ∀(d r1 r2 p q:Nat) (a:α) (b:β),r1+r2=d->s<=p->s<=q->dN p a->dO q b->p+r1=K1->q+r2=K2->cU U d (a,b)=cU U1 r1 a*cU U2 r2 b*jZ r1 r2:=by
 intro d
 induction d with
 | zero=>
  intro r1 r2 p q a b hd _ _ _ _ _ _;obtain rfl:r1=0:=by omega
  obtain rfl:r2=0:=by omega
  rw [H6];rfl
 | succ d ih=>
  intro r1 r2 p q a b hd hp hq ha hb e1 e2;show((U (a,b)).map (cU U d)).sum=_;rw [Hv ((hU p q r1 r2 a b hp hq ha hb e1 e2 (by omega)).map (cU U d)),iI,List.sum_append];have k1:∀r,r1=r+1->(((U1 a).map fun x=> (x,b)).map (cU U d)).sum=cU U1 r1 a*cU U2 r2 b*jZ r r2:=fun r hr=>by
   subst hr;rw [List.map_map];have:((U1 a).map (cU U d∘fun x=> (x,b))).sum=((U1 a).map fun x=>cU U1 r x* (cU U2 r2 b*jZ r r2)).sum:=EZ fun x hx=>by
    show cU U d (x,b)=_;rw [ih r r2 (p+1) q x b (by omega) (by omega) hq ((h1.mem ha).1 hx).1 hb (by omega) e2,Nat.mul_assoc]
   rw [this,Qt,<-Nat.mul_assoc];rfl
  have k2:∀r,r2=r+1->(((U2 b).map fun y=> (a,y)).map (cU U d)).sum=cU U1 r1 a*cU U2 r2 b*jZ r1 r:=fun r hr=>by
   subst hr;rw [List.map_map];have:((U2 b).map (cU U d∘fun y=> (a,y))).sum=((U2 b).map fun y=>cU U2 r y* (cU U1 r1 a*jZ r1 r)).sum:=EZ fun y hy=>by
    show cU U d (a,y)=_;rw [ih r1 r p (q+1) a y (by omega) hp (by omega) ha ((h2.mem hb).1 hy).1 e1 (by omega),Nat.mul_assoc,Nat.mul_left_comm]
   rw [this,Qt];show cU U2 (r+1) b* (cU U1 r1 a*jZ r1 r)=_;rw [Nat.mul_left_comm,<-Nat.mul_assoc]
  cases r1 with
  | zero=>
   cases r2 with
   | zero=>omega
   | succ r2=>
    rw [aB rfl,az (by omega),k2 r2 rfl,H6,H6];simp
  | succ r1=>
   cases r2 with
   | zero=>rw [az (by omega),aB rfl,k1 r1 rfl,LF,LF];simp
   | succ r2=>
    rw [az (by omega),az (by omega),k1 r1 rfl,k2 r2 rfl,<-Nat.mul_add,RW]
theorem stepG(g1:ia N1 dN eV)(g2:ia N2 dO eW)(h1:nr dN eV U1)(h2:nr dO eW U2){el:Nat->α×β->Prop}(hU:nr el (oi eV eW) U){K1 K2 m p q r1 r2:Nat}{a:α}{b:β}(hm:el m (a,b))(ha:dN p a)(hb:dO q b)(jw:∀c:α×β,oi eV eW (a,b) c->(el (m+1) c↔∃i j,i<=K1/\j<=K2/\dN i c.1/\dO j c.2/\i+j=p+q+1))(e1:p+r1=K1)(e2:q+r2=K2):(U (a,b)).Perm ((if r1=0 then []else(U1 a).map fun x=> (x,b))++ (if r2=0 then []else(U2 b).map fun y=> (a,y))):=by
 have m1:∀c:α×β,(c∈if r1=0 then([]:List (α×β))else(U1 a).map fun x=> (x,b))↔r1≠0/\(dN (p+1) c.1/\eV a c.1)/\c.2=b:=fun c=>by
  split
  ·simp_all
  rw [dF];constructor
  ·rintro⟨x,hx,rfl⟩;exact⟨by assumption,(h1.mem ha).1 hx,rfl⟩
  rintro⟨_,hx,e⟩;exact⟨c.1,(h1.mem ha).2 hx,by rw [<-e]⟩
 have m2:∀c:α×β,(c∈if r2=0 then([]:List (α×β))else(U2 b).map fun y=> (a,y))↔r2≠0/\(dO (q+1) c.2/\eW b c.2)/\c.1=a:=fun c=>by
  split
  ·simp_all
  rw [dF];constructor
  ·rintro⟨x,hx,rfl⟩;exact⟨by assumption,(h2.mem hb).1 hx,rfl⟩
  rintro⟨_,hx,e⟩;exact⟨c.2,(h2.mem hb).2 hx,by rw [<-e]⟩
 refine Hg (hU.nd hm) ?_ fun c=>?_
 ·rw [List.nodup_append];refine⟨?_,?_,fun x hx y hy e=>?_⟩
  ·split
   ·simp
   exact CJ (h1.nd ha) fun x _ y _ e=> (Prod.mk.inj e).1
  ·split
   ·simp
   exact CJ (h2.nd hb) fun x _ y _ e=> (Prod.mk.inj e).2
  subst e;have hx:=(m1 x).1 hx;have hy:=(m2 x).1 hy;have:=hx.2.1.1;rw [hy.2.2]at this;have:=g1.one this ha;omega
 rw [hU.mem hm,jd,m1,m2];constructor
 ·rintro⟨hc,hle⟩;obtain⟨i,j,hi,hj,k1,k2,k3⟩:=(jw c hle).1 hc;have l1:=g1.lv ha k1 hle.1;have l2:=g2.lv hb k2 hle.2
  by_cases e:i=p
  ·subst e;obtain rfl:j=q+1:=by omega
   exact .inr ⟨am,⟨k2,hle.2⟩,(l1.2 O).symm⟩
  obtain rfl:i=p+1:=by omega
  obtain rfl:j=q:=by omega
  exact .inl ⟨am,⟨k1,hle.1⟩,(l2.2 O).symm⟩
 rintro(⟨k0,⟨k1,k2⟩,k3⟩ | ⟨k0,⟨k1,k2⟩,k3⟩)
 ·have hle:oi eV eW (a,b) c:=⟨k2,by rw [k3];exact g2.rf _⟩;exact⟨(jw c hle).2 ⟨p+1,q,am,am,k1,by rw [k3];exact hb,am⟩,hle⟩
 have hle:oi eV eW (a,b) c:=⟨by rw [k3];exact g1.rf _,k2⟩;exact⟨(jw c hle).2 ⟨p,q+1,am,am,by rw [k3];exact ha,k1,am⟩,hle⟩
end
section
variable {α β:Type} {n1 n2:Nat} {dN:Nat->α->Prop} {eV:α->α->Prop} {dO:Nat->β->Prop} {eW:β->β->Prop} {U1:α->List α} {U2:β->List β} {U:α×β->List (α×β)}
theorem Ma{p:Nat}(hp:p<=n1+n2){c:α×β}:zL (n1+1) (n2+1) dN dO p c↔∃i j,i<=n1/\j<=n2/\dN i c.1/\dO j c.2/\i+j=p:=by
 constructor
 ·rintro⟨hN,⟨e,_⟩ | ⟨i,j,hi,hj,⟨dw,a⟩,⟨gW,b⟩,e⟩⟩
  ·omega
  exact⟨n1+1 - i,n2+1 - j,am,am,a,b,am⟩
 rintro⟨i,j,hi,hj,a,b,e⟩;exact⟨am,.inr ⟨n1+1 - i,n2+1 - j,am,am,⟨am,by rw [show n1+1 - (n1+1 - i)=i by omega];exact a⟩,⟨am,by rw [show n2+1 - (n2+1 - j)=j by omega];exact b⟩,am⟩⟩
theorem abH(g1:ia (n1+1) dN eV)(g2:ia (n2+1) dO eW)(h1:nr dN eV U1)(h2:nr dO eW U2)(hU:nr (Iz dN dO) (oi eV eW) U){o1:α}{o2:β}(k1:dN 0 o1)(k2:dO 0 o2):
 cU U (n1+1+ (n2+1)) (o1,o2)=cU U1 n1 o1*cU U2 n2 o2*jZ (n1+1) (n2+1):=by
 rw [LQ h1 h2 (K1:=n1+1) (K2:=n2+1) (s:=0) (fun p q r1 r2 a b _ _ ha hb e1 e2 _=>stepG g1 g2 h1 h2 hU (m:=p+q) ⟨p,q,ha,hb,rfl⟩ ha hb (fun c _=>?_) e1 e2) _ (n1+1) (n2+1) 0 0 o1 o2 rfl (bg _) (bg _) k1 k2 (by omega) (by omega),DD g1 h1 n1 0 o1 k1 (by omega),DD g2 h2 n2 0 o2 k2 (by omega)];constructor
 ·rintro⟨i,j,a,b,e⟩;exact⟨i,j,g1.oJ a,g2.oJ b,a,b,e.symm⟩
 rintro⟨i,j,_,_,a,b,e⟩;exact⟨i,j,a,b,e.symm⟩
theorem abE(g1:ia (n1+1) dN eV)(g2:ia (n2+1) dO eW)(h1:nr dN eV U1)(h2:nr dO eW U2)(hU:nr (vP dN dO) (oi eV eW) U){o1:α}{o2:β}(k1:dN 0 o1)(k2:dO 0 o2)(b1:∀(i:Nat) (a:α),dN i a->eV o1 a)(b2:∀(i:Nat) (a:β),dO i a->eW o2 a):
 cU U (n1+n2+1) (o1,o2)=cU U1 n1 o1*cU U2 n2 o2*jZ n1 n2:=by
 have h0:vP dN dO 0 (o1,o2):= .inl ⟨O,k1,k2⟩;have hp:(U (o1,o2)).Perm ((U1 o1).flatMap fun v=> (U2 o2).map fun w=> (v,w)):=by
  refine Hg (hU.nd h0) ?_ fun c=>?_
  ·have:∀l:List α,l.Nodup->(l.flatMap fun v=> (U2 o2).map fun w=> (v,w)).Nodup:=fun l=>by
    induction l with
    | nil=>intro _;simp
    | cons x l ih=>
     intro hn;rw [mf]at hn;rw [List.flatMap_cons,List.nodup_append];refine⟨CJ (h2.nd k2) fun x _ y _ e=> (Prod.mk.inj e).2,ih hn.2,fun a ha b hb e=>?_⟩;subst e;obtain⟨w,_,rfl⟩:=dF.1 ha;obtain⟨v,hv,hb⟩:=List.mem_flatMap.1 hb;obtain⟨w',_,e⟩:=dF.1 hb;have:=(Prod.mk.inj e).1;subst this;exact hn.1 hv
   exact this _ (h1.nd k1)
  ·rw [hU.mem h0,List.mem_flatMap];constructor
   ·rintro⟨⟨e,_⟩ | ⟨i,j,hi,hj,a,b,e⟩,hle⟩
    ·omega
    ·obtain rfl:i=1:=by omega
     obtain rfl:j=1:=by omega
     exact⟨c.1,(h1.mem k1).2 ⟨a,hle.1⟩,dF.2 ⟨c.2,(h2.mem k2).2 ⟨b,hle.2⟩,O⟩⟩
   ·rintro⟨v,hv,hvw⟩;obtain⟨w,Kc,rfl⟩:=dF.1 hvw;have hv:=(h1.mem k1).1 hv;have hw:=(h2.mem k2).1 Kc;exact⟨.inr ⟨1,1,am,am,hv.1,hw.1,O⟩,⟨hv.2,hw.2⟩⟩
 have key:∀v∈U1 o1,∀w∈U2 o2,cU U (n1+n2) (v,w)=cU U1 n1 v*cU U2 n2 w*jZ n1 n2:=fun v hv w hw=>by
  have hv:=((h1.mem k1).1 hv).1;have hw:=((h2.mem k2).1 hw).1;refine LQ h1 h2 (K1:=n1+1) (K2:=n2+1) (s:=1) (fun p q r1 r2 a b hp hq ha hb e1 e2 _=>stepG g1 g2 h1 h2 hU (m:=p+q - 1) (.inr ⟨p,q,hp,hq,ha,hb,am⟩) ha hb (fun c hc=>?_) e1 e2) _ n1 n2 1 1 v w O (br _) (br _) hv hw am am;constructor
  ·rintro(⟨e,_⟩ | ⟨i,j,hi,hj,a,b,e⟩)
   ·omega
   ·exact⟨i,j,g1.oJ a,g2.oJ b,a,b,am⟩
  ·rintro⟨i,j,_,_,a,b,e⟩;have:=(g1.lv ha a hc.1).1;have:=(g2.lv hb b hc.2).1;exact .inr ⟨i,j,am,am,a,b,am⟩
 show((U (o1,o2)).map (cU U (n1+n2))).sum=_;rw [Hv (hp.map _),List.map_flatMap];have fl:∀l:List α,(∀v∈l,v∈U1 o1)->(l.flatMap fun v=> ((U2 o2).map fun w=> (v,w)).map (cU U (n1+n2))).sum=(l.map (cU U1 n1)).sum*cU U2 (n2+1) o2*jZ n1 n2:=fun l=>by
  induction l with
  | nil=>intro _;simp
  | cons v l ih=>
   intro hl;rw [List.flatMap_cons,List.sum_append,ih fun x hx=>hl x (rB _ hx),List.map_map,List.map_cons,List.sum_cons];have:((U2 o2).map (cU U (n1+n2)∘fun w=> (v,w))).sum=((U2 o2).map fun w=>cU U2 n2 w* (cU U1 n1 v*jZ n1 n2)).sum:=EZ fun w hw=>by
    show cU U (n1+n2) (v,w)=_;rw [key v (hl v (List.mem_cons_self ..)) w hw,Nat.mul_comm (cU U1 n1 v),Nat.mul_assoc]
   rw [this,Qt];show cU U2 (n2+1) o2*_+_=_;rw [Nat.add_mul,Nat.add_mul,Nat.mul_comm (cU U1 n1 v) (cU U2 (n2+1) o2),Nat.mul_assoc (cU U2 (n2+1) o2)]
 rw [fl _ fun v h=>h];show cU U1 (n1+1) o1*cU U2 (n2+1) o2*jZ n1 n2=_;rw [DD g1 h1 n1 0 o1 k1 (by omega),DD g2 h2 n2 0 o2 k2 (by omega)]
theorem abI(g1:ia (n1+1) dN eV)(g2:ia (n2+1) dO eW)(h1:nr dN eV U1)(h2:nr dO eW U2)(hU:nr (zL (n1+1) (n2+1) dN dO) (oi eV eW) U){o1:α}{o2:β}(k1:dN 0 o1)(k2:dO 0 o2):
 cU U (n1+n2) (o1,o2)=cU U1 n1 o1*cU U2 n2 o2*jZ n1 n2:=by
 refine LQ h1 h2 (K1:=n1) (K2:=n2) (s:=0) (fun p q r1 r2 a b _ _ ha hb e1 e2 _=>stepG g1 g2 h1 h2 hU (m:=p+q) ((Ma am).2 ⟨p,q,am,am,ha,hb,O⟩) ha hb (fun c _=>?_) e1 e2) _ n1 n2 0 0 o1 o2 O (bg _) (bg _) k1 k2 am am;exact Ma am
end
section
variable {m1 m2 n1 n2:Nat} {rk1 rk2:Int->Int} {di db:Int->Int->Prop} [DecidableRel di] [DecidableRel db] {kind:Int} {U1 U2:Int->ai}
theorem als(h1:gg m1 n1 rk1 di)(h2:gg m2 n2 rk2 db)(b1:vF m1 rk1 di)(b2:vF m2 rk2 db)(e1:nr (kR m1 rk1) di U1)(e2:nr (kR m2 rk2) db U2)(o3:0<=kind/\kind<=2){k:Nat}(hk:(k:Int)=iM n1 n2 kind)(fO:1<=k):(aG k ((cK m1 m2 rk1 rk2 kind k).map (dh rk1 rk2 kind)) (nH di db (cK m1 m2 rk1 rk2 kind k))).length=cU U1 n1 0*cU U2 n2 0* (if kind=0 then jZ (n1+1) (n2+1)else jZ n1 n2):=by
 have g1:=h1.DU b1;have g2:=h2.DU b2;have o1:kR m1 rk1 0 0:=⟨⟨am,by have:=h1.two;omega⟩,by rw [h1.r0];rfl⟩;have o2:kR m2 rk2 0 0:=⟨⟨am,by have:=h2.two;omega⟩,by rw [h2.r0];rfl⟩;have hr:∀e:Int,0<=e->e< ((cK m1 m2 rk1 rk2 kind k).map (dh rk1 rk2 kind)).length->gi ((cK m1 m2 rk1 rk2 kind k).map (dh rk1 rk2 kind)) e<k:=fun e h0 h9=>by
  rw [fS]at h9;obtain⟨i,hi,_,e⟩:=xh ⟨h0,h9⟩;rw [e];omega
 rcases(show kind=0\/kind=1\/kind=2 by omega)with rfl | rfl | rfl
 ·have e:(k:Int)=n1+n2+1:=hk;have g:=We g1 g2;have g':=g;rw [show n1+1+ (n2+1)=k+1 by omega]at g';have rp:=ES (kind:=0) h1 h2 fO g' (fun i _ c=>SB h1 h2) (fun c d=>Iff.rfl);obtain⟨U,hU⟩:=rp.en hr;rw [rp.flags hU (o:=(0,0)) ⟨0,0,o1,o2,rfl⟩ fun i a _=> ⟨h1.bot _,h2.bot _⟩,<-DD g' hU k 0 (0,0) ⟨0,0,o1,o2,rfl⟩ (by omega),aB rfl,<-abH g1 g2 e1 e2 hU o1 o2,show n1+1+ (n2+1)=k+1 by omega]
 ·have e:(k:Int)=n1+n2:=hk;have g:=Ii g1 g2 am am;have g':=g;rw [show n1+1+ (n2+1) - 1=k+1 by omega]at g';have rp:=ES (kind:=1) h1 h2 fO g' (fun i _ c=>Sz h1 h2) (fun c d=>Iff.rfl);obtain⟨U,hU⟩:=rp.en hr;have ho:vP (kR m1 rk1) (kR m2 rk2) 0 (0,0):= .inl ⟨O,o1,o2⟩;rw [rp.flags hU (o:=(0,0)) ho fun i a _=> ⟨h1.bot _,h2.bot _⟩,<-DD g' hU k 0 (0,0) ho (by omega),az (by omega),<-abE g1 g2 e1 e2 hU o1 o2 (fun _ a _=>h1.bot a) (fun _ a _=>h2.bot a),show n1+n2+1=k+1 by omega]
 have e:(k:Int)=n1+n2:=hk;have g:=(Ii g1.oN g2.oN am am).oN;have hg:ia (k+1) (zL (n1+1) (n2+1) (kR m1 rk1) (kR m2 rk2)) (oi di db):=by
  have:=g;rw [show n1+1+ (n2+1) - 1=k+1 by omega]at this;unfold zL;rw [show n1+1+ (n2+1) - 1=k+1 by omega];exact this
 have rp:=ES (kind:=2) h1 h2 fO hg (fun i hi c=>SC h1 h2 am) (fun c d=>Iff.rfl);obtain⟨U,hU⟩:=rp.en hr;have ho:zL (n1+1) (n2+1) (kR m1 rk1) (kR m2 rk2) 0 (0,0):=(Ma am).2 ⟨0,0,am,am,o1,o2,O⟩;rw [rp.flags hU (o:=(0,0)) ho fun i a _=> ⟨h1.bot _,h2.bot _⟩,az (by omega),<-abI g1 g2 e1 e2 hU o1 o2,show n1+n2=k by omega]
end
end
section
open Go.RowKit
section
variable {P:Program} {N:Nat} {ops:Array Oper} {K:Env->aa->Prop} {rest:List Oper} {e:Env} {w:aa} {d:Nat} {ty:ae} {pos:String} {af:Array Edge} {x y:ag} {xt yt:ae} {i:Int}
theorem Fs{k:IntKind}(hx:ev e x= .int .u64 i)(hy:ev e y= .int k 1)(hb:Nat.blt d N=true)(h0:0<=i)(hK:ao P N ops K rest (bn e d (.int .u64 (i / 2))) w):
 ao P N ops K (⟨some d,.binOp .shr xt x y yt,ty,pos,af,none⟩::rest) e w:=by
 refine .val (v:= .int .u64 (i / 2)) ?_ hb hK;have e1:min 1 IntKind.u64.bits=1:=by decide
 have e2:i.fdiv 2=i / 2:=Int.fdiv_eq_ediv_of_nonneg _ an;simp [execOp,hx,hy,eqGuard,binOp,Op.shift,e1,e2]
end
section
variable {w:aa} {e:Env}
theorem PW{R:ad->aa->Prop}{t u:Nat}{b:Bool}{k:IntKind}{i:Int}(h:e t= .int k i)(h2:e u= .bool b)(hR:R (.tuple #[.int k i,.bool b]) w):ET t u R .ret e w:=by show R (.tuple #[e t,e u]) w;rw [h,h2];exact hR
end
theorem abC(x:Int)(w:aa):aJ prog 266 [ak x] w (fun v w'=>v= .bool (decide (¬x=x))/\w'=w):=by
 refine bC func266 O ntmps266 O (df O) (Ff O (dq O ?_));exact⟨O,O⟩
theorem Sd(x y:Int)(w:aa):aJ prog 217 [ak x,ak y] w (fun v w'=>v= .bool (decide (x<y))/\w'=w):=by
 refine bC func217 O ntmps217 O (df O) (bh O (aL (abC x w) O ?_));rintro _ _ ⟨rfl,rfl⟩;refine ar O (dI 7 O (fun h=>absurd O h) (fun _=>?_));refine aK O (aK O (aK O (ar O (aw O (ar O (aw O (ar O (aw O (bH O ?_)))))))));exact dq O ⟨O,O⟩
theorem amM(x:Int)(w:aa):aJ prog 218 [ak x] w (fun v w'=>v= .bool (decide (¬x=x))/\w'=w):=by
 refine bC func218 O ntmps218 O (df O) (Ff O (dq O ?_));exact⟨O,O⟩
theorem RS(A:aj)(n c:Nat)(xs:ai)(x:Int)(w:aa)(hR:cL w A n xs)(hs:SA xs)(hn:n<=1000000000):
 aJ prog 163 [.slice A n c,ak x] w (fun v w'=> (∃k:Int,v= .tuple #[ak k,.bool (decide (x∈xs))])/\w'=w):=by
 have iU:=hR.1;refine bC func163 O ntmps163 O (pV O) ?_;refine bh O (a8 O O (aC O ?_));refine Cd.loop (α:=Nat×Nat) (fun z=> [(0,.slice A n c),(1,ak x),(6,ak n),(7,ak (z.1:Int)),(8,ak (z.2:Int))]) (fun z w'=>w'=w/\z.1<=z.2/\z.2<=n/\(∀p:Nat,p<z.1->gi xs p<x)/\∀p:Nat,z.2<=p->p<n->x<=gi xs p) (fun z=>z.2 - z.1) (0,n) (aqv O) ⟨O,bg _,br _,fun p hp=>absurd hp (oF _),fun p hp jL=>by have hp:n<=p:=hp;omega⟩ ?_;rintro⟨i,j⟩ e w ⟨rfl,iy,mV,fo,dv⟩;dsimp only at iy mV fo dv|-;refine bL O (aM _ O (fun h1=>?_) (fun h1=>?_))
 ·refine aA O (aI O ?_);refine qc O O (xT _ am) (Fs O O O am (qc O O (IntWalk.i64_in _ am) ?_));obtain⟨h,hh⟩:∃h:Nat,h=(i+j) / 2:=⟨_,rfl⟩;rw [show((i:Int)+ (j:Int)) / 2=(h:Int) by omega];refine ar O (aD hR.2 O (aY hR O (ar O (aL (Sd _ _ _) O ?_))));rintro _ _ ⟨rfl,rfl⟩;refine aC O (aM _ O (fun h2=>?_) (fun h2=>?_))
  ·refine aA O (aI O (aT O (tQ ?_)));refine⟨(h+1,j),by show j - (h+1)<j - i;omega,(aqv O),O,by show h+1<=j;omega,mV,fun p hp=>?_,dv⟩;have hp:p<h+1:=hp
   by_cases e:p=h
   ·subst e;exact h2
   have:=hs.AL (show p<h by omega) am;omega
  refine oC O (tQ ?_);refine⟨(i,h),by show h - i<j - i;omega,(aqv O),O,by show i<=h;omega,by show h<=n;omega,fo,fun p hp jL=>?_⟩;have hp:h<=p:=hp
  by_cases e:p=h
  ·subst e;omega
  have:=hs.AL (show h<p by omega) am;omega
 obtain rfl:i=j:=by omega
 have gv:∀p:Nat,p<n->gi xs p=x->p=i:=fun p hp hx=>by
  rcases Nat.lt_trichotomy p i with h | h | h
  ·have:=fo p h;omega
  ·exact h
  have h3:=hs.AL h am;have h4:=dv i (br _) am;omega
 have lC:x∈xs↔i<n/\gi xs i=x:=by
  constructor
  ·intro hm;obtain⟨p,hp,e⟩:=gC.1 hm;have e2:gi xs p=x:=by rw [bV hp];exact e
   have:=gv p am e2;subst this;exact⟨am,e2⟩
  rintro⟨h2,h3⟩;rw [<-h3];exact gi_in am
 refine bp O (bt (cS O ?_));refine dI 35 O (fun h2=>?_) (fun h2=>?_)
 ·refine aw O (ar O (aw O (ar O (aw O ?_))));refine aD hR.2 O (aw O (aY hR O ?_));refine aw O (ar O (aw O (ar O (aw O (ar O ?_)))));refine dI 42 O (fun h3=>?_) (fun h3=>?_)
  ·refine aK O (aK O (aK O (aK O (aK O (aK O (fT O O O O (fT O O O O (aK O (aw O (bH O ?_))))))))));refine PW O O ?_;exact⟨⟨_,by rw [dz (lC.2 ⟨by omega,h3⟩)]⟩,O⟩
  refine aw O (ar O (aw O (ar O (aw O ?_))));refine aD hR.2 O (aw O (aY hR O (aw O (aL (amM _ _) O ?_))));rintro _ _ ⟨rfl,rfl⟩;refine aw O (ar O ?_);refine dI 48 O (fun h=>absurd O h) (fun _=>?_);refine aK O (aK O (aw O (ar O (aw O (bH O ?_)))));refine PW O O ?_;exact⟨⟨_,by rw [cT (fun h=>h3 (lC.1 h).2)]⟩,O⟩
 refine aK O (aK O (aK O (aK O (aK O (aK O (aK O (fT O O O O (fT O O O O (fT O O O O (fT O O O O (fT O O O O ?_)))))))))));refine fT O O O O (fT O O O O (fT O O O O (fT O O O O (aK O (bH O ?_)))));refine PW O O ?_;exact⟨⟨_,by rw [cT (fun h=>by have:=(lC.1 h).1;omega)]⟩,O⟩
theorem V7(P A D:aj)(cA r cD:Nat)(n:Int)(N:Nat)(rs:List aO)(B:ah)(e f:Int)(w:aa)(hP:Rd w P 3 (fun j=> [Value.int .i64 n,.slice A r cA,.slice D N cD].getD j undef))(hB:bF w D N rs B)(s5:B.length=N)(hf:0<=f/\f<N)(hs:SA (gl B f))(hl:(gl B f).length<=1000000):
 aJ prog 165 [.pointer P,ak e,ak f] w (fun v w'=>v= .bool (decide (e∈gl B f))/\w'=w):=by
 have bS:=hB.at_ (i:=f) hf.1 hf.2;have jk:=bS.1;refine bC func165 O ntmps165 O (df O) (bh O ?_);refine lN hP an O O (aV hP O (bj hP O (ar O (aD hB.top.2 O (b9 hB.top O (ar O (aL (RS _ _ _ (gl B f) e w bS hs am) O ?_)))))));rintro _ _ ⟨⟨k,rfl⟩,rfl⟩;refine bH O (dq O ?_);exact⟨O,O⟩
theorem wq(P A D:aj)(cA cD:Nat)(n:Int)(R:ai)(rs:List aO)(B:ah)(e f:Int)(w:aa)(hP:Rd w P 3 (fun j=> [Value.int .i64 n,.slice A R.length cA,.slice D B.length cD].getD j undef))(hB:bF w D B.length rs B)(hf:0<=f/\f<B.length)(hs:SA (gl B f))(hl:(gl B f).length<=1000000):
 aJ prog 165 [.pointer P,ak e,ak f] w (fun v w'=>v= .bool (decide (e∈gl B f))/\w'=w):=
 V7 P A D cA R.length cD n B.length rs B e f w hP hB rfl hf hs hl
theorem Pb{t1 t2:ae}{A:aj}{n c:Nat}{rs:List aO}{xss:ah}{ks:List Ck}{q:Ck}{i:Nat}(s:aO)(xs:ai)(hr:rs.length=xss.length)(hi:i<rs.length):(q::(aS t1 t2 A n c rs xss++ks)).set (2+i) (ax t2 s.a s.n s.c xs)=q::(cg t1 A n c rs::(da t2 (rs.set i s) (xss.set i xs)++ks)):=by
 rw [show 2+i=i+1+1 by omega,List.set_cons_succ];show _::(cg t1 A n c rs::(da t2 rs xss++ks)).set (i+1) _=_;rw [List.set_cons_succ,List.set_append_left _ _ (by rw [CZ hr];exact hi),Qf hr]
def kk(M:ah)(i f:Nat):ah:=(List.range (gl M 0).length).map fun g=> (List.range (if g<f then i+1 else i)).map fun k=>dd M k g
def qg(M:ah):ah:=(List.range (gl M 0).length).map fun g=> (List.range M.length).map fun k=>dd M k g
theorem IM(M:ah)(i f:Nat):(kk M i f).length=(gl M 0).length:=by simp [kk]
theorem ac5(M:ah)(f:Nat)(h:f=0):kk M 0 f=List.replicate (gl M 0).length []:=by
 subst h;apply jE (by simp [kk]);intro i h1 h2;simp [kk]
theorem ac3(M:ah)(i:Nat):kk M i (gl M 0).length=kk M (i+1) 0:=by
 unfold kk;refine pj fun g hg=>?_
 rw [aB (ig.1 hg),az (oF _)]
theorem ac2(M:ah):kk M M.length 0=qg M:=by
 unfold kk qg;exact pj fun g _=>by rw [az (oF _)]
theorem IL{M:ah}{i f g:Nat}(hg:g< (gl M 0).length):gl (kk M i f) g=(List.range (if g<f then i+1 else i)).map fun k=>dd M k g:=by
 rw [bR (by rw [IM];exact hg)];simp [kk]
theorem ac4{M:ah}{i f:Nat}(hf:f< (gl M 0).length):(kk M i f).set f (gl (kk M i f) f++ [dd M i f])=kk M i (f+1):=by
 apply jE (by simp [kk]);intro g h1 h2;have hg:g< (gl M 0).length:=by rw [IM]at h2;exact h2
 rw [List.getElem_set];have e:(kk M i (f+1))[g]=gl (kk M i (f+1)) g:=by rw [bR h2]
 rw [e,IL hg]
 by_cases h:f=g
 ·subst h;rw [aB rfl,aB (by omega),IL hg,az (by omega),jU,iI];rfl
 rw [az h];have e2:(kk M i f)[g]'(by rw [IM];exact hg)=gl (kk M i f) g:=by rw [bR]
 rw [e2,IL hg]
 by_cases h3:g<f
 ·rw [aB h3,aB (by omega)]
 rw [az h3,az (by omega)]
theorem Ku{M:ah}:∀i,aR M i<=i* (gl M 0).length
 | 0=>bg _
 | i+1=>by
  have h1:=Ku (M:=M) i;have h2:=DO M i;show aR M i+ (jg M i).toNat<=_;rw [Nat.succ_mul];omega
theorem aaK(Ab A:aj)(n c:Nat)(rs:List aO)(M:ah)(w:aa)(hB:Rd w Ab 1 (fun _=> .slice A n c))(hR:bF w A n rs M)(hM:bI M):
 aJ prog 158 [.pointer Ab] w (fun v w'=>∃A' rs',v= .slice A' (gl M 0).length (gl M 0).length/\rs'.length=(gl M 0).length/\St w w' (aS 34 2 A' (gl M 0).length (gl M 0).length rs' (qg M)++ [])):=by
 have hl:=hR.len;have h1:=hM.1;have h2:=hM.2.1;have e0:(rg rs 0).n=(gl M 0).length:=(hR.nI am am).symm;have Av:∀i,i<=n->aR M i<=2000:=fun i hi=>by
  have h3:=Ku (M:=M) i;have h4:i* (gl M 0).length<=5*400:=Nat.mul_le_mul am am;omega
 generalize hF:(gl M 0).length=F at*;refine bC func158 O ntmps158 O (df O) (bh O (aL (uU Ab A n c rs M _ w hB O hR am) O ?_));rintro _ w ⟨rfl,rfl⟩;rw [e0];refine Lh F (St.refl w) O O am ?_;intro A3 w1 aH;have aH:St w w1 (aS 34 2 A3 F F (List.replicate F eY) (List.replicate F [])):=Kt F aH;refine ar O (aL (ER Ab A n c _ _ (aH.sd hB) O) O ?_);rintro _ w1 ⟨rfl,rfl⟩;refine aC O ?_;refine Cd.loop (α:=Nat×List aO) (fun z=> [(0,.pointer Ab),(3,.slice A3 F F),(4,ak (aR M z.1:Int)),(14,ak n),(15,ak (z.1:Int))]) (fun z w'=>z.1<=n/\z.2.length=F/\St w w' (aS 34 2 A3 F F z.2 (kk M z.1 0)++ [])) (fun z=>n - z.1) (0,List.replicate F eY) (aqv O) ⟨bg _,by simp,by rw [ac5 M 0 O,hF,fI];exact aH⟩ ?_;clear aH;rintro⟨i,EV⟩ e w2 ⟨hi,cn,hS⟩;dsimp only at hi cn hS|-;have xu:=Av i hi;refine bL O (aM _ O (fun h3=>?_) (fun h3=>?_))
 ·have cI:i<n:=by omega
  have qS:=Av (i+1) am;have l4:=DO M i;have Cq:aR M (i+1)=aR M i+ (jg M i).toNat:=O;refine aA O (aL (SS Ab A n c rs M i _ (hS.sd hB) (hS.b7 hR) hM cI) O ?_);rintro _ w3 ⟨A6,rfl,av⟩;have aQ:=(hS.call av).perm (nL (l₁:=[ax 2 A6 (gl M 0).length (gl M 0).length (eT M i)]));rw [hF]at aQ|-;clear av hS;refine ar O (a8 O O (aC O ?_));refine Cd.loop (α:=Nat×List aO) (fun z=> [(0,.pointer Ab),(3,.slice A3 F F),(4,ak (aR M i:Int)),(7,ak (jg M i)),(14,ak n),(15,ak i),(24,.slice A6 F F),(5,ak i),(25,ak F),(26,ak (z.1:Int))]) (fun z w'=>z.1<=F/\z.2.length=F/\St w w' (aS 34 2 A3 F F z.2 (kk M i z.1)++ [ax 2 A6 F F (eT M i)])) (fun z=>F - z.1) (0,EV) (aqv O) ⟨bg _,cn,by simpa using aQ⟩ ?_;clear aQ;rintro⟨f,dH⟩ e w4 ⟨hf,vk,aX⟩;dsimp only at hf vk aX|-;have UQ:=IM M i f;rw [hF]at UQ;refine bL O (aM _ O (fun h4=>?_) (fun h4=>?_))
  ·have ub:f<F:=by omega
   have km:=St.jB aX UQ;have mo:(aS 34 2 A3 F F dH (kk M i f)++ [ax 2 A6 F F (eT M i)])[F+1]?=some (ax 2 A6 F F (eT M i)):=by
    rw [mc (by rw [WM (by omega)];omega),WM (by omega),vk,Nat.sub_self];rfl
   have Em:cL w4 A6 F (eT M i):=aX.bz (F+1) mo;have hin2:=yh hM (i:=i) (f:=f) am;have afC:(aR M i:Int)+gi (eT M i) f=dd M i f:=O;have bS:=km.at_ (i:=(f:Int)) am am;have jk:(rg dH f).n<=5:=by
    have:=bS.1;rw [<-this,IL (by omega),az (by omega)];simp;omega
   refine aA O (aD Em.2 O (aY Em O (ar O (aD km.top.2 O (b9 km.top O ?_)))));refine ar O (aI O ?_);refine eL aX O O O ?_;intro AQ wQ hQ;have th:(ax 2 AQ 1 1 [((aR M i:Int)+gi (eT M i) f)]::(aS 34 2 A3 F F dH (kk M i f)++ [ax 2 A6 F F (eT M i)]))[2+f]?=some (ax 2 (rg dH f).a (rg dH f).n (rg dH f).c (gl (kk M i f) f)):=by
    have h0:=G4 (t1:=34) (t2:=2) (A:=A3) (n:=F) (c:=F) (rs:=dH) (xss:=(kk M i f)) (pre:=[ax 2 AQ 1 1 [((aR M i:Int)+gi (eT M i) f)]]) (ks:=[ax 2 A6 F F (eT M i)]) (i:=f) am am;exact h0
   refine fu (2+f) hQ th (hQ.bz 0 O) O O O ?_;intro AZ cZ wZ hZ;rw [Pb ⟨AZ,(rg dH f).n+1,cZ⟩ (gl (kk M i f) f++ [((aR M i:Int)+gi (eT M i) f)]) (by omega) (by omega)]at hZ;have T8:mT wZ A3 F dH:=hZ.fQ 1 O;refine aD T8.2 O (Fu (te:=34) (n:=F) (c:=F) (A:=A3) (xs:=dH) 1 hZ O O O am ?_);intro wY hY;have ba:St w wY (aS 34 2 A3 F F (dH.set f ⟨AZ,(rg dH f).n+1,cZ⟩) ((kk M i f).set f (gl (kk M i f) f++ [((aR M i:Int)+gi (eT M i) f)]))++ [ax 2 A6 F F (eT M i)]):=St.tail hY;clear hY T8 hZ th hQ;rw [afC,ac4 (by omega)]at ba;refine ar O (aI O (aT O (tQ ?_)));exact⟨(f+1,_),by show F - (f+1)<F - f;omega,(aqv O),by show f+1<=F;omega,by simp [vk],ba⟩
  have ub:f=F:=by omega
  subst ub;have iS:=ac3 M i;rw [hF]at iS;rw [iS]at aX;refine bp O (bt (cS O (aI O (ar O (aI O (aT O (tQ ?_)))))));exact⟨(i+1,dH),by show n - (i+1)<n - i;omega,⟨O,O,by show Value.int .i64 ((aR M i:Int)+jg M i)=ak ((aR M (i+1):Nat):Int);congr 1;omega,O,O,au⟩,by show i+1<=n;omega,vk,aX.sub (List.Sublist.append_left (List.nil_sublist _) _)⟩
 have cI:i=n:=by omega
 subst cI;have he:=ac2 M;rw [hl]at he;rw [he]at hS;refine bp O (bt (gw O ?_));exact gJ O ⟨A3,EV,O,cn,hS⟩
theorem aiP{a b:ai}{k:Nat}(ha:k<a.length)(hb:k<b.length):jl (a.drop k) (b.drop k)=if nS (gi a k) (gi b k)=0 then jl (a.drop (k+1)) (b.drop (k+1))else nS (gi a k) (gi b k):=by
 rw [List.drop_eq_getElem_cons ha,List.drop_eq_getElem_cons hb,bV ha,bV hb]
 rfl
theorem aiO{a b:ai}{k:Nat}(ha:k<a.length)(hb:b.length<=k):jl (a.drop k) (b.drop k)=1:=by
 rw [List.drop_eq_getElem_cons ha,List.drop_of_length_le hb]
 rfl
theorem aiN{a b:ai}{k:Nat}(ha:a.length<=k):jl (a.drop k) (b.drop k)=if k<b.length then -1 else 0:=by
 rw [List.drop_of_length_le ha]
 split
 ·rename_i h;rw [List.drop_eq_getElem_cons h]
  rfl
 rename_i h;rw [List.drop_of_length_le (by omega)]
 rfl
theorem G1(x:Int)(w:aa):aJ prog 266 [ak x] w (fun v w'=>v= .bool false/\w'=w):=by
 refine bC func266 O ntmps266 O (df O) (Ff O (dq O ?_));exact⟨by simp,O⟩
theorem abx(x y:Int)(w:aa):aJ prog 209 [ak x,ak y] w (fun v w'=>v=ak (nS x y)/\w'=w):=by
 refine bC func209 O ntmps209 O (df O) (bh O (aL (G1 _ _) O ?_));rintro _ w ⟨rfl,rfl⟩;refine ar O (aL (G1 _ _) O ?_);rintro _ w ⟨rfl,rfl⟩;refine aC O (Cd.fg O (dA O (Cd.fg O (dA O ?_))));refine aM _ O (fun h1=>?_) (fun h1=>?_)
 ·refine dM O (iH O ?_);exact⟨by rw [nS,aB h1],O⟩
 refine dA O (aM _ O (fun h2=>?_) (fun h2=>?_))
 ·refine dM O (iH O ?_);exact⟨by rw [nS,az h1,aB h2],O⟩
 refine dM O (iH O ?_);exact⟨by rw [nS,az h1,az h2],O⟩
theorem Zk(A:aj)(n c:Nat)(xs:ai)(A':aj)(n' c':Nat)(ys:ai)(w:aa)(hX:cL w A n xs)(hY:cL w A' n' ys)(hn:n<=9223372036854775807):
 aJ prog 150 [.slice A n c,.slice A' n' c'] w (fun v w'=>v=ak (jl xs ys)/\w'=w):=by
 have iU:=hX.1;have Ey:=hY.1;refine bC func150 O ntmps150 O (df O) ?_;refine bh O (a8 O O (aC O ?_));refine Cd.loop (α:=Nat) (fun k=> [(0,.slice A n c),(1,.slice A' n' c'),(9,.slice A n c),(10,ak n),(11,ak k)]) (fun k w'=>w'=w/\k<=n/\k<=n'/\jl xs ys=jl (xs.drop k) (ys.drop k)) (fun k=>n - k) 0 (aqv O) ⟨O,bg _,bg _,O⟩ ?_;rintro k e w ⟨rfl,hk,eI,hK⟩;refine bL O (aM _ O (fun h1=>?_) (fun h1=>?_))
 ·refine aA O (aD hX.2 O (aY hX O ?_));refine ar O (a8 O O (aC O ?_));refine aM _ O (fun h2=>?_) (fun h2=>?_)
  ·refine dM O (fB (fe ?_));refine iH O ?_;exact⟨by rw [hK,aiO (by omega) (by omega)],O⟩
  rw [aiP (by omega) (by omega)]at hK;refine aA O (aD hY.2 O (aY hY O (ar O (aL (abx _ _ _) O ?_))));rintro _ w ⟨rfl,rfl⟩;refine aC O (aM _ O (fun h3=>?_) (fun h3=>?_))
  ·refine dM O (fB (fe ?_));refine iH O ?_;exact⟨by rw [hK,az h3],O⟩
  rw [aB (jR.1 h3)]at hK;refine aA O (aI O (aT O (tQ ?_)));exact⟨k+1,by show n - (k+1)<n - k;omega,(aqv O),O,am,am,hK⟩
 rw [aiN (by omega)]at hK;have jb:k=n:=by omega
 subst jb;refine bp O (bt (cS O (a8 O O (ar O (a8 O O (aC O ?_))))));refine aM _ O (fun h2=>?_) (fun h2=>?_)
 ·refine dM O (iH O ?_);exact⟨by rw [hK,aB (by omega)],O⟩
 refine dM O (iH O ?_);exact⟨by rw [hK,az (by omega)],O⟩
theorem Zq(A:aj)(n c:Nat)(xs:ai)(A':aj)(n' c':Nat)(ys:ai)(w:aa)(hR:cL w A n xs)(zW:cL w A' n' ys)(hn:n<=9223372036854775807):
 aJ prog 254 [.slice A n c,.slice A' n' c'] w (fun v w'=>v= .bool (decide (xs=ys))/\St w w' []):=by
 have hl:=hR.1;have wg:=zW.1;subst hl;subst wg;refine bC func254 O ntmps254 O (df O) ?_;refine bh O (a8 O O (ar O (a8 O O (aC O ?_))));refine aM _ O (fun h=>?_) (fun h=>?_)
 ·refine dM O (dq O ?_);exact⟨by rw [cT (fun e:xs=ys=>h (by rw [e]))],St.refl _⟩
 refine aA O (a8 O O (aC O ?_));refine Cd.loop (α:=Nat) (fun k=> [(0,.slice A xs.length c),(1,.slice A' ys.length c'),(12,ak (xs.length:Int)),(13,ak k)]) (fun k w'=>St w w' []/\k<=xs.length/\xs.take k=ys.take k) (fun k=>xs.length - k) 0 (aqv O) ⟨St.refl w,bg _,O⟩ ?_;rintro k e w2 ⟨aF,hk,hI⟩;have hle:xs.length=ys.length:=by omega
 refine bL O (aM _ O (fun h1=>?_) (fun h1=>?_))
 ·have hA:=aF.gA hR;have hB:=aF.gA zW;have h2:(k:Int)<ys.length:=by omega
  have hx:=bV (p:=xs) (k:=k) am;have hy:=bV (p:=ys) (k:=k) am;refine dA O (dU [xS (A) (xs.length) (c),xI ((k:Int)),xP (ay (A) ((k:Int)).toNat),xI (gi (xs) ((k:Int))),xS (A') (ys.length) (c'),xI ((k:Int)),xP (ay (A') ((k:Int)).toNat),xI (gi (ys) ((k:Int))),xB (decide (¬(gi (xs) ((k:Int)))=(gi (ys) ((k:Int)))))] O (eG O) ?_ ?_)
  ·exact⟨Dr O,Dr O,fun _ _ hb _ _=>aD (hA.aq hb).2 O Az,fun _ _ hb _ _=>aY (hA.aq hb) O Az,Dr O,Dr O,fun _ _ hb _ _=>aD (hB.aq hb).2 O Az,fun _ _ hb _ _=>aY (hB.aq hb) O Az,Dr O,au⟩
  intro u w3 gI _;have aQ:=aF.aq gI;refine eS O (aM _ O (fun h3=>?_) (fun h3=>?_))
  ·refine dM O (fB (fe ?_));refine dq O ?_;refine⟨by rw [cT (fun e:xs=ys=>h3 (by rw [e]))],aQ⟩
  refine aA O (aI O (aT O (tQ ?_)));refine⟨k+1,am,(aqv O),aQ,am,?_⟩;rw [wE (by omega),wE (by omega),hI,jR.1 h3]
 refine bp O (bt (gw O ?_));refine dq O ⟨?_,aF⟩;rw [iY (by omega),iY (by omega)]at hI;rw [dz hI]
theorem aia(A:aj)(n c:Nat)(xs:ai)(A':aj)(n' c':Nat)(ys:ai)(w:aa)(hR:cL w A n xs)(zW:cL w A' n' ys)(hn:n<=9223372036854775807):
 aJ prog 184 [.slice A n c,.slice A' n' c'] w (fun v w'=>v= .bool (decide (xs=ys))/\St w w' []):=by
 have hl:=hR.1;have wg:=zW.1;subst hl;subst wg;refine bC func184 O ntmps184 O (df O) ?_;refine bh O (a8 O O (ar O (a8 O O (aC O ?_))));refine aM _ O (fun h=>?_) (fun h=>?_)
 ·refine dM O (dq O ?_);exact⟨by rw [cT (fun e:xs=ys=>h (by rw [e]))],St.refl _⟩
 refine dA O (Cd.loop (α:=Nat) (fun k=> [(0,.slice A xs.length c),(1,.slice A' ys.length c'),(5,ak k)]) (fun k w'=>St w w' []/\k<=xs.length/\xs.take k=ys.take k) (fun k=>xs.length - k) 0 (aqv O) ⟨St.refl w,bg _,O⟩ ?_);rintro k e w2 ⟨aF,hk,hI⟩;have hle:xs.length=ys.length:=by omega
 refine bh O (a8 O O (aC O ?_));refine aM _ O (fun h1=>?_) (fun h1=>?_)
 ·have hA:=aF.gA hR;have hB:=aF.gA zW;have h2:(k:Int)<ys.length:=by omega
  have hx:=bV (p:=xs) (k:=k) am;have hy:=bV (p:=ys) (k:=k) am;refine dA O (dU [xS (A) (xs.length) (c),xI ((k:Int)),xP (ay (A) ((k:Int)).toNat),xI (gi (xs) ((k:Int))),xS (A') (ys.length) (c'),xI ((k:Int)),xP (ay (A') ((k:Int)).toNat),xI (gi (ys) ((k:Int))),xB (decide (¬(gi (xs) ((k:Int)))=(gi (ys) ((k:Int)))))] O (eG O) ?_ ?_)
  ·exact⟨Dr O,Dr O,fun _ _ hb _ _=>aD (hA.aq hb).2 O Az,fun _ _ hb _ _=>aY (hA.aq hb) O Az,Dr O,Dr O,fun _ _ hb _ _=>aD (hB.aq hb).2 O Az,fun _ _ hb _ _=>aY (hB.aq hb) O Az,Dr O,au⟩
  intro u w3 gI _;have aQ:=aF.aq gI;refine eS O (aM _ O (fun h3=>?_) (fun h3=>?_))
  ·refine dM O (fB (fe ?_));refine dq O ?_;refine⟨by rw [cT (fun e:xs=ys=>h3 (by rw [e]))],aQ⟩
  refine aA O (aI O (aT O (tQ ?_)));refine⟨k+1,am,(aqv O),aQ,am,?_⟩;rw [wE (by omega),wE (by omega),hI,jR.1 h3]
 refine bp O (bt (gw O ?_));refine dq O ⟨?_,aF⟩;rw [iY (by omega),iY (by omega)]at hI;rw [dz hI]
def jt(xss:ah):ai:=(List.range xss.length).map fun i=>jg xss i
theorem LP(xss:ah):(jt xss).length=xss.length:=by simp [jt]
theorem abG{xss:ah}{i:Nat}(h:i<xss.length):(jt xss).take (i+1)=(jt xss).take i++ [jg xss i]:=by
 rw [nM (by rw [LP];exact h)];simp [jt]
theorem Mf(Ab A:aj)(n c:Nat)(rs:List aO)(xss:ah)(w:aa)(hB:Rd w Ab 1 (fun _=> .slice A n c))(hR:bF w A n rs xss)(hM:bI xss):
 aJ prog 56 [.pointer Ab] w (fun v w'=>∃A' c',v= .slice A' n c'/\St w w' [ax 2 A' n c' (jt xss)]):=by
 have hl:=hR.len;have h1:=hM.1;have h2:=hM.2.1;refine bC func56 O ntmps56 O (df O) (bh O (aL (ER Ab A n c _ _ hB O) O ?_));rintro _ w ⟨rfl,rfl⟩;refine aC O (Cd.loop (α:=Nat×aj×Nat) (fun s=> [(0,.pointer Ab),(3,.slice s.2.1 s.1 s.2.2),(8,ak n),(9,ak (s.1:Int))]) (fun s w'=>St w w' [ax 2 s.2.1 s.1 s.2.2 ((jt xss).take s.1)]/\s.1<=n) (fun s=>n - s.1) (0,none,0) (aqv O) ⟨(St.refl w).nil _,bg _⟩ ?_);rintro⟨i,A3,c3⟩ e w1 ⟨aH,hi⟩;dsimp only at aH hi|-;refine bL O (aM _ O (fun h3=>?_) (fun h3=>?_))
 ·have dw:i<n:=by omega
  have kW:=DO xss i;refine aA O (aL (SS Ab A n c rs xss i _ (hB.below aH.below) (aH.b7 hR) hM dw) O ?_);rintro _ w2 ⟨A5,rfl,lE⟩;have aF:=(aH.call lE).tail;refine ar O (eL aF O O O ?_);intro A6 w3 aQ;refine fu 1 aQ O (aQ.bz 0 O) O O O fun A7 c7 w4 aX=>ar O (aI O (aT O (tQ ?_)));refine⟨(i+1,A7,c7),by show n - (i+1)<n - i;omega,(aqv O),?_,dw⟩;show St w w4 [ax _ A7 (i+1) c7 ((jt xss).take (i+1))];rw [abG (by omega)];exact aX.tail
 refine bp O (bt (gw O ?_));refine gJ O ?_;have cI:i=n:=by omega
 rw [cI,iY (by rw [LP];omega)]at aH;rw [cI];exact⟨A3,c3,O,aH⟩
theorem St.nJ{w0 w:aa}{t1 t2:ae}{A:aj}{n c:Nat}{rs:List aO}{xss:ah}(h:St w0 w (aS t1 t2 A n c rs xss))(hl:xss.length=n):bF w A n rs xss:=
 St.jB (ks:=[]) (by rw [fI];exact h) hl
section
variable{b b0 b1 b2:Nat}
variable {P:Program} {N:Nat} {ops:Array Oper} {K:Env->aa->Prop} {rest:List Oper} {e:Env} {w0 w w':aa} {ks:List Ck} {d:Nat} {ty:ae} {pos:String} {af:Array Edge}
theorem HO{t:ae}{f0 f1 f2:Field}{z0 z1 z2 y0 y1 y2:ad}[bA P t (.struct #[f0,f1,f2])][bq P t (.agg #[z0,z1,z2]) 3 b]{x0:ag}{v0:ad}(rL:bq P f0.type y0 1 b0)(tX:bq P f1.type y1 1 b1)(rN:bq P f2.type y2 1 b2)(ho:f0.offset=0)(qS:f1.offset=1)(xr:f2.offset=2)(h0:ev e x0=v0)(c0:v0.oneCell'=true)(hb:Nat.blt d N=true)(hK:ao P N ops K rest (bn e d (.agg #[v0,z1,z2])) w):ao P N ops K (⟨some d,.build t #[(0,x0)],ty,pos,af,none⟩::rest) e w:=by
 obtain⟨inf,hi,dX,hs,gR⟩:=bq.get P t;obtain⟨CC,fm,_,o6,_⟩:=rL.get P f0.type;obtain⟨EB,mm,_,ug,_⟩:=tX.get P f1.type;obtain⟨GZ,ti,_,mI,_⟩:=rN.get P f2.type;have e0:v0.cells= #[v0]:=by cases v0<;>simp [Value.oneCell']at c0<;>rfl
 have ez:(Value.agg #[z0,z1,z2]).cells= #[z0,z1,z2]:=O;refine .val (w':=w) ?_ hb hK;simp [execOp,Instr.build,run_underlying (bA.out (P:=P) (t:=t)),sizeOf,typeInfo,zeroValue,hi,dX,fm,o6,mm,ug,ti,mI,ho,h0,e0,ez,Instr.fill]
theorem De{t:ae}{f0 f1 f2:Field}{z0 z1 z2 y0 y1 y2:ad}[bA P t (.struct #[f0,f1,f2])][bq P t (.agg #[z0,z1,z2]) 3 b](rL:bq P f0.type y0 1 b0)(tX:bq P f1.type y1 1 b1)(rN:bq P f2.type y2 1 b2)(hb:Nat.blt d N=true)(hK:ao P N ops K rest (bn e d (.agg #[z0,z1,z2])) w):ao P N ops K (⟨some d,.build t #[],ty,pos,af,none⟩::rest) e w:=by
 obtain⟨inf,hi,dX,hs,gR⟩:=bq.get P t;obtain⟨CC,fm,_,o6,_⟩:=rL.get P f0.type;obtain⟨EB,mm,_,ug,_⟩:=tX.get P f1.type;obtain⟨GZ,ti,_,mI,_⟩:=rN.get P f2.type;have ez:(Value.agg #[z0,z1,z2]).cells= #[z0,z1,z2]:=O;refine .val (w':=w) ?_ hb hK;simp [execOp,Instr.build,run_underlying (bA.out (P:=P) (t:=t)),sizeOf,typeInfo,zeroValue,hi,dX,fm,o6,mm,ug,ti,mI,ez,Instr.fill]
theorem nP{el:ae}{v0 v1 v2:ad}{s:Nat}[bq P el (.agg #[v0,v1,v2]) s b](hS:St w0 w ks)(hb:Nat.blt d N=true)(hK:∀A w',St w0 w' (Bx el 3 A [v0,v1,v2]::ks)->ao P N ops K rest (bn e d (.pointer A)) w')(hM:eU [v0,v1,v2]=false:=by rfl):ao P N ops K (⟨some d,.alloc el,ty,pos,af,none⟩::rest) e w:= .new (el:=el) (z:= .agg #[v0,v1,v2]) (s:=s) (b:=b) hS hb rfl hK hM
end
theorem akR{α:Type}(q1 q2 q3 q4 q5 q6:α)(X Y:List α):([q1,q2,q3,q4,q5,q6]++Y++X).Perm (q4::(q2::((q1::X)++ (q3::q5::q6::Y)))):=by
 classical
 refine jT.2 fun z=>?_
 simp only [l9,jS,List.cons_append,List.nil_append];omega
abbrev bJ(A:aj)(n:Int)(AR:aj)(N c:Nat)(AD:aj)(m d:Nat):Ck:=Bx 58 3 A [ak n,.slice AR N c,.slice AD m d]
theorem abF{M:ah}{i:Nat}(h:i<M.length):gi (jt M) i=jg M i:=by
 rw [bV (by rw [LP];exact h)];simp [jt]
structure sP(M:ah)(f i:Nat)(B:ah):Prop where
 len:B.length=aR M M.length
 mem:∀e:Nat,e<aR M M.length->∀x,x∈gl B e↔∃f' i',(f'<f\/f'=f/\i'<i)/\f'< (gl M 0).length/\i'<M.length/\dd M i' f'=e/\∃k,k<i'/\x=dd M k f'
 num:∀e:Nat,(gl B e).length<=25*f+5*i
theorem sP.zero(M:ah):sP M 0 0 (List.replicate (aR M M.length) []):=by
 have hg:∀e:Nat,gl (List.replicate (aR M M.length) ([]:ai)) e=[]:=fun e=>by
  simp only [gl,jq,dm,List.getElem?_replicate]
  split<;>rfl
 refine⟨by simp,fun e he x=>?_,fun e=>by rw [hg];exact bg _⟩;rw [hg];constructor
 ·intro h;cases h
 rintro⟨f',i',h,_⟩;omega
theorem sP.next{M:ah}{f i:Nat}{B:ah}(hM:bI M)(h:sP M f i B)(hf:f< (gl M 0).length)(hi:i<M.length):sP M f (i+1) (B.set (dd M i f).toNat (gl B (dd M i f)++ (List.range i).map fun k=>dd M k f)):=by
 have cI:=yh hM (i:=i) hf;have vf:=pa M (show i+1<=M.length by omega);have h5:=hM.1;obtain⟨q,hq⟩:∃q:Nat,dd M i f=q:=⟨(dd M i f).toNat,am⟩;rw [hq,jq];have hg:∀e:Nat,gl (B.set q (gl B q++ (List.range i).map fun k=>dd M k f)) e=if q=e then gl B q++ (List.range i).map fun k=>dd M k f else gl B e:=fun e=>ads (by rw [h.len];omega)
 refine⟨by rw [mA];exact h.len,fun e he x=>?_,fun e=>?_⟩
 ·rw [hg]
  by_cases e1:q=e
  ·subst e1;rw [aB rfl,jd,h.mem q he];constructor
   ·rintro(⟨f',i',h1,h2⟩ | h1)
    ·exact⟨f',i',am,h2⟩
    obtain⟨k,hk,rfl⟩:=dF.1 h1;exact⟨f,i,.inr ⟨O,am⟩,hf,hi,hq,k,ig.1 hk,O⟩
   rintro⟨f',i',h1,h2,h3,h4,k,hk,rfl⟩
   by_cases e2:f'=f/\i'=i
   ·obtain⟨rfl,rfl⟩:=e2;exact .inr (dF.2 ⟨k,ig.2 hk,O⟩)
   exact .inl ⟨f',i',am,h2,h3,h4,k,hk,O⟩
  rw [az e1,h.mem e he];constructor
  ·rintro⟨f',i',h1,h2⟩;exact⟨f',i',am,h2⟩
  rintro⟨f',i',h1,h2,h3,h4,h6⟩;refine⟨f',i',?_,h2,h3,h4,h6⟩
  by_cases e2:f'=f/\i'=i
  ·obtain⟨rfl,rfl⟩:=e2;omega
  omega
 rw [hg];have h1:=h.num q;have h2:=h.num e
 split
 ·rw [ck,fS,rA];omega
 omega
theorem sP.row{M:ah}{f:Nat}{B:ah}(hM:bI M)(h:sP M f M.length B):sP M (f+1) 0 B:=by
 have h5:=hM.1;refine⟨h.len,fun e he x=>?_,fun e=>by have:=h.num e;omega⟩;rw [h.mem e he];constructor
 ·rintro⟨f',i',h1,h2⟩;exact⟨f',i',am,h2⟩
 rintro⟨f',i',h1,h2,h3,h4⟩;exact⟨f',i',am,h2,h3,h4⟩
theorem sP.done{M:ah}{B:ah}(hM:bI M)(h:sP M (gl M 0).length 0 B){e:Nat}(he:e<aR M M.length):cs (gl B e)=gl (bQ M) e:=by
 refine(ab1 _).eq ?_ fun x=>?_
 ·rw [bR (by rw [vR];exact he)];unfold bQ;rw [List.getElem_map];exact qb _ (mM _)
 rw [ab2,h.mem e he,rI (by omega) (by omega)];constructor
 ·rintro⟨f',i',_,h2,h3,h4,k,hk,rfl⟩;have hI:sJ M (dd M k f') e:=⟨f',h2,i',h3,k,hk,h4.symm,O⟩;exact⟨(hI.eE hM).1,hI⟩
 rintro⟨_,f',h2,i',h3,k,hk,h4,rfl⟩;exact⟨f',i',.inl h2,h2,h3,h4.symm,k,hk,O⟩
def Zg(M:ah)(w:aa)(v:ad)(w':aa):Prop:=(500<aR M M.length/\v= .tuple #[.agg #[ak 0,.slice none 0 0,.slice none 0 0],.bool false]/\St w w' [])\/(aR M M.length<=500/\∃AR c AD d rs,v= .tuple #[.agg #[ak (M.length:Int),.slice AR (aR M M.length) c,.slice AD (aR M M.length) d],.bool true]/\rs.length=aR M M.length/\St w w' (ax 2 AR (aR M M.length) c (bU M M.length)::(aS 34 2 AD (aR M M.length) d rs (bQ M)++ [])))
theorem SQ(A:aj)(n c:Nat)(rs:List aO)(M:ah)(w:aa)(hR:bF w A n rs M)(hM:bI M):
 aJ prog 87 [.agg #[.slice A n c]] w (Zg M w):=by
 have hl:=hR.len;have h1:=hM.1;have h2:=hM.2.1;have Av:∀i,i<=n->aR M i<=2000:=fun i hi=>by
  have h3:=Ku (M:=M) i;have h4:i* (gl M 0).length<=5*400:=Nat.mul_le_mul am am;omega
 refine bC func87 O ntmps87 O (ur O O) (bh O (jH (St.refl w) O O ?_));intro A1 w1 aH;refine nP aH O fun A2 w2 aF=>ar O (aL (ER A1 A n c _ _ (Rd.one (aF.rd 1 O)) O) O ?_);rintro _ w2 ⟨rfl,rfl⟩;refine HO (by exact inferInstance) (by exact inferInstance) (by exact inferInstance) O O O O O O (nP aF O ?_);intro A4 w3 aQ;refine b5 3 0 aQ O O O O O O O ?_;intro w4 aX;have aX:St w w4 [bJ A4 n none 0 0 none 0 0,bJ A2 0 none 0 0 none 0 0,Bx 24 1 A1 [.slice A n c]]:=aX;clear aQ aF aH;refine ar O (aL (Mf A1 A n c rs M _ (Rd.one (aX.rd 2 O)) (aX.b7 hR) hM) O ?_);rintro _ w5 ⟨oz,uP,rfl,av⟩;have ba:=aX.call av;clear av aX;have ba:St w w5 [bJ A4 n none 0 0 none 0 0,ax 2 none 0 0 [],ax 2 oz n uP (jt M),bJ A2 0 none 0 0 none 0 0,Bx 24 1 A1 [.slice A n c]]:=(ba.nil 2).perm (rC (l₁:=[_,_]));refine a8 O O (aC O ?_);refine Cd.loop (α:=Nat×aj×Nat) (fun z=> [(1,.pointer A1),(2,.pointer A2),(4,.pointer A4),(14,.slice oz n uP),(15,ak n),(16,ak (z.1:Int))]) (fun z w'=>z.1<=n/\St w w' [bJ A4 n z.2.1 (aR M z.1) z.2.2 none 0 0,ax 2 z.2.1 (aR M z.1) z.2.2 (bU M z.1),ax 2 oz n uP (jt M),bJ A2 0 none 0 0 none 0 0,Bx 24 1 A1 [.slice A n c]]) (fun z=>n - z.1) (0,none,0) (aqv O) ⟨bg _,ba⟩ ?_;clear ba;rintro⟨i,AR,cR⟩ e w6 ⟨hi,hS⟩;dsimp only at hi hS|-;have xu:=Av i hi;have zY:=pq M i;refine bL O (aM _ O (fun h3=>?_) (fun h3=>?_))
 ·have cI:i<n:=by omega
  have Ag:=abF (M:=M) (i:=i) am;have l4:=DO M i;have qS:=Av (i+1) am;have Cq:aR M (i+1)=aR M i+ (jg M i).toNat:=O;have o0:bU M (i+1)=bU M i++List.replicate (jg M i).toNat (i:Int):=O;have hC:=hS.bz 2 O;refine aA O (aD hC.2 O (aY hC O (aC O ?_)));rw [Ag];obtain⟨N,hN⟩:∃N:Nat,jg M i=N:=⟨(jg M i).toNat,am⟩;rw [hN,jq]at Cq o0;rw [hN]at l4|-;refine kK [6,8] [yP (ay (A4) 1),yS (AR) (aR M i) (cR),yI ((i:Int)),.pr (fun v w'=>∃A9,v= .slice A9 1 1/\St w w' (ax 2 A9 1 1 [(i:Int)]::[bJ A4 n AR (aR M i) cR none 0 0,ax 2 AR (aR M i) cR (bU M i),ax 2 oz n uP (jt M),bJ A2 0 none 0 0 none 0 0,Bx 24 1 A1 [.slice A n c]])),yI ((N:Int)),.pr (fun v w'=>∃A9,v= .slice A9 N N/\St w w' (ax 2 A9 N N (List.replicate N (i:Int))::[bJ A4 n AR (aR M i) cR none 0 0,ax 2 AR (aR M i) cR (bU M i),ax 2 oz n uP (jt M),bJ A2 0 none 0 0 none 0 0,Bx 24 1 A1 [.slice A n c]])),.pr (fun v w'=>∃bN dC,v= .slice bN (aR M i+N) dC/\St w w' [bJ A4 n AR (aR M i) cR none 0 0,ax 2 bN (aR M i+N) dC (bU M i++List.replicate N (i:Int)),ax 2 oz n uP (jt M),bJ A2 0 none 0 0 none 0 0,Bx 24 1 A1 [.slice A n c]]),yP (ay (A4) 1),.pr (fun _ w'=>∃bN dC,St w w' [bJ A4 n bN (aR M i+N) dC none 0 0,ax 2 bN (aR M i+N) dC (bU M i++List.replicate N (i:Int)),ax 2 oz n uP (jt M),bJ A2 0 none 0 0 none 0 0,Bx 24 1 A1 [.slice A n c]])] (ly (ly (ly (cH.2 ⟨Ye.cJ (fun v w w' h hb=>by obtain⟨A9,hv,hT⟩:=h;exact⟨A9,hv,hT.aq hb⟩),(ly (cH.2 ⟨Ye.cJ (fun v w w' h hb=>by obtain⟨A9,hv,hT⟩:=h;exact⟨A9,hv,hT.aq hb⟩),(cH.2 ⟨Ye.cJ (fun v w w' h hb=>by obtain⟨bN,dC,hv,hT⟩:=h;exact⟨bN,dC,hv,hT.aq hb⟩),(ly (cH.2 ⟨Ye.cJ (fun v w w' h hb=>by obtain⟨bN,dC,hT⟩:=h;exact⟨bN,dC,hT.aq hb⟩),(fun _ h=>by cases h)⟩))⟩)⟩))⟩)))) ?_ ?_
  ·refine⟨cP fun _ _ hb _ _ _=>aV ((hS.rd 0 O).below hb) O (bG O O),cP fun _ _ hb _ _ _=>bj ((hS.rd 0 O).below hb) O (bG O O),bZ O,?_,bZ O,?_,?_,?_,?_,au⟩
   ·refine cP fun e1 w1 hb hp aU hq=>?_
    exact eL (St.refl _) O O O fun A9 w9 av=>ao.n (fM.dn O av.below ⟨A9,O,(hS.aq hb).call av⟩)
   ·refine cP fun e1 w1 hb hp aU hq=>?_
    obtain⟨A9,BS,hT⟩:=(hp 3 _ _ (by kernel_rfl) rfl rfl (by kernel_rfl));refine aqm (Fx A9 1 i N _ (hT.bz 0 O) am) O (by exact aE (fun v=> [v,Value.int .i64 (N:Int)]) BS) O ?_;rintro _ w2 ⟨A5,rfl,av⟩;exact ao.n (fM.dn O av.below ⟨A5,O,hT.tail.call av⟩)
   ·refine kO fun e1 w1 hb hp aU hq=>?_
    obtain⟨A9,h26,hT⟩:=(hp 5 _ _ (by kernel_rfl) rfl rfl (by kernel_rfl));refine fu 2 hT O (hT.bz 0 O) O (by exact h26) O ?_;intro bN dC dY D4;exact ao.n (gn.dn O ⟨bN,dC,O,D4.tail⟩)
   ·refine dP 1 fun e1 w1 hp aU hq=>?_
    have fh:=hp 6 _ _ (by kernel_rfl) O O (by kernel_rfl);obtain⟨bN,dC,TG,hT⟩:=fh;refine aV ((hT.rd 0 O)) O (ao.n (iz O (by exact O)))
   refine sS 1 fun e1 w1 hp aU hq=>?_
   have fh:=hp 6 _ _ (by kernel_rfl) O O (by kernel_rfl);obtain⟨bN,dC,TG,hT⟩:=fh;refine ki 0 hT O O (by exact TG) O O ?_;intro eF BX;exact ao.n (gn.st O ⟨bN,dC,BX⟩)
  intro u w7 _ hu _ _;obtain⟨bN,dC,hT⟩:=hu 8 _ rfl (by kernel_rfl);rw [<-Cq,<-o0]at hT;refine jD O (aI O (aT O (tQ ?_)));exact⟨(i+1,bN,dC),by show n - (i+1)<n - i;omega,(aqv O),by show i+1<=n;omega,hT⟩
 obtain rfl:i=n:=by omega
 have gX:M.length=i:=hl;generalize hK:aR M i=N at*;have lV:=hS.rd 0 O;refine bp O (bt (cS O ?_));refine aV lV O (bj lV O ?_);refine a8 O O (aC O ?_);refine aM _ O (fun h4=>?_) (fun h4=>?_)
 ·refine aA O (De (by exact inferInstance) (by exact inferInstance) (by exact inferInstance) O (b5 3 3 hS O O O O O O O ?_));intro w9 bT;refine bH O (kG O (bT.rd 3 O) O ?_);exact .inl ⟨by rw [gX,hK];omega,O,bT.none⟩
 refine aA O (aV lV O (bj lV O (a8 O O (Lh N hS O O am ?_))));intro dQ w7 bK;have bK:St w w7 (cg 34 dQ N N (List.replicate N eY)::[bJ A4 i AR N cR none 0 0,ax 2 AR N cR (bU M i),ax 2 oz i uP (jt M),bJ A2 0 none 0 0 none 0 0,Bx 24 1 A1 [.slice A i c]]):=bK;refine aV (bK.rd 1 O) O (ki 1 bK O O O O O ?_);intro w8 cj;have cj:St w w8 (cg 34 dQ N N (List.replicate N eY)::[bJ A4 i AR N cR dQ N N,ax 2 AR N cR (bU M i),ax 2 oz i uP (jt M),bJ A2 0 none 0 0 none 0 0,Bx 24 1 A1 [.slice A i c]]):=cj;clear bK hS;refine ar O (aL (aaK A1 A i c rs M _ (Rd.one (cj.rd 5 O)) (cj.b7 hR) hM) O ?_);rintro _ w9 ⟨Bn,pd,rfl,agx,av⟩;obtain⟨F,hF⟩:∃F,(gl M 0).length=F:=⟨_,rfl⟩;rw [hF]at h2 agx av|-;have TN:(qg M).length=F:=by simp [qg,hF]
 have bT:=cj.call av;clear av cj;obtain⟨KK,s7⟩:∃KK:List Ck,KK=ax 2 AR N cR (bU M i)::bJ A2 0 none 0 0 none 0 0::Bx 24 1 A1 [.slice A i c]::(aS 34 2 Bn F F pd (qg M)++ []):=⟨_,rfl⟩;have bT:St w w9 (bJ A4 i AR N cR dQ N N::(aS 34 2 dQ N N (List.replicate N eY) (List.replicate N [])++KK)):=by
  rw [s7];have h9:=(bT.perm nL);have h9:=Kt (t:=2) N h9;have hp:([cg 34 dQ N N (List.replicate N eY),bJ A4 i AR N cR dQ N N,ax 2 AR N cR (bU M i),ax 2 oz i uP (jt M),bJ A2 0 none 0 0 none 0 0,Bx 24 1 A1 [.slice A i c]]++ (aS 34 2 Bn F F pd (qg M)++ [])++da 2 (List.replicate N eY) (List.replicate N [])).Perm (ax 2 oz i uP (jt M)::(bJ A4 i AR N cR dQ N N::(aS 34 2 dQ N N (List.replicate N eY) (List.replicate N [])++ (ax 2 AR N cR (bU M i)::bJ A2 0 none 0 0 none 0 0::Bx 24 1 A1 [.slice A i c]::(aS 34 2 Bn F F pd (qg M)++ []))))):=by
   unfold aS;generalize da 2 (List.replicate N eY) (List.replicate N [])=X;generalize cg 34 Bn F F pd::da 2 pd (qg M)++ []=Y;generalize cg 34 dQ N N (List.replicate N eY)=q1;generalize bJ A4 i AR N cR dQ N N=q2;generalize ax 2 AR N cR (bU M i)=q3;generalize ax 2 oz i uP (jt M)=q4;generalize bJ A2 0 none 0 0 none 0 0=q5;generalize Bx 24 1 A1 [.slice A i c]=q6;exact akR q1 q2 q3 q4 q5 q6 X Y
  exact(h9.perm hp).tail
 have mo:∀(rs':List aO) (B:ah),(aS 34 2 Bn F F pd (qg M)).Sublist (bJ A4 i AR N cR dQ N N::(aS 34 2 dQ N N rs' B++KK)):=fun rs' B=>by
  rw [s7];refine List.Sublist.cons _ (List.Sublist.trans ?_ (kA _ _));refine List.Sublist.cons _ (List.Sublist.cons _ (List.Sublist.cons _ ?_));rw [fI];exact lJ _
 have ny:aR M M.length=N:=by rw [gX,hK]
 refine a8 O O (aC O ?_);refine Cd.loop (α:=Nat×List aO×ah) (fun z=> [(1,.pointer A1),(2,.pointer A2),(4,.pointer A4),(40,.slice Bn F F),(41,ak F),(42,ak (z.1:Int))]) (fun z w'=>z.1<=F/\z.2.1.length=N/\sP M z.1 0 z.2.2/\St w w' (bJ A4 i AR N cR dQ N N::(aS 34 2 dQ N N z.2.1 z.2.2++KK))) (fun z=>F - z.1) (0,List.replicate N eY,List.replicate N []) (aqv O) ⟨bg _,by simp,by have:=sP.zero M;rwa [ny]at this,bT⟩ ?_;clear bT;rintro⟨f,EV,B⟩ e dY ⟨hf,J0,hB,hS⟩;dsimp only at hf J0 hB hS|-;refine bL O (aM _ O (fun h5=>?_) (fun h5=>?_))
 ·have ub:f<F:=by omega
  have zR:=(hS.sub (mo EV B)).nJ TN;have bS:=zR.at_ (i:=(f:Int)) am am;have cn:=bS.1;have Ec:gl (qg M) f=(List.range M.length).map fun k=>dd M k f:=by rw [bR (by omega)];simp [qg]
  have jk:(rg pd f).n=i:=by rw [<-cn,Ec];simp [gX]
  refine aA O (aD zR.top.2 O (b9 zR.top O ?_));refine ar O (a8 O O (aC O ?_));refine Cd.loop (α:=Nat×List aO×ah) (fun z=> [(1,.pointer A1),(2,.pointer A2),(4,.pointer A4),(40,.slice Bn F F),(41,ak F),(42,ak f),(8,.slice (rg pd f).a (rg pd f).n (rg pd f).c),(46,.slice (rg pd f).a (rg pd f).n (rg pd f).c),(47,ak ((rg pd f).n:Int)),(48,ak (z.1:Int))]) (fun z w'=>z.1<=i/\z.2.1.length=N/\sP M f z.1 z.2.2/\St w w' (bJ A4 i AR N cR dQ N N::(aS 34 2 dQ N N z.2.1 z.2.2++KK))) (fun z=>i - z.1) (0,EV,B) (aqv O) ⟨bg _,J0,hB,hS⟩ ?_;clear hS hB zR bS cn J0;rintro⟨j,dH,B4⟩ e eF ⟨hj,vk,lV,aX⟩;dsimp only at hj vk lV aX|-;have s5:B4.length=N:=by rw [lV.len,ny]
  refine bL O (aM _ O (fun h6=>?_) (fun h6=>?_))
  ·have u9:j<i:=by omega
   have zR:=(aX.sub (mo dH B4)).nJ TN;have bS:=zR.at_ (i:=(f:Int)) am am;have cn:=bS.1;have UP:gi (gl (qg M) f) j=dd M j f:=by rw [bV (by omega)];simp [Ec]
   have cI:=yh hM (i:=j) (f:=f) am;have vf:=pa M (show j+1<=M.length by omega);rw [ny]at vf;obtain⟨E,hE⟩:∃E:Nat,dd M j f=E:=⟨(dd M j f).toNat,am⟩;rw [hE]at UP cI;have iS:=lV.next hM am (show j<M.length by omega);rw [hE,jq]at iS;have s6:E<N:=by omega
   have yR:(gl (qg M) f).take j=(List.range j).map fun k=>dd M k f:=by
    rw [Ec,<-List.map_take,List.take_range,Nat.min_eq_left (by omega)]
   have km:bF eF dQ N dH B4:=(aX.perm (rC (l₁:=aS 34 2 dQ N N dH B4)).symm).jB s5;have yQ:=(km.at_ (i:=(E:Int)) am am).1;have JS:=lV.num E;refine aA O (aD bS.2 O (aY bS O (aC O ?_)));rw [UP];have th:(bJ A4 i AR N cR dQ N N::(aS 34 2 dQ N N dH B4++KK))[2+E]?=some (ax 2 (rg dH E).a (rg dH E).n (rg dH E).c (gl B4 E)):=G4 (t1:=34) (t2:=2) (A:=dQ) (n:=N) (c:=N) (rs:=dH) (xss:=B4) (pre:=[bJ A4 i AR N cR dQ N N]) (ks:=KK) (i:=E) am am;have rS:=fun(s:aO) (xs:ai)=>Pb (t1:=34) (t2:=2) (A:=dQ) (n:=N) (c:=N) (rs:=dH) (xss:=B4) (ks:=KK) (q:=bJ A4 i AR N cR dQ N N) (i:=E) s xs am am
   refine kK [11,13] [yP (ay A4 2),yS (dQ) (N) (N),yI ((E:Int)),yP (ay (A4) 2),yS (dQ) (N) (N),yI ((E:Int)),yP (ay (dQ) ((E:Int)).toNat),yS ((rg (dH) ((E:Int))).a) ((rg (dH) ((E:Int))).n) ((rg (dH) ((E:Int))).c),yS ((rg pd f).a) ((rg pd f).n) ((rg pd f).c),yI ((j:Int)),yS ((rg pd f).a) (j) ((rg pd f).c),.pr (fun v w'=>∃AZ cZ,v= .slice AZ ((rg dH E).n+j) cZ/\St w w' (bJ A4 i AR N cR dQ N N::(cg 34 dQ N N dH::(da 2 (dH.set E ⟨AZ,(rg dH E).n+j,cZ⟩) (B4.set E (gl B4 E++ (gl (qg M) f).take j))++KK)))),yP (ay dQ ((E:Int)).toNat),.pr (fun _ w'=>∃AZ cZ,St w w' (bJ A4 i AR N cR dQ N N::(aS 34 2 dQ N N (dH.set E ⟨AZ,(rg dH E).n+j,cZ⟩) (B4.set E (gl B4 E++ (gl (qg M) f).take j))++KK)))] (ly (ly (ly (ly (ly (ly (ly (ly (ly (ly (ly (cH.2 ⟨Ye.cJ (fun v w w' h hb=>by obtain⟨AZ,cZ,hv,hT⟩:=h;exact⟨AZ,cZ,hv,hT.aq hb⟩),(ly (cH.2 ⟨Ye.cJ (fun v w w' h hb=>by obtain⟨AZ,cZ,hT⟩:=h;exact⟨AZ,cZ,hT.aq hb⟩),(fun _ h=>by cases h)⟩))⟩)))))))))))) ?_ ?_
   ·refine⟨?_,?_,bZ O,cP fun _ _ hb _ _ _=>aV ((aX.rd 0 O).below hb) O (bG O O),cP fun _ _ hb _ _ _=>bj ((aX.rd 0 O).below hb) O (bG O O),bZ O,cP fun _ _ hb _ _ _=>aD (km.top.aq hb).2 O (bG O O),cP fun _ _ hb _ _ _=>b9 (km.top.aq hb) O (bG O O),bZ O,bZ O,aP fun _ _=>Lf O O O (by have:=zR.cap_ (i:=(f:Int)) am am;omega) (bG O O),?_,?_,?_,au⟩
    ·intro e1 w1 cc fo dv fL hp aU hq;show ao _ _ _ _ _ _ _;have hX:Rd w1 A4 3 (fun q=> [Value.int .i64 (i:Int),.slice AR N cR,.slice dQ N N].getD q undef):=by { have dv:=qZ dv (b:=1) (by kernel_rfl);rcases(show cc=0\/cc=1 by omega)with h | h; { exact(aX.aq (fL h)).rd 0 rfl }; { subst h;obtain⟨AZ,cZ,_,hT⟩:=hq 11 _ _ (by kernel_rfl) (by kernel_rfl) (by kernel_rfl) rfl rfl (by kernel_rfl);exact hT.rd 0 rfl } }
     refine aV hX O (ao.n (iz O (by exact O)))
    ·intro e1 w1 cc fo dv fL hp aU hq;show ao _ _ _ _ _ _ _;have hX:Rd w1 A4 3 (fun q=> [Value.int .i64 (i:Int),.slice AR N cR,.slice dQ N N].getD q undef):=by { have dv:=qZ dv (b:=1) (by kernel_rfl);rcases(show cc=0\/cc=1 by omega)with h | h; { exact(aX.aq (fL h)).rd 0 rfl }; { subst h;obtain⟨AZ,cZ,_,hT⟩:=hq 11 _ _ (by kernel_rfl) (by kernel_rfl) (by kernel_rfl) rfl rfl (by kernel_rfl);exact hT.rd 0 rfl } }
     refine bj hX O (ao.n (iz O (by exact O)))
    ·refine kO fun e1 w1 hb hp aU hq=>?_
     have ad7:=zR.aq hb;refine fu (2+E) (aX.aq hb) th ((ad7.at_ (i:=(f:Int)) am am).take (l:=j) am) O O O ?_;intro AZ cZ wZ hZ;rw [rS ⟨AZ,(rg dH E).n+j,cZ⟩ (gl B4 E++ (gl (qg M) f).take j)]at hZ;exact ao.n (gn.dn O ⟨AZ,cZ,O,hZ⟩)
    ·intro e1 w1 cc fo dv fL hp aU hq;show ao _ _ _ _ _ _ _;have hX:mT w1 dQ N dH:=by { have dv:=qZ dv (b:=1) (by kernel_rfl);rcases(show cc=0\/cc=1 by omega)with h | h; { exact(aX.aq (fL h)).fQ 1 rfl }; { subst h;obtain⟨AZ,cZ,_,hT⟩:=hq 11 _ _ (by kernel_rfl) (by kernel_rfl) (by kernel_rfl) rfl rfl (by kernel_rfl);exact hT.fQ 1 rfl } }
     refine aD hX.2 O (ao.n (iz O (by exact O)))
    refine sS 1 fun e1 w1 hp aU hq=>?_
    have fh:=hp 11 _ _ (by kernel_rfl) O O (by kernel_rfl);obtain⟨AZ,cZ,TI,hT⟩:=fh;refine Fu (te:=34) (n:=N) (c:=N) (A:=dQ) (xs:=dH) 1 hT O O (by exact TI) am ?_;intro wY hY;exact ao.n (gn.st O ⟨AZ,cZ,hY⟩)
   intro u fH _ hu _ _;obtain⟨AZ,cZ,hT⟩:=hu 13 _ rfl (by kernel_rfl);rw [yR]at hT;refine jD O (aI O (aT O (tQ ?_)));exact⟨(j+1,_,_),by show i - (j+1)<i - j;omega,(aqv O),by show j+1<=i;omega,by simp [vk],iS,hT⟩
  have u9:j=M.length:=by omega
  subst u9;refine bp O (bt (cS O (aI O (aT O (tQ ?_)))));exact⟨(f+1,dH,B4),by show F - (f+1)<F - f;omega,(aqv O),by show f+1<=F;omega,vk,lV.row hM,aX⟩
 have ub:f=F:=by omega
 subst ub;have s5:B.length=N:=by rw [hB.len,ny]
 have Gn:∀e':Nat,e'<N->cs (gl B e')=gl (bQ M) e':=fun e' qQ=>sP.done hM (by rw [hF];exact hB) am
 have JS:∀e':Nat,(gl B e').length<=25*f:=fun e'=>by have:=hB.num e';omega
 have lV:=hS.rd 0 O;refine bp O (bt (cS O ?_));refine aV lV O (bj lV O ?_);refine a8 O O (aC O ?_);refine Cd.loop (α:=Nat×List aO) (fun z=> [(2,.pointer A2),(4,.pointer A4),(70,ak N),(71,ak (z.1:Int))]) (fun z w'=>z.1<=N/\z.2.length=N/\St w w' (bJ A4 i AR N cR dQ N N::(aS 34 2 dQ N N z.2 (ng B z.1)++KK))) (fun z=>N - z.1) (0,EV) (aqv O) ⟨bg _,J0,by rw [ajp];exact hS⟩ ?_;clear hS lV;rintro⟨E,dH⟩ e eF ⟨hE,vk,hS⟩;dsimp only at hE vk hS|-;have kY:=ajn B E;refine bL O (aM _ O (fun h6=>?_) (fun h6=>?_))
 ·have s6:E<N:=by omega
  have Ve:=ajm (B:=B) (e:=E) am;have pK:=ajo (B:=B) (e:=E) am;have lV:=hS.rd 0 O;have km:bF eF dQ N dH (ng B E):=(hS.perm (rC (l₁:=aS 34 2 dQ N N dH (ng B E))).symm).jB am;have yQ:=(km.at_ (i:=(E:Int)) am am).1;rw [Ve]at yQ;have hq:=JS E;have th:(bJ A4 i AR N cR dQ N N::(aS 34 2 dQ N N dH (ng B E)++KK))[2+E]?=some (ax 2 (rg dH E).a (rg dH E).n (rg dH E).c (gl B E)):=by
   have h0:=G4 (t1:=34) (t2:=2) (A:=dQ) (n:=N) (c:=N) (rs:=dH) (xss:=ng B E) (pre:=[bJ A4 i AR N cR dQ N N]) (ks:=KK) (i:=E) am am;rw [<-Ve];exact h0
  have afT:=(gx.1 th).1;have rS:=fun(s:aO) (xs:ai)=>Pb (t1:=34) (t2:=2) (A:=dQ) (n:=N) (c:=N) (rs:=dH) (xss:=ng B E) (ks:=KK) (q:=bJ A4 i AR N cR dQ N N) (i:=E) s xs am am
  refine aA O (aV lV O (bj lV O (ar O (aD km.top.2 O (b9 km.top O (aL (amO (2+E) hS th am) O ?_))))));rintro _ fH ⟨rfl,bK⟩;have yF:((bJ A4 i AR N cR dQ N N::(aS 34 2 dQ N N dH (ng B E)++KK)).set (2+E) (ax 2 (rg dH E).a (rg dH E).n (rg dH E).c (ox (gl B E))))[2+E]?=some (ax 2 (rg dH E).a (rg dH E).n (rg dH E).c (ox (gl B E))):=by
   rw [mR,aB rfl,aB afT]
  have e7:=rS ⟨(rg dH E).a,(rg dH E).n,(rg dH E).c⟩ (ox (gl B E));have oT:mT fH dQ N dH:=by
   have h8:=bK;rw [e7]at h8;exact h8.fQ 1 O
  have kb:Rd fH A4 3 (fun q=> [Value.int .i64 (i:Int),.slice AR N cR,.slice dQ N N].getD q undef):=by
   have h8:=bK;rw [e7]at h8;exact h8.rd 0 O
  refine aC O ?_;refine kK [8,10] [yP (ay A4 2),yS (dQ) (N) (N),yI ((E:Int)),yP (ay (A4) 2),yS (dQ) (N) (N),yI ((E:Int)),yP (ay (dQ) ((E:Int)).toNat),yS ((rg (dH) ((E:Int))).a) ((rg (dH) ((E:Int))).n) ((rg (dH) ((E:Int))).c),.pr (fun v w'=>v= .slice (rg dH E).a (mg (ox (gl B E))).length (rg dH E).c/\St w w' (bJ A4 i AR N cR dQ N N::(cg 34 dQ N N dH::(da 2 (dH.set E ⟨(rg dH E).a,(mg (ox (gl B E))).length,(rg dH E).c⟩) ((ng B E).set E (mg (ox (gl B E))))++KK)))),yP (ay dQ ((E:Int)).toNat),.pr (fun _ w'=>St w w' (bJ A4 i AR N cR dQ N N::(aS 34 2 dQ N N (dH.set E ⟨(rg dH E).a,(mg (ox (gl B E))).length,(rg dH E).c⟩) ((ng B E).set E (mg (ox (gl B E))))++KK)))] (ly (ly (ly (ly (ly (ly (ly (ly (cH.2 ⟨Ye.cJ (fun v w w' h hb=> ⟨h.1,h.2.aq hb⟩),(ly (cH.2 ⟨Ye.cJ (fun v w w' h hb=>h.aq hb),(fun _ h=>by cases h)⟩))⟩))))))))) ?_ ?_
  ·refine⟨?_,?_,bZ O,cP fun _ _ hb _ _ _=>aV (kb.below hb) O (bG O O),cP fun _ _ hb _ _ _=>bj (kb.below hb) O (bG O O),bZ O,cP fun _ _ hb _ _ _=>aD (oT.aq hb).2 O (bG O O),cP fun _ _ hb _ _ _=>b9 (oT.aq hb) O (bG O O),?_,?_,?_,au⟩
   ·intro e1 w1 cc fo dv fL hp aU hq;show ao _ _ _ _ _ _ _;have hX:Rd w1 A4 3 (fun q=> [Value.int .i64 (i:Int),.slice AR N cR,.slice dQ N N].getD q undef):=by { have dv:=qZ dv (b:=1) (by kernel_rfl);rcases(show cc=0\/cc=1 by omega)with h | h; { exact Rd.below kb (fL h) }; { subst h;obtain⟨_,hT⟩:=hq 8 _ _ (by kernel_rfl) (by kernel_rfl) (by kernel_rfl) rfl rfl (by kernel_rfl);exact hT.rd 0 rfl } }
    refine aV hX O (ao.n (iz O (by exact O)))
   ·intro e1 w1 cc fo dv fL hp aU hq;show ao _ _ _ _ _ _ _;have hX:Rd w1 A4 3 (fun q=> [Value.int .i64 (i:Int),.slice AR N cR,.slice dQ N N].getD q undef):=by { have dv:=qZ dv (b:=1) (by kernel_rfl);rcases(show cc=0\/cc=1 by omega)with h | h; { exact Rd.below kb (fL h) }; { subst h;obtain⟨_,hT⟩:=hq 8 _ _ (by kernel_rfl) (by kernel_rfl) (by kernel_rfl) rfl rfl (by kernel_rfl);exact hT.rd 0 rfl } }
    refine bj hX O (ao.n (iz O (by exact O)))
   ·refine kO fun e1 w1 hb hp aU hq=>?_
    refine aL (abS (2+E) (bK.aq hb) yF am) O ?_;rintro _ w9 ⟨rfl,cj⟩;rw [List.set_set,rS ⟨(rg dH E).a,(mg (ox (gl B E))).length,(rg dH E).c⟩ (mg (ox (gl B E)))]at cj;exact ao.n (gn.dn O ⟨O,cj⟩)
   ·intro e1 w1 cc fo dv fL hp aU hq;show ao _ _ _ _ _ _ _;have hX:mT w1 dQ N dH:=by { have dv:=qZ dv (b:=1) (by kernel_rfl);rcases(show cc=0\/cc=1 by omega)with h | h; { exact oT.aq (fL h) }; { subst h;obtain⟨_,hT⟩:=hq 8 _ _ (by kernel_rfl) (by kernel_rfl) (by kernel_rfl) rfl rfl (by kernel_rfl);exact hT.fQ 1 rfl } }
    refine aD hX.2 O (ao.n (iz O (by exact O)))
   refine sS 1 fun e1 w1 hp aU hq=>?_
   have fh:=hp 8 _ _ (by kernel_rfl) O O (by kernel_rfl);obtain⟨h88,hT⟩:=fh;refine Fu (te:=34) (n:=N) (c:=N) (A:=dQ) (xs:=dH) 1 hT O O (by exact h88) am ?_;intro wY hY;exact ao.n (gn.st O hY)
  intro u gG _ hu _ _;have hT:=hu 10 _ O (by kernel_rfl);have hT:St w gG (bJ A4 i AR N cR dQ N N::(aS 34 2 dQ N N (dH.set E ⟨(rg dH E).a,(mg (ox (gl B E))).length,(rg dH E).c⟩) ((ng B E).set E (cs (gl B E)))++KK)):=hT;rw [pK]at hT;refine jD O (aI O (aT O (tQ ?_)));exact⟨(E+1,_),by show N - (E+1)<N - E;omega,(aqv O),by show E+1<=N;omega,by simp [vk],hT⟩
 have s6:E=N:=by omega
 have dt:ng B E=bQ M:=by
  rw [s6,<-s5,ajl];apply jE
  ·rw [fS,vR,s5,ny]
  intro k h1 h2;rw [fS]at h1;have e1:=Gn k am;rw [bR h1,bR h2]at e1;rw [List.getElem_map];exact e1
 rw [dt]at hS;refine bp O (bt (cS O ?_));refine ao.cN 2 (hS.rd 0 O) O O O ?_;have aF:St w eF (bJ A2 0 none 0 0 none 0 0::(ax 2 AR N cR (bU M i)::(aS 34 2 dQ N N dH (bQ M)++ []))):=by
  have hs:(aS 34 2 dQ N N dH (bQ M)++ [ax 2 AR N cR (bU M i),bJ A2 0 none 0 0 none 0 0]).Sublist (bJ A4 i AR N cR dQ N N::(aS 34 2 dQ N N dH (bQ M)++KK)):=by
   rw [s7];exact List.Sublist.cons _ (List.Sublist.append_left (List.Sublist.cons_cons _ (List.Sublist.cons_cons _ (List.nil_sublist _))) _)
  refine(hS.sub hs).perm ?_;rw [fI];exact(nL).trans (List.Perm.swap _ _ _)
 refine b5 3 0 aF O O O O O O O fun fH dT=>bH O (kG O (dT.rd 0 O) O ?_);refine .inr ⟨am,AR,cR,dQ,N,dH,?_,by rw [ny];exact vk,?_⟩
 ·rw [ny,gX];rfl
 rw [ny,gX];exact dT.tail
theorem ZB(A:aj)(n c:Nat)(xs:ai)(w:aa)(hR:cL w A n xs)(hn:n<=1000000000):
 aJ prog 162 [.slice A n c] w (fun v w'=>∃b:Bool,v= .bool b/\(b=true↔tG xs)/\St w w' []):=by
 have iU:=hR.1;refine bC func162 O ntmps162 O (df O) ?_;refine bh O (a8 O O (dZ O (aC O ?_)));refine Cd.loop (α:=Nat) (fun k=> [(0,.slice A n c),(3,ak ((n:Int) - 1 - (k:Int)))]) (fun k w'=>St w w' []/\(k<=n - 1)/\∀j:Nat,n - k<=j->j<n->gi xs ((j:Int) - 1)<=gi xs j) (fun k=>n - k) 0 ⟨O,aE (Value.int .i64) (by show(n:Int) - 1=(n:Int) - 1 - ((0:Nat):Int);omega),au⟩ ⟨St.refl w,bg _,fun j h1 h2=>by omega⟩ ?_;rintro k e w1 ⟨hS,hk,hK⟩;have lW:=hS.gA hR;refine bL O (aM _ O (fun h1=>?_) (fun h1=>?_))
 ·have e1:((n:Int) - 1 - (k:Int))=((n - 1 - k:Nat):Int):=by omega
  have e2:((n:Int) - 1 - (k:Int) - 1)=((n - 1 - k:Nat):Int) - 1:=by omega
  refine dA O ?_;refine dU [xS (A) (n) (c),xI (((n:Int) - 1 - (k:Int))),xP (ay (A) (((n:Int) - 1 - (k:Int))).toNat),xI (gi (xs) (((n:Int) - 1 - (k:Int)))),xS (A) (n) (c),xI (((n:Int) - 1 - (k:Int))),xI ((((n:Int) - 1 - (k:Int))) - ((1:Int))),xP (ay (A) ((((n:Int) - 1 - (k:Int))) - ((1:Int))).toNat),xI (gi (xs) ((((n:Int) - 1 - (k:Int))) - ((1:Int)))),xB (decide (gi xs ((n:Int) - 1 - (k:Int))<gi xs ((n:Int) - 1 - (k:Int) - 1)))] O (eG O) ?_ ?_
  ·refine⟨Dr O,Dr O,fun _ _ hb _ _=>aD (lW.aq hb).2 O Az,fun _ _ hb _ _=>aY (lW.aq hb) O Az,Dr O,Dr O,fun _ _ _ _ _=>dZ O Az,fun _ _ hb _ _=>aD (lW.aq hb).2 O Az,fun _ _ hb _ _=>aY (lW.aq hb) O Az,?_,au⟩
   ·intro e1 w1 hb hp aU;refine aL (Sd _ _ _) O ?_;rintro _ w2 ⟨rfl,av⟩;subst av;refine ao.n (d0 (by exact O))
  intro u w2 hb _;have aF:=hS.aq hb;refine eS O (aM _ O (fun h2=>?_) (fun h2=>?_))
  ·refine dM O (fB (fe ?_));refine dq O ?_;refine⟨false,rfl,⟨fun h=> (by cases h),fun h=>?_⟩,aF⟩;rw [e1]at h2;have h3:=List.pairwise_iff_getElem.1 h (n - 1 - k - 1) (n - 1 - k) am am am;rw [<-bV (by omega),<-bV (by omega),show((n - 1 - k - 1:Nat):Int)=((n - 1 - k:Nat):Int) - 1 by omega]at h3;omega
  ·refine aA O (dZ O (aT O (tQ ?_)));refine⟨k+1,by show n - (k+1)<n - k;omega,⟨O,aE (Value.int .i64) (by show(n:Int) - 1 - (k:Int) - 1=(n:Int) - 1 - ((k+1:Nat):Int);omega),au⟩,aF,am,fun j NR pG=>?_⟩
   by_cases ej:n - k<=j
   ·exact hK j ej pG
   ·have:(j:Int)=(n:Int) - 1 - (k:Int):=by omega
    rw [this];omega
 ·refine bp O (bt (gw O ?_));refine dq O ⟨true,O,⟨fun _=>?_,fun _=>O⟩,hS⟩;have key:∀j i:Nat,i<=j->j<n->gi xs i<=gi xs j:=by
   intro j
   induction j with
   | zero=>
    intro i hi _;have:i=0:=by omega
    rw [this];exact Int.le_refl _
   | succ j ih=>
    intro i hi hj
    by_cases e:i=j+1
    ·subst e;exact Int.le_refl _
    ·have h3:=ih i am am;have h4:=hK (j+1) am hj;rw [show((j+1:Nat):Int) - 1=(j:Int) by omega]at h4;omega
  refine List.pairwise_iff_getElem.2 fun i j hi hj iy=>?_
  have:=key j i am am
  rwa [bV hi,bV hj]at this
theorem aaL{n:Int}{R:ai}(h:∀x∈R,0<=x/\x<=n - 1):BC 0 (n - 1) R:=h
theorem Wa(n:Int)(A D:aj)(cA cD:Nat)(R:ai)(rs:List aO)(B:ah)(w:aa)(hR:cL w A R.length R)(hB:bF w D B.length rs B)(hP:gL n R B):
 aJ prog 88 [.agg #[ak n,.slice A R.length cA,.slice D B.length cD]] w (fun v w'=>v= .bool true/\St w w' []):=by
 have hn:=hP.n1;have tc:=hP.qd;have hle:=hP.len;have bS:=fun e (h:e<R.length)=>hP.row e h
 have cn:∀e:Nat,e<R.length->(gl B e).length<=500:=fun e h=>by
  have:=q8 (N:=R.length) (bS e h).1.nodup fun x hx=> ((bS e h).2 x hx).1
  omega
 obtain⟨N,hN⟩:∃N,R.length=N:=⟨_,rfl⟩;rw [hN]at hR tc hle bS cn|-;rw [hle]at hB|-;refine bC func88 O ntmps88 O (df O) (bh O (oG (St.refl w) O O ?_));intro A1 w1 aH;have dE:=aH.below;have h1:Rd w1 A1 3 (fun j=> [Value.int .i64 n,.slice A N cA,.slice D N cD].getD j undef):=aH.rd 0 O;have hR:=hR.aq dE;have hB:=hB.aq dE;have aH:=aH.none;refine ar O (aV h1 O (bj h1 O (aL (xO _ _ _ _) O ?_)));rintro _ w1 ⟨rfl,rfl⟩;refine ar O (aV h1 O (gP (j:=0) h1 (by exact aE Value.pointer O) O O O O (aL (zv _ _ _ _) O ?_)));rintro _ w1 ⟨rfl,rfl⟩
 first | refine fv rfl rfl ?_ | refine gz rfl rfl ?_
 refine ar O (dI 23 O (fun h=>absurd am h) (fun _=>?_));refine aw O (ar O (aw O (ar O ?_)));refine dI 27 O (fun h=>by omega) (fun _=>?_);refine aw O (aV h1 O (aw O (bj h1 O ?_)));refine aw O (a8 O O (aw O ?_));refine aV h1 O (aw O (bj h1 O ?_));refine aw O (a8 O O (aw O (ar O ?_)));refine dI 36 O (fun h=>absurd O h) (fun _=>?_);refine aw O (aV h1 O (aw O (bj h1 O (aw O (aV h1 O (aw O (gP (j:=0) h1 (by exact aE Value.pointer O) O O O O ?_)))))));refine aw O (dZ O (aw O ?_));refine aL (aaR A N cA R 0 (n - 1) _ hR am) O ?_;rintro _ w2 ⟨rfl,av⟩;have hb:=av.below;have h1:=Rd.below h1 hb;have hR:=hR.aq hb;have hB:=hB.aq hb;have aH:=aH.aq hb;clear av hb;refine aw O ?_
 first | refine fv rfl rfl ?_ | refine gz rfl rfl ?_
 refine ar O (dI 45 O (fun h=>absurd (aaL hP.eE) h) (fun _=>?_));refine aw O (aV h1 O (aw O (bj h1 O (aw O (aL (ZB A N cA R _ hR am) O ?_)))));rintro _ w3 ⟨b,rfl,Jq,av⟩;obtain rfl:=Jq.2 hP.Dz;have hb:=av.below;have h1:=Rd.below h1 hb;have hR:=hR.aq hb;have hB:=hB.aq hb;have aH:=aH.aq hb;clear av hb;refine aw O ?_
 first | refine fv rfl rfl ?_ | refine gz rfl rfl ?_
 refine aC O (Cd.fg O (aA O (aV h1 O (bj h1 O ?_))));refine a8 O O (aC O ?_);refine Cd.loop (α:=Nat) (fun k=> [(1,.pointer A1),(3,ak N),(52,.slice D N cD),(53,ak N),(54,ak k)]) (fun k w'=>k<=N/\St w3 w' []) (fun k=>N - k) 0 (aqv O) ⟨bg _,St.refl _⟩ ?_;rintro k e w4 ⟨hk,av⟩;have hb:=av.below;have h1:=Rd.below h1 hb;have hR:=hR.aq hb;have hB:=hB.aq hb;have aH:=aH.aq hb;clear hb;refine bL O (aM _ O (fun h3=>?_) (fun h3=>?_))
 ·have yH:k<N:=by omega
  have iL:=hB.at_ (i:=(k:Int)) am am;have jk:=iL.1;have Ev:=cn k yH;have jx:=bS k yH;refine aA O (aD hB.top.2 O (b9 hB.top O ?_));refine ar O (a8 O O (aC O ?_));refine Cd.loop (α:=Nat) (fun q=> [(1,.pointer A1),(3,ak N),(52,.slice D N cD),(53,ak N),(54,ak k),(4,ak k),(5,.slice (rg rs k).a (rg rs k).n (rg rs k).c),(59,.slice (rg rs k).a (rg rs k).n (rg rs k).c),(60,ak ((rg rs k).n:Int)),(61,ak q)]) (fun q w'=>q<=(rg rs k).n/\St w4 w' []) (fun q=> (rg rs k).n - q) 0 (aqv O) ⟨bg _,St.refl _⟩ ?_;rintro q e w5 ⟨hq,lE⟩;have hb:=lE.below;have h1:=Rd.below h1 hb;have hR:=hR.aq hb;have hB:=hB.aq hb;have iL:=iL.aq hb;clear hb;refine bL O (aM _ O (fun h4=>?_) (fun h4=>?_))
  ·have Ct:q< (gl B k).length:=by omega
   have hd:=jx.2 (gi (gl B k) q) (gi_in Ct);refine aA O (aD iL.2 O (aY iL O (aC O ?_)));generalize Uw:gi (gl B k) q=d at*
   by_cases Of:0<q
   ·
    have J3:=jx.1.AL (show q - 1<q by omega) Ct;rw [Uw,show((q - 1:Nat):Int)=(q:Int) - 1 by omega]at J3;refine dU [xI (d),xI ((N:Int)),xI (((N:Int)) - ((1:Int))),xB (decide (0<=d/\d<=(N:Int) - 1)),xB (false),xB (false),xP (ay (A1) 1),xS (A) (N) (cA),xI (d),xP (ay (A) (d).toNat),xI (gi (R) (d)),xP (ay (A1) 1),xS (A) (N) (cA),xI ((k:Int)),xP (ay (A) ((k:Int)).toNat),xI (gi (R) ((k:Int))),xB (false),xB (false),xB (false),xI ((q:Int)),xB (true),xB (true),xS ((rg rs k).a) ((rg rs k).n) ((rg rs k).c),xI ((q:Int)),xI (((q:Int)) - ((1:Int))),xP (ay ((rg rs k).a) (((q:Int)) - ((1:Int))).toNat),xI (gi (gl B k) (((q:Int)) - ((1:Int)))),xI (d),xB (false),xB (false),xB (false)] O (eG O) ?_ ?_
    ·refine⟨Dr O,Dr O,fun _ _ _ _ _=>dZ O Az,?_,fun _ _ _ _ _=>fv O O (Az (by exact aE Value.bool (cT (fun h=>h am)))),Dr O,fun _ _ hb _ _=>aw O (aV (h1.below hb) O Az),fun _ _ hb _ _=>aw O (bj (h1.below hb) O Az),Dr O,fun _ _ hb _ _=>aw O (aD (hR.aq hb).2 O Az),fun _ _ hb _ _=>aw O (aY (hR.aq hb) O Az),fun _ _ hb _ _=>aw O (aV (h1.below hb) O Az),fun _ _ hb _ _=>aw O (bj (h1.below hb) O Az),Dr O,fun _ _ hb _ _=>aw O (aD (hR.aq hb).2 O Az),fun _ _ hb _ _=>aw O (aY (hR.aq hb) O Az),fun _ _ _ _ _=>Dk O (by exact aE Value.bool (cT am)),Dr O,Dr O,Dr O,fun _ _ _ _ _=>Dk O (by exact aE Value.bool (dz am)),Dr O,Dr O,Dr O,fun _ _ _ _ _=>aw O (dZ O Az),fun _ _ hb _ _=>aw O (aD (iL.aq hb).2 O Az),fun _ _ hb _ _=>aw O (aY (iL.aq hb) O Az),Dr O,fun _ _ _ _ _=>Dk O (by exact aE Value.bool (cT am)),Dr O,Dr O,au⟩;intro e1 w1 hb hp aU;refine aL (zv _ _ _ _) O ?_;rintro _ w2 ⟨rfl,av⟩;subst av;refine ao.n (d0 (by exact O))
    intro u w6 hb _;refine eS O (Cd.fg O ?_);refine aA O (aI O (aT O (tQ ?_)));exact⟨q+1,by show(rg rs k).n - (q+1)< (rg rs k).n - q;omega,(aqv O),am,lE.aq hb⟩
   refine dU [xI (d),xI ((N:Int)),xI (((N:Int)) - ((1:Int))),xB (decide (0<=d/\d<=(N:Int) - 1)),xB (false),xB (false),xP (ay (A1) 1),xS (A) (N) (cA),xI (d),xP (ay (A) (d).toNat),xI (gi (R) (d)),xP (ay (A1) 1),xS (A) (N) (cA),xI ((k:Int)),xP (ay (A) ((k:Int)).toNat),xI (gi (R) ((k:Int))),xB (false),xB (false),xB (false),xI ((q:Int)),xB (false),xB (false),xU,xU,xU,xU,xU,xU,xU,xB (false),xB (false)] O (eG O) ?_ ?_
   ·refine⟨Dr O,Dr O,fun _ _ _ _ _=>dZ O Az,?_,fun _ _ _ _ _=>fv O O (Az (by exact aE Value.bool (cT (fun h=>h am)))),Dr O,fun _ _ hb _ _=>aw O (aV (h1.below hb) O Az),fun _ _ hb _ _=>aw O (bj (h1.below hb) O Az),Dr O,fun _ _ hb _ _=>aw O (aD (hR.aq hb).2 O Az),fun _ _ hb _ _=>aw O (aY (hR.aq hb) O Az),fun _ _ hb _ _=>aw O (aV (h1.below hb) O Az),fun _ _ hb _ _=>aw O (bj (h1.below hb) O Az),Dr O,fun _ _ hb _ _=>aw O (aD (hR.aq hb).2 O Az),fun _ _ hb _ _=>aw O (aY (hR.aq hb) O Az),fun _ _ _ _ _=>Dk O (by exact aE Value.bool (cT am)),Dr O,Dr O,Dr O,fun _ _ _ _ _=>Dk O (by exact aE Value.bool (cT am)),Dr O,Dr O,Dr O,Dr O,Dr O,Dr O,Dr O,Dr O,Dr O,Dr O,au⟩;intro e1 w1 hb hp aU;refine aL (zv _ _ _ _) O ?_;rintro _ w2 ⟨rfl,av⟩;subst av;refine ao.n (d0 (by exact O))
   intro u w6 hb _;refine eS O (Cd.fg O ?_);refine aA O (aI O (aT O (tQ ?_)));exact⟨q+1,by show(rg rs k).n - (q+1)< (rg rs k).n - q;omega,(aqv O),am,lE.aq hb⟩
  refine bp O (bt (cS O (aI O (aT O (tQ ?_)))));exact⟨k+1,by show N - (k+1)<N - k;omega,(aqv O),am,av.aq lE.below⟩
 clear av h3;refine bp O (bt (cS O ?_));refine aV h1 O (bj h1 O ?_);refine a8 O O (aC O ?_);refine Cd.loop (α:=Nat) (fun k=> [(1,.pointer A1),(100,.slice D N cD),(101,ak N),(102,ak k)]) (fun k w'=>k<=N/\St w4 w' []) (fun k=>N - k) 0 (aqv O) ⟨bg _,St.refl _⟩ ?_;rintro k e w5 ⟨hk,av⟩;have hb:=av.below;have h1:=Rd.below h1 hb;have hB:=hB.aq hb;have aH:=aH.aq hb;clear hb;refine bL O (aM _ O (fun h3=>?_) (fun h3=>?_))
 ·have yH:k<N:=by omega
  have iL:=hB.at_ (i:=(k:Int)) am am;have jk:=iL.1;have Ev:=cn k yH;have jx:=bS k yH;refine aA O (aD hB.top.2 O (b9 hB.top O ?_));refine ar O (a8 O O (aC O ?_));refine Cd.loop (α:=Nat) (fun q=> [(1,.pointer A1),(100,.slice D N cD),(101,ak N),(102,ak k),(9,.slice (rg rs k).a (rg rs k).n (rg rs k).c),(106,.slice (rg rs k).a (rg rs k).n (rg rs k).c),(107,ak ((rg rs k).n:Int)),(108,ak q)]) (fun q w'=>q<=(rg rs k).n/\w'=w5) (fun q=> (rg rs k).n - q) 0 (aqv O) ⟨bg _,O⟩ ?_;rintro q e w6 ⟨hq,rfl⟩;refine bL O (aM _ O (fun h4=>?_) (fun h4=>?_))
  ·have Ct:q< (gl B k).length:=by omega
   have mU:=gi_in Ct;have hd:=jx.2 (gi (gl B k) q) mU;refine aA O (aD iL.2 O (aY iL O (ar O (aV h1 O (bj h1 O (ar O ?_))))));generalize Uw:gi (gl B k) q=d at*;have pJ:=hB.at_ (i:=d) am am;have hrdn:=pJ.1;have GI:(gl B d).length<=500:=by
    have:=cn d.toNat am
    rwa [Int.toNat_of_nonneg hd.1.1]at this
   refine aD hB.top.2 O (b9 hB.top O ?_);refine a8 O O (aC O ?_);refine Cd.loop (α:=Nat) (fun t=> [(1,.pointer A1),(100,.slice D N cD),(101,ak N),(102,ak k),(9,.slice (rg rs k).a (rg rs k).n (rg rs k).c),(106,.slice (rg rs k).a (rg rs k).n (rg rs k).c),(107,ak ((rg rs k).n:Int)),(108,ak q),(116,.slice (rg rs d).a (rg rs d).n (rg rs d).c),(117,ak ((rg rs d).n:Int)),(118,ak t)]) (fun t w'=>t<=(rg rs d).n/\w'=w6) (fun t=> (rg rs d).n - t) 0 (aqv O) ⟨bg _,O⟩ ?_;rintro t e w7 ⟨ht,rfl⟩;refine bL O (aM _ O (fun h5=>?_) (fun h5=>?_))
   ·have htn:t< (gl B d).length:=by omega
    have oW:=gi_in htn;have htr:=hP.tr k am d mU _ oW;refine aA O (aD pJ.2 O (aY pJ O (ar O (aL (RS _ _ _ (gl B k) _ _ iL jx.1 am) O ?_))));rintro _ _ ⟨⟨p,rfl⟩,rfl⟩;refine ar O ?_
    first | refine fv rfl rfl ?_ | refine gz rfl rfl ?_
    refine aC O (qC O (fun h=>h htr) (aA O (aI O (aT O (tQ ?_)))));exact⟨t+1,by show(rg rs d).n - (t+1)< (rg rs d).n - t;omega,(aqv O),am,O⟩
   refine bp O (bt (cS O (aI O (aT O (tQ ?_)))));exact⟨q+1,by show(rg rs k).n - (q+1)< (rg rs k).n - q;omega,(aqv O),am,O⟩
  refine bp O (bt (cS O (aI O (aT O (tQ ?_)))));exact⟨k+1,by show N - (k+1)<N - k;omega,(aqv O),am,av⟩
 refine bp O (bt (gw O ?_));exact dq O ⟨O,aH⟩
theorem BO{M:ah}(hM:wX M){i f:Nat}(hf:f< (gl M 0).length):(aR M i:Int)<=dd M i f/\dd M i f< (aR M (i+1):Int):=by
 have h1:=IF hM i f hf;unfold dd;show _/\_< ((aR M i+ (jg M i).toNat:Nat):Int);omega
theorem akM{α:Type}(x a b c d e f g:α)(X Y:List α):(x::a::b::c::d::e::f::g::(X++Y)).Perm (a::b::c::d::e::f::g::((X++ [x])++Y)):=by
 classical
 refine jT.2 fun z=>?_
 simp only [l9,jS,ln];omega
theorem akN{α:Type}(x a b c d e f g:α)(X Y:List α):(x::a::b::c::d::e::f::g::(X++Y)).Perm (a::b::c::d::e::f::g::(X++ (Y++ [x]))):=by
 classical
 refine jT.2 fun z=>?_
 simp only [l9,jS,ln];omega
theorem akO{α:Type}(a b c d e f g:α)(X Y:List α):(a::b::c::d::e::f::g::(X++Y)).Perm (a::((f::X)++ (b::c::d::e::((g::Y)++ [])))):=by
 classical
 refine jT.2 fun z=>?_
 simp only [l9,jS,ln];omega
def ni(M:ah)(i:Nat):ai:=(List.range i).map fun k=> (aR M k:Int)
def pQ(M:ah)(i:Nat):ah:=(List.range i).map (eT M)
theorem akx(M:ah)(i:Nat):ni M (i+1)=ni M i++ [(aR M i:Int)]:=by simp [ni,jU]
theorem aiv(M:ah)(i:Nat):pQ M (i+1)=pQ M i++ [eT M i]:=by simp [pQ,jU]
theorem Xb{M:ah}{i k:Nat}(h:k<i):gi (ni M i) k=(aR M k:Int):=by
 rw [bV (by simp [ni];exact h)];simp [ni]
theorem Wr{M:ah}{i k:Nat}(h:k<i):gl (pQ M i) k=eT M k:=by
 rw [bR (by simp [pQ];exact h)];simp [pQ]
theorem OV(M:ah)(i:Nat):(pQ M i).length=i:=by simp [pQ]
def tH(M:ah)(i f k:Nat)(G:List Bool):Prop:=G.length=aR M M.length*aR M M.length/\∀e d:Nat,e<aR M M.length->d<aR M M.length->(gb G ((e*aR M M.length+d:Nat):Int)=true↔∃f' k',(f'<f\/f'=f/\k'<k)/\f'< (gl M 0).length/\k'<i/\dd M i f'=e/\dd M k' f'=d)
theorem akJ{N e d e' d':Nat}(h1:d<N)(h2:d'<N)(h:e*N+d=e'*N+d'):e=e'/\d=d':=by
 have h3:(e*N+d) / N=e:=by rw [Nat.add_comm,Nat.add_mul_div_right _ _ (by omega),Nat.div_eq_of_lt h1,Nat.zero_add]
 have h4:(e'*N+d') / N=e':=by rw [Nat.add_comm,Nat.add_mul_div_right _ _ (by omega),Nat.div_eq_of_lt h2,Nat.zero_add]
 have h5:e=e':=by rw [<-h3,h,h4]
 subst h5;exact⟨O,am⟩
theorem PC{N e d:Nat}(h1:e<N)(h2:d<N):e*N+d<N*N:=by
 have:(e+1)*N<=N*N:=Nat.mul_le_mul_right N h1;rw [Nat.succ_mul]at this;omega
theorem tH.zero(M:ah)(i:Nat):tH M i 0 0 (List.replicate (aR M M.length*aR M M.length) false):=by
 refine⟨by simp,fun e d he hd=>?_⟩;have:gb (List.replicate (aR M M.length*aR M M.length) false) ((e*aR M M.length+d:Nat):Int)=false:=by
  simp only [gb,jq,dm,List.getElem?_replicate]
  split<;>rfl
 rw [this];constructor
 ·intro h;cases h
 rintro⟨f',k',h,_⟩;omega
theorem tH.next{M:ah}(hM:wX M){i f k:Nat}{G:List Bool}(h:tH M i f k G)(hf:f< (gl M 0).length)(hi:i<M.length)(hk:k<i):tH M i f (k+1) (G.set ((dd M i f).toNat*aR M M.length+ (dd M k f).toNat) true):=by
 have h1:=BO hM (i:=i) hf;have h2:=BO hM (i:=k) hf;have h3:=pa M (show i+1<=M.length by omega);have h4:=pa M (show k+1<=M.length by omega);refine⟨by rw [mA];exact h.1,fun e d he hd=>?_⟩;have hl:=PC (e:=(dd M i f).toNat) (d:=(dd M k f).toNat) (N:=aR M M.length) am am;have hg:gb (G.set ((dd M i f).toNat*aR M M.length+ (dd M k f).toNat) true) ((e*aR M M.length+d:Nat):Int)=if(dd M i f).toNat*aR M M.length+ (dd M k f).toNat=e*aR M M.length+d then true else gb G ((e*aR M M.length+d:Nat):Int):=by
  simp only [gb,jq,dm,mR]
  by_cases e1:(dd M i f).toNat*aR M M.length+ (dd M k f).toNat=e*aR M M.length+d
  ·rw [aB e1,aB (by rw [h.1];exact hl),aB e1];rfl
  rw [az e1,az e1]
 rw [hg]
 by_cases e1:(dd M i f).toNat*aR M M.length+ (dd M k f).toNat=e*aR M M.length+d
 ·rw [aB e1];have:=akJ am hd e1;exact⟨fun _=> ⟨f,k,.inr ⟨O,am⟩,hf,hk,am,am⟩,fun _=>O⟩
 rw [az e1,h.2 e d he hd];constructor
 ·rintro⟨f',k',q,r⟩;exact⟨f',k',am,r⟩
 rintro⟨f',k',q,r1,r2,r3,r4⟩;refine⟨f',k',?_,r1,r2,r3,r4⟩
 by_cases e2:f'=f/\k'=k
 ·obtain⟨rfl,rfl⟩:=e2;exact absurd (by rw [r3,r4];rfl) e1
 omega
theorem tH.row{M:ah}{i f:Nat}{G:List Bool}(h:tH M i f i G):tH M i (f+1) 0 G:=by
 refine⟨h.1,fun e d he hd=>?_⟩;rw [h.2 e d he hd];constructor
 ·rintro⟨f',k',q,r⟩;exact⟨f',k',am,r⟩
 rintro⟨f',k',q,r1,r2,r3⟩;exact⟨f',k',am,r1,r2,r3⟩
theorem tH.done{M:ah}(hM:wX M){i:Nat}{G:List Bool}(h:tH M i (gl M 0).length 0 G)(hi:i<M.length){e d:Nat}(he:e<aR M M.length)(hd:d<aR M M.length):gb G ((e*aR M M.length+d:Nat):Int)=true↔((aR M i<=e/\e<aR M (i+1))/\(d:Int)∈gl (bQ M) e):=by
 rw [h.2 e d he hd,rI (by omega) (by omega)];constructor
 ·rintro⟨f',k',_,r1,r2,r3,r4⟩;have:=BO hM (i:=i) r1;exact⟨am,am,f',r1,i,hi,k',r2,r3.symm,r4.symm⟩
 rintro⟨h1,_,f',r1,i',dw,k',r2,r3,r4⟩;have h5:=BO hM (i:=i') r1;have:i'=i:=by
  rcases Nat.lt_trichotomy i' i with h | h | h
  ·have:=pa M (show i'+1<=i by omega);omega
  ·exact h
  have:=pa M (show i+1<=i' by omega);omega
 subst this;exact⟨f',k',am,r1,r2,r3.symm,r4.symm⟩
noncomputable def uM(M:ah)(i e d x:Nat):ai:=if x<aR M i then gl (bQ M) x else if aR M (i+1)<=x then []else if x<e then gl (bQ M) x else if x=e then(gl (bQ M) x).filter fun y=>decide (y<d)else []
noncomputable def gH(M:ah)(i e d:Nat):ah:=(List.range (aR M M.length)).map (uM M i e d)
theorem zH(M:ah)(i e d:Nat):(gH M i e d).length=aR M M.length:=by simp [gH]
theorem RK{M:ah}{i e d x:Nat}(h:x<aR M M.length):gl (gH M i e d) x=uM M i e d x:=by
 rw [bR (by rw [zH];exact h)];simp [gH]
theorem ac0{M:ah}{e:Nat}(he:e<aR M M.length):gl (bQ M) e=(gl (bQ M) e).filter (fun y=>decide (y< (aR M M.length:Int))):=by
 refine(List.filter_eq_self.2 fun y hy=>?_).symm;rw [rI (by omega) (by omega)]at hy;exact dz hy.1.2
theorem Ti(M:ah)(e:Int):SA (gl (bQ M) e):=by
 have dt:∀l∈bQ M,SA l:=fun l hl=>by
  unfold bQ at hl;obtain⟨x,_,rfl⟩:=dF.1 hl;exact qb _ (mM _)
 by_cases h:e.toNat< (bQ M).length
 ·have:gl (bQ M) e=gl (bQ M) (e.toNat:Int):=by simp only [gl,jq]
  rw [this,bR h];exact dt _ (dK _)
 have:gl (bQ M) e=[]:=by simp [gl,dm,me (Nat.le_of_not_lt h)]
 rw [this];exact List.Pairwise.nil
theorem ac1{M:ah}(hM:wX M){e:Nat}(he:e<aR M 1):gl (bQ M) e=[]:=by
 have h5:=hM.1;have vf:=pa M (show 1<=M.length by omega);refine List.eq_nil_iff_forall_not_mem.2 fun y hy=>?_
 rw [rI (by omega) (by omega)]at hy;obtain⟨_,f,hf,i,hi,k,hk,h1,_⟩:=hy;have h2:=BO hM (i:=i) hf;have h3:=pa M (show 1<=i by omega);omega
theorem aaX{M:ah}(hM:wX M):gH M 1 0 0=List.replicate (aR M M.length) []:=by
 apply jE (by simp [gH]);intro x h1 h2;rw [zH]at h1;simp only [gH,List.getElem_map,List.getElem_range,List.getElem_replicate];unfold uM
 split
 ·exact ac1 hM (by assumption)
 split
 ·rfl
 split
 ·omega
 split
 ·rename_i h;subst h;rw [List.filter_eq_nil_iff];intro y hy h;have:=uq h;rw [rI (by omega) (by omega)]at hy;omega
 rfl
theorem aaW{M:ah}{i:Nat}:gH M i (aR M M.length) 0=gH M (i+1) 0 0:=by
 unfold gH;refine pj fun x hx=>?_
 have hx:=ig.1 hx;have h1:=pa M (show i+1<=i+1+1 by omega);have h2:=pa M (show i<=i+1 by omega);have hz:∀y∈gl (bQ M) x,0<=y:=fun y hy=>by rw [rI (by omega) (by omega)]at hy;omega
 unfold uM
 by_cases c1:x<aR M i
 ·rw [aB c1,aB (by omega)]
 rw [az c1]
 by_cases c2:x<aR M (i+1)
 ·rw [az (by omega),aB hx,aB c2]
 rw [aB (by omega),az c2]
 split
 ·rfl
 rw [az (by omega)]
 split
 ·rename_i h;subst h;symm;rw [List.filter_eq_nil_iff];intro y hy h;have:=uq h;have:=hz y hy;omega
 rfl
theorem aaZ{M:ah}{i e:Nat}:gH M i e (aR M M.length)=gH M i (e+1) 0:=by
 unfold gH;refine pj fun x hx=>?_
 have hx:=ig.1 hx;have hz:∀y∈gl (bQ M) x,0<=y:=fun y hy=>by rw [rI (by omega) (by omega)]at hy;omega
 unfold uM
 by_cases c1:x<aR M i
 ·rw [aB c1,aB c1]
 rw [az c1,az c1]
 by_cases c2:aR M (i+1)<=x
 ·rw [aB c2,aB c2]
 rw [az c2,az c2]
 by_cases c3:x<e
 ·rw [aB c3,aB (by omega)]
 rw [az c3]
 by_cases c4:x=e
 ·rw [aB c4,aB (by omega),<-ac0 hx]
 rw [az c4,az (by omega)]
 split
 ·rename_i h;subst h;symm;rw [List.filter_eq_nil_iff];intro y hy h;have:=uq h;have:=hz y hy;omega
 rfl
theorem aa0{M:ah}{i e d:Nat}(he:e<aR M M.length)(hd:d<aR M M.length)(h:¬((aR M i<=e/\e<aR M (i+1))/\(d:Int)∈gl (bQ M) e)):gH M i e (d+1)=gH M i e d:=by
 unfold gH;refine pj fun x hx=>?_
 unfold uM
 by_cases c1:x<aR M i
 ·rw [aB c1,aB c1]
 rw [az c1,az c1]
 by_cases c2:aR M (i+1)<=x
 ·rw [aB c2,aB c2]
 rw [az c2,az c2]
 by_cases c3:x<e
 ·rw [aB c3,aB c3]
 rw [az c3,az c3]
 by_cases c4:x=e
 ·subst c4;rw [aB rfl,aB rfl];refine List.filter_congr fun y hy=>?_
  have bP:y≠(d:Int):=fun e=>h ⟨am,e▸hy⟩
  exact ju.2 am
 rw [az c4,az c4]
theorem aaY{M:ah}{i e d:Nat}(he:e<aR M M.length)(h:(aR M i<=e/\e<aR M (i+1))/\(d:Int)∈gl (bQ M) e):(gH M i e d).set e (gl (gH M i e d) e++ [(d:Int)])=gH M i e (d+1):=by
 apply jE (by simp [gH]);intro x h1 h2;rw [zH]at h2;rw [List.getElem_set];have e2:∀d' (hx:x< (gH M i e d').length),(gH M i e d')[x]=uM M i e d' x:=fun d' hx=>by simp [gH]
 rw [e2 (d+1) (by rw [zH];exact h2),e2 d (by rw [zH];exact h2)]
 by_cases c:e=x
 ·subst c;rw [aB rfl,RK he];have hz:∀d':Nat,uM M i e d' e=(gl (bQ M) e).filter fun y=>decide (y< (d':Int)):=fun d'=>by
   unfold uM;rw [az (by omega),az (by omega),az (by omega),aB rfl]
  rw [hz,hz];have hs:=Ti M e;refine SA.eq ?_ (qb _ hs) fun y=>?_
  ·rw [SA,List.pairwise_append];refine⟨qb _ hs,List.pairwise_singleton _ _,fun a ha b hb=>?_⟩;obtain rfl:=gj.1 hb;exact uq (gy.1 ha).2
  rw [jd,gy,gy,gj];simp only [kB];constructor
  ·rintro(⟨h3,h4⟩ | rfl)
   ·exact⟨h3,am⟩
   exact⟨h.2,am⟩
  rintro⟨h3,h4⟩
  by_cases e3:y=(d:Int)
  ·exact .inr e3
  exact .inl ⟨h3,am⟩
 rw [az c];unfold uM
 by_cases c1:x<aR M i
 ·rw [aB c1,aB c1]
 rw [az c1,az c1]
 by_cases c2:aR M (i+1)<=x
 ·rw [aB c2,aB c2]
 rw [az c2,az c2]
 by_cases c3:x<e
 ·rw [aB c3,aB c3]
 rw [az c3,az c3,az (fun h=>c h.symm),az (fun h=>c h.symm)]
theorem aaV{M:ah}:gH M M.length 0 0=bQ M:=by
 apply jE (by rw [zH,vR]);intro x h1 h2;rw [zH]at h1;simp only [gH,List.getElem_map,List.getElem_range];unfold uM;rw [aB h1,bR h2]
end
end Go.Proofs.YtkccgdhcpplblaaGreatDoor.Vc
