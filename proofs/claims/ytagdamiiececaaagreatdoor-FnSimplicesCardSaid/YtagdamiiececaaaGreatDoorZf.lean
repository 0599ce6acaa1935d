/-
 Lemmas. Conditions: as each states them.
-/
import Derived.Test.YtagdamiiececaaaGreatDoorZe
import Derived.Lib.ItoaLen
import Derived.Test.YtagdamiiececaaaGreatDoorLayd
import Derived.Shelf.Strconv.AppendIntPublic10
set_option maxHeartbeats 8000000
namespace Go.Proofs.YtagdamiiececaaaGreatDoor.Vc
open Tryz
section
open Go.RowKit
variable{w w':aa}
def lk(xs:ai):List UInt8:=xs.flatMap fun x=>Lib.itoa x++ [32]
def jm(xs:ai):ByteArray:=⟨(lk xs).toArray⟩
def MB(l:List UInt8):Nat:=l.foldl (fun a b=>10*a+ (b.toNat - 48)) 0
theorem H6{d:Nat}(h:d<10):(UInt8.ofNat (48+d)).toNat=48+d:=by
 rw [UInt8.toNat_ofNat'];omega
theorem Dh:∀u:Nat,MB (Lib.decDigits u)=u/\∀b∈Lib.decDigits u,48<=b.toNat/\b.toNat<=57:=by
 intro u
 induction u using Nat.strongRecOn with
 | ind u ih=>
  rw [Lib.decDigits]
  split
  ·rename_i h;refine⟨?_,fun b hb=>?_⟩
   ·simp only [MB,List.foldl_cons,List.foldl_nil,H6 h];omega
   ·simp only [gk]at hb;subst hb;rw [H6 h];omega
  ·rename_i h;obtain⟨h1,h2⟩:=ih (u / 10) (by omega);refine⟨?_,fun b hb=>?_⟩
   ·unfold MB at h1|-;rw [List.foldl_append,h1];simp only [List.foldl_cons,List.foldl_nil,H6 (show u%10<10 by omega)];omega
   ·rcases jz.1 hb with hb | hb
    ·exact h2 b hb
    ·simp only [gk]at hb;subst hb;rw [H6 (by omega)];omega
theorem NU{u v:Nat}(h:Lib.decDigits u=Lib.decDigits v):u=v:=by rw [<-(Dh u).1,h,(Dh v).1]
theorem RS{x:Int}:∀b∈Lib.itoa x,b≠32:=by
 intro b hb e;subst e;unfold Lib.itoa at hb
 split at hb
 ·rcases jq.1 hb with h | h
  ·exact absurd h (by decide)
  have:=(Dh _).2 _ h;exact absurd this (by decide)
 have:=(Dh _).2 _ hb;exact absurd this (by decide)
theorem acj{x y:Int}(h:Lib.itoa x=Lib.itoa y):x=y:=by
 have SF:∀(u v:Nat),45::Lib.decDigits u≠Lib.decDigits v:=fun u v e=>by
  have:=(Dh v).2 45 (by rw [<-e];simp);exact absurd this (by decide)
 unfold Lib.itoa at h
 split at h<;>split at h
 ·simp only [List.cons.injEq,true_and]at h;have:=NU h;omega
 ·exact absurd h (SF _ _)
 ·exact absurd h.symm (SF _ _)
 have:=NU h;omega
theorem TN:∀ {a b r s:List UInt8},(∀x∈a,x≠32)->(∀x∈b,x≠32)->a++32::r=b++32::s->a=b/\r=s
 | [],[],_,_,_,_,h=>by simpa using h
 | [],y::b,_,_,_,hb,h=>by
  simp only [List.nil_append,List.cons_append,List.cons.injEq]at h;exact absurd h.1.symm (hb y (by simp))
 | x::a,[],_,_,ha,_,h=>by
  simp only [List.nil_append,List.cons_append,List.cons.injEq]at h;exact absurd h.1 (ha x (by simp))
 | x::a,y::b,_,_,ha,hb,h=>by
  simp only [List.cons_append,List.cons.injEq]at h;obtain⟨h1,h2⟩:=TN (fun z hz=>ha z (by simp [hz])) (fun z hz=>hb z (by simp [hz])) h.2;exact⟨by rw [h.1,h1],h2⟩
theorem Ev(x:Int)(xs:ai):lk (x::xs)=Lib.itoa x++32::lk xs:=by simp [lk]
theorem acI(xs:ai)(x:Int):lk (xs++ [x])=(lk xs++Lib.itoa x)++ [32]:=by simp [lk]
theorem RV:∀ {xs ys:ai},lk xs=lk ys->xs=ys
 | [],[],_=>rfl
 | [],y::ys,h=>by rw [Ev]at h;simp [lk]at h
 | x::xs,[],h=>by rw [Ev]at h;simp [lk]at h
 | x::xs,y::ys,h=>by
  rw [Ev,Ev]at h;obtain⟨h1,h2⟩:=TN RS RS h;rw [acj h1,RV h2]
theorem Hr{xs ys:ai}(h:jm xs=jm ys):xs=ys:=by
 have h1:(lk xs).toArray=(lk ys).toArray:=aO ByteArray.data h;exact RV (by simpa using h1)
theorem fold_push:∀(l:List UInt8) (s:ByteArray),(l.map fun b=> ((b.toNat:Nat):Int)).foldl (fun r n=>r.push (UInt8.ofNat n.toNat)) s=⟨s.data++l.toArray⟩
 | [],s=>by simp
 | b::l,s=>by
  simp only [List.map_cons,List.foldl_cons];rw [fold_push l];have e:UInt8.ofNat ((b.toNat:Nat):Int).toNat=b:=by simp
  rw [e];have e2:(s.push b).data=s.data.push b:=O;rw [e2]
  congr 1
  apply Array.ext';simp
def js(w : aa): Prop := Lib.TabIs prog w "internal/strconv.uint64pow10" .u64 Lib.pow10Tab
theorem js.aq(h:js w)(hb:Below w.heap.size w w'):js w':=Lib.tabBelow_of_tabIs h w' hb.toBelow
def uP(B:Nat)(w:aa)(A:aj)(m c:Nat)(l:List UInt8):Prop:=w.ownsRow B 5 1 (.slice A m c) m (Lib.byteCells l)
theorem SU{B m:Nat}{v:ad}{xs:List ad}(h:w.ownsRow B 5 1 v m xs):∃A c,v= .slice A m c:=by
 rcases h.2 with⟨rfl,rfl⟩ | ⟨g,cap,cur,rfl,_⟩
 ·exact⟨_,_,O⟩
 exact⟨_,_,O⟩
theorem uP.aq{B:Nat}{A:aj}{m c:Nat}{l:List UInt8}(h:uP B w A m c l)(hb:Below w.heap.size w w'):uP B w' A m c l:=by
 refine⟨h.1,?_⟩;rcases h.2 with h1 | ⟨g,cap,cur,h1,h2,h3,r⟩
 ·exact .inl h1
 exact .inr ⟨g,cap,cur,h1,h2,by rw [hb.block g (Array.getElem?_eq_some_iff.1 h3).1];exact h3,r⟩
section
variable {N:Nat} {ops:Array Oper} {K:Env->aa->Prop} {rest:List Oper} {e:Env} {w0 w w':aa} {ks:List Ck} {d:Nat} {ty:ae} {pos:String} {af:Array Edge}
theorem U0{B m c:Nat}{A:aj}{l:List UInt8}{A1:aj}{b:UInt8}{x y:ag}(hO:uP B w A m c l)(hB:B<=w.heap.size)(hR:Rd w A1 1 (fun _=> .int .u8 (b.toNat:Nat)))(hx:ev e x= .slice A m c)(hy:ev e y= .slice A1 1 1)(hm:m<=1000000000)(hb:Nat.blt d N=true)
 (hK:∀A2 c2 w',Go.RowKit.Below B w w'->uP B w' A2 (m+1) c2 (l++ [b])->ao prog N ops K rest (bq e d (.slice A2 (m+1) c2)) w'):
 ao prog N ops K (⟨some d,.call ⟨.builtin .append, #[x,y], #[22,22]⟩,ty,pos,af,none⟩::rest) e w:=by
 obtain⟨inf,hi,fH,hs,iW⟩:=bF.get prog 5;obtain⟨p,hp,hc⟩:=hR 0 (by omega);obtain⟨a,rfl⟩:∃a,A1=some a:=by cases A1 with | none=>simp [aJ]at hp | some q=>exact⟨q,rfl⟩
 simp only [aJ,Option.map_some,oO]at hp;obtain⟨v',w',hr,DG,hg,_⟩:=run_append_own (P:=prog) (w:=w) B 22 ty 5 inf (.int .u8 0) 1 1 underlying22 hi fH hs iW rfl (by decide) (.slice A m c) m (Lib.byteCells l) hO a 1 1 [.int .u8 (b.toNat:Nat)] rfl
  (fun j u hj=>by
    match j,hj with
    | 0,hj=>simp at hj;subst hj;rw [hp];exact hc) (fun u hu=>by simp at hu;subst hu;rfl) (by simp only [maxLen];omega) (by omega) hB
 obtain⟨A2,c2,rfl⟩:=SU DG;refine .val (w':=w') ?_ hb (hK A2 c2 w' ?_ ?_)
 ·simp [execOp,resolve,invoke,builtin,hx,hy,hr]
 ·exact(Go.RowKit.Below.refl B w).grown hg hB (fun k hk=> (hO.lt k hk).1)
 ·show w'.ownsRow B 5 1 (.slice A2 (m+1) c2) (m+1) (Lib.byteCells (l++ [b]));rw [show Lib.byteCells (l++ [b])=Lib.byteCells l++ [.int .u8 (b.toNat:Nat)] by simp [Lib.byteCells]];exact DG
theorem U9{B m c:Nat}{A:aj}{l:List UInt8}{x:ag}(hO:uP B w A m c l)(hx:ev e x= .slice A m c)(hb:Nat.blt d N=true)(hK:ao prog N ops K rest (bq e d (.string ⟨l.toArray⟩)) w):
 ao prog N ops K (⟨some d,.convert 22 9 x,ty,pos,af,none⟩::rest) e w:=by
 have hr:(Conv.bytesToString (.slice A m c)).run prog w= .ok (.string ⟨l.toArray⟩) w:=by
  have hl:(Lib.byteCells l).length=m*1:=hO.1;rcases hO.2 with⟨h1,h2⟩ | ⟨g,cap,cur,h1,_⟩
  ·simp only [Value.slice.injEq]at h1;obtain⟨rfl,rfl,rfl⟩:=h1;have:l=[]:=qH (by rw [Lib.byteCells_length]at hl;omega);subst this
   rfl
  simp only [Value.slice.injEq]at h1;obtain⟨rfl,_,rfl⟩:=h1;have h2:=hO.cells (g:=g) O;have h3:=run_loadCells_list (P:=prog) (w:=w) (⟨g,0,none⟩:Addr) (Lib.byteCells l) h2;rw [hl,Nat.mul_one]at h3;have e1:Lib.byteCells l=(l.map fun b=> ((b.toNat:Nat):Int)).map (Value.int .u8):=by simp [Lib.byteCells]
  rw [e1]at h3;rw [run_bytesToString w _ m c _ h3,fold_push];simp
 refine .val (w':=w) ?_ hb hK;simp [execOp,hx,convert,run_underlying underlying22,run_underlying underlying9,run_underlying underlying5,hr]
end
theorem UC{B m c : Nat}{A : aj}{l : List UInt8}(x : Int)(w : aa)(hx : -9223372036854775808 <= x /\ x <= 9223372036854775807)(hO : uP B w A m c l)(hB : B <= w.heap.size)(hm : m <= 1000000000)(hT : Lib.TabBelow prog B w "internal/strconv.uint64pow10" .u64 Lib.pow10Tab):
 aG prog 191 [.slice A m c,ak x,ak 10] w (fun v w'=>∃A' c',v= .slice A' (m+ (Lib.itoa x).length) c'/\uP B w' A' (m+ (Lib.itoa x).length) c' (l++Lib.itoa x)/\Go.RowKit.Below B w w'):=by
 have key:=Any.strconv_AppendInt_10 lai B m x hx.1 hx.2 (.slice A m c) (Lib.byteCells l) w hO hB (by omega) hT;refine Calls.mono key fun y w' ⟨v',hy,DG,hb,_⟩=> ⟨_,hy,?_⟩
 obtain⟨A2,c2,rfl⟩:=SU DG;refine⟨A2,c2,O,?_,hb⟩;show w'.ownsRow B 5 1 (.slice A2 _ c2) _ (Lib.byteCells (l++Lib.itoa x));rw [Lib.byteCells_append];exact DG
theorem RT(x:Int)(hx: -9223372036854775808<=x/\x<=9223372036854775807):(Lib.itoa x).length<=21:=Lib.itoa_length_le x hx.1 hx.2
theorem RW:∀(xs:ai),(∀x∈xs,-9223372036854775808<=x/\x<=9223372036854775807)->(lk xs).length<=22*xs.length
 | [],_=>by simp [lk]
 | x::xs,h=>by
  have h1:=RT x (h x (by simp));have h2:=RW xs fun y hy=>h y (by simp [hy])
  rw [Ev];simp only [cS,List.length_cons];omega
theorem zz(A:aj)(n c:Nat)(xs:ai)(w:aa)(hT:js w)(hR:cn w A n xs)(hx:∀x∈xs,-9223372036854775808<=x/\x<=9223372036854775807)(hn:n<=1000000):
 aG prog 122 [.slice A n c] w (fun v w'=>v= .string (jm xs)/\St w w' []):=by
 have gP:=hR.1;refine bA func122 O ntmps122 O (cJ O) ?_;refine a8 O (bc O O (aI O ?_));refine Cd.loop (α:=Nat×aj×Nat) (fun s=> [(3,.slice s.2.1 (lk (xs.take s.1)).length s.2.2),(6,.slice A n c),(7,ak n),(8,ak (s.1:Int))]) (fun s w'=>uP w.heap.size w' s.2.1 (lk (xs.take s.1)).length s.2.2 (lk (xs.take s.1))/\Go.RowKit.Below w.heap.size w w'/\s.1<=n) (fun s=>n - s.1) (0,none,0) (ajs O) ⟨World.ownsRow_nil w _ _ _,Go.RowKit.Below.refl _ _,a7 _⟩ ?_;rintro⟨i,A3,c3⟩ e w1 ⟨hO,dd,hi⟩;dsimp only at hO dd hi|-;refine bL O (aR _ O (fun h1=>?_) (fun h1=>?_))
 ·have bX:i<xs.length:=by omega
  have de : cn w1 A n xs := hR.aq ⟨dd, fun s => s.elim⟩;have yV : Lib.TabBelow prog w.heap.size w1 "internal/strconv.uint64pow10" .u64 Lib.pow10Tab := (Lib.tabBelow_of_tabIs hT).on dd
  have fY:=hx _ (gi_in bX);have pC:=RW (xs.take i) fun x hm=>hx x (List.mem_of_mem_take hm)
  have re:=RT _ fY;rw [oM]at pC;have mw:=dd.size;have Cb:lk (xs.take (i+1))=(lk (xs.take i)++Lib.itoa (gi xs i))++ [32]:=by rw [uF bX,acI]
  refine aE O (aM de.2 O (bk de O (ar O (aL (UC (gi xs i) _ fY hO mw (by omega) yV) O ?_))));rintro _ w2 ⟨A4,c4,rfl,Zj,dS⟩;have hsz2:=dS.size;refine ar O (ao.IY (St.refl w2) O O O O ?_);intro A5 w3 aH;have Zk:=Zj.aq aH.below;have iJ:Go.RowKit.Below w.heap.size w2 w3:=aH.below.toBelow.mono (by omega);have hsz3:=iJ.size;refine U0 (b:=32) Zk (by omega) (aH.rd 0 rfl |>.congr fun j hj=>by obtain rfl:j=0:=by { have:j<1:=hj;omega };rfl) rfl rfl (by omega) rfl ?_;intro A6 c6 w4 nL Gr;refine ar O (aK O (aU O (tQ ?_)));refine⟨(i+1,A6,c6),by show n - (i+1)<n - i;omega,⟨?_,O,O,O,av⟩,?_,((dd.trans dS).trans iJ).trans nL,by show i+1<=n;omega⟩
  ·show Value.slice _ _ _= .slice _ _ _;rw [Cb];simp [Nat.add_assoc]
  show uP _ w4 A6 (lk (xs.take (i+1))).length c6 (lk (xs.take (i+1)));rw [Cb];have e1:((lk (xs.take i)++Lib.itoa (gi xs i))++ [32]).length=(lk (xs.take i)).length+ (Lib.itoa (gi xs i)).length+1:=by simp;omega
  rw [e1];exact Gr
 have bW:i=xs.length:=by omega
 subst bW;rw [List.take_length]at hO;refine bw O (bz (dh O ?_));refine U9 hO (by show Value.slice _ _ _= .slice _ _ _;rw [List.take_length]) O ?_;refine bM O (L9 O ?_);exact⟨rfl,⟨⟨dd,fun s=>s.elim⟩,fun k hk=> (by cases hk),List.nodup_nil⟩⟩
end
section
open Go.RowKit Go.MapKept
section
variable {κ ν:Type} [DecidableEq κ]
def jK:List (κ×ν)->κ->List (κ×ν)
 | [],_=> []
 | (y,v)::r,x=>if y=x then r else(y,v)::jK r x
theorem NW:∀ {L:List (κ×ν)} {x:κ} {j:Nat} {v:ν},oj L x=some (j,v)->jK L x=L.eraseIdx j
 | (y,w)::r,x,j,v,h=>by
  simp only [oj]at h
  split at h
  ·rename_i e;simp only [oO,Prod.mk.injEq]at h;obtain⟨rfl,rfl⟩:=h;simp only [jK,ay e,List.eraseIdx_zero,List.tail_cons]
  ·rename_i e;cases hf:oj r x with
   | none=>simp [hf]at h
   | some p=>
    simp only [hf,Option.map_some,oO,Prod.mk.injEq]at h;obtain⟨rfl,rfl⟩:=h;simp only [jK,aw e,List.eraseIdx_cons_succ,NW (L:=r) (x:=x) (j:=p.1) (v:=p.2) hf]
theorem NV:∀ {L:List (κ×ν)} {x:κ},oj L x=none->jK L x=L
 | [],_,_=>rfl
 | (y,w)::r,x,h=>by
  simp only [oj]at h
  split at h
  ·cases h
  ·rename_i e;rw [Option.map_eq_none_iff]at h;simp only [jK,aw e,NV h]
theorem Je:∀(L:List (κ×ν)) (x:κ),(jK L x).Sublist L
 | [],_=> .slnil
 | (y,v)::r,x=>by
  simp only [jK]
  split
  ·exact(jV _).cons _
  ·exact(Je r x).cons_cons _
theorem O4:∀ {L:List (κ×ν)} {x:κ},x∉L.map (·.1)->eX L x=none
 | [],_,_=>rfl
 | (y,v)::r,x,h=>by
  simp only [List.map_cons,jq,not_or]at h;simp only [eX,aw (fun e:y=x=>h.1 e.symm),O4 h.2]
theorem O3:∀ {L:List (κ×ν)} {x y:κ},(L.map (·.1)).Nodup->eX (jK L x) y=if x=y then none else eX L y
 | [],x,y,_=>by simp [jK,eX]
 | (z,v)::r,x,y,h=>by
  simp only [List.map_cons,nt]at h;simp only [jK]
  split
  ·rename_i e;subst e
   split
   ·rename_i e;subst e;exact O4 h.1
   ·rename_i e;simp only [eX,aw e]
  ·rename_i e;simp only [eX,O3 (L:=r) (x:=x) (y:=y) h.2]
   by_cases e2:z=y
   ·subst e2;rw [ay rfl,aw (fun q=>e q.symm),ay rfl]
   ·rw [aw e2,aw e2]
theorem afq(L:List (κ×ν))(x:κ)(u:ν):∀y,y∈(gX L x u).map (·.1)↔y=x\/y∈L.map (·.1):=by
 induction L with
 | nil=>intro y;simp [gX]
 | cons p r ih=>
  obtain⟨z,w⟩:=p;intro y;simp only [gX]
  split
  ·rename_i e;subst e;simp
  ·simp only [List.map_cons,jq,ih];exact⟨fun h=>by rcases h with h | h | h<;>simp [h],fun h=>by rcases h with h | h | h<;>simp [h]⟩
theorem Tf:∀ {L:List (κ×ν)} {x:κ} {u:ν},(L.map (·.1)).Nodup->((gX L x u).map (·.1)).Nodup
 | [],x,u,_=>by simp [gX]
 | (z,v)::r,x,u,h=>by
  simp only [List.map_cons,nt]at h;simp only [gX]
  split
  ·rename_i e;subst e;simp only [List.map_cons,nt];exact h
  ·rename_i e;simp only [List.map_cons,nt];refine⟨fun hm=>?_,Tf h.2⟩;rcases(afq r x u z).1 hm with h1 | h1
   ·exact e h1
   ·exact h.1 h1
theorem W7{L:List (κ×ν)}{x:κ}(h:(L.map (·.1)).Nodup):((jK L x).map (·.1)).Nodup:=h.sublist ((Je L x).map _)
theorem afs(L:List (κ×ν))(x:κ)(u:ν):(gX L x u).Perm ((x,u)::jK L x):=by
 induction L with
 | nil=>exact .refl _
 | cons p r ih=>
  obtain⟨z,w⟩:=p;simp only [gX,jK]
  split
  ·rename_i e;exact .refl _
  ·exact(ih.cons _).trans (.swap _ _ _)
theorem O5:∀ {L:List (κ×ν)} {x:κ} {u:ν},eX L x=some u->L.Perm ((x,u)::jK L x)
 | (z,w)::r,x,u,h=>by
  simp only [eX]at h;simp only [jK]
  split at h
  ·rename_i e;subst e;injection h with h
   subst h;rw [ay rfl]
  ·rename_i e;rw [aw e];exact((O5 h).cons _).trans (.swap _ _ _)
theorem JC:∀ {L:List (κ×ν)} {x:κ},eX L x=none->jK L x=L
 | [],_,_=>rfl
 | (z,w)::r,x,h=>by
  simp only [eX]at h;simp only [jK]
  split at h
  ·cases h
  ·rename_i e;rw [aw e,JC h]
end
section
variable {P:Program} {N:Nat} {ops:Array Oper} {K:Env->aa->Prop} {rest:List Oper} {e:Env} {w0 w w':aa} {ks:List Ck} {d:Nat} {ty:ae} {pos:String} {af:Array Edge}
variable {κ ν:Type} [DecidableEq κ] {kd:TypeDesc} {kv:κ->ad} {vv:ν->ad}
theorem Jn{α β:Type}(f:α->β):∀(l:List α) (j:Nat),(l.eraseIdx j).map f=(l.map f).eraseIdx j
 | [],_=>rfl
 | _::_,0=>rfl
 | a::r,j+1=>by simp only [List.eraseIdx_cons_succ,List.map_cons,Jn f r j]
theorem af8{t kt et T:ae}[hU:bJ P t (.map kt et)][hk:bJ P kt kd](KT:rJ kd kv){g:Nat}{L:List (κ×ν)}(i:Nat)(x:κ)(Hs:ae)(hS:St w0 w ks)(hi:ks[i]?=some (ij T g (gw kv vv L))):
 ∃w',(Builtin.delete_ #[t,Hs] ty #[.map (some g),kv x]).run P w= .ok (.tuple #[]) w'/\St w0 w' (ks.set i (ij T g (gw kv vv (jK L x)))):=by
 obtain⟨_,es,cl,hh,hm⟩:=hS.HF i hi;have hf:=F3 (vv:=vv) KT x es.toList L 0 hm;have v8:=MapKept.run_findKey (P:=P) (w:=w) hk.out hf;cases mq:oj L x with
 | none=>
  refine⟨{ w with heap:=w.heap.setIfInBounds g (.map es cl) },?_,hS.H5 hi ?_⟩
  ·simp [Builtin.delete_,run_underlying hU.out,MapKept.run_getObj_map hh,MapKept.run_checkKey hk.out (KT.isKey x),v8,mq,MapKept.run_setObj_map _ hh,Result.andThen]
  ·rw [NV mq];exact hm
 | some p=>
  obtain⟨j,v⟩:=p;refine⟨{ w with heap:=w.heap.setIfInBounds g (.map (es.eraseIdxIfInBounds j) cl) },?_,hS.H5 hi ?_⟩
  ·simp [Builtin.delete_,run_underlying hU.out,MapKept.run_getObj_map hh,MapKept.run_checkKey hk.out (KT.isKey x),v8,mq,MapKept.run_setObj_map _ hh,Result.andThen]
  ·rw [NW mq];have e1:(es.eraseIdxIfInBounds j).toList=es.toList.eraseIdx j:=by
    unfold Array.eraseIdxIfInBounds
    split
    ·rw [Array.toList_eraseIdx]
    ·rename_i h;rw [List.eraseIdx_of_length_le (by simpa using h)]
   rw [e1,Jn,hm];unfold gw;rw [Jn]
theorem Vd{t kt et T Hs:ae}{m k:ag}[hU:bJ P t (.map kt et)][bJ P kt kd](KT:rJ kd kv){g:Nat}{L:List (κ×ν)}(i:Nat){a:κ}(hS:St w0 w ks)(hi:ks[i]?=some (ij T g (gw kv vv L)))(hm:ev e m= .map (some g))(hk:ev e k=kv a)(hK:∀w',St w0 w' (ks.set i (ij T g (gw kv vv (jK L a))))->ao P N ops K rest e w'):ao P N ops K (⟨none,.call ⟨.builtin .delete, #[m,k], #[t,Hs]⟩,ty,pos,af,none⟩::rest) e w:=by
 obtain⟨w',qm,nI⟩:=af8 (P:=P) (t:=t) (ty:=ty) KT i a Hs hS hi;refine .ahA (w':=w') (v:= .tuple #[]) ?_ (hK _ nI);simp [execOp,resolve,invoke,builtin,hm,hk,qm]
end
section
variable {P:Program} {N:Nat} {ops:Array Oper} {K:Env->aa->Prop} {rest:List Oper} {e:Env} {w0 w w':aa} {ks:List Ck} {d:Nat} {ty:ae} {pos:String} {af:Array Edge}
theorem Vj{κ ν:Type}[DecidableEq κ]{kd:TypeDesc}{kv:κ->ad}{vv:ν->ad}{t kt et:ae}{z v:ad}{s b:Nat}[bJ P t (.map kt et)][bJ P kt kd][bF P et z s b](KT:rJ kd kv){g:Nat}{L:List (κ×ν)}{m ix:ag}{x:κ}(hR:xa w g (gw kv vv L))(hx:ev e m= .map (some g))(hy:ev e ix=kv x)(hv:((eX L x).map vv).getD z=v)(hb:Nat.blt d N=true)(hK:ao P N ops K rest (bq e d (.tuple #[v,.bool (eX L x).isSome])) w):ao P N ops K (⟨some d,.lookup t m ix true,ty,pos,af,none⟩::rest) e w:=by
 subst hv;refine .val (w':=w) ?_ hb hK;have:=Mh (P:=P) (t:=t) (x:=x) KT hR true;simp [execOp,hx,hy,this]
end
def wy(l:ai):ad:= .string (jm l)
theorem Ci:rJ .string wy:=⟨fun _=>av,fun a b h=>Hr (by injection h)⟩
abbrev mI:=ai×aN×ai
def Cn(u:aN×ai):ad:=u.1.v
def pf(t:ae)(M:List mI):List Ck:=M.map fun p=>az t p.2.1.a p.2.1.n p.2.1.c p.2.2
def iT(M:List mI)(x:ai):aN:=((eX M x).map (·.1)).getD ew
def ju(M:List mI)(x:ai):ai:=((eX M x).map (·.2)).getD []
section
variable {w0 w w':aa} {ks pre:List Ck} {t:ae} {M:List mI} {x:ai}
theorem JH{u:aN×ai}(h:eX M x=some u):iT M x=u.1/\ju M x=u.2:=by simp [iT,ju,h]
theorem Pa(h:eX M x=none):iT M x=ew/\ju M x=[]:=by simp [iT,ju,h]
theorem St.T4(h:St w0 w (pre++ (pf t M++ks))):St w0 w (az t (iT M x).a (iT M x).n (iT M x).c (ju M x)::(pre++ (pf t (jK M x)++ks))):=by
 cases hg:eX M x with
 | none=>
  rw [(Pa hg).1,(Pa hg).2,JC hg];exact h.nil t
 | some u=>
  rw [(JH hg).1,(JH hg).2];refine h.perm ?_;have h1:(pf t M).Perm (az t u.1.a u.1.n u.1.c u.2::pf t (jK M x)):=(O5 hg).map _;exact((h1.append_right ks).append_left pre).trans uL
theorem M5{u:aN×ai}(h:St w0 w (az t u.1.a u.1.n u.1.c u.2::(pre++ (pf t (jK M x)++ks)))):St w0 w (pre++ (pf t (gX M x u)++ks)):=by
 refine h.perm ?_;have h1:(az t u.1.a u.1.n u.1.c u.2::pf t (jK M x)).Perm (pf t (gX M x u)):=((afs M x u).map fun p:mI=>az t p.2.1.a p.2.1.n p.2.1.c p.2.2).symm;exact uL.symm.trans ((h1.append_right ks).append_left pre)
theorem IA(h:St w0 w (pre++ (pf t M++ks))):cn w (iT M x).a (iT M x).n (ju M x):=(h.T4 (x:=x)).bI 0 rfl
theorem Vu(h:St w0 w (pre++ (pf t M++ks))):St w0 w (pre++ (pf t (jK M x)++ks)):=h.sub (((((Je M x).map _).append_right ks)).append_left pre)
end
end
section
variable{x y:ai}{i k j:Nat}
def iE(x:ai)(i:Nat):ai:=x.set i (-1)
theorem Mg(x:ai)(i:Nat):(iE x i).length=x.length:=by simp [iE]
theorem CA(hk:k<x.length):gi (iE x i) k=if k=i then -1 else gi x k:=by
 rw [bO (by rw [Mg];exact hk),bO hk];unfold iE;rw [List.getElem_set]
 by_cases e:i=k
 ·rw [ay e,ay e.symm]
 rw [aw e,aw (fun h=>e h.symm)]
theorem HZ{n:Nat}(hx:x.length=n)(hy:y.length=n):iE x i=iE y i↔∀k:Nat,k<n->k≠i->gi x k=gi y k:=by
 constructor
 ·intro h k hk bt;have:=aO (fun l=>gi l k) h;simp only [CA (x:=x) (i:=i) (show k<x.length by omega),CA (x:=y) (i:=i) (show k<y.length by omega),aw bt]at this;exact this
 intro h;refine ux (n:=n) (by rw [Mg,hx]) (by rw [Mg,hy]) fun k hk=>?_
 rw [CA (by omega),CA (by omega)]
 split
 ·rfl
 rename_i e;exact h k hk e
theorem af4{n:Nat}(hx:x.length=n)(hy:y.length=n)(hi:i<n)(h0:∀e∈y,0<=e)(h:iE x i=iE y j):i=j:=by
 have:=aO (fun l=>gi l i) h;simp only [CA (x:=x) (i:=i) (show i<x.length by omega),CA (x:=y) (i:=j) (show i<y.length by omega),ay]at this
 by_cases e:i=j
 ·exact e
 rw [aw e]at this;have h2:=h0 _ (gi_in (show i<y.length by omega));omega
theorem JG(M:List mI)(x l:ai)(u:aN×ai):ju (gX M x u) l=if x=l then u.2 else ju M l:=by
 unfold ju;rw [Dx]
 split<;>rfl
theorem JF{M:List mI}{l:ai}(h:(M.map (·.1)).Nodup):ju (jK M x) l=if x=l then []else ju M l:=by
 unfold ju;rw [O3 h]
 split<;>rfl
structure iS(n:Nat)(fl:ah)(D:Nat->Nat->Prop)(G:Nat->Prop)(b:Nat)(M:List mI):Prop where
 nd:(M.map (·.1)).Nodup
 el:∀l y,y∈ju M l->∃y' i:Nat,y=(y':Int)/\y'<fl.length/\i<n/\D y' i/\l=iE (gl fl y') i
 al:∀y i:Nat,y<fl.length->i<n->D y i->(y:Int)∈ju M (iE (gl fl y) i)\/G y
 len:∀l,(ju M l).length<=b
section
variable{b' i:Nat}
variable {n:Nat} {fl:ah} {D D':Nat->Nat->Prop} {G G':Nat->Prop} {b:Nat} {M:List mI} {c:ai}
def wH(n:Nat)(fl:ah)(c:ai)(f i:Nat)(y j:Nat):Prop:=jx n c (gl fl y)/\(y<f\/y=f/\j<i)
theorem iS.zero:iS n fl (wH n fl c 0 0) (fun _=>False) 0 []:=⟨by simp,fun l y h=>by simp [ju,eX]at h,fun y i _ _ h=>by have:=h.2;omega,fun l=>by simp [ju,eX]⟩
theorem iS.congr(h:iS n fl D G b M)(hD:∀y i,y<fl.length->i<n->(D y i↔D' y i)):iS n fl D' G b M:=
 ⟨h.nd,fun l y hy=>by obtain⟨y',i,h1,h2,h3,h4,h5⟩:=h.el l y hy;exact⟨y',i,h1,h2,h3,(hD y' i h2 h3).1 h4,h5⟩,fun y i hy hi hd=>h.al y i hy hi ((hD y i hy hi).2 hd),h.len⟩
theorem iS.more(h:iS n fl D G b M)(hb:b<=b'):iS n fl D G b' M:=⟨h.nd,h.el,h.al,fun l=>nv (h.len l) hb⟩
theorem iS.skip{f:Nat}(h:iS n fl (wH n fl c f 0) G b M)(hf:¬jx n c (gl fl f)):iS n fl (wH n fl c (f+1) 0) G b M:=
 h.congr fun y i _ _=> ⟨fun h=> ⟨h.1,by have:=h.2;omega⟩,fun h=> ⟨h.1,by
  have h2:=h.2;have:y≠f:=fun e=>hf (e▸h.1)
  omega⟩⟩
theorem iS.row{f:Nat}(h:iS n fl (wH n fl c f n) G b M):iS n fl (wH n fl c (f+1) 0) G b M:=
 h.congr fun y i _ hi=> ⟨fun h=> ⟨h.1,by have:=h.2;omega⟩,fun h=> ⟨h.1,by have:=h.2;omega⟩⟩
theorem iS.put{f:Nat}(h:iS n fl (wH n fl c f i) G b M)(hf:f<fl.length)(hi:i<n)(hH:jx n c (gl fl f))(s:aN):
 iS n fl (wH n fl c f (i+1)) G (b+1) (gX M (iE (gl fl f) i) (s,ju M (iE (gl fl f) i)++ [(f:Int)])):=by
 refine⟨Tf h.nd,fun l y hy=>?_,fun y j hy hj hd=>?_,fun l=>?_⟩
 ·rw [JG]at hy
  split at hy
  ·rename_i e;rcases jz.1 hy with hy | hy
   ·obtain⟨y',j,h1,h2,h3,h4,h5⟩:=h.el _ y hy;exact⟨y',j,h1,h2,h3,⟨h4.1,by have:=h4.2;omega⟩,e.symm.trans h5⟩
   exact⟨f,i,gk.1 hy,hf,hi,⟨hH,.inr ⟨O,Nat.lt_succ_self _⟩⟩,e.symm⟩
  obtain⟨y',j,h1,h2,h3,h4,h5⟩:=h.el _ y hy;exact⟨y',j,h1,h2,h3,⟨h4.1,by have:=h4.2;omega⟩,h5⟩
 ·rw [JG]
  by_cases e:y=f/\j=i
  ·obtain⟨rfl,rfl⟩:=e;rw [ay rfl];exact .inl (List.mem_append_right _ (by simp))
  rcases h.al y j hy hj ⟨hd.1,by have:=hd.2;omega⟩with h1 | h1
  ·left
   split
   ·rename_i e2;rw [e2];exact List.mem_append_left _ h1
   exact h1
  exact .inr h1
 rw [JG]
 split
 ·rename_i e;have:=h.len (iE (gl fl f) i);rw [cS];simp;omega
 have:=h.len l;omega
theorem iS.mono(h:iS n fl D G b M)(hG:∀y,y<fl.length->G y->G' y):iS n fl D G' b M:=
 ⟨h.nd,h.el,fun y i hy hi hd=> (h.al y i hy hi hd).imp id (hG y hy),h.len⟩
theorem iS.del(h:iS n fl D G b M){x:ai}(hx:∀y:Nat,(y:Int)∈ju M x->G y):iS n fl D G b (jK M x):=by
 refine⟨W7 h.nd,fun l y hy=>?_,fun y i hy hi hd=>?_,fun l=>?_⟩
 ·rw [JF h.nd]at hy
  split at hy
  ·cases hy
  exact h.el l y hy
 ·rcases h.al y i hy hi hd with h1 | h1
  ·rw [JF h.nd]
   split
   ·rename_i e;rw [<-e]at h1;exact .inr (hx y h1)
   exact .inl h1
  exact .inr h1
 rw [JF h.nd]
 split
 ·exact a7 _
 exact h.len l
theorem iS.IC(h:iS n fl (fun y _=>jx n c (gl fl y)) G b M)(hl:∀x∈fl,x.length=n/\∀e∈x,0<=e){x:Nat}(hx:x<fl.length)(hi:i<n)(hH:jx n c (gl fl x)){y:Int}(hy:y∈ju M (iE (gl fl x) i)):∃y':Nat,y=y'/\y'<fl.length/\wP n fl c x y':=by
 obtain⟨y',j,h1,h2,h3,h4,h5⟩:=h.el _ y hy;have hm:∀z:Nat,z<fl.length->gl fl z∈fl:=fun z hz=>by rw [bP hz];exact dB _
 have xL:=hl _ (hm x hx);have GZ:=hl _ (hm y' h2);have e:i=j:=af4 xL.1 GZ.1 hi GZ.2 h5;subst e;exact⟨y',h1,h2,hH,h4,i,hi,hx,h2,fun k hk bt=> (HZ xL.1 GZ.1).1 h5 k hk bt⟩
end
theorem Wy{n:Nat}{c x:ai}(hc:c.length=n):nE c x=c↔jx n c x:=by
 constructor
 ·intro h k hk bt;have:=aO (fun l=>gi l k) h;simp only [AL (a:=c) (b:=x) (show k<c.length by omega)]at this
  by_cases e:gi c k=gi x k
  ·exact e
  rw [aw e]at this;exact absurd this.symm bt
 intro h;refine ux (n:=n) (by rw [AU,hc]) hc fun k hk=>?_
 rw [AL (by omega)]
 split
 ·rfl
 rename_i e;refine ob fun h2=>e (h k hk fun h3=>h2 h3.symm)
def iA(n:Nat)(fl:ah)(c:ai)(f:Nat):ai:=(bN f).filter fun y=>decide (jx n c (gl fl y))
theorem VC{n:Nat}{fl:ah}{c:ai}{f:Nat}:iA n fl c (f+1)=if jx n c (gl fl f)then iA n fl c f++ [(f:Int)]else iA n fl c f:=by
 have:bN (f+1)=bN f++ [(f:Int)]:=by
  unfold bN;rw [lN,jb];rfl
 unfold iA;rw [this,sP]
 by_cases c:jx n c (gl fl f)
 ·rw [ay c];simp [c]
 rw [aw c];simp [c]
theorem Db{n:Nat}{fl:ah}{c:ai}{f:Nat}{y:Int}:y∈iA n fl c f↔(0<=y/\y<f)/\jx n c (gl fl y):=by
 unfold iA;rw [fT,gL,kU]
def oR(N:Nat)(al:ai)(j:Nat):Nat:=if j<al.length then(gi al j).toNat else N
theorem jU.jump{N:Nat}{K:Nat->Nat->Prop}(hK:Aj N K){L:ai}:∀(d f:Nat),jU N K f L->f+d<=N->(∀x,f<=x->x<f+d->¬K x x)->jU N K (f+d) L
 | 0,f,h,_,_=>h
 | d+1,f,h,hn,hx=>by
  have h1:=h.skip hK (by omega) (.inr (hx f (bj _) (by omega)));have:=jU.jump hK d (f+1) h1 (by omega) fun x h2 h3=>hx x (by omega) (by omega)
  rwa [show f+1+d=f+ (d+1) by omega]at this
section
variable {n:Nat} {fl:ah} {c:ai} {L:ai}
theorem Fq(f:Nat):SA (iA n fl c f):=oL _ (ky _)
theorem NA{j:Nat}:oR fl.length (iA n fl c fl.length) j<=fl.length:=by
 unfold oR
 split
 ·rename_i h;have:=(Db.1 (gi_in h)).1;omega
 exact bj _
theorem adb(h:jU fl.length (jr n fl c) 0 L):jU fl.length (jr n fl c) (oR fl.length (iA n fl c fl.length) 0) L:=by
 have hle:=NA (n:=n) (fl:=fl) (c:=c) (j:=0);have:=h.jump (CX n fl c) (oR fl.length (iA n fl c fl.length) 0) 0 (by omega) fun x _ hx hk=>by
  have hm:(x:Int)∈iA n fl c fl.length:=Db.2 ⟨by omega,hk.1⟩;obtain⟨p,hp,e⟩:=fJ.1 hm;rw [<-bO hp]at e;unfold oR at hx;rw [ay (by omega)]at hx
  by_cases e0:p=0
  ·subst e0;omega
  have:=(Fq (n:=n) (fl:=fl) (c:=c) fl.length).x6 (show 0<p by omega) hp;omega
 rwa [Nat.zero_add]at this
theorem ade{j:Nat}(hj:j< (iA n fl c fl.length).length){f:Nat}(hf:gi (iA n fl c fl.length) j=f)(h:jU fl.length (jr n fl c) (f+1) L):jU fl.length (jr n fl c) (oR fl.length (iA n fl c fl.length) (j+1)) L:=by
 have hle:=NA (n:=n) (fl:=fl) (c:=c) (j:=j+1);have kI:=(Db.1 (gi_in hj)).1;have vd:f+1<=oR fl.length (iA n fl c fl.length) (j+1):=by
  unfold oR
  split
  ·rename_i h2;have:=(Fq (n:=n) (fl:=fl) (c:=c) fl.length).x6 (show j<j+1 by omega) h2;omega
  omega
 have:=h.jump (CX n fl c) (oR fl.length (iA n fl c fl.length) (j+1) - (f+1)) (f+1) (by omega) fun x qn hx hk=>by
  have hm:(x:Int)∈iA n fl c fl.length:=Db.2 ⟨by omega,hk.1⟩;obtain⟨p,hp,e⟩:=fJ.1 hm;rw [<-bO hp]at e;have hpj:j<p:=by
   rcases Nat.lt_trichotomy j p with h2 | h2 | h2
   ·exact h2
   ·subst h2;omega
   have:=(Fq (n:=n) (fl:=fl) (c:=c) fl.length).x6 h2 hj;omega
  unfold oR at hx;rw [ay (by omega)]at hx
  by_cases e0:p=j+1
  ·subst e0;omega
  have:=(Fq (n:=n) (fl:=fl) (c:=c) fl.length).x6 (show j+1<p by omega) hp;omega
 rwa [show f+1+ (oR fl.length (iA n fl c fl.length) (j+1) - (f+1))=oR fl.length (iA n fl c fl.length) (j+1) by omega]at this
end
noncomputable def mB(n:Nat)(fl:ah)(i f:Nat):ai:=(List.range fl.length).map fun a=>if a<f/\eQ n fl i a<f then(eQ n fl i a:Int)else 0
def sM(n:Nat)(fl:ah)(i f:Nat)(L:List (ByteArray×Int)):Prop:=∀a:Nat,f<=a->a<fl.length->eX L (jm (iE (gl fl a) i))=if eQ n fl i a<f then some (eQ n fl i a:Int)else none
section
variable {n:Nat} {fl:ah} {i f:Nat} {L:List (ByteArray×Int)}
theorem aei:(mB n fl i f).length=fl.length:=by simp [mB]
theorem aef:mB n fl i 0=List.replicate fl.length 0:=by
 apply jo
 ·simp [mB]
 intro a h1 h2;simp [mB]
theorem aeg(h:jA n fl)(hi:i<n):mB n fl i fl.length=tv n fl i:=by
 rw [Sw h hi];unfold mB;refine od fun a ha=>?_
 have ha:=fU.1 ha;rw [ay ⟨ha,h.lt ha hi⟩]
theorem aej(h:jA n fl)(hi:i<n)(hf:f<fl.length)(hp:¬eQ n fl i f<f):mB n fl i (f+1)=mB n fl i f:=by
 unfold mB;refine od fun a ha=>?_
 have ha:=fU.1 ha;have h1:=(h.pt hf hi).1;have h2:=h.pp ha hi
 by_cases e:a=f
 ·subst e;rw [aw (by omega),aw (by omega)]
 by_cases e2:eQ n fl i a=f
 ·have h3:a=eQ n fl i f:=by rw [<-h2,e2]
  rw [aw (by omega),aw (by omega)]
 by_cases c:a<f/\eQ n fl i a<f
 ·rw [ay c,ay (by omega)]
 rw [aw c,aw (by omega)]
theorem aeh(h:jA n fl)(hi:i<n)(hf:f<fl.length)(hp:eQ n fl i f<f):mB n fl i (f+1)=((mB n fl i f).set f (eQ n fl i f:Int)).set (eQ n fl i f) (f:Int):=by
 have hpp:=h.pp hf hi;apply jo
 ·simp [mB]
 intro a h1 h2;have ha:a<fl.length:=by simpa [mB]using h1
 have h3:=h.pp ha hi;rw [List.getElem_set,List.getElem_set];simp only [mB,List.getElem_map,List.getElem_range]
 by_cases e:eQ n fl i f=a
 ·subst e;rw [ay rfl,hpp,ay (by omega)]
 rw [aw e]
 by_cases e2:f=a
 ·subst e2;rw [ay rfl,ay (by omega)]
 rw [aw e2];have h4:eQ n fl i a≠f:=fun e3=>e (by rw [<-h3,e3])
 by_cases c:a<f/\eQ n fl i a<f
 ·rw [ay c,ay (by omega)]
 rw [aw c,aw (by omega)]
theorem sM.zero:sM n fl i 0 []:=fun a _ _=>by rw [aw (by omega)];rfl
theorem sM.at_(h:sM n fl i f L)(hf:f<fl.length):eX L (jm (iE (gl fl f) i))=if eQ n fl i f<f then some (eQ n fl i f:Int)else none:=h f (bj _) hf
theorem sM.GS(hN:jA n fl)(hi:i<n)(h:sM n fl i f L)(hf:f<fl.length)(hp:eQ n fl i f<f):sM n fl i (f+1) L:=fun a h0 ha=>by
 have h2:=hN.pp ha hi;rw [h a (by omega) ha];have h4:eQ n fl i a≠f:=fun e=>by rw [e]at h2;omega
 by_cases c:eQ n fl i a<f
 ·rw [ay c,ay (by omega)]
 rw [aw c,aw (by omega)]
theorem sM.adV(hN:jA n fl)(hl:∀x∈fl,x.length=n)(hi:i<n)(h:sM n fl i f L)(hf:f<fl.length)(hp:¬eQ n fl i f<f):sM n fl i (f+1) (gX L (jm (iE (gl fl f) i)) (f:Int)):=fun a h0 ha=>by
 have h1:=hN.pp hf hi;have h2:=hN.pp ha hi;have hk:jm (iE (gl fl f) i)=jm (iE (gl fl a) i)↔a=f\/a=eQ n fl i f:=by
  have lf:(gl fl f).length=n:=hl _ (by rw [bP hf];exact dB _);have la:(gl fl a).length=n:=hl _ (by rw [bP ha];exact dB _);constructor
  ·intro e;have e:=(HZ lf la).1 (Hr e)
   by_cases c:a=f
   ·exact .inl c
   exact .inr (((hN.pt hf hi).2 a).1 ⟨⟨hf,ha,fun k hk bt=>e k hk bt⟩,c⟩)
  intro e;rcases e with e | e
  ·subst e;rfl
  have h3:=((hN.pt hf hi).2 a).2 e;exact aO jm ((HZ lf la).2 h3.1.2.2)
 rw [Dx,h a (by omega) ha]
 by_cases e2:a=eQ n fl i f
 ·rw [ay (hk.2 (.inr e2))];have h3:eQ n fl i a=f:=by rw [e2,h1]
  rw [ay (by omega),h3]
 rw [aw fun e3=> (hk.1 e3).elim (by omega) e2];have h4:eQ n fl i a≠f:=fun e3=>e2 (by rw [<-h2,e3])
 by_cases c:eQ n fl i a<f
 ·rw [ay c,ay (by omega)]
 rw [aw c,aw (by omega)]
end
section
variable{i b:Nat}
variable {n:Nat} {fl:ah}
theorem sC(n:Nat)(fl:ah):(bT n fl).length=n:=by simp [bT]
theorem ad8(n:Nat)(fl:ah)(hi:i<n):gl (bT n fl) i=tv n fl i:=by
 rw [bP (by rw [sC];exact hi)];simp [bT]
theorem Hz(h:jA n fl)(hi:i<n):gl (bT n fl) i=(List.range fl.length).map fun a=> (eQ n fl i a:Int):=by rw [ad8 n fl hi,Sw h hi]
theorem tt(h:jA n fl){a:Nat}(hi:i<n)(ha:a<fl.length):gi (gl (bT n fl) i) a=eQ n fl i a:=by
 rw [Hz h hi,bO (by simpa using ha)];simp
theorem EC(h:jA n fl)(hi:i<n):(gl (bT n fl) i).length=fl.length:=by rw [Hz h hi];simp
theorem LR(h:jA n fl){p:ai}:p∈bT n fl↔∃i:Nat,i<n/\p=gl (bT n fl) i:=by
 constructor
 ·intro hp;obtain⟨i,hi,e⟩:=fJ.1 hp;rw [sC]at hi;exact⟨i,hi,by rw [bP (by rw [sC];exact hi)];exact e.symm⟩
 rintro⟨i,hi,rfl⟩;rw [bP (by rw [sC];exact hi)];exact dB _
theorem ad3(h:jA n fl)(hi:i<n){x:Int}(h0:0<=x)(h1:x<fl.length):gi (gl (bT n fl) i) x=eQ n fl i x.toNat:=by
 obtain⟨a,rfl⟩:∃a:Nat,x=a:=⟨x.toNat,by omega⟩;rw [tt h hi (by omega)];simp
theorem ad7(h:jA n fl)(hb:fl.length<=400)(hi:i<n):ma (gl (bT n fl) i)/\sO (gl (bT n fl) i):=by
 have hl:=EC h hi;refine⟨⟨by omega,fun x hx=>?_,?_⟩,fun a ha=>?_⟩
 ·rw [hl];rw [Hz h hi]at hx;obtain⟨a,ha,rfl⟩:=db.1 hx;have:=h.lt (fU.1 ha) hi;omega
 ·rw [Hz h hi];refine kM.2 ((List.nodup_range (n:=fl.length)).imp_of_mem fun {a b} ha hb bt e=>bt ?_);have ha:=fU.1 ha;have hb:=fU.1 hb;have e:eQ n fl i a=eQ n fl i b:=by omega
  rw [<-h.pp ha hi,e,h.pp hb hi]
 rw [hl]at ha;rw [tt h hi ha,tt h hi (h.lt ha hi),h.pp ha hi];have:=(h.pt ha hi).1;exact⟨by omega,O⟩
theorem ad9(h:jA n fl):Sys fl.length (bT n fl):=fun p hp=>by
 obtain⟨i,hi,rfl⟩:=(LR h).1 hp;refine⟨EC h hi,fun x h0 h1=>?_⟩;rw [ad3 h hi h0 h1];have:=h.lt (a:=x.toNat) (by omega) hi;omega
theorem EB(h:jA n fl){a:Nat}(ha:a<fl.length)(hi:i<n):lL n fl i a (eQ n fl i a):=(((h.pt ha hi).2 _).2 rfl).1
theorem Sp(h:jA n fl){p:ai}:p∈(bT n fl).eraseIdx i↔∃k:Nat,k<n/\k≠i/\p=gl (bT n fl) k:=by
 rw [List.mem_eraseIdx_iff_getElem];constructor
 ·rintro⟨k,hk,bt,e⟩;rw [sC]at hk;exact⟨k,hk,bt,by rw [bP (by rw [sC];exact hk)];exact e.symm⟩
 rintro⟨k,hk,bt,rfl⟩;exact⟨k,by rw [sC];exact hk,bt,by rw [bP (by rw [sC];exact hk)]⟩
theorem ad4(h:jA n fl)(hi:i<n){a:Nat}(ha:a<fl.length){y:Int}(hr:Reach ((bT n fl).eraseIdx i) (a:Int) y):(0<=y/\y<fl.length)/\gi (gl fl y) i=gi (gl fl a) i:=by
 induction hr with
 | refl=>exact⟨by omega,rfl⟩
 | step hr hp ih=>
  rename_i y p;obtain⟨k,hk,bt,rfl⟩:=(Sp h).1 hp;obtain⟨b,rfl⟩:∃b:Nat,y=b:=⟨y.toNat,by omega⟩;have hb:b<fl.length:=by omega
  rw [tt h hk hb];have h1:=h.lt hb hk;exact⟨by omega,by rw [<-(EB h hb hk).2.2 i hi (fun e=>bt e.symm)];exact ih.2⟩
theorem Sq(h:jA n fl){S:Nat->Prop}(hS:S i){a:Nat}(hl:iF n fl S a b):Reach ((bT n fl).eraseIdx i) (a:Int) (b:Int):=by
 induction hl with
 | refl=>exact .refl
 | step hl hk hs ha ih=>
  rename_i b c k
  by_cases e:c=b
  ·subst e;exact ih
  have hb:=hl.cj.2;have e2:c=eQ n fl k b:=((h.pt hb hk).2 c).1 ⟨ha,e⟩;have:=Reach.step ih ((Sp h).2 ⟨k,hk,fun e3=>hs (e3▸hS),O⟩);rw [tt h hk hb,<-e2]at this;exact this
theorem ad5(h:jA n fl){S:Nat->Prop}{a:Nat}(hl:iF n fl S a b):Reach (bT n fl) (a:Int) (b:Int):=by
 induction hl with
 | refl=>exact .refl
 | step hl hk hs ha ih=>
  rename_i b c k
  by_cases e:c=b
  ·subst e;exact ih
  have hb:=hl.cj.2;have e2:c=eQ n fl k b:=((h.pt hb hk).2 c).1 ⟨ha,e⟩;have:=Reach.step ih ((LR h).2 ⟨k,hk,O⟩);rw [tt h hk hb,<-e2]at this;exact this
theorem ad2(h:jA n fl)(hc:vz n fl)(hi:i<n){a:Nat}(ha:a<fl.length)(hb:b<fl.length):Reach ((bT n fl).eraseIdx i) (a:Int) (b:Int)↔gi (gl fl a) i=gi (gl fl b) i:=by
 constructor
 ·intro hr;exact(ad4 h hi ha hr).2.symm
 intro e;rcases Nat.lt_trichotomy a b with dN | dN | dN
 ·exact Sq h (S:=fun k=>gi (gl fl a) k=gi (gl fl b) k) e (hc a b dN hb)
 ·subst dN;exact .refl
 exact Sq h (S:=fun k=>gi (gl fl b) k=gi (gl fl a) k) e.symm (hc b a dN ha).symm
end
section
variable {n:Nat} {R:ai} {B:ah}
theorem XI(hP:gm n R B)(hD:tH n R B){i k a:Nat}(hi:i<n)(hk:k<n)(mr:i+2<=k)(ha:a< (aD n R B).length):
 eQ n (aD n R B) k (eQ n (aD n R B) i a)=eQ n (aD n R B) i (eQ n (aD n R B) k a):=by
 have h:=F4 hP hD;have hn:1<=n:=by omega
 obtain⟨b,hb⟩:∃b,eQ n (aD n R B) i a=b:=⟨_,rfl⟩;obtain⟨c,hc⟩:∃c,eQ n (aD n R B) k a=c:=⟨_,rfl⟩;have o0:b< (aD n R B).length:=hb▸h.lt ha hi;have dt:c< (aD n R B).length:=hc▸h.lt ha hk;have ab:=EB h ha hi;have ac:=EB h ha hk;have nb:=(h.pt ha hi).1;have nc:=(h.pt ha hk).1;rw [hb]at ab nb|-;rw [hc]at ac nc|-;have fa:=nH hn ha;have fb:=nH hn o0;have fc:=nH hn dt;obtain⟨x,hx⟩:∃x:ai,x=(gl (aD n R B) c).set i (gi (gl (aD n R B) b) i):=⟨_,rfl⟩;have gP:x.length=n:=by rw [hx,lp];exact fc.1
 have fY:∀j:Nat,j<n->gi x j=if i=j then gi (gl (aD n R B) b) i else gi (gl (aD n R B) c) j:=fun j hj=>by
  rw [bO (by omega)];subst hx;rw [List.getElem_set]
  split
  ·rfl
  exact(bO (by rw [fc.1];exact hj)).symm
 have hm:x∈aD n R B:=by
  refine(nG hn).2 ⟨gP,fun j hj=>?_,fun j hj=>?_⟩
  ·rw [fY j hj]
   split
   ·rename_i e;subst e;exact fb.2.1 i hj
   exact fc.2.1 j hj
  rw [fY j (by omega),fY (j+1) hj]
  by_cases e1:i=j
  ·subst e1;rw [ay rfl,aw (by omega),<-ac.2.2 (i+1) hj (by omega),ab.2.2 (i+1) hj (by omega)];exact fb.2.2 i hj
  by_cases e2:i=j+1
  ·subst e2;rw [aw e1,ay rfl,<-ac.2.2 j (by omega) (by omega),ab.2.2 j (by omega) (by omega)];exact fb.2.2 j hj
  rw [aw e1,aw e2];exact fc.2.2 j hj
 obtain⟨d,hd,ed⟩:=fJ.1 hm;have FU:gl (aD n R B) d=x:=by rw [bP hd];exact ed
 have e1:eQ n (aD n R B) k b=d:=by
  refine(((h.pt o0 hk).2 d).1 ⟨⟨o0,hd,fun j hj bt=>?_⟩,fun e=>?_⟩).symm
  ·rw [FU,fY j hj]
   split
   ·rename_i e;subst e;rfl
   rename_i e;rw [<-ab.2.2 j hj (fun e'=>e e'.symm),ac.2.2 j hj bt]
  subst e;have h1:=fY k hk;rw [aw (by omega),<-FU,<-ab.2.2 k hk (by omega)]at h1;exact nc (vL dt ha (ux (n:=n) fc.1 fa.1 fun j hj=>by
   by_cases e:j=k
   ·subst e;exact h1.symm
   exact(ac.2.2 j hj e).symm))
 have e2:eQ n (aD n R B) i c=d:=by
  refine(((h.pt dt hi).2 d).1 ⟨⟨dt,hd,fun j hj bt=>?_⟩,fun e=>?_⟩).symm
  ·rw [FU,fY j hj,aw (fun e=>bt e.symm)]
  subst e;have h1:=fY i hi;rw [ay rfl,<-FU,<-ac.2.2 i hi (by omega)]at h1;exact nb (vL o0 ha (ux (n:=n) fb.1 fa.1 fun j hj=>by
   by_cases e:j=i
   ·subst e;exact h1.symm
   exact(ab.2.2 j hj e).symm))
 rw [e1,e2]
theorem ad6(hP:gm n R B)(hY:yy n R B)(hn:n<=5)(hb:(aD n R B).length<=400):aZ (bT n (aD n R B)):=by
 have h:=F4 hP hY.2.2.1;have ti:=hP.n1;have h0:0<n:=by omega
 have B7:0< (aD n R B).length:=List.length_pos_iff.2 hY.1;have nO:(gl (bT n (aD n R B)) 0).length=(aD n R B).length:=EC h h0;have h2:2<=(aD n R B).length:=by
  have h1:=(h.pt B7 h0).1;have h3:=h.lt B7 h0;omega
 refine⟨by rw [sC];omega,by rw [nO];omega,fun p hp=>?_,fun i hi k hk mr f hf=>?_,?_⟩
 ·obtain⟨i,hi,rfl⟩:=(LR h).1 hp;rw [nO,EC h hi];exact⟨O,ad7 h hb hi⟩
 ·rw [sC]at hi hk;rw [nO]at hf;have bX:=h.lt hf hi;have eN:=h.lt hf hk;refine⟨?_,?_⟩
  ·rw [tt h hi hf,tt h hk hf,tt h hk bX,tt h hi eN,XI hP hY.2.2.1 hi hk mr hf]
  rw [tt h hi hf,tt h hk hf];intro e;have e:eQ n (aD n R B) i f=eQ n (aD n R B) k f:=by omega
  have a1:=EB h hf hi;have a2:=EB h hf hk;rw [<-e]at a2;refine(h.pt hf hi).1 (vL bX hf (ux (n:=n) (nH (by omega) bX).1 (nH (by omega) hf).1 fun j hj=>?_))
  by_cases e3:j=i
  ·exact(a2.2.2 j hj (by omega)).symm
  exact(a1.2.2 j hj e3).symm
 rw [nO];refine(vo (ad9 h) B7).2 fun x qn gI=>?_
 obtain⟨b,rfl⟩:∃b:Nat,x=b:=⟨x.toNat,by omega⟩
 by_cases e:b=0
 ·subst e;exact .refl
 exact ad5 h (hY.2.2.2 0 b (by omega) (by omega))
end
theorem Jr{M:ah}(hM:aZ M){i:Nat}{f g:Int}(h0:0<=f)(h1:f< (gl M 0).length)(h:Reach (M.eraseIdx i) f g):gi (bV M i) f=gi (bV M i) g:=
 Ly (hM.2.2.1.sys.erase i) (hM.2.2.1.inj.erase i) h0 h1 h _ (bj _)
def uB(R:ai)(i:Int):ai:=(bN R.length).filter fun e=>decide (gi R e=i)
theorem Mc{R:ai}{i e:Int}:e∈uB R i↔(0<=e/\e<R.length)/\gi R e=i:=by
 unfold uB;rw [fT,gL,kU]
theorem afS(R:ai)(i:Int):(uB R i).Nodup:=(ky _).nodup.filter _
structure eV(n:Nat)(R:ai)(B:ah):Prop where
 pos:gm n R B
 ye:yy n R B
 n5:n<=5
 Ov:(aD n R B).length<=400
section
variable{i b:Nat}
variable {n:Nat} {R:ai} {B:ah}
theorem eV.nb(h:eV n R B):jA n (aD n R B):=F4 h.pos h.ye.2.2.1
theorem eV.n1(h:eV n R B):1<=n:=by have:=h.pos.n1;omega
theorem eV.ll(h:eV n R B):aZ (bT n (aD n R B)):=ad6 h.pos h.ye h.n5 h.Ov
theorem eV.nl(h:eV n R B):(gl (bT n (aD n R B)) 0).length=(aD n R B).length:=EC h.nb (show 0<n by have:=h.n1;omega)
theorem eV.R6(h:eV n R B)(hi:i<n){a:Nat}(ha:a< (aD n R B).length)(hb:b< (aD n R B).length):gi (bV (bT n (aD n R B)) i) a=gi (bV (bT n (aD n R B)) i) b↔gi (gl (aD n R B) a) i=gi (gl (aD n R B) b) i:=by
 rw [<-ad2 h.nb h.ye.2.2.2 hi ha hb];constructor
 ·exact Dm h.ll (by omega) (by rw [h.nl];omega) (by omega) (by rw [h.nl];omega)
 exact Jr h.ll (by omega) (by rw [h.nl];omega)
theorem eV.Mu(h:eV n R B){e:Int}(h0:0<=e)(h1:e<R.length):∃a:Nat,a< (aD n R B).length/\gi (gl (aD n R B) a) (gi R e)=e:=by
 obtain⟨x,hx,he⟩:=h.ye.2.1 e h0 h1;obtain⟨a,ha,ea⟩:=fJ.1 hx;obtain⟨k,hk,ek⟩:=fJ.1 he;have hf:=(nG h.n1).1 hx;have kl:k<n:=by rw [<-hf.1];exact hk
 have e1:gi x k=e:=by rw [bO hk];exact ek
 have e2:=(hf.2.1 k kl).2;rw [e1]at e2;exact⟨a,ha,by rw [bP ha,ea,e2];exact e1⟩
theorem eV.at_(h:eV n R B){a:Nat}(ha:a< (aD n R B).length)(hi:i<n):(0<=gi (gl (aD n R B) a) i/\gi (gl (aD n R B) a) i<R.length)/\gi R (gi (gl (aD n R B) a) i)=i:=(nH h.n1 ha).2.1 i hi
theorem eV.oS(h:eV n R B)(hi:i<n):fA (bT n (aD n R B)) i=((uB R i).length:Int):=by
 have hN:=h.nl;have h0:=(vJ (bT n (aD n R B)) i).1;have hex:∀e:Int,∃v:Int,e∈uB R i->(0<=v/\v<fA (bT n (aD n R B)) i)/\∀a:Nat,a< (aD n R B).length->(gi (bV (bT n (aD n R B)) i) a=v↔gi (gl (aD n R B) a) i=e):=fun e=>by
  by_cases he:e∈uB R i
  ·have hr:=Mc.1 he;obtain⟨b,hb,eb⟩:=h.Mu hr.1.1 hr.1.2;rw [hr.2]at eb;exact⟨gi (bV (bT n (aD n R B)) i) b,fun _=> ⟨xi h.ll i b (by rw [hN];exact hb),fun a ha=>by rw [h.R6 hi ha hb,eb]⟩⟩
  exact⟨0,fun h=>absurd h he⟩
 obtain⟨g,hg⟩:=Classical.axiomOfChoice hex;have hg:∀e:Int,e∈uB R i->(0<=g e/\g e<fA (bT n (aD n R B)) i)/\∀a:Nat,a< (aD n R B).length->(gi (bV (bT n (aD n R B)) i) a=g e↔gi (gl (aD n R B) a) i=e):=hg;have hp:((uB R i).map g).Perm (bN (fA (bT n (aD n R B)) i).toNat):=by
  refine(rN ?_ (ky _).nodup).2 fun v=>?_
  ·refine kM.2 ((afS R i).imp_of_mem fun {e d} he hd bt q=>bt ?_);have hr:=Mc.1 he;obtain⟨b,hb,eb⟩:=h.Mu hr.1.1 hr.1.2;rw [hr.2]at eb;have h1:=((hg e he).2 b hb).2 eb;rw [q]at h1;rw [<-((hg d hd).2 b hb).1 h1];exact eb.symm
  rw [gL,db];constructor
  ·rintro⟨e,he,rfl⟩;have:=(hg e he).1;omega
  intro hv;obtain⟨f,hf,ef⟩:=yF h.ll i v hv.1 (by omega);rw [hN]at hf;have h1:=h.at_ hf hi;have hm:gi (gl (aD n R B) f) i∈uB R i:=Mc.2 h1;refine⟨_,hm,?_⟩;rw [<-((hg _ hm).2 f hf).2 rfl];exact ef
 have hl:=hp.length_eq;rw [fk,ES]at hl;omega
theorem afU(R:ai)(hR:∀e:Int,0<=e->e<R.length->0<=gi R e):∀i:Nat,((bN R.length).filter fun e=>decide (gi R e< (i:Int))).length+ (uB R i).length=((bN R.length).filter fun e=>decide (gi R e< ((i+1:Nat):Int))).length:=fun i=>by
 unfold uB;generalize bN R.length=l
 induction l with
 | nil=>rfl
 | cons e l ih=>
  rcases Int.lt_trichotomy (gi R e) (i:Int)with c | c | c
  ·rw [yw (by simpa using c),vB (by simp;omega),yw (by simp;omega)];simp only [List.length_cons];omega
  ·rw [vB (by simp;omega),yw (by simpa using c),yw (by simp;omega)];simp only [List.length_cons];omega
  ·rw [vB (by simp;omega),vB (by simp;omega),vB (by simp;omega)];exact ih
theorem eV.off(h:eV n R B):∀i:Nat,i<=n->aF (bT n (aD n R B)) i=((bN R.length).filter fun e=>decide (gi R e< (i:Int))).length:=by
 have iZ:∀e:Int,0<=e->e<R.length->0<=gi R e:=fun e h0 h1=> (h.pos.ri h0 h1).1
 intro i
 induction i with
 | zero=>
  intro _;rw [List.filter_eq_nil_iff.2 fun e he=>?_]
  ·rfl
  ·have hr:=(gL _ _).1 he;have:=iZ e hr.1 hr.2;simp;omega
 | succ i ih=>
  intro hi;have h1:=h.oS (show i<n by omega);show aF _ i+ (fA _ i).toNat=_;rw [ih (by omega),h1,<-afU R iZ i];omega
theorem eV.SG(h:eV n R B):aF (bT n (aD n R B)) n=R.length:=by
 rw [h.off n (bj _),List.filter_eq_self.2 fun e he=>?_]
 ·exact ES _
 have hr:=(gL _ _).1 he;have:=(h.pos.ri hr.1 hr.2).2;simp;omega
end
def tF(m:Nat)(rk:Int->Int)(fP:Int->Int->Prop):Prop:=∀a b:Int,0<=a/\a<m->0<=b/\b<m->fP a b->rk a+1<rk b->∃c:Int,(0<=c/\c<m)/\fP a c/\fP c b/\rk c=rk a+1
def jX(m:Nat)(rk:Int->Int)(p:Nat)(a:Int):Prop:=(0<=a/\a<m)/\rk a+1=p
section
variable {m n:Nat} {rk:Int->Int} {fP:Int->Int->Prop}
theorem fz.Bl(h:fz m n rk fP)(hb:tF m rk fP):gF (n+1) (jX m rk) fP where
 one:=fun ha hb=>by have:=ha.2;have:=hb.2;omega
 rf:=h.refl
 tr:=fun ha hb hc=>h.trans _ _ _ ha.1 hb.1 hc.1
 st:=fun {i j a b} ha hb dN=>by
  by_cases e:a=b
  ·exact .inl e
  have:=h.strict a b ha.1 hb.1 dN e;have:=ha.2;have:=hb.2;exact .inr (by omega)
 sU:=fun {i j a b} ha hc dN gU=>by
  have h1:=ha.2;have h2:=hc.2;obtain⟨c,h3,h4,h5,h6⟩:=hb a b ha.1 hc.1 dN (by omega);exact⟨c,⟨h3,by omega⟩,h4,h5⟩
 nB:=fun ha=>by have:=(h.cj ha.1).2;have:=ha.2;omega
 bot:=⟨0,⟨⟨by omega,by have:=h.two;omega⟩,by rw [h.r0];rfl⟩,fun i a ha=> ⟨h.bot a,fun e=>h.zero ha.1 (by have:=ha.2;omega)⟩⟩
 top:=⟨(m:Int) - 1,⟨⟨by have:=h.two;omega,by omega⟩,by rw [h.rt];omega⟩,fun i a ha=> ⟨h.top a,fun e=>h.whole ha.1 (by have:=ha.2;omega)⟩⟩
end
section
variable {n:Nat} {R:ai} {B:ah}
theorem Tk(hP:gm n R B)(hb:tF (R.length+2) (gi (fD n R)) (dC R.length B)):mf n R B (jX (R.length+2) (gi (fD n R))) (dC R.length B) (fun e=>e+1) where
 n1:=by have:=hP.n1;omega
 g:=(Ex hP).Bl hb
 zB:=fun e he i _ hi=> ⟨by omega,by rw [tT _ _ (by omega) (by omega),Int.add_sub_cancel,hi];omega⟩
 E4:=fun i a hi ha=>by
  have h1:=ha.1;have h2:=ha.2;have n0:a≠0:=fun e=>by subst e;have:gi (fD n R) 0= -1:=rfl;omega
  have n9:a≠(R.length:Int)+1:=fun e=>by subst e;rw [xj]at h2;omega
  rw [tT _ _ (by omega) (by omega)]at h2;exact⟨a - 1,by omega,by omega,by omega⟩
 inj:=fun d e _ _ h=>by have h:d+1=e+1:=h;omega
 inc:=fun d e hd he hr=>by
  show _↔dC R.length B (d+1) (e+1);unfold dC;rw [Int.add_sub_cancel,Int.add_sub_cancel];constructor
  ·intro h;exact .inr (.inr (.inr ⟨by omega,by omega,by omega,by omega,h⟩))
  rintro(h | h | h | h)
  ·have:d=e:=by omega
   subst this;omega
  ·omega
  ·omega
  exact h.2.2.2.2
theorem agd(hP:gm n R B)(hb:tF (R.length+2) (gi (fD n R)) (dC R.length B))(hc:vz n (aD n R B)):mg (jX (R.length+2) (gi (fD n R))) (dC R.length B):=
 age ((Ex hP).Bl hb) ((Tk hP hb).WR hc)
end
theorem OT{M:ah}(hM:aZ M){e:Int}(h0:0<=e)(h1:e< (aF M M.length:Int)):∃i:Nat,i<M.length/\∃f:Nat,f< (gl M 0).length/\e=bh M i f:=by
 obtain⟨i,hi,h2,h3⟩:=Jy h0 h1;have h3:e< ((aF M i+ (fA M i).toNat:Nat):Int):=h3;obtain⟨f,hf,e1⟩:=yF hM i (e - (aF M i:Int)) (by omega) (by omega);refine⟨i,hi,f,hf,?_⟩;unfold bh;rw [e1];omega
theorem kg{M:ah}(hM:aZ M){i f:Nat}(hi:i<M.length)(hf:f< (gl M 0).length):(0<=bh M i f/\bh M i f< (aF M M.length:Int))/\gi (bo M M.length) (bh M i f)=i:=by
 have h:=oV hM (i:=i) hf;have:=nn M (i:=i+1) (j:=M.length) hi;exact⟨by omega,Dt hi h.1 h.2⟩
theorem XY{M:ah}(hM:aZ M):tF ((bo M M.length).length+2) (gi (fD M.length (bo M M.length))) (dC (bo M M.length).length (bD M)):=by
 have hl:=jg M M.length;have h1:=hM.1;rw [hl];have el:∀(i f:Nat),i<M.length->f< (gl M 0).length->(0<=bh M i f+1/\bh M i f+1< ((aF M M.length+2:Nat):Int))/\gi (fD M.length (bo M M.length)) (bh M i f+1)=i:=fun i f hi hf=>by
  have h:=kg hM hi hf;exact⟨by omega,by rw [tT _ _ (by omega) (by omega),Int.add_sub_cancel];exact h.2⟩
 have fP:∀(k i f:Nat),k<i->i<M.length->f< (gl M 0).length->dC (aF M M.length) (bD M) (bh M k f+1) (bh M i f+1):=fun k i f hk hi hf=>by
  have h:=kg hM hi hf;have h':=kg hM (show k<M.length by omega) hf;exact .inr (.inr (.inr ⟨by omega,by omega,by omega,by omega,by rw [Int.add_sub_cancel,Int.add_sub_cancel,mQ h.1.1 h.1.2];exact⟨h'.1,f,hf,i,hi,k,hk,O,O⟩⟩))
 have cs:∀a:Int,0<=a->a< ((aF M M.length+2:Nat):Int)->a=0\/a=(aF M M.length:Int)+1\/∃i:Nat,i<M.length/\∃f:Nat,f< (gl M 0).length/\a=bh M i f+1:=fun a h0 h9=>by
  by_cases e0:a=0
  ·exact .inl e0
  by_cases e9:a=(aF M M.length:Int)+1
  ·exact .inr (.inl e9)
  obtain⟨i,hi,f,hf,e⟩:=OT hM (e:=a - 1) (by omega) (by omega);exact .inr (.inr ⟨i,hi,f,hf,by omega⟩)
 have r0:gi (fD M.length (bo M M.length)) 0= -1:=O;have r9:gi (fD M.length (bo M M.length)) ((aF M M.length:Int)+1)=M.length:=by rw [<-hl];exact xj _ _
 intro a b ha hb dN hr;rcases cs a ha.1 ha.2 with rfl | rfl | ⟨i,hi,f,hf,rfl⟩
 ·rw [r0]at hr|-;rcases cs b hb.1 hb.2 with rfl | rfl | ⟨k,hk,g,hg,rfl⟩
  ·rw [r0]at hr;omega
  ·have hN:0< (gl M 0).length:=by have:=hM.2.1;omega
   exact⟨bh M 0 0+1,(el 0 0 (by omega) hN).1,.inr (.inl O),.inr (.inr (.inl O)),(el 0 0 (by omega) hN).2⟩
  rw [(el k g hk hg).2]at hr;exact⟨bh M 0 g+1,(el 0 g (by omega) hg).1,.inr (.inl O),fP 0 k g (by omega) hk hg,(el 0 g (by omega) hg).2⟩
 ·rw [r9]at hr;rcases cs b hb.1 hb.2 with rfl | rfl | ⟨k,hk,g,hg,rfl⟩
  ·rw [r0]at hr;omega
  ·rw [r9]at hr;omega
  rw [(el k g hk hg).2]at hr;omega
 rw [(el i f hi hf).2]at hr|-;rcases cs b hb.1 hb.2 with rfl | rfl | ⟨k,hk,g,hg,rfl⟩
 ·rw [r0]at hr;omega
 ·rw [r9]at hr;exact⟨bh M (i+1) f+1,(el (i+1) f (by omega) hf).1,fP i (i+1) f (by omega) (by omega) hf,.inr (.inr (.inl O)),by rw [(el (i+1) f (by omega) hf).2];omega⟩
 rw [(el k g hk hg).2]at hr;have hA:=kg hM hi hf;have hB:=kg hM hk hg;have hm:bh M i f∈gl (bD M) (bh M k g):=by
  rcases dN with h | h | h | h
  ·have:bh M i f=bh M k g:=by omega
   have e:=hA.2;rw [this,hB.2]at e;omega
  ·omega
  ·omega
  have:=h.2.2.2.2;rwa [Int.add_sub_cancel,Int.add_sub_cancel]at this
 rw [mQ hB.1.1 hB.1.2]at hm;obtain⟨_,f',kH,i',bX,k',eN,e1,e2⟩:=hm;have Gh:=kg hM (show k'<M.length by omega) kH;have YW:=kg hM bX kH;have ei:i=k':=by have a:=hA.2;have b:=Gh.2;rw [e2]at a;omega
 have ek:k=i':=by have a:=hB.2;have b:=YW.2;rw [e1]at a;omega
 subst ei;subst ek;rw [e1,e2];exact⟨bh M (i+1) f'+1,(el (i+1) f' (by omega) kH).1,fP i (i+1) f' (by omega) (by omega) kH,fP (i+1) k f' (by omega) hk kH,by rw [(el (i+1) f' (by omega) kH).2];omega⟩
section
variable{i k:Nat}
variable {m1 m2 n1 n2:Nat} {rk1 rk2:Int->Int} {b9 b6:Int->Int->Prop}
theorem N8(h1:fz m1 n1 rk1 b9)(h2:fz m2 n2 rk2 b6){c:Int×Int}:FX (jX m1 rk1) (jX m2 rk2) (i+1) c↔l8 m1 m2 rk1 rk2 0 i c:=by
 constructor
 ·rintro⟨p,q,a,b,e⟩;have h3:=a.2;have h4:=b.2;exact⟨a.1,b.1,by show rk1 c.1+rk2 c.2+1=_;omega,fun h=>by rcases h with h | h<;>omega⟩
 rintro⟨a,b,e,_⟩;have e:rk1 c.1+rk2 c.2+1=i:=e;have:=h1.cj a;have:=h2.cj b;exact⟨(rk1 c.1+1).toNat,(rk2 c.2+1).toNat,⟨a,by omega⟩,⟨b,by omega⟩,by omega⟩
theorem N7(h1:fz m1 n1 rk1 b9)(h2:fz m2 n2 rk2 b6){c:Int×Int}:tS (jX m1 rk1) (jX m2 rk2) (i+1) c↔l8 m1 m2 rk1 rk2 1 i c:=by
 constructor
 ·rintro(⟨e,_⟩ | ⟨p,q,hp,hq,a,b,e⟩)
  ·omega
  have h3:=a.2;have h4:=b.2;refine⟨a.1,b.1,by show rk1 c.1+rk2 c.2+0=_;omega,fun h=>?_⟩;rcases h with⟨_,h | h⟩ | h
  ·rw [h,h1.r0]at h3;omega
  ·rw [h,h2.r0]at h4;omega
  omega
 rintro⟨a,b,e,hx⟩;have e:rk1 c.1+rk2 c.2+0=i:=e;have k1:=h1.cj a;have k2:=h2.cj b;have n1:rk1 c.1≠ -1:=fun h=>hx (.inl ⟨O,.inl (h1.zero a h)⟩)
 have n2:rk2 c.2≠ -1:=fun h=>hx (.inl ⟨O,.inr (h2.zero b h)⟩)
 exact .inr ⟨(rk1 c.1+1).toNat,(rk2 c.2+1).toNat,by omega,by omega,⟨a,by omega⟩,⟨b,by omega⟩,by omega⟩
def xh(N1 N2:Nat){α β:Type}(dv:Nat->α->Prop)(dw:Nat->β->Prop):Nat->α×β->Prop:=Be (N1+N2 - 1) (tS (Be N1 dv) (Be N2 dw))
theorem N9(h1:fz m1 n1 rk1 b9)(h2:fz m2 n2 rk2 b6)(hi:i<n1+n2){c:Int×Int}:xh (n1+1) (n2+1) (jX m1 rk1) (jX m2 rk2) (i+1) c↔l8 m1 m2 rk1 rk2 2 i c:=by
 constructor
 ·rintro⟨hN,⟨e,_⟩ | ⟨p,q,hp,hq,⟨na,a⟩,⟨Q3,b⟩,e⟩⟩
  ·omega
  have h3:=a.2;have h4:=b.2;refine⟨a.1,b.1,by show rk1 c.1+rk2 c.2+1=_;omega,fun h=>?_⟩;rcases h with h | ⟨_,h | h⟩
  ·omega
  ·rw [h,h1.rt]at h3;omega
  rw [h,h2.rt]at h4;omega
 rintro⟨a,b,e,hx⟩;have e:rk1 c.1+rk2 c.2+1=i:=e;have k1:=h1.cj a;have k2:=h2.cj b;have x1:rk1 c.1≠n1:=fun h=>hx (.inr ⟨O,.inl (h1.whole a h)⟩)
 have x2:rk2 c.2≠n2:=fun h=>hx (.inr ⟨O,.inr (h2.whole b h)⟩)
 refine⟨by omega,.inr ⟨n1+1 - (rk1 c.1+1).toNat,n2+1 - (rk2 c.2+1).toNat,by omega,by omega,⟨by omega,a,?_⟩,⟨by omega,b,?_⟩,by omega⟩⟩
 ·rw [show n1+1 - (n1+1 - (rk1 c.1+1).toNat)=(rk1 c.1+1).toNat by omega];omega
 rw [show n2+1 - (n2+1 - (rk2 c.2+1).toNat)=(rk2 c.2+1).toNat by omega];omega
variable [DecidableRel b9] [DecidableRel b6] {kind:Int}
theorem Cv(h1:fz m1 n1 rk1 b9)(h2:fz m2 n2 rk2 b6)(hk:1<=k){el:Nat->Int×Int->Prop}{le:Int×Int->Int×Int->Prop}(g:gF (k+1) el le)(jv:∀i:Nat,i<k->∀c:Int×Int,el (i+1) c↔l8 m1 m2 rk1 rk2 kind i c)(hle:∀c d:Int×Int,le c d↔b9 c.1 d.1/\b6 c.2 d.2):
 mf k ((b5 m1 m2 rk1 rk2 kind k).map (cg rk1 rk2 kind)) (nX b9 b6 (b5 m1 m2 rk1 rk2 kind k)) el le (gp (b5 m1 m2 rk1 rk2 kind k)):=by
 have hl:((b5 m1 m2 rk1 rk2 kind k).map (cg rk1 rk2 kind)).length=(b5 m1 m2 rk1 rk2 kind k).length:=by simp
 refine⟨hk,g,fun e he i hi hr=>?_,fun i a hi ha=>?_,fun d e hd he h=>?_,fun d e hd he hr=>?_⟩
 ·rw [hl]at he;obtain⟨j,hj,hE,hJ⟩:=uY he;have:i=j:=by omega
  subst this;exact(jv i hi _).2 hE
 ·obtain⟨e,he,h⟩:=Jl hi ((jv i hi a).1 ha);refine⟨e,by rw [hl];exact he,?_,h⟩;obtain⟨j,hj,hE,hJ⟩:=uY he;rw [hJ];rw [h]at hE;have h3:=((jv i hi a).1 ha).2.2.1;have h4:=hE.2.2.1;omega
 ·rw [hl]at hd he;exact Ge hd he h
 rw [hl]at hd he;rw [vp he.1 he.2,uA h1 h2 he,hle];exact⟨fun h=>h.2.2,fun h=> ⟨hd,fun e=>by rw [e]at hr;omega,h⟩⟩
theorem afh(h1:fz m1 n1 rk1 b9)(h2:fz m2 n2 rk2 b6)(b1:tF m1 rk1 b9)(b2:tF m2 rk2 b6)(s1:mg (jX m1 rk1) b9)(s2:mg (jX m2 rk2) b6)(nN:0<=kind/\kind<=2)(hk:(k:Int)=iw n1 n2 kind)(fK:1<=k):
 ∃(el:Nat->Int×Int->Prop) (le:Int×Int->Int×Int->Prop),mf k ((b5 m1 m2 rk1 rk2 kind k).map (cg rk1 rk2 kind)) (nX b9 b6 (b5 m1 m2 rk1 rk2 kind k)) el le (gp (b5 m1 m2 rk1 rk2 kind k))/\mg el le:=by
 have g1:=h1.Bl b1;have g2:=h2.Bl b2;rcases(show kind=0\/kind=1\/kind=2 by omega)with rfl | rfl | rfl
 ·have e:(k:Int)=n1+n2+1:=hk;have g:=RU g1 g2;rw [show n1+1+ (n2+1)=k+1 by omega]at g;exact⟨_,_,Cv h1 h2 fK g (fun i _ c=>N8 h1 h2) (fun c d=>Iff.rfl),acH g1 g2 s1 s2⟩
 ·have e:(k:Int)=n1+n2:=hk;have g:=FG g1 g2 (by omega) (by omega);rw [show n1+1+ (n2+1) - 1=k+1 by omega]at g;exact⟨_,_,Cv h1 h2 fK g (fun i _ c=>N7 h1 h2) (fun c d=>Iff.rfl),NK g1 g2 s1 s2⟩
 have e:(k:Int)=n1+n2:=hk;have g0:=FG g1.oU g2.oU (by omega) (by omega);have g:=g0.oU;have c0:=(NK g1.oU g2.oU (s1.oU g1) (s2.oU g2)).oU g0;have hg:gF (k+1) (xh (n1+1) (n2+1) (jX m1 rk1) (jX m2 rk2)) (Cl (nj (Cl b9) (Cl b6))):=by
  have:=g;rw [show n1+1+ (n2+1) - 1=k+1 by omega]at this;unfold xh;rw [show n1+1+ (n2+1) - 1=k+1 by omega];exact this
 exact⟨_,_,Cv h1 h2 fK hg (fun i hi c=>N9 h1 h2 (by omega)) (fun c d=>Iff.rfl),c0⟩
theorem aff(h1:fz m1 n1 rk1 b9)(h2:fz m2 n2 rk2 b6)(b1:tF m1 rk1 b9)(b2:tF m2 rk2 b6)(s1:mg (jX m1 rk1) b9)(s2:mg (jX m2 rk2) b6)(d1:vA m1 rk1 b9)(d2:vA m2 rk2 b6)(c1:CQ m1 n1 rk1 b9)(c2:CQ m2 n2 rk2 b6)(nN:0<=kind/\kind<=2)(hk:(k:Int)=iw n1 n2 kind)(lh:2<=k)(wh:1<=(n1:Int)/\(1<=(n2:Int)\/kind=0)):yy k ((b5 m1 m2 rk1 rk2 kind k).map (cg rk1 rk2 kind)) (nX b9 b6 (b5 m1 m2 rk1 rk2 kind k)):=by
 obtain⟨el,le,hr,hs⟩:=afh h1 h2 b1 b2 s1 s2 nN hk (by omega);refine⟨Td h1 h2 c1 c2 nN hk (by omega) wh,hr.pure fun e h0 h9=>?_,Tc h1 h2 d1 d2 nN hk lh wh,hr.yC (WS hr.g hs)⟩;rw [fk]at h9;obtain⟨i,hi,_,e⟩:=uY ⟨h0,h9⟩;rw [e];omega
end
def jD:Nat->Nat->Nat
 | 0,_=>1
 | _+1,0=>1
 | r+1,s+1=>jD r (s+1)+jD (r+1) s
theorem Fy(s:Nat):jD 0 s=1:=by rw [jD]
theorem IW(r:Nat):jD r 0=1:=by cases r<;>rw [jD]
theorem Nz(r s:Nat):jD (r+1) (s+1)=jD r (s+1)+jD (r+1) s:=by rw [jD]
section
variable{N:Nat}{R:ai}{B:ah}
variable {α:Type}
def cU(U:α->List α):Nat->α->Nat
 | 0,_=>1
 | r+1,a=> ((U a).map (cU U r)).sum
structure l9(el:Nat->α->Prop)(le:α->α->Prop)(U:α->List α):Prop where
 nd:∀ {p:Nat} {a:α},el p a->(U a).Nodup
 mem:∀ {p:Nat} {a b:α},el p a->(b∈U a↔el (p+1) b/\le a b)
theorem E3{l m:List Nat}(h:l.Perm m):l.sum=m.sum:=by
 induction h with
 | nil=>rfl
 | cons x _ ih=>simp [ih]
 | swap x y l=>simp [Nat.add_left_comm]
 | trans _ _ h1 h2=>exact h1.trans h2
theorem EK{l m:List α}(hl:l.Nodup)(hm:m.Nodup)(h:∀x,x∈l↔x∈m):l.Perm m:=(rN hl hm).2 h
theorem CD{l:List α}{f g:α->Nat}(h:∀x∈l,f x=g x):(l.map f).sum=(l.map g).sum:=by rw [od h]
theorem Mo(l:List α)(f:α->Nat)(k:Nat):(l.map fun x=>f x*k).sum=(l.map f).sum*k:=by
 induction l with
 | nil=>simp
 | cons x l ih=>simp only [List.map_cons,List.sum_cons,ih,Nat.add_mul]
theorem zD{β:Type}{l:List α}{f:α->β}(hn:l.Nodup)(h:∀x∈l,∀y∈l,f x=f y->x=y):(l.map f).Nodup:=by
 induction l with
 | nil=>simp
 | cons x l ih=>
  rw [nt]at hn;rw [List.map_cons,nt];refine⟨fun hm=>?_,ih hn.2 fun a ha b hb=>h a (pj _ ha) b (pj _ hb)⟩;obtain⟨y,hy,e⟩:=db.1 hm;have:=h y (pj _ hy) x (List.mem_cons_self ..) e;subst this;exact hn.1 hy
theorem mf.ext{n:Nat}{el:Nat->α->Prop}{le:α->α->Prop}{φ:Int->α}(h:mf n R B el le φ){U:α->List α}(hU:l9 el le U):
 ∀(r:Nat) (e:Int) (i:Nat),0<=e/\e<R.length->gi R e=i->i+r<n->(mO R B r e).length=cU U r (φ e):=by
 intro r
 induction r with
 | zero=>intro e i _ _ _;rfl
 | succ r ih=>
  intro e i he hr hi;have jv:=h.zB e he i (by omega) hr;have hp:((jT R B e).map φ).Perm (U (φ e)):=by
   refine EK (zD (CG R B e).nodup fun x hx y hy=>h.inj x y (l6.1 hx).1 (l6.1 hy).1) (hU.nd jv) fun b=>?_
   rw [db,hU.mem jv];constructor
   ·rintro⟨f,hf,rfl⟩;have hf:=l6.1 hf;refine⟨h.zB f hf.1 (i+1) (by omega) (by omega),(h.inc e f he hf.1 hf.2.1).1 hf.2.2⟩
   ·rintro⟨h1,h2⟩;obtain⟨f,hf,k1,k2⟩:=h.E4 (i+1) b (by omega) h1;subst k2;exact⟨f,l6.2 ⟨hf,by omega,(h.inc e f he hf (by omega)).2 h2⟩,O⟩
  show((jT R B e).flatMap fun f=> (mO R B r f).map (f:: ·)).length=((U (φ e)).map (cU U r)).sum;rw [List.length_flatMap,<-E3 (hp.map (cU U r)),List.map_map];refine CD fun f hf=>?_
  have hf:=l6.1 hf;rw [fk,ih f (i+1) hf.1 (by omega) (by omega)]
  rfl
theorem mf.flags{n:Nat}{el:Nat->α->Prop}{le:α->α->Prop}{φ:Int->α}(h:mf n R B el le φ){U:α->List α}(hU:l9 el le U){o:α}(ho:el 0 o)(iq:∀(i:Nat) (a:α),el i a->le o a):(aD n R B).length=cU U n o:=by
 have hn:=h.n1;obtain⟨k,rfl⟩:∃k,n=k+1:=⟨n - 1,by omega⟩;have hp:((tP R).map φ).Perm (U o):=by
  refine EK (zD ((ky _).nodup.filter _) fun x hx y hy=>h.inj x y (sT.1 hx).1 (sT.1 hy).1) (hU.nd ho) fun b=>?_
  rw [db,hU.mem ho];constructor
  ·rintro⟨f,hf,rfl⟩;have hf:=sT.1 hf;have:=h.zB f hf.1 0 (by omega) (by omega);exact⟨this,iq _ _ this⟩
  rintro⟨h1,h2⟩;obtain⟨f,hf,k1,k2⟩:=h.E4 0 b (by omega) h1;exact⟨f,sT.2 ⟨hf,by omega⟩,k2⟩
 show((tP R).flatMap fun e=> (mO R B (k+1 - 1) e).map (e:: ·)).length=((U o).map (cU U k)).sum;rw [List.length_flatMap,<-E3 (hp.map (cU U k)),List.map_map];refine CD fun f hf=>?_
 have hf:=sT.1 hf;rw [fk,h.ext hU _ f 0 hf.1 (by omega) (by omega)]
 rfl
open Classical in
theorem mf.en{n:Nat}{el:Nat->α->Prop}{le:α->α->Prop}{φ:Int->α}(h:mf n R B el le φ)(hr:∀e:Int,0<=e->e<R.length->gi R e<n):∃U,l9 el le U:=by
 obtain⟨t,ht,pH⟩:=h.g.top;have hL:∀(a:α) (e:Int),e∈(bN R.length).filter (fun e=>decide (∃p:Nat,el p a/\gi R e=(p:Int)/\le a (φ e)))↔(0<=e/\e<R.length)/\∃p:Nat,el p a/\gi R e=(p:Int)/\le a (φ e):=fun a e=>by
  rw [fT,gL,kU]
 refine⟨fun a=> ((bN R.length).filter (fun e=>decide (∃p:Nat,el p a/\gi R e=(p:Int)/\le a (φ e)))).map φ++ (if el n a then [t]else []),fun {p a} ha=>?_,fun {p a b} ha=>?_⟩
 ·rw [List.nodup_append];refine⟨zD ((ky _).nodup.filter _) fun x hx y hy=>h.inj x y ((hL a x).1 hx).1 ((hL a y).1 hy).1,by split<;>simp,fun x hx y hy=>?_⟩
  split at hy
  ·rename_i hn;obtain⟨e,he,rfl⟩:=db.1 hx;obtain⟨he,q,hq,xR,_⟩:=(hL a e).1 he;have:=h.g.one hq hn;have:=hr e he.1 he.2;omega
  cases hy
 rw [jz,db];constructor
 ·rintro(⟨e,he,rfl⟩ | hb)
  ·obtain⟨he,q,hq,xR,hle⟩:=(hL a e).1 he;have e2:=h.g.one hq ha;have:=hr e he.1 he.2;exact⟨e2▸h.zB e he q (by omega) xR,hle⟩
  split at hb
  ·rename_i hn;have e2:=h.g.one hn ha;have:b=t:=by simpa using hb
   subst this;exact⟨e2▸ht,(pH _ _ ha).1⟩
  cases hb
 rintro⟨hb,hle⟩
 by_cases hp:p<n
 ·obtain⟨e,he,k1,k2⟩:=h.E4 p b hp hb;exact .inl ⟨e,(hL a e).2 ⟨he,p,ha,k1,by rw [k2];exact hle⟩,k2⟩
 have sf:=h.g.nB hb;obtain rfl:p=n:=by omega
 refine .inr ?_;rw [ay ha,(pH _ _ hb).2 rfl];exact gk.2 O
theorem AH{el:Nat->α->Prop}{le:α->α->Prop}(g:gF (N+1) el le){U:α->List α}(hU:l9 el le U):∀(r p:Nat) (a:α),el p a->p+r=N->cU U (r+1) a=cU U r a:=by
 intro r
 induction r with
 | zero=>
  intro p a ha hp;obtain⟨t,ht,pH⟩:=g.top;obtain rfl:p=N:=by omega
  have:(U a).Perm [t]:=EK (hU.nd ha) (by simp) fun b=>by
   rw [hU.mem ha,gk];exact⟨fun h=> (pH _ _ h.1).2 rfl,fun h=>by subst h;exact⟨ht,(pH _ _ ha).1⟩⟩
  show((U a).map (cU U 0)).sum=1;rw [E3 (this.map _)];rfl
 | succ r ih=>
  intro p a ha hp;show((U a).map (cU U (r+1))).sum=((U a).map (cU U r)).sum;exact CD fun b hb=>ih (p+1) b ((hU.mem ha).1 hb).1 (by omega)
end
section
variable {α β:Type} {N1 N2:Nat} {dv:Nat->α->Prop} {eh:α->α->Prop} {dw:Nat->β->Prop} {eo:β->β->Prop} {U1:α->List α} {U2:β->List β} {U:α×β->List (α×β)}
theorem I8(h1:l9 dv eh U1)(h2:l9 dw eo U2){K1 K2 s:Nat}
 (hU:∀(p q r1 r2:Nat) (a:α) (b:β),s<=p->s<=q->dv p a->dw q b->p+r1=K1->q+r2=K2->1<=r1+r2->(U (a,b)).Perm ((if r1=0 then []else(U1 a).map fun x=> (x,b))++ (if r2=0 then []else(U2 b).map fun y=> (a,y)))):
 ∀(d r1 r2 p q:Nat) (a:α) (b:β),r1+r2=d->s<=p->s<=q->dv p a->dw q b->p+r1=K1->q+r2=K2->cU U d (a,b)=cU U1 r1 a*cU U2 r2 b*jD r1 r2:=by
 intro d
 induction d with
 | zero=>
  intro r1 r2 p q a b hd _ _ _ _ _ _;obtain rfl:r1=0:=by omega
  obtain rfl:r2=0:=by omega
  rw [Fy];rfl
 | succ d ih=>
  intro r1 r2 p q a b hd hp hq ha hb e1 e2;show((U (a,b)).map (cU U d)).sum=_;rw [E3 ((hU p q r1 r2 a b hp hq ha hb e1 e2 (by omega)).map (cU U d)),jb,List.sum_append];have k1:∀r,r1=r+1->(((U1 a).map fun x=> (x,b)).map (cU U d)).sum=cU U1 r1 a*cU U2 r2 b*jD r r2:=fun r hr=>by
   subst hr;rw [List.map_map];have:((U1 a).map (cU U d∘fun x=> (x,b))).sum=((U1 a).map fun x=>cU U1 r x* (cU U2 r2 b*jD r r2)).sum:=CD fun x hx=>by
    show cU U d (x,b)=_;rw [ih r r2 (p+1) q x b (by omega) (by omega) hq ((h1.mem ha).1 hx).1 hb (by omega) e2,Nat.mul_assoc]
   rw [this,Mo,<-Nat.mul_assoc];rfl
  have k2:∀r,r2=r+1->(((U2 b).map fun y=> (a,y)).map (cU U d)).sum=cU U1 r1 a*cU U2 r2 b*jD r1 r:=fun r hr=>by
   subst hr;rw [List.map_map];have:((U2 b).map (cU U d∘fun y=> (a,y))).sum=((U2 b).map fun y=>cU U2 r y* (cU U1 r1 a*jD r1 r)).sum:=CD fun y hy=>by
    show cU U d (a,y)=_;rw [ih r1 r p (q+1) a y (by omega) hp (by omega) ha ((h2.mem hb).1 hy).1 e1 (by omega),Nat.mul_assoc,Nat.mul_left_comm]
   rw [this,Mo];show cU U2 (r+1) b* (cU U1 r1 a*jD r1 r)=_;rw [Nat.mul_left_comm,<-Nat.mul_assoc]
  cases r1 with
  | zero=>
   cases r2 with
   | zero=>omega
   | succ r2=>
    rw [ay rfl,aw (by omega),k2 r2 rfl,Fy,Fy];simp
  | succ r1=>
   cases r2 with
   | zero=>rw [aw (by omega),ay rfl,k1 r1 rfl,IW,IW];simp
   | succ r2=>
    rw [aw (by omega),aw (by omega),k1 r1 rfl,k2 r2 rfl,<-Nat.mul_add,Nz]
theorem stepG(g1:gF N1 dv eh)(g2:gF N2 dw eo)(h1:l9 dv eh U1)(h2:l9 dw eo U2){el:Nat->α×β->Prop}(hU:l9 el (nj eh eo) U){K1 K2 m p q r1 r2:Nat}{a:α}{b:β}(hm:el m (a,b))(ha:dv p a)(hb:dw q b)(jv:∀c:α×β,nj eh eo (a,b) c->(el (m+1) c↔∃i j,i<=K1/\j<=K2/\dv i c.1/\dw j c.2/\i+j=p+q+1))(e1:p+r1=K1)(e2:q+r2=K2):(U (a,b)).Perm ((if r1=0 then []else(U1 a).map fun x=> (x,b))++ (if r2=0 then []else(U2 b).map fun y=> (a,y))):=by
 have m1:∀c:α×β,(c∈if r1=0 then([]:List (α×β))else(U1 a).map fun x=> (x,b))↔r1≠0/\(dv (p+1) c.1/\eh a c.1)/\c.2=b:=fun c=>by
  split
  ·simp_all
  rw [db];constructor
  ·rintro⟨x,hx,rfl⟩;exact⟨by assumption,(h1.mem ha).1 hx,rfl⟩
  rintro⟨_,hx,e⟩;exact⟨c.1,(h1.mem ha).2 hx,by rw [<-e]⟩
 have m2:∀c:α×β,(c∈if r2=0 then([]:List (α×β))else(U2 b).map fun y=> (a,y))↔r2≠0/\(dw (q+1) c.2/\eo b c.2)/\c.1=a:=fun c=>by
  split
  ·simp_all
  rw [db];constructor
  ·rintro⟨x,hx,rfl⟩;exact⟨by assumption,(h2.mem hb).1 hx,rfl⟩
  rintro⟨_,hx,e⟩;exact⟨c.2,(h2.mem hb).2 hx,by rw [<-e]⟩
 refine EK (hU.nd hm) ?_ fun c=>?_
 ·rw [List.nodup_append];refine⟨?_,?_,fun x hx y hy e=>?_⟩
  ·split
   ·simp
   exact zD (h1.nd ha) fun x _ y _ e=> (Prod.mk.inj e).1
  ·split
   ·simp
   exact zD (h2.nd hb) fun x _ y _ e=> (Prod.mk.inj e).2
  subst e;have hx:=(m1 x).1 hx;have hy:=(m2 x).1 hy;have:=hx.2.1.1;rw [hy.2.2]at this;have:=g1.one this ha;omega
 rw [hU.mem hm,jz,m1,m2];constructor
 ·rintro⟨hc,hle⟩;obtain⟨i,j,hi,hj,k1,k2,k3⟩:=(jv c hle).1 hc;have l1:=g1.lv ha k1 hle.1;have l2:=g2.lv hb k2 hle.2
  by_cases e:i=p
  ·subst e;obtain rfl:j=q+1:=by omega
   exact .inr ⟨by omega,⟨k2,hle.2⟩,(l1.2 O).symm⟩
  obtain rfl:i=p+1:=by omega
  obtain rfl:j=q:=by omega
  exact .inl ⟨by omega,⟨k1,hle.1⟩,(l2.2 O).symm⟩
 rintro(⟨k0,⟨k1,k2⟩,k3⟩ | ⟨k0,⟨k1,k2⟩,k3⟩)
 ·have hle:nj eh eo (a,b) c:=⟨k2,by rw [k3];exact g2.rf _⟩;exact⟨(jv c hle).2 ⟨p+1,q,by omega,by omega,k1,by rw [k3];exact hb,by omega⟩,hle⟩
 have hle:nj eh eo (a,b) c:=⟨by rw [k3];exact g1.rf _,k2⟩;exact⟨(jv c hle).2 ⟨p,q+1,by omega,by omega,by rw [k3];exact ha,k1,by omega⟩,hle⟩
end
section
variable {α β:Type} {n1 n2:Nat} {dv:Nat->α->Prop} {eh:α->α->Prop} {dw:Nat->β->Prop} {eo:β->β->Prop} {U1:α->List α} {U2:β->List β} {U:α×β->List (α×β)}
theorem Jk{p:Nat}(hp:p<=n1+n2){c:α×β}:xh (n1+1) (n2+1) dv dw p c↔∃i j,i<=n1/\j<=n2/\dv i c.1/\dw j c.2/\i+j=p:=by
 constructor
 ·rintro⟨hN,⟨e,_⟩ | ⟨i,j,hi,hj,⟨bX,a⟩,⟨im,b⟩,e⟩⟩
  ·omega
  exact⟨n1+1 - i,n2+1 - j,by omega,by omega,a,b,by omega⟩
 rintro⟨i,j,hi,hj,a,b,e⟩;exact⟨by omega,.inr ⟨n1+1 - i,n2+1 - j,by omega,by omega,⟨by omega,by rw [show n1+1 - (n1+1 - i)=i by omega];exact a⟩,⟨by omega,by rw [show n2+1 - (n2+1 - j)=j by omega];exact b⟩,by omega⟩⟩
theorem WK(g1:gF (n1+1) dv eh)(g2:gF (n2+1) dw eo)(h1:l9 dv eh U1)(h2:l9 dw eo U2)(hU:l9 (FX dv dw) (nj eh eo) U){o1:α}{o2:β}(k1:dv 0 o1)(k2:dw 0 o2):
 cU U (n1+1+ (n2+1)) (o1,o2)=cU U1 n1 o1*cU U2 n2 o2*jD (n1+1) (n2+1):=by
 rw [I8 h1 h2 (K1:=n1+1) (K2:=n2+1) (s:=0) (fun p q r1 r2 a b _ _ ha hb e1 e2 _=>stepG g1 g2 h1 h2 hU (m:=p+q) ⟨p,q,ha,hb,rfl⟩ ha hb (fun c _=>?_) e1 e2) _ (n1+1) (n2+1) 0 0 o1 o2 rfl (a7 _) (a7 _) k1 k2 (by omega) (by omega),AH g1 h1 n1 0 o1 k1 (by omega),AH g2 h2 n2 0 o2 k2 (by omega)];constructor
 ·rintro⟨i,j,a,b,e⟩;exact⟨i,j,g1.nB a,g2.nB b,a,b,e.symm⟩
 rintro⟨i,j,_,_,a,b,e⟩;exact⟨i,j,a,b,e.symm⟩
theorem WH(g1:gF (n1+1) dv eh)(g2:gF (n2+1) dw eo)(h1:l9 dv eh U1)(h2:l9 dw eo U2)(hU:l9 (tS dv dw) (nj eh eo) U){o1:α}{o2:β}(k1:dv 0 o1)(k2:dw 0 o2)(b1:∀(i:Nat) (a:α),dv i a->eh o1 a)(b2:∀(i:Nat) (a:β),dw i a->eo o2 a):
 cU U (n1+n2+1) (o1,o2)=cU U1 n1 o1*cU U2 n2 o2*jD n1 n2:=by
 have h0:tS dv dw 0 (o1,o2):= .inl ⟨O,k1,k2⟩;have hp:(U (o1,o2)).Perm ((U1 o1).flatMap fun v=> (U2 o2).map fun w=> (v,w)):=by
  refine EK (hU.nd h0) ?_ fun c=>?_
  ·have:∀l:List α,l.Nodup->(l.flatMap fun v=> (U2 o2).map fun w=> (v,w)).Nodup:=fun l=>by
    induction l with
    | nil=>intro _;simp
    | cons x l ih=>
     intro hn;rw [nt]at hn;rw [List.flatMap_cons,List.nodup_append];refine⟨zD (h2.nd k2) fun x _ y _ e=> (Prod.mk.inj e).2,ih hn.2,fun a ha b hb e=>?_⟩;subst e;obtain⟨w,_,rfl⟩:=db.1 ha;obtain⟨v,hv,hb⟩:=List.mem_flatMap.1 hb;obtain⟨w',_,e⟩:=db.1 hb;have:=(Prod.mk.inj e).1;subst this;exact hn.1 hv
   exact this _ (h1.nd k1)
  ·rw [hU.mem h0,List.mem_flatMap];constructor
   ·rintro⟨⟨e,_⟩ | ⟨i,j,hi,hj,a,b,e⟩,hle⟩
    ·omega
    ·obtain rfl:i=1:=by omega
     obtain rfl:j=1:=by omega
     exact⟨c.1,(h1.mem k1).2 ⟨a,hle.1⟩,db.2 ⟨c.2,(h2.mem k2).2 ⟨b,hle.2⟩,O⟩⟩
   ·rintro⟨v,hv,hvw⟩;obtain⟨w,Hk,rfl⟩:=db.1 hvw;have hv:=(h1.mem k1).1 hv;have hw:=(h2.mem k2).1 Hk;exact⟨.inr ⟨1,1,by omega,by omega,hv.1,hw.1,O⟩,⟨hv.2,hw.2⟩⟩
 have key:∀v∈U1 o1,∀w∈U2 o2,cU U (n1+n2) (v,w)=cU U1 n1 v*cU U2 n2 w*jD n1 n2:=fun v hv w hw=>by
  have hv:=((h1.mem k1).1 hv).1;have hw:=((h2.mem k2).1 hw).1;refine I8 h1 h2 (K1:=n1+1) (K2:=n2+1) (s:=1) (fun p q r1 r2 a b hp hq ha hb e1 e2 _=>stepG g1 g2 h1 h2 hU (m:=p+q - 1) (.inr ⟨p,q,hp,hq,ha,hb,by omega⟩) ha hb (fun c hc=>?_) e1 e2) _ n1 n2 1 1 v w O (bj _) (bj _) hv hw (by omega) (by omega);constructor
  ·rintro(⟨e,_⟩ | ⟨i,j,hi,hj,a,b,e⟩)
   ·omega
   ·exact⟨i,j,g1.nB a,g2.nB b,a,b,by omega⟩
  ·rintro⟨i,j,_,_,a,b,e⟩;have:=(g1.lv ha a hc.1).1;have:=(g2.lv hb b hc.2).1;exact .inr ⟨i,j,by omega,by omega,a,b,by omega⟩
 show((U (o1,o2)).map (cU U (n1+n2))).sum=_;rw [E3 (hp.map _),List.map_flatMap];have fl:∀l:List α,(∀v∈l,v∈U1 o1)->(l.flatMap fun v=> ((U2 o2).map fun w=> (v,w)).map (cU U (n1+n2))).sum=(l.map (cU U1 n1)).sum*cU U2 (n2+1) o2*jD n1 n2:=fun l=>by
  induction l with
  | nil=>intro _;simp
  | cons v l ih=>
   intro hl;rw [List.flatMap_cons,List.sum_append,ih fun x hx=>hl x (pj _ hx),List.map_map,List.map_cons,List.sum_cons];have:((U2 o2).map (cU U (n1+n2)∘fun w=> (v,w))).sum=((U2 o2).map fun w=>cU U2 n2 w* (cU U1 n1 v*jD n1 n2)).sum:=CD fun w hw=>by
    show cU U (n1+n2) (v,w)=_;rw [key v (hl v (List.mem_cons_self ..)) w hw,Nat.mul_comm (cU U1 n1 v),Nat.mul_assoc]
   rw [this,Mo];show cU U2 (n2+1) o2*_+_=_;rw [Nat.add_mul,Nat.add_mul,Nat.mul_comm (cU U1 n1 v) (cU U2 (n2+1) o2),Nat.mul_assoc (cU U2 (n2+1) o2)]
 rw [fl _ fun v h=>h];show cU U1 (n1+1) o1*cU U2 (n2+1) o2*jD n1 n2=_;rw [AH g1 h1 n1 0 o1 k1 (by omega),AH g2 h2 n2 0 o2 k2 (by omega)]
theorem WL(g1:gF (n1+1) dv eh)(g2:gF (n2+1) dw eo)(h1:l9 dv eh U1)(h2:l9 dw eo U2)(hU:l9 (xh (n1+1) (n2+1) dv dw) (nj eh eo) U){o1:α}{o2:β}(k1:dv 0 o1)(k2:dw 0 o2):
 cU U (n1+n2) (o1,o2)=cU U1 n1 o1*cU U2 n2 o2*jD n1 n2:=by
 refine I8 h1 h2 (K1:=n1) (K2:=n2) (s:=0) (fun p q r1 r2 a b _ _ ha hb e1 e2 _=>stepG g1 g2 h1 h2 hU (m:=p+q) ((Jk (by omega)).2 ⟨p,q,by omega,by omega,ha,hb,O⟩) ha hb (fun c _=>?_) e1 e2) _ n1 n2 0 0 o1 o2 O (a7 _) (a7 _) k1 k2 (by omega) (by omega);exact Jk (by omega)
end
section
variable {m1 m2 n1 n2:Nat} {rk1 rk2:Int->Int} {b9 b6:Int->Int->Prop} [DecidableRel b9] [DecidableRel b6] {kind:Int} {U1 U2:Int->ai}
theorem afe(h1:fz m1 n1 rk1 b9)(h2:fz m2 n2 rk2 b6)(b1:tF m1 rk1 b9)(b2:tF m2 rk2 b6)(e1:l9 (jX m1 rk1) b9 U1)(e2:l9 (jX m2 rk2) b6 U2)(nN:0<=kind/\kind<=2){k:Nat}(hk:(k:Int)=iw n1 n2 kind)(fK:1<=k):(aD k ((b5 m1 m2 rk1 rk2 kind k).map (cg rk1 rk2 kind)) (nX b9 b6 (b5 m1 m2 rk1 rk2 kind k))).length=cU U1 n1 0*cU U2 n2 0* (if kind=0 then jD (n1+1) (n2+1)else jD n1 n2):=by
 have g1:=h1.Bl b1;have g2:=h2.Bl b2;have o1:jX m1 rk1 0 0:=⟨⟨by omega,by have:=h1.two;omega⟩,by rw [h1.r0];rfl⟩;have o2:jX m2 rk2 0 0:=⟨⟨by omega,by have:=h2.two;omega⟩,by rw [h2.r0];rfl⟩;have hr:∀e:Int,0<=e->e< ((b5 m1 m2 rk1 rk2 kind k).map (cg rk1 rk2 kind)).length->gi ((b5 m1 m2 rk1 rk2 kind k).map (cg rk1 rk2 kind)) e<k:=fun e h0 h9=>by
  rw [fk]at h9;obtain⟨i,hi,_,e⟩:=uY ⟨h0,h9⟩;rw [e];omega
 rcases(show kind=0\/kind=1\/kind=2 by omega)with rfl | rfl | rfl
 ·have e:(k:Int)=n1+n2+1:=hk;have g:=RU g1 g2;have g':=g;rw [show n1+1+ (n2+1)=k+1 by omega]at g';have rp:=Cv (kind:=0) h1 h2 fK g' (fun i _ c=>N8 h1 h2) (fun c d=>Iff.rfl);obtain⟨U,hU⟩:=rp.en hr;rw [rp.flags hU (o:=(0,0)) ⟨0,0,o1,o2,rfl⟩ fun i a _=> ⟨h1.bot _,h2.bot _⟩,<-AH g' hU k 0 (0,0) ⟨0,0,o1,o2,rfl⟩ (by omega),ay rfl,<-WK g1 g2 e1 e2 hU o1 o2,show n1+1+ (n2+1)=k+1 by omega]
 ·have e:(k:Int)=n1+n2:=hk;have g:=FG g1 g2 (by omega) (by omega);have g':=g;rw [show n1+1+ (n2+1) - 1=k+1 by omega]at g';have rp:=Cv (kind:=1) h1 h2 fK g' (fun i _ c=>N7 h1 h2) (fun c d=>Iff.rfl);obtain⟨U,hU⟩:=rp.en hr;have ho:tS (jX m1 rk1) (jX m2 rk2) 0 (0,0):= .inl ⟨O,o1,o2⟩;rw [rp.flags hU (o:=(0,0)) ho fun i a _=> ⟨h1.bot _,h2.bot _⟩,<-AH g' hU k 0 (0,0) ho (by omega),aw (by omega),<-WH g1 g2 e1 e2 hU o1 o2 (fun _ a _=>h1.bot a) (fun _ a _=>h2.bot a),show n1+n2+1=k+1 by omega]
 have e:(k:Int)=n1+n2:=hk;have g:=(FG g1.oU g2.oU (by omega) (by omega)).oU;have hg:gF (k+1) (xh (n1+1) (n2+1) (jX m1 rk1) (jX m2 rk2)) (nj b9 b6):=by
  have:=g;rw [show n1+1+ (n2+1) - 1=k+1 by omega]at this;unfold xh;rw [show n1+1+ (n2+1) - 1=k+1 by omega];exact this
 have rp:=Cv (kind:=2) h1 h2 fK hg (fun i hi c=>N9 h1 h2 (by omega)) (fun c d=>Iff.rfl);obtain⟨U,hU⟩:=rp.en hr;have ho:xh (n1+1) (n2+1) (jX m1 rk1) (jX m2 rk2) 0 (0,0):=(Jk (by omega)).2 ⟨0,0,by omega,by omega,o1,o2,O⟩;rw [rp.flags hU (o:=(0,0)) ho fun i a _=> ⟨h1.bot _,h2.bot _⟩,aw (by omega),<-WL g1 g2 e1 e2 hU o1 o2,show n1+n2=k by omega]
end
end
section
open Go.RowKit
section
variable {P:Program} {N:Nat} {ops:Array Oper} {K:Env->aa->Prop} {rest:List Oper} {e:Env} {w:aa} {d:Nat} {ty:ae} {pos:String} {af:Array Edge} {x y:ag} {xt yt:ae} {i:Int}
theorem C3{k:IntKind}(hx:ev e x= .int .u64 i)(hy:ev e y= .int k 1)(hb:Nat.blt d N=true)(h0:0<=i)(hK:ao P N ops K rest (bq e d (.int .u64 (i / 2))) w):
 ao P N ops K (⟨some d,.binOp .shr xt x y yt,ty,pos,af,none⟩::rest) e w:=by
 refine .val (v:= .int .u64 (i / 2)) ?_ hb hK;have e1:min 1 IntKind.u64.bits=1:=by decide
 have e2:i.fdiv 2=i / 2:=Int.fdiv_eq_ediv_of_nonneg _ (by decide);simp [execOp,hx,hy,eqGuard,binOp,Op.shift,e1,e2]
end
section
variable {w:aa} {e:Env}
theorem Ma{R:ad->aa->Prop}{t u:Nat}{b:Bool}{k:IntKind}{i:Int}(h:e t= .int k i)(h2:e u= .bool b)(hR:R (.tuple #[.int k i,.bool b]) w):Cw t u R .ret e w:=by show R (.tuple #[e t,e u]) w;rw [h,h2];exact hR
end
theorem WG(x:Int)(w:aa):aG prog 233 [ak x] w (fun v w'=>v= .bool (decide (¬x=x))/\w'=w):=by
 refine bA func233 O ntmps233 O (cJ O) (Fg O (dK O ?_));exact⟨O,O⟩
theorem NN(x y:Int)(w:aa):aG prog 186 [ak x,ak y] w (fun v w'=>v= .bool (decide (x<y))/\w'=w):=by
 refine bA func186 O ntmps186 O (cJ O) (a8 O (aL (WG x w) O ?_));rintro _ _ ⟨rfl,rfl⟩;refine ar O (dp 7 O (fun h=>absurd O h) (fun _=>?_));refine aQ O (aQ O (aQ O (ar O (ax O (ar O (ax O (ar O (ax O (bM O ?_)))))))));exact dK O ⟨O,O⟩
theorem agu(x:Int)(w:aa):aG prog 187 [ak x] w (fun v w'=>v= .bool (decide (¬x=x))/\w'=w):=by
 refine bA func187 O ntmps187 O (cJ O) (Fg O (dK O ?_));exact⟨O,O⟩
theorem Nx(A:aj)(n c:Nat)(xs:ai)(x:Int)(w:aa)(hR:cn w A n xs)(hs:SA xs)(hn:n<=1000000000):
 aG prog 116 [.slice A n c,ak x] w (fun v w'=> (∃k:Int,v= .tuple #[ak k,.bool (decide (x∈xs))])/\w'=w):=by
 have gP:=hR.1;refine bA func116 O ntmps116 O (rA O) ?_;refine a8 O (bc O O (aI O ?_));refine Cd.loop (α:=Nat×Nat) (fun z=> [(0,.slice A n c),(1,ak x),(6,ak n),(7,ak (z.1:Int)),(8,ak (z.2:Int))]) (fun z w'=>w'=w/\z.1<=z.2/\z.2<=n/\(∀p:Nat,p<z.1->gi xs p<x)/\∀p:Nat,z.2<=p->p<n->x<=gi xs p) (fun z=>z.2 - z.1) (0,n) (ajs O) ⟨O,a7 _,bj _,fun p hp=>absurd hp (sQ _),fun p hp jj=>by have hp:n<=p:=hp;omega⟩ ?_;rintro⟨i,j⟩ e w ⟨rfl,gU,pB,eB,cC⟩;dsimp only at gU pB eB cC|-;refine bL O (aR _ O (fun h1=>?_) (fun h1=>?_))
 ·refine aE O (aK O ?_);refine oN O O (vt _ (by omega)) (C3 O O O (by omega) (oN O O (IntWalk.i64_in _ (by omega)) ?_));obtain⟨h,hh⟩:∃h:Nat,h=(i+j) / 2:=⟨_,rfl⟩;rw [show((i:Int)+ (j:Int)) / 2=(h:Int) by omega];refine ar O (aM hR.2 O (bk hR O (ar O (aL (NN _ _ _) O ?_))));rintro _ _ ⟨rfl,rfl⟩;refine aI O (aR _ O (fun h2=>?_) (fun h2=>?_))
  ·refine aE O (aK O (aU O (tQ ?_)));refine⟨(h+1,j),by show j - (h+1)<j - i;omega,(ajs O),O,by show h+1<=j;omega,pB,fun p hp=>?_,cC⟩;have hp:p<h+1:=hp
   by_cases e:p=h
   ·subst e;exact h2
   have:=hs.x6 (show p<h by omega) (by omega);omega
  refine oc O (tQ ?_);refine⟨(i,h),by show h - i<j - i;omega,(ajs O),O,by show i<=h;omega,by show h<=n;omega,eB,fun p hp jj=>?_⟩;have hp:h<=p:=hp
  by_cases e:p=h
  ·subst e;omega
  have:=hs.x6 (show h<p by omega) (by omega);omega
 obtain rfl:i=j:=by omega
 have gV:∀p:Nat,p<n->gi xs p=x->p=i:=fun p hp hx=>by
  rcases Nat.lt_trichotomy p i with h | h | h
  ·have:=eB p h;omega
  ·exact h
  have h3:=hs.x6 h (by omega);have h4:=cC i (bj _) (by omega);omega
 have jQ:x∈xs↔i<n/\gi xs i=x:=by
  constructor
  ·intro hm;obtain⟨p,hp,e⟩:=fJ.1 hm;have e2:gi xs p=x:=by rw [bO hp];exact e
   have:=gV p (by omega) e2;subst this;exact⟨by omega,e2⟩
  rintro⟨h2,h3⟩;rw [<-h3];exact gi_in (by omega)
 refine bw O (bz (dh O ?_));refine dp 35 O (fun h2=>?_) (fun h2=>?_)
 ·refine ax O (ar O (ax O (ar O (ax O ?_))));refine aM hR.2 O (ax O (bk hR O ?_));refine ax O (ar O (ax O (ar O (ax O (ar O ?_)))));refine dp 42 O (fun h3=>?_) (fun h3=>?_)
  ·refine aQ O (aQ O (aQ O (aQ O (aQ O (aQ O (fm O O O O (fm O O O O (aQ O (ax O (bM O ?_))))))))));refine Ma O O ?_;exact⟨⟨_,by rw [eM (jQ.2 ⟨by omega,h3⟩)]⟩,O⟩
  refine ax O (ar O (ax O (ar O (ax O ?_))));refine aM hR.2 O (ax O (bk hR O (ax O (aL (agu _ _) O ?_))));rintro _ _ ⟨rfl,rfl⟩;refine ax O (ar O ?_);refine dp 48 O (fun h=>absurd O h) (fun _=>?_);refine aQ O (aQ O (ax O (ar O (ax O (bM O ?_)))));refine Ma O O ?_;exact⟨⟨_,by rw [dE (fun h=>h3 (jQ.1 h).2)]⟩,O⟩
 refine aQ O (aQ O (aQ O (aQ O (aQ O (aQ O (aQ O (fm O O O O (fm O O O O (fm O O O O (fm O O O O (fm O O O O ?_)))))))))));refine fm O O O O (fm O O O O (fm O O O O (fm O O O O (aQ O (bM O ?_)))));refine Ma O O ?_;exact⟨⟨_,by rw [dE (fun h=>by have:=(jQ.1 h).1;omega)]⟩,O⟩
theorem RK(P A D:aj)(cA r cD:Nat)(n:Int)(N:Nat)(rs:List aN)(B:ah)(e f:Int)(w:aa)(hP:Rd w P 3 (fun j=> [Value.int .i64 n,.slice A r cA,.slice D N cD].getD j undef))(hB:br w D N rs B)(qT:B.length=N)(hf:0<=f/\f<N)(hs:SA (gl B f))(hl:(gl B f).length<=1000000):
 aG prog 107 [.pointer P,ak e,ak f] w (fun v w'=>v= .bool (decide (e∈gl B f))/\w'=w):=by
 have cT:=hB.at_ (i:=f) hf.1 hf.2;have ni:=cT.1;refine bA func107 O ntmps107 O (cJ O) (a8 O ?_);refine lq hP (by decide) O O (aX hP O (bn hP O (ar O (aM hB.top.2 O (dI hB.top O (ar O (aL (Nx _ _ _ (gl B f) e w cT hs (by omega)) O ?_)))))));rintro _ _ ⟨⟨k,rfl⟩,rfl⟩;refine bM O (dK O ?_);exact⟨O,O⟩
theorem ur(P A D:aj)(cA cD:Nat)(n:Int)(R:ai)(rs:List aN)(B:ah)(e f:Int)(w:aa)(hP:Rd w P 3 (fun j=> [Value.int .i64 n,.slice A R.length cA,.slice D B.length cD].getD j undef))(hB:br w D B.length rs B)(hf:0<=f/\f<B.length)(hs:SA (gl B f))(hl:(gl B f).length<=1000000):
 aG prog 107 [.pointer P,ak e,ak f] w (fun v w'=>v= .bool (decide (e∈gl B f))/\w'=w):=
 RK P A D cA R.length cD n B.length rs B e f w hP hB rfl hf hs hl
theorem LO{t1 t2:ae}{A:aj}{n c:Nat}{rs:List aN}{xss:ah}{ks:List Ck}{q:Ck}{i:Nat}(s:aN)(xs:ai)(hr:rs.length=xss.length)(hi:i<rs.length):(q::(aT t1 t2 A n c rs xss++ks)).set (2+i) (az t2 s.a s.n s.c xs)=q::(cd t1 A n c rs::(du t2 (rs.set i s) (xss.set i xs)++ks)):=by
 rw [show 2+i=i+1+1 by omega,List.set_cons_succ];show _::(cd t1 A n c rs::(du t2 rs xss++ks)).set (i+1) _=_;rw [List.set_cons_succ,List.set_append_left _ _ (by rw [zP hr];exact hi),Mf hr]
def jF(M:ah)(i f:Nat):ah:=(List.range (gl M 0).length).map fun g=> (List.range (if g<f then i+1 else i)).map fun k=>bh M k g
def oW(M:ah):ah:=(List.range (gl M 0).length).map fun g=> (List.range M.length).map fun k=>bh M k g
theorem F9(M:ah)(i f:Nat):(jF M i f).length=(gl M 0).length:=by simp [jF]
theorem XW(M:ah)(f:Nat)(h:f=0):jF M 0 f=List.replicate (gl M 0).length []:=by
 subst h;apply jo (by simp [jF]);intro i h1 h2;simp [jF]
theorem XU(M:ah)(i:Nat):jF M i (gl M 0).length=jF M (i+1) 0:=by
 unfold jF;refine od fun g hg=>?_
 rw [ay (fU.1 hg),aw (sQ _)]
theorem XT(M:ah):jF M M.length 0=oW M:=by
 unfold jF oW;exact od fun g _=>by rw [aw (sQ _)]
theorem F8{M:ah}{i f g:Nat}(hg:g< (gl M 0).length):gl (jF M i f) g=(List.range (if g<f then i+1 else i)).map fun k=>bh M k g:=by
 rw [bP (by rw [F9];exact hg)];simp [jF]
theorem XV{M:ah}{i f:Nat}(hf:f< (gl M 0).length):(jF M i f).set f (gl (jF M i f) f++ [bh M i f])=jF M i (f+1):=by
 apply jo (by simp [jF]);intro g h1 h2;have hg:g< (gl M 0).length:=by rw [F9]at h2;exact h2
 rw [List.getElem_set];have e:(jF M i (f+1))[g]=gl (jF M i (f+1)) g:=by rw [bP h2]
 rw [e,F8 hg]
 by_cases h:f=g
 ·subst h;rw [ay rfl,ay (by omega),F8 hg,aw (by omega),lN,jb];rfl
 rw [aw h];have e2:(jF M i f)[g]'(by rw [F9];exact hg)=gl (jF M i f) g:=by rw [bP]
 rw [e2,F8 hg]
 by_cases h3:g<f
 ·rw [ay h3,ay (by omega)]
 rw [aw h3,aw (by omega)]
theorem HD{M:ah}:∀i,aF M i<=i* (gl M 0).length
 | 0=>a7 _
 | i+1=>by
  have h1:=HD (M:=M) i;have h2:=vJ M i;show aF M i+ (fA M i).toNat<=_;rw [Nat.succ_mul];omega
theorem VR(Ab A:aj)(n c:Nat)(rs:List aN)(M:ah)(w:aa)(hB:Rd w Ab 1 (fun _=> .slice A n c))(hR:br w A n rs M)(hM:aZ M):
 aG prog 129 [.pointer Ab] w (fun v w'=>∃A' rs',v= .slice A' (gl M 0).length (gl M 0).length/\rs'.length=(gl M 0).length/\St w w' (aT 24 2 A' (gl M 0).length (gl M 0).length rs' (oW M)++ [])):=by
 have hl:=hR.len;have h1:=hM.1;have h2:=hM.2.1;have e0:(rg rs 0).n=(gl M 0).length:=(hR.oG (by omega) (by omega)).symm;have xO:∀i,i<=n->aF M i<=2000:=fun i hi=>by
  have h3:=HD (M:=M) i;have h4:i* (gl M 0).length<=5*400:=Nat.mul_le_mul (by omega) (by omega);omega
 generalize hF:(gl M 0).length=F at*;refine bA func129 O ntmps129 O (cJ O) (a8 O (aL (sY Ab A n c rs M _ w hB O hR (by omega)) O ?_));rintro _ w ⟨rfl,rfl⟩;rw [e0];refine Iu F (St.refl w) O O (by omega) ?_;intro A3 w1 aA;have aA:St w w1 (aT 24 2 A3 F F (List.replicate F ew) (List.replicate F [])):=HB F aA;refine ar O (aL (zM Ab A n c _ _ (aA.qt hB) O) O ?_);rintro _ w1 ⟨rfl,rfl⟩;refine aI O ?_;refine Cd.loop (α:=Nat×List aN) (fun z=> [(0,.pointer Ab),(3,.slice A3 F F),(4,ak (aF M z.1:Int)),(14,ak n),(15,ak (z.1:Int))]) (fun z w'=>z.1<=n/\z.2.length=F/\St w w' (aT 24 2 A3 F F z.2 (jF M z.1 0)++ [])) (fun z=>n - z.1) (0,List.replicate F ew) (ajs O) ⟨a7 _,by simp,by rw [XW M 0 O,hF,fM];exact aA⟩ ?_;clear aA;rintro⟨i,Cz⟩ e w2 ⟨hi,bU,hS⟩;dsimp only at hi bU hS|-;have QW:=xO i hi;refine bL O (aR _ O (fun h3=>?_) (fun h3=>?_))
 ·have bW:i<n:=by omega
  have tk:=xO (i+1) (by omega);have kI:=vJ M i;have zp:aF M (i+1)=aF M i+ (fA M i).toNat:=O;refine aE O (aL (On Ab A n c rs M i _ (hS.qt hB) (hS.bY hR) hM bW) O ?_);rintro _ w3 ⟨A6,rfl,au⟩;have aH:=(hS.call au).perm (me (l₁:=[az 2 A6 (gl M 0).length (gl M 0).length (bV M i)]));rw [hF]at aH|-;clear au hS;refine ar O (bc O O (aI O ?_));refine Cd.loop (α:=Nat×List aN) (fun z=> [(0,.pointer Ab),(3,.slice A3 F F),(4,ak (aF M i:Int)),(7,ak (fA M i)),(14,ak n),(15,ak i),(24,.slice A6 F F),(5,ak i),(25,ak F),(26,ak (z.1:Int))]) (fun z w'=>z.1<=F/\z.2.length=F/\St w w' (aT 24 2 A3 F F z.2 (jF M i z.1)++ [az 2 A6 F F (bV M i)])) (fun z=>F - z.1) (0,Cz) (ajs O) ⟨a7 _,bU,by simpa using aH⟩ ?_;clear aH;rintro⟨f,da⟩ e w4 ⟨hf,tn,aV⟩;dsimp only at hf tn aV|-;have Qu:=F9 M i f;rw [hF]at Qu;refine bL O (aR _ O (fun h4=>?_) (fun h4=>?_))
  ·have si:f<F:=by omega
   have mm:=St.tx aV Qu;have km:(aT 24 2 A3 F F da (jF M i f)++ [az 2 A6 F F (bV M i)])[F+1]?=some (az 2 A6 F F (bV M i)):=by
    rw [lM (by rw [Sk (by omega)];omega),Sk (by omega),tn,Nat.sub_self];rfl
   have GX:cn w4 A6 F (bV M i):=aV.bI (F+1) km;have hin2:=oV hM (i:=i) (f:=f) (by omega);have aai:(aF M i:Int)+gi (bV M i) f=bh M i f:=O;have cT:=mm.at_ (i:=(f:Int)) (by omega) (by omega);have ni:(rg da f).n<=5:=by
    have:=cT.1;rw [<-this,F8 (by omega),aw (by omega)];simp;omega
   refine aE O (aM GX.2 O (bk GX O (ar O (aM mm.top.2 O (dI mm.top O ?_)))));refine ar O (aK O ?_);refine eH aV O O O ?_;intro AQ wQ hQ;have q9:(az 2 AQ 1 1 [((aF M i:Int)+gi (bV M i) f)]::(aT 24 2 A3 F F da (jF M i f)++ [az 2 A6 F F (bV M i)]))[2+f]?=some (az 2 (rg da f).a (rg da f).n (rg da f).c (gl (jF M i f) f)):=by
    have h0:=Ez (t1:=24) (t2:=2) (A:=A3) (n:=F) (c:=F) (rs:=da) (xss:=(jF M i f)) (pre:=[az 2 AQ 1 1 [((aF M i:Int)+gi (bV M i) f)]]) (ks:=[az 2 A6 F F (bV M i)]) (i:=f) (by omega) (by omega);exact h0
   refine fN (2+f) hQ q9 (hQ.bI 0 O) O O O ?_;intro AZ cZ wZ hZ;rw [LO ⟨AZ,(rg da f).n+1,cZ⟩ (gl (jF M i f) f++ [((aF M i:Int)+gi (bV M i) f)]) (by omega) (by omega)]at hZ;have PR:lQ wZ A3 F da:=hZ.gQ 1 O;refine aM PR.2 O (C5 (te:=24) (n:=F) (c:=F) (A:=A3) (xs:=da) 1 hZ O O O (by omega) ?_);intro wY hY;have aW:St w wY (aT 24 2 A3 F F (da.set f ⟨AZ,(rg da f).n+1,cZ⟩) ((jF M i f).set f (gl (jF M i f) f++ [((aF M i:Int)+gi (bV M i) f)]))++ [az 2 A6 F F (bV M i)]):=St.tail hY;clear hY PR hZ q9 hQ;rw [aai,XV (by omega)]at aW;refine ar O (aK O (aU O (tQ ?_)));exact⟨(f+1,_),by show F - (f+1)<F - f;omega,(ajs O),by show f+1<=F;omega,by simp [tn],aW⟩
  have si:f=F:=by omega
  subst si;have iC:=XU M i;rw [hF]at iC;rw [iC]at aV;refine bw O (bz (dh O (aK O (ar O (aK O (aU O (tQ ?_)))))));exact⟨(i+1,da),by show n - (i+1)<n - i;omega,⟨O,O,by show Value.int .i64 ((aF M i:Int)+fA M i)=ak ((aF M (i+1):Nat):Int);congr 1;omega,O,O,av⟩,by show i+1<=n;omega,tn,aV.sub (List.Sublist.append_left (List.nil_sublist _) _)⟩
 have bW:i=n:=by omega
 subst bW;have he:=XT M;rw [hl]at he;rw [he]at hS;refine bw O (bz (gE O ?_));exact gD O ⟨A3,Cz,O,bU,hS⟩
theorem adw{a b:ai}{k:Nat}(ha:k<a.length)(hb:k<b.length):gJ (a.drop k) (b.drop k)=if mM (gi a k) (gi b k)=0 then gJ (a.drop (k+1)) (b.drop (k+1))else mM (gi a k) (gi b k):=by
 rw [List.drop_eq_getElem_cons ha,List.drop_eq_getElem_cons hb,bO ha,bO hb]
 rfl
theorem adu{a b:ai}{k:Nat}(ha:k<a.length)(hb:b.length<=k):gJ (a.drop k) (b.drop k)=1:=by
 rw [List.drop_eq_getElem_cons ha,List.drop_of_length_le hb]
 rfl
theorem adt{a b:ai}{k:Nat}(ha:a.length<=k):gJ (a.drop k) (b.drop k)=if k<b.length then -1 else 0:=by
 rw [List.drop_of_length_le ha]
 split
 ·rename_i h;rw [List.drop_eq_getElem_cons h]
  rfl
 rename_i h;rw [List.drop_of_length_le (by omega)]
 rfl
theorem ads{a b:ah}{k:Nat}(ha:k<a.length)(hb:k<b.length):iD (a.drop k) (b.drop k)=if gJ (gl a k) (gl b k)=0 then iD (a.drop (k+1)) (b.drop (k+1))else gJ (gl a k) (gl b k):=by
 rw [List.drop_eq_getElem_cons ha,List.drop_eq_getElem_cons hb,bP ha,bP hb]
 rfl
theorem adr{a b:ah}{k:Nat}(ha:k<a.length)(hb:b.length<=k):iD (a.drop k) (b.drop k)=1:=by
 rw [List.drop_eq_getElem_cons ha,List.drop_of_length_le hb]
 rfl
theorem adq{a b:ah}{k:Nat}(ha:a.length<=k):iD (a.drop k) (b.drop k)=if k<b.length then -1 else 0:=by
 rw [List.drop_of_length_le ha]
 split
 ·rename_i h;rw [List.drop_eq_getElem_cons h]
  rfl
 rename_i h;rw [List.drop_of_length_le (by omega)]
 rfl
theorem Eu(x:Int)(w:aa):aG prog 233 [ak x] w (fun v w'=>v= .bool false/\w'=w):=by
 refine bA func233 O ntmps233 O (cJ O) (Fg O (dK O ?_));exact⟨by simp,O⟩
theorem WA(x y:Int)(w:aa):aG prog 260 [ak x,ak y] w (fun v w'=>v=ak (mM x y)/\w'=w):=by
 refine bA func260 O ntmps260 O (cJ O) (a8 O (aL (Eu _ _) O ?_));rintro _ w ⟨rfl,rfl⟩;refine ar O (aL (Eu _ _) O ?_);rintro _ w ⟨rfl,rfl⟩;refine aI O (Cd.gh O (dA O (Cd.gh O (dA O ?_))));refine aR _ O (fun h1=>?_) (fun h1=>?_)
 ·refine eT O (gY O ?_);exact⟨by rw [mM,ay h1],O⟩
 refine dA O (aR _ O (fun h2=>?_) (fun h2=>?_))
 ·refine eT O (gY O ?_);exact⟨by rw [mM,aw h1,ay h2],O⟩
 refine eT O (gY O ?_);exact⟨by rw [mM,aw h1,aw h2],O⟩
theorem ML(A:aj)(n c:Nat)(xs:ai)(A':aj)(n' c':Nat)(ys:ai)(w:aa)(hX:cn w A n xs)(hY:cn w A' n' ys)(hn:n<=9223372036854775807):
 aG prog 203 [.slice A n c,.slice A' n' c'] w (fun v w'=>v=ak (gJ xs ys)/\w'=w):=by
 have gP:=hX.1;have zy:=hY.1;refine bA func203 O ntmps203 O (cJ O) ?_;refine a8 O (bc O O (aI O ?_));refine Cd.loop (α:=Nat) (fun k=> [(0,.slice A n c),(1,.slice A' n' c'),(9,.slice A n c),(10,ak n),(11,ak k)]) (fun k w'=>w'=w/\k<=n/\k<=n'/\gJ xs ys=gJ (xs.drop k) (ys.drop k)) (fun k=>n - k) 0 (ajs O) ⟨O,a7 _,a7 _,O⟩ ?_;rintro k e w ⟨rfl,hk,eN,hK⟩;refine bL O (aR _ O (fun h1=>?_) (fun h1=>?_))
 ·refine aE O (aM hX.2 O (bk hX O ?_));refine ar O (bc O O (aI O ?_));refine aR _ O (fun h2=>?_) (fun h2=>?_)
  ·refine eT O (gx (fV ?_));refine gY O ?_;exact⟨by rw [hK,adu (by omega) (by omega)],O⟩
  rw [adw (by omega) (by omega)]at hK;refine aE O (aM hY.2 O (bk hY O (ar O (aL (WA _ _ _) O ?_))));rintro _ w ⟨rfl,rfl⟩;refine aI O (aR _ O (fun h3=>?_) (fun h3=>?_))
  ·refine eT O (gx (fV ?_));refine gY O ?_;exact⟨by rw [hK,aw h3],O⟩
  rw [ay (iy.1 h3)]at hK;refine aE O (aK O (aU O (tQ ?_)));exact⟨k+1,by show n - (k+1)<n - k;omega,(ajs O),O,by omega,by omega,hK⟩
 rw [adt (by omega)]at hK;have kl:k=n:=by omega
 subst kl;refine bw O (bz (dh O (bc O O (ar O (bc O O (aI O ?_))))));refine aR _ O (fun h2=>?_) (fun h2=>?_)
 ·refine eT O (gY O ?_);exact⟨by rw [hK,ay (by omega)],O⟩
 refine eT O (gY O ?_);exact⟨by rw [hK,aw (by omega)],O⟩
theorem UE(A:aj)(n c:Nat)(rs:List aN)(xss:ah)(A':aj)(n' c':Nat)(rs':List aN)(dZ:ah)(w:aa)(hX:br w A n rs xss)(hY:br w A' n' rs' dZ)(hn:n<=9223372036854775807):
 aG prog 202 [.slice A n c,.slice A' n' c',.func (.func 203) #[] #[]] w (fun v w'=>v=ak (iD xss dZ)/\w'=w):=by
 have gP:=hX.len;have zy:=hY.len;refine bA func202 O ntmps202 O (cJ O) ?_;refine a8 O (bc O O (aI O ?_));refine Cd.loop (α:=Nat) (fun k=> [(0,.slice A n c),(1,.slice A' n' c'),(2,.func (.func 203) #[] #[]),(11,.slice A n c),(12,ak n),(13,ak k)]) (fun k w'=>w'=w/\k<=n/\k<=n'/\iD xss dZ=iD (xss.drop k) (dZ.drop k)) (fun k=>n - k) 0 (ajs O) ⟨O,a7 _,a7 _,O⟩ ?_;rintro k e w ⟨rfl,hk,eN,hK⟩;refine bL O (aR _ O (fun h1=>?_) (fun h1=>?_))
 ·have Rl:=hX.at_ (i:=(k:Int)) (by omega) h1;have xL:=hX.oG (k:=(k:Int)) (by omega) h1;have jw:=hX.cap_ (i:=(k:Int)) (by omega) h1;refine aE O (aM hX.top.2 O (dI hX.top O ?_));refine ar O (bc O O (aI O ?_));refine aR _ O (fun h2=>?_) (fun h2=>?_)
  ·refine eT O (gx (fV ?_));refine gY O ?_;exact⟨by rw [hK,adr (by omega) (by omega)],O⟩
  rw [ads (by omega) (by omega)]at hK;have Hd:=hY.at_ (i:=(k:Int)) (by omega) (by omega);refine aE O (aM hY.top.2 O (dI hY.top O (ar O (aL (ML _ _ _ _ _ _ _ _ _ Rl Hd (by omega)) O ?_))));rintro _ w ⟨rfl,rfl⟩;refine aI O (aR _ O (fun h3=>?_) (fun h3=>?_))
  ·refine eT O (gx (fV ?_));refine gY O ?_;exact⟨by rw [hK,aw h3],O⟩
  rw [ay (iy.1 h3)]at hK;refine aE O (aK O (aU O (tQ ?_)));exact⟨k+1,by show n - (k+1)<n - k;omega,(ajs O),O,by omega,by omega,hK⟩
 rw [adq (by omega)]at hK;have kl:k=n:=by omega
 subst kl;refine bw O (bz (dh O (bc O O (ar O (bc O O (aI O ?_))))));refine aR _ O (fun h2=>?_) (fun h2=>?_)
 ·refine eT O (gY O ?_);exact⟨by rw [hK,ay (by omega)],O⟩
 refine eT O (gY O ?_);exact⟨by rw [hK,aw (by omega)],O⟩
theorem WQ(A:aj)(n c:Nat)(rs:List aN)(xss:ah)(A':aj)(n' c':Nat)(rs':List aN)(dZ:ah)(w:aa)(hX:br w A n rs xss)(hY:br w A' n' rs' dZ)(hn:n<=9223372036854775807):
 aG prog 139 [.agg #[.slice A n c],.agg #[.slice A' n' c']] w (fun v w'=>v=ak (iD xss dZ)/\St w w' []/\w.drawn<=w'.drawn):=by
 refine bA func139 O ntmps139 O (cJ O) (a8 O (MX (St.refl w) O O ?_));intro Ab w1 DW aA;refine MX aA O O fun Ac w2 Z0 aB=>ar O (aX (aB.rd 1 O) O (bn (aB.rd 1 O) O (aX (aB.rd 0 O) O (bn (aB.rd 0 O) O (aL (UE A n c rs xss A' n' c' rs' dZ _ (aB.bY hX) (aB.bY hY) hn) O ?_)))));rintro _ w3 ⟨rfl,rfl⟩;refine bM O (gY O ?_);exact⟨O,aB.none,nv DW Z0⟩
theorem WO(A:aj)(n c:Nat)(rs:List aN)(xss:ah)(A':aj)(n' c':Nat)(rs':List aN)(dZ:ah)(w:aa)(hX:br w A n rs xss)(hY:br w A' n' rs' dZ)(hn:n<=9223372036854775807):
 aG prog 139 [.agg #[.slice A n c],.agg #[.slice A' n' c']] w (fun v w'=>v=ak (iD xss dZ)/\St w w' []):=
 (WQ A n c rs xss A' n' c' rs' dZ w hX hY hn).mono fun _ _ h=> ⟨h.1,h.2.1⟩
theorem MO(A:aj)(n c:Nat)(xs:ai)(A':aj)(n' c':Nat)(ys:ai)(w:aa)(hR:cn w A n xs)(p7:cn w A' n' ys)(hn:n<=9223372036854775807):
 aG prog 158 [.slice A n c,.slice A' n' c'] w (fun v w'=>v= .bool (decide (xs=ys))/\St w w' []):=by
 have hl:=hR.1;have qj:=p7.1;subst hl;subst qj;refine bA func158 O ntmps158 O (cJ O) ?_;refine a8 O (bc O O (ar O (bc O O (aI O ?_))));refine aR _ O (fun h=>?_) (fun h=>?_)
 ·refine eT O (dK O ?_);exact⟨by rw [dE (fun e:xs=ys=>h (by rw [e]))],St.refl _⟩
 refine aE O (bc O O (aI O ?_));refine Cd.loop (α:=Nat) (fun k=> [(0,.slice A xs.length c),(1,.slice A' ys.length c'),(12,ak (xs.length:Int)),(13,ak k)]) (fun k w'=>St w w' []/\k<=xs.length/\xs.take k=ys.take k) (fun k=>xs.length - k) 0 (ajs O) ⟨St.refl w,a7 _,O⟩ ?_;rintro k e w2 ⟨aB,hk,hI⟩;have hle:xs.length=ys.length:=by omega
 refine bL O (aR _ O (fun h1=>?_) (fun h1=>?_))
 ·have hA:=aB.gW hR;have hB:=aB.gW p7;have h2:(k:Int)<ys.length:=by omega
  have hx:=bO (p:=xs) (k:=k) (by omega);have hy:=bO (p:=ys) (k:=k) (by omega);refine dA O (eY [xS (A) (xs.length) (c),xI ((k:Int)),xP (aJ (A) ((k:Int)).toNat),xI (gi (xs) ((k:Int))),xS (A') (ys.length) (c'),xI ((k:Int)),xP (aJ (A') ((k:Int)).toNat),xI (gi (ys) ((k:Int))),xB (decide (¬(gi (xs) ((k:Int)))=(gi (ys) ((k:Int)))))] O (fE O) ?_ ?_)
  ·exact⟨Dr O,Dr O,fun _ _ hb _ _=>aM (hA.aq hb).2 O Az,fun _ _ hb _ _=>bk (hA.aq hb) O Az,Dr O,Dr O,fun _ _ hb _ _=>aM (hB.aq hb).2 O Az,fun _ _ hb _ _=>bk (hB.aq hb) O Az,Dr O,av⟩
  intro u w3 iJ _;have aH:=aB.aq iJ;refine fR O (aR _ O (fun h3=>?_) (fun h3=>?_))
  ·refine eT O (gx (fV ?_));refine dK O ?_;refine⟨by rw [dE (fun e:xs=ys=>h3 (by rw [e]))],aH⟩
  refine aE O (aK O (aU O (tQ ?_)));refine⟨k+1,by omega,(ajs O),aH,by omega,?_⟩;rw [uF (by omega),uF (by omega),hI,iy.1 h3]
 refine bw O (bz (gE O ?_));refine dK O ⟨?_,aB⟩;rw [jW (by omega),jW (by omega)]at hI;rw [eM hI]
theorem UJ(A:aj)(n c:Nat)(rs:List aN)(xs:ah)(A':aj)(n' c':Nat)(rs':List aN)(ys:ah)(w:aa)(hR:br w A n rs xs)(p7:br w A' n' rs' ys)(hn:n<=9223372036854775807):
 aG prog 157 [.slice A n c,.slice A' n' c',.func (.func 158) #[] #[]] w (fun v w'=>v= .bool (decide (xs=ys))/\St w w' []):=by
 have hl:=hR.len;have qj:=p7.len;subst hl;subst qj;refine bA func157 O ntmps157 O (cJ O) ?_;refine a8 O (bc O O (ar O (bc O O (aI O ?_))));refine aR _ O (fun h=>?_) (fun h=>?_)
 ·refine eT O (dK O ?_);exact⟨by rw [dE (fun e:xs=ys=>h (by rw [e]))],St.refl _⟩
 refine aE O (bc O O (aI O ?_));refine Cd.loop (α:=Nat) (fun k=> [(1,.slice A' ys.length c'),(2,.func (.func 158) #[] #[]),(15,.slice A xs.length c),(16,ak (xs.length:Int)),(17,ak k)]) (fun k w'=>St w w' []/\k<=xs.length/\xs.take k=ys.take k) (fun k=>xs.length - k) 0 (ajs O) ⟨St.refl w,a7 _,O⟩ ?_;rintro k e w2 ⟨aB,hk,hI⟩;have hle:xs.length=ys.length:=by omega
 refine bL O (aR _ O (fun h1=>?_) (fun h1=>?_))
 ·have hA:=aB.bY hR;have hB:=aB.bY p7;have h2:(k:Int)<ys.length:=by omega
  have hx:=bP (p:=xs) (k:=k) (by omega);have hy:=bP (p:=ys) (k:=k) (by omega);have ha:=hA.at_ (i:=k) (by omega) h1;have sf:=hB.at_ (i:=k) (by omega) h2;have hc:=hA.cap_ (i:=k) (by omega) h1;refine aE O (aM hA.top.2 O (dI hA.top O (ar O (aM hB.top.2 O (dI hB.top O (ar O (aL (MO _ _ _ _ _ _ _ _ _ ha sf (by omega)) O ?_)))))));rintro _ w3 ⟨rfl,au⟩;have aH:=aB.aq au.below
  first | refine eA rfl rfl ?_ | refine eU rfl rfl ?_
  refine aI O (aR _ O (fun h3=>?_) (fun h3=>?_))
  ·refine eT O (gx (fV ?_));refine dK O ?_;refine⟨by rw [dE (fun e:xs=ys=>h3 (by rw [e]))],aH⟩
  refine aE O (aK O (aU O (tQ ?_)));refine⟨k+1,by omega,(ajs O),aH,by omega,?_⟩;rw [E5 (by omega),E5 (by omega),hI,iy.1 h3]
 refine bw O (bz (gE O ?_));refine dK O ⟨?_,aB⟩;rw [jW (by omega),jW (by omega)]at hI;rw [eM hI]
theorem agc(A:aj)(n c:Nat)(rs:List aN)(xss:ah)(A':aj)(n' c':Nat)(rs':List aN)(dZ:ah)(w:aa)(hX:br w A n rs xss)(hY:br w A' n' rs' dZ)(hn:n<=9223372036854775807):
 aG prog 86 [.agg #[.slice A n c],.agg #[.slice A' n' c']] w (fun v w'=>v= .bool (decide (xss=dZ))/\St w w' []):=by
 refine bA func86 O ntmps86 O (cJ O) (a8 O (jd (St.refl w) O O ?_));intro Ab w1 aA;refine jd aA O O fun Ac w2 aB=>ar O (aX (aB.rd 1 O) O (bn (aB.rd 1 O) O (aX (aB.rd 0 O) O (bn (aB.rd 0 O) O (aL (UJ A n c rs xss A' n' c' rs' dZ _ (aB.bY hX) (aB.bY hY) hn) O ?_)))));rintro _ w3 ⟨rfl,au⟩;refine bM O (dK O ?_);exact⟨O,(aB.aq au.below).none⟩
theorem acQ(A:aj)(n c:Nat)(xs:ai)(A':aj)(n' c':Nat)(ys:ai)(w:aa)(hR:cn w A n xs)(p7:cn w A' n' ys)(hn:n<=9223372036854775807):
 aG prog 152 [.slice A n c,.slice A' n' c'] w (fun v w'=>v= .bool (decide (xs=ys))/\St w w' []):=by
 have hl:=hR.1;have qj:=p7.1;subst hl;subst qj;refine bA func152 O ntmps152 O (cJ O) ?_;refine a8 O (bc O O (ar O (bc O O (aI O ?_))));refine aR _ O (fun h=>?_) (fun h=>?_)
 ·refine eT O (dK O ?_);exact⟨by rw [dE (fun e:xs=ys=>h (by rw [e]))],St.refl _⟩
 refine dA O (Cd.loop (α:=Nat) (fun k=> [(0,.slice A xs.length c),(1,.slice A' ys.length c'),(5,ak k)]) (fun k w'=>St w w' []/\k<=xs.length/\xs.take k=ys.take k) (fun k=>xs.length - k) 0 (ajs O) ⟨St.refl w,a7 _,O⟩ ?_);rintro k e w2 ⟨aB,hk,hI⟩;have hle:xs.length=ys.length:=by omega
 refine a8 O (bc O O (aI O ?_));refine aR _ O (fun h1=>?_) (fun h1=>?_)
 ·have hA:=aB.gW hR;have hB:=aB.gW p7;have h2:(k:Int)<ys.length:=by omega
  have hx:=bO (p:=xs) (k:=k) (by omega);have hy:=bO (p:=ys) (k:=k) (by omega);refine dA O (eY [xS (A) (xs.length) (c),xI ((k:Int)),xP (aJ (A) ((k:Int)).toNat),xI (gi (xs) ((k:Int))),xS (A') (ys.length) (c'),xI ((k:Int)),xP (aJ (A') ((k:Int)).toNat),xI (gi (ys) ((k:Int))),xB (decide (¬(gi (xs) ((k:Int)))=(gi (ys) ((k:Int)))))] O (fE O) ?_ ?_)
  ·exact⟨Dr O,Dr O,fun _ _ hb _ _=>aM (hA.aq hb).2 O Az,fun _ _ hb _ _=>bk (hA.aq hb) O Az,Dr O,Dr O,fun _ _ hb _ _=>aM (hB.aq hb).2 O Az,fun _ _ hb _ _=>bk (hB.aq hb) O Az,Dr O,av⟩
  intro u w3 iJ _;have aH:=aB.aq iJ;refine fR O (aR _ O (fun h3=>?_) (fun h3=>?_))
  ·refine eT O (gx (fV ?_));refine dK O ?_;refine⟨by rw [dE (fun e:xs=ys=>h3 (by rw [e]))],aH⟩
  refine aE O (aK O (aU O (tQ ?_)));refine⟨k+1,by omega,(ajs O),aH,by omega,?_⟩;rw [uF (by omega),uF (by omega),hI,iy.1 h3]
 refine bw O (bz (gE O ?_));refine dK O ⟨?_,aB⟩;rw [jW (by omega),jW (by omega)]at hI;rw [eM hI]
def kS(xss:ah):ai:=(List.range xss.length).map fun i=>fA xss i
theorem I7(xss:ah):(kS xss).length=xss.length:=by simp [kS]
theorem WJ{xss:ah}{i:Nat}(h:i<xss.length):(kS xss).take (i+1)=(kS xss).take i++ [fA xss i]:=by
 rw [rQ (by rw [I7];exact h)];simp [kS]
theorem Ol(Ab A:aj)(n c:Nat)(rs:List aN)(xss:ah)(w:aa)(hB:Rd w Ab 1 (fun _=> .slice A n c))(hR:br w A n rs xss)(hM:aZ xss):
 aG prog 85 [.pointer Ab] w (fun v w'=>∃A' c',v= .slice A' n c'/\St w w' [az 2 A' n c' (kS xss)]):=by
 have hl:=hR.len;have h1:=hM.1;have h2:=hM.2.1;refine bA func85 O ntmps85 O (cJ O) (a8 O (aL (zM Ab A n c _ _ hB O) O ?_));rintro _ w ⟨rfl,rfl⟩;refine aI O (Cd.loop (α:=Nat×aj×Nat) (fun s=> [(0,.pointer Ab),(3,.slice s.2.1 s.1 s.2.2),(8,ak n),(9,ak (s.1:Int))]) (fun s w'=>St w w' [az 2 s.2.1 s.1 s.2.2 ((kS xss).take s.1)]/\s.1<=n) (fun s=>n - s.1) (0,none,0) (ajs O) ⟨(St.refl w).nil _,a7 _⟩ ?_);rintro⟨i,A3,c3⟩ e w1 ⟨aA,hi⟩;dsimp only at aA hi|-;refine bL O (aR _ O (fun h3=>?_) (fun h3=>?_))
 ·have bX:i<n:=by omega
  have mq:=vJ xss i;refine aE O (aL (On Ab A n c rs xss i _ (hB.below aA.below) (aA.bY hR) hM bX) O ?_);rintro _ w2 ⟨A5,rfl,jk⟩;have aB:=(aA.call jk).tail;refine ar O (eH aB O O O ?_);intro A6 w3 aH;refine fN 1 aH O (aH.bI 0 O) O O O fun A7 c7 w4 aV=>ar O (aK O (aU O (tQ ?_)));refine⟨(i+1,A7,c7),by show n - (i+1)<n - i;omega,(ajs O),?_,bX⟩;show St w w4 [az _ A7 (i+1) c7 ((kS xss).take (i+1))];rw [WJ (by omega)];exact aV.tail
 refine bw O (bz (gE O ?_));refine gD O ?_;have bW:i=n:=by omega
 rw [bW,jW (by rw [I7];omega)]at aA;rw [bW];exact⟨A3,c3,O,aA⟩
theorem St.kb{w0 w:aa}{t1 t2:ae}{A:aj}{n c:Nat}{rs:List aN}{xss:ah}(h:St w0 w (aT t1 t2 A n c rs xss))(hl:xss.length=n):br w A n rs xss:=
 St.tx (ks:=[]) (by rw [fM];exact h) hl
section
variable{b b0 b1 b2:Nat}
variable {P:Program} {N:Nat} {ops:Array Oper} {K:Env->aa->Prop} {rest:List Oper} {e:Env} {w0 w w':aa} {ks:List Ck} {d:Nat} {ty:ae} {pos:String} {af:Array Edge}
theorem Fj{t:ae}{f0 f1 f2:Field}{z0 z1 z2 y0 y1 y2:ad}[bJ P t (.struct #[f0,f1,f2])][bF P t (.agg #[z0,z1,z2]) 3 b]{x0:ag}{v0:ad}(sb:bF P f0.type y0 1 b0)(sc:bF P f1.type y1 1 b1)(tZ:bF P f2.type y2 1 b2)(ho:f0.offset=0)(tk:f1.offset=1)(zo:f2.offset=2)(h0:ev e x0=v0)(c0:v0.oneCell'=true)(hb:Nat.blt d N=true)(hK:ao P N ops K rest (bq e d (.agg #[v0,z1,z2])) w):ao P N ops K (⟨some d,.build t #[(0,x0)],ty,pos,af,none⟩::rest) e w:=by
 obtain⟨inf,hi,fH,hs,iW⟩:=bF.get P t;obtain⟨Cf,eK,_,o9,_⟩:=sb.get P f0.type;obtain⟨Cg,kj,_,sq,_⟩:=sc.get P f1.type;obtain⟨Er,qh,_,nS,_⟩:=tZ.get P f2.type;have e0:v0.cells= #[v0]:=by cases v0<;>simp [Value.oneCell']at c0<;>rfl
 have ez:(Value.agg #[z0,z1,z2]).cells= #[z0,z1,z2]:=O;refine .val (w':=w) ?_ hb hK;simp [execOp,Instr.build,run_underlying (bJ.out (P:=P) (t:=t)),sizeOf,typeInfo,zeroValue,hi,fH,eK,o9,kj,sq,qh,nS,ho,h0,e0,ez,Instr.fill]
theorem z8{t:ae}{f0 f1 f2:Field}{z0 z1 z2 y0 y1 y2:ad}[bJ P t (.struct #[f0,f1,f2])][bF P t (.agg #[z0,z1,z2]) 3 b](sb:bF P f0.type y0 1 b0)(sc:bF P f1.type y1 1 b1)(tZ:bF P f2.type y2 1 b2)(hb:Nat.blt d N=true)(hK:ao P N ops K rest (bq e d (.agg #[z0,z1,z2])) w):ao P N ops K (⟨some d,.build t #[],ty,pos,af,none⟩::rest) e w:=by
 obtain⟨inf,hi,fH,hs,iW⟩:=bF.get P t;obtain⟨Cf,eK,_,o9,_⟩:=sb.get P f0.type;obtain⟨Cg,kj,_,sq,_⟩:=sc.get P f1.type;obtain⟨Er,qh,_,nS,_⟩:=tZ.get P f2.type;have ez:(Value.agg #[z0,z1,z2]).cells= #[z0,z1,z2]:=O;refine .val (w':=w) ?_ hb hK;simp [execOp,Instr.build,run_underlying (bJ.out (P:=P) (t:=t)),sizeOf,typeInfo,zeroValue,hi,fH,eK,o9,kj,sq,qh,nS,ez,Instr.fill]
theorem mK{el:ae}{v0 v1 v2:ad}{s:Nat}[bF P el (.agg #[v0,v1,v2]) s b](hS:St w0 w ks)(hb:Nat.blt d N=true)(hK:∀A w',St w0 w' (Bx el 3 A [v0,v1,v2]::ks)->ao P N ops K rest (bq e d (.pointer A)) w')(hM:eG [v0,v1,v2]=false:=by rfl):ao P N ops K (⟨some d,.alloc el,ty,pos,af,none⟩::rest) e w:= .new (el:=el) (z:= .agg #[v0,v1,v2]) (s:=s) (b:=b) hS hb rfl hK hM
end
theorem aeE{α:Type}(q1 q2 q3 q4 q5 q6:α)(X Y:List α):([q1,q2,q3,q4,q5,q6]++Y++X).Perm (q4::(q2::((q1::X)++ (q3::q5::q6::Y)))):=by
 classical
 refine kN.2 fun z=>?_
 simp only [mb,kL,List.cons_append,List.nil_append];omega
abbrev bE(A:aj)(n:Int)(AR:aj)(N c:Nat)(AD:aj)(m d:Nat):Ck:=Bx 27 3 A [ak n,.slice AR N c,.slice AD m d]
theorem WI{M:ah}{i:Nat}(h:i<M.length):gi (kS M) i=fA M i:=by
 rw [bO (by rw [I7];exact h)];simp [kS]
structure qJ(M:ah)(f i:Nat)(B:ah):Prop where
 len:B.length=aF M M.length
 mem:∀e:Nat,e<aF M M.length->∀x,x∈gl B e↔∃f' i',(f'<f\/f'=f/\i'<i)/\f'< (gl M 0).length/\i'<M.length/\bh M i' f'=e/\∃k,k<i'/\x=bh M k f'
 num:∀e:Nat,(gl B e).length<=25*f+5*i
theorem qJ.zero(M:ah):qJ M 0 0 (List.replicate (aF M M.length) []):=by
 have hg:∀e:Nat,gl (List.replicate (aF M M.length) ([]:ai)) e=[]:=fun e=>by
  simp only [gl,gG,cN,List.getElem?_replicate]
  split<;>rfl
 refine⟨by simp,fun e he x=>?_,fun e=>by rw [hg];exact a7 _⟩;rw [hg];constructor
 ·intro h;cases h
 rintro⟨f',i',h,_⟩;omega
theorem qJ.next{M:ah}{f i:Nat}{B:ah}(hM:aZ M)(h:qJ M f i B)(hf:f< (gl M 0).length)(hi:i<M.length):qJ M f (i+1) (B.set (bh M i f).toNat (gl B (bh M i f)++ (List.range i).map fun k=>bh M k f)):=by
 have bW:=oV hM (i:=i) hf;have G0:=nn M (show i+1<=M.length by omega);have h5:=hM.1;obtain⟨q,hq⟩:∃q:Nat,bh M i f=q:=⟨(bh M i f).toNat,by omega⟩;rw [hq,gG];have hg:∀e:Nat,gl (B.set q (gl B q++ (List.range i).map fun k=>bh M k f)) e=if q=e then gl B q++ (List.range i).map fun k=>bh M k f else gl B e:=fun e=>Yj (by rw [h.len];omega)
 refine⟨by rw [lp];exact h.len,fun e he x=>?_,fun e=>?_⟩
 ·rw [hg]
  by_cases e1:q=e
  ·subst e1;rw [ay rfl,jz,h.mem q he];constructor
   ·rintro(⟨f',i',h1,h2⟩ | h1)
    ·exact⟨f',i',by omega,h2⟩
    obtain⟨k,hk,rfl⟩:=db.1 h1;exact⟨f,i,.inr ⟨O,by omega⟩,hf,hi,hq,k,fU.1 hk,O⟩
   rintro⟨f',i',h1,h2,h3,h4,k,hk,rfl⟩
   by_cases e2:f'=f/\i'=i
   ·obtain⟨rfl,rfl⟩:=e2;exact .inr (db.2 ⟨k,fU.2 hk,O⟩)
   exact .inl ⟨f',i',by omega,h2,h3,h4,k,hk,O⟩
  rw [aw e1,h.mem e he];constructor
  ·rintro⟨f',i',h1,h2⟩;exact⟨f',i',by omega,h2⟩
  rintro⟨f',i',h1,h2,h3,h4,h6⟩;refine⟨f',i',?_,h2,h3,h4,h6⟩
  by_cases e2:f'=f/\i'=i
  ·obtain⟨rfl,rfl⟩:=e2;omega
  omega
 rw [hg];have h1:=h.num q;have h2:=h.num e
 split
 ·rw [cS,fk,pU];omega
 omega
theorem qJ.row{M:ah}{f:Nat}{B:ah}(hM:aZ M)(h:qJ M f M.length B):qJ M (f+1) 0 B:=by
 have h5:=hM.1;refine⟨h.len,fun e he x=>?_,fun e=>by have:=h.num e;omega⟩;rw [h.mem e he];constructor
 ·rintro⟨f',i',h1,h2⟩;exact⟨f',i',by omega,h2⟩
 rintro⟨f',i',h1,h2,h3,h4⟩;exact⟨f',i',by omega,h2,h3,h4⟩
theorem qJ.done{M:ah}{B:ah}(hM:aZ M)(h:qJ M (gl M 0).length 0 B){e:Nat}(he:e<aF M M.length):cs (gl B e)=gl (bD M) e:=by
 refine(WY _).eq ?_ fun x=>?_
 ·rw [bP (by rw [tV];exact he)];unfold bD;rw [List.getElem_map];exact oL _ (ky _)
 rw [WZ,h.mem e he,mQ (by omega) (by omega)];constructor
 ·rintro⟨f',i',_,h2,h3,h4,k,hk,rfl⟩;have hI:qG M (bh M k f') e:=⟨f',h2,i',h3,k,hk,h4.symm,O⟩;exact⟨(hI.cj hM).1,hI⟩
 rintro⟨_,f',h2,i',h3,k,hk,h4,rfl⟩;exact⟨f',i',.inl h2,h2,h3,h4.symm,k,hk,O⟩
def UA(M:ah)(w:aa)(v:ad)(w':aa):Prop:=(500<aF M M.length/\v= .tuple #[.agg #[ak 0,.slice none 0 0,.slice none 0 0],.bool false]/\St w w' [])\/(aF M M.length<=500/\∃AR c AD d rs,v= .tuple #[.agg #[ak (M.length:Int),.slice AR (aF M M.length) c,.slice AD (aF M M.length) d],.bool true]/\rs.length=aF M M.length/\St w w' (az 2 AR (aF M M.length) c (bo M M.length)::(aT 24 2 AD (aF M M.length) d rs (bD M)++ [])))
theorem Om(A:aj)(n c:Nat)(rs:List aN)(M:ah)(w:aa)(hR:br w A n rs M)(hM:aZ M):
 aG prog 67 [.agg #[.slice A n c]] w (UA M w):=by
 have hl:=hR.len;have h1:=hM.1;have h2:=hM.2.1;have xO:∀i,i<=n->aF M i<=2000:=fun i hi=>by
  have h3:=HD (M:=M) i;have h4:i* (gl M 0).length<=5*400:=Nat.mul_le_mul (by omega) (by omega);omega
 refine bA func67 O ntmps67 O (pc O O) (a8 O (jd (St.refl w) O O ?_));intro A1 w1 aA;refine mK aA O fun A2 w2 aB=>ar O (aL (zM A1 A n c _ _ (Rd.one (aB.rd 1 O)) O) O ?_);rintro _ w2 ⟨rfl,rfl⟩;refine Fj (by exact inferInstance) (by exact inferInstance) (by exact inferInstance) O O O O O O (mK aB O ?_);intro A4 w3 aH;refine cG 3 0 aH O O O O O O O ?_;intro w4 aV;have aV:St w w4 [bE A4 n none 0 0 none 0 0,bE A2 0 none 0 0 none 0 0,Bx 37 1 A1 [.slice A n c]]:=aV;clear aH aB aA;refine ar O (aL (Ol A1 A n c rs M _ (Rd.one (aV.rd 2 O)) (aV.bY hR) hM) O ?_);rintro _ w5 ⟨oJ,sV,rfl,au⟩;have aW:=aV.call au;clear au aV;have aW:St w w5 [bE A4 n none 0 0 none 0 0,az 2 none 0 0 [],az 2 oJ n sV (kS M),bE A2 0 none 0 0 none 0 0,Bx 37 1 A1 [.slice A n c]]:=(aW.nil 2).perm (uL (l₁:=[_,_]));refine bc O O (aI O ?_);refine Cd.loop (α:=Nat×aj×Nat) (fun z=> [(1,.pointer A1),(2,.pointer A2),(4,.pointer A4),(14,.slice oJ n sV),(15,ak n),(16,ak (z.1:Int))]) (fun z w'=>z.1<=n/\St w w' [bE A4 n z.2.1 (aF M z.1) z.2.2 none 0 0,az 2 z.2.1 (aF M z.1) z.2.2 (bo M z.1),az 2 oJ n sV (kS M),bE A2 0 none 0 0 none 0 0,Bx 37 1 A1 [.slice A n c]]) (fun z=>n - z.1) (0,none,0) (ajs O) ⟨a7 _,aW⟩ ?_;clear aW;rintro⟨i,AR,cR⟩ e w6 ⟨hi,hS⟩;dsimp only at hi hS|-;have QW:=xO i hi;have xy:=jg M i;refine bL O (aR _ O (fun h3=>?_) (fun h3=>?_))
 ·have bW:i<n:=by omega
  have xE:=WI (M:=M) (i:=i) (by omega);have kI:=vJ M i;have tk:=xO (i+1) (by omega);have zp:aF M (i+1)=aF M i+ (fA M i).toNat:=O;have ov:bo M (i+1)=bo M i++List.replicate (fA M i).toNat (i:Int):=O;have hC:=hS.bI 2 O;refine aE O (aM hC.2 O (bk hC O (aI O ?_)));rw [xE];obtain⟨N,hN⟩:∃N:Nat,fA M i=N:=⟨(fA M i).toNat,by omega⟩;rw [hN,gG]at zp ov;rw [hN]at kI|-;refine kK [6,8] [yP (aJ (A4) 1),yS (AR) (aF M i) (cR),yI ((i:Int)),.pr (fun v w'=>∃A9,v= .slice A9 1 1/\St w w' (az 2 A9 1 1 [(i:Int)]::[bE A4 n AR (aF M i) cR none 0 0,az 2 AR (aF M i) cR (bo M i),az 2 oJ n sV (kS M),bE A2 0 none 0 0 none 0 0,Bx 37 1 A1 [.slice A n c]])),yI ((N:Int)),.pr (fun v w'=>∃A9,v= .slice A9 N N/\St w w' (az 2 A9 N N (List.replicate N (i:Int))::[bE A4 n AR (aF M i) cR none 0 0,az 2 AR (aF M i) cR (bo M i),az 2 oJ n sV (kS M),bE A2 0 none 0 0 none 0 0,Bx 37 1 A1 [.slice A n c]])),.pr (fun v w'=>∃bR dT,v= .slice bR (aF M i+N) dT/\St w w' [bE A4 n AR (aF M i) cR none 0 0,az 2 bR (aF M i+N) dT (bo M i++List.replicate N (i:Int)),az 2 oJ n sV (kS M),bE A2 0 none 0 0 none 0 0,Bx 37 1 A1 [.slice A n c]]),yP (aJ (A4) 1),.pr (fun _ w'=>∃bR dT,St w w' [bE A4 n bR (aF M i+N) dT none 0 0,az 2 bR (aF M i+N) dT (bo M i++List.replicate N (i:Int)),az 2 oJ n sV (kS M),bE A2 0 none 0 0 none 0 0,Bx 37 1 A1 [.slice A n c]])] (by kernel_rfl) (by kernel_rfl) (ly (ly (ly (cI.2 ⟨Ye.cV (fun v w w' h hb=>by obtain⟨A9,hv,hT⟩:=h;exact⟨A9,hv,hT.aq hb⟩),(ly (cI.2 ⟨Ye.cV (fun v w w' h hb=>by obtain⟨A9,hv,hT⟩:=h;exact⟨A9,hv,hT.aq hb⟩),(cI.2 ⟨Ye.cV (fun v w w' h hb=>by obtain⟨bR,dT,hv,hT⟩:=h;exact⟨bR,dT,hv,hT.aq hb⟩),(ly (cI.2 ⟨Ye.cV (fun v w w' h hb=>by obtain⟨bR,dT,hT⟩:=h;exact⟨bR,dT,hT.aq hb⟩),(fun _ h=>by cases h)⟩))⟩)⟩))⟩)))) ?_ ?_
  ·refine⟨cP fun _ _ hb _ _ _=>aX ((hS.rd 0 O).below hb) O (bK O O),cP fun _ _ hb _ _ _=>bn ((hS.rd 0 O).below hb) O (bK O O),bZ O,?_,bZ O,?_,?_,?_,?_,av⟩
   ·refine cP fun e1 w1 hb hp a6 hq=>?_
    exact eH (St.refl _) O O O fun A9 w9 au=>ao.n (gA.dn O au.below ⟨A9,O,(hS.aq hb).call au⟩)
   ·refine cP fun e1 w1 hb hp a6 hq=>?_
    obtain⟨A9,JO,hT⟩:=(hp 3 _ _ (by kernel_rfl) rfl rfl (by kernel_rfl));refine ajj (Fm A9 1 i N _ (hT.bI 0 O) (by omega)) O (by exact aO (fun v=> [v,Value.int .i64 (N:Int)]) JO) O ?_;rintro _ w2 ⟨A5,rfl,au⟩;exact ao.n (gA.dn O au.below ⟨A5,O,hT.tail.call au⟩)
   ·refine kQ fun e1 w1 hb hp a6 hq=>?_
    obtain⟨A9,YF,hT⟩:=(hp 5 _ _ (by kernel_rfl) rfl rfl (by kernel_rfl));refine fN 2 hT O (hT.bI 0 O) O (by exact YF) O ?_;intro bR dT eL BA;exact ao.n (fQ.dn O ⟨bR,dT,O,BA.tail⟩)
   ·refine dP 1 fun e1 w1 hp a6 hq=>?_
    have eP:=hp 6 _ _ (by kernel_rfl) O O (by kernel_rfl);obtain⟨bR,dT,Pm,hT⟩:=eP;refine aX ((hT.rd 0 O)) O (ao.n (ig O (by exact O)))
   refine qM 1 fun e1 w1 hp a6 hq=>?_
   have eP:=hp 6 _ _ (by kernel_rfl) O O (by kernel_rfl);obtain⟨bR,dT,Pm,hT⟩:=eP;refine kf 0 hT O O (by exact Pm) O O ?_;intro fI yW;exact ao.n (fQ.st O ⟨bR,dT,yW⟩)
  intro u w7 _ hu _ _;obtain⟨bR,dT,hT⟩:=hu 8 _ rfl (by kernel_rfl);rw [<-zp,<-ov]at hT;refine kc O (aK O (aU O (tQ ?_)));exact⟨(i+1,bR,dT),by show n - (i+1)<n - i;omega,(ajs O),by show i+1<=n;omega,hT⟩
 obtain rfl:i=n:=by omega
 have ji:M.length=i:=hl;generalize hK:aF M i=N at*;have fh:=hS.rd 0 O;refine bw O (bz (dh O ?_));refine aX fh O (bn fh O ?_);refine bc O O (aI O ?_);refine aR _ O (fun h4=>?_) (fun h4=>?_)
 ·refine aE O (z8 (by exact inferInstance) (by exact inferInstance) (by exact inferInstance) O (cG 3 3 hS O O O O O O O ?_));intro w9 bH;refine bM O (iL O (bH.rd 3 O) O ?_);exact .inl ⟨by rw [ji,hK];omega,O,bH.none⟩
 refine aE O (aX fh O (bn fh O (bc O O (Iu N hS O O (by omega) ?_))));intro dz w7 bG;have bG:St w w7 (cd 24 dz N N (List.replicate N ew)::[bE A4 i AR N cR none 0 0,az 2 AR N cR (bo M i),az 2 oJ i sV (kS M),bE A2 0 none 0 0 none 0 0,Bx 37 1 A1 [.slice A i c]]):=bG;refine aX (bG.rd 1 O) O (kf 1 bG O O O O O ?_);intro w8 bS;have bS:St w w8 (cd 24 dz N N (List.replicate N ew)::[bE A4 i AR N cR dz N N,az 2 AR N cR (bo M i),az 2 oJ i sV (kS M),bE A2 0 none 0 0 none 0 0,Bx 37 1 A1 [.slice A i c]]):=bS;clear bG hS;refine ar O (aL (VR A1 A i c rs M _ (Rd.one (bS.rd 5 O)) (bS.bY hR) hM) O ?_);rintro _ w9 ⟨yo,nZ,rfl,abe,au⟩;obtain⟨F,hF⟩:∃F,(gl M 0).length=F:=⟨_,rfl⟩;rw [hF]at h2 abe au|-;have Pt:(oW M).length=F:=by simp [oW,hF]
 have bH:=bS.call au;clear au bS;obtain⟨KK,qV⟩:∃KK:List Ck,KK=az 2 AR N cR (bo M i)::bE A2 0 none 0 0 none 0 0::Bx 37 1 A1 [.slice A i c]::(aT 24 2 yo F F nZ (oW M)++ []):=⟨_,rfl⟩;have bH:St w w9 (bE A4 i AR N cR dz N N::(aT 24 2 dz N N (List.replicate N ew) (List.replicate N [])++KK)):=by
  rw [qV];have h9:=(bH.perm me);have h9:=HB (t:=2) N h9;have hp:([cd 24 dz N N (List.replicate N ew),bE A4 i AR N cR dz N N,az 2 AR N cR (bo M i),az 2 oJ i sV (kS M),bE A2 0 none 0 0 none 0 0,Bx 37 1 A1 [.slice A i c]]++ (aT 24 2 yo F F nZ (oW M)++ [])++du 2 (List.replicate N ew) (List.replicate N [])).Perm (az 2 oJ i sV (kS M)::(bE A4 i AR N cR dz N N::(aT 24 2 dz N N (List.replicate N ew) (List.replicate N [])++ (az 2 AR N cR (bo M i)::bE A2 0 none 0 0 none 0 0::Bx 37 1 A1 [.slice A i c]::(aT 24 2 yo F F nZ (oW M)++ []))))):=by
   unfold aT;generalize du 2 (List.replicate N ew) (List.replicate N [])=X;generalize cd 24 yo F F nZ::du 2 nZ (oW M)++ []=Y;generalize cd 24 dz N N (List.replicate N ew)=q1;generalize bE A4 i AR N cR dz N N=q2;generalize az 2 AR N cR (bo M i)=q3;generalize az 2 oJ i sV (kS M)=q4;generalize bE A2 0 none 0 0 none 0 0=q5;generalize Bx 37 1 A1 [.slice A i c]=q6;exact aeE q1 q2 q3 q4 q5 q6 X Y
  exact(h9.perm hp).tail
 have km:∀(rs':List aN) (B:ah),(aT 24 2 yo F F nZ (oW M)).Sublist (bE A4 i AR N cR dz N N::(aT 24 2 dz N N rs' B++KK)):=fun rs' B=>by
  rw [qV];refine List.Sublist.cons _ (List.Sublist.trans ?_ (mH _ _));refine List.Sublist.cons _ (List.Sublist.cons _ (List.Sublist.cons _ ?_));rw [fM];exact jV _
 have ml:aF M M.length=N:=by rw [ji,hK]
 refine bc O O (aI O ?_);refine Cd.loop (α:=Nat×List aN×ah) (fun z=> [(1,.pointer A1),(2,.pointer A2),(4,.pointer A4),(40,.slice yo F F),(41,ak F),(42,ak (z.1:Int))]) (fun z w'=>z.1<=F/\z.2.1.length=N/\qJ M z.1 0 z.2.2/\St w w' (bE A4 i AR N cR dz N N::(aT 24 2 dz N N z.2.1 z.2.2++KK))) (fun z=>F - z.1) (0,List.replicate N ew,List.replicate N []) (ajs O) ⟨a7 _,by simp,by have:=qJ.zero M;rwa [ml]at this,bH⟩ ?_;clear bH;rintro⟨f,Cz,B⟩ e eL ⟨hf,Ha,hB,hS⟩;dsimp only at hf Ha hB hS|-;refine bL O (aR _ O (fun h5=>?_) (fun h5=>?_))
 ·have si:f<F:=by omega
  have xq:=(hS.sub (km Cz B)).kb Pt;have cT:=xq.at_ (i:=(f:Int)) (by omega) (by omega);have bU:=cT.1;have BO:gl (oW M) f=(List.range M.length).map fun k=>bh M k f:=by rw [bP (by omega)];simp [oW]
  have ni:(rg nZ f).n=i:=by rw [<-bU,BO];simp [ji]
  refine aE O (aM xq.top.2 O (dI xq.top O ?_));refine ar O (bc O O (aI O ?_));refine Cd.loop (α:=Nat×List aN×ah) (fun z=> [(1,.pointer A1),(2,.pointer A2),(4,.pointer A4),(40,.slice yo F F),(41,ak F),(42,ak f),(8,.slice (rg nZ f).a (rg nZ f).n (rg nZ f).c),(46,.slice (rg nZ f).a (rg nZ f).n (rg nZ f).c),(47,ak ((rg nZ f).n:Int)),(48,ak (z.1:Int))]) (fun z w'=>z.1<=i/\z.2.1.length=N/\qJ M f z.1 z.2.2/\St w w' (bE A4 i AR N cR dz N N::(aT 24 2 dz N N z.2.1 z.2.2++KK))) (fun z=>i - z.1) (0,Cz,B) (ajs O) ⟨a7 _,Ha,hB,hS⟩ ?_;clear hS hB xq cT bU Ha;rintro⟨j,da,B4⟩ e fI ⟨hj,tn,fh,aV⟩;dsimp only at hj tn fh aV|-;have qT:B4.length=N:=by rw [fh.len,ml]
  refine bL O (aR _ O (fun h6=>?_) (fun h6=>?_))
  ·have rn:j<i:=by omega
   have xq:=(aV.sub (km da B4)).kb Pt;have cT:=xq.at_ (i:=(f:Int)) (by omega) (by omega);have bU:=cT.1;have Qt:gi (gl (oW M) f) j=bh M j f:=by rw [bO (by omega)];simp [BO]
   have bW:=oV hM (i:=j) (f:=f) (by omega);have G0:=nn M (show j+1<=M.length by omega);rw [ml]at G0;obtain⟨E,hE⟩:∃E:Nat,bh M j f=E:=⟨(bh M j f).toNat,by omega⟩;rw [hE]at Qt bW;have iC:=fh.next hM (by omega) (show j<M.length by omega);rw [hE,gG]at iC;have qU:E<N:=by omega
   have Cb:(gl (oW M) f).take j=(List.range j).map fun k=>bh M k f:=by
    rw [BO,<-List.map_take,List.take_range,Nat.min_eq_left (by omega)]
   have mm:br fI dz N da B4:=(aV.perm (uL (l₁:=aT 24 2 dz N N da B4)).symm).tx qT;have wm:=(mm.at_ (i:=(E:Int)) (by omega) (by omega)).1;have G3:=fh.num E;refine aE O (aM cT.2 O (bk cT O (aI O ?_)));rw [Qt];have q9:(bE A4 i AR N cR dz N N::(aT 24 2 dz N N da B4++KK))[2+E]?=some (az 2 (rg da E).a (rg da E).n (rg da E).c (gl B4 E)):=Ez (t1:=24) (t2:=2) (A:=dz) (n:=N) (c:=N) (rs:=da) (xss:=B4) (pre:=[bE A4 i AR N cR dz N N]) (ks:=KK) (i:=E) (by omega) (by omega);have qa:=fun(s:aN) (xs:ai)=>LO (t1:=24) (t2:=2) (A:=dz) (n:=N) (c:=N) (rs:=da) (xss:=B4) (ks:=KK) (q:=bE A4 i AR N cR dz N N) (i:=E) s xs (by omega) (by omega)
   refine kK [11,13] [yP (aJ A4 2),yS (dz) (N) (N),yI ((E:Int)),yP (aJ (A4) 2),yS (dz) (N) (N),yI ((E:Int)),yP (aJ (dz) ((E:Int)).toNat),yS ((rg (da) ((E:Int))).a) ((rg (da) ((E:Int))).n) ((rg (da) ((E:Int))).c),yS ((rg nZ f).a) ((rg nZ f).n) ((rg nZ f).c),yI ((j:Int)),yS ((rg nZ f).a) (j) ((rg nZ f).c),.pr (fun v w'=>∃AZ cZ,v= .slice AZ ((rg da E).n+j) cZ/\St w w' (bE A4 i AR N cR dz N N::(cd 24 dz N N da::(du 2 (da.set E ⟨AZ,(rg da E).n+j,cZ⟩) (B4.set E (gl B4 E++ (gl (oW M) f).take j))++KK)))),yP (aJ dz ((E:Int)).toNat),.pr (fun _ w'=>∃AZ cZ,St w w' (bE A4 i AR N cR dz N N::(aT 24 2 dz N N (da.set E ⟨AZ,(rg da E).n+j,cZ⟩) (B4.set E (gl B4 E++ (gl (oW M) f).take j))++KK)))] (by kernel_rfl) (by kernel_rfl) (ly (ly (ly (ly (ly (ly (ly (ly (ly (ly (ly (cI.2 ⟨Ye.cV (fun v w w' h hb=>by obtain⟨AZ,cZ,hv,hT⟩:=h;exact⟨AZ,cZ,hv,hT.aq hb⟩),(ly (cI.2 ⟨Ye.cV (fun v w w' h hb=>by obtain⟨AZ,cZ,hT⟩:=h;exact⟨AZ,cZ,hT.aq hb⟩),(fun _ h=>by cases h)⟩))⟩)))))))))))) ?_ ?_
   ·refine⟨?_,?_,bZ O,cP fun _ _ hb _ _ _=>aX ((aV.rd 0 O).below hb) O (bK O O),cP fun _ _ hb _ _ _=>bn ((aV.rd 0 O).below hb) O (bK O O),bZ O,cP fun _ _ hb _ _ _=>aM (mm.top.aq hb).2 O (bK O O),cP fun _ _ hb _ _ _=>dI (mm.top.aq hb) O (bK O O),bZ O,bZ O,aP fun _ _=>It O O O (by have:=xq.cap_ (i:=(f:Int)) (by omega) (by omega);omega) (bK O O),?_,?_,?_,av⟩
    ·intro e1 w1 cc eB cC fq hp a6 hq;show ao _ _ _ _ _ _ _;have hX:Rd w1 A4 3 (fun q=> [Value.int .i64 (i:Int),.slice AR N cR,.slice dz N N].getD q undef):=by { have cC:=pK cC (b:=1) (by kernel_rfl);rcases(show cc=0\/cc=1 by omega)with h | h; { exact(aV.aq (fq h)).rd 0 rfl }; { subst h;obtain⟨AZ,cZ,_,hT⟩:=hq 11 _ _ (by kernel_rfl) (by kernel_rfl) (by kernel_rfl) rfl rfl (by kernel_rfl);exact hT.rd 0 rfl } }
     refine aX hX O (ao.n (ig O (by exact O)))
    ·intro e1 w1 cc eB cC fq hp a6 hq;show ao _ _ _ _ _ _ _;have hX:Rd w1 A4 3 (fun q=> [Value.int .i64 (i:Int),.slice AR N cR,.slice dz N N].getD q undef):=by { have cC:=pK cC (b:=1) (by kernel_rfl);rcases(show cc=0\/cc=1 by omega)with h | h; { exact(aV.aq (fq h)).rd 0 rfl }; { subst h;obtain⟨AZ,cZ,_,hT⟩:=hq 11 _ _ (by kernel_rfl) (by kernel_rfl) (by kernel_rfl) rfl rfl (by kernel_rfl);exact hT.rd 0 rfl } }
     refine bn hX O (ao.n (ig O (by exact O)))
    ·refine kQ fun e1 w1 hb hp a6 hq=>?_
     have Y5:=xq.aq hb;refine fN (2+E) (aV.aq hb) q9 ((Y5.at_ (i:=(f:Int)) (by omega) (by omega)).take (l:=j) (by omega)) O O O ?_;intro AZ cZ wZ hZ;rw [qa ⟨AZ,(rg da E).n+j,cZ⟩ (gl B4 E++ (gl (oW M) f).take j)]at hZ;exact ao.n (fQ.dn O ⟨AZ,cZ,O,hZ⟩)
    ·intro e1 w1 cc eB cC fq hp a6 hq;show ao _ _ _ _ _ _ _;have hX:lQ w1 dz N da:=by { have cC:=pK cC (b:=1) (by kernel_rfl);rcases(show cc=0\/cc=1 by omega)with h | h; { exact(aV.aq (fq h)).gQ 1 rfl }; { subst h;obtain⟨AZ,cZ,_,hT⟩:=hq 11 _ _ (by kernel_rfl) (by kernel_rfl) (by kernel_rfl) rfl rfl (by kernel_rfl);exact hT.gQ 1 rfl } }
     refine aM hX.2 O (ao.n (ig O (by exact O)))
    refine qM 1 fun e1 w1 hp a6 hq=>?_
    have eP:=hp 11 _ _ (by kernel_rfl) O O (by kernel_rfl);obtain⟨AZ,cZ,YM,hT⟩:=eP;refine C5 (te:=24) (n:=N) (c:=N) (A:=dz) (xs:=da) 1 hT O O (by exact YM) (by omega) ?_;intro wY hY;exact ao.n (fQ.st O ⟨AZ,cZ,hY⟩)
   intro u fZ _ hu _ _;obtain⟨AZ,cZ,hT⟩:=hu 13 _ rfl (by kernel_rfl);rw [Cb]at hT;refine kc O (aK O (aU O (tQ ?_)));exact⟨(j+1,_,_),by show i - (j+1)<i - j;omega,(ajs O),by show j+1<=i;omega,by simp [tn],iC,hT⟩
  have rn:j=M.length:=by omega
  subst rn;refine bw O (bz (dh O (aK O (aU O (tQ ?_)))));exact⟨(f+1,da,B4),by show F - (f+1)<F - f;omega,(ajs O),by show f+1<=F;omega,tn,fh.row hM,aV⟩
 have si:f=F:=by omega
 subst si;have qT:B.length=N:=by rw [hB.len,ml]
 have DY:∀e':Nat,e'<N->cs (gl B e')=gl (bD M) e':=fun e' td=>qJ.done hM (by rw [hF];exact hB) (by omega)
 have G3:∀e':Nat,(gl B e').length<=25*f:=fun e'=>by have:=hB.num e';omega
 have fh:=hS.rd 0 O;refine bw O (bz (dh O ?_));refine aX fh O (bn fh O ?_);refine bc O O (aI O ?_);refine Cd.loop (α:=Nat×List aN) (fun z=> [(2,.pointer A2),(4,.pointer A4),(70,ak N),(71,ak (z.1:Int))]) (fun z w'=>z.1<=N/\z.2.length=N/\St w w' (bE A4 i AR N cR dz N N::(aT 24 2 dz N N z.2 (lV B z.1)++KK))) (fun z=>N - z.1) (0,Cz) (ajs O) ⟨a7 _,Ha,by rw [ad0];exact hS⟩ ?_;clear hS fh;rintro⟨E,da⟩ e fI ⟨hE,tn,hS⟩;dsimp only at hE tn hS|-;have lS:=adY B E;refine bL O (aR _ O (fun h6=>?_) (fun h6=>?_))
 ·have qU:E<N:=by omega
  have QO:=adX (B:=B) (e:=E) (by omega);have pG:=adZ (B:=B) (e:=E) (by omega);have fh:=hS.rd 0 O;have mm:br fI dz N da (lV B E):=(hS.perm (uL (l₁:=aT 24 2 dz N N da (lV B E))).symm).tx (by omega);have wm:=(mm.at_ (i:=(E:Int)) (by omega) (by omega)).1;rw [QO]at wm;have hq:=G3 E;have q9:(bE A4 i AR N cR dz N N::(aT 24 2 dz N N da (lV B E)++KK))[2+E]?=some (az 2 (rg da E).a (rg da E).n (rg da E).c (gl B E)):=by
   have h0:=Ez (t1:=24) (t2:=2) (A:=dz) (n:=N) (c:=N) (rs:=da) (xss:=lV B E) (pre:=[bE A4 i AR N cR dz N N]) (ks:=KK) (i:=E) (by omega) (by omega);rw [<-QO];exact h0
  have aaA:=(gS.1 q9).1;have qa:=fun(s:aN) (xs:ai)=>LO (t1:=24) (t2:=2) (A:=dz) (n:=N) (c:=N) (rs:=da) (xss:=lV B E) (ks:=KK) (q:=bE A4 i AR N cR dz N N) (i:=E) s xs (by omega) (by omega)
  refine aE O (aX fh O (bn fh O (ar O (aM mm.top.2 O (dI mm.top O (aL (TH (2+E) hS q9 (by omega)) O ?_))))));rintro _ fZ ⟨rfl,bG⟩;have wb:((bE A4 i AR N cR dz N N::(aT 24 2 dz N N da (lV B E)++KK)).set (2+E) (az 2 (rg da E).a (rg da E).n (rg da E).c (l5 (gl B E))))[2+E]?=some (az 2 (rg da E).a (rg da E).n (rg da E).c (l5 (gl B E))):=by
   rw [mG,ay rfl,ay aaA]
  have e7:=qa ⟨(rg da E).a,(rg da E).n,(rg da E).c⟩ (l5 (gl B E));have kG:lQ fZ dz N da:=by
   have h8:=bG;rw [e7]at h8;exact h8.gQ 1 O
  have yM:Rd fZ A4 3 (fun q=> [Value.int .i64 (i:Int),.slice AR N cR,.slice dz N N].getD q undef):=by
   have h8:=bG;rw [e7]at h8;exact h8.rd 0 O
  refine aI O ?_;refine kK [8,10] [yP (aJ A4 2),yS (dz) (N) (N),yI ((E:Int)),yP (aJ (A4) 2),yS (dz) (N) (N),yI ((E:Int)),yP (aJ (dz) ((E:Int)).toNat),yS ((rg (da) ((E:Int))).a) ((rg (da) ((E:Int))).n) ((rg (da) ((E:Int))).c),.pr (fun v w'=>v= .slice (rg da E).a (kR (l5 (gl B E))).length (rg da E).c/\St w w' (bE A4 i AR N cR dz N N::(cd 24 dz N N da::(du 2 (da.set E ⟨(rg da E).a,(kR (l5 (gl B E))).length,(rg da E).c⟩) ((lV B E).set E (kR (l5 (gl B E))))++KK)))),yP (aJ dz ((E:Int)).toNat),.pr (fun _ w'=>St w w' (bE A4 i AR N cR dz N N::(aT 24 2 dz N N (da.set E ⟨(rg da E).a,(kR (l5 (gl B E))).length,(rg da E).c⟩) ((lV B E).set E (kR (l5 (gl B E))))++KK)))] (by kernel_rfl) (by kernel_rfl) (ly (ly (ly (ly (ly (ly (ly (ly (cI.2 ⟨Ye.cV (fun v w w' h hb=> ⟨h.1,h.2.aq hb⟩),(ly (cI.2 ⟨Ye.cV (fun v w w' h hb=>h.aq hb),(fun _ h=>by cases h)⟩))⟩))))))))) ?_ ?_
  ·refine⟨?_,?_,bZ O,cP fun _ _ hb _ _ _=>aX (yM.below hb) O (bK O O),cP fun _ _ hb _ _ _=>bn (yM.below hb) O (bK O O),bZ O,cP fun _ _ hb _ _ _=>aM (kG.aq hb).2 O (bK O O),cP fun _ _ hb _ _ _=>dI (kG.aq hb) O (bK O O),?_,?_,?_,av⟩
   ·intro e1 w1 cc eB cC fq hp a6 hq;show ao _ _ _ _ _ _ _;have hX:Rd w1 A4 3 (fun q=> [Value.int .i64 (i:Int),.slice AR N cR,.slice dz N N].getD q undef):=by { have cC:=pK cC (b:=1) (by kernel_rfl);rcases(show cc=0\/cc=1 by omega)with h | h; { exact Rd.below yM (fq h) }; { subst h;obtain⟨_,hT⟩:=hq 8 _ _ (by kernel_rfl) (by kernel_rfl) (by kernel_rfl) rfl rfl (by kernel_rfl);exact hT.rd 0 rfl } }
    refine aX hX O (ao.n (ig O (by exact O)))
   ·intro e1 w1 cc eB cC fq hp a6 hq;show ao _ _ _ _ _ _ _;have hX:Rd w1 A4 3 (fun q=> [Value.int .i64 (i:Int),.slice AR N cR,.slice dz N N].getD q undef):=by { have cC:=pK cC (b:=1) (by kernel_rfl);rcases(show cc=0\/cc=1 by omega)with h | h; { exact Rd.below yM (fq h) }; { subst h;obtain⟨_,hT⟩:=hq 8 _ _ (by kernel_rfl) (by kernel_rfl) (by kernel_rfl) rfl rfl (by kernel_rfl);exact hT.rd 0 rfl } }
    refine bn hX O (ao.n (ig O (by exact O)))
   ·refine kQ fun e1 w1 hb hp a6 hq=>?_
    refine aL (NQ (2+E) (bG.aq hb) wb (by omega)) O ?_;rintro _ w9 ⟨rfl,bS⟩;rw [List.set_set,qa ⟨(rg da E).a,(kR (l5 (gl B E))).length,(rg da E).c⟩ (kR (l5 (gl B E)))]at bS;exact ao.n (fQ.dn O ⟨O,bS⟩)
   ·intro e1 w1 cc eB cC fq hp a6 hq;show ao _ _ _ _ _ _ _;have hX:lQ w1 dz N da:=by { have cC:=pK cC (b:=1) (by kernel_rfl);rcases(show cc=0\/cc=1 by omega)with h | h; { exact kG.aq (fq h) }; { subst h;obtain⟨_,hT⟩:=hq 8 _ _ (by kernel_rfl) (by kernel_rfl) (by kernel_rfl) rfl rfl (by kernel_rfl);exact hT.gQ 1 rfl } }
    refine aM hX.2 O (ao.n (ig O (by exact O)))
   refine qM 1 fun e1 w1 hp a6 hq=>?_
   have eP:=hp 8 _ _ (by kernel_rfl) O O (by kernel_rfl);obtain⟨YQ,hT⟩:=eP;refine C5 (te:=24) (n:=N) (c:=N) (A:=dz) (xs:=da) 1 hT O O (by exact YQ) (by omega) ?_;intro wY hY;exact ao.n (fQ.st O hY)
  intro u gM _ hu _ _;have hT:=hu 10 _ O (by kernel_rfl);have hT:St w gM (bE A4 i AR N cR dz N N::(aT 24 2 dz N N (da.set E ⟨(rg da E).a,(kR (l5 (gl B E))).length,(rg da E).c⟩) ((lV B E).set E (cs (gl B E)))++KK)):=hT;rw [pG]at hT;refine kc O (aK O (aU O (tQ ?_)));exact⟨(E+1,_),by show N - (E+1)<N - E;omega,(ajs O),by show E+1<=N;omega,by simp [tn],hT⟩
 have qU:E=N:=by omega
 have eu:lV B E=bD M:=by
  rw [qU,<-qT,adW];apply jo
  ·rw [fk,tV,qT,ml]
  intro k h1 h2;rw [fk]at h1;have e1:=DY k (by omega);rw [bP h1,bP h2]at e1;rw [List.getElem_map];exact e1
 rw [eu]at hS;refine bw O (bz (dh O ?_));refine ao.b7 2 (hS.rd 0 O) O O O ?_;have aB:St w fI (bE A2 0 none 0 0 none 0 0::(az 2 AR N cR (bo M i)::(aT 24 2 dz N N da (bD M)++ []))):=by
  have hs:(aT 24 2 dz N N da (bD M)++ [az 2 AR N cR (bo M i),bE A2 0 none 0 0 none 0 0]).Sublist (bE A4 i AR N cR dz N N::(aT 24 2 dz N N da (bD M)++KK)):=by
   rw [qV];exact List.Sublist.cons _ (List.Sublist.append_left (List.Sublist.cons_cons _ (List.Sublist.cons_cons _ (List.nil_sublist _))) _)
  refine(hS.sub hs).perm ?_;rw [fM];exact(me).trans (List.Perm.swap _ _ _)
 refine cG 3 0 aB O O O O O O O fun fZ dM=>bM O (iL O (dM.rd 0 O) O ?_);refine .inr ⟨by omega,AR,cR,dz,N,da,?_,by rw [ml];exact tn,?_⟩
 ·rw [ml,ji];rfl
 rw [ml,ji];exact dM.tail
theorem US(A:aj)(n c:Nat)(xs:ai)(w:aa)(hR:cn w A n xs)(hn:n<=1000000000):
 aG prog 115 [.slice A n c] w (fun v w'=>∃b:Bool,v= .bool b/\(b=true↔rH xs)/\St w w' []):=by
 have gP:=hR.1;refine bA func115 O ntmps115 O (cJ O) ?_;refine a8 O (bc O O (dQ O (aI O ?_)));refine Cd.loop (α:=Nat) (fun k=> [(0,.slice A n c),(3,ak ((n:Int) - 1 - (k:Int)))]) (fun k w'=>St w w' []/\(k<=n - 1)/\∀j:Nat,n - k<=j->j<n->gi xs ((j:Int) - 1)<=gi xs j) (fun k=>n - k) 0 ⟨O,aO (Value.int .i64) (by show(n:Int) - 1=(n:Int) - 1 - ((0:Nat):Int);omega),av⟩ ⟨St.refl w,a7 _,fun j h1 h2=>by omega⟩ ?_;rintro k e w1 ⟨hS,hk,hK⟩;have de:=hS.gW hR;refine bL O (aR _ O (fun h1=>?_) (fun h1=>?_))
 ·have e1:((n:Int) - 1 - (k:Int))=((n - 1 - k:Nat):Int):=by omega
  have e2:((n:Int) - 1 - (k:Int) - 1)=((n - 1 - k:Nat):Int) - 1:=by omega
  refine dA O ?_;refine eY [xS (A) (n) (c),xI (((n:Int) - 1 - (k:Int))),xP (aJ (A) (((n:Int) - 1 - (k:Int))).toNat),xI (gi (xs) (((n:Int) - 1 - (k:Int)))),xS (A) (n) (c),xI (((n:Int) - 1 - (k:Int))),xI ((((n:Int) - 1 - (k:Int))) - ((1:Int))),xP (aJ (A) ((((n:Int) - 1 - (k:Int))) - ((1:Int))).toNat),xI (gi (xs) ((((n:Int) - 1 - (k:Int))) - ((1:Int)))),xB (decide (gi xs ((n:Int) - 1 - (k:Int))<gi xs ((n:Int) - 1 - (k:Int) - 1)))] O (fE O) ?_ ?_
  ·refine⟨Dr O,Dr O,fun _ _ hb _ _=>aM (de.aq hb).2 O Az,fun _ _ hb _ _=>bk (de.aq hb) O Az,Dr O,Dr O,fun _ _ _ _ _=>dQ O Az,fun _ _ hb _ _=>aM (de.aq hb).2 O Az,fun _ _ hb _ _=>bk (de.aq hb) O Az,?_,av⟩
   ·intro e1 w1 hb hp a6;refine aL (NN _ _ _) O ?_;rintro _ w2 ⟨rfl,au⟩;subst au;refine ao.n (d0 (by exact O))
  intro u w2 hb _;have aB:=hS.aq hb;refine fR O (aR _ O (fun h2=>?_) (fun h2=>?_))
  ·refine eT O (gx (fV ?_));refine dK O ?_;refine⟨false,rfl,⟨fun h=> (by cases h),fun h=>?_⟩,aB⟩;rw [e1]at h2;have h3:=List.pairwise_iff_getElem.1 h (n - 1 - k - 1) (n - 1 - k) (by omega) (by omega) (by omega);rw [<-bO (by omega),<-bO (by omega),show((n - 1 - k - 1:Nat):Int)=((n - 1 - k:Nat):Int) - 1 by omega]at h3;omega
  ·refine aE O (dQ O (aU O (tQ ?_)));refine⟨k+1,by show n - (k+1)<n - k;omega,⟨O,aO (Value.int .i64) (by show(n:Int) - 1 - (k:Int) - 1=(n:Int) - 1 - ((k+1:Nat):Int);omega),av⟩,aB,by omega,fun j D5 mY=>?_⟩
   by_cases ej:n - k<=j
   ·exact hK j ej mY
   ·have:(j:Int)=(n:Int) - 1 - (k:Int):=by omega
    rw [this];omega
 ·refine bw O (bz (gE O ?_));refine dK O ⟨true,O,⟨fun _=>?_,fun _=>O⟩,hS⟩;have key:∀j i:Nat,i<=j->j<n->gi xs i<=gi xs j:=by
   intro j
   induction j with
   | zero=>
    intro i hi _;have:i=0:=by omega
    rw [this];exact Int.le_refl _
   | succ j ih=>
    intro i hi hj
    by_cases e:i=j+1
    ·subst e;exact Int.le_refl _
    ·have h3:=ih i (by omega) (by omega);have h4:=hK (j+1) (by omega) hj;rw [show((j+1:Nat):Int) - 1=(j:Int) by omega]at h4;omega
  refine List.pairwise_iff_getElem.2 fun i j hi hj gU=>?_
  have:=key j i (by omega) (by omega)
  rwa [bO hi,bO hj]at this
theorem VS{n:Int}{R:ai}(h:∀x∈R,0<=x/\x<=n - 1):yz 0 (n - 1) R:=h
theorem RQ(n:Int)(A D:aj)(cA cD:Nat)(R:ai)(rs:List aN)(B:ah)(w:aa)(hR:cn w A R.length R)(hB:br w D B.length rs B)(hP:gm n R B):
 aG prog 60 [.agg #[ak n,.slice A R.length cA,.slice D B.length cD]] w (fun v w'=>v= .bool true/\St w w' []):=by
 have hn:=hP.n1;have qZ:=hP.oQ;have hle:=hP.len;have cT:=fun e (h:e<R.length)=>hP.row e h
 have bU:∀e:Nat,e<R.length->(gl B e).length<=500:=fun e h=>by
  have:=pL (N:=R.length) (cT e h).1.nodup fun x hx=> ((cT e h).2 x hx).1
  omega
 obtain⟨N,hN⟩:∃N,R.length=N:=⟨_,rfl⟩;rw [hN]at hR qZ hle cT bU|-;rw [hle]at hB|-;refine bA func60 O ntmps60 O (cJ O) (a8 O (nw (St.refl w) O O ?_));intro A1 w1 aA;have dd:=aA.below;have h1:Rd w1 A1 3 (fun j=> [Value.int .i64 n,.slice A N cA,.slice D N cD].getD j undef):=aA.rd 0 O;have hR:=hR.aq dd;have hB:=hB.aq dd;have aA:=aA.none;refine ar O (aX h1 O (bn h1 O (aL (zT _ _ _ _) O ?_)));rintro _ w1 ⟨rfl,rfl⟩;refine ar O (aX h1 O (iG (j:=0) h1 (by exact aO Value.pointer O) O O O O (aL (sL _ _ _ _) O ?_)));rintro _ w1 ⟨rfl,rfl⟩
 first | refine eA rfl rfl ?_ | refine eU rfl rfl ?_
 refine ar O (dp 23 O (fun h=>absurd (by omega) h) (fun _=>?_));refine ax O (ar O (ax O (ar O ?_)));refine dp 27 O (fun h=>by omega) (fun _=>?_);refine ax O (aX h1 O (ax O (bn h1 O ?_)));refine ax O (bc O O (ax O ?_));refine aX h1 O (ax O (bn h1 O ?_));refine ax O (bc O O (ax O (ar O ?_)));refine dp 36 O (fun h=>absurd O h) (fun _=>?_);refine ax O (aX h1 O (ax O (bn h1 O (ax O (aX h1 O (ax O (iG (j:=0) h1 (by exact aO Value.pointer O) O O O O ?_)))))));refine ax O (dQ O (ax O ?_));refine aL (VY A N cA R 0 (n - 1) _ hR (by omega)) O ?_;rintro _ w2 ⟨rfl,au⟩;have hb:=au.below;have h1:=Rd.below h1 hb;have hR:=hR.aq hb;have hB:=hB.aq hb;have aA:=aA.aq hb;clear au hb;refine ax O ?_
 first | refine eA rfl rfl ?_ | refine eU rfl rfl ?_
 refine ar O (dp 45 O (fun h=>absurd (VS hP.cj) h) (fun _=>?_));refine ax O (aX h1 O (ax O (bn h1 O (ax O (aL (US A N cA R _ hR (by omega)) O ?_)))));rintro _ w3 ⟨b,rfl,ZF,au⟩;obtain rfl:=ZF.2 hP.Ay;have hb:=au.below;have h1:=Rd.below h1 hb;have hR:=hR.aq hb;have hB:=hB.aq hb;have aA:=aA.aq hb;clear au hb;refine ax O ?_
 first | refine eA rfl rfl ?_ | refine eU rfl rfl ?_
 refine aI O (Cd.gh O (aE O (aX h1 O (bn h1 O ?_))));refine bc O O (aI O ?_);refine Cd.loop (α:=Nat) (fun k=> [(1,.pointer A1),(3,ak N),(52,.slice D N cD),(53,ak N),(54,ak k)]) (fun k w'=>k<=N/\St w3 w' []) (fun k=>N - k) 0 (ajs O) ⟨a7 _,St.refl _⟩ ?_;rintro k e w4 ⟨hk,au⟩;have hb:=au.below;have h1:=Rd.below h1 hb;have hR:=hR.aq hb;have hB:=hB.aq hb;have aA:=aA.aq hb;clear hb;refine bL O (aR _ O (fun h3=>?_) (fun h3=>?_))
 ·have ui:k<N:=by omega
  have ir:=hB.at_ (i:=(k:Int)) (by omega) (by omega);have ni:=ir.1;have hr5:=bU k ui;have jw:=cT k ui;refine aE O (aM hB.top.2 O (dI hB.top O ?_));refine ar O (bc O O (aI O ?_));refine Cd.loop (α:=Nat) (fun q=> [(1,.pointer A1),(3,ak N),(52,.slice D N cD),(53,ak N),(54,ak k),(4,ak k),(5,.slice (rg rs k).a (rg rs k).n (rg rs k).c),(59,.slice (rg rs k).a (rg rs k).n (rg rs k).c),(60,ak ((rg rs k).n:Int)),(61,ak q)]) (fun q w'=>q<=(rg rs k).n/\St w4 w' []) (fun q=> (rg rs k).n - q) 0 (ajs O) ⟨a7 _,St.refl _⟩ ?_;rintro q e w5 ⟨hq,jk⟩;have hb:=jk.below;have h1:=Rd.below h1 hb;have hR:=hR.aq hb;have hB:=hB.aq hb;have ir:=ir.aq hb;clear hb;refine bL O (aR _ O (fun h4=>?_) (fun h4=>?_))
  ·have zr:q< (gl B k).length:=by omega
   have hd:=jw.2 (gi (gl B k) q) (gi_in zr);refine aE O (aM ir.2 O (bk ir O (aI O ?_)));generalize Qc:gi (gl B k) q=d at*
   by_cases KY:0<q
   ·
    have He:=jw.1.x6 (show q - 1<q by omega) zr;rw [Qc,show((q - 1:Nat):Int)=(q:Int) - 1 by omega]at He;refine eY [xI (d),xI ((N:Int)),xI (((N:Int)) - ((1:Int))),xB (decide (0<=d/\d<=(N:Int) - 1)),xB (false),xB (false),xP (aJ (A1) 1),xS (A) (N) (cA),xI (d),xP (aJ (A) (d).toNat),xI (gi (R) (d)),xP (aJ (A1) 1),xS (A) (N) (cA),xI ((k:Int)),xP (aJ (A) ((k:Int)).toNat),xI (gi (R) ((k:Int))),xB (false),xB (false),xB (false),xI ((q:Int)),xB (true),xB (true),xS ((rg rs k).a) ((rg rs k).n) ((rg rs k).c),xI ((q:Int)),xI (((q:Int)) - ((1:Int))),xP (aJ ((rg rs k).a) (((q:Int)) - ((1:Int))).toNat),xI (gi (gl B k) (((q:Int)) - ((1:Int)))),xI (d),xB (false),xB (false),xB (false)] O (fE O) ?_ ?_
    ·refine⟨Dr O,Dr O,fun _ _ _ _ _=>dQ O Az,?_,fun _ _ _ _ _=>eA O O (Az (by exact aO Value.bool (dE (fun h=>h (by omega))))),Dr O,fun _ _ hb _ _=>ax O (aX (h1.below hb) O Az),fun _ _ hb _ _=>ax O (bn (h1.below hb) O Az),Dr O,fun _ _ hb _ _=>ax O (aM (hR.aq hb).2 O Az),fun _ _ hb _ _=>ax O (bk (hR.aq hb) O Az),fun _ _ hb _ _=>ax O (aX (h1.below hb) O Az),fun _ _ hb _ _=>ax O (bn (h1.below hb) O Az),Dr O,fun _ _ hb _ _=>ax O (aM (hR.aq hb).2 O Az),fun _ _ hb _ _=>ax O (bk (hR.aq hb) O Az),fun _ _ _ _ _=>Dk O (by exact aO Value.bool (dE (by omega))),Dr O,Dr O,Dr O,fun _ _ _ _ _=>Dk O (by exact aO Value.bool (eM (by omega))),Dr O,Dr O,Dr O,fun _ _ _ _ _=>ax O (dQ O Az),fun _ _ hb _ _=>ax O (aM (ir.aq hb).2 O Az),fun _ _ hb _ _=>ax O (bk (ir.aq hb) O Az),Dr O,fun _ _ _ _ _=>Dk O (by exact aO Value.bool (dE (by omega))),Dr O,Dr O,av⟩;intro e1 w1 hb hp a6;refine aL (sL _ _ _ _) O ?_;rintro _ w2 ⟨rfl,au⟩;subst au;refine ao.n (d0 (by exact O))
    intro u w6 hb _;refine fR O (Cd.gh O ?_);refine aE O (aK O (aU O (tQ ?_)));exact⟨q+1,by show(rg rs k).n - (q+1)< (rg rs k).n - q;omega,(ajs O),by omega,jk.aq hb⟩
   refine eY [xI (d),xI ((N:Int)),xI (((N:Int)) - ((1:Int))),xB (decide (0<=d/\d<=(N:Int) - 1)),xB (false),xB (false),xP (aJ (A1) 1),xS (A) (N) (cA),xI (d),xP (aJ (A) (d).toNat),xI (gi (R) (d)),xP (aJ (A1) 1),xS (A) (N) (cA),xI ((k:Int)),xP (aJ (A) ((k:Int)).toNat),xI (gi (R) ((k:Int))),xB (false),xB (false),xB (false),xI ((q:Int)),xB (false),xB (false),xU,xU,xU,xU,xU,xU,xU,xB (false),xB (false)] O (fE O) ?_ ?_
   ·refine⟨Dr O,Dr O,fun _ _ _ _ _=>dQ O Az,?_,fun _ _ _ _ _=>eA O O (Az (by exact aO Value.bool (dE (fun h=>h (by omega))))),Dr O,fun _ _ hb _ _=>ax O (aX (h1.below hb) O Az),fun _ _ hb _ _=>ax O (bn (h1.below hb) O Az),Dr O,fun _ _ hb _ _=>ax O (aM (hR.aq hb).2 O Az),fun _ _ hb _ _=>ax O (bk (hR.aq hb) O Az),fun _ _ hb _ _=>ax O (aX (h1.below hb) O Az),fun _ _ hb _ _=>ax O (bn (h1.below hb) O Az),Dr O,fun _ _ hb _ _=>ax O (aM (hR.aq hb).2 O Az),fun _ _ hb _ _=>ax O (bk (hR.aq hb) O Az),fun _ _ _ _ _=>Dk O (by exact aO Value.bool (dE (by omega))),Dr O,Dr O,Dr O,fun _ _ _ _ _=>Dk O (by exact aO Value.bool (dE (by omega))),Dr O,Dr O,Dr O,Dr O,Dr O,Dr O,Dr O,Dr O,Dr O,Dr O,av⟩;intro e1 w1 hb hp a6;refine aL (sL _ _ _ _) O ?_;rintro _ w2 ⟨rfl,au⟩;subst au;refine ao.n (d0 (by exact O))
   intro u w6 hb _;refine fR O (Cd.gh O ?_);refine aE O (aK O (aU O (tQ ?_)));exact⟨q+1,by show(rg rs k).n - (q+1)< (rg rs k).n - q;omega,(ajs O),by omega,jk.aq hb⟩
  refine bw O (bz (dh O (aK O (aU O (tQ ?_)))));exact⟨k+1,by show N - (k+1)<N - k;omega,(ajs O),by omega,au.aq jk.below⟩
 clear au h3;refine bw O (bz (dh O ?_));refine aX h1 O (bn h1 O ?_);refine bc O O (aI O ?_);refine Cd.loop (α:=Nat) (fun k=> [(1,.pointer A1),(100,.slice D N cD),(101,ak N),(102,ak k)]) (fun k w'=>k<=N/\St w4 w' []) (fun k=>N - k) 0 (ajs O) ⟨a7 _,St.refl _⟩ ?_;rintro k e w5 ⟨hk,au⟩;have hb:=au.below;have h1:=Rd.below h1 hb;have hB:=hB.aq hb;have aA:=aA.aq hb;clear hb;refine bL O (aR _ O (fun h3=>?_) (fun h3=>?_))
 ·have ui:k<N:=by omega
  have ir:=hB.at_ (i:=(k:Int)) (by omega) (by omega);have ni:=ir.1;have hr5:=bU k ui;have jw:=cT k ui;refine aE O (aM hB.top.2 O (dI hB.top O ?_));refine ar O (bc O O (aI O ?_));refine Cd.loop (α:=Nat) (fun q=> [(1,.pointer A1),(100,.slice D N cD),(101,ak N),(102,ak k),(9,.slice (rg rs k).a (rg rs k).n (rg rs k).c),(106,.slice (rg rs k).a (rg rs k).n (rg rs k).c),(107,ak ((rg rs k).n:Int)),(108,ak q)]) (fun q w'=>q<=(rg rs k).n/\w'=w5) (fun q=> (rg rs k).n - q) 0 (ajs O) ⟨a7 _,O⟩ ?_;rintro q e w6 ⟨hq,rfl⟩;refine bL O (aR _ O (fun h4=>?_) (fun h4=>?_))
  ·have zr:q< (gl B k).length:=by omega
   have q8:=gi_in zr;have hd:=jw.2 (gi (gl B k) q) q8;refine aE O (aM ir.2 O (bk ir O (ar O (aX h1 O (bn h1 O (ar O ?_))))));generalize Qc:gi (gl B k) q=d at*;have nh:=hB.at_ (i:=d) (by omega) (by omega);have hrdn:=nh.1;have zt:(gl B d).length<=500:=by
    have:=bU d.toNat (by omega)
    rwa [Int.toNat_of_nonneg hd.1.1]at this
   refine aM hB.top.2 O (dI hB.top O ?_);refine bc O O (aI O ?_);refine Cd.loop (α:=Nat) (fun t=> [(1,.pointer A1),(100,.slice D N cD),(101,ak N),(102,ak k),(9,.slice (rg rs k).a (rg rs k).n (rg rs k).c),(106,.slice (rg rs k).a (rg rs k).n (rg rs k).c),(107,ak ((rg rs k).n:Int)),(108,ak q),(116,.slice (rg rs d).a (rg rs d).n (rg rs d).c),(117,ak ((rg rs d).n:Int)),(118,ak t)]) (fun t w'=>t<=(rg rs d).n/\w'=w6) (fun t=> (rg rs d).n - t) 0 (ajs O) ⟨a7 _,O⟩ ?_;rintro t e w7 ⟨ht,rfl⟩;refine bL O (aR _ O (fun h5=>?_) (fun h5=>?_))
   ·have htn:t< (gl B d).length:=by omega
    have mV:=gi_in htn;have htr:=hP.tr k (by omega) d q8 _ mV;refine aE O (aM nh.2 O (bk nh O (ar O (aL (Nx _ _ _ (gl B k) _ _ ir jw.1 (by omega)) O ?_))));rintro _ _ ⟨⟨p,rfl⟩,rfl⟩;refine ar O ?_
    first | refine eA rfl rfl ?_ | refine eU rfl rfl ?_
    refine aI O (mD O (fun h=>h htr) (aE O (aK O (aU O (tQ ?_)))));exact⟨t+1,by show(rg rs d).n - (t+1)< (rg rs d).n - t;omega,(ajs O),by omega,O⟩
   refine bw O (bz (dh O (aK O (aU O (tQ ?_)))));exact⟨q+1,by show(rg rs k).n - (q+1)< (rg rs k).n - q;omega,(ajs O),by omega,O⟩
  refine bw O (bz (dh O (aK O (aU O (tQ ?_)))));exact⟨k+1,by show N - (k+1)<N - k;omega,(ajs O),by omega,au⟩
 refine bw O (bz (gE O ?_));exact dK O ⟨O,aA⟩
end
end Go.Proofs.YtagdamiiececaaaGreatDoor.Vc
