/-
  The texts Key, Mdl, Po8, Pr5, Pr6, Pr7, Pr8, Pr9, Pt3, Pt4, Pt6, Pt7, Bit in one. Conditions: as each part states them.
-/
import Derived.Test.YtopgfgdgfjddpaaGreatDoorInst
import Derived.Test.YtopgfgdgfjddpaaGreatDoorZg
import Derived.Test.YtopgfgdgfjddpaaGreatDoorZb
import Derived.Lib.ItoaLen
import Derived.Test.YtopgfgdgfjddpaaGreatDoorLayd
import Derived.Shelf.Strconv.AppendIntPublic10
import Derived.Test.YtopgfgdgfjddpaaGreatDoorZa
import Derived.Test.YtopgfgdgfjddpaaGreatDoorZd
import Derived.Test.YtopgfgdgfjddpaaGreatDoorZe
import Derived.Test.YtopgfgdgfjddpaaGreatDoorZc
import Derived.Test.YtopgfgdgfjddpaaGreatDoorZf
namespace Go.Proofs.YtopgfgdgfjddpaaGreatDoor.Vc
section
open Go.RowKit Tryz
variable{w:World}
def lM(xs:List Int):List UInt8:=xs.flatMap fun x=>Lib.itoa x++ [32]
def qy(xs:List Int):ByteArray:=⟨(lM xs).toArray⟩
def MQ(l:List UInt8):Nat:=l.foldl (fun a b=>10*a+ (b.toNat - 48)) 0
theorem HY{d:Nat}(h:d<10):(UInt8.ofNat (48+d)).toNat=48+d:=by
 rw [UInt8.toNat_ofNat'];omega
theorem Dp:∀u:Nat,MQ (Lib.decDigits u)=u∧∀b∈Lib.decDigits u,48≤b.toNat∧b.toNat≤57:=by
 intro u
 induction u using Nat.strongRecOn with
 | ind u ih=>
  rw [Lib.decDigits]
  split
  ·rename_i h;refine⟨?_,fun b hb=>?_⟩
   ·simp only [MQ,List.foldl_cons,List.foldl_nil,HY h];omega
   ·simp only [eT]at hb;subst hb;rw [HY h];omega
  ·rename_i h;obtain⟨h1,h2⟩:=ih (u / 10) (by omega);refine⟨?_,fun b hb=>?_⟩
   ·unfold MQ at h1⊢;rw [List.foldl_append,h1];simp only [List.foldl_cons,List.foldl_nil,HY (show u%10<10 by omega)];omega
   ·rcases iG.1 hb with hb | hb
    ·exact h2 b hb
    ·simp only [eT]at hb;subst hb;rw [HY (by omega)];omega
theorem Oj{u v:Nat}(h:Lib.decDigits u=Lib.decDigits v):u=v:=by rw [←(Dp u).1,h,(Dp v).1]
theorem Sm{x:Int}:∀b∈Lib.itoa x,b≠32:=by
 intro b hb e;subst e;unfold Lib.itoa at hb
 split at hb
 ·rcases iW.1 hb with h | h
  ·exact absurd h (by decide)
  have:=(Dp _).2 _ h;exact absurd this (by decide)
 have:=(Dp _).2 _ hb;exact absurd this (by decide)
theorem ab5{x y:Int}(h:Lib.itoa x=Lib.itoa y):x=y:=by
 have Tm:∀(u v:Nat),45::Lib.decDigits u≠Lib.decDigits v:=fun u v e=>by
  have:=(Dp v).2 45 (by rw [←e];simp);exact absurd this (by decide)
 unfold Lib.itoa at h
 split at h<;>split at h
 ·simp only [List.cons.injEq,true_and]at h;have:=Oj h;omega
 ·exact absurd h (Tm _ _)
 ·exact absurd h.symm (Tm _ _)
 have:=Oj h;omega
theorem Uo:∀ {a b r s:List UInt8},(∀x∈a,x≠32)→(∀x∈b,x≠32)→a++32::r=b++32::s→a=b∧r=s
 | [],[],_,_,_,_,h=>by simpa using h
 | [],y::b,_,_,_,hb,h=>by
  simp only [List.nil_append,List.cons_append,List.cons.injEq]at h;exact absurd h.1.symm (hb y (by simp))
 | x::a,[],_,_,ha,_,h=>by
  simp only [List.nil_append,List.cons_append,List.cons.injEq]at h;exact absurd h.1 (ha x (by simp))
 | x::a,y::b,_,_,ha,hb,h=>by
  simp only [List.cons_append,List.cons.injEq]at h;obtain⟨h1,h2⟩:=Uo (fun z hz=>ha z (by simp [hz])) (fun z hz=>hb z (by simp [hz])) h.2;exact⟨by rw [h.1,h1],h2⟩
theorem EN(x:Int)(xs:List Int):lM (x::xs)=Lib.itoa x++32::lM xs:=by simp [lM]
theorem acv(xs:List Int)(x:Int):lM (xs++ [x])=(lM xs++Lib.itoa x)++ [32]:=by simp [lM]
theorem Sr:∀ {xs ys:List Int},lM xs=lM ys→xs=ys
 | [],[],_=>rfl
 | [],y::ys,h=>by rw [EN]at h;simp [lM]at h
 | x::xs,[],h=>by rw [EN]at h;simp [lM]at h
 | x::xs,y::ys,h=>by
  rw [EN,EN]at h;obtain⟨h1,h2⟩:=Uo Sm Sm h;rw [ab5 h1,Sr h2]
theorem Sq{xs ys:List Int}(h:qy xs=qy ys):xs=ys:=by
 have h1:(lM xs).toArray=(lM ys).toArray:=ax ByteArray.data h;exact Sr (by simpa using h1)
theorem fold_push:∀(l:List UInt8) (s:ByteArray),(l.map fun b=> ((b.toNat:Nat):Int)).foldl (fun r n=>r.push (UInt8.ofNat n.toNat)) s=⟨s.data++l.toArray⟩
 | [],s=>by simp
 | b::l,s=>by
  simp only [List.map_cons,List.foldl_cons];rw [fold_push l];have e:UInt8.ofNat ((b.toNat:Nat):Int).toNat=b:=by simp
  rw [e];have e2:(s.push b).data=s.data.push b:=O;rw [e2]
  congr 1
  apply Array.ext';simp
def mL(w : World): Prop := Lib.TabIs prog w "internal/strconv.uint64pow10" .u64 Lib.pow10Tab
theorem mL.later{w':World}(h:mL w)(hb:Below w.heap.size w w'):mL w':=Lib.tabBelow_of_tabIs h w' hb.toBelow
def vd(B:Nat)(w:World)(A:aiC)(m c:Nat)(l:List UInt8):Prop:=w.ownsRow B 5 1 (.slice A m c) m (Lib.byteCells l)
theorem Tt{B m:Nat}{v:Value}{xs:List Value}(h:w.ownsRow B 5 1 v m xs):∃A c,v= .slice A m c:=by
 rcases h.2 with⟨rfl,rfl⟩ | ⟨g,cap,cur,rfl,_⟩
 ·exact⟨_,_,O⟩
 exact⟨_,_,O⟩
theorem vd.later{B:Nat}{w':World}{A:aiC}{m c:Nat}{l:List UInt8}(h:vd B w A m c l)(hb:Below w.heap.size w w'):vd B w' A m c l:=by
 refine⟨h.1,?_⟩;rcases h.2 with h1 | ⟨g,cap,cur,h1,h2,h3,r⟩
 ·exact .inl h1
 exact .inr ⟨g,cap,cur,h1,h2,by rw [hb.block g (Array.getElem?_eq_some_iff.1 h3).1];exact h3,r⟩
section
variable {N:Nat} {ops:Array Oper} {K:Env→World→Prop} {rest:List Oper} {e:Env} {w0 w w':World} {ks:List Ck} {d:Nat} {ty:TypeId} {pos:String} {af:Array Edge}
theorem Vw{B m c:Nat}{A:aiC}{l:List UInt8}{A1:aiC}{b:UInt8}{x y:Operand}(hO:vd B w A m c l)(hB:B≤w.heap.size)(hR:Rd w A1 1 (fun _=> .int .u8 (b.toNat:Nat)))(hx:ev e x= .slice A m c)(hy:ev e y= .slice A1 1 1)(hm:m≤1000000000)(hb:Nat.blt d N=true)
 (hK:∀A2 c2 w',Go.RowKit.Below B w w'→vd B w' A2 (m+1) c2 (l++ [b])→aa prog N ops K rest (a7 e d (.slice A2 (m+1) c2)) w'):
 aa prog N ops K (⟨some d,.call ⟨.builtin .append, #[x,y], #[30,30]⟩,ty,pos,af,none⟩::rest) e w:=by
 obtain⟨inf,hi,fv,hs,iS⟩:=bp.get prog 5;obtain⟨p,hp,hc⟩:=hR 0 (by omega);obtain⟨a,rfl⟩:∃a,A1=some a:=by cases A1 with | none=>simp [aq]at hp | some q=>exact⟨q,rfl⟩
 simp only [aq,Option.map_some,pj]at hp;obtain⟨v',w',hr,DT,hg,_⟩:=run_append_own (P:=prog) (w:=w) B 30 ty 5 inf (.int .u8 0) 1 1 underlying30 hi fv hs iS rfl (by decide) (.slice A m c) m (Lib.byteCells l) hO a 1 1 [.int .u8 (b.toNat:Nat)] rfl
  (fun j u hj=>by
    match j,hj with
    | 0,hj=>simp at hj;subst hj;rw [hp];exact hc) (fun u hu=>by simp at hu;subst hu;rfl) (by simp only [maxLen];omega) (by omega) hB
 obtain⟨A2,c2,rfl⟩:=Tt DT;refine .val (w':=w') ?_ hb (hK A2 c2 w' ?_ ?_)
 ·simp [execOp,resolve,invoke,builtin,hx,hy,hr]
 ·exact(Go.RowKit.Below.refl B w).grown hg hB (fun k hk=> (hO.lt k hk).1)
 ·show w'.ownsRow B 5 1 (.slice A2 (m+1) c2) (m+1) (Lib.byteCells (l++ [b]));rw [show Lib.byteCells (l++ [b])=Lib.byteCells l++ [.int .u8 (b.toNat:Nat)] by simp [Lib.byteCells]];exact DT
theorem VE{B m c:Nat}{A:aiC}{l:List UInt8}{x:Operand}(hO:vd B w A m c l)(hx:ev e x= .slice A m c)(hb:Nat.blt d N=true)(hK:aa prog N ops K rest (a7 e d (.string ⟨l.toArray⟩)) w):
 aa prog N ops K (⟨some d,.convert 30 9 x,ty,pos,af,none⟩::rest) e w:=by
 have hr:(Conv.bytesToString (.slice A m c)).run prog w= .ok (.string ⟨l.toArray⟩) w:=by
  have hl:(Lib.byteCells l).length=m*1:=hO.1;rcases hO.2 with⟨h1,h2⟩ | ⟨g,cap,cur,h1,_⟩
  ·simp only [Value.slice.injEq]at h1;obtain⟨rfl,rfl,rfl⟩:=h1;have:l=[]:=s7 (by rw [Lib.byteCells_length]at hl;omega);subst this
   rfl
  simp only [Value.slice.injEq]at h1;obtain⟨rfl,_,rfl⟩:=h1;have h2:=hO.cells (g:=g) O;have h3:=run_loadCells_list (P:=prog) (w:=w) (⟨g,0,none⟩:Addr) (Lib.byteCells l) h2;rw [hl,Nat.mul_one]at h3;have e1:Lib.byteCells l=(l.map fun b=> ((b.toNat:Nat):Int)).map (Value.int .u8):=by simp [Lib.byteCells]
  rw [e1]at h3;rw [run_bytesToString w _ m c _ h3,fold_push];simp
 refine .val (w':=w) ?_ hb hK;simp [execOp,hx,convert,run_underlying underlying30,run_underlying underlying9,run_underlying underlying5,hr]
end
theorem U8{B m c : Nat}{A : aiC}{l : List UInt8}(x : Int)(w : World)(hx : -9223372036854775808 ≤ x ∧ x ≤ 9223372036854775807)(hO : vd B w A m c l)(hB : B ≤ w.heap.size)(hm : m ≤ 1000000000)(hT : Lib.TabBelow prog B w "internal/strconv.uint64pow10" .u64 Lib.pow10Tab):
 aA prog 212 [.slice A m c,aiD x,aiD 10] w (fun v w'=>∃A' c',v= .slice A' (m+ (Lib.itoa x).length) c'∧vd B w' A' (m+ (Lib.itoa x).length) c' (l++Lib.itoa x)∧Go.RowKit.Below B w w'):=by
 have key:=Any.strconv_AppendInt_10 lai B m x hx.1 hx.2 (.slice A m c) (Lib.byteCells l) w hO hB (by omega) hT;refine Calls.mono key fun y w' ⟨v',hy,DT,hb,_⟩=> ⟨_,hy,?_⟩
 obtain⟨A2,c2,rfl⟩:=Tt DT;refine⟨A2,c2,O,?_,hb⟩;show w'.ownsRow B 5 1 (.slice A2 _ c2) _ (Lib.byteCells (l++Lib.itoa x));rw [Lib.byteCells_append];exact DT
theorem Sn(x:Int)(hx: -9223372036854775808≤x∧x≤9223372036854775807):(Lib.itoa x).length≤21:=Lib.itoa_length_le x hx.1 hx.2
theorem Ss:∀(xs:List Int),(∀x∈xs,-9223372036854775808≤x∧x≤9223372036854775807)→(lM xs).length≤22*xs.length
 | [],_=>by simp [lM]
 | x::xs,h=>by
  have h1:=Sn x (h x (by simp));have h2:=Ss xs fun y hy=>h y (by simp [hy])
  rw [EN];simp only [dm,List.length_cons];omega
theorem LA(A:aiC)(n c:Nat)(xs:List Int)(w:World)(hT:mL w)(hR:bS w A n xs)(hx:∀x∈xs,-9223372036854775808≤x∧x≤9223372036854775807)(hn:n≤1000000):
 aA prog 154 [.slice A n c] w (fun v w'=>v= .string (qy xs)∧St w w' []):=by
 have dA:=hR.1;refine bk func154 O ntmps154 O (cK O) ?_;refine aQ O (aa.len O O (ay O ?_));refine Cd.loop (α:=Nat×aiC×Nat) (fun s=> [(3,.slice s.2.1 (lM (xs.take s.1)).length s.2.2),(6,.slice A n c),(7,aiD (n:Int)),(8,aiD (s.1:Int))]) (fun s w'=>vd w.heap.size w' s.2.1 (lM (xs.take s.1)).length s.2.2 (lM (xs.take s.1))∧Go.RowKit.Below w.heap.size w w'∧s.1≤n) (fun s=>n - s.1) (0,none,0) ⟨O,O,O,O,ae⟩ ⟨World.ownsRow_nil w _ _ _,Go.RowKit.Below.refl _ _,aW _⟩ ?_;rintro⟨i,A3,c3⟩ e w1 ⟨hO,cN,hi⟩;dsimp only at hO cN hi⊢;refine bK O ?_;refine aB _ O (fun h1=>?_) (fun h1=>?_)
 ·have dT:i<xs.length:=by omega
  have jc : bS w1 A n xs := hR.later ⟨cN, fun s => s.elim⟩;have zu : Lib.TabBelow prog w.heap.size w1 "internal/strconv.uint64pow10" .u64 Lib.pow10Tab := (Lib.tabBelow_of_tabIs hT).on cN
  have fW:=hx _ (gi_in dT);have G3:=Ss (xs.take i) fun x hm=>hx x (List.mem_of_mem_take hm)
  have rq:=Sn _ fW;rw [pf]at G3;have l7:=cN.size;have Cu:lM (xs.take (i+1))=(lM (xs.take i)++Lib.itoa (gi xs (i:Int)))++ [32]:=by rw [xr dT,acv]
  refine av O (aw jc.2 O O O (by omega) (by omega) (aT jc O (by omega) O O (ad O (aa.call (U8 (gi xs (i:Int)) _ fW hO l7 (by omega) zu) O O O ?_))));rintro _ w2 ⟨A4,c4,rfl,ZB,dG⟩;have hsz2:=dG.size;refine ad O (aa.IF (St.refl w2) O O O O ?_);intro A5 w3 az;have ZC:=ZB.later az.below;have gu:Go.RowKit.Below w.heap.size w2 w3:=az.below.toBelow.mono (by omega);have hsz3:=gu.size;refine Vw (b:=32) ZC (by omega) (az.rd 0 rfl |>.congr fun j hj=>by obtain rfl:j=0:=by { have:j<1:=hj;omega };rfl) rfl rfl (by omega) rfl ?_;intro A6 c6 w4 kq ZD;refine ad O (aa.add O O O (by omega) (aF O (tQ ?_)));refine⟨(i+1,A6,c6),by show n - (i+1)<n - i;omega,⟨?_,O,O,O,ae⟩,?_,((cN.trans dG).trans gu).trans kq,by show i+1≤n;omega⟩
  ·show Value.slice _ _ _= .slice _ _ _;rw [Cu];simp [Nat.add_assoc]
  show vd _ w4 A6 (lM (xs.take (i+1))).length c6 (lM (xs.take (i+1)));rw [Cu];have e1:((lM (xs.take i)++Lib.itoa (gi xs (i:Int)))++ [32]).length=(lM (xs.take i)).length+ (Lib.itoa (gi xs (i:Int))).length+1:=by simp;omega
  rw [e1];exact ZD
 have dq:i=xs.length:=by omega
 subst dq;rw [List.take_length]at hO;refine aY O (aZ (cL O ?_));refine VE hO (by show Value.slice _ _ _= .slice _ _ _;rw [List.take_length]) O ?_;refine bh O (HM O ?_);exact⟨rfl,⟨⟨cN,fun s=>s.elim⟩,fun k hk=> (by cases hk),List.nodup_nil⟩⟩
end
section
open Go.RowKit Go.MapKept Tryz
section
variable {κ ν:Type} [DecidableEq κ]
def kl:List (κ×ν)→κ→List (κ×ν)
 | [],_=> []
 | (y,v)::r,x=>if y=x then r else(y,v)::kl r x
theorem Om:∀ {L:List (κ×ν)} {x:κ} {j:Nat} {v:ν},oS L x=some (j,v)→kl L x=L.eraseIdx j
 | (y,w)::r,x,j,v,h=>by
  simp only [oS]at h
  split at h
  ·rename_i e;simp only [pj,Prod.mk.injEq]at h;obtain⟨rfl,rfl⟩:=h;simp only [kl,aj e,List.eraseIdx_zero,List.tail_cons]
  ·rename_i e;cases hf:oS r x with
   | none=>simp [hf]at h
   | some p=>
    simp only [hf,Option.map_some,pj,Prod.mk.injEq]at h;obtain⟨rfl,rfl⟩:=h;simp only [kl,ag e,List.eraseIdx_cons_succ,Om (L:=r) (x:=x) (j:=p.1) (v:=p.2) hf]
theorem Ol:∀ {L:List (κ×ν)} {x:κ},oS L x=none→kl L x=L
 | [],_,_=>rfl
 | (y,w)::r,x,h=>by
  simp only [oS]at h
  split at h
  ·cases h
  ·rename_i e;rw [Option.map_eq_none_iff]at h;simp only [kl,ag e,Ol h]
theorem IZ:∀(L:List (κ×ν)) (x:κ),(kl L x).Sublist L
 | [],_=> .slnil
 | (y,v)::r,x=>by
  simp only [kl]
  split
  ·exact(fJ _).cons _
  ·exact(IZ r x).cons_cons _
theorem Ph:∀ {L:List (κ×ν)} {x:κ},x∉L.map (·.1)→fP L x=none
 | [],_,_=>rfl
 | (y,v)::r,x,h=>by
  simp only [List.map_cons,iW,not_or]at h;simp only [fP,ag (fun e:y=x=>h.1 e.symm),Ph h.2]
theorem Pg:∀ {L:List (κ×ν)} {x y:κ},(L.map (·.1)).Nodup→fP (kl L x) y=if x=y then none else fP L y
 | [],x,y,_=>by simp [kl,fP]
 | (z,v)::r,x,y,h=>by
  simp only [List.map_cons,pg]at h;simp only [kl]
  split
  ·rename_i e;subst e
   split
   ·rename_i e;subst e;exact Ph h.1
   ·rename_i e;simp only [fP,ag e]
  ·rename_i e;simp only [fP,Pg (L:=r) (x:=x) (y:=y) h.2]
   by_cases e2:z=y
   ·subst e2;rw [aj rfl,ag (fun q=>e q.symm),aj rfl]
   ·rw [ag e2,ag e2]
theorem afg(L:List (κ×ν))(x:κ)(u:ν):∀y,y∈(jO L x u).map (·.1)↔y=x∨y∈L.map (·.1):=by
 induction L with
 | nil=>intro y;simp [jO]
 | cons p r ih=>
  obtain⟨z,w⟩:=p;intro y;simp only [jO]
  split
  ·rename_i e;subst e;simp
  ·simp only [List.map_cons,iW,ih];exact⟨fun h=>by rcases h with h | h | h<;>simp [h],fun h=>by rcases h with h | h | h<;>simp [h]⟩
theorem TY:∀ {L:List (κ×ν)} {x:κ} {u:ν},(L.map (·.1)).Nodup→((jO L x u).map (·.1)).Nodup
 | [],x,u,_=>by simp [jO]
 | (z,v)::r,x,u,h=>by
  simp only [List.map_cons,pg]at h;simp only [jO]
  split
  ·rename_i e;subst e;simp only [List.map_cons,pg];exact h
  ·rename_i e;simp only [List.map_cons,pg];refine⟨fun hm=>?_,TY h.2⟩;rcases(afg r x u z).1 hm with h1 | h1
   ·exact e h1
   ·exact h.1 h1
theorem XJ{L:List (κ×ν)}{x:κ}(h:(L.map (·.1)).Nodup):((kl L x).map (·.1)).Nodup:=h.sublist ((IZ L x).map _)
theorem afi(L:List (κ×ν))(x:κ)(u:ν):(jO L x u).Perm ((x,u)::kl L x):=by
 induction L with
 | nil=>exact .refl _
 | cons p r ih=>
  obtain⟨z,w⟩:=p;simp only [jO,kl]
  split
  ·rename_i e;exact .refl _
  ·exact(ih.cons _).trans (.swap _ _ _)
theorem Pm:∀ {L:List (κ×ν)} {x:κ} {u:ν},fP L x=some u→L.Perm ((x,u)::kl L x)
 | (z,w)::r,x,u,h=>by
  simp only [fP]at h;simp only [kl]
  split at h
  ·rename_i e;subst e;injection h with h
   subst h;rw [aj rfl]
  ·rename_i e;rw [ag e];exact((Pm h).cons _).trans (.swap _ _ _)
theorem Jm:∀ {L:List (κ×ν)} {x:κ},fP L x=none→kl L x=L
 | [],_,_=>rfl
 | (z,w)::r,x,h=>by
  simp only [fP]at h;simp only [kl]
  split at h
  ·cases h
  ·rename_i e;rw [ag e,Jm h]
end
section
variable {P:Program} {N:Nat} {ops:Array Oper} {K:Env→World→Prop} {rest:List Oper} {e:Env} {w0 w w':World} {ks:List Ck} {d:Nat} {ty:TypeId} {pos:String} {af:Array Edge}
variable {κ ν:Type} [DecidableEq κ] {kd:TypeDesc} {kv:κ→Value} {vv:ν→Value}
theorem I4{α β:Type}(f:α→β):∀(l:List α) (j:Nat),(l.eraseIdx j).map f=(l.map f).eraseIdx j
 | [],_=>rfl
 | _::_,0=>rfl
 | a::r,j+1=>by simp only [List.eraseIdx_cons_succ,List.map_cons,I4 f r j]
theorem afT{t kt et T:TypeId}[hU:bB P t (.map kt et)][hk:bB P kt kd](KT:ub kd kv){g:Nat}{L:List (κ×ν)}(i:Nat)(x:κ)(Hv:TypeId)(hS:St w0 w ks)(hi:ks[i]?=some (lD T g (kc kv vv L))):
 ∃w',(Builtin.delete_ #[t,Hv] ty #[.map (some g),kv x]).run P w= .ok (.tuple #[]) w'∧St w0 w' (ks.set i (lD T g (kc kv vv (kl L x)))):=by
 obtain⟨_,es,cl,hh,hm⟩:=hS.HE i hi;have hf:=Ge (vv:=vv) KT x es.toList L 0 hm;have wH:=MapKept.run_findKey (P:=P) (w:=w) hk.out hf;cases l5:oS L x with
 | none=>
  refine⟨{ w with heap:=w.heap.setIfInBounds g (.map es cl) },?_,hS.HW hi ?_⟩
  ·simp [Builtin.delete_,run_underlying hU.out,MapKept.run_getObj_map hh,MapKept.run_checkKey hk.out (KT.isKey x),wH,l5,MapKept.run_setObj_map _ hh,Result.andThen]
  ·rw [Ol l5];exact hm
 | some p=>
  obtain⟨j,v⟩:=p;refine⟨{ w with heap:=w.heap.setIfInBounds g (.map (es.eraseIdxIfInBounds j) cl) },?_,hS.HW hi ?_⟩
  ·simp [Builtin.delete_,run_underlying hU.out,MapKept.run_getObj_map hh,MapKept.run_checkKey hk.out (KT.isKey x),wH,l5,MapKept.run_setObj_map _ hh,Result.andThen]
  ·rw [Om l5];have e1:(es.eraseIdxIfInBounds j).toList=es.toList.eraseIdx j:=by
    unfold Array.eraseIdxIfInBounds
    split
    ·rw [Array.toList_eraseIdx]
    ·rename_i h;rw [List.eraseIdx_of_length_le (by simpa using h)]
   rw [e1,I4,hm];unfold kc;rw [I4]
theorem VG{t kt et T Hv:TypeId}{m k:Operand}[hU:bB P t (.map kt et)][bB P kt kd](KT:ub kd kv){g:Nat}{L:List (κ×ν)}(i:Nat){a:κ}(hS:St w0 w ks)(hi:ks[i]?=some (lD T g (kc kv vv L)))(hm:ev e m= .map (some g))(hk:ev e k=kv a)(hK:∀w',St w0 w' (ks.set i (lD T g (kc kv vv (kl L a))))→aa P N ops K rest e w'):aa P N ops K (⟨none,.call ⟨.builtin .delete, #[m,k], #[t,Hv]⟩,ty,pos,af,none⟩::rest) e w:=by
 obtain⟨w',uM,oi⟩:=afT (P:=P) (t:=t) (ty:=ty) KT i a Hv hS hi;refine .agM (w':=w') (v:= .tuple #[]) ?_ (hK _ oi);simp [execOp,resolve,invoke,builtin,hm,hk,uM]
end
section
variable {P:Program} {N:Nat} {ops:Array Oper} {K:Env→World→Prop} {rest:List Oper} {e:Env} {w0 w w':World} {ks:List Ck} {d:Nat} {ty:TypeId} {pos:String} {af:Array Edge}
theorem VL{κ ν:Type}[DecidableEq κ]{kd:TypeDesc}{kv:κ→Value}{vv:ν→Value}{t kt et:TypeId}{z v:Value}{s b:Nat}[bB P t (.map kt et)][bB P kt kd][bp P et z s b](KT:ub kd kv){g:Nat}{L:List (κ×ν)}{m ix:Operand}{x:κ}(hR:Be w g (kc kv vv L))(hx:ev e m= .map (some g))(hy:ev e ix=kv x)(hv:((fP L x).map vv).getD z=v)(hb:Nat.blt d N=true)(hK:aa P N ops K rest (a7 e d (.tuple #[v,.bool (fP L x).isSome])) w):aa P N ops K (⟨some d,.lookup t m ix true,ty,pos,af,none⟩::rest) e w:=by
 subst hv;refine .val (w':=w) ?_ hb hK;have:=My (P:=P) (t:=t) (x:=x) KT hR true;simp [execOp,hx,hy,this]
end
def xc(l:List Int):Value:= .string (qy l)
theorem CA:ub .string xc:=⟨fun _=>ae,fun a b h=>Sq (by injection h)⟩
abbrev nh:=List Int×aG×List Int
def CG(u:aG×List Int):Value:=u.1.v
def pF(t:TypeId)(M:List nh):List Ck:=M.map fun p=>ah t p.2.1.a p.2.1.n p.2.1.c p.2.2
def jb(M:List nh)(x:List Int):aG:=((fP M x).map (·.1)).getD dE
def jH(M:List nh)(x:List Int):List Int:=((fP M x).map (·.2)).getD []
section
variable {w0 w w':World} {ks pre:List Ck} {t:TypeId} {M:List nh} {x:List Int}
theorem Jr{u:aG×List Int}(h:fP M x=some u):jb M x=u.1∧jH M x=u.2:=by simp [jb,jH,h]
theorem Pp(h:fP M x=none):jb M x=dE∧jH M x=[]:=by simp [jb,jH,h]
theorem St.Uy(h:St w0 w (pre++ (pF t M++ks))):St w0 w (ah t (jb M x).a (jb M x).n (jb M x).c (jH M x)::(pre++ (pF t (kl M x)++ks))):=by
 cases hg:fP M x with
 | none=>
  rw [(Pp hg).1,(Pp hg).2,Jm hg];exact h.nil t
 | some u=>
  rw [(Jr hg).1,(Jr hg).2];refine h.perm ?_;have h1:(pF t M).Perm (ah t u.1.a u.1.n u.1.c u.2::pF t (kl M x)):=(Pm hg).map _;exact((h1.append_right ks).append_left pre).trans iH
theorem Nu{u:aG×List Int}(h:St w0 w (ah t u.1.a u.1.n u.1.c u.2::(pre++ (pF t (kl M x)++ks)))):St w0 w (pre++ (pF t (jO M x u)++ks)):=by
 refine h.perm ?_;have h1:(ah t u.1.a u.1.n u.1.c u.2::pF t (kl M x)).Perm (pF t (jO M x u)):=((afi M x u).map fun p:nh=>ah t p.2.1.a p.2.1.n p.2.1.c p.2.2).symm;exact iH.symm.trans ((h1.append_right ks).append_left pre)
theorem Il(h:St w0 w (pre++ (pF t M++ks))):bS w (jb M x).a (jb M x).n (jH M x):=(h.Uy (x:=x)).bc 0 rfl
theorem VW(h:St w0 w (pre++ (pF t M++ks))):St w0 w (pre++ (pF t (kl M x)++ks)):=h.sub (((((IZ M x).map _).append_right ks)).append_left pre)
end
end
section
open Tryz
variable{x:List Int}{i:Nat}
def iF(x:List Int)(i:Nat):List Int:=x.set i (-1)
theorem Mw(x:List Int)(i:Nat):(iF x i).length=x.length:=by simp [iF]
theorem CY{k:Nat}(hk:k<x.length):gi (iF x i) (k:Int)=if k=i then -1 else gi x (k:Int):=by
 rw [bX (by rw [Mw];exact hk),bX hk];unfold iF;rw [List.getElem_set]
 by_cases e:i=k
 ·rw [aj e,aj e.symm]
 rw [ag e,ag (fun h=>e h.symm)]
theorem HR{n:Nat}{y:List Int}(hx:x.length=n)(hy:y.length=n):iF x i=iF y i↔∀k:Nat,k<n→k≠i→gi x (k:Int)=gi y (k:Int):=by
 constructor
 ·intro h k hk bt;have:=ax (fun l=>gi l (k:Int)) h;simp only [CY (x:=x) (i:=i) (show k<x.length by omega),CY (x:=y) (i:=i) (show k<y.length by omega),ag bt]at this;exact this
 intro h;refine uS (n:=n) (by rw [Mw,hx]) (by rw [Mw,hy]) fun k hk=>?_
 rw [CY (by omega),CY (by omega)]
 split
 ·rfl
 rename_i e;exact h k hk e
theorem afP{n:Nat}{y:List Int}{j:Nat}(hx:x.length=n)(hy:y.length=n)(hi:i<n)(h0:∀e∈y,0≤e)(h:iF x i=iF y j):i=j:=by
 have:=ax (fun l=>gi l (i:Int)) h;simp only [CY (x:=x) (i:=i) (show i<x.length by omega),CY (x:=y) (i:=j) (show i<y.length by omega),aj]at this
 by_cases e:i=j
 ·exact e
 rw [ag e]at this;have h2:=h0 _ (gi_in (show i<y.length by omega));omega
theorem Jq(M:List nh)(x l:List Int)(u:aG×List Int):jH (jO M x u) l=if x=l then u.2 else jH M l:=by
 unfold jH;rw [Jk]
 split<;>rfl
theorem Jp{M:List nh}{l:List Int}(h:(M.map (·.1)).Nodup):jH (kl M x) l=if x=l then []else jH M l:=by
 unfold jH;rw [Pg h]
 split<;>rfl
structure iT(n:Nat)(fl:aiB)(D:Nat→Nat→Prop)(G:Nat→Prop)(b:Nat)(M:List nh):Prop where
 nd:(M.map (·.1)).Nodup
 el:∀l y,y∈jH M l→∃y' i:Nat,y=(y':Int)∧y'<fl.length∧i<n∧D y' i∧l=iF (gl fl (y':Int)) i
 al:∀y i:Nat,y<fl.length→i<n→D y i→(y:Int)∈jH M (iF (gl fl (y:Int)) i)∨G y
 len:∀l,(jH M l).length≤b
section
variable {n:Nat} {fl:aiB} {D D':Nat→Nat→Prop} {G G':Nat→Prop} {b:Nat} {M:List nh} {c:List Int}
def xm(n:Nat)(fl:aiB)(c:List Int)(f i:Nat)(y j:Nat):Prop:=jP n c (gl fl (y:Int))∧(y<f∨y=f∧j<i)
theorem iT.zero:iT n fl (xm n fl c 0 0) (fun _=>False) 0 []:=⟨by simp,fun l y h=>by simp [jH,fP]at h,fun y i _ _ h=>by have:=h.2;omega,fun l=>by simp [jH,fP]⟩
theorem iT.congr(h:iT n fl D G b M)(hD:∀y i,y<fl.length→i<n→(D y i↔D' y i)):iT n fl D' G b M:=
 ⟨h.nd,fun l y hy=>by obtain⟨y',i,h1,h2,h3,h4,h5⟩:=h.el l y hy;exact⟨y',i,h1,h2,h3,(hD y' i h2 h3).1 h4,h5⟩,fun y i hy hi hd=>h.al y i hy hi ((hD y i hy hi).2 hd),h.len⟩
theorem iT.more(h:iT n fl D G b M){b':Nat}(hb:b≤b'):iT n fl D G b' M:=⟨h.nd,h.el,h.al,fun l=>kJ (h.len l) hb⟩
theorem iT.skip{f:Nat}(h:iT n fl (xm n fl c f 0) G b M)(hf:¬jP n c (gl fl (f:Int))):iT n fl (xm n fl c (f+1) 0) G b M:=
 h.congr fun y i _ _=> ⟨fun h=> ⟨h.1,by have:=h.2;omega⟩,fun h=> ⟨h.1,by
  have h2:=h.2;have:y≠f:=fun e=>hf (e▸h.1)
  omega⟩⟩
theorem iT.row{f:Nat}(h:iT n fl (xm n fl c f n) G b M):iT n fl (xm n fl c (f+1) 0) G b M:=
 h.congr fun y i _ hi=> ⟨fun h=> ⟨h.1,by have:=h.2;omega⟩,fun h=> ⟨h.1,by have:=h.2;omega⟩⟩
theorem iT.put{f i:Nat}(h:iT n fl (xm n fl c f i) G b M)(hf:f<fl.length)(hi:i<n)(hH:jP n c (gl fl (f:Int)))(s:aG):
 iT n fl (xm n fl c f (i+1)) G (b+1) (jO M (iF (gl fl (f:Int)) i) (s,jH M (iF (gl fl (f:Int)) i)++ [(f:Int)])):=by
 refine⟨TY h.nd,fun l y hy=>?_,fun y j hy hj hd=>?_,fun l=>?_⟩
 ·rw [Jq]at hy
  split at hy
  ·rename_i e;rcases iG.1 hy with hy | hy
   ·obtain⟨y',j,h1,h2,h3,h4,h5⟩:=h.el _ y hy;exact⟨y',j,h1,h2,h3,⟨h4.1,by have:=h4.2;omega⟩,e.symm.trans h5⟩
   exact⟨f,i,eT.1 hy,hf,hi,⟨hH,.inr ⟨O,Nat.lt_succ_self _⟩⟩,e.symm⟩
  obtain⟨y',j,h1,h2,h3,h4,h5⟩:=h.el _ y hy;exact⟨y',j,h1,h2,h3,⟨h4.1,by have:=h4.2;omega⟩,h5⟩
 ·rw [Jq]
  by_cases e:y=f∧j=i
  ·obtain⟨rfl,rfl⟩:=e;rw [aj rfl];exact .inl (List.mem_append_right _ (by simp))
  rcases h.al y j hy hj ⟨hd.1,by have:=hd.2;omega⟩with h1 | h1
  ·left
   split
   ·rename_i e2;rw [e2];exact List.mem_append_left _ h1
   exact h1
  exact .inr h1
 rw [Jq]
 split
 ·rename_i e;have:=h.len (iF (gl fl (f:Int)) i);rw [dm];simp;omega
 have:=h.len l;omega
theorem iT.mono(h:iT n fl D G b M)(hG:∀y,y<fl.length→G y→G' y):iT n fl D G' b M:=
 ⟨h.nd,h.el,fun y i hy hi hd=> (h.al y i hy hi hd).imp id (hG y hy),h.len⟩
theorem iT.del(h:iT n fl D G b M){x:List Int}(hx:∀y:Nat,(y:Int)∈jH M x→G y):iT n fl D G b (kl M x):=by
 refine⟨XJ h.nd,fun l y hy=>?_,fun y i hy hi hd=>?_,fun l=>?_⟩
 ·rw [Jp h.nd]at hy
  split at hy
  ·cases hy
  exact h.el l y hy
 ·rcases h.al y i hy hi hd with h1 | h1
  ·rw [Jp h.nd]
   split
   ·rename_i e;rw [←e]at h1;exact .inr (hx y h1)
   exact .inl h1
  exact .inr h1
 rw [Jp h.nd]
 split
 ·exact aW _
 exact h.len l
theorem iT.Ip{N:Nat}(h:iT n fl (fun y _=>jP n c (gl fl (y:Int))) G b M)(hl:∀x∈fl,x.length=n∧∀e∈x,0≤e){x i:Nat}(hx:x<fl.length)(hi:i<n)(hH:jP n c (gl fl (x:Int))){y:Int}(hy:y∈jH M (iF (gl fl (x:Int)) i)):∃y':Nat,y=y'∧y'<fl.length∧xz n fl c x y':=by
 obtain⟨y',j,h1,h2,h3,h4,h5⟩:=h.el _ y hy;have hm:∀z:Nat,z<fl.length→gl fl (z:Int)∈fl:=fun z hz=>by rw [db hz];exact dQ _
 have Cm:=hl _ (hm x hx);have KN:=hl _ (hm y' h2);have e:i=j:=afP Cm.1 KN.1 hi KN.2 h5;subst e;exact⟨y',h1,h2,hH,h4,i,hi,hx,h2,fun k hk bt=> (HR Cm.1 KN.1).1 h5 k hk bt⟩
end
theorem W6{n:Nat}{c x:List Int}(hc:c.length=n):nW c x=c↔jP n c x:=by
 constructor
 ·intro h k hk bt;have:=ax (fun l=>gi l (k:Int)) h;simp only [Bt (a:=c) (b:=x) (show k<c.length by omega)]at this
  by_cases e:gi c (k:Int)=gi x (k:Int)
  ·exact e
  rw [ag e]at this;exact absurd this.symm bt
 intro h;refine uS (n:=n) (by rw [Bu,hc]) hc fun k hk=>?_
 rw [Bt (by omega)]
 split
 ·rfl
 rename_i e;refine nL fun h2=>e (h k hk fun h3=>h2 h3.symm)
def iy(n:Nat)(fl:aiB)(c:List Int)(f:Nat):List Int:=(bw f).filter fun y=>decide (jP n c (gl fl y))
theorem V3{n:Nat}{fl:aiB}{c:List Int}{f:Nat}:iy n fl c (f+1)=if jP n c (gl fl (f:Int))then iy n fl c f++ [(f:Int)]else iy n fl c f:=by
 have:bw (f+1)=bw f++ [(f:Int)]:=by
  unfold bw;rw [ng,iQ];rfl
 unfold iy;rw [this,nS]
 by_cases c:jP n c (gl fl (f:Int))
 ·rw [aj c];simp [c]
 rw [ag c];simp [c]
theorem Dg{n:Nat}{fl:aiB}{c:List Int}{f:Nat}{y:Int}:y∈iy n fl c f↔(0≤y∧y<f)∧jP n c (gl fl y):=by
 unfold iy;rw [fA,im,jT]
def pk(N:Nat)(al:List Int)(j:Nat):Nat:=if j<al.length then(gi al (j:Int)).toNat else N
theorem iV.jump{N:Nat}{K:Nat→Nat→Prop}(hK:vU N K){L:List Int}:∀(d f:Nat),iV N K f L→f+d≤N→(∀x,f≤x→x<f+d→¬K x x)→iV N K (f+d) L
 | 0,f,h,_,_=>h
 | d+1,f,h,hn,hx=>by
  have h1:=h.skip hK (by omega) (.inr (hx f (a8 _) (by omega)));have:=iV.jump hK d (f+1) h1 (by omega) fun x h2 h3=>hx x (by omega) (by omega)
  rwa [show f+1+d=f+ (d+1) by omega]at this
section
variable {n:Nat} {fl:aiB} {c:List Int} {L:List Int}
theorem FG(f:Nat):SA (iy n fl c f):=pd _ (mb _)
theorem NX{j:Nat}:pk fl.length (iy n fl c fl.length) j≤fl.length:=by
 unfold pk
 split
 ·rename_i h;have:=(Dg.1 (gi_in h)).1;omega
 exact a8 _
theorem adb(h:iV fl.length (jA n fl c) 0 L):iV fl.length (jA n fl c) (pk fl.length (iy n fl c fl.length) 0) L:=by
 have hle:=NX (n:=n) (fl:=fl) (c:=c) (j:=0);have:=h.jump (jA.yK n fl c) (pk fl.length (iy n fl c fl.length) 0) 0 (by omega) fun x _ hx hk=>by
  have hm:(x:Int)∈iy n fl c fl.length:=Dg.2 ⟨by omega,hk.1⟩;obtain⟨p,hp,e⟩:=gJ.1 hm;rw [←bX hp]at e;unfold pk at hx;rw [aj (by omega)]at hx
  by_cases e0:p=0
  ·subst e0;omega
  have:=(FG (n:=n) (fl:=fl) (c:=c) fl.length).yA (show 0<p by omega) hp;omega
 rwa [Nat.zero_add]at this
theorem ade{j:Nat}(hj:j< (iy n fl c fl.length).length){f:Nat}(hf:gi (iy n fl c fl.length) (j:Int)=f)(h:iV fl.length (jA n fl c) (f+1) L):iV fl.length (jA n fl c) (pk fl.length (iy n fl c fl.length) (j+1)) L:=by
 have hle:=NX (n:=n) (fl:=fl) (c:=c) (j:=j+1);have jY:=(Dg.1 (gi_in hj)).1;have zE:f+1≤pk fl.length (iy n fl c fl.length) (j+1):=by
  unfold pk
  split
  ·rename_i h2;have:=(FG (n:=n) (fl:=fl) (c:=c) fl.length).yA (show j<j+1 by omega) h2;omega
  omega
 have:=h.jump (jA.yK n fl c) (pk fl.length (iy n fl c fl.length) (j+1) - (f+1)) (f+1) (by omega) fun x sM hx hk=>by
  have hm:(x:Int)∈iy n fl c fl.length:=Dg.2 ⟨by omega,hk.1⟩;obtain⟨p,hp,e⟩:=gJ.1 hm;rw [←bX hp]at e;have hpj:j<p:=by
   rcases Nat.lt_trichotomy j p with h2 | h2 | h2
   ·exact h2
   ·subst h2;omega
   have:=(FG (n:=n) (fl:=fl) (c:=c) fl.length).yA h2 hj;omega
  unfold pk at hx;rw [aj (by omega)]at hx
  by_cases e0:p=j+1
  ·subst e0;omega
  have:=(FG (n:=n) (fl:=fl) (c:=c) fl.length).yA (show j+1<p by omega) hp;omega
 rwa [show f+1+ (pk fl.length (iy n fl c fl.length) (j+1) - (f+1))=pk fl.length (iy n fl c fl.length) (j+1) by omega]at this
end
end
section
open Go.RowKit Tryz
variable{Q:List Nat}{y:Nat}{R:List Int}{i:Int}
theorem T6(PB A:aiC)(N c n:Nat)(rs:List aG)(fl:aiB)(f i:Nat)(w:World)(hT:mL w)(hb:Rd w PB 1 (fun _=> .slice A N c))(hM:br w A N rs fl)(hf:f<N)(hN:N≤1000)(hl:(gl fl (f:Int)).length=n)(hi:i<n)(hn:n≤100)(hr:∀x∈gl fl (f:Int),0≤x∧x≤1000000):
 aA prog 213 [aiD f,aiD i,.pointer PB] w (fun v w'=>v=xc (iF (gl fl (f:Int)) i)∧St w w' []):=by
 have gy:=hM.len;have fZ:=hM.at_ (i:=(f:Int)) (by omega) (by omega);have iD:=fZ.1;refine bk func213 O ntmps213 O (cK O) (aQ O (aM (j:=0) hb (by exact ax Value.pointer (oA _).symm) O O O O (ad O (aw hM.top.2 O O O (by omega) (by omega) (bQ hM.top O (by omega) O O (aa.call (Fs _ _ _ _ _ fZ (by omega)) O O O ?_))))));rintro _ w1 ⟨A6,c6,rfl,hS⟩;refine ad O (aw (hS.bc 0 O).2 O O O (by omega) (by omega) (jR 0 hS O O O (by omega) ?_));intro w2 ar;have ar:St w w2 [ah 2 A6 (rg rs (f:Int)).n c6 (iF (gl fl (f:Int)) i)]:=ar;refine ad O ?_;refine aa.call (LA A6 _ c6 (iF (gl fl (f:Int)) i) _ (hT.later ar.below) (ar.bc 0 O) (fun x hx=>by
  rcases List.mem_or_eq_of_mem_set hx with h | h
  ·have:=hr x h;omega
  omega) (by omega)) rfl rfl rfl ?_
 rintro _ w3 ⟨rfl,ak⟩;refine bh O (HM O ?_);exact⟨O,ar.none.later ak.below⟩
abbrev sR(PB A:aiC)(N c:Nat)(fj:aiC)(L:List Int)(Aa:aiC)(ca:Nat)(al:List Int)(g:Nat)(M:List nh)(ks:List Ck):List Ck:=
 ah 2 fj N N L::Bx 22 1 PB [.slice A N c]::ah 2 Aa al.length ca al::lD 132 g (kc xc CG M)::(pF 2 M++ks)
def ky(Q:List Nat):List Int:=Q.map fun x:Nat=> (x:Int)
theorem Sf{k:Nat}(h:k<Q.length):gi (ky Q) (k:Int)=(Q.getD k 0:Nat):=by
 rw [bX (by simp [ky,h])];simp [ky,cJ,h]
theorem Pj{k:Nat}(h:k<Q.length):(Q++ [y]).getD k 0=Q.getD k 0:=by
 rw [cJ,lQ h,←cJ]
theorem abW{k:Nat}(h:k≤Q.length):ky ((Q++ [y]).drop k)=ky (Q.drop k)++ [(y:Int)]:=by
 rw [List.drop_append_of_le_length h];simp [ky]
theorem DC{L:List Int}{f:Nat}{z:Nat}(h:0≤gi L (z:Int)):0≤gi (L.set y (f:Int)) (z:Int):=by
 simp only [gi,ir,cJ,oI]at h⊢
 split
 ·split
  ·simp
  exact Int.le_refl _
 exact h
theorem Pn{L:List Int}{f:Nat}(h:y<L.length):gi (L.set y (f:Int)) (y:Int)=f:=by
 rw [bX (by simpa using h)];simp
set_option maxHeartbeats 4000000 in
theorem aem(A:aiC)(N c:Nat)(rs:List aG)(fl:aiB)(n:Nat)(A2:aiC)(c2:Nat)(cm:List Int)(w:World)(hT:mL w)(hM:br w A N rs fl)(hC:bS w A2 n cm)(hN:N≤401)(hn:n≤5)(hl:∀x∈fl,x.length=n∧∀e∈x,0≤e∧e≤1000000)(rv:fl.Nodup):
 aA prog 155 [.slice A N c,.slice A2 n c2] w (fun v w'=>∃A' L,v= .slice A' N N∧iV N (jA n fl cm) N L∧St w w' [ah 2 A' N N L]):=by
 have gy:=hM.len;have cg:=hC.1;have vr:∀f:Nat,f<N→gl fl (f:Int)∈fl:=fun f hf=>by rw [db (by omega)];exact dQ _
 have uH:∀x∈fl,x.length=n∧∀e∈x,0≤e:=fun x hx=> ⟨(hl x hx).1,fun e he=> ((hl x hx).2 e he).1⟩
 have G3:∀x∈fl,x.length=n:=fun x hx=> (hl x hx).1
 refine bk func155 O ntmps155 O (cK O) (aQ O ?_);refine aa.box (v:= .slice A N c) (St.refl w) O O (by show(1:Nat)≤maxLen;simp [maxLen]) ?_;intro PB w1 ao;have cN:Rd w1 PB 1 (fun _=> .slice A N c):=Rd.one (ao.rd 0 O);refine ad O (dJ (i:= -1) ao O O O ?_);intro AM w2 ar;have cN:Rd w2 PB 1 (fun _=> .slice A N c):=Rd.one (ar.rd 1 O);refine aM (j:=0) cN (by exact ax Value.pointer (oA _).symm) O O O O (aa.len O O (aa.call (Ij AM 1 (-1) N _ (ar.bc 0 O) (by omega)) O O O ?_));rintro _ w3 ⟨fj,rfl,ak⟩;have az:=ar.call ak;clear ak;refine ad O (Ie az O ?_);intro g w4 aJ;have cN:Rd w4 PB 1 (fun _=> .slice A N c):=Rd.one (aJ.rd 3 O);refine ad O (VI O O (ad O (aM (j:=0) cN (by exact ax Value.pointer (oA _).symm) O O O O (aa.call (Fa _ _ _ _) O O O ?_))));rintro _ w4 ⟨rfl,rfl⟩;have aK:St w w4 [ah 2 none 0 0 [],lD 132 g [],ah 2 fj N N (List.replicate N (-1)),ah 2 AM 1 1 [-1],Bx 22 1 PB [.slice A N c]]:=aJ.nil 2;have aK:St w w4 (sR PB A N c fj (List.replicate N (-1)) none 0 (iy n fl cm 0) g [] []):=by
  have h9:=aK.perm (show List.Perm _ (ah 2 AM 1 1 [-1]::sR PB A N c fj (List.replicate N (-1)) none 0 (iy n fl cm 0) g [] []) from by
   classical
   refine lR.2 fun z=>?_
   simp only [sR,pF,List.map_nil,nP,lE,nQ,iy,bw,List.range_zero,List.filter_nil,List.length_nil];have:kc xc CG ([]:List nh)=[]:=O;rw [this];omega)
  exact h9.tail
 clear aJ az ar ao cN;refine ay O ?_;refine Cd.loop (α:=Nat×aiC×Nat×List nh) (fun z=> [(1,.slice A2 n c2),(2,.pointer PB),(5,.slice fj N N),(6,.map (some g)),(7,.func (.func 213) #[] #[.pointer PB]),(8,.slice z.2.1 (iy n fl cm z.1).length z.2.2.1),(26,aiD (N:Int)),(27,aiD (z.1:Int))]) (fun z w'=>z.1≤N∧iT n fl (xm n fl cm z.1 0) (fun _=>False) (5*z.1) z.2.2.2∧St w w' (sR PB A N c fj (List.replicate N (-1)) z.2.1 z.2.2.1 (iy n fl cm z.1) g z.2.2.2 [])) (fun z=>N - z.1) (0,none,0,[]) ⟨O,O,O,O,O,O,O,O,ae⟩ ⟨aW _,iT.zero,aK⟩ ?_;clear aK;rintro⟨f,Aa,ca,M⟩ e w5 ⟨hf,iA,hS⟩;dsimp only at hf iA hS⊢;have dL:(iy n fl cm f).length≤500:=by
  refine kJ (oJ _ _) ?_;rw [bw,fN,pe];omega
 refine bK O ?_;refine aB _ O (fun h1=>?_) (fun h1=>?_)
 ·have jY:f<N:=by omega
  have cN:Rd w5 PB 1 (fun _=> .slice A N c):=Rd.one (hS.rd 1 O);have zp:=hS.bF hM;have fZ:=zp.at_ (i:=(f:Int)) (by omega) (by omega);have iD:=fZ.1;have Ej:=hl _ (vr f jY);have hnn:(rg rs (f:Int)).n=n:=by omega
  have D5:=W6 (n:=n) (c:=cm) (x:=gl fl (f:Int)) cg;have BZ:=V3 (n:=n) (fl:=fl) (c:=cm) (f:=f);refine av O (aM (j:=0) cN (by exact ax Value.pointer (oA _).symm) O O O O (ad O (aw zp.top.2 O O O (by omega) (by omega) (bQ zp.top O (by omega) O O (aa.call (Of A2 (rg rs (f:Int)).a n c2 (rg rs (f:Int)).n (rg rs (f:Int)).c cm (gl fl (f:Int)) _ (hS.eY hC) fZ hnn.symm (by omega)) O O O ?_)))));rintro _ w6 ⟨na,WX,rfl,ak⟩;have aR:=hS.later ak.below;have PN:=aR.eY hC;have DF:=ak.bc 0 O;clear ak hS cN zp fZ;refine ad O ?_;refine aa.call (Vg na _ WX (nW cm (gl fl (f:Int))) A2 n c2 cm _ DF PN (by rw [Bu];omega)) O O O ?_;rintro _ w7 ⟨rfl,ak⟩;have aV:=aR.later ak.below;clear ak aR DF PN
  first | refine eC rfl rfl ?_ | refine aa.not rfl rfl ?_
  refine ay O ?_;refine aB _ O (fun h2=>?_) (fun h2=>?_)
  ·have ij:¬jP n cm (gl fl (f:Int)):=fun h=>h2 (D5.2 h)
   rw [ag ij]at BZ;refine av O (aa.add O O O (by omega) (aF O (tQ ?_)));refine⟨(f+1,Aa,ca,M),by show N - (f+1)<N - f;omega,⟨O,O,O,O,O,?_,O,O,ae⟩,by show f+1≤N;omega,(iA.skip ij).more (by show 5*f≤5* (f+1);omega),?_⟩
   ·show Value.slice _ _ _=_;rw [BZ]
   show St w w7 (sR _ _ _ _ _ _ _ _ (iy n fl cm (f+1)) _ _ _);rw [BZ];exact aV
  have kb:jP n cm (gl fl (f:Int)):=D5.1 (iP.1 h2);rw [aj kb]at BZ;refine av O (dJ aV O O O ?_);intro A9 w8 bA;refine eK 3 bA O (bA.bc 0 O) O O O (by omega) (by omega) O ?_;intro AZ cZ w9 aS;have aS:St w w9 (sR PB A N c fj (List.replicate N (-1)) AZ cZ (iy n fl cm (f+1)) g M []):=by
   have h9:=aS.tail;rw [BZ];show St w w9 (_::_::ah _ AZ ((iy n fl cm f++ [(f:Int)]).length) cZ _::_);rw [dm];exact h9
  have QQ:(iy n fl cm f).length+1=(iy n fl cm (f+1)).length:=by rw [BZ,dm];rfl
  clear bA aV;refine ad O (aa.len O O (ay O ?_));refine Cd.loop (α:=Nat×List nh) (fun z=> [(1,.slice A2 n c2),(2,.pointer PB),(5,.slice fj N N),(6,.map (some g)),(7,.func (.func 213) #[] #[.pointer PB]),(8,.slice AZ (iy n fl cm (f+1)).length cZ),(26,aiD (N:Int)),(27,aiD (f:Int)),(9,aiD (f:Int)),(44,aiD (n:Int)),(45,aiD (z.1:Int))]) (fun z w'=>z.1≤n∧iT n fl (xm n fl cm f z.1) (fun _=>False) (5*f+z.1) z.2∧St w w' (sR PB A N c fj (List.replicate N (-1)) AZ cZ (iy n fl cm (f+1)) g z.2 [])) (fun z=>n - z.1) (0,M) ⟨O,O,O,O,O,ax (fun m=>Value.slice AZ m cZ) QQ,O,O,O,O,O,ae⟩ ⟨aW _,iA,aS⟩ ?_;clear aS iA;rintro⟨i,M⟩ e dB ⟨hi,iA,hS⟩;dsimp only at hi iA hS⊢;refine bK O ?_;refine aB _ O (fun h3=>?_) (fun h3=>?_)
  ·have dq:i<n:=by omega
   refine av O (aa.call (T6 PB A N c n rs fl f i _ (hT.later hS.below) (Rd.one (hS.rd 1 O)) (hS.bF hM) jY (by omega) Ej.1 dq (by omega) Ej.2) O O O ?_);rintro _ eu ⟨rfl,ak⟩;have hS:=hS.later ak.below;have hlen:=iA.len (iF (gl fl (f:Int)) i);have qv:=iA.put (by omega) dq kb;generalize oZ:iF (gl fl (f:Int)) i=kx at*;have hrx:=(Il (pre:=[_,_,_,_]) (x:=kx) hS).1;clear ak;refine ad O ?_;refine Nj (v:= .slice (jb M kx).a (jb M kx).n (jb M kx).c) CA (hS.HL 3 rfl) rfl rfl (by unfold jb;cases fP M kx<;>rfl) rfl ?_;refine ad O (dJ hS O O O ?_);intro A9 gm eG;have eG:=St.Uy (pre:=[_,_,_,_,_]) (x:=kx) eG;refine eK 0 eG O (eG.bc 1 O) O O O (by omega) (by omega) O ?_;intro AY cY dW fC;refine Ih O CA 5 (a:=kx) (u:=(⟨AY,(jb M kx).n+1,cY⟩,jH M kx++ [(f:Int)])) fC O O O O ?_;intro me ic;have gr:=(Nu (M:=M) (x:=kx) (u:=(⟨AY,(jb M kx).n+1,cY⟩,jH M kx++ [(f:Int)])) (pre:=[_,_,_,_,_]) ic).tail;refine ad O (aa.add O O O (by omega) (aF O (tQ ?_)));exact⟨(i+1,jO M kx (⟨AY,(jb M kx).n+1,cY⟩,jH M kx++ [(f:Int)])),by show n - (i+1)<n - i;omega,⟨O,O,O,O,O,O,O,O,O,O,O,ae⟩,by show i+1≤n;omega,qv _,gr⟩
  obtain rfl:i=n:=by omega
  refine aY O (aZ (cL O (aa.add O O O (by omega) (aF O (tQ ?_)))));exact⟨(f+1,AZ,cZ,M),by show N - (f+1)<N - f;omega,⟨O,O,O,O,O,O,O,O,ae⟩,by show f+1≤N;omega,iA.row.more (by show 5*f+i≤5* (f+1);omega),hS⟩
 obtain rfl:f=N:=by omega
 subst gy;have wq:=jA.yK n fl cm;have iA:iT n fl (fun y _=>jP n cm (gl fl (y:Int))) (fun y=>0≤gi (List.replicate fl.length (-1:Int)) (y:Int)) 2005 M:=((iA.congr fun y i hy hi=> ⟨fun h=>h.1,fun h=> ⟨h,.inl hy⟩⟩).mono fun y _ h=>h.elim).more (by omega);have pv:=adb (n:=n) (fl:=fl) (c:=cm) (iV.zero fl.length (jA n fl cm));have gH:=fun(L:List Int) (j f:Nat) (hj:j< (iy n fl cm fl.length).length) (hf:gi (iy n fl cm fl.length) (j:Int)=f) h=>ade (n:=n) (fl:=fl) (c:=cm) (L:=L) hj hf h
 have lp:=fun y:Int=>Dg (n:=n) (fl:=fl) (c:=cm) (f:=fl.length) (y:=y)
 generalize iy n fl cm fl.length=al at*;refine aY O (aZ (cL O (aa.len O O (ay O ?_))));refine Cd.loop (α:=Nat×List Int×List nh) (fun z=> [(1,.slice A2 n c2),(2,.pointer PB),(5,.slice fj fl.length fl.length),(6,.map (some g)),(7,.func (.func 213) #[] #[.pointer PB]),(62,.slice Aa al.length ca),(63,aiD (al.length:Int)),(64,aiD (z.1:Int))]) (fun z w'=>z.1≤al.length∧iV fl.length (jA n fl cm) (pk fl.length al z.1) z.2.1∧iT n fl (fun y _=>jP n cm (gl fl (y:Int))) (fun y=>0≤gi z.2.1 (y:Int)) 2005 z.2.2∧St w w' (sR PB A fl.length c fj z.2.1 Aa ca al g z.2.2 [])) (fun z=>al.length - z.1) (0,List.replicate fl.length (-1),M) ⟨O,O,O,O,O,O,O,O,ae⟩ ⟨aW _,pv,iA,hS⟩ ?_;clear hS iA pv hf h1;rintro⟨j,L0,M⟩ e w6 ⟨hj,pv,iA,hS⟩;dsimp only at hj pv iA hS⊢;refine bK O ?_;refine aB _ O (fun h1=>?_) (fun h1=>?_)
 ·have G1:j<al.length:=by omega
  have QU:=(lp _).1 (gi_in G1);obtain⟨f,hf⟩:∃f:Nat,gi al (j:Int)=f:=⟨(gi al (j:Int)).toNat,by omega⟩;have om:pk fl.length al j=f:=by unfold pk;rw [if_pos G1,hf];rfl
  rw [hf]at QU;rw [om]at pv;have sq:=pv.1;have JQ:jA n fl cm f f:=⟨QU.2,.refl (by omega)⟩;have pw:=hS.bc 0 O;refine av O (aw (hS.bc 2 O).2 O O O (by omega) (by omega) (aT (hS.bc 2 O) O (by omega) O O (ad O ?_)));rw [hf];refine aw pw.2 O O O (by omega) (by omega) (aT pw O (by omega) O O (ay O ?_));refine aB _ O (fun h2=>?_) (fun h2=>?_)
  ·refine av O (aa.add O O O (by omega) (aF O (tQ ?_)));exact⟨(j+1,L0,M),by show al.length - (j+1)<al.length - j;omega,⟨O,O,O,O,O,O,O,O,ae⟩,by show j+1≤al.length;omega,gH _ j f G1 hf (pv.skip wq (by omega) (.inl h2)),iA,hS⟩
  have h0:gi L0 (f:Int)<0:=by omega
  refine av O (aw pw.2 O O O (by omega) (by omega) (jR 0 hS O O O (by omega) ?_));intro w7 aV;have aV:St w w7 (sR PB A fl.length c fj (L0.set f (f:Int)) Aa ca al g M []):=aV;refine ad O (dJ aV O O O ?_);intro Ao w8 bA;have fD:=nm.start (A:=xz n fl cm) sq (show f<fl.length by omega) h0 JQ;have iA:=iA.mono (G':=fun y=>0≤gi (L0.set f (f:Int)) (y:Int)) fun y _ h=>DC h
  refine ay O ?_;refine Cd.loop (α:=Nat×List Int×List Nat×aiC×Nat×List nh) (fun z=> [(1,.slice A2 n c2),(2,.pointer PB),(5,.slice fj fl.length fl.length),(6,.map (some g)),(7,.func (.func 213) #[] #[.pointer PB]),(62,.slice Aa al.length ca),(63,aiD (al.length:Int)),(64,aiD (j:Int)),(13,aiD (f:Int)),(14,.slice z.2.2.2.1 (z.2.2.1.length - z.1) z.2.2.2.2.1)]) (fun z w'=>nm fl.length (jA n fl cm) (xz n fl cm) f L0 z.2.1 z.2.2.1 z.1∧iT n fl (fun y _=>jP n cm (gl fl (y:Int))) (fun y=>0≤gi z.2.1 (y:Int)) 2005 z.2.2.2.2.2∧St w w' (ah 2 z.2.2.2.1 (z.2.2.1.length - z.1) z.2.2.2.2.1 (ky (z.2.2.1.drop z.1))::sR PB A fl.length c fj z.2.1 Aa ca al g z.2.2.2.2.2 [])) (fun z=>fl.length+1 - z.1) (0,L0.set f (f:Int),[f],Ao,1,M) ⟨O,O,O,O,O,O,O,O,O,O,ae⟩ ⟨fD,iA,bA⟩ ?_;clear bA aV hS pw fD iA;rintro⟨k,L,Q,Ao,co,M⟩ e w9 ⟨fD,iA,hS⟩;dsimp only at fD iA hS⊢;have wT:=fD.yO;have je:=fD.Hu;refine aQ O (aa.len O O (ay O ?_));refine aB _ O (fun h3=>?_) (fun h3=>?_)
  ·have iC:k<Q.length:=by omega
   obtain⟨x,hx⟩:∃x,Q.getD k 0=x:=⟨_,rfl⟩;have EF:x∈Q:=by rw [←hx,cJ,gf iC];exact dQ _
   have fW:=fD.vz x EF;have Zq:jP n cm (gl fl (x:Int)):=(fW.2.2.1.of fW.2.2.2);have Cm:=hl _ (vr x fW.1);refine av O (aa.len O O (ay O ?_));refine Cd.loop (α:=Nat×List Int×List Nat×aiC×Nat×List nh) (fun z=> [(1,.slice A2 n c2),(2,.pointer PB),(5,.slice fj fl.length fl.length),(6,.map (some g)),(7,.func (.func 213) #[] #[.pointer PB]),(62,.slice Aa al.length ca),(63,aiD (al.length:Int)),(64,aiD (j:Int)),(13,aiD (f:Int)),(14,.slice z.2.2.2.1 (z.2.2.1.length - k) z.2.2.2.2.1),(85,aiD (n:Int)),(86,aiD (z.1:Int))]) (fun z w'=>z.1≤n∧nm fl.length (jA n fl cm) (xz n fl cm) f L0 z.2.1 z.2.2.1 k∧(k<z.2.2.1.length∧z.2.2.1.getD k 0=x)∧iT n fl (fun y _=>jP n cm (gl fl (y:Int))) (fun y=>0≤gi z.2.1 (y:Int)) 2005 z.2.2.2.2.2∧(∀i' y:Nat,i'<z.1→y<fl.length→jP n cm (gl fl (y:Int))→iF (gl fl (y:Int)) i'=iF (gl fl (x:Int)) i'→0≤gi z.2.1 (y:Int))∧St w w' (ah 2 z.2.2.2.1 (z.2.2.1.length - k) z.2.2.2.2.1 (ky (z.2.2.1.drop k))::sR PB A fl.length c fj z.2.1 Aa ca al g z.2.2.2.2.2 [])) (fun z=>n - z.1) (0,L,Q,Ao,co,M) ⟨O,O,O,O,O,O,O,O,O,O,O,O,ae⟩ ⟨aW _,fD,⟨iC,hx⟩,iA,fun i' y h=>absurd h (jk _),hS⟩ ?_;clear hS iA fD hx EF iC wT je h3;rintro⟨i,Li,Qi,Ao,co,M⟩ e dB ⟨hi,fD,⟨iC,hx⟩,iA,nA,hS⟩;dsimp only at hi fD iC hx iA nA hS⊢;refine bK O ?_;refine aB _ O (fun h4=>?_) (fun h4=>?_)
   ·have dq:i<n:=by omega
    have Eb:gi (ky (Qi.drop k)) 0=(x:Int):=by
     have h9:=Sf iC;rw [hx]at h9;rw [←h9];unfold ky;rw [List.map_drop,YF]
    have zC:(ky (Qi.drop k)).length=Qi.length - k:=by simp [ky]
    have zt:=hS.bc 0 O;refine av O (aw (i:=0) zt.2 O O O (by omega) (by omega) ?_);refine aT (i:=0) zt O (by show 0<_;omega) O O ?_;refine ad O ?_;rw [Eb];refine aa.call (T6 PB A fl.length c n rs fl x i _ (hT.later hS.below) (Rd.one (hS.rd 2 O)) (hS.bF hM) fW.1 (by omega) Cm.1 dq (by omega) Cm.2) O O O ?_;rintro _ eu ⟨rfl,ak⟩;have hS:=hS.later ak.below;have BW:=fun y hy=>iA.Ip (N:=fl.length) uH fW.1 dq Zq (y:=y) hy
    have Z0:=iA.len (iF (gl fl (x:Int)) i);have Qx:=fun(y:Nat) (hy:y<fl.length) (hH:jP n cm (gl fl (y:Int))) (he:iF (gl fl (y:Int)) i=iF (gl fl (x:Int)) i)=>he▸iA.al y i hy dq hH
    generalize oZ:iF (gl fl (x:Int)) i=kx at*;clear ak zt;obtain⟨sx,ED⟩:∃sx,jb M kx=sx:=⟨_,rfl⟩;obtain⟨ys,rB⟩:∃ys,jH M kx=ys:=⟨_,rfl⟩;have lq:∀ {w':World} {Ao:aiC} {no co:Nat} {qs:List Int} {L:List Int},St w w' (ah 2 Ao no co qs::sR PB A fl.length c fj L Aa ca al g M [])→bS w' sx.a sx.n ys:=fun h=>by
     rw [←ED,←rB];exact Il (pre:=[_,_,_,_,_]) (x:=kx) h
    rw [rB]at Z0 BW Qx;have tR:=(lq hS).1;refine ad O ?_;refine Nj (v:= .slice sx.a sx.n sx.c) CA (hS.HL 4 rfl) rfl rfl (by rw [←ED];unfold jb;cases fP M kx<;>rfl) rfl ?_;refine aa.len O O (ay O ?_);refine Cd.loop (α:=Nat×List Int×List Nat×aiC×Nat) (fun z=> [(1,.slice A2 n c2),(2,.pointer PB),(5,.slice fj fl.length fl.length),(6,.map (some g)),(7,.func (.func 213) #[] #[.pointer PB]),(62,.slice Aa al.length ca),(63,aiD (al.length:Int)),(64,aiD (j:Int)),(13,aiD (f:Int)),(14,.slice z.2.2.2.1 (z.2.2.1.length - k) z.2.2.2.2),(85,aiD (n:Int)),(86,aiD (i:Int)),(16,xc kx),(97,.slice sx.a sx.n sx.c),(98,aiD (sx.n:Int)),(99,aiD (z.1:Int))]) (fun z w'=>z.1≤sx.n∧nm fl.length (jA n fl cm) (xz n fl cm) f L0 z.2.1 z.2.2.1 k∧(k<z.2.2.1.length∧z.2.2.1.getD k 0=x)∧(∀p:Nat,p<z.1→0≤gi z.2.1 (gi ys (p:Int)))∧(∀y:Nat,0≤gi Li (y:Int)→0≤gi z.2.1 (y:Int))∧St w w' (ah 2 z.2.2.2.1 (z.2.2.1.length - k) z.2.2.2.2 (ky (z.2.2.1.drop k))::sR PB A fl.length c fj z.2.1 Aa ca al g M [])) (fun z=>sx.n - z.1) (0,Li,Qi,Ao,co) ⟨O,O,O,O,O,O,O,O,O,O,O,O,O,O,O,O,ae⟩ ⟨aW _,fD,⟨iC,hx⟩,fun p h=>absurd h (jk _),fun y h=>h,hS⟩ ?_;clear hS fD iC hx Eb zC;rintro⟨q,L,Q,Ao,co⟩ e gm ⟨hq,fD,⟨iC,hx⟩,wL,sF,hS⟩;dsimp only at hq fD iC hx wL sF hS⊢;have wT:=fD.yO;have Zv:=fD.len;refine bK O ?_;refine aB _ O (fun h5=>?_) (fun h5=>?_)
    ·have K5:q<ys.length:=by omega
     have vx:=lq hS;obtain⟨y,hy,xa,EH⟩:=BW _ (gi_in K5);have pw:=hS.bc 1 O;refine av O (aw vx.2 O O O (by omega) (by omega) (aT vx O (by omega) O O (ad O ?_)));rw [hy];refine aw pw.2 O O O (by omega) (by omega) (aT pw O (by omega) O O (ay O ?_));refine aB _ O (fun h6=>?_) (fun h6=>?_)
     ·have py:=fD.meet xa h6 (wq.vJ _ _ _ fW.2.2 (EH.link rv G3));refine av O (aw pw.2 O O O (by omega) (by omega) (jR 1 hS O O O (by omega) ?_));intro dW fC;refine ad O (dJ fC O O O ?_);intro A9 me ic;refine eK 1 ic O (ic.bc 0 O) O O O (by omega) (by omega) O ?_;intro AZ cZ mG gr;have gr:=gr.tail;have Ek:(Q++ [y]).length - k=(Q.length - k)+1:=by rw [dm];show Q.length+1 - k=_;omega
      refine ad O (aa.add O O O (by omega) (aF O (tQ ?_)));refine⟨(q+1,L.set y (f:Int),Q++ [y],AZ,cZ),by show sx.n - (q+1)<sx.n - q;omega,⟨O,O,O,O,O,O,O,O,O,ax (fun m=>Value.slice AZ m cZ) Ek.symm,O,O,O,O,O,O,ae⟩,by show q+1≤sx.n;omega,py,⟨by show k< (Q++ [y]).length;rw [dm];omega,by show(Q++ [y]).getD k 0=x;rw [Pj iC,hx]⟩,fun p hp=>?_,fun z hz=>DC (sF z hz),?_⟩
      ·by_cases ep:p=q
       ·subst ep;rw [hy];have h9:=Pn (L:=L) (y:=y) (f:=f) (by omega);show 0≤gi (L.set y (f:Int)) (y:Int);omega
       have hp:p<q+1:=hp;obtain⟨y9,Lt,_,_⟩:=BW _ (gi_in (show p<ys.length by omega));have h9:=wL p (by omega);rw [Lt]at h9⊢;exact DC h9
      show St w mG (ah _ AZ ((Q++ [y]).length - k) cZ (ky ((Q++ [y]).drop k))::_);rw [Ek,abW (by omega)];exact gr
     refine av O (aa.add O O O (by omega) (aF O (tQ ?_)));refine⟨(q+1,L,Q,Ao,co),by show sx.n - (q+1)<sx.n - q;omega,⟨O,O,O,O,O,O,O,O,O,O,O,O,O,O,O,O,ae⟩,by show q+1≤sx.n;omega,fD,⟨iC,hx⟩,fun p hp=>?_,sF,hS⟩
     by_cases ep:p=q
     ·subst ep;rw [hy];show 0≤gi L (y:Int);omega
     have hp:p<q+1:=hp;exact wL p (by omega)
    have dL:∀y:Nat,(y:Int)∈ys→0≤gi L (y:Int):=fun y hy=>by
     obtain⟨p,hp,e9⟩:=gJ.1 hy;rw [←bX hp]at e9;have:=wL p (by omega)
     rwa [e9]at this
    have Zl:=(iA.mono (G':=fun y=>0≤gi L (y:Int)) fun y _ h=>sF y h).del (x:=kx) fun y hy=>dL y (rB▸hy)
    refine aY O (aZ (cL O ?_));refine VG CA 4 (a:=kx) hS O O O ?_;intro dW fC;have fC:=VW (pre:=[_,_,_,_,_]) (x:=kx) fC;refine ad O (aa.add O O O (by omega) (aF O (tQ ?_)));refine⟨(i+1,L,Q,Ao,co,kl M kx),by show n - (i+1)<n - i;omega,⟨O,O,O,O,O,O,O,O,O,O,O,O,ae⟩,by show i+1≤n;omega,fD,⟨iC,hx⟩,Zl,fun i' y dT xa hH he=>?_,fC⟩
    by_cases ei:i'=i
    ·subst ei;rcases Qx y xa hH (he.trans oZ)with h9 | h9
     ·exact dL y h9
     exact sF y h9
    exact sF y (nA i' y (by have dT:i'<i+1:=dT;omega) xa hH he)
   obtain rfl:i=n:=by omega
   have wT:=fD.yO;have tI:=fD.next iC fun y hy=>by
    rw [hx]at hy;obtain⟨_,Zr,i',dT,ha⟩:=hy;exact nA i' y dT ha.2.1 Zr ((HR Cm.1 (hl _ (vr y ha.2.1)).1).2 fun k9 h9 gU=>ha.2.2 k9 h9 gU).symm
   have hkQ2:k<Qi.length:=iC;have tC:=VV (i:=0) (l:=1) hS O (by show 1≤Qi.length - k;omega);refine aY O (aZ (cL O ?_));refine FA (l:=1) O O O (by omega) ?_;refine aF O (tQ ?_);refine⟨(k+1,Li,Qi,cutAt Ao co 1,co - 1,M),by show fl.length+1 - (k+1)<fl.length+1 - k;omega,⟨O,O,O,O,O,O,O,O,O,ax (fun m=>Value.slice (cutAt Ao co 1) m (co - 1)) (Nat.sub_sub _ _ _),ae⟩,tI,iA,?_⟩;show St w dB (ah _ (cutAt Ao co 1) (Qi.length - (k+1)) (co - 1) (ky (Qi.drop (k+1)))::_);have e9:ky (Qi.drop (k+1))=(ky (Qi.drop k)).drop 1:=by simp [ky]
   rw [e9,←Nat.sub_sub];exact tC
  have iC:k=Q.length:=by omega
  subst iC;have wG:=fD.end_ wq pv (by omega) h0 (fun S ao ar=>jA.ind S ao ar) (fun x y h=>h.link rv G3);refine aY O (aZ (cL O (aa.add O O O (by omega) (aF O (tQ ?_)))));exact⟨(j+1,L,M),by show al.length - (j+1)<al.length - j;omega,⟨O,O,O,O,O,O,O,O,ae⟩,by show j+1≤al.length;omega,gH _ j f G1 hf wG,iA,hS.tail⟩
 have zI:j=al.length:=by omega
 have om:pk fl.length al j=fl.length:=by unfold pk;rw [if_neg (by omega)]
 rw [om]at pv;refine aY O (aZ (gE O ?_));refine gB O ?_;exact⟨fj,L0,O,pv,hS.sub ((List.nil_sublist _).cons_cons _)⟩
def uset(u:Nat→Value)(k:Nat)(v:Value):Nat→Value:=fun j=>cond (Nat.beq j k) v (u j)
theorem agL{u:Nat→Value}{k:Nat}{v:Value}(h:u k=v):u=uset u k v:=by
 funext j;unfold uset;cases hb:Nat.beq j k with
 | true=>rw [oL hb,h];rfl
 | false=>rfl
set_option maxHeartbeats 4000000 in
theorem Xw(A:aiC)(N c:Nat)(rs:List aG)(fl:aiB)(n:Nat)(w:World)(hT:mL w)(hM:br w A N rs fl)(hN:N≤401)(hn:n≤5)(hl:∀x∈fl,x.length=n∧∀e∈x,0≤e∧e≤1000000)(rv:fl.Nodup):
 aA prog 89 [.slice A N c] w (fun v w'=>∃A' n' c',v= .slice A' n' c'∧(A'.isNone=true↔vN n fl)∧St w w' []):=by
 have gy:=hM.len;have vr:∀f:Nat,f<N→gl fl (f:Int)∈fl:=fun f hf=>by rw [db (by omega)];exact dQ _
 have uH:∀x∈fl,x.length=n∧∀e∈x,0≤e:=fun x hx=> ⟨(hl x hx).1,fun e he=> ((hl x hx).2 e he).1⟩
 refine bk func89 O ntmps89 O (cK O) (aQ O (Ie (St.refl w) O ?_));intro g w1 ao;have ao:St w w1 (lD 132 g (kc xc CG ([]:List nh))::(pF 2 ([]:List nh)++ [])):=ao;refine ad O (aa.call (Fa _ _ _ _) O O O ?_);rintro _ w1 ⟨rfl,rfl⟩;refine ay O ?_;refine Cd.loop (α:=Nat×List nh) (fun z=> [(0,.slice A N c),(3,.map (some g)),(12,aiD (N:Int)),(13,aiD (z.1:Int))])
  (fun z w'=>z.1≤N∧(∀l u,fP z.2 l=some u→iV N (jA n fl l) N u.2)∧(∀a b:Nat,a<z.1→a<b→b<N→eO n fl (fun k=>gi (gl fl (a:Int)) (k:Int)=gi (gl fl (b:Int)) (k:Int)) a b)∧St w w' (lD 132 g (kc xc CG z.2)::(pF 2 z.2++ []))) (fun z=>N - z.1) (0,[]) ⟨rfl,rfl,rfl,rfl,ae⟩ ⟨aW _,fun l u h=>by simp [fP]at h,fun a b h=>absurd h (jk _),ao⟩ ?_
 clear ao;rintro⟨a,M⟩ e w2 ⟨ha,sn,nA,hS⟩;dsimp only at ha sn nA hS⊢;refine bK O ?_;refine aB _ O (fun h1=>?_) (fun h1=>?_)
 ·have sw:a<N:=by omega
  refine av O (aa.add O O O (by omega) (ay O ?_));refine Cd.loop (α:=Nat×List nh) (fun z=> [(0,.slice A N c),(3,.map (some g)),(12,aiD (N:Int)),(13,aiD (a:Int)),(4,aiD (a:Int)),(5,aiD (z.1:Int))])
   (fun z w'=> (a<z.1∧z.1≤N)∧(∀l u,fP z.2 l=some u→iV N (jA n fl l) N u.2)∧(∀b:Nat,a<b→b<z.1→eO n fl (fun k=>gi (gl fl (a:Int)) (k:Int)=gi (gl fl (b:Int)) (k:Int)) a b)∧St w w' (lD 132 g (kc xc CG z.2)::(pF 2 z.2++ []))) (fun z=>N - z.1) (a+1,M) ⟨rfl,rfl,rfl,rfl,rfl,rfl,ae⟩ ⟨⟨Nat.lt_succ_self _,sw⟩,sn,fun b h h'=>by omega,hS⟩ ?_
  clear hS sn;rintro⟨b,M⟩ e w3 ⟨⟨dO,wD⟩,sn,uE,hS⟩;dsimp only at dO wD sn uE hS⊢;refine aQ O (aa.call (Fa _ _ _ _) O O O ?_);rintro _ w3 ⟨rfl,rfl⟩;refine ay O ?_;refine aB _ O (fun h2=>?_) (fun h2=>?_)
  ·have hb:b<N:=by omega
   have tv:=hS.bF hM;have mQ:=tv.at_ (i:=(a:Int)) (by omega) (by omega);have l6:=tv.at_ (i:=(b:Int)) (by omega) (by omega);have KH:=hl _ (vr a sw);have hlB:=hl _ (vr b hb);have zM:(rg rs (a:Int)).n=n:=by rw [←mQ.1];exact KH.1
   have KQ:(rg rs (b:Int)).n=n:=by rw [←l6.1];exact hlB.1
   have lK:=W7 (n:=n) uH (show a<fl.length by omega) (show b<fl.length by omega);have cg:(nW (gl fl (a:Int)) (gl fl (b:Int))).length=n:=by rw [Bu];exact KH.1
   have Kk:∀x∈nW (gl fl (a:Int)) (gl fl (b:Int)),-1≤x∧x≤1000000:=fun x hx=>by
    obtain⟨k,hk,rfl⟩:=dh.1 hx;have hk:=gg.1 hk
    split
    ·have:=KH.2 _ (gi_in hk);omega
    ·omega
   refine bP O ?_;refine dI [xS (A) (N) (c),xI ((a:Int)),xP (aq (A) ((a:Int)).toNat),xS ((rg (rs) ((a:Int))).a) ((rg (rs) ((a:Int))).n) ((rg (rs) ((a:Int))).c),xS (A) (N) (c),xI ((b:Int)),xP (aq (A) ((b:Int)).toNat),xS ((rg (rs) ((b:Int))).a) ((rg (rs) ((b:Int))).n) ((rg (rs) ((b:Int))).c),.pr (fun v w'=>∃A6 c6,v= .slice A6 n c6∧bS w' A6 n (nW (gl fl (a:Int)) (gl fl (b:Int)))),.pr (fun v w'=>∃A6 c6,v= .slice A6 n c6∧bS w' A6 n (nW (gl fl (a:Int)) (gl fl (b:Int))))] (by kernel_rfl) (by kernel_rfl) rfl (lx (lx (lx (lx (lx (lx (lx (lx (bV.2 ⟨Yd.b9 (fun v w w' h hb=>by obtain⟨A6,c6,hv,hT⟩:=h;exact⟨A6,c6,hv,hT.later hb⟩),(bV.2 ⟨Yd.b9 (fun v w w' h hb=>by obtain⟨A6,c6,hv,hT⟩:=h;exact⟨A6,c6,hv,hT.later hb⟩),(fun _ h=>by cases h)⟩)⟩))))))))) ?_ ?_
   ·refine⟨Dr O,Dr O,fun _ _ hb _ _=>aw (tv.top.later hb).2 O O O (by omega) (by omega) (Az O),fun _ _ hb _ _=>bQ (tv.top.later hb) O (by omega) O O (Az O),Dr O,Dr O,fun _ _ hb _ _=>aw (tv.top.later hb).2 O O O (by omega) (by omega) (Az O),fun _ _ hb _ _=>bQ (tv.top.later hb) O (by omega) O O (Az O),?_,?_,ae⟩
    ·intro e1 w1 hb hp aL;refine aa.call (Of (rg rs (a:Int)).a (rg rs (b:Int)).a (rg rs (a:Int)).n (rg rs (a:Int)).c (rg rs (b:Int)).n (rg rs (b:Int)).c (gl fl (a:Int)) (gl fl (b:Int)) _ (mQ.later hb) (l6.later hb) (by omega) (by omega)) O O O ?_;rintro _ w9 ⟨A6,c6,rfl,ak⟩;refine aa.n ?_;exact gD.dn ak.below ⟨A6,c6,by rw [cg],by have h9:=ak.bc 0 O;rw [cg]at h9;exact h9⟩
    ·intro e1 w1 hb hp aL;obtain⟨A6,c6,Y4,hT⟩:=(hp 8 (by decide) rfl _ _ rfl rfl);refine oO O (by exact Y4) O (aa.n ?_);exact gD.dn (Below.refl _ _) ⟨A6,c6,O,hT⟩
   intro u w4 kq hu;obtain⟨A6,c6,h6,jX⟩:=hu 9 _ rfl;rw [agL h6];have aJ:=hS.later kq;generalize qo:nW (gl fl (a:Int)) (gl fl (b:Int))=cm at*;clear hu hS tv mQ l6;refine iq O ?_;refine aa.call (LA A6 n c6 cm _ (hT.later aJ.below) jX (fun x hx=>by have:=Kk x hx;omega) (by omega)) O O O ?_;rintro _ w5 ⟨rfl,ak⟩;have aK:=aJ.later ak.below;have jX:=jX.later ak.below;clear ak aJ;refine ad O ?_;refine VL (v:= .slice (jb M cm).a (jb M cm).n (jb M cm).c) CA (x:=cm) (aK.HL 0 rfl) rfl rfl (by unfold jb;cases fP M cm<;>rfl) rfl ?_;refine ad O ?_
   first | refine eC rfl rfl ?_ | refine aa.not rfl rfl ?_
   refine ay O ?_;cases Kv:fP M cm with
   | none => --dup 2
    refine Cd.gj O (av O (aa.call (aem A N c rs fl n A6 c6 cm _ (hT.later aK.below) (aK.bF hM) jX hN hn hl rv) O O O ?_));rintro _ w6 ⟨A8,L,rfl,hL,ak⟩;have aR:=aK.call ak;refine ad O (Ih O CA 1 (a:=cm) (u:=(⟨A8,N,N⟩,L)) aR O O O O ?_);intro w7 aV;have cj:bS w7 A8 N L:=aV.bc 0 O;have bA:St w w7 (lD 132 g (kc xc CG (jO M cm (⟨A8,N,N⟩,L)))::(pF 2 (jO M cm (⟨A8,N,N⟩,L))++ [])):=Nu (M:=M) (x:=cm) (u:=(⟨A8,N,N⟩,L)) (pre:=[_]) (by rw [Jm Kv];exact aV);have Zt:∀l u,fP (jO M cm (⟨A8,N,N⟩,L)) l=some u→iV N (jA n fl l) N u.2:=fun l u h=>by
     rw [Jk]at h
     split at h
     ·rename_i e;subst e;injection h with h
      subst h;exact hL
     ·exact sn l u h
    clear aV aR aK ak jX;have sq:=hL.1;have bW:=cj.1;have ye:=hL.done (jA.yK n fl cm |>fun h=>gy▸h) lK.1 lK.2.1;refine ay O ?_;refine dI [xS (A8) (N) (N),xI ((a:Int)),xP (aq (A8) ((a:Int)).toNat),xI (gi (L) ((a:Int))),xS (A8) (N) (N),xI ((b:Int)),xP (aq (A8) ((b:Int)).toNat),xI (gi (L) ((b:Int))),xB (decide (¬(gi (L) ((a:Int)))=(gi (L) ((b:Int)))))] (by kernel_rfl) (by kernel_rfl) O (eg O) ?_ ?_
    ·exact⟨Dr O,Dr O,fun _ _ hb _ _=>aw (cj.later hb).2 O O O (by omega) (by omega) (Az O),fun _ _ hb _ _=>aT (cj.later hb) O (by omega) O O (Az O),Dr O,Dr O,fun _ _ hb _ _=>aw (cj.later hb).2 O O O (by omega) (by omega) (Az O),fun _ _ hb _ _=>aT (cj.later hb) O (by omega) O O (Az O),Dr O,ae⟩
    intro u w9 ql _;have aS:=bA.later ql;refine eo O ?_;refine aB _ O (fun h3=>?_) (fun h3=>?_)
    ·refine av O ?_;refine vc [(a:Int),(b:Int)] aS O O (by decide) (by decide) O O ?_;intro A9 dB bD;refine bh O (eZ (eE (eZ (eE ?_))));refine gB O ?_;refine⟨A9,2,2,O,⟨fun h=>?_,fun h=>?_⟩,bD.none⟩
     ·rw [De (bD.bc 0 rfl).2 (by decide)]at h;cases h
     ·exact absurd (ye.2 (lK.2.2.2 (h a b dO (by omega)))) h3
    ·have de:=lK.2.2.1 (ye.1 (iP.1 h3));refine av O (aa.add O O O (by omega) (aF O (tQ ?_)));exact⟨(b+1,jO M cm (⟨A8,N,N⟩,L)),by show N - (b+1)<N - b;omega,⟨O,O,O,O,O,O,ae⟩,⟨Nat.lt_succ_of_lt dO,hb⟩,Zt,fun b' h4 h5=>by
      by_cases e9:b'=b
      ·subst e9;exact de
      ·exact uE b' h4 (by have h5:b'<b+1:=h5;omega),aS⟩
   | some u0=>
    have hL:iV N (jA n fl cm) N (jH M cm):=by
     rw [(Jr Kv).2];exact sn cm u0 Kv
    have cj:bS w5 (jb M cm).a (jb M cm).n (jH M cm):=Il (pre:=[_]) (x:=cm) aK;refine Cd.eV O ?_;have sq:=hL.1;have bW:=cj.1;have ye:=hL.done (jA.yK n fl cm |>fun h=>gy▸h) lK.1 lK.2.1;refine bP O ?_;refine dI [xS ((jb M cm).a) ((jb M cm).n) ((jb M cm).c),xI ((a:Int)),xP (aq ((jb M cm).a) ((a:Int)).toNat),xI (gi (jH M cm) ((a:Int))),xS ((jb M cm).a) ((jb M cm).n) ((jb M cm).c),xI ((b:Int)),xP (aq ((jb M cm).a) ((b:Int)).toNat),xI (gi (jH M cm) ((b:Int))),xB (decide (¬(gi (jH M cm) ((a:Int)))=(gi (jH M cm) ((b:Int)))))] (by kernel_rfl) (by kernel_rfl) O (eg O) ?_ ?_
    ·exact⟨Dr O,Dr O,fun _ _ hb _ _=>aw (cj.later hb).2 O O O (by omega) (by omega) (Az O),fun _ _ hb _ _=>aT (cj.later hb) O (by omega) O O (Az O),Dr O,Dr O,fun _ _ hb _ _=>aw (cj.later hb).2 O O O (by omega) (by omega) (Az O),fun _ _ hb _ _=>aT (cj.later hb) O (by omega) O O (Az O),Dr O,ae⟩
    intro u w9 ql _;have aS:=aK.later ql;refine eo O ?_;refine aB _ O (fun h3=>?_) (fun h3=>?_)
    ·refine av O ?_;refine vc [(a:Int),(b:Int)] aS O O (by decide) (by decide) O O ?_;intro A9 dB bD;refine bh O (eZ (eE (eZ (eE ?_))));refine gB O ?_;refine⟨A9,2,2,O,⟨fun h=>?_,fun h=>?_⟩,bD.none⟩
     ·rw [De (bD.bc 0 rfl).2 (by decide)]at h;cases h
     ·exact absurd (ye.2 (lK.2.2.2 (h a b dO (by omega)))) h3
    ·have de:=lK.2.2.1 (ye.1 (iP.1 h3));refine av O (aa.add O O O (by omega) (aF O (tQ ?_)));exact⟨(b+1,M),by show N - (b+1)<N - b;omega,⟨O,O,O,O,O,O,ae⟩,⟨Nat.lt_succ_of_lt dO,hb⟩,sn,fun b' h4 h5=>by
      by_cases e9:b'=b
      ·subst e9;exact de
      ·exact uE b' h4 (by have h5:b'<b+1:=h5;omega),aS⟩
  ·have qm:b=N:=by omega
   refine aY O (aZ (cL O (aa.add O O O (by omega) (aF O (tQ ?_)))));exact⟨(a+1,M),by show N - (a+1)<N - a;omega,⟨O,O,O,O,ae⟩,sw,sn,fun a' b' h3 h4 h5=>by
    by_cases e9:a'=a
    ·subst e9;exact uE b' h4 (by omega)
    ·exact nA a' b' (by have h3:a'<a+1:=h3;omega) h4 h5,hS⟩
 ·have tB:a=N:=by omega
  refine aY O (aZ (gE O ?_));refine gB O ?_;exact⟨none,0,0,O,⟨fun _ a' b' h3 h4=>nA a' b' (by omega) h3 (by omega),fun _=>O⟩,hS.none⟩
theorem HF{xs:List Int}{x e:Int}:e∈yL xs x↔(0≤e∧e<xs.length)∧gi xs e=x:=by
 unfold yL;rw [fA,im,jT]
theorem HP{n:Int}{e:Int}(h0:0≤i)(h1:i<n):e∈pa n R (i - 1)↔qe R i e:=by
 unfold pa qe
 split
 ·rw [HF];exact⟨fun h=> .inr ⟨h.1,by omega,h.2⟩,fun h=>h.elim (fun h=>by omega) fun h=> ⟨h.1,h.2.2⟩⟩
 rw [eT];exact⟨fun h=> .inl ⟨h,by omega⟩,fun h=>h.elim (fun h=>h.1) fun h=>by omega⟩
theorem HO{n:Int}{f:Int}(h0:0≤i)(h1:i<n):f∈pa n R (i+1)↔nO n R i f:=by
 unfold pa nO
 split
 ·rw [HF];exact⟨fun h=> .inr ⟨h.1,by omega,h.2⟩,fun h=>h.elim (fun h=>by omega) fun h=> ⟨h.1,h.2.2⟩⟩
 rw [eT];exact⟨fun h=> .inl ⟨h,by omega⟩,fun h=>h.elim (fun h=>h.1) fun h=>by omega⟩
theorem afE{n:Int}(h0:0≤i)(h1:i<n):pa n R i=yL R i:=by
 unfold pa;rw [aj (by omega)]
theorem Ms{n:Int}(h:R.length≤500):(pa n R i).length≤500:=by
 unfold pa
 split
 ·refine kJ (oJ _ _) ?_;rw [bw,fN,pe];exact h
 exact(by decide:1≤500)
theorem Uc{n:Int}{e:Int}(h:e∈pa n R i):e= -1∨(0≤e∧e<R.length):=by
 unfold pa at h
 split at h
 ·exact .inr (HF.1 h).1
 exact .inl (eT.1 h)
def sd(P:Int→Prop)[DecidablePred P](xs:List Int)(q:Nat):Nat:=((xs.take q).filter fun x=>decide (P x)).length
section
variable {P:Int→Prop} [DecidablePred P] {xs:List Int} {q:Nat}
theorem IM:sd P xs q≤q:=by
 unfold sd;refine kJ (oJ _ _) ?_;rw [pf];omega
theorem IQ(h:q<xs.length)(hp:P (gi xs (q:Int))):sd P xs (q+1)=sd P xs q+1:=by
 unfold sd;rw [AG h,nS,dm];simp [hp]
theorem IP(h:q<xs.length)(hp:¬P (gi xs (q:Int))):sd P xs (q+1)=sd P xs q:=by
 unfold sd;rw [AG h,nS,dm];simp [hp]
end
def pJ(B:aiB)(e f x:Int):Prop:=(e<0∨e∈gl B x)∧(f<0∨x∈gl B f)
instance (B:aiB)(e f:Int):DecidablePred (pJ B e f):=fun x=>by unfold pJ;infer_instance
theorem Xo{R:List Int}{B:aiB}{i e f:Int}:sd (pJ B e f) (yL R i) (yL R i).length=(jB R B i e f).length:=by
 unfold sd jB yL;rw [List.take_length,List.filter_filter]
 congr 1
 refine List.filter_congr fun x _=>?_
 rw [←Bool.decide_and];refine jo.2 ?_;unfold pJ;exact⟨fun h=> ⟨h.2,h.1⟩,fun h=> ⟨h.2,h.1⟩⟩
set_option maxHeartbeats 4000000 in
theorem XR(n:Int)(A D:aiC)(cA cD:Nat)(R:List Int)(rs:List aG)(B:aiB)(w:World)(hR:bS w A R.length R)(hB:br w D B.length rs B)(hP:fO n R B):
 aA prog 88 [.agg #[aiD n,.slice A R.length cA,.slice D B.length cD]] w (fun v w'=>∃A' n' c',v= .slice A' n' c'∧(A'.isNone=true↔rT n R B)∧St w w' []):=by
 have hn:=hP.n1;have kR:=hP.nn;have hle:=hP.len;have cj:=fun(e:Int) (h0:0≤e) (h:e< (R.length:Int))=> (hP.at_ h0 h).1
 have bW:∀e:Int,0≤e→e<R.length→(gl B e).length≤500:=fun e h0 h=>by
  have:=rF (N:=R.length) (cj e h0 h).nodup fun x hx=>by have:=((hP.at_ h0 h).2.1 x hx).1;omega
  omega
 refine bk func88 O ntmps88 O (cK O) (aQ O (kK (St.refl w) O O ?_));intro A1 w1 ao;have h1:Rd w1 A1 3 (fun j=> [Value.int .i64 n,.slice A R.length cA,.slice D B.length cD].getD j undef):=ao.rd 0 O;have hR:=ao.eY hR;have hB:=ao.bF hB;have ao:=ao.none;refine ad O (aH h1 O O O O inferInstance (gK (j:=0) h1 (by exact ax Value.pointer O) O O O O (ay O ?_)));refine Cd.loop (α:=Nat) (fun i=> [(1,.pointer A1),(14,aiD n),(15,aiD (i:Int))]) (fun i w'=> (i:Int)≤n∧(∀i' e f:Int,0≤i'→i'< (i:Int)→e∈pa n R (i' - 1)→f∈pa n R (i'+1)→(0≤e→0≤f→e∈gl B f)→(jB R B i' e f).length=2)∧St w1 w' []) (fun i=>n.toNat - i) 0 ⟨O,O,O,ae⟩ ⟨by show((0:Nat):Int)≤n;omega,fun i' e f h h'=>by have h':i'< ((0:Nat):Int):=h';omega,St.refl _⟩ ?_;rintro i e w2 ⟨hi,nA,ak⟩;have h1:=Rd.below h1 ak.below;have hR:=ak.eY hR;have hB:=ak.bF hB;have ar:=ao.later ak.below;refine bK O ?_;refine aB _ O (fun h2=>?_) (fun h2=>?_)
 ·have KO:=afE (R:=R) (show 0≤(i:Int) by omega) h2;have aaG:=Ms (n:=n) (i:=(i:Int)) kR;have aaE:=Ms (n:=n) (i:=(i:Int) - 1) kR;have aar:=Ms (n:=n) (i:=(i:Int)+1) kR;have aaH:=fun x=>HF (xs:=R) (x:=(i:Int)) (e:=x)
  refine av O (aa.call (Mb A1 A D n R.length cA B.length cD R (i:Int) _ h1 hR (by omega) (by omega)) O O O ?_);rintro _ w3 ⟨A4,c4,rfl,qx⟩;have h4:=qx.bc 0 O;refine ad O (aa.add O O O (by omega) ?_);refine aa.call (Mb A1 A D n R.length cA B.length cD R ((i:Int)+1) _ (Rd.below h1 qx.below) (qx.eY hR) (by omega) (by omega)) O O O ?_;rintro _ w4 ⟨A5,c5,rfl,Ct⟩;have h5:=Ct.bc 0 O;have h4:=h4.later Ct.below;refine ad O (aa.sub O O O (by omega) ?_);refine aa.call (Mb A1 A D n R.length cA B.length cD R ((i:Int) - 1) _ (Rd.below h1 (qx.below.trans (Ct.below.mono qx.below.size))) (Ct.eY (qx.eY hR)) (by omega) (by omega)) O O O ?_;rintro _ w5 ⟨A6,c6,rfl,pU⟩;have h6:=pU.bc 0 O;have h4:=h4.later pU.below;have h5:=h5.later pU.below;have lI:=(qx.below.trans (Ct.below.mono qx.below.size));have lI:=lI.trans (pU.below.mono lI.size);have h1:=Rd.below h1 lI;have hB:=hB.later lI;have aK:=ar.later lI;have abk:=ak.later lI;clear qx Ct pU ak ar;obtain⟨ms,G7⟩:∃ms,pa n R (i:Int)=ms:=⟨_,rfl⟩;obtain⟨mx,zJ⟩:∃mx,pa n R ((i:Int) - 1)=mx:=⟨_,rfl⟩;obtain⟨iB,zF⟩:∃iB,pa n R ((i:Int)+1)=iB:=⟨_,rfl⟩;rw [G7]at h4 aaG KO;rw [zF]at h5 aar;rw [zJ]at h6 aaE;have vq:=fun e f=>Xo (R:=R) (B:=B) (i:=(i:Int)) (e:=e) (f:=f)
  rw [←KO]at vq;have zK:∀x∈ms,(0≤x∧x<R.length):=fun x hx=> ((aaH x).1 (KO▸hx)).1
  have G4:∀x∈mx,x= -1∨(0≤x∧x<R.length):=fun x hx=>Uc (zJ▸hx)
  have hhr:∀x∈iB,x= -1∨(0≤x∧x<R.length):=fun x hx=>Uc (zF▸hx)
  rw [G7,zJ,zF];refine aa.len O O (ay O ?_);refine Cd.loop (α:=Nat) (fun j=> [(1,.pointer A1),(14,aiD n),(15,aiD (i:Int)),(3,aiD (i:Int)),(4,.slice A4 ms.length c4),(5,.slice A5 iB.length c5),(25,.slice A6 mx.length c6),(26,aiD (mx.length:Int)),(27,aiD (j:Int))]) (fun j w'=>j≤mx.length∧w'=w5∧∀p:Nat,p<j→∀f∈iB,(0≤gi mx (p:Int)→0≤f→gi mx (p:Int)∈gl B f)→(jB R B i (gi mx (p:Int)) f).length=2) (fun j=>mx.length - j) 0 ⟨O,O,O,O,O,O,O,O,O,ae⟩ ⟨aW _,O,fun p h=>absurd h (jk _)⟩ ?_;rintro j e w6 ⟨hj,rfl,dp⟩;refine bK O ?_;refine aB _ O (fun h7=>?_) (fun h7=>?_)
  ·have ln:j<mx.length:=by omega
   refine av O (aw h6.2 O O O (by omega) (by omega) (aT h6 O (by omega) O O ?_));refine ad O (aa.len O O (ay O ?_));have Kr:=G4 _ (gi_in ln);generalize GV:gi mx (j:Int)=ee at*;refine Cd.loop (α:=Nat) (fun k=> [(1,.pointer A1),(14,aiD n),(15,aiD (i:Int)),(3,aiD (i:Int)),(4,.slice A4 ms.length c4),(5,.slice A5 iB.length c5),(25,.slice A6 mx.length c6),(26,aiD (mx.length:Int)),(27,aiD (j:Int)),(7,aiD ee),(31,.slice A5 iB.length c5),(32,aiD (iB.length:Int)),(33,aiD (k:Int))]) (fun k w'=>k≤iB.length∧w'=w6∧∀p:Nat,p<k→(0≤ee→0≤gi iB (p:Int)→ee∈gl B (gi iB (p:Int)))→(jB R B i ee (gi iB (p:Int))).length=2) (fun k=>iB.length - k) 0 ⟨O,O,O,O,O,O,O,O,O,O,O,O,O,ae⟩ ⟨aW _,O,fun p h=>absurd h (jk _)⟩ ?_;rintro k e w7 ⟨hk,rfl,bJ⟩;refine bK O ?_;refine aB _ O (fun h8=>?_) (fun h8=>?_)
   ·have je:k<iB.length:=by omega
    refine av O (aw h5.2 O O O (by omega) (by omega) (aT h5 O (by omega) O O (ad O ?_)));have oW:=hhr _ (gi_in je);generalize GW:gi iB (k:Int)=ff at*;have pV:((0≤ee→0≤ff→ee∈gl B ff)→(jB R B i ee ff).length=2)→∀p:Nat,p<k+1→(0≤ee→0≤gi iB (p:Int)→ee∈gl B (gi iB (p:Int)))→(jB R B i ee (gi iB (p:Int))).length=2:=fun h p hp=>by
     by_cases ep:p=k
     ·subst ep;rw [GW];exact h
     exact bJ p (by omega)
    refine bY 39 O (fun h9=>?_) (fun h9=>?_)
    ·refine aa.g O O O (ad O (aa.g O O O (ad O ?_)));refine bY 43 O (fun gU=>?_) (fun gU=>?_)
     ·refine aa.g O O O (ad O (aa.g O O O (ad O (aa.g O O O ?_))));refine aa.call (uQ A1 A D cA cD n R rs B ee ff _ h1 hB (by omega) (cj ff gU (by omega)) (by have:=bW ff gU (by omega);omega)) O O O ?_;rintro _ w8 ⟨rfl,rfl⟩;refine aa.g O O O ?_
      first | refine eC rfl rfl ?_ | refine aa.not rfl rfl ?_
      refine ay O ?_;refine aB _ O (fun uq=>?_) (fun uq=>?_)
      ·refine av O (aa.add O O O (by omega) (aF O (tQ ?_)));exact⟨k+1,by show iB.length - (k+1)<iB.length - k;omega,⟨O,O,O,O,O,O,O,O,O,O,O,O,O,ae⟩,by omega,O,pV fun h=>absurd (h h9 gU) uq⟩
      have sI:0≤ee→0≤ff→ee∈gl B ff:=fun _ _=>iP.1 uq
      refine av O (aa.len O O (ay O ?_));refine Cd.loop (α:=Nat) (fun q=> [(1,.pointer A1),(14,aiD n),(15,aiD (i:Int)),(3,aiD (i:Int)),(4,.slice A4 ms.length c4),(5,.slice A5 iB.length c5),(25,.slice A6 mx.length c6),(26,aiD (mx.length:Int)),(27,aiD (j:Int)),(7,aiD ee),(31,.slice A5 iB.length c5),(32,aiD (iB.length:Int)),(33,aiD (k:Int)),(9,aiD ff),(10,aiD ((sd (pJ B ee ff) ms q:Nat):Int)),(49,.slice A4 ms.length c4),(50,aiD (ms.length:Int)),(51,aiD (q:Int))]) (fun q w'=>q≤ms.length∧w'=w8) (fun q=>ms.length - q) 0 ⟨O,O,O,O,O,O,O,O,O,O,O,O,O,O,O,O,O,O,ae⟩ ⟨aW _,O⟩ ?_;rintro q e w9 ⟨hq,rfl⟩;have cg:=IM (P:=pJ B ee ff) (xs:=ms) (q:=q);refine bK O ?_;refine aB _ O (fun BK=>?_) (fun BK=>?_)
      ·have uL:q<ms.length:=by omega
       have hx:=zK _ (gi_in uL);have kb:=IQ (P:=pJ B ee ff) uL;have ij:=IP (P:=pJ B ee ff) uL;refine av O (aw h4.2 O O O (by omega) (by omega) (aT h4 O (by omega) O O (ad O ?_)));generalize zT:gi ms (q:Int)=xx at*;refine bY 57 O (fun nu=>?_) (fun nu=>?_)
       ·refine ai O O O O O (ai O O O O O (ai O O O O O (ad O (aa.g O O O (ad O (aa.g O O O (ad O (aa.g O O O (ad O ?_)))))))));refine bY 65 O (fun lW=>?_) (fun lW=>?_)
        ·refine ai O O O O O (ai O O O O O (ai O O O O O (aa.g O O O (ay O ?_))));refine Cd.gj O ?_;refine av O (aa.add O O O (by omega) (ad O (aa.add O O O (by omega) (aF O (tQ ?_)))));exact⟨q+1,by show ms.length - (q+1)<ms.length - q;omega,⟨O,O,O,O,O,O,O,O,O,O,O,O,O,O,ax (fun m:Nat=>Value.int .i64 (m:Int)) (kb ⟨.inl nu,.inl lW⟩).symm,O,O,O,ae⟩,by omega,O⟩
        refine aa.g O O O (ad O (aa.g O O O (ad O (aa.g O O O ?_))));refine aa.call (uQ A1 A D cA cD n R rs B xx ff _ h1 hB (by omega) (cj ff (by omega) (by omega)) (by have:=bW ff (by omega) (by omega);omega)) O O O ?_;rintro _ dB ⟨rfl,rfl⟩;refine aa.g O O O (ay O ?_);refine aB _ O (fun lZ=>?_) (fun lZ=>?_)
        ·refine av O (aa.add O O O (by omega) (ad O (aa.add O O O (by omega) (aF O (tQ ?_)))));exact⟨q+1,by show ms.length - (q+1)<ms.length - q;omega,⟨O,O,O,O,O,O,O,O,O,O,O,O,O,O,ax (fun m:Nat=>Value.int .i64 (m:Int)) (kb ⟨.inl nu,.inr lZ⟩).symm,O,O,O,ae⟩,by omega,O⟩
        refine av O (aa.add O O O (by omega) (aF O (tQ ?_)));exact⟨q+1,by show ms.length - (q+1)<ms.length - q;omega,⟨O,O,O,O,O,O,O,O,O,O,O,O,O,O,ax (fun m:Nat=>Value.int .i64 (m:Int)) (ij fun h=>h.2.elim lW lZ).symm,O,O,O,ae⟩,by omega,O⟩
       refine aa.g O O O (ad O (aa.g O O O (ad O (aa.g O O O ?_))));refine aa.call (uQ A1 A D cA cD n R rs B ee xx _ h1 hB (by omega) (cj xx (by omega) (by omega)) (by have:=bW xx (by omega) (by omega);omega)) O O O ?_;rintro _ dB ⟨rfl,rfl⟩;refine ad O ?_;refine bY 62 O (fun nv=>?_) (fun nv=>?_)
       ·refine aa.g O O O (ad O (aa.g O O O (ad O (aa.g O O O (ad O ?_)))));refine bY 65 O (fun lW=>?_) (fun lW=>?_)
        ·refine ai O O O O O (ai O O O O O (ai O O O O O (aa.g O O O (ay O ?_))));refine Cd.gj O ?_;refine av O (aa.add O O O (by omega) (ad O (aa.add O O O (by omega) (aF O (tQ ?_)))));exact⟨q+1,by show ms.length - (q+1)<ms.length - q;omega,⟨O,O,O,O,O,O,O,O,O,O,O,O,O,O,ax (fun m:Nat=>Value.int .i64 (m:Int)) (kb ⟨.inr nv,.inl lW⟩).symm,O,O,O,ae⟩,by omega,O⟩
        refine aa.g O O O (ad O (aa.g O O O (ad O (aa.g O O O ?_))));refine aa.call (uQ A1 A D cA cD n R rs B xx ff _ h1 hB (by omega) (cj ff (by omega) (by omega)) (by have:=bW ff (by omega) (by omega);omega)) O O O ?_;rintro _ eu ⟨rfl,rfl⟩;refine aa.g O O O (ay O ?_);refine aB _ O (fun lZ=>?_) (fun lZ=>?_)
        ·refine av O (aa.add O O O (by omega) (ad O (aa.add O O O (by omega) (aF O (tQ ?_)))));exact⟨q+1,by show ms.length - (q+1)<ms.length - q;omega,⟨O,O,O,O,O,O,O,O,O,O,O,O,O,O,ax (fun m:Nat=>Value.int .i64 (m:Int)) (kb ⟨.inr nv,.inr lZ⟩).symm,O,O,O,ae⟩,by omega,O⟩
        refine av O (aa.add O O O (by omega) (aF O (tQ ?_)));exact⟨q+1,by show ms.length - (q+1)<ms.length - q;omega,⟨O,O,O,O,O,O,O,O,O,O,O,O,O,O,ax (fun m:Nat=>Value.int .i64 (m:Int)) (ij fun h=>h.2.elim lW lZ).symm,O,O,O,ae⟩,by omega,O⟩
       refine ai O O O O O (ai O O O O O (ai O O O O O (bM O O O O (bM O O O O (bM O O O O (ai O O O O O (ay O ?_)))))));refine Cd.eV O ?_;refine av O (aa.add O O O (by omega) (aF O (tQ ?_)));exact⟨q+1,by show ms.length - (q+1)<ms.length - q;omega,⟨O,O,O,O,O,O,O,O,O,O,O,O,O,O,ax (fun m:Nat=>Value.int .i64 (m:Int)) (ij fun h=>h.1.elim nu nv).symm,O,O,O,ae⟩,by omega,O⟩
      have yr:q=ms.length:=by omega
      subst yr;have yd:=vq ee ff;refine aY O (aZ (nN O ?_));refine aB _ O (fun nu=>?_) (fun nu=>?_)
      ·refine av O ?_;refine vc [(i:Int),ee,ff] aK O O (by decide) (by decide) O O ?_;intro A9 dB bD;refine bh O (eZ (eE (eZ (eE (eZ (eE ?_))))));refine gB O ?_;refine⟨A9,3,3,O,⟨fun h=>?_,fun h=>?_⟩,bD.none⟩
       ·rw [De (bD.bc 0 rfl).2 (by decide)]at h;cases h
       have B6:=h (i:Int) ee ff (by omega) h2 ((HP (by omega) h2).1 (by rw [zJ,←GV];exact gi_in ln)) ((HO (by omega) h2).1 (by rw [zF,←GW];exact gi_in je)) sI;omega
      refine av O (aa.add O O O (by omega) (aF O (tQ ?_)));exact⟨k+1,by show iB.length - (k+1)<iB.length - k;omega,⟨O,O,O,O,O,O,O,O,O,O,O,O,O,ae⟩,by omega,O,pV fun _=>by omega⟩
     have sI:0≤ee→0≤ff→ee∈gl B ff:=fun _ h=>absurd h gU
     refine ai O O O O O (ai O O O O O (ai O O O O O (ai O O O O O (ay O ?_))));refine Cd.eV O ?_;refine av O (aa.len O O (ay O ?_));refine Cd.loop (α:=Nat) (fun q=> [(1,.pointer A1),(14,aiD n),(15,aiD (i:Int)),(3,aiD (i:Int)),(4,.slice A4 ms.length c4),(5,.slice A5 iB.length c5),(25,.slice A6 mx.length c6),(26,aiD (mx.length:Int)),(27,aiD (j:Int)),(7,aiD ee),(31,.slice A5 iB.length c5),(32,aiD (iB.length:Int)),(33,aiD (k:Int)),(9,aiD ff),(10,aiD ((sd (pJ B ee ff) ms q:Nat):Int)),(49,.slice A4 ms.length c4),(50,aiD (ms.length:Int)),(51,aiD (q:Int))]) (fun q w'=>q≤ms.length∧w'=w7) (fun q=>ms.length - q) 0 ⟨O,O,O,O,O,O,O,O,O,O,O,O,O,O,O,O,O,O,ae⟩ ⟨aW _,O⟩ ?_;rintro q e w9 ⟨hq,rfl⟩;have cg:=IM (P:=pJ B ee ff) (xs:=ms) (q:=q);refine bK O ?_;refine aB _ O (fun BK=>?_) (fun BK=>?_)
     ·have uL:q<ms.length:=by omega
      have hx:=zK _ (gi_in uL);have kb:=IQ (P:=pJ B ee ff) uL;have ij:=IP (P:=pJ B ee ff) uL;refine av O (aw h4.2 O O O (by omega) (by omega) (aT h4 O (by omega) O O (ad O ?_)));generalize zT:gi ms (q:Int)=xx at*;refine bY 57 O (fun nu=>?_) (fun nu=>?_)
      ·refine ai O O O O O (ai O O O O O (ai O O O O O (ad O (aa.g O O O (ad O (aa.g O O O (ad O (aa.g O O O (ad O ?_)))))))));refine bY 65 O (fun lW=>?_) (fun lW=>?_)
       ·refine ai O O O O O (ai O O O O O (ai O O O O O (aa.g O O O (ay O ?_))));refine Cd.gj O ?_;refine av O (aa.add O O O (by omega) (ad O (aa.add O O O (by omega) (aF O (tQ ?_)))));exact⟨q+1,by show ms.length - (q+1)<ms.length - q;omega,⟨O,O,O,O,O,O,O,O,O,O,O,O,O,O,ax (fun m:Nat=>Value.int .i64 (m:Int)) (kb ⟨.inl nu,.inl lW⟩).symm,O,O,O,ae⟩,by omega,O⟩
       refine aa.g O O O (ad O (aa.g O O O (ad O (aa.g O O O ?_))));refine aa.call (uQ A1 A D cA cD n R rs B xx ff _ h1 hB (by omega) (cj ff (by omega) (by omega)) (by have:=bW ff (by omega) (by omega);omega)) O O O ?_;rintro _ dB ⟨rfl,rfl⟩;refine aa.g O O O (ay O ?_);refine aB _ O (fun lZ=>?_) (fun lZ=>?_)
       ·refine av O (aa.add O O O (by omega) (ad O (aa.add O O O (by omega) (aF O (tQ ?_)))));exact⟨q+1,by show ms.length - (q+1)<ms.length - q;omega,⟨O,O,O,O,O,O,O,O,O,O,O,O,O,O,ax (fun m:Nat=>Value.int .i64 (m:Int)) (kb ⟨.inl nu,.inr lZ⟩).symm,O,O,O,ae⟩,by omega,O⟩
       refine av O (aa.add O O O (by omega) (aF O (tQ ?_)));exact⟨q+1,by show ms.length - (q+1)<ms.length - q;omega,⟨O,O,O,O,O,O,O,O,O,O,O,O,O,O,ax (fun m:Nat=>Value.int .i64 (m:Int)) (ij fun h=>h.2.elim lW lZ).symm,O,O,O,ae⟩,by omega,O⟩
      refine aa.g O O O (ad O (aa.g O O O (ad O (aa.g O O O ?_))));refine aa.call (uQ A1 A D cA cD n R rs B ee xx _ h1 hB (by omega) (cj xx (by omega) (by omega)) (by have:=bW xx (by omega) (by omega);omega)) O O O ?_;rintro _ dB ⟨rfl,rfl⟩;refine ad O ?_;refine bY 62 O (fun nv=>?_) (fun nv=>?_)
      ·refine aa.g O O O (ad O (aa.g O O O (ad O (aa.g O O O (ad O ?_)))));refine bY 65 O (fun lW=>?_) (fun lW=>?_)
       ·refine ai O O O O O (ai O O O O O (ai O O O O O (aa.g O O O (ay O ?_))));refine Cd.gj O ?_;refine av O (aa.add O O O (by omega) (ad O (aa.add O O O (by omega) (aF O (tQ ?_)))));exact⟨q+1,by show ms.length - (q+1)<ms.length - q;omega,⟨O,O,O,O,O,O,O,O,O,O,O,O,O,O,ax (fun m:Nat=>Value.int .i64 (m:Int)) (kb ⟨.inr nv,.inl lW⟩).symm,O,O,O,ae⟩,by omega,O⟩
       refine aa.g O O O (ad O (aa.g O O O (ad O (aa.g O O O ?_))));refine aa.call (uQ A1 A D cA cD n R rs B xx ff _ h1 hB (by omega) (cj ff (by omega) (by omega)) (by have:=bW ff (by omega) (by omega);omega)) O O O ?_;rintro _ eu ⟨rfl,rfl⟩;refine aa.g O O O (ay O ?_);refine aB _ O (fun lZ=>?_) (fun lZ=>?_)
       ·refine av O (aa.add O O O (by omega) (ad O (aa.add O O O (by omega) (aF O (tQ ?_)))));exact⟨q+1,by show ms.length - (q+1)<ms.length - q;omega,⟨O,O,O,O,O,O,O,O,O,O,O,O,O,O,ax (fun m:Nat=>Value.int .i64 (m:Int)) (kb ⟨.inr nv,.inr lZ⟩).symm,O,O,O,ae⟩,by omega,O⟩
       refine av O (aa.add O O O (by omega) (aF O (tQ ?_)));exact⟨q+1,by show ms.length - (q+1)<ms.length - q;omega,⟨O,O,O,O,O,O,O,O,O,O,O,O,O,O,ax (fun m:Nat=>Value.int .i64 (m:Int)) (ij fun h=>h.2.elim lW lZ).symm,O,O,O,ae⟩,by omega,O⟩
      refine ai O O O O O (ai O O O O O (ai O O O O O (bM O O O O (bM O O O O (bM O O O O (ai O O O O O (ay O ?_)))))));refine Cd.eV O ?_;refine av O (aa.add O O O (by omega) (aF O (tQ ?_)));exact⟨q+1,by show ms.length - (q+1)<ms.length - q;omega,⟨O,O,O,O,O,O,O,O,O,O,O,O,O,O,ax (fun m:Nat=>Value.int .i64 (m:Int)) (ij fun h=>h.1.elim nu nv).symm,O,O,O,ae⟩,by omega,O⟩
     have yr:q=ms.length:=by omega
     subst yr;have yd:=vq ee ff;refine aY O (aZ (nN O ?_));refine aB _ O (fun nu=>?_) (fun nu=>?_)
     ·refine av O ?_;refine vc [(i:Int),ee,ff] aK O O (by decide) (by decide) O O ?_;intro A9 dB bD;refine bh O (eZ (eE (eZ (eE (eZ (eE ?_))))));refine gB O ?_;refine⟨A9,3,3,O,⟨fun h=>?_,fun h=>?_⟩,bD.none⟩
      ·rw [De (bD.bc 0 rfl).2 (by decide)]at h;cases h
      have B6:=h (i:Int) ee ff (by omega) h2 ((HP (by omega) h2).1 (by rw [zJ,←GV];exact gi_in ln)) ((HO (by omega) h2).1 (by rw [zF,←GW];exact gi_in je)) sI;omega
     refine av O (aa.add O O O (by omega) (aF O (tQ ?_)));exact⟨k+1,by show iB.length - (k+1)<iB.length - k;omega,⟨O,O,O,O,O,O,O,O,O,O,O,O,O,ae⟩,by omega,O,pV fun _=>by omega⟩
    have sI:0≤ee→0≤ff→ee∈gl B ff:=fun h _=>absurd h h9
    refine ai O O O O O (ai O O O O O (ad O (ai O O O O O (ai O O O O O (ai O O O O O (ai O O O O O (ay O ?_)))))));refine Cd.eV O ?_;refine av O (aa.len O O (ay O ?_));refine Cd.loop (α:=Nat) (fun q=> [(1,.pointer A1),(14,aiD n),(15,aiD (i:Int)),(3,aiD (i:Int)),(4,.slice A4 ms.length c4),(5,.slice A5 iB.length c5),(25,.slice A6 mx.length c6),(26,aiD (mx.length:Int)),(27,aiD (j:Int)),(7,aiD ee),(31,.slice A5 iB.length c5),(32,aiD (iB.length:Int)),(33,aiD (k:Int)),(9,aiD ff),(10,aiD ((sd (pJ B ee ff) ms q:Nat):Int)),(49,.slice A4 ms.length c4),(50,aiD (ms.length:Int)),(51,aiD (q:Int))]) (fun q w'=>q≤ms.length∧w'=w7) (fun q=>ms.length - q) 0 ⟨O,O,O,O,O,O,O,O,O,O,O,O,O,O,O,O,O,O,ae⟩ ⟨aW _,O⟩ ?_;rintro q e w9 ⟨hq,rfl⟩;have cg:=IM (P:=pJ B ee ff) (xs:=ms) (q:=q);refine bK O ?_;refine aB _ O (fun BK=>?_) (fun BK=>?_)
    ·have uL:q<ms.length:=by omega
     have hx:=zK _ (gi_in uL);have kb:=IQ (P:=pJ B ee ff) uL;have ij:=IP (P:=pJ B ee ff) uL;refine av O (aw h4.2 O O O (by omega) (by omega) (aT h4 O (by omega) O O (ad O ?_)));generalize zT:gi ms (q:Int)=xx at*;refine bY 57 O (fun nu=>?_) (fun nu=>?_)
     ·refine ai O O O O O (ai O O O O O (ai O O O O O (ad O (aa.g O O O (ad O (aa.g O O O (ad O (aa.g O O O (ad O ?_)))))))));refine bY 65 O (fun lW=>?_) (fun lW=>?_)
      ·refine ai O O O O O (ai O O O O O (ai O O O O O (aa.g O O O (ay O ?_))));refine Cd.gj O ?_;refine av O (aa.add O O O (by omega) (ad O (aa.add O O O (by omega) (aF O (tQ ?_)))));exact⟨q+1,by show ms.length - (q+1)<ms.length - q;omega,⟨O,O,O,O,O,O,O,O,O,O,O,O,O,O,ax (fun m:Nat=>Value.int .i64 (m:Int)) (kb ⟨.inl nu,.inl lW⟩).symm,O,O,O,ae⟩,by omega,O⟩
      refine aa.g O O O (ad O (aa.g O O O (ad O (aa.g O O O ?_))));refine aa.call (uQ A1 A D cA cD n R rs B xx ff _ h1 hB (by omega) (cj ff (by omega) (by omega)) (by have:=bW ff (by omega) (by omega);omega)) O O O ?_;rintro _ dB ⟨rfl,rfl⟩;refine aa.g O O O (ay O ?_);refine aB _ O (fun lZ=>?_) (fun lZ=>?_)
      ·refine av O (aa.add O O O (by omega) (ad O (aa.add O O O (by omega) (aF O (tQ ?_)))));exact⟨q+1,by show ms.length - (q+1)<ms.length - q;omega,⟨O,O,O,O,O,O,O,O,O,O,O,O,O,O,ax (fun m:Nat=>Value.int .i64 (m:Int)) (kb ⟨.inl nu,.inr lZ⟩).symm,O,O,O,ae⟩,by omega,O⟩
      refine av O (aa.add O O O (by omega) (aF O (tQ ?_)));exact⟨q+1,by show ms.length - (q+1)<ms.length - q;omega,⟨O,O,O,O,O,O,O,O,O,O,O,O,O,O,ax (fun m:Nat=>Value.int .i64 (m:Int)) (ij fun h=>h.2.elim lW lZ).symm,O,O,O,ae⟩,by omega,O⟩
     refine aa.g O O O (ad O (aa.g O O O (ad O (aa.g O O O ?_))));refine aa.call (uQ A1 A D cA cD n R rs B ee xx _ h1 hB (by omega) (cj xx (by omega) (by omega)) (by have:=bW xx (by omega) (by omega);omega)) O O O ?_;rintro _ dB ⟨rfl,rfl⟩;refine ad O ?_;refine bY 62 O (fun nv=>?_) (fun nv=>?_)
     ·refine aa.g O O O (ad O (aa.g O O O (ad O (aa.g O O O (ad O ?_)))));refine bY 65 O (fun lW=>?_) (fun lW=>?_)
      ·refine ai O O O O O (ai O O O O O (ai O O O O O (aa.g O O O (ay O ?_))));refine Cd.gj O ?_;refine av O (aa.add O O O (by omega) (ad O (aa.add O O O (by omega) (aF O (tQ ?_)))));exact⟨q+1,by show ms.length - (q+1)<ms.length - q;omega,⟨O,O,O,O,O,O,O,O,O,O,O,O,O,O,ax (fun m:Nat=>Value.int .i64 (m:Int)) (kb ⟨.inr nv,.inl lW⟩).symm,O,O,O,ae⟩,by omega,O⟩
      refine aa.g O O O (ad O (aa.g O O O (ad O (aa.g O O O ?_))));refine aa.call (uQ A1 A D cA cD n R rs B xx ff _ h1 hB (by omega) (cj ff (by omega) (by omega)) (by have:=bW ff (by omega) (by omega);omega)) O O O ?_;rintro _ eu ⟨rfl,rfl⟩;refine aa.g O O O (ay O ?_);refine aB _ O (fun lZ=>?_) (fun lZ=>?_)
      ·refine av O (aa.add O O O (by omega) (ad O (aa.add O O O (by omega) (aF O (tQ ?_)))));exact⟨q+1,by show ms.length - (q+1)<ms.length - q;omega,⟨O,O,O,O,O,O,O,O,O,O,O,O,O,O,ax (fun m:Nat=>Value.int .i64 (m:Int)) (kb ⟨.inr nv,.inr lZ⟩).symm,O,O,O,ae⟩,by omega,O⟩
      refine av O (aa.add O O O (by omega) (aF O (tQ ?_)));exact⟨q+1,by show ms.length - (q+1)<ms.length - q;omega,⟨O,O,O,O,O,O,O,O,O,O,O,O,O,O,ax (fun m:Nat=>Value.int .i64 (m:Int)) (ij fun h=>h.2.elim lW lZ).symm,O,O,O,ae⟩,by omega,O⟩
     refine ai O O O O O (ai O O O O O (ai O O O O O (bM O O O O (bM O O O O (bM O O O O (ai O O O O O (ay O ?_)))))));refine Cd.eV O ?_;refine av O (aa.add O O O (by omega) (aF O (tQ ?_)));exact⟨q+1,by show ms.length - (q+1)<ms.length - q;omega,⟨O,O,O,O,O,O,O,O,O,O,O,O,O,O,ax (fun m:Nat=>Value.int .i64 (m:Int)) (ij fun h=>h.1.elim nu nv).symm,O,O,O,ae⟩,by omega,O⟩
    have yr:q=ms.length:=by omega
    subst yr;have yd:=vq ee ff;refine aY O (aZ (nN O ?_));refine aB _ O (fun nu=>?_) (fun nu=>?_)
    ·refine av O ?_;refine vc [(i:Int),ee,ff] aK O O (by decide) (by decide) O O ?_;intro A9 dB bD;refine bh O (eZ (eE (eZ (eE (eZ (eE ?_))))));refine gB O ?_;refine⟨A9,3,3,O,⟨fun h=>?_,fun h=>?_⟩,bD.none⟩
     ·rw [De (bD.bc 0 rfl).2 (by decide)]at h;cases h
     have B6:=h (i:Int) ee ff (by omega) h2 ((HP (by omega) h2).1 (by rw [zJ,←GV];exact gi_in ln)) ((HO (by omega) h2).1 (by rw [zF,←GW];exact gi_in je)) sI;omega
    refine av O (aa.add O O O (by omega) (aF O (tQ ?_)));exact⟨k+1,by show iB.length - (k+1)<iB.length - k;omega,⟨O,O,O,O,O,O,O,O,O,O,O,O,O,ae⟩,by omega,O,pV fun _=>by omega⟩
   refine aY O (aZ (cL O (aa.add O O O (by omega) (aF O (tQ ?_)))));exact⟨j+1,by show mx.length - (j+1)<mx.length - j;omega,⟨O,O,O,O,O,O,O,O,O,ae⟩,by omega,O,fun p hp f hf=>by
    by_cases ep:p=j
    ·subst ep;rw [GV];obtain⟨q,hq,e9⟩:=gJ.1 hf;rw [←bX hq]at e9;have:=bJ q (by omega)
     rwa [e9]at this
    exact dp p (by omega) f hf⟩
  refine aY O (aZ (cL O (aa.add O O O (by omega) (aF O (tQ ?_)))));exact⟨i+1,by show n.toNat - (i+1)<n.toNat - i;omega,⟨O,O,O,ae⟩,by show((i+1:Nat):Int)≤n;omega,fun i' e f h0 h' he hf sI=>by
   by_cases ei:i'=(i:Int)
   ·subst ei;rw [zJ]at he;rw [zF]at hf;obtain⟨q,hq,e9⟩:=gJ.1 he;rw [←bX hq]at e9;have:=dp q (by omega) f hf;rw [e9]at this;exact this sI
   exact nA i' e f h0 (by have h':i'< ((i+1:Nat):Int):=h';omega) he hf sI,abk⟩
 refine aY O (aZ (gE O ?_));refine gB O ?_;exact⟨none,0,0,O,⟨fun _ i' e f h0 h3 h4 h5 h6=>nA i' e f h0 (by omega) ((HP h0 h3).2 h4) ((HO h0 h3).2 h5) h6,fun _=>O⟩,ar⟩
theorem OW{n:Nat}{R:List Int}{B:aiB}(hn:1≤n)(hb:R.length≤500):∀x∈au n R B,x.length=n∧∀e∈x,0≤e∧e< (R.length:Int):=fun x hx=>by
 obtain⟨h1,h2,_⟩:=(nY hn).1 hx;refine⟨h1,fun e he=>?_⟩;obtain⟨k,hk,rfl⟩:=gJ.1 he;rw [←bX hk];exact(h2 k (by omega)).1
theorem Dl(b:Bool):b=decide (b=true):=by cases b<;>rfl
theorem ab3(n:Nat)(A D:aiC)(cA cD:Nat)(R:List Int)(rs:List aG)(B:aiB)(Af:aiC)(cf:Nat)(eS:List aG)(w:World)(hT:mL w)(hR:bS w A R.length R)(hB:br w D B.length rs B)(hP:fO n R B)(hF:br w Af (au n R B).length eS (au n R B))(QN:(au n R B).length≤400):
 aA prog 82 [.agg #[aiD n,.slice A R.length cA,.slice D B.length cD],.slice Af (au n R B).length cf] w (fun v w'=>∃b:Bool,v= .bool b∧(b=true↔xN n R B)∧St w w' []):=by
 have hn:=hP.n1;have kR:=hP.nn;have yh:=OW (n:=n) (R:=R) (B:=B) (by omega) kR;have aam:∀x∈au n R B,x.length=n∧∀e∈x,0≤e∧e≤1000000:=fun x hx=> ⟨(yh x hx).1,fun e he=>by have:=(yh x hx).2 e he;omega⟩
 have rv:(au n R B).Nodup:=(BH n R B).nodup;refine bk func82 O ntmps82 O (cK O) (aQ O (kK (St.refl w) O O ?_));intro A1 w1 ao;have h1:Rd w1 A1 3 (fun j=> [Value.int .i64 n,.slice A R.length cA,.slice D B.length cD].getD j undef):=ao.rd 0 O;have hR:=ao.eY hR;have hB:=ao.bF hB;have hF:=ao.bF hF;have hT:=hT.later ao.below;have ao:=ao.none;refine ad O (aa.len O O (ad O ?_));refine bY 8 O (fun h2=>?_) (fun h2=>?_)
 ·have bt:au n R B≠[]:=fun h=>by rw [h]at h2;exact absurd h2 (by decide)
  refine aa.g O O O (aa.bq 2 h1 O O O ?_);refine aa.g O O O (ad O (aa.g O O O ?_));refine aa.call (ab4 n A D cA R.length B.length cD Af (au n R B).length cf eS (au n R B) _ hF kR (fun l hl=> ⟨by have:=(yh l hl).1;omega,(yh l hl).2⟩) (by omega)) O O O ?_;rintro _ w2 ⟨b,rfl,hb,ak⟩;have h1:=Rd.below h1 ak.below;have hR:=ak.eY hR;have hB:=ak.bF hB;have hF:=ak.bF hF;have hT:=hT.later ak.below;have ao:=ao.later ak.below;have yq:b=true↔FC n R B:=hb;clear ak hb;rw [Dl b];refine ad O ?_;refine bY 13 O (fun h3=>?_) (fun h3=>?_)
  ·refine aa.g O O O (aa.bq 2 h1 O O O (aa.g O O O (aa.call (XR n A D cA cD R rs B _ hR hB hP) O O O ?_)));rintro _ w3 ⟨A9,n9,c9,rfl,hd,ak⟩;have hF:=ak.bF hF;have hT:=hT.later ak.below;have ao:=ao.later ak.below;clear ak;refine aa.g O O O (Da O O O ?_);rw [Dl A9.isNone];refine ad O ?_;refine bY 18 O (fun h4=>?_) (fun h4=>?_)
   ·refine aa.g O O O (ad O (aa.g O O O ?_));refine aa.call (Xw Af (au n R B).length cf eS (au n R B) n _ hT hF (by omega) (by omega) aam rv) O O O ?_;rintro _ w4 ⟨A8,n8,c8,rfl,hc,ak⟩;have ao:=ao.later ak.below;refine aa.g O O O (Da O O O (bh O (cM O ?_)));exact⟨A8.isNone,O,⟨fun h=> ⟨bt,yq.1 h3,hd.1 h4,hc.1 h⟩,fun h=>hc.2 h.2.2.2⟩,ao⟩
   refine ai O O O O O (ai O O O O O (ai O O O O O (bh O ?_)));refine cM O ?_;exact⟨false,rfl,⟨fun h=> (by cases h),fun h=>absurd (hd.2 h.2.2.1) h4⟩,ao⟩
  refine ai O O O O O (ai O O O O O (ai O O O O O (ad O (ai O O O O O (ai O O O O O (ai O O O O O (bh O ?_)))))));refine cM O ?_;exact⟨false,rfl,⟨fun h=> (by cases h),fun h=>absurd (yq.2 h.2.1) h3⟩,ao⟩
 refine ai O O O O O (ai O O O O O (ai O O O O O (ad O (ai O O O O O (ai O O O O O (ai O O O O O (ad O (ai O O O O O (ai O O O O O (ai O O O O O (bh O ?_)))))))))));refine cM O ?_;exact⟨false,rfl,⟨fun h=> (by cases h),fun h=>absurd (List.length_pos_iff.2 h.1) (by omega)⟩,ao⟩
noncomputable def jr(M:aiB):aiB:=au M.length (aO M M.length) (bn M)
noncomputable def mX(M:aiB):Int:=if 500<aD M M.length∨400< (jr M).length then 3 else 0
def s5(M:aiB):Prop:=aD M M.length≤500∧(jr M).length=(gl M 0).length∧xN M.length (aO M M.length) (bn M)
theorem s5.code{M:aiB}(hM:bL M)(h:s5 M):mX M=0:=by
 have:=hM.2.1;unfold mX;rw [ag (by have:=h.1;have:=h.2.1;omega)]
theorem mE{M:aiB}(hM:bL M)(h:aD M M.length≤500):fO (M.length:Int) (aO M M.length) (bn M):=YB hM h
theorem ab2(A:aiC)(n c:Nat)(rs:List aG)(M:aiB)(w:World)(hT:mL w)(hR:br w A n rs M)(hM:bL M):
 aA prog 94 [.agg #[.slice A n c]] w (fun v w'=>∃b:Bool,v= .tuple #[.bool b,aiD (mX M)]∧(b=true↔s5 M)∧St w w' []):=by
 have hl:=hR.len;have h5:=hM.1;have h4:=hM.2.1;have tw:=iR M M.length;have ob:=tm M;have qw:=hR.pE (k:=0) (by omega) (by omega);refine bk func94 O ntmps94 O (sQ O) (aQ O (iI (St.refl w) O O ?_));intro A1 w1 ao;refine ad O (aa.bq 0 (ao.rd 0 O) O O O (aa.call (OH A n c rs M _ (ao.bF hR) hM) O O O ?_));rintro _ w2 (⟨qn,rfl,ak⟩ | ⟨qn,AR,cR,AD,cD,cH,rfl,ju,ak⟩)
 ·have ar:=ao.later ak.below;refine ad O (jC ar O ?_);intro A4 w3 az;refine bG 3 0 az O O O O O O O ?_;intro w4 aJ;refine ad O ?_
  first | refine eC rfl rfl ?_ | refine aa.not rfl rfl ?_
  refine ay O (Cd.gj O (dN O (yQ O O ?_)));unfold mX;rw [aj (.inl qn)];exact⟨false,rfl,⟨fun h=> (by cases h),fun h=>by have:=h.1;omega⟩,aJ.none⟩
 have hP:=mE hM qn;have ar:=ao.call ak;clear ak ao;refine ad O (jC ar O ?_);intro A4 w3 az;refine bG 3 0 az O O O O O O O ?_;intro w4 aJ;have aJ:St w w4 (bj A4 (M.length:Int) AR (aD M M.length) cR AD (aD M M.length) cD::(ah 2 AR (aD M M.length) cR (aO M M.length)::((aE 32 2 AD (aD M M.length) cD cH (bn M)++ [])++ [Bx 24 1 A1 [.slice A n c]]))):=aJ;have oh:bS w4 AR (aO M M.length).length (aO M M.length):=by rw [tw];exact aJ.bc 1 O
 have fq:br w4 AD (bn M).length cH (bn M):=by
  rw [ob];have h9:=aJ.sub (show(aE 32 2 AD (aD M M.length) cD cH (bn M)).Sublist _ from List.Sublist.cons _ (List.Sublist.cons _ (by rw [fg];exact rX _ _)));exact h9.rN ob
 have kq:=aJ.rd 0 O;have cN:Rd w4 A1 1 (fun _=> .slice A n c):=by
  have h9:=aJ.sub (show List.Sublist [Bx 24 1 A1 [.slice A n c]] _ from List.Sublist.cons _ (List.Sublist.cons _ (gR _ _)));exact Rd.one (h9.rd 0 O)
 refine ad O ?_
 first | refine eC rfl rfl ?_ | refine aa.not rfl rfl ?_
 refine ay O (Cd.eV O (av O (aa.bq 2 kq O O O ?_)));refine aa.call (OR M.length AR AD cR cD (aO M M.length) cH (bn M) _ oh fq hP) O (by rw [tw,ob];rfl) O ?_;rintro _ w5 ⟨Af,cf,E5,rfl,wU,ak⟩;have aK:=aJ.later ak.below;have DU:=oh.later ak.below;have DJ:=fq.later ak.below;have lI:=Rd.below kq ak.below;have cN:=Rd.below cN ak.below
 by_cases gy:(au M.length (aO M M.length) (bn M)).length≤400
 ·
  have hL:wb M.length (aO M M.length) (bn M)=au M.length (aO M M.length) (bn M):=by unfold wb;rw [if_pos gy]
  have hK:qg M.length (aO M M.length) (bn M)=0:=by unfold qg;rw [if_pos gy]
  have mP:mX M=0:=by unfold mX;rw [if_neg (by show ¬(500<aD M M.length∨400< (au M.length (aO M M.length) (bn M)).length);omega)]
  rw [hL]at wU ak⊢;rw [hK,mP];have JK:br w5 Af (au M.length (aO M M.length) (bn M)).length E5 (au M.length (aO M M.length) (bn M)):=by
   rw [fg]at ak;exact ak.rN O
  refine ad O ?_;refine bY 22 O (fun _=>?_) (fun h=>absurd O h);refine aa.g O O O (ad O (aa.g O O O ?_));refine aa.call (Fa _ _ _ _) O O O ?_;rintro _ w5 ⟨rfl,rfl⟩;refine aa.g O O O (aa.call (um A1 A n c rs M _ _ cN O (aK.bF hR) (by omega)) O O O ?_);rintro _ w5 ⟨rfl,rfl⟩;refine aa.g O O O (ad O ?_);refine bY 28 O (fun h6=>?_) (fun h6=>?_)
  ·refine aa.g O O O (aa.bq 2 lI O O O ?_);refine aa.g O O O (ad O (aa.g O O O ?_));refine aa.call (ab3 M.length AR AD cR cD (aO M M.length) cH (bn M) Af cf E5 _ (hT.later aK.below) DU DJ hP JK gy) O (by rw [tw,ob];rfl) O ?_;rintro _ w6 ⟨b,rfl,hb,lu⟩;refine bh O (yQ O O ?_);refine⟨b,O,hb.trans ⟨fun h=> ⟨qn,?_,h⟩,fun h=>h.2.2⟩,(aK.later lu.below).none⟩;show(au M.length (aO M M.length) (bn M)).length=_;omega
  refine ai O O O O O (ai O O O O O (ai O O O O O (bh O ?_)));refine yQ O O ?_;refine⟨false,rfl,⟨fun h=> (by cases h),fun h=>?_⟩,aK.none⟩;have h9:(au M.length (aO M M.length) (bn M)).length=(gl M 0).length:=h.2.1;omega
 have hL:wb M.length (aO M M.length) (bn M)=[]:=by unfold wb;rw [if_neg gy]
 have hK:qg M.length (aO M M.length) (bn M)=3:=by unfold qg;rw [if_neg gy]
 have mP:mX M=3:=by unfold mX;rw [if_pos (.inr (by show 400< (au M.length (aO M M.length) (bn M)).length;omega))]
 rw [hL]at wU ak⊢;rw [hK,mP];refine ad O ?_;refine bY 22 O (fun h=>absurd h (by decide)) (fun _=>?_);refine ai O O O O O (ai O O O O O (ai O O O O O (ai O O O O O (ad O (ai O O O O O (ai O O O O O (ai O O O O O (bh O ?_))))))));refine yQ O O ?_;refine⟨false,rfl,⟨fun h=> (by cases h),fun h=>?_⟩,aK.none⟩;have h9:(au M.length (aO M M.length) (bn M)).length=(gl M 0).length:=h.2.1;omega
section
variable{v0:Value}{b:Nat}
variable {P:Program} {N:Nat} {ops:Array Oper} {K:Env→World→Prop} {rest:List Oper} {e:Env} {w0 w w':World} {ks:List Ck} {d:Nat} {ty:TypeId} {pos:String} {af:Array Edge}
theorem Vy{t:TypeId}{f0 f1:Field}{z0 z1 z2 z3 y0 y1:Value}{b0 b1:Nat}[bB P t (.struct #[f0,f1])][bp P t (.agg #[z0,z1,z2,z3]) 4 b]{x0 x1:Operand}{u0 u1 u2:Value}(sj:bp P f0.type y0 1 b0)(sk:bp P f1.type y1 3 b1)(ho:f0.offset=0)(tJ:f1.offset=1)(h0:ev e x0=v0)(h1:ev e x1= .agg #[u0,u1,u2])(c0:v0.oneCell'=true)(hb:Nat.blt d N=true)(hK:aa P N ops K rest (a7 e d (.agg #[v0,u0,u1,u2])) w):aa P N ops K (⟨some d,.build t #[(0,x0),(1,x1)],ty,pos,af,none⟩::rest) e w:=by
 obtain⟨inf,hi,fv,hs,iS⟩:=bp.get P t;obtain⟨Cw,eP,_,pA,_⟩:=sj.get P f0.type;obtain⟨Cx,jt,_,sJ,_⟩:=sk.get P f1.type;have e0:v0.cells= #[v0]:=by cases v0<;>simp [Value.oneCell']at c0<;>rfl
 have e1:(Value.agg #[u0,u1,u2]).cells= #[u0,u1,u2]:=O;have ez:(Value.agg #[z0,z1,z2,z3]).cells= #[z0,z1,z2,z3]:=O;refine .val (w':=w) ?_ hb hK;simp [execOp,Instr.build,run_underlying (bB.out (P:=P) (t:=t)),sizeOf,typeInfo,zeroValue,hi,fv,eP,pA,jt,sJ,ho,tJ,h0,h1,e0,e1,ez,Instr.fill]
theorem Ib{t:TypeId}{f0 f1:Field}{z0 z1 z2 z3 y0 y1:Value}{b0 b1:Nat}[bB P t (.struct #[f0,f1])][bp P t (.agg #[z0,z1,z2,z3]) 4 b](sj:bp P f0.type y0 1 b0)(sk:bp P f1.type y1 3 b1)(hb:Nat.blt d N=true)(hK:aa P N ops K rest (a7 e d (.agg #[z0,z1,z2,z3])) w):aa P N ops K (⟨some d,.build t #[],ty,pos,af,none⟩::rest) e w:=by
 obtain⟨inf,hi,fv,hs,iS⟩:=bp.get P t;obtain⟨Cw,eP,_,pA,_⟩:=sj.get P f0.type;obtain⟨Cx,jt,_,sJ,_⟩:=sk.get P f1.type;have ez:(Value.agg #[z0,z1,z2,z3]).cells= #[z0,z1,z2,z3]:=O;refine .val (w':=w) ?_ hb hK;simp [execOp,Instr.build,run_underlying (bB.out (P:=P) (t:=t)),sizeOf,typeInfo,zeroValue,hi,fv,eP,pA,jt,sJ,ez,Instr.fill]
theorem Bc{el:TypeId}{v1 v2 v3:Value}{s:Nat}[bp P el (.agg #[v0,v1,v2,v3]) s b](hS:St w0 w ks)(hb:Nat.blt d N=true)(hK:∀A w',St w0 w' (Bx el 4 A [v0,v1,v2,v3]::ks)→aa P N ops K rest (a7 e d (.pointer A)) w')(hM:eH [v0,v1,v2,v3]=false:=by rfl):aa P N ops K (⟨some d,.alloc el,ty,pos,af,none⟩::rest) e w:= .new (el:=el) (z:= .agg #[v0,v1,v2,v3]) (s:=s) (b:=b) hS hb rfl hK hM
theorem Ng{el:TypeId}{x:Operand}{v1 v2 v3:Value}(hS:St w0 w ks)(hx:ev e x= .agg #[v0,v1,v2,v3])(hb:Nat.blt d N=true)(hK:∀A w',St w0 w' (Bx el 4 A [v0,v1,v2,v3]::ks)→aa P N ops K rest (a7 e d (.pointer A)) w')(hM:eH [v0,v1,v2,v3]=false:=by rfl):aa P N ops K (⟨some d,.box el x,ty,pos,af,none⟩::rest) e w:=
 .FN hS hx hb rfl hK hM
end
open Classical in
noncomputable def iz(M:aiB):Int:=if bL M then(if mX M=0 then(if s5 M then 0 else 5)else 3)else 1
theorem Pf{M:aiB}(h:¬bL M):iz M=1:=by unfold iz;rw [if_neg h]
theorem Ji{M:aiB}(h:bL M)(h2:mX M≠0):iz M=3:=by unfold iz;rw [if_pos h,if_neg h2]
theorem Jh{M:aiB}(h:bL M)(h2:mX M=0)(h3:¬s5 M):iz M=5:=by unfold iz;rw [if_pos h,if_pos h2,if_neg h3]
theorem Gj{M:aiB}(h:bL M)(h3:s5 M):iz M=0:=by unfold iz;rw [if_pos h,if_pos (h3.code h),if_pos h3]
theorem jW{M:aiB}(h:iz M=0):bL M∧s5 M:=by
 unfold iz at h
 split at h
 ·rename_i h1
  split at h
  ·split at h
   ·rename_i h3;exact⟨h1,h3⟩
   cases h
  cases h
 cases h
theorem TT{M:aiB}(h:mX M≠0):mX M=3:=by
 unfold mX at h⊢
 split
 ·rfl
 rename_i h2;rw [ag h2]at h;exact absurd rfl h
def M0(M:aiB)(w:World)(v:Value)(w':World):Prop:=(iz M≠0∧v= .tuple #[.agg #[.slice none 0 0,aiD 0,.slice none 0 0,.slice none 0 0],aiD (iz M)]∧St w w' [])∨(iz M=0∧∃A8 c8 AR c AD d rs,v= .tuple #[.agg #[.slice A8 (aD M M.length+2) c8,aiD (M.length:Int),.slice AR (aD M M.length) c,.slice AD (aD M M.length) d],aiD 0]∧rs.length=aD M M.length∧St w w' (ah 2 A8 (aD M M.length+2) c8 (fo M.length (aO M M.length))::ah 2 AR (aD M M.length) c (aO M M.length)::(aE 32 2 AD (aD M M.length) d rs (bn M)++ [])))
set_option maxHeartbeats 2000000 in
theorem Dt(A:aiC)(n c:Nat)(rs:List aG)(M:aiB)(w:World)(hT:mL w)(hR:br w A n rs M)(hn:n≤c)(hc:c≤9223372036854775807):
 aA prog 114 [.agg #[.slice A n c]] w (M0 M w):=by
 refine bk func114 O ntmps114 O (tW O O) (aQ O (iI (St.refl w) O O ?_));intro A1 w1 ao;refine Bc ao O ?_;intro A2 w2 ar;have ar:St w w2 [Bx 100 4 A2 [.slice none 0 0,aiD 0,.slice none 0 0,.slice none 0 0],Bx 24 1 A1 [.slice A n c]]:=ar;refine ad O (aa.bq 0 (ar.rd 1 O) O O O (aa.call (EM A n c rs M _ (ar.bF hR) hn hc) O O O ?_));rintro _ w3 ⟨rfl,ak⟩;have az:=ar.later ak.below;clear ak ar ao
 first | refine eC rfl rfl ?_ | refine aa.not rfl rfl ?_
 refine ay O ?_;refine aB _ O (fun h1=>?_) (fun h1=>?_)
 ·refine av O (Ib (by exact inferInstance) (by exact inferInstance) O (bG 4 0 az O O O O O O O ?_));intro w4 aJ;refine bh O (kA O (aJ.rd 0 O) O ?_);exact .inl ⟨by rw [Pf h1];decide,by rw [Pf h1];rfl,aJ.none⟩
 have hM:bL M:=iP.1 h1;have tw:=iR M M.length;have ob:=tm M;refine av O (aa.bq 0 (az.rd 1 O) O O O (aa.call (ab2 A n c rs M _ (hT.later az.below) (az.bF hR) hM) O O O ?_));rintro _ w4 ⟨b,rfl,hb,ak⟩;have aJ:=az.later ak.below;clear ak az;refine ay O ?_;refine aB _ O (fun h2=>?_) (fun h2=>?_)
 ·refine av O (Ib (by exact inferInstance) (by exact inferInstance) O (ad O (bG 4 0 aJ O O O O O O O ?_)));intro w5 aK;refine bh O (kA O (aK.rd 0 O) O ?_);exact .inl ⟨by rw [Ji hM h2];decide,by rw [Ji hM h2,TT h2];rfl,aK.none⟩
 have h2:mX M=0:=iP.1 h2;rw [Dl b];refine av O ?_
 first | refine eC rfl rfl ?_ | refine aa.not rfl rfl ?_
 refine ay O ?_;refine aB _ O (fun h3=>?_) (fun h3=>?_)
 ·have Rq:¬s5 M:=fun h=>h3 (hb.2 h)
  refine av O (Ib (by exact inferInstance) (by exact inferInstance) O (bG 4 0 aJ O O O O O O O ?_));intro w5 aK;refine bh O (kA O (aK.rd 0 O) O ?_);exact .inl ⟨by rw [Jh hM h2 Rq];decide,by rw [Jh hM h2 Rq];rfl,aK.none⟩
 have hg:s5 M:=hb.1 (iP.1 h3);have qn:=hg.1;have h5:=hM.1;refine av O (aa.bq 0 (aJ.rd 1 O) O O O (aa.call (OH A n c rs M _ (aJ.bF hR) hM) O O O ?_));rintro _ w5 (⟨h9,_⟩ | ⟨_,AR,cR,AD,cD,cH,rfl,ju,ak⟩)
 ·omega
 have aK:=aJ.call ak;clear ak aJ;refine ad O (jC aK O ?_);intro A6 w6 aR;refine bG 3 0 aR O O O O O O O ?_;intro w7 aV;obtain⟨N,hN⟩:∃N,aD M M.length=N:=⟨_,rfl⟩;unfold M0;rw [hN]at tw ob ju aV qn⊢;have aV:St w w7 (bj A6 (M.length:Int) AR N cR AD N cD::(ah 2 AR N cR (aO M M.length)::((aE 32 2 AD N cD cH (bn M)++ [])++ [Bx 100 4 A2 [.slice none 0 0,aiD 0,.slice none 0 0,.slice none 0 0],Bx 24 1 A1 [.slice A n c]]))):=aV;refine ad O (dJ (i:= -1) aV O O O ?_);intro A9 w8 bA;refine aH (bA.rd 1 O) O O O O inferInstance (aM (bA.rd 1 O) O O O O O (eK 0 bA O (bA.bc 2 O) O O O (by omega) (by omega) O ?_));intro A8 c8 w9 aS;have aS:St w w9 (ah 2 A8 (1+N) c8 ([-1]++aO M M.length)::bj A6 (M.length:Int) AR N cR AD N cD::(ah 2 AR N cR (aO M M.length)::((aE 32 2 AD N cD cH (bn M)++ [])++ [Bx 100 4 A2 [.slice none 0 0,aiD 0,.slice none 0 0,.slice none 0 0],Bx 24 1 A1 [.slice A n c]]))):=aS;obtain⟨KK,qZ⟩:∃KK:List Ck,KK=ah 2 AR N cR (aO M M.length)::(aE 32 2 AD N cD cH (bn M)++ []):=⟨_,rfl⟩;have aS:St w w9 (ah 2 A8 (1+N) c8 ([-1]++aO M M.length)::bj A6 (M.length:Int) AR N cR AD N cD::Bx 100 4 A2 [.slice none 0 0,aiD 0,.slice none 0 0,.slice none 0 0]::KK):=by
  have gU:=aS.perm (show List.Perm _ (Bx 24 1 A1 [.slice A n c]::(ah 2 A8 (1+N) c8 ([-1]++aO M M.length)::bj A6 (M.length:Int) AR N cR AD N cD::Bx 100 4 A2 [.slice none 0 0,aiD 0,.slice none 0 0,.slice none 0 0]::KK)) from by
   rw [qZ]
   classical
   refine lR.2 fun z=>?_
   simp only [nP,lE,nQ];omega)
  exact gU.tail
 clear bA aV aR aK;refine ay O ?_;refine iU [4,7] [yS (A8) (1+N) (c8),yP (aq (A6) 0),yI ((M.length:Int)),.pr (fun v w'=>∃A9,v= .slice A9 1 1∧St w w' (ah 2 A9 1 1 [(M.length:Int)]::ah 2 A8 (1+N) c8 ([-1]++aO M M.length)::bj A6 (M.length:Int) AR N cR AD N cD::Bx 100 4 A2 [.slice none 0 0,aiD 0,.slice none 0 0,.slice none 0 0]::KK)),.pr (fun v w'=>∃AZ cZ,v= .slice AZ (1+N+1) cZ∧St w w' (ah 2 AZ (1+N+1) cZ (([-1]++aO M M.length)++ [(M.length:Int)])::bj A6 (M.length:Int) AR N cR AD N cD::Bx 100 4 A2 [.slice none 0 0,aiD 0,.slice none 0 0,.slice none 0 0]::KK)),.ex (.agg #[aiD (M.length:Int),.slice AR N cR,.slice AD N cD]),.pr (fun v w'=>∃AZ cZ,v= .agg #[.slice AZ (1+N+1) cZ,aiD (M.length:Int),.slice AR N cR,.slice AD N cD]∧St w w' (ah 2 AZ (1+N+1) cZ (([-1]++aO M M.length)++ [(M.length:Int)])::bj A6 (M.length:Int) AR N cR AD N cD::Bx 100 4 A2 [.slice none 0 0,aiD 0,.slice none 0 0,.slice none 0 0]::KK)),.pr (fun _ w'=>∃AZ cZ,St w w' (ah 2 AZ (1+N+1) cZ (([-1]++aO M M.length)++ [(M.length:Int)])::bj A6 (M.length:Int) AR N cR AD N cD::Bx 100 4 A2 [.slice AZ (1+N+1) cZ,aiD (M.length:Int),.slice AR N cR,.slice AD N cD]::KK)),yI ((0:Int))] (by kernel_rfl) (by kernel_rfl) (ly (ly (ly (bV.2 ⟨Ye.b9 (fun v w w' h hb=>by obtain⟨A9,hv,hT⟩:=h;exact⟨A9,hv,hT.later hb⟩),(bV.2 ⟨Ye.b9 (fun v w w' h hb=>by obtain⟨AZ,cZ,hv,hT⟩:=h;exact⟨AZ,cZ,hv,hT.later hb⟩),(ly (bV.2 ⟨Ye.b9 (fun v w w' h hb=>by obtain⟨AZ,cZ,hv,hT⟩:=h;exact⟨AZ,cZ,hv,hT.later hb⟩),(bV.2 ⟨Ye.b9 (fun v w w' h hb=>by obtain⟨AZ,cZ,hT⟩:=h;exact⟨AZ,cZ,hT.later hb⟩),(ly (fun _ h=>by cases h))⟩)⟩))⟩)⟩)))) ?_ ?_
 ·refine⟨ba O,cP fun _ _ hb _ _ _=>aH ((aS.rd 1 O).below hb) O O O O inferInstance (aX O O),cP fun _ _ hb _ _ _=>gK ((aS.rd 1 O).below hb) O O O O O (aX O O),?_,?_,?_,?_,?_,ba O,ae⟩
  ·refine cP fun e1 w1 hb hp aL hq=>?_
   refine dJ (St.refl _) O O O ?_;intro A9 w9 ak;refine aa.n ?_;exact fF.dn O ak.below ⟨A9,O,(aS.later hb).call ak⟩
  ·refine iY fun e1 w1 hb hp aL hq=>?_
   obtain⟨A9,Y5,hT⟩:=(hp 3 _ _ (by kernel_rfl) rfl rfl (by kernel_rfl));refine eK 1 hT O (hT.bc 0 O) O (by exact Y5) O (by omega) (by omega) O ?_;intro AZ cZ wZ hZ;refine aa.n ?_;exact eA.dn O ⟨AZ,cZ,O,hZ.tail⟩
  ·intro e1 w1 cc dp bJ dz hp aL hq;show aa _ _ _ _ _ _ _;have hX:Rd w1 A6 3 (fun q=> [Value.int .i64 (M.length:Int),.slice AR N cR,.slice AD N cD].getD q undef):=by { have bJ:=mw bJ (b:=1) (by kernel_rfl);rcases(show cc=0∨cc=1 by omega)with h | h; { exact(aS.later (dz h)).rd 1 rfl }; { subst h;obtain⟨AZ,cZ,_,hT⟩:=hq 4 _ _ (by kernel_rfl) (by kernel_rfl) (by kernel_rfl) rfl rfl (by kernel_rfl);exact hT.rd 1 rfl } }
   refine aa.bq 2 hX O O O (aa.n (fh O (by exact O)))
  ·refine dP 1 fun e1 w1 hp aL hq=>?_
   have dH:=hp 4 _ _ (by kernel_rfl) O O (by kernel_rfl);obtain⟨AZ,cZ,Y6,hT⟩:=(hp 4 _ _ (by kernel_rfl) rfl rfl (by kernel_rfl));refine Vy (v0:= .slice AZ (1+N+1) cZ) (by exact inferInstance) (by exact inferInstance) O O (by exact Y6) O O O (aa.n ?_);exact fF.dn O (Below.refl _ _) ⟨AZ,cZ,O,hT⟩
  refine oQ 1 fun e1 w1 hp aL hq=>?_
  have dH:=hp 4 _ _ (by kernel_rfl) O O (by kernel_rfl);obtain⟨AY,cY,Y7,hT⟩:=(hp 6 _ _ (by kernel_rfl) rfl rfl (by kernel_rfl));refine bG 4 2 hT O O (by exact Y7) O O O O ?_;intro eu uz;refine aa.n ?_;exact eA.st O ⟨AY,cY,uz⟩
 intro u dB _ hu _ _;obtain⟨AZ,cZ,hT⟩:=hu 7 _ rfl (by kernel_rfl);refine xF O (kA O (hT.rd 2 O) O ?_);refine .inr ⟨Gj hM hg,AZ,cZ,AR,cR,AD,cD,cH,?_,ju,?_⟩
 ·rw [show N+2=1+N+1 by omega];rfl
 rw [show N+2=1+N+1 by omega,←qZ];exact hT.sub (((fJ _).cons _).cons _ |>.cons_cons _)
theorem eq_4{a b c d b' c' d':Value}(h1:b=b')(h2:c=c')(h3:d=d'):[a,b,c,d]=[a,b',c',d']:=by rw [h1,h2,h3]
set_option maxHeartbeats 1000000 in
theorem SG(n:Nat)(A D:aiC)(cA cD:Nat)(R:List Int)(rs:List aG)(B:aiB)(w:World)(hR:bS w A R.length R)(hB:br w D B.length rs B)(hP:fO n R B):
 aA prog 142 [.agg #[aiD n,.slice A R.length cA,.slice D B.length cD]] w (fun v w'=>∃A' c' rs',v= .tuple #[.slice A' (cap (au n R B)).length c',.bool (decide ((au n R B).length≤400))]∧rs'.length=(cap (au n R B)).length∧St w w' (aE 32 2 A' (cap (au n R B)).length c' rs' (cap (au n R B))++ [])):=by
 have hn:=hP.n1;have hle:=hP.len;have dL:=X0 (n:=n) (R:=R) (B:=B) (by omega);have Kj:=FU (l:=au n R B);obtain⟨N,hN⟩:∃N,R.length=N:=⟨_,rfl⟩;have mn:=fun(w:World) hR hB=>acP n A D cA cD R rs B w hR hB hP
 have hex:=fun(w:World) La hR hB Aa wm=>acQ w n A D cA cD R rs B N hN hR hB hP Aa La wm
 rw [hle]at hB mn;rw [hN]at hR hB mn;rw [hle,hN];refine bk func142 O ntmps142 O (sQ O) (aQ O (kK (St.refl w) O O ?_));intro A1 wB ao;have h1:Rd wB A1 3 (fun j=> [Value.int .i64 (n:Int),.slice A N cA,.slice D N cD].getD j undef):=ao.rd 0 O;have hR:=ao.eY hR;have hB:=ao.bF hB;have ao:=ao.none;refine ay O ?_;refine iU [5] [.ex (.agg #[aiD (n:Int),.slice A N cA,.slice D N cD]),.ex (.agg #[aiD (n:Int),.slice A N cA,.slice D N cD]),.pr (fun v w'=>∃A7 L,v= .slice A7 N N∧r5 N L (fun x=>dC n R B (x:Int))∧St wB w' [fQ 4 A7 N N L]),.pr (fun v w'=>∃A8,v= .slice A8 0 0∧St wB w' [ah 2 A8 0 0 []]),.pr (fun v w'=>∃A9,v= .slice A9 0 0∧St wB w' [bU 32 A9 0 0 []]),.pr (fun v w'=>∃A' c' rs',v= .slice A' (cap (au n R B)).length c'∧rs'.length=(cap (au n R B)).length∧St wB w' (aE 32 2 A' (cap (au n R B)).length c' rs' (cap (au n R B))++ [])),.pr (fun v w'=>∃A' c' rs',v= .slice A' (cap (au n R B)).length c'∧rs'.length=(cap (au n R B)).length∧St wB w' (aE 32 2 A' (cap (au n R B)).length c' rs' (cap (au n R B))++ []))] (by kernel_rfl) (by kernel_rfl) (ly (ly (bV.2 ⟨Ye.b9 (fun v w w' h hb=>by obtain⟨A7,L,hv,hL,hT⟩:=h;exact⟨A7,L,hv,hL,hT.later hb⟩),(bV.2 ⟨Ye.b9 (fun v w w' h hb=>by obtain⟨A8,hv,hT⟩:=h;exact⟨A8,hv,hT.later hb⟩),(bV.2 ⟨Ye.b9 (fun v w w' h hb=>by obtain⟨A9,hv,hT⟩:=h;exact⟨A9,hv,hT.later hb⟩),(bV.2 ⟨Ye.b9 (fun v w w' h hb=>by obtain⟨A',c',rs',hv,fI,hT⟩:=h;exact⟨A',c',rs',hv,fI,hT.later hb⟩),(bV.2 ⟨Ye.b9 (fun v w w' h hb=>by obtain⟨A',c',rs',hv,fI,hT⟩:=h;exact⟨A',c',rs',hv,fI,hT.later hb⟩),(fun _ h=>by cases h)⟩)⟩)⟩)⟩)⟩))) ?_ ?_
 ·refine⟨cP fun _ _ hb _ _ _=>aa.bq 2 (Rd.below h1 hb) O O O (aX O O),cP fun _ _ hb _ _ _=>aa.bq 2 (Rd.below h1 hb) O O O (aX O O),?_,?_,?_,?_,?_,ae⟩
  ·refine cP fun e1 w1 hb hp aL hq=>?_
   refine aa.call (mn _ (hR.later hb) (hB.later hb)) O O O ?_;rintro _ w9 ⟨A7,L,rfl,hL,ak⟩;refine aa.n ?_;exact fF.dn O ak.below ⟨A7,L,O,hL,by have:=((St.refl wB).later hb).call ak;rwa [fg]at this⟩
  ·refine cP fun e1 w1 hb hp aL hq=>?_
   refine jl (St.refl _) O ?_;intro A8 w9 ak;refine aa.n ?_;exact fF.dn O ak.below ⟨A8,O,by have:=((St.refl wB).later hb).call ak;rwa [fg]at this⟩
  ·refine cP fun e1 w1 hb hp aL hq=>?_
   refine jl (St.refl _) O ?_;intro A9 w9 ak;refine aa.n ?_;exact fF.dn O ak.below ⟨A9,O,by have:=((St.refl wB).later hb).call ak;rwa [fg]at this⟩
  ·refine iY fun e1 w1 hb hp aL hq=>?_
   obtain⟨A7,L,h7,hL,dF⟩:=(hp 2 _ _ (by kernel_rfl) rfl rfl (by kernel_rfl));obtain⟨A8,h8,ew⟩:=(hp 3 _ _ (by kernel_rfl) rfl rfl (by kernel_rfl));obtain⟨A9,h9,js⟩:=(hp 4 _ _ (by kernel_rfl) rfl rfl (by kernel_rfl));have Zx:=js.merge dF (fun k hk=>by obtain rfl:=eT.1 hk;rfl) (fun k hk=>by obtain rfl:=eT.1 hk;exact EK _) (fun k hk k' fM=>by obtain rfl:=eT.1 hk;obtain rfl:=eT.1 fM;exact(by decide:¬(32=4)));have DS:=ew.merge Zx (fun k hk=>by obtain rfl:=eT.1 hk;rfl) (fun k hk=>by rcases iW.1 hk with rfl | hk; { rfl }; { obtain rfl:=eT.1 hk;exact EK _ }) (fun k hk k' fM=>by obtain rfl:=eT.1 hk;rcases iW.1 fM with rfl | fM; { exact(by decide:¬(2=32)) }; { obtain rfl:=eT.1 fM;exact(by decide:¬(2=4)) });refine aa.call (hex wB L hR hB A7 hL n 0 [] A8 0 [fQ 4 A7 N N L] _ A9 0 [] [] (by omega) rfl (fun x hx=>by cases hx) (eT.2 rfl) rfl (aW _) DS) rfl (by exact eq_4 h7 h8 h9) rfl ?_;rintro _ w9 ⟨A',c',rs',rfl,fI,gV⟩;rw [List.nil_append,dL]at fI gV⊢;refine aa.n ?_;exact eA.dn O ⟨A',c',rs',O,fI,gV.sub ((fJ _).append (List.nil_sublist _))⟩
  refine dP 1 fun e1 w1 hp aL hq=>?_
  have dH:=hp 5 _ _ (by kernel_rfl) O O (by kernel_rfl);obtain⟨A',c',rs',gU,fI,hT⟩:=(hp 5 _ _ (by kernel_rfl) rfl rfl (by kernel_rfl));refine oO O (by exact gU) O (aa.n ?_);exact fF.dn O (Below.refl _ _) ⟨A',c',rs',O,fI,hT⟩
 intro u w2 _ hu _ _;obtain⟨A',c',rs',hv,fI,hT⟩:=hu 6 _ rfl (by kernel_rfl);refine E1 (F:=[(4,.slice A' (cap (au n R B)).length c')]) ⟨hv,ae⟩ ?_;refine iq O (aa.len O O (bh O ?_));refine afB O O ?_;refine⟨A',c',rs',?_,fI,(by rw [fg]at hT;exact ao.none.call hT)⟩;show Value.tuple #[_,Value.bool (decide _)]=_;rw [show decide ((((cap (au n R B)).length:Nat):Int)≤400)=decide ((au n R B).length≤400) from jo.2 (by omega)]
theorem af8(A:aiC)(n c:Nat)(rs:List aG)(M:aiB)(w:World)(hR:br w A n rs M)(hn:n≤9223372036854775807)(hM:bL M):
 aA prog 163 [.agg #[.slice A n c]] w (fun v w'=>
  (500<aD M M.length∧v= .tuple #[.agg #[aiD 0,.slice none 0 0,.slice none 0 0],aiD 3]∧St w w' [])∨
  (aD M M.length≤500∧∃AR c AD d rs,v= .tuple #[.agg #[aiD (M.length:Int),.slice AR (aD M M.length) c,.slice AD (aD M M.length) d],aiD 0]∧rs.length=aD M M.length∧St w w' (ah 2 AR (aD M M.length) c (aO M M.length)::(aE 32 2 AD (aD M M.length) d rs (bn M)++ [])))):=by
 refine bk func163 O ntmps163 O (tW O O) (aQ O (iI (St.refl w) O O ?_));intro A1 w1 ao;refine jC ao O ?_;intro A2 w2 ar;refine ad O (aa.bq 0 (ar.rd 1 O) O O O (aa.call (LF A n c rs M _ (ar.bF hR) hn) O O O ?_));rintro _ w3 ⟨rfl,ak⟩;have az:=ar.later ak.below
 first | refine eC rfl rfl ?_ | refine aa.not rfl rfl ?_
 refine ay O ?_;refine qM O (fun h=>h hM) ?_;refine av O (aa.bq 0 (az.rd 1 O) O O O (aa.call (SH A n c rs M _ (az.bF hR) hM) O O O ?_));rintro _ w4 ⟨AR,cR,AD,cD,cH,rfl,ju,qx⟩;have aJ:=(az.call qx).perm lh;refine jC aJ O ?_;intro A4 w5 aK;refine bG 3 0 aK O O O O O O O ?_;intro w6 aR;have aR:St w w6 (bj A4 (M.length:Int) AR (aD M M.length) cR AD (aD M M.length) cD::bj A2 0 none 0 0 none 0 0::Bx 24 1 A1 [.slice A n c]::(ah 2 AR (aD M M.length) cR (aO M M.length)::(aE 32 2 AD (aD M M.length) cD cH (bn M)++ []))):=aR;refine ad O (aH (aR.rd 0 O) O O O O inferInstance (aM (j:=1) (aR.rd 0 O) (by exact ax Value.pointer O) O O O O ?_));refine aa.len O O (ay O ?_);refine aB _ O (fun h1=>?_) (fun h1=>?_)
 ·refine av O (vS (by exact inferInstance) (by exact inferInstance) (by exact inferInstance) O (bG 3 1 aR O O O O O O O ?_));intro w7 aV;refine bh O (kA O (aV.rd 1 O) O ?_);exact .inl ⟨by omega,O,aV.none⟩
 refine av O (aa.bq 2 (aR.rd 0 O) O O O (bG 3 1 aR O O O O O O O ?_));intro w7 aV;refine bh O (kA O (aV.rd 1 O) O ?_);exact .inr ⟨by omega,AR,cR,AD,cD,cH,O,ju,aV.tail.tail.tail⟩
theorem YD{L:List Bool}{x:Nat}(h:x<L.length):gb L (x:Int)=L[x]:=by
 unfold gb;rw [ir,cJ,gf h,Option.getD_some]
theorem Oe:∀(L:List Bool) (x:Nat) (h:x<L.length),L[x]=false→(L.set x true).count false+1=L.count false
 | b::r,0,_,e=>by
  have e:b=false:=e;subst e;simp [List.set_cons_zero]
 | b::r,x+1,h,e=>by
  have h:x+1<r.length+1:=h;have ih:=Oe r x (by omega) e;simp only [List.set_cons_succ,lE];omega
theorem afZ(L:List Bool)(x:Nat)(h:x<L.length)(e:L[x]=true):L.set x true=L:=by
 apply ji (by simp);intro i h1 h2;rw [List.getElem_set]
 split
 ·rename_i h3;subst h3;exact e.symm
 rfl
set_option maxHeartbeats 1000000 in
theorem acY(n:Int)(A D:aiC)(cA N m cD:Nat)(Af:aiC)(nf cf:Nat)(rs:List aG)(fl:aiB)(w:World)(hF:br w Af nf rs fl)(hN:N≤500)(hr:∀l∈fl,l.length≤1000∧∀x∈l,0≤x∧x< (N:Int))(En:nf≤100000):
 aA prog 143 [.agg #[aiD n,.slice A N cA,.slice D m cD],.slice Af nf cf] w (fun v w'=>∃b:Bool,v= .bool b∧(b=true↔∀x:Int,0≤x→x< (N:Int)→∃l∈fl,x∈l)∧St w w' []):=by
 have gy:=hF.len;refine bk func143 O ntmps143 O (cK O) (aQ O (kK (St.refl w) O O ?_));intro A1 w1 ao;have h1:Rd w1 A1 3 (fun j=> [Value.int .i64 n,.slice A N cA,.slice D m cD].getD j undef):=ao.rd 0 O;refine ad O (aH h1 O O O O inferInstance (aM h1 O O O O O (aa.len O O (xL (v:=false) N ao O O (by omega) ?_))));intro A5 w2 ar;have ar:St w w2 [fQ 4 A5 N N (jh (l9 N) (fl.take 0).flatten),bj A1 n A N cA D m cD]:=ar;refine ay O ?_;refine Cd.loop (α:=Nat×Nat) (fun z=> [(1,.slice Af nf cf),(2,.pointer A1),(5,.slice A5 N N),(6,aiD (z.2:Int)),(7,aiD (z.1:Int))]) (fun z w'=>z.1≤nf∧z.2+ (jh (l9 N) (fl.take z.1).flatten).count false=N∧St w w' [fQ 4 A5 N N (jh (l9 N) (fl.take z.1).flatten),bj A1 n A N cA D m cD]) (fun z=>nf - z.1) (0,0) ⟨O,O,O,O,O,ae⟩ ⟨aW _,by simp [jh,l9],ar⟩ ?_;clear ar ao h1;rintro⟨i,k⟩ e w3 ⟨hi,hk,hS⟩;dsimp only at hi hk hS⊢;refine aQ O (aa.len O O (ay O ?_));refine aB _ O (fun h2=>?_) (fun h2=>?_)
 ·have zG:i<fl.length:=by omega
  have lp:gl fl (i:Int)∈fl:=by rw [db zG];exact dQ _
  have fu:=hr _ lp;have iD:=((hS.bF hF).at_ (i:=(i:Int)) (by omega) (by omega)).1;refine bP O ?_;refine Cd.loop (α:=Nat×Nat) (fun z=> [(1,.slice Af nf cf),(2,.pointer A1),(5,.slice A5 N N),(6,aiD (z.2:Int)),(7,aiD (i:Int)),(8,aiD (z.1:Int))]) (fun z w'=>z.1≤(rg rs (i:Int)).n∧z.2+ (jh (l9 N) ((fl.take i).flatten++ (gl fl (i:Int)).take z.1)).count false=N∧St w w' [fQ 4 A5 N N (jh (l9 N) ((fl.take i).flatten++ (gl fl (i:Int)).take z.1)),bj A1 n A N cA D m cD]) (fun z=> (rg rs (i:Int)).n - z.1) (0,k) ⟨O,O,O,O,O,O,ae⟩ ⟨aW _,by rw [List.take_zero,fg];exact hk,by rw [List.take_zero,fg];exact hS⟩ ?_;clear hS hk;rintro⟨j,k⟩ e w4 ⟨hj,hk,hS⟩;dsimp only at hj hk hS⊢;have hM:=hS.bF hF;have fZ:=hM.at_ (i:=(i:Int)) (by omega) (by omega);have tM:=Mg N ((fl.take i).flatten++ (gl fl (i:Int)).take j);refine aQ O (aw hM.top.2 O O O (by omega) (by omega) (bQ hM.top O (by omega) O O ?_));refine aa.len O O (ay O ?_);refine aB _ O (fun h3=>?_) (fun h3=>?_)
  ·have ln:j< (gl fl (i:Int)).length:=by omega
   have hx:=fu.2 _ (gi_in ln);obtain⟨x,zT⟩:∃x:Nat,gi (gl fl (i:Int)) (j:Int)=x:=⟨(gi (gl fl (i:Int)) (j:Int)).toNat,by omega⟩;have gH:jh (l9 N) ((fl.take i).flatten++ (gl fl (i:Int)).take (j+1))=(jh (l9 N) ((fl.take i).flatten++ (gl fl (i:Int)).take j)).set x true:=by
    rw [AG ln,←fR,TC,zT,ir]
   rw [zT]at hx;generalize jh (l9 N) ((fl.take i).flatten++ (gl fl (i:Int)).take j)=L at*;have hgx:=YD (L:=L) (x:=x) (by omega);have pP:=Oe L x (by omega);have EC:=afZ L x (by omega);rw [←hgx]at pP EC;refine av O (aw hM.top.2 O O O (by omega) (by omega) (bQ hM.top O (by omega) O O (ad O (aw fZ.2 O O O (by omega) (by omega) (aT fZ O (by omega) O O ?_)))));rw [zT];refine aw (hS.jy 0 O).2 O O O (by omega) (by omega) (qN (hS.jy 0 O) O (by omega) O O ?_);generalize hbb:gb L (x:Int)=bb at*;cases bb with
   | false => --dup 2
    have pP:=pP O
    first | refine eC rfl rfl ?_ | refine aa.not rfl rfl ?_
    refine ay O (Cd.gj O (av O (aw hM.top.2 O O O (by omega) (by omega) (bQ hM.top O (by omega) O O (ad O (aw fZ.2 O O O (by omega) (by omega) (aT fZ O (by omega) O O ?_)))))));rw [zT];refine aw (hS.jy 0 O).2 O O O (by omega) (by omega) (uc 0 hS O O O (by omega) ?_);intro w5 aK;rw [ir]at aK;refine ad O (aa.add O O O (by omega) (ad O (aa.add O O O (by omega) (aF O (tQ ?_)))));exact⟨(j+1,k+1),by show(rg rs (i:Int)).n - (j+1)< (rg rs (i:Int)).n - j;omega,⟨O,O,O,O,O,O,ae⟩,by show j+1≤_;omega,by show k+1+_=N;rw [gH];omega,by show St w w5 [fQ _ A5 N N (jh _ _),_];rw [gH];exact aK⟩
   | true=>
    have EC:=EC O
    first | refine eC rfl rfl ?_ | refine aa.not rfl rfl ?_
    refine ay O (Cd.eV O ?_);refine av O (aa.add O O O (by omega) (aF O (tQ ?_)));exact⟨(j+1,k),by show(rg rs (i:Int)).n - (j+1)< (rg rs (i:Int)).n - j;omega,⟨O,O,O,O,O,O,ae⟩,by show j+1≤_;omega,by show k+_=N;rw [gH,EC];exact hk,by show St w w4 [fQ _ A5 N N (jh _ _),_];rw [gH,EC];exact hS⟩
  ·have yg:jh (l9 N) ((fl.take i).flatten++ (gl fl (i:Int)).take j)=jh (l9 N) (fl.take (i+1)).flatten:=by
    rw [show(gl fl (i:Int)).take j=gl fl (i:Int) from lS (by omega),rY zG,List.flatten_append,←db zG];simp
   rw [yg]at hk hS;refine aY O (aZ (cL O (aa.add O O O (by omega) (aF O (tQ ?_)))));exact⟨(i+1,k),by show nf - (i+1)<nf - i;omega,⟨O,O,O,O,O,ae⟩,by show i+1≤nf;omega,hk,hS⟩
 ·have dq:i=fl.length:=by omega
  rw [dq,List.take_length]at hS hk;have KU:=Tn (m:=N) (F:=fl) (fun l hl=> (hr l hl).2);have h1:Rd w3 A1 3 (fun j=> [Value.int .i64 n,.slice A N cA,.slice D m cD].getD j undef):=hS.rd 1 O;refine aY O (aZ (cL O ?_));refine aH h1 O O O O inferInstance (aM h1 O O O O O ?_);refine aa.len O O (bh O ?_);refine cM O ?_;refine⟨_,O,?_,hS.none⟩;rw [←KU,←List.count_eq_zero,jT];omega
def oR(a b:List Int)(i:Nat):Nat:=((List.range i).filter fun k:Nat=>decide (gi a (k:Int)≠gi b (k:Int))).length
theorem XN(a b:List Int)(i:Nat):oR a b (i+1)=if gi a (i:Int)≠gi b (i:Int)then oR a b i+1 else oR a b i:=by
 unfold oR;rw [ng,nS,dm]
 by_cases c:gi a (i:Int)≠gi b (i:Int)
 ·rw [aj c];simp [c]
 rw [ag c];simp [c]
theorem XM(a b:List Int)(i:Nat):oR a b i≤i:=by
 refine kJ (oJ _ _) ?_;rw [pe];exact a8 _
theorem LG(A A2:aiC)(n c m c2:Nat)(a b:List Int)(w:World)(hA:bS w A n a)(hB:bS w A2 m b)(hm:m=n)(hn:n≤1000):
 aA prog 219 [.slice A n c,.slice A2 m c2] w (fun v w'=>v=aiD ((oR a b n:Nat):Int)∧St w w' []):=by
 have ha:=hA.1;have hb:=hB.1;refine bk func219 O ntmps219 O (cK O) (bK O ?_);refine Cd.loop (α:=Nat) (fun i=> [(0,.slice A n c),(1,.slice A2 m c2),(5,aiD ((oR a b i:Nat):Int)),(6,aiD (i:Int))]) (fun i w'=>i≤n∧St w w' []) (fun i=>n - i) 0 ⟨O,O,O,O,ae⟩ ⟨aW _,St.refl w⟩ ?_;rintro i e w2 ⟨hi,hS⟩;have zC:=XM a b i;have nA:=XN a b i;have DI:=hS.eY hA;have si:=hS.eY hB;refine aQ O (aa.len O O (ay O ?_));refine aB _ O (fun h2=>?_) (fun h2=>?_)
 ·refine bP O ?_;refine dI [xS (A) (n) (c),xI ((i:Int)),xP (aq (A) ((i:Int)).toNat),xI (gi (a) ((i:Int))),xS (A2) (m) (c2),xI ((i:Int)),xP (aq (A2) ((i:Int)).toNat),xI (gi (b) ((i:Int))),xB (decide (¬(gi (a) ((i:Int)))=(gi (b) ((i:Int)))))] (by kernel_rfl) (by kernel_rfl) O (eg O) ?_ ?_
  ·exact⟨Dr O,Dr O,fun _ _ hb _ _=>aw (DI.later hb).2 O O O (by omega) (by omega) (Az O),fun _ _ hb _ _=>aT (DI.later hb) O (by omega) O O (Az O),Dr O,Dr O,fun _ _ hb _ _=>aw (si.later hb).2 O O O (by omega) (by omega) (Az O),fun _ _ hb _ _=>aT (si.later hb) O (by omega) O O (Az O),Dr O,ae⟩
  intro u w3 gu _;have az:=hS.later gu;refine eo O ?_;refine aB _ O (fun h3=>?_) (fun h3=>?_)
  ·rw [aj h3]at nA;refine av O (aa.add O O O (by omega) (ad O (aa.add O O O (by omega) (aF O (tQ ?_)))));exact⟨i+1,by show n - (i+1)<n - i;omega,⟨O,O,ax (fun m:Nat=>Value.int .i64 (m:Int)) nA.symm,O,ae⟩,by omega,az⟩
  rw [ag h3]at nA;refine av O (aa.add O O O (by omega) (aF O (tQ ?_)));exact⟨i+1,by show n - (i+1)<n - i;omega,⟨O,O,ax (fun m:Nat=>Value.int .i64 (m:Int)) nA.symm,O,ae⟩,by omega,az⟩
 obtain rfl:i=n:=by omega
 refine aY O (aZ (gE O ?_));refine gP O ?_;exact⟨O,hS⟩
def qV(N:Nat):List aG→List (List aG)→List (aiB)→List Ck
 | o::os,r::rss,X::Xs=>aE 32 2 o.a N o.c r X++qV N os rss Xs
 | _,_,_=> []
theorem IW(N:Nat):∀ {os:List aG} {rss:List (List aG)} {Xs:List (aiB)} {i:Nat},i<os.length→rss.length=os.length→Xs.length=os.length→
 (qV N os rss Xs).Perm (aE 32 2 (os.getD i dE).a N (os.getD i dE).c (rss.getD i []) (Xs.getD i [])++qV N (os.eraseIdx i) (rss.eraseIdx i) (Xs.eraseIdx i))
 | o::os,r::rss,X::Xs,0,_,_,_=>List.Perm.refl _
 | o::os,r::rss,X::Xs,i+1,h,h1,h2=>by
  have ih:=IW N (os:=os) (rss:=rss) (Xs:=Xs) (i:=i) (by simpa using h) (by simpa using h1) (by simpa using h2);simp only [List.getD_cons_succ,List.eraseIdx_cons_succ,qV];refine(ih.append_left _).trans ?_;rw [←fR,←fR];exact lh.append_right _
 | [],_,_,_,h,_,_=>absurd h (jk _)
 | _::_,[],_,_,_,h,_=>by simp at h
 | _::_,_::_,[],_,_,_,h=>by simp at h
theorem I5{α:Type}(x:α):∀(l:List α) (i:Nat),(l.set i x).eraseIdx i=l.eraseIdx i
 | [],_=>rfl
 | _::_,0=>rfl
 | a::r,i+1=>by simp only [List.set_cons_succ,List.eraseIdx_cons_succ,I5 x r i]
theorem XB(N:Nat){os:List aG}{rss:List (List aG)}{Xs:List (aiB)}{i:Nat}(r:List aG)(X:aiB)(h:i<os.length)(h1:rss.length=os.length)(h2:Xs.length=os.length):(aE 32 2 (os.getD i dE).a N (os.getD i dE).c r X++qV N (os.eraseIdx i) (rss.eraseIdx i) (Xs.eraseIdx i)).Perm (qV N os (rss.set i r) (Xs.set i X)):=by
 have h9:=(IW N (os:=os) (rss:=rss.set i r) (Xs:=Xs.set i X) (i:=i) h (by rw [iw];exact h1) (by rw [iw];exact h2)).symm;rw [I5,I5]at h9;have e1:(rss.set i r).getD i []=r:=by rw [cJ,List.getElem?_set_self (by omega)];rfl
 have e2:(Xs.set i X).getD i []=X:=by rw [cJ,List.getElem?_set_self (by omega)];rfl
 rwa [e1,e2]at h9
theorem Oi(N:Nat):∀ {os:List aG} {rss:List (List aG)} {Xs:List (aiB)} (o:aG) (r:List aG) (X:aiB),rss.length=os.length→Xs.length=os.length→qV N (os++ [o]) (rss++ [r]) (Xs++ [X])=qV N os rss Xs++aE 32 2 o.a N o.c r X
 | [],[],[],o,r,X,_,_=>by simp [qV]
 | a::os,b::rss,c::Xs,o,r,X,h,h'=>by
  simp only [List.cons_append,qV,Oi N (os:=os) (rss:=rss) (Xs:=Xs) o r X (by simpa using h) (by simpa using h'),fR]
 | [],_::_,_,_,_,_,h,_=>by simp at h
 | [],[],_::_,_,_,_,_,h=>by simp at h
 | _::_,[],_,_,_,_,h,_=>by simp at h
 | _::_,_::_,[],_,_,_,_,h=>by simp at h
open Classical in
noncomputable def tV(n:Nat)(fl:aiB)(i a m:Nat):List Int:=((List.range m).filter fun b=>decide (jz n fl i a b∧b≠a)).map fun b:Nat=> (b:Int)
theorem Th(n:Nat)(fl:aiB)(i a:Nat):tV n fl i a fl.length=rE n fl i a:=rfl
theorem ad6{n:Nat}{fl:aiB}{i a m:Nat}(h:jz n fl i a m∧m≠a):tV n fl i a (m+1)=tV n fl i a m++ [(m:Int)]:=by
 unfold tV;rw [ng,nS,iQ];rw [s8 (by simpa using h)];rfl
theorem Tj{n:Nat}{fl:aiB}{i a m:Nat}(h:¬(jz n fl i a m∧m≠a)):tV n fl i a (m+1)=tV n fl i a m:=by
 unfold tV;rw [ng,nS,iQ];rw [pG (by simpa using h)];simp
theorem Ti(n:Nat)(fl:aiB)(i a m:Nat):(tV n fl i a m).length≤m:=by
 unfold tV;rw [fN];refine kJ (oJ _ _) ?_;rw [pe];exact a8 _
theorem XO{n:Nat}{fl:aiB}(rv:fl.Nodup)(hl:∀x∈fl,x.length=n){a b i:Nat}(ha:a<fl.length)(hb:b<fl.length)(hi:i<n):(oR (gl fl (a:Int)) (gl fl (b:Int)) n=1∧gi (gl fl (a:Int)) (i:Int)≠gi (gl fl (b:Int)) (i:Int))↔(jz n fl i a b∧b≠a):=by
 unfold oR;constructor
 ·rintro⟨h1,h2⟩;refine⟨⟨ha,hb,fun k hk bt=>?_⟩,fun e=>h2 (by rw [e])⟩;obtain⟨y,hy⟩:=List.length_eq_one_iff.1 h1;have hm:∀q,q<n→gi (gl fl (a:Int)) (q:Int)≠gi (gl fl (b:Int)) (q:Int)→q=y:=fun q hq hd=>by
   have:q∈(List.range n).filter fun k:Nat=>decide (gi (gl fl (a:Int)) (k:Int)≠gi (gl fl (b:Int)) (k:Int)):=fA.2 ⟨gg.2 hq,dX hd⟩
   rw [hy]at this;exact eT.1 this
  refine nL fun hd=>bt ?_
  rw [hm k hk hd,hm i hi h2]
 rintro⟨h,bt⟩;have hd:gi (gl fl (a:Int)) (i:Int)≠gi (gl fl (b:Int)) (i:Int):=fun e=>bt (Jd rv hl hb ha fun k hk=>by
  by_cases ek:k=i
  ·subst ek;exact e.symm
  exact(h.2.2 k hk ek).symm)
 refine⟨?_,hd⟩;have:(List.range n).filter (fun k:Nat=>decide (gi (gl fl (a:Int)) (k:Int)≠gi (gl fl (b:Int)) (k:Int)))=[i]:=by
  refine List.Perm.eq_singleton ?_;refine(s9 (List.nodup_range.filter _) (by simp)).2 fun q=>?_
  rw [fA,gg,jT,eT];constructor
  ·rintro⟨hq,K4⟩;exact nL fun e=>K4 (h.2.2 q hq e)
  rintro rfl;exact⟨hi,hd⟩
 rw [this];rfl
noncomputable def rG(n:Nat)(fl:aiB)(a b k i a':Nat):List Int:=if a'<a then tV n fl i a' fl.length else if a'=a then(if i<k then tV n fl i a (b+1)else tV n fl i a b)else []
noncomputable def rH(n:Nat)(fl:aiB)(a b k i:Nat):aiB:=(List.range fl.length).map (rG n fl a b k i)
noncomputable def jw(n:Nat)(fl:aiB)(a b k:Nat):List (aiB):=(List.range n).map (rH n fl a b k)
section
variable {n:Nat} {fl:aiB} {a b k i:Nat}
theorem xh:(rH n fl a b k i).length=fl.length:=by simp [rH]
theorem Ah:(jw n fl a b k).length=n:=by simp [jw]
theorem L9(h:i<n):(jw n fl a b k).getD i []=rH n fl a b k i:=by
 rw [cJ,gf (by rw [Ah];exact h),Option.getD_some];simp [jw]
theorem Ma{a':Nat}(h:a'<fl.length):gl (rH n fl a b k i) (a':Int)=rG n fl a b k i a':=by
 rw [db (by rw [xh];exact h)];simp [rH]
theorem HC{a2 b2 k2:Nat}(h:∀i a',i<n→a'<fl.length→rG n fl a b k i a'=rG n fl a2 b2 k2 i a'):jw n fl a b k=jw n fl a2 b2 k2:=
 mJ fun i hi=>mJ fun a' ha=>h i a' (gg.1 hi) (gg.1 ha)
theorem aeh:jw n fl 0 0 0=List.replicate n (List.replicate fl.length []):=by
 refine List.eq_replicate_iff.2 ⟨Ah,fun y hy=>?_⟩;obtain⟨i,_,rfl⟩:=dh.1 hy;refine List.eq_replicate_iff.2 ⟨xh,fun z hz=>?_⟩;obtain⟨a',_,rfl⟩:=dh.1 hz;unfold rG;rw [ag (jk _)]
 split
 ·rw [ag (jk _)];rfl
 rfl
theorem aef:jw n fl (a+1) 0 0=jw n fl a fl.length 0:=HC fun i a' _ ha=>by
 unfold rG
 by_cases c:a'<a
 ·rw [aj (by omega),aj c]
 rw [ag c]
 by_cases c2:a'=a
 ·subst c2;rw [aj (by omega),aj rfl,ag (jk _)]
 rw [ag (by omega),ag c2]
 split
 ·rw [ag (jk _)];rfl
 rfl
theorem aec:jw n fl a (b+1) 0=jw n fl a b n:=HC fun i a' hi ha=>by
 unfold rG;rw [ag (jk i),aj hi]
theorem aed(h:∀i,i<n→¬(jz n fl i a b∧b≠a)):jw n fl a (b+1) 0=jw n fl a b 0:=HC fun i a' hi ha=>by
 unfold rG;rw [ag (jk i),Tj (h i hi),ag (jk i)]
theorem aeg(h:¬(jz n fl k a b∧b≠a)):jw n fl a b (k+1)=jw n fl a b k:=HC fun i a' hi ha=>by
 unfold rG
 by_cases c:a'<a
 ·rw [aj c,aj c]
 rw [ag c,ag c]
 by_cases c2:a'=a
 ·rw [aj c2,aj c2]
  by_cases c3:i=k
  ·subst c3;rw [aj (by omega),ag (by omega),Tj h]
  by_cases c4:i<k
  ·rw [aj (by omega),aj c4]
  rw [ag (by omega),ag c4]
 rw [ag c2,ag c2]
theorem aee(hk:k<n)(ha:a<fl.length)(h:jz n fl k a b∧b≠a):(jw n fl a b k).set k ((rH n fl a b k k).set a (gl (rH n fl a b k k) (a:Int)++ [(b:Int)]))=jw n fl a b (k+1):=by
 apply ji (by rw [iw,Ah,Ah]);intro i h1 h2;rw [Ah]at h2;rw [List.getElem_set];have e2:∀k' (hx:i< (jw n fl a b k').length),(jw n fl a b k')[i]=rH n fl a b k' i:=fun k' hx=>by simp [jw]
 rw [e2 (k+1) (by rw [Ah];exact h2),e2 k (by rw [Ah];exact h2)]
 by_cases c:k=i
 ·subst c;rw [aj rfl];apply ji (by rw [iw,xh,xh]);intro a' h3 h4;rw [xh]at h4;have e3:∀k' (hx:a'< (rH n fl a b k' k).length),(rH n fl a b k' k)[a']=rG n fl a b k' k a':=fun k' hx=>by simp [rH]
  rw [List.getElem_set,e3 (k+1) (by rw [xh];exact h4),e3 k (by rw [xh];exact h4),Ma ha];unfold rG
  by_cases c2:a=a'
  ·subst c2;rw [aj rfl,ag (Nat.lt_irrefl _),aj rfl,ag (Nat.lt_irrefl _),ag (Nat.lt_irrefl _),aj rfl,aj (Nat.lt_succ_self _),ad6 h]
  rw [ag c2]
  by_cases c3:a'<a
  ·rw [aj c3,aj c3]
  rw [ag c3,ag c3,ag (fun e=>c2 e.symm),ag (fun e=>c2 e.symm)]
 rw [ag c];refine mJ fun a' Qr=>?_
 unfold rG
 by_cases c3:a'<a
 ·rw [aj c3,aj c3]
 rw [ag c3,ag c3]
 by_cases c2:a'=a
 ·rw [aj c2,aj c2]
  by_cases c4:i<k
  ·rw [aj c4,aj (by omega)]
  rw [ag c4,ag (by omega)]
 rw [ag c2,ag c2]
end
theorem aeA{α:Type}(m o:α)(X R:List α):(m::o::(X++ [])++R).Perm (o::((X++ (m::R))++ [])):=by
 classical
 refine lR.2 fun z=>?_
 simp only [nP,lE,nQ,List.cons_append];omega
structure ni(w w':World)(N n:Nat)(A3:aiC)(c3:Nat)(os:List aG)(rss:List (List aG))(Xs:List (aiB)):Prop where
 ol:os.length=n
 rl:rss.length=n
 xl:Xs.length=n
 on:∀i,i<n→(os.getD i dE).n=N
 rn:∀i,i<n→(rss.getD i []).length=N
 xn:∀i,i<n→(Xs.getD i []).length=N
 st:St w w' (bU 22 A3 n c3 os::(qV N os rss Xs++ []))
theorem ni.later{w w' lO:World}{N n:Nat}{A3:aiC}{c3:Nat}{os:List aG}{rss:List (List aG)}{Xs:List (aiB)}(h:ni w w' N n A3 c3 os rss Xs)(hb:Below w'.heap.size w' lO):ni w lO N n A3 c3 os rss Xs:=⟨h.ol,h.rl,h.xl,h.on,h.rn,h.xn,h.st.later hb⟩
theorem ni.rows{w w':World}{N n:Nat}{A3:aiC}{c3:Nat}{os:List aG}{rss:List (List aG)}{Xs:List (aiB)}(h:ni w w' N n A3 c3 os rss Xs){k:Nat}(hk:k<n):
 St w w' (bU 22 A3 n c3 os::(aE 32 2 (os.getD k dE).a N (os.getD k dE).c (rss.getD k []) (Xs.getD k [])++qV N (os.eraseIdx k) (rss.eraseIdx k) (Xs.eraseIdx k))):=by
 have h9:=h.st;rw [fg]at h9;have h1:=h.ol;have h2:=h.rl;have h3:=h.xl;exact h9.perm ((IW N (by omega) (by omega) (by omega)).cons _)
theorem ni.aE{w w':World}{N n:Nat}{A3:aiC}{c3:Nat}{os:List aG}{rss:List (List aG)}{Xs:List (aiB)}(h:ni w w' N n A3 c3 os rss Xs){k:Nat}(hk:k<n):br w' (os.getD k dE).a N (rss.getD k []) (Xs.getD k []):=((h.rows hk).sub ((rX _ _).cons _)).rN (h.xn k hk)
theorem getD_set_ne{α:Type}{l:List α}{i j:Nat}{x d:α}(h:i≠j):(l.set i x).getD j d=l.getD j d:=by
 rw [cJ,cJ,List.getElem?_set_ne h]
theorem Pl{α:Type}{l:List α}{i:Nat}{x d:α}(h:i<l.length):(l.set i x).getD i d=x:=by
 rw [cJ,List.getElem?_set_self h];rfl
theorem ni.put{w w':World}{N n:Nat}{A3:aiC}{c3:Nat}{os:List aG}{rss:List (List aG)}{Xs:List (aiB)}{w0 w1:World}(h:ni w0 w1 N n A3 c3 os rss Xs){k:Nat}(hk:k<n){r:List aG}{X:aiB}(hr:r.length=N)(hX:X.length=N)(hS:St w w' (bU 22 A3 n c3 os::(Vc.aE 32 2 (os.getD k dE).a N (os.getD k dE).c r X++qV N (os.eraseIdx k) (rss.eraseIdx k) (Xs.eraseIdx k)))):ni w w' N n A3 c3 os (rss.set k r) (Xs.set k X):=by
 have h1:=h.ol;have h2:=h.rl;have h3:=h.xl;refine⟨h1,by rw [iw];exact h2,by rw [iw];exact h3,h.on,fun i hi=>?_,fun i hi=>?_,?_⟩
 ·by_cases e:k=i
  ·subst e;rw [Pl (by omega)];exact hr
  rw [getD_set_ne e];exact h.rn i hi
 ·by_cases e:k=i
  ·subst e;rw [Pl (by omega)];exact hX
  rw [getD_set_ne e];exact h.xn i hi
 rw [fg];exact hS.perm ((XB N r X (by omega) (by omega) (by omega)).cons _)
set_option maxHeartbeats 4000000 in
theorem acU(A:aiC)(N c:Nat)(rs:List aG)(fl:aiB)(n:Nat)(w:World)(hM:br w A N rs fl)(JU:0<N)(hN:N≤400)(hn:n≤5)(hl:∀x∈fl,x.length=n)(rv:fl.Nodup):
 aA prog 203 [.slice A N c] w (fun v w'=>∃A3 c3 os rss,v= .slice A3 n c3∧ni w w' N n A3 c3 os rss (jw n fl N 0 0)):=by
 have gy:=hM.len;have vr:∀f:Nat,f<N→gl fl (f:Int)∈fl:=fun f hf=>by rw [db (by omega)];exact dQ _
 have cj:∀f:Nat,f<N→(rg rs (f:Int)).n=n:=fun f hf=>by
  have:=(hM.at_ (i:=(f:Int)) (by omega) (by omega)).1;rw [←this];exact hl _ (vr f hf)
 have Rx:=fun a b i (ha:a<N) (hb:b<N) (hi:i<n)=>XO (n:=n) (a:=a) (b:=b) (i:=i) rv hl (by omega) (by omega) hi
 have hz:=aeh (n:=n) (fl:=fl);have RV:=fun a=>aef (n:=n) (fl:=fl) (a:=a)
 rw [gy]at hz;simp only [gy]at RV;have jK:∀a b k i,(rH n fl a b k i).length=N:=fun a b k i=>by rw [xh,gy]
 refine bk func203 O ntmps203 O (cK O) (aQ O (jl (St.refl w) O ?_));intro A3 w1 ao;have GF:ni w w1 N 0 A3 0 [] [] (List.replicate 0 (List.replicate N [])):=⟨O,O,O,fun i h=>absurd h (jk _),fun i h=>absurd h (jk _),fun i h=>absurd h (jk _),ao⟩;clear ao;refine ay O ?_;refine Cd.loop (α:=Nat×(aiC×Nat)×List aG×List (List aG)) (fun z=> [(0,.slice A N c),(3,.slice z.2.1.1 z.1 z.2.1.2),(4,aiD (z.1:Int))]) (fun z w'=>z.1≤n∧ni w w' N z.1 z.2.1.1 z.2.1.2 z.2.2.1 z.2.2.2 (List.replicate z.1 (List.replicate N []))) (fun z=>n - z.1) (0,(A3,0),[],[]) ⟨O,O,O,ae⟩ ⟨aW _,GF⟩ ?_;clear GF;rintro⟨i,⟨A3,c3⟩,os,rss⟩ e w2 ⟨hi,hS⟩;dsimp only at hi hS⊢;have DS:=hS.st.bF hM;have qw:=cj 0 JU;refine aQ O (aa.len O O (ad O ?_));refine bY 12 O (fun _=>?_) (fun h=>absurd (by omega) h);refine aa.g O O O (ad O (aa.g O O O (ad O (aa.g O O O ?_))));refine aw (i:=0) DS.top.2 O O O (by omega) (by omega) (aa.g O O O ?_);refine bQ (i:=0) DS.top O (by show 0<N;omega) O O ?_;refine aa.g O O O (aa.len O O (aa.g O O O (ay O ?_)));have e0:(rg rs 0).n=n:=qw;rw [e0];refine aB _ O (fun h2=>?_) (fun h2=>?_)
 ·have dq:i<n:=by omega
  refine av O (aa.len O O ?_);refine FB N hS.st O O (by omega) ?_;intro lg w3 az;have az:=EU (t:=2) N az;have az:=az.perm (aeA _ _ _ _);refine nj az O O O ?_;intro A26 w4 aJ;refine oM 1 aJ O (aJ.il 0 O) O O O (by omega) (by omega) O ?_;intro AZ cZ w5 aK;have aK:=aK.tail;have h1:=hS.ol;have Py:=hS.rl;have h3:=hS.xl;have pP:=Oi N (os:=os) (rss:=rss) (Xs:=List.replicate i (List.replicate N [])) ⟨lg,N,N⟩ (List.replicate N dE) (List.replicate N []) (by omega) (by simp;omega);refine ad O (aa.add O O O (by omega) (aF O (tQ ?_)));refine⟨(i+1,(AZ,cZ),os++ [⟨lg,N,N⟩],rss++ [List.replicate N dE]),by show n - (i+1)<n - i;omega,⟨O,O,O,ae⟩,by show i+1≤n;omega,?_⟩;have nz:∀ {α:Type} {l:List α} {x d:α} {j:Nat},l.length=i→j<i+1→(l++ [x]).getD j d=if j<i then l.getD j d else x:=fun {α l x d j} hl hj=>by
   rw [cJ]
   by_cases c:j<i
   ·rw [aj c,lQ (by omega),cJ]
   obtain rfl:j=l.length:=by omega
   rw [ag c];simp
  refine⟨by simp [h1],by simp [Py],by simp,fun j hj=>?_,fun j hj=>?_,fun j hj=>?_,?_⟩
  ·rw [nz h1 hj]
   split
   ·exact hS.on j (by assumption)
   rfl
  ·rw [nz Py hj]
   split
   ·exact hS.rn j (by assumption)
   simp
  ·rw [cJ,List.getElem?_replicate,aj hj];simp
  rw [List.replicate_succ',pP];exact aK
 obtain rfl:i=n:=by omega
 rw [←hz]at hS;refine aY O (aZ (nN O ?_));refine Cd.loop (α:=Nat×List (List aG)) (fun z=> [(0,.slice A N c),(3,.slice A3 i c3),(5,aiD (z.1:Int))]) (fun z w'=>z.1≤N∧ni w w' N i A3 c3 os z.2 (jw i fl z.1 0 0)) (fun z=>N - z.1) (0,rss) ⟨O,O,O,ae⟩ ⟨aW _,hS⟩ ?_;clear hS DS;rintro⟨a,rss⟩ e w3 ⟨ha,hS⟩;dsimp only at ha hS⊢;refine aQ O (aa.len O O (ay O ?_));refine aB _ O (fun h3=>?_) (fun h3=>?_)
 ·have sw:a<N:=by omega
  refine bP O ?_;refine Cd.loop (α:=Nat×List (List aG)) (fun z=> [(0,.slice A N c),(3,.slice A3 i c3),(5,aiD (a:Int)),(6,aiD (z.1:Int))]) (fun z w'=>z.1≤N∧ni w w' N i A3 c3 os z.2 (jw i fl a z.1 0)) (fun z=>N - z.1) (0,rss) ⟨O,O,O,O,ae⟩ ⟨aW _,hS⟩ ?_;clear hS;rintro⟨b,rss⟩ e w4 ⟨hb,hS⟩;dsimp only at hb hS⊢;refine aQ O (aa.len O O (ay O ?_));refine aB _ O (fun h4=>?_) (fun h4=>?_)
  ·have wD:b<N:=by omega
   have wo:=hS.st.bF hM;have mQ:=wo.at_ (i:=(a:Int)) (by omega) (by omega);have l6:=wo.at_ (i:=(b:Int)) (by omega) (by omega);have zM:=cj a sw;have KQ:=cj b wD;refine bP O ?_;refine dI [xS (A) (N) (c),xI ((a:Int)),xP (aq (A) ((a:Int)).toNat),xS ((rg (rs) ((a:Int))).a) ((rg (rs) ((a:Int))).n) ((rg (rs) ((a:Int))).c),xS (A) (N) (c),xI ((b:Int)),xP (aq (A) ((b:Int)).toNat),xS ((rg (rs) ((b:Int))).a) ((rg (rs) ((b:Int))).n) ((rg (rs) ((b:Int))).c),xI ((oR (gl fl (a:Int)) (gl fl (b:Int)) (rg rs (a:Int)).n:Nat):Int),xB (decide (¬((oR (gl fl (a:Int)) (gl fl (b:Int)) (rg rs (a:Int)).n:Nat):Int)=((1:Int))))] (by kernel_rfl) (by kernel_rfl) O (eg O) ?_ ?_
   ·refine⟨Dr O,Dr O,fun _ _ hb _ _=>aw (wo.top.later hb).2 O O O (by omega) (by omega) (Az O),fun _ _ hb _ _=>bQ (wo.top.later hb) O (by omega) O O (Az O),Dr O,Dr O,fun _ _ hb _ _=>aw (wo.top.later hb).2 O O O (by omega) (by omega) (Az O),fun _ _ hb _ _=>bQ (wo.top.later hb) O (by omega) O O (Az O),?_,Dr O,ae⟩;intro e1 w1 hb hp aL;refine aa.call (LG (rg rs (a:Int)).a (rg rs (b:Int)).a (rg rs (a:Int)).n (rg rs (a:Int)).c (rg rs (b:Int)).n (rg rs (b:Int)).c (gl fl (a:Int)) (gl fl (b:Int)) _ (mQ.later hb) (l6.later hb) (by omega) (by omega)) O O O ?_;rintro _ w9 ⟨rfl,kH⟩;refine aa.n ?_;exact gD.dn kH.below O
   intro u w5 lI _;have aK:=hS.later lI;refine eo O ?_;refine aB _ O (fun h5=>?_) (fun h5=>?_)
   ·have jZ:=aed (n:=i) (fl:=fl) (a:=a) (b:=b) fun q hq h=>h5 (by
     have:=((Rx a b q sw wD hq).2 h).1;rw [zM,this];rfl)
    refine av O (aa.add O O O (by omega) (aF O (tQ ?_)));exact⟨(b+1,rss),by show N - (b+1)<N - b;omega,⟨O,O,O,O,ae⟩,by show b+1≤N;omega,by show ni w w5 N i A3 c3 os rss (jw i fl a (b+1) 0);rw [jZ];exact aK⟩
   have h5:oR (gl fl (a:Int)) (gl fl (b:Int)) i=1:=by rw [zM]at h5;omega
   clear hS wo mQ l6;refine bP O ?_;refine Cd.loop (α:=Nat×List (List aG)) (fun z=> [(0,.slice A N c),(3,.slice A3 i c3),(5,aiD (a:Int)),(6,aiD (b:Int)),(7,aiD (z.1:Int))]) (fun z w'=>z.1≤i∧ni w w' N i A3 c3 os z.2 (jw i fl a b z.1)) (fun z=>i - z.1) (0,rss) ⟨O,O,O,O,O,ae⟩ ⟨aW _,aK⟩ ?_;clear aK;rintro⟨k,rss⟩ e w6 ⟨hk,hS⟩;dsimp only at hk hS⊢;have ny:=hS.st.bF hM;have mQ:=ny.at_ (i:=(a:Int)) (by omega) (by omega);have l6:=ny.at_ (i:=(b:Int)) (by omega) (by omega);have KI:=mQ.1;have Cj:=l6.1;refine aQ O (aw ny.top.2 O O O (by omega) (by omega) (bQ ny.top O (by omega) O O ?_));refine aa.len O O (ay O ?_);refine aB _ O (fun h6=>?_) (fun h6=>?_)
   ·have dU:k<i:=by omega
    have Ee:=Rx a b k sw wD dU;refine bP O ?_;refine dI [xS (A) (N) (c),xI ((a:Int)),xP (aq (A) ((a:Int)).toNat),xS ((rg (rs) ((a:Int))).a) ((rg (rs) ((a:Int))).n) ((rg (rs) ((a:Int))).c),xI ((k:Int)),xP (aq ((rg (rs) ((a:Int))).a) ((k:Int)).toNat),xI (gi (gl fl (a:Int)) ((k:Int))),xS (A) (N) (c),xI ((b:Int)),xP (aq (A) ((b:Int)).toNat),xS ((rg (rs) ((b:Int))).a) ((rg (rs) ((b:Int))).n) ((rg (rs) ((b:Int))).c),xI ((k:Int)),xP (aq ((rg (rs) ((b:Int))).a) ((k:Int)).toNat),xI (gi (gl fl (b:Int)) ((k:Int))),xB (decide (¬(gi (gl fl (a:Int)) ((k:Int)))=(gi (gl fl (b:Int)) ((k:Int)))))] (by kernel_rfl) (by kernel_rfl) O (eg O) ?_ ?_
    ·exact⟨Dr O,Dr O,fun _ _ hb _ _=>aw (ny.top.later hb).2 O O O (by omega) (by omega) (Az O),fun _ _ hb _ _=>bQ (ny.top.later hb) O (by omega) O O (Az O),Dr O,fun _ _ hb _ _=>aw (mQ.later hb).2 O O O (by omega) (by omega) (Az O),fun _ _ hb _ _=>aT (mQ.later hb) O (by omega) O O (Az O),Dr O,Dr O,fun _ _ hb _ _=>aw (ny.top.later hb).2 O O O (by omega) (by omega) (Az O),fun _ _ hb _ _=>bQ (ny.top.later hb) O (by omega) O O (Az O),Dr O,fun _ _ hb _ _=>aw (l6.later hb).2 O O O (by omega) (by omega) (Az O),fun _ _ hb _ _=>aT (l6.later hb) O (by omega) O O (Az O),Dr O,ae⟩
    intro u w7 wC _;have aV:=hS.later wC;clear hS ny mQ l6;refine eo O ?_;refine aB _ O (fun h7=>?_) (fun h7=>?_)
    ·have kb:=Ee.1 ⟨h5,h7⟩;have qv:=aee (n:=i) (fl:=fl) (b:=b) dU (by omega:a<fl.length) kb;have Cq:=aV.rows dU;have hX:=L9 (n:=i) (fl:=fl) (a:=a) (b:=b) (k:=k) dU;have py:=aV.aE dU;have KV:=aV.on k dU;have iD:=aV.rn k dU;rw [hX]at Cq py;have RW:=py.at_ (i:=(a:Int)) (by omega) (by omega);have hbound:(rg (rss.getD k []) (a:Int)).n≤500:=by
      rw [←RW.1,Ma (by omega)];unfold rG;rw [ag (Nat.lt_irrefl _),aj rfl,ag (Nat.lt_irrefl _)];have:=Ti i fl k a b;omega
     obtain⟨oa,oc,ho⟩:∃oa oc,os.getD k dE=⟨oa,N,oc⟩:=⟨(os.getD k dE).a,(os.getD k dE).c,by rw [←KV]⟩;have Ha:(os.getD k dE).v= .slice oa N oc:=by rw [ho];rfl
     rw [ho]at Cq py;obtain⟨rk,jL⟩:∃rk,rss.getD k []=rk:=⟨_,rfl⟩;obtain⟨Xk,J7⟩:∃Xk,rH i fl a b k k=Xk:=⟨_,rfl⟩;have Qq:Xk.length=N:=by rw [←J7];exact jK ..
     rw [jL,J7]at Cq py RW;rw [jL]at iD hbound;rw [J7]at qv;obtain⟨KS,PZ⟩:∃KS,qV N (os.eraseIdx k) (rss.eraseIdx k) ((jw i fl a b k).eraseIdx k)=KS:=⟨_,rfl⟩;rw [PZ]at Cq;have hO:jD w7 A3 i os:=Cq.il 0 O;have sD:∀A9:aiC,(ah 2 A9 1 1 [(b:Int)]::bU 22 A3 i c3 os::(aE 32 2 oa N oc rk Xk++KS))[2+1+a]?=some (ah 2 (rg rk (a:Int)).a (rg rk (a:Int)).n (rg rk (a:Int)).c (gl Xk (a:Int))):=fun A9=>CF (t1:=32) (t2:=2) (A:=oa) (n:=N) (c:=oc) (rs:=rk) (xss:=Xk) (pre:=[ah 2 A9 1 1 [(b:Int)],bU 22 A3 i c3 os]) (ks:=KS) (i:=a) (by omega) (by omega)
     have nz:=fun(A9:aiC) (s:aG) (xs:List Int)=>LZ (t1:=32) (t2:=2) (A:=oa) (n:=N) (c:=oc) (rs:=rk) (xss:=Xk) (ks:=KS) (pre:=[ah 2 A9 1 1 [(b:Int)],bU 22 A3 i c3 os]) (i:=a) s xs (by omega) (by omega)
     refine iU [14,16] [yS (A3) (i) (c3),yI ((k:Int)),yP (aq A3 ((k:Int)).toNat),yS (oa) (N) (oc),yI ((a:Int)),yS (A3) (i) (c3),yI ((k:Int)),yP (aq A3 ((k:Int)).toNat),yS (oa) (N) (oc),yI ((a:Int)),yP (aq (oa) ((a:Int)).toNat),yS ((rg (rk) ((a:Int))).a) ((rg (rk) ((a:Int))).n) ((rg (rk) ((a:Int))).c),yI ((b:Int)),.pr (fun v w'=>∃A9,v= .slice A9 1 1∧St w w' (ah 2 A9 1 1 [(b:Int)]::bU 22 A3 i c3 os::(aE 32 2 oa N oc rk Xk++KS))),.pr (fun v w'=>∃AZ cZ,v= .slice AZ ((rg rk (a:Int)).n+1) cZ∧St w w' (bU 22 A3 i c3 os::(bU 32 oa N oc rk::(cS 2 (rk.set a ⟨AZ,(rg rk (a:Int)).n+1,cZ⟩) (Xk.set a (gl Xk (a:Int)++ [(b:Int)]))++KS)))),yP (aq oa ((a:Int)).toNat),.pr (fun _ w'=>∃AZ cZ,St w w' (bU 22 A3 i c3 os::(aE 32 2 oa N oc (rk.set a ⟨AZ,(rg rk (a:Int)).n+1,cZ⟩) (Xk.set a (gl Xk (a:Int)++ [(b:Int)]))++KS)))] (by kernel_rfl) (by kernel_rfl) (ly (ly (ly (ly (ly (ly (ly (ly (ly (ly (ly (ly (ly (bV.2 ⟨Ye.b9 (fun v w w' h hb=>by obtain⟨A9,hv,hT⟩:=h;exact⟨A9,hv,hT.later hb⟩),(bV.2 ⟨Ye.b9 (fun v w w' h hb=>by obtain⟨AZ,cZ,hv,hT⟩:=h;exact⟨AZ,cZ,hv,hT.later hb⟩),(ly (bV.2 ⟨Ye.b9 (fun v w w' h hb=>by obtain⟨AZ,cZ,hT⟩:=h;exact⟨AZ,cZ,hT.later hb⟩),(fun _ h=>by cases h)⟩))⟩)⟩)))))))))))))) ?_ ?_
     ·refine⟨ba O,ba O,?_,?_,ba O,ba O,ba O,cP fun _ _ hb _ _ _=>aw (hO.later hb).2 O O O (by omega) (by omega) (aX O O),cP fun _ _ hb _ _ _=>aa.ld (hO.later hb).2 (j:=k) O (by omega) Ha O O (aX O O),ba O,cP fun _ _ hb _ _ _=>aw (py.top.later hb).2 O O O (by omega) (by omega) (aX O O),cP fun _ _ hb _ _ _=>bQ (py.top.later hb) O (by omega) O O (aX O O),ba O,?_,?_,?_,?_,ae⟩
      ·intro e1 w1 cc dp bJ dz hp aL hq;show aa _ _ _ _ _ _ _;have hX:jD w1 A3 i os:=by { have bJ:=mw bJ (b:=1) (by kernel_rfl);rcases(show cc=0∨cc=1 by omega)with h | h; { exact hO.later (dz h) }; { subst h;obtain⟨AZ,cZ,_,hT⟩:=hq 14 _ _ (by kernel_rfl) (by kernel_rfl) (by kernel_rfl) rfl rfl (by kernel_rfl);exact hT.il 0 rfl } }
       refine aw hX.2 O O O (by omega) (by omega) (aa.n (fh O (by exact O)))
      ·intro e1 w1 cc dp bJ dz hp aL hq;show aa _ _ _ _ _ _ _;have hX:jD w1 A3 i os:=by { have bJ:=mw bJ (b:=1) (by kernel_rfl);rcases(show cc=0∨cc=1 by omega)with h | h; { exact hO.later (dz h) }; { subst h;obtain⟨AZ,cZ,_,hT⟩:=hq 14 _ _ (by kernel_rfl) (by kernel_rfl) (by kernel_rfl) rfl rfl (by kernel_rfl);exact hT.il 0 rfl } }
       refine aa.ld hX.2 (j:=k) O (by omega) Ha O O (aa.n (fh O (by exact O)))
      ·refine cP fun e1 w1 hb hp aL hq=>?_
       refine dJ (St.refl _) O O O ?_;intro A9 w9 ak;refine aa.n ?_;exact fF.dn O ak.below ⟨A9,O,(Cq.later hb).call ak⟩
      ·refine iY fun e1 w1 hb hp aL hq=>?_
       obtain⟨A9,Zf,hT⟩:=(hp 13 _ _ (by kernel_rfl) rfl rfl (by kernel_rfl));refine eK (2+1+a) hT (sD A9) (hT.bc 0 O) O (by exact Zf) O (by omega) (by omega) O ?_;intro AZ cZ wZ hZ;have hZ:=(nz A9 ⟨AZ,(rg rk (a:Int)).n+1,cZ⟩ (gl Xk (a:Int)++ [(b:Int)]))▸hZ;refine aa.n ?_;exact eA.dn O ⟨AZ,cZ,O,hZ.tail⟩
      ·intro e1 w1 cc dp bJ dz hp aL hq;show aa _ _ _ _ _ _ _;have hX:jD w1 oa N rk:=by { have bJ:=mw bJ (b:=1) (by kernel_rfl);rcases(show cc=0∨cc=1 by omega)with h | h; { exact py.top.later (dz h) }; { subst h;obtain⟨AZ,cZ,_,hT⟩:=hq 14 _ _ (by kernel_rfl) (by kernel_rfl) (by kernel_rfl) rfl rfl (by kernel_rfl);exact hT.il 1 rfl } }
       refine aw hX.2 O O O (by omega) (by omega) (aa.n (fh O (by exact O)))
      refine oQ 1 fun e1 w1 hp aL hq=>?_
      have dH:=hp 14 _ _ (by kernel_rfl) O O (by kernel_rfl);obtain⟨AZ,cZ,JE,hT⟩:=dH;refine zc (te:=32) (n:=N) (c:=oc) (A:=oa) (xs:=rk) 1 hT O O (by exact JE) (by omega) ?_;intro wY hY;refine aa.n ?_;exact eA.st O ⟨AZ,cZ,hY⟩
     intro u w8 _ hu _ _;obtain⟨AZ,cZ,hT⟩:=hu 16 _ rfl (by kernel_rfl);have Qa:=aV.put dU (r:=rk.set a ⟨AZ,(rg rk (a:Int)).n+1,cZ⟩) (X:=Xk.set a (gl Xk (a:Int)++ [(b:Int)])) (by rw [iw];exact iD) (by rw [iw];exact Qq) (by rw [ho,PZ];exact hT);rw [qv]at Qa;refine iq O (aa.add O O O (by omega) (aF O (tQ ?_)));exact⟨(k+1,rss.set k (rk.set a ⟨AZ,(rg rk (a:Int)).n+1,cZ⟩)),by show i - (k+1)<i - k;omega,⟨O,O,O,O,O,ae⟩,by show k+1≤i;omega,Qa⟩
    have e6:=aeg (n:=i) (fl:=fl) (a:=a) (b:=b) (k:=k) fun h=>h7 (Ee.2 h).2
    refine av O (aa.add O O O (by omega) (aF O (tQ ?_)));exact⟨(k+1,rss),by show i - (k+1)<i - k;omega,⟨O,O,O,O,O,ae⟩,by show k+1≤i;omega,by show ni w w7 N i A3 c3 os rss (jw i fl a b (k+1));rw [e6];exact aV⟩
   have yk:k=i:=by omega
   have hpr:=aec (n:=i) (fl:=fl) (a:=a) (b:=b);rw [yk,←hpr]at hS;refine aY O (aZ (cL O (aa.add O O O (by omega) (aF O (tQ ?_)))));exact⟨(b+1,rss),by show N - (b+1)<N - b;omega,⟨O,O,O,O,ae⟩,by show b+1≤N;omega,hS⟩
  have qm:b=N:=by omega
  rw [qm,←RV]at hS;refine aY O (aZ (cL O (aa.add O O O (by omega) (aF O (tQ ?_)))));exact⟨(a+1,rss),by show N - (a+1)<N - a;omega,⟨O,O,O,ae⟩,by show a+1≤N;omega,hS⟩
 have tB:a=N:=by omega
 rw [tB]at hS;refine aY O (aZ (gE O ?_));refine gB O ?_;exact⟨A3,c3,os,rss,O,hS⟩
section
variable {P:Program} {N:Nat} {ops:Array Oper} {K:Env→World→Prop} {rest:List Oper} {e:Env} {w:World} {d:Nat} {ty:TypeId} {pos:String} {af:Array Edge} {x y:Operand} {xt yt:TypeId}
theorem VO{m i:Nat}(hx:ev e x=aiD (m:Int))(hy:ev e y= .int .u64 (i:Int))(hi:i≤5)(hm:m≤32)(hb:Nat.blt d N=true)(hK:aa P N ops K rest (a7 e d (aiD ((m / 2^i:Nat):Int))) w):
 aa P N ops K (⟨some d,.binOp .shr xt x y yt,ty,pos,af,none⟩::rest) e w:=by
 refine .val (v:=aiD ((m / 2^i:Nat):Int)) ?_ hb hK;have e1:min i IntKind.i64.bits=i:=Nat.min_eq_left (kJ hi (by decide));have e2:¬(i:Int)<0:=by omega
 have e3:(m:Int).fdiv (2^i)=((m / 2^i:Nat):Int):=by
  rw [Int.fdiv_eq_ediv_of_nonneg _ (by have:=Int.pow_nonneg (n:=2) (m:=i) (by decide);omega)];simp
 simp [execOp,hx,hy,eqGuard,binOp,Op.shift,e1,e2,e3]
theorem Nn{i:Nat}(hx:ev e x=aiD 1)(hy:ev e y= .int .u64 (i:Int))(hi:i≤5)(hb:Nat.blt d N=true)(hK:aa P N ops K rest (a7 e d (aiD ((2^i:Nat):Int))) w):
 aa P N ops K (⟨some d,.binOp .shl xt x y yt,ty,pos,af,none⟩::rest) e w:=by
 refine .val (v:=aiD ((2^i:Nat):Int)) ?_ hb hK;have e1:min i IntKind.i64.bits=i:=Nat.min_eq_left (kJ hi (by decide));have e2:¬(i:Int)<0:=by omega
 have e3:IntKind.i64.wrap ((1:Int)*2^i)=((2^i:Nat):Int):=by
  rcases(by omega:i=0∨i=1∨i=2∨i=3∨i=4∨i=5)with rfl | rfl | rfl | rfl | rfl | rfl<;>decide
 rw [Int.one_mul]at e3;simp [execOp,hx,hy,eqGuard,binOp,Op.shift,e1,e2,e3]
theorem Wn:∀m:Nat,m<33→bits .and .i64 (m:Int) 1=((m%2:Nat):Int):=by decide
theorem Vu{m:Nat}(hx:ev e x=aiD (m:Int))(hy:ev e y=aiD 1)(hm:m≤32)(hb:Nat.blt d N=true)(hK:aa P N ops K rest (a7 e d (aiD ((m%2:Nat):Int))) w):
 aa P N ops K (⟨some d,.binOp .and xt x y yt,ty,pos,af,none⟩::rest) e w:=
 .val (by simp only [execOp,hx,hy,eqGuard,binOp,intBits_and,Wn m (by omega)];simp) hb hK
end
end
end Go.Proofs.YtopgfgdgfjddpaaGreatDoor.Vc
