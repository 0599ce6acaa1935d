/-
 Lemmas. Conditions: as each states them.
-/
import Derived.Lib.ItoaLen
import Derived.Test.YtimbpgackifflaaGreatDoorLayd
import Derived.Shelf.Strconv.AppendIntPublic10
import Derived.Test.YtimbpgackifflaaGreatDoorZh
import Derived.Deep.Matrix
import Derived.ChangeSame
import Derived.ProofKit
import Derived.OpenShut
import Derived.Handed
import Derived.Lib.SmallJoins
set_option maxHeartbeats 8000000
namespace Go.Proofs.YtimbpgackifflaaGreatDoor.Vc
open Tryz
section
open Go.RowKit
variable{w w':aa}
def lv(xs:ah):List UInt8:=xs.flatMap λx=>Lib.itoa x++[32]
def fK(xs:ah):ByteArray:=⟨(lv xs).toArray⟩
def SD(l:List UInt8):Nat:=l.foldl (λa b=>10*a+(b.toNat-48)) 0
theorem Mb{d:Nat}(h:d<10):(UInt8.ofNat (48+d)).toNat=48+d:=by
 rw[UInt8.toNat_ofNat'];omega
theorem FW:∀u:Nat,SD (Lib.decDigits u)=u/\∀b∈Lib.decDigits u,48<=b.toNat/\b.toNat<=57:=by
 intro u
 induction u using Nat.strongRecOn with
 |ind u ih=>
  rw[Lib.decDigits]
  split
  ·rename_i h;refine⟨?_,λb hb=>?_⟩
   ·simp only[SD,List.foldl_cons,List.foldl_nil,Mb h];omega
   ·simp only[eX]at hb;subst hb;rw[Mb h];omega
  ·rename_i h;obtain⟨h1,h2⟩:=ih (u / 10) ac;refine⟨?_,λb hb=>?_⟩
   ·unfold SD at h1|-;rw[List.foldl_append,h1];simp only[List.foldl_cons,List.foldl_nil,Mb (show u%10<10 by omega)];omega
   ·rcases dF.1 hb with hb|hb
    ·exact h2 b hb
    ·simp only[eX]at hb;subst hb;rw[Mb (by omega)];omega
theorem Ut{u v:Nat}(h:Lib.decDigits u=Lib.decDigits v):u=v:=by rw[<-(FW u).1,h,(FW v).1]
theorem Y4{x:Int}:∀b∈Lib.itoa x,b≠32:=by
 intro b hb e;subst e;unfold Lib.itoa at hb
 split at hb
 ·rcases gW.1 hb with h|h
  ·exact absurd h am
  have:=(FW _).2 _ h;exact absurd this am
 have:=(FW _).2 _ hb;exact absurd this am
theorem alW{x y:Int}(h:Lib.itoa x=Lib.itoa y):x=y:=by
 have Z3:∀(u v:Nat),45::Lib.decDigits u≠Lib.decDigits v:=λu v e=>by
  have:=(FW v).2 45 (by rw[<-e];simp);exact absurd this am
 unfold Lib.itoa at h
 split at h<;>split at h
 ·simp only[List.cons.injEq,true_and]at h;have:=Ut h;omega
 ·exact absurd h (Z3 _ _)
 ·exact absurd h.symm (Z3 _ _)
 have:=Ut h;omega
theorem abv:∀{a b r s:List UInt8},(∀x∈a,x≠32)->(∀x∈b,x≠32)->a++32::r=b++32::s->a=b/\r=s
 |[],[],_,_,_,_,h=>by simpa using h
 |[],y::b,_,_,_,hb,h=>by
  simp only[List.nil_append,List.cons_append,List.cons.injEq]at h;exact absurd h.1.symm (hb y (by simp))
 |x::a,[],_,_,ha,_,h=>by
  simp only[List.nil_append,List.cons_append,List.cons.injEq]at h;exact absurd h.1 (ha x (by simp))
 |x::a,y::b,_,_,ha,hb,h=>by
  simp only[List.cons_append,List.cons.injEq]at h;obtain⟨h1,h2⟩:=abv (λz hz=>ha z (by simp[hz])) (λz hz=>hb z (by simp[hz])) h.2;exact⟨by rw[h.1,h1],h2⟩
theorem HC(x:Int)(xs:ah):lv (x::xs)=Lib.itoa x++32::lv xs:=by simp[lv]
theorem amo(xs:ah)(x:Int):lv (xs++[x])=(lv xs++Lib.itoa x)++[32]:=by simp[lv]
theorem Y9:∀{xs ys:ah},lv xs=lv ys->xs=ys
 |[],[],_=>rfl
 |[],y::ys,h=>by rw[HC]at h;simp[lv]at h
 |x::xs,[],h=>by rw[HC]at h;simp[lv]at h
 |x::xs,y::ys,h=>by
  rw[HC,HC]at h;obtain⟨h1,h2⟩:=abv Y4 Y4 h;rw[alW h1,Y9 h2]
theorem C9{xs ys:ah}(h:fK xs=fK ys):xs=ys:=by
 have h1:(lv xs).toArray=(lv ys).toArray:=aQ ByteArray.data h;exact Y9 (by simpa using h1)
theorem fold_push:∀(l:List UInt8)(s:ByteArray),(l.map λb=>((b.toNat:Nat):Int)).foldl (λr n=>r.push (UInt8.ofNat n.toNat)) s=⟨s.data++l.toArray⟩
 |[],s=>by simp
 |b::l,s=>by
  simp only[List.map_cons,List.foldl_cons];rw[fold_push l];have e:UInt8.ofNat ((b.toNat:Nat):Int).toNat=b:=by simp
  rw[e];have e2:(s.push b).data=s.data.push b:=O;rw[e2]
  congr 1
  apply Array.ext';simp
def lh(w:aa): Prop:=Lib.TabIs prog w "internal/strconv.uint64pow10" .u64 Lib.pow10Tab
theorem lh.ao(h:lh w)(hb:Below w.heap.size w w'):lh w':=Lib.tabBelow_of_tabIs h w' hb.toBelow
def wg(B:Nat)(w:aa)(A:ai)(m c:Nat)(l:List UInt8):Prop:=w.ownsRow B 5 1 (.slice A m c) m (Lib.byteCells l)
theorem aak{B m:Nat}{v:ab}{xs:List ab}(h:w.ownsRow B 5 1 v m xs):∃A c,v=.slice A m c:=by
 rcases h.2 with⟨rfl,rfl⟩|⟨g,cap,cur,rfl,_⟩
 ·exact⟨_,_,O⟩
 exact⟨_,_,O⟩
theorem wg.ao{B:Nat}{A:ai}{m c:Nat}{l:List UInt8}(h:wg B w A m c l)(hb:Below w.heap.size w w'):wg B w' A m c l:=by
 refine⟨h.1,?_⟩;rcases h.2 with h1|⟨g,cap,cur,h1,h2,h3,r⟩
 ·exact .inl h1
 exact .inr ⟨g,cap,cur,h1,h2,by rw[hb.block g (Array.getElem?_eq_some_iff.1 h3).1];exact h3,r⟩
section
variable {N:Nat}{ops:Array Oper}{K:Env->aa->Prop}{rest:List Oper}{e:Env}{w0 w w':aa}{ks:List Ck}{d:Nat}{ty:ad}{pos:String}{af:Array Edge}
theorem acE{B m c:Nat}{A:ai}{l:List UInt8}{A1:ai}{b:UInt8}{x y:ae}(hO:wg B w A m c l)(hB:B<=w.heap.size)(hR:Rd w A1 1 (λ_=>.int .u8 (b.toNat:Nat)))(hx:ev e x=.slice A m c)(hy:ev e y=.slice A1 1 1)(hm:m<=1000000000)(hb:Nat.blt d N=true)
 (hK:∀A2 c2 w',Go.RowKit.Below B w w'->wg B w' A2 (m+1) c2 (l++[b])->ak prog N ops K rest (bE e d (.slice A2 (m+1) c2)) w'):
 ak prog N ops K (⟨some d,.call ⟨.builtin .append, #[x,y], #[22,22]⟩,ty,pos,af,none⟩::rest) e w:=by
 obtain⟨inf,hi,eN,hs,iI⟩:=bL.get prog 5;obtain⟨p,hp,hc⟩:=hR 0 ac;obtain⟨a,rfl⟩:∃a,A1=some a:=by cases A1 with|none=>simp[aH]at hp|some q=>exact⟨q,rfl⟩
 simp only[aH,Option.map_some,oh]at hp;obtain⟨v',w',hr,Gq,hg,_⟩:=run_append_own (P:=prog) (w:=w) B 22 ty 5 inf (.int .u8 0) 1 1 underlying22 hi eN hs iI rfl am (.slice A m c) m (Lib.byteCells l) hO a 1 1 [.int .u8 (b.toNat:Nat)] rfl
  (λj u hj=>by
    match j,hj with
    |0,hj=>simp at hj;subst hj;rw[hp];exact hc) (λu hu=>by simp at hu;subst hu;rfl) (by simp only[maxLen];omega) ac hB
 obtain⟨A2,c2,rfl⟩:=aak Gq;refine .val (w':=w') ?_ hb (hK A2 c2 w' ?_ ?_)
 ·simp[execOp,resolve,invoke,builtin,hx,hy,hr]
 ·exact(Go.RowKit.Below.refl B w).grown hg hB (λk hk=>(hO.lt k hk).1)
 ·show w'.ownsRow B 5 1 (.slice A2 (m+1) c2) (m+1) (Lib.byteCells (l++[b]));rw[show Lib.byteCells (l++[b])=Lib.byteCells l++[.int .u8 (b.toNat:Nat)] by simp[Lib.byteCells]];exact Gq
theorem acL{B m c:Nat}{A:ai}{l:List UInt8}{x:ae}(hO:wg B w A m c l)(hx:ev e x=.slice A m c)(hb:Nat.blt d N=true)(hK:ak prog N ops K rest (bE e d (.string ⟨l.toArray⟩)) w):
 ak prog N ops K (⟨some d,.convert 22 9 x,ty,pos,af,none⟩::rest) e w:=by
 have hr:(Conv.bytesToString (.slice A m c)).run prog w=.ok (.string ⟨l.toArray⟩) w:=by
  have hl:(Lib.byteCells l).length=m*1:=hO.1;rcases hO.2 with⟨h1,h2⟩|⟨g,cap,cur,h1,_⟩
  ·simp only[Value.slice.injEq]at h1;obtain⟨rfl,rfl,rfl⟩:=h1;have:l=[]:=iL (by rw[Lib.byteCells_length]at hl;omega);subst this
   rfl
  simp only[Value.slice.injEq]at h1;obtain⟨rfl,_,rfl⟩:=h1;have h2:=hO.cells (g:=g) O;have h3:=run_loadCells_list (P:=prog) (w:=w) (⟨g,0,none⟩:Addr) (Lib.byteCells l) h2;rw[hl,Nat.mul_one]at h3;have e1:Lib.byteCells l=(l.map λb=>((b.toNat:Nat):Int)).map (Value.int .u8):=by simp[Lib.byteCells]
  rw[e1]at h3;rw[run_bytesToString w _ m c _ h3,fold_push];simp
 refine .val (w':=w) ?_ hb hK;simp[execOp,hx,convert,run_underlying underlying22,run_underlying underlying9,run_underlying underlying5,hr]
end
theorem ab6{B m c:Nat}{A:ai}{l:List UInt8}(x:Int)(w:aa)(hx:-9223372036854775808 <= x /\ x <= 9223372036854775807)(hO:wg B w A m c l)(hB:B <= w.heap.size)(hm:m <= 1000000000)(hT:Lib.TabBelow prog B w "internal/strconv.uint64pow10" .u64 Lib.pow10Tab):
 aF prog 157 [.slice A m c,aj x,aj 10] w (λv w'=>∃A' c',v=.slice A' (m+(Lib.itoa x).length) c'/\wg B w' A' (m+(Lib.itoa x).length) c' (l++Lib.itoa x)/\Go.RowKit.Below B w w'):=by
 have key:=Any.strconv_AppendInt_10 lai B m x hx.1 hx.2 (.slice A m c) (Lib.byteCells l) w hO hB ac hT;refine Calls.mono key λy w' ⟨v',hy,Gq,hb,_⟩=>⟨_,hy,?_⟩
 obtain⟨A2,c2,rfl⟩:=aak Gq;refine⟨A2,c2,O,?_,hb⟩;show w'.ownsRow B 5 1 (.slice A2 _ c2) _ (Lib.byteCells (l++Lib.itoa x));rw[Lib.byteCells_append];exact Gq
theorem Y5(x:Int)(hx: -9223372036854775808<=x/\x<=9223372036854775807):(Lib.itoa x).length<=21:=Lib.itoa_length_le x hx.1 hx.2
theorem Za:∀(xs:ah),(∀x∈xs,-9223372036854775808<=x/\x<=9223372036854775807)->(lv xs).length<=22*xs.length
 |[],_=>by simp[lv]
 |x::xs,h=>by
  have h1:=Y5 x (h x (by simp));have h2:=Za xs λy hy=>h y (by simp[hy])
  rw[HC];simp only[cj,List.length_cons];omega
theorem xm(A:ai)(n c:Nat)(xs:ah)(w:aa)(hT:lh w)(hR:bu w A n xs)(hx:∀x∈xs,-9223372036854775808<=x/\x<=9223372036854775807)(hn:n<=1000000):
 aF prog 111 [.slice A n c] w (λv w'=>v=.string (fK xs)/\St w w' []):=by
 have cT:=hR.1;refine bn func111 O ntmps111 O (bM O) ?_;refine aY O (aR O O (ay O ?_));refine Cd.loop (α:=Nat×ai×Nat) (λs=>[(3,.slice s.2.1 (lv (xs.take s.1)).length s.2.2),(6,.slice A n c),(7,aj n),(8,aj (s.1:Int))]) (λs w'=>wg w.heap.size w' s.2.1 (lv (xs.take s.1)).length s.2.2 (lv (xs.take s.1))/\Go.RowKit.Below w.heap.size w w'/\s.1<=n) (λs=>n-s.1) (0,none,0) (auV O) ⟨World.ownsRow_nil w _ _ _,Go.RowKit.Below.refl _ _,bl _⟩ ?_;rintro⟨i,A3,c3⟩ e w1 ⟨hO,fh,hi⟩;dsimp only at hO fh hi|-;refine bC O (aK _ O (λh1=>?_) (λh1=>?_))
 ·have fY:i<xs.length:=by omega
  have eW:bu w1 A n xs:=hR.ao ⟨fh, λs => s.elim⟩;have Ec:Lib.TabBelow prog w.heap.size w1 "internal/strconv.uint64pow10" .u64 Lib.pow10Tab:=(Lib.tabBelow_of_tabIs hT).on fh
  have qO:=hx _ (gi_in fY);have oz:=Za (xs.take i) λx hm=>hx x (List.mem_of_mem_take hm)
  have Eu:=Y5 _ qO;rw[jG]at oz;have vC:=fh.size;have kH:lv (xs.take (i+1))=(lv (xs.take i)++Lib.itoa (gi xs i))++[32]:=by rw[lG fY,amo]
  refine aC O (aA eW.2 O (bg eW O (aq O (aI (ab6 (gi xs i) _ qO hO vC ac Ec) O ?_))));rintro _ w2 ⟨A4,c4,rfl,hO2,jR⟩;have hsz2:=jR.size;refine aq O (ak.IX (St.refl w2) O O O O ?_);intro A5 w3 aM;have hO3:=hO2.ao aM.below;have ji:Go.RowKit.Below w.heap.size w2 w3:=aM.below.toBelow.mono ac;have hsz3:=ji.size;refine acE (b:=32) hO3 ac (aM.rd 0 rfl|>.congr λj hj=>by obtain rfl:j=0:=by { have:j<1:=hj;omega };rfl) rfl rfl ac rfl ?_;intro A6 c6 w4 kq hO4;refine aq O (aJ O (aN O (tQ ?_)));refine⟨(i+1,A6,c6),by show n-(i+1)<n-i;omega,⟨?_,O,O,O,au⟩,?_,((fh.trans jR).trans ji).trans kq,by show i+1<=n;omega⟩
  ·show Value.slice _ _ _=.slice _ _ _;rw[kH];simp[Nat.add_assoc]
  show wg _ w4 A6 (lv (xs.take (i+1))).length c6 (lv (xs.take (i+1)));rw[kH];have e1:((lv (xs.take i)++Lib.itoa (gi xs i))++[32]).length=(lv (xs.take i)).length+(Lib.itoa (gi xs i)).length+1:=by simp;omega
  rw[e1];exact hO4
 have cE:i=xs.length:=by omega
 subst cE;rw[List.take_length]at hO;refine ba O (bc (bY O ?_));refine acL hO (by show Value.slice _ _ _=.slice _ _ _;rw[List.take_length]) O ?_;refine bR O (LF O ?_);exact⟨rfl,⟨⟨fh,λs=>s.elim⟩,λk hk=>(by cases hk),List.nodup_nil⟩⟩
structure rY(w:aa)(n:Nat)(rs:List aE)(xss:ag):Prop where
 rl:rs.length=n
 len:xss.length=n
 row:∀i,i<n->bu w (rs.getD i bI).a (rs.getD i bI).n (xss.getD i [])
 cap:∀i,i<n->(rs.getD i bI).n<=(rs.getD i bI).c/\(rs.getD i bI).c<=maxLen
theorem rY.I{w:aa}{A:ai}{n:Nat}{rs:List aE}{xss:ag}(h:rY w n rs xss)(ht:fu w A n rs):bH w A n rs xss:=⟨ht,h.len,h.row,h.cap⟩
theorem rY.ao{w w':aa}{n:Nat}{rs:List aE}{xss:ag}(h:rY w n rs xss)(hb:Below w.heap.size w w'):rY w' n rs xss:=⟨h.rl,h.len,λi hi=>(h.row i hi).ao hb,h.cap⟩
def vS(ls:ag):List (ByteArray×Bool):=ls.foldl (λL l=>gh L (fK l) true) []
theorem abi(ls:ag)(l:ah):vS (ls++[l])=gh (vS ls) (fK l) true:=by simp[vS,List.foldl_append]
theorem aqu(ls:ag)(l:ah):(dh (vS ls) (fK l)).getD false=decide (l∈ls):=by
 have key:∀r:ag,(dh (vS r.reverse) (fK l)).getD false=decide (l∈r.reverse):=λr=>by
  induction r with
  |nil=>rfl
  |cons x r ih=>
   rw[List.reverse_cons,abi,DY]
   by_cases e:x=l
   ·subst e;rw[aG rfl];simp
   ·rw[aD (λh=>e (C9 h)),ih];have:l≠x:=λh=>e h.symm
    simp[this]
 have:=key ls.reverse
 rwa[List.reverse_reverse]at this
instance (l:ag):Decidable l.Nodup:=by unfold List.Nodup;infer_instance
theorem apO{q:List Nat}(f:Nat->aE){k:Nat}(h:k<q.length):rg (q.map f) k=f (q.getD k 0):=by
 simp[rg,b5,h]
theorem ar4{q:List Nat}{k:Nat}(h:k<q.length):q.take (k+1)=q.take k++[q.getD k 0]:=by
 rw[oQ h];simp[b5,h]
theorem ahD{ls lq:ag}(hs:∀l∈ls,SA l)(hp:∀x,x∈lq↔x∈ls)(hd:lq.Pairwise λa b=>b.length<=a.length){F:ag}(hF:F.Perm (mX lq))(ho:F.Pairwise λa b=>¬LT b a):F=mq ls:=by
 have Qj:∀l∈lq,SA l:=λl hl=>hs l ((hp l).1 hl)
 refine(Fy.eq (ls:=ls) ⟨ac3 ho (hF.nodup_iff.2 (ahB Qj)),λx=>?_⟩ (Jq ls));rw[hF.mem_iff,ahA Qj hd];exact⟨λh=>h.perm hp,λh=>h.perm λx=>(hp x).symm⟩
theorem VF(A:ai)(n c:Nat)(rs:List aE)(ls:ag)(w:aa)(hT:lh w)(hR:bH w A n rs ls)(hn:n<=2000000)(tp:∀l∈ls,SA l)(h6:∀l∈ls,l.length<=6)(hx:∀l∈ls,∀x∈l,-9223372036854775808<=x/\x<=9223372036854775807):
 aF prog 104 [.slice A n c] w (λv w'=>∃(q:List Nat)(A':ai)(c':Nat),v=.slice A' q.length c'/\q.Nodup/\(∀i∈q,i<n)/\q.map (λi=>ls.getD i [])=mq ls/\St w w' [aX 27 A' q.length c' (q.map λi=>rs.getD i bI)]):=by
 have bT:rs.length=n:=hR.top.1;have oz:ls.length=n:=hR.len;have hlen:∀i,i<n->(rs.getD i bI).n=(ls.getD i []).length:=λi hi=>(hR.row i hi).1.symm
 have iq:∀i,i<n->ls.getD i []∈ls:=λi hi=>by rw[b5,fL (by omega)];exact dt _
 refine bn func104 O ntmps104 O (bM O) (aY O (aI (ab9 A n c rs w hR.top ac) O ?_));rintro _ w1 ⟨A1,c1,rfl,ax⟩;refine aq O ?_;have gu:∀s∈rs,s.n<=9223372036854775807:=λs hs=>by
  obtain⟨i,hi,rfl⟩:=fS.1 hs;have h:=hlen i ac;have h2:=h6 _ (iq i ac);rw[b5,fL hi]at h;simp only[Option.getD_some]at h;omega
 refine aI (arF ac gu ax) O ?_;rintro _ w2 ⟨rfl,ds,kG,yN,az⟩;obtain⟨q0,sg,rfl⟩:=aoS bI kG;rw[bT]at sg;have akt:q0.length=n:=by rw[sg.length_eq,od]
 have aku:q0.Nodup:=sg.nodup_iff.2 List.nodup_range;have Hd:∀i∈q0,i<n:=λi hi=>fo.1 (sg.mem_iff.1 hi)
 have Er:∀k,k<n->q0.getD k 0<n:=λk hk=>Hd _ (by rw[b5,fL (by omega)];exact dt _)
 generalize PL:(λi=>ls.getD i [])=ic;generalize Ym:(λi=>rs.getD i bI)=fP at*;have br:∀(w':aa) i,i<n->Below w.heap.size w w'->bu w' (fP i).a (fP i).n (ic i):=λw' i hi hb=>by
  rw[<-Ym,<-PL];exact(hR.row i hi).ao hb
 have PH:∀i,i<n->ic i∈ls:=λi hi=>by rw[<-PL];exact iq i hi
 have CQ:∀x,x∈q0.map ic↔x∈ls:=λx=>by
  rw[de];constructor
  ·rintro⟨i,hi,rfl⟩;exact PH i (Hd i hi)
  intro hx;obtain⟨i,hi,rfl⟩:=fS.1 hx;refine⟨i,sg.mem_iff.2 (fo.2 ac),?_⟩;rw[<-PL];simp[b5,hi]
 have aj1:(q0.map ic).Pairwise λa b=>b.length<=a.length:=by
  rw[rV,List.pairwise_iff_getElem];intro i j hi hj jC;have h:=yN i j (bl _) jC ac;rw[vp (by simp;omega),vp (by simp;omega)]at h;simp only[List.getElem_map]at h;have h1:=(br w _ (Hd _ (dt hi)) (Below.refl _ _)).1;have h2:=(br w _ (Hd _ (dt hj)) (Below.refl _ _)).1;unfold dM at h;omega
 refine aq O (wc az O ?_);intro g w3 aM;refine aq O (aR O O (ay O ?_));refine Cd.loop (α:=Nat×ai×Nat×List Nat) (λz=>[(4,.map (some g)),(5,.slice z.2.1 z.2.2.2.length z.2.2.1),(16,.slice A1 n c1),(17,aj n),(18,aj (z.1:Int))]) (λz w'=>z.1<=n/\z.2.2.2.Sublist (q0.take z.1)/\z.2.2.2.map ic=mX ((q0.take z.1).map ic)/\St w w' [aX 27 z.2.1 z.2.2.2.length z.2.2.1 (z.2.2.2.map fP),fc 152 g (dZ Value.string Value.bool (vS ((z.2.2.2.map ic).flatMap vh))),aX 27 A1 n c1 (q0.map fP)]) (λz=>n-z.1) (0,none,0,[]) (auV O) ⟨bl _,List.nil_sublist _,O,aM.nil _⟩ ?_;rintro⟨k,A5,c5,q⟩ e w4 ⟨hk,si,CK,aU⟩;dsimp only at hk si CK aU|-;have vz:q.Nodup:=(aku.sublist (List.take_sublist _ _)).sublist si;have qJ:∀i∈q,i<n:=λi hi=>Hd i (List.mem_of_mem_take (si.subset hi))
 have mz:q.length<=n:=by have:=si.length_le;rw[jG]at this;omega
 refine bC O (aK _ O (λh1=>?_) (λh1=>?_))
 ·have rI:k<n:=by omega
  have s7:=aU.dm 2 O;have um:=apO (q:=q0) fP (k:=k) ac;have eU:=Er k rI;have kH:=ar4 (q:=q0) (k:=k) ac;generalize hi:q0.getD k 0=i0 at*;have iO:=br w4 i0 eU aU.below;have wT:=PH i0 eU;have wU:=h6 _ wT;have jb:=iO.1;have AM:mX ((q0.take (k+1)).map ic)=zW (mX ((q0.take k).map ic)) (ic i0):=by rw[kH,iE];exact N4 _ _
  have ajc:(fP i0).n<=(fP i0).c:=by rw[<-Ym];exact(hR.cap i0 eU).1
  refine aC O (aA s7.2 O (bw s7 O ?_));rw[um];refine aq O (aR O O (aq O ?_));refine b9 25 O (λh2=>?_) (λh2=>?_)
  ·have oA:ic i0=[]:=iL ac;refine aB O (aB O (aB O (aB O (ay O ?_))));refine Cd.iw O (aC O (aJ O (aN O (tQ ?_))));refine⟨(k+1,A5,c5,q),by show n-(k+1)<n-k;omega,(auV O),by show k+1<=n;omega,by show q.Sublist (q0.take (k+1));rw[kH];exact si.trans (ny _ _),?_,aU⟩;show q.map ic=mX ((q0.take (k+1)).map ic);rw[AM,zW,aG (.inl oA)];exact CK
  have bN:ic i0≠[]:=λh=>h2 (by rw[h]at jb;simp at jb;omega)
  refine ar O (aq O (ar O (aq O (ar O ?_))));refine aI (xm _ _ _ _ _ (hT.ao aU.below) iO (hx _ wT) ac) O ?_;rintro _ w5 ⟨rfl,aw⟩;have aO:=aU.ao aw.below;refine ar O (acS sl (fK (ic i0)) (aO.oH 1 O) O O O ?_);rw[aqu,CK];refine ay O (aK _ O (λh3=>?_) (λh3=>?_))
  ·refine aC O (aJ O (aN O (tQ ?_)));refine⟨(k+1,A5,c5,q),by show n-(k+1)<n-k;omega,(auV O),by show k+1<=n;omega,by show q.Sublist (q0.take (k+1));rw[kH];exact si.trans (ny _ _),?_,aO⟩;show q.map ic=mX ((q0.take (k+1)).map ic);rw[AM,zW,aG (.inr h3)];exact CK
  refine aC O (jW aO O O O ?_);intro A6 w6 bk;refine iT 1 bk O (bk.dm 0 O) O O O ac ac O ?_;intro A7 c7 w7 bp;have bp:St w w7 [aX 27 A7 (q.length+1) c7 (q.map fP++[fP i0]),fc 152 g (dZ Value.string Value.bool (vS ((q.map ic).flatMap vh))),aX 27 A1 n c1 (q0.map fP)]:=bp.tail;refine aq O (aI (oK _ _ _ _) O ?_);rintro _ _ ⟨rfl,rfl⟩;generalize ai1:(q.map ic).flatMap vh=base at*;refine aJ O (ay O ?_);refine Cd.loop (α:=Nat) (λm=>[(4,.map (some g)),(5,.slice A7 (q.length+1) c7),(7,.slice (fP i0).a (fP i0).n (fP i0).c),(16,.slice A1 n c1),(17,aj n),(18,aj k),(37,aj (((fP i0).n:Int)+1)),(38,aj m)]) (λm w'=>m<=(ic i0).length+1/\St w w' [aX 27 A7 (q.length+1) c7 (q.map fP++[fP i0]),fc 152 g (dZ Value.string Value.bool (vS (base++ze (ic i0) m))),aX 27 A1 n c1 (q0.map fP)]) (λm=>(ic i0).length+1-m) 0 (auV O) ⟨bl _,by rw[show ze (ic i0) 0=[]from O,dQ];exact bp⟩ ?_;rintro m e w8 ⟨hm,bB⟩;refine bC O (aK _ O (λh4=>?_) (λh4=>?_))
  ·refine aC O (aI (HS m _ _ _ _ _ (br w8 i0 eU bB.below) ajc ac ac) O ?_);rintro _ w9 ⟨A9,c9,rs9,rfl,hrl9,fg⟩;have wW:∀p∈dT (ic i0) m,p.length<=6/\∀x∈p,-9223372036854775808<=x/\x<=9223372036854775807:=λp hp=>by
    have h:=(oF.1 hp).1;have h2:=h.length_le;exact⟨ac,λx C5=>hx _ wT x (h.subset C5)⟩
   have aks:=aoF (ic i0) m;have hN64:=vO (l:=ic i0) m ac;generalize hN:dT (ic i0) m=N at*;have bj:St w w9 ([aX 27 A7 (q.length+1) c7 (q.map fP++[fP i0]),fc 152 g (dZ Value.string Value.bool (vS (base++ze (ic i0) m))),aX 27 A1 n c1 (q0.map fP)]++(aV 27 2 A9 N.length c9 rs9 N++[])):=(bB.call fg).perm gL;refine aR O O (ay O ?_);refine Cd.loop (α:=Nat) (λj=>[(4,.map (some g)),(5,.slice A7 (q.length+1) c7),(7,.slice (fP i0).a (fP i0).n (fP i0).c),(16,.slice A1 n c1),(17,aj n),(18,aj k),(37,aj (((fP i0).n:Int)+1)),(38,aj m),(43,.slice A9 N.length c9),(44,aj (N.length:Int)),(45,aj j)]) (λj w'=>j<=N.length/\St w w' ([aX 27 A7 (q.length+1) c7 (q.map fP++[fP i0]),fc 152 g (dZ Value.string Value.bool (vS (base++ze (ic i0) m++N.take j))),aX 27 A1 n c1 (q0.map fP)]++(aV 27 2 A9 N.length c9 rs9 N++[]))) (λj=>N.length-j) 0 (auV O) ⟨bl _,by rw[List.take_zero,dQ];exact bj⟩ ?_;rintro j e dJ ⟨hj,cQ⟩;have hM:=(cQ.sub (fj _ _)).fO O;refine bC O (aK _ O (λh5=>?_) (λh5=>?_))
   ·have lV:j<N.length:=by omega
    have Hl:=hM.at_ (i:=(j:Int)) ac ac;have hrlj:=Hl.1;have XT:=wW (gl N j) (by rw[df lV];exact dt _);refine aC O (aA hM.top.2 O (bw hM.top O (aq O (aI (xm _ _ _ _ _ (hT.ao cQ.below) Hl XT.2 ac) O ?_))));rintro _ eO ⟨rfl,aw⟩;have dA:=cQ.ao aw.below;refine tL O sl 1 (u:=true) dA O O O O λgD dz=>aq O (aJ O (aN O (tQ ?_)));refine⟨j+1,by show N.length-(j+1)<N.length-j;omega,(auV O),ac,?_⟩;rw[nV lV,<-ef (base++ze (ic i0) m) (N.take j),abi];exact dz
   have qF:j=N.length:=by omega
   rw[qF,List.take_length]at cQ;refine ba O (bc (bY O (aJ O (aN O (tQ ?_)))));refine⟨m+1,by show(ic i0).length+1-(m+1)<(ic i0).length+1-m;omega,(auV O),ac,?_⟩;rw[aks,<-ef base];exact cQ.sub (ny _ _)
  have Kq:m=(ic i0).length+1:=by omega
  rw[Kq,aoE]at bB;refine ba O (bc (bY O (aJ O (aN O (tQ ?_)))));refine⟨(k+1,A7,c7,q++[i0]),by show n-(k+1)<n-k;omega,⟨O,by show Value.slice A7 (q.length+1) c7=.slice A7 (q++[i0]).length c7;simp,O,O,O,au⟩,by show k+1<=n;omega,by show(q++[i0]).Sublist (q0.take (k+1));rw[kH];exact si.append (fD _),?_,?_⟩
  ·show(q++[i0]).map ic=mX ((q0.take (k+1)).map ic);rw[AM,zW,aD (λh=>by
    rcases h with h|h
    ·exact bN h
    exact h3 h),iE,CK]
   rfl
  show St w w8 [aX _ A7 (q++[i0]).length c7 ((q++[i0]).map fP),fc _ g (dZ Value.string Value.bool (vS (((q++[i0]).map ic).flatMap vh))),aX _ A1 n c1 (q0.map fP)];rw[iE,iE,List.flatMap_append,ai1,cj];have e1:([i0].map ic).flatMap vh=vh (ic i0):=by simp
  rw[e1];exact bB
 have rI:k=n:=by omega
 subst rI;rw[<-akt,List.take_length]at CK;have tq:∀a,a<q.length->sv (q.map fP) a=fP (q.getD a 0):=λa ha=>by simp[sv,b5,ha]
 have xa:∀a,a<q.length->q.getD a 0∈q:=λa ha=>by rw[b5,fL ha];exact dt _
 refine ba O (bc (bY O ?_));refine aI (abt 0 aU O ac (λa=>ic (q.getD a 0)) (λa ha=>by rw[tq a ha];have h1:=(br w _ (qJ _ (xa a ha)) (Below.refl _ _)).1;have h2:=h6 _ (PH _ (qJ _ (xa a ha)));omega) (λw' q' _ _ mu a ha=>by rw[tq a ha];exact br w' _ (qJ _ (xa a ha)) mu.below)) O ?_;rintro _ w5 ⟨rfl,q2,CY,akw,aO⟩;have XX:q2.length=q.length:=by rw[CY.length_eq,od]
 have akv:∀a∈q2,a<q.length:=λa ha=>fo.1 (CY.mem_iff.1 ha)
 have iY:(q2.map λa=>q.getD a 0).Perm q:=by
  have h:=CY.map λa=>q.getD a 0
  rwa[<-ZC 0 q]at h
 have Bg:q2.map (sv (q.map fP))=(q2.map λa=>q.getD a 0).map fP:=by
  rw[List.map_map];exact ki λa ha=>tq a (akv a ha)
 have bk:St w w5 [aX 27 A5 q.length c5 (q2.map (sv (q.map fP)))]:=aO.sub (List.Sublist.cons_cons _ (List.nil_sublist _));rw[Bg]at bk;refine bR O (dV O ?_);refine⟨q2.map λa=>q.getD a 0,A5,c5,by simp[XX],iY.nodup_iff.2 vz,λi hi=>qJ i (iY.mem_iff.1 hi),?_,by simpa[XX]using bk⟩;refine ahD tp CQ aj1 ?_ ?_
 ·have h:=iY.map ic
  rwa[CK]at h
 rw[rV,rV];exact akw
section
variable {w:aa}{e:Env}
theorem RF{R:ab->aa->Prop}{t u:Nat}{b:Bool}{k:IntKind}{i:Int}(h:e t=.int k i)(h2:e u=.bool b)(hR:R (.tuple #[.int k i,.bool b]) w):E4 t u R .ret e w:=by show R (.tuple #[e t,e u]) w;rw[h,h2];exact hR
end
section
variable {P:Program}{N:Nat}{ops:Array Oper}{K:Env->aa->Prop}{rest:List Oper}{e:Env}{w0 w w':aa}{ks:List Ck}{d:Nat}{ty:ad}{pos:String}{af:Array Edge}
theorem My{t:ad}{f0 f1:Field}{z0 z1 y0 y1:ab}{b b0 b1:Nat}[bJ P t (.struct #[f0,f1])][bL P t (.agg #[z0,z1]) 2 b](oY:bL P f0.type y0 1 b0)(nJ:bL P f1.type y1 1 b1)(ho:f0.offset=0)(qH:f1.offset=1)(hb:Nat.blt d N=true)(hK:ak P N ops K rest (bE e d (.agg #[z0,z1])) w):ak P N ops K (⟨some d,.build t #[],ty,pos,af,none⟩::rest) e w:=by
 obtain⟨inf,hi,eN,hs,iI⟩:=bL.get P t;obtain⟨yX,eU,_,l7,_⟩:=oY.get P f0.type;obtain⟨Bs,kP,_,pR,_⟩:=nJ.get P f1.type;have ez:(Value.agg #[z0,z1]).cells= #[z0,z1]:=O;refine .val (w':=w) ?_ hb hK;simp[execOp,Instr.build,run_underlying (bJ.out (P:=P) (t:=t)),sizeOf,typeInfo,zeroValue,hi,eN,eU,l7,kP,pR,ho,qH,ez,Instr.fill]
end
def Dy(V:Int)(F:ag)(K:Int)(w:aa)(v:ab)(w':aa):Prop:=∃A' c' rs',v=.tuple #[.agg #[aj V,.slice A' F.length c'],aj K]/\rs'.length=F.length/\St w w' (aV 27 2 A' F.length c' rs' F++[])
theorem Dy.none{w w':aa}{ks:List Ck}{K:Int}(h:St w w' ks):Dy 0 [] K w (.tuple #[.agg #[aj 0,.slice Option.none 0 0],aj K]) w':=⟨Option.none,0,[],rfl,rfl,h.none.nil _⟩
theorem afd(A:ai)(n c:Nat)(xs:ah)(G:FuncId)[hF:bq prog G](cv:List ab)(pd:Int->Bool)(w:aa)(hR:bu w A n xs)(hn:n<=4000000000000)(rG:∀(w':aa)(x:Int),Below w.heap.size w w'->x∈xs->aF prog G (aj x::cv) w' (λv nX=>v=.bool (pd x)/\St w' nX [])):
 aF prog 54 [.slice A n c,.func (.func G) #[] cv.toArray] w (λv w'=>v=.bool (decide (∃x∈xs,pd x=true))/\St w w' []):=by
 refine bn func54 O ntmps54 O (bM O) (aY O (aI (alx A n c xs G cv pd w hR hn rG) O ?_));rintro _ w2 ⟨⟨i,rfl,hi⟩,az⟩;have cT:=hR.1;have e:(0<=i)↔∃x∈xs,pd x=true:=by
  rcases hi with⟨rfl,h⟩|⟨k,hk,rfl,h,_⟩
  ·refine⟨λh=>absurd h am,λ⟨x,hx,hp⟩=>?_⟩;rw[h x hx]at hp;cases hp
  exact⟨λ_=>⟨_,by rw[b7 (by omega)];exact dt _,h⟩,λ_=>by omega⟩
 refine bR O (cK O ?_);exact⟨aQ Value.bool (kl.2 e),az⟩
def lD(H:List Bool)(vs:ah):List Bool:=vs.foldl (λH v=>H.set v.toNat true) H
theorem Lq(H:List Bool)(vs:ah)(v:Int):lD H (vs++[v])=(lD H vs).set v.toNat true:=by simp[lD,List.foldl_append]
theorem ao9(H:List Bool):∀vs,(lD H vs).length=H.length:=by
 intro vs;unfold lD
 induction vs generalizing H with
 |nil=>rfl
 |cons a r ih=>rw[List.foldl_cons,ih,fR]
theorem ao8(H:List Bool)(vs:ah)(hv:∀v∈vs,0<=v/\v<H.length)(x:Int)(h0:0<=x):gb (lD H vs) x=(gb H x||decide (x∈vs)):=by
 unfold lD
 induction vs generalizing H with
 |nil=>simp
 |cons a r ih=>
  have ha:=hv a (by simp);rw[List.foldl_cons,ih _ (λv h=>by rw[fR];exact hv v (by simp[h])),F4 ha.1 ha.2 h0]
  by_cases e:a=x
  ·subst e;simp
  ·have e':¬x=a:=λh=>e h.symm
   simp[e,e']
theorem Vq(n:Nat)(x:Int):gb (List.replicate n false) x=false:=by
 unfold gb;rw[b5,List.getElem?_replicate]
 split<;>rfl
theorem ao7{m:Nat}{F:ag}(h:∀l∈F,∀x∈l,0<=x/\x<(m:Int))(x:Int)(h0:0<=x):gb (lD (List.replicate m false) F.flatten) x=decide (∃l∈F,x∈l):=by
 rw[ao8 _ _ (λv hv=>by
  obtain⟨l,hl,hx⟩:=List.mem_flatten.1 hv;rw[List.length_replicate];exact h l hl v hx) x h0,Vq,Bool.false_or]
 exact kl.2 (by rw[List.mem_flatten])
def pV(m:Nat):List Bool:=List.replicate m false
theorem ao6(m:Nat)(vs:ah):(lD (pV m) vs).length=m:=by rw[ao9];simp[pV]
theorem an9{m:Nat}{F:ag}(h:∀l∈F,∀x∈l,0<=x/\x<(m:Int)):¬(false∈lD (pV m) F.flatten)↔∀x:Int,0<=x->x<(m:Int)->∃l∈F,x∈l:=by
 have hl:=ao6 m F.flatten;have hg:=λ(x:Int)(h0:0<=x)=>ao7 h x h0
 constructor
 ·intro hn x h0 h1;apply qi;intro hc;have h2:gb (lD (pV m) F.flatten) x=false:=(hg x h0).trans (db hc);apply hn;have h3:x.toNat<(lD (pV m) F.flatten).length:=by omega
  rw[<-h2,gb,b5,fL h3];exact dt _
 intro ha hm;obtain⟨k,hk,e⟩:=fS.1 hm;have h2:=hg (k:Int) ac;rw[dB (ha (k:Int) (by omega) (by omega))]at h2;have h3:gb (lD (pV m) F.flatten) k=(lD (pV m) F.flatten)[k]:=by simp[gb,b5,hk]
 have h4:gb (lD (pV m) F.flatten) k=true:=h2;rw[h3,e]at h4;cases h4
theorem acq(A:ai)(n c:Nat)(xs:List Bool)(v:Bool)(w:aa)(hR:ve w A n xs)(hn:n<=9223372036854775807):
 aF prog 149 [.slice A n c,.bool v] w (λr w'=>(∃i:Int,r=aj i/\(0<=i↔v∈xs))/\w'=w):=by
 have cT:=hR.1;refine bn func149 O ntmps149 O (bM O) ?_;refine aY O (aR O O (ay O ?_));refine Cd.loop (α:=Nat) (λk=>[(0,.slice A n c),(1,.bool v),(7,aj n),(8,aj k)]) (λk w'=>w'=w/\k<=n/\∀j:Nat,j<k->gb xs j≠v) (λk=>n-k) 0 (auV O) ⟨O,bl _,λj hj=>by omega⟩ ?_;rintro k e w ⟨rfl,hk,hK⟩;refine bC O (aK _ O (λh3=>?_) (λh3=>?_))
 ·have hg:gb xs k=xs[k]' ac:=by simp[gb,b5,show k<xs.length by omega]
  refine aC O (aA hR.2 O (rj hR O ac O O (acP O O O (ay O ?_))));refine Cd.cond O (λh4=>?_) (λh4=>?_)
  ·refine dE O (fz (fe ?_));refine gj O ?_;have h4:v=gb xs k:=by simpa using h4
   exact⟨⟨(k:Int),O,⟨λ_=>by rw[h4,hg];exact dt _,λ_=>by omega⟩⟩,O⟩
  refine aC O (aJ O (aN O (tQ ?_)));have h4:¬v=gb xs k:=by simpa using h4
  refine⟨k+1,by show n-(k+1)<n-k;omega,(auV O),O,ac,λj hj=>?_⟩
  by_cases ej:j=k
  ·subst ej;exact λh=>h4 h.symm
  exact hK j ac
 refine ba O (bc (ew O ?_));refine gj O ⟨⟨-1,O,⟨λh=>absurd h am,λh=>?_⟩⟩,O⟩;obtain⟨j,hj,GV⟩:=fS.1 h;exact absurd (by simpa[gb,b5,hj]using GV) (hK j ac)
theorem Mn(A:ai)(n c:Nat)(xs:List Bool)(v:Bool)(w:aa)(hR:ve w A n xs)(hn:n<=9223372036854775807):
 aF prog 103 [.slice A n c,.bool v] w (λr w'=>r=.bool (decide (v∈xs))/\w'=w):=by
 refine bn func103 O ntmps103 O (bM O) (aY O (aI (acq A n c xs v _ hR hn) O ?_));rintro _ w ⟨⟨i,rfl,hi⟩,rfl⟩;refine bR O (cK O ?_);exact⟨aQ Value.bool (kl.2 hi),O⟩
theorem ac1{w:aa}{A:ai}{n:Nat}{f:Nat->ab}(h:Rd w A n f)(hn:0<n):A.isNone=false:=by
 obtain⟨p,hp,_⟩:=h 0 hn;cases A with
 |none=>simp[aH]at hp
 |some q=>rfl
instance (l:ah):Decidable (SA l):=by unfold SA;exact inferInstance
instance (l:ag):Decidable (SL l):=by unfold SL;exact inferInstance
instance (V:Int)(F:ag):Decidable (gm V F):=decidable_of_iff ((0<=V/\V<=60)/\F.length<=400/\(∀l∈F,(1<=l.length/\l.length<=6)/\SA l/\∀x∈l,0<=x/\x<V)/\SL F/\(∀k,k<V.toNat->∃l∈F,(k:Int)∈l)/\∀l∈F,∀m∈F,Ins l m->m=l)
 ⟨λ⟨a,b,c,d,e,f⟩=>⟨a,b,c,d,λx h0 h1=>by
  have:=e x.toNat ac
  rwa[Int.toNat_of_nonneg h0]at this,f⟩,λh=>⟨h.v,h.f,h.row,h.ord,λk hk=>h.all k ac ac,h.top⟩⟩
structure xO(V:Int)(F:ag)(k:Nat):Prop where
 row:∀l∈F.take k,(1<=l.length/\l.length<=6)/\SA l/\∀x∈l,0<=x/\x<V
 ord:SL (F.take k)
theorem xO.zero(V:Int)(F:ag):xO V F 0:=⟨by simp,by simp[SL]⟩
theorem xO.step{V:Int}{F:ag}{k:Nat}(h:xO V F k)(hk:k<F.length)(h1:(1<=(gl F k).length/\(gl F k).length<=6)/\SA (gl F k)/\∀x∈gl F k,0<=x/\x<V)(h2:k=0\/LT (gl F ((k:Int)-1)) (gl F k)):xO V F (k+1):=by
 refine⟨?_,?_⟩
 ·rw[nV hk];intro l hl;rcases dF.1 hl with hl|hl
  ·exact h.row l hl
  obtain rfl:l=gl F k:=by simpa using hl
  exact h1
 unfold SL;rw[nV hk,List.pairwise_append];refine⟨h.ord,by simp,λa ha b hb=>?_⟩;obtain rfl:b=gl F k:=by simpa using hb
 rcases h2 with h2|h2
 ·subst h2;simp at ha
 obtain⟨j,hj,rfl⟩:=fS.1 ha;have wR:j<k:=by have:=hj;simp at this;omega
 by_cases e:j=k-1
 ·subst e;have e2:(k:Int)-1=((k-1:Nat):Int):=by omega
  rw[e2,df (by omega)]at h2;simpa using h2
 have e2:(k:Int)-1=((k-1:Nat):Int):=by omega
 rw[e2,df (by omega)]at h2;have h3:=List.pairwise_iff_getElem.1 h.ord j (k-1) hj (by simp;omega) ac;refine LT.trans h3 ?_;simpa using h2
theorem gm.at_{V:Int}{F:ag}(h:gm V F){k:Nat}(hk:k<F.length):(1<=(gl F k).length/\(gl F k).length<=6)/\SA (gl F k)/\∀x∈gl F k,0<=x/\x<V:=h.row _ (by rw[df hk];exact dt _)
theorem gm.lt{V:Int}{F:ag}(h:gm V F){k:Nat}(h0:0<k)(hk:k<F.length):LT (gl F ((k:Int)-1)) (gl F k):=by
 rw[show(k:Int)-1=((k-1:Nat):Int) by omega,df hk,df (by omega)];exact List.pairwise_iff_getElem.1 h.ord (k-1) k ac hk ac
theorem xO.all{V:Int}{F:ag}(h:xO V F F.length):(∀l∈F,(1<=l.length/\l.length<=6)/\SA l/\∀x∈l,0<=x/\x<V)/\SL F:=by
 have h1:=h.row;have h2:=h.ord;rw[List.take_length]at h1 h2;exact⟨h1,h2⟩
theorem SA.snoc{l:ah}{k:Nat}(h:SA (l.take k))(hk:k<l.length)(h2:k=0\/gi l ((k:Int)-1)<gi l k):SA (l.take (k+1)):=by
 unfold SA;rw[lG hk,List.pairwise_append];refine⟨h,by simp,λa ha b hb=>?_⟩;obtain rfl:b=gi l k:=by simpa using hb
 rcases h2 with h2|h2
 ·subst h2;simp at ha
 obtain⟨j,hj,rfl⟩:=fS.1 ha;have wR:j<k:=by have:=hj;simp at this;omega
 rw[show(k:Int)-1=((k-1:Nat):Int) by omega]at h2
 by_cases e:j=k-1
 ·subst e;rw[b7 (by omega)]at h2;simpa using h2
 have h3:=List.pairwise_iff_getElem.1 h j (k-1) hj (by simp;omega) ac;rw[b7 (by omega)]at h2;have h4:(l.take k)[j]<l[k-1]:=by simpa using h3
 omega
theorem SA.step{l:ah}(h:SA l){k:Nat}(h0:0<k)(hk:k<l.length):gi l ((k:Int)-1)<gi l k:=by
 rw[show(k:Int)-1=((k-1:Nat):Int) by omega];exact h.lt ac hk
theorem anb(A:ai)(n c:Nat)(a:ah)(A':ai)(n' c':Nat)(b:ah)(w:aa)(hA:bu w A n a)(hB:bu w A' n' b)(hn:n<=9223372036854775807)(tj:n'<=9223372036854775807):
 aF prog 91 [.slice A n c,.slice A' n' c'] w (λv w'=>v=.bool (decide (Ins a b))/\w'=w):=by
 have kD:=hA.1;refine bn func91 O ntmps91 O (bM O) (bC O ?_);refine Cd.loop (α:=Nat) (λk=>[(0,.slice A n c),(1,.slice A' n' c'),(5,aj k)]) (λk w'=>w'=w/\k<=n/\Ins (a.take k) b) (λk=>n-k) 0 (auV O) ⟨O,bl _,by simp[Ins]⟩ ?_;rintro k e w ⟨rfl,hk,hP⟩;refine aY O (aR O O (ay O ?_));refine aK _ O (λh1=>?_) (λh1=>?_)
 ·have Ew:k<a.length:=by omega
  have cE:gi a k∈a:=by rw[b7 Ew];exact dt _
  refine aC O (aA hA.2 O (bg hA O (aI (uy _ _ _ _ _ _ hB tj) O ?_)));rintro _ _ ⟨rfl,rfl⟩
  first|refine cO rfl rfl ?_|refine dv rfl rfl ?_
  refine ay O (aK _ O (λh2=>?_) (λh2=>?_))
  ·refine dE O (fz (fe ?_));refine cK O ?_;exact⟨by rw[db (λh:Ins a b=>h2 (h _ cE))],O⟩
  refine aC O (aJ O (aN O (tQ ?_)));refine⟨k+1,by show n-(k+1)<n-k;omega,(auV O),O,ac,?_⟩;rw[lG Ew];intro x hx;rcases dF.1 hx with hx|hx
  ·exact hP x hx
  obtain rfl:x=gi a k:=by simpa using hx
  exact kW.1 h2
 refine ba O (bc (ew O ?_));refine cK O ?_;rw[jw (by omega)]at hP;exact⟨by rw[dB hP],O⟩
def Tt(most:Int)(l:ah):Prop:=SA l/\∀x∈l,0<=x/\x<=most
instance (most:Int)(l:ah):Decidable (Tt most l):=by unfold Tt;exact inferInstance
theorem fu.drop{w:aa}{A:ai}{n c l:Nat}{xs:List aE}(hR:fu w A n xs)(hl:l<=n)(hc:n<=c):fu w (cutAt A c l) (n-l) (xs.drop l):=by
 have h:=hR.cut hl (cJ n) hc
 rwa[jw (by rw[List.length_drop,hR.1];exact cJ _)]at h
theorem fu.take{w:aa}{A:ai}{n l:Nat}{xs:List aE}(hR:fu w A n xs)(hl:l<=n):fu w A l (xs.take l):=
 ⟨by rw[jG,hR.1];omega,λk hk=>by
  obtain⟨p,hp,hc⟩:=hR.2 k ac;refine⟨p,hp,?_⟩;rw[hc];simp[b5,qk,hk]⟩
theorem amw(A:ai)(n c:Nat)(xs:ah)(v:Int)(w:aa)(hR:bu w A n xs)(hn:n<=9223372036854775807)(hs:SA xs)(hv:v∈xs):
 aF prog 93 [.slice A n c,aj v] w (λr w'=>r=aj (ix xs v)/\w'=w):=by
 have cT:=hR.1;refine bn func93 O ntmps93 O (bM O) (bC O ?_);refine Cd.loop (α:=Nat) (λk=>[(0,.slice A n c),(1,aj v),(5,aj k)]) (λk w'=>w'=w/\k<=n/\∀j,j<k->gi xs (j:Nat)≠v) (λk=>n-k) 0 (auV O) ⟨O,bl _,λj hj=>by omega⟩ ?_;rintro k e w ⟨rfl,hk,hK⟩;refine aY O (aR O O (ay O ?_));refine aK _ O (λh3=>?_) (λh3=>?_)
 ·refine aC O (aA hR.2 O (bg hR O (ay O ?_)));refine aK _ O (λh4=>?_) (λh4=>?_)
  ·refine dE O (fz (fe ?_));refine gj O ?_;exact⟨by rw[<-h4,Y6 hs (by omega)],O⟩
  refine aC O (aJ O (aN O (tQ ?_)));refine⟨k+1,by show n-(k+1)<n-k;omega,(auV O),O,ac,λj hj=>?_⟩
  by_cases ej:j=k
  ·subst ej;exact h4
  exact hK j ac
 obtain⟨j,hj,GV⟩:=fS.1 hv;exact absurd (by rw[b7 hj];exact GV) (hK j ac)
def Dl(rs:List aE)(xss:ag)(s:aE)(x:ah):List aE:=if x∈xss then rs else rs.take (gX x xss)++s::rs.drop (gX x xss)
theorem rY.jk{w:aa}{n:Nat}{rs:List aE}{xss:ag}(h:rY w n rs xss){s:aE}{x:ah}(hs:bu w s.a s.n x)(hc:s.n<=s.c/\s.c<=maxLen):rY w (jk xss x).length (Dl rs xss s x) (jk xss x):=by
 have bT:=h.rl;have cT:=h.len;have hle:=IQ x xss;unfold Vc.jk Dl
 split
 ·rw[cT];exact h
 have get:∀j,(rs.take (gX x xss)++s::rs.drop (gX x xss)).getD j bI=(if j<gX x xss then rs.getD j bI else if j=gX x xss then s else rs.getD (j-1) bI)/\(xss.take (gX x xss)++x::xss.drop (gX x xss)).getD j []=(if j<gX x xss then xss.getD j []else if j=gX x xss then x else xss.getD (j-1) []):=λj=>by
  have h1:(rs.take (gX x xss)).length=gX x xss:=by rw[jG];omega
  have h2:(xss.take (gX x xss)).length=gX x xss:=by rw[jG];omega
  simp only[b5,List.getElem?_append,h1,h2]
  by_cases e:j<gX x xss
  ·simp[e,qk]
  rw[aD e,aD e,aD e,aD e]
  by_cases e2:j=gX x xss
  ·subst e2;simp
  rw[aD e2,aD e2,show j-gX x xss=(j-1-gX x xss)+1 by omega,List.getElem?_cons_succ,List.getElem?_cons_succ,List.getElem?_drop,List.getElem?_drop,show gX x xss+(j-1-gX x xss)=j-1 by omega];exact⟨O,O⟩
 have hlen:(xss.take (gX x xss)++x::xss.drop (gX x xss)).length=n+1:=by simp;omega
 refine⟨by rw[hlen];simp;omega,O,λj hj=>?_,λj hj=>?_⟩
 ·rw[hlen]at hj;rw[(get j).1,(get j).2]
  by_cases e:j<gX x xss
  ·rw[aG e,aG e];exact h.row j ac
  rw[aD e,aD e]
  by_cases e2:j=gX x xss
  ·rw[aG e2,aG e2];exact hs
  rw[aD e2,aD e2];exact h.row (j-1) ac
 rw[hlen]at hj;rw[(get j).1]
 by_cases e:j<gX x xss
 ·rw[aG e];exact h.cap j ac
 rw[aD e]
 by_cases e2:j=gX x xss
 ·rw[aG e2];exact hc
 rw[aD e2];exact h.cap (j-1) ac
theorem ana(A:ai)(n c:Nat)(rs:List aE)(xss:ag)(B:ai)(m d:Nat)(x:ah)(w:aa)(hR:bH w A n rs xss)(hc:n<=c)(hB:bu w B m x)(hm:m<=9223372036854775807)(hn:n<=1000000000)(hs:SL xss):
 aF prog 90 [.slice A n c,.slice B m d] w (λv w'=>∃A' c',v=.slice A' (jk xss x).length c'/\(jk xss x).length<=c'/\Below w.heap.size w w'/\((A'=A/\c'=c/\x∈xss)\/(¬x∈xss/\St w w' [aX 27 A' (jk xss x).length c' (Dl rs xss ⟨B,m,d⟩ x)]))):=by
 have cT:=hR.len;have ov:=hB.1;refine bn func90 O ntmps90 O (bM O) ?_;refine aY O (aR O O (ay O ?_));refine Cd.loop (α:=Nat×Nat) (λz=>[(0,.slice A n c),(1,.slice B m d),(5,aj (z.1:Int)),(6,aj (z.2:Int))]) (λz w'=>St w w' []/\z.1<=z.2/\z.2<=n/\(∀j (hj:j<xss.length),j<z.1->LT xss[j] x)/\∀j (hj:j<xss.length),z.2<=j->¬LT xss[j] x) (λz=>z.2-z.1) (0,n) ⟨O,O,O,O,trivial⟩ ⟨St.refl w,Nat.zero_le _,Nat.le_refl _,λj hj h=>by dsimp only at h;omega,λj hj h=>by dsimp only at h;omega⟩ ?_;rintro⟨lo,hi⟩ e w1 ⟨hS,yz,Xg,dH,pJ⟩;dsimp only at yz Xg dH pJ|-;refine bC O (aK _ O (λh1=>?_) (λh1=>?_))
 ·refine aC O (aJ O ?_);refine ak.quo O O O ac ?_;rw[show((lo:Int)+(hi:Int)) / 2=(((lo+hi) / 2:Nat):Int) by omega];have aj7:lo<=(lo+hi) / 2:=by omega
  have hmid2:(lo+hi) / 2<hi:=by omega
  generalize (lo+hi) / 2=q at*;have hM:=hS.bU hR;have br:=hM.at_ (i:=(q:Int)) ac ac;have gu:=hM.cap_ (i:=(q:Int)) ac ac;have bT:=br.1;refine aq O (aA hM.top.2 O (bw hM.top O (aq O (aI (amy _ _ _ _ _ _ _ _ _ br (hS.dq hB) ac) O ?_))));rintro _ w2 ⟨rfl,aw⟩;refine ay O ?_;have yr:gl xss q=xss[q]' ac:=df ac;refine aK _ O (λh2=>?_) (λh2=>?_)
  ·rw[yr]at h2;refine aC O (aJ O (aN O (tQ ?_)));refine⟨(q+1,hi),by show hi-(q+1)<hi-lo;omega,(auV O),hS.ao aw.below,by show q+1<=hi;omega,Xg,λj hj h=>?_,pJ⟩;have h:j<q+1:=h
   by_cases e:j=q
   ·subst e;exact h2
   exact(List.pairwise_iff_getElem.1 hs j q hj ac ac).trans h2
  rw[yr]at h2;refine jE O (tQ ?_);refine⟨(lo,q),by show q-lo<hi-lo;omega,(auV O),hS.ao aw.below,aj7,by show q<=n;omega,dH,λj hj h=>?_⟩;have h:q<=j:=h
  by_cases e:j=q
  ·subst e;exact h2
  exact λh3=>h2 ((List.pairwise_iff_getElem.1 hs q j ac hj ac).trans h3)
 have e:lo=hi:=by omega
 subst e;have jQ:gX x xss=lo:=adH hs ac dH pJ;have fI:(∀h:lo<xss.length,xss[lo]≠x)->¬x∈xss:=λh hx=>by
  obtain⟨j,hj,rfl⟩:=fS.1 hx;rcases Nat.lt_trichotomy j lo with h2|h2|h2
  ·exact(dH j hj h2).irrefl
  ·subst h2;exact h hj rfl
  exact pJ lo ac (cJ _) (List.pairwise_iff_getElem.1 hs lo j ac hj h2)
 refine ba O (bc (bY O (aR O O (aq O ?_))));refine b9 31 O (λh2=>?_) (λh2=>?_)
 ·have hM:=hS.bU hR;have br:=hM.at_ (i:=(lo:Int)) ac ac;have gu:=hM.cap_ (i:=(lo:Int)) ac ac;have bT:=br.1;have yr:gl xss lo=xss[lo]' ac:=df ac;refine ar O (aq O (ar O (aq O (ar O ?_))));refine aA hM.top.2 O (ar O (bw hM.top O ?_));refine ar O (aq O (ar O ?_));refine aI (amC _ _ _ _ _ _ _ _ _ br (hS.dq hB) ac) O ?_;rintro _ w2 ⟨rfl,aw⟩;have hS:=hS.ao aw.below;refine ay O (aK _ O (λh3=>?_) (λh3=>?_))
  ·have hx:x∈xss:=by rw[<-h3,yr];exact dt _
   have e:jk xss x=xss:=by unfold jk;rw[if_pos hx]
   refine dE O (dV O ?_);exact⟨A,c,by rw[e,cT],by rw[e,cT];exact hc,hS.below,.inl ⟨O,O,hx⟩⟩
  have eZ:¬x∈xss:=fI λ_ h=>h3 (by rw[yr];exact h)
  have rJ:jk xss x=xss.take lo++x::xss.drop lo:=by unfold jk;rw[if_neg eZ,jQ]
  have P8:Dl rs xss ⟨B,m,d⟩ x=rs.take lo++⟨B,m,d⟩::rs.drop lo:=by unfold Dl;rw[if_neg eZ,jQ]
  refine aC O (jW hS O O O ?_);intro A7 w7 bp;refine aq O (uY O O O ac (iT 0 bp O ((bp.pc hR.top).drop (l:=lo) ac hc) O O O ac ac O ?_));intro A8 c8 w8 bB;refine aq O (jy bB O ?_);intro A9 w9 bj;have bj:St w w9 (aX 27 A9 0 0 []::aX 27 A8 (1+(n-lo)) c8 ([⟨B,m,d⟩]++rs.drop lo)::[]):=bj;refine aq O (rW O O O ac (iT 0 bj O ((bj.pc hR.top).take (l:=lo) ac) O O O ac ac O ?_));intro fC kA dJ cQ;refine aq O (iT 0 cQ O (cQ.dm 1 O) O O O ac ac O ?_);intro eP iW eO dA;refine bR O (dV O ?_);have dA:St w eO (aX 27 eP (0+lo+(1+(n-lo))) iW (([]++rs.take lo)++([⟨B,m,d⟩]++rs.drop lo))::aX 27 A8 (1+(n-lo)) c8 ([⟨B,m,d⟩]++rs.drop lo)::[]):=dA;have dz:=dA.sub (List.Sublist.cons_cons _ (List.nil_sublist _));rw[List.nil_append,List.singleton_append,<-P8]at dz;have oy:(jk xss x).length=0+lo+(1+(n-lo)):=by rw[rJ];simp;omega
  exact⟨eP,iW,by rw[oy],by have:=dz.cap 0 O;rw[oy];exact this.1,dz.below,.inr ⟨eZ,by rw[oy];exact dz⟩⟩
 have eZ:¬x∈xss:=fI λh=>by omega
 refine aB O (aB O (aB O (aB O (aB O (aB O (ay O ?_))))));refine Cd.cX O ?_;have rJ:jk xss x=xss.take lo++x::xss.drop lo:=by unfold jk;rw[if_neg eZ,jQ]
 have P8:Dl rs xss ⟨B,m,d⟩ x=rs.take lo++⟨B,m,d⟩::rs.drop lo:=by unfold Dl;rw[if_neg eZ,jQ]
 refine aC O (jW hS O O O ?_);intro A7 w7 bp;refine aq O (uY O O O ac (iT 0 bp O ((bp.pc hR.top).drop (l:=lo) ac hc) O O O ac ac O ?_));intro A8 c8 w8 bB;refine aq O (jy bB O ?_);intro A9 w9 bj;have bj:St w w9 (aX 27 A9 0 0 []::aX 27 A8 (1+(n-lo)) c8 ([⟨B,m,d⟩]++rs.drop lo)::[]):=bj;refine aq O (rW O O O ac (iT 0 bj O ((bj.pc hR.top).take (l:=lo) ac) O O O ac ac O ?_));intro fC kA dJ cQ;refine aq O (iT 0 cQ O (cQ.dm 1 O) O O O ac ac O ?_);intro eP iW eO dA;refine bR O (dV O ?_);have dA:St w eO (aX 27 eP (0+lo+(1+(n-lo))) iW (([]++rs.take lo)++([⟨B,m,d⟩]++rs.drop lo))::aX 27 A8 (1+(n-lo)) c8 ([⟨B,m,d⟩]++rs.drop lo)::[]):=dA;have dz:=dA.sub (List.Sublist.cons_cons _ (List.nil_sublist _));rw[List.nil_append,List.singleton_append,<-P8]at dz;have oy:(jk xss x).length=0+lo+(1+(n-lo)):=by rw[rJ];simp;omega
 exact⟨eP,iW,by rw[oy],by have:=dz.cap 0 O;rw[oy];exact this.1,dz.below,.inr ⟨eZ,by rw[oy];exact dz⟩⟩
section
variable {P:Program}{N:Nat}{ops:Array Oper}{K:Env->aa->Prop}{rest:List Oper}{e:Env}{w0 w w':aa}{ks:List Ck}{d:Nat}{ty:ad}{pos:String}{af:Array Edge}
theorem Tf{t:ad}{f0 f1:Field}{z0 z1 y0 y1:ab}{b b0 b1:Nat}[bJ P t (.struct #[f0,f1])][bL P t (.agg #[z0,z1]) 2 b]{x0:ae}{v0:ab}(oY:bL P f0.type y0 1 b0)(nJ:bL P f1.type y1 1 b1)(ho:f0.offset=0)(qH:f1.offset=1)(h0:ev e x0=v0)(c0:v0.oneCell'=true)(hb:Nat.blt d N=true)(hK:ak P N ops K rest (bE e d (.agg #[v0,z1])) w):ak P N ops K (⟨some d,.build t #[(0,x0)],ty,pos,af,none⟩::rest) e w:=by
 obtain⟨inf,hi,eN,hs,iI⟩:=bL.get P t;obtain⟨yX,eU,_,l7,_⟩:=oY.get P f0.type;obtain⟨Bs,kP,_,pR,_⟩:=nJ.get P f1.type;have e0:v0.cells= #[v0]:=by cases v0<;>simp[Value.oneCell']at c0<;>rfl
 have ez:(Value.agg #[z0,z1]).cells= #[z0,z1]:=O;refine .val (w':=w) ?_ hb hK;simp[execOp,Instr.build,run_underlying (bJ.out (P:=P) (t:=t)),sizeOf,typeInfo,zeroValue,hi,eN,eU,l7,kP,pR,ho,qH,h0,e0,ez,Instr.fill]
end
theorem apl(l:ag)(x:ah):(jk l x).length<=l.length+1:=by
 have:=IQ x l;unfold jk
 split
 ·omega
 simp;omega
theorem NI:∀(ls l:ag),(ls.foldl jk l).length<=l.length+ls.length
 |[],l=>by simp
 |a::r,l=>by
  have h1:=NI r (jk l a);have h2:=apl l a;rw[List.foldl_cons];simp only[List.length_cons];omega
theorem aaD(ls:ag):(kI ls).length<=ls.length:=by
 have h1:=NI (ls.filter λl=>decide (l≠[])) [];have h2:=lJ (λl=>decide (l≠[])) ls;unfold kI;simp only[List.length_nil]at h1;omega
theorem apn{ls:ag}{i:Nat}(h:i<ls.length):kI (ls.take (i+1))=if gl ls i≠[]then jk (kI (ls.take i)) (gl ls i)else kI (ls.take i):=by
 unfold kI;rw[nV h,mN,List.foldl_append]
 by_cases e:gl ls i=[]<;>simp[e]
def Fj(x:ah)(T:ag):Prop:=∀y∈T,Ins x y->y=x
instance (x:ah)(T:ag):Decidable (Fj x T):=by unfold Fj;exact inferInstance
def BL(S:ag)(x:ah):Bool:=decide (∀y∈S,Ins x y->y=x)
def gA(S:ag)(i:Nat):ag:=(S.take i).filter (BL S)
theorem agr{S:ag}{i:Nat}(h:i<S.length):gA S (i+1)=if BL S (gl S i)=true then gA S i++[gl S i]else gA S i:=by
 unfold gA;rw[nV h,mN]
 by_cases e:BL S (gl S i)=true<;>simp[e]
theorem agq(S:ag)(i:Nat):(gA S i).length<=S.length:=by
 have h1:=lJ (BL S) (S.take i);unfold gA;have:(S.take i).length<=S.length:=by simp;omega
 omega
theorem UR(S:ag):gA S S.length=S.filter (BL S):=by unfold gA;rw[List.take_length]
theorem rY.snoc{w:aa}{n:Nat}{rs:List aE}{xss:ag}(h:rY w n rs xss){s:aE}{x:ah}(hs:bu w s.a s.n x)(hc:s.n<=s.c/\s.c<=maxLen):rY w (n+1) (rs++[s]) (xss++[x]):=by
 have bT:=h.rl;have cT:=h.len;have get:∀j,j<n+1->(rs++[s]).getD j bI=(if j=n then s else rs.getD j bI)/\(xss++[x]).getD j []=if j=n then x else xss.getD j []:=λj hj=>by
  simp only[b5,List.getElem?_append,bT,cT]
  by_cases e:j=n
  ·subst e;simp
  have:j<n:=by omega
  simp[e,this]
 refine⟨by simp;omega,by simp;omega,λj hj=>?_,λj hj=>?_⟩
 ·rw[(get j hj).1,(get j hj).2]
  by_cases e:j=n
  ·rw[aG e,aG e];exact hs
  rw[aD e,aD e];exact h.row j ac
 rw[(get j hj).1]
 by_cases e:j=n
 ·rw[aG e];exact hc
 rw[aD e];exact h.cap j ac
theorem afn{l l':ah}(h:∀x∈l,x∈l'):(cs l).length<=l'.length:=
 je (Ins.len (vk l) (vk l') λx hx=>(x7 _ _).2 (h x ((x7 _ _).1 hx))) (Jg l')
abbrev iX(Ab:ai):Ck:=Bx 41 2 Ab [aj 0,.slice none 0 0]
theorem am9(A:ai)(n c:Nat)(rs:List aE)(ls:ag)(w:aa)(hR:bH w A n rs ls)(hn:n<=1000000)(fk:ls.flatten.length<=1000000)(tp:∀l∈ls,SA l):
 aF prog 40 [.slice A n c] w (Dy (B9 ls) (zT ls) (qo ls) w):=by
 have oz:ls.length=n:=hR.len;refine bn func40 O ntmps40 O (tw O O) (aY O (kM (St.refl w) O ?_));intro A2 w1 ax;refine aq O (jy ax O ?_);intro A4 w2 az;have az:St w w2 [aX 27 A4 (kI (ls.take 0)).length 0 [],iX A2]:=az;refine ay O ?_;refine Cd.loop (α:=Nat×(ai×Nat)×List aE) (λz=>[(0,.slice A n c),(2,.pointer A2),(4,.slice z.2.1.1 (kI (ls.take z.1)).length z.2.1.2),(5,aj (z.1:Int))]) (λz w'=>z.1<=n/\rY w (kI (ls.take z.1)).length z.2.2 (kI (ls.take z.1))/\St w w' [aX 27 z.2.1.1 (kI (ls.take z.1)).length z.2.1.2 z.2.2,iX A2]) (λz=>n-z.1) (0,(A4,0),[]) (auV O) ⟨bl _,⟨O,O,λi hi=>absurd hi (by simp[kI]),λi hi=>absurd hi (by simp[kI])⟩,az⟩ ?_;clear az ax;rintro⟨i,⟨A4,c4⟩,bZ⟩ e w2 ⟨hi,hW,az⟩;dsimp only at hi hW az|-;refine aY O (aR O O (ay O ?_));refine aK _ O (λh1=>?_) (λh1=>?_)
 ·have cE:i<ls.length:=by omega
  have hM:=az.bU hR;have akO:=hR.at_ (i:=(i:Int)) ac ac;have br:=hM.at_ (i:=(i:Int)) ac ac;have gu:=hM.cap_ (i:=(i:Int)) ac ac;have bT:=br.1;have EI:=apn cE;have hlen:=aaD (ls.take i);have ur:(ls.take i).length=i:=by simp;omega
  refine aC O (aA hM.top.2 O (bw hM.top O ?_));refine aR O O (ay O ?_);refine aK _ O (λh2=>?_) (λh2=>?_)
  ·have bN:gl ls i≠[]:=λe=>by rw[e]at bT;simp at bT;omega
   rw[aG bN]at EI;have aje:=az.cap 0 O;refine aC O (aA hM.top.2 O (bw hM.top O (aI (ana A4 _ c4 bZ (kI (ls.take i)) _ _ _ (gl ls i) _ ((hW.ao az.below).I (az.dm 0 O)) aje.1 br ac ac (Rx _)) O ?_)));rintro _ w3 ⟨A5,c5,rfl,hc5,kE,l5⟩;have CT:∃js,rY w (jk (kI (ls.take i)) (gl ls i)).length js (jk (kI (ls.take i)) (gl ls i))/\St w w3 [aX 27 A5 (jk (kI (ls.take i)) (gl ls i)).length c5 js,iX A2]:=by
    rcases l5 with⟨rfl,rfl,hx⟩|⟨hx,aw⟩
    ·have e:jk (kI (ls.take i)) (gl ls i)=kI (ls.take i):=by unfold jk;rw[if_pos hx]
     rw[e];exact⟨bZ,hW,az.ao kE⟩
    exact⟨_,hW.jk akO gu,(az.call aw).sub (List.Sublist.cons_cons _ (List.sublist_cons_self _ _))⟩
   obtain⟨js,WA,aO⟩:=CT;rw[<-EI]at WA aO|-;refine aq O (aJ O (aN O (tQ ?_)));exact⟨(i+1,(A5,c5),js),by show n-(i+1)<n-i;omega,(auV O),by show i+1<=n;omega,WA,aO⟩
  have he:gl ls i=[]:=iL ac;rw[aD (λh=>h he)]at EI;rw[<-EI]at hW az|-;refine aC O (aJ O (aN O (tQ ?_)));exact⟨(i+1,(A4,c4),bZ),by show n-(i+1)<n-i;omega,(auV O),by show i+1<=n;omega,hW,az⟩
 have cE:i=ls.length:=by omega
 rw[cE,List.take_length]at hW az|-;clear hi h1 cE;have hSL:=Rx ls;have hSln:=aaD ls;have J1:=λx=>Lv ls x
 have Em:mq ls=(kI ls).filter (BL (kI ls)):=O;have hcv:=afy tp;have aj0:=anC tp;generalize kI ls=S at*;have hSa:∀l∈S,SA l:=λl hl=>tp l ((J1 l).1 hl).1
 have hSne:∀l∈S,l≠[]:=λl hl=>((J1 l).1 hl).2
 have C3:∀l:ah,(∀x∈l,∃s∈S,x∈s)->(cs l).length<=1000000:=λl h=>je (afn (l':=ls.flatten) λx hx=>by
  obtain⟨s,hs,C7⟩:=h x hx;exact List.mem_flatten.2 ⟨s,((J1 s).1 hs).1,C7⟩) fk
 refine ba O (bc (bY O ?_));refine jy az O λA6 w3 aM=>jy aM O ?_;intro A7 w4 aU;have kF:cs (gA S 0).flatten=[]:=afm;have aU:St w w4 [av 2 A7 (cs (gA S 0).flatten).length 0 (cs (gA S 0).flatten),aX 27 A6 (gA S 0).length 0 [],aX 27 A4 S.length c4 bZ,iX A2]:=by rw[kF];exact aU
 refine ay O ?_;refine Cd.loop (α:=Nat×(ai×Nat)×List aE×(ai×Nat)) (λz=>[(2,.pointer A2),(4,.slice A4 S.length c4),(6,.slice z.2.1.1 (gA S z.1).length z.2.1.2),(7,.slice z.2.2.2.1 (cs (gA S z.1).flatten).length z.2.2.2.2),(8,aj (z.1:Int))]) (λz w'=>z.1<=S.length/\rY w (gA S z.1).length z.2.2.1 (gA S z.1)/\St w w' [av 2 z.2.2.2.1 (cs (gA S z.1).flatten).length z.2.2.2.2 (cs (gA S z.1).flatten),aX 27 z.2.1.1 (gA S z.1).length z.2.1.2 z.2.2.1,aX 27 A4 S.length c4 bZ,iX A2]) (λz=>S.length-z.1) (0,(A6,0),[],(A7,0)) ⟨O,O,O,by show Value.slice A7 0 0=.slice A7 (cs (gA S 0).flatten).length 0;rw[kF];rfl,O,au⟩ ⟨bl _,⟨O,O,λi hi=>absurd hi (by simp[gA]),λi hi=>absurd hi (by simp[gA])⟩,aU⟩ ?_;clear aU aM az;rintro⟨i,⟨A6,c6⟩,dI,A7,c7⟩ e w4 ⟨hi,Ap,aU⟩;dsimp only at hi Ap aU|-;refine aY O (aR O O (ay O ?_));refine aK _ O (λh1=>?_) (λh1=>?_)
 ·have yw:i<S.length:=by omega
  have hgS:gl S i∈S:=by rw[df yw];exact dt _
  have oC:=agr yw;have hfln:=agq S i;refine cM O ?_;refine Cd.loop (α:=Nat×Bool) (λz=>[(2,.pointer A2),(4,.slice A4 S.length c4),(6,.slice A6 (gA S i).length c6),(7,.slice A7 (cs (gA S i).flatten).length c7),(8,aj i),(9,.bool z.2),(10,aj (z.1:Int))]) (λz w'=>z.1<=S.length/\z.2=decide (Fj (gl S i) (S.take z.1))/\St w w' [av 2 A7 (cs (gA S i).flatten).length c7 (cs (gA S i).flatten),aX 27 A6 (gA S i).length c6 dI,aX 27 A4 S.length c4 bZ,iX A2]) (λz=>S.length-z.1) (0,true) (auV O) ⟨bl _,(dB (by simp[Fj])).symm,aU⟩ ?_;rintro⟨k,b⟩ e w5 ⟨hk,hb,aO⟩;dsimp only at hk hb aO|-;have wI:bH w5 A4 S.length bZ S:=(hW.ao aO.below).I (aO.dm 2 O);have jH:=wI.at_ (i:=(i:Int)) ac ac;have hci:=wI.cap_ (i:=(i:Int)) ac ac;have akH:=hW.row i yw;have aji:=hW.cap i yw;have hril:=jH.1;refine aY O (aR O O (aq O ?_));refine b9 47 O (λh2=>?_) (λh2=>?_)
  ·refine ar O (ay O ?_);cases CF:b
   ·
    refine Cd.cX O (ba O (bc (kX O ?_)));subst CF;have hnt:¬BL S (gl S i)=true:=λh=>by
     have h3:∀y∈S,Ins (gl S i) y->y=gl S i:=bX h;have:=of_decide_eq_false hb.symm;exact this λy hy=>h3 y (List.mem_of_mem_take hy)
    rw[aD hnt]at oC;rw[<-oC]at Ap aO|-;refine Cd.cX O (aC O (aJ O (aN O (tQ ?_))));exact⟨(i+1,(A6,c6),dI,(A7,c7)),by show S.length-(i+1)<S.length-i;omega,(auV O),by show i+1<=S.length;omega,Ap,aO⟩
   subst CF;have eA:=bX hb.symm;have Km:k<S.length:=by omega
   have e6:=wI.at_ (i:=(k:Int)) ac ac;have WU:=wI.cap_ (i:=(k:Int)) ac ac;have tk:decide ((i:Int)=(k:Int)\/¬Ins (gl S i) (gl S k))=decide (Fj (gl S i) (S.take (k+1))):=kl.2 (by
    unfold Fj;rw[nV Km];constructor
    ·intro h y hy YH;rcases dF.1 hy with hy|hy
     ·exact eA y hy YH
     obtain rfl:y=gl S k:=by simpa using hy
     rcases h with h|h
     ·rw[h]
     exact absurd YH h
    intro h
    by_cases cE:Ins (gl S i) (gl S k)
    ·left;have h3:=h _ (dF.2 (.inr (by simp))) cE;rw[df yw,df Km]at h3;rw[(List.getElem_inj hSL.nodup).1 h3]
    exact .inr cE)
   refine Cd.iw O (cM O ?_)
   by_cases h3:(i:Int)=(k:Int)
   ·
    refine ec [xI ((i:Int)),xI ((k:Int)),xB (decide (((i:Int))=((k:Int)))),xB (true),xU,xU,xU,xU,xU,xU,xU,xU,xU,xU,xB (true),xB (true)] O (eK O) ?_ ?_
    ·exact⟨Dr O,Dr O,Dr O,λ_ _ _ _ _=>Dk O (by exact aQ Value.bool (dB h3)),Dr O,Dr O,Dr O,Dr O,Dr O,Dr O,Dr O,Dr O,Dr O,Dr O,Dr O,Dr O,au⟩
    intro u w6 mZ _;refine gq O (aJ O (aN O (tQ ?_)));exact⟨(k+1,true),by show S.length-(k+1)<S.length-k;omega,(auV O),by show k+1<=S.length;omega,by rw[<-tk,dB (.inl h3)],aO.ao mZ⟩
   refine ec [xI ((i:Int)),xI ((k:Int)),xB (decide (((i:Int))=((k:Int)))),xB (false),xS (A4) (S.length) (c4),xI ((i:Int)),xP (aH (A4) ((i:Int)).toNat),xS ((rg (bZ) ((i:Int))).a) ((rg (bZ) ((i:Int))).n) ((rg (bZ) ((i:Int))).c),xS (A4) (S.length) (c4),xI ((k:Int)),xP (aH (A4) ((k:Int)).toNat),xS ((rg (bZ) ((k:Int))).a) ((rg (bZ) ((k:Int))).n) ((rg (bZ) ((k:Int))).c),xB (decide (Ins (gl S i) (gl S k))),xB (decide (¬(Ins (gl S i) (gl S k)))),xB (decide (¬(Ins (gl S i) (gl S k)))),xB (decide (¬(Ins (gl S i) (gl S k))))] O (eK O) ?_ ?_
   ·refine⟨Dr O,Dr O,Dr O,λ_ _ _ _ _=>Dk O (by exact aQ Value.bool (db h3)),Dr O,Dr O,λ_ _ hb _ _=>ar O (aA (wI.top.ao hb).2 O Az),λ_ _ hb _ _=>ar O (bw (wI.top.ao hb) O Az),Dr O,Dr O,λ_ _ hb _ _=>ar O (aA (wI.top.ao hb).2 O Az),λ_ _ hb _ _=>ar O (bw (wI.top.ao hb) O Az),?_,λ_ _ _ _ _=>ar O (cO O O Az),Dr O,Dr O,au⟩;intro e1 w1 hb hp aW;refine ar O (aI (anb _ _ _ _ _ _ _ _ _ (jH.ao hb) (e6.ao hb) ac ac) O ?_);rintro _ w2 ⟨rfl,aw⟩;subst aw;refine ak.n (d0 ap)
   intro u w6 mZ _;refine gq O (aJ O (aN O (tQ ?_)));exact⟨(k+1,decide (¬Ins (gl S i) (gl S k))),by show S.length-(k+1)<S.length-k;omega,(auV O),by show k+1<=S.length;omega,by rw[<-tk];exact kl.2 ⟨.inr,λh=>h.resolve_left h3⟩,aO.ao mZ⟩
  have Km:k=S.length:=by omega
  rw[Km,List.take_length]at hb;have hb:b=BL S (gl S i):=hb;refine aB O (ay O ?_);refine Cd.cX O (ba O (bc (kX O ?_)));refine Cd.cond O (λh3=>?_) (λh3=>?_)
  ·rw[<-hb,aG h3]at oC;refine aC O (aA wI.top.2 O (bw wI.top O (jW aO O O O ?_)));intro A9 w6 bk;refine iT 2 bk O (bk.dm 0 O) O O O ac ac O ?_;intro fC kA w7 bp;have bp:St w w7 [av 2 A7 (cs (gA S i).flatten).length c7 (cs (gA S i).flatten),aX 27 fC ((gA S i).length+1) kA (dI++[rg bZ i]),aX 27 A4 S.length c4 bZ,iX A2]:=bp.tail;have WB:=Ap.snoc (s:=rg bZ i) (x:=gl S i) akH aji;have vx:(gA S (i+1)).length=(gA S i).length+1:=by rw[oC];simp
   refine ay O ?_;refine Cd.loop (α:=Nat×(ai×Nat)) (λz=>[(2,.pointer A2),(4,.slice A4 S.length c4),(6,.slice fC ((gA S i).length+1) kA),(7,.slice z.2.1 (cs ((gA S i).flatten++(gl S i).take z.1)).length z.2.2),(8,aj i),(11,aj (z.1:Int))]) (λz w'=>z.1<=(gl S i).length/\St w w' [av 2 z.2.1 (cs ((gA S i).flatten++(gl S i).take z.1)).length z.2.2 (cs ((gA S i).flatten++(gl S i).take z.1)),aX 27 fC ((gA S i).length+1) kA (dI++[rg bZ i]),aX 27 A4 S.length c4 bZ,iX A2]) (λz=>(gl S i).length-z.1) (0,(A7,c7)) ⟨O,O,O,by show Value.slice A7 (cs (gA S i).flatten).length c7=.slice A7 (cs ((gA S i).flatten++(gl S i).take 0)).length c7;rw[List.take_zero,dQ],O,O,au⟩ ⟨bl _,by simpa using bp⟩ ?_;rintro⟨j,eP,iW⟩ e w8 ⟨hj,bB⟩;dsimp only at hj bB|-;have Gv:bH w8 A4 S.length bZ S:=(hW.ao bB.below).I (bB.dm 2 O);have Ya:=Gv.at_ (i:=(i:Int)) ac ac;refine aY O (aA Gv.top.2 O (bw Gv.top O ?_));refine aR O O (ay O ?_);refine aK _ O (λh4=>?_) (λh4=>?_)
   ·have gp:j<(gl S i).length:=by omega
    have Eo:cs (cs ((gA S i).flatten++(gl S i).take j)++[gi (gl S i) j])=cs ((gA S i).flatten++(gl S i).take (j+1)):=by rw[afl,lG gp,ef]
    have ajd:=bB.cap 0 O;have alb:=C3 ((gA S i).flatten++(gl S i).take j) (λx hx=>by
     rcases dF.1 hx with hx|hx
     ·obtain⟨l,hl,cT⟩:=List.mem_flatten.1 hx;exact⟨l,List.mem_of_mem_take (fM.1 hl).1,cT⟩
     exact⟨_,hgS,List.mem_of_mem_take hx⟩)
    refine aC O (aA Gv.top.2 O (bw Gv.top O (aq O (aA Ya.2 O (bg Ya O (aI (am8 eP _ iW _ (gi (gl S i) j) _ (bB.bF 0 O) ajd.1 alb (vk _)) O ?_))))));rintro _ w9 ⟨rT,c12,rfl,ov,l5⟩;have bj:=bB.alD (i:=0) O ov l5;rw[Eo]at bj|-;refine aq O (aJ O (aN O (tQ ?_)));exact⟨(j+1,(rT,c12)),by show(gl S i).length-(j+1)<(gl S i).length-j;omega,(auV O),by show j+1<=_;omega,bj⟩
   rw[show(gl S i).take j=gl S i from jw (by omega)]at bB|-;have Eo:(gA S i).flatten++gl S i=(gA S (i+1)).flatten:=by rw[oC];simp
   rw[Eo,<-vx]at bB;rw[<-oC,<-vx]at WB;rw[Eo,<-vx];refine ba O (bc (bY O (aJ O (aN O (tQ ?_)))));exact⟨(i+1,(fC,kA),dI++[rg bZ i],(eP,iW)),by show S.length-(i+1)<S.length-i;omega,(auV O),by show i+1<=S.length;omega,WB,bB⟩
  rw[<-hb,aD (by rw[h3];decide)]at oC;rw[<-oC]at Ap aO|-;refine aC O (aJ O (aN O (tQ ?_)));exact⟨(i+1,(A6,c6),dI,(A7,c7)),by show S.length-(i+1)<S.length-i;omega,(auV O),by show i+1<=S.length;omega,Ap,aO⟩
 have yw:i=S.length:=by omega
 rw[yw,UR,<-Em,hcv]at aU|-;rw[yw,UR,<-Em]at Ap;clear h1 hi yw J1;have lO:(mq ls).length<=1000000:=by rw[Em];exact je (lJ _ _) ac
 have V4:∀l∈mq ls,Ins l (tP ls):=λl hl=>afx (zU.1 hl).1
 have hFr:∀l∈mq ls,l.length<=1000000:=λl hl=>by
  have h1:=tp l (zU.1 hl).1;have h2:=Ins.len h1 (vk ls.flatten) (V4 l hl);have h3:=Jg ls.flatten;omega
 have hVl:(tP ls).length<=1000000:=je (Jg _) fk;have hVS:SA (tP ls):=vk _;generalize V3:mq ls=F at*;have ajm:Jj ls=F.map (List.map (ix (tP ls))):=by unfold Jj;rw[V3]
 generalize Wz:tP ls=Vs at*;have J9:sN ls↔((∃l∈F,6<l.length)\/60<Vs.length\/400<F.length):=by unfold sN;rw[V3,Wz,aj0]
 refine ba O (bc (bY O (aR O O ?_)));refine Tf aL aL O O O O O (kM aU O ?_);intro rT w5 aO;refine dU 2 0 aO O O O O O O O ?_;intro w6 bk;have bk:St w w6 ([Bx 41 2 rT [aj (Vs.length:Int),.slice none 0 0],av 2 A7 Vs.length c7 Vs,aX 27 A6 F.length c6 dI,iX A2,aX 27 none 0 0 []]++cC 2 [] (((F.take 0)).map (List.map (ix Vs)))):=by
  have h:=(bk.sub (List.Sublist.cons_cons _ (List.Sublist.cons_cons _ (List.Sublist.cons_cons _ (List.sublist_cons_self _ _))))).nil 27;refine h.perm ?_;exact gL (l₁:=[aX 27 none 0 0 []]) (l₂:=[_,_,_,_])
 refine ay O ?_;refine Cd.loop (α:=Nat×(ai×Nat)×List aE) (λz=>[(2,.pointer A2),(6,.slice A6 F.length c6),(7,.slice A7 Vs.length c7),(12,.pointer rT),(13,aj (z.1:Int))]) (λz w'=>z.1<=F.length/\(∀l∈F.take z.1,l.length<=6)/\z.2.2.length=z.1/\St w w' ([Bx 41 2 rT [aj (Vs.length:Int),.slice z.2.1.1 z.1 z.2.1.2],av 2 A7 Vs.length c7 Vs,aX 27 A6 F.length c6 dI,iX A2,aX 27 z.2.1.1 z.1 z.2.1.2 z.2.2]++cC 2 z.2.2 ((F.take z.1).map (List.map (ix Vs))))) (λz=>F.length-z.1) (0,(none,0),[]) (auV O) ⟨bl _,by simp,O,bk⟩ ?_;clear bk aO aU;rintro⟨k,⟨ig,kj⟩,sH⟩ e w6 ⟨hk,h6,Qd,bk⟩;dsimp only at hk h6 Qd bk|-;refine aY O (aR O O (ay O ?_));refine aK _ O (λh1=>?_) (λh1=>?_)
 ·have GW:k<F.length:=by omega
  have CJ:gl F k∈F:=by rw[df GW];exact dt _
  have kO:=hFr _ CJ;have hgv:=V4 _ CJ;refine aC O (jy bk O ?_);intro jn w7 bp;have bp:St w w7 (av 2 jn 0 0 []::([Bx 41 2 rT [aj (Vs.length:Int),.slice ig k kj],av 2 A7 Vs.length c7 Vs,aX 27 A6 F.length c6 dI,iX A2,aX 27 ig k kj sH]++cC 2 sH ((F.take k).map (List.map (ix Vs))))):=bp;refine ay O (Cd.loop (α:=Nat×(ai×Nat)) (λz=>[(2,.pointer A2),(6,.slice A6 F.length c6),(7,.slice A7 Vs.length c7),(12,.pointer rT),(13,aj k),(14,.slice z.2.1 z.1 z.2.2),(15,aj (z.1:Int))]) (λz w'=>z.1<=(gl F k).length/\St w w' (av 2 z.2.1 z.1 z.2.2 (((gl F k).take z.1).map (ix Vs))::([Bx 41 2 rT [aj (Vs.length:Int),.slice ig k kj],av 2 A7 Vs.length c7 Vs,aX 27 A6 F.length c6 dI,iX A2,aX 27 ig k kj sH]++cC 2 sH ((F.take k).map (List.map (ix Vs)))))) (λz=>(gl F k).length-z.1) (0,(jn,0)) (auV O) ⟨bl _,bp⟩ ?_);clear bp;rintro⟨j,jn,mT⟩ e w7 ⟨hj,bp⟩;dsimp only at hj bp|-;have Gk:bH w7 A6 F.length dI F:=(Ap.ao bp.below).I (bp.dm 3 O);have e6:=Gk.at_ (i:=(k:Int)) ac ac;have hrkl:=e6.1;refine aY O (aA Gk.top.2 O (bw Gk.top O ?_));refine aR O O (ay O ?_);refine aK _ O (λh2=>?_) (λh2=>?_)
  ·have gp:j<(gl F k).length:=by omega
   have YE:gi (gl F k) j∈Vs:=hgv _ (by rw[b7 gp];exact dt _);refine aC O (aA Gk.top.2 O (bw Gk.top O (aq O (aA e6.2 O (bg e6 O (aI (amw A7 Vs.length c7 Vs _ _ (bp.bF 2 O) ac hVS YE) O ?_))))));rintro _ _ ⟨rfl,rfl⟩;refine eh bp O O O λgK w8 bB=>eQ 1 bB O (bB.bF 0 O) O O O ?_;intro kV kZ w9 bj;have bj:=bj.tail;refine aq O (aJ O (aN O (tQ ?_)));refine⟨(j+1,(kV,kZ)),by show(gl F k).length-(j+1)<(gl F k).length-j;omega,(auV O),by show j+1<=_;omega,?_⟩;show St w w9 (av 2 kV (j+1) kZ (((gl F k).take (j+1)).map (ix Vs))::_);rw[lG gp,iE];exact bj
  have gp:j=(gl F k).length:=by omega
  rw[gp,List.take_length]at bp;rw[gp];refine ba O (bc (bY O (aR O O (ay O ?_))));refine aK _ O (λh3=>?_) (λh3=>?_)
  ·have hb:sN ls:=J9.2 (.inl ⟨_,CJ,ac⟩);unfold B9 zT qo;rw[aG hb,aG hb,aG hb];refine aC O (My aL aL O O O (dU 2 4 bp O O O O O O O ?_));intro w8 bB;refine bR O (fz (fe ?_));exact oI O (bB.rd 4 O) O (Dy.none bB)
  refine aC O (aS (bp.rd 1 O) O (a6 (bp.rd 1 O) O (aq O (jW bp O O O ?_))));intro gK w8 bB;refine iT 6 bB O (bB.dm 0 O) O O O ac ac O ?_;intro kV kZ w9 bj;have bj:St w w9 (av 2 jn (gl F k).length mT ((gl F k).map (ix Vs))::([Bx 41 2 rT [aj (Vs.length:Int),.slice ig k kj],av 2 A7 Vs.length c7 Vs,aX 27 A6 F.length c6 dI,iX A2,aX 27 kV (k+1) kZ (sH++[⟨jn,(gl F k).length,mT⟩])]++cC 2 sH ((F.take k).map (List.map (ix Vs))))):=bj.tail;refine aS (bj.rd 1 O) O (oR 1 bj O O O O O ?_);intro dJ cQ;have cQ:St w dJ (av 2 jn (gl F k).length mT ((gl F k).map (ix Vs))::([Bx 41 2 rT [aj (Vs.length:Int),.slice kV (k+1) kZ],av 2 A7 Vs.length c7 Vs,aX 27 A6 F.length c6 dI,iX A2,aX 27 kV (k+1) kZ (sH++[⟨jn,(gl F k).length,mT⟩])]++cC 2 sH ((F.take k).map (List.map (ix Vs))))):=cQ;refine aq O (aJ O (aN O (tQ ?_)));refine⟨(k+1,(kV,kZ),sH++[⟨jn,(gl F k).length,mT⟩]),by show F.length-(k+1)<F.length-k;omega,(auV O),by show k+1<=F.length;omega,?_,by show(sH++[_]).length=k+1;simp;omega,?_⟩
  ·show ∀l∈F.take (k+1),l.length<=6;rw[nV GW];intro l hl;rcases dF.1 hl with hl|hl
   ·exact h6 l hl
   obtain rfl:l=gl F k:=by simpa using hl
   omega
  show St w dJ ([Bx 41 2 rT [aj (Vs.length:Int),.slice kV (k+1) kZ],av 2 A7 Vs.length c7 Vs,aX 27 A6 F.length c6 dI,iX A2,aX 27 kV (k+1) kZ (sH++[⟨jn,(gl F k).length,mT⟩])]++cC 2 (sH++[⟨jn,(gl F k).length,mT⟩]) ((F.take (k+1)).map (List.map (ix Vs))));rw[nV GW,iE,tA (by rw[Qd];simp;omega),<-ef];exact cQ.perm (gL (l₁:=[av 2 jn (gl F k).length mT ((gl F k).map (ix Vs))]))
 have GW:k=F.length:=by omega
 subst GW;rw[List.take_length]at bk h6;refine ba O (bc (bY O (aR O O (aq O ?_))));refine b9 137 O (λh2=>?_) (λh2=>?_)
 ·have hb:sN ls:=J9.2 (.inr (.inl ac));unfold B9 zT qo;rw[aG hb,aG hb,aG hb];refine aB O (aB O (aB O (ay O ?_)));refine Cd.iw O (aC O (My aL aL O O O (dU 2 3 bk O O O O O O O ?_)));intro w8 bB;refine bR O (oI O (bB.rd 3 O) O ?_);exact Dy.none bB
 refine ar O (aq O (ar O (aR O O (ar O (ay O ?_)))));refine aK _ O (λh3=>?_) (λh3=>?_)
 ·have hb:sN ls:=J9.2 (.inr (.inr ac));unfold B9 zT qo;rw[aG hb,aG hb,aG hb];refine aC O (My aL aL O O O (dU 2 3 bk O O O O O O O ?_));intro w8 bB;refine bR O (oI O (bB.rd 3 O) O ?_);exact Dy.none bB
 have bD:¬sN ls:=λh=>by
  rcases J9.1 h with⟨l,hl,h⟩|h|h
  ·have:=h6 l hl;omega
  ·omega
  omega
 unfold B9 zT qo;rw[aD bD,aD bD,aD bD,ajm,Wz];refine aC O (cG 1 (bk.rd 0 O) O O O (dU 2 3 bk O O O O O O O ?_));intro w8 bB;have bj:St w w8 (aV 27 2 ig (F.map (List.map (ix Vs))).length kj sH (F.map (List.map (ix Vs)))++[]):=by
  rw[dQ,jd];exact bB.sub (List.Sublist.cons _ (List.Sublist.cons _ (List.Sublist.cons _ (List.sublist_cons_self _ _))))
 refine bR O (oI O (bB.rd 3 O) O ?_);exact⟨ig,kj,sH,by rw[jd];rfl,by rw[jd];exact Qd,bj⟩
end
section
variable{F l:ag}{b:Nat}
def oo(F:ag)(k:Nat):ag:=if k=0 then[[]]else F.flatMap λf=>dT f k
def eG(F:ag)(k:Nat):ag:=(oo F k).foldl jk []
theorem DT{k:Nat}{x:ah}:x∈oo F k↔(k=0/\x=[])\/(0<k/\∃f∈F,x.Sublist f/\x.length=k):=by
 unfold oo
 by_cases h:k=0
 ·simp[h]
 rw[aD h,List.mem_flatMap];simp only[oF];constructor
 ·rintro⟨f,h1,h2⟩;exact .inr ⟨ac,f,h1,h2⟩
 rintro(h'|⟨_,f,h1,h2⟩)
 ·exact absurd h'.1 h
 exact⟨f,h1,h2⟩
theorem UZ(F:ag)(k:Nat):SL (eG F k):=(F3 _ (by simp[SL])).1
theorem DV{k:Nat}{x:ah}:x∈eG F k↔x∈oo F k:=by
 rw[eG,(F3 _ (by simp[SL])).2];simp
theorem U0{k:Nat}(hs:SL l)(h:∀x,x∈l↔x∈oo F k):l=eG F k:=
 hs.eq (UZ F k) λx=>(h x).trans DV.symm
theorem agw(F:ag):eG F 0=[[]]:=(U0 (by simp[SL]) λx=>by simp[oo]).symm
theorem yc{k:Nat}{x:ah}(h:x∈eG F k):x.length=k:=by
 rcases DT.1 (DV.1 h)with⟨h1,h2⟩|⟨_,f,_,_,h2⟩
 ·rw[h1,h2];rfl
 exact h2
theorem NA(k:Nat)(h6:∀f∈F,f.length<=6):(oo F k).length<=64*F.length+1:=by
 unfold oo
 split
 ·simp
 ·suffices h:(F.flatMap λf=>dT f k).length<=64*F.length by omega
  induction F with
  |nil=>simp
  |cons a r ih=>
   have h1:=vO (l:=a) k (h6 a (by simp));have h2:=ih λf hf=>h6 f (by simp[hf])
   rw[List.flatMap_cons,cj,List.length_cons];omega
theorem Ce(k:Nat)(h6:∀f∈F,f.length<=6):(eG F k).length<=64*F.length+1:=by
 have h1:=NA k h6;have h2:(eG F k).length<=(oo F k).length:=by
  have:=NI (oo F k) [];simpa[eG]using this
 omega
def du(F:ag):Nat:=F.foldl (λd f=>max d f.length) 0
theorem Vk(F:ag):∀d:Nat,(∀f∈F,f.length<=F.foldl (λd f=>max d f.length) d)/\d<=F.foldl (λd f=>max d f.length) d/\(F.foldl (λd f=>max d f.length) d=d\/∃f∈F,f.length=F.foldl (λd f=>max d f.length) d):=by
 induction F with
 |nil=>intro d;simp
 |cons a r ih=>
  intro d;obtain⟨h1,h2,h3⟩:=ih (max d a.length);rw[List.foldl_cons];refine⟨λf hf=>?_,ac,?_⟩
  ·rcases gW.1 hf with rfl|hf
   ·omega
   ·exact h1 f hf
  ·rcases h3 with h3|⟨f,hf,h3⟩
   ·by_cases e:a.length<=d
    ·exact .inl ac
    ·exact .inr ⟨a,by simp,ac⟩
   ·exact .inr ⟨f,by simp[hf],h3⟩
theorem afI{f:ah}(h:f∈F):f.length<=du F:=(Vk F 0).1 f h
theorem FX(h:∀f∈F,f.length<=b):du F<=b:=by
 rcases(Vk F 0).2.2 with h1|⟨f,hf,h1⟩
 ·unfold du;omega
 have:=h f hf;unfold du;omega
theorem afJ{i:Nat}(h:i<F.length):du (F.take (i+1))=max (du (F.take i)) (gl F i).length:=by
 unfold du;rw[nV h,List.foldl_append];rfl
theorem agv{k:Nat}(h:du F<k):eG F k=[]:=by
 rw[List.eq_nil_iff_forall_not_mem];intro x hx;rcases DT.1 (DV.1 hx)with⟨h1,_⟩|⟨_,f,hf,h1,h2⟩
 ·omega
 have:=afI hf;have:=h1.length_le;omega
def iN(F:ag):ah:=(List.range (du F+1)).map λk=>((eG F k).length:Int)
theorem NS(F:ag):(iN F).length=du F+1:=by simp[iN]
theorem ahc(F:ag){k:Nat}(h:k<=du F):gi (iN F) k=((eG F k).length:Int):=by
 rw[b7 (by rw[NS];omega)];simp[iN]
end
section
open Go.RowKit
abbrev oV(Ab:ai)(V:Int)(A:ai)(n c:Nat):Ck:=Bx 41 2 Ab [aj V,.slice A n c]
theorem HA(V:Int)(A:ai)(n c:Nat)(rs:List aE)(F:ag)(w:aa)(hT:lh w)(hR:bH w A n rs F)(hn:n<=9223372036854775807):
 aF prog 45 [.agg #[aj V,.slice A n c]] w (λv w'=>v=.bool (decide (gm V F))/\St w w' []):=by
 have lO:=hR.len;refine bn func45 O ntmps45 O (bM O) (aY O (nB (St.refl w) O O ?_));intro Ab w1 hS;refine aq O (aS (hS.rd 0 O) O (fX (hS.rd 0 O) O O O O O (aI (uU _ _ _ _) O ?_)));rintro _ _ ⟨rfl,rfl⟩
 first|refine cO rfl rfl ?_|refine dv rfl rfl ?_
 refine aq O (b9 12 O (λh1=>?_) (λh1=>?_))
 ·refine aB O (aB O (aB O (aB O (ay O ?_))));refine Cd.iw O (dE O (cK O ?_));exact⟨by rw[db (λh:gm V F=>h1 h.v)],hS.none⟩
 have h1:=kW.1 h1;refine ar O (aS (hS.rd 0 O) O (ar O (a6 (hS.rd 0 O) O ?_)));refine ar O (aR O O (ar O (ay O ?_)));refine aK _ O (λh2=>?_) (λh2=>?_)
 ·refine dE O (cK O ?_);exact⟨by rw[db (λh:gm V F=>by have:=h.f;omega)],hS.none⟩
 obtain⟨m,rfl⟩:=Int.eq_ofNat_of_zero_le h1.1;have hm:m<=60:=by omega
 clear h1;refine aC O (aS (hS.rd 0 O) O (fX (hS.rd 0 O) O O O O O (wb m hS O O ac ?_)));intro A3 w2 az;have az:St w w2 [fB 4 A3 m m (lD (pV m) (F.take 0).flatten),oV Ab m A n c]:=az;refine aq O (aS (az.rd 1 O) O (a6 (az.rd 1 O) O ?_));refine aR O O (ay O ?_);refine Cd.loop (α:=Nat) (λi=>[(1,.pointer Ab),(3,.slice A3 m m),(22,.slice A n c),(23,aj n),(24,aj i)]) (λi w'=>i<=n/\xO m F i/\St w w' [fB 4 A3 m m (lD (pV m) (F.take i).flatten),oV Ab m A n c]) (λi=>n-i) 0 (auV O) ⟨bl _,xO.zero _ _,az⟩ ?_;rintro i e w3 ⟨hi,hP,aM⟩;have ia:=aM.rd 1 O;refine bC O (aK _ O (λh3=>?_) (λh3=>?_))
 ·have nM:i<F.length:=by omega
  have hM:=aM.bU hR;have br:=hM.at_ (i:=(i:Int)) ac ac;have bT:=br.1;have gu:=hM.cap_ (i:=(i:Int)) ac ac;refine aC O (aA hM.top.2 O (bw hM.top O (aq O (aI (oK _ _ _ _) O ?_))));rintro _ _ ⟨rfl,rfl⟩;refine aI (uU _ _ _ _) O ?_;rintro _ _ ⟨rfl,rfl⟩
  first|refine cO rfl rfl ?_|refine dv rfl rfl ?_
  refine aq O (b9 33 O (λh4=>?_) (λh4=>?_))
  ·refine aB O (aB O (aB O (aB O (aB O (aB O (aq O (aB O (aB O (aB O (cW O O O O (cW O O O O ?_)))))))))));refine cW O O O O (cW O O O O (cW O O O O (cW O O O O (cW O O O O (cW O O O O (cW O O O O (aB O (ay O ?_))))))));refine Cd.iw O (dE O (fz (fe ?_)));refine cK O ?_;exact⟨by rw[db (λh:gm m F=>by have:=(h.at_ nM).1;omega)],aM.none⟩
  have h4:=kW.1 h4;refine ar O (aq O (ar O ?_));refine aS ia O (ar O (fX ia O O O O O ?_));refine ar O (cV O (ar O ?_));refine aI (MM _ _ _ _ _ _ _ br ac) O ?_;rintro _ w4 ⟨rfl,aw⟩;have aM:=aM.ao aw.below;have hM:=aM.bU hR;have br:=hM.at_ (i:=(i:Int)) ac ac;have ia:=aM.rd 1 O;refine ar O ?_
  first|refine cO rfl rfl ?_|refine dv rfl rfl ?_
  refine aq O (b9 41 O (λh5=>?_) (λh5=>?_))
  ·refine aB O (aB O (aB O (cW O O O O (cW O O O O (cW O O O O (cW O O O O (cW O O O O (cW O O O O (cW O O O O (cW O O O O (cW O O O O ?_)))))))))));refine aB O (ay O ?_);refine Cd.iw O (dE O (fz (fe ?_)));refine cK O ?_;exact⟨by rw[db (λh:gm m F=>h5 λx hx=>by have:=(h.at_ nM).2.2 x hx;omega)],aM.none⟩
  have h5:∀x∈gl F i,0<=x/\x<=(m:Int)-1:=kW.1 h5;refine ar O (aq O (ar O (aq O (ar O (aq O ?_)))));refine b9 44 O (λh6=>?_) (λh6=>?_)
  ·have akN:=hM.at_ (i:=(i:Int)-1) ac ac;have hcap':=hM.cap_ (i:=(i:Int)-1) ac ac;refine ar O (aS ia O (ar O (a6 ia O ?_)));refine ar O (aq O (ar O (cV O (ar O ?_))));refine aA hM.top.2 O (ar O (bw hM.top O ?_));refine ar O (aq O (ar O ?_));refine aI (SU _ _ _ _ _ _ _ _ _ akN br ac) O ?_;rintro _ _ ⟨rfl,rfl⟩;refine ar O (aq O (ar O (ay O ?_)));refine aK _ O (λh7=>?_) (λh7=>?_)
   ·refine dE O (fz (fe ?_));refine cK O ?_;exact⟨by rw[db (λh:gm m F=>by have h8:iB _ _<0:=h.lt (k:=i) (by omega) nM;omega)],aM.none⟩
   have dH:i=0\/LT (gl F ((i:Int)-1)) (gl F i):=.inr (by show iB _ _<0;omega);refine aC O (aR O O (ay O ?_));refine Cd.loop (α:=Nat) (λj=>[(1,.pointer Ab),(3,.slice A3 m m),(5,.slice (rg rs i).a (rg rs i).n (rg rs i).c),(22,.slice A n c),(23,aj n),(24,aj i),(56,.slice (rg rs i).a (rg rs i).n (rg rs i).c),(57,aj ((rg rs i).n:Int)),(58,aj j)]) (λj w'=>j<=(gl F i).length/\SA ((gl F i).take j)/\St w w' [fB 4 A3 m m (lD (pV m) ((F.take i).flatten++(gl F i).take j)),oV Ab m A n c]) (λj=>(gl F i).length-j) 0 (auV O) ⟨bl _,by simp[SA],by rw[List.take_zero,dQ];exact aM⟩ ?_;rintro j e w5 ⟨hj,ye,aO⟩;have wG:=aO.bU hR;have uq:=wG.at_ (i:=(i:Int)) ac ac;refine bC O (aK _ O (λh9=>?_) (λh9=>?_))
   ·have gp:j<(gl F i).length:=by omega
    have hjr:=h5 (gi (gl F i) j) (by rw[b7 gp];exact dt _);have hH:=aO.iQ 0 O;refine aC O (aA uq.2 O (bg uq O (aq O ?_)));refine b9 65 O (λik=>?_) (λik=>?_)
    ·refine ar O (aq O (ar O (aq O (ar O (cV O (ar O ?_))))));refine aA uq.2 O (ar O (bg uq O ?_));refine ar O (aq O (ar O (ay O ?_)));refine aK _ O (λsZ=>?_) (λsZ=>?_)
     ·refine dE O (fz (fe (fz (fe ?_))));refine cK O ?_;exact⟨by rw[db (λh:gm m F=>by have:=(h.at_ nM).2.1.step (k:=j) (by omega) gp;omega)],aO.none⟩
     have eZ:SA ((gl F i).take (j+1)):=ye.snoc gp (.inr ac);refine aC O (aA hH.2 O (pn 0 aO O O O ac ?_));intro w6 bk;refine aq O (aJ O (aN O (tQ ?_)));refine⟨j+1,by show(gl F i).length-(j+1)<(gl F i).length-j;omega,(auV O),ac,eZ,?_⟩;rw[lG gp,<-ef,Lq];exact bk
    have eZ:SA ((gl F i).take (j+1)):=ye.snoc gp (.inl ac);refine aB O (aB O (aB O (aB O (aB O (aB O (aB O (ay O ?_)))))));refine Cd.cX O (aC O (aA hH.2 O (pn 0 aO O O O ac ?_)));intro w6 bk;refine aq O (aJ O (aN O (tQ ?_)));refine⟨j+1,by show(gl F i).length-(j+1)<(gl F i).length-j;omega,(auV O),ac,eZ,?_⟩;rw[lG gp,<-ef,Lq];exact bk
   rw[show(gl F i).take j=gl F i from jw (by omega)]at aO ye;refine ba O (bc (bY O (aJ O (aN O (tQ ?_)))));refine⟨i+1,by show n-(i+1)<n-i;omega,(auV O),ac,hP.step nM ⟨⟨ac,ac⟩,ye,λx hx=>by have:=h5 x hx;omega⟩ dH,?_⟩;rw[nV nM,List.flatten_append];simpa using aO
  have dH:i=0\/LT (gl F ((i:Int)-1)) (gl F i):=.inl ac;refine aB O (aB O (aB O (aB O (aB O (aB O (aB O (aB O (aB O (ar O (ay O ?_))))))))));refine Cd.cX O (aC O (aR O O (ay O ?_)));refine Cd.loop (α:=Nat) (λj=>[(1,.pointer Ab),(3,.slice A3 m m),(5,.slice (rg rs i).a (rg rs i).n (rg rs i).c),(22,.slice A n c),(23,aj n),(24,aj i),(56,.slice (rg rs i).a (rg rs i).n (rg rs i).c),(57,aj ((rg rs i).n:Int)),(58,aj j)]) (λj w'=>j<=(gl F i).length/\SA ((gl F i).take j)/\St w w' [fB 4 A3 m m (lD (pV m) ((F.take i).flatten++(gl F i).take j)),oV Ab m A n c]) (λj=>(gl F i).length-j) 0 (auV O) ⟨bl _,by simp[SA],by rw[List.take_zero,dQ];exact aM⟩ ?_;rintro j e w5 ⟨hj,ye,aO⟩;have wG:=aO.bU hR;have uq:=wG.at_ (i:=(i:Int)) ac ac;refine bC O (aK _ O (λh9=>?_) (λh9=>?_))
  ·have gp:j<(gl F i).length:=by omega
   have hjr:=h5 (gi (gl F i) j) (by rw[b7 gp];exact dt _);have hH:=aO.iQ 0 O;refine aC O (aA uq.2 O (bg uq O (aq O ?_)));refine b9 65 O (λik=>?_) (λik=>?_)
   ·refine ar O (aq O (ar O (aq O (ar O (cV O (ar O ?_))))));refine aA uq.2 O (ar O (bg uq O ?_));refine ar O (aq O (ar O (ay O ?_)));refine aK _ O (λsZ=>?_) (λsZ=>?_)
    ·refine dE O (fz (fe (fz (fe ?_))));refine cK O ?_;exact⟨by rw[db (λh:gm m F=>by have:=(h.at_ nM).2.1.step (k:=j) (by omega) gp;omega)],aO.none⟩
    have eZ:SA ((gl F i).take (j+1)):=ye.snoc gp (.inr ac);refine aC O (aA hH.2 O (pn 0 aO O O O ac ?_));intro w6 bk;refine aq O (aJ O (aN O (tQ ?_)));refine⟨j+1,by show(gl F i).length-(j+1)<(gl F i).length-j;omega,(auV O),ac,eZ,?_⟩;rw[lG gp,<-ef,Lq];exact bk
   have eZ:SA ((gl F i).take (j+1)):=ye.snoc gp (.inl ac);refine aB O (aB O (aB O (aB O (aB O (aB O (aB O (ay O ?_)))))));refine Cd.cX O (aC O (aA hH.2 O (pn 0 aO O O O ac ?_)));intro w6 bk;refine aq O (aJ O (aN O (tQ ?_)));refine⟨j+1,by show(gl F i).length-(j+1)<(gl F i).length-j;omega,(auV O),ac,eZ,?_⟩;rw[lG gp,<-ef,Lq];exact bk
  rw[show(gl F i).take j=gl F i from jw (by omega)]at aO ye;refine ba O (bc (bY O (aJ O (aN O (tQ ?_)))));refine⟨i+1,by show n-(i+1)<n-i;omega,(auV O),ac,hP.step nM ⟨⟨ac,ac⟩,ye,λx hx=>by have:=h5 x hx;omega⟩ dH,?_⟩;rw[nV nM,List.flatten_append];simpa using aO
 have cE:i=F.length:=by omega
 subst cE;obtain⟨eA,XO⟩:=hP.all;rw[List.take_length]at aM;have XE:=an9 (m:=m) (F:=F) (λl hl=>(eA l hl).2.2);have Em:=ags XO (λl hl e=>by have:=(eA l hl).1;rw[e]at this;simp at this);have hH:=aM.iQ 0 O;have hM:=aM.bU hR;have hG:=VF A n c rs F;refine ba O (bc (kX O ?_))
 by_cases h4:false∈lD (pV m) F.flatten
 ·
  refine ec [xS (A3) (m) (m),xB (decide (false∈lD (pV m) F.flatten)),xB (decide (¬(false∈lD (pV m) F.flatten))),xB (false),xU,xU,xU,xU,xU,xU,xU,xU,xB (false),xB (false)] O (eK O) ?_ ?_
  ·refine⟨Dr O,?_,λ_ _ _ _ _=>cO O O Az,λ_ _ _ _ _=>Dk O (by exact aQ Value.bool (db (λh=>h h4))),Dr O,Dr O,Dr O,Dr O,Dr O,Dr O,Dr O,Dr O,Dr O,Dr O,au⟩;intro e1 w1 hb hp aW;refine aI (Mn A3 m m _ _ _ (hH.ao hb) ac) O ?_;rintro _ w2 ⟨rfl,aw⟩;subst aw;refine ak.n (d0 ap)
  intro u w4 hb _;refine xM O (cK O ?_);exact⟨by rw[db (λh:gm m F=>XE.2 h.all h4)],aM.none.ao hb⟩
 refine ec [xS (A3) (m) (m),xB (decide (false∈lD (pV m) F.flatten)),xB (decide (¬(false∈lD (pV m) F.flatten))),xB (true),xP (aH (Ab) 1),xS (A) (n) (c),.pr (λv w'=>∃A' c',v=.slice A' (mq F).length c'),xI (((mq F).length:Nat):Int),xP (aH (Ab) 1),xS (A) (n) (c),xI (((n:Nat):Int)),xB (decide ((((mq F).length:Nat):Int)=(((n:Nat):Int)))),xB (decide ((((mq F).length:Nat):Int)=(((n:Nat):Int)))),xB (decide ((((mq F).length:Nat):Int)=(((n:Nat):Int))))] rfl (lx (lx (lx (lx (lx (lx (bV.2 ⟨Yd.bW (λv w w' h hb=>h),(lx (lx (lx (lx (lx (lx (lx (λ_ h=>by cases h))))))))⟩))))))) ?_ ?_
 ·refine⟨Dr O,?_,λ_ _ _ _ _=>cO O O Az,λ_ _ _ _ _=>Dk O (by exact aQ Value.bool (dB h4)),λ_ _ hb _ _=>ar O (aS (ia.below hb) O Az),λ_ _ hb _ _=>ar O (a6 (ia.below hb) O Az),?_,?_,λ_ _ hb _ _=>ar O (aS (ia.below hb) O Az),λ_ _ hb _ _=>ar O (a6 (ia.below hb) O Az),λ_ _ _ _ _=>ar O (aR O O Az),Dr O,Dr O,Dr O,au⟩
  ·intro e1 w1 hb hp aW;refine aI (Mn A3 m m _ _ _ (hH.ao hb) ac) O ?_;rintro _ w2 ⟨rfl,aw⟩;subst aw;refine ak.n (d0 ap)
  ·intro e1 w1 hb hp aW;refine ar O ?_;refine aI (VF A n c rs F _ (hT.ao (aM.below.trans (hb.mono aM.below.size))) (hM.ao hb) ac (λl hl=>(eA l hl).2.1) (λl hl=>(eA l hl).1.2) (λl hl x hx=>by have:=(eA l hl).2.2 x hx;omega)) O ?_;rintro _ w2 ⟨q,A',c',rfl,_,_,hq,aw⟩;refine ak.n ?_;exact gk.dn aw.below ⟨A',c',by rw[<-hq,jd]⟩
  intro e1 w1 hb hp aW;refine ar O ?_;obtain⟨A',c',h85⟩:=(hp 6 am rfl _ _ rfl rfl);refine aR h85 O (ak.n ?_);exact gk.dn (Below.refl _ _) O
 intro u w4 hb _;refine xM O (cK O ?_);refine⟨aQ Value.bool (kl.2 ?_),aM.none.ao hb⟩;constructor
 ·intro h;exact⟨⟨ac,ac⟩,ac,eA,XO,XE.1 h4,Em.1 ac⟩
 intro h;have:=Em.2 h.top;omega
def SY(F:ag)(zV:ah):Prop:=SA zV/\(zV=[]\/∃f∈F,Ins zV f)
instance (F:ag)(zV:ah):Decidable (SY F zV):=by unfold SY;exact inferInstance
def anA(F:ag)(zV:ah):ag:=(F.filter λf=>decide (Ins zV f)).map λf=>sq f zV
theorem Zp{l b:ah}(h:SA l):SA (sq l b):=oO _ h
theorem alz(A:ai)(n c:Nat)(rs:List aE)(G:FuncId)[hF:bq prog G](cv:List ab)(pd:Nat->Bool)(w:aa)(hR:fu w A n rs)(hn:n<=4000000000000)(rG:∀(w':aa)(i:Nat),Below w.heap.size w w'->i<n->aF prog G (.slice (rg rs i).a (rg rs i).n (rg rs i).c::cv) w' (λv nX=>v=.bool (pd i)/\St w' nX [])):
 aF prog 118 [.slice A n c,.func (.func G) #[] cv.toArray] w (λv w'=>(∃i:Int,v=aj i/\(0<=i↔∃j,j<n/\pd j=true))/\St w w' []):=by
 have cT:=hR.1;refine bn func118 O ntmps118 O (bM O) ?_;refine aY O (aR O O (ay O ?_));refine Cd.loop (α:=Nat) (λk=>[(0,.slice A n c),(1,.func (.func G) #[] cv.toArray),(7,aj n),(8,aj k)]) (λk w'=>St w w' []/\k<=n/\∀j,j<k->pd j=false) (λk=>n-k) 0 (auV O) ⟨St.refl w,bl _,λj hj=>by omega⟩ ?_;rintro k e w1 ⟨hS,hk,hK⟩;refine bC O (aK _ O (λh3=>?_) (λh3=>?_))
 ·have eW:=hS.pc hR;refine aC O (aA eW.2 O (bw eW O (aI (rG w1 k hS.below ac) O ?_)));rintro _ w2 ⟨rfl,aw⟩;refine ay O (Cd.cond O (λh4=>?_) (λh4=>?_))
  ·refine dE O (fz (fe ?_));refine gj O ?_;exact⟨⟨(k:Int),O,⟨λ_=>⟨k,ac,h4⟩,λ_=>by omega⟩⟩,hS.ao aw.below⟩
  refine aC O (aJ O (aN O (tQ ?_)));refine⟨k+1,by show n-(k+1)<n-k;omega,(auV O),hS.ao aw.below,ac,λj hj=>?_⟩
  by_cases ej:j=k
  ·subst ej;exact h4
  exact hK j ac
 refine ba O (bc (ew O ?_));refine gj O ⟨⟨-1,O,⟨λh=>absurd h am,λ⟨j,hj,hp⟩=>?_⟩⟩,hS⟩;rw[hK j (by omega)]at hp;cases hp
theorem aff(A:ai)(n c:Nat)(rs:List aE)(G:FuncId)[hF:bq prog G](cv:List ab)(pd:Nat->Bool)(w:aa)(hR:fu w A n rs)(hn:n<=4000000000000)(rG:∀(w':aa)(i:Nat),Below w.heap.size w w'->i<n->aF prog G (.slice (rg rs i).a (rg rs i).n (rg rs i).c::cv) w' (λv nX=>v=.bool (pd i)/\St w' nX [])):
 aF prog 60 [.slice A n c,.func (.func G) #[] cv.toArray] w (λv w'=>v=.bool (decide (∃j,j<n/\pd j=true))/\St w w' []):=by
 refine bn func60 O ntmps60 O (bM O) (aY O (aI (alz A n c rs G cv pd w hR hn rG) O ?_));rintro _ w2 ⟨⟨i,rfl,hi⟩,az⟩;refine bR O (cK O ?_);exact⟨aQ Value.bool (kl.2 hi),az⟩
end
section
variable{b l y:ah}{F G:ag}{j:Nat}{V t:Int}
def nf(F:ag)(k:Nat):Nat:=(eG F k).length
theorem arV{a:ah}(h:a.Sublist b)(hb:SA b):SA a:=List.Pairwise.sublist h hb
theorem F0{k:Nat}(hs:∀f∈F,SA f){x:ah}(h:x∈eG F k):SA x:=by
 rcases DT.1 (DV.1 h)with⟨_,rfl⟩|⟨_,f,hf,h1,_⟩
 ·exact List.Pairwise.nil
 exact arV h1 (hs f hf)
theorem Jt{k:Nat}(hk:0<k){x:ah}:x∈eG F k↔∃f∈F,x.Sublist f/\x.length=k:=by
 rw[DV,DT];constructor
 ·rintro(⟨h,_⟩|⟨_,h⟩)
  ·omega
  exact h
 exact λh=>.inr ⟨hk,h⟩
def xY(f:ah)(k:Int):Int:=if 0<=k/\k<f.length then gi f k else 0
theorem ND{α:Type}(p:α->Bool):∀l:List α,l.length=(l.filter p).length+(l.filter λx=>!p x).length
 |[]=>rfl
 |a::r=>by
  have:=ND p r;cases h:p a<;>simp[h]<;>omega
theorem NB(bN:F≠[]){k:Nat}{x:ah}:x∈eG F k↔(∃f∈F,x.Sublist f)/\x.length=k:=by
 rw[DV,DT];constructor
 ·rintro(⟨h0,rfl⟩|⟨_,f,hf,h1,h2⟩)
  ·match F,bN with
   |f::_,_=>exact⟨⟨f,by simp,List.nil_sublist f⟩,h0.symm⟩
  ·exact⟨⟨f,hf,h1⟩,h2⟩
 ·rintro⟨⟨f,hf,h1⟩,h2⟩
  by_cases h:k=0
  ·exact .inl ⟨h,iL ac⟩
  ·exact .inr ⟨ac,f,hf,h1,h2⟩
def Pure(F:ag):Prop:=∀f∈F,f.length=du F
instance (F:ag):Decidable (Pure F):=by unfold Pure;exact inferInstance
def uH(R:List (ah×ah))(q:ah×Int):List (ah×ah):=
 if q.1∈R.map (·.1)then R.map λp=>if p.1=q.1 then(p.1,p.2++[q.2])else p else R++[(q.1,[q.2])]
def qb(Q:List (ah×Int)):List (ah×ah):=Q.foldl uH []
theorem RB(Q:List (ah×Int))(q:ah×Int):qb (Q++[q])=uH (qb Q) q:=by simp[qb,List.foldl_append]
theorem apD(R:List (ah×ah))(q:ah×Int):(uH R q).map (·.1)=if q.1∈R.map (·.1)then R.map (·.1)else R.map (·.1)++[q.1]:=by
 unfold uH
 split
 ·rw[List.map_map];refine ki λp _=>?_
  show(if p.1=q.1 then(p.1,p.2++[q.2])else p).1=p.1
  split<;>rfl
 simp
theorem E3:∀(n:Nat)(Q:List (ah×Int)),Q.length=n->((qb Q).map (·.1)).Nodup/\(∀x,x∈(qb Q).map (·.1)↔∃i,(x,i)∈Q)/\∀p∈qb Q,p.2=(Q.filter λq=>decide (q.1=p.1)).map (·.2)
 |0,Q,h=>by
  obtain rfl:=iL h;simp[qb]
 |n+1,Q,h=>by
  obtain⟨Q0,q,rfl⟩:∃Q0 q,Q=Q0++[q]:=⟨Q.dropLast,Q.getLast (λe=>by rw[e]at h;simp at h),(List.dropLast_concat_getLast _).symm⟩;obtain⟨h1,h2,h3⟩:=E3 n Q0 (by simpa using h);rw[RB,apD];refine⟨?_,?_,?_⟩
  ·split
   ·exact h1
   ·rename_i hq;refine List.nodup_append.2 ⟨h1,by simp,λa ha b hb e=>hq ?_⟩;obtain rfl:b=q.1:=by simpa using hb
    rw[<-e];exact ha
  ·intro x;have key:(∃i,(x,i)∈Q0++[q])↔(∃i,(x,i)∈Q0)\/x=q.1:=by
    constructor
    ·rintro⟨i,hi⟩;rcases dF.1 hi with hi|hi
     ·exact .inl ⟨i,hi⟩
     ·have:(x,i)=q:=by simpa using hi
      exact .inr (by rw[<-this])
    ·rintro(⟨i,hi⟩|rfl)
     ·exact⟨i,List.mem_append_left _ hi⟩
     ·exact⟨q.2,by simp⟩
   rw[key]
   split
   ·rename_i hq;rw[h2];constructor
    ·exact .inl
    ·rintro(h|rfl)
     ·exact h
     ·exact(h2 _).1 hq
   ·rw[dF,h2];simp
  ·intro p hp;rw[mN,iE];unfold uH at hp
   by_cases hq:q.1∈(qb Q0).map (·.1)
   ·rw[aG hq]at hp;obtain⟨p0,hp0,rfl⟩:=de.1 hp;have:=h3 p0 hp0
    by_cases e:p0.1=q.1
    ·rw[aG e];show p0.2++[q.2]=(Q0.filter λq=>decide (q.1=p0.1)).map (·.2)++_;rw[this]
     congr 1
     simp[e]
    ·rw[aD e];rw[this];have e2:¬q.1=p0.1:=λh=>e h.symm
     simp[e2]
   ·rw[aD hq]at hp;rcases dF.1 hp with hp|hp
    ·have:=h3 p hp;rw[this];have e2:¬q.1=p.1:=λh=>hq (by rw[h];exact de.2 ⟨p,hp,O⟩)
     simp[e2]
    ·obtain rfl:p=(q.1,[q.2]):=by simpa using hp
     have e0:Q0.filter (λr=>decide (r.1=q.1))=[]:=by
      rw[List.filter_eq_nil_iff];intro r hr h;exact hq ((h2 _).2 ⟨r.2,by rw[<-bX h];exact hr⟩)
     show[q.2]=(Q0.filter λr=>decide (r.1=q.1)).map (·.2)++_;rw[e0];simp
def pf(F:ag)(i:Nat):List (ah×Int):=(List.range i).flatMap λk:Nat=>(dT (gl F k) ((gl F k).length-1)).map λx=>(x,(k:Int))
def rR(F:ag)(i j:Nat):List (ah×Int):=pf F i++((dT (gl F i) ((gl F i).length-1)).take j).map λx=>(x,(i:Int))
theorem arP(F:ag)(i:Nat):rR F i 0=pf F i:=by simp[rR]
theorem arN(F:ag)(i:Nat):rR F i (dT (gl F i) ((gl F i).length-1)).length=pf F (i+1):=by
 unfold rR pf;rw[List.take_length,lK,List.flatMap_append];simp
theorem arO{i:Nat}(h:j<(dT (gl F i) ((gl F i).length-1)).length):rR F i (j+1)=rR F i j++[(gl (dT (gl F i) ((gl F i).length-1)) j,(i:Int))]:=by
 unfold rR;rw[nV h,iE,ef];rfl
def iR(F:ag):List (ah×ah):=qb (pf F F.length)
def CE(F:ag)(x:ah):ah:=((List.range F.length).filter λk:Nat=>decide (Ins x (gl F k))).map λk:Nat=>(k:Int)
theorem apG(F:ag):((iR F).map (·.1)).Nodup:=(E3 _ _ rfl).1
theorem anW{n:Nat}{x:ah}{i:Int}:(x,i)∈pf F n↔∃k:Nat,k<n/\i=k/\x.Sublist (gl F k)/\x.length=(gl F k).length-1:=by
 unfold pf;rw[List.mem_flatMap];constructor
 ·rintro⟨k,hk,h⟩;obtain⟨y,hy,e⟩:=de.1 h;obtain⟨rfl,rfl⟩:y=x/\(k:Int)=i:=by simpa using e
  exact⟨k,fo.1 hk,O,oF.1 hy⟩
 rintro⟨k,hk,rfl,h⟩;exact⟨k,fo.2 hk,de.2 ⟨x,oF.2 h,O⟩⟩
theorem LB(hc:gm V F)(hp:Pure F){x:ah}:x∈(iR F).map (·.1)↔x∈eG F (du F-1)/\F≠[]:=by
 rw[iR,(E3 _ _ rfl).2.1];simp only[anW];constructor
 ·rintro⟨i,k,hk,rfl,h1,h2⟩;have hm:gl F k∈F:=by rw[df hk];exact dt _
  have bN:F≠[]:=λe=>by rw[e]at hk;simp at hk
  refine⟨(NB bN).2 ⟨⟨_,hm,h1⟩,by rw[h2,hp _ hm]⟩,bN⟩
 rintro⟨h,bN⟩;obtain⟨⟨f,hf,h1⟩,h2⟩:=(NB bN).1 h;obtain⟨k,hk,rfl⟩:=fS.1 hf;exact⟨(k:Int),k,hk,O,by rw[df hk];exact h1,by rw[df hk,h2,hp _ hf]⟩
theorem HV(hc:gm V F)(hp:Pure F){p:ah×ah}(h:p∈iR F):p.2=CE F p.1:=by
 have h1:=(E3 _ _ O).2.2 p h;have hk:p.1∈(iR F).map (·.1):=de.2 ⟨p,h,O⟩;obtain⟨hk,bN⟩:=(LB hc hp).1 hk;have hl:=yc hk;have hs:=F0 (λf hf=>(hc.row f hf).2.1) hk;rw[h1];unfold CE;generalize p.1=x at*;have key:∀n,n<=F.length->((pf F n).filter λq=>decide (q.1=x)).map (·.2)=((List.range n).filter λk:Nat=>decide (Ins x (gl F k))).map λk:Nat=>(k:Int):=by
  intro n
  induction n with
  |zero=>intro _;rfl
  |succ n ih=>
   intro hn;have hm:gl F n∈F:=by rw[df (by omega)];exact dt _
   have br:=hc.row _ hm;have e:pf F (n+1)=pf F n++(dT (gl F n) ((gl F n).length-1)).map λy=>(y,(n:Int)):=by
    unfold pf;rw[lK,List.flatMap_append];simp
   rw[e,mN,iE,ih (by omega),lK,mN,iE]
   congr 1
   have lZ:=(Lu (k:=(gl F n).length-1) br.2.1).nodup
   by_cases hi:Ins x (gl F n)
   ·have hx:x∈dT (gl F n) ((gl F n).length-1):=oF.2 ⟨Ins.sub hs br.2.1 hi,by rw[hl,hp _ hm]⟩;rw[List.filter_map,List.map_map];have e2:(dT (gl F n) ((gl F n).length-1)).filter ((λq=>decide (q.1=x))∘λy=>(y,(n:Int)))=[x]:=by
     have h3:∀l:ag,l.Nodup->x∈l->l.filter (λy=>decide (y=x))=[x]:=by
      intro l
      induction l with
      |nil=>intro _ h;cases h
      |cons a r ih=>
       intro hn h;rw[mj]at hn
       by_cases e:a=x
       ·subst e;rw[zE (by simp)]
        congr 1
        rw[List.filter_eq_nil_iff];intro y hy h;exact hn.1 (by rw[<-bX h];exact hy)
       ·rw[BP (by simpa using e)];exact ih hn.2 ((gW.1 h).resolve_left λh=>e h.symm)
     exact h3 _ lZ hx
    rw[e2];simp[hi]
   ·have e2:((dT (gl F n) ((gl F n).length-1)).map λy=>(y,(n:Int))).filter (λq=>decide (q.1=x))=[]:=by
     rw[List.filter_eq_nil_iff];intro q hq h;obtain⟨y,hy,rfl⟩:=de.1 hq;have:y=x:=bX h;subst this;exact hi (Ins.Lj (oF.1 hy).1)
    rw[e2];simp[hi]
 exact key F.length (cJ _)
def fF(l:ah):Nat:=l.foldr (λe a=>2^e.toNat^^^a) 0
theorem ZL:fF []=0:=rfl
theorem xp(a:Int)(l:ah):fF (a::l)=2^a.toNat^^^fF l:=rfl
theorem ET:∀(a b:ah),fF (a++b)=fF a^^^fF b
 |[],b=>by simp[fF]
 |x::a,b=>by rw[List.cons_append,xp,xp,ET a b,Nat.xor_assoc]
theorem QZ{a:ah}(h:a.Perm b):fF a=fF b:=by
 induction h with
 |nil=>rfl
 |cons x _ ih=>rw[xp,xp,ih]
 |swap x y l=>rw[xp,xp,xp,xp,<-Nat.xor_assoc,<-Nat.xor_assoc,Nat.xor_comm (2^y.toNat)]
 |trans _ _ h1 h2=>exact h1.trans h2
def sE(out:ah)(e:Int):ah:=if out.getLast?=some e then out.dropLast else out++[e]
def gv(l:ah):ah:=l.foldl sE []
theorem aad(l:ah)(e:Int):gv (l++[e])=sE (gv l) e:=by simp[gv]
theorem F6{e:Int}(h:l.getLast?=some e):l=l.dropLast++[e]:=by
 have bN:l≠[]:=λh'=>by rw[h']at h;cases h
 rw[List.getLast?_eq_some_getLast bN]at h;injection h with h
 rw[<-h];exact(List.dropLast_concat_getLast bN).symm
theorem Di:∀(n:Nat)(l:ah),l.length=n->oN l->SA (gv l)/\(∀x∈gv l,x∈l)/\fF (gv l)=fF l
 |0,l,hl,_=>by obtain rfl:=iL hl;exact⟨List.Pairwise.nil,λ_ h=>h,rfl⟩
 |n+1,l,hl,ha=>by
  obtain⟨l0,e,rfl⟩:∃l0 e,l=l0++[e]:=⟨l.dropLast,l.getLast (λh=>by rw[h]at hl;simp at hl),(List.dropLast_concat_getLast _).symm⟩;have Ee:oN l0/\∀x∈l0,x<=e:=by
   rw[oN,List.pairwise_append]at ha;exact⟨ha.1,λx hx=>ha.2.2 x hx e (by simp)⟩
  obtain⟨h1,h2,h3⟩:=Di n l0 (by simpa using hl) Ee.1;rw[aad,sE]
  by_cases hg:(gv l0).getLast?=some e
  ·rw[aG hg];refine⟨List.Pairwise.sublist (List.dropLast_sublist _) h1,λx hx=>List.mem_append_left _ (h2 x ((List.dropLast_sublist _).subset hx)),?_⟩;have e1:=F6 hg;rw[ET,<-h3]
   conv=>rhs;rw[e1]
   rw[ET,Nat.xor_assoc,Nat.xor_self,Nat.xor_zero]
  ·rw[aD hg];refine⟨?_,λx hx=>?_,by rw[ET,ET,h3]⟩
   ·rw[SA,List.pairwise_append];refine⟨h1,List.pairwise_singleton _ _,λx hx y hy=>?_⟩;obtain rfl:y=e:=by simpa using hy
    have hle:=Ee.2 x (h2 x hx);refine Int.lt_iff_le_and_ne.2 ⟨hle,λKU=>hg ?_⟩;subst KU;have bN:gv l0≠[]:=λh'=>by rw[h']at hx;cases hx
    rw[List.getLast?_eq_some_getLast bN]
    congr 1
    have kO:=List.getLast_mem bN;have hgle:=Ee.2 _ (h2 _ kO);have e2:gv l0=(gv l0).dropLast++[(gv l0).getLast bN]:=(List.dropLast_concat_getLast bN).symm;have tU:=h1;rw[e2,SA,List.pairwise_append]at tU;rw[e2]at hx;rcases dF.1 hx with hx|hx
    ·have:=tU.2.2 x hx _ (eX.2 O);omega
    ·exact(eX.1 hx).symm
   ·rcases dF.1 hx with hx|hx
    ·exact List.mem_append_left _ (h2 x hx)
    ·exact List.mem_append_right _ hx
def ml(x:ah):Prop:=SA x/\∀e∈x,0<=e
theorem HL:∀{x:ah},x.Nodup->(∀e∈x,0<=e)->∀j,(fF x).testBit j=decide ((j:Int)∈x)
 |[],_,_,j=>by simp[fF]
 |a::l,hn,h0,j=>by
  rw[mj]at hn;have ih:=HL hn.2 (λe he=>h0 e (fE _ he)) j;have ha:=h0 a (by simp);rw[xp,Nat.testBit_xor,ih,Nat.testBit_two_pow]
  by_cases e:(j:Int)=a
  ·have hj:¬(j:Int)∈l:=by rw[e];exact hn.1
   have h1:a.toNat=j:=by omega
   simp[e,h1,hn.1]
  ·have h1:a.toNat≠j:=by omega
   simp[e,h1]
theorem Tb(ha:oN l)(h0:∀e∈l,0<=e):ml (gv l):=by
 obtain⟨h1,h2,_⟩:=Di _ l rfl ha;exact⟨h1,λe he=>h0 e (h2 e he)⟩
theorem ml.top{x:ah}(h:ml x)(ht:x.getLast?=some t):rm (fF x) t.toNat:=by
 have e1:=F6 ht;have h2:=h.1;rw[e1,SA,List.pairwise_append]at h2;have Yt:t∈x:=by rw[e1];simp
 have h0:=h.2 t Yt;refine⟨?_,λj hj=>?_⟩
 ·rw[HL h.1.nodup h.2];simpa[Int.toNat_of_nonneg h0]using Yt
 rw[HL h.1.nodup h.2];simp only[decide_eq_false_iff_not];intro hm;rw[e1]at hm;rcases dF.1 hm with hm|hm
 ·have:=h2.2.2 _ hm t (by simp);omega
 have:=eX.1 hm;omega
theorem ml.Zm{x:ah}(h:ml x)(ht:x.getLast?=some t):∀e∈x,e<=t:=by
 have e1:=F6 ht;have h2:=h.1;rw[e1,SA,List.pairwise_append]at h2;intro e he;rw[e1]at he;rcases dF.1 he with he|he
 ·have:=h2.2.2 e he t (by simp);omega
 have:=eX.1 he;omega
def gC(x y:ah):ah:=gv (fb (x++y))
theorem Sp{x:ah}(hx:ml x)(hy:ml y):ml (gC x y):=Tb (BI _) λe he=>by
 rcases dF.1 ((tD _).subset he)with h|h
 ·exact hx.2 e h
 exact hy.2 e h
theorem Sn(x y:ah):fF (gC x y)=fF x^^^fF y:=by
 rw[gC,(Di _ _ rfl (BI _)).2.2,QZ (tD _),ET]
theorem Sq{x:ah}:∀e∈gC x y,e∈x\/e∈y:=λe he=>dF.1 ((tD _).subset ((Di _ _ rfl (BI _)).2.1 e he))
theorem abx{x:ah}(hx:ml x)(hy:ml y)(h1:x.getLast?=some t)(h2:y.getLast?=some t):∀e∈gC x y,e<t:=by
 intro e he;have hle:e<=t:=by rcases Sq e he with h|h;exact hx.Zm h1 e h;exact hy.Zm h2 e h
 refine Int.lt_iff_le_and_ne.2 ⟨hle,λh=>?_⟩;subst h;have bD:=Sp hx hy;have h0:=bD.2 e he;have hb:=HL bD.1.nodup bD.2 e.toNat;rw[Sn,Nat.testBit_xor,(hx.top h1).1,(hy.top h2).1]at hb;simp[Int.toNat_of_nonneg h0,he]at hb
theorem ml.len{x:ah}(h:ml x){b:Nat}(hb:∀e∈x,e<b):x.length<=b:=tv h.1.nodup λe he=>⟨h.2 e he,hb e he⟩
def uE(G:ag):List (ByteArray×Int):=(List.range G.length).map λ(i:Nat)=>(fK (gl G i),(i:Int))
theorem Z7{i:Nat}(h:i<G.length):uE (G.take (i+1))=uE (G.take i)++[(fK (gl G i),(i:Int))]:=by
 have e1:(G.take (i+1)).length=i+1:=by simp;omega
 have e2:(G.take i).length=i:=by simp;omega
 unfold uE;rw[e1,e2,lK,iE]
 congr 1
 ·refine ki λj hj=>?_
  have hj:=fo.1 hj;have:gl (G.take (i+1)) j=gl (G.take i) j:=by
   simp only[gl,gx,b5];rw[List.getElem?_take_of_lt (by omega),List.getElem?_take_of_lt hj]
  rw[this]
 have:gl (G.take (i+1)) i=gl G i:=by
  simp only[gl,gx,b5];rw[List.getElem?_take_of_lt (by omega)]
 simp[this]
theorem F5{κ ν:Type}[DecidableEq κ]:∀{L:List (κ×ν)}{x:κ},dh L x=none->∀p∈L,p.1≠x
 |[],_,_=>by simp
 |(z,w)::r,x,h=>by
  simp only[dh]at h
  by_cases e:z=x
  ·rw[aG e]at h;cases h
  ·rw[aD e]at h;intro p hp;rcases gW.1 hp with rfl|hp
   ·exact e
   ·exact F5 h p hp
theorem JB{κ ν:Type}[DecidableEq κ]:∀{L:List (κ×ν)}{x:κ}{u:ν},dh L x=some u->(x,u)∈L
 |(z,w)::r,x,u,h=>by
  simp only[dh]at h
  by_cases e:z=x
  ·rw[aG e]at h;injection h with h;subst e h;simp
  ·rw[aD e]at h;exact fE _ (JB h)
theorem Rw{κ ν:Type}[DecidableEq κ]{L:List (κ×ν)}{x:κ}{u:ν}(h:∀p∈L,p.1≠x):gh L x u=L++[(x,u)]:=by
 induction L with
 |nil=>rfl
 |cons p r ih=>
  obtain⟨z,w⟩:=p;simp only[gh];rw[aD (h (z,w) (by simp)),ih λp hp=>h p (fE _ hp)];rfl
theorem Vx{κ ν:Type}[DecidableEq κ]:∀{L:List (κ×ν)}{x:κ}{u:ν},(L.map (·.1)).Nodup->(x,u)∈L->dh L x=some u
 |(z,w)::r,x,u,hn,h=>by
  simp only[List.map_cons,mj]at hn;simp only[dh];rcases gW.1 h with h|h
  ·injection h with h1 h2;subst h1 h2;rw[aG rfl]
  ·rw[aD λe=>hn.1 (by rw[e];exact de.2 ⟨_,h,rfl⟩)];exact Vx hn.2 h
theorem Z4(hn:G.Nodup){i:Nat}(hi:i<G.length)(hj:j<G.length)(h:gl G i=gl G j):i=j:=by
 rw[df hi,df hj]at h;exact(List.getElem_inj hn).1 h
theorem Z6(hn:G.Nodup):((uE G).map (·.1)).Nodup:=by
 unfold uE;rw[List.map_map,List.Nodup,rV];refine List.Pairwise.imp_of_mem (R:=(· ≠ ·)) ?_ List.nodup_range;intro i j hi hj bN e;exact bN (Z4 hn (fo.1 hi) (fo.1 hj) (C9 e))
theorem aoh(hn:G.Nodup){i:Nat}(h:i<G.length):∀p∈uE (G.take i),p.1≠fK (gl G i):=by
 intro p hp e;have h2:=Z6 (G:=G.take (i+1)) (hn.sublist (List.take_sublist _ _));rw[Z7 h,iE,List.nodup_append]at h2;exact h2.2.2 p.1 (de.2 ⟨p,hp,O⟩) (fK (gl G i)) (by simp) e
def sB(G:ag)(x:ah):Int:=(dh (uE G) (fK x)).getD 0
theorem Z2(hn:G.Nodup){i:Nat}(h:i<G.length):sB G (gl G i)=i:=by
 unfold sB;rw[Vx (Z6 hn) (u:=(i:Int)) (de.2 ⟨i,fo.2 h,rfl⟩)];rfl
theorem HO(hn:G.Nodup){x:ah}(h:x∈G):∃i,i<G.length/\gl G i=x/\sB G x=i:=by
 obtain⟨i,hi,e⟩:=fS.1 h;have e2:gl G i=x:=by rw[df hi];exact e
 exact⟨i,hi,e2,by rw[<-e2];exact Z2 hn hi⟩
def tM(G:ag)(x:ah):ah:=(dT x (x.length-1)).map (sB G)
def BG(G:ag)(x:ah):ah:=G.map λy=>if Ins y x then 1 else 0
def sG:ah->Nat
 |[]=>0
 |a::l=>(if a=1 then 1 else 0)+2*sG l
theorem aaT:∀(l:ah)(j:Nat),(sG l).testBit j=decide (l[j]?=some 1)
 |[],j=>by simp[sG]
 |a::l,0=>by
  rw[sG,Nat.testBit_zero]
  by_cases e:a=1<;>simp[e]<;>omega
 |a::l,j+1=>by
  rw[sG,Nat.testBit_succ];have:((if a=1 then 1 else 0)+2*sG l) / 2=sG l:=by split<;>omega
  rw[this,aaT l j];simp
theorem adS{x:ah}{k:Nat}(hn:G.Nodup)(hs:∀y∈G,SA y/\y.length=k)(hx:SA x)(hl:x.length=k+1)(hG:∀p∈dT x k,p∈G):fF (gv (fb (tM G x)))=sG (BG G x)/\ml (gv (fb (tM G x))):=by
 have hk:x.length-1=k:=by omega
 have h0:∀e∈tM G x,0<=e:=λe he=>by
  unfold tM at he;rw[hk]at he;obtain⟨p,hp,rfl⟩:=de.1 he;obtain⟨i,_,_,h3⟩:=HO hn (hG p hp);omega
 have lZ:(tM G x).Nodup:=by
  unfold tM;rw[hk,List.Nodup,rV];refine List.Pairwise.imp_of_mem (R:=(· ≠ ·)) ?_ (Lu hx).nodup;intro p q hp hq bN e;obtain⟨i,hi,h2,h3⟩:=HO hn (hG p hp);obtain⟨j,hj,h4,h5⟩:=HO hn (hG q hq);have:i=j:=by omega
  subst this;exact bN (h2.symm.trans h4)
 refine⟨?_,Tb (BI _) λe he=>h0 e ((tD _).subset he)⟩;rw[(Di _ _ rfl (BI _)).2.2,QZ (tD _)];apply Nat.eq_of_testBit_eq;intro j;rw[HL lZ h0,aaT];apply kl.2;unfold BG;rw[List.getElem?_map];constructor
 ·intro hj;unfold tM at hj;rw[hk]at hj;obtain⟨p,hp,e⟩:=de.1 hj;obtain⟨i,hi,h2,h3⟩:=HO hn (hG p hp);obtain rfl:i=j:=by omega
  rw[fL hi];have e2:G[i]=p:=by rw[<-df hi];exact h2
  rw[e2,Option.map_some,aG (Ins.Lj (oF.1 hp).1)]
 intro hj
 by_cases gp:j<G.length
 ·rw[fL gp,Option.map_some]at hj
  by_cases hI:Ins G[j] x
  ·have hy:=hs G[j] (dt _);have hp:gl G j∈dT x k:=by
    rw[df gp];exact oF.2 ⟨Ins.sub hy.1 hx hI,hy.2⟩
   unfold tM;rw[hk];exact de.2 ⟨_,hp,Z2 hn gp⟩
  rw[aD hI]at hj;cases hj
 rw[oP (by omega)]at hj;cases hj
end
section
open Go.RowKit
theorem aot{l:ah}{k:Nat}(h:k<l.length):gv (l.take (k+1))=sE (gv (l.take k)) (gi l k):=by rw[lG h,aad]
theorem aos(l:ah):(gv l).length<=l.length:=by
 have gen:∀l acc:ah,(l.foldl sE acc).length<=acc.length+l.length:=by
  intro l
  induction l with
  |nil=>intro acc;simp
  |cons a t ih=>
   intro acc;have h1:=ih (sE acc a);have h2:(sE acc a).length<=acc.length+1:=by unfold sE;split<;>simp<;>omega
   simp only[List.foldl_cons,List.length_cons];omega
 simpa[gv]using gen l []
theorem HE{l:ah}{k:Nat}(h:l.length=k+1):l.getLast?=some (gi l k):=by
 rw[List.getLast?_eq_getElem?,h,Nat.add_sub_cancel,b7 (by omega),fL]
theorem HQ{w0 w:aa}{ks:List Ck}(i:Nat){A:ai}{n c:Nat}{xs:ah}(hS:St w0 w ks)(hk:ks[i]?=some (av 2 A n c xs))(hn:n<=1000000000):
 aF prog 159 [.slice A n c] w (λv w'=>∃A' c',v=.slice A' (gv (fb xs)).length c'/\St w0 w' (av 2 A' (gv (fb xs)).length c' (gv (fb xs))::ks.set i (av 2 A n c (fb xs)))):=by
 have cT:=hS.Bw i hk;have EH:(fb xs).length=n:=by rw[(tD xs).length_eq];exact cT
 refine bn func159 O ntmps159 O (bM O) (aY O (aI (abr i hS hk hn) O ?_));rintro _ w1 ⟨rfl,ax⟩;have jr:(ks.set i (av 2 A n c (fb xs)))[i]?=some (av 2 A n c (fb xs)):=by rw[List.getElem?_set_self (iD.1 hk).1]
 generalize ks.set i (av 2 A n c (fb xs))=cq at*;generalize yV:fb xs=ys at*;clear hS hk;refine aq O (aR O O (ay O ?_));refine Cd.loop (α:=Nat×ai×Nat) (λz=>[(3,.slice z.2.1 (gv (ys.take z.1)).length z.2.2),(8,.slice A n c),(9,aj n),(10,aj (z.1:Int))]) (λz w'=>z.1<=n/\St w0 w' (av 2 z.2.1 (gv (ys.take z.1)).length z.2.2 (gv (ys.take z.1))::cq)) (λz=>n-z.1) (0,none,0) (auV O) ⟨bl _,ax.nil _⟩ ?_;clear ax;rintro⟨k,A3,c3⟩ e w2 ⟨hk,hS⟩;dsimp only at hk hS|-;refine bC O (aK _ O (λh1=>?_) (λh1=>?_))
 ·have ku:=aot (l:=ys) (k:=k) ac;have G8:=aos (ys.take k);rw[jG]at G8;have hR:=hS.bF (i+1) (by rw[List.getElem?_cons_succ];exact jr);generalize uh:gv (ys.take k)=out at*;generalize Pm:gi ys k=el at*;refine aC O (aA hR.2 O (bg hR O ?_));rw[Pm];refine aq O (aR O O (aq O ?_));refine b9 17 O (λh2=>?_) (λh2=>?_)
  ·obtain⟨m,hm⟩:∃m,out.length=m+1:=⟨out.length-1,ac⟩;have kO:=HE hm;have e1:((out.length:Int)-1)=(m:Int):=by omega
   have h0:bu w2 A3 out.length out:=hS.bF 0 O;refine ar O (aq O (ar O (aq O (ar O (aR O O (ar O (cV O (ar O ?_))))))));refine aA h0.2 O (ar O (bg h0 O ?_));rw[e1];refine ar O (aq O (ar O (ay O ?_)));refine aK _ O (λh3=>?_) (λh3=>?_)
   ·have Bb:sE out el=out.take m:=by
     unfold sE;rw[aG (by rw[kO,h3]),List.dropLast_eq_take,hm,Nat.add_sub_cancel]
    have hlen:(out.take m).length=m:=by simp;omega
    have Ej:out.length<=c3:=(hS.cap 0 O).1;refine aC O (aR O O (cV O ?_));refine rW O O O ac (aq O (aJ O (aN O (tQ ?_))));refine⟨(k+1,A3,c3),by show n-(k+1)<n-k;omega,⟨?_,O,O,O,au⟩,by show k+1<=n;omega,?_⟩
    ·show Value.slice A3 (((out.length:Int)-1).toNat) c3=.slice A3 (gv (ys.take (k+1))).length c3;rw[ku,Bb,hlen,e1];rfl
    show St w0 _ (av 2 A3 (gv (ys.take (k+1))).length c3 (gv (ys.take (k+1)))::cq);rw[ku,Bb,hlen];exact hS.abo 0 O m ac
   have Bb:sE out el=out++[el]:=by
    unfold sE;rw[aD (by rw[kO];intro h;exact h3 (cn h))]
   refine aC O (eh hS O O O ?_);intro A4 w3 aM;refine eQ 1 aM O (aM.bF 0 O) O O O λA5 c5 w4 aU=>aq O (aJ O (aN O (tQ ?_)));refine⟨(k+1,A5,c5),by show n-(k+1)<n-k;omega,⟨?_,O,O,O,au⟩,by show k+1<=n;omega,?_⟩
   ·show Value.slice A5 (out.length+1) c5=.slice A5 (gv (ys.take (k+1))).length c5;rw[ku,Bb,cj];rfl
   show St w0 _ (av 2 A5 (gv (ys.take (k+1))).length c5 (gv (ys.take (k+1)))::cq);rw[ku,Bb,cj];exact St.tail aU
  have oA:out=[]:=iL ac;have Bb:sE out el=out++[el]:=by
   unfold sE;rw[aD (by rw[oA];simp)]
  refine aB O (aB O (aB O (aB O (aB O (aB O (aB O (aB O (ay O ?_))))))));refine Cd.cX O (aC O (eh hS O O O ?_));intro A4 w3 aM;refine eQ 1 aM O (aM.bF 0 O) O O O λA5 c5 w4 aU=>aq O (aJ O (aN O (tQ ?_)));refine⟨(k+1,A5,c5),by show n-(k+1)<n-k;omega,⟨?_,O,O,O,au⟩,by show k+1<=n;omega,?_⟩
  ·show Value.slice A5 (out.length+1) c5=.slice A5 (gv (ys.take (k+1))).length c5;rw[ku,Bb,cj];rfl
  show St w0 _ (av 2 A5 (gv (ys.take (k+1))).length c5 (gv (ys.take (k+1)))::cq);rw[ku,Bb,cj];exact St.tail aU
 obtain rfl:k=n:=by omega
 rw[jw (by omega)]at hS|-;refine ba O (bc (ew O ?_));exact dV O ⟨A3,c3,O,hS⟩
theorem arD(A:ai)(c:Nat)(w:aa):aF prog 81 [.slice A 0 c] w (λv w'=>v=.tuple #[]/\w'=w):=
 Calls.mono (AnyM.slices_Sort_int_none QU A c w) λx w' ⟨hx,hw⟩=>⟨_,hx,rfl,hw⟩
theorem aor(A:ai)(c:Nat)(w:aa):aF prog 159 [.slice A 0 c] w (λv w'=>v=.slice none 0 0/\w'=w):=by
 refine bn func159 O ntmps159 O (bM O) (aY O (aI (arD A c _) O ?_));rintro _ w ⟨rfl,rfl⟩;refine aq O (aR O O (ay O ?_));refine Cd.loop (α:=Unit) (λz=>[(3,.slice none 0 0),(9,aj 0),(10,aj 0)]) (λz w'=>w'=w) (λz=>0) () (auV O) O ?_;rintro z e w1 rfl;refine bC O (fq O ?_);refine ba O (bc (ew O ?_));exact dV O ⟨O,O⟩
theorem acn(n:Nat)(w:aa)(hn:n<=1000000000):
 aF prog 215 [.slice none 0 0,aj n] w (λv w'=>∃A c,v=.slice A 0 c/\n<=c/\St w w' [av 2 A 0 c []]):=by
 refine bn func215 O ntmps215 O (bM O) (bC O (fq O (aC O (Iy O O ?_))));refine aq O (aR O O (cV O (cV O (ay O ?_))));refine aK _ O (λh1=>?_) (λh1=>?_)
 ·refine aC O (Iy O O ?_);refine rW O O O (by simp) ?_;refine aq O ?_;refine Tc n ac (St.refl w) O (by show Value.int _ _=.int _ _;congr 1) O O (by simp only[maxLen];omega) ac O ?_;intro A c w1 ni ax;refine aq O (aR O O ?_);refine rW O O O (by simp) ?_;refine bR O (dV O ?_);exact⟨A,c,O,ni,ax⟩
 refine dE O (dV O ?_);exact⟨none,0,O,ac,(St.refl w).nil _⟩
theorem Iq(Aq:ai)(s t:aE)(x y:ah)(w:aa)(hQ:fu w Aq 2 [s,t])(hx:bu w s.a s.n x)(hy:bu w t.a t.n y)(hn:s.n+t.n<=100000000):
 aF prog 194 [.slice Aq 2 2] w (λv w'=>∃A' c',v=.slice A' (x++y).length c'/\St w w' [av 2 A' (x++y).length c' (x++y)]):=by
 have cT:=hx.1;have nO:=hy.1;refine bn func194 O ntmps194 O (bM O) ?_;refine aY O (aR O O (ay O ?_));have e0:rg [s,t] ((0:Nat):Int)=s:=O;have e1:rg [s,t] ((1:Nat):Int)=t:=O;refine Cd.loop (α:=Nat×Nat) (λk=>[(0,.slice Aq 2 2),(3,aj (k.2:Int)),(9,.slice Aq 2 2),(10,aj 2),(11,aj (k.1:Int))]) (λk w'=>w'=w/\k.1<=2/\k.2=if k.1=0 then 0 else if k.1=1 then s.n else s.n+t.n) (λk=>2-k.1) (0,0) (auV O) ⟨O,am,O⟩ ?_;rintro⟨k,m⟩ e w1 ⟨rfl,hk,hm⟩;dsimp only at hk hm|-;refine bC O (aK _ O (λh1=>?_) (λh1=>?_))
 ·rcases(show k=0\/k=1 by omega)with rfl|rfl
  ·obtain rfl:m=0:=hm;refine aC O (aA hQ.2 O ?_);refine auQ (i:=((0:Nat):Int)) hQ O (by simp) O O ?_;rw[e0];refine aq O (aR O O (aJ O (ay O ?_)));refine fq O (aC O (aJ O (aN O (tQ ?_))));exact⟨(1,s.n),by show 2-1<2-0;omega,⟨O,by show Value.int .i64 (((0:Nat):Int)+(s.n:Int))=aj (s.n:Int);congr 1;omega,O,O,O,au⟩,O,by show 1<=2;omega,O⟩
  obtain rfl:m=s.n:=hm;refine aC O (aA hQ.2 O ?_);refine auQ (i:=((1:Nat):Int)) hQ O (by simp) O O ?_;rw[e1];refine aq O (aR O O (aJ O (ay O ?_)));refine fq O (aC O (aJ O (aN O (tQ ?_))));exact⟨(2,s.n+t.n),by show 2-2<2-1;omega,⟨O,by show Value.int .i64 ((s.n:Int)+(t.n:Int))=aj ((s.n+t.n:Nat):Int);congr 1,O,O,O,au⟩,O,by show 2<=2;omega,O⟩
 obtain rfl:k=2:=by omega
 obtain rfl:m=s.n+t.n:=hm;refine ba O (bc (bY O ?_));refine aI (acn (s.n+t.n) _ ac) O ?_;rintro _ w2 ⟨A6,c6,rfl,ni,az⟩;refine aq O (aR O O (ay O ?_));refine Cd.loop (α:=Nat×ai×Nat×ah) (λk=>[(6,.slice k.2.1 k.2.2.2.length k.2.2.1),(25,.slice Aq 2 2),(26,aj 2),(27,aj (k.1:Int))]) (λk w'=>St w1 w' [av 2 k.2.1 k.2.2.2.length k.2.2.1 k.2.2.2]/\k.1<=2/\k.2.2.2=if k.1=0 then[]else if k.1=1 then x else x++y) (λk=>2-k.1) (0,A6,c6,[]) (auV O) ⟨az,by show 0<=2;omega,O⟩ ?_;rintro⟨k,A6,c6,zs⟩ e w3 ⟨aM,hk,hm⟩;dsimp only at aM hk hm|-;have yj:=aM.pc hQ;refine bC O (aK _ O (λh2=>?_) (λh2=>?_))
 ·rcases(show k=0\/k=1 by omega)with rfl|rfl
  ·obtain rfl:zs=[]:=hm;refine aC O (aA yj.2 O ?_);refine auQ (i:=((0:Nat):Int)) yj O (by simp) O O ?_;rw[e0];refine aq O ?_;refine auS 0 aM O (aM.dq hx) O O O (by simp;omega) (by simp;omega) O ?_;intro A7 c7 w4 aU;refine aq O (aJ O (aN O (tQ ?_)));refine⟨(1,A7,c7,x),by show 2-1<2-0;omega,⟨by show Value.slice A7 (0+s.n) c7=.slice A7 x.length c7;rw[cT,Nat.zero_add],O,O,O,au⟩,?_,by show 1<=2;omega,O⟩;show St w1 w4 [av 2 A7 x.length c7 x];have h5:St w1 w4 [av 2 A7 (0+s.n) c7 x]:=aU;rw[cT]
   rwa[Nat.zero_add]at h5
  obtain rfl:zs=x:=hm;refine aC O (aA yj.2 O ?_);refine auQ (i:=((1:Nat):Int)) yj O (by simp) O O ?_;rw[e1];refine aq O (eQ 0 aM O (aM.dq hy) O O O ?_);intro A7 c7 w4 aU;refine aq O (aJ O (aN O (tQ ?_)));refine⟨(2,A7,c7,zs++y),by show 2-2<2-1;omega,⟨by show Value.slice A7 (zs.length+t.n) c7=.slice A7 (zs++y).length c7;rw[cj,nO],O,O,O,au⟩,?_,by show 2<=2;omega,O⟩;show St w1 w4 [av 2 A7 (zs++y).length c7 (zs++y)];rw[cj,nO];exact aU
 obtain rfl:k=2:=by omega
 obtain rfl:zs=x++y:=hm;refine ba O (bc (ew O ?_));exact dV O ⟨A6,c6,O,aM⟩
end
section
open Go.RowKit Go.MapKept
section
variable {κ ν:Type} [DecidableEq κ]
def km:List (κ×ν)->κ->List (κ×ν)
 |[],_=>[]
 |(y,v)::r,x=>if y=x then r else(y,v)::km r x
theorem Uw:∀{L:List (κ×ν)}{x:κ}{j:Nat}{v:ν},oW L x=some (j,v)->km L x=L.eraseIdx j
 |(y,w)::r,x,j,v,h=>by
  simp only[oW]at h
  split at h
  ·rename_i e;simp only[oh,Prod.mk.injEq]at h;obtain⟨rfl,rfl⟩:=h;simp only[km,aG e,List.eraseIdx_zero,List.tail_cons]
  ·rename_i e;cases hf:oW r x with
   |none=>simp[hf]at h
   |some p=>
    simp only[hf,Option.map_some,oh,Prod.mk.injEq]at h;obtain⟨rfl,rfl⟩:=h;simp only[km,aD e,List.eraseIdx_cons_succ,Uw (L:=r) (x:=x) (j:=p.1) (v:=p.2) hf]
theorem Uv:∀{L:List (κ×ν)}{x:κ},oW L x=none->km L x=L
 |[],_,_=>rfl
 |(y,w)::r,x,h=>by
  simp only[oW]at h
  split at h
  ·cases h
  ·rename_i e;rw[Option.map_eq_none_iff]at h;simp only[km,aD e,Uv h]
theorem Nk:∀(L:List (κ×ν))(x:κ),(km L x).Sublist L
 |[],_=>.slnil
 |(y,v)::r,x=>by
  simp only[km]
  split
  ·exact(fD _).cons _
  ·exact(Nk r x).cons_cons _
theorem Vw:∀{L:List (κ×ν)}{x:κ},x∉L.map (·.1)->dh L x=none
 |[],_,_=>rfl
 |(y,v)::r,x,h=>by
  simp only[List.map_cons,gW,not_or]at h;simp only[dh,aD (λe:y=x=>h.1 e.symm),Vw h.2]
theorem Vr:∀{L:List (κ×ν)}{x y:κ},(L.map (·.1)).Nodup->dh (km L x) y=if x=y then none else dh L y
 |[],x,y,_=>by simp[km,dh]
 |(z,v)::r,x,y,h=>by
  simp only[List.map_cons,mj]at h;simp only[km]
  split
  ·rename_i e;subst e
   split
   ·rename_i e;subst e;exact Vw h.1
   ·rename_i e;simp only[dh,aD e]
  ·rename_i e;simp only[dh,Vr (L:=r) (x:=x) (y:=y) h.2]
   by_cases e2:z=y
   ·subst e2;rw[aG rfl,aD (λq=>e q.symm),aG rfl]
   ·rw[aD e2,aD e2]
theorem aaB(L:List (κ×ν))(x:κ)(u:ν):∀y,y∈(gh L x u).map (·.1)↔y=x\/y∈L.map (·.1):=by
 induction L with
 |nil=>intro y;simp[gh]
 |cons p r ih=>
  obtain⟨z,w⟩:=p;intro y;simp only[gh]
  split
  ·rename_i e;subst e;simp
  ·simp only[List.map_cons,gW,ih];exact⟨λh=>by rcases h with h|h|h<;>simp[h],λh=>by rcases h with h|h|h<;>simp[h]⟩
theorem Rv:∀{L:List (κ×ν)}{x:κ}{u:ν},(L.map (·.1)).Nodup->((gh L x u).map (·.1)).Nodup
 |[],x,u,_=>by simp[gh]
 |(z,v)::r,x,u,h=>by
  simp only[List.map_cons,mj]at h;simp only[gh]
  split
  ·rename_i e;subst e;simp only[List.map_cons,mj];exact h
  ·rename_i e;simp only[List.map_cons,mj];refine⟨λhm=>?_,Rv h.2⟩;rcases(aaB r x u z).1 hm with h1|h1
   ·exact e h1
   ·exact h.1 h1
theorem afz{L:List (κ×ν)}{x:κ}(h:(L.map (·.1)).Nodup):((km L x).map (·.1)).Nodup:=h.sublist ((Nk L x).map _)
theorem apq(L:List (κ×ν))(x:κ)(u:ν):(gh L x u).Perm ((x,u)::km L x):=by
 induction L with
 |nil=>exact .refl _
 |cons p r ih=>
  obtain⟨z,w⟩:=p;simp only[gh,km]
  split
  ·rename_i e;exact .refl _
  ·exact(ih.cons _).trans (.swap _ _ _)
theorem VA:∀{L:List (κ×ν)}{x:κ}{u:ν},dh L x=some u->L.Perm ((x,u)::km L x)
 |(z,w)::r,x,u,h=>by
  simp only[dh]at h;simp only[km]
  split at h
  ·rename_i e;subst e;injection h with h
   subst h;rw[aG rfl]
  ·rename_i e;rw[aD e];exact((VA h).cons _).trans (.swap _ _ _)
theorem NU:∀{L:List (κ×ν)}{x:κ},dh L x=none->km L x=L
 |[],_,_=>rfl
 |(z,w)::r,x,h=>by
  simp only[dh]at h;simp only[km]
  split at h
  ·cases h
  ·rename_i e;rw[aD e,NU h]
end
section
variable {P:Program}{N:Nat}{ops:Array Oper}{K:Env->aa->Prop}{rest:List Oper}{e:Env}{w0 w w':aa}{ks:List Ck}{d:Nat}{ty:ad}{pos:String}{af:Array Edge}
variable {κ ν:Type} [DecidableEq κ] {kd:TypeDesc}{kv:κ->ab}{vv:ν->ab}
theorem Nx{α β:Type}(f:α->β):∀(l:List α)(j:Nat),(l.eraseIdx j).map f=(l.map f).eraseIdx j
 |[],_=>rfl
 |_::_,0=>rfl
 |a::r,j+1=>by simp only[List.eraseIdx_cons_succ,List.map_cons,Nx f r j]
theorem ap7{t kt et T:ad}[hU:bJ P t (.map kt et)][hk:bJ P kt kd](KT:qj kd kv){g:Nat}{L:List (κ×ν)}(i:Nat)(x:κ)(K8:ad)(hS:St w0 w ks)(hi:ks[i]?=some (fc T g (dZ kv vv L))):
 ∃w',(Builtin.delete_ #[t,K8] ty #[.map (some g),kv x]).run P w=.ok (.tuple #[]) w'/\St w0 w' (ks.set i (fc T g (dZ kv vv (km L x)))):=by
 obtain⟨_,es,cl,hh,hm,qN⟩:=hS.Lo i hi;have hf:=Jv (vv:=vv) KT x es.toList L 0 hm;have yq:=MapKept.run_findKey (P:=P) (w:=w) hk.out hf;cases ox:oW L x with
 |none=>
  refine⟨{ w with heap:=w.heap.setIfInBounds g (.map es cl) },?_,hS.Ma hi ?_ qN⟩
  ·simp[Builtin.delete_,run_underlying hU.out,MapKept.run_getObj_map hh,MapKept.run_checkKey hk.out (KT.isKey x),yq,ox,MapKept.run_setObj_map _ hh,Result.andThen]
  ·rw[Uv ox];exact hm
 |some p=>
  obtain⟨j,v⟩:=p;refine⟨{ w with heap:=w.heap.setIfInBounds g (.map (es.eraseIdxIfInBounds j) cl) },?_,hS.Ma hi ?_ (anN qN (by
   unfold Array.eraseIdxIfInBounds
   split
   ·rw[Array.toList_eraseIdx];exact List.eraseIdx_sublist _ _
   ·exact fD _))⟩
  ·simp[Builtin.delete_,run_underlying hU.out,MapKept.run_getObj_map hh,MapKept.run_checkKey hk.out (KT.isKey x),yq,ox,MapKept.run_setObj_map _ hh,Result.andThen]
  ·rw[Uw ox];have e1:(es.eraseIdxIfInBounds j).toList=es.toList.eraseIdx j:=by
    unfold Array.eraseIdxIfInBounds
    split
    ·rw[Array.toList_eraseIdx]
    ·rename_i h;rw[List.eraseIdx_of_length_le (by simpa using h)]
   rw[e1,Nx,hm];unfold dZ;rw[Nx]
theorem acM{t kt et T K8:ad}{m k:ae}[hU:bJ P t (.map kt et)][bJ P kt kd](KT:qj kd kv){g:Nat}{L:List (κ×ν)}(i:Nat){a:κ}(hS:St w0 w ks)(hi:ks[i]?=some (fc T g (dZ kv vv L)))(hm:ev e m=.map (some g))(hk:ev e k=kv a)(hK:∀w',St w0 w' (ks.set i (fc T g (dZ kv vv (km L a))))->ak P N ops K rest e w'):ak P N ops K (⟨none,.call ⟨.builtin .delete, #[m,k], #[t,K8]⟩,ty,pos,af,none⟩::rest) e w:=by
 obtain⟨w',jI,mu⟩:=ap7 (P:=P) (t:=t) (ty:=ty) KT i a K8 hS hi;refine .abT (w':=w') (v:=.tuple #[]) ?_ (hK _ mu);simp[execOp,resolve,invoke,builtin,hm,hk,jI]
end
section
variable {P:Program}{N:Nat}{ops:Array Oper}{K:Env->aa->Prop}{rest:List Oper}{e:Env}{w0 w w':aa}{ks:List Ck}{d:Nat}{ty:ad}{pos:String}{af:Array Edge}
theorem FD{κ ν:Type}[DecidableEq κ]{kd:TypeDesc}{kv:κ->ab}{vv:ν->ab}{t kt et:ad}{z v:ab}{s b:Nat}[bJ P t (.map kt et)][bJ P kt kd][bL P et z s b](KT:qj kd kv){g:Nat}{L:List (κ×ν)}{m ix:ae}{x:κ}(hR:mQ w g (dZ kv vv L))(hx:ev e m=.map (some g))(hy:ev e ix=kv x)(hv:((dh L x).map vv).getD z=v)(hb:Nat.blt d N=true)(hK:ak P N ops K rest (bE e d (.tuple #[v,.bool (dh L x).isSome])) w):ak P N ops K (⟨some d,.lookup t m ix true,ty,pos,af,none⟩::rest) e w:=by
 subst hv;refine .val (w':=w) ?_ hb hK;have:=RO (P:=P) (t:=t) (x:=x) KT hR true;simp[execOp,hx,hy,this]
end
def yZ(l:ah):ab:=.string (fK l)
theorem EP:qj .string yZ:=⟨λ_=>au,λa b h=>C9 (by injection h)⟩
abbrev nz:=ah×aE×ah
def EU(u:aE×ah):ab:=u.1.v
def qd(t:ad)(M:List nz):List Ck:=M.map λp=>av t p.2.1.a p.2.1.n p.2.1.c p.2.2
def jA(M:List nz)(x:ah):aE:=((dh M x).map (·.1)).getD bI
def jO(M:List nz)(x:ah):ah:=((dh M x).map (·.2)).getD []
section
variable {w0 w w':aa}{ks pre:List Ck}{t:ad}{M:List nz}{x:ah}
theorem N3{u:aE×ah}(h:dh M x=some u):jA M x=u.1/\jO M x=u.2:=by simp[jA,jO,h]
theorem VD(h:dh M x=none):jA M x=bI/\jO M x=[]:=by simp[jA,jO,h]
theorem St.abG(h:St w0 w (pre++(qd t M++ks))):St w0 w (av t (jA M x).a (jA M x).n (jA M x).c (jO M x)::(pre++(qd t (km M x)++ks))):=by
 cases hg:dh M x with
 |none=>
  rw[(VD hg).1,(VD hg).2,NU hg];exact h.nil t
 |some u=>
  rw[(N3 hg).1,(N3 hg).2];refine h.perm ?_;have h1:(qd t M).Perm (av t u.1.a u.1.n u.1.c u.2::qd t (km M x)):=(VA hg).map _;exact((h1.append_right ks).append_left pre).trans mO
theorem Tv{u:aE×ah}(h:St w0 w (av t u.1.a u.1.n u.1.c u.2::(pre++(qd t (km M x)++ks)))):St w0 w (pre++(qd t (gh M x u)++ks)):=by
 refine h.perm ?_;have h1:(av t u.1.a u.1.n u.1.c u.2::qd t (km M x)).Perm (qd t (gh M x u)):=((apq M x u).map λp:nz=>av t p.2.1.a p.2.1.n p.2.1.c p.2.2).symm;exact mO.symm.trans ((h1.append_right ks).append_left pre)
theorem MH(h:St w0 w (pre++(qd t M++ks))):bu w (jA M x).a (jA M x).n (jO M x):=(h.abG (x:=x)).bF 0 rfl
theorem ac5(h:St w0 w (pre++(qd t M++ks))):St w0 w (pre++(qd t (km M x)++ks)):=h.sub (((((Nk M x).map _).append_right ks)).append_left pre)
end
end
section
open Go.RowKit
abbrev KE:=Int×(aE×ah)
def LC(u:aE×ah):ab:=.agg #[.slice none 0 0,.slice u.1.a u.1.n u.1.c]
def Mu(b:Nat)(p:KE):Prop:=(ml p.2.2/\∀e∈p.2.2,e<b)/\p.2.2.getLast?=some p.1
def sK(M:List KE):List Nat:=M.map λp=>fF p.2.2
def HM(x:ah):Nat:=match x.getLast? with|some t=>t.toNat+1|none=>0
theorem ZM{x y:ah}{t:Int}(h:x.getLast?=some t)(hy:∀e∈y,0<=e/\e<t)(h0:0<=t):HM y<HM x:=by
 unfold HM;rw[h];cases e:y.getLast? with
 |none=>show 0<t.toNat+1;omega
 |some u=>
  have:=hy u (by rw[F6 e];simp);show u.toNat+1<t.toNat+1;omega
abbrev jf(A:ai)(s:aE):Ck:=Bx 157 2 A [.slice none 0 0,.slice s.a s.n s.c]
theorem sA{w0 w:aa}{ks:List Ck}{t:ad}{A:ai}{n c:Nat}{xs:ah}(h:St w0 w ks)(hm:av t A n c xs∈ks):bu w A n xs:=by
 obtain⟨i,hi⟩:=List.mem_iff_getElem?.1 hm;exact h.bF i hi
theorem apJ(g:Nat)(M:List KE)(s:aE)(x:ah)(b:Nat)(w:aa)(hM:mQ w g (dZ (Value.int .i64) LC M))(OW:∀p∈M,bu w p.2.1.a p.2.1.n p.2.2/\Mu b p)(hx:bu w s.a s.n x)(hX:ml x/\∀e∈x,e<b)(hb:b<=1000000):
 aF prog 158 [.map (some g),.agg #[.slice none 0 0,.slice s.a s.n s.c]] w (λv w'=>∃s' x' X,v=LC (s',x')/\(ml x'/\∀e∈x',e<b)/\fF x^^^fF x'∈fm (sK M)/\(∀t,x'.getLast?=some t->dh M t=none)/\St w w' X/\(s'=s/\x'=x\/av 2 s'.a s'.n s'.c x'∈X)):=by
 refine bn func158 O ntmps158 O (BA O O) (aY O (nB (St.refl w) O O ?_));intro P3 w1 ax;refine kM ax O λP4 w2 az=>ay O ?_;have az:St w w2 (jf P3 s::jf P4 ⟨none,0,0⟩::[]):=az.swap;refine Cd.loop (α:=aE×ah×List Ck) (λz=>[(0,.map (some g)),(3,.pointer P3),(4,.pointer P4)])
  (λz w'=>(ml z.2.1/\∀e∈z.2.1,e<b)/\fF x^^^fF z.2.1∈fm (sK M)/\(z.1=s/\z.2.1=x\/av 2 z.1.a z.1.n z.1.c z.2.1∈z.2.2)/\St w w' (jf P3 z.1::jf P4 ⟨none,0,0⟩::z.2.2)) (λz=>HM z.2.1) (s,x,[]) ⟨rfl,rfl,rfl,au⟩ ⟨hX,by show fF x^^^fF x∈_;rw[Nat.xor_self];exact Fh _,.inl ⟨rfl,rfl⟩,az⟩ ?_
 clear az ax;rintro⟨u,y,X⟩ e w3 ⟨hy,lu,l5,hS⟩;dsimp only at hy lu l5 hS|-;have xi:bu w3 u.a u.n y:=by
  rcases l5 with⟨rfl,rfl⟩|h
  ·exact hS.dq hx
  ·exact sA hS (fE _ (fE _ h))
 have nO:=xi.1;have KW:=hy.1.len hy.2;have ia:=hS.rd 0 O;have jP:=hS.rd 1 O;refine aY O (aS ia O (a6 ia O ?_));refine aR O O (ay O ?_);refine aK _ O (λh1=>?_) (λh1=>?_)
 ·obtain⟨m,hm⟩:∃m,y.length=m+1:=⟨y.length-1,ac⟩;have kO:=HE hm;have e1:((u.n:Int)-1)=(m:Int):=by omega
  have h0:=hy.1.2 _ (show gi y m∈y by rw[b7 (by omega)];exact dt _);generalize ht:gi y m=t at*;refine aC O (aS ia O (a6 ia O (aS ia O (a6 ia O ?_))));refine aR O O (cV O ?_);refine aA xi.2 O (bg xi O ?_);rw[e1,ht];cases hg:dh M t with
  |none => --dup 2
   refine FD (v:=.agg #[.slice none 0 0,.slice none 0 0]) vI (x:=t) (hS.Ll hM) O O (by rw[hg];try rfl) O ?_;rw[hg];refine aq O (kM hS O ?_);intro P5 w4 aU;refine dU 2 0 aU O O O O O O O ?_;intro w5 aO;have aO:St w w5 (jf P5 ⟨none,0,0⟩::jf P3 u::jf P4 ⟨none,0,0⟩::X):=aO;refine aq O ?_
   first|refine cO rfl rfl ?_|refine dv rfl rfl ?_
   refine ay O (Cd.iw O (aC O (cG 1 (aO.rd 1 O) O O O (dU 2 2 aO O O O O O O O ?_))));intro w6 bk;have bk:St w w6 (jf P5 ⟨none,0,0⟩::jf P3 u::jf P4 u::X):=bk;refine bR O (fz (fe ?_));refine⟨P4,_,O,bk.rd 2 O,u,y,_,O,hy,lu,λt' h'=>?_,bk,?_⟩
   ·rw[kO]at h';cases h';exact hg
   ·exact l5.imp id λh=>by simp[h]
  |some p=>
   have kG:=JB hg;obtain⟨Kx,uj,ui⟩:=OW _ kG;dsimp only at Kx uj ui;obtain⟨s2,z⟩:=p;dsimp only at Kx uj ui;refine FD (v:=.agg #[.slice none 0 0,.slice s2.a s2.n s2.c]) vI (x:=t) (hS.Ll hM) O O (by rw[hg];try rfl) O ?_;rw[hg];refine aq O (kM hS O ?_);intro P5 w4 aU;refine dU 2 0 aU O O O O O O O ?_;intro w5 aO;have aO:St w w5 (jf P5 s2::jf P3 u::jf P4 ⟨none,0,0⟩::X):=aO;refine aq O ?_
   first|refine cO rfl rfl ?_|refine dv rfl rfl ?_
   refine ay O (Cd.cX O ?_);have mE:=Kx.1;have Hx:=aO.dq Kx;have ali:bu w5 u.a u.n y:=by
    rcases l5 with⟨rfl,rfl⟩|h
    ·exact aO.dq hx
    ·exact sA aO (fE _ (fE _ (fE _ h)))
   have C8:=uj.1.len uj.2;have aw:gC y z=gv (fb (y++z)):=O;have JM:=aO.rd 1 O;have zY:=aO.rd 0 O;clear hS aU ia jP;refine cM O ?_;refine iu [13,15] [yP (aH (P3) 0),yS (none) (0) (0),yP (aH (P5) 0),yS (none) (0) (0),.pr (λv w'=>∃A,v=.slice A 2 2/\fu w' A 2 [bI,bI]),.pr (λv w'=>∃A c,v=.slice A 0 c),yS (none) (0) (0),yP (aH (P3) 1),yS (u.a) (u.n) (u.c),yP (aH (P5) 1),yS (s2.a) (s2.n) (s2.c),.pr (λv w'=>∃A,v=.slice A 2 2/\fu w' A 2 [u,s2]),.pr (λv w'=>∃A c,v=.slice A (y++z).length c/\St w5 w' [av 2 A (y++z).length c (y++z)]),.pr (λv w'=>∃A c Ac cc,v=.slice A (gC y z).length c/\St w w' (av 2 A (gC y z).length c (gC y z)::av 2 Ac (y++z).length cc (fb (y++z))::jf P5 s2::jf P3 u::jf P4 ⟨none,0,0⟩::X)),.pr (λv w'=>∃A c Ac cc,v=.agg #[.slice none 0 0,.slice A (gC y z).length c]/\St w w' (av 2 A (gC y z).length c (gC y z)::av 2 Ac (y++z).length cc (fb (y++z))::jf P5 s2::jf P3 u::jf P4 ⟨none,0,0⟩::X)),.pr (λ_ w'=>∃A c Ac cc,St w w' (av 2 A (gC y z).length c (gC y z)::av 2 Ac (y++z).length cc (fb (y++z))::jf P5 s2::jf P3 ⟨A,(gC y z).length,c⟩::jf P4 ⟨none,0,0⟩::X))] (ly (ly (ly (ly (bV.2 ⟨Ye.bW (λv w w' h hb=>by obtain⟨A,hv,hT⟩:=h;exact⟨A,hv,hT.ao hb⟩),(bV.2 ⟨Ye.bW (λv w w' h hb=>h),(ly (ly (ly (ly (ly (bV.2 ⟨Ye.bW (λv w w' h hb=>by obtain⟨A,hv,hT⟩:=h;exact⟨A,hv,hT.ao hb⟩),(bV.2 ⟨Ye.bW (λv w w' h hb=>by obtain⟨A,c,hv,hT⟩:=h;exact⟨A,c,hv,hT.ao hb⟩),(bV.2 ⟨Ye.bW (λv w w' h hb=>by obtain⟨A,c,Ac,cc,hv,hT⟩:=h;exact⟨A,c,Ac,cc,hv,hT.ao hb⟩),(bV.2 ⟨Ye.bW (λv w w' h hb=>by obtain⟨A,c,Ac,cc,hv,hT⟩:=h;exact⟨A,c,Ac,cc,hv,hT.ao hb⟩),(bV.2 ⟨Ye.bW (λv w w' h hb=>by obtain⟨A,c,Ac,cc,hT⟩:=h;exact⟨A,c,Ac,cc,hT.ao hb⟩),(λ_ h=>by cases h)⟩)⟩)⟩)⟩)⟩))))))⟩)⟩))))) ?_ ?_
   ·refine⟨cP λ_ _ hb _ _ _=>aS (JM.below hb) O (bA O O),cP λ_ _ hb _ _ _=>a6 (JM.below hb) O (bA O O),cP λ_ _ hb _ _ _=>aS (zY.below hb) O (bA O O),cP λ_ _ hb _ _ _=>a6 (zY.below hb) O (bA O O),?_,?_,?_,cP λ_ _ hb _ _ _=>aS (JM.below hb) O (bA O O),cP λ_ _ hb _ _ _=>a6 (JM.below hb) O (bA O O),cP λ_ _ hb _ _ _=>aS (zY.below hb) O (bA O O),cP λ_ _ hb _ _ _=>a6 (zY.below hb) O (bA O O),?_,?_,?_,?_,?_,au⟩
    ·intro e1 w1 cc eL cI dC hp aW hq;show ak _ _ _ _ _ _ _;refine FC (St.refl _) O O O O O O λA w9 kr=>ak.n ?_;exact eD.dn O kr.below ⟨A,O,St.dm (show St _ w9 (aX 27 A 2 2 [bI,bI]::_)from kr) 0 O⟩
    ·refine cP λe1 w1 hb hp aW hq=>?_
     obtain⟨A,Cp,hT⟩:=(hp 4 _ _ an rfl rfl an);refine auM (Iq A bI bI [] [] _ hT bu.nil bu.nil (bl _)) O (by exact aQ (λv=>[v]) Cp) O ?_;rintro _ w9 ⟨A2,c2,rfl,kr⟩;exact ak.n (eD.dn O kr.below ⟨A2,c2,O⟩)
    ·refine cP λe1 w1 hb hp aW hq=>?_
     obtain⟨A,c,Gb⟩:=(hp 5 _ _ an rfl rfl an);refine auM (aor A c _) O (by exact aQ (λv=>[v]) Gb) O ?_;rintro _ w9 ⟨rfl,rfl⟩;refine ak.n (fp O ap)
    ·intro e1 w1 cc eL cI dC hp aW hq;show ak _ _ _ _ _ _ _;refine FC (St.refl _) O O O O O O λA w9 kr=>ak.n ?_;exact eD.dn O kr.below ⟨A,O,St.dm (show St _ w9 (aX 27 A 2 2 [u,s2]::_)from kr) 0 O⟩
    ·refine cP λe1 w1 hb hp aW hq=>?_
     obtain⟨A,Oe,hT⟩:=(hp 11 _ _ an rfl rfl an);refine auM (Iq A u s2 y z _ hT (ali.ao hb) (Hx.ao hb) ac) O (by exact aQ (λv=>[v]) Oe) O ?_;rintro _ w9 ⟨A2,c2,rfl,kr⟩;refine ak.n ?_;exact eD.dn O kr.below ⟨A2,c2,O,by have:=((St.refl w5).ao hb).call kr;rwa[dQ]at this⟩
    ·intro e1 w1 cc eL cI dC hp aW hq;show ak _ _ _ _ _ _ _;obtain rfl:=M8 eL cI (b:=0);have hb:=dC O;obtain⟨Ac,cc,Of,hT⟩:=(hp 12 _ _ an rfl rfl an);refine auM (HQ 0 (aO.call hT) O (by rw[cj];omega)) O (by exact aQ (λv=>[v]) Of) O ?_;rintro _ w9 ⟨A2,c2,rfl,bj⟩;exact ak.n (dS.dn O ⟨A2,c2,Ac,cc,O,bj⟩)
    ·intro e1 w1 cc eL cI dC hp aW hq;show ak _ _ _ _ _ _ _;obtain rfl:=M8 eL cI (b:=1);have cg:=hp 13 _ _ an O O an;obtain⟨A,c,Ac,cc,D0,hT⟩:=(hp 13 _ _ an rfl rfl an);refine FB aL aL O O O (by exact D0) O O O (ak.n ?_);exact eD.dn O (Below.refl _ _) ⟨A,c,Ac,cc,O,hT⟩
    ·intro e1 w1 cc eL cI dC hp aW hq;show ak _ _ _ _ _ _ _;obtain rfl:=M8 eL cI (b:=1);have cg:=hp 13 _ _ an O O an;obtain⟨A,c,Ac,cc,Og,hT⟩:=(hp 14 _ _ an rfl rfl an);refine dU 2 3 hT O O (by exact Og) O O O O ?_;intro w9 bj;exact ak.n (dS.st O ⟨A,c,Ac,cc,bj⟩)
   intro _ w7 _ hu _ _;obtain⟨A,c,Ac,cc,hT⟩:=hu 15 _ rfl an;have yN:=Sp hy.1 uj.1;refine Ir O (tQ ?_);refine⟨(⟨A,(gC y z).length,c⟩,gC y z,av 2 A (gC y z).length c (gC y z)::av 2 Ac (y++z).length cc (fb (y++z))::jf P5 s2::X),?_,(auV O),⟨yN,λe he=>?_⟩,?_,.inr (by simp),?_⟩
   ·exact ZM kO (λe he=>⟨yN.2 e he,abx hy.1 uj.1 kO ui e he⟩) h0
   ·rcases Sq e he with h|h
    ·exact hy.2 e h
    ·exact uj.2 e h
   ·show fF x^^^fF (gC y z)∈_;rw[Sn,<-Nat.xor_assoc];exact tE lu (nu (de.2 ⟨_,kG,O⟩))
   ·refine hT.perm ?_;show([_,_,_]++[jf P3 _,jf P4 _]++X).Perm ([jf P3 _,jf P4 _]++[_,_,_]++X);exact gL.append_right X
 ·have oA:y=[]:=iL ac;refine ba O (bc (bY O ?_));refine cG 1 ia O O O (dU 2 1 hS O O O O O O O ?_);intro w6 bk;have bk:St w w6 (jf P3 u::jf P4 u::X):=bk;refine bR O ?_;refine⟨P4,_,O,bk.rd 1 O,u,y,_,O,hy,lu,λt' h'=>?_,bk,l5.imp id λh=>by simp[h]⟩;rw[oA]at h';cases h'
def jj(xs:Nat->ah)(n:Nat):List Nat:=(List.range n).filter λj=>decide (j=0\/xs j≠xs (j-1))
theorem K6(xs:Nat->ah)(n:Nat):jj xs (n+1)=jj xs n++(if n=0\/xs n≠xs (n-1)then[n]else[]):=by
 unfold jj;rw[lK,mN]
 congr 1
 by_cases h:n=0\/xs n≠xs (n-1)<;>simp[h]
theorem QE{xs:Nat->ah}{n:Nat}(h:∀j,j<n->j=0\/xs j≠xs (j-1)):jj xs n=List.range n:=by
 unfold jj;rw[List.filter_eq_self];intro j hj;exact dB (h j (fo.1 hj))
theorem amk(xs:Nat->ah)(n:Nat):(jj xs n).length<=n:=by
 have:=lJ (λj=>decide (j=0\/xs j≠xs (j-1))) (List.range n);unfold jj;simpa using this
theorem ae8{w0 w:aa}{ks:List Ck}(i:Nat){t:ad}{A:ai}{n c:Nat}{ss:List aE}(hS:St w0 w ks)(hk:ks[i]?=some (aX t A n c ss))(hn:n<=4000000000000)(xs:Nat->ah)(gu:∀a,a<n->(sv ss a).n<=9223372036854775807)(br:∀(w':aa)(q:List Nat),q.length=n->(∀j∈q,j<n)->St w0 w' (ks.set i (aX t A n c (q.map (sv ss))))->∀a,a<n->bu w' (sv ss a).a (sv ss a).n (xs a)):
 aF prog 154 [.slice A n c,.func (.func 155) #[] #[]] w (λv w'=>v=.slice A (jj xs n).length c/\St w0 w' (ks.set i (aX t A (jj xs n).length c ((jj xs n).map (sv ss))))):=by
 have Eu:i<ks.length:=(iD.1 hk).1;obtain⟨h1,h2,h3,-⟩:=hS.py hk (yY _);have EH:ss.length=n:=by have:(ss.map aE.v).length=n:=h1;simpa using this
 have h2:n<=c:=h2;have h3:c<=maxLen:=h3;have CZ:(List.range n).map (sv ss)=ss:=by
  apply iC
  ·simp[EH]
  intro j h1 h2;simp[sv,b5,h2]
 have hid:ks.set i (aX t A n c ((List.range n).map (sv ss)))=ks:=by rw[CZ,Fe hk]
 have o0:∀{w':aa},St w0 w' ks->St w0 w' (ks.set i (aX t A n c ((List.range n).map (sv ss)))):=λh=>by rw[hid];exact h
 have get:∀l,(ks.set i l)[i]?=some l:=λl=>by simp[Eu]
 have hrg0:∀j:Nat,rg ss j=sv ss j:=λj=>O
 have gI:∀{w':aa},St w0 w' ks->∀a,a<n->bu w' (sv ss a).a (sv ss a).n (xs a):=λh=>br _ (List.range n) (by simp) (λj hj=>fo.1 hj) (o0 h)
 refine bn func154 O ntmps154 O (bM O) ?_;refine aY O (aR O O (ay O ?_));refine aK _ O (λh4=>?_) (λh4=>?_)
 ·have eA:jj xs n=List.range n:=QE λj hj=>.inl ac
  refine dE O (dV O ?_);rw[eA,od,hid];exact⟨O,hS⟩
 refine cM O ?_;refine Cd.loop (α:=Nat) (λk=>[(0,.slice A n c),(1,.func (.func 155) #[] #[]),(5,aj k)]) (λk w'=>1<=k/\k<=n/\(∀j,j<k->j=0\/xs j≠xs (j-1))/\St w0 w' ks) (λk=>n-k) 1 (auV O) ⟨cJ _,ac,λj hj=>.inl ac,hS⟩ ?_;rintro k e w1 ⟨jr,rI,bN,ax⟩;refine aY O (aR O O (ay O ?_));refine aK _ O (λh5=>?_) (λh5=>?_)
 ·have eW:=ax.dm i hk;have lp:bu w1 (rg ss k).a (rg ss k).n (xs k):=gI ax k ac;have lr:bu w1 (rg ss ((k:Int)-1)).a (rg ss ((k:Int)-1)).n (xs (k-1)):=by
   rw[show(k:Int)-1=((k-1:Nat):Int) by omega];exact gI ax (k-1) ac
  have GC:(rg ss k).n<=9223372036854775807:=gu k ac;refine cM O ?_
  by_cases h6:xs k=xs (k-1)
  ·
   refine ec [.ex (.func (.func 155) #[] #[]),xS (A) (n) (c),xI ((k:Int)),xP (aH (A) ((k:Int)).toNat),xS ((rg (ss) ((k:Int))).a) ((rg (ss) ((k:Int))).n) ((rg (ss) ((k:Int))).c),xS (A) (n) (c),xI ((k:Int)),xI (((k:Int))-((1:Int))),xP (aH (A) (((k:Int))-((1:Int))).toNat),xS ((rg (ss) (((k:Int))-((1:Int)))).a) ((rg (ss) (((k:Int))-((1:Int)))).n) ((rg (ss) (((k:Int))-((1:Int)))).c),xB (true)] O (eK O) ?_ ?_
   ·refine⟨Dr O,Dr O,Dr O,λ_ _ hb _ _=>aA (eW.ao hb).2 O Az,λ_ _ hb _ _=>bw (eW.ao hb) O Az,Dr O,Dr O,λ_ _ _ _ _=>cV O Az,λ_ _ hb _ _=>aA (eW.ao hb).2 O Az,λ_ _ hb _ _=>bw (eW.ao hb) O Az,?_,au⟩;intro e1 w1 hb hp aW;refine aI (Fx _ _ _ (xs k) _ _ _ (xs (k-1)) _ (lp.ao hb) (lr.ao hb) GC) O ?_;rintro _ w2 ⟨rfl,aw⟩;refine ak.n ?_;exact gk.dn aw.below (by exact aQ Value.bool (dB h6))
   intro u w2 hb _;have az:=ax.ao hb;have ue:jj xs k=List.range k:=QE bN;refine fG O (Cd.iw O (aC O (uY (A:=A) (n:=n) (c:=c) (l:=(k:Int)) O O O ac ?_)));rw[gx];refine ay O ?_;refine Cd.loop (α:=Nat×Nat×List Nat) (λz=>[(0,.slice A n c),(1,.func (.func 155) #[] #[]),(5,aj (z.1:Int)),(6,.slice (cutAt A c k) (n-k) (c-k)),(7,aj (z.2.1:Int))]) (λz w'=>1<=z.2.1/\z.2.1<=n-k/\z.1<k+z.2.1/\z.2.2.length=n/\(∀j∈z.2.2,j<n)/\z.1=(jj xs (k+z.2.1)).length/\z.2.2.take z.1=jj xs (k+z.2.1)/\(∀m,z.1<=m->m<n->z.2.2[m]?=some m)/\St w0 w' (ks.set i (aX t A n c (z.2.2.map (sv ss))))) (λz=>n-k-z.2.1) (k,1,List.range n) (auV O)
    ⟨cJ _,by show 1<=n-k;omega,by show k<k+1;omega,by simp,λj hj=>fo.1 hj,by
     show k=(jj xs (k+1)).length;rw[K6,aD (λh=>h.elim (λh=>by omega) (λh=>h h6)),dQ,ue,od],by
     show(List.range n).take k=jj xs (k+1);rw[K6,aD (λh=>h.elim (λh=>by omega) (λh=>h h6)),dQ,ue,List.take_range,Nat.min_eq_left (by omega)],λm hm jS=>by simp[jS],o0 az⟩ ?_
   rintro⟨a,b,q⟩ e w3 ⟨fh,Pf,gr,mz,qJ,kD,He,KG,aM⟩;dsimp only at fh Pf gr mz qJ kD He KG aM|-;refine aY O (aR O O (ay O ?_));refine aK _ O (λh7=>?_) (λh7=>?_)
   ·have jg:=aM.dm i (get _);have na:=jg.drop (l:=k) ac h2;have hg:∀m:Nat,a<=k+m->k+m<n->rg ((q.map (sv ss)).drop k) m=sv ss (k+m):=λm h8 h9=>by
     have:=KG (k+m) h8 h9;simp[rg,b5,this]
    have lp:bu w3 (rg ((q.map (sv ss)).drop k) b).a (rg ((q.map (sv ss)).drop k) b).n (xs (k+b)):=by rw[hg b (by omega) (by omega)];exact br _ q mz qJ aM _ ac
    have lr:bu w3 (rg ((q.map (sv ss)).drop k) ((b:Int)-1)).a (rg ((q.map (sv ss)).drop k) ((b:Int)-1)).n (xs (k+b-1)):=by
     rw[show(b:Int)-1=((b-1:Nat):Int) by omega,hg (b-1) (by omega) (by omega),show k+(b-1)=k+b-1 by omega];exact br _ q mz qJ aM _ ac
    have GC:(rg ((q.map (sv ss)).drop k) b).n<=9223372036854775807:=by rw[hg b (by omega) (by omega)];exact gu _ ac
    have yO:=K6 xs (k+b);refine cM O ?_
    by_cases h8:xs (k+b)=xs (k+b-1)
    ·
     refine ec [.ex (.func (.func 155) #[] #[]),xS (cutAt A c k) (n-k) (c-k),xI ((b:Int)),xP (aH (cutAt A c k) ((b:Int)).toNat),xS ((rg ((q.map (sv ss)).drop k) ((b:Int))).a) ((rg ((q.map (sv ss)).drop k) ((b:Int))).n) ((rg ((q.map (sv ss)).drop k) ((b:Int))).c),xS (cutAt A c k) (n-k) (c-k),xI ((b:Int)),xI (((b:Int))-((1:Int))),xP (aH (cutAt A c k) (((b:Int))-((1:Int))).toNat),xS ((rg ((q.map (sv ss)).drop k) (((b:Int))-((1:Int)))).a) ((rg ((q.map (sv ss)).drop k) (((b:Int))-((1:Int)))).n) ((rg ((q.map (sv ss)).drop k) (((b:Int))-((1:Int)))).c),xB (decide (xs (k+b)=xs (k+b-1))),xB (false)] O (eK O) ?_ ?_
     ·refine⟨Dr O,Dr O,Dr O,λ_ _ hb _ _=>aA (na.ao hb).2 O Az,λ_ _ hb _ _=>bw (na.ao hb) O Az,Dr O,Dr O,λ_ _ _ _ _=>cV O Az,λ_ _ hb _ _=>aA (na.ao hb).2 O Az,λ_ _ hb _ _=>bw (na.ao hb) O Az,?_,λ_ _ _ _ _=>cO O O (Az (by exact aQ Value.bool (db (λh=>h h8)))),au⟩;intro e1 w1 hb hp aW;refine aI (Fx _ _ _ (xs (k+b)) _ _ _ (xs (k+b-1)) _ (lp.ao hb) (lr.ao hb) GC) O ?_;rintro _ w2 ⟨rfl,aw⟩;refine ak.n ?_;exact gk.dn aw.below ap
     intro u w4 hb _;rw[aD (λh=>h.elim (λh=>by omega) (λh=>h h8)),dQ]at yO;refine fG O (Cd.cX O ?_);refine aC O (aJ O (aN O (tQ ?_)));exact⟨(a,b+1,q),by show n-k-(b+1)<n-k-b;omega,(auV O),by show 1<=b+1;omega,by show b+1<=n-k;omega,by show a<k+(b+1);omega,mz,qJ,by show a=(jj xs (k+b+1)).length;rw[yO];exact kD,by show q.take a=jj xs (k+b+1);rw[yO];exact He,KG,aM.ao hb⟩
    refine ec [.ex (.func (.func 155) #[] #[]),xS (cutAt A c k) (n-k) (c-k),xI ((b:Int)),xP (aH (cutAt A c k) ((b:Int)).toNat),xS ((rg ((q.map (sv ss)).drop k) ((b:Int))).a) ((rg ((q.map (sv ss)).drop k) ((b:Int))).n) ((rg ((q.map (sv ss)).drop k) ((b:Int))).c),xS (cutAt A c k) (n-k) (c-k),xI ((b:Int)),xI (((b:Int))-((1:Int))),xP (aH (cutAt A c k) (((b:Int))-((1:Int))).toNat),xS ((rg ((q.map (sv ss)).drop k) (((b:Int))-((1:Int)))).a) ((rg ((q.map (sv ss)).drop k) (((b:Int))-((1:Int)))).n) ((rg ((q.map (sv ss)).drop k) (((b:Int))-((1:Int)))).c),xB (decide (xs (k+b)=xs (k+b-1))),xB (true)] O (eK O) ?_ ?_
    ·refine⟨Dr O,Dr O,Dr O,λ_ _ hb _ _=>aA (na.ao hb).2 O Az,λ_ _ hb _ _=>bw (na.ao hb) O Az,Dr O,Dr O,λ_ _ _ _ _=>cV O Az,λ_ _ hb _ _=>aA (na.ao hb).2 O Az,λ_ _ hb _ _=>bw (na.ao hb) O Az,?_,λ_ _ _ _ _=>cO O O (Az (by exact aQ Value.bool (dB h8))),au⟩;intro e1 w1 hb hp aW;refine aI (Fx _ _ _ (xs (k+b)) _ _ _ (xs (k+b-1)) _ (lp.ao hb) (lr.ao hb) GC) O ?_;rintro _ w2 ⟨rfl,aw⟩;refine ak.n ?_;exact gk.dn aw.below ap
    intro u w4 hb _;have aU:=aM.ao hb;have s7:=aU.dm i (get _);have WY:=s7.drop (l:=k) ac h2;rw[aG (.inr h8)]at yO;refine fG O (Cd.iw O (aC O (aA WY.2 O (bw WY O ?_))));rw[hg b (by omega) (by omega)];refine aA s7.2 O (nC i aU (get _) O O ac ?_);intro w5 aO;have aO:St w0 w5 (ks.set i (aX t A n c ((q.set a (k+b)).map (sv ss)))):=by
     rw[List.set_set]at aO;rw[List.map_set];exact aO
    refine aq O (aJ O (aq O (aJ O (aN O (tQ ?_)))));refine⟨(a+1,b+1,q.set a (k+b)),by show n-k-(b+1)<n-k-b;omega,(auV O),by show 1<=b+1;omega,by show b+1<=n-k;omega,by show a+1<k+(b+1);omega,by show(q.set a _).length=n;rw[fR];exact mz,?_,by show a+1=(jj xs (k+b+1)).length;rw[yO,cj,<-kD];rfl,?_,?_,aO⟩
    ·show ∀j∈q.set a (k+b),j<n;intro j hj;rcases List.mem_or_eq_of_mem_set hj with h|h
     ·exact qJ j h
     omega
    ·show(q.set a (k+b)).take (a+1)=jj xs (k+b+1);rw[yO,<-He,oQ (by rw[fR];omega),List.take_set_of_le (cJ _),List.getElem_set_self]
    show ∀m,a+1<=m->m<n->(q.set a (k+b))[m]?=some m;intro m hm jS;rw[lI,aD (by omega)];exact KG m ac jS
   have CF:k+b=n:=by omega
   rw[CF]at kD He;have hle:=amk xs n;have o6:a<n:=by omega
   refine ba O (bc (bY O ?_));refine uY (A:=A) (n:=n) (c:=c) (l:=(a:Int)) O O O ac ?_;refine acK i a aM (get _) (show a<n by omega) (by show n-_=n-a;omega) O O O ?_;intro w4 aU;rw[List.set_set]at aU;refine aq O (rW (A:=A) (n:=n) (c:=c) (h:=(a:Int)) O O O ac ?_);refine bR O (fz (fe ?_));refine dV O ?_;rw[<-kD];refine⟨O,?_⟩;have e9:({ aX t A n c (q.map (sv ss))with n:=a,vs:=(aX t A n c (q.map (sv ss))).vs.take a }:Ck)=aX t A a c ((jj xs n).map (sv ss)):=by
    rw[<-He];simp[aX,List.map_take]
   rw[<-e9];exact aU
  refine ec [.ex (.func (.func 155) #[] #[]),xS (A) (n) (c),xI ((k:Int)),xP (aH (A) ((k:Int)).toNat),xS ((rg (ss) ((k:Int))).a) ((rg (ss) ((k:Int))).n) ((rg (ss) ((k:Int))).c),xS (A) (n) (c),xI ((k:Int)),xI (((k:Int))-((1:Int))),xP (aH (A) (((k:Int))-((1:Int))).toNat),xS ((rg (ss) (((k:Int))-((1:Int)))).a) ((rg (ss) (((k:Int))-((1:Int)))).n) ((rg (ss) (((k:Int))-((1:Int)))).c),xB (false)] O (eK O) ?_ ?_
  ·refine⟨Dr O,Dr O,Dr O,λ_ _ hb _ _=>aA (eW.ao hb).2 O Az,λ_ _ hb _ _=>bw (eW.ao hb) O Az,Dr O,Dr O,λ_ _ _ _ _=>cV O Az,λ_ _ hb _ _=>aA (eW.ao hb).2 O Az,λ_ _ hb _ _=>bw (eW.ao hb) O Az,?_,au⟩;intro e1 w1 hb hp aW;refine aI (Fx _ _ _ (xs k) _ _ _ (xs (k-1)) _ (lp.ao hb) (lr.ao hb) GC) O ?_;rintro _ w2 ⟨rfl,aw⟩;refine ak.n ?_;exact gk.dn aw.below (by exact aQ Value.bool (db h6))
  intro u w2 hb _;refine fG O (Cd.cX O ?_);refine aC O (aJ O (aN O (tQ ?_)));refine⟨k+1,by show n-(k+1)<n-k;omega,(auV O),ac,ac,λj hj=>?_,ax.ao hb⟩
  by_cases e:j=k
  ·subst e;exact .inr h6
  exact bN j ac
 have eA:jj xs n=List.range n:=QE λj hj=>bN j ac
 refine ba O (bc (ew O ?_));refine dV O ?_;rw[eA,od,hid];exact⟨O,ax⟩
end
section
open Go.RowKit Go.ChangeShapes Go.WideShapes
theorem laid:laidOutB prog=true:=by kernel_rfl
theorem own:ownKnob prog.godebug=none:=by kernel_rfl
section
variable {H:Type}{enc:ad×ab->H}{P:Program}
theorem abK(hl:laidOutB P=true){W W':aa}(hb:Below W.heap.size W W'){sp:Nat->Bool}:∀{ts:List ad}{vs:List ab}{ds:List (DataW H)}{ps:List MemPlace},(ts.all λt=>P.readableRec t && Nat.blt t P.types.size)=true->(∀p∈ps,p.block<W.heap.size)->(∀p∈ps,sp p.block=true)->
 DataW.TrodAll enc P W 0 (λ_=>true) true ts vs ds ps->DataW.TrodAll enc P W' 0 sp true ts vs ds ps
 |[],[],[],_,_,_,_,h=>h
 |t::ts,v::vs,d::ds,ps,hr,dH,lu,h=>by
  obtain⟨p,q,h1,h2,rfl⟩:=h;simp only[List.all_cons,Bool.and_eq_true]at hr;exact⟨p,q,WideElems.Trod_stays hl hr.1.1 (by simpa[Nat.blt_eq]using hr.1.2) h1 (λx hx=>hb.same (dH x (by simp[hx]))) (λx hx=>lu x (by simp[hx])),abK hl hb hr.2 (λx hx=>dH x (by simp[hx])) (λx hx=>lu x (by simp[hx])) h2,O⟩
 |[],[],_::_,_,_,_,_,h=>h.elim
 |[],_::_,_,_,_,_,_,h=>by cases h
 |_::_,[],_,_,_,_,_,h=>by cases h
 |_::_,_::_,[],_,_,_,_,h=>by cases h
theorem apd{f:Func}{s:ChangeSpec}{apart:Bool}{W W':aa}{args:Array ab}{ds gs:List (DataW H)}{before:List MemPlace}(hl:laidOutB P=true){b:ad}(hu:P.underlying b=some .bool)(X8:f.resultTypes= #[b])(hv:s.vars=[])
 (hr:(f.params.toList.all λt=>P.readableRec t && Nat.blt t P.types.size)=true) (ox:(s.fn H (ds++gs)).results=[.lit (.bool true)]/\(s.fn H (ds++gs)).args=ds/\(s.fn H (ds++gs)).vars=[])
 (hW:DataW.Whole enc P f.params.toList s.vars apart W args.toList ds gs before) (hb:Below W.heap.size W W'):s.post enc P f apart true false false W args (.bool true) W':=by
 have dH:∀x∈before,x.block<W.heap.size:=λx hx=>hW.lt x hx
 have hW0:=hW;obtain⟨p,q,hA,hV,rfl,hz,hn⟩:=hW;rw[hv]at hV;obtain⟨rfl,rfl⟩:=trodVars_none hV;have Xu:∀x∈p,x.block<W.heap.size:=λx hx=>dH x (by simp[hx])
 have VT:∀sp:Nat->Bool,(∀x∈p,sp x.block=true)->DataW.TrodAll enc P W' 0 sp true f.params.toList args.toList (s.fn H (ds++[])).args p:=λsp lu=>by
  rw[ox.2.1];exact abK hl hb hr Xu lu hA
 have z8:∀(b0:Nat)(sp:Nat->Bool)(hd:Bool),DataW.TrodAll enc P W' b0 sp hd f.resultTypes.toList ((Value.bool true).resultList f.resultTypes.size) (s.fn H (ds++[])).results []:=λb0 sp hd=>by
  rw[ox.1,X8];exact trodAll_cons_mk (shut_bool hu _) trodAll_mk0
 have Wy:∀sp:Nat->Bool,DataW.TrodVars enc P W' sp s.vars (s.fn H (ds++[])).vars []:=λsp=>by
  rw[ox.2.2,hv];rfl
 refine⟨ds,[],p++[],[],p,[],hW0,z8 _ _ _,VT _ (λx hx=>by simpa using Xu x hx),Wy _,World.keptBut_mono (λx hx=>⟨hx,by simpa using hx⟩) (hb.frame (· ∈p++[])),λ_=>⟨λj t r h1 h2=>?_,_,_,([]++p)++[],⟨[]++p,[],trodAll_append (VT _ λ_ _=>O) (z8 _ _ _),Wy _,O,λc off hc=>?_,λha=>by simpa using hn ha⟩,λx hx _=>by simpa using hx⟩⟩
 ·rw[X8]at h1 h2;cases j with
  |zero=>
   simp at h1;subst h1;simp[Value.resultList]at h2;subst h2;exact okWide_bool_mk hu _
  |succ j=>simp at h1
 ·have cE:MemPlace.cell c off∈p++[]:=by simpa using hc
  rw[hb.frozen (dH _ cE)];exact hz c off cE
end
section
variable {H:Type}{enc:ad×ab->H}{P:Program}
end
end
end Go.Proofs.YtimbpgackifflaaGreatDoor.Vc
