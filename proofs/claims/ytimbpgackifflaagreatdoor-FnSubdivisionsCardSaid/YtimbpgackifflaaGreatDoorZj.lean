/-
 Lemmas. Conditions: as each states them.
-/
import Derived.Test.YtimbpgackifflaaGreatDoorZi
set_option maxHeartbeats 8000000
set_option maxRecDepth 100000
namespace Go.Proofs.YtimbpgackifflaaGreatDoor.Vc
open Tryz
section
open Go.RowKit
variable{F:ag}
theorem K5{xs:Nat->ah}{n a:Nat}(h:a∈jj xs n):a<n:=by
 unfold jj at h;exact fo.1 (fM.1 h).1
theorem aml(xs:Nat->ah)(n:Nat):(jj xs n).Nodup:=List.nodup_range.filter _
theorem Y7{xs:Nat->ah}:∀{n:Nat},(∀a b,a<b->b<n->¬LT (xs b) (xs a))->SL ((jj xs n).map xs)/\∀x,x∈(jj xs n).map xs↔∃a,a<n/\xs a=x
 |0,_=>⟨by simp[jj,SL],λx=>by simp[jj]⟩
 |n+1,h=>by
  obtain⟨KZ,xj⟩:=Y7 (xs:=xs) (n:=n) λa b h1 h2=>h a b h1 ac
  rw[K6,iE]
  by_cases e:n=0\/xs n≠xs (n-1)
  ·rw[aG e];constructor
   ·unfold SL;rw[List.pairwise_append];refine⟨KZ,by simp,λa ha b hb=>?_⟩;obtain rfl:b=xs n:=by simpa using hb
    obtain⟨i,hi,rfl⟩:=(xj a).1 ha;rcases e with e|e
    ·omega
    ·have h1:LT (xs (n-1)) (xs n):=Fz (h (n-1) n ac ac) e
     by_cases e2:i=n-1
     ·rw[e2];exact h1
     ·by_cases e3:xs i=xs (n-1)
      ·rw[e3];exact h1
      ·exact(Fz (h i (n-1) ac ac) (Ne.symm e3)).trans h1
   ·intro x;rw[dF,xj];constructor
    ·rintro(⟨a,h1,h2⟩|h1)
     ·exact⟨a,ac,h2⟩
     ·exact⟨n,ac,by simpa using(show x=xs n by simpa using h1).symm⟩
    ·rintro⟨a,h1,h2⟩
     by_cases e2:a=n
     ·subst e2;exact .inr (by simp[h2])
     ·exact .inl ⟨a,ac,h2⟩
  ·rw[aD e];have e1:n≠0:=λh=>e (.inl h)
   have e2:xs n=xs (n-1):=qi λh=>e (.inr h)
   refine⟨by simpa using KZ,λx=>?_⟩;rw[List.map_nil,dQ,xj];constructor
   ·rintro⟨a,h1,h2⟩;exact⟨a,ac,h2⟩
   ·rintro⟨a,h1,h2⟩
    by_cases e3:a=n
    ·subst e3;exact⟨a-1,ac,by rw[<-e2];exact h2⟩
    ·exact⟨a,ac,h2⟩
theorem MI{w0 w:aa}{p:Ck}{t2:ad}{rs:List aE}{L:ag}(h:St w0 w (p::cC t2 rs L))(hl:rs.length=L.length){a:Nat}(ha:a<L.length):bu w (sv rs a).a (sv rs a).n (L.getD a []):=
 h.bF (a+1) (by rw[List.getElem?_cons_succ];exact BC hl ac)
theorem arE{L:ag}{q:List Nat}(hq:q.Perm (List.range L.length))(hs:q.Pairwise λa b=>¬LT (L.getD b []) (L.getD a []))(k:Nat)(hL:∀x,x∈L↔x∈oo F k):
 let xs:=λa=>L.getD (q.getD a 0) []
 let q2:=(jj xs L.length).map λa=>q.getD a 0
 q2.map (λi=>L.getD i [])=eG F k/\q2.Nodup/\(∀i∈q2,i<L.length)/\(jj xs L.length).length=(eG F k).length:=by
 intro xs q2;have mz:q.length=L.length:=by rw[hq.length_eq,od]
 have vz:q.Nodup:=hq.nodup_iff.2 List.nodup_range;have xa:∀a (h:a<L.length),q.getD a 0=q[a]:=λa h=>by simp[b5,show a<q.length by omega]
 have qJ:∀a,a<L.length->q.getD a 0<L.length:=λa h=>fo.1 (hq.mem_iff.1 (by rw[xa a h];exact dt _))
 obtain⟨h1,h2⟩:=Y7 (xs:=xs) (n:=L.length) λa b gr hb=>by
  show ¬LT (L.getD (q.getD b 0) []) (L.getD (q.getD a 0) []);rw[xa a (by omega),xa b hb];exact List.pairwise_iff_getElem.1 hs a b ac ac gr
 have e:q2.map (λi=>L.getD i [])=(jj xs L.length).map xs:=by simp[q2,xs]
 have e2:(jj xs L.length).map xs=eG F k:=U0 h1 λx=>by
  rw[h2,<-hL];constructor
  ·rintro⟨a,ha,rfl⟩;show L.getD _ []∈L;rw[b5,fL (qJ a ha)];exact dt _
  intro hx;obtain⟨i,hi,rfl⟩:=fS.1 hx;obtain⟨a,ha,e⟩:=fS.1 (hq.mem_iff.2 (fo.2 hi));refine⟨a,ac,?_⟩;show L.getD (q.getD a 0) []=_;rw[xa a (by omega),e];simp[b5,hi]
 refine⟨e.trans e2,?_,λi hi=>?_,by rw[<-e2,jd]⟩
 ·refine List.Pairwise.map _ ?_ ((aml xs L.length).imp_of_mem (S:=λa b=>q.getD a 0≠q.getD b 0) ?_)
  ·exact λa b h=>h
  intro a b ha hb gr;have ha:=K5 ha;have hb:=K5 hb;rw[xa a ha,xa b hb];exact λh=>gr ((List.getElem_inj vz).1 h)
 obtain⟨a,ha,rfl⟩:=de.1 hi;exact qJ a (K5 ha)
def lk(F:ag)(k i:Nat):ag:=if k=0 then[[]]else(F.take i).flatMap λf=>dT f k
theorem agm(F:ag)(k:Nat):lk F k F.length=oo F k:=by unfold lk oo;rw[List.take_length]
theorem agp(F:ag)(k:Nat):lk F k 0=if k=0 then[[]]else[]:=by unfold lk;split<;>rfl
theorem ago{k i:Nat}(h:i<F.length):lk F k (i+1)=if 0<k/\k<=(gl F i).length then lk F k i++dT (gl F i) k else lk F k i:=by
 unfold lk
 by_cases e:k=0
 ·simp[e]
 rw[aD e,aD e,nV h,List.flatMap_append]
 by_cases e2:k<=(gl F i).length
 ·rw[aG ⟨by omega,e2⟩];simp
 rw[aD (λh=>e2 h.2)];have:=aaz (l:=gl F i) (k:=k) ac;simp[this]
theorem agn(k i:Nat)(h6:∀f∈F,f.length<=6):(lk F k i).length<=64*F.length+1:=by
 have h:=NA (F:=F.take i) k λf hf=>h6 f (List.mem_of_mem_take hf)
 have e:lk F k i=oo (F.take i) k:=O;rw[e];have:(F.take i).length<=F.length:=by simp;omega
 omega
theorem FZ(Pc:ai)(V:Int)(A:ai)(n c:Nat)(rs:List aE)(F:ag)(k:Nat)(w:aa)(hP:Rd w Pc 2 (λj=>[Value.int .i64 V,.slice A n c].getD j undef))(hR:bH w A n rs F)(hn:n<=1000)(h6:∀f∈F,f.length<=6)(hk:k<=7):
 aF prog 106 [.pointer Pc,aj k] w (λv w'=>∃A' c' rs',v=.slice A' (eG F k).length c'/\rs'.length=(eG F k).length/\St w w' (aV 27 2 A' (eG F k).length c' rs' (eG F k)++[])):=by
 have lO:=hR.len;have hz:=agp F k;refine bn func106 O ntmps106 O (bM O) (aY O (jy (St.refl w) O ?_));intro A1 w1 ax;have ax:St w w1 [aX 27 A1 0 0 []]:=ax;refine tG 0 O (lH (α:=ai×Nat×List aE) (λz=>[(0,.pointer Pc),(1,aj k),(5,.slice z.1 (lk F k 0).length z.2.1)]) (λz w'=>z.2.2.length=(lk F k 0).length/\St w w' (aV 27 2 z.1 (lk F k 0).length z.2.1 z.2.2 (lk F k 0))) ?_ ?_)
 ·refine bC O (aK _ O (λh1=>?_) (λh1=>?_))
  ·rw[aG (by omega)]at hz;rw[hz];refine aC O (jW ax O O O ?_);intro A2 w2 az;refine iT 1 az O (az.dm 0 O) O O O ac ac O ?_;intro A3 c3 w3 aM;have aM:St w w3 [aX 27 A3 (0+1) c3 ([]++[bI])]:=aM.tail;refine aN O (tQ ?_);exact⟨(A3,c3,[bI]),(auV O),O,(dQ (aV 27 2 A3 1 c3 [bI] [[]]))▸xu 1 aM⟩
  rw[aD (by omega)]at hz;rw[hz];refine jE O (tQ ?_);exact⟨(A1,0,[]),(auV O),O,ax⟩
 rintro⟨A5,c5,js⟩ e w2 ⟨KM,az⟩;dsimp only at KM az|-;clear ax;refine aC O (dX (az.gS hP) ac O O (aS (az.gS hP) O (a6 (az.gS hP) O ?_)));refine aR O O (ay O ?_);refine Cd.loop (α:=Nat×ai×Nat×List aE) (λz=>[(1,aj k),(5,.slice z.2.1 (lk F k z.1).length z.2.2.1),(17,.slice A n c),(18,aj n),(19,aj (z.1:Int))]) (λz w'=>z.1<=n/\z.2.2.2.length=(lk F k z.1).length/\St w w' (aV 27 2 z.2.1 (lk F k z.1).length z.2.2.1 z.2.2.2 (lk F k z.1))) (λz=>n-z.1) (0,A5,c5,js) (auV O) ⟨bl _,KM,az⟩ ?_;clear KM az hz;rintro⟨i,A5,c5,js⟩ e w3 ⟨hi,bT,aM⟩;dsimp only at hi bT aM|-;refine bC O (aK _ O (λh3=>?_) (λh3=>?_))
 ·have nM:i<F.length:=by omega
  have hM:=aM.bU hR;have br:=hM.at_ (i:=(i:Int)) ac ac;have gu:=hM.cap_ (i:=(i:Int)) ac ac;have KJ:=br.1;have oC:=ago (k:=k) nM;have CU:=agn (F:=F) k i h6;have Pp:=h6 (gl F i) (by rw[df nM];exact dt _);have P6:=vO (l:=gl F i) k Pp;refine aC O (aA hM.top.2 O (bw hM.top O (aq O ?_)));refine b9 25 O (λh4=>?_) (λh4=>?_)
  ·refine ar O (aq O (ar O (aq O (ar O ?_))));refine aI (oK _ _ _ _) O ?_;rintro _ _ ⟨rfl,rfl⟩;refine ar O (ay O ?_);refine aK _ O (λh5=>?_) (λh5=>?_)
   ·rw[aG ⟨by omega,by omega⟩]at oC;refine aC O (aI (HS k _ _ _ (gl F i) _ br gu.1 ac hk) O ?_);rintro _ w4 ⟨A6,c6,dI,rfl,Yc,hT⟩;have jh:fu w4 A6 (dT (gl F i) k).length dI:=hT.dm 0 O;have aU:=aM.call2 hT;refine iT 0 aU O jh O O O ac ac O ?_;intro A7 c7 w5 aO;have aO:St w w5 (aX 27 A7 ((lk F k i).length+(dT (gl F i) k).length) c7 (js++dI)::(cC 2 js (lk F k i)++(aX 27 A6 (dT (gl F i) k).length c6 dI::(cC 2 dI (dT (gl F i) k)++[])))):=aO;have bk:St w w5 (aV 27 2 A7 (lk F k (i+1)).length c7 (js++dI) (lk F k (i+1))):=by
     rw[oC,cj];unfold aV;rw[tA bT];refine aO.sub (List.Sublist.cons_cons _ ((fD _).append ?_));rw[dQ];exact List.sublist_cons_self _ _
    refine aq O (aJ O (aN O (tQ ?_)));exact⟨(i+1,A7,c7,js++dI),by show n-(i+1)<n-i;omega,⟨O,by show Value.slice A7 ((lk F k i).length+(dT (gl F i) k).length) c7=.slice A7 (lk F k (i+1)).length c7;rw[oC,cj],O,O,O,au⟩,by show i+1<=n;omega,by show(js++dI).length=_;rw[oC,cj,cj,bT,Yc],bk⟩
   rw[aD (by omega)]at oC;rw[<-oC]at bT aM|-;refine aC O (aJ O (aN O (tQ ?_)));exact⟨(i+1,A5,c5,js),by show n-(i+1)<n-i;omega,(auV O),by show i+1<=n;omega,bT,aM⟩
  rw[aD (by omega)]at oC;rw[<-oC]at bT aM|-;refine aB O (aB O (aB O (aB O (ay O ?_))));refine Cd.cX O (aC O (aJ O (aN O (tQ ?_))));exact⟨(i+1,A5,c5,js),by show n-(i+1)<n-i;omega,(auV O),by show i+1<=n;omega,bT,aM⟩
 have pK:i=F.length:=by omega
 rw[pK,agm]at bT aM|-;have CU:=NA (F:=F) k h6;have hLm:∀a,a<(oo F k).length->((oo F k).getD a []).length<=6:=λa ha=>by
  have hm:(oo F k).getD a []∈oo F k:=by
   rw[b5,fL ha];exact dt _
  rcases DT.1 hm with⟨_,h⟩|⟨_,f,hf,h,_⟩
  ·rw[h];simp
  have:=h.length_le;have:=h6 f hf;omega
 generalize hLe:oo F k=L at*;have WR:∀a,a<L.length->(sv js a).n<=9223372036854775807:=λa ha=>by
  have h:=(MI aM bT ha).1;have:=hLm a ha;omega
 refine ba O (bc (bY O ?_));refine aI (abt 0 aM O ac (λa=>L.getD a []) WR (λw' q ED CY h a ha=>MI (p:=aX 27 A5 L.length c5 (q.map (sv js))) h bT ha)) O ?_;rintro _ w4 ⟨rfl,q,hq,hqs,aU⟩;have aU:St w w4 (aX 27 A5 L.length c5 (q.map (sv js))::cC 2 js L):=aU;have mz:q.length=L.length:=by rw[hq.length_eq,od]
 have qJ:∀a,a<L.length->q.getD a 0<L.length:=λa h=>fo.1 (hq.mem_iff.1 (by
  rw[b5,fL (show a<q.length by omega)];exact dt _))
 have tq:∀a,a<L.length->sv (q.map (sv js)) a=sv js (q.getD a 0):=λa h=>by
  show(q.map (sv js)).getD a bI=_;simp only[b5,List.getElem?_map,fL (show a<q.length by omega),Option.map_some,Option.getD_some]
 obtain⟨e1,e2,e3,e4⟩:=arE hq hqs k (F:=F) (λx=>by rw[hLe]);refine aq O ?_;refine auM (ae8 0 aU O ac (λa=>L.getD (q.getD a 0) []) (λa ha=>by rw[tq a ha];exact WR _ (qJ a ha)) (λw' q2 ED CY h a ha=>by
  rw[tq a ha];exact MI (p:=aX 27 A5 L.length c5 (q2.map (sv (q.map (sv js))))) h bT (qJ a ha))) O O O ?_
 rintro _ w5 ⟨rfl,aO⟩;generalize hkp:jj (λa=>L.getD (q.getD a 0) []) L.length=kp at*;have EI:kp.map (sv (q.map (sv js)))=(kp.map λa=>q.getD a 0).map λi=>js.getD i bI:=by
  rw[List.map_map];exact ki λa ha=>by rw[<-hkp]at ha;exact tq a (K5 ha)
 have aO:St w w5 ([aX 27 A5 kp.length c5 (kp.map (sv (q.map (sv js))))]++cC 2 js L):=aO;have bk:=aO.pick bT e2 (λi hi=>by rw[bT];exact e3 i hi);rw[e1,EI,e4]at bk;refine bR O (dV O ?_);exact⟨A5,c5,(kp.map λa=>q.getD a 0).map λi=>js.getD i bI,by rw[e4],by rw[jd,jd];exact e4,by rw[dQ];exact bk⟩
section
variable {P:Program}{N:Nat}{ops:Array Oper}{K:Env->aa->Prop}{rest:List Oper}{e:Env}{w0 w w':aa}{ks:List Ck}{d:Nat}{ty:ad}{pos:String}{af:Array Edge}
theorem To{x:ae}{t kt et:ad}{g:Nat}{iP:List (ab×ab)}[bJ P t (.map kt et)](hR:mQ w g iP)(hx:ev e x=.map (some g))(hb:Nat.blt d N=true)(hK:ak P N ops K rest (bE e d (aj (iP.length:Int))) w):
 ak P N ops K (⟨some d,.call ⟨.builtin .len, #[x], #[t]⟩,ty,pos,af,none⟩::rest) e w:=by
 obtain⟨es,cl,hh,hm⟩:=hR;have hl:es.size=iP.length:=by rw[<-hm];simp
 refine .val (w':=w) ?_ hb hK;simp[execOp,resolve,invoke,builtin,Builtin.len_,hx,run_underlying (bJ.out (P:=P) (t:=t)),MapKept.run_getObj_map hh,goInt,Result.andThen,hl]
end
theorem aou{G:ag}{x:ah}{k:Nat}(hn:G.Nodup)(hl:x.length=k+1)(hG:∀p∈dT x k,p∈G):∀e∈gv (fb (tM G x)),e<G.length:=by
 intro e he;have h1:=(tD _).subset ((Di _ _ O (BI _)).2.1 e he);unfold tM at h1;rw[show x.length-1=k by omega]at h1;obtain⟨p,hp,rfl⟩:=de.1 h1;obtain⟨i,hi,_,h3⟩:=HO hn (hG p hp);omega
theorem arH(M:List KE)(p:KE):sK (M++[p])=sK M++[fF p.2.2]:=by simp[sK]
theorem UG{B L:List Nat}{r:Nat}(h:jD B L)(hr:r∈fm B):jD B (L++[r]):=.of (λb hb=>Dt (λx hx=>List.mem_append_left _ hx) b ((h b).1 (nu hb))) λb hb=>by
 rcases dF.1 hb with hb|hb
 ·exact(h b).2 (nu hb)
 obtain rfl:=eX.1 hb;exact hr
theorem UH{B L:List Nat}{r v:Nat}(h:jD B L)(hr:r^^^v∈fm B):jD (B++[v]) (L++[r]):=by
 have hB:∀u∈fm B,u∈fm (B++[v]):=Dt λx hx=>List.mem_append_left _ hx
 have hL:∀u∈fm L,u∈fm (L++[r]):=Dt λx hx=>List.mem_append_left _ hx
 have hv:v∈fm (B++[v]):=nu (by simp);have dw:r∈fm (L++[r]):=nu (by simp);refine .of (λb hb=>?_) λb hb=>?_
 ·rcases dF.1 hb with hb|hb
  ·exact hL _ ((h b).1 (nu hb))
  obtain rfl:=eX.1 hb;have:=tE dw (hL _ ((h _).1 hr))
  rwa[xG]at this
 rcases dF.1 hb with hb|hb
 ·exact hB _ ((h b).2 (nu hb))
 obtain rfl:=eX.1 hb;have:=tE hv (hB _ hr)
 rwa[Nat.xor_comm b v,xG]at this
def ES(F:ag)(k:Nat):List Nat:=(eG F (k+1)).map λx=>sG (BG (eG F k) x)
theorem Y8{M:List KE}{b:Nat}{L:List Nat}(hk:(M.map (·.1)).Nodup)(hM:∀p∈M,Mu b p)(h:jD (sK M) L):tI L M.length:=by
 refine⟨sK M,by simp[sK],?_,h.symm⟩;have e:sK M=(M.map λp=>(p.1.toNat,fF p.2.2)).map (·.2):=by simp[sK]
 rw[e];refine abJ (λp hp=>?_) ?_
 ·obtain⟨q,hq,rfl⟩:=de.1 hp;exact(hM q hq).1.1.top (hM q hq).2
 rw[List.map_map];have h0:∀p∈M,0<=p.1:=λp hp=>(hM p hp).1.1.2 _ (by rw[F6 (hM p hp).2];simp)
 rw[List.Nodup,rV]at hk|-;refine hk.imp_of_mem λ{p q} hp hq bN e=>bN ?_
 have e:p.1.toNat=q.1.toNat:=e;have:=h0 p hp;have:=h0 q hq;omega
theorem ahf{M:List KE}{t:Int}(h:dh M t=none):t∉M.map (·.1):=λhm=>by
 obtain⟨p,hp,e⟩:=de.1 hm;exact F5 h p hp e
theorem amp{M:List KE}{p:KE}(h:(M.map (·.1)).Nodup)(hp:p.1∉M.map (·.1)):((M++[p]).map (·.1)).Nodup:=by
 rw[iE,List.nodup_append];refine⟨h,by simp,λa ha b hb e=>hp ?_⟩;obtain rfl:b=p.1:=by simpa using hb
 rw[<-e];exact ha
theorem aoJ(a:List Ck)(b:Ck)(X Z Y:List Ck):(b::(X++(Z++(a++Y)))).Perm (a++(b::((X++Z)++Y))):=by
 have e1:b::(X++(Z++(a++Y)))=((b::(X++Z))++a)++Y:=by simp
 have e2:a++(b::((X++Z)++Y))=(a++(b::(X++Z)))++Y:=by simp
 rw[e1,e2];exact gL.append_right Y
abbrev xD(g2 g1:Nat)(M:List KE)(G:ag)(Y:List Ck):List Ck:=fc 122 g2 (dZ (Value.int .i64) LC M)::fc 117 g1 (dZ Value.string (Value.int .i64) (uE G))::Y
theorem apA(Pc:ai)(V:Int)(A:ai)(n c:Nat)(rs:List aE)(F:ag)(k:Nat)(w:aa)(hT:lh w)(hP:Rd w Pc 2 (λj=>[Value.int .i64 V,.slice A n c].getD j undef))(hR:bH w A n rs F)(hC:gm V F)(hk:1<=k/\k<=5):
 aF prog 112 [.pointer Pc,aj ((k:Int)+1)] w (λv w'=>∃r:Nat,v=aj r/\tI (ES F k) r/\r<=30000/\St w w' []):=by
 have lO:=hR.len;have yf:=hC.f;have h6:∀f∈F,f.length<=6:=λf hf=>(hC.row f hf).1.2
 have tp:∀f∈F,SA f:=λf hf=>(hC.row f hf).2.1
 have z6:=Ce k h6;have hHl:=Ce (k+1) h6;have Cu:=(UZ F k).nodup;have lQ:∀y∈eG F k,SA y/\y.length=k:=λy hy=>⟨F0 tp hy,yc hy⟩
 have Gl:∀y∈eG F k,∀a∈y,-9223372036854775808<=a/\a<=9223372036854775807:=λy hy a ha=>by
  obtain⟨f,hf,hs,_⟩:=(Jt ac).1 hy;have:=(hC.row f hf).2.2 a (hs.subset ha);have:=hC.v;omega
 have hHp:∀x∈eG F (k+1),SA x/\x.length=k+1/\∀p∈dT x k,p∈eG F k:=λx hx=>⟨F0 tp hx,yc hx,λp hp=>by
  obtain⟨f,hf,hs,_⟩:=(Jt ac).1 hx;exact(Jt ac).2 ⟨f,hf,(oF.1 hp).1.trans hs,(oF.1 hp).2⟩⟩
 have aj3:ES F k=(eG F (k+1)).map λx=>sG (BG (eG F k) x):=O
 refine bn func112 O ntmps112 O (bM O) (aY O (wc (St.refl w) O ?_));intro g1 w1 ax;refine aq O (cV O ?_);have Pq:=FZ Pc V A n c rs F k w1 (ax.gS hP) (ax.bU hR) ac h6 ac;have W9:=λw=>FZ Pc V A n c rs F (k+1) w
 generalize hG:eG F k=G at*;generalize hH:eG F (k+1)=H at*;refine auM Pq O (by show[_,Value.int .i64 ((k:Int)+1-1)]=_;congr 3;omega) O ?_;rintro _ w2 ⟨kK,nF,E7,rfl,hrl19,aw⟩;have az:St w w2 (aV 27 2 kK G.length nF E7 G++[fc 117 g1 (dZ Value.string (Value.int .i64) (uE (G.take 0)))]):=by
  have:=ax.call aw;rw[dQ]at this;exact this
 clear aw Pq;refine aR O O (ay O ?_);refine Cd.loop (α:=Nat) (λz=>[(0,.pointer Pc),(1,aj ((k:Int)+1)),(5,.map (some g1)),(19,.slice kK G.length nF),(20,aj (G.length:Int)),(21,aj z)]) (λz w'=>z<=G.length/\St w w' (aV 27 2 kK G.length nF E7 G++[fc 117 g1 (dZ Value.string (Value.int .i64) (uE (G.take z)))])) (λz=>G.length-z) 0 (auV O) ⟨bl _,az⟩ ?_;clear az ax;rintro i e w3 ⟨hi,hS⟩;refine bC O (aK _ O (λh1=>?_) (λh1=>?_))
 ·have yv:i<G.length:=by omega
  have OP:=hS.fO O;have iO:=OP.at_ (i:=(i:Int)) ac ac;have ng:gl G i∈G:=by rw[df yv];exact dt _
  have hlen:=(lQ _ ng).2;have CT:=aoh Cu yv;have kH:=Z7 yv;have KJ:=iO.1;refine aC O (aA OP.top.2 O (bw OP.top O (aq O (aI (xm _ _ _ (gl G i) _ (hT.ao hS.below) iO (Gl _ ng) ac) O ?_))));rintro _ w4 ⟨rfl,aw⟩;have aU:=(hS.ao aw.below).perm gL;refine aq O (tL O sl 0 (u:=(i:Int)) (a:=fK (gl G i)) aU O O O O ?_);intro w5 aO;have aO:St w w5 ([fc 117 g1 (dZ Value.string (Value.int .i64) (gh (uE (G.take i)) (fK (gl G i)) (i:Int)))]++aV 27 2 kK G.length nF E7 G):=aO;rw[Rw CT,<-kH]at aO;refine aq O (aJ O (aN O (tQ ?_)));exact⟨i+1,by show G.length-(i+1)<G.length-i;omega,(auV O),by show i+1<=G.length;omega,aO.perm gL⟩
 rw[jw (show G.length<=i by omega)]at hS;refine ba O (bc (bY O ?_));refine wc (hS.perm gL) O ?_;intro g2 w4 aU;refine aq O (aI (W9 w4 (aU.gS hP) (aU.bU hR) ac h6 ac) O ?_);rintro _ w5 ⟨vW,zN,uN,rfl,akK,aw⟩;clear W9;have aO:St w w5 (xD g2 g1 [] G (aV 27 2 vW H.length zN uN H++aV 27 2 kK G.length nF E7 G)):=by
  have:=aU.call aw;rw[dQ]at this;refine this.perm ?_;show(aV _ _ _ _ _ _ _++([_,_]++aV _ _ _ _ _ _ _)).Perm ([_,_]++(aV _ _ _ _ _ _ _++aV _ _ _ _ _ _ _));rw[<-ef,<-ef];exact gL.append_right _
 have AX:∀q∈aV 27 2 vW H.length zN uN H,q∈aV 27 2 vW H.length zN uN H++aV 27 2 kK G.length nF E7 G:=λq hq=>List.mem_append_left _ hq
 generalize aV 27 2 vW H.length zN uN H++aV 27 2 kK G.length nF E7 G=Y0 at*;clear aU aw hS;refine aR O O (ay O ?_);refine Cd.loop (α:=Nat×List KE×List Ck) (λz=>[(1,aj ((k:Int)+1)),(5,.map (some g1)),(8,.map (some g2)),(34,.slice vW H.length zN),(35,aj (H.length:Int)),(36,aj (z.1:Int))]) (λz w'=>z.1<=H.length/\z.2.1.length<=z.1/\(∀p∈z.2.1,Mu G.length p/\av 2 p.2.1.a p.2.1.n p.2.1.c p.2.2∈z.2.2)/\(z.2.1.map (·.1)).Nodup/\jD (sK z.2.1) ((H.take z.1).map λx=>sG (BG G x))/\(∀q∈aV 27 2 vW H.length zN uN H,q∈z.2.2)/\St w w' (xD g2 g1 z.2.1 G z.2.2)) (λz=>H.length-z.1) (0,[],Y0) ⟨rfl,rfl,rfl,rfl,rfl,rfl,au⟩ ⟨bl _,bl _,(λ_ h=>by cases h),List.Pairwise.nil,jD.refl _,AX,aO⟩ ?_;clear aO AX;rintro⟨i,M,Y⟩ e w6 ⟨hi,hMi,hM,yh,hE,cE,hS⟩;dsimp only at hi hMi hM yh hE cE hS|-;refine bC O (aK _ O (λh2=>?_) (λh2=>?_))
 ·have Xh:i<H.length:=by omega
  have hY:∀q∈Y,q∈xD g2 g1 M G Y:=λq hq=>fE _ (fE _ hq)
  obtain⟨q0,sg⟩:=List.mem_iff_getElem?.1 (hY _ (cE _ (show aX 27 vW H.length zN uN∈aV _ _ _ _ _ _ _ from List.mem_cons_self)));have O0:fu w6 vW H.length uN:=hS.dm q0 sg;have br:av 2 (rg uN i).a (rg uN i).n (rg uN i).c (gl H i)∈Y:=cE _ (fE _ (List.mem_iff_getElem?.2 ⟨i,BC akK ac⟩));have CH:=sA hS (hY _ br);obtain⟨q1,ED⟩:=List.mem_iff_getElem?.1 (hY _ br);have gu:=(hS.cap q1 ED).1;have gu:(rg uN i).n<=(rg uN i).c:=gu;have ng:gl H i∈H:=by rw[df Xh];exact dt _
  obtain⟨C7,cT,C5⟩:=hHp _ ng;have fk:=CH.1;have CG:=adS Cu lQ C7 cT C5;have dH:=aou Cu cT C5;have ai3:tM G (gl H i)=(dT (gl H i) k).map (sB G):=by unfold tM;rw[show(gl H i).length-1=k by omega]
  have kH:(H.take (i+1)).map (λx=>sG (BG G x))=(H.take i).map (λx=>sG (BG G x))++[sG (BG G (gl H i))]:=by rw[nV Xh,iE];rfl
  rw[ai3]at CG dH;generalize gl H i=x at*;have yi:=vO (l:=x) k ac;refine aC O (aA O0.2 O (bw O0 O ?_));refine aq O (cV O ?_);refine auM (HS k _ _ _ x _ CH gu ac ac) O (by show[_,Value.int .i64 ((k:Int)+1-1)]=_;congr 3;omega) O ?_;rintro _ w7 ⟨xH,x4,BE,rfl,hrl43,aw⟩;generalize hN:dT x k=N at*;have bp:St w w7 (av 2 none 0 0 []::(aV 27 2 xH N.length x4 BE N++xD g2 g1 M G Y)):=by
   have:=hS.call aw;rw[dQ]at this;exact this.nil _
  refine aR O O (ay O ?_);refine Cd.loop (α:=Nat×ai×Nat) (λz=>[(1,aj ((k:Int)+1)),(5,.map (some g1)),(8,.map (some g2)),(11,.slice z.2.1 z.1 z.2.2),(34,.slice vW H.length zN),(35,aj (H.length:Int)),(36,aj i),(43,.slice xH N.length x4),(44,aj (N.length:Int)),(45,aj (z.1:Int))]) (λz w'=>z.1<=N.length/\St w w' (av 2 z.2.1 z.1 z.2.2 ((N.take z.1).map (sB G))::(aV 27 2 xH N.length x4 BE N++xD g2 g1 M G Y))) (λz=>N.length-z.1) (0,none,0) (auV O) ⟨bl _,bp⟩ ?_;clear bp aw hS sg O0 CH ED;rintro⟨j,eP,iW⟩ e w8 ⟨hj,hS⟩;dsimp only at hj hS|-;refine bC O (aK _ O (λh3=>?_) (λh3=>?_))
  ·have lV:j<N.length:=by omega
   have OR:=hS.tail.fO O;have l6:=OR.at_ (i:=(j:Int)) ac ac;have akI:=l6.1;have kG:gl N j∈N:=by rw[df lV];exact dt _
   have XQ:=C5 _ kG;have ui:=(lQ _ XQ).2;refine aC O (aA OR.top.2 O (bw OR.top O (aq O (aI (xm _ _ _ (gl N j) _ (hT.ao hS.below) l6 (Gl _ XQ) ac) O ?_))));rintro _ w9 ⟨rfl,aw⟩;have bj:=hS.ao aw.below;have hRg:mQ w9 g1 (dZ Value.string (Value.int .i64) (uE G)):=by
    have h9:St w w9 ((av 2 eP j iW ((N.take j).map (sB G))::aV 27 2 xH N.length x4 BE N)++xD g2 g1 M G Y):=bj;exact(h9.sub (fj _ _)).oH 1 O
   refine FE sl (fK (gl N j)) hRg O O O (eh bj O O O ?_);intro A54 dJ cQ;refine eQ 1 cQ O (cQ.bF 0 O) O O O λSJ T7 eO dA=>aq O (aJ O (aN O (tQ ?_)));refine⟨(j+1,SJ,T7),by show N.length-(j+1)<N.length-j;omega,(auV O),by show j+1<=N.length;omega,?_⟩;show St w eO (av 2 SJ (j+1) T7 ((N.take (j+1)).map (sB G))::_);rw[nV lV,iE];exact St.tail dA
  rw[jw (show N.length<=j by omega)]at hS;have gp:j=N.length:=by omega
  refine ba O (bc (bY O ?_));refine aI (HQ 0 hS O ac) O ?_;rintro _ w9 ⟨uW,vi,rfl,bj⟩;generalize uv:gv (fb (N.map (sB G)))=x0 at*;refine FB aL aL O O O O O O O ?_;have bj:St w w9 ((av 2 uW x0.length vi x0::av 2 eP j iW (fb (N.map (sB G)))::aV 27 2 xH N.length x4 BE N)++xD g2 g1 M G Y):=bj;have OK:=bj.sub (fj _ _);refine aI (apJ g2 M ⟨uW,x0.length,vi⟩ x0 G.length _ (OK.oH 0 O) (λp hp=>⟨sA OK (hY _ (hM p hp).2),(hM p hp).1⟩) (bj.bF 0 O) ⟨CG.2,dH⟩ ac) O ?_;rintro _ dJ ⟨s',x',X,rfl,jT,lu,fI,Qm,l5⟩;have cQ:=bj.call Qm;refine kM cQ O λjn eO dA=>dU 2 0 dA O O O O O O O ?_;intro gD dz;have dz:St w gD (jf jn s'::(X++((av 2 uW x0.length vi x0::av 2 eP j iW (fb (N.map (sB G)))::aV 27 2 xH N.length x4 BE N)++xD g2 g1 M G Y))):=dz;have YC:av 2 s'.a s'.n s'.c x'∈X++(av 2 uW x0.length vi x0::av 2 eP j iW (fb (N.map (sB G)))::aV 27 2 xH N.length x4 BE N):=by
   rcases l5 with⟨rfl,rfl⟩|h
   ·exact List.mem_append_right _ List.mem_cons_self
   exact List.mem_append_left _ h
  have il:St w gD (xD g2 g1 M G (jf jn s'::((X++(av 2 uW x0.length vi x0::av 2 eP j iW (fb (N.map (sB G)))::aV 27 2 xH N.length x4 BE N))++Y))):=by
   refine dz.perm ?_;exact aoJ [_,_] _ _ _ _
  generalize X++(av 2 uW x0.length vi x0::av 2 eP j iW (fb (N.map (sB G)))::aV 27 2 xH N.length x4 BE N)=Z at*;clear dz dA cQ bj OK hS;have hZ:∀q∈Z,q∈jf jn s'::(Z++Y):=λq hq=>fE _ (List.mem_append_left _ hq)
  have vq:∀q∈Y,q∈jf jn s'::(Z++Y):=λq hq=>fE _ (List.mem_append_right _ hq)
  have Cq:=il.rd 2 O;have C4:=sA il (fE _ (fE _ (hZ _ YC)));have hxl':=C4.1;have Qt:=jT.1.len jT.2;generalize hZY:jf jn s'::(Z++Y)=ZY at*;rw[CG.1]at lu;refine aq O (aS Cq O (a6 Cq O ?_));refine aR O O (ay O ?_);refine aK _ O (λh4=>?_) (λh4=>?_)
  ·obtain⟨m,hm⟩:∃m,x'.length=m+1:=⟨x'.length-1,ac⟩;have kO:=HE hm;have e1:((s'.n:Int)-1)=(m:Int):=by omega
   have EC:=fI _ kO;refine iu [10] [.ex (.map (some g2)),yP (aH (jn) 1),yS (s'.a) (s'.n) (s'.c),yP (aH (jn) 1),yS (s'.a) (s'.n) (s'.c),yI (((s'.n:Nat):Int)),yI ((((s'.n:Nat):Int))-((1:Int))),yP (aH s'.a ((s'.n:Int)-1).toNat),yI (gi x' ((s'.n:Int)-1)),.ex (.agg #[.slice (none) (0) (0),.slice (s'.a) (s'.n) (s'.c)]),.pr (λ_ w'=>St w w' (xD g2 g1 (gh M (gi x' ((s'.n:Int)-1)) (s',x')) G ZY))] (ly (ly (ly (ly (ly (ly (ly (ly (ly (ly (bV.2 ⟨Ye.bW (λv w w' h hb=>h.ao hb),(λ_ h=>by cases h)⟩))))))))))) ?_ ?_
   ·refine⟨bP O,cP λ_ _ hb _ _ _=>aS (Cq.below hb) O (bA O O),cP λ_ _ hb _ _ _=>a6 (Cq.below hb) O (bA O O),cP λ_ _ hb _ _ _=>aS (Cq.below hb) O (bA O O),cP λ_ _ hb _ _ _=>a6 (Cq.below hb) O (bA O O),aP λ_ _=>aR O O (bA O O),aP λ_ _=>cV O (bA O O),cP λ_ _ hb _ _ _=>auJ (i:=(s'.n:Int)-1) (C4.ao hb).2 O O O ac ac (bA O O),cP λ_ _ hb _ _ _=>auK (i:=(s'.n:Int)-1) (C4.ao hb) O ac O O (bA O O),cP λ_ _ hb _ _ _=>cG 1 (Cq.below hb) O O O (bA O O),?_,au⟩;refine iF λe1 w1 hb hp aW hq=>?_
    exact tL O vI 0 (u:=(s',x')) (a:=gi x' ((s'.n:Int)-1)) (il.ao hb) O O O O λw9 bj=>ak.n (dS.st O bj)
   intro _ jm _ hu _ _;have hT:=hu 10 _ O an;rw[e1,Rw (F5 EC)]at hT;generalize gi x' m=t at*;refine gq O (aJ O (aN O (tQ ?_)));refine⟨(i+1,M++[(t,(s',x'))],ZY),by show H.length-(i+1)<H.length-i;omega,(auV O),by show i+1<=H.length;omega,by show(M++[_]).length<=i+1;simp;omega,λp hp=>?_,amp yh (ahf EC),?_,λq hq=>vq _ (cE q hq),hT⟩
   ·rcases dF.1 hp with hp|hp
    ·exact⟨(hM p hp).1,vq _ (hM p hp).2⟩
    obtain rfl:=eX.1 hp;exact⟨⟨jT,kO⟩,hZ _ YC⟩
   show jD (sK (M++[_])) ((H.take (i+1)).map _);rw[arH,kH];exact UH hE lu
  have oA:x'=[]:=iL ac;rw[oA,ZL,Nat.xor_zero]at lu;refine aC O (aJ O (aN O (tQ ?_)));exact⟨(i+1,M,ZY),by show H.length-(i+1)<H.length-i;omega,(auV O),by show i+1<=H.length;omega,by show M.length<=i+1;omega,λp hp=>⟨(hM p hp).1,vq _ (hM p hp).2⟩,yh,by show jD (sK M) ((H.take (i+1)).map _);rw[kH];exact UG hE lu,λq hq=>vq _ (cE q hq),il⟩
 rw[jw (show H.length<=i by omega)]at hE;refine ba O (bc (bY O ?_));refine To (hS.oH 0 O) O O (bR O (gj O ?_));refine⟨M.length,by show Value.int .i64 ((dZ (Value.int .i64) LC M).length:Int)=_;simp[dZ],?_,ac,hS.none⟩;rw[aj3];exact Y8 yh (λp hp=>(hM p hp).1) hE
end
section
def uP:Nat->(Nat->Int)->Int
 |0,_=>0
 |n+1,g=>uP n g+g n
def pX(p:Nat->Int):Nat->Int
 |0=>0
 |n+1=>p n
def pD(p:Nat->Int):Nat->Int:=λn=>p n-pX p n
def p1:Nat->Int:=λn=>if n=0 then 1 else 0
def nt:Nat->Nat->Int
 |0=>p1
 |m+1=>pD (nt m)
def pW:ah->Nat->Nat->Int
 |[],_=>λ_=>0
 |a::r,m=>λn=>a*nt m n+pX (pW r (m-1)) n
theorem aoC:pX (λ_=>0)=λ_=>0:=by funext n;cases n<;>rfl
def conv(p q:Nat->Int)(n:Nat):Int:=uP (n+1) λi=>p i*q (n-i)
def hP(f:ah):ah:=(List.range f.length).map (pW f (f.length-1))
theorem aiz(f:ah):(hP f).length=f.length:=by simp[hP]
theorem aam:∀(l:ah)(a:Int)(m n:Nat),pW (l++[a]) m n=pW l m n+(if l.length<=n then a*nt (m-l.length) (n-l.length)else 0)
 |[],a,m,n=>by
  show a*nt m n+pX (λ_=>0) n=0+_;rw[aoC];simp
 |b::r,a,m,n=>by
  show b*nt m n+pX (pW (r++[a]) (m-1)) n=b*nt m n+pX (pW r (m-1)) n+_;cases n with
  |zero=>simp[pX]
  |succ n=>
   simp only[pX,aam r a (m-1) n,List.length_cons];rw[show m-1-r.length=m-(r.length+1) by omega,show n+1-(r.length+1)=n-r.length by omega]
   by_cases h:r.length<=n
   ·rw[aG h,aG (by omega)];omega
   ·rw[aD h,aD (by omega)];omega
end
section
open Go.RowKit
variable{F:ag}{b y:Int}{d p:Nat}
theorem Nn(Pc:ai)(V:Int)(A:ai)(n c:Nat)(rs:List aE)(F:ag)(w:aa)(hP:Rd w Pc 2 (λj=>[Value.int .i64 V,.slice A n c].getD j undef))(hR:bH w A n rs F)(hn:n<=1000)(h6:∀f∈F,f.length<=1000000):
 aF prog 105 [.pointer Pc] w (λv w'=>v=aj (du F:Int)/\w'=w):=by
 have lO:=hR.len;refine bn func105 O ntmps105 O (bM O) (aY O (dX hP ac O O (aS hP O (a6 hP O ?_))));refine aR O O (ay O ?_);refine Cd.loop (α:=Nat) (λi=>[(3,aj ((du (F.take i):Nat):Int)),(9,.slice A n c),(10,aj n),(11,aj i)]) (λi w'=>w'=w/\i<=n) (λi=>n-i) 0 (auV O) ⟨O,bl _⟩ ?_;rintro i e w ⟨rfl,hi⟩;refine bC O (aK _ O (λh3=>?_) (λh3=>?_))
 ·have nM:i<F.length:=by omega
  have br:=hR.at_ (i:=(i:Int)) ac ac;have KJ:=br.1;refine aC O (aA hR.top.2 O (bw hR.top O (aq O (aI (oK _ _ _ _) O ?_))));rintro _ _ ⟨rfl,rfl⟩;refine Tp O O O (aq O (aJ O (aN O (tQ ?_))));exact⟨i+1,by show n-(i+1)<n-i;omega,⟨by show Value.int .i64 _=aj _;rw[afJ nM];congr 1;omega,O,O,O,au⟩,O,ac⟩
 refine ba O (bc (ew O ?_));refine gj O ?_;have cE:i=F.length:=by omega
 refine⟨?_,O⟩;rw[cE,List.take_length]
def DX(F:ag)(k:Nat):ah:=(List.range k).map λj=>((eG F j).length:Int)
theorem ahb(F:ag)(k:Nat):DX F (k+1)=DX F k++[((eG F k).length:Int)]:=by simp[DX,lK]
theorem NR(hn:F.length<=400)(h6:∀f∈F,f.length<=6):∀x∈iN F,0<=x/\x<=30000:=λx hx=>by
 obtain⟨k,_,rfl⟩:=de.1 hx;have:=Ce k h6;omega
theorem Nz(Pc:ai)(V:Int)(A:ai)(n c:Nat)(rs:List aE)(F:ag)(w:aa)(hP:Rd w Pc 2 (λj=>[Value.int .i64 V,.slice A n c].getD j undef))(hR:bH w A n rs F)(hn:n<=1000)(h6:∀f∈F,f.length<=6):
 aF prog 46 [.pointer Pc] w (λv w'=>∃A' c',v=.slice A' (du F+1) c'/\St w w' [av 2 A' (du F+1) c' (iN F)]):=by
 have hd:=FX h6;refine bn func46 O ntmps46 O (bM O) (aY O ?_);refine aI (Nn Pc V A n c rs F w hP hR hn (λf hf=>by have:=h6 f hf;omega)) O ?_;rintro _ w ⟨rfl,rfl⟩;refine aJ O (ay O ?_);refine Cd.loop (α:=Nat×ai×Nat) (λz=>[(0,.pointer Pc),(3,.slice z.2.1 z.1 z.2.2),(7,aj ((du F:Int)+1)),(8,aj (z.1:Int))]) (λz w'=>z.1<=du F+1/\St w w' [av 2 z.2.1 z.1 z.2.2 (DX F z.1)]) (λz=>du F+1-z.1) (0,none,0) (auV O) ⟨bl _,(St.refl w).nil _⟩ ?_;rintro⟨k,A3,c3⟩ e w1 ⟨hk,hS⟩;dsimp only at hk hS|-;refine bC O (aK _ O (λh1=>?_) (λh1=>?_))
 ·refine aC O (aI (FZ Pc V A n c rs F k _ (hS.gS hP) (hS.bU hR) hn h6 ac) O ?_);rintro _ w2 ⟨A4,c4,bZ,rfl,_,hT⟩;have az:St w w2 [av 2 A3 k c3 (DX F k)]:=hS.ao hT.below;have CU:=Ce (F:=F) k h6;refine aI (BH _ _ _ _) O ?_;rintro _ _ ⟨rfl,rfl⟩;refine eh az O O O λA5 w3 aM=>eQ 1 aM O (aM.bF 0 O) O O O ?_;intro A6 c6 w4 aU;have aU:St w w4 [av 2 A6 (k+1) c6 (DX F (k+1))]:=by rw[ahb];exact aU.tail
  refine aq O (aJ O (aN O (tQ ?_)));exact⟨(k+1,A6,c6),by show du F+1-(k+1)<du F+1-k;omega,(auV O),by show k+1<=du F+1;omega,aU⟩
 have pM:k=du F+1:=by omega
 subst pM;refine ba O (bc (ew O ?_));exact dV O ⟨A3,c3,O,hS⟩
theorem abC{g:Nat->Int}{b:Int}(h0:0<=b):∀{n:Nat},(∀i,i<n-> -b<=g i/\g i<=b)-> -(n*b)<=uP n g/\uP n g<=n*b
 |0,_=>by simp[uP]
 |n+1,h=>by
  have h1:=abC h0 (n:=n) λi hi=>h i ac
  have h2:=h n ac;have e:((n+1:Nat):Int)*b=n*b+b:=by rw[Int.natCast_add,Int.add_mul];simp
  rw[e];unfold uP;omega
def rp(f:ah)(i:Nat):Int:=if i%2=0 then gi f i else-gi f i
def IK(f:ah):Int:=uP f.length (rp f)
theorem JC{f:ah}(hb:∀x∈f,0<=x/\x<=b){i:Nat}(h:i<f.length):0<=gi f i/\gi f i<=b:=by
 rw[b7 h];exact hb _ (dt _)
theorem adx{f:ah}(hb:∀x∈f,0<=x/\x<=b){i:Nat}(h:i<f.length): -b<=rp f i/\rp f i<=b:=by
 have:=JC hb h;unfold rp
 split<;>omega
theorem agd(A:ai)(n c:Nat)(f:ah)(w:aa)(hR:bu w A n f)(hn:n<=100)(hb:∀x∈f,0<=x/\x<=30000):
 aF prog 43 [.slice A n c] w (λv w'=>v=aj (IK f)/\w'=w):=by
 have fk:=hR.1;have la:∀k,k<=n-> -3000000<=uP k (rp f)/\uP k (rp f)<=3000000:=λk hk=>by
  have h1:=abC (g:=rp f) (b:=30000) ac (n:=k) λi hi=>adx hb ac
  have h2:(k:Int)*30000<=3000000:=by omega
  omega
 refine bn func43 O ntmps43 O (bM O) ?_;refine aY O (aR O O (ay O ?_));refine Cd.loop (α:=Nat) (λi=>[(3,aj (uP i (rp f))),(6,.slice A n c),(7,aj n),(8,aj i)]) (λi w'=>w'=w/\i<=n) (λi=>n-i) 0 (auV O) ⟨O,bl _⟩ ?_;rintro i e w ⟨rfl,hi⟩;have h0:=la i hi;refine bC O (aK _ O (λh3=>?_) (λh3=>?_))
 ·have h1:=la (i+1) ac;have h2:uP (i+1) (rp f)=uP i (rp f)+rp f i:=O;have h5:=JC hb (i:=i) ac;refine aC O (aA hR.2 O (bg hR O (aq O (ak.rem O O O ac (ay O ?_)))));refine aK _ O (λh4=>?_) (λh4=>?_)
  ·have e:rp f i=gi f i:=by unfold rp;rw[if_pos (by omega)]
   refine aC O (aJ O (aq O (aJ O (aN O (tQ ?_)))));exact⟨i+1,by show n-(i+1)<n-i;omega,⟨by show Value.int .i64 _=aj _;rw[h2,e],O,O,O,au⟩,O,ac⟩
  have e:rp f i= -gi f i:=by unfold rp;rw[if_neg (by omega)]
  refine aC O (cV O (aq O (aJ O (aN O (tQ ?_)))));exact⟨i+1,by show n-(i+1)<n-i;omega,⟨by show Value.int .i64 _=aj _;rw[h2,e];congr 1,O,O,O,au⟩,O,ac⟩
 have cE:i=f.length:=by omega
 refine ba O (bc (ew O ?_));refine gj O ?_;exact⟨by rw[cE];rfl,O⟩
def vj(m:Nat):Nat->Int
 |0=>1
 |i+1=>vj m i*((m:Int)-i) / ((i:Int)+1)
theorem T9:∀m,m<8->∀i,i<9->0<=vj m i/\vj m i<=100:=by decide+kernel
theorem aeI:∀m,m<7->∀i,i<8->i<=m->nt m i=if i%2=0 then vj m i else-vj m i:=by decide+kernel
theorem aeH(m k:Nat)(w:aa)(hm:m<=6)(hk:k<=m):
 aF prog 114 [aj m,aj k] w (λv w'=>v=aj (vj m k)/\w'=w):=by
 refine bn func114 O ntmps114 O (bM O) (bC O ?_);refine Cd.loop (α:=Nat) (λi=>[(0,aj m),(5,aj (vj m i)),(7,aj k),(8,aj i)]) (λi w'=>w'=w/\i<=k) (λi=>k-i) 0 (auV O) ⟨O,bl _⟩ ?_;rintro i e w ⟨rfl,hi⟩;have h0:=T9 m ac i ac;refine bC O (aK _ O (λh3=>?_) (λh3=>?_))
 ·have G0:0<=vj m i*((m:Int)-i):=Int.mul_nonneg h0.1 ac;have PN:vj m i*((m:Int)-i)<=100*6:=Int.mul_le_mul h0.2 ac ac ac;refine aC O (cV O ?_);refine ak.mul O O O ac (aq O (aJ O ?_));refine ak.quo O O O ac (aq O (aJ O (aN O (tQ ?_))));exact⟨i+1,by show k-(i+1)<k-i;omega,(auV O),O,ac⟩
 have qy:i=k:=by omega
 subst qy;refine ba O (bc (ew O ?_));exact gj O ⟨O,O⟩
def rM(f:ah)(d k i p:Nat):Int:=pW (f.take k) d p+(if k<=p/\p-k<i then gi f k*nt (d-k) (p-k)else 0)
def o9(f:ah)(d k i:Nat):ah:=(List.range (d+1)).map (rM f d k i)
theorem KP(f:ah)(d k i:Nat):(o9 f d k i).length=d+1:=by simp[o9]
theorem ak7{f:ah}{k i:Nat}(h:p<=d):gi (o9 f d k i) p=rM f d k i p:=by
 rw[b7 (by rw[KP];omega)];simp[o9]
theorem ala(f:ah)(d:Nat):List.replicate (d+1) 0=o9 f d 0 0:=by
 unfold o9;rw[ki (g:=λ_=>(0:Int)) λp _=>by simp[rM,pW],List.map_const',od]
theorem Yz(f:ah)(d k p:Nat):rM f d k 0 p=pW (f.take k) d p:=by simp[rM]
theorem ak5{f:ah}{k:Nat}(hf:f.length=d+1)(hk:k<=d)(hp:p<=d):rM f d k (d-k+1) p=rM f d (k+1) 0 p:=by
 rw[Yz,lG (by omega),aam,jG,Nat.min_eq_left (by omega)];unfold rM
 congr 1
 by_cases h:k<=p
 ·rw[aG ⟨h,by omega⟩,aG h]
 rw[aD (λh'=>h h'.1),aD h]
theorem ak8{f:ah}{k:Nat}(hf:f.length=d+1)(hk:k<=d):o9 f d k (d-k+1)=o9 f d (k+1) 0:=
 ki λp hp=>ak5 hf hk (by have:=fo.1 hp;omega)
theorem ak9{f:ah}{k i:Nat}(h:k+i<=d):(o9 f d k i).set (k+i) (rM f d k i (k+i)+gi f k*nt (d-k) i)=o9 f d k (i+1):=by
 apply iC
 ·rw[fR,KP,KP]
 intro p h1 h2;rw[List.getElem_set];simp only[o9,List.getElem_map,List.getElem_range]
 by_cases hp:k+i=p
 ·subst hp;rw[aG rfl];unfold rM;rw[aD (by omega),aG ⟨by omega,by omega⟩,show k+i-k=i by omega];omega
 rw[aD hp];unfold rM
 by_cases h3:k<=p/\p-k<i
 ·rw[aG h3,aG ⟨h3.1,by omega⟩]
 rw[aD h3,aD (by omega)]
theorem ak6{f:ah}(hf:f.length=d+1):o9 f d (d+1) 0=hP f:=by
 unfold o9 hP;rw[hf];refine ki λp _=>?_
 rw[Yz,jw (by omega)];rfl
theorem Lp:∀(m n:Nat),-(2^m:Int)<=nt m n/\nt m n<=2^m
 |0,n=>by unfold nt p1;split<;>decide
 |m+1,n=>by
  have h1:=Lp m n;have e:(2^ (m+1):Int)=2^m+2^m:=by rw[Int.pow_succ];omega
  show-(2^ (m+1):Int)<=nt m n-pX (nt m) n/\nt m n-pX (nt m) n<=2^ (m+1);rw[e];have h0:(0:Int)<=2^m:=Int.pow_nonneg am;cases n with
  |zero=>simp only[pX];omega
  |succ n=>
   have h2:=Lp m n;simp only[pX];omega
theorem ZN{a x:Int}(ha:0<=a/\a<=b)(hx: -y<=x/\x<=y): -(b*y)<=a*x/\a*x<=b*y:=by
 have h1:a*x<=a*y:=Int.mul_le_mul_of_nonneg_left hx.2 ha.1;have h2:a* -y<=a*x:=Int.mul_le_mul_of_nonneg_left hx.1 ha.1;have h3:a*y<=b*y:=Int.mul_le_mul_of_nonneg_right ha.2 ac;rw[Int.mul_neg]at h2;omega
theorem aaw{m:Nat}(h:m<=6):(2^m:Int)<=64:=by
 have:∀m,m<7->(2^m:Int)<=64:=by decide
 exact this m ac
theorem aal:∀(f:ah)(m n:Nat),m<=6->(∀x∈f,0<=x/\x<=30000)-> -((f.length:Int)*1920000)<=pW f m n/\pW f m n<=(f.length:Int)*1920000
 |[],_,_,_,_=>by simp[pW]
 |a::r,m,n,hm,h=>by
  have h1:=Lp m n;have h2:=aaw hm;have h3:=ZN (y:=64) (h a (by simp)) (show-64<=nt m n/\nt m n<=64 by omega);show _<=a*nt m n+pX (pW r (m-1)) n/\a*nt m n+pX (pW r (m-1)) n<=_;rw[List.length_cons];cases n with
  |zero=>simp only[pX];omega
  |succ n=>
   have h4:=aal r (m-1) n ac λx hx=>h x (by simp[hx])
   simp only[pX];omega
theorem ak4{f:ah}{k i:Nat}(hf:f.length=d+1)(hd:d<=6)(hk:k<=d)(h:∀x∈f,0<=x/\x<=30000): -20000000<=rM f d k i p/\rM f d k i p<=20000000:=by
 have h1:=aal (f.take k) d p hd λx hx=>h x (List.mem_of_mem_take hx)
 have h2:((f.take k).length:Int)<=7:=by simp;omega
 have h3:=Lp (d-k) (p-k);have h4:=aaw (m:=d-k) ac;have h5:=ZN (y:=64) (JC h (i:=k) ac) (show-64<=nt (d-k) (p-k)/\_ by omega);unfold rM
 split<;>omega
theorem aiM(A:ai)(d c:Nat)(f:ah)(w:aa)(hR:bu w A (d+1) f)(hd:d<=6)(hb:∀x∈f,0<=x/\x<=30000):
 aF prog 53 [.slice A (d+1) c] w (λv w'=>∃A' c',v=.slice A' (d+1) c'/\St w w' [av 2 A' (d+1) c' (hP f)]):=by
 have fk:=hR.1;refine bn func53 O ntmps53 O (bM O) (aY O (aI (oK _ _ _ _) O ?_));rintro _ w ⟨rfl,rfl⟩;refine cV O (aq O (aJ O ?_));refine FG (d+1) (St.refl w) (by show Value.int .i64 (((d+1:Nat):Int)-1+1)=_;congr 1;omega) O ac ?_;intro A4 w1 ax;have ax:St w w1 [av 2 A4 (d+1) (d+1) (o9 f d 0 0)]:=by rw[<-ala];exact ax
 refine aq O (aR O O (ay O ?_));refine Cd.loop (α:=Nat) (λk=>[(3,aj (((d+1:Nat):Int)-1)),(4,.slice A4 (d+1) (d+1)),(16,.slice A (d+1) c),(17,aj ((d+1:Nat):Int)),(18,aj k)]) (λk w'=>k<=d+1/\St w w' [av 2 A4 (d+1) (d+1) (o9 f d k 0)]) (λk=>d+1-k) 0 (auV O) ⟨bl _,ax⟩ ?_;rintro k e w2 ⟨hk,az⟩;refine bC O (aK _ O (λh1=>?_) (λh1=>?_))
 ·have Xm:k<=d:=by omega
  have nK:=az.dq hR;refine aC O (aA nK.2 O (bg nK O ?_));refine aq O (cV O (aq O (aJ O (ay O ?_))));refine Cd.loop (α:=Nat) (λi=>[(3,aj (((d+1:Nat):Int)-1)),(4,.slice A4 (d+1) (d+1)),(5,aj k),(6,aj (gi f k)),(7,aj ((d-k:Nat):Int)),(16,.slice A (d+1) c),(17,aj ((d+1:Nat):Int)),(18,aj k),(27,aj ((d-k+1:Nat):Int)),(28,aj i)]) (λi w'=>i<=d-k+1/\St w w' [av 2 A4 (d+1) (d+1) (o9 f d k i)]) (λi=>d-k+1-i) 0 ⟨O,O,O,O,by show Value.int .i64 (((d+1:Nat):Int)-1-k)=aj ((d-k:Nat):Int);congr 1;omega,O,O,O,by show Value.int .i64 (((d+1:Nat):Int)-1-k+1)=aj ((d-k+1:Nat):Int);congr 1;omega,O,au⟩ ⟨bl _,az⟩ ?_;rintro i e w3 ⟨hi,aM⟩;refine bC O (aK _ O (λh2=>?_) (λh2=>?_))
  ·have hg:=JC hb (i:=k) ac;have tc:=T9 (d-k) ac i ac;have Ky:=aeI (d-k) ac i ac ac;have hE:=ak4 (i:=i) (p:=k+i) fk hd Xm hb;have G0:0<=gi f k*vj (d-k) i:=Int.mul_nonneg hg.1 tc.1;have PN:gi f k*vj (d-k) i<=30000*100:=Int.mul_le_mul hg.2 tc.2 tc.1 ac;have KO:=ak9 (f:=f) (d:=d) (k:=k) (i:=i) ac;have jQ:gi (o9 f d k i) ((k:Int)+i)=rM f d k i (k+i):=by
    have:=ak7 (f:=f) (k:=k) (i:=i) (p:=k+i) (d:=d) ac
    rwa[Int.natCast_add]at this
   have hlen:=KP f d k i;have Eb:bu w3 A4 (d+1) (o9 f d k i):=aM.bF 0 O;refine aC O (aI (aeH (d-k) i _ ac ac) O ?_);rintro _ _ ⟨rfl,rfl⟩;refine ak.mul O O O ac (aq O (ak.rem O O O ac (ay O ?_)));refine aK _ O (λh4=>?_) (λh4=>?_)
   ·rw[aD (by omega)]at Ky;rw[Ky,Int.mul_neg]at KO;refine aC O (ak.neg O O ac ?_);refine aq O (aJ O ?_);refine aA Eb.2 O (bg Eb O ?_);rw[jQ];refine aq O (aJ O ?_);refine aA Eb.2 O (ak.oL 0 aM O O O ac ?_);intro w4 aU;refine aq O (aJ O (aN O (tQ ?_)));exact⟨i+1,by show d-k+1-(i+1)<d-k+1-i;omega,(auV O),ac,by rw[<-KO];exact aU⟩
   rw[aG (by omega)]at Ky;rw[Ky]at KO;refine aC O (aJ O ?_);refine aA Eb.2 O (bg Eb O ?_);rw[jQ];refine aq O (aJ O ?_);refine aA Eb.2 O (ak.oL 0 aM O O O ac ?_);intro w4 aU;refine aq O (aJ O (aN O (tQ ?_)));exact⟨i+1,by show d-k+1-(i+1)<d-k+1-i;omega,(auV O),ac,by rw[<-KO];exact aU⟩
  have pK:i=d-k+1:=by omega
  rw[pK,ak8 fk Xm]at aM;refine ba O (bc (bY O (aJ O (aN O (tQ ?_)))));exact⟨k+1,by show d+1-(k+1)<d+1-k;omega,(auV O),ac,aM⟩
 have pM:k=d+1:=by omega
 rw[pM,ak6 fk]at az;refine ba O (bc (ew O ?_));exact dV O ⟨A4,d+1,O,az⟩
def KQ(V:Int)(F:ag):ah:=if gm V F then hP (iN F)else[]
def xh(V:Int)(F:ag):Int:=if gm V F then 0 else 1
theorem acp(V:Int)(A:ai)(n c:Nat)(rs:List aE)(F:ag)(w:aa)(hT:lh w)(hR:bH w A n rs F)(hn:n<=9223372036854775807):
 aF prog 22 [.agg #[aj V,.slice A n c]] w (SP (KQ V F) (xh V F) w):=by
 have lO:=hR.len;refine bn func22 O ntmps22 O (mI O) (aY O (nB (St.refl w) O O ?_));intro Ab w1 ax;refine aq O (cG 1 (ax.rd 0 O) O O O (aI (HA V A n c rs F _ (hT.ao ax.below) (ax.bU hR) hn) O ?_));rintro _ w2 ⟨rfl,aw⟩;have az:=ax.ao aw.below;unfold KQ xh
 first|refine cO rfl rfl ?_|refine dv rfl rfl ?_
 refine ay O (aK _ O (λh1=>?_) (λh1=>?_))
 ·rw[aD h1,aD h1];refine dE O (vQ O O ?_);exact⟨none,0,O,az.none.nil _⟩
 have hC:=kW.1 h1;have yf:=hC.f;have h6:∀f∈F,f.length<=6:=λf hf=>(hC.row f hf).1.2
 rw[aG hC,aG hC];refine aC O (aI (Nz Ab V A n c rs F _ (az.rd 0 O) (az.bU hR) ac h6) O ?_);rintro _ w3 ⟨A4,c4,rfl,mB⟩;have aM:=az.call2 mB;refine aI (aiM A4 (du F) c4 (iN F) _ (mB.bF 0 O) (FX h6) (NR yf h6)) O ?_;rintro _ w4 ⟨A5,c5,rfl,nn⟩;have aU:=aM.ao nn.below;have hl:(hP (iN F)).length=du F+1:=by rw[aiz,NS]
 refine bR O (vQ O O ?_);exact⟨A5,c5,by rw[hl],by rw[hl];exact(aM.call nn).sub (ny _ _)⟩
theorem ach(V:Int)(A:ai)(n c:Nat)(rs:List aE)(F:ag)(w:aa)(hT:lh w)(hR:bH w A n rs F)(hC:gm V F):
 aF prog 17 [.agg #[aj V,.slice A n c]] w (λv w'=>v=.tuple #[aj (IK ((iN F).drop 1)),aj 0]/\St w w' []):=by
 have lO:=hR.len;have yf:=hC.f;have h6:∀f∈F,f.length<=6:=λf hf=>(hC.row f hf).1.2
 have hd:=FX h6;refine bn func17 O ntmps17 O (mI O) (aY O (nB (St.refl w) O O ?_));intro Ab w1 ax;refine aq O (cG 1 (ax.rd 0 O) O O O (aI (HA V A n c rs F _ (hT.ao ax.below) (ax.bU hR) ac) O ?_));rintro _ w2 ⟨rfl,aw⟩;have az:=ax.ao aw.below
 first|refine cO rfl rfl ?_|refine dv rfl rfl ?_
 refine ay O (auT O (λh=>h hC) (aC O (aI (Nz Ab V A n c rs F _ (az.rd 0 O) (az.bU hR) ac h6) O ?_)));rintro _ w3 ⟨A4,c4,rfl,mB⟩;have aM:=az.ao mB.below;have jg:bu w3 A4 (du F+1) (iN F):=mB.bF 0 O;have hc4:du F+1<=c4:=(mB.cap 0 O).1;refine uY (l:=1) O O O ac (aI (agd _ _ _ ((iN F).drop 1) _ (jg.drop (l:=1) ac hc4) ac (λx hx=>NR ac h6 x (List.mem_of_mem_drop hx))) O ?_);rintro _ _ ⟨rfl,rfl⟩;refine bR O (LG O O ?_);exact⟨O,aM.none⟩
open Classical in
noncomputable def E5(L:List Nat):Nat:=if h:∃r,tI L r then h.choose else 0
theorem RJ{L:List Nat}{r:Nat}(h:tI L r):E5 L=r:=by
 have he:∃r,tI L r:=⟨r,h⟩;unfold E5;rw[dif_pos he];exact he.choose_spec.eq h
noncomputable def sF(F:ag)(k:Nat):Nat:=if k=0 then 0 else E5 (ES F k)
theorem RH{k r:Nat}(hk:1<=k)(h:tI (ES F k) r):sF F k=r:=by
 unfold sF;rw[aD (by omega)];exact RJ h
theorem apR{k:Nat}(hk:du F<=k)(h1:1<=k):sF F k=0:=by
 refine RH h1 ?_;unfold ES;rw[show eG F (k+1)=[]from agv (by omega)];exact⟨[],O,by simp[fm],jD.refl _⟩
noncomputable def IY(F:ag)(j:Nat):Int:=((eG F (j+1)).length:Int)-(sF F j:Int)-(sF F (j+1):Int)
noncomputable def wq(F:ag)(j:Nat):ah:=(List.range j).map (IY F)
noncomputable def FT(F:ag):ah:=wq F (du F)
theorem aex(F:ag)(j:Nat):(wq F j).length=j:=by simp[wq]
theorem aey(F:ag)(j:Nat):wq F (j+1)=wq F j++[IY F j]:=by simp[wq,lK]
noncomputable def IZ(V:Int)(F:ag):ah:=if gm V F then FT F else[]
theorem ad0(Pc:ai)(V:Int)(A:ai)(n c:Nat)(rs:List aE)(F:ag)(w:aa)(hT:lh w)(hP:Rd w Pc 2 (λj=>[Value.int .i64 V,.slice A n c].getD j undef))(hR:bH w A n rs F)(hC:gm V F):
 aF prog 49 [.pointer Pc] w (λv w'=>∃A' c',v=.slice A' (du F) c'/\St w w' [av 2 A' (du F) c' (FT F)]):=by
 have lO:=hR.len;have yf:=hC.f;have h6:∀f∈F,f.length<=6:=λf hf=>(hC.row f hf).1.2
 have hd:=FX h6;refine bn func49 O ntmps49 O (bM O) (aY O (aI (Nz Pc V A n c rs F _ hP hR ac h6) O ?_));rintro _ w1 ⟨A3,c3,rfl,aw⟩;have rH:bu w1 A3 (du F+1) (iN F):=aw.bF 0 O;refine ay O ?_;refine Cd.loop (α:=Nat×ai×Nat) (λz=>[(0,.pointer Pc),(3,.slice A3 (du F+1) c3),(4,.slice z.2.1 z.1 z.2.2),(5,aj (sF F z.1:Int)),(6,aj ((z.1:Int)+1))]) (λz w'=>z.1<=du F/\sF F z.1<=30000/\St w w' [av 2 z.2.1 z.1 z.2.2 (wq F z.1),av 2 A3 (du F+1) c3 (iN F)]) (λz=>du F-z.1) (0,none,0) (auV O) ⟨bl _,by show sF F 0<=30000;simp[sF],aw.nil _⟩ ?_;clear rH aw;rintro⟨j,A4,c4⟩ e w2 ⟨hj,e6,hS⟩;dsimp only at hj e6 hS|-;refine aY O (aI (oK _ _ _ _) O ?_);rintro _ w2 ⟨rfl,rfl⟩;refine ay O (aK _ O (λh1=>?_) (λh1=>?_))
 ·refine xL 5 O (lH (α:=Unit) (λz=>[(0,.pointer Pc),(3,.slice A3 (du F+1) c3),(4,.slice A4 j c4),(5,aj (sF F j:Int)),(6,aj ((j:Int)+1)),(7,aj (sF F (j+1):Int))]) (λz w'=>sF F (j+1)<=30000/\St w w' [av 2 A4 j c4 (wq F j),av 2 A3 (du F+1) c3 (iN F)]) ?_ ?_)
  ·refine aY O (aJ O (aq O ?_));refine aI (oK _ _ _ _) O ?_;rintro _ w2 ⟨rfl,rfl⟩;refine ay O (aK _ O (λh2=>?_) (λh2=>?_))
   ·refine aC O (aJ O ?_);refine aI (apA Pc V A n c rs F (j+1) _ (hT.ao hS.below) (hS.gS hP) (hS.bU hR) hC ac) O ?_;rintro _ w3 ⟨r,rfl,hr,hr3,aw⟩;have e:=RH ac hr;refine aN O (tQ ?_);exact⟨(),⟨O,O,O,O,O,by rw[e];rfl,au⟩,ac,hS.ao aw.below⟩
   have e:=apR (F:=F) (k:=j+1) ac ac;refine jE O (tQ ?_);exact⟨(),⟨O,O,O,O,O,by rw[e];rfl,au⟩,ac,hS⟩
  rintro _ e w3 ⟨Qc,aM⟩;have GL:bu w3 A3 (du F+1) (iN F):=aM.bF 1 O;have wO:=ahc F (k:=j+1) ac;have la:=NR yf h6 _ (show gi (iN F) ((j+1:Nat):Int)∈iN F by rw[b7 (by rw[NS];omega)];exact dt _);have e1:((j:Int)+1)=((j+1:Nat):Int):=by omega
  refine aC O (aA GL.2 O (bg GL O ?_));rw[e1];refine aq O (cV O (aq O (cV O ?_)));refine eh aM O O O λvW w4 aU=>eQ 1 aU O (aU.bF 0 O) O O O λIg I0 w5 aO=>aq O (aJ O (aN O (tQ ?_)));refine⟨(j+1,Ig,I0),by show du F-(j+1)<du F-j;omega,(auV O),by show j+1<=du F;omega,Qc,?_⟩;show St w w5 [av 2 Ig (j+1) I0 (wq F (j+1)),_];rw[aey,IY,<-wO];exact St.tail aO
 have qF:j=du F:=by omega
 refine ba O (bc (ew O ?_));refine dV O ?_;subst qF;exact⟨A4,c4,O,hS.sub (List.Sublist.cons_cons _ (List.nil_sublist _))⟩
theorem acb(V:Int)(A:ai)(n c:Nat)(rs:List aE)(F:ag)(w:aa)(hT:lh w)(hR:bH w A n rs F)(hn:n<=9223372036854775807):
 aF prog 20 [.agg #[aj V,.slice A n c]] w (SP (IZ V F) (xh V F) w):=by
 have lO:=hR.len;refine bn func20 O ntmps20 O (mI O) (aY O (nB (St.refl w) O O ?_));intro Ab w1 ax;refine aq O (cG 1 (ax.rd 0 O) O O O (aI (HA V A n c rs F _ (hT.ao ax.below) (ax.bU hR) hn) O ?_));rintro _ w2 ⟨rfl,aw⟩;have az:=ax.ao aw.below;unfold IZ xh
 first|refine cO rfl rfl ?_|refine dv rfl rfl ?_
 refine ay O (aK _ O (λh1=>?_) (λh1=>?_))
 ·rw[aD h1,aD h1];refine dE O (vQ O O ?_);exact⟨none,0,O,az.none.nil _⟩
 have hC:=kW.1 h1;rw[aG hC,aG hC];refine aC O (aI (ad0 Ab V A n c rs F _ (hT.ao az.below) (az.rd 0 O) (az.bU hR) hC) O ?_);rintro _ w3 ⟨A4,c4,rfl,mB⟩;have hl:(FT F).length=du F:=aex _ _;refine bR O (vQ O O ?_);exact⟨A4,c4,by rw[hl],by rw[hl];exact(az.call mB).sub (ny _ _)⟩
end
section
def nS:List (Nat×Nat)->Nat->Nat
 |[],v=>v
 |x::B,v=>nS B (if v.testBit x.1=true then v^^^x.2 else v)
def wz:List (Nat×Nat)->List Nat->List (Nat×Nat)
 |B,[]=>B
 |B,v::L=>if nS B v=0 then wz B L else wz (B++[((nS B v).log2,nS B v)]) L
def xV:List (Nat×Nat)->Prop
 |[]=>True
 |x::B=>x.2.testBit x.1=true/\(∀y∈B,y.2.testBit x.1=false)/\xV B
def pe(B:List (Nat×Nat)):List Nat:=B.map (·.2)
theorem xV.qY:∀{B:List (Nat×Nat)},xV B->IE (pe B)
 |[],_=>au
 |x::B,⟨h1,h2,h3⟩=>⟨⟨x.1,h1,λy hy=>by obtain⟨z,hz,rfl⟩:=de.1 hy;exact h2 z hz⟩,h3.qY⟩
theorem ar0{B:List Nat}{p:Nat}(h:∀b∈B,b.testBit p=false):∀v∈fm B,v.testBit p=false:=
 H8 (S:=λv=>v.testBit p=false) (by simp) (λu v hu hv=>by simp[Nat.testBit_xor,hu,hv]) h
theorem RD:∀(B:List (Nat×Nat))(v:Nat),nS B v^^^v∈fm (pe B)
 |[],v=>by rw[nS,Nat.xor_self];exact Fh _
 |x::B,v=>by
  have ih:=RD B (if v.testBit x.1=true then v^^^x.2 else v);have xj:=Dt (C:=pe (x::B)) (λb hb=>fE _ hb) _ ih;rw[nS]
  by_cases h:v.testBit x.1=true
  ·rw[aG h]at xj|-;have:=tE xj (nu (B:=pe (x::B)) (b:=x.2) (by simp[pe]))
   rwa[Nat.xor_assoc,Nat.xor_assoc,Nat.xor_self,Nat.xor_zero]at this
  ·rw[aD h]at xj|-;exact xj
theorem aaM:∀{B:List (Nat×Nat)}(v:Nat),xV B->∀x∈B,(nS B v).testBit x.1=false
 |y::B,v,⟨h1,h2,h3⟩,x,hx=>by
  rw[nS];generalize hw:(if v.testBit y.1=true then v^^^y.2 else v)=w;rcases gW.1 hx with rfl|hx
  ·have h4:=ar0 (B:=pe B) (p:=x.1) (λb hb=>by obtain⟨z,hz,rfl⟩:=de.1 hb;exact h2 z hz) _ (RD B w);have h5:w.testBit x.1=false:=by
    rw[<-hw]
    by_cases h:v.testBit x.1=true
    ·rw[aG h,Nat.testBit_xor,h,h1];rfl
    ·rw[aD h];simpa using h
   rw[Nat.testBit_xor,h5]at h4;simpa using h4
  ·exact aaM w h3 x hx
theorem xV.snoc:∀{B:List (Nat×Nat)}{u:Nat×Nat},xV B->(∀x∈B,u.2.testBit x.1=false)->u.2.testBit u.1=true->xV (B++[u])
 |[],u,_,_,h=>⟨h,⟨λ_ hy=>(nomatch hy),au⟩⟩
 |x::B,u,⟨h1,h2,h3⟩,h4,h5=>⟨h1,⟨λy hy=>(dF.1 hy).elim (h2 y) λh=>by rw[eX.1 h];exact h4 x (by simp),h3.snoc (λy hy=>h4 y (fE _ hy)) h5⟩⟩
theorem Nv:∀(L:List Nat)(B:List (Nat×Nat)),xV B->xV (wz B L)/\jD (pe B++L) (pe (wz B L))
 |[],B,h=>⟨h,by rw[dQ];exact jD.refl _⟩
 |v::L,B,h=>by
  have cE:=RD B v;rw[wz]
  by_cases hz:nS B v=0
  ·rw[aG hz];obtain⟨h1,h2⟩:=Nv L B h;refine⟨h1,jD.trans (.of (λb hb=>?_) λb hb=>?_) h2⟩
   ·rcases dF.1 hb with hb|hb
    ·exact nu (List.mem_append_left _ hb)
    ·rcases gW.1 hb with rfl|hb
     ·rw[hz,Nat.zero_xor]at cE;exact Dt (λx hx=>List.mem_append_left _ hx) _ cE
     ·exact nu (List.mem_append_right _ hb)
   ·rcases dF.1 hb with hb|hb
    ·exact nu (List.mem_append_left _ hb)
    ·exact nu (List.mem_append_right _ (fE _ hb))
  ·rw[aD hz];have ai5:(nS B v).testBit (nS B v).log2=true:=Nat.testBit_log2 hz;obtain⟨h1,h2⟩:=Nv L (B++[((nS B v).log2,nS B v)]) (h.snoc (λx hx=>aaM v h x hx) ai5);refine⟨h1,jD.trans (.of (λb hb=>?_) λb hb=>?_) h2⟩
   ·rcases dF.1 hb with hb|hb
    ·exact nu (List.mem_append_left _ (by unfold pe at hb|-;rw[List.map_append];exact List.mem_append_left _ hb))
    ·rcases gW.1 hb with rfl|hb
     ·have h3:=Dt (C:=pe (B++[((nS B b).log2,nS B b)])++L) (λx hx=>List.mem_append_left _ (by unfold pe at hx|-;rw[List.map_append];exact List.mem_append_left _ hx)) _ cE;have h4:nS B b∈fm (pe (B++[((nS B b).log2,nS B b)])++L):=nu (List.mem_append_left _ (by simp[pe]));have:=tE h4 h3
      rwa[xG]at this
     ·exact nu (List.mem_append_right _ hb)
   ·rcases dF.1 hb with hb|hb
    ·unfold pe at hb;rw[iE]at hb;rcases dF.1 hb with hb|hb
     ·exact nu (List.mem_append_left _ hb)
     ·have hb:b=nS B v:=by simpa using hb
      subst hb;have h3:=Dt (C:=pe B++v::L) (λx hx=>List.mem_append_left _ hx) _ cE;have h4:v∈fm (pe B++v::L):=nu (List.mem_append_right _ (by simp));have:=tE h3 h4
      rwa[Nat.xor_assoc,Nat.xor_self,Nat.xor_zero]at this
    ·exact nu (List.mem_append_right _ (fE _ hb))
theorem UC(L:List Nat):tI L (wz [] L).length:=by
 obtain⟨h1,h2⟩:=Nv L [] au;exact⟨pe (wz [] L),by simp[pe],h1.qY.nodup,h2⟩
end
section
open Go.RowKit
section
variable{t t' kt et:ad}
variable {P:Program}{N:Nat}{ops:Array Oper}{K:Env->aa->Prop}{rest:List Oper}{e:Env}{w0 w w':aa}{ks:List Ck}{d:Nat}{ty:ad}{pos:String}{af:Array Edge}
theorem acO{el:ad}[bJ P t (.pointer el)]{x y:ae}{A:ai}(hx:ev e x=.pointer A)(hy:ev e y=.pointer none)(hb:Nat.blt d N=true)(hK:ak P N ops K rest (bE e d (.bool A.isNone)) w):
 ak P N ops K (⟨some d,.binOp .eql t x y t',ty,pos,af,none⟩::rest) e w:=by
 have hr:(Op.equal t (.pointer A) (.pointer none)).run P w=.ok A.isNone w:=by
  show(Op.equalIn (9999+1) t (.pointer A) (.pointer none)).run P w=_;rw[Op.equalIn];cases A<;>simp[run_underlying (bJ.out (P:=P) (t:=t))]
 exact .val (by simp[execOp,hx,hy,eqGuard,binOp,hr]) hb hK
theorem acU{κ:Type}[DecidableEq κ]{kd:TypeDesc}{kv:κ->ab}{b:Nat}[bJ P t (.map kt et)][bJ P kt kd][bL P et (.pointer none) 1 b](KT:qj kd kv){g:Nat}{L:List (κ×ai)}{m ix:ae}(x:κ)(hR:mQ w g (dZ kv Value.pointer L))(hx:ev e m=.map (some g))(hy:ev e ix=kv x)(hb:Nat.blt d N=true)(hK:ak P N ops K rest (bE e d (.pointer ((dh L x).getD none))) w):ak P N ops K (⟨some d,.lookup t m ix false,ty,pos,af,none⟩::rest) e w:=
 .look KT hR hx hy (by cases dh L x<;>rfl) hb hK
theorem Mz{κ:Type}[DecidableEq κ]{kd:TypeDesc}{kv:κ->ab}{b:Nat}[bJ P t (.map kt et)][bJ P kt kd][bL P et (.pointer none) 1 b](KT:qj kd kv){g:Nat}{L:List (κ×ai)}{m ix:ae}(x:κ){p:ai}(hp:dh L x=some p)(hR:mQ w g (dZ kv Value.pointer L))(hx:ev e m=.map (some g))(hy:ev e ix=kv x)(hb:Nat.blt d N=true)(hK:ak P N ops K rest (bE e d (.pointer p)) w):ak P N ops K (⟨some d,.lookup t m ix false,ty,pos,af,none⟩::rest) e w:=
 .look KT hR hx hy (by rw[hp];rfl) hb hK
end
abbrev qh(t:ad)(A:ai)(n c:Nat)(ps:List (ai)):Ck:=⟨A,n,c,t,ps.map Value.pointer⟩
theorem YT(ps:List (ai)):eV (ps.map Value.pointer)=false:=xk λv hv=>by obtain⟨_,_,rfl⟩:=de.1 hv;rfl
def IC(w:aa)(A:ai)(n:Nat)(ps:List (ai)):Prop:=ps.length=n/\Rd w A n λj=>.pointer (ps.getD j none)
theorem St.rdP{w0 w:aa}{ks:List Ck}{t:ad}{A:ai}{n c:Nat}{ps:List (ai)}(h:St w0 w ks)(i:Nat)(hk:ks[i]?=some (qh t A n c ps)):IC w A n ps:=by
 have hl:ps.length=n:=by have:=(h.py hk (YT ps)).1;simpa[qh]using this
 refine⟨hl,(h.rd i hk).congr λj hj=>?_⟩;have hj:j<n:=hj;show(ps.map Value.pointer).getD j undef=_;simp[b5,fL (show j<ps.length by omega)]
theorem anQ{ps:List (ai)}{n:Nat}(h:ps.length=n):((List.range n).map λj=>Value.pointer (ps.getD j none))=ps.map Value.pointer:=by
 subst h;apply iC
 ·simp
 intro j h1 h2;have hj:j<ps.length:=by simpa using h2
 simp[b5,fL hj]
section
variable {P:Program}{N:Nat}{ops:Array Oper}{K:Env->aa->Prop}{rest:List Oper}{e:Env}{w0 w w':aa}{ks:List Ck}{d:Nat}{ty:ad}{pos:String}{af:Array Edge}
theorem acC{t el:ad}{z:ab}{b:Nat}[hU:bJ P t (.slice el)][bL P el z 1 b]{x y:ae}(i:Nat){A:ai}{n c:Nat}{ps:List (ai)}{A':ai}{m c':Nat}{qs:List (ai)}(hS:St w0 w ks)(hk:ks[i]?=some (qh el A n c ps))(hR:IC w A' m qs)(hx:ev e x=.slice A n c)(hy:ev e y=.slice A' m c'){z0:ab}(hz:z.cells= #[z0])(r9:n+m<=9223372036854775807)(pF:(n+m)*b<=140737488355328)(hb:Nat.blt d N=true)(hK:∀A2 c2 w',St w0 w' (ks.set i (qh el A2 (n+m) c2 (ps++qs)))->ak P N ops K rest (bE e d (.slice A2 (n+m) c2)) w'):
 ak P N ops K (⟨some d,.call ⟨.builtin .append, #[x,y], #[t,t]⟩,ty,pos,af,none⟩::rest) e w:=
 .app i hS hk hR.2 hx hy rfl hz (λ_ _=>rfl) (by simpa[maxLen]using r9) pF hb (λA2 c2 w' h=>hK A2 c2 w' (by
  rw[anQ hR.1]at h;simpa[qh]using h)) (YT _)
end
structure RV where
 P:ai
 s:aE
 x:ah
 B:ai
 c:Nat
 ns:ah
def RV.pr(r:RV):ah×ah:=(r.x,r.ns)
def RV.bx(r:RV):Ck:=Bx 115 2 r.P [.slice r.s.a r.s.n r.s.c,.slice r.B r.ns.length r.c]
def RV.fa(r:RV):Ck:=av 2 r.B r.ns.length r.c r.ns
def RV.ck(r:RV):List Ck:=[r.bx,r.fa]
def RV.row(r:RV):Ck:=av 2 r.s.a r.s.n r.s.c r.x
def lA(rvs:List RV):List (ByteArray×ai):=rvs.map λr=>(fK r.x,r.P)
abbrev zQ(A:ai)(c g:Nat)(rvs:List RV)(X:List Ck):List Ck:=qh 113 A rvs.length c (rvs.map (·.P))::fc 154 g (dZ Value.string Value.pointer (lA rvs))::(rvs.flatMap RV.ck++X)
theorem Vt:∀{rvs:List RV}{x:ah}{p:ai},dh (lA rvs) (fK x)=some p->∃pre r post,rvs=pre++r::post/\r.x=x/\r.P=p
 |[],_,_,h=>by cases h
 |r::rest,x,p,h=>by
  unfold lA at h;simp only[List.map_cons,dh]at h
  by_cases e:fK r.x=fK x
  ·rw[aG e]at h;exact⟨[],r,rest,O,C9 e,cn h⟩
  ·rw[aD e]at h;obtain⟨pre,q,post,h1,h2,h3⟩:=Vt (rvs:=rest) h;exact⟨r::pre,q,post,by rw[h1];rfl,h2,h3⟩
theorem Vu:∀{rvs:List RV}{x:ah},dh (lA rvs) (fK x)=none->∀r∈rvs,r.x≠x
 |[],_,_=>by simp
 |r::rest,x,h=>by
  unfold lA at h;simp only[List.map_cons,dh]at h
  by_cases e:fK r.x=fK x
  ·rw[aG e]at h;cases h
  ·rw[aD e]at h;intro q hq;rcases gW.1 hq with rfl|hq
   ·exact λh=>e (by rw[h])
   ·exact Vu (rvs:=rest) h q hq
theorem ahh{pre post:List RV}{r:RV}(h:∀q∈pre,q.x≠r.x):dh (lA (pre++r::post)) (fK r.x)=some r.P:=by
 induction pre with
 |nil=>simp[lA,dh]
 |cons a t ih=>
  unfold lA at ih|-;simp only[List.cons_append,List.map_cons,dh];rw[aD λe=>h a (by simp) (C9 e)];exact ih λq hq=>h q (by simp[hq])
theorem apj{rvs:List RV}{r:RV}(h:∀q∈rvs,q.x≠r.x):gh (lA rvs) (fK r.x) r.P=lA (rvs++[r]):=by
 induction rvs with
 |nil=>rfl
 |cons a t ih=>
  unfold lA at ih|-;simp only[List.cons_append,List.map_cons,gh];rw[aD λe=>h a (by simp) (C9 e),ih λq hq=>h q (by simp[hq])]
theorem Rj{a b m p:Ck}{U V:List Ck}:(a::b::m::p::(U++V)).Perm (p::m::(U++(a::b::V))):=by
 have h1:([a,b]++[m,p]).Perm ([p,m]++[a,b]):=(gL (l₁:=[a,b])).trans ((List.Perm.swap p m []).append_right [a,b]);refine(h1.append_right (U++V)).trans ?_;show(p::m::(a::b::(U++V))).Perm _;refine List.Perm.cons _ (List.Perm.cons _ ?_);refine(List.Perm.cons a (mO (a:=b) (l₁:=U) (l₂:=V)).symm).trans ?_;exact(mO (a:=a) (l₁:=U) (l₂:=b::V)).symm
theorem apE(R:List (ah×ah))(q:ah×Int):(uH R q).length<=R.length+1:=by
 unfold uH;split<;>simp
theorem RA:∀(n:Nat)(Q:List (ah×Int)),Q.length=n->(qb Q).length<=n
 |0,Q,h=>by obtain rfl:=iL h;simp[qb]
 |n+1,Q,h=>by
  obtain⟨Q0,q,rfl⟩:∃Q0 q,Q=Q0++[q]:=⟨Q.dropLast,Q.getLast (λe=>by rw[e]at h;simp at h),(List.dropLast_concat_getLast _).symm⟩;have:=RA n Q0 (by simpa using h);have:=apE (qb Q0) q;rw[RB];omega
theorem Se{F:ag}(h6:∀f∈F,f.length<=6):∀i,i<=F.length->(pf F i).length<=64*i
 |0,_=>by simp[pf]
 |i+1,h=>by
  have h1:=Se h6 i ac;have h2:=vO (l:=gl F i) ((gl F i).length-1) (h6 _ (by rw[df (by omega)];exact dt _));have e:pf F (i+1)=pf F i++(dT (gl F i) ((gl F i).length-1)).map λy=>(y,(i:Int)):=by
   unfold pf;rw[lK,List.flatMap_append];simp
  rw[e,cj,jd];omega
theorem apB{Q:List (ah×Int)}{p:ah×ah}(h:p∈qb Q):p.2.length<=Q.length:=by
 rw[(E3 _ _ rfl).2.2 p h,jd];exact lJ _ _
theorem apC{pre post:List RV}{r:RV}{i:Int}(h1:∀q∈pre,q.x≠r.x)(h2:∀q∈post,q.x≠r.x):uH ((pre++r::post).map RV.pr) (r.x,i)=pre.map RV.pr++(r.x,r.ns++[i])::post.map RV.pr:=by
 have hk:r.x∈((pre++r::post).map RV.pr).map (·.1):=de.2 ⟨r.pr,de.2 ⟨r,by simp,O⟩,O⟩;have key:∀l:List RV,(∀q∈l,q.x≠r.x)->(l.map RV.pr).map (λp=>if p.1=r.x then(p.1,p.2++[i])else p)=l.map RV.pr:=λl h=>by
  rw[List.map_map];exact ki λq hq=>aD (h q hq)
 unfold uH;rw[aG hk,iE,List.map_cons,iE,List.map_cons,key pre h1,key post h2]
 congr 2
 exact aG O
theorem apF{rvs:List RV}{x:ah}{i:Int}(h:∀q∈rvs,q.x≠x):uH (rvs.map RV.pr) (x,i)=rvs.map RV.pr++[(x,[i])]:=by
 unfold uH;rw[aD];intro hk;obtain⟨p,hp,e⟩:=de.1 hk;obtain⟨r,hr,rfl⟩:=de.1 hp;exact h r hr e
def ab5(R:List (ah×ah))(w:aa)(v:ab)(w':aa):Prop:=∃(A:ai)(c:Nat)(rvs:List RV)(X:List Ck),v=.slice A rvs.length c/\rvs.map RV.pr=R/\(∀r∈rvs,r.row∈X)/\St w w' (qh 113 A rvs.length c (rvs.map (·.P))::(rvs.flatMap RV.ck++X))
theorem apP(Pc:ai)(V:Int)(A:ai)(n c:Nat)(rs:List aE)(F:ag)(w:aa)(hT:lh w)(hP:Rd w Pc 2 (λj=>[Value.int .i64 V,.slice A n c].getD j undef))(hR:bH w A n rs F)(hC:gm V F):
 aF prog 108 [.pointer Pc] w (ab5 (iR F) w):=by
 have lO:=hR.len;have yf:=hC.f;have Pp:∀f∈F,f.length<=6:=λf hf=>(hC.row f hf).1.2
 refine bn func108 O ntmps108 O (bM O) (aY O (wc (St.refl w) O ?_));intro g w1 ax;refine aq O (dX (ax.gS hP) ac O O (aS (ax.gS hP) O (a6 (ax.gS hP) O ?_)));refine aR O O (ay O ?_);have az:St w w1 (zQ none 0 g [] []):=ax.nil 113;refine Cd.loop (α:=Nat×(ai×Nat)×List RV×List Ck) (λz=>[(3,.slice z.2.1.1 z.2.2.1.length z.2.1.2),(4,.map (some g)),(14,.slice A n c),(15,aj n),(16,aj (z.1:Int))])
  (λz w'=>z.1<=n/\z.2.2.1.map RV.pr=qb (pf F z.1)/\(∀r∈z.2.2.1,r.row∈z.2.2.2)/\St w w' (zQ z.2.1.1 z.2.1.2 g z.2.2.1 z.2.2.2)) (λz=>n-z.1) (0,(none,0),[],[]) ⟨rfl,rfl,rfl,rfl,rfl,au⟩ ⟨bl _,rfl,(λ_ h=>by cases h),az⟩ ?_
 clear az ax;rintro⟨i,⟨A3,c3⟩,rvs,X⟩ e w2 ⟨hi,kR,br,hS⟩;dsimp only at hi kR br hS|-;refine bC O (aK _ O (λh1=>?_) (λh1=>?_))
 ·have nM:i<F.length:=by omega
  have hM:=hS.bU hR;have iO:=hM.at_ (i:=(i:Int)) ac ac;have gu:=hM.cap_ (i:=(i:Int)) ac ac;have bT:=iO.1;have vu:=hC.at_ nM;refine aC O (aA hM.top.2 O (bw hM.top O (aq O (aI (oK _ _ _ _) O ?_))));rintro _ w2 ⟨rfl,rfl⟩;refine cV O ?_;refine auM (HS ((gl F i).length-1) _ _ _ (gl F i) _ iO gu.1 ac ac) O (by show[_,Value.int .i64 (((rg rs i).n:Int)-1)]=_;congr 3;omega) O ?_;rintro _ w3 ⟨ra,B8,lE,rfl,akJ,J2⟩;have hN6:∀x∈dT (gl F i) ((gl F i).length-1),x.length<=6/\∀y∈x,-9223372036854775808<=y/\y<=9223372036854775807:=λx hx=>by
   have h1:=(oF.1 hx).1;have h2:=h1.length_le;exact⟨ac,λy hy=>by have:=vu.2.2 y (h1.subset hy);have:=hC.v;omega⟩
  have yi:=vO (l:=gl F i) ((gl F i).length-1) vu.1.2;have EH:=Se Pp i ac;have Py:=arP F i;have tg:=arN F i;have hjs:=λj=>arO (F:=F) (i:=i) (j:=j)
  have gp:∀j,(rR F i j).length<=64*i+64:=λj=>by
   unfold rR;rw[cj,jd,jG];omega
  rw[<-Py]at kR;generalize hN:dT (gl F i) ((gl F i).length-1)=N at*;have aM:St w w3 (zQ A3 c3 g rvs (X++(aX 27 ra N.length B8 lE::cC 2 lE N))):=by
   have h:=hS.call2 J2;rw[dQ]at h;unfold zQ at h|-;rw[<-ef];exact h
  have cE:∀k∈aX 27 ra N.length B8 lE::cC 2 lE N,k∈X++(aX 27 ra N.length B8 lE::cC 2 lE N):=λk hk=>List.mem_append_right _ hk
  have Yk:∀r∈rvs,r.row∈X++(aX 27 ra N.length B8 lE::cC 2 lE N):=λr hr=>List.mem_append_left _ (br r hr)
  generalize hX:X++(aX 27 ra N.length B8 lE::cC 2 lE N)=Y at*;clear hS br J2 hM iO;refine aR O O (ay O ?_);refine Cd.loop (α:=Nat×(ai×Nat)×List RV) (λz=>[(3,.slice z.2.1.1 z.2.2.length z.2.1.2),(4,.map (some g)),(5,aj i),(14,.slice A n c),(15,aj n),(16,aj i),(25,.slice ra N.length B8),(26,aj (N.length:Int)),(27,aj (z.1:Int))])
   (λz w'=>z.1<=N.length/\z.2.2.map RV.pr=qb (rR F i z.1)/\(∀r∈z.2.2,r.row∈Y)/\St w w' (zQ z.2.1.1 z.2.1.2 g z.2.2 Y)) (λz=>N.length-z.1) (0,(A3,c3),rvs) ⟨rfl,rfl,rfl,rfl,rfl,rfl,rfl,rfl,rfl,au⟩ ⟨bl _,kR,Yk,aM⟩ ?_
  clear aM Yk kR;rintro⟨j,⟨A3,c3⟩,rvs⟩ e w4 ⟨hj,kR,br,hS⟩;dsimp only at hj kR br hS|-;refine bC O (aK _ O (λh2=>?_) (λh2=>?_))
  ·have lV:j<N.length:=by omega
   have hY:∀k∈Y,∃q,(zQ A3 c3 g rvs Y)[q]?=some k:=λk hk=>List.mem_iff_getElem?.1 (fE _ (fE _ (List.mem_append_right _ hk)))
   obtain⟨q0,sg⟩:=hY _ (cE _ (List.mem_cons_self));have OZ:fu w4 ra N.length lE:=hS.dm q0 sg;have Hl:av 2 (rg lE j).a (rg lE j).n (rg lE j).c (gl N j)∈Y:=cE _ (fE _ (List.mem_iff_getElem?.2 ⟨j,BC akJ ac⟩));obtain⟨q1,ED⟩:=hY _ Hl;have CH:bu w4 (rg lE j).a (rg lE j).n (gl N j):=hS.bF q1 ED;have Ht:=hN6 (gl N j) (by rw[df lV];exact dt _);have fk:=CH.1;have oC:=hjs j lV;have akQ:rvs.length<=64*i+64:=by
    have h3:=RA _ (rR F i j) O;have h4:=aQ List.length kR;rw[jd]at h4;have:=gp j;omega
   have XG:∀r∈rvs,r.ns.length<=64*i+64:=λr hr=>by
    have h3:=apB (Q:=rR F i j) (p:=r.pr) (by rw[<-kR];exact de.2 ⟨r,hr,O⟩);have:=gp j;have e:r.pr.2=r.ns:=O;rw[e]at h3;omega
   have lZ:(rvs.map (·.x)).Nodup:=by
    have h3:=(E3 _ (rR F i j) O).1;rw[<-kR,List.map_map]at h3;exact h3
   have tk:qb (rR F i (j+1))=uH (rvs.map RV.pr) (gl N j,(i:Int)):=by rw[oC,RB,kR]
   generalize gl N j=x at*;refine aC O (aA OZ.2 O (bw OZ O (aq O (aI (xm _ _ _ x _ (hT.ao hS.below) CH Ht.2 ac) O ?_))));rintro _ w5 ⟨rfl,aw⟩;have aO:=hS.ao aw.below;clear hS OZ CH aw;refine tG 0 O ?_;refine lH (α:=(ai×Nat)×List RV×RV×List RV) (λz=>[(3,.slice z.1.1 (z.2.1++z.2.2.1::z.2.2.2).length z.1.2),(4,.map (some g)),(5,aj i),(9,.string (fK x)),(14,.slice A n c),(15,aj n),(16,aj i),(25,.slice ra N.length B8),(26,aj (N.length:Int)),(27,aj j)])
    (λz w'=>z.2.2.1.x=x/\z.2.2.1.ns.length<=64*i+64/\(∀r∈z.2.1++z.2.2.1::z.2.2.2,r.row∈Y)/\(∀q∈z.2.1,q.x≠x)/\z.2.1.map RV.pr++(x,z.2.2.1.ns++[(i:Int)])::z.2.2.2.map RV.pr=qb (rR F i (j+1))/\St w w' (zQ z.1.1 z.1.2 g (z.2.1++z.2.2.1::z.2.2.2) Y)) ?_ ?_
   ·refine aY O (acU sl (fK x) (aO.oH 1 O) O O O (acO O O O (ay O ?_)));cases hg:dh (lA rvs) (fK x)with
    |none => --dup 2
     have CT:=Vu hg;refine Cd.iw O (aC O (Tf aL aL O O O O O (nB aO O O ?_)));intro P w6 bk;refine tL O sl 2 (u:=P) (a:=fK x) bk O O O O ?_;intro w7 bp;have rJ:gh (lA rvs) (fK x) P=lA (rvs++[⟨P,rg lE j,x,none,0,[]⟩]):=apj (r:=⟨P,rg lE j,x,none,0,[]⟩) CT;have yu:dh (gh (lA rvs) (fK x) P) (fK x)=some P:=by rw[DY,aG O]
     refine aq O (Mz sl (fK x) yu (bp.oH 2 O) O O O (ak.IX bp O O O O ?_));intro Mi w8 bB;have JV:IC w8 Mi 1 [P]:=St.rdP (show St w w8 (qh 113 Mi 1 1 [P]::_)from bB) 0 O;refine acC 2 bB O JV O O O ac ac O λzx zO w9 bj=>aN O (tQ ?_);refine⟨((zx,zO),rvs,⟨P,rg lE j,x,none,0,[]⟩,[]),⟨by show Value.slice zx (rvs.length+1) zO=.slice zx (rvs++[_]).length zO;simp,O,O,O,O,O,O,O,O,O,au⟩,O,bl _,λr hr=>?_,CT,by show rvs.map RV.pr++[(x,[]++[(i:Int)])]=_;rw[tk,apF CT];rfl,?_⟩
     ·rcases dF.1 hr with hr|hr
      ·exact br r hr
      ·obtain rfl:r=⟨P,rg lE j,x,none,0,[]⟩:=by simpa using hr
       exact Hl
     ·have h9:=(St.tail bj).nil 2;show St w w9 (qh 113 zx (rvs++[(⟨P,rg lE j,x,none,0,[]⟩:RV)]).length zO ((rvs++[(⟨P,rg lE j,x,none,0,[]⟩:RV)]).map (·.P))::fc 154 g (dZ Value.string Value.pointer (lA (rvs++[(⟨P,rg lE j,x,none,0,[]⟩:RV)])))::((rvs++[(⟨P,rg lE j,x,none,0,[]⟩:RV)]).flatMap RV.ck++Y));rw[<-rJ,cj,iE,List.flatMap_append,ef];exact h9.perm ((List.Perm.swap _ _ _).trans (((List.Perm.swap _ _ _).cons _).cons _)|>.trans Rj)
    |some p=>
     obtain⟨pre,r,post,rfl,qK,hrP⟩:=Vt hg;have EE:r∈pre++r::post:=by simp
     obtain⟨q,hq⟩:=List.mem_iff_getElem?.1 (show r.bx∈zQ A3 c3 g (pre++r::post) Y from fE _ (fE _ (List.mem_append_left _ (List.mem_flatMap.2 ⟨r,EE,by simp[RV.ck]⟩))));have P6:p.isNone=false:=by rw[<-hrP];exact ac1 (aO.rd q hq) (by show 0<2;omega)
     have PT:(∀a∈pre,a.x≠r.x)/\∀a∈post,a.x≠r.x:=by
      rw[iE,List.map_cons,List.nodup_append,mj]at lZ;exact⟨λa ha h=>lZ.2.2 a.x (de.2 ⟨a,ha,O⟩) r.x (by simp) h,λa ha h=>lZ.2.1.1 (by rw[<-h];exact de.2 ⟨a,ha,O⟩)⟩
     refine Cd.cX (by show Value.bool p.isNone=.bool false;rw[P6]) ?_;refine jE O (tQ ?_);exact⟨((A3,c3),pre,r,post),(auV O),qK,XG r EE,br,λa ha=>by rw[<-qK];exact PT.1 a ha,by show pre.map RV.pr++(x,r.ns++[(i:Int)])::post.map RV.pr=_;rw[tk,<-qK];exact(apC PT.1 PT.2).symm,aO⟩
   clear aO XG akQ lZ tk kR br;rintro⟨⟨A3,c3⟩,pre,r,post⟩ e w6 ⟨qK,gP,br,fx,kR,bk⟩;dsimp only at qK gP br fx kR bk|-;have Er:dh (lA (pre++r::post)) (fK x)=some r.P:=by rw[<-qK];exact ahh λq hq=>by rw[qK];exact fx q hq
   have hB:St w w6 (r.bx::r.fa::fc 154 g (dZ Value.string Value.pointer (lA (pre++r::post)))::qh 113 A3 (pre++r::post).length c3 ((pre++r::post).map (·.P))::(pre.flatMap RV.ck++(post.flatMap RV.ck++Y))):=by
    refine bk.perm ?_;show(qh _ _ _ _ _::fc _ _ _::((pre++r::post).flatMap RV.ck++Y)).Perm _;rw[List.flatMap_append,List.flatMap_cons,ef,ef];exact Rj.symm
   clear bk;refine iu [11,14] [.ex (.map (some g)),.ex (.string (fK x)),yP (r.P),.ex (.map (some g)),.ex (.string (fK x)),yP (r.P),yP (r.P),yP (aH r.P 1),yS (r.B) (r.ns.length) (r.c),yI ((i:Int)),.pr (λv w'=>∃A9,v=.slice A9 1 1/\bu w' A9 1 [(i:Int)]),.pr (λv w'=>∃A5 c5,v=.slice A5 (r.ns.length+1) c5/\St w w' (r.bx::av 2 A5 (r.ns.length+1) c5 (r.ns++[(i:Int)])::fc 154 g (dZ Value.string Value.pointer (lA (pre++r::post)))::qh 113 A3 (pre++r::post).length c3 ((pre++r::post).map (·.P))::(pre.flatMap RV.ck++(post.flatMap RV.ck++Y)))),yP (r.P),yP (aH r.P 1),.pr (λ_ w'=>∃A5 c5,St w w' (Bx 115 2 r.P [.slice r.s.a r.s.n r.s.c,.slice A5 (r.ns.length+1) c5]::av 2 A5 (r.ns.length+1) c5 (r.ns++[(i:Int)])::fc 154 g (dZ Value.string Value.pointer (lA (pre++r::post)))::qh 113 A3 (pre++r::post).length c3 ((pre++r::post).map (·.P))::(pre.flatMap RV.ck++(post.flatMap RV.ck++Y))))] (ly (ly (ly (ly (ly (ly (ly (ly (ly (ly (bV.2 ⟨Ye.bW (λv w w' h hb=>by obtain⟨A9,hv,hT⟩:=h;exact⟨A9,hv,hT.ao hb⟩),(bV.2 ⟨Ye.bW (λv w w' h hb=>by obtain⟨A5,c5,hv,hT⟩:=h;exact⟨A5,c5,hv,hT.ao hb⟩),(ly (ly (bV.2 ⟨Ye.bW (λv w w' h hb=>by obtain⟨A5,c5,hT⟩:=h;exact⟨A5,c5,hT.ao hb⟩),(λ_ h=>by cases h)⟩)))⟩)⟩))))))))))) ?_ ?_
   ·refine⟨bP O,bP O,?_,bP O,bP O,cP λ_ _ hb _ _ _=>Mz sl (fK x) Er ((hB.ao hb).oH 2 O) O O O (bA O O),cP λ_ _ hb _ _ _=>dX ((hB.ao hb).rd 0 O) (Nat.succ_pos _) O O (bA O O),cP λ_ _ hb _ _ _=>aS ((hB.ao hb).rd 0 O) O (bA O O),cP λ_ _ hb _ _ _=>a6 ((hB.ao hb).rd 0 O) O (bA O O),bP O,?_,?_,?_,?_,?_,au⟩
    ·intro e1 w1 cc eL cI dC hp aW hq;show ak _ _ _ _ _ _ _;have hX:mQ w1 g (dZ Value.string Value.pointer (lA (pre++r::post))):=by { have cI:=lz cI (b:=1) an;rcases(show cc=0\/cc=1 by omega)with h|h; { exact(hB.ao (dC h)).oH 2 rfl }; { subst h;obtain⟨A5,c5,_,hT⟩:=hq 11 _ _ an an an rfl rfl an;exact hT.oH 2 rfl } }
     refine Mz sl (fK x) Er hX O O O (ak.n (fp O ap))
    ·intro e1 w1 cc eL cI dC hp aW hq;show ak _ _ _ _ _ _ _;exact eh (St.refl _) O O O λA9 w9 aw=>ak.n (eD.dn O aw.below ⟨A9,O,aw.bF 0 O⟩)
    ·refine iF λe1 w1 hb hp aW hq=>?_
     obtain⟨A9,h58,nL⟩:=(hp 10 _ _ an rfl rfl an);refine eQ 1 (hB.ao hb) O nL O (by exact h58) O ?_;intro A5 c5 dJ tY;exact ak.n (dS.dn O ⟨A5,c5,O,tY⟩)
    ·refine dP 1 λe1 w1 hp aW hq=>?_
     have cg:=hp 11 _ _ an O O an;obtain⟨A5,c5,_,hT⟩:=cg;refine dX (hT.rd 0 O) (Nat.succ_pos _) O O (ak.n (fp O ap))
    ·refine dP 1 λe1 w1 hp aW hq=>?_
     have cg:=hp 11 _ _ an O O an;obtain⟨A5,c5,_,hT⟩:=cg;refine aS (hT.rd 0 O) O (ak.n (fp O ap))
    ·refine kB 1 λe1 w1 hp aW hq=>?_
     have cg:=hp 11 _ _ an O O an;obtain⟨A5,c5,h59,hT⟩:=(hp 11 _ _ an rfl rfl an);refine oR 0 hT O O (by exact h59) O O ?_;intro w9 bj;exact ak.n (dS.st O ⟨A5,c5,bj⟩)
   intro u w7 _ hu _ _;obtain⟨A5,c5,hT⟩:=hu 14 _ rfl an;have AV:(r.ns++[(i:Int)]).length=r.ns.length+1:=by simp
   refine gq O (aJ O (aN O (tQ ?_)));refine⟨(j+1,(A3,c3),pre++⟨r.P,r.s,r.x,A5,c5,r.ns++[(i:Int)]⟩::post),by show N.length-(j+1)<N.length-j;omega,⟨by show Value.slice A3 (pre++r::post).length c3=.slice A3 (pre++_::post).length c3;simp,O,O,O,O,O,O,O,O,au⟩,by show j+1<=N.length;omega,?_,λq hq=>?_,?_⟩
   ·show(pre++_::post).map RV.pr=_;rw[iE,List.map_cons,<-kR,<-qK];rfl
   ·rcases dF.1 hq with hq|hq
    ·exact br q (List.mem_append_left _ hq)
    ·rcases gW.1 hq with rfl|hq
     ·exact br r (by simp)
     ·exact br q (List.mem_append_right _ (fE _ hq))
   ·have e1:lA (pre++r::post)=lA (pre++(⟨r.P,r.s,r.x,A5,c5,r.ns++[(i:Int)]⟩:RV)::post):=by simp[lA]
    have e2:(pre++r::post).map (·.P)=(pre++(⟨r.P,r.s,r.x,A5,c5,r.ns++[(i:Int)]⟩:RV)::post).map (·.P):=by simp
    have e3:(pre++r::post).length=(pre++(⟨r.P,r.s,r.x,A5,c5,r.ns++[(i:Int)]⟩:RV)::post).length:=by simp
    rw[e1,e2,e3,<-AV]at hT;show St w w7 (qh _ _ _ _ _::fc _ _ _::((pre++(⟨r.P,r.s,r.x,A5,c5,r.ns++[(i:Int)]⟩:RV)::post).flatMap RV.ck++Y));rw[List.flatMap_append,List.flatMap_cons,ef,ef];exact hT.perm Rj
  ·have qF:j=N.length:=by omega
   rw[qF,tg]at kR;refine ba O (bc (bY O (aJ O (aN O (tQ ?_)))));exact⟨(i+1,(A3,c3),rvs,Y),by show n-(i+1)<n-i;omega,(auV O),by show i+1<=n;omega,kR,br,hS⟩
 ·have cE:i=F.length:=by omega
  rw[cE]at kR;refine ba O (bc (ew O ?_));exact dV O ⟨A3,c3,rvs,X,O,kR,br,hS.sub (List.Sublist.cons_cons _ (List.sublist_cons_self _ _))⟩
def Ta(ls:ag):Prop:=∃l∈ls,∃x∈l,x<0
instance (ls:ag):Decidable (Ta ls):=by unfold Ta;exact inferInstance
end
section
end
section
open Go.RowKit
variable{j:Nat}{F:ag}
def S6(F G:ag):Prop:=F≠[]/\G≠[]/\400<F.length*G.length
instance (F G:ag):Decidable (S6 F G):=by unfold S6;exact inferInstance
theorem alU(A:ai)(n c:Nat)(P3:ai)(d:Int)(w:aa)(hP:Rd w P3 1 (λ_=>aj d)):
 aF prog 156 [.slice A n c,.pointer P3] w (λv w'=>v=.bool (decide (¬(n:Int)=d))/\St w w' []):=by
 refine bn func156 O ntmps156 O (bM O) (bC O ?_);refine ec [xS (A) (n) (c),xI n,xI (d),xB (decide (¬(n:Int)=(d))),xB (decide (¬(n:Int)=(d)))] O (eK O) ?_ ?_
 ·refine⟨Dr O,?_,λ_ _ hb _ _=>ak.ld (hP.below hb) (j:=0) (by exact aQ Value.pointer (iK P3).symm) ac O O O Az,Dr O,Dr O,au⟩;intro e1 w1 hb hp aW;refine aI (oK _ _ _ _) O ?_;rintro _ w2 ⟨rfl,aw⟩;subst aw;refine ak.n (d0 ap)
 intro u w2 hb _;refine xM O (cK O ?_);exact⟨O,(St.refl w).ao hb⟩
theorem Y3(Pc:ai)(V:Int)(A:ai)(n c:Nat)(rs:List aE)(F:ag)(w:aa)(hP:Rd w Pc 2 (λj=>[Value.int .i64 V,.slice A n c].getD j undef))(hR:bH w A n rs F)(hn:n<=1000)(h6:∀f∈F,f.length<=1000000):
 aF prog 107 [.pointer Pc] w (λv w'=>v=.bool (decide (Pure F))/\St w w' []):=by
 have lO:=hR.len;refine bn func107 O ntmps107 O (bM O) (aY O (aI (Nn Pc V A n c rs F w hP hR hn h6) O ?_));rintro _ w ⟨rfl,rfl⟩;refine ak.new (z:=aj 0) (St.refl w) O O ?_;intro P3 w1 ax;have ax:St w w1 [av 2 P3 1 1 [0]]:=ax;refine ak.oL 0 (i:=0) ax O (by exact aQ Value.pointer (iK P3).symm) O am ?_;intro w2 az;have az:St w w2 [av 2 P3 1 1 [(du F:Int)]]:=az;have h3:Rd w2 P3 1 (λ_=>Value.int .i64 (du F:Int)):=(az.rd 0 rfl).congr λj hj=>by obtain rfl:j=0:=by { have:j<1:=hj;omega };rfl
 refine aq O (dX (az.gS hP) ac O O (aS (az.gS hP) O (a6 (az.gS hP) O (Iz O O ?_))));have hM:=az.bU hR;refine aI (aff A n c rs 156 [.pointer P3] (λi=>decide (¬((rg rs i).n:Int)=(du F:Int))) w2 hM.top ac (λw' i hb hi=>alU _ _ _ P3 _ w' (h3.below hb))) O ?_;rintro _ w3 ⟨rfl,aw⟩
 first|refine cO rfl rfl ?_|refine dv rfl rfl ?_
 refine bR O (cK O ?_);refine⟨aQ Value.bool (kl.2 ?_),az.none.ao aw.below⟩;constructor
 ·intro h f hf;obtain⟨j,hj,rfl⟩:=fS.1 hf;have hr:=(hR.at_ (i:=(j:Int)) ac ac).1;rw[df hj]at hr;have:¬¬((rg rs j).n:Int)=(du F:Int):=λh2=>h ⟨j,ac,dB h2⟩
  omega
 rintro h ⟨j,hj,h2⟩;have h2:=bX h2;have hr:=(hR.at_ (i:=(j:Int)) ac ac).1;have:=h (gl F j) (by rw[df (by omega)];exact dt _);omega
def kN:List (ah×Int)->ah->Int
 |[],_=>0
 |q::r,x=>(if q.1=x then q.2 else 0)+kN r x
theorem UM:∀(a b:List (ah×Int))(x:ah),kN (a++b) x=kN a x+kN b x
 |[],b,x=>by simp[kN]
 |q::r,b,x=>by rw[List.cons_append,kN,kN,UM r b x];omega
theorem UN:∀{Q:List (ah×Int)}(x:ah),(∀q∈Q,-1<=q.2/\q.2<=1)-> -(Q.length:Int)<=kN Q x/\kN Q x<=Q.length
 |[],x,_=>by simp[kN]
 |q::r,x,h=>by
  have h1:=UN (Q:=r) x λp hp=>h p (fE _ hp)
  have h2:=h q (by simp);rw[kN,List.length_cons]
  split<;>omega
def zt(n k:Nat):Int:=if((n:Int)-(k:Int))%2=1 then 1 else-1
def qD(x:ah)(n k j:Nat):List (ah×Int):=((dT x k).take j).map λp=>(p,zt n k)
def qC(x:ah)(n k:Nat):List (ah×Int):=(List.range k).flatMap λk'=>qD x n k' (dT x k').length
def qB(F:ag)(n i:Nat):List (ah×Int):=((eG F n).take i).flatMap λx=>qC x n n
def qA(F:ag)(n:Nat):List (ah×Int):=(List.range n).flatMap λn'=>qB F n' (eG F n').length
theorem apz{x:ah}{n k:Nat}(h:j<(dT x k).length):qD x n k (j+1)=qD x n k j++[(gl (dT x k) j,zt n k)]:=by
 unfold qD;rw[nV h,List.map_append];rfl
theorem apy(x:ah)(n k:Nat):qC x n (k+1)=qC x n k++qD x n k (dT x k).length:=by unfold qC;rw[List.range_succ,List.flatMap_append];simp
theorem apx{n i:Nat}(h:i<(eG F n).length):qB F n (i+1)=qB F n i++qC (gl (eG F n) i) n n:=by unfold qB;rw[nV h,List.flatMap_append];simp
theorem apw(F:ag)(n:Nat):qA F (n+1)=qA F n++qB F n (eG F n).length:=by unfold qA;rw[List.range_succ,List.flatMap_append];simp
theorem apu(F:ag):qA F 1=[]:=by
 unfold qA;simp[qB,agw,qC]
theorem Jw{α β:Type}{f:α->List β}{b:Nat}:∀{l:List α},(∀a∈l,(f a).length<=b)->(l.flatMap f).length<=b*l.length
 |[],_=>by simp
 |a::r,h=>by
  have h1:=Jw (l:=r) λx hx=>h x (fE _ hx)
  have h2:=h a (by simp);rw[List.flatMap_cons,cj,List.length_cons,Nat.mul_succ];omega
theorem aaI(x:ah)(n k j:Nat)(h:x.length<=6):(qD x n k j).length<=64:=by
 have:=vO (l:=x) k h;unfold qD;rw[jd,jG];omega
theorem aaG(x:ah)(n k:Nat)(h:x.length<=6):(qC x n k).length<=64*k:=by
 have:=Jw (f:=λk'=>qD x n k' (dT x k').length) (b:=64) (l:=List.range k) λa _=>aaI x n a _ h
 simpa[qC]using this
theorem aaE{n i:Nat}(hn:n<=6):(qB F n i).length<=384*(eG F n).length:=by
 have:=Jw (f:=λx=>qC x n n) (b:=384) (l:=(eG F n).take i) λx hx=>by
  have h1:=yc (List.mem_of_mem_take hx);have:=aaG x n n ac;omega
 have h2:((eG F n).take i).length<=(eG F n).length:=by simp;omega
 have h3:384*((eG F n).take i).length<=384*(eG F n).length:=Nat.mul_le_mul_left _ h2;exact je this h3
theorem apt{n:Nat}(hn:n<=7)(hF:F.length<=400)(h6:∀f∈F,f.length<=6):(qA F n).length<=10000000*n:=by
 have:=Jw (f:=λn'=>qB F n' (eG F n').length) (b:=10000000) (l:=List.range n) λa ha=>by
  have ha:=fo.1 ha;have h1:=aaE (F:=F) (n:=a) (i:=(eG F a).length) ac;have h2:=Ce a h6;omega
 simpa[qA]using this
theorem aqL(n k:Nat): -1<=zt n k/\zt n k<=1:=by unfold zt;split<;>omega
theorem aaJ{x:ah}{n k:Nat}:∀q∈qD x n k j,-1<=q.2/\q.2<=1:=λq hq=>by
 obtain⟨p,_,rfl⟩:=de.1 hq;exact aqL n k
theorem aaH{x:ah}{n k:Nat}:∀q∈qC x n k,-1<=q.2/\q.2<=1:=λq hq=>by
 obtain⟨a,_,h⟩:=List.mem_flatMap.1 hq;exact aaJ q h
theorem aaF{n i:Nat}:∀q∈qB F n i,-1<=q.2/\q.2<=1:=λq hq=>by
 obtain⟨a,_,h⟩:=List.mem_flatMap.1 hq;exact aaH q h
theorem apv{n:Nat}:∀q∈qA F n,-1<=q.2/\q.2<=1:=λq hq=>by
 obtain⟨a,_,h⟩:=List.mem_flatMap.1 hq;exact aaF q h
def sT(L:List (ByteArray×Int))(Q:List (ah×Int)):Prop:=∀x,(dh L (fK x)).getD 0=kN Q x
theorem sT.put{L:List (ByteArray×Int)}{Q:List (ah×Int)}(h:sT L Q)(p:ah){s v:Int}(hv:v=kN Q p+s):sT (gh L (fK p) v) (Q++[(p,s)]):=λx=>by
 rw[DY,UM]
 by_cases e:fK p=fK x
 ·have e2:=C9 e;subst e2;rw[aG rfl];simp[kN,hv]
 have e2:¬p=x:=λh=>e (by rw[h])
 rw[aD e,h x];simp[kN,e2]
def DS(d k:Nat):Int:=2*(((d:Int)-(k:Int))%2)
def pk(F:ag):Prop:=Pure F/\∀k,k<du F->∀x∈eG F k,kN (qA F (du F+1)) x=DS (du F) k
instance (F:ag):Decidable (pk F):=by unfold pk;exact inferInstance
abbrev wv(g:Nat)(L:List (ByteArray×Int)):Ck:=fc 117 g (dZ Value.string (Value.int .i64) L)
theorem alJ(Pc:ai)(V:Int)(A:ai)(n c:Nat)(rs:List aE)(F:ag)(w:aa)(hT:lh w)(hP:Rd w Pc 2 (λj=>[Value.int .i64 V,.slice A n c].getD j undef))(hR:bH w A n rs F)(hC:gm V F):
 aF prog 48 [.pointer Pc] w (λv w'=>v=.bool (decide (pk F))/\St w w' []):=by
 have lO:=hR.len;have yf:=hC.f;have h6:∀f∈F,f.length<=6:=λf hf=>(hC.row f hf).1.2
 have hd:=FX h6;have VS:∀f∈F,f.length<=1000000:=λf hf=>by have:=h6 f hf;omega
 have Gl:∀q,∀y∈eG F q,∀a∈y,-9223372036854775808<=a/\a<=9223372036854775807:=λq y hy a ha=>by
  by_cases e:q=0
  ·subst e;have:=yc hy;rw[iL this]at ha;cases ha
  obtain⟨f,hf,hs,_⟩:=(Jt ac).1 hy;have:=(hC.row f hf).2.2 a (hs.subset ha);have:=hC.v;omega
 refine bn func48 O ntmps48 O (bM O) (aY O (aI (Y3 Pc V A n c rs F _ hP hR ac VS) O ?_));rintro _ w1 ⟨rfl,xf⟩
 first|refine cO rfl rfl ?_|refine dv rfl rfl ?_
 refine ay O (aK _ O (λh1=>?_) (λh1=>?_))
 ·refine dE O (cK O ?_);exact⟨by rw[db λh:pk F=>h1 h.1],xf⟩
 have yE:=kW.1 h1;refine aC O (aI (Nn Pc V A n c rs F _ (xf.gS hP) (xf.bU hR) ac VS) O ?_);rintro _ w1 ⟨rfl,rfl⟩;refine aq O (wc xf O ?_);intro g w2 az;have az:St w w2 [wv g []]:=az;clear xf;refine ay O ?_;refine Cd.loop (α:=Nat×List (ByteArray×Int)) (λz=>[(0,.pointer Pc),(3,aj (du F:Int)),(4,.map (some g)),(5,aj (z.1:Int))]) (λz w'=>z.1<=du F+1/\1<=z.1/\sT z.2 (qA F z.1)/\St w w' [wv g z.2]) (λz=>du F+1-z.1) (1,[]) (auV O) ⟨by show 1<=du F+1;omega,cJ _,by show sT [] (qA F 1);rw[apu];exact λ_=>O,az⟩ ?_;clear az;rintro⟨n2,L⟩ e w3 ⟨CS,CR,hL,hS⟩;dsimp only at CS CR hL hS|-;refine bC O (aK _ O (λh2=>?_) (λh2=>?_))
 ·have z6:=Ce n2 h6;have eA:=apw F n2;have dC:qB F n2 0=[]:=O;have lS:=λi h=>apx (F:=F) (n:=n2) (i:=i) h
  have hqa:=apt (F:=F) (n:=n2) ac yf h6;have XZ:=λi=>aaE (F:=F) (n:=n2) (i:=i) ac
  have fk:∀y∈eG F n2,y.length=n2:=λy hy=>yc hy
  have CI:=Gl n2;refine aC O ?_;have W7:=FZ Pc V A n c rs F n2 w3 (hS.gS hP) (hS.bU hR) ac h6 ac;generalize hG:eG F n2=G at*;refine aI W7 O ?_;rintro _ w4 ⟨re,rz,vR,rfl,hrl27,aw⟩;have aU:St w w4 (wv g L::(aV 27 2 re G.length rz vR G++[])):=by
   have:=hS.call aw;exact this.perm gL
  clear W7 aw;refine aR O O (ay O ?_);refine Cd.loop (α:=Nat×List (ByteArray×Int)) (λz=>[(0,.pointer Pc),(3,aj (du F:Int)),(4,.map (some g)),(5,aj n2),(27,.slice re G.length rz),(28,aj (G.length:Int)),(29,aj (z.1:Int))]) (λz w'=>z.1<=G.length/\sT z.2 (qA F n2++qB F n2 z.1)/\St w w' (wv g z.2::(aV 27 2 re G.length rz vR G++[]))) (λz=>G.length-z.1) (0,L) (auV O) ⟨bl _,by show sT L (qA F n2++qB F n2 0);rw[dC,dQ];exact hL,aU⟩ ?_;clear aU hS hL;rintro⟨i,L⟩ e w5 ⟨hi,hL,hS⟩;dsimp only at hi hL hS|-;refine bC O (aK _ O (λh3=>?_) (λh3=>?_))
  ·have yv:i<G.length:=by omega
   have z7:=hS.tail.fO (show G.length=G.length from O);have iO:=z7.at_ (i:=(i:Int)) ac ac;have gu:=z7.cap_ (i:=(i:Int)) ac ac;have KJ:=iO.1;have ng:gl G i∈G:=by rw[df yv];exact dt _
   have cT:=fk _ ng;have Qt:=CI _ ng;have hbi:=lS i yv;have hqbi:=XZ i;have kF:qC (gl G i) n2 0=[]:=O;generalize hx:gl G i=x at*;refine aC O (aA z7.top.2 O (bw z7.top O (ay O ?_)));refine Cd.loop (α:=Nat×List (ByteArray×Int)) (λz=>[(0,.pointer Pc),(3,aj (du F:Int)),(4,.map (some g)),(5,aj n2),(7,.slice (rg vR i).a (rg vR i).n (rg vR i).c),(27,.slice re G.length rz),(28,aj (G.length:Int)),(29,aj i),(33,aj n2),(34,aj (z.1:Int))]) (λz w'=>z.1<=n2/\sT z.2 (qA F n2++qB F n2 i++qC x n2 z.1)/\St w w' (wv g z.2::(aV 27 2 re G.length rz vR G++[]))) (λz=>n2-z.1) (0,L) (auV O) ⟨bl _,by show sT L (qA F n2++qB F n2 i++qC x n2 0);rw[kF,dQ];exact hL,hS⟩ ?_;clear hS hL z7 iO;rintro⟨k,L⟩ e w6 ⟨hk,hL,hS⟩;dsimp only at hk hL hS|-;refine bC O (aK _ O (λh4=>?_) (λh4=>?_))
   ·have z7:=hS.tail.fO (show G.length=G.length from O);have iO:=z7.at_ (i:=(i:Int)) ac ac;rw[hx]at iO;have sc:=apy x n2 k;have pH:qD x n2 k 0=[]:=O;have GJ:=λj h=>apz (x:=x) (n:=n2) (k:=k) (j:=j) h
    have yi:=vO (l:=x) k ac;have hqc:=aaG x n2 k ac;have uk:=λj=>aaI x n2 k j ac
    have hpb:∀p∈dT x k,(∀a∈p,-9223372036854775808<=a/\a<=9223372036854775807)/\p.length<=6:=λp hp=>⟨λa ha=>Qt a ((oF.1 hp).1.subset ha),by have:=(oF.1 hp).1.length_le;omega⟩
    refine aC O (aI (HS k _ _ _ x _ iO gu.1 ac ac) O ?_);rintro _ w7 ⟨rU,sW,aaW,rfl,hrl39,aw⟩;generalize hN:dT x k=N at*;have bp:St w w7 (wv g L::(aV 27 2 rU N.length sW aaW N++(aV 27 2 re G.length rz vR G++[]))):=by
     have:=hS.call aw;rw[dQ]at this;exact this.perm mO
    clear aw hS z7 iO;refine aR O O (ay O ?_);refine Cd.loop (α:=Nat×List (ByteArray×Int)) (λz=>[(0,.pointer Pc),(3,aj (du F:Int)),(4,.map (some g)),(5,aj n2),(7,.slice (rg vR i).a (rg vR i).n (rg vR i).c),(8,aj k),(27,.slice re G.length rz),(28,aj (G.length:Int)),(29,aj i),(33,aj n2),(34,aj k),(39,.slice rU N.length sW),(40,aj (N.length:Int)),(41,aj (z.1:Int))]) (λz w'=>z.1<=N.length/\sT z.2 (qA F n2++qB F n2 i++qC x n2 k++qD x n2 k z.1)/\St w w' (wv g z.2::(aV 27 2 rU N.length sW aaW N++(aV 27 2 re G.length rz vR G++[])))) (λz=>N.length-z.1) (0,L) (auV O) ⟨bl _,by show sT L (_++qD x n2 k 0);rw[pH,dQ];exact hL,bp⟩ ?_;clear bp hL;rintro⟨j,L⟩ e w8 ⟨hj,hL,hS⟩;dsimp only at hj hL hS|-;refine bC O (aK _ O (λh5=>?_) (λh5=>?_))
    ·have lV:j<N.length:=by omega
     have OQ:=hS.tail.fO (show N.length=N.length from O);have l6:=OQ.at_ (i:=(j:Int)) ac ac;have akI:=l6.1;have kG:gl N j∈N:=by rw[df lV];exact dt _
     obtain⟨AJ,hgl6⟩:=hpb _ kG;have yO:=GJ j lV;have hqdj:=uk j;have hlQ:(qA F n2++qB F n2 i++qC x n2 k++qD x n2 k j).length<=100000000:=by simp only[cj];omega
     have hbQ:=UN (Q:=qA F n2++qB F n2 i++qC x n2 k++qD x n2 k j) (gl N j) (λq hq=>by
      rcases dF.1 hq with hq|hq
      ·rcases dF.1 hq with hq|hq
       ·rcases dF.1 hq with hq|hq
        ·exact apv q hq
        exact aaF q hq
       exact aaH q hq
      exact aaJ q hq)
     generalize hQ:qA F n2++qB F n2 i++qC x n2 k++qD x n2 k j=Q at*;refine aC O (aA OQ.top.2 O (bw OQ.top O ?_));refine aq O (cV O ?_);refine ak.rem O O O ac (ay O ?_);refine aK _ O (λh7=>?_) (λh7=>?_)
     ·refine aC O (aI (xm _ _ _ (gl N j) _ (hT.ao hS.below) l6 AJ ac) O ?_);rintro _ w9 ⟨rfl,aw⟩;have bj:=hS.ao aw.below;refine FE sl (fK (gl N j)) (bj.oH 0 O) O O O ?_;rw[hL (gl N j)];refine aJ O (tL O sl 0 (u:=kN Q (gl N j)+1) (a:=fK (gl N j)) bj O O O O ?_);intro dJ cQ;refine aq O (aJ O (aN O (tQ ?_)));refine⟨(j+1,gh L (fK (gl N j)) (kN Q (gl N j)+1)),by show N.length-(j+1)<N.length-j;omega,(auV O),by show j+1<=N.length;omega,?_,cQ⟩;show sT _ (qA F n2++qB F n2 i++qC x n2 k++qD x n2 k (j+1));rw[yO,<-ef,hQ];exact hL.put (gl N j) (s:=zt n2 k) (v:=kN Q (gl N j)+1) (by unfold zt;rw[if_pos h7];try omega)
     refine aC O (aI (xm _ _ _ (gl N j) _ (hT.ao hS.below) l6 AJ ac) O ?_);rintro _ w9 ⟨rfl,aw⟩;have bj:=hS.ao aw.below;refine FE sl (fK (gl N j)) (bj.oH 0 O) O O O ?_;rw[hL (gl N j)];refine cV O (tL O sl 0 (u:=kN Q (gl N j)-1) (a:=fK (gl N j)) bj O O O O ?_);intro dJ cQ;refine aq O (aJ O (aN O (tQ ?_)));refine⟨(j+1,gh L (fK (gl N j)) (kN Q (gl N j)-1)),by show N.length-(j+1)<N.length-j;omega,(auV O),by show j+1<=N.length;omega,?_,cQ⟩;show sT _ (qA F n2++qB F n2 i++qC x n2 k++qD x n2 k (j+1));rw[yO,<-ef,hQ];exact hL.put (gl N j) (s:=zt n2 k) (v:=kN Q (gl N j)-1) (by unfold zt;rw[if_neg h7];try omega)
    have qF:j=N.length:=by omega
    rw[qF,ef,<-sc]at hL;refine ba O (bc (bY O (aJ O (aN O (tQ ?_)))));refine⟨(k+1,L),by show n2-(k+1)<n2-k;omega,(auV O),by show k+1<=n2;omega,hL,?_⟩;exact hS.sub (List.Sublist.cons_cons _ (fj _ _))
   have pM:k=n2:=by omega
   rw[pM,ef,<-hbi]at hL;refine ba O (bc (bY O (aJ O (aN O (tQ ?_)))));exact⟨(i+1,L),by show G.length-(i+1)<G.length-i;omega,(auV O),by show i+1<=G.length;omega,hL,hS⟩
  have pK:i=G.length:=by omega
  rw[pK,<-eA]at hL;refine ba O (bc (bY O (aJ O (aN O (tQ ?_)))));exact⟨(n2+1,L),by show du F+1-(n2+1)<du F+1-n2;omega,(auV O),by show n2+1<=du F+1;omega,by show 1<=n2+1;omega,hL,hS.sub (List.Sublist.cons_cons _ (List.nil_sublist _))⟩
 have bN:n2=du F+1:=by omega
 rw[bN]at hL;have V1:pk F↔∀k,k<du F->∀x∈eG F k,kN (qA F (du F+1)) x=DS (du F) k:=⟨λh=>h.2,λh=>⟨yE,h⟩⟩;generalize qA F (du F+1)=Q at*;refine ba O (bc (kX O ?_));refine Cd.loop (α:=Nat) (λz=>[(0,.pointer Pc),(3,aj (du F:Int)),(4,.map (some g)),(63,aj (du F:Int)),(64,aj z)]) (λz w'=>z<=du F/\(∀k,k<z->∀x∈eG F k,kN Q x=DS (du F) k)/\St w w' [wv g L]) (λz=>du F-z) 0 (auV O) ⟨bl _,(λk hk=>absurd hk ac),hS⟩ ?_;clear hS;rintro k e w4 ⟨hk,hE,hS⟩;refine bC O (aK _ O (λh3=>?_) (λh3=>?_))
 ·have CI:=Gl k;have z6:=Ce k h6;have fk:∀y∈eG F k,y.length=k:=λy hy=>yc hy
  refine aC O (aI (FZ Pc V A n c rs F k w4 (hS.gS hP) (hS.bU hR) ac h6 ac) O ?_);rintro _ w5 ⟨Mk,M3,aaX,rfl,hrl69,aw⟩;have aO:St w w5 (wv g L::(aV 27 2 Mk (eG F k).length M3 aaX (eG F k)++[])):=(hS.call aw).perm gL;have hkE:∀{i:Nat}(hi:i<(eG F k).length),kN Q (gl (eG F k) i)≠DS (du F) k->¬pk F:=λhi bN h=>bN (V1.1 h k ac _ (by rw[df hi];exact dt _))
  clear aw hS;generalize hG:eG F k=G at*;refine aR O O (ay O ?_);refine Cd.loop (α:=Nat) (λz=>[(0,.pointer Pc),(3,aj (du F:Int)),(4,.map (some g)),(11,aj k),(63,aj (du F:Int)),(64,aj k),(69,.slice Mk G.length M3),(70,aj (G.length:Int)),(71,aj z)]) (λz w'=>z<=G.length/\(∀j,j<z->kN Q (gl G j)=DS (du F) k)/\St w w' (wv g L::(aV 27 2 Mk G.length M3 aaX G++[]))) (λz=>G.length-z) 0 (auV O) ⟨bl _,(λj hj=>absurd hj ac),aO⟩ ?_;clear aO;rintro i e w6 ⟨hi,hJ,hS⟩;refine bC O (aK _ O (λh4=>?_) (λh4=>?_))
  ·have yv:i<G.length:=by omega
   have OS:=hS.tail.fO (show G.length=G.length from O);have iO:=OS.at_ (i:=(i:Int)) ac ac;have KJ:=iO.1;have ng:gl G i∈G:=by rw[df yv];exact dt _
   have hlen:=fk _ ng;refine aC O (aA OS.top.2 O (bw OS.top O (aq O (aI (xm _ _ _ (gl G i) _ (hT.ao hS.below) iO (CI _ ng) ac) O ?_))));rintro _ w9 ⟨rfl,aw⟩;have bj:=hS.ao aw.below;refine FE sl (fK (gl G i)) (bj.oH 0 O) O O O ?_;rw[hL (gl G i)];refine aq O (cV O ?_);refine ak.rem O O O ac (ak.mul O O O ac (ay O ?_));refine aK _ O (λh5=>?_) (λh5=>?_)
   ·refine dE O (fz (fe (fz (fe ?_))));refine cK O ?_;exact⟨by rw[db (hkE yv h5)],bj.none⟩
   have h5:=kW.1 h5;refine aC O (aJ O (aN O (tQ ?_)));exact⟨i+1,by show G.length-(i+1)<G.length-i;omega,(auV O),ac,λj hj=>by
    by_cases ej:j=i
    ·subst ej;exact h5
    exact hJ j ac,bj⟩
  refine ba O (bc (bY O (aJ O (aN O (tQ ?_)))));refine⟨k+1,by show du F-(k+1)<du F-k;omega,(auV O),ac,λk' fU x hx=>?_,hS.sub (List.Sublist.cons_cons _ (List.nil_sublist _))⟩
  by_cases ek:k'=k
  ·subst ek;rw[hG]at hx;obtain⟨j,hj,rfl⟩:=fS.1 hx;have:=hJ j ac
   rwa[df hj]at this
  exact hE k' ac x hx
 have pM:k=du F:=by omega
 rw[pM]at hE;refine ba O (bc (ew O ?_));refine cK O ?_;exact⟨by rw[dB (V1.2 hE)],hS.none⟩
def QA(V:Int)(F:ag):Bool:=decide (gm V F/\pk F)
theorem alr(V:Int)(A:ai)(n c:Nat)(rs:List aE)(F:ag)(w:aa)(hT:lh w)(hR:bH w A n rs F)(hn:n<=9223372036854775807):
 aF prog 19 [.agg #[aj V,.slice A n c]] w (λv w'=>v=.tuple #[.bool (QA V F),aj (xh V F)]/\St w w' []):=by
 have lO:=hR.len;refine bn func19 O ntmps19 O (mI O) (aY O (nB (St.refl w) O O ?_));intro Ab w1 ax;refine aq O (cG 1 (ax.rd 0 O) O O O (aI (HA V A n c rs F _ (hT.ao ax.below) (ax.bU hR) hn) O ?_));rintro _ w2 ⟨rfl,aw⟩;have az:=ax.ao aw.below;unfold QA xh
 first|refine cO rfl rfl ?_|refine dv rfl rfl ?_
 refine ay O (aK _ O (λh1=>?_) (λh1=>?_))
 ·rw[aD h1,db λh=>h1 h.1];refine dE O (uI O O ?_);exact⟨O,az.none⟩
 have hC:=kW.1 h1;rw[aG hC];refine aC O (aI (alJ Ab V A n c rs F _ (hT.ao az.below) (az.rd 0 O) (az.bU hR) hC) O ?_);rintro _ w3 ⟨rfl,mB⟩;refine bR O (uI O O ?_);exact⟨by rw[kl.2 (⟨λh=>h.2,λh=>⟨hC,h⟩⟩:(gm V F/\pk F)↔pk F)],(az.ao mB.below).none⟩
def SV(F:ag):Prop:=Pure F/\∀k,k<du F+1->∀x∈eG F k,IK ((iN (zT (anA F x))).drop 1)=DS (du F) k
instance (F:ag):Decidable (SV F):=by unfold SV;exact inferInstance
end
section
variable{y:ah}
theorem ant{x:ah}(hy:SA y)(hx:SA x)(h:Ins x y):(sq y x).length+x.length=y.length:=by
 have e:y.filter (λz=>decide (z∈x))=x:=by
  refine SA.eq (oO _ hy) hx λz=>?_
  rw[fM];simp only[k5];exact⟨λh=>h.2,λhz=>⟨h z hz,hz⟩⟩
 have:=ND (λz=>decide (z∈x)) y;rw[e]at this;unfold sq;omega
theorem ahp{M:ag}{i j:Nat}{x:ah}(h:j≠i):gl (M.set i x) j=gl M j:=by
 simp only[gl,gx,b5,lI];rw[aD λe=>h e.symm]
theorem aho{M:ag}{i:Nat}{x:ah}(h:i<M.length):gl (M.set i x) i=x:=by
 simp only[gl,gx,b5,lI];simp[h]
end
section
open Go.RowKit
def sn(l:ah):List Bool:=l.map λy=>decide (0<=y)
theorem ahd{l:ah}{x:Int}(h0:0<=x)(h1:x<l.length):gb (sn l) x=decide (0<=gi l x):=by
 obtain⟨k,rfl⟩:∃k:Nat,x=k:=⟨x.toNat,ac⟩;have hk:k<l.length:=by omega
 rw[b7 hk];simp[gb,sn,b5,fL hk]
theorem abp{l:ah}{i:Nat}{v:Int}(h:0<=v):sn (l.set i v)=(sn l).set i true:=by
 unfold sn;rw[List.map_set,dB h]
theorem apH(A:ai)(n c:Nat)(rs:List aE)(next:ag)(v wo:Int)(w:aa)(hR:bH w A n rs next)(hg:Gr n next)(h0:0<=v)(h1:v<n):
 aF prog 109 [.slice A n c,aj v,aj wo] w (λr w'=>∃A' c',r=.slice A' (sY next wo v).2.length c'/\St w w' []):=by
 have hl:=hg.len;have hsm:=hg.small;refine bn func109 O ntmps109 O (bM O) ?_;refine aY O (aR O O ?_);refine wb n (St.refl w) O O ac λA7 w1 ax=>aq O (auJ (ax.iQ 0 O).2 O O O h0 h1 (pn 0 ax O O O ac ?_));intro w3 aM;refine aq O (eh aM O O O ?_);intro A9 w4 aU;have aU:St w w4 [av 2 A9 (pU n v).2.length 1 (pU n v).2,fB 4 A7 n n (sn (pU n v).1)]:=by
  have e:sn (pU n v).1=(List.replicate n false).set v.toNat true:=by
   show sn ((List.replicate n (-1)).set v.toNat 0)=_;rw[abp (Int.le_refl 0)];simp[sn]
  rw[e];exact aU
 have iY:sY next wo v=ql next wo (n+1-0) 0 (pU n v):=by unfold sY;rw[hl];rfl
 refine ay O (Cd.loop (α:=Nat×ai×Nat×(ah×ah)) (λz=>[(0,.slice A n c),(2,aj wo),(7,.slice A7 n n),(8,.slice z.2.1 z.2.2.2.2.length z.2.2.1),(9,aj (z.1:Int))]) (λz w'=>St w w' [av 2 z.2.1 z.2.2.2.2.length z.2.2.1 z.2.2.2.2,fB 4 A7 n n (sn z.2.2.2.1)]/\BF n z.2.2.2/\z.1<=z.2.2.2.2.length/\sY next wo v=ql next wo (n+1-z.1) z.1 z.2.2.2) (λz=>n+1-z.1) (0,A9,1,pU n v) (auV O) ⟨aU,BF.init h0 h1,bl _,iY⟩ ?_);rintro⟨i,fC,kA,st⟩ e w5 ⟨aO,hB,hi,hD⟩;dsimp only at aO hB hi hD|-;have mz:=hB.Lb;refine aY O (aR O O (ay O ?_));refine aK _ O (λh3=>?_) (λh3=>?_)
 ·have fY:i<st.2.length:=by omega
  have hQ:=aO.bF 0 O;have vD:gi st.2 i∈st.2:=gi_in fY;have qM:=hB.jl _ vD;have br:=hg.row (gi st.2 i) qM.1;have yk:=aO.bU hR;rw[ad9 fY (by omega)]at hD;refine aC O (aA hQ.2 O (bg hQ O ?_));generalize hu:gi st.2 i=u at*;have wV:(gl next u).length=(rg rs u).n:=hR.qc qM.1 qM.2;refine auJ yk.top.2 O O O qM.1 qM.2 (bw yk.top O ?_);refine aR O O (ay O ?_);refine Cd.loop (α:=Nat×ai×Nat×(ah×ah)) (λz=>[(0,.slice A n c),(2,aj wo),(7,.slice A7 n n),(8,.slice z.2.1 z.2.2.2.2.length z.2.2.1),(9,aj i),(32,.slice (rg rs u).a (rg rs u).n (rg rs u).c),(33,aj ((rg rs u).n:Int)),(34,aj (z.1:Int))]) (λz w'=>St w w' [av 2 z.2.1 z.2.2.2.2.length z.2.2.1 z.2.2.2.2,fB 4 A7 n n (sn z.2.2.2.1)]/\z.1<=(gl next u).length/\z.2.2.2=qW wo u ((gl next u).take z.1) st) (λz=>(gl next u).length-z.1) (0,fC,kA,st) (auV O) ⟨aO,bl _,O⟩ ?_;rintro⟨j,eP,iW,sj⟩ e w6 ⟨bk,hj,Ho⟩;dsimp only at bk hj Ho|-;obtain⟨Gj,fx⟩:=BF.row (wo:=wo) ((gl next u).take j) hB vD (λx hx=>br.1 x (List.mem_of_mem_take hx));rw[<-Ho]at Gj fx;have jh:=bk.bU hR;have hqj:=Gj.Lb;have Ey:=Gj.len;have ui:=fx.length_le;refine bC O (aK _ O (λh4=>?_) (λh4=>?_))
  ·have iJ:j<(gl next u).length:=by omega
   have Yl:=jh.at_ (i:=u) qM.1 qM.2;have pS:gi (gl next u) j∈gl next u:=gi_in iJ;have hx:=br.1 _ pS;have ku:qW wo u ((gl next u).take (j+1)) st=kJ wo u sj (gi (gl next u) j):=by rw[lG iJ,RK,<-Ho]
   have hO:=bk.iQ 1 O;have hgu:=Gj.pos u (fx.subset vD);refine aC O (aA Yl.2 O (bg Yl O ?_));generalize KU:gi (gl next u) j=x at*;have AJ:=ahd (l:=sj.1) hx.1 ac;refine aq O (b9 41 O (λh5=>?_) (λh5=>?_))
   ·refine ar O (aq O (ar O (aq O (ar O ?_))));refine auJ hO.2 O O O hx.1 hx.2 (ar O (rj hO O ac O O (ar O ?_)))
    first|refine cO rfl rfl ?_|refine dv rfl rfl ?_
    refine ay O (Cd.cond O (λh6=>?_) (λh6=>?_))
    ·have h7:gi sj.1 x<0:=by rw[AJ]at h6;simpa using h6
     have aw:kJ wo u sj x=(sj.1.set x.toNat (gi sj.1 u+1),sj.2++[x]):=by unfold kJ;rw[if_pos ⟨h7,h5⟩]
     refine aC O (auJ hO.2 O O O hx.1 hx.2 (pn 1 bk O O O ac ?_));intro w7 bp;refine aq O (eh bp O O O ?_);intro rT w8 bB;refine eQ 1 bB O (bB.bF 0 O) O O O λig kj w9 bj=>aq O (aJ O (aN O (tQ ?_)));have e2:(sj.2++[x]).length=sj.2.length+1:=by simp
     refine⟨(j+1,ig,kj,kJ wo u sj x),by show _-(j+1)<_-j;omega,⟨O,O,O,by show Value.slice _ _ _=.slice _ _ _;rw[aw];show Value.slice _ _ _=.slice _ (sj.2++[x]).length _;rw[e2],O,O,O,O,au⟩,?_,iJ,ku.symm⟩;show St w w9 [av _ ig (kJ wo u sj x).2.length kj (kJ wo u sj x).2,fB _ A7 n n (sn (kJ wo u sj x).1)];rw[aw];show St w w9 [av _ ig (sj.2++[x]).length kj (sj.2++[x]),fB _ A7 n n (sn (sj.1.set x.toNat (gi sj.1 u+1)))];rw[e2,abp (by omega)];exact bj.tail
    have h7:¬gi sj.1 x<0:=by rw[AJ]at h6;simp at h6;omega
    have aw:kJ wo u sj x=sj:=by unfold kJ;rw[if_neg (λh=>h7 h.1)]
    rw[aw]at ku;refine aC O (aJ O (aN O (tQ ?_)));exact⟨(j+1,eP,iW,sj),by show _-(j+1)<_-j;omega,(auV O),bk,iJ,ku.symm⟩
   have aw:kJ wo u sj x=sj:=by unfold kJ;rw[if_neg (λh=>h5 h.2)]
   rw[aw]at ku;refine aB O (aB O (aB O (aB O (aB O (ay O ?_)))));refine Cd.cX O (aC O (aJ O (aN O (tQ ?_))));exact⟨(j+1,eP,iW,sj),by show _-(j+1)<_-j;omega,(auV O),bk,iJ,ku.symm⟩
  refine ba O (bc (bY O (aJ O (aN O (tQ ?_)))));have qF:j=(gl next u).length:=by omega
  subst qF;rw[List.take_length]at Ho;rw[<-Ho]at hD;exact⟨(i+1,eP,iW,sj),by show n+1-(i+1)<n+1-i;omega,(auV O),bk,Gj,by show i+1<=sj.2.length;omega,by show sY next wo v=ql next wo (n+1-(i+1)) (i+1) sj;rw[hD];congr 1⟩
 refine ba O (bc (ew O ?_));refine dV O ?_;rw[ad8 (by omega)]at hD;rw[hD];exact⟨fC,kA,O,aO.none⟩
def oth(v:Nat):Int:=if v=0 then 1 else 0
def YP(next:ag)(N v:Nat):Prop:=oth v<N/\((sY next v (oth v)).2.length:Int)<(N:Int)-1
instance (next:ag)(N v:Nat):Decidable (YP next N v):=by unfold YP;exact inferInstance
end
section
variable{N F:ag}{b V:Int}
def rQ(N:ag)(a b:Int):ag:=N.set a.toNat (gl N a++[b])
def Dd(N:ag)(p:ah×ah):ag:=rQ (rQ N (gi p.2 0) (gi p.2 1)) (gi p.2 1) (gi p.2 0)
def jV(n:Nat)(R:List (ah×ah)):ag:=R.foldl Dd (List.replicate n [])
theorem ZV(n:Nat)(R:List (ah×ah))(p:ah×ah):jV n (R++[p])=Dd (jV n R) p:=by simp[jV]
theorem Dh(N:ag)(a b:Int):(rQ N a b).length=N.length:=by simp[rQ]
theorem Dg{a:Int}(h0:0<=a)(h1:a<N.length)(u:Nat):gl (rQ N a b) u=if(u:Int)=a then gl N a++[b]else gl N u:=by
 obtain⟨k,rfl⟩:∃k:Nat,a=k:=⟨a.toNat,ac⟩;unfold rQ;rw[gx]
 by_cases e:u=k
 ·subst e;rw[aG rfl,aho (by omega)]
 rw[aD (by omega),ahp e]
theorem ZU(n:Nat):∀(R:List (ah×ah))(N:ag),N.length=n->(R.foldl Dd N).length=n
 |[],N,h=>h
 |p::R,N,h=>ZU n R _ (by unfold Dd;rw[Dh,Dh,h])
theorem an5(n:Nat)(R:List (ah×ah)):(jV n R).length=n:=ZU n R _ (by simp)
structure NX(n:Nat)(R:List (ah×ah))(N:ag):Prop where
 len:N.length=n
 II:∀u v:Nat,u<n->((v:Int)∈gl N u↔∃p∈R,p.2=[(u:Int),(v:Int)]\/p.2=[(v:Int),(u:Int)])
 jl:∀u:Nat,u<n->∀x∈gl N u,0<=x/\x<n
 mo:∀u:Nat,u<n->(gl N u).length<=(R.filter λp=>decide ((u:Int)∈p.2)).length
theorem Lh{n:Nat}:∀(m:Nat)(R:List (ah×ah)),R.length=m->(∀p∈R,∃a b:Nat,p.2=[(a:Int),(b:Int)]/\a<b/\b<n)->NX n R (jV n R)
 |0,R,hm,_=>by
  obtain rfl:=iL hm;have hg:∀u:Nat,gl (jV n []) u=[]:=λu=>by
   simp only[jV,List.foldl_nil,gl,gx,b5,List.getElem?_replicate]
   split<;>rfl
  exact⟨by simp[jV],λu v _=>by rw[hg];simp,(λu _ x hx=>by rw[hg]at hx;cases hx),λu _=>by rw[hg];simp⟩
 |m+1,R,hm,h=>by
  obtain⟨R0,p,rfl⟩:∃R0 p,R=R0++[p]:=⟨R.dropLast,R.getLast (λe=>by rw[e]at hm;simp at hm),(List.dropLast_concat_getLast _).symm⟩;have ih:=Lh m R0 (by simpa using hm) λq hq=>h q (List.mem_append_left _ hq)
  obtain⟨a,b,hp,gr,hb⟩:=h p (by simp);have wT:=ih.len;rw[ZV];have hS:Dd (jV n R0) p=rQ (rQ (jV n R0) a b) b a:=by unfold Dd;rw[hp];rfl
  have jQ:∀u:Nat,gl (Dd (jV n R0) p) u=if u=b then gl (jV n R0) b++[(a:Int)]else if u=a then gl (jV n R0) a++[(b:Int)]else gl (jV n R0) u:=λu=>by
   rw[hS,Dg (by omega) (by rw[Dh];omega),Dg (by omega) (by omega),Dg (by omega) (by omega)]
   by_cases e:u=b
   ·subst e;rw[aG rfl,aG rfl,aD (by omega)]
   ·rw[aD (by omega),aD e]
    by_cases e2:u=a
    ·rw[aG (by omega),aG e2]
    ·rw[aD (by omega),aD e2]
  refine⟨by rw[hS,Dh,Dh,wT],λu v hu=>?_,λu hu x hx=>?_,λu hu=>?_⟩
  ·have key:(∃q∈R0++[p],q.2=[(u:Int),(v:Int)]\/q.2=[(v:Int),(u:Int)])↔(∃q∈R0,q.2=[(u:Int),(v:Int)]\/q.2=[(v:Int),(u:Int)])\/(u=a/\v=b)\/(u=b/\v=a):=by
    constructor
    ·rintro⟨q,hq,h1⟩;rcases dF.1 hq with hq|hq
     ·exact .inl ⟨q,hq,h1⟩
     ·obtain rfl:=eX.1 hq;right;rw[hp]at h1;simp only[List.cons.injEq,and_true]at h1;rcases h1 with⟨h1,h2⟩|⟨h1,h2⟩
      ·left;omega
      ·right;omega
    ·rintro(⟨q,hq,h1⟩|⟨rfl,rfl⟩|⟨rfl,rfl⟩)
     ·exact⟨q,List.mem_append_left _ hq,h1⟩
     ·exact⟨p,by simp,.inl hp⟩
     ·exact⟨p,by simp,.inr hp⟩
   rw[key,<-ih.II u v hu,jQ]
   by_cases e:u=b
   ·subst e;rw[aG rfl,dF,eX];constructor
    ·rintro(h1|h1)
     ·exact .inl h1
     ·exact .inr (.inr ⟨O,ac⟩)
    ·rintro(h1|⟨h1,h2⟩|⟨h1,h2⟩)
     ·exact .inl h1
     ·omega
     ·exact .inr ac
   ·rw[aD e]
    by_cases e2:u=a
    ·subst e2;rw[aG rfl,dF,eX];constructor
     ·rintro(h1|h1)
      ·exact .inl h1
      ·exact .inr (.inl ⟨O,ac⟩)
     ·rintro(h1|⟨h1,h2⟩|⟨h1,h2⟩)
      ·exact .inl h1
      ·exact .inr ac
      ·omega
    ·rw[aD e2];constructor
     ·exact .inl
     ·rintro(h1|⟨h1,h2⟩|⟨h1,h2⟩)
      ·exact h1
      ·omega
      ·omega
  ·rw[jQ]at hx
   split at hx
   ·rcases dF.1 hx with hx|hx
    ·exact ih.jl b hb x hx
    ·have:=eX.1 hx;omega
   ·split at hx
    ·rcases dF.1 hx with hx|hx
     ·exact ih.jl a ac x hx
     ·have:=eX.1 hx;omega
    ·exact ih.jl u hu x hx
  ·rw[jQ,mN,cj];have iq:∀c:Nat,(c:Int)∈p.2↔c=a\/c=b:=λc=>by rw[hp];simp;omega
   by_cases e:u=b
   ·subst e;have h1:=ih.mo u hu;rw[aG rfl,cj,zE (by simpa using(iq u).2 (.inr rfl))];simp;omega
   ·rw[aD e]
    by_cases e2:u=a
    ·subst e2;have h1:=ih.mo u hu;rw[aG rfl,cj,zE (by simpa using(iq u).2 (.inl rfl))];simp;omega
    ·have h1:=ih.mo u hu;rw[aD e2];omega
def Il(F:ag)(i j:Nat):Prop:=(sq (gl F j) (gl F i)).length=1
inductive xQ(F:ag):Nat->Prop
 |zero:xQ F 0
 |step {i j:Nat}:xQ F i->i<F.length->j<F.length->Il F i j->xQ F j
def DI(F:ag):Prop:=∀p∈iR F,p.2.length=2
theorem SB(hc:gm V F)(hp:Pure F)(h2:DI F):∀p∈iR F,∃a b:Nat,p.2=[(a:Int),(b:Int)]/\a<b/\b<F.length:=by
 intro p kG;have hl:=h2 p kG;have hn:=HV hc hp kG;rw[hn]at hl|-;unfold CE at hl|-;rw[jd]at hl;have hs:((List.range F.length).filter λk:Nat=>decide (Ins p.1 (gl F k))).Pairwise (· < ·):=List.pairwise_lt_range.filter _;have hm:∀k∈(List.range F.length).filter λk:Nat=>decide (Ins p.1 (gl F k)),k<F.length:=λk hk=>fo.1 (fM.1 hk).1
 match hq:(List.range F.length).filter λk:Nat=>decide (Ins p.1 (gl F k)),hl with
 |[a,b],_=>
  rw[hq]at hs hm;refine⟨a,b,O,?_,hm b (by simp)⟩;simpa using hs
theorem Rt(hc:gm V F)(hp:Pure F){k:Nat}(hk:k<F.length):SA (gl F k)/\(gl F k).length=du F/\1<=du F:=by
 have hm:gl F k∈F:=by rw[df hk];exact dt _
 have h1:=hp _ hm;have h2:=(hc.row _ hm).1.1;exact⟨(hc.row _ hm).2.1,h1,ac⟩
theorem afk(hc:gm V F){i j:Nat}(hi:i<F.length)(hj:j<F.length)(h:gl F i=gl F j):i=j:=Z4 hc.ord.nodup hi hj h
theorem HI{x:ah}{k:Nat}:(k:Int)∈CE F x↔k<F.length/\Ins x (gl F k):=by
 unfold CE;rw[de];constructor
 ·rintro⟨m,hm,e⟩;obtain rfl:m=k:=by omega
  obtain⟨h1,h2⟩:=fM.1 hm;exact⟨fo.1 h1,bX h2⟩
 rintro⟨h1,h2⟩;exact⟨k,fM.2 ⟨fo.2 h1,dB h2⟩,O⟩
theorem ade(hc:gm V F)(hp:Pure F)(h2:DI F){u v:Nat}(hu:u<F.length)(hv:v<F.length):(v:Int)∈gl (jV F.length (iR F)) u↔Il F u v:=by
 have Hb:=SB hc hp h2;have hX:=Lh _ (iR F) O Hb;obtain⟨hsu,hlu,hd⟩:=Rt hc hp hu;obtain⟨tq,hlv,_⟩:=Rt hc hp hv;rw[hX.II u v hu];constructor
 ·rintro⟨p,kG,h⟩;obtain⟨a,b,gr,dH,_⟩:=Hb p kG;have hn:=HV hc hp kG;have hk:=((LB hc hp).1 (de.2 ⟨p,kG,O⟩)).1;have ui:=yc hk;have wW:=F0 (λf hf=>(hc.row f hf).2.1) hk;have G2:(u:Int)∈p.2:=by rcases h with h|h<;>rw[h]<;>simp
  have ti:(v:Int)∈p.2:=by rcases h with h|h<;>rw[h]<;>simp
  have bN:u≠v:=by
   rintro rfl;rw[gr]at h;simp only[List.cons.injEq,and_true]at h;omega
  rw[hn]at G2 ti;have OI:=(HI.1 G2).2;have hIv:=(HI.1 ti).2;have h3:=ant tq wW hIv;have h4:(sq (gl F v) (gl F u)).length<=(sq (gl F v) p.1).length:=by
   refine(Ins.len (Zp tq) (Zp tq) λz hz=>?_);rw[Zq]at hz|-;exact⟨hz.1,λh=>hz.2 (OI z h)⟩
  have h5:(sq (gl F v) (gl F u)).length≠0:=λh0=>by
   have oA:=iL h0;have hI:Ins (gl F v) (gl F u):=λz hz=>qi λhzu=>by
    have:z∈sq (gl F v) (gl F u):=Zq.2 ⟨hz,hzu⟩;rw[oA]at this;cases this
   exact bN (afk hc hv hu (Ins.same tq hsu hI ac)).symm
  unfold Il;omega
 intro hA;unfold Il at hA;have hx:SA ((gl F v).filter λz=>decide (z∈gl F u)):=oO _ tq;have si:((gl F v).filter λz=>decide (z∈gl F u)).Sublist (gl F v):=List.filter_sublist;have OI:Ins ((gl F v).filter λz=>decide (z∈gl F u)) (gl F u):=λz hz=>by simpa using(fM.1 hz).2
 have hlen:=ND (λz=>decide (z∈gl F u)) (gl F v);have D2:((gl F v).filter λz=>!decide (z∈gl F u)).length=1:=hA;generalize (gl F v).filter (λz=>decide (z∈gl F u))=x at*;have V5:F≠[]:=λe=>by rw[e]at hu;simp at hu
 have pS:x∈eG F (du F-1):=(NB V5).2 ⟨⟨gl F v,by rw[df hv];exact dt _,si⟩,ac⟩;obtain⟨p,kG,kf⟩:=de.1 ((LB hc hp).2 ⟨pS,V5⟩);obtain⟨a,b,gr,dH,_⟩:=Hb p kG;have hn:=HV hc hp kG;rw[kf]at hn;have G2:(u:Int)∈p.2:=by rw[hn];exact HI.2 ⟨hu,OI⟩
 have ti:(v:Int)∈p.2:=by rw[hn];exact HI.2 ⟨hv,Ins.Lj si⟩
 have bN:u≠v:=by
  rintro rfl;have:sq (gl F u) (gl F u)=[]:=List.filter_eq_nil_iff.2 λz hz=>by simp[hz]
  rw[this]at hA;cases hA
 refine⟨p,kG,?_⟩;rw[gr]at G2 ti|-;simp only[gW,List.not_mem_nil,or_false]at G2 ti;simp only[List.cons.injEq,and_true];omega
theorem ZW(hc:gm V F)(hp:Pure F)(h2:DI F):Gr F.length (jV F.length (iR F)):=by
 have Hb:=SB hc hp h2;have hX:=Lh _ (iR F) O Hb;refine⟨hX.len,hc.f,λu h0=>?_⟩;obtain⟨k,rfl⟩:∃k:Nat,u=k:=⟨u.toNat,ac⟩
 by_cases hk:k<F.length
 ·refine⟨hX.jl k hk,?_⟩;have h1:=hX.mo k hk;obtain⟨jJ,AU,hd⟩:=Rt hc hp hk;have wU:(gl F k).length<=6:=(hc.at_ hk).1.2;have h3:((iR F).filter λp=>decide ((k:Int)∈p.2)).length<=(dT (gl F k) (du F-1)).length:=by
   rw[<-jd (f:=λp:ah×ah=>p.1)];refine Fg _ _ (List.Pairwise.sublist (List.filter_sublist.map _) (apG F)) λx hx=>?_
   obtain⟨p,kG,rfl⟩:=de.1 hx;obtain⟨kG,o7⟩:=fM.1 kG;have o7:=bX o7;rw[HV hc hp kG]at o7;have Xl:=((LB hc hp).1 (de.2 ⟨p,kG,O⟩)).1;exact oF.2 ⟨Ins.sub (F0 (λf hf=>(hc.row f hf).2.1) Xl) jJ (HI.1 o7).2,yc Xl⟩
  have h4:=vO (l:=gl F k) (du F-1) wU;omega
 have e:gl (jV F.length (iR F)) k=[]:=by
  simp only[gl,gx,b5];rw[oP (by rw[hX.len];omega)];rfl
 rw[e];simp
theorem afb(hc:gm V F)(hp:Pure F)(h2:DI F)(hn:0<F.length):(sY (jV F.length (iR F)) (-1) 0).2.length=F.length↔∀k,k<F.length->xQ F k:=by
 have hg:=ZW hc hp h2;have hD:=afG hg (Int.le_refl 0) (by omega:(0:Int)<(F.length:Int));have hB:=Uy (wo:=-1) hg (Int.le_refl 0) (by omega:(0:Int)<(F.length:Int));have yo:=λ{u v:Nat}(hu:u<F.length)(hv:v<F.length)=>ade hc hp h2 hu hv
 have CZ:=(Lh _ (iR F) O (SB hc hp h2)).jl;generalize jV F.length (iR F)=N at*;generalize sY N (-1) 0=st at*;have hl:=hB.len;have key:∀k,k<F.length->(0<=gi st.1 k↔xQ F k):=by
  have fwd:∀(m k:Nat),k<F.length->gi st.1 k=m->xQ F k:=by
   intro m
   induction m with
   |zero=>
    intro k hk h0
    by_cases e:k=0
    ·subst e;exact .zero
    ·obtain⟨y,_,_,h1,h3⟩:=hD.par (k:Int) ac ac ac ac;omega
   |succ m ih=>
    intro k hk h0;obtain⟨y,⟨Bm,ux⟩,hm,h1,h3⟩:=hD.par (k:Int) ac ac ac (λe=>by rw[e,hD.xY]at h0;omega);obtain⟨j,rfl⟩:∃j:Nat,y=j:=⟨y.toNat,ac⟩;exact .step (ih j ac ac) ac hk ((yo ac hk).1 hm)
  intro k hk;constructor
  ·intro h;exact fwd (gi st.1 k).toNat k hk ac
  ·intro h;clear hk
   induction h with
   |zero=>rw[show((0:Nat):Int)=0 from rfl,hD.xY];omega
   |step h hi hj ha ih=>exact(hD.nxt _ ac ac ih _ ((yo hi hj).2 ha)).1
 have Pg:=hB.mo;have hz:oM st.1=0↔∀k,k<F.length->0<=gi st.1 k:=by
  unfold oM;rw[List.countP_eq_zero];constructor
  ·intro h k hk;have:=h (gi st.1 k) (gi_in ac);simpa using this
  ·intro h y hy;obtain⟨k,hk,rfl⟩:=fS.1 hy;have:=h k ac;rw[b7 hk]at this;simpa using this
 constructor
 ·intro h k hk;exact(key k hk).1 (hz.1 ac k hk)
 ·intro h;have:=hz.2 λk hk=>(key k hk).2 (h k hk)
  omega
end
section
open Go.RowKit
def vd(F:ag):Prop:=F≠[]/\Pure F/\DI F/\∀k,k<F.length->xQ F k
theorem ZD{t1 t2:ad}{A:ai}{n c:Nat}{rs:List aE}{xss:ag}{ks:List Ck}{q:Ck}{i:Nat}(s:aE)(xs:ah)(hr:rs.length=xss.length)(hi:i<rs.length):(q::(aV t1 t2 A n c rs xss++ks)).set (2+i) (av t2 s.a s.n s.c xs)=q::(aX t1 A n c rs::(cC t2 (rs.set i s) (xss.set i xs)++ks)):=by
 rw[show 2+i=i+1+1 by omega,List.set_cons_succ];show _::(aX t1 A n c rs::(cC t2 rs xss++ks)).set (i+1) _=_;rw[List.set_cons_succ,List.set_append_left _ _ (by rw[xA hr];exact hi),HY hr]
theorem alT(Pc:ai)(V:Int)(A:ai)(n c:Nat)(rs:List aE)(F:ag)(w:aa)(hT:lh w)(hP:Rd w Pc 2 (λj=>[Value.int .i64 V,.slice A n c].getD j undef))(hR:bH w A n rs F)(hC:gm V F):
 aF prog 47 [.pointer Pc] w (λv w'=>∃b:Bool,v=.bool b/\(b=true↔vd F)/\St w w' []):=by
 have lO:=hR.len;have yf:=hC.f;have h6:∀f∈F,f.length<=6:=λf hf=>(hC.row f hf).1.2
 have wU:∀f∈F,f.length<=1000000:=λf hf=>by have:=h6 f hf;omega
 refine bn func47 O ntmps47 O (bM O) (aY O (dX hP ac O O (aS hP O (a6 hP O ?_))));refine aR O O (aq O ?_);refine b9 14 O (λh1=>?_) (λh1=>?_)
 ·have oA:F=[]:=iL ac;refine aB O (aB O (aB O (ay O ?_)));refine Cd.iw O (dE O (cK O ?_));exact⟨false,rfl,⟨λh=>(by cases h),λh=>absurd oA h.1⟩,(St.refl w)⟩
 have bN:F≠[]:=λe=>h1 (by rw[e]at lO;simp at lO;omega)
 refine ar O (aq O (ar O ?_));refine aI (Y3 Pc V A n c rs F _ hP hR ac wU) O ?_;rintro _ w1 ⟨rfl,xf⟩;refine ar O ?_
 first|refine cO rfl rfl ?_|refine dv rfl rfl ?_
 refine ay O (aK _ O (λh2=>?_) (λh2=>?_))
 ·refine dE O (cK O ?_);exact⟨false,rfl,⟨λh=>(by cases h),λh=>absurd h.2.1 h2⟩,xf⟩
 have yE:=kW.1 h2;have iH:=xf.gS hP;refine aC O (dX iH ac O O (aS iH O (a6 iH O (aR O O (BV n xf O O ac ?_)))));intro A3 w2 az;have az:St w w2 (aV 27 2 A3 n n (List.replicate n bI) (List.replicate n [])):=xu n az;refine aq O (aI (apP Pc V A n c rs F _ (hT.ao az.below) (az.gS hP) (az.bU hR) hC) O ?_);rintro _ w5 ⟨rb,M0,rvs,X,rfl,kR,br,aw⟩;have ov:rvs.length<=25600:=by
  have e1:=aQ List.length kR;rw[jd]at e1;have e2:=RA _ (pf F F.length) O;have e3:=Se h6 F.length (cJ _);unfold iR at e1;omega
 have aO:=az.call2 aw;have aj6:∀r∈rvs,r.pr∈iR F:=λr hr=>by rw[<-kR];exact de.2 ⟨r,hr,O⟩
 have XW:∀k,(rvs.take k).map RV.pr=(iR F).take k:=λk=>by rw[<-kR,List.map_take]
 generalize Cv:qh 113 rb rvs.length M0 (rvs.map (·.P))::(rvs.flatMap RV.ck++X)=KK at*;clear az aw xf;refine aR O O (ay O ?_);refine Cd.loop (α:=Nat×List aE) (λz=>[(3,.slice A3 n n),(26,.slice rb rvs.length M0),(27,aj (rvs.length:Int)),(28,aj (z.1:Int))]) (λz w'=>z.1<=rvs.length/\(∀r∈rvs.take z.1,r.ns.length=2)/\z.2.length=n/\(∀u,u<n->(gl (jV n ((iR F).take z.1)) u).length<=2*z.1)/\St w w' (aV 27 2 A3 n n z.2 (jV n ((iR F).take z.1))++KK)) (λz=>rvs.length-z.1) (0,List.replicate n bI) ⟨rfl,rfl,rfl,rfl,au⟩ ⟨bl _,(λr hr=>by cases hr),(by simp),(λu hu=>by
  show(gl (List.replicate n []) u).length<=0;simp[gl,b5,hu]),aO⟩ ?_
 clear aO;rintro⟨k,l8⟩ e w6 ⟨hk,Od,bT,GN,hS⟩;dsimp only at hk Od bT GN hS|-;have yi:=an5 n ((iR F).take k);refine bC O (aK _ O (λh3=>?_) (λh3=>?_))
 ·have qG:k<rvs.length:=by omega
  have EE:rvs[k]∈rvs:=dt _;have kH:rvs.take (k+1)=rvs.take k++[rvs[k]]:=oQ qG;have XU:=aj6 _ EE;have Qc:(iR F).take (k+1)=(iR F).take k++[rvs[k].pr]:=by rw[<-XW,kH,iE,XW];rfl
  have CS:=HV hC yE XU;have D9:∀q∈KK,q∈aV 27 2 A3 n n l8 (jV n ((iR F).take k))++KK:=λq hq=>List.mem_append_right _ hq
  have hP:IC w6 rb rvs.length (rvs.map (·.P)):=by
   obtain⟨q,hq⟩:=List.mem_iff_getElem?.1 (D9 (qh 113 rb rvs.length M0 (rvs.map (·.P))) (by rw[<-Cv];exact List.mem_cons_self));exact hS.rdP q hq
  have AK:(rvs.map (·.P)).getD ((k:Int)).toNat none=rvs[k].P:=by simp[b5,fL qG]
  obtain⟨q,hq⟩:=List.mem_iff_getElem?.1 (D9 rvs[k].bx (by rw[<-Cv];exact fE _ (List.mem_append_left _ (List.mem_flatMap.2 ⟨rvs[k],EE,by simp[RV.ck]⟩))));have gH:Rd w6 rvs[k].P 2 (λj=>[Value.slice rvs[k].s.a rvs[k].s.n rvs[k].s.c,.slice rvs[k].B rvs[k].ns.length rvs[k].c].getD j undef):=hS.rd q hq;have wO:bu w6 rvs[k].B rvs[k].ns.length rvs[k].ns:=sA hS (D9 rvs[k].fa (by rw[<-Cv];exact fE _ (List.mem_append_left _ (List.mem_flatMap.2 ⟨rvs[k],EE,by simp[RV.ck]⟩))));generalize rvs[k]=r at*;refine aC O (aA hP.2 O (ak.ld hP.2 O ac O O O ?_));rw[AK];refine aq O (dX gH ac O O (aS gH O (a6 gH O ?_)));refine aR O O (ay O ?_);refine aK _ O (λh4=>?_) (λh4=>?_)
  ·refine dE O (fz (fe ?_));refine cK O ?_;exact⟨false,rfl,⟨λh=>(by cases h),λh=>absurd (h.2.2.1 _ XU) (λe=>h4 (by have e:r.ns.length=2:=e;omega))⟩,hS.none⟩
  have vA:r.ns.length=2:=by omega
  have cE:∀x∈r.ns,0<=x/\x<n:=λx hx=>by
   have hn3:r.ns=CE F r.x:=CS;rw[hn3]at hx;unfold CE at hx;obtain⟨m,hm,rfl⟩:=de.1 hx;have:=fo.1 (fM.1 hm).1;omega
  have ha:=cE _ (show gi r.ns 0∈r.ns by rw[show(0:Int)=((0:Nat):Int)from O,b7 (by omega)];exact dt _);have hb:=cE _ (show gi r.ns 1∈r.ns by rw[show(1:Int)=((1:Nat):Int)from O,b7 (by omega)];exact dt _);have XA:jV n ((iR F).take (k+1))=rQ (rQ (jV n ((iR F).take k)) (gi r.ns 0) (gi r.ns 1)) (gi r.ns 1) (gi r.ns 0):=by rw[Qc,ZV];rfl
  have hga:(gl (jV n ((iR F).take k)) (gi r.ns 0)).length<=2*k:=by
   have:=GN (gi r.ns 0).toNat ac
   rwa[show(((gi r.ns 0).toNat:Nat):Int)=gi r.ns 0 by omega]at this
  have ajD:∀u,u<n->(gl (jV n ((iR F).take (k+1))) u).length<=2*(k+1):=λu hu=>by
   rw[XA,Dg hb.1 (by rw[Dh];omega),Dg ha.1 (by omega) u];obtain⟨bb,Ei⟩:∃bb:Nat,gi r.ns 1=bb:=⟨(gi r.ns 1).toNat,ac⟩;have h7:=GN u hu;rw[Ei,Dg ha.1 (by omega) bb];have h8:=GN bb ac
   split
   ·rw[cj]
    split
    ·rw[cj];simp;omega
    simp;omega
   split
   ·rw[cj];simp;omega
   omega
  have AJ:(gl (rQ (jV n ((iR F).take k)) (gi r.ns 0) (gi r.ns 1)) (gi r.ns 1)).length<=2*k+1:=by
   obtain⟨bb,Ei⟩:∃bb:Nat,gi r.ns 1=bb:=⟨(gi r.ns 1).toNat,ac⟩;have h8:=GN bb ac;rw[Ei,Dg ha.1 (by omega) bb]
   split
   ·rw[cj];simp;omega
   omega
  refine cM O (ec [xP (r.P),xP (r.P),xP (aH (r.P) 1),xS (r.B) (r.ns.length) (r.c),xP (aH (r.B) ((0:Int)).toNat),xI (gi (r.ns) ((0:Int))),xP (r.P),xP (r.P),xP (aH (r.P) 1),xS (r.B) (r.ns.length) (r.c),xP (aH (r.B) ((1:Int)).toNat),xI (gi (r.ns) ((1:Int))),xI (gi (r.ns) ((0:Int))),xI (gi (r.ns) ((1:Int)))] O (eK O) ?_ ?_)
  ·exact⟨Dr O,λ_ _ hb _ _=>dX (gH.below hb) (Nat.succ_pos _) O O Az,λ_ _ hb _ _=>aS (gH.below hb) O Az,λ_ _ hb _ _=>a6 (gH.below hb) O Az,λ_ _ hb _ _=>aA (wO.ao hb).2 O Az,λ_ _ hb _ _=>bg (wO.ao hb) O Az,Dr O,λ_ _ hb _ _=>dX (gH.below hb) (Nat.succ_pos _) O O Az,λ_ _ hb _ _=>aS (gH.below hb) O Az,λ_ _ hb _ _=>a6 (gH.below hb) O Az,λ_ _ hb _ _=>aA (wO.ao hb).2 O Az,λ_ _ hb _ _=>bg (wO.ao hb) O Az,Dr O,Dr O,au⟩
  intro u w7 s9 _;have bp:=hS.ao s9;have OT:=bp.fO yi;have lp:=(OT.at_ ha.1 ha.2).1;generalize gi r.ns 0=va at*;generalize gi r.ns 1=vb at*;generalize Wf:jV n ((iR F).take k)=NN at*;refine gq O (aA OT.top.2 O (bw OT.top O (aq O (eh bp O O O ?_))));intro zz w8 bB;have Xb:(av 2 zz 1 1 [vb]::(aV 27 2 A3 n n l8 NN++KK))[2+va.toNat]?=some (av 2 (rg l8 va).a (rg l8 va).n (rg l8 va).c (gl NN va)):=by
   have h0:=uB (t1:=27) (t2:=2) (A:=A3) (n:=n) (c:=n) (rs:=l8) (xss:=NN) (pre:=[av 2 zz 1 1 [vb]]) (ks:=KK) (i:=va.toNat) ac ac;exact h0
  refine eQ (2+va.toNat) bB Xb (bB.bF 0 O) O O O ?_;intro Fo I2 w9 bj;rw[ZD ⟨Fo,(rg l8 va).n+1,I2⟩ (gl NN va++[vb]) (by omega) (by omega)]at bj;have fg:fu w9 A3 n l8:=bj.dm 1 O;refine aA fg.2 O (nC (te:=27) (n:=n) (c:=n) (A:=A3) (xs:=l8) 1 bj O O O ac ?_);intro dJ cQ;have hU:St w dJ (aV 27 2 A3 n n (l8.set va.toNat ⟨Fo,(rg l8 va).n+1,I2⟩) (rQ NN va vb)++KK):=St.tail cQ;clear cQ fg bj Xb bB;have ait:(rQ NN va vb).length=n:=by rw[Dh];exact yi
  have yJ:(l8.set va.toNat ⟨Fo,(rg l8 va).n+1,I2⟩).length=n:=by simp;exact bT
  have ON:=hU.fO ait;have lr:=(ON.at_ hb.1 hb.2).1;generalize l8.set va.toNat ⟨Fo,(rg l8 va).n+1,I2⟩=bZ at*;generalize hN2:rQ NN va vb=N2 at*;refine aq O (aA ON.top.2 O (bw ON.top O (aq O (eh hU O O O ?_))));intro SK eO dA;have W8:(av 2 SK 1 1 [va]::(aV 27 2 A3 n n bZ N2++KK))[2+vb.toNat]?=some (av 2 (rg bZ vb).a (rg bZ vb).n (rg bZ vb).c (gl N2 vb)):=by
   have h0:=uB (t1:=27) (t2:=2) (A:=A3) (n:=n) (c:=n) (rs:=bZ) (xss:=N2) (pre:=[av 2 SK 1 1 [va]]) (ks:=KK) (i:=vb.toNat) ac ac;exact h0
  refine eQ (2+vb.toNat) dA W8 (dA.bF 0 O) O O O ?_;intro Mj M1 gD dz;rw[ZD ⟨Mj,(rg bZ vb).n+1,M1⟩ (gl N2 vb++[va]) (by omega) (by omega)]at dz;have ot:fu gD A3 n bZ:=dz.dm 1 O;refine aA ot.2 O (nC (te:=27) (n:=n) (c:=n) (A:=A3) (xs:=bZ) 1 dz O O O ac ?_);intro jm il;have hU2:St w jm (aV 27 2 A3 n n (bZ.set vb.toNat ⟨Mj,(rg bZ vb).n+1,M1⟩) (rQ N2 vb va)++KK):=St.tail il;clear il ot dz W8 dA;refine aq O (aJ O (aN O (tQ ?_)));refine⟨(k+1,bZ.set vb.toNat ⟨Mj,(rg bZ vb).n+1,M1⟩),by show rvs.length-(k+1)<rvs.length-k;omega,(auV O),by show k+1<=rvs.length;omega,λx hx=>?_,by show(bZ.set _ _).length=n;simp;exact yJ,ajD,by show St w jm (aV _ _ _ _ _ _ (jV n ((iR F).take (k+1)))++_);rw[XA];exact hU2⟩;have hx:x∈rvs.take (k+1):=hx;rw[kH]at hx;rcases dF.1 hx with hx|hx
  ·exact Od x hx
  rw[eX.1 hx];exact vA
 have pM:k=rvs.length:=by omega
 have Xv:(iR F).length=rvs.length:=by rw[<-kR,jd]
 rw[pM,jw (by omega)]at hS yi;have Oc:DI F:=λp hp=>by
  rw[<-kR]at hp;obtain⟨r,hr,rfl⟩:=de.1 hp;exact Od r (by rw[pM,List.take_length];exact hr)
 have pP:0<F.length:=by omega
 have hg:=ZW hC yE Oc;have GF:=afb hC yE Oc pP;rw[lO]at hg GF;refine ba O (bc (bY O ?_));refine aI (apH A3 n n l8 (jV n (iR F)) 0 (-1) _ (hS.fO yi) hg ac ac) O ?_;rintro _ w9 ⟨Ml,I4,rfl,kr⟩;refine aR O O (aq O (aR O O (bR O ?_)));refine cK O ⟨_,O,?_,(hS.ao kr.below).none⟩;rw[k5];constructor
 ·intro h;exact⟨bN,yE,Oc,by rw[lO];exact GF.1 ac⟩
 intro h;have:=GF.2 (by have:=h.2.2.2;rwa[lO]at this);omega
end
section
def LH(F:ag)(k:Nat):Nat:=if k=0 then 0 else(wz [] (ES F k)).length
theorem aaS(F:ag)(k:Nat):sF F k=LH F k:=by
 unfold LH
 by_cases h:k=0
 ·rw[aG h,h];simp[sF]
 rw[aD h];exact RH ac (UC _)
def wm(F:ag):ah:=(List.range (du F)).map λj=>((eG F (j+1)).length:Int)-(LH F j:Int)-(LH F (j+1):Int)
theorem aeC(F:ag):FT F=wm F:=by
 unfold FT wq wm;exact List.map_congr_left λj _=>by unfold IY;rw[aaS,aaS]
def Rz(F:ag):List (Nat×Nat)->List Nat->List Nat
 |[],S=>S
 |p::r,S=>Rz F r (if p.1∈S/\p.2<F.length/\(sq (gl F (p.2:Int)) (gl F (p.1:Int))).length=1 then p.2::S else S)
theorem aaK{F:ag}:∀(ps:List (Nat×Nat))(S:List Nat),(∀s∈S,s<F.length/\xQ F s)->∀s∈Rz F ps S,s<F.length/\xQ F s
 |[],S,h,s,hs=>h s hs
 |p::r,S,h,s,hs=>by
  refine aaK r _ (λt ht=>?_) s hs
  by_cases hc:p.1∈S/\p.2<F.length/\(sq (gl F (p.2:Int)) (gl F (p.1:Int))).length=1
  ·rw[aG hc]at ht;rcases gW.1 ht with rfl|ht
   ·have h1:=h _ hc.1;exact⟨hc.2.1,.step h1.2 h1.1 hc.2.1 hc.2.2⟩
   ·exact h t ht
  ·rw[aD hc]at ht;exact h t ht
def psC(F:ag)(ps:List (Nat×Nat)):Bool:=decide (F≠[]) &&(decide (Pure F) &&((iR F).all (λp=>decide (p.2.length=2)) &&(List.range F.length).all λk=>decide (k∈Rz F ps [0])))
theorem Dj{F:ag}{ps:List (Nat×Nat)}(h:psC F ps=true):vd F:=by
 simp only[psC,Bool.and_eq_true,k5,List.all_eq_true]at h;obtain⟨h1,h2,h3,h4⟩:=h;refine⟨h1,h2,h3,λk hk=>?_⟩;refine(aaK ps [0] (λs hs=>?_) k (h4 k (fo.2 hk))).2;rw[eX.1 hs];exact⟨ac,.zero⟩
end
section
open Go.RowKit
end
section
section
variable {N:Nat}{xss SF:ag}{φ:Int->Int}
variable {f:Int}
end
section
variable {n F:Nat}{L:ag}
end
section
variable {N:Nat}{xss:ag}{f:Int}
end
section
variable {N:Nat}{xss:ag}{p q:ah}
variable {ps:ag}
end
section
variable {N:Nat}{xss:ag}{b:Int}{i k:Nat}{L Q:ah}
end
end
section
open Go.RowKit
def iG(xss:ag):ah:=(List.range xss.length).map λi=>kC xss i
theorem Jb(xss:ag):(iG xss).length=xss.length:=by simp[iG]
theorem ae5{xss:ag}{i:Nat}(h:i<xss.length):(iG xss).take (i+1)=(iG xss).take i++[kC xss i]:=by
 rw[oQ (by rw[Jb];exact h)];simp[iG]
theorem UT(Ab A:ai)(n c:Nat)(rs:List aE)(xss:ag)(w:aa)(hB:Rd w Ab 1 (λ_=>.slice A n c))(hR:bH w A n rs xss)(hM:eY xss):
 aF prog 44 [.pointer Ab] w (λv w'=>∃A' c',v=.slice A' n c'/\St w w' [av 2 A' n c' (iG xss)]):=by
 have hl:=hR.len;have h1:=hM.1;have h2:=hM.2.1;refine bn func44 O ntmps44 O (bM O) (aY O (aI (Ly Ab A n c _ _ hB O) O ?_));rintro _ w ⟨rfl,rfl⟩;refine ay O (Cd.loop (α:=Nat×ai×Nat) (λs=>[(0,.pointer Ab),(3,.slice s.2.1 s.1 s.2.2),(8,aj n),(9,aj (s.1:Int))]) (λs w'=>St w w' [av 2 s.2.1 s.1 s.2.2 ((iG xss).take s.1)]/\s.1<=n) (λs=>n-s.1) (0,none,0) (auV O) ⟨(St.refl w).nil _,bl _⟩ ?_);rintro⟨i,A3,c3⟩ e w1 ⟨ax,hi⟩;dsimp only at ax hi|-;refine bC O (aK _ O (λh3=>?_) (λh3=>?_))
 ·have fY:i<n:=by omega
  have ox:=DU xss i;refine aC O (aI (UW Ab A n c rs xss i _ (hB.below ax.below) (ax.bU hR) hM fY) O ?_);rintro _ w2 ⟨A5,rfl,rL⟩;have az:=(ax.call rL).tail;refine aq O (eh az O O O ?_);intro A6 w3 aM;refine eQ 1 aM O (aM.bF 0 O) O O O λA7 c7 w4 aU=>aq O (aJ O (aN O (tQ ?_)));refine⟨(i+1,A7,c7),by show n-(i+1)<n-i;omega,(auV O),?_,fY⟩;show St w w4 [av _ A7 (i+1) c7 ((iG xss).take (i+1))];rw[ae5 (by omega)];exact aU.tail
 refine ba O (bc (ew O ?_));refine dV O ?_;have cE:i=n:=by omega
 rw[cE,jw (by rw[Jb];omega)]at ax;rw[cE];exact⟨A3,c3,O,ax⟩
def x9(f:ah)(i:Nat):Int:=if i%2=0 then gi f i else-gi f i
def mW(f:ah):Nat->Int
 |0=>0
 |k+1=>mW f k+x9 f k
theorem UI{f:ah}(hb:∀x∈f,0<=x/\x<=30000):∀k,k<=f.length-> -((k:Int)*30000)<=mW f k/\mW f k<=(k:Int)*30000
 |0,_=>by simp[mW]
 |k+1,h=>by
  have h1:=UI hb k ac;have h2:=hb _ (gi_in (out:=f) (i:=k) ac);have h3: -30000<=x9 f k/\x9 f k<=30000:=by unfold x9;split<;>omega
  unfold mW;omega
theorem agc(A:ai)(n c:Nat)(f:ah)(w:aa)(hR:bu w A n f)(hn:n<=100)(hb:∀x∈f,0<=x/\x<=30000):
 aF prog 43 [.slice A n c] w (λv w'=>v=aj (mW f f.length)/\w'=w):=by
 have fk:=hR.1;have la:∀k,k<=n-> -3000000<=mW f k/\mW f k<=3000000:=λk hk=>by
  have h1:=UI hb k ac;omega
 refine bn func43 O ntmps43 O (bM O) ?_;refine aY O (aR O O (ay O ?_));refine Cd.loop (α:=Nat) (λi=>[(3,aj (mW f i)),(6,.slice A n c),(7,aj n),(8,aj i)]) (λi w'=>w'=w/\i<=n) (λi=>n-i) 0 (auV O) ⟨O,bl _⟩ ?_;rintro i e w ⟨rfl,hi⟩;have h0:=la i hi;refine bC O (aK _ O (λh3=>?_) (λh3=>?_))
 ·have h1:=la (i+1) ac;have h2:mW f (i+1)=mW f i+x9 f i:=O;have h5:=hb _ (gi_in (out:=f) (i:=i) ac);refine aC O (aA hR.2 O (bg hR O (aq O (ak.rem O O O ac (ay O ?_)))));refine aK _ O (λh4=>?_) (λh4=>?_)
  ·have e:x9 f i=gi f i:=by unfold x9;rw[if_pos (by omega)]
   refine aC O (aJ O (aq O (aJ O (aN O (tQ ?_)))));exact⟨i+1,by show n-(i+1)<n-i;omega,⟨by show Value.int .i64 _=aj _;rw[h2,e],O,O,O,au⟩,O,ac⟩
  have e:x9 f i= -gi f i:=by unfold x9;rw[if_neg (by omega)]
  refine aC O (cV O (aq O (aJ O (aN O (tQ ?_)))));exact⟨i+1,by show n-(i+1)<n-i;omega,⟨by show Value.int .i64 _=aj _;rw[h2,e];congr 1,O,O,O,au⟩,O,ac⟩
 have cE:i=f.length:=by omega
 refine ba O (bc (ew O ?_));refine gj O ?_;exact⟨by rw[cE],O⟩
theorem acg(A:ai)(n c:Nat)(rs:List aE)(M:ag)(w:aa)(hR:bH w A n rs M)(hM:eY M)(ni:n<=c)(hc:c<=9223372036854775807)(hb:∀x∈iG M,0<=x/\x<=30000):
 aF prog 16 [.agg #[.slice A n c]] w (λv w'=>v=.tuple #[aj (mW (iG M) (iG M).length),aj 0]/\St w w' []):=by
 have vt:decide (eY M)=true:=dB hM;have hn5:=hM.1;have cT:=hR.len;refine bn func16 O ntmps16 O (mI O) (aY O (rf (St.refl w) O O ?_));intro Ab w1 hS;refine aq O (cG 0 (hS.rd 0 O) O O O (aI (K3 A n c rs M _ (hS.bU hR) ni hc hM) O ?_));rintro _ w2 ⟨rfl,aw⟩;replace hS:=hS.ao aw.below;rw[vt]
 first|refine cO rfl rfl ?_|refine dv rfl rfl ?_
 refine ay O (Cd.cX O (aC O ?_));refine auM (UT Ab A n c rs M _ ((hS.rd 0 rfl).congr λj hj=>by(have hj:j<1:=hj);(obtain rfl:j=0:=by omega);rfl) (hS.bU hR) hM) rfl rfl rfl ?_;rintro _ w3 ⟨A7,c7,rfl,mB⟩;replace hS:=hS.call mB;refine aI (agc A7 n c7 (iG M) _ (hS.bF 0 O) ac hb) O ?_;rintro _ w4 ⟨rfl,rfl⟩;refine bR O (LG O O ?_);exact⟨O,hS.none⟩
end
section
theorem Um:gm 14 zl:=bX an
theorem NJ:iN zl=[1,14,36,24]:=by kernel_rfl
theorem pm0:vd zl:=Dj (ps:=[(0,1),(0,2),(0,6),(1,4),(1,7),(2,3),(2,12),(6,8),(4,5),(4,18),(7,10),(3,13),(12,14),(8,9),(5,19),(18,20),(10,11),(13,16),(14,15),(19,22),(20,21),(16,17),(22,23)]) an
theorem ei0:decide (pk zl)=true:=by kernel_rfl
theorem bt0:wm zl=[1,0,1]:=by kernel_rfl
theorem ck0:qo zl=0:=(Ca Um).2.2.1
theorem en0:mW (iG l9) 3=2:=by kernel_rfl
theorem Un:gm 26 zm:=bX an
theorem NK:iN zm=[1,26,72,48]:=by kernel_rfl
theorem pm1:vd zm:=Dj (ps:=[(0,1),(0,2),(0,6),(1,4),(1,7),(2,3),(2,12),(6,8),(4,5),(4,24),(7,10),(3,13),(12,14),(8,9),(8,18),(5,25),(24,26),(10,11),(10,30),(13,16),(14,15),(14,20),(9,19),(25,28),(26,27),(26,32),(11,31),(16,17),(16,36),(15,21),(19,22),(28,29),(28,38),(27,33),(31,34),(17,37),(21,23),(22,42),(29,39),(33,35),(34,44),(37,40),(23,43),(39,41),(35,45),(40,46),(41,47)]) an
theorem ei1:decide (pk zm)=true:=by kernel_rfl
theorem bt1:wm zm=[1,0,1]:=by kernel_rfl
theorem ck1:qo zm=0:=(Ca Un).2.2.1
theorem en1:mW (iG ma) 3=2:=by kernel_rfl
theorem Uo:gm 26 zn:=bX an
theorem NL:iN zn=[1,26,72,48]:=by kernel_rfl
theorem pm2:vd zn:=Dj (ps:=[(0,1),(0,2),(0,8),(1,4),(1,9),(2,3),(2,16),(8,10),(4,5),(4,24),(9,12),(3,6),(3,17),(16,18),(10,11),(5,7),(5,25),(24,26),(12,13),(6,32),(17,20),(18,19),(11,14),(7,33),(25,28),(26,27),(13,15),(32,34),(20,21),(19,22),(14,40),(33,36),(28,29),(27,30),(15,41),(34,35),(21,23),(22,42),(36,37),(29,31),(30,44),(35,38),(23,43),(37,39),(31,45),(38,46),(39,47)]) an
theorem ei2:decide (pk zn)=true:=by kernel_rfl
theorem bt2:wm zn=[1,0,1]:=by kernel_rfl
theorem ck2:qo zn=0:=(Ca Uo).2.2.1
theorem en2:mW (iG mc) 3=2:=by kernel_rfl
theorem Up:gm 13 zo:=bX an
theorem NM:iN zo=[1,13,36,24]:=by kernel_rfl
theorem pm3:vd zo:=Dj (ps:=[(0,1),(0,2),(0,6),(1,4),(1,7),(2,3),(2,12),(6,8),(4,5),(4,20),(7,10),(3,13),(12,16),(8,9),(8,18),(5,21),(20,23),(10,11),(10,14),(13,15),(16,17),(16,22),(9,19)]) an
theorem ei3:decide (pk zo)=false:=by kernel_rfl
theorem bt3:wm zo=[1,1,1]:=by kernel_rfl
theorem ck3:qo zo=0:=(Ca Up).2.2.1
theorem en3:mW (iG me) 3=1:=by kernel_rfl
theorem Uq:gm 13 zp:=bX an
theorem NO:iN zp=[1,13,36,24]:=by kernel_rfl
theorem pm4:vd zp:=Dj (ps:=[(0,1),(0,2),(0,8),(1,4),(1,9),(2,3),(2,16),(8,10),(4,5),(4,20),(9,12),(3,6),(3,17),(16,18),(10,11),(5,7),(5,21),(20,22),(12,13),(6,14),(17,23),(18,19),(11,15)]) an
theorem ei4:decide (pk zp)=false:=by kernel_rfl
theorem bt4:wm zp=[1,1,1]:=by kernel_rfl
theorem ck4:qo zp=0:=(Ca Uq).2.2.1
theorem en4:mW (iG mf) 3=1:=by kernel_rfl
theorem Ur:gm 16 zq:=bX an
theorem NP:iN zq=[1,16,48,32]:=by kernel_rfl
theorem pm5:vd zq:=Dj (ps:=[(0,1),(0,2),(0,8),(1,4),(1,9),(2,3),(2,16),(8,10),(4,5),(4,18),(9,12),(3,6),(3,17),(16,20),(10,11),(10,24),(5,7),(5,19),(18,21),(12,13),(12,26),(6,14),(17,22),(20,28),(11,25),(7,15),(19,23),(21,29),(13,27),(22,30),(23,31)]) an
theorem ei5:decide (pk zq)=false:=by kernel_rfl
theorem bt5:wm zq=[1,2,1]:=by kernel_rfl
theorem ck5:qo zq=0:=(Ca Ur).2.2.1
theorem en5:mW (iG mg) 3=0:=by kernel_rfl
theorem Us:gm 24 zr:=bX an
theorem NQ:iN zr=[1,24,72,48]:=by kernel_rfl
theorem pm6:vd zr:=Dj (ps:=[(0,1),(0,2),(0,12),(1,4),(1,13),(2,3),(2,24),(12,14),(4,5),(4,36),(13,16),(3,6),(3,25),(24,26),(14,15),(5,8),(5,37),(36,38),(16,17),(6,7),(6,40),(25,28),(26,27),(15,18),(8,9),(8,30),(37,47),(38,39),(17,20),(7,10),(7,41),(40,44),(28,29),(27,32),(18,19),(18,42),(9,11),(9,31),(30,33),(47,46),(39,45),(20,21),(20,34),(10,22),(41,43),(11,23),(31,35)]) an
theorem ei6:decide (pk zr)=false:=by kernel_rfl
theorem bt6:wm zr=[1,2,1]:=by kernel_rfl
theorem ck6:qo zr=0:=(Ca Us).2.2.1
theorem en6:mW (iG mh) 3=0:=by kernel_rfl
end
end Go.Proofs.YtimbpgackifflaaGreatDoor.Vc
