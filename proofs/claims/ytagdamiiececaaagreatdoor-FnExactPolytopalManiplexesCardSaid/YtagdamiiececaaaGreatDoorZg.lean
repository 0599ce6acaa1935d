/-
 Lemmas. Conditions: as each states them.
-/
import Derived.Test.YtagdamiiececaaaGreatDoorZf
import Derived.MapKept
import Derived.Carry
set_option maxHeartbeats 8000000
namespace Go.Proofs.YtagdamiiececaaaGreatDoor.Vc
open Tryz
section
open Go.RowKit
def pv(n:Nat)(R:ah)(B:ag)(E F x:Nat):ah:=
 if x<E then []else(gO R B x).filter fun g=>decide (cI n R B g/\(x=E->g< (F:Int)))
def eh(n:Nat)(R:ah)(B:ag)(E F:Nat):ag:=(List.range R.length).map (pv n R B E F)
def oU(n:Nat)(R:ah)(B:ag)(E F x:Nat):Bool:=
 if x<E then false else if x=E then decide (gi R x=(n:Int) - 1\/∃g∈gO R B x,cI n R B g/\g< (F:Int))else decide (cI n R B x)
def dY(n:Nat)(R:ah)(B:ag)(E F:Nat):List Bool:=(List.range R.length).map (oU n R B E F)
section
variable {n:Nat} {R:ah} {B:ag} {E F x:Nat}
theorem r6:(eh n R B E F).length=R.length:=by simp [eh]
theorem my:(dY n R B E F).length=R.length:=by simp [dY]
theorem Es(h:x<R.length):gl (eh n R B E F) x=pv n R B E F x:=by
 rw [cQ (by rw [r6];exact h)];simp [eh]
theorem ES(h:x<R.length):gb (dY n R B E F) x=oU n R B E F x:=by
 unfold gb;rw [eH,bX,dE (by rw [my];exact h),Option.getD_some];simp [dY]
theorem Ur:eh n R B R.length F=List.replicate R.length []:=by
 refine List.eq_replicate_iff.2 ⟨r6,fun y hy=>?_⟩;obtain⟨x,hx,rfl⟩:=fq.1 hy;unfold pv;rw [aF (iI.1 hx)]
theorem Ld:dY n R B R.length F=List.replicate R.length false:=by
 refine List.eq_replicate_iff.2 ⟨my,fun y hy=>?_⟩;obtain⟨x,hx,rfl⟩:=fq.1 hy;unfold oU;rw [aF (iI.1 hx)]
theorem r7(hP:gf n R B){e g:Int}(h:g∈gO R B e):e<g/\g<R.length:=by
 obtain⟨h1,_,h3⟩:=kI.1 h;exact⟨((hP.at_ h1.1 h1.2).2.1 e h3).1.2,h1.2⟩
theorem Uu(hP:gf n R B)(hE:E<R.length):eh n R B E (E+1)=eh n R B (E+1) R.length:=by
 refine ki fun x hx=>?_
 have hx:=iI.1 hx;unfold pv
 by_cases c1:x<E
 ·rw [aF c1,aF (by omega)]
 rw [aB c1]
 by_cases c2:x=E
 ·subst c2;rw [aF (by omega),List.filter_eq_nil_iff];intro g hg h;have h3:=(kc h).2 O;have:=r7 hP hg;omega
 rw [aB (by omega)];refine List.filter_congr fun g hg=>gJ.2 ?_
 have:=r7 hP hg;exact⟨fun h=> ⟨h.1,fun _=>by omega⟩,fun h=> ⟨h.1,fun h=>absurd h c2⟩⟩
theorem Ut(h:¬(cI n R B F/\(F:Int)∈gO R B E)):eh n R B E (F+1)=eh n R B E F:=by
 refine ki fun x hx=>?_
 unfold pv
 by_cases c1:x<E
 ·rw [aF c1,aF c1]
 rw [aB c1,aB c1];refine List.filter_congr fun g hg=>gJ.2 ⟨fun h2=> ⟨h2.1,fun e=>?_⟩,fun h2=> ⟨h2.1,fun e=>by have:=h2.2 e;omega⟩⟩
 have h3:=h2.2 e;subst e;have:g≠(F:Int):=fun e=>h ⟨e▸h2.1,e▸hg⟩
 omega
theorem Us(hE:E<R.length)(h:cI n R B F/\(F:Int)∈gO R B E):(eh n R B E F).set E (gl (eh n R B E F) E++ [(F:Int)])=eh n R B E (F+1):=by
 apply gj (by rw [iS,r6,r6]);intro x h1 h2;rw [r6]at h2;have e2:∀d' (hx:x< (eh n R B E d').length),(eh n R B E d')[x]=pv n R B E d' x:=fun d' hx=>by simp [eh]
 rw [List.getElem_set,e2 (F+1) (by rw [r6];exact h2),e2 F (by rw [r6];exact h2)]
 by_cases c:E=x
 ·subst c;rw [aF rfl,Es hE];unfold pv;rw [aB (Nat.lt_irrefl _),aB (Nat.lt_irrefl _)];have hs:=xe R B E;refine SA.eq ?_ (lL _ hs) fun y=>?_
  ·rw [SA,List.pairwise_append];refine⟨lL _ hs,List.pairwise_singleton _ _,fun a ha b hb=>?_⟩;obtain rfl:=fQ.1 hb;exact(kc (eO.1 ha).2).2 O
  rw [gQ,eO,eO,fQ];simp only [jj];constructor
  ·rintro(⟨h3,h4,h5⟩ | rfl)
   ·exact⟨h3,h4,fun e=>by have:=h5 e;omega⟩
   exact⟨h.2,h.1,fun _=>by omega⟩
  rintro⟨h3,h4,h5⟩
  by_cases e3:y=(F:Int)
  ·exact .inr e3
  exact .inl ⟨h3,h4,fun e=>by have:=h5 e;omega⟩
 rw [aB c];unfold pv
 by_cases c1:x<E
 ·rw [aF c1,aF c1]
 rw [aB c1,aB c1];exact List.filter_congr fun g hg=>gJ.2 ⟨fun h2=> ⟨h2.1,fun e=>absurd e.symm c⟩,fun h2=> ⟨h2.1,fun e=>absurd e.symm c⟩⟩
theorem ET{x:Nat}(hP:gf n R B)(hx:x<R.length)(h:(gi R x=(n:Int) - 1\/∃g∈gO R B x,cI n R B g/\g< (R.length:Int))):cI n R B x:=by
 rcases h with h | ⟨g,h1,h2,_⟩
 ·exact EW h
 have h3:=(kI.1 h1);have:=hP.ri h3.1.1 h3.1.2;have:=hP.ri (e:=(x:Int)) (by omega) (by omega);exact(xu (by omega) (by omega)).2 ⟨g,h1,h2⟩
theorem EU{x:Nat}(hP:gf n R B)(hx:x<R.length)(h:cI n R B x):(gi R x=(n:Int) - 1\/∃g∈gO R B x,cI n R B g/\g< (R.length:Int)):=by
 have:=hP.ri (e:=(x:Int)) (by omega) (by omega)
 by_cases c:gi R x=(n:Int) - 1
 ·exact .inl c
 obtain⟨g,h1,h2⟩:=(xu (by omega) (by omega)).1 h;exact .inr ⟨g,h1,h2,(r7 hP h1).2⟩
theorem Lg(hP:gf n R B)(hE:E<R.length):(dY n R B (E+1) R.length).set E (decide (gi R E=(n:Int) - 1))=dY n R B E (E+1):=by
 apply gj (by rw [iS,my,my]);intro x h1 h2;rw [my]at h2;have e2:∀e' d' (hx:x< (dY n R B e' d').length),(dY n R B e' d')[x]=oU n R B e' d' x:=fun e' d' hx=>by simp [dY]
 rw [List.getElem_set,e2 _ _ (by rw [my];exact h2),e2 _ _ (by rw [my];exact h2)];unfold oU
 by_cases c:E=x
 ·subst c;rw [aF rfl,aB (Nat.lt_irrefl _),aF rfl];refine gJ.2 ⟨fun h=> .inl h,fun h=>?_⟩;rcases h with h | ⟨g,h3,_,h4⟩
  ·exact h
  have:=r7 hP h3;omega
 rw [aB c]
 by_cases c1:x<E
 ·rw [aF (by omega),aF c1]
 rw [aB (by omega),aB c1,aB (show ¬x=E from fun e=>c e.symm)]
 split
 ·refine gJ.2 ⟨fun h=>ET hP h2 h,fun h=>EU hP h2 h⟩
 rfl
theorem Lf(h:¬(cI n R B F/\(F:Int)∈gO R B E)):dY n R B E (F+1)=dY n R B E F:=by
 refine ki fun x hx=>?_
 unfold oU
 by_cases c1:x<E
 ·rw [aF c1,aF c1]
 rw [aB c1,aB c1]
 by_cases c2:x=E
 ·subst c2;rw [aF rfl,aF rfl];refine gJ.2 (or_congr Iff.rfl ⟨?_,?_⟩)
  ·rintro⟨g,h1,h2,h3⟩;have:g≠(F:Int):=fun e=>h ⟨e▸h2,e▸h1⟩
   exact⟨g,h1,h2,by omega⟩
  rintro⟨g,h1,h2,h3⟩;exact⟨g,h1,h2,by omega⟩
 rw [aB c2,aB c2]
theorem Le(hE:E<R.length)(h:cI n R B F/\(F:Int)∈gO R B E):(dY n R B E F).set E true=dY n R B E (F+1):=by
 apply gj (by rw [iS,my,my]);intro x h1 h2;rw [my]at h2;have e2:∀e' d' (hx:x< (dY n R B e' d').length),(dY n R B e' d')[x]=oU n R B e' d' x:=fun e' d' hx=>by simp [dY]
 rw [List.getElem_set,e2 _ _ (by rw [my];exact h2),e2 _ _ (by rw [my];exact h2)];unfold oU
 by_cases c:E=x
 ·subst c;rw [aF rfl,aB (Nat.lt_irrefl _),aF rfl];exact(dF (.inr ⟨_,h.2,h.1,by omega⟩)).symm
 rw [aB c]
 by_cases c1:x<E
 ·rw [aF c1,aF c1]
 rw [aB c1,aB c1,aB (fun e=>c e.symm),aB (fun e=>c e.symm)]
theorem Lc(hP:gf n R B)(sr:E<F)(hF:F<R.length):gb (dY n R B E F) F=decide (cI n R B F):=by
 rw [ES hF];unfold oU;rw [aB (by omega),aB (by omega)]
theorem Lb(hP:gf n R B)(hx:x<R.length):gb (dY n R B 0 R.length) x=decide (cI n R B x):=by
 rw [ES hx];unfold oU;rw [aB (by omega)]
 split
 ·exact gJ.2 ⟨fun h=>ET hP hx h,fun h=>EU hP hx h⟩
 rfl
theorem Ka(hP:gf n R B)(hx:x<R.length):gl (eh n R B 0 R.length) x=(gO R B x).filter fun g=>decide (cI n R B g):=by
 rw [Es hx];unfold pv;rw [aB (by omega)];refine List.filter_congr fun g hg=>gJ.2 ⟨fun h=>h.1,fun h=> ⟨h,fun _=> (r7 hP hg).2⟩⟩
theorem vy{α β:Type}{f g:α->List β}:∀ {l:List α},(∀x∈l,f x=g x)->l.flatMap f=l.flatMap g
 | [],_=>rfl
 | a::r,h=>by rw [List.flatMap_cons,List.flatMap_cons,h a (List.mem_cons_self ..),vy fun x hx=>h x (n4 _ hx)]
theorem FB(hP:gf n R B):∀(k:Nat) (e:Int),0<=e->e<R.length->(gi R e).toNat+k=n - 1->pN (eh n R B 0 R.length) k e=km R B k e
 | 0,_,_,_,_=>rfl
 | k+1,e,h0,h1,h2=>by
  have hr:=hP.ri h0 h1;obtain⟨x,rfl⟩:∃x:Nat,e=x:=⟨e.toNat,by omega⟩;rw [pN,Ka hP (by omega),Kg hr.1 (by omega)];refine vy fun f hf=>?_
  have hf:=(kI.1 (eO.1 hf).1);rw [FB hP k f hf.1.1 hf.1.2 (by omega)]
theorem Ni(hn:1<=n)(hP:gf n R B):jl (eh n R B 0 R.length) (n - 1) [] ((pH R).filter fun f=>decide (cI n R B f))=bZ n R B:=by
 rw [E9];unfold jl;refine vy fun e he=>?_
 have he:=sg.1 (eO.1 he).1;rw [FB hP _ e he.1.1 he.1.2 (by omega)]
 rfl
theorem LO{m:Nat}(hm:m<R.length):((cL (m+1)).filter fun e=>decide (gi R e=0) && decide (cI n R B e))=((cL m).filter fun e=>decide (gi R e=0) && decide (cI n R B e))++ (if gi R m=0/\cI n R B m then [(m:Int)]else []):=by
 unfold cL;rw [lg,iT,mn]
 congr 1
 by_cases c:gi R m=0/\cI n R B m
 ·rw [aF c];simp [c.1,c.2]
 rw [aB c];rw [List.filter_eq_nil_iff];intro a ha h;obtain rfl:=fQ.1 ha;simp at h;exact c h
theorem LN:((cL R.length).filter fun e=>decide (gi R e=0) && decide (cI n R B e))=(pH R).filter fun f=>decide (cI n R B f):=by
 unfold pH;rw [List.filter_filter];exact List.filter_congr fun x _=>Bool.and_comm _ _
end
def sk(n:Nat)(R:ah)(B:ag):ag:=if(bZ n R B).length<=400 then bZ n R B else []
def sj(n:Nat)(R:ah)(B:ag):Int:=if(bZ n R B).length<=400 then 0 else 3
abbrev oj(A1 PU Au db:ai)(n:Nat)(A D:ai)(N cA cD:Nat)(al:List Bool)(cH:List aH)(U:ag):List Ck:=
 dC 4 db N N al::Bx 25 1 PU [.slice Au N N]::bD A1 n A N cA D N cD::(aW 24 2 Au N N cH U++ [])
theorem MW(n:Nat)(A D:ai)(cA cD:Nat)(R:ah)(rs:List aH)(B:ag)(w:aa)(hR:bS w A R.length R)(hB:bu w D B.length rs B)(hP:gf n R B):
 aG prog 56 [.agg #[aj n,.slice A R.length cA,.slice D B.length cD]] w (xh (sk n R B) (sj n R B) w):=by
 have hn:=hP.n1;have jE:=hP.qL;have hle:=hP.len;have bw:=fun e (h:e<R.length)=>hP.row e h
 have cT:∀e:Nat,e<R.length->(gl B e).length<=500:=fun e h=>by
  have:=oH (N:=R.length) (bw e h).1.nodup fun x hx=> ((bw e h).2 x hx).1
  omega
 have Dn:∀E F:Nat,(eh n R B E F).length=R.length:=fun E F=>r6
 have kX:∀E F:Nat,(dY n R B E F).length=R.length:=fun E F=>my
 have HY:=fun E (h:E<R.length)=>Uu (n:=n) hP h
 have HX:=fun E (h:E<R.length)=>Lg (n:=n) hP h
 have Hm:=Ur (n:=n) (R:=R) (B:=B) (F:=R.length);have Hn:=Ld (n:=n) (R:=R) (B:=B) (F:=R.length);have yl:=fun E F (h:E<F) (hF:F<R.length)=>Lc (n:=n) hP h hF
 have rC:=fun E F (hE:E<R.length) h=>Us (n:=n) (R:=R) (B:=B) (E:=E) (F:=F) hE h
 have HK:=fun E F (hE:E<R.length) h=>Le (n:=n) (R:=R) (B:=B) (E:=E) (F:=F) hE h
 have BC:bu w D R.length rs B:=hle▸hB;have O7:=Ik n A D cA cD R rs B w hR hB hP;have lu:=fun x (h:x<R.length)=>Lb (n:=n) hP h
 have H3:=fun x (h:x<R.length)=>Ka (n:=n) hP h
 have Hl:=Ni (n:=n) (by omega) hP;have G4:=fun m (h:m<R.length)=>LO (n:=n) (B:=B) h
 have yb:=LN (n:=n) (R:=R) (B:=B);have H4:=fun(e f:Int)=>kI (R:=R) (B:=B) (e:=e) (f:=f)
 obtain⟨N,hN⟩:∃N,R.length=N:=⟨_,rfl⟩;rw [hN]at hR jE hle bw cT BC HY HX Hm Hn yl rC HK lu H3 Hl G4 yb;simp only [hN]at Dn kX H4;rw [hN,hle]at O7|-;refine bs func56 O ntmps56 O (mV O) (aY O (nh (St.refl w) O O ?_));intro A1 w1 aD;have h1:Rd w1 A1 3 (fun j=> [Value.int .i64 (n:Int),.slice A N cA,.slice D N cD].getD j undef):=aD.rd 0 O;refine aq O (ak.dz 2 h1 O O O ?_);refine Wh (Ik n A D cA cD R rs B w1 (by rw [hN];exact aD.dh hR) (by rw [hle];exact aD.bE BC) hP) O (by rw [hN,hle];rfl) O ?_;rintro _ w2 ⟨rfl,ax⟩;have ay:=aD.ao ax.below;have h1:=Rd.below h1 ax.below;clear ax aD
 first | refine dv rfl rfl ?_ | refine eJ rfl rfl ?_
 refine aA O (Cd.dO O (aC O (aT h1 O (a7 h1 O (aO (tt _ _ _ _) O ?_)))));rintro _ w2 ⟨rfl,rfl⟩;refine aq O (xo N ay O O (by omega) ?_);intro Au w3 aL;have aL:St w w3 ([aQ 24 Au N N (List.replicate N bA),bD A1 n A N cA D N cD]):=aL;refine ak.new (z:= .slice none 0 0) aL O O ?_;intro PU w4 aN;refine ak.st (i:=0) (j:=0) aN O (by exact aS Value.pointer (jJ _).symm) O O (Nat.succ_pos _) ?_;intro w5 aV;have aV:St w w5 (Bx 25 1 PU [.slice Au N N]::[aQ 24 Au N N (List.replicate N bA),bD A1 n A N cA D N cD]):=aV;refine aq O (pD (v:=false) N aV O O (by omega) ?_);intro db w6 bg;have bg:=wO (t:=2) N bg;have bm:St w w6 (oj A1 PU Au db n A D N cA cD (dY n R B N N) (List.replicate N bA) (eh n R B N N)):=by
  rw [Hm,Hn];refine bg.perm ?_
  classical
  refine nb.2 fun z=>?_
  simp only [oj,aW,nY,mm,pA];omega
 clear bg aV aN aL ay h1;refine aq O (gH O O O (by omega) (aA O ?_));refine Cd.loop (α:=Nat×List aH) (fun z=> [(1,.pointer A1),(4,aj N),(5,.pointer PU),(6,.slice db N N),(7,aj ((z.1:Int) - 1))]) (fun z w'=>z.1<=N/\z.2.length=N/\St w w' (oj A1 PU Au db n A D N cA cD (dY n R B z.1 N) z.2 (eh n R B z.1 N))) (fun z=>z.1) (N,List.replicate N bA) (Wn O) ⟨cO _,by simp,bm⟩ ?_;clear bm;rintro⟨E',cH⟩ e w7 ⟨hE,pe,hS⟩;dsimp only at hE pe hS|-;refine bH O (aJ _ O (fun h2=>?_) (fun h2=>?_))
 ·obtain⟨E,rfl⟩:∃E,E'=E+1:=⟨E' - 1,by omega⟩;have lT:E<N:=by omega
  rw [show((E+1:Nat):Int) - 1=(E:Int) by omega];have GG:=hS.dh hR;have hal7:=kX (E+1) N;refine cj O ?_;refine jc [12] [yS (db) (N) (N),yI ((E:Int)),yP (az (A1) 1),yS (A) (N) (cA),yI ((E:Int)),yP (az (A) ((E:Int)).toNat),yI (gi (R) ((E:Int))),yP (az (A1) 0),yI ((n:Int)),yI (((n:Int)) - ((1:Int))),yB (decide ((gi (R) ((E:Int)))=(((n:Int)) - ((1:Int))))),yP (az (db) ((E:Int)).toNat),.pr (fun _ w'=>St w w' (oj A1 PU Au db n A D N cA cD ((dY n R B (E+1) N).set E (decide (gi R E=(n:Int) - 1))) cH (eh n R B (E+1) N)))] (by kernel_rfl) (by kernel_rfl) (ly (ly (ly (ly (ly (ly (ly (ly (ly (ly (ly (ly (cq.2 ⟨Ye.ct (fun v w w' h hb=>h.ao hb),(fun _ h=>by cases h)⟩))))))))))))) ?_ ?_
  ·refine⟨b8 O,b8 O,cP fun _ _ hb _ _ _=>aT ((hS.rd 2 O).below hb) O (bJ O O),cP fun _ _ hb _ _ _=>a7 ((hS.rd 2 O).below hb) O (bJ O O),b8 O,cP fun _ _ hb _ _ _=>aw (GG.ao hb).2 O (bJ O O),cP fun _ _ hb _ _ _=>a6 (GG.ao hb) O (bJ O O),cP fun _ _ hb _ _ _=>aT ((hS.rd 2 O).below hb) O (bJ O O),cP fun _ _ hb _ _ _=>kk ((hS.rd 2 O).below hb) O O O O O (bJ O O),aP fun _ _=>gH O O O (by omega) (bJ O O),b8 O,cP fun _ _ hb _ _ _=>aw ((hS.fm 0 O).ao hb).2 O (bJ O O),?_,av⟩;refine jh fun e1 w1 hb hp aZ hq=>?_
   exact mw 0 (hS.ao hb) O O O (by omega) fun w6 bg=>ak.n (eA.st O bg)
  intro u w8 _ hu l6 Qb;have bI:=hu 12 _ O (by kernel_rfl);rw [HX E lT,<-HY E lT]at bI;clear hS hu l6 Qb;refine ib O (aI O (aA O ?_));refine Cd.loop (α:=Nat×List aH) (fun z=> [(1,.pointer A1),(4,aj N),(5,.pointer PU),(6,.slice db N N),(7,aj E),(8,aj (z.1:Int))]) (fun z w'=> (E<z.1/\z.1<=N)/\z.2.length=N/\St w w' (oj A1 PU Au db n A D N cA cD (dY n R B E z.1) z.2 (eh n R B E z.1))) (fun z=>N - z.1) (E+1,cH) (Wn O) ⟨⟨Nat.lt_succ_self _,by show E+1<=N;omega⟩,pe,bI⟩ ?_;clear bI pe cH;rintro⟨F,cH⟩ e w9 ⟨⟨sr,NR⟩,pe,hS⟩;dsimp only at sr NR pe hS|-;refine bH O (aJ _ O (fun h3=>?_) (fun h3=>?_))
  ·have hF:F<N:=by omega
   have ra:=hS.dh hR;have BB:=hS.bE BC;have hal9:=kX E F;have p7:=yl E F sr hF;have PN:=bw F hF;have Dp:=H4 (E:Int) (F:Int);have dt:=hP.ri (e:=(E:Int)) (by omega) (by omega);have h1:Rd w9 A1 3 (fun j=> [Value.int .i64 (n:Int),.slice A N cA,.slice D N cD].getD j undef):=hS.rd 2 O;have Cj:gb (dY n R B E F) F=false\/(gb (dY n R B E F) F=true/\¬gi R F=gi R E+1)\/(gb (dY n R B E F) F=true/\gi R F=gi R E+1):=by
    cases gb (dY n R B E F) F<;>simp [Decidable.em,Classical.em]
    exact(Classical.em _).symm
   have nJ:¬(cI n R B F/\(F:Int)∈gO R B E)->St w w9 (oj A1 PU Au db n A D N cA cD (dY n R B E (F+1)) cH (eh n R B E (F+1))):=fun h=>by
    rw [Lf h,Ut h];exact hS
   rcases Cj with hg | ⟨hg,hr⟩ | ⟨hg,hr⟩
   ·
    have eD:¬(cI n R B F/\(F:Int)∈gO R B E):=fun h=>by
     rw [hg]at p7;have:=dF h.1;rw [<-p7]at this;cases this
    refine cj O (cN [xS (db) (N) (N),xI ((F:Int)),xP (az (db) ((F:Int)).toNat),xB (gb (dY n R B E F) ((F:Int))),xB (false),xU,xU,xU,xU,xU,xU,xU,xU,xU,xU,xU,xU,xB (false),xB (false),xU,xU,xU,xB (false)] O (da O) ?_ ?_)
    ·exact⟨Dr O,Dr O,fun _ _ hb _ _=>aw ((hS.fm 0 O).ao hb).2 O Az,fun _ _ hb _ _=>lh ((hS.fm 0 O).ao hb) O (by omega) O O Az,fun _ _ _ _ _=>Dk O (by exact aS Value.bool (hg)),Dr O,Dr O,Dr O,Dr O,Dr O,Dr O,Dr O,Dr O,Dr O,Dr O,Dr O,Dr O,Dr O,fun _ _ _ _ _=>Dk O (by exact aS Value.bool (O)),Dr O,Dr O,Dr O,Dr O,av⟩
    intro u dW hb _;refine dM O (Cd.dO O ?_);refine aC O (aI O (aM O (tQ ?_)));exact⟨(F+1,cH),by show N - (F+1)<N - F;omega,(Wn O),⟨Nat.lt_succ_of_lt sr,hF⟩,pe,(nJ eD).ao hb⟩
   ·have eD:¬(cI n R B F/\(F:Int)∈gO R B E):=fun h=>hr (Dp.1 h.2).2.1
    refine cj O ?_;refine cN [xS (db) (N) (N),xI ((F:Int)),xP (az (db) ((F:Int)).toNat),xB (gb (dY n R B E F) ((F:Int))),xB (true),xP (az (A1) 1),xS (A) (N) (cA),xI ((F:Int)),xP (az (A) ((F:Int)).toNat),xI (gi (R) ((F:Int))),xP (az (A1) 1),xS (A) (N) (cA),xI ((E:Int)),xP (az (A) ((E:Int)).toNat),xI (gi (R) ((E:Int))),xI ((gi (R) ((E:Int)))+ ((1:Int))),xB (decide ((gi (R) ((F:Int)))=((gi (R) ((E:Int)))+ ((1:Int))))),xB (decide ((gi (R) ((F:Int)))=((gi (R) ((E:Int)))+ ((1:Int))))),xB (false),xU,xU,xU,xB (false)] O (da O) ?_ ?_
    ·exact⟨Dr O,Dr O,fun _ _ hb _ _=>aw ((hS.fm 0 O).ao hb).2 O Az,fun _ _ hb _ _=>lh ((hS.fm 0 O).ao hb) O (by omega) O O Az,fun _ _ _ _ _=>Dk O (by exact aS Value.bool (hg)),fun _ _ hb _ _=>ar O (aT (h1.below hb) O Az),fun _ _ hb _ _=>ar O (a7 (h1.below hb) O Az),Dr O,fun _ _ hb _ _=>ar O (aw (ra.ao hb).2 O Az),fun _ _ hb _ _=>ar O (a6 (ra.ao hb) O Az),fun _ _ hb _ _=>ar O (aT (h1.below hb) O Az),fun _ _ hb _ _=>ar O (a7 (h1.below hb) O Az),Dr O,fun _ _ hb _ _=>ar O (aw (ra.ao hb).2 O Az),fun _ _ hb _ _=>ar O (a6 (ra.ao hb) O Az),fun _ _ _ _ _=>ar O (aI O Az),Dr O,Dr O,fun _ _ _ _ _=>Dk O (by exact aS Value.bool (cb hr)),Dr O,Dr O,Dr O,Dr O,av⟩
    intro u dW hb _;refine dM O (Cd.dO O ?_);refine aC O (aI O (aM O (tQ ?_)));exact⟨(F+1,cH),by show N - (F+1)<N - F;omega,(Wn O),⟨Nat.lt_succ_of_lt sr,hF⟩,pe,(nJ eD).ao hb⟩
   have ha:cI n R B F:=kc (p7▸hg);refine cj O ?_;refine cN [xS (db) (N) (N),xI ((F:Int)),xP (az (db) ((F:Int)).toNat),xB (gb (dY n R B E F) ((F:Int))),xB (true),xP (az (A1) 1),xS (A) (N) (cA),xI ((F:Int)),xP (az (A) ((F:Int)).toNat),xI (gi (R) ((F:Int))),xP (az (A1) 1),xS (A) (N) (cA),xI ((E:Int)),xP (az (A) ((E:Int)).toNat),xI (gi (R) ((E:Int))),xI ((gi (R) ((E:Int)))+ ((1:Int))),xB (decide ((gi (R) ((F:Int)))=((gi (R) ((E:Int)))+ ((1:Int))))),xB (decide ((gi (R) ((F:Int)))=((gi (R) ((E:Int)))+ ((1:Int))))),xB (true),xI ((E:Int)),xI ((F:Int)),xB (decide ((E:Int)∈gl B F)),xB (decide ((E:Int)∈gl B F))] O (da O) ?_ ?_
   ·refine⟨Dr O,Dr O,fun _ _ hb _ _=>aw ((hS.fm 0 O).ao hb).2 O Az,fun _ _ hb _ _=>lh ((hS.fm 0 O).ao hb) O (by omega) O O Az,fun _ _ _ _ _=>Dk O (by exact aS Value.bool (hg)),fun _ _ hb _ _=>ar O (aT (h1.below hb) O Az),fun _ _ hb _ _=>ar O (a7 (h1.below hb) O Az),Dr O,fun _ _ hb _ _=>ar O (aw (ra.ao hb).2 O Az),fun _ _ hb _ _=>ar O (a6 (ra.ao hb) O Az),fun _ _ hb _ _=>ar O (aT (h1.below hb) O Az),fun _ _ hb _ _=>ar O (a7 (h1.below hb) O Az),Dr O,fun _ _ hb _ _=>ar O (aw (ra.ao hb).2 O Az),fun _ _ hb _ _=>ar O (a6 (ra.ao hb) O Az),fun _ _ _ _ _=>ar O (aI O Az),Dr O,Dr O,fun _ _ _ _ _=>Dk O (by exact aS Value.bool (dF hr)),Dr O,Dr O,?_,Dr O,av⟩;intro e1 w1 hb hp aZ;refine ar O ?_;refine aO (oB A1 A D cA cD n R rs B E F _ (by rw [hN,hle];exact Rd.below h1 hb) (by rw [hle];exact BB.ao hb) (by omega) PN.1 (by have:=cT F hF;omega)) O ?_;rintro _ w2 ⟨rfl,ax⟩;subst ax;refine ak.n (d0 (by exact O))
   intro u dW hb _;have cJ:=hS.ao hb;refine dM O (aJ _ O (fun h4=>?_) (fun h4=>?_))
   ·have fy:cI n R B F/\(F:Int)∈gO R B E:=⟨ha,Dp.2 ⟨by omega,hr,h4⟩⟩;have Qc:=Dn E F;have iD:bu dW Au N cH (eh n R B E F):=by
     have h9:=cJ.sub (show(aW 24 2 Au N N cH (eh n R B E F)).Sublist _ from(((nc _ _).cons _).cons _).cons _);exact h9.nQ Qc
    have uE:=(iD.at_ (i:=(E:Int)) (by omega) (by omega)).1;have eM:(rg cH E).n<=500:=by
     rw [<-uE,Es (by omega)];unfold pv
     split
     ·exact bk _
     refine gm (jN _ _) ?_;have:=oH (N:=R.length) (xe R B E).nodup fun x hx=> (kI.1 hx).1
     omega
    have G0:Rd dW PU 1 (fun _=> .slice Au N N):=jf (cJ.rd 1 O);have mL:∀A9:ai,(aE 2 A9 1 1 [(F:Int)]::oj A1 PU Au db n A D N cA cD (dY n R B E F) cH (eh n R B E F))[4+1+E]?=some (aE 2 (rg cH E).a (rg cH E).n (rg cH E).c (gl (eh n R B E F) E)):=fun A9=>rO (t1:=24) (t2:=2) (A:=Au) (n:=N) (c:=N) (rs:=cH) (xss:=eh n R B E F) (pre:=[aE 2 A9 1 1 [(F:Int)],dC 4 db N N (dY n R B E F),Bx 25 1 PU [.slice Au N N],bD A1 n A N cA D N cD]) (ks:=[]) (i:=E) (by omega) (by omega)
    have mJ:=fun(A9:ai) (s:aH) (xs:ah)=>DN (t1:=24) (t2:=2) (A:=Au) (n:=N) (c:=N) (rs:=cH) (xss:=eh n R B E F) (ks:=[]) (pre:=[aE 2 A9 1 1 [(F:Int)],dC 4 db N N (dY n R B E F),Bx 25 1 PU [.slice Au N N],bD A1 n A N cA D N cD]) (i:=E) s xs (by omega) (by omega)
    clear hS;refine cj O ?_;refine jc [8,10] [yS Au N N,yI ((E:Int)),yS (Au) (N) (N),yI ((E:Int)),yP (az (Au) ((E:Int)).toNat),yS ((rg (cH) ((E:Int))).a) ((rg (cH) ((E:Int))).n) ((rg (cH) ((E:Int))).c),yI ((F:Int)),.pr (fun v w'=>∃A9,v= .slice A9 1 1/\St w w' (aE 2 A9 1 1 [(F:Int)]::oj A1 PU Au db n A D N cA cD (dY n R B E F) cH (eh n R B E F))),.pr (fun v w'=>∃AZ cZ,v= .slice AZ ((rg cH E).n+1) cZ/\St w w' (dC 4 db N N (dY n R B E F)::Bx 25 1 PU [.slice Au N N]::bD A1 n A N cA D N cD::(aQ 24 Au N N cH::(cw 2 (cH.set E ⟨AZ,(rg cH E).n+1,cZ⟩) ((eh n R B E F).set E (gl (eh n R B E F) E++ [(F:Int)]))++ [])))),yP (az Au ((E:Int)).toNat),.pr (fun _ w'=>∃AZ cZ,St w w' (oj A1 PU Au db n A D N cA cD (dY n R B E F) (cH.set E ⟨AZ,(rg cH E).n+1,cZ⟩) ((eh n R B E F).set E (gl (eh n R B E F) E++ [(F:Int)]))))] (by kernel_rfl) (by kernel_rfl) (ly (ly (ly (ly (ly (ly (ly (cq.2 ⟨Ye.ct (fun v w w' h hb=>by obtain⟨A9,hv,hT⟩:=h;exact⟨A9,hv,hT.ao hb⟩),(cq.2 ⟨Ye.ct (fun v w w' h hb=>by obtain⟨AZ,cZ,hv,hT⟩:=h;exact⟨AZ,cZ,hv,hT.ao hb⟩),(ly (cq.2 ⟨Ye.ct (fun v w w' h hb=>by obtain⟨AZ,cZ,hT⟩:=h;exact⟨AZ,cZ,hT.ao hb⟩),(fun _ h=>by cases h)⟩))⟩)⟩)))))))) ?_ ?_
    ·refine⟨?_,b8 O,cP fun _ _ hb _ _ _=>Wm (j:=0) (G0.below hb) (by exact aS Value.pointer (jJ _).symm) O O O O (bJ O O),b8 O,cP fun _ _ hb _ _ _=>aw (iD.top.ao hb).2 O (bJ O O),cP fun _ _ hb _ _ _=>bn (iD.top.ao hb) O (bJ O O),b8 O,?_,?_,?_,?_,av⟩
     ·intro e1 w1 cc en cC dq hp aZ hq;show ak _ _ _ _ _ _ _;have hX:Rd w1 PU 1 (fun _=> .slice Au N N):=by { have cC:=k7 cC (b:=1) (by kernel_rfl);rcases(show cc=0\/cc=1 by omega)with h | h; { exact Rd.below G0 (dq h) }; { subst h;obtain⟨AZ,cZ,_,hT⟩:=hq 8 _ _ (by kernel_rfl) (by kernel_rfl) (by kernel_rfl) rfl rfl (by kernel_rfl);exact jf (hT.rd 1 rfl) } }
      refine Wm (j:=0) hX (by exact aS Value.pointer (jJ _).symm) O O O O (ak.n (fO O (by exact O)))
     ·refine cP fun e1 w1 hb hp aZ hq=>?_
      exact e6 (St.refl _) O O O fun A9 w9 ax=>ak.n (eS.dn O ax.below ⟨A9,O,(cJ.ao hb).call ax⟩)
     ·refine jh fun e1 w1 hb hp aZ hq=>?_
      obtain⟨A9,NJ,hT⟩:=(hp 7 _ _ (by kernel_rfl) rfl rfl (by kernel_rfl));refine fS (4+1+E) hT (mL A9) (hT.bU 0 O) O (by exact NJ) O (by omega) (by omega) O ?_;intro AZ cZ wZ hZ;have hZ:=(mJ A9 ⟨AZ,(rg cH E).n+1,cZ⟩ (gl (eh n R B E F) E++ [(F:Int)]))▸hZ;exact ak.n (eA.dn O ⟨AZ,cZ,O,hZ.tail⟩)
     ·intro e1 w1 cc en cC dq hp aZ hq;show ak _ _ _ _ _ _ _;have hX:eU w1 Au N cH:=by { have cC:=k7 cC (b:=1) (by kernel_rfl);rcases(show cc=0\/cc=1 by omega)with h | h; { exact iD.top.ao (dq h) }; { subst h;obtain⟨AZ,cZ,_,hT⟩:=hq 8 _ _ (by kernel_rfl) (by kernel_rfl) (by kernel_rfl) rfl rfl (by kernel_rfl);exact hT.dB 3 rfl } }
      refine aw hX.2 O (ak.n (fO O (by exact O)))
     refine mD 1 fun e1 w1 hp aZ hq=>?_
     have cS:=hp 8 _ _ (by kernel_rfl) O O (by kernel_rfl);obtain⟨AZ,cZ,NK,hT⟩:=cS;refine tF (te:=24) (n:=N) (c:=N) (A:=Au) (xs:=cH) 3 hT O O (by exact NK) (by omega) ?_;intro wY hY;exact ak.n (eA.st O ⟨AZ,cZ,hY⟩)
    intro u uX _ hu _ _;obtain⟨AZ,cZ,hT⟩:=hu 10 _ rfl (by kernel_rfl);rw [rC E F lT fy]at hT;refine ib O (aw (hT.fm 0 O).2 O (mw 0 hT O O O (by omega) ?_));intro r8 jC;rw [eH,HK E F lT fy]at jC;refine aq O (aI O (aM O (tQ ?_)));exact⟨(F+1,_),by show N - (F+1)<N - F;omega,(Wn O),⟨Nat.lt_succ_of_lt sr,hF⟩,by simp [pe],jC⟩
   have eD:¬(cI n R B F/\(F:Int)∈gO R B E):=fun h=>h4 (Dp.1 h.2).2.2
   refine aC O (aI O (aM O (tQ ?_)));exact⟨(F+1,cH),by show N - (F+1)<N - F;omega,(Wn O),⟨Nat.lt_succ_of_lt sr,hF⟩,pe,(nJ eD).ao hb⟩
  have hF:F=N:=by omega
  subst hF;refine bj O (bl (cn O (gH O O O (by omega) (aM O (tQ ?_)))));exact⟨(E,cH),by show E<E+1;omega,(Wn O),by show E<=F;omega,pe,hS⟩
 obtain rfl:E'=0:=by omega
 refine bj O (bl (cn O ?_));refine ak.new (z:= .slice none 0 0) hS O O fun PF w8 bI=>aq O (ak.new (z:= .nilFunc) bI O O ?_);intro PG w9 bO;refine aq O (KU O O O O O (ak.st (i:=0) (j:=0) bO O (by exact aS Value.pointer (jJ _).symm) O O (Nat.succ_pos _) ?_));intro dW cJ;have cJ:=(cJ.nil 2);clear bO bI hS;refine aA O (Cd.loop (α:=Nat×ai×Nat) (fun z=> [(1,.pointer A1),(4,aj N),(6,.slice db N N),(9,.pointer PF),(10,.pointer PG),(11,.slice z.2.1 ((cL z.1).filter fun e=>decide (gi R e=0) && decide (cI n R B e)).length z.2.2),(85,aj N),(86,aj (z.1:Int))]) (fun z w'=>z.1<=N/\St w w' (aE 2 z.2.1 ((cL z.1).filter fun e=>decide (gi R e=0) && decide (cI n R B e)).length z.2.2 ((cL z.1).filter fun e=>decide (gi R e=0) && decide (cI n R B e))::Bx 107 1 PG [.func (.func 108) #[] #[.pointer PF,.pointer A1,.pointer PG,.pointer PU]]::Bx 25 1 PF [.slice none 0 0]::oj A1 PU Au db n A D N cA cD (dY n R B 0 N) cH (eh n R B 0 N))) (fun z=>N - z.1) (0,none,0) (Wn O) ⟨bk _,cJ⟩ ?_);clear cJ;rintro⟨j,AF,cF⟩ e eZ ⟨hj,hS⟩;dsimp only at hj hS|-;have eC:((cL j).filter fun e=>decide (gi R e=0) && decide (cI n R B e)).length<=500:=by
  refine gm (jN _ _) ?_;rw [cL,fv,n3];omega
 refine bH O (aJ _ O (fun h3=>?_) (fun h3=>?_))
 ·have vY:j<N:=by omega
  have yd:=G4 j vY;have GF:=hS.dh hR;have h1:Rd eZ A1 3 (fun j=> [Value.int .i64 (n:Int),.slice A N cA,.slice D N cD].getD j undef):=hS.rd 5 O;have Gh:oe eZ db N (dY n R B 0 N):=hS.fm 3 O;have OV:=lu j vY;have nJ:¬(gi R j=0/\cI n R B j)->((cL (j+1)).filter fun e=>decide (gi R e=0) && decide (cI n R B e))=((cL j).filter fun e=>decide (gi R e=0) && decide (cI n R B e)):=fun h=>by
   rw [yd,aB h,eG]
  refine aC O (aT h1 O (a7 h1 O (aq O (aw GF.2 O (a6 GF O (aq O ?_))))));refine bR 95 O (fun h4=>?_) (fun h4=>?_)
  ·refine ar O (aq O (ar O (aq O (ar O ?_))));refine aw Gh.2 O (ar O (lh Gh O (by omega) O O (aA O ?_)));rw [OV];refine aJ _ O (fun h5=>?_) (fun h5=>?_)
   ·rw [aF ⟨h4,h5⟩]at yd;refine aC O (e6 hS O O O ?_);intro A9 iR gv;refine fS 1 gv O (gv.bU 0 O) O O O (by omega) (by omega) O ?_;intro AZ cZ lb kV;have kV:=kV.tail;refine aq O (aI O (aM O (tQ ?_)));refine⟨(j+1,AZ,cZ),by show N - (j+1)<N - j;omega,⟨O,O,O,O,O,?_,O,O,av⟩,by show j+1<=N;omega,?_⟩
    ·show Value.slice _ _ _=_;rw [yd,dS];rfl
    show St w lb (aE _ _ (((cL (j+1)).filter _).length) _ ((cL (j+1)).filter _)::_);rw [yd,dS];exact kV
   refine aC O (aI O (aM O (tQ ?_)));refine⟨(j+1,AF,cF),by show N - (j+1)<N - j;omega,⟨O,O,O,O,O,?_,O,O,av⟩,by show j+1<=N;omega,?_⟩
   ·show Value.slice _ _ _=_;rw [nJ (fun h=>h5 h.2)]
   show St w eZ (aE _ _ (((cL (j+1)).filter _).length) _ ((cL (j+1)).filter _)::_);rw [nJ (fun h=>h5 h.2)];exact hS
  refine au O (au O (au O (au O (aA O ?_))));refine Cd.dO O (aC O (aI O (aM O (tQ ?_))));refine⟨(j+1,AF,cF),by show N - (j+1)<N - j;omega,⟨O,O,O,O,O,?_,O,O,av⟩,by show j+1<=N;omega,?_⟩
  ·show Value.slice _ _ _=_;rw [nJ (fun h=>h4 h.1)]
  show St w eZ (aE _ _ (((cL (j+1)).filter _).length) _ ((cL (j+1)).filter _)::_);rw [nJ (fun h=>h4 h.1)];exact hS
 obtain rfl:j=N:=by omega
 rw [yb]at hS eC|-;generalize OS:((pH R).filter fun f=>decide (cI n R B f))=fi at*;have OT:∀x∈fi,0<=x/\x< (j:Int):=fun x hx=>by
  rw [<-OS]at hx;have:=(sg.1 (eO.1 hx).1).1;omega
 have iY:Rd eZ PG 1 (fun _=> .func (.func 108) #[] #[.pointer PF,.pointer A1,.pointer PG,.pointer PU]):=jf (hS.rd 1 O);have N8:St w eZ (jR PF none 0 [] [] A1 n A j cA D j cD PG PU Au j j cH (eh n R B 0 j) [aE 2 AF fi.length cF fi,dC 4 db j j (dY n R B 0 j)]):=by
  have h9:=(hS.perm (show List.Perm _ (Bx 25 1 PF [.slice none 0 0]::(bD A1 n A j cA D j cD::Bx 107 1 PG [.func (.func 108) #[] #[.pointer PF,.pointer A1,.pointer PG,.pointer PU]]::Bx 25 1 PU [.slice Au j j]::(aW 24 2 Au j j cH (eh n R B 0 j)++ [aE 2 AF fi.length cF fi,dC 4 db j j (dY n R B 0 j)]))) from by
   classical
   refine nb.2 fun z=>?_
   simp only [oj,nY,mm,pA];omega))
  exact(h9.nil 24).perm (List.Perm.swap _ _ _)
 clear hS;have B3:∀e:Nat,e<j->(gl (eh n R B 0 j) e).length<=500/\∀x∈gl (eh n R B 0 j) e,0<=x/\x< (j:Int):=fun e he=>by
  rw [H3 e he];refine⟨gm (jN _ _) ?_,fun x hx=>?_⟩
  ·have:=oH (N:=R.length) (xe R B e).nodup fun x hx=> (kI.1 hx).1
   omega
  have:=(kI.1 (eO.1 hx).1).1;omega
 refine bj O (bl (cn O ?_));refine ak.ld iY (by exact aS Value.pointer (jJ _).symm) (by decide) O O O ?_;refine aq O (aO (Nq w n (by omega) PF A1 A D PG PU Au j cA j cD j j cH (eh n R B 0 j) (Dn 0 j) (by omega) B3 (n - 1) 0 fi.length [] fi none AF 0 cF [aE 2 AF fi.length cF fi,dC 4 db j j (dY n R B 0 j)] _ none 0 [] [] O O (by omega) eC OT (fun _ _ _ _ _ _=>bS.nil) (fun w' A c rs F h=>I7 h) O (bk _) N8) O ?_);rintro _ iR ⟨rfl,A',c',rs',dJ,hS⟩;rw [List.nil_append,Hl]at dJ hS;have dT:Rd iR PF 1 (fun _=> .slice A' (cap (bZ n R B)).length c'):=jf (hS.rd 0 O);refine aq O (Wm (j:=0) dT (by exact aS Value.pointer (jJ _).symm) O O O O ?_);refine aR O O (aA O ?_);have fx:=Ah (bZ n R B);have Cm:=Ae (l:=bZ n R B);refine aJ _ O (fun h4=>?_) (fun h4=>?_)
 ·have eD:¬(bZ n R B).length<=400:=fun h=>by have:=Cm.2 h;omega
  refine bV O (qy O O ?_);unfold sk sj;rw [aB eD,aB eD];exact xh.none hS
 have fy:(bZ n R B).length<=400:=Cm.1 (by omega);rw [qM (by omega)]at dJ hS dT|-;refine aC O (Wm (j:=0) dT (by exact aS Value.pointer (jJ _).symm) O O O O (bW O (qy O O ?_)));unfold sk sj;rw [aF fy,aF fy];exact⟨A',c',rs',O,dJ,K4 (pre:=[]) (hS.sub ((nc _ _).cons _))⟩
end
section
variable{N b i k y:Nat}{L L' L0:ah}{fl:ag}{S:Nat->Prop}{Q:List Nat}
structure pF(N:Nat)(K:Nat->Nat->Prop):Prop where
 sym:∀a b,K a b->K b a
 pq:∀a b c,K a b->K b c->K a c
 jK:∀a b,K a b->a<N/\b<N
def fA(N:Nat)(K:Nat->Nat->Prop)(f:Nat)(L:ah):Prop:=
 L.length=N/\∀x:Nat,x<N->(0<=gi L x->∃r:Nat,gi L x=r/\r<f/\K r x/\∀c,K c x->r<=c)/\(gi L x<0->gi L x= -1/\∀c,c<f->¬K c x)
theorem fA.zero(N:Nat)(K:Nat->Nat->Prop):fA N K 0 (List.replicate N (-1)):=
 ⟨by simp,fun x hx=>by
  rw [qV (by omega) (by omega)];exact⟨fun h=>absurd h (by omega),fun _=> ⟨O,fun c hc=>absurd hc (by omega)⟩⟩⟩
theorem fA.skip{K:Nat->Nat->Prop}(hK:pF N K){f:Nat}(h:fA N K f L)(hf:f<N)(h0:0<=gi L f\/¬K f f):fA N K (f+1) L:=by
 refine⟨h.1,fun x hx=> ⟨fun h1=>?_,fun h1=>?_⟩⟩
 ·obtain⟨r,h2,h3,h4⟩:=(h.2 x hx).1 h1;exact⟨r,h2,by omega,h4⟩
 obtain⟨h2,h3⟩:=(h.2 x hx).2 h1;refine⟨h2,fun c hc hk=>?_⟩
 by_cases e:c=f
 ·subst e;rcases h0 with h0 | h0
  ·obtain⟨r,h4,h5,h6,_⟩:=(h.2 c hf).1 h0;exact h3 r h5 (hK.pq _ _ _ h6 hk)
  exact h0 (hK.pq _ _ _ hk (hK.sym _ _ hk))
 exact h3 c (by omega) hk
theorem fA.k8{K:Nat->Nat->Prop}(hK:pF N K){f:Nat}(h:fA N K f L)(hf:f<N)(h0:gi L f<0)(hl:L'.length=N)(hp:∀x:Nat,x<N->(K f x->gi L' x=f)/\(¬K f x->gi L' x=gi L x)):fA N K (f+1) L':=by
 refine⟨hl,fun x hx=>?_⟩;have h9:=(h.2 f hf).2 h0
 by_cases hk:K f x
 ·rw [(hp x hx).1 hk];refine⟨fun _=> ⟨f,O,by omega,hk,fun c hc=>?_⟩,fun h=>absurd h (by omega)⟩;refine Nat.le_of_not_lt fun cW=>h9.2 c cW (hK.pq _ _ _ hc (hK.sym _ _ hk))
 rw [(hp x hx).2 hk];refine⟨fun h1=>?_,fun h1=>?_⟩
 ·obtain⟨r,h2,h3,h4⟩:=(h.2 x hx).1 h1;exact⟨r,h2,by omega,h4⟩
 obtain⟨h2,h3⟩:=(h.2 x hx).2 h1;refine⟨h2,fun c hc uy=>?_⟩
 by_cases e:c=f
 ·subst e;exact hk uy
 exact h3 c (by omega) uy
theorem fA.done{K:Nat->Nat->Prop}(hK:pF N K)(h:fA N K N L){a:Nat}(ha:K a a)(hb:K b b):gi L a=gi L b↔K a b:=by
 have get:∀x,K x x->∃r:Nat,gi L x=r/\K r x/\∀c,K c x->r<=c:=fun x hx=>by
  have Ds:=(hK.jK _ _ hx).1;rcases Int.lt_or_le (gi L x) 0 with h1 | h1
  ·exact absurd hx (((h.2 x Ds).2 h1).2 x Ds)
  obtain⟨r,h2,_,h4,h5⟩:=(h.2 x Ds).1 h1;exact⟨r,h2,h4,h5⟩
 obtain⟨r,h1,h2,h3⟩:=get a ha;obtain⟨s,h4,h5,h6⟩:=get b hb;rw [h1,h4];constructor
 ·intro e;obtain rfl:r=s:=by omega
  exact hK.pq _ _ _ (hK.sym _ _ h2) h5
 intro hk;have h7:=h3 s (hK.pq _ _ _ h5 (hK.sym _ _ hk));have h8:=h6 r (hK.pq _ _ _ h2 hk);omega
def kg(n:Nat)(fl:ag)(i a b:Nat):Prop:=a<fl.length/\b<fl.length/\∀k:Nat,k<n->k≠i->gi (gl fl a) k=gi (gl fl b) k
theorem kg.symm{n:Nat}{a:Nat}(h:kg n fl i a b):kg n fl i b a:=⟨h.2.1,h.1,fun k hk cG=> (h.2.2 k hk cG).symm⟩
inductive dN(n:Nat)(fl:ag)(S:Nat->Prop)(a:Nat):Nat->Prop where
 | refl:a<fl.length->dN n fl S a a
 | step {b c i:Nat}:dN n fl S a b->i<n->¬S i->kg n fl i b c->dN n fl S a c
theorem dN.trans{n:Nat}{a c:Nat}(h:dN n fl S a b)(h':dN n fl S b c):dN n fl S a c:=by
 induction h' with
 | refl=>exact h
 | step _ hi hs ha ih=>exact .step ih hi hs ha
theorem dN.jK{n:Nat}{a:Nat}(h:dN n fl S a b):a<fl.length/\b<fl.length:=by
 induction h with
 | refl h=>exact⟨h,h⟩
 | step _ _ _ ha ih=>exact⟨ih.1,ha.2.1⟩
theorem dN.symm{n:Nat}{a:Nat}(h:dN n fl S a b):dN n fl S b a:=by
 induction h with
 | refl h=>exact .refl h
 | step h hi hs ha ih=>exact(dN.step (.refl ha.2.1) hi hs ha.symm).trans ih
theorem dN.rR(n:Nat)(fl:ag)(S:Nat->Prop):pF fl.length (dN n fl S):=⟨fun _ _ h=>h.symm,fun _ _ _ h h'=>h.trans h',fun _ _ h=>h.jK⟩
theorem dN.keep{n:Nat}{a:Nat}(h:dN n fl S a b):∀k:Nat,k<n->S k->gi (gl fl b) k=gi (gl fl a) k:=by
 induction h with
 | refl h=>exact fun _ _ _=>rfl
 | step h hi hs ha ih=>
  intro k hk hS;rw [<-ha.2.2 k hk (fun e=>hs (e▸hS)),ih k hk hS]
def zD(n:Nat)(fl:ag):Prop:=∀a b:Nat,a<b->b<fl.length->dN n fl (fun k=>gi (gl fl a) k=gi (gl fl b) k) a b
structure jg(N:Nat)(K A:Nat->Nat->Prop)(f:Nat)(L0 L:ah)(Q:List Nat)(k:Nat):Prop where
 len:L.length=N
 rJ:∀x∈Q,x<N/\gi L0 x<0/\K f x
 bq:∀x:Nat,x<N->gi L x=if x∈Q then(f:Int)else gi L0 x
 root:f∈Q
 yW:k<=Q.length
 done:∀p,p<k->∀y,A (Q.getD p 0) y->0<=gi L y
 nd:Q.Nodup
theorem jg.meet{K A:Nat->Nat->Prop}{f:Nat}(h:jg N K A f L0 L Q k)(hy:y<N)(hl:gi L y<0)(hk:K f y):jg N K A f L0 (L.set y (f:Int)) (Q++ [y]) k:=by
 have H6:y∉Q:=fun hm=>by
  have:=h.bq y hy;rw [aF hm]at this;omega
 have e:∀x:Nat,x<N->gi (L.set y (f:Int)) x=if x=y then(f:Int)else gi L x:=fun x hx=>by
  have:=mF (S:=L) (x:=(y:Int)) (y:=(x:Int)) (b:=(f:Int)) (by omega) (by rw [h.len];omega) (by omega);rw [eH]at this;rw [this]
  by_cases e:x=y
  ·subst e;simp
  rw [aB e,aB (by omega)]
 have o8:gi L0 y<0:=by
  have:=h.bq y hy;rw [aB H6]at this;omega
 refine⟨by rw [iS];exact h.len,fun x hx=>?_,fun x hx=>?_,List.mem_append_left _ h.root,by rw [dS];have:=h.yW;omega,fun p hp z hz=>?_,List.nodup_append.2 ⟨h.nd,by simp,fun a ha b hb e=>H6 (by rw [<-fQ.1 hb,<-e];exact ha)⟩⟩
 ·rcases gQ.1 hx with hx | hx
  ·exact h.rJ x hx
  obtain rfl:=fQ.1 hx;exact⟨hy,o8,hk⟩
 ·rw [e x hx]
  by_cases ex:x=y
  ·subst ex;simp
  rw [aB ex,h.bq x hx];simp [ex]
 have hk:=h.yW;rw [bX,mo (by omega),<-bX]at hz;have h2:=h.done p hp z hz
 by_cases Qp:z<N
 ·rw [e z Qp]
  split<;>omega
 have:gi L z=gi (L.set y (f:Int)) z:=by
  simp [gi,bX,oP (show L.length<=z by rw [h.len];omega),oP (show(L.set y (f:Int)).length<=z by rw [iS,h.len];omega)]
 omega
theorem jg.next{K A:Nat->Nat->Prop}{f:Nat}(h:jg N K A f L0 L Q k)(hk:k<Q.length)(hd:∀y,A (Q.getD k 0) y->0<=gi L y):jg N K A f L0 L Q (k+1):=
 ⟨h.len,h.rJ,h.bq,h.root,hk,fun p hp y hy=>by
  by_cases e:p=k
  ·subst e;exact hd y hy
  exact h.done p (by omega) y hy,h.nd⟩
theorem jg.rV{K A:Nat->Nat->Prop}{f:Nat}(h:jg N K A f L0 L Q k):Q.length<=N:=DS N Q h.nd fun x hx=> (h.rJ x hx).1
theorem jg.start{K A:Nat->Nat->Prop}{f:Nat}(hl:L0.length=N)(hf:f<N)(h0:gi L0 f<0)(hk:K f f):jg N K A f L0 (L0.set f (f:Int)) [f] 0:=by
 refine⟨by simp [hl],fun x hx=>?_,fun x hx=>?_,by simp,bk _,fun p hp=>absurd hp (by omega),by simp⟩
 ·obtain rfl:=fQ.1 hx;exact⟨hf,h0,hk⟩
 have:=mF (S:=L0) (x:=(f:Int)) (y:=(x:Int)) (b:=(f:Int)) (by omega) (by rw [hl];omega) (by omega);rw [eH]at this;rw [this]
 by_cases e:x=f
 ·subst e;simp
 rw [aB (by omega),aB (by simpa using e)]
theorem jg.end_{K A:Nat->Nat->Prop}(hK:pF N K){f:Nat}(h:jg N K A f L0 L Q Q.length)(hL:fA N K f L0)(hf:f<N)(h0:gi L0 f<0)(hA:∀S:Nat->Prop,S f->(∀x y,S x->K f x->A x y->S y)->∀x,K f x->S x)(NO:∀x y,A x y->K x y):fA N K (f+1) L:=by
 have hQ:∀x,K f x->x∈Q:=hA (fun x=>x∈Q) h.root fun x y hx lX ha=>by
  obtain⟨p,hp,e⟩:=fP.1 hx;have e2:Q.getD p 0=x:=by rw [bX,dE hp];exact e
  have h1:=h.done p hp y (by rw [e2];exact ha);have hk:=NO x y ha;have qm:=(hK.jK _ _ hk).2;refine kK fun hn=>?_
  have h2:=h.bq y qm;rw [aB hn]at h2;obtain⟨r,_,h3,h4,_⟩:=(hL.2 y qm).1 (by omega);exact((hL.2 f hf).2 h0).2 r h3 (hK.pq _ _ _ (hK.pq _ _ _ h4 (hK.sym _ _ hk)) (hK.sym _ _ lX))
 refine hL.k8 hK hf h0 h.len fun x hx=> ⟨fun hk=>?_,fun hk=>?_⟩
 ·rw [h.bq x hx,aF (hQ x hk)]
 rw [h.bq x hx,aB fun hm=>hk (h.rJ x hm).2.2]
section
variable {m1 m2:Nat} {n1 n2:Int} {Ec Ed:Int->Int} {J9 zx:Int->Int->Prop}
def Ex(m1 m2:Nat)(kind:Int)(c:Int×Int):Prop:=(kind=1/\(c.1=0\/c.2=0))\/(kind=2/\(c.1=(m1:Int) - 1\/c.2=(m2:Int) - 1))
instance (m1 m2:Nat)(kind:Int)(c:Int×Int):Decidable (Ex m1 m2 kind c):=by unfold Ex;infer_instance
end
def ER(N:Nat)(B:ag)(a b:Int):Prop:=a=b\/a=0\/b=(N:Int)+1\/(0<a/\a< (N:Int)+1/\0<b/\b< (N:Int)+1/\a - 1∈gl B (b - 1))
instance (N:Nat)(B:ag)(a b:Int):Decidable (ER N B a b):=by unfold ER;infer_instance
def ng(R:ah)(i e:Int):Prop:=(e= -1/\i=0)\/((0<=e/\e<R.length)/\0<i/\gi R e=i - 1)
def kL(n:Int)(R:ah)(i f:Int):Prop:=(f= -1/\i=n - 1)\/((0<=f/\f<R.length)/\i<n - 1/\gi R f=i+1)
def kN(R:ah)(B:ag)(i e f:Int):ah:=(cL R.length).filter fun d=>decide (gi R d=i/\(e<0\/e∈gl B d)/\(f<0\/d∈gl B f))
def zE(n:Int)(R:ah)(B:ag):Prop:=∀i e f:Int,0<=i->i<n->ng R i e->kL n R i f->(0<=e->0<=f->e∈gl B f)->(kN R B i e f).length=2
section
variable (m1 m2:Nat) (Ec Ed:Int->Int) (kind:Int)
end
section
variable {m1 m2:Nat} {Ec Ed:Int->Int} {kind:Int}
end
section
variable {m1 m2:Nat} {n1 n2:Int} {Ec Ed:Int->Int} {J9 zx:Int->Int->Prop} [DecidableRel J9] [DecidableRel zx] {kind:Int}
end
theorem DI{n:Nat}{x y:ah}(hx:x.length=n)(hy:y.length=n)(h:∀i:Nat,i<n->gi x i=gi y i):x=y:=
 gj (by omega) fun i h1 h2=>by
  have:=h i (by omega)
  rwa [bQ h1,bQ h2]at this
open Classical in
noncomputable def tg(n:Nat)(fl:ag)(i:Nat)(a:Nat):ah:=((List.range fl.length).filter fun b=>decide (kg n fl i a b/\b≠a)).map fun b:Nat=> (b:Int)
def zL(n:Nat)(R:ah)(B:ag):Prop:=∀e:Int,0<=e->e<R.length->∃x∈bZ n R B,e∈x
def zK(n:Nat)(R:ah)(B:ag):Prop:=bZ n R B≠[]/\zL n R B/\zE n R B/\zD n (bZ n R B)
def jA(a b:ah):ah:=(List.range a.length).map fun k:Nat=>if gi a k=gi b k then gi a k else -1
theorem tO(a b:ah):(jA a b).length=a.length:=by simp [jA]
theorem tN{a b:ah}{k:Nat}(h:k<a.length):gi (jA a b) k=if gi a k=gi b k then gi a k else -1:=by
 rw [bQ (by rw [tO];exact h)];simp [jA]
def ga(n:Nat)(c x:ah):Prop:=∀k:Nat,k<n->gi c k≠ -1->gi c k=gi x k
instance (n:Nat)(c x:ah):Decidable (ga n c x):=by unfold ga;infer_instance
def fR(n:Nat)(fl:ag)(c:ah)(a b:Nat):Prop:=ga n c (gl fl a)/\dN n fl (fun k=>gi c k≠ -1) a b
theorem ga.of{n:Nat}{fl:ag}{c:ah}{a b:Nat}(h:ga n c (gl fl a))(h':dN n fl (fun k=>gi c k≠ -1) a b):ga n c (gl fl b):=fun k hk cG=>by
 rw [h'.keep k hk cG];exact h k hk cG
theorem fR.rR(n:Nat)(fl:ag)(c:ah):pF fl.length (fR n fl c):=
 ⟨fun _ _ h=> ⟨h.1.of h.2,h.2.symm⟩,fun _ _ _ h h'=> ⟨h.1,h.2.trans h'.2⟩,fun _ _ h=>h.2.jK⟩
theorem L4{n:Nat}{fl:ag}(hl:∀x∈fl,x.length=n/\∀e∈x,0<=e){a b:Nat}(ha:a<fl.length)(hb:b<fl.length):
 fR n fl (jA (gl fl a) (gl fl b)) a a/\fR n fl (jA (gl fl a) (gl fl b)) b b/\(fR n fl (jA (gl fl a) (gl fl b)) a b↔dN n fl (fun k=>gi (gl fl a) k=gi (gl fl b) k) a b):=by
 have Qg:=hl _ (by rw [cQ ha];exact di _:gl fl a∈fl);have cG:∀k:Nat,k<n->(gi (jA (gl fl a) (gl fl b)) k≠ -1↔gi (gl fl a) k=gi (gl fl b) k):=fun k hk=>by
  rw [tN (by omega)];have:=Qg.2 _ (gi_in (show k< (gl fl a).length by omega))
  split
  ·exact⟨fun _=>by assumption,fun _=>by omega⟩
  ·rename_i h;exact⟨fun h'=>absurd rfl h',fun h'=>absurd h' h⟩
 have h1:ga n (jA (gl fl a) (gl fl b)) (gl fl a):=fun k hk h=>by
  have:=(cG k hk).1 h;rw [tN (by omega),aF this]
 have h2:ga n (jA (gl fl a) (gl fl b)) (gl fl b):=fun k hk h=>by
  have:=(cG k hk).1 h;rw [tN (by omega),aF this,this]
 have cv:∀ {S S':Nat->Prop},(∀k,k<n->(S k↔S' k))->∀ {u v},dN n fl S u v->dN n fl S' u v:=fun {S S'} hS {u v} h=>by
  induction h with
  | refl h=>exact .refl h
  | step _ hi hs Ce ih=>exact .step ih hi (fun h=>hs ((hS _ hi).2 h)) Ce
 exact⟨⟨h1,.refl ha⟩,⟨h2,.refl hb⟩,fun h=>cv cG h.2,fun h=> ⟨h1,cv (fun k hk=> (cG k hk).symm) h⟩⟩
def qC(n:Nat)(fl:ag)(c:ah)(x y:Nat):Prop:=ga n c (gl fl x)/\ga n c (gl fl y)/\∃i,i<n/\kg n fl i x y
theorem FM{n:Nat}{fl:ag}(hn:fl.Nodup)(hl:∀x∈fl,x.length=n){x y:Nat}(hx:x<fl.length)(hy:y<fl.length)(h:∀k:Nat,k<n->gi (gl fl x) k=gi (gl fl y) k):x=y:=by
 have e:gl fl x=gl fl y:=DI (hl _ (by rw [cQ hx];exact di _)) (hl _ (by rw [cQ hy];exact di _)) h;rw [cQ hx,cQ hy]at e;exact(List.getElem_inj hn).1 e
theorem qC.link{n:Nat}{fl:ag}(hn:fl.Nodup)(hl:∀x∈fl,x.length=n){c:ah}{x y:Nat}(h:qC n fl c x y):fR n fl c x y:=by
 obtain⟨h1,h2,i,hi,ha⟩:=h;refine⟨h1,?_⟩
 by_cases hc:gi c i≠ -1
 ·have:x=y:=FM hn hl ha.1 ha.2.1 fun k hk=>by
   by_cases e:k=i
   ·subst e;rw [<-h1 k hk hc,h2 k hk hc]
   exact ha.2.2 k hk e
  subst this;exact .refl ha.1
 exact .step (.refl ha.1) hi hc ha
theorem fR.ind{n:Nat}{fl:ag}{c:ah}{f:Nat}(S:Nat->Prop)(hf:S f)(hs:∀x y,S x->fR n fl c f x->qC n fl c x y->S y):∀x,fR n fl c f x->S x:=fun x h=>by
 obtain⟨h1,h2⟩:=h
 induction h2 with
 | refl _=>exact hf
 | step h hi hS ha ih=>exact hs _ _ ih ⟨h1,h⟩ ⟨h1.of h,h1.of (.step h hi hS ha),_,hi,ha⟩
def qD(n:Nat)(fl:ag)(S:Nat->Prop)(x y:Nat):Prop:=∃i,i<n/\¬S i/\kg n fl i x y/\y≠x
theorem dN.ind{n:Nat}{fl:ag}{S:Nat->Prop}{f:Nat}(T:Nat->Prop)(hf:T f)(hs:∀x y,T x->dN n fl S f x->qD n fl S x y->T y):∀x,dN n fl S f x->T x:=fun x h=>by
 induction h with
 | refl _=>exact hf
 | step h hi hS ha ih=>
  rename_i b c i
  by_cases e:c=b
  ·rw [e];exact ih
  ·exact hs _ _ ih h ⟨_,hi,hS,ha,e⟩
theorem qD.link{n:Nat}{fl:ag}{S:Nat->Prop}{x y:Nat}(h:qD n fl S x y):dN n fl S x y:=by
 obtain⟨i,hi,hS,ha,_⟩:=h;exact .step (.refl ha.1) hi hS ha
end
section
open Go.RowKit
variable{m j i k:Nat}
def fG(H:List Bool)(vs:ah):List Bool:=vs.foldl (fun H v=>H.set v.toNat true) H
theorem Jw(H:List Bool)(vs:ah)(v:Int):fG H (vs++ [v])=(fG H vs).set v.toNat true:=by simp [fG,List.foldl_append]
theorem Tj(H:List Bool):∀vs,(fG H vs).length=H.length:=by
 intro vs;unfold fG
 induction vs generalizing H with
 | nil=>rfl
 | cons a r ih=>rw [List.foldl_cons,ih,iS]
theorem Ti(H:List Bool)(vs:ah)(hv:∀v∈vs,0<=v/\v<H.length)(x:Int)(h0:0<=x):gb (fG H vs) x=(gb H x || decide (x∈vs)):=by
 unfold fG
 induction vs generalizing H with
 | nil=>simp
 | cons a r ih=>
  have ha:=hv a (by simp);rw [List.foldl_cons,ih _ (fun v h=>by rw [iS];exact hv v (by simp [h])),vA ha.1 ha.2 h0]
  by_cases e:a=x
  ·subst e;simp
  ·have e':¬x=a:=fun h=>e h.symm
   simp [e,e']
theorem FW(n:Nat)(x:Int):gb (List.replicate n false) x=false:=by
 unfold gb;rw [bX,List.getElem?_replicate]
 split<;>rfl
theorem Th{F:ag}(h:∀l∈F,∀x∈l,0<=x/\x< (m:Int))(x:Int)(h0:0<=x):gb (fG (List.replicate m false) F.flatten) x=decide (∃l∈F,x∈l):=by
 rw [Ti _ _ (fun v hv=>by
  obtain⟨l,hl,hx⟩:=List.mem_flatten.1 hv;rw [List.length_replicate];exact h l hl v hx) x h0,FW,Bool.false_or]
 exact gJ.2 (by rw [List.mem_flatten])
def iG(m:Nat):List Bool:=List.replicate m false
theorem D1(m:Nat)(vs:ah):(fG (iG m) vs).length=m:=by rw [Tj];simp [iG]
theorem Jm{F:ag}(h:∀l∈F,∀x∈l,0<=x/\x< (m:Int)):¬(false∈fG (iG m) F.flatten)↔∀x:Int,0<=x->x< (m:Int)->∃l∈F,x∈l:=by
 have hl:=D1 m F.flatten;have hg:=fun(x:Int) (h0:0<=x)=>Th h x h0
 constructor
 ·intro hn x h0 h1;apply kK;intro hc;have h2:gb (fG (iG m) F.flatten) x=false:=(hg x h0).trans (cb hc);apply hn;have h3:x.toNat< (fG (iG m) F.flatten).length:=by omega
  rw [<-h2,gb,bX,dE h3];exact di _
 intro ha hm;obtain⟨k,hk,e⟩:=fP.1 hm;have h2:=hg (k:Int) (by omega);rw [dF (ha (k:Int) (by omega) (by omega))]at h2;have h3:gb (fG (iG m) F.flatten) k=(fG (iG m) F.flatten)[k]:=by simp [gb,bX,hk]
 have h4:gb (fG (iG m) F.flatten) k=true:=h2;rw [h3,e]at h4;cases h4
theorem KA(A:ai)(n c:Nat)(xs:List Bool)(v:Bool)(w:aa)(hR:oe w A n xs)(hn:n<=9223372036854775807):
 aG prog 189 [.slice A n c,.bool v] w (fun r w'=> (∃i:Int,r=aj i/\(0<=i↔v∈xs))/\w'=w):=by
 have eW:=hR.1;refine bs func189 O ntmps189 O (bF O) ?_;refine aY O (aR O O (aA O ?_));refine Cd.loop (α:=Nat) (fun k=> [(0,.slice A n c),(1,.bool v),(7,aj n),(8,aj k)]) (fun k w'=>w'=w/\k<=n/\∀j:Nat,j<k->gb xs j≠v) (fun k=>n - k) 0 (Wn O) ⟨O,bk _,fun j hj=>by omega⟩ ?_;rintro k e w ⟨rfl,hk,hK⟩;refine bH O (aJ _ O (fun h3=>?_) (fun h3=>?_))
 ·have hg:gb xs k=xs[k]'(by omega):=by simp [gb,bX,show k<xs.length by omega]
  refine aC O (aw hR.2 O (lh hR O (by omega) O O (KP O O O (aA O ?_))));refine Cd.cond O (fun h4=>?_) (fun h4=>?_)
  ·refine bV O (cy (b9 ?_));refine eF O ?_;have h4:v=gb xs k:=by simpa using h4
   exact⟨⟨(k:Int),O,⟨fun _=>by rw [h4,hg];exact di _,fun _=>by omega⟩⟩,O⟩
  refine aC O (aI O (aM O (tQ ?_)));have h4:¬v=gb xs k:=by simpa using h4
  refine⟨k+1,by show n - (k+1)<n - k;omega,(Wn O),O,by omega,fun j hj=>?_⟩
  by_cases ej:j=k
  ·subst ej;exact fun h=>h4 h.symm
  exact hK j (by omega)
 refine bj O (bl (dd O ?_));refine eF O ⟨⟨-1,O,⟨fun h=>absurd h (by decide),fun h=>?_⟩⟩,O⟩;obtain⟨j,hj,CD⟩:=fP.1 h;exact absurd (by simpa [gb,bX,hj]using CD) (hK j (by omega))
theorem Kt(A:ai)(n c:Nat)(xs:List Bool)(v:Bool)(w:aa)(hR:oe w A n xs)(hn:n<=9223372036854775807):
 aG prog 118 [.slice A n c,.bool v] w (fun r w'=>r= .bool (decide (v∈xs))/\w'=w):=by
 refine bs func118 O ntmps118 O (bF O) (aY O (aO (KA A n c xs v _ hR hn) O ?_));rintro _ w ⟨⟨i,rfl,hi⟩,rfl⟩;refine bW O (bG O ?_);exact⟨aS Value.bool (gJ.2 hi),O⟩
theorem vd{w:aa}{A:ai}{n:Nat}{f:Nat->ab}(h:Rd w A n f)(hn:0<n):A.isNone=false:=by
 obtain⟨p,hp,_⟩:=h 0 hn;cases A with
 | none=>simp [az]at hp
 | some q=>rfl
def uZ(L:ah)(w:aa)(v:ab)(w':aa):Prop:=∃A' c',v= .slice A' L.length c'/\St w w' [aE 2 A' L.length c' L]
theorem zr{xs:ah}(h:j<xs.length):xs.take (j+1)=xs.take j++ [gi xs j]:=by
 rw [gk h,bQ h]
theorem QI(n:Int)(A D:ai)(cA N m cD:Nat)(Af:ai)(nf cf:Nat)(rs:List aH)(fl:ag)(w:aa)(hF:bu w Af nf rs fl)(hN:N<=500)(hr:∀l∈fl,l.length<=1000/\∀x∈l,0<=x/\x< (N:Int))(CT:nf<=100000):
 aG prog 62 [.agg #[aj n,.slice A N cA,.slice D m cD],.slice Af nf cf] w (fun v w'=>∃b:Bool,v= .bool b/\(b=true↔∀x:Int,0<=x->x< (N:Int)->∃l∈fl,x∈l)/\St w w' []):=by
 have eC:=hF.len;refine bs func62 O ntmps62 O (bF O) (aY O (nh (St.refl w) O O ?_));intro A1 w1 aD;have h1:Rd w1 A1 3 (fun j=> [Value.int .i64 n,.slice A N cA,.slice D m cD].getD j undef):=aD.rd 0 O;refine aq O (aT h1 O (a7 h1 O (aR O O (pD (v:=false) N aD O O (by omega) ?_))));intro A5 w2 ay;have ay:St w w2 [dC 4 A5 N N (fG (iG N) (fl.take 0).flatten),bD A1 n A N cA D m cD]:=ay;refine aq O (aR O O (aA O ?_));refine Cd.loop (α:=Nat) (fun i=> [(2,.pointer A1),(5,.slice A5 N N),(14,.slice Af nf cf),(15,aj nf),(16,aj i)]) (fun i w'=>i<=nf/\St w w' [dC 4 A5 N N (fG (iG N) (fl.take i).flatten),bD A1 n A N cA D m cD]) (fun i=>nf - i) 0 (Wn O) ⟨bk _,ay⟩ ?_;clear ay aD h1;rintro i e w3 ⟨hi,hS⟩;refine bH O (aJ _ O (fun h2=>?_) (fun h2=>?_))
 ·have sL:i<fl.length:=by omega
  have hM:=hS.bE hF;have eQ:=hM.at_ (i:=(i:Int)) (by omega) (by omega);have eM:=eQ.1;have gC:gl fl i∈fl:=by rw [cQ sL];exact di _
  have dt:=hr _ gC;refine aC O (aw hM.top.2 O (bn hM.top O ?_));refine aq O (aR O O (aA O ?_));refine Cd.loop (α:=Nat) (fun j=> [(2,.pointer A1),(5,.slice A5 N N),(14,.slice Af nf cf),(15,aj nf),(16,aj i),(20,.slice (rg rs i).a (rg rs i).n (rg rs i).c),(21,aj ((rg rs i).n:Int)),(22,aj j)]) (fun j w'=>j<=(rg rs i).n/\St w w' [dC 4 A5 N N (fG (iG N) ((fl.take i).flatten++ (gl fl i).take j)),bD A1 n A N cA D m cD]) (fun j=> (rg rs i).n - j) 0 (Wn O) ⟨bk _,by rw [List.take_zero,eG];exact hS⟩ ?_;clear eQ hM hS;rintro j e w4 ⟨hj,hS⟩;refine bH O (aJ _ O (fun h3=>?_) (fun h3=>?_))
  ·have iL:j< (gl fl i).length:=by omega
   have eQ:=(hS.bE hF).at_ (i:=(i:Int)) (by omega) (by omega);have hx:=dt.2 _ (gi_in iL);have qg:=D1 N ((fl.take i).flatten++ (gl fl i).take j);refine aC O (aw eQ.2 O (a6 eQ O (aq O (aw (hS.fm 0 O).2 O (mw 0 hS O O O (by omega) ?_)))));intro w5 aV;have aV:St w w5 [dC 4 A5 N N (fG (iG N) ((fl.take i).flatten++ (gl fl i).take (j+1))),bD A1 n A N cA D m cD]:=by
    rw [zr iL,<-fB,Jw];exact aV
   refine aq O (aI O (aM O (tQ ?_)));exact⟨j+1,by show(rg rs i).n - (j+1)< (rg rs i).n - j;omega,(Wn O),by omega,aV⟩
  rw [show(gl fl i).take j=gl fl i from eI (by omega)]at hS;refine bj O (bl (cn O (aI O (aM O (tQ ?_)))));refine⟨i+1,by show nf - (i+1)<nf - i;omega,(Wn O),by omega,?_⟩;rw [gk sL,List.flatten_append,<-cQ sL];simpa using hS
 have cd:i=fl.length:=by omega
 rw [cd,List.take_length]at hS;have CW:=Jm (m:=N) (F:=fl) (fun l hl=> (hr l hl).2);refine bj O (bl (cn O ?_));refine aO (Kt A5 N N _ false _ (hS.fm 0 O) (by omega)) O ?_;rintro _ _ ⟨rfl,rfl⟩
 first | refine dv rfl rfl ?_ | refine eJ rfl rfl ?_
 refine bW O (bG O ?_);refine⟨_,O,?_,hS.none⟩;rw [<-CW];simp
def np(a b:ah)(i:Nat):ah:=(List.range a.length).map fun k:Nat=>if i<=k\/gi a k=gi b k then gi a k else -1
theorem oV(a b:ah)(i:Nat):(np a b i).length=a.length:=by simp [np]
theorem qO{a b:ah}(h:k<a.length):gi (np a b i) k=if i<=k\/gi a k=gi b k then gi a k else -1:=by
 rw [bQ (by rw [oV];exact h)];simp [np]
theorem LZ(a b:ah):np a b 0=a:=by
 apply gj (oV ..);intro k h1 h2;rw [<-bQ h1,<-bQ h2,qO h2,aF (.inl (bk _))]
theorem L1(a b:ah):np a b a.length=jA a b:=by
 apply gj (by rw [oV,tO]);intro k h1 h2;have h3:k<a.length:=by rw [oV]at h1;exact h1
 rw [<-bQ h1,<-bQ h2,qO h3,tN h3]
 by_cases c:gi a k=gi b k
 ·rw [aF (.inr c),aF c]
 rw [aB (by omega),aB c]
theorem L2{a b:ah}:np a b (i+1)=if gi a i=gi b i then np a b i else(np a b i).set i (-1):=by
 by_cases c:gi a i=gi b i
 ·rw [aF c];apply gj (by simp [oV]);intro k h1 h4;have h3:k<a.length:=by rw [oV]at h1;exact h1
  rw [<-bQ h1,qO h3,<-bQ h4,qO h3]
  by_cases e:k=i
  ·subst e;rw [aF (.inr c),aF (.inr c)]
  by_cases e2:i+1<=k\/gi a k=gi b k
  ·rw [aF e2,aF (by omega)]
  rw [aB e2,aB (by omega)]
 rw [aB c];apply gj (by simp [oV]);intro k h1 h2;have h3:k<a.length:=by rw [oV]at h1;exact h1
 have h4:k< (np a b i).length:=by rw [oV];exact h3
 rw [<-bQ h1,qO h3,List.getElem_set]
 split
 ·rename_i h;rw [aB (fun e=>by subst e;rcases h with h | h<;>first | omega | exact c h),<-bQ h4,qO h3,aF (by omega)]
 rename_i h
 by_cases e:i=k
 ·rw [aF e]
 rw [aB e,<-bQ h4,qO h3,aB (fun h'=>h (by omega))]
theorem Fk(A A2:ai)(n c m c2:Nat)(a b:ah)(w:aa)(hA:bS w A n a)(hB:bS w A2 m b)(hm:n=m)(hn:n<=1000):
 aG prog 121 [.slice A n c,.slice A2 m c2] w (uZ (jA a b) w):=by
 subst hm;have ha:=hA.1;have hb:=hB.1;refine bs func121 O ntmps121 O (bF O) (aY O (aO (xi A n c a w hA (by omega)) O ?_));rintro _ w1 ⟨A5,c5,rfl,hS⟩;have hS:St w w1 [aE 2 A5 n c5 (np a b 0)]:=by rw [LZ];exact hS
 refine aq O (aR O O (aA O ?_));refine Cd.loop (α:=Nat) (fun i=> [(5,.slice A5 n c5),(10,.slice A2 n c2),(11,aj n),(12,aj i)]) (fun i w'=>i<=n/\St w w' [aE 2 A5 n c5 (np a b i)]) (fun i=>n - i) 0 (Wn O) ⟨bk _,hS⟩ ?_;clear hS;rintro i e w2 ⟨hi,hS⟩;have hl:=oV a b i;refine bH O (aJ _ O (fun h2=>?_) (fun h2=>?_))
 ·have cd:i<a.length:=by omega
  have eE:=L2 (a:=a) (b:=b) (i:=i);have lq:=qO (b:=b) (i:=i) cd;rw [aF (.inl (cO _))]at lq;have gr:=hS.dh hB;have h5:=hS.bU 0 O;refine aC O (aw gr.2 O (a6 gr O (aq O (aw h5.2 O (a6 h5 O (aA O ?_))))));rw [lq];refine aJ _ O (fun h3=>?_) (fun h3=>?_)
  ·rw [aB h3]at eE;refine aC O (aw h5.2 O (ak.mg 0 hS O O O (by omega) ?_));intro w3 aL;refine aq O (aI O (aM O (tQ ?_)));exact⟨i+1,by show n - (i+1)<n - i;omega,(Wn O),by omega,by rw [eE];exact aL⟩
  rw [aF (fp.1 h3)]at eE;refine aC O (aI O (aM O (tQ ?_)));exact⟨i+1,by show n - (i+1)<n - i;omega,(Wn O),by omega,by rw [eE];exact hS⟩
 have cd:i=a.length:=by omega
 rw [cd,L1]at hS;have yo:=tO a b;refine bj O (bl (dd O ?_));refine dH O ?_;exact⟨A5,c5,by rw [yo,ha],by rw [yo,ha];exact hS⟩
def rU(xs:ah)(x:Int):ah:=(cL xs.length).filter fun e=>decide (gi xs e=x)
theorem Tf{xs:ah}{x:Int}:((cL (m+1)).filter fun e=>decide (gi xs e=x))=if x=gi xs m then((cL m).filter fun e=>decide (gi xs e=x))++ [(m:Int)]else((cL m).filter fun e=>decide (gi xs e=x)):=by
 have:cL (m+1)=cL m++ [(m:Int)]:=by
  unfold cL;rw [lg,iT];rfl
 rw [this,mn]
 by_cases c:gi xs m=x
 ·rw [aF c.symm];simp [c]
 rw [aB (fun h=>c h.symm)];simp [c]
theorem Te(A:ai)(n c:Nat)(xs:ah)(x:Int)(w:aa)(hA:bS w A n xs)(hn:n<=100000):
 aG prog 190 [.slice A n c,aj x] w (uZ (rU xs x) w):=by
 have ha:=hA.1;refine bs func190 O ntmps190 O (bF O) ?_;refine aY O (aR O O (aA O ?_));refine Cd.loop (α:=Nat×ai×Nat) (fun z=> [(1,aj x),(5,.slice z.2.1 ((cL z.1).filter fun e=>decide (gi xs e=x)).length z.2.2),(8,.slice A n c),(9,aj n),(10,aj (z.1:Int))]) (fun z w'=>z.1<=n/\St w w' [aE 2 z.2.1 ((cL z.1).filter fun e=>decide (gi xs e=x)).length z.2.2 ((cL z.1).filter fun e=>decide (gi xs e=x))]) (fun z=>n - z.1) (0,none,0) (Wn O) ⟨bk _,(St.refl w).nil _⟩ ?_;rintro⟨i,A5,c5⟩ e w1 ⟨hi,hS⟩;dsimp only at hi hS|-;have eC:((cL i).filter fun e=>decide (gi xs e=x)).length<=100000:=by
  refine gm (jN _ _) ?_;rw [cL,fv,n3];omega
 have eE:=Tf (xs:=xs) (x:=x) (m:=i);refine bH O (aJ _ O (fun h2=>?_) (fun h2=>?_))
 ·have Gg:=hS.dh hA;refine aC O (aw Gg.2 O (a6 Gg O (aA O ?_)));refine aJ _ O (fun h3=>?_) (fun h3=>?_)
  ·rw [aF h3]at eE;refine aC O (e6 hS O O O ?_);intro A9 w2 ay;refine fS 1 ay O (ay.bU 0 O) O O O (by omega) (by omega) O ?_;intro AZ cZ w3 aL;have aL:=aL.tail;refine aq O (aI O (aM O (tQ ?_)));refine⟨(i+1,AZ,cZ),by show n - (i+1)<n - i;omega,⟨O,?_,O,O,O,av⟩,by show i+1<=n;omega,?_⟩
   ·show Value.slice _ _ _=_;rw [eE,dS];rfl
   show St w w3 [aE _ _ (((cL (i+1)).filter _).length) _ ((cL (i+1)).filter _)];rw [eE,dS];exact aL
  rw [aB h3]at eE;refine aC O (aI O (aM O (tQ ?_)));refine⟨(i+1,A5,c5),by show n - (i+1)<n - i;omega,⟨O,?_,O,O,O,av⟩,by show i+1<=n;omega,?_⟩
  ·show Value.slice _ _ _=_;rw [eE]
  show St w w1 [aE _ _ (((cL (i+1)).filter _).length) _ ((cL (i+1)).filter _)];rw [eE];exact hS
 have cd:i=xs.length:=by omega
 rw [cd]at hS|-;refine bj O (bl (dd O ?_));exact dH O ⟨A5,c5,O,hS⟩
def ke(n:Int)(R:ah)(i:Int):ah:=if 0<=i/\i<=n - 1 then rU R i else [-1]
theorem DV(P A D:ai)(n:Int)(N cA m cD:Nat)(R:ah)(i:Int)(w:aa)(hP:Rd w P 3 (fun j=> [Value.int .i64 n,.slice A N cA,.slice D m cD].getD j undef))(hR:bS w A N R)(hN:N<=1000)(hn:0<=n/\n<=100):
 aG prog 119 [.pointer P,aj i] w (uZ (ke n R i) w):=by
 refine bs func119 O ntmps119 O (bF O) (aY O ?_);refine eT hP (by decide) O O ?_;refine aT hP O (kk (j:=0) hP (by exact aS Value.pointer O) O O O O (gH O O O (by omega) (aO (oK _ _ _ _) O ?_)));rintro _ _ ⟨rfl,rfl⟩
 first | refine dv rfl rfl ?_ | refine eJ rfl rfl ?_
 refine aA O (aJ _ O (fun h2=>?_) (fun h2=>?_))
 ·refine aC O (e6 (i:= -1) (St.refl _) O O O ?_);intro A9 w2 ay;refine bW O (dH O ?_);unfold uZ ke;rw [aB h2];exact⟨A9,1,O,ay⟩
 refine aC O (eT hP (by decide) O O (aT hP O (a7 hP O (aq O (aO (Te A N cA R i _ hR (by omega)) O ?_)))));rintro _ w2 ⟨A9,c9,rfl,ay⟩;refine bW O (dH O ?_);unfold uZ ke;rw [aF (fp.1 h2)];exact⟨A9,c9,O,ay⟩
end
section
open Go.RowKit Go.MapKept
structure pz{κ:Type}(d:TypeDesc)(kv:κ->ab):Prop where
 isKey:∀a,IsKey d (kv a)
 inj:∀a b,kv a=kv b->a=b
section
variable {κ ν:Type} [DecidableEq κ]
def eB:List (κ×ν)->κ->Option ν
 | [],_=>none
 | (y,v)::r,x=>if y=x then some v else eB r x
def gz:List (κ×ν)->κ->ν->List (κ×ν)
 | [],x,v=> [(x,v)]
 | (y,u)::r,x,v=>if y=x then(x,v)::r else(y,u)::gz r x v
def jQ:List (κ×ν)->κ->Option (Nat×ν)
 | [],_=>none
 | (y,v)::r,x=>if y=x then some (0,v)else(jQ r x).map fun p=> (p.1+1,p.2)
theorem FN:∀(L:List (κ×ν)) (x:κ),eB L x=(jQ L x).map (·.2)
 | [],_=>rfl
 | (y,v)::r,x=>by
  simp only [eB,jQ]
  split
  ·rfl
  ·rw [FN r x,Option.map_map];rfl
theorem FP:∀ {L:List (κ×ν)} {x:κ} {j:Nat} {v:ν},jQ L x=some (j,v)->L[j]?=some (x,v)/\∀u,gz L x u=L.set j (x,u)
 | (y,w)::r,x,j,v,h=>by
  simp only [jQ]at h
  split at h
  ·rename_i e;simp only [kP,Prod.mk.injEq]at h;obtain⟨rfl,rfl⟩:=h;subst e;exact⟨O,fun u=>by simp [gz]⟩
  ·rename_i e;cases hf:jQ r x with
   | none=>simp [hf]at h
   | some p=>
    simp only [hf,Option.map_some,kP,Prod.mk.injEq]at h;obtain⟨rfl,rfl⟩:=h;obtain⟨h1,h2⟩:=FP (L:=r) (x:=x) (j:=p.1) (v:=p.2) hf;exact⟨by simpa using h1,fun u=>by simp only [gz,aB e,h2 u,List.set_cons_succ]⟩
theorem FO:∀ {L:List (κ×ν)} {x:κ},jQ L x=none->∀u,gz L x u=L++ [(x,u)]
 | [],x,_,u=>rfl
 | (y,w)::r,x,h,u=>by
  simp only [jQ]at h
  split at h
  ·cases h
  ·rename_i e;rw [Option.map_eq_none_iff]at h;simp only [gz,aB e,FO h u,List.cons_append]
theorem FZ(L:List (κ×ν))(x y:κ)(u:ν):eB (gz L x u) y=if x=y then some u else eB L y:=by
 induction L with
 | nil=>simp only [gz,eB]
 | cons p r ih=>
  obtain⟨z,w⟩:=p;simp only [gz]
  by_cases e:z=x
  ·subst e;rw [aF rfl];simp only [eB]
   split<;>simp_all
  ·rw [aB e];simp only [eB,ih]
   by_cases e2:z=y
   ·subst e2;rw [aF rfl,aB (fun h=>e h.symm),aF rfl]
   ·rw [aB e2,aB e2]
def gF(kv:κ->ab)(vv:ν->ab)(L:List (κ×ν)):List (ab×ab):=L.map fun p=> (kv p.1,vv p.2)
theorem xG{d:TypeDesc}{kv:κ->ab}{vv:ν->ab}(K:pz d kv)(x:κ):∀(l:List MapEntry) (L:List (κ×ν)) (i:Nat),l.map (fun e=> (e.key,e.val))=gF kv vv L->Instr.findNow d (kv x) l i=some ((jQ L x).map fun p=> (i+p.1,vv p.2))
 | [],[],_,_=>rfl
 | [],_::_,_,h=>by simp [gF]at h
 | _::_,[],_,h=>by simp [gF]at h
 | e::l,(y,v)::L,i,h=>by
  simp only [gF,List.map_cons,List.cons.injEq,Prod.mk.injEq]at h;obtain⟨⟨h1,h2⟩,h3⟩:=h;obtain⟨r,hr,vV⟩:=sameNow_of_keys (K.isKey x) (K.isKey y);simp only [Instr.findNow,jQ];rw [h1,hr];cases r with
  | true=>
   have e1:=K.inj _ _ (vV.1 O);subst e1;simp [h2]
  | false=>
   have cG:¬y=x:=fun q=>by
    have:=vV.2 (by rw [q]);cases this
   rw [aB cG];simp only;rw [xG K x l L (i+1) h3,Option.map_map]
   congr 2
   funext p;simp only [Function.comp];rw [Nat.add_assoc,Nat.add_comm 1]
end
def iv(t:ad)(g:Nat)(oC:List (ab×ab)):Ck:=⟨some ⟨g,0,none⟩,0,0,t,.tuple #[]::oX oC⟩
def ve(w:aa)(g:Nat)(oC:List (ab×ab)):Prop:=∃es cl,w.heap[g]?=some (.map es cl)/\es.toList.map (fun e=> (e.key,e.val))=oC
section
variable {w0 w w':aa} {ks:List Ck} {t:ad} {g:Nat} {oC:List (ab×ab)}
theorem St.ze(h:St w0 w ks)(i:Nat)(hk:ks[i]?=some (iv t g oC)):w0.heap.size<=g/\ve w g oC:=by
 rcases(h.get hk).cases with⟨_,_,_,g',es,cl,hA,hg,hh,hv⟩ | ⟨hm,_⟩
 ·have hA:some (⟨g,0,Option.none⟩:Addr)=some ⟨g',0,Option.none⟩:=hA;simp only [kP,Addr.mk.injEq,and_true]at hA;subst hA;have hv:(.tuple #[]::oX oC:List ab)= .tuple #[]::oX (es.toList.map fun e=> (e.key,e.val)):=hv;simp only [List.cons.injEq,true_and]at hv;exact⟨hg,es,cl,hh,(FI hv).symm⟩
 cases hm
theorem St.D7(h:St w0 w ks)(i:Nat)(hk:ks[i]?=some (iv t g oC)):ve w g oC:=(h.ze i hk).2
theorem St.Lp(h:St w0 w ks)(t:ad):St w0 (w.alloc (.map #[] 0)) (iv t w.heap.size []::ks):=by
 have hb:Below w.heap.size w (w.alloc (.map #[] 0)):=(Below.refl _ _).alloc (cO _) _;have h1:=h.ao hb;refine⟨h1.below,fun k hk=>?_,?_⟩
 ·rcases kj.1 hk with rfl | hk
  ·exact .ofM O ⟨O,O,_, #[],0,O,h.below.size,heap_alloc_new w _,O⟩
  exact h1.own k hk
 simp only [List.filterMap_cons,iv,Ck.fw,Option.map_some,lM];refine⟨fun cd=>?_,h.apart⟩;obtain⟨k',cE,o7⟩:=List.mem_filterMap.1 cd;have:=((h.own k' cE).lt o7).2;omega
theorem St.zv{i:Nat}{Dz:List (ab×ab)}{AK:Array MapEntry}{Fg:Nat}(h:St w0 w ks)(hk:ks[i]?=some (iv t g oC))(hv:AK.toList.map (fun e=> (e.key,e.val))=Dz):St w0 { w with heap:=w.heap.setIfInBounds g (.map AK Fg) } (ks.set i (iv t g Dz)):=by
 obtain⟨hg,es,cl,hh,_⟩:=h.ze i hk;refine h.turn (k:=iv t g oC) (k':=iv t g Dz) (g:=g) hk O O ⟨⟨O,O,O,by simp,fun x _ hx=>?_⟩,cO _⟩ ?_
 ·exact(heap_set hh).2 x fun e=>hx (by rw [e])
 refine .ofM O ⟨O,O,g,AK,Fg,O,hg,(heap_set hh).1,?_⟩;rw [hv];rfl
end
section
variable{t kt et T:ad}{b:Nat}
variable {P:Program} {N:Nat} {ops:Array Oper} {K:Env->aa->Prop} {rest:List Oper} {e:Env} {w0 w w':aa} {ks:List Ck} {d:Nat} {ty:ad} {pos:String} {af:Array Edge}
variable {κ ν:Type} [DecidableEq κ] {kd:TypeDesc} {kv:κ->ab} {vv:ν->ab}
theorem EL(hS:St w0 w ks)(hb:Nat.blt d N=true)(hK:∀g w',St w0 w' (iv t g []::ks)->ak P N ops K rest (br e d (.map (some g))) w'):
 ak P N ops K (⟨some d,.makeMap t none,ty,pos,af,none⟩::rest) e w:=
 .val (w':=w.alloc (.map #[] 0)) (by simp [execOp,run_makeMap]) hb (hK _ _ (hS.Lp t))
theorem JS{z:ab}{s:Nat}[hU:bK P t (.map kt et)][hk:bK P kt kd][bL P et z s b](KT:pz kd kv){g:Nat}{L:List (κ×ν)}{x:κ}(hR:ve w g (gF kv vv L))(ok:Bool):
 (Instr.lookup t (.map (some g)) (kv x) ok).run P w= .ok (if ok then .tuple #[((eB L x).map vv).getD z,.bool (eB L x).isSome]else((eB L x).map vv).getD z) w:=by
 obtain⟨es,cl,hh,hm⟩:=hR;obtain⟨inf,hi,fk,_,_⟩:=bL.get P et;have hf:=xG (vv:=vv) KT x es.toList L 0 hm;rw [FN];unfold Instr.lookup;simp only [Sem.run_bind,run_underlying hU.out,Result.andThen,MapKept.run_getObj_map hh,MapKept.run_checkKey hk.out (KT.isKey x)];cases jn:jQ L x with
 | none=>
  rw [jn]at hf;have pY:=MapKept.run_findKey (P:=P) (w:=w) hk.out hf;cases ok<;>simp [pY,zeroValue,typeInfo,hi,fk]
 | some p=>
  rw [jn]at hf;have pY:=MapKept.run_findKey (P:=P) (w:=w) hk.out hf;cases ok<;>simp [pY]
theorem EI{z v:ab}{s:Nat}[bK P t (.map kt et)][bK P kt kd][bL P et z s b](KT:pz kd kv){g:Nat}{L:List (κ×ν)}{m ix:ae}{x:κ}(hR:ve w g (gF kv vv L))(hx:ev e m= .map (some g))(hy:ev e ix=kv x)(hv:((eB L x).map vv).getD z=v)(hb:Nat.blt d N=true)(hK:ak P N ops K rest (br e d v) w):ak P N ops K (⟨some d,.lookup t m ix false,ty,pos,af,none⟩::rest) e w:=by
 subst hv;refine .val (w':=w) ?_ hb hK;have:=JS (P:=P) (t:=t) (x:=x) KT hR false;simp [execOp,hx,hy,this]
theorem TN[hU:bK P t (.map kt et)][hk:bK P kt kd](KT:pz kd kv){g:Nat}{L:List (κ×ν)}(i:Nat)(x:κ)(u:ν)(hS:St w0 w ks)(hi:ks[i]?=some (iv T g (gF kv vv L))):
 ∃w',(Instr.mapUpdate t (.map (some g)) (kv x) (vv u)).run P w= .ok () w'/\St w0 w' (ks.set i (iv T g (gF kv vv (gz L x u)))):=by
 obtain⟨_,es,cl,hh,hm⟩:=hS.ze i hi;have hf:=xG (vv:=vv) KT x es.toList L 0 hm;have pY:=MapKept.run_findKey (P:=P) (w:=w) hk.out hf;cases jn:jQ L x with
 | none=>
  refine⟨{ w with heap:=w.heap.setIfInBounds g (.map (es.push ⟨kv x,vv u,cl⟩) (cl+1)) },?_,hS.zv hi ?_⟩
  ·simp [Instr.mapUpdate,run_underlying hU.out,MapKept.run_getObj_map hh,MapKept.run_checkKey hk.out (KT.isKey x),pY,jn,MapKept.run_setObj_map _ hh,Result.andThen]
  ·rw [FO jn];simp only [Array.toList_push,iT,hm,gF]
   rfl
 | some p=>
  obtain⟨j,v⟩:=p;obtain⟨h1,h2⟩:=FP jn;have iL:j<L.length:=(fu.1 h1).1;have Cq:es.toList.length=L.length:=by have:=aS List.length hm;simpa [gF]using this
  have hes:es.size=L.length:=by simpa using Cq
  have uw:j<es.size:=by omega
  have Pf:es[j].key=kv x:=by
   have:=aS (fun l=>l[j]?) hm;simp [gF,h1,uw]at this;exact this.1
  have ax:=MapKept.run_keyThatStays (P:=P) (w:=w) (KT.isKey x);refine⟨{ w with heap:=w.heap.setIfInBounds g (.map (es.modify j fun e=> { e with key:=kv x,val:=vv u }) cl) },?_,hS.zv hi ?_⟩
  ·simp [Instr.mapUpdate,run_underlying hU.out,MapKept.run_getObj_map hh,MapKept.run_checkKey hk.out (KT.isKey x),pY,jn,MapKept.run_setObj_map _ hh,Result.andThen,uw,Pf,ax]
  ·rw [h2 u];apply List.ext_getElem?;intro q;have hq:=aS (fun l=>l[q]?) hm;simp only [gF,List.getElem?_map,Array.getElem?_toList]at hq;simp only [gF,List.getElem?_map,jy,Array.getElem?_toList,Array.getElem?_modify]
   by_cases e1:j=q
   ·subst e1;simp [uw,iL]
   ·rw [aB e1,aB e1];exact hq
def Kb:Op->Option (ad×ae×ae×ae)
 | .mapUpdate t m k x=>some (t,m,k,x)
 | .insert t m k x=>some (t,m,k,x)
 | _=>none
theorem EO{op:Op}{m k x:ae}[hU:bK P t (.map kt et)][bK P kt kd](lZ:Kb op=some (t,m,k,x))(KT:pz kd kv){g:Nat}{L:List (κ×ν)}(i:Nat){a:κ}{u:ν}(hS:St w0 w ks)(hi:ks[i]?=some (iv T g (gF kv vv L)))(hm:ev e m= .map (some g))(hk:ev e k=kv a)(hx:ev e x=vv u)(hK:∀w',St w0 w' (ks.set i (iv T g (gF kv vv (gz L a u))))->ak P N ops K rest e w'):ak P N ops K (⟨none,op,ty,pos,af,none⟩::rest) e w:=by
 obtain⟨w',lC,jT⟩:=TN (P:=P) (t:=t) KT i a u hS hi;refine .unit (w':=w') ?_ (hK _ jT);cases op<;>simp [Kb]at lZ<;>obtain⟨rfl,rfl,rfl,rfl⟩:=lZ<;>simp [execOp,hm,hk,hx,lC]
end
end
end Go.Proofs.YtagdamiiececaaaGreatDoor.Vc
