/-
 Lemmas. Conditions: as each states them.
-/
import Derived.Test.YtagdamiiececaaaGreatDoorZh
import Derived.MapKept
import Derived.Carry
set_option maxHeartbeats 8000000
namespace Go.Proofs.YtagdamiiececaaaGreatDoor.Vc
open Tryz
section
open Go.RowKit
def vh(n:Nat)(R:ah)(B:ag):ag:=if(dF n R B).length<=400 then dF n R B else []
def ve(n:Nat)(R:ah)(B:ag):Int:=if(dF n R B).length<=400 then 0 else 3
abbrev qt(A1 PU Au ew:ai)(n:Nat)(A D:ai)(N cA cD:Nat)(al:List Bool)(dw:List aO)(U:ag):List Ck:=
 jL 4 ew N N al::Bx 25 1 PU [.slice Au N N]::dU A1 n A N cA D N cD::(aK 24 2 Au N N dw U++ [])
theorem Sk(n:Nat)(A D:ai)(cA cD:Nat)(R:ah)(rs:List aO)(B:ag)(w:aa)(hR:cd w A R.length R)(hB:bl w D B.length rs B)(hP:jP n R B):
 aE prog 56 [.agg #[aj n,.slice A R.length cA,.slice D B.length cD]] w (BI (vh n R B) (ve n R B) w):=by
 have hn:=hP.n1;have rD:=hP.B9;have hle:=hP.len;have bH:=fun e (h:e<R.length)=>hP.row e h
 have bO:∀e:Nat,e<R.length->(gl B e).length<=500:=fun e h=>by
  have:=tq (N:=R.length) (bH e h).1.nodup fun x hx=> ((bH e h).2 x hx).1
  omega
 have He:∀E F:Nat,(fF n R B E F).length=R.length:=fun E F=>uW
 have lU:∀E F:Nat,(fy n R B E F).length=R.length:=fun E F=>oC
 have MO:=fun E (h:E<R.length)=>aaI (n:=n) hP h
 have MN:=fun E (h:E<R.length)=>QF (n:=n) hP h
 have LW:=aaF (n:=n) (R:=R) (B:=B) (F:=R.length);have LX:=QC (n:=n) (R:=R) (B:=B) (F:=R.length);have xN:=fun E F (h:E<F) (hF:F<R.length)=>QB (n:=n) hP h hF
 have Ah:=fun E F (hE:E<R.length) h=>aaG (n:=n) (R:=R) (B:=B) (E:=E) (F:=F) hE h
 have Mv:=fun E F (hE:E<R.length) h=>QD (n:=n) (R:=R) (B:=B) (E:=E) (F:=F) hE h
 have FL:bl w D R.length rs B:=hle▸hB;have Ve:=Na n A D cA cD R rs B w hR hB hP;have jo:=fun x (h:x<R.length)=>QA (n:=n) hP h
 have MT:=fun x (h:x<R.length)=>O1 (n:=n) hP h
 have LU:=SZ (n:=n) (by omega) hP;have LA:=fun m (h:m<R.length)=>Ra (n:=n) (B:=B) h
 have zF:=Q8 (n:=n) (R:=R) (B:=B);have MU:=fun(e f:Int)=>qd (R:=R) (B:=B) (e:=e) (f:=f)
 obtain⟨N,hN⟩:∃N,R.length=N:=⟨_,rfl⟩;rw [hN]at hR rD hle bH bO FL MO MN LW LX xN Ah Mv jo MT LU LA zF;simp only [hN]at He lU MU;rw [hN,hle]at Ve|-;refine bm func56 O ntmps56 O (my O) (aY O (yJ (St.refl w) O O ?_));intro A1 w1 aB;have h1:Rd w1 A1 3 (fun j=> [Value.int .i64 (n:Int),.slice A N cA,.slice D N cD].getD j undef):=aB.rd 0 O;refine ao O (ac3 2 h1 O ?_);refine acW (Na n A D cA cD R rs B w1 (by rw [hN];exact aB.dY hR) (by rw [hle];exact aB.bE FL) hP) O (by rw [hN,hle];rfl) O ?_;rintro _ w2 ⟨rfl,aA⟩;have aw:=aB.aq aA.below;have h1:=Rd.below h1 aA.below;clear aA aB
 first | refine dM rfl rfl ?_ | refine eI rfl rfl ?_
 refine az O (Cd.dO O (aD O (aS h1 O (a8 h1 O (aH (wB _ _ _ _) O ?_)))));rintro _ w2 ⟨rfl,rfl⟩;refine ao O (Ey N aw O O (by omega) ?_);intro Au w3 aI;have aI:St w w3 ([aV 24 Au N N (List.replicate N cJ),dU A1 n A N cA D N cD]):=aI;refine ak.new (z:= .slice none 0 0) aI O O ?_;intro PU w4 aG;refine ak.st (i:=0) (j:=0) aG O (by exact bw Value.pointer (lC _).symm) O O (Nat.succ_pos _) ?_;intro w5 aR;have aR:St w w5 (Bx 25 1 PU [.slice Au N N]::[aV 24 Au N N (List.replicate N cJ),dU A1 n A N cA D N cD]):=aR;refine ao O (wR (v:=false) N aR O O (by omega) ?_);intro ew w6 aQ;have aQ:=DP (t:=2) N aQ;have a6:St w w6 (qt A1 PU Au ew n A D N cA cD (fy n R B N N) (List.replicate N cJ) (fF n R B N N)):=by
  rw [LW,LX];refine aQ.perm ?_
  classical
  refine List.perm_iff_count.2 fun z=>?_
  simp only [qt,aK,List.count_append,List.count_cons,List.count_nil];omega
 clear aQ aR aG aI aw h1;refine ao O (je O O O (by omega) (az O ?_));refine Cd.loop (α:=Nat×List aO) (fun z=> [(1,.pointer A1),(4,aj N),(5,.pointer PU),(6,.slice ew N N),(7,aj ((z.1:Int) - 1))]) (fun z w'=>z.1<=N/\z.2.length=N/\St w w' (qt A1 PU Au ew n A D N cA cD (fy n R B z.1 N) z.2 (fF n R B z.1 N))) (fun z=>z.1) (N,List.replicate N cJ) (ac4 O) ⟨dE _,by simp,a6⟩ ?_;clear a6;rintro⟨E',dw⟩ e w7 ⟨hE,rU,hS⟩;dsimp only at hE rU hS|-;refine b7 O (aM _ O (fun h2=>?_) (fun h2=>?_))
 ·obtain⟨E,rfl⟩:∃E,E'=E+1:=⟨E' - 1,by omega⟩;have tY:E<N:=by omega
  rw [show((E+1:Nat):Int) - 1=(E:Int) by omega];have CH:=hS.dY hR;have hal7:=lU (E+1) N;refine cH O ?_;refine jx [12] [yS (ew) (N) (N),yI ((E:Int)),yP (aF (A1) 1),yS (A) (N) (cA),yI ((E:Int)),yP (aF (A) ((E:Int)).toNat),yI (gi (R) ((E:Int))),yP (aF (A1) 0),yI ((n:Int)),yI (((n:Int)) - ((1:Int))),yB (decide ((gi (R) ((E:Int)))=(((n:Int)) - ((1:Int))))),yP (aF (ew) ((E:Int)).toNat),.pr (fun _ w'=>St w w' (qt A1 PU Au ew n A D N cA cD ((fy n R B (E+1) N).set E (decide (gi R E=(n:Int) - 1))) dw (fF n R B (E+1) N)))] (by kernel_rfl) (by kernel_rfl) (ly (ly (ly (ly (ly (ly (ly (ly (ly (ly (ly (ly (cL.2 ⟨Ye.cQ (fun v w w' h hb=>h.aq hb),(fun _ h=>by cases h)⟩))))))))))))) ?_ ?_
  ·refine⟨cj O,cj O,cP fun _ _ hb _ _ _=>aS ((hS.rd 2 O).below hb) O (bG O O),cP fun _ _ hb _ _ _=>a8 ((hS.rd 2 O).below hb) O (bG O O),cj O,cP fun _ _ hb _ _ _=>ay (CH.aq hb).2 O (bG O O),cP fun _ _ hb _ _ _=>bc (CH.aq hb) O (bG O O),cP fun _ _ hb _ _ _=>aS ((hS.rd 2 O).below hb) O (bG O O),cP fun _ _ hb _ _ _=>iw ((hS.rd 2 O).below hb) O O O O O (bG O O),aP fun _ _=>je O O O (by omega) (bG O O),cj O,cP fun _ _ hb _ _ _=>ay ((hS.jt 0 O).aq hb).2 O (bG O O),?_,au⟩;refine jy fun e1 w1 hb hp aX hq=>?_
   exact sw 0 (hS.aq hb) O O O (by omega) fun w6 aQ=>ak.n (fv.st O aQ)
  intro u w8 _ hu mR Wh;have a7:=hu 12 _ O (by kernel_rfl);rw [MN E tY,<-MO E tY]at a7;clear hS hu mR Wh;refine fK O (aL O (az O ?_));refine Cd.loop (α:=Nat×List aO) (fun z=> [(1,.pointer A1),(4,aj N),(5,.pointer PU),(6,.slice ew N N),(7,aj E),(8,aj (z.1:Int))]) (fun z w'=> (E<z.1/\z.1<=N)/\z.2.length=N/\St w w' (qt A1 PU Au ew n A D N cA cD (fy n R B E z.1) z.2 (fF n R B E z.1))) (fun z=>N - z.1) (E+1,dw) (ac4 O) ⟨⟨Nat.lt_succ_self _,by show E+1<=N;omega⟩,rU,a7⟩ ?_;clear a7 rU dw;rintro⟨F,dw⟩ e w9 ⟨⟨vn,TA⟩,rU,hS⟩;dsimp only at vn TA rU hS|-;refine b7 O (aM _ O (fun h3=>?_) (fun h3=>?_))
  ·have hF:F<N:=by omega
   have ua:=hS.dY hR;have FK:=hS.bE FL;have hal9:=lU E F;have s4:=xN E F vn hF;have VX:=bH F hF;have Hf:=MU (E:Int) (F:Int);have fN:=hP.ri (e:=(E:Int)) (by omega) (by omega);have h1:Rd w9 A1 3 (fun j=> [Value.int .i64 (n:Int),.slice A N cA,.slice D N cD].getD j undef):=hS.rd 2 O;have UB:gb (fy n R B E F) F=false\/(gb (fy n R B E F) F=true/\¬gi R F=gi R E+1)\/(gb (fy n R B E F) F=true/\gi R F=gi R E+1):=by
    cases gb (fy n R B E F) F<;>simp [Decidable.em,Classical.em]
    exact(Classical.em _).symm
   have uD:¬(eO n R B F/\(F:Int)∈jJ R B E)->St w w9 (qt A1 PU Au ew n A D N cA cD (fy n R B E (F+1)) dw (fF n R B E (F+1))):=fun h=>by
    rw [QE h,aaH h];exact hS
   rcases UB with hg | ⟨hg,hr⟩ | ⟨hg,hr⟩
   ·
    have eC:¬(eO n R B F/\(F:Int)∈jJ R B E):=fun h=>by
     rw [hg]at s4;have:=fo h.1;rw [<-s4]at this;cases this
    refine cH O (dK [xS (ew) (N) (N),xI ((F:Int)),xP (aF (ew) ((F:Int)).toNat),xB (gb (fy n R B E F) ((F:Int))),xB (false),xU,xU,xU,xU,xU,xU,xU,xU,xU,xU,xU,xU,xB (false),xB (false),xU,xU,xU,xB (false)] O (eo O) ?_ ?_)
    ·exact⟨Dr O,Dr O,fun _ _ hb _ _=>ay ((hS.jt 0 O).aq hb).2 O Az,fun _ _ hb _ _=>su ((hS.jt 0 O).aq hb) O (by omega) O O Az,fun _ _ _ _ _=>Dk O (by exact bw Value.bool (hg)),Dr O,Dr O,Dr O,Dr O,Dr O,Dr O,Dr O,Dr O,Dr O,Dr O,Dr O,Dr O,Dr O,fun _ _ _ _ _=>Dk O (by exact bw Value.bool (O)),Dr O,Dr O,Dr O,Dr O,au⟩
    intro u dt hb _;refine fw O (Cd.dO O ?_);refine aD O (aL O (aU O (tQ ?_)));exact⟨(F+1,dw),by show N - (F+1)<N - F;omega,(ac4 O),⟨Nat.lt_succ_of_lt vn,hF⟩,rU,(uD eC).aq hb⟩
   ·have eC:¬(eO n R B F/\(F:Int)∈jJ R B E):=fun h=>hr (Hf.1 h.2).2.1
    refine cH O ?_;refine dK [xS (ew) (N) (N),xI ((F:Int)),xP (aF (ew) ((F:Int)).toNat),xB (gb (fy n R B E F) ((F:Int))),xB (true),xP (aF (A1) 1),xS (A) (N) (cA),xI ((F:Int)),xP (aF (A) ((F:Int)).toNat),xI (gi (R) ((F:Int))),xP (aF (A1) 1),xS (A) (N) (cA),xI ((E:Int)),xP (aF (A) ((E:Int)).toNat),xI (gi (R) ((E:Int))),xI ((gi (R) ((E:Int)))+ ((1:Int))),xB (decide ((gi (R) ((F:Int)))=((gi (R) ((E:Int)))+ ((1:Int))))),xB (decide ((gi (R) ((F:Int)))=((gi (R) ((E:Int)))+ ((1:Int))))),xB (false),xU,xU,xU,xB (false)] O (eo O) ?_ ?_
    ·exact⟨Dr O,Dr O,fun _ _ hb _ _=>ay ((hS.jt 0 O).aq hb).2 O Az,fun _ _ hb _ _=>su ((hS.jt 0 O).aq hb) O (by omega) O O Az,fun _ _ _ _ _=>Dk O (by exact bw Value.bool (hg)),fun _ _ hb _ _=>ar O (aS (h1.below hb) O Az),fun _ _ hb _ _=>ar O (a8 (h1.below hb) O Az),Dr O,fun _ _ hb _ _=>ar O (ay (ua.aq hb).2 O Az),fun _ _ hb _ _=>ar O (bc (ua.aq hb) O Az),fun _ _ hb _ _=>ar O (aS (h1.below hb) O Az),fun _ _ hb _ _=>ar O (a8 (h1.below hb) O Az),Dr O,fun _ _ hb _ _=>ar O (ay (ua.aq hb).2 O Az),fun _ _ hb _ _=>ar O (bc (ua.aq hb) O Az),fun _ _ _ _ _=>ar O (aL O Az),Dr O,Dr O,fun _ _ _ _ _=>Dk O (by exact bw Value.bool (dq hr)),Dr O,Dr O,Dr O,Dr O,au⟩
    intro u dt hb _;refine fw O (Cd.dO O ?_);refine aD O (aL O (aU O (tQ ?_)));exact⟨(F+1,dw),by show N - (F+1)<N - F;omega,(ac4 O),⟨Nat.lt_succ_of_lt vn,hF⟩,rU,(uD eC).aq hb⟩
   have ha:eO n R B F:=mT (s4▸hg);refine cH O ?_;refine dK [xS (ew) (N) (N),xI ((F:Int)),xP (aF (ew) ((F:Int)).toNat),xB (gb (fy n R B E F) ((F:Int))),xB (true),xP (aF (A1) 1),xS (A) (N) (cA),xI ((F:Int)),xP (aF (A) ((F:Int)).toNat),xI (gi (R) ((F:Int))),xP (aF (A1) 1),xS (A) (N) (cA),xI ((E:Int)),xP (aF (A) ((E:Int)).toNat),xI (gi (R) ((E:Int))),xI ((gi (R) ((E:Int)))+ ((1:Int))),xB (decide ((gi (R) ((F:Int)))=((gi (R) ((E:Int)))+ ((1:Int))))),xB (decide ((gi (R) ((F:Int)))=((gi (R) ((E:Int)))+ ((1:Int))))),xB (true),xI ((E:Int)),xI ((F:Int)),xB (decide ((E:Int)∈gl B F)),xB (decide ((E:Int)∈gl B F))] O (eo O) ?_ ?_
   ·refine⟨Dr O,Dr O,fun _ _ hb _ _=>ay ((hS.jt 0 O).aq hb).2 O Az,fun _ _ hb _ _=>su ((hS.jt 0 O).aq hb) O (by omega) O O Az,fun _ _ _ _ _=>Dk O (by exact bw Value.bool (hg)),fun _ _ hb _ _=>ar O (aS (h1.below hb) O Az),fun _ _ hb _ _=>ar O (a8 (h1.below hb) O Az),Dr O,fun _ _ hb _ _=>ar O (ay (ua.aq hb).2 O Az),fun _ _ hb _ _=>ar O (bc (ua.aq hb) O Az),fun _ _ hb _ _=>ar O (aS (h1.below hb) O Az),fun _ _ hb _ _=>ar O (a8 (h1.below hb) O Az),Dr O,fun _ _ hb _ _=>ar O (ay (ua.aq hb).2 O Az),fun _ _ hb _ _=>ar O (bc (ua.aq hb) O Az),fun _ _ _ _ _=>ar O (aL O Az),Dr O,Dr O,fun _ _ _ _ _=>Dk O (by exact bw Value.bool (fo hr)),Dr O,Dr O,?_,Dr O,au⟩;intro e1 w1 hb hp aX;refine ar O ?_;refine aH (qI A1 A D cA cD n R rs B E F _ (by rw [hN,hle];exact Rd.below h1 hb) (by rw [hle];exact FK.aq hb) (by omega) VX.1 (by have:=bO F hF;omega)) O ?_;rintro _ w2 ⟨rfl,aA⟩;subst aA;refine ak.n (d0 (by exact O))
   intro u dt hb _;have bV:=hS.aq hb;refine fw O (aM _ O (fun h4=>?_) (fun h4=>?_))
   ·have iX:eO n R B F/\(F:Int)∈jJ R B E:=⟨ha,Hf.2 ⟨by omega,hr,h4⟩⟩;have Wi:=He E F;have mK:bl dt Au N dw (fF n R B E F):=by
     have h9:=bV.sub (show(aK 24 2 Au N N dw (fF n R B E F)).Sublist _ from(((kY _ _).cons _).cons _).cons _);exact h9.yr Wi
    have Dl:=(mK.at_ (i:=(E:Int)) (by omega) (by omega)).1;have gI:(rg dw E).n<=500:=by
     rw [<-Dl,Iz (by omega)];unfold sg
     split
     ·exact bA _
     refine lI (ox _ _) ?_;have:=tq (N:=R.length) (Ei R B E).nodup fun x hx=> (qd.1 hx).1
     omega
    have Lw:Rd dt PU 1 (fun _=> .slice Au N N):=Rd.one (bV.rd 1 O);have pO:∀A9:ai,(ax 2 A9 1 1 [(F:Int)]::qt A1 PU Au ew n A D N cA cD (fy n R B E F) dw (fF n R B E F))[4+1+E]?=some (ax 2 (rg dw E).a (rg dw E).n (rg dw E).c (gl (fF n R B E F) E)):=fun A9=>Be (t1:=24) (t2:=2) (A:=Au) (n:=N) (c:=N) (rs:=dw) (xss:=fF n R B E F) (pre:=[ax 2 A9 1 1 [(F:Int)],jL 4 ew N N (fy n R B E F),Bx 25 1 PU [.slice Au N N],dU A1 n A N cA D N cD]) (ks:=[]) (i:=E) (by omega) (by omega)
    have xE:=fun(A9:ai) (s:aO) (xs:ah)=>YH (t1:=24) (t2:=2) (A:=Au) (n:=N) (c:=N) (rs:=dw) (xss:=fF n R B E F) (ks:=[]) (pre:=[ax 2 A9 1 1 [(F:Int)],jL 4 ew N N (fy n R B E F),Bx 25 1 PU [.slice Au N N],dU A1 n A N cA D N cD]) (i:=E) s xs (by omega) (by omega)
    clear hS;refine cH O ?_;refine jx [8,10] [yS Au N N,yI ((E:Int)),yS (Au) (N) (N),yI ((E:Int)),yP (aF (Au) ((E:Int)).toNat),yS ((rg (dw) ((E:Int))).a) ((rg (dw) ((E:Int))).n) ((rg (dw) ((E:Int))).c),yI ((F:Int)),.pr (fun v w'=>∃A9,v= .slice A9 1 1/\St w w' (ax 2 A9 1 1 [(F:Int)]::qt A1 PU Au ew n A D N cA cD (fy n R B E F) dw (fF n R B E F))),.pr (fun v w'=>∃AZ cZ,v= .slice AZ ((rg dw E).n+1) cZ/\St w w' (jL 4 ew N N (fy n R B E F)::Bx 25 1 PU [.slice Au N N]::dU A1 n A N cA D N cD::(aV 24 Au N N dw::(bS 2 (dw.set E ⟨AZ,(rg dw E).n+1,cZ⟩) ((fF n R B E F).set E (gl (fF n R B E F) E++ [(F:Int)]))++ [])))),yP (aF Au ((E:Int)).toNat),.pr (fun _ w'=>∃AZ cZ,St w w' (qt A1 PU Au ew n A D N cA cD (fy n R B E F) (dw.set E ⟨AZ,(rg dw E).n+1,cZ⟩) ((fF n R B E F).set E (gl (fF n R B E F) E++ [(F:Int)]))))] (by kernel_rfl) (by kernel_rfl) (ly (ly (ly (ly (ly (ly (ly (cL.2 ⟨Ye.cQ (fun v w w' h hb=>by obtain⟨A9,hv,hT⟩:=h;exact⟨A9,hv,hT.aq hb⟩),(cL.2 ⟨Ye.cQ (fun v w w' h hb=>by obtain⟨AZ,cZ,hv,hT⟩:=h;exact⟨AZ,cZ,hv,hT.aq hb⟩),(ly (cL.2 ⟨Ye.cQ (fun v w w' h hb=>by obtain⟨AZ,cZ,hT⟩:=h;exact⟨AZ,cZ,hT.aq hb⟩),(fun _ h=>by cases h)⟩))⟩)⟩)))))))) ?_ ?_
    ·refine⟨?_,cj O,cP fun _ _ hb _ _ _=>acZ (j:=0) (Lw.below hb) (by exact bw Value.pointer (lC _).symm) O O O O (bG O O),cj O,cP fun _ _ hb _ _ _=>ay (mK.top.aq hb).2 O (bG O O),cP fun _ _ hb _ _ _=>bB (mK.top.aq hb) O (bG O O),cj O,?_,?_,?_,?_,au⟩
     ·intro e1 w1 cc eY dQ eP hp aX hq;show ak _ _ _ _ _ _ _;have hX:Rd w1 PU 1 (fun _=> .slice Au N N):=by { have dQ:=uG dQ (b:=1) (by kernel_rfl);rcases(show cc=0\/cc=1 by omega)with h | h; { exact Rd.below Lw (eP h) }; { subst h;obtain⟨AZ,cZ,_,hT⟩:=hq 8 _ _ (by kernel_rfl) (by kernel_rfl) (by kernel_rfl) rfl rfl (by kernel_rfl);exact Rd.one (hT.rd 1 rfl) } }
      refine acZ (j:=0) hX (by exact bw Value.pointer (lC _).symm) O O O O (ak.n (fO O (by exact O)))
     ·refine cP fun e1 w1 hb hp aX hq=>?_
      exact fk (St.refl _) O O O fun A9 w9 aA=>ak.n (fB.dn O aA.below ⟨A9,O,(bV.aq hb).call aA⟩)
     ·refine jy fun e1 w1 hb hp aX hq=>?_
      obtain⟨A9,Tn,hT⟩:=(hp 7 _ _ (by kernel_rfl) rfl rfl (by kernel_rfl));refine fR (4+1+E) hT (pO A9) (hT.bz 0 O) O (by exact Tn) O ?_;intro AZ cZ wZ hZ;have hZ:=(xE A9 ⟨AZ,(rg dw E).n+1,cZ⟩ (gl (fF n R B E F) E++ [(F:Int)]))▸hZ;exact ak.n (fv.dn O ⟨AZ,cZ,O,hZ.tail⟩)
     ·intro e1 w1 cc eY dQ eP hp aX hq;show ak _ _ _ _ _ _ _;have hX:gp w1 Au N dw:=by { have dQ:=uG dQ (b:=1) (by kernel_rfl);rcases(show cc=0\/cc=1 by omega)with h | h; { exact mK.top.aq (eP h) }; { subst h;obtain⟨AZ,cZ,_,hT⟩:=hq 8 _ _ (by kernel_rfl) (by kernel_rfl) (by kernel_rfl) rfl rfl (by kernel_rfl);exact hT.eG 3 rfl } }
      refine ay hX.2 O (ak.n (fO O (by exact O)))
     refine pn 1 fun e1 w1 hp aX hq=>?_
     have dT:=hp 8 _ _ (by kernel_rfl) O O (by kernel_rfl);obtain⟨AZ,cZ,To,hT⟩:=dT;refine yQ (te:=24) (n:=N) (c:=N) (A:=Au) (xs:=dw) 3 hT O O (by exact To) (by omega) ?_;intro wY hY;exact ak.n (fv.st O ⟨AZ,cZ,hY⟩)
    intro u si _ hu _ _;obtain⟨AZ,cZ,hT⟩:=hu 10 _ rfl (by kernel_rfl);rw [Ah E F tY iX]at hT;refine fK O (ay (hT.jt 0 O).2 O (sw 0 hT O O O (by omega) ?_));intro qT nn;rw [gn,Mv E F tY iX]at nn;refine ao O (aL O (aU O (tQ ?_)));exact⟨(F+1,_),by show N - (F+1)<N - F;omega,(ac4 O),⟨Nat.lt_succ_of_lt vn,hF⟩,by simp [rU],nn⟩
   have eC:¬(eO n R B F/\(F:Int)∈jJ R B E):=fun h=>h4 (Hf.1 h.2).2.2
   refine aD O (aL O (aU O (tQ ?_)));exact⟨(F+1,dw),by show N - (F+1)<N - F;omega,(ac4 O),⟨Nat.lt_succ_of_lt vn,hF⟩,rU,(uD eC).aq hb⟩
  have hF:F=N:=by omega
  subst hF;refine bo O (bp (cn O (je O O O (by omega) (aU O (tQ ?_)))));exact⟨(E,dw),by show E<E+1;omega,(ac4 O),by show E<=F;omega,rU,hS⟩
 obtain rfl:E'=0:=by omega
 refine bo O (bp (cn O ?_));refine ak.new (z:= .slice none 0 0) hS O O fun PF w8 a7=>ao O (ak.new (z:= .nilFunc) a7 O O ?_);intro PG w9 aW;refine ao O (Qg O O O O O (ak.st (i:=0) (j:=0) aW O (by exact bw Value.pointer (lC _).symm) O O (Nat.succ_pos _) ?_));intro dt bV;have bV:=(bV.nil 2);clear aW a7 hS;refine az O (Cd.loop (α:=Nat×ai×Nat) (fun z=> [(1,.pointer A1),(4,aj N),(6,.slice ew N N),(9,.pointer PF),(10,.pointer PG),(11,.slice z.2.1 ((dV z.1).filter fun e=>decide (gi R e=0) && decide (eO n R B e)).length z.2.2),(85,aj N),(86,aj (z.1:Int))]) (fun z w'=>z.1<=N/\St w w' (ax 2 z.2.1 ((dV z.1).filter fun e=>decide (gi R e=0) && decide (eO n R B e)).length z.2.2 ((dV z.1).filter fun e=>decide (gi R e=0) && decide (eO n R B e))::Bx 107 1 PG [.func (.func 108) #[] #[.pointer PF,.pointer A1,.pointer PG,.pointer PU]]::Bx 25 1 PF [.slice none 0 0]::qt A1 PU Au ew n A D N cA cD (fy n R B 0 N) dw (fF n R B 0 N))) (fun z=>N - z.1) (0,none,0) (ac4 O) ⟨bA _,bV⟩ ?_);clear bV;rintro⟨j,AF,cF⟩ e dB ⟨hj,hS⟩;dsimp only at hj hS|-;have jq:((dV j).filter fun e=>decide (gi R e=0) && decide (eO n R B e)).length<=500:=by
  refine lI (ox _ _) ?_;rw [dV,fQ,pf];omega
 refine b7 O (aM _ O (fun h3=>?_) (fun h3=>?_))
 ·have LZ:j<N:=by omega
  have CW:=LA j LZ;have vu:=hS.dY hR;have h1:Rd dB A1 3 (fun j=> [Value.int .i64 (n:Int),.slice A N cA,.slice D N cD].getD j undef):=hS.rd 5 O;have KV:tG dB ew N (fy n R B 0 N):=hS.jt 3 O;have U1:=jo j LZ;have uD:¬(gi R j=0/\eO n R B j)->((dV (j+1)).filter fun e=>decide (gi R e=0) && decide (eO n R B e))=((dV j).filter fun e=>decide (gi R e=0) && decide (eO n R B e)):=fun h=>by
   rw [CW,aC h,iG]
  refine aD O (aS h1 O (a8 h1 O (ao O (ay vu.2 O (bc vu O (ao O ?_))))));refine bX 95 O (fun h4=>?_) (fun h4=>?_)
  ·refine ar O (ao O (ar O (ao O (ar O ?_))));refine ay KV.2 O (ar O (su KV O (by omega) O O (az O ?_)));rw [U1];refine aM _ O (fun h5=>?_) (fun h5=>?_)
   ·rw [aJ ⟨h4,h5⟩]at CW;refine aD O (fk hS O O O ?_);intro A9 iO fU;refine fR 1 fU O (fU.bz 0 O) O O O ?_;intro AZ cZ jK gL;have gL:=gL.tail;refine ao O (aL O (aU O (tQ ?_)));refine⟨(j+1,AZ,cZ),by show N - (j+1)<N - j;omega,⟨O,O,O,O,O,?_,O,O,au⟩,by show j+1<=N;omega,?_⟩
    ·show Value.slice _ _ _=_;rw [CW,e8];rfl
    show St w jK (ax _ _ (((dV (j+1)).filter _).length) _ ((dV (j+1)).filter _)::_);rw [CW,e8];exact gL
   refine aD O (aL O (aU O (tQ ?_)));refine⟨(j+1,AF,cF),by show N - (j+1)<N - j;omega,⟨O,O,O,O,O,?_,O,O,au⟩,by show j+1<=N;omega,?_⟩
   ·show Value.slice _ _ _=_;rw [uD (fun h=>h5 h.2)]
   show St w dB (ax _ _ (((dV (j+1)).filter _).length) _ ((dV (j+1)).filter _)::_);rw [uD (fun h=>h5 h.2)];exact hS
  refine av O (av O (av O (av O (az O ?_))));refine Cd.dO O (aD O (aL O (aU O (tQ ?_))));refine⟨(j+1,AF,cF),by show N - (j+1)<N - j;omega,⟨O,O,O,O,O,?_,O,O,au⟩,by show j+1<=N;omega,?_⟩
  ·show Value.slice _ _ _=_;rw [uD (fun h=>h4 h.1)]
  show St w dB (ax _ _ (((dV (j+1)).filter _).length) _ ((dV (j+1)).filter _)::_);rw [uD (fun h=>h4 h.1)];exact hS
 obtain rfl:j=N:=by omega
 rw [zF]at hS jq|-;generalize UY:((tK R).filter fun f=>decide (eO n R B f))=fi at*;have UZ:∀x∈fi,0<=x/\x< (j:Int):=fun x hx=>by
  rw [<-UY]at hx;have:=(y7.1 (jb.1 hx).1).1;omega
 have lh:Rd dB PG 1 (fun _=> .func (.func 108) #[] #[.pointer PF,.pointer A1,.pointer PG,.pointer PU]):=Rd.one (hS.rd 1 O);have Ub:St w dB (lM PF none 0 [] [] A1 n A j cA D j cD PG PU Au j j dw (fF n R B 0 j) [ax 2 AF fi.length cF fi,jL 4 ew j j (fy n R B 0 j)]):=by
  have h9:=(hS.perm (show List.Perm _ (Bx 25 1 PF [.slice none 0 0]::(dU A1 n A j cA D j cD::Bx 107 1 PG [.func (.func 108) #[] #[.pointer PF,.pointer A1,.pointer PG,.pointer PU]]::Bx 25 1 PU [.slice Au j j]::(aK 24 2 Au j j dw (fF n R B 0 j)++ [ax 2 AF fi.length cF fi,jL 4 ew j j (fy n R B 0 j)]))) from by
   classical
   refine List.perm_iff_count.2 fun z=>?_
   simp only [qt,List.count_append,List.count_cons,List.count_nil];omega))
  exact(h9.nil 24).perm (List.Perm.swap _ _ _)
 clear hS;have pK:∀e:Nat,e<j->(gl (fF n R B 0 j) e).length<=500/\∀x∈gl (fF n R B 0 j) e,0<=x/\x< (j:Int):=fun e he=>by
  rw [MT e he];refine⟨lI (ox _ _) ?_,fun x hx=>?_⟩
  ·have:=tq (N:=R.length) (Ei R B e).nodup fun x hx=> (qd.1 hx).1
   omega
  have:=(qd.1 (jb.1 hx).1).1;omega
 refine bo O (bp (cn O ?_));refine ak.ld lh (by exact bw Value.pointer (lC _).symm) (by decide) O O O ?_;refine ao O (aH (S5 w n (by omega) PF A1 A D PG PU Au j cA j cD j j dw (fF n R B 0 j) (He 0 j) (by omega) pK (n - 1) 0 fi.length [] fi none AF 0 cF [ax 2 AF fi.length cF fi,jL 4 ew j j (fy n R B 0 j)] _ none 0 [] [] O O (by omega) jq UZ (fun _ _ _ _ _ _=>cd.nil) (fun w' A c rs F h=>NQ h) O (bA _) Ub) O ?_);rintro _ iO ⟨rfl,A',c',rs',oQ,hS⟩;rw [List.nil_append,LU]at oQ hS;have fp:Rd iO PF 1 (fun _=> .slice A' (cap (dF n R B)).length c'):=Rd.one (hS.rd 0 O);refine ao O (acZ (j:=0) fp (by exact bw Value.pointer (lC _).symm) O O O O ?_);refine aZ O O (az O ?_);have cz:=JH (dF n R B);have LG:=JF (l:=dF n R B);refine aM _ O (fun h4=>?_) (fun h4=>?_)
 ·have eC:¬(dF n R B).length<=400:=fun h=>by have:=LG.2 h;omega
  refine cE O (uT O O ?_);unfold vh ve;rw [aC eC,aC eC];exact BI.none hS
 have iX:(dF n R B).length<=400:=LG.1 (by omega);rw [EW (by omega)]at oQ hS fp|-;refine aD O (acZ (j:=0) fp (by exact bw Value.pointer (lC _).symm) O O O O (bu O (uT O O ?_)));unfold vh ve;rw [aJ iX,aJ iX];exact⟨A',c',rs',O,oQ,Qs (pre:=[]) (hS.sub ((kY _ _).cons _))⟩
end
section
variable{b y:Nat}{L L' L0:ah}{fl:ag}{S:Nat->Prop}{Q:List Nat}
structure wT(N:Nat)(K:Nat->Nat->Prop):Prop where
 sym:∀a b,K a b->K b a
 tz:∀a b c,K a b->K b c->K a c
 eS:∀a b,K a b->a<N/\b<N
def iS(N:Nat)(K:Nat->Nat->Prop)(f:Nat)(L:ah):Prop:=
 L.length=N/\∀x:Nat,x<N->(0<=gi L x->∃r:Nat,gi L x=r/\r<f/\K r x/\∀c,K c x->r<=c)/\(gi L x<0->gi L x= -1/\∀c,c<f->¬K c x)
theorem iS.zero(N:Nat)(K:Nat->Nat->Prop):iS N K 0 (List.replicate N (-1)):=
 ⟨by simp,fun x hx=>by
  rw [sI (by omega) (by omega)];exact⟨fun h=>absurd h (by omega),fun _=> ⟨O,fun c hc=>absurd hc (by omega)⟩⟩⟩
theorem iS.skip{N:Nat}{K:Nat->Nat->Prop}(hK:wT N K){f:Nat}(h:iS N K f L)(hf:f<N)(h0:0<=gi L f\/¬K f f):iS N K (f+1) L:=by
 refine⟨h.1,fun x hx=> ⟨fun h1=>?_,fun h1=>?_⟩⟩
 ·obtain⟨r,h2,h3,h4⟩:=(h.2 x hx).1 h1;exact⟨r,h2,by omega,h4⟩
 obtain⟨h2,h3⟩:=(h.2 x hx).2 h1;refine⟨h2,fun c hc hk=>?_⟩
 by_cases e:c=f
 ·subst e;rcases h0 with h0 | h0
  ·obtain⟨r,h4,h5,h6,_⟩:=(h.2 c hf).1 h0;exact h3 r h5 (hK.tz _ _ _ h6 hk)
  exact h0 (hK.tz _ _ _ hk (hK.sym _ _ hk))
 exact h3 c (by omega) hk
theorem iS.o6{N:Nat}{K:Nat->Nat->Prop}(hK:wT N K){f:Nat}(h:iS N K f L)(hf:f<N)(h0:gi L f<0)(hl:L'.length=N)(hp:∀x:Nat,x<N->(K f x->gi L' x=f)/\(¬K f x->gi L' x=gi L x)):iS N K (f+1) L':=by
 refine⟨hl,fun x hx=>?_⟩;have h9:=(h.2 f hf).2 h0
 by_cases hk:K f x
 ·rw [(hp x hx).1 hk];refine⟨fun _=> ⟨f,O,by omega,hk,fun c hc=>?_⟩,fun h=>absurd h (by omega)⟩;refine Nat.le_of_not_lt fun cI=>h9.2 c cI (hK.tz _ _ _ hc (hK.sym _ _ hk))
 rw [(hp x hx).2 hk];refine⟨fun h1=>?_,fun h1=>?_⟩
 ·obtain⟨r,h2,h3,h4⟩:=(h.2 x hx).1 h1;exact⟨r,h2,by omega,h4⟩
 obtain⟨h2,h3⟩:=(h.2 x hx).2 h1;refine⟨h2,fun c hc lW=>?_⟩
 by_cases e:c=f
 ·subst e;exact hk lW
 exact h3 c (by omega) lW
theorem iS.done{N:Nat}{K:Nat->Nat->Prop}(hK:wT N K)(h:iS N K N L){a:Nat}(ha:K a a)(hb:K b b):gi L a=gi L b↔K a b:=by
 have get:∀x,K x x->∃r:Nat,gi L x=r/\K r x/\∀c,K c x->r<=c:=fun x hx=>by
  have AG:=(hK.eS _ _ hx).1;rcases Int.lt_or_le (gi L x) 0 with h1 | h1
  ·exact absurd hx (((h.2 x AG).2 h1).2 x AG)
  obtain⟨r,h2,_,h4,h5⟩:=(h.2 x AG).1 h1;exact⟨r,h2,h4,h5⟩
 obtain⟨r,h1,h2,h3⟩:=get a ha;obtain⟨s,h4,h5,h6⟩:=get b hb;rw [h1,h4];constructor
 ·intro e;obtain rfl:r=s:=by omega
  exact hK.tz _ _ _ (hK.sym _ _ h2) h5
 intro hk;have h7:=h3 s (hK.tz _ _ _ h5 (hK.sym _ _ hk));have h8:=h6 r (hK.tz _ _ _ h2 hk);omega
def qV(n:Nat)(fl:ag)(i a b:Nat):Prop:=a<fl.length/\b<fl.length/\∀k:Nat,k<n->k≠i->gi (gl fl a) k=gi (gl fl b) k
theorem qV.symm{n:Nat}{i a:Nat}(h:qV n fl i a b):qV n fl i b a:=⟨h.2.1,h.1,fun k hk b9=> (h.2.2 k hk b9).symm⟩
inductive jd(n:Nat)(fl:ag)(S:Nat->Prop)(a:Nat):Nat->Prop where
 | refl:a<fl.length->jd n fl S a a
 | step {b c i:Nat}:jd n fl S a b->i<n->¬S i->qV n fl i b c->jd n fl S a c
theorem jd.trans{n:Nat}{a c:Nat}(h:jd n fl S a b)(h':jd n fl S b c):jd n fl S a c:=by
 induction h' with
 | refl=>exact h
 | step _ hi hs ha ih=>exact .step ih hi hs ha
theorem jd.eS{n:Nat}{a:Nat}(h:jd n fl S a b):a<fl.length/\b<fl.length:=by
 induction h with
 | refl h=>exact⟨h,h⟩
 | step _ _ _ ha ih=>exact⟨ih.1,ha.2.1⟩
theorem jd.symm{n:Nat}{a:Nat}(h:jd n fl S a b):jd n fl S b a:=by
 induction h with
 | refl h=>exact .refl h
 | step h hi hs ha ih=>exact(jd.step (.refl ha.2.1) hi hs ha.symm).trans ih
theorem jd.keep{n:Nat}{a:Nat}(h:jd n fl S a b):∀k:Nat,k<n->S k->gi (gl fl b) k=gi (gl fl a) k:=by
 induction h with
 | refl h=>exact fun _ _ _=>rfl
 | step h hi hs ha ih=>
  intro k hk hS;rw [<-ha.2.2 k hk (fun e=>hs (e▸hS)),ih k hk hS]
def BK(n:Nat)(fl:ag):Prop:=∀a b:Nat,a<b->b<fl.length->jd n fl (fun k=>gi (gl fl a) k=gi (gl fl b) k) a b
structure mG(N:Nat)(K A:Nat->Nat->Prop)(f:Nat)(L0 L:ah)(Q:List Nat)(k:Nat):Prop where
 len:L.length=N
 tl:∀x∈Q,x<N/\gi L0 x<0/\K f x
 bM:∀x:Nat,x<N->gi L x=if x∈Q then(f:Int)else gi L0 x
 root:f∈Q
 Hu:k<=Q.length
 done:∀p,p<k->∀y,A (Q.getD p 0) y->0<=gi L y
 nd:Q.Nodup
theorem mG.meet{N:Nat}{K A:Nat->Nat->Prop}{f:Nat}{k:Nat}(h:mG N K A f L0 L Q k)(hy:y<N)(hl:gi L y<0)(hk:K f y):mG N K A f L0 (L.set y (f:Int)) (Q++ [y]) k:=by
 have MY:y∉Q:=fun hm=>by
  have:=h.bM y hy;rw [aJ hm]at this;omega
 have e:∀x:Nat,x<N->gi (L.set y (f:Int)) x=if x=y then(f:Int)else gi L x:=fun x hx=>by
  have:=lL (S:=L) (x:=(y:Int)) (y:=(x:Int)) (b:=(f:Int)) (by omega) (by rw [h.len];omega) (by omega);rw [gn]at this;rw [this]
  by_cases e:x=y
  ·subst e;simp
  rw [aC e,aC (by omega)]
 have s7:gi L0 y<0:=by
  have:=h.bM y hy;rw [aC MY]at this;omega
 refine⟨by rw [gR];exact h.len,fun x hx=>?_,fun x hx=>?_,List.mem_append_left _ h.root,by rw [e8];have:=h.Hu;omega,fun p hp z hz=>?_,List.nodup_append.2 ⟨h.nd,by simp,fun a ha b hb e=>MY (by rw [<-iv.1 hb,<-e];exact ha)⟩⟩
 ·rcases gE.1 hx with hx | hx
  ·exact h.tl x hx
  obtain rfl:=iv.1 hx;exact⟨hy,s7,hk⟩
 ·rw [e x hx]
  by_cases ex:x=y
  ·subst ex;simp
  rw [aC ex,h.bM x hx];simp [ex]
 have hk:=h.Hu;rw [df,ow (by omega),<-df]at hz;have h2:=h.done p hp z hz
 by_cases Wy:z<N
 ·rw [e z Wy]
  split<;>omega
 have:gi L z=gi (L.set y (f:Int)) z:=by
  simp [gi,df,mD (show L.length<=z by rw [h.len];omega),mD (show(L.set y (f:Int)).length<=z by rw [gR,h.len];omega)]
 omega
theorem mG.next{N:Nat}{K A:Nat->Nat->Prop}{f:Nat}{k:Nat}(h:mG N K A f L0 L Q k)(hk:k<Q.length)(hd:∀y,A (Q.getD k 0) y->0<=gi L y):mG N K A f L0 L Q (k+1):=
 ⟨h.len,h.tl,h.bM,h.root,hk,fun p hp y hy=>by
  by_cases e:p=k
  ·subst e;exact hd y hy
  exact h.done p (by omega) y hy,h.nd⟩
theorem mG.H4{N:Nat}{K A:Nat->Nat->Prop}{f:Nat}{k:Nat}(h:mG N K A f L0 L Q k):Q.length<=N:=DQ N Q h.nd fun x hx=> (h.tl x hx).1
theorem mG.start{N:Nat}{K A:Nat->Nat->Prop}{f:Nat}(hl:L0.length=N)(hf:f<N)(h0:gi L0 f<0)(hk:K f f):mG N K A f L0 (L0.set f (f:Int)) [f] 0:=by
 refine⟨by simp [hl],fun x hx=>?_,fun x hx=>?_,by simp,bA _,fun p hp=>absurd hp (by omega),by simp⟩
 ·obtain rfl:=iv.1 hx;exact⟨hf,h0,hk⟩
 have:=lL (S:=L0) (x:=(f:Int)) (y:=(x:Int)) (b:=(f:Int)) (by omega) (by rw [hl];omega) (by omega);rw [gn]at this;rw [this]
 by_cases e:x=f
 ·subst e;simp
 rw [aC (by omega),aC (by simpa using e)]
theorem mG.end_{N:Nat}{K A:Nat->Nat->Prop}(hK:wT N K){f:Nat}(h:mG N K A f L0 L Q Q.length)(hL:iS N K f L0)(hf:f<N)(h0:gi L0 f<0)(hA:∀S:Nat->Prop,S f->(∀x y,S x->K f x->A x y->S y)->∀x,K f x->S x)(Tt:∀x y,A x y->K x y):iS N K (f+1) L:=by
 have hQ:∀x,K f x->x∈Q:=hA (fun x=>x∈Q) h.root fun x y hx nY ha=>by
  obtain⟨p,hp,e⟩:=gu.1 hx;have e2:Q.getD p 0=x:=by rw [df,dL hp];exact e
  have h1:=h.done p hp y (by rw [e2];exact ha);have hk:=Tt x y ha;have vW:=(hK.eS _ _ hk).2;refine kV fun hn=>?_
  have h2:=h.bM y vW;rw [aC hn]at h2;obtain⟨r,_,h3,h4,_⟩:=(hL.2 y vW).1 (by omega);exact((hL.2 f hf).2 h0).2 r h3 (hK.tz _ _ _ (hK.tz _ _ _ h4 (hK.sym _ _ hk)) (hK.sym _ _ nY))
 refine hL.o6 hK hf h0 h.len fun x hx=> ⟨fun hk=>?_,fun hk=>?_⟩
 ·rw [h.bM x hx,aJ (hQ x hk)]
 rw [h.bM x hx,aC fun hm=>hk (h.tl x hm).2.2]
section
variable {m1 m2:Nat} {n1 n2:Int} {Bs Bt:Int->Int} {BG wH:Int->Int->Prop}
def IJ(m1 m2:Nat)(kind:Int)(c:Int×Int):Prop:=(kind=1/\(c.1=0\/c.2=0))\/(kind=2/\(c.1=(m1:Int) - 1\/c.2=(m2:Int) - 1))
instance (m1 m2:Nat)(kind:Int)(c:Int×Int):Decidable (IJ m1 m2 kind c):=by unfold IJ;infer_instance
end
def Jh(N:Nat)(B:ag)(a b:Int):Prop:=a=b\/a=0\/b=(N:Int)+1\/(0<a/\a< (N:Int)+1/\0<b/\b< (N:Int)+1/\a - 1∈gl B (b - 1))
instance (N:Nat)(B:ag)(a b:Int):Decidable (Jh N B a b):=by unfold Jh;infer_instance
def wM(R:ah)(i e:Int):Prop:=(e= -1/\i=0)\/((0<=e/\e<R.length)/\0<i/\gi R e=i - 1)
def wK(n:Int)(R:ah)(i f:Int):Prop:=(f= -1/\i=n - 1)\/((0<=f/\f<R.length)/\i<n - 1/\gi R f=i+1)
def nK(R:ah)(B:ag)(i e f:Int):ah:=(dV R.length).filter fun d=>decide (gi R d=i/\(e<0\/e∈gl B d)/\(f<0\/d∈gl B f))
def yD(n:Int)(R:ah)(B:ag):Prop:=∀i e f:Int,0<=i->i<n->wM R i e->wK n R i f->(0<=e->0<=f->e∈gl B f)->(nK R B i e f).length=2
theorem IW{R:ah}{B:ag}{i e f d:Int}:d∈nK R B i e f↔(0<=d/\d<R.length)/\gi R d=i/\(e<0\/e∈gl B d)/\(f<0\/d∈gl B f):=by
 unfold nK;rw [jb,mA,qp]
theorem aad{l:ah}(hn:l.Nodup)(h:l.length=2):∃x y,x≠y/\∀c,c∈l↔(c=x\/c=y):=by
 match l,h with
 | [x,y],_=>exact⟨x,y,by simpa using hn,fun c=>by simp⟩
theorem IX(R:ah)(B:ag)(i e f:Int):(nK R B i e f).Nodup:=((tv _).nodup).filter _
section
variable (m1 m2:Nat) (Bs Bt:Int->Int) (kind:Int)
end
section
variable {m1 m2:Nat} {Bs Bt:Int->Int} {kind:Int}
end
section
variable {m1 m2:Nat} {n1 n2:Int} {Bs Bt:Int->Int} {BG wH:Int->Int->Prop} [DecidableRel BG] [DecidableRel wH] {kind:Int}
end
theorem Kh{n:Nat}{R:ah}{B:ag}(hn:1<=n){a:Nat}(ha:a< (dF n R B).length):(gl (dF n R B) a).length=n/\(∀i:Nat,i<n->(0<=gi (gl (dF n R B) a) i/\gi (gl (dF n R B) a) i<R.length)/\gi R (gi (gl (dF n R B) a) i)=i)/\∀i:Nat,i+1<n->gi (gl (dF n R B) a) i∈gl B (gi (gl (dF n R B) a) ((i+1:Nat):Int)):=(vi hn).1 (by rw [cM ha];exact dd _)
theorem Bc{n:Nat}{x y:ah}(hx:x.length=n)(hy:y.length=n)(h:∀i:Nat,i<n->gi x i=gi y i):x=y:=
 gD (by omega) fun i h1 h2=>by
  have:=h i (by omega)
  rwa [bN h1,bN h2]at this
theorem Fh{n:Nat}{R:ah}{B:ag}{a b:Nat}(ha:a< (dF n R B).length)(hb:b< (dF n R B).length)(h:gl (dF n R B) a=gl (dF n R B) b):a=b:=by
 rw [cM ha,cM hb]at h;exact(List.getElem_inj (zh n R B).nodup).1 h
theorem Sp{n:Nat}{R:ah}{B:ag}(hP:jP n R B)(hD:yD n R B){a i:Nat}(ha:a< (dF n R B).length)(hi:i<n):∃b:Nat,b≠a/\∀c:Nat,(qV n (dF n R B) i a c/\c≠a)↔c=b:=by
 have hn:1<=n:=by have:=hP.n1;omega
 obtain⟨hl,hr,hc⟩:=Kh hn ha;generalize hx:gl (dF n R B) a=x at hl hr hc;have eY:wM R i (if i=0 then -1 else gi x ((i - 1:Nat):Int)):=by
  by_cases e:i=0
  ·rw [aJ e];exact .inl ⟨rfl,by omega⟩
  rw [aC e];have:=hr (i - 1) (by omega);exact .inr ⟨this.1,by omega,by rw [this.2];omega⟩
 have dQ:wK n R i (if i=n - 1 then -1 else gi x ((i+1:Nat):Int)):=by
  by_cases e:i=n - 1
  ·rw [aJ e];exact .inl ⟨rfl,by omega⟩
  rw [aC e];have:=hr (i+1) (by omega);exact .inr ⟨this.1,by omega,by rw [this.2];omega⟩
 have Dc:0<=(if i=0 then -1 else gi x ((i - 1:Nat):Int))->0<=(if i=n - 1 then -1 else gi x ((i+1:Nat):Int))->(if i=0 then -1 else gi x ((i - 1:Nat):Int))∈gl B (if i=n - 1 then -1 else gi x ((i+1:Nat):Int)):=fun h1 h2=>by
  by_cases e:i=0
  ·rw [aJ e]at h1;omega
  by_cases e2:i=n - 1
  ·rw [aJ e2]at h2;omega
  rw [aC e,aC e2];have uw:=hc (i - 1) (by omega);have De:=hc i (by omega);rw [show i - 1+1=i by omega]at uw;have rT:=hr (i+1) (by omega);exact(hP.at_ rT.1.1 rT.1.2).2.2 _ De _ uw
 have h2:=hD (i:Int) _ _ (by omega) (by omega) eY dQ Dc;have uC:∀d:Int,d∈nK R B i (if i=0 then -1 else gi x ((i - 1:Nat):Int)) (if i=n - 1 then -1 else gi x ((i+1:Nat):Int))↔x.set i d∈dF n R B:=fun d=>by
  rw [IW,vi hn];have gs:∀k:Nat,gi (x.set i d) k=if k=i then d else gi x k:=fun k=>by
   have:=lL (S:=x) (x:=(i:Int)) (y:=(k:Int)) (b:=d) (by omega) (by omega) (by omega);rw [gn]at this;rw [this]
   by_cases e:k=i
   ·subst e;simp
   rw [aC e,aC (by omega)]
  constructor
  ·rintro⟨hd,rd,u,v⟩;refine⟨by rw [gR];exact hl,fun k hk=>?_,fun k hk=>?_⟩
   ·rw [gs k]
    by_cases e:k=i
    ·rw [aJ e,e];exact⟨hd,rd⟩
    rw [aC e];exact hr k hk
   rw [gs k,gs (k+1)]
   by_cases e:k=i
   ·rw [aJ e,aC (by omega)];rw [aC (by omega)]at v;have:=hr (i+1) (by omega);rw [e];exact v.resolve_left (by omega)
   rw [aC e]
   by_cases e2:k+1=i
   ·rw [aJ e2];rw [aC (by omega),show i - 1=k by omega]at u;have:=hr k (by omega);exact u.resolve_left (by omega)
   rw [aC e2];exact hc k hk
  rintro⟨_,h3,h4⟩;have h5:=h3 i hi;rw [gs i,aJ rfl]at h5;refine⟨h5.1,h5.2,?_,?_⟩
  ·by_cases e:i=0
   ·left;rw [aJ e];omega
   right;rw [aC e];have h6:=h4 (i - 1) (by omega);rw [gs (i - 1),show i - 1+1=i by omega,gs i,aC (show ¬i - 1=i by omega),aJ rfl]at h6;exact h6
  by_cases e:i=n - 1
  ·left;rw [aJ e];omega
  right;rw [aC e];have h6:=h4 i (by omega);rw [gs i,gs (i+1),aJ rfl,aC (by omega)]at h6;exact h6
 obtain⟨p,q,GY,hm⟩:=aad (IX _ _ _ _ _) h2;have Ds:gi x i=p\/gi x i=q:=(hm _).1 ((uC _).2 (by
  have e:x.set i (gi x i)=x:=by
   rw [bN (by omega)];exact List.set_getElem_self _
  rw [e,<-hx,cM ha];exact dd _))
 obtain⟨d,hd,LL⟩:∃d,d≠gi x i/\∀c,(c=p\/c=q)↔(c=gi x i\/c=d):=by
  rcases Ds with h | h
  ·exact⟨q,fun e=>GY (by rw [<-h,e]),fun c=>by rw [h]⟩
  exact⟨p,fun e=>GY (by rw [<-h,e]),fun c=>by rw [h];exact or_comm⟩
 have C1:x.set i d∈dF n R B:=(uC d).1 ((hm d).2 ((LL d).2 (.inr O)));obtain⟨b,hb,eb⟩:=gu.1 C1;have Cf:gl (dF n R B) b=x.set i d:=by rw [cM hb];exact eb
 have FC:∀(d:Int) (k:Nat),gi (x.set i d) k=if k=i then d else gi x k:=fun d k=>by
  have:=lL (S:=x) (x:=(i:Int)) (y:=(k:Int)) (b:=d) (by omega) (by omega) (by omega);rw [gn]at this;rw [this]
  by_cases e:k=i
  ·subst e;simp
  rw [aC e,aC (by omega)]
 have zF:b≠a:=fun e=>by
  subst e;rw [hx]at Cf;have:=FC d i;rw [<-Cf,aJ rfl]at this;exact hd this.symm
 refine⟨b,zF,fun c=> ⟨fun⟨⟨_,cz,lT⟩,UA⟩=>?_,?_⟩⟩
 ·
  rw [hx]at lT;obtain⟨zQ,rT,zG⟩:=Kh hn cz;have ec:gl (dF n R B) c=x.set i (gi (gl (dF n R B) c) i):=Bc zQ (by rw [gR];exact hl) fun k hk=>by
   rw [FC]
   by_cases e:k=i
   ·rw [aJ e,e]
   rw [aC e];exact(lT k hk e).symm
  have nV:x.set i (gi (gl (dF n R B) c) i)∈dF n R B:=by rw [<-ec,cM cz];exact dd _
  rcases(LL _).1 ((hm _).1 ((uC _).2 nV))with h | h
  ·exfalso;refine UA (Fh cz ha ?_);rw [ec,h,hx,bN (by omega)];exact List.set_getElem_self _
  rw [h]at ec;exact Fh cz hb (ec.trans Cf.symm)
 rintro rfl;exact⟨⟨ha,hb,fun k hk b9=>by rw [Cf,hx,FC,aC b9]⟩,zF⟩
def yH(n:Nat)(fl:ag):Prop:=∀a i:Nat,a<fl.length->i<n->∃b:Nat,b≠a/\∀c:Nat,(qV n fl i a c/\c≠a)↔c=b
open Classical in
noncomputable def H3(n:Nat)(fl:ag)(i a:Nat):Nat:=if h:∃b:Nat,b≠a/\∀c:Nat,(qV n fl i a c/\c≠a)↔c=b then h.choose else 0
theorem yH.pt{n:Nat}{fl:ag}(h:yH n fl){a i:Nat}(ha:a<fl.length)(hi:i<n):H3 n fl i a≠a/\∀c:Nat,(qV n fl i a c/\c≠a)↔c=H3 n fl i a:=by
 have he:=h a i ha hi;unfold H3;rw [dif_pos he];exact he.choose_spec
theorem Sn{n:Nat}{R:ah}{B:ag}(hP:jP n R B)(hD:yD n R B):yH n (dF n R B):=fun _ _ ha hi=>Sp hP hD ha hi
def Jf(n:Nat)(R:ah)(B:ag):Prop:=∀e:Int,0<=e->e<R.length->∃x∈dF n R B,e∈x
def EB(n:Nat)(R:ah)(B:ag):Prop:=dF n R B≠[]/\Jf n R B/\yD n R B/\BK n (dF n R B)
def k8(a b:ah):ah:=(List.range a.length).map fun k:Nat=>if gi a k=gi b k then gi a k else -1
theorem xh(a b:ah):(k8 a b).length=a.length:=by simp [k8]
theorem xg{a b:ah}{k:Nat}(h:k<a.length):gi (k8 a b) k=if gi a k=gi b k then gi a k else -1:=by
 rw [bN (by rw [xh];exact h)];simp [k8]
def ir(n:Nat)(c x:ah):Prop:=∀k:Nat,k<n->gi c k≠ -1->gi c k=gi x k
instance (n:Nat)(c x:ah):Decidable (ir n c x):=by unfold ir;infer_instance
def gS(n:Nat)(fl:ag)(c:ah)(a b:Nat):Prop:=ir n c (gl fl a)/\jd n fl (fun k=>gi c k≠ -1) a b
theorem ir.of{n:Nat}{fl:ag}{c:ah}{a b:Nat}(h:ir n c (gl fl a))(h':jd n fl (fun k=>gi c k≠ -1) a b):ir n c (gl fl b):=fun k hk b9=>by
 rw [h'.keep k hk b9];exact h k hk b9
theorem yG(n:Nat)(fl:ag)(c:ah):wT fl.length (gS n fl c):=
 ⟨fun _ _ h=> ⟨h.1.of h.2,h.2.symm⟩,fun _ _ _ h h'=> ⟨h.1,h.2.trans h'.2⟩,fun _ _ h=>h.2.eS⟩
theorem Ru{n:Nat}{fl:ag}(hl:∀x∈fl,x.length=n/\∀e∈x,0<=e){a b:Nat}(ha:a<fl.length)(hb:b<fl.length):
 gS n fl (k8 (gl fl a) (gl fl b)) a a/\gS n fl (k8 (gl fl a) (gl fl b)) b b/\(gS n fl (k8 (gl fl a) (gl fl b)) a b↔jd n fl (fun k=>gi (gl fl a) k=gi (gl fl b) k) a b):=by
 have Wn:=hl _ (by rw [cM ha];exact dd _:gl fl a∈fl);have b9:∀k:Nat,k<n->(gi (k8 (gl fl a) (gl fl b)) k≠ -1↔gi (gl fl a) k=gi (gl fl b) k):=fun k hk=>by
  rw [xg (by omega)];have:=Wn.2 _ (gi_in (show k< (gl fl a).length by omega))
  split
  ·exact⟨fun _=>by assumption,fun _=>by omega⟩
  ·rename_i h;exact⟨fun h'=>absurd rfl h',fun h'=>absurd h' h⟩
 have h1:ir n (k8 (gl fl a) (gl fl b)) (gl fl a):=fun k hk h=>by
  have:=(b9 k hk).1 h;rw [xg (by omega),aJ this]
 have h2:ir n (k8 (gl fl a) (gl fl b)) (gl fl b):=fun k hk h=>by
  have:=(b9 k hk).1 h;rw [xg (by omega),aJ this,this]
 have cv:∀ {S S':Nat->Prop},(∀k,k<n->(S k↔S' k))->∀ {u v},jd n fl S u v->jd n fl S' u v:=fun {S S'} hS {u v} h=>by
  induction h with
  | refl h=>exact .refl h
  | step _ hi hs Um ih=>exact .step ih hi (fun h=>hs ((hS _ hi).2 h)) Um
 exact⟨⟨h1,.refl ha⟩,⟨h2,.refl hb⟩,fun h=>cv b9 h.2,fun h=> ⟨h1,cv (fun k hk=> (b9 k hk).symm) h⟩⟩
def tD(n:Nat)(fl:ag)(c:ah)(x y:Nat):Prop:=ir n c (gl fl x)/\ir n c (gl fl y)/\∃i,i<n/\qV n fl i x y
theorem Sq{n:Nat}{fl:ag}(hn:fl.Nodup)(hl:∀x∈fl,x.length=n){x y:Nat}(hx:x<fl.length)(hy:y<fl.length)(h:∀k:Nat,k<n->gi (gl fl x) k=gi (gl fl y) k):x=y:=by
 have e:gl fl x=gl fl y:=Bc (hl _ (by rw [cM hx];exact dd _)) (hl _ (by rw [cM hy];exact dd _)) h;rw [cM hx,cM hy]at e;exact(List.getElem_inj hn).1 e
theorem tD.link{n:Nat}{fl:ag}(hn:fl.Nodup)(hl:∀x∈fl,x.length=n){c:ah}{x y:Nat}(h:tD n fl c x y):gS n fl c x y:=by
 obtain⟨h1,h2,i,hi,ha⟩:=h;refine⟨h1,?_⟩
 by_cases hc:gi c i≠ -1
 ·have:x=y:=Sq hn hl ha.1 ha.2.1 fun k hk=>by
   by_cases e:k=i
   ·subst e;rw [<-h1 k hk hc,h2 k hk hc]
   exact ha.2.2 k hk e
  subst this;exact .refl ha.1
 exact .step (.refl ha.1) hi hc ha
theorem PM{n:Nat}{fl:ag}{c:ah}{f:Nat}(S:Nat->Prop)(hf:S f)(hs:∀x y,S x->gS n fl c f x->tD n fl c x y->S y):∀x,gS n fl c f x->S x:=fun x h=>by
 obtain⟨h1,h2⟩:=h
 induction h2 with
 | refl _=>exact hf
 | step h hi hS ha ih=>exact hs _ _ ih ⟨h1,h⟩ ⟨h1.of h,h1.of (.step h hi hS ha),_,hi,ha⟩
end
section
open Go.RowKit
variable{j:Nat}
def lA(H:List Bool)(vs:ah):List Bool:=vs.foldl (fun H v=>H.set v.toNat true) H
theorem Zm(H:List Bool)(vs:ah)(v:Int):lA H (vs++ [v])=(lA H vs).set v.toNat true:=by simp [lA,List.foldl_append]
theorem Zl(H:List Bool):∀vs,(lA H vs).length=H.length:=by
 intro vs;unfold lA
 induction vs generalizing H with
 | nil=>rfl
 | cons a r ih=>rw [List.foldl_cons,ih,gR]
theorem Zk(H:List Bool)(vs:ah)(hv:∀v∈vs,0<=v/\v<H.length)(x:Int)(h0:0<=x):gb (lA H vs) x=(gb H x || decide (x∈vs)):=by
 unfold lA
 induction vs generalizing H with
 | nil=>simp
 | cons a r ih=>
  have ha:=hv a (by simp);rw [List.foldl_cons,ih _ (fun v h=>by rw [gR];exact hv v (by simp [h])),Ct ha.1 ha.2 h0]
  by_cases e:a=x
  ·subst e;simp
  ·have e':¬x=a:=fun h=>e h.symm
   simp [e,e']
theorem SO(n:Nat)(x:Int):gb (List.replicate n false) x=false:=by
 unfold gb;rw [df,List.getElem?_replicate]
 split<;>rfl
theorem Zj{m:Nat}{F:ag}(h:∀l∈F,∀x∈l,0<=x/\x< (m:Int))(x:Int)(h0:0<=x):gb (lA (List.replicate m false) F.flatten) x=decide (∃l∈F,x∈l):=by
 rw [Zk _ _ (fun v hv=>by
  obtain⟨l,hl,hx⟩:=List.mem_flatten.1 hv;rw [List.length_replicate];exact h l hl v hx) x h0,SO,Bool.false_or]
 exact kc.2 (by rw [List.mem_flatten])
def qb(m:Nat):List Bool:=List.replicate m false
theorem Oe(m:Nat)(vs:ah):(lA (qb m) vs).length=m:=by rw [Zl];simp [qb]
theorem YS{m:Nat}{F:ag}(h:∀l∈F,∀x∈l,0<=x/\x< (m:Int)):¬(false∈lA (qb m) F.flatten)↔∀x:Int,0<=x->x< (m:Int)->∃l∈F,x∈l:=by
 have hl:=Oe m F.flatten;have hg:=fun(x:Int) (h0:0<=x)=>Zj h x h0
 constructor
 ·intro hn x h0 h1;apply kV;intro hc;have h2:gb (lA (qb m) F.flatten) x=false:=(hg x h0).trans (dq hc);apply hn;have h3:x.toNat< (lA (qb m) F.flatten).length:=by omega
  rw [<-h2,gb,df,dL h3];exact dd _
 intro ha hm;obtain⟨k,hk,e⟩:=gu.1 hm;have h2:=hg (k:Int) (by omega);rw [fo (ha (k:Int) (by omega) (by omega))]at h2;have h3:gb (lA (qb m) F.flatten) k=(lA (qb m) F.flatten)[k]:=by simp [gb,df,hk]
 have h4:gb (lA (qb m) F.flatten) k=true:=h2;rw [h3,e]at h4;cases h4
theorem PE(A:ai)(n c:Nat)(xs:List Bool)(v:Bool)(w:aa)(hR:tG w A n xs)(hn:n<=9223372036854775807):
 aE prog 189 [.slice A n c,.bool v] w (fun r w'=> (∃i:Int,r=aj i/\(0<=i↔v∈xs))/\w'=w):=by
 have bP:=hR.1;refine bm func189 O ntmps189 O (bU O) ?_;refine aY O (aZ O O (az O ?_));refine Cd.loop (α:=Nat) (fun k=> [(0,.slice A n c),(1,.bool v),(7,aj n),(8,aj k)]) (fun k w'=>w'=w/\k<=n/\∀j:Nat,j<k->gb xs j≠v) (fun k=>n - k) 0 (ac4 O) ⟨O,bA _,fun j hj=>by omega⟩ ?_;rintro k e w ⟨rfl,hk,hK⟩;refine b7 O (aM _ O (fun h3=>?_) (fun h3=>?_))
 ·have hg:gb xs k=xs[k]'(by omega):=by simp [gb,df,show k<xs.length by omega]
  refine aD O (ay hR.2 O (su hR O (by omega) O O (I5 O O O (az O ?_))));refine Cd.cond O (fun h4=>?_) (fun h4=>?_)
  ·refine cE O (de (cT ?_));refine fP O ?_;have h4:v=gb xs k:=by simpa using h4
   exact⟨⟨(k:Int),O,⟨fun _=>by rw [h4,hg];exact dd _,fun _=>by omega⟩⟩,O⟩
  refine aD O (aL O (aU O (tQ ?_)));have h4:¬v=gb xs k:=by simpa using h4
  refine⟨k+1,by show n - (k+1)<n - k;omega,(ac4 O),O,by omega,fun j hj=>?_⟩
  by_cases ej:j=k
  ·subst ej;exact fun h=>h4 h.symm
  exact hK j (by omega)
 refine bo O (bp (e6 O ?_));refine fP O ⟨⟨-1,O,⟨fun h=>absurd h (by decide),fun h=>?_⟩⟩,O⟩;obtain⟨j,hj,Da⟩:=gu.1 h;exact absurd (by simpa [gb,df,hj]using Da) (hK j (by omega))
theorem Pv(A:ai)(n c:Nat)(xs:List Bool)(v:Bool)(w:aa)(hR:tG w A n xs)(hn:n<=9223372036854775807):
 aE prog 118 [.slice A n c,.bool v] w (fun r w'=>r= .bool (decide (v∈xs))/\w'=w):=by
 refine bm func118 O ntmps118 O (bU O) (aY O (aH (PE A n c xs v _ hR hn) O ?_));rintro _ w ⟨⟨i,rfl,hi⟩,rfl⟩;refine bu O (bQ O ?_);exact⟨bw Value.bool (kc.2 hi),O⟩
theorem yV{w:aa}{A:ai}{n:Nat}{f:Nat->ab}(h:Rd w A n f)(hn:0<n):A.isNone=false:=by
 obtain⟨p,hp,_⟩:=h 0 hn;cases A with
 | none=>simp [aF]at hp
 | some q=>rfl
def yA(L:ah)(w:aa)(v:ab)(w':aa):Prop:=∃A' c',v= .slice A' L.length c'/\St w w' [ax 2 A' L.length c' L]
theorem Iw{xs:ah}(h:j<xs.length):xs.take (j+1)=xs.take j++ [gi xs j]:=by
 rw [lG h,bN h]
theorem W3(n:Int)(A D:ai)(cA N m cD:Nat)(Af:ai)(nf cf:Nat)(rs:List aO)(fl:ag)(w:aa)(hF:bl w Af nf rs fl)(hN:N<=500)(hr:∀l∈fl,l.length<=1000/\∀x∈l,0<=x/\x< (N:Int))(Mn:nf<=100000):
 aE prog 62 [.agg #[aj n,.slice A N cA,.slice D m cD],.slice Af nf cf] w (fun v w'=>∃b:Bool,v= .bool b/\(b=true↔∀x:Int,0<=x->x< (N:Int)->∃l∈fl,x∈l)/\St w w' []):=by
 have jq:=hF.len;refine bm func62 O ntmps62 O (bU O) (aY O (yJ (St.refl w) O O ?_));intro A1 w1 aB;have h1:Rd w1 A1 3 (fun j=> [Value.int .i64 n,.slice A N cA,.slice D m cD].getD j undef):=aB.rd 0 O;refine ao O (aS h1 O (a8 h1 O (aZ O O (wR (v:=false) N aB O O (by omega) ?_))));intro A5 w2 aw;have aw:St w w2 [jL 4 A5 N N (lA (qb N) (fl.take 0).flatten),dU A1 n A N cA D m cD]:=aw;refine ao O (aZ O O (az O ?_));refine Cd.loop (α:=Nat) (fun i=> [(2,.pointer A1),(5,.slice A5 N N),(14,.slice Af nf cf),(15,aj nf),(16,aj i)]) (fun i w'=>i<=nf/\St w w' [jL 4 A5 N N (lA (qb N) (fl.take i).flatten),dU A1 n A N cA D m cD]) (fun i=>nf - i) 0 (ac4 O) ⟨bA _,aw⟩ ?_;clear aw aB h1;rintro i e w3 ⟨hi,hS⟩;refine b7 O (aM _ O (fun h2=>?_) (fun h2=>?_))
 ·have Gu:i<fl.length:=by omega
  have hM:=hS.bE hF;have js:=hM.at_ (i:=(i:Int)) (by omega) (by omega);have gI:=js.1;have jE:gl fl i∈fl:=by rw [cM Gu];exact dd _
  have fN:=hr _ jE;refine aD O (ay hM.top.2 O (bB hM.top O ?_));refine ao O (aZ O O (az O ?_));refine Cd.loop (α:=Nat) (fun j=> [(2,.pointer A1),(5,.slice A5 N N),(14,.slice Af nf cf),(15,aj nf),(16,aj i),(20,.slice (rg rs i).a (rg rs i).n (rg rs i).c),(21,aj ((rg rs i).n:Int)),(22,aj j)]) (fun j w'=>j<=(rg rs i).n/\St w w' [jL 4 A5 N N (lA (qb N) ((fl.take i).flatten++ (gl fl i).take j)),dU A1 n A N cA D m cD]) (fun j=> (rg rs i).n - j) 0 (ac4 O) ⟨bA _,by rw [List.take_zero,iG];exact hS⟩ ?_;clear js hM hS;rintro j e w4 ⟨hj,hS⟩;refine b7 O (aM _ O (fun h3=>?_) (fun h3=>?_))
  ·have mo:j< (gl fl i).length:=by omega
   have js:=(hS.bE hF).at_ (i:=(i:Int)) (by omega) (by omega);have hx:=fN.2 _ (gi_in mo);have qE:=Oe N ((fl.take i).flatten++ (gl fl i).take j);refine aD O (ay js.2 O (bc js O (ao O (ay (hS.jt 0 O).2 O (sw 0 hS O O O (by omega) ?_)))));intro w5 aR;have aR:St w w5 [jL 4 A5 N N (lA (qb N) ((fl.take i).flatten++ (gl fl i).take (j+1))),dU A1 n A N cA D m cD]:=by
    rw [Iw mo,<-fC,Zm];exact aR
   refine ao O (aL O (aU O (tQ ?_)));exact⟨j+1,by show(rg rs i).n - (j+1)< (rg rs i).n - j;omega,(ac4 O),by omega,aR⟩
  rw [show(gl fl i).take j=gl fl i from jc (by omega)]at hS;refine bo O (bp (cn O (aL O (aU O (tQ ?_)))));refine⟨i+1,by show nf - (i+1)<nf - i;omega,(ac4 O),by omega,?_⟩;rw [lG Gu,List.flatten_append,<-cM Gu];simpa using hS
 have cS:i=fl.length:=by omega
 rw [cS,List.take_length]at hS;have VG:=YS (m:=N) (F:=fl) (fun l hl=> (hr l hl).2);refine bo O (bp (cn O ?_));refine aH (Pv A5 N N _ false _ (hS.jt 0 O) (by omega)) O ?_;rintro _ _ ⟨rfl,rfl⟩
 first | refine dM rfl rfl ?_ | refine eI rfl rfl ?_
 refine bu O (bQ O ?_);refine⟨_,O,?_,hS.none⟩;rw [<-VG];simp
def pk(a b:ah)(i:Nat):ah:=(List.range a.length).map fun k:Nat=>if i<=k\/gi a k=gi b k then gi a k else -1
theorem rn(a b:ah)(i:Nat):(pk a b i).length=a.length:=by simp [pk]
theorem tM{a b:ah}{i k:Nat}(h:k<a.length):gi (pk a b i) k=if i<=k\/gi a k=gi b k then gi a k else -1:=by
 rw [bN (by rw [rn];exact h)];simp [pk]
theorem Rq(a b:ah):pk a b 0=a:=by
 apply gD (rn ..);intro k h1 h2;rw [<-bN h1,<-bN h2,tM h2,aJ (.inl (bA _))]
theorem Rr(a b:ah):pk a b a.length=k8 a b:=by
 apply gD (by rw [rn,xh]);intro k h1 h2;have h3:k<a.length:=by rw [rn]at h1;exact h1
 rw [<-bN h1,<-bN h2,tM h3,xg h3]
 by_cases c:gi a k=gi b k
 ·rw [aJ (.inr c),aJ c]
 rw [aC (by omega),aC c]
theorem Rs{a b:ah}{i:Nat}:pk a b (i+1)=if gi a i=gi b i then pk a b i else(pk a b i).set i (-1):=by
 by_cases c:gi a i=gi b i
 ·rw [aJ c];apply gD (by simp [rn]);intro k h1 h4;have h3:k<a.length:=by rw [rn]at h1;exact h1
  rw [<-bN h1,tM h3,<-bN h4,tM h3]
  by_cases e:k=i
  ·subst e;rw [aJ (.inr c),aJ (.inr c)]
  by_cases e2:i+1<=k\/gi a k=gi b k
  ·rw [aJ e2,aJ (by omega)]
  rw [aC e2,aC (by omega)]
 rw [aC c];apply gD (by simp [rn]);intro k h1 h2;have h3:k<a.length:=by rw [rn]at h1;exact h1
 have h4:k< (pk a b i).length:=by rw [rn];exact h3
 rw [<-bN h1,tM h3,List.getElem_set]
 split
 ·rename_i h;rw [aC (fun e=>by subst e;rcases h with h | h<;>first | omega | exact c h),<-bN h4,tM h3,aJ (by omega)]
 rename_i h
 by_cases e:i=k
 ·rw [aJ e]
 rw [aC e,<-bN h4,tM h3,aC (fun h'=>h (by omega))]
theorem JN(A A2:ai)(n c m c2:Nat)(a b:ah)(w:aa)(hA:cd w A n a)(hB:cd w A2 m b)(hm:n=m)(hn:n<=1000):
 aE prog 121 [.slice A n c,.slice A2 m c2] w (yA (k8 a b) w):=by
 subst hm;have ha:=hA.1;have hb:=hB.1;refine bm func121 O ntmps121 O (bU O) (aY O (aH (BJ A n c a w hA (by omega)) O ?_));rintro _ w1 ⟨A5,c5,rfl,hS⟩;have hS:St w w1 [ax 2 A5 n c5 (pk a b 0)]:=by rw [Rq];exact hS
 refine ao O (aZ O O (az O ?_));refine Cd.loop (α:=Nat) (fun i=> [(5,.slice A5 n c5),(10,.slice A2 n c2),(11,aj n),(12,aj i)]) (fun i w'=>i<=n/\St w w' [ax 2 A5 n c5 (pk a b i)]) (fun i=>n - i) 0 (ac4 O) ⟨bA _,hS⟩ ?_;clear hS;rintro i e w2 ⟨hi,hS⟩;have hl:=rn a b i;refine b7 O (aM _ O (fun h2=>?_) (fun h2=>?_))
 ·have cS:i<a.length:=by omega
  have gH:=Rs (a:=a) (b:=b) (i:=i);have lg:=tM (b:=b) (i:=i) cS;rw [aJ (.inl (dE _))]at lg;have iz:=hS.dY hB;have h5:=hS.bz 0 O;refine aD O (ay iz.2 O (bc iz O (ao O (ay h5.2 O (bc h5 O (az O ?_))))));rw [lg];refine aM _ O (fun h3=>?_) (fun h3=>?_)
  ·rw [aC h3]at gH;refine aD O (ay h5.2 O (ak.gQ 0 hS O O O (by omega) ?_));intro w3 aI;refine ao O (aL O (aU O (tQ ?_)));exact⟨i+1,by show n - (i+1)<n - i;omega,(ac4 O),by omega,by rw [gH];exact aI⟩
  rw [aJ (gC.1 h3)]at gH;refine aD O (aL O (aU O (tQ ?_)));exact⟨i+1,by show n - (i+1)<n - i;omega,(ac4 O),by omega,by rw [gH];exact hS⟩
 have cS:i=a.length:=by omega
 rw [cS,Rr]at hS;have zQ:=xh a b;refine bo O (bp (e6 O ?_));refine fA O ?_;exact⟨A5,c5,by rw [zQ,ha],by rw [zQ,ha];exact hS⟩
def uP(xs:ah)(x:Int):ah:=(dV xs.length).filter fun e=>decide (gi xs e=x)
theorem Zd{xs:ah}{x:Int}{m:Nat}:((dV (m+1)).filter fun e=>decide (gi xs e=x))=if x=gi xs m then((dV m).filter fun e=>decide (gi xs e=x))++ [(m:Int)]else((dV m).filter fun e=>decide (gi xs e=x)):=by
 have:dV (m+1)=dV m++ [(m:Int)]:=by
  unfold dV;rw [rb,lF];rfl
 rw [this,List.filter_append]
 by_cases c:gi xs m=x
 ·rw [aJ c.symm];simp [c]
 rw [aC (fun h=>c h.symm)];simp [c]
theorem Zc(A:ai)(n c:Nat)(xs:ah)(x:Int)(w:aa)(hA:cd w A n xs)(hn:n<=100000):
 aE prog 190 [.slice A n c,aj x] w (yA (uP xs x) w):=by
 have ha:=hA.1;refine bm func190 O ntmps190 O (bU O) ?_;refine aY O (aZ O O (az O ?_));refine Cd.loop (α:=Nat×ai×Nat) (fun z=> [(1,aj x),(5,.slice z.2.1 ((dV z.1).filter fun e=>decide (gi xs e=x)).length z.2.2),(8,.slice A n c),(9,aj n),(10,aj (z.1:Int))]) (fun z w'=>z.1<=n/\St w w' [ax 2 z.2.1 ((dV z.1).filter fun e=>decide (gi xs e=x)).length z.2.2 ((dV z.1).filter fun e=>decide (gi xs e=x))]) (fun z=>n - z.1) (0,none,0) (ac4 O) ⟨bA _,(St.refl w).nil _⟩ ?_;rintro⟨i,A5,c5⟩ e w1 ⟨hi,hS⟩;dsimp only at hi hS|-;have jq:((dV i).filter fun e=>decide (gi xs e=x)).length<=100000:=by
  refine lI (ox _ _) ?_;rw [dV,fQ,pf];omega
 have gH:=Zd (xs:=xs) (x:=x) (m:=i);refine b7 O (aM _ O (fun h2=>?_) (fun h2=>?_))
 ·have KU:=hS.dY hA;refine aD O (ay KU.2 O (bc KU O (az O ?_)));refine aM _ O (fun h3=>?_) (fun h3=>?_)
  ·rw [aJ h3]at gH;refine aD O (fk hS O O O ?_);intro A9 w2 aw;refine fR 1 aw O (aw.bz 0 O) O O O ?_;intro AZ cZ w3 aI;have aI:=aI.tail;refine ao O (aL O (aU O (tQ ?_)));refine⟨(i+1,AZ,cZ),by show n - (i+1)<n - i;omega,⟨O,?_,O,O,O,au⟩,by show i+1<=n;omega,?_⟩
   ·show Value.slice _ _ _=_;rw [gH,e8];rfl
   show St w w3 [ax _ _ (((dV (i+1)).filter _).length) _ ((dV (i+1)).filter _)];rw [gH,e8];exact aI
  rw [aC h3]at gH;refine aD O (aL O (aU O (tQ ?_)));refine⟨(i+1,A5,c5),by show n - (i+1)<n - i;omega,⟨O,?_,O,O,O,au⟩,by show i+1<=n;omega,?_⟩
  ·show Value.slice _ _ _=_;rw [gH]
  show St w w1 [ax _ _ (((dV (i+1)).filter _).length) _ ((dV (i+1)).filter _)];rw [gH];exact hS
 have cS:i=xs.length:=by omega
 rw [cS]at hS|-;refine bo O (bp (e6 O ?_));exact fA O ⟨A5,c5,O,hS⟩
def l7(n:Int)(R:ah)(i:Int):ah:=if 0<=i/\i<=n - 1 then uP R i else [-1]
theorem HW(P A D:ai)(n:Int)(N cA m cD:Nat)(R:ah)(i:Int)(w:aa)(hP:Rd w P 3 (fun j=> [Value.int .i64 n,.slice A N cA,.slice D m cD].getD j undef))(hR:cd w A N R)(hN:N<=1000)(hn:0<=n/\n<=100):
 aE prog 119 [.pointer P,aj i] w (yA (l7 n R i) w):=by
 refine bm func119 O ntmps119 O (bU O) (aY O ?_);refine eV hP (by decide) O O ?_;refine aS hP O (iw (j:=0) hP (by exact bw Value.pointer O) O O O O (je O O O (by omega) (aH (qU _ _ _ _) O ?_)));rintro _ _ ⟨rfl,rfl⟩
 first | refine dM rfl rfl ?_ | refine eI rfl rfl ?_
 refine az O (aM _ O (fun h2=>?_) (fun h2=>?_))
 ·refine aD O (fk (i:= -1) (St.refl _) O O O ?_);intro A9 w2 aw;refine bu O (fA O ?_);unfold yA l7;rw [aC h2];exact⟨A9,1,O,aw⟩
 refine aD O (eV hP (by decide) O O (aS hP O (a8 hP O (ao O (aH (Zc A N cA R i _ hR (by omega)) O ?_)))));rintro _ w2 ⟨A9,c9,rfl,aw⟩;refine bu O (fA O ?_);unfold yA l7;rw [aJ (gC.1 h2)];exact⟨A9,c9,O,aw⟩
end
section
open Go.RowKit Go.MapKept
structure sk{κ:Type}(d:TypeDesc)(kv:κ->ab):Prop where
 isKey:∀a,IsKey d (kv a)
 inj:∀a b,kv a=kv b->a=b
section
variable {κ ν:Type} [DecidableEq κ]
def fL:List (κ×ν)->κ->Option ν
 | [],_=>none
 | (y,v)::r,x=>if y=x then some v else fL r x
def iM:List (κ×ν)->κ->ν->List (κ×ν)
 | [],x,v=> [(x,v)]
 | (y,u)::r,x,v=>if y=x then(x,v)::r else(y,u)::iM r x v
def lK:List (κ×ν)->κ->Option (Nat×ν)
 | [],_=>none
 | (y,v)::r,x=>if y=x then some (0,v)else(lK r x).map fun p=> (p.1+1,p.2)
theorem Kj:∀(L:List (κ×ν)) (x:κ),fL L x=(lK L x).map (·.2)
 | [],_=>rfl
 | (y,v)::r,x=>by
  simp only [fL,lK]
  split
  ·rfl
  ·rw [Kj r x,Option.map_map];rfl
theorem Kl:∀ {L:List (κ×ν)} {x:κ} {j:Nat} {v:ν},lK L x=some (j,v)->L[j]?=some (x,v)/\∀u,iM L x u=L.set j (x,u)
 | (y,w)::r,x,j,v,h=>by
  simp only [lK]at h
  split at h
  ·rename_i e;simp only [mF,Prod.mk.injEq]at h;obtain⟨rfl,rfl⟩:=h;subst e;exact⟨O,fun u=>by simp [iM]⟩
  ·rename_i e;cases hf:lK r x with
   | none=>simp [hf]at h
   | some p=>
    simp only [hf,Option.map_some,mF,Prod.mk.injEq]at h;obtain⟨rfl,rfl⟩:=h;obtain⟨h1,h2⟩:=Kl (L:=r) (x:=x) (j:=p.1) (v:=p.2) hf;exact⟨by simpa using h1,fun u=>by simp only [iM,aC e,h2 u,List.set_cons_succ]⟩
theorem Kk:∀ {L:List (κ×ν)} {x:κ},lK L x=none->∀u,iM L x u=L++ [(x,u)]
 | [],x,_,u=>rfl
 | (y,w)::r,x,h,u=>by
  simp only [lK]at h
  split at h
  ·cases h
  ·rename_i e;rw [Option.map_eq_none_iff]at h;simp only [iM,aC e,Kk h u,List.cons_append]
theorem Kv(L:List (κ×ν))(x y:κ)(u:ν):fL (iM L x u) y=if x=y then some u else fL L y:=by
 induction L with
 | nil=>simp only [iM,fL]
 | cons p r ih=>
  obtain⟨z,w⟩:=p;simp only [iM]
  by_cases e:z=x
  ·subst e;rw [aJ rfl];simp only [fL]
   split<;>simp_all
  ·rw [aC e];simp only [fL,ih]
   by_cases e2:z=y
   ·subst e2;rw [aJ rfl,aC (fun h=>e h.symm),aJ rfl]
   ·rw [aC e2,aC e2]
def iZ(kv:κ->ab)(vv:ν->ab)(L:List (κ×ν)):List (ab×ab):=L.map fun p=> (kv p.1,vv p.2)
theorem Cn{d:TypeDesc}{kv:κ->ab}{vv:ν->ab}(K:sk d kv)(x:κ):∀(l:List MapEntry) (L:List (κ×ν)) (i:Nat),l.map (fun e=> (e.key,e.val))=iZ kv vv L->Instr.findNow d (kv x) l i=some ((lK L x).map fun p=> (i+p.1,vv p.2))
 | [],[],_,_=>rfl
 | [],_::_,_,h=>by simp [iZ]at h
 | _::_,[],_,h=>by simp [iZ]at h
 | e::l,(y,v)::L,i,h=>by
  simp only [iZ,List.map_cons,List.cons.injEq,Prod.mk.injEq]at h;obtain⟨⟨h1,h2⟩,h3⟩:=h;obtain⟨r,hr,LV⟩:=sameNow_of_keys (K.isKey x) (K.isKey y);simp only [Instr.findNow,lK];rw [h1,hr];cases r with
  | true=>
   have e1:=K.inj _ _ (LV.1 O);subst e1;simp [h2]
  | false=>
   have b9:¬y=x:=fun q=>by
    have:=LV.2 (by rw [q]);cases this
   rw [aC b9];simp only;rw [Cn K x l L (i+1) h3,Option.map_map]
   congr 2
   funext p;simp only [Function.comp];rw [Nat.add_assoc,Nat.add_comm 1]
end
def jM(t:ad)(g:Nat)(qK:List (ab×ab)):Ck:=⟨some ⟨g,0,none⟩,0,0,t,.tuple #[]::rv qK⟩
def yW(w:aa)(g:Nat)(qK:List (ab×ab)):Prop:=∃es cl,w.heap[g]?=some (.map es cl)/\es.toList.map (fun e=> (e.key,e.val))=qK
section
variable {w0 w w':aa} {ks:List Ck} {t:ad} {g:Nat} {qK:List (ab×ab)}
theorem St.DV(h:St w0 w ks)(i:Nat)(hk:ks[i]?=some (jM t g qK)):w0.heap.size<=g/\yW w g qK:=by
 rcases(h.get hk).cases with⟨_,_,_,g',es,cl,hA,hg,hh,hv⟩ | ⟨hm,_⟩
 ·have hA:some (⟨g,0,Option.none⟩:Addr)=some ⟨g',0,Option.none⟩:=hA;simp only [mF,Addr.mk.injEq,and_true]at hA;subst hA;have hv:(.tuple #[]::rv qK:List ab)= .tuple #[]::rv (es.toList.map fun e=> (e.key,e.val)):=hv;simp only [List.cons.injEq,true_and]at hv;exact⟨hg,es,cl,hh,(Kf hv).symm⟩
 cases hm
theorem St.H6(h:St w0 w ks)(i:Nat)(hk:ks[i]?=some (jM t g qK)):yW w g qK:=(h.DV i hk).2
theorem St.QJ(h:St w0 w ks)(t:ad):St w0 (w.alloc (.map #[] 0)) (jM t w.heap.size []::ks):=by
 have hb:Below w.heap.size w (w.alloc (.map #[] 0)):=(Below.refl _ _).alloc (dE _) _;have h1:=h.aq hb;refine⟨h1.below,fun k hk=>?_,?_⟩
 ·rcases ja.1 hk with rfl | hk
  ·exact .ofM O ⟨O,O,_, #[],0,O,h.below.size,heap_alloc_new w _,O⟩
  exact h1.own k hk
 simp only [List.filterMap_cons,jM,Ck.gY,Option.map_some,mV];refine⟨fun cS=>?_,h.apart⟩;obtain⟨k',dp,ur⟩:=List.mem_filterMap.1 cS;have:=((h.own k' dp).lt ur).2;omega
theorem St.Ef{i:Nat}{Hv:List (ab×ab)}{Fa:Array MapEntry}{JK:Nat}(h:St w0 w ks)(hk:ks[i]?=some (jM t g qK))(hv:Fa.toList.map (fun e=> (e.key,e.val))=Hv):St w0 { w with heap:=w.heap.setIfInBounds g (.map Fa JK) } (ks.set i (jM t g Hv)):=by
 obtain⟨hg,es,cl,hh,_⟩:=h.DV i hk;refine h.turn (k:=jM t g qK) (k':=jM t g Hv) (g:=g) hk O O ⟨⟨O,O,O,by simp,fun x _ hx=>?_⟩,dE _⟩ ?_
 ·exact(heap_set hh).2 x fun e=>hx (by rw [e])
 refine .ofM O ⟨O,O,g,Fa,JK,O,hg,(heap_set hh).1,?_⟩;rw [hv];rfl
end
section
variable{t kt et T:ad}{b:Nat}
variable {P:Program} {N:Nat} {ops:Array Oper} {K:Env->aa->Prop} {rest:List Oper} {e:Env} {w0 w w':aa} {ks:List Ck} {d:Nat} {ty:ad} {pos:String} {af:Array Edge}
variable {κ ν:Type} [DecidableEq κ] {kd:TypeDesc} {kv:κ->ab} {vv:ν->ab}
theorem Ja(hS:St w0 w ks)(hb:Nat.blt d N=true)(hK:∀g w',St w0 w' (jM t g []::ks)->ak P N ops K rest (bt e d (.map (some g))) w'):
 ak P N ops K (⟨some d,.makeMap t none,ty,pos,af,none⟩::rest) e w:=
 .val (w':=w.alloc (.map #[] 0)) (by simp [execOp,run_makeMap]) hb (hK _ _ (hS.QJ t))
theorem OD{z:ab}{s:Nat}[hU:bK P t (.map kt et)][hk:bK P kt kd][bF P et z s b](KT:sk kd kv){g:Nat}{L:List (κ×ν)}{x:κ}(hR:yW w g (iZ kv vv L))(ok:Bool):
 (Instr.lookup t (.map (some g)) (kv x) ok).run P w= .ok (if ok then .tuple #[((fL L x).map vv).getD z,.bool (fL L x).isSome]else((fL L x).map vv).getD z) w:=by
 obtain⟨es,cl,hh,hm⟩:=hR;obtain⟨inf,hi,eM,_,_⟩:=bF.get P et;have hf:=Cn (vv:=vv) KT x es.toList L 0 hm;rw [Kj];unfold Instr.lookup;simp only [Sem.run_bind,run_underlying hU.out,Result.andThen,MapKept.run_getObj_map hh,MapKept.run_checkKey hk.out (KT.isKey x)];cases jC:lK L x with
 | none=>
  rw [jC]at hf;have sX:=MapKept.run_findKey (P:=P) (w:=w) hk.out hf;cases ok<;>simp [sX,zeroValue,typeInfo,hi,eM]
 | some p=>
  rw [jC]at hf;have sX:=MapKept.run_findKey (P:=P) (w:=w) hk.out hf;cases ok<;>simp [sX]
theorem I8{z v:ab}{s:Nat}[bK P t (.map kt et)][bK P kt kd][bF P et z s b](KT:sk kd kv){g:Nat}{L:List (κ×ν)}{m ix:ae}{x:κ}(hR:yW w g (iZ kv vv L))(hx:ev e m= .map (some g))(hy:ev e ix=kv x)(hv:((fL L x).map vv).getD z=v)(hb:Nat.blt d N=true)(hK:ak P N ops K rest (bt e d v) w):ak P N ops K (⟨some d,.lookup t m ix false,ty,pos,af,none⟩::rest) e w:=by
 subst hv;refine .val (w':=w) ?_ hb hK;have:=OD (P:=P) (t:=t) (x:=x) KT hR false;simp [execOp,hx,hy,this]
theorem ZU[hU:bK P t (.map kt et)][hk:bK P kt kd](KT:sk kd kv){g:Nat}{L:List (κ×ν)}(i:Nat)(x:κ)(u:ν)(hS:St w0 w ks)(hi:ks[i]?=some (jM T g (iZ kv vv L))):
 ∃w',(Instr.mapUpdate t (.map (some g)) (kv x) (vv u)).run P w= .ok () w'/\St w0 w' (ks.set i (jM T g (iZ kv vv (iM L x u)))):=by
 obtain⟨_,es,cl,hh,hm⟩:=hS.DV i hi;have hf:=Cn (vv:=vv) KT x es.toList L 0 hm;have sX:=MapKept.run_findKey (P:=P) (w:=w) hk.out hf;cases jC:lK L x with
 | none=>
  refine⟨{ w with heap:=w.heap.setIfInBounds g (.map (es.push ⟨kv x,vv u,cl⟩) (cl+1)) },?_,hS.Ef hi ?_⟩
  ·simp [Instr.mapUpdate,run_underlying hU.out,MapKept.run_getObj_map hh,MapKept.run_checkKey hk.out (KT.isKey x),sX,jC,MapKept.run_setObj_map _ hh,Result.andThen]
  ·rw [Kk jC];simp only [Array.toList_push,lF,hm,iZ]
   rfl
 | some p=>
  obtain⟨j,v⟩:=p;obtain⟨h1,h2⟩:=Kl jC;have mo:j<L.length:=(ga.1 h1).1;have Gk:es.toList.length=L.length:=by have:=bw List.length hm;simpa [iZ]using this
  have hes:es.size=L.length:=by simpa using Gk
  have vM:j<es.size:=by omega
  have Gz:es[j].key=kv x:=by
   have:=bw (fun l=>l[j]?) hm;simp [iZ,h1,vM]at this;exact this.1
  have aA:=MapKept.run_keyThatStays (P:=P) (w:=w) (KT.isKey x);refine⟨{ w with heap:=w.heap.setIfInBounds g (.map (es.modify j fun e=> { e with key:=kv x,val:=vv u }) cl) },?_,hS.Ef hi ?_⟩
  ·simp [Instr.mapUpdate,run_underlying hU.out,MapKept.run_getObj_map hh,MapKept.run_checkKey hk.out (KT.isKey x),sX,jC,MapKept.run_setObj_map _ hh,Result.andThen,vM,Gz,aA]
  ·rw [h2 u];apply List.ext_getElem?;intro q;have hq:=bw (fun l=>l[q]?) hm;simp only [iZ,List.getElem?_map,Array.getElem?_toList]at hq;simp only [iZ,List.getElem?_map,kX,Array.getElem?_toList,Array.getElem?_modify]
   by_cases e1:j=q
   ·subst e1;simp [vM,mo]
   ·rw [aC e1,aC e1];exact hq
def O2:Op->Option (ad×ae×ae×ae)
 | .mapUpdate t m k x=>some (t,m,k,x)
 | .insert t m k x=>some (t,m,k,x)
 | _=>none
theorem Jd{op:Op}{m k x:ae}[hU:bK P t (.map kt et)][bK P kt kd](mP:O2 op=some (t,m,k,x))(KT:sk kd kv){g:Nat}{L:List (κ×ν)}(i:Nat){a:κ}{u:ν}(hS:St w0 w ks)(hi:ks[i]?=some (jM T g (iZ kv vv L)))(hm:ev e m= .map (some g))(hk:ev e k=kv a)(hx:ev e x=vv u)(hK:∀w',St w0 w' (ks.set i (jM T g (iZ kv vv (iM L a u))))->ak P N ops K rest e w'):ak P N ops K (⟨none,op,ty,pos,af,none⟩::rest) e w:=by
 obtain⟨w',nt,lR⟩:=ZU (P:=P) (t:=t) KT i a u hS hi;refine .unit (w':=w') ?_ (hK _ lR);cases op<;>simp [O2]at mP<;>obtain⟨rfl,rfl,rfl,rfl⟩:=mP<;>simp [execOp,hm,hk,hx,nt]
end
end
end Go.Proofs.YtagdamiiececaaaGreatDoor.Vc
