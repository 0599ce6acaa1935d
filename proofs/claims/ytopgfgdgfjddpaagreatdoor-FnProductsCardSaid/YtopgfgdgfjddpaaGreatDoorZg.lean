/-
  The texts Pr3, Pt2, Mrg, Po3, Po4, Po5, Po6, Po7, Pr4, Map in one. Conditions: as each part states them.
-/
import Derived.Test.YtopgfgdgfjddpaaGreatDoorZf
import Derived.Test.YtopgfgdgfjddpaaGreatDoorZb
import Derived.Test.YtopgfgdgfjddpaaGreatDoorZe
import Derived.Test.YtopgfgdgfjddpaaGreatDoorZa
import Derived.MapKept
import Derived.Carry
namespace Go.Proofs.YtopgfgdgfjddpaaGreatDoor.Vc
section
open Go.RowKit Tryz
def wb(n:Nat)(R:List Int)(B:aiB):aiB:=if(au n R B).length≤400 then au n R B else []
def qg(n:Nat)(R:List Int)(B:aiB):Int:=if(au n R B).length≤400 then 0 else 3
abbrev uk(A1 PU Au fj:aiC)(n:Nat)(A D:aiC)(N cA cD:Nat)(al:List Bool)(dv:List aG)(U:aiB):List Ck:=
 fQ 4 fj N N al::Bx 22 1 PU [.slice Au N N]::bj A1 n A N cA D N cD::(aE 32 2 Au N N dv U++ [])
set_option maxHeartbeats 4000000 in
theorem OR(n:Nat)(A D:aiC)(cA cD:Nat)(R:List Int)(rs:List aG)(B:aiB)(w:World)(hR:bS w A R.length R)(hB:br w D B.length rs B)(hP:fO n R B):
 aA prog 81 [.agg #[aiD n,.slice A R.length cA,.slice D B.length cD]] w (Fp (wb n R B) (qg n R B) w):=by
 have hn:=hP.n1;have kR:=hP.nn;have hle:=hP.len;have cj:=fun e (h:e<R.length)=>hP.row e h
 have bW:∀e:Nat,e<R.length→(gl B (e:Int)).length≤500:=fun e h=>by
  have:=rF (N:=R.length) (cj e h).1.nodup fun x hx=> ((cj e h).2 x hx).1
  omega
 have Ll:∀E F:Nat,(gw n R B E F).length=R.length:=fun E F=>yX
 have mn:∀E F:Nat,(gh n R B E F).length=R.length:=fun E F=>r6
 have R0:=fun E (h:E<R.length)=>agK (n:=n) hP h
 have RZ:=fun E (h:E<R.length)=>V9 (n:=n) hP h
 have Q3:=agH (n:=n) (R:=R) (B:=B) (F:=R.length);have Q4:=V6 (n:=n) (R:=R) (B:=B) (F:=R.length);have G0:=fun E F (h:E<F) (hF:F<R.length)=>V5 (n:=n) hP h hF
 have yq:=fun E F (hE:E<R.length) h=>agI (n:=n) (R:=R) (B:=B) (E:=E) (F:=F) hE h
 have RD:=fun E F (hE:E<R.length) h=>V7 (n:=n) (R:=R) (B:=B) (E:=E) (F:=F) hE h
 have JG:br w D R.length rs B:=hle▸hB;have aaw:=Ht n A D cA cD R rs B w hR hB hP;have nC:=fun x (h:x<R.length)=>V4 (n:=n) hP h
 have R3:=fun x (h:x<R.length)=>UK (n:=n) hP h
 have Q0:=YL (n:=n) (by omega) hP;have B7:=fun m (h:m<R.length)=>WN (n:=n) (B:=B) h
 have uC:=WM (n:=n) (R:=R) (B:=B);have R4:=fun(e f:Int)=>mF (R:=R) (B:=B) (e:=e) (f:=f)
 obtain⟨N,hN⟩:∃N,R.length=N:=⟨_,rfl⟩;rw [hN]at hR kR hle cj bW JG R0 RZ Q3 Q4 G0 yq RD nC R3 Q0 B7 uC;simp only [hN]at Ll mn R4;rw [hN,hle]at aaw⊢;refine bk func81 O ntmps81 O (sQ O) (aQ O (kK (St.refl w) O O ?_));intro A1 w1 ao;have h1:Rd w1 A1 3 (fun j=> [Value.int .i64 (n:Int),.slice A N cA,.slice D N cD].getD j undef):=ao.rd 0 O;refine ad O (aa.bq 2 h1 O O O ?_);refine aa.call (Ht n A D cA cD R rs B w1 (by rw [hN];exact ao.eY hR) (by rw [hle];exact ao.bF JG) hP) O (by rw [hN,hle];rfl) O ?_;rintro _ w2 ⟨rfl,ak⟩;have ar:=ao.later ak.below;have h1:=Rd.below h1 ak.below;clear ak ao
 first | refine eC rfl rfl ?_ | refine aa.not rfl rfl ?_
 refine ay O (Cd.eV O (av O (aH h1 O O O O inferInstance (aM h1 O O O O O (aa.call (AA _ _ _ _) O O O ?_)))));rintro _ w2 ⟨rfl,rfl⟩;refine ad O (FB N ar O O (by omega) ?_);intro Au w3 az;have az:St w w3 ([bU 32 Au N N (List.replicate N dE),bj A1 n A N cA D N cD]):=az;refine aa.new (z:= .slice none 0 0) az O O ?_;intro PU w4 aJ;refine aa.st (i:=0) (j:=0) aJ O (by exact ax Value.pointer (oA _).symm) O O (Nat.succ_pos _) ?_;intro w5 aK;have aK:St w w5 (Bx 22 1 PU [.slice Au N N]::[bU 32 Au N N (List.replicate N dE),bj A1 n A N cA D N cD]):=aK;refine ad O (xL (v:=false) N aK O O (by omega) ?_);intro fj w6 aR;have aR:=EU (t:=2) N aR;have aV:St w w6 (uk A1 PU Au fj n A D N cA cD (gh n R B N N) (List.replicate N dE) (gw n R B N N)):=by
  rw [Q3,Q4];refine aR.perm ?_
  classical
  refine lR.2 fun z=>?_
  simp only [uk,aE,nP,lE,nQ];omega
 clear aR aK aJ az ar h1;refine ad O (aa.sub O O O (by omega) (ay O ?_));refine Cd.loop (α:=Nat×List aG) (fun z=> [(1,.pointer A1),(4,aiD (N:Int)),(5,.pointer PU),(6,.slice fj N N),(7,aiD ((z.1:Int) - 1))]) (fun z w'=>z.1≤N∧z.2.length=N∧St w w' (uk A1 PU Au fj n A D N cA cD (gh n R B z.1 N) z.2 (gw n R B z.1 N))) (fun z=>z.1) (N,List.replicate N dE) ⟨O,O,O,O,O,ae⟩ ⟨a8 _,by simp,aV⟩ ?_;clear aV;rintro⟨E',dv⟩ e w7 ⟨hE,vw,hS⟩;dsimp only at hE vw hS⊢;refine bK O ?_;refine aB _ O (fun h2=>?_) (fun h2=>?_)
 ·obtain⟨E,rfl⟩:∃E,E'=E+1:=⟨E' - 1,by omega⟩;have qY:E<N:=by omega
  rw [show((E+1:Nat):Int) - 1=(E:Int) by omega];have Qf:=hS.eY hR;have hal7:=mn (E+1) N;refine bP O ?_;refine iU [12] [yS (fj) (N) (N),yI ((E:Int)),yP (aq (A1) 1),yS (A) (N) (cA),yI ((E:Int)),yP (aq (A) ((E:Int)).toNat),yI (gi (R) ((E:Int))),yP (aq (A1) 0),yI ((n:Int)),yI (((n:Int)) - ((1:Int))),yB (decide ((gi (R) ((E:Int)))=(((n:Int)) - ((1:Int))))),yP (aq (fj) ((E:Int)).toNat),.pr (fun _ w'=>St w w' (uk A1 PU Au fj n A D N cA cD ((gh n R B (E+1) N).set E (decide (gi R (E:Int)=(n:Int) - 1))) dv (gw n R B (E+1) N)))] (by kernel_rfl) (by kernel_rfl) (ly (ly (ly (ly (ly (ly (ly (ly (ly (ly (ly (ly (bV.2 ⟨Ye.b9 (fun v w w' h hb=>h.later hb),(fun _ h=>by cases h)⟩))))))))))))) ?_ ?_
  ·refine⟨ba O,ba O,cP fun _ _ hb _ _ _=>aH ((hS.rd 2 O).below hb) O O O O inferInstance (aX O O),cP fun _ _ hb _ _ _=>aM ((hS.rd 2 O).below hb) O O O O O (aX O O),ba O,cP fun _ _ hb _ _ _=>aw (Qf.later hb).2 O O O (by omega) (by omega) (aX O O),cP fun _ _ hb _ _ _=>aT (Qf.later hb) O (by omega) O O (aX O O),cP fun _ _ hb _ _ _=>aH ((hS.rd 2 O).below hb) O O O O inferInstance (aX O O),cP fun _ _ hb _ _ _=>gK ((hS.rd 2 O).below hb) O O O O O (aX O O),aP fun _ _=>aa.sub O O O (by omega) (aX O O),ba O,cP fun _ _ hb _ _ _=>aw ((hS.jy 0 O).later hb).2 O O O (by omega) (by omega) (aX O O),?_,ae⟩;refine iY fun e1 w1 hb hp aL hq=>?_
   refine uc 0 (hS.later hb) O O O (by omega) ?_;intro w6 aR;refine aa.n ?_;exact eA.st O aR
  intro u w8 _ hu jM Lj;have bA:=hu 12 _ O (by kernel_rfl);rw [RZ E qY,←R0 E qY]at bA;clear hS hu jM Lj;refine iq O (aa.add O O O (by omega) (ay O ?_));refine Cd.loop (α:=Nat×List aG) (fun z=> [(1,.pointer A1),(4,aiD (N:Int)),(5,.pointer PU),(6,.slice fj N N),(7,aiD (E:Int)),(8,aiD (z.1:Int))]) (fun z w'=> (E<z.1∧z.1≤N)∧z.2.length=N∧St w w' (uk A1 PU Au fj n A D N cA cD (gh n R B E z.1) z.2 (gw n R B E z.1))) (fun z=>N - z.1) (E+1,dv) ⟨O,O,O,O,O,O,ae⟩ ⟨⟨Nat.lt_succ_self _,by show E+1≤N;omega⟩,vw,bA⟩ ?_;clear bA vw dv;rintro⟨F,dv⟩ e w9 ⟨⟨zo,Zn⟩,vw,hS⟩;dsimp only at zo Zn vw hS⊢;refine bK O ?_;refine aB _ O (fun h3=>?_) (fun h3=>?_)
  ·have hF:F<N:=by omega
   have yb:=hS.eY hR;have Zk:=hS.bF JG;have hal9:=mn E F;have Ku:=G0 E F zo hF;have Ew:=cj F hF;have Lm:=R4 (E:Int) (F:Int);have fu:=hP.ri (e:=(E:Int)) (by omega) (by omega);have h1:Rd w9 A1 3 (fun j=> [Value.int .i64 (n:Int),.slice A N cA,.slice D N cD].getD j undef):=hS.rd 2 O;have D3:gb (gh n R B E F) (F:Int)=false∨(gb (gh n R B E F) (F:Int)=true∧¬gi R (F:Int)=gi R (E:Int)+1)∨(gb (gh n R B E F) (F:Int)=true∧gi R (F:Int)=gi R (E:Int)+1):=by
    cases gb (gh n R B E F) (F:Int)<;>simp [Decidable.em,Classical.em]
    exact(Classical.em _).symm
   have mR:¬(dC n R B (F:Int)∧(F:Int)∈kC R B (E:Int))→St w w9 (uk A1 PU Au fj n A D N cA cD (gh n R B E (F+1)) dv (gw n R B E (F+1))):=fun h=>by
    rw [V8 h,agJ h];exact hS
   rcases D3 with hg | ⟨hg,hr⟩ | ⟨hg,hr⟩
   ·
    have ij:¬(dC n R B (F:Int)∧(F:Int)∈kC R B (E:Int)):=fun h=>by
     rw [hg]at Ku;have:=dX h.1;rw [←Ku]at this;cases this
    refine bP O ?_;refine dI [xS (fj) (N) (N),xI ((F:Int)),xP (aq (fj) ((F:Int)).toNat),xB (gb (gh n R B E F) ((F:Int))),xB (false),xU,xU,xU,xU,xU,xU,xU,xU,xU,xU,xU,xU,xB (false),xB (false),xU,xU,xU,xB (false)] (by kernel_rfl) (by kernel_rfl) O (eg O) ?_ ?_
    ·exact⟨Dr O,Dr O,fun _ _ hb _ _=>aw ((hS.jy 0 O).later hb).2 O O O (by omega) (by omega) (Az O),fun _ _ hb _ _=>qN ((hS.jy 0 O).later hb) O (by omega) O O (Az O),fun _ _ _ _ _=>Dk O (by exact ax Value.bool (hg)),Dr O,Dr O,Dr O,Dr O,Dr O,Dr O,Dr O,Dr O,Dr O,Dr O,Dr O,Dr O,Dr O,fun _ _ _ _ _=>Dk O (by exact ax Value.bool (O)),Dr O,Dr O,Dr O,Dr O,ae⟩
    intro u dB hb _;refine eo O (Cd.eV O ?_);refine av O (aa.add O O O (by omega) (aF O (tQ ?_)));exact⟨(F+1,dv),by show N - (F+1)<N - F;omega,⟨O,O,O,O,O,O,ae⟩,⟨Nat.lt_succ_of_lt zo,hF⟩,vw,(mR ij).later hb⟩
   ·have ij:¬(dC n R B (F:Int)∧(F:Int)∈kC R B (E:Int)):=fun h=>hr (Lm.1 h.2).2.1
    refine bP O ?_;refine dI [xS (fj) (N) (N),xI ((F:Int)),xP (aq (fj) ((F:Int)).toNat),xB (gb (gh n R B E F) ((F:Int))),xB (true),xP (aq (A1) 1),xS (A) (N) (cA),xI ((F:Int)),xP (aq (A) ((F:Int)).toNat),xI (gi (R) ((F:Int))),xP (aq (A1) 1),xS (A) (N) (cA),xI ((E:Int)),xP (aq (A) ((E:Int)).toNat),xI (gi (R) ((E:Int))),xI ((gi (R) ((E:Int)))+ ((1:Int))),xB (decide ((gi (R) ((F:Int)))=((gi (R) ((E:Int)))+ ((1:Int))))),xB (decide ((gi (R) ((F:Int)))=((gi (R) ((E:Int)))+ ((1:Int))))),xB (false),xU,xU,xU,xB (false)] (by kernel_rfl) (by kernel_rfl) O (eg O) ?_ ?_
    ·exact⟨Dr O,Dr O,fun _ _ hb _ _=>aw ((hS.jy 0 O).later hb).2 O O O (by omega) (by omega) (Az O),fun _ _ hb _ _=>qN ((hS.jy 0 O).later hb) O (by omega) O O (Az O),fun _ _ _ _ _=>Dk O (by exact ax Value.bool (hg)),fun _ _ hb _ _=>aa.g O O O (aH (h1.below hb) O O O O inferInstance (Az O)),fun _ _ hb _ _=>aa.g O O O (aM (h1.below hb) O O O O O (Az O)),Dr O,fun _ _ hb _ _=>aa.g O O O (aw (yb.later hb).2 O O O (by omega) (by omega) (Az O)),fun _ _ hb _ _=>aa.g O O O (aT (yb.later hb) O (by omega) O O (Az O)),fun _ _ hb _ _=>aa.g O O O (aH (h1.below hb) O O O O inferInstance (Az O)),fun _ _ hb _ _=>aa.g O O O (aM (h1.below hb) O O O O O (Az O)),Dr O,fun _ _ hb _ _=>aa.g O O O (aw (yb.later hb).2 O O O (by omega) (by omega) (Az O)),fun _ _ hb _ _=>aa.g O O O (aT (yb.later hb) O (by omega) O O (Az O)),fun _ _ _ _ _=>aa.g O O O (aa.add O O O (by omega) (Az O)),Dr O,Dr O,fun _ _ _ _ _=>Dk O (by exact ax Value.bool (cd hr)),Dr O,Dr O,Dr O,Dr O,ae⟩
    intro u dB hb _;refine eo O (Cd.eV O ?_);refine av O (aa.add O O O (by omega) (aF O (tQ ?_)));exact⟨(F+1,dv),by show N - (F+1)<N - F;omega,⟨O,O,O,O,O,O,ae⟩,⟨Nat.lt_succ_of_lt zo,hF⟩,vw,(mR ij).later hb⟩
   have ha:dC n R B (F:Int):=sP (Ku▸hg);refine bP O ?_;refine dI [xS (fj) (N) (N),xI ((F:Int)),xP (aq (fj) ((F:Int)).toNat),xB (gb (gh n R B E F) ((F:Int))),xB (true),xP (aq (A1) 1),xS (A) (N) (cA),xI ((F:Int)),xP (aq (A) ((F:Int)).toNat),xI (gi (R) ((F:Int))),xP (aq (A1) 1),xS (A) (N) (cA),xI ((E:Int)),xP (aq (A) ((E:Int)).toNat),xI (gi (R) ((E:Int))),xI ((gi (R) ((E:Int)))+ ((1:Int))),xB (decide ((gi (R) ((F:Int)))=((gi (R) ((E:Int)))+ ((1:Int))))),xB (decide ((gi (R) ((F:Int)))=((gi (R) ((E:Int)))+ ((1:Int))))),xB (true),xI ((E:Int)),xI ((F:Int)),xB (decide ((E:Int)∈gl B (F:Int))),xB (decide ((E:Int)∈gl B (F:Int)))] (by kernel_rfl) (by kernel_rfl) O (eg O) ?_ ?_
   ·refine⟨Dr O,Dr O,fun _ _ hb _ _=>aw ((hS.jy 0 O).later hb).2 O O O (by omega) (by omega) (Az O),fun _ _ hb _ _=>qN ((hS.jy 0 O).later hb) O (by omega) O O (Az O),fun _ _ _ _ _=>Dk O (by exact ax Value.bool (hg)),fun _ _ hb _ _=>aa.g O O O (aH (h1.below hb) O O O O inferInstance (Az O)),fun _ _ hb _ _=>aa.g O O O (aM (h1.below hb) O O O O O (Az O)),Dr O,fun _ _ hb _ _=>aa.g O O O (aw (yb.later hb).2 O O O (by omega) (by omega) (Az O)),fun _ _ hb _ _=>aa.g O O O (aT (yb.later hb) O (by omega) O O (Az O)),fun _ _ hb _ _=>aa.g O O O (aH (h1.below hb) O O O O inferInstance (Az O)),fun _ _ hb _ _=>aa.g O O O (aM (h1.below hb) O O O O O (Az O)),Dr O,fun _ _ hb _ _=>aa.g O O O (aw (yb.later hb).2 O O O (by omega) (by omega) (Az O)),fun _ _ hb _ _=>aa.g O O O (aT (yb.later hb) O (by omega) O O (Az O)),fun _ _ _ _ _=>aa.g O O O (aa.add O O O (by omega) (Az O)),Dr O,Dr O,fun _ _ _ _ _=>Dk O (by exact ax Value.bool (dX hr)),Dr O,Dr O,?_,Dr O,ae⟩;intro e1 w1 hb hp aL;refine aa.g O O O ?_;refine aa.call (uQ A1 A D cA cD n R rs B (E:Int) (F:Int) _ (by rw [hN,hle];exact Rd.below h1 hb) (by rw [hle];exact Zk.later hb) (by omega) Ew.1 (by have:=bW F hF;omega)) O O O ?_;rintro _ w2 ⟨rfl,ak⟩;subst ak;refine aa.n (d0 (by exact O))
   intro u dB hb _;have bD:=hS.later hb;refine eo O ?_;refine aB _ O (fun h4=>?_) (fun h4=>?_)
   ·have kb:dC n R B (F:Int)∧(F:Int)∈kC R B (E:Int):=⟨ha,Lm.2 ⟨by omega,hr,h4⟩⟩;have abt:=Ll E F;have fH:br dB Au N dv (gw n R B E F):=by
     have h9:=bD.sub (show(aE 32 2 Au N N dv (gw n R B E F)).Sublist _ from(((rX _ _).cons _).cons _).cons _);exact h9.rN abt
    have yu:=(fH.at_ (i:=(E:Int)) (by omega) (by omega)).1;have iD:(rg dv (E:Int)).n≤500:=by
     rw [←yu,MO (by omega)];unfold vK
     split
     ·exact aW _
     refine kJ (oJ _ _) ?_;have:=rF (N:=R.length) (C0 R B (E:Int)).nodup fun x hx=> (mF.1 hx).1
     omega
    have Qw:Rd dB PU 1 (fun _=> .slice Au N N):=Rd.one (bD.rd 1 O);have sD:∀A9:aiC,(ah 2 A9 1 1 [(F:Int)]::uk A1 PU Au fj n A D N cA cD (gh n R B E F) dv (gw n R B E F))[4+1+E]?=some (ah 2 (rg dv (E:Int)).a (rg dv (E:Int)).n (rg dv (E:Int)).c (gl (gw n R B E F) (E:Int))):=fun A9=>CF (t1:=32) (t2:=2) (A:=Au) (n:=N) (c:=N) (rs:=dv) (xss:=gw n R B E F) (pre:=[ah 2 A9 1 1 [(F:Int)],fQ 4 fj N N (gh n R B E F),Bx 22 1 PU [.slice Au N N],bj A1 n A N cA D N cD]) (ks:=[]) (i:=E) (by omega) (by omega)
    have nz:=fun(A9:aiC) (s:aG) (xs:List Int)=>LZ (t1:=32) (t2:=2) (A:=Au) (n:=N) (c:=N) (rs:=dv) (xss:=gw n R B E F) (ks:=[]) (pre:=[ah 2 A9 1 1 [(F:Int)],fQ 4 fj N N (gh n R B E F),Bx 22 1 PU [.slice Au N N],bj A1 n A N cA D N cD]) (i:=E) s xs (by omega) (by omega)
    clear hS;refine bP O ?_;refine iU [8,10] [yS Au N N,yI ((E:Int)),yS (Au) (N) (N),yI ((E:Int)),yP (aq (Au) ((E:Int)).toNat),yS ((rg (dv) ((E:Int))).a) ((rg (dv) ((E:Int))).n) ((rg (dv) ((E:Int))).c),yI ((F:Int)),.pr (fun v w'=>∃A9,v= .slice A9 1 1∧St w w' (ah 2 A9 1 1 [(F:Int)]::uk A1 PU Au fj n A D N cA cD (gh n R B E F) dv (gw n R B E F))),.pr (fun v w'=>∃AZ cZ,v= .slice AZ ((rg dv (E:Int)).n+1) cZ∧St w w' (fQ 4 fj N N (gh n R B E F)::Bx 22 1 PU [.slice Au N N]::bj A1 n A N cA D N cD::(bU 32 Au N N dv::(cS 2 (dv.set E ⟨AZ,(rg dv (E:Int)).n+1,cZ⟩) ((gw n R B E F).set E (gl (gw n R B E F) (E:Int)++ [(F:Int)]))++ [])))),yP (aq Au ((E:Int)).toNat),.pr (fun _ w'=>∃AZ cZ,St w w' (uk A1 PU Au fj n A D N cA cD (gh n R B E F) (dv.set E ⟨AZ,(rg dv (E:Int)).n+1,cZ⟩) ((gw n R B E F).set E (gl (gw n R B E F) (E:Int)++ [(F:Int)]))))] (by kernel_rfl) (by kernel_rfl) (ly (ly (ly (ly (ly (ly (ly (bV.2 ⟨Ye.b9 (fun v w w' h hb=>by obtain⟨A9,hv,hT⟩:=h;exact⟨A9,hv,hT.later hb⟩),(bV.2 ⟨Ye.b9 (fun v w w' h hb=>by obtain⟨AZ,cZ,hv,hT⟩:=h;exact⟨AZ,cZ,hv,hT.later hb⟩),(ly (bV.2 ⟨Ye.b9 (fun v w w' h hb=>by obtain⟨AZ,cZ,hT⟩:=h;exact⟨AZ,cZ,hT.later hb⟩),(fun _ h=>by cases h)⟩))⟩)⟩)))))))) ?_ ?_
    ·refine⟨?_,ba O,cP fun _ _ hb _ _ _=>aM (j:=0) (Qw.below hb) (by exact ax Value.pointer (oA _).symm) O O O O (aX O O),ba O,cP fun _ _ hb _ _ _=>aw (fH.top.later hb).2 O O O (by omega) (by omega) (aX O O),cP fun _ _ hb _ _ _=>bQ (fH.top.later hb) O (by omega) O O (aX O O),ba O,?_,?_,?_,?_,ae⟩
     ·intro e1 w1 cc dp bJ dz hp aL hq;show aa _ _ _ _ _ _ _;have hX:Rd w1 PU 1 (fun _=> .slice Au N N):=by { have bJ:=mw bJ (b:=1) (by kernel_rfl);rcases(show cc=0∨cc=1 by omega)with h | h; { exact Rd.below Qw (dz h) }; { subst h;obtain⟨AZ,cZ,_,hT⟩:=hq 8 _ _ (by kernel_rfl) (by kernel_rfl) (by kernel_rfl) rfl rfl (by kernel_rfl);exact Rd.one (hT.rd 1 rfl) } }
      refine aM (j:=0) hX (by exact ax Value.pointer (oA _).symm) O O O O (aa.n (fh O (by exact O)))
     ·refine cP fun e1 w1 hb hp aL hq=>?_
      refine dJ (St.refl _) O O O ?_;intro A9 w9 ak;refine aa.n ?_;exact fF.dn O ak.below ⟨A9,O,(bD.later hb).call ak⟩
     ·refine iY fun e1 w1 hb hp aL hq=>?_
      obtain⟨A9,Zd,hT⟩:=(hp 7 _ _ (by kernel_rfl) rfl rfl (by kernel_rfl));refine eK (4+1+E) hT (sD A9) (hT.bc 0 O) O (by exact Zd) O (by omega) (by omega) O ?_;intro AZ cZ wZ hZ;have hZ:=(nz A9 ⟨AZ,(rg dv (E:Int)).n+1,cZ⟩ (gl (gw n R B E F) (E:Int)++ [(F:Int)]))▸hZ;refine aa.n ?_;exact eA.dn O ⟨AZ,cZ,O,hZ.tail⟩
     ·intro e1 w1 cc dp bJ dz hp aL hq;show aa _ _ _ _ _ _ _;have hX:jD w1 Au N dv:=by { have bJ:=mw bJ (b:=1) (by kernel_rfl);rcases(show cc=0∨cc=1 by omega)with h | h; { exact fH.top.later (dz h) }; { subst h;obtain⟨AZ,cZ,_,hT⟩:=hq 8 _ _ (by kernel_rfl) (by kernel_rfl) (by kernel_rfl) rfl rfl (by kernel_rfl);exact hT.il 3 rfl } }
      refine aw hX.2 O O O (by omega) (by omega) (aa.n (fh O (by exact O)))
     refine oQ 1 fun e1 w1 hp aL hq=>?_
     have dH:=hp 8 _ _ (by kernel_rfl) O O (by kernel_rfl);obtain⟨AZ,cZ,Ze,hT⟩:=dH;refine zc (te:=32) (n:=N) (c:=N) (A:=Au) (xs:=dv) 3 hT O O (by exact Ze) (by omega) ?_;intro wY hY;refine aa.n ?_;exact eA.st O ⟨AZ,cZ,hY⟩
    intro u me _ hu _ _;obtain⟨AZ,cZ,hT⟩:=hu 10 _ rfl (by kernel_rfl);rw [yq E F qY kb]at hT;refine iq O (aw (hT.jy 0 O).2 O O O (by omega) (by omega) (uc 0 hT O O O (by omega) ?_));intro mG gr;rw [ir,RD E F qY kb]at gr;refine ad O (aa.add O O O (by omega) (aF O (tQ ?_)));exact⟨(F+1,_),by show N - (F+1)<N - F;omega,⟨O,O,O,O,O,O,ae⟩,⟨Nat.lt_succ_of_lt zo,hF⟩,by simp [vw],gr⟩
   have ij:¬(dC n R B (F:Int)∧(F:Int)∈kC R B (E:Int)):=fun h=>h4 (Lm.1 h.2).2.2
   refine av O (aa.add O O O (by omega) (aF O (tQ ?_)));exact⟨(F+1,dv),by show N - (F+1)<N - F;omega,⟨O,O,O,O,O,O,ae⟩,⟨Nat.lt_succ_of_lt zo,hF⟩,vw,(mR ij).later hb⟩
  have hF:F=N:=by omega
  subst hF;refine aY O (aZ (cL O (aa.sub O O O (by omega) (aF O (tQ ?_)))));exact⟨(E,dv),by show E<E+1;omega,⟨O,O,O,O,O,ae⟩,by show E≤F;omega,vw,hS⟩
 obtain rfl:E'=0:=by omega
 refine aY O (aZ (cL O ?_));refine aa.new (z:= .slice none 0 0) hS O O ?_;intro PF w8 bA;refine ad O (aa.new (z:= .nilFunc) bA O O ?_);intro PG w9 aS;refine ad O (VK O O O O O (aa.st (i:=0) (j:=0) aS O (by exact ax Value.pointer (oA _).symm) O O (Nat.succ_pos _) ?_));intro dB bD;have bD:=(bD.nil 2);clear aS bA hS;refine ay O ?_;refine Cd.loop (α:=Nat×aiC×Nat) (fun z=> [(1,.pointer A1),(4,aiD (N:Int)),(6,.slice fj N N),(9,.pointer PF),(10,.pointer PG),(11,.slice z.2.1 ((bw z.1).filter fun e=>decide (gi R e=0) && decide (dC n R B e)).length z.2.2),(85,aiD (N:Int)),(86,aiD (z.1:Int))]) (fun z w'=>z.1≤N∧St w w' (ah 2 z.2.1 ((bw z.1).filter fun e=>decide (gi R e=0) && decide (dC n R B e)).length z.2.2 ((bw z.1).filter fun e=>decide (gi R e=0) && decide (dC n R B e))::Bx 121 1 PG [.func (.func 140) #[] #[.pointer PF,.pointer A1,.pointer PG,.pointer PU]]::Bx 22 1 PF [.slice none 0 0]::uk A1 PU Au fj n A D N cA cD (gh n R B 0 N) dv (gw n R B 0 N))) (fun z=>N - z.1) (0,none,0) ⟨O,O,O,O,O,O,O,O,ae⟩ ⟨aW _,bD⟩ ?_;clear bD;rintro⟨j,AF,cF⟩ e eu ⟨hj,hS⟩;dsimp only at hj hS⊢;have gy:((bw j).filter fun e=>decide (gi R e=0) && decide (dC n R B e)).length≤500:=by
  refine kJ (oJ _ _) ?_;rw [bw,fN,pe];omega
 refine bK O ?_;refine aB _ O (fun h3=>?_) (fun h3=>?_)
 ·have yi:j<N:=by omega
  have GQ:=B7 j yi;have zr:=hS.eY hR;have h1:Rd eu A1 3 (fun j=> [Value.int .i64 (n:Int),.slice A N cA,.slice D N cD].getD j undef):=hS.rd 5 O;have PJ:ud eu fj N (gh n R B 0 N):=hS.jy 3 O;have hfj:=nC j yi;have mR:¬(gi R (j:Int)=0∧dC n R B (j:Int))→((bw (j+1)).filter fun e=>decide (gi R e=0) && decide (dC n R B e))=((bw j).filter fun e=>decide (gi R e=0) && decide (dC n R B e)):=fun h=>by
   rw [GQ,ag h,fg]
  refine av O (aH h1 O O O O inferInstance (aM h1 O O O O O (ad O (aw zr.2 O O O (by omega) (by omega) (aT zr O (by omega) O O (ad O ?_))))));refine bY 95 O (fun h4=>?_) (fun h4=>?_)
  ·refine aa.g O O O (ad O (aa.g O O O (ad O (aa.g O O O ?_))));refine aw PJ.2 O O O (by omega) (by omega) (aa.g O O O (qN PJ O (by omega) O O (ay O ?_)));rw [hfj];refine aB _ O (fun h5=>?_) (fun h5=>?_)
   ·rw [aj ⟨h4,h5⟩]at GQ;refine av O (dJ hS O O O ?_);intro A9 gm eG;refine eK 1 eG O (eG.bc 0 O) O O O (by omega) (by omega) O ?_;intro AZ cZ dW fC;have fC:=fC.tail;refine ad O (aa.add O O O (by omega) (aF O (tQ ?_)));refine⟨(j+1,AZ,cZ),by show N - (j+1)<N - j;omega,⟨O,O,O,O,O,?_,O,O,ae⟩,by show j+1≤N;omega,?_⟩
    ·show Value.slice _ _ _=_;rw [GQ,dm];rfl
    show St w dW (ah _ _ (((bw (j+1)).filter _).length) _ ((bw (j+1)).filter _)::_);rw [GQ,dm];exact fC
   refine av O (aa.add O O O (by omega) (aF O (tQ ?_)));refine⟨(j+1,AF,cF),by show N - (j+1)<N - j;omega,⟨O,O,O,O,O,?_,O,O,ae⟩,by show j+1≤N;omega,?_⟩
   ·show Value.slice _ _ _=_;rw [mR (fun h=>h5 h.2)]
   show St w eu (ah _ _ (((bw (j+1)).filter _).length) _ ((bw (j+1)).filter _)::_);rw [mR (fun h=>h5 h.2)];exact hS
  refine ai O O O O O (ai O O O O O (ai O O O O O (ai O O O O O (ay O ?_))));refine Cd.eV O ?_;refine av O (aa.add O O O (by omega) (aF O (tQ ?_)));refine⟨(j+1,AF,cF),by show N - (j+1)<N - j;omega,⟨O,O,O,O,O,?_,O,O,ae⟩,by show j+1≤N;omega,?_⟩
  ·show Value.slice _ _ _=_;rw [mR (fun h=>h4 h.1)]
  show St w eu (ah _ _ (((bw (j+1)).filter _).length) _ ((bw (j+1)).filter _)::_);rw [mR (fun h=>h4 h.1)];exact hS
 obtain rfl:j=N:=by omega
 rw [uC]at hS gy⊢;generalize hfi:((ue R).filter fun f=>decide (dC n R B f))=fi at*;have aal:∀x∈fi,0≤x∧x< (j:Int):=fun x hx=>by
  rw [←hfi]at hx;have:=(tf.1 (fA.1 hx).1).1;omega
 have lI:Rd eu PG 1 (fun _=> .func (.func 140) #[] #[.pointer PF,.pointer A1,.pointer PG,.pointer PU]):=Rd.one (hS.rd 1 O);have ZJ:St w eu (oT PF none 0 [] [] A1 n A j cA D j cD PG PU Au j j dv (gw n R B 0 j) [ah 2 AF fi.length cF fi,fQ 4 fj j j (gh n R B 0 j)]):=by
  have h9:=(hS.perm (show List.Perm _ (Bx 22 1 PF [.slice none 0 0]::(bj A1 n A j cA D j cD::Bx 121 1 PG [.func (.func 140) #[] #[.pointer PF,.pointer A1,.pointer PG,.pointer PU]]::Bx 22 1 PU [.slice Au j j]::(aE 32 2 Au j j dv (gw n R B 0 j)++ [ah 2 AF fi.length cF fi,fQ 4 fj j j (gh n R B 0 j)]))) from by
   classical
   refine lR.2 fun z=>?_
   simp only [uk,nP,lE,nQ];omega))
  exact(h9.nil 32).perm (List.Perm.swap _ _ _)
 clear hS;have zx:∀e:Nat,e<j→(gl (gw n R B 0 j) (e:Int)).length≤500∧∀x∈gl (gw n R B 0 j) (e:Int),0≤x∧x< (j:Int):=fun e he=>by
  rw [R3 e he];refine⟨kJ (oJ _ _) ?_,fun x hx=>?_⟩
  ·have:=rF (N:=R.length) (C0 R B (e:Int)).nodup fun x hx=> (mF.1 hx).1
   omega
  have:=(mF.1 (fA.1 hx).1).1;omega
 refine aY O (aZ (cL O ?_));refine aa.ld lI (by exact ax Value.pointer (oA _).symm) (by decide) O O O ?_;refine ad O ?_;refine aa.call (YO w n (by omega) PF A1 A D PG PU Au j cA j cD j j dv (gw n R B 0 j) (Ll 0 j) (by omega) zx (n - 1) 0 fi.length [] fi none AF 0 cF [ah 2 AF fi.length cF fi,fQ 4 fj j j (gh n R B 0 j)] _ none 0 [] [] O O (by omega) gy aal (fun _ _ _ _ _ _=>bS.nil) (fun w' A c rs F h=>S0 h) O (aW _) ZJ) O O O ?_;rintro _ gm ⟨rfl,A',c',rs',fI,hS⟩;rw [List.nil_append,Q0]at fI hS;have cN:Rd gm PF 1 (fun _=> .slice A' (cap (au n R B)).length c'):=Rd.one (hS.rd 0 O);refine ad O (aM (j:=0) cN (by exact ax Value.pointer (oA _).symm) O O O O ?_);refine aa.len O O (ay O ?_);have cg:=IH (au n R B);have Kj:=FU (l:=au n R B);refine aB _ O (fun h4=>?_) (fun h4=>?_)
 ·have ij:¬(au n R B).length≤400:=fun h=>by have:=Kj.2 h;omega
  refine dN O (Aq O O ?_);unfold wb qg;rw [ag ij,ag ij];exact Fp.none hS
 have kb:(au n R B).length≤400:=Kj.1 (by omega);rw [xW (by omega)]at fI hS cN⊢;refine av O (aM (j:=0) cN (by exact ax Value.pointer (oA _).symm) O O O O (bh O (Aq O O ?_)));unfold wb qg;rw [aj kb,aj kb];exact⟨A',c',rs',O,fI,VX (pre:=[]) (hS.sub ((rX _ _).cons _))⟩
theorem WY(G X:aiB):cap (cap G++X)=cap (G++X):=by
 unfold cap
 by_cases h:G.length≤401
 ·rw [lS h]
 rw [xG (by rw [pf];omega),xG (by omega),List.take_take,Nat.min_self]
section
variable (n:Nat) (R:List Int) (B:aiB)
def mB(st:List Int)(m:Nat):List Int:=(bw m).filter fun e=>decide (gi R e=(st.length:Int)∧dC n R B e∧(st.length=0∨gi st ((st.length:Int) - 1)∈gl B e))
def fG:Nat→List Int→aiB
 | 0,st=> [st]
 | k+1,st=> (mB n R B st R.length).flatMap fun e=>fG k (st++ [e])
end
section
variable {n:Nat} {R:List Int} {B:aiB}
theorem aei(st:List Int)(m:Nat):mB n R B st (m+1)=if gi R (m:Int)=(st.length:Int)∧dC n R B (m:Int)∧(st.length=0∨gi st ((st.length:Int) - 1)∈gl B (m:Int))then mB n R B st m++ [(m:Int)]else mB n R B st m:=by
 have e9:bw (m+1)=bw m++ [(m:Int)]:=by
  unfold bw;rw [ng,iQ];rfl
 unfold mB;rw [e9,nS]
 by_cases c:gi R (m:Int)=(st.length:Int)∧dC n R B (m:Int)∧(st.length=0∨gi st ((st.length:Int) - 1)∈gl B (m:Int))
 ·rw [aj c,s8 (by simpa using c)];rfl
 rw [ag c,pG (by simpa using c)];simp
theorem OA:∀(k:Nat) (st:List Int) (e:Int),0<st.length→gi st ((st.length:Int) - 1)=e→(0≤e∧e<R.length)→gi R e=(st.length:Int) - 1→st.length+k=n→fG n R B k st=(nr R B k e).map (st++ ·)
 | 0,st,e,_,_,_,_,_=>by simp [fG,nr]
 | k+1,st,e,h0,hl,he,hr,hk=>by
  rw [fG,UP (n:=n) (by omega) (by omega),List.map_flatMap];have hn:mB n R B st R.length=(kC R B e).filter fun f=>decide (dC n R B f):=by
   refine SA.eq (pd _ (mb _)) (pd _ (C0 _ _ _)) fun y=>?_
   unfold mB;rw [fA,fA,im,mF,jT,jT,hl];constructor
   ·rintro⟨h1,h2,h3,h4⟩;exact⟨⟨h1,by omega,h4.resolve_left (by omega)⟩,h3⟩
   ·rintro⟨⟨h1,h2,h4⟩,h3⟩;exact⟨h1,by omega,h3,.inr h4⟩
  rw [hn];refine Dy fun f hf=>?_
  have hf:=mF.1 (fA.1 hf).1;have hlen:(st++ [f]).length=st.length+1:=by simp
  rw [OA k (st++ [f]) f (by omega) (by
   rw [hlen,show((st.length+1:Nat):Int) - 1=(st.length:Int) by omega,bX (by omega)];simp) hf.1 (by rw [hlen];omega) (by omega),List.map_map]
  refine mJ fun y _=>?_
  show(st++ [f])++y=st++ (f::y);rw [fR];rfl
theorem X0(hn:1≤n):fG n R B n []=au n R B:=by
 obtain⟨k,rfl⟩:∃k,n=k+1:=⟨n - 1,by omega⟩;rw [NY,fG];have hb:mB (k+1) R B [] R.length=(ue R).filter fun f=>decide (dC (k+1) R B f):=by
  refine SA.eq (pd _ (mb _)) (pd _ (pd _ (mb _))) fun y=>?_
  unfold mB;rw [fA,fA,im,tf,jT,jT];exact⟨fun h=> ⟨⟨h.1,h.2.1⟩,h.2.2.1⟩,fun h=> ⟨h.1.1,h.1.2,h.2,.inl O⟩⟩
 rw [hb];refine Dy fun f hf=>?_
 have hf:=tf.1 (fA.1 hf).1;rw [List.nil_append,OA k [f] f (by simp) (by simp [gi]) hf.1 (by rw [hf.2];rfl) (by simp;omega)]
 rfl
end
theorem E1{Q:jm}{e:Env}{w:World}{F:List (Nat×Value)}(hM:Mt e F)(h:Q .normal (ext e F) w):Q .normal e w:=by rwa [x4 hM]at h
theorem adD{w0 w:World}{ks:List Ck}{t:TypeId}{A:aiC}{n c:Nat}{xs:List Bool}(h:St w0 w ks)(hm:fQ t A n c xs∈ks):ud w A n xs:=by
 obtain⟨i,hi,e⟩:=gJ.1 hm;exact h.jy i (by rw [gf hi,e])
theorem Tv{α:Type}(s m:α)(X K:List α):(s::m::(X++K)).Perm (m::((X++ [s])++K)):=by
 classical
 refine lR.2 fun z=>?_
 simp only [nP,lE,nQ];omega
theorem aez{α:Type}(p s:α)(X K:List α):(p::s::(X++K)).Perm (X++ (p::s::K)):=by
 classical
 refine lR.2 fun z=>?_
 simp only [nP,lE];omega
set_option maxHeartbeats 4000000 in
theorem acQ(w0:World)(n:Nat)(AR AD:aiC)(cR cD:Nat)(R:List Int)(xq:List aG)(B:aiB)(N:Nat)(hN:R.length=N)(hR:bS w0 AR N R)(hB:br w0 AD N xq B)(hP:fO n R B)(Aa:aiC)(La:List Bool)(wm:r5 N La (fun x=>dC n R B (x:Int))):
 ∀(k r:Nat) (st:List Int) (As:aiC) (cs:Nat) (fE:List Ck) (w:World) (A:aiC) (c:Nat) (rs:List aG) (F:aiB),r+k=n→st.length=r→(∀x∈st,0≤x∧x< (N:Int))→fQ 4 Aa N N La∈fE→rs.length=F.length→F.length≤401→
  St w0 w (ah 2 As r cs st::(aE 32 2 A F.length c rs F++fE))→
  aA prog 201 [.agg #[aiD n,.slice AR N cR,.slice AD N cD],.slice Aa N N,.slice As r cs,.slice A F.length c] w (fun v w'=>∃A' c' rs',v= .slice A' (cap (F++fG n R B k st)).length c'∧rs'.length=(cap (F++fG n R B k st)).length∧St w0 w' (aE 32 2 A' (cap (F++fG n R B k st)).length c' rs' (cap (F++fG n R B k st))++fE)):=by
 have hn:=hP.n1;have kR:=hP.nn;have hle:=hP.len;have cj:=fun(f:Nat) (h:f<R.length)=>hP.at_ (e:=(f:Int)) (by omega) (by omega)
 have bW:∀f:Nat,f<R.length→(gl B (f:Int)).length≤500:=fun f h=>by
  have:=rF (N:=R.length) (cj f h).1.nodup fun x hx=>by have:=((cj f h).2.1 x hx).1;omega
  omega
 have fu:=fun(x:Nat) (h:x<R.length)=>hP.ri (e:=(x:Int)) (by omega) (by omega)
 rw [hN]at kR hle bW fu;have sq:=wm.1;intro k
 induction k with
 | zero=>
  intro r st As cs fE w A c rs F hk ak Lb Gt kS hF hS;refine bk func201 O ntmps201 O (cK O) (aQ O (kK hS O O ?_));intro A4 w1 ao;refine ad O (aa.len O O (ay O ?_));refine aB _ O (fun h1=>?_) (fun h1=>?_)
  ·have hc:cap (F++fG n R B 0 st)=F:=by
    have h9:cap F=F:=xW hF;rw [FV (l:=F) _ (by rw [h9];omega),h9]
   refine dN O (gB O ?_);rw [hc];exact⟨A,c,rs,O,kS,ao.tail.tail⟩
  refine av O (aa.len O O (ad O ?_));refine aH (ao.rd 0 O) O O O O inferInstance (gK (j:=0) (ao.rd 0 O) (by exact ax Value.pointer O) O O O O (ay O (C4 O (by omega) ?_)));have hc:cap (F++fG n R B 0 st)=F++ [st]:=xW (by rw [fG,dm];show F.length+1≤401;omega);have ao:=ao.tail;refine av O (nj ao O O O ?_);intro A9 w2 ar;refine oM 2 ar O (ar.il 0 O) O O O (by omega) (by omega) O ?_;intro AZ cZ w3 az;have az:=az.tail;refine bh O (gB O ?_);rw [hc];refine⟨AZ,cZ,rs++ [⟨As,r,cs⟩],by rw [dm];rfl,by simp [kS],?_⟩;have aJ:St w0 w3 (ah 2 As r cs st::bU 32 AZ (F.length+1) cZ (rs++ [⟨As,r,cs⟩])::(cS 2 rs F++fE)):=az;have aJ:=aJ.perm (Tv _ _ _ _);rw [←uY kS]at aJ;rw [dm];exact aJ
 | succ k ih=>
  intro r st As cs fE w A c rs F hk ak Lb Gt kS hF hS;refine bk func201 O ntmps201 O (cK O) (aQ O (kK hS O O ?_));intro A4 w1 ao;refine ad O (aa.len O O (ay O ?_));refine aB _ O (fun h1=>?_) (fun h1=>?_)
  ·have hc:cap (F++fG n R B (k+1) st)=F:=by
    have h9:cap F=F:=xW hF;rw [FV (l:=F) _ (by rw [h9];omega),h9]
   refine dN O (gB O ?_);rw [hc];exact⟨A,c,rs,O,kS,ao.tail.tail⟩
  refine av O (aa.len O O (ad O ?_));refine aH (ao.rd 0 O) O O O O inferInstance (gK (j:=0) (ao.rd 0 O) (by exact ax Value.pointer O) O O O O (ay O (qM O (by omega) ?_)));have ao:St w0 w1 (bj A4 (n:Int) AR N cR AD N cD::ah 2 As r cs st::(aE 32 2 A F.length c rs F++fE)):=ao;have ar:=ao.perm (aez _ _ _ _);have JJ:cap (F++ (mB n R B st 0).flatMap fun e=>fG n R B k (st++ [e]))=F:=by
   show cap (F++ [])=F;rw [fg,xW hF]
  clear ao hS;refine bP O ?_;refine Cd.loop (α:=Nat×aiC×Nat×List aG) (fun z=> [(1,.slice Aa N N),(2,.slice As r cs),(3,.slice z.2.1 (cap (F++ (mB n R B st z.1).flatMap fun e=>fG n R B k (st++ [e]))).length z.2.2.1),(4,.pointer A4),(9,aiD (r:Int)),(10,aiD (z.1:Int))])
   (fun z w'=>z.1≤N∧z.2.2.2.length=(cap (F++ (mB n R B st z.1).flatMap fun e=>fG n R B k (st++ [e]))).length∧St w0 w' (aE 32 2 z.2.1 (cap (F++ (mB n R B st z.1).flatMap fun e=>fG n R B k (st++ [e]))).length z.2.2.1 z.2.2.2 (cap (F++ (mB n R B st z.1).flatMap fun e=>fG n R B k (st++ [e])))++ (bj A4 (n:Int) AR N cR AD N cD::ah 2 As r cs st::fE))) (fun z=>N - z.1) (0,A,c,rs) ⟨rfl,rfl,ax (fun m:aiB=>Value.slice A m.length c) JJ.symm,rfl,rfl,rfl,ae⟩ ⟨aW _,by show rs.length=_;rw [JJ];exact kS,by show St w0 w1 (aE _ _ A (cap _).length c rs (cap _)++_);rw [JJ];exact ar⟩ ?_
  clear ar kS;rintro⟨q,A,c,rs⟩ e w2 ⟨hq,kS,hS⟩;dsimp only at hq kS hS⊢;have gH:=aei (n:=n) (R:=R) (B:=B) st q;have cg:=IH (F++ (mB n R B st q).flatMap fun e=>fG n R B k (st++ [e]));have D4:=WY (F++ (mB n R B st q).flatMap fun e=>fG n R B k (st++ [e]));generalize hG:(F++ (mB n R B st q).flatMap fun e=>fG n R B k (st++ [e]))=G at*;have D2:∀ {w':World} {A:aiC} {c:Nat} {rs:List aG} {F:aiB},St w0 w' (aE 32 2 A F.length c rs F++ (bj A4 (n:Int) AR N cR AD N cD::ah 2 As r cs st::fE))→Rd w' A4 3 (fun q=> [Value.int .i64 (n:Int),.slice AR N cR,.slice AD N cD].getD q undef):=fun h=> (h.sub (gR _ _)).rd 0 O
  have Kh:∀ {w':World} {A:aiC} {c:Nat} {rs:List aG} {F:aiB},St w0 w' (aE 32 2 A F.length c rs F++ (bj A4 (n:Int) AR N cR AD N cD::ah 2 As r cs st::fE))→bS w' As r st:=fun h=> (h.sub (gR _ _)).bc 1 O
  have uC:∀ {w':World} {A:aiC} {c:Nat} {rs:List aG} {F:aiB},St w0 w' (aE 32 2 A F.length c rs F++ (bj A4 (n:Int) AR N cR AD N cD::ah 2 As r cs st::fE))→ud w' Aa N La:=fun h=>adD h (List.mem_append_right _ (oK _ (oK _ Gt)))
  have tt:=D2 hS;refine aQ O (aH tt O O O O inferInstance (aM (j:=1) tt (by exact ax Value.pointer O) O O O O ?_));refine aa.len O O (ay O ?_);refine aB _ O (fun h3=>?_) (fun h3=>?_)
  ·have Et:q<N:=by omega
   have pN:=hS.eY hR;have si:=hS.bF hB;have lu:=Kh hS;have BN:=uC hS;have Kx:=wm.2 q Et;have hriq:=fu q Et;have hrlq:=bW q (by omega);have RR:=si.at_ (i:=(q:Int)) (by omega) (by omega);have iD:=RR.1;have mR:¬(gi R (q:Int)=(st.length:Int)∧dC n R B (q:Int)∧(st.length=0∨gi st ((st.length:Int) - 1)∈gl B (q:Int)))→F++ ((mB n R B st (q+1)).flatMap fun e=>fG n R B k (st++ [e]))=G:=fun h=>by
    rw [gH,ag h];exact hG
   have D3:¬gi R (q:Int)=(r:Int)∨(gi R (q:Int)=(r:Int)∧gb La (q:Int)=false)∨(gi R (q:Int)=(r:Int)∧gb La (q:Int)=true∧(r:Int)=0)∨(gi R (q:Int)=(r:Int)∧gb La (q:Int)=true∧¬(r:Int)=0):=by
    by_cases a:gi R (q:Int)=(r:Int)
    ·cases gb La (q:Int)
     ·exact .inr (.inl ⟨a,O⟩)
     ·by_cases b:(r:Int)=0
      ·exact .inr (.inr (.inl ⟨a,O,b⟩))
      ·exact .inr (.inr (.inr ⟨a,O,b⟩))
    ·exact .inl a
   rcases D3 with a1 | ⟨a1,a2⟩ | ⟨a1,a2,a3⟩ | ⟨a1,a2,a3⟩
   ·--dup 4
    have e6:=mR (fun h=>a1 (by rw [h.1,ak]));refine bP O ?_;refine dI [xP (aq (A4) 1),xS (AR) (N) (cR),xI ((q:Int)),xP (aq (AR) ((q:Int)).toNat),xI (gi (R) ((q:Int))),xI ((r:Int)),xB (decide ((gi (R) ((q:Int)))=((r:Int)))),xB (false),xU,xU,xU,xU,xB (false),xB (false),xU,xU,xU,xU,xU,xU,xU,xU,xU,xU,xU,xU,xU,xU,xU,xB (false)] (by kernel_rfl) (by kernel_rfl) O (eg O) ?_ ?_
    ·exact⟨fun _ _ hb _ _=>aH (tt.below hb) O O O O inferInstance (Az O),fun _ _ hb _ _=>aM (tt.below hb) O O O O O (Az O),Dr O,fun _ _ hb _ _=>aw (pN.later hb).2 O O O (by omega) (by omega) (Az O),fun _ _ hb _ _=>aT (pN.later hb) O (by omega) O O (Az O),Dr O,Dr O,fun _ _ _ _ _=>Dk O (by exact ax Value.bool (cd a1)),Dr O,Dr O,Dr O,Dr O,Dr O,fun _ _ _ _ _=>Dk O (by exact ax Value.bool (O)),Dr O,Dr O,Dr O,Dr O,Dr O,Dr O,Dr O,Dr O,Dr O,Dr O,Dr O,Dr O,Dr O,Dr O,Dr O,Dr O,ae⟩
    intro u w3 gu _;refine eo O (Cd.eV O ?_);refine av O (aa.add O O O (by omega) (aF O (tQ ?_)));exact⟨(q+1,A,c,rs),by show N - (q+1)<N - q;omega,⟨O,O,ax (fun m:aiB=>Value.slice A (cap m).length c) e6.symm,O,O,O,ae⟩,by show q+1≤N;omega,by show rs.length=(cap _).length;rw [e6];exact kS,by show St w0 w3 (aE _ _ A (cap _).length c rs (cap _)++_);rw [e6];exact hS.later gu⟩
   ·have e6:=mR (fun h=>by have:=Kx.2 h.2.1;rw [a2]at this;cases this);refine bP O ?_;refine dI [xP (aq (A4) 1),xS (AR) (N) (cR),xI ((q:Int)),xP (aq (AR) ((q:Int)).toNat),xI (gi (R) ((q:Int))),xI ((r:Int)),xB (decide ((gi (R) ((q:Int)))=((r:Int)))),xB (true),xS (Aa) (N) (N),xI ((q:Int)),xP (aq (Aa) ((q:Int)).toNat),xB (gb (La) ((q:Int))),xB (gb (La) ((q:Int))),xB (false),xU,xU,xU,xU,xU,xU,xU,xU,xU,xU,xU,xU,xU,xU,xU,xB (false)] (by kernel_rfl) (by kernel_rfl) O (eg O) ?_ ?_
    ·exact⟨fun _ _ hb _ _=>aH (tt.below hb) O O O O inferInstance (Az O),fun _ _ hb _ _=>aM (tt.below hb) O O O O O (Az O),Dr O,fun _ _ hb _ _=>aw (pN.later hb).2 O O O (by omega) (by omega) (Az O),fun _ _ hb _ _=>aT (pN.later hb) O (by omega) O O (Az O),Dr O,Dr O,fun _ _ _ _ _=>Dk O (by exact ax Value.bool (dX a1)),Dr O,Dr O,fun _ _ hb _ _=>aa.g O O O (aw (BN.later hb).2 O O O (by omega) (by omega) (Az O)),fun _ _ hb _ _=>aa.g O O O (qN (BN.later hb) O (by omega) O O (Az O)),Dr O,fun _ _ _ _ _=>Dk O (by exact ax Value.bool (a2)),Dr O,Dr O,Dr O,Dr O,Dr O,Dr O,Dr O,Dr O,Dr O,Dr O,Dr O,Dr O,Dr O,Dr O,Dr O,Dr O,ae⟩
    intro u w3 gu _;refine eo O (Cd.eV O ?_);refine av O (aa.add O O O (by omega) (aF O (tQ ?_)));exact⟨(q+1,A,c,rs),by show N - (q+1)<N - q;omega,⟨O,O,ax (fun m:aiB=>Value.slice A (cap m).length c) e6.symm,O,O,O,ae⟩,by show q+1≤N;omega,by show rs.length=(cap _).length;rw [e6];exact kS,by show St w0 w3 (aE _ _ A (cap _).length c rs (cap _)++_);rw [e6];exact hS.later gu⟩
   ·have kb:gi R (q:Int)=(st.length:Int)∧dC n R B (q:Int)∧(st.length=0∨gi st ((st.length:Int) - 1)∈gl B (q:Int)):=⟨by omega,Kx.1 a2,.inl (by omega)⟩;refine bP O ?_;refine dI [xP (aq (A4) 1),xS (AR) (N) (cR),xI ((q:Int)),xP (aq (AR) ((q:Int)).toNat),xI (gi (R) ((q:Int))),xI ((r:Int)),xB (decide ((gi (R) ((q:Int)))=((r:Int)))),xB (true),xS (Aa) (N) (N),xI ((q:Int)),xP (aq (Aa) ((q:Int)).toNat),xB (gb (La) ((q:Int))),xB (gb (La) ((q:Int))),xB (true),xI ((r:Int)),xB (decide (((r:Int))=((0:Int)))),xB (true),xU,xU,xU,xU,xU,xU,xU,xU,xU,xU,xU,xB (true),xB (true)] (by kernel_rfl) (by kernel_rfl) O (eg O) ?_ ?_
    ·exact⟨fun _ _ hb _ _=>aH (tt.below hb) O O O O inferInstance (Az O),fun _ _ hb _ _=>aM (tt.below hb) O O O O O (Az O),Dr O,fun _ _ hb _ _=>aw (pN.later hb).2 O O O (by omega) (by omega) (Az O),fun _ _ hb _ _=>aT (pN.later hb) O (by omega) O O (Az O),Dr O,Dr O,fun _ _ _ _ _=>Dk O (by exact ax Value.bool (dX a1)),Dr O,Dr O,fun _ _ hb _ _=>aa.g O O O (aw (BN.later hb).2 O O O (by omega) (by omega) (Az O)),fun _ _ hb _ _=>aa.g O O O (qN (BN.later hb) O (by omega) O O (Az O)),Dr O,fun _ _ _ _ _=>Dk O (by exact ax Value.bool (a2)),Dr O,Dr O,fun _ _ _ _ _=>Dk O (by exact ax Value.bool (dX a3)),Dr O,Dr O,Dr O,Dr O,Dr O,Dr O,Dr O,Dr O,Dr O,Dr O,Dr O,Dr O,Dr O,ae⟩
    intro u w3 gu _;have hS:=hS.later gu;refine eo O (Cd.gj O ?_);have Ep:=gH;rw [aj kb]at Ep;have JN:F++ ((mB n R B st (q+1)).flatMap fun e=>fG n R B k (st++ [e]))=G++fG n R B k (st++ [(q:Int)]):=by
     rw [Ep,List.flatMap_append,←fR,hG];simp
    have Ki:=D4 (fG n R B k (st++ [(q:Int)]));have Lc:∀x∈st++ [(q:Int)],0≤x∧x< (N:Int):=fun x hx=>by
     rcases iG.1 hx with h | h
     ·exact Lb x h
     ·obtain rfl:=eT.1 h;omega
    generalize hH:cap G=H at*;refine iU [6,8] [.ex (.agg #[aiD (n:Int),.slice AR N cR,.slice AD N cD]),yS (Aa) (N) (N),yS (As) (r) (cs),.pr (fun v w'=>∃A9 c9,v= .slice A9 r c9∧St w0 w' (ah 2 A9 r c9 st::(aE 32 2 A H.length c rs H++ (bj A4 (n:Int) AR N cR AD N cD::ah 2 As r cs st::fE)))),yI ((q:Int)),.pr (fun v w'=>∃A9,v= .slice A9 1 1∧bS w' A9 1 [(q:Int)]),.pr (fun v w'=>∃AZ cZ,v= .slice AZ (r+1) cZ∧St w0 w' (ah 2 AZ (r+1) cZ (st++ [(q:Int)])::(aE 32 2 A H.length c rs H++ (bj A4 (n:Int) AR N cR AD N cD::ah 2 As r cs st::fE)))),yS (A) (H.length) (c),.pr (fun v w'=>∃A' c' rs',v= .slice A' (cap (G++fG n R B k (st++ [(q:Int)]))).length c'∧rs'.length=(cap (G++fG n R B k (st++ [(q:Int)]))).length∧St w0 w' (aE 32 2 A' (cap (G++fG n R B k (st++ [(q:Int)]))).length c' rs' (cap (G++fG n R B k (st++ [(q:Int)])))++ (bj A4 (n:Int) AR N cR AD N cD::ah 2 As r cs st::fE))),.pr (fun v w'=>∃A' c' rs',v= .slice A' (cap (G++fG n R B k (st++ [(q:Int)]))).length c'∧rs'.length=(cap (G++fG n R B k (st++ [(q:Int)]))).length∧St w0 w' (aE 32 2 A' (cap (G++fG n R B k (st++ [(q:Int)]))).length c' rs' (cap (G++fG n R B k (st++ [(q:Int)])))++ (bj A4 (n:Int) AR N cR AD N cD::ah 2 As r cs st::fE)))] (by kernel_rfl) (by kernel_rfl) (ly (ly (ly (bV.2 ⟨Ye.b9 (fun v w w' h hb=>by obtain⟨A9,c9,hv,hT⟩:=h;exact⟨A9,c9,hv,hT.later hb⟩),(ly (bV.2 ⟨Ye.b9 (fun v w w' h hb=>by obtain⟨A9,hv,hT⟩:=h;exact⟨A9,hv,hT.later hb⟩),(bV.2 ⟨Ye.b9 (fun v w w' h hb=>by obtain⟨AZ,cZ,hv,hT⟩:=h;exact⟨AZ,cZ,hv,hT.later hb⟩),(ly (bV.2 ⟨Ye.b9 (fun v w w' h hb=>by obtain⟨A',c',rs',hv,fI,hT⟩:=h;exact⟨A',c',rs',hv,fI,hT.later hb⟩),(bV.2 ⟨Ye.b9 (fun v w w' h hb=>by obtain⟨A',c',rs',hv,fI,hT⟩:=h;exact⟨A',c',rs',hv,fI,hT.later hb⟩),(fun _ h=>by cases h)⟩)⟩))⟩)⟩))⟩)))) ?_ ?_
    ·refine⟨?_,ba O,ba O,?_,ba O,?_,?_,?_,?_,?_,ae⟩
     ·intro e1 w1 cc dp bJ dz hp aL hq;show aa _ _ _ _ _ _ _;have hX:Rd w1 A4 3 (fun q=> [Value.int .i64 (n:Int),.slice AR N cR,.slice AD N cD].getD q undef):=by { have bJ:=mw bJ (b:=1) (by kernel_rfl);rcases(show cc=0∨cc=1 by omega)with h | h; { exact Rd.below (D2 hS) (dz h) }; { subst h;obtain⟨AZ,cZ,_,hT⟩:=hq 6 _ _ (by kernel_rfl) (by kernel_rfl) (by kernel_rfl) rfl rfl (by kernel_rfl);exact D2 hT.tail } }
      refine aa.bq 2 hX O O O (aa.n (fh O (by exact O)))
     ·refine cP fun e1 w1 hb hp aL hq=>?_
      refine aa.call (SC As r cs st _ (Kh (hS.later hb)) (by omega)) O O O ?_;rintro _ w9 ⟨A9,c9,rfl,kH⟩;refine aa.n ?_;exact fF.dn O kH.below ⟨A9,c9,O,(hS.later hb).call kH⟩
     ·intro e1 w1 cc dp bJ dz hp aL hq;show aa _ _ _ _ _ _ _;refine dJ (St.refl _) O O O ?_;intro A9 w9 kH;refine aa.n ?_;exact fF.dn O kH.below ⟨A9,O,kH.bc 0 O⟩
     ·refine iY fun e1 w1 hb hp aL hq=>?_
      obtain⟨A8,c8,JC,hT⟩:=(hp 3 _ _ (by kernel_rfl) rfl rfl (by kernel_rfl));obtain⟨A9,DG,js⟩:=(hp 5 _ _ (by kernel_rfl) rfl rfl (by kernel_rfl));refine eK 0 hT O js (by exact JC) (by exact DG) O (by omega) (by omega) O ?_;intro AZ cZ wZ hZ;refine aa.n ?_;exact eA.dn O ⟨AZ,cZ,O,hZ⟩
     ·intro e1 w1 cc dp bJ dz hp aL hq;show aa _ _ _ _ _ _ _;refine oO O (by exact aL 9 _ O (by kernel_rfl)) O (aa.n (fh O (by exact O)))
     ·refine oQ 1 fun e1 w1 hp aL hq=>?_
      have dH:=hp 6 _ _ (by kernel_rfl) O O (by kernel_rfl);obtain⟨AZ,cZ,DH,hT⟩:=(hp 6 _ _ (by kernel_rfl) rfl rfl (by kernel_rfl));refine aa.call (ih (r+1) (st++ [(q:Int)]) AZ cZ (bj A4 (n:Int) AR N cR AD N cD::ah 2 As r cs st::fE) _ A c rs H (by omega) (by rw [dm,ak];rfl) Lc (oK _ (oK _ Gt)) kS (by omega) hT) O (by exact ax (fun v=> [Value.agg #[aiD (n:Int),.slice AR N cR,.slice AD N cD],.slice Aa N N,v,.slice A H.length c]) DH) O ?_;rintro _ w9 ⟨A',c',rs',rfl,fI,gV⟩;rw [Ki]at fI gV⊢;refine aa.n ?_;exact eA.dn O ⟨A',c',rs',O,fI,gV⟩
     ·refine dP 2 fun e1 w1 hp aL hq=>?_
      have dH:=hp 8 _ _ (by kernel_rfl) O O (by kernel_rfl);obtain⟨A',c',rs',JD,fI,hT⟩:=(hp 8 _ _ (by kernel_rfl) rfl rfl (by kernel_rfl));refine oO O (by exact JD) O (aa.n ?_);exact fF.dn O (Below.refl _ _) ⟨A',c',rs',O,fI,hT⟩
    intro u4 w4 _ Lk _ _;obtain⟨A',c',rs',yy,fI,hT⟩:=Lk 9 _ rfl (by kernel_rfl);rw [←JN]at yy fI hT;refine E1 (F:=[(1,.slice Aa N N),(2,.slice As r cs),(3,.slice A' (cap (F++ ((mB n R B st (q+1)).flatMap fun e=>fG n R B k (st++ [e])))).length c'),(4,.pointer A4),(9,aiD (r:Int)),(10,aiD (q:Int))]) ⟨O,O,yy,O,O,O,ae⟩ ?_;refine iq O (aa.add O O O (by omega) (aF O (tQ ?_)));exact⟨(q+1,A',c',rs'),by show N - (q+1)<N - q;omega,⟨O,O,O,O,O,O,ae⟩,by show q+1≤N;omega,fI,hT⟩
   ·refine bP O ?_;refine dI [xP (aq (A4) 1),xS (AR) (N) (cR),xI ((q:Int)),xP (aq (AR) ((q:Int)).toNat),xI (gi (R) ((q:Int))),xI ((r:Int)),xB (decide ((gi (R) ((q:Int)))=((r:Int)))),xB (true),xS (Aa) (N) (N),xI ((q:Int)),xP (aq (Aa) ((q:Int)).toNat),xB (gb (La) ((q:Int))),xB (gb (La) ((q:Int))),xB (true),xI ((r:Int)),xB (decide (((r:Int))=((0:Int)))),xB (false),xP (aq (A4) 2),xS (AD) (N) (cD),xI ((q:Int)),xP (aq (AD) ((q:Int)).toNat),xS ((rg (xq) ((q:Int))).a) ((rg (xq) ((q:Int))).n) ((rg (xq) ((q:Int))).c),xS (As) (r) (cs),xI ((r:Int)),xI (((r:Int)) - ((1:Int))),xP (aq (As) (((r:Int)) - ((1:Int))).toNat),xI (gi (st) (((r:Int)) - ((1:Int)))),xB (decide (gi st ((r:Int) - 1)∈gl B (q:Int))),xB (decide (gi st ((r:Int) - 1)∈gl B (q:Int))),xB (decide (gi st ((r:Int) - 1)∈gl B (q:Int)))] (by kernel_rfl) (by kernel_rfl) O (eg O) ?_ ?_
    ·refine⟨fun _ _ hb _ _=>aH (tt.below hb) O O O O inferInstance (Az O),fun _ _ hb _ _=>aM (tt.below hb) O O O O O (Az O),Dr O,fun _ _ hb _ _=>aw (pN.later hb).2 O O O (by omega) (by omega) (Az O),fun _ _ hb _ _=>aT (pN.later hb) O (by omega) O O (Az O),Dr O,Dr O,fun _ _ _ _ _=>Dk O (by exact ax Value.bool (dX a1)),Dr O,Dr O,fun _ _ hb _ _=>aa.g O O O (aw (BN.later hb).2 O O O (by omega) (by omega) (Az O)),fun _ _ hb _ _=>aa.g O O O (qN (BN.later hb) O (by omega) O O (Az O)),Dr O,fun _ _ _ _ _=>Dk O (by exact ax Value.bool (a2)),Dr O,Dr O,fun _ _ _ _ _=>Dk O (by exact ax Value.bool (cd a3)),fun _ _ hb _ _=>aa.g O O O (aH (tt.below hb) O O O O inferInstance (Az O)),fun _ _ hb _ _=>aa.g O O O (aM (tt.below hb) O O O O O (Az O)),Dr O,fun _ _ hb _ _=>aa.g O O O (aw (si.top.later hb).2 O O O (by omega) (by omega) (Az O)),fun _ _ hb _ _=>aa.g O O O (bQ (si.top.later hb) O (by omega) O O (Az O)),Dr O,Dr O,fun _ _ _ _ _=>aa.g O O O (aa.sub O O O (by omega) (Az O)),fun _ _ hb _ _=>aa.g O O O (aw (lu.later hb).2 O O O (by omega) (by omega) (Az O)),fun _ _ hb _ _=>aa.g O O O (aT (lu.later hb) O (by omega) O O (Az O)),?_,Dr O,Dr O,ae⟩
     ·intro e1 w1 hb hp aL;refine aa.g O O O (aa.call (zV _ _ _ _ _ _ (RR.later hb) (by omega)) O O O ?_);rintro _ w2 ⟨rfl,ak⟩;subst ak;refine aa.n (d0 (by exact O))
    intro u w3 gu _;have hS:=hS.later gu;refine eo O ?_;refine aB _ O (fun h5=>?_) (fun h5=>?_)
    ·have kb:gi R (q:Int)=(st.length:Int)∧dC n R B (q:Int)∧(st.length=0∨gi st ((st.length:Int) - 1)∈gl B (q:Int)):=⟨by omega,Kx.1 a2,.inr (by rw [ak];exact h5)⟩;have Ep:=gH;rw [aj kb]at Ep;have JN:F++ ((mB n R B st (q+1)).flatMap fun e=>fG n R B k (st++ [e]))=G++fG n R B k (st++ [(q:Int)]):=by
      rw [Ep,List.flatMap_append,←fR,hG];simp
     have Ki:=D4 (fG n R B k (st++ [(q:Int)]));have Lc:∀x∈st++ [(q:Int)],0≤x∧x< (N:Int):=fun x hx=>by
      rcases iG.1 hx with h | h
      ·exact Lb x h
      ·obtain rfl:=eT.1 h;omega
     generalize hH:cap G=H at*;refine iU [6,8] [.ex (.agg #[aiD (n:Int),.slice AR N cR,.slice AD N cD]),yS (Aa) (N) (N),yS (As) (r) (cs),.pr (fun v w'=>∃A9 c9,v= .slice A9 r c9∧St w0 w' (ah 2 A9 r c9 st::(aE 32 2 A H.length c rs H++ (bj A4 (n:Int) AR N cR AD N cD::ah 2 As r cs st::fE)))),yI ((q:Int)),.pr (fun v w'=>∃A9,v= .slice A9 1 1∧bS w' A9 1 [(q:Int)]),.pr (fun v w'=>∃AZ cZ,v= .slice AZ (r+1) cZ∧St w0 w' (ah 2 AZ (r+1) cZ (st++ [(q:Int)])::(aE 32 2 A H.length c rs H++ (bj A4 (n:Int) AR N cR AD N cD::ah 2 As r cs st::fE)))),yS (A) (H.length) (c),.pr (fun v w'=>∃A' c' rs',v= .slice A' (cap (G++fG n R B k (st++ [(q:Int)]))).length c'∧rs'.length=(cap (G++fG n R B k (st++ [(q:Int)]))).length∧St w0 w' (aE 32 2 A' (cap (G++fG n R B k (st++ [(q:Int)]))).length c' rs' (cap (G++fG n R B k (st++ [(q:Int)])))++ (bj A4 (n:Int) AR N cR AD N cD::ah 2 As r cs st::fE))),.pr (fun v w'=>∃A' c' rs',v= .slice A' (cap (G++fG n R B k (st++ [(q:Int)]))).length c'∧rs'.length=(cap (G++fG n R B k (st++ [(q:Int)]))).length∧St w0 w' (aE 32 2 A' (cap (G++fG n R B k (st++ [(q:Int)]))).length c' rs' (cap (G++fG n R B k (st++ [(q:Int)])))++ (bj A4 (n:Int) AR N cR AD N cD::ah 2 As r cs st::fE)))] (by kernel_rfl) (by kernel_rfl) (ly (ly (ly (bV.2 ⟨Ye.b9 (fun v w w' h hb=>by obtain⟨A9,c9,hv,hT⟩:=h;exact⟨A9,c9,hv,hT.later hb⟩),(ly (bV.2 ⟨Ye.b9 (fun v w w' h hb=>by obtain⟨A9,hv,hT⟩:=h;exact⟨A9,hv,hT.later hb⟩),(bV.2 ⟨Ye.b9 (fun v w w' h hb=>by obtain⟨AZ,cZ,hv,hT⟩:=h;exact⟨AZ,cZ,hv,hT.later hb⟩),(ly (bV.2 ⟨Ye.b9 (fun v w w' h hb=>by obtain⟨A',c',rs',hv,fI,hT⟩:=h;exact⟨A',c',rs',hv,fI,hT.later hb⟩),(bV.2 ⟨Ye.b9 (fun v w w' h hb=>by obtain⟨A',c',rs',hv,fI,hT⟩:=h;exact⟨A',c',rs',hv,fI,hT.later hb⟩),(fun _ h=>by cases h)⟩)⟩))⟩)⟩))⟩)))) ?_ ?_
     ·refine⟨?_,ba O,ba O,?_,ba O,?_,?_,?_,?_,?_,ae⟩
      ·intro e1 w1 cc dp bJ dz hp aL hq;show aa _ _ _ _ _ _ _;have hX:Rd w1 A4 3 (fun q=> [Value.int .i64 (n:Int),.slice AR N cR,.slice AD N cD].getD q undef):=by { have bJ:=mw bJ (b:=1) (by kernel_rfl);rcases(show cc=0∨cc=1 by omega)with h | h; { exact Rd.below (D2 hS) (dz h) }; { subst h;obtain⟨AZ,cZ,_,hT⟩:=hq 6 _ _ (by kernel_rfl) (by kernel_rfl) (by kernel_rfl) rfl rfl (by kernel_rfl);exact D2 hT.tail } }
       refine aa.bq 2 hX O O O (aa.n (fh O (by exact O)))
      ·refine cP fun e1 w1 hb hp aL hq=>?_
       refine aa.call (SC As r cs st _ (Kh (hS.later hb)) (by omega)) O O O ?_;rintro _ w9 ⟨A9,c9,rfl,kH⟩;refine aa.n ?_;exact fF.dn O kH.below ⟨A9,c9,O,(hS.later hb).call kH⟩
      ·intro e1 w1 cc dp bJ dz hp aL hq;show aa _ _ _ _ _ _ _;refine dJ (St.refl _) O O O ?_;intro A9 w9 kH;refine aa.n ?_;exact fF.dn O kH.below ⟨A9,O,kH.bc 0 O⟩
      ·refine iY fun e1 w1 hb hp aL hq=>?_
       obtain⟨A8,c8,JC,hT⟩:=(hp 3 _ _ (by kernel_rfl) rfl rfl (by kernel_rfl));obtain⟨A9,DG,js⟩:=(hp 5 _ _ (by kernel_rfl) rfl rfl (by kernel_rfl));refine eK 0 hT O js (by exact JC) (by exact DG) O (by omega) (by omega) O ?_;intro AZ cZ wZ hZ;refine aa.n ?_;exact eA.dn O ⟨AZ,cZ,O,hZ⟩
      ·intro e1 w1 cc dp bJ dz hp aL hq;show aa _ _ _ _ _ _ _;refine oO O (by exact aL 9 _ O (by kernel_rfl)) O (aa.n (fh O (by exact O)))
      ·refine oQ 1 fun e1 w1 hp aL hq=>?_
       have dH:=hp 6 _ _ (by kernel_rfl) O O (by kernel_rfl);obtain⟨AZ,cZ,DH,hT⟩:=(hp 6 _ _ (by kernel_rfl) rfl rfl (by kernel_rfl));refine aa.call (ih (r+1) (st++ [(q:Int)]) AZ cZ (bj A4 (n:Int) AR N cR AD N cD::ah 2 As r cs st::fE) _ A c rs H (by omega) (by rw [dm,ak];rfl) Lc (oK _ (oK _ Gt)) kS (by omega) hT) O (by exact ax (fun v=> [Value.agg #[aiD (n:Int),.slice AR N cR,.slice AD N cD],.slice Aa N N,v,.slice A H.length c]) DH) O ?_;rintro _ w9 ⟨A',c',rs',rfl,fI,gV⟩;rw [Ki]at fI gV⊢;refine aa.n ?_;exact eA.dn O ⟨A',c',rs',O,fI,gV⟩
      ·refine dP 2 fun e1 w1 hp aL hq=>?_
       have dH:=hp 8 _ _ (by kernel_rfl) O O (by kernel_rfl);obtain⟨A',c',rs',JD,fI,hT⟩:=(hp 8 _ _ (by kernel_rfl) rfl rfl (by kernel_rfl));refine oO O (by exact JD) O (aa.n ?_);exact fF.dn O (Below.refl _ _) ⟨A',c',rs',O,fI,hT⟩
     intro u4 w4 _ Lk _ _;obtain⟨A',c',rs',yy,fI,hT⟩:=Lk 9 _ rfl (by kernel_rfl);rw [←JN]at yy fI hT;refine E1 (F:=[(1,.slice Aa N N),(2,.slice As r cs),(3,.slice A' (cap (F++ ((mB n R B st (q+1)).flatMap fun e=>fG n R B k (st++ [e])))).length c'),(4,.pointer A4),(9,aiD (r:Int)),(10,aiD (q:Int))]) ⟨O,O,yy,O,O,O,ae⟩ ?_;refine iq O (aa.add O O O (by omega) (aF O (tQ ?_)));exact⟨(q+1,A',c',rs'),by show N - (q+1)<N - q;omega,⟨O,O,O,O,O,O,ae⟩,by show q+1≤N;omega,fI,hT⟩
    ·have e6:=mR (fun h=>by rcases h.2.2 with h6 | h6; { omega }; { rw [ak]at h6;exact h5 h6 });refine av O (aa.add O O O (by omega) (aF O (tQ ?_)));exact⟨(q+1,A,c,rs),by show N - (q+1)<N - q;omega,⟨O,O,ax (fun m:aiB=>Value.slice A (cap m).length c) e6.symm,O,O,O,ae⟩,by show q+1≤N;omega,by show rs.length=(cap _).length;rw [e6];exact kS,by show St w0 w3 (aE _ _ A (cap _).length c rs (cap _)++_);rw [e6];exact hS⟩
  ·have yr:q=N:=by omega
   subst yr;have nC:F++fG n R B (k+1) st=G:=by rw [←hG,fG,hN]
   refine aY O (aZ (gE O ?_));refine gB O ?_;rw [nC];exact⟨A,c,rs,O,kS,hS.sub ((fJ _).append (((fJ fE).cons _).cons _))⟩
theorem St.merge{w0 w:World}{ks ks':List Ck}(h:St w0 w ks)(h':St w0 w ks')(hk:∀k∈ks,eH k.vs=false)(fM:∀k∈ks',eH k.vs=false)(he:∀k∈ks,∀k'∈ks',k.e≠k'.e):St w0 w (ks++ks'):=by
 refine⟨h.below,fun k hm=>?_,?_⟩
 ·rcases iG.1 hm with hm | hm
  ·exact h.own k hm
  exact h'.own k hm
 rw [List.filterMap_append,List.nodup_append];refine⟨h.apart,h'.apart,fun a ha b hb=>?_⟩;rintro rfl;obtain⟨k,hm,KF⟩:=List.mem_filterMap.1 ha;obtain⟨k',ku,wJ⟩:=List.mem_filterMap.1 hb;have one:∀ {q:Ck},Bd w0.heap.size w q→q.ie=some a→∃cur,w.heap[a]?=some (.cells cur q.e (0,0)):=fun {q} ho hq=>by
  obtain⟨_,_,_,⟨h1,_⟩ | ⟨g,o,cur,h1,_,h2,_⟩⟩:=ho
  ·unfold Ck.ie at hq;rw [h1]at hq;cases hq
  unfold Ck.ie at hq;rw [h1]at hq;obtain rfl:g=a:=cO hq;exact⟨cur,h2⟩
 obtain⟨c1,e1⟩:=one ((h.own k hm).ML (hk k hm)) KF;obtain⟨c2,e2⟩:=one ((h'.own k' ku).ML (fM k' ku)) wJ;rw [e1]at e2;injection e2 with e2
 injection e2 with _ e2 _
 exact he k hm k' ku e2
theorem Mu{t:TypeId}:∀ {rs:List aG} {xss:aiB},∀k∈cS t rs xss,eH k.vs=false∧k.e=t
 | [],_,k,h=>by simp [cS]at h
 | _::_,[],k,h=>by simp [cS]at h
 | r::rs,x::xss,k,h=>by
  simp only [cS,iW]at h;rcases h with rfl | h
  ·exact⟨tS _,O⟩
  ·exact Mu k h
theorem adC{t1 t2:TypeId}{A:aiC}{n c:Nat}{rs:List aG}{xss:aiB}:∀k∈aE t1 t2 A n c rs xss++ [],eH k.vs=false∧(k.e=t1∨k.e=t2):=fun k h=>by
 rw [fg]at h;rcases iW.1 h with rfl | h
 ·exact⟨Cy _,.inl O⟩
 exact⟨(Mu k h).1,.inr (Mu k h).2⟩
end
section
open Tryz
variable{b m:Nat}{L L0:List Int}{fl:aiB}{S:Nat→Prop}{Q:List Nat}
structure vU(N:Nat)(K:Nat→Nat→Prop):Prop where
 sym:∀a b,K a b→K b a
 vJ:∀a b c,K a b→K b c→K a c
 fT:∀a b,K a b→a<N∧b<N
def iV(N:Nat)(K:Nat→Nat→Prop)(f:Nat)(L:List Int):Prop:=
 L.length=N∧∀x:Nat,x<N→(0≤gi L (x:Int)→∃r:Nat,gi L (x:Int)=r∧r<f∧K r x∧∀c,K c x→r≤c)∧(gi L (x:Int)<0→gi L (x:Int)= -1∧∀c,c<f→¬K c x)
theorem iV.zero(N:Nat)(K:Nat→Nat→Prop):iV N K 0 (List.replicate N (-1)):=
 ⟨by simp,fun x hx=>by
  rw [zm (by omega) (by omega)];exact⟨fun h=>absurd h (by omega),fun _=> ⟨O,fun c hc=>absurd hc (by omega)⟩⟩⟩
theorem iV.skip{N:Nat}{K:Nat→Nat→Prop}(hK:vU N K){f:Nat}(h:iV N K f L)(hf:f<N)(h0:0≤gi L (f:Int)∨¬K f f):iV N K (f+1) L:=by
 refine⟨h.1,fun x hx=> ⟨fun h1=>?_,fun h1=>?_⟩⟩
 ·obtain⟨r,h2,h3,h4⟩:=(h.2 x hx).1 h1;exact⟨r,h2,by omega,h4⟩
 obtain⟨h2,h3⟩:=(h.2 x hx).2 h1;refine⟨h2,fun c hc hk=>?_⟩
 by_cases e:c=f
 ·subst e;rcases h0 with h0 | h0
  ·obtain⟨r,h4,h5,h6,_⟩:=(h.2 c hf).1 h0;exact h3 r h5 (hK.vJ _ _ _ h6 hk)
  exact h0 (hK.vJ _ _ _ hk (hK.sym _ _ hk))
 exact h3 c (by omega) hk
theorem iV.pX{N:Nat}{K:Nat→Nat→Prop}(hK:vU N K){f:Nat}{L':List Int}(h:iV N K f L)(hf:f<N)(h0:gi L (f:Int)<0)(hl:L'.length=N)(hp:∀x:Nat,x<N→(K f x→gi L' (x:Int)=f)∧(¬K f x→gi L' (x:Int)=gi L (x:Int))):iV N K (f+1) L':=by
 refine⟨hl,fun x hx=>?_⟩;have h9:=(h.2 f hf).2 h0
 by_cases hk:K f x
 ·rw [(hp x hx).1 hk];refine⟨fun _=> ⟨f,O,by omega,hk,fun c hc=>?_⟩,fun h=>absurd h (by omega)⟩;refine Nat.le_of_not_lt fun fY=>h9.2 c fY (hK.vJ _ _ _ hc (hK.sym _ _ hk))
 rw [(hp x hx).2 hk];refine⟨fun h1=>?_,fun h1=>?_⟩
 ·obtain⟨r,h2,h3,h4⟩:=(h.2 x hx).1 h1;exact⟨r,h2,by omega,h4⟩
 obtain⟨h2,h3⟩:=(h.2 x hx).2 h1;refine⟨h2,fun c hc gk=>?_⟩
 by_cases e:c=f
 ·subst e;exact hk gk
 exact h3 c (by omega) gk
theorem iV.done{N:Nat}{K:Nat→Nat→Prop}(hK:vU N K)(h:iV N K N L){a:Nat}(ha:K a a)(hb:K b b):gi L (a:Int)=gi L (b:Int)↔K a b:=by
 have get:∀x,K x x→∃r:Nat,gi L (x:Int)=r∧K r x∧∀c,K c x→r≤c:=fun x hx=>by
  have EE:=(hK.fT _ _ hx).1;rcases Int.lt_or_le (gi L (x:Int)) 0 with h1 | h1
  ·exact absurd hx (((h.2 x EE).2 h1).2 x EE)
  obtain⟨r,h2,_,h4,h5⟩:=(h.2 x EE).1 h1;exact⟨r,h2,h4,h5⟩
 obtain⟨r,h1,h2,h3⟩:=get a ha;obtain⟨s,h4,h5,h6⟩:=get b hb;rw [h1,h4];constructor
 ·intro e;obtain rfl:r=s:=by omega
  exact hK.vJ _ _ _ (hK.sym _ _ h2) h5
 intro hk;have h7:=h3 s (hK.vJ _ _ _ h5 (hK.sym _ _ hk));have h8:=h6 r (hK.vJ _ _ _ h2 hk);omega
def jz(n:Nat)(fl:aiB)(i a b:Nat):Prop:=a<fl.length∧b<fl.length∧∀k:Nat,k<n→k≠i→gi (gl fl (a:Int)) (k:Int)=gi (gl fl (b:Int)) (k:Int)
theorem jz.symm{n:Nat}{i a:Nat}(h:jz n fl i a b):jz n fl i b a:=⟨h.2.1,h.1,fun k hk bt=> (h.2.2 k hk bt).symm⟩
inductive eO(n:Nat)(fl:aiB)(S:Nat→Prop)(a:Nat):Nat→Prop where
 | refl:a<fl.length→eO n fl S a a
 | step {b c i:Nat}:eO n fl S a b→i<n→¬S i→jz n fl i b c→eO n fl S a c
theorem eO.trans{n:Nat}{a c:Nat}(h:eO n fl S a b)(h':eO n fl S b c):eO n fl S a c:=by
 induction h' with
 | refl=>exact h
 | step _ hi hs ha ih=>exact .step ih hi hs ha
theorem eO.fT{n:Nat}{a:Nat}(h:eO n fl S a b):a<fl.length∧b<fl.length:=by
 induction h with
 | refl h=>exact⟨h,h⟩
 | step _ _ _ ha ih=>exact⟨ih.1,ha.2.1⟩
theorem eO.symm{n:Nat}{a:Nat}(h:eO n fl S a b):eO n fl S b a:=by
 induction h with
 | refl h=>exact .refl h
 | step h hi hs ha ih=>exact(eO.step (.refl ha.2.1) hi hs ha.symm).trans ih
theorem eO.yK(n:Nat)(fl:aiB)(S:Nat→Prop):vU fl.length (eO n fl S):=⟨fun _ _ h=>h.symm,fun _ _ _ h h'=>h.trans h',fun _ _ h=>h.fT⟩
theorem eO.keep{n:Nat}{a:Nat}(h:eO n fl S a b):∀k:Nat,k<n→S k→gi (gl fl (b:Int)) (k:Int)=gi (gl fl (a:Int)) (k:Int):=by
 induction h with
 | refl h=>exact fun _ _ _=>rfl
 | step h hi hs ha ih=>
  intro k hk hS;rw [←ha.2.2 k hk (fun e=>hs (e▸hS)),ih k hk hS]
def vN(n:Nat)(fl:aiB):Prop:=∀a b:Nat,a<b→b<fl.length→eO n fl (fun k=>gi (gl fl (a:Int)) (k:Int)=gi (gl fl (b:Int)) (k:Int)) a b
structure nm(N:Nat)(K A:Nat→Nat→Prop)(f:Nat)(L0 L:List Int)(Q:List Nat)(k:Nat):Prop where
 len:L.length=N
 vz:∀x∈Q,x<N∧gi L0 (x:Int)<0∧K f x
 bz:∀x:Nat,x<N→gi L (x:Int)=if x∈Q then(f:Int)else gi L0 (x:Int)
 root:f∈Q
 Hu:k≤Q.length
 done:∀p,p<k→∀y,A (Q.getD p 0) y→0≤gi L (y:Int)
 nd:Q.Nodup
theorem nm.meet{N:Nat}{K A:Nat→Nat→Prop}{f:Nat}{k:Nat}(h:nm N K A f L0 L Q k){y:Nat}(hy:y<N)(hl:gi L (y:Int)<0)(hk:K f y):nm N K A f L0 (L.set y (f:Int)) (Q++ [y]) k:=by
 have Sa:y∉Q:=fun hm=>by
  have:=h.bz y hy;rw [aj hm]at this;omega
 have e:∀x:Nat,x<N→gi (L.set y (f:Int)) (x:Int)=if x=y then(f:Int)else gi L (x:Int):=fun x hx=>by
  have:=sf (S:=L) (x:=(y:Int)) (y:=(x:Int)) (b:=(f:Int)) (by omega) (by rw [h.len];omega) (by omega);rw [ir]at this;rw [this]
  by_cases e:x=y
  ·subst e;simp
  rw [ag e,ag (by omega)]
 have wK:gi L0 (y:Int)<0:=by
  have:=h.bz y hy;rw [ag Sa]at this;omega
 refine⟨by rw [iw];exact h.len,fun x hx=>?_,fun x hx=>?_,List.mem_append_left _ h.root,by rw [dm];have:=h.Hu;omega,fun p hp z hz=>?_,List.nodup_append.2 ⟨h.nd,by simp,fun a ha b hb e=>Sa (by rw [←eT.1 hb,←e];exact ha)⟩⟩
 ·rcases iG.1 hx with hx | hx
  ·exact h.vz x hx
  obtain rfl:=eT.1 hx;exact⟨hy,wK,hk⟩
 ·rw [e x hx]
  by_cases ex:x=y
  ·subst ex;simp
  rw [ag ex,h.bz x hx];simp [ex]
 have hk:=h.Hu;rw [cJ,lQ (by omega),←cJ]at hz;have h2:=h.done p hp z hz
 by_cases hzN:z<N
 ·rw [e z hzN]
  split<;>omega
 have:gi L (z:Int)=gi (L.set y (f:Int)) (z:Int):=by
  simp [gi,cJ,oH (show L.length≤z by rw [h.len];omega),oH (show(L.set y (f:Int)).length≤z by rw [iw,h.len];omega)]
 omega
theorem nm.next{N:Nat}{K A:Nat→Nat→Prop}{f:Nat}{k:Nat}(h:nm N K A f L0 L Q k)(hk:k<Q.length)(hd:∀y,A (Q.getD k 0) y→0≤gi L (y:Int)):nm N K A f L0 L Q (k+1):=
 ⟨h.len,h.vz,h.bz,h.root,hk,fun p hp y hy=>by
  by_cases e:p=k
  ·subst e;exact hd y hy
  exact h.done p (by omega) y hy,h.nd⟩
theorem nm.yO{N:Nat}{K A:Nat→Nat→Prop}{f:Nat}{k:Nat}(h:nm N K A f L0 L Q k):Q.length≤N:=L8 N Q h.nd fun x hx=> (h.vz x hx).1
theorem nm.start{N:Nat}{K A:Nat→Nat→Prop}{f:Nat}(hl:L0.length=N)(hf:f<N)(h0:gi L0 (f:Int)<0)(hk:K f f):nm N K A f L0 (L0.set f (f:Int)) [f] 0:=by
 refine⟨by simp [hl],fun x hx=>?_,fun x hx=>?_,by simp,aW _,fun p hp=>absurd hp (by omega),by simp⟩
 ·obtain rfl:=eT.1 hx;exact⟨hf,h0,hk⟩
 have:=sf (S:=L0) (x:=(f:Int)) (y:=(x:Int)) (b:=(f:Int)) (by omega) (by rw [hl];omega) (by omega);rw [ir]at this;rw [this]
 by_cases e:x=f
 ·subst e;simp
 rw [ag (by omega),ag (by simpa using e)]
theorem nm.end_{N:Nat}{K A:Nat→Nat→Prop}(hK:vU N K){f:Nat}(h:nm N K A f L0 L Q Q.length)(hL:iV N K f L0)(hf:f<N)(h0:gi L0 (f:Int)<0)(hA:∀S:Nat→Prop,S f→(∀x y,S x→K f x→A x y→S y)→∀x,K f x→S x)(Zi:∀x y,A x y→K x y):iV N K (f+1) L:=by
 have hQ:∀x,K f x→x∈Q:=hA (fun x=>x∈Q) h.root fun x y hx oZ ha=>by
  obtain⟨p,hp,e⟩:=gJ.1 hx;have e2:Q.getD p 0=x:=by rw [cJ,gf hp];exact e
  have h1:=h.done p hp y (by rw [e2];exact ha);have hk:=Zi x y ha;have xa:=(hK.fT _ _ hk).2;refine nL fun hn=>?_
  have h2:=h.bz y xa;rw [ag hn]at h2;obtain⟨r,_,h3,h4,_⟩:=(hL.2 y xa).1 (by omega);exact((hL.2 f hf).2 h0).2 r h3 (hK.vJ _ _ _ (hK.vJ _ _ _ h4 (hK.sym _ _ hk)) (hK.sym _ _ oZ))
 refine hL.pX hK hf h0 h.len fun x hx=> ⟨fun hk=>?_,fun hk=>?_⟩
 ·rw [h.bz x hx,aj (hQ x hk)]
 rw [h.bz x hx,ag fun hm=>hk (h.vz x hm).2.2]
structure fk(m:Nat)(n:Int)(rk:Int→Int)(gQ:Int→Int→Prop):Prop where
 two:2≤m
 r0:rk 0= -1
 rt:rk ((m:Int) - 1)=n
 ri:∀a:Int,0<a→a< (m:Int) - 1→0≤rk a∧rk a≤n - 1
 refl:∀a,gQ a a
 trans:∀a b c:Int,0≤a∧a<m→0≤b∧b<m→0≤c∧c<m→gQ a b→gQ b c→gQ a c
 strict:∀a b:Int,0≤a∧a<m→0≤b∧b<m→gQ a b→a≠b→rk a<rk b
 bot:∀b,gQ 0 b
 top:∀a,gQ a ((m:Int) - 1)
 n0:0≤n
def va(m:Nat)(rk:Int→Int)(gQ:Int→Int→Prop):Prop:=∀a b:Int,0≤a∧a<m→0≤b∧b<m→gQ a b→rk b=rk a+2→∃x y:Int,x≠y∧∀c:Int,((0≤c∧c<m)∧gQ a c∧gQ c b∧rk c=rk a+1)↔(c=x∨c=y)
theorem fk.qa{n:Int}{rk:Int→Int}{gQ:Int→Int→Prop}(h:fk m n rk gQ){a b:Int}(ha:0≤a∧a<m)(hb:0≤b∧b<m)(hu:gQ a b):rk a≤rk b:=by
 by_cases e:a=b
 ·rw [e];exact Int.le_refl _
 exact Int.le_of_lt (h.strict a b ha hb hu e)
theorem fk.same{n:Int}{rk:Int→Int}{gQ:Int→Int→Prop}(h:fk m n rk gQ){a b:Int}(ha:0≤a∧a<m)(hb:0≤b∧b<m)(hu:gQ a b)(hr:rk b≤rk a):a=b:=
 nL fun e=>by have:=h.strict a b ha hb hu e;omega
theorem fk.fT{n:Int}{rk:Int→Int}{gQ:Int→Int→Prop}(h:fk m n rk gQ){a:Int}(ha:0≤a∧a<m): -1≤rk a∧rk a≤n:=by
 have h0:=h.r0;have ht:=h.rt;have hn:=h.n0
 by_cases e:a=0
 ·subst e;omega
 by_cases e2:a=(m:Int) - 1
 ·subst e2;omega
 have:=h.ri a (by omega) (by omega);omega
theorem fk.zero{n:Int}{rk:Int→Int}{gQ:Int→Int→Prop}(h:fk m n rk gQ){a:Int}(ha:0≤a∧a<m)(hr:rk a= -1):a=0:=by
 have ht:=h.rt;have hn:=h.n0;refine nL fun e=>?_
 by_cases e2:a=(m:Int) - 1
 ·subst e2;omega
 have:=h.ri a (by omega) (by omega);omega
theorem fk.whole{n:Int}{rk:Int→Int}{gQ:Int→Int→Prop}(h:fk m n rk gQ){a:Int}(ha:0≤a∧a<m)(hr:rk a=n):a=(m:Int) - 1:=by
 have h0:=h.r0;have hn:=h.n0;refine nL fun e=>?_
 by_cases e2:a=0
 ·subst e2;omega
 have:=h.ri a (by omega) (by omega);omega
section
variable {m1 m2:Nat} {n1 n2:Int} {rk1 rk2:Int→Int} {cI ck:Int→Int→Prop}
theorem WQ(h1:fk m1 n1 rk1 cI)(h2:fk m2 n2 rk2 ck)(d1:va m1 rk1 cI)(d2:va m2 rk2 ck){a1 a2 b1 b2:Int}(gM:0≤a1∧a1<m1)(gW:0≤a2∧a2<m2)(cN:0≤b1∧b1<m1)(dG:0≤b2∧b2<m2)(vy:cI a1 b1)(jM:ck a2 b2)(hr:rk1 b1+rk2 b2=rk1 a1+rk2 a2+2):
 ∃x y:Int×Int,x≠y∧∀c:Int×Int,((0≤c.1∧c.1<m1)∧(0≤c.2∧c.2<m2)∧(cI a1 c.1∧ck a2 c.2)∧(cI c.1 b1∧ck c.2 b2)∧rk1 c.1+rk2 c.2=rk1 a1+rk2 a2+1)↔(c=x∨c=y):=by
 have q1:=h1.qa gM cN vy;have q2:=h2.qa gW dG jM;rcases(show(rk1 b1=rk1 a1+2∧rk2 b2=rk2 a2)∨(rk1 b1=rk1 a1+1∧rk2 b2=rk2 a2+1)∨(rk1 b1=rk1 a1∧rk2 b2=rk2 a2+2) by omega)with⟨r1,r2⟩ | ⟨r1,r2⟩ | ⟨r1,r2⟩
 ·obtain rfl:=h2.same gW dG jM (by omega);obtain⟨x,y,ka,hc⟩:=d1 a1 b1 gM cN vy r1;refine⟨(x,a2),(y,a2),fun e=>ka (ax Prod.fst e),fun c=>?_⟩;constructor
  ·rintro⟨i1,i2,⟨u1,u2⟩,⟨v1,v2⟩,rc⟩;have e2:=h2.same gW i2 u2 (h2.qa i2 gW v2);have:=(hc c.1).1 ⟨i1,u1,v1,by rw [←e2]at rc;omega⟩;rcases this with h | h
   ·left;rw [←h,e2]
   right;rw [←h,e2]
  rintro(rfl | rfl)
  ·obtain⟨i,u,v,rc⟩:=(hc x).2 (.inl rfl);exact⟨i,gW,⟨u,h2.refl _⟩,⟨v,h2.refl _⟩,by show rk1 x+rk2 a2=_;omega⟩
  obtain⟨i,u,v,rc⟩:=(hc y).2 (.inr rfl);exact⟨i,gW,⟨u,h2.refl _⟩,⟨v,h2.refl _⟩,by show rk1 y+rk2 a2=_;omega⟩
 ·have ne1:a1≠b1:=fun e=>by rw [e]at r1;omega
  refine⟨(a1,b2),(b1,a2),fun e=>ne1 (ax Prod.fst e),fun c=>?_⟩;constructor
  ·rintro⟨i1,i2,⟨u1,u2⟩,⟨v1,v2⟩,rc⟩;have p1:=h1.qa gM i1 u1;have p2:=h1.qa i1 cN v1;have p3:=h2.qa gW i2 u2;have p4:=h2.qa i2 dG v2
   by_cases e:rk1 c.1=rk1 a1
   ·left;have e1:=h1.same gM i1 u1 (by omega);have e2:=h2.same i2 dG v2 (by omega);exact Prod.ext e1.symm e2
   right;have e1:=h1.same i1 cN v1 (by omega);have e2:=h2.same gW i2 u2 (by omega);exact Prod.ext e1 e2.symm
  rintro(rfl | rfl)
  ·exact⟨gM,dG,⟨h1.refl _,jM⟩,⟨vy,h2.refl _⟩,by show rk1 a1+rk2 b2=_;omega⟩
  exact⟨cN,gW,⟨vy,h2.refl _⟩,⟨h1.refl _,jM⟩,by show rk1 b1+rk2 a2=_;omega⟩
 obtain rfl:=h1.same gM cN vy (by omega);obtain⟨x,y,ka,hc⟩:=d2 a2 b2 gW dG jM r2;refine⟨(a1,x),(a1,y),fun e=>ka (ax Prod.snd e),fun c=>?_⟩;constructor
 ·rintro⟨i1,i2,⟨u1,u2⟩,⟨v1,v2⟩,rc⟩;have e1:=h1.same gM i1 u1 (h1.qa i1 gM v1);have:=(hc c.2).1 ⟨i2,u2,v2,by rw [←e1]at rc;omega⟩;rcases this with h | h
  ·left;rw [←h,e1]
  right;rw [←h,e1]
 rintro(rfl | rfl)
 ·obtain⟨i,u,v,rc⟩:=(hc x).2 (.inl rfl);exact⟨gM,i,⟨h1.refl _,u⟩,⟨h1.refl _,v⟩,by show rk1 a1+rk2 x=_;omega⟩
 obtain⟨i,u,v,rc⟩:=(hc y).2 (.inr rfl);exact⟨gM,i,⟨h1.refl _,u⟩,⟨h1.refl _,v⟩,by show rk1 a1+rk2 y=_;omega⟩
def pb(m1 m2:Nat)(kind:Int)(c:Int×Int):Prop:=(kind=1∧(c.1=0∨c.2=0))∨(kind=2∧(c.1=(m1:Int) - 1∨c.2=(m2:Int) - 1))
instance (m1 m2:Nat)(kind:Int)(c:Int×Int):Decidable (pb m1 m2 kind c):=by unfold pb;infer_instance
def eM(kind:Int):Int:=if kind=1 then 0 else 1
def b8(rk1 rk2:Int→Int)(kind:Int)(c:Int×Int):Int:=rk1 c.1+rk2 c.2+eM kind
def gv(n1 n2 kind:Int):Int:=if kind=0 then n1+n2+1 else n1+n2
def mI(m1 m2:Nat)(rk1 rk2:Int→Int)(kind:Int)(i:Int)(c:Int×Int):Prop:=(0≤c.1∧c.1<m1)∧(0≤c.2∧c.2<m2)∧b8 rk1 rk2 kind c=i∧¬pb m1 m2 kind c
theorem afa(h1:fk m1 n1 rk1 cI)(h2:fk m2 n2 rk2 ck)(d1:va m1 rk1 cI)(d2:va m2 rk2 ck){kind:Int}(hk:0≤kind∧kind≤2){i:Int}(hi:0≤i)(rm:i<gv n1 n2 kind)(hn:2≤gv n1 n2 kind)
 (a b:Option (Int×Int)) (ha:match a with | none=>i=0 | some a=>0<i∧mI m1 m2 rk1 rk2 kind (i - 1) a) (hb:match b with | none=>i=gv n1 n2 kind - 1 | some b=>i<gv n1 n2 kind - 1∧mI m1 m2 rk1 rk2 kind (i+1) b)
 (dO:∀x∈a,∀y∈b,cI x.1 y.1∧ck x.2 y.2) (yn:1≤n1∧(1≤n2∨kind=0)):
 ∃x y:Int×Int,x≠y∧∀c:Int×Int,(mI m1 m2 rk1 rk2 kind i c∧(∀x∈a,cI x.1 c.1∧ck x.2 c.2)∧∀y∈b,cI c.1 y.1∧ck c.2 y.2)↔(c=x∨c=y):=by
 have z1:=h1.r0;have z2:=h2.r0;have t1:=h1.rt;have t2:=h2.rt;have w1:=h1.two;have w2:=h2.two;have m1n:=h1.n0;have m2n:=h2.n0;have main:∀a1 a2 b1 b2:Int,0≤a1∧a1<m1→0≤a2∧a2<m2→0≤b1∧b1<m1→0≤b2∧b2<m2→cI a1 b1→ck a2 b2→b8 rk1 rk2 kind (a1,a2)=i - 1→b8 rk1 rk2 kind (b1,b2)=i+1→
  (∀c1 c2:Int,0≤c1∧c1<m1→0≤c2∧c2<m2→cI a1 c1→ck a2 c2→cI c1 b1→ck c2 b2→b8 rk1 rk2 kind (c1,c2)=i→¬pb m1 m2 kind (c1,c2))→
  ∃x y:Int×Int,x≠y∧∀c:Int×Int,(mI m1 m2 rk1 rk2 kind i c∧(cI a1 c.1∧ck a2 c.2)∧cI c.1 b1∧ck c.2 b2)↔(c=x∨c=y):=by
  intro a1 a2 b1 b2 gM gW cN dG vy jM ra rb hex;unfold b8 at ra rb hex;obtain⟨x,y,ka,hc⟩:=WQ h1 h2 d1 d2 gM gW cN dG vy jM (by simp only at ra rb;omega);refine⟨x,y,ka,fun c=>?_⟩;rw [←hc c];unfold mI b8;simp only at ra rb;constructor
  ·rintro⟨⟨i1,i2,rc,_⟩,⟨u1,u2⟩,v1,v2⟩;exact⟨i1,i2,⟨u1,u2⟩,⟨v1,v2⟩,by omega⟩
  ·rintro⟨i1,i2,⟨u1,u2⟩,⟨v1,v2⟩,rc⟩;exact⟨⟨i1,i2,by omega,hex c.1 c.2 i1 i2 u1 u2 v1 v2 (by show rk1 c.1+rk2 c.2+eM kind=i;omega)⟩,⟨u1,u2⟩,v1,v2⟩
 have Rb:∀c:Int×Int,(∀x∈a,cI x.1 c.1∧ck x.2 c.2)↔(cI (a.getD (0,0)).1 c.1∧ck (a.getD (0,0)).2 c.2):=fun c=>by
  cases a with
  | none=>simp [h1.bot,h2.bot]
  | some a=>simp
 have abu:∀c:Int×Int,(∀y∈b,cI c.1 y.1∧ck c.2 y.2)↔(cI c.1 (b.getD ((m1:Int) - 1,(m2:Int) - 1)).1∧ck c.2 (b.getD ((m1:Int) - 1,(m2:Int) - 1)).2):=fun c=>by
  cases b with
  | none=>simp [h1.top,h2.top]
  | some b=>simp
 have Re:cI (a.getD (0,0)).1 (b.getD ((m1:Int) - 1,(m2:Int) - 1)).1∧ck (a.getD (0,0)).2 (b.getD ((m1:Int) - 1,(m2:Int) - 1)).2:=by
  cases a with
  | none=>exact⟨h1.bot _,h2.bot _⟩
  | some a=>
   cases b with
   | none=>exact⟨h1.top _,h2.top _⟩
   | some b=>exact dO a rfl b rfl
 have G4:(0≤(a.getD (0,0)).1∧(a.getD (0,0)).1<m1)∧(0≤(a.getD (0,0)).2∧(a.getD (0,0)).2<m2):=by
  cases a with
  | none=>simp only [Option.getD_none];omega
  | some a=>exact⟨ha.2.1,ha.2.2.1⟩
 have R5:(0≤(b.getD ((m1:Int) - 1,(m2:Int) - 1)).1∧(b.getD ((m1:Int) - 1,(m2:Int) - 1)).1<m1)∧(0≤(b.getD ((m1:Int) - 1,(m2:Int) - 1)).2∧(b.getD ((m1:Int) - 1,(m2:Int) - 1)).2<m2):=by
  cases b with
  | none=>simp only [Option.getD_none];omega
  | some b=>exact⟨hb.2.1,hb.2.2.1⟩
 have abf:kind=0→eM kind=1:=fun h=>by subst h;rfl
 have abg:kind=1→eM kind=0:=fun h=>by subst h;rfl
 have abh:kind=2→eM kind=1:=fun h=>by subst h;rfl
 have aa9:kind=0→gv n1 n2 kind=n1+n2+1:=fun h=>by subst h;rfl
 have RN:kind≠0→gv n1 n2 kind=n1+n2:=fun h=>by unfold gv;rw [if_neg h]
 have use:b8 rk1 rk2 kind (a.getD (0,0))=i - 1→b8 rk1 rk2 kind (b.getD ((m1:Int) - 1,(m2:Int) - 1))=i+1→
  (∀c1 c2:Int,0≤c1∧c1<m1→0≤c2∧c2<m2→cI (a.getD (0,0)).1 c1→ck (a.getD (0,0)).2 c2→cI c1 (b.getD ((m1:Int) - 1,(m2:Int) - 1)).1→ck c2 (b.getD ((m1:Int) - 1,(m2:Int) - 1)).2→b8 rk1 rk2 kind (c1,c2)=i→¬pb m1 m2 kind (c1,c2))→
  ∃x y:Int×Int,x≠y∧∀c:Int×Int,(mI m1 m2 rk1 rk2 kind i c∧(∀x∈a,cI x.1 c.1∧ck x.2 c.2)∧∀y∈b,cI c.1 y.1∧ck c.2 y.2)↔(c=x∨c=y):=by
  intro ra rb hex;obtain⟨x,y,ka,hc⟩:=main _ _ _ _ G4.1 G4.2 R5.1 R5.2 Re.1 Re.2 ra rb hex;refine⟨x,y,ka,fun c=>?_⟩;rw [←hc c,Rb c,abu c]
 rcases(show kind=0∨kind=1∨kind=2 by omega)with uG | eh | gk
 ·have s0:=abf uG;have r0:=aa9 uG;refine use ?_ ?_ ?_
  ·cases a with
   | none=>show rk1 0+rk2 0+eM kind=i - 1;have:i=0:=ha;omega
   | some a=>exact ha.2.2.2.1
  ·cases b with
   | none=>show rk1 ((m1:Int) - 1)+rk2 ((m2:Int) - 1)+eM kind=i+1;have:i=gv n1 n2 kind - 1:=hb;omega
   | some b=>exact hb.2.2.2.1
  ·intro c1 c2 _ _ _ _ _ _ _ he;unfold pb at he;omega
 ·have s1:=abg eh;have r1:=RN (show kind≠0 by omega);cases a with
  | some a=>
   have bt:¬pb m1 m2 kind a:=ha.2.2.2.2;refine use ha.2.2.2.1 ?_ ?_
   ·cases b with
    | none=>show rk1 ((m1:Int) - 1)+rk2 ((m2:Int) - 1)+eM kind=i+1;have:i=gv n1 n2 kind - 1:=hb;omega
    | some b=>exact hb.2.2.2.1
   ·intro c1 c2 i1 i2 u1 u2 _ _ _ he;have u1:cI a.1 c1:=u1;have u2:ck a.2 c2:=u2;unfold pb at he bt;rcases he with⟨_,e | e⟩ | ⟨e,_⟩
    ·have e:c1=0:=e;subst e;have q1:=h1.qa ha.2.1 (by omega) u1;have q2:=h1.fT ha.2.1;have:=h1.zero ha.2.1 (by omega);exact bt (.inl ⟨eh,.inl this⟩)
    ·have e:c2=0:=e;subst e;have q1:=h2.qa ha.2.2.1 (by omega) u2;have q2:=h2.fT ha.2.2.1;have:=h2.zero ha.2.2.1 (by omega);exact bt (.inl ⟨eh,.inr this⟩)
    ·omega
  | none=>
   have eP:i=0:=ha;cases b with
   | none=>have:i=gv n1 n2 kind - 1:=hb;omega
   | some b=>
    obtain⟨_,cN,dG,rb,qm⟩:=hb;unfold b8 at rb;have p1:b.1≠0:=fun e=>qm (.inl ⟨eh,.inl e⟩)
    have p2:b.2≠0:=fun e=>qm (.inl ⟨eh,.inr e⟩)
    have TF:∀c,0≤c∧c< (m1:Int)→c≠0→0≤rk1 c:=fun c hc h0=>by
     have h3:=h1.fT hc;have h4:=h1.zero hc;omega
    have TG:∀c,0≤c∧c< (m2:Int)→c≠0→0≤rk2 c:=fun c hc h0=>by
     have h3:=h2.fT hc;have h4:=h2.zero hc;omega
    have g1:=TF b.1 cN p1;have g2:=TG b.2 dG p2;have eqv:∀c:Int×Int,(mI m1 m2 rk1 rk2 kind i c∧(∀x∈(none:Option (Int×Int)),cI x.1 c.1∧ck x.2 c.2)∧∀y∈some b,cI c.1 y.1∧ck c.2 y.2)↔((0≤c.1∧c.1<m1)∧(0≤c.2∧c.2<m2)∧rk1 c.1=0∧rk2 c.2=0∧cI c.1 b.1∧ck c.2 b.2):=fun c=>by
     constructor
     ·rintro⟨⟨i1,i2,rc,yd⟩,_,hv⟩;have hv:=hv b O;unfold b8 at rc;have f1:=TF c.1 i1 fun e=>yd (.inl ⟨eh,.inl e⟩)
      have f2:=TG c.2 i2 fun e=>yd (.inl ⟨eh,.inr e⟩)
      exact⟨i1,i2,by omega,by omega,hv.1,hv.2⟩
     ·rintro⟨i1,i2,f1,f2,v1,v2⟩;refine⟨⟨i1,i2,by unfold b8;omega,?_⟩,(fun x hx=>by cases hx),fun y hy=>by cases hy;exact⟨v1,v2⟩⟩;rintro(⟨_,e | e⟩ | ⟨e,_⟩)
      ·rw [e]at f1;omega
      ·rw [e]at f2;omega
      ·omega
    rcases(show(rk1 b.1=1∧rk2 b.2=0)∨(rk1 b.1=0∧rk2 b.2=1) by omega)with⟨e1,e2⟩ | ⟨e1,e2⟩
    ·obtain⟨x,y,ka,hc⟩:=d1 0 b.1 (by omega) cN (h1.bot _) (by omega);refine⟨(x,b.2),(y,b.2),fun e=>ka (ax Prod.fst e),fun c=>?_⟩;rw [eqv c];constructor
     ·rintro⟨i1,i2,f1,f2,v1,v2⟩;have h3:=h2.same i2 dG v2 (by omega);rcases(hc c.1).1 ⟨i1,h1.bot _,v1,by omega⟩with h | h
      ·left;rw [←h,←h3]
      ·right;rw [←h,←h3]
     ·rintro(rfl | rfl)
      ·obtain⟨i,u,v,rc⟩:=(hc x).2 (.inl rfl);exact⟨i,dG,by show rk1 x=0;omega,e2,v,h2.refl _⟩
      ·obtain⟨i,u,v,rc⟩:=(hc y).2 (.inr rfl);exact⟨i,dG,by show rk1 y=0;omega,e2,v,h2.refl _⟩
    ·obtain⟨x,y,ka,hc⟩:=d2 0 b.2 (by omega) dG (h2.bot _) (by omega);refine⟨(b.1,x),(b.1,y),fun e=>ka (ax Prod.snd e),fun c=>?_⟩;rw [eqv c];constructor
     ·rintro⟨i1,i2,f1,f2,v1,v2⟩;have h3:=h1.same i1 cN v1 (by omega);rcases(hc c.2).1 ⟨i2,h2.bot _,v2,by omega⟩with h | h
      ·left;rw [←h,←h3]
      ·right;rw [←h,←h3]
     ·rintro(rfl | rfl)
      ·obtain⟨i,u,v,rc⟩:=(hc x).2 (.inl rfl);exact⟨cN,i,e1,by show rk2 x=0;omega,h1.refl _,v⟩
      ·obtain⟨i,u,v,rc⟩:=(hc y).2 (.inr rfl);exact⟨cN,i,e1,by show rk2 y=0;omega,h1.refl _,v⟩
 ·have s2:=abh gk;have r2:=RN (show kind≠0 by omega);have LP:∀c,0≤c∧c< (m1:Int)→c≠(m1:Int) - 1→rk1 c≤n1 - 1:=fun c hc h0=>by
   have h3:=h1.fT hc;have h4:=h1.whole hc;omega
  have LQ:∀c,0≤c∧c< (m2:Int)→c≠(m2:Int) - 1→rk2 c≤n2 - 1:=fun c hc h0=>by
   have h3:=h2.fT hc;have h4:=h2.whole hc;omega
  cases b with
  | some b=>
   have bt:¬pb m1 m2 kind b:=hb.2.2.2.2;have g1:=LP b.1 hb.2.1 fun e=>bt (.inr ⟨gk,.inl e⟩)
   have g2:=LQ b.2 hb.2.2.1 fun e=>bt (.inr ⟨gk,.inr e⟩)
   refine use ?_ hb.2.2.2.1 ?_
   ·cases a with
    | none=>show rk1 0+rk2 0+eM kind=i - 1;have:i=0:=ha;omega
    | some a=>exact ha.2.2.2.1
   ·intro c1 c2 i1 i2 _ _ v1 v2 _ he;have v1:cI c1 b.1:=v1;have v2:ck c2 b.2:=v2;have q1:=h1.qa i1 hb.2.1 v1;have q2:=h2.qa i2 hb.2.2.1 v2;unfold pb at he;rcases he with⟨e,_⟩ | ⟨_,e | e⟩
    ·omega
    ·have e:c1=(m1:Int) - 1:=e;rw [e]at q1;omega
    ·have e:c2=(m2:Int) - 1:=e;rw [e]at q2;omega
  | none=>
   have Q5:i=gv n1 n2 kind - 1:=hb;cases a with
   | none=>have:i=0:=ha;omega
   | some a=>
    obtain⟨_,gM,gW,ra,tB⟩:=ha;unfold b8 at ra;have g1:=LP a.1 gM fun e=>tB (.inr ⟨gk,.inl e⟩)
    have g2:=LQ a.2 gW fun e=>tB (.inr ⟨gk,.inr e⟩)
    have eqv:∀c:Int×Int,(mI m1 m2 rk1 rk2 kind i c∧(∀x∈some a,cI x.1 c.1∧ck x.2 c.2)∧∀y∈(none:Option (Int×Int)),cI c.1 y.1∧ck c.2 y.2)↔((0≤c.1∧c.1<m1)∧(0≤c.2∧c.2<m2)∧rk1 c.1=n1 - 1∧rk2 c.2=n2 - 1∧cI a.1 c.1∧ck a.2 c.2):=fun c=>by
     constructor
     ·rintro⟨⟨i1,i2,rc,yd⟩,hu,_⟩;have hu:=hu a O;unfold b8 at rc;have f1:=LP c.1 i1 fun e=>yd (.inr ⟨gk,.inl e⟩)
      have f2:=LQ c.2 i2 fun e=>yd (.inr ⟨gk,.inr e⟩)
      exact⟨i1,i2,by omega,by omega,hu.1,hu.2⟩
     ·rintro⟨i1,i2,f1,f2,v1,v2⟩;refine⟨⟨i1,i2,by unfold b8;omega,?_⟩,(fun x hx=>by cases hx;exact⟨v1,v2⟩),fun y hy=>by cases hy⟩;rintro(⟨e,_⟩ | ⟨_,e | e⟩)
      ·omega
      ·rw [e]at f1;omega
      ·rw [e]at f2;omega
    rcases(show(rk1 a.1=n1 - 1∧rk2 a.2=n2 - 2)∨(rk1 a.1=n1 - 2∧rk2 a.2=n2 - 1) by omega)with⟨e1,e2⟩ | ⟨e1,e2⟩
    ·obtain⟨x,y,ka,hc⟩:=d2 a.2 ((m2:Int) - 1) gW (by omega) (h2.top _) (by omega);refine⟨(a.1,x),(a.1,y),fun e=>ka (ax Prod.snd e),fun c=>?_⟩;rw [eqv c];constructor
     ·rintro⟨i1,i2,f1,f2,v1,v2⟩;have h3:=h1.same gM i1 v1 (by omega);rcases(hc c.2).1 ⟨i2,v2,h2.top _,by omega⟩with h | h
      ·left;rw [←h,h3]
      ·right;rw [←h,h3]
     ·rintro(rfl | rfl)
      ·obtain⟨i,u,v,rc⟩:=(hc x).2 (.inl rfl);exact⟨gM,i,e1,by show rk2 x=n2 - 1;omega,h1.refl _,u⟩
      ·obtain⟨i,u,v,rc⟩:=(hc y).2 (.inr rfl);exact⟨gM,i,e1,by show rk2 y=n2 - 1;omega,h1.refl _,u⟩
    ·obtain⟨x,y,ka,hc⟩:=d1 a.1 ((m1:Int) - 1) gM (by omega) (h1.top _) (by omega);refine⟨(x,a.2),(y,a.2),fun e=>ka (ax Prod.fst e),fun c=>?_⟩;rw [eqv c];constructor
     ·rintro⟨i1,i2,f1,f2,v1,v2⟩;have h3:=h2.same gW i2 v2 (by omega);rcases(hc c.1).1 ⟨i1,v1,h1.top _,by omega⟩with h | h
      ·left;rw [←h,h3]
      ·right;rw [←h,h3]
     ·rintro(rfl | rfl)
      ·obtain⟨i,u,v,rc⟩:=(hc x).2 (.inl rfl);exact⟨i,gW,by show rk1 x=n1 - 1;omega,e2,u,h2.refl _⟩
      ·obtain⟨i,u,v,rc⟩:=(hc y).2 (.inr rfl);exact⟨i,gW,by show rk1 y=n1 - 1;omega,e2,u,h2.refl _⟩
end
def fo(n:Int)(R:List Int):List Int:= -1::(R++ [n])
def dS(N:Nat)(B:aiB)(a b:Int):Prop:=a=b∨a=0∨b=(N:Int)+1∨(0<a∧a< (N:Int)+1∧0<b∧b< (N:Int)+1∧a - 1∈gl B (b - 1))
instance (N:Nat)(B:aiB)(a b:Int):Decidable (dS N B a b):=by unfold dS;infer_instance
theorem OJ(n:Int)(R:List Int):(fo n R).length=R.length+2:=by simp [fo]
theorem wa(n:Int)(R:List Int){a:Int}(h0:0<a)(h1:a< (R.length:Int)+1):gi (fo n R) a=gi R (a - 1):=by
 obtain⟨k,rfl⟩:∃k:Nat,a=((k+1:Nat):Int):=⟨(a - 1).toNat,by omega⟩;rw [fo,BI,show((k+1:Nat):Int) - 1=(k:Int) by omega];simp only [gi,ir,cJ];rw [lQ (by omega)]
theorem BG(n:Int)(R:List Int):gi (fo n R) ((R.length:Int)+1)=n:=by
 rw [show((R.length:Int)+1)=((R.length+1:Nat):Int) by omega,fo,BI];simp [gi,cJ]
theorem EP{n:Int}{R:List Int}{B:aiB}(h:fO n R B):fk (R.length+2) n (gi (fo n R)) (dS R.length B):=by
 have hn:=h.n1;have ht:=BG n R;have et:((R.length+2:Nat):Int) - 1=(R.length:Int)+1:=by omega
 have mq:∀a:Int,0<a→a< (R.length:Int)+1→0≤gi (fo n R) a∧gi (fo n R) a≤n - 1:=fun a h0 h1=>by
  rw [wa n R h0 h1];exact h.ri (by omega) (by omega)
 have h0:gi (fo n R) 0= -1:=O;refine⟨by omega,h0,by rw [et];exact ht,fun a ha hb=>mq a ha (by omega),fun a=> .inl O,fun a b c ha hb hc dO zA=>?_,fun a b ha hb dO bt=>?_,fun b=> .inr (.inl O),fun a=> .inr (.inr (.inl et)),by omega⟩
 ·rcases dO with rfl | e | e | ⟨a0,a1,b0,b1,hm⟩
  ·exact zA
  ·exact .inr (.inl e)
  ·rcases zA with rfl | e2 | e2 | ⟨b0,b1,_⟩
   ·exact .inr (.inr (.inl e))
   ·omega
   ·exact .inr (.inr (.inl e2))
   omega
  rcases zA with rfl | e2 | e2 | ⟨_,_,c0,c1,pS⟩
  ·exact .inr (.inr (.inr ⟨a0,a1,b0,b1,hm⟩))
  ·omega
  ·exact .inr (.inr (.inl e2))
  exact .inr (.inr (.inr ⟨a0,a1,c0,c1,(h.at_ (e:=c - 1) (by omega) (by omega)).2.2 _ pS _ hm⟩))
 rcases dO with e | e | e | ⟨a0,a1,b0,b1,hm⟩
 ·exact absurd e bt
 ·subst e;rw [h0]
  by_cases e2:b=(R.length:Int)+1
  ·subst e2;omega
  have:=mq b (by omega) (by omega);omega
 ·subst e;rw [ht]
  by_cases e2:a=0
  ·subst e2;omega
  have:=mq a (by omega) (by omega);omega
 rw [wa n R a0 a1,wa n R b0 b1];exact((h.at_ (e:=b - 1) (by omega) (by omega)).2.1 _ hm).2
theorem vB:fk 2 0 (gi [-1,0]) (dS 0 []):=by
 refine⟨by omega,O,O,fun a h0 h1=>by omega,fun a=> .inl O,fun a b c ha hb hc dO zA=>?_,fun a b ha hb dO bt=>?_,fun b=> .inr (.inl O),fun a=> .inr (.inr (.inl O)),by omega⟩
 ·by_cases e:a=0
  ·exact .inr (.inl e)
  by_cases e2:c=1
  ·exact .inr (.inr (.inl e2))
  rcases dO with rfl | e3 | e3 | ⟨_,_,_,_,hm⟩
  ·exact zA
  ·omega
  ·rcases zA with rfl | e4 | e4 | ⟨_,_,_,_,hm⟩
   ·exact .inr (.inr (.inl e3))
   ·omega
   ·exact .inr (.inr (.inl e4))
   exact absurd hm (by simp [gl])
  exact absurd hm (by simp [gl])
 rcases dO with e | e | e | ⟨_,_,_,_,hm⟩
 ·exact absurd e bt
 ·subst e;obtain rfl:b=1:=by omega
  decide
 ·obtain rfl:b=1:=e;obtain rfl:a=0:=by omega
  decide
 exact absurd hm (by simp [gl])
theorem Oq:va 2 (gi [-1,0]) (dS 0 []):=fun a b ha hb hu hr=>by
 have e:∀a:Int,0≤a∧a< (2:Nat)→gi [-1,0] a=a - 1:=fun a ha=>by
  rcases(show a=0∨a=1 by omega)with rfl | rfl<;>rfl
 rw [e a ha,e b hb]at hr;omega
def qe(R:List Int)(i e:Int):Prop:=(e= -1∧i=0)∨((0≤e∧e<R.length)∧0<i∧gi R e=i - 1)
def nO(n:Int)(R:List Int)(i f:Int):Prop:=(f= -1∧i=n - 1)∨((0≤f∧f<R.length)∧i<n - 1∧gi R f=i+1)
def jB(R:List Int)(B:aiB)(i e f:Int):List Int:=(bw R.length).filter fun d=>decide (gi R d=i∧(e<0∨e∈gl B d)∧(f<0∨d∈gl B f))
def rT(n:Int)(R:List Int)(B:aiB):Prop:=∀i e f:Int,0≤i→i<n→qe R i e→nO n R i f→(0≤e→0≤f→e∈gl B f)→(jB R B i e f).length=2
theorem xJ{R:List Int}{B:aiB}{i e f d:Int}:d∈jB R B i e f↔(0≤d∧d<R.length)∧gi R d=i∧(e<0∨e∈gl B d)∧(f<0∨d∈gl B f):=by
 unfold jB;rw [fA,im,jT]
theorem UI{l:List Int}(hn:l.Nodup)(h:l.length=2):∃x y,x≠y∧∀c,c∈l↔(c=x∨c=y):=by
 match l,h with
 | [x,y],_=>exact⟨x,y,by simpa using hn,fun c=>by simp⟩
theorem Bb(R:List Int)(B:aiB)(i e f:Int):(jB R B i e f).Nodup:=((mb _).nodup).filter _
theorem BA{n:Int}{R:List Int}{B:aiB}(h:fO n R B)(hd:rT n R B):va (R.length+2) (gi (fo n R)) (dS R.length B):=by
 have L:=EP h;have ht:=BG n R;have h0:gi (fo n R) 0= -1:=O;have mq:∀a:Int,0<a→a< (R.length:Int)+1→(0≤gi (fo n R) a∧gi (fo n R) a≤n - 1)∧gi (fo n R) a=gi R (a - 1):=fun a h0 h1=>by
  have e:=wa n R h0 h1;refine⟨?_,e⟩;rw [e];exact h.ri (by omega) (by omega)
 intro a b ha hb hu hr;have ra:=L.fT ha;have rb:=L.fT hb;have hn:=h.n1;have wA:a≠(R.length:Int)+1:=fun e=>by rw [e,ht]at hr;omega
 have dz:b≠0:=fun e=>by rw [e,h0]at hr;omega
 have dp:qe R (gi (fo n R) a+1) (a - 1):=by
  by_cases e:a=0
  ·subst e;exact .inl ⟨rfl,by rw [h0];rfl⟩
  have:=mq a (by omega) (by omega);exact .inr ⟨by omega,by omega,by omega⟩
 have bJ:nO n R (gi (fo n R) a+1) (if b=(R.length:Int)+1 then -1 else b - 1):=by
  by_cases e:b=(R.length:Int)+1
  ·rw [aj e];rw [e,ht]at hr;exact .inl ⟨rfl,by omega⟩
  rw [ag e];have:=mq b (by omega) (by omega);exact .inr ⟨by omega,by omega,by omega⟩
 have dO:0≤a - 1→0≤(if b=(R.length:Int)+1 then -1 else b - 1)→a - 1∈gl B (if b=(R.length:Int)+1 then -1 else b - 1):=fun h1 h2=>by
  by_cases e:b=(R.length:Int)+1
  ·rw [aj e]at h2;omega
  rw [ag e];rcases hu with e2 | e2 | e2 | ⟨_,_,_,_,hm⟩
  ·rw [e2]at hr;omega
  ·omega
  ·exact absurd e2 e
  exact hm
 have h2:=hd _ _ _ (by omega) (by omega) dp bJ dO;obtain⟨x,y,ka,hc⟩:=UI (Bb _ _ _ _ _) h2;refine⟨x+1,y+1,by omega,fun c=>?_⟩;have e1:(c=x+1∨c=y+1)↔(c - 1=x∨c - 1=y):=by omega
 rw [e1,←hc (c - 1),xJ];constructor
 ·rintro⟨Kk,u1,u2,rc⟩;have c0:c≠0:=fun e=>by rw [e,h0]at rc;omega
  have ct:c≠(R.length:Int)+1:=fun e=>by rw [e,ht]at rc;omega
  have hm:=mq c (by omega) (by omega);refine⟨by omega,by omega,?_,?_⟩
  ·rcases u1 with e | e | e | ⟨_,_,_,_,h9⟩
   ·rw [e]at rc;omega
   ·left;omega
   ·exact absurd e ct
   exact .inr h9
  by_cases e:b=(R.length:Int)+1
  ·left;rw [aj e];omega
  rw [ag e];rcases u2 with e2 | e2 | e2 | ⟨_,_,_,_,h9⟩
  ·rw [e2]at rc;omega
  ·exact absurd e2 c0
  ·exact absurd e2 e
  exact .inr h9
 rintro⟨Kk,rc,u1,u2⟩;have hm:=mq c (by omega) (by omega);refine⟨by omega,?_,?_,by omega⟩
 ·rcases u1 with e | e
  ·exact .inr (.inl (by omega))
  have:0<a:=by
   refine Int.not_le.1 fun hle=>?_
   have:=((h.at_ (e:=c - 1) (by omega) (by omega)).2.1 _ e).1.1;omega
  exact .inr (.inr (.inr ⟨this,by omega,by omega,by omega,e⟩))
 by_cases e:b=(R.length:Int)+1
 ·exact .inr (.inr (.inl e))
 rw [ag e]at u2;rcases u2 with e2 | e2
 ·omega
 exact .inr (.inr (.inr ⟨by omega,by omega,by omega,by omega,e2⟩))
section
variable (m1 m2:Nat) (rk1 rk2:Int→Int) (kind:Int)
def uV(i:Int):List (Int×Int):=(bw m1).flatMap fun a=> ((bw m2).filter fun b=>decide (b8 rk1 rk2 kind (a,b)=i∧¬pb m1 m2 kind (a,b))).map fun b=> (a,b)
def bT:Nat→List (Int×Int)
 | 0=> []
 | k+1=>bT k++uV m1 m2 rk1 rk2 kind (k:Int)
end
section
variable {m1 m2:Nat} {rk1 rk2:Int→Int} {kind:Int}
theorem vH{i:Int}{c:Int×Int}:c∈uV m1 m2 rk1 rk2 kind i↔mI m1 m2 rk1 rk2 kind i c:=by
 unfold uV mI;rw [List.mem_flatMap];constructor
 ·rintro⟨a,ha,h⟩;obtain⟨b,hb,rfl⟩:=dh.1 h;rw [fA,im,jT]at hb;exact⟨(im _ _).1 ha,hb.1,hb.2⟩
 rintro⟨h1,h2,h3⟩;exact⟨c.1,(im _ _).2 h1,dh.2 ⟨c.2,fA.2 ⟨(im _ _).2 h2,dX h3⟩,O⟩⟩
theorem ae6(i:Int):(uV m1 m2 rk1 rk2 kind i).Nodup:=by
 unfold uV;refine List.pairwise_flatMap.2 ⟨fun a _=>qd.2 (((mb m2).nodup.filter _).imp fun h e=>h (ax Prod.snd e)),(mb m1).nodup.imp fun h x hx y hy e=>h ?_⟩;obtain⟨u,_,rfl⟩:=dh.1 hx;obtain⟨v,_,rfl⟩:=dh.1 hy;exact ax Prod.fst e
theorem rK{k:Nat}{c:Int×Int}:c∈bT m1 m2 rk1 rk2 kind k↔∃i:Nat,i<k∧mI m1 m2 rk1 rk2 kind i c:=by
 induction k with
 | zero=>simp [bT]
 | succ k ih=>
  rw [bT,iG,ih,vH];constructor
  ·rintro(⟨i,hi,h⟩ | h)
   ·exact⟨i,by omega,h⟩
   ·exact⟨k,by omega,h⟩
  ·rintro⟨i,hi,h⟩
   by_cases e:i=k
   ·subst e;exact .inr h
   ·exact .inl ⟨i,by omega,h⟩
theorem E2(k:Nat):(bT m1 m2 rk1 rk2 kind k).Nodup:=by
 induction k with
 | zero=>exact List.nodup_nil
 | succ k ih=>
  rw [bT,List.nodup_append];refine⟨ih,ae6 _,fun a ha b hb e=>?_⟩;subst e;obtain⟨i,hi,h⟩:=rK.1 ha;have h2:=vH.1 hb;have:=h.2.2.1.symm.trans h2.2.2.1;omega
theorem TJ(k:Nat):rS ((bT m1 m2 rk1 rk2 kind k).map (b8 rk1 rk2 kind)):=by
 induction k with
 | zero=>exact List.Pairwise.nil
 | succ k ih=>
  rw [bT,iQ,rS,List.pairwise_append];refine⟨ih,qd.2 (List.pairwise_of_forall_mem_list fun a ha b hb=>?_),fun x hx y hy=>?_⟩
  ·rw [(vH.1 ha).2.2.1,(vH.1 hb).2.2.1];exact Int.le_refl _
  ·obtain⟨a,ha,rfl⟩:=dh.1 hx;obtain⟨b,hb,rfl⟩:=dh.1 hy;obtain⟨i,hi,h⟩:=rK.1 ha;rw [h.2.2.1,(vH.1 hb).2.2.1];omega
end
def gp(L:List (Int×Int))(i:Int):Int×Int:=L.getD i.toNat (0,0)
theorem tq{L:List (Int×Int)}{k:Nat}(h:k<L.length):gp L (k:Int)=L[k]:=by simp [gp,cJ,h]
def rJ(cI ck:Int→Int→Prop)[DecidableRel cI][DecidableRel ck](L:List (Int×Int))(e:Int):List Int:=(bw L.length).filter fun f=>decide (f<e∧cI (gp L f).1 (gp L e).1∧ck (gp L f).2 (gp L e).2)
def nI(cI ck:Int→Int→Prop)[DecidableRel cI][DecidableRel ck](L:List (Int×Int)):aiB:=(bw L.length).map (rJ cI ck L)
section
variable {m1 m2:Nat} {n1 n2:Int} {rk1 rk2:Int→Int} {cI ck:Int→Int→Prop} [DecidableRel cI] [DecidableRel ck] {kind:Int}
theorem vG{L:List (Int×Int)}{e:Int}(h0:0≤e)(h1:e<L.length):gl (nI cI ck L) e=rJ cI ck L e:=by
 obtain⟨k,rfl⟩:∃k:Nat,e=k:=⟨e.toNat,by omega⟩;rw [db (by simp [nI,bw];omega)];unfold nI;rw [List.getElem_map]
 congr 1
 simp [bw]
theorem An{L:List (Int×Int)}{e:Int}(h0:0≤e)(h1:e<L.length):gi (L.map (b8 rk1 rk2 kind)) e=b8 rk1 rk2 kind (gp L e):=by
 obtain⟨k,rfl⟩:∃k:Nat,e=k:=⟨e.toNat,by omega⟩;rw [bX (by simp;omega),tq (by omega)];simp
theorem uU(h1:fk m1 n1 rk1 cI)(h2:fk m2 n2 rk2 ck){k:Nat}{e d:Int}(he:0≤e∧e< (bT m1 m2 rk1 rk2 kind k).length):d∈rJ cI ck (bT m1 m2 rk1 rk2 kind k) e↔(0≤d∧d< (bT m1 m2 rk1 rk2 kind k).length)∧d≠e∧cI (gp (bT m1 m2 rk1 rk2 kind k) d).1 (gp (bT m1 m2 rk1 rk2 kind k) e).1∧ck (gp (bT m1 m2 rk1 rk2 kind k) d).2 (gp (bT m1 m2 rk1 rk2 kind k) e).2:=by
 unfold rJ;rw [fA,im,jT];constructor
 ·rintro⟨hd,fY,hu⟩;exact⟨hd,by omega,hu⟩
 rintro⟨hd,bt,hu⟩;refine⟨hd,?_,hu⟩;obtain⟨i,rfl⟩:∃i:Nat,d=i:=⟨d.toNat,by omega⟩;obtain⟨j,rfl⟩:∃j:Nat,e=j:=⟨e.toNat,by omega⟩;refine Int.not_le.1 fun hle=>?_
 have ha:=TJ (m1:=m1) (m2:=m2) (rk1:=rk1) (rk2:=rk2) (kind:=kind) k;have h3:=ha.le (i:=j) (j:=i) (by omega) (by simp;omega);rw [An (by omega) he.2,An (by omega) hd.2]at h3;have mi:=tq (L:=bT m1 m2 rk1 rk2 kind k) (k:=i) (by omega);have mj:=tq (L:=bT m1 m2 rk1 rk2 kind k) (k:=j) (by omega);obtain⟨a,_,ea⟩:=rK.1 (mi▸dQ _:gp (bT m1 m2 rk1 rk2 kind k) (i:Int)∈bT m1 m2 rk1 rk2 kind k);obtain⟨b,_,eb⟩:=rK.1 (mj▸dQ _:gp (bT m1 m2 rk1 rk2 kind k) (j:Int)∈bT m1 m2 rk1 rk2 kind k);have q1:=h1.qa ea.1 eb.1 hu.1;have q2:=h2.qa ea.2.1 eb.2.1 hu.2;unfold b8 at h3;have e1:=h1.same ea.1 eb.1 hu.1 (by omega);have e2:=h2.same ea.2.1 eb.2.1 hu.2 (by omega);have e3:gp (bT m1 m2 rk1 rk2 kind k) (i:Int)=gp (bT m1 m2 rk1 rk2 kind k) (j:Int):=Prod.ext e1 e2;rw [mi,mj]at e3;have:=(List.getElem_inj (E2 k)).1 e3;omega
theorem vo{k:Nat}{e:Int}(he:0≤e∧e< (bT m1 m2 rk1 rk2 kind k).length):∃i:Nat,i<k∧mI m1 m2 rk1 rk2 kind i (gp (bT m1 m2 rk1 rk2 kind k) e)∧gi ((bT m1 m2 rk1 rk2 kind k).map (b8 rk1 rk2 kind)) e=i:=by
 obtain⟨j,rfl⟩:∃j:Nat,e=j:=⟨e.toNat,by omega⟩;have mj:=tq (L:=bT m1 m2 rk1 rk2 kind k) (k:=j) (by omega);obtain⟨i,hi,h⟩:=rK.1 (mj▸dQ _:gp (bT m1 m2 rk1 rk2 kind k) (j:Int)∈bT m1 m2 rk1 rk2 kind k);exact⟨i,hi,h,by rw [An (by omega) (by omega)];exact h.2.2.1⟩
theorem I2{k:Nat}{i:Nat}{c:Int×Int}(hi:i<k)(h:mI m1 m2 rk1 rk2 kind i c):∃e:Int,(0≤e∧e< (bT m1 m2 rk1 rk2 kind k).length)∧gp (bT m1 m2 rk1 rk2 kind k) e=c:=by
 obtain⟨j,hj,e⟩:=gJ.1 (rK.2 ⟨i,hi,h⟩);exact⟨j,by omega,by rw [tq hj];exact e⟩
theorem Gl{k:Nat}{d e:Int}(hd:0≤d∧d< (bT m1 m2 rk1 rk2 kind k).length)(he:0≤e∧e< (bT m1 m2 rk1 rk2 kind k).length)(h:gp (bT m1 m2 rk1 rk2 kind k) d=gp (bT m1 m2 rk1 rk2 kind k) e):d=e:=by
 obtain⟨i,rfl⟩:∃i:Nat,d=i:=⟨d.toNat,by omega⟩;obtain⟨j,rfl⟩:∃j:Nat,e=j:=⟨e.toNat,by omega⟩;rw [tq (by omega),tq (by omega)]at h;have:=(List.getElem_inj (E2 k)).1 h;omega
theorem TP(h1:fk m1 n1 rk1 cI)(h2:fk m2 n2 rk2 ck){k:Nat}(hk:1≤k∧k≤5)(hb:(bT m1 m2 rk1 rk2 kind k).length≤500):fO k ((bT m1 m2 rk1 rk2 kind k).map (b8 rk1 rk2 kind)) (nI cI ck (bT m1 m2 rk1 rk2 kind k)):=by
 have hl:((bT m1 m2 rk1 rk2 kind k).map (b8 rk1 rk2 kind)).length=(bT m1 m2 rk1 rk2 kind k).length:=by simp
 refine⟨by omega,by rw [hl];exact hb,by simp [nI,bw],fun x hx=>?_,TJ k,fun e he=>?_,fun e he d hd c hc=>?_⟩
 ·obtain⟨c,hc,rfl⟩:=dh.1 hx;obtain⟨i,hi,h⟩:=rK.1 hc;rw [h.2.2.1];omega
 ·rw [hl]at he;rw [vG (by omega) (by omega)];refine⟨pd _ (mb _),fun d hd=>?_⟩;have hm:=(uU h1 h2 (by omega)).1 hd;refine⟨by rw [hl];exact hm.1,?_⟩;have fY:d< (e:Int):=by
   unfold rJ at hd;rw [fA,jT]at hd;exact hd.2.1
  obtain⟨i,_,ei,ri⟩:=vo (m1:=m1) (m2:=m2) (rk1:=rk1) (rk2:=rk2) (kind:=kind) (k:=k) (e:=d) hm.1;obtain⟨j,_,ej,rj⟩:=vo (m1:=m1) (m2:=m2) (rk1:=rk1) (rk2:=rk2) (kind:=kind) (k:=k) (e:=(e:Int)) (by omega);rw [An hm.1.1 hm.1.2,An (by omega) (by omega)];have q1:=h1.qa ei.1 ej.1 hm.2.2.1;have q2:=h2.qa ei.2.1 ej.2.1 hm.2.2.2;unfold b8;refine Int.not_le.1 fun hle=>hm.2.1 (Gl hm.1 (by omega) (Prod.ext (h1.same ei.1 ej.1 hm.2.2.1 (by omega)) (h2.same ei.2.1 ej.2.1 hm.2.2.2 (by omega))))
 rw [hl]at he;rw [vG (by omega) (by omega)]at hd⊢;have rh:=(uU h1 h2 (by omega)).1 hd;rw [vG rh.1.1 rh.1.2]at hc;have qo:=(uU h1 h2 rh.1).1 hc;have l1:d< (e:Int):=by unfold rJ at hd;rw [List.mem_filter,decide_eq_true_eq]at hd;exact hd.2.1
 have l2:c<d:=by unfold rJ at hc;rw [List.mem_filter,decide_eq_true_eq]at hc;exact hc.2.1
 obtain⟨_,_,ec,_⟩:=vo (m1:=m1) (m2:=m2) (rk1:=rk1) (rk2:=rk2) (kind:=kind) (k:=k) (e:=c) qo.1;obtain⟨_,_,ed,_⟩:=vo (m1:=m1) (m2:=m2) (rk1:=rk1) (rk2:=rk2) (kind:=kind) (k:=k) (e:=d) rh.1;obtain⟨_,_,ee,_⟩:=vo (m1:=m1) (m2:=m2) (rk1:=rk1) (rk2:=rk2) (kind:=kind) (k:=k) (e:=(e:Int)) (by omega);exact(uU h1 h2 (by omega)).2 ⟨qo.1,by omega,h1.trans _ _ _ ec.1 ed.1 ee.1 qo.2.2.1 rh.2.2.1,h2.trans _ _ _ ec.2.1 ed.2.1 ee.2.1 qo.2.2.2 rh.2.2.2⟩
theorem Mi(h1:fk m1 n1 rk1 cI)(h2:fk m2 n2 rk2 ck)(d1:va m1 rk1 cI)(d2:va m2 rk2 ck)(mo:0≤kind∧kind≤2){k:Nat}(hk:(k:Int)=gv n1 n2 kind)(gk:2≤k)(yn:1≤n1∧(1≤n2∨kind=0)):rT k ((bT m1 m2 rk1 rk2 kind k).map (b8 rk1 rk2 kind)) (nI cI ck (bT m1 m2 rk1 rk2 kind k)):=by
 have hl:((bT m1 m2 rk1 rk2 kind k).map (b8 rk1 rk2 kind)).length=(bT m1 m2 rk1 rk2 kind k).length:=by simp
 intro i e f eP jt he hf D9;have Kq:∀x:Int,0≤x∧x< (bT m1 m2 rk1 rk2 kind k).length→mI m1 m2 rk1 rk2 kind (gi ((bT m1 m2 rk1 rk2 kind k).map (b8 rk1 rk2 kind)) x) (gp (bT m1 m2 rk1 rk2 kind k) x):=fun x hx=>by
  obtain⟨j,_,h,r⟩:=vo hx;rw [r];exact h
 generalize hL:bT m1 m2 rk1 rk2 kind k=L at*;obtain⟨x,y,ka,hc⟩:=afa h1 h2 d1 d2 mo (i:=i) eP (by omega) (by omega) (if e<0 then none else some (gp L e)) (if f<0 then none else some (gp L f)) (by
  rcases he with⟨h,h'⟩ | ⟨h,h',wh⟩
  ·rw [aj (by omega)];exact h'
  rw [hl]at h;rw [ag (by omega)];exact⟨h',by rw [←wh];exact Kq e h⟩)
  (by
    rcases hf with⟨h,h'⟩ | ⟨h,h',wh⟩
    ·rw [aj (by omega)];show i=gv n1 n2 kind - 1;omega
    rw [hl]at h;rw [ag (by omega)];exact⟨by omega,by rw [←wh];exact Kq f h⟩)
  (by
    intro a ha b hb
    by_cases e0:e<0
    ·rw [aj e0]at ha;cases ha
    by_cases f0:f<0
    ·rw [aj f0]at hb;cases hb
    rw [ag e0]at ha;rw [ag f0]at hb;cases ha;cases hb;have oW:0≤f∧f<L.length:=by
     rcases hf with⟨h,_⟩ | ⟨h,_⟩
     ·omega
     rw [hl]at h;exact h
    have h9:=D9 (by omega) (by omega);rw [vG oW.1 oW.2]at h9;subst hL;exact((uU h1 h2 oW).1 h9).2.2)
  yn
 have QZ:∀c,mI m1 m2 rk1 rk2 kind i c→∃d:Int,(0≤d∧d<L.length)∧gp L d=c:=fun c Z7=>by
  subst hL;exact I2 (i:=i.toNat) (by omega) (by rw [Int.toNat_of_nonneg eP];exact Z7)
 have lp:∀d:Int,d∈jB (L.map (b8 rk1 rk2 kind)) (nI cI ck L) i e f↔(0≤d∧d<L.length)∧(gp L d=x∨gp L d=y):=fun d=>by
  rw [xJ,hl];constructor
  ·rintro⟨hd,rd,u,v⟩;refine⟨hd,(hc _).1 ⟨by rw [←rd];exact Kq d hd,fun a ha=>?_,fun b hb=>?_⟩⟩
   ·by_cases e0:e<0
    ·rw [aj e0]at ha;cases ha
    rw [ag e0]at ha;cases ha;have h9:=u.resolve_left e0;rw [vG hd.1 hd.2]at h9;subst hL;exact((uU h1 h2 hd).1 h9).2.2
   by_cases f0:f<0
   ·rw [aj f0]at hb;cases hb
   rw [ag f0]at hb;cases hb;have oW:0≤f∧f<L.length:=by
    rcases hf with⟨h,_⟩ | ⟨h,_⟩
    ·omega
    rw [hl]at h;exact h
   have h9:=v.resolve_left f0;rw [vG oW.1 oW.2]at h9;subst hL;exact((uU h1 h2 oW).1 h9).2.2
  rintro⟨hd,abC⟩;obtain⟨hE,ha,hb⟩:=(hc _).2 abC;have rd:gi (L.map (b8 rk1 rk2 kind)) d=i:=by rw [An hd.1 hd.2];exact hE.2.2.1
  refine⟨hd,rd,?_,?_⟩
  ·by_cases e0:e<0
   ·exact .inl e0
   right;have h9:=ha (gp L e) (by rw [ag e0];rfl);have Kr:(0≤e∧e<L.length)∧gi (L.map (b8 rk1 rk2 kind)) e=i - 1:=by
    rcases he with⟨h,_⟩ | ⟨h,_,wh⟩
    ·omega
    rw [hl]at h;exact⟨h,wh⟩
   rw [vG hd.1 hd.2];subst hL;exact(uU h1 h2 hd).2 ⟨Kr.1,fun h=>by rw [h,rd]at Kr;omega,h9⟩
  by_cases f0:f<0
  ·exact .inl f0
  right;have h9:=hb (gp L f) (by rw [ag f0];rfl);have oW:(0≤f∧f<L.length)∧gi (L.map (b8 rk1 rk2 kind)) f=i+1:=by
   rcases hf with⟨h,_⟩ | ⟨h,_,wh⟩
   ·omega
   rw [hl]at h;exact⟨h,wh⟩
  rw [vG oW.1.1 oW.1.2];subst hL;exact(uU h1 h2 oW.1).2 ⟨hd,fun h=>by rw [←h,rd]at oW;omega,h9⟩
 obtain⟨dx,QJ,ex⟩:=QZ x ((hc x).2 (.inl rfl)).1;obtain⟨dy,QK,ey⟩:=QZ y ((hc y).2 (.inr rfl)).1;have bt:dx≠dy:=fun h=>ka (by rw [←ex,←ey,h])
 have hp:(jB (L.map (b8 rk1 rk2 kind)) (nI cI ck L) i e f).Perm [dx,dy]:=by
  refine(s9 (Bb _ _ _ _ _) (by simpa using bt)).2 fun d=>?_
  rw [lp d];simp only [iW,List.not_mem_nil,or_false];constructor
  ·rintro⟨hd,h | h⟩
   ·left;subst hL;exact Gl hd QJ (h.trans ex.symm)
   right;subst hL;exact Gl hd QK (h.trans ey.symm)
  rintro(rfl | rfl)
  ·exact⟨QJ,.inl ex⟩
  exact⟨QK,.inr ey⟩
 rw [hp.length_eq];rfl
end
theorem nZ{n:Nat}{R:List Int}{B:aiB}(hn:1≤n){a:Nat}(ha:a< (au n R B).length):(gl (au n R B) (a:Int)).length=n∧(∀i:Nat,i<n→(0≤gi (gl (au n R B) (a:Int)) (i:Int)∧gi (gl (au n R B) (a:Int)) (i:Int)<R.length)∧gi R (gi (gl (au n R B) (a:Int)) (i:Int))=i)∧∀i:Nat,i+1<n→gi (gl (au n R B) (a:Int)) (i:Int)∈gl B (gi (gl (au n R B) (a:Int)) ((i+1:Nat):Int)):=(nY hn).1 (by rw [db ha];exact dQ _)
theorem uS{n:Nat}{x y:List Int}(hx:x.length=n)(hy:y.length=n)(h:∀i:Nat,i<n→gi x (i:Int)=gi y (i:Int)):x=y:=
 ji (by omega) fun i h1 h2=>by
  have:=h i (by omega)
  rwa [bX h1,bX h2]at this
theorem wc{n:Nat}{R:List Int}{B:aiB}{a b:Nat}(ha:a< (au n R B).length)(hb:b< (au n R B).length)(h:gl (au n R B) (a:Int)=gl (au n R B) (b:Int)):a=b:=by
 rw [db ha,db hb]at h;exact(List.getElem_inj (BH n R B).nodup).1 h
theorem Yn{n:Nat}{R:List Int}{B:aiB}(hP:fO n R B)(hD:rT n R B){a i:Nat}(ha:a< (au n R B).length)(hi:i<n):∃b:Nat,b≠a∧∀c:Nat,(jz n (au n R B) i a c∧c≠a)↔c=b:=by
 have hn:1≤n:=by have:=hP.n1;omega
 obtain⟨hl,hr,hc⟩:=nZ hn ha;generalize hx:gl (au n R B) (a:Int)=x at hl hr hc;have dp:qe R (i:Int) (if i=0 then -1 else gi x ((i - 1:Nat):Int)):=by
  by_cases e:i=0
  ·rw [aj e];exact .inl ⟨rfl,by omega⟩
  rw [ag e];have:=hr (i - 1) (by omega);exact .inr ⟨this.1,by omega,by rw [this.2];omega⟩
 have bJ:nO (n:Int) R (i:Int) (if i=n - 1 then -1 else gi x ((i+1:Nat):Int)):=by
  by_cases e:i=n - 1
  ·rw [aj e];exact .inl ⟨rfl,by omega⟩
  rw [ag e];have:=hr (i+1) (by omega);exact .inr ⟨this.1,by omega,by rw [this.2];omega⟩
 have KL:0≤(if i=0 then -1 else gi x ((i - 1:Nat):Int))→0≤(if i=n - 1 then -1 else gi x ((i+1:Nat):Int))→(if i=0 then -1 else gi x ((i - 1:Nat):Int))∈gl B (if i=n - 1 then -1 else gi x ((i+1:Nat):Int)):=fun h1 h2=>by
  by_cases e:i=0
  ·rw [aj e]at h1;omega
  by_cases e2:i=n - 1
  ·rw [aj e2]at h2;omega
  rw [ag e,ag e2];have wM:=hc (i - 1) (by omega);have pS:=hc i (by omega);rw [show i - 1+1=i by omega]at wM;have rz:=hr (i+1) (by omega);exact(hP.at_ rz.1.1 rz.1.2).2.2 _ pS _ wM
 have h2:=hD (i:Int) _ _ (by omega) (by omega) dp bJ KL;have EB:∀d:Int,d∈jB R B (i:Int) (if i=0 then -1 else gi x ((i - 1:Nat):Int)) (if i=n - 1 then -1 else gi x ((i+1:Nat):Int))↔x.set i d∈au n R B:=fun d=>by
  rw [xJ,nY hn];have gs:∀k:Nat,gi (x.set i d) (k:Int)=if k=i then d else gi x (k:Int):=fun k=>by
   have:=sf (S:=x) (x:=(i:Int)) (y:=(k:Int)) (b:=d) (by omega) (by omega) (by omega);rw [ir]at this;rw [this]
   by_cases e:k=i
   ·subst e;simp
   rw [ag e,ag (by omega)]
  constructor
  ·rintro⟨hd,rd,u,v⟩;refine⟨by rw [iw];exact hl,fun k hk=>?_,fun k hk=>?_⟩
   ·rw [gs k]
    by_cases e:k=i
    ·rw [aj e,e];exact⟨hd,rd⟩
    rw [ag e];exact hr k hk
   rw [gs k,gs (k+1)]
   by_cases e:k=i
   ·rw [aj e,ag (by omega)];rw [ag (by omega)]at v;have:=hr (i+1) (by omega);rw [e];exact v.resolve_left (by omega)
   rw [ag e]
   by_cases e2:k+1=i
   ·rw [aj e2];rw [ag (by omega),show i - 1=k by omega]at u;have:=hr k (by omega);exact u.resolve_left (by omega)
   rw [ag e2];exact hc k hk
  rintro⟨_,h3,h4⟩;have h5:=h3 i hi;rw [gs i,aj rfl]at h5;refine⟨h5.1,h5.2,?_,?_⟩
  ·by_cases e:i=0
   ·left;rw [aj e];omega
   right;rw [ag e];have h6:=h4 (i - 1) (by omega);rw [gs (i - 1),show i - 1+1=i by omega,gs i,ag (show ¬i - 1=i by omega),aj rfl]at h6;exact h6
  by_cases e:i=n - 1
  ·left;rw [aj e];omega
  right;rw [ag e];have h6:=h4 i (by omega);rw [gs i,gs (i+1),aj rfl,ag (by omega)]at h6;exact h6
 obtain⟨p,q,sH,hm⟩:=UI (Bb _ _ _ _ _) h2;have Hm:gi x (i:Int)=p∨gi x (i:Int)=q:=(hm _).1 ((EB _).2 (by
  have e:x.set i (gi x (i:Int))=x:=by
   rw [bX (by omega)];exact List.set_getElem_self _
  rw [e,←hx,db ha];exact dQ _))
 obtain⟨d,hd,D7⟩:∃d,d≠gi x (i:Int)∧∀c,(c=p∨c=q)↔(c=gi x (i:Int)∨c=d):=by
  rcases Hm with h | h
  ·exact⟨q,fun e=>sH (by rw [←h,e]),fun c=>by rw [h]⟩
  exact⟨p,fun e=>sH (by rw [←h,e]),fun c=>by rw [h];exact or_comm⟩
 have rh:x.set i d∈au n R B:=(EB d).1 ((hm d).2 ((D7 d).2 (.inr O)));obtain⟨b,hb,eb⟩:=gJ.1 rh;have F5:gl (au n R B) (b:Int)=x.set i d:=by rw [db hb];exact eb
 have Jt:∀(d:Int) (k:Nat),gi (x.set i d) (k:Int)=if k=i then d else gi x (k:Int):=fun d k=>by
  have:=sf (S:=x) (x:=(i:Int)) (y:=(k:Int)) (b:=d) (by omega) (by omega) (by omega);rw [ir]at this;rw [this]
  by_cases e:k=i
  ·subst e;simp
  rw [ag e,ag (by omega)]
 have uC:b≠a:=fun e=>by
  subst e;rw [hx]at F5;have:=Jt d i;rw [←F5,aj rfl]at this;exact hd this.symm
 refine⟨b,uC,fun c=> ⟨fun⟨⟨_,cg,oV⟩,QA⟩=>?_,?_⟩⟩
 ·
  rw [hx]at oV;obtain⟨vt,rz,px⟩:=nZ hn cg;have ec:gl (au n R B) (c:Int)=x.set i (gi (gl (au n R B) (c:Int)) (i:Int)):=uS vt (by rw [iw];exact hl) fun k hk=>by
   rw [Jt]
   by_cases e:k=i
   ·rw [aj e,e]
   rw [ag e];exact(oV k hk e).symm
  have qo:x.set i (gi (gl (au n R B) (c:Int)) (i:Int))∈au n R B:=by rw [←ec,db cg];exact dQ _
  rcases(D7 _).1 ((hm _).1 ((EB _).2 qo))with h | h
  ·exfalso;refine QA (wc cg ha ?_);rw [ec,h,hx,bX (by omega)];exact List.set_getElem_self _
  rw [h]at ec;exact wc cg hb (ec.trans F5.symm)
 rintro rfl;exact⟨⟨ha,hb,fun k hk bt=>by rw [F5,hx,Jt,ag bt]⟩,uC⟩
open Classical in
noncomputable def rE(n:Nat)(fl:aiB)(i:Nat)(a:Nat):List Int:=((List.range fl.length).filter fun b=>decide (jz n fl i a b∧b≠a)).map fun b:Nat=> (b:Int)
noncomputable def uT(n:Nat)(fl:aiB)(i:Nat):List Int:=(List.range fl.length).flatMap (rE n fl i)
noncomputable def bO(n:Nat)(fl:aiB):aiB:=(List.range n).map (uT n fl)
def kj(n:Nat)(fl:aiB):Prop:=∀a i:Nat,a<fl.length→i<n→∃b:Nat,b≠a∧∀c:Nat,(jz n fl i a c∧c≠a)↔c=b
open Classical in
theorem ad7{n:Nat}{fl:aiB}{i a b:Nat}(h:∀c:Nat,(jz n fl i a c∧c≠a)↔c=b):rE n fl i a=[(b:Int)]:=by
 have hb:=((h b).2 O).1.2.1;have key:∀p:Nat→Bool,(∀c,p c=true↔c=b)→((List.range fl.length).filter p)=[b]:=fun p hp=>by
  refine List.Perm.eq_singleton ((s9 (List.nodup_range.filter _) (by simp)).2 fun c=>?_);rw [fA,gg,hp c,eT];exact⟨fun h=>h.2,fun h=> ⟨by rw [h];exact hb,h⟩⟩
 unfold rE;exact ax (List.map fun b:Nat=> (b:Int)) (key _ fun c=>decide_eq_true_iff.trans (h c))
open Classical in
noncomputable def eQ(n:Nat)(fl:aiB)(i a:Nat):Nat:=if h:∃b:Nat,b≠a∧∀c:Nat,(jz n fl i a c∧c≠a)↔c=b then h.choose else 0
theorem kj.pt{n:Nat}{fl:aiB}(h:kj n fl){a i:Nat}(ha:a<fl.length)(hi:i<n):eQ n fl i a≠a∧∀c:Nat,(jz n fl i a c∧c≠a)↔c=eQ n fl i a:=by
 have he:=h a i ha hi;unfold eQ;rw [dif_pos he];exact he.choose_spec
theorem kj.lt{n:Nat}{fl:aiB}(h:kj n fl){a i:Nat}(ha:a<fl.length)(hi:i<n):eQ n fl i a<fl.length:=(((h.pt ha hi).2 _).2 rfl).1.2.1
theorem kj.pp{n:Nat}{fl:aiB}(h:kj n fl){a i:Nat}(ha:a<fl.length)(hi:i<n):eQ n fl i (eQ n fl i a)=a:=by
 have h1:=((h.pt ha hi).2 _).2 O;exact(((h.pt (h.lt ha hi) hi).2 a).1 ⟨h1.1.symm,fun e=> (h.pt ha hi).1 e.symm⟩).symm
theorem Tb{n:Nat}{fl:aiB}(h:kj n fl){i:Nat}(hi:i<n):uT n fl i=(List.range fl.length).map fun a=> (eQ n fl i a:Int):=by
 unfold uT;have e:∀l:List Nat,(∀a∈l,a<fl.length)→l.flatMap (rE n fl i)=l.map fun a=> (eQ n fl i a:Int):=by
  intro l
  induction l with
  | nil=>intro _;rfl
  | cons a r ih=>
   intro hl;rw [List.flatMap_cons,List.map_cons,ih fun b hb=>hl b (oK _ hb),ad7 (h.pt (hl a (by simp)) hi).2];rfl
 exact e _ fun a ha=>gg.1 ha
theorem Gf{n:Nat}{R:List Int}{B:aiB}(hP:fO n R B)(hD:rT n R B):kj n (au n R B):=fun _ _ ha hi=>Yn hP hD ha hi
def FC(n:Nat)(R:List Int)(B:aiB):Prop:=∀e:Int,0≤e→e<R.length→∃x∈au n R B,e∈x
def xN(n:Nat)(R:List Int)(B:aiB):Prop:=au n R B≠[]∧FC n R B∧rT n R B∧vN n (au n R B)
def nW(a b:List Int):List Int:=(List.range a.length).map fun k:Nat=>if gi a (k:Int)=gi b (k:Int)then gi a (k:Int)else -1
theorem Bu(a b:List Int):(nW a b).length=a.length:=by simp [nW]
theorem Bt{a b:List Int}{k:Nat}(h:k<a.length):gi (nW a b) (k:Int)=if gi a (k:Int)=gi b (k:Int)then gi a (k:Int)else -1:=by
 rw [bX (by rw [Bu];exact h)];simp [nW]
def jP(n:Nat)(c x:List Int):Prop:=∀k:Nat,k<n→gi c (k:Int)≠ -1→gi c (k:Int)=gi x (k:Int)
instance (n:Nat)(c x:List Int):Decidable (jP n c x):=by unfold jP;infer_instance
def jA(n:Nat)(fl:aiB)(c:List Int)(a b:Nat):Prop:=jP n c (gl fl (a:Int))∧eO n fl (fun k=>gi c (k:Int)≠ -1) a b
theorem jP.of{n:Nat}{fl:aiB}{c:List Int}{a b:Nat}(h:jP n c (gl fl (a:Int)))(h':eO n fl (fun k=>gi c (k:Int)≠ -1) a b):jP n c (gl fl (b:Int)):=fun k hk bt=>by
 rw [h'.keep k hk bt];exact h k hk bt
theorem jA.yK(n:Nat)(fl:aiB)(c:List Int):vU fl.length (jA n fl c):=
 ⟨fun _ _ h=> ⟨h.1.of h.2,h.2.symm⟩,fun _ _ _ h h'=> ⟨h.1,h.2.trans h'.2⟩,fun _ _ h=>h.2.fT⟩
theorem W7{n:Nat}{fl:aiB}(hl:∀x∈fl,x.length=n∧∀e∈x,0≤e){a b:Nat}(ha:a<fl.length)(hb:b<fl.length):
 jA n fl (nW (gl fl (a:Int)) (gl fl (b:Int))) a a∧jA n fl (nW (gl fl (a:Int)) (gl fl (b:Int))) b b∧(jA n fl (nW (gl fl (a:Int)) (gl fl (b:Int))) a b↔eO n fl (fun k=>gi (gl fl (a:Int)) (k:Int)=gi (gl fl (b:Int)) (k:Int)) a b):=by
 have hxa:=hl _ (by rw [db ha];exact dQ _:gl fl (a:Int)∈fl);have bt:∀k:Nat,k<n→(gi (nW (gl fl (a:Int)) (gl fl (b:Int))) (k:Int)≠ -1↔gi (gl fl (a:Int)) (k:Int)=gi (gl fl (b:Int)) (k:Int)):=fun k hk=>by
  rw [Bt (by omega)];have:=hxa.2 _ (gi_in (show k< (gl fl (a:Int)).length by omega))
  split
  ·exact⟨fun _=>by assumption,fun _=>by omega⟩
  ·rename_i h;exact⟨fun h'=>absurd rfl h',fun h'=>absurd h' h⟩
 have h1:jP n (nW (gl fl (a:Int)) (gl fl (b:Int))) (gl fl (a:Int)):=fun k hk h=>by
  have:=(bt k hk).1 h;rw [Bt (by omega),aj this]
 have h2:jP n (nW (gl fl (a:Int)) (gl fl (b:Int))) (gl fl (b:Int)):=fun k hk h=>by
  have:=(bt k hk).1 h;rw [Bt (by omega),aj this,this]
 have cv:∀ {S S':Nat→Prop},(∀k,k<n→(S k↔S' k))→∀ {u v},eO n fl S u v→eO n fl S' u v:=fun {S S'} hS {u v} h=>by
  induction h with
  | refl h=>exact .refl h
  | step _ hi hs Kb ih=>exact .step ih hi (fun h=>hs ((hS _ hi).2 h)) Kb
 exact⟨⟨h1,.refl ha⟩,⟨h2,.refl hb⟩,fun h=>cv bt h.2,fun h=> ⟨h1,cv (fun k hk=> (bt k hk).symm) h⟩⟩
def xz(n:Nat)(fl:aiB)(c:List Int)(x y:Nat):Prop:=jP n c (gl fl (x:Int))∧jP n c (gl fl (y:Int))∧∃i,i<n∧jz n fl i x y
theorem Jd{n:Nat}{fl:aiB}(hn:fl.Nodup)(hl:∀x∈fl,x.length=n){x y:Nat}(hx:x<fl.length)(hy:y<fl.length)(h:∀k:Nat,k<n→gi (gl fl (x:Int)) (k:Int)=gi (gl fl (y:Int)) (k:Int)):x=y:=by
 have e:gl fl (x:Int)=gl fl (y:Int):=uS (hl _ (by rw [db hx];exact dQ _)) (hl _ (by rw [db hy];exact dQ _)) h;rw [db hx,db hy]at e;exact(List.getElem_inj hn).1 e
theorem xz.link{n:Nat}{fl:aiB}(hn:fl.Nodup)(hl:∀x∈fl,x.length=n){c:List Int}{x y:Nat}(h:xz n fl c x y):jA n fl c x y:=by
 obtain⟨h1,h2,i,hi,ha⟩:=h;refine⟨h1,?_⟩
 by_cases hc:gi c (i:Int)≠ -1
 ·have:x=y:=Jd hn hl ha.1 ha.2.1 fun k hk=>by
   by_cases e:k=i
   ·subst e;rw [←h1 k hk hc,h2 k hk hc]
   exact ha.2.2 k hk e
  subst this;exact .refl ha.1
 exact .step (.refl ha.1) hi hc ha
theorem jA.ind{n:Nat}{fl:aiB}{c:List Int}{f:Nat}(S:Nat→Prop)(hf:S f)(hs:∀x y,S x→jA n fl c f x→xz n fl c x y→S y):∀x,jA n fl c f x→S x:=fun x h=>by
 obtain⟨h1,h2⟩:=h
 induction h2 with
 | refl _=>exact hf
 | step h hi hS ha ih=>exact hs _ _ ih ⟨h1,h⟩ ⟨h1.of h,h1.of (.step h hi hS ha),_,hi,ha⟩
def xA(n:Nat)(fl:aiB)(S:Nat→Prop)(x y:Nat):Prop:=∃i,i<n∧¬S i∧jz n fl i x y∧y≠x
theorem eO.ind{n:Nat}{fl:aiB}{S:Nat→Prop}{f:Nat}(T:Nat→Prop)(hf:T f)(hs:∀x y,T x→eO n fl S f x→xA n fl S x y→T y):∀x,eO n fl S f x→T x:=fun x h=>by
 induction h with
 | refl _=>exact hf
 | step h hi hS ha ih=>
  rename_i b c i
  by_cases e:c=b
  ·rw [e];exact ih
  ·exact hs _ _ ih h ⟨_,hi,hS,ha,e⟩
theorem xA.link{n:Nat}{fl:aiB}{S:Nat→Prop}{x y:Nat}(h:xA n fl S x y):eO n fl S x y:=by
 obtain⟨i,hi,hS,ha,_⟩:=h;exact .step (.refl ha.1) hi hS ha
end
section
open Go.RowKit Tryz
def AU(L:List Int)(w:World)(v:Value)(w':World):Prop:=∃A' c',v= .slice A' L.length c'∧St w w' [ah 2 A' L.length c' L]
theorem AG{xs:List Int}{j:Nat}(h:j<xs.length):xs.take (j+1)=xs.take j++ [gi xs (j:Int)]:=by
 rw [rY h,bX h]
theorem ab4(n:Int)(A D:aiC)(cA N m cD:Nat)(Af:aiC)(nf cf:Nat)(rs:List aG)(fl:aiB)(w:World)(hF:br w Af nf rs fl)(hN:N≤500)(hr:∀l∈fl,l.length≤1000∧∀x∈l,0≤x∧x< (N:Int))(En:nf≤100000):
 aA prog 87 [.agg #[aiD n,.slice A N cA,.slice D m cD],.slice Af nf cf] w (fun v w'=>∃b:Bool,v= .bool b∧(b=true↔∀x:Int,0≤x→x< (N:Int)→∃l∈fl,x∈l)∧St w w' []):=by
 have gy:=hF.len;refine bk func87 O ntmps87 O (cK O) (aQ O (kK (St.refl w) O O ?_));intro A1 w1 ao;have h1:Rd w1 A1 3 (fun j=> [Value.int .i64 n,.slice A N cA,.slice D m cD].getD j undef):=ao.rd 0 O;refine ad O (aH h1 O O O O inferInstance (aM h1 O O O O O (aa.len O O (xL (v:=false) N ao O O (by omega) ?_))));intro A5 w2 ar;have ar:St w w2 [fQ 4 A5 N N (jh (l9 N) (fl.take 0).flatten),bj A1 n A N cA D m cD]:=ar;refine ad O (aa.len O O (ay O ?_));refine Cd.loop (α:=Nat) (fun i=> [(2,.pointer A1),(5,.slice A5 N N),(14,.slice Af nf cf),(15,aiD (nf:Int)),(16,aiD (i:Int))]) (fun i w'=>i≤nf∧St w w' [fQ 4 A5 N N (jh (l9 N) (fl.take i).flatten),bj A1 n A N cA D m cD]) (fun i=>nf - i) 0 ⟨O,O,O,O,O,ae⟩ ⟨aW _,ar⟩ ?_;clear ar ao h1;rintro i e w3 ⟨hi,hS⟩;refine bK O ?_;refine aB _ O (fun h2=>?_) (fun h2=>?_)
 ·have zG:i<fl.length:=by omega
  have hM:=hS.bF hF;have fZ:=hM.at_ (i:=(i:Int)) (by omega) (by omega);have iD:=fZ.1;have lp:gl fl (i:Int)∈fl:=by rw [db zG];exact dQ _
  have fu:=hr _ lp;refine av O (aw hM.top.2 O O O (by omega) (by omega) (bQ hM.top O (by omega) O O ?_));refine ad O (aa.len O O (ay O ?_));refine Cd.loop (α:=Nat) (fun j=> [(2,.pointer A1),(5,.slice A5 N N),(14,.slice Af nf cf),(15,aiD (nf:Int)),(16,aiD (i:Int)),(20,.slice (rg rs (i:Int)).a (rg rs (i:Int)).n (rg rs (i:Int)).c),(21,aiD ((rg rs (i:Int)).n:Int)),(22,aiD (j:Int))]) (fun j w'=>j≤(rg rs (i:Int)).n∧St w w' [fQ 4 A5 N N (jh (l9 N) ((fl.take i).flatten++ (gl fl (i:Int)).take j)),bj A1 n A N cA D m cD]) (fun j=> (rg rs (i:Int)).n - j) 0 ⟨O,O,O,O,O,O,O,O,ae⟩ ⟨aW _,by rw [List.take_zero,fg];exact hS⟩ ?_;clear fZ hM hS;rintro j e w4 ⟨hj,hS⟩;refine bK O ?_;refine aB _ O (fun h3=>?_) (fun h3=>?_)
  ·have ln:j< (gl fl (i:Int)).length:=by omega
   have fZ:=(hS.bF hF).at_ (i:=(i:Int)) (by omega) (by omega);have hx:=fu.2 _ (gi_in ln);have tM:=Mg N ((fl.take i).flatten++ (gl fl (i:Int)).take j);refine av O (aw fZ.2 O O O (by omega) (by omega) (aT fZ O (by omega) O O (ad O (aw (hS.jy 0 O).2 O O O (by omega) (by omega) (uc 0 hS O O O (by omega) ?_)))));intro w5 aK;have aK:St w w5 [fQ 4 A5 N N (jh (l9 N) ((fl.take i).flatten++ (gl fl (i:Int)).take (j+1))),bj A1 n A N cA D m cD]:=by
    rw [AG ln,←fR,TC];exact aK
   refine ad O (aa.add O O O (by omega) (aF O (tQ ?_)));exact⟨j+1,by show(rg rs (i:Int)).n - (j+1)< (rg rs (i:Int)).n - j;omega,⟨O,O,O,O,O,O,O,O,ae⟩,by omega,aK⟩
  rw [show(gl fl (i:Int)).take j=gl fl (i:Int) from lS (by omega)]at hS;refine aY O (aZ (cL O (aa.add O O O (by omega) (aF O (tQ ?_)))));refine⟨i+1,by show nf - (i+1)<nf - i;omega,⟨O,O,O,O,O,ae⟩,by omega,?_⟩;rw [rY zG,List.flatten_append,←db zG];simpa using hS
 have dq:i=fl.length:=by omega
 rw [dq,List.take_length]at hS;have KU:=Tn (m:=N) (F:=fl) (fun l hl=> (hr l hl).2);refine aY O (aZ (cL O ?_));refine aa.call (Va A5 N N _ false _ (hS.jy 0 O) (by omega)) O O O ?_;rintro _ _ ⟨rfl,rfl⟩
 first | refine eC rfl rfl ?_ | refine aa.not rfl rfl ?_
 refine bh O (cM O ?_);refine⟨_,O,?_,hS.none⟩;rw [←KU];simp
def ti(a b:List Int)(i:Nat):List Int:=(List.range a.length).map fun k:Nat=>if i≤k∨gi a (k:Int)=gi b (k:Int)then gi a (k:Int)else -1
theorem vk(a b:List Int)(i:Nat):(ti a b i).length=a.length:=by simp [ti]
theorem xX{a b:List Int}{i k:Nat}(h:k<a.length):gi (ti a b i) (k:Int)=if i≤k∨gi a (k:Int)=gi b (k:Int)then gi a (k:Int)else -1:=by
 rw [bX (by rw [vk];exact h)];simp [ti]
theorem W3(a b:List Int):ti a b 0=a:=by
 apply ji (vk ..);intro k h1 h2;rw [←bX h1,←bX h2,xX h2,aj (.inl (aW _))]
theorem W4(a b:List Int):ti a b a.length=nW a b:=by
 apply ji (by rw [vk,Bu]);intro k h1 h2;have h3:k<a.length:=by rw [vk]at h1;exact h1
 rw [←bX h1,←bX h2,xX h3,Bt h3]
 by_cases c:gi a (k:Int)=gi b (k:Int)
 ·rw [aj (.inr c),aj c]
 rw [ag (by omega),ag c]
theorem W5{a b:List Int}{i:Nat}:ti a b (i+1)=if gi a (i:Int)=gi b (i:Int)then ti a b i else(ti a b i).set i (-1):=by
 by_cases c:gi a (i:Int)=gi b (i:Int)
 ·rw [aj c];apply ji (by simp [vk]);intro k h1 h4;have h3:k<a.length:=by rw [vk]at h1;exact h1
  rw [←bX h1,xX h3,←bX h4,xX h3]
  by_cases e:k=i
  ·subst e;rw [aj (.inr c),aj (.inr c)]
  by_cases e2:i+1≤k∨gi a (k:Int)=gi b (k:Int)
  ·rw [aj e2,aj (by omega)]
  rw [ag e2,ag (by omega)]
 rw [ag c];apply ji (by simp [vk]);intro k h1 h2;have h3:k<a.length:=by rw [vk]at h1;exact h1
 have h4:k< (ti a b i).length:=by rw [vk];exact h3
 rw [←bX h1,xX h3,List.getElem_set]
 split
 ·rename_i h;rw [ag (fun e=>by subst e;rcases h with h | h<;>first | omega | exact c h),←bX h4,xX h3,aj (by omega)]
 rename_i h
 by_cases e:i=k
 ·rw [aj e]
 rw [ag e,←bX h4,xX h3,ag (fun h'=>h (by omega))]
theorem Of(A A2:aiC)(n c m c2:Nat)(a b:List Int)(w:World)(hA:bS w A n a)(hB:bS w A2 m b)(hm:n=m)(hn:n≤1000):
 aA prog 153 [.slice A n c,.slice A2 m c2] w (AU (nW a b) w):=by
 subst hm;have ha:=hA.1;have hb:=hB.1;refine bk func153 O ntmps153 O (cK O) (aQ O (aa.call (Fs A n c a w hA (by omega)) O O O ?_));rintro _ w1 ⟨A5,c5,rfl,hS⟩;have hS:St w w1 [ah 2 A5 n c5 (ti a b 0)]:=by rw [W3];exact hS
 refine ad O (aa.len O O (ay O ?_));refine Cd.loop (α:=Nat) (fun i=> [(5,.slice A5 n c5),(10,.slice A2 n c2),(11,aiD (n:Int)),(12,aiD (i:Int))]) (fun i w'=>i≤n∧St w w' [ah 2 A5 n c5 (ti a b i)]) (fun i=>n - i) 0 ⟨O,O,O,O,ae⟩ ⟨aW _,hS⟩ ?_;clear hS;rintro i e w2 ⟨hi,hS⟩;have hl:=vk a b i;refine bK O ?_;refine aB _ O (fun h2=>?_) (fun h2=>?_)
 ·have dq:i<a.length:=by omega
  have gH:=W5 (a:=a) (b:=b) (i:=i);have wA:=xX (b:=b) (i:=i) dq;rw [aj (.inl (a8 _))]at wA;have si:=hS.eY hB;have h5:=hS.bc 0 O;refine av O (aw si.2 O O O (by omega) (by omega) (aT si O (by omega) O O (ad O (aw h5.2 O O O (by omega) (by omega) (aT h5 O (by omega) O O (ay O ?_))))));rw [wA];refine aB _ O (fun h3=>?_) (fun h3=>?_)
  ·rw [ag h3]at gH;refine av O (aw h5.2 O O O (by omega) (by omega) (jR 0 hS O O O (by omega) ?_));intro w3 az;refine ad O (aa.add O O O (by omega) (aF O (tQ ?_)));exact⟨i+1,by show n - (i+1)<n - i;omega,⟨O,O,O,O,ae⟩,by omega,by rw [gH];exact az⟩
  rw [aj (iP.1 h3)]at gH;refine av O (aa.add O O O (by omega) (aF O (tQ ?_)));exact⟨i+1,by show n - (i+1)<n - i;omega,⟨O,O,O,O,ae⟩,by omega,by rw [gH];exact hS⟩
 have dq:i=a.length:=by omega
 rw [dq,W4]at hS;have vt:=Bu a b;refine aY O (aZ (gE O ?_));refine gB O ?_;exact⟨A5,c5,by rw [vt,ha],by rw [vt,ha];exact hS⟩
def yL(xs:List Int)(x:Int):List Int:=(bw xs.length).filter fun e=>decide (gi xs e=x)
theorem aeK{xs:List Int}{x:Int}{m:Nat}:((bw (m+1)).filter fun e=>decide (gi xs e=x))=if x=gi xs (m:Int)then((bw m).filter fun e=>decide (gi xs e=x))++ [(m:Int)]else((bw m).filter fun e=>decide (gi xs e=x)):=by
 have:bw (m+1)=bw m++ [(m:Int)]:=by
  unfold bw;rw [ng,iQ];rfl
 rw [this,nS]
 by_cases c:gi xs (m:Int)=x
 ·rw [aj c.symm];simp [c]
 rw [ag (fun h=>c h.symm)];simp [c]
theorem aeJ(A:aiC)(n c:Nat)(xs:List Int)(x:Int)(w:World)(hA:bS w A n xs)(hn:n≤100000):
 aA prog 211 [.slice A n c,aiD x] w (AU (yL xs x) w):=by
 have ha:=hA.1;refine bk func211 O ntmps211 O (cK O) ?_;refine aQ O (aa.len O O (ay O ?_));refine Cd.loop (α:=Nat×aiC×Nat) (fun z=> [(1,aiD x),(5,.slice z.2.1 ((bw z.1).filter fun e=>decide (gi xs e=x)).length z.2.2),(8,.slice A n c),(9,aiD (n:Int)),(10,aiD (z.1:Int))]) (fun z w'=>z.1≤n∧St w w' [ah 2 z.2.1 ((bw z.1).filter fun e=>decide (gi xs e=x)).length z.2.2 ((bw z.1).filter fun e=>decide (gi xs e=x))]) (fun z=>n - z.1) (0,none,0) ⟨O,O,O,O,O,ae⟩ ⟨aW _,(St.refl w).nil _⟩ ?_;rintro⟨i,A5,c5⟩ e w1 ⟨hi,hS⟩;dsimp only at hi hS⊢;have gy:((bw i).filter fun e=>decide (gi xs e=x)).length≤100000:=by
  refine kJ (oJ _ _) ?_;rw [bw,fN,pe];omega
 have gH:=aeK (xs:=xs) (x:=x) (m:=i);refine bK O ?_;refine aB _ O (fun h2=>?_) (fun h2=>?_)
 ·have BM:=hS.eY hA;refine av O (aw BM.2 O O O (by omega) (by omega) (aT BM O (by omega) O O (ay O ?_)));refine aB _ O (fun h3=>?_) (fun h3=>?_)
  ·rw [aj h3]at gH;refine av O (dJ hS O O O ?_);intro A9 w2 ar;refine eK 1 ar O (ar.bc 0 O) O O O (by omega) (by omega) O ?_;intro AZ cZ w3 az;have az:=az.tail;refine ad O (aa.add O O O (by omega) (aF O (tQ ?_)));refine⟨(i+1,AZ,cZ),by show n - (i+1)<n - i;omega,⟨O,?_,O,O,O,ae⟩,by show i+1≤n;omega,?_⟩
   ·show Value.slice _ _ _=_;rw [gH,dm];rfl
   show St w w3 [ah _ _ (((bw (i+1)).filter _).length) _ ((bw (i+1)).filter _)];rw [gH,dm];exact az
  rw [ag h3]at gH;refine av O (aa.add O O O (by omega) (aF O (tQ ?_)));refine⟨(i+1,A5,c5),by show n - (i+1)<n - i;omega,⟨O,?_,O,O,O,ae⟩,by show i+1≤n;omega,?_⟩
  ·show Value.slice _ _ _=_;rw [gH]
  show St w w1 [ah _ _ (((bw (i+1)).filter _).length) _ ((bw (i+1)).filter _)];rw [gH];exact hS
 have dq:i=xs.length:=by omega
 rw [dq]at hS⊢;refine aY O (aZ (gE O ?_));refine gB O ?_;exact⟨A5,c5,O,hS⟩
def pa(n:Int)(R:List Int)(i:Int):List Int:=if 0≤i∧i≤n - 1 then yL R i else [-1]
theorem Mb(P A D:aiC)(n:Int)(N cA m cD:Nat)(R:List Int)(i:Int)(w:World)(hP:Rd w P 3 (fun j=> [Value.int .i64 n,.slice A N cA,.slice D m cD].getD j undef))(hR:bS w A N R)(hN:N≤1000)(hn:0≤n∧n≤100):
 aA prog 151 [.pointer P,aiD i] w (AU (pa n R i) w):=by
 refine bk func151 O ntmps151 O (cK O) (aQ O ?_);refine mh hP (by decide) O O ?_;refine aH hP O O O O inferInstance (gK (j:=0) hP (by exact ax Value.pointer O) O O O O (aa.sub O O O (by omega) (aa.call (xv _ _ _ _) O O O ?_)));rintro _ _ ⟨rfl,rfl⟩
 first | refine eC rfl rfl ?_ | refine aa.not rfl rfl ?_
 refine ay O ?_;refine aB _ O (fun h2=>?_) (fun h2=>?_)
 ·refine av O (dJ (i:= -1) (St.refl _) O O O ?_);intro A9 w2 ar;refine bh O (gB O ?_);unfold AU pa;rw [ag h2];exact⟨A9,1,O,ar⟩
 refine av O ?_;refine mh hP (by decide) O O ?_;refine aH hP O O O O inferInstance (aM hP O O O O O (ad O (aa.call (aeJ A N cA R i _ hR (by omega)) O O O ?_)));rintro _ w2 ⟨A9,c9,rfl,ar⟩;refine bh O (gB O ?_);unfold AU pa;rw [aj (iP.1 h2)];exact⟨A9,c9,O,ar⟩
end
section
open Go.RowKit Go.MapKept Tryz
structure ub{κ:Type}(d:TypeDesc)(kv:κ→Value):Prop where
 isKey:∀a,IsKey d (kv a)
 inj:∀a b,kv a=kv b→a=b
theorem Su:ub .string Value.string:=⟨fun _=>ae,fun a b h=>by injection h⟩
section
variable {κ ν:Type} [DecidableEq κ]
def fP:List (κ×ν)→κ→Option ν
 | [],_=>none
 | (y,v)::r,x=>if y=x then some v else fP r x
def jO:List (κ×ν)→κ→ν→List (κ×ν)
 | [],x,v=> [(x,v)]
 | (y,u)::r,x,v=>if y=x then(x,v)::r else(y,u)::jO r x v
def oS:List (κ×ν)→κ→Option (Nat×ν)
 | [],_=>none
 | (y,v)::r,x=>if y=x then some (0,v)else(oS r x).map fun p=> (p.1+1,p.2)
theorem O4:∀(L:List (κ×ν)) (x:κ),fP L x=(oS L x).map (·.2)
 | [],_=>rfl
 | (y,v)::r,x=>by
  simp only [fP,oS]
  split
  ·rfl
  ·rw [O4 r x,Option.map_map];rfl
theorem O6:∀ {L:List (κ×ν)} {x:κ} {j:Nat} {v:ν},oS L x=some (j,v)→L[j]?=some (x,v)∧∀u,jO L x u=L.set j (x,u)
 | (y,w)::r,x,j,v,h=>by
  simp only [oS]at h
  split at h
  ·rename_i e;simp only [pj,Prod.mk.injEq]at h;obtain⟨rfl,rfl⟩:=h;subst e;exact⟨O,fun u=>by simp [jO]⟩
  ·rename_i e;cases hf:oS r x with
   | none=>simp [hf]at h
   | some p=>
    simp only [hf,Option.map_some,pj,Prod.mk.injEq]at h;obtain⟨rfl,rfl⟩:=h;obtain⟨h1,h2⟩:=O6 (L:=r) (x:=x) (j:=p.1) (v:=p.2) hf;exact⟨by simpa using h1,fun u=>by simp only [jO,ag e,h2 u,List.set_cons_succ]⟩
theorem O5:∀ {L:List (κ×ν)} {x:κ},oS L x=none→∀u,jO L x u=L++ [(x,u)]
 | [],x,_,u=>rfl
 | (y,w)::r,x,h,u=>by
  simp only [oS]at h
  split at h
  ·cases h
  ·rename_i e;rw [Option.map_eq_none_iff]at h;simp only [jO,ag e,O5 h u,List.cons_append]
theorem Jk(L:List (κ×ν))(x y:κ)(u:ν):fP (jO L x u) y=if x=y then some u else fP L y:=by
 induction L with
 | nil=>simp only [jO,fP]
 | cons p r ih=>
  obtain⟨z,w⟩:=p;simp only [jO]
  by_cases e:z=x
  ·subst e;rw [aj rfl];simp only [fP]
   split<;>simp_all
  ·rw [ag e];simp only [fP,ih]
   by_cases e2:z=y
   ·subst e2;rw [aj rfl,ag (fun h=>e h.symm),aj rfl]
   ·rw [ag e2,ag e2]
def kc(kv:κ→Value)(vv:ν→Value)(L:List (κ×ν)):List (Value×Value):=L.map fun p=> (kv p.1,vv p.2)
theorem Ge{d:TypeDesc}{kv:κ→Value}{vv:ν→Value}(K:ub d kv)(x:κ):∀(l:List MapEntry) (L:List (κ×ν)) (i:Nat),l.map (fun e=> (e.key,e.val))=kc kv vv L→Instr.findNow d (kv x) l i=some ((oS L x).map fun p=> (i+p.1,vv p.2))
 | [],[],_,_=>rfl
 | [],_::_,_,h=>by simp [kc]at h
 | _::_,[],_,h=>by simp [kc]at h
 | e::l,(y,v)::L,i,h=>by
  simp only [kc,List.map_cons,List.cons.injEq,Prod.mk.injEq]at h;obtain⟨⟨h1,h2⟩,h3⟩:=h;obtain⟨r,hr,Ee⟩:=sameNow_of_keys (K.isKey x) (K.isKey y);simp only [Instr.findNow,oS];rw [h1,hr];cases r with
  | true=>
   have e1:=K.inj _ _ (Ee.1 O);subst e1;simp [h2]
  | false=>
   have bt:¬y=x:=fun q=>by
    have:=Ee.2 (by rw [q]);cases this
   rw [ag bt];simp only;rw [Ge K x l L (i+1) h3,Option.map_map]
   congr 2
   funext p;simp only [Function.comp];rw [Nat.add_assoc,Nat.add_comm 1]
end
def lD(t:TypeId)(g:Nat)(uR:List (Value×Value)):Ck:=⟨some ⟨g,0,none⟩,0,0,t,.tuple #[]::vn uR⟩
def Be(w:World)(g:Nat)(uR:List (Value×Value)):Prop:=∃es cl,w.heap[g]?=some (.map es cl)∧es.toList.map (fun e=> (e.key,e.val))=uR
section
variable {w0 w w':World} {ks:List Ck} {t:TypeId} {g:Nat} {uR:List (Value×Value)}
theorem St.HE(h:St w0 w ks)(i:Nat)(hk:ks[i]?=some (lD t g uR)):w0.heap.size≤g∧Be w g uR:=by
 rcases(h.get hk).cases with⟨_,_,_,g',es,cl,hA,hg,hh,hv⟩ | ⟨hm,_⟩
 ·have hA:some (⟨g,0,Option.none⟩:Addr)=some ⟨g',0,Option.none⟩:=hA;simp only [pj,Addr.mk.injEq,and_true]at hA;subst hA;have hv:(.tuple #[]::vn uR:List Value)= .tuple #[]::vn (es.toList.map fun e=> (e.key,e.val)):=hv;simp only [List.cons.injEq,true_and]at hv;exact⟨hg,es,cl,hh,(OS hv).symm⟩
 cases hm
theorem St.HL(h:St w0 w ks)(i:Nat)(hk:ks[i]?=some (lD t g uR)):Be w g uR:=(h.HE i hk).2
theorem St.Wk(h:St w0 w ks)(t:TypeId):St w0 (w.alloc (.map #[] 0)) (lD t w.heap.size []::ks):=by
 have hb:Below w.heap.size w (w.alloc (.map #[] 0)):=(Below.refl _ _).alloc (a8 _) _;have h1:=h.later hb;refine⟨h1.below,fun k hk=>?_,?_⟩
 ·rcases iW.1 hk with rfl | hk
  ·exact .ofM O ⟨O,O,_, #[],0,O,h.below.size,heap_alloc_new w _,O⟩
  exact h1.own k hk
 simp only [List.filterMap_cons,lD,Ck.ie,Option.map_some,pg];refine⟨fun dq=>?_,h.apart⟩;obtain⟨k',fM,wJ⟩:=List.mem_filterMap.1 dq;have:=((h.own k' fM).lt wJ).2;omega
theorem St.HW{i:Nat}{LB:List (Value×Value)}{I7:Array MapEntry}{N9:Nat}(h:St w0 w ks)(hk:ks[i]?=some (lD t g uR))(hv:I7.toList.map (fun e=> (e.key,e.val))=LB):St w0 { w with heap:=w.heap.setIfInBounds g (.map I7 N9) } (ks.set i (lD t g LB)):=by
 obtain⟨hg,es,cl,hh,_⟩:=h.HE i hk;refine h.turn (k:=lD t g uR) (k':=lD t g LB) (g:=g) hk O O ⟨⟨O,O,O,by simp,fun x _ hx=>?_⟩,a8 _⟩ ?_
 ·exact(heap_set hh).2 x fun e=>hx (by rw [e])
 refine .ofM O ⟨O,O,g,I7,N9,O,hg,(heap_set hh).1,?_⟩;rw [hv];rfl
end
section
variable{t kt et:TypeId}{b:Nat}{m:Operand}
variable {P:Program} {N:Nat} {ops:Array Oper} {K:Env→World→Prop} {rest:List Oper} {e:Env} {w0 w w':World} {ks:List Ck} {d:Nat} {ty:TypeId} {pos:String} {af:Array Edge}
variable {κ ν:Type} [DecidableEq κ] {kd:TypeDesc} {kv:κ→Value} {vv:ν→Value}
theorem Ie(hS:St w0 w ks)(hb:Nat.blt d N=true)(hK:∀g w',St w0 w' (lD t g []::ks)→aa P N ops K rest (a7 e d (.map (some g))) w'):
 aa P N ops K (⟨some d,.makeMap t none,ty,pos,af,none⟩::rest) e w:=
 .val (w':=w.alloc (.map #[] 0)) (by simp [execOp,run_makeMap]) hb (hK _ _ (hS.Wk t))
theorem My{z:Value}{s:Nat}[hU:bB P t (.map kt et)][hk:bB P kt kd][bp P et z s b](KT:ub kd kv){g:Nat}{L:List (κ×ν)}{x:κ}(hR:Be w g (kc kv vv L))(ok:Bool):
 (Instr.lookup t (.map (some g)) (kv x) ok).run P w= .ok (if ok then .tuple #[((fP L x).map vv).getD z,.bool (fP L x).isSome]else((fP L x).map vv).getD z) w:=by
 obtain⟨es,cl,hh,hm⟩:=hR;obtain⟨inf,hi,fv,_,_⟩:=bp.get P et;have hf:=Ge (vv:=vv) KT x es.toList L 0 hm;rw [O4];unfold Instr.lookup;simp only [Sem.run_bind,run_underlying hU.out,Result.andThen,MapKept.run_getObj_map hh,MapKept.run_checkKey hk.out (KT.isKey x)];cases l5:oS L x with
 | none=>
  rw [l5]at hf;have wH:=MapKept.run_findKey (P:=P) (w:=w) hk.out hf;cases ok<;>simp [wH,zeroValue,typeInfo,hi,fv]
 | some p=>
  rw [l5]at hf;have wH:=MapKept.run_findKey (P:=P) (w:=w) hk.out hf;cases ok<;>simp [wH]
theorem Nj{z v:Value}{s:Nat}[bB P t (.map kt et)][bB P kt kd][bp P et z s b](KT:ub kd kv){g:Nat}{L:List (κ×ν)}{ix:Operand}{x:κ}(hR:Be w g (kc kv vv L))(hx:ev e m= .map (some g))(hy:ev e ix=kv x)(hv:((fP L x).map vv).getD z=v)(hb:Nat.blt d N=true)(hK:aa P N ops K rest (a7 e d v) w):aa P N ops K (⟨some d,.lookup t m ix false,ty,pos,af,none⟩::rest) e w:=by
 subst hv;refine .val (w':=w) ?_ hb hK;have:=My (P:=P) (t:=t) (x:=x) KT hR false;simp [execOp,hx,hy,this]
theorem VM[bB P t (.map kt et)][bB P kt kd][bp P et (aiD 0) 1 b](KT:ub kd kv){g:Nat}{L:List (κ×Int)}{ix:Operand}(x:κ)(hR:Be w g (kc kv (Value.int .i64) L))(hx:ev e m= .map (some g))(hy:ev e ix=kv x)(hb:Nat.blt d N=true)(hK:aa P N ops K rest (a7 e d (.tuple #[aiD ((fP L x).getD 0),.bool (fP L x).isSome])) w):aa P N ops K (⟨some d,.lookup t m ix true,ty,pos,af,none⟩::rest) e w:=by
 refine .val (w':=w) ?_ hb hK;have:=My (P:=P) (t:=t) (x:=x) KT hR true;have e1:((fP L x).map (Value.int .i64)).getD (aiD 0)=aiD ((fP L x).getD 0):=by cases fP L x<;>rfl
 rw [e1]at this;simp [execOp,hx,hy,this]
theorem afW{T:TypeId}[hU:bB P t (.map kt et)][hk:bB P kt kd](KT:ub kd kv){g:Nat}{L:List (κ×ν)}(i:Nat)(x:κ)(u:ν)(hS:St w0 w ks)(hi:ks[i]?=some (lD T g (kc kv vv L))):
 ∃w',(Instr.mapUpdate t (.map (some g)) (kv x) (vv u)).run P w= .ok () w'∧St w0 w' (ks.set i (lD T g (kc kv vv (jO L x u)))):=by
 obtain⟨_,es,cl,hh,hm⟩:=hS.HE i hi;have hf:=Ge (vv:=vv) KT x es.toList L 0 hm;have wH:=MapKept.run_findKey (P:=P) (w:=w) hk.out hf;cases l5:oS L x with
 | none=>
  refine⟨{ w with heap:=w.heap.setIfInBounds g (.map (es.push ⟨kv x,vv u,cl⟩) (cl+1)) },?_,hS.HW hi ?_⟩
  ·simp [Instr.mapUpdate,run_underlying hU.out,MapKept.run_getObj_map hh,MapKept.run_checkKey hk.out (KT.isKey x),wH,l5,MapKept.run_setObj_map _ hh,Result.andThen]
  ·rw [O5 l5];simp only [Array.toList_push,iQ,hm,kc]
   rfl
 | some p=>
  obtain⟨j,v⟩:=p;obtain⟨h1,h2⟩:=O6 l5;have ln:j<L.length:=(ia.1 h1).1;have jJ:es.toList.length=L.length:=by have:=ax List.length hm;simpa [kc]using this
  have hes:es.size=L.length:=by simpa using jJ
  have zI:j<es.size:=by omega
  have aaB:es[j].key=kv x:=by
   have:=ax (fun l=>l[j]?) hm;simp [kc,h1,zI]at this;exact this.1
  have ak:=MapKept.run_keyThatStays (P:=P) (w:=w) (KT.isKey x);refine⟨{ w with heap:=w.heap.setIfInBounds g (.map (es.modify j fun e=> { e with key:=kv x,val:=vv u }) cl) },?_,hS.HW hi ?_⟩
  ·simp [Instr.mapUpdate,run_underlying hU.out,MapKept.run_getObj_map hh,MapKept.run_checkKey hk.out (KT.isKey x),wH,l5,MapKept.run_setObj_map _ hh,Result.andThen,zI,aaB,ak]
  ·rw [h2 u];apply List.ext_getElem?;intro q;have hq:=ax (fun l=>l[q]?) hm;simp only [kc,List.getElem?_map,Array.getElem?_toList]at hq;simp only [kc,List.getElem?_map,oI,Array.getElem?_toList,Array.getElem?_modify]
   by_cases e1:j=q
   ·subst e1;simp [zI,ln]
   ·rw [ag e1,ag e1];exact hq
def UL:Op→Option (TypeId×Operand×Operand×Operand)
 | .mapUpdate t m k x=>some (t,m,k,x)
 | .insert t m k x=>some (t,m,k,x)
 | _=>none
theorem Ih{op:Op}{T:TypeId}{k x:Operand}[hU:bB P t (.map kt et)][bB P kt kd](ry:UL op=some (t,m,k,x))(KT:ub kd kv){g:Nat}{L:List (κ×ν)}(i:Nat){a:κ}{u:ν}(hS:St w0 w ks)(hi:ks[i]?=some (lD T g (kc kv vv L)))(hm:ev e m= .map (some g))(hk:ev e k=kv a)(hx:ev e x=vv u)(hK:∀w',St w0 w' (ks.set i (lD T g (kc kv vv (jO L a u))))→aa P N ops K rest e w'):aa P N ops K (⟨none,op,ty,pos,af,none⟩::rest) e w:=by
 obtain⟨w',uM,oi⟩:=afW (P:=P) (t:=t) KT i a u hS hi;refine .unit (w':=w') ?_ (hK _ oi);cases op<;>simp [UL]at ry<;>obtain⟨rfl,rfl,rfl,rfl⟩:=ry<;>simp [execOp,hm,hk,hx,uM]
end
end
end Go.Proofs.YtopgfgdgfjddpaaGreatDoor.Vc
