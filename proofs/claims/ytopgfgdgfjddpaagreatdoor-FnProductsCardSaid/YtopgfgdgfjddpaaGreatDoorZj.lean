/-
  The texts Ps2, Ps3, Pu2, Pu3, Pu4, Pu5, Pu6, Pu7, Anx, D6, Lx0, Pv1, Pv2, Pw1 in one. Conditions: as each part states them.
-/
import Derived.Test.YtopgfgdgfjddpaaGreatDoorZi
import Derived.Test.YtopgfgdgfjddpaaGreatDoorZb
import Derived.Test.YtopgfgdgfjddpaaGreatDoorZg
import Derived.Test.YtopgfgdgfjddpaaGreatDoorZd
import Derived.Test.YtopgfgdgfjddpaaGreatDoorZh
namespace Go.Proofs.YtopgfgdgfjddpaaGreatDoor.Vc
section
open Go.RowKit Tryz
def U7(k:Nat)(RL:List Int)(BL:aiB)(w:World)(v:Value)(w':World):Prop:=((5<k∨500<RL.length)∧v= .tuple #[.agg #[aiD 0,.slice none 0 0,.slice none 0 0],aiD 3]∧St w w' [])∨((k≤5∧RL.length≤500)∧∃AR c AD d rs,v= .tuple #[.agg #[aiD (k:Int),.slice AR RL.length c,.slice AD RL.length d],aiD 0]∧rs.length=RL.length∧BL.length=RL.length∧St w w' (ah 2 AR RL.length c RL::(aE 32 2 AD RL.length d rs BL++ [])))
abbrev ns(A:aiC)(vs:List Value):Ck:=Bx 100 4 A vs
theorem St.aea{w0 w:World}{ks:List Ck}(t:TypeId)(h:St w0 w ks):St w0 w (dM t Option.none 0 0 []::ks):=h.nil t
theorem filter_lt{P:Int→Prop}[DecidablePred P]{n i:Nat}(h:i≤n):((bw n).filter fun f=>decide (f< (i:Int)∧P f))=(bw i).filter fun f=>decide (P f):=by
 refine SA.eq (pd _ (mb _)) (pd _ (mb _)) fun y=>?_
 rw [fA,fA,im,im,jT,jT];exact⟨fun h=> ⟨by omega,h.2.2⟩,fun h=> ⟨by omega,by omega,h.2⟩⟩
section
variable (N1 N2:Nat) (B1 B2:aiB) (L:List (Int×Int))
def lj(i e:Nat):List Int:=(bw e).filter fun f=>decide (dS N1 B1 (gp L f).1 (gp L (i:Int)).1∧dS N2 B2 (gp L f).2 (gp L (i:Int)).2)
theorem NN(i e:Nat):lj N1 N2 B1 B2 L i (e+1)=if dS N1 B1 (gp L (e:Int)).1 (gp L (i:Int)).1∧dS N2 B2 (gp L (e:Int)).2 (gp L (i:Int)).2 then lj N1 N2 B1 B2 L i e++ [(e:Int)]else lj N1 N2 B1 B2 L i e:=by
 unfold lj;rw [uX,nS]
 by_cases c:dS N1 B1 (gp L (e:Int)).1 (gp L (i:Int)).1∧dS N2 B2 (gp L (e:Int)).2 (gp L (i:Int)).2
 ·rw [aj c];simp [c.1,c.2]
 rw [ag c];rw [pG (by simpa using c),List.filter_nil,fg]
theorem NL{i:Nat}(h:i≤L.length):lj N1 N2 B1 B2 L i i=rJ (dS N1 B1) (dS N2 B2) L (i:Int):=by
 unfold lj rJ;exact(filter_lt (P:=fun f=>dS N1 B1 (gp L f).1 (gp L (i:Int)).1∧dS N2 B2 (gp L f).2 (gp L (i:Int)).2) h).symm
theorem NM(i e:Nat):(lj N1 N2 B1 B2 L i e).length≤e:=by
 refine kJ (oJ _ _) ?_;rw [bw,fN,pe];exact a8 _
def o9(i:Nat):aiB:=(bw i).map (rJ (dS N1 B1) (dS N2 B2) L)
theorem TI(i:Nat):o9 N1 N2 B1 B2 L (i+1)=o9 N1 N2 B1 B2 L i++ [rJ (dS N1 B1) (dS N2 B2) L (i:Int)]:=by
 unfold o9;rw [uX,iQ];rfl
theorem CP(i:Nat):(o9 N1 N2 B1 B2 L i).length=i:=by simp [o9,bw]
end
abbrev Aj(Ap:aiC)(n cp:Nat)(ds:List TV)(a6 A6 A4 A3:aiC)(k:Int)(v4 v3:List Value):List Ck:=
 [dM 153 Ap n cp ds,bj a6 k none 0 0 none 0 0,bj A6 0 none 0 0 none 0 0,ns A4 v4,ns A3 v3]
abbrev EV(AR:aiC)(i cR:Nat)(rl:List Int)(a6:aiC)(k:Int)(AD:aiC)(cD:Nat)(Ap:aiC)(n cp:Nat)(ds:List TV)(A6 A4 A3:aiC)(v4 v3:List Value)(cH:List aG)(B:aiB):List Ck:=
 ah 2 AR i cR rl::bj a6 k AR i cR AD i cD::dM 153 Ap n cp ds::bj A6 0 none 0 0 none 0 0::ns A4 v4::ns A3 v3::(aE 32 2 AD i cD cH B++ [])
theorem aex{α:Type}(q1 q2 q3 q4 q5 q6 q7:α):[q1,q2,q3,q4,q5,q6,q7].Perm [q1,q4,q3,q5,q6,q7,q2]:=by
 classical
 refine lR.2 fun z=>?_
 simp only [lE,nQ];omega
theorem aew{α:Type}(b d:α)(q1 q2 q3 q4 q5 q6 q7:α)(X:List α):(b::d::q1::q2::q3::q4::q5::q6::q7::(X++ [])).Perm (d::q1::q2::q3::q4::q5::q6::q7::((X++ [b])++ [])):=by
 classical
 refine lR.2 fun z=>?_
 simp only [nP,lE,nQ];omega
set_option maxHeartbeats 8000000 in
theorem afb(A8 B8:aiC)(c8 d8:Nat)(q1 q2:Int)(Fm BR:aiC)(r1 r2 FT dR:Nat)(C2 BD:aiC)(N1 N2 FR dD:Nat)(X1 X2:List Int)(fw xp:List aG)(B1 B2:aiB)(n1 n2 kind:Int)(k:Nat)(w:World)(tu:y7 w A8 X1 N1 C2 fw B1)(od:y7 w B8 X2 N2 BD xp B2)(x9:fk (N1+2) n1 (gi X1) (dS N1 B1))(ya:fk (N2+2) n2 (gi X2) (dS N2 B2))(hk:0≤kind∧kind≤2)(oY:(k:Int)=gv n1 n2 kind)(uJ:n1≤5)(zL:n2≤5):
 aA prog 115 [.agg #[.slice A8 (N1+2) c8,aiD q1,.slice Fm r1 FT,.slice C2 N1 FR],.agg #[.slice B8 (N2+2) d8,aiD q2,.slice BR r2 dR,.slice BD N2 dD],aiD kind] w (U7 k ((bT (N1+2) (N2+2) (gi X1) (gi X2) kind k).map (b8 (gi X1) (gi X2) kind)) (nI (dS N1 B1) (dS N2 B2) (bT (N1+2) (N2+2) (gi X1) (gi X2) kind k)) w):=by
 have cN:=tu.nn;have dG:=od.nn;have jg:=tu.len;have mS:=od.len;have GY:=fun(a:Int) h=>x9.fT (a:=a) h
 have GZ:=fun(a:Int) h=>ya.fT (a:=a) h
 have ht1:=x9.rt;have ht2:=ya.rt;have aaM:=x9.n0;have aaO:=ya.n0;have e1:(((N1+2:Nat):Int) - 1)=(N1:Int)+1:=by omega
 have e2:(((N2+2:Nat):Int) - 1)=(N2:Int)+1:=by omega
 have Eh:(k:Int)=n1+n2+ (if kind=0 then 1 else 0):=by rw [oY];unfold gv;split<;>omega
 refine bk func115 O ntmps115 O (tW O O) (aQ O (Ng (St.refl w) O O ?_));intro A3 w1 ao;refine Ng ao O O ?_;intro A4 w2 ar;refine jC ar O ?_;intro A6 w3 az;obtain⟨v3,yy⟩:∃v3,v3=Dv A8 (N1+2) c8 q1 Fm r1 FT C2 N1 FR:=⟨_,rfl⟩;obtain⟨v4,R7⟩:∃v4,v4=Dv B8 (N2+2) d8 q2 BR r2 dR BD N2 dD:=⟨_,rfl⟩;have az:St w w3 [bj A6 0 none 0 0 none 0 0,ns A4 v4,ns A3 v3]:=by rw [yy,R7];exact az
 clear ar ao;have o0:∀ {w':World} {ks:List Ck} (i:Nat),St w w' ks→ks[i]?=some (ns A3 v3)→Rd w' A3 4 (fun j=> (Dv A8 (N1+2) c8 q1 Fm r1 FT C2 N1 FR).getD j undef):=fun i h hk=>by
  have:=h.rd i hk;rw [yy]at this;exact this
 have sG:∀ {w':World} {ks:List Ck} (i:Nat),St w w' ks→ks[i]?=some (ns A4 v4)→Rd w' A4 4 (fun j=> (Dv B8 (N2+2) d8 q2 BR r2 dR BD N2 dD).getD j undef):=fun i h hk=>by
  have:=h.rd i hk;rw [R7]at this;exact this
 have gG:=o0 2 az O;have oh:=sG 1 az O;have kU:=(tu.later az.below).rk;have lz:=(od.later az.below).rk;refine ay O ?_;refine dI [xP (aq (A3) 0),xS (A8) (N1+2) (c8),xI (((N1+2:Nat):Int)),xI ((((N1+2:Nat):Int)) - ((1:Int))),xP (aq (A4) 0),xS (B8) (N2+2) (d8),xI (((N2+2:Nat):Int)),xI ((((N2+2:Nat):Int)) - ((1:Int))),xI ((((N1+2:Nat):Int)) - ((1:Int))),xI ((((N2+2:Nat):Int)) - ((1:Int)))] (by kernel_rfl) (by kernel_rfl) O (eg O) ?_ ?_
 ·exact⟨fun _ _ hb _ _=>aH (gG.below hb) O O O O inferInstance (Az O),fun _ _ hb _ _=>aM (gG.below hb) O O O O O (Az O),fun _ _ _ _ _=>aa.len O O (Az O),fun _ _ _ _ _=>aa.sub O O O (by omega) (Az O),fun _ _ hb _ _=>aH (oh.below hb) O O O O inferInstance (Az O),fun _ _ hb _ _=>aM (oh.below hb) O O O O O (Az O),fun _ _ _ _ _=>aa.len O O (Az O),fun _ _ _ _ _=>aa.sub O O O (by omega) (Az O),Dr O,Dr O,ae⟩
 intro u w4 kq _;have aJ:=az.later kq;have gG:=Rd.below gG kq;have oh:=Rd.below oh kq;have kU:=kU.later kq;have lz:=lz.later kq;have g1:gi X1 (((N1+2:Nat):Int) - 1)=n1:=ht1;have g2:gi X2 (((N2+2:Nat):Int) - 1)=n2:=ht2;refine eo O ?_;refine iU [13] [yP (aq (A3) 0),yS (A8) (N1+2) (c8),yI (((((N1+2:Nat):Int) - 1))),yP (aq (A8) (((((N1+2:Nat):Int) - 1))).toNat),yI (gi (X1) (((((N1+2:Nat):Int) - 1)))),yP (aq (A4) 0),yS (B8) (N2+2) (d8),yI (((((N2+2:Nat):Int) - 1))),yP (aq (B8) (((((N2+2:Nat):Int) - 1))).toNat),yI (gi (X2) (((((N2+2:Nat):Int) - 1)))),yI ((gi (X1) (((((N1+2:Nat):Int) - 1))))+ (gi (X2) (((((N2+2:Nat):Int) - 1))))),.ex (.agg #[aiD (gi X1 (((N1+2:Nat):Int) - 1)+gi X2 (((N2+2:Nat):Int) - 1)),.slice none 0 0,.slice none 0 0]),.pr (fun v w'=>∃a6,v= .pointer a6∧St w w' (bj a6 0 none 0 0 none 0 0::[bj A6 0 none 0 0 none 0 0,ns A4 v4,ns A3 v3])),.p2 12 (fun a v w'=>∃a6,a= .pointer a6∧St w w' (bj a6 (gi X1 (((N1+2:Nat):Int) - 1)+gi X2 (((N2+2:Nat):Int) - 1)) none 0 0 none 0 0::[bj A6 0 none 0 0 none 0 0,ns A4 v4,ns A3 v3]))] (by kernel_rfl) (by kernel_rfl) (ly (ly (ly (ly (ly (ly (ly (ly (ly (ly (ly (ly (bV.2 ⟨Ye.b9 (fun v w w' h hb=>by obtain⟨A9,hv,hT⟩:=h;exact⟨A9,hv,hT.later hb⟩),(bV.2 ⟨Nv (fun a v w w' h hb=>by obtain⟨a6,hv,hT⟩:=h;exact⟨a6,hv,hT.later hb⟩),(fun _ h=>by cases h)⟩)⟩))))))))))))) ?_ ?_
 ·refine⟨cP fun _ _ hb _ _ _=>aH (gG.below hb) O O O O inferInstance (aX O O),cP fun _ _ hb _ _ _=>aM (gG.below hb) O O O O O (aX O O),ba O,cP fun _ _ hb _ _ _=>aw (kU.later hb).2 O O O (by omega) (by omega) (aX O O),cP fun _ _ hb _ _ _=>aT (kU.later hb) O (by omega) O O (aX O O),cP fun _ _ hb _ _ _=>aH (oh.below hb) O O O O inferInstance (aX O O),cP fun _ _ hb _ _ _=>aM (oh.below hb) O O O O O (aX O O),ba O,cP fun _ _ hb _ _ _=>aw (lz.later hb).2 O O O (by omega) (by omega) (aX O O),cP fun _ _ hb _ _ _=>aT (lz.later hb) O (by omega) O O (aX O O),aP fun _ _=>aa.add O O O (by omega) (aX O O),aP fun _ _=>Fy (by exact inferInstance) (by exact inferInstance) (by exact inferInstance) O O O O O O (aX O O),?_,?_,ae⟩
  ·refine cP fun e1 w1 hb hp aL hq=>?_
   refine jC (St.refl _) O ?_;intro A9 w9 ak;refine aa.n ?_;exact fF.dn O ak.below ⟨A9,O,(aJ.later hb).call ak⟩
  refine iY fun e1 w1 hb hp aL hq=>?_
  obtain⟨a6,gU,hT⟩:=(hp 12 _ _ (by kernel_rfl) rfl rfl (by kernel_rfl));refine bG 3 0 hT O (by exact gU) O O O O O ?_;intro w9 aS;refine aa.n ?_;exact eA.st O ⟨a6,gU,aS⟩
 intro u2 w5 _ _ jM _;obtain⟨a6,gU,aK⟩:=jM 13 12 _ rfl (by kernel_rfl);rw [g1,g2]at aK;refine FD (F:=[(2,aiD kind),(3,.pointer A3),(4,.pointer A4),(6,.pointer A6),(8,aiD (((N1+2:Nat):Int) - 1)),(9,aiD (((N2+2:Nat):Int) - 1)),(10,.pointer a6)]) ⟨O,O,O,O,O,O,gU,ae⟩ ?_;clear kU lz gG oh aJ az;refine Vj 0 O ?_;refine lC (α:=Unit) (fun _=> [(2,aiD kind),(3,.pointer A3),(4,.pointer A4),(6,.pointer A6),(8,aiD (((N1+2:Nat):Int) - 1)),(9,aiD (((N2+2:Nat):Int) - 1)),(10,.pointer a6)]) (fun _ w'=>St w w' (bj a6 k none 0 0 none 0 0::[bj A6 0 none 0 0 none 0 0,ns A4 v4,ns A3 v3])) ?_ ?_
 ·refine bK O ?_;refine aB _ O (fun h1=>?_) (fun h1=>?_)
  ·refine av O (aH (aK.rd 0 O) O O O O inferInstance (gK (j:=0) (aK.rd 0 O) (by exact ax Value.pointer O) O O O O (aa.add O O O (by omega) (aH (aK.rd 0 O) O O O O inferInstance (jS 0 (j:=0) aK O O O O O ?_)))));intro w6 aR;refine aF O (tQ ?_);exact⟨(),⟨O,O,O,O,O,O,O,ae⟩,by rw [Eh,aj h1];exact aR⟩
  refine kD O (tQ ?_);exact⟨(),⟨O,O,O,O,O,O,O,ae⟩,by rw [Eh,ag h1,Int.add_zero];exact aK⟩
 clear aK;rintro _ e w6 aR;refine av O (aH (aR.rd 0 O) O O O O inferInstance (gK (j:=0) (aR.rd 0 O) (by exact ax Value.pointer O) O O O O (ay O ?_)));refine aB _ O (fun h1=>?_) (fun h1=>?_)
 ·refine av O (vS (by exact inferInstance) (by exact inferInstance) (by exact inferInstance) O (bG 3 1 aR O O O O O O O ?_));intro w7 aV;refine bh O (kA O (aV.rd 1 O) O ?_);exact .inl ⟨.inl (by omega),O,aV.none⟩
 have KE:k≤5:=by omega
 have aV:=aR.aea 153;have gG:=o0 3 aR O;refine av O (aH gG O O O O inferInstance (aM (j:=0) gG (by exact ax Value.pointer O) O O O O ?_));refine aa.len O O (ay O ?_);refine Cd.loop (α:=Nat×aiC×Nat) (fun z=> [(2,aiD kind),(3,.pointer A3),(4,.pointer A4),(6,.pointer A6),(8,aiD (((N1+2:Nat):Int) - 1)),(9,aiD (((N2+2:Nat):Int) - 1)),(10,.pointer a6),(11,.slice z.2.1 (gn (N1+2) (N2+2) kind z.1 0).length z.2.2),(56,.slice A8 (N1+2) c8),(57,aiD ((N1+2:Nat):Int)),(58,aiD (z.1:Int))]) (fun z w'=>z.1≤N1+2∧St w w' (Aj z.2.1 (gn (N1+2) (N2+2) kind z.1 0).length z.2.2 ((gn (N1+2) (N2+2) kind z.1 0).map (qJ (gi X1) (gi X2) kind)) a6 A6 A4 A3 k v4 v3)) (fun z=>N1+2 - z.1) (0,none,0) ⟨O,O,O,O,O,O,O,O,O,O,O,ae⟩ ⟨aW _,aV⟩ ?_;clear aV aR gG;rintro⟨a,Ap,cp⟩ e w7 ⟨ha,hS⟩;dsimp only at ha hS⊢;refine bK O ?_;refine aB _ O (fun h2=>?_) (fun h2=>?_)
 ·have sw:a<N1+2:=by omega
  have kU:=(tu.later hS.below).rk;have oh:=sG 3 hS O;have ga:=GY (a:Int) (by omega);refine av O (aw kU.2 O O O (by omega) (by omega) (aT kU O (by omega) O O (ad O (aH oh O O O O inferInstance (aM (j:=0) oh (by exact ax Value.pointer O) O O O O ?_)))));refine aa.len O O (ay O ?_);refine Cd.loop (α:=Nat×aiC×Nat) (fun z=> [(2,aiD kind),(3,.pointer A3),(4,.pointer A4),(6,.pointer A6),(8,aiD (((N1+2:Nat):Int) - 1)),(9,aiD (((N2+2:Nat):Int) - 1)),(10,.pointer a6),(11,.slice z.2.1 (gn (N1+2) (N2+2) kind a z.1).length z.2.2),(56,.slice A8 (N1+2) c8),(57,aiD ((N1+2:Nat):Int)),(58,aiD (a:Int)),(12,aiD (a:Int)),(13,aiD (gi X1 (a:Int))),(64,.slice B8 (N2+2) d8),(65,aiD ((N2+2:Nat):Int)),(66,aiD (z.1:Int))]) (fun z w'=>z.1≤N2+2∧St w w' (Aj z.2.1 (gn (N1+2) (N2+2) kind a z.1).length z.2.2 ((gn (N1+2) (N2+2) kind a z.1).map (qJ (gi X1) (gi X2) kind)) a6 A6 A4 A3 k v4 v3)) (fun z=>N2+2 - z.1) (0,Ap,cp) ⟨O,O,O,O,O,O,O,O,O,O,O,O,O,O,O,O,ae⟩ ⟨aW _,hS⟩ ?_;clear hS kU oh;rintro⟨b,Ap,cp⟩ e w8 ⟨hb,hS⟩;dsimp only at hb hS⊢;refine bK O ?_;refine aB _ O (fun h3=>?_) (fun h3=>?_)
  ·have wD:b<N2+2:=by omega
   have lz:=(od.later hS.below).rk;have gb:=GZ (b:Int) (by omega);have mn:=NF (m1:=N1+2) (m2:=N2+2) (kind:=kind) a b (by omega);have Cs:a* (N2+2)≤502*502:=Nat.mul_le_mul (by omega) (by omega);refine av O (aw lz.2 O O O (by omega) (by omega) (aT lz O (by omega) O O ?_));refine ad O (aa.add O O O (by omega) (aa.add O O O (by omega) ?_));refine Vz (v:=⟨(a:Int),(b:Int),gi X1 (a:Int)+gi X2 (b:Int)+1⟩) (by exact inferInstance) (by exact inferInstance) (by exact inferInstance) O O O O O O O (jC hS O ?_);intro gx w9 aS;refine bG 3 0 aS O O O O O O O ?_;intro dB bD;have bD:St w dB (Bx 153 3 gx [aiD (a:Int),aiD (b:Int),aiD (gi X1 (a:Int)+gi X2 (b:Int)+1)]::Aj Ap (gn (N1+2) (N2+2) kind a b).length cp ((gn (N1+2) (N2+2) kind a b).map (qJ (gi X1) (gi X2) kind)) a6 A6 A4 A3 k v4 v3):=bD;refine vb 0 O ?_;refine lC (α:=Unit) (fun _=> [(2,aiD kind),(3,.pointer A3),(4,.pointer A4),(6,.pointer A6),(8,aiD (((N1+2:Nat):Int) - 1)),(9,aiD (((N2+2:Nat):Int) - 1)),(10,.pointer a6),(11,.slice Ap (gn (N1+2) (N2+2) kind a b).length cp),(56,.slice A8 (N1+2) c8),(57,aiD ((N1+2:Nat):Int)),(58,aiD (a:Int)),(12,aiD (a:Int)),(13,aiD (gi X1 (a:Int))),(64,.slice B8 (N2+2) d8),(65,aiD ((N2+2:Nat):Int)),(66,aiD (b:Int)),(14,aiD (b:Int)),(16,.pointer gx),(17,.bool (decide ((a:Int)=0∧(b:Int)=0))),(18,.bool (decide ((a:Int)=((N1+2:Nat):Int) - 1∧(b:Int)=((N2+2:Nat):Int) - 1)))]) (fun _ w'=>w'=dB) ?_ ?_
   ·refine aQ O ?_;refine bY 80 O (fun p1=>?_) (fun p1=>?_)
    ·refine aa.g O O O (ad O (aa.g O O O (ad O ?_)));refine bY 87 O (fun p2=>?_) (fun p2=>?_)
     ·refine aa.g O O O (ad O (aa.g O O O (ad O (aa.g O O O (aF O (tQ ?_))))));exact⟨(),⟨O,O,O,O,O,O,O,O,O,O,O,O,O,O,O,O,O,O,ax Value.bool (jo.2 ⟨fun h=> ⟨p1,h⟩,fun h=>h.2⟩),ax Value.bool (jo.2 ⟨fun h=> ⟨p2,h⟩,fun h=>h.2⟩),ae⟩,O⟩
     refine ai O O O O O (ai O O O O O (ai O O O O O (aF O (tQ ?_))));exact⟨(),⟨O,O,O,O,O,O,O,O,O,O,O,O,O,O,O,O,O,O,ax Value.bool (jo.2 ⟨fun h=> ⟨p1,h⟩,fun h=>h.2⟩),ax Value.bool (cd fun h=>p2 h.1).symm,ae⟩,O⟩
    refine ai O O O O O (ai O O O O O (ad O ?_));refine bY 87 O (fun p2=>?_) (fun p2=>?_)
    ·refine aa.g O O O (ad O (aa.g O O O (ad O (aa.g O O O (aF O (tQ ?_))))));exact⟨(),⟨O,O,O,O,O,O,O,O,O,O,O,O,O,O,O,O,O,O,ax Value.bool (cd fun h=>p1 h.1).symm,ax Value.bool (jo.2 ⟨fun h=> ⟨p2,h⟩,fun h=>h.2⟩),ae⟩,O⟩
    refine ai O O O O O (ai O O O O O (ai O O O O O (aF O (tQ ?_))));exact⟨(),⟨O,O,O,O,O,O,O,O,O,O,O,O,O,O,O,O,O,O,ax Value.bool (cd fun h=>p1 h.1).symm,ax Value.bool (cd fun h=>p2 h.1).symm,ae⟩,O⟩
   rintro _ e eu rfl;refine lC (α:=Unit) (fun _=> [(2,aiD kind),(3,.pointer A3),(4,.pointer A4),(6,.pointer A6),(8,aiD (((N1+2:Nat):Int) - 1)),(9,aiD (((N2+2:Nat):Int) - 1)),(10,.pointer a6),(11,.slice Ap (gn (N1+2) (N2+2) kind a b).length cp),(56,.slice A8 (N1+2) c8),(57,aiD ((N1+2:Nat):Int)),(58,aiD (a:Int)),(12,aiD (a:Int)),(13,aiD (gi X1 (a:Int))),(64,.slice B8 (N2+2) d8),(65,aiD ((N2+2:Nat):Int)),(66,aiD (b:Int)),(14,aiD (b:Int)),(16,.pointer gx),(17,.bool (decide ((a:Int)=0∧(b:Int)=0))),(18,.bool (decide ((a:Int)=((N1+2:Nat):Int) - 1∧(b:Int)=((N2+2:Nat):Int) - 1))),(19,.bool (decide (((a:Int)=0∧(b:Int)=0)∨((a:Int)=((N1+2:Nat):Int) - 1∧(b:Int)=((N2+2:Nat):Int) - 1))))]) (fun _ w'=>w'=eu) ?_ ?_
   ·refine aQ O ?_;refine bY 93 O (fun p1=>?_) (fun p1=>?_)
    ·refine ai O O O O O (aF O (tQ ?_));exact⟨(),⟨O,O,O,O,O,O,O,O,O,O,O,O,O,O,O,O,O,O,O,O,ax Value.bool (dX (.inl p1)).symm,ae⟩,O⟩
    refine aa.g O O O (aF O (tQ ?_));exact⟨(),⟨O,O,O,O,O,O,O,O,O,O,O,O,O,O,O,O,O,O,O,O,ax Value.bool (jo.2 ⟨fun h=> .inr h,fun h=>h.resolve_left p1⟩),ae⟩,O⟩
   rintro _ e gm rfl;have GC:kind=1→(pc (N1+2) (N2+2) kind (a:Int) (b:Int)↔((a:Int)=0∨(b:Int)=0∨((a:Int)=((N1+2:Nat):Int) - 1∧(b:Int)=((N2+2:Nat):Int) - 1))):=fun h=>by unfold pc;rw [if_pos h]
   have GD:kind=2→(pc (N1+2) (N2+2) kind (a:Int) (b:Int)↔((a:Int)=((N1+2:Nat):Int) - 1∨(b:Int)=((N2+2:Nat):Int) - 1∨((a:Int)=0∧(b:Int)=0))):=fun h=>by unfold pc;rw [if_neg (by omega),if_pos h]
   have Zu:¬kind=1→¬kind=2→(pc (N1+2) (N2+2) kind (a:Int) (b:Int)↔(((a:Int)=0∧(b:Int)=0)∨((a:Int)=((N1+2:Nat):Int) - 1∧(b:Int)=((N2+2:Nat):Int) - 1))):=fun h h'=>by unfold pc;rw [if_neg h,if_neg h']
   have I6:kind=1→b8 (gi X1) (gi X2) kind ((a:Int),(b:Int))=gi X1 (a:Int)+gi X2 (b:Int)+1 - 1:=fun h=>by unfold b8 eM;rw [if_pos h];show gi X1 (a:Int)+gi X2 (b:Int)+0=_;omega
   have F9:¬kind=1→b8 (gi X1) (gi X2) kind ((a:Int),(b:Int))=gi X1 (a:Int)+gi X2 (b:Int)+1:=fun h=>by unfold b8 eM;rw [if_neg h]
   refine lC (α:=Unit) (fun _=> [(2,aiD kind),(3,.pointer A3),(4,.pointer A4),(6,.pointer A6),(8,aiD (((N1+2:Nat):Int) - 1)),(9,aiD (((N2+2:Nat):Int) - 1)),(10,.pointer a6),(11,.slice Ap (gn (N1+2) (N2+2) kind a b).length cp),(56,.slice A8 (N1+2) c8),(57,aiD ((N1+2:Nat):Int)),(58,aiD (a:Int)),(12,aiD (a:Int)),(13,aiD (gi X1 (a:Int))),(64,.slice B8 (N2+2) d8),(65,aiD ((N2+2:Nat):Int)),(66,aiD (b:Int)),(14,aiD (b:Int)),(16,.pointer gx),(19,.bool (decide (pc (N1+2) (N2+2) kind (a:Int) (b:Int))))]) (fun _ w'=>St w w' (Bx 153 3 gx [aiD (a:Int),aiD (b:Int),aiD (b8 (gi X1) (gi X2) kind ((a:Int),(b:Int)))]::Aj Ap (gn (N1+2) (N2+2) kind a b).length cp ((gn (N1+2) (N2+2) kind a b).map (qJ (gi X1) (gi X2) kind)) a6 A6 A4 A3 k v4 v3)) ?_ ?_
   ·refine bK O ?_;refine aB _ O (fun k1=>?_) (fun k1=>?_)
    ·refine av O ?_;refine bY 101 O (fun p1=>?_) (fun p1=>?_)
     ·refine ai O O O O O (ai O O O O O (ad O (ai O O O O O (ad O ?_))));refine aH (bD.rd 0 O) O O O O inferInstance (gK (j:=2) (bD.rd 0 O) (by exact ax Value.pointer O) O O O O (aa.sub O O O (by omega) (aH (bD.rd 0 O) O O O O inferInstance (jS 0 (j:=2) bD O O O O O ?_))));intro dW fC;refine aF O (tQ ?_);exact⟨(),⟨O,O,O,O,O,O,O,O,O,O,O,O,O,O,O,O,O,O,ax Value.bool ((dX ((GC k1).2 (.inl p1))).symm),ae⟩,by rw [I6 k1];exact fC⟩
     refine aa.g O O O (ad O (aa.g O O O (ad O ?_)));refine bY 105 O (fun p2=>?_) (fun p2=>?_)
     ·refine ai O O O O O (ad O ?_);refine aH (bD.rd 0 O) O O O O inferInstance (gK (j:=2) (bD.rd 0 O) (by exact ax Value.pointer O) O O O O (aa.sub O O O (by omega) (aH (bD.rd 0 O) O O O O inferInstance (jS 0 (j:=2) bD O O O O O ?_))));intro dW fC;refine aF O (tQ ?_);exact⟨(),⟨O,O,O,O,O,O,O,O,O,O,O,O,O,O,O,O,O,O,ax Value.bool ((dX ((GC k1).2 (.inr (.inl p2)))).symm),ae⟩,by rw [I6 k1];exact fC⟩
     refine aa.g O O O (ad O ?_);refine aH (bD.rd 0 O) O O O O inferInstance (gK (j:=2) (bD.rd 0 O) (by exact ax Value.pointer O) O O O O (aa.sub O O O (by omega) (aH (bD.rd 0 O) O O O O inferInstance (jS 0 (j:=2) bD O O O O O ?_))));intro dW fC;refine aF O (tQ ?_);exact⟨(),⟨O,O,O,O,O,O,O,O,O,O,O,O,O,O,O,O,O,O,ax Value.bool (jo.2 ⟨fun h=> (GC k1).2 (.inr (.inr h)),fun h=> (((GC k1).1 h).resolve_left p1).resolve_left p2⟩),ae⟩,by rw [I6 k1];exact fC⟩
    refine bP O ?_;refine aB _ O (fun k2=>?_) (fun k2=>?_)
    ·refine av O ?_;refine bY 117 O (fun p1=>?_) (fun p1=>?_)
     ·refine ai O O O O O (ai O O O O O (ai O O O O O (ad O (ai O O O O O (aF O (tQ ?_))))));exact⟨(),⟨O,O,O,O,O,O,O,O,O,O,O,O,O,O,O,O,O,O,ax Value.bool (dX ((GD k2).2 (.inl p1))).symm,ae⟩,by rw [F9 k1];exact bD⟩
     refine aa.g O O O (ad O (aa.g O O O (ad O (aa.g O O O (ad O ?_)))));refine bY 122 O (fun p2=>?_) (fun p2=>?_)
     ·refine ai O O O O O (aF O (tQ ?_));exact⟨(),⟨O,O,O,O,O,O,O,O,O,O,O,O,O,O,O,O,O,O,ax Value.bool (dX ((GD k2).2 (.inr (.inl p2)))).symm,ae⟩,by rw [F9 k1];exact bD⟩
     refine aa.g O O O (aF O (tQ ?_));exact⟨(),⟨O,O,O,O,O,O,O,O,O,O,O,O,O,O,O,O,O,O,ax Value.bool (jo.2 ⟨fun h=> (GD k2).2 (.inr (.inr h)),fun h=> (((GD k2).1 h).resolve_left p1).resolve_left p2⟩),ae⟩,by rw [F9 k1];exact bD⟩
    refine kD O (tQ ?_);exact⟨(),⟨O,O,O,O,O,O,O,O,O,O,O,O,O,O,O,O,O,O,ax Value.bool (jo.2 (Zu k1 k2).symm),ae⟩,by rw [F9 k1];exact bD⟩
   rintro _ e dW fC;refine av O ?_
   first | refine eC rfl rfl ?_ | refine aa.not rfl rfl ?_
   refine ay O ?_;refine aB _ O (fun h5=>?_) (fun h5=>?_)
   ·have qv:=Wc (m1:=N1+2) (m2:=N2+2) h5;refine av O (aa.bq 2 (fC.rd 0 O) O O O (VB (v:=qJ (gi X1) (gi X2) kind ((a:Int),(b:Int))) fC O O O ?_));intro A9 me ic;refine Vv 2 ic O (ic.ke 0 O) O O O (by omega) (by omega) O ?_;intro AZ cZ mG gr;have gr:=gr.tail.tail;refine ad O (aa.add O O O (by omega) (aF O (tQ ?_)));refine⟨(b+1,AZ,cZ),by show N2+2 - (b+1)<N2+2 - b;omega,⟨O,O,O,O,O,O,O,?_,O,O,O,O,O,O,O,O,ae⟩,by show b+1≤N2+2;omega,?_⟩
    ·show Value.slice _ _ _=Value.slice _ _ _;rw [qv,dm];rfl
    show St w mG (Aj AZ (gn _ _ kind a (b+1)).length cZ _ _ _ _ _ _ _ _);rw [qv,dm,iQ];exact gr
   have mR:=Wd (m1:=N1+2) (m2:=N2+2) (iP.1 h5);refine av O (aa.add O O O (by omega) (aF O (tQ ?_)));refine⟨(b+1,Ap,cp),by show N2+2 - (b+1)<N2+2 - b;omega,⟨O,O,O,O,O,O,O,?_,O,O,O,O,O,O,O,O,ae⟩,by show b+1≤N2+2;omega,?_⟩
   ·show Value.slice _ _ _=Value.slice _ _ _;rw [mR]
   show St w dW (Aj Ap (gn _ _ kind a (b+1)).length cp _ _ _ _ _ _ _ _);rw [mR];exact fC.tail
  have qm:b=N2+2:=by omega
  subst qm;refine aY O (aZ (cL O (aa.add O O O (by omega) (aF O (tQ ?_)))));refine⟨(a+1,Ap,cp),by show N1+2 - (a+1)<N1+2 - a;omega,⟨O,O,O,O,O,O,O,?_,O,O,O,ae⟩,by show a+1≤N1+2;omega,?_⟩
  ·show Value.slice _ _ _=Value.slice _ _ _;rw [It]
  show St w w8 (Aj Ap (gn _ _ kind (a+1) 0).length cp _ _ _ _ _ _ _ _);rw [It];exact hS
 obtain rfl:a=N1+2:=by omega
 have RE:=Wb x9 ya hk oY (show N2+2≤1000 by omega);have tM:=RE.length_eq;have dL:=Wa (N1+2) (N2+2) kind (gi X1) (gi X2) (by omega) (by omega);have RY:=fun(ds:List TV) hp hs=>af7 x9 ya hk oY (show N1+2≤1000 by omega) (show N2+2≤1000 by omega) (ds:=ds) hp hs
 have Kc:=dL.2;rw [fN]at Kc;have mn:=NF (m1:=N1+2) (m2:=N2+2) (kind:=kind) (N1+2) 0 (by omega);have Cs:(N1+2)* (N2+2)≤502*502:=Nat.mul_le_mul (by omega) (by omega);have zC:((gn (N1+2) (N2+2) kind (N1+2) 0).map (qJ (gi X1) (gi X2) kind)).length=(gn (N1+2) (N2+2) kind (N1+2) 0).length:=fN _;have jJ:=fun(c:Int×Int)=> (rK (m1:=N1+2) (m2:=N2+2) (rk1:=gi X1) (rk2:=gi X2) (kind:=kind) (k:=k) (c:=c))
 generalize gn (N1+2) (N2+2) kind (N1+2) 0=PA at*;generalize bT (N1+2) (N2+2) (gi X1) (gi X2) kind k=PL at*;refine aY O (aZ (cL O (aa.len O O (ay O ?_))));refine aB _ O (fun h3=>?_) (fun h3=>?_)
 ·refine av O (vS (by exact inferInstance) (by exact inferInstance) (by exact inferInstance) O (bG 3 2 hS O O O O O O O ?_));intro w8 bA;refine bh O (kA O (bA.rd 2 O) O ?_);exact .inl ⟨.inr (by rw [fN];omega),O,bA.none⟩
 have Qc:PL.length≤500:=by omega
 refine av O (aa.call (TS.af5 (by omega) dL.1 Kc hS) O O O ?_);rintro _ w8 ⟨rfl,lU,KY,Qh,bA⟩;have QI:lU.length=PA.length:=by rw [KY.length_eq,zC]
 obtain rfl:=RY lU KY (by rw [QI];exact Qh);clear hS;rw [tM]at bA⊢;obtain⟨ds,zD⟩:∃ds,PL.map (qJ (gi X1) (gi X2) kind)=ds:=⟨_,rfl⟩;have hdsl:ds.length=PL.length:=by rw [←zD,fN]
 rw [zD]at bA;have Lh:=fun i (h:i<PL.length)=>agi (qJ (gi X1) (gi X2) kind) PL h
 rw [zD]at Lh;have dq:∀i:Nat,i<PL.length→((0≤(gp PL (i:Int)).1∧(gp PL (i:Int)).1< (N1:Int)+2)∧(0≤(gp PL (i:Int)).2∧(gp PL (i:Int)).2< (N2:Int)+2))∧0≤b8 (gi X1) (gi X2) kind (gp PL (i:Int))∧b8 (gi X1) (gi X2) kind (gp PL (i:Int))≤5:=fun i h=>by
  have hm:gp PL (i:Int)∈PL:=by rw [tq h];exact dQ _
  obtain⟨j,hj,hE⟩:=(jJ _).1 hm;have h9:=hE.2.2.1;refine⟨⟨⟨hE.1.1,?_⟩,hE.2.1.1,?_⟩,by omega,by omega⟩
  ·have:=hE.1.2;omega
  have:=hE.2.1.2;omega
 have bW:∀i:Nat,i<PL.length→(PL.map (b8 (gi X1) (gi X2) kind)).take (i+1)=(PL.map (b8 (gi X1) (gi X2) kind)).take i++ [b8 (gi X1) (gi X2) kind (gp PL (i:Int))]:=fun i h=>by
  rw [AG (by rw [fN];exact h)]
  congr 2
  rw [bX (by rw [fN];exact h),List.getElem_map,tq h]
 have B7:=fun i=>TI N1 N2 B1 B2 PL i
 have oo:=fun i=>CP N1 N2 B1 B2 PL i
 have uC:=fun i (h:i≤PL.length)=>NL N1 N2 B1 B2 PL h
 have D1:=fun i e=>NN N1 N2 B1 B2 PL i e
 have qm:=fun i e=>NM N1 N2 B1 B2 PL i e
 have aS:St w w8 (EV none 0 0 ((PL.map (b8 (gi X1) (gi X2) kind)).take 0) a6 k none 0 Ap PL.length cp ds A6 A4 A3 v4 v3 [] (o9 N1 N2 B1 B2 PL 0)):=by
  have h9:=(bA.nil 32).nil 2;exact h9.perm (aex _ _ _ _ _ _ _)
 clear bA Qh KY QI RY dL Kc mn zC RE h3;refine ad O (aa.len O O (ay O ?_));refine Cd.loop (α:=Nat×(aiC×Nat)×(aiC×Nat)×List aG) (fun z=> [(3,.pointer A3),(4,.pointer A4),(6,.pointer A6),(10,.pointer a6),(11,.slice Ap PL.length cp),(139,.slice Ap PL.length cp),(140,aiD (PL.length:Int)),(141,aiD (z.1:Int))]) (fun z w'=>z.1≤PL.length∧z.2.2.2.length=z.1∧St w w' (EV z.2.1.1 z.1 z.2.1.2 ((PL.map (b8 (gi X1) (gi X2) kind)).take z.1) a6 k z.2.2.1.1 z.2.2.1.2 Ap PL.length cp ds A6 A4 A3 v4 v3 z.2.2.2 (o9 N1 N2 B1 B2 PL z.1))) (fun z=>PL.length - z.1) (0,(none,0),(none,0),[]) ⟨O,O,O,O,O,O,O,O,ae⟩ ⟨aW _,O,aS⟩ ?_;clear aS;rintro⟨i,⟨AR,cR⟩,⟨AD,cD⟩,cH⟩ e w9 ⟨hi,ju,hS⟩;dsimp only at hi ju hS⊢;refine bK O ?_;refine aB _ O (fun h3=>?_) (fun h3=>?_)
 ·have Ky:i<PL.length:=by omega
  have hI:=dq i Ky;have BS:=hS.ke 2 O;refine av O (kL BS O O O (by omega) (by omega) (oN BS O (by omega) O ?_));rw [Lh i Ky];refine jC hS O ?_;intro dt dB bD;refine ad O (bG 3 0 bD O O O O O O O ?_);intro eu du;obtain⟨ci,QE⟩:∃ci,gp PL (i:Int)=ci:=⟨_,rfl⟩;have Hk:=bW i Ky;have ZW:=uC i hi;have Z2:=D1 i;have Z4:=B7 i;rw [QE]at du Hk hI;have du:St w eu (Bx 153 3 dt [aiD ci.1,aiD ci.2,aiD (b8 (gi X1) (gi X2) kind ci)]::EV AR i cR ((PL.map (b8 (gi X1) (gi X2) kind)).take i) a6 k AD cD Ap PL.length cp ds A6 A4 A3 v4 v3 cH (o9 N1 N2 B1 B2 PL i)):=du;clear bD hS BS;refine ad O (aH (du.rd 2 O) O O O O inferInstance (aM (j:=1) (du.rd 2 O) (by exact ax Value.pointer O) O O O O (aH (du.rd 0 O) O O O O inferInstance (gK (j:=2) (du.rd 0 O) (by exact ax Value.pointer O) O O O O (dJ du O O O ?_)))));intro A9 gm eG;refine eK 2 eG O (eG.bc 0 O) O O O (by omega) (by omega) O ?_;intro AQ cQ dW fC;refine aH (fC.rd 3 O) O O O O inferInstance (jS 3 (j:=1) fC O O O O O ?_);intro me ic;have ic:=ic.tail;have ic:St w me (Bx 153 3 dt [aiD ci.1,aiD ci.2,aiD (b8 (gi X1) (gi X2) kind ci)]::ah 2 AQ (i+1) cQ ((PL.map (b8 (gi X1) (gi X2) kind)).take (i+1))::bj a6 k AQ (i+1) cQ AD i cD::dM 153 Ap PL.length cp ds::bj A6 0 none 0 0 none 0 0::ns A4 v4::ns A3 v3::(aE 32 2 AD i cD cH (o9 N1 N2 B1 B2 PL i)++ [])):=by rw [Hk];exact ic
  have hcapT:=ic.N5 3 O;clear fC eG du;refine ad O (VF (h:=(i:Int)) O O O (by omega) ?_);refine aa.len O O (ay O ?_);rw [ir];have gr:=ic.nil 2;refine Cd.loop (α:=Nat×aiC×Nat) (fun z=> [(3,.pointer A3),(4,.pointer A4),(6,.pointer A6),(10,.pointer a6),(11,.slice Ap PL.length cp),(139,.slice Ap PL.length cp),(140,aiD (PL.length:Int)),(141,aiD (i:Int)),(20,aiD (i:Int)),(21,.pointer dt),(22,.slice z.2.1 (lj N1 N2 B1 B2 PL i z.1).length z.2.2),(155,.slice Ap i cp),(156,aiD (i:Int)),(157,aiD (z.1:Int))]) (fun z w'=>z.1≤i∧St w w' (ah 2 z.2.1 (lj N1 N2 B1 B2 PL i z.1).length z.2.2 (lj N1 N2 B1 B2 PL i z.1)::Bx 153 3 dt [aiD ci.1,aiD ci.2,aiD (b8 (gi X1) (gi X2) kind ci)]::ah 2 AQ (i+1) cQ ((PL.map (b8 (gi X1) (gi X2) kind)).take (i+1))::bj a6 k AQ (i+1) cQ AD i cD::dM 153 Ap PL.length cp ds::bj A6 0 none 0 0 none 0 0::ns A4 v4::ns A3 v3::(aE 32 2 AD i cD cH (o9 N1 N2 B1 B2 PL i)++ []))) (fun z=>i - z.1) (0,none,0) ⟨O,O,O,O,O,O,O,O,O,O,O,O,O,O,ae⟩ ⟨aW _,gr⟩ ?_;clear gr ic;rintro⟨q,Ab,cb⟩ e mG ⟨hq,hS⟩;dsimp only at hq hS⊢;have Z3:=qm i q;refine bK O ?_;refine aB _ O (fun h4=>?_) (fun h4=>?_)
  ·have hqi:q<i:=by omega
   have hJ:=(dq q (by omega)).1;have BS:=(hS.ke 4 O).take (l:=i) (by omega);have uD:=Z2 q;have Lg:=Lh q (by omega);rw [←agj ds hqi (by omega)]at Lg;obtain⟨cq,hcq⟩:∃cq,gp PL (q:Int)=cq:=⟨_,rfl⟩;rw [hcq]at hJ Lg uD;rw [QE]at uD;refine av O (kL BS O O O (by omega) (by omega) (oN BS O (by omega) O ?_));rw [Lg];refine jC hS O ?_;intro UZ rP kP;refine ad O (bG 3 0 kP O O O O O O O ?_);intro mH fV;have fV:St w mH (Bx 153 3 UZ [aiD cq.1,aiD cq.2,aiD (b8 (gi X1) (gi X2) kind cq)]::ah 2 Ab (lj N1 N2 B1 B2 PL i q).length cb (lj N1 N2 B1 B2 PL i q)::Bx 153 3 dt [aiD ci.1,aiD ci.2,aiD (b8 (gi X1) (gi X2) kind ci)]::ah 2 AQ (i+1) cQ ((PL.map (b8 (gi X1) (gi X2) kind)).take (i+1))::bj a6 k AQ (i+1) cQ AD i cD::dM 153 Ap PL.length cp ds::bj A6 0 none 0 0 none 0 0::ns A4 v4::ns A3 v3::(aE 32 2 AD i cD cH (o9 N1 N2 B1 B2 PL i)++ [])):=fV;have mR:¬(dS N1 B1 cq.1 ci.1∧dS N2 B2 cq.2 ci.2)→lj N1 N2 B1 B2 PL i (q+1)=lj N1 N2 B1 B2 PL i q:=fun h=>by rw [uD,ag h]
   clear kP hS;refine ad O (aH (fV.rd 0 O) O O O O inferInstance (gK (j:=0) (fV.rd 0 O) (by exact ax Value.pointer O) O O O O (aH (fV.rd 2 O) O O O O inferInstance (gK (j:=0) (fV.rd 2 O) (by exact ax Value.pointer O) O O O O (aa.call (Sl A3 A8 c8 q1 Fm r1 FT C2 N1 FR X1 fw B1 cq.1 ci.1 _ (o0 8 fV O) (tu.later fV.below) hJ.1 hI.1.1) O O O ?_)))));rintro _ mH ⟨rfl,rfl⟩;refine ad O ?_;refine bY 167 O (fun h5=>?_) (fun h5=>?_)
   ·refine aa.g O O O (aH (fV.rd 0 O) O O O O inferInstance (aa.g O O O (gK (j:=1) (fV.rd 0 O) (by exact ax Value.pointer O) O O O O (aa.g O O O (aH (fV.rd 2 O) O O O O inferInstance (aa.g O O O (gK (j:=1) (fV.rd 2 O) (by exact ax Value.pointer O) O O O O (aa.g O O O (aa.call (Sl A4 B8 d8 q2 BR r2 dR BD N2 dD X2 xp B2 cq.2 ci.2 _ (sG 7 fV O) (od.later fV.below) hJ.2 hI.1.2) O O O ?_)))))))));rintro _ mH ⟨rfl,rfl⟩;refine ay O ?_;refine aB _ O (fun h6=>?_) (fun h6=>?_)
    ·rw [aj ⟨h5,h6⟩]at uD;refine av O (dJ fV O O O ?_);intro A9 tZ ko;refine eK 2 ko O (ko.bc 0 O) O O O (by omega) (by omega) O ?_;intro AZ cZ vL oU;have oU:=oU.tail.tail;refine ad O (aa.add O O O (by omega) (aF O (tQ ?_)));refine⟨(q+1,AZ,cZ),by show i - (q+1)<i - q;omega,⟨O,O,O,O,O,O,O,O,O,O,?_,O,O,O,ae⟩,by show q+1≤i;omega,?_⟩
     ·show Value.slice _ _ _=Value.slice _ _ _;rw [uD,dm];rfl
     show St w vL (ah _ AZ (lj N1 N2 B1 B2 PL i (q+1)).length cZ _::_);rw [uD,dm];exact oU
    have e6:=mR (fun h=>h6 h.2);refine av O (aa.add O O O (by omega) (aF O (tQ ?_)));refine⟨(q+1,Ab,cb),by show i - (q+1)<i - q;omega,⟨O,O,O,O,O,O,O,O,O,O,?_,O,O,O,ae⟩,by show q+1≤i;omega,?_⟩
    ·show Value.slice _ _ _=Value.slice _ _ _;rw [e6]
    show St w mH (ah _ Ab (lj N1 N2 B1 B2 PL i (q+1)).length cb _::_);rw [e6];exact fV.tail
   have e6:=mR (fun h=>h5 h.1);refine ai O O O O O (ai O O O O O (ai O O O O O (ai O O O O O (ai O O O O O (ay O ?_)))));refine Cd.eV O ?_;refine av O (aa.add O O O (by omega) (aF O (tQ ?_)));refine⟨(q+1,Ab,cb),by show i - (q+1)<i - q;omega,⟨O,O,O,O,O,O,O,O,O,O,?_,O,O,O,ae⟩,by show q+1≤i;omega,?_⟩
   ·show Value.slice _ _ _=Value.slice _ _ _;rw [e6]
   show St w mH (ah _ Ab (lj N1 N2 B1 B2 PL i (q+1)).length cb _::_);rw [e6];exact fV.tail
  obtain rfl:q=i:=by omega
  rw [ZW]at hS⊢;refine aY O (aZ (cL O ?_));refine aH (hS.rd 3 O) O O O O inferInstance (aM (j:=2) (hS.rd 3 O) (by exact ax Value.pointer O) O O O O (ad O (nj hS O O O ?_)));intro A9 rP kP;refine oM 9 kP O (kP.il 0 O) O O O (by omega) (by omega) O ?_;intro AZ cZ mH fV;refine aH (fV.rd 4 O) O O O O inferInstance (jS 4 (j:=2) fV O O O O O ?_);intro tZ ko;have ko:=ko.tail;have ko:=(ko.perm (aew _ _ _ _ _ _ _ _ _ _)).tail;refine ad O (aa.add O O O (by omega) (aF O (tQ ?_)));refine⟨(q+1,(AQ,cQ),(AZ,cZ),cH++ [⟨Ab,(rJ (dS N1 B1) (dS N2 B2) PL (q:Int)).length,cb⟩]),by show PL.length - (q+1)<PL.length - q;omega,⟨O,O,O,O,O,O,O,O,ae⟩,by show q+1≤PL.length;omega,by show(cH++ [_]).length=q+1;rw [dm,ju];rfl,?_⟩;show St w tZ (EV AQ (q+1) cQ _ a6 k AZ cZ Ap PL.length cp ds A6 A4 A3 v4 v3 (cH++ [_]) (o9 N1 N2 B1 B2 PL (q+1)));rw [Z4];unfold EV aE;rw [uY (by rw [ju,CP])];exact ko
 obtain rfl:i=PL.length:=by omega
 refine aY O (aZ (cL O ?_));refine aa.bq 2 (hS.rd 1 O) O O O (bG 3 3 hS O O O O O O O ?_);intro dB bD;refine bh O (kA O (bD.rd 3 O) O ?_);have jK:(PL.map (b8 (gi X1) (gi X2) kind)).length=PL.length:=fN _;refine .inr ⟨⟨KE,by omega⟩,AR,cR,AD,cD,cH,by rw [jK];rfl,by omega,by rw [jK];exact CP N1 N2 B1 B2 PL PL.length,?_⟩;rw [jK];have h9:=bD.sub (show List.Sublist (ah 2 AR PL.length cR ((PL.map (b8 (gi X1) (gi X2) kind)).take PL.length)::(aE 32 2 AD PL.length cD cH (o9 N1 N2 B1 B2 PL PL.length)++ [])) _ from(((((fJ _).cons _).cons _).cons _).cons _).cons _ |>.cons_cons _);rw [lS (by omega)]at h9;exact h9
def xC(n:Int)(R:List Int)(B:aiB)(K:Int)(w:World)(v:Value)(w':World):Prop:=
 ∃AR c AD d rs,v= .tuple #[.agg #[aiD n,.slice AR R.length c,.slice AD B.length d],aiD K]∧rs.length=B.length∧St w w' (ah 2 AR R.length c R::(aE 32 2 AD B.length d rs B++ []))
theorem xC.zero{w w':World}(h:St w w' [])(K:Int):xC 0 [] [] K w (.tuple #[.agg #[aiD 0,.slice none 0 0,.slice none 0 0],aiD K]) w':=
 ⟨none,0,none,0,[],rfl,rfl,(h.nil _).nil _⟩
noncomputable def lA(M K:aiB)(kind:Int):Int:=if bL M∧bL K then(if 0≤kind∧kind≤2 then(if iz M=0 then iz K else iz M)else 2)else 1
abbrev pZ(M:aiB):Int→Int:=gi (fo M.length (aO M M.length))
noncomputable abbrev AK(M:aiB):Int→Int→Prop:=dS (aD M M.length) (bn M)
def cn(M K:aiB)(kind:Int):Nat:=(gv M.length K.length kind).toNat
noncomputable def CK(M K:aiB)(kind:Int):List (Int×Int):=bT (aD M M.length+2) (aD K K.length+2) (pZ M) (pZ K) kind (cn M K kind)
noncomputable def dV(M K:aiB)(kind:Int):List Int:=(CK M K kind).map (b8 (pZ M) (pZ K) kind)
noncomputable def mW(M K:aiB)(kind:Int):aiB:=nI (AK M) (AK K) (CK M K kind)
noncomputable def iE(M K:aiB)(kind:Int):Int:=if lA M K kind=0 then(if 5<cn M K kind∨500< (dV M K kind).length then 3 else 0)else lA M K kind
noncomputable def oz(M K:aiB)(kind:Int):Int:=if iE M K kind=0 then cn M K kind else 0
noncomputable def kz(M K:aiB)(kind:Int):List Int:=if iE M K kind=0 then dV M K kind else []
noncomputable def jx(M K:aiB)(kind:Int):aiB:=if iE M K kind=0 then mW M K kind else []
theorem Mh{M K:aiB}{kind:Int}{w w':World}{c:Int}(h:iE M K kind=c)(hc:c≠0)(hS:St w w' []):xC (oz M K kind) (kz M K kind) (jx M K kind) (iE M K kind) w (.tuple #[.agg #[aiD 0,.slice none 0 0,.slice none 0 0],aiD c]) w':=by
 unfold oz kz jx;rw [h,ag hc,ag hc,ag hc];exact xC.zero hS c
theorem yN{M K:aiB}{kind:Int}(h:lA M K kind=0):(0≤kind∧kind≤2)∧iz M=0∧iz K=0:=by
 unfold lA at h
 split at h
 ·split at h
  ·split at h
   ·exact⟨by assumption,by assumption,h⟩
   contradiction
  contradiction
 contradiction
theorem rC{M:aiB}(hM:bL M)(h:aD M M.length≤500):fk (aD M M.length+2) M.length (pZ M) (AK M):=by
 have:=EP (mE hM h)
 rwa [iR]at this
theorem EW{M K:aiB}{kind:Int}(hM:bL M)(hK:bL K):((cn M K kind:Nat):Int)=gv M.length K.length kind:=by
 have:=hM.1;have:=hK.1;unfold cn gv
 split<;>omega
set_option maxHeartbeats 1000000 in
theorem TQ(A D:aiC)(n c m d:Nat)(rs ts:List aG)(M K:aiB)(kind:Int)(w:World)(hT:mL w)(hM:br w A n rs M)(hK:br w D m ts K)(hn:n≤c)(hc:c≤9223372036854775807)(hm:m≤d)(hd:d≤9223372036854775807):
 aA prog 121 [.agg #[.slice A n c],.agg #[.slice D m d],aiD kind] w (fun v w'=>v=aiD (lA M K kind)∧St w w' []):=by
 refine bk func121 O ntmps121 O (cK O) (aQ O (iI (St.refl w) O O ?_));intro A3 w1 ao;refine iI ao O O ?_;intro A4 w2 ar;refine ad O (aa.bq 0 (ar.rd 1 O) O O O (aa.call (EM A n c rs M _ (ar.bF hM) hn hc) O O O ?_));rintro _ w3 ⟨rfl,ak⟩;have az:=ar.later ak.below;clear ak ar ao
 first | refine eC rfl rfl ?_ | refine aa.not rfl rfl ?_
 refine ad O ?_;refine bY 13 O (fun h1=>?_) (fun h1=>?_)
 ·refine ai O O O O O (ai O O O O O (ai O O O O O (ay O ?_)));refine Cd.gj O (dN O (gP O ?_));unfold lA;rw [ag (fun h=>h1 h.1)];exact⟨O,az.none⟩
 have h1:bL M:=iP.1 h1;refine aa.g O O O (aa.bq 0 (az.rd 0 O) O O O (aa.g O O O (aa.call (EM D m d ts K _ (az.bF hK) hm hd) O O O ?_)));rintro _ w4 ⟨rfl,ak⟩;have aJ:=az.later ak.below;clear ak az;refine aa.g O O O ?_
 first | refine eC rfl rfl ?_ | refine aa.not rfl rfl ?_
 refine ay O ?_;refine aB _ O (fun h2=>?_) (fun h2=>?_)
 ·refine dN O (gP O ?_);unfold lA;rw [ag (fun h=>h2 h.2)];exact⟨O,aJ.none⟩
 have h2:bL K:=iP.1 h2;refine av O (aa.call (xv _ _ _ _) O O O ?_);rintro _ w4 ⟨rfl,rfl⟩
 first | refine eC rfl rfl ?_ | refine aa.not rfl rfl ?_
 refine ay O ?_;refine aB _ O (fun h3=>?_) (fun h3=>?_)
 ·refine dN O (gP O ?_);unfold lA;rw [aj ⟨h1,h2⟩,ag h3];exact⟨O,aJ.none⟩
 have h3:0≤kind∧kind≤2:=iP.1 h3;refine av O (aa.bq 0 (aJ.rd 1 O) O O O (aa.call (Dt A n c rs M _ (hT.later aJ.below) (aJ.bF hM) hn hc) O O O ?_));rintro _ w5 (⟨hg,rfl,ak⟩ | ⟨hg,A8,c8,AR,cR,AD,cD,cH,rfl,ju,ak⟩)
 ·have aK:=aJ.later ak.below;refine ad O (Bc aK O ?_);intro A7 w6 aR;refine bG 4 0 aR O O O O O O O ?_;intro w7 aV;refine ay O ?_;refine qM O (fun h=>hg h) ?_;refine dN O (gP O ?_);unfold lA;rw [aj ⟨h1,h2⟩,aj h3,ag hg];exact⟨O,aV.none⟩
 have aK:=aJ.later ak.below;refine ad O (Bc aK O ?_);intro A7 w6 aR;refine bG 4 0 aR O O O O O O O ?_;intro w7 aV;refine ay O (Cd.gj O (av O (aa.bq 0 (aV.rd 1 O) O O O (aa.call (Dt D m d ts K _ (hT.later aV.below) (aV.bF hK) hm hd) O O O ?_))));rintro _ w8 hA;have hp:lA M K kind=iz K:=by
  unfold lA;rw [aj ⟨h1,h2⟩,aj h3,aj hg]
 rw [hp];rcases hA with⟨GZ,rfl,lu⟩ | ⟨GZ,B8,e8,BR,eR,BD,eD,Ud,rfl,yu,lu⟩
 ·refine bh O (gP O ?_);exact⟨O,(aV.later lu.below).none⟩
 rw [GZ];refine bh O (gP O ?_);exact⟨O,(aV.later lu.below).none⟩
theorem OK{M:aiB}{w w':World}{A8:aiC}{c8:Nat}{AR:aiC}{cR:Nat}{AD:aiC}{cD:Nat}{rs:List aG}{ks:List Ck}(hM:bL M)(hb:aD M M.length≤500)(h:St w w' (ah 2 A8 (aD M M.length+2) c8 (fo M.length (aO M M.length))::ah 2 AR (aD M M.length) cR (aO M M.length)::(aE 32 2 AD (aD M M.length) cD rs (bn M)++ks))):
 y7 w' A8 (fo M.length (aO M M.length)) (aD M M.length) AD rs (bn M):=by
 have hP:=mE hM hb;have hl:=iR M M.length;refine⟨by rw [OJ,hl],hb,h.bc 0 O,?_,tm M,fun e h0 h1=>?_⟩
 ·exact(h.sub (show(aE 32 2 AD (aD M M.length) cD rs (bn M)).Sublist _ from((rX _ _).cons _).cons _)).rN (tm M)
 have h2:=hP.at_ (e:=e) h0 (by rw [hl];exact h1);refine⟨h2.1,?_⟩;have:=rF (N:=(aO M M.length).length) h2.1.nodup fun x hx=>by have:=(h2.2.1 x hx).1;omega
 omega
set_option maxHeartbeats 1000000 in
theorem TR(A D:aiC)(n c m d:Nat)(rs ts:List aG)(M K:aiB)(kind:Int)(w:World)(hT:mL w)(hM:br w A n rs M)(hK:br w D m ts K)(hn:n≤c)(hc:c≤9223372036854775807)(hm:m≤d)(hd:d≤9223372036854775807):
 aA prog 106 [.agg #[.slice A n c],.agg #[.slice D m d],aiD kind] w (xC (oz M K kind) (kz M K kind) (jx M K kind) (iE M K kind) w):=by
 refine bk func106 O ntmps106 O (tW O O) (aQ O (iI (St.refl w) O O ?_));intro A3 w1 ao;refine iI ao O O ?_;intro A4 w2 ar;refine jC ar O ?_;intro A6 w3 az;refine ad O (aa.bq 0 (az.rd 2 O) O O O (aa.bq 0 (az.rd 1 O) O O O (ad O (aa.call (TQ A D n c m d rs ts M K kind _ (hT.later az.below) (az.bF hM) (az.bF hK) hn hc hm hd) O O O ?_))));rintro _ w4 ⟨rfl,ak⟩;have aJ:=az.later ak.below;clear ak az ar ao;refine ay O ?_;refine aB _ O (fun h1=>?_) (fun h1=>?_)
 ·refine av O (vS (by exact inferInstance) (by exact inferInstance) (by exact inferInstance) O (ad O (bG 3 0 aJ O O O O O O O ?_)));intro w5 aK;refine bh O (kA O (aK.rd 0 O) O ?_);exact Mh (by unfold iE;rw [if_neg h1]) h1 aK.none
 have h1:lA M K kind=0:=iP.1 h1;obtain⟨mo,ow,ov⟩:=yN h1;obtain⟨fU,ib⟩:=jW ow;obtain⟨jI,mO⟩:=jW ov;refine av O (aa.bq 0 (aJ.rd 2 O) O O O (aa.call (Dt A n c rs M _ (hT.later aJ.below) (aJ.bF hM) hn hc) O O O ?_));rintro _ w5 (⟨hg,_⟩ | ⟨_,A8,c8,AR,cR,AD,cD,cH,rfl,ju,ak⟩)
 ·exact absurd ow hg
 have iL:=OK fU ib.1 ak;have aK:=aJ.later ak.below;clear ak aJ;refine ad O (Bc (St.refl w5) O ?_);intro A9 w6 kQ;refine bG 4 0 kQ O O O O O O O ?_;intro w7 dF;have kq:=Rd.below (aK.rd 1 O) dF.below;have ZL:=(hT.later aK.below).later dF.below;have sl:=(aK.bF hK).later dF.below;have iL:=iL.later dF.below;have aV:=aK.later dF.below;refine ad O (aa.bq 0 kq O O O (aa.call (Dt D m d ts K _ ZL sl hm hd) O O O ?_));rintro _ w8 (⟨hg,_⟩ | ⟨_,B8,e8,BR,eR,BD,eD,Ud,rfl,yu,lu⟩)
 ·exact absurd ov hg
 have nB:=OK jI mO.1 lu;have iL:=iL.later lu.below;have bA:=aV.later lu.below;have h9:=Rd.below (dF.rd 0 O) lu.below;refine ad O (Bc (St.refl w8) O ?_);intro df w9 ZM;refine bG 4 0 ZM O O O O O O O ?_;intro dB DY;have iL:=iL.later DY.below;have nB:=nB.later DY.below;have bD:=bA.later DY.below;have h9:=Rd.below h9 DY.below;refine ad O (aa.bq 3 h9 O O O (aa.bq 3 (DY.rd 0 O) O O O (ad O ?_)));have h5:=fU.1;have h6:=jI.1;refine aa.call (afb A8 B8 c8 e8 M.length K.length AR BR (aD M M.length) (aD K K.length) cR eR AD BD (aD M M.length) (aD K K.length) cD eD _ _ cH Ud (bn M) (bn K) M.length K.length kind (cn M K kind) _ iL nB (rC fU ib.1) (rC jI mO.1) mo (EW fU jI) (by omega) (by omega)) O O O ?_;rintro _ eu (⟨B6,rfl,yx⟩ | ⟨de,AQ,cQ,AE,cE,rsP,rfl,hrP,oo,yx⟩)
 ·have du:=bD.later yx.below;refine ad O (bG 3 0 du O O O O O O O ?_);intro gm eG;refine bh O (kA O (eG.rd 0 O) O ?_);refine Mh ?_ (by decide) eG.none;unfold iE;rw [aj h1];exact aj B6
 have du:=(bD.call yx).perm lh;refine ad O (bG 3 0 du O O O O O O O ?_);intro gm eG;refine bh O (kA O (eG.rd 0 O) O ?_);have Cn:iE M K kind=0:=by
  unfold iE;rw [aj h1,ag];intro h;have h7:(dV M K kind).length≤500:=de.2;omega
 have e9:(mW M K kind).length=(dV M K kind).length:=oo;unfold oz kz jx;rw [Cn,aj rfl,aj rfl,aj rfl];refine⟨AQ,cQ,AE,cE,rsP,by rw [e9];rfl,by rw [e9];exact hrP,?_⟩;rw [e9];exact eG.sub (show List.Sublist _ (_::_::_::_) from((fJ _).cons _ |>.cons _ |>.cons _))
theorem abT(A D:aiC)(n c m d:Nat)(rs ts:List aG)(M K:aiB)(kind:Int)(w:World)(hT:mL w)(hM:br w A n rs M)(hK:br w D m ts K)(hn:n≤c)(hc:c≤9223372036854775807)(hm:m≤d)(hd:d≤9223372036854775807):
 aA prog 45 [.agg #[.slice A n c],.agg #[.slice D m d],aiD kind] w (xC (oz M K kind) (kz M K kind) (jx M K kind) (iE M K kind) w):=by
 refine bk func45 O ntmps45 O (tW O O) (aQ O (iI (St.refl w) O O ?_));intro A3 w1 ao;refine iI ao O O ?_;intro A4 w2 ar;refine jC ar O ?_;intro A6 w3 az;refine ad O (aa.bq 0 (az.rd 2 O) O O O (aa.bq 0 (az.rd 1 O) O O O (ad O (aa.call (TR A D n c m d rs ts M K kind _ (hT.later az.below) (az.bF hM) (az.bF hK) hn hc hm hd) O O O ?_))));rintro _ w4 ⟨AR,cR,AD,cD,cH,rfl,ju,ak⟩;have aJ:=(az.call ak).perm lh;refine ad O (bG 3 0 aJ O O O O O O O ?_);intro w5 aK;refine bh O (kA O (aK.rd 0 O) O ?_);exact⟨AR,cR,AD,cD,cH,O,ju,aK.sub (show List.Sublist _ (_::_::_::_) from((fJ _).cons _ |>.cons _ |>.cons _))⟩
theorem SI(A:aiC)(n c:Nat)(rs:List aG)(M:aiB)(w:World)(hR:br w A n rs M)(KP:n≤9223372036854775807)(hM:bL M):
 aA prog 111 [.agg #[.slice A n c]] w (fun v w'=>v=aiD (iz M)∧St w w' []):=by
 refine bk func111 O ntmps111 O (cK O) (aQ O (iI (St.refl w) O O ?_));intro A1 w1 ao;refine ad O (aa.bq 0 (ao.rd 0 O) O O O (aa.call (acW A n c rs M _ (ao.bF hR) KP hM) O O O ?_));rintro _ w2 ⟨b,rfl,hb,ak⟩;have ar:=ao.later ak.below;rw [Dl b];refine ad O ?_;refine bY 12 O (fun h1=>?_) (fun h1=>?_)
 ·refine aa.g O O O (ad O (aa.g O O O ?_))
  first | refine eC rfl rfl ?_ | refine aa.not rfl rfl ?_
  refine ay O ?_;refine aB _ O (fun h2=>?_) (fun h2=>?_)
  ·refine dN O (gP O ?_);exact⟨by rw [Jh hM h1 (fun h=>h2 (hb.2 h))],ar.none⟩
  refine dN O (gP O ?_);exact⟨by rw [Gj hM (hb.1 (iP.1 h2)),h1],ar.none⟩
 refine ai O O O O O (ai O O O O O (ay O ?_));refine Cd.eV O (dN O (gP O ?_));exact⟨by rw [Ji hM h1,TT h1],ar.none⟩
theorem ac0(A D:aiC)(n c m d:Nat)(rs ts:List aG)(M K:aiB)(kind:Int)(w:World)(hM:br w A n rs M)(hK:br w D m ts K)(hn:n≤9223372036854775807)(hm:m≤9223372036854775807):
 aA prog 102 [.agg #[.slice A n c],.agg #[.slice D m d],aiD kind] w (fun v w'=>v=aiD (lA M K kind)∧St w w' []):=by
 refine bk func102 O ntmps102 O (cK O) (aQ O (iI (St.refl w) O O ?_));intro A3 w1 ao;refine iI ao O O ?_;intro A4 w2 ar;refine ad O (aa.bq 0 (ar.rd 1 O) O O O (aa.call (LF A n c rs M _ (ar.bF hM) hn) O O O ?_));rintro _ w3 ⟨rfl,ak⟩;have az:=ar.later ak.below;clear ak ar ao
 first | refine eC rfl rfl ?_ | refine aa.not rfl rfl ?_
 refine ad O ?_;refine bY 11 O (fun h1=>?_) (fun h1=>?_)
 ·refine ai O O O O O (ai O O O O O (ai O O O O O (ay O ?_)));refine Cd.gj O (dN O (gP O ?_));unfold lA;rw [ag (fun h=>h1 h.1)];exact⟨O,az.none⟩
 have h1:bL M:=iP.1 h1;refine aa.g O O O (aa.bq 0 (az.rd 0 O) O O O (aa.g O O O (aa.call (LF D m d ts K _ (az.bF hK) hm) O O O ?_)));rintro _ w4 ⟨rfl,ak⟩;have aJ:=az.later ak.below;clear ak az;refine aa.g O O O ?_
 first | refine eC rfl rfl ?_ | refine aa.not rfl rfl ?_
 refine ay O ?_;refine aB _ O (fun h2=>?_) (fun h2=>?_)
 ·refine dN O (gP O ?_);unfold lA;rw [ag (fun h=>h2 h.2)];exact⟨O,aJ.none⟩
 have h2:bL K:=iP.1 h2;refine av O (aa.call (Sz _ _ _ _) O O O ?_);rintro _ w4 ⟨rfl,rfl⟩
 first | refine eC rfl rfl ?_ | refine aa.not rfl rfl ?_
 refine ay O ?_;refine aB _ O (fun h3=>?_) (fun h3=>?_)
 ·refine dN O (gP O ?_);unfold lA;rw [aj ⟨h1,h2⟩,ag h3];exact⟨O,aJ.none⟩
 have h3:0≤kind∧kind≤2:=iP.1 h3;refine av O (aa.bq 0 (aJ.rd 1 O) O O O (aa.call (SI A n c rs M _ (aJ.bF hM) hn h1) O O O ?_));rintro _ w5 ⟨rfl,ak⟩;have aK:=aJ.later ak.below;refine ay O ?_;refine aB _ O (fun h4=>?_) (fun h4=>?_)
 ·refine av O (aa.bq 0 (aK.rd 0 O) O O O (aa.call (SI D m d ts K _ (aK.bF hK) hm h2) O O O ?_));rintro _ w6 ⟨rfl,pU⟩;refine bh O (gP O ?_);unfold lA;rw [aj ⟨h1,h2⟩,aj h3,aj h4];exact⟨O,(aK.later pU.below).none⟩
 refine dN O (gP O ?_);unfold lA;rw [aj ⟨h1,h2⟩,aj h3,ag h4];exact⟨O,aK.none⟩
theorem LI(q:Int)(A8:aiC)(m8 c8:Nat)(Ab:aiC)(m cb:Nat)(rsb:List aG)(BB:aiB)(a b:Int)(w:World)(hB:br w Ab m rsb BB)(hl:BB.length=m)(hb:0≤b∧b< (m:Int))(hn:(gl BB b).length≤1000000):
 aA prog 167 [.agg #[aiD q,.slice A8 m8 c8,.slice Ab m cb],aiD a,aiD b] w (fun v w'=>v= .bool (decide (a=b∨a∈gl BB b))∧St w w' []):=by
 refine bk func167 O ntmps167 O (cK O) (aQ O (kK (St.refl w) O O ?_));intro A3 w1 ao;have h1:=ao.rd 0 O;have hB:=ao.bF hB;have fZ:=hB.at_ (i:=b) (by omega) (by omega);have iD:=fZ.1;refine ad O ?_;refine bY 10 O (fun h2=>?_) (fun h2=>?_)
 ·refine ai O O O O O (ai O O O O O (ai O O O O O (ai O O O O O (ai O O O O O (ai O O O O O (ai O O O O O (bh O ?_)))))));refine cM O ?_;exact⟨ax Value.bool (dX (.inl h2)).symm,ao.none⟩
 refine aa.g O O O (aH h1 O O O O inferInstance (aa.g O O O (aM (j:=2) h1 (by exact ax Value.pointer O) O O O O ?_)));refine aa.g O O O (ad O (aa.g O O O ?_));refine aw hB.top.2 O O O (by omega) (by omega) (aa.g O O O (bQ hB.top O (by omega) O O ?_));refine aa.g O O O (ad O (aa.g O O O ?_));refine aa.call (zV _ _ _ (gl BB b) a _ fZ (by omega)) O O O ?_;rintro _ w2 ⟨rfl,rfl⟩;refine bh O (cM O ?_);exact⟨ax Value.bool (jo.2 ⟨fun h=> .inr h,fun h=>h.resolve_left h2⟩),ao.none⟩
def nT(B:aiB)(i:Nat):aiB:=[]::((bw i).map fun e=>0::(gl B e).map (· +1))
def kM(N:Nat)(B:aiB):aiB:=nT B N++ [bw (N+1)]
theorem Bj(B:aiB)(i:Nat):(nT B i).length=i+1:=by simp [nT,bw]
theorem Bi(N:Nat)(B:aiB):(kM N B).length=N+2:=by simp [kM,Bj]
theorem V2(B:aiB)(i:Nat):nT B (i+1)=nT B i++ [0::(gl B (i:Int)).map (· +1)]:=by
 unfold nT;rw [uX,iQ,List.cons_append];rfl
theorem Nw(N:Nat)(B:aiB):gl (kM N B) 0=[]:=by simp [kM,nT,gl]
theorem Ny(N:Nat)(B:aiB){b:Int}(h0:0<b)(h1:b< (N:Int)+1):gl (kM N B) b=0::(gl B (b - 1)).map (· +1):=by
 obtain⟨k,rfl⟩:∃k:Nat,b=((k+1:Nat):Int):=⟨(b - 1).toNat,by omega⟩;rw [db (by rw [Bi];omega)];unfold kM;rw [List.getElem_append_left (by rw [Bj];omega)];have e1:((k+1:Nat):Int) - 1=(k:Int):=by omega
 rw [e1];simp [nT,bw]
theorem Nz(N:Nat)(B:aiB):gl (kM N B) ((N:Int)+1)=bw (N+1):=by
 have e1:((N:Int)+1)=((N+1:Nat):Int):=by omega
 rw [e1,db (by rw [Bi];omega)];unfold kM;rw [List.getElem_append_right (by rw [Bj];omega)];simp [Bj]
theorem NA{N:Nat}{B:aiB}{a b:Int}(ha:0≤a∧a< (N:Int)+2)(hb:0≤b∧b< (N:Int)+2)(hB:∀e:Int,0≤e→e<N→∀d∈gl B e,0≤d∧d< (N:Int)):(a=b∨a∈gl (kM N B) b)↔dS N B a b:=by
 unfold dS
 by_cases c0:b=0
 ·subst c0;rw [Nw];constructor
  ·rintro(h | h)
   ·exact .inl h
   cases h
  rintro(h | h | h | h)
  ·exact .inl h
  ·exact .inl h
  ·omega
  omega
 by_cases c1:b=(N:Int)+1
 ·subst c1;rw [Nz,im];constructor
  ·intro _;exact .inr (.inr (.inl rfl))
  intro _
  by_cases e:a=(N:Int)+1
  ·exact .inl e
  exact .inr (by omega)
 rw [Ny N B (by omega) (by omega),iW,dh];constructor
 ·rintro(h | h | ⟨d,h,e⟩)
  ·exact .inl h
  ·exact .inr (.inl h)
  have:=hB (b - 1) (by omega) (by omega) d h;exact .inr (.inr (.inr ⟨by omega,by omega,by omega,by omega,by rw [←e,Int.add_sub_cancel];exact h⟩))
 rintro(h | h | h | h)
 ·exact .inl h
 ·exact .inr (.inl h)
 ·exact absurd h c1
 exact .inr (.inr ⟨a - 1,h.2.2.2.2,by omega⟩)
theorem Nx{N:Nat}{B:aiB}(hl:∀e:Int,0≤e→e<N→(gl B e).length≤500)(hN:N≤500){b:Int}(hb:0≤b∧b< (N:Int)+2):(gl (kM N B) b).length≤501:=by
 by_cases c0:b=0
 ·subst c0;rw [Nw];exact aW _
 by_cases c1:b=(N:Int)+1
 ·subst c1;rw [Nz,bw,fN,pe];omega
 rw [Ny N B (by omega) (by omega),List.length_cons,fN];have:=hl (b - 1) (by omega) (by omega);omega
theorem acG(n:Nat)(w:World)(hn:n≤1000000):
 aA prog 168 [aiD (n:Int)] w (fun v w'=>∃A c,v= .slice A n c∧St w w' [ah 2 A n c (bw n)]):=by
 refine bk func168 O ntmps168 O (cK O) (aQ O (jl (St.refl w) O ?_));intro A1 w1 ao;refine ay O ?_;refine Cd.loop (α:=Nat×aiC×Nat) (fun s=> [(0,aiD (n:Int)),(3,.slice s.2.1 s.1 s.2.2),(4,aiD (s.1:Int))]) (fun s w'=>s.1≤n∧St w w' [ah 2 s.2.1 s.1 s.2.2 (bw s.1)]) (fun s=>n - s.1) (0,A1,0) ⟨O,O,O,ae⟩ ⟨aW _,ao⟩ ?_;clear ao;rintro⟨i,A2,c2⟩ e w2 ⟨hi,ar⟩;dsimp only at ar hi⊢;refine bK O ?_;refine aB _ O (fun h1=>?_) (fun h1=>?_)
 ·refine av O (dJ ar O O O ?_);intro A3 w3 az;refine eK 1 az O (az.bc 0 O) O O O (by omega) (by omega) O ?_;intro A4 c4 w4 aJ;have aJ:=aJ.tail;refine ad O (aa.add O O O (by omega) (aF O (tQ ?_)));exact⟨(i+1,A4,c4),by show n - (i+1)<n - i;omega,⟨O,O,O,ae⟩,by show i+1≤n;omega,by show St w w4 [ah _ A4 (i+1) c4 (bw (i+1))];rw [uX];exact aJ⟩
 have dq:i=n:=by omega
 subst dq;refine aY O (aZ (gE O ?_));refine gB O ?_;exact⟨A2,c2,O,ar⟩
abbrev qW(A:aiC)(n:Int)(X:aiC)(m cx:Nat)(Y:aiC)(k cy:Nat):Ck:=Bx 93 3 A [aiD n,.slice X m cx,.slice Y k cy]
section
variable {P:Program} {N:Nat} {ops:Array Oper} {K:Env→World→Prop} {rest:List Oper} {e:Env} {w0 w w':World} {ks:List Ck} {d:Nat} {ty:TypeId} {pos:String} {af:Array Edge}
theorem Nf{t:TypeId}{f0 f1 f2:Field}{z0 z1 z2 y0 y1 y2:Value}{b b0 b1 b2:Nat}[bB P t (.struct #[f0,f1,f2])][bp P t (.agg #[z0,z1,z2]) 3 b]{x0 x1 x2:Operand}{v0 v1 v2:Value}(sj:bp P f0.type y0 1 b0)(sk:bp P f1.type y1 1 b1)(uy:bp P f2.type y2 1 b2)(ho:f0.offset=0)(tJ:f1.offset=1)(zN:f2.offset=2)(h0:ev e x0=v0)(h1:ev e x1=v1)(h2:ev e x2=v2)(c0:v0.oneCell'=true)(c1:v1.oneCell'=true)(c2:v2.oneCell'=true)(hb:Nat.blt d N=true)(hK:aa P N ops K rest (a7 e d (.agg #[v0,v1,v2])) w):aa P N ops K (⟨some d,.build t #[(0,x0),(1,x1),(2,x2)],ty,pos,af,none⟩::rest) e w:=by
 obtain⟨inf,hi,fv,hs,iS⟩:=bp.get P t;obtain⟨Cw,eP,_,pA,_⟩:=sj.get P f0.type;obtain⟨Cx,jt,_,sJ,_⟩:=sk.get P f1.type;obtain⟨EJ,rm,_,ox,_⟩:=uy.get P f2.type;have e0:v0.cells= #[v0]:=by cases v0<;>simp [Value.oneCell']at c0<;>rfl
 have e1:v1.cells= #[v1]:=by cases v1<;>simp [Value.oneCell']at c1<;>rfl
 have e2:v2.cells= #[v2]:=by cases v2<;>simp [Value.oneCell']at c2<;>rfl
 have ez:(Value.agg #[z0,z1,z2]).cells= #[z0,z1,z2]:=O;refine .val (w':=w) ?_ hb hK;simp [execOp,Instr.build,run_underlying (bB.out (P:=P) (t:=t)),sizeOf,typeInfo,zeroValue,hi,fv,eP,pA,jt,sJ,rm,ox,ho,tJ,zN,h0,h1,h2,e0,e1,e2,ez,Instr.fill]
end
theorem aeB{α:Type}(a b c d:α):[a,b,c,d].Perm [a,d,b,c]:=by
 classical
 refine lR.2 fun z=>?_
 simp only [lE,nQ];omega
theorem Tw{α:Type}(s a b m:α)(X:List α):(s::a::b::m::(X++ [])).Perm (a::b::m::((X++ [s])++ [])):=by
 classical
 refine lR.2 fun z=>?_
 simp only [nP,lE,nQ];omega
set_option maxHeartbeats 4000000 in
theorem LH(A:aiC)(n c:Nat)(rs:List aG)(M:aiB)(w:World)(hR:br w A n rs M)(hM:bL M)(qn:aD M M.length≤500):
 aA prog 104 [.agg #[.slice A n c]] w (fun v w'=>∃X cx Y cy ys,v= .agg #[aiD (M.length:Int),.slice X (aD M M.length+2) cx,.slice Y (aD M M.length+2) cy]∧ys.length=aD M M.length+2∧St w w' (ah 2 X (aD M M.length+2) cx (fo M.length (aO M M.length))::(aE 32 2 Y (aD M M.length+2) cy ys (kM (aD M M.length) (bn M))++ []))):=by
 have h5:=hM.1;have hP:=mE hM qn;have tw:=iR M M.length;have ob:=tm M;have bW:∀e:Int,0≤e→e< ((aO M M.length).length:Int)→(gl (bn M) e).length≤500∧∀d∈gl (bn M) e,0≤d∧d< ((aO M M.length).length:Int):=fun e h0 h=>by
  have h2:=hP.at_ (e:=e) h0 h;refine⟨?_,fun d hd=>by have:=(h2.2.1 d hd).1;omega⟩;have:=rF (N:=(aO M M.length).length) h2.1.nodup fun x hx=>by have:=(h2.2.1 x hx).1;omega
  omega
 have K7:=fun(e:Int) (h0:0≤e) (h:e< ((aO M M.length).length:Int))=>hP.ri h0 h
 have KZ:=SH A n c rs M;generalize aO M M.length=R at*;generalize bn M=B at*;generalize M.length=d at*;generalize aD M d=N at*;rw [tw]at bW K7;refine bk func104 O ntmps104 O (qH O O) (aQ O (iI (St.refl w) O O ?_));intro A1 w1 ao;refine jC ao O ?_;intro A2 w2 ar;refine ad O (aa.bq 0 (ar.rd 1 O) O O O (aa.call (KZ _ (ar.bF hR) hM) O O O ?_));rintro _ w3 ⟨AR,cR,AD,cD,cH,rfl,ju,ak⟩;have az:=(ar.call ak).perm lh;refine jC az O ?_;intro A3 w4 aJ;refine bG 3 0 aJ O O O O O O O ?_;intro w5 aK;have gu:Rd w5 A3 3 (fun q=> [Value.int .i64 (d:Int),.slice AR N cR,.slice AD N cD].getD q undef):=aK.rd 0 O;have aK:St w w5 (bj A3 (d:Int) AR N cR AD N cD::qW A2 0 none 0 0 none 0 0::Bx 24 1 A1 [.slice A n c]::(ah 2 AR N cR R::(aE 32 2 AD N cD cH B++ []))):=aK;have DU:bS w5 AR N R:=aK.bc 3 O;have DJ:br w5 AD N cH B:=(aK.sub (show(aE 32 2 AD N cD cH B).Sublist _ from(((((by rw [fg];exact fJ _:(aE 32 2 AD N cD cH B).Sublist (aE 32 2 AD N cD cH B++ [])).cons _).cons _).cons _).cons _))).rN ob;clear az ar ao;refine ad O (aH gu O O O O inferInstance (gK (j:=0) gu (by exact ax Value.pointer O) O O O O (dJ (i:= -1) (St.refl w5) O O O ?_)));intro X w6 kQ;refine jl kQ O ?_;intro MU w7 dF;refine nj dF O O O ?_;intro Y w8 ew;refine Nf (by exact inferInstance) (by exact inferInstance) (by exact inferInstance) O O O O O O O O O O (jC ew O ?_);intro A4 w9 js;refine bG 3 0 js O O O O O O O ?_;intro dB tx;have tx:St w5 dB (qW A4 (d:Int) X 1 1 Y 1 1::ah 2 X 1 1 (-1::R.take 0)::(aE 32 2 Y 1 1 [⟨MU,0,0⟩] (nT B 0)++ [])):=tx.perm (aeB _ _ _ _);clear js ew dF kQ;refine ay O ?_;refine Cd.loop (α:=Nat×(aiC×Nat)×(aiC×Nat)×List aG) (fun z=> [(2,.pointer A2),(3,.pointer A3),(4,.pointer A4),(5,aiD (z.1:Int))]) (fun z w'=>z.1≤N∧z.2.2.2.length=z.1+1∧St w5 w' (qW A4 (d:Int) z.2.1.1 (z.1+1) z.2.1.2 z.2.2.1.1 (z.1+1) z.2.2.1.2::ah 2 z.2.1.1 (z.1+1) z.2.1.2 (-1::R.take z.1)::(aE 32 2 z.2.2.1.1 (z.1+1) z.2.2.1.2 z.2.2.2 (nT B z.1)++ []))) (fun z=>N - z.1) (0,(X,1),(Y,1),[⟨MU,0,0⟩]) ⟨O,O,O,O,ae⟩ ⟨aW _,O,tx⟩ ?_;clear tx;rintro⟨i,⟨X,cX⟩,⟨Y,cY⟩,ys⟩ e eu ⟨hi,rB,hT⟩;dsimp only at hi rB hT⊢;have Qu:=Rd.below gu hT.below;refine aQ O (aH Qu O O O O inferInstance (aM (j:=1) Qu (by exact ax Value.pointer O) O O O O ?_));refine aa.len O O (ay O ?_);refine aB _ O (fun h1=>?_) (fun h1=>?_)
 ·have hiN:i<N:=by omega
  have Hk:=bW (i:Int) (by omega) (by omega);refine av O (dJ (i:=0) hT O O O ?_);intro A6 gm BV;refine ay O ?_;refine Cd.loop (α:=Nat×aiC×Nat) (fun z=> [(2,.pointer A2),(3,.pointer A3),(4,.pointer A4),(5,aiD (i:Int)),(6,.slice z.2.1 (z.1+1) z.2.2),(7,aiD (z.1:Int))]) (fun z w'=>z.1≤(gl B (i:Int)).length∧St w5 w' (ah 2 z.2.1 (z.1+1) z.2.2 (0::((gl B (i:Int)).take z.1).map (· +1))::qW A4 (d:Int) X (i+1) cX Y (i+1) cY::ah 2 X (i+1) cX (-1::R.take i)::(aE 32 2 Y (i+1) cY ys (nT B i)++ []))) (fun z=> (gl B (i:Int)).length - z.1) (0,A6,1) ⟨O,O,O,O,O,O,ae⟩ ⟨aW _,BV⟩ ?_;clear BV hT;rintro⟨j,A6,c6⟩ e dW ⟨hj,hT⟩;dsimp only at hj hT⊢;have B0:=Rd.below gu hT.below;have DM:=DJ.later hT.below;have fZ:=DM.at_ (i:=(i:Int)) (by omega) (by omega);have iD:=fZ.1;refine aQ O (aH B0 O O O O inferInstance (aM (j:=2) B0 (by exact ax Value.pointer O) O O O O (ad O (aw DM.top.2 O O O (by omega) (by omega) (bQ DM.top O (by omega) O O ?_)))));refine aa.len O O (ay O ?_);refine aB _ O (fun h2=>?_) (fun h2=>?_)
  ·have ln:j< (gl B (i:Int)).length:=by omega
   have rh:=Hk.2 _ (gi_in ln);refine av O (aH B0 O O O O inferInstance (aM (j:=2) B0 (by exact ax Value.pointer O) O O O O (ad O (aw DM.top.2 O O O (by omega) (by omega) (bQ DM.top O (by omega) O O (ad O (aw fZ.2 O O O (by omega) (by omega) (aT fZ O (by omega) O O (aa.add O O O (by omega) ?_)))))))));refine dJ hT O O O ?_;intro A9 me l4;refine eK 1 l4 O (l4.bc 0 O) O O O (by omega) (by omega) O ?_;intro AZ cZ mG tz;have tz:=tz.tail;refine ad O (aa.add O O O (by omega) (aF O (tQ ?_)));refine⟨(j+1,AZ,cZ),by show(gl B (i:Int)).length - (j+1)< (gl B (i:Int)).length - j;omega,⟨O,O,O,O,O,O,ae⟩,by show j+1≤_;omega,?_⟩;show St w5 mG (ah _ AZ (j+1+1) cZ (0::((gl B (i:Int)).take (j+1)).map (· +1))::_);rw [AG ln,iQ];exact tz
  have zI:(gl B (i:Int)).take j=gl B (i:Int):=lS (by omega);rw [zI]at hT;have jX:=DU.later hT.below;have uw:=hT.rd 1 O;have rA:=K7 (i:Int) (by omega) (by omega);have Cu:R.take (i+1)=R.take i++ [gi R (i:Int)]:=AG (by omega);refine aY O (aZ (nN O ?_));refine iU [8,10] [yP (aq (A4) 1),yS (X) (i+1) (cX),yP (aq (A3) 1),yS (AR) (N) (cR),yI ((i:Int)),yP (aq (AR) ((i:Int)).toNat),yI (gi (R) ((i:Int))),.pr (fun v w'=>∃A9,v= .slice A9 1 1∧St w5 w' (ah 2 A9 1 1 [gi R (i:Int)]::ah 2 A6 (j+1) c6 (0::(gl B (i:Int)).map (· +1))::qW A4 (d:Int) X (i+1) cX Y (i+1) cY::ah 2 X (i+1) cX (-1::R.take i)::(aE 32 2 Y (i+1) cY ys (nT B i)++ []))),.pr (fun v w'=>∃AZ cZ,v= .slice AZ (i+1+1) cZ∧St w5 w' (ah 2 A6 (j+1) c6 (0::(gl B (i:Int)).map (· +1))::qW A4 (d:Int) X (i+1) cX Y (i+1) cY::ah 2 AZ (i+1+1) cZ ((-1::R.take i)++ [gi R (i:Int)])::(aE 32 2 Y (i+1) cY ys (nT B i)++ []))),yP (aq A4 1),.pr (fun _ w'=>∃AZ cZ,St w5 w' (ah 2 A6 (j+1) c6 (0::(gl B (i:Int)).map (· +1))::qW A4 (d:Int) AZ (i+1+1) cZ Y (i+1) cY::ah 2 AZ (i+1+1) cZ ((-1::R.take i)++ [gi R (i:Int)])::(aE 32 2 Y (i+1) cY ys (nT B i)++ [])))] (by kernel_rfl) (by kernel_rfl) (ly (ly (ly (ly (ly (ly (ly (bV.2 ⟨Ye.b9 (fun v w w' h hb=>by obtain⟨A9,hv,hT⟩:=h;exact⟨A9,hv,hT.later hb⟩),(bV.2 ⟨Ye.b9 (fun v w w' h hb=>by obtain⟨AZ,cZ,hv,hT⟩:=h;exact⟨AZ,cZ,hv,hT.later hb⟩),(ly (bV.2 ⟨Ye.b9 (fun v w w' h hb=>by obtain⟨AZ,cZ,hT⟩:=h;exact⟨AZ,cZ,hT.later hb⟩),(fun _ h=>by cases h)⟩))⟩)⟩)))))))) ?_ ?_
  ·refine⟨cP fun _ _ hb _ _ _=>aH (uw.below hb) O O O O inferInstance (aX O O),cP fun _ _ hb _ _ _=>aM (uw.below hb) O O O O O (aX O O),cP fun _ _ hb _ _ _=>aH (B0.below hb) O O O O inferInstance (aX O O),cP fun _ _ hb _ _ _=>aM (B0.below hb) O O O O O (aX O O),ba O,cP fun _ _ hb _ _ _=>aw (jX.later hb).2 O O O (by omega) (by omega) (aX O O),cP fun _ _ hb _ _ _=>aT (jX.later hb) O (by omega) O O (aX O O),?_,?_,?_,?_,ae⟩
   ·refine cP fun e1 w1 hb hp aL hq=>?_
    refine dJ (St.refl _) O O O ?_;intro A9 w9 ak;refine aa.n ?_;exact fF.dn O ak.below ⟨A9,O,(hT.later hb).call ak⟩
   ·refine iY fun e1 w1 hb hp aL hq=>?_
    obtain⟨A9,Gr,js⟩:=(hp 7 _ _ (by kernel_rfl) rfl rfl (by kernel_rfl));refine eK 3 js O (js.bc 0 O) O (by exact Gr) O (by omega) (by omega) O ?_;intro AZ cZ wZ hZ;refine aa.n ?_;exact eA.dn O ⟨AZ,cZ,O,hZ.tail⟩
   ·intro e1 w1 cc dp bJ dz hp aL hq;show aa _ _ _ _ _ _ _;have hX:Rd w1 A4 3 (fun q=> [Value.int .i64 (d:Int),.slice X (i+1) cX,.slice Y (i+1) cY].getD q undef):=by { have bJ:=mw bJ (b:=1) (by kernel_rfl);rcases(show cc=0∨cc=1 by omega)with h | h; { exact Rd.below uw (dz h) }; { subst h;obtain⟨AZ,cZ,_,zw⟩:=hq 8 _ _ (by kernel_rfl) (by kernel_rfl) (by kernel_rfl) rfl rfl (by kernel_rfl);exact zw.rd 1 rfl } }
    refine aH hX O O O O inferInstance (aa.n (fh O (by exact O)))
   refine oQ 1 fun e1 w1 hp aL hq=>?_
   have dH:=hp 8 _ _ (by kernel_rfl) O O (by kernel_rfl);obtain⟨AZ,cZ,Y9,zw⟩:=dH;refine jS 1 zw O O (by exact Y9) O O ?_;intro eu uz;refine aa.n ?_;exact eA.st O ⟨AZ,cZ,uz⟩
  intro u me _ hu _ _;obtain⟨AZ,cZ,l4⟩:=hu 10 _ rfl (by kernel_rfl);clear hT uw;refine E1 (F:=[(2,.pointer A2),(3,.pointer A3),(4,.pointer A4),(5,aiD (i:Int)),(6,.slice A6 (j+1) c6)]) ⟨O,O,O,O,O,ae⟩ (iq O (aH (l4.rd 1 O) O O O O inferInstance (aM (j:=2) (l4.rd 1 O) (by exact ax Value.pointer O) O O O O (ad O (nj l4 O O O ?_)))));intro A9 mG tz;refine oM 4 tz O (tz.il 0 O) O O O (by omega) (by omega) O ?_;intro AQ cQ rP vp;refine aH (vp.rd 2 O) O O O O inferInstance (jS 2 (j:=2) vp O O O O O ?_);intro mH uA;have uA:=uA.tail;have zv:St w5 mH (ah 2 A6 (j+1) c6 (0::(gl B (i:Int)).map (· +1))::qW A4 (d:Int) AZ (i+1+1) cZ AQ (i+1+1) cQ::ah 2 AZ (i+1+1) cZ ((-1::R.take i)++ [gi R (i:Int)])::bU 32 AQ (i+1+1) cQ (ys++ [⟨A6,j+1,c6⟩])::(cS 2 ys (nT B i)++ [])):=uA;have zv:=zv.perm (Tw _ _ _ _ _);rw [←uY (by rw [rB,Bj]),←V2]at zv;refine ad O (aa.add O O O (by omega) (aF O (tQ ?_)));refine⟨(i+1,(AZ,cZ),(AQ,cQ),ys++ [⟨A6,j+1,c6⟩]),by show N - (i+1)<N - i;omega,⟨O,O,O,O,ae⟩,by show i+1≤N;omega,by simp [rB],?_⟩;show St w5 mH (_::ah _ AZ (i+1+1) cZ (-1::R.take (i+1))::_);rw [Cu];exact zv
 obtain rfl:i=N:=by omega
 have uw:=hT.rd 0 O;have ZH:R.take i=R:=lS (by omega);rw [ZH]at hT;refine aY O (aZ (nN O ?_));refine iU [7,9] [yP (aq (A4) 2),yS (Y) (i+1) (cY),yP (aq (A4) 1),yS (X) (i+1) (cX),yI (((i+1:Nat):Int)),.pr (fun v w'=>∃A7 c7,v= .slice A7 (i+1) c7∧St w5 w' (ah 2 A7 (i+1) c7 (bw (i+1))::qW A4 (d:Int) X (i+1) cX Y (i+1) cY::ah 2 X (i+1) cX (-1::R)::(aE 32 2 Y (i+1) cY ys (nT B i)++ []))),.pr (fun v w'=>∃A8 A7 c7,v= .slice A8 1 1∧St w5 w' (bU 32 A8 1 1 [⟨A7,i+1,c7⟩]::ah 2 A7 (i+1) c7 (bw (i+1))::qW A4 (d:Int) X (i+1) cX Y (i+1) cY::ah 2 X (i+1) cX (-1::R)::(aE 32 2 Y (i+1) cY ys (nT B i)++ []))),.pr (fun v w'=>∃AQ cQ A7 c7,v= .slice AQ (i+1+1) cQ∧St w5 w' (ah 2 A7 (i+1) c7 (bw (i+1))::qW A4 (d:Int) X (i+1) cX Y (i+1) cY::ah 2 X (i+1) cX (-1::R)::bU 32 AQ (i+1+1) cQ (ys++ [⟨A7,i+1,c7⟩])::(cS 2 ys (nT B i)++ []))),yP (aq A4 2),.pr (fun _ w'=>∃AQ cQ A7 c7,St w5 w' (ah 2 A7 (i+1) c7 (bw (i+1))::qW A4 (d:Int) X (i+1) cX AQ (i+1+1) cQ::ah 2 X (i+1) cX (-1::R)::bU 32 AQ (i+1+1) cQ (ys++ [⟨A7,i+1,c7⟩])::(cS 2 ys (nT B i)++ [])))] (by kernel_rfl) (by kernel_rfl) (ly (ly (ly (ly (ly (bV.2 ⟨Ye.b9 (fun v w w' h hb=>by obtain⟨A9,c9,hv,hT⟩:=h;exact⟨A9,c9,hv,hT.later hb⟩),(bV.2 ⟨Ye.b9 (fun v w w' h hb=>by obtain⟨A8,A9,c9,hv,hT⟩:=h;exact⟨A8,A9,c9,hv,hT.later hb⟩),(bV.2 ⟨Ye.b9 (fun v w w' h hb=>by obtain⟨AQ,cQ,A7,c7,hv,hT⟩:=h;exact⟨AQ,cQ,A7,c7,hv,hT.later hb⟩),(ly (bV.2 ⟨Ye.b9 (fun v w w' h hb=>by obtain⟨AQ,cQ,A7,c7,hT⟩:=h;exact⟨AQ,cQ,A7,c7,hT.later hb⟩),(fun _ h=>by cases h)⟩))⟩)⟩)⟩)))))) ?_ ?_
 ·refine⟨cP fun _ _ hb _ _ _=>aH (uw.below hb) O O O O inferInstance (aX O O),cP fun _ _ hb _ _ _=>aM (uw.below hb) O O O O O (aX O O),cP fun _ _ hb _ _ _=>aH (uw.below hb) O O O O inferInstance (aX O O),cP fun _ _ hb _ _ _=>aM (uw.below hb) O O O O O (aX O O),aP fun _ _=>aa.len O O (aX O O),?_,?_,?_,?_,?_,ae⟩
  ·refine cP fun e1 w1 hb hp aL hq=>?_
   refine aa.call (acG (i+1) _ (by omega)) O O O ?_;rintro _ w9 ⟨A7,c7,rfl,kH⟩;refine aa.n ?_;exact fF.dn O kH.below ⟨A7,c7,O,(hT.later hb).call kH⟩
  ·refine cP fun e1 w1 hb hp aL hq=>?_
   obtain⟨A7,c7,DG,js⟩:=(hp 5 _ _ (by kernel_rfl) rfl rfl (by kernel_rfl));refine nj (St.refl _) (by exact DG) O O ?_;intro A8 w9 kH;refine aa.n ?_;exact fF.dn O kH.below ⟨A8,A7,c7,O,js.call kH⟩
  ·refine iY fun e1 w1 hb hp aL hq=>?_
   obtain⟨A8,A7,c7,DH,js⟩:=(hp 6 _ _ (by kernel_rfl) rfl rfl (by kernel_rfl));refine oM 4 js O (js.il 0 O) O (by exact DH) O (by omega) (by omega) O ?_;intro AQ cQ wZ hZ;refine aa.n ?_;exact eA.dn O ⟨AQ,cQ,A7,c7,O,hZ.tail⟩
  ·intro e1 w1 cc dp bJ dz hp aL hq;show aa _ _ _ _ _ _ _;have hX:Rd w1 A4 3 (fun q=> [Value.int .i64 (d:Int),.slice X (i+1) cX,.slice Y (i+1) cY].getD q undef):=by { have bJ:=mw bJ (b:=1) (by kernel_rfl);rcases(show cc=0∨cc=1 by omega)with h | h; { exact Rd.below uw (dz h) }; { subst h;obtain⟨AQ,cQ,A7,c7,_,zw⟩:=hq 7 _ _ (by kernel_rfl) (by kernel_rfl) (by kernel_rfl) rfl rfl (by kernel_rfl);exact zw.rd 1 rfl } }
   refine aH hX O O O O inferInstance (aa.n (fh O (by exact O)))
  refine oQ 1 fun e1 w1 hp aL hq=>?_
  have dH:=hp 7 _ _ (by kernel_rfl) O O (by kernel_rfl);obtain⟨AQ,cQ,A7,c7,Zc,zw⟩:=dH;refine jS 1 zw O O (by exact Zc) O O ?_;intro eu uz;refine aa.n ?_;exact eA.st O ⟨AQ,cQ,A7,c7,uz⟩
 intro u me _ hu _ _;obtain⟨AQ,cQ,A7,c7,l4⟩:=hu 9 _ rfl (by kernel_rfl);clear hT uw;have l4:=l4.perm (Tw _ _ _ _ _);rw [←uY (by rw [rB,Bj])]at l4;have Qv:=Rd.below gu l4.below;refine E1 (F:=[(2,.pointer A2),(3,.pointer A3),(4,.pointer A4)]) ⟨O,O,O,ae⟩ (iq O (aH (l4.rd 0 O) O O O O inferInstance (aM (j:=1) (l4.rd 0 O) (by exact ax Value.pointer O) O O O O (aH Qv O O O O inferInstance (gK (j:=0) Qv (by exact ax Value.pointer O) O O O O (dJ l4 O O O ?_))))));intro A9 mG tz;refine eK 2 tz O (tz.bc 0 O) O O O (by omega) (by omega) O ?_;intro AZ cZ rP vp;refine aH (vp.rd 1 O) O O O O inferInstance (jS 1 (j:=1) vp O O O O O ?_);intro mH uA;have uA:=uA.tail;have zv:St w5 mH (qW A4 (d:Int) AZ (i+2) cZ AQ (i+2) cQ::ah 2 AZ (i+2) cZ (fo d R)::(aE 32 2 AQ (i+2) cQ (ys++ [⟨A7,i+1,c7⟩]) (kM i B)++ [])):=uA;have ko:=(aK.call zv).perm lh;refine ad O (aa.bq 2 (zv.rd 0 O) O O O (bG 3 1 ko O O O O O O O ?_));intro tZ oU;refine bh O (kX O (oU.rd 1 O) ?_);refine⟨AZ,cZ,AQ,cQ,ys++ [⟨A7,i+1,c7⟩],O,by simp [rB],oU.sub (show List.Sublist _ (_::_::_::_::((aE 32 2 AD i cD cH B++ [])++ (qW A4 (d:Int) AZ (i+2) cZ AQ (i+2) cQ::_))) from((((((fJ _).cons _).trans (gR _ _)).cons _).cons _).cons _).cons _)⟩
end
section
open Tryz
section
variable (m1 m2:Nat) (rk1 rk2:Int→Int) (kind:Int)
def rL(i:Int)(a:Int)(b:Nat):List (Int×Int):=((bw b).filter fun b=>decide (b8 rk1 rk2 kind (a,b)=i∧¬pb m1 m2 kind (a,b))).map fun b=> (a,b)
def gA(i a b:Nat):List (Int×Int):=bT m1 m2 rk1 rk2 kind i++ ((bw a).flatMap (fun a=>rL m1 m2 rk1 rk2 kind i a m2)++rL m1 m2 rk1 rk2 kind i (a:Int) b)
end
section
variable {m1 m2:Nat} {rk1 rk2:Int→Int} {kind:Int} {i a b:Nat}
theorem HI:gA m1 m2 rk1 rk2 kind i 0 0=bT m1 m2 rk1 rk2 kind i:=by simp [gA,rL,bw]
theorem afm:gA m1 m2 rk1 rk2 kind i (a+1) 0=gA m1 m2 rk1 rk2 kind i a m2:=by
 unfold gA;rw [uX,List.flatMap_append];simp [rL,bw]
theorem afl:gA m1 m2 rk1 rk2 kind i m1 0=gA m1 m2 rk1 rk2 kind (i+1) 0 0:=by
 rw [HI];unfold gA;rw [bT]
 congr 1
 have:rL m1 m2 rk1 rk2 kind (i:Int) (m1:Int) 0=[]:=O;rw [this,fg]
 rfl
theorem afk(h:b8 rk1 rk2 kind ((a:Int),(b:Int))=i∧¬pb m1 m2 kind ((a:Int),(b:Int))):gA m1 m2 rk1 rk2 kind i a (b+1)=gA m1 m2 rk1 rk2 kind i a b++ [((a:Int),(b:Int))]:=by
 unfold gA;have e:rL m1 m2 rk1 rk2 kind (i:Int) (a:Int) (b+1)=rL m1 m2 rk1 rk2 kind (i:Int) (a:Int) b++ [((a:Int),(b:Int))]:=by
  unfold rL;rw [uX,nS,iQ,s8 (by simpa using h)];rfl
 rw [e,←fR,←fR,←fR]
theorem afn(h:¬(b8 rk1 rk2 kind ((a:Int),(b:Int))=i∧¬pb m1 m2 kind ((a:Int),(b:Int)))):gA m1 m2 rk1 rk2 kind i a (b+1)=gA m1 m2 rk1 rk2 kind i a b:=by
 unfold gA;have e:rL m1 m2 rk1 rk2 kind (i:Int) (a:Int) (b+1)=rL m1 m2 rk1 rk2 kind (i:Int) (a:Int) b:=by
  unfold rL;rw [uX,nS,iQ,pG (by simpa using h)];simp
 rw [e]
theorem TL:∀ {k j:Nat},j≤k→(bT m1 m2 rk1 rk2 kind j).length≤(bT m1 m2 rk1 rk2 kind k).length
 | 0,j,h=>by
  obtain rfl:j=0:=by omega
  exact a8 _
 | k+1,j,h=>by
  by_cases e:j=k+1
  ·subst e;exact a8 _
  ·have:=TL (k:=k) (j:=j) (by omega);rw [bT,dm];omega
theorem T2(i a:Int)(b:Nat):(rL m1 m2 rk1 rk2 kind i a b).length≤b:=by
 unfold rL;rw [fN];refine kJ (oJ _ _) ?_;rw [bw,fN,pe];exact a8 _
theorem T1(i:Int):∀a:Nat,((bw a).flatMap (fun a=>rL m1 m2 rk1 rk2 kind i a m2)).length≤a*m2
 | 0=>by simp [bw]
 | a+1=>by
  have h1:=T1 i a;have h2:=T2 (m1:=m1) (m2:=m2) (rk1:=rk1) (rk2:=rk2) (kind:=kind) i (a:Int) m2;rw [uX,List.flatMap_append,dm,Nat.succ_mul];simp only [List.flatMap_cons,List.flatMap_nil,fg];omega
theorem afj(h:(bT m1 m2 rk1 rk2 kind i).length≤500)(hb:b≤m2):(gA m1 m2 rk1 rk2 kind i a b).length≤500+ (a*m2+b):=by
 unfold gA;have h1:=T1 (m1:=m1) (m2:=m2) (rk1:=rk1) (rk2:=rk2) (kind:=kind) (i:Int) a;have h2:=T2 (m1:=m1) (m2:=m2) (rk1:=rk1) (rk2:=rk2) (kind:=kind) (i:Int) (a:Int) b;rw [dm,dm];omega
end
end
section
open Go.RowKit Tryz
variable{w w':World}
structure qc(w:World)(X8:aiC)(X:List Int)(N:Nat)(Y8:aiC)(ys:List aG)(B:aiB):Prop where
 len:X.length=N+2
 nn:N≤500
 rk:bS w X8 (N+2) X
 bl:br w Y8 (N+2) ys (kM N B)
 bd:∀e:Int,0≤e→e< (N:Int)→(gl B e).length≤500∧∀d∈gl B e,0≤d∧d< (N:Int)
theorem qc.later{X8:aiC}{X:List Int}{N:Nat}{Y8:aiC}{ys:List aG}{B:aiB}(h:qc w X8 X N Y8 ys B)(hb:Below w.heap.size w w'):qc w' X8 X N Y8 ys B:=⟨h.len,h.nn,h.rk.later hb,h.bl.later hb,h.bd⟩
def H5(k:Nat)(RL:List Int)(BL:aiB)(w:World)(v:Value)(w':World):Prop:=((5<k∨500<RL.length)∧v= .tuple #[.agg #[aiD 0,.slice none 0 0,.slice none 0 0],.bool false]∧St w w' [])∨((k≤5∧RL.length≤500)∧∃AR c AD d rs,v= .tuple #[.agg #[aiD (k:Int),.slice AR RL.length c,.slice AD RL.length d],.bool true]∧rs.length=RL.length∧BL.length=RL.length∧St w w' (ah 2 AR RL.length c RL::(aE 32 2 AD RL.length d rs BL++ [])))
abbrev qI(a6 df eJ AR:aiC)(cT gq cR:Nat)(L:List (Int×Int))(rk:Int×Int→Int)(k:Int)(KK:List Ck):List Ck:=
 ah 2 a6 L.length cT (L.map Prod.fst)::ah 2 df L.length gq (L.map Prod.snd)::bj eJ k AR L.length cR none 0 0::ah 2 AR L.length cR (L.map rk)::KK
abbrev E3(a6 df eJ AR AD:aiC)(cT gq cR cD e:Nat)(L:List (Int×Int))(rk:Int×Int→Int)(k:Int)(A6 A4 A3:aiC)(v4 v3:List Value)(cH:List aG)(B:aiB):List Ck:=
 ah 2 a6 L.length cT (L.map Prod.fst)::ah 2 df L.length gq (L.map Prod.snd)::bj eJ k AR L.length cR AD e cD::ah 2 AR L.length cR (L.map rk)::bj A6 0 none 0 0 none 0 0::Bx 93 3 A4 v4::Bx 93 3 A3 v3::(aE 32 2 AD e cD cH B++ [])
theorem aey{α:Type}(b m q1 q2 q3 q4 q5 q6 q7:α)(X:List α):(b::q1::q2::q3::q4::q5::q6::q7::m::(X++ [])).Perm (q1::q2::q3::q4::q5::q6::q7::m::((X++ [b])++ [])):=by
 classical
 refine lR.2 fun z=>?_
 simp only [nP,lE,nQ];omega
theorem aeD{α:Type}(a b c d:α)(X:List α):(a::b::c::d::X).Perm (d::c::b::a::X):=by
 classical
 refine lR.2 fun z=>?_
 simp only [lE];omega
set_option maxHeartbeats 8000000 in
theorem SK(X8 Z8 Y8 W8:aiC)(cx cz cy cw:Nat)(N1 N2:Nat)(X1 X2:List Int)(vM xy:List aG)(B1 B2:aiB)(n1 n2 kind:Int)(k:Nat)(w:World)(tu:qc w X8 X1 N1 Y8 vM B1)(od:qc w Z8 X2 N2 W8 xy B2)(x9:fk (N1+2) n1 (gi X1) (dS N1 B1))(ya:fk (N2+2) n2 (gi X2) (dS N2 B2))(hk:0≤kind∧kind≤2)(oY:(k:Int)=gv n1 n2 kind)(uJ:n1≤5)(zL:n2≤5):
 aA prog 103 [.agg #[aiD n1,.slice X8 (N1+2) cx,.slice Y8 (N1+2) cy],.agg #[aiD n2,.slice Z8 (N2+2) cz,.slice W8 (N2+2) cw],aiD kind] w (H5 k ((bT (N1+2) (N2+2) (gi X1) (gi X2) kind k).map (b8 (gi X1) (gi X2) kind)) (nI (dS N1 B1) (dS N2 B2) (bT (N1+2) (N2+2) (gi X1) (gi X2) kind k)) w):=by
 have cN:=tu.nn;have dG:=od.nn;have jg:=tu.len;have mS:=od.len;have aaM:=x9.n0;have aaO:=ya.n0;have Eh:(k:Int)=n1+n2+ (if kind=0 then 1 else 0):=by rw [oY];unfold gv;split<;>omega
 refine bk func103 O ntmps103 O (tW O O) (aQ O (kK (St.refl w) O O ?_));intro A3 w1 ao;refine kK ao O O ?_;intro A4 w2 ar;refine jC ar O ?_;intro A6 w3 az;have RI:=az.rd 2 O;have K6:=az.rd 1 O;refine ad O (aH RI O O O O inferInstance (gK (j:=0) RI (by exact ax Value.pointer O) O O O O (aH K6 O O O O inferInstance (gK (j:=0) K6 (by exact ax Value.pointer O) O O O O ?_))));refine aa.add O O O (by omega) (vb 0 O ?_);refine lC (α:=Unit) (fun _=> [(2,aiD kind),(3,.pointer A3),(4,.pointer A4),(6,.pointer A6),(8,aiD (k:Int)),(9,aiD 1)]) (fun _ w'=>w'=w3) ?_ ?_
 ·refine bK O ?_;refine aB _ O (fun h1=>?_) (fun h1=>?_)
  ·refine av O (aa.add O O O (by omega) (aF O (tQ ?_)));exact⟨(),⟨O,O,O,O,ax (Value.int .i64) (by rw [Eh,aj h1]),O,ae⟩,O⟩
  refine kD O (tQ ?_);exact⟨(),⟨O,O,O,O,ax (Value.int .i64) (by rw [Eh,ag h1,Int.add_zero]),O,ae⟩,O⟩
 rintro _ e w4 rfl;refine lC (α:=Unit) (fun _=> [(2,aiD kind),(3,.pointer A3),(4,.pointer A4),(6,.pointer A6),(8,aiD (k:Int)),(9,aiD (eM kind))]) (fun _ w'=>w'=w4) ?_ ?_
 ·refine bK O ?_;refine aB _ O (fun h1=>?_) (fun h1=>?_)
  ·refine kD O (tQ ?_);exact⟨(),⟨O,O,O,O,O,congrArg (Value.int .i64) (by unfold eM;rw [if_pos h1]),trivial⟩,O⟩
  refine kD O (tQ ?_);exact⟨(),⟨O,O,O,O,O,congrArg (Value.int .i64) (by unfold eM;rw [if_neg h1]),trivial⟩,O⟩
 rintro _ e w5 rfl;refine bP O ?_;refine aB _ O (fun h1=>?_) (fun h1=>?_)
 ·refine av O (vS (by exact inferInstance) (by exact inferInstance) (by exact inferInstance) O (bG 3 0 az O O O O O O O ?_));intro w7 aV;refine bh O (kA O (aV.rd 0 O) O ?_);exact .inl ⟨.inl (by omega),O,aV.none⟩
 have KE:k≤5:=by omega
 obtain⟨KK,qZ⟩:∃KK:List Ck,KK=[bj A6 0 none 0 0 none 0 0,Bx 93 3 A4 [aiD n2,.slice Z8 (N2+2) cz,.slice W8 (N2+2) cw],Bx 93 3 A3 [aiD n1,.slice X8 (N1+2) cx,.slice Y8 (N1+2) cy]]:=⟨_,rfl⟩;have az:St w w5 KK:=by rw [qZ];exact az
 refine av O (jl az O ?_);intro a6 w6 aR;refine jl aR O ?_;intro df w7 aV;refine ad O (Fy (by exact inferInstance) (by exact inferInstance) (by exact inferInstance) O O O O O O (jC aV O ?_));intro eJ w8 bA;refine ad O (bG 3 0 bA O O O O O O O ?_);intro w9 aS;have aS:St w w9 (qI a6 df eJ none 0 0 0 (gA (N1+2) (N2+2) (gi X1) (gi X2) kind 0 0 0) (b8 (gi X1) (gi X2) kind) k KK):=by
  have h9:=aS.nil 2;rw [HI];exact h9.perm (aeD _ _ _ _ _)
 clear bA aV aR;have o0:∀ {w':World} {ks:List Ck},St w w' (ks++KK)→Rd w' A3 3 (fun j=> [Value.int .i64 n1,.slice X8 (N1+2) cx,.slice Y8 (N1+2) cy].getD j undef):=fun h=>by
  have h9:=h.sub (gR _ _);rw [qZ]at h9;exact h9.rd 2 O
 have sG:∀ {w':World} {ks:List Ck},St w w' (ks++KK)→Rd w' A4 3 (fun j=> [Value.int .i64 n2,.slice Z8 (N2+2) cz,.slice W8 (N2+2) cw].getD j undef):=fun h=>by
  have h9:=h.sub (gR _ _);rw [qZ]at h9;exact h9.rd 1 O
 have Cs:∀a:Nat,a≤N1+2→a* (N2+2)≤502*502:=fun a h=>Nat.mul_le_mul (by omega) (by omega)
 refine ay O ?_;refine Cd.loop (α:=Nat×(aiC×Nat)×(aiC×Nat)×(aiC×Nat)) (fun z=> [(2,aiD kind),(3,.pointer A3),(4,.pointer A4),(6,.pointer A6),(8,aiD (k:Int)),(9,aiD (eM kind)),(12,.pointer eJ),(10,.slice z.2.1.1 (gA (N1+2) (N2+2) (gi X1) (gi X2) kind z.1 0 0).length z.2.1.2),(11,.slice z.2.2.1.1 (gA (N1+2) (N2+2) (gi X1) (gi X2) kind z.1 0 0).length z.2.2.1.2),(13,aiD (z.1:Int))]) (fun z w'=>z.1≤k∧(bT (N1+2) (N2+2) (gi X1) (gi X2) kind z.1).length≤500∧St w w' (qI z.2.1.1 z.2.2.1.1 eJ z.2.2.2.1 z.2.1.2 z.2.2.1.2 z.2.2.2.2 (gA (N1+2) (N2+2) (gi X1) (gi X2) kind z.1 0 0) (b8 (gi X1) (gi X2) kind) k KK)) (fun z=>k - z.1) (0,(a6,0),(df,0),(none,0)) ⟨O,O,O,O,O,O,O,O,O,O,ae⟩ ⟨aW _,aW _,aS⟩ ?_;clear aS;rintro⟨i,⟨a6,cT⟩,⟨df,gq⟩,⟨AR,cR⟩⟩ e dB ⟨hi,hlen,hS⟩;dsimp only at hi hlen hS⊢;refine bK O ?_;refine aB _ O (fun h2=>?_) (fun h2=>?_)
 ·have nD:i<k:=by omega
  refine bP O ?_;refine Cd.loop (α:=Nat×(aiC×Nat)×(aiC×Nat)×(aiC×Nat)) (fun z=> [(2,aiD kind),(3,.pointer A3),(4,.pointer A4),(6,.pointer A6),(8,aiD (k:Int)),(9,aiD (eM kind)),(12,.pointer eJ),(10,.slice z.2.1.1 (gA (N1+2) (N2+2) (gi X1) (gi X2) kind i z.1 0).length z.2.1.2),(11,.slice z.2.2.1.1 (gA (N1+2) (N2+2) (gi X1) (gi X2) kind i z.1 0).length z.2.2.1.2),(13,aiD (i:Int)),(14,aiD (z.1:Int))]) (fun z w'=>z.1≤N1+2∧St w w' (qI z.2.1.1 z.2.2.1.1 eJ z.2.2.2.1 z.2.1.2 z.2.2.1.2 z.2.2.2.2 (gA (N1+2) (N2+2) (gi X1) (gi X2) kind i z.1 0) (b8 (gi X1) (gi X2) kind) k KK)) (fun z=>N1+2 - z.1) (0,(a6,cT),(df,gq),(AR,cR)) ⟨O,O,O,O,O,O,O,O,O,O,O,ae⟩ ⟨aW _,hS⟩ ?_;clear hS;rintro⟨a,⟨a6,cT⟩,⟨df,gq⟩,⟨AR,cR⟩⟩ e eu ⟨ha,hS⟩;dsimp only at ha hS⊢;have Jz:=o0 (ks:=[_,_,_,_]) hS;refine aQ O (aH Jz O O O O inferInstance (aM (j:=1) Jz (by exact ax Value.pointer O) O O O O ?_));refine aa.len O O (ay O ?_);refine aB _ O (fun h3=>?_) (fun h3=>?_)
  ·have sw:a<N1+2:=by omega
   have hsqa:=Cs a (by omega);refine bP O ?_;refine Cd.loop (α:=Nat×(aiC×Nat)×(aiC×Nat)×(aiC×Nat)) (fun z=> [(2,aiD kind),(3,.pointer A3),(4,.pointer A4),(6,.pointer A6),(8,aiD (k:Int)),(9,aiD (eM kind)),(12,.pointer eJ),(10,.slice z.2.1.1 (gA (N1+2) (N2+2) (gi X1) (gi X2) kind i a z.1).length z.2.1.2),(11,.slice z.2.2.1.1 (gA (N1+2) (N2+2) (gi X1) (gi X2) kind i a z.1).length z.2.2.1.2),(13,aiD (i:Int)),(14,aiD (a:Int)),(15,aiD (z.1:Int))]) (fun z w'=>z.1≤N2+2∧St w w' (qI z.2.1.1 z.2.2.1.1 eJ z.2.2.2.1 z.2.1.2 z.2.2.1.2 z.2.2.2.2 (gA (N1+2) (N2+2) (gi X1) (gi X2) kind i a z.1) (b8 (gi X1) (gi X2) kind) k KK)) (fun z=>N2+2 - z.1) (0,(a6,cT),(df,gq),(AR,cR)) ⟨O,O,O,O,O,O,O,O,O,O,O,O,ae⟩ ⟨aW _,hS⟩ ?_;clear hS Jz;rintro⟨b,⟨a6,cT⟩,⟨df,gq⟩,⟨AR,cR⟩⟩ e gm ⟨hb,hS⟩;dsimp only at hb hS⊢;have lk:=o0 (ks:=[_,_,_,_]) hS;have lH:=sG (ks:=[_,_,_,_]) hS;have hlL:=afj (a:=a) hlen hb;refine aQ O (aH lH O O O O inferInstance (aM (j:=1) lH (by exact ax Value.pointer O) O O O O ?_));refine aa.len O O (ay O ?_);refine aB _ O (fun h4=>?_) (fun h4=>?_)
   ·have wD:b<N2+2:=by omega
    have kU:=(tu.later hS.below).rk;have lz:=(od.later hS.below).rk;have ga:=x9.fT (a:=(a:Int)) (by omega);have gb:=ya.fT (a:=(b:Int)) (by omega);have gs0:0≤eM kind∧eM kind≤1:=by unfold eM;split<;>omega
    have jL:b8 (gi X1) (gi X2) kind ((a:Int),(b:Int))=gi X1 (a:Int)+gi X2 (b:Int)+eM kind:=O;have e6:=afn (m1:=N1+2) (m2:=N2+2) (rk1:=gi X1) (rk2:=gi X2) (kind:=kind) (i:=i) (a:=a) (b:=b);have mP:=afk (m1:=N1+2) (m2:=N2+2) (rk1:=gi X1) (rk2:=gi X2) (kind:=kind) (i:=i) (a:=a) (b:=b);have hex:pb (N1+2) (N2+2) kind ((a:Int),(b:Int))↔((kind=1∧((a:Int)=0∨(b:Int)=0))∨(kind=2∧((a:Int)=((N1+2:Nat):Int) - 1∨(b:Int)=((N2+2:Nat):Int) - 1))):=Iff.rfl;have D3:(gi X1 (a:Int)+gi X2 (b:Int)+eM kind≠(i:Int))∨(gi X1 (a:Int)+gi X2 (b:Int)+eM kind=(i:Int)∧((kind=1∧(a:Int)=0)∨(kind=1∧(a:Int)≠0∧(b:Int)=0)∨(kind=1∧(a:Int)≠0∧(b:Int)≠0)∨(kind=2∧(a:Int)=((N1+2:Nat):Int) - 1)∨(kind=2∧(a:Int)≠((N1+2:Nat):Int) - 1∧(b:Int)=((N2+2:Nat):Int) - 1)∨(kind=2∧(a:Int)≠((N1+2:Nat):Int) - 1∧(b:Int)≠((N2+2:Nat):Int) - 1)∨kind=0)):=by omega
    rcases D3 with q1 | ⟨q1,⟨k1,p1⟩ | ⟨k1,p1,p2⟩ | ⟨k1,p1,p2⟩ | ⟨k1,p1⟩ | ⟨k1,p1,p2⟩ | ⟨k1,p1,p2⟩ | k1⟩
    ·
     refine bP O ?_;refine dI [xP (aq (A3) 1),xS (X8) (N1+2) (cx),xI ((a:Int)),xP (aq (X8) ((a:Int)).toNat),xI (gi (X1) ((a:Int))),xP (aq (A4) 1),xS (Z8) (N2+2) (cz),xI ((b:Int)),xP (aq (Z8) ((b:Int)).toNat),xI (gi (X2) ((b:Int))),xI ((gi (X1) ((a:Int)))+ (gi (X2) ((b:Int)))),xI ((eM kind)),xI (((gi (X1) ((a:Int)))+ (gi (X2) ((b:Int))))+ ((eM kind))),xI ((i:Int)),xB (decide (¬(((gi (X1) ((a:Int)))+ (gi (X2) ((b:Int))))+ ((eM kind)))=((i:Int)))),xB (true),xU,xU,xU,xU,xU,xU,xU,xU,xU,xU,xB (true),xB (true),xU,xU,xU,xU,xU,xU,xU,xU,xU,xU,xU,xU,xU,xU,xU,xU,xU,xU,xB (true)] (by kernel_rfl) (by kernel_rfl) O (eg O) ?_ ?_
     ·exact⟨fun _ _ hb _ _=>aH (lk.below hb) O O O O inferInstance (Az O),fun _ _ hb _ _=>aM (lk.below hb) O O O O O (Az O),Dr O,fun _ _ hb _ _=>aw (kU.later hb).2 O O O (by omega) (by omega) (Az O),fun _ _ hb _ _=>aT (kU.later hb) O (by omega) O O (Az O),fun _ _ hb _ _=>aH (lH.below hb) O O O O inferInstance (Az O),fun _ _ hb _ _=>aM (lH.below hb) O O O O O (Az O),Dr O,fun _ _ hb _ _=>aw (lz.later hb).2 O O O (by omega) (by omega) (Az O),fun _ _ hb _ _=>aT (lz.later hb) O (by omega) O O (Az O),fun _ _ _ _ _=>aa.add O O O (by omega) (Az O),Dr O,fun _ _ _ _ _=>aa.add O O O (by omega) (Az O),Dr O,Dr O,fun _ _ _ _ _=>Dk O (by exact ax Value.bool (dX q1)),Dr O,Dr O,Dr O,Dr O,Dr O,Dr O,Dr O,Dr O,Dr O,Dr O,Dr O,fun _ _ _ _ _=>Dk O (by exact ax Value.bool (O)),Dr O,Dr O,Dr O,Dr O,Dr O,Dr O,Dr O,Dr O,Dr O,Dr O,Dr O,Dr O,Dr O,Dr O,Dr O,Dr O,Dr O,Dr O,Dr O,ae⟩
     intro u dW qk _;have hS:=hS.later qk;refine eo O (Cd.gj O ?_);have e6:=e6 (fun h=>q1 (by rw [jL]at h;exact h.1));refine av O (aa.add O O O (by omega) (aF O (tQ ?_)));exact⟨(b+1,(a6,cT),(df,gq),(AR,cR)),by show N2+2 - (b+1)<N2+2 - b;omega,⟨O,O,O,O,O,O,O,ax (fun L:List (Int×Int)=>Value.slice a6 L.length cT) e6.symm,ax (fun L:List (Int×Int)=>Value.slice df L.length gq) e6.symm,O,O,O,ae⟩,by show b+1≤N2+2;omega,by show St w dW (qI a6 df eJ AR cT gq cR (gA _ _ _ _ kind i a (b+1)) _ k KK);rw [e6];exact hS⟩
    ·refine bP O ?_;refine dI [xP (aq (A3) 1),xS (X8) (N1+2) (cx),xI ((a:Int)),xP (aq (X8) ((a:Int)).toNat),xI (gi (X1) ((a:Int))),xP (aq (A4) 1),xS (Z8) (N2+2) (cz),xI ((b:Int)),xP (aq (Z8) ((b:Int)).toNat),xI (gi (X2) ((b:Int))),xI ((gi (X1) ((a:Int)))+ (gi (X2) ((b:Int)))),xI ((eM kind)),xI (((gi (X1) ((a:Int)))+ (gi (X2) ((b:Int))))+ ((eM kind))),xI ((i:Int)),xB (decide (¬(((gi (X1) ((a:Int)))+ (gi (X2) ((b:Int))))+ ((eM kind)))=((i:Int)))),xB (false),xI (kind),xB (decide ((kind)=((1:Int)))),xB (true),xI ((a:Int)),xB (decide (((a:Int))=((0:Int)))),xB (true),xU,xU,xB (true),xB (true),xB (true),xB (true),xU,xU,xU,xU,xU,xU,xU,xU,xU,xU,xU,xU,xU,xU,xU,xU,xU,xU,xB (true)] (by kernel_rfl) (by kernel_rfl) O (eg O) ?_ ?_
     ·exact⟨fun _ _ hb _ _=>aH (lk.below hb) O O O O inferInstance (Az O),fun _ _ hb _ _=>aM (lk.below hb) O O O O O (Az O),Dr O,fun _ _ hb _ _=>aw (kU.later hb).2 O O O (by omega) (by omega) (Az O),fun _ _ hb _ _=>aT (kU.later hb) O (by omega) O O (Az O),fun _ _ hb _ _=>aH (lH.below hb) O O O O inferInstance (Az O),fun _ _ hb _ _=>aM (lH.below hb) O O O O O (Az O),Dr O,fun _ _ hb _ _=>aw (lz.later hb).2 O O O (by omega) (by omega) (Az O),fun _ _ hb _ _=>aT (lz.later hb) O (by omega) O O (Az O),fun _ _ _ _ _=>aa.add O O O (by omega) (Az O),Dr O,fun _ _ _ _ _=>aa.add O O O (by omega) (Az O),Dr O,Dr O,fun _ _ _ _ _=>Dk O (by exact ax Value.bool (cd (fun h=>h q1))),Dr O,Dr O,fun _ _ _ _ _=>Dk O (by exact ax Value.bool (dX k1)),Dr O,Dr O,fun _ _ _ _ _=>Dk O (by exact ax Value.bool (dX p1)),Dr O,Dr O,Dr O,Dr O,Dr O,fun _ _ _ _ _=>Dk O (by exact ax Value.bool (O)),Dr O,Dr O,Dr O,Dr O,Dr O,Dr O,Dr O,Dr O,Dr O,Dr O,Dr O,Dr O,Dr O,Dr O,Dr O,Dr O,Dr O,Dr O,Dr O,ae⟩
     intro u dW qk _;have hS:=hS.later qk;refine eo O (Cd.gj O ?_);have e6:=e6 (fun h=>h.2 (hex.2 (.inl ⟨k1,.inl p1⟩)));refine av O (aa.add O O O (by omega) (aF O (tQ ?_)));exact⟨(b+1,(a6,cT),(df,gq),(AR,cR)),by show N2+2 - (b+1)<N2+2 - b;omega,⟨O,O,O,O,O,O,O,ax (fun L:List (Int×Int)=>Value.slice a6 L.length cT) e6.symm,ax (fun L:List (Int×Int)=>Value.slice df L.length gq) e6.symm,O,O,O,ae⟩,by show b+1≤N2+2;omega,by show St w dW (qI a6 df eJ AR cT gq cR (gA _ _ _ _ kind i a (b+1)) _ k KK);rw [e6];exact hS⟩
    ·refine bP O ?_;refine dI [xP (aq (A3) 1),xS (X8) (N1+2) (cx),xI ((a:Int)),xP (aq (X8) ((a:Int)).toNat),xI (gi (X1) ((a:Int))),xP (aq (A4) 1),xS (Z8) (N2+2) (cz),xI ((b:Int)),xP (aq (Z8) ((b:Int)).toNat),xI (gi (X2) ((b:Int))),xI ((gi (X1) ((a:Int)))+ (gi (X2) ((b:Int)))),xI ((eM kind)),xI (((gi (X1) ((a:Int)))+ (gi (X2) ((b:Int))))+ ((eM kind))),xI ((i:Int)),xB (decide (¬(((gi (X1) ((a:Int)))+ (gi (X2) ((b:Int))))+ ((eM kind)))=((i:Int)))),xB (false),xI (kind),xB (decide ((kind)=((1:Int)))),xB (true),xI ((a:Int)),xB (decide (((a:Int))=((0:Int)))),xB (false),xI ((b:Int)),xB (decide (((b:Int))=((0:Int)))),xB (decide (((b:Int))=((0:Int)))),xB (decide (((b:Int))=((0:Int)))),xB (decide (((b:Int))=((0:Int)))),xB (true),xU,xU,xU,xU,xU,xU,xU,xU,xU,xU,xU,xU,xU,xU,xU,xU,xU,xU,xB (true)] (by kernel_rfl) (by kernel_rfl) O (eg O) ?_ ?_
     ·exact⟨fun _ _ hb _ _=>aH (lk.below hb) O O O O inferInstance (Az O),fun _ _ hb _ _=>aM (lk.below hb) O O O O O (Az O),Dr O,fun _ _ hb _ _=>aw (kU.later hb).2 O O O (by omega) (by omega) (Az O),fun _ _ hb _ _=>aT (kU.later hb) O (by omega) O O (Az O),fun _ _ hb _ _=>aH (lH.below hb) O O O O inferInstance (Az O),fun _ _ hb _ _=>aM (lH.below hb) O O O O O (Az O),Dr O,fun _ _ hb _ _=>aw (lz.later hb).2 O O O (by omega) (by omega) (Az O),fun _ _ hb _ _=>aT (lz.later hb) O (by omega) O O (Az O),fun _ _ _ _ _=>aa.add O O O (by omega) (Az O),Dr O,fun _ _ _ _ _=>aa.add O O O (by omega) (Az O),Dr O,Dr O,fun _ _ _ _ _=>Dk O (by exact ax Value.bool (cd (fun h=>h q1))),Dr O,Dr O,fun _ _ _ _ _=>Dk O (by exact ax Value.bool (dX k1)),Dr O,Dr O,fun _ _ _ _ _=>Dk O (by exact ax Value.bool (cd p1)),Dr O,Dr O,Dr O,Dr O,Dr O,fun _ _ _ _ _=>Dk O (by exact ax Value.bool (dX p2)),Dr O,Dr O,Dr O,Dr O,Dr O,Dr O,Dr O,Dr O,Dr O,Dr O,Dr O,Dr O,Dr O,Dr O,Dr O,Dr O,Dr O,Dr O,Dr O,ae⟩
     intro u dW qk _;have hS:=hS.later qk;refine eo O (Cd.gj O ?_);have e6:=e6 (fun h=>h.2 (hex.2 (.inl ⟨k1,.inr p2⟩)));refine av O (aa.add O O O (by omega) (aF O (tQ ?_)));exact⟨(b+1,(a6,cT),(df,gq),(AR,cR)),by show N2+2 - (b+1)<N2+2 - b;omega,⟨O,O,O,O,O,O,O,ax (fun L:List (Int×Int)=>Value.slice a6 L.length cT) e6.symm,ax (fun L:List (Int×Int)=>Value.slice df L.length gq) e6.symm,O,O,O,ae⟩,by show b+1≤N2+2;omega,by show St w dW (qI a6 df eJ AR cT gq cR (gA _ _ _ _ kind i a (b+1)) _ k KK);rw [e6];exact hS⟩
    ·refine bP O ?_;refine dI [xP (aq (A3) 1),xS (X8) (N1+2) (cx),xI ((a:Int)),xP (aq (X8) ((a:Int)).toNat),xI (gi (X1) ((a:Int))),xP (aq (A4) 1),xS (Z8) (N2+2) (cz),xI ((b:Int)),xP (aq (Z8) ((b:Int)).toNat),xI (gi (X2) ((b:Int))),xI ((gi (X1) ((a:Int)))+ (gi (X2) ((b:Int)))),xI ((eM kind)),xI (((gi (X1) ((a:Int)))+ (gi (X2) ((b:Int))))+ ((eM kind))),xI ((i:Int)),xB (decide (¬(((gi (X1) ((a:Int)))+ (gi (X2) ((b:Int))))+ ((eM kind)))=((i:Int)))),xB (false),xI (kind),xB (decide ((kind)=((1:Int)))),xB (true),xI ((a:Int)),xB (decide (((a:Int))=((0:Int)))),xB (false),xI ((b:Int)),xB (decide (((b:Int))=((0:Int)))),xB (decide (((b:Int))=((0:Int)))),xB (decide (((b:Int))=((0:Int)))),xB (decide (((b:Int))=((0:Int)))),xB (false),xI (kind),xB (decide ((kind)=((2:Int)))),xB (false),xU,xU,xU,xU,xU,xU,xU,xU,xU,xU,xU,xU,xU,xU,xB (false),xB (false)] (by kernel_rfl) (by kernel_rfl) O (eg O) ?_ ?_
     ·exact⟨fun _ _ hb _ _=>aH (lk.below hb) O O O O inferInstance (Az O),fun _ _ hb _ _=>aM (lk.below hb) O O O O O (Az O),Dr O,fun _ _ hb _ _=>aw (kU.later hb).2 O O O (by omega) (by omega) (Az O),fun _ _ hb _ _=>aT (kU.later hb) O (by omega) O O (Az O),fun _ _ hb _ _=>aH (lH.below hb) O O O O inferInstance (Az O),fun _ _ hb _ _=>aM (lH.below hb) O O O O O (Az O),Dr O,fun _ _ hb _ _=>aw (lz.later hb).2 O O O (by omega) (by omega) (Az O),fun _ _ hb _ _=>aT (lz.later hb) O (by omega) O O (Az O),fun _ _ _ _ _=>aa.add O O O (by omega) (Az O),Dr O,fun _ _ _ _ _=>aa.add O O O (by omega) (Az O),Dr O,Dr O,fun _ _ _ _ _=>Dk O (by exact ax Value.bool (cd (fun h=>h q1))),Dr O,Dr O,fun _ _ _ _ _=>Dk O (by exact ax Value.bool (dX k1)),Dr O,Dr O,fun _ _ _ _ _=>Dk O (by exact ax Value.bool (cd p1)),Dr O,Dr O,Dr O,Dr O,Dr O,fun _ _ _ _ _=>Dk O (by exact ax Value.bool (cd p2)),Dr O,Dr O,fun _ _ _ _ _=>Dk O (by exact ax Value.bool (cd (by omega))),Dr O,Dr O,Dr O,Dr O,Dr O,Dr O,Dr O,Dr O,Dr O,Dr O,Dr O,Dr O,Dr O,Dr O,Dr O,Dr O,ae⟩
     intro u dW qk _;have hS:=hS.later qk;refine eo O (Cd.eV O ?_);have mP:=mP ⟨by rw [jL];exact q1,fun h=>by have:=hex.1 h;omega⟩;have pR:(gA (N1+2) (N2+2) (gi X1) (gi X2) kind i a (b+1)).length=(gA (N1+2) (N2+2) (gi X1) (gi X2) kind i a b).length+1:=by rw [mP,dm];rfl
     refine av O (dJ hS O O O ?_);intro MX me ic;refine eK 1 ic O (ic.bc 0 O) O O O (by omega) (by omega) O ?_;intro AZ cZ mG gr;have gr:=gr.tail;refine ad O (dJ gr O O O ?_);intro MY rP kP;refine eK 2 kP O (kP.bc 0 O) O O O (by omega) (by omega) O ?_;intro AQ cQ mH fV;have fV:=fV.tail;refine ad O (aH (fV.rd 2 O) O O O O inferInstance (aM (j:=1) (fV.rd 2 O) (by exact ax Value.pointer O) O O O O (ad O (dJ fV O O O ?_))));intro MZ tZ ko;refine eK 4 ko O (ko.bc 0 O) O O O (by omega) (by omega) O ?_;intro AW cW vL oU;refine aH (oU.rd 3 O) O O O O inferInstance (jS 3 (j:=1) oU O O O O O ?_);intro kh fK;have fK:=fK.tail;refine ad O (aa.add O O O (by omega) (aF O (tQ ?_)));refine⟨(b+1,(AZ,cZ),(AQ,cQ),(AW,cW)),by show N2+2 - (b+1)<N2+2 - b;omega,⟨O,O,O,O,O,O,O,ax (fun m:Nat=>Value.slice AZ m cZ) pR.symm,ax (fun m:Nat=>Value.slice AQ m cQ) pR.symm,O,O,O,ae⟩,by show b+1≤N2+2;omega,?_⟩;show St w kh (qI AZ AQ eJ AW cZ cQ cW (gA _ _ _ _ kind i a (b+1)) _ k KK);unfold qI;rw [pR,mP,iQ,iQ,iQ];rw [show [((a:Int),(b:Int))].map (b8 (gi X1) (gi X2) kind)=[(i:Int)] from ax (fun x=> [x]) (jL.trans q1)];exact fK
    ·refine bP O ?_;refine dI [xP (aq (A3) 1),xS (X8) (N1+2) (cx),xI ((a:Int)),xP (aq (X8) ((a:Int)).toNat),xI (gi (X1) ((a:Int))),xP (aq (A4) 1),xS (Z8) (N2+2) (cz),xI ((b:Int)),xP (aq (Z8) ((b:Int)).toNat),xI (gi (X2) ((b:Int))),xI ((gi (X1) ((a:Int)))+ (gi (X2) ((b:Int)))),xI ((eM kind)),xI (((gi (X1) ((a:Int)))+ (gi (X2) ((b:Int))))+ ((eM kind))),xI ((i:Int)),xB (decide (¬(((gi (X1) ((a:Int)))+ (gi (X2) ((b:Int))))+ ((eM kind)))=((i:Int)))),xB (false),xI (kind),xB (decide ((kind)=((1:Int)))),xB (false),xU,xU,xU,xU,xU,xU,xB (false),xB (false),xB (false),xI (kind),xB (decide ((kind)=((2:Int)))),xB (true),xI ((a:Int)),xP (aq (A3) 1),xS (X8) (N1+2) (cx),xI (((N1+2:Nat):Int)),xI ((((N1+2:Nat):Int)) - ((1:Int))),xB (decide (((a:Int))=((((N1+2:Nat):Int)) - ((1:Int))))),xB (true),xU,xU,xU,xU,xU,xU,xB (true),xB (true),xB (true)] (by kernel_rfl) (by kernel_rfl) O (eg O) ?_ ?_
     ·exact⟨fun _ _ hb _ _=>aH (lk.below hb) O O O O inferInstance (Az O),fun _ _ hb _ _=>aM (lk.below hb) O O O O O (Az O),Dr O,fun _ _ hb _ _=>aw (kU.later hb).2 O O O (by omega) (by omega) (Az O),fun _ _ hb _ _=>aT (kU.later hb) O (by omega) O O (Az O),fun _ _ hb _ _=>aH (lH.below hb) O O O O inferInstance (Az O),fun _ _ hb _ _=>aM (lH.below hb) O O O O O (Az O),Dr O,fun _ _ hb _ _=>aw (lz.later hb).2 O O O (by omega) (by omega) (Az O),fun _ _ hb _ _=>aT (lz.later hb) O (by omega) O O (Az O),fun _ _ _ _ _=>aa.add O O O (by omega) (Az O),Dr O,fun _ _ _ _ _=>aa.add O O O (by omega) (Az O),Dr O,Dr O,fun _ _ _ _ _=>Dk O (by exact ax Value.bool (cd (fun h=>h q1))),Dr O,Dr O,fun _ _ _ _ _=>Dk O (by exact ax Value.bool (cd (by omega))),Dr O,Dr O,Dr O,Dr O,Dr O,Dr O,Dr O,Dr O,fun _ _ _ _ _=>Dk O (by exact ax Value.bool (O)),Dr O,Dr O,fun _ _ _ _ _=>Dk O (by exact ax Value.bool (dX k1)),Dr O,fun _ _ hb _ _=>aa.g O O O (aH (lk.below hb) O O O O inferInstance (Az O)),fun _ _ hb _ _=>aa.g O O O (aM (lk.below hb) O O O O O (Az O)),fun _ _ _ _ _=>aa.g O O O (aa.len O O (Az O)),fun _ _ _ _ _=>aa.g O O O (aa.sub O O O (by omega) (Az O)),Dr O,fun _ _ _ _ _=>Dk O (by exact ax Value.bool (dX p1)),Dr O,Dr O,Dr O,Dr O,Dr O,Dr O,Dr O,Dr O,Dr O,ae⟩
     intro u dW qk _;have hS:=hS.later qk;refine eo O (Cd.gj O ?_);have e6:=e6 (fun h=>h.2 (hex.2 (.inr ⟨k1,.inl p1⟩)));refine av O (aa.add O O O (by omega) (aF O (tQ ?_)));exact⟨(b+1,(a6,cT),(df,gq),(AR,cR)),by show N2+2 - (b+1)<N2+2 - b;omega,⟨O,O,O,O,O,O,O,ax (fun L:List (Int×Int)=>Value.slice a6 L.length cT) e6.symm,ax (fun L:List (Int×Int)=>Value.slice df L.length gq) e6.symm,O,O,O,ae⟩,by show b+1≤N2+2;omega,by show St w dW (qI a6 df eJ AR cT gq cR (gA _ _ _ _ kind i a (b+1)) _ k KK);rw [e6];exact hS⟩
    ·refine bP O ?_;refine dI [xP (aq (A3) 1),xS (X8) (N1+2) (cx),xI ((a:Int)),xP (aq (X8) ((a:Int)).toNat),xI (gi (X1) ((a:Int))),xP (aq (A4) 1),xS (Z8) (N2+2) (cz),xI ((b:Int)),xP (aq (Z8) ((b:Int)).toNat),xI (gi (X2) ((b:Int))),xI ((gi (X1) ((a:Int)))+ (gi (X2) ((b:Int)))),xI ((eM kind)),xI (((gi (X1) ((a:Int)))+ (gi (X2) ((b:Int))))+ ((eM kind))),xI ((i:Int)),xB (decide (¬(((gi (X1) ((a:Int)))+ (gi (X2) ((b:Int))))+ ((eM kind)))=((i:Int)))),xB (false),xI (kind),xB (decide ((kind)=((1:Int)))),xB (false),xU,xU,xU,xU,xU,xU,xB (false),xB (false),xB (false),xI (kind),xB (decide ((kind)=((2:Int)))),xB (true),xI ((a:Int)),xP (aq (A3) 1),xS (X8) (N1+2) (cx),xI (((N1+2:Nat):Int)),xI ((((N1+2:Nat):Int)) - ((1:Int))),xB (decide (((a:Int))=((((N1+2:Nat):Int)) - ((1:Int))))),xB (false),xI ((b:Int)),xP (aq (A4) 1),xS (Z8) (N2+2) (cz),xI (((N2+2:Nat):Int)),xI ((((N2+2:Nat):Int)) - ((1:Int))),xB (decide (((b:Int))=((((N2+2:Nat):Int)) - ((1:Int))))),xB (decide (((b:Int))=((((N2+2:Nat):Int)) - ((1:Int))))),xB (decide (((b:Int))=((((N2+2:Nat):Int)) - ((1:Int))))),xB (decide (((b:Int))=((((N2+2:Nat):Int)) - ((1:Int)))))] (by kernel_rfl) (by kernel_rfl) O (eg O) ?_ ?_
     ·exact⟨fun _ _ hb _ _=>aH (lk.below hb) O O O O inferInstance (Az O),fun _ _ hb _ _=>aM (lk.below hb) O O O O O (Az O),Dr O,fun _ _ hb _ _=>aw (kU.later hb).2 O O O (by omega) (by omega) (Az O),fun _ _ hb _ _=>aT (kU.later hb) O (by omega) O O (Az O),fun _ _ hb _ _=>aH (lH.below hb) O O O O inferInstance (Az O),fun _ _ hb _ _=>aM (lH.below hb) O O O O O (Az O),Dr O,fun _ _ hb _ _=>aw (lz.later hb).2 O O O (by omega) (by omega) (Az O),fun _ _ hb _ _=>aT (lz.later hb) O (by omega) O O (Az O),fun _ _ _ _ _=>aa.add O O O (by omega) (Az O),Dr O,fun _ _ _ _ _=>aa.add O O O (by omega) (Az O),Dr O,Dr O,fun _ _ _ _ _=>Dk O (by exact ax Value.bool (cd (fun h=>h q1))),Dr O,Dr O,fun _ _ _ _ _=>Dk O (by exact ax Value.bool (cd (by omega))),Dr O,Dr O,Dr O,Dr O,Dr O,Dr O,Dr O,Dr O,fun _ _ _ _ _=>Dk O (by exact ax Value.bool (O)),Dr O,Dr O,fun _ _ _ _ _=>Dk O (by exact ax Value.bool (dX k1)),Dr O,fun _ _ hb _ _=>aa.g O O O (aH (lk.below hb) O O O O inferInstance (Az O)),fun _ _ hb _ _=>aa.g O O O (aM (lk.below hb) O O O O O (Az O)),fun _ _ _ _ _=>aa.g O O O (aa.len O O (Az O)),fun _ _ _ _ _=>aa.g O O O (aa.sub O O O (by omega) (Az O)),Dr O,fun _ _ _ _ _=>Dk O (by exact ax Value.bool (cd p1)),Dr O,fun _ _ hb _ _=>aa.g O O O (aH (lH.below hb) O O O O inferInstance (Az O)),fun _ _ hb _ _=>aa.g O O O (aM (lH.below hb) O O O O O (Az O)),fun _ _ _ _ _=>aa.g O O O (aa.len O O (Az O)),fun _ _ _ _ _=>aa.g O O O (aa.sub O O O (by omega) (Az O)),Dr O,Dr O,Dr O,Dr O,ae⟩
     intro u dW qk _;have hS:=hS.later qk;refine eo O (C4 O p2 ?_);have e6:=e6 (fun h=>h.2 (hex.2 (.inr ⟨k1,.inr p2⟩)));refine av O (aa.add O O O (by omega) (aF O (tQ ?_)));exact⟨(b+1,(a6,cT),(df,gq),(AR,cR)),by show N2+2 - (b+1)<N2+2 - b;omega,⟨O,O,O,O,O,O,O,ax (fun L:List (Int×Int)=>Value.slice a6 L.length cT) e6.symm,ax (fun L:List (Int×Int)=>Value.slice df L.length gq) e6.symm,O,O,O,ae⟩,by show b+1≤N2+2;omega,by show St w dW (qI a6 df eJ AR cT gq cR (gA _ _ _ _ kind i a (b+1)) _ k KK);rw [e6];exact hS⟩
    ·refine bP O ?_;refine dI [xP (aq (A3) 1),xS (X8) (N1+2) (cx),xI ((a:Int)),xP (aq (X8) ((a:Int)).toNat),xI (gi (X1) ((a:Int))),xP (aq (A4) 1),xS (Z8) (N2+2) (cz),xI ((b:Int)),xP (aq (Z8) ((b:Int)).toNat),xI (gi (X2) ((b:Int))),xI ((gi (X1) ((a:Int)))+ (gi (X2) ((b:Int)))),xI ((eM kind)),xI (((gi (X1) ((a:Int)))+ (gi (X2) ((b:Int))))+ ((eM kind))),xI ((i:Int)),xB (decide (¬(((gi (X1) ((a:Int)))+ (gi (X2) ((b:Int))))+ ((eM kind)))=((i:Int)))),xB (false),xI (kind),xB (decide ((kind)=((1:Int)))),xB (false),xU,xU,xU,xU,xU,xU,xB (false),xB (false),xB (false),xI (kind),xB (decide ((kind)=((2:Int)))),xB (true),xI ((a:Int)),xP (aq (A3) 1),xS (X8) (N1+2) (cx),xI (((N1+2:Nat):Int)),xI ((((N1+2:Nat):Int)) - ((1:Int))),xB (decide (((a:Int))=((((N1+2:Nat):Int)) - ((1:Int))))),xB (false),xI ((b:Int)),xP (aq (A4) 1),xS (Z8) (N2+2) (cz),xI (((N2+2:Nat):Int)),xI ((((N2+2:Nat):Int)) - ((1:Int))),xB (decide (((b:Int))=((((N2+2:Nat):Int)) - ((1:Int))))),xB (decide (((b:Int))=((((N2+2:Nat):Int)) - ((1:Int))))),xB (decide (((b:Int))=((((N2+2:Nat):Int)) - ((1:Int))))),xB (decide (((b:Int))=((((N2+2:Nat):Int)) - ((1:Int)))))] (by kernel_rfl) (by kernel_rfl) O (eg O) ?_ ?_
     ·exact⟨fun _ _ hb _ _=>aH (lk.below hb) O O O O inferInstance (Az O),fun _ _ hb _ _=>aM (lk.below hb) O O O O O (Az O),Dr O,fun _ _ hb _ _=>aw (kU.later hb).2 O O O (by omega) (by omega) (Az O),fun _ _ hb _ _=>aT (kU.later hb) O (by omega) O O (Az O),fun _ _ hb _ _=>aH (lH.below hb) O O O O inferInstance (Az O),fun _ _ hb _ _=>aM (lH.below hb) O O O O O (Az O),Dr O,fun _ _ hb _ _=>aw (lz.later hb).2 O O O (by omega) (by omega) (Az O),fun _ _ hb _ _=>aT (lz.later hb) O (by omega) O O (Az O),fun _ _ _ _ _=>aa.add O O O (by omega) (Az O),Dr O,fun _ _ _ _ _=>aa.add O O O (by omega) (Az O),Dr O,Dr O,fun _ _ _ _ _=>Dk O (by exact ax Value.bool (cd (fun h=>h q1))),Dr O,Dr O,fun _ _ _ _ _=>Dk O (by exact ax Value.bool (cd (by omega))),Dr O,Dr O,Dr O,Dr O,Dr O,Dr O,Dr O,Dr O,fun _ _ _ _ _=>Dk O (by exact ax Value.bool (O)),Dr O,Dr O,fun _ _ _ _ _=>Dk O (by exact ax Value.bool (dX k1)),Dr O,fun _ _ hb _ _=>aa.g O O O (aH (lk.below hb) O O O O inferInstance (Az O)),fun _ _ hb _ _=>aa.g O O O (aM (lk.below hb) O O O O O (Az O)),fun _ _ _ _ _=>aa.g O O O (aa.len O O (Az O)),fun _ _ _ _ _=>aa.g O O O (aa.sub O O O (by omega) (Az O)),Dr O,fun _ _ _ _ _=>Dk O (by exact ax Value.bool (cd p1)),Dr O,fun _ _ hb _ _=>aa.g O O O (aH (lH.below hb) O O O O inferInstance (Az O)),fun _ _ hb _ _=>aa.g O O O (aM (lH.below hb) O O O O O (Az O)),fun _ _ _ _ _=>aa.g O O O (aa.len O O (Az O)),fun _ _ _ _ _=>aa.g O O O (aa.sub O O O (by omega) (Az O)),Dr O,Dr O,Dr O,Dr O,ae⟩
     intro u dW qk _;have hS:=hS.later qk;refine eo O (qM O p2 ?_);have mP:=mP ⟨by rw [jL];exact q1,fun h=>by have:=hex.1 h;omega⟩;have pR:(gA (N1+2) (N2+2) (gi X1) (gi X2) kind i a (b+1)).length=(gA (N1+2) (N2+2) (gi X1) (gi X2) kind i a b).length+1:=by rw [mP,dm];rfl
     refine av O (dJ hS O O O ?_);intro MX me ic;refine eK 1 ic O (ic.bc 0 O) O O O (by omega) (by omega) O ?_;intro AZ cZ mG gr;have gr:=gr.tail;refine ad O (dJ gr O O O ?_);intro MY rP kP;refine eK 2 kP O (kP.bc 0 O) O O O (by omega) (by omega) O ?_;intro AQ cQ mH fV;have fV:=fV.tail;refine ad O (aH (fV.rd 2 O) O O O O inferInstance (aM (j:=1) (fV.rd 2 O) (by exact ax Value.pointer O) O O O O (ad O (dJ fV O O O ?_))));intro MZ tZ ko;refine eK 4 ko O (ko.bc 0 O) O O O (by omega) (by omega) O ?_;intro AW cW vL oU;refine aH (oU.rd 3 O) O O O O inferInstance (jS 3 (j:=1) oU O O O O O ?_);intro kh fK;have fK:=fK.tail;refine ad O (aa.add O O O (by omega) (aF O (tQ ?_)));refine⟨(b+1,(AZ,cZ),(AQ,cQ),(AW,cW)),by show N2+2 - (b+1)<N2+2 - b;omega,⟨O,O,O,O,O,O,O,ax (fun m:Nat=>Value.slice AZ m cZ) pR.symm,ax (fun m:Nat=>Value.slice AQ m cQ) pR.symm,O,O,O,ae⟩,by show b+1≤N2+2;omega,?_⟩;show St w kh (qI AZ AQ eJ AW cZ cQ cW (gA _ _ _ _ kind i a (b+1)) _ k KK);unfold qI;rw [pR,mP,iQ,iQ,iQ];rw [show [((a:Int),(b:Int))].map (b8 (gi X1) (gi X2) kind)=[(i:Int)] from ax (fun x=> [x]) (jL.trans q1)];exact fK
    refine bP O ?_;refine dI [xP (aq (A3) 1),xS (X8) (N1+2) (cx),xI ((a:Int)),xP (aq (X8) ((a:Int)).toNat),xI (gi (X1) ((a:Int))),xP (aq (A4) 1),xS (Z8) (N2+2) (cz),xI ((b:Int)),xP (aq (Z8) ((b:Int)).toNat),xI (gi (X2) ((b:Int))),xI ((gi (X1) ((a:Int)))+ (gi (X2) ((b:Int)))),xI ((eM kind)),xI (((gi (X1) ((a:Int)))+ (gi (X2) ((b:Int))))+ ((eM kind))),xI ((i:Int)),xB (decide (¬(((gi (X1) ((a:Int)))+ (gi (X2) ((b:Int))))+ ((eM kind)))=((i:Int)))),xB (false),xI (kind),xB (decide ((kind)=((1:Int)))),xB (false),xU,xU,xU,xU,xU,xU,xB (false),xB (false),xB (false),xI (kind),xB (decide ((kind)=((2:Int)))),xB (false),xU,xU,xU,xU,xU,xU,xU,xU,xU,xU,xU,xU,xU,xU,xB (false),xB (false)] (by kernel_rfl) (by kernel_rfl) O (eg O) ?_ ?_
    ·exact⟨fun _ _ hb _ _=>aH (lk.below hb) O O O O inferInstance (Az O),fun _ _ hb _ _=>aM (lk.below hb) O O O O O (Az O),Dr O,fun _ _ hb _ _=>aw (kU.later hb).2 O O O (by omega) (by omega) (Az O),fun _ _ hb _ _=>aT (kU.later hb) O (by omega) O O (Az O),fun _ _ hb _ _=>aH (lH.below hb) O O O O inferInstance (Az O),fun _ _ hb _ _=>aM (lH.below hb) O O O O O (Az O),Dr O,fun _ _ hb _ _=>aw (lz.later hb).2 O O O (by omega) (by omega) (Az O),fun _ _ hb _ _=>aT (lz.later hb) O (by omega) O O (Az O),fun _ _ _ _ _=>aa.add O O O (by omega) (Az O),Dr O,fun _ _ _ _ _=>aa.add O O O (by omega) (Az O),Dr O,Dr O,fun _ _ _ _ _=>Dk O (by exact ax Value.bool (cd (fun h=>h q1))),Dr O,Dr O,fun _ _ _ _ _=>Dk O (by exact ax Value.bool (cd (by omega))),Dr O,Dr O,Dr O,Dr O,Dr O,Dr O,Dr O,Dr O,fun _ _ _ _ _=>Dk O (by exact ax Value.bool (O)),Dr O,Dr O,fun _ _ _ _ _=>Dk O (by exact ax Value.bool (cd (by omega))),Dr O,Dr O,Dr O,Dr O,Dr O,Dr O,Dr O,Dr O,Dr O,Dr O,Dr O,Dr O,Dr O,Dr O,Dr O,Dr O,ae⟩
    intro u dW qk _;have hS:=hS.later qk;refine eo O (Cd.eV O ?_);have mP:=mP ⟨by rw [jL];exact q1,fun h=>by have:=hex.1 h;omega⟩;have pR:(gA (N1+2) (N2+2) (gi X1) (gi X2) kind i a (b+1)).length=(gA (N1+2) (N2+2) (gi X1) (gi X2) kind i a b).length+1:=by rw [mP,dm];rfl
    refine av O (dJ hS O O O ?_);intro MX me ic;refine eK 1 ic O (ic.bc 0 O) O O O (by omega) (by omega) O ?_;intro AZ cZ mG gr;have gr:=gr.tail;refine ad O (dJ gr O O O ?_);intro MY rP kP;refine eK 2 kP O (kP.bc 0 O) O O O (by omega) (by omega) O ?_;intro AQ cQ mH fV;have fV:=fV.tail;refine ad O (aH (fV.rd 2 O) O O O O inferInstance (aM (j:=1) (fV.rd 2 O) (by exact ax Value.pointer O) O O O O (ad O (dJ fV O O O ?_))));intro MZ tZ ko;refine eK 4 ko O (ko.bc 0 O) O O O (by omega) (by omega) O ?_;intro AW cW vL oU;refine aH (oU.rd 3 O) O O O O inferInstance (jS 3 (j:=1) oU O O O O O ?_);intro kh fK;have fK:=fK.tail;refine ad O (aa.add O O O (by omega) (aF O (tQ ?_)));refine⟨(b+1,(AZ,cZ),(AQ,cQ),(AW,cW)),by show N2+2 - (b+1)<N2+2 - b;omega,⟨O,O,O,O,O,O,O,ax (fun m:Nat=>Value.slice AZ m cZ) pR.symm,ax (fun m:Nat=>Value.slice AQ m cQ) pR.symm,O,O,O,ae⟩,by show b+1≤N2+2;omega,?_⟩;show St w kh (qI AZ AQ eJ AW cZ cQ cW (gA _ _ _ _ kind i a (b+1)) _ k KK);unfold qI;rw [pR,mP,iQ,iQ,iQ];rw [show [((a:Int),(b:Int))].map (b8 (gi X1) (gi X2) kind)=[(i:Int)] from ax (fun x=> [x]) (jL.trans q1)];exact fK
   have qm:b=N2+2:=by omega
   subst qm;rw [←afm]at hS⊢;refine aY O (aZ (cL O (aa.add O O O (by omega) (aF O (tQ ?_)))));exact⟨(a+1,(a6,cT),(df,gq),(AR,cR)),by show N1+2 - (a+1)<N1+2 - a;omega,⟨O,O,O,O,O,O,O,O,O,O,O,ae⟩,by show a+1≤N1+2;omega,hS⟩
  have tB:a=N1+2:=by omega
  subst tB;rw [afl]at hS⊢;have G6:=TL (m1:=N1+2) (m2:=N2+2) (rk1:=gi X1) (rk2:=gi X2) (kind:=kind) (show i+1≤k by omega);have tM:gA (N1+2) (N2+2) (gi X1) (gi X2) kind (i+1) 0 0=bT (N1+2) (N2+2) (gi X1) (gi X2) kind (i+1):=HI;rw [tM];refine aY O (aZ (cL O (aa.len O O (ay O ?_))));refine aB _ O (fun h4=>?_) (fun h4=>?_)
  ·have oi:=hS;rw [qZ]at oi;refine av O (vS (by exact inferInstance) (by exact inferInstance) (by exact inferInstance) O (bG 3 4 oi O O O O O O O ?_));intro dW fC;refine bh O (eZ (eE ?_));refine kA O (fC.rd 4 O) O ?_;exact .inl ⟨.inr (by rw [fN];omega),O,fC.none⟩
  refine av O (aa.add O O O (by omega) (aF O (tQ ?_)));rw [←tM];exact⟨(i+1,(a6,cT),(df,gq),(AR,cR)),by show k - (i+1)<k - i;omega,⟨O,O,O,O,O,O,O,O,O,O,ae⟩,by show i+1≤k;omega,by show(bT _ _ _ _ kind (i+1)).length≤500;omega,hS⟩
 obtain rfl:i=k:=by omega
 rw [HI]at hS⊢;have jJ:=fun(c:Int×Int)=> (rK (m1:=N1+2) (m2:=N2+2) (rk1:=gi X1) (rk2:=gi X2) (kind:=kind) (k:=i) (c:=c))
 have aS:=hS.nil 32;generalize bT (N1+2) (N2+2) (gi X1) (gi X2) kind i=PL at*;clear hS;have hPL:PL.length≤500:=hlen;have dq:∀e:Nat,e<PL.length→(0≤(gp PL (e:Int)).1∧(gp PL (e:Int)).1< (N1:Int)+2)∧(0≤(gp PL (e:Int)).2∧(gp PL (e:Int)).2< (N2:Int)+2):=fun e he=>by
  have hm:gp PL (e:Int)∈PL:=by rw [tq he];exact dQ _
  obtain⟨j,hj,hE⟩:=(jJ _).1 hm;have q1:=hE.1;have q2:=hE.2.1;refine⟨⟨q1.1,?_⟩,q2.1,?_⟩
  ·have:=q1.2;omega
  have:=q2.2;omega
 have QV:∀e:Nat,e<PL.length→gi (PL.map Prod.fst) (e:Int)=(gp PL (e:Int)).1∧gi (PL.map Prod.snd) (e:Int)=(gp PL (e:Int)).2:=fun e he=>by
  rw [bX (by rw [fN];exact he),bX (by rw [fN];exact he),List.getElem_map,List.getElem_map,tq he];exact⟨O,O⟩
 have B7:=fun i=>TI N1 N2 B1 B2 PL i
 have oo:=fun i=>CP N1 N2 B1 B2 PL i
 have uC:=fun i (h:i≤PL.length)=>NL N1 N2 B1 B2 PL h
 have D1:=fun i e=>NN N1 N2 B1 B2 PL i e
 have qm:=fun i e=>NM N1 N2 B1 B2 PL i e
 have x6:∀e:Int,0≤e→e< (N1:Int)→∀d∈gl B1 e,0≤d∧d< (N1:Int):=fun e h0 h1=> (tu.bd e h0 h1).2
 have si:∀e:Int,0≤e→e< (N2:Int)→∀d∈gl B2 e,0≤d∧d< (N2:Int):=fun e h0 h1=> (od.bd e h0 h1).2
 have pR:=fun(b:Int) h=>Nx (B:=B1) (fun e h0 h1=> (tu.bd e h0 h1).1) cN (b:=b) h
 have vt:=fun(b:Int) h=>Nx (B:=B2) (fun e h0 h1=> (od.bd e h0 h1).1) dG (b:=b) h
 rw [qZ]at aS;have aS:St w dB (E3 a6 df eJ AR none cT gq cR 0 0 PL (b8 (gi X1) (gi X2) kind) (i:Int) A6 A4 A3 [aiD n2,.slice Z8 (N2+2) cz,.slice W8 (N2+2) cw] [aiD n1,.slice X8 (N1+2) cx,.slice Y8 (N1+2) cy] [] (o9 N1 N2 B1 B2 PL 0)):=aS.perm (List.perm_append_singleton _ _).symm;clear o0 sG jJ;refine aY O (aZ (nN O ?_));refine Cd.loop (α:=Nat×(aiC×Nat)×List aG) (fun z=> [(3,.pointer A3),(4,.pointer A4),(6,.pointer A6),(10,.slice a6 PL.length cT),(11,.slice df PL.length gq),(12,.pointer eJ),(16,aiD (z.1:Int))]) (fun z w'=>z.1≤PL.length∧z.2.2.length=z.1∧St w w' (E3 a6 df eJ AR z.2.1.1 cT gq cR z.2.1.2 z.1 PL (b8 (gi X1) (gi X2) kind) (i:Int) A6 A4 A3 [aiD n2,.slice Z8 (N2+2) cz,.slice W8 (N2+2) cw] [aiD n1,.slice X8 (N1+2) cx,.slice Y8 (N1+2) cy] z.2.2 (o9 N1 N2 B1 B2 PL z.1))) (fun z=>PL.length - z.1) (0,(none,0),[]) ⟨O,O,O,O,O,O,O,ae⟩ ⟨aW _,O,aS⟩ ?_;clear aS;rintro⟨e,⟨AD,cD⟩,cH⟩ e0 eu ⟨he,ju,hS⟩;dsimp only at he ju hS⊢;refine aQ O (aa.len O O (ay O ?_));refine aB _ O (fun h2=>?_) (fun h2=>?_)
 ·have QL:e<PL.length:=by omega
  have hE:=dq e QL;have Gx:=QV e QL;refine av O (jl hS O ?_);intro H2 gm eG;refine ay O ?_;refine Cd.loop (α:=Nat×aiC×Nat) (fun z=> [(3,.pointer A3),(4,.pointer A4),(6,.pointer A6),(10,.slice a6 PL.length cT),(11,.slice df PL.length gq),(12,.pointer eJ),(16,aiD (e:Int)),(17,.slice z.2.1 (lj N1 N2 B1 B2 PL e z.1).length z.2.2),(18,aiD (z.1:Int))]) (fun z w'=>z.1≤e∧St w w' (ah 2 z.2.1 (lj N1 N2 B1 B2 PL e z.1).length z.2.2 (lj N1 N2 B1 B2 PL e z.1)::E3 a6 df eJ AR AD cT gq cR cD e PL (b8 (gi X1) (gi X2) kind) (i:Int) A6 A4 A3 [aiD n2,.slice Z8 (N2+2) cz,.slice W8 (N2+2) cw] [aiD n1,.slice X8 (N1+2) cx,.slice Y8 (N1+2) cy] cH (o9 N1 N2 B1 B2 PL e))) (fun z=>e - z.1) (0,H2,0) ⟨O,O,O,O,O,O,O,O,O,ae⟩ ⟨aW _,eG⟩ ?_;clear eG hS;rintro⟨q,Ab,cb⟩ e1 dW ⟨hq,hS⟩;dsimp only at hq hS⊢;have Z3:=qm e q;refine bK O ?_;refine aB _ O (fun h3=>?_) (fun h3=>?_)
  ·have yr:q<e:=by omega
   have hQ:=dq q (by omega);have Qe:=QV q (by omega);have uD:=D1 e q;have lk:=hS.rd 7 O;have lH:=hS.rd 6 O;have iL:bS dW a6 PL.length (PL.map Prod.fst):=hS.bc 1 O;have nB:bS dW df PL.length (PL.map Prod.snd):=hS.bc 2 O;have kG:=(tu.later hS.below).bl;have rz:=(od.later hS.below).bl;have jt:0≤gi (PL.map Prod.fst) (e:Int)∧gi (PL.map Prod.fst) (e:Int)< ((N1+2:Nat):Int):=by rw [Gx.1];omega
   have rm:0≤gi (PL.map Prod.snd) (e:Int)∧gi (PL.map Prod.snd) (e:Int)< ((N2+2:Nat):Int):=by rw [Gx.2];omega
   have Rl:(gl (kM N1 B1) (gi (PL.map Prod.fst) (e:Int))).length≤1000000:=by have:=pR _ (show 0≤gi (PL.map Prod.fst) (e:Int)∧gi (PL.map Prod.fst) (e:Int)< (N1:Int)+2 by omega);omega
   have aaN:(gl (kM N2 B2) (gi (PL.map Prod.snd) (e:Int))).length≤1000000:=by have:=vt _ (show 0≤gi (PL.map Prod.snd) (e:Int)∧gi (PL.map Prod.snd) (e:Int)< (N2:Int)+2 by omega);omega
   have vy:(gi (PL.map Prod.fst) (q:Int)=gi (PL.map Prod.fst) (e:Int)∨gi (PL.map Prod.fst) (q:Int)∈gl (kM N1 B1) (gi (PL.map Prod.fst) (e:Int)))↔dS N1 B1 (gp PL (q:Int)).1 (gp PL (e:Int)).1:=by rw [Qe.1,Gx.1];exact NA hQ.1 hE.1 x6
   have jM:(gi (PL.map Prod.snd) (q:Int)=gi (PL.map Prod.snd) (e:Int)∨gi (PL.map Prod.snd) (q:Int)∈gl (kM N2 B2) (gi (PL.map Prod.snd) (e:Int)))↔dS N2 B2 (gp PL (q:Int)).2 (gp PL (e:Int)).2:=by rw [Qe.2,Gx.2];exact NA hQ.2 hE.2 si
   have mR:¬(dS N1 B1 (gp PL (q:Int)).1 (gp PL (e:Int)).1∧dS N2 B2 (gp PL (q:Int)).2 (gp PL (e:Int)).2)→lj N1 N2 B1 B2 PL e (q+1)=lj N1 N2 B1 B2 PL e q:=fun h=>by rw [uD,ag h]
   by_cases h5:gi (PL.map Prod.fst) (q:Int)=gi (PL.map Prod.fst) (e:Int)∨gi (PL.map Prod.fst) (q:Int)∈gl (kM N1 B1) (gi (PL.map Prod.fst) (e:Int))
   ·refine bP O ?_;refine dI [.ex (.agg #[aiD (n1),.slice (X8) (N1+2) (cx),.slice (Y8) (N1+2) (cy)]),xS (a6) (PL.length) (cT),xI ((q:Int)),xP (aq (a6) ((q:Int)).toNat),xI (gi (PL.map Prod.fst) ((q:Int))),xS (a6) (PL.length) (cT),xI ((e:Int)),xP (aq (a6) ((e:Int)).toNat),xI (gi (PL.map Prod.fst) ((e:Int))),xB (true),xB (true),.ex (.agg #[aiD (n2),.slice (Z8) (N2+2) (cz),.slice (W8) (N2+2) (cw)]),xS (df) (PL.length) (gq),xI ((q:Int)),xP (aq (df) ((q:Int)).toNat),xI (gi (PL.map Prod.snd) ((q:Int))),xS (df) (PL.length) (gq),xI ((e:Int)),xP (aq (df) ((e:Int)).toNat),xI (gi (PL.map Prod.snd) ((e:Int))),xB (decide (gi (PL.map Prod.snd) (q:Int)=gi (PL.map Prod.snd) (e:Int)∨gi (PL.map Prod.snd) (q:Int)∈gl (kM N2 B2) (gi (PL.map Prod.snd) (e:Int)))),xB (decide (gi (PL.map Prod.snd) (q:Int)=gi (PL.map Prod.snd) (e:Int)∨gi (PL.map Prod.snd) (q:Int)∈gl (kM N2 B2) (gi (PL.map Prod.snd) (e:Int))))] (by kernel_rfl) (by kernel_rfl) O (eg O) ?_ ?_
    ·refine⟨fun _ _ hb _ _=>aa.bq 2 (lk.below hb) O O O (Az O),Dr O,Dr O,fun _ _ hb _ _=>aw (iL.later hb).2 O O O (by omega) (by omega) (Az O),fun _ _ hb _ _=>aT (iL.later hb) O (by omega) O O (Az O),Dr O,Dr O,fun _ _ hb _ _=>aw (iL.later hb).2 O O O (by omega) (by omega) (Az O),fun _ _ hb _ _=>aT (iL.later hb) O (by omega) O O (Az O),?_,Dr O,fun _ _ hb _ _=>aa.g O O O (aa.bq 2 (lH.below hb) O O O (Az O)),Dr O,Dr O,fun _ _ hb _ _=>aa.g O O O (aw (nB.later hb).2 O O O (by omega) (by omega) (Az O)),fun _ _ hb _ _=>aa.g O O O (aT (nB.later hb) O (by omega) O O (Az O)),Dr O,Dr O,fun _ _ hb _ _=>aa.g O O O (aw (nB.later hb).2 O O O (by omega) (by omega) (Az O)),fun _ _ hb _ _=>aa.g O O O (aT (nB.later hb) O (by omega) O O (Az O)),?_,Dr O,ae⟩
     ·intro e1 w1 hb hp aL;refine aa.call (LI n1 X8 (N1+2) cx Y8 (N1+2) cy vM (kM N1 B1) (gi (PL.map Prod.fst) (q:Int)) (gi (PL.map Prod.fst) (e:Int)) _ (kG.later hb) (Bi _ _) jt Rl) O O O ?_;rintro _ w2 ⟨rfl,ak⟩;refine aa.n ?_;exact gD.dn ak.below (by exact ax Value.bool (dX h5))
     intro e1 w1 hb hp aL;refine aa.g O O O (aa.call (LI n2 Z8 (N2+2) cz W8 (N2+2) cw xy (kM N2 B2) (gi (PL.map Prod.snd) (q:Int)) (gi (PL.map Prod.snd) (e:Int)) _ (rz.later hb) (Bi _ _) rm aaN) O O O ?_);rintro _ w2 ⟨rfl,ak⟩;refine aa.n ?_;exact gD.dn ak.below (by exact O)
    intro u me Kd _;have hS:=hS.later Kd;refine eo O ?_;refine aB _ O (fun h6=>?_) (fun h6=>?_)
    ·rw [aj ⟨vy.1 h5,jM.1 h6⟩]at uD;refine av O (dJ hS O O O ?_);intro A9 mG gr;refine eK 1 gr O (gr.bc 0 O) O O O (by omega) (by omega) O ?_;intro AZ cZ rP kP;have kP:=kP.tail;refine ad O (aa.add O O O (by omega) (aF O (tQ ?_)));refine⟨(q+1,AZ,cZ),by show e - (q+1)<e - q;omega,⟨O,O,O,O,O,O,O,?_,O,ae⟩,by show q+1≤e;omega,?_⟩
     ·show Value.slice _ _ _=Value.slice _ _ _;rw [uD,dm];rfl
     show St w rP (ah _ AZ (lj N1 N2 B1 B2 PL e (q+1)).length cZ _::_);rw [uD,dm];exact kP
    have e6:=mR (fun h=>h6 (jM.2 h.2));refine av O (aa.add O O O (by omega) (aF O (tQ ?_)));refine⟨(q+1,Ab,cb),by show e - (q+1)<e - q;omega,⟨O,O,O,O,O,O,O,?_,O,ae⟩,by show q+1≤e;omega,?_⟩
    ·show Value.slice _ _ _=Value.slice _ _ _;rw [e6]
    show St w me (ah _ Ab (lj N1 N2 B1 B2 PL e (q+1)).length cb _::_);rw [e6];exact hS
   refine bP O ?_;refine dI [.ex (.agg #[aiD (n1),.slice (X8) (N1+2) (cx),.slice (Y8) (N1+2) (cy)]),xS (a6) (PL.length) (cT),xI ((q:Int)),xP (aq (a6) ((q:Int)).toNat),xI (gi (PL.map Prod.fst) ((q:Int))),xS (a6) (PL.length) (cT),xI ((e:Int)),xP (aq (a6) ((e:Int)).toNat),xI (gi (PL.map Prod.fst) ((e:Int))),xB (false),xB (false),xU,xU,xU,xU,xU,xU,xU,xU,xU,xU,xB (false)] (by kernel_rfl) (by kernel_rfl) O (eg O) ?_ ?_
   ·refine⟨fun _ _ hb _ _=>aa.bq 2 (lk.below hb) O O O (Az O),Dr O,Dr O,fun _ _ hb _ _=>aw (iL.later hb).2 O O O (by omega) (by omega) (Az O),fun _ _ hb _ _=>aT (iL.later hb) O (by omega) O O (Az O),Dr O,Dr O,fun _ _ hb _ _=>aw (iL.later hb).2 O O O (by omega) (by omega) (Az O),fun _ _ hb _ _=>aT (iL.later hb) O (by omega) O O (Az O),?_,Dr O,Dr O,Dr O,Dr O,Dr O,Dr O,Dr O,Dr O,Dr O,Dr O,Dr O,Dr O,ae⟩;intro e1 w1 hb hp aL;refine aa.call (LI n1 X8 (N1+2) cx Y8 (N1+2) cy vM (kM N1 B1) (gi (PL.map Prod.fst) (q:Int)) (gi (PL.map Prod.fst) (e:Int)) _ (kG.later hb) (Bi _ _) jt Rl) O O O ?_;rintro _ w2 ⟨rfl,ak⟩;refine aa.n ?_;exact gD.dn ak.below (by exact ax Value.bool (cd h5))
   intro u me Kd _;have hS:=hS.later Kd;refine eo O (Cd.eV O ?_);have e6:=mR (fun h=>h5 (vy.2 h.1));refine av O (aa.add O O O (by omega) (aF O (tQ ?_)));refine⟨(q+1,Ab,cb),by show e - (q+1)<e - q;omega,⟨O,O,O,O,O,O,O,?_,O,ae⟩,by show q+1≤e;omega,?_⟩
   ·show Value.slice _ _ _=Value.slice _ _ _;rw [e6]
   show St w me (ah _ Ab (lj N1 N2 B1 B2 PL e (q+1)).length cb _::_);rw [e6];exact hS
  obtain rfl:q=e:=by omega
  have ZX:=uC q he;have Z5:=B7 q;rw [ZX]at hS⊢;refine aY O (aZ (cL O ?_));refine aH (hS.rd 3 O) O O O O inferInstance (aM (j:=2) (hS.rd 3 O) (by exact ax Value.pointer O) O O O O (ad O (nj hS O O O ?_)));intro A9 rP kP;refine oM 9 kP O (kP.il 0 O) O O O (by omega) (by omega) O ?_;intro AZ cZ mH fV;refine aH (fV.rd 4 O) O O O O inferInstance (jS 4 (j:=2) fV O O O O O ?_);intro tZ ko;have ko:=ko.tail;have ko:=ko.perm (aey _ _ _ _ _ _ _ _ _ _);refine ad O (aa.add O O O (by omega) (aF O (tQ ?_)));refine⟨(q+1,(AZ,cZ),cH++ [⟨Ab,(rJ (dS N1 B1) (dS N2 B2) PL (q:Int)).length,cb⟩]),by show PL.length - (q+1)<PL.length - q;omega,⟨O,O,O,O,O,O,O,ae⟩,by show q+1≤PL.length;omega,by show(cH++ [_]).length=q+1;rw [dm,ju];rfl,?_⟩;show St w tZ (E3 a6 df eJ AR AZ cT gq cR cZ (q+1) PL (b8 (gi X1) (gi X2) kind) (i:Int) A6 A4 A3 [aiD n2,.slice Z8 (N2+2) cz,.slice W8 (N2+2) cw] [aiD n1,.slice X8 (N1+2) cx,.slice Y8 (N1+2) cy] (cH++ [_]) (o9 N1 N2 B1 B2 PL (q+1)));rw [Z5];unfold E3 aE;rw [uY (by rw [ju,CP])];exact ko
 obtain rfl:e=PL.length:=by omega
 refine aY O (aZ (cL O ?_));refine aa.bq 2 (hS.rd 2 O) O O O (bG 3 4 hS O O O O O O O ?_);intro gm eG;refine bh O (kA O (eG.rd 4 O) O ?_);have jK:(PL.map (b8 (gi X1) (gi X2) kind)).length=PL.length:=fN _;refine .inr ⟨⟨KE,by omega⟩,AR,cR,AD,cD,cH,by rw [jK];rfl,by omega,by rw [jK];exact CP N1 N2 B1 B2 PL PL.length,?_⟩;rw [jK];exact eG.sub (show List.Sublist (ah 2 AR PL.length cR (PL.map (b8 (gi X1) (gi X2) kind))::(aE 32 2 AD PL.length cD cH (o9 N1 N2 B1 B2 PL PL.length)++ [])) _ from((((((fJ _).cons _).cons _).cons _).cons_cons _).cons _).cons _ |>.cons _)
def C3(n:Int)(R:List Int)(B:aiB)(b:Bool)(w:World)(v:Value)(w':World):Prop:=
 ∃AR c AD d rs,v= .tuple #[.agg #[aiD n,.slice AR R.length c,.slice AD B.length d],.bool b]∧rs.length=B.length∧St w w' (ah 2 AR R.length c R::(aE 32 2 AD B.length d rs B++ []))
theorem H5.b{k:Nat}{RL:List Int}{BL:aiB}{v:Value}(h:H5 k RL BL w v w'):C3 (if k≤5∧RL.length≤500 then(k:Int)else 0) (if k≤5∧RL.length≤500 then RL else []) (if k≤5∧RL.length≤500 then BL else []) (decide (k≤5∧RL.length≤500)) w v w':=by
 rcases h with⟨hb,rfl,hS⟩ | ⟨hb,AR,c,AD,d,rs,rfl,h1,h2,hS⟩
 ·have hn:¬(k≤5∧RL.length≤500):=by omega
  rw [ag hn,ag hn,ag hn,cd hn];exact⟨none,0,none,0,[],O,O,(hS.nil _).nil _⟩
 rw [aj hb,aj hb,aj hb,dX hb];exact⟨AR,c,AD,d,rs,by rw [h2],by rw [h2];exact h1,by rw [h2];exact hS⟩
theorem I8{M:aiB}{X Y:aiC}{cx cy:Nat}{ys:List aG}(hM:bL M)(hb:aD M M.length≤500)(h:St w w' (ah 2 X (aD M M.length+2) cx (fo M.length (aO M M.length))::(aE 32 2 Y (aD M M.length+2) cy ys (kM (aD M M.length) (bn M))++ []))):
 qc w' X (fo M.length (aO M M.length)) (aD M M.length) Y ys (bn M):=by
 have hP:=mE hM hb;have hl:=iR M M.length;refine⟨by rw [OJ,hl],hb,h.bc 0 O,?_,fun e h0 h1=>?_⟩
 ·exact(h.sub (show(aE 32 2 Y (aD M M.length+2) cy ys (kM (aD M M.length) (bn M))).Sublist _ from(rX _ _).cons _)).rN (Bi _ _)
 have h2:=hP.at_ (e:=e) h0 (by rw [hl];exact h1);refine⟨?_,fun d hd=>?_⟩
 ·have:=rF (N:=(aO M M.length).length) h2.1.nodup fun x hx=>by have:=(h2.2.1 x hx).1;omega
  omega
 have:=(h2.2.1 d hd).1;omega
theorem eq_21{a b c a' b':Value}(h1:a=a')(h2:b=b'):[a,b,c]=[a',b',c]:=by rw [h1,h2]
theorem TD{AR AD:aiC}{a c b d:Nat}{R:List Int}{rs:List aG}{B:aiB}:∀k∈ah 2 AR a c R::(aE 32 2 AD b d rs B++ []),eH k.vs=false∧(k.e=32∨k.e=2):=fun k h=>by
 rcases iW.1 h with rfl | h
 ·exact⟨tS _,.inr O⟩
 exact adC k h
theorem St.adE{w0:World}{Ab A D AR AD:aiC}{n:Int}{q p a c b d e f:Nat}{R:List Int}{rs:List aG}{B:aiB}(h:St w0 w [bj Ab n A q p D e f])(h':St w0 w (ah 2 AR a c R::(aE 32 2 AD b d rs B++ []))):St w0 w (bj Ab n A q p D e f::(ah 2 AR a c R::(aE 32 2 AD b d rs B++ []))):=
 h.merge h' (fun k hk=>by obtain rfl:=eT.1 hk;rfl) (fun k hk=> (TD k hk).1) (fun k hk k' fM=>by
  obtain rfl:=eT.1 hk;rcases(TD k' fM).2 with e | e
  ·rw [e];exact(by decide:¬(34=32))
  rw [e];exact(by decide:¬(34=2)))
theorem ae3{M K:aiB}{kind:Int}(h:lA M K kind=0):(cn M K kind≤5∧(dV M K kind).length≤500→iE M K kind=0)∧(¬(cn M K kind≤5∧(dV M K kind).length≤500)→iE M K kind=3):=by
 unfold iE;rw [aj h];exact⟨fun h=>ag (by omega),fun h=>aj (by omega)⟩
set_option maxHeartbeats 2000000 in
theorem af9(A D:aiC)(n c m d:Nat)(rs ts:List aG)(M K:aiB)(kind:Int)(w:World)(hM:br w A n rs M)(hK:br w D m ts K)(hn:n≤9223372036854775807)(hm:m≤9223372036854775807):
 aA prog 43 [.agg #[.slice A n c],.agg #[.slice D m d],aiD kind] w (xC (oz M K kind) (kz M K kind) (jx M K kind) (iE M K kind) w):=by
 refine bk func43 O ntmps43 O (tW O O) (aQ O (iI (St.refl w) O O ?_));intro A3 w1 ao;refine iI ao O O ?_;intro A4 w2 ar;refine jC ar O ?_;intro A6 w3 az;refine ad O (aa.bq 0 (az.rd 2 O) O O O (aa.bq 0 (az.rd 1 O) O O O (ad O (aa.call (ac0 A D n c m d rs ts M K kind _ (az.bF hM) (az.bF hK) hn hm) O O O ?_))));rintro _ w4 ⟨rfl,ak⟩;have aJ:=az.later ak.below;clear ak az ar ao;refine ay O ?_;refine aB _ O (fun h1=>?_) (fun h1=>?_)
 ·refine av O (vS (by exact inferInstance) (by exact inferInstance) (by exact inferInstance) O (ad O (bG 3 0 aJ O O O O O O O ?_)));intro w5 aK;refine bh O (kA O (aK.rd 0 O) O ?_);exact Mh (by unfold iE;rw [if_neg h1]) h1 aK.none
 have h1:lA M K kind=0:=iP.1 h1;obtain⟨mo,ow,ov⟩:=yN h1;obtain⟨fU,ib⟩:=jW ow;obtain⟨jI,mO⟩:=jW ov;have wo:=aJ.bF hM;have Gz:=aJ.bF hK;have gu:=aJ.rd 2 O;have kq:=aJ.rd 1 O;have h5:=fU.1;have h6:=jI.1;have JW:=fun X Z Y W cx cz cy cw vM xy w' (iL:qc w' X (fo M.length (aO M M.length)) (aD M M.length) Y vM (bn M)) (nB:qc w' Z (fo K.length (aO K K.length)) (aD K K.length) W xy (bn K))=> (SK X Z Y W cx cz cy cw (aD M M.length) (aD K K.length) _ _ vM xy (bn M) (bn K) M.length K.length kind (cn M K kind) w' iL nB (rC fU ib.1) (rC jI mO.1) mo (EW fU jI) (by omega) (by omega)).mono fun _ _ h=>h.b
 have de:=ae3 h1;obtain⟨ok,G9⟩:∃ok,ok=decide (cn M K kind≤5∧(dV M K kind).length≤500):=⟨_,rfl⟩;have RB:(if cn M K kind≤5∧(dV M K kind).length≤500 then((cn M K kind:Nat):Int)else 0)=oz M K kind:=by
  unfold oz
  by_cases h:cn M K kind≤5∧(dV M K kind).length≤500
  ·rw [aj h,aj (de.1 h)]
  rw [ag h,ag (by rw [de.2 h];decide)]
 have RC:(if cn M K kind≤5∧(dV M K kind).length≤500 then dV M K kind else [])=kz M K kind:=by
  unfold kz
  by_cases h:cn M K kind≤5∧(dV M K kind).length≤500
  ·rw [aj h,aj (de.1 h)]
  rw [ag h,ag (by rw [de.2 h];decide)]
 have RA:(if cn M K kind≤5∧(dV M K kind).length≤500 then mW M K kind else [])=jx M K kind:=by
  unfold jx
  by_cases h:cn M K kind≤5∧(dV M K kind).length≤500
  ·rw [aj h,aj (de.1 h)]
  rw [ag h,ag (by rw [de.2 h];decide)]
 have JW:∀X Z Y W cx cz cy cw vM xy w',qc w' X (fo M.length (aO M M.length)) (aD M M.length) Y vM (bn M)→qc w' Z (fo K.length (aO K K.length)) (aD K K.length) W xy (bn K)→aA prog 103 [.agg #[aiD (M.length:Int),.slice X (aD M M.length+2) cx,.slice Y (aD M M.length+2) cy],.agg #[aiD (K.length:Int),.slice Z (aD K K.length+2) cz,.slice W (aD K K.length+2) cw],aiD kind] w' (C3 (oz M K kind) (kz M K kind) (jx M K kind) ok w'):=fun X Z Y W cx cz cy cw vM xy w' iL nB=>by
  have:=JW X Z Y W cx cz cy cw vM xy w' iL nB;rw [G9,←RB,←RC,←RA];exact this
 have aaW:ok=true↔iE M K kind=0:=by
  rw [G9,jT];refine⟨de.1,fun h=>nL fun h'=>?_⟩;rw [de.2 h']at h;exact absurd h (by decide)
 have Rt:ok=false→iE M K kind=3:=fun h=>de.2 fun h'=>by rw [G9,dX h']at h;cases h
 have hz:ok=false→oz M K kind=0∧kz M K kind=[]∧jx M K kind=[]:=fun h=>by
  have h3:=Rt h;unfold oz kz jx;rw [h3];exact⟨O,O,O⟩
 clear RB RC RA de G9;generalize oz M K kind=N at*;generalize kz M K kind=R at*;generalize jx M K kind=B at*;generalize iE M K kind=C at*;refine bP O ?_;refine iU [10] [.ex (.agg #[.slice (A) (n) (c)]),.pr (fun v w'=>∃X cx Y cy ys,v= .agg #[aiD (M.length:Int),.slice X (aD M M.length+2) cx,.slice Y (aD M M.length+2) cy]∧qc w' X (fo M.length (aO M M.length)) (aD M M.length) Y ys (bn M)),.ex (.agg #[.slice (D) (m) (d)]),.pr (fun v w'=>∃X cx Y cy ys,v= .agg #[aiD (K.length:Int),.slice X (aD K K.length+2) cx,.slice Y (aD K K.length+2) cy]∧qc w' X (fo K.length (aO K K.length)) (aD K K.length) Y ys (bn K)),yI (kind),.pr (fun v w'=>C3 N R B ok w4 v w'),.al (fun v=>∃u0,v= .tuple #[u0,.bool ok]) (fun v w'=>C3 N R B ok w4 v w'),.pr (fun v w'=>∃AR c AD d rs,v= .agg #[aiD N,.slice AR R.length c,.slice AD B.length d]∧rs.length=B.length∧St w4 w' (ah 2 AR R.length c R::(aE 32 2 AD B.length d rs B++ []))),yB (ok),.pr (fun v w'=>∃A9,v= .pointer A9∧St w4 w' [bj A9 0 none 0 0 none 0 0]),.p2 9 (fun a v w'=>∃A9 AR c AD d rs,a= .pointer A9∧rs.length=B.length∧St w4 w' (bj A9 N AR R.length c AD B.length d::(ah 2 AR R.length c R::(aE 32 2 AD B.length d rs B++ [])))),yB (ok)] (by kernel_rfl) (by kernel_rfl) (ly (bV.2 ⟨Ye.b9 (fun v w w' h hb=>by obtain⟨X,cx,Y,cy,ys,hv,h1⟩:=h;exact⟨X,cx,Y,cy,ys,hv,h1.later hb⟩),(ly (bV.2 ⟨Ye.b9 (fun v w w' h hb=>by obtain⟨X,cx,Y,cy,ys,hv,h1⟩:=h;exact⟨X,cx,Y,cy,ys,hv,h1.later hb⟩),(ly (bV.2 ⟨Ye.b9 (fun v w w' h hb=>by obtain⟨AR,cR,AD,cD,cH,hv,h1,h2⟩:=h;exact⟨AR,cR,AD,cD,cH,hv,h1,h2.later hb⟩),(bV.2 ⟨Im (fun v w w' h hb=>by obtain⟨AR,cR,AD,cD,cH,hv,h1,h2⟩:=h;exact⟨AR,cR,AD,cD,cH,hv,h1,h2.later hb⟩),(bV.2 ⟨Ye.b9 (fun v w w' h hb=>by obtain⟨AR,cR,AD,cD,cH,hv,h1,h2⟩:=h;exact⟨AR,cR,AD,cD,cH,hv,h1,h2.later hb⟩),(ly (bV.2 ⟨Ye.b9 (fun v w w' h hb=>by obtain⟨A9,hv,hT⟩:=h;exact⟨A9,hv,hT.later hb⟩),(bV.2 ⟨Nv (fun a v w w' h hb=>by obtain⟨A9,AR,cR,AD,cD,cH,h9,h1,hT⟩:=h;exact⟨A9,AR,cR,AD,cD,cH,h9,h1,hT.later hb⟩),(ly (fun _ h=>by cases h))⟩)⟩))⟩)⟩)⟩))⟩))⟩)) ?_ ?_
 ·refine⟨cP fun _ _ hb _ _ _=>aa.bq 0 (gu.below hb) O O O (aX O O),?_,cP fun _ _ hb _ _ _=>aa.bq 0 (kq.below hb) O O O (aX O O),?_,ba O,?_,?_,?_,?_,?_,?_,ba O,ae⟩
  ·refine cP fun e1 w1 hb hp aL hq=>?_
   refine aa.call (LH A n c rs M _ (wo.later hb) fU ib.1) O O O ?_;rintro _ w9 ⟨X,cx,Y,cy,ys,rfl,tR,ak⟩;refine aa.n ?_;exact fF.dn O ak.below ⟨X,cx,Y,cy,ys,O,I8 fU ib.1 ak⟩
  ·refine cP fun e1 w1 hb hp aL hq=>?_
   refine aa.call (LH D m d ts K _ (Gz.later hb) jI mO.1) O O O ?_;rintro _ w9 ⟨X,cx,Y,cy,ys,rfl,tR,ak⟩;refine aa.n ?_;exact fF.dn O ak.below ⟨X,cx,Y,cy,ys,O,I8 jI mO.1 ak⟩
  ·refine cP fun e1 w1 hb hp aL hq=>?_
   obtain⟨X,cx,Y,cy,ys,YY,iL⟩:=(hp 1 _ _ (by kernel_rfl) rfl rfl (by kernel_rfl));obtain⟨Z,cz,W,cw,zs,Y0,nB⟩:=(hp 3 _ _ (by kernel_rfl) rfl rfl (by kernel_rfl));refine aa.call (JW X Z Y W cx cz cy cw ys zs _ iL nB) O (by exact eq_21 YY Y0) O ?_;rintro _ w9 ⟨AR,cR,AD,cD,cH,rfl,ju,ak⟩;refine aa.n ?_;exact fF.dn O ak.below ⟨AR,cR,AD,cD,cH,O,ju,by have:=((St.refl w4).later hb).call ak;rwa [fg]at this⟩
  ·refine cP fun e1 w1 hb hp aL hq=>?_
   obtain⟨AR,cR,AD,cD,cH,Gp,h1,h2⟩:=(hp 5 _ _ (by kernel_rfl) rfl rfl (by kernel_rfl));refine Nl O (by exact Gp) O (aa.n ?_);exact fF.dn O (Below.refl _ _) ⟨⟨_,O⟩,AR,cR,AD,cD,cH,O,h1,h2⟩
  ·refine cP fun e1 w1 hb hp aL hq=>?_
   obtain⟨AR,cR,AD,cD,cH,Jx,h1,h2⟩:=((hp 6 _ _ (by kernel_rfl) rfl rfl).2 (by kernel_rfl));refine aa.extract (by exact Jx) O O (aa.n ?_);exact fF.dn O (Below.refl _ _) ⟨AR,cR,AD,cD,cH,O,h1,h2⟩
  ·intro e1 w1 cc dp bJ dz hp aL hq;show aa _ _ _ _ _ _ _;obtain⟨u0,Jx⟩:=(hp 6 _ _ (by kernel_rfl) rfl rfl).1;refine aa.extract (by exact Jx) O O (aa.n (fh O (by exact O)))
  ·refine cP fun e1 w1 hb hp aL hq=>?_
   refine jC (St.refl _) O ?_;intro A9 w9 aS;refine aa.n ?_;exact fF.dn O aS.below ⟨A9,O,by have:=((St.refl w4).later hb).call aS;rwa [fg]at this⟩
  refine iY fun e1 w1 hb hp aL hq=>?_
  obtain⟨A9,h9,hT⟩:=(hp 9 _ _ (by kernel_rfl) rfl rfl (by kernel_rfl));obtain⟨AR,cR,AD,cD,cH,DE,h1,h2⟩:=(hp 7 _ _ (by kernel_rfl) rfl rfl (by kernel_rfl));refine bG 3 0 (hT.adE h2) O (by exact h9) (by exact DE) O O O O ?_;intro w9 aS;refine aa.n ?_;exact eA.st O ⟨A9,AR,cR,AD,cD,cH,h9,h1,aS⟩
 intro u2 w5 _ _ jM _;obtain⟨A9,AR,cR,AD,cD,cH,h9,ju,jd⟩:=jM 10 9 _ rfl (by kernel_rfl);have aK:=aJ.call2 jd;have ql:=jd.rd 0 O;refine FD (F:=[(6,.pointer A6),(9,.pointer A9),(10,.bool ok)]) ⟨O,h9,O,ae⟩ ?_;cases ok
 ·obtain⟨rfl,rfl,rfl⟩:=hz rfl;obtain rfl:=Rt rfl;refine iq O ?_
  first | refine eC rfl rfl ?_ | refine aa.not rfl rfl ?_
  refine ay O (Cd.gj O (av O (vS (by exact inferInstance) (by exact inferInstance) (by exact inferInstance) O (bG 3 0 aK O O O O O O O ?_))));intro w6 aR;refine bh O (kA O (aR.rd 0 O) O ?_);exact xC.zero aR.none 3
 obtain rfl:=aaW.1 rfl;refine iq O ?_
 first | refine eC rfl rfl ?_ | refine aa.not rfl rfl ?_
 refine ay O (Cd.eV O (av O (aa.bq 2 ql O O O (bG 3 0 aK O O O O O O O ?_))));intro w6 aR;refine bh O (kA O (aR.rd 0 O) O ?_);exact⟨AR,cR,AD,cD,cH,O,ju,aR.sub (show List.Sublist _ (_::_::_::_::_) from((fJ _).cons _ |>.cons _ |>.cons _ |>.cons _))⟩
def sW(L:aiB)(K:Int)(w:World)(v:Value)(w':World):Prop:=∃A c,∃rs:List aG,v= .tuple #[.agg #[.slice A L.length c],aiD K]∧rs.length=L.length∧St w w' (aE 32 2 A L.length c rs L)
theorem sW.none{ks:List Ck}{K:Int}(h:St w w' ks):sW [] K w (.tuple #[.agg #[.slice Option.none 0 0],aiD K]) w':=⟨Option.none,0,[],rfl,rfl,h.none.nil _⟩
theorem ae2(M K:aiB)(kind:Int):((kz M K kind).length≤1000∧(jx M K kind).length≤1000)∧∀x∈jx M K kind,x.length≤1000:=by
 by_cases h:iE M K kind=0
 ·have hl:(dV M K kind).length≤500:=by
   unfold iE at h
   split at h
   ·refine nL fun h'=>?_
    rw [aj (.inr (by omega))]at h;exact absurd h (by decide)
   contradiction
  have e:(CK M K kind).length=(dV M K kind).length:=by unfold dV;rw [List.length_map]
  unfold kz jx;rw [aj h,aj h];have hb:(mW M K kind).length=(CK M K kind).length:=by unfold mW nI;rw [List.length_map,yR]
  refine⟨⟨by omega,by omega⟩,fun x hx=>?_⟩;unfold mW nI at hx;obtain⟨k,_,rfl⟩:=dh.1 hx;unfold rJ;refine kJ (oJ _ _) ?_;rw [yR];omega
 unfold kz jx;rw [ag h,ag h];exact⟨⟨aW _,aW _⟩,fun x hx=>nomatch hx⟩
end
section
open Tryz
def AX(m:Nat)(n:Int)(rk:Int→Int)(gQ:Int→Int→Prop):Prop:=∃z:Int→Int,∀i:Int,-1≤i→i≤n→(0≤z i∧z i<m)∧rk (z i)=i∧∀j:Int,i≤j→j≤n→gQ (z i) (z j)
theorem Bs{n:Nat}{R:List Int}{B:aiB}(h:fO n R B)(hf:au n R B≠[]):AX (R.length+2) n (gi (fo n R)) (dS R.length B):=by
 have hn:=h.n1;have uJ:1≤n:=by omega
 obtain⟨x,hx⟩:=List.exists_mem_of_ne_nil _ hf;obtain⟨hl,ha,hb⟩:=(nY uJ).1 hx;have dO:∀i j:Nat,i<j→j<n→gi x (i:Int)∈gl B (gi x (j:Int)):=by
  intro i j gN
  induction j with
  | zero=>omega
  | succ j ih=>
   intro hj;have h1:=hb j (by omega)
   by_cases e:i=j
   ·subst e;exact h1
   ·have h2:=ih (by omega) (by omega);have h3:=ha (j+1) (by omega);exact(h.at_ (e:=gi x ((j+1:Nat):Int)) h3.1.1 h3.1.2).2.2 _ h1 _ h2
 have key:∀i:Int,0≤i→i<n→0≤gi x i∧gi x i<R.length∧gi R (gi x i)=i:=fun i h0 h1=>by
  obtain⟨k,rfl⟩:∃k:Nat,i=k:=⟨i.toNat,by omega⟩;have:=ha k (by omega);exact⟨this.1.1,this.1.2,this.2⟩
 have qy:∀i j:Int,0≤i→i<j→j<n→gi x i∈gl B (gi x j):=fun i j h0 h1 h2=>by
  obtain⟨k,rfl⟩:∃k:Nat,i=k:=⟨i.toNat,by omega⟩;obtain⟨q,rfl⟩:∃q:Nat,j=q:=⟨j.toNat,by omega⟩;exact dO k q (by omega) (by omega)
 refine⟨fun i=>if i<0 then 0 else if i<n then gi x i+1 else(R.length:Int)+1,fun i h0 h1=>?_⟩
 by_cases c0:i<0
 ·have e:i= -1:=by omega
  subst e;refine⟨by show(0:Int)≤(if(-1:Int)<0 then 0 else _)∧(if(-1:Int)<0 then 0 else _)<_;rw [aj (by omega)];omega,by show gi _ (if(-1:Int)<0 then 0 else _)=_;rw [aj (by omega)];rfl,fun j _ _=>by show dS _ _ (if(-1:Int)<0 then 0 else _) _;rw [aj (by omega)];exact .inr (.inl O)⟩
 by_cases c1:i<n
 ·have hk:=key i (by omega) c1;have hz:(if i<0 then 0 else if i<n then gi x i+1 else(R.length:Int)+1)=gi x i+1:=by rw [ag c0,aj c1]
  refine⟨by show(0:Int)≤(if i<0 then 0 else if i<n then gi x i+1 else(R.length:Int)+1)∧(if i<0 then 0 else if i<n then gi x i+1 else(R.length:Int)+1)<_;rw [hz];omega,by show gi _ (if i<0 then 0 else if i<n then gi x i+1 else(R.length:Int)+1)=_;rw [hz,wa _ _ (by omega) (by omega),Int.add_sub_cancel];exact hk.2.2,fun j hj oX=>?_⟩;show dS _ _ (if i<0 then 0 else if i<n then gi x i+1 else(R.length:Int)+1) (if j<0 then 0 else if j<n then gi x j+1 else(R.length:Int)+1);rw [hz,ag (by omega)]
  by_cases c2:j<n
  ·rw [aj c2]
   by_cases e:i=j
   ·subst e;exact .inl rfl
   ·have gk:=key j (by omega) c2;exact .inr (.inr (.inr ⟨by omega,by omega,by omega,by omega,by rw [Int.add_sub_cancel,Int.add_sub_cancel];exact qy i j (by omega) (by omega) c2⟩))
  ·rw [ag c2];exact .inr (.inr (.inl rfl))
 ·have e:i=n:=by omega
  have hz:(if i<0 then 0 else if i<n then gi x i+1 else(R.length:Int)+1)=(R.length:Int)+1:=by rw [ag c0,ag c1]
  refine⟨by show(0:Int)≤(if i<0 then 0 else if i<n then gi x i+1 else(R.length:Int)+1)∧(if i<0 then 0 else if i<n then gi x i+1 else(R.length:Int)+1)<_;rw [hz];omega,by show gi _ (if i<0 then 0 else if i<n then gi x i+1 else(R.length:Int)+1)=_;rw [hz,BG];exact e.symm,fun j hj oX=>?_⟩;obtain rfl:j=i:=by omega
  exact .inl O
theorem N7:AX 2 0 (gi [-1,0]) (dS 0 []):=⟨fun i=>i+1,fun i h0 h1=>by
 rcases(show i= -1∨i=0 by omega)with rfl | rfl
 ·exact⟨by show(0:Int)≤ -1+1∧(-1:Int)+1<_;omega,O,fun j _ _=> .inr (.inl O)⟩
 exact⟨by show(0:Int)≤0+1∧(0:Int)+1<_;omega,rfl,fun j _ _=>by obtain rfl:j=0:=(by omega);exact .inl rfl⟩⟩
section
variable {m1 m2:Nat} {n1 n2:Int} {rk1 rk2:Int→Int} {cI ck:Int→Int→Prop} [DecidableRel cI] [DecidableRel ck] {kind:Int}
theorem Mj(h1:fk m1 n1 rk1 cI)(h2:fk m2 n2 rk2 ck)(c1:AX m1 n1 rk1 cI)(c2:AX m2 n2 rk2 ck)(mo:0≤kind∧kind≤2){k:Nat}(hk:(k:Int)=gv n1 n2 kind)(eh:1≤k)(yn:1≤n1∧(1≤n2∨kind=0)):
 au k ((bT m1 m2 rk1 rk2 kind k).map (b8 rk1 rk2 kind)) (nI cI ck (bT m1 m2 rk1 rk2 kind k))≠[]:=by
 obtain⟨z1,Hr⟩:=c1;obtain⟨z2,Sc⟩:=c2;have uJ:=h1.n0;have zL:=h2.n0;have r10:=h1.r0;have r1t:=h1.rt;have r20:=h2.r0;have r2t:=h2.rt;obtain⟨t,ht⟩:∃t:Int,t=if kind=2 then n1 - 1 else n1:=⟨_,rfl⟩
 obtain⟨s,hs⟩:∃s:Int,s=if kind=1 then 0 else -1:=⟨_,rfl⟩
 obtain⟨p,hpd⟩:∃p:Nat→Int,p=fun i:Nat=>if(i:Int)≤t then(i:Int)else t:=⟨_,rfl⟩
 obtain⟨q,K4⟩:∃q:Nat→Int,q=fun i:Nat=>if(i:Int)≤t then s else s+ ((i:Int) - t):=⟨_,rfl⟩
 have hp:∀i:Nat,p i=if(i:Int)≤t then(i:Int)else t:=fun i=>by rw [hpd]
 have hq:∀i:Nat,q i=if(i:Int)≤t then s else s+ ((i:Int) - t):=fun i=>by rw [K4]
 have sH:∀i:Nat,i<k→(-1≤p i∧p i≤n1)∧(-1≤q i∧q i≤n2)∧p i+q i+eM kind=i∧(kind=1→0≤p i∧0≤q i)∧(kind=2→p i<n1∧q i<n2):=fun i hi=>by
  rw [hp,hq];rcases(show kind=0∨kind=1∨kind=2 by omega)with rfl | rfl | rfl
  ·simp only [gv,aj]at hk;simp only [eM]at*;simp at ht hs
   split<;>simp<;>omega
  ·simp only [gv]at hk;simp only [eM]at*;simp at ht hs hk
   split<;>simp<;>omega
  simp only [gv]at hk;simp only [eM]at*;simp at ht hs hk
  split<;>simp<;>omega
 have sF:∀i:Nat,p i≤p (i+1)∧q i≤q (i+1):=fun i=>by
  rw [hp,hq,hp,hq]
  split<;>split<;>omega
 have jJ:∀i:Nat,i<k→mI m1 m2 rk1 rk2 kind i (z1 (p i),z2 (q i)):=fun i hi=>by
  have h:=sH i hi;have a:=Hr (p i) h.1.1 h.1.2;have b:=Sc (q i) h.2.1.1 h.2.1.2;refine⟨a.1,b.1,by show rk1 (z1 (p i))+rk2 (z2 (q i))+eM kind=i;rw [a.2.1,b.2.1];exact h.2.2.1,fun hx=>?_⟩;rcases hx with⟨k1,e | e⟩ | ⟨k2,e | e⟩
  ·have e:z1 (p i)=0:=e;have:=a.2.1;rw [e,r10]at this;have:=(h.2.2.2.1 k1).1;omega
  ·have e:z2 (q i)=0:=e;have:=b.2.1;rw [e,r20]at this;have:=(h.2.2.2.1 k1).2;omega
  ·have e:z1 (p i)=(m1:Int) - 1:=e;have:=a.2.1;rw [e,r1t]at this;have:=(h.2.2.2.2 k2).1;omega
  have e:z2 (q i)=(m2:Int) - 1:=e;have:=b.2.1;rw [e,r2t]at this;have:=(h.2.2.2.2 k2).2;omega
 have hex:∀i:Nat,∃e:Int,i<k→(0≤e∧e< (bT m1 m2 rk1 rk2 kind k).length)∧gp (bT m1 m2 rk1 rk2 kind k) e=(z1 (p i),z2 (q i)):=fun i=>by
  by_cases hi:i<k
  ·obtain⟨e,h,h'⟩:=I2 hi (jJ i hi);exact⟨e,fun _=> ⟨h,h'⟩⟩
  exact⟨0,fun h=>absurd h hi⟩
 obtain⟨E,hE⟩:=Classical.axiomOfChoice hex;have hE:∀i:Nat,i<k→(0≤E i∧E i< (bT m1 m2 rk1 rk2 kind k).length)∧gp (bT m1 m2 rk1 rk2 kind k) (E i)=(z1 (p i),z2 (q i)):=hE;have fW:∀i:Nat,i<k→gi ((List.range k).map E) (i:Int)=E i:=fun i hi=>by
  rw [bX (by simpa using hi),List.getElem_map,List.getElem_range]
 have hm:(List.range k).map E∈au k ((bT m1 m2 rk1 rk2 kind k).map (b8 rk1 rk2 kind)) (nI cI ck (bT m1 m2 rk1 rk2 kind k)):=by
  refine(nY eh).2 ⟨by simp,fun i hi=>?_,fun i hi=>?_⟩
  ·rw [fW i hi,fN];have h:=hE i hi;refine⟨h.1,?_⟩;rw [An h.1.1 h.1.2,h.2];exact(jJ i hi).2.2.1
  rw [fW i (by omega),fW (i+1) hi];have h:=hE i (by omega);have h':=hE (i+1) hi;rw [vG h'.1.1 h'.1.2,uU h1 h2 h'.1];have b0:=sH i (by omega);have b1:=sH (i+1) hi;have hm:=sF i;refine⟨h.1,fun e=>?_,?_,?_⟩
  ·have e2:=h'.2;rw [←e,h.2]at e2;have r1:=(jJ i (by omega)).2.2.1;have r2:=(jJ (i+1) hi).2.2.1;rw [e2,r2]at r1;omega
  ·rw [h.2,h'.2];exact(Hr (p i) b0.1.1 b0.1.2).2.2 (p (i+1)) hm.1 b1.1.2
  rw [h.2,h'.2];exact(Sc (q i) b0.2.1.1 b0.2.1.2).2.2 (q (i+1)) hm.2 b1.2.1.2
 intro h;rw [h]at hm;cases hm
end
noncomputable def mU(n:Nat)(fl:aiB)(i f:Nat):List Int:=(List.range fl.length).map fun a=>if a<f∧eQ n fl i a<f then(eQ n fl i a:Int)else 0
def sZ(n:Nat)(fl:aiB)(i f:Nat)(L:List (ByteArray×Int)):Prop:=∀a:Nat,f≤a→a<fl.length→fP L (qy (iF (gl fl (a:Int)) i))=if eQ n fl i a<f then some (eQ n fl i a:Int)else none
section
variable {n:Nat} {fl:aiB} {i f:Nat} {L:List (ByteArray×Int)}
theorem ad4:(mU n fl i f).length=fl.length:=by simp [mU]
theorem ad1:mU n fl i 0=List.replicate fl.length 0:=by
 apply ji
 ·simp [mU]
 intro a h1 h2;simp [mU]
theorem ad2(h:kj n fl)(hi:i<n):mU n fl i fl.length=uT n fl i:=by
 rw [Tb h hi];unfold mU;refine mJ fun a ha=>?_
 have ha:=gg.1 ha;rw [aj ⟨ha,h.lt ha hi⟩]
theorem ad5(h:kj n fl)(hi:i<n)(hf:f<fl.length)(hp:¬eQ n fl i f<f):mU n fl i (f+1)=mU n fl i f:=by
 unfold mU;refine mJ fun a ha=>?_
 have ha:=gg.1 ha;have h1:=(h.pt hf hi).1;have h2:=h.pp ha hi
 by_cases e:a=f
 ·subst e;rw [ag (by omega),ag (by omega)]
 by_cases e2:eQ n fl i a=f
 ·have h3:a=eQ n fl i f:=by rw [←h2,e2]
  rw [ag (by omega),ag (by omega)]
 by_cases c:a<f∧eQ n fl i a<f
 ·rw [aj c,aj (by omega)]
 rw [ag c,ag (by omega)]
theorem ad3(h:kj n fl)(hi:i<n)(hf:f<fl.length)(hp:eQ n fl i f<f):mU n fl i (f+1)=((mU n fl i f).set f (eQ n fl i f:Int)).set (eQ n fl i f) (f:Int):=by
 have hpp:=h.pp hf hi;apply ji
 ·simp [mU]
 intro a h1 h2;have ha:a<fl.length:=by simpa [mU]using h1
 have h3:=h.pp ha hi;rw [List.getElem_set,List.getElem_set];simp only [mU,List.getElem_map,List.getElem_range]
 by_cases e:eQ n fl i f=a
 ·subst e;rw [aj rfl,hpp,aj (by omega)]
 rw [ag e]
 by_cases e2:f=a
 ·subst e2;rw [aj rfl,aj (by omega)]
 rw [ag e2];have h4:eQ n fl i a≠f:=fun e3=>e (by rw [←h3,e3])
 by_cases c:a<f∧eQ n fl i a<f
 ·rw [aj c,aj (by omega)]
 rw [ag c,ag (by omega)]
theorem sZ.zero:sZ n fl i 0 []:=fun a _ _=>by rw [ag (by omega)];rfl
theorem sZ.at_(h:sZ n fl i f L)(hf:f<fl.length):fP L (qy (iF (gl fl (f:Int)) i))=if eQ n fl i f<f then some (eQ n fl i f:Int)else none:=h f (a8 _) hf
theorem sZ.Q5(hN:kj n fl)(hi:i<n)(h:sZ n fl i f L)(hf:f<fl.length)(hp:eQ n fl i f<f):sZ n fl i (f+1) L:=fun a h0 ha=>by
 have h2:=hN.pp ha hi;rw [h a (by omega) ha];have h4:eQ n fl i a≠f:=fun e=>by rw [e]at h2;omega
 by_cases c:eQ n fl i a<f
 ·rw [aj c,aj (by omega)]
 rw [ag c,ag (by omega)]
theorem sZ.adI(hN:kj n fl)(hl:∀x∈fl,x.length=n)(hi:i<n)(h:sZ n fl i f L)(hf:f<fl.length)(hp:¬eQ n fl i f<f):sZ n fl i (f+1) (jO L (qy (iF (gl fl (f:Int)) i)) (f:Int)):=fun a h0 ha=>by
 have h1:=hN.pp hf hi;have h2:=hN.pp ha hi;have hk:qy (iF (gl fl (f:Int)) i)=qy (iF (gl fl (a:Int)) i)↔a=f∨a=eQ n fl i f:=by
  have lf:(gl fl (f:Int)).length=n:=hl _ (by rw [db hf];exact dQ _);have la:(gl fl (a:Int)).length=n:=hl _ (by rw [db ha];exact dQ _);constructor
  ·intro e;have e:=(HR lf la).1 (Sq e)
   by_cases c:a=f
   ·exact .inl c
   exact .inr (((hN.pt hf hi).2 a).1 ⟨⟨hf,ha,fun k hk bt=>e k hk bt⟩,c⟩)
  intro e;rcases e with e | e
  ·subst e;rfl
  have h3:=((hN.pt hf hi).2 a).2 e;exact ax qy ((HR lf la).2 h3.1.2.2)
 rw [Jk,h a (by omega) ha]
 by_cases e2:a=eQ n fl i f
 ·rw [aj (hk.2 (.inr e2))];have h3:eQ n fl i a=f:=by rw [e2,h1]
  rw [aj (by omega),h3]
 rw [ag fun e3=> (hk.1 e3).elim (by omega) e2];have h4:eQ n fl i a≠f:=fun e3=>e2 (by rw [←h2,e3])
 by_cases c:eQ n fl i a<f
 ·rw [aj c,aj (by omega)]
 rw [ag c,ag (by omega)]
end
section
variable{i b:Nat}
variable {n:Nat} {fl:aiB}
theorem sO(n:Nat)(fl:aiB):(bO n fl).length=n:=by simp [bO]
theorem adU(n:Nat)(fl:aiB)(hi:i<n):gl (bO n fl) (i:Int)=uT n fl i:=by
 rw [db (by rw [sO];exact hi)];simp [bO]
theorem Hz(h:kj n fl)(hi:i<n):gl (bO n fl) (i:Int)=(List.range fl.length).map fun a=> (eQ n fl i a:Int):=by rw [adU n fl hi,Tb h hi]
theorem tT(h:kj n fl){a:Nat}(hi:i<n)(ha:a<fl.length):gi (gl (bO n fl) (i:Int)) (a:Int)=eQ n fl i a:=by
 rw [Hz h hi,bX (by simpa using ha)];simp
theorem ES(h:kj n fl)(hi:i<n):(gl (bO n fl) (i:Int)).length=fl.length:=by rw [Hz h hi];simp
theorem L2(h:kj n fl){p:List Int}:p∈bO n fl↔∃i:Nat,i<n∧p=gl (bO n fl) (i:Int):=by
 constructor
 ·intro hp;obtain⟨i,hi,e⟩:=gJ.1 hp;rw [sO]at hi;exact⟨i,hi,by rw [db (by rw [sO];exact hi)];exact e.symm⟩
 rintro⟨i,hi,rfl⟩;rw [db (by rw [sO];exact hi)];exact dQ _
theorem adP(h:kj n fl)(hi:i<n){x:Int}(h0:0≤x)(h1:x<fl.length):gi (gl (bO n fl) (i:Int)) x=eQ n fl i x.toNat:=by
 obtain⟨a,rfl⟩:∃a:Nat,x=a:=⟨x.toNat,by omega⟩;rw [tT h hi (by omega)];simp
theorem adT(h:kj n fl)(hb:fl.length≤400)(hi:i<n):kE (gl (bO n fl) (i:Int))∧oG (gl (bO n fl) (i:Int)):=by
 have hl:=ES h hi;refine⟨⟨by omega,fun x hx=>?_,?_⟩,fun a ha=>?_⟩
 ·rw [hl];rw [Hz h hi]at hx;obtain⟨a,ha,rfl⟩:=dh.1 hx;have:=h.lt (gg.1 ha) hi;omega
 ·rw [Hz h hi];refine qd.2 ((List.nodup_range (n:=fl.length)).imp_of_mem fun {a b} ha hb bt e=>bt ?_);have ha:=gg.1 ha;have hb:=gg.1 hb;have e:eQ n fl i a=eQ n fl i b:=by omega
  rw [←h.pp ha hi,e,h.pp hb hi]
 rw [hl]at ha;rw [tT h hi ha,tT h hi (h.lt ha hi),h.pp ha hi];have:=(h.pt ha hi).1;exact⟨by omega,O⟩
theorem adV(h:kj n fl):Sys fl.length (bO n fl):=fun p hp=>by
 obtain⟨i,hi,rfl⟩:=(L2 h).1 hp;refine⟨ES h hi,fun x h0 h1=>?_⟩;rw [adP h hi h0 h1];have:=h.lt (a:=x.toNat) (by omega) hi;omega
theorem ER(h:kj n fl){a:Nat}(ha:a<fl.length)(hi:i<n):jz n fl i a (eQ n fl i a):=(((h.pt ha hi).2 _).2 rfl).1
theorem S3(h:kj n fl){p:List Int}:p∈(bO n fl).eraseIdx i↔∃k:Nat,k<n∧k≠i∧p=gl (bO n fl) (k:Int):=by
 rw [List.mem_eraseIdx_iff_getElem];constructor
 ·rintro⟨k,hk,bt,e⟩;rw [sO]at hk;exact⟨k,hk,bt,by rw [db (by rw [sO];exact hk)];exact e.symm⟩
 rintro⟨k,hk,bt,rfl⟩;exact⟨k,by rw [sO];exact hk,bt,by rw [db (by rw [sO];exact hk)]⟩
theorem adQ(h:kj n fl)(hi:i<n){a:Nat}(ha:a<fl.length){y:Int}(hr:Reach ((bO n fl).eraseIdx i) (a:Int) y):(0≤y∧y<fl.length)∧gi (gl fl y) (i:Int)=gi (gl fl (a:Int)) (i:Int):=by
 induction hr with
 | refl=>exact⟨by omega,rfl⟩
 | step hr hp ih=>
  rename_i y p;obtain⟨k,hk,bt,rfl⟩:=(S3 h).1 hp;obtain⟨b,rfl⟩:∃b:Nat,y=b:=⟨y.toNat,by omega⟩;have hb:b<fl.length:=by omega
  rw [tT h hk hb];have h1:=h.lt hb hk;exact⟨by omega,by rw [←(ER h hb hk).2.2 i hi (fun e=>bt e.symm)];exact ih.2⟩
theorem S4(h:kj n fl){S:Nat→Prop}(hS:S i){a:Nat}(hl:eO n fl S a b):Reach ((bO n fl).eraseIdx i) (a:Int) (b:Int):=by
 induction hl with
 | refl=>exact .refl
 | step hl hk hs ha ih=>
  rename_i b c k
  by_cases e:c=b
  ·subst e;exact ih
  have hb:=hl.fT.2;have e2:c=eQ n fl k b:=((h.pt hb hk).2 c).1 ⟨ha,e⟩;have:=Reach.step ih ((S3 h).2 ⟨k,hk,fun e3=>hs (e3▸hS),O⟩);rw [tT h hk hb,←e2]at this;exact this
theorem adR(h:kj n fl){S:Nat→Prop}{a:Nat}(hl:eO n fl S a b):Reach (bO n fl) (a:Int) (b:Int):=by
 induction hl with
 | refl=>exact .refl
 | step hl hk hs ha ih=>
  rename_i b c k
  by_cases e:c=b
  ·subst e;exact ih
  have hb:=hl.fT.2;have e2:c=eQ n fl k b:=((h.pt hb hk).2 c).1 ⟨ha,e⟩;have:=Reach.step ih ((L2 h).2 ⟨k,hk,O⟩);rw [tT h hk hb,←e2]at this;exact this
theorem adO(h:kj n fl)(hc:vN n fl)(hi:i<n){a:Nat}(ha:a<fl.length)(hb:b<fl.length):Reach ((bO n fl).eraseIdx i) (a:Int) (b:Int)↔gi (gl fl (a:Int)) (i:Int)=gi (gl fl (b:Int)) (i:Int):=by
 constructor
 ·intro hr;exact(adQ h hi ha hr).2.symm
 intro e;rcases Nat.lt_trichotomy a b with dO | dO | dO
 ·exact S4 h (S:=fun k=>gi (gl fl (a:Int)) (k:Int)=gi (gl fl (b:Int)) (k:Int)) e (hc a b dO hb)
 ·subst dO;exact .refl
 exact S4 h (S:=fun k=>gi (gl fl (b:Int)) (k:Int)=gi (gl fl (a:Int)) (k:Int)) e.symm (hc b a dO ha).symm
end
section
variable {n:Nat} {R:List Int} {B:aiB}
theorem Ym(hP:fO n R B)(hD:rT n R B){i k a:Nat}(hi:i<n)(hk:k<n)(nD:i+2≤k)(ha:a< (au n R B).length):
 eQ n (au n R B) k (eQ n (au n R B) i a)=eQ n (au n R B) i (eQ n (au n R B) k a):=by
 have h:=Gf hP hD;have hn:1≤n:=by omega
 obtain⟨b,hb⟩:∃b,eQ n (au n R B) i a=b:=⟨_,rfl⟩;obtain⟨c,hc⟩:∃c,eQ n (au n R B) k a=c:=⟨_,rfl⟩;have oo:b< (au n R B).length:=hb▸h.lt ha hi;have cg:c< (au n R B).length:=hc▸h.lt ha hk;have ab:=ER h ha hi;have ac:=ER h ha hk;have nb:=(h.pt ha hi).1;have nc:=(h.pt ha hk).1;rw [hb]at ab nb⊢;rw [hc]at ac nc⊢;have fa:=nZ hn ha;have fb:=nZ hn oo;have fc:=nZ hn cg;obtain⟨x,hx⟩:∃x:List Int,x=(gl (au n R B) (c:Int)).set i (gi (gl (au n R B) (b:Int)) (i:Int)):=⟨_,rfl⟩;have dA:x.length=n:=by rw [hx,iw];exact fc.1
 have fW:∀j:Nat,j<n→gi x (j:Int)=if i=j then gi (gl (au n R B) (b:Int)) (i:Int)else gi (gl (au n R B) (c:Int)) (j:Int):=fun j hj=>by
  rw [bX (by omega)];subst hx;rw [List.getElem_set]
  split
  ·rfl
  exact(bX (by rw [fc.1];exact hj)).symm
 have hm:x∈au n R B:=by
  refine(nY hn).2 ⟨dA,fun j hj=>?_,fun j hj=>?_⟩
  ·rw [fW j hj]
   split
   ·rename_i e;subst e;exact fb.2.1 i hj
   exact fc.2.1 j hj
  rw [fW j (by omega),fW (j+1) hj]
  by_cases e1:i=j
  ·subst e1;rw [aj rfl,ag (by omega),←ac.2.2 (i+1) hj (by omega),ab.2.2 (i+1) hj (by omega)];exact fb.2.2 i hj
  by_cases e2:i=j+1
  ·subst e2;rw [ag e1,aj rfl,←ac.2.2 j (by omega) (by omega),ab.2.2 j (by omega) (by omega)];exact fb.2.2 j hj
  rw [ag e1,ag e2];exact fc.2.2 j hj
 obtain⟨d,hd,ed⟩:=gJ.1 hm;have F6:gl (au n R B) (d:Int)=x:=by rw [db hd];exact ed
 have e1:eQ n (au n R B) k b=d:=by
  refine(((h.pt oo hk).2 d).1 ⟨⟨oo,hd,fun j hj bt=>?_⟩,fun e=>?_⟩).symm
  ·rw [F6,fW j hj]
   split
   ·rename_i e;subst e;rfl
   rename_i e;rw [←ab.2.2 j hj (fun e'=>e e'.symm),ac.2.2 j hj bt]
  subst e;have h1:=fW k hk;rw [ag (by omega),←F6,←ab.2.2 k hk (by omega)]at h1;exact nc (wc cg ha (uS (n:=n) fc.1 fa.1 fun j hj=>by
   by_cases e:j=k
   ·subst e;exact h1.symm
   exact(ac.2.2 j hj e).symm))
 have e2:eQ n (au n R B) i c=d:=by
  refine(((h.pt cg hi).2 d).1 ⟨⟨cg,hd,fun j hj bt=>?_⟩,fun e=>?_⟩).symm
  ·rw [F6,fW j hj,ag (fun e=>bt e.symm)]
  subst e;have h1:=fW i hi;rw [aj rfl,←F6,←ac.2.2 i hi (by omega)]at h1;exact nb (wc oo ha (uS (n:=n) fb.1 fa.1 fun j hj=>by
   by_cases e:j=i
   ·subst e;exact h1.symm
   exact(ab.2.2 j hj e).symm))
 rw [e1,e2]
theorem adS(hP:fO n R B)(hY:xN n R B)(hn:n≤5)(hb:(au n R B).length≤400):bL (bO n (au n R B)):=by
 have h:=Gf hP hY.2.2.1;have uJ:=hP.n1;have h0:0<n:=by omega
 have Hb:0< (au n R B).length:=List.length_pos_iff.2 hY.1;have wK:(gl (bO n (au n R B)) 0).length=(au n R B).length:=ES h h0;have h2:2≤(au n R B).length:=by
  have h1:=(h.pt Hb h0).1;have h3:=h.lt Hb h0;omega
 refine⟨by rw [sO];omega,by rw [wK];omega,fun p hp=>?_,fun i hi k hk nD f hf=>?_,?_⟩
 ·obtain⟨i,hi,rfl⟩:=(L2 h).1 hp;rw [wK,ES h hi];exact⟨O,adT h hb hi⟩
 ·rw [sO]at hi hk;rw [wK]at hf;have dT:=h.lt hf hi;have fM:=h.lt hf hk;refine⟨?_,?_⟩
  ·rw [tT h hi hf,tT h hk hf,tT h hk dT,tT h hi fM,Ym hP hY.2.2.1 hi hk nD hf]
  rw [tT h hi hf,tT h hk hf];intro e;have e:eQ n (au n R B) i f=eQ n (au n R B) k f:=by omega
  have a1:=ER h hf hi;have a2:=ER h hf hk;rw [←e]at a2;refine(h.pt hf hi).1 (wc dT hf (uS (n:=n) (nZ (by omega) dT).1 (nZ (by omega) hf).1 fun j hj=>?_))
  by_cases e3:j=i
  ·exact(a2.2.2 j hj (by omega)).symm
  exact(a1.2.2 j hj e3).symm
 rw [wK];refine(Ts (adV h) Hb).2 fun x sM jg=>?_
 obtain⟨b,rfl⟩:∃b:Nat,x=b:=⟨x.toNat,by omega⟩
 by_cases e:b=0
 ·subst e;exact .refl
 exact adR h (hY.2.2.2 0 b (by omega) (by omega))
end
end
end Go.Proofs.YtopgfgdgfjddpaaGreatDoor.Vc
