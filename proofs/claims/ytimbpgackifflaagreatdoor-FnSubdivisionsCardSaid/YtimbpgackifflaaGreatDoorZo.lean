/-
 Lemmas. Conditions: as each states them.
-/
import Derived.Test.YtimbpgackifflaaGreatDoorZn
set_option maxHeartbeats 8000000
set_option maxRecDepth 100000
namespace Go.Proofs.YtimbpgackifflaaGreatDoor.Vc
open Tryz
section
open Go.RowKit
def Fq1(w1:aa)(ks:List Ck)(As La A6:ai)(L:ah)(S:Nat->Bool)(e:Env)(w:aa):Prop:=
 e 3=.pointer As/\
 e 5=.slice La 2 2/\
 e 6=.slice A6 0 0/\
 (S 0=true->e 51=.slice La 2 2)/\
 (S 1=true->e 52=.pointer (aH La (1:Int).toNat))/\
 (S 2=true->e 53=aj (gi L 1))/\
 (S 3=true->e 54=.bool (decide (¬gi L 1=3)))/\
 (S 4=true->e 55=.bool (decide (¬gi L 1=3)))/\
 (S 5=true->(¬gi L 1=3)->e 56=.slice La 2 2)/\
 (S 6=true->(¬gi L 1=3)->e 57=.pointer (aH La (0:Int).toNat))/\
 (S 7=true->(¬gi L 1=3)->e 58=aj (gi L 0))/\
 (S 8=true->(¬gi L 1=3)->e 59=.slice La 2 2)/\
 (S 9=true->(¬gi L 1=3)->e 60=.pointer (aH La (1:Int).toNat))/\
 (S 10=true->(¬gi L 1=3)->e 61=aj (gi L 1))/\
 (S 11=true->(¬gi L 1=3)->e 62=aj (gi L 0+gi L 1))/\
 (S 12=true->(¬gi L 1=3)->e 63=.bool (decide (7<gi L 0+gi L 1)))/\
 (S 13=true->e 64=.bool (decide (¬gi L 1=3/\7<gi L 0+gi L 1)))/\
 St w1 w ks
def Fq2(w1:aa)(As La A6:ai)(L:ah)(S:Nat->Bool)(e:Env)(w:aa):Prop:=
 ∃(r:Int)(k:Ck),e 3=.pointer As/\
 e 5=.slice La 2 2/\
 e 6=.slice A6 0 0/\
 (S 0=true->e 80=.pointer As)/\
 (S 1=true->e 81=aj r)/\
 (S 2=true->e 82=.bool (decide (r=0)))/\
 (S 3=true->e 83=.bool (decide (r=0)))/\
 (S 4=true->r=0->e 84=.slice La 2 2)/\
 (S 5=true->r=0->e 85=.pointer (aH La (0:Int).toNat))/\
 (S 6=true->r=0->e 86=aj (gi L 0))/\
 (S 7=true->r=0->e 87=.slice La 2 2)/\
 (S 8=true->r=0->e 88=.pointer (aH La (1:Int).toNat))/\
 (S 9=true->r=0->e 89=aj (gi L 1))/\
 (S 10=true->r=0->e 90=aj (gi L 0+gi L 1))/\
 (S 11=true->r=0->e 91=.bool (decide (gi L 0+gi L 1=7)))/\
 (S 12=true->e 92=.bool (decide (r=0/\gi L 0+gi L 1=7)))/\
 (0<=r/\r<2)/\
 Jk w1 As k/\
 St w1 w [aX 27 A6 0 0 [],av 2 La 2 2 L,k]
theorem ae6{M:ag}(hM:eY M):∀x∈iG M,0<=x/\x<=30000:=λx hx=>by
 unfold iG at hx;obtain⟨i,_,rfl⟩:=de.1 hx;have:=DU M i;have:=hM.2.1;omega
theorem aci(Ac:ai)(nc cc:Nat)(bs:ah)(w:aa)(hT:lh w)(hY:vf w Ac nc bs):
 aF prog 3 [.slice Ac nc cc] w (λv w'=>v=.bool true/\St w w' []):=by
 refine bn func3 O ntmps3 O (bM O) (aY O (aI (aeb Ac nc cc w) O ?_));rintro _ w1 ⟨rfl,Ec⟩;refine ay O (aK _ O (λh1=>?_) (λh1=>?_))
 ·refine dE O (cK O ?_);exact⟨O,Ec⟩
 ·refine aC O (aI (apX Ac nc cc bs 1161 w1 (hY.below Ec.below) ac) O ?_);rintro _ w2 ⟨As,k0,rfl,OJ,hS⟩;refine aq O (rh [3,3] hS O O am am O O λL0 v0 ll=>rh [4,3] ll O O am am O O λL1 v1 V7=>rh [3,4] V7 O O am am O O λL2 v2 Wa=>rh [4,4] Wa O O am am O O λL3 v3 Gm=>rh [3,6] Gm O O am am O O λL4 v4 Wb=>acJ [⟨L0,2,2⟩,⟨L1,2,2⟩,⟨L2,2,2⟩,⟨L3,2,2⟩,⟨L4,2,2⟩] Wb O O am am O O λA44 w3 aM=>aq O (aI (Np 6 5 aM O OJ) O ?_));rintro _ w4 ⟨g,k1,rfl,hg,JN,aU⟩;have aU:St w1 w4 [aX 27 A44 5 5 [⟨L0,2,2⟩,⟨L1,2,2⟩,⟨L2,2,2⟩,⟨L3,2,2⟩,⟨L4,2,2⟩],av 2 L4 2 2 [3,6],av 2 L3 2 2 [4,4],av 2 L2 2 2 [3,4],av 2 L1 2 2 [4,3],av 2 L0 2 2 [3,3],k1]:=aU;obtain⟨q,rfl⟩:∃q:Nat,g=q:=⟨g.toNat,ac⟩;have hq5:q<5:=by have:=hg.2.1 am;omega
  refine auJ (aU.rd 0 O) O O O ac (by show(q:Int)<(5:Int);omega) ?_;refine auQ (i:=(q:Int)) (aU.dm 0 O) O (by show(q:Int).toNat<5;omega) O O ?_;obtain⟨La,L,um,hL,aO⟩:∃La L,rg [⟨L0,2,2⟩,⟨L1,2,2⟩,⟨L2,2,2⟩,⟨L3,2,2⟩,⟨L4,2,2⟩] q=⟨La,2,2⟩/\(L=[3,3]\/L=[4,3]\/L=[3,4]\/L=[4,4]\/L=[3,6])/\St w1 w4 [av 2 La 2 2 L,k1]:=by
   rcases(by omega:q=0\/q=1\/q=2\/q=3\/q=4)with rfl|rfl|rfl|rfl|rfl
   ·exact⟨L0,[3,3],O,.inl O,aU.sub (.cons _ (.cons _ (.cons _ (.cons _ (.cons _ (.cons_cons _ (fD [k1])))))))⟩
   ·exact⟨L1,[4,3],O,.inr (.inl O),aU.sub (.cons _ (.cons _ (.cons _ (.cons _ (.cons_cons _ (.cons _ (fD [k1])))))))⟩
   ·exact⟨L2,[3,4],O,.inr (.inr (.inl O)),aU.sub (.cons _ (.cons _ (.cons _ (.cons_cons _ (.cons _ (.cons _ (fD [k1])))))))⟩
   ·exact⟨L3,[4,4],O,.inr (.inr (.inr (.inl O))),aU.sub (.cons _ (.cons _ (.cons_cons _ (.cons _ (.cons _ (.cons _ (fD [k1])))))))⟩
   ·exact⟨L4,[3,6],O,.inr (.inr (.inr (.inr O))),aU.sub (.cons _ (.cons_cons _ (.cons _ (.cons _ (.cons _ (.cons _ (fD [k1])))))))⟩
  have la:3<=gi L 0/\gi L 0<=4/\3<=gi L 1/\gi L 1<=6:=by rcases hL with rfl|rfl|rfl|rfl|rfl<;>decide
  rw[um];clear hS ll V7 Wa Gm Wb aM aU um;refine aq O (jy aO O ?_);intro zy w5 bk;have bk:St w1 w5 [aX 27 zy 0 0 [],av 2 La 2 2 L,k1]:=bk;clear aO;refine tG 0 O (lH (α:=ai×Nat×Nat) (λs=>[(5,.slice La 2 2),(6,.slice s.1 s.2.1 s.2.2)]) (λs w'=>∃words rs,bu w' La 2 L/\bH w' s.1 s.2.1 rs words/\xK L words/\St w1 w' []) ?_ ?_)
  ·refine bC O (Fq an an (λS e1 w9=>Fq1 w1 [aX 27 zy 0 0 [],av 2 La 2 2 L,k1] As La zy L S e1 w9) (λw9 hb=>⟨O,O,O,(λh=>(nomatch h)),(λh=>(nomatch h)),(λh=>(nomatch h)),(λh=>(nomatch h)),(λh=>(nomatch h)),(λh=>(nomatch h)),(λh=>(nomatch h)),(λh=>(nomatch h)),(λh=>(nomatch h)),(λh=>(nomatch h)),(λh=>(nomatch h)),(λh=>(nomatch h)),(λh=>(nomatch h)),(λh=>(nomatch h)),bk.ao hb⟩) ?_ ?_)
   ·intro S q o e1 w9 hq cz hd b8 hI;obtain⟨f3,f5,f6,p0,p1,p2,p3,p4,p5,p6,p7,p8,p9,eI,gf,gg,lB,hD⟩:=hI
    match q,hq,cz with
    |0,hq,cz=>
     obtain rfl:=cn hq;refine mm O (by exact f5) O (ak.n ?_);exact⟨f3,f5,f6,(λ_=>O),p1,p2,p3,p4,p5,p6,p7,p8,p9,eI,gf,gg,lB,hD⟩
    |1,hq,cz=>
     obtain rfl:=cn hq;refine auJ (hD.rd 1 O) (by exact p0 (bK hd 0 O)) O O am (by show(1:Int)<((2:Nat):Int);decide) ?_;exact ak.n ⟨f3,f5,f6,p0,(λ_=>O),p2,p3,p4,p5,p6,p7,p8,p9,eI,gf,gg,lB,hD⟩
    |2,hq,cz=>
     obtain rfl:=cn hq;refine auK (i:=1) (hD.bF 1 O) (by exact p1 (bK hd 1 O)) am O O ?_;exact ak.n ⟨f3,f5,f6,p0,p1,(λ_=>O),p3,p4,p5,p6,p7,p8,p9,eI,gf,gg,lB,hD⟩
    |3,hq,cz=>
     obtain rfl:=cn hq;refine ak.neq (by exact p2 (bK hd 2 O)) O O (ak.n ?_);exact⟨f3,f5,f6,p0,p1,p2,(λ_=>O),p4,p5,p6,p7,p8,p9,eI,gf,gg,lB,hD⟩
    |4,hq,cz=>
     obtain rfl:=cn hq;refine IA O (by exact p3 (bK hd 3 O)) O (ak.n ?_);exact⟨f3,f5,f6,p0,p1,p2,p3,(λ_=>O),p5,p6,p7,p8,p9,eI,gf,gg,lB,hD⟩
    |5,hq,cz=>
     obtain rfl:=cn hq
     by_cases hg:¬gi L 1=3
     ·refine auH O O (by exact(p4 (bK hd 4 O)).trans (aQ Value.bool (dB hg))) (mm O (by exact f5) O (ak.n ?_));exact⟨f3,f5,f6,p0,p1,p2,p3,p4,(λ_ _=>O),p6,p7,p8,p9,eI,gf,gg,lB,hD⟩
     ·refine auI O O (by exact(p4 (bK hd 4 O)).trans (aQ Value.bool (db hg))) O O (ak.n ?_);exact⟨f3,f5,f6,p0,p1,p2,p3,p4,(λ_ h=>absurd h hg),p6,p7,p8,p9,eI,gf,gg,lB,hD⟩
    |6,hq,cz=>
     obtain rfl:=cn hq
     by_cases hg:¬gi L 1=3
     ·refine auH O O (by exact(p4 (bK hd 4 O)).trans (aQ Value.bool (dB hg))) ?_;refine auJ (hD.rd 1 O) (by exact p5 (bK hd 5 O) hg) O O am (by show(0:Int)<((2:Nat):Int);decide) ?_;exact ak.n ⟨f3,f5,f6,p0,p1,p2,p3,p4,p5,(λ_ _=>O),p7,p8,p9,eI,gf,gg,lB,hD⟩
     ·refine auI O O (by exact(p4 (bK hd 4 O)).trans (aQ Value.bool (db hg))) O O (ak.n ?_);exact⟨f3,f5,f6,p0,p1,p2,p3,p4,p5,(λ_ h=>absurd h hg),p7,p8,p9,eI,gf,gg,lB,hD⟩
    |7,hq,cz=>
     obtain rfl:=cn hq
     by_cases hg:¬gi L 1=3
     ·refine auH O O (by exact(p4 (bK hd 4 O)).trans (aQ Value.bool (dB hg))) ?_;refine auK (i:=0) (hD.bF 1 O) (by exact p6 (bK hd 6 O) hg) am O O ?_;exact ak.n ⟨f3,f5,f6,p0,p1,p2,p3,p4,p5,p6,(λ_ _=>O),p8,p9,eI,gf,gg,lB,hD⟩
     ·refine auI O O (by exact(p4 (bK hd 4 O)).trans (aQ Value.bool (db hg))) O O (ak.n ?_);exact⟨f3,f5,f6,p0,p1,p2,p3,p4,p5,p6,(λ_ h=>absurd h hg),p8,p9,eI,gf,gg,lB,hD⟩
    |8,hq,cz=>
     obtain rfl:=cn hq
     by_cases hg:¬gi L 1=3
     ·refine auH O O (by exact(p4 (bK hd 4 O)).trans (aQ Value.bool (dB hg))) (mm O (by exact f5) O (ak.n ?_));exact⟨f3,f5,f6,p0,p1,p2,p3,p4,p5,p6,p7,(λ_ _=>O),p9,eI,gf,gg,lB,hD⟩
     ·refine auI O O (by exact(p4 (bK hd 4 O)).trans (aQ Value.bool (db hg))) O O (ak.n ?_);exact⟨f3,f5,f6,p0,p1,p2,p3,p4,p5,p6,p7,(λ_ h=>absurd h hg),p9,eI,gf,gg,lB,hD⟩
    |9,hq,cz=>
     obtain rfl:=cn hq
     by_cases hg:¬gi L 1=3
     ·refine auH O O (by exact(p4 (bK hd 4 O)).trans (aQ Value.bool (dB hg))) ?_;refine auJ (hD.rd 1 O) (by exact p8 (bK hd 8 O) hg) O O am (by show(1:Int)<((2:Nat):Int);decide) ?_;exact ak.n ⟨f3,f5,f6,p0,p1,p2,p3,p4,p5,p6,p7,p8,(λ_ _=>O),eI,gf,gg,lB,hD⟩
     ·refine auI O O (by exact(p4 (bK hd 4 O)).trans (aQ Value.bool (db hg))) O O (ak.n ?_);exact⟨f3,f5,f6,p0,p1,p2,p3,p4,p5,p6,p7,p8,(λ_ h=>absurd h hg),eI,gf,gg,lB,hD⟩
    |10,hq,cz=>
     obtain rfl:=cn hq
     by_cases hg:¬gi L 1=3
     ·refine auH O O (by exact(p4 (bK hd 4 O)).trans (aQ Value.bool (dB hg))) ?_;refine auK (i:=1) (hD.bF 1 O) (by exact p9 (bK hd 9 O) hg) am O O ?_;exact ak.n ⟨f3,f5,f6,p0,p1,p2,p3,p4,p5,p6,p7,p8,p9,(λ_ _=>O),gf,gg,lB,hD⟩
     ·refine auI O O (by exact(p4 (bK hd 4 O)).trans (aQ Value.bool (db hg))) O O (ak.n ?_);exact⟨f3,f5,f6,p0,p1,p2,p3,p4,p5,p6,p7,p8,p9,(λ_ h=>absurd h hg),gf,gg,lB,hD⟩
    |11,hq,cz=>
     obtain rfl:=cn hq
     by_cases hg:¬gi L 1=3
     ·refine auH O O (by exact(p4 (bK hd 4 O)).trans (aQ Value.bool (dB hg))) (auN (by exact p7 (bK hd 7 O) hg) (by exact eI (bK hd 10 O) hg) O ac (ak.n ?_));exact⟨f3,f5,f6,p0,p1,p2,p3,p4,p5,p6,p7,p8,p9,eI,(λ_ _=>O),gg,lB,hD⟩
     ·refine auI O O (by exact(p4 (bK hd 4 O)).trans (aQ Value.bool (db hg))) O O (ak.n ?_);exact⟨f3,f5,f6,p0,p1,p2,p3,p4,p5,p6,p7,p8,p9,eI,(λ_ h=>absurd h hg),gg,lB,hD⟩
    |12,hq,cz=>
     obtain rfl:=cn hq
     by_cases hg:¬gi L 1=3
     ·refine auH O O (by exact(p4 (bK hd 4 O)).trans (aQ Value.bool (dB hg))) (ak.gtr (by exact gf (bK hd 11 O) hg) O O (ak.n ?_));exact⟨f3,f5,f6,p0,p1,p2,p3,p4,p5,p6,p7,p8,p9,eI,gf,(λ_ _=>O),lB,hD⟩
     ·refine auI O O (by exact(p4 (bK hd 4 O)).trans (aQ Value.bool (db hg))) O O (ak.n ?_);exact⟨f3,f5,f6,p0,p1,p2,p3,p4,p5,p6,p7,p8,p9,eI,gf,(λ_ h=>absurd h hg),lB,hD⟩
    |13,hq,cz=>
     obtain rfl:=cn hq
     by_cases hg:¬gi L 1=3
     ·refine ak.Rl (by exact(p4 (bK hd 4 O)).trans (aQ Value.bool (dB hg))) (by exact gg (bK hd 12 O) hg) O (ak.n ?_);exact⟨f3,f5,f6,p0,p1,p2,p3,p4,p5,p6,p7,p8,p9,eI,gf,gg,(λ_=>aQ Value.bool (kl.2 ⟨λh=>⟨hg,h⟩,λh=>h.2⟩)),hD⟩
     ·refine ak.Rk (b:=false) (by exact(p4 (bK hd 4 O)).trans (aQ Value.bool (db hg))) O O (ak.n ?_);exact⟨f3,f5,f6,p0,p1,p2,p3,p4,p5,p6,p7,p8,p9,eI,gf,gg,(λ_=>aQ Value.bool (db λh=>hg h.1).symm),hD⟩
    |q+14,hq,_=>exact(nomatch hq)
   intro S e1 w9 eA hI;obtain⟨f3,f5,f6,p0,p1,p2,p3,p4,p5,p6,p7,p8,p9,eI,gf,gg,lB,hD⟩:=hI;have bp:=hD;clear hD bk;refine IB (F:=[(3,.pointer As),(5,.slice La 2 2),(6,.slice zy 0 0),(64,.bool (decide (¬gi L 1=3/\7<gi L 0+gi L 1)))]) ⟨f3,f5,f6,lB (eA 13 am),au⟩ ?_;clear f3 f5 f6 p0 p1 p2 p3 p4 p5 p6 p7 p8 p9 eI gf gg lB;refine fG O (aK _ O (λh2=>?_) (λh2=>?_))
   ·refine aC O (rh [0,1,2,1] bp O O am am O O λIi w6 bB=>aq O (aI (Np 3 2 bB O JN) O ?_));rintro _ w7 ⟨r,k2,rfl,hr,D8,bj⟩;have bj:St w1 w7 [av 2 Ii 4 4 [0,1,2,1],aX 27 zy 0 0 [],av 2 La 2 2 L,k2]:=bj;obtain⟨j,rfl⟩:∃j:Nat,r=j:=⟨r.toNat,ac⟩;have hj:j<2:=by have:=hr.2.1 am;omega
    refine aJ O ?_;refine auM (Sw Ii 4 4 [0,1,2,1] (2+j) w7 (bj.bF 0 O) am ac) O (by exact aQ (λx:Int=>[Value.slice Ii 4 4,Value.int .i64 x]) (by omega:(2:Int)+(j:Int)=((2+j:Nat):Int))) O ?_;rintro _ w8 ⟨Ij,I3,rfl,aw⟩;have cQ:=bj.call aw;refine jW cQ O O O λA71 w9 dA=>iT 3 dA O (dA.dm 0 O) O O O am am O ?_;intro Ml I4 dJ dz;have dz:St w1 dJ [aX 27 A71 1 1 [⟨Ij,(gJ [0,1,2,1] (2+j)).length,I3⟩],av 2 Ij (gJ [0,1,2,1] (2+j)).length I3 (gJ [0,1,2,1] (2+j)),av 2 Ii 4 4 [0,1,2,1],aX 27 Ml 1 I4 [⟨Ij,(gJ [0,1,2,1] (2+j)).length,I3⟩],av 2 La 2 2 L,k2]:=dz;refine aq O ?_;refine auJ (dz.rd 4 O) O O O am (by show(0:Int)<((2:Nat):Int);decide) ?_;refine auK (i:=0) (dz.bF 4 O) O am O O (ay O (aK _ O (λh3=>?_) (λh3=>?_)))
    ·obtain rfl:L=[3,6]:=by rcases hL with rfl|rfl|rfl|rfl|rfl<;>first|rfl|exact absurd h2 am|exact absurd h3 am
     refine aC O (rh [0,1,2] dz O O am am O O λA77 eO il=>aI (Sw A77 3 3 [0,1,2] 4 eO (il.bF 0 O) am am) O ?_);rintro _ gD ⟨A78,c78,rfl,aw⟩;have lR:=il.call aw;refine jW lR O O O λA79 jm ke=>aN O (tQ ?_);exact⟨(A79,1,1),(auV O),[gJ [0,1,2] 4],[⟨A78,(gJ [0,1,2] 4).length,c78⟩],ke.bF 7 O,St.fO (t1:=27) (t2:=2) (c:=1) ke O,ag9,ke.none⟩
    ·obtain rfl:L=[4,4]:=by rcases hL with rfl|rfl|rfl|rfl|rfl<;>first|rfl|exact absurd h2 am|exact absurd am h3
     refine jE O (tQ ?_);exact⟨(Ml,1,I4),⟨rfl,rfl,au⟩,[gJ [0,1,2,1] (2+j)],[⟨Ij,(gJ [0,1,2,1] (2+j)).length,I3⟩],dz.bF 4 rfl,St.fO (ks:=[]) (t1:=27) (t2:=2) (c:=I4) (((dz.sub (ks':=[_,_]) (.cons _ (.cons_cons _ (.cons _ (.cons_cons _ (List.nil_sublist _)))))).perm (List.Perm.swap _ _ _))) rfl,(by rcases(by omega:j=0\/j=1)with rfl|rfl;exact ag8;exact aha),dz.none⟩
   ·refine cM O ?_;refine Fq an an (λS e1 w9=>Fq2 w1 As La zy L S e1 w9) (λw9 hb=>⟨0,k1,O,O,O,(λh=>(nomatch h)),(λh=>(nomatch h)),(λh=>(nomatch h)),(λh=>(nomatch h)),(λh=>(nomatch h)),(λh=>(nomatch h)),(λh=>(nomatch h)),(λh=>(nomatch h)),(λh=>(nomatch h)),(λh=>(nomatch h)),(λh=>(nomatch h)),(λh=>(nomatch h)),(λh=>(nomatch h)),am,JN,bp.ao hb⟩) ?_ ?_
    ·intro S q o e1 w9 hq cz hd b8 hI;obtain⟨r,k,f3,f5,f6,p0,p1,p2,p3,p4,p5,p6,p7,p8,p9,eI,gf,gg,hr,hK,hD⟩:=hI
     match q,hq,cz with
     |0,hq,cz=>
      obtain rfl:=cn hq;refine acV O (by exact f3) O (ak.n ?_);exact⟨r,k,f3,f5,f6,(λ_=>O),p1,p2,p3,p4,p5,p6,p7,p8,p9,eI,gf,gg,hr,hK,hD⟩
     |1,hq,cz=>
      obtain rfl:=cn hq;have n2:S 2=false:=by
       cases h:S 2 with
       |false=>rfl
       |true=>rw[<-cz];exact(bK (b8 2 _ h rfl) 1 rfl).symm
      have n3:S 3=false:=by
       cases h:S 3 with
       |false=>rfl
       |true=>rw[<-n2];exact(bK (b8 3 _ h rfl) 2 rfl).symm
      have n4:S 4=false:=by
       cases h:S 4 with
       |false=>rfl
       |true=>rw[<-n3];exact(bK (b8 4 _ h rfl) 3 rfl).symm
      have n5:S 5=false:=by
       cases h:S 5 with
       |false=>rfl
       |true=>rw[<-n4];exact(bK (b8 5 _ h rfl) 4 rfl).symm
      have n6:S 6=false:=by
       cases h:S 6 with
       |false=>rfl
       |true=>rw[<-n5];exact(bK (b8 6 _ h rfl) 5 rfl).symm
      have n7:S 7=false:=by
       cases h:S 7 with
       |false=>rfl
       |true=>rw[<-n3];exact(bK (b8 7 _ h rfl) 3 rfl).symm
      have n8:S 8=false:=by
       cases h:S 8 with
       |false=>rfl
       |true=>rw[<-n7];exact(bK (b8 8 _ h rfl) 7 rfl).symm
      have n9:S 9=false:=by
       cases h:S 9 with
       |false=>rfl
       |true=>rw[<-n8];exact(bK (b8 9 _ h rfl) 8 rfl).symm
      have n10:S 10=false:=by
       cases h:S 10 with
       |false=>rfl
       |true=>rw[<-n6];exact(bK (b8 10 _ h rfl) 6 rfl).symm
      have n11:S 11=false:=by
       cases h:S 11 with
       |false=>rfl
       |true=>rw[<-n10];exact(bK (b8 11 _ h rfl) 10 rfl).symm
      have n12:S 12=false:=by
       cases h:S 12 with
       |false=>rfl
       |true=>rw[<-n3];exact(bK (b8 12 _ h rfl) 3 rfl).symm
      refine auM (Np 2 2 hD O hK) O (by show[e1 80,_]=_;rw[p0 (bK hd 0 O)];rfl) O ?_;rintro _ w8 ⟨r2,k2,rfl,vA,D8,hD2⟩;exact ak.n ⟨r2,k2,f3,f5,f6,p0,(λ_=>O),(λh=>(nomatch n2.symm.trans h)),(λh=>(nomatch n3.symm.trans h)),(λh=>(nomatch n4.symm.trans h)),(λh=>(nomatch n5.symm.trans h)),(λh=>(nomatch n6.symm.trans h)),(λh=>(nomatch n7.symm.trans h)),(λh=>(nomatch n8.symm.trans h)),(λh=>(nomatch n9.symm.trans h)),(λh=>(nomatch n10.symm.trans h)),(λh=>(nomatch n11.symm.trans h)),(λh=>(nomatch n12.symm.trans h)),⟨vA.1,vA.2.1 am⟩,D8,hD2⟩
     |2,hq,cz=>
      obtain rfl:=cn hq;refine ak.eql (by exact p1 (bK hd 1 O)) O O (ak.n ?_);exact⟨r,k,f3,f5,f6,p0,p1,(λ_=>O),p3,p4,p5,p6,p7,p8,p9,eI,gf,gg,hr,hK,hD⟩
     |3,hq,cz=>
      obtain rfl:=cn hq;refine IA O (by exact p2 (bK hd 2 O)) O (ak.n ?_);exact⟨r,k,f3,f5,f6,p0,p1,p2,(λ_=>O),p4,p5,p6,p7,p8,p9,eI,gf,gg,hr,hK,hD⟩
     |4,hq,cz=>
      obtain rfl:=cn hq
      by_cases hg:r=0
      ·refine auH O O (by exact(p3 (bK hd 3 O)).trans (aQ Value.bool (dB hg))) (mm O (by exact f5) O (ak.n ?_));exact⟨r,k,f3,f5,f6,p0,p1,p2,p3,(λ_ _=>O),p5,p6,p7,p8,p9,eI,gf,gg,hr,hK,hD⟩
      ·refine auI O O (by exact(p3 (bK hd 3 O)).trans (aQ Value.bool (db hg))) O O (ak.n ?_);exact⟨r,k,f3,f5,f6,p0,p1,p2,p3,(λ_ h=>absurd h hg),p5,p6,p7,p8,p9,eI,gf,gg,hr,hK,hD⟩
     |5,hq,cz=>
      obtain rfl:=cn hq
      by_cases hg:r=0
      ·refine auH O O (by exact(p3 (bK hd 3 O)).trans (aQ Value.bool (dB hg))) ?_;refine auJ (hD.rd 1 O) (by exact p4 (bK hd 4 O) hg) O O am (by show(0:Int)<((2:Nat):Int);decide) ?_;exact ak.n ⟨r,k,f3,f5,f6,p0,p1,p2,p3,p4,(λ_ _=>O),p6,p7,p8,p9,eI,gf,gg,hr,hK,hD⟩
      ·refine auI O O (by exact(p3 (bK hd 3 O)).trans (aQ Value.bool (db hg))) O O (ak.n ?_);exact⟨r,k,f3,f5,f6,p0,p1,p2,p3,p4,(λ_ h=>absurd h hg),p6,p7,p8,p9,eI,gf,gg,hr,hK,hD⟩
     |6,hq,cz=>
      obtain rfl:=cn hq
      by_cases hg:r=0
      ·refine auH O O (by exact(p3 (bK hd 3 O)).trans (aQ Value.bool (dB hg))) ?_;refine auK (i:=0) (hD.bF 1 O) (by exact p5 (bK hd 5 O) hg) am O O ?_;exact ak.n ⟨r,k,f3,f5,f6,p0,p1,p2,p3,p4,p5,(λ_ _=>O),p7,p8,p9,eI,gf,gg,hr,hK,hD⟩
      ·refine auI O O (by exact(p3 (bK hd 3 O)).trans (aQ Value.bool (db hg))) O O (ak.n ?_);exact⟨r,k,f3,f5,f6,p0,p1,p2,p3,p4,p5,(λ_ h=>absurd h hg),p7,p8,p9,eI,gf,gg,hr,hK,hD⟩
     |7,hq,cz=>
      obtain rfl:=cn hq
      by_cases hg:r=0
      ·refine auH O O (by exact(p3 (bK hd 3 O)).trans (aQ Value.bool (dB hg))) (mm O (by exact f5) O (ak.n ?_));exact⟨r,k,f3,f5,f6,p0,p1,p2,p3,p4,p5,p6,(λ_ _=>O),p8,p9,eI,gf,gg,hr,hK,hD⟩
      ·refine auI O O (by exact(p3 (bK hd 3 O)).trans (aQ Value.bool (db hg))) O O (ak.n ?_);exact⟨r,k,f3,f5,f6,p0,p1,p2,p3,p4,p5,p6,(λ_ h=>absurd h hg),p8,p9,eI,gf,gg,hr,hK,hD⟩
     |8,hq,cz=>
      obtain rfl:=cn hq
      by_cases hg:r=0
      ·refine auH O O (by exact(p3 (bK hd 3 O)).trans (aQ Value.bool (dB hg))) ?_;refine auJ (hD.rd 1 O) (by exact p7 (bK hd 7 O) hg) O O am (by show(1:Int)<((2:Nat):Int);decide) ?_;exact ak.n ⟨r,k,f3,f5,f6,p0,p1,p2,p3,p4,p5,p6,p7,(λ_ _=>O),p9,eI,gf,gg,hr,hK,hD⟩
      ·refine auI O O (by exact(p3 (bK hd 3 O)).trans (aQ Value.bool (db hg))) O O (ak.n ?_);exact⟨r,k,f3,f5,f6,p0,p1,p2,p3,p4,p5,p6,p7,(λ_ h=>absurd h hg),p9,eI,gf,gg,hr,hK,hD⟩
     |9,hq,cz=>
      obtain rfl:=cn hq
      by_cases hg:r=0
      ·refine auH O O (by exact(p3 (bK hd 3 O)).trans (aQ Value.bool (dB hg))) ?_;refine auK (i:=1) (hD.bF 1 O) (by exact p8 (bK hd 8 O) hg) am O O ?_;exact ak.n ⟨r,k,f3,f5,f6,p0,p1,p2,p3,p4,p5,p6,p7,p8,(λ_ _=>O),eI,gf,gg,hr,hK,hD⟩
      ·refine auI O O (by exact(p3 (bK hd 3 O)).trans (aQ Value.bool (db hg))) O O (ak.n ?_);exact⟨r,k,f3,f5,f6,p0,p1,p2,p3,p4,p5,p6,p7,p8,(λ_ h=>absurd h hg),eI,gf,gg,hr,hK,hD⟩
     |10,hq,cz=>
      obtain rfl:=cn hq
      by_cases hg:r=0
      ·refine auH O O (by exact(p3 (bK hd 3 O)).trans (aQ Value.bool (dB hg))) (auN (by exact p6 (bK hd 6 O) hg) (by exact p9 (bK hd 9 O) hg) O ac (ak.n ?_));exact⟨r,k,f3,f5,f6,p0,p1,p2,p3,p4,p5,p6,p7,p8,p9,(λ_ _=>O),gf,gg,hr,hK,hD⟩
      ·refine auI O O (by exact(p3 (bK hd 3 O)).trans (aQ Value.bool (db hg))) O O (ak.n ?_);exact⟨r,k,f3,f5,f6,p0,p1,p2,p3,p4,p5,p6,p7,p8,p9,(λ_ h=>absurd h hg),gf,gg,hr,hK,hD⟩
     |11,hq,cz=>
      obtain rfl:=cn hq
      by_cases hg:r=0
      ·refine auH O O (by exact(p3 (bK hd 3 O)).trans (aQ Value.bool (dB hg))) (ak.eql (by exact eI (bK hd 10 O) hg) O O (ak.n ?_));exact⟨r,k,f3,f5,f6,p0,p1,p2,p3,p4,p5,p6,p7,p8,p9,eI,(λ_ _=>O),gg,hr,hK,hD⟩
      ·refine auI O O (by exact(p3 (bK hd 3 O)).trans (aQ Value.bool (db hg))) O O (ak.n ?_);exact⟨r,k,f3,f5,f6,p0,p1,p2,p3,p4,p5,p6,p7,p8,p9,eI,(λ_ h=>absurd h hg),gg,hr,hK,hD⟩
     |12,hq,cz=>
      obtain rfl:=cn hq
      by_cases hg:r=0
      ·refine ak.Rl (by exact(p3 (bK hd 3 O)).trans (aQ Value.bool (dB hg))) (by exact gf (bK hd 11 O) hg) O (ak.n ?_);exact⟨r,k,f3,f5,f6,p0,p1,p2,p3,p4,p5,p6,p7,p8,p9,eI,gf,(λ_=>aQ Value.bool (kl.2 ⟨λh=>⟨hg,h⟩,λh=>h.2⟩)),hr,hK,hD⟩
      ·refine ak.Rk (b:=false) (by exact(p3 (bK hd 3 O)).trans (aQ Value.bool (db hg))) O O (ak.n ?_);exact⟨r,k,f3,f5,f6,p0,p1,p2,p3,p4,p5,p6,p7,p8,p9,eI,gf,(λ_=>aQ Value.bool (db λh=>hg h.1).symm),hr,hK,hD⟩
     |q+13,hq,_=>exact(nomatch hq)
    intro S e1 w9 eA hI;obtain⟨r,k,f3,f5,f6,p0,p1,p2,p3,p4,p5,p6,p7,p8,p9,eI,gf,gg,hr,hK,hD⟩:=hI;clear bp JN;refine IB (F:=[(5,.slice La 2 2),(6,.slice zy 0 0),(92,.bool (decide (r=0/\gi L 0+gi L 1=7)))]) ⟨f5,f6,gg (eA 12 am),au⟩ ?_;clear f3 f5 f6 p0 p1 p2 p3 p4 p5 p6 p7 p8 p9 eI gf gg;refine fG O (aK _ O (λh3=>?_) (λh3=>?_))
    ·refine aC O (rh [0,1,2] hD O O am am O O λSM eO il=>aI (Sw SM 3 3 [0,1,2] 3 eO (il.bF 0 O) am am) O ?_);rintro _ gD ⟨Ik,I5,rfl,aw⟩;have lR:=il.call aw;refine jW lR O O O λA96 jm ke=>iT 3 ke O (ke.dm 0 O) O O O am am O ?_;intro SN M4 qZ dz;have dz:St w1 qZ [aX 27 A96 1 1 [⟨Ik,(gJ [0,1,2] 3).length,I5⟩],av 2 Ik (gJ [0,1,2] 3).length I5 (gJ [0,1,2] 3),av 2 SM 3 3 [0,1,2],aX 27 SN 1 M4 [⟨Ik,(gJ [0,1,2] 3).length,I5⟩],av 2 La 2 2 L,k]:=dz;refine aN O (tQ ?_);exact⟨(SN,1,M4),⟨rfl,rfl,au⟩,[gJ [0,1,2] 3],[⟨Ik,(gJ [0,1,2] 3).length,I5⟩],dz.bF 4 rfl,St.fO (ks:=[]) (t1:=27) (t2:=2) (c:=M4) (((dz.sub (ks':=[_,_]) (.cons _ (.cons_cons _ (.cons _ (.cons_cons _ (List.nil_sublist _)))))).perm (List.Perm.swap _ _ _))) rfl,(by rcases hL with rfl|rfl|rfl|rfl|rfl<;>first|exact ag6|exact ag7|exact absurd h3.2 am),dz.none⟩
    ·refine jE O (tQ ?_);exact⟨(zy,0,0),⟨rfl,rfl,au⟩,[],[],hD.bF 1 rfl,St.fO (t1:=27) (t2:=2) (c:=0) hD rfl,(by rcases hL with rfl|rfl|rfl|rfl|rfl<;>first|exact ag3|exact ag4|exact ag5|exact absurd am h2),hD.none⟩
  ·rintro⟨A6,n6,c6⟩ e dJ ⟨words,ie,OM,J4,⟨T,O4,Ww,h3,GD⟩,O7⟩;dsimp only at J4|-;have hW:=(Ec.call O7).none;have hT:=(hT.ao Ec.below).ao O7.below;have hM:=O4.ZB;clear bk JN O7;refine aC O (aI (alw La 2 2 L T dJ OM A6 n6 c6 ie words J4 O4) O ?_);rintro _ eO ⟨A,c,rs,rfl,bT,hS⟩;have gu:T.length<=c/\c<=9223372036854775807:=hS.cap 0 O;refine aq O (DE hS O ?_);clear hS;intro A7 gD hS;refine dU 1 0 hS O O O O O O O ?_;clear hS;intro jm hS;have hS:St dJ jm (Bx 32 1 A7 [.slice A T.length c]::(aV 27 2 A T.length c rs T++[])):=by rw[dQ];exact hS
   refine aq O (aI (arL La 2 2 L T jm (hS.dq OM) A6 n6 c6 ie words (hS.bU J4) Ww) O ?_);rintro _ qZ ⟨A', c', rs', rfl, Hi, aw⟩;have hS:=hS.ao aw.below;clear aw;refine aq O (DE hS O ?_);clear hS;intro A9 Dw hS;refine dU 1 0 hS O O O O O O O ?_;clear hS;intro Ib hS;have hS:St dJ Ib (Bx 32 1 A7 [.slice A T.length c] :: (aV 27 2 A T.length c rs T ++[])):=hS.tail;have gZ:bH Ib A T.length rs T:=St.fO hS.tail O;have iA:Rd Ib A7 1 _:=hS.rd 0 O;have hT:=hT.ao hS.below;have hW:=hW.ao hS.below;clear hS OM J4 Ww O4;refine ay O (auT O (λh => h O) (aC O ?_));refine b9 115 O (λh => absurd O h) (λ_ => ?_) --f
   refine ar O (cG 0 iA O O O (ar O (aI (U6 A T.length c rs T _ gZ ac) O ?_)));rintro _ Me ⟨rfl,aw⟩;have bQ:=aw.below;have gZ:=gZ.ao bQ;have hT:=hT.ao bQ;have hW:=hW.ao bQ;have iA:=Rd.below iA bQ;refine ar O (ay O ?_);refine aK _ O (λh4=>?_) (λh4=>?_)
   ·refine dE O (cK O ?_);exact⟨O,hW⟩
   ·obtain⟨F,x,f⟩:=(GD.resolve_left ac).2;have hfew:a8 T T.length<=60:=by rw[h3];exact f.wA
    have PY:1<=a8 T T.length:=by rw[h3];exact f.one
    have JW:gN (T.length:Int) (ct T T.length) (cd T):=Rn hM ac;have eR:=Cm T T.length;have eB:=wC T;have xe:jc T.length (ct T T.length) (cd T)=F:=by rw[h3];exact f.sd
    have bN:ct T T.length≠[]:=λh=>by rw[h]at eR;simp at eR;omega
    have Ek:gm (a8 T T.length:Int) F:=by rw[h3];exact f.cx
    have KU:mW (iG T) (iG T).length=x:=by rw[Jb,h3];exact f.en
    refine aC O (cG 0 iA O O O (aI (alq A T.length c rs T _ gZ gu.1 gu.2 hM ac) O ?_));rintro _ Dx ⟨AR, cR, AD, cD, kg, rfl, Qb, aw⟩;have bQ:=aw.below;have gZ:=gZ.ao bQ; have hT:=hT.ao bQ; have hW:=hW.ao bQ; have iA:=Rd.below iA bQ;have hR:bu Dx AR (a8 T T.length) (ct T T.length):=aw.bF 0 O;have hB:bH Dx AD (a8 T T.length) kg (cd T):=St.fO aw.tail eB;clear aw;refine aq O (u9 (St.refl Dx) O ?_);intro eP Mf hU;refine dU 3 0 hU O O O O O O O ?_;clear hU;intro uT hU;have hU:St Dx uT [bS eP (T.length:Int) AR (a8 T T.length) cR AD (a8 T T.length) cD]:=hU;have kb:Rd uT eP 3 _:=hU.rd 0 O;have hR:=hR.ao hU.below;have hB:=hB.ao hU.below;have bQ:=hU.below;have gZ:=gZ.ao bQ; have hT:=hT.ao bQ; have hW:=hW.ao bQ; have iA:=Rd.below iA bQ;clear hU;have hI:=alv T.length AR AD cR cD (ct T T.length) kg (cd T) uT (eR.symm ▸ hR) (eB.symm ▸ hB) JW ac bN (by rw[xe]; exact f.lim);rw[eR, eB, xe]at hI;refine aq O (cG 2 kb O O O (aI hI O ?_));rintro _ Fk ⟨AF, cF, fP, rfl, Hf, aw⟩;clear hI;have hF:bH Fk AF F.length fP F:=St.fO aw O;have bQ:=aw.below;have gZ:=gZ.ao bQ; have hT:=hT.ao bQ; have hW:=hW.ao bQ; have iA:=Rd.below iA bQ; have hR:=hR.ao bQ; have hB:=hB.ao bQ; have kb:=Rd.below kb bQ;clear aw;refine aq O (kM (St.refl Fk) O ?_);intro ig SE hU;refine dU 2 0 hU O O O O O O O ?_;clear hU;intro Fl hU;have hU:St Fk Fl [oV ig (a8 T T.length:Int) AF F.length cF]:=hU;have ka:Rd Fl ig 2 _:=hU.rd 0 O;have hF:=hF.ao hU.below;have bQ:=hU.below;have gZ:=gZ.ao bQ; have hT:=hT.ao bQ; have hW:=hW.ao bQ; have iA:=Rd.below iA bQ; have hR:=hR.ao bQ; have hB:=hB.ao bQ; have kb:=Rd.below kb bQ;clear hU;have hI:=arK T.length AR AD cR cD (ct T T.length) kg (cd T) Fl (eR.symm ▸ hR) (eR.symm ▸ hB) JW ac bN (by rw[xe]; exact f.lim) (by rw[xe]; exact f.flat) (by rw[xe]; exact f.sa);rw[eR, xe, f.ck]at hI;refine aq O (cG 2 kb O O O (aI hI O ?_));rintro _ Ic ⟨V', A15', m', mU, rfl, aw⟩;clear hI;have bQ:=aw.below;have gZ:=gZ.ao bQ; have hT:=hT.ao bQ; have hW:=hW.ao bQ; have iA:=Rd.below iA bQ; have hR:=hR.ao bQ; have hB:=hB.ao bQ; have kb:=Rd.below kb bQ; have hF:=hF.ao bQ; have ka:=Rd.below ka bQ;clear aw;refine aq O (kM (St.refl Ic) O ?_);intro gK w25 hU;refine dU 2 0 hU O O O O O O O ?_;clear hU;intro w26 hU;have bQ:=hU.below;have gZ:=gZ.ao bQ; have hT:=hT.ao bQ; have hW:=hW.ao bQ; have iA:=Rd.below iA bQ; have hR:=hR.ao bQ; have hB:=hB.ao bQ; have kb:=Rd.below kb bQ; have hF:=hF.ao bQ; have ka:=Rd.below ka bQ;clear hU;refine aq O ?_;refine b9 137 O (λh => absurd O h) (λ_ => ?_) --f
    refine ar O (aq O (ar O (aq O (ar O (ay O ?_)))));refine auT O (λh=>h O) (cM O (auT O (λh=>h O) (aC O (cG 0 iA O O O (aI (als A T.length c rs T _ hT gZ gu.1 gu.2 hM ac) O ?_)))));rintro _ w27 ⟨b,rfl,aw⟩;have bQ:=aw.below;have gZ:=gZ.ao bQ;have hT:=hT.ao bQ;have hW:=hW.ao bQ;have iA:=Rd.below iA bQ;have hR:=hR.ao bQ;have hB:=hB.ao bQ;have kb:=Rd.below kb bQ;have hF:=hF.ao bQ;have ka:=Rd.below ka bQ;clear aw;refine aq O (cG 0 iA O O O (aI (arJ A T.length c rs T _ gZ ac hM ac) O ?_));rintro _ w28 ⟨b',rfl,aw⟩;have bQ:=aw.below;have gZ:=gZ.ao bQ;have hT:=hT.ao bQ;have hW:=hW.ao bQ;have iA:=Rd.below iA bQ;have hR:=hR.ao bQ;have hB:=hB.ao bQ;have kb:=Rd.below kb bQ;have hF:=hF.ao bQ;have ka:=Rd.below ka bQ;clear aw;refine ay O (auT O (λh=>h O) (aC O (b9 163 O (λh5=>?_) (λh5=>?_))))
    ·refine aB O (aB O (ay O ?_));refine Cd.iw O (dE O (cK O ?_));exact⟨O,hW⟩
    ·refine ar O (aq O (ar O ?_))
     first|refine cO rfl rfl ?_|refine dv rfl rfl ?_
     refine ay O ?_;refine aK (b=false) (aQ Value.bool (by cases b<;>rfl)) (λh6=>?_) (λh6=>?_)
     ·refine dE O (cK O ?_);exact⟨O,hW⟩
     ·obtain rfl:b=true:=by cases b<;>simp at h6|-
      have Oz:sO (ct T T.length) (cd T):=by rw[h3];exact f.ev
      have Kb:qn T.length (ct T T.length) (cd T)=[1,2-x,1]:=by rw[h3];exact f.bf
      have Kj:xh (a8 T T.length:Int) F=0:=by unfold xh;rw[if_pos Ek]
      refine aC O (cG 0 iA O O O (aI (acg A T.length c rs T _ gZ hM gu.1 gu.2 (ae6 hM)) O ?_));rintro _ w29 ⟨rfl, aw⟩;rw[KU];have bQ:=aw.below;have gZ:=gZ.ao bQ; have hT:=hT.ao bQ; have hW:=hW.ao bQ; have iA:=Rd.below iA bQ; have hR:=hR.ao bQ; have hB:=hB.ao bQ; have kb:=Rd.below kb bQ; have hF:=hF.ao bQ; have ka:=Rd.below ka bQ;clear aw;refine aq O (cG 1 ka O O O (aI (ach _ AF F.length cF fP F _ hT hF Ek) O ?_));rintro _ w30 ⟨rfl, aw⟩;rw[f.al];have bQ:=aw.below;have gZ:=gZ.ao bQ; have hT:=hT.ao bQ; have hW:=hW.ao bQ; have iA:=Rd.below iA bQ; have hR:=hR.ao bQ; have hB:=hB.ao bQ; have kb:=Rd.below kb bQ; have hF:=hF.ao bQ; have ka:=Rd.below ka bQ;clear aw;refine aq O (cG 1 ka O O O ?_);refine aI (alu _ AF F.length cF fP F _ hT hF (by have:=f.lim; omega)) O ?_;rintro _ w31 ⟨ps, rfl, wW, aw⟩;obtain rfl:=wW.2 ⟨Ek, f.ps⟩;rw[Kj];have bQ:=aw.below;have gZ:=gZ.ao bQ; have hT:=hT.ao bQ; have hW:=hW.ao bQ; have iA:=Rd.below iA bQ; have hR:=hR.ao bQ; have hB:=hB.ao bQ; have kb:=Rd.below kb bQ; have hF:=hF.ao bQ; have ka:=Rd.below ka bQ;clear aw;refine aq O (cG 1 ka O O O ?_);refine aI (alr _ AF F.length cF fP F _ hT hF (by have:=f.lim; omega)) O ?_;rintro _ w32 ⟨rfl, aw⟩;rw[Kj, show QA (a8 T T.length:Int) F = decide (x = 2)from by rw[<- f.eu]; exact kl.2 ⟨λh => h.2, λh =>⟨Ek, h⟩⟩];have bQ:=aw.below;have gZ:=gZ.ao bQ; have hT:=hT.ao bQ; have hW:=hW.ao bQ; have iA:=Rd.below iA bQ; have hR:=hR.ao bQ; have hB:=hB.ao bQ; have kb:=Rd.below kb bQ; have hF:=hF.ao bQ; have ka:=Rd.below ka bQ;clear aw;refine aq O (cG 1 ka O O O ?_);refine aI (acb _ AF F.length cF fP F _ hT hF (by have:=f.lim; omega)) O ?_;rintro _ w33 ⟨nY, T5, rfl, aw⟩;rw[Kj];rw[show IZ (a8 T T.length:Int) F =[1, 2-x, 1]from by unfold IZ; rw[if_pos Ek, aeC]; exact f.bt]at aw|-;have F9:bu w33 nY 3 [1, 2-x, 1]:=aw.bF 0 O;have bQ:=aw.below;have gZ:=gZ.ao bQ; have hT:=hT.ao bQ; have hW:=hW.ao bQ; have iA:=Rd.below iA bQ; have hR:=hR.ao bQ; have hB:=hB.ao bQ; have kb:=Rd.below kb bQ; have hF:=hF.ao bQ; have ka:=Rd.below ka bQ;clear aw;refine aq O (cG 2 kb O O O ?_);refine auM (alp 2 AR AD cR cD (a8 T T.length) (ct T T.length) kg (cd T) _ hR hB (by rw[h3]at JW|-; exact JW) Oz) O (by rw[h3]; rfl) O ?_;rintro _ w34 ⟨Mh, T6, rfl, aw⟩;rw[show qn (2 + 1) (ct T T.length) (cd T) =[1, 2-x, 1]from h3 ▸ Kb]at aw|-;have Cp:bu w34 Mh 3 [1, 2-x, 1]:=aw.bF 0 O;have F9:=F9.ao aw.below;have bQ:=aw.below;have gZ:=gZ.ao bQ; have hT:=hT.ao bQ; have hW:=hW.ao bQ; have iA:=Rd.below iA bQ; have hR:=hR.ao bQ; have hB:=hB.ao bQ; have kb:=Rd.below kb bQ; have hF:=hF.ao bQ; have ka:=Rd.below ka bQ;clear aw;refine aq O (cG 1 ka O O O ?_);refine aI (acp _ AF F.length cF fP F _ hT hF (by have:=f.lim; omega)) O ?_;rintro _ w35 ⟨nv, rA, rfl, aw⟩;rw[Kj];rw[show KQ (a8 T T.length:Int) F = hP (iN F)from by unfold KQ; rw[if_pos Ek]]at aw|-;have rF:bu w35 nv (hP (iN F)).length (hP (iN F)):=aw.bF 0 O;have F9:=F9.ao aw.below;have Cp:=Cp.ao aw.below;have bQ:=aw.below;have gZ:=gZ.ao bQ; have hT:=hT.ao bQ; have hW:=hW.ao bQ; have iA:=Rd.below iA bQ; have hR:=hR.ao bQ; have hB:=hB.ao bQ; have kb:=Rd.below kb bQ; have hF:=hF.ao bQ; have ka:=Rd.below ka bQ;clear aw;have Xf:=f.h4;have Px:=f.hs;generalize hP (iN F) = H at rF Xf Px|-;rw[Xf]at rF|-;refine aq O ?_;refine b9 204 O (λh => absurd O h) (λ_ => ?_) --f
      refine ar O (aq O (ar O (aq O ?_)));refine b9 208 O (λh => absurd O h) (λ_ => ?_) --f
      refine ar O (aq O (ar O (aq O ?_)));refine b9 212 O (λh => absurd O h) (λ_ => ?_) --f
      refine ar O (aq O (ar O (aq O ?_)));refine b9 216 O (λh => absurd O h) (λ_ => ?_) --f
      refine ar O (aq O (ar O (aq O ?_)));refine b9 220 O (λh => absurd O h) (λ_ => ?_) --f
      refine ar O (aq O (ar O (aq O ?_)));refine b9 224 O (λh => absurd O h) (λ_ => ?_) --f
      refine ar O (aq O (ar O (ay O ?_)));refine auT O (λh=>h O) ?_;have CU:=f.num;refine cM O (ec [xI (x),xI (x),xB (false),xB (false),xB (true),xB (false),xB (false),xB (false),xB (decide (x=2)),xI (x),xB (decide ((x)=((2:Int)))),xB (false),xB (false),xB (false),xS (nY) (3) (T5),xS (Mh) (3) (T6),xB (decide ([1,2-x,1]=[1,2-x,1])),xB (false),xB (false),xB (false),xP (aH (ig) 1),xS (AF) (F.length) (cF),xI (((F.length:Nat):Int)),.ex (.agg #[.slice (A) (T.length) (c)]),xI ((gl T 0).length:Int),xB (false),xB (false),xB (false),xS (nv) (4) (rA),xI (((4:Nat):Int)),xB (false),xB (false)] O (eK O) ?_ ?_)
      ·refine⟨Dr O,Dr O,λ_ _ _ _ _=>Dk O (by exact aQ Value.bool (db (λh=>h O))),Dr O,Dr O,λ_ _ _ _ _=>ar O (dv O O (Az (by exact aQ Value.bool (O)))),Dr O,Dr O,Dr O,Dr O,Dr O,λ_ _ _ _ _=>ar O (MC O O O (Az (by exact aQ Value.bool ((by simp))))),Dr O,Dr O,Dr O,Dr O,?_,λ_ _ _ _ _=>ar O (cO O O (Az (by exact aQ Value.bool ((by simp))))),Dr O,Dr O,λ_ _ hb _ _=>ar O (aS (ka.below hb) O Az),λ_ _ hb _ _=>ar O (a6 (ka.below hb) O Az),λ_ _ _ _ _=>ar O (aR O O Az),λ_ _ hb _ _=>ar O (cG 0 (iA.below hb) O O O Az),?_,λ_ _ _ _ _=>Dk O (by exact aQ Value.bool (db (λh=>h (aQ Nat.cast CU)))),Dr O,Dr O,Dr O,λ_ _ _ _ _=>ar O (aR O O Az),λ_ _ _ _ _=>Dk O (by exact aQ Value.bool (O)),Dr O,au⟩
       ·intro e1 w1 hb hp aW;refine ar O (aI (anx nY 3 T5 [1,2-x,1] Mh 3 T6 [1,2-x,1] _ (F9.ao hb) (Cp.ao hb) am) O ?_);rintro _ w2 ⟨rfl,aw⟩;refine ak.n ?_;exact gk.dn aw.below ap
       ·intro e1 w1 hb hp aW;refine ar O (aI (U6 A T.length c rs T _ (gZ.ao hb) ac) O ?_);rintro _ w2 ⟨rfl,aw⟩;refine ak.n ?_;exact gk.dn aw.below ap
      intro u w36 kq _;have rF:=rF.ao kq;have hW:=hW.ao kq;refine fG O (Cd.cX O ?_)
      by_cases oD:x = 2 --dup 2
      ·refine cM O (ec [xI (x),xB (false),xB (false),xS (nv) (4) (rA),xP (aH (nv) ((0:Int)).toNat),xI (gi (H) ((0:Int))),xS (nv) (4) (rA),xP (aH (nv) ((3:Int)).toNat),xI (gi (H) ((3:Int))),xB (true),xB (true),xS (nv) (4) (rA),xP (aH (nv) ((1:Int)).toNat),xI (gi (H) ((1:Int))),xS (nv) (4) (rA),xP (aH (nv) ((2:Int)).toNat),xI (gi (H) ((2:Int))),xB (true),xB (true),xB (true),xB (true)] O (eK O) ?_ ?_)
       ·exact⟨Dr O,λ_ _ _ _ _=>Dk O (by exact aQ Value.bool (db (λh=>h oD))),Dr O,Dr O,λ_ _ hb _ _=>ar O (auJ (rF.ao hb).2 O O O am am Az),λ_ _ hb _ _=>ar O (bg (rF.ao hb) O Az),Dr O,λ_ _ hb _ _=>ar O (auJ (rF.ao hb).2 O O O am am Az),λ_ _ hb _ _=>ar O (bg (rF.ao hb) O Az),λ_ _ _ _ _=>Dk O (by exact aQ Value.bool (dB (Px oD).1)),Dr O,Dr O,λ_ _ hb _ _=>ar O (auJ (rF.ao hb).2 O O O am am Az),λ_ _ hb _ _=>ar O (bg (rF.ao hb) O Az),Dr O,λ_ _ hb _ _=>ar O (auJ (rF.ao hb).2 O O O am am Az),λ_ _ hb _ _=>ar O (bg (rF.ao hb) O Az),λ_ _ _ _ _=>Dk O (by exact aQ Value.bool (dB (Px oD).2)),Dr O,Dr O,Dr O,au⟩
       intro u w37 kE _;refine xM O (cK O ?_);exact⟨O,hW.ao kE⟩
      ·refine cM O (ec [xI (x),xB (true),xB (true),xU,xU,xU,xU,xU,xU,xU,xU,xU,xU,xU,xU,xU,xU,xU,xU,xB (true),xB (true)] O (eK O) ?_ ?_)
       ·exact⟨Dr O,λ_ _ _ _ _=>Dk O (by exact aQ Value.bool (dB oD)),Dr O,Dr O,Dr O,Dr O,Dr O,Dr O,Dr O,Dr O,Dr O,Dr O,Dr O,Dr O,Dr O,Dr O,Dr O,Dr O,Dr O,Dr O,Dr O,au⟩
       intro u w37 kE _;refine xM O (cK O ?_);exact⟨O,hW.ao kE⟩
end
section
open Go.RowKit Go.ChangeShapes Go.WideShapes
section
variable {H:Type}{enc:ad×ab->H}{P:Program}
theorem aox{w:aa}{r:Go.Reach}{b0:Nat}{t e:ad}{v:ab}{d:DataW H}{p:List MemPlace}(ht:P.underlying t=some (.slice e))(he:P.underlying e=some (.int .u8))(ce:P.cellsOf e=1)(vE:Value.okWide P w r b0 t v)(h:DataW.Trod enc P w 0 (λ_=>true) true t v d p):∃A n c bs,v=.slice A n c/\vf w A n bs/\n<=c/\c<=9223372036854775807:=by
 obtain⟨a,len,cap,rfl⟩:=okWide_slice ht vE;obtain⟨fuel,hf⟩:=h;have sc:(Value.slice a len cap).cells.toList=[Value.slice a len cap]:=O;rw[sc]at hf;rcases open_ints ht he ce hf with⟨h1,_⟩|⟨b,n,c,zs,h1,_,hl,hm,hz,_,hc,YB⟩
 ·simp only[List.cons.injEq,and_true]at h1;exact⟨none,0,0,[],h1,⟨O,λx hx=>(nomatch hx),λk hk=>absurd hk (kY _)⟩,cJ _,ac⟩
 simp only[List.cons.injEq,and_true]at h1;rw[aG rfl]at hz;refine⟨some b,n,c,zs.take n,h1,⟨?_,λx hx=>?_,λk hk=>?_⟩,hl,by simpa[maxLen]using hm⟩
 ·simp;omega
 ·have:=YB x (List.mem_of_mem_take hx);simpa[Lit.wf,IntKind.min,IntKind.max,IntKind.signed,IntKind.bits]using this
 refine⟨b.add k,O,?_⟩;rw[hc k (by omega)];simp[b5,qk,hk]
end
end
end Go.Proofs.YtimbpgackifflaaGreatDoor.Vc
