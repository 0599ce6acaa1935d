/-
 Lemmas. Conditions: as each states them.
-/
import Derived.Test.YtimbpgackifflaaGreatDoorZl
import Derived.Maps.RangeRun
set_option maxHeartbeats 8000000
namespace Go.Proofs.YtimbpgackifflaaGreatDoor.Vc
open Go.RowKit Tryz
variable{N b cR:Nat}{t:Int}{R y:ah}
structure ME(N:Nat)(B:ag):Prop where
 len:B.length=N
 wA:N<=500
 row:∀x:Int,0<=x->x<N->(gl B x).length<=1000000/\∀y∈gl B x,0<=y/\y<N
 gt:∀e f:Int,0<=f->f<N->e∈gl B f->e<f
abbrev mK(Al:ai)(nl cl:Nat)(fl:ah)(AL:ai)(cL:Nat)(rs:List aE)(Ls:ag)(cq:List Ck):List Ck:=
 av 2 Al nl cl fl::(aV 27 2 AL Ls.length cL rs Ls++cq)
theorem Ci(q:Int->Bool)(e:Nat):(b6 (e+1)).filter q=if q (e:Int)=true then(b6 e).filter q++[(e:Int)]else(b6 e).filter q:=by
 rw[HX,mN]
 by_cases h:q (e:Int)=true
 ·rw[aG h,zE h,List.filter_nil]
 rw[aD h,BP h,List.filter_nil,dQ]
theorem agk{α:Type}{p:α->Prop}{l:List α}{k:Nat}(h:k<l.length):(∃x∈l.take (k+1),p x)↔(∃x∈l.take k,p x)\/p l[k]:=by
 rw[oQ h];constructor
 ·rintro⟨x,hx,hp⟩;rcases dF.1 hx with hx|hx
  ·exact .inl ⟨x,hx,hp⟩
  rw[eX.1 hx]at hp;exact .inr hp
 rintro(⟨x,hx,hp⟩|hp)
 ·exact⟨x,List.mem_append_left _ hx,hp⟩
 exact⟨_,List.mem_append_right _ (eX.2 O),hp⟩
theorem Vf(q:Int->Bool){e:Nat}(h:e<=N):∃ys,(b6 N).filter q=(b6 e).filter q++ys:=by
 induction h with
 |refl=>exact⟨[],by rw[dQ]⟩
 |step _ ih=>
  obtain⟨ys,hy⟩:=ih;rw[Ci]
  split
  ·exact⟨ys++[_],by rw[hy,ef]⟩
  ·exact⟨ys,hy⟩
theorem aar{α:Type}(a b c:α)(X Y:List α):(a::b::c::(X++Y)).Perm (a::(X++(b::c::Y))):=by
 classical
 refine oe.2 λz=>?_
 simp only[ob,mM];omega
theorem aas{α:Type}(b c:α)(X Y:List α):(X++(b::c::Y)).Perm (b::c::(X++Y)):=by
 classical
 refine oe.2 λz=>?_
 simp only[ob,mM];omega
theorem aoX{α:Type}(l c:α)(X Y:List α):(l::c::(X++Y)).Perm (c::((X++[l])++Y)):=by
 classical
 refine oe.2 λz=>?_
 simp only[ob,mM,sR];omega
theorem ahm(fl:ah)(x:Int):gi (fl++[x]) (((fl.length+1:Nat):Int)-1)=x:=by
 rw[show((fl.length+1:Nat):Int)-1=(fl.length:Int) by omega,b7 (by simp)];simp
theorem am6(w0:aa)(n:Int)(A D:ai)(cA cD N:Nat)(R:ah)(uM:List aE)(B:ag)(Gs:bu w0 A N R)(Gh:bH w0 D N uM B)(hW:ME N B)(rr:Int->Int)(top:Int)(U:ag)(hU:IF N rr top U)(O5:∀e:Nat,e<N->gl U e=(b6 N).filter (vP B e))(hex:∀d:Int,∀e:Nat,e<N->d∈gl B e->(b6 N).filter (vP B d)≠[]):
 ∀(k nl E:Nat)(fl:ah)(Al:ai)(cl:Nat)(cq:List Ck)(w:aa)(AL:ai)(cL:Nat)(rs:List aE)(Ls:ag),fl.length=nl->0<nl->nl+k<=1000->gi fl ((nl:Int)-1)=(E:Int)->E<N->top-rr (E:Int)<=k->rs.length=Ls.length->(Ls++(fW U k (E:Int)).map (fl++ ·)).length<=400->St w0 w (mK Al nl cl fl AL cL rs Ls cq)->
  aF prog 39 [.agg #[aj n,.slice A N cA,.slice D N cD],.slice Al nl cl,.slice AL Ls.length cL] w (λv w'=>∃gE gG rs',v=.slice gE (Ls++(fW U k (E:Int)).map (fl++ ·)).length gG/\rs'.length=(Ls++(fW U k (E:Int)).map (fl++ ·)).length/\St w0 w' (aV 27 2 gE (Ls++(fW U k (E:Int)).map (fl++ ·)).length gG rs' (Ls++(fW U k (E:Int)).map (fl++ ·))++cq)):=by
 intro k
 induction k using Nat.strongRecOn with
 |_ k ih=>
  intro nl E fl Al cl cq w AL cL rs Ls gP XV yD Ex hE e6 eM lW hS;have ua:=hU.row E ac;have hN:=hW.wA;have k6:=hW.len;obtain⟨q,uk⟩:∃q,vP B E=q:=⟨_,rfl⟩;have CD:=O5 E hE;rw[uk]at CD;have Gx:∀e,e<=N->(Ls++iS U (k-1) fl ((b6 e).filter q)).length<=400:=λe he=>by
   obtain⟨ys,hy⟩:=Vf q he
   by_cases nh:gl U E=[]
   ·rw[CD,hy]at nh;rw[(List.append_eq_nil_iff.1 nh).1];rw[cj]at lW;simp[iS];omega
   ·obtain⟨k',rfl⟩:∃k',k=k'+1:=by
     cases k with
     |zero=>
      exfalso;obtain⟨f,wP⟩:=List.exists_mem_of_ne_nil _ nh;have:=ua.2 f wP;omega
     |succ k=>exact⟨k,rfl⟩
    rw[LV nh,CD,hy,cj]at lW;rw[cj];have:=LW U k' fl ((b6 e).filter q) ys;show _+(iS U k' fl _).length<=400;omega
  have iY:gl U E≠[]->Ls++iS U (k-1) fl ((b6 N).filter q)=Ls++(fW U k (E:Int)).map (fl++ ·):=λnh=>by
   obtain⟨k',rfl⟩:∃k',k=k'+1:=by
    cases k with
    |zero=>
     exfalso;obtain⟨f,wP⟩:=List.exists_mem_of_ne_nil _ nh;have:=ua.2 f wP;omega
    |succ k=>exact⟨k,rfl⟩
   rw[LV nh,CD];rfl
  have xe:gl U E=[]->(fW U k (E:Int)).map (fl++ ·)=[fl]:=λnh=>by
   cases k with
   |zero=>simp[fW]
   |succ k=>rw[fW,aG nh];simp
  have N7:Ls++iS U (k-1) fl ((b6 0).filter q)=Ls:=by simp[b6,iS]
  refine bn func39 O ntmps39 O (bM O) (aY O (og hS O O ?_));intro A3 w1 ax;have ax:St w0 w1 (bS A3 n A N cA D N cD::mK Al nl cl fl AL cL rs Ls cq):=ax;clear hS;refine aq O (aR O O (ay O ?_));refine vY O ac (aC O (aR O O (cV O ?_)));refine aA (ax.bF 1 O).2 O (bg (ax.bF 1 O) O ?_);rw[Ex];refine ay O ?_;refine Cd.loop (α:=Nat×ai×Nat×List aE) (λz=>[(1,.slice Al nl cl),(2,.slice z.2.1 (Ls++iS U (k-1) fl ((b6 z.1).filter q)).length z.2.2.1),(3,.pointer A3),(7,aj E),(8,.bool (decide ((b6 z.1).filter q≠[]))),(9,aj (z.1:Int))])
   (λz w'=>z.1<=N/\z.2.2.2.length=(Ls++iS U (k-1) fl ((b6 z.1).filter q)).length/\St w0 w' (bS A3 n A N cA D N cD::mK Al nl cl fl z.2.1 z.2.2.1 z.2.2.2 (Ls++iS U (k-1) fl ((b6 z.1).filter q)) cq)) (λz=>N-z.1) (0,AL,cL,rs) ⟨rfl,by show Value.slice _ _ _=_;rw[N7],rfl,rfl,rfl,rfl,au⟩ ⟨bl _,by show rs.length=_;rw[N7];exact eM,by show St w0 w1 (_::mK Al nl cl fl AL cL rs _ cq);rw[N7];exact ax⟩ ?_
  clear ax eM;rintro⟨e,AL,cL,rs⟩ ev w2 ⟨he,eM,hS⟩;dsimp only at he eM hS|-;have z6:=Gx e he;have kf:Rd w2 A3 3 _:=hS.rd 0 O;have iz:=hS.bU Gh;obtain⟨G,hG⟩:∃G,Ls++iS U (k-1) fl ((b6 e).filter q)=G:=⟨_,rfl⟩;rw[hG]at eM hS z6;refine aY O (aS kf O (auP (j:=1) kf (by exact aQ Value.pointer O) O O O O ?_));rw[hG];refine aR O O (aq O ?_);refine b9 27 O (λh1=>?_) (λh1=>?_)
  ·have wN:e<N:=by omega
   have br:=iz.at_ (i:=(e:Int)) ac ac;have bT:=br.1;have hwe:=hW.row (e:Int) ac ac;have jJ:¬q (e:Int)=true->(b6 (e+1)).filter q=(b6 e).filter q:=λh=>by rw[Ci,aD h]
   refine ar O (aq O (ar O (aR O O (ar O (ay O ?_)))));refine vY O ac (aC O ?_);refine b9 36 O (λ_ => ?_) (λh => absurd ac h) --t
   refine ar O (aS kf O (ar O (auP (j:=2) kf (by exact aQ Value.pointer O) O O O O ?_)));refine ar O (aq O (ar O ?_));refine aA iz.top.2 O (ar O (bw iz.top O ?_));refine ar O (aq O (ar O ?_));refine aI (uy _ _ _ (gl B e) E _ br ac) O ?_;rintro _ w2 ⟨rfl,rfl⟩;refine ar O ?_
   first|refine cO rfl rfl ?_|refine dv rfl rfl ?_
   refine aq O (b9 46 O (λh2=>?_) (λh2=>?_))
   ·have fI:¬q (e:Int)=true:=λh=>by rw[<-uk]at h;exact h2 (bX h).1
    refine aB O (aB O (aB O (cW O O O O (cW O O O O (cW O O O O (cW O O O O (cW O O O O (cW O O O O (cW O O O O (aB O (ay O ?_)))))))))));refine Cd.iw O (aC O (aJ O (aN O (tQ ?_))));refine⟨(e+1,AL,cL,rs),by show N-(e+1)<N-e;omega,⟨O,?_,O,O,?_,O,au⟩,by show e+1<=N;omega,?_,?_⟩
    ·show Value.slice _ _ _=_;rw[jJ fI,hG]
    ·show Value.bool _=_;rw[jJ fI]
    ·show rs.length=_;rw[jJ fI,hG];exact eM
    ·show St w0 w2 (_::mK Al nl cl fl AL cL rs _ cq);rw[jJ fI,hG];exact hS
   have h2:=Decidable.not_not.1 h2;refine ar O (aq O (ar O (aq O (ar O (aq O ?_)))));refine b9 49 O (λh => absurd h ac) (λ_ => ?_) --f
   refine aB O (aB O (aB O (aB O (aB O (aB O (aB O (ar O (ay O ?_))))))));refine Cd.cX O (cM O ?_);refine Cd.loop (α:=Nat) (λz=>[(1,.slice Al nl cl),(2,.slice AL G.length cL),(3,.pointer A3),(7,aj E),(8,.bool (decide ((b6 e).filter q≠[]))),(9,aj e),(10,.bool (decide (∃x∈(gl B e).take z,(E:Int)∈gl B x))),(11,aj z)])
    (λz w'=>z<=(gl B e).length/\St w0 w' (bS A3 n A N cA D N cD::mK Al nl cl fl AL cL rs G cq)) (λz=>(gl B e).length-z) 0 ⟨rfl,rfl,rfl,rfl,rfl,rfl,aQ Value.bool (by simp),rfl,au⟩ ⟨bl _,hS⟩ ?_
   clear hS kf iz br;rintro z ev w3 ⟨hz,hS⟩;have kf:Rd w3 A3 3 _:=hS.rd 0 O;have ia:=hS.bU Gh;have br:=ia.at_ (i:=(e:Int)) ac ac;refine aY O (aS kf O (auP (j:=2) kf (by exact aQ Value.pointer O) O O O O (aq O (aA ia.top.2 O (bw ia.top O ?_)))));refine aR O O (ay O ?_);refine aK _ O (λh3=>?_) (λh3=>?_)
   ·have mE:z<(gl B e).length:=by omega
    have alj:gi (gl B e) z∈gl B e:=gi_in mE;have hy:=hwe.2 _ alj;have nO:=hW.row _ hy.1 hy.2;have C0:=ia.at_ hy.1 hy.2;have yJ:=C0.1;have Ke:=agk (p:=λx=>(E:Int)∈gl B x) mE;rw[<-b7 mE]at Ke
    by_cases fh:∃ x ∈ (gl B (e:Int)).take z, (E:Int) ∈ gl B x --dup 2
    ·refine cM O (ec [xB (decide (∃x∈(gl B e).take z,(E:Int)∈gl B x)),xB (true),xU,xU,xU,xU,xU,xU,xU,xU,xU,xU,xU,xU,xU,xU,xU,xU,xU,xU,xB (true),xB (true)] O (eK O) ?_ ?_)
     ·exact⟨λ_ _ _ _ aW=>IA O (by exact aW 21 _ O an) O Az,λ_ _ _ _ _=>Dk O (by exact aQ Value.bool (dB fh)),Dr O,Dr O,Dr O,Dr O,Dr O,Dr O,Dr O,Dr O,Dr O,Dr O,Dr O,Dr O,Dr O,Dr O,Dr O,Dr O,Dr O,Dr O,Dr O,Dr O,au⟩
     intro u w4 kq _;refine gq O (aJ O (aN O (tQ ?_)));exact⟨z+1,by show _-(z+1)<_-z;omega,⟨O,O,O,O,O,O,aQ Value.bool (dB (Ke.2 (.inl fh))).symm,O,au⟩,mE,hS.ao kq⟩
    ·refine cM O ?_;refine ec [xB (decide (∃x∈(gl B e).take z,(E:Int)∈gl B x)),xB (false),xI ((E:Int)),xB (true),xB (true),xP (aH (A3) 2),xS (D) (N) (cD),xP (aH (A3) 2),xS (D) (N) (cD),xI ((e:Int)),xP (aH (D) ((e:Int)).toNat),xS ((rg (uM) ((e:Int))).a) ((rg (uM) ((e:Int))).n) ((rg (uM) ((e:Int))).c),xI ((z:Int)),xP (aH ((rg (uM) ((e:Int))).a) ((z:Int)).toNat),xI (gi (gl B e) ((z:Int))),xP (aH (D) (gi (gl B e) ((z:Int))).toNat),xS ((rg (uM) (gi (gl B e) ((z:Int)))).a) ((rg (uM) (gi (gl B e) ((z:Int)))).n) ((rg (uM) (gi (gl B e) ((z:Int)))).c),xI ((E:Int)),xB (decide ((E:Int)∈gl B (gi (gl B e) z))),xB (decide ((E:Int)∈gl B (gi (gl B e) z))),xB (decide ((E:Int)∈gl B (gi (gl B e) z))),xB (decide ((E:Int)∈gl B (gi (gl B e) z)))] O (eK O) ?_ ?_
     ·refine⟨λ_ _ _ _ aW=>IA O (by exact aW 21 _ O an) O Az,λ_ _ _ _ _=>Dk O (by exact aQ Value.bool (db fh)),Dr O,λ_ _ _ _ _=>Dk O (by exact aQ Value.bool (dB ac)),Dr O,λ_ _ hb _ _=>ar O (aS (kf.below hb) O Az),λ_ _ hb _ _=>ar O (a6 (kf.below hb) O Az),λ_ _ hb _ _=>ar O (aS (kf.below hb) O Az),λ_ _ hb _ _=>ar O (a6 (kf.below hb) O Az),Dr O,λ_ _ hb _ _=>ar O (aA (ia.top.ao hb).2 O Az),λ_ _ hb _ _=>ar O (bw (ia.top.ao hb) O Az),Dr O,λ_ _ hb _ _=>ar O (aA (br.ao hb).2 O Az),λ_ _ hb _ _=>ar O (bg (br.ao hb) O Az),λ_ _ hb _ _=>ar O (aA (ia.top.ao hb).2 O Az),λ_ _ hb _ _=>ar O (bw (ia.top.ao hb) O Az),Dr O,?_,Dr O,Dr O,Dr O,au⟩
      ·intro e1 w1 hb hp aW;refine ar O (aI (uy _ _ _ (gl B (gi (gl B e) z)) E _ (C0.ao hb) ac) O ?_);rintro _ w2 ⟨rfl,aw⟩;subst aw;refine ak.n (d0 ap)
     intro u w4 kq _;refine gq O (aJ O (aN O (tQ ?_)));exact⟨z+1,by show _-(z+1)<_-z;omega,⟨O,O,O,O,O,O,aQ Value.bool (kl.2 ⟨λh=>Ke.2 (.inr h),λh=>(Ke.1 h).resolve_left fh⟩),O,au⟩,mE,hS.ao kq⟩
   ·have mE:z=(gl B e).length:=by omega
    rw[mE,List.take_length];refine ba O (bc (bY O ?_))
    first|refine cO rfl rfl ?_|refine dv rfl rfl ?_
    refine ay O (aK _ O (λh4=>?_) (λh4=>?_))
    ·have kS:q (e:Int)=true:=by rw[<-uk];exact dB ⟨h2,λx hx hm=>h4 ⟨x,hx,hm⟩⟩
     have iq:(e:Int)∈gl U E:=by rw[CD];exact fM.2 ⟨(tz _ _).2 ⟨ac,ac⟩,kS⟩
     have hue:=ua.2 _ iq;obtain⟨k',rfl⟩:∃k',k=k'+1:=⟨k-1,ac⟩;have lQ:Ls++iS U (k'+1-1) fl ((b6 (e+1)).filter q)=G++(fW U k' (e:Int)).map ((fl++[(e:Int)])++ ·):=by
      show Ls++iS U k' fl _=_;rw[Ci,aG kS,R9,<-ef];exact aQ (· ++_) hG
     have CP:=Gx (e+1) wN;rw[lQ]at CP;have GY:bu w3 Al nl fl:=hS.bF 1 O;refine cM O ?_;refine iu [5,7] [.ex (.agg #[aj n,.slice A N cA,.slice D N cD]),yS (Al) (nl) (cl),.pr (λv w'=>∃A4 c4,v=.slice A4 nl c4/\St w0 w' (av 2 A4 nl c4 fl::bS A3 n A N cA D N cD::mK Al nl cl fl AL cL rs G cq)),yI ((e:Int)),.pr (λv w'=>∃A6,v=.slice A6 1 1/\bu w' A6 1 [(e:Int)]),.pr (λv w'=>∃A5 c5,v=.slice A5 (nl+1) c5/\St w0 w' (av 2 A5 (nl+1) c5 (fl++[(e:Int)])::bS A3 n A N cA D N cD::mK Al nl cl fl AL cL rs G cq)),yS (AL) (G.length) (cL),.pr (λv w'=>∃gE gG rs',v=.slice gE (G++(fW U k' (e:Int)).map ((fl++[(e:Int)])++ ·)).length gG/\rs'.length=(G++(fW U k' (e:Int)).map ((fl++[(e:Int)])++ ·)).length/\St w0 w' (bS A3 n A N cA D N cD::mK Al nl cl fl gE gG rs' (G++(fW U k' (e:Int)).map ((fl++[(e:Int)])++ ·)) cq)),.pr (λv w'=>∃gE gG rs',v=.slice gE (G++(fW U k' (e:Int)).map ((fl++[(e:Int)])++ ·)).length gG/\rs'.length=(G++(fW U k' (e:Int)).map ((fl++[(e:Int)])++ ·)).length/\St w0 w' (bS A3 n A N cA D N cD::mK Al nl cl fl gE gG rs' (G++(fW U k' (e:Int)).map ((fl++[(e:Int)])++ ·)) cq))] (ly (ly (bV.2 ⟨Ye.bW (λv w w' h hb=>by obtain⟨A4,c4,hv,hT⟩:=h;exact⟨A4,c4,hv,hT.ao hb⟩),(ly (bV.2 ⟨Ye.bW (λv w w' h hb=>by obtain⟨A6,hv,hT⟩:=h;exact⟨A6,hv,hT.ao hb⟩),(bV.2 ⟨Ye.bW (λv w w' h hb=>by obtain⟨A5,c5,hv,hT⟩:=h;exact⟨A5,c5,hv,hT.ao hb⟩),(ly (bV.2 ⟨Ye.bW (λv w w' h hb=>by obtain⟨gE,gG,rs',hv,dw,hT⟩:=h;exact⟨gE,gG,rs',hv,dw,hT.ao hb⟩),(bV.2 ⟨Ye.bW (λv w w' h hb=>by obtain⟨gE,gG,rs',hv,dw,hT⟩:=h;exact⟨gE,gG,rs',hv,dw,hT.ao hb⟩),(λ_ h=>by cases h)⟩)⟩))⟩)⟩))⟩))) ?_ ?_
     ·refine⟨?_,bP O,?_,bP O,?_,?_,?_,?_,?_,au⟩
      ·intro e1 w1 cc eL cI dC hp aW hq;show ak _ _ _ _ _ _ _;have hX:Rd w1 A3 3 (λj=>[Value.int .i64 n,.slice A N cA,.slice D N cD].getD j undef):=by { have cI:=lz cI (b:=1) an;rcases(show cc=0\/cc=1 by omega)with h|h; { exact Rd.below kf (dC h) }; { subst h;obtain⟨A5,c5,_,hT⟩:=hq 5 _ _ an an an rfl rfl an;exact hT.rd 1 rfl } }
       refine cG 2 hX O O O (ak.n (fp O ap))
      ·refine cP λe1 w1 hb hp aW hq=>?_
       refine aI (ER Al nl cl fl _ (GY.ao hb) ac) O ?_;rintro _ w9 ⟨A4,c4,rfl,aw⟩;exact ak.n (eD.dn O aw.below ⟨A4,c4,O,(hS.ao hb).call aw⟩)
      ·intro e1 w1 cc eL cI dC hp aW hq;show ak _ _ _ _ _ _ _;exact eh (St.refl _) O O O λA6 w9 aw=>ak.n (eD.dn O aw.below ⟨A6,O,aw.bF 0 O⟩)
      ·refine iF λe1 w1 hb hp aW hq=>?_
       obtain⟨A4,c4,Ot,hT⟩:=(hp 2 _ _ an rfl rfl an);obtain⟨A6,Ge,jh⟩:=(hp 4 _ _ an rfl rfl an);refine eQ 0 hT O jh (by exact Ot) (by exact Ge) O ?_;intro A5 c5 w9 fg;exact ak.n (dS.dn O ⟨A5,c5,O,fg⟩)
      ·intro e1 w1 cc eL cI dC hp aW hq;show ak _ _ _ _ _ _ _;refine mm O (by exact aW 8 _ O an) O (ak.n (fp O ap))
      ·refine kB 1 λe1 w1 hp aW hq=>?_
       have cg:=hp 5 _ _ an O O an;obtain⟨A5,c5,Gf,hT⟩:=cg;refine auM (ih k' (Nat.lt_succ_self _) (nl+1) e (fl++[(e:Int)]) A5 c5 (bS A3 n A N cA D N cD::av 2 Al nl cl fl::cq) _ AL cL rs G (by simp[gP]) (Nat.succ_pos _) ac (by rw[<-gP];exact ahm fl _) wN ac eM CP (hT.perm (aar _ _ _ _ _))) O (by exact aQ (λv=>[Value.agg #[aj n,.slice A N cA,.slice D N cD],v,.slice AL G.length cL]) Gf) O ?_;rintro _ w9 ⟨gE,gG,rs',rfl,dw,fg⟩;exact ak.n (dS.dn O ⟨gE,gG,rs',O,dw,fg.perm (aas _ _ _ _)⟩)
      ·refine dP 2 λe1 w1 hp aW hq=>?_
       have cg:=hp 7 _ _ an O O an;obtain⟨gE,gG,rs',Gg,dw,hT⟩:=cg;obtain⟨gE,gG,rs',Gg,dw,hT⟩:=(hp 7 _ _ an rfl rfl an);refine mm O (by exact Gg) O (ak.n ?_);exact eD.dn O (Below.refl _ _) ⟨gE,gG,rs',O,dw,hT⟩
     intro u w4 _ hu _ _;obtain⟨gE,gG,rs',Ga,dw,hT⟩:=hu 8 _ rfl an;rw[aat u Ga Ga];refine gq O (aJ O (aN O (tQ ?_)));refine⟨(e+1,gE,gG,rs'),by show N-(e+1)<N-e;omega,⟨O,?_,O,O,?_,O,au⟩,by show e+1<=N;omega,?_,?_⟩
     ·show Value.slice _ _ _=Value.slice gE (Ls++iS U (k'+1-1) fl ((b6 (e+1)).filter q)).length gG;rw[lQ]
     ·show Value.bool true=Value.bool (decide ((b6 (e+1)).filter q≠[]));exact aQ Value.bool (dB (by rw[Ci,aG kS];simp)).symm
     ·show rs'.length=_;rw[lQ];exact dw
     ·show St w0 w4 (_::mK Al nl cl fl gE gG rs' _ cq);rw[lQ];exact hT
    ·have fI:¬q (e:Int)=true:=λh=>by
      rw[<-uk]at h;obtain⟨x,hx,hm⟩:=Decidable.not_not.1 h4;exact(bX h).2 x hx hm
     refine aC O (aJ O (aN O (tQ ?_)));refine⟨(e+1,AL,cL,rs),by show N-(e+1)<N-e;omega,⟨O,?_,O,O,?_,O,au⟩,by show e+1<=N;omega,?_,?_⟩
     ·show Value.slice _ _ _=_;rw[jJ fI,hG]
     ·show Value.bool _=_;rw[jJ fI]
     ·show rs.length=_;rw[jJ fI,hG];exact eM
     ·show St w0 w3 (_::mK Al nl cl fl AL cL rs _ cq);rw[jJ fI,hG];exact hS
  ·have wN:e=N:=by omega
   rw[wN]at hG|-;refine aB O (aB O (aB O (ay O ?_)));refine Cd.cX O (ba O (bc (kX O ?_)))
   by_cases nh:gl U (E:Int) =[] --dup 2
   ·have se:(b6 N).filter q=[]:=by rw[<-CD];exact nh
    have fI:∀z:Nat,z<N->¬(E:Int)∈gl B z:=λz hz h=>hex (E:Int) z hz h (by rw[uk];exact se)
    have hGL:G=Ls:=by rw[<-hG,se];simp[iS]
    refine Cd.loop (α:=Nat) (λz =>[(1, .slice Al nl cl), (2, .slice AL G.length cL), (3, .pointer A3), (7, aj (E:Int)), (8, .bool false), (12, aj (z:Int))]) (λz w' => z <= N /\ w' = w2) (λz => N-z) 0 ⟨O, O, O, O, aQ Value.bool (by rw[se]; rfl), O, au⟩ ⟨bl _, O⟩ ?_;rintro z ev w3 ⟨hz, rfl⟩;refine aY O ?_;refine b9 102 O (λ_ => ?_) (λh => absurd ac h) --t
    refine ar O (aq O (ar O ?_));refine aS kf O (ar O (auP (j:=1) kf (by exact aQ Value.pointer O) O O O O ?_));refine ar O (aR O O (ar O (ay O ?_)));refine aK _ O (λh3=>?_) (λh3=>?_)
    ·have Qy:z<N:=by omega
     have br:=iz.at_ (i:=(z:Int)) ac ac;have bT:=br.1;have YB:=hW.row (z:Int) ac ac;refine aC O ?_;refine ak.split 112 O (λh => absurd h am) (λ_ => ?_) --f
     refine ar O (aS kf O (ar O (auP (j:=2) kf (by exact aQ Value.pointer O) O O O O ?_)));refine ar O (aq O (ar O ?_));refine aA iz.top.2 O (ar O (bw iz.top O ?_));refine ar O (aq O (ar O ?_));refine aI (uy _ _ _ (gl B z) E _ br ac) O ?_;rintro _ w3 ⟨rfl,rfl⟩;refine aq O (aJ O (aN O (tQ ?_)));exact⟨z+1,by show N-(z+1)<N-z;omega,⟨O,O,O,O,aQ Value.bool (db (fI z Qy)),O,au⟩,by show z+1<=N;omega,O⟩
    ·refine ba O (bc (bY O ?_))
     first|refine cO rfl rfl ?_|refine dv rfl rfl ?_
     refine aq O ?_;refine ak.split 123 O (λ_ => ?_) (λh => absurd h am) --t
     refine ar O (aq O (ar O (ay O ?_)));refine vY O ac (aC O (jW hS O O O ?_));intro A129 w4 aU;refine iT 3 aU O (aU.dm 0 O) O O O ac ac O ?_;intro SI T3 w5 aO;have aO:St w0 w5 (av 2 Al nl cl fl::aX 27 SI (G.length+1) T3 (rs++[⟨Al,nl,cl⟩])::(cC 2 rs G++cq)):=aO.tail.tail;have aO:=aO.perm (aoX _ _ _ _);rw[<-Dp eM]at aO;refine bR O (dV O ?_);rw[xe nh,<-hGL];refine⟨SI,T3,rs++[⟨Al,nl,cl⟩],by rw[cj];rfl,by simp[eM],?_⟩;rw[cj];exact aO
   ·have rH:(b6 N).filter q≠[]:=by rw[<-CD];exact nh
    refine Cd.loop (α:=Nat) (λz =>[(1, .slice Al nl cl), (2, .slice AL G.length cL), (3, .pointer A3), (7, aj (E:Int)), (8, .bool true), (12, aj (z:Int))]) (λz w' => z <= N /\ w' = w2) (λz => N-z) 0 ⟨O, O, O, O, aQ Value.bool (dB rH), O, au⟩ ⟨bl _, O⟩ ?_;rintro z ev w3 ⟨hz, rfl⟩;refine aY O ?_;refine b9 102 O (λ_ => ?_) (λh => absurd ac h) --t
    refine ar O (aq O (ar O ?_));refine aS kf O (ar O (auP (j:=1) kf (by exact aQ Value.pointer O) O O O O ?_));refine ar O (aR O O (ar O (ay O ?_)));refine aK _ O (λh3=>?_) (λh3=>?_)
    ·refine aC O ?_;refine ak.split 112 O (λ_ => ?_) (λh => absurd h am) --t
     refine aB O (aB O (aB O (aB O (aB O (aB O (aB O (aq O (aJ O (aN O (tQ ?_))))))))));exact⟨z+1,by show N-(z+1)<N-z;omega,(auV O),by show z+1<=N;omega,O⟩
    ·refine ba O (bc (bY O ?_))
     first|refine cO rfl rfl ?_|refine dv rfl rfl ?_
     refine aq O ?_;refine ak.split 123 O (λh => absurd h am) (λ_ => ?_) --f
     refine aB O (aB O (ay O ?_));refine Cd.cX O (dE O (dV O ?_));rw[<-iY nh,hG];exact⟨AL,cL,rs,O,eM,hS.tail.tail⟩
theorem am7(w0:aa)(n:Int)(A D:ai)(cA cD N:Nat)(R:ah)(uM:List aE)(B:ag)(Gs:bu w0 A N R)(Gh:bH w0 D N uM B)(hW:ME N B)(rr:Int->Int)(top:Int)(U:ag)(hU:IF N rr top U)(O5:∀e:Nat,e<N->gl U e=(b6 N).filter (vP B e))(hex:∀d:Int,∀e:Nat,e<N->d∈gl B e->(b6 N).filter (vP B d)≠[])(J3:gl U N=(b6 N).filter λe=>decide (gl B e=[]))(bN:gl U N≠[])
 (k:Nat) (Al:ai) (cl:Nat) (cq:List Ck) (w:aa) (yD:k<=900) (e6:top-rr (N:Int)<=k) (lW:(fW U k (N:Int)).length<=400) (hS:St w0 w (mK Al 0 cl [] none 0 [] [] cq)):
   aF prog 39 [.agg #[aj n,.slice A N cA,.slice D N cD],.slice Al 0 cl,.slice none 0 0] w (λv w'=>∃gE gG rs',v=.slice gE (fW U k (N:Int)).length gG/\rs'.length=(fW U k (N:Int)).length/\St w0 w' (aV 27 2 gE (fW U k (N:Int)).length gG rs' (fW U k (N:Int))++cq)):=by
 have ua:=hU.row N ac;have hN:=hW.wA;have k6:=hW.len;obtain⟨q,uk⟩:∃q:Int->Bool,(λe:Int=>decide (gl B e=[]))=q:=⟨_,rfl⟩;rw[uk]at J3;have KD:∀e:Int,q e=decide (gl B e=[]):=λe=>by rw[<-uk]
 obtain⟨k',rfl⟩:∃k',k=k'+1:=by
  cases k with
  |zero=>
   exfalso;obtain⟨f,wP⟩:=List.exists_mem_of_ne_nil _ bN;have:=ua.2 f wP;omega
  |succ k=>exact⟨k,rfl⟩
 have eA:iS U (k'+1-1) [] ((b6 N).filter q)=fW U (k'+1) (N:Int):=by
  have h1:=LV (U:=U) (k:=k') (fl:=[]) bN;rw[J3]at h1;rw[show k'+1-1=k' from rfl,<-h1];simp
 rw[<-eA]at lW|-;have Gx:∀e,e<=N->([]++iS U (k'+1-1) [] ((b6 e).filter q)).length<=400:=λe he=>by
  obtain⟨ys,hy⟩:=Vf q he;rw[hy]at lW;have:=LW U (k'+1-1) [] ((b6 e).filter q) ys;rw[List.nil_append];omega
 refine bn func39 O ntmps39 O (bM O) (aY O (og hS O O ?_));intro A3 w1 ax;have ax:St w0 w1 (bS A3 n A N cA D N cD::mK Al 0 cl [] none 0 [] [] cq):=ax;clear hS;refine aq O (aR O O (ay O ?_));refine fq O (cM O ?_);refine Cd.loop (α:=Nat×ai×Nat×List aE) (λz=>[(1,.slice Al 0 cl),(2,.slice z.2.1 ([]++iS U (k'+1-1) [] ((b6 z.1).filter q)).length z.2.2.1),(3,.pointer A3),(7,aj (-1)),(8,.bool (decide ((b6 z.1).filter q≠[]))),(9,aj (z.1:Int))])
  (λz w'=>z.1<=N/\z.2.2.2.length=([]++iS U (k'+1-1) [] ((b6 z.1).filter q)).length/\St w0 w' (bS A3 n A N cA D N cD::mK Al 0 cl [] z.2.1 z.2.2.1 z.2.2.2 ([]++iS U (k'+1-1) [] ((b6 z.1).filter q)) cq)) (λz=>N-z.1) (0,none,0,[]) ⟨rfl,rfl,rfl,rfl,rfl,rfl,au⟩ ⟨bl _,rfl,ax⟩ ?_
 clear ax;rintro⟨e,AL,cL,rs⟩ ev w2 ⟨he,eM,hS⟩;dsimp only at he eM hS|-;have z6:=Gx e he;have kf:Rd w2 A3 3 _:=hS.rd 0 O;have iz:=hS.bU Gh;obtain⟨G,hG⟩:∃G,[]++iS U (k'+1-1) [] ((b6 e).filter q)=G:=⟨_,rfl⟩;rw[hG]at eM hS z6;refine aY O (aS kf O (auP (j:=1) kf (by exact aQ Value.pointer O) O O O O ?_));rw[hG];refine aR O O (aq O ?_);refine b9 27 O (λh1=>?_) (λh1=>?_)
 ·have wN:e<N:=by omega
  have br:=iz.at_ (i:=(e:Int)) ac ac;have bT:=br.1;have jJ:¬q (e:Int)=true->(b6 (e+1)).filter q=(b6 e).filter q:=λh=>by rw[Ci,aD h]
  refine ar O (aq O (ar O (aR O O (ar O (ay O ?_)))));refine vY O ac (aC O ?_);refine b9 36 O (λh => absurd h ac) (λ_ => ?_) --f
  refine aB O (aB O (aB O (aB O (aB O (aB O (aB O (aB O (aq O (ar O (aq O (ar O ?_)))))))))));refine aq O (ar O (aq O ?_));refine b9 49 O (λ_ => ?_) (λh => absurd ac h) --t
  refine ar O (aS kf O (ar O (auP (j:=2) kf (by exact aQ Value.pointer O) O O O O ?_)));refine ar O (aq O (ar O ?_));refine aA iz.top.2 O (ar O (bw iz.top O ?_));refine ar O (aR O O (ar O (aq O (ar O (ay O ?_)))));refine aK _ O (λh2=>?_) (λh2=>?_)
  ·have fI:¬q (e:Int)=true:=λh=>by
    rw[KD]at h;rw[bX h]at bT;simp at bT;omega
   refine aC O (aJ O (aN O (tQ ?_)));refine⟨(e+1,AL,cL,rs),by show N-(e+1)<N-e;omega,⟨O,?_,O,O,?_,O,au⟩,by show e+1<=N;omega,?_,?_⟩
   ·show Value.slice _ _ _=_;rw[jJ fI,hG]
   ·show Value.bool _=_;rw[jJ fI]
   ·show rs.length=_;rw[jJ fI,hG];exact eM
   ·show St w0 w2 (_::mK Al 0 cl [] AL cL rs _ cq);rw[jJ fI,hG];exact hS
  ·have eN:(rg uM e).n=0:=by omega
   have kS:q (e:Int)=true:=by rw[KD];exact dB (iL ac)
   have iq:(e:Int)∈gl U N:=by rw[J3];exact fM.2 ⟨(tz _ _).2 ⟨ac,ac⟩,kS⟩
   refine cM O (Cd.loop (α:=Unit) (λ_=>[(1,.slice Al 0 cl),(2,.slice AL G.length cL),(3,.pointer A3),(7,aj (-1)),(8,.bool (decide ((b6 e).filter q≠[]))),(9,aj e),(10,.bool false),(11,aj 0)]) (λ_ w'=>w'=w2) (λ_=>0) () (auV O) O ?_);rintro⟨⟩ ev w3 rfl;obtain⟨w2,rfl⟩:∃w,w=w3:=⟨_,rfl⟩;refine aY O (aS kf O (auP (j:=2) kf (by exact aQ Value.pointer O) O O O O (aq O (aA iz.top.2 O (bw iz.top O ?_)))));refine aR O O (ay O ?_);refine fq O (ba O (bc (bY O ?_)))
   first|refine cO rfl rfl ?_|refine dv rfl rfl ?_
   refine ay O (Cd.iw O ?_);have hue:=ua.2 _ iq;have lQ:[]++iS U (k'+1-1) [] ((b6 (e+1)).filter q)=G++(fW U k' (e:Int)).map ([(e:Int)]++ ·):=by
    show[]++iS U k' [] _=_;rw[Ci,aG kS,R9,<-ef];exact aQ (· ++_) hG
   have CP:=Gx (e+1) wN;rw[lQ]at CP;have GY:bu w2 Al 0 []:=hS.bF 1 O;refine cM O ?_;refine iu [5,7] [.ex (.agg #[aj n,.slice A N cA,.slice D N cD]),yS (Al) (0) (cl),.pr (λv w'=>∃A4 c4,v=.slice A4 0 c4/\St w0 w' (av 2 A4 0 c4 []::bS A3 n A N cA D N cD::mK Al 0 cl [] AL cL rs G cq)),yI ((e:Int)),.pr (λv w'=>∃A6,v=.slice A6 1 1/\bu w' A6 1 [(e:Int)]),.pr (λv w'=>∃A5 c5,v=.slice A5 (1) c5/\St w0 w' (av 2 A5 (1) c5 [(e:Int)]::bS A3 n A N cA D N cD::mK Al 0 cl [] AL cL rs G cq)),yS (AL) (G.length) (cL),.pr (λv w'=>∃gE gG rs',v=.slice gE (G++(fW U k' (e:Int)).map ([(e:Int)]++ ·)).length gG/\rs'.length=(G++(fW U k' (e:Int)).map ([(e:Int)]++ ·)).length/\St w0 w' (bS A3 n A N cA D N cD::mK Al 0 cl [] gE gG rs' (G++(fW U k' (e:Int)).map ([(e:Int)]++ ·)) cq)),.pr (λv w'=>∃gE gG rs',v=.slice gE (G++(fW U k' (e:Int)).map ([(e:Int)]++ ·)).length gG/\rs'.length=(G++(fW U k' (e:Int)).map ([(e:Int)]++ ·)).length/\St w0 w' (bS A3 n A N cA D N cD::mK Al 0 cl [] gE gG rs' (G++(fW U k' (e:Int)).map ([(e:Int)]++ ·)) cq))] (ly (ly (bV.2 ⟨Ye.bW (λv w w' h hb=>by obtain⟨A4,c4,hv,hT⟩:=h;exact⟨A4,c4,hv,hT.ao hb⟩),(ly (bV.2 ⟨Ye.bW (λv w w' h hb=>by obtain⟨A6,hv,hT⟩:=h;exact⟨A6,hv,hT.ao hb⟩),(bV.2 ⟨Ye.bW (λv w w' h hb=>by obtain⟨A5,c5,hv,hT⟩:=h;exact⟨A5,c5,hv,hT.ao hb⟩),(ly (bV.2 ⟨Ye.bW (λv w w' h hb=>by obtain⟨gE,gG,rs',hv,dw,hT⟩:=h;exact⟨gE,gG,rs',hv,dw,hT.ao hb⟩),(bV.2 ⟨Ye.bW (λv w w' h hb=>by obtain⟨gE,gG,rs',hv,dw,hT⟩:=h;exact⟨gE,gG,rs',hv,dw,hT.ao hb⟩),(λ_ h=>by cases h)⟩)⟩))⟩)⟩))⟩))) ?_ ?_
   ·refine⟨?_,bP O,?_,bP O,?_,?_,?_,?_,?_,au⟩
    ·intro e1 w1 cc eL cI dC hp aW hq;show ak _ _ _ _ _ _ _;have hX:Rd w1 A3 3 (λj=>[Value.int .i64 n,.slice A N cA,.slice D N cD].getD j undef):=by { have cI:=lz cI (b:=1) an;rcases(show cc=0\/cc=1 by omega)with h|h; { exact Rd.below kf (dC h) }; { subst h;obtain⟨A5,c5,_,hT⟩:=hq 5 _ _ an an an rfl rfl an;exact hT.rd 1 rfl } }
     refine cG 2 hX O O O (ak.n (fp O ap))
    ·refine cP λe1 w1 hb hp aW hq=>?_
     refine aI (ER Al 0 cl [] _ (GY.ao hb) ac) O ?_;rintro _ w9 ⟨A4,c4,rfl,aw⟩;exact ak.n (eD.dn O aw.below ⟨A4,c4,O,(hS.ao hb).call aw⟩)
    ·intro e1 w1 cc eL cI dC hp aW hq;show ak _ _ _ _ _ _ _;exact eh (St.refl _) O O O λA6 w9 aw=>ak.n (eD.dn O aw.below ⟨A6,O,aw.bF 0 O⟩)
    ·refine iF λe1 w1 hb hp aW hq=>?_
     obtain⟨A4,c4,Ot,hT⟩:=(hp 2 _ _ an rfl rfl an);obtain⟨A6,Ge,jh⟩:=(hp 4 _ _ an rfl rfl an);refine eQ 0 hT O jh (by exact Ot) (by exact Ge) O ?_;intro A5 c5 w9 fg;exact ak.n (dS.dn O ⟨A5,c5,O,fg⟩)
    ·intro e1 w1 cc eL cI dC hp aW hq;show ak _ _ _ _ _ _ _;refine mm O (by exact aW 8 _ O an) O (ak.n (fp O ap))
    ·refine kB 1 λe1 w1 hp aW hq=>?_
     have cg:=hp 5 _ _ an O O an;obtain⟨A5,c5,Gf,hT⟩:=cg;refine auM (am6 w0 n A D cA cD N R uM B Gs Gh hW rr top U hU O5 hex k' 1 e [(e:Int)] A5 c5 (bS A3 n A N cA D N cD::av 2 Al 0 cl []::cq) _ AL cL rs G O am ac O wN ac eM CP (hT.perm (aar _ _ _ _ _))) O (by exact aQ (λv=>[Value.agg #[aj n,.slice A N cA,.slice D N cD],v,.slice AL G.length cL]) Gf) O ?_;rintro _ w9 ⟨gE,gG,rs',rfl,dw,fg⟩;exact ak.n (dS.dn O ⟨gE,gG,rs',O,dw,fg.perm (aas _ _ _ _)⟩)
    ·refine dP 2 λe1 w1 hp aW hq=>?_
     have cg:=hp 7 _ _ an O O an;obtain⟨gE,gG,rs',Gg,dw,hT⟩:=cg;obtain⟨gE,gG,rs',Gg,dw,hT⟩:=(hp 7 _ _ an rfl rfl an);refine mm O (by exact Gg) O (ak.n ?_);exact eD.dn O (Below.refl _ _) ⟨gE,gG,rs',O,dw,hT⟩
   intro u w4 _ hu _ _;obtain⟨gE,gG,rs',Ga,dw,hT⟩:=hu 8 _ rfl an;rw[aat u Ga Ga];refine gq O (aJ O (aN O (tQ ?_)));refine⟨(e+1,gE,gG,rs'),by show N-(e+1)<N-e;omega,⟨O,?_,O,O,?_,O,au⟩,by show e+1<=N;omega,?_,?_⟩
   ·show Value.slice _ _ _=Value.slice gE ([]++iS U (k'+1-1) [] ((b6 (e+1)).filter q)).length gG;rw[lQ]
   ·show Value.bool true=Value.bool (decide ((b6 (e+1)).filter q≠[]));exact aQ Value.bool (dB (by rw[Ci,aG kS];simp)).symm
   ·show rs'.length=_;rw[lQ];exact dw
   ·show St w0 w4 (_::mK Al 0 cl [] gE gG rs' _ cq);rw[lQ];exact hT
 ·have wN:e=N:=by omega
  rw[wN]at hG|-;have rH:(b6 N).filter q≠[]:=by rw[<-J3];exact bN
  refine aB O (aB O (aB O (ay O ?_)));refine Cd.cX O (ba O (bc (kX O ?_)));refine Cd.loop (α:=Unit) (λ_ =>[(1, .slice Al 0 cl), (2, .slice AL G.length cL), (3, .pointer A3), (7, aj (-1)), (8, .bool true), (12, aj 0)]) (λ_ w' => w' = w2) (λ_ => 0) () ⟨O, O, O, O, aQ Value.bool (dB rH), O, au⟩ O ?_;rintro ⟨⟩ ev w3 rfl;refine aY O ?_;refine b9 102 O (λh => absurd h ac) (λ_ => ?_) --f
  refine aB O (aB O (aB O (aB O (aB O (ay O ?_)))));refine Cd.cX O (ba O (bc (bY O ?_)))
  first|refine cO rfl rfl ?_|refine dv rfl rfl ?_
  refine aq O ?_;refine ak.split 123 O (λh => absurd h am) (λ_ => ?_) --f
  refine aB O (aB O (ay O ?_));refine Cd.cX O (dE O (dV O ?_));rw[<-List.nil_append (iS U (k'+1-1) [] ((b6 N).filter q)),hG];exact⟨AL,cL,rs,O,eM,hS.tail.tail⟩
theorem amL(n:Int)(A D:ai)(cA cD N:Nat)(R:ah)(rs:List aE)(B:ag)(w:aa)(hR:bu w A N R)(hB:bH w D N rs B)(hP:gN n R B):
 aF prog 38 [.agg #[aj n,.slice A N cA,.slice D N cD]] w (λv w'=>v=.bool true/\St w w' []):=by
 have ko:R.length=N:=hR.1;have k6:B.length=N:=hB.len;have hn:=hP.n1;have vr:=hP.qm;refine bn func38 O ntmps38 O (bM O) (aY O (og (St.refl w) O O ?_));intro A1 w1 ax;have fh:=ax.below;have h1:Rd w1 A1 3 (λj=>[Value.int .i64 n,.slice A N cA,.slice D N cD].getD j undef):=ax.rd 0 O;have hR:=hR.ao fh;have hB:=hB.ao fh;have ax:=ax.none;refine aq O (aS h1 O (fX (j:=0) h1 (by exact aQ Value.pointer O) O O O O (aI (y4 _ _ _ _) O ?_)));rintro _ w1 ⟨rfl,rfl⟩
 first|refine cO rfl rfl ?_|refine dv rfl rfl ?_
 refine aq O (b9 11 O (λh=>absurd h ac) (λ_=>?_));refine ar O (aS h1 O (ar O (a6 h1 O ?_)));refine ar O (aR O O (ar O (aq O ?_)));refine b9 17 O (λh=>absurd h ac) (λ_=>?_);refine ar O (aS h1 O (ar O (a6 h1 O ?_)));refine ar O (aR O O (ar O ?_));refine aS h1 O (ar O (a6 h1 O ?_));refine ar O (aR O O (ar O (ay O ?_)));refine fq O (cM O ?_);refine Cd.loop (α:=Nat) (λe=>[(1,.pointer A1),(3,aj e)]) (λe w'=>e<=N/\St w1 w' []) (λe=>N-e) 0 (auV O) ⟨bl _,St.refl _⟩ ?_;rintro e UJ w4 ⟨he,aw⟩;have hb:=aw.below;have h1:=Rd.below h1 hb;have hR:=hR.ao hb;have hB:=hB.ao hb;clear hb;refine aY O (aS h1 O (a6 h1 O ?_));refine aR O O (ay O ?_);refine aK _ O (λh3=>?_) (λh3=>?_)
 ·have wN:e<N:=by omega
  have hRm:=hP.jl _ (gi_in (out:=R) (i:=e) ac);have lp:0<e->gi R ((e:Int)-1)<=gi R e:=λh0=>by
   have:=hP.B0.le (show e-1<=e by omega) ac
   rwa[show((e-1:Nat):Int)=(e:Int)-1 by omega]at this
  have jQ:=hP.at_ (e:=(e:Int)) ac ac;refine xL 4 O (lH (α:=Unit) (λ_=>[(1,.pointer A1),(3,aj e),(60,.bool false)]) (λ_ w'=>St w4 w' []) ?_ ?_)
  ·by_cases h0:e=0
   ·refine ec [xP (aH (A1) 1),xS (A) (N) (cA),xI ((e:Int)),xP (aH (A) ((e:Int)).toNat),xI (gi (R) ((e:Int))),xP (aH (A1) 0),xI (n),xI ((n)-((1:Int))),xB (decide (0<=gi R e/\gi R e<=n-1)),xB (decide (¬(0<=gi R e/\gi R e<=n-1))),xB (false),xI ((e:Int)),xB (decide (((0:Int))<((e:Int)))),xB (false),xU,xU,xU,xU,xU,xU,xU,xU,xU,xU,xU,xU,xB (false),xB (false)] O (eK O) ?_ ?_
    ·refine⟨λ_ _ hb _ _=>aS (h1.below hb) O Az,λ_ _ hb _ _=>a6 (h1.below hb) O Az,Dr O,λ_ _ hb _ _=>aA (hR.ao hb).2 O Az,λ_ _ hb _ _=>bg (hR.ao hb) O Az,λ_ _ hb _ _=>aS (h1.below hb) O Az,λ_ _ hb _ _=>fX (h1.below hb) O O O O O Az,λ_ _ _ _ _=>cV O Az,?_,λ_ _ _ _ _=>cO O O Az,λ_ _ _ _ _=>Dk O (by exact aQ Value.bool (db (λh=>h ac))),Dr O,Dr O,λ_ _ _ _ _=>Dk O (by exact aQ Value.bool (db ac)),Dr O,Dr O,Dr O,Dr O,Dr O,Dr O,Dr O,Dr O,Dr O,Dr O,Dr O,Dr O,Dr O,Dr O,au⟩;intro e1 w1 hb hp aW;refine aI (y4 _ _ _ _) O ?_;rintro _ w2 ⟨rfl,aw⟩;subst aw;refine ak.n (d0 ap)
    intro u w6 hb _;exact tQ ⟨(),(auV O),(St.refl w4).ao hb⟩
   refine ec [xP (aH (A1) 1),xS (A) (N) (cA),xI ((e:Int)),xP (aH (A) ((e:Int)).toNat),xI (gi (R) ((e:Int))),xP (aH (A1) 0),xI (n),xI ((n)-((1:Int))),xB (decide (0<=gi R e/\gi R e<=n-1)),xB (decide (¬(0<=gi R e/\gi R e<=n-1))),xB (false),xI ((e:Int)),xB (decide (((0:Int))<((e:Int)))),xB (true),xP (aH (A1) 1),xS (A) (N) (cA),xI ((e:Int)),xP (aH (A) ((e:Int)).toNat),xI (gi (R) ((e:Int))),xP (aH (A1) 1),xS (A) (N) (cA),xI ((e:Int)),xI (((e:Int))-((1:Int))),xP (aH (A) (((e:Int))-((1:Int))).toNat),xI (gi (R) (((e:Int))-((1:Int)))),xB (false),xB (false),xB (false)] O (eK O) ?_ ?_
   ·refine⟨λ_ _ hb _ _=>aS (h1.below hb) O Az,λ_ _ hb _ _=>a6 (h1.below hb) O Az,Dr O,λ_ _ hb _ _=>aA (hR.ao hb).2 O Az,λ_ _ hb _ _=>bg (hR.ao hb) O Az,λ_ _ hb _ _=>aS (h1.below hb) O Az,λ_ _ hb _ _=>fX (h1.below hb) O O O O O Az,λ_ _ _ _ _=>cV O Az,?_,λ_ _ _ _ _=>cO O O Az,λ_ _ _ _ _=>Dk O (by exact aQ Value.bool (db (λh=>h ac))),Dr O,Dr O,λ_ _ _ _ _=>Dk O (by exact aQ Value.bool (dB ac)),λ_ _ hb _ _=>ar O (aS (h1.below hb) O Az),λ_ _ hb _ _=>ar O (a6 (h1.below hb) O Az),Dr O,λ_ _ hb _ _=>ar O (aA (hR.ao hb).2 O Az),λ_ _ hb _ _=>ar O (bg (hR.ao hb) O Az),λ_ _ hb _ _=>ar O (aS (h1.below hb) O Az),λ_ _ hb _ _=>ar O (a6 (h1.below hb) O Az),Dr O,λ_ _ _ _ _=>ar O (cV O Az),λ_ _ hb _ _=>ar O (aA (hR.ao hb).2 O Az),λ_ _ hb _ _=>ar O (bg (hR.ao hb) O Az),λ_ _ _ _ _=>Dk O (by exact aQ Value.bool (db (by have:=lp ac;omega))),Dr O,Dr O,au⟩;intro e1 w1 hb hp aW;refine aI (y4 _ _ _ _) O ?_;rintro _ w2 ⟨rfl,aw⟩;subst aw;refine ak.n (d0 ap)
   intro u w6 hb _;exact tQ ⟨(),(auV O),(St.refl w4).ao hb⟩
  rintro _ UK w5 vB;have hb:=vB.below;have h1:=Rd.below h1 hb;have hR:=hR.ao hb;have hB:=hB.ao hb;clear hb;refine Cd.cX O ?_;have fJ:=hB.at_ (i:=(e:Int)) ac ac;have jb:=fJ.1;have gu:=hB.cap_ (i:=(e:Int)) ac ac;have hcap2:=hB.top.1;refine cM O (Cd.loop (α:=Nat) (λq=>[(1,.pointer A1),(3,aj e),(4,aj q)]) (λq w'=>q<=(rg rs e).n/\St w5 w' []) (λq=>(rg rs e).n-q) 0 (auV O) ⟨bl _,St.refl _⟩ ?_);rintro q UL w6 ⟨hq,np⟩;have hb:=np.below;have h1:=Rd.below h1 hb;have hR:=hR.ao hb;have hB:=hB.ao hb;have fJ:=fJ.ao hb;clear hb;refine aY O (aS h1 O (a6 h1 O (aq O (aA hB.top.2 O (bw hB.top O ?_)))));refine aR O O (ay O ?_);refine aK _ O (λh5=>?_) (λh5=>?_)
  ·have vz:q<(gl B e).length:=by omega
   have iq:=gi_in vz;refine aC O (aS h1 O (a6 h1 O (aq O (aA hB.top.2 O (bw hB.top O (aq O (aA fJ.2 O (bg fJ O ?_))))))));have dH:0<q->gi (gl B e) ((q:Int)-1)<gi (gl B e) q:=λh0=>by
    have:=jQ.1.y6 (show q-1<q by omega) vz
    rwa[show((q-1:Nat):Int)=(q:Int)-1 by omega]at this
   obtain⟨d,Kd⟩:∃d,gi (gl B e) q=d:=⟨_,rfl⟩;rw[Kd]at iq dH|-;have vt:=jQ.2.1 d iq;refine tG 1 O (lH (α:=Unit) (λ_=>[(1,.pointer A1),(3,aj e),(4,aj q),(5,aj d),(113,.bool false)]) (λ_ w'=>St w6 w' []) ?_ ?_)
   ·by_cases h0:q=0
    ·refine ec [xI (d),xI ((e:Int)),xI (((e:Int))-((1:Int))),xB (decide (0<=d/\d<=(e:Int)-1)),xB (decide (¬(0<=d/\d<=(e:Int)-1))),xB (false),xP (aH (A1) 1),xS (A) (N) (cA),xI (d),xP (aH (A) (d).toNat),xI (gi (R) (d)),xP (aH (A1) 1),xS (A) (N) (cA),xI ((e:Int)),xP (aH (A) ((e:Int)).toNat),xI (gi (R) ((e:Int))),xB (decide ((gi (R) ((e:Int)))<=(gi (R) (d)))),xB (decide ((gi (R) ((e:Int)))<=(gi (R) (d)))),xB (false),xI ((q:Int)),xB (decide (((0:Int))<((q:Int)))),xB (false),xU,xU,xU,xU,xU,xU,xU,xU,xU,xU,xU,xB (false),xB (false)] O (eK O) ?_ ?_
     ·refine⟨Dr O,Dr O,λ_ _ _ _ _=>cV O Az,?_,λ_ _ _ _ _=>cO O O Az,λ_ _ _ _ _=>Dk O (by exact aQ Value.bool (db (λh=>h ac))),λ_ _ hb _ _=>ar O (aS (h1.below hb) O Az),λ_ _ hb _ _=>ar O (a6 (h1.below hb) O Az),Dr O,λ_ _ hb _ _=>ar O (aA (hR.ao hb).2 O Az),λ_ _ hb _ _=>ar O (bg (hR.ao hb) O Az),λ_ _ hb _ _=>ar O (aS (h1.below hb) O Az),λ_ _ hb _ _=>ar O (a6 (h1.below hb) O Az),Dr O,λ_ _ hb _ _=>ar O (aA (hR.ao hb).2 O Az),λ_ _ hb _ _=>ar O (bg (hR.ao hb) O Az),Dr O,Dr O,λ_ _ _ _ _=>Dk O (by exact aQ Value.bool (db ac)),Dr O,Dr O,λ_ _ _ _ _=>Dk O (by exact aQ Value.bool (db ac)),Dr O,Dr O,Dr O,Dr O,Dr O,Dr O,Dr O,Dr O,Dr O,Dr O,Dr O,Dr O,Dr O,au⟩;intro e1 w1 hb hp aW;refine aI (y4 _ _ _ _) O ?_;rintro _ w2 ⟨rfl,aw⟩;subst aw;refine ak.n (d0 ap)
     intro u w8 hb _;exact tQ ⟨(),(auV O),(St.refl w6).ao hb⟩
    refine ec [xI (d),xI ((e:Int)),xI (((e:Int))-((1:Int))),xB (decide (0<=d/\d<=(e:Int)-1)),xB (decide (¬(0<=d/\d<=(e:Int)-1))),xB (false),xP (aH (A1) 1),xS (A) (N) (cA),xI (d),xP (aH (A) (d).toNat),xI (gi (R) (d)),xP (aH (A1) 1),xS (A) (N) (cA),xI ((e:Int)),xP (aH (A) ((e:Int)).toNat),xI (gi (R) ((e:Int))),xB (decide ((gi (R) ((e:Int)))<=(gi (R) (d)))),xB (decide ((gi (R) ((e:Int)))<=(gi (R) (d)))),xB (false),xI ((q:Int)),xB (decide (((0:Int))<((q:Int)))),xB (true),xI (d),xP (aH (A1) 2),xS (D) (N) (cD),xI ((e:Int)),xP (aH (D) ((e:Int)).toNat),xS ((rg (rs) ((e:Int))).a) ((rg (rs) ((e:Int))).n) ((rg (rs) ((e:Int))).c),xI ((q:Int)),xI (((q:Int))-((1:Int))),xP (aH ((rg (rs) ((e:Int))).a) (((q:Int))-((1:Int))).toNat),xI (gi (gl B e) (((q:Int))-((1:Int)))),xB (false),xB (false),xB (false)] O (eK O) ?_ ?_
    ·refine⟨Dr O,Dr O,λ_ _ _ _ _=>cV O Az,?_,λ_ _ _ _ _=>cO O O Az,λ_ _ _ _ _=>Dk O (by exact aQ Value.bool (db (λh=>h ac))),λ_ _ hb _ _=>ar O (aS (h1.below hb) O Az),λ_ _ hb _ _=>ar O (a6 (h1.below hb) O Az),Dr O,λ_ _ hb _ _=>ar O (aA (hR.ao hb).2 O Az),λ_ _ hb _ _=>ar O (bg (hR.ao hb) O Az),λ_ _ hb _ _=>ar O (aS (h1.below hb) O Az),λ_ _ hb _ _=>ar O (a6 (h1.below hb) O Az),Dr O,λ_ _ hb _ _=>ar O (aA (hR.ao hb).2 O Az),λ_ _ hb _ _=>ar O (bg (hR.ao hb) O Az),Dr O,Dr O,λ_ _ _ _ _=>Dk O (by exact aQ Value.bool (db ac)),Dr O,Dr O,λ_ _ _ _ _=>Dk O (by exact aQ Value.bool (dB ac)),Dr O,λ_ _ hb _ _=>ar O (aS (h1.below hb) O Az),λ_ _ hb _ _=>ar O (a6 (h1.below hb) O Az),Dr O,λ_ _ hb _ _=>ar O (aA (hB.top.ao hb).2 O Az),λ_ _ hb _ _=>ar O (bw (hB.top.ao hb) O Az),Dr O,λ_ _ _ _ _=>ar O (cV O Az),λ_ _ hb _ _=>ar O (aA (fJ.ao hb).2 O Az),λ_ _ hb _ _=>ar O (bg (fJ.ao hb) O Az),λ_ _ _ _ _=>Dk O (by exact aQ Value.bool (db (by have:=dH ac;omega))),Dr O,Dr O,au⟩;intro e1 w1 hb hp aW;refine aI (y4 _ _ _ _) O ?_;rintro _ w2 ⟨rfl,aw⟩;subst aw;refine ak.n (d0 ap)
    intro u w8 hb _;exact tQ ⟨(),(auV O),(St.refl w6).ao hb⟩
   rintro _ ev7 w7 Bk;have hb:=Bk.below;have h1:=Rd.below h1 hb;have hR:=hR.ao hb;have hB:=hB.ao hb;have fJ:=fJ.ao hb;clear hb;refine Cd.cX O ?_;have gI:=hB.at_ (i:=d) ac ac;have akC:=gI.1;have hcapd:=hB.cap_ (i:=d) ac ac;refine cM O (Cd.loop (α:=Nat) (λt=>[(1,.pointer A1),(3,aj e),(4,aj q),(5,aj d),(6,aj t)]) (λt w'=>t<=(rg rs d).n/\St w7 w' []) (λt=>(rg rs d).n-t) 0 (auV O) ⟨bl _,St.refl _⟩ ?_);rintro t ev8 w8 ⟨ht,Qn⟩;have hb:=Qn.below;have h1:=Rd.below h1 hb;have hR:=hR.ao hb;have hB:=hB.ao hb;have fJ:=fJ.ao hb;have gI:=gI.ao hb;clear hb;refine aY O (aS h1 O (a6 h1 O (aq O (aA hB.top.2 O (bw hB.top O ?_)))));refine aR O O (ay O ?_);refine aK _ O (λh7=>?_) (λh7=>?_)
   ·have Qp:t<(gl B d).length:=by omega
    have pG:=gi_in Qp;refine cM O ?_;refine ec [xP (aH (A1) 2),xS (D) (N) (cD),xI ((e:Int)),xP (aH (D) ((e:Int)).toNat),xS ((rg (rs) ((e:Int))).a) ((rg (rs) ((e:Int))).n) ((rg (rs) ((e:Int))).c),xP (aH (A1) 2),xS (D) (N) (cD),xI (d),xP (aH (D) (d).toNat),xS ((rg (rs) (d)).a) ((rg (rs) (d)).n) ((rg (rs) (d)).c),xI ((t:Int)),xP (aH ((rg (rs) (d)).a) ((t:Int)).toNat),xI (gi (gl B d) ((t:Int))),xB (decide (gi (gl B d) t∈gl B e)),xB (decide (¬(gi (gl B d) t∈gl B e)))] O (eK O) ?_ ?_
    ·refine⟨λ_ _ hb _ _=>aS (h1.below hb) O Az,λ_ _ hb _ _=>a6 (h1.below hb) O Az,Dr O,λ_ _ hb _ _=>aA (hB.top.ao hb).2 O Az,λ_ _ hb _ _=>bw (hB.top.ao hb) O Az,λ_ _ hb _ _=>aS (h1.below hb) O Az,λ_ _ hb _ _=>a6 (h1.below hb) O Az,Dr O,λ_ _ hb _ _=>aA (hB.top.ao hb).2 O Az,λ_ _ hb _ _=>bw (hB.top.ao hb) O Az,Dr O,λ_ _ hb _ _=>aA (gI.ao hb).2 O Az,λ_ _ hb _ _=>bg (gI.ao hb) O Az,?_,λ_ _ _ _ _=>cO O O Az,au⟩;intro e1 w1 hb hp aW;refine aI (uy _ _ _ _ _ _ (fJ.ao hb) ac) O ?_;rintro _ w2 ⟨rfl,aw⟩;subst aw;refine ak.n (d0 ap)
    intro u w9 AA _;refine fG O (auT O (λh=>h (jQ.2.2 d iq _ pG)) (aC O (aJ O (aN O (tQ ?_)))));exact⟨t+1,by show(rg rs d).n-(t+1)<(rg rs d).n-t;omega,(auV O),ac,Qn.ao AA⟩
   refine ba O (bc (bY O (aJ O (aN O (tQ ?_)))));exact⟨q+1,by show(rg rs e).n-(q+1)<(rg rs e).n-q;omega,(auV O),ac,np.ao (Bk.ao Qn.below).below⟩
  refine ba O (bc (bY O (aJ O (aN O (tQ ?_)))));exact⟨e+1,by show N-(e+1)<N-e;omega,(auV O),ac,aw.ao (vB.ao np.below).below⟩
 refine ba O (bc (ew O ?_));exact cK O ⟨O,(ax.ao aw.below).none⟩
theorem alv(n:Nat)(A D:ai)(cA cD:Nat)(R:ah)(rs:List aE)(B:ag)(w:aa)(hR:bu w A R.length R)(hB:bH w D B.length rs B)(hP:gN n R B)(JH:R.length<=60)(bN:R≠[])(lW:(jc n R B).length<=400):
 aF prog 12 [.agg #[aj n,.slice A R.length cA,.slice D B.length cD]] w (λv w'=>∃A' c' rs',v=.tuple #[.agg #[aj (R.length:Int),.slice A' (jc n R B).length c'],aj 0]/\rs'.length=(jc n R B).length/\St w w' (aV 27 2 A' (jc n R B).length c' rs' (jc n R B)++[])):=by
 refine bn func12 O ntmps12 O (tw O O) (aY O (og (St.refl w) O O ?_));intro A1 w1 ax;refine kM ax O ?_;intro A2 w2 az;have az:St w w2 [iX A2,bS A1 n A R.length cA D B.length cD]:=az;refine aq O (cG 2 (az.rd 1 O) O O O (aI (K4 n A D cA cD R rs B _ (az.dq hR) (az.bU hB) hP) O ?_));rintro _ w3 ⟨rfl,aw⟩;have aM:=az.ao aw.below
 first|refine cO rfl rfl ?_|refine dv rfl rfl ?_
 refine ay O (Cd.cX O (aC O (cG 2 (aM.rd 1 O) O O O (aI (arX n A D cA cD R rs B _ (aM.dq hR) (aM.bU hB) hP JH bN lW) O ?_))));rintro _ w4 ⟨A',c',rs',rfl,dw,nn⟩;have aU:St w w4 ((aV 27 2 A' (jc n R B).length c' rs' (jc n R B)++[])++[iX A2,bS A1 n A R.length cA D B.length cD]):=aM.call nn;have aO:St w w4 (iX A2::(bS A1 n A R.length cA D B.length cD::(aV 27 2 A' (jc n R B).length c' rs' (jc n R B)++[]))):=aU.perm gL;refine aq O (dU 2 0 aO O O O O O O O ?_);intro w5 bk;refine bR O (oI O (bk.rd 0 O) O ?_);exact⟨A',c',rs',O,dw,bk.tail.tail⟩
theorem aqb{n:Int}{B:ag}(hP:gN n R B):ME R.length B:=by
 refine⟨hP.len,hP.qm,λx x0 x1=>?_,λe f f0 f1 h=>((hP.at_ f0 f1).2.1 e h).1.2⟩;obtain⟨a,b,_⟩:=hP.at_ x0 x1;have cE:∀y∈gl B x,0<=y/\y<R.length:=λy hy=>by have:=(b y hy).1;omega
 have:=tv (N:=R.length) a.nodup cE;have:=hP.qm;exact⟨ac,cE⟩
theorem arK(n:Nat)(A D:ai)(cA cD:Nat)(R:ah)(rs:List aE)(B:ag)(w:aa)(hR:bu w A R.length R)(hB:bH w D R.length rs B)(hP:gN n R B)(JH:R.length<=60)(bN:R≠[])(lW:(jc n R B).length<=400)(fk:(jc n R B).flatten.length<=1000000)(tp:∀l∈jc n R B,SA l):
 aF prog 13 [.agg #[aj n,.slice A R.length cA,.slice D R.length cD]] w (λv w'=>∃(V:Int)(A':ai)(m c':Nat),v=.tuple #[.agg #[aj V,.slice A' m c'],aj (qo (jc n R B))]/\St w w' []):=by
 have hn:=hP.n1;have tt:=abN hP;have e6:Dn R (R.length:Int)= -1:=aD ac;refine bn func13 O ntmps13 O (tw O O) (aY O (og (St.refl w) O O ?_));intro A1 w1 ax;refine kM ax O ?_;intro A2 w2 az;have az:St w w2 [iX A2,bS A1 n A R.length cA D R.length cD]:=az;refine aq O (cG 2 (az.rd 1 O) O O O (aI (amL n A D cA cD R.length R rs B _ (az.dq hR) (az.bU hB) hP) O ?_));rintro _ w3 ⟨rfl,aw⟩;have aM:=az.ao aw.below
 first|refine cO rfl rfl ?_|refine dv rfl rfl ?_
 refine ay O (Cd.cX O (aC O (cG 2 (aM.rd 1 O) O O O (jy aM O ?_))));intro fC w5 aO;have aO:St w w5 (aX 27 none 0 0 []::av 2 fC 0 0 []::[iX A2,bS A1 n A R.length cA D R.length cD]):=aO.nil _;have aO:St w w5 (mK fC 0 0 [] none 0 [] [] [iX A2,bS A1 n A R.length cA D R.length cD]):=aO.perm (List.Perm.swap _ _ _);refine aI (am7 w n A D cA cD R.length R rs B hR hB (aqb hP) (Dn R) ((n:Int)-1) (vL R B) tt (λe he=>Rc he) (λd e he h=>aoA hP e he h) (HR R B) (by rw[HR];exact ZJ hP bN) (n+1) fC 0 _ _ ac ac lW aO) O ?_;rintro _ w6 ⟨AL,cL,RL,rfl,hrL,hT⟩;have hT:St w w6 (aV 27 2 AL (jc n R B).length cL RL (jc n R B)++[iX A2,bS A1 n A R.length cA D R.length cD]):=hT;have ym:bH w6 AL (jc n R B).length RL (jc n R B):=hT.fO O;have nL:St w w6 [iX A2,bS A1 n A R.length cA D R.length cD]:=hT.sub (fj _ _);have Xw:(fW (vL R B) (n+1) (R.length:Int)).length=(jc n R B).length:=O;refine aq O (aS (nL.rd 1 O) O (auP (j:=1) (nL.rd 1 O) (by exact aQ Value.pointer O) O O O O ?_));refine aR O O (aq O ?_);refine b9 16 O (λh=>absurd h ac) (λ_=>?_);refine ar O (aq O (ar O (aR O O (ar O (ay O ?_)))));refine fq O (aC O (aI (am9 AL (jc n R B).length cL RL (jc n R B) _ ym ac fk tp) O ?_));rintro _ w7 ⟨A',c',rs',rfl,dw,Bk⟩;have J2:=nL.ao Bk.below;refine aq O (dU 2 0 J2 O O O O O O O ?_);intro w8 Ak;refine bR O (oI O (Ak.rd 0 O) O ?_);exact⟨_,A',_,c',O,Ak.none⟩
def gJ(xs:ah):Nat->ah
 |0=>[]
 |k+1=>gJ xs k++xs
theorem abI(xs:ah):∀k,(gJ xs k).length=xs.length*k
 |0=>rfl
 |k+1=>by rw[gJ,cj,abI xs k,Nat.mul_succ]
theorem Sw(A:ai)(n c:Nat)(xs:ah)(k:Nat)(w:aa)(hR:bu w A n xs)(hn:n<=10)(hk:k<=10):
 aF prog 7 [.slice A n c,aj k] w (λv w'=>∃A' c',v=.slice A' (gJ xs k).length c'/\St w w' [av 2 A' (gJ xs k).length c' (gJ xs k)]):=by
 have hl:=hR.1;refine bn func7 O ntmps7 O (bM O) (aY O (jy (St.refl w) O ?_));intro A5 w1 hS;refine ay O ?_;refine Cd.loop (α:=Nat×ai×Nat) (λz=>[(0,.slice A n c),(1,aj ((k:Int)-(z.1:Int))),(5,.slice z.2.1 (gJ xs z.1).length z.2.2)]) (λz w'=>z.1<=k/\St w w' [av 2 z.2.1 (gJ xs z.1).length z.2.2 (gJ xs z.1)]) (λz=>k-z.1) (0,A5,0) ⟨O,aQ (Value.int .i64) (by show(k:Int)=(k:Int)-((0:Nat):Int);omega),O,au⟩ ⟨bl _,hS⟩ ?_;clear hS;rintro⟨j,A5,c5⟩ e w2 ⟨hj,hS⟩;dsimp only at hj hS|-;have ur:=abI xs j;have hm:xs.length*j<=10*10:=Nat.mul_le_mul ac ac;refine bC O (aK _ O (λh1=>?_) (λh1=>?_))
 ·refine aC O (eQ 0 hS O (hS.dq hR) O O O ?_);intro A6 c6 w3 aM;have e1:(gJ xs (j+1)).length=(gJ xs j).length+n:=by rw[gJ,cj,hl]
  refine aq O (cV O (aN O (tQ ?_)));refine⟨(j+1,A6,c6),by show k-(j+1)<k-j;omega,⟨O,aQ (Value.int .i64) (by show(k:Int)-(j:Int)-1=(k:Int)-((j+1:Nat):Int);omega),by show Value.slice _ _ _=_;rw[e1],au⟩,by show j+1<=k;omega,?_⟩;show St w w3 [av 2 A6 (gJ xs (j+1)).length c6 (gJ xs (j+1))];rw[e1];exact aM
 obtain rfl:j=k:=by omega
 refine ba O (bc (ew O ?_));exact dV O ⟨A5,c5,O,hS⟩
abbrev KF:=Int×((aE×ah)×(aE×ah))
def LA(u:(aE×ah)×(aE×ah)):ab:=.agg #[u.1.1.v,u.2.1.v]
def tJ(b:Nat)(x:ah):Prop:=ml x/\∀e∈x,e<b
def Ms(b:Nat)(p:KF):Prop:=tJ b p.2.1.2/\tJ b p.2.2.2/\p.2.2.2.getLast?=some p.1
def zu(M:List KF):List Nat:=M.map λp=>fF p.2.2.2
abbrev gO(A:ai)(v u:aE):Ck:=Bx 157 2 A [v.v,u.v]
theorem aoL{α:Type}(a b:α)(R1 Y:List α):(a::b::(R1++Y)).Perm (R1++([a,b]++Y)):=by
 have:=(gL (l₁:=[a,b]) (l₂:=R1)).append_right Y;simpa using this
theorem aby{x:ah}(hx:tJ b x)(hy:tJ b y):tJ b (gC x y):=⟨Sp hx.1 hy.1,λe he=>by
 rcases Sq e he with h|h
 ·exact hx.2 e h
 exact hy.2 e h⟩
structure Pd7(w0:aa)(g:Nat)(P3 P4 P5:ai)(v u v2 u2:aE)(qp y qz z:ah)(X:List Ck)(S:Nat->Bool)(e:Env)(w:aa):Prop where
 f0:e 0=.map (some g)
 f3:e 3=.pointer P3
 f4:e 4=.pointer P4
 f5:e 5=.pointer P5
 p0:S 0=true->e 27=.pointer (aH P3 0)
 p1:S 1=true->e 28=v.v
 p2:S 2=true->e 29=.pointer (aH P5 0)
 p3:S 3=true->e 30=v2.v
 p7:S 7=true->e 34=.pointer (aH P3 1)
 p8:S 8=true->e 35=u.v
 p9:S 9=true->e 36=.pointer (aH P5 1)
 eI:S 10=true->e 37=u2.v
 mem:∃(A1 B1 A2 B2:ai)(c1 d1 c2 d2:Nat)(R1 R2:List Ck)(T:List ab),(S 4=false->R1=[])/\(S 4=true->S 5=false->e 31=.slice A1 2 2/\R1=[aX 27 A1 2 2 [v,v2]])/\(S 5=true->S 6=false->e 32=.slice A1 (qp++qz).length c1/\R1=[av 2 A1 (qp++qz).length c1 (qp++qz)])/\(S 6=true->e 33=.slice A1 (gC qp qz).length c1/\R1=[av 2 A1 (gC qp qz).length c1 (gC qp qz),av 2 B1 (qp++qz).length d1 (fb (qp++qz))])/\(S 11=false->R2=[])/\(S 11=true->S 12=false->e 38=.slice A2 2 2/\R2=[aX 27 A2 2 2 [u,u2]])/\(S 12=true->S 13=false->e 39=.slice A2 (y++z).length c2/\R2=[av 2 A2 (y++z).length c2 (y++z)])/\(S 13=true->e 40=.slice A2 (gC y z).length c2/\R2=[av 2 A2 (gC y z).length c2 (gC y z),av 2 B2 (y++z).length d2 (fb (y++z))])/\(S 14=true->e 41=.agg #[.slice A1 (gC qp qz).length c1,.slice A2 (gC y z).length c2])/\(S 15=false->T=[v.v,u.v])/\(S 15=true->T=[.slice A1 (gC qp qz).length c1,.slice A2 (gC y z).length c2])/\St w0 w (R1++(R2++(gO P5 v2 u2::Bx 157 2 P3 T::gO P4 bI bI::X)))
theorem apI(g:Nat)(M:List KF)(s0 s:aE)(x0 x:ah)(b:Nat)(w:aa)(hM:mQ w g (dZ (Value.int .i64) LA M))(OW:∀p∈M,(bu w p.2.1.1.a p.2.1.1.n p.2.1.2/\bu w p.2.2.1.a p.2.2.1.n p.2.2.2)/\Ms b p)(uv:bu w s0.a s0.n x0)(hX0:tJ b x0)(hx:bu w s.a s.n x)(hX:tJ b x)(hb:b<=1000000):
 aF prog 158 [.map (some g),.agg #[s0.v,s.v]] w (λv w'=>∃nT xF s' x' X,v=LA ((nT,xF),(s',x'))/\tJ b xF/\tJ b x'/\fF x^^^fF x'∈fm (zu M)/\(∀t,x'.getLast?=some t->dh M t=none)/\St w w' X/\(nT=s0/\xF=x0\/av 2 nT.a nT.n nT.c xF∈X)/\(s'=s/\x'=x\/av 2 s'.a s'.n s'.c x'∈X)):=by
 refine bn func158 O ntmps158 O (BA O O) (aY O (nB (St.refl w) O O ?_));intro P3 w1 ax;refine kM ax O λP4 w2 az=>ay O ?_;have az:St w w2 (gO P3 s0 s::gO P4 bI bI::[]):=az.swap;refine Cd.loop (α:=(aE×ah)×(aE×ah)×List Ck) (λz=>[(0,.map (some g)),(3,.pointer P3),(4,.pointer P4)])
  (λz w'=>tJ b z.1.2/\tJ b z.2.1.2/\fF x^^^fF z.2.1.2∈fm (zu M)/\(z.1.1=s0/\z.1.2=x0\/av 2 z.1.1.a z.1.1.n z.1.1.c z.1.2∈z.2.2)/\(z.2.1.1=s/\z.2.1.2=x\/av 2 z.2.1.1.a z.2.1.1.n z.2.1.1.c z.2.1.2∈z.2.2)/\St w w' (gO P3 z.1.1 z.2.1.1::gO P4 bI bI::z.2.2)) (λz=>HM z.2.1.2) ((s0,x0),(s,x),[]) ⟨rfl,rfl,rfl,au⟩ ⟨hX0,hX,by show fF x^^^fF x∈_;rw[Nat.xor_self];exact Fh _,.inl ⟨rfl,rfl⟩,.inl ⟨rfl,rfl⟩,az⟩ ?_
 clear az ax;rintro⟨⟨v,qp⟩,⟨u,y⟩,X⟩ e w3 ⟨yG,hy,lu,Ku,l5,hS⟩;dsimp only at yG hy lu Ku l5 hS|-;have X0:∀(w':aa)(Y:List Ck),St w w' Y->(∀k∈X,k∈Y)->bu w' v.a v.n qp:=λw' Y h si=>by
  rcases Ku with⟨rfl,rfl⟩|h9
  ·exact h.dq uv
  ·exact sA h (si _ h9)
 have YG:∀(w':aa)(Y:List Ck),St w w' Y->(∀k∈X,k∈Y)->bu w' u.a u.n y:=λw' Y h si=>by
  rcases l5 with⟨rfl,rfl⟩|h9
  ·exact h.dq hx
  ·exact sA h (si _ h9)
 have xi:=YG w3 _ hS (λk hk=>by simp[hk]);have mz:=(X0 w3 _ hS (λk hk=>by simp[hk])).1;have nO:=xi.1;have KW:=hy.1.len hy.2;have XZ:=yG.1.len yG.2;have ia:=hS.rd 0 O;refine aY O (aS ia O (a6 ia O ?_));refine aR O O (ay O ?_);refine aK _ O (λh1=>?_) (λh1=>?_)
 ·obtain⟨m,hm⟩:∃m,y.length=m+1:=⟨y.length-1,ac⟩;have kO:=HE hm;have e1:((u.n:Int)-1)=(m:Int):=by omega
  have h0:=hy.1.2 _ (show gi y m∈y by rw[b7 (by omega)];exact dt _);generalize ht:gi y m=t at*;refine aC O (aS ia O (a6 ia O (aS ia O (a6 ia O ?_))));refine aR O O (cV O ?_);refine aA xi.2 O (bg xi O ?_);rw[e1,ht];cases hg:dh M t with
  |none => --dup 2
   refine FD (v:=.agg #[.slice none 0 0,.slice none 0 0]) vI (x:=t) (hS.Ll hM) O O (by rw[hg];try rfl) O ?_;rw[hg];refine aq O (kM hS O ?_);intro P5 w4 aU;refine dU 2 0 aU O O O O O O O ?_;intro w5 aO;have aO:St w w5 (gO P5 bI bI::gO P3 v u::gO P4 bI bI::X):=aO;refine aq O ?_
   first|refine cO rfl rfl ?_|refine dv rfl rfl ?_
   refine ay O (Cd.iw O (aC O (cG 1 (aO.rd 1 O) O O O (dU 2 2 aO O O O O O O O ?_))));intro w6 bk;have bk:St w w6 (gO P5 bI bI::gO P3 v u::gO P4 v u::X):=bk;refine bR O (fz (fe ?_));refine⟨P4,_,O,bk.rd 2 O,v,qp,u,y,_,O,yG,hy,lu,λt' h'=>?_,bk,?_,?_⟩
   ·rw[kO]at h';cases h';exact hg
   ·exact Ku.imp id λh=>by simp[h]
   ·exact l5.imp id λh=>by simp[h]
  |some p=>
   have kG:=JB hg;obtain⟨⟨Qa,Hx⟩,uj,Hc,ui⟩:=OW _ kG;obtain⟨⟨v2,qz⟩,⟨u2,z⟩⟩:=p;dsimp only at Qa Hx uj Hc ui;have C8:=Hc.1.len Hc.2;have hqzb:=uj.1.len uj.2;have hqzl:=Qa.1;have mE:=Hx.1;refine FD (v:=.agg #[v2.v,u2.v]) vI (x:=t) (hS.Ll hM) O O (by rw[hg];try rfl) O ?_;rw[hg];refine aq O (kM hS O ?_);intro P5 w4 aU;refine dU 2 0 aU O O O O O O O ?_;intro w5 aO;have aO:St w w5 (gO P5 v2 u2::gO P3 v u::gO P4 bI bI::X):=aO;refine aq O ?_
   first|refine cO rfl rfl ?_|refine dv rfl rfl ?_
   refine ay O (Cd.cX O ?_);clear hS aU ia xi;refine cM O (Fq an an (λS e1 w1=>Pd7 w g P3 P4 P5 v u v2 u2 qp y qz z X S e1 w1) (λw4 hb=>⟨O,O,O,O,λh=>(nomatch h),λh=>(nomatch h),λh=>(nomatch h),λh=>(nomatch h),λh=>(nomatch h),λh=>(nomatch h),λh=>(nomatch h),λh=>(nomatch h),none,none,none,none,0,0,0,0,[],[],[v.v,u.v],λ_=>O,λh=>(nomatch h),λh=>(nomatch h),λh=>(nomatch h),λ_=>O,λh=>(nomatch h),λh=>(nomatch h),λh=>(nomatch h),λh=>(nomatch h),λ_=>O,λh=>(nomatch h),aO.ao hb⟩) ?_ ?_)
   ·intro S q o e1 w4 hq cz hd b8 hI;obtain⟨f0,f3,f4,f5,p0,p1,p2,p3,p7,p8,p9,eI,A1,B1,A2,B2,c1,d1,c2,d2,R1,R2,T,m4,sw,sy,qR,m11,sr,su,qQ,m14,m15,y7,hT⟩:=hI
    match q,hq,cz with
    |0,hq,cz=>
     obtain rfl:=cn hq;have lS:St w w4 (gO P5 v2 u2::Bx 157 2 P3 T::gO P4 bI bI::X):=(hT.sub (fj _ _)).sub (fj _ _);refine auO (lS.rd 1 O) (by exact f3) O O O inferInstance (ak.n ?_);exact⟨f0,f3,f4,f5,λ_=>O,p1,p2,p3,p7,p8,p9,eI,A1,B1,A2,B2,c1,d1,c2,d2,R1,R2,T,m4,sw,sy,qR,m11,sr,su,qQ,m14,m15,y7,hT⟩
    |1,hq,cz=>
     obtain rfl:=cn hq;have n15:S 15=false:=by
      cases h:S 15 with
      |false=>rfl
      |true=>rw[<-cz];exact(bK (b8 15 _ h rfl) 1 rfl).symm
     obtain rfl:=m15 n15;have lS:St w w4 (gO P5 v2 u2::Bx 157 2 P3 [v.v,u.v]::gO P4 bI bI::X):=(hT.sub (fj _ _)).sub (fj _ _);refine auP (j:=0) (lS.rd 1 O) (by exact p0 (bK hd 0 O)) O O O O (ak.n ?_);exact⟨f0,f3,f4,f5,p0,λ_=>O,p2,p3,p7,p8,p9,eI,A1,B1,A2,B2,c1,d1,c2,d2,R1,R2,_,m4,sw,sy,qR,m11,sr,su,qQ,m14,λ_=>O,λh=>(nomatch n15.symm.trans h),hT⟩
    |2,hq,cz=>
     obtain rfl:=cn hq;have lS:St w w4 (gO P5 v2 u2::Bx 157 2 P3 T::gO P4 bI bI::X):=(hT.sub (fj _ _)).sub (fj _ _);refine auO (lS.rd 0 O) (by exact f5) O O O inferInstance (ak.n ?_);exact⟨f0,f3,f4,f5,p0,p1,λ_=>O,p3,p7,p8,p9,eI,A1,B1,A2,B2,c1,d1,c2,d2,R1,R2,T,m4,sw,sy,qR,m11,sr,su,qQ,m14,m15,y7,hT⟩
    |3,hq,cz=>
     obtain rfl:=cn hq;have lS:St w w4 (gO P5 v2 u2::Bx 157 2 P3 T::gO P4 bI bI::X):=(hT.sub (fj _ _)).sub (fj _ _);refine auP (j:=0) (lS.rd 0 O) (by exact p2 (bK hd 2 O)) O O O O (ak.n ?_);exact⟨f0,f3,f4,f5,p0,p1,p2,λ_=>O,p7,p8,p9,eI,A1,B1,A2,B2,c1,d1,c2,d2,R1,R2,T,m4,sw,sy,qR,m11,sr,su,qQ,m14,m15,y7,hT⟩
    |4,hq,cz=>
     obtain rfl:=cn hq;obtain rfl:=m4 cz;have n5:S 5=false:=by
      cases h:S 5 with
      |false=>rfl
      |true=>rw[<-cz];exact(bK (b8 5 _ h rfl) 4 rfl).symm
     have n6:S 6=false:=by
      cases h:S 6 with
      |false=>rfl
      |true=>rw[<-cz];exact(bK (b8 5 _ (bK (b8 6 _ h rfl) 5 rfl) rfl) 4 rfl).symm
     have n14:S 14=false:=by
      cases h:S 14 with
      |false=>rfl
      |true=>rw[<-cz];exact(bK (b8 5 _ (bK (b8 6 _ (bK (b8 14 _ h rfl) 6 rfl) rfl) 5 rfl) rfl) 4 rfl).symm
     have n15:S 15=false:=by
      cases h:S 15 with
      |false=>rfl
      |true=>rw[<-cz];exact(bK (b8 15 _ h rfl) 4 rfl).symm
     refine FC hT (by exact p1 (bK hd 1 O)) (by exact p3 (bK hd 3 O)) O O O O ?_;intro A' w9 hT;refine ak.n ?_;exact⟨f0,f3,f4,f5,p0,p1,p2,p3,p7,p8,p9,eI,A',B1,A2,B2,c1,d1,c2,d2,[aX 27 A' 2 2 [v,v2]],R2,T,λh=>(nomatch (show true=false from h)),λ_ _=>⟨O,O⟩,λh=>(nomatch n5.symm.trans h),λh=>(nomatch n6.symm.trans h),m11,sr,su,qQ,λh=>(nomatch n14.symm.trans h),m15,λh=>(nomatch n15.symm.trans h),hT⟩
    |5,hq,cz=>
     obtain rfl:=cn hq;have n6:S 6=false:=by
      cases h:S 6 with
      |false=>rfl
      |true=>rw[<-cz];exact(bK (b8 6 _ h rfl) 5 rfl).symm
     have n14:S 14=false:=by
      cases h:S 14 with
      |false=>rfl
      |true=>rw[<-cz];exact(bK (b8 6 _ (bK (b8 14 _ h rfl) 6 rfl) rfl) 5 rfl).symm
     have n15:S 15=false:=by
      cases h:S 15 with
      |false=>rfl
      |true=>rw[<-cz];exact(bK (b8 15 _ h rfl) 5 rfl).symm
     obtain⟨Cp,rfl⟩:=sw (bK hd 4 rfl) cz;have Ah:fu w4 A1 2 [v,v2]:=hT.dm 0 O;have hqR:=X0 w4 _ hT (λk hk=>by simp[hk]);have hqz:=hT.dq Qa;refine auM (Iq A1 v v2 qp qz _ Ah hqR hqz ac) O (by exact aQ (λv=>[v]) Cp) O ?_;rintro _ w9 ⟨A',c',rfl,aw⟩;have hT:=(hT.tail).call aw;refine ak.n ?_;exact⟨f0,f3,f4,f5,p0,p1,p2,p3,p7,p8,p9,eI,A',B1,A2,B2,c',d1,c2,d2,[av 2 A' (qp++qz).length c' (qp++qz)],R2,T,λh=>(nomatch (bK hd 4 O).symm.trans h),λ_ h=>(nomatch (show true=false from h)),λ_ _=>⟨O,O⟩,λh=>(nomatch n6.symm.trans h),m11,sr,su,qQ,λh=>(nomatch n14.symm.trans h),m15,λh=>(nomatch n15.symm.trans h),hT⟩
    |6,hq,cz=>
     obtain rfl:=cn hq;have n12:S 12=false:=by
      cases h:S 12 with
      |false=>rfl
      |true=>rw[<-cz];exact(bK (b8 12 _ h rfl) 6 rfl).symm
     have n14:S 14=false:=by
      cases h:S 14 with
      |false=>rfl
      |true=>rw[<-cz];exact(bK (b8 14 _ h rfl) 6 rfl).symm
     have n15:S 15=false:=by
      cases h:S 15 with
      |false=>rfl
      |true=>rw[<-cz];exact(bK (b8 15 _ h rfl) 6 rfl).symm
     obtain⟨Gb,rfl⟩:=sy (bK hd 5 rfl) cz;refine auM (HQ 0 hT O (by rw[cj];omega)) O (by exact aQ (λv=>[v]) Gb) O ?_;rintro _ w9 ⟨A',c',rfl,hT⟩;refine ak.n ?_;exact⟨f0,f3,f4,f5,p0,p1,p2,p3,p7,p8,p9,eI,A',A1,A2,B2,c',c1,c2,d2,[av 2 A' (gC qp qz).length c' (gC qp qz),av 2 A1 (qp++qz).length c1 (fb (qp++qz))],R2,T,λh=>(nomatch (bK (b8 5 _ (bK hd 5 O) O) 4 O).symm.trans h),λ_ h=>(nomatch (bK hd 5 O).symm.trans h),λ_ h=>(nomatch (show true=false from h)),λ_=>⟨O,O⟩,m11,sr,su,qQ,λh=>(nomatch n14.symm.trans h),m15,λh=>(nomatch n15.symm.trans h),hT⟩
    |7,hq,cz=>
     obtain rfl:=cn hq;have lS:St w w4 (gO P5 v2 u2::Bx 157 2 P3 T::gO P4 bI bI::X):=(hT.sub (fj _ _)).sub (fj _ _);refine auO (lS.rd 1 O) (by exact f3) O O O inferInstance (ak.n ?_);exact⟨f0,f3,f4,f5,p0,p1,p2,p3,λ_=>O,p8,p9,eI,A1,B1,A2,B2,c1,d1,c2,d2,R1,R2,T,m4,sw,sy,qR,m11,sr,su,qQ,m14,m15,y7,hT⟩
    |8,hq,cz=>
     obtain rfl:=cn hq;have n15:S 15=false:=by
      cases h:S 15 with
      |false=>rfl
      |true=>rw[<-cz];exact(bK (b8 15 _ h rfl) 8 rfl).symm
     obtain rfl:=m15 n15;have lS:St w w4 (gO P5 v2 u2::Bx 157 2 P3 [v.v,u.v]::gO P4 bI bI::X):=(hT.sub (fj _ _)).sub (fj _ _);refine auP (j:=1) (lS.rd 1 O) (by exact p7 (bK hd 7 O)) O O O O (ak.n ?_);exact⟨f0,f3,f4,f5,p0,p1,p2,p3,p7,λ_=>O,p9,eI,A1,B1,A2,B2,c1,d1,c2,d2,R1,R2,_,m4,sw,sy,qR,m11,sr,su,qQ,m14,λ_=>O,λh=>(nomatch n15.symm.trans h),hT⟩
    |9,hq,cz=>
     obtain rfl:=cn hq;have lS:St w w4 (gO P5 v2 u2::Bx 157 2 P3 T::gO P4 bI bI::X):=(hT.sub (fj _ _)).sub (fj _ _);refine auO (lS.rd 0 O) (by exact f5) O O O inferInstance (ak.n ?_);exact⟨f0,f3,f4,f5,p0,p1,p2,p3,p7,p8,λ_=>O,eI,A1,B1,A2,B2,c1,d1,c2,d2,R1,R2,T,m4,sw,sy,qR,m11,sr,su,qQ,m14,m15,y7,hT⟩
    |10,hq,cz=>
     obtain rfl:=cn hq;have lS:St w w4 (gO P5 v2 u2::Bx 157 2 P3 T::gO P4 bI bI::X):=(hT.sub (fj _ _)).sub (fj _ _);refine auP (j:=1) (lS.rd 0 O) (by exact p9 (bK hd 9 O)) O O O O (ak.n ?_);exact⟨f0,f3,f4,f5,p0,p1,p2,p3,p7,p8,p9,λ_=>O,A1,B1,A2,B2,c1,d1,c2,d2,R1,R2,T,m4,sw,sy,qR,m11,sr,su,qQ,m14,m15,y7,hT⟩
    |11,hq,cz=>
     obtain rfl:=cn hq;obtain rfl:=m11 cz;have n12:S 12=false:=by
      cases h:S 12 with
      |false=>rfl
      |true=>rw[<-cz];exact(bK (b8 12 _ h rfl) 11 rfl).symm
     have n13:S 13=false:=by
      cases h:S 13 with
      |false=>rfl
      |true=>rw[<-cz];exact(bK (b8 12 _ (bK (b8 13 _ h rfl) 12 rfl) rfl) 11 rfl).symm
     have n14:S 14=false:=by
      cases h:S 14 with
      |false=>rfl
      |true=>rw[<-cz];exact(bK (b8 12 _ (bK (b8 13 _ (bK (b8 14 _ h rfl) 13 rfl) rfl) 12 rfl) rfl) 11 rfl).symm
     have n15:S 15=false:=by
      cases h:S 15 with
      |false=>rfl
      |true=>rw[<-cz];exact(bK (b8 15 _ h rfl) 11 rfl).symm
     have hT:=hT.perm (show(R1++([]++(gO P5 v2 u2::Bx 157 2 P3 T::gO P4 bI bI::X))).Perm (R1++(gO P5 v2 u2::Bx 157 2 P3 T::gO P4 bI bI::X))from List.Perm.refl _);refine FC hT (by exact p8 (bK hd 8 O)) (by exact eI (bK hd 10 O)) O O O O ?_;intro A' w9 hT;refine ak.n ?_;exact⟨f0,f3,f4,f5,p0,p1,p2,p3,p7,p8,p9,eI,A1,B1,A',B2,c1,d1,c2,d2,R1,[aX 27 A' 2 2 [u,u2]],T,m4,sw,sy,qR,λh=>(nomatch (show true=false from h)),λ_ _=>⟨O,O⟩,λh=>(nomatch n12.symm.trans h),λh=>(nomatch n13.symm.trans h),λh=>(nomatch n14.symm.trans h),m15,λh=>(nomatch n15.symm.trans h),hT.perm (mO (l₁:=R1)).symm⟩
    |12,hq,cz=>
     obtain rfl:=cn hq;have n13:S 13=false:=by
      cases h:S 13 with
      |false=>rfl
      |true=>rw[<-cz];exact(bK (b8 13 _ h rfl) 12 rfl).symm
     have n14:S 14=false:=by
      cases h:S 14 with
      |false=>rfl
      |true=>rw[<-cz];exact(bK (b8 13 _ (bK (b8 14 _ h rfl) 13 rfl) rfl) 12 rfl).symm
     have n15:S 15=false:=by
      cases h:S 15 with
      |false=>rfl
      |true=>rw[<-cz];exact(bK (b8 15 _ h rfl) 12 rfl).symm
     obtain⟨Oe,rfl⟩:=sr (bK hd 11 rfl) cz;replace hT:=hT.perm (mO (l₁:=R1));have Ah:fu w4 A2 2 [u,u2]:=hT.dm 0 O;have xi:=YG w4 _ hT (λk hk=>by simp[hk]);have hz:=hT.dq Hx;refine auM (Iq A2 u u2 y z _ Ah xi hz ac) O (by exact aQ (λv=>[v]) Oe) O ?_;rintro _ w9 ⟨A',c',rfl,aw⟩;have hT:=(hT.tail).call aw;refine ak.n ?_;exact⟨f0,f3,f4,f5,p0,p1,p2,p3,p7,p8,p9,eI,A1,B1,A',B2,c1,d1,c',d2,R1,[av 2 A' (y++z).length c' (y++z)],T,m4,sw,sy,qR,λh=>(nomatch (bK hd 11 O).symm.trans h),λ_ h=>(nomatch (show true=false from h)),λ_ _=>⟨O,O⟩,λh=>(nomatch n13.symm.trans h),λh=>(nomatch n14.symm.trans h),m15,λh=>(nomatch n15.symm.trans h),hT.perm (mO (l₁:=R1)).symm⟩
    |13,hq,cz=>
     obtain rfl:=cn hq;have n14:S 14=false:=by
      cases h:S 14 with
      |false=>rfl
      |true=>rw[<-cz];exact(bK (b8 14 _ h rfl) 13 rfl).symm
     have n15:S 15=false:=by
      cases h:S 15 with
      |false=>rfl
      |true=>rw[<-cz];exact(bK (b8 15 _ h rfl) 13 rfl).symm
     obtain⟨Of,rfl⟩:=su (bK hd 12 rfl) cz;replace hT:=hT.perm (mO (l₁:=R1));refine auM (HQ 0 hT O (by rw[cj];omega)) O (by exact aQ (λv=>[v]) Of) O ?_;rintro _ w9 ⟨A',c',rfl,hT⟩;refine ak.n ?_;exact⟨f0,f3,f4,f5,p0,p1,p2,p3,p7,p8,p9,eI,A1,B1,A',A2,c1,d1,c',c2,R1,[av 2 A' (gC y z).length c' (gC y z),av 2 A2 (y++z).length c2 (fb (y++z))],T,m4,sw,sy,qR,λh=>(nomatch (bK (b8 12 _ (bK hd 12 O) O) 11 O).symm.trans h),λ_ h=>(nomatch (bK hd 12 O).symm.trans h),λ_ h=>(nomatch (show true=false from h)),λ_=>⟨O,O⟩,λh=>(nomatch n14.symm.trans h),m15,λh=>(nomatch n15.symm.trans h),hT.perm (aoL _ _ _ _)⟩
    |14,hq,cz=>
     obtain rfl:=cn hq;have q6:=qR (bK hd 6 O);have q13:=qQ (bK hd 13 O);refine FB aL aL O O (by exact q6.1) (by exact q13.1) O O O (ak.n ?_);exact⟨f0,f3,f4,f5,p0,p1,p2,p3,p7,p8,p9,eI,A1,B1,A2,B2,c1,d1,c2,d2,R1,R2,T,m4,sw,sy,qR,m11,sr,su,qQ,λ_=>O,m15,y7,hT⟩
    |15,hq,cz=>
     obtain rfl:=cn hq;obtain⟨rF,rfl⟩:=qR (by first|exact bK hd 6 rfl);obtain⟨D0,rfl⟩:=qQ (bK hd 13 rfl);obtain rfl:=m15 cz;refine dU 2 5 hT O (by exact f3) (by exact m14 (bK hd 14 O)) O O O O ?_;intro w9 hT;refine ak.n ?_;exact⟨f0,f3,f4,f5,p0,p1,p2,p3,p7,p8,p9,eI,A1,B1,A2,B2,c1,d1,c2,d2,_,_,_,λh=>(nomatch (bK hd 4 O).symm.trans h),λ_ h=>(nomatch (bK hd 5 O).symm.trans h),λ_ h=>(nomatch (bK hd 6 O).symm.trans h),λ_=>⟨rF,O⟩,λh=>(nomatch (bK hd 11 O).symm.trans h),λ_ h=>(nomatch (bK hd 12 O).symm.trans h),λ_ h=>(nomatch (bK hd 13 O).symm.trans h),λ_=>⟨D0,O⟩,m14,λh=>(nomatch (show true=false from h)),λ_=>O,hT⟩
    |q+16,hq,_=>exact(nomatch hq)
   ·intro S e1 w4 eA hI;obtain⟨f0,f3,f4,f5,p0,p1,p2,p3,p7,p8,p9,eI,A1,B1,A2,B2,c1,d1,c2,d2,R1,R2,T,m4,sw,sy,qR,m11,sr,su,qQ,m14,m15,y7,hT⟩:=hI;obtain⟨rF,rfl⟩:=qR (eA 6 am);obtain⟨D0,rfl⟩:=qQ (eA 13 am);obtain rfl:=y7 (eA 15 am);refine apc (F:=[(0,.map (some g)),(3,.pointer P3),(4,.pointer P4)]) ⟨f0,f3,f4,au⟩ ?_;have yN:=aby hy Hc;refine Ir O (tQ ?_);refine⟨((⟨A1,(gC qp qz).length,c1⟩,gC qp qz),(⟨A2,(gC y z).length,c2⟩,gC y z),av 2 A1 (gC qp qz).length c1 (gC qp qz)::av 2 B1 (qp++qz).length d1 (fb (qp++qz))::av 2 A2 (gC y z).length c2 (gC y z)::av 2 B2 (y++z).length d2 (fb (y++z))::gO P5 v2 u2::X),?_,(auV O),aby yG uj,yN,?_,.inr (by simp),.inr (by simp),?_⟩
    ·exact ZM kO (λe he=>⟨yN.1.2 e he,abx hy.1 Hc.1 kO ui e he⟩) h0
    ·show fF x^^^fF (gC y z)∈_;rw[Sn,<-Nat.xor_assoc];exact tE lu (nu (de.2 ⟨_,kG,O⟩))
    ·refine hT.perm ?_;show([_,_,_,_,_]++[_,_]++X).Perm ([_,_]++[_,_,_,_,_]++X);exact gL.append_right X
 ·have oA:y=[]:=iL ac;refine ba O (bc (bY O ?_));refine cG 1 ia O O O (dU 2 1 hS O O O O O O O ?_);intro w6 bk;have bk:St w w6 (gO P3 v u::gO P4 v u::X):=bk;refine bR O ?_;refine⟨P4,_,O,bk.rd 1 O,v,qp,u,y,_,O,yG,hy,lu,λt' h'=>?_,bk,Ku.imp id λh=>by simp[h],l5.imp id λh=>by simp[h]⟩;rw[oA]at h';cases h'
def jX(R:ah)(B:ag)(e:Int)(k:Nat):ah:=((gl B e).take k).filter λd=>decide (gi R d=gi R e-1)
def mR(R:ah)(B:ag)(e:Int):ah:=(gl B e).filter λd=>decide (gi R d=gi R e-1)
def gy(R:ah)(B:ag)(ch:ah):ah:=ch.flatMap (mR R B)
theorem IV{B:ag}{e:Int}{k:Nat}(h:(gl B e).length<=k):jX R B e k=mR R B e:=by unfold jX mR;rw[List.take_of_length_le h]
theorem MU(R:ah)(B:ag)(e:Int)(k:Nat):(jX R B e k).length<=k:=je (lJ _ _) (by rw[jG];omega)
theorem MT{B:ag}{e:Int}{k:Nat}(hk:k<(gl B e).length)(h:gi R (gi (gl B e) k)=gi R e-1):jX R B e (k+1)=jX R B e k++[gi (gl B e) k]:=by
 unfold jX;rw[oQ hk,mN,<-b7 hk];simp[h]
theorem MV{B:ag}{e:Int}{k:Nat}(hk:k<(gl B e).length)(h:¬gi R (gi (gl B e) k)=gi R e-1):jX R B e (k+1)=jX R B e k:=by
 unfold jX;rw[oQ hk,mN,<-b7 hk];simp[h]
theorem TI(R:ah)(B:ag)(ch:ah)(e:Int):gy R B (ch++[e])=gy R B ch++mR R B e:=by simp[gy]
structure zI(w:aa)(Pc:ai)(n:Int)(AR AB:ai)(m cR cB:Nat)(R:ah)(rs:List aE)(B:ag):Prop where
 bx:Rd w Pc 3 (λj=>[Value.int .i64 n,.slice AR m cR,.slice AB m cB].getD j undef)
 rk:bu w AR m R
 be:bH w AB m rs B
theorem zI.ao{w w':aa}{Pc:ai}{n:Int}{AR AB:ai}{m cB:Nat}{rs:List aE}{B:ag}(h:zI w Pc n AR AB m cR cB R rs B)(hb:Below w.heap.size w w'):zI w' Pc n AR AB m cR cB R rs B:=⟨Rd.below h.bx hb,h.rk.ao hb,h.be.ao hb⟩
structure vc(m:Nat)(R:ah)(B:ag):Prop where
 wA:m<=1000
 rg:∀e:Int,0<=e->e<m->(gl B e).length<=1000/\∀d∈gl B e,0<=d/\d<m
 rk:∀e:Int,0<=e->e<m-> -1000<=gi R e/\gi R e<=1000
theorem adK{m:Nat}{B:ag}(h:vc m R B){e:Int}(h0:0<=e)(h1:e<m):(mR R B e).length<=1000:=je (lJ _ _) (h.rg e h0 h1).1
theorem MS{m:Nat}{B:ag}(h:vc m R B){e:Int}(h0:0<=e)(h1:e<m):∀d∈mR R B e,0<=d/\d<m:=λd hd=>(h.rg e h0 h1).2 d (fM.1 hd).1
theorem IU{m:Nat}{R:ah}{B:ag}(h:vc m R B):∀ch:ah,(∀e∈ch,0<=e/\e<(m:Int))->(gy R B ch).length<=1000*ch.length
 |[],_=>cJ _
 |e::r,hc=>by
  have h1:=adK h (hc e (by simp)).1 (hc e (by simp)).2;have h2:=IU h r λe he=>hc e (by simp[he])
  show(mR R B e++gy R B r).length<=1000*(r.length+1);rw[cj];omega
theorem ael(Pc:ai)(n:Int)(AR AB:ai)(m cR cB:Nat)(R:ah)(rs:List aE)(B:ag)(Ac:ai)(nc cc:Nat)(ch:ah)(w:aa)(hP:zI w Pc n AR AB m cR cB R rs B)(hO:vc m R B)(hC:bu w Ac nc ch)(hn:nc<=1000)(tc:∀e∈ch,0<=e/\e<(m:Int)):
 aF prog 161 [.pointer Pc,.slice Ac nc cc] w (λv w'=>∃A' c' Y,v=.slice A' (gv (fb (gy R B ch))).length c'/\St w w' (av 2 A' (gv (fb (gy R B ch))).length c' (gv (fb (gy R B ch)))::Y)):=by
 have b8:=hC.1;have hm:=hO.wA;have ov:=hP.be.len;have bT:=hP.rk.1;refine bn func161 O ntmps161 O (bM O) ?_;refine aY O (aR O O (ay O ?_));refine Cd.loop (α:=Nat×(ai×Nat)) (λz=>[(0,.pointer Pc),(5,.slice z.2.1 (gy R B (ch.take z.1)).length z.2.2),(10,.slice Ac nc cc),(11,aj nc),(12,aj (z.1:Int))]) (λz w'=>z.1<=nc/\St w w' [av 2 z.2.1 (gy R B (ch.take z.1)).length z.2.2 (gy R B (ch.take z.1))]) (λz=>nc-z.1) (0,(none,0)) (auV O) ⟨bl _,(St.refl w).nil 2⟩ ?_;rintro⟨i,⟨A5,c5⟩⟩ e w1 ⟨hi,hS⟩;dsimp only at hi hS|-;refine bC O (aK _ O (λh1=>?_) (λh1=>?_))
 ·have fY:i<nc:=by omega
  have Oy:=hS.dq hC;have iH:=hP.ao hS.below;have AG:=tc _ (gi_in (out:=ch) (i:=i) ac);have pB:=IU hO (ch.take i) λe he=>tc e (List.mem_of_mem_take he)
  rw[jG]at pB;have kH:gy R B (ch.take (i+1))=gy R B (ch.take i)++mR R B (gi ch i):=by rw[lG (by omega),TI]
  refine aC O (aA Oy.2 O (bg Oy O ?_));generalize gi ch i=el at*;have nj:=iH.be.at_ (i:=el) AG.1 AG.2;have auw:=nj.1;have um:=hO.rg el AG.1 AG.2;have X7:=hO.rk el AG.1 AG.2;refine aq O (dX iH.bx (Nat.succ_pos _) O O (aS iH.bx O (a6 iH.bx O (aq O (aA iH.be.top.2 O (bw iH.be.top O ?_))))));clear iH nj Oy;refine aR O O (ay O ?_);refine Cd.loop (α:=Nat×(ai×Nat)) (λz=>[(0,.pointer Pc),(5,.slice z.2.1 (gy R B (ch.take i)++jX R B el z.1).length z.2.2),(7,aj el),(10,.slice Ac nc cc),(11,aj nc),(12,aj i),(22,.slice (rg rs el).a (rg rs el).n (rg rs el).c),(23,aj ((rg rs el).n:Int)),(24,aj (z.1:Int))]) (λz w'=>z.1<=(rg rs el).n/\St w w' [av 2 z.2.1 (gy R B (ch.take i)++jX R B el z.1).length z.2.2 (gy R B (ch.take i)++jX R B el z.1)]) (λz=>(rg rs el).n-z.1) (0,(A5,c5)) ⟨O,by show Value.slice _ _ _=.slice A5 (gy R B (ch.take i)++[]).length c5;rw[dQ],O,O,O,O,O,O,O,au⟩ ⟨bl _,by show St w w1 [av 2 A5 (gy R B (ch.take i)++[]).length c5 (gy R B (ch.take i)++[])];rw[dQ];exact hS⟩ ?_;clear hS;rintro⟨k,⟨A5,c5⟩⟩ e w2 ⟨hk,hS⟩;dsimp only at hk hS|-;have qG:=MU R B el k;have oz:(gy R B (ch.take i)++jX R B el k).length<=1001000:=by rw[cj];omega
  refine bC O (aK _ O (λh2=>?_) (λh2=>?_))
  ·have fU:k<(gl B el).length:=by omega
   have pC:=hP.ao hS.below;have C0:=pC.be.at_ (i:=el) AG.1 AG.2;have hd:=um.2 _ (gi_in (out:=gl B el) (i:=k) fU);have gI:=hO.rk _ hd.1 hd.2;have Pw:=MT (R:=R) (B:=B) (e:=el) fU;have Kr:=MV (R:=R) (B:=B) (e:=el) fU;refine aC O (aA C0.2 O (bg C0 O ?_));generalize gi (gl B el) k=dd at*;have gH:=pC.bx;have e6:=pC.rk;refine ay O (ec [xP (Pc),xP (Pc),xP (aH (Pc) 1),xS (AR) (m) (cR),xI (dd),xP (aH (AR) (dd).toNat),xI (gi (R) (dd)),xP (Pc),xP (Pc),xP (aH (Pc) 1),xS (AR) (m) (cR),xI (el),xP (aH (AR) (el).toNat),xI (gi (R) (el)),xI ((gi (R) (el))-((1:Int))),xB (decide ((gi (R) (dd))=((gi (R) (el))-((1:Int)))))] O (eK O) ?_ ?_)
   ·exact⟨Dr O,λ_ _ hb _ _=>dX (gH.below hb) (Nat.succ_pos _) O O Az,λ_ _ hb _ _=>aS (gH.below hb) O Az,λ_ _ hb _ _=>a6 (gH.below hb) O Az,Dr O,λ_ _ hb _ _=>aA (e6.ao hb).2 O Az,λ_ _ hb _ _=>bg (e6.ao hb) O Az,Dr O,λ_ _ hb _ _=>dX (gH.below hb) (Nat.succ_pos _) O O Az,λ_ _ hb _ _=>aS (gH.below hb) O Az,λ_ _ hb _ _=>a6 (gH.below hb) O Az,Dr O,λ_ _ hb _ _=>aA (e6.ao hb).2 O Az,λ_ _ hb _ _=>bg (e6.ao hb) O Az,λ_ _ _ _ _=>cV O Az,Dr O,au⟩
   intro u w3 ji _;replace hS:=hS.ao ji;refine fG O (aK _ O (λh3=>?_) (λh3=>?_))
   ·have hh:=Pw h3;refine aC O (eh hS O O O ?_);intro Mi w4 aU;refine eQ 1 aU O (aU.bF 0 O) O O O λzx zO w5 aO=>aq O (aJ O (aN O (tQ ?_)));exact⟨(k+1,(zx,zO)),by show(rg rs el).n-(k+1)<(rg rs el).n-k;omega,⟨O,by show Value.slice _ _ _=.slice zx (gy R B (ch.take i)++jX R B el (k+1)).length zO;rw[hh,<-ef,cj (bs:=[dd])];rfl,O,O,O,O,O,O,aQ (Value.int .i64) ac,au⟩,by show k+1<=_;omega,by
     show St w w5 [av 2 zx (gy R B (ch.take i)++jX R B el (k+1)).length zO (gy R B (ch.take i)++jX R B el (k+1))];rw[hh,<-ef,cj (bs:=[dd])];exact aO.tail⟩
   have hh:=Kr h3;refine aC O (aJ O (aN O (tQ ?_)));exact⟨(k+1,(A5,c5)),by show(rg rs el).n-(k+1)<(rg rs el).n-k;omega,⟨O,by show Value.slice _ _ _=.slice A5 (gy R B (ch.take i)++jX R B el (k+1)).length c5;rw[hh],O,O,O,O,O,O,aQ (Value.int .i64) ac,au⟩,by show k+1<=_;omega,by
    show St w w3 [av 2 A5 (gy R B (ch.take i)++jX R B el (k+1)).length c5 (gy R B (ch.take i)++jX R B el (k+1))];rw[hh];exact hS⟩
  rw[IV (by omega),<-kH]at hS;rw[IV (by omega),<-kH];refine ba O (bc (bY O (aJ O (aN O (tQ ?_)))));exact⟨(i+1,(A5,c5)),by show nc-(i+1)<nc-i;omega,⟨O,O,O,O,aQ (Value.int .i64) ac,au⟩,by show i+1<=nc;omega,hS⟩
 obtain rfl:i=nc:=by omega
 rw[jw (by omega)]at hS|-;have pB:=IU hO ch tc;refine ba O (bc (bY O ?_));refine aI (HQ 0 hS O ac) O ?_;rintro _ w2 ⟨A',c',rfl,hT⟩;refine bR O (dV O ?_);exact⟨A',c',_,O,hT⟩
def Dm(R:ah)(B:ag)(i:Int):List Nat:=(uF R i).map λe=>fF (mR R B e)
theorem amn{M:List KF}{L:List Nat}(hk:(M.map (·.1)).Nodup)(hM:∀p∈M,Ms b p)(h:jD (zu M) L):tI L M.length:=by
 have h1:=Y8 (M:=M.map λp=>((p.1,p.2.2):KE)) (b:=b) (L:=L) (by rw[List.map_map];exact hk) (λp hp=>by
  obtain⟨q,hq,rfl⟩:=de.1 hp;exact(hM q hq).2) (by unfold sK;rw[List.map_map];exact h)
 rwa[jd]at h1
theorem ahg{M:List KF}(h:dh M t=none):t∉M.map (·.1):=λhm=>by
 obtain⟨p,hp,e⟩:=de.1 hm;exact F5 h p hp e
theorem amq{M:List KF}{p:KF}(h:(M.map (·.1)).Nodup)(hp:p.1∉M.map (·.1)):((M++[p]).map (·.1)).Nodup:=by
 rw[iE,List.nodup_append];refine⟨h,by simp,λa ha b hb e=>hp ?_⟩;obtain rfl:b=p.1:=by simpa using hb
 rw[<-e];exact ha
theorem aoK{α:Type}(a:α)(b:α)(X Z Y:List α):(b::(X++(Z++(a::Y)))).Perm (a::(b::((X++Z)++Y))):=by
 have e1:b::(X++(Z++(a::Y)))=(b::(X++Z))++a::Y:=by simp
 have e2:a::(b::((X++Z)++Y))=a::((b::(X++Z))++Y):=by simp
 rw[e1,e2];exact mO
abbrev Fu(g:Nat)(M:List KF):Ck:=fc 122 g (dZ (Value.int .i64) LA M)
theorem adL{m:Nat}{B:ag}(h:vc m R B){e:Int}(h0:0<=e)(h1:e<m):tJ m (gv (fb (gy R B [e])))/\fF (gv (fb (gy R B [e])))=fF (mR R B e):=by
 have e0:gy R B [e]=mR R B e:=by simp[gy]
 obtain⟨a,b,c⟩:=Di _ _ rfl (BI (gy R B [e]));rw[e0]at a b c|-;have cE:∀x∈gv (fb (mR R B e)),0<=x/\x<(m:Int):=λx hx=>MS h h0 h1 x ((tD _).subset (b x hx))
 exact⟨⟨⟨a,λx hx=>(cE x hx).1⟩,λx hx=>(cE x hx).2⟩,c.trans (QZ (tD _))⟩
theorem amm(Pc:ai)(n:Int)(AR AB:ai)(m cR cB:Nat)(R:ah)(rs:List aE)(B:ag)(i:Int)(w:aa)(hP:zI w Pc n AR AB m cR cB R rs B)(hO:vc m R B):
 aF prog 113 [.pointer Pc,aj i] w (λv w'=>∃g iP,v=.map (some g)/\mQ w' g iP/\iP.length<=1000/\tI (Dm R B i) iP.length/\St w w' []):=by
 have hm:=hO.wA;have bT:=hP.rk.1;have ui:=hP.rk.1;refine bn func113 O ntmps113 O (bM O) (aY O (wc (St.refl w) O ?_));intro g w1 ax;have iH:=hP.ao ax.below;refine aq O (dX iH.bx (Nat.succ_pos _) O O (aS iH.bx O (a6 iH.bx O (aq O (aI (aau AR m cR R i w1 iH.rk ac) O ?_)))));rintro _ w2 ⟨gK,mU,rfl,aw⟩;have az:St w w2 (Fu g []::[av 2 gK (uF R i).length mU (uF R i)]):=(ax.call aw).swap;have hNm:∀e∈uF R i,0<=e/\e<(m:Int):=λe he=>by have:=(Rm.1 he).1;rw[bT]at this;exact this
 have yi:(uF R i).length<=m:=je (lJ _ _) (by rw[b6,jd,od];omega);have e6:Dm R B i=(uF R i).map λe=>fF (mR R B e):=O
 generalize uF R i=N at*;clear ax iH aw;refine aR O O (ay O ?_);refine Cd.loop (α:=Nat×List KF×List Ck) (λz=>[(0,.pointer Pc),(5,.map (some g)),(15,.slice gK N.length mU),(16,aj (N.length:Int)),(17,aj (z.1:Int))]) (λz w'=>z.1<=N.length/\z.2.1.length<=z.1/\(∀p∈z.2.1,Ms m p/\av 2 p.2.1.1.a p.2.1.1.n p.2.1.1.c p.2.1.2∈z.2.2/\av 2 p.2.2.1.a p.2.2.1.n p.2.2.1.c p.2.2.2∈z.2.2)/\(z.2.1.map (·.1)).Nodup/\jD (zu z.2.1) ((N.take z.1).map λe=>fF (mR R B e))/\av 2 gK N.length mU N∈z.2.2/\St w w' (Fu g z.2.1::z.2.2)) (λz=>N.length-z.1) (0,[],[av 2 gK N.length mU N]) ⟨rfl,rfl,rfl,rfl,rfl,au⟩ ⟨bl _,bl _,(λ_ h=>by cases h),List.Pairwise.nil,jD.refl _,List.mem_cons_self,az⟩ ?_;clear az;rintro⟨j,M,Y⟩ e w3 ⟨hj,hMj,hM,yh,hE,cE,hS⟩;dsimp only at hj hMj hM yh hE cE hS|-;refine bC O (aK _ O (λh1=>?_) (λh1=>?_))
 ·have lV:j<N.length:=by omega
  have OY:=sA hS (fE _ cE);have GK:=hNm _ (gi_in (out:=N) (i:=j) lV);have kH:(N.take (j+1)).map (λe=>fF (mR R B e))=(N.take j).map (λe=>fF (mR R B e))++[fF (mR R B (gi N j))]:=by rw[lG lV,iE];rfl
  refine aC O (aA OY.2 O (bg OY O ?_));generalize gi N j=el at*;obtain⟨uv,CG⟩:=adL hO GK.1 GK.2;clear OY;refine aq O (eh hS O O O ?_);intro vV w4 aU;refine aq O (eh aU O O O ?_);intro rb w5 aO;refine auM (ael Pc n AR AB m cR cB R rs B rb 1 1 [el] w5 (hP.ao aO.below) hO (aO.bF 0 rfl) ac (λe he=>by obtain rfl:=eX.1 he;exact GK)) rfl rfl rfl ?_;rintro _ w6 ⟨re,rz,Y1,rfl,aw⟩;generalize gv (fb (gy R B [el]))=x0 at*;have bk:St w w6 ((av 2 re x0.length rz x0::(Y1++[av 2 rb 1 1 [el],av 2 vV 1 1 [el]]))++(Fu g M::Y)):=by
   have:=aO.call aw;simpa using this
  clear aO aU hS aw;refine FB aL aL O O O O O O O ?_;have JO:=bk.sub (fj _ _);have JG:av 2 vV 1 1 [el]∈(av 2 re x0.length rz x0::(Y1++[av 2 rb 1 1 [el],av 2 vV 1 1 [el]])):=by simp
  have F8:av 2 re x0.length rz x0∈(av 2 re x0.length rz x0::(Y1++[av 2 rb 1 1 [el],av 2 vV 1 1 [el]])):=List.mem_cons_self;generalize av 2 re x0.length rz x0::(Y1++[av 2 rb 1 1 [el],av 2 vV 1 1 [el]])=Z0 at*;refine auM (apI g M ⟨vV,1,1⟩ ⟨re,x0.length,rz⟩ [el] x0 m _ (JO.oH 0 rfl) (λp hp=>⟨⟨sA JO (fE _ (hM p hp).2.1),sA JO (fE _ (hM p hp).2.2)⟩,(hM p hp).1⟩) (sA bk (List.mem_append_left _ JG)) ⟨⟨List.pairwise_singleton _ _,λe he=>by obtain rfl:=eX.1 he;exact GK.1⟩,λe he=>by obtain rfl:=eX.1 he;exact GK.2⟩ (sA bk (List.mem_append_left _ F8)) uv ac) rfl rfl rfl ?_;rintro _ w7 ⟨nT,xF,s',x',X,rfl,ale,jT,lu,fI,aw,ako,l5⟩;have bp:=bk.call aw;refine kM bp O λA8 w8 bB=>dU 2 0 bB O O O O O O O ?_;intro w9 bj;have bj:St w w9 (gO A8 nT s'::(X++(Z0++(Fu g M::Y)))):=bj;have h0m:av 2 nT.a nT.n nT.c xF∈X++Z0:=by
   rcases ako with⟨rfl,rfl⟩|h
   ·exact List.mem_append_right _ JG
   exact List.mem_append_left _ h
  have pS:av 2 s'.a s'.n s'.c x'∈X++Z0:=by
   rcases l5 with⟨rfl,rfl⟩|h
   ·exact List.mem_append_right _ F8
   exact List.mem_append_left _ h
  have J0:=bj.perm (aoK _ _ _ _ _);generalize X++Z0=Z at*;clear bj bB bp bk JO aw;have hZ:∀q∈Z,q∈gO A8 nT s'::(Z++Y):=λq hq=>fE _ (List.mem_append_left _ hq)
  have vq:∀q∈Y,q∈gO A8 nT s'::(Z++Y):=λq hq=>fE _ (List.mem_append_right _ hq)
  have Cs:=J0.rd 1 O;have C4:=sA J0 (fE _ (hZ _ pS));have cT:=C4.1;have Qt:=jT.1.len jT.2;generalize hZY:gO A8 nT s'::(Z++Y)=ZY at*;rw[CG]at lu;refine aq O (aS Cs O (a6 Cs O ?_));refine aR O O (ay O ?_);refine aK _ O (λh4=>?_) (λh4=>?_)
  ·obtain⟨k,hk⟩:∃k,x'.length=k+1:=⟨x'.length-1,ac⟩;have kO:=HE hk;have e1:((s'.n:Int)-1)=(k:Int):=by omega
   have EC:=fI _ kO;refine iu [10] [.ex (.map (some g)),yP (aH (A8) 1),yS (s'.a) (s'.n) (s'.c),yP (aH (A8) 1),yS (s'.a) (s'.n) (s'.c),yI (((s'.n:Nat):Int)),yI ((((s'.n:Nat):Int))-((1:Int))),yP (aH s'.a ((s'.n:Int)-1).toNat),yI (gi x' ((s'.n:Int)-1)),.ex (.agg #[.slice (nT.a) (nT.n) (nT.c),.slice (s'.a) (s'.n) (s'.c)]),.pr (λ_ w'=>St w w' (Fu g (gh M (gi x' ((s'.n:Int)-1)) ((nT,xF),(s',x')))::ZY))] (ly (ly (ly (ly (ly (ly (ly (ly (ly (ly (bV.2 ⟨Ye.bW (λv w w' h hb=>h.ao hb),(λ_ h=>by cases h)⟩))))))))))) ?_ ?_
   ·refine⟨bP O,cP λ_ _ hb _ _ _=>aS (Cs.below hb) O (bA O O),cP λ_ _ hb _ _ _=>a6 (Cs.below hb) O (bA O O),cP λ_ _ hb _ _ _=>aS (Cs.below hb) O (bA O O),cP λ_ _ hb _ _ _=>a6 (Cs.below hb) O (bA O O),aP λ_ _=>aR O O (bA O O),aP λ_ _=>cV O (bA O O),cP λ_ _ hb _ _ _=>auJ (i:=(s'.n:Int)-1) (C4.ao hb).2 O O O ac ac (bA O O),cP λ_ _ hb _ _ _=>auK (i:=(s'.n:Int)-1) (C4.ao hb) O ac O O (bA O O),cP λ_ _ hb _ _ _=>cG 1 (Cs.below hb) O O O (bA O O),?_,au⟩;refine iF λe1 w1 hb hp aW hq=>?_
    exact tL O vI 0 (u:=((nT,xF),(s',x'))) (a:=gi x' ((s'.n:Int)-1)) (J0.ao hb) O O O O λw9 bj=>ak.n (dS.st O bj)
   intro _ jm _ hu _ _;have hT:=hu 10 _ O an;rw[e1,Rw (F5 EC)]at hT;generalize gi x' k=t at*;refine gq O (aJ O (aN O (tQ ?_)));refine⟨(j+1,M++[(t,((nT,xF),(s',x')))],ZY),by show N.length-(j+1)<N.length-j;omega,⟨O,O,O,O,aQ (Value.int .i64) ac,au⟩,by show j+1<=N.length;omega,by show(M++[_]).length<=j+1;simp;omega,λp hp=>?_,amq yh (ahg EC),?_,vq _ cE,hT⟩
   ·rcases dF.1 hp with hp|hp
    ·exact⟨(hM p hp).1,vq _ (hM p hp).2.1,vq _ (hM p hp).2.2⟩
    obtain rfl:=eX.1 hp;exact⟨⟨ale,jT,kO⟩,hZ _ h0m,hZ _ pS⟩
   show jD (zu (M++[_])) ((N.take (j+1)).map _);rw[show zu (M++[(t,((nT,xF),(s',x')))])=zu M++[fF x'] by simp[zu],kH];exact UH hE lu
  have oA:x'=[]:=iL ac;rw[oA,ZL,Nat.xor_zero]at lu;refine aC O (aJ O (aN O (tQ ?_)));exact⟨(j+1,M,ZY),by show N.length-(j+1)<N.length-j;omega,⟨O,O,O,O,aQ (Value.int .i64) ac,au⟩,by show j+1<=N.length;omega,by show M.length<=j+1;omega,λp hp=>⟨(hM p hp).1,vq _ (hM p hp).2.1,vq _ (hM p hp).2.2⟩,yh,by show jD (zu M) ((N.take (j+1)).map _);rw[kH];exact UG hE lu,vq _ cE,J0⟩
 rw[jw (show N.length<=j by omega)]at hE;refine ba O (bc (ew O ?_));refine LF O ⟨g,_,O,hS.oH 0 O,?_,?_,hS.none⟩
 ·simp[dZ];omega
 rw[show(dZ (Value.int .i64) LA M).length=M.length by simp[dZ],e6];exact amn yh (λp hp=>(hM p hp).1) hE
end Go.Proofs.YtimbpgackifflaaGreatDoor.Vc
namespace Go.Proofs.YtimbpgackifflaaGreatDoor.Vc
open Go.RowKit Go.MapKept Tryz
theorem U8:∀{a b:List MapEntry},r8 a=r8 b->a=b
 |[],[],_=>rfl
 |[],_::_,h=>by simp[r8]at h
 |_::_,[],h=>by simp[r8]at h
 |⟨k,v,s⟩::a,⟨k',v',s'⟩::b,h=>by
  simp only[r8,List.cons.injEq,Value.int.injEq,true_and]at h;obtain⟨rfl,rfl,h1,h2⟩:=h;obtain rfl:s=s':=by omega
  rw[U8 h2]
theorem abz:∀{a b:List Nat},(a.map λb:Nat=>Value.int .i64 (b:Int))=b.map (λb:Nat=>Value.int .i64 (b:Int))->a=b
 |[],[],_=>rfl
 |[],_::_,h=>by simp at h
 |_::_,[],h=>by simp at h
 |x::a,y::b,h=>by
  simp only[List.map_cons,List.cons.injEq,Value.int.injEq,true_and]at h;obtain⟨h1,h2⟩:=h;obtain rfl:x=y:=by omega
  rw[abz h2]
def zD(t:ad)(g:Nat)(es:List MapEntry)(cl:Nat):Ck:=⟨some ⟨g,0,none⟩,0,0,t,.tuple #[aj cl]::r8 es⟩
def sM(t:ad)(r bm since:Nat)(seen:List Nat):Ck:=⟨some ⟨r,0,none⟩,0,0,t,.tuple #[.map (some bm),aj since]::seen.map λb:Nat=>aj b⟩
def QF(es:List MapEntry):List (ab×ab):=es.map λe=>(e.key,e.val)
section
variable {w0 w w':aa}{ks:List Ck}{t:ad}{g bm since cl:Nat}{es:List MapEntry}{seen:List Nat}{iP:List (ab×ab)}
theorem St.Rf(h:St w0 w ks)(i:Nat)(hk:ks[i]?=some (zD t g es cl)):w0.heap.size<=g/\w.heap[g]?=some (.map es.toArray cl)/\uA es.toArray cl:=by
 rcases(h.get hk).cases with⟨_,_,_,g',o,hA,hg,hh,hv⟩|⟨hm,_⟩
 ·have hA:some (⟨g,0,Option.none⟩:Addr)=some ⟨g',0,Option.none⟩:=hA;simp only[oh,Addr.mk.injEq,and_true]at hA;subst hA
  match o,hh,hv with
  | .map r6 wu,hh,⟨hw,.inl hv⟩=>
   have hv:(.tuple #[aj cl]::r8 es:List ab)=.tuple #[]::r7 (r6.toList.map λe=>(e.key,e.val)):=hv;simp at hv
  | .map r6 wu,hh,⟨hw,.inr hv⟩=>
   have hv:(.tuple #[aj cl]::r8 es:List ab)=.tuple #[aj wu]::r8 r6.toList:=hv;obtain⟨h1,h2⟩:=List.cons.inj hv;have h3:(cl:Int)=wu:=by simpa using h1
   obtain rfl:cl=wu:=by omega
   obtain rfl:=U8 h2;exact⟨hg,hh,hw⟩
  | .mapIter m since seen c0,hh,⟨_,bm,_,hv⟩=>
   have hv:(.tuple #[aj cl]::r8 es:List ab)=.tuple #[.map (some bm),aj since]::_:=hv;simp at hv
 ·cases hm
theorem St.aai{r:Nat}(h:St w0 w ks)(i:Nat)(hk:ks[i]?=some (sM t r bm since seen)):w0.heap.size<=r/\w.heap[r]?=some (.mapIter (some bm) since seen.toArray since):=by
 rcases(h.get hk).cases with⟨_,_,_,g',o,hA,hg,hh,hv⟩|⟨hm,_⟩
 ·have hA:some (⟨r,0,Option.none⟩:Addr)=some ⟨g',0,Option.none⟩:=hA;simp only[oh,Addr.mk.injEq,and_true]at hA;subst hA
  match o,hh,hv with
  | .map r6 wu,hh,⟨hw,.inl hv⟩=>
   have hv:(.tuple #[.map (some bm),aj since]::seen.map (λb:Nat=>aj b):List ab)=.tuple #[]::r7 (r6.toList.map λe=>(e.key,e.val)):=hv;simp at hv
  | .map r6 wu,hh,⟨hw,.inr hv⟩=>
   have hv:(.tuple #[.map (some bm),aj since]::seen.map (λb:Nat=>aj b):List ab)=.tuple #[aj wu]::r8 r6.toList:=hv;simp at hv
  | .mapIter m Sc aqt c0,hh,⟨hc,TW,hm,hv⟩=>
   have hv:(.tuple #[.map (some bm),aj since]::seen.map (λb:Nat=>aj b):List ab)=.tuple #[.map (some TW),aj Sc]::aqt.toList.map (λb:Nat=>aj b):=hv;obtain⟨h1,h2⟩:=List.cons.inj hv;have h3:bm=TW/\(since:Int)=Sc:=by simpa using h1
   obtain rfl:=h3.1;obtain rfl:since=Sc:=by omega
   obtain rfl:=abz h2;subst hm;subst hc;exact⟨hg,hh⟩
 ·cases hm
theorem ahs(w:aa)(g:Nat):DB w w (some g):=⟨⟨rfl,rfl,rfl,cJ _,λ_ _ _=>rfl⟩,cJ _⟩
theorem St.toN(h:St w0 w ks)(i:Nat)(hk:ks[i]?=some (fc t g iP)):∃es cl,QF es=iP/\uA es.toArray cl/\St w0 w (ks.set i (zD t g es cl)):=by
 obtain⟨hg,es,cl,hh,Kn,qN⟩:=h.Lo i hk;refine⟨es.toList,cl,Kn,qN,h.turn (k:=fc t g iP) (k':=zD t g es.toList cl) (g:=g) hk O O (ahs w g) ?_⟩;exact .ofM O ⟨O,O,g,_,O,hg,hh,qN,.inr O⟩
theorem St.adu(h:St w0 w ks)(T:ad)(bm since:Nat):St w0 (w.alloc (.mapIter (some bm) since #[] since)) (sM T w.heap.size bm since []::ks):=by
 have hb:Below w.heap.size w (w.alloc (.mapIter (some bm) since #[] since)):=(Below.refl _ _).alloc (cJ _) _;have h1:=h.ao hb;refine⟨h1.below,λk hk=>?_,?_⟩
 ·rcases gW.1 hk with rfl|hk
  ·exact .ofM O ⟨O,O,_,_,O,h.below.size,heap_alloc_new w _,O,bm,O,O⟩
  exact h1.own k hk
 simp only[List.filterMap_cons,sM,Ck.iv,Option.map_some,mj];refine⟨λcE=>?_,h.apart⟩;obtain⟨k',fU,vw⟩:=List.mem_filterMap.1 cE;have:=((h.own k' fU).lt vw).2;omega
def rP(es:List MapEntry)(seen:List Nat):List MapEntry:=es.filter λe=>!seen.contains e.born
theorem Zw(es:List MapEntry)(seen:List Nat):(leftOf es.toArray seen.toArray).toList=rP es seen:=by
 unfold leftOf rP;simp
theorem St.an7{P:Program}{r:Nat}{T:ad}(h:St w0 w ks)(i j:Nat)(hi:ks[i]?=some (zD t g es cl))(hj:ks[j]?=some (sM T r g cl seen))(ty:ad):(rP es seen=[]/\(Instr.next (.pointer (some ⟨r,0,Option.none⟩)) false ty).run P w=.ok (.tuple #[.bool false]) w)\/
 ∃x∈rP es seen,∃w',(Instr.next (.pointer (some ⟨r,0,Option.none⟩)) false ty).run P w=.ok (.tuple #[.bool true,x.key,x.val]) w'/\St w0 w' (ks.set j (sM T r g cl (seen++[x.born]))):=by
 obtain⟨hg,hh,qN⟩:=h.Rf i hi;obtain⟨hr,tl⟩:=h.aai j hj;rcases run_next_at (P:=P) w ty r g cl cl seen.toArray es.toArray cl tl hh qN.1 (cJ _)with⟨h0,h1⟩|⟨x,hx,w1,YA,jI⟩
 ·refine .inl ⟨?_,h1⟩;rw[<-Zw];exact List.length_eq_zero_iff.1 (by simpa using h0)
 rw[Zw]at hx;refine .inr ⟨x,hx,_,jI,?_⟩;have h1:St w0 w1 ks:=by
  rcases YA with rfl|rfl
  ·exact h
  exact h.drew
 have X9:w1.heap[r]?=some (.mapIter (some g) cl seen.toArray cl):=by
  rcases YA with rfl|rfl
  ·exact tl
  exact tl
 refine h1.turn (k:=sM T r g cl seen) (k':=sM T r g cl (seen++[x.born])) (g:=r) hj O O ⟨⟨O,O,O,by simp[ChangeMaps.setBlock],λy _ hy=>?_⟩,cJ _⟩ ?_
 ·exact(heap_set X9).2 y λe=>hy (by rw[e])
 refine .ofM O ⟨O,O,r,_,O,hr,(heap_set X9).1,O,g,O,?_⟩;simp[sM]
end
section
variable{t kt et T:ad}{cl:Nat}
variable {P:Program}{N:Nat}{ops:Array Oper}{K:Env->aa->Prop}{rest:List Oper}{e:Env}{w0 w w':aa}{ks:List Ck}{d:Nat}{ty:ad}{pos:String}{af:Array Edge}
theorem acX[hU:bJ P t (.map kt et)]{m:ae}{g:Nat}{iP:List (ab×ab)}(i:Nat)(T2:ad)(hS:St w0 w ks)(hi:ks[i]?=some (fc T g iP))(hm:ev e m=.map (some g))(hb:Nat.blt d N=true)(hK:∀r es cl w',QF es=iP->uA es.toArray cl->St w0 w' (sM T2 r g cl []::ks.set i (zD T g es cl))->ak P N ops K rest (bE e d (.pointer (some ⟨r,0,none⟩))) w'):
 ak P N ops K (⟨some d,.range t m,ty,pos,af,none⟩::rest) e w:=by
 obtain⟨es,cl,h1,h2,h3⟩:=hS.toN i hi;have dH:i<ks.length:=(iD.1 hi).1;obtain⟨_,hh,_⟩:=h3.Rf i (t:=T) (g:=g) (es:=es) (cl:=cl) (by rw[List.getElem?_set_self dH]);obtain⟨k',e',hu⟩:∃k' e',P.underlying t=some (.map k' e'):=⟨kt,et,hU.out⟩;have hr:=run_range_map (P:=P) w t k' e' g es.toArray cl hu hh;refine .val (w':=w.alloc (.mapIter (some g) cl #[] cl)) ?_ hb (hK _ es cl _ h1 h2 (h3.adu T2 g cl));simp[execOp,hm,hr]
theorem acW{x:ae}{r g:Nat}{es:List MapEntry}{seen:List Nat}(i j:Nat)(hS:St w0 w ks)(hi:ks[i]?=some (zD t g es cl))(hj:ks[j]?=some (sM T r g cl seen))(hx:ev e x=.pointer (some ⟨r,0,none⟩))(hb:Nat.blt d N=true)(h0:rP es seen=[]->ak P N ops K rest (bE e d (.tuple #[.bool false])) w)(h1:∀y w',y∈rP es seen->St w0 w' (ks.set j (sM T r g cl (seen++[y.born])))->ak P N ops K rest (bE e d (.tuple #[.bool true,y.key,y.val])) w'):
 ak P N ops K (⟨some d,.next x false,ty,pos,af,none⟩::rest) e w:=by
 rcases hS.an7 (P:=P) i j hi hj ty with⟨hl,hr⟩|⟨y,hy,w',hr,mu⟩
 ·refine .val (w':=w) ?_ hb (h0 hl);simp only[execOp,hx];simp[hr,Result.andThen]
 refine .val (w':=w') ?_ hb (h1 y w' hy mu);simp only[execOp,hx];simp[hr,Result.andThen]
theorem acN{x:ae}{r g:Nat}{es:List MapEntry}{seen:List Nat}{y:MapEntry}(i j:Nat)(hS:St w0 w ks)(hi:ks[i]?=some (zD t g es cl))(hj:ks[j]?=some (sM T r g cl (seen++[y.born])))(hy:y∈es)(hx:ev e x=.pointer (some ⟨r,0,none⟩))(hb:Nat.blt d N=true)(hK:ak P N ops K rest (bE e d (.tuple #[y.key,y.val])) w):
 ak P N ops K (⟨some d,.entry x,ty,pos,af,none⟩::rest) e w:=by
 obtain⟨hg,hh,qN⟩:=hS.Rf i hi;obtain⟨hr,tl⟩:=hS.aai j hj;have akF:w.heap[r]?=some (.mapIter (some g) cl (seen.toArray.push y.born) cl):=by rw[tl];simp
 have jI:=run_entry_at (P:=P) w r g cl seen.toArray es.toArray cl y akF hh (by simpa using hy) qN.2;refine .val (w':=w) ?_ hb hK;simp only[execOp,hx];simp[jI,Result.andThen]
end
end Go.Proofs.YtimbpgackifflaaGreatDoor.Vc
namespace Go.Proofs.YtimbpgackifflaaGreatDoor.Vc
open Go.RowKit Tryz
variable{seen l:List Nat}{j:Nat}{R ch:ah}{u:Int}
theorem anv{es:List MapEntry}{y:MapEntry}(h:y∈rP es seen):(rP es (seen++[y.born])).length<(rP es seen).length:=by
 have e:rP es (seen++[y.born])=(rP es seen).filter λe=>e.born !=y.born:=by
  unfold rP;rw[List.filter_filter]
  congr 1
  funext e
  by_cases h1:e.born=y.born<;>by_cases h2:e.born∈seen<;>simp[h1,h2,bne]
 rw[e];exact List.length_filter_lt_length_iff_exists.2 ⟨y,h,by simp⟩
theorem anu{es:List MapEntry}{y:MapEntry}(h:y∈rP es seen):y∈es:=(fM.1 h).1
theorem anw{es:List MapEntry}{y:MapEntry}(h:rP es seen=[])(hy:y∈es):y.born∈seen:=by
 have:=List.filter_eq_nil_iff.1 h y hy;simpa using this
theorem aoa(h:l.Nodup){i a:Nat}(h1:l[i]?=some a)(h2:l[j]?=some a):i=j:=by
 obtain⟨a1,b1⟩:=iD.1 h1;obtain⟨a2,b2⟩:=iD.1 h2;exact(List.getElem_inj h).1 (b1.trans b2.symm)
theorem aeh{es:List MapEntry}(hn:(es.map (·.born)).Nodup){y z:MapEntry}(hy:y∈es)(hz:z∈es)(h:z.born=y.born):z=y:=by
 obtain⟨i,hi⟩:=List.mem_iff_getElem?.1 hy;obtain⟨j,hj⟩:=List.mem_iff_getElem?.1 hz;obtain rfl:i=j:=aoa hn (a:=y.born) (by simp[hi]) (by simp[hj,h]);exact cn (hj.symm.trans hi)
theorem Sd{P:ah->Prop}(h0:P [])(h1:∀L d,P L->P (L++[d]))(L:ah):P L:=by
 have key:∀L:ah,P L.reverse:=λL=>by
  induction L with
  |nil=>exact h0
  |cons a L ih=>rw[List.reverse_cons];exact h1 _ _ ih
 have:=key L.reverse
 rwa[List.reverse_reverse]at this
def oU(L:ah):List (Int×Int):=L.foldl (λM d=>gh M d ((dh M d).getD 0+1)) []
theorem Jh(L:ah)(d:Int):oU (L++[d])=gh (oU L) d ((dh (oU L) d).getD 0+1):=by simp[oU]
theorem afp(L:ah):((oU L).map (·.1)).Nodup:=by
 refine Sd (P:=λL=>((oU L).map (·.1)).Nodup) List.Pairwise.nil (λL d ih=>?_) L;rw[Jh];exact Rv ih
theorem Nh(L:ah)(d:Int):(dh (oU L) d).getD 0=(L.count d:Int):=by
 refine Sd (P:=λL=>(dh (oU L) d).getD 0=(L.count d:Int)) O (λL c ih=>?_) L;rw[Jh,DY,ob]
 by_cases e:c=d
 ·subst e;rw[aG rfl,ih];simp
 rw[aD e,ih];simp[mM,e]
theorem Vv{κ ν:Type}[DecidableEq κ]:∀{L:List (κ×ν)}{x:κ}{u:ν},(L.map (·.1)).Nodup->(x,u)∈L->dh L x=some u
 |(y,v)::r,x,u,hn,h=>by
  simp only[List.map_cons,mj]at hn;rcases gW.1 h with e|h
  ·cases e;simp[dh]
  ·have bN:y≠x:=λe=>hn.1 (e▸de.2 ⟨_,h,O⟩)
   simp only[dh,aD bN];exact Vv hn.2 h
theorem Ni{L:ah}{x:Int}(h:(x,u)∈oU L):u=(L.count x:Int):=by
 have h1:=Nh L x;rw[Vv (afp L) h]at h1;exact h1
theorem afo{L:ah}{x:Int}(h:x∈L):∃u,(x,u)∈oU L:=by
 have h1:=Nh L x;cases hg:dh (oU L) x with
 |none=>
  rw[hg]at h1;have:=List.count_pos_iff.2 h;simp at h1;omega
 |some u=>exact⟨u,JB hg⟩
theorem QY:∀{L:ah},(∀e∈L,0<=e)->∀j:Nat,(fF L).testBit j=decide (L.count (j:Int)%2=1)
 |[],_,j=>by simp[fF]
 |a::L,h,j=>by
  have ih:=QY (L:=L) (λe he=>h e (by simp[he])) j;have h0:=h a (by simp);rw[xp,Nat.testBit_xor,ih,Nat.testBit_two_pow,mM]
  by_cases e:a=(j:Int)
  ·have e2:a.toNat=j:=by omega
   rw[e2,e];simp only[beq_self_eq_true,if_true];rcases Nat.mod_two_eq_zero_or_one (L.count (j:Int))with h|h
   ·have h':(L.count (j:Int)+1)%2=1:=by omega
    simp[h,h']
   ·have h':¬(L.count (j:Int)+1)%2=1:=by omega
    simp[h,h']
  ·have e2:¬a.toNat=j:=by omega
   have e3:(a==(j:Int))=false:=by simp[e]
   simp[e2,e3]
theorem an2{L:ah}(h:∀e∈L,0<=e):fF L=0↔∀p∈oU L,p.2%2=0:=by
 constructor
 ·rintro h0 ⟨x,u⟩ hp;have hu:=Ni hp;have hx:0<=x:=by
   refine h x (List.count_pos_iff.1 ?_);refine Nat.pos_of_ne_zero λhc=>?_
   have iq:x∈L:=by
    rcases Decidable.em (x∈L)with hm|hm
    ·exact hm
    exfalso;have key:∀L:ah,∀p∈oU L,p.1∈L:=by
     intro L;refine Sd (P:=λL=>∀p∈oU L,p.1∈L) (λp hp=>by cases hp) (λL d ih p hp=>?_) L;rw[Jh]at hp;have:=(aaB _ _ _ _).1 (de.2 ⟨p,hp,O⟩);rcases this with e|e
     ·rw[e];simp
     obtain⟨q,hq,e⟩:=de.1 e;rw[<-e];exact List.mem_append_left _ (ih q hq)
    exact hm (key L _ hp)
   have:=List.count_pos_iff.2 iq;omega
  have hb:=QY h x.toNat;rw[h0,Nat.zero_testBit,show((x.toNat:Nat):Int)=x by omega]at hb;have hb:=of_decide_eq_false hb.symm;show u%2=0;omega
 intro he;refine Nat.eq_of_testBit_eq λj=>?_
 rw[QY h,Nat.zero_testBit];refine db λhc=>?_
 have hm:(j:Int)∈L:=List.count_pos_iff.1 ac;obtain⟨u,hu⟩:=afo hm;have h1:=he _ hu;have h2:=Ni hu;have h1:u%2=0:=h1;omega
def Mp(R:ah)(B:ag)(e:Int):Prop:=(gi R e=1->(gl B e).length%2=0)/\(2<=gi R e->fF (gy R B (mR R B e))=0)
def sO(R:ah)(B:ag):Prop:=∀e:Nat,e<R.length->Mp R B e
def po(R:ah)(B:ag)(e x:Int)(k:Nat):ah:=if gi R x=gi R e-1 then jX R B x k else[]
theorem adM(R:ah)(B:ag)(e x:Int):po R B e x 0=[]:=by unfold po;split<;>rfl
theorem adO{B:ag}{e x:Int}{k:Nat}(hk:k<(gl B x).length)(h1:gi R x=gi R e-1)(h2:gi R (gi (gl B x) k)=gi R e-2):po R B e x (k+1)=po R B e x k++[gi (gl B x) k]:=by
 unfold po;rw[aG h1,aG h1];exact MT hk ac
theorem adP{B:ag}{e x:Int}{k:Nat}(hk:k<(gl B x).length)(h:¬(gi R x=gi R e-1/\gi R (gi (gl B x) k)=gi R e-2)):po R B e x (k+1)=po R B e x k:=by
 unfold po
 by_cases h1:gi R x=gi R e-1
 ·rw[aG h1,aG h1];exact MV hk (λh2=>h ⟨h1,ac⟩)
 rw[aD h1,aD h1]
theorem adN{B:ag}{e:Int}{k:Nat}(hj:j<(gl B e).length)(hk:(gl B (gi (gl B e) j)).length<=k):gy R B (jX R B e j)++po R B e (gi (gl B e) j) k=gy R B (jX R B e (j+1)):=by
 unfold po
 by_cases h1:gi R (gi (gl B e) j)=gi R e-1
 ·rw[aG h1,MT hj h1,TI,IV hk]
 rw[aD h1,MV hj h1,dQ]
theorem adR{m:Nat}{B:ag}(h:vc m R B){e:Int}(h0:0<=e)(h1:e<m)(k:Nat):∀d∈jX R B e k,0<=d/\d<m:=λd hd=>(h.rg e h0 h1).2 d (List.mem_of_mem_take (fM.1 hd).1)
theorem adQ{m:Nat}{B:ag}(h:vc m R B)(hc:∀e∈ch,0<=e/\e<(m:Int)):∀d∈gy R B ch,0<=d/\d<(m:Int):=λd hd=>by
 obtain⟨e,he,hd⟩:=List.mem_flatMap.1 hd;exact MS h (hc e he).1 (hc e he).2 d hd
theorem Ug(L:ah)(d:Int):L.count d<=L.length:=List.count_le_length
abbrev Ft(g:Nat)(L:ah):Ck:=fc 121 g (dZ (Value.int .i64) (Value.int .i64) (oU L))
theorem alK(Pc:ai)(n:Int)(AR AB:ai)(m cR cB:Nat)(R:ah)(rs:List aE)(B:ag)(w:aa)(hP:zI w Pc n AR AB m cR cB R rs B)(hO:vc m R B):
 aF prog 50 [.pointer Pc] w (λv w'=>∃b:Bool,v=.bool b/\(b=true↔sO R B)/\St w w' []):=by
 have hm:=hO.wA;have ov:=hP.be.len;have bT:=hP.rk.1;refine bn func50 O ntmps50 O (bM O) (aY O (dX hP.bx (Nat.succ_pos _) O O (aS hP.bx O (a6 hP.bx O ?_))));refine aR O O (ay O ?_);refine Cd.loop (α:=Nat) (λz=>[(0,.pointer Pc),(15,.slice AB m cB),(16,aj m),(17,aj z)]) (λz w'=>z<=m/\(∀e:Nat,e<z->Mp R B e)/\St w w' []) (λz=>m-z) 0 (auV O) ⟨bl _,λ_ h=>absurd h (kY _),St.refl w⟩ ?_;rintro i e w1 ⟨hi,Pn,hS⟩;refine bC O (aK _ O (λh1=>?_) (λh1=>?_))
 ·have fY:i<m:=by omega
  have iH:=hP.ao hS.below;have br:=iH.be.at_ (i:=(i:Int)) ac ac;have hrowl:=br.1;have um:=hO.rg (i:Int) ac ac;have X7:=hO.rk (i:Int) ac ac;refine aC O (aA iH.be.top.2 O (bw iH.be.top O (tG 0 O ?_)));refine lH (α:=Unit) (λ_=>[(0,.pointer Pc),(3,aj i),(4,.slice (rg rs i).a (rg rs i).n (rg rs i).c),(15,.slice AB m cB),(16,aj m),(17,aj i)]) (λ_ w'=>w'=w1/\(gi R i=1->(gl B i).length%2=0)) ?_ ?_
  ·refine aY O (dX iH.bx (Nat.succ_pos _) O O (aS iH.bx O (a6 iH.bx O (aq O (aA iH.rk.2 O (bg iH.rk O (aq O ?_)))))));refine b9 30 O (λh2=>?_) (λh2=>?_)
   ·refine ar O (aq O (ar O (aR O O (ar O ?_))));refine ak.rem O O O ac (ar O (ay O ?_));refine aK _ O (λh3=>?_) (λh3=>?_)
    ·refine dE O (fz (fe (fz (fe ?_))));exact cK O ⟨false,O,⟨λh=>absurd h am,λh=>absurd ((h i ac).1 h2) ac⟩,hS⟩
    refine jE O (tQ ?_);exact⟨(),(auV O),O,λ_=>by omega⟩
   refine aB O (aB O (aB O (aB O (ay O ?_))));refine Cd.cX O (jE O (tQ ?_));exact⟨(),(auV O),O,λh=>absurd h h2⟩
  rintro⟨⟩ e1 w2 ⟨rfl,W4⟩;refine aC O (dX iH.bx (Nat.succ_pos _) O O (aS iH.bx O (a6 iH.bx O (aq O (aA iH.rk.2 O (bg iH.rk O (ay O ?_)))))));refine aK _ O (λh2=>?_) (λh2=>?_)
  ·refine aC O (aJ O (aN O (tQ ?_)));exact⟨i+1,by show m-(i+1)<m-i;omega,⟨O,O,O,aQ (Value.int .i64) ac,au⟩,by show i+1<=m;omega,λe he=>by
    rcases Nat.lt_or_eq_of_le (Nat.le_of_lt_succ he)with h|h
    ·exact Pn e h
    subst h;exact⟨W4,λh9=>absurd h9 ac⟩,hS⟩
  refine aC O (wc hS O ?_);intro g w3 aM;have aM:St w w3 [Ft g (gy R B (jX R B i 0))]:=aM;clear iH br hS;refine aq O (aR O O (ay O ?_));refine Cd.loop (α:=Nat) (λz=>[(0,.pointer Pc),(3,aj i),(5,.map (some g)),(15,.slice AB m cB),(16,aj m),(17,aj i),(45,.slice (rg rs i).a (rg rs i).n (rg rs i).c),(46,aj ((rg rs i).n:Int)),(47,aj z)]) (λz w'=>z<=(rg rs i).n/\St w w' [Ft g (gy R B (jX R B i z))]) (λz=>(rg rs i).n-z) 0 (auV O) ⟨bl _,aM⟩ ?_;clear aM;rintro j e2 w4 ⟨hj,hS⟩;refine bC O (aK _ O (λh3=>?_) (λh3=>?_))
  ·have iJ:j<(gl B i).length:=by omega
   have pC:=hP.ao hS.below;have br:=pC.be.at_ (i:=(i:Int)) ac ac;have Bl:=um.2 _ (gi_in (out:=gl B i) (i:=j) iJ);have ow:=λk hk=>adN (R:=R) (B:=B) (e:=(i:Int)) (k:=k) iJ hk
   have Wv:(gy R B (jX R B i j)).length<=1000000:=by
    have h9:=IU hO (jX R B i j) (adR hO ac ac j);have ik:=MU R B i j;omega
   refine aC O (aA br.2 O (bg br O ?_));generalize gi (gl B i) j=x at*;have qK:=hO.rk x Bl.1 Bl.2;have akE:=hO.rg x Bl.1 Bl.2;have EF:=pC.be.at_ (i:=x) Bl.1 Bl.2;have auy:=EF.1;refine aq O (dX pC.bx (Nat.succ_pos _) O O (aS pC.bx O (a6 pC.bx O (aq O (aA pC.be.top.2 O (bw pC.be.top O ?_))))));have tX:St w w4 [Ft g (gy R B (jX R B i j)++po R B i x 0)]:=by rw[adM,dQ];exact hS
   clear pC br EF hS;generalize gy R B (jX R B i j)=L0 at*;refine aR O O (ay O ?_);refine Cd.loop (α:=Nat) (λz=>[(0,.pointer Pc),(3,aj i),(5,.map (some g)),(7,aj x),(15,.slice AB m cB),(16,aj m),(17,aj i),(45,.slice (rg rs i).a (rg rs i).n (rg rs i).c),(46,aj ((rg rs i).n:Int)),(47,aj j),(57,.slice (rg rs x).a (rg rs x).n (rg rs x).c),(58,aj ((rg rs x).n:Int)),(59,aj z)]) (λz w'=>z<=(rg rs x).n/\St w w' [Ft g (L0++po R B i x z)]) (λz=>(rg rs x).n-z) 0 (auV O) ⟨bl _,tX⟩ ?_;clear tX;rintro k e3 w5 ⟨hk,hS⟩;refine bC O (aK _ O (λh4=>?_) (λh4=>?_))
   ·have fU:k<(gl B x).length:=by omega
    have JU:=hP.ao hS.below;have EF:=JU.be.at_ (i:=x) Bl.1 Bl.2;have W0:=akE.2 _ (gi_in (out:=gl B x) (i:=k) fU);have Pw:=adO (R:=R) (B:=B) (e:=(i:Int)) (x:=x) fU;have Kr:=adP (R:=R) (B:=B) (e:=(i:Int)) (x:=x) fU;have hJl:(po R B i x k).length<=1000:=by
     unfold po;have:=MU R B x k
     split
     ·omega
     exact bl _
    refine aC O (aA EF.2 O (bg EF O ?_));generalize gi (gl B x) k=d at*;have gI:=hO.rk d W0.1 W0.2;have gH:=JU.bx;have e6:=JU.rk;clear JU EF;refine ay O ?_
    by_cases h5:gi R x=gi R i-1
    ·
     refine ec [xP (Pc),xP (Pc),xP (aH (Pc) 1),xS (AR) (m) (cR),xI (x),xP (aH (AR) (x).toNat),xI (gi (R) (x)),xP (Pc),xP (Pc),xP (aH (Pc) 1),xS (AR) (m) (cR),xI ((i:Int)),xP (aH (AR) ((i:Int)).toNat),xI (gi (R) ((i:Int))),xI ((gi (R) ((i:Int)))-((1:Int))),xB (decide ((gi (R) (x))=((gi (R) ((i:Int)))-((1:Int))))),xB (true),xP (Pc),xP (Pc),xP (aH (Pc) 1),xS (AR) (m) (cR),xI (d),xP (aH (AR) (d).toNat),xI (gi (R) (d)),xP (Pc),xP (Pc),xP (aH (Pc) 1),xS (AR) (m) (cR),xI ((i:Int)),xP (aH (AR) ((i:Int)).toNat),xI (gi (R) ((i:Int))),xI ((gi (R) ((i:Int)))-((2:Int))),xB (decide ((gi (R) (d))=((gi (R) ((i:Int)))-((2:Int))))),xB (decide ((gi (R) (d))=((gi (R) ((i:Int)))-((2:Int)))))] O (eK O) ?_ ?_
     ·exact⟨Dr O,λ_ _ hb _ _=>dX (gH.below hb) (Nat.succ_pos _) O O Az,λ_ _ hb _ _=>aS (gH.below hb) O Az,λ_ _ hb _ _=>a6 (gH.below hb) O Az,Dr O,λ_ _ hb _ _=>aA (e6.ao hb).2 O Az,λ_ _ hb _ _=>bg (e6.ao hb) O Az,Dr O,λ_ _ hb _ _=>dX (gH.below hb) (Nat.succ_pos _) O O Az,λ_ _ hb _ _=>aS (gH.below hb) O Az,λ_ _ hb _ _=>a6 (gH.below hb) O Az,Dr O,λ_ _ hb _ _=>aA (e6.ao hb).2 O Az,λ_ _ hb _ _=>bg (e6.ao hb) O Az,λ_ _ _ _ _=>cV O Az,Dr O,λ_ _ _ _ _=>Dk O (by exact aQ Value.bool (dB h5)),Dr O,λ_ _ hb _ _=>ar O (dX (gH.below hb) (Nat.succ_pos _) O O Az),λ_ _ hb _ _=>ar O (aS (gH.below hb) O Az),λ_ _ hb _ _=>ar O (a6 (gH.below hb) O Az),Dr O,λ_ _ hb _ _=>ar O (aA (e6.ao hb).2 O Az),λ_ _ hb _ _=>ar O (bg (e6.ao hb) O Az),Dr O,λ_ _ hb _ _=>ar O (dX (gH.below hb) (Nat.succ_pos _) O O Az),λ_ _ hb _ _=>ar O (aS (gH.below hb) O Az),λ_ _ hb _ _=>ar O (a6 (gH.below hb) O Az),Dr O,λ_ _ hb _ _=>ar O (aA (e6.ao hb).2 O Az),λ_ _ hb _ _=>ar O (bg (e6.ao hb) O Az),λ_ _ _ _ _=>ar O (cV O Az),Dr O,Dr O,au⟩
     intro u w6 mZ _;replace hS:=hS.ao mZ;refine fG O (aK _ O (λh6=>?_) (λh6=>?_))
     ·have hh:=Pw h5 h6;have WX:=Nh (L0++po R B i x k) d;have b8:=Ug (L0++po R B i x k) d;rw[cj]at b8;refine aC O (FE vI d (hS.oH 0 O) O O O ?_);rw[WX];refine aJ O (tL O vI 0 (u:=((L0++po R B i x k).count d:Int)+1) (a:=d) hS O O O O ?_);intro w7 bp;refine aq O (aJ O (aN O (tQ ?_)));exact⟨k+1,by show(rg rs x).n-(k+1)<(rg rs x).n-k;omega,⟨O,O,O,O,O,O,O,O,O,O,O,O,aQ (Value.int .i64) ac,au⟩,by show k+1<=_;omega,by
       rw[hh,<-ef];unfold Ft;rw[Jh,WX];exact bp⟩
     have hh:=Kr (λh=>h6 h.2);refine aC O (aJ O (aN O (tQ ?_)));exact⟨k+1,by show(rg rs x).n-(k+1)<(rg rs x).n-k;omega,⟨O,O,O,O,O,O,O,O,O,O,O,O,aQ (Value.int .i64) ac,au⟩,by show k+1<=_;omega,by rw[hh];exact hS⟩
    refine ec [xP (Pc),xP (Pc),xP (aH (Pc) 1),xS (AR) (m) (cR),xI (x),xP (aH (AR) (x).toNat),xI (gi (R) (x)),xP (Pc),xP (Pc),xP (aH (Pc) 1),xS (AR) (m) (cR),xI ((i:Int)),xP (aH (AR) ((i:Int)).toNat),xI (gi (R) ((i:Int))),xI ((gi (R) ((i:Int)))-((1:Int))),xB (decide ((gi (R) (x))=((gi (R) ((i:Int)))-((1:Int))))),xB (false),xU,xU,xU,xU,xU,xU,xU,xU,xU,xU,xU,xU,xU,xU,xU,xU,xB (false)] O (eK O) ?_ ?_
    ·exact⟨Dr O,λ_ _ hb _ _=>dX (gH.below hb) (Nat.succ_pos _) O O Az,λ_ _ hb _ _=>aS (gH.below hb) O Az,λ_ _ hb _ _=>a6 (gH.below hb) O Az,Dr O,λ_ _ hb _ _=>aA (e6.ao hb).2 O Az,λ_ _ hb _ _=>bg (e6.ao hb) O Az,Dr O,λ_ _ hb _ _=>dX (gH.below hb) (Nat.succ_pos _) O O Az,λ_ _ hb _ _=>aS (gH.below hb) O Az,λ_ _ hb _ _=>a6 (gH.below hb) O Az,Dr O,λ_ _ hb _ _=>aA (e6.ao hb).2 O Az,λ_ _ hb _ _=>bg (e6.ao hb) O Az,λ_ _ _ _ _=>cV O Az,Dr O,λ_ _ _ _ _=>Dk O (by exact aQ Value.bool (db h5)),Dr O,Dr O,Dr O,Dr O,Dr O,Dr O,Dr O,Dr O,Dr O,Dr O,Dr O,Dr O,Dr O,Dr O,Dr O,Dr O,Dr O,au⟩
    intro u w6 mZ _;replace hS:=hS.ao mZ;have hh:=Kr (λh=>h5 h.1);refine fG O (Cd.cX O ?_);refine aC O (aJ O (aN O (tQ ?_)));exact⟨k+1,by show(rg rs x).n-(k+1)<(rg rs x).n-k;omega,⟨O,O,O,O,O,O,O,O,O,O,O,O,aQ (Value.int .i64) ac,au⟩,by show k+1<=_;omega,by rw[hh];exact hS⟩
   rw[ow k (by omega)]at hS;refine ba O (bc (bY O (aJ O (aN O (tQ ?_)))));exact⟨j+1,by show(rg rs i).n-(j+1)<(rg rs i).n-j;omega,⟨O,O,O,O,O,O,O,O,aQ (Value.int .i64) ac,au⟩,by show j+1<=_;omega,hS⟩
  rw[IV (show(gl B i).length<=j by omega)]at hS;have aij:=adQ hO (MS hO (e:=(i:Int)) ac ac);have W5:=an2 (L:=gy R B (mR R B i)) (λe he=>(aij e he).1);have iq:=λ(p:Int×Int) hp=>Ni (L:=gy R B (mR R B i)) (x:=p.1) (u:=p.2) hp
  generalize hL:gy R B (mR R B i)=L at*;refine ba O (bc (bY O ?_));refine acX 0 121 hS O O O ?_;clear hS;intro r es cl w5 Kn qN hS;have o0:∀y∈es,∃p∈oU L,y.key=aj p.1/\y.val=aj p.2:=λy hy=>by
   have h1:(y.key,y.val)∈QF es:=de.2 ⟨y,hy,O⟩;rw[Kn]at h1;obtain⟨p,hp,h2⟩:=de.1 h1;exact⟨p,hp,(aQ Prod.fst h2).symm,(aQ Prod.snd h2).symm⟩
  have hSj:∀p∈oU L,∃y∈es,y.val=aj p.2:=λp hp=>by
   have h1:(Value.int .i64 p.1,Value.int .i64 p.2)∈dZ (Value.int .i64) (Value.int .i64) (oU L):=de.2 ⟨p,hp,O⟩;rw[<-Kn]at h1;obtain⟨y,hy,h2⟩:=de.1 h1;exact⟨y,hy,aQ Prod.snd h2⟩
  refine ay O ?_;refine Cd.loop (α:=List Nat) (λz=>[(0,.pointer Pc),(15,.slice AB m cB),(16,aj m),(17,aj i),(104,.pointer (some ⟨r,0,Option.none⟩))]) (λz w'=>(∀y∈es,y.born∈z->∀u,y.val=aj u->u%2=0)/\St w w' [sM 121 r g cl z,zD 121 g es cl]) (λz=>(rP es z).length) [] ⟨rfl,rfl,rfl,rfl,rfl,au⟩ ⟨(λ_ _ h=>by cases h),hS⟩ ?_;clear hS;rintro seen e4 w6 ⟨Bh,hS⟩;refine aY O (acW 1 0 hS O O O O (λhl=>?_) (λy w7 hy bp=>?_))
  ·
   refine ay O (Cd.cX O ?_);refine ba O (bc (bY O (aJ O (aN O (tQ ?_)))));exact⟨i+1,by show m-(i+1)<m-i;omega,⟨O,O,O,aQ (Value.int .i64) ac,au⟩,by show i+1<=m;omega,λe he=>by
    rcases Nat.lt_or_eq_of_le (Nat.le_of_lt_succ he)with h|h
    ·exact Pn e h
    subst h;refine⟨W4,λ_=>?_⟩;rw[hL];refine W5.2 λp hp=>?_
    obtain⟨y,hy,hv⟩:=hSj p hp;exact Bh y hy (anw hl hy) _ hv,hS.none⟩
  have kS:=anu hy;obtain⟨p,hp,jr,o7⟩:=o0 y kS;have P6:=iq p hp;have b8:=Ug L p.1;refine ay O (Cd.iw O (aC O (acN 1 0 bp O O kS O O ?_)));rw[o7];refine aq O (ak.rem O O O ac (ay O ?_));refine aK _ O (λh7=>?_) (λh7=>?_)
  ·refine dE O (fz (fe (fz (fe ?_))));refine cK O ?_;exact⟨false,O,⟨λh=>absurd h am,λh=>by
    exfalso;have h8:=(h i ac).2 ac;rw[hL]at h8;have h9:=W5.1 h8 p hp;omega⟩,bp.none⟩
  refine jE O (tQ ?_);refine⟨seen++[y.born],?_,(auV O),λz hz C8 u hu=>?_,bp⟩
  ·exact anv hy
  rcases dF.1 C8 with C8|C8
  ·exact Bh z hz C8 u hu
  obtain rfl:=aeh (by simpa using qN.2) kS hz (eX.1 C8);rw[o7]at hu;injection hu with _ hu
  omega
 obtain rfl:i=m:=by omega
 refine ba O (bc (ew O ?_));exact cK O ⟨true,O,⟨λ_ e he=>Pn e ac,λ_=>O⟩,hS⟩
end Go.Proofs.YtimbpgackifflaaGreatDoor.Vc
namespace Go.Proofs.YtimbpgackifflaaGreatDoor.Vc.TS
open Go.RowKit Tryz
def gs(l:List TV)(i:Nat):TV:=l.getD i ar6
def SR(κ:TV->Int)(l:List TV)(a b:Nat):Prop:=∀i j,a<=i->i<j->j<b->κ (gs l i)<=κ (gs l j)
structure RP(l l':List TV)(a b:Nat):Prop where
 perm:l'.Perm l
 out:∀i,i<a\/b<=i->gs l' i=gs l i
def swp(l:List TV)(i j:Nat):List TV:=(l.set i (gs l j)).set j (gs l i)
structure v7(κ:TV->Int)(l:List TV)(a i j:Nat):Prop where
 low:a<=j
 high:j<=i
 rest:∀x y,a<=x->x<y->y<=i->x≠j->y≠j->κ (gs l x)<=κ (gs l y)
 own:∀y,j<y->y<=i->κ (gs l j)<=κ (gs l y)
structure vg(l l1:List TV)(s m e:Nat):Prop where
 out:∀i,i<s\/e<=i->gs l1 i=gs l i
 left:∀i,s<=i->i<s+(e-m)->gs l1 i=gs l (i+(m-s))
 right:∀i,s+(e-m)<=i->i<e->gs l1 i=gs l (i-(e-m))
def nq(a m b:Nat):Nat:=if(a+b) / 2<m then(a+b) / 2+m-b else a
def eU(a m b:Nat):Nat:=if(a+b) / 2<m then(a+b) / 2 else m
structure Mo(κ:TV->Int)(l:List TV)(a m b s:Nat):Prop where
 lo:nq a m b<=s
 hi:s<=eU a m b
 left:∀c,nq a m b<=c->c<s->κ (gs l c)<=κ (gs l ((a+b) / 2+m-1-c))
 right:∀c,s<=c->c<eU a m b->κ (gs l ((a+b) / 2+m-1-c))<κ (gs l c)
structure wa(l c:List TV)(a k:Nat):Prop where
 len:c.length=l.length
 out:∀x,x<a\/k<x->gs c x=gs l x
 uC:∀x,a<=x->x<k->gs c x=gs l (x+1)
 own:gs c k=gs l a
structure v8(l c:List TV)(m k:Nat):Prop where
 len:c.length=l.length
 out:∀x,x<k\/m<x->gs c x=gs l x
 uC:∀x,k<x->x<=m->gs c x=gs l (x-1)
 own:gs c k=gs l m
def xJ(κ:TV->Int)(l:List TV)(n s lo hi:Nat):Prop:=∀k,lo<=k*s->k*s<hi->SR κ l (k*s) (min (k*s+s) n)
end Go.Proofs.YtimbpgackifflaaGreatDoor.Vc.TS
namespace Go.Proofs.YtimbpgackifflaaGreatDoor.Vc
open TS Tryz
def S7(m1 m2:Nat)(kind:Int)(a b:Int):Prop:=
 if kind=1 then(a=0\/b=0\/(a=(m1:Int)-1/\b=(m2:Int)-1))else if kind=2 then(a=(m1:Int)-1\/b=(m2:Int)-1\/(a=0/\b=0))else((a=0/\b=0)\/(a=(m1:Int)-1/\b=(m2:Int)-1))
instance (m1 m2:Nat)(kind a b:Int):Decidable (S7 m1 m2 kind a b):=by unfold S7;infer_instance
section
variable {m1 m2:Nat}{kind:Int}{n1 n2:Int}{xy xz:Int->Int}{zv vU:Int->Int->Prop}
end
end Go.Proofs.YtimbpgackifflaaGreatDoor.Vc
namespace Go.Proofs.YtimbpgackifflaaGreatDoor.Vc
open Tryz
section
variable {α:Type}{N:Nat}{el:Nat->α->Prop}{le:α->α->Prop}
end
section
variable {α:Type}{el:Nat->α->Prop}{le:α->α->Prop}{i j:Nat}{a b:α}
end
section
variable {α β:Type}{N1 N2:Nat}{Nt:Nat->α->Prop}{QN:α->α->Prop}{Nu:Nat->β->Prop}{QO:β->β->Prop}
end
section
variable {α β:Type}{N N1 N2:Nat}{el:Nat->α->Prop}{le:α->α->Prop}{Nt:Nat->α->Prop}{QN:α->α->Prop}{Nu:Nat->β->Prop}{QO:β->β->Prop}
end
section
variable {α:Type}{N:Nat}{el:Nat->α->Prop}{le:α->α->Prop}
end
section
variable {α:Type}{n:Nat}{R:ah}{B:ag}{el:Nat->α->Prop}{le:α->α->Prop}{φ:Int->α}
end
section
variable {m1 m2:Nat}{n1 n2:Int}{xy xz:Int->Int}{zv vU:Int->Int->Prop} [DecidableRel zv] [DecidableRel vU] {kind:Int}
end
section
variable {n:Nat}{fl:ag}{i f:Nat}{L:List (ByteArray×Int)}
end
section
variable {n:Nat}{fl:ag}
end
section
variable {n:Nat}{R:ah}{B:ag}
end
def rkE(R:ah)(i:Int):ah:=(b6 R.length).filter λe=>decide (gi R e=i)
section
variable {n:Nat}{R:ah}{B:ag}
end
section
variable {m n:Nat}{rk:Int->Int}{und:Int->Int->Prop}
end
section
variable {n:Nat}{R:ah}{B:ag}
end
section
variable {m1 m2 n1 n2:Nat}{xy xz:Int->Int}{zv vU:Int->Int->Prop}
variable [DecidableRel zv] [DecidableRel vU] {kind:Int}
end
section
variable {α:Type}
def cU(U:α->List α):Nat->α->Nat
 |0,_=>1
 |r+1,a=>((U a).map (cU U r)).sum
end
section
variable {α β:Type}{N1 N2:Nat}{Nt:Nat->α->Prop}{QN:α->α->Prop}{Nu:Nat->β->Prop}{QO:β->β->Prop}{U1:α->List α}{U2:β->List β}{U:α×β->List (α×β)}
end
section
variable {α β:Type}{n1 n2:Nat}{Nt:Nat->α->Prop}{QN:α->α->Prop}{Nu:Nat->β->Prop}{QO:β->β->Prop}{U1:α->List α}{U2:β->List β}{U:α×β->List (α×β)}
end
section
variable {m1 m2 n1 n2:Nat}{xy xz:Int->Int}{zv vU:Int->Int->Prop} [DecidableRel zv] [DecidableRel vU] {kind:Int}{U1 U2:Int->ah}
end
end Go.Proofs.YtimbpgackifflaaGreatDoor.Vc
namespace Go.Proofs.YtimbpgackifflaaGreatDoor.Vc
open Go.RowKit Tryz
variable{b:Nat}{fl:ag}
def tR(a b:ah)(i:Nat):Nat:=((List.range i).filter λk:Nat=>decide (gi a k≠gi b k)).length
theorem afD(a b:ah)(i:Nat):tR a b (i+1)=if gi a i≠gi b i then tR a b i+1 else tR a b i:=by
 unfold tR;rw[lK,mN,cj]
 by_cases c:gi a i≠gi b i
 ·rw[aG c];simp[c]
 rw[aD c];simp[c]
theorem afC(a b:ah)(i:Nat):tR a b i<=i:=by
 refine je (lJ _ _) ?_;rw[od];exact cJ _
theorem amH(A A2:ai)(n c m c2:Nat)(a b:ah)(w:aa)(hA:bu w A n a)(hB:bu w A2 m b)(hm:m=n)(hn:n<=1000):
 aF prog 204 [.slice A n c,.slice A2 m c2] w (λv w'=>v=aj ((tR a b n:Nat):Int)/\St w w' []):=by
 have ha:=hA.1;have hb:=hB.1;refine bn func204 O ntmps204 O (bM O) (bC O ?_);refine Cd.loop (α:=Nat) (λi=>[(0,.slice A n c),(1,.slice A2 m c2),(5,aj ((tR a b i:Nat):Int)),(6,aj i)]) (λi w'=>i<=n/\St w w' []) (λi=>n-i) 0 (auV O) ⟨bl _,St.refl w⟩ ?_;rintro i e w2 ⟨hi,hS⟩;have GH:=afC a b i;have qw:=afD a b i;have D2:=hS.dq hA;have iz:=hS.dq hB;refine aY O (aR O O (ay O ?_));refine aK _ O (λh2=>?_) (λh2=>?_)
 ·refine cM O (ec [xS (A) (n) (c),xI ((i:Int)),xP (aH (A) ((i:Int)).toNat),xI (gi (a) ((i:Int))),xS (A2) (m) (c2),xI ((i:Int)),xP (aH (A2) ((i:Int)).toNat),xI (gi (b) ((i:Int))),xB (decide (¬(gi (a) ((i:Int)))=(gi (b) ((i:Int)))))] O (eK O) ?_ ?_)
  ·exact⟨Dr O,Dr O,λ_ _ hb _ _=>aA (D2.ao hb).2 O Az,λ_ _ hb _ _=>bg (D2.ao hb) O Az,Dr O,Dr O,λ_ _ hb _ _=>aA (iz.ao hb).2 O Az,λ_ _ hb _ _=>bg (iz.ao hb) O Az,Dr O,au⟩
  intro u w3 ji _;have aM:=hS.ao ji;refine fG O (aK _ O (λh3=>?_) (λh3=>?_))
  ·rw[aG h3]at qw;refine aC O (aJ O (aq O (aJ O (aN O (tQ ?_)))));exact⟨i+1,by show n-(i+1)<n-i;omega,⟨O,O,aQ (λm:Nat=>Value.int .i64 (m:Int)) qw.symm,O,au⟩,ac,aM⟩
  rw[aD h3]at qw;refine aC O (aJ O (aN O (tQ ?_)));exact⟨i+1,by show n-(i+1)<n-i;omega,⟨O,O,aQ (λm:Nat=>Value.int .i64 (m:Int)) qw.symm,O,au⟩,ac,aM⟩
 obtain rfl:i=n:=by omega
 refine ba O (bc (ew O ?_));exact gj O ⟨O,hS⟩
def rZ(N:Nat):List aE->List (List aE)->List (ag)->List Ck
 |o::os,r::rss,X::Xs=>aV 27 2 o.a N o.c r X++rZ N os rss Xs
 |_,_,_=>[]
theorem Nj(N:Nat):∀{os:List aE}{rss:List (List aE)}{Xs:List (ag)}{i:Nat},i<os.length->rss.length=os.length->Xs.length=os.length->
 (rZ N os rss Xs).Perm (aV 27 2 (os.getD i bI).a N (os.getD i bI).c (rss.getD i []) (Xs.getD i [])++rZ N (os.eraseIdx i) (rss.eraseIdx i) (Xs.eraseIdx i))
 |o::os,r::rss,X::Xs,0,_,_,_=>List.Perm.refl _
 |o::os,r::rss,X::Xs,i+1,h,h1,h2=>by
  have ih:=Nj N (os:=os) (rss:=rss) (Xs:=Xs) (i:=i) (by simpa using h) (by simpa using h1) (by simpa using h2);simp only[List.getD_cons_succ,List.eraseIdx_cons_succ,rZ];refine(ih.append_left _).trans ?_;rw[<-ef,<-ef];exact gL.append_right _
 |[],_,_,_,h,_,_=>absurd h (kY _)
 |_::_,[],_,_,_,h,_=>by simp at h
 |_::_,_::_,[],_,_,_,h=>by simp at h
theorem Ny{α:Type}(x:α):∀(l:List α)(i:Nat),(l.set i x).eraseIdx i=l.eraseIdx i
 |[],_=>rfl
 |_::_,0=>rfl
 |a::r,i+1=>by simp only[List.set_cons_succ,List.eraseIdx_cons_succ,Ny x r i]
theorem afr(N:Nat){os:List aE}{rss:List (List aE)}{Xs:List (ag)}{i:Nat}(r:List aE)(X:ag)(h:i<os.length)(h1:rss.length=os.length)(h2:Xs.length=os.length):(aV 27 2 (os.getD i bI).a N (os.getD i bI).c r X++rZ N (os.eraseIdx i) (rss.eraseIdx i) (Xs.eraseIdx i)).Perm (rZ N os (rss.set i r) (Xs.set i X)):=by
 have h9:=(Nj N (os:=os) (rss:=rss.set i r) (Xs:=Xs.set i X) (i:=i) h (by rw[fR];exact h1) (by rw[fR];exact h2)).symm;rw[Ny,Ny]at h9;have e1:(rss.set i r).getD i []=r:=by rw[b5,List.getElem?_set_self (by omega)];rfl
 have e2:(Xs.set i X).getD i []=X:=by rw[b5,List.getElem?_set_self (by omega)];rfl
 rwa[e1,e2]at h9
theorem Uh(N:Nat):∀{os:List aE}{rss:List (List aE)}{Xs:List (ag)} (o:aE) (r:List aE) (X:ag),rss.length=os.length->Xs.length=os.length->rZ N (os++[o]) (rss++[r]) (Xs++[X])=rZ N os rss Xs++aV 27 2 o.a N o.c r X
 |[],[],[],o,r,X,_,_=>by simp[rZ]
 |a::os,b::rss,c::Xs,o,r,X,h,h'=>by
  simp only[List.cons_append,rZ,Uh N (os:=os) (rss:=rss) (Xs:=Xs) o r X (by simpa using h) (by simpa using h'),ef]
 |[],_::_,_,_,_,_,h,_=>by simp at h
 |[],[],_::_,_,_,_,_,h=>by simp at h
 |_::_,[],_,_,_,_,h,_=>by simp at h
 |_::_,_::_,[],_,_,_,_,h=>by simp at h
open Classical in
noncomputable def uD(n:Nat)(fl:ag)(i a m:Nat):ah:=((List.range m).filter λb=>decide (pj n fl i a b/\b≠a)).map λb:Nat=>(b:Int)
theorem ZQ(n:Nat)(fl:ag)(i a:Nat):uD n fl i a fl.length=De n fl i a:=rfl
theorem an4{n:Nat}{i a m:Nat}(h:pj n fl i a m/\m≠a):uD n fl i a (m+1)=uD n fl i a m++[(m:Int)]:=by
 unfold uD;rw[lK,mN,iE];rw[zE (by simpa using h)];rfl
theorem ZS{n:Nat}{i a m:Nat}(h:¬(pj n fl i a m/\m≠a)):uD n fl i a (m+1)=uD n fl i a m:=by
 unfold uD;rw[lK,mN,iE];rw[BP (by simpa using h)];simp
theorem ZR(n:Nat)(fl:ag)(i a m:Nat):(uD n fl i a m).length<=m:=by
 unfold uD;rw[jd];refine je (lJ _ _) ?_;rw[od];exact cJ _
theorem afE{n:Nat}(lZ:fl.Nodup)(hl:∀x∈fl,x.length=n){a i:Nat}(ha:a<fl.length)(hb:b<fl.length)(hi:i<n):(tR (gl fl a) (gl fl b) n=1/\gi (gl fl a) i≠gi (gl fl b) i)↔(pj n fl i a b/\b≠a):=by
 unfold tR;constructor
 ·rintro⟨h1,h2⟩;refine⟨⟨ha,hb,λk hk bN=>?_⟩,λe=>h2 (by rw[e])⟩;obtain⟨y,hy⟩:=List.length_eq_one_iff.1 h1;have hm:∀q,q<n->gi (gl fl a) q≠gi (gl fl b) q->q=y:=λq hq hd=>by
   have:q∈(List.range n).filter λk:Nat=>decide (gi (gl fl a) k≠gi (gl fl b) k):=fM.2 ⟨fo.2 hq,dB hd⟩
   rw[hy]at this;exact eX.1 this
  refine qi λhd=>bN ?_
  rw[hm k hk hd,hm i hi h2]
 rintro⟨h,bN⟩;have hd:gi (gl fl a) i≠gi (gl fl b) i:=λe=>bN (Ve lZ hl hb ha λk hk=>by
  by_cases ek:k=i
  ·subst ek;exact e.symm
  exact(h.2.2 k hk ek).symm)
 refine⟨?_,hd⟩;have:(List.range n).filter (λk:Nat=>decide (gi (gl fl a) k≠gi (gl fl b) k))=[i]:=by
  refine List.Perm.eq_singleton ?_;refine(List.perm_ext_iff_of_nodup (List.nodup_range.filter _) (by simp)).2 λq=>?_
  rw[fM,fo,k5,eX];constructor
  ·rintro⟨hq,uk⟩;exact qi λe=>uk (h.2.2 q hq e)
  rintro rfl;exact⟨hi,hd⟩
 rw[this];rfl
noncomputable def sC(n:Nat)(fl:ag)(a b k i a':Nat):ah:=if a'<a then uD n fl i a' fl.length else if a'=a then(if i<k then uD n fl i a (b+1)else uD n fl i a b)else[]
noncomputable def sD(n:Nat)(fl:ag)(a b k i:Nat):ag:=(List.range fl.length).map (sC n fl a b k i)
noncomputable def jK(n:Nat)(fl:ag)(a b k:Nat):List (ag):=(List.range n).map (sD n fl a b k)
section
variable {n:Nat}{fl:ag}{a b k i:Nat}
theorem za:(sD n fl a b k i).length=fl.length:=by simp[sD]
theorem Df:(jK n fl a b k).length=n:=by simp[jK]
theorem Q8(h:i<n):(jK n fl a b k).getD i []=sD n fl a b k i:=by
 rw[b5,fL (by rw[Df];exact h),Option.getD_some];simp[jK]
theorem Q9{a':Nat}(h:a'<fl.length):gl (sD n fl a b k i) a'=sC n fl a b k i a':=by
 rw[df (by rw[za];exact h)];simp[sD]
theorem Lg{a2 b2 k2:Nat}(h:∀i a',i<n->a'<fl.length->sC n fl a b k i a'=sC n fl a2 b2 k2 i a'):jK n fl a b k=jK n fl a2 b2 k2:=
 ki λi hi=>ki λa' ha=>h i a' (fo.1 hi) (fo.1 ha)
theorem aog:jK n fl 0 0 0=List.replicate n (List.replicate fl.length []):=by
 refine List.eq_replicate_iff.2 ⟨Df,λy hy=>?_⟩;obtain⟨i,_,rfl⟩:=de.1 hy;refine List.eq_replicate_iff.2 ⟨za,λz hz=>?_⟩;obtain⟨a',_,rfl⟩:=de.1 hz;unfold sC;rw[aD (kY _)]
 split
 ·rw[aD (kY _)];rfl
 rfl
theorem aoe:jK n fl (a+1) 0 0=jK n fl a fl.length 0:=Lg λi a' _ ha=>by
 unfold sC
 by_cases c:a'<a
 ·rw[aG (by omega),aG c]
 rw[aD c]
 by_cases c2:a'=a
 ·subst c2;rw[aG (by omega),aG rfl,aD (kY _)]
 rw[aD (by omega),aD c2]
 split
 ·rw[aD (kY _)];rfl
 rfl
theorem aob:jK n fl a (b+1) 0=jK n fl a b n:=Lg λi a' hi ha=>by
 unfold sC;rw[aD (kY i),aG hi]
theorem aoc(h:∀i,i<n->¬(pj n fl i a b/\b≠a)):jK n fl a (b+1) 0=jK n fl a b 0:=Lg λi a' hi ha=>by
 unfold sC;rw[aD (kY i),ZS (h i hi),aD (kY i)]
theorem aof(h:¬(pj n fl k a b/\b≠a)):jK n fl a b (k+1)=jK n fl a b k:=Lg λi a' hi ha=>by
 unfold sC
 by_cases c:a'<a
 ·rw[aG c,aG c]
 rw[aD c,aD c]
 by_cases c2:a'=a
 ·rw[aG c2,aG c2]
  by_cases c3:i=k
  ·subst c3;rw[aG (by omega),aD (by omega),ZS h]
  by_cases c4:i<k
  ·rw[aG (by omega),aG c4]
  rw[aD (by omega),aD c4]
 rw[aD c2,aD c2]
theorem aod(hk:k<n)(ha:a<fl.length)(h:pj n fl k a b/\b≠a):(jK n fl a b k).set k ((sD n fl a b k k).set a (gl (sD n fl a b k k) a++[(b:Int)]))=jK n fl a b (k+1):=by
 apply iC (by rw[fR,Df,Df]);intro i h1 h2;rw[Df]at h2;rw[List.getElem_set];have e2:∀k' (hx:i<(jK n fl a b k').length),(jK n fl a b k')[i]=sD n fl a b k' i:=λk' hx=>by simp[jK]
 rw[e2 (k+1) (by rw[Df];exact h2),e2 k (by rw[Df];exact h2)]
 by_cases c:k=i
 ·subst c;rw[aG rfl];apply iC (by rw[fR,za,za]);intro a' h3 h4;rw[za]at h4;have e3:∀k' (hx:a'<(sD n fl a b k' k).length),(sD n fl a b k' k)[a']=sC n fl a b k' k a':=λk' hx=>by simp[sD]
  rw[List.getElem_set,e3 (k+1) (by rw[za];exact h4),e3 k (by rw[za];exact h4),Q9 ha];unfold sC
  by_cases c2:a=a'
  ·subst c2;rw[aG rfl,aD (Nat.lt_irrefl _),aG rfl,aD (Nat.lt_irrefl _),aD (Nat.lt_irrefl _),aG rfl,aG (Nat.lt_succ_self _),an4 h]
  rw[aD c2]
  by_cases c3:a'<a
  ·rw[aG c3,aG c3]
  rw[aD c3,aD c3,aD (λe=>c2 e.symm),aD (λe=>c2 e.symm)]
 rw[aD c];refine ki λa' Ee=>?_
 unfold sC
 by_cases c3:a'<a
 ·rw[aG c3,aG c3]
 rw[aD c3,aD c3]
 by_cases c2:a'=a
 ·rw[aG c2,aG c2]
  by_cases c4:i<k
  ·rw[aG c4,aG (by omega)]
  rw[aD c4,aD (by omega)]
 rw[aD c2,aD c2]
end
theorem aoU{α:Type}(m o:α)(X R:List α):(m::o::(X++[])++R).Perm (o::((X++(m::R))++[])):=by
 classical
 refine oe.2 λz=>?_
 simp only[ob,mM,sR,List.cons_append];omega
structure nA(w w':aa)(N n:Nat)(A3:ai)(c3:Nat)(os:List aE)(rss:List (List aE))(Xs:List (ag)):Prop where
 ol:os.length=n
 rl:rss.length=n
 xl:Xs.length=n
 on:∀i,i<n->(os.getD i bI).n=N
 rn:∀i,i<n->(rss.getD i []).length=N
 xn:∀i,i<n->(Xs.getD i []).length=N
 st:St w w' (aX 28 A3 n c3 os::(rZ N os rss Xs++[]))
theorem nA.ao{w w' nX:aa}{N n:Nat}{A3:ai}{c3:Nat}{os:List aE}{rss:List (List aE)}{Xs:List (ag)}(h:nA w w' N n A3 c3 os rss Xs)(hb:Below w'.heap.size w' nX):nA w nX N n A3 c3 os rss Xs:=⟨h.ol,h.rl,h.xl,h.on,h.rn,h.xn,h.st.ao hb⟩
theorem nA.rows{w w':aa}{N n:Nat}{A3:ai}{c3:Nat}{os:List aE}{rss:List (List aE)}{Xs:List (ag)}(h:nA w w' N n A3 c3 os rss Xs){k:Nat}(hk:k<n):
 St w w' (aX 28 A3 n c3 os::(aV 27 2 (os.getD k bI).a N (os.getD k bI).c (rss.getD k []) (Xs.getD k [])++rZ N (os.eraseIdx k) (rss.eraseIdx k) (Xs.eraseIdx k))):=by
 have h9:=h.st;rw[dQ]at h9;have h1:=h.ol;have h2:=h.rl;have h3:=h.xl;exact h9.perm ((Nj N ac ac ac).cons _)
theorem nA.aV{w w':aa}{N n:Nat}{A3:ai}{c3:Nat}{os:List aE}{rss:List (List aE)}{Xs:List (ag)}(h:nA w w' N n A3 c3 os rss Xs){k:Nat}(hk:k<n):bH w' (os.getD k bI).a N (rss.getD k []) (Xs.getD k []):=((h.rows hk).sub ((ny _ _).cons _)).tB (h.xn k hk)
theorem getD_set_ne{α:Type}{l:List α}{i j:Nat}{x d:α}(h:i≠j):(l.set i x).getD j d=l.getD j d:=by
 rw[b5,b5,List.getElem?_set_ne h]
theorem Vz{α:Type}{l:List α}{i:Nat}{x d:α}(h:i<l.length):(l.set i x).getD i d=x:=by
 rw[b5,List.getElem?_set_self h];rfl
theorem nA.put{w w':aa}{N n:Nat}{A3:ai}{c3:Nat}{os:List aE}{rss:List (List aE)}{Xs:List (ag)}{w0 w1:aa}(h:nA w0 w1 N n A3 c3 os rss Xs){k:Nat}(hk:k<n){r:List aE}{X:ag}(hr:r.length=N)(hX:X.length=N)(hS:St w w' (aX 28 A3 n c3 os::(Vc.aV 27 2 (os.getD k bI).a N (os.getD k bI).c r X++rZ N (os.eraseIdx k) (rss.eraseIdx k) (Xs.eraseIdx k)))):nA w w' N n A3 c3 os (rss.set k r) (Xs.set k X):=by
 have h1:=h.ol;have h2:=h.rl;have h3:=h.xl;refine⟨h1,by rw[fR];exact h2,by rw[fR];exact h3,h.on,λi hi=>?_,λi hi=>?_,?_⟩
 ·by_cases e:k=i
  ·subst e;rw[Vz (by omega)];exact hr
  rw[getD_set_ne e];exact h.rn i hi
 ·by_cases e:k=i
  ·subst e;rw[Vz (by omega)];exact hX
  rw[getD_set_ne e];exact h.xn i hi
 rw[dQ];exact hS.perm ((afr N r X ac ac ac).cons _)
theorem amN(A:ai)(N c:Nat)(rs:List aE)(fl:ag)(n:Nat)(w:aa)(hM:bH w A N rs fl)(JS:0<N)(hN:N<=400)(hn:n<=5)(hl:∀x∈fl,x.length=n)(lZ:fl.Nodup):
 aF prog 188 [.slice A N c] w (λv w'=>∃A3 c3 os rss,v=.slice A3 n c3/\nA w w' N n A3 c3 os rss (jK n fl N 0 0)):=by
 have fk:=hM.len;have ng:∀f:Nat,f<N->gl fl f∈fl:=λf hf=>by rw[df (by omega)];exact dt _
 have br:∀f:Nat,f<N->(rg rs f).n=n:=λf hf=>by
  have:=(hM.at_ (i:=(f:Int)) ac ac).1;rw[<-this];exact hl _ (ng f hf)
 have PY:=λa b i (ha:a<N) (hb:b<N) (hi:i<n)=>afE (n:=n) (a:=a) (b:=b) (i:=i) lZ hl ac ac hi
 have hz:=aog (n:=n) (fl:=fl);have yM:=λa=>aoe (n:=n) (fl:=fl) (a:=a)
 rw[fk]at hz;simp only[fk]at yM;have EA:∀a b k i,(sD n fl a b k i).length=N:=λa b k i=>by rw[za,fk]
 refine bn func188 O ntmps188 O (bM O) (aY O (jy (St.refl w) O ?_));intro A3 w1 ax;have Wd:nA w w1 N 0 A3 0 [] [] (List.replicate 0 (List.replicate N [])):=⟨O,O,O,λi h=>absurd h (kY _),λi h=>absurd h (kY _),λi h=>absurd h (kY _),ax⟩;clear ax;refine ay O (Cd.loop (α:=Nat×(ai×Nat)×List aE×List (List aE)) (λz=>[(0,.slice A N c),(3,.slice z.2.1.1 z.1 z.2.1.2),(4,aj (z.1:Int))]) (λz w'=>z.1<=n/\nA w w' N z.1 z.2.1.1 z.2.1.2 z.2.2.1 z.2.2.2 (List.replicate z.1 (List.replicate N []))) (λz=>n-z.1) (0,(A3,0),[],[]) (auV O) ⟨bl _,Wd⟩ ?_);clear Wd;rintro⟨i,⟨A3,c3⟩,os,rss⟩ e w2 ⟨hi,hS⟩;dsimp only at hi hS|-;have Gn:=hS.st.bU hM;have iO:=br 0 JS;refine aY O (aR O O (aq O ?_));refine b9 12 O (λ_=>?_) (λh=>absurd ac h);refine ar O (aq O (ar O (aq O (ar O ?_))));refine auJ (i:=0) Gn.top.2 O O O ac ac (ar O ?_);refine auQ (i:=0) Gn.top O (by show 0<N;omega) O O ?_;refine ar O (aR O O (ar O (ay O ?_)));have e0:(rg rs 0).n=n:=iO;rw[e0];refine aK _ O (λh2=>?_) (λh2=>?_)
 ·have cE:i<n:=by omega
  refine aC O (aR O O ?_);refine BV N hS.st O O ac ?_;intro ra w3 aM;have aM:=xu (t:=2) N aM;have aM:=aM.perm (aoU _ _ _ _);refine jW aM O O O λrb w4 aU=>iT 1 aU O (aU.dm 0 O) O O O ac ac O ?_;intro AZ cZ w5 aO;have aO:=aO.tail;have h1:=hS.ol;have VP:=hS.rl;have h3:=hS.xl;have sc:=Uh N (os:=os) (rss:=rss) (Xs:=List.replicate i (List.replicate N [])) ⟨ra,N,N⟩ (List.replicate N bI) (List.replicate N []) ac (by simp;omega);refine aq O (aJ O (aN O (tQ ?_)));refine⟨(i+1,(AZ,cZ),os++[⟨ra,N,N⟩],rss++[List.replicate N bI]),by show n-(i+1)<n-i;omega,(auV O),by show i+1<=n;omega,?_⟩;have mw:∀{α:Type}{l:List α}{x d:α}{j:Nat},l.length=i->j<i+1->(l++[x]).getD j d=if j<i then l.getD j d else x:=λ{α l x d j} hl hj=>by
   rw[b5]
   by_cases c:j<i
   ·rw[aG c,jF (by omega),b5]
   obtain rfl:j=l.length:=by omega
   rw[aD c];simp
  refine⟨by simp[h1],by simp[VP],by simp,λj hj=>?_,λj hj=>?_,λj hj=>?_,?_⟩
  ·rw[mw h1 hj]
   split
   ·exact hS.on j (by assumption)
   rfl
  ·rw[mw VP hj]
   split
   ·exact hS.rn j (by assumption)
   simp
  ·rw[b5,List.getElem?_replicate,aG hj];simp
  rw[List.replicate_succ',sc];exact aO
 obtain rfl:i=n:=by omega
 rw[<-hz]at hS;refine ba O (bc (kX O ?_));refine Cd.loop (α:=Nat×List (List aE)) (λz=>[(0,.slice A N c),(3,.slice A3 i c3),(5,aj (z.1:Int))]) (λz w'=>z.1<=N/\nA w w' N i A3 c3 os z.2 (jK i fl z.1 0 0)) (λz=>N-z.1) (0,rss) (auV O) ⟨bl _,hS⟩ ?_;clear hS Gn;rintro⟨a,rss⟩ e w3 ⟨ha,hS⟩;dsimp only at ha hS|-;refine aY O (aR O O (ay O ?_));refine aK _ O (λh3=>?_) (λh3=>?_)
 ·have wK:a<N:=by omega
  refine cM O (Cd.loop (α:=Nat×List (List aE)) (λz=>[(0,.slice A N c),(3,.slice A3 i c3),(5,aj a),(6,aj (z.1:Int))]) (λz w'=>z.1<=N/\nA w w' N i A3 c3 os z.2 (jK i fl a z.1 0)) (λz=>N-z.1) (0,rss) (auV O) ⟨bl _,hS⟩ ?_);clear hS;rintro⟨b,rss⟩ e w4 ⟨hb,hS⟩;dsimp only at hb hS|-;refine aY O (aR O O (ay O ?_));refine aK _ O (λh4=>?_) (λh4=>?_)
  ·have Eg:b<N:=by omega
   have Cw:=hS.st.bU hM;have lp:=Cw.at_ (i:=(a:Int)) ac ac;have lr:=Cw.at_ (i:=(b:Int)) ac ac;have Kt:=br a wK;have XB:=br b Eg;refine cM O ?_;refine ec [xS (A) (N) (c),xI ((a:Int)),xP (aH (A) ((a:Int)).toNat),xS ((rg (rs) ((a:Int))).a) ((rg (rs) ((a:Int))).n) ((rg (rs) ((a:Int))).c),xS (A) (N) (c),xI ((b:Int)),xP (aH (A) ((b:Int)).toNat),xS ((rg (rs) ((b:Int))).a) ((rg (rs) ((b:Int))).n) ((rg (rs) ((b:Int))).c),xI ((tR (gl fl a) (gl fl b) (rg rs a).n:Nat):Int),xB (decide (¬((tR (gl fl a) (gl fl b) (rg rs a).n:Nat):Int)=((1:Int))))] O (eK O) ?_ ?_
   ·refine⟨Dr O,Dr O,λ_ _ hb _ _=>aA (Cw.top.ao hb).2 O Az,λ_ _ hb _ _=>bw (Cw.top.ao hb) O Az,Dr O,Dr O,λ_ _ hb _ _=>aA (Cw.top.ao hb).2 O Az,λ_ _ hb _ _=>bw (Cw.top.ao hb) O Az,?_,Dr O,au⟩;intro e1 w1 hb hp aW;refine aI (amH (rg rs a).a (rg rs b).a (rg rs a).n (rg rs a).c (rg rs b).n (rg rs b).c (gl fl a) (gl fl b) _ (lp.ao hb) (lr.ao hb) ac ac) O ?_;rintro _ w9 ⟨rfl,kr⟩;exact ak.n (gk.dn kr.below O)
   intro u w5 kE _;have aO:=hS.ao kE;refine fG O (aK _ O (λh5=>?_) (λh5=>?_))
   ·have wW:=aoc (n:=i) (fl:=fl) (a:=a) (b:=b) λq hq h=>h5 (by
     have:=((PY a b q wK Eg hq).2 h).1;rw[Kt,this];rfl)
    refine aC O (aJ O (aN O (tQ ?_)));exact⟨(b+1,rss),by show N-(b+1)<N-b;omega,(auV O),by show b+1<=N;omega,by show nA w w5 N i A3 c3 os rss (jK i fl a (b+1) 0);rw[wW];exact aO⟩
   have h5:tR (gl fl a) (gl fl b) i=1:=by rw[Kt]at h5;omega
   clear hS Cw lp lr;refine cM O (Cd.loop (α:=Nat×List (List aE)) (λz=>[(0,.slice A N c),(3,.slice A3 i c3),(5,aj a),(6,aj b),(7,aj (z.1:Int))]) (λz w'=>z.1<=i/\nA w w' N i A3 c3 os z.2 (jK i fl a b z.1)) (λz=>i-z.1) (0,rss) (auV O) ⟨bl _,aO⟩ ?_);clear aO;rintro⟨k,rss⟩ e w6 ⟨hk,hS⟩;dsimp only at hk hS|-;have oZ:=hS.st.bU hM;have lp:=oZ.at_ (i:=(a:Int)) ac ac;have lr:=oZ.at_ (i:=(b:Int)) ac ac;have GY:=lp.1;have Ko:=lr.1;refine aY O (aA oZ.top.2 O (bw oZ.top O ?_));refine aR O O (ay O ?_);refine aK _ O (λh6=>?_) (λh6=>?_)
   ·have fV:k<i:=by omega
    have GP:=PY a b k wK Eg fV;refine cM O ?_;refine ec [xS (A) (N) (c),xI ((a:Int)),xP (aH (A) ((a:Int)).toNat),xS ((rg (rs) ((a:Int))).a) ((rg (rs) ((a:Int))).n) ((rg (rs) ((a:Int))).c),xI ((k:Int)),xP (aH ((rg (rs) ((a:Int))).a) ((k:Int)).toNat),xI (gi (gl fl a) ((k:Int))),xS (A) (N) (c),xI ((b:Int)),xP (aH (A) ((b:Int)).toNat),xS ((rg (rs) ((b:Int))).a) ((rg (rs) ((b:Int))).n) ((rg (rs) ((b:Int))).c),xI ((k:Int)),xP (aH ((rg (rs) ((b:Int))).a) ((k:Int)).toNat),xI (gi (gl fl b) ((k:Int))),xB (decide (¬(gi (gl fl a) ((k:Int)))=(gi (gl fl b) ((k:Int)))))] O (eK O) ?_ ?_
    ·exact⟨Dr O,Dr O,λ_ _ hb _ _=>aA (oZ.top.ao hb).2 O Az,λ_ _ hb _ _=>bw (oZ.top.ao hb) O Az,Dr O,λ_ _ hb _ _=>aA (lp.ao hb).2 O Az,λ_ _ hb _ _=>bg (lp.ao hb) O Az,Dr O,Dr O,λ_ _ hb _ _=>aA (oZ.top.ao hb).2 O Az,λ_ _ hb _ _=>bw (oZ.top.ao hb) O Az,Dr O,λ_ _ hb _ _=>aA (lr.ao hb).2 O Az,λ_ _ hb _ _=>bg (lr.ao hb) O Az,Dr O,au⟩
    intro u w7 s9 _;have bp:=hS.ao s9;clear hS oZ lp lr;refine fG O (aK _ O (λh7=>?_) (λh7=>?_))
    ·have kS:=GP.1 ⟨h5,h7⟩;have rJ:=aod (n:=i) (fl:=fl) (b:=b) fV (by omega:a<fl.length) kS;have Bg:=bp.rows fV;have hX:=Q8 (n:=i) (fl:=fl) (a:=a) (b:=b) (k:=k) fV;have pO:=bp.aV fV;have PX:=bp.on k fV;have jb:=bp.rn k fV;rw[hX]at Bg pO;have Yn:=pO.at_ (i:=(a:Int)) ac ac;have hbound:(rg (rss.getD k []) a).n<=500:=by
      rw[<-Yn.1,Q9 (by omega)];unfold sC;rw[aD (Nat.lt_irrefl _),aG rfl,aD (Nat.lt_irrefl _)];have:=ZR i fl k a b;omega
     obtain⟨oa,oc,ho⟩:∃oa oc,os.getD k bI=⟨oa,N,oc⟩:=⟨(os.getD k bI).a,(os.getD k bI).c,by rw[<-PX]⟩;have Kv:(os.getD k bI).v=.slice oa N oc:=by rw[ho];rfl
     rw[ho]at Bg pO;obtain⟨rk,e6⟩:∃rk,rss.getD k []=rk:=⟨_,rfl⟩;obtain⟨Xk,O8⟩:∃Xk,sD i fl a b k k=Xk:=⟨_,rfl⟩;have WE:Xk.length=N:=by rw[<-O8];exact EA ..
     rw[e6,O8]at Bg pO Yn;rw[e6]at jb hbound;rw[O8]at rJ;obtain⟨KS,D9⟩:∃KS,rZ N (os.eraseIdx k) (rss.eraseIdx k) ((jK i fl a b k).eraseIdx k)=KS:=⟨_,rfl⟩;rw[D9]at Bg;have hO:fu w7 A3 i os:=Bg.dm 0 O;have pI:∀A9:ai,(av 2 A9 1 1 [(b:Int)]::aX 28 A3 i c3 os::(aV 27 2 oa N oc rk Xk++KS))[2+1+a]?=some (av 2 (rg rk a).a (rg rk a).n (rg rk a).c (gl Xk a)):=λA9=>uB (t1:=27) (t2:=2) (A:=oa) (n:=N) (c:=oc) (rs:=rk) (xss:=Xk) (pre:=[av 2 A9 1 1 [(b:Int)],aX 28 A3 i c3 os]) (ks:=KS) (i:=a) ac ac
     have mw:=λ(A9:ai)(s:aE)(xs:ah)=>HH (t1:=27) (t2:=2) (A:=oa) (n:=N) (c:=oc) (rs:=rk) (xss:=Xk) (ks:=KS) (pre:=[av 2 A9 1 1 [(b:Int)],aX 28 A3 i c3 os]) (i:=a) s xs ac ac
     refine iu [14,16] [yS (A3) (i) (c3),yI ((k:Int)),yP (aH A3 ((k:Int)).toNat),yS (oa) (N) (oc),yI ((a:Int)),yS (A3) (i) (c3),yI ((k:Int)),yP (aH A3 ((k:Int)).toNat),yS (oa) (N) (oc),yI ((a:Int)),yP (aH (oa) ((a:Int)).toNat),yS ((rg (rk) ((a:Int))).a) ((rg (rk) ((a:Int))).n) ((rg (rk) ((a:Int))).c),yI ((b:Int)),.pr (λv w'=>∃A9,v=.slice A9 1 1/\St w w' (av 2 A9 1 1 [(b:Int)]::aX 28 A3 i c3 os::(aV 27 2 oa N oc rk Xk++KS))),.pr (λv w'=>∃AZ cZ,v=.slice AZ ((rg rk a).n+1) cZ/\St w w' (aX 28 A3 i c3 os::(aX 27 oa N oc rk::(cC 2 (rk.set a ⟨AZ,(rg rk a).n+1,cZ⟩) (Xk.set a (gl Xk a++[(b:Int)]))++KS)))),yP (aH oa ((a:Int)).toNat),.pr (λ_ w'=>∃AZ cZ,St w w' (aX 28 A3 i c3 os::(aV 27 2 oa N oc (rk.set a ⟨AZ,(rg rk a).n+1,cZ⟩) (Xk.set a (gl Xk a++[(b:Int)]))++KS)))] (ly (ly (ly (ly (ly (ly (ly (ly (ly (ly (ly (ly (ly (bV.2 ⟨Ye.bW (λv w w' h hb=>by obtain⟨A9,hv,hT⟩:=h;exact⟨A9,hv,hT.ao hb⟩),(bV.2 ⟨Ye.bW (λv w w' h hb=>by obtain⟨AZ,cZ,hv,hT⟩:=h;exact⟨AZ,cZ,hv,hT.ao hb⟩),(ly (bV.2 ⟨Ye.bW (λv w w' h hb=>by obtain⟨AZ,cZ,hT⟩:=h;exact⟨AZ,cZ,hT.ao hb⟩),(λ_ h=>by cases h)⟩))⟩)⟩)))))))))))))) ?_ ?_
     ·refine⟨bP O,bP O,?_,?_,bP O,bP O,bP O,cP λ_ _ hb _ _ _=>aA (hO.ao hb).2 O (bA O O),cP λ_ _ hb _ _ _=>ak.ld (hO.ao hb).2 (j:=k) O ac Kv O O (bA O O),bP O,cP λ_ _ hb _ _ _=>aA (pO.top.ao hb).2 O (bA O O),cP λ_ _ hb _ _ _=>bw (pO.top.ao hb) O (bA O O),bP O,?_,?_,?_,?_,au⟩
      ·intro e1 w1 cc eL cI dC hp aW hq;show ak _ _ _ _ _ _ _;have hX:fu w1 A3 i os:=by { have cI:=lz cI (b:=1) an;rcases(show cc=0\/cc=1 by omega)with h|h; { exact hO.ao (dC h) }; { subst h;obtain⟨AZ,cZ,_,hT⟩:=hq 14 _ _ an an an rfl rfl an;exact hT.dm 0 rfl } }
       refine aA hX.2 O (ak.n (fp O ap))
      ·intro e1 w1 cc eL cI dC hp aW hq;show ak _ _ _ _ _ _ _;have hX:fu w1 A3 i os:=by { have cI:=lz cI (b:=1) an;rcases(show cc=0\/cc=1 by omega)with h|h; { exact hO.ao (dC h) }; { subst h;obtain⟨AZ,cZ,_,hT⟩:=hq 14 _ _ an an an rfl rfl an;exact hT.dm 0 rfl } }
       refine ak.ld hX.2 (j:=k) O ac Kv O O (ak.n (fp O ap))
      ·refine cP λe1 w1 hb hp aW hq=>?_
       exact eh (St.refl _) O O O λA9 w9 aw=>ak.n (eD.dn O aw.below ⟨A9,O,(Bg.ao hb).call aw⟩)
      ·refine iF λe1 w1 hb hp aW hq=>?_
       obtain⟨A9,h87,hT⟩:=(hp 13 _ _ an rfl rfl an);refine eQ (2+1+a) hT (pI A9) (hT.bF 0 O) O (by exact h87) O ?_;intro AZ cZ wZ hZ;have hZ:=(mw A9 ⟨AZ,(rg rk a).n+1,cZ⟩ (gl Xk a++[(b:Int)]))▸hZ;exact ak.n (dS.dn O ⟨AZ,cZ,O,hZ.tail⟩)
      ·intro e1 w1 cc eL cI dC hp aW hq;show ak _ _ _ _ _ _ _;have hX:fu w1 oa N rk:=by { have cI:=lz cI (b:=1) an;rcases(show cc=0\/cc=1 by omega)with h|h; { exact pO.top.ao (dC h) }; { subst h;obtain⟨AZ,cZ,_,hT⟩:=hq 14 _ _ an an an rfl rfl an;exact hT.dm 1 rfl } }
       refine aA hX.2 O (ak.n (fp O ap))
      refine kB 1 λe1 w1 hp aW hq=>?_
      have cg:=hp 14 _ _ an O O an;obtain⟨AZ,cZ,Oo,hT⟩:=cg;refine nC (te:=27) (n:=N) (c:=oc) (A:=oa) (xs:=rk) 1 hT O O (by exact Oo) ac ?_;intro wY hY;exact ak.n (dS.st O ⟨AZ,cZ,hY⟩)
     intro u w8 _ hu _ _;obtain⟨AZ,cZ,hT⟩:=hu 16 _ rfl an;have Wg:=bp.put fV (r:=rk.set a ⟨AZ,(rg rk a).n+1,cZ⟩) (X:=Xk.set a (gl Xk a++[(b:Int)])) (by rw[fR];exact jb) (by rw[fR];exact WE) (by rw[ho,D9];exact hT);rw[rJ]at Wg;refine gq O (aJ O (aN O (tQ ?_)));exact⟨(k+1,rss.set k (rk.set a ⟨AZ,(rg rk a).n+1,cZ⟩)),by show i-(k+1)<i-k;omega,(auV O),by show k+1<=i;omega,Wg⟩
    have jJ:=aof (n:=i) (fl:=fl) (a:=a) (b:=b) (k:=k) λh=>h7 (GP.2 h).2
    refine aC O (aJ O (aN O (tQ ?_)));exact⟨(k+1,rss),by show i-(k+1)<i-k;omega,(auV O),by show k+1<=i;omega,by show nA w w7 N i A3 c3 os rss (jK i fl a b (k+1));rw[jJ];exact bp⟩
   have pM:k=i:=by omega
   have kR:=aob (n:=i) (fl:=fl) (a:=a) (b:=b);rw[pM,<-kR]at hS;refine ba O (bc (bY O (aJ O (aN O (tQ ?_)))));exact⟨(b+1,rss),by show N-(b+1)<N-b;omega,(auV O),by show b+1<=N;omega,hS⟩
  have CF:b=N:=by omega
  rw[CF,<-yM]at hS;refine ba O (bc (bY O (aJ O (aN O (tQ ?_)))));exact⟨(a+1,rss),by show N-(a+1)<N-a;omega,(auV O),by show a+1<=N;omega,hS⟩
 have WI:a=N:=by omega
 rw[WI]at hS;refine ba O (bc (ew O ?_));exact dV O ⟨A3,c3,os,rss,O,hS⟩
end Go.Proofs.YtimbpgackifflaaGreatDoor.Vc
