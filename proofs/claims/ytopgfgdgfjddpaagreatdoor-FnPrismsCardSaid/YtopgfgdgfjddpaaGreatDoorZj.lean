/-
 Lemmas. Conditions: as each states them.
-/
import Derived.Test.YtopgfgdgfjddpaaGreatDoorZi
set_option maxHeartbeats 8000000
namespace Go.Proofs.YtopgfgdgfjddpaaGreatDoor.Vc
open Tryz
open Go.RowKit
def CY(n:Nat)(R:ai)(B:ah)(f:Nat)(x:Nat):Prop:=(f<=x/\gi R x=(n:Int) - 1)\/∃g:Nat,(g:Int)∈lj R B x/\ew n R B g/\f<=g
def xD(n:Nat)(R:ai)(B:ah)(f j:Nat)(x:Nat):Prop:=CY n R B (f+1) x\/(x=f/\gi R x=(n:Int) - 1)\/(ew n R B f/\(x:Int)∈(gl B f).take j/\gi R f=gi R x+1)
section
variable{x j:Nat}
variable {n:Nat} {R:ai} {B:ah}
theorem Qa(hP:gE n R B){f:Nat}(hf:f<=x)(hx:x<R.length):CY n R B f x↔ew n R B x:=by
 have hr:=hP.ri (e:=(x:Int)) (by omega) (by omega);constructor
 ·rintro(h | ⟨g,h1,h2,_⟩)
  ·exact Qb h.2
  have h3:=nz.1 h1;have:=hP.ri h3.1.1 h3.1.2;exact(Hx (by omega) (by omega)).2 ⟨_,h1,h2⟩
 intro h
 by_cases c:gi R x=(n:Int) - 1
 ·exact .inl ⟨hf,c⟩
 obtain⟨g,h1,h2⟩:=(Hx (by omega) (by omega)).1 h;have h3:=AU hP h1;obtain⟨g',rfl⟩:∃g':Nat,g=g':=⟨g.toNat,by omega⟩;exact .inr ⟨g',h1,h2,by omega⟩
theorem YM(hP:gE n R B)(hx:x<R.length):¬CY n R B R.length x:=by
 rintro(h | ⟨g,h1,_,h2⟩)
 ·omega
 have:=AU hP h1;omega
theorem YP(hP:gE n R B){f:Nat}(hf:f<R.length):xD n R B f j f↔ew n R B f:=by
 rw [<-Qa hP (bB f) hf];constructor
 ·rintro(h | h | h)
  ·rcases h with h | ⟨g,h1,h2,h3⟩
   ·omega
   exact .inr ⟨g,h1,h2,by omega⟩
  ·exact .inl ⟨bB _,h.2⟩
  have:=((hP.at_ (e:=(f:Int)) (by omega) (by omega)).2.1 _ (List.mem_of_mem_take h.2.1)).1;omega
 rintro(h | ⟨g,h1,h2,h3⟩)
 ·exact .inr (.inl ⟨O,h.2⟩)
 have:=AU hP h1;exact .inl (.inr ⟨g,h1,h2,by omega⟩)
theorem YN(hP:gE n R B){f:Nat}(hf:f<R.length)(hj:¬ew n R B f\/(gl B f).length<=j)(hx:x<R.length):xD n R B f j x↔CY n R B f x:=by
 constructor
 ·rintro(h | h | h)
  ·rcases h with h | ⟨g,h1,h2,h3⟩
   ·exact .inl ⟨by omega,h.2⟩
   exact .inr ⟨g,h1,h2,by omega⟩
  ·exact .inl ⟨by omega,h.2⟩
  exact .inr ⟨f,nz.2 ⟨by omega,h.2.2,List.mem_of_mem_take h.2.1⟩,h.1,bB _⟩
 rintro(h | ⟨g,h1,h2,h3⟩)
 ·by_cases e:x=f
  ·exact .inr (.inl ⟨e,h.2⟩)
  exact .inl (.inl ⟨by omega,h.2⟩)
 by_cases e:g=f
 ·subst e;have h4:=nz.1 h1;rcases hj with hj | hj
  ·exact absurd h2 hj
  exact .inr (.inr ⟨h2,by rw [lp hj];exact h4.2.2,h4.2.1⟩)
 exact .inl (.inr ⟨g,h1,h2,by omega⟩)
theorem YO{f:Nat}(hj:j< (gl B f).length):xD n R B f (j+1) x↔xD n R B f j x\/(ew n R B f/\(x:Int)=gi (gl B f) j/\gi R f=gi R x+1):=by
 have e9:(gl B f).take (j+1)=(gl B f).take j++ [gi (gl B f) j]:=by
  rw [su hj,cd hj]
 unfold xD;rw [e9,iR,fm];constructor
 ·rintro(h | h | ⟨h1,h2 | h2,h3⟩)
  ·exact .inl (.inl h)
  ·exact .inl (.inr (.inl h))
  ·exact .inl (.inr (.inr ⟨h1,h2,h3⟩))
  exact .inr ⟨h1,h2,h3⟩
 rintro((h | h | ⟨h1,h2,h3⟩) | ⟨h1,h2,h3⟩)
 ·exact .inl h
 ·exact .inr (.inl h)
 ·exact .inr (.inr ⟨h1,.inl h2,h3⟩)
 exact .inr (.inr ⟨h1,.inr h2,h3⟩)
end
def tm(N:Nat)(L:List Bool)(P:Nat->Prop):Prop:=L.length=N/\∀x:Nat,x<N->(gb L x=true↔P x)
theorem tm.set{N:Nat}{L:List Bool}{P P':Nat->Prop}(h:tm N L P){y:Nat}(hy:y<N)(hP:∀x,x<N->(P' x↔P x\/x=y)):tm N (L.set y true) P':=by
 refine⟨by rw [jK];exact h.1,fun x hx=>?_⟩;have:=Fe (S:=L) (x:=(y:Int)) (y:=(x:Int)) (b:=true) (by omega) (by rw [h.1];omega) (by omega);rw [gI]at this;rw [this,hP x hx,<-h.2 x hx]
 by_cases e:x=y
 ·subst e;simp
 rw [aw (by omega)];exact⟨fun h=> .inl h,fun h=>h.resolve_right e⟩
theorem tm.congr{N:Nat}{L:List Bool}{P P':Nat->Prop}(h:tm N L P)(hP:∀x,x<N->(P' x↔P x)):tm N L P':=⟨h.1,fun x hx=> (h.2 x hx).trans (hP x hx).symm⟩
theorem afo(n:Nat)(A D:aj)(cA cD:Nat)(R:ai)(rs:List aQ)(B:ah)(w:aa)(hR:di w A R.length R)(hB:bz w D B.length rs B)(hP:gE n R B):
 aN prog 202 [.agg #[ak n,.slice A R.length cA,.slice D B.length cD]] w (fun v w'=>∃A' L,v= .slice A' R.length R.length/\tm R.length L (fun x=>ew n R B x)/\St w w' [gm 4 A' R.length R.length L]):=by
 have hn:=hP.n1;have pb:=hP.oV;have hle:=hP.len;have cJ:=fun(f:Nat) (h:f<R.length)=>hP.at_ (e:=(f:Int)) (by omega) (by omega)
 have b5:∀f:Nat,f<R.length->(gl B f).length<=500:=fun f h=>by
  have:=qA (N:=R.length) (cJ f h).1.nodup fun x hx=>by have:=((cJ f h).2.1 x hx).1;omega
  omega
 have Jg:=fun f j (h:f<R.length)=>YP (n:=n) (j:=j) hP h
 have FU:=fun f j x (h:f<R.length) hj (hx:x<R.length)=>YN (n:=n) (j:=j) hP h hj hx
 have Uo:=fun x (h:x<R.length)=>YM (n:=n) hP h
 have wN:=fun x (h:x<R.length)=>Qa (n:=n) (f:=0) hP (bm _) h
 have fR:=fun(x:Nat) (h:x<R.length)=>hP.ri (e:=(x:Int)) (by omega) (by omega)
 obtain⟨N,hN⟩:∃N,R.length=N:=⟨_,rfl⟩;rw [hN]at hR pb hle cJ b5 Jg FU Uo wN fR|-;rw [hle]at hB|-;refine bI func202 O ntmps202 O (du O) (bc O (mW (St.refl w) O O ?_));intro A1 w1 aE;have h1:Rd w1 A1 3 (fun j=> [Value.int .i64 (n:Int),.slice A N cA,.slice D N cD].getD j undef):=aE.rd 0 O;have hR:=aE.gH hR;have hB:=aE.bS hB;refine ar O (aW h1 O (alw (j:=1) h1 (by exact aK Value.pointer O) O O O O (bk O O (xA (v:=false) N (St.refl w1) O O (by omega) ?_))));intro A3 w2 BH;have LI:=Rd.below h1 BH.below;refine ar O (aW LI O (alw (j:=1) LI (by exact aK Value.pointer O) O O O O ?_));have SE:tm N (List.replicate N false) (CY n R B N):=⟨by simp,fun x hx=> ⟨fun h=> (by rw [RN]at h;cases h),fun h=>absurd h (Uo x hx)⟩⟩;clear LI;refine bk O O (dT O (aI O ?_));refine Cd.loop (α:=Nat×List Bool) (fun z=> [(1,.pointer A1),(3,.slice A3 N N),(4,ak ((z.1:Int) - 1))]) (fun z w'=>z.1<=N/\tm N z.2 (CY n R B z.1)/\St w1 w' [gm 4 A3 N N z.2]) (fun z=>z.1) (N,List.replicate N false) (alH O) ⟨bB _,SE,BH⟩ ?_;clear BH SE;rintro⟨E',L⟩ e w3 ⟨hE,hL,hT⟩;dsimp only at hE hL hT|-;refine b8 O (aR _ O (fun h2=>?_) (fun h2=>?_))
 ·obtain⟨f,rfl⟩:∃f,E'=f+1:=⟨E' - 1,by omega⟩;have kE:f<N:=by omega
  rw [show((f+1:Nat):Int) - 1=(f:Int) by omega];have rQ:=Rd.below h1 hT.below;have x4:=hR.aq hT.below;have yo:=fR f kE;refine Hj 3 O (nY (α:=List Bool) (fun _=> [(1,.pointer A1),(3,.slice A3 N N),(4,ak f)]) (fun L' w'=>tm N L' (xD n R B f 0)/\St w1 w' [gm 4 A3 N N L']) ?_ ?_)
  ·refine b8 O (eB [xP (aB (A1) 1),xS (A) (N) (cA),xI ((f:Int)),xP (aB (A) ((f:Int)).toNat),xI (gi (R) ((f:Int))),xP (aB (A1) 0),xI ((n:Int)),xI (((n:Int)) - ((1:Int))),xB (decide ((gi (R) ((f:Int)))=(((n:Int)) - ((1:Int)))))] O (eQ O) ?_ ?_)
   ·exact⟨fun _ _ hb _ _=>aW (rQ.below hb) O Az,fun _ _ hb _ _=>a8 (rQ.below hb) O Az,Dr O,fun _ _ hb _ _=>aF (x4.aq hb).2 O Az,fun _ _ hb _ _=>bh (x4.aq hb) O Az,fun _ _ hb _ _=>aW (rQ.below hb) O Az,fun _ _ hb _ _=>iW (rQ.below hb) O O O O O Az,fun _ _ _ _ _=>dT O Az,Dr O,av⟩
   intro u w4 lD _;have Ma:=hT.aq lD;clear hT rQ x4;refine fh O (aR _ O (fun h3=>?_) (fun h3=>?_))
   ·refine aG O (aF (Ma.ji 0 O).2 O (tn 0 Ma O O O (by omega) ?_));intro w5 kh;rw [gI]at kh;refine aT O (tQ ?_);refine⟨L.set f true,(alH O),hL.set kE fun x hx=>?_,kh⟩;unfold xD;rw [List.take_zero];constructor
    ·rintro(h | h | h)
     ·exact .inl h
     ·exact .inr h.1
     cases h.2.1
    rintro(h | h)
    ·exact .inl h
    subst h;exact .inr (.inl ⟨rfl,h3⟩)
   refine mU O (tQ ?_);refine⟨L,(alH O),hL.congr fun x hx=>?_,Ma⟩;unfold xD;rw [List.take_zero];constructor
   ·rintro(h | h | h)
    ·exact h
    ·exact absurd (h.1▸h.2) h3
    cases h.2.1
   exact fun h=> .inl h
  clear hT hL rQ x4;rintro L e w5 ⟨hL,hT⟩;have adL:=cJ f kE;have hrl5:=b5 f kE;refine cM O (Cd.loop (α:=Nat×List Bool) (fun z=> [(1,.pointer A1),(3,.slice A3 N N),(4,ak f),(5,ak (z.1:Int))]) (fun z w'=>z.1<=(gl B f).length/\tm N z.2 (xD n R B f z.1)/\St w1 w' [gm 4 A3 N N z.2]) (fun z=> (gl B f).length - z.1) (0,L) (alH O) ⟨bm _,hL,hT⟩ ?_);clear hT hL;rintro⟨j,L⟩ e w6 ⟨hj,hL,hT⟩;dsimp only at hj hL hT|-;have rQ:=Rd.below h1 hT.below;have Fs:=hB.aq hT.below;have gS:=Fs.at_ (i:=(f:Int)) (by omega) (by omega);have iS:=gS.1;have tG:=hL.1;have DG:=(hL.2 f kE).trans (Jg f j kE);refine bc O (aW rQ O (alw (j:=2) rQ (by exact aK Value.pointer O) O O O O (ar O (aF Fs.top.2 O (b6 Fs.top O ?_)))));refine bk O O (ar O ?_);refine cT 39 O (fun h3=>?_) (fun h3=>?_)
  ·have lR:j< (gl B f).length:=by omega
   refine au O (ar O (au O (ar O (au O ?_))));refine aF (hT.ji 0 O).2 O (au O (rG (hT.ji 0 O) O (by omega) O O ?_));generalize DF:gb L f=bb at*;rw [show bb=decide (bb=true) by cases bb<;>rfl];refine aI O (aR _ O (fun h4=>?_) (fun h4=>?_))
   ·have nH:=DG.1 h4;have sJ:=adL.2.1 _ (gi_in lR);have iG:=fun x=>YO (n:=n) (R:=R) (B:=B) (f:=f) (x:=x) lR
    have x4:=hR.aq hT.below;obtain⟨d,hd⟩:∃d:Nat,gi (gl B f) j=d:=⟨(gi (gl B f) j).toNat,by omega⟩;rw [hd]at sJ iG;have lT:=fR d (by omega);refine aG O (aW rQ O (alw (j:=2) rQ (by exact aK Value.pointer O) O O O O (ar O (aF Fs.top.2 O (b6 Fs.top O (ar O (aF gS.2 O (bh gS O ?_))))))));rw [hd];refine aI O (eB [xP (aB (A1) 1),xS (A) (N) (cA),xI ((d:Int)),xP (aB (A) ((d:Int)).toNat),xI (gi (R) ((d:Int))),xP (aB (A1) 1),xS (A) (N) (cA),xI ((f:Int)),xP (aB (A) ((f:Int)).toNat),xI (gi (R) ((f:Int))),xI ((gi (R) ((f:Int))) - ((1:Int))),xB (decide ((gi (R) ((d:Int)))=((gi (R) ((f:Int))) - ((1:Int)))))] O (eQ O) ?_ ?_)
    ·exact⟨fun _ _ hb _ _=>aW (rQ.below hb) O Az,fun _ _ hb _ _=>a8 (rQ.below hb) O Az,Dr O,fun _ _ hb _ _=>aF (x4.aq hb).2 O Az,fun _ _ hb _ _=>bh (x4.aq hb) O Az,fun _ _ hb _ _=>aW (rQ.below hb) O Az,fun _ _ hb _ _=>a8 (rQ.below hb) O Az,Dr O,fun _ _ hb _ _=>aF (x4.aq hb).2 O Az,fun _ _ hb _ _=>bh (x4.aq hb) O Az,fun _ _ _ _ _=>dT O Az,Dr O,av⟩
    intro u w7 x8 _;have eo:=hT.aq x8;refine fh O (aR _ O (fun h5=>?_) (fun h5=>?_))
    ·refine aG O (aF (eo.ji 0 O).2 O (tn 0 eo O O O (by omega) ?_));intro w8 eK;rw [gI]at eK;refine ar O (aJ O (aT O (tQ ?_)));refine⟨(j+1,L.set d true),by show(gl B f).length - (j+1)< (gl B f).length - j;omega,(alH O),by show j+1<=_;omega,hL.set (by omega) fun x hx=>?_,eK⟩;rw [iG x];constructor
     ·rintro(h | h)
      ·exact .inl h
      exact .inr (by omega)
     rintro(h | h)
     ·exact .inl h
     subst h;exact .inr ⟨nH,rfl,by omega⟩
    refine aG O (aJ O (aT O (tQ ?_)));refine⟨(j+1,L),by show(gl B f).length - (j+1)< (gl B f).length - j;omega,(alH O),by show j+1<=_;omega,hL.congr fun x hx=>?_,eo⟩;rw [iG x];constructor
    ·rintro(h | h)
     ·exact h
     have h9:=h.2.1;have gZ:=h.2.2;rw [h9]at gZ;omega
    exact fun h=> .inl h
   have nH:¬ew n R B f:=fun h=>h4 (DG.2 h)
   refine bw O (bA (dh O (dT O (aT O (tQ ?_)))));exact⟨(f,L),by show f<f+1;omega,(alH O),by show f<=N;omega,hL.congr fun x hx=> (FU f j x kE (.inl nH) hx).symm,hT⟩
  refine aA O (aA O (aA O (aA O (aI O ?_))));refine Cd.gq O (bw O (bA (dh O (dT O (aT O (tQ ?_))))));exact⟨(f,L),by show f<f+1;omega,(alH O),by show f<=N;omega,hL.congr fun x hx=> (FU f j x kE (.inr (by omega)) hx).symm,hT⟩
 obtain rfl:E'=0:=by omega
 refine bw O (bA (ij O ?_));refine gK O ?_;have h9:=aE.none.call hT;exact⟨A3,L,O,hL.congr fun x hx=> (wN x hx).symm,h9⟩
theorem Zs(G X:ah):cap (cap G++X)=cap (G++X):=by
 unfold cap
 by_cases h:G.length<=401
 ·rw [lp h]
 rw [ze (by rw [qF];omega),ze (by omega),List.take_take,Nat.min_self]
section
variable (n:Nat) (R:ai) (B:ah)
def nt(st:ai)(m:Nat):ai:=(bN m).filter fun e=>decide (gi R e=(st.length:Int)/\ew n R B e/\(st.length=0\/gi st ((st.length:Int) - 1)∈gl B e))
def fZ:Nat->ai->ah
 | 0,st=> [st]
 | k+1,st=> (nt n R B st R.length).flatMap fun e=>fZ k (st++ [e])
end
section
variable {n:Nat} {R:ai} {B:ah}
theorem agT(st:ai)(m:Nat):nt n R B st (m+1)=if gi R m=(st.length:Int)/\ew n R B m/\(st.length=0\/gi st ((st.length:Int) - 1)∈gl B m)then nt n R B st m++ [(m:Int)]else nt n R B st m:=by
 have e9:bN (m+1)=bN m++ [(m:Int)]:=by
  unfold bN;rw [nZ,jm];rfl
 unfold nt;rw [e9,oR]
 by_cases c:gi R m=(st.length:Int)/\ew n R B m/\(st.length=0\/gi st ((st.length:Int) - 1)∈gl B m)
 ·rw [ay c,ur (by simpa using c)];rfl
 rw [aw c,rC (by simpa using c)];simp
theorem Ra:∀(k:Nat) (st:ai) (e:Int),0<st.length->gi st ((st.length:Int) - 1)=e->(0<=e/\e<R.length)->gi R e=(st.length:Int) - 1->st.length+k=n->fZ n R B k st=(oo R B k e).map (st++ ·)
 | 0,st,e,_,_,_,_,_=>by simp [fZ,oo]
 | k+1,st,e,h0,hl,he,hr,hk=>by
  rw [fZ,Xh (n:=n) (by omega) (by omega),List.map_flatMap];have hn:nt n R B st R.length=(lj R B e).filter fun f=>decide (ew n R B f):=by
   refine SA.eq (qj _ (lh _)) (qj _ (Ew _ _ _)) fun y=>?_
   unfold nt;rw [fU,fU,fM,nz,kz,kz,hl];constructor
   ·rintro⟨h1,h2,h3,h4⟩;exact⟨⟨h1,by omega,h4.resolve_left (by omega)⟩,h3⟩
   ·rintro⟨⟨h1,h2,h4⟩,h3⟩;exact⟨h1,by omega,h3,.inr h4⟩
  rw [hn];refine E8 fun f hf=>?_
  have hf:=nz.1 (fU.1 hf).1;have hlen:(st++ [f]).length=st.length+1:=by simp
  rw [Ra k (st++ [f]) f (by omega) (by
   rw [hlen,show((st.length+1:Nat):Int) - 1=(st.length:Int) by omega,cd (by omega)];simp) hf.1 (by rw [hlen];omega) (by omega),List.map_map]
  refine pB fun y _=>?_
  show(st++ [f])++y=st++ (f::y);rw [gN];rfl
theorem aat(hn:1<=n):fZ n R B n []=aC n R B:=by
 obtain⟨k,rfl⟩:∃k,n=k+1:=⟨n - 1,by omega⟩;rw [Qw,fZ];have hb:nt (k+1) R B [] R.length=(vh R).filter fun f=>decide (ew (k+1) R B f):=by
  refine SA.eq (qj _ (lh _)) (qj _ (qj _ (lh _))) fun y=>?_
  unfold nt;rw [fU,fU,fM,uz,kz,kz];exact⟨fun h=> ⟨⟨h.1,h.2.1⟩,h.2.2.1⟩,fun h=> ⟨h.1.1,h.1.2,h.2,.inl O⟩⟩
 rw [hb];refine E8 fun f hf=>?_
 have hf:=uz.1 (fU.1 hf).1;rw [List.nil_append,Ra k [f] f (by simp) (by simp [gi]) hf.1 (by rw [hf.2];rfl) (by simp;omega)]
 rfl
end
theorem GQ{Q:kb}{e:Env}{w:aa}{F:List (Nat×ad)}(hM:Mt e F)(h:Q .normal (ext e F) w):Q .normal e w:=by rwa [zv hM]at h
theorem agb{w0 w:aa}{ks:List Ck}{t:ae}{A:aj}{n c:Nat}{xs:List Bool}(h:St w0 w ks)(hm:gm t A n c xs∈ks):vf w A n xs:=by
 obtain⟨i,hi,e⟩:=fV.1 hm;exact h.ji i (by rw [gO hi,e])
theorem VS{α:Type}(s m:α)(X K:List α):(s::m::(X++K)).Perm (m::((X++ [s])++K)):=by
 classical
 refine nC.2 fun z=>?_
 simp only [qk,mV,ql];omega
theorem ag9{α:Type}(p s:α)(X K:List α):(p::s::(X++K)).Perm (X++ (p::s::K)):=by
 classical
 refine nC.2 fun z=>?_
 simp only [qk,mV];omega
theorem afp(w0:aa)(n:Nat)(AR AD:aj)(cR cD:Nat)(R:ai)(JU:List aQ)(B:ah)(N:Nat)(hN:R.length=N)(hR:di w0 AR N R)(hB:bz w0 AD N JU B)(hP:gE n R B)(Aa:aj)(La:List Bool)(xV:tm N La (fun x=>ew n R B x)):
 ∀(k r:Nat) (st:ai) (As:aj) (cs:Nat) (fX:List Ck) (w:aa) (A:aj) (c:Nat) (rs:List aQ) (F:ah),r+k=n->st.length=r->(∀x∈st,0<=x/\x< (N:Int))->gm 4 Aa N N La∈fX->rs.length=F.length->F.length<=401->
  St w0 w (az 2 As r cs st::(aO 32 2 A F.length c rs F++fX))->
  aN prog 201 [.agg #[ak n,.slice AR N cR,.slice AD N cD],.slice Aa N N,.slice As r cs,.slice A F.length c] w (fun v w'=>∃A' c' rs',v= .slice A' (cap (F++fZ n R B k st)).length c'/\rs'.length=(cap (F++fZ n R B k st)).length/\St w0 w' (aO 32 2 A' (cap (F++fZ n R B k st)).length c' rs' (cap (F++fZ n R B k st))++fX)):=by
 have hn:=hP.n1;have pb:=hP.oV;have hle:=hP.len;have cJ:=fun(f:Nat) (h:f<R.length)=>hP.at_ (e:=(f:Int)) (by omega) (by omega)
 have b5:∀f:Nat,f<R.length->(gl B f).length<=500:=fun f h=>by
  have:=qA (N:=R.length) (cJ f h).1.nodup fun x hx=>by have:=((cJ f h).2.1 x hx).1;omega
  omega
 have fR:=fun(x:Nat) (h:x<R.length)=>hP.ri (e:=(x:Int)) (by omega) (by omega)
 rw [hN]at pb hle b5 fR;have tG:=xV.1;intro k
 induction k with
 | zero=>
  intro r st As cs fX w A c rs F hk ax Ni Ij lG hF hS;refine bI func201 O ntmps201 O (du O) (bc O (mW hS O O ?_));intro A4 w1 aE;refine ar O (bk O O (aI O ?_));refine aR _ O (fun h1=>?_) (fun h1=>?_)
  ·have hc:cap (F++fZ n R B 0 st)=F:=by
    have h9:cap F=F:=zq hF;rw [HF (l:=F) _ (by rw [h9];omega),h9]
   refine eF O (gK O ?_);rw [hc];exact⟨A,c,rs,O,lG,aE.tail.tail⟩
  refine aG O (bk O O (ar O ?_));refine aW (aE.rd 0 O) O (iW (j:=0) (aE.rd 0 O) (by exact aK Value.pointer O) O O O O (aI O (CK O (by omega) ?_)));have hc:cap (F++fZ n R B 0 st)=F++ [st]:=zq (by rw [fZ,dI];show F.length+1<=401;omega);have aE:=aE.tail;refine aG O (mr aE O O O ?_);intro A9 w2 aD;refine oe 2 aD O (aD.ie 0 O) O O O (by omega) (by omega) O ?_;intro AZ cZ w3 aM;have aM:=aM.tail;refine bM O (gK O ?_);rw [hc];refine⟨AZ,cZ,rs++ [⟨As,r,cs⟩],by rw [dI];rfl,by simp [lG],?_⟩;have aU:St w0 w3 (az 2 As r cs st::b9 32 AZ (F.length+1) cZ (rs++ [⟨As,r,cs⟩])::(dq 2 rs F++fX)):=aM;have aU:=aU.perm (VS _ _ _ _);rw [<-wa lG]at aU;rw [dI];exact aU
 | succ k ih=>
  intro r st As cs fX w A c rs F hk ax Ni Ij lG hF hS;refine bI func201 O ntmps201 O (du O) (bc O (mW hS O O ?_));intro A4 w1 aE;refine ar O (bk O O (aI O ?_));refine aR _ O (fun h1=>?_) (fun h1=>?_)
  ·have hc:cap (F++fZ n R B (k+1) st)=F:=by
    have h9:cap F=F:=zq hF;rw [HF (l:=F) _ (by rw [h9];omega),h9]
   refine eF O (gK O ?_);rw [hc];exact⟨A,c,rs,O,lG,aE.tail.tail⟩
  refine aG O (bk O O (ar O ?_));refine aW (aE.rd 0 O) O (iW (j:=0) (aE.rd 0 O) (by exact aK Value.pointer O) O O O O (aI O (oM O (by omega) ?_)));have aE:St w0 w1 (bH A4 n AR N cR AD N cD::az 2 As r cs st::(aO 32 2 A F.length c rs F++fX)):=aE;have aD:=aE.perm (ag9 _ _ _ _);have LV:cap (F++ (nt n R B st 0).flatMap fun e=>fZ n R B k (st++ [e]))=F:=by
   show cap (F++ [])=F;rw [eu,zq hF]
  clear aE hS;refine cM O ?_;refine Cd.loop (α:=Nat×aj×Nat×List aQ) (fun z=> [(1,.slice Aa N N),(2,.slice As r cs),(3,.slice z.2.1 (cap (F++ (nt n R B st z.1).flatMap fun e=>fZ n R B k (st++ [e]))).length z.2.2.1),(4,.pointer A4),(9,ak r),(10,ak (z.1:Int))])
   (fun z w'=>z.1<=N/\z.2.2.2.length=(cap (F++ (nt n R B st z.1).flatMap fun e=>fZ n R B k (st++ [e]))).length/\St w0 w' (aO 32 2 z.2.1 (cap (F++ (nt n R B st z.1).flatMap fun e=>fZ n R B k (st++ [e]))).length z.2.2.1 z.2.2.2 (cap (F++ (nt n R B st z.1).flatMap fun e=>fZ n R B k (st++ [e])))++ (bH A4 n AR N cR AD N cD::az 2 As r cs st::fX))) (fun z=>N - z.1) (0,A,c,rs) ⟨rfl,rfl,aK (fun m:ah=>Value.slice A m.length c) LV.symm,rfl,rfl,rfl,av⟩ ⟨bm _,by show rs.length=_;rw [LV];exact lG,by show St w0 w1 (aO _ _ A (cap _).length c rs (cap _)++_);rw [LV];exact aD⟩ ?_
  clear aD lG;rintro⟨q,A,c,rs⟩ e w2 ⟨hq,lG,hS⟩;dsimp only at hq lG hS|-;have iG:=agT (n:=n) (R:=R) (B:=B) st q;have da:=KL (F++ (nt n R B st q).flatMap fun e=>fZ n R B k (st++ [e]));have FP:=Zs (F++ (nt n R B st q).flatMap fun e=>fZ n R B k (st++ [e]));generalize hG:(F++ (nt n R B st q).flatMap fun e=>fZ n R B k (st++ [e]))=G at*;have FN:∀ {w':aa} {A:aj} {c:Nat} {rs:List aQ} {F:ah},St w0 w' (aO 32 2 A F.length c rs F++ (bH A4 n AR N cR AD N cD::az 2 As r cs st::fX))->Rd w' A4 3 (fun q=> [Value.int .i64 (n:Int),.slice AR N cR,.slice AD N cD].getD q undef):=fun h=> (h.sub (iL _ _)).rd 0 O
  have Mm:∀ {w':aa} {A:aj} {c:Nat} {rs:List aQ} {F:ah},St w0 w' (aO 32 2 A F.length c rs F++ (bH A4 n AR N cR AD N cD::az 2 As r cs st::fX))->di w' As r st:=fun h=> (h.sub (iL _ _)).bF 1 O
  have vC:∀ {w':aa} {A:aj} {c:Nat} {rs:List aQ} {F:ah},St w0 w' (aO 32 2 A F.length c rs F++ (bH A4 n AR N cR AD N cD::az 2 As r cs st::fX))->vf w' Aa N La:=fun h=>agb h (List.mem_append_right _ (pC _ (pC _ Ij)))
  have uI:=FN hS;refine bc O (aW uI O (alw (j:=1) uI (by exact aK Value.pointer O) O O O O ?_));refine bk O O (aI O ?_);refine aR _ O (fun h3=>?_) (fun h3=>?_)
  ·have T1:q<N:=by omega
   have qP:=hS.gH hR;have tA:=hS.bS hB;have np:=Mm hS;have Dm:=vC hS;have FX:=xV.2 q T1;have hriq:=fR q T1;have hrlq:=b5 q (by omega);have Ub:=tA.at_ (i:=(q:Int)) (by omega) (by omega);have iS:=Ub.1;have nM:¬(gi R q=(st.length:Int)/\ew n R B q/\(st.length=0\/gi st ((st.length:Int) - 1)∈gl B q))->F++ ((nt n R B st (q+1)).flatMap fun e=>fZ n R B k (st++ [e]))=G:=fun h=>by
    rw [iG,aw h];exact hG
   have FO:¬gi R q=(r:Int)\/(gi R q=(r:Int)/\gb La q=false)\/(gi R q=(r:Int)/\gb La q=true/\(r:Int)=0)\/(gi R q=(r:Int)/\gb La q=true/\¬(r:Int)=0):=by
    by_cases a:gi R q=(r:Int)
    ·cases gb La q
     ·exact .inr (.inl ⟨a,O⟩)
     ·by_cases b:(r:Int)=0
      ·exact .inr (.inr (.inl ⟨a,O,b⟩))
      ·exact .inr (.inr (.inr ⟨a,O,b⟩))
    ·exact .inl a
   rcases FO with a1 | ⟨a1,a2⟩ | ⟨a1,a2,a3⟩ | ⟨a1,a2,a3⟩
   ·--dup 4
    have fK:=nM (fun h=>a1 (by rw [h.1,ax]));refine cM O (eB [xP (aB (A4) 1),xS (AR) (N) (cR),xI ((q:Int)),xP (aB (AR) ((q:Int)).toNat),xI (gi (R) ((q:Int))),xI ((r:Int)),xB (decide ((gi (R) ((q:Int)))=((r:Int)))),xB (false),xU,xU,xU,xU,xB (false),xB (false),xU,xU,xU,xU,xU,xU,xU,xU,xU,xU,xU,xU,xU,xU,xU,xB (false)] O (eQ O) ?_ ?_)
    ·exact⟨fun _ _ hb _ _=>aW (uI.below hb) O Az,fun _ _ hb _ _=>a8 (uI.below hb) O Az,Dr O,fun _ _ hb _ _=>aF (qP.aq hb).2 O Az,fun _ _ hb _ _=>bh (qP.aq hb) O Az,Dr O,Dr O,fun _ _ _ _ _=>Dk O (by exact aK Value.bool (dk a1)),Dr O,Dr O,Dr O,Dr O,Dr O,fun _ _ _ _ _=>Dk O (by exact aK Value.bool (O)),Dr O,Dr O,Dr O,Dr O,Dr O,Dr O,Dr O,Dr O,Dr O,Dr O,Dr O,Dr O,Dr O,Dr O,Dr O,Dr O,av⟩
    intro u w3 ib _;refine fh O (Cd.gq O ?_);refine aG O (aJ O (aT O (tQ ?_)));exact⟨(q+1,A,c,rs),by show N - (q+1)<N - q;omega,⟨O,O,aK (fun m:ah=>Value.slice A (cap m).length c) fK.symm,O,O,O,av⟩,by show q+1<=N;omega,by show rs.length=(cap _).length;rw [fK];exact lG,by show St w0 w3 (aO _ _ A (cap _).length c rs (cap _)++_);rw [fK];exact hS.aq ib⟩
   ·have fK:=nM (fun h=>by have:=FX.2 h.2.1;rw [a2]at this;cases this);refine cM O (eB [xP (aB (A4) 1),xS (AR) (N) (cR),xI ((q:Int)),xP (aB (AR) ((q:Int)).toNat),xI (gi (R) ((q:Int))),xI ((r:Int)),xB (decide ((gi (R) ((q:Int)))=((r:Int)))),xB (true),xS (Aa) (N) (N),xI ((q:Int)),xP (aB (Aa) ((q:Int)).toNat),xB (gb (La) ((q:Int))),xB (gb (La) ((q:Int))),xB (false),xU,xU,xU,xU,xU,xU,xU,xU,xU,xU,xU,xU,xU,xU,xU,xB (false)] O (eQ O) ?_ ?_)
    ·exact⟨fun _ _ hb _ _=>aW (uI.below hb) O Az,fun _ _ hb _ _=>a8 (uI.below hb) O Az,Dr O,fun _ _ hb _ _=>aF (qP.aq hb).2 O Az,fun _ _ hb _ _=>bh (qP.aq hb) O Az,Dr O,Dr O,fun _ _ _ _ _=>Dk O (by exact aK Value.bool (eP a1)),Dr O,Dr O,fun _ _ hb _ _=>au O (aF (Dm.aq hb).2 O Az),fun _ _ hb _ _=>au O (rG (Dm.aq hb) O (by omega) O O Az),Dr O,fun _ _ _ _ _=>Dk O (by exact aK Value.bool (a2)),Dr O,Dr O,Dr O,Dr O,Dr O,Dr O,Dr O,Dr O,Dr O,Dr O,Dr O,Dr O,Dr O,Dr O,Dr O,Dr O,av⟩
    intro u w3 ib _;refine fh O (Cd.gq O ?_);refine aG O (aJ O (aT O (tQ ?_)));exact⟨(q+1,A,c,rs),by show N - (q+1)<N - q;omega,⟨O,O,aK (fun m:ah=>Value.slice A (cap m).length c) fK.symm,O,O,O,av⟩,by show q+1<=N;omega,by show rs.length=(cap _).length;rw [fK];exact lG,by show St w0 w3 (aO _ _ A (cap _).length c rs (cap _)++_);rw [fK];exact hS.aq ib⟩
   ·have kH:gi R q=(st.length:Int)/\ew n R B q/\(st.length=0\/gi st ((st.length:Int) - 1)∈gl B q):=⟨by omega,FX.1 a2,.inl (by omega)⟩;refine cM O (eB [xP (aB (A4) 1),xS (AR) (N) (cR),xI ((q:Int)),xP (aB (AR) ((q:Int)).toNat),xI (gi (R) ((q:Int))),xI ((r:Int)),xB (decide ((gi (R) ((q:Int)))=((r:Int)))),xB (true),xS (Aa) (N) (N),xI ((q:Int)),xP (aB (Aa) ((q:Int)).toNat),xB (gb (La) ((q:Int))),xB (gb (La) ((q:Int))),xB (true),xI ((r:Int)),xB (decide (((r:Int))=((0:Int)))),xB (true),xU,xU,xU,xU,xU,xU,xU,xU,xU,xU,xU,xB (true),xB (true)] O (eQ O) ?_ ?_)
    ·exact⟨fun _ _ hb _ _=>aW (uI.below hb) O Az,fun _ _ hb _ _=>a8 (uI.below hb) O Az,Dr O,fun _ _ hb _ _=>aF (qP.aq hb).2 O Az,fun _ _ hb _ _=>bh (qP.aq hb) O Az,Dr O,Dr O,fun _ _ _ _ _=>Dk O (by exact aK Value.bool (eP a1)),Dr O,Dr O,fun _ _ hb _ _=>au O (aF (Dm.aq hb).2 O Az),fun _ _ hb _ _=>au O (rG (Dm.aq hb) O (by omega) O O Az),Dr O,fun _ _ _ _ _=>Dk O (by exact aK Value.bool (a2)),Dr O,Dr O,fun _ _ _ _ _=>Dk O (by exact aK Value.bool (eP a3)),Dr O,Dr O,Dr O,Dr O,Dr O,Dr O,Dr O,Dr O,Dr O,Dr O,Dr O,Dr O,Dr O,av⟩
    intro u w3 ib _;have hS:=hS.aq ib;refine fh O (Cd.im O ?_);have Gc:=iG;rw [ay kH]at Gc;have LX:F++ ((nt n R B st (q+1)).flatMap fun e=>fZ n R B k (st++ [e]))=G++fZ n R B k (st++ [(q:Int)]):=by
     rw [Gc,List.flatMap_append,<-gN,hG];simp
    have Mq:=FP (fZ n R B k (st++ [(q:Int)]));have Nj:∀x∈st++ [(q:Int)],0<=x/\x< (N:Int):=fun x hx=>by
     rcases iR.1 hx with h | h
     ·exact Ni x h
     ·obtain rfl:=fm.1 h;omega
    generalize hH:cap G=H at*;refine jA [6,8] [.ex (.agg #[ak n,.slice AR N cR,.slice AD N cD]),yS (Aa) (N) (N),yS (As) (r) (cs),.pr (fun v w'=>∃A9 c9,v= .slice A9 r c9/\St w0 w' (az 2 A9 r c9 st::(aO 32 2 A H.length c rs H++ (bH A4 n AR N cR AD N cD::az 2 As r cs st::fX)))),yI ((q:Int)),.pr (fun v w'=>∃A9,v= .slice A9 1 1/\di w' A9 1 [(q:Int)]),.pr (fun v w'=>∃AZ cZ,v= .slice AZ (r+1) cZ/\St w0 w' (az 2 AZ (r+1) cZ (st++ [(q:Int)])::(aO 32 2 A H.length c rs H++ (bH A4 n AR N cR AD N cD::az 2 As r cs st::fX)))),yS (A) (H.length) (c),.pr (fun v w'=>∃A' c' rs',v= .slice A' (cap (G++fZ n R B k (st++ [(q:Int)]))).length c'/\rs'.length=(cap (G++fZ n R B k (st++ [(q:Int)]))).length/\St w0 w' (aO 32 2 A' (cap (G++fZ n R B k (st++ [(q:Int)]))).length c' rs' (cap (G++fZ n R B k (st++ [(q:Int)])))++ (bH A4 n AR N cR AD N cD::az 2 As r cs st::fX))),.pr (fun v w'=>∃A' c' rs',v= .slice A' (cap (G++fZ n R B k (st++ [(q:Int)]))).length c'/\rs'.length=(cap (G++fZ n R B k (st++ [(q:Int)]))).length/\St w0 w' (aO 32 2 A' (cap (G++fZ n R B k (st++ [(q:Int)]))).length c' rs' (cap (G++fZ n R B k (st++ [(q:Int)])))++ (bH A4 n AR N cR AD N cD::az 2 As r cs st::fX)))] (ly (ly (ly (cj.2 ⟨Ye.cN (fun v w w' h hb=>by obtain⟨A9,c9,hv,hT⟩:=h;exact⟨A9,c9,hv,hT.aq hb⟩),(ly (cj.2 ⟨Ye.cN (fun v w w' h hb=>by obtain⟨A9,hv,hT⟩:=h;exact⟨A9,hv,hT.aq hb⟩),(cj.2 ⟨Ye.cN (fun v w w' h hb=>by obtain⟨AZ,cZ,hv,hT⟩:=h;exact⟨AZ,cZ,hv,hT.aq hb⟩),(ly (cj.2 ⟨Ye.cN (fun v w w' h hb=>by obtain⟨A',c',rs',hv,gg,hT⟩:=h;exact⟨A',c',rs',hv,gg,hT.aq hb⟩),(cj.2 ⟨Ye.cN (fun v w w' h hb=>by obtain⟨A',c',rs',hv,gg,hT⟩:=h;exact⟨A',c',rs',hv,gg,hT.aq hb⟩),(fun _ h=>by cases h)⟩)⟩))⟩)⟩))⟩)))) ?_ ?_
    ·refine⟨?_,bQ O,bQ O,?_,bQ O,?_,?_,?_,?_,?_,av⟩
     ·intro e1 w1 cc dS cI dX hp aY hq;show ao _ _ _ _ _ _ _;have hX:Rd w1 A4 3 (fun q=> [Value.int .i64 (n:Int),.slice AR N cR,.slice AD N cD].getD q undef):=by { have cI:=pj cI (b:=1) (by kernel_rfl);rcases(show cc=0\/cc=1 by omega)with h | h; { exact Rd.below (FN hS) (dX h) }; { subst h;obtain⟨AZ,cZ,_,hT⟩:=hq 6 _ _ (by kernel_rfl) (by kernel_rfl) (by kernel_rfl) rfl rfl (by kernel_rfl);exact FN hT.tail } }
      refine alC 2 hX O (ao.n (fL O (by exact O)))
     ·refine cP fun e1 w1 hb hp aY hq=>?_
      refine aL (U4 As r cs st _ (Mm (hS.aq hb)) (by omega)) O ?_;rintro _ w9 ⟨A9,c9,rfl,ln⟩;exact ao.n (eO.dn O ln.below ⟨A9,c9,O,(hS.aq hb).call ln⟩)
     ·intro e1 w1 cc dS cI dX hp aY hq;show ao _ _ _ _ _ _ _;exact dV (St.refl _) O O O fun A9 w9 ln=>ao.n (eO.dn O ln.below ⟨A9,O,ln.bF 0 O⟩)
     ·refine jC fun e1 w1 hb hp aY hq=>?_
      obtain⟨A8,c8,LM,hT⟩:=(hp 3 _ _ (by kernel_rfl) rfl rfl (by kernel_rfl));obtain⟨A9,Fk,jR⟩:=(hp 5 _ _ (by kernel_rfl) rfl rfl (by kernel_rfl));refine fp 0 hT O jR (by exact LM) (by exact Fk) O ?_;intro AZ cZ wZ hZ;exact ao.n (fH.dn O ⟨AZ,cZ,O,hZ⟩)
     ·intro e1 w1 cc dS cI dX hp aY hq;show ao _ _ _ _ _ _ _;refine pF O (by exact aY 9 _ O (by kernel_rfl)) O (ao.n (fL O (by exact O)))
     ·refine rJ 1 fun e1 w1 hp aY hq=>?_
      have fe:=hp 6 _ _ (by kernel_rfl) O O (by kernel_rfl);obtain⟨AZ,cZ,Fl,hT⟩:=(hp 6 _ _ (by kernel_rfl) rfl rfl (by kernel_rfl));refine als (ih (r+1) (st++ [(q:Int)]) AZ cZ (bH A4 n AR N cR AD N cD::az 2 As r cs st::fX) _ A c rs H (by omega) (by rw [dI,ax];rfl) Nj (pC _ (pC _ Ij)) lG (by omega) hT) O (by exact aK (fun v=> [Value.agg #[ak n,.slice AR N cR,.slice AD N cD],.slice Aa N N,v,.slice A H.length c]) Fl) O ?_;rintro _ w9 ⟨A',c',rs',rfl,gg,iM⟩;rw [Mq]at gg iM|-;exact ao.n (fH.dn O ⟨A',c',rs',O,gg,iM⟩)
     ·refine dP 2 fun e1 w1 hp aY hq=>?_
      have fe:=hp 8 _ _ (by kernel_rfl) O O (by kernel_rfl);obtain⟨A',c',rs',LN,gg,hT⟩:=(hp 8 _ _ (by kernel_rfl) rfl rfl (by kernel_rfl));refine pF O (by exact LN) O (ao.n ?_);exact eO.dn O (Below.refl _ _) ⟨A',c',rs',O,gg,hT⟩
    intro u4 w4 _ Nr _ _;obtain⟨A',c',rs',z8,gg,hT⟩:=Nr 9 _ rfl (by kernel_rfl);rw [<-LX]at z8 gg hT;refine GQ (F:=[(1,.slice Aa N N),(2,.slice As r cs),(3,.slice A' (cap (F++ ((nt n R B st (q+1)).flatMap fun e=>fZ n R B k (st++ [e])))).length c'),(4,.pointer A4),(9,ak r),(10,ak q)]) ⟨O,O,z8,O,O,O,av⟩ (iV O (aJ O (aT O (tQ ?_))));exact⟨(q+1,A',c',rs'),by show N - (q+1)<N - q;omega,(alH O),by show q+1<=N;omega,gg,hT⟩
   ·refine cM O ?_;refine eB [xP (aB (A4) 1),xS (AR) (N) (cR),xI ((q:Int)),xP (aB (AR) ((q:Int)).toNat),xI (gi (R) ((q:Int))),xI ((r:Int)),xB (decide ((gi (R) ((q:Int)))=((r:Int)))),xB (true),xS (Aa) (N) (N),xI ((q:Int)),xP (aB (Aa) ((q:Int)).toNat),xB (gb (La) ((q:Int))),xB (gb (La) ((q:Int))),xB (true),xI ((r:Int)),xB (decide (((r:Int))=((0:Int)))),xB (false),xP (aB (A4) 2),xS (AD) (N) (cD),xI ((q:Int)),xP (aB (AD) ((q:Int)).toNat),xS ((rg (JU) ((q:Int))).a) ((rg (JU) ((q:Int))).n) ((rg (JU) ((q:Int))).c),xS (As) (r) (cs),xI ((r:Int)),xI (((r:Int)) - ((1:Int))),xP (aB (As) (((r:Int)) - ((1:Int))).toNat),xI (gi (st) (((r:Int)) - ((1:Int)))),xB (decide (gi st ((r:Int) - 1)∈gl B q)),xB (decide (gi st ((r:Int) - 1)∈gl B q)),xB (decide (gi st ((r:Int) - 1)∈gl B q))] O (eQ O) ?_ ?_
    ·refine⟨fun _ _ hb _ _=>aW (uI.below hb) O Az,fun _ _ hb _ _=>a8 (uI.below hb) O Az,Dr O,fun _ _ hb _ _=>aF (qP.aq hb).2 O Az,fun _ _ hb _ _=>bh (qP.aq hb) O Az,Dr O,Dr O,fun _ _ _ _ _=>Dk O (by exact aK Value.bool (eP a1)),Dr O,Dr O,fun _ _ hb _ _=>au O (aF (Dm.aq hb).2 O Az),fun _ _ hb _ _=>au O (rG (Dm.aq hb) O (by omega) O O Az),Dr O,fun _ _ _ _ _=>Dk O (by exact aK Value.bool (a2)),Dr O,Dr O,fun _ _ _ _ _=>Dk O (by exact aK Value.bool (dk a3)),fun _ _ hb _ _=>au O (aW (uI.below hb) O Az),fun _ _ hb _ _=>au O (a8 (uI.below hb) O Az),Dr O,fun _ _ hb _ _=>au O (aF (tA.top.aq hb).2 O Az),fun _ _ hb _ _=>au O (b6 (tA.top.aq hb) O Az),Dr O,Dr O,fun _ _ _ _ _=>au O (dT O Az),fun _ _ hb _ _=>au O (aF (np.aq hb).2 O Az),fun _ _ hb _ _=>au O (bh (np.aq hb) O Az),?_,Dr O,Dr O,av⟩
     ·intro e1 w1 hb hp aY;refine au O (aL (Ci _ _ _ _ _ _ (Ub.aq hb) (by omega)) O ?_);rintro _ w2 ⟨rfl,ax⟩;subst ax;refine ao.n (d0 (by exact O))
    intro u w3 ib _;have hS:=hS.aq ib;refine fh O (aR _ O (fun h5=>?_) (fun h5=>?_))
    ·have kH:gi R q=(st.length:Int)/\ew n R B q/\(st.length=0\/gi st ((st.length:Int) - 1)∈gl B q):=⟨by omega,FX.1 a2,.inr (by rw [ax];exact h5)⟩;have Gc:=iG;rw [ay kH]at Gc;have LX:F++ ((nt n R B st (q+1)).flatMap fun e=>fZ n R B k (st++ [e]))=G++fZ n R B k (st++ [(q:Int)]):=by
      rw [Gc,List.flatMap_append,<-gN,hG];simp
     have Mq:=FP (fZ n R B k (st++ [(q:Int)]));have Nj:∀x∈st++ [(q:Int)],0<=x/\x< (N:Int):=fun x hx=>by
      rcases iR.1 hx with h | h
      ·exact Ni x h
      ·obtain rfl:=fm.1 h;omega
     generalize hH:cap G=H at*;refine jA [6,8] [.ex (.agg #[ak n,.slice AR N cR,.slice AD N cD]),yS (Aa) (N) (N),yS (As) (r) (cs),.pr (fun v w'=>∃A9 c9,v= .slice A9 r c9/\St w0 w' (az 2 A9 r c9 st::(aO 32 2 A H.length c rs H++ (bH A4 n AR N cR AD N cD::az 2 As r cs st::fX)))),yI ((q:Int)),.pr (fun v w'=>∃A9,v= .slice A9 1 1/\di w' A9 1 [(q:Int)]),.pr (fun v w'=>∃AZ cZ,v= .slice AZ (r+1) cZ/\St w0 w' (az 2 AZ (r+1) cZ (st++ [(q:Int)])::(aO 32 2 A H.length c rs H++ (bH A4 n AR N cR AD N cD::az 2 As r cs st::fX)))),yS (A) (H.length) (c),.pr (fun v w'=>∃A' c' rs',v= .slice A' (cap (G++fZ n R B k (st++ [(q:Int)]))).length c'/\rs'.length=(cap (G++fZ n R B k (st++ [(q:Int)]))).length/\St w0 w' (aO 32 2 A' (cap (G++fZ n R B k (st++ [(q:Int)]))).length c' rs' (cap (G++fZ n R B k (st++ [(q:Int)])))++ (bH A4 n AR N cR AD N cD::az 2 As r cs st::fX))),.pr (fun v w'=>∃A' c' rs',v= .slice A' (cap (G++fZ n R B k (st++ [(q:Int)]))).length c'/\rs'.length=(cap (G++fZ n R B k (st++ [(q:Int)]))).length/\St w0 w' (aO 32 2 A' (cap (G++fZ n R B k (st++ [(q:Int)]))).length c' rs' (cap (G++fZ n R B k (st++ [(q:Int)])))++ (bH A4 n AR N cR AD N cD::az 2 As r cs st::fX)))] (ly (ly (ly (cj.2 ⟨Ye.cN (fun v w w' h hb=>by obtain⟨A9,c9,hv,hT⟩:=h;exact⟨A9,c9,hv,hT.aq hb⟩),(ly (cj.2 ⟨Ye.cN (fun v w w' h hb=>by obtain⟨A9,hv,hT⟩:=h;exact⟨A9,hv,hT.aq hb⟩),(cj.2 ⟨Ye.cN (fun v w w' h hb=>by obtain⟨AZ,cZ,hv,hT⟩:=h;exact⟨AZ,cZ,hv,hT.aq hb⟩),(ly (cj.2 ⟨Ye.cN (fun v w w' h hb=>by obtain⟨A',c',rs',hv,gg,hT⟩:=h;exact⟨A',c',rs',hv,gg,hT.aq hb⟩),(cj.2 ⟨Ye.cN (fun v w w' h hb=>by obtain⟨A',c',rs',hv,gg,hT⟩:=h;exact⟨A',c',rs',hv,gg,hT.aq hb⟩),(fun _ h=>by cases h)⟩)⟩))⟩)⟩))⟩)))) ?_ ?_
     ·refine⟨?_,bQ O,bQ O,?_,bQ O,?_,?_,?_,?_,?_,av⟩
      ·intro e1 w1 cc dS cI dX hp aY hq;show ao _ _ _ _ _ _ _;have hX:Rd w1 A4 3 (fun q=> [Value.int .i64 (n:Int),.slice AR N cR,.slice AD N cD].getD q undef):=by { have cI:=pj cI (b:=1) (by kernel_rfl);rcases(show cc=0\/cc=1 by omega)with h | h; { exact Rd.below (FN hS) (dX h) }; { subst h;obtain⟨AZ,cZ,_,hT⟩:=hq 6 _ _ (by kernel_rfl) (by kernel_rfl) (by kernel_rfl) rfl rfl (by kernel_rfl);exact FN hT.tail } }
       refine alC 2 hX O (ao.n (fL O (by exact O)))
      ·refine cP fun e1 w1 hb hp aY hq=>?_
       refine aL (U4 As r cs st _ (Mm (hS.aq hb)) (by omega)) O ?_;rintro _ w9 ⟨A9,c9,rfl,ln⟩;exact ao.n (eO.dn O ln.below ⟨A9,c9,O,(hS.aq hb).call ln⟩)
      ·intro e1 w1 cc dS cI dX hp aY hq;show ao _ _ _ _ _ _ _;exact dV (St.refl _) O O O fun A9 w9 ln=>ao.n (eO.dn O ln.below ⟨A9,O,ln.bF 0 O⟩)
      ·refine jC fun e1 w1 hb hp aY hq=>?_
       obtain⟨A8,c8,LM,hT⟩:=(hp 3 _ _ (by kernel_rfl) rfl rfl (by kernel_rfl));obtain⟨A9,Fk,jR⟩:=(hp 5 _ _ (by kernel_rfl) rfl rfl (by kernel_rfl));refine fp 0 hT O jR (by exact LM) (by exact Fk) O ?_;intro AZ cZ wZ hZ;exact ao.n (fH.dn O ⟨AZ,cZ,O,hZ⟩)
      ·intro e1 w1 cc dS cI dX hp aY hq;show ao _ _ _ _ _ _ _;refine pF O (by exact aY 9 _ O (by kernel_rfl)) O (ao.n (fL O (by exact O)))
      ·refine rJ 1 fun e1 w1 hp aY hq=>?_
       have fe:=hp 6 _ _ (by kernel_rfl) O O (by kernel_rfl);obtain⟨AZ,cZ,Fl,hT⟩:=(hp 6 _ _ (by kernel_rfl) rfl rfl (by kernel_rfl));refine als (ih (r+1) (st++ [(q:Int)]) AZ cZ (bH A4 n AR N cR AD N cD::az 2 As r cs st::fX) _ A c rs H (by omega) (by rw [dI,ax];rfl) Nj (pC _ (pC _ Ij)) lG (by omega) hT) O (by exact aK (fun v=> [Value.agg #[ak n,.slice AR N cR,.slice AD N cD],.slice Aa N N,v,.slice A H.length c]) Fl) O ?_;rintro _ w9 ⟨A',c',rs',rfl,gg,iM⟩;rw [Mq]at gg iM|-;exact ao.n (fH.dn O ⟨A',c',rs',O,gg,iM⟩)
      ·refine dP 2 fun e1 w1 hp aY hq=>?_
       have fe:=hp 8 _ _ (by kernel_rfl) O O (by kernel_rfl);obtain⟨A',c',rs',LN,gg,hT⟩:=(hp 8 _ _ (by kernel_rfl) rfl rfl (by kernel_rfl));refine pF O (by exact LN) O (ao.n ?_);exact eO.dn O (Below.refl _ _) ⟨A',c',rs',O,gg,hT⟩
     intro u4 w4 _ Nr _ _;obtain⟨A',c',rs',z8,gg,hT⟩:=Nr 9 _ rfl (by kernel_rfl);rw [<-LX]at z8 gg hT;refine GQ (F:=[(1,.slice Aa N N),(2,.slice As r cs),(3,.slice A' (cap (F++ ((nt n R B st (q+1)).flatMap fun e=>fZ n R B k (st++ [e])))).length c'),(4,.pointer A4),(9,ak r),(10,ak q)]) ⟨O,O,z8,O,O,O,av⟩ (iV O (aJ O (aT O (tQ ?_))));exact⟨(q+1,A',c',rs'),by show N - (q+1)<N - q;omega,(alH O),by show q+1<=N;omega,gg,hT⟩
    ·have fK:=nM (fun h=>by rcases h.2.2 with h6 | h6; { omega }; { rw [ax]at h6;exact h5 h6 });refine aG O (aJ O (aT O (tQ ?_)));exact⟨(q+1,A,c,rs),by show N - (q+1)<N - q;omega,⟨O,O,aK (fun m:ah=>Value.slice A (cap m).length c) fK.symm,O,O,O,av⟩,by show q+1<=N;omega,by show rs.length=(cap _).length;rw [fK];exact lG,by show St w0 w3 (aO _ _ A (cap _).length c rs (cap _)++_);rw [fK];exact hS⟩
  ·have zX:q=N:=by omega
   subst zX;have oC:F++fZ n R B (k+1) st=G:=by rw [<-hG,fZ,hN]
   refine bw O (bA (ij O ?_));refine gK O ?_;rw [oC];exact⟨A,c,rs,O,lG,hS.sub ((fE _).append (((fE fX).cons _).cons _))⟩
theorem St.merge{w0 w:aa}{ks ks':List Ck}(h:St w0 w ks)(h':St w0 w ks')(hk:∀k∈ks,fw k.vs=false)(eM:∀k∈ks',fw k.vs=false)(he:∀k∈ks,∀k'∈ks',k.e≠k'.e):St w0 w (ks++ks'):=by
 refine⟨h.below,fun k hm=>?_,?_⟩
 ·rcases iR.1 hm with hm | hm
  ·exact h.own k hm
  exact h'.own k hm
 rw [List.filterMap_append,List.nodup_append];refine⟨h.apart,h'.apart,fun a ha b hb=>?_⟩;rintro rfl;obtain⟨k,hm,MN⟩:=List.mem_filterMap.1 ha;obtain⟨k',jw,yg⟩:=List.mem_filterMap.1 hb;have one:∀ {q:Ck},CP w0.heap.size w q->q.iX=some a->∃cur,w.heap[a]?=some (.cells cur q.e (0,0)):=fun {q} ho hq=>by
  obtain⟨_,_,_,⟨h1,_⟩ | ⟨g,o,cur,h1,_,h2,_⟩⟩:=ho
  ·unfold Ck.iX at hq;rw [h1]at hq;cases hq
  unfold Ck.iX at hq;rw [h1]at hq;obtain rfl:g=a:=dA hq;exact⟨cur,h2⟩
 obtain⟨c1,e1⟩:=one ((h.own k hm).O1 (hk k hm)) MN;obtain⟨c2,e2⟩:=one ((h'.own k' jw).O1 (eM k' jw)) yg;rw [e1]at e2;injection e2 with e2
 injection e2 with _ e2 _
 exact he k hm k' jw e2
theorem OG{t:ae}:∀ {rs:List aQ} {xss:ah},∀k∈dq t rs xss,fw k.vs=false/\k.e=t
 | [],_,k,h=>by simp [dq]at h
 | _::_,[],k,h=>by simp [dq]at h
 | r::rs,x::xss,k,h=>by
  simp only [dq,jn]at h;rcases h with rfl | h
  ·exact⟨tW _,O⟩
  ·exact OG k h
theorem N8{t1 t2:ae}{A:aj}{n c:Nat}{rs:List aQ}{xss:ah}:∀k∈aO t1 t2 A n c rs xss++ [],fw k.vs=false/\(k.e=t1\/k.e=t2):=fun k h=>by
 rw [eu]at h;rcases jn.1 h with rfl | h
 ·exact⟨Cg _,.inl O⟩
 exact⟨(OG k h).1,.inr (OG k h).2⟩
theorem eq_4{a b c d b' c' d':ad}(h1:b=b')(h2:c=c')(h3:d=d'):[a,b,c,d]=[a,b',c',d']:=by rw [h1,h2,h3]
theorem U7(n:Nat)(A D:aj)(cA cD:Nat)(R:ai)(rs:List aQ)(B:ah)(w:aa)(hR:di w A R.length R)(hB:bz w D B.length rs B)(hP:gE n R B):
 aN prog 142 [.agg #[ak n,.slice A R.length cA,.slice D B.length cD]] w (fun v w'=>∃A' c' rs',v= .tuple #[.slice A' (cap (aC n R B)).length c',.bool (decide ((aC n R B).length<=400))]/\rs'.length=(cap (aC n R B)).length/\St w w' (aO 32 2 A' (cap (aC n R B)).length c' rs' (cap (aC n R B))++ [])):=by
 have hn:=hP.n1;have hle:=hP.len;have dO:=aat (n:=n) (R:=R) (B:=B) (by omega);have Mr:=HE (l:=aC n R B);obtain⟨N,hN⟩:∃N,R.length=N:=⟨_,rfl⟩;have nH:=fun(w:aa) hR hB=>afo n A D cA cD R rs B w hR hB hP
 have hex:=fun(w:aa) La hR hB Aa xV=>afp w n A D cA cD R rs B N hN hR hB hP Aa La xV
 rw [hle]at hB nH;rw [hN]at hR hB nH;rw [hle,hN];refine bI func142 O ntmps142 O (vZ O) (bc O (mW (St.refl w) O O ?_));intro A1 wB aE;have h1:Rd wB A1 3 (fun j=> [Value.int .i64 (n:Int),.slice A N cA,.slice D N cD].getD j undef):=aE.rd 0 O;have hR:=aE.gH hR;have hB:=aE.bS hB;have aE:=aE.none;refine aI O ?_;refine jA [5] [.ex (.agg #[ak n,.slice A N cA,.slice D N cD]),.ex (.agg #[ak n,.slice A N cA,.slice D N cD]),.pr (fun v w'=>∃A7 L,v= .slice A7 N N/\tm N L (fun x=>ew n R B x)/\St wB w' [gm 4 A7 N N L]),.pr (fun v w'=>∃A8,v= .slice A8 0 0/\St wB w' [az 2 A8 0 0 []]),.pr (fun v w'=>∃A9,v= .slice A9 0 0/\St wB w' [b9 32 A9 0 0 []]),.pr (fun v w'=>∃A' c' rs',v= .slice A' (cap (aC n R B)).length c'/\rs'.length=(cap (aC n R B)).length/\St wB w' (aO 32 2 A' (cap (aC n R B)).length c' rs' (cap (aC n R B))++ [])),.pr (fun v w'=>∃A' c' rs',v= .slice A' (cap (aC n R B)).length c'/\rs'.length=(cap (aC n R B)).length/\St wB w' (aO 32 2 A' (cap (aC n R B)).length c' rs' (cap (aC n R B))++ []))] (ly (ly (cj.2 ⟨Ye.cN (fun v w w' h hb=>by obtain⟨A7,L,hv,hL,hT⟩:=h;exact⟨A7,L,hv,hL,hT.aq hb⟩),(cj.2 ⟨Ye.cN (fun v w w' h hb=>by obtain⟨A8,hv,hT⟩:=h;exact⟨A8,hv,hT.aq hb⟩),(cj.2 ⟨Ye.cN (fun v w w' h hb=>by obtain⟨A9,hv,hT⟩:=h;exact⟨A9,hv,hT.aq hb⟩),(cj.2 ⟨Ye.cN (fun v w w' h hb=>by obtain⟨A',c',rs',hv,gg,hT⟩:=h;exact⟨A',c',rs',hv,gg,hT.aq hb⟩),(cj.2 ⟨Ye.cN (fun v w w' h hb=>by obtain⟨A',c',rs',hv,gg,hT⟩:=h;exact⟨A',c',rs',hv,gg,hT.aq hb⟩),(fun _ h=>by cases h)⟩)⟩)⟩)⟩)⟩))) ?_ ?_
 ·refine⟨cP fun _ _ hb _ _ _=>alC 2 (Rd.below h1 hb) O (bq O O),cP fun _ _ hb _ _ _=>alC 2 (Rd.below h1 hb) O (bq O O),?_,?_,?_,?_,?_,av⟩
  ·refine cP fun e1 w1 hb hp aY hq=>?_
   refine aL (nH _ (hR.aq hb) (hB.aq hb)) O ?_;rintro _ w9 ⟨A7,L,rfl,hL,ax⟩;refine ao.n ?_;exact eO.dn O ax.below ⟨A7,L,O,hL,by have:=((St.refl wB).aq hb).call ax;rwa [eu]at this⟩
  ·refine cP fun e1 w1 hb hp aY hq=>?_
   refine jO (St.refl _) O fun A8 w9 ax=>ao.n ?_;exact eO.dn O ax.below ⟨A8,O,by have:=((St.refl wB).aq hb).call ax;rwa [eu]at this⟩
  ·refine cP fun e1 w1 hb hp aY hq=>?_
   refine jO (St.refl _) O fun A9 w9 ax=>ao.n ?_;exact eO.dn O ax.below ⟨A9,O,by have:=((St.refl wB).aq hb).call ax;rwa [eu]at this⟩
  ·refine jC fun e1 w1 hb hp aY hq=>?_
   obtain⟨A7,L,h7,hL,eo⟩:=(hp 2 _ _ (by kernel_rfl) rfl rfl (by kernel_rfl));obtain⟨A8,h8,eK⟩:=(hp 3 _ _ (by kernel_rfl) rfl rfl (by kernel_rfl));obtain⟨A9,h9,jR⟩:=(hp 4 _ _ (by kernel_rfl) rfl rfl (by kernel_rfl));have SF:=jR.merge eo (fun k hk=>by obtain rfl:=fm.1 hk;rfl) (fun k hk=>by obtain rfl:=fm.1 hk;exact Gw _) (fun k hk k' eM=>by obtain rfl:=fm.1 hk;obtain rfl:=fm.1 eM;exact(by decide:¬(32=4)));have vx:=eK.merge SF (fun k hk=>by obtain rfl:=fm.1 hk;rfl) (fun k hk=>by rcases jn.1 hk with rfl | hk; { rfl }; { obtain rfl:=fm.1 hk;exact Gw _ }) (fun k hk k' eM=>by obtain rfl:=fm.1 hk;rcases jn.1 eM with rfl | eM; { exact(by decide:¬(2=32)) }; { obtain rfl:=fm.1 eM;exact(by decide:¬(2=4)) });refine als (hex wB L hR hB A7 hL n 0 [] A8 0 [gm 4 A7 N N L] _ A9 0 [] [] (by omega) rfl (fun x hx=>by cases hx) (fm.2 rfl) rfl (bm _) vx) rfl (by exact eq_4 h7 h8 h9) rfl ?_;rintro _ w9 ⟨A',c',rs',rfl,gg,iM⟩;rw [List.nil_append,dO]at gg iM|-;exact ao.n (fH.dn O ⟨A',c',rs',O,gg,iM.sub ((fE _).append (List.nil_sublist _))⟩)
  refine dP 1 fun e1 w1 hp aY hq=>?_
  have fe:=hp 5 _ _ (by kernel_rfl) O O (by kernel_rfl);obtain⟨A',c',rs',gZ,gg,hT⟩:=(hp 5 _ _ (by kernel_rfl) rfl rfl (by kernel_rfl));refine pF O (by exact gZ) O (ao.n ?_);exact eO.dn O (Below.refl _ _) ⟨A',c',rs',O,gg,hT⟩
 intro u w2 _ hu _ _;obtain⟨A',c',rs',hv,gg,hT⟩:=hu 6 _ rfl (by kernel_rfl);refine GQ (F:=[(4,.slice A' (cap (aC n R B)).length c')]) ⟨hv,av⟩ (iV O (bk O O (bM O ?_)));refine ah7 O O ?_;refine⟨A',c',rs',?_,gg,(by rw [eu]at hT;exact aE.none.call hT)⟩;show Value.tuple #[_,Value.bool (decide _)]=_;rw [show decide ((((cap (aC n R B)).length:Nat):Int)<=400)=decide ((aC n R B).length<=400) from ke.2 (by omega)]
theorem aiK(A:aj)(n c:Nat)(rs:List aQ)(M:ah)(w:aa)(hR:bz w A n rs M)(hn:n<=9223372036854775807)(hM:bg M):
 aN prog 163 [.agg #[.slice A n c]] w (fun v w'=>
  (500<aH M M.length/\v= .tuple #[.agg #[ak 0,.slice none 0 0,.slice none 0 0],ak 3]/\St w w' [])\/
  (aH M M.length<=500/\∃AR c AD d rs,v= .tuple #[.agg #[ak (M.length:Int),.slice AR (aH M M.length) c,.slice AD (aH M M.length) d],ak 0]/\rs.length=aH M M.length/\St w w' (az 2 AR (aH M M.length) c (bn M M.length)::(aO 32 2 AD (aH M M.length) d rs (bE M)++ [])))):=by
 refine bI func163 O ntmps163 O (sg O O) (bc O (ik (St.refl w) O O ?_));intro A1 w1 aE;refine kO aE O fun A2 w2 aD=>ar O (alC 0 (aD.rd 1 O) O (aL (NM A n c rs M _ (aD.bS hR) hn) O ?_));rintro _ w3 ⟨rfl,ax⟩;have aM:=aD.aq ax.below
 first | refine eZ rfl rfl ?_ | refine fY rfl rfl ?_
 refine aI O (oM O (fun h=>h hM) (aG O (alC 0 (aM.rd 1 O) O (aL (U8 A n c rs M _ (aM.bS hR) hM) O ?_))));rintro _ w4 ⟨AR,cR,AD,cD,bp,rfl,iK,rW⟩;have aU:=(aM.call rW).perm ku;refine kO aU O fun A4 w5 aV=>bW 3 0 aV O O O O O O O ?_;intro w6 aZ;have aZ:St w w6 (bH A4 (M.length:Int) AR (aH M M.length) cR AD (aH M M.length) cD::bH A2 0 none 0 0 none 0 0::Bx 24 1 A1 [.slice A n c]::(az 2 AR (aH M M.length) cR (bn M M.length)::(aO 32 2 AD (aH M M.length) cD bp (bE M)++ []))):=aZ;refine ar O (aW (aZ.rd 0 O) O (alw (j:=1) (aZ.rd 0 O) (by exact aK Value.pointer O) O O O O ?_));refine bk O O (aI O ?_);refine aR _ O (fun h1=>?_) (fun h1=>?_)
 ·refine aG O (Bd O (bW 3 1 aZ O O O O O O O ?_));intro w7 a6;refine bM O (jI O (a6.rd 1 O) O ?_);exact .inl ⟨by omega,O,a6.none⟩
 refine aG O (alC 2 (aZ.rd 0 O) O (bW 3 1 aZ O O O O O O O ?_));intro w7 a6;refine bM O (jI O (a6.rd 1 O) O ?_);exact .inr ⟨by omega,AR,cR,AD,cD,bp,O,iK,a6.tail.tail.tail⟩
theorem aa3{L:List Bool}{x:Nat}(h:x<L.length):gb L x=L[x]:=by
 unfold gb;rw [gI,dd,gO h,Option.getD_some]
theorem QJ:∀(L:List Bool) (x:Nat) (h:x<L.length),L[x]=false->(L.set x true).count false+1=L.count false
 | b::r,0,_,e=>by
  have e:b=false:=e;subst e;simp [List.set_cons_zero]
 | b::r,x+1,h,e=>by
  have h:x+1<r.length+1:=h;have ih:=QJ r x (by omega) e;simp only [List.set_cons_succ,mV];omega
theorem aiB(L:List Bool)(x:Nat)(h:x<L.length)(e:L[x]=true):L.set x true=L:=by
 apply jX (by simp);intro i h1 h2;rw [List.getElem_set]
 split
 ·rename_i h3;subst h3;exact e.symm
 rfl
theorem afy(n:Int)(A D:aj)(cA N m cD:Nat)(Af:aj)(nf cf:Nat)(rs:List aQ)(fl:ah)(w:aa)(hF:bz w Af nf rs fl)(hN:N<=500)(hr:∀l∈fl,l.length<=1000/\∀x∈l,0<=x/\x< (N:Int))(Ga:nf<=100000):
 aN prog 143 [.agg #[ak n,.slice A N cA,.slice D m cD],.slice Af nf cf] w (fun v w'=>∃b:Bool,v= .bool b/\(b=true↔∀x:Int,0<=x->x< (N:Int)->∃l∈fl,x∈l)/\St w w' []):=by
 have iw:=hF.len;refine bI func143 O ntmps143 O (du O) (bc O (mW (St.refl w) O O ?_));intro A1 w1 aE;have h1:Rd w1 A1 3 (fun j=> [Value.int .i64 n,.slice A N cA,.slice D m cD].getD j undef):=aE.rd 0 O;refine ar O (aW h1 O (a8 h1 O (bk O O (xA (v:=false) N aE O O (by omega) ?_))));intro A5 w2 aD;have aD:St w w2 [gm 4 A5 N N (jH (mO N) (fl.take 0).flatten),bH A1 n A N cA D m cD]:=aD;refine aI O ?_;refine Cd.loop (α:=Nat×Nat) (fun z=> [(1,.slice Af nf cf),(2,.pointer A1),(5,.slice A5 N N),(6,ak (z.2:Int)),(7,ak (z.1:Int))]) (fun z w'=>z.1<=nf/\z.2+ (jH (mO N) (fl.take z.1).flatten).count false=N/\St w w' [gm 4 A5 N N (jH (mO N) (fl.take z.1).flatten),bH A1 n A N cA D m cD]) (fun z=>nf - z.1) (0,0) (alH O) ⟨bm _,by simp [jH,mO],aD⟩ ?_;clear aD aE h1;rintro⟨i,k⟩ e w3 ⟨hi,hk,hS⟩;dsimp only at hi hk hS|-;refine bc O (bk O O (aI O ?_));refine aR _ O (fun h2=>?_) (fun h2=>?_)
 ·have BP:i<fl.length:=by omega
  have kV:gl fl i∈fl:=by rw [cK BP];exact dH _
  have fR:=hr _ kV;have iS:=((hS.bS hF).at_ (i:=(i:Int)) (by omega) (by omega)).1;refine cM O ?_;refine Cd.loop (α:=Nat×Nat) (fun z=> [(1,.slice Af nf cf),(2,.pointer A1),(5,.slice A5 N N),(6,ak (z.2:Int)),(7,ak i),(8,ak (z.1:Int))]) (fun z w'=>z.1<=(rg rs i).n/\z.2+ (jH (mO N) ((fl.take i).flatten++ (gl fl i).take z.1)).count false=N/\St w w' [gm 4 A5 N N (jH (mO N) ((fl.take i).flatten++ (gl fl i).take z.1)),bH A1 n A N cA D m cD]) (fun z=> (rg rs i).n - z.1) (0,k) (alH O) ⟨bm _,by rw [List.take_zero,eu];exact hk,by rw [List.take_zero,eu];exact hS⟩ ?_;clear hS hk;rintro⟨j,k⟩ e w4 ⟨hj,hk,hS⟩;dsimp only at hj hk hS|-;have hM:=hS.bS hF;have gS:=hM.at_ (i:=(i:Int)) (by omega) (by omega);have sR:=Om N ((fl.take i).flatten++ (gl fl i).take j);refine bc O (aF hM.top.2 O (b6 hM.top O ?_));refine bk O O (aI O ?_);refine aR _ O (fun h3=>?_) (fun h3=>?_)
  ·have lR:j< (gl fl i).length:=by omega
   have hx:=fR.2 _ (gi_in lR);obtain⟨x,Ce⟩:∃x:Nat,gi (gl fl i) j=x:=⟨(gi (gl fl i) j).toNat,by omega⟩;have iG:jH (mO N) ((fl.take i).flatten++ (gl fl i).take (j+1))=(jH (mO N) ((fl.take i).flatten++ (gl fl i).take j)).set x true:=by
    rw [CC lR,<-gN,VX,Ce,gI]
   rw [Ce]at hx;generalize jH (mO N) ((fl.take i).flatten++ (gl fl i).take j)=L at*;have hgx:=aa3 (L:=L) (x:=x) (by omega);have qR:=QJ L x (by omega);have Gm:=aiB L x (by omega);rw [<-hgx]at qR Gm;refine aG O (aF hM.top.2 O (b6 hM.top O (ar O (aF gS.2 O (bh gS O ?_)))));rw [Ce];refine aF (hS.ji 0 O).2 O (rG (hS.ji 0 O) O (by omega) O O ?_);generalize hbb:gb L x=bb at*;cases bb with
   | false => --dup 2
    have qR:=qR O
    first | refine eZ rfl rfl ?_ | refine fY rfl rfl ?_
    refine aI O (Cd.im O (aG O (aF hM.top.2 O (b6 hM.top O (ar O (aF gS.2 O (bh gS O ?_)))))));rw [Ce];refine aF (hS.ji 0 O).2 O (tn 0 hS O O O (by omega) ?_);intro w5 aV;rw [gI]at aV;refine ar O (aJ O (ar O (aJ O (aT O (tQ ?_)))));exact⟨(j+1,k+1),by show(rg rs i).n - (j+1)< (rg rs i).n - j;omega,(alH O),by show j+1<=_;omega,by show k+1+_=N;rw [iG];omega,by show St w w5 [gm _ A5 N N (jH _ _),_];rw [iG];exact aV⟩
   | true=>
    have Gm:=Gm O
    first | refine eZ rfl rfl ?_ | refine fY rfl rfl ?_
    refine aI O (Cd.gq O ?_);refine aG O (aJ O (aT O (tQ ?_)));exact⟨(j+1,k),by show(rg rs i).n - (j+1)< (rg rs i).n - j;omega,(alH O),by show j+1<=_;omega,by show k+_=N;rw [iG,Gm];exact hk,by show St w w4 [gm _ A5 N N (jH _ _),_];rw [iG,Gm];exact hS⟩
  ·have zM:jH (mO N) ((fl.take i).flatten++ (gl fl i).take j)=jH (mO N) (fl.take (i+1)).flatten:=by
    rw [show(gl fl i).take j=gl fl i from lp (by omega),su BP,List.flatten_append,<-cK BP];simp
   rw [zM]at hk hS;refine bw O (bA (dh O (aJ O (aT O (tQ ?_)))));exact⟨(i+1,k),by show nf - (i+1)<nf - i;omega,(alH O),by show i+1<=nf;omega,hk,hS⟩
 ·have db:i=fl.length:=by omega
  rw [db,List.take_length]at hS hk;have M0:=VM (m:=N) (F:=fl) (fun l hl=> (hr l hl).2);have h1:Rd w3 A1 3 (fun j=> [Value.int .i64 n,.slice A N cA,.slice D m cD].getD j undef):=hS.rd 1 O;refine bw O (bA (dh O ?_));refine aW h1 O (a8 h1 O ?_);refine bk O O (bM O ?_);refine dz O ⟨_,O,?_,hS.none⟩;rw [<-M0,<-List.count_eq_zero,kz];omega
def pH(a b:ai)(i:Nat):Nat:=((List.range i).filter fun k:Nat=>decide (gi a k≠gi b k)).length
theorem aad(a b:ai)(i:Nat):pH a b (i+1)=if gi a i≠gi b i then pH a b i+1 else pH a b i:=by
 unfold pH;rw [nZ,oR,dI]
 by_cases c:gi a i≠gi b i
 ·rw [ay c];simp [c]
 rw [aw c];simp [c]
theorem aac(a b:ai)(i:Nat):pH a b i<=i:=by
 refine l5 (rD _ _) ?_;rw [qE];exact bB _
theorem NN(A A2:aj)(n c m c2:Nat)(a b:ai)(w:aa)(hA:di w A n a)(hB:di w A2 m b)(hm:m=n)(hn:n<=1000):
 aN prog 219 [.slice A n c,.slice A2 m c2] w (fun v w'=>v=ak ((pH a b n:Nat):Int)/\St w w' []):=by
 have ha:=hA.1;have hb:=hB.1;refine bI func219 O ntmps219 O (du O) (b8 O ?_);refine Cd.loop (α:=Nat) (fun i=> [(0,.slice A n c),(1,.slice A2 m c2),(5,ak ((pH a b i:Nat):Int)),(6,ak i)]) (fun i w'=>i<=n/\St w w' []) (fun i=>n - i) 0 (alH O) ⟨bm _,St.refl w⟩ ?_;rintro i e w2 ⟨hi,hS⟩;have wM:=aac a b i;have oA:=aad a b i;have xR:=hS.gH hA;have tA:=hS.gH hB;refine bc O (bk O O (aI O ?_));refine aR _ O (fun h2=>?_) (fun h2=>?_)
 ·refine cM O (eB [xS (A) (n) (c),xI ((i:Int)),xP (aB (A) ((i:Int)).toNat),xI (gi (a) ((i:Int))),xS (A2) (m) (c2),xI ((i:Int)),xP (aB (A2) ((i:Int)).toNat),xI (gi (b) ((i:Int))),xB (decide (¬(gi (a) ((i:Int)))=(gi (b) ((i:Int)))))] O (eQ O) ?_ ?_)
  ·exact⟨Dr O,Dr O,fun _ _ hb _ _=>aF (xR.aq hb).2 O Az,fun _ _ hb _ _=>bh (xR.aq hb) O Az,Dr O,Dr O,fun _ _ hb _ _=>aF (tA.aq hb).2 O Az,fun _ _ hb _ _=>bh (tA.aq hb) O Az,Dr O,av⟩
  intro u w3 ib _;have aM:=hS.aq ib;refine fh O (aR _ O (fun h3=>?_) (fun h3=>?_))
  ·rw [ay h3]at oA;refine aG O (aJ O (ar O (aJ O (aT O (tQ ?_)))));exact⟨i+1,by show n - (i+1)<n - i;omega,⟨O,O,aK (fun m:Nat=>Value.int .i64 (m:Int)) oA.symm,O,av⟩,by omega,aM⟩
  rw [aw h3]at oA;refine aG O (aJ O (aT O (tQ ?_)));exact⟨i+1,by show n - (i+1)<n - i;omega,⟨O,O,aK (fun m:Nat=>Value.int .i64 (m:Int)) oA.symm,O,av⟩,by omega,aM⟩
 obtain rfl:i=n:=by omega
 refine bw O (bA (ij O ?_));exact jj O ⟨O,hS⟩
def sA(N:Nat):List aQ->List (List aQ)->List (ah)->List Ck
 | o::os,r::rss,X::Xs=>aO 32 2 o.a N o.c r X++sA N os rss Xs
 | _,_,_=> []
theorem KV(N:Nat):∀ {os:List aQ} {rss:List (List aQ)} {Xs:List (ah)} {i:Nat},i<os.length->rss.length=os.length->Xs.length=os.length->
 (sA N os rss Xs).Perm (aO 32 2 (os.getD i eA).a N (os.getD i eA).c (rss.getD i []) (Xs.getD i [])++sA N (os.eraseIdx i) (rss.eraseIdx i) (Xs.eraseIdx i))
 | o::os,r::rss,X::Xs,0,_,_,_=>List.Perm.refl _
 | o::os,r::rss,X::Xs,i+1,h,h1,h2=>by
  have ih:=KV N (os:=os) (rss:=rss) (Xs:=Xs) (i:=i) (by simpa using h) (by simpa using h1) (by simpa using h2);simp only [List.getD_cons_succ,List.eraseIdx_cons_succ,sA];refine(ih.append_left _).trans ?_;rw [<-gN,<-gN];exact ku.append_right _
 | [],_,_,_,h,_,_=>absurd h (jM _)
 | _::_,[],_,_,_,h,_=>by simp at h
 | _::_,_::_,[],_,_,_,h=>by simp at h
theorem K9{α:Type}(x:α):∀(l:List α) (i:Nat),(l.set i x).eraseIdx i=l.eraseIdx i
 | [],_=>rfl
 | _::_,0=>rfl
 | a::r,i+1=>by simp only [List.set_cons_succ,List.eraseIdx_cons_succ,K9 x r i]
theorem Z0(N:Nat){os:List aQ}{rss:List (List aQ)}{Xs:List (ah)}{i:Nat}(r:List aQ)(X:ah)(h:i<os.length)(h1:rss.length=os.length)(h2:Xs.length=os.length):(aO 32 2 (os.getD i eA).a N (os.getD i eA).c r X++sA N (os.eraseIdx i) (rss.eraseIdx i) (Xs.eraseIdx i)).Perm (sA N os (rss.set i r) (Xs.set i X)):=by
 have h9:=(KV N (os:=os) (rss:=rss.set i r) (Xs:=Xs.set i X) (i:=i) h (by rw [jK];exact h1) (by rw [jK];exact h2)).symm;rw [K9,K9]at h9;have e1:(rss.set i r).getD i []=r:=by rw [dd,List.getElem?_set_self (by omega)];rfl
 have e2:(Xs.set i X).getD i []=X:=by rw [dd,List.getElem?_set_self (by omega)];rfl
 rwa [e1,e2]at h9
theorem QM(N:Nat):∀ {os:List aQ} {rss:List (List aQ)} {Xs:List (ah)} (o:aQ) (r:List aQ) (X:ah),rss.length=os.length->Xs.length=os.length->sA N (os++ [o]) (rss++ [r]) (Xs++ [X])=sA N os rss Xs++aO 32 2 o.a N o.c r X
 | [],[],[],o,r,X,_,_=>by simp [sA]
 | a::os,b::rss,c::Xs,o,r,X,h,h'=>by
  simp only [List.cons_append,sA,QM N (os:=os) (rss:=rss) (Xs:=Xs) o r X (by simpa using h) (by simpa using h'),gN]
 | [],_::_,_,_,_,_,h,_=>by simp at h
 | [],[],_::_,_,_,_,_,h=>by simp at h
 | _::_,[],_,_,_,_,h,_=>by simp at h
 | _::_,_::_,[],_,_,_,_,h=>by simp at h
open Classical in
noncomputable def u7(n:Nat)(fl:ah)(i a m:Nat):ai:=((List.range m).filter fun b=>decide (jW n fl i a b/\b≠a)).map fun b:Nat=> (b:Int)
theorem VE(n:Nat)(fl:ah)(i a:Nat):u7 n fl i a fl.length=sX n fl i a:=rfl
theorem agF{n:Nat}{fl:ah}{i a m:Nat}(h:jW n fl i a m/\m≠a):u7 n fl i a (m+1)=u7 n fl i a m++ [(m:Int)]:=by
 unfold u7;rw [nZ,oR,jm];rw [ur (by simpa using h)];rfl
theorem VG{n:Nat}{fl:ah}{i a m:Nat}(h:¬(jW n fl i a m/\m≠a)):u7 n fl i a (m+1)=u7 n fl i a m:=by
 unfold u7;rw [nZ,oR,jm];rw [rC (by simpa using h)];simp
theorem VF(n:Nat)(fl:ah)(i a m:Nat):(u7 n fl i a m).length<=m:=by
 unfold u7;rw [fj];refine l5 (rD _ _) ?_;rw [qE];exact bB _
theorem aae{n:Nat}{fl:ah}(qX:fl.Nodup)(hl:∀x∈fl,x.length=n){a b i:Nat}(ha:a<fl.length)(hb:b<fl.length)(hi:i<n):(pH (gl fl a) (gl fl b) n=1/\gi (gl fl a) i≠gi (gl fl b) i)↔(jW n fl i a b/\b≠a):=by
 unfold pH;constructor
 ·rintro⟨h1,h2⟩;refine⟨⟨ha,hb,fun k hk bt=>?_⟩,fun e=>h2 (by rw [e])⟩;obtain⟨y,hy⟩:=List.length_eq_one_iff.1 h1;have hm:∀q,q<n->gi (gl fl a) q≠gi (gl fl b) q->q=y:=fun q hq hd=>by
   have:q∈(List.range n).filter fun k:Nat=>decide (gi (gl fl a) k≠gi (gl fl b) k):=fU.2 ⟨gP.2 hq,eP hd⟩
   rw [hy]at this;exact fm.1 this
  refine nA fun hd=>bt ?_
  rw [hm k hk hd,hm i hi h2]
 rintro⟨h,bt⟩;have hd:gi (gl fl a) i≠gi (gl fl b) i:=fun e=>bt (Lk qX hl hb ha fun k hk=>by
  by_cases ek:k=i
  ·subst ek;exact e.symm
  exact(h.2.2 k hk ek).symm)
 refine⟨?_,hd⟩;have:(List.range n).filter (fun k:Nat=>decide (gi (gl fl a) k≠gi (gl fl b) k))=[i]:=by
  refine List.Perm.eq_singleton ?_;refine(rE (List.nodup_range.filter _) (by simp)).2 fun q=>?_
  rw [fU,gP,kz,fm];constructor
  ·rintro⟨hq,M9⟩;exact nA fun e=>M9 (h.2.2 q hq e)
  rintro rfl;exact⟨hi,hd⟩
 rw [this];rfl
noncomputable def sY(n:Nat)(fl:ah)(a b k i a':Nat):ai:=if a'<a then u7 n fl i a' fl.length else if a'=a then(if i<k then u7 n fl i a (b+1)else u7 n fl i a b)else []
noncomputable def sZ(n:Nat)(fl:ah)(a b k i:Nat):ah:=(List.range fl.length).map (sY n fl a b k i)
noncomputable def jU(n:Nat)(fl:ah)(a b k:Nat):List (ah):=(List.range n).map (sZ n fl a b k)
section
variable {n:Nat} {fl:ah} {a b k i:Nat}
theorem yD:(sZ n fl a b k i).length=fl.length:=by simp [sZ]
theorem Cr:(jU n fl a b k).length=n:=by simp [jU]
theorem Of(h:i<n):(jU n fl a b k).getD i []=sZ n fl a b k i:=by
 rw [dd,gO (by rw [Cr];exact h),Option.getD_some];simp [jU]
theorem Og{a':Nat}(h:a'<fl.length):gl (sZ n fl a b k i) a'=sY n fl a b k i a':=by
 rw [cK (by rw [yD];exact h)];simp [sZ]
theorem JB{a2 b2 k2:Nat}(h:∀i a',i<n->a'<fl.length->sY n fl a b k i a'=sY n fl a2 b2 k2 i a'):jU n fl a b k=jU n fl a2 b2 k2:=
 pB fun i hi=>pB fun a' ha=>h i a' (gP.1 hi) (gP.1 ha)
theorem agR:jU n fl 0 0 0=List.replicate n (List.replicate fl.length []):=by
 refine List.eq_replicate_iff.2 ⟨Cr,fun y hy=>?_⟩;obtain⟨i,_,rfl⟩:=dv.1 hy;refine List.eq_replicate_iff.2 ⟨yD,fun z hz=>?_⟩;obtain⟨a',_,rfl⟩:=dv.1 hz;unfold sY;rw [aw (jM _)]
 split
 ·rw [aw (jM _)];rfl
 rfl
theorem agP:jU n fl (a+1) 0 0=jU n fl a fl.length 0:=JB fun i a' _ ha=>by
 unfold sY
 by_cases c:a'<a
 ·rw [ay (by omega),ay c]
 rw [aw c]
 by_cases c2:a'=a
 ·subst c2;rw [ay (by omega),ay rfl,aw (jM _)]
 rw [aw (by omega),aw c2]
 split
 ·rw [aw (jM _)];rfl
 rfl
theorem agM:jU n fl a (b+1) 0=jU n fl a b n:=JB fun i a' hi ha=>by
 unfold sY;rw [aw (jM i),ay hi]
theorem agN(h:∀i,i<n->¬(jW n fl i a b/\b≠a)):jU n fl a (b+1) 0=jU n fl a b 0:=JB fun i a' hi ha=>by
 unfold sY;rw [aw (jM i),VG (h i hi),aw (jM i)]
theorem agQ(h:¬(jW n fl k a b/\b≠a)):jU n fl a b (k+1)=jU n fl a b k:=JB fun i a' hi ha=>by
 unfold sY
 by_cases c:a'<a
 ·rw [ay c,ay c]
 rw [aw c,aw c]
 by_cases c2:a'=a
 ·rw [ay c2,ay c2]
  by_cases c3:i=k
  ·subst c3;rw [ay (by omega),aw (by omega),VG h]
  by_cases c4:i<k
  ·rw [ay (by omega),ay c4]
  rw [aw (by omega),aw c4]
 rw [aw c2,aw c2]
theorem agO(hk:k<n)(ha:a<fl.length)(h:jW n fl k a b/\b≠a):(jU n fl a b k).set k ((sZ n fl a b k k).set a (gl (sZ n fl a b k k) a++ [(b:Int)]))=jU n fl a b (k+1):=by
 apply jX (by rw [jK,Cr,Cr]);intro i h1 h2;rw [Cr]at h2;rw [List.getElem_set];have e2:∀k' (hx:i< (jU n fl a b k').length),(jU n fl a b k')[i]=sZ n fl a b k' i:=fun k' hx=>by simp [jU]
 rw [e2 (k+1) (by rw [Cr];exact h2),e2 k (by rw [Cr];exact h2)]
 by_cases c:k=i
 ·subst c;rw [ay rfl];apply jX (by rw [jK,yD,yD]);intro a' h3 h4;rw [yD]at h4;have e3:∀k' (hx:a'< (sZ n fl a b k' k).length),(sZ n fl a b k' k)[a']=sY n fl a b k' k a':=fun k' hx=>by simp [sZ]
  rw [List.getElem_set,e3 (k+1) (by rw [yD];exact h4),e3 k (by rw [yD];exact h4),Og ha];unfold sY
  by_cases c2:a=a'
  ·subst c2;rw [ay rfl,aw (Nat.lt_irrefl _),ay rfl,aw (Nat.lt_irrefl _),aw (Nat.lt_irrefl _),ay rfl,ay (Nat.lt_succ_self _),agF h]
  rw [aw c2]
  by_cases c3:a'<a
  ·rw [ay c3,ay c3]
  rw [aw c3,aw c3,aw (fun e=>c2 e.symm),aw (fun e=>c2 e.symm)]
 rw [aw c];refine pB fun a' S1=>?_
 unfold sY
 by_cases c3:a'<a
 ·rw [ay c3,ay c3]
 rw [aw c3,aw c3]
 by_cases c2:a'=a
 ·rw [ay c2,ay c2]
  by_cases c4:i<k
  ·rw [ay c4,ay (by omega)]
  rw [aw c4,aw (by omega)]
 rw [aw c2,aw c2]
end
theorem aha{α:Type}(m o:α)(X R:List α):(m::o::(X++ [])++R).Perm (o::((X++ (m::R))++ [])):=by
 classical
 refine nC.2 fun z=>?_
 simp only [qk,mV,ql,List.cons_append];omega
structure od(w w':aa)(N n:Nat)(A3:aj)(c3:Nat)(os:List aQ)(rss:List (List aQ))(Xs:List (ah)):Prop where
 ol:os.length=n
 rl:rss.length=n
 xl:Xs.length=n
 on:∀i,i<n->(os.getD i eA).n=N
 rn:∀i,i<n->(rss.getD i []).length=N
 xn:∀i,i<n->(Xs.getD i []).length=N
 st:St w w' (b9 22 A3 n c3 os::(sA N os rss Xs++ []))
theorem od.aq{w w' qc:aa}{N n:Nat}{A3:aj}{c3:Nat}{os:List aQ}{rss:List (List aQ)}{Xs:List (ah)}(h:od w w' N n A3 c3 os rss Xs)(hb:Below w'.heap.size w' qc):od w qc N n A3 c3 os rss Xs:=⟨h.ol,h.rl,h.xl,h.on,h.rn,h.xn,h.st.aq hb⟩
theorem od.rows{w w':aa}{N n:Nat}{A3:aj}{c3:Nat}{os:List aQ}{rss:List (List aQ)}{Xs:List (ah)}(h:od w w' N n A3 c3 os rss Xs){k:Nat}(hk:k<n):
 St w w' (b9 22 A3 n c3 os::(aO 32 2 (os.getD k eA).a N (os.getD k eA).c (rss.getD k []) (Xs.getD k [])++sA N (os.eraseIdx k) (rss.eraseIdx k) (Xs.eraseIdx k))):=by
 have h9:=h.st;rw [eu]at h9;have h1:=h.ol;have h2:=h.rl;have h3:=h.xl;exact h9.perm ((KV N (by omega) (by omega) (by omega)).cons _)
theorem od.aO{w w':aa}{N n:Nat}{A3:aj}{c3:Nat}{os:List aQ}{rss:List (List aQ)}{Xs:List (ah)}(h:od w w' N n A3 c3 os rss Xs){k:Nat}(hk:k<n):bz w' (os.getD k eA).a N (rss.getD k []) (Xs.getD k []):=((h.rows hk).sub ((uw _ _).cons _)).s7 (h.xn k hk)
theorem getD_set_ne{α:Type}{l:List α}{i j:Nat}{x d:α}(h:i≠j):(l.set i x).getD j d=l.getD j d:=by
 rw [dd,dd,List.getElem?_set_ne h]
theorem RU{α:Type}{l:List α}{i:Nat}{x d:α}(h:i<l.length):(l.set i x).getD i d=x:=by
 rw [dd,List.getElem?_set_self h];rfl
theorem od.put{w w':aa}{N n:Nat}{A3:aj}{c3:Nat}{os:List aQ}{rss:List (List aQ)}{Xs:List (ah)}{w0 w1:aa}(h:od w0 w1 N n A3 c3 os rss Xs){k:Nat}(hk:k<n){r:List aQ}{X:ah}(hr:r.length=N)(hX:X.length=N)(hS:St w w' (b9 22 A3 n c3 os::(Vc.aO 32 2 (os.getD k eA).a N (os.getD k eA).c r X++sA N (os.eraseIdx k) (rss.eraseIdx k) (Xs.eraseIdx k)))):od w w' N n A3 c3 os (rss.set k r) (Xs.set k X):=by
 have h1:=h.ol;have h2:=h.rl;have h3:=h.xl;refine⟨h1,by rw [jK];exact h2,by rw [jK];exact h3,h.on,fun i hi=>?_,fun i hi=>?_,?_⟩
 ·by_cases e:k=i
  ·subst e;rw [RU (by omega)];exact hr
  rw [getD_set_ne e];exact h.rn i hi
 ·by_cases e:k=i
  ·subst e;rw [RU (by omega)];exact hX
  rw [getD_set_ne e];exact h.xn i hi
 rw [eu];exact hS.perm ((Z0 N r X (by omega) (by omega) (by omega)).cons _)
theorem afu(A:aj)(N c:Nat)(rs:List aQ)(fl:ah)(n:Nat)(w:aa)(hM:bz w A N rs fl)(L5:0<N)(hN:N<=400)(hn:n<=5)(hl:∀x∈fl,x.length=n)(qX:fl.Nodup):
 aN prog 203 [.slice A N c] w (fun v w'=>∃A3 c3 os rss,v= .slice A3 n c3/\od w w' N n A3 c3 os rss (jU n fl N 0 0)):=by
 have iw:=hM.len;have tK:∀f:Nat,f<N->gl fl f∈fl:=fun f hf=>by rw [cK (by omega)];exact dH _
 have cJ:∀f:Nat,f<N->(rg rs f).n=n:=fun f hf=>by
  have:=(hM.at_ (i:=(f:Int)) (by omega) (by omega)).1;rw [<-this];exact hl _ (tK f hf)
 have TW:=fun a b i (ha:a<N) (hb:b<N) (hi:i<n)=>aae (n:=n) (a:=a) (b:=b) (i:=i) qX hl (by omega) (by omega) hi
 have hz:=agR (n:=n) (fl:=fl);have Uh:=fun a=>agP (n:=n) (fl:=fl) (a:=a)
 rw [iw]at hz;simp only [iw]at Uh;have kW:∀a b k i,(sZ n fl a b k i).length=N:=fun a b k i=>by rw [yD,iw]
 refine bI func203 O ntmps203 O (du O) (bc O (jO (St.refl w) O ?_));intro A3 w1 aE;have vy:od w w1 N 0 A3 0 [] [] (List.replicate 0 (List.replicate N [])):=⟨O,O,O,fun i h=>absurd h (jM _),fun i h=>absurd h (jM _),fun i h=>absurd h (jM _),aE⟩;clear aE;refine aI O (Cd.loop (α:=Nat×(aj×Nat)×List aQ×List (List aQ)) (fun z=> [(0,.slice A N c),(3,.slice z.2.1.1 z.1 z.2.1.2),(4,ak (z.1:Int))]) (fun z w'=>z.1<=n/\od w w' N z.1 z.2.1.1 z.2.1.2 z.2.2.1 z.2.2.2 (List.replicate z.1 (List.replicate N []))) (fun z=>n - z.1) (0,(A3,0),[],[]) (alH O) ⟨bm _,vy⟩ ?_);clear vy;rintro⟨i,⟨A3,c3⟩,os,rss⟩ e w2 ⟨hi,hS⟩;dsimp only at hi hS|-;have vx:=hS.st.bS hM;have mL:=cJ 0 L5;refine bc O (bk O O (ar O ?_));refine cT 12 O (fun _=>?_) (fun h=>absurd (by omega) h);refine au O (ar O (au O (ar O (au O ?_))));refine alp (i:=0) vx.top.2 O O O (by omega) (by omega) (au O ?_);refine alx (i:=0) vx.top O (by show 0<N;omega) O O ?_;refine au O (bk O O (au O (aI O ?_)));have e0:(rg rs 0).n=n:=mL;rw [e0];refine aR _ O (fun h2=>?_) (fun h2=>?_)
 ·have db:i<n:=by omega
  refine aG O (bk O O ?_);refine Hn N hS.st O O (by omega) ?_;intro mn w3 aM;have aM:=GG (t:=2) N aM;have aM:=aM.perm (aha _ _ _ _);refine mr aM O O O fun A26 w4 aU=>oe 1 aU O (aU.ie 0 O) O O O (by omega) (by omega) O ?_;intro AZ cZ w5 aV;have aV:=aV.tail;have h1:=hS.ol;have Sd:=hS.rl;have h3:=hS.xl;have qR:=QM N (os:=os) (rss:=rss) (Xs:=List.replicate i (List.replicate N [])) ⟨mn,N,N⟩ (List.replicate N eA) (List.replicate N []) (by omega) (by simp;omega);refine ar O (aJ O (aT O (tQ ?_)));refine⟨(i+1,(AZ,cZ),os++ [⟨mn,N,N⟩],rss++ [List.replicate N eA]),by show n - (i+1)<n - i;omega,(alH O),by show i+1<=n;omega,?_⟩;have oy:∀ {α:Type} {l:List α} {x d:α} {j:Nat},l.length=i->j<i+1->(l++ [x]).getD j d=if j<i then l.getD j d else x:=fun {α l x d j} hl hj=>by
   rw [dd]
   by_cases c:j<i
   ·rw [ay c,mq (by omega),dd]
   obtain rfl:j=l.length:=by omega
   rw [aw c];simp
  refine⟨by simp [h1],by simp [Sd],by simp,fun j hj=>?_,fun j hj=>?_,fun j hj=>?_,?_⟩
  ·rw [oy h1 hj]
   split
   ·exact hS.on j (by assumption)
   rfl
  ·rw [oy Sd hj]
   split
   ·exact hS.rn j (by assumption)
   simp
  ·rw [dd,List.getElem?_replicate,ay hj];simp
  rw [List.replicate_succ',qR];exact aV
 obtain rfl:i=n:=by omega
 rw [<-hz]at hS;refine bw O (bA (oO O ?_));refine Cd.loop (α:=Nat×List (List aQ)) (fun z=> [(0,.slice A N c),(3,.slice A3 i c3),(5,ak (z.1:Int))]) (fun z w'=>z.1<=N/\od w w' N i A3 c3 os z.2 (jU i fl z.1 0 0)) (fun z=>N - z.1) (0,rss) (alH O) ⟨bm _,hS⟩ ?_;clear hS vx;rintro⟨a,rss⟩ e w3 ⟨ha,hS⟩;dsimp only at ha hS|-;refine bc O (bk O O (aI O ?_));refine aR _ O (fun h3=>?_) (fun h3=>?_)
 ·have tH:a<N:=by omega
  refine cM O (Cd.loop (α:=Nat×List (List aQ)) (fun z=> [(0,.slice A N c),(3,.slice A3 i c3),(5,ak a),(6,ak (z.1:Int))]) (fun z w'=>z.1<=N/\od w w' N i A3 c3 os z.2 (jU i fl a z.1 0)) (fun z=>N - z.1) (0,rss) (alH O) ⟨bm _,hS⟩ ?_);clear hS;rintro⟨b,rss⟩ e w4 ⟨hb,hS⟩;dsimp only at hb hS|-;refine bc O (bk O O (aI O ?_));refine aR _ O (fun h4=>?_) (fun h4=>?_)
  ·have x9:b<N:=by omega
   have xX:=hS.st.bS hM;have nK:=xX.at_ (i:=(a:Int)) (by omega) (by omega);have mM:=xX.at_ (i:=(b:Int)) (by omega) (by omega);have B5:=cJ a tH;have DO:=cJ b x9;refine cM O ?_;refine eB [xS (A) (N) (c),xI ((a:Int)),xP (aB (A) ((a:Int)).toNat),xS ((rg (rs) ((a:Int))).a) ((rg (rs) ((a:Int))).n) ((rg (rs) ((a:Int))).c),xS (A) (N) (c),xI ((b:Int)),xP (aB (A) ((b:Int)).toNat),xS ((rg (rs) ((b:Int))).a) ((rg (rs) ((b:Int))).n) ((rg (rs) ((b:Int))).c),xI ((pH (gl fl a) (gl fl b) (rg rs a).n:Nat):Int),xB (decide (¬((pH (gl fl a) (gl fl b) (rg rs a).n:Nat):Int)=((1:Int))))] O (eQ O) ?_ ?_
   ·refine⟨Dr O,Dr O,fun _ _ hb _ _=>aF (xX.top.aq hb).2 O Az,fun _ _ hb _ _=>b6 (xX.top.aq hb) O Az,Dr O,Dr O,fun _ _ hb _ _=>aF (xX.top.aq hb).2 O Az,fun _ _ hb _ _=>b6 (xX.top.aq hb) O Az,?_,Dr O,av⟩;intro e1 w1 hb hp aY;refine aL (NN (rg rs a).a (rg rs b).a (rg rs a).n (rg rs a).c (rg rs b).n (rg rs b).c (gl fl a) (gl fl b) _ (nK.aq hb) (mM.aq hb) (by omega) (by omega)) O ?_;rintro _ w9 ⟨rfl,ln⟩;exact ao.n (iB.dn ln.below O)
   intro u w5 nI _;have aV:=hS.aq nI;refine fh O (aR _ O (fun h5=>?_) (fun h5=>?_))
   ·have kl:=agN (n:=i) (fl:=fl) (a:=a) (b:=b) fun q hq h=>h5 (by
     have:=((TW a b q tH x9 hq).2 h).1;rw [B5,this];rfl)
    refine aG O (aJ O (aT O (tQ ?_)));exact⟨(b+1,rss),by show N - (b+1)<N - b;omega,(alH O),by show b+1<=N;omega,by show od w w5 N i A3 c3 os rss (jU i fl a (b+1) 0);rw [kl];exact aV⟩
   have h5:pH (gl fl a) (gl fl b) i=1:=by rw [B5]at h5;omega
   clear hS xX nK mM;refine cM O (Cd.loop (α:=Nat×List (List aQ)) (fun z=> [(0,.slice A N c),(3,.slice A3 i c3),(5,ak a),(6,ak b),(7,ak (z.1:Int))]) (fun z w'=>z.1<=i/\od w w' N i A3 c3 os z.2 (jU i fl a b z.1)) (fun z=>i - z.1) (0,rss) (alH O) ⟨bm _,aV⟩ ?_);clear aV;rintro⟨k,rss⟩ e w6 ⟨hk,hS⟩;dsimp only at hk hS|-;have l9:=hS.st.bS hM;have nK:=l9.at_ (i:=(a:Int)) (by omega) (by omega);have mM:=l9.at_ (i:=(b:Int)) (by omega) (by omega);have IW:=nK.1;have BV:=mM.1;refine bc O (aF l9.top.2 O (b6 l9.top O ?_));refine bk O O (aI O ?_);refine aR _ O (fun h6=>?_) (fun h6=>?_)
   ·have eN:k<i:=by omega
    have F0:=TW a b k tH x9 eN;refine cM O ?_;refine eB [xS (A) (N) (c),xI ((a:Int)),xP (aB (A) ((a:Int)).toNat),xS ((rg (rs) ((a:Int))).a) ((rg (rs) ((a:Int))).n) ((rg (rs) ((a:Int))).c),xI ((k:Int)),xP (aB ((rg (rs) ((a:Int))).a) ((k:Int)).toNat),xI (gi (gl fl a) ((k:Int))),xS (A) (N) (c),xI ((b:Int)),xP (aB (A) ((b:Int)).toNat),xS ((rg (rs) ((b:Int))).a) ((rg (rs) ((b:Int))).n) ((rg (rs) ((b:Int))).c),xI ((k:Int)),xP (aB ((rg (rs) ((b:Int))).a) ((k:Int)).toNat),xI (gi (gl fl b) ((k:Int))),xB (decide (¬(gi (gl fl a) ((k:Int)))=(gi (gl fl b) ((k:Int)))))] O (eQ O) ?_ ?_
    ·exact⟨Dr O,Dr O,fun _ _ hb _ _=>aF (l9.top.aq hb).2 O Az,fun _ _ hb _ _=>b6 (l9.top.aq hb) O Az,Dr O,fun _ _ hb _ _=>aF (nK.aq hb).2 O Az,fun _ _ hb _ _=>bh (nK.aq hb) O Az,Dr O,Dr O,fun _ _ hb _ _=>aF (l9.top.aq hb).2 O Az,fun _ _ hb _ _=>b6 (l9.top.aq hb) O Az,Dr O,fun _ _ hb _ _=>aF (mM.aq hb).2 O Az,fun _ _ hb _ _=>bh (mM.aq hb) O Az,Dr O,av⟩
    intro u w7 x8 _;have a6:=hS.aq x8;clear hS l9 nK mM;refine fh O (aR _ O (fun h7=>?_) (fun h7=>?_))
    ·have kH:=F0.1 ⟨h5,h7⟩;have rV:=agO (n:=i) (fl:=fl) (b:=b) eN (by omega:a<fl.length) kH;have DT:=a6.rows eN;have hX:=Of (n:=i) (fl:=fl) (a:=a) (b:=b) (k:=k) eN;have qw:=a6.aO eN;have M4:=a6.on k eN;have iS:=a6.rn k eN;rw [hX]at DT qw;have Ui:=qw.at_ (i:=(a:Int)) (by omega) (by omega);have hbound:(rg (rss.getD k []) a).n<=500:=by
      rw [<-Ui.1,Og (by omega)];unfold sY;rw [aw (Nat.lt_irrefl _),ay rfl,aw (Nat.lt_irrefl _)];have:=VF i fl k a b;omega
     obtain⟨oa,oc,ho⟩:∃oa oc,os.getD k eA=⟨oa,N,oc⟩:=⟨(os.getD k eA).a,(os.getD k eA).c,by rw [<-M4]⟩;have I4:(os.getD k eA).v= .slice oa N oc:=by rw [ho];rfl
     rw [ho]at DT qw;obtain⟨rk,jG⟩:∃rk,rss.getD k []=rk:=⟨_,rfl⟩;obtain⟨Xk,Me⟩:∃Xk,sZ i fl a b k k=Xk:=⟨_,rfl⟩;have SZ:Xk.length=N:=by rw [<-Me];exact kW ..
     rw [jG,Me]at DT qw Ui;rw [jG]at iS hbound;rw [Me]at rV;obtain⟨KS,Sx⟩:∃KS,sA N (os.eraseIdx k) (rss.eraseIdx k) ((jU i fl a b k).eraseIdx k)=KS:=⟨_,rfl⟩;rw [Sx]at DT;have hO:jo w7 A3 i os:=DT.ie 0 O;have qT:∀A9:aj,(az 2 A9 1 1 [(b:Int)]::b9 22 A3 i c3 os::(aO 32 2 oa N oc rk Xk++KS))[2+1+a]?=some (az 2 (rg rk a).a (rg rk a).n (rg rk a).c (gl Xk a)):=fun A9=>D7 (t1:=32) (t2:=2) (A:=oa) (n:=N) (c:=oc) (rs:=rk) (xss:=Xk) (pre:=[az 2 A9 1 1 [(b:Int)],b9 22 A3 i c3 os]) (ks:=KS) (i:=a) (by omega) (by omega)
     have oy:=fun(A9:aj) (s:aQ) (xs:ai)=>N7 (t1:=32) (t2:=2) (A:=oa) (n:=N) (c:=oc) (rs:=rk) (xss:=Xk) (ks:=KS) (pre:=[az 2 A9 1 1 [(b:Int)],b9 22 A3 i c3 os]) (i:=a) s xs (by omega) (by omega)
     refine jA [14,16] [yS (A3) (i) (c3),yI ((k:Int)),yP (aB A3 ((k:Int)).toNat),yS (oa) (N) (oc),yI ((a:Int)),yS (A3) (i) (c3),yI ((k:Int)),yP (aB A3 ((k:Int)).toNat),yS (oa) (N) (oc),yI ((a:Int)),yP (aB (oa) ((a:Int)).toNat),yS ((rg (rk) ((a:Int))).a) ((rg (rk) ((a:Int))).n) ((rg (rk) ((a:Int))).c),yI ((b:Int)),.pr (fun v w'=>∃A9,v= .slice A9 1 1/\St w w' (az 2 A9 1 1 [(b:Int)]::b9 22 A3 i c3 os::(aO 32 2 oa N oc rk Xk++KS))),.pr (fun v w'=>∃AZ cZ,v= .slice AZ ((rg rk a).n+1) cZ/\St w w' (b9 22 A3 i c3 os::(b9 32 oa N oc rk::(dq 2 (rk.set a ⟨AZ,(rg rk a).n+1,cZ⟩) (Xk.set a (gl Xk a++ [(b:Int)]))++KS)))),yP (aB oa ((a:Int)).toNat),.pr (fun _ w'=>∃AZ cZ,St w w' (b9 22 A3 i c3 os::(aO 32 2 oa N oc (rk.set a ⟨AZ,(rg rk a).n+1,cZ⟩) (Xk.set a (gl Xk a++ [(b:Int)]))++KS)))] (ly (ly (ly (ly (ly (ly (ly (ly (ly (ly (ly (ly (ly (cj.2 ⟨Ye.cN (fun v w w' h hb=>by obtain⟨A9,hv,hT⟩:=h;exact⟨A9,hv,hT.aq hb⟩),(cj.2 ⟨Ye.cN (fun v w w' h hb=>by obtain⟨AZ,cZ,hv,hT⟩:=h;exact⟨AZ,cZ,hv,hT.aq hb⟩),(ly (cj.2 ⟨Ye.cN (fun v w w' h hb=>by obtain⟨AZ,cZ,hT⟩:=h;exact⟨AZ,cZ,hT.aq hb⟩),(fun _ h=>by cases h)⟩))⟩)⟩)))))))))))))) ?_ ?_
     ·refine⟨bQ O,bQ O,?_,?_,bQ O,bQ O,bQ O,cP fun _ _ hb _ _ _=>aF (hO.aq hb).2 O (bq O O),cP fun _ _ hb _ _ _=>ao.ld (hO.aq hb).2 (j:=k) O (by omega) I4 O O (bq O O),bQ O,cP fun _ _ hb _ _ _=>aF (qw.top.aq hb).2 O (bq O O),cP fun _ _ hb _ _ _=>b6 (qw.top.aq hb) O (bq O O),bQ O,?_,?_,?_,?_,av⟩
      ·intro e1 w1 cc dS cI dX hp aY hq;show ao _ _ _ _ _ _ _;have hX:jo w1 A3 i os:=by { have cI:=pj cI (b:=1) (by kernel_rfl);rcases(show cc=0\/cc=1 by omega)with h | h; { exact hO.aq (dX h) }; { subst h;obtain⟨AZ,cZ,_,hT⟩:=hq 14 _ _ (by kernel_rfl) (by kernel_rfl) (by kernel_rfl) rfl rfl (by kernel_rfl);exact hT.ie 0 rfl } }
       refine aF hX.2 O (ao.n (fL O (by exact O)))
      ·intro e1 w1 cc dS cI dX hp aY hq;show ao _ _ _ _ _ _ _;have hX:jo w1 A3 i os:=by { have cI:=pj cI (b:=1) (by kernel_rfl);rcases(show cc=0\/cc=1 by omega)with h | h; { exact hO.aq (dX h) }; { subst h;obtain⟨AZ,cZ,_,hT⟩:=hq 14 _ _ (by kernel_rfl) (by kernel_rfl) (by kernel_rfl) rfl rfl (by kernel_rfl);exact hT.ie 0 rfl } }
       refine ao.ld hX.2 (j:=k) O (by omega) I4 O O (ao.n (fL O (by exact O)))
      ·refine cP fun e1 w1 hb hp aY hq=>?_
       exact dV (St.refl _) O O O fun A9 w9 ax=>ao.n (eO.dn O ax.below ⟨A9,O,(DT.aq hb).call ax⟩)
      ·refine jC fun e1 w1 hb hp aY hq=>?_
       obtain⟨A9,h87,hT⟩:=(hp 13 _ _ (by kernel_rfl) rfl rfl (by kernel_rfl));refine fp (2+1+a) hT (qT A9) (hT.bF 0 O) O (by exact h87) O ?_;intro AZ cZ wZ hZ;have hZ:=(oy A9 ⟨AZ,(rg rk a).n+1,cZ⟩ (gl Xk a++ [(b:Int)]))▸hZ;exact ao.n (fH.dn O ⟨AZ,cZ,O,hZ.tail⟩)
      ·intro e1 w1 cc dS cI dX hp aY hq;show ao _ _ _ _ _ _ _;have hX:jo w1 oa N rk:=by { have cI:=pj cI (b:=1) (by kernel_rfl);rcases(show cc=0\/cc=1 by omega)with h | h; { exact qw.top.aq (dX h) }; { subst h;obtain⟨AZ,cZ,_,hT⟩:=hq 14 _ _ (by kernel_rfl) (by kernel_rfl) (by kernel_rfl) rfl rfl (by kernel_rfl);exact hT.ie 1 rfl } }
       refine aF hX.2 O (ao.n (fL O (by exact O)))
      refine rJ 1 fun e1 w1 hp aY hq=>?_
      have fe:=hp 14 _ _ (by kernel_rfl) O O (by kernel_rfl);obtain⟨AZ,cZ,LO,hT⟩:=fe;refine Bg (te:=32) (n:=N) (c:=oc) (A:=oa) (xs:=rk) 1 hT O O (by exact LO) (by omega) ?_;intro wY hY;exact ao.n (fH.st O ⟨AZ,cZ,hY⟩)
     intro u w8 _ hu _ _;obtain⟨AZ,cZ,hT⟩:=hu 16 _ rfl (by kernel_rfl);have SK:=a6.put eN (r:=rk.set a ⟨AZ,(rg rk a).n+1,cZ⟩) (X:=Xk.set a (gl Xk a++ [(b:Int)])) (by rw [jK];exact iS) (by rw [jK];exact SZ) (by rw [ho,Sx];exact hT);rw [rV]at SK;refine iV O (aJ O (aT O (tQ ?_)));exact⟨(k+1,rss.set k (rk.set a ⟨AZ,(rg rk a).n+1,cZ⟩)),by show i - (k+1)<i - k;omega,(alH O),by show k+1<=i;omega,SK⟩
    have fK:=agQ (n:=i) (fl:=fl) (a:=a) (b:=b) (k:=k) fun h=>h7 (F0.2 h).2
    refine aG O (aJ O (aT O (tQ ?_)));exact⟨(k+1,rss),by show i - (k+1)<i - k;omega,(alH O),by show k+1<=i;omega,by show od w w7 N i A3 c3 os rss (jU i fl a b (k+1));rw [fK];exact a6⟩
   have zQ:k=i:=by omega
   have hpr:=agM (n:=i) (fl:=fl) (a:=a) (b:=b);rw [zQ,<-hpr]at hS;refine bw O (bA (dh O (aJ O (aT O (tQ ?_)))));exact⟨(b+1,rss),by show N - (b+1)<N - b;omega,(alH O),by show b+1<=N;omega,hS⟩
  have qv:b=N:=by omega
  rw [qv,<-Uh]at hS;refine bw O (bA (dh O (aJ O (aT O (tQ ?_)))));exact⟨(a+1,rss),by show N - (a+1)<N - a;omega,(alH O),by show a+1<=N;omega,hS⟩
 have uO:a=N:=by omega
 rw [uO]at hS;refine bw O (bA (ij O ?_));exact gK O ⟨A3,c3,os,rss,O,hS⟩
section
variable {P:Program} {N:Nat} {ops:Array Oper} {K:Env->aa->Prop} {rest:List Oper} {e:Env} {w:aa} {d:Nat} {ty:ae} {pos:String} {af:Array Edge} {x y:ag} {xt yt:ae}
theorem Ym{m i:Nat}(hx:ev e x=ak m)(hy:ev e y= .int .u64 (i:Int))(hi:i<=5)(hm:m<=32)(hb:Nat.blt d N=true)(hK:ao P N ops K rest (bG e d (ak ((m / 2^i:Nat):Int))) w):
 ao P N ops K (⟨some d,.binOp .shr xt x y yt,ty,pos,af,none⟩::rest) e w:=by
 refine .val (v:=ak ((m / 2^i:Nat):Int)) ?_ hb hK;have e1:min i IntKind.i64.bits=i:=Nat.min_eq_left (l5 hi (by decide));have e2:¬(i:Int)<0:=by omega
 have e3:(m:Int).fdiv (2^i)=((m / 2^i:Nat):Int):=by
  rw [Int.fdiv_eq_ediv_of_nonneg _ (by have:=Int.pow_nonneg (n:=2) (m:=i) (by decide);omega)];simp
 simp [execOp,hx,hy,eqGuard,binOp,Op.shift,e1,e2,e3]
theorem PR{i:Nat}(hx:ev e x=ak 1)(hy:ev e y= .int .u64 (i:Int))(hi:i<=5)(hb:Nat.blt d N=true)(hK:ao P N ops K rest (bG e d (ak ((2^i:Nat):Int))) w):
 ao P N ops K (⟨some d,.binOp .shl xt x y yt,ty,pos,af,none⟩::rest) e w:=by
 refine .val (v:=ak ((2^i:Nat):Int)) ?_ hb hK;have e1:min i IntKind.i64.bits=i:=Nat.min_eq_left (l5 hi (by decide));have e2:¬(i:Int)<0:=by omega
 have e3:IntKind.i64.wrap ((1:Int)*2^i)=((2^i:Nat):Int):=by
  rcases(by omega:i=0\/i=1\/i=2\/i=3\/i=4\/i=5)with rfl | rfl | rfl | rfl | rfl | rfl<;>decide
 rw [Int.one_mul]at e3;simp [execOp,hx,hy,eqGuard,binOp,Op.shift,e1,e2,e3]
theorem YV:∀m:Nat,m<33->bits .and .i64 (m:Int) 1=((m%2:Nat):Int):=by decide
theorem XY{m:Nat}(hx:ev e x=ak m)(hy:ev e y=ak 1)(hm:m<=32)(hb:Nat.blt d N=true)(hK:ao P N ops K rest (bG e d (ak ((m%2:Nat):Int))) w):
 ao P N ops K (⟨some d,.binOp .and xt x y yt,ty,pos,af,none⟩::rest) e w:=
 .val (by simp only [execOp,hx,hy,eqGuard,binOp,intBits_and,YV m (by omega)];simp) hb hK
end
structure EF(w:aa)(N n:Nat)(A3:aj)(os:List aQ)(rss:List (List aQ))(Xs:List (ah)):Prop where
 top:jo w A3 n os
 on:∀i,i<n->(os.getD i eA).n=N
 row:∀i,i<n->bz w (os.getD i eA).a N (rss.getD i []) (Xs.getD i [])
theorem EF.aq{w w':aa}{N n:Nat}{A3:aj}{os:List aQ}{rss:List (List aQ)}{Xs:List (ah)}(h:EF w N n A3 os rss Xs)(hb:Below w.heap.size w w'):EF w' N n A3 os rss Xs:=⟨h.top.aq hb,h.on,fun i hi=> (h.row i hi).aq hb⟩
theorem od.rd{w w':aa}{N n:Nat}{A3:aj}{c3:Nat}{os:List aQ}{rss:List (List aQ)}{Xs:List (ah)}(h:od w w' N n A3 c3 os rss Xs):EF w' N n A3 os rss Xs:=⟨h.st.ie 0 rfl,h.on,fun _ hi=>h.aO hi⟩
open Classical in
theorem VH{n:Nat}{fl:ah}{i a:Nat}{y:Int}:y∈sX n fl i a↔∃y':Nat,y=y'/\y'<fl.length/\jW n fl i a y'/\y'≠a:=by
 unfold sX;rw [dv];constructor
 ·rintro⟨y',h,rfl⟩;rw [fU,gP,kz]at h;exact⟨y',O,h.1,h.2⟩
 rintro⟨y',rfl,h1,h2⟩;exact⟨y',by rw [fU,gP,kz];exact⟨h1,h2⟩,O⟩
def mu(mask:Nat)(i:Nat):Prop:=mask / 2^i%2=1
theorem afr(A3:aj)(c3:Nat)(os:List aQ)(rss:List (List aQ))(fl:ah)(n N mask:Nat)(w:aa)(iw:fl.length=N)(hR:EF w N n A3 os rss (jU n fl N 0 0))(hm:mask<=32)(hN:N<=400)(hn:n<=5):
 aN prog 204 [.slice A3 n c3,ak N,ak mask] w (fun v w'=>∃A' c' L,v= .slice A' N c'/\jB N (fo n fl (mu mask)) N L/\St w w' [az 2 A' N c' L]):=by
 have xZ:xC N (fo n fl (mu mask)):=iw▸fo.Ay n fl (mu mask);have hX:∀i x:Nat,i<n->x<N->gl ((jU n fl N 0 0).getD i []) x=sX n fl i x:=fun i x hi hx=>by
  rw [Of hi,Og (by omega)];unfold sY;rw [ay hx,VE]
 have dG:∀i,i<n->((jU n fl N 0 0).getD i []).length=N:=fun i hi=>by rw [Of hi,yD,iw]
 have iZ:∀i x,(sX n fl i x).length<=N:=fun i x=>by rw [<-VE,<-iw];exact VF ..
 generalize jU n fl N 0 0=Xs at*;refine bI func204 O ntmps204 O (du O) (bc O (jO (St.refl w) O ?_));intro A7 w1 aE;refine aI O (Cd.loop (α:=Nat×aj×Nat) (fun z=> [(0,.slice A3 n c3),(1,ak N),(2,ak mask),(7,.slice z.2.1 z.1 z.2.2),(8,ak (z.1:Int))]) (fun z w'=>z.1<=N/\St w w' [az 2 z.2.1 z.1 z.2.2 (List.replicate z.1 (-1))]) (fun z=>N - z.1) (0,A7,0) (alH O) ⟨bm _,aE⟩ ?_);clear aE;rintro⟨i,A7,c7⟩ e w2 ⟨hi,hS⟩;dsimp only at hi hS|-;refine b8 O (aR _ O (fun h1=>?_) (fun h1=>?_))
 ·refine aG O (dV (i:= -1) hS O O O ?_);intro A9 w3 aM;refine fp 1 aM O (aM.bF 0 O) O O O ?_;intro AZ cZ w4 aU;have aU:=aU.tail;refine ar O (aJ O (aT O (tQ ?_)));exact⟨(i+1,AZ,cZ),by show N - (i+1)<N - i;omega,(alH O),by show i+1<=N;omega,by show St w w4 [az _ AZ (i+1) cZ (List.replicate (i+1) (-1))];rw [List.replicate_succ'];exact aU⟩
 obtain rfl:i=N:=by omega
 refine bw O (bA (oO O ?_));refine Cd.loop (α:=Nat×ai) (fun z=> [(0,.slice A3 n c3),(1,ak i),(2,ak mask),(7,.slice A7 i c7),(9,ak (z.1:Int))]) (fun z w'=>z.1<=i/\jB i (fo n fl (mu mask)) z.1 z.2/\St w w' [az 2 A7 i c7 z.2]) (fun z=>i - z.1) (0,List.replicate i (-1)) (alH O) ⟨bm _,jB.zero _ _,hS⟩ ?_;clear hS;rintro⟨f,L0⟩ e w3 ⟨hf,pK,hS⟩;dsimp only at hf pK hS|-;have tG:=pK.1;refine b8 O (aR _ O (fun h1=>?_) (fun h1=>?_))
 ·have kE:f<i:=by omega
  have qu:=hS.bF 0 O;have L1:fo n fl (mu mask) f f:= .refl (by omega);refine aG O (aF qu.2 O (bh qu O (aI O ?_)));refine aR _ O (fun h2=>?_) (fun h2=>?_)
  ·refine aG O (aJ O (aT O (tQ ?_)));exact⟨(f+1,L0),by show i - (f+1)<i - f;omega,(alH O),by show f+1<=i;omega,pK.skip xZ kE (.inl h2),hS⟩
  have h0:gi L0 f<0:=by omega
  refine aG O (aF qu.2 O (lu 0 hS O O O (by omega) ?_));intro w4 aU;have aU:St w w4 [az 2 A7 i c7 (L0.set f (f:Int))]:=aU;refine ar O (dV aU O O O ?_);intro bT w5 aV;have fW:=oi.start (A:=yZ n fl (mu mask)) tG kE h0 L1;refine aI O (Cd.loop (α:=Nat×ai×List Nat×aj×Nat) (fun z=> [(0,.slice A3 n c3),(1,ak i),(2,ak mask),(7,.slice A7 i c7),(9,ak f),(10,.slice z.2.2.2.1 z.2.2.1.length z.2.2.2.2),(11,ak (z.1:Int))]) (fun z w'=>oi i (fo n fl (mu mask)) (yZ n fl (mu mask)) f L0 z.2.1 z.2.2.1 z.1/\St w w' [az 2 z.2.2.2.1 z.2.2.1.length z.2.2.2.2 (kY z.2.2.1),az 2 A7 i c7 z.2.1]) (fun z=>i+1 - z.1) (0,L0.set f (f:Int),[f],bT,1) (alH O) ⟨fW,aV⟩ ?_);clear aV aU hS qu fW;rintro⟨k,L,Q,Ao,co⟩ e w6 ⟨fW,hS⟩;dsimp only at fW hS|-;have wV:=fW.AG;have kF:=fW.Jo;refine bc O (bk O O (aI O ?_));refine aR _ O (fun h3=>?_) (fun h3=>?_)
  ·have jh:k<Q.length:=by omega
   obtain⟨x,hx⟩:∃x,Q.getD k 0=x:=⟨_,rfl⟩;have Gr:x∈Q:=by rw [<-hx,dd,gO jh];exact dH _
   have gw:=fW.xc x Gr;refine cM O (Cd.loop (α:=Nat×ai×List Nat×aj×Nat) (fun z=> [(0,.slice A3 n c3),(1,ak i),(2,ak mask),(7,.slice A7 i c7),(9,ak f),(10,.slice z.2.2.2.1 z.2.2.1.length z.2.2.2.2),(11,ak k),(12,ak (z.1:Int))]) (fun z w'=>z.1<=n/\oi i (fo n fl (mu mask)) (yZ n fl (mu mask)) f L0 z.2.1 z.2.2.1 k/\(k<z.2.2.1.length/\z.2.2.1.getD k 0=x)/\(∀q y:Nat,q<z.1->¬mu mask q->jW n fl q x y->y≠x->0<=gi z.2.1 y)/\St w w' [az 2 z.2.2.2.1 z.2.2.1.length z.2.2.2.2 (kY z.2.2.1),az 2 A7 i c7 z.2.1]) (fun z=>n - z.1) (0,L,Q,Ao,co) (alH O) ⟨bm _,fW,⟨jh,hx⟩,fun q y h=>absurd h (jM _),hS⟩ ?_);clear hS fW hx Gr jh wV kF h3;rintro⟨r,Li,Qi,Ao,co⟩ e w7 ⟨hr,fW,⟨jh,hx⟩,oA,hS⟩;dsimp only at hr fW jh hx oA hS|-;refine bc O (bk O O (aI O ?_));refine aR _ O (fun h4=>?_) (fun h4=>?_)
   ·have iS:r<n:=by omega
    refine aG O (og O O (uh _ (by omega)) (Ym O O (by omega) hm O (XY O O (l5 (Nat.div_le_self _ _) hm) O (aI O ?_))));refine aR _ O (fun h5=>?_) (fun h5=>?_)
    ·have hb:mu mask r:=by unfold mu;omega
     refine aG O (aJ O (aT O (tQ ?_)));exact⟨(r+1,Li,Qi,Ao,co),by show n - (r+1)<n - r;omega,(alH O),by show r+1<=n;omega,fW,⟨jh,hx⟩,fun q y hq hs ha bt=>by
      by_cases eq:q=r
      ·subst eq;exact absurd hb hs
      exact oA q y (by have hq:q<r+1:=hq;omega) hs ha bt,hS⟩
    have hb:¬mu mask r:=by unfold mu;omega
    have IA:=hR.aq hS.below;have M4:=hR.on r iS;have qw:=IA.row r iS;have xb:=hX r x iS gw.1;have SZ:=dG r iS;have adn:=iZ r x;have lT:∀ {w':aa} {ks:List Ck},St w w' ks->di w' (rg (rss.getD r []) x).a (rg (rss.getD r []) x).n (sX n fl r x):=fun h=>by
     have h9:=((hR.aq h.below).row r iS).at_ (i:=(x:Int)) (by omega) (by omega);rw [xb]at h9;exact h9
    obtain⟨oa,oc,ho⟩:∃oa oc,os.getD r eA=⟨oa,i,oc⟩:=⟨(os.getD r eA).a,(os.getD r eA).c,by rw [<-M4]⟩;have I4:(os.getD r eA).v= .slice oa i oc:=by rw [ho];rfl
    rw [ho]at qw;generalize Mf:Xs.getD r []=Xr at*;generalize Nd:rss.getD r []=rr at*;have gS:=qw.at_ (i:=(x:Int)) (by omega) (by omega);rw [xb]at gS;have rY:=gS.1;have FW:gi (kY Qi) k=(x:Int):=by rw [UF jh,hx]
    have wV:=fW.AG;have BE:=hS.bF 0 O;have wM:(kY Qi).length=Qi.length:=by simp [kY]
    refine cM O (eB [xS (A3) (n) (c3),xI ((r:Int)),xP (aB A3 ((r:Int)).toNat),xS (oa) (i) (oc),xS (Ao) (Qi.length) (co),xI ((k:Int)),xP (aB (Ao) ((k:Int)).toNat),xI ((x:Int)),xP (aB (oa) ((x:Int)).toNat),xS ((rg (rr) ((x:Int))).a) ((rg (rr) ((x:Int))).n) ((rg (rr) ((x:Int))).c),xS ((rg (rr) ((x:Int))).a) ((rg (rr) ((x:Int))).n) ((rg (rr) ((x:Int))).c)] O (eQ O) ?_ ?_)
    ·exact⟨Dr O,Dr O,fun _ _ hb _ _=>aF (IA.top.aq hb).2 O Az,fun _ _ hb _ _=>ao.ld (IA.top.aq hb).2 (j:=r) O (by omega) I4 O O Az,Dr O,Dr O,fun _ _ hb _ _=>aF (BE.aq hb).2 O Az,fun _ _ hb _ _=>ao.ld (BE.aq hb).2 (j:=k) O (by omega) (by exact aK (Value.int .i64) FW) O O Az,fun _ _ hb _ _=>aF (qw.top.aq hb).2 O Az,fun _ _ hb _ _=>b6 (qw.top.aq hb) O Az,Dr O,av⟩
    intro u w8 DA _;have bL:=hS.aq DA;clear qw IA BE hS;obtain⟨sx,Gp⟩:∃sx,rg rr x=sx:=⟨_,rfl⟩;rw [Gp]at rY|-;simp only [Gp]at lT;obtain⟨ys,sU⟩:∃ys,sX n fl r x=ys:=⟨_,rfl⟩;simp only [sU]at lT;rw [sU]at rY adn;have zH:∀y∈ys,∃y':Nat,y=y'/\y'<i/\jW n fl r x y'/\y'≠x:=fun y hy=>by
     rw [<-sU]at hy;rw [<-iw];exact VH.1 hy
    refine fh O (Cd.loop (α:=Nat×ai×List Nat×aj×Nat) (fun z=> [(0,.slice A3 n c3),(1,ak i),(2,ak mask),(7,.slice A7 i c7),(9,ak f),(10,.slice z.2.2.2.1 z.2.2.1.length z.2.2.2.2),(11,ak k),(12,ak r),(13,.slice sx.a sx.n sx.c),(14,ak (z.1:Int))]) (fun z w'=>z.1<=sx.n/\oi i (fo n fl (mu mask)) (yZ n fl (mu mask)) f L0 z.2.1 z.2.2.1 k/\(k<z.2.2.1.length/\z.2.2.1.getD k 0=x)/\(∀p:Nat,p<z.1->0<=gi z.2.1 (gi ys p))/\(∀y:Nat,0<=gi Li y->0<=gi z.2.1 y)/\St w w' [az 2 z.2.2.2.1 z.2.2.1.length z.2.2.2.2 (kY z.2.2.1),az 2 A7 i c7 z.2.1]) (fun z=>sx.n - z.1) (0,Li,Qi,Ao,co) (alH O) ⟨bm _,fW,⟨jh,hx⟩,fun p h=>absurd h (jM _),fun y h=>h,bL⟩ ?_);clear bL fW jh hx FW wM wV;rintro⟨q,L,Q,Ao,co⟩ e gL ⟨hq,fW,⟨jh,hx⟩,yh,tM,hS⟩;dsimp only at hq fW jh hx yh tM hS|-;have wV:=fW.AG;have abX:=fW.len;refine bc O (bk O O (aI O ?_));refine aR _ O (fun h6=>?_) (fun h6=>?_)
    ·have Na:q<ys.length:=by omega
     have wX:=lT hS;obtain⟨y,hy,yr,Gt,aek⟩:=zH _ (gi_in Na);have qu:=hS.bF 1 O;refine aG O (aF wX.2 O (bh wX O ?_));rw [hy];refine aF qu.2 O (bh qu O (aI O ?_));refine aR _ O (fun h7=>?_) (fun h7=>?_)
     ·have qw:=fW.meet yr h7 (xZ.xj _ _ _ gw.2.2 (yZ.link ⟨r,iS,hb,Gt,aek⟩));refine aG O (aF wX.2 O (bh wX O ?_));rw [hy];refine ar O (aF qu.2 O (lu 1 hS O O O (by omega) ?_));intro gC gA;have wX:=lT gA;refine ar O (aF wX.2 O (bh wX O ?_));rw [hy];refine dV gA O O O fun A9 lW jf=>fp 1 jf O (jf.bF 0 O) O O O ?_;intro AZ cZ nW ia;have ia:=ia.tail;have F8:(Q++ [y]).length=Q.length+1:=by simp
      refine ar O (aJ O (aT O (tQ ?_)));refine⟨(q+1,L.set y (f:Int),Q++ [y],AZ,cZ),by show sx.n - (q+1)<sx.n - q;omega,⟨O,O,O,O,O,aK (fun m=>Value.slice AZ m cZ) F8.symm,O,O,O,O,av⟩,by show q+1<=sx.n;omega,qw,⟨by show k< (Q++ [y]).length;omega,by show(Q++ [y]).getD k 0=x;rw [RS jh,hx]⟩,fun p hp=>?_,fun z hz=>Fg (tM z hz),?_⟩
      ·by_cases ep:p=q
       ·subst ep;rw [hy];have h9:=RX (L:=L) (y:=y) (f:=f) (by omega);show 0<=gi (L.set y (f:Int)) y;omega
       have hp:p<q+1:=hp;obtain⟨y9,Nz,_,_⟩:=zH _ (gi_in (show p<ys.length by omega));have h9:=yh p (by omega);rw [Nz]at h9|-;exact Fg h9
      show St w nW [az _ AZ (Q++ [y]).length cZ (kY (Q++ [y])),_];rw [F8,show kY (Q++ [y])=kY Q++ [(y:Int)] by simp [kY]];exact ia
     refine aG O (aJ O (aT O (tQ ?_)));refine⟨(q+1,L,Q,Ao,co),by show sx.n - (q+1)<sx.n - q;omega,(alH O),by show q+1<=sx.n;omega,fW,⟨jh,hx⟩,fun p hp=>?_,tM,hS⟩
     by_cases ep:p=q
     ·subst ep;rw [hy];show 0<=gi L y;omega
     have hp:p<q+1:=hp;exact yh p (by omega)
    have dO:∀y:Nat,(y:Int)∈ys->0<=gi L y:=fun y hy=>by
     obtain⟨p,hp,e9⟩:=fV.1 hy;rw [<-cd hp]at e9;have:=yh p (by omega)
     rwa [e9]at this
    refine bw O (bA (dh O (aJ O (aT O (tQ ?_)))));refine⟨(r+1,L,Q,Ao,co),by show n - (r+1)<n - r;omega,(alH O),by show r+1<=n;omega,fW,⟨jh,hx⟩,fun q' y wU hs ha bt=>?_,hS⟩
    by_cases eq:q'=r
    ·subst eq;exact dO y (by rw [<-sU];exact VH.2 ⟨y,O,ha.2.1,ha,bt⟩)
    exact tM y (oA q' y (by have wU:q'<r+1:=wU;omega) hs ha bt)
   have Ja:r=n:=by omega
   have wV:=fW.AG;have uV:=fW.next jh fun y hy=>by
    rw [hx]at hy;obtain⟨q,hq,hs,ha,bt⟩:=hy;exact oA q y (by omega) hs ha bt
   refine bw O (bA (dh O (aJ O (aT O (tQ ?_)))));exact⟨(k+1,Li,Qi,Ao,co),by show i+1 - (k+1)<i+1 - k;have:=fW.AG;omega,(alH O),uV,hS⟩
  have jh:k=Q.length:=by omega
  subst jh;have yc:=fW.end_ xZ pK kE h0 (fun S aE aD=>fo.ind S aE aD) (fun x y h=>h.link);refine bw O (bA (dh O (aJ O (aT O (tQ ?_)))));exact⟨(f+1,L),by show i - (f+1)<i - f;omega,(alH O),by show f+1<=i;omega,yc,hS.tail⟩
 have zM:f=i:=by omega
 rw [zM]at pK;refine bw O (bA (ij O ?_));exact gK O ⟨A7,c7,L0,O,pK,hS⟩
theorem fo.cv{n:Nat}{fl:ah}{S S':Nat->Prop}(hS:∀k,k<n->(S k↔S' k)){u v:Nat}(h:fo n fl S u v):fo n fl S' u v:=by
 induction h with
 | refl h=>exact .refl h
 | step _ hi hs Mi ih=>exact .step ih hi (fun h=>hs ((hS _ hi).2 h)) Mi
def u6(a b:ai):Nat->Nat
 | 0=>0
 | i+1=>if gi a i=gi b i then u6 a b i+2^i else u6 a b i
theorem Oc(a b:ai):∀i,u6 a b i<2^i
 | 0=>Nat.one_pos
 | i+1=>by
  have:=Oc a b i;unfold u6;rw [Nat.pow_succ]
  split<;>omega
theorem Qp{m i:Nat}:mu m i↔m.testBit i=true:=by
 unfold mu;rw [Nat.testBit_eq_decide_div_mod_eq,kz]
theorem Vu(a b:ai):∀ {m i:Nat},i<m->(mu (u6 a b m) i↔gi a i=gi b i)
 | 0,i,h=>absurd h (jM _)
 | m+1,i,h=>by
  have gB:=Oc a b m;rw [Qp];unfold u6
  by_cases e:i=m
  ·subst e;have hf:=Nat.testBit_lt_two_pow gB
   split
   ·rename_i c;rw [Nat.add_comm,Nat.testBit_two_pow_add_eq,hf];exact⟨fun _=>c,fun _=>O⟩
   ·rename_i c;rw [hf];exact⟨fun h=> (by cases h),fun h=>absurd h c⟩
  ·have ih:=Vu a b (m:=m) (i:=i) (by omega);rw [Qp]at ih
   split
   ·rw [Nat.add_comm,Nat.testBit_two_pow_add_gt (by omega)];exact ih
   ·exact ih
theorem afv(A:aj)(N c:Nat)(rs:List aQ)(fl:ah)(n:Nat)(w:aa)(hM:bz w A N rs fl)(L5:0<N)(hN:N<=400)(hn:n<=5)(hl:∀x∈fl,x.length=n)(qX:fl.Nodup):
 aN prog 145 [.slice A N c] w (fun v w'=>∃A' n' c',v= .slice A' n' c'/\(n'=0↔wi n fl)/\St w w' []):=by
 have iw:=hM.len;have tK:∀f:Nat,f<N->gl fl f∈fl:=fun f hf=>by rw [cK (by omega)];exact dH _
 have cJ:∀f:Nat,f<N->(rg rs f).n=n:=fun f hf=>by
  have:=(hM.at_ (i:=(f:Int)) (by omega) (by omega)).1;rw [<-this];exact hl _ (tK f hf)
 have h2n:2^n<=32:=l5 (Nat.pow_le_pow_right (by decide) hn) (by decide);refine bI func145 O ntmps145 O (du O) (bc O (aL (afu A N c rs fl n w hM L5 hN hn hl qX) O ?_));rintro _ w1 ⟨A3,c3,os,rss,rfl,Iw⟩;have hR:=Iw.rd;have Dv:=Iw.st.none;have hM:=Iw.st.bS hM;clear Iw;refine jO (St.refl w1) O fun A4 w2 aD=>aI O (Cd.loop (α:=Nat×(aj×Nat)×List aQ×ah) (fun z=> [(0,.slice A N c),(3,.slice A3 n c3),(4,.slice z.2.1.1 z.1 z.2.1.2),(5,ak (z.1:Int))]) (fun z w'=>z.1<=2^n/\z.2.2.1.length=z.1/\z.2.2.2.length=z.1/\(∀q:Nat,q<z.1->jB N (fo n fl (mu q)) N (gl z.2.2.2 q))/\St w1 w' (aO 32 2 z.2.1.1 z.1 z.2.1.2 z.2.2.1 z.2.2.2++ [])) (fun z=>2^n - z.1) (0,(A4,0),[],[]) (alH O) ⟨bm _,O,O,fun q h=>absurd h (jM _),aD⟩ ?_);clear aD;rintro⟨m,⟨A4,c4⟩,de,Ls⟩ e w3 ⟨hm,b5,tG,tF,hS⟩;dsimp only at hm b5 tG tF hS|-;refine bc O (bk O O ?_);refine og O O (uh _ (by omega)) (PR O O hn O (aI O ?_));refine aR _ O (fun h1=>?_) (fun h1=>?_)
 ·have qW:m<2^n:=by omega
  refine aG O (bk O O (ar O ?_));refine aL (afr A3 c3 os rss fl n N m w3 iw (hR.aq hS.below) (by omega) hN hn) O ?_;rintro _ w4 ⟨A9,c9,L,rfl,hL,ax⟩;have aU:=hS.call ax;refine mr aU O O O fun A8 w5 aV=>oe 2 aV O (aV.ie 0 O) O O O (by omega) (by omega) O ?_;intro AZ cZ w6 aZ;have aZ:=aZ.tail;have a6:St w1 w6 (az 2 A9 N c9 L::b9 32 AZ (m+1) cZ (de++ [⟨A9,N,c9⟩])::(dq 2 de Ls++ [])):=aZ;have a6:=a6.perm (VS _ _ _ _);rw [<-wa (by omega)]at a6;refine ar O (aJ O (aT O (tQ ?_)));refine⟨(m+1,(AZ,cZ),de++ [⟨A9,N,c9⟩],Ls++ [L]),by show 2^n - (m+1)<2^n - m;omega,(alH O),by show m+1<=2^n;omega,by simp [b5],by simp [tG],fun q hq=>?_,(by exact a6)⟩;have hq:q<m+1:=hq;have e9:gl (Ls++ [L]) q=if q<m then gl Ls q else L:=by
   rw [cK (by simp;omega)]
   by_cases c:q<m
   ·rw [ay c,cK (by omega),List.getElem_append_left (by omega)]
   obtain rfl:q=m:=by omega
   rw [aw c];simp [tG]
  show jB N _ N (gl (Ls++ [L]) q);rw [e9]
  split
  ·exact tF q (by assumption)
  obtain rfl:q=m:=by omega
  exact hL
 have IZ:m=2^n:=by omega
 have mD:bz w3 A4 m de Ls:=by
  rw [eu]at hS;exact hS.s7 tG
 have xW:=hM.aq hS.below;have aM:=Dv.aq hS.below;clear hS hR hM Dv;refine bw O (bA (oO O ?_));refine Cd.loop (α:=Nat) (fun a=> [(0,.slice A N c),(4,.slice A4 m c4),(6,ak a)]) (fun a w'=>a<=N/\(∀a' b':Nat,a'<a->a'<b'->b'<N->fo n fl (fun k=>gi (gl fl a') k=gi (gl fl b') k) a' b')/\St w3 w' []) (fun a=>N - a) 0 (alH O) ⟨bm _,fun a' b' h=>absurd h (jM _),St.refl _⟩ ?_;rintro a e w4 ⟨ha,DD,hS⟩;refine bc O (bk O O (aI O ?_));refine aR _ O (fun h2=>?_) (fun h2=>?_)
 ·have tH:a<N:=by omega
  refine aG O (aJ O (aI O ?_));refine Cd.loop (α:=Nat) (fun b=> [(0,.slice A N c),(4,.slice A4 m c4),(6,ak a),(7,ak b)]) (fun b w'=> (a<b/\b<=N)/\(∀b':Nat,a<b'->b'<b->fo n fl (fun k=>gi (gl fl a) k=gi (gl fl b') k) a b')/\St w3 w' []) (fun b=>N - b) (a+1) (alH O) ⟨⟨Nat.lt_succ_self _,tH⟩,fun b' h h'=>by omega,hS⟩ ?_;clear hS;rintro b e w5 ⟨⟨eG,x9⟩,vH,hS⟩;refine bc O (bk O O (aI O ?_));refine aR _ O (fun h3=>?_) (fun h3=>?_)
  ·have hb:b<N:=by omega
   have B5:=cJ a tH;have DO:=cJ b hb;refine cM O (Cd.loop (α:=Nat) (fun i=> [(0,.slice A N c),(4,.slice A4 m c4),(6,ak a),(7,ak b),(8,ak ((u6 (gl fl a) (gl fl b) i:Nat):Int)),(9,ak i)]) (fun i w'=>i<=n/\St w3 w' []) (fun i=>n - i) 0 (alH O) ⟨bm _,hS⟩ ?_);clear hS;rintro i e w6 ⟨hi,hS⟩;have l9:=xW.aq hS.below;have nK:=l9.at_ (i:=(a:Int)) (by omega) (by omega);have mM:=l9.at_ (i:=(b:Int)) (by omega) (by omega);have IW:=nK.1;have BV:=mM.1;have I1:=Oc (gl fl a) (gl fl b) i;have h2i:2^i<=32:=l5 (Nat.pow_le_pow_right (by decide) (show i<=5 by omega)) (by decide);refine bc O (aF l9.top.2 O (b6 l9.top O ?_));refine bk O O (aI O ?_);refine aR _ O (fun h4=>?_) (fun h4=>?_)
   ·have db:i<n:=by omega
    refine cM O ?_;refine eB [xS (A) (N) (c),xI ((a:Int)),xP (aB (A) ((a:Int)).toNat),xS ((rg (rs) ((a:Int))).a) ((rg (rs) ((a:Int))).n) ((rg (rs) ((a:Int))).c),xI ((i:Int)),xP (aB ((rg (rs) ((a:Int))).a) ((i:Int)).toNat),xI (gi (gl fl a) ((i:Int))),xS (A) (N) (c),xI ((b:Int)),xP (aB (A) ((b:Int)).toNat),xS ((rg (rs) ((b:Int))).a) ((rg (rs) ((b:Int))).n) ((rg (rs) ((b:Int))).c),xI ((i:Int)),xP (aB ((rg (rs) ((b:Int))).a) ((i:Int)).toNat),xI (gi (gl fl b) ((i:Int))),xB (decide ((gi (gl fl a) ((i:Int)))=(gi (gl fl b) ((i:Int)))))] O (eQ O) ?_ ?_
    ·exact⟨Dr O,Dr O,fun _ _ hb _ _=>aF (l9.top.aq hb).2 O Az,fun _ _ hb _ _=>b6 (l9.top.aq hb) O Az,Dr O,fun _ _ hb _ _=>aF (nK.aq hb).2 O Az,fun _ _ hb _ _=>bh (nK.aq hb) O Az,Dr O,Dr O,fun _ _ hb _ _=>aF (l9.top.aq hb).2 O Az,fun _ _ hb _ _=>b6 (l9.top.aq hb) O Az,Dr O,fun _ _ hb _ _=>aF (mM.aq hb).2 O Az,fun _ _ hb _ _=>bh (mM.aq hb) O Az,Dr O,av⟩
    intro u w7 x8 _;have a6:=hS.aq x8;refine fh O (aR _ O (fun h5=>?_) (fun h5=>?_))
    ·have rT:u6 (gl fl a) (gl fl b) (i+1)=u6 (gl fl a) (gl fl b) i+2^i:=by
      show(if _ then _ else _)=_;rw [ay h5]
     refine aG O (og O O (uh _ (by omega)) (PR O O (by omega) O ?_));refine aJ O (ar O (aJ O (aT O (tQ ?_))));exact⟨i+1,by show n - (i+1)<n - i;omega,⟨O,O,O,O,aK (fun m:Nat=>Value.int .i64 (m:Int)) rT.symm,O,av⟩,by omega,a6⟩
    have rT:u6 (gl fl a) (gl fl b) (i+1)=u6 (gl fl a) (gl fl b) i:=by
     show(if _ then _ else _)=_;rw [aw h5]
    refine aG O (aJ O (aT O (tQ ?_)));exact⟨i+1,by show n - (i+1)<n - i;omega,⟨O,O,O,O,aK (fun m:Nat=>Value.int .i64 (m:Int)) rT.symm,O,av⟩,by omega,a6⟩
   have vI:i=n:=by omega
   subst vI;obtain⟨K,hK⟩:∃K,u6 (gl fl a) (gl fl b) i=K:=⟨_,rfl⟩;have Ml:=fun k (hk:k<i)=>Vu (gl fl a) (gl fl b) hk
   rw [hK]at I1|-;simp only [hK]at Ml;have FI:=mD.aq hS.below;have Gi:=FI.at_ (i:=(K:Int)) (by omega) (by omega);have SC:=tF K (by omega);have hLKl:=SC.1;have hrKn:=Gi.1;have xZ:xC N (fo i fl (mu K)):=iw▸fo.Ay i fl (mu K);have zK:=SC.done xZ (a:=a) (b:=b) (.refl (by omega)) (.refl (by omega));refine bw O (bA (oO O ?_));refine eB [xS (A4) (m) (c4),xI ((K:Int)),xP (aB (A4) ((K:Int)).toNat),xS ((rg (de) ((K:Int))).a) ((rg (de) ((K:Int))).n) ((rg (de) ((K:Int))).c),xI ((a:Int)),xP (aB ((rg (de) ((K:Int))).a) ((a:Int)).toNat),xI (gi (gl Ls K) ((a:Int))),xS (A4) (m) (c4),xI ((K:Int)),xP (aB (A4) ((K:Int)).toNat),xS ((rg (de) ((K:Int))).a) ((rg (de) ((K:Int))).n) ((rg (de) ((K:Int))).c),xI ((b:Int)),xP (aB ((rg (de) ((K:Int))).a) ((b:Int)).toNat),xI (gi (gl Ls K) ((b:Int))),xB (decide (¬(gi (gl Ls K) ((a:Int)))=(gi (gl Ls K) ((b:Int)))))] O (eQ O) ?_ ?_
   ·exact⟨Dr O,Dr O,fun _ _ hb _ _=>aF (FI.top.aq hb).2 O Az,fun _ _ hb _ _=>b6 (FI.top.aq hb) O Az,Dr O,fun _ _ hb _ _=>aF (Gi.aq hb).2 O Az,fun _ _ hb _ _=>bh (Gi.aq hb) O Az,Dr O,Dr O,fun _ _ hb _ _=>aF (FI.top.aq hb).2 O Az,fun _ _ hb _ _=>b6 (FI.top.aq hb) O Az,Dr O,fun _ _ hb _ _=>aF (Gi.aq hb).2 O Az,fun _ _ hb _ _=>bh (Gi.aq hb) O Az,Dr O,av⟩
   intro u w7 x8 _;have a6:=hS.aq x8;refine fh O (aR _ O (fun h5=>?_) (fun h5=>?_))
   ·refine aG O (xz [(a:Int),(b:Int)] a6 O O (by decide) (by decide) O O fun A9 w8 bL=>bM O (fD (e6 (fD (e6 ?_)))));exact gK O ⟨A9,2,2,O,⟨fun h=>absurd h (by decide),fun h=>absurd (zK.2 ((h a b eG (by omega)).cv fun k hk=> (Ml k hk).symm)) h5⟩,aM.call bL.none⟩
   have dK:=(zK.1 (jl.1 h5)).cv Ml;refine aG O (aJ O (aT O (tQ ?_)));exact⟨b+1,by show N - (b+1)<N - b;omega,(alH O),⟨by omega,by omega⟩,fun b' h6 h7=>by
    by_cases eb:b'=b
    ·subst eb;exact dK
    exact vH b' h6 (by omega),a6⟩
  refine bw O (bA (dh O (aJ O (aT O (tQ ?_)))));exact⟨a+1,by show N - (a+1)<N - a;omega,(alH O),by omega,fun a' b' h4 h5 h6=>by
   by_cases ea:a'=a
   ·subst ea;exact vH b' h5 (by omega)
   exact DD a' b' (by omega) h5 h6,hS⟩
 refine bw O (bA (dh O ?_));refine jO hS O fun A9 w8 bL=>bM O (gK O ?_);exact⟨A9,0,0,O,⟨fun _ a' b' h3 h4=>DD a' b' (by omega) h3 (by omega),fun _=>O⟩,aM.call bL.none⟩
theorem KX{p:Prop}[Decidable p](h:¬p):true=decide (¬p):=by simp [h]
theorem HM{p:Prop}[Decidable p](h:p):false=decide (¬p):=by simp [h]
theorem VK(p q:Prop)[Decidable p][Decidable q]:(!(decide p==decide q))=decide (¬(p↔q)):=by
 by_cases hp:p<;>by_cases hq:q<;>simp [hp,hq]
instance (R:ai)(i e:Int):Decidable (rF R i e):=by unfold rF;infer_instance
instance (n:Int)(R:ai)(i e:Int):Decidable (oQ n R i e):=by unfold oQ;infer_instance
def Aq(R:ai)(B:ah)(i a b:Int)(m:Nat):Nat:=((bN m).filter fun d=>decide (gi R d=i/\(a<0\/a∈gl B d)/\(b<0\/d∈gl B b))).length
theorem age(R:ai)(B:ah)(i a b:Int)(m:Nat):Aq R B i a b (m+1)=if gi R m=i/\(a<0\/a∈gl B m)/\(b<0\/(m:Int)∈gl B b)then Aq R B i a b m+1 else Aq R B i a b m:=by
 have e9:bN (m+1)=bN m++ [(m:Int)]:=by
  unfold bN;rw [nZ,jm];rfl
 unfold Aq;rw [e9,oR,dI]
 by_cases c:gi R m=i/\(a<0\/a∈gl B m)/\(b<0\/(m:Int)∈gl B b)
 ·rw [ay c,ur (by simpa using c)];rfl
 rw [aw c,rC (by simpa using c)];rfl
theorem agd(R:ai)(B:ah)(i a b:Int)(m:Nat):Aq R B i a b m<=m:=by
 refine l5 (rD _ _) ?_;rw [bN,fj,qE];exact bB _
theorem afq(n:Int)(A D:aj)(cA cD:Nat)(R:ai)(rs:List aQ)(B:ah)(w:aa)(hR:di w A R.length R)(hB:bz w D B.length rs B)(hP:gE n R B):
 aN prog 144 [.agg #[ak n,.slice A R.length cA,.slice D B.length cD]] w (fun v w'=>∃A' n' c',v= .slice A' n' c'/\(n'=0↔th n R B)/\St w w' []):=by
 have hn:=hP.n1;have pb:=hP.oV;have hle:=hP.len;have b5:∀e:Int,0<=e->e<R.length->(gl B e).length<=500:=fun e h0 h=>by
  have:=qA (N:=R.length) (hP.at_ h0 h).1.nodup fun x hx=>by have:=((hP.at_ h0 h).2.1 x hx).1;omega
  omega
 have fR:=fun(e:Int) (h0:0<=e) (h:e< (R.length:Int))=>hP.ri h0 h
 have nk:∀i a b,Aq R B i a b R.length=(jZ R B i a b).length:=fun i a b=>O
 obtain⟨N,hN⟩:∃N,R.length=N:=⟨_,rfl⟩;have L2:∀i a,rF R i a↔((a= -1/\i=0)\/((0<=a/\a< (N:Int))/\0<i/\gi R a=i - 1)):=fun i a=>by rw [<-hN];rfl
 have LY:∀i b,oQ n R i b↔((b= -1/\i=n - 1)\/((0<=b/\b< (N:Int))/\i<n - 1/\gi R b=i+1)):=fun i b=>by rw [<-hN];rfl
 rw [hN]at hR pb hle b5 fR nk|-;rw [hle]at hB|-;refine bI func144 O ntmps144 O (du O) (bc O (mW (St.refl w) O O ?_));intro A1 w1 aE;have h1:Rd w1 A1 3 (fun j=> [Value.int .i64 n,.slice A N cA,.slice D N cD].getD j undef):=aE.rd 0 O;have hR:=aE.gH hR;have hB:=aE.bS hB;have aE:=aE.none;refine ar O (aW h1 O (alw (j:=1) h1 (by exact aK Value.pointer O) O O O O ?_));refine bk O O (aI O ?_);refine Cd.loop (α:=Nat) (fun i=> [(1,.pointer A1),(3,ak N),(4,ak i)]) (fun i w'=>w'=w1/\(i:Int)<=n/\∀i' a b:Int,0<=i'->i'< (i:Int)->rF R i' a->oQ n R i' b->(0<=a->0<=b->a∈gl B b)->(jZ R B i' a b).length=2) (fun i=>n.toNat - i) 0 (alH O) ⟨O,by show((0:Nat):Int)<=n;omega,fun i' a b h h'=>by have h':i'< ((0:Nat):Int):=h';omega⟩ ?_;rintro i e w2 ⟨rfl,hi,FT⟩;refine bc O (aW h1 O (iW (j:=0) h1 (by exact aK Value.pointer O) O O O O (aI O ?_)));refine aR _ O (fun h2=>?_) (fun h2=>?_)
 ·refine cM O ?_;refine Cd.loop (α:=Nat) (fun z=> [(1,.pointer A1),(3,ak N),(4,ak i),(5,ak ((z:Int) - 1))]) (fun z w'=>w'=w2/\z<=N+1/\∀a b:Int,a< (z:Int) - 1->rF R i a->oQ n R i b->(0<=a->0<=b->a∈gl B b)->(jZ R B i a b).length=2) (fun z=>N+1 - z) 0 (alH O) ⟨O,bm _,fun a b h h'=>by
   have h:a< ((0:Nat):Int) - 1:=h;have:=(L2 _ _).1 h';omega⟩ ?_
  rintro z e w3 ⟨rfl,hz,DD⟩;obtain⟨a,ha⟩:∃a:Int,(z:Int) - 1=a:=⟨_,rfl⟩;rw [ha]at DD|-;refine b8 O (aR _ O (fun h3=>?_) (fun h3=>?_))
  ·have xV:=L2 (i:Int) a;have TO:∀a' b:Int,(a'=a->rF R i a->oQ n R i b->(0<=a->0<=b->a∈gl B b)->(jZ R B i a b).length=2)->a'< ((z+1:Nat):Int) - 1->rF R i a'->oQ n R i b->(0<=a'->0<=b->a'∈gl B b)->(jZ R B i a' b).length=2:=fun a' b h h' q1 q2 q3=>by
    by_cases ea:a'=a
    ·have h9:=h ea;rw [ea]at q1 q3|-;exact h9 q1 q2 q3
    exact DD a' b (by omega) q1 q2 q3
   refine Hj 4 O (nY (α:=Unit) (fun _=> [(1,.pointer A1),(3,ak N),(4,ak i),(5,ak a),(41,.bool (decide (¬rF R i a)))]) (fun _ w'=>w'=w3) ?_ ?_)
   ·refine bc O (PO O O O ?_);rw [VK];refine ar O (cT 28 O (fun p1=>?_) (fun p1=>?_))
    ·refine aA O (aA O (aA O (cn O (cn O (cn O (cn O (cn O (cn O (cn O (cn O (aA O ?_)))))))))));refine aT O (tQ ?_);exact⟨(),⟨O,O,O,O,aK Value.bool (KX (fun h=>p1 (by have:=xV.1 h;omega))),av⟩,O⟩
    refine au O (ar O (au O (ar O (au O (ar O ?_)))));refine cT 31 O (fun p2=>?_) (fun p2=>?_)
    ·refine au O (aW h1 O (au O (alw (j:=1) h1 (by exact aK Value.pointer O) O O O O ?_)));refine au O (ar O (au O ?_));refine aF hR.2 O (au O (bh hR O ?_));refine au O (ar O (au O (dT O (au O (ar O (au O (aT O (tQ ?_))))))));exact⟨(),⟨O,O,O,O,aK Value.bool (ke.2 ⟨fun h h'=>by have:=xV.1 h';omega,fun h h'=>h (xV.2 (.inr ⟨by omega,by omega,h'⟩))⟩),av⟩,O⟩
    refine aA O (aA O (aA O (aA O (aA O (aA O (aA O (aA O (au O (aT O (tQ ?_))))))))));exact⟨(),⟨O,O,O,O,aK Value.bool (HM (xV.2 (.inl (by omega)))),av⟩,O⟩
   rintro _ e w4 rfl;refine aR _ O (fun h4=>?_) (fun h4=>?_)
   ·refine aG O (aJ O (aT O (tQ ?_)));exact⟨z+1,by show N+1 - (z+1)<N+1 - z;omega,⟨O,O,O,aK (Value.int .i64) (by show a+1=((z+1:Nat):Int) - 1;omega),av⟩,O,by omega,fun a' b=>TO a' b fun _ h=>absurd h h4⟩
   have abY:rF R i a:=jl.1 h4;refine cM O ?_;refine Cd.loop (α:=Nat) (fun y=> [(1,.pointer A1),(3,ak N),(4,ak i),(5,ak a),(6,ak ((y:Int) - 1))]) (fun y w'=>w'=w4/\y<=N+1/\∀b:Int,b< (y:Int) - 1->oQ n R i b->(0<=a->0<=b->a∈gl B b)->(jZ R B i a b).length=2) (fun y=>N+1 - y) 0 (alH O) ⟨O,bm _,fun b h h'=>by
    have h:b< ((0:Nat):Int) - 1:=h;have:=(LY _ _).1 h';omega⟩ ?_
   rintro y e w5 ⟨rfl,hy,vH⟩;obtain⟨b,hb⟩:∃b:Int,(y:Int) - 1=b:=⟨_,rfl⟩;rw [hb]at vH|-;refine b8 O (aR _ O (fun h5=>?_) (fun h5=>?_))
   ·have Fx:=LY (i:Int) b;have TP:(oQ n R i b->(0<=a->0<=b->a∈gl B b)->(jZ R B i a b).length=2)->∀b':Int,b'< ((y+1:Nat):Int) - 1->oQ n R i b'->(0<=a->0<=b'->a∈gl B b')->(jZ R B i a b').length=2:=fun h b' h' q1 q2=>by
     by_cases eb:b'=b
     ·rw [eb]at q1 q2|-;exact h q1 q2
     exact vH b' (by omega) q1 q2
    refine Hj 4 O (nY (α:=Unit) (fun _=> [(1,.pointer A1),(3,ak N),(4,ak i),(5,ak a),(6,ak b),(86,.bool (decide (¬(oQ n R i b/\(0<=a->0<=b->a∈gl B b)))))]) (fun _ w'=>w'=w5) ?_ ?_)
    ·refine bc O (aW h1 O (iW (j:=0) h1 (by exact aK Value.pointer O) O O O O ?_));refine dT O (ar O ?_);refine PO O O O ?_;rw [VK];refine ar O (cT 55 O (fun p1=>?_) (fun p1=>?_))
     ·refine aA O (aA O (aA O (cn O (cn O (cn O (cn O (cn O (cn O (cn O (cn O (aA O ?_)))))))))));refine ar O (aA O (aA O (aA O (cn O (cn O (aA O (aA O (cn O (cn O (cn O (cn O ?_)))))))))));refine cn O (cn O (cn O (cn O (aA O (aT O (tQ ?_))))));exact⟨(),⟨O,O,O,O,O,aK Value.bool (KX (fun h=>p1 (by have:=Fx.1 h.1;omega))),av⟩,O⟩
     refine au O (ar O (au O (ar O (au O (ar O ?_)))));refine cT 58 O (fun p2=>?_) (fun p2=>?_)
     ·have zY:=hB.at_ (i:=b) (by omega) (by omega);have T9:=zY.1;have T7:=b5 b (by omega) (by omega);refine au O (aW h1 O (au O (alw (j:=1) h1 (by exact aK Value.pointer O) O O O O ?_)));refine au O (ar O (au O ?_));refine aF hR.2 O (au O (bh hR O ?_));have hrib:=fR (b:Int) (by omega) (by omega);refine au O (ar O (au O (aJ O (au O (ar O (au O (ar O ?_)))))));refine cT 69 O (fun p3=>?_) (fun p3=>?_)
      ·refine aA O (aA O (aA O (cn O (cn O (aA O (aA O (cn O (cn O (cn O (cn O (cn O ?_)))))))))));refine cn O (cn O (cn O (aA O (aT O (tQ ?_)))));exact⟨(),⟨O,O,O,O,O,aK Value.bool (KX (fun h=>p3 (by have:=Fx.1 h.1;omega))),av⟩,O⟩
      have Fy:oQ n R i b:=Fx.2 (.inr ⟨by omega,by omega,by omega⟩);refine au O (ar O (au O (ar O (au O (ar O ?_)))));refine cT 72 O (fun p4=>?_) (fun p4=>?_)
      ·refine au O (ar O (au O (ar O (au O (ar O (au O (ar O ?_)))))));refine cT 76 O (fun p5=>?_) (fun p5=>absurd p2 p5);refine au O (aW h1 O (au O (alw (j:=2) h1 (by exact aK Value.pointer O) O O O O ?_)));refine au O (ar O (au O ?_));refine aF hB.top.2 O (au O (b6 hB.top O ?_));refine au O (ar O (au O ?_));refine aL (Ci _ _ _ (gl B b) a _ zY (by omega)) O ?_;rintro _ w6 ⟨rfl,rfl⟩;refine au O ?_
       first | refine eZ rfl rfl ?_ | refine fY rfl rfl ?_
       refine au O (aT O (tQ ?_));exact⟨(),⟨O,O,O,O,O,aK Value.bool (ke.2 ⟨fun h h'=>h (h'.2 p4 p2),fun h h'=>h ⟨Fy,fun _ _=>h'⟩⟩),av⟩,O⟩
      refine aA O (aA O (au O (ar O (au O (ar O (aA O (aA O (aA O (aA O (aA O (aA O ?_)))))))))));refine aA O (aA O (au O (aT O (tQ ?_))));exact⟨(),⟨O,O,O,O,O,aK Value.bool (HM ⟨Fy,fun h'=>absurd h' p4⟩),av⟩,O⟩
     have Fy:oQ n R i b:=Fx.2 (.inl (by omega));refine aA O (aA O (aA O (aA O (aA O (aA O (aA O (aA O (au O (ar O (au O (ar O ?_)))))))))));refine au O (ar O (au O (ar O ?_)));refine cT 72 O (fun p4=>?_) (fun p4=>?_)
     ·refine au O (ar O (au O (ar O (au O (ar O (au O (ar O ?_)))))));refine cT 76 O (fun p5=>absurd p5 p2) (fun p5=>?_);refine aA O (aA O (aA O (aA O (aA O (aA O (aA O (aA O (au O (aT O (tQ ?_))))))))));exact⟨(),⟨O,O,O,O,O,aK Value.bool (HM ⟨Fy,fun _ h'=>absurd h' p2⟩),av⟩,O⟩
     refine aA O (aA O (au O (ar O (au O (ar O (aA O (aA O (aA O (aA O (aA O (aA O ?_)))))))))));refine aA O (aA O (au O (aT O (tQ ?_))));exact⟨(),⟨O,O,O,O,O,aK Value.bool (HM ⟨Fy,fun h'=>absurd h' p4⟩),av⟩,O⟩
    rintro _ e w6 rfl;refine aR _ O (fun h6=>?_) (fun h6=>?_)
    ·refine aG O (aJ O (aT O (tQ ?_)));exact⟨y+1,by show N+1 - (y+1)<N+1 - y;omega,⟨O,O,O,O,aK (Value.int .i64) (by show b+1=((y+1:Nat):Int) - 1;omega),av⟩,O,by omega,TP fun q1 q2=>absurd ⟨q1,q2⟩ h6⟩
    have dK:=jl.1 h6;have S9:=Fx.1 dK.1;refine cM O (Cd.loop (α:=Nat) (fun m=> [(1,.pointer A1),(3,ak N),(4,ak i),(5,ak a),(6,ak b),(7,ak ((Aq R B i a b m:Nat):Int)),(8,ak m)]) (fun m w'=>w'=w6/\m<=N) (fun m=>N - m) 0 (alH O) ⟨O,bm _⟩ ?_);rintro m e w7 ⟨rfl,hm⟩;have kW:=agd R B i a b m;have rT:=age R B i a b m;refine b8 O (aR _ O (fun h7=>?_) (fun h7=>?_))
    ·have hmN:m<N:=by omega
     have Ua:=hB.at_ (i:=(m:Int)) (by omega) (by omega);have hrnm:=Ua.1;have hrlm:=b5 (m:Int) (by omega) (by omega);refine Hj 3 O (nY (α:=Unit) (fun _=> [(1,.pointer A1),(3,ak N),(4,ak i),(5,ak a),(6,ak b),(7,ak ((Aq R B i a b m:Nat):Int)),(8,ak m),(124,.bool (decide (gi R m=(i:Int)/\(a<0\/a∈gl B m)/\(b<0\/(m:Int)∈gl B b))))]) (fun _ w'=>w'=w7) ?_ ?_)
     ·refine bc O (aW h1 O (alw (j:=1) h1 (by exact aK Value.pointer O) O O O O (ar O (aF hR.2 O (bh hR O (ar O ?_))))));refine cT 99 O (fun p1=>?_) (fun p1=>?_)
      ·refine au O (ar O (au O (ar O (au O (ar O ?_)))));refine cT 102 O (fun p2=>?_) (fun p2=>?_)
       ·refine aA O (aA O (aA O (aA O (aA O (aA O (aA O (au O (ar O (au O (ar O (au O ?_)))))))))));refine ar O (au O (ar O ?_));refine cT 115 O (fun p4=>?_) (fun p4=>?_)
        ·refine aA O (aA O (aA O (aA O (aA O (aA O (aA O (au O (aT O (tQ ?_)))))))));exact⟨(),⟨O,O,O,O,O,O,O,aK Value.bool (eP ⟨p1,.inl p2,.inl p4⟩).symm,av⟩,O⟩
        have zY:=hB.at_ (i:=b) (by omega) (by omega);have T9:=zY.1;have T7:=b5 b (by omega) (by omega);refine au O (aW h1 O (au O (alw (j:=2) h1 (by exact aK Value.pointer O) O O O O ?_)));refine au O (ar O (au O ?_));refine aF hB.top.2 O (au O (b6 hB.top O ?_));refine au O (ar O (au O ?_));refine aL (Ci _ _ _ (gl B b) m _ zY (by omega)) O ?_;rintro _ w9 ⟨rfl,rfl⟩;refine au O (aT O (tQ ?_));exact⟨(),⟨O,O,O,O,O,O,O,aK Value.bool (ke.2 ⟨fun h=> ⟨p1,.inl p2,.inr h⟩,fun h=>h.2.2.resolve_left p4⟩),av⟩,O⟩
       refine au O (aW h1 O (au O (alw (j:=2) h1 (by exact aK Value.pointer O) O O O O ?_)));refine au O (ar O (au O ?_));refine aF hB.top.2 O (au O (b6 hB.top O ?_));refine au O (ar O (au O ?_));refine aL (Ci _ _ _ (gl B m) a _ Ua (by omega)) O ?_;rintro _ w8 ⟨rfl,rfl⟩;refine au O (ar O ?_);refine cT 112 O (fun p3=>?_) (fun p3=>?_)
       ·refine au O (ar O (au O (ar O (au O (ar O ?_)))));refine cT 115 O (fun p4=>?_) (fun p4=>?_)
        ·refine aA O (aA O (aA O (aA O (aA O (aA O (aA O (au O (aT O (tQ ?_)))))))));exact⟨(),⟨O,O,O,O,O,O,O,aK Value.bool (eP ⟨p1,.inr p3,.inl p4⟩).symm,av⟩,O⟩
        have zY:=hB.at_ (i:=b) (by omega) (by omega);have T9:=zY.1;have T7:=b5 b (by omega) (by omega);refine au O (aW h1 O (au O (alw (j:=2) h1 (by exact aK Value.pointer O) O O O O ?_)));refine au O (ar O (au O ?_));refine aF hB.top.2 O (au O (b6 hB.top O ?_));refine au O (ar O (au O ?_));refine aL (Ci _ _ _ (gl B b) m _ zY (by omega)) O ?_;rintro _ w9 ⟨rfl,rfl⟩;refine au O (aT O (tQ ?_));exact⟨(),⟨O,O,O,O,O,O,O,aK Value.bool (ke.2 ⟨fun h=> ⟨p1,.inr p3,.inr h⟩,fun h=>h.2.2.resolve_left p4⟩),av⟩,O⟩
       refine aA O (aA O (aA O (cn O (cn O (cn O (cn O (cn O (cn O (cn O (aA O (aT O ?_)))))))))));exact tQ ⟨(),⟨O,O,O,O,O,O,O,aK Value.bool (dk (fun h=>h.2.1.elim p2 p3)).symm,av⟩,O⟩
      refine aA O (aA O (aA O (cn O (cn O (cn O (cn O (cn O (cn O (cn O (aA O (ar O ?_)))))))))));refine aA O (aA O (aA O (cn O (cn O (cn O (cn O (cn O (cn O (cn O (aA O (aT O ?_)))))))))));exact tQ ⟨(),⟨O,O,O,O,O,O,O,aK Value.bool (dk (fun h=>p1 h.1)).symm,av⟩,O⟩
     rintro _ e w8 rfl;refine aR _ O (fun h8=>?_) (fun h8=>?_)
     ·rw [ay h8]at rT;refine aG O (aJ O (ar O (aJ O (aT O (tQ ?_)))));exact⟨m+1,by show N - (m+1)<N - m;omega,⟨O,O,O,O,O,aK (fun m:Nat=>Value.int .i64 (m:Int)) rT.symm,O,av⟩,O,by omega⟩
     rw [aw h8]at rT;refine aG O (aJ O (aT O (tQ ?_)));exact⟨m+1,by show N - (m+1)<N - m;omega,⟨O,O,O,O,O,aK (fun m:Nat=>Value.int .i64 (m:Int)) rT.symm,O,av⟩,O,by omega⟩
    have IZ:m=N:=by omega
    rw [IZ]at kW|-;rw [nk]at kW|-;refine bw O (bA (oO O ?_));refine aR _ O (fun h8=>?_) (fun h8=>?_)
    ·refine aG O (xz [(i:Int),a,b] aE O O (by decide) (by decide) O O fun A9 w9 a7=>bM O (fD (e6 (fD (e6 (fD (e6 ?_)))))));exact gK O ⟨A9,3,3,O,⟨fun h=>absurd h (by decide),fun h=>absurd (h (i:Int) a b (by omega) h2 abY dK.1 dK.2) (by omega)⟩,a7.none⟩
    refine aG O (aJ O (aT O (tQ ?_)));exact⟨y+1,by show N+1 - (y+1)<N+1 - y;omega,⟨O,O,O,O,aK (Value.int .i64) (by show b+1=((y+1:Nat):Int) - 1;omega),av⟩,O,by omega,TP fun _ _=>by omega⟩
   refine bw O (bA (dh O (aJ O (aT O (tQ ?_)))));exact⟨z+1,by show N+1 - (z+1)<N+1 - z;omega,⟨O,O,O,aK (Value.int .i64) (by show a+1=((z+1:Nat):Int) - 1;omega),av⟩,O,by omega,fun a' b'=>TO a' b' fun _ _ q2 q3=>vH b' (by have:=(LY _ _).1 q2;omega) q2 q3⟩
  refine bw O (bA (dh O (aJ O (aT O (tQ ?_)))));exact⟨i+1,by show n.toNat - (i+1)<n.toNat - i;omega,(alH O),O,by show((i+1:Nat):Int)<=n;omega,fun i' a' b' h0 h' q1 q2 q3=>by
   by_cases ei:i'=(i:Int)
   ·subst ei;exact DD a' b' (by have:=(L2 _ _).1 q1;omega) q1 q2 q3
   exact FT i' a' b' h0 (by have h':i'< ((i+1:Nat):Int):=h';omega) q1 q2 q3⟩
 refine bw O (bA (dh O ?_));refine jO aE O fun A9 w9 a7=>bM O (gK O ?_);exact⟨A9,0,0,O,⟨fun _ i' a b h0 h' q1 q2 q3=>FT i' a b h0 (by omega) q1 q2 q3,fun _=>O⟩,a7.none⟩
theorem afx(n:Nat)(A D:aj)(cA cD:Nat)(R:ai)(rs:List aQ)(B:ah)(Af:aj)(cf:Nat)(fk:List aQ)(w:aa)(hR:di w A R.length R)(hB:bz w D B.length rs B)(hP:gE n R B)(hF:bz w Af (aC n R B).length fk (aC n R B))(Tk:(aC n R B).length<=400):
 aN prog 84 [.agg #[ak n,.slice A R.length cA,.slice D B.length cD],.slice Af (aC n R B).length cf] w (fun v w'=>∃b:Bool,v= .bool b/\(b=true↔zl n R B)/\St w w' []):=by
 have hn:=hP.n1;have pb:=hP.oV;have zN:=RA (n:=n) (R:=R) (B:=B) (by omega) pb;have qX:(aC n R B).Nodup:=(xM n R B).nodup;refine bI func84 O ntmps84 O (du O) (bc O (mW (St.refl w) O O ?_));intro A1 w1 aE;have h1:Rd w1 A1 3 (fun j=> [Value.int .i64 n,.slice A R.length cA,.slice D B.length cD].getD j undef):=aE.rd 0 O;have hR:=aE.gH hR;have hB:=aE.bS hB;have hF:=aE.bS hF;have aE:=aE.none;refine ar O (bk O O (ar O ?_));refine cT 8 O (fun h2=>?_) (fun h2=>?_)
 ·have bt:aC n R B≠[]:=fun h=>by rw [h]at h2;exact absurd h2 (by decide)
  refine au O (alC 2 h1 O ?_);refine au O (ar O (au O ?_));refine aL (afy n A D cA R.length B.length cD Af (aC n R B).length cf fk (aC n R B) _ hF pb (fun l hl=> ⟨by have:=(zN l hl).1;omega,(zN l hl).2⟩) (by omega)) O ?_;rintro _ w2 ⟨b,rfl,hb,ax⟩;have h1:=Rd.below h1 ax.below;have hR:=ax.gH hR;have hB:=ax.bS hB;have hF:=ax.bS hF;have aE:=aE.aq ax.below;have zW:b=true↔Hp n R B:=hb;clear ax hb;rw [EW b];refine ar O (cT 13 O (fun h3=>?_) (fun h3=>?_))
  ·refine au O (alC 2 h1 O (au O (aL (afq n A D cA cD R rs B _ hR hB hP) O ?_)));rintro _ w3 ⟨A9,n9,c9,rfl,hd,ax⟩;have hF:=ax.bS hF;have aE:=aE.aq ax.below;clear ax;refine au O (bk O O (au O (ar O ?_)));refine cT 19 O (fun h4=>?_) (fun h4=>?_)
   ·refine au O (ar O (au O ?_));refine aL (afv Af (aC n R B).length cf fk (aC n R B) n _ hF (by omega) Tk (by omega) (fun x hx=> (zN x hx).1) qX) O ?_;rintro _ w4 ⟨A8,n8,c8,rfl,hc,ax⟩;have aE:=aE.aq ax.below;refine au O (bk O O (au O (bM O ?_)));refine dz O ?_;exact⟨_,O,by rw [kz];exact⟨fun h=> ⟨bt,zW.1 h3,hd.1 (by omega),hc.1 (by omega)⟩,fun h=>by have:=hc.2 h.2.2.2;omega⟩,aE⟩
   refine aA O (aA O (aA O (aA O (bM O ?_))));refine dz O ?_;exact⟨false,rfl,⟨fun h=> (by cases h),fun h=>absurd (hd.2 h.2.2.1) (by omega)⟩,aE⟩
  refine aA O (aA O (aA O (aA O (ar O (aA O (aA O (aA O (aA O (bM O ?_)))))))));refine dz O ?_;exact⟨false,rfl,⟨fun h=> (by cases h),fun h=>absurd (zW.2 h.2.1) h3⟩,aE⟩
 refine aA O (aA O (aA O (ar O (aA O (aA O (aA O (aA O (ar O (aA O (aA O (aA O ?_)))))))))));refine aA O (bM O ?_);refine dz O ?_;exact⟨false,rfl,⟨fun h=> (by cases h),fun h=>absurd (List.length_pos_iff.2 h.1) (by omega)⟩,aE⟩
theorem afw(A:aj)(n c:Nat)(rs:List aQ)(M:ah)(w:aa)(hR:bz w A n rs M)(MX:n<=9223372036854775807)(hM:bg M):
 aN prog 96 [.agg #[.slice A n c]] w (fun v w'=>∃b:Bool,v= .tuple #[.bool b,ak (nU M)]/\(b=true↔oP M)/\St w w' []):=by
 have hl:=hR.len;have h5:=hM.1;have h4:=hM.2.1;have o8:=je M M.length;have o4:=uG M;have mL:=hR.ny (k:=0) (by omega) (by omega);refine bI func96 O ntmps96 O (vZ O) (bc O (ik (St.refl w) O O ?_));intro A1 w1 aE;refine ar O (alC 0 (aE.rd 0 O) O (aL (aiK A n c rs M _ (aE.bS hR) MX hM) O ?_));rintro _ w2 (⟨sI,rfl,ax⟩ | ⟨sI,AR,cR,AD,cD,bp,rfl,iK,ax⟩)
 ·have aD:=aE.aq ax.below;refine ar O (kO aD O ?_);intro A4 w3 aM;refine bW 3 0 aM O O O O O O O fun w4 aU=>aI O (Cd.im O (eF O (yL O O ?_)));unfold nU;rw [ay (.inl sI)];exact⟨false,rfl,⟨fun h=> (by cases h),fun h=>by have:=h.1;omega⟩,aU.none⟩
 have hP:=nQ hM sI;have aD:=aE.call ax;clear ax aE;refine ar O (kO aD O ?_);intro A4 w3 aM;refine bW 3 0 aM O O O O O O O ?_;intro w4 aU;have aU:St w w4 (bH A4 (M.length:Int) AR (aH M M.length) cR AD (aH M M.length) cD::(az 2 AR (aH M M.length) cR (bn M M.length)::((aO 32 2 AD (aH M M.length) cD bp (bE M)++ [])++ [Bx 24 1 A1 [.slice A n c]]))):=aU;have o7:di w4 AR (bn M M.length).length (bn M M.length):=by rw [o8];exact aU.bF 1 O
 have gf:bz w4 AD (bE M).length bp (bE M):=by
  rw [o4];have h9:=aU.sub (show(aO 32 2 AD (aH M M.length) cD bp (bE M)).Sublist _ from List.Sublist.cons _ (List.Sublist.cons _ (by rw [eu];exact uw _ _)));exact h9.s7 o4
 have lD:=aU.rd 0 O;have df:Rd w4 A1 1 (fun j=> [Value.slice A n c].getD j undef):=by
  have h9:=aU.sub (show List.Sublist [Bx 24 1 A1 [.slice A n c]] _ from List.Sublist.cons _ (List.Sublist.cons _ (iL _ _)));exact h9.rd 0 O
 refine aI O (Cd.gq O (aG O (alC 2 lD O ?_)));refine als (U7 M.length AR AD cR cD (bn M M.length) bp (bE M) _ o7 gf hP) O (by rw [o8,o4];rfl) O ?_;rintro _ w5 ⟨Af,cf,GY,rfl,yo,ax⟩;have aV:=aU.aq ax.below;have FH:=o7.aq ax.below;have Fp:=gf.aq ax.below;have nI:=Rd.below lD ax.below;have df:=Rd.below df ax.below;have Ds:=aV.bS hR;refine ar O ?_
 first | refine eZ rfl rfl ?_ | refine fY rfl rfl ?_
 refine aI O (aR _ O (fun h6=>?_) (fun h6=>?_))
 ·have lS:nU M=3:=by unfold nU;rw [if_pos (.inr (by show 400< (aC M.length (bn M M.length) (bE M)).length;omega))]
  refine eF O (yL O O ?_);rw [lS];refine⟨false,rfl,⟨fun h=> (by cases h),fun h=>?_⟩,aV.none⟩;have h9:(aC M.length (bn M M.length) (bE M)).length=(gl M 0).length:=h.2.1;omega
 have iw:(aC M.length (bn M M.length) (bE M)).length<=400:=jl.1 h6;have lS:nU M=0:=by unfold nU;rw [if_neg (by show ¬(500<aH M M.length\/400< (aC M.length (bn M M.length) (bE M)).length);omega)]
 have DC:cap (aC M.length (bn M M.length) (bE M))=aC M.length (bn M M.length) (bE M):=zq (by omega);rw [DC]at yo ax|-;rw [lS];have LW:bz w5 Af (aC M.length (bn M M.length) (bE M)).length GY (aC M.length (bn M M.length) (bE M)):=by
  rw [eu]at ax;exact ax.s7 O
 refine aG O (bk O O ?_);refine alC 0 df O (aL (xd A n c rs M _ Ds (by omega)) O ?_);rintro _ w6 ⟨rfl,tS⟩;have aZ:=aV.aq tS.below;have kD:=FH.aq tS.below;have LQ:=Fp.aq tS.below;have pa:=Rd.below nI tS.below;have hF6:=LW.aq tS.below;refine ar O (cT 28 O (fun h7=>?_) (fun h7=>?_))
 ·refine au O (alC 2 pa O ?_);refine au O (ar O (au O ?_));refine als (afx M.length AR AD cR cD (bn M M.length) bp (bE M) Af cf GY _ kD LQ hP hF6 iw) O (by rw [o8,o4];rfl) O ?_;rintro _ w7 ⟨b,rfl,hb,np⟩;refine bM O (yL O O ?_);refine⟨b,O,hb.trans ⟨fun h=> ⟨sI,?_,h⟩,fun h=>h.2.2⟩,(aZ.aq np.below).none⟩;show(aC M.length (bn M M.length) (bE M)).length=_;omega
 refine aA O (aA O (aA O (bM O ?_)));refine yL O O ?_;refine⟨false,rfl,⟨fun h=> (by cases h),fun h=>?_⟩,aZ.none⟩;have h9:(aC M.length (bn M M.length) (bE M)).length=(gl M 0).length:=h.2.1;omega
end Go.Proofs.YtopgfgdgfjddpaaGreatDoor.Vc
