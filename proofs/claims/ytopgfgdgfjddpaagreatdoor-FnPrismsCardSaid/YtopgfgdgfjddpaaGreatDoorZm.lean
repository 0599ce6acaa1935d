/-
 Lemmas. Conditions: as each states them.
-/
import Derived.Test.YtopgfgdgfjddpaaGreatDoorZl
import Derived.Deep.Matrix
import Derived.ChangeSame
import Derived.ProofKit
import Derived.OpenShut
import Derived.Handed
import Derived.Lib.SmallJoins
set_option maxHeartbeats 8000000
namespace Go.Proofs.YtopgfgdgfjddpaaGreatDoor.Vc
open Tryz
section
open Go.RowKit
theorem Qq{q e c:Nat}(h:q<4*e)(hc:c<4)(he:e<=1000000):0<=bits .xor .i64 (q:Int) (c:Int)/\bits .xor .i64 (q:Int) (c:Int)< ((4*e:Nat):Int):=by
 have h1:(q^^^c) / 4=q / 4:=by
  have h2:(q^^^c) / 2^2=q / 2^2^^^c / 2^2:=Nat.xor_div_two_pow;have h3:c / 2^2=0:=Nat.div_eq_of_lt (by simpa using hc);rw [h3,Nat.xor_zero]at h2;exact h2
 have h4:q^^^c<4*e:=by omega
 have e1:bits .xor .i64 (q:Int) (c:Int)=IntKind.i64.wrap ((BitVec.ofInt 64 (q:Int)^^^BitVec.ofInt 64 (c:Int)).toNat:Int):=O;have e2:(BitVec.ofInt 64 (q:Int)^^^BitVec.ofInt 64 (c:Int)).toNat=q^^^c:=by
  rw [BitVec.toNat_xor,BitVec.ofInt_natCast,BitVec.ofInt_natCast,BitVec.toNat_ofNat,BitVec.toNat_ofNat,Nat.mod_eq_of_lt (by omega),Nat.mod_eq_of_lt (by omega)]
 rw [e1,e2,IntWalk.i64_in _ (by omega)];omega
section
variable {P:Program} {N:Nat} {ops:Array Oper} {K:Env->aa->Prop} {rest:List Oper} {e:Env} {w0 w w':aa} {ks:List Ck} {d:Nat} {ty:ae} {pos:String} {af:Array Edge} {x y:ag} {xt yt:ae} {i j:Int}
theorem PS(hx:ev e x=ak i)(hy:ev e y=ak j)(hb:Nat.blt d N=true)(hK:ao P N ops K rest (bG e d (ak (bits .xor .i64 i j))) w):
 ao P N ops K (⟨some d,.binOp .xor xt x y yt,ty,pos,af,none⟩::rest) e w:=
 .val (by simp only [execOp,hx,hy,eqGuard,binOp,intBits_xor];simp) hb hK
theorem X7{t el:ae}{b:Nat}[bV P t (.slice el)][bR P el (.slice none 0 0) 1 b]{x0 x1 x2:ag}{s0 s1 s2:aQ}(hS:St w0 w ks)(h0:ev e x0=s0.v)(h1:ev e x1=s1.v)(h2:ev e x2=s2.v)(hb:Nat.blt d N=true)(hK:∀A w',St w0 w' (b9 el A 3 3 [s0,s1,s2]::ks)->ao P N ops K rest (bG e d (.slice A 3 3)) w'):ao P N ops K (⟨some d,.buildSlice t 3 #[(0,x0),(1,x1),(2,x2)],ty,pos,af,none⟩::rest) e w:=by
 obtain⟨inf,hi,fS,hs,jv⟩:=bR.get P el;have e0:(s0.v).cells= #[s0.v]:=O;have e1:(s1.v).cells= #[s1.v]:=O;have e2:(s2.v).cells= #[s2.v]:=O;have hz:(Value.slice none 0 0).cells= #[Value.slice none 0 0]:=O;refine .val (w':=w.alloc (.cells #[s0.v,s1.v,s2.v] el)) ?_ hb (hK _ _ (hS.alloc [s0.v,s1.v,s2.v] el (by simp [maxLen]) O));simp [execOp,Instr.buildSlice,run_underlying (bV.out (P:=P) (t:=t)),sizeOf,typeInfo,zeroValue,hi,hs,fS,hz,Instr.fill,newRow,h0,e0,h1,e1,h2,e2,ES,nZ]
end
theorem afl{w0 w:aa}{ks:List Ck}(ix:Nat){As:aj}{k:Ck}(ed:Nat)(hS:St w0 w ks)(hk:ks[ix]?=some k)(hK:gX w0 As k)(he:1<=ed/\ed<=100000):
 aN prog 236 [.pointer As,ak ed] w (fun v w'=>∃A c rs xss N k',v= .agg #[.slice A 3 c]/\rs.length=3/\xss.length=3/\GM N xss/\(1<=N/\N<=4*ed)/\gX w0 As k'/\St w0 w' (aO 32 2 A 3 c rs xss++ks.set ix k')):=by
 refine bI func236 O ntmps236 O (pq O O) (bc O (gD hS O ?_));intro A4 w1 aE;refine ar O (nD O O O (by omega) (ar O ?_));refine jO aE O fun oL w2 aD=>jO aD O ?_;intro dZ w3 aM;have hn:(4:Int)* (ed:Int)=((4*ed:Nat):Int):=by omega
 rw [hn];have aM:St w0 w3 (az 2 dZ 0 0 []::az 2 oL 0 0 []::Bx 24 1 A4 [.slice none 0 0]::ks):=aM;refine ar O (aL (U3 (ix+3) (4*ed) aM (by exact hk) hK (by omega)) O ?_);rintro _ w4 ⟨Am,cm,ps,k',rfl,kl,uK,aU⟩;have aU:St w0 w4 (az 2 Am (4*ed) cm ps::az 2 dZ 0 0 []::az 2 oL 0 0 []::Bx 24 1 A4 [.slice none 0 0]::ks.set ix k'):=aU;generalize hN:4*ed=n at*;refine aI O (Cd.loop (α:=Nat×aj×Nat×ai×aj×Nat×ai) (fun s=> [(4,.pointer A4),(5,ak n),(6,.slice s.2.1 s.1 s.2.2.1),(7,.slice s.2.2.2.2.1 s.1 s.2.2.2.2.2.1),(8,.slice Am n cm),(9,ak (s.1:Int))]) (fun s w'=>St w0 w' (az 2 Am n cm ps::az 2 s.2.2.2.2.1 s.1 s.2.2.2.2.2.1 s.2.2.2.2.2.2::az 2 s.2.1 s.1 s.2.2.1 s.2.2.2.1::Bx 24 1 A4 [.slice none 0 0]::ks.set ix k')/\s.1<=n/\s.2.2.2.1.length=s.1/\s.2.2.2.2.2.2.length=s.1/\(∀x∈s.2.2.2.1,0<=x/\x< (n:Int))/\(∀x∈s.2.2.2.2.2.2,0<=x/\x< (n:Int))) (fun s=>n - s.1) (0,oL,0,[],dZ,0,[]) (alH O) ⟨aU,bm _,O,O,fun x hx=> (nomatch hx),fun x hx=> (nomatch hx)⟩ ?_);rintro⟨f,A6,c6,zs,A7,c7,ts⟩ e w5 ⟨aV,hf,vT,Nn,hz,ht⟩;dsimp only at aV hf vT Nn hz ht|-;refine b8 O (aR _ O (fun h1=>?_) (fun h1=>?_))
 ·have jq:=Qq (q:=f) (e:=ed) (c:=1) (by omega) (by decide) (by omega);have oE:=Qq (q:=f) (e:=ed) (c:=2) (by omega) (by decide) (by omega);rw [hN]at jq oE;refine aG O (PS (j:=((1:Nat):Int)) O O O ?_);generalize bits .xor .i64 (f:Int) ((1:Nat):Int)=b1 at jq|-;refine dV aV O O O fun wh w6 aZ=>fp 3 aZ O (aZ.bF 0 O) O O O ?_;intro Pc QA w7 a6;have a6:St w0 w7 (az 2 Am n cm ps::az 2 A7 f c7 ts::az 2 Pc (f+1) QA (zs++ [b1])::Bx 24 1 A4 [.slice none 0 0]::ks.set ix k'):=a6.tail;refine ar O (PS (j:=((2:Nat):Int)) O O O ?_);generalize bits .xor .i64 (f:Int) ((2:Nat):Int)=b2 at oE|-;refine dV a6 O O O fun dE w8 bL=>fp 2 bL O (bL.bF 0 O) O O O fun ui vj w9 a7=>ar O (aJ O (aT O (tQ ?_)));refine⟨(f+1,Pc,QA,zs++ [b1],ui,vj,ts++ [b2]),by show n - (f+1)<n - f;omega,(alH O),a7.tail,by show f+1<=n;omega,by simp [vT],by simp [Nn],fun x hx=>?_,fun x hx=>?_⟩
  ·rcases iR.1 hx with h | h
   ·exact hz x h
   rw [fm]at h;subst h;exact jq
  rcases iR.1 hx with h | h
  ·exact ht x h
  rw [fm]at h;subst h;exact oE
 have mH:f=n:=by omega
 subst mH;refine bw O (bA (dh O ?_));refine X7 (s0:=⟨A6,f,c6⟩) (s1:=⟨Am,f,cm⟩) (s2:=⟨A7,f,c7⟩) aV O O O O ?_;intro bT w6 aZ;have aZ:St w0 w6 (aO 32 2 bT 3 3 [⟨A6,f,c6⟩,⟨Am,f,cm⟩,⟨A7,f,c7⟩] [zs,ps,ts]++ (Bx 24 1 A4 [.slice none 0 0]::ks.set ix k')):=aZ.perm (List.Perm.cons _ (((List.Perm.cons _ (List.Perm.swap _ _ _)).trans (List.Perm.swap _ _ _)).trans (List.Perm.cons _ (List.Perm.refl _))));have hG:GM f [zs,ps,ts]:=fun q hq=>by
  rcases jn.1 hq with rfl | hq
  ·exact⟨vT,hz⟩
  rcases jn.1 hq with rfl | hq
  ·exact kl
  rw [fm]at hq;subst hq;exact⟨Nn,ht⟩
 have l9:bz w6 bT 3 [⟨A6,f,c6⟩,⟨Am,f,cm⟩,⟨A7,f,c7⟩] [zs,ps,ts]:=St.gj aZ O;obtain⟨o1,o2,_⟩:=sd (N:=f) (xss:=[zs,ps,ts]) (pt:=0) hG.sys (Int.le_refl _) (by omega);have I3:=o1.len;have adt:1<=(dw f [zs,ps,ts] 0).length:=by
  have:=o2.length_le;simpa using this
 have TX:=o1.range;refine ar O (aL (NK bT 3 3 _ _ f 0 _ l9 (by decide) hG.sys (by omega) (Int.le_refl _) (by omega)) O ?_);rintro _ w7 ⟨dL,gn,rfl,adX⟩;have a6:=aZ.call adX;generalize hO:dw f [zs,ps,ts] 0=ord at*;have a6:St w0 w7 (az 2 dL ord.length gn ord::(aO 32 2 bT 3 3 [⟨A6,f,c6⟩,⟨Am,f,cm⟩,⟨A7,f,c7⟩] [zs,ps,ts]++ (Bx 24 1 A4 [.slice none 0 0]::ks.set ix k'))):=a6;refine ar O (zh f a6 O O (by omega) ?_);intro iO w8 bL;refine aI O ?_;refine Cd.loop (α:=Nat×ai) (fun s=> [(4,.pointer A4),(5,ak f),(10,.slice bT 3 3),(11,.slice dL ord.length gn),(12,.slice iO f f),(13,ak (s.1:Int))]) (fun s w'=>St w0 w' (az 2 iO f f s.2::az 2 dL ord.length gn ord::(aO 32 2 bT 3 3 [⟨A6,f,c6⟩,⟨Am,f,cm⟩,⟨A7,f,c7⟩] [zs,ps,ts]++ (Bx 24 1 A4 [.slice none 0 0]::ks.set ix k')))/\s.1<=ord.length/\s.2.length=f/\∀x∈s.2,0<=x/\x< (ord.length:Int)) (fun s=>ord.length - s.1) (0,List.replicate f 0) ⟨rfl,rfl,rfl,rfl,rfl,rfl,av⟩ ⟨bL,bm _,by simp,fun x hx=>by obtain⟨h0,rfl⟩:=List.mem_replicate.1 hx;omega⟩ ?_;rintro⟨i,num⟩ e w9 ⟨a7,hi,iZ,Gb⟩;dsimp only at a7 hi iZ Gb|-;refine bc O (bk O O (aI O ?_));refine aR _ O (fun h2=>?_) (fun h2=>?_)
 ·have BA:=a7.bF 1 O;have L7:=a7.bF 0 O;have Gd:=TX (gi ord i) (by rw [cd (by omega)];exact dH _);refine aG O (aF BA.2 O (bh BA O (ar O (aF L7.2 O (lu 0 a7 O O O (by omega) ?_)))));intro dQ bO;refine ar O (aJ O (aT O (tQ ?_)));refine⟨(i+1,num.set (gi ord i).toNat (i:Int)),by show ord.length - (i+1)<ord.length - i;omega,(alH O),bO,by show i+1<=ord.length;omega,by rw [jK];exact iZ,fun x hx=>?_⟩;rcases List.mem_or_eq_of_mem_set hx with hx | rfl
  ·exact Gb x hx
  omega
 have BA:=a7.bF 1 O;have L7:=a7.bF 0 O;have hM9:bz w9 bT 3 [⟨A6,f,c6⟩,⟨Am,f,cm⟩,⟨A7,f,c7⟩] [zs,ps,ts]:=St.gj a7.tail.tail O;have wS:∀x:Int,0<=x->x<f->0<=gi num x/\gi num x< (ord.length:Int):=fun x h0 h1=>by
  obtain⟨q,rfl⟩:∃q:Nat,x=q:=⟨x.toNat,by omega⟩;rw [cd (by omega)];exact Gb _ (dH _)
 refine bw O (bA (dh O ?_));refine wm (by exact inferInstance) O (gD (St.refl w9) O ?_);intro lL dQ uL;refine bW 1 0 uL O O O O O O O ?_;intro eI vz;have vz:St w9 eI ([Bx 24 1 lL [.slice none 0 0]]++aO 32 2 none 0 0 [] []):=(vz.nil _).perm (ku (l₁:=[_]) (l₂:=[_]));refine aI O (Cd.loop (α:=PW) (fun s=> [(4,.pointer A4),(5,ak f),(10,.slice bT 3 3),(11,.slice dL ord.length gn),(12,.slice iO f f),(14,.pointer lL),(15,ak (s.n:Int))]) (fun s w'=>St w9 w' ([Bx 24 1 lL [.slice s.B s.n s.c]]++aO 32 2 s.B s.n s.c s.rs s.xss)/\s.n<=3/\s.rs.length=s.n/\s.xss.length=s.n/\GM ord.length s.xss) (fun s=>3 - s.n) ⟨0,0,none,0,0,[],[]⟩ (alH O) ⟨vz,bm _,O,O,fun p hp=> (nomatch hp)⟩ ?_);rintro⟨_,_,C,q,cC,js,lK⟩ e gL ⟨Dw,hq,b5,NB,NC⟩;dsimp only at Dw hq b5 NB NC|-;refine b8 O (aR _ O (fun h3=>?_) (fun h3=>?_))
 ·refine aG O (jO Dw O ?_);intro px gC acb;refine aI O (Cd.loop (α:=Nat×aj×Nat×ai) (fun s=> [(4,.pointer A4),(5,ak f),(10,.slice bT 3 3),(11,.slice dL ord.length gn),(12,.slice iO f f),(14,.pointer lL),(15,ak q),(16,.slice s.2.1 s.1 s.2.2.1),(17,ak (s.1:Int))]) (fun s w'=>St w9 w' (az 2 s.2.1 s.1 s.2.2.1 s.2.2.2::([Bx 24 1 lL [.slice C q cC]]++aO 32 2 C q cC js lK))/\s.1<=ord.length/\s.2.2.2.length=s.1/\∀x∈s.2.2.2,0<=x/\x< (ord.length:Int)) (fun s=>ord.length - s.1) (0,px,0,[]) (alH O) ⟨acb,bm _,O,fun x hx=> (nomatch hx)⟩ ?_);rintro⟨j,px,wz,acc⟩ e lW ⟨mF,hj,nH,zG⟩;dsimp only at mF hj nH zG|-;refine bc O (bk O O (aI O ?_));refine aR _ O (fun h4=>?_) (fun h4=>?_)
  ·have SM:=mF.gH BA;have SI:=mF.gH L7;have L3:=mF.bS hM9;have cJ:=L3.at_ (i:=(q:Int)) (by omega) (by omega);have sT:=hG.at_ (i:=q) (by show q<3;omega);have iS:(rg [⟨A6,f,c6⟩,⟨Am,f,cm⟩,⟨A7,f,c7⟩] q).n=f:=by rw [<-cJ.1,sT.1]
   have Gd:=TX (gi ord j) (by rw [cd (by omega)];exact dH _);have pQ:=sT.gi Gd.1 Gd.2;have TR:=wS _ pQ.1 pQ.2;generalize hV:gi (gl [zs,ps,ts] q) (gi ord j)=mv at pQ TR;refine cM O ?_;refine jA [15] [yS (px) (j) (wz),yS (iO) (f) (f),yS (bT) (3) (3),yI ((q:Int)),yP (aB (bT) ((q:Int)).toNat),yS ((rg ([⟨A6,f,c6⟩,⟨Am,f,cm⟩,⟨A7,f,c7⟩]) ((q:Int))).a) ((rg ([⟨A6,f,c6⟩,⟨Am,f,cm⟩,⟨A7,f,c7⟩]) ((q:Int))).n) ((rg ([⟨A6,f,c6⟩,⟨Am,f,cm⟩,⟨A7,f,c7⟩]) ((q:Int))).c),yS (dL) (ord.length) (gn),yI ((j:Int)),yP (aB (dL) ((j:Int)).toNat),yI (gi (ord) ((j:Int))),yP (aB (rg [⟨A6,f,c6⟩,⟨Am,f,cm⟩,⟨A7,f,c7⟩] q).a (gi ord j).toNat),yI (mv),yP (aB (iO) (mv).toNat),yI (gi (num) (mv)),.pr (fun v' w'=>∃sn,v'= .slice sn 1 1/\St w9 w' (az 2 sn 1 1 [gi num mv]::az 2 px j wz acc::([Bx 24 1 lL [.slice C q cC]]++aO 32 2 C q cC js lK))),.pr (fun v' w'=>∃dZ fu,v'= .slice dZ (j+1) fu/\St w9 w' (az 2 dZ (j+1) fu (acc++ [gi num mv])::([Bx 24 1 lL [.slice C q cC]]++aO 32 2 C q cC js lK))),.pr (fun v' w'=>∃dZ fu,v'= .slice dZ (j+1) fu/\St w9 w' (az 2 dZ (j+1) fu (acc++ [gi num mv])::([Bx 24 1 lL [.slice C q cC]]++aO 32 2 C q cC js lK)))] (ly (ly (ly (ly (ly (ly (ly (ly (ly (ly (ly (ly (ly (ly (cj.2 ⟨Ye.cN (fun v w w' h hb=>by obtain⟨oL,hv,h1⟩:=h;exact⟨oL,hv,h1.aq hb⟩),(cj.2 ⟨Ye.cN (fun v w w' h hb=>by obtain⟨dZ,fu,hv,h1⟩:=h;exact⟨dZ,fu,hv,h1.aq hb⟩),(cj.2 ⟨Ye.cN (fun v w w' h hb=>by obtain⟨dZ,fu,hv,h1⟩:=h;exact⟨dZ,fu,hv,h1.aq hb⟩),(fun _ h=>by cases h)⟩)⟩)⟩))))))))))))))) ?_ ?_
   ·refine⟨?_,bQ O,bQ O,bQ O,cP fun _ _ hb _ _ _=>aF (L3.top.aq hb).2 O (bq O O),cP fun _ _ hb _ _ _=>b6 (L3.top.aq hb) O (bq O O),bQ O,bQ O,cP fun _ _ hb _ _ _=>aF (SM.aq hb).2 O (bq O O),cP fun _ _ hb _ _ _=>bh (SM.aq hb) O (bq O O),?_,?_,cP fun _ _ hb _ _ _=>aF (SI.aq hb).2 O (bq O O),cP fun _ _ hb _ _ _=>bh (SI.aq hb) O (bq O O),?_,?_,?_,av⟩
    ·intro e1 w1 cc dS cI dX hp aY hq;show ao _ _ _ _ _ _ _;refine pF O (by exact aY 16 _ O (by kernel_rfl)) O (ao.n (fL O (by exact O)))
    ·refine cP fun e1 w1 hb hp aY hq=>?_
     refine aF (cJ.aq hb).2 O (ao.n (fL O (by exact O)))
    ·refine cP fun e1 w1 hb hp aY hq=>?_
     refine bh (cJ.aq hb) O (ao.n ?_);exact fL O (by exact aK (Value.int .i64) hV)
    ·refine cP fun e1 w1 hb hp aY hq=>?_
     exact dV (St.refl _) O O O fun oL kL z6=>ao.n (eO.dn O z6.below ⟨oL,O,(mF.aq hb).call z6⟩)
    ·refine jC fun e1 w1 hb hp aY hq=>?_
     obtain⟨oL,tT,h1⟩:=(hp 14 _ _ (by kernel_rfl) rfl rfl (by kernel_rfl));refine fp 1 h1 O (h1.bF 0 O) O (by exact tT) O ?_;intro dZ fu O7 FJ;exact ao.n (fH.dn O ⟨dZ,fu,O,FJ.tail⟩)
    refine dP 1 fun e1 w1 hp aY hq=>?_
    have fe:=hp 15 _ _ (by kernel_rfl) O O (by kernel_rfl);obtain⟨dZ,fu,tT,h1⟩:=(hp 15 _ _ (by kernel_rfl) rfl rfl (by kernel_rfl));refine pF O (by exact tT) O (ao.n ?_);exact eO.dn O (Below.refl _ _) ⟨dZ,fu,O,h1⟩
   intro u nW _ hu _ _;obtain⟨dZ,fu,ad8,hT⟩:=hu 16 _ rfl (by kernel_rfl);refine iV O (aJ O (aT O (tQ ?_)));refine⟨(j+1,dZ,fu,acc++ [gi num mv]),by show ord.length - (j+1)<ord.length - j;omega,⟨O,O,O,O,O,O,O,ad8,O,av⟩,hT,by show j+1<=ord.length;omega,by simp [nH],fun x eE=>?_⟩;rcases iR.1 eE with h | h
   ·exact zG x h
   rw [fm]at h;subst h;exact TR
  have BS:j=ord.length:=by omega
  refine bw O (bA (dh O ?_));refine aW (mF.rd 1 O) O (a8 (mF.rd 1 O) O (ar O (mr mF O O O ?_)));intro XA nW uM;refine oe 3 uM O (uM.ie 0 O) O O O (by omega) (by omega) O ?_;intro td tt sl wI;have wI:St w9 sl (az 2 px j wz acc::Bx 24 1 lL [.slice C q cC]::b9 32 td (q+1) tt (js++ [⟨px,j,wz⟩])::dq 2 js lK):=wI.tail;refine aW (wI.rd 1 O) O (ka 1 wI O O O O O ?_);intro mm vA;have vA:St w9 mm (az 2 px j wz acc::Bx 24 1 lL [.slice td (q+1) tt]::b9 32 td (q+1) tt (js++ [⟨px,j,wz⟩])::dq 2 js lK):=vA;refine ar O (aJ O (aT O (tQ ?_)));refine⟨⟨0,0,td,q+1,tt,js++ [⟨px,j,wz⟩],lK++ [acc]⟩,by show 3 - (q+1)<3 - q;omega,(alH O),?_,by show q+1<=3;omega,by simp [b5],by simp [NB],fun p hp=>?_⟩
  ·show St w9 mm ([_]++b9 32 td (q+1) tt (js++ [⟨px,j,wz⟩])::dq 2 (js++ [⟨px,j,wz⟩]) (lK++ [acc]));rw [AH (by omega)];refine vA.perm ?_;exact ku (l₁:=[_]) (l₂:=_::b9 32 td (q+1) tt (js++ [⟨px,j,wz⟩])::dq 2 js lK)
  rcases iR.1 hp with h | h
  ·exact NC p h
  rw [fm]at h;subst h;exact⟨by omega,zG⟩
 have DR:q=3:=by omega
 subst DR;have hF:=a7.call Dw;have o5:St w0 gL (Bx 24 1 lL [.slice C 3 cC]::(aO 32 2 C 3 cC js lK++ (Bx 24 1 A4 [.slice none 0 0]::ks.set ix k'))):=
  hF.sub (List.Sublist.cons_cons _ (List.Sublist.append_left ((iL _ _).cons _ |>.cons _) _))
 have Sn:St w0 gL (Bx 24 1 lL [.slice C 3 cC]::Bx 24 1 A4 [.slice none 0 0]::(aO 32 2 C 3 cC js lK++ks.set ix k')):=o5.perm (List.Perm.cons _ jc);refine bw O (bA (dh O ?_));refine alC 0 (Sn.rd 0 O) O (bW 1 1 Sn O O O O O O O ?_);intro gC Sp;refine bM O (ko O (Sp.rd 1 O) ?_);exact⟨C,cC,js,lK,ord.length,k',O,b5,NB,NC,⟨adt,by omega⟩,uK,(Sp.sub ((fE _).cons _)).sub ((fE _).cons _)⟩
theorem yT{a b a' b':ad}(h:a=a')(h':b=b'):[a,b]=[a',b']:=by rw [h,h']
theorem Ec{Q:kb}{e:Env}{w:aa}{F:List (Nat×ad)}(hM:Mt e F)(h:Q .normal (ext e F) w):Q .normal e w:=by rwa [zv hM]at h
theorem G6{w0 w:aa}{ks:List Ck}(X:List Ck)(ix:Nat){As:aj}{k:Ck}(n:Int)(hS:St w0 w (X++ks))(hk:ks[ix]?=some k)(hK:gX w0 As k):
 aN prog 135 [.pointer As,ak n] w (fun v w'=>∃(r:Int) (k':Ck),v=ak r/\(0<=r/\(1<=n->r<n)/\(n<1->r=0))/\gX w0 As k'/\St w0 w' (X++ks.set ix k')):=by
 have e:(X++ks)[X.length+ix]?=some k:=by
  rw [kN (by omega),Nat.add_sub_cancel_left];exact hk
 have h:=yQ (X.length+ix) n hS e hK;refine h.mono ?_;rintro v w' ⟨r,k',h1,h2,h3,h4⟩;rw [show(X++ks).set (X.length+ix) k'=X++ks.set ix k' from by rw [List.set_append,aw (by omega),Nat.add_sub_cancel_left]]at h4;exact⟨r,k',h1,h2,h3,h4⟩
def J7(w0:aa)(ks:List Ck)(ix:Nat)(As:aj)(v:ad)(w':aa):Prop:=
 ∃(n N:Nat) (A:aj) (c:Nat) (rs:List aQ) (xss:ah) (k':Ck),v= .agg #[.slice A n c]/\(1<=n/\n<=5)/\(1<=N/\N<=20000)/\rs.length=n/\xss.length=n/\GM N xss/\gX w0 As k'/\St w0 w' (aO 32 2 A n c rs xss++ks.set ix k')
structure He where
 n:Nat
 N:Nat
 A:aj
 c:Nat
 rs:List aQ
 xss:ah
 k:Ck
abbrev wx(A4 A5 A6 Ar Ae:aj)(vs:List ad)(X:List Ck):List Ck:=
 Bx 24 1 A6 vs::Bx 24 1 A5 [.slice Ar 1 1]::Bx 24 1 A4 [.slice none 0 0]::(aO 32 2 Ar 1 1 [⟨Ae,2,2⟩] [[1,0]]++X)
abbrev anyM(A4 A5 A6 Ar Ae:aj)(vs:List ad)(ms X:List Ck):List Ck:=
 Bx 24 1 A6 vs::Bx 24 1 A5 [.slice Ar 1 1]::Bx 24 1 A4 [.slice none 0 0]::(ms++ (aO 32 2 Ar 1 1 [⟨Ae,2,2⟩] [[1,0]]++X))
theorem any_join{w0 w w':aa}{A4 A5 A6 Ar Ae:aj}{vs:List ad}{ms X:List Ck}(hS:St w0 w (wx A4 A5 A6 Ar Ae vs X))(hT:St w w' ms):St w0 w' (anyM A4 A5 A6 Ar Ae vs ms X):=(hS.call hT).perm ((jc (l₁:=ms)).trans (List.Perm.cons _ ((jc (l₁:=ms)).trans (List.Perm.cons _ (jc (l₁:=ms))))))
theorem YW{w0 w':aa}{A4 A5 A6 Ar Ae:aj}{vs:List ad}{ms X:List Ck}(hS:St w0 w' (ms++wx A4 A5 A6 Ar Ae vs X)):St w0 w' (anyM A4 A5 A6 Ar Ae vs ms X):=
 hS.perm ((jc (l₁:=ms)).trans (List.Perm.cons _ ((jc (l₁:=ms)).trans (List.Perm.cons _ (jc (l₁:=ms))))))
theorem CZ{w0 w':aa}{A4 A5 A6 Ar Ae:aj}{vs:List ad}{ms X:List Ck}(hS:St w0 w' (anyM A4 A5 A6 Ar Ae vs ms X)):St w0 w' (wx A4 A5 A6 Ar Ae vs X):=
 hS.sub (List.Sublist.cons_cons _ (List.Sublist.cons_cons _ (List.Sublist.cons_cons _ (iL _ _))))
theorem OS{w0 w:aa}{A4 A5 A6 Ar Ae:aj}{vs:List ad}{ms ks:List Ck}(ix:Nat){As:aj}{k:Ck}(n:Int)(hS:St w0 w (anyM A4 A5 A6 Ar Ae vs ms ks))(hk:ks[ix]?=some k)(hK:gX w0 As k):
 aN prog 135 [.pointer As,ak n] w (fun v w'=>∃(r:Int) (k':Ck),v=ak r/\(0<=r/\(1<=n->r<n)/\(n<1->r=0))/\gX w0 As k'/\St w0 w' (anyM A4 A5 A6 Ar Ae vs ms (ks.set ix k'))):=by
 have e:∀X,anyM A4 A5 A6 Ar Ae vs ms X=anyM A4 A5 A6 Ar Ae vs ms []++X:=fun X=>by simp [anyM]
 rw [e]at hS;refine(G6 _ ix n hS hk hK).mono ?_;rintro v w' ⟨r,k',h1,h2,h3,h4⟩;rw [<-e]at h4;exact⟨r,k',h1,h2,h3,h4⟩
theorem CM:GM 2 [[1,0]]:=fun p hp=>by
 rw [fm]at hp;subst hp;exact⟨O,fun x hx=>by
  rcases jn.1 hx with rfl | hx
  ·decide
  rw [fm]at hx;subst hx;decide⟩
structure XB(w0:aa)(ks:List Ck)(ix:Nat)(As A4 A5 A6 Ar Ae:aj)(most p:Nat)(D:Int)(S:Nat->Bool)(e:Env)(w:aa):Prop where
 f0:e 0= .pointer As
 f1:e 1=ak most
 f4:e 4= .pointer A4
 f5:e 5= .pointer A5
 f6:e 6= .pointer A6
 f7:e 7=ak p
 p0:S 0=true->e 52=ak p
 p2:S 2=true->e 54= .pointer As
 p3:S 3=true->e 55=ak most
 p4:S 4=true->e 56=ak p
 p5:S 5=true->e 57=ak (4* (p:Int))
 p6:S 6=true->e 58=ak D
 p7:S 7=true->∃r:Int,e 59=ak r/\0<=r/\r<=250
 p8:S 8=true->∃q:Nat,e 60=ak q/\1<=q/\q<=251
 mem:∃(b1 b2 b3:List Ck) (kk:Ck) (vs:List ad),gX w0 As kk/\(S 1=true->∃A c rs xss,e 53= .agg #[.slice A 2 c]/\rs.length=2/\xss.length=2/\GM (2*p) xss/\b1=aO 32 2 A 2 c rs xss)/\(S 9=true->∃A c rs xss q,e 61= .agg #[.slice A 2 c]/\(1<=q/\q<=251)/\rs.length=2/\xss.length=2/\GM (2*q) xss/\b2=aO 32 2 A 2 c rs xss)/\(S 11=false->vs=[.slice Ar 1 1])/\(S 10=true->∃A c rs xss N,e 62= .agg #[.slice A 4 c]/\(1<=N/\N<=20000)/\rs.length=4/\xss.length=4/\GM N xss/\b3=aO 32 2 A 4 c rs xss/\(S 11=true->vs=[.slice A 4 c]))/\
  St w0 w (anyM A4 A5 A6 Ar Ae vs (b3++ (b2++b1)) (ks.set ix kk))
theorem Ky{w0 w':aa}{A4 A5 A6 Ar Ae:aj}{vs:List ad}{n m m' X:List Ck}(hS:St w0 w' (n++anyM A4 A5 A6 Ar Ae vs m X))(hm:(n++m).Perm m'):St w0 w' (anyM A4 A5 A6 Ar Ae vs m' X):=
 hS.perm ((jc (l₁:=n)).trans (List.Perm.cons _ ((jc (l₁:=n)).trans (List.Perm.cons _ ((jc (l₁:=n)).trans (List.Perm.cons _ (by rw [<-gN];exact hm.append_right _)))))))
theorem C0{w0 w':aa}{A4 A5 A6 Ar Ae:aj}{vs:List ad}{m m' X:List Ck}(hS:St w0 w' (anyM A4 A5 A6 Ar Ae vs m X))(hm:m'.Sublist m):St w0 w' (anyM A4 A5 A6 Ar Ae vs m' X):=
 hS.sub (List.Sublist.cons_cons _ (List.Sublist.cons_cons _ (List.Sublist.cons_cons _ (hm.append (fE _)))))
theorem afh{w0 w:aa}{ks:List Ck}(ix:Nat){As:aj}{k:Ck}(most:Nat)(hS:St w0 w ks)(hk:ks[ix]?=some k)(hK:gX w0 As k)(hm:8<=most/\most<=1000):
 aN prog 199 [.pointer As,ak most] w (J7 w0 ks ix As):=by
 refine bI func199 O ntmps199 O (pq O O) (bc O (gD hS O ?_));intro A4 w1 aE;refine ar O (xz [1,0] aE O O (by decide) (by decide) O O fun Ae w2 aD=>mr aD O O O fun Ar w3 aM=>EG (by exact inferInstance) O O O O (gD aM O ?_));intro A5 w4 aU;refine bW 1 0 aU O O O O O O O fun w5 aV=>ar O (alC 0 (aV.rd 0 O) O (gD aV O ?_));intro A6 w6 aZ;refine bW 1 0 aZ O O O O O O O ?_;intro w7 a6;have a6:St w0 w7 (wx A4 A5 A6 Ar Ae [.slice Ar 1 1] ks):=a6.perm (List.Perm.cons _ (List.Perm.cons _ ((ku (l₁:=[_,_]) (l₂:=[_])).append_right ks)));refine xr 0 O (nY (α:=He) (fun s=> [(0,.pointer As),(1,ak most),(4,.pointer A4),(5,.pointer A5),(6,.pointer A6)]) (fun s w'=> (1<=s.n/\s.n<=5)/\(1<=s.N/\s.N<=20000)/\s.rs.length=s.n/\s.xss.length=s.n/\GM s.N s.xss/\gX w0 As s.k/\St w0 w' (anyM A4 A5 A6 Ar Ae [.slice s.A s.n s.c] (aO 32 2 s.A s.n s.c s.rs s.xss) (ks.set ix s.k))) ?_ ?_)
 ·refine bc O (aL (yQ (ix+5) 7 a6 (by exact hk) hK) O ?_);rintro _ w8 ⟨r,k1,rfl,hr,qO,bL⟩;have bL:St w0 w8 (wx A4 A5 A6 Ar Ae [.slice Ar 1 1] (ks.set ix k1)):=bL;have fv:=ml (k':=k1) hk;refine aI O (aR _ O (fun h1=>?_) (fun h1=>?_))
  ·refine aG O (ao.quo O O O (by omega) (aL (yQ (ix+5) _ bL (by exact fv) qO) O ?_));rintro _ w9 ⟨q,k2,rfl,hq,gR,a7⟩;have a7:St w0 w9 (wx A4 A5 A6 Ar Ae [.slice Ar 1 1] ((ks.set ix k1).set ix k2)):=a7;rw [l4]at a7;have gW:=ml (k':=k2) hk;refine aJ O ?_;obtain⟨p,hp⟩:∃p:Nat,1+q=p:=⟨(1+q).toNat,by omega⟩;rw [hp];refine aL (Cj p _ (by omega)) O ?_;rintro _ dQ ⟨A,c,rs,xss,rfl,b5,dG,hG,hT⟩;have bO:=any_join a7 hT;refine bW 1 0 bO O O O O O O O fun eI dB=>aT O (tQ ?_);exact⟨⟨2,2*p,A,c,rs,xss,k2⟩,(alH O),(by show 1<=2/\2<=5;decide),⟨by show 1<=2*p;omega,by show 2*p<=20000;omega⟩,b5,dG,hG,gR,dB⟩
  ·refine cM O (aR _ O (fun h2=>?_) (fun h2=>?_))
   ·refine aG O (alC 0 (bL.rd 1 O) O (bW 1 2 bL O O O O O O O ?_));intro w9 a7;refine bM O (fD (e6 ?_));refine ko O (a7.rd 2 O) ?_;exact⟨1,2,Ar,1,[⟨Ae,2,2⟩],[[1,0]],k1,O,by decide,by decide,O,O,CM,qO,a7.tail.tail.tail⟩
   ·refine cM O (aR _ O (fun h3=>?_) (fun h3=>?_))
    ·refine aG O (ao.quo O O O (by omega) (aL (yQ (ix+5) _ bL (by exact fv) qO) O ?_));rintro _ w9 ⟨q,k2,rfl,hq,gR,a7⟩;have a7:St w0 w9 (wx A4 A5 A6 Ar Ae [.slice Ar 1 1] ((ks.set ix k1).set ix k2)):=a7;rw [l4]at a7;refine aJ O ?_;obtain⟨p,hp⟩:∃p:Nat,1+q=p:=⟨(1+q).toNat,by omega⟩;rw [hp];refine aL (Cj p _ (by omega)) O ?_;rintro _ dQ ⟨A,c,rs,xss,rfl,b5,dG,hG,hT⟩;have bO:=any_join a7 hT;refine bW 1 0 bO O O O O O O O ?_;intro eI dB;have dB:St w0 eI (anyM A4 A5 A6 Ar Ae [.slice A 2 c] (aO 32 2 A 2 c rs xss) (ks.set ix k2)):=dB;refine ar O (alC 0 (dB.rd 0 O) O (alC 0 (dB.rd 1 O) O ?_));refine aL (Gz A 2 c rs xss (2*p) Ar 1 1 [⟨Ae,2,2⟩] [[1,0]] 2 eI (St.gj dB.tail.tail.tail (by omega)) (St.gj (CZ dB).tail.tail.tail O) (by decide) (by decide) hG CM (by omega) (by omega) (by omega)) O ?_;rintro _ gL ⟨A',c',rs',xss',rfl,nn,pS,o6,iM⟩;have fB:=any_join (CZ dB) iM;refine bW 1 0 fB O O O O O O O fun gC gA=>aT O (tQ ?_);exact⟨⟨3,2*p*2,A',c',rs',xss',k2⟩,(alH O),(by show 1<=3/\3<=5;decide),⟨by show 1<=2*p*2;omega,by show 2*p*2<=20000;omega⟩,nn,pS,o6,gR,gA⟩
    ·refine cM O (aR _ O (fun h4=>?_) (fun h4=>?_))
     ·refine aG O (aL (yQ (ix+5) 4 bL (by exact fv) qO) O ?_);rintro _ w9 ⟨q,k2,rfl,hq,gR,a7⟩;have a7:St w0 w9 (wx A4 A5 A6 Ar Ae [.slice Ar 1 1] ((ks.set ix k1).set ix k2)):=a7;rw [l4]at a7;refine aJ O (xr 0 O ?_);refine nY (α:=Nat) (fun p=> [(0,.pointer As),(1,ak most),(4,.pointer A4),(5,.pointer A5),(6,.pointer A6),(7,ak p)]) (fun p w'=>w'=w9/\1<=p/\p<=4) ?_ ?_
      ·refine bc O (nD O O O (by omega) (aI O ?_));refine aR _ O (fun h5=>?_) (fun h5=>?_)
       ·refine mU O (tQ ?_);exact⟨2,(alH O),O,by decide⟩
       ·refine mU O (tQ ?_);exact⟨(1+q).toNat,⟨O,O,O,O,O,aK (Value.int .i64) (by omega),av⟩,O,by omega⟩
      rintro p e dQ ⟨rfl,hp⟩;obtain⟨D,hD⟩:∃D:Int,(most:Int) / (4* (p:Int))=D:=⟨_,rfl⟩;have hDb:0<=D/\D<=250:=by
       rcases(by omega:p=1\/p=2\/p=3\/p=4)with rfl | rfl | rfl | rfl<;>omega
      refine y8 (by kernel_rfl) (by kernel_rfl) (fun S e1 w1=>XB w0 ks ix As A4 A5 A6 Ar Ae most p D S e1 w1) (fun w4 hb=> ⟨O,O,O,O,O,O,fun h=> (nomatch h),fun h=> (nomatch h),fun h=> (nomatch h),fun h=> (nomatch h),fun h=> (nomatch h),fun h=> (nomatch h),fun h=> (nomatch h),fun h=> (nomatch h),[],[],[],k2,[.slice Ar 1 1],gR,fun h=> (nomatch h),fun h=> (nomatch h),fun _=>O,fun h=> (nomatch h),a7.aq hb⟩) ?_ ?_
      ·intro S i o e1 w4 hq bY hd da hI;obtain⟨f0,f1,f4,f5,f6,f7,p0,p2,p3,p4,p5,p6,p7,p8,B1,B2,B3,kk,vs,dY,m1,m9,m11,m10,hT⟩:=hI
       match i,hq,bY with
       | 0,hq,bY=>
        obtain rfl:=dA hq;refine rH O (by exact f7) O (ao.n ?_);exact⟨f0,f1,f4,f5,f6,f7,fun _=>O,p2,p3,p4,p5,p6,p7,p8,B1,B2,B3,kk,vs,dY,m1,m9,m11,m10,hT⟩
       | 1,hq,bY=>
        obtain rfl:=dA hq;refine als (Cj p w4 (by omega)) O (by exact aK (fun v=> [v]) (p0 (dC hd 0 O))) O ?_;rintro _ w5 ⟨A,c,rs,xss,rfl,b5,dG,hG,iM⟩;have kh:=Ky (m':=B3++ (B2++aO 32 2 A 2 c rs xss)) ((C0 hT (m':=B3++ (B2++ [])) ((fE _).append ((fE _).append (List.nil_sublist _)))).call iM) (by rw [eu,<-gN B3 B2];exact ku);exact ao.n ⟨f0,f1,f4,f5,f6,f7,p0,p2,p3,p4,p5,p6,p7,p8,aO 32 2 A 2 c rs xss,B2,B3,kk,vs,dY,fun _=> ⟨A,c,rs,xss,O,b5,dG,hG,O⟩,m9,m11,m10,kh⟩
       | 2,hq,bY=>
        obtain rfl:=dA hq;refine Be O (by exact f0) O (ao.n ?_);exact⟨f0,f1,f4,f5,f6,f7,p0,fun _=>O,p3,p4,p5,p6,p7,p8,B1,B2,B3,kk,vs,dY,m1,m9,m11,m10,hT⟩
       | 3,hq,bY=>
        obtain rfl:=dA hq;refine rH O (by exact f1) O (ao.n ?_);exact⟨f0,f1,f4,f5,f6,f7,p0,p2,fun _=>O,p4,p5,p6,p7,p8,B1,B2,B3,kk,vs,dY,m1,m9,m11,m10,hT⟩
       | 4,hq,bY=>
        obtain rfl:=dA hq;refine rH O (by exact f7) O (ao.n ?_);exact⟨f0,f1,f4,f5,f6,f7,p0,p2,p3,fun _=>O,p5,p6,p7,p8,B1,B2,B3,kk,vs,dY,m1,m9,m11,m10,hT⟩
       | 5,hq,bY=>
        obtain rfl:=dA hq;refine nD O (by exact p4 (dC hd 4 O)) O (by omega) (ao.n ?_);exact⟨f0,f1,f4,f5,f6,f7,p0,p2,p3,p4,fun _=>O,p6,p7,p8,B1,B2,B3,kk,vs,dY,m1,m9,m11,m10,hT⟩
       | 6,hq,bY=>
        obtain rfl:=dA hq;refine ao.quo (by exact p3 (dC hd 3 O)) (by exact p5 (dC hd 5 O)) O (by omega) (ao.n ?_);exact⟨f0,f1,f4,f5,f6,f7,p0,p2,p3,p4,p5,fun _=>aK (Value.int .i64) hD,p7,p8,B1,B2,B3,kk,vs,dY,m1,m9,m11,m10,hT⟩
       | 7,hq,bY=>
        obtain rfl:=dA hq;have uU:=ml (k':=kk) hk;refine als (OS ix D hT uU dY) O (by exact yT (p2 (dC hd 2 O)) (p6 (dC hd 6 O))) O ?_;rintro _ w5 ⟨r7,k7,rfl,Gh,tE,eo⟩;rw [l4]at eo;refine ao.n ?_;exact⟨f0,f1,f4,f5,f6,f7,p0,p2,p3,p4,p5,p6,fun _=> ⟨r7,O,Gh.1,by omega⟩,p8,B1,B2,B3,k7,vs,tE,m1,m9,m11,m10,eo⟩
       | 8,hq,bY=>
        obtain rfl:=dA hq;obtain⟨r7,h7,Gh⟩:=p7 (dC hd 7 rfl);refine alu O (by exact h7) O (by omega) (ao.n ?_);exact⟨f0,f1,f4,f5,f6,f7,p0,p2,p3,p4,p5,p6,p7,fun _=> ⟨(1+r7).toNat,aK (Value.int .i64) (by omega),by omega,by omega⟩,B1,B2,B3,kk,vs,dY,m1,m9,m11,m10,hT⟩
       | 9,hq,bY=>
        obtain rfl:=dA hq;obtain⟨q8,h8,I8⟩:=p8 (dC hd 8 rfl);refine als (Cj q8 w4 (by omega)) O (by exact aK (fun v=> [v]) h8) O ?_;rintro _ w5 ⟨A,c,rs,xss,rfl,b5,dG,hG,iM⟩;have kh:=Ky (m':=B3++ (aO 32 2 A 2 c rs xss++B1)) ((C0 hT (m':=B3++ ([]++B1)) ((fE _).append ((List.nil_sublist _).append (fE _)))).call iM) (by rw [List.nil_append,<-gN,<-gN];exact ku.append_right _);exact ao.n ⟨f0,f1,f4,f5,f6,f7,p0,p2,p3,p4,p5,p6,p7,p8,B1,aO 32 2 A 2 c rs xss,B3,kk,vs,dY,m1,fun _=> ⟨A,c,rs,xss,q8,O,I8,b5,dG,hG,O⟩,m11,m10,kh⟩
       | 10,hq,bY=>
        obtain rfl:=dA hq;obtain⟨A1,c1,eW,kM,Ih,adH,aed,Sr,rfl⟩:=m1 (dC hd 1 rfl);obtain⟨A2,c2,yO,Ex,q8,Sj,I8,adI,aee,Ss,rfl⟩:=m9 (dC hd 9 rfl);have n11:S 11=false:=by
         cases h:S 11 with
         | false=>rfl
         | true=>rw [<-bY];exact(dC (da 11 _ h rfl) 10 rfl).symm
        have uN:bz w4 A1 2 eW kM:=St.gj ((C0 hT (m':=[]++ ([]++aO 32 2 A1 2 c1 eW kM)) ((List.nil_sublist _).append ((List.nil_sublist _).append (fE _)))).tail.tail.tail) (by omega);have hX2:bz w4 A2 2 yO Ex:=St.gj ((C0 hT (m':=aO 32 2 A2 2 c2 yO Ex) ((uw _ _).trans (iL _ _))).tail.tail.tail) (by omega);have hN:2*p* (2*q8)<=8*502:=Nat.mul_le_mul (by omega) (by omega);have vy:1<=2*p* (2*q8):=Nat.mul_pos (by omega) (by omega);refine als (Gz A1 2 c1 eW kM (2*p) A2 2 c2 yO Ex (2*q8) w4 uN hX2 (by decide) (by decide) Sr Ss (by omega) (by omega) (by omega)) O (by exact yT Ih Sj) O ?_;rintro _ w5 ⟨A,c,rs,xss,rfl,b5,dG,hG,iM⟩;have kh:=Ky (m':=aO 32 2 A (2+2) c rs xss++ (aO 32 2 A2 2 c2 yO Ex++aO 32 2 A1 2 c1 eW kM)) ((C0 hT (iL _ _)).call iM) (List.Perm.refl _);refine ao.n ?_;exact⟨f0,f1,f4,f5,f6,f7,p0,p2,p3,p4,p5,p6,p7,p8,aO 32 2 A1 2 c1 eW kM,aO 32 2 A2 2 c2 yO Ex,aO 32 2 A (2+2) c rs xss,kk,vs,dY,fun _=> ⟨A1,c1,eW,kM,Ih,adH,aed,Sr,O⟩,fun _=> ⟨A2,c2,yO,Ex,q8,Sj,I8,adI,aee,Ss,O⟩,m11,fun _=> ⟨A,c,rs,xss,2*p* (2*q8),O,⟨vy,by omega⟩,b5,dG,hG,O,fun h=> (nomatch n11.symm.trans h)⟩,kh⟩
       | 11,hq,bY=>
        obtain rfl:=dA hq;obtain⟨A,c,rs,xss,N,LK,hN,b5,dG,hG,rfl,_⟩:=m10 (dC hd 10 rfl);obtain rfl:=m11 bY;refine bW 1 0 hT O (by exact f6) (by exact LK) O O O O ?_;intro w5 kh;refine ao.n ?_;exact⟨f0,f1,f4,f5,f6,f7,p0,p2,p3,p4,p5,p6,p7,p8,B1,B2,_,kk,[.slice A 4 c],dY,m1,m9,fun h=> (nomatch (show true=false from h)),fun _=> ⟨A,c,rs,xss,N,LK,hN,b5,dG,hG,O,fun _=>O⟩,kh⟩
       | i+12,hq,_=>exact(nomatch hq)
      ·intro S e1 w4 dO hI;obtain⟨f0,f1,f4,f5,f6,f7,p0,p2,p3,p4,p5,p6,p7,p8,B1,B2,B3,kk,vs,dY,m1,m9,m11,m10,hT⟩:=hI;obtain⟨A,c,rs,xss,N,LK,hN,b5,dG,hG,rfl,yp⟩:=m10 (dO 10 (by decide));obtain rfl:=yp (dO 11 (by decide));refine Ec (F:=[(0,.pointer As),(1,ak most),(4,.pointer A4),(5,.pointer A5),(6,.pointer A6)]) ⟨f0,f1,f4,f5,f6,av⟩ (Pv O (tQ ?_));exact⟨⟨4,N,A,c,rs,xss,kk⟩,(alH O),(by show 1<=4/\4<=5;decide),hN,b5,dG,hG,dY,C0 hT (uw _ _)⟩
     ·refine aG O (ao.quo O O O (by omega) (aL (yQ (ix+5) _ bL (by exact fv) qO) O ?_));rintro _ w9 ⟨q,k2,rfl,hq,gR,a7⟩;have a7:St w0 w9 (wx A4 A5 A6 Ar Ae [.slice Ar 1 1] ((ks.set ix k1).set ix k2)):=a7;rw [l4]at a7;have gW:=ml (k':=k2) hk;refine aJ O ?_;obtain⟨p,hp⟩:∃p:Nat,1+q=p:=⟨(1+q).toNat,by omega⟩;rw [hp];refine aL (afl (ix+5) p a7 (by exact gW) gR (by omega)) O ?_;rintro _ dQ ⟨A,c,rs,xss,N,k3,rfl,b5,dG,hG,hN,tD,hT⟩;have hT:St w0 dQ (aO 32 2 A 3 c rs xss++wx A4 A5 A6 Ar Ae [.slice Ar 1 1] ((ks.set ix k2).set ix k3)):=hT;rw [l4]at hT;have bO:=YW hT;refine bW 1 0 bO O O O O O O O fun eI dB=>aT O (tQ ?_);exact⟨⟨3,N,A,c,rs,xss,k3⟩,(alH O),(by show 1<=3/\3<=5;decide),⟨hN.1,by show N<=20000;omega⟩,b5,dG,hG,tD,dB⟩
 ·intro s e w9 hI;refine cM O (Cd.loop (α:=He) (fun s=> [(0,.pointer As),(1,ak most),(4,.pointer A4),(5,.pointer A5),(6,.pointer A6)]) (fun s w'=> (1<=s.n/\s.n<=5)/\(1<=s.N/\s.N<=20000)/\s.rs.length=s.n/\s.xss.length=s.n/\GM s.N s.xss/\gX w0 As s.k/\St w0 w' (anyM A4 A5 A6 Ar Ae [.slice s.A s.n s.c] (aO 32 2 s.A s.n s.c s.rs s.xss) (ks.set ix s.k))) (fun s=>5 - s.n) s (alH O) hI ?_);clear hI s;rintro⟨n,N,A,c,rs,xss,k2⟩ e dQ ⟨hn,hN,b5,dG,hG,gR,bO⟩;dsimp only at hn hN b5 dG hG gR bO|-;have gW:=ml (k':=k2) hk;refine bc O (aW (bO.rd 0 O) O (a8 (bO.rd 0 O) O ?_));refine bk O O (ar O ?_);have LU:∀(k5:Ck) (eI:aa),gX w0 As k5->St w0 eI (aO 32 2 A n c rs xss++ (aO 32 2 Ar 1 1 [⟨Ae,2,2⟩] [[1,0]]++ks.set ix k5))->J7 w0 ks ix As (.agg #[.slice A n c]) eI:=fun k5 eI hK5 h=> ⟨n,N,A,c,rs,xss,k5,O,hn,hN,b5,dG,hG,hK5,h.sub ((fE _).append (iL _ _))⟩
  refine cT 67 O (fun h1=>?_) (fun h1=>?_)
  ·refine au O (alC 0 (bO.rd 0 O) O (au O (aL (xd A n c rs xss dQ (St.gj bO.tail.tail.tail (by omega)) (by omega)) O ?_)));rintro _ eI ⟨rfl,hT⟩;have dB:=bO.aq hT.below;rw [hG.first (by omega)];refine au O (nD O O O (by omega) (au O (ar O (au O (ar O ?_)))));refine cT 74 O (fun h2=>?_) (fun h2=>?_)
   ·refine au O (ar O (au O ?_));refine aL (OS ix 3 dB gW gR) O ?_;rintro _ gL ⟨r,k3,rfl,hr,tD,fB⟩;rw [l4]at fB;have hk3:=ml (k':=k3) hk;refine au O (aI O ?_);refine aR _ O (fun h3=>?_) (fun h3=>?_)
    ·refine aG O (aL (OS ix 2 fB hk3 tD) O ?_);rintro _ gC ⟨r',k4,rfl,gg,Is,gA⟩;rw [l4]at gA;refine aI O (aR _ O (fun h4=>?_) (fun h4=>?_))
     ·skip
      refine aG O (alC 0 (gA.rd 0 O) O (alC 0 (gA.rd 1 O) O ?_));refine aL (Gz A n c rs xss N Ar 1 1 [⟨Ae,2,2⟩] [[1,0]] 2 gC (St.gj gA.tail.tail.tail (by omega)) (St.gj (CZ gA).tail.tail.tail O) (by omega) (by decide) hG CM (by omega) (by omega) (by omega)) O ?_;rintro _ lW ⟨A',c',rs',xss',rfl,nn,pS,o6,iM⟩;have jf:=any_join (CZ gA) iM;refine bW 1 0 jf O O O O O O O fun nW ia=>aT O (tQ ?_);exact⟨⟨n+1,N*2,A',c',rs',xss',k4⟩,by show 5 - (n+1)<5 - n;omega,(alH O),⟨by show 1<=n+1;omega,by show n+1<=5;omega⟩,⟨by show 1<=N*2;omega,by show N*2<=20000;omega⟩,nn,pS,o6,Is,ia⟩
     ·skip
      refine aG O (alC 0 (gA.rd 1 O) O (alC 0 (gA.rd 0 O) O ?_));refine aL (Gz Ar 1 1 [⟨Ae,2,2⟩] [[1,0]] 2 A n c rs xss N gC (St.gj (CZ gA).tail.tail.tail O) (St.gj gA.tail.tail.tail (by omega)) (by decide) (by omega) CM hG (by omega) (by omega) (by omega)) O ?_;rintro _ lW ⟨A',c',rs',xss',rfl,nn,pS,o6,iM⟩;have jf:=any_join (CZ gA) iM;refine bW 1 0 jf O O O O O O O fun nW ia=>aT O (tQ ?_);exact⟨⟨1+n,2*N,A',c',rs',xss',k4⟩,by show 5 - (1+n)<5 - n;omega,(alH O),⟨by show 1<=1+n;omega,by show 1+n<=5;omega⟩,⟨by show 1<=2*N;omega,by show 2*N<=20000;omega⟩,nn,pS,o6,Is,ia⟩
    ·refine bw O (bA (dh O ?_));refine alC 0 (fB.rd 0 O) O (bW 1 2 fB O O O O O O O ?_);intro kL gu;refine bM O (ko O (gu.rd 2 O) ?_);exact LU k3 kL ‹_› gu.tail.tail.tail
   ·refine aA O (aA O (aA O (aI O ?_)));refine Cd.gq O (bw O (bA (dh O ?_)));refine alC 0 (dB.rd 0 O) O (bW 1 2 dB O O O O O O O ?_);intro kL gu;refine bM O (ko O (gu.rd 2 O) ?_);exact LU k2 kL ‹_› gu.tail.tail.tail
  ·refine aA O (aA O (aA O (aA O (aA O (ar O (aA O (aA O (aA O (aI O ?_)))))))));refine Cd.gq O (bw O (bA (dh O ?_)));refine alC 0 (bO.rd 0 O) O (bW 1 2 bO O O O O O O O ?_);intro kL gu;refine bM O (ko O (gu.rd 2 O) ?_);exact LU k2 kL ‹_› gu.tail.tail.tail
theorem WK{N:Nat}{f g:Nat->Int}(hg:∀i,i<N->0<=g i/\g i< (N:Int)):∀ {m:Nat} {xs:ai},m<=N->Rg N xs->Rg N (s8 xs f g m)
 | 0,_,_,h=>h
 | m+1,xs,hm,h=>by
  have h1:=WK (f:=f) hg (m:=m) (by omega) h;have h2:=hg m (by omega);refine⟨by simp [s8,h1.1],fun x hx=>?_⟩;simp only [s8]at hx;rcases List.mem_or_eq_of_mem_set hx with hx | rfl
  ·exact h1.2 x hx
  ·exact h2
theorem GM.Wq{N:Nat}{p:ai}{xss:ah}(h:GM N xss)(hp:Rg N p):GM N (xss.map (nV N p)):=fun q hq=>by
 obtain⟨mv,pQ,rfl⟩:=dv.1 hq;have h1:=h mv pQ;refine WK (fun i hi=>?_) (bB _) ⟨by simp,fun x hx=>by obtain⟨h0,rfl⟩:=List.mem_replicate.1 hx;omega⟩;have h2:=h1.gi (i:=(i:Int)) (by omega) (by omega);exact hp.gi h2.1 h2.2
structure XL(w0:aa)(ks:List Ck)(ix:Nat)(As A4 A5:aj)(n N:Nat)(A:aj)(c:Nat)(rs:List aQ)(xss:ah)(S:Nat->Bool)(e:Env)(w:aa):Prop where
 f0:e 0= .pointer As
 f4:e 4= .pointer A4
 f5:e 5= .pointer A5
 p0:S 0=true->e 12= .agg #[.slice A n c]
 p1:S 1=true->e 13= .pointer As
 p2:S 2=true->e 14= .agg #[.slice A n c]
 p3:S 3=true->e 15=ak N
 mem:∃(b1 b2:List Ck) (kk:Ck) (vs:List ad),gX w0 As kk/\(S 4=true->∃Ap cp ps,e 16= .slice Ap N cp/\Rg N ps/\b1=[az 2 Ap N cp ps])/\(S 6=false->vs=[.slice none 0 0])/\(S 5=true->∃A' c' rs' xss',e 17= .agg #[.slice A' n c']/\rs'.length=n/\xss'.length=n/\GM N xss'/\b2=aO 32 2 A' n c' rs' xss'/\(S 6=true->vs=[.slice A' n c']))/\
  St w0 w (Bx 24 1 A5 [.slice A n c]::Bx 24 1 A4 vs::(aO 32 2 A n c rs xss++ (b2++ (b1++ks.set ix kk))))
theorem UX{w0 w:aa}{ks:List Ck}(X:List Ck)(ix:Nat){As:aj}{k:Ck}(n:Nat)(hS:St w0 w (X++ks))(hk:ks[ix]?=some k)(hK:gX w0 As k)(hn:n<=1000000):
 aN prog 183 [.pointer As,ak n] w (fun v w'=>∃A c xs k',v= .slice A n c/\Rg n xs/\gX w0 As k'/\St w0 w' (az 2 A n c xs::(X++ks.set ix k'))):=by
 have e:(X++ks)[X.length+ix]?=some k:=by
  rw [kN (by omega),Nat.add_sub_cancel_left];exact hk
 refine(UY (X.length+ix) n hS e hK hn).mono ?_;rintro v w' ⟨A,c,xs,k',h1,h2,h3,h4⟩;rw [show(X++ks).set (X.length+ix) k'=X++ks.set ix k' from by rw [List.set_append,aw (by omega),Nat.add_sub_cancel_left]]at h4;exact⟨A,c,xs,k',h1,h2,h3,h4⟩
theorem afi{w0 w:aa}{ks:List Ck}(ix:Nat){As:aj}{k:Ck}(most:Nat)(hS:St w0 w ks)(hk:ks[ix]?=some k)(hK:gX w0 As k)(hm:8<=most/\most<=1000):
 aN prog 134 [.pointer As,ak most] w (J7 w0 ks ix As):=by
 refine bI func134 O ntmps134 O (pq O O) (bc O (gD hS O ?_));intro A4 w1 aE;refine ar O (aL (afh (ix+1) most aE (by exact hk) hK hm) O ?_);rintro _ w2 ⟨n,N,A,c,rs,xss,k1,rfl,hn,hN,b5,dG,hG,qO,aD⟩;refine gD aD O fun A5 w3 aM=>bW 1 0 aM O O O O O O O ?_;intro w4 aU;have aU:St w0 w4 (Bx 24 1 A5 [.slice A n c]::(aO 32 2 A n c rs xss++ (Bx 24 1 A4 [.slice none 0 0]::ks.set ix k1))):=aU;have aU:St w0 w4 (Bx 24 1 A5 [.slice A n c]::Bx 24 1 A4 [.slice none 0 0]::(aO 32 2 A n c rs xss++ks.set ix k1)):=aU.perm (List.Perm.cons _ jc);have fv:=ml (k':=k1) hk;refine ar O ?_;have hN4:∀(X:List Ck) (kk:Ck) (w5:aa) (vs:List ad) (q:Int),gX w0 As kk->St w0 w5 (Bx 24 1 A5 [.slice A n c]::Bx 24 1 A4 vs::(aO 32 2 A n c rs xss++ (X++ks.set ix kk)))->aN prog 135 [.pointer As,ak q] w5 (fun v w'=>∃(r:Int) (k':Ck),v=ak r/\(0<=r/\(1<=q->r<q)/\(q<1->r=0))/\gX w0 As k'/\St w0 w' (Bx 24 1 A5 [.slice A n c]::Bx 24 1 A4 vs::(aO 32 2 A n c rs xss++ (X++ks.set ix k')))):=by
  intro X kk w5 vs q dY hT;have uU:=ml (k':=kk) hk;have e:∀Y,Bx 24 1 A5 [.slice A n c]::Bx 24 1 A4 vs::(aO 32 2 A n c rs xss++ (X++Y))=(Bx 24 1 A5 [.slice A n c]::Bx 24 1 A4 vs::(aO 32 2 A n c rs xss++X))++Y:=fun Y=>by simp
  rw [e]at hT;refine(G6 _ ix q hT uU dY).mono ?_;rintro v w' ⟨r,k',h1,h2,h3,h4⟩;rw [<-e,l4]at h4;exact⟨r,k',h1,h2,h3,h4⟩
 refine aL (hN4 [] k1 w4 _ 4 qO aU) O ?_;rintro _ w5 ⟨r,k2,rfl,hr,gR,aV⟩;have aV:St w0 w5 (Bx 24 1 A5 [.slice A n c]::Bx 24 1 A4 [.slice none 0 0]::(aO 32 2 A n c rs xss++ks.set ix k2)):=aV;have gW:=ml (k':=k2) hk;refine aI O (aR _ O (fun h1=>?_) (fun h1=>?_))
 ·refine cM O (y8 (by kernel_rfl) (by kernel_rfl) (fun S e1 w1=>XL w0 ks ix As A4 A5 n N A c rs xss S e1 w1) (fun w6 hb=> ⟨O,O,O,fun h=> (nomatch h),fun h=> (nomatch h),fun h=> (nomatch h),fun h=> (nomatch h),[],[],k2,[.slice none 0 0],gR,fun h=> (nomatch h),fun _=>O,fun h=> (nomatch h),aV.aq hb⟩) ?_ ?_)
  ·intro S i o e1 w6 hq bY hd da hI;obtain⟨f0,f4,f5,p0,p1,p2,p3,B1,B2,kk,vs,dY,m4,m6,m5,hT⟩:=hI;have hX:bz w6 A n rs xss:=St.gj hT.tail.tail (by omega)
   match i,hq,bY with
   | 0,hq,bY=>
    obtain rfl:=dA hq;refine ao.bP 0 (hT.rd 0 O) (by exact f5) O O (ao.n ?_);exact⟨f0,f4,f5,fun _=>O,p1,p2,p3,B1,B2,kk,vs,dY,m4,m6,m5,hT⟩
   | 1,hq,bY=>
    obtain rfl:=dA hq;refine Be O (by exact f0) O (ao.n ?_);exact⟨f0,f4,f5,p0,fun _=>O,p2,p3,B1,B2,kk,vs,dY,m4,m6,m5,hT⟩
   | 2,hq,bY=>
    obtain rfl:=dA hq;refine ao.bP 0 (hT.rd 0 O) (by exact f5) O O (ao.n ?_);exact⟨f0,f4,f5,p0,p1,fun _=>O,p3,B1,B2,kk,vs,dY,m4,m6,m5,hT⟩
   | 3,hq,bY=>
    obtain rfl:=dA hq;refine als (xd A n c rs xss w6 hX (by omega)) O (by exact aK (fun v=> [v]) (p2 (dC hd 2 O))) O ?_;rintro _ w7 ⟨rfl,iM⟩;have eo:=hT.aq iM.below;rw [hG.first (by omega)];exact ao.n ⟨f0,f4,f5,p0,p1,p2,fun _=>O,B1,B2,kk,vs,dY,m4,m6,m5,eo⟩
   | 4,hq,bY=>
    obtain rfl:=dA hq;have uU:=ml (k':=kk) hk;have e:(Bx 24 1 A5 [.slice A n c]::Bx 24 1 A4 vs::(aO 32 2 A n c rs xss++ (B2++ (B1++ks.set ix kk))))=(Bx 24 1 A5 [.slice A n c]::Bx 24 1 A4 vs::(aO 32 2 A n c rs xss++ (B2++B1)))++ks.set ix kk:=by simp
    have vB:=hT;rw [e]at vB;refine als (UX _ ix N vB uU dY (by omega)) O (by exact yT (p1 (dC hd 1 O)) (p3 (dC hd 3 O))) O ?_;rintro _ w7 ⟨Ap,cp,ps,k7,rfl,kl,tE,eo⟩;rw [l4]at eo;have eK:St w0 w7 (Bx 24 1 A5 [.slice A n c]::Bx 24 1 A4 vs::(aO 32 2 A n c rs xss++ (B2++ ([az 2 Ap N cp ps]++ks.set ix k7)))):=by
     refine(eo.sub (ks':=az 2 Ap N cp ps::Bx 24 1 A5 [.slice A n c]::Bx 24 1 A4 vs::((aO 32 2 A n c rs xss++B2)++ks.set ix k7)) ?_).perm ?_
     ·rw [<-gN (aO 32 2 A n c rs xss)];exact List.Sublist.cons_cons _ (List.Sublist.cons_cons _ (List.Sublist.cons_cons _ ((uw _ _).append (fE _))))
     ·rw [<-gN (aO 32 2 A n c rs xss)];exact(List.Perm.swap _ _ _).trans (List.Perm.cons _ ((List.Perm.swap _ _ _).trans (List.Perm.cons _ jc.symm)))
    exact ao.n ⟨f0,f4,f5,p0,p1,p2,p3,[az 2 Ap N cp ps],B2,k7,vs,tE,fun _=> ⟨Ap,cp,ps,O,kl,O⟩,m6,m5,eK⟩
   | 5,hq,bY=>
    obtain rfl:=dA hq;obtain⟨Ap,cp,ps,ow,kl,rfl⟩:=m4 (dC hd 4 rfl);have n6:S 6=false:=by
     cases h:S 6 with
     | false=>rfl
     | true=>rw [<-bY];exact(dC (da 6 _ h rfl) 5 rfl).symm
    have hP:di w6 Ap N ps:=((hT.sub ((((iL _ _).trans (iL _ _)).cons _).cons _):St w0 w6 (az 2 Ap N cp ps::ks.set ix kk))).bF 0 O;refine als (U6 A n c rs xss N Ap cp ps w6 hX (by omega) hG.sys (by omega) hP (fun x h0 h1=>kl.gi h0 h1)) O (by exact yT (p0 (dC hd 0 O)) ow) O ?_;rintro _ w7 ⟨A',c',rs',rfl,nn,iM⟩;have eK:St w0 w7 (Bx 24 1 A5 [.slice A n c]::Bx 24 1 A4 vs::(aO 32 2 A n c rs xss++ (aO 32 2 A' n c' rs' (xss.map (nV N ps))++ ([az 2 Ap N cp ps]++ks.set ix kk)))):=by
     refine((hT.sub (ks':=Bx 24 1 A5 [.slice A n c]::Bx 24 1 A4 vs::(aO 32 2 A n c rs xss++ ([az 2 Ap N cp ps]++ks.set ix kk))) ?_).call iM).perm ?_
     ·exact List.Sublist.cons_cons _ (List.Sublist.cons_cons _ ((fE _).append (iL _ _)))
     ·refine(jc (l₁:=aO 32 2 A' n c' rs' (xss.map (nV N ps)))).trans (List.Perm.cons _ ((jc (l₁:=aO 32 2 A' n c' rs' (xss.map (nV N ps)))).trans (List.Perm.cons _ ?_)));rw [<-gN (aO 32 2 A' n c' rs' (xss.map (nV N ps))) (aO 32 2 A n c rs xss),<-gN (aO 32 2 A n c rs xss) (aO 32 2 A' n c' rs' (xss.map (nV N ps)))];exact ku.append_right _
    refine ao.n ?_;exact⟨f0,f4,f5,p0,p1,p2,p3,[az 2 Ap N cp ps],aO 32 2 A' n c' rs' (xss.map (nV N ps)),kk,vs,dY,fun _=> ⟨Ap,cp,ps,ow,kl,O⟩,m6,fun _=> ⟨A',c',rs',_,O,nn,by simp [dG],hG.Wq kl,O,fun h=> (nomatch n6.symm.trans h)⟩,eK⟩
   | 6,hq,bY=>
    obtain rfl:=dA hq;obtain⟨A',c',rs',xss',Br,nn,pS,o6,rfl,_⟩:=m5 (dC hd 5 rfl);obtain rfl:=m6 bY;refine bW 1 1 hT O (by exact f4) (by exact Br) O O O O ?_;intro w7 eo;refine ao.n ?_;exact⟨f0,f4,f5,p0,p1,p2,p3,B1,_,kk,[.slice A' n c'],dY,m4,fun h=> (nomatch (show true=false from h)),fun _=> ⟨A',c',rs',xss',Br,nn,pS,o6,O,fun _=>O⟩,eo⟩
   | i+7,hq,_=>exact(nomatch hq)
  ·intro S e1 w6 dO hI;obtain⟨f0,f4,f5,p0,p1,p2,p3,B1,B2,kk,vs,dY,m4,m6,m5,hT⟩:=hI;obtain⟨A',c',rs',xss',Br,nn,pS,o6,rfl,yp⟩:=m5 (dO 5 (by decide));obtain rfl:=yp (dO 6 (by decide));refine Ec (F:=[(4,.pointer A4)]) ⟨f4,av⟩ (zd O (ko O (hT.rd 1 O) ?_));exact⟨n,N,A',c',rs',xss',kk,O,hn,hN,nn,pS,o6,dY,hT.tail.tail.sub (((fE _).append (iL _ _)).trans (iL _ _))⟩
 ·refine aG O (alC 0 (aV.rd 0 O) O (bW 1 1 aV O O O O O O O ?_));intro w6 aZ;refine bM O (ko O (aZ.rd 1 O) ?_);exact⟨n,N,A,c,rs,xss,k2,O,hn,hN,b5,dG,hG,gR,aZ.tail.tail⟩
section
variable {P:Program} {N:Nat} {ops:Array Oper} {K:Env->aa->Prop} {rest:List Oper} {e:Env} {w0 w w':aa} {ks:List Ck} {d:Nat} {ty:ae} {pos:String} {af:Array Edge}
end
theorem jo.drop{w:aa}{A:aj}{n c l:Nat}{xs:List aQ}(h:jo w A n xs)(hl:l<=n)(hc:n<=c):jo w (cutAt A c l) (n - l) (xs.drop l):=by
 have:=h.cut (l:=l) (h:=n) (c:=c) hl (bB _) hc
 rwa [lp (by rw [List.length_drop,h.1];omega)]at this
def Pk(w0:aa)(ks:List Ck)(ix:Nat)(As:aj)(v:ad)(w':aa):Prop:=
 ∃(n:Nat) (A:aj) (c:Nat) (rs:List aQ) (xss:ah) (X:List Ck) (k':Ck),v= .agg #[.slice A n c]/\n<=6/\(n<=c/\c<=9223372036854775807)/\(∀p∈xss,p.length<=20001/\∀x∈p,-1<=x/\x<=20001)/\gX w0 As k'/\(∀(qc:aa) (Y:List Ck),St w0 qc (X++Y)->bz qc A n rs xss)/\St w0 w' (X++ks.set ix k')
theorem Lt{α:Type}(d:α)(xs:List α)(i:Nat):(xs.drop 1).getD i d=xs.getD (i+1) d:=by
 cases xs with
 | nil=>rfl
 | cons a r=>rfl
theorem bz.aal{w:aa}{A:aj}{n c:Nat}{rs:List aQ}{xss:ah}(h:bz w A n rs xss)(hn:1<=n)(hc:n<=c):bz w (cutAt A c 1) (n - 1) (rs.drop 1) (xss.drop 1):=by
 refine⟨h.top.drop hn hc,by rw [List.length_drop,h.len],fun i hi=>?_,fun i hi=>?_⟩
 ·rw [Lt,Lt];exact h.row (i+1) (by omega)
 rw [Lt];exact h.cap (i+1) (by omega)
structure Ys(w0:aa)(ks:List Ck)(ix:Nat)(As A4 A5:aj)(n N:Nat)(A:aj)(c:Nat)(rs:List aQ)(xss:ah)(S:Nat->Bool)(e:Env)(w:aa):Prop where
 f0:e 0= .pointer As
 f4:e 4= .pointer A4
 f5:e 5= .pointer A5
 f6:e 6=ak N
 p0:S 0=true->e 30= .pointer (aB A5 0)
 p1:S 1=true->e 31= .slice A n c
 p2:S 2=true->e 32= .pointer As
 p3:S 3=true->e 33=ak N
 p7:S 7=true->e 37= .pointer (aB A5 0)
 mem:∃(Am:aj) (cm:Nat) (ps:ai) (nX A':aj) (c':Nat) (b1 b2:List Ck) (b3 kk:Ck) (vs:List ad),gX w0 As kk/\(S 4=true->e 34= .slice Am N cm/\Rg N ps/\b1=[az 2 Am N cm ps])/\(S 5=true->e 35= .slice nX 1 1/\b2=[b9 32 nX 1 1 [⟨Am,N,cm⟩]])/\(S 6=false->b3=b9 32 A n c rs)/\(S 6=true->e 36= .slice A' (n+1) c'/\b3=b9 32 A' (n+1) c' (rs++ [⟨Am,N,cm⟩]))/\(S 8=false->vs=[.slice A n c])/\(S 8=true->vs=[.slice A' (n+1) c'])/\
  St w0 w (Bx 24 1 A5 vs::Bx 24 1 A4 [.slice none 0 0]::b3::(dq 2 rs xss++ (b2++ (b1++ks.set ix kk))))
theorem afb{w0 w:aa}{ks:List Ck}(X:List Ck)(ix:Nat){As:aj}{k:Ck}(n:Nat)(hS:St w0 w (X++ks))(hk:ks[ix]?=some k)(hK:gX w0 As k)(hn:n<=1000000):
 aN prog 162 [.pointer As,ak n] w (fun v w'=>∃A c xs k',v= .slice A n c/\Rg n xs/\gX w0 As k'/\St w0 w' (az 2 A n c xs::(X++ks.set ix k'))):=by
 have e:(X++ks)[X.length+ix]?=some k:=by
  rw [kN (by omega),Nat.add_sub_cancel_left];exact hk
 refine(U3 (X.length+ix) n hS e hK hn).mono ?_;rintro v w' ⟨A,c,xs,k',h1,h2,h3,h4⟩;rw [show(X++ks).set (X.length+ix) k'=X++ks.set ix k' from by rw [List.set_append,aw (by omega),Nat.add_sub_cancel_left]]at h4;exact⟨A,c,xs,k',h1,h2,h3,h4⟩
theorem yC{S:Nat->Bool}{j k:Nat}(bY:S k=false)(h:S j=true->S k=true):S j=false:=by
 cases hj:S j with
 | false=>rfl
 | true=>rw [<-bY];exact(h hj).symm
structure Yr(w0:aa)(ks:List Ck)(ix:Nat)(As A4 A5:aj)(n N:Nat)(A:aj)(c:Nat)(a0:aj)(c0:Nat)(eW:List aQ)(kM:ah)(S:Nat->Bool)(e:Env)(w:aa):Prop where
 f0:e 0= .pointer As
 f4:e 4= .pointer A4
 f5:e 5= .pointer A5
 f6:e 6=ak N
 p0:S 0=true->e 16= .pointer (aB A5 0)
 p1:S 1=true->e 17= .slice A n c
 p2:S 2=true->e 18= .pointer (aB A 0)
 p3:S 3=true->e 19= .slice a0 N c0
 p4:S 4=true->e 20= .pointer As
 p5:S 5=true->e 21=ak N
 p6:S 6=true->∃r:Int,e 22=ak r/\0<=r/\r<N
 p7:S 7=true->e 23= .pointer As
 p8:S 8=true->e 24=ak N
 se:S 10=true->∃x:Int,e 26=ak x/\ -1<=x/\x<=20001
 sf:S 11=true->∃r:Int,e 27= .pointer (aB a0 r.toNat)/\0<=r/\r<N
 mem:∃(y:ai) (mn:aj) (b1:List Ck) (kk:Ck),gX w0 As kk/\(y.length=N/\∀x∈y,-1<=x/\x<=20001)/\(S 9=true->e 25= .slice mn 3 3/\b1=[az 2 mn 3 3 [-1,(N:Int),0]])/\
  St w0 w (Bx 24 1 A5 [.slice A n c]::Bx 24 1 A4 [.slice none 0 0]::b9 32 A n c (⟨a0,N,c0⟩::eW)::az 2 a0 N c0 y::(dq 2 eW kM++ (b1++ks.set ix kk)))
structure Yt(w0:aa)(ks:List Ck)(ix:Nat)(As A4 A5:aj)(n N:Nat)(A:aj)(c:Nat)(a0:aj)(c0:Nat)(eW:List aQ)(x0:ai)(kM:ah)(kk:Ck)(S:Nat->Bool)(e:Env)(w:aa):Prop where
 f4:e 4= .pointer A4
 f5:e 5= .pointer A5
 f6:e 6=ak N
 p0:S 0=true->e 44= .pointer (aB A5 0)
 p1:S 1=true->e 45= .slice A n c
 p2:S 2=true->e 46= .pointer (aB A5 0)
 p3:S 3=true->e 47= .slice A n c
 p4:S 4=true->e 48= .pointer (aB A 0)
 p5:S 5=true->e 49= .slice a0 N c0
 p6:S 6=true->e 50=ak N
 p9:S 9=true->e 53= .pointer (aB A 0)
 mem:∃(py A':aj) (c':Nat) (b1:List Ck) (b3 b4:Ck),(S 7=true->e 51= .slice py 1 1/\b1=[az 2 py 1 1 [(N:Int)]])/\(S 8=false->b3=az 2 a0 N c0 x0)/\(S 8=true->e 52= .slice A' (N+1) c'/\b3=az 2 A' (N+1) c' (x0++ [(N:Int)]))/\(S 10=false->b4=b9 32 A n c (⟨a0,N,c0⟩::eW))/\(S 10=true->b4=b9 32 A n c (⟨A',N+1,c'⟩::eW))/\
  St w0 w (Bx 24 1 A5 [.slice A n c]::Bx 24 1 A4 [.slice none 0 0]::b4::b3::(dq 2 eW kM++ (b1++ks.set ix kk)))
theorem afd{w0 w:aa}{ks:List Ck}(X:List Ck)(ix:Nat){As:aj}{k:Ck}(A:aj)(n c:Nat)(xs:ai)(hS:St w0 w (X++ks))(hk:ks[ix]?=some k)(hK:gX w0 As k)(hR:∀k' w',St w0 w' (X++ks.set ix k')->di w' A n xs)(hn:0<n/\n<=1000000):
 aN prog 137 [.pointer As,.slice A n c] w (fun v w'=>∃(x:Int) (k':Ck),v=ak x/\x∈xs/\gX w0 As k'/\St w0 w' (X++ks.set ix k')):=by
 have e:(X++ks)[X.length+ix]?=some k:=by
  rw [kN (by omega),Nat.add_sub_cancel_left];exact hk
 have e2:∀k',(X++ks).set (X.length+ix) k'=X++ks.set ix k':=fun k'=>by rw [List.set_append,aw (by omega),Nat.add_sub_cancel_left]
 refine(afe (X.length+ix) A n c xs hS e hK (fun k' w' h=>hR k' w' (by rwa [e2]at h)) hn).mono ?_;rintro v w' ⟨x,k',h1,h2,h3,h4⟩;rw [e2]at h4;exact⟨x,k',h1,h2,h3,h4⟩
theorem afn{w0 w:aa}{ks:List Ck}(ix:Nat){As:aj}{k:Ck}(most:Nat)(hS:St w0 w ks)(hk:ks[ix]?=some k)(hK:gX w0 As k)(hm:8<=most/\most<=1000):
 aN prog 95 [.pointer As,ak most] w (Pk w0 ks ix As):=by
 refine bI func95 O ntmps95 O (pq O O) (bc O (gD hS O ?_));intro A4 w1 aE;refine ar O (aL (afi (ix+1) most aE (by exact hk) hK hm) O ?_);rintro _ w2 ⟨n,N,A,c,rs,xss,k1,rfl,hn,hN,b5,dG,hG,qO,aD⟩;refine gD aD O fun A5 w3 aM=>bW 1 0 aM O O O O O O O ?_;intro w4 aU;have aU:St w0 w4 (Bx 24 1 A5 [.slice A n c]::(aO 32 2 A n c rs xss++ (Bx 24 1 A4 [.slice none 0 0]::ks.set ix k1))):=aU;have aU:St w0 w4 (Bx 24 1 A5 [.slice A n c]::Bx 24 1 A4 [.slice none 0 0]::(aO 32 2 A n c rs xss++ks.set ix k1)):=aU.perm (List.Perm.cons _ jc);have fv:=ml (k':=k1) hk;refine ar O (alC 0 (aU.rd 0 O) O (aL (xd A n c rs xss w4 (St.gj aU.tail.tail (by omega)) (by omega)) O ?_));rintro _ w5 ⟨rfl,hT⟩;have aV:=aU.aq hT.below;rw [hG.first (by omega)];refine ar O (aL (G6 (Bx 24 1 A5 [.slice A n c]::Bx 24 1 A4 [.slice none 0 0]::aO 32 2 A n c rs xss) ix 40 aV fv qO) O ?_);rintro _ w6 ⟨r,k2,rfl,hr,gR,aZ⟩;rw [l4]at aZ;have aZ:St w0 w6 (Bx 24 1 A5 [.slice A n c]::Bx 24 1 A4 [.slice none 0 0]::(aO 32 2 A n c rs xss++ks.set ix k2)):=aZ;have gW:=ml (k':=k2) hk;have lQ:n<=c/\c<=9223372036854775807:=aZ.cap 2 O;have uY:∀p∈xss,p.length<=20001/\∀x∈p,-1<=x/\x<=20001:=fun p hp=> ⟨by have:=(hG p hp).1;omega,fun x hx=>by have:=(hG p hp).2 x hx;omega⟩
 refine aI O (aR _ O (fun h1=>?_) (fun h1=>?_))
 ·obtain⟨r0,eW,rfl⟩:∃r0 eW,rs=r0::eW:=by cases rs with | nil=>exact absurd b5 (by simp;omega) | cons a b=>exact⟨a,b,rfl⟩
  obtain⟨x0,kM,rfl⟩:∃x0 kM,xss=x0::kM:=by cases xss with | nil=>exact absurd dG (by simp;omega) | cons a b=>exact⟨a,b,rfl⟩
  obtain⟨a0,n0,c0⟩:=r0;have rX:x0.length=N:=(hG x0 (List.mem_cons_self)).1;have mL:x0.length=n0:=((St.gj aZ.tail.tail dG).at_ (i:=0) (by omega) (by omega)).1;obtain rfl:n0=N:=by omega
  refine y8 (by kernel_rfl) (by kernel_rfl) (fun S e1 w1=>Yr w0 ks ix As A4 A5 n n0 A c a0 c0 eW kM S e1 w1) (fun w7 hb=> ⟨O,O,O,O,fun h=> (nomatch h),fun h=> (nomatch h),fun h=> (nomatch h),fun h=> (nomatch h),fun h=> (nomatch h),fun h=> (nomatch h),fun h=> (nomatch h),fun h=> (nomatch h),fun h=> (nomatch h),fun h=> (nomatch h),fun h=> (nomatch h),x0,none,[],k2,gR,⟨rX,(uY x0 List.mem_cons_self).2⟩,fun h=> (nomatch h),aZ.aq hb⟩) ?_ ?_
  ·intro S i o e1 w7 hq bY hd da hI;obtain⟨f0,f4,f5,f6,p0,p1,p2,p3,p4,p5,p6,p7,p8,se,sf,y,mn,b1,kk,dY,hy,m9,hT⟩:=hI;have uU:=ml (k':=kk) hk;have eX:∀Y,(Bx 24 1 A5 [.slice A n c]::Bx 24 1 A4 [.slice none 0 0]::b9 32 A n c (⟨a0,n0,c0⟩::eW)::az 2 a0 n0 c0 y::(dq 2 eW kM++ (b1++Y)))=(Bx 24 1 A5 [.slice A n c]::Bx 24 1 A4 [.slice none 0 0]::b9 32 A n c (⟨a0,n0,c0⟩::eW)::az 2 a0 n0 c0 y::(dq 2 eW kM++b1))++Y:=fun Y=>by simp
   have vB:=hT;rw [eX]at vB
   match i,hq,bY with
   | 0,hq,bY=>
    obtain rfl:=dA hq;refine alv (hT.rd 0 O) (by exact f5) O O O inferInstance (ao.n ?_);exact⟨f0,f4,f5,f6,fun _=>O,p1,p2,p3,p4,p5,p6,p7,p8,se,sf,y,mn,b1,kk,dY,hy,m9,hT⟩
   | 1,hq,bY=>
    obtain rfl:=dA hq;refine alw (hT.rd 0 O) (by exact p0 (dC hd 0 O)) O O O O (ao.n ?_);exact⟨f0,f4,f5,f6,p0,fun _=>O,p2,p3,p4,p5,p6,p7,p8,se,sf,y,mn,b1,kk,dY,hy,m9,hT⟩
   | 2,hq,bY=>
    obtain rfl:=dA hq;refine alp (hT.rd 2 O) (by exact p1 (dC hd 1 O)) O O (by omega) (by show(0:Int)< (n:Int);omega) ?_;exact ao.n ⟨f0,f4,f5,f6,p0,p1,fun _=>O,p3,p4,p5,p6,p7,p8,se,sf,y,mn,b1,kk,dY,hy,m9,hT⟩
   | 3,hq,bY=>
    obtain rfl:=dA hq;refine alx (i:=0) (hT.ie 2 O) (by exact p2 (dC hd 2 O)) (by show 0<n;omega) O O ?_;exact ao.n ⟨f0,f4,f5,f6,p0,p1,p2,fun _=>O,p4,p5,p6,p7,p8,se,sf,y,mn,b1,kk,dY,hy,m9,hT⟩
   | 4,hq,bY=>
    obtain rfl:=dA hq;refine Be O (by exact f0) O (ao.n ?_);exact⟨f0,f4,f5,f6,p0,p1,p2,p3,fun _=>O,p5,p6,p7,p8,se,sf,y,mn,b1,kk,dY,hy,m9,hT⟩
   | 5,hq,bY=>
    obtain rfl:=dA hq;refine rH O (by exact f6) O (ao.n ?_);exact⟨f0,f4,f5,f6,p0,p1,p2,p3,p4,fun _=>O,p6,p7,p8,se,sf,y,mn,b1,kk,dY,hy,m9,hT⟩
   | 6,hq,bY=>
    obtain rfl:=dA hq;refine als (G6 _ ix n0 vB uU dY) O (by exact yT (p4 (dC hd 4 O)) (p5 (dC hd 5 O))) O ?_;rintro _ w8 ⟨r7,k7,rfl,Gh,tE,eo⟩;rw [l4,<-eX]at eo;exact ao.n ⟨f0,f4,f5,f6,p0,p1,p2,p3,p4,p5,fun _=> ⟨r7,O,Gh.1,Gh.2.1 (by omega)⟩,p7,p8,se,sf,y,mn,b1,k7,tE,hy,m9,eo⟩
   | 7,hq,bY=>
    obtain rfl:=dA hq;refine Be O (by exact f0) O (ao.n ?_);exact⟨f0,f4,f5,f6,p0,p1,p2,p3,p4,p5,p6,fun _=>O,p8,se,sf,y,mn,b1,kk,dY,hy,m9,hT⟩
   | 8,hq,bY=>
    obtain rfl:=dA hq;refine rH O (by exact f6) O (ao.n ?_);exact⟨f0,f4,f5,f6,p0,p1,p2,p3,p4,p5,p6,p7,fun _=>O,se,sf,y,mn,b1,kk,dY,hy,m9,hT⟩
   | 9,hq,bY=>
    obtain rfl:=dA hq;refine xz [-1,(n0:Int),0] (hT.sub (List.Sublist.cons_cons _ (List.Sublist.cons_cons _ (List.Sublist.cons_cons _ (List.Sublist.cons_cons _ ((fE _).append (iL _ _))))))) (by have Bs:e1 24=ak n0:=p8 (dC hd 8 O);simp [ev,Bs,Cf]) O (by decide) (by decide) O O ?_;intro mn w8 eK;have jR:St w0 w8 (Bx 24 1 A5 [.slice A n c]::Bx 24 1 A4 [.slice none 0 0]::b9 32 A n c (⟨a0,n0,c0⟩::eW)::az 2 a0 n0 c0 y::(dq 2 eW kM++ ([az 2 mn 3 3 [-1,(n0:Int),0]]++ks.set ix kk))):=eK.perm (jc (l₁:=Bx 24 1 A5 [.slice A n c]::Bx 24 1 A4 [.slice none 0 0]::b9 32 A n c (⟨a0,n0,c0⟩::eW)::az 2 a0 n0 c0 y::dq 2 eW kM)).symm;exact ao.n ⟨f0,f4,f5,f6,p0,p1,p2,p3,p4,p5,p6,p7,p8,se,sf,y,mn,_,kk,dY,hy,fun _=> ⟨O,O⟩,jR⟩
   | 10,hq,bY=>
    obtain rfl:=dA hq;obtain⟨Ie,rfl⟩:=m9 (dC hd 9 rfl);refine als (afd _ ix mn 3 3 [-1,(n0:Int),0] vB uU dY (fun k' w' h=>by rw [<-eX]at h;exact St.bF (i:=0) (h.sub (((iL _ _).cons _).cons _ |>.cons _ |>.cons _)) O) (by decide)) O (by exact yT (p7 (dC hd 7 O)) Ie) O ?_;rintro _ w8 ⟨x,k7,rfl,hx,tE,eo⟩;rw [l4,<-eX]at eo;have Uv: -1<=x/\x<=20001:=by
     simp only [jn,List.not_mem_nil,or_false]at hx;rcases hx with rfl | rfl | rfl<;>omega
    exact ao.n ⟨f0,f4,f5,f6,p0,p1,p2,p3,p4,p5,p6,p7,p8,fun _=> ⟨x,O,Uv⟩,sf,y,mn,_,k7,tE,hy,fun _=> ⟨Ie,O⟩,eo⟩
   | 11,hq,bY=>
    obtain rfl:=dA hq;obtain⟨r,h22,hr⟩:=p6 (dC hd 6 rfl);refine alp (hT.rd 3 O) (by exact p3 (dC hd 3 O)) (by exact h22) O (by omega) (by show r< (n0:Int);omega) ?_;exact ao.n ⟨f0,f4,f5,f6,p0,p1,p2,p3,p4,p5,p6,p7,p8,se,fun _=> ⟨r,O,hr⟩,y,mn,b1,kk,dY,hy,m9,hT⟩
   | 12,hq,bY=>
    obtain rfl:=dA hq;obtain⟨r,Ig,hr⟩:=sf (dC hd 11 rfl);obtain⟨x,Fi,hx⟩:=se (dC hd 10 rfl);refine lu 3 hT O (by exact Ig) (by exact Fi) (by omega) ?_;intro w8 eK;refine ao.n ?_;exact⟨f0,f4,f5,f6,p0,p1,p2,p3,p4,p5,p6,p7,p8,se,sf,y.set r.toNat x,mn,b1,kk,dY,⟨by rw [jK];exact hy.1,fun z hz=> (List.mem_or_eq_of_mem_set hz).elim (hy.2 z) (fun h=>h▸hx)⟩,m9,eK⟩
   | i+13,hq,_=>exact(nomatch hq)
  ·intro S e1 w7 dO hI;obtain⟨f0,f4,f5,f6,p0,p1,p2,p3,p4,p5,p6,p7,p8,se,sf,y,mn,b1,kk,dY,hy,m9,hT⟩:=hI;refine Ec (F:=[(4,.pointer A4),(5,.pointer A5)]) ⟨f4,f5,av⟩ (iV O (alC 0 (hT.rd 0 O) O (bW 1 1 hT O O O O O O O ?_)));intro kL gu;refine bM O (ko O (gu.rd 1 O) ?_);exact⟨n,A,c,⟨a0,n0,c0⟩::eW,y::kM,aO 32 2 A n c (⟨a0,n0,c0⟩::eW) (y::kM),kk,O,by omega,lQ,fun p hp=> (jn.1 hp).elim (fun h=>h▸⟨by omega,hy.2⟩) (fun h=>uY p (pC _ h)),dY,fun qc Y h=>St.gj h (by simpa using dG),gu.tail.tail.sub (List.Sublist.cons_cons _ (List.Sublist.cons_cons _ ((fE _).append (iL _ _))))⟩
 ·refine cM O (aR _ O (fun h2=>?_) (fun h2=>?_))
  ·skip
   refine y8 (by kernel_rfl) (by kernel_rfl) (fun S e1 w1=>Ys w0 ks ix As A4 A5 n N A c rs xss S e1 w1) (fun w7 hb=> ⟨O,O,O,O,fun h=> (nomatch h),fun h=> (nomatch h),fun h=> (nomatch h),fun h=> (nomatch h),fun h=> (nomatch h),none,0,[],none,none,0,[],[],b9 32 A n c rs,k2,[.slice A n c],gR,fun h=> (nomatch h),fun h=> (nomatch h),fun _=>O,fun h=> (nomatch h),fun _=>O,fun h=> (nomatch h),aZ.aq hb⟩) ?_ ?_
   ·intro S i o e1 w7 hq bY hd da hI;obtain⟨f0,f4,f5,f6,p0,p1,p2,p3,p7,Am,cm,ps,nX,A',c',b1,b2,b3,kk,vs,dY,m4,m5,xf,m6,me,m8,hT⟩:=hI
    match i,hq,bY with
    | 0,hq,bY=>
     obtain rfl:=dA hq;refine alv (hT.rd 0 O) (by exact f5) O O O inferInstance (ao.n ?_);exact⟨f0,f4,f5,f6,fun _=>O,p1,p2,p3,p7,Am,cm,ps,nX,A',c',b1,b2,b3,kk,vs,dY,m4,m5,xf,m6,me,m8,hT⟩
    | 1,hq,bY=>
     obtain rfl:=dA hq;obtain rfl:=me (yC bY fun h=>dC (da 8 _ h rfl) 1 rfl);refine alw (hT.rd 0 O) (by exact p0 (dC hd 0 O)) O O O O (ao.n ?_);exact⟨f0,f4,f5,f6,p0,fun _=>O,p2,p3,p7,Am,cm,ps,nX,A',c',b1,b2,b3,kk,_,dY,m4,m5,xf,m6,me,m8,hT⟩
    | 2,hq,bY=>
     obtain rfl:=dA hq;refine Be O (by exact f0) O (ao.n ?_);exact⟨f0,f4,f5,f6,p0,p1,fun _=>O,p3,p7,Am,cm,ps,nX,A',c',b1,b2,b3,kk,vs,dY,m4,m5,xf,m6,me,m8,hT⟩
    | 3,hq,bY=>
     obtain rfl:=dA hq;refine rH O (by exact f6) O (ao.n ?_);exact⟨f0,f4,f5,f6,p0,p1,p2,fun _=>O,p7,Am,cm,ps,nX,A',c',b1,b2,b3,kk,vs,dY,m4,m5,xf,m6,me,m8,hT⟩
    | 4,hq,bY=>
     obtain rfl:=dA hq;have uU:=ml (k':=kk) hk;have n5:S 5=false:=(yC bY fun h=>dC (da 5 _ h O) 4 O);have n6:S 6=false:=(yC bY fun h=>dC (da 6 _ h O) 4 O);have vB:St w0 w7 ((Bx 24 1 A5 vs::Bx 24 1 A4 [.slice none 0 0]::b3::(dq 2 rs xss++b2))++ks.set ix kk):=hT.sub (List.Sublist.cons_cons _ (List.Sublist.cons_cons _ (List.Sublist.cons_cons _ (by show List.Sublist ((dq 2 rs xss++b2)++ks.set ix kk) _;rw [gN];exact(fE _).append ((fE _).append (iL _ _))))));refine als (afb _ ix N vB uU dY (by omega)) O (by exact yT (p2 (dC hd 2 O)) (p3 (dC hd 3 O))) O ?_;rintro _ w8 ⟨Am,cm,ps,k7,rfl,kl,tE,eo⟩;rw [l4]at eo;have eK:St w0 w8 (Bx 24 1 A5 vs::Bx 24 1 A4 [.slice none 0 0]::b3::(dq 2 rs xss++ (b2++ ([az 2 Am N cm ps]++ks.set ix k7)))):=by
      have e:(Bx 24 1 A5 vs::Bx 24 1 A4 [.slice none 0 0]::b3::(dq 2 rs xss++ (b2++ ([az 2 Am N cm ps]++ks.set ix k7))))=(Bx 24 1 A5 vs::Bx 24 1 A4 [.slice none 0 0]::b3::(dq 2 rs xss++b2))++ (az 2 Am N cm ps::ks.set ix k7):=by simp
      rw [e];exact eo.perm jc.symm
     exact ao.n ⟨f0,f4,f5,f6,p0,p1,p2,p3,p7,Am,cm,ps,nX,A',c',[az 2 Am N cm ps],b2,b3,k7,vs,tE,fun _=> ⟨O,kl,O⟩,fun h=> (nomatch n5.symm.trans h),xf,fun h=> (nomatch n6.symm.trans h),me,m8,eK⟩
    | 5,hq,bY=>
     obtain rfl:=dA hq;obtain⟨Se,kl,rfl⟩:=m4 (dC hd 4 rfl);have n6:S 6=false:=(yC bY fun h=>dC (da 6 _ h O) 5 O);refine mr (hT.sub (ks':=Bx 24 1 A5 vs::Bx 24 1 A4 [.slice none 0 0]::b3::(dq 2 rs xss++ ([az 2 Am N cm ps]++ks.set ix kk))) (List.Sublist.cons_cons _ (List.Sublist.cons_cons _ (List.Sublist.cons_cons _ ((fE _).append (iL _ _)))))) (by exact Se) O O ?_;intro nX w8 eK;have eK:St w0 w8 (Bx 24 1 A5 vs::Bx 24 1 A4 [.slice none 0 0]::b3::(dq 2 rs xss++ ([b9 32 nX 1 1 [⟨Am,N,cm⟩]]++ ([az 2 Am N cm ps]++ks.set ix kk)))):=eK.perm (jc (l₁:=Bx 24 1 A5 vs::Bx 24 1 A4 [.slice none 0 0]::b3::dq 2 rs xss)).symm;exact ao.n ⟨f0,f4,f5,f6,p0,p1,p2,p3,p7,Am,cm,ps,nX,A',c',_,[b9 32 nX 1 1 [⟨Am,N,cm⟩]],b3,kk,vs,dY,fun _=> ⟨Se,kl,O⟩,fun _=> ⟨O,O⟩,xf,fun h=> (nomatch n6.symm.trans h),me,m8,eK⟩
    | 6,hq,bY=>
     obtain rfl:=dA hq;obtain⟨Fj,rfl⟩:=m5 (dC hd 5 rfl);obtain rfl:=xf bY;have n8:S 8=false:=(yC bY fun h=>dC (da 8 _ h O) 6 O);have hR:jo w7 nX 1 [⟨Am,N,cm⟩]:=St.ie (i:=0) (hT.sub (ks':=b9 32 nX 1 1 [⟨Am,N,cm⟩]::(b1++ks.set ix kk)) (((iL _ _).cons _).cons _ |>.cons _)) O;refine oe 2 hT O hR (by exact p1 (dC hd 1 O)) (by exact Fj) O (by omega) (by omega) O ?_;intro A' c' w8 eK;refine ao.n ?_;exact⟨f0,f4,f5,f6,p0,p1,p2,p3,p7,Am,cm,ps,nX,A',c',b1,_,b9 32 A' (n+1) c' (rs++ [⟨Am,N,cm⟩]),kk,vs,dY,m4,fun _=> ⟨Fj,O⟩,fun h=> (nomatch (show true=false from h)),fun _=> ⟨O,O⟩,me,fun h=> (nomatch n8.symm.trans h),eK⟩
    | 7,hq,bY=>
     obtain rfl:=dA hq;refine alv (hT.rd 0 O) (by exact f5) O O O inferInstance (ao.n ?_);exact⟨f0,f4,f5,f6,p0,p1,p2,p3,fun _=>O,Am,cm,ps,nX,A',c',b1,b2,b3,kk,vs,dY,m4,m5,xf,m6,me,m8,hT⟩
    | 8,hq,bY=>
     obtain rfl:=dA hq;obtain⟨Sf,rfl⟩:=m6 (dC hd 6 rfl);obtain rfl:=me bY;refine ka 0 hT O (by exact p7 (dC hd 7 O)) (by exact Sf) O O ?_;intro w8 eK;refine ao.n ?_;exact⟨f0,f4,f5,f6,p0,p1,p2,p3,p7,Am,cm,ps,nX,A',c',b1,b2,_,kk,[.slice A' (n+1) c'],dY,m4,m5,xf,fun _=> ⟨Sf,O⟩,fun h=> (nomatch (show true=false from h)),fun _=>O,eK⟩
    | i+9,hq,_=>exact(nomatch hq)
   ·intro S e1 w7 dO hI;obtain⟨f0,f4,f5,f6,p0,p1,p2,p3,p7,Am,cm,ps,nX,A',c',b1,b2,b3,kk,vs,dY,m4,m5,xf,m6,me,m8,hT⟩:=hI;obtain⟨_,kl,rfl⟩:=m4 (dO 4 (by decide));obtain⟨_,rfl⟩:=m6 (dO 6 (by decide));obtain rfl:=m8 (dO 8 (by decide));have acE:n+1<=c'/\c'<=9223372036854775807:=hT.cap 2 O;have hT:St w0 w7 (Bx 24 1 A5 [.slice A' (n+1) c']::Bx 24 1 A4 [.slice none 0 0]::(aO 32 2 A' (n+1) c' (rs++ [⟨Am,N,cm⟩]) (xss++ [ps])++ks.set ix kk)):=by
     refine(hT.sub (ks':=Bx 24 1 A5 [.slice A' (n+1) c']::Bx 24 1 A4 [.slice none 0 0]::b9 32 A' (n+1) c' (rs++ [⟨Am,N,cm⟩])::(dq 2 rs xss++ ([az 2 Am N cm ps]++ks.set ix kk))) (List.Sublist.cons_cons _ (List.Sublist.cons_cons _ (List.Sublist.cons_cons _ ((fE _).append (iL _ _)))))).perm ?_;refine List.Perm.cons _ (List.Perm.cons _ ?_);show List.Perm _ (b9 32 A' (n+1) c' (rs++ [⟨Am,N,cm⟩])::(dq 2 (rs++ [⟨Am,N,cm⟩]) (xss++ [ps])++ks.set ix kk));rw [AH (by omega),<-gN];exact List.Perm.refl _
    refine Ec (F:=[(4,.pointer A4),(5,.pointer A5)]) ⟨f4,f5,av⟩ (iV O (alC 0 (hT.rd 0 O) O (bW 1 1 hT O O O O O O O ?_)));intro kL gu;refine bM O (ko O (gu.rd 1 O) ?_);exact⟨n+1,A',c',_,xss++ [ps],_,kk,rfl,by omega,acE,fun p hp=> (iR.1 hp).elim (uY p) (fun h=>by rw [fm]at h;subst h;exact⟨by have:=kl.1;omega,fun x hx=>by have:=kl.2 x hx;omega⟩),dY,fun qc Y h=>St.gj h (by simp [dG]),gu.tail.tail⟩
  ·refine cM O (aR _ O (fun h3=>?_) (fun h3=>?_))
   ·refine aG O (jO aZ O ?_);intro tc w7 a6;refine aW (a6.rd 1 O) O (ka 1 a6 O O O O O ?_);intro w8 bL;have bL:St w0 w8 ([Bx 24 1 A5 [.slice tc 0 0],Bx 24 1 A4 [.slice none 0 0]]++ (aO 32 2 tc 0 0 [] []++ks.set ix k2)):=by
     refine(bL.sub (ks':=aO 32 2 tc 0 0 [] []++ ([Bx 24 1 A5 [.slice tc 0 0],Bx 24 1 A4 [.slice none 0 0]]++ks.set ix k2)) ?_).perm ?_
     ·exact List.Sublist.cons_cons _ (List.Sublist.cons_cons _ (List.Sublist.cons_cons _ (iL _ _)))
     ·exact(jc (l₁:=[_,_])).symm
    refine ar O (alC 0 (bL.rd 0 O) O (bW 1 1 bL O O O O O O O ?_));intro kL gu;refine bM O (ko O (gu.rd 1 O) ?_);exact⟨0,tc,0,[],[],_,k2,O,by omega,by decide,fun p hp=> (nomatch hp),gR,fun qc Y h=>St.gj h O,gu.tail.tail⟩
   ·refine cM O (aR _ O (fun h4=>?_) (fun h4=>?_))
    ·obtain⟨r0,eW,rfl⟩:∃r0 eW,rs=r0::eW:=by cases rs with | nil=>exact absurd b5 (by simp;omega) | cons a b=>exact⟨a,b,rfl⟩
     obtain⟨x0,kM,rfl⟩:∃x0 kM,xss=x0::kM:=by cases xss with | nil=>exact absurd dG (by simp;omega) | cons a b=>exact⟨a,b,rfl⟩
     obtain⟨a0,n0,c0⟩:=r0;have rX:x0.length=N:=(hG x0 (List.mem_cons_self)).1;have mL:x0.length=n0:=((St.gj aZ.tail.tail dG).at_ (i:=0) (by omega) (by omega)).1;obtain rfl:n0=N:=by omega
     refine y8 (by kernel_rfl) (by kernel_rfl) (fun S e1 w1=>Yt w0 ks ix As A4 A5 n n0 A c a0 c0 eW x0 kM k2 S e1 w1) (fun w7 hb=> ⟨O,O,O,fun h=> (nomatch h),fun h=> (nomatch h),fun h=> (nomatch h),fun h=> (nomatch h),fun h=> (nomatch h),fun h=> (nomatch h),fun h=> (nomatch h),fun h=> (nomatch h),none,none,0,[],_,_,fun h=> (nomatch h),fun _=>O,fun h=> (nomatch h),fun _=>O,fun h=> (nomatch h),aZ.aq hb⟩) ?_ ?_
     ·intro S i o e1 w7 hq bY hd da hI;obtain⟨f4,f5,f6,p0,p1,p2,p3,p4,p5,p6,p9,py,A',c',b1,b3,b4,m7,me,m8,r8,m10,hT⟩:=hI
      match i,hq,bY with
      | 0,hq,bY=>
       obtain rfl:=dA hq;refine alv (hT.rd 0 O) (by exact f5) O O O inferInstance (ao.n ?_);exact⟨f4,f5,f6,fun _=>O,p1,p2,p3,p4,p5,p6,p9,py,A',c',b1,b3,b4,m7,me,m8,r8,m10,hT⟩
      | 1,hq,bY=>
       obtain rfl:=dA hq;refine alw (hT.rd 0 O) (by exact p0 (dC hd 0 O)) O O O O (ao.n ?_);exact⟨f4,f5,f6,p0,fun _=>O,p2,p3,p4,p5,p6,p9,py,A',c',b1,b3,b4,m7,me,m8,r8,m10,hT⟩
      | 2,hq,bY=>
       obtain rfl:=dA hq;refine alv (hT.rd 0 O) (by exact f5) O O O inferInstance (ao.n ?_);exact⟨f4,f5,f6,p0,p1,fun _=>O,p3,p4,p5,p6,p9,py,A',c',b1,b3,b4,m7,me,m8,r8,m10,hT⟩
      | 3,hq,bY=>
       obtain rfl:=dA hq;refine alw (hT.rd 0 O) (by exact p2 (dC hd 2 O)) O O O O (ao.n ?_);exact⟨f4,f5,f6,p0,p1,p2,fun _=>O,p4,p5,p6,p9,py,A',c',b1,b3,b4,m7,me,m8,r8,m10,hT⟩
      | 4,hq,bY=>
       obtain rfl:=dA hq;obtain rfl:=r8 (yC bY fun h=>dC (da 10 _ h rfl) 4 rfl);refine alp (hT.rd 2 O) (by exact p3 (dC hd 3 O)) O O (by omega) (by show(0:Int)< (n:Int);omega) ?_;exact ao.n ⟨f4,f5,f6,p0,p1,p2,p3,fun _=>O,p5,p6,p9,py,A',c',b1,b3,_,m7,me,m8,r8,m10,hT⟩
      | 5,hq,bY=>
       obtain rfl:=dA hq;obtain rfl:=r8 (yC bY fun h=>dC (da 10 _ h rfl) 5 rfl);refine alx (i:=0) (hT.ie 2 O) (by exact p4 (dC hd 4 O)) (by show 0<n;omega) O O ?_;exact ao.n ⟨f4,f5,f6,p0,p1,p2,p3,p4,fun _=>O,p6,p9,py,A',c',b1,b3,_,m7,me,m8,r8,m10,hT⟩
      | 6,hq,bY=>
       obtain rfl:=dA hq;refine rH O (by exact f6) O (ao.n ?_);exact⟨f4,f5,f6,p0,p1,p2,p3,p4,p5,fun _=>O,p9,py,A',c',b1,b3,b4,m7,me,m8,r8,m10,hT⟩
      | 7,hq,bY=>
       obtain rfl:=dA hq;refine dV (hT.sub (ks':=Bx 24 1 A5 [.slice A n c]::Bx 24 1 A4 [.slice none 0 0]::b4::b3::(dq 2 eW kM++ks.set ix k2)) (List.Sublist.cons_cons _ (List.Sublist.cons_cons _ (List.Sublist.cons_cons _ (List.Sublist.cons_cons _ ((fE _).append (iL _ _))))))) (by exact p6 (dC hd 6 O)) O O ?_;intro py w8 eK;have jR:St w0 w8 (Bx 24 1 A5 [.slice A n c]::Bx 24 1 A4 [.slice none 0 0]::b4::b3::(dq 2 eW kM++ ([az 2 py 1 1 [(n0:Int)]]++ks.set ix k2))):=eK.perm (jc (l₁:=Bx 24 1 A5 [.slice A n c]::Bx 24 1 A4 [.slice none 0 0]::b4::b3::dq 2 eW kM)).symm;exact ao.n ⟨f4,f5,f6,p0,p1,p2,p3,p4,p5,p6,p9,py,A',c',_,b3,b4,fun _=> ⟨O,O⟩,me,m8,r8,m10,jR⟩
      | 8,hq,bY=>
       obtain rfl:=dA hq;obtain⟨Sh,rfl⟩:=m7 (dC hd 7 rfl);obtain rfl:=me bY;have n10:S 10=false:=(yC bY fun h=>dC (da 10 _ h O) 8 O);have hR:di w7 py 1 [(n0:Int)]:=St.bF (i:=0) (hT.sub (((iL _ _).cons _).cons _ |>.cons _ |>.cons _)) O;refine fp 3 hT O hR (by exact p5 (dC hd 5 O)) (by exact Sh) O ?_;intro A' c' w8 eK;refine ao.n ?_;exact⟨f4,f5,f6,p0,p1,p2,p3,p4,p5,p6,p9,py,A',c',_,_,b4,fun _=> ⟨Sh,O⟩,fun h=> (nomatch (show true=false from h)),fun _=> ⟨O,O⟩,r8,fun h=> (nomatch n10.symm.trans h),eK⟩
      | 9,hq,bY=>
       obtain rfl:=dA hq;obtain rfl:=r8 (yC bY fun h=>dC (da 10 _ h rfl) 9 rfl);refine alp (hT.rd 2 O) (by exact p1 (dC hd 1 O)) O O (by omega) (by show(0:Int)< (n:Int);omega) ?_;exact ao.n ⟨f4,f5,f6,p0,p1,p2,p3,p4,p5,p6,fun _=>O,py,A',c',b1,b3,_,m7,me,m8,r8,m10,hT⟩
      | 10,hq,bY=>
       obtain rfl:=dA hq;obtain⟨Si,rfl⟩:=m8 (dC hd 8 rfl);obtain rfl:=r8 bY;refine Bg (i:=0) 2 hT O (by exact p9 (dC hd 9 O)) (by exact Si) (by show 0<n;omega) ?_;intro w8 eK;refine ao.n ?_;exact⟨f4,f5,f6,p0,p1,p2,p3,p4,p5,p6,p9,py,A',c',b1,_,_,m7,me,fun _=> ⟨Si,O⟩,fun h=> (nomatch (show true=false from h)),fun _=>O,eK⟩
      | i+11,hq,_=>exact(nomatch hq)
     ·intro S e1 w7 dO hI;obtain⟨f4,f5,f6,p0,p1,p2,p3,p4,p5,p6,p9,py,A',c',b1,b3,b4,m7,me,m8,r8,m10,hT⟩:=hI;obtain⟨_,rfl⟩:=m8 (dO 8 (by decide));obtain rfl:=m10 (dO 10 (by decide));refine Ec (F:=[(4,.pointer A4),(5,.pointer A5)]) ⟨f4,f5,av⟩ (iV O (alC 0 (hT.rd 0 O) O (bW 1 1 hT O O O O O O O ?_)));intro kL gu;refine bM O (ko O (gu.rd 1 O) ?_);exact⟨n,A,c,⟨A',n0+1,c'⟩::eW,(x0++ [(n0:Int)])::kM,aO 32 2 A n c (⟨A',n0+1,c'⟩::eW) ((x0++ [(n0:Int)])::kM),k2,O,by omega,lQ,fun p hp=> (jn.1 hp).elim (fun h=>h▸⟨by simp;omega,fun x hx=> (iR.1 hx).elim ((uY x0 List.mem_cons_self).2 x) (fun h=>by rw [fm]at h;omega)⟩) (fun h=>uY p (pC _ h)),gR,fun qc Y h=>St.gj h (by simpa using dG),gu.tail.tail.sub (List.Sublist.cons_cons _ (List.Sublist.cons_cons _ ((fE _).append (iL _ _))))⟩
    ·refine cM O (aR _ O (fun h5=>?_) (fun h5=>?_))
     ·refine aG O (aW (aZ.rd 0 O) O (a8 (aZ.rd 0 O) O (EI O O O (by omega) (aW (aZ.rd 0 O) O (ka 0 aZ O O O O O ?_)))));intro w7 a6;refine ar O (alC 0 (a6.rd 0 O) O (bW 1 1 a6 O O O O O O O ?_));intro kL gu;refine bM O (ko O (gu.rd 1 O) ?_);exact⟨n - 1,cutAt A c 1,c - 1,rs.drop 1,xss.drop 1,_,k2,O,by omega,by omega,fun p hp=>uY p (List.mem_of_mem_drop hp),gR,fun qc Y h=> (St.gj h dG).aal (by omega) (by omega),gu.tail.tail⟩
     ·skip
      refine aG O (alC 0 (aZ.rd 0 O) O (bW 1 1 aZ O O O O O O O ?_));intro kL gu;refine bM O (ko O (gu.rd 1 O) ?_);exact⟨n,A,c,rs,xss,_,k2,O,by omega,lQ,uY,gR,fun qc Y h=>St.gj h dG,gu.tail.tail⟩
section
variable {P:Program} {N:Nat} {ops:Array Oper} {K:Env->aa->Prop} {rest:List Oper} {e:Env} {w0 w w':aa} {ks:List Ck} {d:Nat} {ty:ae} {pos:String} {af:Array Edge}
def DX:Nat->List ad->List (Nat×ad)
 | _,[]=> []
 | k,v::r=> (k,v)::DX (k+1) r
theorem Rq:∀(vs:List ad) (k:Nat) (cells:Array ad),(∀v∈vs,v.cells= #[v])->k+vs.length<=cells.size->∃out,Instr.fill (fun i=>some (i*1,1)) cells (DX k vs)=some out/\out.size=cells.size/\(∀j,j<k->out[j]?=cells[j]?)/\(∀j,j<vs.length->out[k+j]?=vs[j]?)/\(∀j,k+vs.length<=j->out[j]?=cells[j]?)
 | [],k,cells,_,_=> ⟨cells,rfl,rfl,fun _ _=>rfl,fun j hj=>absurd hj (jM _),fun _ _=>rfl⟩
 | v::r,k,cells,hv,h=>by
  have hk:k<cells.size:=by simp at h;omega
  have hc:v.cells= #[v]:=hv v (by simp);obtain⟨out,h1,h2,h3,h4,h5⟩:=Rq r (k+1) (cells.setIfInBounds k v) (fun u hu=>hv u (by simp [hu])) (by simp at h|-;omega);refine⟨out,?_,by rw [h2];simp,fun j hj=>?_,fun j hj=>?_,fun j hj=>?_⟩
  ·show Instr.fill _ cells ((k,v)::DX (k+1) r)=some out;rw [<-h1];simp [Instr.fill,hc,show ¬cells.size<k+1 by omega]
  ·rw [h3 j (by omega),uj,aw (by omega)]
  ·cases j with
   | zero=>rw [Nat.add_zero,h3 k (by omega),uj,ay rfl,ay hk];rfl
   | succ q=>
    have:=h4 q (by simpa using hj);rw [show k+ (q+1)=k+1+q by omega,this]
    rfl
  ·rw [h5 j (by simp at hj|-;omega),uj,aw (by simp at hj;omega)]
theorem aaD(vs:List ad)(cells:Array ad)(hv:∀v∈vs,v.cells= #[v])(h:cells.size=vs.length):Instr.fill (fun i=>some (i*1,1)) cells (DX 0 vs)=some vs.toArray:=by
 obtain⟨out,h1,h2,_,h4,_⟩:=Rq vs 0 cells hv (by omega);rw [h1]
 congr 1
 apply Array.ext';apply List.ext_getElem?;intro j
 by_cases hj:j<vs.length
 ·have:=h4 j hj;rw [Nat.zero_add]at this;simpa using this
 rw [qm (by simpa [h2,h]using hj),qm (by simpa using hj)]
theorem X9{t el:ae}{z:ad}{b n:Nat}[bV P t (.slice el)][bR P el z 1 b]{ps:Array (Nat×ag)}(ss:List aQ)(hS:St w0 w ks)(hv:(ps.toList.map fun p=> (p.1,ev e p.2))=DX 0 (ss.map aQ.v))(hn:ss.length=n)(qx:n≠0)(vN:n<=1000)(hz:z.cells= #[z])(hb:Nat.blt d N=true)(hK:∀A w',St w0 w' (b9 el A n n ss::ks)->ao P N ops K rest (bG e d (.slice A n n)) w'):ao P N ops K (⟨some d,.buildSlice t n ps,ty,pos,af,none⟩::rest) e w:=by
 subst hn;obtain⟨inf,hi,fS,hs,jv⟩:=bR.get P el;have hA:=hS.alloc (ss.map aQ.v) el (by simp [maxLen];omega) (Cg _);refine .val (w':=w.alloc (.cells (ss.map aQ.v).toArray el)) ?_ hb (hK _ _ (by simpa [b9]using hA));have hf:=aaD (ss.map aQ.v) ((Array.range (ss.length*1)).map ((#[z]:Array ad)[· % (#[z]:Array ad).size]!)) (fun v hv=>by obtain⟨s,_,rfl⟩:=dv.1 hv;rfl) (by simp);have tT:(ps.map fun p=> (p.1,ev e p.2)).toList=DX 0 (ss.map aQ.v):=by rw [Array.toList_map];exact hv
 have Bs:¬16777216<ss.length:=by omega
 simp only [Nat.mul_one]at hf;simp [execOp,Instr.buildSlice,run_underlying (bV.out (P:=P) (t:=t)),sizeOf,typeInfo,zeroValue,hi,hs,fS,hz,newRow,hv,Bs,qx];simp at hf;simp [hf]
end
section
variable {P:Program} {N:Nat} {ops:Array Oper} {K:Env->aa->Prop} {rest:List Oper} {e:Env} {w:aa} {d:Nat} {ty:ae} {pos:String} {af:Array Edge} {x y:ag} {xt yt:ae}
def yW(m:Nat):Nat:=if m%2=0 then m+1 else m - 1
theorem ajv:∀m:Nat,m<33->bits .xor .i64 (m:Int) 1=(yW m:Int):=by decide
theorem PT{m:Nat}(hx:ev e x=ak m)(hy:ev e y=ak 1)(hm:m<=32)(hb:Nat.blt d N=true)(hK:ao P N ops K rest (bG e d (ak (yW m:Int))) w):
 ao P N ops K (⟨some d,.binOp .xor xt x y yt,ty,pos,af,none⟩::rest) e w:=
 .val (by simp only [execOp,hx,hy,eqGuard,binOp,intBits_xor,ajv m (by omega)];simp) hb hK
end
theorem Xq{m a:Nat}(h:m<8*a):yW m<8*a:=by
 unfold yW
 split<;>omega
def zm(f n:Nat)(xs:ai):Prop:=xs.length=f/\∀x∈xs,0<=x/\x< (n:Int)
theorem zm.snoc{f n:Nat}{xs:ai}(h:zm f n xs){v:Int}(h0:0<=v)(h1:v<n):zm (f+1) n (xs++ [v]):=by
 refine⟨by rw [dI,h.1];rfl,fun x hx=>?_⟩;rcases iR.1 hx with hx | hx
 ·exact h.2 x hx
 rw [fm]at hx;subst hx;exact⟨h0,h1⟩
structure XQ where
 f:Nat
 A5:aj
 c5:Nat
 xs:ai
 A6:aj
 c6:Nat
 ys:ai
 A7:aj
 c7:Nat
 zs:ai
abbrev Ib(A4 A5 A6 A7:aj)(n5 n6 n7 c5 c6 c7:Nat)(xs ys zs:ai):List Ck:=
 [az 2 A7 n7 c7 zs,az 2 A6 n6 c6 ys,az 2 A5 n5 c5 xs,Bx 24 1 A4 [.slice none 0 0]]
theorem afz(a:Nat)(w:aa)(ha:1<=a/\a<=2):aN prog 181 [ak a,ak 1] w (J8 3 (8*a) w):=by
 refine bI func181 O ntmps181 O (pq O O) (bc O (gD (St.refl w) O ?_));intro A4 w1 aE;refine ar O (jO aE O ?_);intro A5 w2 aD;refine jO aD O fun A6 w3 aM=>jO aM O ?_;intro A7 w4 aU;have aU:St w w4 (Ib A4 A5 A6 A7 0 0 0 0 0 0 [] [] []):=aU;have hz:zm 0 (8*a) []:=⟨O,fun x hx=>nomatch hx⟩;refine aI O (Cd.loop (α:=XQ) (fun s=> [(0,ak a),(1,ak 1),(4,.pointer A4),(5,.slice s.A5 s.f s.c5),(6,.slice s.A6 s.f s.c6),(7,.slice s.A7 s.f s.c7),(8,ak (s.f:Int))]) (fun s w'=>s.f<=8*a/\zm s.f (8*a) s.xs/\zm s.f (8*a) s.ys/\zm s.f (8*a) s.zs/\St w w' (Ib A4 s.A5 s.A6 s.A7 s.f s.f s.f s.c5 s.c6 s.c7 s.xs s.ys s.zs)) (fun s=>8*a - s.f) ⟨0,A5,0,[],A6,0,[],A7,0,[]⟩ (alH O) ⟨bm _,hz,hz,hz,aU⟩ ?_);clear aU aM aD aE hz;rintro⟨f,A5,c5,xs,A6,c6,ys,A7,c7,zs⟩ e w5 ⟨hf,hx,hy,hz,hS⟩;dsimp only at hf hx hy hz hS|-;refine bc O (nD O O O (by omega) (ar O ?_));refine nD O O O (by omega) (aI O ?_);refine aR _ O (fun h1=>?_) (fun h1=>?_)
 ·have hfa:f<8*a:=by omega
  obtain⟨cell,vG⟩:∃c:Nat,f / 8=c:=⟨_,rfl⟩;obtain⟨k,hk⟩:∃k:Nat,f%8=k:=⟨_,rfl⟩;have ni:(f:Int) / 8=(cell:Int):=by omega
  have gW:(f:Int)%8=(k:Int):=by omega
  have Mp:cell<a:=by omega
  have hk8:k<8:=by omega
  refine aG O (ao.quo O O O (by omega) (ar O (qn O O O (by omega) ?_)));rw [ni,gW];refine aI O ?_;have e1:(cell:Int)% (a:Int)=(cell:Int):=Int.emod_eq_of_lt (by omega) (by omega);have e2:(cell:Int) / (a:Int)=0:=Int.ediv_eq_zero_of_lt (by omega) (by omega);refine eB [xI ((cell:Int)),xI ((a:Int)),xI ((cell:Int)% (a:Int)),xI ((cell:Int)),xI ((a:Int)),xI ((cell:Int) / (a:Int)),xI ((cell:Int)% (a:Int)),xI ((cell:Int) / (a:Int))] O (eQ O) ?_ ?_
  ·exact⟨Dr O,Dr O,fun _ _ _ _ _=>qn O O O (by omega) Az,Dr O,Dr O,fun _ _ _ _ _=>ao.quo O O O (by omega) Az,Dr O,Dr O,av⟩
  intro u w6 pa _;rw [e1,e2];have hS:=hS.aq pa;refine iV O (PT (m:=f) (by exact O) (by exact O) (by omega) O (dV hS O O O ?_));intro vb w7 a6;refine fp 3 a6 O (a6.bF 0 O) O O O ?_;intro dE EX w8 bL;have bL:St w w8 (Ib A4 dE A6 A7 (f+1) f f EX c6 c7 (xs++ [(yW f:Int)]) ys zs):=bL.tail;have hxf:=Xq hfa;have jq:=hx.snoc (v:=(yW f:Int)) (by omega) (by omega);clear hS a6;refine xr 0 O (nY (α:=aj×Nat×ai) (fun s=> [(0,ak a),(1,ak 1),(4,.pointer A4),(5,.slice dE (f+1) EX),(6,.slice s.1 (f+1) s.2.1),(7,.slice A7 f c7),(8,ak f),(10,ak k),(11,ak cell),(12,ak 0)]) (fun s w'=>zm (f+1) (8*a) s.2.2/\St w w' (Ib A4 dE s.1 A7 (f+1) (f+1) f EX s.2.1 c7 (xs++ [(yW f:Int)]) s.2.2 zs)) ?_ ?_)
  ·refine bc O (qn O O O (by omega) (aI O ?_));refine aR _ O (fun h2=>?_) (fun h2=>?_)
   ·refine aG O (nD O O O (by omega) (ar O (aJ O ?_)));refine qn O O O (by omega) (aJ O (dV bL O O O ?_));intro Xz w9 a7;refine fp 2 a7 O (a7.bF 0 O) O O O fun CH C4 dQ bO=>aT O (tQ ?_);exact⟨(CH,C4,ys++ [8* (cell:Int)+ ((k:Int)+7)%8]),(alH O),hy.snoc (by omega) (by omega),bO.tail⟩
   refine aG O (nD O O O (by omega) (ar O (aJ O ?_)));refine qn O O O (by omega) (aJ O (dV bL O O O ?_));intro Xz w9 a7;refine fp 2 a7 O (a7.bF 0 O) O O O fun CH C4 dQ bO=>aT O (tQ ?_);exact⟨(CH,C4,ys++ [8* (cell:Int)+ ((k:Int)+1)%8]),(alH O),hy.snoc (by omega) (by omega),bO.tail⟩
  rintro⟨CH,C4,ys'⟩ e w9 ⟨Uw,a7⟩;dsimp only at Uw a7|-;clear bL;have b1:=Int.emod_nonneg ((cell:Int)+1) (b:=(a:Int)) (by omega);have b2:=Int.emod_lt_of_pos ((cell:Int)+1) (b:=(a:Int)) (by omega);have b3:=Int.emod_nonneg ((cell:Int)+ (a:Int) - 1) (b:=(a:Int)) (by omega);have b4:=Int.emod_lt_of_pos ((cell:Int)+ (a:Int) - 1) (b:=(a:Int)) (by omega);refine nY (α:=Int) (fun s=> [(0,ak a),(1,ak 1),(4,.pointer A4),(5,.slice dE (f+1) EX),(6,.slice CH (f+1) C4),(7,.slice A7 f c7),(8,ak f),(10,ak k),(11,ak s),(12,ak 0)]) (fun s w'=> (0<=s/\s< (a:Int))/\w'=w9) ?_ ?_
  ·refine bc O (ao.quo O O O (by omega) (aI O ?_));refine aR _ O (fun h3=>?_) (fun h3=>?_)
   ·refine aG O (aJ O (ar O ?_));refine qn O O O (by omega) (aT O (tQ ?_));exact⟨((cell:Int)+1)% (a:Int),(alH O),⟨b1,b2⟩,O⟩
   refine cM O (aR _ O (fun h4=>?_) (fun h4=>?_))
   ·refine aG O (aJ O (ar O ?_));refine qn O O O (by omega) (aT O (tQ ?_));exact⟨(cell:Int),(alH O),⟨by omega,by omega⟩,O⟩
   refine cM O (aR _ O (fun h5=>?_) (fun h5=>?_))
   ·refine aG O (aJ O (dT O (ar O ?_)));refine qn O O O (by omega) (aT O (tQ ?_));exact⟨((cell:Int)+ (a:Int) - 1)% (a:Int),(alH O),⟨b3,b4⟩,O⟩
   refine cM O (aR _ O (fun h6=>?_) (fun h6=>?_))
   ·refine aG O (aJ O (dT O (ar O ?_)));refine qn O O O (by omega) (aT O (tQ ?_));exact⟨(cell:Int),(alH O),⟨by omega,by omega⟩,O⟩
   refine mU O (tQ ?_);exact⟨(cell:Int),(alH O),⟨by omega,by omega⟩,O⟩
  rintro x e _ ⟨Uv,rfl⟩;obtain⟨q,hq⟩:∃q:Nat,((k:Int)+4)%8=(q:Int):=⟨(((k:Int)+4)%8).toNat,by omega⟩;have I8:q<8:=by omega
  have hxq:=Xq (m:=q) (a:=1) (by omega);refine aG O (nD O O O (by omega) ?_);rw [Int.mul_zero];refine aJ O (nD O O O (by omega) (ar O (aJ O ?_)));refine qn O O O (by omega) ?_;rw [hq];refine PT (m:=q) (by exact O) (by exact O) (by omega) O (aJ O (dV a7 O O O ?_));intro A102 dQ bO;refine fp 1 bO O (bO.bF 0 O) O O O fun Xw Zq eI dB=>ar O (aJ O (aT O (tQ ?_)));exact⟨⟨f+1,dE,EX,xs++ [(yW f:Int)],CH,C4,ys',Xw,Zq,zs++ [8* (x+0)+ (yW q:Int)]⟩,by show 8*a - (f+1)<8*a - f;omega,(alH O),by show f+1<=8*a;omega,jq,Uw,hz.snoc (by omega) (by omega),dB.tail⟩
 have zM:f=8*a:=by omega
 refine bw O (bA (dh O ?_));refine X9 [⟨A5,f,c5⟩,⟨A6,f,c6⟩,⟨A7,f,c7⟩] hS O O (by decide) (by decide) O O fun Ha w6 aZ=>EG (by exact inferInstance) O O O O (bW 1 4 aZ O O O O O O O ?_);intro w7 a6;refine bM O (ko O (a6.rd 4 O) ?_);have a6:St w w7 (b9 32 Ha 3 3 [⟨A5,f,c5⟩,⟨A6,f,c6⟩,⟨A7,f,c7⟩]::[az 2 A7 f c7 zs,az 2 A6 f c6 ys,az 2 A5 f c5 xs,Bx 24 1 A4 [.slice Ha 3 3]]):=a6;refine⟨Ha,3,[⟨A5,f,c5⟩,⟨A6,f,c6⟩,⟨A7,f,c7⟩],[xs,ys,zs],O,O,O,fun p hp=>?_,?_⟩
 ·subst zM;rcases jn.1 hp with rfl | hp
  ·exact hx
  rcases jn.1 hp with rfl | hp
  ·exact hy
  rw [fm]at hp;subst hp;exact hz
 have h9:=a6.sub (show List.Sublist [b9 32 Ha 3 3 [⟨A5,f,c5⟩,⟨A6,f,c6⟩,⟨A7,f,c7⟩],az 2 A7 f c7 zs,az 2 A6 f c6 ys,az 2 A5 f c5 xs] _ from List.Sublist.cons_cons _ (List.Sublist.cons_cons _ (List.Sublist.cons_cons _ (List.Sublist.cons_cons _ (List.nil_sublist _)))));exact h9.perm (List.Perm.cons _ (List.reverse_perm (dq 2 [⟨A5,f,c5⟩,⟨A6,f,c6⟩,⟨A7,f,c7⟩] [xs,ys,zs])))
theorem R2{N:Nat}{xss:ah}(h:GM N xss)(hN:N<=20000):∀p∈xss,p.length<=20001/\∀x∈p,-1<=x/\x<=20001:=fun p hp=>by
 have h1:=h p hp;exact⟨by rw [h1.1];omega,fun x hx=>by have:=h1.2 x hx;omega⟩
theorem aa7{M:ah}(hM:bg M):GM (gl M 0).length M:=fun p hp=> ⟨(hM.2.2.1 p hp).1,fun x hx=>by
 have h1:=hM.2.2.1 p hp;have:=h1.2.1.2.1 x hx;omega⟩
def Jx(M:ah)(a b:Nat):ah:=((List.range M.length).filter fun k:Nat=>decide (gi (cH M k) a≠gi (cH M k) b)).map fun k:Nat=>gl M k
theorem ahH{M:ah}(hM:bg M)(h:∀a b:Nat,a< (gl M 0).length->b< (gl M 0).length->(b:Int)∈dw (gl M 0).length (Jx M a b) a):pG M:=fun a b ha hb=>by
 have hs:Sys (gl M 0).length (Jx M a b):=fun p hp=>by
  obtain⟨k,hk,rfl⟩:=dv.1 hp;have hk:=(fU.1 hk).1;have hk:=gP.1 hk;exact hM.2.2.1.sys _ (by rw [cK hk];exact dH _)
 have hr:=((sd hs (pt:=(a:Int)) (by omega) (by omega)).2.2 (b:Int)).1 (h a b ha hb);have key:∀y:Int,Reach (Jx M a b) (a:Int) y->∃c:Nat,y=(c:Int)/\c< (gl M 0).length/\n3 M (fun k=>gi (cH M k) a=gi (cH M k) b) a c:=by
  intro y hy
  induction hy with
  | refl=>exact⟨a,rfl,ha,.refl⟩
  | step _ hp ih=>
   obtain⟨c,rfl,hc,hl⟩:=ih;obtain⟨k,hk,rfl⟩:=dv.1 hp;obtain⟨hk,hd⟩:=fU.1 hk;have hk:=gP.1 hk;obtain⟨c',pc,e,_,_⟩:=Od hM hk hc;exact⟨c',e,pc,.step hl hk (fun q=> (tX hd) q) e⟩
 obtain⟨c,e,_,hl⟩:=key _ hr;obtain rfl:c=b:=by omega
 exact hl
theorem W4:po 3=[[1,0,3,2,5,4],[5,2,1,4,3,0]]:=by decide
theorem O2:bg [[1,0,3,2,5,4],[5,2,1,4,3,0]]:=by decide+kernel
theorem aiY:∀a:Nat,a<6->∀b:Nat,b<6->(b:Int)∈dw 6 (Jx [[1,0,3,2,5,4],[5,2,1,4,3,0]] a b) a:=by decide+kernel
theorem W6:aH [[1,0,3,2,5,4],[5,2,1,4,3,0]] 2=6:=by decide+kernel
theorem W5:ir (po 3)=0:=by
 rw [W4];exact Ff O2 (R4 O2 (by show aH _ 2<=500;rw [W6];omega) (ahH O2 fun a b ha hb=>aiY a ha b hb))
theorem aiZ:mg (po 3)=0/\bg (eV (po 3))/\(eV (po 3)).length=3/\(gl (eV (po 3)) 0).length=24:=by
 have h0:aH (po 3) (po 3).length=6:=by rw [W4];exact W6
 have h:=ahU W5 (by decide) (by rw [h0];omega) (by decide);exact⟨h.1,(kf h.2.1).1,h.2.2.1,h.2.2.2⟩
structure Yx(w0:aa)(ks:List Ck)(ix:Nat)(As A4 A5:aj)(n N:Nat)(A:aj)(c:Nat)(rs:List aQ)(xss:ah)(S:Nat->Bool)(e:Env)(w:aa):Prop where
 f0:e 0= .pointer As
 f4:e 4= .pointer A4
 f5:e 5= .pointer A5
 p0:S 0=true->e 61= .agg #[.slice A n c]
 p1:S 1=true->e 62= .pointer As
 p2:S 2=true->e 63= .agg #[.slice A n c]
 p3:S 3=true->e 64=ak N
 mem:∃(b1 b2:List Ck) (kk:Ck) (vs:List ad),gX w0 As kk/\(S 4=true->∃Ap cp ps,e 65= .slice Ap N cp/\Rg N ps/\b1=[az 2 Ap N cp ps])/\(S 6=false->vs=[.slice none 0 0])/\(S 5=true->∃A' c' rs' xss',e 66= .agg #[.slice A' n c']/\rs'.length=n/\xss'.length=n/\GM N xss'/\b2=aO 32 2 A' n c' rs' xss'/\(S 6=true->vs=[.slice A' n c']))/\
  St w0 w (Bx 24 1 A5 [.slice A n c]::Bx 24 1 A4 vs::(aO 32 2 A n c rs xss++ (b2++ (b1++ks.set ix kk))))
abbrev xi(A4 A5:aj)(vs:List ad)(ms X:List Ck):List Ck:=
 Bx 24 1 A5 vs::Bx 24 1 A4 [.slice none 0 0]::(ms++X)
theorem G3{w0 w w':aa}{A4 A5:aj}{vs:List ad}{ms Jw X:List Ck}(hS:St w0 w (xi A4 A5 vs ms X))(hT:St w w' Jw):St w0 w' (xi A4 A5 vs Jw X):=((hS.sub (List.Sublist.cons_cons _ (List.Sublist.cons_cons _ (iL _ _)))).call hT).perm ((jc (l₁:=Jw)).trans (List.Perm.cons _ (jc (l₁:=Jw))))
theorem G5{w0 w:aa}{A4 A5:aj}{vs:List ad}{ms ks:List Ck}(ix:Nat){As:aj}{k:Ck}(n:Int)(hS:St w0 w (xi A4 A5 vs ms ks))(hk:ks[ix]?=some k)(hK:gX w0 As k):
 aN prog 135 [.pointer As,ak n] w (fun v w'=>∃(r:Int) (k':Ck),v=ak r/\(0<=r/\(1<=n->r<n)/\(n<1->r=0))/\gX w0 As k'/\St w0 w' (xi A4 A5 vs ms (ks.set ix k'))):=by
 have e:∀X,xi A4 A5 vs ms X=xi A4 A5 vs ms []++X:=fun X=>by simp [xi]
 rw [e]at hS;refine(G6 _ ix n hS hk hK).mono ?_;rintro v w' ⟨r,k',h1,h2,h3,h4⟩;rw [<-e]at h4;exact⟨r,k',h1,h2,h3,h4⟩
theorem afD{w0 w:aa}{ks:List Ck}(ix:Nat){As:aj}{k:Ck}(most:Nat)(hS:St w0 w ks)(hk:ks[ix]?=some k)(hK:gX w0 As k)(hm:8<=most/\most<=1000):
 aN prog 125 [.pointer As,ak most] w (Pk w0 ks ix As):=by
 refine bI func125 O ntmps125 O (pq O O) (bc O (gD hS O ?_));intro A4 w1 aE;refine ar O (aL (yQ (ix+1) 4 aE (by exact hk) hK) O ?_);rintro _ w2 ⟨r,k1,rfl,hr,qO,aD⟩;have aD:St w0 w2 (Bx 24 1 A4 [.slice none 0 0]::ks.set ix k1):=aD;refine aJ O ?_;obtain⟨p,hp⟩:∃p:Nat,2+r=p:=⟨(2+r).toNat,by omega⟩;rw [hp];refine aL (Cj p _ (by omega)) O ?_;rintro _ w3 ⟨A,c,rs,xss,rfl,b5,dG,hG,hT⟩;refine gD (aD.call hT) O ?_;intro A5 w4 aU;refine bW 1 0 aU O O O O O O O ?_;intro w5 aV;have aV:St w0 w5 (xi A4 A5 [.slice A 2 c] (aO 32 2 A 2 c rs xss) (ks.set ix k1)):=aV.perm (List.Perm.cons _ (jc (l₁:=aO 32 2 A 2 c rs xss)));clear aE aD aU hT;refine xr 0 O (nY (α:=He) (fun s=> [(0,.pointer As),(1,ak most),(4,.pointer A4),(5,.pointer A5)]) (fun s w'=> (1<=s.n/\s.n<=5)/\(1<=s.N/\s.N<=20000)/\s.rs.length=s.n/\s.xss.length=s.n/\GM s.N s.xss/\gX w0 As s.k/\St w0 w' (xi A4 A5 [.slice s.A s.n s.c] (aO 32 2 s.A s.n s.c s.rs s.xss) (ks.set ix s.k))) ?_ ?_)
 ·refine bc O (aL (G5 ix 8 aV (ml hk) qO) O ?_);rintro _ w6 ⟨q,k2,rfl,hq,gR,aZ⟩;rw [l4]at aZ;clear aV;refine aI O (aR _ O (fun h1=>?_) (fun h1=>?_))
  ·refine aG O (aL (OR _) O ?_);rintro _ w7 ⟨Ae,re,rfl,eo⟩;have a6:=G3 aZ eo;refine bW 1 0 a6 O O O O O O O fun w8 bL=>aT O (tQ ?_);exact⟨⟨1,2,Ae,1,[re],dF,k2⟩,(alH O),(by show 1<=1/\1<=5;decide),(by show 1<=2/\2<=20000;decide),O,O,CM,gR,bL⟩
  ·refine cM O (aR _ O (fun h2=>?_) (fun h2=>?_))
   ·have aZ:St w0 w6 (Bx 24 1 A4 [.slice none 0 0]::ks.set ix k2):=aZ.tail.sub (List.Sublist.cons_cons _ (iL _ _));refine aG O (aL (afn (ix+1) most aZ (by exact ml hk) gR hm) O ?_);rintro _ w7 ⟨n,A',c',rs',xss',X,k3,rfl,hn,lQ,hb,tD,hX,a6⟩;have a6:St w0 w7 (X++ (Bx 24 1 A4 [.slice none 0 0]::(ks.set ix k2).set ix k3)):=a6;rw [l4]at a6;refine bW 1 0 (a6.perm jc) O O O O O O O ?_;intro w8 bL;refine bM O (fD (e6 ?_));exact ko O (bL.rd 0 O) ⟨n,A',c',rs',xss',X,k3,O,hn,lQ,hb,tD,hX,bL.tail⟩
   ·refine cM O (aR _ O (fun h3=>?_) (fun h3=>?_))
    ·refine aG O (aL (G5 ix 2 aZ (ml hk) gR) O ?_);rintro _ w7 ⟨q2,k3,rfl,M8,tD,a6⟩;rw [l4]at a6;refine aJ O ?_;obtain⟨p2,iy⟩:∃p:Nat,2+q2=p:=⟨(2+q2).toNat,by omega⟩;rw [iy];refine aL (Cj p2 _ (by omega)) O ?_;rintro _ w8 ⟨B,cb,rb,bU,rfl,mM,rY,hGb,eK⟩;refine aL (OR _) O ?_;rintro _ w9 ⟨Ae,re,rfl,jR⟩;have hB:bz w8 B 2 rb bU:=St.gj (ks:=[]) (by rw [eu];exact eK) (by omega);have hE:bz w9 Ae 1 [re] dF:=St.gj (ks:=[]) (by rw [eu];exact jR) O;refine aL (Gz B 2 cb rb bU (2*p2) Ae 1 1 [re] dF 2 w9 (hB.aq jR.below) hE (by decide) (by decide) hGb CM (by omega) (by omega) (by omega)) O ?_;rintro _ dQ ⟨A',c',rs',xss',rfl,nn,pS,o6,iM⟩;have bO:=G3 ((a6.aq eK.below).aq jR.below) iM;refine bW 1 0 bO O O O O O O O fun eI dB=>aT O (tQ ?_);exact⟨⟨3,2*p2*2,A',c',rs',xss',k3⟩,(alH O),(by show 1<=3/\3<=5;decide),⟨by show 1<=2*p2*2;omega,by show 2*p2*2<=20000;omega⟩,nn,pS,o6,tD,dB⟩
    ·refine cM O (aR _ O (fun h4=>?_) (fun h4=>?_))
     ·have hg:=W5;have SH:=(kf hg).1;have FD:=(kf hg).2.1;obtain⟨hp0,zV,iy,pR⟩:=aiZ;refine aG O (aL (U5 3 _ (by decide)) O ?_);rintro _ w7 ⟨B,cb,rb,rfl,mM,eo⟩;have hB:bz w7 B 2 rb (po 3):=St.gj (ks:=[]) (by rw [eu];exact eo) O;refine aL (NO B 2 cb rb (po 3) _ hB SH FD) O ?_;rintro _ w8 ⟨X,cx,Y,cy,ys,rfl,rY,eK⟩;have iN:=Ld SH FD eK;refine aL (afC _) O ?_;rintro _ w9 ⟨Z,cz,W,cw,zs,rfl,oB,mG⟩;refine aL (afB X Z Y W cx cz cy cw ys zs (po 3) _ hg (iN.aq mG) oB) O ?_;rintro _ dQ ⟨Am,cm,jt,rfl,mN,uL⟩;have bO:=G3 (((aZ.aq eo.below).aq eK.below).aq mG) uL;refine ar O (bW 1 0 bO O O O O O O O ?_);intro eI dB;have Sv:=aa7 zV;rw [pR]at Sv;refine aT O (tQ ?_);exact⟨⟨(eV (po 3)).length,24,Am,cm,jt,eV (po 3),k2⟩,(alH O),⟨by show 1<=(eV (po 3)).length;omega,by show(eV (po 3)).length<=5;omega⟩,(by show 1<=24/\24<=20000;decide),mN,O,Sv,gR,dB⟩
     ·refine cM O (aR _ O (fun h5=>?_) (fun h5=>?_))
      ·refine aG O (aL (G5 ix 2 aZ (ml hk) gR) O ?_);rintro _ w7 ⟨q2,k3,rfl,M8,tD,a6⟩;rw [l4]at a6;refine aJ O ?_;obtain⟨p2,iy⟩:∃p:Nat,1+q2=p:=⟨(1+q2).toNat,by omega⟩;rw [iy];refine aL (afz p2 _ (by omega)) O ?_;rintro _ w8 ⟨A',c',rs',xss',rfl,nn,pS,o6,eK⟩;have bL:=G3 a6 eK;refine bW 1 0 bL O O O O O O O fun w9 a7=>aT O (tQ ?_);exact⟨⟨3,8*p2,A',c',rs',xss',k3⟩,(alH O),(by show 1<=3/\3<=5;decide),⟨by show 1<=8*p2;omega,by show 8*p2<=20000;omega⟩,nn,pS,o6,tD,a7⟩
      ·refine mU O (tQ ?_);exact⟨⟨2,2*p,A,c,rs,xss,k2⟩,(alH O),(by show 1<=2/\2<=5;decide),⟨by show 1<=2*p;omega,by show 2*p<=20000;omega⟩,b5,dG,hG,gR,aZ⟩
 clear aV b5 dG hG;rintro⟨n,N,A,c,rs,xss,k2⟩ e w6 ⟨hn,hN,b5,dG,hG,gR,aZ⟩;dsimp only at hn hN b5 dG hG gR aZ|-;refine cM O (Cd.loop (α:=He×Nat) (fun s=> [(0,.pointer As),(1,ak most),(4,.pointer A4),(5,.pointer A5),(6,ak (s.2:Int))]) (fun s w'=> ((1<=s.1.n/\s.1.n<=5)/\(1<=s.1.N/\s.1.N<=20000)/\s.1.rs.length=s.1.n/\s.1.xss.length=s.1.n/\GM s.1.N s.1.xss/\gX w0 As s.1.k/\St w0 w' (xi A4 A5 [.slice s.1.A s.1.n s.1.c] (aO 32 2 s.1.A s.1.n s.1.c s.1.rs s.1.xss) (ks.set ix s.1.k)))/\s.2<=5) (fun s=>5 - s.2) (⟨n,N,A,c,rs,xss,k2⟩,0) (alH O) ⟨⟨hn,hN,b5,dG,hG,gR,aZ⟩,bm _⟩ ?_);clear aZ b5 dG hG hn hN gR;rintro⟨⟨n,N,A,c,rs,xss,k2⟩,i⟩ e w7 ⟨⟨hn,hN,b5,dG,hG,gR,a6⟩,hi⟩;dsimp only at hn hN b5 dG hG gR a6 hi|-;refine XO 1 O (nY (α:=Bool) (fun b=> [(0,.pointer As),(1,ak most),(4,.pointer A4),(5,.pointer A5),(6,ak i),(51,.bool b)]) (fun b w'=> (b=true->i<5)/\Below w7.heap.size w7 w') ?_ ?_)
 ·refine bc O (cT 46 O (fun h6=>?_) (fun h6=>?_))
  ·refine au O (alC 0 (a6.rd 0 O) O (au O (aL (xd A n c rs xss w7 (St.gj a6.tail.tail (by omega)) (by omega)) O ?_)));rintro _ w8 ⟨rfl,eK⟩;rw [hG.first (by omega)];refine au O (ar O (au O (aT O (tQ ?_))));exact⟨_,(alH O),fun _=>by omega,eK.below⟩
  ·refine aA O (aA O (aA O (aA O (aT O (tQ ?_)))));exact⟨_,(alH O),(fun h=>nomatch h),Below.refl _ _⟩
 rintro b e w8 ⟨nI,ki⟩;have bL:=a6.aq ki;clear a6;refine Cd.cond O (fun hb=>?_) (fun hb=>?_)
 ·have hi5:=nI hb;refine aG O (aL (G5 ix 3 bL (ml hk) gR) O ?_);rintro _ w9 ⟨q2,k3,rfl,M8,tD,a7⟩;rw [l4]at a7;refine aJ O ?_;obtain⟨p2,iy⟩:∃p:Nat,2+q2=p:=⟨(2+q2).toNat,by omega⟩;rw [iy];refine aL (Cj p2 _ (by omega)) O ?_;rintro _ dQ ⟨A',c',rs',xss',rfl,nn,pS,o6,uL⟩;have bO:=G3 a7 uL;refine bW 1 0 bO O O O O O O O fun eI dB=>ar O (aJ O (aT O (tQ ?_)));exact⟨(⟨2,2*p2,A',c',rs',xss',k3⟩,i+1),by show 5 - (i+1)<5 - i;omega,(alH O),⟨(by show 1<=2/\2<=5;decide),⟨by show 1<=2*p2;omega,by show 2*p2<=20000;omega⟩,nn,pS,o6,tD,dB⟩,by show i+1<=5;omega⟩
 ·refine bw O (bA (dh O ?_));refine aL (G5 ix 2 bL (ml hk) gR) O ?_;rintro _ w9 ⟨q2,k3,rfl,M8,tD,a7⟩;rw [l4]at a7;have aV:=a7;have gR:=tD;clear a7 bL;refine aI O (aR _ O (fun h1=>?_) (fun h1=>?_))
  ·refine cM O (y8 (by kernel_rfl) (by kernel_rfl) (fun S e1 w1=>Yx w0 ks ix As A4 A5 n N A c rs xss S e1 w1) (fun w6 hb=> ⟨O,O,O,fun h=> (nomatch h),fun h=> (nomatch h),fun h=> (nomatch h),fun h=> (nomatch h),[],[],k3,[.slice none 0 0],gR,fun h=> (nomatch h),fun _=>O,fun h=> (nomatch h),aV.aq hb⟩) ?_ ?_)
   ·intro S i o e1 w6 hq bY hd da hI;obtain⟨f0,f4,f5,p0,p1,p2,p3,B1,B2,kk,vs,dY,m4,m6,m5,hT⟩:=hI;have hX:bz w6 A n rs xss:=St.gj hT.tail.tail (by omega)
    match i,hq,bY with
    | 0,hq,bY=>
     obtain rfl:=dA hq;refine ao.bP 0 (hT.rd 0 O) (by exact f5) O O (ao.n ?_);exact⟨f0,f4,f5,fun _=>O,p1,p2,p3,B1,B2,kk,vs,dY,m4,m6,m5,hT⟩
    | 1,hq,bY=>
     obtain rfl:=dA hq;refine Be O (by exact f0) O (ao.n ?_);exact⟨f0,f4,f5,p0,fun _=>O,p2,p3,B1,B2,kk,vs,dY,m4,m6,m5,hT⟩
    | 2,hq,bY=>
     obtain rfl:=dA hq;refine ao.bP 0 (hT.rd 0 O) (by exact f5) O O (ao.n ?_);exact⟨f0,f4,f5,p0,p1,fun _=>O,p3,B1,B2,kk,vs,dY,m4,m6,m5,hT⟩
    | 3,hq,bY=>
     obtain rfl:=dA hq;refine als (xd A n c rs xss w6 hX (by omega)) O (by exact aK (fun v=> [v]) (p2 (dC hd 2 O))) O ?_;rintro _ w7 ⟨rfl,iM⟩;have eo:=hT.aq iM.below;rw [hG.first (by omega)];exact ao.n ⟨f0,f4,f5,p0,p1,p2,fun _=>O,B1,B2,kk,vs,dY,m4,m6,m5,eo⟩
    | 4,hq,bY=>
     obtain rfl:=dA hq;have uU:=ml (k':=kk) hk;have e:(Bx 24 1 A5 [.slice A n c]::Bx 24 1 A4 vs::(aO 32 2 A n c rs xss++ (B2++ (B1++ks.set ix kk))))=(Bx 24 1 A5 [.slice A n c]::Bx 24 1 A4 vs::(aO 32 2 A n c rs xss++ (B2++B1)))++ks.set ix kk:=by simp
     have vB:=hT;rw [e]at vB;refine als (UX _ ix N vB uU dY (by omega)) O (by exact yT (p1 (dC hd 1 O)) (p3 (dC hd 3 O))) O ?_;rintro _ w7 ⟨Ap,cp,ps,k7,rfl,kl,tE,eo⟩;rw [l4]at eo;have eK:St w0 w7 (Bx 24 1 A5 [.slice A n c]::Bx 24 1 A4 vs::(aO 32 2 A n c rs xss++ (B2++ ([az 2 Ap N cp ps]++ks.set ix k7)))):=by
      refine(eo.sub (ks':=az 2 Ap N cp ps::Bx 24 1 A5 [.slice A n c]::Bx 24 1 A4 vs::((aO 32 2 A n c rs xss++B2)++ks.set ix k7)) ?_).perm ?_
      ·rw [<-gN (aO 32 2 A n c rs xss)];exact List.Sublist.cons_cons _ (List.Sublist.cons_cons _ (List.Sublist.cons_cons _ ((uw _ _).append (fE _))))
      ·rw [<-gN (aO 32 2 A n c rs xss)];exact(List.Perm.swap _ _ _).trans (List.Perm.cons _ ((List.Perm.swap _ _ _).trans (List.Perm.cons _ jc.symm)))
     exact ao.n ⟨f0,f4,f5,p0,p1,p2,p3,[az 2 Ap N cp ps],B2,k7,vs,tE,fun _=> ⟨Ap,cp,ps,O,kl,O⟩,m6,m5,eK⟩
    | 5,hq,bY=>
     obtain rfl:=dA hq;obtain⟨Ap,cp,ps,ow,kl,rfl⟩:=m4 (dC hd 4 rfl);have n6:S 6=false:=by
      cases h:S 6 with
      | false=>rfl
      | true=>rw [<-bY];exact(dC (da 6 _ h rfl) 5 rfl).symm
     have hP:di w6 Ap N ps:=((hT.sub ((((iL _ _).trans (iL _ _)).cons _).cons _):St w0 w6 (az 2 Ap N cp ps::ks.set ix kk))).bF 0 O;refine als (U6 A n c rs xss N Ap cp ps w6 hX (by omega) hG.sys (by omega) hP (fun x h0 h1=>kl.gi h0 h1)) O (by exact yT (p0 (dC hd 0 O)) ow) O ?_;rintro _ w7 ⟨A',c',rs',rfl,nn,iM⟩;have eK:St w0 w7 (Bx 24 1 A5 [.slice A n c]::Bx 24 1 A4 vs::(aO 32 2 A n c rs xss++ (aO 32 2 A' n c' rs' (xss.map (nV N ps))++ ([az 2 Ap N cp ps]++ks.set ix kk)))):=by
      refine((hT.sub (ks':=Bx 24 1 A5 [.slice A n c]::Bx 24 1 A4 vs::(aO 32 2 A n c rs xss++ ([az 2 Ap N cp ps]++ks.set ix kk))) ?_).call iM).perm ?_
      ·exact List.Sublist.cons_cons _ (List.Sublist.cons_cons _ ((fE _).append (iL _ _)))
      ·refine(jc (l₁:=aO 32 2 A' n c' rs' (xss.map (nV N ps)))).trans (List.Perm.cons _ ((jc (l₁:=aO 32 2 A' n c' rs' (xss.map (nV N ps)))).trans (List.Perm.cons _ ?_)));rw [<-gN (aO 32 2 A' n c' rs' (xss.map (nV N ps))) (aO 32 2 A n c rs xss),<-gN (aO 32 2 A n c rs xss) (aO 32 2 A' n c' rs' (xss.map (nV N ps)))];exact ku.append_right _
     refine ao.n ?_;exact⟨f0,f4,f5,p0,p1,p2,p3,[az 2 Ap N cp ps],aO 32 2 A' n c' rs' (xss.map (nV N ps)),kk,vs,dY,fun _=> ⟨Ap,cp,ps,ow,kl,O⟩,m6,fun _=> ⟨A',c',rs',_,O,nn,by simp [dG],hG.Wq kl,O,fun h=> (nomatch n6.symm.trans h)⟩,eK⟩
    | 6,hq,bY=>
     obtain rfl:=dA hq;obtain⟨A',c',rs',xss',Br,nn,pS,o6,rfl,_⟩:=m5 (dC hd 5 rfl);obtain rfl:=m6 bY;refine bW 1 1 hT O (by exact f4) (by exact Br) O O O O ?_;intro w7 eo;refine ao.n ?_;exact⟨f0,f4,f5,p0,p1,p2,p3,B1,_,kk,[.slice A' n c'],dY,m4,fun h=> (nomatch (show true=false from h)),fun _=> ⟨A',c',rs',xss',Br,nn,pS,o6,O,fun _=>O⟩,eo⟩
    | i+7,hq,_=>exact(nomatch hq)
   ·intro S e1 w6 dO hI;obtain⟨f0,f4,f5,p0,p1,p2,p3,B1,B2,kk,vs,dY,m4,m6,m5,hT⟩:=hI;obtain⟨A',c',rs',xss',Br,nn,pS,o6,rfl,yp⟩:=m5 (dO 5 (by decide));obtain rfl:=yp (dO 6 (by decide));refine Ec (F:=[(4,.pointer A4)]) ⟨f4,av⟩ (zd O (ko O (hT.rd 1 O) ?_));have jR:=hT.tail.tail.sub (ks':=aO 32 2 A' n c' rs' xss'++ks.set ix kk) (((fE _).append (iL _ _)).trans (iL _ _));exact⟨n,A',c',rs',xss',aO 32 2 A' n c' rs' xss',kk,O,by omega,jR.cap 0 O,R2 o6 hN.2,dY,fun qc Y h=>St.gj h (by omega),jR⟩
  ·refine aG O (alC 0 (aV.rd 0 O) O (bW 1 1 aV O O O O O O O ?_));intro kL gu;refine bM O (ko O (gu.rd 1 O) ?_);have gu:St w0 kL (aO 32 2 A n c rs xss++ks.set ix k3):=gu.tail.tail;exact⟨n,A,c,rs,xss,aO 32 2 A n c rs xss,k3,O,by omega,gu.cap 0 O,R2 hG hN.2,gR,fun qc Y h=>St.gj h (by omega),gu⟩
theorem ae9(Ac:aj)(nc cc:Nat)(bs:ai)(w:aa)(hY:tp w Ac nc bs)(rU:nc<=1000000):
 aN prog 80 [.slice Ac nc cc] w (fun v w'=>∃(As:aj) (k:Ck),v= .pointer As/\(∀w0,tp w0 Ac nc bs->gX w0 As k)/\St w w' [k]):=by
 refine bI func80 O ntmps80 O (du O) ?_;refine bc O (bk O O ?_);refine og O O (uh _ (by omega)) (Hm O O O fun r1 _=>?_)
 refine X3 (by exact inferInstance) (by exact inferInstance) (by exact inferInstance) O O O O O O O O (X5 (St.refl w) O O ?_);intro As w2 hS;refine aI O (Cd.loop (α:=Nat×Int) (fun s=> [(0,.slice Ac nc cc),(3,.pointer As),(4,ak (s.1:Int))]) (fun s w'=>St w w' [Bx 118 3 As [.slice Ac nc cc,ak 0,.int .u64 s.2]]/\s.1<=nc) (fun s=>nc - s.1) (0,_) (alH O) ⟨hS,bm _⟩ ?_);rintro⟨i,h⟩ e w3 ⟨aE,hi⟩;dsimp only at aE hi|-;refine bc O (bk O O (ar O ?_));refine cT 16 O (fun h1=>?_) (fun h1=>?_)
 ·skip
  refine au O (ar O (au O (aI O ?_)));refine aR _ O (fun h2=>?_) (fun h2=>?_)
  ·skip
   have abq:=hY.at_ (j:=(i:Int)) (by omega) (by omega);have x5:=hY.below aE.below;refine cM O ?_;refine jA [15] [yP (As),yP (As),yP (As),yP (aB (As) 2),.ex (.int .u64 h),.pr (fun v _=>∃r:Int,v= .int .u64 r),yS (Ac) (nc) (cc),yI ((i:Int)),yP (aB Ac (i:Int).toNat),.ex (.int .u8 (bs.getD (i:Int).toNat 0)),.ex (.int .u64 (bs.getD (i:Int).toNat 0)),.pr (fun v _=>∃r:Int,v= .int .u64 r),.pr (fun v _=>∃r:Int,v= .int .u64 r),yP (As),yP (aB (As) 2),.pr (fun _ w'=>∃r:Int,St w w' [Bx 118 3 As [.slice Ac nc cc,ak 0,.int .u64 r]])] (ly (ly (ly (ly (ly (cj.2 ⟨Ye.cN (fun _ _ _ h _=>h),(ly (ly (ly (ly (ly (cj.2 ⟨Ye.cN (fun _ _ _ h _=>h),(cj.2 ⟨Ye.cN (fun _ _ _ h _=>h),(ly (ly (cj.2 ⟨Ye.cN (fun v w w' h hb=>by obtain⟨r,h⟩:=h;exact⟨r,h.aq hb⟩),(fun _ h=>by cases h)⟩)))⟩)⟩))))))⟩)))))) ?_ ?_
   ·refine⟨bQ O,bQ O,cP fun _ _ hb _ _ _=>oh ((aE.rd 0 O).below hb) (Nat.succ_pos _) O O (bq O O),cP fun _ _ hb _ _ _=>aW ((aE.rd 0 O).below hb) O (bq O O),?_,?_,bQ O,bQ O,?_,?_,?_,?_,?_,cP fun _ _ hb _ _ _=>oh ((aE.rd 0 O).below hb) (Nat.succ_pos _) O O (bq O O),cP fun _ _ hb _ _ _=>aW ((aE.rd 0 O).below hb) O (bq O O),?_,av⟩
    ·refine cP fun e1 w1 hb hp aY hq=>?_
     refine iW (k:= .u64) ((aE.rd 0 O).below hb) O O O O O (ao.n (fL O (by exact O)))
    ·intro e1 w1 cc dS cI dX hp aY hq;show ao _ _ _ _ _ _ _;refine PN O O O fun r _=>?_
     exact ao.n (eO.dn O (Below.refl _ _) ⟨r,O⟩)
    ·refine cP fun e1 w1 hb hp aY hq=>?_
     refine aF (x5.below hb).2.2 O (ao.n (fL O (by exact O)))
    ·refine cP fun e1 w1 hb hp aY hq=>?_
     refine PK (x5.below hb) O (by omega) O O (ao.n (fL O (by exact O)))
    ·intro e1 w1 cc dS cI dX hp aY hq;show ao _ _ _ _ _ _ _;refine og O O (uh _ (by omega)) (ao.n (fL O (by exact O)))
    ·refine cP fun e1 w1 hb hp aY hq=>?_
     obtain⟨r,hr⟩:=(hp 5 _ _ (by kernel_rfl) rfl rfl (by kernel_rfl));refine Hm (by exact hr) O O fun r _=>?_
     exact ao.n (eO.dn O (Below.refl _ _) ⟨r,O⟩)
    ·refine cP fun e1 w1 hb hp aY hq=>?_
     obtain⟨r,hr⟩:=(hp 11 _ _ (by kernel_rfl) rfl rfl (by kernel_rfl));refine Hm (by exact hr) O O fun r _=>?_
     exact ao.n (eO.dn O (Below.refl _ _) ⟨r,O⟩)
    refine jC fun e1 w1 hb hp aY hq=>?_
    obtain⟨r,hr⟩:=(hp 12 _ _ (by kernel_rfl) rfl rfl (by kernel_rfl));refine ka 0 (aE.aq hb) O O (by exact hr) O O ?_;intro w9 hT;exact ao.n (fH.st O ⟨r,hT⟩)
   intro u w5 _ hu _ _;obtain⟨r,hT⟩:=hu 15 _ rfl (by kernel_rfl);refine iV O (aJ O (aT O (tQ ?_)));exact⟨(i+1,r),by show nc - (i+1)<nc - i;omega,(alH O),hT,by show i+1<=nc;omega⟩
  refine bw O (bA (ij O ?_));refine JN O ?_;exact⟨As,_,O,fun w0 h0=> ⟨Ac,nc,cc,0,h,bs,O,⟨Int.le_refl _,by omega⟩,rU,h0⟩,aE⟩
 skip
 refine aA O (aA O (aI O ?_));refine Cd.gq O (bw O (bA (ij O ?_)));refine JN O ?_;exact⟨As,_,O,fun w0 h0=> ⟨Ac,nc,cc,0,h,bs,O,⟨Int.le_refl _,by omega⟩,rU,h0⟩,aE⟩
section
variable {P:Program} {N:Nat} {ops:Array Oper} {K:Env->aa->Prop} {rest:List Oper} {e:Env} {w0 w w':aa} {ks:List Ck} {d:Nat} {ty:ae} {pos:String} {af:Array Edge}
end
theorem XJ{w0 w:aa}{ks:List Ck}(Ac:aj)(nc cc:Nat)(bs:ai)(hS:St w0 w ks)(hY:tp w0 Ac nc bs)(rU:nc<=1000000):
 aN prog 63 [.slice Ac nc cc] w (fun v w'=>∃(n:Nat) (A:aj) (c:Nat) (rs:List aQ) (xss:ah) (X:List Ck),v= .agg #[.slice A n c]/\n<=6/\(n<=c/\c<=9223372036854775807)/\(∀(qc:aa) (Y:List Ck),St w0 qc (X++Y)->bz qc A n rs xss)/\St w0 w' (X++ks)):=by
 refine bI func63 O ntmps63 O (pq O O) (bc O (gD hS O ?_));intro A2 w1 aE;refine ar O (aL (ae9 Ac nc cc bs w1 (hY.below aE.below) rU) O ?_);rintro _ w2 ⟨As,k0,rfl,Fz,hT⟩;have Fz:=Fz w0 hY;have aD:St w0 w2 (k0::Bx 24 1 A2 [.slice none 0 0]::ks):=aE.call hT;refine aL (afD 0 24 aD O Fz (by decide)) O ?_;rintro _ w3 ⟨n,A,c,rs,xss,X,k1,rfl,hn,lQ,hb,qO,hX,aM⟩;have aM:St w0 w3 (X++ (k1::Bx 24 1 A2 [.slice none 0 0]::ks)):=aM;have aU:St w0 w3 (Bx 24 1 A2 [.slice none 0 0]::(X++k1::ks)):=aM.perm (by
  rw [show X++ (k1::Bx 24 1 A2 [.slice none 0 0]::ks)=(X++ [k1])++Bx 24 1 A2 [.slice none 0 0]::ks by simp,show X++k1::ks=(X++ [k1])++ks by simp];exact jc)
 refine bW 1 0 aU O O O O O O O fun w4 aV=>bM O (ko O (aV.rd 0 O) ?_);exact⟨n,A,c,rs,xss,X,O,hn,lQ,hX,aV.tail.sub (List.Sublist.append_left (List.sublist_cons_self _ _) _)⟩
theorem Kc(A:aj)(n c:Nat)(rs:List aQ)(xss:ah)(w:aa)(hR:bz w A n rs xss)(hM:bg xss)(hc:n<=c/\c<=9223372036854775807):
 aN prog 65 [.agg #[.slice A n c]] w (mo (iq xss) 0 w):=XK A n c rs xss w hR hM hc.1 hc.2
theorem Pl(A:aj)(n c:Nat)(rs:List aQ)(xss:ah)(D:aj)(m cD:Nat)(rt:List aQ)(bU:ah)(w:aa)(hR:bz w A n rs xss)(hT:bz w D m rt bU)(hM:bg xss)(hY:bg bU)(hN:(gl bU 0).length=(gl xss 0).length)(hI:∃φ:Int->Int,gM (gl xss 0).length xss bU φ)(vF:n<=c/\c<=9223372036854775807)(ni:m<=cD/\cD<=9223372036854775807):
 aN prog 66 [.agg #[.slice A n c],.agg #[.slice D m cD]] w (fun v w'=>v= .tuple #[.bool true,ak 0]/\St w w' []):=by
 obtain⟨φ,hI⟩:=hI;have hm:m=n:=by
  have h1:=hR.len;have h2:=hT.len;have h3:=hI.len;omega
 subst hm;exact XF A m c rs xss D cD rt bU (gl xss 0).length φ w hR hT hM hY O hN.symm hI vF ni
theorem ahy{M:ah}:∀x∈eH M dF 1,x.length<=9223372036854775806:=fun x hx=>by
 by_cases h:mf M dF 1=0
 ·obtain⟨m1,_⟩:=Oo h;obtain⟨i,hi,rfl⟩:=fV.1 hx;have h1:=(m1.2.2.1.at_ (k:=i) hi).1;rw [cK hi]at h1;have:=m1.2.1.2;omega
 have e:eH M dF 1=[]:=by
  unfold mf at h;unfold eH
  split
  ·rename_i h1;rw [ay h1]at h;unfold vY;exact aw h
  rfl
 rw [e]at hx;cases hx
theorem ahx{M:ah}:(eH M dF 1).length<=9223372036854775806:=by
 by_cases h:mf M dF 1=0
 ·have:=(Oo h).1.1;omega
 have e:eH M dF 1=[]:=by
  unfold mf at h;unfold eH
  split
  ·rename_i h1;rw [ay h1]at h;unfold vY;exact aw h
  rfl
 rw [e];exact bm _
theorem QI{M:ah}(hM:bg M){i:Nat}(hi:i<M.length):0<=gi (fI M) i/\gi (fI M) i<=400:=by
 have e:gi (fI M) i=fA M i:=by
  unfold gi fI;rw [gI,dd,List.getElem?_map,List.getElem?_range hi]
  rfl
 rw [e];have:=vo M i;have:=hM.2.1.2;omega
theorem XN(Ac:aj)(nc cc:Nat)(bs:ai)(w:aa)(hT:na w)(hY:tp w Ac nc bs):
 aN prog 13 [.slice Ac nc cc] w (fun v w'=>v= .bool true/\St w w' []):=by
 refine bI func13 O ntmps13 O (du O) (bc O (aL (Zd Ac nc cc w) O ?_));rintro _ w1 ⟨rfl,BF⟩;refine aI O (aR _ O (fun h1=>?_) (fun h1=>?_))
 ·refine eF O (dz O ?_);exact⟨O,BF⟩
 refine aG O (aL (XJ Ac nc cc bs (St.refl w1) (hY.below BF.below) (by omega)) O ?_);rintro _ w2 ⟨n,A,c,rs,M,X,rfl,hn,lQ,Mf,aD⟩;have hR:=Mf w2 [] aD;have hT:=(hT.aq BF.below).aq aD.below;have hW:=(BF.call aD).none;clear aD Mf BF hY;refine gD (St.refl w2) O fun B3 w3 ax=>bW 1 0 ax O O O O O O O ?_;clear ax;intro w4 ax;have ax:St w2 w4 [Bx 24 1 B3 [.slice A n c]]:=ax;have gz:Rd w4 B3 1 _:=ax.rd 0 O;have bo:=ax.below;have hT:=hT.aq bo;have hW:=hW.aq bo;have hR:=hR.aq bo;refine ar O (alC 0 gz O (aL (aes A n c rs M _ hT hR lQ.1 lQ.2) O ?_));rintro _ w7 ⟨AP,cP,AJ,rfl,Nc,ax⟩;have hP:bz w7 AP (eH M dF 1).length AJ (eH M dF 1):=St.gj (ks:=[]) (by rw [eu];exact ax) O;have hcP:(eH M dF 1).length<=cP/\cP<=9223372036854775807:=ax.cap 0 O;have bo:=ax.below;have hT:=hT.aq bo;have hW:=hW.aq bo;have hR:=hR.aq bo;have gz:=Rd.below gz bo;refine ar O (gD (St.refl w7) O ?_);intro B4 w8 ax;refine bW 1 0 ax O O O O O O O ?_;clear ax;intro w9 ax;have ax:St w7 w9 [Bx 24 1 B4 [.slice AP (eH M dF 1).length cP]]:=ax;have gf:Rd w9 B4 1 _:=ax.rd 0 O;have bo:=ax.below;have hT:=hT.aq bo;have hW:=hW.aq bo;have hR:=hR.aq bo;have gz:=Rd.below gz bo;have hP:=hP.aq bo;refine ar O (alC 0 gz O (aL (aiL A n c rs M _ hR (by omega)) O ?_));rintro _ dQ ⟨AQ,cQ,WD,rfl,hrQ,ax⟩;have hQ:bz dQ AQ (eH M dF 1).length WD (eH M dF 1):=St.gj (ks:=[]) (by rw [eu];exact ax) O;have hcQ:(eH M dF 1).length<=cQ/\cQ<=9223372036854775807:=ax.cap 0 O;have bo:=ax.below;have hT:=hT.aq bo;have hW:=hW.aq bo;have hR:=hR.aq bo;have gz:=Rd.below gz bo;have hP:=hP.aq bo;have gf:=Rd.below gf bo;refine ar O (gD (St.refl dQ) O ?_);intro B6 eI ax;refine bW 1 0 ax O O O O O O O ?_;clear ax;intro gL ax;have ax:St dQ gL [Bx 24 1 B6 [.slice AQ (eH M dF 1).length cQ]]:=ax;have LQ:Rd gL B6 1 _:=ax.rd 0 O;have bo:=ax.below;have hT:=hT.aq bo;have hW:=hW.aq bo;have hR:=hR.aq bo;have gz:=Rd.below gz bo;have hP:=hP.aq bo;have gf:=Rd.below gf bo;have hQ:=hQ.aq bo;refine ar O (cT 46 O (fun h=>absurd O h) (fun _=>?_));refine au O (alC 0 gf O (au O (alC 0 LQ O (au O (aL (afS AP _ cP AJ (eH M dF 1) AQ _ cQ WD (eH M dF 1) _ hP hQ ahx ahy) O ?_)))));rintro _ gC ⟨rfl,ax⟩;have bo:=ax.below;have hT:=hT.aq bo;have hW:=hW.aq bo;have hR:=hR.aq bo;have gz:=Rd.below gz bo;have hP:=hP.aq bo;have gf:=Rd.below gf bo;refine au O ?_
 first | refine eZ rfl rfl ?_ | refine fY rfl rfl ?_
 refine aI O (oM O (fun h=>h O) (cM O (aR _ O (fun h2=>?_) (fun h2=>?_))))
 ·refine eF O (dz O ?_);exact⟨O,hW⟩
 have h2:mf M dF 1=0:=Decidable.not_not.1 h2;have hg:=(Wc h2).1;have hM:=(kf hg).1;obtain⟨mP,hC2,mE,lE,hIE⟩:=Oo h2;obtain⟨hpe,adw,ad2⟩:=aiV hg;refine aG O (alC 0 gz O (aL (Kc A n c rs M _ hR hM lQ) O ?_));rintro _ lW ⟨AD,cD,bp,rfl,iK,ax⟩;have hD:bz lW AD (iq M).length bp (iq M):=St.gj (ks:=[]) (by rw [eu];exact ax) O;have IE:(iq M).length<=cD/\cD<=9223372036854775807:=ax.cap 0 O;have bo:=ax.below;have hT:=hT.aq bo;have hW:=hW.aq bo;have hR:=hR.aq bo;have gz:=Rd.below gz bo;have hP:=hP.aq bo;have gf:=Rd.below gf bo;refine ar O (gD (St.refl lW) O ?_);intro B8 nW ax;refine bW 1 0 ax O O O O O O O ?_;clear ax;intro sl ax;have ax:St lW sl [Bx 24 1 B8 [.slice AD (iq M).length cD]]:=ax;have ox:Rd sl B8 1 _:=ax.rd 0 O;have bo:=ax.below;have hT:=hT.aq bo;have hW:=hW.aq bo;have hR:=hR.aq bo;have gz:=Rd.below gz bo;have hP:=hP.aq bo;have gf:=Rd.below gf bo;have hD:=hD.aq bo;refine ar O (alC 0 ox O (aL (aer AD _ cD bp (iq M) _ hT hD IE.1 IE.2) O ?_));rintro _ mm ⟨AE,cE,GX,rfl,yn,ax⟩;have hE:bz mm AE (eH (iq M) dF 2).length GX (eH (iq M) dF 2):=St.gj (ks:=[]) (by rw [eu];exact ax) O;have Mn:(eH (iq M) dF 2).length<=cE/\cE<=9223372036854775807:=ax.cap 0 O;have bo:=ax.below;have hT:=hT.aq bo;have hW:=hW.aq bo;have hR:=hR.aq bo;have gz:=Rd.below gz bo;have hP:=hP.aq bo;have gf:=Rd.below gf bo;have hD:=hD.aq bo;have ox:=Rd.below ox bo;refine ar O (gD (St.refl mm) O ?_);intro Pm xm ax;refine bW 1 0 ax O O O O O O O ?_;clear ax;intro AV ax;have ax:St mm AV [Bx 24 1 Pm [.slice AE (eH (iq M) dF 2).length cE]]:=ax;have Fm:Rd AV Pm 1 _:=ax.rd 0 O;have bo:=ax.below;have hT:=hT.aq bo;have hW:=hW.aq bo;have hR:=hR.aq bo;have gz:=Rd.below gz bo;have hP:=hP.aq bo;have gf:=Rd.below gf bo;have hD:=hD.aq bo;have ox:=Rd.below ox bo;have hE:=hE.aq bo;refine ar O (alC 0 gf O (aL (Kc AP _ cP AJ (eH M dF 1) _ hP mP hcP) O ?_));rintro _ kL ⟨AF,cF,fk,rfl,DS,ax⟩;have hF:bz kL AF (iq (eH M dF 1)).length fk (iq (eH M dF 1)):=St.gj (ks:=[]) (by rw [eu];exact ax) O;have hcF:(iq (eH M dF 1)).length<=cF/\cF<=9223372036854775807:=ax.cap 0 O;have bo:=ax.below;have hT:=hT.aq bo;have hW:=hW.aq bo;have hR:=hR.aq bo;have gz:=Rd.below gz bo;have hP:=hP.aq bo;have gf:=Rd.below gf bo;have hD:=hD.aq bo;have ox:=Rd.below ox bo;have hE:=hE.aq bo;have Fm:=Rd.below Fm bo;refine ar O (gD (St.refl kL) O ?_);intro Pn O7 ax;refine bW 1 0 ax O O O O O O O ?_;clear ax;intro Xi ax;have ax:St kL Xi [Bx 24 1 Pn [.slice AF (iq (eH M dF 1)).length cF]]:=ax;have abG:Rd Xi Pn 1 _:=ax.rd 0 O;have bo:=ax.below;have hT:=hT.aq bo;have hW:=hW.aq bo;have hR:=hR.aq bo;have gz:=Rd.below gz bo;have hP:=hP.aq bo;have gf:=Rd.below gf bo;have hD:=hD.aq bo;have ox:=Rd.below ox bo;have hE:=hE.aq bo;have Fm:=Rd.below Fm bo;have hF:=hF.aq bo;refine ar O (alC 0 Fm O (alC 0 abG O ?_));refine aL (Pl AE _ cE GX (eH (iq M) dF 2) AF _ cF fk (iq (eH M dF 1)) _ hE hF mE (QY mP) (by rw [K0 mP,lE]) (by rw [lE];exact hIE) Mn hcF) O ?_;rintro _ w23 ⟨rfl,ax⟩;have bo:=ax.below;have hT:=hT.aq bo;have hW:=hW.aq bo;have hR:=hR.aq bo;have gz:=Rd.below gz bo;have hD:=hD.aq bo;have ox:=Rd.below ox bo;refine ar O (cT 77 O (fun h=>absurd O h) (fun _=>?_));refine au O (ar O (au O (ar O ?_)));refine cT 81 O (fun h=>absurd hC2 h) (fun _=>?_);refine au O (ar O (au O (ar O ?_)));refine cT 85 O (fun h=>absurd O h) (fun _=>?_);refine au O (ar O (au O (ar O ?_)));refine cT 89 O (fun h=>absurd O h) (fun _=>?_);refine au O (ar O (au O ?_))
 first | refine eZ rfl rfl ?_ | refine fY rfl rfl ?_
 refine aI O (Cd.gq O (aG O (alC 0 gz O (aL (UD A n c rs M _ hT hR lQ.1 lQ.2) O ?_))));rintro _ O8 ⟨AX,cX,OI,rfl,hrX,ax⟩;have hX:bz O8 AX (eV M).length OI (eV M):=St.gj (ks:=[]) (by rw [eu];exact ax) O;have Mo:(eV M).length<=cX/\cX<=9223372036854775807:=ax.cap 0 O;have bo:=ax.below;have hT:=hT.aq bo;have hW:=hW.aq bo;have hR:=hR.aq bo;have gz:=Rd.below gz bo;have hD:=hD.aq bo;have ox:=Rd.below ox bo;refine ar O (gD (St.refl O8) O ?_);intro Po w25 ax;refine bW 1 0 ax O O O O O O O ?_;clear ax;intro Xj ax;have ax:St O8 Xj [Bx 24 1 Po [.slice AX (eV M).length cX]]:=ax;have sF:Rd Xj Po 1 _:=ax.rd 0 O;have bo:=ax.below;have hT:=hT.aq bo;have hW:=hW.aq bo;have hR:=hR.aq bo;have gz:=Rd.below gz bo;have hD:=hD.aq bo;have ox:=Rd.below ox bo;have hX:=hX.aq bo;refine ar O (alC 0 ox O (aL (UD AD _ cD bp (iq M) _ hT hD IE.1 IE.2) O ?_));rintro _ O9 ⟨AY,cY,WE,rfl,hrY,ax⟩;have hY:bz O9 AY (eV (iq M)).length WE (eV (iq M)):=St.gj (ks:=[]) (by rw [eu];exact ax) O;have hcY:(eV (iq M)).length<=cY/\cY<=9223372036854775807:=ax.cap 0 O;have bo:=ax.below;have hT:=hT.aq bo;have hW:=hW.aq bo;have hR:=hR.aq bo;have gz:=Rd.below gz bo;have hD:=hD.aq bo;have ox:=Rd.below ox bo;have hX:=hX.aq bo;have sF:=Rd.below sF bo;refine ar O (gD (St.refl O9) O ?_);intro Pp w28 ax;refine bW 1 0 ax O O O O O O O ?_;clear ax;intro Xl ax;have ax:St O9 Xl [Bx 24 1 Pp [.slice AY (eV (iq M)).length cY]]:=ax;have Fo:Rd Xl Pp 1 _:=ax.rd 0 O;have bo:=ax.below;have hT:=hT.aq bo;have hW:=hW.aq bo;have hR:=hR.aq bo;have gz:=Rd.below gz bo;have hD:=hD.aq bo;have ox:=Rd.below ox bo;have hX:=hX.aq bo;have sF:=Rd.below sF bo;have hY:=hY.aq bo;refine aI O (oM O (fun h=>h hpe.symm) (cM O (aR _ O (fun h3=>?_) (fun h3=>?_))))
 ·have h3:mg M=3:=adw.resolve_left h3;refine eF O (dz O ?_);exact⟨aK Value.bool (eP h3),hW⟩
 have h3:mg M=0:=Decidable.not_not.1 h3;obtain⟨mX,mY,lY,hIX,hl,dX,zI⟩:=ad2 h3;refine aG O (alC 0 sF O (aL (Kc AX _ cX OI (eV M) _ hX mX Mo) O ?_));rintro _ Pa ⟨AZ,cZ,WG,rfl,hrZ,ax⟩;have hZ:bz Pa AZ (iq (eV M)).length WG (iq (eV M)):=St.gj (ks:=[]) (by rw [eu];exact ax) O;have hcZ:(iq (eV M)).length<=cZ/\cZ<=9223372036854775807:=ax.cap 0 O;have bo:=ax.below;have hW:=hW.aq bo;have hR:=hR.aq bo;have gz:=Rd.below gz bo;have hX:=hX.aq bo;have sF:=Rd.below sF bo;have hY:=hY.aq bo;have Fo:=Rd.below Fo bo;refine ar O (gD (St.refl Pa) O ?_);intro Pq w31 ax;refine bW 1 0 ax O O O O O O O ?_;clear ax;intro Xm ax;have ax:St Pa Xm [Bx 24 1 Pq [.slice AZ (iq (eV M)).length cZ]]:=ax;have abH:Rd Xm Pq 1 _:=ax.rd 0 O;have bo:=ax.below;have hW:=hW.aq bo;have hR:=hR.aq bo;have gz:=Rd.below gz bo;have hX:=hX.aq bo;have sF:=Rd.below sF bo;have hY:=hY.aq bo;have Fo:=Rd.below Fo bo;have hZ:=hZ.aq bo;refine ar O (alC 0 abH O (alC 0 Fo O ?_));refine aL (Pl AZ _ cZ WG (iq (eV M)) AY _ cY WE (eV (iq M)) _ hZ hY (QY mX) mY (by rw [K0 mX,lY]) (by rw [K0 mX];exact hIX) hcZ hcY) O ?_;rintro _ w33 ⟨rfl,ax⟩;have bo:=ax.below;have hW:=hW.aq bo;have hR:=hR.aq bo;have gz:=Rd.below gz bo;have hX:=hX.aq bo;have sF:=Rd.below sF bo;refine ar O (alC 0 gz O (aL (UC A n c rs M _ hR lQ.1 lQ.2 hM) O ?_));rintro _ w34 ⟨Fa,ca,rfl,ax⟩;have Bv:=ax.bF 0 O;have bo:=ax.below;have hW:=hW.aq bo;have hR:=hR.aq bo;have hX:=hX.aq bo;have sF:=Rd.below sF bo;refine ar O (alC 0 sF O (aL (UC AX _ cX OI (eV M) _ hX Mo.1 Mo.2 mX) O ?_));rintro _ w35 ⟨Fb,cb,rfl,ax⟩;have Fw:=ax.bF 0 O;have bo:=ax.below;have hW:=hW.aq bo;have hR:=hR.aq bo;have Bv:=Bv.aq bo;have IW:=Bv.1;have BV:=Fw.1;have dG:=hR.len;have SF:=hM.1.1;have Mp:=lQ.2;have MT:(fI M).length=M.length:=by simp [fI]
 have q0:=QI hM (i:=0) (by omega);have q1:=QI hM (i:=M.length - 1) (by omega);rw [show((M.length - 1:Nat):Int)=(M.length:Int) - 1 by omega,dG]at q1;rw [show((0:Nat):Int)=0 from rfl]at q0;rw [dG]at zI;refine ar O (cT 133 O (fun h=>absurd O h) (fun _=>?_));refine au O (ar O (au O (ar O ?_)));refine cT 137 O (fun h=>absurd O h) (fun _=>?_);refine au O (ar O (au O (ar O ?_)));refine cT 141 O (fun h=>absurd O h) (fun _=>?_);refine au O (ar O (au O (ar O ?_)));refine cT 145 O (fun h=>absurd O h) (fun _=>?_);refine au O (ar O (au O ?_))
 first | refine eZ rfl rfl ?_ | refine fY rfl rfl ?_
 refine ar O (ao.split 149 O (fun h=>absurd h (by decide)) (fun _=>?_));refine au O (ar O (au O (bk O O (au O (ar O (au O (bk O O (au O (aJ O (au O (aI O ?_)))))))))));refine oM O (by omega) (aG O (bk O O (aI O ?_)));refine eB [xS (Fb) ((eV M).length) (cb),xP (aB (Fb) ((0:Int)).toNat),xI (gi (fI (eV M)) ((0:Int))),xS (Fa) (n) (ca),xP (aB (Fa) ((0:Int)).toNat),xI (gi (fI M) ((0:Int))),xI ((gi (fI M) ((0:Int)))+ ((1:Int))),xB (decide ((gi (fI (eV M)) ((0:Int)))=((gi (fI M) ((0:Int)))+ ((1:Int))))),xB (true),xS (Fb) ((eV M).length) (cb),xI ((n:Int)),xP (aB (Fb) ((n:Int)).toNat),xI (gi (fI (eV M)) ((n:Int))),xS (Fa) (n) (ca),xI ((n:Int)),xI (((n:Int)) - ((1:Int))),xP (aB (Fa) (((n:Int)) - ((1:Int))).toNat),xI (gi (fI M) (((n:Int)) - ((1:Int)))),xI ((gi (fI M) (((n:Int)) - ((1:Int))))+ ((1:Int))),xB (decide ((gi (fI (eV M)) ((n:Int)))=((gi (fI M) (((n:Int)) - ((1:Int))))+ ((1:Int))))),xB (decide ((gi (fI (eV M)) ((n:Int)))=((gi (fI M) (((n:Int)) - ((1:Int))))+ ((1:Int))))),xB (decide ((gi (fI (eV M)) ((n:Int)))=((gi (fI M) (((n:Int)) - ((1:Int))))+ ((1:Int)))))] O (eQ O) ?_ ?_
 ·exact⟨Dr O,fun _ _ hb _ _=>aF (Fw.aq hb).2 O Az,fun _ _ hb _ _=>bh (Fw.aq hb) O Az,Dr O,fun _ _ hb _ _=>aF (Bv.aq hb).2 O Az,fun _ _ hb _ _=>bh (Bv.aq hb) O Az,fun _ _ _ _ _=>aJ O Az,Dr O,fun _ _ _ _ _=>Dk O (by exact aK Value.bool ((eP dX))),Dr O,Dr O,fun _ _ hb _ _=>au O (aF (Fw.aq hb).2 O Az),fun _ _ hb _ _=>au O (bh (Fw.aq hb) O Az),Dr O,Dr O,fun _ _ _ _ _=>au O (dT O Az),fun _ _ hb _ _=>au O (aF (Bv.aq hb).2 O Az),fun _ _ hb _ _=>au O (bh (Bv.aq hb) O Az),fun _ _ _ _ _=>au O (aJ O Az),Dr O,Dr O,Dr O,av⟩
 intro u w60 ack _;refine zd O (dz O ?_);exact⟨aK Value.bool (eP zI),hW.aq ack⟩
end
section
open Go.RowKit Go.ChangeShapes Go.WideShapes
theorem laid:laidOutB prog=true:=by kernel_rfl
theorem own:ownKnob prog.godebug=none:=by kernel_rfl
section
variable {H:Type} {enc:ae×ad->H} {P:Program}
theorem W7(hl:laidOutB P=true){W W':aa}(hb:Below W.heap.size W W'){sp:Nat->Bool}:∀ {ts:List ae} {vs:List ad} {ds:List (DataW H)} {ps:List MemPlace},(ts.all fun t=>P.readableRec t && Nat.blt t P.types.size)=true->(∀p∈ps,p.block<W.heap.size)->(∀p∈ps,sp p.block=true)->
 DataW.TrodAll enc P W 0 (fun _=>true) true ts vs ds ps->DataW.TrodAll enc P W' 0 sp true ts vs ds ps
 | [],[],[],_,_,_,_,h=>h
 | t::ts,v::vs,d::ds,ps,hr,gB,uY,h=>by
  obtain⟨p,q,h1,h2,rfl⟩:=h;simp only [List.all_cons,Bool.and_eq_true]at hr;exact⟨p,q,WideElems.Trod_stays hl hr.1.1 (by simpa [Nat.blt_eq]using hr.1.2) h1 (fun x hx=>hb.same (gB x (by simp [hx]))) (fun x hx=>uY x (by simp [hx])),W7 hl hb hr.2 (fun x hx=>gB x (by simp [hx])) (fun x hx=>uY x (by simp [hx])) h2,O⟩
 | [],[],_::_,_,_,_,_,h=>h.elim
 | [],_::_,_,_,_,_,_,h=>by cases h
 | _::_,[],_,_,_,_,_,h=>by cases h
 | _::_,_::_,[],_,_,_,_,h=>by cases h
theorem ahp{f:Func}{s:ChangeSpec}{apart:Bool}{W W':aa}{args:Array ad}{ds gs:List (DataW H)}{before:List MemPlace}(hl:laidOutB P=true){b:ae}(hu:P.underlying b=some .bool)(T6:f.resultTypes= #[b])(hv:s.vars=[])
 (hr:(f.params.toList.all fun t=>P.readableRec t && Nat.blt t P.types.size)=true) (mH:(s.fn H (ds++gs)).results=[.lit (.bool true)]/\(s.fn H (ds++gs)).args=ds/\(s.fn H (ds++gs)).vars=[])
 (hW:DataW.Whole enc P f.params.toList s.vars apart W args.toList ds gs before) (hb:Below W.heap.size W W'):s.post enc P f apart true false false W args (.bool true) W':=by
 have gB:∀x∈before,x.block<W.heap.size:=fun x hx=>hW.lt x hx
 have hW0:=hW;obtain⟨p,q,hA,hV,rfl,hz,hn⟩:=hW;rw [hv]at hV;obtain⟨rfl,rfl⟩:=trodVars_none hV;have TD:∀x∈p,x.block<W.heap.size:=fun x hx=>gB x (by simp [hx])
 have Ii:∀sp:Nat->Bool,(∀x∈p,sp x.block=true)->DataW.TrodAll enc P W' 0 sp true f.params.toList args.toList (s.fn H (ds++ [])).args p:=fun sp uY=>by
  rw [mH.2.1];exact W7 hl hb hr TD uY hA
 have FG:∀(b0:Nat) (sp:Nat->Bool) (hd:Bool),DataW.TrodAll enc P W' b0 sp hd f.resultTypes.toList ((Value.bool true).resultList f.resultTypes.size) (s.fn H (ds++ [])).results []:=fun b0 sp hd=>by
  rw [mH.1,T6];exact trodAll_cons_mk (shut_bool hu _) trodAll_mk0
 have SX:∀sp:Nat->Bool,DataW.TrodVars enc P W' sp s.vars (s.fn H (ds++ [])).vars []:=fun sp=>by
  rw [mH.2.2,hv];rfl
 refine⟨ds,[],p++ [],[],p,[],hW0,FG _ _ _,Ii _ (fun x hx=>by simpa using TD x hx),SX _,World.keptBut_mono (fun x hx=> ⟨hx,by simpa using hx⟩) (hb.frame (· ∈p++ [])),fun _=> ⟨fun j t r h1 h2=>?_,_,_,([]++p)++ [],⟨[]++p,[],trodAll_append (Ii _ fun _ _=>O) (FG _ _ _),SX _,O,fun c off hc=>?_,fun ha=>by simpa using hn ha⟩,fun x hx _=>by simpa using hx⟩⟩
 ·rw [T6]at h1 h2;cases j with
  | zero=>
   simp at h1;subst h1;simp [Value.resultList]at h2;subst h2;exact okWide_bool_mk hu _
  | succ j=>simp at h1
 ·have db:MemPlace.cell c off∈p++ []:=by simpa using hc
  rw [hb.frozen (gB _ db)];exact hz c off db
end
section
variable {H:Type} {enc:ae×ad->H} {P:Program}
end
section
variable {H:Type} {enc:ae×ad->H} {P:Program}
theorem agV{w:aa}{r:Go.Reach}{b0:Nat}{t e:ae}{v:ad}{d:DataW H}{p:List MemPlace}(ht:P.underlying t=some (.slice e))(he:P.underlying e=some (.int .u8))(ce:P.cellsOf e=1)(q9:Value.okWide P w r b0 t v)(h:DataW.Trod enc P w 0 (fun _=>true) true t v d p):∃A n c bs,v= .slice A n c/\tp w A n bs/\n<=c/\c<=9223372036854775807:=by
 obtain⟨a,len,cap,rfl⟩:=okWide_slice ht q9;obtain⟨fuel,hf⟩:=h;have qR:(Value.slice a len cap).cells.toList=[Value.slice a len cap]:=O;rw [qR]at hf;rcases open_ints ht he ce hf with⟨h1,_⟩ | ⟨b,n,c,zs,h1,_,hl,hm,hz,_,hc,hwz⟩
 ·simp only [List.cons.injEq,and_true]at h1;exact⟨none,0,0,[],h1,⟨O,fun x hx=> (nomatch hx),fun k hk=>absurd hk (jM _)⟩,bB _,by omega⟩
 simp only [List.cons.injEq,and_true]at h1;rw [ay rfl]at hz;refine⟨some b,n,c,zs.take n,h1,⟨?_,fun x hx=>?_,fun k hk=>?_⟩,hl,by simpa [maxLen]using hm⟩
 ·simp;omega
 ·have:=hwz x (List.mem_of_mem_take hx);simpa [Lit.wf,IntKind.min,IntKind.max,IntKind.signed,IntKind.bits]using this
 refine⟨b.add k,O,?_⟩;rw [hc k (by omega)];simp [dd,tl,hk]
end
end
end Go.Proofs.YtopgfgdgfjddpaaGreatDoor.Vc
