/-
 Lemmas. Conditions: as each states them.
-/
import Derived.Test.YtopgfgdgfjddpaaGreatDoorZk
set_option maxHeartbeats 8000000
namespace Go.Proofs.YtopgfgdgfjddpaaGreatDoor.Vc
open Tryz
section
open Go.RowKit
open Classical in
noncomputable def yA(n:Nat)(fl:ah)(i a b:Nat):ai:=((List.range b).filter fun b=>decide (jW n fl i a b/\b≠a)).map fun b:Nat=> (b:Int)
noncomputable def mQ(n:Nat)(fl:ah)(i a b:Nat):ai:=(List.range a).flatMap (sX n fl i)++yA n fl i a b
section
variable {n:Nat} {fl:ah} {i a b:Nat}
theorem VB:yA n fl i a fl.length=sX n fl i a:=rfl
theorem agy:mQ n fl i (a+1) 0=mQ n fl i a fl.length:=by
 unfold mQ;rw [nZ,List.flatMap_append,VB];simp [yA]
theorem aaE{p:Nat->Bool}{b:Nat}:((List.range (b+1)).filter p)=(List.range b).filter p++ (if p b=true then [b]else []):=by
 rw [nZ,oR]
 by_cases h:p b=true
 ·rw [ay h,ur h];rfl
 rw [aw h,rC h];rfl
open Classical in
theorem VD:yA n fl i a (b+1)=yA n fl i a b++ (if jW n fl i a b/\b≠a then [(b:Int)]else []):=by
 unfold yA;rw [aaE,jm]
 by_cases h:jW n fl i a b/\b≠a
 ·rw [ay h,ay (eP h)];rfl
 rw [aw h,aw (fun h'=>h (tX h'))];rfl
theorem agx(h:jW n fl i a b/\b≠a):mQ n fl i a (b+1)=mQ n fl i a b++ [(b:Int)]:=by
 unfold mQ;rw [VD,ay h,gN]
theorem agz(h:¬(jW n fl i a b/\b≠a)):mQ n fl i a (b+1)=mQ n fl i a b:=by
 unfold mQ;rw [VD,aw h,eu]
theorem agw:mQ n fl i fl.length 0=vX n fl i:=by simp [mQ,yA,vX]
theorem VC:(yA n fl i a b).length<=b:=by
 unfold yA;rw [fj];refine l5 (rD _ _) ?_;rw [qE];exact bB _
theorem Vy(hb:b<=fl.length):(mQ n fl i a b).length<=a*fl.length+b:=by
 have key:∀a:Nat,((List.range a).flatMap (sX n fl i)).length<=a*fl.length:=by
  intro a
  induction a with
  | zero=>simp
  | succ a ih=>
   rw [nZ,List.flatMap_append,dI,Nat.succ_mul];have h:=VC (n:=n) (fl:=fl) (i:=i) (a:=a) (b:=fl.length);rw [VB]at h;simp only [List.flatMap_cons,List.flatMap_nil,eu];omega
 unfold mQ;have h1:=key a;have h2:=VC (n:=n) (fl:=fl) (i:=i) (a:=a) (b:=b);rw [dI];omega
theorem aaf(hn:fl.Nodup)(hl:∀x∈fl,x.length=n)(hi:i<n)(ha:a<fl.length)(hb:b<fl.length):(a≠b/\pH (gl fl a) (gl fl b) n=1/\gi (gl fl a) i≠gi (gl fl b) i)↔jW n fl i a b/\b≠a:=by
 have key:∀p:Nat->Bool,(∀c,c<n->(p c=true↔c=i))->((List.range n).filter p)=[i]:=fun p hp=>by
  refine List.Perm.eq_singleton ((rE (List.nodup_range.filter _) (by simp)).2 fun c=>?_);rw [fU,gP,fm];exact⟨fun h=> (hp c h.1).1 h.2,fun h=>by subst h;exact⟨hi,(hp c hi).2 rfl⟩⟩
 constructor
 ·rintro⟨bt,hd,hx⟩;refine⟨⟨ha,hb,fun k hk eN=>nA fun h=>?_⟩,fun e=>bt e.symm⟩;unfold pH at hd;obtain⟨x,jq⟩:=List.length_eq_one_iff.1 hd;have m1:i∈(List.range n).filter fun k:Nat=>decide (gi (gl fl a) k≠gi (gl fl b) k):=fU.2 ⟨gP.2 hi,eP hx⟩
  have m2:k∈(List.range n).filter fun k:Nat=>decide (gi (gl fl a) k≠gi (gl fl b) k):=fU.2 ⟨gP.2 hk,eP h⟩
  rw [jq,fm]at m1 m2;exact eN (m2.trans m1.symm)
 rintro⟨hA,bt⟩;have hx:gi (gl fl a) i≠gi (gl fl b) i:=fun e=>bt (Lk hn hl hb ha fun k hk=>by
  by_cases c:k=i
  ·subst c;exact e.symm
  exact(hA.2.2 k hk c).symm)
 refine⟨fun e=>bt e.symm,?_,hx⟩;unfold pH;rw [key _ fun c hc=>?_]
 ·rfl
 rw [kz];constructor
 ·intro h;exact nA fun h'=>h (hA.2.2 c hc h')
 rintro rfl;exact hx
end
noncomputable def oG(n:Nat)(fl:ah)(i:Nat):ah:=(List.range i).map (vX n fl)
theorem Vr(n:Nat)(fl:ah)(i:Nat):oG n fl (i+1)=oG n fl i++ [vX n fl i]:=by
 unfold oG;rw [nZ,jm];rfl
theorem Vq(n:Nat)(fl:ah)(i:Nat):(oG n fl i).length=i:=by simp [oG]
abbrev kI(A:aj)(B:aj)(i c:Nat):Ck:=Bx 24 1 A [.slice B i c]
theorem ahc{α:Type}(b m q1 q2 q3:α)(X:List α):(b::q1::q2::q3::m::(X++ [])).Perm (q1::q2::q3::m::((X++ [b])++ [])):=by
 classical
 refine nC.2 fun z=>?_
 simp only [qk,mV,ql];omega
theorem afs(n:Nat)(A D F:aj)(a1 cA d1 cD N cF:Nat)(fk:List aQ)(fl:ah)(w:aa)(hF:bz w F N fk fl)(hl:∀x∈fl,x.length=n)(hn:fl.Nodup)(hN:N<=400)(TL:n<=1000):
 aN prog 173 [.agg #[ak n,.slice A a1 cA,.slice D d1 cD],.slice F N cF] w (fun v w'=>∃A' c' rs',v= .agg #[.slice A' n c']/\rs'.length=n/\St w w' (aO 32 2 A' n c' rs' (bZ n fl)++ [])):=by
 have iw:fl.length=N:=hF.len;refine bI func173 O ntmps173 O (pq O O) (bc O (mW (St.refl w) O O ?_));intro A2 w1 aE;refine gD aE O fun A4 w2 aD=>ar O (wm (by exact inferInstance) O (gD aD O ?_));intro A5 w3 aM;refine bW 1 0 aM O O O O O O O ?_;intro w4 aU;have aU:St w w4 (kI A5 none 0 0::kI A4 none 0 0::Bx 34 3 A2 [ak n,.slice A a1 cA,.slice D d1 cD]::(aO 32 2 none 0 0 [] (oG n fl 0)++ [])):=(aU.nil 32).perm (List.perm_append_singleton _ _).symm;clear aM aD aE;refine aI O (Cd.loop (α:=Nat×(aj×Nat)×List aQ) (fun z=> [(1,.slice F N cF),(2,.pointer A2),(4,.pointer A4),(5,.pointer A5),(6,ak (z.1:Int))]) (fun z w'=>z.1<=n/\z.2.2.length=z.1/\St w w' (kI A5 z.2.1.1 z.1 z.2.1.2::kI A4 none 0 0::Bx 34 3 A2 [ak n,.slice A a1 cA,.slice D d1 cD]::(aO 32 2 z.2.1.1 z.1 z.2.1.2 z.2.2 (oG n fl z.1)++ []))) (fun z=>n - z.1) (0,(none,0),[]) (alH O) ⟨bm _,O,aU⟩ ?_);clear aU;rintro⟨i,⟨Am,cm⟩,jt⟩ e w5 ⟨hi,mN,hS⟩;dsimp only at hi mN hS|-;refine bc O (aW (hS.rd 2 O) O (iW (j:=0) (hS.rd 2 O) (by exact aK Value.pointer O) O O O O (aI O ?_)));refine aR _ O (fun h1=>?_) (fun h1=>?_)
 ·have db:i<n:=by omega
  refine aG O (jO hS O ?_);intro A7 w6 aZ;refine aI O (Cd.loop (α:=Nat×aj×Nat) (fun z=> [(1,.slice F N cF),(2,.pointer A2),(4,.pointer A4),(5,.pointer A5),(6,ak i),(7,.slice z.2.1 (mQ n fl i z.1 0).length z.2.2),(8,ak (z.1:Int))]) (fun z w'=>z.1<=N/\St w w' (az 2 z.2.1 (mQ n fl i z.1 0).length z.2.2 (mQ n fl i z.1 0)::kI A5 Am i cm::kI A4 none 0 0::Bx 34 3 A2 [ak n,.slice A a1 cA,.slice D d1 cD]::(aO 32 2 Am i cm jt (oG n fl i)++ []))) (fun z=>N - z.1) (0,A7,0) (alH O) ⟨bm _,aZ⟩ ?_);clear aZ hS;rintro⟨a,Ab,cb⟩ e1 w7 ⟨ha,hS⟩;dsimp only at ha hS|-;refine bc O (bk O O (aI O ?_));refine aR _ O (fun h2=>?_) (fun h2=>?_)
  ·have tH:a<N:=by omega
   refine cM O (Cd.loop (α:=Nat×aj×Nat) (fun z=> [(1,.slice F N cF),(2,.pointer A2),(4,.pointer A4),(5,.pointer A5),(6,ak i),(7,.slice z.2.1 (mQ n fl i a z.1).length z.2.2),(8,ak a),(9,ak (z.1:Int))]) (fun z w'=>z.1<=N/\St w w' (az 2 z.2.1 (mQ n fl i a z.1).length z.2.2 (mQ n fl i a z.1)::kI A5 Am i cm::kI A4 none 0 0::Bx 34 3 A2 [ak n,.slice A a1 cA,.slice D d1 cD]::(aO 32 2 Am i cm jt (oG n fl i)++ []))) (fun z=>N - z.1) (0,Ab,cb) (alH O) ⟨bm _,hS⟩ ?_);clear hS;rintro⟨b,Ab,cb⟩ e2 w8 ⟨hb,hS⟩;dsimp only at hb hS|-;have kW:=Vy (n:=n) (i:=i) (a:=a) (b:=b) (show b<=fl.length by omega);have DU:a*fl.length<=400*400:=Nat.mul_le_mul (by omega) (by omega);refine bc O (bk O O (aI O ?_));refine aR _ O (fun h3=>?_) (fun h3=>?_)
   ·have x9:b<N:=by omega
    have zB:=hS.bS hF;have nK:=zB.at_ (i:=(a:Int)) (by omega) (by omega);have mM:=zB.at_ (i:=(b:Int)) (by omega) (by omega);have IW:(gl fl a).length=n:=hl _ (by rw [cK (by omega)];exact dH _);have BV:(gl fl b).length=n:=hl _ (by rw [cK (by omega)];exact dH _);have B5:(rg fk a).n=n:=by rw [<-nK.1];exact IW
    have DO:(rg fk b).n=n:=by rw [<-mM.1];exact BV
    have hdf:=aaf hn hl db (show a<fl.length by omega) (show b<fl.length by omega);have rV:=agx (n:=n) (fl:=fl) (i:=i) (a:=a) (b:=b);have tR:=agz (n:=n) (fl:=fl) (i:=i) (a:=a) (b:=b);rw [<-hdf]at rV tR;have eK:=zB.top
    by_cases q1:a=b
    ·refine cM O (eB [xI ((a:Int)),xI ((b:Int)),xB (decide (¬((a:Int))=((b:Int)))),xB (false),xU,xU,xU,xU,xU,xU,xU,xU,xU,xU,xB (false),xB (false),xU,xU,xU,xU,xU,xU,xU,xU,xU,xU,xU,xU,xU,xU,xU,xB (false)] O (eQ O) ?_ ?_)
     ·exact⟨Dr O,Dr O,Dr O,fun _ _ _ _ _=>Dk O (by exact aK Value.bool (dk (by omega))),Dr O,Dr O,Dr O,Dr O,Dr O,Dr O,Dr O,Dr O,Dr O,Dr O,Dr O,Dr O,Dr O,Dr O,Dr O,Dr O,Dr O,Dr O,Dr O,Dr O,Dr O,Dr O,Dr O,Dr O,Dr O,Dr O,Dr O,Dr O,av⟩
     intro u w9 mG _;have hS:=hS.aq mG;refine fh O (Cd.gq O ?_);have tR:=tR (fun h=>h.1 q1);refine aG O (aJ O (aT O (tQ ?_)));exact⟨(b+1,Ab,cb),by show N - (b+1)<N - b;omega,⟨O,O,O,O,O,aK (fun L:ai=>Value.slice Ab L.length cb) tR.symm,O,O,av⟩,by show b+1<=N;omega,by show St w w9 (az _ Ab (mQ n fl i a (b+1)).length cb _::_);rw [tR];exact hS⟩
    by_cases q2:pH (gl fl a) (gl fl b) n=1
    ·refine cM O ?_;refine eB [xI ((a:Int)),xI ((b:Int)),xB (decide (¬((a:Int))=((b:Int)))),xB (true),xS (F) (N) (cF),xI ((a:Int)),xP (aB (F) ((a:Int)).toNat),xS ((rg (fk) ((a:Int))).a) ((rg (fk) ((a:Int))).n) ((rg (fk) ((a:Int))).c),xS (F) (N) (cF),xI ((b:Int)),xP (aB (F) ((b:Int)).toNat),xS ((rg (fk) ((b:Int))).a) ((rg (fk) ((b:Int))).n) ((rg (fk) ((b:Int))).c),xI (((pH (gl fl a) (gl fl b) (rg fk a).n:Nat):Int)),xB (true),xB (true),xB (true),xS (F) (N) (cF),xI ((a:Int)),xP (aB (F) ((a:Int)).toNat),xS ((rg (fk) ((a:Int))).a) ((rg (fk) ((a:Int))).n) ((rg (fk) ((a:Int))).c),xI ((i:Int)),xP (aB ((rg (fk) ((a:Int))).a) ((i:Int)).toNat),xI (gi (gl fl a) ((i:Int))),xS (F) (N) (cF),xI ((b:Int)),xP (aB (F) ((b:Int)).toNat),xS ((rg (fk) ((b:Int))).a) ((rg (fk) ((b:Int))).n) ((rg (fk) ((b:Int))).c),xI ((i:Int)),xP (aB ((rg (fk) ((b:Int))).a) ((i:Int)).toNat),xI (gi (gl fl b) ((i:Int))),xB (decide (¬(gi (gl fl a) ((i:Int)))=(gi (gl fl b) ((i:Int))))),xB (decide (¬(gi (gl fl a) ((i:Int)))=(gi (gl fl b) ((i:Int)))))] O (eQ O) ?_ ?_
     ·refine⟨Dr O,Dr O,Dr O,fun _ _ _ _ _=>Dk O (by exact aK Value.bool (eP (by omega))),Dr O,Dr O,fun _ _ hb _ _=>au O (aF (eK.aq hb).2 O Az),fun _ _ hb _ _=>au O (b6 (eK.aq hb) O Az),Dr O,Dr O,fun _ _ hb _ _=>au O (aF (eK.aq hb).2 O Az),fun _ _ hb _ _=>au O (b6 (eK.aq hb) O Az),?_,fun _ _ _ _ _=>Dk O (by exact aK Value.bool (eP (by rw [B5,q2];rfl))),Dr O,Dr O,Dr O,Dr O,fun _ _ hb _ _=>au O (aF (eK.aq hb).2 O Az),fun _ _ hb _ _=>au O (b6 (eK.aq hb) O Az),Dr O,fun _ _ hb _ _=>au O (aF (nK.aq hb).2 O Az),fun _ _ hb _ _=>au O (bh (nK.aq hb) O Az),Dr O,Dr O,fun _ _ hb _ _=>au O (aF (eK.aq hb).2 O Az),fun _ _ hb _ _=>au O (b6 (eK.aq hb) O Az),Dr O,fun _ _ hb _ _=>au O (aF (mM.aq hb).2 O Az),fun _ _ hb _ _=>au O (bh (mM.aq hb) O Az),Dr O,Dr O,av⟩;intro e1 w1 hb hp aY;refine au O (aL (NN (rg fk a).a (rg fk b).a (rg fk a).n (rg fk a).c (rg fk b).n (rg fk b).c (gl fl a) (gl fl b) _ (nK.aq hb) (mM.aq hb) (by omega) (by omega)) O ?_);rintro _ w2 ⟨rfl,ax⟩;refine ao.n ?_;exact iB.dn ax.below (by exact O)
     intro u w9 mG _;have hS:=hS.aq mG;refine fh O (aR _ O (fun h4=>?_) (fun h4=>?_))
     ·have rV:=rV ⟨q1,q2,h4⟩;refine aG O (dV hS O O O ?_);intro A9 dQ bO;refine fp 1 bO O (bO.bF 0 O) O O O ?_;intro AZ cZ eI dB;have dB:=dB.tail;refine ar O (aJ O (aT O (tQ ?_)));refine⟨(b+1,AZ,cZ),by show N - (b+1)<N - b;omega,⟨O,O,O,O,O,?_,O,O,av⟩,by show b+1<=N;omega,?_⟩
      ·show Value.slice _ _ _=Value.slice _ _ _;rw [rV,dI];rfl
      show St w eI (az _ AZ (mQ n fl i a (b+1)).length cZ _::_);rw [rV,dI];exact dB
     have tR:=tR (fun h=>h4 h.2.2);refine aG O (aJ O (aT O (tQ ?_)));exact⟨(b+1,Ab,cb),by show N - (b+1)<N - b;omega,⟨O,O,O,O,O,aK (fun L:ai=>Value.slice Ab L.length cb) tR.symm,O,O,av⟩,by show b+1<=N;omega,by show St w w9 (az _ Ab (mQ n fl i a (b+1)).length cb _::_);rw [tR];exact hS⟩
    refine cM O ?_;refine eB [xI ((a:Int)),xI ((b:Int)),xB (decide (¬((a:Int))=((b:Int)))),xB (true),xS (F) (N) (cF),xI ((a:Int)),xP (aB (F) ((a:Int)).toNat),xS ((rg (fk) ((a:Int))).a) ((rg (fk) ((a:Int))).n) ((rg (fk) ((a:Int))).c),xS (F) (N) (cF),xI ((b:Int)),xP (aB (F) ((b:Int)).toNat),xS ((rg (fk) ((b:Int))).a) ((rg (fk) ((b:Int))).n) ((rg (fk) ((b:Int))).c),xI (((pH (gl fl a) (gl fl b) (rg fk a).n:Nat):Int)),xB (false),xB (false),xB (false),xU,xU,xU,xU,xU,xU,xU,xU,xU,xU,xU,xU,xU,xU,xU,xB (false)] O (eQ O) ?_ ?_
    ·refine⟨Dr O,Dr O,Dr O,fun _ _ _ _ _=>Dk O (by exact aK Value.bool (eP (by omega))),Dr O,Dr O,fun _ _ hb _ _=>au O (aF (eK.aq hb).2 O Az),fun _ _ hb _ _=>au O (b6 (eK.aq hb) O Az),Dr O,Dr O,fun _ _ hb _ _=>au O (aF (eK.aq hb).2 O Az),fun _ _ hb _ _=>au O (b6 (eK.aq hb) O Az),?_,fun _ _ _ _ _=>Dk O (by exact aK Value.bool (dk (by rw [B5];omega))),Dr O,Dr O,Dr O,Dr O,Dr O,Dr O,Dr O,Dr O,Dr O,Dr O,Dr O,Dr O,Dr O,Dr O,Dr O,Dr O,Dr O,Dr O,av⟩;intro e1 w1 hb hp aY;refine au O (aL (NN (rg fk a).a (rg fk b).a (rg fk a).n (rg fk a).c (rg fk b).n (rg fk b).c (gl fl a) (gl fl b) _ (nK.aq hb) (mM.aq hb) (by omega) (by omega)) O ?_);rintro _ w2 ⟨rfl,ax⟩;refine ao.n ?_;exact iB.dn ax.below (by exact O)
    intro u w9 mG _;have hS:=hS.aq mG;refine fh O (Cd.gq O ?_);have tR:=tR (fun h=>q2 h.2.1);refine aG O (aJ O (aT O (tQ ?_)));exact⟨(b+1,Ab,cb),by show N - (b+1)<N - b;omega,⟨O,O,O,O,O,aK (fun L:ai=>Value.slice Ab L.length cb) tR.symm,O,O,av⟩,by show b+1<=N;omega,by show St w w9 (az _ Ab (mQ n fl i a (b+1)).length cb _::_);rw [tR];exact hS⟩
   have qv:b=fl.length:=by omega
   subst qv;rw [<-agy]at hS|-;refine bw O (bA (dh O (aJ O (aT O (tQ ?_)))));exact⟨(a+1,Ab,cb),by show N - (a+1)<N - a;omega,(alH O),by show a+1<=N;omega,hS⟩
  have uO:a=fl.length:=by omega
  subst uO;have kW:=Vy (n:=n) (i:=i) (a:=fl.length) (b:=0) (show 0<=fl.length by omega);have DU:fl.length*fl.length<=400*400:=Nat.mul_le_mul (by omega) (by omega);rw [agw]at hS kW|-;have rT:=Vr n fl i;refine bw O (bA (dh O ?_));refine aW (hS.rd 1 O) O (alw (j:=0) (hS.rd 1 O) O O O O O (ar O (mr hS O O O ?_)));intro A9 w8 bL;refine oe 5 bL O (bL.ie 0 O) O O O (by omega) (by omega) O fun AZ cZ w9 a7=>aW (a7.rd 2 O) O (ka 2 (j:=0) a7 O O O O O ?_);intro dQ bO;have bO:=bO.tail;have bO:=bO.perm (ahc _ _ _ _ _ _);refine ar O (aJ O (aT O (tQ ?_)));refine⟨(i+1,(AZ,cZ),jt++ [⟨Ab,(vX n fl i).length,cb⟩]),by show n - (i+1)<n - i;omega,(alH O),by show i+1<=n;omega,by show(jt++ [_]).length=i+1;rw [dI,mN];rfl,?_⟩;show St w dQ (kI A5 AZ (i+1) cZ::kI A4 none 0 0::Bx 34 3 A2 [ak n,.slice A a1 cA,.slice D d1 cD]::(aO 32 2 AZ (i+1) cZ (jt++ [_]) (oG n fl (i+1))++ []));rw [rT];unfold aO;rw [wa (by rw [mN,Vq])];exact bO
 obtain rfl:i=n:=by omega
 refine bw O (bA (dh O ?_));refine alC 0 (hS.rd 0 O) O (bW 1 1 hS O O O O O O O ?_);intro w6 aZ;refine bM O (ko O (aZ.rd 1 O) ?_);exact⟨Am,cm,jt,O,mN,aZ.sub (show List.Sublist _ (_::_::_::_) from((fE _).cons _ |>.cons _ |>.cons _))⟩
abbrev D9(A6:aj)(N:Nat)(mv:ai)(g:Nat)(L:List (ByteArray×Int))(A3 A2 Am:aj)(i cm:Nat)(jt:List aQ)(T:ah):List Ck:=
 az 2 A6 N N mv::lZ 138 g (kJ Value.string (Value.int .i64) L)::kI A3 Am i cm::kI A2 none 0 0::(aO 32 2 Am i cm jt T++ [])
theorem ahe{α:Type}(b m q1 q2:α)(X:List α):(b::q1::q2::m::(X++ [])).Perm (q1::q2::m::((X++ [b])++ [])):=by
 classical
 refine nC.2 fun z=>?_
 simp only [qk,mV,ql];omega
theorem af7(n:Nat)(F:aj)(N cF:Nat)(fk:List aQ)(fl:ah)(w:aa)(hT:na w)(hF:bz w F N fk fl)(hl:∀x∈fl,x.length=n/\∀e∈x,0<=e/\e<=1000)(Dt:jN n fl)(hN:0<N/\N<=400)(TL:n<=1000):
 aN prog 90 [.slice F N cF] w (fun v w'=>∃A' c' rs',v= .agg #[.slice A' n c']/\rs'.length=n/\St w w' (aO 32 2 A' n c' rs' (bZ n fl)++ [])):=by
 have iw:fl.length=N:=hF.len;have vM:∀x∈fl,x.length=n:=fun x hx=> (hl x hx).1
 refine bI func90 O ntmps90 O (pq O O) (bc O (gD (St.refl w) O ?_));intro A2 w1 aE;refine ar O (gD aE O ?_);intro A3 w2 aD;have aD:St w w2 (kI A3 none 0 0::kI A2 none 0 0::(aO 32 2 none 0 0 [] (oG n fl 0)++ [])):=(aD.nil 32).perm (List.perm_append_singleton _ _).symm;clear aE;have o5:=aD.bS hF;have Sc:=o5.at_ (i:=(0:Int)) (by omega) (by omega);have qx:(rg fk (0:Int)).n=n:=by rw [<-Sc.1];exact vM _ (by rw [show(0:Int)=((0:Nat):Int) from O,cK (by omega)];exact dH _)
 refine ar O (aF o5.top.2 O ?_);refine alx o5.top O (by show(0:Int).toNat<N;exact hN.1) O O ?_;refine bk O O (aI O ?_);refine Cd.loop (α:=Nat×(aj×Nat)×List aQ) (fun z=> [(0,.slice F N cF),(2,.pointer A2),(3,.pointer A3),(16,ak n),(17,ak (z.1:Int))]) (fun z w'=>z.1<=n/\z.2.2.length=z.1/\St w w' (kI A3 z.2.1.1 z.1 z.2.1.2::kI A2 none 0 0::(aO 32 2 z.2.1.1 z.1 z.2.1.2 z.2.2 (oG n fl z.1)++ []))) (fun z=>n - z.1) (0,(none,0),[]) ⟨O,O,O,aK (fun m:Nat=>Value.int .i64 (m:Int)) qx,O,av⟩ ⟨bm _,O,aD⟩ ?_;clear aD o5 Sc;rintro⟨i,⟨Am,cm⟩,jt⟩ e w5 ⟨hi,mN,hS⟩;dsimp only at hi mN hS|-;refine b8 O (aR _ O (fun h1=>?_) (fun h1=>?_))
 ·have db:i<n:=by omega
  refine aG O (Kk hS O ?_);intro g w6 aZ;refine ar O (bk O O ?_);refine zh N aZ O O ⟨by omega,by omega⟩ ?_;intro A6 w7 a6;have a6:St w w7 (D9 A6 N (nP n fl i 0) g [] A3 A2 Am i cm jt (oG n fl i)):=by
   have e0:=agA (n:=n) (fl:=fl) (i:=i);rw [iw]at e0;rw [e0];exact a6
  clear aZ hS;refine ar O (bk O O (aI O ?_));refine Cd.loop (α:=Nat×List (ByteArray×Int)) (fun z=> [(0,.slice F N cF),(2,.pointer A2),(3,.pointer A3),(4,ak i),(5,.map (some g)),(6,.slice A6 N N),(16,ak n),(17,ak i),(24,.slice F N cF),(25,ak N),(26,ak (z.1:Int))]) (fun z w'=>z.1<=N/\um n fl i z.1 z.2/\St w w' (D9 A6 N (nP n fl i z.1) g z.2 A3 A2 Am i cm jt (oG n fl i))) (fun z=>N - z.1) (0,[]) (alH O) ⟨bm _,um.zero,a6⟩ ?_;clear a6;rintro⟨f,L⟩ e1 w8 ⟨hf,Ir,hS⟩;dsimp only at hf Ir hS|-;refine b8 O (aR _ O (fun h2=>?_) (fun h2=>?_))
  ·have kE:f<fl.length:=by omega
   have zB:=hS.bS hF;have yo:=zB.at_ (i:=(f:Int)) (by omega) (by omega);have hmf:gl fl f∈fl:=by rw [cK kE];exact dH _
   have F7:=hl _ hmf;have Ga:(rg fk f).n=n:=by rw [<-yo.1];exact F7.1
   have FM:=Ir.at_ kE;have sR:=Dt.lt kE db;have hmvl:=agD (n:=n) (fl:=fl) (i:=i) (f:=f);refine aG O (aF zB.top.2 O (b6 zB.top O (ar O (aL (Hh _ _ _ (gl fl f) _ yo (by omega)) O ?_))));rintro _ w9 ⟨A9,c9,rfl,ax⟩;have a7:=hS.call ax;clear hS ax zB yo;rw [Ga]at a7|-;have a7:St w w9 (az 2 A9 n c9 (gl fl f)::D9 A6 N (nP n fl i f) g L A3 A2 Am i cm jt (oG n fl i)):=a7;refine ar O (aF (a7.rd 0 O) O (lu 0 (i:=(i:Int)) a7 O O O (by omega) ?_));intro dQ bO;have bO:St w dQ (az 2 A9 n c9 (jk (gl fl f) i)::D9 A6 N (nP n fl i f) g L A3 A2 Am i cm jt (oG n fl i)):=bO;refine ar O ?_;refine als (NI A9 n c9 (jk (gl fl f) i) _ (hT.aq bO.below) (bO.bF 0 O) (fun x hx=>by
    rcases List.mem_or_eq_of_mem_set hx with hx | rfl
    ·have:=F7.2 x hx;omega
    omega) (by omega)) rfl rfl rfl ?_
   rintro _ eI ⟨rfl,ax⟩;have dB:=bO.tail.aq ax.below;clear a7 bO ax;refine ar O (Yk UU (rZ (jk (gl fl f) i)) (dB.JM 1 O) O O O ?_);rw [FM]
   by_cases hp:fz n fl i f<f
   ·rw [ay hp];have acY:=agC Dt db kE hp;refine aI O (Cd.im O (aG O (aF (dB.rd 0 O) O (lu 0 (i:=(f:Int)) dB O O O (by omega) ?_))));intro gL fB;refine alp (fB.rd 0 O) O O O (by show(0:Int)<=(fz n fl i f:Int);omega) (by show(fz n fl i f:Int)< (N:Int);omega) ?_;refine lu 0 (i:=(fz n fl i f:Int)) fB O O O (by omega) fun gC gA=>ar O (aJ O (aT O (tQ ?_)));refine⟨(f+1,L),by show N - (f+1)<N - f;omega,(alH O),by show f+1<=N;omega,Ir.IU Dt db kE hp,?_⟩;show St w gC (D9 A6 N (nP n fl i (f+1)) g L A3 A2 Am i cm jt (oG n fl i));rw [acY];exact gA
   rw [aw hp];have adh:=agE Dt db kE hp;refine aI O (Cd.gq O (aG O (Kl O UU 1 (u:=(f:Int)) (a:=rZ (jk (gl fl f) i)) (vv:=Value.int .i64) dB O O O O ?_)));intro gL fB;refine ar O (aJ O (aT O (tQ ?_)));refine⟨(f+1,km L (rZ (jk (gl fl f) i)) (f:Int)),by show N - (f+1)<N - f;omega,(alH O),by show f+1<=N;omega,Ir.agh Dt vM db kE hp,?_⟩;show St w gL (D9 A6 N (nP n fl i (f+1)) g _ A3 A2 Am i cm jt (oG n fl i));rw [adh];exact fB
  have zM:f=fl.length:=by omega
  subst zM;rw [agB Dt db]at hS;have rT:=Vr n fl i;have hS:St w w8 (az 2 A6 N N (vX n fl i)::kI A3 Am i cm::kI A2 none 0 0::(aO 32 2 Am i cm jt (oG n fl i)++ [])):=hS.sub ((fE _).cons _ |>.cons_cons _);refine bw O (bA (dh O ?_));refine aW (hS.rd 1 O) O (alw (j:=0) (hS.rd 1 O) O O O O O (ar O (mr hS O O O ?_)));intro A9 w9 a7;refine oe 4 a7 O (a7.ie 0 O) O O O (by omega) (by omega) O fun AZ cZ dQ bO=>aW (bO.rd 2 O) O (ka 2 (j:=0) bO O O O O O ?_);intro eI dB;have dB:=dB.tail;have dB:=dB.perm (ahe _ _ _ _ _);refine ar O (aJ O (aT O (tQ ?_)));refine⟨(i+1,(AZ,cZ),jt++ [⟨A6,N,N⟩]),by show n - (i+1)<n - i;omega,(alH O),by show i+1<=n;omega,by show(jt++ [_]).length=i+1;rw [dI,mN];rfl,?_⟩;show St w eI (kI A3 AZ (i+1) cZ::kI A2 none 0 0::(aO 32 2 AZ (i+1) cZ (jt++ [_]) (oG n fl (i+1))++ []));rw [rT];unfold aO;rw [wa (by rw [mN,Vq])];exact dB
 obtain rfl:i=n:=by omega
 refine bw O (bA (dh O ?_));refine alC 0 (hS.rd 0 O) O (bW 1 1 hS O O O O O O O ?_);intro w6 aZ;refine bM O (ko O (aZ.rd 1 O) ?_);exact⟨Am,cm,jt,O,mN,aZ.sub (show List.Sublist _ (_::_::_) from((fE _).cons _ |>.cons _))⟩
noncomputable def yz(n:Nat)(R:ai)(B:ah):Int:=rM n R B
noncomputable def vY(n:Nat)(R:ai)(B:ah):ah:=if rM n R B=0 then bZ n (aC n R B)else []
theorem Aw{n:Nat}{R:ai}{B:ah}(h:(aC n R B).length<=400):rM n R B=0/\xL n R B=aC n R B/\vY n R B=bZ n (aC n R B):=by
 have e:rM n R B=0:=by unfold rM;rw [if_pos h]
 refine⟨e,by unfold xL;rw [if_pos h],by unfold vY;rw [if_pos e]⟩
theorem Jz{n:Nat}{R:ai}{B:ah}(h:¬(aC n R B).length<=400):rM n R B=3/\vY n R B=[]:=by
 have e:rM n R B=3:=by unfold rM;rw [if_neg h]
 exact⟨e,by unfold vY;rw [if_neg (by rw [e];decide)]⟩
theorem RB{n:Nat}{R:ai}{B:ah}(hP:gE n R B):∀x∈aC n R B,x.length=n/\∀e∈x,0<=e/\e<=1000:=fun x hx=>by
 have hn:=hP.n1;have hb:=hP.oV;have h:=(nh (by omega)).1 hx;refine⟨h.1,fun e he=>?_⟩;obtain⟨k,hk,rfl⟩:=fV.1 he;have:=(h.2.1 k (by omega)).1;rw [cd hk]at this;omega
theorem V3(n:Nat)(A D:aj)(cA cD:Nat)(R:ai)(rs:List aQ)(B:ah)(w:aa)(hT:na w)(hR:di w A R.length R)(hB:bz w D B.length rs B)(hP:gE n R B)(hD:th n R B)(bt:aC n R B≠[]):
 aN prog 116 [.agg #[ak n,.slice A R.length cA,.slice D B.length cD],ak 0] w (mo (vY n R B) (yz n R B) w):=by
 have hn:=hP.n1;refine bI func116 O ntmps116 O (sg O O) (bc O (mW (St.refl w) O O ?_));intro A2 w1 aE;refine gD aE O fun A4 w2 aD=>aI O (oM O (fun h=>h O) (aG O (alC 2 (aD.rd 1 O) O (aL (Rv n A D cA cD R rs B _ (aD.gH hR) (aD.bS hB) hP) O ?_))));rintro _ w3 ⟨AF,cF,fk,rfl,DS,ax⟩;have lD:=Rd.below (aD.rd 0 O) ax.below
 by_cases hf:(aC n R B).length<=400
 ·obtain⟨e1,e2,e3⟩:=Aw hf;have e4:yz n R B=0:=e1;rw [e2]at ax|-;rw [e1,e3,e4];rw [e2]at DS;have hF:bz w3 AF (aC n R B).length fk (aC n R B):=ax.gj O;have aM:=aD.aq ax.below;refine aI O (Cd.gq O (aG O ?_));have hT3:=hT.aq aM.below;refine aL (af7 n AF _ cF fk _ _ hT3 hF (RB hP) (HY hP hD) ⟨List.length_pos_iff.2 bt,hf⟩ (by omega)) O ?_;rintro _ w4 ⟨Am,cm,jt,rfl,mN,rW⟩;have kW:=pk n (aC n R B);have aU:=(aM.call rW).perm ku;refine bW 1 0 aU O O O O O O O fun w5 aV=>bM O (jI O (aV.rd 0 O) O ?_);refine⟨Am,cm,jt,by rw [kW];rfl,by rw [kW];exact mN,?_⟩;rw [kW];have h9:=aV.sub (show List.Sublist _ (_::_::_) from((fE _).cons _ |>.cons _))
  rwa [eu]at h9
 obtain⟨e1,e3⟩:=Jz hf;have e4:yz n R B=3:=e1;rw [e1,e3,e4];have aM:=aD.aq ax.below;refine aI O (Cd.im O (aG O (wm (by exact inferInstance) O (ar O (bW 1 0 aM O O O O O O O ?_)))));intro w5 aV;refine bM O (jI O (aV.rd 0 O) O ?_);exact mo.none aV
noncomputable def mf(M K:ah)(kind:Int):Int:=if iU M K kind=0 then yz (gh M K kind) (jr M K kind) (pn M K kind)else iU M K kind
noncomputable def eH(M K:ah)(kind:Int):ah:=if iU M K kind=0 then vY (gh M K kind) (jr M K kind) (pn M K kind)else []
theorem GR{M K:ah}{kind:Int}(h:iU M K kind=0):lV M K kind=0/\gh M K kind<=5/\(jr M K kind).length<=500:=by
 unfold iU at h
 split at h
 ·rename_i h1;refine⟨h1,?_⟩
  by_cases h2:5<gh M K kind\/500< (jr M K kind).length
  ·rw [ay h2]at h;exact absurd h (by decide)
  omega
 contradiction
theorem Ol{M K:ah}{kind:Int}(h:iU M K kind=0):gE (gh M K kind:Nat) (jr M K kind) (pn M K kind)/\th (gh M K kind:Nat) (jr M K kind) (pn M K kind)/\aC (gh M K kind) (jr M K kind) (pn M K kind)≠[]:=by
 obtain⟨hp,h5,wH⟩:=GR h;obtain⟨nj,sL,sK⟩:=Cv hp;obtain⟨gr,gF⟩:=kf sL;obtain⟨l8,nF⟩:=kf sK;have l1:=pU gr gF.1;have l2:=pU l8 nF.1;have d1:=De (nQ gr gF.1) gF.2.2.2.2.1;have d2:=De (nQ l8 nF.1) nF.2.2.2.2.1;have c1:=C7 (nQ gr gF.1) gF.2.2.1;have c2:=C7 (nQ l8 nF.1) nF.2.2.1;rw [je]at d1 d2 c1 c2;have hk:=GL (kind:=kind) gr l8;have m1:=gr.1;have k1:=l8.1;have iS:2<=fT M.length K.length kind:=by unfold fT;split<;>omega
 have hl:(GK M K kind).length<=500:=by unfold jr at wH;rwa [List.length_map]at wH
 exact⟨Wf l1 l2 ⟨by omega,h5⟩ hl,Oq l1 l2 d1 d2 nj hk (by omega) ⟨by omega,.inl (by omega)⟩,Ot l1 l2 c1 c2 nj hk (by omega) ⟨by omega,.inl (by omega)⟩⟩
theorem St.agc{w0 w:aa}{Ab D AD:aj}{b d e f:Nat}{rs:List aQ}{B:ah}(h:St w0 w [kI Ab D e f])(h':St w0 w (aO 32 2 AD b d rs B)):St w0 w (kI Ab D e f::aO 32 2 AD b d rs B):=by
 have h':St w0 w (aO 32 2 AD b d rs B++ []):=by rw [eu];exact h'
 have:=h.merge h' (fun k hk=>by obtain rfl:=fm.1 hk;rfl) (fun k hk=> (N8 k hk).1) (fun k hk k' eM=>by
  obtain rfl:=fm.1 hk;rcases(N8 k' eM).2 with e | e
  ·rw [e];exact(by decide:¬(24=32))
  rw [e];exact(by decide:¬(24=2)))
 rwa [eu]at this
theorem V2(p:Int)(A D:aj)(a cA d cD:Nat)(K:Int)(hK:K≠0)(w:aa):
 aN prog 116 [.agg #[ak p,.slice A a cA,.slice D d cD],ak K] w (mo [] K w):=by
 refine bI func116 O ntmps116 O (sg O O) (bc O (mW (St.refl w) O O ?_));intro A2 w1 aE;refine gD aE O fun A4 w2 aD=>aI O (CK O hK (aG O (wm (by exact inferInstance) O (ar O (bW 1 0 aD O O O O O O O ?_)))));intro w3 aM;refine bM O (jI O (aM.rd 0 O) O ?_);exact mo.none aM
theorem V1(M K:ah)(kind:Int)(A D:aj)(cA cD:Nat)(rs:List aQ)(w:aa)(hT:na w)(hR:di w A (nT M K kind).length (nT M K kind))(hB:bz w D (nS M K kind).length rs (nS M K kind)):
 aN prog 116 [.agg #[ak (si M K kind),.slice A (nT M K kind).length cA,.slice D (nS M K kind).length cD],ak (iU M K kind)] w (mo (eH M K kind) (mf M K kind) w):=by
 unfold eH mf
 by_cases h:iU M K kind=0
 ·rw [ay h,ay h];have dK:=Ol h;have e1:si M K kind=(gh M K kind:Nat):=by unfold si;rw [if_pos h]
  have e2:nT M K kind=jr M K kind:=by unfold nT;rw [if_pos h]
  have e3:nS M K kind=pn M K kind:=by unfold nS;rw [if_pos h]
  rw [e1,h];rw [e2]at hR|-;rw [e3]at hB|-;exact V3 (gh M K kind) A D cA cD _ rs _ w hT hR hB dK.1 dK.2.1 dK.2.2
 rw [aw h,aw h];exact V2 _ A D _ cA _ cD _ h w
theorem NP(X8 Z8 Y8 W8:aj)(cx cz cy cw:Nat)(a1 a2 a3 a4:Nat)(n1 n2 kind:Int)(ok:Bool)(N:Int)(k:Nat)(R:ai)(B:ah)(w:aa)(I5:∀w',Below w.heap.size w w'->aN prog 103 [.agg #[ak n1,.slice X8 a1 cx,.slice Y8 a2 cy],.agg #[ak n2,.slice Z8 a3 cz,.slice W8 a4 cw],ak kind] w' (J9 N R B ok w'))(hQ:ok=true->N=(k:Int)/\gE k R B):
 aN prog 112 [.agg #[ak n1,.slice X8 a1 cx,.slice Y8 a2 cy],.agg #[ak n2,.slice Z8 a3 cz,.slice W8 a4 cw],ak kind] w (mo (if ok=true then vY k R B else []) (if ok=true then yz k R B else 3) w):=by
 refine bI func112 O ntmps112 O (sg O O) (bc O (mW (St.refl w) O O ?_));intro A3 w1 aE;refine mW aE O O fun A4 w2 aD=>gD aD O fun A6 w3 aM=>ar O (alC 2 (aM.rd 2 O) O (alC 2 (aM.rd 1 O) O (ar O (aL (I5 _ aM.below) O ?_))));rintro _ w4 ⟨AR,cR,AD,cD,bp,rfl,iK,ax⟩;have BC:=ax.bF 0 O;have Fq:bz w4 AD B.length bp B:=St.gj ax.tail O;have aU:=aM.aq ax.below;clear ax aM aD aE;refine ar O (kO (St.refl w4) O ?_);intro A8 w5 nG;refine bW 3 0 nG O O O O O O O ?_;intro w6 wJ;have aZ:=aU.aq wJ.below;have DA:=wJ.rd 0 O;have BC:=BC.aq wJ.below;have Fq:=Fq.aq wJ.below;cases ok
 ·refine ar O ?_
  first | refine eZ rfl rfl ?_ | refine fY rfl rfl ?_
  refine aI O (Cd.im O (aG O (wm (by exact inferInstance) O (bW 1 0 aZ O O O O O O O ?_))));intro w7 a6;refine bM O (jI O (a6.rd 0 O) O ?_);exact mo.none a6
 obtain⟨rfl,hP⟩:=hQ rfl;rw [ay rfl,ay rfl];have hn:=hP.n1;refine ar O ?_
 first | refine eZ rfl rfl ?_ | refine fY rfl rfl ?_
 refine aI O (Cd.gq O (aG O (alC 2 DA O (aL (U7 k AR AD cR cD R bp B _ BC Fq hP) O ?_))));rintro _ w7 ⟨AF,cF,fk,rfl,DS,ax⟩;have a6:=aZ.aq ax.below;have DA:=Rd.below DA ax.below
 by_cases hf:(aC k R B).length<=400
 ·obtain⟨e1,e2,e3⟩:=Aw hf;have e4:yz k R B=0:=e1;rw [KJ (HE.2 hf)]at ax DS|-;rw [e3,e4];have hF:bz w7 AF (aC k R B).length fk (aC k R B):=ax.gj O;refine ar O ?_
  first | refine eZ rfl rfl ?_ | refine fY rfl rfl ?_
  refine aI O (oM O (fun h=>h hf) (aG O (alC 2 DA O (ar O ?_))));refine aL (afs k AR AD AF _ cR _ cD _ cF fk _ _ hF (fun x hx=> (RB hP x hx).1) (xM k R B).nodup hf (by omega)) O ?_;rintro _ w8 ⟨Am,cm,jt,rfl,mN,adY⟩;have kW:=pk k (aC k R B);have bL:=a6.call2 adY;refine bW 1 0 bL O O O O O O O fun w9 a7=>bM O (jI O (a7.rd 0 O) O ?_);refine⟨Am,cm,jt,by rw [kW];rfl,by rw [kW];exact mN,?_⟩;rw [kW];have h9:=a7.sub (show List.Sublist _ (_::_::_::_) from((fE _).cons _ |>.cons _ |>.cons _))
  rwa [eu]at h9
 obtain⟨e1,e3⟩:=Jz hf;have e4:yz k R B=3:=e1;rw [e3,e4];refine ar O ?_
 first | refine eZ rfl rfl ?_ | refine fY rfl rfl ?_
 refine aI O (CK O hf (aG O (wm (by exact inferInstance) O (bW 1 0 a6 O O O O O O O ?_))));intro w8 bL;refine bM O (jI O (bL.rd 0 O) O ?_);exact mo.none bL
end
section
variable{M K:ah}{kind:Int}
theorem H6(h:ir M=0):uk (aH M M.length+2) (lg M) (qb M)/\mZ (kA (aH M M.length+2) (lg M)) (qb M)/\∃U,mT (kA (aH M M.length+2) (lg M)) (qb M) U/\cU U M.length 0=(gl M 0).length:=by
 obtain⟨hM,hG⟩:=kf h;have hP:=nQ hM hG.1;have hb:=aa1 hM;have rp:=Wr hP hb;have hs:=aiz hP hb hG.2.2.2.2.2;obtain⟨U,hU⟩:=rp.en fun e h0 h1=>by have:=(hP.ri h0 h1).2;omega
 have hl:=GA hP;have hf:=rp.flags hU (o:=0) ⟨⟨by omega,by omega⟩,by rw [hl.r0];rfl⟩ fun i a _=>hl.bot a
 have e:(fP M).length=(gl M 0).length:=hG.2.1;unfold fP at e;rw [e]at hf;rw [je]at hb hs hU;exact⟨hb,hs,U,hU,hf.symm⟩
def rL(M K:ah)(kind:Int):Nat:=(gl M 0).length* (gl K 0).length* (if kind=0 then kP (M.length+1) (K.length+1)else kP M.length K.length)
theorem GO(h:iU M K kind=0):zl (gh M K kind) (jr M K kind) (pn M K kind)/\(aC (gh M K kind) (jr M K kind) (pn M K kind)).length=rL M K kind:=by
 obtain⟨hp,h5,wH⟩:=GR h;obtain⟨nj,sL,sK⟩:=Cv hp;obtain⟨gr,gF⟩:=kf sL;obtain⟨l8,nF⟩:=kf sK;have l1:=pU gr gF.1;have l2:=pU l8 nF.1;have d1:=De (nQ gr gF.1) gF.2.2.2.2.1;have d2:=De (nQ l8 nF.1) nF.2.2.2.2.1;have c1:=C7 (nQ gr gF.1) gF.2.2.1;have c2:=C7 (nQ l8 nF.1) nF.2.2.1;rw [je]at d1 d2 c1 c2;have hk:=GL (kind:=kind) gr l8;have m1:=gr.1;have k1:=l8.1;have iS:2<=fT M.length K.length kind:=by unfold fT;split<;>omega
 obtain⟨b1,s1,U1,e1,f1⟩:=H6 sL;obtain⟨b2,s2,U2,e2,f2⟩:=H6 sK;refine⟨We l1 l2 b1 b2 s1 s2 d1 d2 c1 c2 nj hk (by omega) ⟨by omega,.inl (by omega)⟩,?_⟩;have:=Wd l1 l2 b1 b2 e1 e2 nj hk (by omega);rw [f1,f2]at this;exact this
theorem On(h:iU M K kind=0)(hf:rL M K kind<=400):fF (gh M K kind) (jr M K kind) (pn M K kind):=by
 have hq:=GO h;exact⟨(Ol h).1,hq.1,(GR h).2.1,by rw [hq.2];exact hf⟩
theorem V0(h:iU M K kind=0)(hf:rL M K kind<=400):ir (eH M K kind)=0/\(eH M K kind).length=gh M K kind/\(gl (eH M K kind) 0).length=rL M K kind/\aH (eH M K kind) (eH M K kind).length=(jr M K kind).length:=by
 have hY:=On h hf;have hq:=GO h;have e:eH M K kind=bZ (gh M K kind) (aC (gh M K kind) (jr M K kind) (pn M K kind)):=by
  unfold eH;rw [if_pos h];exact(Aw (by rw [hq.2];exact hf)).2.2
 rw [e];refine⟨hY.gd,hY.len,by rw [hY.nl,hq.2],by rw [hY.len,hY.VN]⟩
theorem ahs{m1 m2:Nat}{rk1 rk2:Int->Int}(k:Nat):(cg m1 m2 rk1 rk2 kind k).length<=m1*m2:=by
 have hm:∀c∈cg m1 m2 rk1 rk2 kind k,(0<=c.1/\c.1< (m1:Int))/\(0<=c.2/\c.2< (m2:Int)):=fun c hc=>by
  obtain⟨i,_,h1,h2,_⟩:=ru.1 hc;exact⟨h1,h2⟩
 have hn:=Cw (m1:=m1) (m2:=m2) (rk1:=rk1) (rk2:=rk2) (kind:=kind) k;generalize cg m1 m2 rk1 rk2 kind k=L at hm hn;have h1:(L.map fun c=>c.1* (m2:Int)+c.2).Nodup:=Cn hn fun x hx y hy e=>by
  have hx:=hm x hx;have hy:=hm y hy;have e:x.1* (m2:Int)+x.2=y.1* (m2:Int)+y.2:=e;have e3:x.1=y.1:=by
   have a:(x.1* (m2:Int)+x.2) / (m2:Int)=(y.1* (m2:Int)+y.2) / (m2:Int):=by rw [e]
   rwa [Int.add_comm,Int.add_mul_ediv_right _ _ (by omega),Int.add_comm (y.1*_),Int.add_mul_ediv_right _ _ (by omega),Int.ediv_eq_zero_of_lt hx.2.1 hx.2.2,Int.ediv_eq_zero_of_lt hy.2.1 hy.2.2,Int.zero_add,Int.zero_add]at a
  rw [e3]at e;exact Prod.ext e3 (by omega)
 have:=qA (N:=m1*m2) h1 fun v hv=>by
  obtain⟨c,hc,rfl⟩:=dv.1 hv;have hc:=hm c hc;have h3:0<=c.1* (m2:Int):=Int.mul_nonneg hc.1.1 (by omega);have h4:c.1* (m2:Int)<=((m1:Int) - 1)* (m2:Int):=Int.mul_le_mul_of_nonneg_right (by omega) (by omega);rw [Int.sub_mul,Int.one_mul]at h4;have h5:((m1*m2:Nat):Int)=(m1:Int)* (m2:Int):=Int.natCast_mul m1 m2;exact⟨by omega,by omega⟩
 rwa [fj]at this
def qa:Nat->(Nat->Int)->Int
 | 0,_=>0
 | n+1,g=>qa n g+g n
theorem Er{g h:Nat->Int}:∀ {n:Nat},(∀i,i<n->g i=h i)->qa n g=qa n h
 | 0,_=>rfl
 | n+1,H=>by unfold qa;rw [Er (n:=n) fun i hi=>H i (by omega),H n (by omega)]
theorem OP(g h:Nat->Int):∀n:Nat,qa n (fun i=>g i+h i)=qa n g+qa n h
 | 0=>rfl
 | n+1=>by show qa n (fun i=>g i+h i)+ (g n+h n)=(qa n g+g n)+ (qa n h+h n);rw [OP g h n];omega
theorem OQ:∀n:Nat,qa n (fun _=>0)=0
 | 0=>rfl
 | n+1=>by unfold qa;rw [OQ n];rfl
theorem JX{t:Nat}(x:Int):∀ {P:Nat},t<P->qa P (fun i=>if t=i then x else 0)=x
 | 0,h=>absurd h (jM _)
 | P+1,h=>by
  show qa P (fun i=>if t=i then x else 0)+ (if t=P then x else 0)=x
  by_cases e:t=P
  ·rw [ay e,Er (h:=fun _=>0) fun i hi=>aw (by omega),OQ];omega
  ·rw [aw e,JX x (P:=P) (by omega)];omega
theorem WV{α:Type}(f:α->Nat):∀l:List α,(((l.map f).sum:Nat):Int)=(l.map fun a=> (f a:Int)).sum
 | []=>rfl
 | a::r=>by
  rw [List.map_cons,List.sum_cons,List.map_cons,List.sum_cons,<-WV f r];omega
theorem WU{k:Int->Nat}{P:Nat}{ok:Int->Bool}(g:Nat->Int):∀ {l:ai},(∀a∈l,k a<P)->(l.map fun a=>if ok a=true then g (k a)else 0).sum=qa P fun t=> ((l.filter fun a=>decide (k a=t) && ok a).length:Int)*g t
 | [],_=>by
  rw [Er (h:=fun _=>0) fun i _=>by simp,OQ];rfl
 | a::r,h=>by
  have ih:=WU (ok:=ok) g (l:=r) fun b hb=>h b (pC _ hb)
  rw [List.map_cons,List.sum_cons,ih];have e:∀t:Nat,(((a::r).filter fun a=>decide (k a=t) && ok a).length:Int)*g t=(if k a=t then(if ok a=true then g (k a)else 0)else 0)+ ((r.filter fun a=>decide (k a=t) && ok a).length:Int)*g t:=fun t=>by
   by_cases h1:k a=t
   ·by_cases h2:ok a=true
    ·rw [ur (by simp [h1,h2]),ay h1,ay h2,List.length_cons,h1,Int.natCast_add,Int.add_mul];simp;omega
    ·rw [rC (by simp [h2]),ay h1,aw h2];omega
   ·rw [rC (by simp [h1]),aw h1];omega
  rw [Er fun t _=>e t,OP,JX _ (h a (by simp))]
theorem ail(R:ai):(bN R.length).map (gi R)=R:=by
 apply jX (by simp [bN]);intro i h1 h2;simp only [bN,List.getElem_map,List.getElem_range];exact cd h2
theorem Wz(R:ai)(i:Int):(mh R i).length=(R.filter fun x=>decide (x=i)).length:=by
 have h:=aK (fun l=> (l.filter fun x=>decide (x=i)).length) (ail R);simp only [List.filter_map,fj]at h;exact h
theorem RI(M:ah)(i:Nat):∀n:Nat,((bn M n).filter fun x=>decide (x=(i:Int))).length=if i<n then(fA M i).toNat else 0
 | 0=>rfl
 | n+1=>by
  rw [bn,oR,dI,RI M i n]
  by_cases e:i=n
  ·subst e;rw [aw (Nat.lt_irrefl _),ay (Nat.lt_succ_self _),List.filter_eq_self.2 fun x hx=>by rw [(List.mem_replicate.1 hx).2];simp,List.length_replicate,Nat.zero_add]
  ·rw [List.filter_eq_nil_iff.2 fun x hx=>by rw [(List.mem_replicate.1 hx).2];simp;omega]
   by_cases h:i<n
   ·rw [ay h,ay (by omega)];rfl
   ·rw [aw h,aw (by omega)];rfl
theorem RH(M:ah){i n:Nat}(h:i<n):((mh (bn M n) i).length:Int)=fA M i:=by
 rw [Wz,RI,ay h];have:=(vo M i).1;omega
section
variable {m1 m2:Nat} {rk1 rk2:Int->Int} {kind:Int}
theorem V9(i:Nat):∀k:Nat,i<k->((cg m1 m2 rk1 rk2 kind k).filter fun c=>decide (cS rk1 rk2 kind c=(i:Int)))=v7 m1 m2 rk1 rk2 kind (i:Int)
 | 0,h=>absurd h (jM _)
 | k+1,h=>by
  rw [cg,oR]
  by_cases e:i=k
  ·subst e;rw [List.filter_eq_nil_iff.2 fun c hc=>by
    obtain⟨j,hj,hE⟩:=ru.1 hc;rw [hE.2.2.1];simp;omega,List.nil_append,List.filter_eq_self.2 fun c hc=>by rw [(xh.1 hc).2.2.1];simp]
  ·rw [V9 i k (by omega),List.filter_eq_nil_iff.2 fun c hc=>by rw [(xh.1 hc).2.2.1];simp;omega,eu]
theorem ahw{i k:Nat}(h:i<k):(mh ((cg m1 m2 rk1 rk2 kind k).map (cS rk1 rk2 kind)) i).length=(v7 m1 m2 rk1 rk2 kind (i:Int)).length:=by
 rw [Wz,List.filter_map,fj,<-V9 i k h]
 rfl
def cE(m:Nat)(k:Int->Nat)(ok:Int->Bool)(t:Nat):Nat:=((bN m).filter fun a=>decide (k a=t) && ok a).length
theorem aht{ok1 ok2:Int->Bool}{k1 k2:Int->Nat}{P s:Nat}{i:Int}(hk:∀a:Int,0<=a->a<m1->k1 a<P)(h:∀a b:Int,0<=a->a<m1->0<=b->b<m2->((cS rk1 rk2 kind (a,b)=i/\¬qh m1 m2 kind (a,b))↔(ok1 a=true/\ok2 b=true/\k1 a+k2 b=s))):((v7 m1 m2 rk1 rk2 kind i).length:Int)=qa P fun t=> (cE m1 k1 ok1 t:Int)* (if t<=s then(cE m2 k2 ok2 (s - t):Int)else 0):=by
 unfold v7;have hsb:=WU (k:=k1) (P:=P) (ok:=ok1) (fun t=>if t<=s then(cE m2 k2 ok2 (s - t):Int)else 0) (l:=bN m1) fun a ha=>by
  have:=(fM _ _).1 ha;exact hk a this.1 this.2
 refine Eq.trans ?_ hsb;rw [List.length_flatMap,WV];refine aK List.sum (pB fun a ha=>?_);have ha:=(fM _ _).1 ha;rw [fj]
 by_cases h1:ok1 a=true
 ·rw [ay h1]
  by_cases h2:k1 a<=s
  ·rw [ay h2];unfold cE
   congr 2
   refine List.filter_congr fun b hb=>?_
   have hb:=(fM _ _).1 hb;have:=h a b ha.1 ha.2 hb.1 hb.2;rw [Bool.eq_iff_iff,decide_eq_true_iff,Bool.and_eq_true,decide_eq_true_iff,this];constructor
   ·rintro⟨_,q1,q2⟩;exact⟨by omega,q1⟩
   rintro⟨q1,q2⟩;exact⟨h1,q2,by omega⟩
  rw [aw h2,List.filter_eq_nil_iff.2 fun b hb hd=>by
   have hb:=(fM _ _).1 hb;have:=(h a b ha.1 ha.2 hb.1 hb.2).1 (tX hd);omega]
  rfl
 rw [aw h1,List.filter_eq_nil_iff.2 fun b hb hd=>by
  have hb:=(fM _ _).1 hb;have:=(h a b ha.1 ha.2 hb.1 hb.2).1 (tX hd);exact h1 this.1]
 rfl
end
def vk(n:Nat)(R:ai):ai:=(List.range n).map fun i:Nat=> ((mh R i).length:Int)
theorem HJ(n:Nat)(R:ai):(vk n R).length=n:=by simp [vk]
theorem ZH{n:Nat}{R:ai}{i:Nat}(h:i<n):gi (vk n R) i=((mh R i).length:Int):=by
 rw [cd (by rw [HJ];exact h)];simp [vk]
def zz(n:Nat)(R:ai):ai:=1::(vk n R++ [1])
def HZ(kind:Int)(n:Nat)(R:ai):ai:=if kind=1 then(zz n R).set 0 0 else if kind=2 then(zz n R).set (n+1) 0 else zz n R
def rq(kind:Int)(N:Nat)(a:Int):Bool:= !(decide (kind=1/\a=0) || decide (kind=2/\a=(N:Int)+1))
theorem aik(N:Nat):bN (N+2)=0::((bN N).map (· +1)++ [(N:Int)+1]):=by
 apply jX (by simp [bN]);intro i h1 h2;simp only [yN]at h1;have e:(bN (N+2))[i]'(by rw [yN];exact h1)=(i:Int):=by simp [bN]
 rw [e]
 by_cases h0:i=0
 ·subst h0;rfl
 obtain⟨j,rfl⟩:∃j,i=j+1:=⟨i - 1,by omega⟩;rw [List.getElem_cons_succ]
 by_cases hj:j<N
 ·rw [List.getElem_append_left (by simp [bN];exact hj)];simp [bN]
 rw [List.getElem_append_right (by simp [bN];omega)];simp;omega
theorem Ln(n:Nat)(R:ai)(t:Nat):(zz n R).getD t 0=if t=0 then 1 else if t<=n then((mh R ((t:Int) - 1)).length:Int)else if t=n+1 then 1 else 0:=by
 unfold zz
 by_cases h0:t=0
 ·subst h0;rfl
 obtain⟨j,rfl⟩:∃j,t=j+1:=⟨t - 1,by omega⟩;rw [aw h0,List.getD_cons_succ,dd];have e:((j+1:Nat):Int) - 1=(j:Int):=by omega
 rw [e]
 by_cases hj:j<n
 ·rw [ay (by omega),mq (by rw [HJ];exact hj),<-dd];exact ZH hj
 rw [aw (by omega),kN (by rw [HJ];omega),HJ]
 by_cases h1:j=n
 ·subst h1;simp
 rw [aw (by omega),qm (by simp;omega)];rfl
theorem RT(l:ai)(i t:Nat):(l.set i 0).getD t 0=if i=t then 0 else l.getD t 0:=by
 rw [dd,pA,dd]
 by_cases h:i=t
 ·rw [ay h,ay h];split<;>rfl
 rw [aw h,aw h]
theorem aaK(kind:Int)(n:Nat)(R:ai)(t:Nat):(HZ kind n R).getD t 0=if(kind=1/\t=0)\/(kind=2/\t=n+1)then 0 else(zz n R).getD t 0:=by
 unfold HZ
 by_cases h1:kind=1
 ·rw [ay h1,RT]
  by_cases h:t=0
  ·rw [ay h.symm,ay (.inl ⟨h1,h⟩)]
  rw [aw (fun e=>h e.symm),aw (by omega)]
 rw [aw h1]
 by_cases h2:kind=2
 ·rw [ay h2,RT]
  by_cases h:t=n+1
  ·rw [ay h.symm,ay (.inr ⟨h2,h⟩)]
  rw [aw (fun e=>h e.symm),aw (by omega)]
 rw [aw h2,aw (by omega)]
theorem aaL{n:Nat}{R:ai}(hR:∀e:Int,0<=e->e<R.length->0<=gi R e/\gi R e<n)(kind:Int)(t:Nat):(HZ kind n R).getD t 0=(cE (R.length+2) (fun a=> (gi (eS n R) a+1).toNat) (rq kind R.length) t:Int):=by
 have ht:=xK n R;have nk:((bN R.length).filter ((fun a=>decide ((gi (eS n R) a+1).toNat=t) && rq kind R.length a)∘(· +1))).length=if 1<=t/\t<=n then(mh R ((t:Int) - 1)).length else 0:=by
  have key:∀e:Int,e∈bN R.length->((((fun a=>decide ((gi (eS n R) a+1).toNat=t) && rq kind R.length a)∘(· +1)) e)=true↔gi R e=(t:Int) - 1):=fun e he=>by
   have he:=(fM _ _).1 he;have hr:=hR e he.1 he.2;have e1:=uE n R (a:=e+1) (by omega) (by omega);rw [Int.add_sub_cancel]at e1;have e2:rq kind R.length (e+1)=true:=by
    unfold rq;simp;omega
   show(decide ((gi (eS n R) (e+1)+1).toNat=t) && rq kind R.length (e+1))=true↔_;rw [e2,Bool.and_true,decide_eq_true_iff,e1];omega
  by_cases h:1<=t/\t<=n
  ·rw [ay h];unfold mh
   congr 1
   refine List.filter_congr fun e he=>?_
   rw [Bool.eq_iff_iff,key e he,decide_eq_true_iff]
  rw [aw h,List.filter_eq_nil_iff.2 fun e he hd=>by
   have h1:=(key e he).1 hd;have he:=(fM _ _).1 he;have hr:=hR e he.1 he.2;omega]
  rfl
 have dS:(([0]:ai).filter fun a=>decide ((gi (eS n R) a+1).toNat=t) && rq kind R.length a).length=if t=0/\kind≠1 then 1 else 0:=by
  have e1:(gi (eS n R) 0+1).toNat=0:=O;have e2:rq kind R.length 0=decide (kind≠1):=by
   unfold rq;rw [Bool.eq_iff_iff];simp;omega
  by_cases h:t=0/\kind≠1
  ·rw [ay h,ur (by rw [e1,e2];simp [h.1,h.2])];rfl
  rw [aw h,rC (by rw [e1,e2];simp;intro q;exact nA fun q2=>h ⟨q.symm,q2⟩)];rfl
 have cI:(([(R.length:Int)+1]:ai).filter fun a=>decide ((gi (eS n R) a+1).toNat=t) && rq kind R.length a).length=if t=n+1/\kind≠2 then 1 else 0:=by
  have e1:(gi (eS n R) ((R.length:Int)+1)+1).toNat=n+1:=by rw [ht];omega
  have e2:rq kind R.length ((R.length:Int)+1)=decide (kind≠2):=by
   unfold rq;rw [Bool.eq_iff_iff];simp;omega
  by_cases h:t=n+1/\kind≠2
  ·rw [ay h,ur (by rw [e1,e2];simp [h.1,h.2])];rfl
  rw [aw h,rC (by rw [e1,e2];simp;intro q;exact nA fun q2=>h ⟨q.symm,q2⟩)];rfl
 have hc:cE (R.length+2) (fun a=> (gi (eS n R) a+1).toNat) (rq kind R.length) t=(if t=0/\kind≠1 then 1 else 0)+ ((if 1<=t/\t<=n then(mh R ((t:Int) - 1)).length else 0)+ (if t=n+1/\kind≠2 then 1 else 0)):=by
  unfold cE;rw [aik,show(0:Int)::((bN R.length).map (· +1)++ [(R.length:Int)+1])=[0]++ ((bN R.length).map (· +1)++ [(R.length:Int)+1]) from rfl,oR,oR,dI,dI,List.filter_map,fj,nk,dS,cI]
 rw [hc,aaK,Ln]
 by_cases h0:t=0
 ·by_cases h1:kind=1
  ·rw [ay (.inl ⟨h1,h0⟩),aw (by omega),aw (by omega),aw (by omega)];rfl
  rw [aw (by omega),ay h0,ay ⟨h0,h1⟩,aw (by omega),aw (by omega)];rfl
 by_cases h1:t<=n
 ·rw [aw (by omega),aw h0,ay h1,aw (by omega),ay ⟨by omega,h1⟩,aw (by omega)];omega
 by_cases h2:t=n+1
 ·by_cases h3:kind=2
  ·rw [ay (.inr ⟨h3,h2⟩),aw (by omega),aw (by omega),aw (by omega)];rfl
  rw [aw (by omega),aw h0,aw h1,ay h2,aw (by omega),aw (by omega),ay ⟨h2,h3⟩];rfl
 rw [aw (by omega),aw h0,aw h1,aw h2,aw (by omega),aw (by omega),aw (by omega)];rfl
end
section
open Go.RowKit
theorem ahq{M K:ah}{kind:Int}(h1:lV M K kind=0):∃ok:Bool,(ok=true↔iU M K kind=0)/\(ok=false->iU M K kind=3)/\
 ∀X Z Y W cx cz cy cw wg xo w',rB w' X (eS M.length (bn M M.length)) (aH M M.length) Y wg (bE M)->rB w' Z (eS K.length (bn K K.length)) (aH K K.length) W xo (bE K)->aN prog 103 [.agg #[ak (M.length:Int),.slice X (aH M M.length+2) cx,.slice Y (aH M M.length+2) cy],.agg #[ak (K.length:Int),.slice Z (aH K K.length+2) cz,.slice W (aH K K.length+2) cw],ak kind] w' (J9 (si M K kind) (nT M K kind) (nS M K kind) ok w'):=by
 obtain⟨nj,sL,sK⟩:=Cv h1;obtain⟨gr,gF⟩:=kf sL;obtain⟨l8,nF⟩:=kf sK;have h5:=gr.1;have h6:=l8.1;have dK:=ahr h1;have hpN:(if gh M K kind<=5/\(jr M K kind).length<=500 then((gh M K kind:Nat):Int)else 0)=si M K kind:=by
  unfold si
  by_cases h:gh M K kind<=5/\(jr M K kind).length<=500
  ·rw [ay h,ay (dK.1 h)]
  rw [aw h,aw (by rw [dK.2 h];decide)]
 have hpR:(if gh M K kind<=5/\(jr M K kind).length<=500 then jr M K kind else [])=nT M K kind:=by
  unfold nT
  by_cases h:gh M K kind<=5/\(jr M K kind).length<=500
  ·rw [ay h,ay (dK.1 h)]
  rw [aw h,aw (by rw [dK.2 h];decide)]
 have hpB:(if gh M K kind<=5/\(jr M K kind).length<=500 then pn M K kind else [])=nS M K kind:=by
  unfold nS
  by_cases h:gh M K kind<=5/\(jr M K kind).length<=500
  ·rw [ay h,ay (dK.1 h)]
  rw [aw h,aw (by rw [dK.2 h];decide)]
 refine⟨decide (gh M K kind<=5/\(jr M K kind).length<=500),?_,fun h=>dK.2 (of_decide_eq_false h),fun X Z Y W cx cz cy cw wg xo w' iN oB=>?_⟩
 ·rw [kz];refine⟨dK.1,fun h=>nA fun h'=>?_⟩;rw [dK.2 h']at h;exact absurd h (by decide)
 have:=(Va X Z Y W cx cz cy cw (aH M M.length) (aH K K.length) _ _ wg xo (bE M) (bE K) M.length K.length kind (gh M K kind) w' iN oB (pU gr gF.1) (pU l8 nF.1) nj (GL gr l8) (by omega) (by omega)).mono fun _ _ h=>h.b
 rw [<-hpN,<-hpR,<-hpB];exact this
theorem aiM(A D:aj)(n c m d:Nat)(rs ts:List aQ)(M K:ah)(kind:Int)(w:aa)(hM:bz w A n rs M)(hK:bz w D m ts K)(hn:n<=9223372036854775807)(hm:m<=9223372036854775807):
 aN prog 51 [.agg #[.slice A n c],.agg #[.slice D m d],ak kind] w (mo (eH M K kind) (mf M K kind) w):=by
 refine bI func51 O ntmps51 O (sg O O) (bc O (ik (St.refl w) O O ?_));intro A3 w1 aE;refine ik aE O O fun A4 w2 aD=>gD aD O fun A6 w3 aM=>ar O (alC 0 (aM.rd 2 O) O (alC 0 (aM.rd 1 O) O (ar O (aL (afA A D n c m d rs ts M K kind _ (aM.bS hM) (aM.bS hK) hn hm) O ?_))));rintro _ w4 ⟨rfl,ax⟩;have aU:=aM.aq ax.below;clear ax aM aD aE;refine aI O (aR _ O (fun h1=>?_) (fun h1=>?_))
 ·refine aG O (wm (by exact inferInstance) O (ar O (bW 1 0 aU O O O O O O O ?_)));intro w5 aV;refine bM O (jI O (aV.rd 0 O) O ?_);have hp:iU M K kind=lV M K kind:=by unfold iU;rw [if_neg h1]
  unfold eH mf;rw [hp,aw h1,aw h1];exact mo.none aV
 have h1:lV M K kind=0:=jl.1 h1;obtain⟨nj,sL,sK⟩:=Cv h1;obtain⟨gr,gF⟩:=kf sL;obtain⟨l8,nF⟩:=kf sK;have xX:=aU.bS hM;have Is:=aU.bS hK;have ib:=aU.rd 2 O;have lD:=aU.rd 1 O;obtain⟨ok,I2,M1,SP⟩:=ahq h1;have hP:ok=true->si M K kind=((gh M K kind:Nat):Int)/\gE ((gh M K kind:Nat):Int) (nT M K kind) (nS M K kind):=fun h=>by
  have h0:=I2.1 h;have hd:=(Ol h0).1;unfold si nT nS;rw [ay h0,ay h0,ay h0];exact⟨O,hd⟩
 have e1:(if ok=true then vY (gh M K kind) (nT M K kind) (nS M K kind)else [])=eH M K kind:=by
  cases ok
  ·have h3:=M1 O;unfold eH;rw [aw (by decide),aw (by rw [h3];decide)]
  have h0:=I2.1 O;unfold eH nT nS;rw [ay rfl,ay h0,ay h0,ay h0]
 have e2:(if ok=true then yz (gh M K kind) (nT M K kind) (nS M K kind)else 3)=mf M K kind:=by
  cases ok
  ·have h3:=M1 O;unfold mf;rw [aw (by decide),aw (by rw [h3];decide),h3]
  have h0:=I2.1 O;unfold mf nT nS;rw [ay rfl,ay h0,ay h0,ay h0]
 have hMx:∀X Z Y W cx cz cy cw wg xo w',rB w' X (eS M.length (bn M M.length)) (aH M M.length) Y wg (bE M)->rB w' Z (eS K.length (bn K K.length)) (aH K K.length) W xo (bE K)->aN prog 112 [.agg #[ak (M.length:Int),.slice X (aH M M.length+2) cx,.slice Y (aH M M.length+2) cy],.agg #[ak (K.length:Int),.slice Z (aH K K.length+2) cz,.slice W (aH K K.length+2) cw],ak kind] w' (mo (eH M K kind) (mf M K kind) w'):=fun X Z Y W cx cz cy cw wg xo w' iN oB=>by
  have:=NP X Z Y W cx cz cy cw _ _ _ _ M.length K.length kind ok (si M K kind) (gh M K kind) (nT M K kind) (nS M K kind) w' (fun w2 hb=>SP X Z Y W cx cz cy cw wg xo w2 (iN.aq hb) (oB.aq hb)) hP;rw [e1,e2]at this;exact this
 clear SP hP e1 e2 I2 M1;generalize eH M K kind=BL at*;generalize mf M K kind=C at*;refine cM O ?_;refine jA [10] [.ex (.agg #[.slice (A) (n) (c)]),.pr (fun v w'=>∃X cx Y cy ys,v= .agg #[ak (M.length:Int),.slice X (aH M M.length+2) cx,.slice Y (aH M M.length+2) cy]/\rB w' X (eS M.length (bn M M.length)) (aH M M.length) Y ys (bE M)),.ex (.agg #[.slice (D) (m) (d)]),.pr (fun v w'=>∃X cx Y cy ys,v= .agg #[ak (K.length:Int),.slice X (aH K K.length+2) cx,.slice Y (aH K K.length+2) cy]/\rB w' X (eS K.length (bn K K.length)) (aH K K.length) Y ys (bE K)),yI (kind),.pr (fun v w'=>mo BL C w4 v w'),.al (fun v=>∃u0,v= .tuple #[u0,ak C]) (fun v w'=>mo BL C w4 v w'),.pr (fun v w'=>∃AD cD,∃bp:List aQ,v= .agg #[.slice AD BL.length cD]/\bp.length=BL.length/\St w4 w' (aO 32 2 AD BL.length cD bp BL)),yI (C),.pr (fun v w'=>∃A9,v= .pointer A9/\St w4 w' [kI A9 none 0 0]),.p2 9 (fun a v w'=>∃A9 AD cD,∃bp:List aQ,a= .pointer A9/\bp.length=BL.length/\St w4 w' (kI A9 AD BL.length cD::aO 32 2 AD BL.length cD bp BL)),yI (C)] (ly (cj.2 ⟨Ye.cN (fun v w w' h hb=>by obtain⟨X,cx,Y,cy,ys,hv,h1⟩:=h;exact⟨X,cx,Y,cy,ys,hv,h1.aq hb⟩),(ly (cj.2 ⟨Ye.cN (fun v w w' h hb=>by obtain⟨X,cx,Y,cy,ys,hv,h1⟩:=h;exact⟨X,cx,Y,cy,ys,hv,h1.aq hb⟩),(ly (cj.2 ⟨Ye.cN (fun v w w' h hb=>by obtain⟨AD,cD,bp,hv,h1,h2⟩:=h;exact⟨AD,cD,bp,hv,h1,h2.aq hb⟩),(cj.2 ⟨Hr (fun v w w' h hb=>by obtain⟨AD,cD,bp,hv,h1,h2⟩:=h;exact⟨AD,cD,bp,hv,h1,h2.aq hb⟩),(cj.2 ⟨Ye.cN (fun v w w' h hb=>by obtain⟨AD,cD,bp,hv,h1,h2⟩:=h;exact⟨AD,cD,bp,hv,h1,h2.aq hb⟩),(ly (cj.2 ⟨Ye.cN (fun v w w' h hb=>by obtain⟨A9,hv,hT⟩:=h;exact⟨A9,hv,hT.aq hb⟩),(cj.2 ⟨Hs (fun a v w w' h hb=>by obtain⟨A9,AD,cD,bp,h9,h1,hT⟩:=h;exact⟨A9,AD,cD,bp,h9,h1,hT.aq hb⟩),(ly (fun _ h=>by cases h))⟩)⟩))⟩)⟩)⟩))⟩))⟩)) ?_ ?_
 ·refine⟨cP fun _ _ hb _ _ _=>alC 0 (ib.below hb) O (bq O O),?_,cP fun _ _ hb _ _ _=>alC 0 (lD.below hb) O (bq O O),?_,bQ O,?_,?_,?_,?_,?_,?_,bQ O,av⟩
  ·refine cP fun e1 w1 hb hp aY hq=>?_
   refine aL (NO A n c rs M _ (xX.aq hb) gr gF.1) O ?_;rintro _ w9 ⟨X,cx,Y,cy,ys,rfl,rY,ax⟩;exact ao.n (eO.dn O ax.below ⟨X,cx,Y,cy,ys,O,Ld gr gF.1 ax⟩)
  ·refine cP fun e1 w1 hb hp aY hq=>?_
   refine aL (NO D m d ts K _ (Is.aq hb) l8 nF.1) O ?_;rintro _ w9 ⟨X,cx,Y,cy,ys,rfl,rY,ax⟩;exact ao.n (eO.dn O ax.below ⟨X,cx,Y,cy,ys,O,Ld l8 nF.1 ax⟩)
  ·refine cP fun e1 w1 hb hp aY hq=>?_
   obtain⟨X,cx,Y,cy,ys,h21,iN⟩:=(hp 1 _ _ (by kernel_rfl) rfl rfl (by kernel_rfl));obtain⟨Z,cz,W,cw,zs,h23,oB⟩:=(hp 3 _ _ (by kernel_rfl) rfl rfl (by kernel_rfl));refine als (hMx X Z Y W cx cz cy cw ys zs _ iN oB) O (by exact eq_21 h21 h23) O ?_;rintro _ w9 ⟨AD,cD,bp,rfl,iK,ax⟩;refine ao.n ?_;exact eO.dn O ax.below ⟨AD,cD,bp,O,iK,by have:=((St.refl w4).aq hb).call ax;rwa [eu]at this⟩
  ·refine cP fun e1 w1 hb hp aY hq=>?_
   obtain⟨AD,cD,bp,Ie,h1,h2⟩:=(hp 5 _ _ (by kernel_rfl) rfl rfl (by kernel_rfl));refine Ho O (by exact Ie) O (ao.n ?_);exact eO.dn O (Below.refl _ _) ⟨⟨_,O⟩,AD,cD,bp,O,h1,h2⟩
  ·refine cP fun e1 w1 hb hp aY hq=>?_
   obtain⟨AD,cD,bp,LH,h1,h2⟩:=((hp 6 _ _ (by kernel_rfl) rfl rfl).2 (by kernel_rfl));refine ao.extract (by exact LH) O O (ao.n ?_);exact eO.dn O (Below.refl _ _) ⟨AD,cD,bp,O,h1,h2⟩
  ·intro e1 w1 cc dS cI dX hp aY hq;show ao _ _ _ _ _ _ _;obtain⟨u0,LH⟩:=(hp 6 _ _ (by kernel_rfl) rfl rfl).1;refine ao.extract (by exact LH) O O (ao.n (fL O (by exact O)))
  ·refine cP fun e1 w1 hb hp aY hq=>?_
   refine gD (St.refl _) O fun A9 w9 a7=>ao.n ?_;exact eO.dn O a7.below ⟨A9,O,by have:=((St.refl w4).aq hb).call a7;rwa [eu]at this⟩
  refine jC fun e1 w1 hb hp aY hq=>?_
  obtain⟨A9,h9,hT⟩:=(hp 9 _ _ (by kernel_rfl) rfl rfl (by kernel_rfl));obtain⟨AD,cD,bp,Fi,h1,h2⟩:=(hp 7 _ _ (by kernel_rfl) rfl rfl (by kernel_rfl));refine bW 1 0 (hT.agc h2) O (by exact h9) (by exact Fi) O O O O ?_;intro w9 a7;exact ao.n (fH.st O ⟨A9,AD,cD,bp,h9,h1,a7⟩)
 intro u2 w5 _ _ jx _;obtain⟨A9,AD,cD,bp,h9,iK,kh⟩:=jx 10 9 _ rfl (by kernel_rfl);have aV:=aU.call2 kh;have mG:=kh.rd 0 O;refine CQ (F:=[(6,.pointer A6),(9,.pointer A9),(10,ak C)]) ⟨O,h9,O,av⟩ (iV O (alC 0 mG O (ar O (bW 1 0 aV O O O O O O O ?_))));intro w6 aZ;refine bM O (jI O (aZ.rd 0 O) O ?_);exact⟨AD,cD,bp,O,iK,aZ.sub (show List.Sublist _ (_::_::_::_::_) from((fE _).cons _ |>.cons _ |>.cons _ |>.cons _))⟩
abbrev dF:ah:=[[1,0]]
def Hf(w:aa)(v:ad)(w':aa):Prop:=∃A,∃r:aQ,v= .agg #[.slice A 1 1]/\St w w' (aO 32 2 A 1 1 [r] dF)
theorem Hf.rows{w w':aa}{v:ad}(h:Hf w v w'):∃A,∃r:aQ,v= .agg #[.slice A 1 1]/\bz w' A 1 [r] dF/\Below w.heap.size w w':=by
 obtain⟨A,r,hv,ax⟩:=h;exact⟨A,r,hv,St.gj (ks:=[]) (by rw [eu];exact ax) O,ax.below⟩
theorem UB(w:aa):aN prog 118 [] w (Hf w):=by
 refine bI func118 O ntmps118 O (pq O O) (bc O (gD (St.refl w) O ?_));intro A0 w1 aE;refine ar O (CO aE O O O O O O ?_);intro A1 w2 aD;have aD:St w w2 (az 2 A1 2 2 [1,0]::[kI A0 none 0 0]):=aD;refine mr aD O O O fun A2 w3 aM=>EG (by exact inferInstance) O O O O (bW 1 2 aM O O O O O O O ?_);intro w4 aU;refine bM O (ko O (aU.rd 2 O) ?_);exact⟨A2,⟨A1,2,2⟩,O,aU.sub (show List.Sublist [_,_] [_,_,_] from((List.nil_sublist _).cons_cons _).cons_cons _)⟩
theorem OR(w:aa):aN prog 117 [] w (Hf w):=by
 refine bI func117 O ntmps117 O (pq O O) (bc O (gD (St.refl w) O ?_));intro A0 w1 aE;refine ar O (CO aE O O O O O O ?_);intro A1 w2 aD;have aD:St w w2 (az 2 A1 2 2 [1,0]::[kI A0 none 0 0]):=aD;refine mr aD O O O fun A2 w3 aM=>EG (by exact inferInstance) O O O O (bW 1 2 aM O O O O O O O ?_);intro w4 aU;refine bM O (ko O (aU.rd 2 O) ?_);exact⟨A2,⟨A1,2,2⟩,O,aU.sub (show List.Sublist [_,_] [_,_,_] from((List.nil_sublist _).cons_cons _).cons_cons _)⟩
theorem aes(A:aj)(n c:Nat)(rs:List aQ)(M:ah)(w:aa)(hT:na w)(hM:bz w A n rs M)(hn:n<=c)(hc:c<=9223372036854775807):
 aN prog 56 [.agg #[.slice A n c]] w (mo (eH M dF 1) (mf M dF 1) w):=by
 have Bz:=fun(w':aa) (E:aj) (r:aQ) (hT:na w') (hM:bz w' A n rs M) (hE:bz w' E 1 [r] dF)=>Wg A E n c 1 1 rs [r] M dF 1 w' hT hM hE hn hc (bB _) (by omega)
 have L6:=fun(w':aa) A D cA cD rs hT hR hB=>V1 M dF 1 A D cA cD rs w' hT hR hB
 generalize si M dF 1=N at*;generalize nT M dF 1=R at*;generalize nS M dF 1=B at*;generalize iU M dF 1=C at*;refine bI func56 O ntmps56 O (sg O O) (bc O (ik (St.refl w) O O ?_));intro A1 w1 aE;refine gD aE O ?_;intro A2 w2 aD;have df:=aD.rd 1 O;have vx:=aD.bS hM;have BH:=hT.aq aD.below;refine aI O ?_;refine jA [7] [.ex (.agg #[.slice (A) (n) (c)]),.pr (fun v w'=>∃E,∃r:aQ,v= .agg #[.slice E 1 1]/\bz w' E 1 [r] dF),.pr (fun v w'=>xq N R B C w2 v w'),.al (fun v=>∃u0,v= .tuple #[u0,ak C]) (fun v w'=>xq N R B C w2 v w'),.pr (fun v w'=>∃AR cR AD cD bp,v= .agg #[ak N,.slice AR R.length cR,.slice AD B.length cD]/\bp.length=B.length/\St w2 w' (az 2 AR R.length cR R::(aO 32 2 AD B.length cD bp B++ []))),yI (C),.pr (fun v w'=>∃A9,v= .pointer A9/\St w2 w' [bH A9 0 none 0 0 none 0 0]),.p2 6 (fun a v w'=>∃A9 AR c AD d rs,a= .pointer A9/\rs.length=B.length/\St w2 w' (bH A9 N AR R.length c AD B.length d::(az 2 AR R.length c R::(aO 32 2 AD B.length d rs B++ [])))),yI (C)] (ly (cj.2 ⟨Ye.cN (fun v w w' h hb=>by obtain⟨E,r,hv,h1⟩:=h;exact⟨E,r,hv,h1.aq hb⟩),(cj.2 ⟨Ye.cN (fun v w w' h hb=>by obtain⟨AR,cR,AD,cD,bp,hv,h1,h2⟩:=h;exact⟨AR,cR,AD,cD,bp,hv,h1,h2.aq hb⟩),(cj.2 ⟨Hr (fun v w w' h hb=>by obtain⟨AR,cR,AD,cD,bp,hv,h1,h2⟩:=h;exact⟨AR,cR,AD,cD,bp,hv,h1,h2.aq hb⟩),(cj.2 ⟨Ye.cN (fun v w w' h hb=>by obtain⟨AR,cR,AD,cD,bp,hv,h1,h2⟩:=h;exact⟨AR,cR,AD,cD,bp,hv,h1,h2.aq hb⟩),(ly (cj.2 ⟨Ye.cN (fun v w w' h hb=>by obtain⟨A9,hv,hT⟩:=h;exact⟨A9,hv,hT.aq hb⟩),(cj.2 ⟨Hs (fun a v w w' h hb=>by obtain⟨A9,AR,cR,AD,cD,bp,h9,h1,hT⟩:=h;exact⟨A9,AR,cR,AD,cD,bp,h9,h1,hT.aq hb⟩),(ly (fun _ h=>by cases h))⟩)⟩))⟩)⟩)⟩)⟩)) ?_ ?_
 ·refine⟨cP fun _ _ hb _ _ _=>alC 0 (df.below hb) O (bq O O),?_,?_,?_,?_,?_,?_,?_,bQ O,av⟩
  ·refine cP fun e1 w1 hb hp aY hq=>?_
   refine aL (UB _) O ?_;rintro _ w9 h9;obtain⟨E,r,hv,hE,mG⟩:=h9.rows;exact ao.n (eO.dn O mG ⟨E,r,hv,hE⟩)
  ·refine cP fun e1 w1 hb hp aY hq=>?_
   obtain⟨E,r,h8,h1⟩:=(hp 1 _ _ (by kernel_rfl) rfl rfl (by kernel_rfl));refine als (Bz _ E r (BH.aq hb) (vx.aq hb) h1) O (by exact aK (fun v=> [Value.agg #[.slice A n c],v,ak 1]) h8) O ?_;rintro _ w9 ⟨AR,cR,AD,cD,bp,rfl,iK,ax⟩;refine ao.n ?_;exact eO.dn O ax.below ⟨AR,cR,AD,cD,bp,O,iK,by have:=((St.refl w2).aq hb).call ax;rwa [eu]at this⟩
  ·refine cP fun e1 w1 hb hp aY hq=>?_
   obtain⟨AR,cR,AD,cD,bp,h9,h1,h2⟩:=(hp 2 _ _ (by kernel_rfl) rfl rfl (by kernel_rfl));refine Ho O (by exact h9) O (ao.n ?_);exact eO.dn O (Below.refl _ _) ⟨⟨_,O⟩,AR,cR,AD,cD,bp,O,h1,h2⟩
  ·refine cP fun e1 w1 hb hp aY hq=>?_
   obtain⟨AR,cR,AD,cD,bp,h6,h1,h2⟩:=((hp 3 _ _ (by kernel_rfl) rfl rfl).2 (by kernel_rfl));refine ao.extract (by exact h6) O O (ao.n ?_);exact eO.dn O (Below.refl _ _) ⟨AR,cR,AD,cD,bp,O,h1,h2⟩
  ·intro e1 w1 cc dS cI dX hp aY hq;show ao _ _ _ _ _ _ _;obtain⟨u0,h6⟩:=(hp 3 _ _ (by kernel_rfl) rfl rfl).1;refine ao.extract (by exact h6) O O (ao.n (fL O (by exact O)))
  ·refine cP fun e1 w1 hb hp aY hq=>?_
   refine kO (St.refl _) O fun A9 w9 a7=>ao.n ?_;exact eO.dn O a7.below ⟨A9,O,by have:=((St.refl w2).aq hb).call a7;rwa [eu]at this⟩
  refine jC fun e1 w1 hb hp aY hq=>?_
  obtain⟨A9,h9,hT⟩:=(hp 6 _ _ (by kernel_rfl) rfl rfl (by kernel_rfl));obtain⟨AR,cR,AD,cD,bp,gZ,h1,h2⟩:=(hp 4 _ _ (by kernel_rfl) rfl rfl (by kernel_rfl));refine bW 3 0 (hT.Vp h2) O (by exact h9) (by exact gZ) O O O O ?_;intro w9 a7;exact ao.n (fH.st O ⟨A9,AR,cR,AD,cD,bp,h9,h1,a7⟩)
 intro u2 w5 _ _ jx _;obtain⟨A9,AR,cR,AD,cD,bp,h9,iK,nG⟩:=jx 7 6 _ rfl (by kernel_rfl);have aV:=aD.aq nG.below;refine CQ (F:=[(2,.pointer A2),(4,.pointer A9),(5,ak C)]) ⟨O,h9,O,av⟩ (iV O (alC 2 (nG.rd 0 O) O (ar O (aL (L6 _ AR AD cR cD bp (hT.aq aV.below) (nG.bF 1 O) (St.gj nG.tail.tail O)) O ?_))));rintro _ w7 ⟨Am,cm,jt,rfl,mN,ax⟩;have a6:=aV.call2 ax;refine ar O (bW 1 0 a6 O O O O O O O ?_);intro w8 bL;refine bM O (jI O (bL.rd 0 O) O ?_);exact⟨Am,cm,jt,O,mN,bL.sub (show List.Sublist _ (_::_::_) from((fE _).cons _ |>.cons _))⟩
theorem aiL(A:aj)(n c:Nat)(rs:List aQ)(M:ah)(w:aa)(hM:bz w A n rs M)(hn:n<=9223372036854775807):
 aN prog 55 [.agg #[.slice A n c]] w (mo (eH M dF 1) (mf M dF 1) w):=by
 have Bz:=fun(w':aa) (E:aj) (r:aQ) (hM:bz w' A n rs M) (hE:bz w' E 1 [r] dF)=>aiM A E n c 1 1 rs [r] M dF 1 w' hM hE hn (by omega)
 generalize eH M dF 1=BL at*;generalize mf M dF 1=C at*;refine bI func55 O ntmps55 O (sg O O) (bc O (ik (St.refl w) O O ?_));intro A1 w1 aE;refine gD aE O ?_;intro A2 w2 aD;have df:=aD.rd 1 O;have vx:=aD.bS hM;refine aI O ?_;refine jA [5] [.ex (.agg #[.slice (A) (n) (c)]),.pr (fun v w'=>∃E,∃r:aQ,v= .agg #[.slice E 1 1]/\bz w' E 1 [r] dF),.al (fun v=>∃u0,v= .tuple #[u0,ak C]) (fun v w'=>∃AD cD,∃bp:List aQ,v= .tuple #[.agg #[.slice AD BL.length cD],ak C]/\bp.length=BL.length/\St w w' ([kI A2 none 0 0,Bx 24 1 A1 [.slice A n c]]++aO 32 2 AD BL.length cD bp BL)),.pr (fun v w'=>∃AD cD,∃bp:List aQ,v= .agg #[.slice AD BL.length cD]/\bp.length=BL.length/\St w w' ([kI A2 none 0 0,Bx 24 1 A1 [.slice A n c]]++aO 32 2 AD BL.length cD bp BL)),yI (C),.pr (fun _ w'=>∃AD cD,∃bp:List aQ,bp.length=BL.length/\St w w' ([kI A2 AD BL.length cD,Bx 24 1 A1 [.slice A n c]]++aO 32 2 AD BL.length cD bp BL)),yI (C)] (ly (cj.2 ⟨Ye.cN (fun v w w' h hb=>by obtain⟨E,r,hv,h1⟩:=h;exact⟨E,r,hv,h1.aq hb⟩),(cj.2 ⟨Hr (fun v w w' h hb=>by obtain⟨AD,cD,bp,hv,h1,h2⟩:=h;exact⟨AD,cD,bp,hv,h1,h2.aq hb⟩),(cj.2 ⟨Ye.cN (fun v w w' h hb=>by obtain⟨AD,cD,bp,hv,h1,h2⟩:=h;exact⟨AD,cD,bp,hv,h1,h2.aq hb⟩),(ly (cj.2 ⟨Ye.cN (fun v w w' h hb=>by obtain⟨AD,cD,bp,h1,h2⟩:=h;exact⟨AD,cD,bp,h1,h2.aq hb⟩),(ly (fun _ h=>by cases h))⟩))⟩)⟩)⟩)) ?_ ?_
 ·refine⟨cP fun _ _ hb _ _ _=>alC 0 (df.below hb) O (bq O O),?_,?_,?_,?_,?_,bQ O,av⟩
  ·refine cP fun e1 w1 hb hp aY hq=>?_
   refine aL (OR _) O ?_;rintro _ w9 h9;obtain⟨E,r,hv,hE,mG⟩:=h9.rows;exact ao.n (eO.dn O mG ⟨E,r,hv,hE⟩)
  ·refine cP fun e1 w1 hb hp aY hq=>?_
   obtain⟨E,r,h5,h1⟩:=(hp 1 _ _ (by kernel_rfl) rfl rfl (by kernel_rfl));refine als (Bz _ E r (vx.aq hb) h1) O (by exact aK (fun v=> [Value.agg #[.slice A n c],v,ak 1]) h5) O ?_;rintro _ w9 ⟨AD,cD,bp,rfl,iK,ax⟩;exact ao.n (eO.dn O ax.below ⟨⟨_,O⟩,AD,cD,bp,O,iK,(aD.aq hb).call2 ax⟩)
  ·refine cP fun e1 w1 hb hp aY hq=>?_
   obtain⟨AD,cD,bp,h6,h1,h2⟩:=((hp 2 _ _ (by kernel_rfl) rfl rfl).2 (by kernel_rfl));refine ao.extract (by exact h6) O O (ao.n ?_);exact eO.dn O (Below.refl _ _) ⟨AD,cD,bp,O,h1,h2⟩
  ·intro e1 w1 cc dS cI dX hp aY hq;show ao _ _ _ _ _ _ _;obtain⟨u0,h6⟩:=(hp 2 _ _ (by kernel_rfl) rfl rfl).1;refine ao.extract (by exact h6) O O (ao.n (fL O (by exact O)))
  refine jC fun e1 w1 hb hp aY hq=>?_
  obtain⟨AD,cD,bp,h7,h1,h2⟩:=(hp 3 _ _ (by kernel_rfl) rfl rfl (by kernel_rfl));refine bW 1 0 h2 O O (by exact h7) O O O O ?_;intro w9 a7;exact ao.n (fH.st O ⟨AD,cD,bp,h1,a7⟩)
 intro u w5 _ hu _ _;obtain⟨AD,cD,bp,iK,aV⟩:=hu 5 _ rfl (by kernel_rfl);refine zd O (jI O (aV.rd 0 O) O ?_);exact⟨AD,cD,bp,O,iK,aV.sub (show List.Sublist _ (_::_::_) from((fE _).cons _ |>.cons _))⟩
theorem aer(A:aj)(n c:Nat)(rs:List aQ)(M:ah)(w:aa)(hT:na w)(hM:bz w A n rs M)(hn:n<=c)(hc:c<=9223372036854775807):
 aN prog 54 [.agg #[.slice A n c]] w (mo (eH M dF 2) (mf M dF 2) w):=by
 have Bz:=fun(w':aa) (E:aj) (r:aQ) (hT:na w') (hM:bz w' A n rs M) (hE:bz w' E 1 [r] dF)=>Wg A E n c 1 1 rs [r] M dF 2 w' hT hM hE hn hc (bB _) (by omega)
 have L6:=fun(w':aa) A D cA cD rs hT hR hB=>V1 M dF 2 A D cA cD rs w' hT hR hB
 generalize si M dF 2=N at*;generalize nT M dF 2=R at*;generalize nS M dF 2=B at*;generalize iU M dF 2=C at*;refine bI func54 O ntmps54 O (sg O O) (bc O (ik (St.refl w) O O ?_));intro A1 w1 aE;refine gD aE O ?_;intro A2 w2 aD;have df:=aD.rd 1 O;have vx:=aD.bS hM;have BH:=hT.aq aD.below;refine aI O ?_;refine jA [7] [.ex (.agg #[.slice (A) (n) (c)]),.pr (fun v w'=>∃E,∃r:aQ,v= .agg #[.slice E 1 1]/\bz w' E 1 [r] dF),.pr (fun v w'=>xq N R B C w2 v w'),.al (fun v=>∃u0,v= .tuple #[u0,ak C]) (fun v w'=>xq N R B C w2 v w'),.pr (fun v w'=>∃AR cR AD cD bp,v= .agg #[ak N,.slice AR R.length cR,.slice AD B.length cD]/\bp.length=B.length/\St w2 w' (az 2 AR R.length cR R::(aO 32 2 AD B.length cD bp B++ []))),yI (C),.pr (fun v w'=>∃A9,v= .pointer A9/\St w2 w' [bH A9 0 none 0 0 none 0 0]),.p2 6 (fun a v w'=>∃A9 AR c AD d rs,a= .pointer A9/\rs.length=B.length/\St w2 w' (bH A9 N AR R.length c AD B.length d::(az 2 AR R.length c R::(aO 32 2 AD B.length d rs B++ [])))),yI (C)] (ly (cj.2 ⟨Ye.cN (fun v w w' h hb=>by obtain⟨E,r,hv,h1⟩:=h;exact⟨E,r,hv,h1.aq hb⟩),(cj.2 ⟨Ye.cN (fun v w w' h hb=>by obtain⟨AR,cR,AD,cD,bp,hv,h1,h2⟩:=h;exact⟨AR,cR,AD,cD,bp,hv,h1,h2.aq hb⟩),(cj.2 ⟨Hr (fun v w w' h hb=>by obtain⟨AR,cR,AD,cD,bp,hv,h1,h2⟩:=h;exact⟨AR,cR,AD,cD,bp,hv,h1,h2.aq hb⟩),(cj.2 ⟨Ye.cN (fun v w w' h hb=>by obtain⟨AR,cR,AD,cD,bp,hv,h1,h2⟩:=h;exact⟨AR,cR,AD,cD,bp,hv,h1,h2.aq hb⟩),(ly (cj.2 ⟨Ye.cN (fun v w w' h hb=>by obtain⟨A9,hv,hT⟩:=h;exact⟨A9,hv,hT.aq hb⟩),(cj.2 ⟨Hs (fun a v w w' h hb=>by obtain⟨A9,AR,cR,AD,cD,bp,h9,h1,hT⟩:=h;exact⟨A9,AR,cR,AD,cD,bp,h9,h1,hT.aq hb⟩),(ly (fun _ h=>by cases h))⟩)⟩))⟩)⟩)⟩)⟩)) ?_ ?_
 ·refine⟨cP fun _ _ hb _ _ _=>alC 0 (df.below hb) O (bq O O),?_,?_,?_,?_,?_,?_,?_,bQ O,av⟩
  ·refine cP fun e1 w1 hb hp aY hq=>?_
   refine aL (UB _) O ?_;rintro _ w9 h9;obtain⟨E,r,hv,hE,mG⟩:=h9.rows;exact ao.n (eO.dn O mG ⟨E,r,hv,hE⟩)
  ·refine cP fun e1 w1 hb hp aY hq=>?_
   obtain⟨E,r,h8,h1⟩:=(hp 1 _ _ (by kernel_rfl) rfl rfl (by kernel_rfl));refine als (Bz _ E r (BH.aq hb) (vx.aq hb) h1) O (by exact aK (fun v=> [Value.agg #[.slice A n c],v,ak 2]) h8) O ?_;rintro _ w9 ⟨AR,cR,AD,cD,bp,rfl,iK,ax⟩;refine ao.n ?_;exact eO.dn O ax.below ⟨AR,cR,AD,cD,bp,O,iK,by have:=((St.refl w2).aq hb).call ax;rwa [eu]at this⟩
  ·refine cP fun e1 w1 hb hp aY hq=>?_
   obtain⟨AR,cR,AD,cD,bp,h9,h1,h2⟩:=(hp 2 _ _ (by kernel_rfl) rfl rfl (by kernel_rfl));refine Ho O (by exact h9) O (ao.n ?_);exact eO.dn O (Below.refl _ _) ⟨⟨_,O⟩,AR,cR,AD,cD,bp,O,h1,h2⟩
  ·refine cP fun e1 w1 hb hp aY hq=>?_
   obtain⟨AR,cR,AD,cD,bp,h6,h1,h2⟩:=((hp 3 _ _ (by kernel_rfl) rfl rfl).2 (by kernel_rfl));refine ao.extract (by exact h6) O O (ao.n ?_);exact eO.dn O (Below.refl _ _) ⟨AR,cR,AD,cD,bp,O,h1,h2⟩
  ·intro e1 w1 cc dS cI dX hp aY hq;show ao _ _ _ _ _ _ _;obtain⟨u0,h6⟩:=(hp 3 _ _ (by kernel_rfl) rfl rfl).1;refine ao.extract (by exact h6) O O (ao.n (fL O (by exact O)))
  ·refine cP fun e1 w1 hb hp aY hq=>?_
   refine kO (St.refl _) O fun A9 w9 a7=>ao.n ?_;exact eO.dn O a7.below ⟨A9,O,by have:=((St.refl w2).aq hb).call a7;rwa [eu]at this⟩
  refine jC fun e1 w1 hb hp aY hq=>?_
  obtain⟨A9,h9,hT⟩:=(hp 6 _ _ (by kernel_rfl) rfl rfl (by kernel_rfl));obtain⟨AR,cR,AD,cD,bp,gZ,h1,h2⟩:=(hp 4 _ _ (by kernel_rfl) rfl rfl (by kernel_rfl));refine bW 3 0 (hT.Vp h2) O (by exact h9) (by exact gZ) O O O O ?_;intro w9 a7;exact ao.n (fH.st O ⟨A9,AR,cR,AD,cD,bp,h9,h1,a7⟩)
 intro u2 w5 _ _ jx _;obtain⟨A9,AR,cR,AD,cD,bp,h9,iK,nG⟩:=jx 7 6 _ rfl (by kernel_rfl);have aV:=aD.aq nG.below;refine CQ (F:=[(2,.pointer A2),(4,.pointer A9),(5,ak C)]) ⟨O,h9,O,av⟩ (iV O (alC 2 (nG.rd 0 O) O (ar O (aL (L6 _ AR AD cR cD bp (hT.aq aV.below) (nG.bF 1 O) (St.gj nG.tail.tail O)) O ?_))));rintro _ w7 ⟨Am,cm,jt,rfl,mN,ax⟩;have a6:=aV.call2 ax;refine ar O (bW 1 0 a6 O O O O O O O ?_);intro w8 bL;refine bM O (jI O (bL.rd 0 O) O ?_);exact⟨Am,cm,jt,O,mN,bL.sub (show List.Sublist _ (_::_::_) from((fE _).cons _ |>.cons _))⟩
def Ee(M:ah):List (Int×Int):=cg (aH M M.length+2) (0+2) (lg M) (gi [-1,0]) 0 (M.length+1)
def ic(M:ah):ai:=(Ee M).map (cS (lg M) (gi [-1,0]) 0)
noncomputable def nw(M:ah):ah:=oJ (qb M) (dJ 0 []) (Ee M)
noncomputable def mg(M:ah):Int:=if ir M=0 then(if 5<M.length+1\/500< (ic M).length then 3 else yz (M.length+1) (ic M) (nw M))else ir M
noncomputable def eV(M:ah):ah:=if ir M=0 then(if 5<M.length+1\/500< (ic M).length then []else vY (M.length+1) (ic M) (nw M))else []
theorem Ow{M:ah}(h:ir M=0)(h5:M.length+1<=5)(wH:(ic M).length<=500):gE ((M.length+1:Nat):Int) (ic M) (nw M)/\th ((M.length+1:Nat):Int) (ic M) (nw M)/\aC (M.length+1) (ic M) (nw M)≠[]:=by
 obtain⟨gr,gF⟩:=kf h;have l1:=pU gr gF.1;have d1:=De (nQ gr gF.1) gF.2.2.2.2.1;have c1:=C7 (nQ gr gF.1) gF.2.2.1;rw [je]at d1 c1;have m1:=gr.1;have hk:((M.length+1:Nat):Int)=fT M.length 0 0:=by unfold fT;rw [if_pos O];omega
 have hl:(Ee M).length<=500:=by unfold ic at wH;rwa [List.length_map]at wH
 exact⟨Wf l1 sV ⟨by omega,h5⟩ hl,Oq l1 sV d1 QT ⟨by omega,by omega⟩ hk (by omega) ⟨by omega,.inr O⟩,Ot l1 sV c1 QD ⟨by omega,by omega⟩ hk (by omega) ⟨by omega,.inr O⟩⟩
theorem ahE{w w':aa}{A:aj}{c:Nat}{ks:List Ck}(h:St w w' (az 2 A 2 c [-1,0]::ks)):zc w' A [-1,0] 0 none [] []:=
 ⟨rfl,by omega,h.bF 0 rfl,⟨jo.nil,rfl,fun i hi=>by omega,fun i hi=>by omega⟩,rfl,fun e h0 h1=>by omega⟩
theorem UD(A:aj)(n c:Nat)(rs:List aQ)(M:ah)(w:aa)(hT:na w)(hM:bz w A n rs M)(hn:n<=c)(hc:c<=9223372036854775807):
 aN prog 50 [.agg #[.slice A n c]] w (mo (eV M) (mg M) w):=by
 refine bI func50 O ntmps50 O (sg O O) (bc O (ik (St.refl w) O O ?_));intro A1 w1 aE;refine gD aE O fun A2 w2 aD=>ar O (alC 0 (aD.rd 1 O) O (aL (E2 A n c rs M _ (hT.aq aD.below) (aD.bS hM) hn hc) O ?_));rintro _ w3 (⟨hg,rfl,ax⟩ | ⟨hg,A8,c8,AR,cR,AD,cD,bp,rfl,iK,ax⟩)
 ·have aM:=aD.aq ax.below;refine ar O (Bf (St.refl w3) O ?_);intro A4 w4 Mb;refine bW 4 0 Mb O O O O O O O ?_;intro w5 nG;have aV:=aM.aq nG.below;refine aI O (CK O hg (aG O (wm (by exact inferInstance) O (ar O (bW 1 0 aV O O O O O O O ?_)))));intro w6 aZ;refine bM O (jI O (aZ.rd 0 O) O ?_);unfold eV mg;rw [aw hg,aw hg];exact mo.none aZ
 obtain⟨gr,gF⟩:=kf hg;have m1:=gr.1;have iN:=Lf gr gF.1 ax;have aM:=aD.aq ax.below;clear ax aE aD;refine ar O (Bf (St.refl w3) O ?_);intro A4 w4 Mb;refine bW 4 0 Mb O O O O O O O ?_;intro w5 nG;have aV:=aM.aq nG.below;have iN:=iN.aq nG.below;refine aI O (oM O (fun h=>h O) (aG O (alC 3 (nG.rd 0 O) O (CO (St.refl w5) O O O O O O ?_))));intro J5 w6 wJ;have wJ:St w5 w6 [az 2 J5 2 2 [-1,0]]:=wJ;have aZ:=aV.aq wJ.below;refine EH (by exact inferInstance) (by exact inferInstance) (by exact inferInstance) O O O O O O (PH (by exact inferInstance) (by exact inferInstance) O O O O O O ?_);have hk:((M.length+1:Nat):Int)=fT M.length 0 0:=by unfold fT;rw [if_pos O];omega
 refine aL (Wh A8 J5 c8 2 M.length 1 AR none (aH M M.length) 0 cR 0 AD none (aH M M.length) 0 cD 0 _ [-1,0] bp [] (bE M) [] M.length 0 0 (M.length+1) _ (iN.aq wJ.below) (ahE wJ) (pU gr gF.1) sV ⟨by omega,by omega⟩ hk (by omega) (by omega)) O ?_;rintro _ w7 (⟨uQ,rfl,ax⟩ | ⟨dK,AQ,cQ,AE,cE,AJ,rfl,Nc,ki,ax⟩)
 ·have a6:=aZ.aq ax.below;refine ar O (kO (St.refl w7) O ?_);intro A6 w8 Mc;refine bW 3 0 Mc O O O O O O O ?_;intro w9 wK;have a7:=a6.aq wK.below;refine ar O (alC 2 (wK.rd 0 O) O (ar O ?_));refine aL (V2 0 none none 0 0 0 0 3 (by decide) _) O ?_;rintro _ dQ ⟨Am,cm,jt,rfl,mN,ax⟩;have bO:=a7.call2 ax;refine ar O (bW 1 0 bO O O O O O O O ?_);intro eI dB;refine bM O (jI O (dB.rd 0 O) O ?_);have uQ:5<M.length+1\/500< (ic M).length:=uQ;unfold eV mg;rw [ay hg,ay hg,ay uQ,ay uQ];exact⟨Am,cm,jt,O,mN,dB.sub (show List.Sublist _ (_::_::_) from((fE _).cons _ |>.cons _))⟩
 have dK:M.length+1<=5/\(ic M).length<=500:=dK;have Ca:=Ow hg dK.1 dK.2;have uQ:¬(5<M.length+1\/500< (ic M).length):=by omega
 have ki:(nw M).length=(ic M).length:=ki;have BC:=ax.bF 0 O;have Fq:=St.gj ax.tail (ki);have a6:=aZ.aq ax.below;have eo:=hT.aq a6.below;refine ar O (kO (St.refl w7) O ?_);intro A6 w8 Mc;refine bW 3 0 Mc O O O O O O O ?_;intro w9 wK;have a7:=a6.aq wK.below;refine ar O (alC 2 (wK.rd 0 O) O (ar O ?_));have abJ:bz w9 AE (nw M).length AJ (nw M):=by rw [ki];exact Fq.aq wK.below
 refine als (V3 (M.length+1) AQ AE cQ cE (ic M) AJ (nw M) _ (eo.aq wK.below) (BC.aq wK.below) abJ Ca.1 Ca.2.1 Ca.2.2) O (by rw [ki];rfl) O ?_;rintro _ dQ ⟨Am,cm,jt,rfl,mN,ax⟩;have bO:=a7.call2 ax;refine ar O (bW 1 0 bO O O O O O O O ?_);intro eI dB;refine bM O (jI O (dB.rd 0 O) O ?_);unfold eV mg;rw [ay hg,ay hg,aw uQ,aw uQ];exact⟨Am,cm,jt,O,mN,dB.sub (show List.Sublist _ (_::_::_) from((fE _).cons _ |>.cons _))⟩
theorem afC(w:aa):aN prog 113 [] w (fun v w'=>∃X cx Y cy ys,v= .agg #[ak 0,.slice X (0+2) cx,.slice Y (0+2) cy]/\rB w' X [-1,0] 0 Y ys []/\Below w.heap.size w w'):=by
 refine bI func113 O ntmps113 O (pq O O) (bc O (kO (St.refl w) O ?_));intro A0 w1 aE;refine ar O (CO aE O O O O O O ?_);intro A1 w2 aD;refine jO aD O fun A2 w3 aM=>dV aM O O O fun A3 w4 aU=>CO aU O O O O O O fun A4 w5 aV=>PE (by exact inferInstance) (by exact inferInstance) (by exact inferInstance) O O O O O O O O O O (bW 3 4 aV O O O O O O O ?_);intro w6 aZ;refine bM O (ko O (aZ.rd 4 O) ?_);have aZ:St w w6 (b9 32 A4 2 2 [⟨A2,0,0⟩,⟨A3,1,1⟩]::az 2 A3 1 1 [0]::az 2 A2 0 0 []::[az 2 A1 2 2 [-1,0],Bx 93 3 A0 [ak 0,.slice A1 2 2,.slice A4 2 2]]):=aZ;have hm:St w w6 (aO 32 2 A4 2 2 [⟨A2,0,0⟩,⟨A3,1,1⟩] [[],[0]]++ [az 2 A1 2 2 [-1,0],Bx 93 3 A0 [ak 0,.slice A1 2 2,.slice A4 2 2]]):=aZ.perm ((List.Perm.swap _ _ _).cons _);have ha:lz 0 []=[[],[0]]:=O;refine⟨A1,2,A4,2,_,O,⟨O,by omega,aZ.bF 3 O,by rw [ha];exact St.gj hm O,fun e h0 h1=>by omega⟩,aZ.below⟩
theorem afB(X Z Y W:aj)(cx cz cy cw:Nat)(ys zs:List aQ)(M:ah)(w6:aa)(hg:ir M=0)(iN:rB w6 X (eS M.length (bn M M.length)) (aH M M.length) Y ys (bE M))(oB:rB w6 Z [-1,0] 0 W zs []):
 aN prog 112 [.agg #[ak (M.length:Int),.slice X (aH M M.length+2) cx,.slice Y (aH M M.length+2) cy],.agg #[ak 0,.slice Z (0+2) cz,.slice W (0+2) cw],ak 0] w6 (mo (eV M) (mg M) w6):=by
 have gr:=(kf hg).1;have gF:=(kf hg).2;have m1:=gr.1;have hk:((M.length+1:Nat):Int)=fT M.length 0 0:=by unfold fT;rw [if_pos O];omega
 have I5:=fun(w':aa) (hb:Below w6.heap.size w6 w')=> (Va X Z Y W cx cz cy cw (aH M M.length) 0 _ [-1,0] ys zs (bE M) [] M.length 0 0 (M.length+1) w' (iN.aq hb) (oB.aq hb) (pU gr gF.1) sV ⟨by omega,by omega⟩ hk (by omega) (by omega)).mono fun _ _ h=>h.b
 unfold eV mg;rw [ay hg,ay hg]
 by_cases dK:M.length+1<=5/\(ic M).length<=500
 ·have Ca:=Ow hg dK.1 dK.2;rw [aw (by omega),aw (by omega)];have gW:M.length+1<=5/\((cg (aH M M.length+2) (0+2) (lg M) (gi [-1,0]) 0 (M.length+1)).map (cS (lg M) (gi [-1,0]) 0)).length<=500:=dK;have:=NP X Z Y W cx cz cy cw _ _ _ _ M.length 0 0 true ((M.length+1:Nat):Int) (M.length+1) (ic M) (nw M) w6 (fun w' hb=>by
   have h9:=I5 w' hb;rw [ay gW,ay gW,ay gW,eP gW]at h9;exact h9) (fun _=> ⟨O,Ca.1⟩)
  rw [ay rfl,ay rfl]at this;exact this
 rw [ay (by omega),ay (by omega)];have gW:¬(M.length+1<=5/\((cg (aH M M.length+2) (0+2) (lg M) (gi [-1,0]) 0 (M.length+1)).map (cS (lg M) (gi [-1,0]) 0)).length<=500):=dK;have:=NP X Z Y W cx cz cy cw _ _ _ _ M.length 0 0 false 0 0 [] [] w6 (fun w' hb=>by
  have h9:=I5 w' hb;rw [aw gW,aw gW,aw gW,dk gW]at h9;exact h9) (fun h=>nomatch h)
 rw [aw (by decide),aw (by decide)]at this;exact this
end
section
theorem Q1:bg dF:=by decide
theorem Zh(r:Nat):kP r 1=r+1:=by
 induction r with
 | zero=>exact Hy 1
 | succ r ih=>rw [Qu,ih,KG]
section
variable{i j:Nat}
variable {M:ah}
def tw(M:ah)(a:Int):Int:=if a=0 then(aH M M.length:Int)+1 else if a=(aH M M.length:Int)+1 then 0 else(aH M.reverse (M.length - 1 - (gi (bn M M.length) (a - 1)).toNat):Int)+ (a - 1 - (aH M (gi (bn M M.length) (a - 1)).toNat:Int))+1
theorem zx(hM:bg M){f:Nat}(hi:i<M.length)(hf:f< (gl M 0).length):tw M (bC M i f+1)=bC M.reverse (M.length - 1 - i) f+1:=by
 have h:=lA hM hi hf;unfold tw;rw [aw (by omega),aw (by omega),Int.add_sub_cancel,h.2,gI];unfold bC;rw [JO hM hi];omega
theorem H3(hM:bg M){f g:Nat}(hi:i<M.length)(hj:j<M.length)(hf:f< (gl M 0).length)(hg:g< (gl M 0).length):bC M j g=bC M i f↔j=i/\gi (cH M i) g=gi (cH M i) f:=by
 constructor
 ·intro e;have h1:=(lA hM hi hf).2;have h2:=(lA hM hj hg).2;rw [e,h1]at h2;obtain rfl:j=i:=by omega
  exact⟨O,rN.1 e⟩
 rintro⟨rfl,e⟩;exact rN.2 e
theorem aaV(hM:bg M){f g:Nat}(hi:i<M.length)(hj:j<M.length)(hf:f< (gl M 0).length)(hg:g< (gl M 0).length):bC M j g∈gl (bE M) (bC M i f)↔j<i/\∃h:Nat,h< (gl M 0).length/\gi (cH M i) h=gi (cH M i) f/\gi (cH M j) h=gi (cH M j) g:=by
 have h1:=lA hM hi hf;have h2:=lA hM hj hg;rw [ot h1.1.1 h1.1.2];constructor
 ·rintro⟨_,h,hh,i',dt,k,hk,e1,e2⟩;obtain⟨rfl,e3⟩:=(H3 hM hi dt hf hh).1 e1.symm;obtain⟨rfl,e4⟩:=(H3 hM hj (by omega) hg hh).1 e2.symm;exact⟨hk,h,hh,e3,e4⟩
 rintro⟨sO,h,hh,e1,e2⟩;exact⟨h2.1,h,hh,i,hi,j,sO,(rN.2 e1).symm,(rN.2 e2).symm⟩
theorem J3(hM:bg M){f g:Nat}(hi:i<M.length)(hj:j<M.length)(hf:f< (gl M 0).length)(hg:g< (gl M 0).length):dJ (aH M M.length) (bE M) (bC M j g+1) (bC M i f+1)↔(j=i/\gi (cH M i) g=gi (cH M i) f)\/(j<i/\∃h:Nat,h< (gl M 0).length/\gi (cH M i) h=gi (cH M i) f/\gi (cH M j) h=gi (cH M j) g):=by
 rw [<-H3 hM hi hj hf hg,<-aaV hM hi hj hf hg];have h1:=lA hM hi hf;have h2:=lA hM hj hg;unfold dJ;rw [Int.add_sub_cancel,Int.add_sub_cancel];constructor
 ·rintro(e | e | e | ⟨_,_,_,_,h⟩)
  ·exact .inl (by omega)
  ·omega
  ·omega
  exact .inr h
 rintro(e | h)
 ·exact .inl (by omega)
 exact .inr (.inr (.inr ⟨by omega,by omega,by omega,by omega,h⟩))
theorem JP(hM:bg M){f:Nat}(hi:i<M.length)(hf:f< (gl M 0).length):(0<=bC M.reverse (M.length - 1 - i) f/\bC M.reverse (M.length - 1 - i) f< (aH M M.length:Int))/\gi (bn M.reverse M.length) (bC M.reverse (M.length - 1 - i) f)=((M.length - 1 - i:Nat):Int):=by
 have h:=lA (yM hM) (i:=M.length - 1 - i) (f:=f) (by rw [List.length_reverse];omega) (by rw [ub hM];exact hf);rw [List.length_reverse,Cx hM]at h;exact h
theorem sC(hM:bg M){a:Int}(h0:0<=a)(h9:a< ((aH M M.length+2:Nat):Int)):a=0\/a=(aH M M.length:Int)+1\/∃i:Nat,i<M.length/\∃f:Nat,f< (gl M 0).length/\a=bC M i f+1:=by
 by_cases e0:a=0
 ·exact .inl e0
 by_cases e9:a=(aH M M.length:Int)+1
 ·exact .inr (.inl e9)
 obtain⟨i,hi,f,hf,e⟩:=RJ hM (e:=a - 1) (by omega) (by omega);exact .inr (.inr ⟨i,hi,f,hf,by omega⟩)
theorem Bm(M:ah):tw M 0=(aH M M.length:Int)+1:=rfl
theorem Bn(M:ah):tw M ((aH M M.length:Int)+1)=0:=by
 unfold tw;rw [aw (by omega),ay rfl]
theorem Rm(hM:bg M){a:Int}(h0:0<=a)(h1:a< ((aH M M.length+2:Nat):Int)):tw M.reverse (tw M a)=a:=by
 have ho:aH M.reverse M.reverse.length=aH M M.length:=by rw [List.length_reverse,Cx hM]
 rcases sC hM h0 h1 with rfl | rfl | ⟨i,hi,f,hf,rfl⟩
 ·rw [Bm,<-ho,Bn]
 ·rw [Bn,Bm,ho]
 rw [zx hM hi hf];have:=zx (yM hM) (i:=M.length - 1 - i) (f:=f) (by rw [List.length_reverse];omega) (by rw [ub hM];exact hf);rw [this,List.reverse_reverse,List.length_reverse,show M.length - 1 - (M.length - 1 - i)=i by omega]
theorem Rl(hM:bg M){a:Int}(h0:0<=a)(h1:a< ((aH M M.length+2:Nat):Int)):0<=tw M a/\tw M a< ((aH M M.length+2:Nat):Int):=by
 rcases sC hM h0 h1 with rfl | rfl | ⟨i,hi,f,hf,rfl⟩
 ·rw [Bm];omega
 ·rw [Bn];omega
 rw [zx hM hi hf];have:=(JP hM hi hf).1;omega
theorem ah8(hM:bg M):qD (aH M M.length+2) M.length (gi (eS M.length (bn M M.length))) (gi (eS M.length (bn M.reverse M.length))) (dJ (aH M M.length) (bE M)) (dJ (aH M M.length) (bE M.reverse)) (tw M) (tw M.reverse):=by
 have FC:=yM hM;have ho:aH M.reverse M.length=aH M M.length:=Cx hM;have hl:=je M M.length;have vL:=je M.reverse M.length;have r0:gi (eS M.length (bn M M.length)) 0= -1:=O;have r9:gi (eS M.length (bn M M.length)) ((aH M M.length:Int)+1)=M.length:=by rw [<-hl];exact xK _ _
 have r0':gi (eS M.length (bn M.reverse M.length)) 0= -1:=O;have r9':gi (eS M.length (bn M.reverse M.length)) ((aH M M.length:Int)+1)=M.length:=by rw [<-ho,<-vL];exact xK _ _
 have rm:∀(i f:Nat),i<M.length->f< (gl M 0).length->gi (eS M.length (bn M M.length)) (bC M i f+1)=i:=fun i f hi hf=>by
  have h:=lA hM hi hf;rw [uE _ _ (by omega) (by omega),Int.add_sub_cancel];exact h.2
 have rm':∀(i f:Nat),i<M.length->f< (gl M 0).length->gi (eS M.length (bn M.reverse M.length)) (bC M.reverse (M.length - 1 - i) f+1)=((M.length - 1 - i:Nat):Int):=fun i f hi hf=>by
  have h:=JP hM hi hf;rw [uE _ _ (by omega) (by omega),Int.add_sub_cancel];exact h.2
 refine⟨fun a h0 h1=>Rl hM h0 h1,fun a h0 h1=>?_,fun a h0 h1=>Rm hM h0 h1,fun a h0 h1=>?_,fun a h0 h1=>?_,fun a b h0 h1 h2 h3=>?_⟩
 ·have h:=Rl FC (a:=a) h0 (by rw [List.length_reverse,ho];exact h1);rw [List.length_reverse,ho]at h;exact h
 ·have h:=Rm FC (a:=a) h0 (by rw [List.length_reverse,ho];exact h1);rw [List.reverse_reverse]at h;exact h
 ·rcases sC hM h0 h1 with rfl | rfl | ⟨i,hi,f,hf,rfl⟩
  ·rw [Bm,r9',r0];omega
  ·rw [Bn,r0',r9];omega
  rw [zx hM hi hf,rm' i f hi hf,rm i f hi hf];omega
 rcases sC hM h0 h1 with rfl | rfl | ⟨i,hi,f,hf,rfl⟩
 ·rw [Bm];exact⟨fun _=> .inr (.inl O),fun _=> .inr (.inr (.inl O))⟩
 ·rw [Bn];rcases sC hM h2 h3 with rfl | rfl | ⟨j,hj,g,hg,rfl⟩
  ·rw [Bm];unfold dJ;omega
  ·rw [Bn];exact⟨fun _=> .inl O,fun _=> .inl O⟩
  rw [zx hM hj hg];have q1:=(JP hM hj hg).1;have q2:=(lA hM hj hg).1;unfold dJ;omega
 rcases sC hM h2 h3 with rfl | rfl | ⟨j,hj,g,hg,rfl⟩
 ·rw [zx hM hi hf,Bm];have q1:=(JP hM hi hf).1;have q2:=(lA hM hi hf).1;unfold dJ;omega
 ·rw [Bn];exact⟨fun _=> .inr (.inr (.inl O)),fun _=> .inr (.inl O)⟩
 rw [zx hM hi hf,zx hM hj hg,J3 hM hj hi hg hf];have h:=J3 FC (i:=M.length - 1 - i) (j:=M.length - 1 - j) (f:=f) (g:=g) (by rw [List.length_reverse];omega) (by rw [List.length_reverse];omega) (by rw [ub hM];exact hf) (by rw [ub hM];exact hg);rw [List.length_reverse,ho,JO hM hi,JO hM hj,ub hM]at h;rw [h];constructor
 ·rintro(⟨e1,e2⟩ | ⟨e1,x,hx,e2,e3⟩)
  ·obtain rfl:j=i:=by omega
   exact .inl ⟨O,e2.symm⟩
  exact .inr ⟨by omega,x,hx,e3,e2⟩
 rintro(⟨e1,e2⟩ | ⟨e1,x,hx,e2,e3⟩)
 ·subst e1;exact .inl ⟨O,e2.symm⟩
 exact .inr ⟨by omega,x,hx,e3,e2⟩
end
theorem ptF:qD 2 0 (gi [-1,0]) (gi [-1,0]) (dJ 0 []) (dJ 0 []) (fun a=>1 - a) (fun a=>1 - a):=by
 have e:∀a:Int,0<=a->a< (2:Nat)->gi [-1,0] a=a - 1:=fun a h0 h1=>by
  rcases(show a=0\/a=1 by omega)with rfl | rfl<;>rfl
 refine⟨fun a h0 h1=>by omega,fun a h0 h1=>by omega,fun a h0 h1=>by omega,fun a h0 h1=>by omega,fun a h0 h1=>by rw [e a h0 h1,e (1 - a) (by omega) (by omega)];omega,fun a b h0 h1 h2 h3=>?_⟩;rcases(show a=0\/a=1 by omega)with rfl | rfl<;>rcases(show b=0\/b=1 by omega)with rfl | rfl<;>decide
theorem Wj:uk 2 (gi [-1,0]) (dJ 0 []):=fun a b ha hb _ hr=>by
 have r1:=sV.dp ha;have r2:=sV.dp hb;omega
theorem ahF:mZ (kA 2 (gi [-1,0])) (dJ 0 []):=fun i j a b ha hb _ iJ=>by
 have r1:=sV.dp ha.1;have r2:=sV.dp hb.1;have h1:=ha.2;have h2:=hb.2;omega
theorem ahW{M:ah}(hg:ir M=0):zl (M.length+1) (ic M) (nw M):=by
 obtain⟨gr,gF⟩:=kf hg;have l1:=pU gr gF.1;have d1:=De (nQ gr gF.1) gF.2.2.2.2.1;have c1:=C7 (nQ gr gF.1) gF.2.2.1;rw [je]at d1 c1;have m1:=gr.1;obtain⟨b1,s1,_⟩:=H6 hg;exact We (n2:=0) l1 sV b1 Wj s1 ahF d1 QT c1 QD (kind:=0) (by omega) (k:=M.length+1) (by unfold fT;rw [if_pos O];omega) (by omega) ⟨by omega,.inr O⟩
theorem ahD:mT (kA 2 (gi [-1,0])) (dJ 0 []) (fun a=>if a=0 then [1]else []) where
 nd:=fun {p a} _=>by
  show(if a=0 then [(1:Int)]else []).Nodup
  split<;>simp
 mem:=fun {p a b} ha=>by
  have e:∀a:Int,0<=a->a< (2:Nat)->gi [-1,0] a=a - 1:=fun a h0 h1=>by
   rcases(show a=0\/a=1 by omega)with rfl | rfl<;>rfl
  have h1:=ha.2;rw [e a ha.1.1 ha.1.2]at h1;show b∈(if a=0 then [(1:Int)]else [])↔_
  by_cases h0:a=0
  ·subst h0;rw [ay rfl,fm];obtain rfl:p=0:=by omega
   constructor
   ·rintro rfl;exact⟨⟨⟨by omega,by omega⟩,rfl⟩,.inr (.inl rfl)⟩
   rintro⟨⟨hr,h2⟩,_⟩;rw [e b hr.1 hr.2]at h2;omega
  rw [aw h0];constructor
  ·intro h;cases h
  rintro⟨⟨hr,h2⟩,_⟩;rw [e b hr.1 hr.2]at h2;have:=ha.1;omega
theorem ahV{M:ah}(hg:ir M=0):(aC (M.length+1) (ic M) (nw M)).length=(gl M 0).length* (M.length+2):=by
 obtain⟨gr,gF⟩:=kf hg;have l1:=pU gr gF.1;obtain⟨b1,s1,U1,e1,f1⟩:=H6 hg;have:=Wd (n2:=0) l1 sV b1 Wj e1 ahD (kind:=0) (by omega) (k:=M.length+1) (by unfold fT;rw [if_pos O];omega) (by omega);rw [f1,ay rfl,Zh]at this;have h1:cU (fun a:Int=>if a=0 then [(1:Int)]else []) 0 0=1:=O;rw [h1,Nat.mul_one]at this;exact this
theorem ahX(M:ah):(ic M).length<=(aH M M.length+2)*2:=by
 unfold ic;rw [fj];exact ahs _
theorem Ov{M:ah}(hg:ir M=0)(h5:M.length+1<=5)(wH:(ic M).length<=500)(hf:(aC (M.length+1) (ic M) (nw M)).length<=400):fF (M.length+1) (ic M) (nw M)/\eV M=bZ (M.length+1) (aC (M.length+1) (ic M) (nw M))/\mg M=0:=by
 have hx:=Aw hf;refine⟨⟨(Ow hg h5 wH).1,ahW hg,h5,hf⟩,?_,?_⟩
 ·unfold eV;rw [if_pos hg,if_neg (by omega)];exact hx.2.2
 unfold mg;rw [if_pos hg,if_neg (by omega)];exact hx.1
theorem JJ{M:ah}(hg:ir M=0):mg M=if M.length+1<=5/\(ic M).length<=500/\(aC (M.length+1) (ic M) (nw M)).length<=400 then 0 else 3:=by
 unfold mg;rw [ay hg]
 by_cases h:5<M.length+1\/500< (ic M).length
 ·rw [ay h,aw (by omega)]
 rw [aw h]
 by_cases hf:(aC (M.length+1) (ic M) (nw M)).length<=400
 ·rw [ay ⟨by omega,by omega,hf⟩];exact(Aw hf).1
 rw [aw (by omega)];exact(Jz hf).1
theorem ahS{M:ah}(hg:ir M=0):((mh (ic M) 0).length:Int)=fA M 0+1/\((mh (ic M) (M.length:Int)).length:Int)=fA M (M.length - 1)+1:=by
 obtain⟨gr,gF⟩:=kf hg;have m1:=gr.1;have l1:=pU gr gF.1;have q1:∀e:Int,0<=e->e< (bn M M.length).length->0<=gi (bn M M.length) e/\gi (bn M M.length) e<M.length:=fun e h0 h1=>by
  have:=(nQ gr gF.1).ri h0 h1;omega
 have e2:∀t:Nat,cE 2 (fun a=> (gi [-1,0] a+1).toNat) (fun _=>true) t=if t<=1 then 1 else 0:=fun t=>by
  match t with
  | 0=>rfl
  | 1=>rfl
  | t+2=>
   rw [aw (by omega)];show([0,1].filter _).length=0;rw [List.filter_eq_nil_iff.2 fun a ha=>by
    rcases jn.1 ha with rfl | ha
    ·simp [gi]
    ·obtain rfl:=fm.1 ha;simp [gi]]
   rfl
 have key:∀i:Nat,i<M.length+1->((mh (ic M) i).length:Int)=qa (M.length+2) fun t=> (zz M.length (bn M M.length)).getD t 0* (if t<=i+1 then((if i+1 - t<=1 then 1 else 0:Nat):Int)else 0):=fun i hi=>by
  unfold ic Ee;rw [ahw hi,aht (ok1:=rq 0 (aH M M.length)) (ok2:=fun _=>true) (k1:=fun a=> (lg M a+1).toNat) (k2:=fun a=> (gi [-1,0] a+1).toNat) (P:=M.length+2) (s:=i+1) (fun a h0 h1=>by
   have:=l1.dp (a:=a) ⟨h0,h1⟩;omega) (fun a b h0 h1 h2 h3=>by
   have r1:=l1.dp (a:=a) ⟨h0,h1⟩;have r2:=sV.dp (a:=b) ⟨h2,h3⟩;have e1:rq 0 (aH M M.length) a=true:=by
    unfold rq;simp
   have hk:∀x y:Int,-1<=x-> -1<=y->((x+1).toNat+ (y+1).toNat=i+1↔x+y+1=(i:Int)):=fun x y h0 h1=>by omega
   have hk:=hk _ _ r1.1 r2.1;constructor
   ·rintro⟨q,_⟩;exact⟨e1,rfl,hk.2 q⟩
   ·rintro⟨_,_,q⟩;refine⟨hk.1 q,fun h=>?_⟩;rcases h with h | h
    ·exact absurd h.1 (by decide)
    ·exact absurd h.1 (by decide))]
  refine Er fun t _=>?_
  have c1:=aaL q1 0 t;rw [je]at c1;have c2:HZ 0 M.length (bn M M.length)=zz M.length (bn M M.length):=O;rw [<-c1,c2,e2]
 have two:∀(g:Nat->Int) (P a:Nat),a+1<P->qa P (fun t=>g t* (if t<=a+1 then((if a+1 - t<=1 then 1 else 0:Nat):Int)else 0))=g a+g (a+1):=fun g P a ha=>by
  rw [Er (h:=fun t=> (if a=t then g a else 0)+ (if a+1=t then g (a+1)else 0)) fun t _=>by
   by_cases h1:a=t
   ·subst h1;rw [ay (by omega),ay (by omega),ay rfl,aw (by omega)];simp
   ·by_cases h2:a+1=t
    ·subst h2;rw [ay (by omega),ay (by omega),aw h1,ay rfl];simp
    ·rw [aw h1,aw h2]
     by_cases h3:t<=a+1
     ·rw [ay h3,aw (by omega)];simp
     ·rw [aw h3];simp,OP,JX _ (by omega),JX _ ha]
 have c0:=key 0 (by omega);have c9:=key M.length (by omega);rw [two _ _ 0 (by omega)]at c0;rw [two _ _ M.length (by omega)]at c9;rw [Ln,Ln]at c0 c9;rw [ay rfl,aw (by omega),ay (by omega),show((0+1:Nat):Int) - 1=((0:Nat):Int) by omega,RH M (by omega)]at c0;rw [aw (by omega),ay (bB _),aw (by omega),aw (by omega),ay rfl,show(M.length:Int) - 1=((M.length - 1:Nat):Int) by omega,RH M (by omega)]at c9;exact⟨by rw [show(0:Int)=((0:Nat):Int) from O];omega,by omega⟩
theorem ahU{M:ah}(hg:ir M=0)(h5:M.length+1<=5)(wH:(aH M M.length+2)*2<=500)(hf:(gl M 0).length* (M.length+2)<=400):mg M=0/\ir (eV M)=0/\(eV M).length=M.length+1/\(gl (eV M) 0).length=(gl M 0).length* (M.length+2):=by
 have h1:=ahX M;have h2:=ahV hg;have p:=Ov hg h5 (by omega) (by omega);exact⟨p.2.2,by rw [p.2.1];exact p.1.gd,by rw [p.2.1];exact p.1.len,by rw [p.2.1,p.1.nl,h2]⟩
structure Py(m:Nat)(rk Ej:Int->Int)(gx Et:Int->Int->Prop)(δ gk:Int->Int):Prop where
 to:∀a:Int,0<=a->a<m->0<=δ a/\δ a<m
 qJ:∀a:Int,0<=a->a<m->0<=gk a/\gk a<m
 l:∀a:Int,0<=a->a<m->gk (δ a)=a
 r:∀a:Int,0<=a->a<m->δ (gk a)=a
 rk:∀a:Int,0<=a->a<m->Ej (δ a)=rk a
 ux:∀a b:Int,0<=a->a<m->0<=b->b<m->(Et (δ a) (δ b)↔gx a b)
theorem qD.iso{m:Nat}{n:Int}{rk rk1 rk2:Int->Int}{gx cO cL:Int->Int->Prop}{δ gk η G9:Int->Int}(h:qD m n rk rk1 gx cO δ gk)(h2:Py m rk1 rk2 cO cL η G9):qD m n rk rk2 gx cL (fun a=>η (δ a)) (fun a=>gk (G9 a)) where
 to:=fun a h0 h1=>by have:=h.to a h0 h1;exact h2.to _ this.1 this.2
 qJ:=fun a h0 h1=>by have:=h2.qJ a h0 h1;exact h.qJ _ this.1 this.2
 l:=fun a h0 h1=>by have:=h.to a h0 h1;show gk (G9 (η (δ a)))=a;rw [h2.l _ this.1 this.2,h.l a h0 h1]
 r:=fun a h0 h1=>by have:=h2.qJ a h0 h1;show η (δ (gk (G9 a)))=a;rw [h.r _ this.1 this.2,h2.r a h0 h1]
 rk:=fun a h0 h1=>by have:=h.to a h0 h1;rw [h2.rk _ this.1 this.2,h.rk a h0 h1]
 ux:=fun a b a0 a1 b0 b1=>by
  have ha:=h.to a a0 a1;have hb:=h.to b b0 b1;rw [h2.ux _ _ hb.1 hb.2 ha.1 ha.2,h.ux a b a0 a1 b0 b1]
section
variable {N:Nat} {X Y:ah} {φ:Int->Int}
theorem WB(hX:bg X){i f:Nat}(hi:i<X.length)(hf:f< (gl X 0).length):lg X (bC X i f+1)=i:=by
 have h:=lA hX hi hf;have hl:=je X X.length;show gi (eS X.length (bn X X.length)) _=_;rw [uE _ _ (by omega) (by omega),Int.add_sub_cancel];exact h.2
theorem WC(X:ah):lg X ((aH X X.length:Int)+1)=X.length:=by
 have hl:=je X X.length;show gi (eS X.length (bn X X.length)) _=_;rw [<-hl];exact xK _ _
theorem gM.aaw(h:gM N X Y φ)(hX:bg X)(hY:bg Y)(hN:N=(gl X 0).length)(ma:N=(gl Y 0).length):∃δ gk:Int->Int,Py (aH X X.length+2) (lg X) (lg Y) (qb X) (qb Y) δ gk:=by
 have ho:aH Y Y.length=aH X X.length:=by rw [h.len];exact h.off hX hY hN ma _
 have key:∀ {X Y:ah} {φ:Int->Int},gM N X Y φ->bg X->bg Y->N=(gl X 0).length->N=(gl Y 0).length->aH Y Y.length=aH X X.length->
  ∃δ:Int->Int,(δ 0=0/\δ ((aH X X.length:Int)+1)=(aH X X.length:Int)+1)/\∀i f:Nat,i<X.length->f<N->δ (bC X i f+1)=bC Y i (φ (f:Int)).toNat+1:=by
  intro X Y φ h hX hY hN ma ho;have hex:∀a:Int,∃b:Int,(a=0->b=0)/\(a=(aH X X.length:Int)+1->b=(aH X X.length:Int)+1)/\∀i f:Nat,i<X.length->f<N->a=bC X i f+1->b=bC Y i (φ (f:Int)).toNat+1:=fun a=>by
   by_cases hm:∃i f:Nat,i<X.length/\f<N/\a=bC X i f+1
   ·obtain⟨i,f,hi,hf,rfl⟩:=hm;have hr:=(lA hX hi (show f< (gl X 0).length by omega)).1;refine⟨bC Y i (φ (f:Int)).toNat+1,fun e=>by omega,fun e=>by omega,fun j g hj hg e=>?_⟩;obtain⟨rfl,e2⟩:=(H3 hX hi hj (show f< (gl X 0).length by omega) (show g< (gl X 0).length by omega)).1 (show bC X j g=bC X i f by omega);have r1:=h.dp (f:Int) (by omega) (by omega);have r2:=h.dp (g:Int) (by omega) (by omega);have:=(h.bD hX hY hN ma (k:=j) (f:=(g:Int)) (g:=(f:Int)) (by omega) (by omega) (by omega) (by omega)).2 e2;have e3:bC Y j (φ (g:Int)).toNat=bC Y j (φ (f:Int)).toNat:=rN.2 (by rw [Int.toNat_of_nonneg r1.1,Int.toNat_of_nonneg r2.1];exact this);rw [e3]
   by_cases h0:a=0
   ·exact⟨0,fun _=>O,fun e=>by omega,fun i f hi hf e=>absurd ⟨i,f,hi,hf,e⟩ hm⟩
   exact⟨(aH X X.length:Int)+1,fun e=>absurd e h0,fun _=>O,fun i f hi hf e=>absurd ⟨i,f,hi,hf,e⟩ hm⟩
  obtain⟨δ,ND⟩:=Classical.axiomOfChoice hex;exact⟨δ,⟨(ND 0).1 O,(ND _).2.1 O⟩,fun i f hi hf=> (ND _).2.2 i f hi hf O⟩
 have hs:Sys N X:=by rw [hN];exact hX.2.2.1.sys
 obtain⟨ψ,hi,hl,hr⟩:=h.inv hs;obtain⟨δ,⟨d0,d9⟩,dm⟩:=key h hX hY hN ma ho;obtain⟨gk,⟨e0,e9⟩,em⟩:=key hi hY hX ma hN ho.symm;rw [ho]at e9;have hlen:=h.len;have fl:∀f:Nat,f<N->(φ (f:Int)).toNat<N/\((φ (f:Int)).toNat:Int)=φ (f:Int)/\(ψ ((φ (f:Int)).toNat:Int)).toNat=f:=fun f hf=>by
  have h1:=h.dp (f:Int) (by omega) (by omega);have h2:((φ (f:Int)).toNat:Int)=φ (f:Int):=Int.toNat_of_nonneg h1.1;exact⟨by omega,h2,by rw [h2,hl _ (by omega) (by omega)];rfl⟩
 have fr:∀f:Nat,f<N->(ψ (f:Int)).toNat<N/\(φ ((ψ (f:Int)).toNat:Int)).toNat=f:=fun f hf=>by
  have h1:=hi.dp (f:Int) (by omega) (by omega);have h2:((ψ (f:Int)).toNat:Int)=ψ (f:Int):=Int.toNat_of_nonneg h1.1;exact⟨by omega,by rw [h2,hr _ (by omega) (by omega)];rfl⟩
 refine⟨δ,gk,fun a h0 h1=>?_,fun a h0 h1=>?_,fun a h0 h1=>?_,fun a h0 h1=>?_,fun a h0 h1=>?_,fun a b a0 a1 b0 b1=>?_⟩
 ·rcases sC hX h0 h1 with rfl | rfl | ⟨i,dt,f,hf,rfl⟩
  ·rw [d0];omega
  ·rw [d9];omega
  rw [dm i f dt (by omega)];have:=(lA hY (i:=i) (f:=(φ (f:Int)).toNat) (by omega) (by have:=(fl f (by omega)).1;omega)).1;omega
 ·rcases sC hY h0 (by rw [ho];exact h1)with rfl | rfl | ⟨i,dt,f,hf,rfl⟩
  ·rw [e0];omega
  ·rw [ho,e9];omega
  rw [em i f dt (by omega)];have:=(lA hX (i:=i) (f:=(ψ (f:Int)).toNat) (by omega) (by have:=(fr f (by omega)).1;omega)).1;omega
 ·rcases sC hX h0 h1 with rfl | rfl | ⟨i,dt,f,hf,rfl⟩
  ·rw [d0,e0]
  ·rw [d9,e9]
  have q:=fl f (by omega);rw [dm i f dt (by omega),em i _ (by omega) q.1,q.2.2]
 ·rcases sC hY h0 (by rw [ho];exact h1)with rfl | rfl | ⟨i,dt,f,hf,rfl⟩
  ·rw [e0,d0]
  ·rw [ho,e9,d9]
  have q:=fr f (by omega);rw [em i f dt (by omega),dm i _ (by omega) q.1,q.2]
 ·rcases sC hX h0 h1 with rfl | rfl | ⟨i,dt,f,hf,rfl⟩
  ·rw [d0];rfl
  ·rw [d9,WC X,<-ho,WC Y,hlen]
  rw [dm i f dt (by omega),WB hX dt hf,WB hY (by omega) (by have:=(fl f (by omega)).1;omega)]
 rcases sC hX a0 a1 with rfl | rfl | ⟨i,dt,f,hf,rfl⟩
 ·rw [d0];exact⟨fun _=> .inr (.inl O),fun _=> .inr (.inl O)⟩
 ·rw [d9];rcases sC hX b0 b1 with rfl | rfl | ⟨j,hj,g,hg,rfl⟩
  ·rw [d0];unfold qb dJ;omega
  ·rw [d9];exact⟨fun _=> .inl O,fun _=> .inl O⟩
  rw [dm j g hj (by omega)];have q1:=(lA hX hj hg).1;have q2:=(lA hY (i:=j) (f:=(φ (g:Int)).toNat) (by omega) (by have:=(fl g (by omega)).1;omega)).1;unfold qb dJ;omega
 rcases sC hX b0 b1 with rfl | rfl | ⟨j,hj,g,hg,rfl⟩
 ·rw [dm i f dt (by omega),d0];have q1:=(lA hX dt hf).1;have q2:=(lA hY (i:=i) (f:=(φ (f:Int)).toNat) (by omega) (by have:=(fl f (by omega)).1;omega)).1;unfold qb dJ;omega
 ·rw [d9];exact⟨fun _=> .inr (.inr (.inl O)),fun _=> .inr (.inr (.inl (by rw [ho])))⟩
 rw [dm i f dt (by omega),dm j g hj (by omega)];have qf:=fl f (by omega);have qg:=fl g (by omega);have u1:=J3 hX hj dt hg hf;have u2:=J3 hY (i:=j) (j:=i) (f:=(φ (g:Int)).toNat) (g:=(φ (f:Int)).toNat) (by omega) (by omega) (by omega) (by omega);show dJ (aH Y Y.length) (bE Y) _ _↔dJ (aH X X.length) (bE X) _ _;rw [u1,u2,qf.2.1,qg.2.1,h.bD hX hY hN ma (by omega) (by omega) (by omega) (by omega)];refine or_congr Iff.rfl (and_congr Iff.rfl ?_);constructor
 ·rintro⟨x,hx,e1,e2⟩;have q:=fr x (by omega);have q2:φ ((ψ (x:Int)).toNat:Int)=(x:Int):=by
   have:=h.dp ((ψ (x:Int)).toNat:Int) (by omega) (by omega);omega
  rw [<-q2]at e1 e2;exact⟨(ψ (x:Int)).toNat,by omega,(h.bD hX hY hN ma (by omega) (by omega) (by omega) (by omega)).1 e1,(h.bD hX hY hN ma (by omega) (by omega) (by omega) (by omega)).1 e2⟩
 rintro⟨x,hx,e1,e2⟩;have q:=fl x (by omega);exact⟨(φ (x:Int)).toNat,by omega,by rw [q.2.1];exact(h.bD hX hY hN ma (by omega) (by omega) (by omega) (by omega)).2 e1,by rw [q.2.1];exact(h.bD hX hY hN ma (by omega) (by omega) (by omega) (by omega)).2 e2⟩
end
structure ti(M D:ah):Prop where
 m:bg M
 d:bg D
 len:D.length=M.length
 off:aH D D.length=aH M M.length
 num:(gl D 0).length=(gl M 0).length
 gd:ir M=0->ir D=0
 Kx:∃δ gk:Int->Int,qD (aH M M.length+2) M.length (lg M) (lg D) (qb M) (qb D) δ gk
theorem Q0{M D:ah}{φ:Int->Int}(hM:bg M)(hD:bg D)(hN:(gl M 0).length=(gl D 0).length)(h:gM (gl M 0).length M.reverse D φ):ti M D:=by
 have hR:=yM hM;have vy:=ub hM;have ho:=h.off hR hD vy.symm hN;have hl:D.length=M.length:=by rw [h.len,List.length_reverse]
 obtain⟨η,G9,UA⟩:=h.aaw hR hD vy.symm hN;rw [List.length_reverse,Cx hM]at UA;have hA:=ah8 hM;have xR:qD (aH M M.length+2) M.length (lg M) (lg M.reverse) (qb M) (qb M.reverse) (tw M) (tw M.reverse):=by
  unfold lg qb;rw [List.length_reverse,Cx hM];exact hA
 refine⟨hM,hD,hl,by rw [hl,ho,Cx hM],hN.symm,fun hg=>Ff hD (h.LA hR hD vy.symm hN (aia hM (kf hg).2)),_,_,xR.iso UA⟩
theorem K3{M:ah}(hM:bg M):ti M (my (gl M 0).length M.reverse 0):=by
 have hR:=yM hM;have vy:=ub hM;have hN:=hM.2.1;have hi:=aaQ hR vy.symm (f:=0) (Int.le_refl _) (by omega);have rS:(gl M 0).length=(gl (my (gl M 0).length M.reverse 0) 0).length:=(hi.1.Ep.row (i:=0) (by have:=hM.1;rw [List.length_reverse];omega)).symm;exact Q0 hM hi.2 rS (H2 hR vy.symm (Int.le_refl _) (by omega))
theorem QZ:ti dF dF:=Q0 (φ:=fun x=>x) Q1 Q1 rfl ⟨rfl,fun x h0 h1=> ⟨h0,h1⟩,fun x y _ _ _ _ e=>e,fun i x _ _ _=>rfl⟩
theorem aaj{kind:Int}(hk:0<=kind/\kind<=2):0<=gV kind/\gV kind<=2:=by unfold gV;split<;> (try split)<;>omega
section
variable {M D K L:ah} {kind:Int}
theorem ti.NU(h:ti M D)(hb:aH M M.length<=500):eY (aH M M.length+2) M.length (lg D) (qb D):=by
 have:=pU h.d (by rw [h.off];exact hb)
 rwa [h.off,h.len]at this
theorem agZ(h1:ti M D)(h2:ti K L)(FD:aH M M.length<=500)(Sy:aH K K.length<=500)(hk:0<=kind/\kind<=2):
 gh D L (gV kind)=gh M K kind/\∃δ gk:Int->Int,sq (gh M K kind) (jr M K kind) (pn M K kind) (jr D L (gV kind)) (pn D L (gV kind)) δ gk:=by
 have hn:gh D L (gV kind)=gh M K kind:=by
  unfold gh fT gV;rw [h1.len,h2.len]
  by_cases k1:kind=1
  ·subst k1;rfl
  by_cases k2:kind=2
  ·subst k2;rfl
  rw [aw k1,aw k2]
 refine⟨hn,?_⟩;obtain⟨xp,CF,a1⟩:=h1.Kx;obtain⟨yX,Ey,a2⟩:=h2.Kx;have h:=a1.prod (pU h1.m FD) (pU h2.m Sy) (h1.NU FD) (h2.NU Sy) a2 hk (GL (kind:=kind) h1.m h2.m);have eL:GK D L (gV kind)=cg (aH M M.length+2) (aH K K.length+2) (lg D) (lg L) (gV kind) (gh M K kind):=by
  unfold GK;rw [hn,h1.off,h2.off]
 unfold jr pn;rw [eL];exact h
theorem HV(h1:ti M D)(h2:ti K L):rL D L (gV kind)=rL M K kind:=by
 unfold rL gV;rw [h1.num,h2.num,h1.len,h2.len]
 by_cases k1:kind=1
 ·subst k1;rfl
 by_cases k2:kind=2
 ·subst k2;rfl
 rw [aw k1,aw k2]
theorem ahm(h1:ti M D)(h2:ti K L)(h:iU M K kind=0):iU D L (gV kind)=0/\(rL M K kind<=400->bg (eH M K kind)/\bg (eH D L (gV kind))/\(gl (eH M K kind) 0).length=rL M K kind/\(gl (eH D L (gV kind)) 0).length=rL M K kind/\
 ∃φ:Int->Int,gM (rL M K kind) (eH D L (gV kind)) (eH M K kind).reverse φ):=by
 obtain⟨hp,h5,wH⟩:=GR h;obtain⟨nj,sL,sK⟩:=Cv hp;obtain⟨gr,gF⟩:=kf sL;obtain⟨l8,nF⟩:=kf sK;obtain⟨hn,δ,gk,hA⟩:=agZ (kind:=kind) h1 h2 gF.1 nF.1 nj;have eM:=aaj nj;have nm:lV D L (gV kind)=0:=by
  unfold lV;rw [ay ⟨h1.d,h2.d⟩,ay eM,ay (h1.gd sL),h2.gd sK]
 have h':iU D L (gV kind)=0:=by
  unfold iU;rw [ay nm,aw (by rw [hn,hA.len];omega)]
 refine⟨h',fun hf=>?_⟩;have kS:rL D L (gV kind)<=400:=by rw [HV h1 h2];exact hf
 have g:=V0 h hf;have g':=V0 h' kS;have hq:=GO h;have wU:=GO h';have hY:=On h hf;have S0:=On h' kS;have e:eH M K kind=bZ (gh M K kind) (aC (gh M K kind) (jr M K kind) (pn M K kind)):=by
  unfold eH;rw [if_pos h];exact(Aw (by rw [hq.2];exact hf)).2.2
 have e':eH D L (gV kind)=bZ (gh M K kind) (aC (gh M K kind) (jr D L (gV kind)) (pn D L (gV kind))):=by
  unfold eH;rw [if_pos h',hn];exact(Aw (by rw [hn]at wU;rw [wU.2];exact kS)).2.2
 refine⟨(kf g.1).1,(kf g'.1).1,g.2.2.1,by rw [g'.2.2.1,HV h1 h2],?_⟩;rw [hn]at S0 wU;obtain⟨φ,hI,_⟩:=hA.symm.UN hY.n1 S0.nb hY.nb;rw [wU.2,HV h1 h2]at hI;exact⟨φ,by rw [e,e'];exact hI.rev⟩
theorem ahT(h1:ti M D)(hg:ir M=0):mg D=mg M/\(mg M=0->bg (eV M)/\bg (eV D)/\(eV M).length=M.length+1/\(gl (eV D) 0).length=(gl (eV M) 0).length/\fI (eV M)=vk (M.length+1) (ic M)/\∃φ:Int->Int,gM (gl (eV M) 0).length (eV M).reverse (eV D) φ):=by
 obtain⟨gr,gF⟩:=kf hg;have mI:=h1.gd hg;obtain⟨xp,CF,a1⟩:=h1.Kx;obtain⟨δ,gk,hA⟩:∃δ gk:Int->Int,sq (M.length+1) (ic M) (nw M) (ic D) (nw D) δ gk:=by
  have h:=a1.prod (pU h1.m gF.1) sV (h1.NU gF.1) sV ptF (kind:=0) (by omega) (k:=M.length+1) (by unfold fT;rw [if_pos O];omega);have eL:Ee D=cg (aH M M.length+2) (0+2) (lg D) (gi [-1,0]) 0 (M.length+1):=by
   unfold Ee;rw [h1.off,h1.len]
  unfold ic nw;rw [eL];exact h
 have wS:=hA.num (by omega);have e:mg D=mg M:=by rw [JJ hg,JJ mI,h1.len,wS,hA.len]
 refine⟨e,fun h0=>?_⟩;have h3:=JJ hg;rw [h0]at h3;have hc:M.length+1<=5/\(ic M).length<=500/\(aC (M.length+1) (ic M) (nw M)).length<=400:=by
  refine nA fun hn=>?_
  rw [aw hn]at h3;omega
 have p:=Ov hg hc.1 hc.2.1 hc.2.2;have p':=Ov mI (by rw [h1.len];exact hc.1) (by rw [hA.len];exact hc.2.1) (by rw [h1.len,wS];exact hc.2.2);rw [h1.len]at p';obtain⟨φ,hI,_⟩:=hA.UN (by omega) p.1.nb p'.1.nb;have wL:fI (bZ (M.length+1) (aC (M.length+1) (ic M) (nw M)))=vk (M.length+1) (ic M):=by
  unfold fI vk;rw [p.1.len];exact pB fun i hi=>p.1.qI (gP.1 hi)
 rw [p.2.1,p'.2.1];exact⟨p.1.vW,p'.1.vW,p.1.len,by rw [p.1.nl,p'.1.nl,wS],wL,φ,by rw [p.1.nl];exact hI⟩
end
end
section
open Go.RowKit
variable{ks:List Ck}{k':Ck}
theorem ON{i:Nat}{k:Ck}(h:ks[i]?=some k):ks.set i k=ks:=by
 apply List.ext_getElem?;intro j;rw [pA]
 split
 ·rename_i e;subst e;have hl:=(iQ.1 h).1;rw [ay hl,h]
 rfl
theorem ml{i:Nat}{k:Ck}(h:ks[i]?=some k):(ks.set i k')[i]?=some k':=by
 have hl:=(iQ.1 h).1;rw [pA,ay rfl,ay hl]
def gX(w0:aa)(As:aj)(k:Ck):Prop:=∃(Ac:aj) (nc cc:Nat) (a h:Int) (bs:ai),k=Bx 118 3 As [.slice Ac nc cc,ak a,.int .u64 h]/\(0<=a/\a<=nc)/\nc<=1000000/\tp w0 Ac nc bs
theorem yQ{w0 w:aa}(i:Nat){As:aj}{k:Ck}(n:Int)(hS:St w0 w ks)(hk:ks[i]?=some k)(hK:gX w0 As k):
 aN prog 135 [.pointer As,ak n] w (fun v w'=>∃(r:Int) (k':Ck),v=ak r/\(0<=r/\(1<=n->r<n)/\(n<1->r=0))/\gX w0 As k'/\St w0 w' (ks.set i k')):=by
 have Fz:=hK;obtain⟨Ac,nc,cc,a,h,bs,rfl,ha,rU,hY⟩:=hK;refine bI func135 O ntmps135 O (du O) (b8 O ?_);refine aR _ O (fun h1=>?_) (fun h1=>?_)
 ·refine eF O (jj O ?_);exact⟨0,_,O,⟨Int.le_refl _,fun h=>by omega,fun _=>O⟩,Fz,by rw [ON hk];exact hS⟩
 refine aG O (oh (hS.rd i hk) (Nat.succ_pos 2) O O (aW (hS.rd i hk) O (iW (k:= .u64) (hS.rd i hk) O O O O O ?_)));refine PN O O O fun r1 kG=>?_
 refine Hm O O O fun r2 sS=>?_
 refine oh (hS.rd i hk) (Nat.succ_pos 2) O O (aW (hS.rd i hk) O (ka i hS hk O O O O ?_));intro w1 aE;have fv:=ml (k':=(⟨As,3,3,118,[.slice Ac nc cc,ak a,.int .u64 r2]⟩:Ck)) hk;have aE:St w0 w1 (ks.set i (Bx 118 3 As [.slice Ac nc cc,ak a,.int .u64 r2])):=aE;refine ar O (oh (aE.rd i fv) (Nat.succ_pos 2) O O (aW (aE.rd i fv) O (iW (k:= .u64) (aE.rd i fv) O O O O O ?_)));refine Yn O O O fun r3=>?_
 refine XX O O O fun r4 Nb=>?_
 refine og O O (IntWalk.i64_in _ (by omega)) (aI O ?_);refine eB [xP (As),xP (As),xP (aB (As) 1),xI (a),xP (As),xP (As),xP (aB (As) 0),xS (Ac) (nc) (cc),xI (((nc:Nat):Int)),xB (decide ((a)< (((nc:Nat):Int))))] O (eQ O) ?_ ?_
 ·exact⟨Dr O,fun _ _ hb _ _=>oh ((aE.rd i fv).below hb) (Nat.succ_pos _) O O Az,fun _ _ hb _ _=>aW ((aE.rd i fv).below hb) O Az,fun _ _ hb _ _=>iW ((aE.rd i fv).below hb) O O O O O Az,Dr O,fun _ _ hb _ _=>oh ((aE.rd i fv).below hb) (Nat.succ_pos _) O O Az,fun _ _ hb _ _=>aW ((aE.rd i fv).below hb) O Az,fun _ _ hb _ _=>a8 ((aE.rd i fv).below hb) O Az,fun _ _ _ _ _=>bk O O Az,Dr O,av⟩
 intro u w2 eC _;have aD:=aE.aq eC;have FL:tp w2 Ac nc bs:=hY.below aD.below;refine fh O (aR _ O (fun h2=>?_) (fun h2=>?_))
 ·have abq:=hY.at_ ha.1 h2;refine cM O (eB [xI (r4),xP (As),xP (As),xP (aB (As) 0),xS (Ac) (nc) (cc),xP (As),xP (As),xP (aB (As) 1),xI (a),xP (aB Ac a.toNat),.ex (.int .u8 (bs.getD a.toNat 0)),xI (bs.getD a.toNat 0),xI ((r4)+ (bs.getD a.toNat 0)),xI ((r4)+ (bs.getD a.toNat 0))] O (eQ O) ?_ ?_)
  ·refine⟨fun _ _ _ _ aY=>rH O (by exact aY 13 _ O (by kernel_rfl)) O Az,Dr O,fun _ _ hb _ _=>oh ((aD.rd i fv).below hb) (Nat.succ_pos _) O O Az,fun _ _ hb _ _=>aW ((aD.rd i fv).below hb) O Az,fun _ _ hb _ _=>a8 ((aD.rd i fv).below hb) O Az,Dr O,fun _ _ hb _ _=>oh ((aD.rd i fv).below hb) (Nat.succ_pos _) O O Az,fun _ _ hb _ _=>aW ((aD.rd i fv).below hb) O Az,fun _ _ hb _ _=>iW ((aD.rd i fv).below hb) O O O O O Az,?_,?_,?_,fun _ _ _ _ _=>aJ O Az,Dr O,av⟩
   ·intro e1 w1 hb hp aY;refine aF (FL.below hb).2.2 O Az
   ·intro e1 w1 hb hp aY;refine PK (FL.below hb) O (by omega) O O Az
   intro e1 w1 hb hp aY;refine og O O (IntWalk.i64_in _ (by omega)) Az
  intro u3 w3 ib _;have aM:=aD.aq ib;refine iV O (oh (aM.rd i fv) (Nat.succ_pos 2) O O (aW (aM.rd i fv) O (iW (aM.rd i fv) O O O O O (aJ O (oh (aM.rd i fv) (Nat.succ_pos 2) O O (aW (aM.rd i fv) O (ka i aM fv O O O O ?_)))))));intro w4 aU;rw [l4]at aU;refine ar O (qn O O O (by omega) (bM O (jj O ?_)));exact⟨(r4+bs.getD a.toNat 0)%n,_,O,⟨Int.emod_nonneg _ (by omega),fun h=>Int.emod_lt_of_pos _ (by omega),fun h=>by omega⟩,⟨Ac,nc,cc,a+1,r2,bs,O,by omega,rU,hY⟩,aU⟩
 refine aG O (qn O O O (by omega) (bM O (jj O ?_)));exact⟨r4%n,_,O,⟨Int.emod_nonneg _ (by omega),fun h=>Int.emod_lt_of_pos _ (by omega),fun h=>by omega⟩,⟨Ac,nc,cc,a,r2,bs,O,ha,rU,hY⟩,aD⟩
theorem afe{w0 w:aa}(i:Nat){As:aj}{k:Ck}(A:aj)(n c:Nat)(xs:ai)(hS:St w0 w ks)(hk:ks[i]?=some k)(hK:gX w0 As k)(hR:∀k' w',St w0 w' (ks.set i k')->di w' A n xs)(hn:0<n/\n<=1000000):
 aN prog 137 [.pointer As,.slice A n c] w (fun v w'=>∃(x:Int) (k':Ck),v=ak x/\x∈xs/\gX w0 As k'/\St w0 w' (ks.set i k')):=by
 refine bI func137 O ntmps137 O (du O) ?_;refine bc O (bk O O ?_);refine aL (yQ i n hS hk hK) O ?_;rintro _ w1 ⟨r,k',rfl,⟨h0,h1,_⟩,uK,hT⟩;have kC:=hR k' w1 hT;have hl:=kC.1;have h1:=h1 (by omega);refine aF kC.2 O (bh kC O (bM O (jj O ?_)));refine⟨gi xs r,k',O,?_,uK,hT⟩;obtain⟨q,rfl⟩:∃q:Nat,r=q:=⟨r.toNat,by omega⟩;rw [cd (by omega)];exact dH _
theorem Zd(Ac:aj)(nc cc:Nat)(w:aa):aN prog 22 [.slice Ac nc cc] w (fun v w'=>v= .bool (decide (4096< (nc:Int)))/\St w w' []):=by
 refine bI func22 O ntmps22 O (du O) ?_;refine bc O (bk O O (bM O ?_));exact dz O ⟨O,St.refl w⟩
theorem afT(A:aj)(n c:Nat)(xs:ai)(B:aj)(m cB:Nat)(ys:ai)(w:aa)(hX:di w A n xs)(hY:di w B m ys)(hn:n<=9223372036854775806):
 aN prog 36 [.slice A n c,.slice B m cB] w (fun v w'=>v= .bool (decide (xs=ys))/\St w w' []):=by
 have dG:=hX.1;have rY:=hY.1;refine bI func36 O ntmps36 O (du O) ?_;refine bc O (bk O O (ar O (bk O O (aI O ?_))));refine aR _ O (fun h1=>?_) (fun h1=>?_)
 ·have bt:xs≠ys:=fun e=>h1 (by rw [<-dG,<-rY,e])
  refine eF O (dz O ?_);exact⟨by rw [dk bt],St.refl w⟩
 have MZ:n=m:=by omega
 subst MZ;refine cM O (Cd.loop (α:=Nat) (fun i=> [(0,.slice A n c),(1,.slice B n cB),(5,ak i)]) (fun i w'=>St w w' []/\i<=n/\∀j,j<i->xs[j]?=ys[j]?) (fun i=>n - i) 0 (alH O) ⟨St.refl w,bm _,fun j hj=>absurd hj (jM _)⟩ ?_);rintro i e w1 ⟨aE,hi,hj⟩;have uN:=aE.gH hX;have x5:=aE.gH hY;refine bc O (bk O O (aI O ?_));refine aR _ O (fun h2=>?_) (fun h2=>?_)
 ·refine cM O (eB [xS (A) (n) (c),xI ((i:Int)),xP (aB (A) ((i:Int)).toNat),xI (gi (xs) ((i:Int))),xS (B) (n) (cB),xI ((i:Int)),xP (aB (B) ((i:Int)).toNat),xI (gi (ys) ((i:Int))),xB (decide (¬(gi (xs) ((i:Int)))=(gi (ys) ((i:Int)))))] O (eQ O) ?_ ?_)
  ·exact⟨Dr O,Dr O,fun _ _ hb _ _=>aF (uN.aq hb).2 O Az,fun _ _ hb _ _=>bh (uN.aq hb) O Az,Dr O,Dr O,fun _ _ hb _ _=>aF (x5.aq hb).2 O Az,fun _ _ hb _ _=>bh (x5.aq hb) O Az,Dr O,av⟩
  intro u w2 eC _;have aD:=aE.aq eC;refine fh O (aR _ O (fun h3=>?_) (fun h3=>?_))
  ·have bt:xs≠ys:=fun e=>h3 (by rw [e])
   refine eF O (fD (e6 ?_));refine dz O ?_;exact⟨by rw [dk bt],aD⟩
  have h3:=Decidable.not_not.1 h3;rw [cd (by omega),cd (by omega)]at h3;refine aG O (aJ O (aT O (tQ ?_)));refine⟨i+1,by show n - (i+1)<n - i;omega,(alH O),aD,by omega,fun j ll=>?_⟩
  by_cases e:j=i
  ·subst e;rw [gO (by omega),gO (by omega),h3]
  exact hj j (by omega)
 have he:xs=ys:=List.ext_getElem? fun j=>by
  by_cases uT:j<n
  ·exact hj j (by omega)
  rw [qm (by omega),qm (by omega)]
 refine bw O (bA (ij O ?_));refine dz O ?_;exact⟨by rw [eP he],aE⟩
theorem afU(A:aj)(n c:Nat)(rs:List aQ)(xss:ah)(B:aj)(m cB:Nat)(rs':List aQ)(bU:ah)(w:aa)(hX:bz w A n rs xss)(hY:bz w B m rs' bU)(hn:n<=9223372036854775806)(hr:∀x∈xss,x.length<=9223372036854775806):
 aN prog 120 [.slice A n c,.slice B m cB] w (fun v w'=>v= .bool (decide (xss=bU))/\St w w' []):=by
 have dG:=hX.len;have rY:=hY.len;refine bI func120 O ntmps120 O (du O) ?_;refine bc O (bk O O (ar O (bk O O (aI O ?_))));refine aR _ O (fun h1=>?_) (fun h1=>?_)
 ·have bt:xss≠bU:=fun e=>h1 (by rw [<-dG,<-rY,e])
  refine eF O (dz O ?_);exact⟨by rw [dk bt],St.refl w⟩
 have MZ:n=m:=by omega
 subst MZ;refine cM O (Cd.loop (α:=Nat) (fun i=> [(0,.slice A n c),(1,.slice B n cB),(5,ak i)]) (fun i w'=>St w w' []/\i<=n/\∀j,j<i->xss[j]?=bU[j]?) (fun i=>n - i) 0 (alH O) ⟨St.refl w,bm _,fun j hj=>absurd hj (jM _)⟩ ?_);rintro i e w1 ⟨aE,hi,hj⟩;have uN:=aE.bS hX;have x5:=aE.bS hY;refine bc O (bk O O (aI O ?_));refine aR _ O (fun h2=>?_) (fun h2=>?_)
 ·have gw:=uN.at_ (i:=(i:Int)) (by omega) (by omega);have hyi:=x5.at_ (i:=(i:Int)) (by omega) (by omega);have fR:(rg rs i).n<=9223372036854775806:=by
   rw [<-gw.1,cK (by omega)];exact hr _ (dH _)
  refine cM O (eB [xS (A) (n) (c),xI ((i:Int)),xP (aB (A) ((i:Int)).toNat),xS ((rg (rs) ((i:Int))).a) ((rg (rs) ((i:Int))).n) ((rg (rs) ((i:Int))).c),xS (B) (n) (cB),xI ((i:Int)),xP (aB (B) ((i:Int)).toNat),xS ((rg (rs') ((i:Int))).a) ((rg (rs') ((i:Int))).n) ((rg (rs') ((i:Int))).c),xB (decide (gl xss i=gl bU i)),xB (decide (¬(gl xss i=gl bU i)))] O (eQ O) ?_ ?_)
  ·refine⟨Dr O,Dr O,fun _ _ hb _ _=>aF (uN.top.aq hb).2 O Az,fun _ _ hb _ _=>b6 (uN.top.aq hb) O Az,Dr O,Dr O,fun _ _ hb _ _=>aF (x5.top.aq hb).2 O Az,fun _ _ hb _ _=>b6 (x5.top.aq hb) O Az,?_,fun _ _ _ _ _=>eZ O O Az,av⟩;intro e1 w1 hb hp aY;refine aL (afT _ _ _ _ _ _ _ _ _ (gw.aq hb) (hyi.aq hb) fR) O ?_;rintro _ w2 ⟨rfl,ax⟩;refine ao.n ?_;exact iB.dn ax.below (by exact O)
  intro u w2 eC _;have aD:=aE.aq eC;refine fh O (aR _ O (fun h3=>?_) (fun h3=>?_))
  ·have bt:xss≠bU:=fun e=>h3 (by rw [e])
   refine eF O (fD (e6 ?_));refine dz O ?_;exact⟨by rw [dk bt],aD⟩
  have h3:=Decidable.not_not.1 h3;rw [cK (by omega),cK (by omega)]at h3;refine aG O (aJ O (aT O (tQ ?_)));refine⟨i+1,by show n - (i+1)<n - i;omega,(alH O),aD,by omega,fun j ll=>?_⟩
  by_cases e:j=i
  ·subst e;rw [gO (by omega),gO (by omega),h3]
  exact hj j (by omega)
 have he:xss=bU:=List.ext_getElem? fun j=>by
  by_cases uT:j<n
  ·exact hj j (by omega)
  rw [qm (by omega),qm (by omega)]
 refine bw O (bA (ij O ?_));refine dz O ?_;exact⟨by rw [eP he],aE⟩
theorem afS(A:aj)(n c:Nat)(rs:List aQ)(xss:ah)(B:aj)(m cB:Nat)(rs':List aQ)(bU:ah)(w:aa)(hX:bz w A n rs xss)(hY:bz w B m rs' bU)(hn:n<=9223372036854775806)(hr:∀x∈xss,x.length<=9223372036854775806):
 aN prog 64 [.agg #[.slice A n c],.agg #[.slice B m cB]] w (fun v w'=>v= .bool (decide (xss=bU))/\St w w' []):=by
 refine bI func64 O ntmps64 O (du O) (bc O (ik (St.refl w) O O ?_));intro A1 w1 aE;refine ik aE O O fun A2 w2 aD=>ar O (aW (aD.rd 1 O) O (a8 (aD.rd 1 O) O (aW (aD.rd 0 O) O (a8 (aD.rd 0 O) O (aL (afU A n c rs xss B m cB rs' bU _ (aD.bS hX) (aD.bS hY) hn hr) O ?_)))));rintro _ w3 ⟨rfl,ax⟩;refine bM O (dz O ?_);exact⟨O,(aD.aq ax.below).none⟩
theorem UC(A:aj)(n c:Nat)(rs:List aQ)(M:ah)(w:aa)(hR:bz w A n rs M)(hn:n<=c)(hc:c<=9223372036854775807)(hM:bg M):
 aN prog 61 [.agg #[.slice A n c]] w (fun v w'=>∃A' c',v= .tuple #[.slice A' n c',ak 0]/\St w w' [az 2 A' n c' (fI M)]):=by
 refine bI func61 O ntmps61 O (vZ O) (bc O (ik (St.refl w) O O ?_));intro A1 w1 aE;refine ar O (alC 0 (aE.rd 0 O) O (aL (Ch A n c rs M _ (aE.bS hR) hn hc) O ?_));rintro _ w2 ⟨rfl,ax⟩;have aD:=aE.aq ax.below
 first | refine eZ rfl rfl ?_ | refine fY rfl rfl ?_
 refine aI O (oM O (fun h=>h hM) (aG O (aL (Rh A1 A n c rs M _ (Rd.one (aD.rd 0 O)) (aD.bS hR) hM) O ?_)));rintro _ w3 ⟨A',c',rfl,Gn⟩;refine bM O (GW O O ?_);exact⟨A',c',O,(aD.call Gn).sub (uw _ _)⟩
end
section
variable{M K:ah}
theorem VZ{kind:Int}(h:iU M K kind=0):mf M K kind=if rL M K kind<=400 then 0 else 3:=by
 have hq:=(GO h).2;unfold mf;rw [ay h,<-hq]
 by_cases hf:(aC (gh M K kind) (jr M K kind) (pn M K kind)).length<=400
 ·rw [ay hf];exact(Aw hf).1
 rw [aw hf];exact(Jz hf).1
def iq(M:ah):ah:=my (gl M 0).length M.reverse 0
theorem QW(hM:bg M):ti M (iq M):=K3 hM
theorem QX(hM:bg M):∃φ:Int->Int,gM (gl M 0).length M.reverse (iq M) φ:=
 ⟨_,H2 (yM hM) (by rw [ub hM]) (by omega) (by have:=hM.2.1;omega)⟩
theorem QY(hM:bg M):bg (iq M):=(K3 hM).d
theorem K0(hM:bg M):(gl (iq M) 0).length=(gl M 0).length:=(K3 hM).num
theorem Wc(h:mf M dF 1=0):ir M=0/\iU M dF 1=0/\rL M dF 1<=400:=by
 have h1:iU M dF 1=0:=by
  unfold mf at h
  split at h
  ·assumption
  exact h
 rw [VZ h1]at h;have h2:rL M dF 1<=400:=by
  split at h
  ·assumption
  exact absurd h (by decide)
 obtain⟨hp,_,_⟩:=GR h1;exact⟨(Cv hp).2.1,h1,h2⟩
theorem Oo(h:mf M dF 1=0):bg (eH M dF 1)/\mf (iq M) dF 2=0/\bg (eH (iq M) dF 2)/\(gl (eH (iq M) dF 2) 0).length=(gl (eH M dF 1) 0).length/\∃φ:Int->Int,gM (gl (eH M dF 1) 0).length (eH (iq M) dF 2) (iq (eH M dF 1)) φ:=by
 obtain⟨hg,hp,hf⟩:=Wc h;have hM:=(kf hg).1;have h1:=QW hM;obtain⟨iy,hk⟩:=ahm (kind:=1) h1 QZ hp;obtain⟨m1,m2,l1,l2,φ,Jm⟩:=hk hf;have e2:gV 1=2:=O;rw [e2]at iy m2 l2 Jm;have Tp:=HV (kind:=1) h1 QZ;rw [e2]at Tp;refine⟨m1,by rw [VZ iy,Tp,ay hf],m2,by rw [l1,l2],?_⟩;obtain⟨ψ,tV⟩:=QX m1;rw [l1]at tV|-;exact⟨_,Jm.comp tV⟩
theorem aiV(hg:ir M=0):mg (iq M)=mg M/\(mg M=0\/mg M=3)/\(mg M=0->bg (eV M)/\bg (eV (iq M))/\(gl (eV (iq M)) 0).length=(gl (eV M) 0).length/\(∃φ:Int->Int,gM (gl (eV M) 0).length (iq (eV M)) (eV (iq M)) φ)/\(fI (eV M)).length=(fI M).length+1/\gi (fI (eV M)) 0=gi (fI M) 0+1/\gi (fI (eV M)) (M.length:Int)=gi (fI M) ((M.length:Int) - 1)+1):=by
 have hM:=(kf hg).1;have hn:=hM.1;obtain⟨e,hk⟩:=ahT (QW hM) hg;refine⟨e,?_,fun h=>?_⟩
 ·rw [JJ hg]
  split
  ·exact .inl O
  exact .inr O
 obtain⟨m1,m2,l1,l2,hc,φ,Jm⟩:=hk h;obtain⟨c1,c2⟩:=ahS hg;have BN:∀i:Nat,i<M.length+1->gi (vk (M.length+1) (ic M)) i=((mh (ic M) i).length:Int):=fun i hi=>by
  unfold gi vk;rw [gI,dd,List.getElem?_map,List.getElem?_range hi]
  rfl
 have tK:∀i:Nat,i<M.length->gi (fI M) i=fA M i:=fun i hi=>by
  unfold gi fI;rw [gI,dd,List.getElem?_map,List.getElem?_range hi]
  rfl
 refine⟨m1,m2,l2,?_,?_,?_,?_⟩
 ·obtain⟨ψ,tV⟩:=QX m1;have hs:=(yM m1).2.2.1.sys;rw [ub m1]at hs;obtain⟨ψ',aep,_,_⟩:=tV.inv hs;exact⟨_,aep.comp Jm⟩
 ·rw [hc];simp [vk,fI]
 ·have h0:=BN 0 (by omega);have h1:=tK 0 (by omega);rw [hc];have e0:((0:Nat):Int)=0:=O;rw [e0]at h0 h1;rw [h0,h1];exact c1
 have h0:=BN M.length (by omega);have h1:=tK (M.length - 1) (by omega);rw [hc,h0,show((M.length:Int) - 1)=((M.length - 1:Nat):Int) by omega,h1];exact c2
end
section
open Go.RowKit
variable{j p:Nat}
def Rg(n:Nat)(xs:ai):Prop:=xs.length=n/\∀x∈xs,0<=x/\x< (n:Int)
theorem Rg.gi{n:Nat}{xs:ai}(h:Rg n xs){i:Int}(h0:0<=i)(h1:i<n):0<=Vc.gi xs i/\Vc.gi xs i<n:=by
 obtain⟨q,rfl⟩:∃q:Nat,i=q:=⟨i.toNat,by omega⟩;rw [cd (by rw [h.1];omega)];exact h.2 _ (dH _)
theorem Rg.set{n:Nat}{xs:ai}(h:Rg n xs){v:Int}(h0:0<=v)(h1:v<n):Rg n (xs.set j v):=by
 refine⟨by rw [jK];exact h.1,fun x hx=>?_⟩;rcases List.mem_or_eq_of_mem_set hx with hx | rfl
 ·exact h.2 x hx
 exact⟨h0,h1⟩
theorem afg(n:Nat)(w:aa)(hn:n<=1000000):
 aN prog 168 [ak n] w (fun v w'=>∃A c xs,v= .slice A n c/\Rg n xs/\St w w' [az 2 A n c xs]):=by
 refine bI func168 O ntmps168 O (du O) (bc O (jO (St.refl w) O ?_));intro A1 w1 aE;refine aI O (Cd.loop (α:=Nat×aj×Nat×ai) (fun s=> [(0,ak n),(3,.slice s.2.1 s.1 s.2.2.1),(4,ak (s.1:Int))]) (fun s w'=>St w w' [az 2 s.2.1 s.1 s.2.2.1 s.2.2.2]/\s.1<=n/\s.2.2.2.length=s.1/\∀x∈s.2.2.2,0<=x/\x< (s.1:Int)) (fun s=>n - s.1) (0,A1,0,[]) (alH O) ⟨aE,bm _,O,fun x hx=> (nomatch hx)⟩ ?_);rintro⟨i,A2,c2,xs⟩ e w2 ⟨aD,hi,hl,hx⟩;dsimp only at aD hi hl hx|-;refine b8 O (aR _ O (fun h1=>?_) (fun h1=>?_))
 ·refine aG O (dV aD O O O ?_);intro A3 w3 aM;refine fp 1 aM O (aM.bF 0 O) O O O fun A4 c4 w4 aU=>ar O (aJ O (aT O (tQ ?_)));refine⟨(i+1,A4,c4,xs++ [(i:Int)]),by show n - (i+1)<n - i;omega,(alH O),aU.tail,by show i+1<=n;omega,by simp [hl],fun x eE=>?_⟩;rcases iR.1 eE with h | h
  ·have:=hx x h;show 0<=x/\x< ((i+1:Nat):Int);omega
  rw [fm]at h;subst h;show 0<=(i:Int)/\(i:Int)< ((i+1:Nat):Int);omega
 have db:i=n:=by omega
 subst db;refine bw O (bA (ij O ?_));exact gK O ⟨A2,c2,xs,O,⟨hl,hx⟩,aD⟩
theorem UY{w0 w:aa}{ks:List Ck}(ix:Nat){As:aj}{k:Ck}(n:Nat)(hS:St w0 w ks)(hk:ks[ix]?=some k)(hK:gX w0 As k)(hn:n<=1000000):
 aN prog 183 [.pointer As,ak n] w (fun v w'=>∃A c xs k',v= .slice A n c/\Rg n xs/\gX w0 As k'/\St w0 w' (az 2 A n c xs::ks.set ix k')):=by
 refine bI func183 O ntmps183 O (du O) (bc O (aL (afg n _ hn) O ?_));rintro _ w1 ⟨A,c,xs,rfl,hx,ax⟩;have aE:St w0 w1 (az 2 A n c xs::ks):=hS.call ax;refine ar O (dT O (aI O ?_));refine Cd.loop (α:=Int×ai×Ck) (fun s=> [(0,.pointer As),(5,.slice A n c),(6,ak s.1)]) (fun s w'=>St w0 w' (az 2 A n c s.2.1::ks.set ix s.2.2)/\Rg n s.2.1/\gX w0 As s.2.2/\ -1<=s.1/\s.1<n) (fun s=>s.1.toNat) ((n:Int) - 1,xs,k) ⟨O,O,O,trivial⟩ ⟨by dsimp only;rw [ON hk];exact aE,hx,hK,by show -1<=(n:Int) - 1;omega,by show(n:Int) - 1<n;omega⟩ ?_;rintro⟨i,xs,k1⟩ e w2 ⟨aD,hx,qO,fG,kU⟩;dsimp only at aD hx qO fG kU|-;have fv:(az 2 A n c xs::ks.set ix k1)[ix+1]?=some k1:=ml (k':=k1) hk;refine b8 O (aR _ O (fun h1=>?_) (fun h1=>?_))
 ·refine aG O (aJ O ?_);refine aL (yQ (ix+1) (i+1) aD fv qO) O ?_;rintro _ w3 ⟨r,k2,rfl,⟨mL,kG,_⟩,gR,aM⟩;have kG:=kG (by omega);have aM:St w0 w3 (az 2 A n c xs::(ks.set ix k1).set ix k2):=aM;rw [l4]at aM;have iD:=aM.bF 0 O;have zO:=hx.gi (i:=i) (by omega) kU;have FY:=hx.gi (i:=r) mL (by omega);refine ar O (aF iD.2 O (bh iD O (ar O (aF iD.2 O (bh iD O (aF iD.2 O (lu 0 aM O O O (by omega) ?_)))))));intro w4 aU;have aU:St w0 w4 (az 2 A n c (xs.set i.toNat (gi xs r))::ks.set ix k2):=aU;have o7:=aU.bF 0 O;refine ar O (aF o7.2 O (lu 0 aU O O O (by omega) ?_));intro w5 aV;refine ar O (dT O (aT O (tQ ?_)));exact⟨(i - 1,(xs.set i.toNat (gi xs r)).set r.toNat (gi xs i),k2),by show(i - 1).toNat<i.toNat;omega,(alH O),aV,(hx.set FY.1 FY.2).set zO.1 zO.2,gR,by show -1<=i - 1;omega,by show i - 1<n;omega⟩
 refine bw O (bA (ij O ?_));exact gK O ⟨A,c,xs,k1,O,hx,qO,aD⟩
structure XU(w0:aa)(ks:List Ck)(ix:Nat)(As:aj)(k:Ck)(n:Nat)(S:Nat->Bool)(e:Env)(w:aa):Prop where
 f0:e 0= .pointer As
 f1:e 1=ak n
 p0:S 0=true->e 8= .pointer As
 p1:S 1=true->e 9=ak n
 p3:S 3=true->e 11=ak n
 mem:∃(A:aj) (c:Nat) (xs:ai) (A2:aj) (k':Ck) (vi oX:List Ck),(S 2=false->vi=[]/\k'=k)/\(S 2=true->e 10= .slice A n c/\Rg n xs/\vi=[az 2 A n c xs])/\gX w0 As k'/\(S 4=false->oX=[])/\(S 4=true->e 12= .slice A2 n n/\oX=[az 2 A2 n n (List.replicate n 0)])/\(S 5=true->e 5= .slice A n c)/\(S 6=true->e 6= .slice A2 n n)/\St w0 w (oX++ (vi++ks.set ix k'))
theorem U3{w0 w:aa}{ks:List Ck}(ix:Nat){As:aj}{k:Ck}(n:Nat)(hS:St w0 w ks)(hk:ks[ix]?=some k)(hK:gX w0 As k)(hn:n<=1000000):
 aN prog 162 [.pointer As,ak n] w (fun v w'=>∃A c xs k',v= .slice A n c/\Rg n xs/\gX w0 As k'/\St w0 w' (az 2 A n c xs::ks.set ix k')):=by
 refine bI func162 O ntmps162 O (du O) (b8 O ?_);refine y8 (by kernel_rfl) (by kernel_rfl) (fun S e1 w1=>XU w0 ks ix As k n S e1 w1) (fun w4 hb=> ⟨O,O,fun h=> (nomatch h),fun h=> (nomatch h),fun h=> (nomatch h),none,0,[],none,k,[],[],fun _=> ⟨O,O⟩,fun h=> (nomatch h),hK,fun _=>O,fun h=> (nomatch h),fun h=> (nomatch h),fun h=> (nomatch h),by rw [ON hk];exact hS.aq hb⟩) ?_ ?_
 ·intro S q o e1 w4 hq bY hd da hI;obtain⟨f0,f1,p0,p1,p3,A,c,xs,A2,k',vi,oX,m0,m1,uK,m2,m3,m4,m5,hT⟩:=hI
  match q,hq,bY with
  | 0,hq,bY=>
   obtain rfl:=dA hq;refine Be O (by exact f0) O (ao.n ?_);exact⟨f0,f1,fun _=>O,p1,p3,A,c,xs,A2,k',vi,oX,m0,m1,uK,m2,m3,m4,m5,hT⟩
  | 1,hq,bY=>
   obtain rfl:=dA hq;refine rH O (by exact f1) O (ao.n ?_);exact⟨f0,f1,p0,fun _=>O,p3,A,c,xs,A2,k',vi,oX,m0,m1,uK,m2,m3,m4,m5,hT⟩
  | 2,hq,bY=>
   obtain rfl:=dA hq;obtain⟨rfl,rfl⟩:=m0 bY;have n5:S 5=false:=by
    cases h:S 5 with
    | false=>rfl
    | true=>rw [<-bY];exact(dC (da 5 _ h rfl) 2 rfl).symm
   have n6:S 6=false:=by
    cases h:S 6 with
    | false=>rfl
    | true=>rw [<-n5];exact(dC (da 6 _ h rfl) 5 rfl).symm
   rw [List.nil_append]at hT;have dY:(oX++ks.set ix k')[oX.length+ix]?=some k':=by
    rw [kN (by omega),show oX.length+ix - oX.length=ix by omega];exact ml hk
   refine als (UY (oX.length+ix) n hT dY hK hn) O (by show [e1 8,e1 9]=_;rw [p0 (dC hd 0 O),p1 (dC hd 1 O)]) O ?_;rintro _ w5 ⟨A',c',Xt,k2,rfl,eE,gR,iM⟩;refine ao.n ?_;refine⟨f0,f1,p0,p1,p3,A',c',Xt,A2,k2,[az 2 A' n c' Xt],oX,fun h=> (nomatch (show true=false from h)),fun _=> ⟨O,eE,O⟩,gR,m2,m3,fun h=> (nomatch n5.symm.trans h),fun h=> (nomatch n6.symm.trans h),?_⟩;rw [List.set_append_right _ _ (by omega),show oX.length+ix - oX.length=ix by omega,l4]at iM;exact iM.perm (jc (l₁:=oX)).symm
  | 3,hq,bY=>
   obtain rfl:=dA hq;refine rH O (by exact f1) O (ao.n ?_);exact⟨f0,f1,p0,p1,fun _=>O,A,c,xs,A2,k',vi,oX,m0,m1,uK,m2,m3,m4,m5,hT⟩
  | 4,hq,bY=>
   obtain rfl:=dA hq;obtain rfl:=m2 bY;have n6:S 6=false:=by
    cases h:S 6 with
    | false=>rfl
    | true=>rw [<-bY];exact(dC (da 6 _ h rfl) 4 rfl).symm
   refine zh n hT (by exact p3 (dC hd 3 O)) O (by omega) ?_;intro A' w5 kh;refine ao.n ?_;exact⟨f0,f1,p0,p1,p3,A,c,xs,A',k',vi,[az 2 A' n n (List.replicate n 0)],m0,m1,uK,fun h=> (nomatch (show true=false from h)),fun _=> ⟨O,O⟩,m4,fun h=> (nomatch n6.symm.trans h),kh⟩
  | 5,hq,bY=>
   obtain rfl:=dA hq;refine pF O (by exact(m1 (dC hd 2 O)).1) O (ao.n ?_);exact⟨f0,f1,p0,p1,p3,A,c,xs,A2,k',vi,oX,m0,m1,uK,m2,m3,fun _=>O,m5,hT⟩
  | 6,hq,bY=>
   obtain rfl:=dA hq;refine pF O (by exact(m3 (dC hd 4 O)).1) O (ao.n ?_);exact⟨f0,f1,p0,p1,p3,A,c,xs,A2,k',vi,oX,m0,m1,uK,m2,m3,m4,fun _=>O,hT⟩
  | q+7,hq,_=>exact(nomatch hq)
 ·intro S e1 w4 dO hI;obtain⟨f0,f1,p0,p1,p3,A,c,xs,A2,k',vi,oX,m0,m1,uK,m2,m3,m4,m5,hT⟩:=hI;obtain⟨_,hx,rfl⟩:=m1 (dO 2 (by decide));obtain⟨_,rfl⟩:=m3 (dO 4 (by decide));refine CQ (F:=[(0,.pointer As),(1,ak n),(5,.slice A n c),(6,.slice A2 n n)]) ⟨f0,f1,m4 (dO 5 (by decide)),m5 (dO 6 (by decide)),av⟩ ?_;have hT:St w0 w4 (az 2 A2 n n (List.replicate n 0)::az 2 A n c xs::ks.set ix k'):=hT;refine fh O ?_;refine Cd.loop (α:=Nat×ai) (fun s=> [(1,ak n),(5,.slice A n c),(6,.slice A2 n n),(7,ak (s.1:Int))]) (fun s w'=>St w0 w' (az 2 A2 n n s.2::az 2 A n c xs::ks.set ix k')/\Rg n s.2/\s.1<=n+1) (fun s=>n+2 - s.1) (0,List.replicate n 0) ⟨rfl,rfl,rfl,rfl,av⟩ ⟨hT,⟨by simp,fun x hx=>by obtain⟨h0,rfl⟩:=List.mem_replicate.1 hx;omega⟩,bm _⟩ ?_;rintro⟨i,ps⟩ e w5 ⟨kh,kl,hi⟩;dsimp only at kh kl hi|-;refine bc O (aJ O (aI O ?_));refine aR _ O (fun h1=>?_) (fun h1=>?_)
  ·have SO:=kh.bF 0 O;have Bw:=kh.bF 1 O;have MD:=hx.gi (i:=(i:Int)) (by omega) (by omega);have IL:=hx.gi (i:=(i:Int)+1) (by omega) (by omega);refine cM O ?_;refine jA [11] [yS (A2) (n) (n),yS (A) (n) (c),yI ((i:Int)),yP (aB (A) ((i:Int)).toNat),yI (gi (xs) ((i:Int))),yS (A) (n) (c),yI ((i:Int)),yI (((i:Int))+ ((1:Int))),yP (aB (A) (((i:Int))+ ((1:Int))).toNat),yI (gi (xs) (((i:Int))+ ((1:Int)))),yP (aB (A2) (gi (xs) ((i:Int))).toNat),.pr (fun _ w'=>St w0 w' (az 2 A2 n n (ps.set (gi xs i).toNat (gi xs ((i:Int)+1)))::az 2 A n c xs::ks.set ix k'))] (ly (ly (ly (ly (ly (ly (ly (ly (ly (ly (ly (cj.2 ⟨Ye.cN (fun v w w' h hb=>h.aq hb),(fun _ h=>by cases h)⟩)))))))))))) ?_ ?_
   ·refine⟨bQ O,bQ O,bQ O,cP fun _ _ hb _ _ _=>aF (Bw.aq hb).2 O (bq O O),cP fun _ _ hb _ _ _=>bh (Bw.aq hb) O (bq O O),bQ O,bQ O,aP fun _ _=>aJ O (bq O O),cP fun _ _ hb _ _ _=>aF (Bw.aq hb).2 O (bq O O),cP fun _ _ hb _ _ _=>bh (Bw.aq hb) O (bq O O),cP fun _ _ hb _ _ _=>aF (SO.aq hb).2 O (bq O O),?_,av⟩
    ·refine jC fun e1 w1 hb hp aY hq=>?_
     exact lu 0 (kh.aq hb) O O O (by omega) fun w9 jR=>ao.n (fH.st O jR)
   intro u w6 _ hu _ _;have lC:=hu 11 _ O (by kernel_rfl);have hP6:=lC.bF 0 O;have Iy:=lC.bF 1 O;refine fh O ?_;refine jA [11] [yS (A2) (n) (n),yS (A) (n) (c),yI ((i:Int)),yI (((i:Int))+ ((1:Int))),yP (aB (A) (((i:Int))+ ((1:Int))).toNat),yI (gi (xs) (((i:Int))+ ((1:Int)))),yS (A) (n) (c),yI ((i:Int)),yP (aB (A) ((i:Int)).toNat),yI (gi (xs) ((i:Int))),yP (aB (A2) (gi (xs) (((i:Int))+ ((1:Int)))).toNat),.pr (fun _ w'=>St w0 w' (az 2 A2 n n ((ps.set (gi xs i).toNat (gi xs ((i:Int)+1))).set (gi xs ((i:Int)+1)).toNat (gi xs i))::az 2 A n c xs::ks.set ix k'))] (ly (ly (ly (ly (ly (ly (ly (ly (ly (ly (ly (cj.2 ⟨Ye.cN (fun v w w' h hb=>h.aq hb),(fun _ h=>by cases h)⟩)))))))))))) ?_ ?_
   ·refine⟨bQ O,bQ O,bQ O,aP fun _ _=>aJ O (bq O O),cP fun _ _ hb _ _ _=>aF (Iy.aq hb).2 O (bq O O),cP fun _ _ hb _ _ _=>bh (Iy.aq hb) O (bq O O),bQ O,bQ O,cP fun _ _ hb _ _ _=>aF (Iy.aq hb).2 O (bq O O),cP fun _ _ hb _ _ _=>bh (Iy.aq hb) O (bq O O),cP fun _ _ hb _ _ _=>aF (hP6.aq hb).2 O (bq O O),?_,av⟩
    ·refine jC fun e1 w1 hb hp aY hq=>?_
     exact lu 0 (lC.aq hb) O O O (by omega) fun w9 jR=>ao.n (fH.st O jR)
   intro u2 w7 _ jx _ _;have eo:=jx 11 _ O (by kernel_rfl);refine iV O (aJ O (aT O (tQ ?_)));exact⟨(i+2,(ps.set (gi xs i).toNat (gi xs ((i:Int)+1))).set (gi xs ((i:Int)+1)).toNat (gi xs i)),by show n+2 - (i+2)<n+2 - i;omega,(alH O),eo,(kl.set IL.1 IL.2).set MD.1 MD.2,by show i+2<=n+1;omega⟩
  ·refine bw O (bA (ij O ?_));exact gK O ⟨A2,n,ps,k',O,kl,uK,kh.sub (List.Sublist.cons_cons _ (List.sublist_cons_self _ _))⟩
def GM(N:Nat)(xss:ah):Prop:=∀p∈xss,Rg N p
theorem GM.sys{N:Nat}{xss:ah}(h:GM N xss):Sys N xss:=fun p hp=> ⟨(h p hp).1,fun x h0 h1=> (h p hp).gi h0 h1⟩
def J8(n N:Nat)(w:aa)(v:ad)(w':aa):Prop:=∃A c rs xss,v= .agg #[.slice A n c]/\rs.length=n/\xss.length=n/\GM N xss/\St w w' (aO 32 2 A n c rs xss)
structure Yp(w0:aa)(base:List Ck)(n:Nat)(S:Nat->Bool)(e:Env)(w:aa):Prop where
 f2:∃A,e 2= .pointer A/\base=[Bx 24 1 A [.slice none 0 0]]
 f3:e 3=ak n
 p0:S 0=true->e 9=ak n
 p2:S 2=true->e 11=ak n
 mem:∃(A1 A2:aj) (b1 b2:List Ck),(S 1=false->b1=[])/\(S 1=true->e 10= .slice A1 n n/\b1=[az 2 A1 n n (List.replicate n 0)])/\(S 3=false->b2=[])/\(S 3=true->e 12= .slice A2 n n/\b2=[az 2 A2 n n (List.replicate n 0)])/\(S 4=true->e 4= .slice A1 n n)/\(S 5=true->e 5= .slice A2 n n)/\St w0 w (b1++ (b2++base))
def mR(v:Nat->Int)(n f:Nat):ai:=(List.range n).map fun g=>if g<f then v g else 0
theorem JZ(v:Nat->Int)(n:Nat):mR v n 0=List.replicate n 0:=by
 apply jX (by simp [mR]);intro i h1 h2;simp [mR]
theorem J0{v:Nat->Int}{n f:Nat}:(mR v n f).set f (v f)=mR v n (f+1):=by
 apply jX (by simp [mR]);intro i h1 h2;rw [List.getElem_set];simp only [mR,List.getElem_map,List.getElem_range]
 by_cases h:f=i
 ·subst h;rw [ay rfl,ay (Nat.lt_succ_self _)]
 rw [aw h]
 by_cases h2:i<f
 ·rw [ay h2,ay (by omega)]
 rw [aw h2,aw (by omega)]
theorem WY{v:Nat->Int}{n:Nat}(h:∀g,g<n->0<=v g/\v g<n):Rg n (mR v n n):=⟨by simp [mR],fun x hx=>by
 obtain⟨g,hg,rfl⟩:=dv.1 hx;have hg:=gP.1 hg;rw [ay hg];exact h g hg⟩
def wc(g:Nat):Int:=if(g:Int)%2=0 then(g:Int)+1 else(g:Int) - 1
def we(n g:Nat):Int:=if(g:Int)%2=0 then((g:Int)+ (n:Int) - 1)% (n:Int)else((g:Int)+1)% (n:Int)
def po(p:Nat):ah:=[mR wc (2*p) (2*p),mR (we (2*p)) (2*p) (2*p)]
theorem ahn(hp:1<=p):GM (2*p) (po p):=fun q hq=>by
 rcases jn.1 hq with rfl | hq
 ·refine WY fun g hg=>?_
  unfold wc
  split<;>omega
 rw [fm]at hq;subst hq;refine WY fun g hg=>?_
 unfold we;have zT:=Int.emod_nonneg ((g:Int)+ ((2*p:Nat):Int) - 1) (b:=((2*p:Nat):Int)) (by omega);have qW:=Int.emod_lt_of_pos ((g:Int)+ ((2*p:Nat):Int) - 1) (b:=((2*p:Nat):Int)) (by omega);have TG:=Int.emod_nonneg ((g:Int)+1) (b:=((2*p:Nat):Int)) (by omega);have TH:=Int.emod_lt_of_pos ((g:Int)+1) (b:=((2*p:Nat):Int)) (by omega)
 split
 ·exact⟨zT,qW⟩
 exact⟨TG,TH⟩
theorem U5(p:Nat)(w:aa)(hp:1<=p/\p<=100000):aN prog 179 [ak p] w (fun v w'=>∃A c rs,v= .agg #[.slice A 2 c]/\rs.length=2/\St w w' (aO 32 2 A 2 c rs (po p))):=by
 unfold po;refine bI func179 O ntmps179 O (pq O O) (bc O (gD (St.refl w) O ?_));intro A2 w1 aE;refine ar O (nD O O O (by omega) (aI O ?_));have hn:(2:Int)* (p:Int)=((2*p:Nat):Int):=by omega
 rw [hn];generalize hN:2*p=n;have B0:2<=n:=by omega
 refine y8 (by kernel_rfl) (by kernel_rfl) (fun S e1 w1=>Yp w [Bx 24 1 A2 [.slice none 0 0]] n S e1 w1) (fun w4 hb=> ⟨⟨A2,O,O⟩,O,fun h=> (nomatch h),fun h=> (nomatch h),none,none,[],[],fun _=>O,fun h=> (nomatch h),fun _=>O,fun h=> (nomatch h),fun h=> (nomatch h),fun h=> (nomatch h),aE.aq hb⟩) ?_ ?_
 ·intro S q o e1 w4 hq bY hd da hI;obtain⟨f2,f3,p0,p2,A,B,b1,b2,m1,Ak,m3,Al,m4,m5,hT⟩:=hI
  match q,hq,bY with
  | 0,hq,bY=>
   obtain rfl:=dA hq;refine rH O (by exact f3) O (ao.n ?_);exact⟨f2,f3,fun _=>O,p2,A,B,b1,b2,m1,Ak,m3,Al,m4,m5,hT⟩
  | 1,hq,bY=>
   obtain rfl:=dA hq;obtain rfl:=m1 bY;have n4:S 4=false:=by
    cases h:S 4 with
    | false=>rfl
    | true=>rw [<-bY];exact(dC (da 4 _ h rfl) 1 rfl).symm
   refine zh n hT (by exact p0 (dC hd 0 O)) O (by omega) ?_;intro A' w5 kh;refine ao.n ?_;exact⟨f2,f3,p0,p2,A',B,[az 2 A' n n (List.replicate n 0)],b2,fun h=> (nomatch (show true=false from h)),fun _=> ⟨O,O⟩,m3,Al,fun h=> (nomatch n4.symm.trans h),m5,kh⟩
  | 2,hq,bY=>
   obtain rfl:=dA hq;refine rH O (by exact f3) O (ao.n ?_);exact⟨f2,f3,p0,fun _=>O,A,B,b1,b2,m1,Ak,m3,Al,m4,m5,hT⟩
  | 3,hq,bY=>
   obtain rfl:=dA hq;obtain rfl:=m3 bY;have n5:S 5=false:=by
    cases h:S 5 with
    | false=>rfl
    | true=>rw [<-bY];exact(dC (da 5 _ h rfl) 3 rfl).symm
   refine zh n hT (by exact p2 (dC hd 2 O)) O (by omega) ?_;intro A' w5 kh;refine ao.n ?_;exact⟨f2,f3,p0,p2,A,A',b1,[az 2 A' n n (List.replicate n 0)],m1,Ak,fun h=> (nomatch (show true=false from h)),fun _=> ⟨O,O⟩,m4,fun h=> (nomatch n5.symm.trans h),kh.perm (jc (l₁:=b1)).symm⟩
  | 4,hq,bY=>
   obtain rfl:=dA hq;refine pF O (by exact(Ak (dC hd 1 O)).1) O (ao.n ?_);exact⟨f2,f3,p0,p2,A,B,b1,b2,m1,Ak,m3,Al,fun _=>O,m5,hT⟩
  | 5,hq,bY=>
   obtain rfl:=dA hq;refine pF O (by exact(Al (dC hd 3 O)).1) O (ao.n ?_);exact⟨f2,f3,p0,p2,A,B,b1,b2,m1,Ak,m3,Al,m4,fun _=>O,hT⟩
  | q+6,hq,_=>exact(nomatch hq)
 ·intro S e1 w4 dO hI;obtain⟨⟨A0,f2,acq⟩,f3,p0,p2,A,B,b1,b2,m1,Ak,m3,Al,m4,m5,hT⟩:=hI;obtain⟨_,rfl⟩:=Ak (dO 1 (by decide));obtain⟨_,rfl⟩:=Al (dO 3 (by decide));rw [acq]at hT;refine CQ (F:=[(2,.pointer A0),(3,ak n),(4,.slice A n n),(5,.slice B n n)]) ⟨f2,f3,m4 (dO 4 (by decide)),m5 (dO 5 (by decide)),av⟩ ?_;have hT:St w w4 [az 2 A n n (List.replicate n 0),az 2 B n n (List.replicate n 0),Bx 24 1 A0 [.slice none 0 0]]:=hT;rw [<-JZ wc n]at hT;have hT:St w w4 [az 2 A n n (mR wc n 0),az 2 B n n (mR (we n) n 0),Bx 24 1 A0 [.slice none 0 0]]:=by rw [JZ,JZ (we n)];rw [JZ]at hT;exact hT
  refine fh O (Cd.loop (α:=Nat) (fun s=> [(2,.pointer A0),(3,ak n),(4,.slice A n n),(5,.slice B n n),(6,ak s)]) (fun s w'=>St w w' [az 2 A n n (mR wc n s),az 2 B n n (mR (we n) n s),Bx 24 1 A0 [.slice none 0 0]]/\s<=n) (fun s=>n - s) 0 (alH O) ⟨hT,bm _⟩ ?_);rintro f e w5 ⟨kh,hf⟩;refine b8 O (aR _ O (fun h1=>?_) (fun h1=>?_))
  ·have SY:=kh.bF 0 O;have zT:=Int.emod_nonneg ((f:Int)+ (n:Int) - 1) (b:=(n:Int)) (by omega);have qW:=Int.emod_lt_of_pos ((f:Int)+ (n:Int) - 1) (b:=(n:Int)) (by omega);have TG:=Int.emod_nonneg ((f:Int)+1) (b:=(n:Int)) (by omega);have TH:=Int.emod_lt_of_pos ((f:Int)+1) (b:=(n:Int)) (by omega);refine aG O (qn O O O (by omega) (aI O ?_));refine aR _ O (fun h2=>?_) (fun h2=>?_)
   ·have Nv:wc f=(f:Int)+1:=ay h2;have Nw:we n f=((f:Int)+ (n:Int) - 1)% (n:Int):=ay h2;refine aG O (aJ O ?_);refine aF SY.2 O (lu 0 kh O O O (by omega) ?_);intro w6 lC;have lC:St w w6 [az 2 A n n ((mR wc n f).set f ((f:Int)+1)),az 2 B n n (mR (we n) n f),Bx 24 1 A0 [.slice none 0 0]]:=lC;rw [<-Nv,J0]at lC;have Mg:=lC.bF 1 O;refine ar O (aJ O (dT O (ar O ?_)));refine qn O O O (by omega) (aF Mg.2 O (lu 1 lC O O O (by omega) ?_));intro w7 eo;have eo:St w w7 [az 2 A n n (mR wc n (f+1)),az 2 B n n ((mR (we n) n f).set f (((f:Int)+ (n:Int) - 1)% (n:Int))),Bx 24 1 A0 [.slice none 0 0]]:=eo;rw [<-Nw,J0]at eo;refine ar O (aJ O (aT O (tQ ?_)));exact⟨f+1,by show n - (f+1)<n - f;omega,(alH O),eo,by omega⟩
   ·have Nv:wc f=(f:Int) - 1:=aw h2;have Nw:we n f=((f:Int)+1)% (n:Int):=aw h2;refine aG O (dT O ?_);refine aF SY.2 O (lu 0 kh O O O (by omega) ?_);intro w6 lC;have lC:St w w6 [az 2 A n n ((mR wc n f).set f ((f:Int) - 1)),az 2 B n n (mR (we n) n f),Bx 24 1 A0 [.slice none 0 0]]:=lC;rw [<-Nv,J0]at lC;have Mg:=lC.bF 1 O;refine ar O (aJ O (ar O ?_));refine qn O O O (by omega) (aF Mg.2 O (lu 1 lC O O O (by omega) ?_));intro w7 eo;have eo:St w w7 [az 2 A n n (mR wc n (f+1)),az 2 B n n ((mR (we n) n f).set f (((f:Int)+1)% (n:Int))),Bx 24 1 A0 [.slice none 0 0]]:=eo;rw [<-Nw,J0]at eo;refine ar O (aJ O (aT O (tQ ?_)));exact⟨f+1,by show n - (f+1)<n - f;omega,(alH O),eo,by omega⟩
  ·have mH:f=n:=by omega
   subst mH;refine bw O (bA (dh O ?_));refine CO kh O O O O O O fun A9 w6 lC=>EG (by exact inferInstance) O O O O (bW 1 3 lC O O O O O O O ?_);intro w7 eo;refine bM O (ko O (eo.rd 3 O) ?_);exact⟨A9,2,[⟨A,f,f⟩,⟨B,f,f⟩],O,O,eo.sub (List.Sublist.cons_cons _ (List.Sublist.cons_cons _ (List.Sublist.cons_cons _ (List.nil_sublist _))))⟩
theorem Cj(p:Nat)(w:aa)(hp:1<=p/\p<=100000):aN prog 179 [ak p] w (J8 2 (2*p) w):=(U5 p w hp).mono fun v w' h=>by
 obtain⟨A,c,rs,hv,b5,ax⟩:=h;exact⟨A,c,rs,po p,hv,b5,O,ahn hp.1,ax⟩
end
section
structure PW where
 f:Nat
 k:Nat
 B:aj
 n:Nat
 c:Nat
 rs:List aQ
 xss:ah
end
section
open Go.RowKit
theorem Qj{N M v r:Int}(hv:0<=v/\v<N)(hr:0<=r/\r<M)(hb:N*M<=1000000):0<=v*M/\v*M<=1000000/\0<=v*M+r/\v*M+r<N*M:=by
 have h1:(v+1)*M<=N*M:=Int.mul_le_mul_of_nonneg_right (by omega) (by omega);have h2:0<=v*M:=Int.mul_nonneg hv.1 (by omega);rw [Int.add_mul,Int.one_mul]at h1;omega
theorem GM.first{N:Nat}{xss:ah}(h:GM N xss)(hn:0<xss.length):(gl xss 0).length=N:=by
 have e:gl xss (0:Nat)=xss[0]:=cK hn;have e:gl xss 0=xss[0]:=e;rw [e];exact(h _ (dH hn)).1
theorem GM.at_{N:Nat}{xss:ah}(h:GM N xss){i:Nat}(hi:i<xss.length):Rg N (gl xss i):=by
 rw [cK hi];exact h _ (dH hi)
theorem Gz(A:aj)(n c:Nat)(rs:List aQ)(xss:ah)(N:Nat)(B:aj)(m cB:Nat)(rs':List aQ)(bU:ah)(M:Nat)(w:aa)(hX:bz w A n rs xss)(hY:bz w B m rs' bU)(hn:1<=n/\n<=100)(hm:1<=m/\m<=100)(hx:GM N xss)(hy:GM M bU)(hN:1<=N)(hM:1<=M)(mC:N*M<=1000000):
 aN prog 180 [.agg #[.slice A n c],.agg #[.slice B m cB]] w (J8 (n+m) (N*M) w):=by
 have dG:=hX.len;have rY:=hY.len;have Gq:=hx.first (by omega);have hyM:=hy.first (by omega);have SJ:(N:Int)* (M:Int)<=1000000:=by
  rw [<-Int.natCast_mul];exact Int.ofNat_le.2 mC
 refine bI func180 O ntmps180 O (pq O O) (bc O (ik (St.refl w) O O ?_));intro A2 w1 aE;refine ik aE O O fun A3 w2 aD=>gD aD O fun A4 w3 aM=>aI O (eB [.ex (.agg #[.slice (A) (n) (c)]),xI ((gl xss 0).length:Int),.ex (.agg #[.slice (B) (m) (cB)]),xI ((gl bU 0).length:Int),xI ((gl xss 0).length:Int),xI ((gl bU 0).length:Int)] O (eQ O) ?_ ?_)
 ·refine⟨fun _ _ hb _ _=>alC 0 ((aM.rd 2 O).below hb) O Az,?_,fun _ _ hb _ _=>alC 0 ((aM.rd 1 O).below hb) O Az,?_,Dr O,Dr O,av⟩
  ·intro e1 w1 hb hp aY;refine aL (xd A n c rs xss _ ((aM.aq hb).bS hX) (by omega)) O ?_;rintro _ w2 ⟨rfl,ax⟩;refine ao.n ?_;exact iB.dn ax.below (by exact O)
  intro e1 w1 hb hp aY;refine aL (xd B m cB rs' bU _ ((aM.aq hb).bS hY) (by omega)) O ?_;rintro _ w2 ⟨rfl,ax⟩;refine ao.n ?_;exact iB.dn ax.below (by exact O)
 intro u w4 lD _;have aU:=aM.aq lD;rw [Gq,hyM];refine iV O (wm (by exact inferInstance) O (gD aU O ?_));intro A7 w5 aV;refine bW 1 0 aV O O O O O O O ?_;intro w6 aZ;have aZ:St w w6 ([Bx 24 1 A7 [.slice none 0 0],Bx 24 1 A4 [.slice none 0 0],Bx 24 1 A3 [.slice B m cB],Bx 24 1 A2 [.slice A n c]]++aO 32 2 none 0 0 [] []):=(aZ.nil _).perm (ku (l₁:=[_]) (l₂:=[_,_,_,_]));refine aI O (Cd.loop (α:=PW) (fun s=> [(2,.pointer A2),(3,.pointer A3),(4,.pointer A4),(5,ak N),(6,ak M),(7,.pointer A7),(8,ak (s.n:Int))]) (fun s w'=>St w w' ([Bx 24 1 A7 [.slice s.B s.n s.c],Bx 24 1 A4 [.slice none 0 0],Bx 24 1 A3 [.slice B m cB],Bx 24 1 A2 [.slice A n c]]++aO 32 2 s.B s.n s.c s.rs s.xss)/\s.n<=n+m/\s.rs.length=s.n/\s.xss.length=s.n/\GM (N*M) s.xss) (fun s=>n+m - s.n) ⟨0,0,none,0,0,[],[]⟩ (alH O) ⟨aZ,bm _,O,O,fun p hp=> (nomatch hp)⟩ ?_);rintro⟨_,_,C,i,cC,js,lK⟩ e w7 ⟨a6,hi,b5,vT,hz⟩;dsimp only at a6 hi b5 vT hz|-;refine bc O (aW (a6.rd 3 O) O (a8 (a6.rd 3 O) O (bk O O (aW (a6.rd 2 O) O (a8 (a6.rd 2 O) O ?_)))));refine bk O O (aJ O (aI O ?_));refine aR _ O (fun h1=>?_) (fun h1=>?_)
 ·refine aG O (jO a6 O ?_);intro A9 w8 bL;refine aI O (Cd.loop (α:=Nat×aj×Nat×ai) (fun s=> [(2,.pointer A2),(3,.pointer A3),(4,.pointer A4),(5,ak N),(6,ak M),(7,.pointer A7),(8,ak i),(9,.slice s.2.1 s.1 s.2.2.1),(10,ak (s.1:Int))]) (fun s w'=>St w w' (az 2 s.2.1 s.1 s.2.2.1 s.2.2.2::([Bx 24 1 A7 [.slice C i cC],Bx 24 1 A4 [.slice none 0 0],Bx 24 1 A3 [.slice B m cB],Bx 24 1 A2 [.slice A n c]]++aO 32 2 C i cC js lK))/\s.1<=N*M/\s.2.2.2.length=s.1/\∀x∈s.2.2.2,0<=x/\x< ((N*M:Nat):Int)) (fun s=>N*M - s.1) (0,A9,0,[]) (alH O) ⟨bL,bm _,O,fun x hx=> (nomatch hx)⟩ ?_);rintro⟨f,A9,c9,acc⟩ e w9 ⟨a7,hf,nH,zG⟩;dsimp only at a7 hf nH zG|-;have ab3:(N:Int)* (M:Int)=((N*M:Nat):Int):=(Int.natCast_mul N M).symm;refine bc O (nD O O O (by omega) ?_);rw [ab3];refine aI O (aR _ O (fun h2=>?_) (fun h2=>?_))
  ·have DQ:0<=(f:Int) / (M:Int):=Int.ediv_nonneg (by omega) (by omega);have T0:(f:Int) / (M:Int)< (N:Int):=Int.ediv_lt_of_lt_mul (by omega) (by omega);have mL:=Int.emod_nonneg (f:Int) (b:=(M:Int)) (by omega);have kG:=Int.emod_lt_of_pos (f:Int) (b:=(M:Int)) (by omega);have Md:=a7.bS hX;have Mh:=a7.bS hY;refine aG O (aW (a7.rd 4 O) O (a8 (a7.rd 4 O) O ?_));refine bk O O (aI O ?_);refine aR _ O (fun h3=>?_) (fun h3=>?_)
   ·have cJ:=Md.at_ (i:=(i:Int)) (by omega) (by omega);have sT:=hx.at_ (i:=i) (by omega);have iS:(rg rs i).n=N:=by rw [<-cJ.1,sT.1]
    have hv:=sT.gi DQ T0;have qQ:=Qj (N:=(N:Int)) (M:=(M:Int)) hv ⟨mL,kG⟩ SJ;generalize hV:gi (gl xss i) ((f:Int) / (M:Int))=v at hv qQ;refine jA [18] [yS (A9) (f) (c9),yP (aB (A2) 0),yS (A) (n) (c),yI ((i:Int)),yP (aB (A) ((i:Int)).toNat),yS ((rg (rs) ((i:Int))).a) ((rg (rs) ((i:Int))).n) ((rg (rs) ((i:Int))).c),yI ((f:Int)),yI ((M:Int)),yI ((f:Int) / (M:Int)),yP (aB ((rg (rs) ((i:Int))).a) ((f:Int) / (M:Int)).toNat),yI (v),yI ((M:Int)),yI (v* (M:Int)),yI ((f:Int)),yI ((M:Int)),yI ((f:Int)% (M:Int)),yI ((v* (M:Int))+ ((f:Int)% (M:Int))),.pr (fun v' w'=>∃sn,v'= .slice sn 1 1/\St w w' (az 2 sn 1 1 [v* (M:Int)+ (f:Int)% (M:Int)]::az 2 A9 f c9 acc::([Bx 24 1 A7 [.slice C i cC],Bx 24 1 A4 [.slice none 0 0],Bx 24 1 A3 [.slice B m cB],Bx 24 1 A2 [.slice A n c]]++aO 32 2 C i cC js lK))),.pr (fun v' w'=>∃dZ fu,v'= .slice dZ (f+1) fu/\St w w' (az 2 dZ (f+1) fu (acc++ [v* (M:Int)+ (f:Int)% (M:Int)])::([Bx 24 1 A7 [.slice C i cC],Bx 24 1 A4 [.slice none 0 0],Bx 24 1 A3 [.slice B m cB],Bx 24 1 A2 [.slice A n c]]++aO 32 2 C i cC js lK))),.pr (fun v' w'=>∃dZ fu,v'= .slice dZ (f+1) fu/\St w w' (az 2 dZ (f+1) fu (acc++ [v* (M:Int)+ (f:Int)% (M:Int)])::([Bx 24 1 A7 [.slice C i cC],Bx 24 1 A4 [.slice none 0 0],Bx 24 1 A3 [.slice B m cB],Bx 24 1 A2 [.slice A n c]]++aO 32 2 C i cC js lK)))] (ly (ly (ly (ly (ly (ly (ly (ly (ly (ly (ly (ly (ly (ly (ly (ly (ly (cj.2 ⟨Ye.cN (fun v w w' h hb=>by obtain⟨oL,hv,h1⟩:=h;exact⟨oL,hv,h1.aq hb⟩),(cj.2 ⟨Ye.cN (fun v w w' h hb=>by obtain⟨dZ,fu,hv,h1⟩:=h;exact⟨dZ,fu,hv,h1.aq hb⟩),(cj.2 ⟨Ye.cN (fun v w w' h hb=>by obtain⟨dZ,fu,hv,h1⟩:=h;exact⟨dZ,fu,hv,h1.aq hb⟩),(fun _ h=>by cases h)⟩)⟩)⟩)))))))))))))))))) ?_ ?_
    ·refine⟨?_,cP fun _ _ hb _ _ _=>aW ((a7.rd 4 O).below hb) O (bq O O),cP fun _ _ hb _ _ _=>a8 ((a7.rd 4 O).below hb) O (bq O O),bQ O,cP fun _ _ hb _ _ _=>aF (Md.top.aq hb).2 O (bq O O),cP fun _ _ hb _ _ _=>b6 (Md.top.aq hb) O (bq O O),bQ O,bQ O,?_,cP fun _ _ hb _ _ _=>aF (cJ.aq hb).2 O (bq O O),?_,bQ O,?_,bQ O,bQ O,?_,aP fun _ _=>aJ O (bq O O),?_,?_,?_,av⟩
     ·intro e1 w1 cc dS cI dX hp aY hq;show ao _ _ _ _ _ _ _;refine pF O (by exact aY 19 _ O (by kernel_rfl)) O (ao.n (fL O (by exact O)))
     ·intro e1 w1 cc dS cI dX hp aY hq;show ao _ _ _ _ _ _ _;refine ao.quo O O O (by omega) (ao.n (fL O (by exact O)))
     ·refine cP fun e1 w1 hb hp aY hq=>?_
      refine bh (cJ.aq hb) O (ao.n ?_);exact fL O (by exact aK (Value.int .i64) hV)
     ·intro e1 w1 cc dS cI dX hp aY hq;show ao _ _ _ _ _ _ _;refine nD O O O (by omega) (ao.n (fL O (by exact O)))
     ·intro e1 w1 cc dS cI dX hp aY hq;show ao _ _ _ _ _ _ _;refine qn O O O (by omega) (ao.n (fL O (by exact O)))
     ·refine cP fun e1 w1 hb hp aY hq=>?_
      exact dV (St.refl _) O O O fun oL kL z6=>ao.n (eO.dn O z6.below ⟨oL,O,(a7.aq hb).call z6⟩)
     ·refine jC fun e1 w1 hb hp aY hq=>?_
      obtain⟨oL,tT,h1⟩:=(hp 17 _ _ (by kernel_rfl) rfl rfl (by kernel_rfl));refine fp 1 h1 O (h1.bF 0 O) O (by exact tT) O ?_;intro dZ fu O7 FJ;exact ao.n (fH.dn O ⟨dZ,fu,O,FJ.tail⟩)
     refine dP 1 fun e1 w1 hp aY hq=>?_
     have fe:=hp 18 _ _ (by kernel_rfl) O O (by kernel_rfl);obtain⟨dZ,fu,tT,h1⟩:=(hp 18 _ _ (by kernel_rfl) rfl rfl (by kernel_rfl));refine pF O (by exact tT) O (ao.n ?_);exact eO.dn O (Below.refl _ _) ⟨dZ,fu,O,h1⟩
    intro u dQ _ hu _ _;obtain⟨dZ,fu,Nu,hT⟩:=hu 19 _ rfl (by kernel_rfl);refine iV O (aJ O (aT O (tQ ?_)));refine⟨(f+1,dZ,fu,acc++ [v* (M:Int)+ (f:Int)% (M:Int)]),by show N*M - (f+1)<N*M - f;omega,⟨O,O,O,O,O,O,O,Nu,O,av⟩,hT,by show f+1<=N*M;omega,by simp [nH],fun x eE=>?_⟩;rcases iR.1 eE with h | h
    ·exact zG x h
    rw [fm]at h;subst h;omega
   have cJ:=Mh.at_ (i:=(i:Int) - (n:Int)) (by omega) (by omega);obtain⟨j,hj⟩:∃j:Nat,(i:Int) - (n:Int)=j:=⟨i - n,by omega⟩;have sT:=hy.at_ (i:=j) (by omega);rw [<-hj]at sT;have iS:(rg rs' ((i:Int) - (n:Int))).n=M:=by rw [<-cJ.1,sT.1]
   have hv:=sT.gi mL kG;have qQ:=Qj (N:=(N:Int)) (M:=(M:Int)) (v:=(f:Int) / (M:Int)) ⟨DQ,T0⟩ hv SJ;generalize hV:gi (gl bU ((i:Int) - (n:Int))) ((f:Int)% (M:Int))=v at hv qQ;refine jA [22] [yS (A9) (f) (c9),yI ((f:Int)),yI ((M:Int)),yI ((f:Int) / (M:Int)),yI ((M:Int)),yI ((f:Int) / (M:Int)* (M:Int)),yP (aB (A3) 0),yS (B) (m) (cB),yI ((i:Int)),yP (aB (A2) 0),yS (A) (n) (c),yI (((n:Nat):Int)),yI (((i:Int)) - (((n:Nat):Int))),yP (aB (B) (((i:Int)) - (((n:Nat):Int))).toNat),yS ((rg (rs') (((i:Int)) - (((n:Nat):Int)))).a) ((rg (rs') (((i:Int)) - (((n:Nat):Int)))).n) ((rg (rs') (((i:Int)) - (((n:Nat):Int)))).c),yI ((f:Int)),yI ((M:Int)),yI ((f:Int)% (M:Int)),yP (aB ((rg (rs') (((i:Int)) - (((n:Nat):Int)))).a) ((f:Int)% (M:Int)).toNat),yI (v),yI (((f:Int) / (M:Int)* (M:Int))+ (v)),.pr (fun v' w'=>∃sn,v'= .slice sn 1 1/\St w w' (az 2 sn 1 1 [(f:Int) / (M:Int)* (M:Int)+v]::az 2 A9 f c9 acc::([Bx 24 1 A7 [.slice C i cC],Bx 24 1 A4 [.slice none 0 0],Bx 24 1 A3 [.slice B m cB],Bx 24 1 A2 [.slice A n c]]++aO 32 2 C i cC js lK))),.pr (fun v' w'=>∃dZ fu,v'= .slice dZ (f+1) fu/\St w w' (az 2 dZ (f+1) fu (acc++ [(f:Int) / (M:Int)* (M:Int)+v])::([Bx 24 1 A7 [.slice C i cC],Bx 24 1 A4 [.slice none 0 0],Bx 24 1 A3 [.slice B m cB],Bx 24 1 A2 [.slice A n c]]++aO 32 2 C i cC js lK))),.pr (fun v' w'=>∃dZ fu,v'= .slice dZ (f+1) fu/\St w w' (az 2 dZ (f+1) fu (acc++ [(f:Int) / (M:Int)* (M:Int)+v])::([Bx 24 1 A7 [.slice C i cC],Bx 24 1 A4 [.slice none 0 0],Bx 24 1 A3 [.slice B m cB],Bx 24 1 A2 [.slice A n c]]++aO 32 2 C i cC js lK)))] (ly (ly (ly (ly (ly (ly (ly (ly (ly (ly (ly (ly (ly (ly (ly (ly (ly (ly (ly (ly (ly (cj.2 ⟨Ye.cN (fun v w w' h hb=>by obtain⟨oL,hv,h1⟩:=h;exact⟨oL,hv,h1.aq hb⟩),(cj.2 ⟨Ye.cN (fun v w w' h hb=>by obtain⟨dZ,fu,hv,h1⟩:=h;exact⟨dZ,fu,hv,h1.aq hb⟩),(cj.2 ⟨Ye.cN (fun v w w' h hb=>by obtain⟨dZ,fu,hv,h1⟩:=h;exact⟨dZ,fu,hv,h1.aq hb⟩),(fun _ h=>by cases h)⟩)⟩)⟩)))))))))))))))))))))) ?_ ?_
   ·refine⟨?_,bQ O,bQ O,?_,bQ O,?_,cP fun _ _ hb _ _ _=>aW ((a7.rd 3 O).below hb) O (bq O O),cP fun _ _ hb _ _ _=>a8 ((a7.rd 3 O).below hb) O (bq O O),bQ O,cP fun _ _ hb _ _ _=>aW ((a7.rd 4 O).below hb) O (bq O O),cP fun _ _ hb _ _ _=>a8 ((a7.rd 4 O).below hb) O (bq O O),aP fun _ _=>bk O O (bq O O),aP fun _ _=>dT O (bq O O),cP fun _ _ hb _ _ _=>aF (Mh.top.aq hb).2 O (bq O O),cP fun _ _ hb _ _ _=>b6 (Mh.top.aq hb) O (bq O O),bQ O,bQ O,?_,cP fun _ _ hb _ _ _=>aF (cJ.aq hb).2 O (bq O O),?_,aP fun _ _=>aJ O (bq O O),?_,?_,?_,av⟩
    ·intro e1 w1 cc dS cI dX hp aY hq;show ao _ _ _ _ _ _ _;refine pF O (by exact aY 23 _ O (by kernel_rfl)) O (ao.n (fL O (by exact O)))
    ·intro e1 w1 cc dS cI dX hp aY hq;show ao _ _ _ _ _ _ _;refine ao.quo O O O (by omega) (ao.n (fL O (by exact O)))
    ·intro e1 w1 cc dS cI dX hp aY hq;show ao _ _ _ _ _ _ _;refine nD O O O (by omega) (ao.n (fL O (by exact O)))
    ·intro e1 w1 cc dS cI dX hp aY hq;show ao _ _ _ _ _ _ _;refine qn O O O (by omega) (ao.n (fL O (by exact O)))
    ·refine cP fun e1 w1 hb hp aY hq=>?_
     refine bh (cJ.aq hb) O (ao.n ?_);exact fL O (by exact aK (Value.int .i64) hV)
    ·refine cP fun e1 w1 hb hp aY hq=>?_
     exact dV (St.refl _) O O O fun oL kL z6=>ao.n (eO.dn O z6.below ⟨oL,O,(a7.aq hb).call z6⟩)
    ·refine jC fun e1 w1 hb hp aY hq=>?_
     obtain⟨oL,tT,h1⟩:=(hp 21 _ _ (by kernel_rfl) rfl rfl (by kernel_rfl));refine fp 1 h1 O (h1.bF 0 O) O (by exact tT) O ?_;intro dZ fu O7 FJ;exact ao.n (fH.dn O ⟨dZ,fu,O,FJ.tail⟩)
    refine dP 1 fun e1 w1 hp aY hq=>?_
    have fe:=hp 22 _ _ (by kernel_rfl) O O (by kernel_rfl);obtain⟨dZ,fu,tT,h1⟩:=(hp 22 _ _ (by kernel_rfl) rfl rfl (by kernel_rfl));refine pF O (by exact tT) O (ao.n ?_);exact eO.dn O (Below.refl _ _) ⟨dZ,fu,O,h1⟩
   intro u dQ _ hu _ _;obtain⟨dZ,fu,Nu,hT⟩:=hu 23 _ rfl (by kernel_rfl);refine iV O (aJ O (aT O (tQ ?_)));refine⟨(f+1,dZ,fu,acc++ [(f:Int) / (M:Int)* (M:Int)+v]),by show N*M - (f+1)<N*M - f;omega,⟨O,O,O,O,O,O,O,Nu,O,av⟩,hT,by show f+1<=N*M;omega,by simp [nH],fun x eE=>?_⟩;rcases iR.1 eE with h | h
   ·exact zG x h
   rw [fm]at h;subst h;omega
  have zM:f=N*M:=by omega
  refine bw O (bA (dh O ?_));refine aW (a7.rd 1 O) O (a8 (a7.rd 1 O) O (ar O (mr a7 O O O ?_)));intro XA dQ bO;refine oe 6 bO O (bO.ie 0 O) O O O (by omega) (by omega) O ?_;intro td tt eI dB;have dB:St w eI (az 2 A9 f c9 acc::Bx 24 1 A7 [.slice C i cC]::Bx 24 1 A4 [.slice none 0 0]::Bx 24 1 A3 [.slice B m cB]::Bx 24 1 A2 [.slice A n c]::b9 32 td (i+1) tt (js++ [⟨A9,f,c9⟩])::dq 2 js lK):=dB.tail;refine aW (dB.rd 1 O) O (ka 1 dB O O O O O ?_);intro gL fB;have fB:St w gL (az 2 A9 f c9 acc::Bx 24 1 A7 [.slice td (i+1) tt]::Bx 24 1 A4 [.slice none 0 0]::Bx 24 1 A3 [.slice B m cB]::Bx 24 1 A2 [.slice A n c]::b9 32 td (i+1) tt (js++ [⟨A9,f,c9⟩])::dq 2 js lK):=fB;refine ar O (aJ O (aT O (tQ ?_)));refine⟨⟨0,0,td,i+1,tt,js++ [⟨A9,f,c9⟩],lK++ [acc]⟩,by show n+m - (i+1)<n+m - i;omega,(alH O),?_,by show i+1<=n+m;omega,by simp [b5],by simp [vT],fun p hp=>?_⟩
  ·show St w gL ([_,_,_,_]++b9 32 td (i+1) tt (js++ [⟨A9,f,c9⟩])::dq 2 (js++ [⟨A9,f,c9⟩]) (lK++ [acc]));rw [AH (by omega)];refine fB.perm ?_;exact ku (l₁:=[_]) (l₂:=_::_::_::_::b9 32 td (i+1) tt (js++ [⟨A9,f,c9⟩])::dq 2 js lK)
  rcases iR.1 hp with h | h
  ·exact hz p h
  rw [fm]at h;subst h;exact⟨by omega,zG⟩
 have vI:i=n+m:=by omega
 subst vI;refine bw O (bA (dh O ?_));refine alC 0 (a6.rd 0 O) O (bW 1 1 a6 O O O O O O O ?_);intro w8 bL;refine bM O (ko O (bL.rd 1 O) ?_);exact⟨C,cC,js,lK,O,b5,vT,hz,(((bL.sub ((fE _).cons _)).sub ((fE _).cons _)).sub ((fE _).cons _)).sub ((fE _).cons _)⟩
end
end Go.Proofs.YtopgfgdgfjddpaaGreatDoor.Vc
