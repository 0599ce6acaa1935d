/-
  The texts Pv3, Pv4, Lx3, Lx4, Lx5, Lx8, Pw2, Pw3, Iso, Cmp, Qc2, Qc8, Qd2, Qd3, Qd4, Qa1, Qa2, Qa3, Qa4, Qa5, Qa6, Qa7, Qa8, Qa9 in one. Conditions: as each part states them.
-/
import Derived.Test.YtopgfgdgfjddpaaGreatDoorZh
import Derived.Test.YtopgfgdgfjddpaaGreatDoorZj
import Derived.Test.YtopgfgdgfjddpaaGreatDoorZc
import Derived.Test.YtopgfgdgfjddpaaGreatDoorZe
import Derived.Test.YtopgfgdgfjddpaaGreatDoorZi
import Derived.Test.YtopgfgdgfjddpaaGreatDoorZg
namespace Go.Proofs.YtopgfgdgfjddpaaGreatDoor.Vc
section
open Go.RowKit Tryz
open Classical in
noncomputable def xf(n:Nat)(fl:aiB)(i a b:Nat):List Int:=((List.range b).filter fun b=>decide (jz n fl i a b∧b≠a)).map fun b:Nat=> (b:Int)
noncomputable def ma(n:Nat)(fl:aiB)(i a b:Nat):List Int:=(List.range a).flatMap (rE n fl i)++xf n fl i a b
section
variable {n:Nat} {fl:aiB} {i a b:Nat}
theorem Te:xf n fl i a fl.length=rE n fl i a:=rfl
theorem adZ:ma n fl i (a+1) 0=ma n fl i a fl.length:=by
 unfold ma;rw [ng,List.flatMap_append,Te];simp [xf]
theorem Yg{p:Nat→Bool}{b:Nat}:((List.range (b+1)).filter p)=(List.range b).filter p++ (if p b=true then [b]else []):=by
 rw [ng,nS]
 by_cases h:p b=true
 ·rw [aj h,s8 h];rfl
 rw [ag h,pG h];rfl
open Classical in
theorem Tg:xf n fl i a (b+1)=xf n fl i a b++ (if jz n fl i a b∧b≠a then [(b:Int)]else []):=by
 unfold xf;rw [Yg,iQ]
 by_cases h:jz n fl i a b∧b≠a
 ·rw [aj h,aj (dX h)];rfl
 rw [ag h,ag (fun h'=>h (sP h'))];rfl
theorem adY(h:jz n fl i a b∧b≠a):ma n fl i a (b+1)=ma n fl i a b++ [(b:Int)]:=by
 unfold ma;rw [Tg,aj h,fR]
theorem ad0(h:¬(jz n fl i a b∧b≠a)):ma n fl i a (b+1)=ma n fl i a b:=by
 unfold ma;rw [Tg,ag h,fg]
theorem adX:ma n fl i fl.length 0=uT n fl i:=by simp [ma,xf,uT]
theorem Tf:(xf n fl i a b).length≤b:=by
 unfold xf;rw [fN];refine kJ (oJ _ _) ?_;rw [pe];exact a8 _
theorem S9(hb:b≤fl.length):(ma n fl i a b).length≤a*fl.length+b:=by
 have key:∀a:Nat,((List.range a).flatMap (rE n fl i)).length≤a*fl.length:=by
  intro a
  induction a with
  | zero=>simp
  | succ a ih=>
   rw [ng,List.flatMap_append,dm,Nat.succ_mul];have h:=Tf (n:=n) (fl:=fl) (i:=i) (a:=a) (b:=fl.length);rw [Te]at h;simp only [List.flatMap_cons,List.flatMap_nil,fg];omega
 unfold ma;have h1:=key a;have h2:=Tf (n:=n) (fl:=fl) (i:=i) (a:=a) (b:=b);rw [dm];omega
theorem XP(hn:fl.Nodup)(hl:∀x∈fl,x.length=n)(hi:i<n)(ha:a<fl.length)(hb:b<fl.length):(a≠b∧oR (gl fl (a:Int)) (gl fl (b:Int)) n=1∧gi (gl fl (a:Int)) (i:Int)≠gi (gl fl (b:Int)) (i:Int))↔jz n fl i a b∧b≠a:=by
 have key:∀p:Nat→Bool,(∀c,c<n→(p c=true↔c=i))→((List.range n).filter p)=[i]:=fun p hp=>by
  refine List.Perm.eq_singleton ((s9 (List.nodup_range.filter _) (by simp)).2 fun c=>?_);rw [fA,gg,eT];exact⟨fun h=> (hp c h.1).1 h.2,fun h=>by subst h;exact⟨hi,(hp c hi).2 rfl⟩⟩
 constructor
 ·rintro⟨bt,hd,hx⟩;refine⟨⟨ha,hb,fun k hk dU=>nL fun h=>?_⟩,fun e=>bt e.symm⟩;unfold oR at hd;obtain⟨x,jg⟩:=List.length_eq_one_iff.1 hd;have m1:i∈(List.range n).filter fun k:Nat=>decide (gi (gl fl (a:Int)) (k:Int)≠gi (gl fl (b:Int)) (k:Int)):=fA.2 ⟨gg.2 hi,dX hx⟩
  have m2:k∈(List.range n).filter fun k:Nat=>decide (gi (gl fl (a:Int)) (k:Int)≠gi (gl fl (b:Int)) (k:Int)):=fA.2 ⟨gg.2 hk,dX h⟩
  rw [jg,eT]at m1 m2;exact dU (m2.trans m1.symm)
 rintro⟨hA,bt⟩;have hx:gi (gl fl (a:Int)) (i:Int)≠gi (gl fl (b:Int)) (i:Int):=fun e=>bt (Jd hn hl hb ha fun k hk=>by
  by_cases c:k=i
  ·subst c;exact e.symm
  exact(hA.2.2 k hk c).symm)
 refine⟨fun e=>bt e.symm,?_,hx⟩;unfold oR;rw [key _ fun c hc=>?_]
 ·rfl
 rw [jT];constructor
 ·intro h;exact nL fun h'=>h (hA.2.2 c hc h')
 rintro rfl;exact hx
end
noncomputable def nF(n:Nat)(fl:aiB)(i:Nat):aiB:=(List.range i).map (uT n fl)
theorem S2(n:Nat)(fl:aiB)(i:Nat):nF n fl (i+1)=nF n fl i++ [uT n fl i]:=by
 unfold nF;rw [ng,iQ];rfl
theorem S1(n:Nat)(fl:aiB)(i:Nat):(nF n fl i).length=i:=by simp [nF]
abbrev mV(A:aiC)(B:aiC)(i c:Nat):Ck:=Bx 24 1 A [.slice B i c]
theorem aeC{α:Type}(b m q1 q2 q3:α)(X:List α):(b::q1::q2::q3::m::(X++ [])).Perm (q1::q2::q3::m::((X++ [b])++ [])):=by
 classical
 refine lR.2 fun z=>?_
 simp only [nP,lE,nQ];omega
set_option maxHeartbeats 4000000 in
theorem acT(n:Nat)(A D F:aiC)(a1 cA d1 cD N cF:Nat)(eS:List aG)(fl:aiB)(w:World)(hF:br w F N eS fl)(hl:∀x∈fl,x.length=n)(hn:fl.Nodup)(hN:N≤400)(Rm:n≤1000):
 aA prog 173 [.agg #[aiD (n:Int),.slice A a1 cA,.slice D d1 cD],.slice F N cF] w (fun v w'=>∃A' c' rs',v= .agg #[.slice A' n c']∧rs'.length=n∧St w w' (aE 32 2 A' n c' rs' (bO n fl)++ [])):=by
 have gy:fl.length=N:=hF.len;refine bk func173 O ntmps173 O (qH O O) (aQ O (kK (St.refl w) O O ?_));intro A2 w1 ao;refine gS ao O ?_;intro A4 w2 ar;refine ad O (xK (by exact inferInstance) O (gS ar O ?_));intro A5 w3 az;refine bG 1 0 az O O O O O O O ?_;intro w4 aJ;have aJ:St w w4 (mV A5 none 0 0::mV A4 none 0 0::Bx 34 3 A2 [aiD (n:Int),.slice A a1 cA,.slice D d1 cD]::(aE 32 2 none 0 0 [] (nF n fl 0)++ [])):=(aJ.nil 32).perm (List.perm_append_singleton _ _).symm;clear az ar ao;refine ay O ?_;refine Cd.loop (α:=Nat×(aiC×Nat)×List aG) (fun z=> [(1,.slice F N cF),(2,.pointer A2),(4,.pointer A4),(5,.pointer A5),(6,aiD (z.1:Int))]) (fun z w'=>z.1≤n∧z.2.2.length=z.1∧St w w' (mV A5 z.2.1.1 z.1 z.2.1.2::mV A4 none 0 0::Bx 34 3 A2 [aiD (n:Int),.slice A a1 cA,.slice D d1 cD]::(aE 32 2 z.2.1.1 z.1 z.2.1.2 z.2.2 (nF n fl z.1)++ []))) (fun z=>n - z.1) (0,(none,0),[]) ⟨O,O,O,O,O,ae⟩ ⟨aW _,O,aJ⟩ ?_;clear aJ;rintro⟨i,⟨Am,cm⟩,kB⟩ e w5 ⟨hi,pz,hS⟩;dsimp only at hi pz hS⊢;refine aQ O (aH (hS.rd 2 O) O O O O inferInstance (gK (j:=0) (hS.rd 2 O) (by exact ax Value.pointer O) O O O O (ay O ?_)));refine aB _ O (fun h1=>?_) (fun h1=>?_)
 ·have dq:i<n:=by omega
  refine av O (jl hS O ?_);intro A7 w6 aR;refine ay O ?_;refine Cd.loop (α:=Nat×aiC×Nat) (fun z=> [(1,.slice F N cF),(2,.pointer A2),(4,.pointer A4),(5,.pointer A5),(6,aiD (i:Int)),(7,.slice z.2.1 (ma n fl i z.1 0).length z.2.2),(8,aiD (z.1:Int))]) (fun z w'=>z.1≤N∧St w w' (ah 2 z.2.1 (ma n fl i z.1 0).length z.2.2 (ma n fl i z.1 0)::mV A5 Am i cm::mV A4 none 0 0::Bx 34 3 A2 [aiD (n:Int),.slice A a1 cA,.slice D d1 cD]::(aE 32 2 Am i cm kB (nF n fl i)++ []))) (fun z=>N - z.1) (0,A7,0) ⟨O,O,O,O,O,O,O,ae⟩ ⟨aW _,aR⟩ ?_;clear aR hS;rintro⟨a,Ab,cb⟩ e1 w7 ⟨ha,hS⟩;dsimp only at ha hS⊢;refine aQ O (aa.len O O (ay O ?_));refine aB _ O (fun h2=>?_) (fun h2=>?_)
  ·have sw:a<N:=by omega
   refine bP O ?_;refine Cd.loop (α:=Nat×aiC×Nat) (fun z=> [(1,.slice F N cF),(2,.pointer A2),(4,.pointer A4),(5,.pointer A5),(6,aiD (i:Int)),(7,.slice z.2.1 (ma n fl i a z.1).length z.2.2),(8,aiD (a:Int)),(9,aiD (z.1:Int))]) (fun z w'=>z.1≤N∧St w w' (ah 2 z.2.1 (ma n fl i a z.1).length z.2.2 (ma n fl i a z.1)::mV A5 Am i cm::mV A4 none 0 0::Bx 34 3 A2 [aiD (n:Int),.slice A a1 cA,.slice D d1 cD]::(aE 32 2 Am i cm kB (nF n fl i)++ []))) (fun z=>N - z.1) (0,Ab,cb) ⟨O,O,O,O,O,O,O,O,ae⟩ ⟨aW _,hS⟩ ?_;clear hS;rintro⟨b,Ab,cb⟩ e2 w8 ⟨hb,hS⟩;dsimp only at hb hS⊢;have jK:=S9 (n:=n) (i:=i) (a:=a) (b:=b) (show b≤fl.length by omega);have Cs:a*fl.length≤400*400:=Nat.mul_le_mul (by omega) (by omega);refine aQ O (aa.len O O (ay O ?_));refine aB _ O (fun h3=>?_) (fun h3=>?_)
   ·have wD:b<N:=by omega
    have x7:=hS.bF hF;have mQ:=x7.at_ (i:=(a:Int)) (by omega) (by omega);have l6:=x7.at_ (i:=(b:Int)) (by omega) (by omega);have KI:(gl fl (a:Int)).length=n:=hl _ (by rw [db (by omega)];exact dQ _);have Cj:(gl fl (b:Int)).length=n:=hl _ (by rw [db (by omega)];exact dQ _);have zM:(rg eS (a:Int)).n=n:=by rw [←mQ.1];exact KI
    have KQ:(rg eS (b:Int)).n=n:=by rw [←l6.1];exact Cj
    have hdf:=XP hn hl dq (show a<fl.length by omega) (show b<fl.length by omega);have qv:=adY (n:=n) (fl:=fl) (i:=i) (a:=a) (b:=b);have sK:=ad0 (n:=n) (fl:=fl) (i:=i) (a:=a) (b:=b);rw [←hdf]at qv sK;have ew:=x7.top
    by_cases q1:a=b
    ·refine bP O ?_;refine dI [xI ((a:Int)),xI ((b:Int)),xB (decide (¬((a:Int))=((b:Int)))),xB (false),xU,xU,xU,xU,xU,xU,xU,xU,xU,xU,xB (false),xB (false),xU,xU,xU,xU,xU,xU,xU,xU,xU,xU,xU,xU,xU,xU,xU,xB (false)] (by kernel_rfl) (by kernel_rfl) O (eg O) ?_ ?_
     ·exact⟨Dr O,Dr O,Dr O,fun _ _ _ _ _=>Dk O (by exact ax Value.bool (cd (by omega))),Dr O,Dr O,Dr O,Dr O,Dr O,Dr O,Dr O,Dr O,Dr O,Dr O,Dr O,Dr O,Dr O,Dr O,Dr O,Dr O,Dr O,Dr O,Dr O,Dr O,Dr O,Dr O,Dr O,Dr O,Dr O,Dr O,Dr O,Dr O,ae⟩
     intro u w9 ql _;have hS:=hS.later ql;refine eo O (Cd.eV O ?_);have sK:=sK (fun h=>h.1 q1);refine av O (aa.add O O O (by omega) (aF O (tQ ?_)));exact⟨(b+1,Ab,cb),by show N - (b+1)<N - b;omega,⟨O,O,O,O,O,ax (fun L:List Int=>Value.slice Ab L.length cb) sK.symm,O,O,ae⟩,by show b+1≤N;omega,by show St w w9 (ah _ Ab (ma n fl i a (b+1)).length cb _::_);rw [sK];exact hS⟩
    by_cases q2:oR (gl fl (a:Int)) (gl fl (b:Int)) n=1
    ·refine bP O ?_;refine dI [xI ((a:Int)),xI ((b:Int)),xB (decide (¬((a:Int))=((b:Int)))),xB (true),xS (F) (N) (cF),xI ((a:Int)),xP (aq (F) ((a:Int)).toNat),xS ((rg (eS) ((a:Int))).a) ((rg (eS) ((a:Int))).n) ((rg (eS) ((a:Int))).c),xS (F) (N) (cF),xI ((b:Int)),xP (aq (F) ((b:Int)).toNat),xS ((rg (eS) ((b:Int))).a) ((rg (eS) ((b:Int))).n) ((rg (eS) ((b:Int))).c),xI (((oR (gl fl (a:Int)) (gl fl (b:Int)) (rg eS (a:Int)).n:Nat):Int)),xB (true),xB (true),xB (true),xS (F) (N) (cF),xI ((a:Int)),xP (aq (F) ((a:Int)).toNat),xS ((rg (eS) ((a:Int))).a) ((rg (eS) ((a:Int))).n) ((rg (eS) ((a:Int))).c),xI ((i:Int)),xP (aq ((rg (eS) ((a:Int))).a) ((i:Int)).toNat),xI (gi (gl fl (a:Int)) ((i:Int))),xS (F) (N) (cF),xI ((b:Int)),xP (aq (F) ((b:Int)).toNat),xS ((rg (eS) ((b:Int))).a) ((rg (eS) ((b:Int))).n) ((rg (eS) ((b:Int))).c),xI ((i:Int)),xP (aq ((rg (eS) ((b:Int))).a) ((i:Int)).toNat),xI (gi (gl fl (b:Int)) ((i:Int))),xB (decide (¬(gi (gl fl (a:Int)) ((i:Int)))=(gi (gl fl (b:Int)) ((i:Int))))),xB (decide (¬(gi (gl fl (a:Int)) ((i:Int)))=(gi (gl fl (b:Int)) ((i:Int)))))] (by kernel_rfl) (by kernel_rfl) O (eg O) ?_ ?_
     ·refine⟨Dr O,Dr O,Dr O,fun _ _ _ _ _=>Dk O (by exact ax Value.bool (dX (by omega))),Dr O,Dr O,fun _ _ hb _ _=>aa.g O O O (aw (ew.later hb).2 O O O (by omega) (by omega) (Az O)),fun _ _ hb _ _=>aa.g O O O (bQ (ew.later hb) O (by omega) O O (Az O)),Dr O,Dr O,fun _ _ hb _ _=>aa.g O O O (aw (ew.later hb).2 O O O (by omega) (by omega) (Az O)),fun _ _ hb _ _=>aa.g O O O (bQ (ew.later hb) O (by omega) O O (Az O)),?_,fun _ _ _ _ _=>Dk O (by exact ax Value.bool (dX (by rw [zM,q2];rfl))),Dr O,Dr O,Dr O,Dr O,fun _ _ hb _ _=>aa.g O O O (aw (ew.later hb).2 O O O (by omega) (by omega) (Az O)),fun _ _ hb _ _=>aa.g O O O (bQ (ew.later hb) O (by omega) O O (Az O)),Dr O,fun _ _ hb _ _=>aa.g O O O (aw (mQ.later hb).2 O O O (by omega) (by omega) (Az O)),fun _ _ hb _ _=>aa.g O O O (aT (mQ.later hb) O (by omega) O O (Az O)),Dr O,Dr O,fun _ _ hb _ _=>aa.g O O O (aw (ew.later hb).2 O O O (by omega) (by omega) (Az O)),fun _ _ hb _ _=>aa.g O O O (bQ (ew.later hb) O (by omega) O O (Az O)),Dr O,fun _ _ hb _ _=>aa.g O O O (aw (l6.later hb).2 O O O (by omega) (by omega) (Az O)),fun _ _ hb _ _=>aa.g O O O (aT (l6.later hb) O (by omega) O O (Az O)),Dr O,Dr O,ae⟩;intro e1 w1 hb hp aL;refine aa.g O O O (aa.call (LG (rg eS (a:Int)).a (rg eS (b:Int)).a (rg eS (a:Int)).n (rg eS (a:Int)).c (rg eS (b:Int)).n (rg eS (b:Int)).c (gl fl (a:Int)) (gl fl (b:Int)) _ (mQ.later hb) (l6.later hb) (by omega) (by omega)) O O O ?_);rintro _ w2 ⟨rfl,ak⟩;refine aa.n ?_;exact gD.dn ak.below (by exact O)
     intro u w9 ql _;have hS:=hS.later ql;refine eo O ?_;refine aB _ O (fun h4=>?_) (fun h4=>?_)
     ·have qv:=qv ⟨q1,q2,h4⟩;refine av O (dJ hS O O O ?_);intro A9 dB bD;refine eK 1 bD O (bD.bc 0 O) O O O (by omega) (by omega) O ?_;intro AZ cZ eu du;have du:=du.tail;refine ad O (aa.add O O O (by omega) (aF O (tQ ?_)));refine⟨(b+1,AZ,cZ),by show N - (b+1)<N - b;omega,⟨O,O,O,O,O,?_,O,O,ae⟩,by show b+1≤N;omega,?_⟩
      ·show Value.slice _ _ _=Value.slice _ _ _;rw [qv,dm];rfl
      show St w eu (ah _ AZ (ma n fl i a (b+1)).length cZ _::_);rw [qv,dm];exact du
     have sK:=sK (fun h=>h4 h.2.2);refine av O (aa.add O O O (by omega) (aF O (tQ ?_)));exact⟨(b+1,Ab,cb),by show N - (b+1)<N - b;omega,⟨O,O,O,O,O,ax (fun L:List Int=>Value.slice Ab L.length cb) sK.symm,O,O,ae⟩,by show b+1≤N;omega,by show St w w9 (ah _ Ab (ma n fl i a (b+1)).length cb _::_);rw [sK];exact hS⟩
    refine bP O ?_;refine dI [xI ((a:Int)),xI ((b:Int)),xB (decide (¬((a:Int))=((b:Int)))),xB (true),xS (F) (N) (cF),xI ((a:Int)),xP (aq (F) ((a:Int)).toNat),xS ((rg (eS) ((a:Int))).a) ((rg (eS) ((a:Int))).n) ((rg (eS) ((a:Int))).c),xS (F) (N) (cF),xI ((b:Int)),xP (aq (F) ((b:Int)).toNat),xS ((rg (eS) ((b:Int))).a) ((rg (eS) ((b:Int))).n) ((rg (eS) ((b:Int))).c),xI (((oR (gl fl (a:Int)) (gl fl (b:Int)) (rg eS (a:Int)).n:Nat):Int)),xB (false),xB (false),xB (false),xU,xU,xU,xU,xU,xU,xU,xU,xU,xU,xU,xU,xU,xU,xU,xB (false)] (by kernel_rfl) (by kernel_rfl) O (eg O) ?_ ?_
    ·refine⟨Dr O,Dr O,Dr O,fun _ _ _ _ _=>Dk O (by exact ax Value.bool (dX (by omega))),Dr O,Dr O,fun _ _ hb _ _=>aa.g O O O (aw (ew.later hb).2 O O O (by omega) (by omega) (Az O)),fun _ _ hb _ _=>aa.g O O O (bQ (ew.later hb) O (by omega) O O (Az O)),Dr O,Dr O,fun _ _ hb _ _=>aa.g O O O (aw (ew.later hb).2 O O O (by omega) (by omega) (Az O)),fun _ _ hb _ _=>aa.g O O O (bQ (ew.later hb) O (by omega) O O (Az O)),?_,fun _ _ _ _ _=>Dk O (by exact ax Value.bool (cd (by rw [zM];omega))),Dr O,Dr O,Dr O,Dr O,Dr O,Dr O,Dr O,Dr O,Dr O,Dr O,Dr O,Dr O,Dr O,Dr O,Dr O,Dr O,Dr O,Dr O,ae⟩;intro e1 w1 hb hp aL;refine aa.g O O O (aa.call (LG (rg eS (a:Int)).a (rg eS (b:Int)).a (rg eS (a:Int)).n (rg eS (a:Int)).c (rg eS (b:Int)).n (rg eS (b:Int)).c (gl fl (a:Int)) (gl fl (b:Int)) _ (mQ.later hb) (l6.later hb) (by omega) (by omega)) O O O ?_);rintro _ w2 ⟨rfl,ak⟩;refine aa.n ?_;exact gD.dn ak.below (by exact O)
    intro u w9 ql _;have hS:=hS.later ql;refine eo O (Cd.eV O ?_);have sK:=sK (fun h=>q2 h.2.1);refine av O (aa.add O O O (by omega) (aF O (tQ ?_)));exact⟨(b+1,Ab,cb),by show N - (b+1)<N - b;omega,⟨O,O,O,O,O,ax (fun L:List Int=>Value.slice Ab L.length cb) sK.symm,O,O,ae⟩,by show b+1≤N;omega,by show St w w9 (ah _ Ab (ma n fl i a (b+1)).length cb _::_);rw [sK];exact hS⟩
   have qm:b=fl.length:=by omega
   subst qm;rw [←adZ]at hS⊢;refine aY O (aZ (cL O (aa.add O O O (by omega) (aF O (tQ ?_)))));exact⟨(a+1,Ab,cb),by show N - (a+1)<N - a;omega,⟨O,O,O,O,O,O,O,ae⟩,by show a+1≤N;omega,hS⟩
  have tB:a=fl.length:=by omega
  subst tB;have jK:=S9 (n:=n) (i:=i) (a:=fl.length) (b:=0) (show 0≤fl.length by omega);have Cs:fl.length*fl.length≤400*400:=Nat.mul_le_mul (by omega) (by omega);rw [adX]at hS jK⊢;have qq:=S2 n fl i;refine aY O (aZ (cL O ?_));refine aH (hS.rd 1 O) O O O O inferInstance (aM (j:=0) (hS.rd 1 O) O O O O O (ad O (nj hS O O O ?_)));intro A9 w8 bA;refine oM 5 bA O (bA.il 0 O) O O O (by omega) (by omega) O ?_;intro AZ cZ w9 aS;refine aH (aS.rd 2 O) O O O O inferInstance (jS 2 (j:=0) aS O O O O O ?_);intro dB bD;have bD:=bD.tail;have bD:=bD.perm (aeC _ _ _ _ _ _);refine ad O (aa.add O O O (by omega) (aF O (tQ ?_)));refine⟨(i+1,(AZ,cZ),kB++ [⟨Ab,(uT n fl i).length,cb⟩]),by show n - (i+1)<n - i;omega,⟨O,O,O,O,O,ae⟩,by show i+1≤n;omega,by show(kB++ [_]).length=i+1;rw [dm,pz];rfl,?_⟩;show St w dB (mV A5 AZ (i+1) cZ::mV A4 none 0 0::Bx 34 3 A2 [aiD (n:Int),.slice A a1 cA,.slice D d1 cD]::(aE 32 2 AZ (i+1) cZ (kB++ [_]) (nF n fl (i+1))++ []));rw [qq];unfold aE;rw [uY (by rw [pz,S1])];exact bD
 obtain rfl:i=n:=by omega
 refine aY O (aZ (cL O ?_));refine aa.bq 0 (hS.rd 0 O) O O O (bG 1 1 hS O O O O O O O ?_);intro w6 aR;refine bh O (kX O (aR.rd 1 O) ?_);exact⟨Am,cm,kB,O,pz,aR.sub (show List.Sublist _ (_::_::_::_) from((fJ _).cons _ |>.cons _ |>.cons _))⟩
abbrev CH(A6:aiC)(N:Nat)(mv:List Int)(g:Nat)(L:List (ByteArray×Int))(A3 A2 Am:aiC)(i cm:Nat)(kB:List aG)(T:aiB):List Ck:=
 ah 2 A6 N N mv::lD 138 g (kc Value.string (Value.int .i64) L)::mV A3 Am i cm::mV A2 none 0 0::(aE 32 2 Am i cm kB T++ [])
theorem aeE{α:Type}(b m q1 q2:α)(X:List α):(b::q1::q2::m::(X++ [])).Perm (q1::q2::m::((X++ [b])++ [])):=by
 classical
 refine lR.2 fun z=>?_
 simp only [nP,lE,nQ];omega
set_option maxHeartbeats 4000000 in
theorem ady(n:Nat)(F:aiC)(N cF:Nat)(eS:List aG)(fl:aiB)(w:World)(hT:mL w)(hF:br w F N eS fl)(hl:∀x∈fl,x.length=n∧∀e∈x,0≤e∧e≤1000)(BQ:kj n fl)(hN:0<N∧N≤400)(Rm:n≤1000):
 aA prog 90 [.slice F N cF] w (fun v w'=>∃A' c' rs',v= .agg #[.slice A' n c']∧rs'.length=n∧St w w' (aE 32 2 A' n c' rs' (bO n fl)++ [])):=by
 have gy:fl.length=N:=hF.len;have uI:∀x∈fl,x.length=n:=fun x hx=> (hl x hx).1
 refine bk func90 O ntmps90 O (qH O O) (aQ O (gS (St.refl w) O ?_));intro A2 w1 ao;refine ad O (gS ao O ?_);intro A3 w2 ar;have ar:St w w2 (mV A3 none 0 0::mV A2 none 0 0::(aE 32 2 none 0 0 [] (nF n fl 0)++ [])):=(ar.nil 32).perm (List.perm_append_singleton _ _).symm;clear ao;have od:=ar.bF hF;have Px:=od.at_ (i:=(0:Int)) (by omega) (by omega);have qt:(rg eS (0:Int)).n=n:=by rw [←Px.1];exact uI _ (by rw [show(0:Int)=((0:Nat):Int) from O,db (by omega)];exact dQ _)
 refine ad O (aw od.top.2 O O O (by omega) (by omega) ?_);refine bQ od.top O (by show(0:Int).toNat<N;exact hN.1) O O ?_;refine aa.len O O (ay O ?_);refine Cd.loop (α:=Nat×(aiC×Nat)×List aG) (fun z=> [(0,.slice F N cF),(2,.pointer A2),(3,.pointer A3),(16,aiD (n:Int)),(17,aiD (z.1:Int))]) (fun z w'=>z.1≤n∧z.2.2.length=z.1∧St w w' (mV A3 z.2.1.1 z.1 z.2.1.2::mV A2 none 0 0::(aE 32 2 z.2.1.1 z.1 z.2.1.2 z.2.2 (nF n fl z.1)++ []))) (fun z=>n - z.1) (0,(none,0),[]) ⟨O,O,O,ax (fun m:Nat=>Value.int .i64 (m:Int)) qt,O,ae⟩ ⟨aW _,O,ar⟩ ?_;clear ar od Px;rintro⟨i,⟨Am,cm⟩,kB⟩ e w5 ⟨hi,pz,hS⟩;dsimp only at hi pz hS⊢;refine bK O ?_;refine aB _ O (fun h1=>?_) (fun h1=>?_)
 ·have dq:i<n:=by omega
  refine av O (Ie hS O ?_);intro g w6 aR;refine ad O (aa.len O O ?_);refine vT N aR O O ⟨by omega,by omega⟩ ?_;intro A6 w7 aV;have aV:St w w7 (CH A6 N (mU n fl i 0) g [] A3 A2 Am i cm kB (nF n fl i)):=by
   have e0:=ad1 (n:=n) (fl:=fl) (i:=i);rw [gy]at e0;rw [e0];exact aV
  clear aR hS;refine ad O (aa.len O O (ay O ?_));refine Cd.loop (α:=Nat×List (ByteArray×Int)) (fun z=> [(0,.slice F N cF),(2,.pointer A2),(3,.pointer A3),(4,aiD (i:Int)),(5,.map (some g)),(6,.slice A6 N N),(16,aiD (n:Int)),(17,aiD (i:Int)),(24,.slice F N cF),(25,aiD (N:Int)),(26,aiD (z.1:Int))]) (fun z w'=>z.1≤N∧sZ n fl i z.1 z.2∧St w w' (CH A6 N (mU n fl i z.1) g z.2 A3 A2 Am i cm kB (nF n fl i))) (fun z=>N - z.1) (0,[]) ⟨O,O,O,O,O,O,O,O,O,O,O,ae⟩ ⟨aW _,sZ.zero,aV⟩ ?_;clear aV;rintro⟨f,L⟩ e1 w8 ⟨hf,Gy,hS⟩;dsimp only at hf Gy hS⊢;refine bK O ?_;refine aB _ O (fun h2=>?_) (fun h2=>?_)
  ·have jY:f<fl.length:=by omega
   have x7:=hS.bF hF;have wU:=x7.at_ (i:=(f:Int)) (by omega) (by omega);have hmf:gl fl (f:Int)∈fl:=by rw [db jY];exact dQ _
   have Ej:=hl _ hmf;have En:(rg eS (f:Int)).n=n:=by rw [←wU.1];exact Ej.1
   have wA:=Gy.at_ jY;have tM:=BQ.lt jY dq;have hmvl:=ad4 (n:=n) (fl:=fl) (i:=i) (f:=f);refine av O (aw x7.top.2 O O O (by omega) (by omega) (bQ x7.top O (by omega) O O (ad O (aa.call (Fs _ _ _ (gl fl (f:Int)) _ wU (by omega)) O O O ?_))));rintro _ w9 ⟨A9,c9,rfl,ak⟩;have aS:=hS.call ak;clear hS ak x7 wU;rw [En]at aS⊢;have aS:St w w9 (ah 2 A9 n c9 (gl fl (f:Int))::CH A6 N (mU n fl i f) g L A3 A2 Am i cm kB (nF n fl i)):=aS;refine ad O (aw (aS.rd 0 O) O O O (by omega) (by omega) (jR 0 (i:=(i:Int)) aS O O O (by omega) ?_));intro dB bD;have bD:St w dB (ah 2 A9 n c9 (iF (gl fl (f:Int)) i)::CH A6 N (mU n fl i f) g L A3 A2 Am i cm kB (nF n fl i)):=bD;refine ad O ?_;refine aa.call (LA A9 n c9 (iF (gl fl (f:Int)) i) _ (hT.later bD.below) (bD.bc 0 O) (fun x hx=>by
    rcases List.mem_or_eq_of_mem_set hx with hx | rfl
    ·have:=Ej.2 x hx;omega
    omega) (by omega)) rfl rfl rfl ?_
   rintro _ eu ⟨rfl,ak⟩;have du:=bD.tail.later ak.below;clear aS bD ak;refine ad O (VM Su (qy (iF (gl fl (f:Int)) i)) (du.HL 1 O) O O O ?_);rw [wA]
   by_cases hp:eQ n fl i f<f
   ·rw [aj hp];have aas:=ad3 BQ dq jY hp;refine ay O (Cd.gj O (av O (aw (du.rd 0 O) O O O (by omega) (by omega) (jR 0 (i:=(f:Int)) du O O O (by omega) ?_))));intro gm eG;refine aw (eG.rd 0 O) O O O (by show(0:Int)≤(eQ n fl i f:Int);omega) (by show(eQ n fl i f:Int)< (N:Int);omega) ?_;refine jR 0 (i:=(eQ n fl i f:Int)) eG O O O (by omega) ?_;intro dW fC;refine ad O (aa.add O O O (by omega) (aF O (tQ ?_)));refine⟨(f+1,L),by show N - (f+1)<N - f;omega,⟨O,O,O,O,O,O,O,O,O,O,O,ae⟩,by show f+1≤N;omega,Gy.Q5 BQ dq jY hp,?_⟩;show St w dW (CH A6 N (mU n fl i (f+1)) g L A3 A2 Am i cm kB (nF n fl i));rw [aas];exact fC
   rw [ag hp];have aaJ:=ad5 BQ dq jY hp;refine ay O (Cd.eV O (av O (Ih O Su 1 (u:=(f:Int)) (a:=qy (iF (gl fl (f:Int)) i)) (vv:=Value.int .i64) du O O O O ?_)));intro gm eG;refine ad O (aa.add O O O (by omega) (aF O (tQ ?_)));refine⟨(f+1,jO L (qy (iF (gl fl (f:Int)) i)) (f:Int)),by show N - (f+1)<N - f;omega,⟨O,O,O,O,O,O,O,O,O,O,O,ae⟩,by show f+1≤N;omega,Gy.adI BQ uI dq jY hp,?_⟩;show St w gm (CH A6 N (mU n fl i (f+1)) g _ A3 A2 Am i cm kB (nF n fl i));rw [aaJ];exact eG
  have yg:f=fl.length:=by omega
  subst yg;rw [ad2 BQ dq]at hS;have qq:=S2 n fl i;have hS:St w w8 (ah 2 A6 N N (uT n fl i)::mV A3 Am i cm::mV A2 none 0 0::(aE 32 2 Am i cm kB (nF n fl i)++ [])):=hS.sub ((fJ _).cons _ |>.cons_cons _);refine aY O (aZ (cL O ?_));refine aH (hS.rd 1 O) O O O O inferInstance (aM (j:=0) (hS.rd 1 O) O O O O O (ad O (nj hS O O O ?_)));intro A9 w9 aS;refine oM 4 aS O (aS.il 0 O) O O O (by omega) (by omega) O ?_;intro AZ cZ dB bD;refine aH (bD.rd 2 O) O O O O inferInstance (jS 2 (j:=0) bD O O O O O ?_);intro eu du;have du:=du.tail;have du:=du.perm (aeE _ _ _ _ _);refine ad O (aa.add O O O (by omega) (aF O (tQ ?_)));refine⟨(i+1,(AZ,cZ),kB++ [⟨A6,N,N⟩]),by show n - (i+1)<n - i;omega,⟨O,O,O,O,O,ae⟩,by show i+1≤n;omega,by show(kB++ [_]).length=i+1;rw [dm,pz];rfl,?_⟩;show St w eu (mV A3 AZ (i+1) cZ::mV A2 none 0 0::(aE 32 2 AZ (i+1) cZ (kB++ [_]) (nF n fl (i+1))++ []));rw [qq];unfold aE;rw [uY (by rw [pz,S1])];exact du
 obtain rfl:i=n:=by omega
 refine aY O (aZ (cL O ?_));refine aa.bq 0 (hS.rd 0 O) O O O (bG 1 1 hS O O O O O O O ?_);intro w6 aR;refine bh O (kX O (aR.rd 1 O) ?_);exact⟨Am,cm,kB,O,pz,aR.sub (show List.Sublist _ (_::_::_) from((fJ _).cons _ |>.cons _))⟩
noncomputable def yH(n:Nat)(R:List Int)(B:aiB):Int:=qg n R B
noncomputable def yJ(n:Nat)(R:List Int)(B:aiB):aiB:=if qg n R B=0 then bO n (au n R B)else []
theorem CI{n:Nat}{R:List Int}{B:aiB}(h:(au n R B).length≤400):qg n R B=0∧wb n R B=au n R B∧yJ n R B=bO n (au n R B):=by
 have e:qg n R B=0:=by unfold qg;rw [if_pos h]
 refine⟨e,by unfold wb;rw [if_pos h],by unfold yJ;rw [if_pos e]⟩
theorem L5{n:Nat}{R:List Int}{B:aiB}(h:¬(au n R B).length≤400):qg n R B=3∧yJ n R B=[]:=by
 have e:qg n R B=3:=by unfold qg;rw [if_neg h]
 exact⟨e,by unfold yJ;rw [if_neg (by rw [e];decide)]⟩
theorem OX{n:Nat}{R:List Int}{B:aiB}(hP:fO n R B):∀x∈au n R B,x.length=n∧∀e∈x,0≤e∧e≤1000:=fun x hx=>by
 have hn:=hP.n1;have hb:=hP.nn;have h:=(nY (by omega)).1 hx;refine⟨h.1,fun e he=>?_⟩;obtain⟨k,hk,rfl⟩:=gJ.1 he;have:=(h.2.1 k (by omega)).1;rw [bX hk]at this;omega
set_option maxHeartbeats 1000000 in
theorem aeZ(n:Nat)(A D:aiC)(cA cD:Nat)(R:List Int)(rs:List aG)(B:aiB)(w:World)(hT:mL w)(hR:bS w A R.length R)(hB:br w D B.length rs B)(hP:fO n R B)(hD:rT n R B)(bt:au n R B≠[]):
 aA prog 116 [.agg #[aiD n,.slice A R.length cA,.slice D B.length cD],aiD 0] w (sW (yJ n R B) (yH n R B) w):=by
 have hn:=hP.n1;refine bk func116 O ntmps116 O (tW O O) (aQ O (kK (St.refl w) O O ?_));intro A2 w1 ao;refine gS ao O ?_;intro A4 w2 ar;refine ay O ?_;refine qM O (fun h=>h O) ?_;refine av O (aa.bq 2 (ar.rd 1 O) O O O (aa.call (OR n A D cA cD R rs B _ (ar.eY hR) (ar.bF hB) hP) O O O ?_));rintro _ w3 ⟨AF,cF,eS,rfl,Ew,ak⟩;have kq:=Rd.below (ar.rd 0 O) ak.below
 by_cases hf:(au n R B).length≤400
 ·obtain⟨e1,e2,e3⟩:=CI hf;have e4:yH n R B=0:=e1;rw [e2]at ak⊢;rw [e1,e3,e4];rw [e2]at Ew;have hF:br w3 AF (au n R B).length eS (au n R B):=ak.gC O;have az:=ar.later ak.below;refine ay O (Cd.eV O (av O ?_));have ZK:=hT.later az.below;refine aa.call (ady n AF _ cF eS _ _ ZK hF (OX hP) (Gf hP hD) ⟨List.length_pos_iff.2 bt,hf⟩ (by omega)) O O O ?_;rintro _ w4 ⟨Am,cm,kB,rfl,pz,qx⟩;have jK:=sO n (au n R B);have aJ:=(az.call qx).perm lh;refine bG 1 0 aJ O O O O O O O ?_;intro w5 aK;refine bh O (kA O (aK.rd 0 O) O ?_);refine⟨Am,cm,kB,by rw [jK];rfl,by rw [jK];exact pz,?_⟩;rw [jK];have h9:=aK.sub (show List.Sublist _ (_::_::_) from((fJ _).cons _ |>.cons _))
  rwa [fg]at h9
 obtain⟨e1,e3⟩:=L5 hf;have e4:yH n R B=3:=e1;rw [e1,e3,e4];have az:=ar.later ak.below;refine ay O (Cd.gj O (av O (xK (by exact inferInstance) O (ad O (bG 1 0 az O O O O O O O ?_)))));intro w5 aK;refine bh O (kA O (aK.rd 0 O) O ?_);exact sW.none aK
noncomputable def EZ(M K:aiB)(kind:Int):Int:=if iE M K kind=0 then yH (cn M K kind) (dV M K kind) (mW M K kind)else iE M K kind
noncomputable def o8(M K:aiB)(kind:Int):aiB:=if iE M K kind=0 then yJ (cn M K kind) (dV M K kind) (mW M K kind)else []
theorem CO{M K:aiB}{kind:Int}(h:iE M K kind=0):lA M K kind=0∧cn M K kind≤5∧(dV M K kind).length≤500:=by
 unfold iE at h
 split at h
 ·rename_i h1;refine⟨h1,?_⟩
  by_cases h2:5<cn M K kind∨500< (dV M K kind).length
  ·rw [aj h2]at h;exact absurd h (by decide)
  omega
 contradiction
theorem Mf{M K:aiB}{kind:Int}(h:iE M K kind=0):fO (cn M K kind:Nat) (dV M K kind) (mW M K kind)∧rT (cn M K kind:Nat) (dV M K kind) (mW M K kind)∧au (cn M K kind) (dV M K kind) (mW M K kind)≠[]:=by
 obtain⟨hp,h5,wk⟩:=CO h;obtain⟨mo,ow,ov⟩:=yN hp;obtain⟨fU,ib⟩:=jW ow;obtain⟨jI,mO⟩:=jW ov;have l1:=rC fU ib.1;have l2:=rC jI mO.1;have d1:=BA (mE fU ib.1) ib.2.2.2.2.1;have d2:=BA (mE jI mO.1) mO.2.2.2.2.1;have c1:=Bs (mE fU ib.1) ib.2.2.1;have c2:=Bs (mE jI mO.1) mO.2.2.1;rw [iR]at d1 d2 c1 c2;have hk:=EW (kind:=kind) fU jI;have m1:=fU.1;have k1:=jI.1;have iD:2≤gv M.length K.length kind:=by unfold gv;split<;>omega
 have hl:(CK M K kind).length≤500:=by unfold dV at wk;rwa [List.length_map]at wk
 exact⟨TP l1 l2 ⟨by omega,h5⟩ hl,Mi l1 l2 d1 d2 mo hk (by omega) ⟨by omega,.inl (by omega)⟩,Mj l1 l2 c1 c2 mo hk (by omega) ⟨by omega,.inl (by omega)⟩⟩
theorem aeY(p:Int)(A D:aiC)(a cA d cD:Nat)(K:Int)(hK:K≠0)(w:World):
 aA prog 116 [.agg #[aiD p,.slice A a cA,.slice D d cD],aiD K] w (sW [] K w):=by
 refine bk func116 O ntmps116 O (tW O O) (aQ O (kK (St.refl w) O O ?_));intro A2 w1 ao;refine gS ao O ?_;intro A4 w2 ar;refine ay O (C4 O hK (av O (xK (by exact inferInstance) O (ad O (bG 1 0 ar O O O O O O O ?_)))));intro w3 az;refine bh O (kA O (az.rd 0 O) O ?_);exact sW.none az
theorem aeX(M K:aiB)(kind:Int)(A D:aiC)(cA cD:Nat)(rs:List aG)(w:World)(hT:mL w)(hR:bS w A (kz M K kind).length (kz M K kind))(hB:br w D (jx M K kind).length rs (jx M K kind)):
 aA prog 116 [.agg #[aiD (oz M K kind),.slice A (kz M K kind).length cA,.slice D (jx M K kind).length cD],aiD (iE M K kind)] w (sW (o8 M K kind) (EZ M K kind) w):=by
 unfold o8 EZ
 by_cases h:iE M K kind=0
 ·rw [aj h,aj h];have de:=Mf h;have e1:oz M K kind=(cn M K kind:Nat):=by unfold oz;rw [if_pos h]
  have e2:kz M K kind=dV M K kind:=by unfold kz;rw [if_pos h]
  have e3:jx M K kind=mW M K kind:=by unfold jx;rw [if_pos h]
  rw [e1,h];rw [e2]at hR⊢;rw [e3]at hB⊢;exact aeZ (cn M K kind) A D cA cD _ rs _ w hT hR hB de.1 de.2.1 de.2.2
 rw [ag h,ag h];exact aeY _ A D _ cA _ cD _ h w
set_option maxHeartbeats 1000000 in
theorem abS(A D:aiC)(n c m d:Nat)(rs ts:List aG)(M K:aiB)(kind:Int)(w:World)(hT:mL w)(hM:br w A n rs M)(hK:br w D m ts K)(hn:n≤c)(hc:c≤9223372036854775807)(hm:m≤d)(hd:d≤9223372036854775807):
 aA prog 52 [.agg #[.slice A n c],.agg #[.slice D m d],aiD kind] w (sW (o8 M K kind) (EZ M K kind) w):=by
 refine bk func52 O ntmps52 O (tW O O) (aQ O (iI (St.refl w) O O ?_));intro A3 w1 ao;refine iI ao O O ?_;intro A4 w2 ar;refine gS ar O ?_;intro A6 w3 az;refine ad O (aa.bq 0 (az.rd 2 O) O O O (aa.bq 0 (az.rd 1 O) O O O (ad O (aa.call (TR A D n c m d rs ts M K kind _ (hT.later az.below) (az.bF hM) (az.bF hK) hn hc hm hd) O O O ?_))));rintro _ w4 ⟨AR,cR,AD,cD,cH,rfl,ju,ak⟩;have DW:=ak.bc 0 O;have DK:br w4 AD (jx M K kind).length cH (jx M K kind):=St.gC ak.tail O;have aJ:=az.later ak.below;clear ak az ar ao;refine ad O (jC (St.refl w4) O ?_);intro A8 w5 zx;refine bG 3 0 zx O O O O O O O ?_;intro w6 wv;have aR:=aJ.later wv.below;refine ad O (aa.bq 2 (wv.rd 0 O) O O O (ad O (aa.call (aeX M K kind AR AD cR cD cH _ (hT.later aR.below) (DW.later wv.below) (DK.later wv.below)) O O O ?_)));rintro _ w7 ⟨Am,cm,kB,rfl,pz,ak⟩;have aV:=aR.call2 ak;refine ad O (bG 1 0 aV O O O O O O O ?_);intro w8 bA;refine bh O (kA O (bA.rd 0 O) O ?_);exact⟨Am,cm,kB,O,pz,bA.sub (show List.Sublist _ (_::_::_::_) from((fJ _).cons _ |>.cons _ |>.cons _))⟩
set_option maxHeartbeats 2000000 in
theorem SJ(X8 Z8 Y8 W8:aiC)(cx cz cy cw:Nat)(a1 a2 a3 a4:Nat)(n1 n2 kind:Int)(ok:Bool)(N:Int)(k:Nat)(R:List Int)(B:aiB)(w:World)(Hc:∀w',Below w.heap.size w w'→aA prog 103 [.agg #[aiD n1,.slice X8 a1 cx,.slice Y8 a2 cy],.agg #[aiD n2,.slice Z8 a3 cz,.slice W8 a4 cw],aiD kind] w' (C3 N R B ok w'))(hQ:ok=true→N=(k:Int)∧fO k R B):
 aA prog 112 [.agg #[aiD n1,.slice X8 a1 cx,.slice Y8 a2 cy],.agg #[aiD n2,.slice Z8 a3 cz,.slice W8 a4 cw],aiD kind] w (sW (if ok=true then yJ k R B else []) (if ok=true then yH k R B else 3) w):=by
 refine bk func112 O ntmps112 O (tW O O) (aQ O (kK (St.refl w) O O ?_));intro A3 w1 ao;refine kK ao O O ?_;intro A4 w2 ar;refine gS ar O ?_;intro A6 w3 az;refine ad O (aa.bq 2 (az.rd 2 O) O O O (aa.bq 2 (az.rd 1 O) O O O (ad O (aa.call (Hc _ az.below) O O O ?_))));rintro _ w4 ⟨AR,cR,AD,cD,cH,rfl,ju,ak⟩;have DW:=ak.bc 0 O;have DK:br w4 AD B.length cH B:=St.gC ak.tail O;have aJ:=az.later ak.below;clear ak az ar ao;refine ad O (jC (St.refl w4) O ?_);intro A8 w5 zx;refine bG 3 0 zx O O O O O O O ?_;intro w6 wv;have aR:=aJ.later wv.below;have B5:=wv.rd 0 O;have DW:=DW.later wv.below;have DK:=DK.later wv.below;cases ok
 ·refine ad O ?_
  first | refine eC rfl rfl ?_ | refine aa.not rfl rfl ?_
  refine ay O (Cd.gj O (av O (xK (by exact inferInstance) O (bG 1 0 aR O O O O O O O ?_))));intro w7 aV;refine bh O (kA O (aV.rd 0 O) O ?_);exact sW.none aV
 obtain⟨rfl,hP⟩:=hQ rfl;rw [aj rfl,aj rfl];have hn:=hP.n1;refine ad O ?_
 first | refine eC rfl rfl ?_ | refine aa.not rfl rfl ?_
 refine ay O (Cd.eV O (av O (aa.bq 2 B5 O O O (aa.call (SG k AR AD cR cD R cH B _ DW DK hP) O O O ?_))));rintro _ w7 ⟨AF,cF,eS,rfl,Ew,ak⟩;have aV:=aR.later ak.below;have B5:=Rd.below B5 ak.below
 by_cases hf:(au k R B).length≤400
 ·obtain⟨e1,e2,e3⟩:=CI hf;have e4:yH k R B=0:=e1;rw [IG (FU.2 hf)]at ak Ew⊢;rw [e3,e4];have hF:br w7 AF (au k R B).length eS (au k R B):=ak.gC O;refine ad O ?_
  first | refine eC rfl rfl ?_ | refine aa.not rfl rfl ?_
  refine ay O ?_;refine qM O (fun h=>h hf) ?_;refine av O (aa.bq 2 B5 O O O (ad O ?_));refine aa.call (acT k AR AD AF _ cR _ cD _ cF eS _ _ hF (fun x hx=> (OX hP x hx).1) (BH k R B).nodup hf (by omega)) O O O ?_;rintro _ w8 ⟨Am,cm,kB,rfl,pz,abm⟩;have jK:=sO k (au k R B);have bA:=aV.call2 abm;refine bG 1 0 bA O O O O O O O ?_;intro w9 aS;refine bh O (kA O (aS.rd 0 O) O ?_);refine⟨Am,cm,kB,by rw [jK];rfl,by rw [jK];exact pz,?_⟩;rw [jK];have h9:=aS.sub (show List.Sublist _ (_::_::_::_) from((fJ _).cons _ |>.cons _ |>.cons _))
  rwa [fg]at h9
 obtain⟨e1,e3⟩:=L5 hf;have e4:yH k R B=3:=e1;rw [e3,e4];refine ad O ?_
 first | refine eC rfl rfl ?_ | refine aa.not rfl rfl ?_
 refine ay O (C4 O hf (av O (xK (by exact inferInstance) O (bG 1 0 aV O O O O O O O ?_))));intro w8 bA;refine bh O (kA O (bA.rd 0 O) O ?_);exact sW.none bA
abbrev F7:aiB:=[[1,0]]
def U5(w:World)(v:Value)(w':World):Prop:=∃A,∃r:aG,v= .agg #[.slice A 1 1]∧St w w' (aE 32 2 A 1 1 [r] F7)
theorem Um(w:World):aA prog 117 [] w (U5 w):=by
 refine bk func117 O ntmps117 O (qH O O) (aQ O (gS (St.refl w) O ?_));intro A0 w1 ao;refine ad O (Fz ao O O O O O O ?_);intro A1 w2 ar;have ar:St w w2 (ah 2 A1 2 2 [1,0]::[mV A0 none 0 0]):=ar;refine nj ar O O O ?_;intro A2 w3 az;refine Fx (by exact inferInstance) O O O O (bG 1 2 az O O O O O O O ?_);intro w4 aJ;refine bh O (kX O (aJ.rd 2 O) ?_);exact⟨A2,⟨A1,2,2⟩,O,aJ.sub (show List.Sublist [_,_] [_,_,_] from((List.nil_sublist _).cons_cons _).cons_cons _)⟩
def Ml(M:aiB):List (Int×Int):=bT (aD M M.length+2) (0+2) (pZ M) (gi [-1,0]) 0 (M.length+1)
def oC(M:aiB):List Int:=(Ml M).map (b8 (pZ M) (gi [-1,0]) 0)
noncomputable def uW(M:aiB):aiB:=nI (AK M) (dS 0 []) (Ml M)
noncomputable def CQ(M:aiB):Int:=if iz M=0 then(if 5<M.length+1∨500< (oC M).length then 3 else yH (M.length+1) (oC M) (uW M))else iz M
noncomputable def rM(M:aiB):aiB:=if iz M=0 then(if 5<M.length+1∨500< (oC M).length then []else yJ (M.length+1) (oC M) (uW M))else []
theorem T3{M:aiB}(h:iz M=0)(h5:M.length+1≤5)(wk:(oC M).length≤500):fO ((M.length+1:Nat):Int) (oC M) (uW M)∧rT ((M.length+1:Nat):Int) (oC M) (uW M)∧au (M.length+1) (oC M) (uW M)≠[]:=by
 obtain⟨fU,ib⟩:=jW h;have l1:=rC fU ib.1;have d1:=BA (mE fU ib.1) ib.2.2.2.2.1;have c1:=Bs (mE fU ib.1) ib.2.2.1;rw [iR]at d1 c1;have m1:=fU.1;have hk:((M.length+1:Nat):Int)=gv M.length 0 0:=by unfold gv;rw [if_pos O];omega
 have hl:(Ml M).length≤500:=by unfold oC at wk;rwa [List.length_map]at wk
 exact⟨TP l1 vB ⟨by omega,h5⟩ hl,Mi l1 vB d1 Oq ⟨by omega,by omega⟩ hk (by omega) ⟨by omega,.inr O⟩,Mj l1 vB c1 N7 ⟨by omega,by omega⟩ hk (by omega) ⟨by omega,.inr O⟩⟩
theorem ac2(w:World):aA prog 113 [] w (fun v w'=>∃X cx Y cy ys,v= .agg #[aiD 0,.slice X (0+2) cx,.slice Y (0+2) cy]∧qc w' X [-1,0] 0 Y ys []∧Below w.heap.size w w'):=by
 refine bk func113 O ntmps113 O (qH O O) (aQ O (jC (St.refl w) O ?_));intro A0 w1 ao;refine ad O (Fz ao O O O O O O ?_);intro A1 w2 ar;refine jl ar O ?_;intro A2 w3 az;refine dJ az O O O ?_;intro A3 w4 aJ;refine Fz aJ O O O O O O ?_;intro A4 w5 aK;refine Nf (by exact inferInstance) (by exact inferInstance) (by exact inferInstance) O O O O O O O O O O (bG 3 4 aK O O O O O O O ?_);intro w6 aR;refine bh O (kX O (aR.rd 4 O) ?_);have aR:St w w6 (bU 32 A4 2 2 [⟨A2,0,0⟩,⟨A3,1,1⟩]::ah 2 A3 1 1 [0]::ah 2 A2 0 0 []::[ah 2 A1 2 2 [-1,0],Bx 93 3 A0 [aiD 0,.slice A1 2 2,.slice A4 2 2]]):=aR;have hm:St w w6 (aE 32 2 A4 2 2 [⟨A2,0,0⟩,⟨A3,1,1⟩] [[],[0]]++ [ah 2 A1 2 2 [-1,0],Bx 93 3 A0 [aiD 0,.slice A1 2 2,.slice A4 2 2]]):=aR.perm ((List.Perm.swap _ _ _).cons _);have ha:kM 0 []=[[],[0]]:=O;refine⟨A1,2,A4,2,_,O,⟨O,by omega,aR.bc 3 O,by rw [ha];exact St.gC hm O,fun e h0 h1=>by omega⟩,aR.below⟩
set_option maxHeartbeats 1000000 in
theorem ac1(X Z Y W:aiC)(cx cz cy cw:Nat)(ys zs:List aG)(M:aiB)(w6:World)(hg:iz M=0)(iL:qc w6 X (fo M.length (aO M M.length)) (aD M M.length) Y ys (bn M))(nB:qc w6 Z [-1,0] 0 W zs []):
 aA prog 112 [.agg #[aiD (M.length:Int),.slice X (aD M M.length+2) cx,.slice Y (aD M M.length+2) cy],.agg #[aiD 0,.slice Z (0+2) cz,.slice W (0+2) cw],aiD 0] w6 (sW (rM M) (CQ M) w6):=by
 have fU:=(jW hg).1;have ib:=(jW hg).2;have m1:=fU.1;have hk:((M.length+1:Nat):Int)=gv M.length 0 0:=by unfold gv;rw [if_pos O];omega
 have Hc:=fun(w':World) (hb:Below w6.heap.size w6 w')=> (SK X Z Y W cx cz cy cw (aD M M.length) 0 _ [-1,0] ys zs (bn M) [] M.length 0 0 (M.length+1) w' (iL.later hb) (nB.later hb) (rC fU ib.1) vB ⟨by omega,by omega⟩ hk (by omega) (by omega)).mono fun _ _ h=>h.b
 unfold rM CQ;rw [aj hg,aj hg]
 by_cases de:M.length+1≤5∧(oC M).length≤500
 ·have KZ:=T3 hg de.1 de.2;rw [ag (by omega),ag (by omega)];have gk:M.length+1≤5∧((bT (aD M M.length+2) (0+2) (pZ M) (gi [-1,0]) 0 (M.length+1)).map (b8 (pZ M) (gi [-1,0]) 0)).length≤500:=de;have:=SJ X Z Y W cx cz cy cw _ _ _ _ M.length 0 0 true ((M.length+1:Nat):Int) (M.length+1) (oC M) (uW M) w6 (fun w' hb=>by
   have h9:=Hc w' hb;rw [aj gk,aj gk,aj gk,dX gk]at h9;exact h9) (fun _=> ⟨O,KZ.1⟩)
  rw [aj rfl,aj rfl]at this;exact this
 rw [aj (by omega),aj (by omega)];have gk:¬(M.length+1≤5∧((bT (aD M M.length+2) (0+2) (pZ M) (gi [-1,0]) 0 (M.length+1)).map (b8 (pZ M) (gi [-1,0]) 0)).length≤500):=de;have:=SJ X Z Y W cx cz cy cw _ _ _ _ M.length 0 0 false 0 0 [] [] w6 (fun w' hb=>by
  have h9:=Hc w' hb;rw [ag gk,ag gk,ag gk,cd gk]at h9;exact h9) (fun h=>nomatch h)
 rw [ag (by decide),ag (by decide)]at this;exact this
end
section
open Tryz
theorem X6{M:aiB}(hM:bL M){i:Nat}{f g:Int}(h0:0≤f)(h1:f< (gl M 0).length)(h:Reach (M.eraseIdx i) f g):gi (dd M i) f=gi (dd M i) g:=
 LL (hM.2.2.1.sys.erase i) (hM.2.2.1.inj.erase i) h0 h1 h _ (a8 _)
def mZ(R:List Int)(i:Int):List Int:=(bw R.length).filter fun e=>decide (gi R e=i)
theorem Mr{R:List Int}{i e:Int}:e∈mZ R i↔(0≤e∧e<R.length)∧gi R e=i:=by
 unfold mZ;rw [fA,im,jT]
theorem afD(R:List Int)(i:Int):(mZ R i).Nodup:=(mb _).nodup.filter _
structure eU(n:Nat)(R:List Int)(B:aiB):Prop where
 pos:fO n R B
 yM:xN n R B
 n5:n≤5
 Ya:(au n R B).length≤400
section
variable{i:Nat}
variable {n:Nat} {R:List Int} {B:aiB}
theorem eU.nb(h:eU n R B):kj n (au n R B):=Gf h.pos h.yM.2.2.1
theorem eU.n1(h:eU n R B):1≤n:=by have:=h.pos.n1;omega
theorem eU.z6(h:eU n R B):bL (bO n (au n R B)):=adS h.pos h.yM h.n5 h.Ya
theorem eU.nl(h:eU n R B):(gl (bO n (au n R B)) 0).length=(au n R B).length:=ES h.nb (show 0<n by have:=h.n1;omega)
theorem eU.SQ(h:eU n R B)(hi:i<n){a b:Nat}(ha:a< (au n R B).length)(hb:b< (au n R B).length):gi (dd (bO n (au n R B)) i) (a:Int)=gi (dd (bO n (au n R B)) i) (b:Int)↔gi (gl (au n R B) (a:Int)) (i:Int)=gi (gl (au n R B) (b:Int)) (i:Int):=by
 rw [←adO h.nb h.yM.2.2.2 hi ha hb];constructor
 ·exact I9 h.z6 (by omega) (by rw [h.nl];omega) (by omega) (by rw [h.nl];omega)
 exact X6 h.z6 (by omega) (by rw [h.nl];omega)
theorem eU.MK(h:eU n R B){e:Int}(h0:0≤e)(h1:e<R.length):∃a:Nat,a< (au n R B).length∧gi (gl (au n R B) (a:Int)) (gi R e)=e:=by
 obtain⟨x,hx,he⟩:=h.yM.2.1 e h0 h1;obtain⟨a,ha,ea⟩:=gJ.1 hx;obtain⟨k,hk,ek⟩:=gJ.1 he;have hf:=(nY h.n1).1 hx;have oY:k<n:=by rw [←hf.1];exact hk
 have e1:gi x (k:Int)=e:=by rw [bX hk];exact ek
 have e2:=(hf.2.1 k oY).2;rw [e1]at e2;exact⟨a,ha,by rw [db ha,ea,e2];exact e1⟩
theorem eU.at_(h:eU n R B){a:Nat}(ha:a< (au n R B).length)(hi:i<n):(0≤gi (gl (au n R B) (a:Int)) (i:Int)∧gi (gl (au n R B) (a:Int)) (i:Int)<R.length)∧gi R (gi (gl (au n R B) (a:Int)) (i:Int))=i:=(nZ h.n1 ha).2.1 i hi
theorem eU.pK(h:eU n R B)(hi:i<n):ja (bO n (au n R B)) i=((mZ R (i:Int)).length:Int):=by
 have hN:=h.nl;have h0:=(ze (bO n (au n R B)) i).1;have hex:∀e:Int,∃v:Int,e∈mZ R (i:Int)→(0≤v∧v<ja (bO n (au n R B)) i)∧∀a:Nat,a< (au n R B).length→(gi (dd (bO n (au n R B)) i) (a:Int)=v↔gi (gl (au n R B) (a:Int)) (i:Int)=e):=fun e=>by
  by_cases he:e∈mZ R (i:Int)
  ·have hr:=Mr.1 he;obtain⟨b,hb,eb⟩:=h.MK hr.1.1 hr.1.2;rw [hr.2]at eb;exact⟨gi (dd (bO n (au n R B)) i) (b:Int),fun _=> ⟨BF h.z6 i b (by rw [hN];exact hb),fun a ha=>by rw [h.SQ hi ha hb,eb]⟩⟩
  exact⟨0,fun h=>absurd h he⟩
 obtain⟨g,hg⟩:=Classical.axiomOfChoice hex;have hg:∀e:Int,e∈mZ R (i:Int)→(0≤g e∧g e<ja (bO n (au n R B)) i)∧∀a:Nat,a< (au n R B).length→(gi (dd (bO n (au n R B)) i) (a:Int)=g e↔gi (gl (au n R B) (a:Int)) (i:Int)=e):=hg;have hp:((mZ R (i:Int)).map g).Perm (bw (ja (bO n (au n R B)) i).toNat):=by
  refine(s9 ?_ (mb _).nodup).2 fun v=>?_
  ·refine qd.2 ((afD R (i:Int)).imp_of_mem fun {e d} he hd bt q=>bt ?_);have hr:=Mr.1 he;obtain⟨b,hb,eb⟩:=h.MK hr.1.1 hr.1.2;rw [hr.2]at eb;have h1:=((hg e he).2 b hb).2 eb;rw [q]at h1;rw [←((hg d hd).2 b hb).1 h1];exact eb.symm
  rw [im,dh];constructor
  ·rintro⟨e,he,rfl⟩;have:=(hg e he).1;omega
  intro hv;obtain⟨f,hf,ef⟩:=Gc h.z6 i v hv.1 (by omega);rw [hN]at hf;have h1:=h.at_ hf hi;have hm:gi (gl (au n R B) (f:Int)) (i:Int)∈mZ R (i:Int):=Mr.2 h1;refine⟨_,hm,?_⟩;rw [←((hg _ hm).2 f hf).2 rfl];exact ef
 have hl:=hp.length_eq;rw [fN,yR]at hl;omega
theorem afF(R:List Int)(hR:∀e:Int,0≤e→e<R.length→0≤gi R e):∀i:Nat,((bw R.length).filter fun e=>decide (gi R e< (i:Int))).length+ (mZ R (i:Int)).length=((bw R.length).filter fun e=>decide (gi R e< ((i+1:Nat):Int))).length:=fun i=>by
 unfold mZ;generalize bw R.length=l
 induction l with
 | nil=>rfl
 | cons e l ih=>
  rcases Int.lt_trichotomy (gi R e) (i:Int)with c | c | c
  ·rw [s8 (by simpa using c),pG (by simp;omega),s8 (by simp;omega)];simp only [List.length_cons];omega
  ·rw [pG (by simp;omega),s8 (by simpa using c),s8 (by simp;omega)];simp only [List.length_cons];omega
  ·rw [pG (by simp;omega),pG (by simp;omega),pG (by simp;omega)];exact ih
theorem eU.off(h:eU n R B):∀i:Nat,i≤n→aD (bO n (au n R B)) i=((bw R.length).filter fun e=>decide (gi R e< (i:Int))).length:=by
 have fu:∀e:Int,0≤e→e<R.length→0≤gi R e:=fun e h0 h1=> (h.pos.ri h0 h1).1
 intro i
 induction i with
 | zero=>
  intro _;rw [List.filter_eq_nil_iff.2 fun e he=>?_]
  ·rfl
  ·have hr:=(im _ _).1 he;have:=fu e hr.1 hr.2;simp;omega
 | succ i ih=>
  intro hi;have h1:=h.pK (show i<n by omega);show aD _ i+ (ja _ i).toNat=_;rw [ih (by omega),h1,←afF R fu i];omega
theorem eU.To(h:eU n R B):aD (bO n (au n R B)) n=R.length:=by
 rw [h.off n (a8 _),List.filter_eq_self.2 fun e he=>?_]
 ·exact yR _
 have hr:=(im _ _).1 he;have:=(h.pos.ri hr.1 hr.2).2;simp;omega
end
section
variable{i b:Nat}
variable {n:Nat} {R:List Int} {B:aiB}
theorem eU.len(h:eU n R B):(bO n (au n R B)).length=n:=sO n _
theorem eU.tl(h:eU n R B)(hi:i<n){a:Nat}(ha:a< (au n R B).length)(hb:b< (au n R B).length):bC (bO n (au n R B)) i a=bC (bO n (au n R B)) i b↔gi (gl (au n R B) (a:Int)) (i:Int)=gi (gl (au n R B) (b:Int)) (i:Int):=by
 rw [←h.SQ hi ha hb];unfold bC;omega
theorem eU.fin(h:eU n R B)(hi:i<n){a:Nat}(ha:a< (au n R B).length):(0≤bC (bO n (au n R B)) i a∧bC (bO n (au n R B)) i a< ((aO (bO n (au n R B)) n).length:Int))∧gi (aO (bO n (au n R B)) n) (bC (bO n (au n R B)) i a)=i:=by
 have h1:=pn h.z6 (i:=i) (f:=a) (by rw [h.nl];exact ha);have h2:=nG (bO n (au n R B)) (show i+1≤n by omega);rw [iR];exact⟨⟨by omega,by omega⟩,Dz hi h1.1 h1.2⟩
theorem eU.DA(h:eU n R B){e:Int}(h0:0≤e)(h1:e< ((aO (bO n (au n R B)) n).length:Int)):∃i:Nat,i<n∧∃a:Nat,a< (au n R B).length∧e=bC (bO n (au n R B)) i a:=by
 rw [iR]at h1;obtain⟨i,hi,h2,h3⟩:=Jg h0 h1;have h3:e< ((aD (bO n (au n R B)) i+ (ja (bO n (au n R B)) i).toNat:Nat):Int):=h3;obtain⟨a,ha,e1⟩:=Gc h.z6 i (e - (aD (bO n (au n R B)) i:Int)) (by omega) (by omega);rw [h.nl]at ha;refine⟨i,hi,a,ha,?_⟩;unfold bC;rw [e1];omega
theorem eU.spl(h:eU n R B)(hi:i+1<n){a:Nat}(ha:a< (au n R B).length)(hb:b< (au n R B).length)(hm:gi (gl (au n R B) (a:Int)) (i:Int)∈gl B (gi (gl (au n R B) (b:Int)) ((i+1:Nat):Int))):
 ∃c:Nat,c< (au n R B).length∧∀k:Nat,k<n→gi (gl (au n R B) (c:Int)) (k:Int)=if k≤i then gi (gl (au n R B) (a:Int)) (k:Int)else gi (gl (au n R B) (b:Int)) (k:Int):=by
 have fa:=nZ h.n1 ha;have fb:=nZ h.n1 hb;obtain⟨x,hx⟩:∃x:List Int,x=(List.range n).map fun k=>if k≤i then gi (gl (au n R B) (a:Int)) (k:Int)else gi (gl (au n R B) (b:Int)) (k:Int):=⟨_,rfl⟩
 have fW:∀k:Nat,k<n→gi x (k:Int)=if k≤i then gi (gl (au n R B) (a:Int)) (k:Int)else gi (gl (au n R B) (b:Int)) (k:Int):=fun k hk=>by
  rw [hx,bX (by simpa using hk),List.getElem_map,List.getElem_range]
 have EG:x∈au n R B:=by
  refine(nY h.n1).2 ⟨by rw [hx];simp,fun k hk=>?_,fun k hk=>?_⟩
  ·rw [fW k hk]
   split
   ·exact fa.2.1 k hk
   exact fb.2.1 k hk
  rw [fW k (by omega),fW (k+1) hk]
  by_cases c1:k+1≤i
  ·rw [aj (show k≤i by omega),aj c1];exact fa.2.2 k hk
  rw [ag c1]
  by_cases c2:k≤i
  ·rw [aj c2];obtain rfl:k=i:=by omega
   exact hm
  rw [ag c2];exact fb.2.2 k hk
 obtain⟨c,hc,e⟩:=gJ.1 EG;refine⟨c,hc,fun k hk=>?_⟩;rw [db hc,e];exact fW k hk
theorem eU.inc(h:eU n R B)(hi:i+1<n){a:Nat}(ha:a< (au n R B).length)(hb:b< (au n R B).length):bC (bO n (au n R B)) i a∈gl (bn (bO n (au n R B))) (bC (bO n (au n R B)) (i+1) b)↔gi (gl (au n R B) (a:Int)) (i:Int)∈gl B (gi (gl (au n R B) (b:Int)) ((i+1:Nat):Int)):=by
 have g1:=h.fin (show i<n by omega) ha;have g2:=h.fin hi hb;have hl:=h.len;rw [iR]at g1 g2;rw [n3 g2.1.1 (by rw [hl];exact g2.1.2),hl];constructor
 ·rintro⟨_,f,hf,j,hj,k,hk,e1,e2⟩;rw [h.nl]at hf;rw [hl]at hj;have r1:=(h.fin hj hf).2;have r2:=(h.fin (show k<n by omega) hf).2;rw [←e1,g2.2]at r1;rw [←e2,g1.2]at r2;obtain rfl:j=i+1:=by omega
  obtain rfl:k=i:=by omega
  have q1:=(h.tl hi hb hf).1 e1;have q2:=(h.tl (show k<n by omega) ha hf).1 e2;rw [q1,q2];exact(nZ h.n1 hf).2.2 k hi
 intro hm;obtain⟨c,hc,hk⟩:=h.spl hi ha hb hm;have q1:=hk i (by omega);have q2:=hk (i+1) hi;rw [aj (a8 _)]at q1;rw [ag (by omega)]at q2;exact⟨g1.1,c,by rw [h.nl];exact hc,i+1,by rw [hl];exact hi,i,by omega,(h.tl hi hb hc).2 q2.symm,(h.tl (show i<n by omega) ha hc).2 q1.symm⟩
theorem eU.abU(h:eU n R B)(hi:i+2<n){a:Nat}(ha:a< (au n R B).length)(hb:b< (au n R B).length)(hm:bC (bO n (au n R B)) i a∈gl (bn (bO n (au n R B))) (bC (bO n (au n R B)) (i+2) b)):gi (gl (au n R B) (a:Int)) (i:Int)∈gl B (gi (gl (au n R B) (b:Int)) ((i+2:Nat):Int)):=by
 have g1:=h.fin (show i<n by omega) ha;have g2:=h.fin hi hb;have hl:=h.len;rw [iR]at g1 g2;rw [n3 g2.1.1 (by rw [hl];exact g2.1.2),hl]at hm;obtain⟨_,f,hf,j,hj,k,hk,e1,e2⟩:=hm;rw [h.nl]at hf;rw [hl]at hj;have r1:=(h.fin hj hf).2;have r2:=(h.fin (show k<n by omega) hf).2;rw [←e1,g2.2]at r1;rw [←e2,g1.2]at r2;obtain rfl:j=i+2:=by omega
 obtain rfl:k=i:=by omega
 have q1:=(h.tl hi hb hf).1 e1;have q2:=(h.tl (show k<n by omega) ha hf).1 e2;rw [q1,q2];have f1:=(nZ h.n1 hf).2.2 k (by omega);have f2:=(nZ h.n1 hf).2.2 (k+1) hi;have f3:=((nZ h.n1 hf).2.1 (k+2) hi).1;exact(h.pos.at_ (e:=gi (gl (au n R B) (f:Int)) ((k+2:Nat):Int)) f3.1 f3.2).2.2 _ f2 _ f1
def jG(n:Nat)(M:aiB)(a:Nat):List Int:=(List.range n).map fun i=>bC M i a
theorem lV{M:aiB}{a:Nat}(hi:i<n):gi (jG n M a) (i:Int)=bC M i a:=by
 unfold jG;rw [bX (by simpa using hi),List.getElem_map,List.getElem_range]
theorem eU.Gg(h:eU n R B){y:List Int}:y∈au n (aO (bO n (au n R B)) n) (bn (bO n (au n R B)))↔∃a:Nat,a< (au n R B).length∧y=jG n (bO n (au n R B)) a:=by
 rw [nY h.n1];constructor
 ·rintro⟨hl,hr,hc⟩;have hex:∀i:Nat,∃a:Nat,i<n→a< (au n R B).length∧gi y (i:Int)=bC (bO n (au n R B)) i a:=fun i=>by
   by_cases hi:i<n
   ·have h1:=hr i hi;obtain⟨j,hj,a,ha,e⟩:=h.DA h1.1.1 h1.1.2;have r:=(h.fin hj ha).2;rw [←e,h1.2]at r;obtain rfl:i=j:=by omega
    exact⟨a,fun _=> ⟨ha,e⟩⟩
   exact⟨0,fun h=>absurd h hi⟩
  obtain⟨A,hA⟩:=Classical.axiomOfChoice hex;have hA:∀i:Nat,i<n→A i< (au n R B).length∧gi y (i:Int)=bC (bO n (au n R B)) i (A i):=hA;obtain⟨x,hx⟩:∃x:List Int,x=(List.range n).map fun i=>gi (gl (au n R B) (A i:Int)) (i:Int):=⟨_,rfl⟩
  have fW:∀i:Nat,i<n→gi x (i:Int)=gi (gl (au n R B) (A i:Int)) (i:Int):=fun i hi=>by
   rw [hx,bX (by simpa using hi),List.getElem_map,List.getElem_range]
  have EG:x∈au n R B:=by
   refine(nY h.n1).2 ⟨by rw [hx];simp,fun i hi=>?_,fun i hi=>?_⟩
   ·rw [fW i hi];exact h.at_ (hA i hi).1 hi
   rw [fW i (by omega),fW (i+1) hi];have q:=hc i hi;rw [(hA i (by omega)).2,(hA (i+1) hi).2]at q;exact(h.inc hi (hA i (by omega)).1 (hA (i+1) hi).1).1 q
  obtain⟨c,px,e⟩:=gJ.1 EG;refine⟨c,px,uS (n:=n) hl (by simp [jG]) fun i hi=>?_⟩;rw [lV hi,(hA i hi).2];refine(h.tl hi (hA i hi).1 px).2 ?_;rw [db px,e];exact(fW i hi).symm
 rintro⟨a,ha,rfl⟩;refine⟨by simp [jG],fun i hi=>?_,fun i hi=>?_⟩
 ·rw [lV hi];exact h.fin hi ha
 rw [lV (show i<n by omega),lV hi];exact(h.inc hi ha ha).2 ((nZ h.n1 ha).2.2 i hi)
theorem eU.Yh(h:eU n R B){a:Nat}(ha:a< (au n R B).length)(hb:b< (au n R B).length)(e:jG n (bO n (au n R B)) a=jG n (bO n (au n R B)) b):a=b:=
 wc ha hb (uS (n:=n) (nZ h.n1 ha).1 (nZ h.n1 hb).1 fun i hi=>by
  have:=ax (fun y=>gi y (i:Int)) e;simp only [lV hi]at this;exact(h.tl hi ha hb).1 this)
theorem eU.zh(h:eU n R B):(au n (aO (bO n (au n R B)) n) (bn (bO n (au n R B)))).length=(au n R B).length:=by
 have hp:((List.range (au n R B).length).map (jG n (bO n (au n R B)))).Perm (au n (aO (bO n (au n R B)) n) (bn (bO n (au n R B)))):=by
  refine(s9 ?_ (BH _ _ _).nodup).2 fun y=>?_
  ·exact qd.2 ((List.nodup_range (n:=(au n R B).length)).imp_of_mem fun {a b} ha hb bt e=>bt (h.Yh (gg.1 ha) (gg.1 hb) e))
  rw [h.Gg,dh];constructor
  ·rintro⟨a,ha,rfl⟩;exact⟨a,gg.1 ha,rfl⟩
  rintro⟨a,ha,rfl⟩;exact⟨a,gg.2 ha,rfl⟩
 have:=hp.length_eq;rw [fN,pe]at this;exact this.symm
theorem eU.OL(h:eU n R B){p:Nat}(hp:p< (au n R B).length):∃a:Nat,a< (au n R B).length∧gl (au n (aO (bO n (au n R B)) n) (bn (bO n (au n R B)))) (p:Int)=jG n (bO n (au n R B)) a:=by
 have hl:=h.zh;refine h.Gg.1 ?_;rw [db (by omega)];exact dQ _
theorem eU.Yb(h:eU n R B){a:Nat}(ha:a< (au n R B).length):∃p:Nat,p< (au n R B).length∧gl (au n (aO (bO n (au n R B)) n) (bn (bO n (au n R B)))) (p:Int)=jG n (bO n (au n R B)) a:=by
 have hl:=h.zh;obtain⟨p,hp,e⟩:=gJ.1 (h.Gg.2 ⟨a,ha,rfl⟩);exact⟨p,by omega,by rw [db hp];exact e⟩
theorem eU.X7(h:eU n R B):vN n (au n (aO (bO n (au n R B)) n) (bn (bO n (au n R B)))):=by
 have hl:=h.zh;have key:∀ {S:Nat→Prop} {a c:Nat},eO n (au n R B) S a c→∀ {S':Nat→Prop},(∀k,k<n→(S' k→S k))→∀p:Nat,p< (au n R B).length→gl (au n (aO (bO n (au n R B)) n) (bn (bO n (au n R B)))) (p:Int)=jG n (bO n (au n R B)) a→
  ∃q:Nat,q< (au n R B).length∧gl (au n (aO (bO n (au n R B)) n) (bn (bO n (au n R B)))) (q:Int)=jG n (bO n (au n R B)) c∧eO n (au n (aO (bO n (au n R B)) n) (bn (bO n (au n R B)))) S' p q:=by
  intro S a c hL S' hS p hp e
  induction hL with
  | refl ha=>exact⟨p,hp,e,.refl (by omega)⟩
  | step vt hi hs hA ih=>
   rename_i b c i;obtain⟨q,hq,e1,l1⟩:=ih;obtain⟨r,hr,e2⟩:=h.Yb hA.2.1;refine⟨r,hr,e2,.step l1 hi (fun hx=>hs (hS i hi hx)) ⟨by omega,by omega,fun k hk bt=>?_⟩⟩;rw [e1,e2,lV hk,lV hk];exact(h.tl hk hA.1 hA.2.1).2 (hA.2.2 k hk bt)
 intro p q sH hq;rw [hl]at hq;obtain⟨a,ha,ea⟩:=h.OL (show p< (au n R B).length by omega);obtain⟨b,hb,eb⟩:=h.OL hq;have lK:eO n (au n R B) (fun k=>gi (gl (au n R B) (a:Int)) (k:Int)=gi (gl (au n R B) (b:Int)) (k:Int)) a b:=by
  rcases Nat.lt_trichotomy a b with dO | dO | dO
  ·exact h.yM.2.2.2 a b dO hb
  ·subst dO;exact .refl ha
  ·have:=(h.yM.2.2.2 b a dO ha).symm;have e:(fun k:Nat=>gi (gl (au n R B) (b:Int)) (k:Int)=gi (gl (au n R B) (a:Int)) (k:Int))=fun k:Nat=>gi (gl (au n R B) (a:Int)) (k:Int)=gi (gl (au n R B) (b:Int)) (k:Int):=funext fun k=>propext ⟨Eq.symm,Eq.symm⟩
   rwa [e]at this
 obtain⟨r,hr,er,lr⟩:=key lK (S':=fun k=>gi (gl (au n (aO (bO n (au n R B)) n) (bn (bO n (au n R B)))) (p:Int)) (k:Int)=gi (gl (au n (aO (bO n (au n R B)) n) (bn (bO n (au n R B)))) (q:Int)) (k:Int)) (fun k hk e=>by
  rw [ea,eb,lV hk,lV hk]at e;exact(h.tl hk ha hb).1 e) p (by omega) ea
 obtain rfl:r=q:=wc (by omega) (by omega) (er.trans eb.symm);exact lr
theorem eU.X9(h:eU n R B):rT n (aO (bO n (au n R B)) n) (bn (bO n (au n R B))):=by
 intro i e f eP jt he hf D9;obtain⟨j,rfl⟩:∃j:Nat,i=j:=⟨i.toNat,by omega⟩;have hj:j<n:=by omega
 have dp:∃e0:Int,qe R (j:Int) e0∧(e<0↔e0<0)∧(0≤e→1≤j∧∃a:Nat,a< (au n R B).length∧e=bC (bO n (au n R B)) (j - 1) a∧e0=gi (gl (au n R B) (a:Int)) ((j - 1:Nat):Int)):=by
  rcases he with⟨q1,q2⟩ | ⟨q1,q2,q3⟩
  ·exact⟨-1,.inl ⟨O,q2⟩,by omega,fun _=>by omega⟩
  obtain⟨k,hk,a,ha,ea⟩:=h.DA q1.1 q1.2;have r:=(h.fin hk ha).2;rw [←ea,q3]at r;obtain rfl:k=j - 1:=by omega
  have g:=h.at_ ha hk;exact⟨_,.inr ⟨g.1,q2,by rw [g.2];omega⟩,by omega,fun _=> ⟨by omega,a,ha,ea,O⟩⟩
 have bJ:∃f0:Int,nO n R (j:Int) f0∧(f<0↔f0<0)∧(0≤f→j+1<n∧∃b:Nat,b< (au n R B).length∧f=bC (bO n (au n R B)) (j+1) b∧f0=gi (gl (au n R B) (b:Int)) ((j+1:Nat):Int)):=by
  rcases hf with⟨q1,q2⟩ | ⟨q1,q2,q3⟩
  ·exact⟨-1,.inl ⟨O,q2⟩,by omega,fun _=>by omega⟩
  obtain⟨k,hk,b,hb,eb⟩:=h.DA q1.1 q1.2;have r:=(h.fin hk hb).2;rw [←eb,q3]at r;obtain rfl:k=j+1:=by omega
  have g:=h.at_ hb hk;exact⟨_,.inr ⟨g.1,q2,by rw [g.2];omega⟩,by omega,fun _=> ⟨by omega,b,hb,eb,O⟩⟩
 obtain⟨e0,hL,Kp,QM⟩:=dp;obtain⟨f0,hH,Ks,QP⟩:=bJ;have hm:=h.yM.2.2.1 (j:Int) e0 f0 eP jt hL hH (fun k1 k2=>by
  obtain⟨j1,a,ha,ea,Dq⟩:=QM (by omega);obtain⟨j2,b,hb,eb,F4⟩:=QP (by omega);have:=D9 (by omega) (by omega);obtain⟨i,rfl⟩:∃i,j=i+1:=⟨j - 1,by omega⟩;rw [ea,eb]at this;rw [Dq,F4];have e1:i+1 - 1=i:=by omega
  rw [e1]at this⊢;exact h.abU (by omega) ha hb this)
 have hex:∀d0:Int,∃c:Nat,d0∈jB R B (j:Int) e0 f0→c< (au n R B).length∧gi (gl (au n R B) (c:Int)) (j:Int)=d0:=fun d0=>by
  by_cases hd:d0∈jB R B (j:Int) e0 f0
  ·have Kn:=xJ.1 hd;obtain⟨c,hc,ec⟩:=h.MK Kn.1.1 Kn.1.2;rw [Kn.2.1]at ec;exact⟨c,fun _=> ⟨hc,ec⟩⟩
  exact⟨0,fun h=>absurd h hd⟩
 obtain⟨g,hg⟩:=Classical.axiomOfChoice hex;have hg:∀d0:Int,d0∈jB R B (j:Int) e0 f0→g d0< (au n R B).length∧gi (gl (au n R B) (g d0:Int)) (j:Int)=d0:=hg;have Qy:∀c:Nat,c< (au n R B).length→((e<0∨e∈gl (bn (bO n (au n R B))) (bC (bO n (au n R B)) j c))↔(e0<0∨e0∈gl B (gi (gl (au n R B) (c:Int)) (j:Int)))):=fun c hc=>by
  by_cases c1:e<0
  ·exact⟨fun _=> .inl (Kp.1 c1),fun _=> .inl c1⟩
  obtain⟨j1,a,ha,ea,Dq⟩:=QM (by omega);obtain⟨i,rfl⟩:∃i,j=i+1:=⟨j - 1,by omega⟩;have e1:i+1 - 1=i:=by omega
  rw [e1]at ea Dq;have:=h.inc hj ha hc;constructor
  ·rintro(q | q)
   ·exact absurd q c1
   rw [ea]at q;exact .inr (by rw [Dq];exact this.1 q)
  rintro(q | q)
  ·exact absurd (Kp.2 q) c1
  rw [Dq]at q;exact .inr (by rw [ea];exact this.2 q)
 have Qs:∀c:Nat,c< (au n R B).length→((f<0∨bC (bO n (au n R B)) j c∈gl (bn (bO n (au n R B))) f)↔(f0<0∨gi (gl (au n R B) (c:Int)) (j:Int)∈gl B f0)):=fun c hc=>by
  by_cases c1:f<0
  ·exact⟨fun _=> .inl (Ks.1 c1),fun _=> .inl c1⟩
  obtain⟨j2,b,hb,eb,F4⟩:=QP (by omega);have:=h.inc j2 hc hb;constructor
  ·rintro(q | q)
   ·exact absurd q c1
   rw [eb]at q;exact .inr (by rw [F4];exact this.1 q)
  rintro(q | q)
  ·exact absurd (Ks.2 q) c1
  rw [F4]at q;exact .inr (by rw [eb];exact this.2 q)
 have hp:((jB R B (j:Int) e0 f0).map fun d0=>bC (bO n (au n R B)) j (g d0)).Perm (jB (aO (bO n (au n R B)) n) (bn (bO n (au n R B))) (j:Int) e f):=by
  refine(s9 ?_ (Bb _ _ _ _ _)).2 fun d=>?_
  ·refine qd.2 ((Bb R B (j:Int) e0 f0).imp_of_mem fun {d1 d2} h1 h2 bt q=>bt ?_);have a1:=hg d1 h1;have a2:=hg d2 h2;rw [←a1.2,←a2.2];exact(h.tl hj a1.1 a2.1).1 q
  rw [dh,xJ];constructor
  ·rintro⟨d0,zB,rfl⟩;have a1:=hg d0 zB;have a2:=xJ.1 zB;have a3:=h.fin hj a1.1;rw [←a1.2]at a2;exact⟨a3.1,a3.2,(Qy _ a1.1).2 a2.2.2.1,(Qs _ a1.1).2 a2.2.2.2⟩
  rintro⟨q1,q2,q3,q4⟩;obtain⟨k,hk,c,hc,ec⟩:=h.DA q1.1 q1.2;have r:=(h.fin hk hc).2;rw [←ec,q2]at r;obtain rfl:k=j:=by omega
  have g1:=h.at_ hc hk;rw [ec]at q3 q4;have zB:gi (gl (au n R B) (c:Int)) (k:Int)∈jB R B (k:Int) e0 f0:=xJ.2 ⟨g1.1,g1.2,(Qy _ hc).1 q3,(Qs _ hc).1 q4⟩;refine⟨_,zB,?_⟩;have a1:=hg _ zB;rw [ec];exact(h.tl hk a1.1 hc).2 a1.2
 have:=hp.length_eq;rw [fN,hm]at this;exact this.symm
theorem eU.YI(h:eU n R B):s5 (bO n (au n R B)):=by
 have hl:=h.len;have hb:=h.pos.nn;have Hb:0< (au n R B).length:=List.length_pos_iff.2 h.yM.1;refine⟨by rw [hl,h.To];exact hb,?_,?_⟩
 ·unfold jr;rw [hl,h.zh,h.nl]
 rw [hl];refine⟨fun e=>?_,fun e h0 h1=>?_,h.X9,h.X7⟩
 ·have:=h.zh;rw [e]at this;simp at this;omega
 obtain⟨i,hi,a,ha,ea⟩:=h.DA h0 h1;refine⟨_,h.Gg.2 ⟨a,ha,O⟩,?_⟩;rw [ea];unfold jG;exact dh.2 ⟨i,gg.2 hi,O⟩
theorem eU.gd(h:eU n R B):iz (bO n (au n R B))=0:=Gj h.z6 h.YI
end
section
variable {N:Nat} {xss oE:aiB} {φ:Int→Int}
variable {f:Int}
end
section
variable {n F:Nat} {L:aiB}
end
section
variable {N:Nat} {xss:aiB} {f:Int}
end
section
variable {M:aiB}
theorem we{i a b:Nat}:bC M i a=bC M i b↔gi (dd M i) (a:Int)=gi (dd M i) (b:Int):=by
 unfold bC;omega
theorem tn(hM:bL M){i a:Nat}(hi:i<M.length)(ha:a< (gl M 0).length):(0≤bC M i a∧bC M i a< (aD M M.length:Int))∧gi (aO M M.length) (bC M i a)=i:=by
 have h1:=pn hM (i:=i) ha;have h2:=nG M (show i+1≤M.length by omega);exact⟨by omega,Dz hi h1.1 h1.2⟩
theorem Jf(hM:bL M){e:Int}(h0:0≤e)(h1:e< (aD M M.length:Int)):∃i a:Nat,i<M.length∧a< (gl M 0).length∧e=bC M i a:=by
 obtain⟨i,hi,h2,h3⟩:=Jg h0 h1;have h4:aD M (i+1)=aD M i+ (ja M i).toNat:=O;have h5:=ze M i;obtain⟨a,ha,e1⟩:=Gc hM i (e - aD M i) (by omega) (by omega);exact⟨i,a,hi,ha,by unfold bC;omega⟩
theorem zg(hM:bL M){y:List Int}:y∈jr M↔∃a:Nat,a< (gl M 0).length∧y=jG M.length M a:=by
 have hn:=hM.1;unfold jr;rw [nY hn.1];constructor
 ·rintro⟨hl,hr,hc⟩;have key:∀i:Nat,i<M.length→∃a:Nat,a< (gl M 0).length∧∀k:Nat,k≤i→gi y (k:Int)=bC M k a:=by
   intro i
   induction i with
   | zero=>
    intro hi;have h1:=hr 0 hi;rw [iR]at h1;obtain⟨j,a,hj,ha,e⟩:=Jf hM h1.1.1 h1.1.2;have h2:=(tn hM hj ha).2;rw [←e,h1.2]at h2;obtain rfl:j=0:=by omega
    exact⟨a,ha,fun k hk=>by
     obtain rfl:k=0:=by omega
     exact e⟩
   | succ i ih=>
    intro hi;obtain⟨a,ha,hk⟩:=ih (by omega);have h1:=hr (i+1) hi;have h0:=hr i (by omega);rw [iR]at h1 h0;have hm:=hc i hi;rw [n3 h1.1.1 h1.1.2]at hm;obtain⟨_,f,hf,j,hj,l,vu,e1,e2⟩:=hm;have r1:=(tn hM hj hf).2;have r2:=(tn hM (show l<M.length by omega) hf).2;rw [←e1,h1.2]at r1;rw [←e2,h0.2]at r2;obtain rfl:j=i+1:=by omega
    obtain rfl:l=i:=by omega
    have e3:gi (dd M l) (a:Int)=gi (dd M l) (f:Int):=we.1 (by rw [←hk l (a8 _),e2]);obtain⟨u,hu,dp,bJ⟩:=Up hM (j:=l) (f:=(a:Int)) (by omega) (by omega) (I9 hM (by omega) (by omega) (by omega) (by omega) e3);obtain⟨b,rfl⟩:∃b:Nat,u=b:=⟨u.toNat,by omega⟩;refine⟨b,by omega,fun k je=>?_⟩
    by_cases Q8:k≤l
    ·rw [hk k Q8];exact we.2 (dp k Q8).symm
    ·obtain rfl:k=l+1:=by omega
     rw [e1];exact we.2 (bJ (l+1) (by omega)).symm
  obtain⟨a,ha,h⟩:=key (M.length - 1) (by omega);refine⟨a,ha,uS (n:=M.length) hl (by simp [jG]) fun i hi=>?_⟩;rw [lV hi];exact h i (by omega)
 ·rintro⟨a,ha,rfl⟩;refine⟨by simp [jG],fun i hi=>?_,fun i hi=>?_⟩
  ·rw [lV hi,iR];exact tn hM hi ha
  ·rw [lV (show i<M.length by omega),lV hi];have h1:=tn hM hi ha;have h2:=tn hM (show i<M.length by omega) ha;rw [n3 h1.1.1 h1.1.2];exact⟨h2.1,a,ha,i+1,hi,i,by omega,O,O⟩
end
inductive rZ(M:aiB)(S:Nat→Prop)(a:Nat):Nat→Prop where
 | refl:rZ M S a a
 | step {b c i:Nat}:rZ M S a b→i<M.length→¬S i→gi (gl M (i:Int)) (b:Int)=(c:Int)→rZ M S a c
def tc(M:aiB):Prop:=∀a b:Nat,a< (gl M 0).length→b< (gl M 0).length→rZ M (fun k=>gi (dd M k) (a:Int)=gi (dd M k) (b:Int)) a b
section
variable{i b p:Nat}{S:Nat→Prop}
variable {M:aiB}
theorem Ta(hM:bL M){a:Nat}(hi:i<M.length)(ha:a< (gl M 0).length):∃c:Nat,c< (gl M 0).length∧gi (gl M (i:Int)) (a:Int)=(c:Int)∧gi (gl M (i:Int)) (c:Int)=(a:Int)∧c≠a:=by
 have h:=hM.vz hi (f:=(a:Int)) (by omega) (by omega);have h2:=hM.two hi (f:=(a:Int)) (by omega) (by omega);have h3:=((hM.2.2.1.at_ hi).2.2 a (by rw [(hM.2.2.1.at_ hi).1];exact ha)).1;refine⟨(gi (gl M (i:Int)) (a:Int)).toNat,by omega,by omega,by rw [Int.toNat_of_nonneg h.1];exact h2,fun e=>?_⟩;omega
theorem rZ.lt(hM:bL M){a:Nat}(ha:a< (gl M 0).length)(h:rZ M S a b):b< (gl M 0).length:=by
 induction h with
 | refl=>exact ha
 | step _ hi _ e ih=>
  have:=hM.vz hi (f:=((_:Nat):Int)) (by omega) (show((_:Nat):Int)<_ by exact Int.ofNat_lt.2 ih);rw [e]at this;omega
theorem rZ.none{a:Nat}(h:rZ M S a b)(hS:∀k,k<M.length→S k):b=a:=by
 induction h with
 | refl=>rfl
 | step _ hi hs _ _=>exact absurd (hS _ hi) hs
theorem rZ.one(hM:bL M){a:Nat}(ha:a< (gl M 0).length)(h:rZ M S a b)(hS:∀k,k<M.length→k≠i→S k):b=a∨(b:Int)=gi (gl M (i:Int)) (a:Int):=by
 induction h with
 | refl=>exact .inl rfl
 | step h hk hs e ih=>
  rename_i b c k;have dU:k=i:=nL fun bt=>hs (hS k hk bt)
  subst dU;rcases ih with rfl | e2
  ·exact .inr e.symm
  ·left;have:=hM.two hk (f:=(a:Int)) (by omega) (by omega);rw [←e2,e]at this;omega
theorem YJ(hM:bL M):∃g:Nat→Nat,∀a:Nat,a< (gl M 0).length→g a< (jr M).length∧gl (jr M) (g a:Int)=jG M.length M a:=by
 have hex:∀a:Nat,∃p:Nat,a< (gl M 0).length→p< (jr M).length∧gl (jr M) (p:Int)=jG M.length M a:=fun a=>by
  by_cases ha:a< (gl M 0).length
  ·obtain⟨p,hp,e⟩:=gJ.1 ((zg hM).2 ⟨a,ha,rfl⟩);exact⟨p,fun _=> ⟨hp,by rw [db hp];exact e⟩⟩
  exact⟨0,fun h=>absurd h ha⟩
 exact Classical.axiomOfChoice hex
theorem OP(hM:bL M)(hp:p< (jr M).length):∃a:Nat,a< (gl M 0).length∧gl (jr M) (p:Int)=jG M.length M a:=(zg hM).1 (by rw [db hp];exact dQ _)
theorem OQ{q:Nat}(hp:p< (jr M).length)(hq:q< (jr M).length)(h:gl (jr M) (p:Int)=gl (jr M) (q:Int)):p=q:=wc (n:=M.length) (R:=aO M M.length) (B:=bn M) hp hq h
theorem Yi(hM:bL M){a c q:Nat}(hi:i<M.length)(ha:a< (gl M 0).length)(e:gi (gl M (i:Int)) (a:Int)=(c:Int))(hp:p< (jr M).length)(hq:q< (jr M).length)(ep:gl (jr M) (p:Int)=jG M.length M a)(eq:gl (jr M) (q:Int)=jG M.length M c):jz M.length (jr M) i p q:=
 ⟨hp,hq,fun k hk bt=>by
  rw [ep,eq,lV hk,lV hk];refine we.2 ?_;rw [←e];exact(Du hM hi (fun e=>bt e.symm) (by omega) (by omega)).symm⟩
theorem tc.inj(h:tc M){a:Nat}(ha:a< (gl M 0).length)(hb:b< (gl M 0).length)(e:∀k,k<M.length→gi (dd M k) (a:Int)=gi (dd M k) (b:Int)):b=a:=(h a b ha hb).none e
theorem tc.Ip(hM:bL M)(h:tc M){a:Nat}(ha:a< (gl M 0).length)(hb:b< (gl M 0).length)(e:∀k,k<M.length→k≠i→gi (dd M k) (a:Int)=gi (dd M k) (b:Int)):b=a∨(b:Int)=gi (gl M (i:Int)) (a:Int):=(h a b ha hb).one hM ha e
theorem Yj{a:Nat}(e:jG M.length M a=jG M.length M b){k:Nat}(hk:k<M.length):gi (dd M k) (a:Int)=gi (dd M k) (b:Int):=by
 have:=ax (fun y=>gi y (k:Int)) e;simp only [lV hk]at this;exact we.1 this
theorem tc.zh(hM:bL M)(h:tc M):(jr M).length=(gl M 0).length:=by
 have hp:((List.range (gl M 0).length).map (jG M.length M)).Perm (jr M):=by
  refine(s9 ?_ (BH _ _ _).nodup).2 fun y=>?_
  ·exact qd.2 ((List.nodup_range (n:=(gl M 0).length)).imp_of_mem fun {a b} ha hb bt e=>bt (h.inj (gg.1 ha) (gg.1 hb) fun k hk=>Yj e hk).symm)
  show _↔y∈jr M;rw [zg hM,dh];constructor
  ·rintro⟨a,ha,rfl⟩;exact⟨a,gg.1 ha,rfl⟩
  rintro⟨a,ha,rfl⟩;exact⟨a,gg.2 ha,rfl⟩
 have:=hp.length_eq;rw [fN,pe]at this;exact this.symm
theorem Yk(hM:bL M){a:Nat}(hi:i<M.length)(ha:a< (gl M 0).length){d:Int}(hd:0≤d∧d< (aD M M.length:Int))(hr:gi (aO M M.length) d=i)(dp:0<i→bC M (i - 1) a∈gl (bn M) d)(bJ:i+1<M.length→d∈gl (bn M) (bC M (i+1) a)):∃b:Nat,b< (gl M 0).length∧bC M i b=d∧∀k,k<M.length→k≠i→bC M k b=bC M k a:=by
 have hn:=hM.1;have hm:jG M.length M a∈jr M:=(zg hM).2 ⟨a,ha,O⟩;have hf:=(nY hn.1).1 hm;have hs:∀k:Nat,gi ((jG M.length M a).set i d) (k:Int)=if k=i then d else gi (jG M.length M a) (k:Int):=fun k=>by
  have:=sf (S:=jG M.length M a) (x:=(i:Int)) (y:=(k:Int)) (b:=d) (by omega) (by rw [hf.1];omega) (by omega);rw [ir]at this;rw [this]
  by_cases e:k=i
  ·subst e;simp
  rw [ag e,ag (by omega)]
 have hx:(jG M.length M a).set i d∈jr M:=by
  refine(nY hn.1).2 ⟨by rw [iw];exact hf.1,fun k hk=>?_,fun k hk=>?_⟩
  ·rw [hs k]
   by_cases e:k=i
   ·subst e;rw [aj rfl,iR];exact⟨hd,hr⟩
   rw [ag e];exact hf.2.1 k hk
  rw [hs k,hs (k+1)]
  by_cases e:k=i
  ·subst e;rw [aj rfl,ag (by omega),lV hk];exact bJ hk
  rw [ag e]
  by_cases e2:k+1=i
  ·subst e2;rw [aj rfl,lV (by omega)];exact dp (by omega)
  rw [ag e2];exact hf.2.2 k hk
 obtain⟨b,hb,eb⟩:=(zg hM).1 hx;refine⟨b,hb,?_,fun k hk bt=>?_⟩
 ·have:=hs i;rw [eb,lV hi,aj rfl]at this;exact this
 have:=hs k;rw [eb,lV hk,ag bt,lV hk]at this;exact this
theorem O9(hM:bL M){k a:Nat}(hi:i<M.length)(hk:k<i)(ha:a< (gl M 0).length):bC M k a∈gl (bn M) (bC M i a):=by
 have h1:=tn hM hi ha;have h2:=tn hM (show k<M.length by omega) ha;rw [n3 h1.1.1 h1.1.2];exact⟨h2.1,a,ha,i,hi,k,hk,O,O⟩
theorem Yy(hM:bL M){k:Nat}{d e:Int}(hi:i<M.length)(he:0≤e∧e< (aD M M.length:Int))(Hh:gi (aO M M.length) e=i)(lq:gi (aO M M.length) d=k)(h:d∈gl (bn M) e):∃a:Nat,a< (gl M 0).length∧e=bC M i a∧d=bC M k a:=by
 rw [n3 he.1 he.2]at h;obtain⟨_,f,hf,j,hj,l,hl,e1,e2⟩:=h;have r1:=(tn hM hj hf).2;have r2:=(tn hM (show l<M.length by omega) hf).2;rw [←e1,Hh]at r1;rw [←e2,lq]at r2;obtain rfl:j=i:=by omega
 obtain rfl:l=k:=by omega
 exact⟨f,hf,e1,e2⟩
theorem Pa(hM:bL M){e:Int}(he:0≤e∧e< (aD M M.length:Int))(Hh:gi (aO M M.length) e=i):i<M.length∧∃a:Nat,a< (gl M 0).length∧e=bC M i a:=by
 obtain⟨j,a,hj,ha,e1⟩:=Jf hM he.1 he.2;have r1:=(tn hM hj ha).2;rw [←e1,Hh]at r1;obtain rfl:j=i:=by omega
 exact⟨hj,a,ha,e1⟩
theorem tc.XQ(hM:bL M)(h:tc M):rT M.length (aO M M.length) (bn M):=by
 intro i0 e f eP jt he hf D9;obtain⟨i,rfl⟩:∃i:Nat,i0=i:=⟨i0.toNat,by omega⟩;have hi:i<M.length:=by omega
 have hn:=hM.1;have hN:=hM.2.1;have gy:∃a:Nat,a< (gl M 0).length∧(0<i→e=bC M (i - 1) a)∧(i+1<M.length→f=bC M (i+1) a):=by
  rcases he with⟨q1,q2⟩ | ⟨q1,q2,q3⟩
  ·rcases hf with⟨p1,p2⟩ | ⟨p1,p2,p3⟩
   ·exact⟨0,by omega,fun h=>by omega,fun h=>by omega⟩
   rw [iR]at p1;obtain⟨_,a,ha,ea⟩:=Pa hM (i:=i+1) p1 (by omega);exact⟨a,ha,fun h=>by omega,fun _=>ea⟩
  rw [iR]at q1;rcases hf with⟨p1,p2⟩ | ⟨p1,p2,p3⟩
  ·obtain⟨_,a,ha,ea⟩:=Pa hM (i:=i - 1) q1 (by omega);exact⟨a,ha,fun _=>ea,fun h=>by omega⟩
  rw [iR]at p1;obtain⟨a,ha,e1,e2⟩:=Yy hM (i:=i+1) (k:=i - 1) (by omega) p1 (by omega) (by omega) (D9 q1.1 p1.1);exact⟨a,ha,fun _=>e2,fun _=>e1⟩
 obtain⟨a,ha,tB,wy⟩:=gy;have Kp:e<0↔i=0:=by
  rcases he with⟨q1,q2⟩ | ⟨q1,q2,q3⟩<;>omega
 have Ks:f<0↔i+1=M.length:=by
  rcases hf with⟨q1,q2⟩ | ⟨q1,q2,q3⟩<;>omega
 obtain⟨c,hc,e1,e2,bt⟩:=Ta hM hi ha;have ZS:bC M i a≠bC M i c:=fun q=>bt (h.inj ha hc fun k hk=>by
  by_cases e:k=i
  ·subst e;exact we.1 q
  rw [←e1];exact(Du hM hi (fun e'=>e e'.symm) (by omega) (by omega)).symm)
 have aaA:∀k,k≠i→bC M k c=bC M k a:=fun k hk=>by
  refine we.2 ?_;rw [←e1];exact Du hM hi (fun e'=>hk e'.symm) (by omega) (by omega)
 have lp:∀d:Int,d∈jB (aO M M.length) (bn M) (i:Int) e f↔d∈[bC M i a,bC M i c]:=fun d=>by
  rw [xJ,iR];constructor
  ·rintro⟨hd,hr,u,v⟩;obtain⟨b,hb,eb,hk⟩:=Yk hM hi ha hd hr (fun h0=>by
    rw [←tB h0];exact u.resolve_left (by omega)) (fun h0=>by
    rw [←wy h0];exact v.resolve_left (by omega))
   rcases h.Ip hM ha hb (i:=i) (fun k gk aaQ=> (we.1 (hk k gk aaQ)).symm)with rfl | q
   ·rw [←eb];simp
   obtain rfl:b=c:=by omega
   rw [←eb];simp
  intro hd;have h3:∀b:Nat,b< (gl M 0).length→(∀k,k≠i→bC M k b=bC M k a)→((0≤bC M i b∧bC M i b< (aD M M.length:Int))∧gi (aO M M.length) (bC M i b)=i∧(e<0∨e∈gl (bn M) (bC M i b))∧(f<0∨bC M i b∈gl (bn M) f)):=fun b hb hk=>by
   have g:=tn hM hi hb;refine⟨g.1,g.2,?_,?_⟩
   ·by_cases h0:0<i
    ·right;rw [tB h0,←hk (i - 1) (by omega)];exact O9 hM hi (by omega) hb
    left;omega
   by_cases h0:i+1<M.length
   ·right;rw [wy h0,←hk (i+1) (by omega)];exact O9 hM h0 (by omega) hb
   left;omega
  rcases iW.1 hd with rfl | hd
  ·exact h3 a ha fun _ _=>O
  obtain rfl:=eT.1 hd;exact h3 c hc aaA
 have hp:(jB (aO M M.length) (bn M) (i:Int) e f).Perm [bC M i a,bC M i c]:=(s9 (Bb _ _ _ _ _) (by simpa using ZS)).2 lp;exact hp.length_eq
theorem tc.IV(hM:bL M)(h:tc M):vN M.length (jr M):=by
 obtain⟨g,hg⟩:=YJ hM;have key:∀ {S:Nat→Prop} {a b:Nat},a< (gl M 0).length→rZ M S a b→∀ {S':Nat→Prop},(∀k,k<M.length→(S' k→S k))→b< (gl M 0).length∧eO M.length (jr M) S' (g a) (g b):=by
  intro S a b ha hL S' hS
  induction hL with
  | refl=>exact⟨ha,.refl (hg a ha).1⟩
  | step hL hi hs e ih=>
   rename_i b c i;obtain⟨hb,lb⟩:=ih;have hc:=(rZ.step hL hi hs e).lt hM ha;exact⟨hc,.step lb hi (fun h=>hs (hS i hi h)) (Yi hM hi hb e (hg b hb).1 (hg c hc).1 (hg b hb).2 (hg c hc).2)⟩
 intro p q sH hq;obtain⟨a,ha,ea⟩:=OP hM (p:=p) (by omega);obtain⟨b,hb,eb⟩:=OP hM hq;have h1:=(key ha (h a b ha hb) (S':=fun k=>gi (gl (jr M) (p:Int)) (k:Int)=gi (gl (jr M) (q:Int)) (k:Int)) fun k hk hx=>by
  rw [ea,eb,lV hk,lV hk]at hx;exact we.1 hx).2
 rw [OQ (hg a ha).1 (by omega) ((hg a ha).2.trans ea.symm),OQ (hg b hb).1 hq ((hg b hb).2.trans eb.symm)]at h1;exact h1
theorem YK(hM:bL M)(hb:aD M M.length≤500)(h:tc M):s5 M:=by
 have hN:=hM.2.1;refine⟨hb,h.zh hM,?_,fun e h0 h1=>?_,h.XQ hM,h.IV hM⟩
 ·exact List.ne_nil_of_mem ((zg hM).2 ⟨0,by omega,O⟩)
 rw [iR]at h1;obtain⟨i,a,hi,ha,ea⟩:=Jf hM h0 h1;refine⟨_,(zg hM).2 ⟨a,ha,O⟩,?_⟩;rw [ea];unfold jG;exact dh.2 ⟨i,gg.2 hi,O⟩
end
section
variable {M:aiB}
end
section
variable {n:Nat} {R R':List Int} {B B':aiB} {δ δ':Int→Int}
end
section
variable {m m1 m2:Nat} {n n1 n2:Int} {rk rk' rk1 rk2 rk1' rk2':Int→Int} {gQ und' cI ck und1' und2':Int→Int→Prop} {δ δ' δ1 δ2 δ1' δ2':Int→Int}
end
structure gF{α:Type}(N:Nat)(el:Nat→α→Prop)(le:α→α→Prop):Prop where
 one:∀ {i j:Nat} {a:α},el i a→el j a→i=j
 rf:∀a:α,le a a
 tr:∀ {i j k:Nat} {a b c:α},el i a→el j b→el k c→le a b→le b c→le a c
 st:∀ {i j:Nat} {a b:α},el i a→el j b→le a b→a=b∨i<j
 th:∀ {i j:Nat} {a b:α},el i a→el j b→le a b→i+1<j→∃c,el (i+1) c∧le a c∧le c b
 nU:∀ {i:Nat} {a:α},el i a→i≤N
 bot:∃o,el 0 o∧∀(i:Nat) (a:α),el i a→le o a∧(i=0→a=o)
 top:∃t,el N t∧∀(i:Nat) (a:α),el i a→le a t∧(i=N→a=t)
section
variable{i j p:Nat}{S:Nat→Prop}
variable {α:Type} {N:Nat} {el:Nat→α→Prop} {le:α→α→Prop}
def iO(el:Nat→α→Prop)(le:α→α→Prop)(i j:Nat)(z:Nat→α):Prop:=(∀k,i≤k→k≤j→el k (z k))∧∀k,i≤k→k<j→le (z k) (z (k+1))
theorem iO.xe(g:gF N el le){z:Nat→α}(h:iO el le i j z){q:Nat}(h1:i≤p)(h2:p≤q)(h3:q≤j):le (z p) (z q):=by
 induction q with
 | zero=>
  obtain rfl:p=0:=by omega
  exact g.rf _
 | succ q ih=>
  by_cases e:p=q+1
  ·subst e;exact g.rf _
  ·exact g.tr (h.1 p h1 (by omega)) (h.1 q (by omega) (by omega)) (h.1 (q+1) (by omega) h3) (ih (by omega) (by omega)) (h.2 q (by omega) (by omega))
theorem iO.sub{q:Nat}{z:Nat→α}(h:iO el le i j z)(h1:i≤p)(h2:q≤j):iO el le p q z:=⟨fun k a b=>h.1 k (by omega) (by omega),fun k a b=>h.2 k (by omega) (by omega)⟩
def pL(k:Nat)(z w:Nat→α)(p:Nat):α:=if p≤k then z p else w p
theorem qh{k:Nat}{z w:Nat→α}(h:p≤k):pL k z w p=z p:=aj h
theorem wg{k:Nat}{z w:Nat→α}(h:k<p):pL k z w p=w p:=ag (by omega)
theorem Jo{k:Nat}{z w:Nat→α}(e:z k=w k)(h:k≤p):pL k z w p=w p:=by
 by_cases h':p=k
 ·subst h';rw [qh (a8 _),e]
 exact wg (by omega)
theorem iO.glue{k:Nat}{z w:Nat→α}(h1:iO el le i k z)(h2:iO el le k j w)(e:z k=w k):iO el le i j (pL k z w):=by
 refine⟨fun p a b=>?_,fun p a b=>?_⟩
 ·by_cases h:p≤k
  ·rw [qh h];exact h1.1 p a h
  rw [wg (by omega)];exact h2.1 p (by omega) b
 by_cases h:p<k
 ·rw [qh (by omega),qh (by omega)];exact h1.2 p a h
 rw [Jo e (by omega),Jo e (by omega)];exact h2.2 p (by omega) b
theorem gF.chain(g:gF N el le){a b:α}(ha:el i a)(hb:el j b)(h:le a b)(gN:i≤j):∃z,iO el le i j z∧z i=a∧z j=b:=by
 obtain⟨d,hd⟩:∃d,d=j - i:=⟨_,rfl⟩
 induction d generalizing i a with
 | zero=>
  obtain rfl:i=j:=by omega
  rcases g.st ha hb h with rfl | h
  ·refine⟨fun _=>a,⟨fun k h1 h2=>?_,fun k _ _=>g.rf _⟩,O,O⟩;have:k=i:=by omega
   rw [this];exact ha
  ·omega
 | succ d ih=>
  by_cases e:i+1=j
  ·subst e;refine⟨fun k=>if k=i then a else b,⟨fun k h1 h2=>?_,fun k h1 h2=>?_⟩,aj O,ag (by omega)⟩
   ·show el k (if k=i then a else b)
    split
    ·rename_i e;rw [e];exact ha
    ·obtain rfl:k=i+1:=by omega
     exact hb
   ·show le (if k=i then a else b) (if k+1=i then a else b);rw [aj (by omega),ag (by omega)];exact h
  ·obtain⟨c,hc,h1,h2⟩:=g.th ha hb h (by omega);obtain⟨z,hz,e1,e2⟩:=ih hc h2 (by omega) (by omega);refine⟨fun k=>if k=i then a else z k,⟨fun k h3 h4=>?_,fun k h3 h4=>?_⟩,aj O,by show(if j=i then a else z j)=b;rw [ag (by omega)];exact e2⟩
   ·show el k (if k=i then a else z k)
    split
    ·rename_i e;rw [e];exact ha
    ·exact hz.1 k (by omega) h4
   ·show le (if k=i then a else z k) (if k+1=i then a else z (k+1));rw [ag (show ¬k+1=i by omega)]
    split
    ·rename_i e;subst e;rw [e1];exact h1
    ·exact hz.2 k (by omega) h4
inductive jj(el:Nat→α→Prop)(le:α→α→Prop)(i j:Nat)(S:Nat→Prop)(z:Nat→α):(Nat→α)→Prop where
 | same {y:Nat→α}:(∀k,i≤k→k≤j→z k=y k)→jj el le i j S z y
 | step {y y':Nat→α} (p:Nat):jj el le i j S z y→iO el le i j y→iO el le i j y'→i<p→p<j→¬S p→(∀k,i≤k→k≤j→k≠p→y k=y' k)→jj el le i j S z y'
theorem jj.eqv{z y y':Nat→α}(h:jj el le i j S z y)(e:∀k,i≤k→k≤j→y k=y' k):jj el le i j S z y':=by
 cases h with
 | same h=>exact .same fun k a b=> (h k a b).trans (e k a b)
 | step p h c c' h1 h2 h3 h4=>
  exact .step p h c ⟨fun k a b=>e k a b▸c'.1 k a b,fun k a b=>by rw [←e k a (by omega),←e (k+1) (by omega) b];exact c'.2 k a b⟩ h1 h2 h3 fun k a b n=> (h4 k a b n).trans (e k a b)
theorem jj.trans{z y x:Nat→α}(h:jj el le i j S z y)(h':jj el le i j S y x):jj el le i j S z x:=by
 induction h' with
 | same e=>exact h.eqv e
 | step p _ c c' h1 h2 h3 h4 ih=>exact .step p ih c c' h1 h2 h3 h4
theorem jj.mono{T:Nat→Prop}{z y:Nat→α}(h:jj el le i j S z y)(hT:∀p,i<p→p<j→T p→S p):jj el le i j T z y:=by
 induction h with
 | same e=>exact .same e
 | step p _ c c' h1 h2 h3 h4 ih=>exact .step p ih c c' h1 h2 (fun ht=>h3 (hT p h1 h2 ht)) h4
theorem jj.keep{z y:Nat→α}(h:jj el le i j S z y){k:Nat}(h1:i≤k)(h2:k≤j)(hk:k≤i∨j≤k∨S k):z k=y k:=by
 induction h with
 | same e=>exact e k h1 h2
 | step p _ c c' h3 h4 h5 h6 ih=>exact ih.trans (h6 k h1 h2 (fun e=>by subst e;rcases hk with h | h | h<;>first | omega | exact h5 h))
theorem jj.lo{k:Nat}{z y w:Nat→α}(h:jj el le i k S z y)(hz:iO el le i k z)(hw:iO el le k j w)(e:z k=w k)(nD:i≤k)(Ci:k≤j):jj el le i j S (pL k z w) (pL k y w):=by
 induction h with
 | same e=>
  exact .same fun p a b=>by
   unfold pL;split
   ·exact e p a (by assumption)
   ·rfl
 | @step y y' p hl c c' h1 h2 h3 h4 ih=>
  have e1:y k=w k:=(hl.keep nD (a8 _) (.inr (.inl (a8 _)))).symm.trans e;have e2:y' k=w k:=(h4 k nD (a8 _) (by omega)).symm.trans e1;refine .step p ih (c.glue hw e1) (c'.glue hw e2) h1 (by omega) h3 fun q a b n=>?_
  unfold pL;split
  ·exact h4 q a (by assumption) n
  ·rfl
theorem jj.hi{k:Nat}{z w w':Nat→α}(h:jj el le k j S w w')(hz:iO el le i k z)(hw:iO el le k j w)(e:z k=w k)(nD:i≤k)(Ci:k≤j):jj el le i j S (pL k z w) (pL k z w'):=by
 induction h with
 | same e=>
  exact .same fun p a b=>by
   unfold pL;split
   ·rfl
   ·exact e p (by omega) b
 | @step y y' p hl c c' h1 h2 h3 h4 ih=>
  have e1:z k=y k:=e.trans (hl.keep (a8 _) Ci (.inl (a8 _)));have e2:z k=y' k:=e1.trans (h4 k (a8 _) Ci (by omega));refine .step p ih (hz.glue c e1) (hz.glue c' e2) (by omega) h2 h3 fun q a b n=>?_
  unfold pL;split
  ·rfl
  ·exact h4 q (by omega) b n
inductive gZ(el:Nat→α→Prop)(le:α→α→Prop)(i j:Nat)(a b:α)(p:Nat)(c:α):Nat→α→Prop where
 | refl:gZ el le i j a b p c p c
 | step {q r:Nat} {d e:α}:gZ el le i j a b p c q d→i<r→r<j→el r e→le a e→le e b→(le d e∨le e d)→gZ el le i j a b p c r e
def s6(el:Nat→α→Prop)(le:α→α→Prop)(i j:Nat)(a b:α)(p:Nat)(c:α):Prop:=i<p∧p<j∧el p c∧le a c∧le c b
def ml(el:Nat→α→Prop)(le:α→α→Prop):Prop:=∀(i j:Nat) (a b:α),el i a→el j b→le a b→i+3≤j→∀(p q:Nat) (c d:α),s6 el le i j a b p c→s6 el le i j a b q d→gZ el le i j a b p c q d
theorem W0(g:gF N el le)(hc:ml el le):∀(m i j:Nat),j - i≤m→i≤j→∀z y:Nat→α,iO el le i j z→iO el le i j y→z i=y i→z j=y j→jj el le i j (fun k=>z k=y k) z y:=by
 intro m
 induction m with
 | zero=>
  intro i j hm gN z y _ _ e1 _;exact .same fun k a b=>by
   obtain rfl:k=i:=by omega
   exact e1
 | succ m ih=>
  intro i j hm gN z y hz hy e1 e2;have split:∀z y:Nat→α,iO el le i j z→iO el le i j y→z i=y i→z j=y j→∀k,i<k→k<j→z k=y k→jj el le i j (fun k=>z k=y k) z y:=by
   intro z y hz hy e1 e2 k h1 h2 ek;have l1:=ih i k (by omega) (by omega) z y (hz.sub (a8 _) (by omega)) (hy.sub (a8 _) (by omega)) e1 ek;have l2:=ih k j (by omega) (by omega) z y (hz.sub (by omega) (a8 _)) (hy.sub (by omega) (a8 _)) ek e2;have a1:=l1.lo (w:=z) (hz.sub (a8 _) (by omega)) (hz.sub (by omega) (a8 _)) O (by omega) (by omega);have a2:=l2.hi (z:=y) (hy.sub (a8 _) (by omega)) (hz.sub (by omega) (a8 _)) ek.symm (by omega) (by omega);refine(jj.trans (.same fun p _ _=>?_) (a1.trans a2)).eqv fun p _ _=>?_
   ·unfold pL;split<;>rfl
   ·unfold pL;split<;>rfl
  by_cases hk:∃k,i<k∧k<j∧z k=y k
  ·obtain⟨k,h1,h2,h3⟩:=hk;exact split z y hz hy e1 e2 k h1 h2 h3
  have bt:∀p,i<p→p<j→¬z p=y p:=fun p h1 h2 h=>hk ⟨p,h1,h2,h⟩
  by_cases hs:j≤i+1
  ·exact .same fun k a b=>by
    rcases(show k=i∨k=j by omega)with rfl | rfl
    ·exact e1
    ·exact e2
  by_cases ox:j=i+2
  ·subst ox;refine .step (i+1) (.same fun _ _ _=>O) hz hy (by omega) (by omega) (bt _ (by omega) (by omega)) fun k a b n=>?_
   rcases(show k=i∨k=i+2 by omega)with rfl | rfl
   ·exact e1
   ·exact e2
  have hb:=fun(w:Nat→α) (hw:iO el le i j w) (f1:z i=w i) (f2:z j=w j)=> (⟨by omega,by omega,hw.1 _ (by omega) (by omega),f1▸hw.xe g (a8 _) (by omega) (by omega),f2▸hw.xe g (by omega) (by omega) (a8 _)⟩:s6 el le i j (z i) (z j) (i+1) (w (i+1)))
  have vq:=hc i j (z i) (z j) (hz.1 i (a8 _) gN) (hz.1 j gN (a8 _)) (hz.xe g (a8 _) gN (a8 _)) (by omega) _ _ _ _ (hb z hz O O) (hb y hy e1 e2);have key:∀(q:Nat) (d:α),gZ el le i j (z i) (z j) (i+1) (z (i+1)) q d→s6 el le i j (z i) (z j) q d∧∀x,iO el le i j x→z i=x i→z j=x j→x q=d→jj el le i j (fun _=>False) z x:=by
   intro q d h
   induction h with
   | refl=>exact⟨hb z hz rfl rfl,fun x hx f1 f2 f3=> (split z x hz hx f1 f2 (i+1) (by omega) (by omega) f3.symm).mono fun _ _ _ h=>h.elim⟩
   | @step q r d e _ h1 h2 h3 h4 h5 h6 ihc=>
    obtain⟨⟨q1,q2,q3,q4,q5⟩,Ly⟩:=ihc;refine⟨⟨h1,h2,h3,h4,h5⟩,fun x hx f1 f2 f3=>?_⟩;have hzi:=hz.1 i (a8 _) gN;have hzj:=hz.1 j gN (a8 _);have fin:∀w,iO el le i j w→z i=w i→z j=w j→w q=d→w r=e→jj el le i j (fun _=>False) z x:=fun w hw g1 g2 g3 g4=>
     (Ly w hw g1 g2 g3).trans ((split w x hw hx (g1.symm.trans f1) (g2.symm.trans f2) r h1 h2 (g4.trans f3.symm)).mono fun _ _ _ h=>h.elim)
    have mk:∀(u v:Nat) (s t:α),i<u→u<v→v<j→el u s→el v t→le (z i) s→le s t→le t (z j)→∃w,iO el le i j w∧z i=w i∧z j=w j∧w u=s∧w v=t:=by
     intro u v s t k1 k2 k3 k4 k5 k6 k7 k8;obtain⟨w1,c1,a1,b1⟩:=g.chain hzi k4 k6 (by omega);obtain⟨w2,c2,a2,b2⟩:=g.chain k4 k5 k7 (by omega);obtain⟨w3,c3,a3,b3⟩:=g.chain k5 hzj k8 (by omega);refine⟨pL v (pL u w1 w2) w3,(c1.glue c2 (b1.trans a2.symm)).glue c3 (by rw [wg k2,b2,a3]),?_,?_,?_,?_⟩
     ·rw [qh (by omega),qh (by omega),a1]
     ·rw [wg k3,b3]
     ·rw [qh (by omega),qh (a8 _),b1]
     ·rw [qh (a8 _),wg k2,b2]
    rcases h6 with h6 | h6
    ·rcases g.st q3 h3 h6 with e' | e'
     ·subst e';obtain rfl:=g.one q3 h3;exact Ly x hx f1 f2 f3
     ·obtain⟨w,hw,g1,g2,g3,g4⟩:=mk q r d e q1 e' h2 q3 h3 q4 h6 h5;exact fin w hw g1 g2 g3 g4
    ·rcases g.st h3 q3 h6 with e' | e'
     ·subst e';obtain rfl:=g.one q3 h3;exact Ly x hx f1 f2 f3
     ·obtain⟨w,hw,g1,g2,g3,g4⟩:=mk r q e d h1 e' q2 h3 q3 h4 h6 q5;exact fin w hw g1 g2 g4 g3
  exact((key _ _ vq).2 y hy e1 e2 O).mono fun p h1 h2 h=>bt p h1 h2 h
end
section
variable{p q:Nat}
variable {α:Type} {el:Nat→α→Prop} {le:α→α→Prop} {i j:Nat} {a b:α}
theorem gZ.end_{c d:α}(h:gZ el le i j a b p c q d)(hp:s6 el le i j a b p c):s6 el le i j a b q d:=by
 cases h with
 | refl=>exact hp
 | step _ h1 h2 h3 h4 h5 _=>exact⟨h1,h2,h3,h4,h5⟩
theorem gZ.trans{r:Nat}{c d e:α}(h:gZ el le i j a b p c q d)(h':gZ el le i j a b q d r e):gZ el le i j a b p c r e:=by
 induction h' with
 | refl=>exact h
 | step _ h1 h2 h3 h4 h5 h6 ih=>exact .step ih h1 h2 h3 h4 h5 h6
theorem gZ.one{c d:α}(hq:s6 el le i j a b q d)(h:le c d∨le d c):gZ el le i j a b p c q d:= .step .refl hq.1 hq.2.1 hq.2.2.1 hq.2.2.2.1 hq.2.2.2.2 h
theorem gZ.symm{c d:α}(hp:s6 el le i j a b p c)(h:gZ el le i j a b p c q d):gZ el le i j a b q d p c:=by
 induction h with
 | refl=>exact .refl
 | step h0 h1 h2 h3 h4 h5 h6 ih=>exact(gZ.one (h0.end_ hp) h6.symm).trans ih
end
section
variable {α β:Type} {N1 N2:Nat} {di:Nat→α→Prop} {dY:α→α→Prop} {dk:Nat→β→Prop} {dZ:β→β→Prop}
def nE(dY:α→α→Prop)(dZ:β→β→Prop)(c d:α×β):Prop:=dY c.1 d.1∧dZ c.2 d.2
structure AV(di:Nat→α→Prop)(dY:α→α→Prop)(dk:Nat→β→Prop)(dZ:β→β→Prop)(a1 b1:α)(a2 b2:β)(i j:Nat)(c1:α)(c2:β):Prop where
 e1:di i c1
 e2:dk j c2
 l1:dY a1 c1
 m1:dY c1 b1
 l2:dZ a2 c2
 m2:dZ c2 b2
theorem N0(g1:gF N1 di dY)(g2:gF N2 dk dZ)(B9:ml di dY)(px:ml dk dZ){el:Nat→α×β→Prop}{s i0 j0 i1 j1:Nat}{a1 b1:α}{a2 b2:β}
 (gM:di i0 a1) (gW:dk j0 a2) (cN:di i1 b1) (dG:dk j1 b2) (h1:dY a1 b1) (h2:dZ a2 b2) (hs:s≤i0+j0) (h3:i0+j0+3≤i1+j1)
 (jJ:∀i j c1 c2,di i c1→dk j c2→dY a1 c1→dZ a2 c2→el (i+j - s) (c1,c2))
 {i j k l:Nat} {c1 d1:α} {c2 d2:β} (hc:AV di dY dk dZ a1 b1 a2 b2 i j c1 c2) (hd:AV di dY dk dZ a1 b1 a2 b2 k l d1 d2)
 (Ca:i0+j0<i+j∧i+j<i1+j1) (Cc:i0+j0<k+l∧k+l<i1+j1):
 gZ el (nE dY dZ) (i0+j0 - s) (i1+j1 - s) (a1,a2) (b1,b2) (i+j - s) (c1,c2) (k+l - s) (d1,d2):=by
 have mT:∀ {i j:Nat} {c1:α} {c2:β},AV di dY dk dZ a1 b1 a2 b2 i j c1 c2→i0+j0<i+j→i+j<i1+j1→s6 el (nE dY dZ) (i0+j0 - s) (i1+j1 - s) (a1,a2) (b1,b2) (i+j - s) (c1,c2):=fun h p q=> ⟨by omega,by omega,jJ _ _ _ _ h.e1 h.e2 h.l1 h.l2,⟨h.l1,h.l2⟩,⟨h.m1,h.m2⟩⟩
 have LU:∀ {i:Nat} {c:α},di i c→dY a1 c→dY c b1→(i0≤i∧i≤i1)∧(i=i1→c=b1)∧(i=i0→c=a1):=fun {i c} he h h'=>by
  rcases g1.st gM he h with e | e<;>rcases g1.st he cN h' with e' | e'
  ·subst e;subst e';have:=g1.one he gM;have:=g1.one he cN;exact⟨by omega,fun _=>rfl,fun _=>rfl⟩
  ·subst e;have:=g1.one he gM;exact⟨by omega,by omega,fun _=>rfl⟩
  ·subst e';have:=g1.one he cN;exact⟨by omega,fun _=>rfl,by omega⟩
  ·exact⟨by omega,by omega,by omega⟩
 have LV:∀ {i:Nat} {c:β},dk i c→dZ a2 c→dZ c b2→(j0≤i∧i≤j1)∧(i=j1→c=b2)∧(i=j0→c=a2):=fun {i c} he h h'=>by
  rcases g2.st gW he h with e | e<;>rcases g2.st he dG h' with e' | e'
  ·subst e;subst e';have:=g2.one he gW;have:=g2.one he dG;exact⟨by omega,fun _=>rfl,fun _=>rfl⟩
  ·subst e;have:=g2.one he gW;exact⟨by omega,by omega,fun _=>rfl⟩
  ·subst e';have:=g2.one he dG;exact⟨by omega,fun _=>rfl,by omega⟩
  ·exact⟨by omega,by omega,by omega⟩
 have h01:=(LU cN h1 (g1.rf _)).1;have h02:=(LV dG h2 (g2.rf _)).1
 by_cases q1:i0=i1
 ·-- the first part stands still
  have e1:∀ {i:Nat} {c:α},di i c→dY a1 c→dY c b1→c=a1∧i=i0:=fun he h h'=>by
   have:=LU he h h';exact⟨this.2.2 (by omega),by omega⟩
  obtain⟨rfl,rfl⟩:=e1 hc.e1 hc.l1 hc.m1;obtain⟨rfl,rfl⟩:=e1 hd.e1 hd.l1 hd.m1;have key:=px j0 j1 a2 b2 gW dG h2 (by omega) j l c2 d2 ⟨by omega,by omega,hc.e2,hc.l2,hc.m2⟩ ⟨by omega,by omega,hd.e2,hd.l2,hd.m2⟩;clear hd Cc
  induction key with
  | refl=>exact .refl
  | step _ k1 k2 k3 k4 k5 k6 ih=>
   refine ih.trans (.one (mT ⟨hc.e1,k3,hc.l1,hc.m1,k4,k5⟩ (by omega) (by omega)) ?_);exact k6.imp (fun h=> ⟨g1.rf _,h⟩) (fun h=> ⟨g1.rf _,h⟩)
 by_cases q2:j0=j1
 ·have e2:∀ {i:Nat} {c:β},dk i c→dZ a2 c→dZ c b2→c=a2∧i=j0:=fun he h h'=>by
   have:=LV he h h';exact⟨this.2.2 (by omega),by omega⟩
  obtain⟨rfl,rfl⟩:=e2 hc.e2 hc.l2 hc.m2;obtain⟨rfl,rfl⟩:=e2 hd.e2 hd.l2 hd.m2;have key:=B9 i0 i1 a1 b1 gM cN h1 (by omega) i k c1 d1 ⟨by omega,by omega,hc.e1,hc.l1,hc.m1⟩ ⟨by omega,by omega,hd.e1,hd.l1,hd.m1⟩;clear hd Cc
  induction key with
  | refl=>exact .refl
  | step _ k1 k2 k3 k4 k5 k6 ih=>
   refine ih.trans (.one (mT ⟨k3,hc.e2,k4,k5,hc.l2,hc.m2⟩ (by omega) (by omega)) ?_);exact k6.imp (fun h=> ⟨h,g2.rf _⟩) (fun h=> ⟨h,g2.rf _⟩)
 have bu:AV di dY dk dZ a1 b1 a2 b2 i0 j1 a1 b2:=⟨gM,dG,g1.rf _,h1,h2,g2.rf _⟩;have bv:AV di dY dk dZ a1 b1 a2 b2 i1 j0 b1 a2:=⟨cN,gW,h1,g1.rf _,g2.rf _,h2⟩;have iu:=mT bu (by omega) (by omega);have iv:=mT bv (by omega) (by omega);have uv:gZ el (nE dY dZ) (i0+j0 - s) (i1+j1 - s) (a1,a2) (b1,b2) (i0+j1 - s) (a1,b2) (i1+j0 - s) (b1,a2):=by
  by_cases q3:i0+1<i1
  ·obtain⟨x,hx,x1,x2⟩:=g1.th gM cN h1 q3;refine(gZ.one (c:=(a1,b2)) (mT (i:=i0+1) (j:=j1) (c1:=x) (c2:=b2) ⟨hx,dG,x1,x2,h2,g2.rf _⟩ (by omega) (by omega)) (.inl ⟨x1,g2.rf _⟩)).trans ((gZ.one (c:=(x,b2)) (mT (i:=i0+1) (j:=j0) (c1:=x) (c2:=a2) ⟨hx,gW,x1,x2,g2.rf _,h2⟩ (by omega) (by omega)) (.inr ⟨g1.rf _,h2⟩)).trans ?_);exact .one iv (.inl ⟨x2,g2.rf _⟩)
  ·obtain⟨x,hx,x1,x2⟩:=g2.th gW dG h2 (by omega);refine(gZ.one (c:=(a1,b2)) (mT (i:=i0) (j:=j0+1) (c1:=a1) (c2:=x) ⟨gM,hx,g1.rf _,h1,x1,x2⟩ (by omega) (by omega)) (.inr ⟨g1.rf _,x2⟩)).trans ((gZ.one (c:=(a1,x)) (mT (i:=i1) (j:=j0+1) (c1:=b1) (c2:=x) ⟨cN,hx,h1,g1.rf _,x1,x2⟩ (by omega) (by omega)) (.inl ⟨h1,g2.rf _⟩)).trans ?_);exact .one iv (.inr ⟨g1.rf _,x1⟩)
 have UC:∀ {i j:Nat} {c1:α} {c2:β},AV di dY dk dZ a1 b1 a2 b2 i j c1 c2→i0+j0<i+j→i+j<i1+j1→gZ el (nE dY dZ) (i0+j0 - s) (i1+j1 - s) (a1,a2) (b1,b2) (i+j - s) (c1,c2) (i0+j1 - s) (a1,b2):=fun {i j c1 c2} h p q=>by
  have f1:=LU h.e1 h.l1 h.m1;have f2:=LV h.e2 h.l2 h.m2
  by_cases q4:i<i1
  ·exact(gZ.one (c:=(c1,c2)) (mT (i:=i) (j:=j1) (c1:=c1) (c2:=b2) ⟨h.e1,dG,h.l1,h.m1,h2,g2.rf _⟩ (by omega) (by omega)) (.inl ⟨g1.rf _,h.m2⟩)).trans (gZ.one (c:=(c1,b2)) iu (.inr ⟨h.l1,g2.rf _⟩))
  ·have:c1=b1:=f1.2.1 (by omega);subst this;exact(gZ.one (c:=(c1,c2)) iv (.inr ⟨g1.rf _,h.l2⟩)).trans (uv.symm iu)
 exact(UC hc Ca.1 Ca.2).trans ((UC hd Cc.1 Cc.2).symm (mT hd Cc.1 Cc.2))
def F8(di:Nat→α→Prop)(dk:Nat→β→Prop)(p:Nat)(c:α×β):Prop:=∃i j,di i c.1∧dk j c.2∧p=i+j
theorem Sp(g1:gF N1 di dY)(g2:gF N2 dk dZ):gF (N1+N2) (F8 di dk) (nE dY dZ) where
 one:=fun⟨i,j,a,b,e⟩ ⟨i',j',a',b',e'⟩=>by have:=g1.one a a';have:=g2.one b b';omega
 rf:=fun c=> ⟨g1.rf _,g2.rf _⟩
 tr:=fun⟨_,_,a,b,_⟩ ⟨_,_,a',b',_⟩ ⟨_,_,Io,IA,_⟩ h h'=> ⟨g1.tr a a' Io h.1 h'.1,g2.tr b b' IA h.2 h'.2⟩
 st:=fun {_ _ c d} ⟨i,j,a,b,e⟩ ⟨i',j',a',b',e'⟩ h=>by
  rcases g1.st a a' h.1 with h1 | h1<;>rcases g2.st b b' h.2 with h2 | h2
  ·exact .inl (Prod.ext h1 h2)
  ·rw [←h1]at a';have:=g1.one a a';exact .inr (by omega)
  ·rw [←h2]at b';have:=g2.one b b';exact .inr (by omega)
  exact .inr (by omega)
 th:=fun {p q c d} ⟨i,j,a,b,e⟩ ⟨i',j',a',b',e'⟩ h sH=>by
  have k1:i≤i'∧(i=i'→c.1=d.1):=by
   rcases g1.st a a' h.1 with h1 | h1
   ·rw [←h1]at a';have:=g1.one a a';exact⟨by omega,fun _=>h1⟩
   exact⟨by omega,by omega⟩
  have k2:j≤j'∧(j=j'→c.2=d.2):=by
   rcases g2.st b b' h.2 with h1 | h1
   ·rw [←h1]at b';have:=g2.one b b';exact⟨by omega,fun _=>h1⟩
   exact⟨by omega,by omega⟩
  by_cases q1:i+1<i'
  ·obtain⟨x,hx,x1,x2⟩:=g1.th a a' h.1 q1;exact⟨(x,c.2),⟨i+1,j,hx,b,by omega⟩,⟨x1,g2.rf _⟩,⟨x2,h.2⟩⟩
  by_cases q2:i+1=i'
  ·exact⟨(d.1,c.2),⟨i',j,a',b,by omega⟩,⟨h.1,g2.rf _⟩,⟨g1.rf _,h.2⟩⟩
  obtain⟨x,hx,x1,x2⟩:=g2.th b b' h.2 (by omega);exact⟨(c.1,x),⟨i,j+1,a,hx,by omega⟩,⟨g1.rf _,x1⟩,⟨h.1,x2⟩⟩
 nU:=fun⟨i,j,a,b,e⟩=>by have:=g1.nU a;have:=g2.nU b;omega
 bot:=by
  obtain⟨o1,h1,k1⟩:=g1.bot;obtain⟨o2,h2,k2⟩:=g2.bot;exact⟨(o1,o2),⟨0,0,h1,h2,O⟩,fun p c ⟨i,j,a,b,e⟩=> ⟨⟨(k1 i _ a).1,(k2 j _ b).1⟩,fun hp=>Prod.ext ((k1 i _ a).2 (by omega)) ((k2 j _ b).2 (by omega))⟩⟩
 top:=by
  obtain⟨o1,h1,k1⟩:=g1.top;obtain⟨o2,h2,k2⟩:=g2.top;refine⟨(o1,o2),⟨N1,N2,h1,h2,O⟩,fun p c ⟨i,j,a,b,e⟩=> ⟨⟨(k1 i _ a).1,(k2 j _ b).1⟩,fun hp=>?_⟩⟩;have:=g1.nU a;have:=g2.nU b;exact Prod.ext ((k1 i _ a).2 (by omega)) ((k2 j _ b).2 (by omega))
theorem acu(g1:gF N1 di dY)(g2:gF N2 dk dZ)(B9:ml di dY)(px:ml dk dZ):ml (F8 di dk) (nE dY dZ):=by
 rintro p q ⟨a1,a2⟩ ⟨b1,b2⟩ ⟨i0,j0,gM,gW,rfl⟩ ⟨i1,j1,cN,dG,rfl⟩ h sH r t ⟨c1,c2⟩ ⟨d1,d2⟩ ⟨c3,c4,⟨i,j,hc,oq,rfl⟩,c5,c6⟩ ⟨d3,d4,⟨k,l,hd,ou,rfl⟩,d5,d6⟩;exact N0 (s:=0) g1 g2 B9 px gM gW cN dG h.1 h.2 (aW _) sH (fun i j x y hx hy _ _=> ⟨i,j,hx,hy,O⟩) ⟨hc,oq,c5.1,c6.1,c5.2,c6.2⟩ ⟨hd,ou,d5.1,d6.1,d5.2,d6.2⟩ ⟨c3,c4⟩ ⟨d3,d4⟩
end
section
variable {α β:Type} {N N1 N2:Nat} {el:Nat→α→Prop} {le:α→α→Prop} {di:Nat→α→Prop} {dY:α→α→Prop} {dk:Nat→β→Prop} {dZ:β→β→Prop}
theorem gF.lv(g:gF N el le){i j:Nat}{a b:α}(ha:el i a)(hb:el j b)(h:le a b):i≤j∧(i=j→a=b):=by
 rcases g.st ha hb h with e | e
 ·subst e;have:=g.one ha hb;exact⟨by omega,fun _=>rfl⟩
 exact⟨by omega,by omega⟩
theorem gF.HZ(g:gF N el le){k:Nat}{d:α}(hd:el k d)(hk:1≤k):∃v,el 1 v∧le v d:=by
 by_cases e:k=1
 ·subst e;exact⟨d,hd,g.rf _⟩
 obtain⟨o,ho,h⟩:=g.bot;obtain⟨c,hc,_,h2⟩:=g.th ho hd (h k d hd).1 (by omega);exact⟨c,hc,h2⟩
def uj(di:Nat→α→Prop)(dk:Nat→β→Prop)(p:Nat)(c:α×β):Prop:=(p=0∧di 0 c.1∧dk 0 c.2)∨∃i j,1≤i∧1≤j∧di i c.1∧dk j c.2∧p+1=i+j
theorem FW(g1:gF N1 di dY)(g2:gF N2 dk dZ)(n1:1≤N1)(n2:1≤N2):gF (N1+N2 - 1) (uj di dk) (nE dY dZ) where
 one:=by
  rintro p q c (⟨e,a,b⟩ | ⟨i,j,hi,hj,a,b,e⟩) (⟨e',a',b'⟩ | ⟨i',j',dT,kF,a',b',e'⟩)
  ·omega
  ·have:=g1.one a a';omega
  ·have:=g1.one a a';omega
  have:=g1.one a a';have:=g2.one b b';omega
 rf:=fun c=> ⟨g1.rf _,g2.rf _⟩
 tr:=by
  have key:∀ {p:Nat} {c:α×β},uj di dk p c→∃i j,di i c.1∧dk j c.2:=by
   rintro p c (⟨e,a,b⟩ | ⟨i,j,hi,hj,a,b,e⟩)
   ·exact⟨0,0,a,b⟩
   exact⟨i,j,a,b⟩
  intro p q r c d e h h' wh l l';obtain⟨_,_,a,b⟩:=key h;obtain⟨_,_,a',b'⟩:=key h';obtain⟨_,_,Io,IA⟩:=key wh;exact⟨g1.tr a a' Io l.1 l'.1,g2.tr b b' IA l.2 l'.2⟩
 st:=by
  rintro p q c d (⟨e,a,b⟩ | ⟨i,j,hi,hj,a,b,e⟩) (⟨e',a',b'⟩ | ⟨i',j',dT,kF,a',b',e'⟩) h
  ·exact .inl (Prod.ext ((g1.lv a a' h.1).2 O) ((g2.lv b b' h.2).2 O))
  ·exact .inr (by omega)
  ·have:=(g1.lv a a' h.1).1;omega
  have h1:=g1.lv a a' h.1;have h2:=g2.lv b b' h.2
  by_cases q:i=i'∧j=j'
  ·exact .inl (Prod.ext (h1.2 q.1) (h2.2 q.2))
  exact .inr (by omega)
 th:=by
  rintro p q c d (⟨e,a,b⟩ | ⟨i,j,hi,hj,a,b,e⟩) (⟨e',a',b'⟩ | ⟨i',j',dT,kF,a',b',e'⟩) h sH
  ·omega
  ·obtain⟨v,hv,lv⟩:=g1.HZ a' dT;obtain⟨w,hw,lw⟩:=g2.HZ b' kF;obtain⟨o1,h1,k1⟩:=g1.bot;obtain⟨o2,h2,k2⟩:=g2.bot;have e1:=(k1 0 _ a).2 O;have e2:=(k2 0 _ b).2 O;exact⟨(v,w),.inr ⟨1,1,by omega,by omega,hv,hw,by omega⟩,⟨by rw [e1];exact(k1 1 v hv).1,by rw [e2];exact(k2 1 w hw).1⟩,⟨lv,lw⟩⟩
  ·omega
  have h1:=g1.lv a a' h.1;have h2:=g2.lv b b' h.2
  by_cases q1:i+1<i'
  ·obtain⟨x,hx,x1,x2⟩:=g1.th a a' h.1 q1;exact⟨(x,c.2),.inr ⟨i+1,j,by omega,hj,hx,b,by omega⟩,⟨x1,g2.rf _⟩,⟨x2,h.2⟩⟩
  by_cases q2:i+1=i'
  ·exact⟨(d.1,c.2),.inr ⟨i',j,dT,hj,a',b,by omega⟩,⟨h.1,g2.rf _⟩,⟨g1.rf _,h.2⟩⟩
  obtain⟨x,hx,x1,x2⟩:=g2.th b b' h.2 (by omega);exact⟨(c.1,x),.inr ⟨i,j+1,hi,by omega,a,hx,by omega⟩,⟨g1.rf _,x1⟩,⟨h.1,x2⟩⟩
 nU:=by
  rintro p c (⟨e,a,b⟩ | ⟨i,j,hi,hj,a,b,e⟩)
  ·omega
  have:=g1.nU a;have:=g2.nU b;omega
 bot:=by
  obtain⟨o1,h1,k1⟩:=g1.bot;obtain⟨o2,h2,k2⟩:=g2.bot;refine⟨(o1,o2),.inl ⟨O,h1,h2⟩,?_⟩;rintro p c (⟨e,a,b⟩ | ⟨i,j,hi,hj,a,b,e⟩)
  ·exact⟨⟨(k1 _ _ a).1,(k2 _ _ b).1⟩,fun _=>Prod.ext ((k1 _ _ a).2 O) ((k2 _ _ b).2 O)⟩
  exact⟨⟨(k1 _ _ a).1,(k2 _ _ b).1⟩,by omega⟩
 top:=by
  obtain⟨o1,h1,k1⟩:=g1.top;obtain⟨o2,h2,k2⟩:=g2.top;refine⟨(o1,o2),.inr ⟨N1,N2,n1,n2,h1,h2,by omega⟩,?_⟩;rintro p c (⟨e,a,b⟩ | ⟨i,j,hi,hj,a,b,e⟩)
  ·exact⟨⟨(k1 _ _ a).1,(k2 _ _ b).1⟩,by omega⟩
  have:=g1.nU a;have:=g2.nU b;exact⟨⟨(k1 _ _ a).1,(k2 _ _ b).1⟩,fun _=>Prod.ext ((k1 _ _ a).2 (by omega)) ((k2 _ _ b).2 (by omega))⟩
theorem N6(g1:gF N1 di dY)(g2:gF N2 dk dZ)(B9:ml di dY)(px:ml dk dZ):ml (uj di dk) (nE dY dZ):=by
 rintro p q ⟨a1,a2⟩ ⟨b1,b2⟩ ha hb h sH r t ⟨c1,c2⟩ ⟨d1,d2⟩ ⟨c3,c4,hc,c5,c6⟩ ⟨d3,d4,hd,d5,d6⟩;rcases hb with⟨e,_,_⟩ | ⟨i1,j1,jt,KB,cN,dG,e⟩
 ·omega
 rcases hc with⟨e2,_,_⟩ | ⟨i,j,hi,hj,hc,oq,e2⟩
 ·omega
 rcases hd with⟨e3,_,_⟩ | ⟨k,l,hk,hl,hd,ou,e3⟩
 ·omega
 obtain rfl:q=i1+j1 - 1:=by omega
 obtain rfl:r=i+j - 1:=by omega
 obtain rfl:t=k+l - 1:=by omega
 rcases ha with⟨e1,gM,gW⟩ | ⟨i0,j0,eP,Q6,gM,gW,e1⟩
 ·subst e1;replace gM:di 0 a1:=gM;replace gW:dk 0 a2:=gW;replace cN:di i1 b1:=cN;replace dG:dk j1 b2:=dG;replace hc:di i c1:=hc;replace oq:dk j c2:=oq;replace hd:di k d1:=hd;replace ou:dk l d2:=ou;obtain⟨o1,tJ,k1⟩:=g1.bot;obtain⟨o2,zN,k2⟩:=g2.bot;have x1:=(k1 0 _ gM).2 O;have x2:=(k2 0 _ gW).2 O;subst x1;subst x2;have mT:∀ {i j:Nat} {c1:α} {c2:β},1≤i→1≤j→di i c1→dk j c2→dY c1 b1→dZ c2 b2→i+j<i1+j1→s6 (uj di dk) (nE dY dZ) 0 (i1+j1 - 1) (a1,a2) (b1,b2) (i+j - 1) (c1,c2):=fun hi hj h h' l l' hs=> ⟨by omega,by omega,.inr ⟨_,_,hi,hj,h,h',by omega⟩,⟨(k1 _ _ h).1,(k2 _ _ h').1⟩,⟨l,l'⟩⟩
  by_cases q1:i1=1
  ·have f:∀ {i:Nat} {c:α},1≤i→di i c→dY c b1→c=b1∧i=1:=fun hi h h'=>by
    have:=g1.lv h cN h';exact⟨this.2 (by omega),by omega⟩
   obtain⟨rfl,rfl⟩:=f hi hc c6.1;obtain⟨rfl,rfl⟩:=f hk hd d6.1;have key:=px 0 j1 a2 b2 gW dG (k2 _ _ dG).1 (by omega) j l c2 d2 ⟨by omega,by omega,oq,(k2 _ _ oq).1,c6.2⟩ ⟨by omega,by omega,ou,(k2 _ _ ou).1,d6.2⟩;clear hd ou d3 d4 d5 d6 hl e3
   induction key with
   | refl=>exact .refl
   | step _ y1 y2 y3 y4 y5 y6 ih=>
    refine ih.trans (.one (mT (by omega) (by omega) hc y3 c6.1 y5 (by omega)) ?_);exact y6.imp (fun h=> ⟨g1.rf _,h⟩) (fun h=> ⟨g1.rf _,h⟩)
  by_cases q2:j1=1
  ·have f:∀ {i:Nat} {c:β},1≤i→dk i c→dZ c b2→c=b2∧i=1:=fun hi h h'=>by
    have:=g2.lv h dG h';exact⟨this.2 (by omega),by omega⟩
   obtain⟨rfl,rfl⟩:=f hj oq c6.2;obtain⟨rfl,rfl⟩:=f hl ou d6.2;have key:=B9 0 i1 a1 b1 gM cN (k1 _ _ cN).1 (by omega) i k c1 d1 ⟨by omega,by omega,hc,(k1 _ _ hc).1,c6.1⟩ ⟨by omega,by omega,hd,(k1 _ _ hd).1,d6.1⟩;clear hd ou d3 d4 d5 d6 hk e3
   induction key with
   | refl=>exact .refl
   | step _ y1 y2 y3 y4 y5 y6 ih=>
    refine ih.trans (.one (mT (by omega) (by omega) y3 oq y5 c6.2 (by omega)) ?_);exact y6.imp (fun h=> ⟨h,g2.rf _⟩) (fun h=> ⟨h,g2.rf _⟩)
  obtain⟨v0,R6,LS⟩:=g1.HZ cN jt;obtain⟨w0,Hp,LW⟩:=g2.HZ dG KB;have it:=mT jt (a8 1) cN Hp (g1.rf _) LW (by omega);have UA:∀ {i j:Nat} {c1:α} {c2:β},1≤i→1≤j→di i c1→dk j c2→dY c1 b1→dZ c2 b2→i<i1→gZ (uj di dk) (nE dY dZ) 0 (i1+j1 - 1) (a1,a2) (b1,b2) (i+j - 1) (c1,c2) (i1+1 - 1) (b1,w0):=fun {i j c1 c2} hi hj h h' l l' hs=>by
   refine(gZ.one (c:=(c1,c2)) (mT hi KB h dG l (g2.rf _) (by omega)) (.inl ⟨g1.rf _,l'⟩)).trans ((gZ.one (c:=(c1,b2)) (mT hi (a8 1) h Hp l LW (by omega)) (.inr ⟨g1.rf _,LW⟩)).trans ?_);exact gZ.one (c:=(c1,w0)) it (.inl ⟨l,g2.rf _⟩)
  have UB:∀ {i j:Nat} {c1:α} {c2:β},1≤i→1≤j→di i c1→dk j c2→dY c1 b1→dZ c2 b2→i+j<i1+j1→gZ (uj di dk) (nE dY dZ) 0 (i1+j1 - 1) (a1,a2) (b1,b2) (i+j - 1) (c1,c2) (i1+1 - 1) (b1,w0):=fun {i j c1 c2} hi hj h h' l l' hs=>by
   have g:=g1.lv h cN l
   by_cases q:i<i1
   ·exact UA hi hj h h' l l' q
   ·have:c1=b1:=g.2 (by omega);subst this;refine(gZ.one (c:=(c1,c2)) (mT (a8 1) hj R6 h' LS l' (by omega)) (.inr ⟨LS,g2.rf _⟩)).trans ?_;exact UA (a8 1) hj R6 h' LS l' (by omega)
  exact(UB hi hj hc oq c6.1 c6.2 (by omega)).trans ((UB hk hl hd ou d6.1 d6.2 (by omega)).symm (mT hk hl hd ou d6.1 d6.2 (by omega)))
 ·replace gM:di i0 a1:=gM;replace gW:dk j0 a2:=gW;obtain rfl:p=i0+j0 - 1:=by omega
  exact N0 (s:=1) g1 g2 B9 px gM gW cN dG h.1 h.2 (by omega) (by omega) (fun i j x y hx hy l1 l2=> .inr ⟨i,j,by have:=(g1.lv gM hx l1).1;omega,by have:=(g2.lv gW hy l2).1;omega,hx,hy,by have:=(g1.lv gM hx l1).1;omega⟩) ⟨hc,oq,c5.1,c6.1,c5.2,c6.2⟩ ⟨hd,ou,d5.1,d6.1,d5.2,d6.2⟩ (by omega) (by omega)
def BE(N:Nat)(el:Nat→α→Prop)(p:Nat)(a:α):Prop:=p≤N∧el (N - p) a
def CD(le:α→α→Prop)(a b:α):Prop:=le b a
theorem gF.tj(g:gF N el le):gF N (BE N el) (CD le) where
 one:=fun⟨h,a⟩ ⟨h',a'⟩=>by have:=g.one a a';omega
 rf:=fun a=>g.rf a
 tr:=fun⟨_,a⟩ ⟨_,b⟩ ⟨_,c⟩ h h'=>g.tr c b a h' h
 st:=fun⟨_,a⟩ ⟨_,b⟩ h=>by
  rcases g.st b a h with e | e
  ·exact .inl e.symm
  exact .inr (by omega)
 th:=fun {i j a b} ⟨h1,ha⟩ ⟨h2,hb⟩ h gN=>by
  obtain⟨z,hz,e1,e2⟩:=g.chain hb ha h (by omega);refine⟨z (N - (i+1)),⟨by omega,hz.1 _ (by omega) (by omega)⟩,?_,?_⟩
  ·show le _ a;rw [←e2];exact hz.xe g (by omega) (by omega) (a8 _)
  show le b _;rw [←e1];exact hz.xe g (a8 _) (by omega) (by omega)
 nU:=fun h=>h.1
 bot:=by
  obtain⟨t,ht,k⟩:=g.top;exact⟨t,⟨aW _,by simpa using ht⟩,fun i a ⟨hi,ha⟩=> ⟨(k _ a ha).1,fun e=> (k _ a ha).2 (by omega)⟩⟩
 top:=by
  obtain⟨o,ho,k⟩:=g.bot;exact⟨o,⟨a8 _,by simpa using ho⟩,fun i a ⟨hi,ha⟩=> ⟨(k _ a ha).1,fun e=> (k _ a ha).2 (by omega)⟩⟩
theorem ml.tj(g:gF N el le)(h:ml el le):ml (BE N el) (CD le):=by
 rintro i j a b ⟨hi,ha⟩ ⟨hj,hb⟩ dO gN p q c d ⟨c1,c2,⟨_,c3⟩,c4,c5⟩ ⟨d1,d2,⟨_,d3⟩,d4,d5⟩;have key:=h (N - j) (N - i) b a hb ha dO (by omega) (N - p) (N - q) c d ⟨by omega,by omega,c3,c5,c4⟩ ⟨by omega,by omega,d3,d5,d4⟩;obtain⟨r,hr⟩:∃r,r=N - q:=⟨_,rfl⟩;rw [←hr]at key;have gen:∀r e,gZ el le (N - j) (N - i) b a (N - p) c r e→r≤N→gZ (BE N el) (CD le) i j a b p c (N - r) e:=by
  intro r e hh
  induction hh with
  | refl=>intro _;rw [show N - (N - p)=p by omega];exact .refl
  | @step q' r' d' e' h0 k1 k2 k3 k4 k5 k6 ih=>
   intro fI;have dq:=h0.end_ ⟨by omega,by omega,c3,c5,c4⟩;have:=g.nU dq.2.2.1;exact .step (ih this) (by omega) (by omega) ⟨by omega,by rw [show N - (N - r')=r' by omega];exact k3⟩ k5 k4 k6.symm
 have:=gen r d key (by omega)
 rwa [show N - r=q by omega]at this
end
section
variable {α:Type} {N:Nat} {el:Nat→α→Prop} {le:α→α→Prop}
def Ft(N:Nat)(el:Nat→α→Prop)(le:α→α→Prop):Prop:=∀z y:Nat→α,iO el le 0 N z→iO el le 0 N y→jj el le 0 N (fun k=>z k=y k) z y
theorem Xu(g:gF N el le)(hc:ml el le):Ft N el le:=fun z y hz hy=>by
 obtain⟨o,_,ho⟩:=g.bot;obtain⟨t,_,ht⟩:=g.top;have b1:=(ho 0 _ (hz.1 0 (a8 _) (aW _))).2 O;have b2:=(ho 0 _ (hy.1 0 (a8 _) (aW _))).2 O;have t1:=(ht N _ (hz.1 N (aW _) (a8 _))).2 O;have t2:=(ht N _ (hy.1 N (aW _) (a8 _))).2 O;exact W0 g hc N 0 N (by omega) (aW _) z y hz hy (b1.trans b2.symm) (t1.trans t2.symm)
theorem afY(g:gF N el le)(h:Ft N el le):ml el le:=by
 intro i j a b ha hb dO gN p q c d hc hd;obtain⟨o,ho,ik⟩:=g.bot;obtain⟨t,ht,pW⟩:=g.top;have yi:=g.nU hb;obtain⟨w1,c1,_,e1⟩:=g.chain ho ha (ik i a ha).1 (aW _);obtain⟨w4,c4,e4,_⟩:=g.chain hb ht (pW j b hb).1 yi;have mk:∀(p:Nat) (c:α),s6 el le i j a b p c→∃z,iO el le 0 N z∧(∀k,k≤i→z k=w1 k)∧(∀k,j≤k→z k=w4 k)∧z p=c:=by
  intro p c hc;obtain⟨u1,d1,f1,OD⟩:=g.chain ha hc.2.2.1 hc.2.2.2.1 (by have:=hc.1;omega);obtain⟨u2,d2,f2,OE⟩:=g.chain hc.2.2.1 hb hc.2.2.2.2 (by have:=hc.2.1;omega);have h1:=hc.1;have h2:=hc.2.1;have x1:=c1.glue d1 (e1.trans f1.symm);have x2:=x1.glue d2 (by rw [wg h1,OD,f2]);have x3:=x2.glue c4 (by rw [wg h2,OE,e4]);refine⟨_,x3,fun k hk=>?_,fun k hk=>Jo (by rw [wg h2,OE,e4]) hk,?_⟩
  ·rw [qh (by omega),qh (by omega),qh hk]
  ·rw [qh (by omega),qh (a8 _),wg h1,OD]
 obtain⟨z,hz,z1,z2,z3⟩:=mk p c hc;obtain⟨y,hy,y1,y2,y3⟩:=mk q d hd;have hl:=h z y hz hy;have zi:z i=a:=(z1 i (a8 _)).trans e1;have zj:z j=b:=(z2 j (a8 _)).trans e4;have kp:∀y',jj el le 0 N (fun k=>z k=y k) z y'→y' i=a∧y' j=b:=fun y' h=>by
  have k1:=h.keep (k:=i) (aW _) (by omega) (.inr (.inr (by show z i=y i;rw [z1 i (a8 _),y1 i (a8 _)])));have k2:=h.keep (k:=j) (aW _) (by omega) (.inr (.inr (by show z j=y j;rw [z2 j (a8 _),y2 j (a8 _)])));exact⟨k1.symm.trans zi,k2.symm.trans zj⟩
 have mT:∀y',iO el le 0 N y'→y' i=a→y' j=b→∀r,i<r→r<j→s6 el le i j a b r (y' r):=fun y' l8 k1 k2 r h1 h2=>
  ⟨h1,h2,l8.1 r (aW _) (by omega),k1▸l8.xe g (aW _) (by omega) (by omega),k2▸l8.xe g (aW _) (by omega) yi⟩
 have cmp:∀y',iO el le 0 N y'→∀r s,i<r→r<j→i<s→s<j→le (y' r) (y' s)∨le (y' s) (y' r):=fun y' l8 r s h1 h2 h3 h4=>by
  rcases Nat.le_total r s with h | h
  ·exact .inl (l8.xe g (aW _) h (by omega))
  ·exact .inr (l8.xe g (aW _) h (by omega))
 have key:∀y',jj el le 0 N (fun k=>z k=y k) z y'→iO el le 0 N y'→∀r,i<r→r<j→gZ el le i j a b p c r (y' r):=by
  intro y' hh
  induction hh with
  | @same y' e=>
   intro l8 r h1 h2;have k:=kp y' (.same e);have:=gZ.one (p:=p) (c:=c) (mT y' l8 k.1 k.2 r h1 h2) (by rw [←e r (aW _) (by omega),←z3];exact cmp z hz p r hc.1 hc.2.1 h1 h2);exact this
  | @step y0 y' s h0 k1 k2 k3 k4 k5 k6 ih=>
   intro l8 r h1 h2;have ih:=ih k1
   by_cases e:r=s
   ·subst e;obtain⟨r',r1,r2,r3⟩:∃r',i<r'∧r'<j∧r'≠r:=by
     by_cases e:r=i+1
     ·exact⟨i+2,by omega,by omega,by omega⟩
     ·exact⟨i+1,by omega,by omega,by omega⟩
    have e2:=k6 r' (aW _) (by omega) r3;have hk:=kp y' (.step r h0 k1 k2 k3 k4 k5 k6);have:=ih r' r1 r2;rw [e2]at this;exact this.trans (.one (mT y' l8 hk.1 hk.2 r h1 h2) (cmp y' l8 r' r r1 r2 h1 h2))
   ·rw [←k6 r (aW _) (by omega) e];exact ih r h1 h2
 have:=key y hl hy q hd.1 hd.2.1
 rwa [y3]at this
end
structure mK{α:Type}(n:Nat)(R:List Int)(B:aiB)(el:Nat→α→Prop)(le:α→α→Prop)(φ:Int→α):Prop where
 n1:1≤n
 g:gF (n+1) el le
 zZ:∀e:Int,0≤e∧e<R.length→∀i:Nat,i<n→gi R e=i→el (i+1) (φ e)
 Fi:∀(i:Nat) (a:α),i<n→el (i+1) a→∃e:Int,(0≤e∧e<R.length)∧gi R e=i∧φ e=a
 inj:∀d e:Int,0≤d∧d<R.length→0≤e∧e<R.length→φ d=φ e→d=e
 inc:∀d e:Int,0≤d∧d<R.length→0≤e∧e<R.length→gi R e=gi R d+1→(d∈gl B e↔le (φ d) (φ e))
section
variable {α:Type} {n:Nat} {R:List Int} {B:aiB} {el:Nat→α→Prop} {le:α→α→Prop} {φ:Int→α}
def mf(o t:α)(n:Nat)(φ:Int→α)(x:List Int)(k:Nat):α:=if k=0 then o else if k≤n then φ (gi x ((k - 1:Nat):Int))else t
theorem AL{o t:α}{x:List Int}{k:Nat}(h:k<n):mf o t n φ x (k+1)=φ (gi x (k:Int)):=by
 unfold mf;rw [if_neg (by omega),if_pos (by omega)];rfl
theorem mK.z(h:mK n R B el le φ){o t:α}(ho:el 0 o)(ik:∀(i:Nat) (a:α),el i a→le o a)(ht:el (n+1) t)(pW:∀(i:Nat) (a:α),el i a→le a t){x:List Int}(hx:x∈au n R B):iO el le 0 (n+1) (mf o t n φ x):=by
 obtain⟨_,ha,hb⟩:=(nY h.n1).1 hx;have hm:∀k:Nat,k<n→el (k+1) (mf o t n φ x (k+1)):=fun k hk=>by
  rw [AL hk];exact h.zZ _ (ha k hk).1 k hk (ha k hk).2
 have h0:mf o t n φ x 0=o:=aj O;have h9:mf o t n φ x (n+1)=t:=by unfold mf;rw [if_neg (by omega),if_neg (by omega)]
 have he:∀k:Nat,k≤n+1→el k (mf o t n φ x k):=fun k hk=>by
  cases k with
  | zero=>rw [h0];exact ho
  | succ k=>
   by_cases e:k<n
   ·exact hm k e
   ·obtain rfl:k=n:=by omega
    rw [h9];exact ht
 refine⟨fun k _ hk=>he k hk,fun k _ hk=>?_⟩;cases k with
 | zero=>rw [h0];exact ik _ _ (he 1 (by omega))
 | succ k=>
  by_cases e:k+1<n
  ·rw [AL (by omega),AL e];refine(h.inc _ _ (ha k (by omega)).1 (ha (k+1) e).1 ?_).1 (hb k e);rw [(ha k (by omega)).2,(ha (k+1) e).2];omega
  ·obtain rfl:k+1=n:=by omega
   rw [h9];exact pW _ _ (he (k+1) (by omega))
theorem mK.x(h:mK n R B el le φ){z:Nat→α}(hz:iO el le 0 (n+1) z):∃x∈au n R B,∀i:Nat,i<n→φ (gi x (i:Int))=z (i+1):=by
 have hex:∀i:Nat,∃e:Int,i<n→(0≤e∧e<R.length)∧gi R e=i∧φ e=z (i+1):=fun i=>by
  by_cases hi:i<n
  ·obtain⟨e,h⟩:=h.Fi i (z (i+1)) hi (hz.1 (i+1) (aW _) (by omega));exact⟨e,fun _=>h⟩
  exact⟨0,fun h=>absurd h hi⟩
 obtain⟨E,hE⟩:=Classical.axiomOfChoice hex;have hE:∀i:Nat,i<n→(0≤E i∧E i<R.length)∧gi R (E i)=i∧φ (E i)=z (i+1):=hE;have fW:∀i:Nat,i<n→gi ((List.range n).map E) (i:Int)=E i:=fun i hi=>by
  rw [bX (by simpa using hi),List.getElem_map,List.getElem_range]
 refine⟨(List.range n).map E,(nY h.n1).2 ⟨by simp,fun i hi=>?_,fun i hi=>?_⟩,fun i hi=>?_⟩
 ·rw [fW i hi];exact⟨(hE i hi).1,(hE i hi).2.1⟩
 ·rw [fW i (by omega),fW (i+1) hi];have h1:=hE i (by omega);have h2:=hE (i+1) hi;rw [h.inc _ _ h1.1 h2.1 (by rw [h1.2.1,h2.2.1];omega),h1.2.2,h2.2.2];exact hz.2 (i+1) (aW _) (by omega)
 rw [fW i hi];exact(hE i hi).2.2
theorem mK.pure(h:mK n R B el le φ)(hr:∀e:Int,0≤e→e<R.length→0≤gi R e∧gi R e<n):FC n R B:=fun e h0 h1=>by
 obtain⟨r0,r1⟩:=hr e h0 h1;obtain⟨i,hi⟩:∃i:Nat,gi R e=i:=⟨(gi R e).toNat,by omega⟩;have he:=h.zZ e ⟨h0,h1⟩ i (by omega) hi;obtain⟨o,ho,ik⟩:=h.g.bot;obtain⟨t,ht,pW⟩:=h.g.top;obtain⟨w1,c1,_,e1⟩:=h.g.chain ho he (ik _ _ he).1 (by omega);obtain⟨w2,c2,e2,_⟩:=h.g.chain he ht (pW _ _ he).1 (by omega);obtain⟨x,hx,hf⟩:=h.x (c1.glue c2 (e1.trans e2.symm));refine⟨x,hx,?_⟩;have hh:=hf i (by omega);rw [qh (a8 _),e1]at hh;obtain⟨hl,ha,_⟩:=(nY h.n1).1 hx;have:=h.inj _ _ (ha i (by omega)).1 ⟨h0,h1⟩ hh;rw [←this,bX (by omega)];exact dQ _
theorem mK.agree(h:mK n R B el le φ){o t:α}{x y:List Int}(hx:x∈au n R B)(hy:y∈au n R B){i:Nat}(hi:i<n):mf o t n φ x (i+1)=mf o t n φ y (i+1)↔gi x (i:Int)=gi y (i:Int):=by
 rw [AL hi,AL hi];exact⟨h.inj _ _ (((nY h.n1).1 hx).2.1 i hi).1 (((nY h.n1).1 hy).2.1 i hi).1,fun e=>by rw [e]⟩
theorem Po{fl:aiB}{x:List Int}(h:x∈fl):∃a:Nat,a<fl.length∧gl fl (a:Int)=x:=by
 obtain⟨a,ha,e⟩:=gJ.1 h;exact⟨a,ha,by rw [db ha,e]⟩
theorem qX{fl:aiB}{a:Nat}(h:a<fl.length):gl fl (a:Int)∈fl:=by rw [db h];exact dQ _
theorem mK.IV(h:mK n R B el le φ)(hc:Ft (n+1) el le):vN n (au n R B):=fun a b dO hb=>by
 obtain⟨o,ho,ik⟩:=h.g.bot;obtain⟨t,ht,pW⟩:=h.g.top;have ha:a< (au n R B).length:=by omega
 have mz:=fun(x:List Int) (hx:x∈au n R B)=>h.z ho (fun i a k=> (ik i a k).1) ht (fun i a k=> (pW i a k).1) hx
 have hl:=hc _ _ (mz _ (qX ha)) (mz _ (qX hb));have key:∀y,jj el le 0 (n+1) (fun k=>mf o t n φ (gl (au n R B) (a:Int)) k=mf o t n φ (gl (au n R B) (b:Int)) k) (mf o t n φ (gl (au n R B) (a:Int))) y→
  ∃c:Nat,c< (au n R B).length∧eO n (au n R B) (fun k=>gi (gl (au n R B) (a:Int)) (k:Int)=gi (gl (au n R B) (b:Int)) (k:Int)) a c∧∀i:Nat,i<n→mf o t n φ (gl (au n R B) (c:Int)) (i+1)=y (i+1):=by
  intro y hy
  induction hy with
  | same e=>exact⟨a,ha,.refl ha,fun i hi=>e (i+1) (aW _) (by omega)⟩
  | @step y y' p _ k1 k2 k3 k4 k5 k6 ih=>
   obtain⟨c,cg,lK,Km⟩:=ih;obtain⟨x,hx,Lq⟩:=h.x k2;obtain⟨c',oq,e'⟩:=Po hx;have Sb:∀i:Nat,i<n→mf o t n φ (gl (au n R B) (c':Int)) (i+1)=y' (i+1):=fun i hi=>by rw [e',AL hi,Lq i hi]
   obtain⟨q,rfl⟩:∃q,p=q+1:=⟨p - 1,by omega⟩;have hq:q<n:=by omega
   refine⟨c',oq,.step lK hq (fun hs=>k5 ((h.agree (qX ha) (qX hb) hq).2 hs)) ⟨cg,oq,fun k hk bt=>?_⟩,Sb⟩;rw [←h.agree (o:=o) (t:=t) (qX cg) (qX oq) hk,Km k hk,Sb k hk];exact k6 (k+1) (aW _) (by omega) (by omega)
 obtain⟨c,cg,lK,Km⟩:=key _ hl;have:c=b:=wc cg hb (uS (n:=n) (nZ h.n1 cg).1 (nZ h.n1 hb).1 fun i hi=> (h.agree (qX cg) (qX hb) hi).1 (Km i hi))
 rwa [this]at lK
theorem mK.Xt(h:mK n R B el le φ)(hc:vN n (au n R B)):Ft (n+1) el le:=fun z y hz hy=>by
 obtain⟨o,ho,ik⟩:=h.g.bot;obtain⟨t,ht,pW⟩:=h.g.top;have mz:=fun(x:List Int) (hx:x∈au n R B)=>h.z ho (fun i a k=> (ik i a k).1) ht (fun i a k=> (pW i a k).1) hx
 have all:∀w,iO el le 0 (n+1) w→∃a:Nat,a< (au n R B).length∧∀k,0≤k→k≤n+1→mf o t n φ (gl (au n R B) (a:Int)) k=w k:=fun w hw=>by
  obtain⟨x,hx,Lq⟩:=h.x hw;obtain⟨a,ha,e⟩:=Po hx;refine⟨a,ha,fun k _ hk=>?_⟩;cases k with
  | zero=>exact(show mf o t n φ _ 0=o from aj rfl).trans ((ik 0 _ (hw.1 0 (a8 _) (by omega))).2 rfl).symm
  | succ k=>
   by_cases q:k<n
   ·rw [e,AL q];exact Lq k q
   ·obtain rfl:k=n:=by omega
    exact(show mf o t k φ _ (k+1)=t by unfold mf;rw [if_neg (by omega),if_neg (by omega)]).trans ((pW _ _ (hw.1 (k+1) (Nat.zero_le _) (Nat.le_refl _))).2 O).symm
 obtain⟨a,ha,ea⟩:=all z hz;obtain⟨b,hb,eb⟩:=all y hy;have lK:eO n (au n R B) (fun k=>gi (gl (au n R B) (a:Int)) (k:Int)=gi (gl (au n R B) (b:Int)) (k:Int)) a b:=by
  rcases Nat.lt_trichotomy a b with dO | dO | dO
  ·exact hc a b dO hb
  ·subst dO;exact .refl ha
  ·have:=(hc b a dO ha).symm;have e:(fun k:Nat=>gi (gl (au n R B) (b:Int)) (k:Int)=gi (gl (au n R B) (a:Int)) (k:Int))=fun k:Nat=>gi (gl (au n R B) (a:Int)) (k:Int)=gi (gl (au n R B) (b:Int)) (k:Int):=funext fun k=>propext eq_comm
   rwa [e]at this
 have key:∀c,eO n (au n R B) (fun k=>gi (gl (au n R B) (a:Int)) (k:Int)=gi (gl (au n R B) (b:Int)) (k:Int)) a c→jj el le 0 (n+1) (fun k=>z k=y k) z (mf o t n φ (gl (au n R B) (c:Int))):=by
  intro c hh
  induction hh with
  | refl _=>exact .same fun k k1 k2=> (ea k k1 k2).symm
  | @step c c' i h0 hi hS hA ih=>
   refine .step (i+1) ih (mz _ (qX hA.1)) (mz _ (qX hA.2.1)) (by omega) (by omega) (fun hs=>hS ?_) fun k _ k2 hk=>?_
   ·rw [←h.agree (o:=o) (t:=t) (qX ha) (qX hb) hi,ea (i+1) (aW _) (by omega),eb (i+1) (aW _) (by omega)];exact hs
   ·cases k with
    | zero=>exact(show mf o t n φ _ 0=o from aj rfl).trans (show mf o t n φ _ 0=o from aj rfl).symm
    | succ k=>
     by_cases q:k<n
     ·exact(h.agree (qX hA.1) (qX hA.2.1) q).2 (hA.2.2 k q (by omega))
     ·unfold mf;rw [if_neg (by omega),if_neg (by omega),if_neg (by omega),if_neg (by omega)]
 exact(key b lK).eqv eb
end
def sY(m:Nat)(rk:Int→Int)(gQ:Int→Int→Prop):Prop:=∀a b:Int,0≤a∧a<m→0≤b∧b<m→gQ a b→rk a+1<rk b→∃c:Int,(0≤c∧c<m)∧gQ a c∧gQ c b∧rk c=rk a+1
def jU(m:Nat)(rk:Int→Int)(p:Nat)(a:Int):Prop:=(0≤a∧a<m)∧rk a+1=p
section
variable {m n:Nat} {rk:Int→Int} {gQ:Int→Int→Prop}
theorem fk.BJ(h:fk m n rk gQ)(hb:sY m rk gQ):gF (n+1) (jU m rk) gQ where
 one:=fun ha hb=>by have:=ha.2;have:=hb.2;omega
 rf:=h.refl
 tr:=fun ha hb hc=>h.trans _ _ _ ha.1 hb.1 hc.1
 st:=fun {i j a b} ha hb dO=>by
  by_cases e:a=b
  ·exact .inl e
  have:=h.strict a b ha.1 hb.1 dO e;have:=ha.2;have:=hb.2;exact .inr (by omega)
 th:=fun {i j a b} ha hc dO gN=>by
  have h1:=ha.2;have h2:=hc.2;obtain⟨c,h3,h4,h5,h6⟩:=hb a b ha.1 hc.1 dO (by omega);exact⟨c,⟨h3,by omega⟩,h4,h5⟩
 nU:=fun ha=>by have:=(h.fT ha.1).2;have:=ha.2;omega
 bot:=⟨0,⟨⟨by omega,by have:=h.two;omega⟩,by rw [h.r0];rfl⟩,fun i a ha=> ⟨h.bot a,fun e=>h.zero ha.1 (by have:=ha.2;omega)⟩⟩
 top:=⟨(m:Int) - 1,⟨⟨by have:=h.two;omega,by omega⟩,by rw [h.rt];omega⟩,fun i a ha=> ⟨h.top a,fun e=>h.whole ha.1 (by have:=ha.2;omega)⟩⟩
end
section
variable {n:Nat} {R:List Int} {B:aiB}
theorem T5(hP:fO n R B)(hb:sY (R.length+2) (gi (fo n R)) (dS R.length B)):mK n R B (jU (R.length+2) (gi (fo n R))) (dS R.length B) (fun e=>e+1) where
 n1:=by have:=hP.n1;omega
 g:=(EP hP).BJ hb
 zZ:=fun e he i _ hi=> ⟨by omega,by rw [wa _ _ (by omega) (by omega),Int.add_sub_cancel,hi];omega⟩
 Fi:=fun i a hi ha=>by
  have h1:=ha.1;have h2:=ha.2;have n0:a≠0:=fun e=>by subst e;have:gi (fo n R) 0= -1:=rfl;omega
  have n9:a≠(R.length:Int)+1:=fun e=>by subst e;rw [BG]at h2;omega
  rw [wa _ _ (by omega) (by omega)]at h2;exact⟨a - 1,by omega,by omega,by omega⟩
 inj:=fun d e _ _ h=>by have h:d+1=e+1:=h;omega
 inc:=fun d e hd he hr=>by
  show _↔dS R.length B (d+1) (e+1);unfold dS;rw [Int.add_sub_cancel,Int.add_sub_cancel];constructor
  ·intro h;exact .inr (.inr (.inr ⟨by omega,by omega,by omega,by omega,h⟩))
  rintro(h | h | h | h)
  ·have:d=e:=by omega
   subst this;omega
  ·omega
  ·omega
  exact h.2.2.2.2
theorem afX(hP:fO n R B)(hb:sY (R.length+2) (gi (fo n R)) (dS R.length B))(hc:vN n (au n R B)):ml (jU (R.length+2) (gi (fo n R))) (dS R.length B):=
 afY ((EP hP).BJ hb) ((T5 hP hb).Xt hc)
end
theorem YA{M:aiB}(hM:bL M){e:Int}(h0:0≤e)(h1:e< (aD M M.length:Int)):∃i:Nat,i<M.length∧∃f:Nat,f< (gl M 0).length∧e=bC M i f:=by
 obtain⟨i,hi,h2,h3⟩:=Jg h0 h1;have h3:e< ((aD M i+ (ja M i).toNat:Nat):Int):=h3;obtain⟨f,hf,e1⟩:=Gc hM i (e - (aD M i:Int)) (by omega) (by omega);refine⟨i,hi,f,hf,?_⟩;unfold bC;rw [e1];omega
theorem zk{M:aiB}(hM:bL M){i f:Nat}(hi:i<M.length)(hf:f< (gl M 0).length):(0≤bC M i f∧bC M i f< (aD M M.length:Int))∧gi (aO M M.length) (bC M i f)=i:=by
 have h:=pn hM (i:=i) hf;have:=nG M (i:=i+1) (j:=M.length) hi;exact⟨by omega,Dz hi h.1 h.2⟩
theorem Yz{M:aiB}(hM:bL M):sY ((aO M M.length).length+2) (gi (fo M.length (aO M M.length))) (dS (aO M M.length).length (bn M)):=by
 have hl:=iR M M.length;have h1:=hM.1;rw [hl];have el:∀(i f:Nat),i<M.length→f< (gl M 0).length→(0≤bC M i f+1∧bC M i f+1< ((aD M M.length+2:Nat):Int))∧gi (fo M.length (aO M M.length)) (bC M i f+1)=i:=fun i f hi hf=>by
  have h:=zk hM hi hf;exact⟨by omega,by rw [wa _ _ (by omega) (by omega),Int.add_sub_cancel];exact h.2⟩
 have gQ:∀(k i f:Nat),k<i→i<M.length→f< (gl M 0).length→dS (aD M M.length) (bn M) (bC M k f+1) (bC M i f+1):=fun k i f hk hi hf=>by
  have h:=zk hM hi hf;have h':=zk hM (show k<M.length by omega) hf;exact .inr (.inr (.inr ⟨by omega,by omega,by omega,by omega,by rw [Int.add_sub_cancel,Int.add_sub_cancel,n3 h.1.1 h.1.2];exact⟨h'.1,f,hf,i,hi,k,hk,O,O⟩⟩))
 have cs:∀a:Int,0≤a→a< ((aD M M.length+2:Nat):Int)→a=0∨a=(aD M M.length:Int)+1∨∃i:Nat,i<M.length∧∃f:Nat,f< (gl M 0).length∧a=bC M i f+1:=fun a h0 h9=>by
  by_cases e0:a=0
  ·exact .inl e0
  by_cases e9:a=(aD M M.length:Int)+1
  ·exact .inr (.inl e9)
  obtain⟨i,hi,f,hf,e⟩:=YA hM (e:=a - 1) (by omega) (by omega);exact .inr (.inr ⟨i,hi,f,hf,by omega⟩)
 have r0:gi (fo M.length (aO M M.length)) 0= -1:=O;have r9:gi (fo M.length (aO M M.length)) ((aD M M.length:Int)+1)=M.length:=by rw [←hl];exact BG _ _
 intro a b ha hb dO hr;rcases cs a ha.1 ha.2 with rfl | rfl | ⟨i,hi,f,hf,rfl⟩
 ·rw [r0]at hr⊢;rcases cs b hb.1 hb.2 with rfl | rfl | ⟨k,hk,g,hg,rfl⟩
  ·rw [r0]at hr;omega
  ·have hN:0< (gl M 0).length:=by have:=hM.2.1;omega
   exact⟨bC M 0 0+1,(el 0 0 (by omega) hN).1,.inr (.inl O),.inr (.inr (.inl O)),(el 0 0 (by omega) hN).2⟩
  rw [(el k g hk hg).2]at hr;exact⟨bC M 0 g+1,(el 0 g (by omega) hg).1,.inr (.inl O),gQ 0 k g (by omega) hk hg,(el 0 g (by omega) hg).2⟩
 ·rw [r9]at hr;rcases cs b hb.1 hb.2 with rfl | rfl | ⟨k,hk,g,hg,rfl⟩
  ·rw [r0]at hr;omega
  ·rw [r9]at hr;omega
  rw [(el k g hk hg).2]at hr;omega
 rw [(el i f hi hf).2]at hr⊢;rcases cs b hb.1 hb.2 with rfl | rfl | ⟨k,hk,g,hg,rfl⟩
 ·rw [r0]at hr;omega
 ·rw [r9]at hr;exact⟨bC M (i+1) f+1,(el (i+1) f (by omega) hf).1,gQ i (i+1) f (by omega) (by omega) hf,.inr (.inr (.inl O)),by rw [(el (i+1) f (by omega) hf).2];omega⟩
 rw [(el k g hk hg).2]at hr;have hA:=zk hM hi hf;have hB:=zk hM hk hg;have hm:bC M i f∈gl (bn M) (bC M k g):=by
  rcases dO with h | h | h | h
  ·have:bC M i f=bC M k g:=by omega
   have e:=hA.2;rw [this,hB.2]at e;omega
  ·omega
  ·omega
  have:=h.2.2.2.2;rwa [Int.add_sub_cancel,Int.add_sub_cancel]at this
 rw [n3 hB.1.1 hB.1.2]at hm;obtain⟨_,f',lJ,i',dT,k',fM,e1,e2⟩:=hm;have Gs:=zk hM (show k'<M.length by omega) lJ;have Zj:=zk hM dT lJ;have ei:i=k':=by have a:=hA.2;have b:=Gs.2;rw [e2]at a;omega
 have ek:k=i':=by have a:=hB.2;have b:=Zj.2;rw [e1]at a;omega
 subst ei;subst ek;rw [e1,e2];exact⟨bC M (i+1) f'+1,(el (i+1) f' (by omega) lJ).1,gQ i (i+1) f' (by omega) (by omega) lJ,gQ (i+1) k f' (by omega) hk lJ,by rw [(el (i+1) f' (by omega) lJ).2];omega⟩
section
variable{i:Nat}
variable {m1 m2 n1 n2:Nat} {rk1 rk2:Int→Int} {cI ck:Int→Int→Prop}
theorem Ow(h1:fk m1 n1 rk1 cI)(h2:fk m2 n2 rk2 ck){c:Int×Int}:F8 (jU m1 rk1) (jU m2 rk2) (i+1) c↔mI m1 m2 rk1 rk2 0 i c:=by
 constructor
 ·rintro⟨p,q,a,b,e⟩;have h3:=a.2;have h4:=b.2;exact⟨a.1,b.1,by show rk1 c.1+rk2 c.2+1=_;omega,fun h=>by rcases h with h | h<;>omega⟩
 rintro⟨a,b,e,_⟩;have e:rk1 c.1+rk2 c.2+1=i:=e;have:=h1.fT a;have:=h2.fT b;exact⟨(rk1 c.1+1).toNat,(rk2 c.2+1).toNat,⟨a,by omega⟩,⟨b,by omega⟩,by omega⟩
theorem Ov(h1:fk m1 n1 rk1 cI)(h2:fk m2 n2 rk2 ck){c:Int×Int}:uj (jU m1 rk1) (jU m2 rk2) (i+1) c↔mI m1 m2 rk1 rk2 1 i c:=by
 constructor
 ·rintro(⟨e,_⟩ | ⟨p,q,hp,hq,a,b,e⟩)
  ·omega
  have h3:=a.2;have h4:=b.2;refine⟨a.1,b.1,by show rk1 c.1+rk2 c.2+0=_;omega,fun h=>?_⟩;rcases h with⟨_,h | h⟩ | h
  ·rw [h,h1.r0]at h3;omega
  ·rw [h,h2.r0]at h4;omega
  omega
 rintro⟨a,b,e,hx⟩;have e:rk1 c.1+rk2 c.2+0=i:=e;have k1:=h1.fT a;have k2:=h2.fT b;have n1:rk1 c.1≠ -1:=fun h=>hx (.inl ⟨O,.inl (h1.zero a h)⟩)
 have n2:rk2 c.2≠ -1:=fun h=>hx (.inl ⟨O,.inr (h2.zero b h)⟩)
 exact .inr ⟨(rk1 c.1+1).toNat,(rk2 c.2+1).toNat,by omega,by omega,⟨a,by omega⟩,⟨b,by omega⟩,by omega⟩
def xZ(N1 N2:Nat){α β:Type}(di:Nat→α→Prop)(dk:Nat→β→Prop):Nat→α×β→Prop:=BE (N1+N2 - 1) (uj (BE N1 di) (BE N2 dk))
theorem Ox(h1:fk m1 n1 rk1 cI)(h2:fk m2 n2 rk2 ck)(hi:i<n1+n2){c:Int×Int}:xZ (n1+1) (n2+1) (jU m1 rk1) (jU m2 rk2) (i+1) c↔mI m1 m2 rk1 rk2 2 i c:=by
 constructor
 ·rintro⟨hN,⟨e,_⟩ | ⟨p,q,hp,hq,⟨tK,a⟩,⟨Es,b⟩,e⟩⟩
  ·omega
  have h3:=a.2;have h4:=b.2;refine⟨a.1,b.1,by show rk1 c.1+rk2 c.2+1=_;omega,fun h=>?_⟩;rcases h with h | ⟨_,h | h⟩
  ·omega
  ·rw [h,h1.rt]at h3;omega
  rw [h,h2.rt]at h4;omega
 rintro⟨a,b,e,hx⟩;have e:rk1 c.1+rk2 c.2+1=i:=e;have k1:=h1.fT a;have k2:=h2.fT b;have x1:rk1 c.1≠n1:=fun h=>hx (.inr ⟨O,.inl (h1.whole a h)⟩)
 have x2:rk2 c.2≠n2:=fun h=>hx (.inr ⟨O,.inr (h2.whole b h)⟩)
 refine⟨by omega,.inr ⟨n1+1 - (rk1 c.1+1).toNat,n2+1 - (rk2 c.2+1).toNat,by omega,by omega,⟨by omega,a,?_⟩,⟨by omega,b,?_⟩,by omega⟩⟩
 ·rw [show n1+1 - (n1+1 - (rk1 c.1+1).toNat)=(rk1 c.1+1).toNat by omega];omega
 rw [show n2+1 - (n2+1 - (rk2 c.2+1).toNat)=(rk2 c.2+1).toNat by omega];omega
variable [DecidableRel cI] [DecidableRel ck] {kind:Int}
theorem CS(h1:fk m1 n1 rk1 cI)(h2:fk m2 n2 rk2 ck){k:Nat}(hk:1≤k){el:Nat→Int×Int→Prop}{le:Int×Int→Int×Int→Prop}(g:gF (k+1) el le)(jJ:∀i:Nat,i<k→∀c:Int×Int,el (i+1) c↔mI m1 m2 rk1 rk2 kind i c)(hle:∀c d:Int×Int,le c d↔cI c.1 d.1∧ck c.2 d.2):
 mK k ((bT m1 m2 rk1 rk2 kind k).map (b8 rk1 rk2 kind)) (nI cI ck (bT m1 m2 rk1 rk2 kind k)) el le (gp (bT m1 m2 rk1 rk2 kind k)):=by
 have hl:((bT m1 m2 rk1 rk2 kind k).map (b8 rk1 rk2 kind)).length=(bT m1 m2 rk1 rk2 kind k).length:=by simp
 refine⟨hk,g,fun e he i hi hr=>?_,fun i a hi ha=>?_,fun d e hd he h=>?_,fun d e hd he hr=>?_⟩
 ·rw [hl]at he;obtain⟨j,hj,hE,hJ⟩:=vo he;have:i=j:=by omega
  subst this;exact(jJ i hi _).2 hE
 ·obtain⟨e,he,h⟩:=I2 hi ((jJ i hi a).1 ha);refine⟨e,by rw [hl];exact he,?_,h⟩;obtain⟨j,hj,hE,hJ⟩:=vo he;rw [hJ];rw [h]at hE;have h3:=((jJ i hi a).1 ha).2.2.1;have h4:=hE.2.2.1;omega
 ·rw [hl]at hd he;exact Gl hd he h
 rw [hl]at hd he;rw [vG he.1 he.2,uU h1 h2 he,hle];exact⟨fun h=>h.2.2,fun h=> ⟨hd,fun e=>by rw [e]at hr;omega,h⟩⟩
theorem ae9(h1:fk m1 n1 rk1 cI)(h2:fk m2 n2 rk2 ck)(b1:sY m1 rk1 cI)(b2:sY m2 rk2 ck)(s1:ml (jU m1 rk1) cI)(s2:ml (jU m2 rk2) ck)(mo:0≤kind∧kind≤2){k:Nat}(hk:(k:Int)=gv n1 n2 kind)(eh:1≤k):
 ∃(el:Nat→Int×Int→Prop) (le:Int×Int→Int×Int→Prop),mK k ((bT m1 m2 rk1 rk2 kind k).map (b8 rk1 rk2 kind)) (nI cI ck (bT m1 m2 rk1 rk2 kind k)) el le (gp (bT m1 m2 rk1 rk2 kind k))∧ml el le:=by
 have g1:=h1.BJ b1;have g2:=h2.BJ b2;rcases(show kind=0∨kind=1∨kind=2 by omega)with rfl | rfl | rfl
 ·have e:(k:Int)=n1+n2+1:=hk;have g:=Sp g1 g2;rw [show n1+1+ (n2+1)=k+1 by omega]at g;exact⟨_,_,CS h1 h2 eh g (fun i _ c=>Ow h1 h2) (fun c d=>Iff.rfl),acu g1 g2 s1 s2⟩
 ·have e:(k:Int)=n1+n2:=hk;have g:=FW g1 g2 (by omega) (by omega);rw [show n1+1+ (n2+1) - 1=k+1 by omega]at g;exact⟨_,_,CS h1 h2 eh g (fun i _ c=>Ov h1 h2) (fun c d=>Iff.rfl),N6 g1 g2 s1 s2⟩
 have e:(k:Int)=n1+n2:=hk;have g0:=FW g1.tj g2.tj (by omega) (by omega);have g:=g0.tj;have c0:=(N6 g1.tj g2.tj (s1.tj g1) (s2.tj g2)).tj g0;have hg:gF (k+1) (xZ (n1+1) (n2+1) (jU m1 rk1) (jU m2 rk2)) (CD (nE (CD cI) (CD ck))):=by
  have:=g;rw [show n1+1+ (n2+1) - 1=k+1 by omega]at this;unfold xZ;rw [show n1+1+ (n2+1) - 1=k+1 by omega];exact this
 exact⟨_,_,CS h1 h2 eh hg (fun i hi c=>Ox h1 h2 (by omega)) (fun c d=>Iff.rfl),c0⟩
theorem TO(h1:fk m1 n1 rk1 cI)(h2:fk m2 n2 rk2 ck)(b1:sY m1 rk1 cI)(b2:sY m2 rk2 ck)(s1:ml (jU m1 rk1) cI)(s2:ml (jU m2 rk2) ck)(d1:va m1 rk1 cI)(d2:va m2 rk2 ck)(c1:AX m1 n1 rk1 cI)(c2:AX m2 n2 rk2 ck)(mo:0≤kind∧kind≤2){k:Nat}(hk:(k:Int)=gv n1 n2 kind)(gk:2≤k)(yn:1≤(n1:Int)∧(1≤(n2:Int)∨kind=0)):xN k ((bT m1 m2 rk1 rk2 kind k).map (b8 rk1 rk2 kind)) (nI cI ck (bT m1 m2 rk1 rk2 kind k)):=by
 obtain⟨el,le,hr,hs⟩:=ae9 h1 h2 b1 b2 s1 s2 mo hk (by omega);refine⟨Mj h1 h2 c1 c2 mo hk (by omega) yn,hr.pure fun e h0 h9=>?_,Mi h1 h2 d1 d2 mo hk gk yn,hr.IV (Xu hr.g hs)⟩;rw [fN]at h9;obtain⟨i,hi,_,e⟩:=vo ⟨h0,h9⟩;rw [e];omega
end
def iX:Nat→Nat→Nat
 | 0,_=>1
 | _+1,0=>1
 | r+1,s+1=>iX r (s+1)+iX (r+1) s
theorem Bn(s:Nat):iX 0 s=1:=by rw [iX]
theorem FL(r:Nat):iX r 0=1:=by cases r<;>rw [iX]
theorem IE(r s:Nat):iX (r+1) (s+1)=iX r (s+1)+iX (r+1) s:=by rw [iX]
section
variable{R:List Int}
variable {α:Type}
def cU(U:α→List α):Nat→α→Nat
 | 0,_=>1
 | r+1,a=> ((U a).map (cU U r)).sum
structure mg(el:Nat→α→Prop)(le:α→α→Prop)(U:α→List α):Prop where
 nd:∀ {p:Nat} {a:α},el p a→(U a).Nodup
 mem:∀ {p:Nat} {a b:α},el p a→(b∈U a↔el (p+1) b∧le a b)
theorem Fh{l m:List Nat}(h:l.Perm m):l.sum=m.sum:=by
 induction h with
 | nil=>rfl
 | cons x _ ih=>simp [ih]
 | swap x y l=>simp [Nat.add_left_comm]
 | trans _ _ h1 h2=>exact h1.trans h2
theorem EX{l m:List α}(hl:l.Nodup)(hm:m.Nodup)(h:∀x,x∈l↔x∈m):l.Perm m:=(s9 hl hm).2 h
theorem CZ{l:List α}{f g:α→Nat}(h:∀x∈l,f x=g x):(l.map f).sum=(l.map g).sum:=by rw [mJ h]
theorem MG(l:List α)(f:α→Nat)(k:Nat):(l.map fun x=>f x*k).sum=(l.map f).sum*k:=by
 induction l with
 | nil=>simp
 | cons x l ih=>simp only [List.map_cons,List.sum_cons,ih,Nat.add_mul]
theorem z7{β:Type}{l:List α}{f:α→β}(hn:l.Nodup)(h:∀x∈l,∀y∈l,f x=f y→x=y):(l.map f).Nodup:=by
 induction l with
 | nil=>simp
 | cons x l ih=>
  rw [pg]at hn;rw [List.map_cons,pg];refine⟨fun hm=>?_,ih hn.2 fun a ha b hb=>h a (oK _ ha) b (oK _ hb)⟩;obtain⟨y,hy,e⟩:=dh.1 hm;have:=h y (oK _ hy) x (List.mem_cons_self ..) e;subst this;exact hn.1 hy
theorem mK.ext{n:Nat}{B:aiB}{el:Nat→α→Prop}{le:α→α→Prop}{φ:Int→α}(h:mK n R B el le φ){U:α→List α}(hU:mg el le U):
 ∀(r:Nat) (e:Int) (i:Nat),0≤e∧e<R.length→gi R e=i→i+r<n→(nr R B r e).length=cU U r (φ e):=by
 intro r
 induction r with
 | zero=>intro e i _ _ _;rfl
 | succ r ih=>
  intro e i he hr hi;have jJ:=h.zZ e he i (by omega) hr;have hp:((kC R B e).map φ).Perm (U (φ e)):=by
   refine EX (z7 (C0 R B e).nodup fun x hx y hy=>h.inj x y (mF.1 hx).1 (mF.1 hy).1) (hU.nd jJ) fun b=>?_
   rw [dh,hU.mem jJ];constructor
   ·rintro⟨f,hf,rfl⟩;have hf:=mF.1 hf;refine⟨h.zZ f hf.1 (i+1) (by omega) (by omega),(h.inc e f he hf.1 hf.2.1).1 hf.2.2⟩
   ·rintro⟨h1,h2⟩;obtain⟨f,hf,k1,k2⟩:=h.Fi (i+1) b (by omega) h1;subst k2;exact⟨f,mF.2 ⟨hf,by omega,(h.inc e f he hf (by omega)).2 h2⟩,O⟩
  show((kC R B e).flatMap fun f=> (nr R B r f).map (f:: ·)).length=((U (φ e)).map (cU U r)).sum;rw [List.length_flatMap,←Fh (hp.map (cU U r)),List.map_map];refine CZ fun f hf=>?_
  have hf:=mF.1 hf;rw [fN,ih f (i+1) hf.1 (by omega) (by omega)]
  rfl
theorem mK.flags{n:Nat}{B:aiB}{el:Nat→α→Prop}{le:α→α→Prop}{φ:Int→α}(h:mK n R B el le φ){U:α→List α}(hU:mg el le U){o:α}(ho:el 0 o)(ik:∀(i:Nat) (a:α),el i a→le o a):(au n R B).length=cU U n o:=by
 have hn:=h.n1;obtain⟨k,rfl⟩:∃k,n=k+1:=⟨n - 1,by omega⟩;have hp:((ue R).map φ).Perm (U o):=by
  refine EX (z7 ((mb _).nodup.filter _) fun x hx y hy=>h.inj x y (tf.1 hx).1 (tf.1 hy).1) (hU.nd ho) fun b=>?_
  rw [dh,hU.mem ho];constructor
  ·rintro⟨f,hf,rfl⟩;have hf:=tf.1 hf;have:=h.zZ f hf.1 0 (by omega) (by omega);exact⟨this,ik _ _ this⟩
  rintro⟨h1,h2⟩;obtain⟨f,hf,k1,k2⟩:=h.Fi 0 b (by omega) h1;exact⟨f,tf.2 ⟨hf,by omega⟩,k2⟩
 show((ue R).flatMap fun e=> (nr R B (k+1 - 1) e).map (e:: ·)).length=((U o).map (cU U k)).sum;rw [List.length_flatMap,←Fh (hp.map (cU U k)),List.map_map];refine CZ fun f hf=>?_
 have hf:=tf.1 hf;rw [fN,h.ext hU _ f 0 hf.1 (by omega) (by omega)]
 rfl
open Classical in
theorem mK.en{n:Nat}{B:aiB}{el:Nat→α→Prop}{le:α→α→Prop}{φ:Int→α}(h:mK n R B el le φ)(hr:∀e:Int,0≤e→e<R.length→gi R e<n):∃U,mg el le U:=by
 obtain⟨t,ht,pW⟩:=h.g.top;have hL:∀(a:α) (e:Int),e∈(bw R.length).filter (fun e=>decide (∃p:Nat,el p a∧gi R e=(p:Int)∧le a (φ e)))↔(0≤e∧e<R.length)∧∃p:Nat,el p a∧gi R e=(p:Int)∧le a (φ e):=fun a e=>by
  rw [fA,im,jT]
 refine⟨fun a=> ((bw R.length).filter (fun e=>decide (∃p:Nat,el p a∧gi R e=(p:Int)∧le a (φ e)))).map φ++ (if el n a then [t]else []),fun {p a} ha=>?_,fun {p a b} ha=>?_⟩
 ·rw [List.nodup_append];refine⟨z7 ((mb _).nodup.filter _) fun x hx y hy=>h.inj x y ((hL a x).1 hx).1 ((hL a y).1 hy).1,by split<;>simp,fun x hx y hy=>?_⟩
  split at hy
  ·rename_i hn;obtain⟨e,he,rfl⟩:=dh.1 hx;obtain⟨he,q,hq,RH,_⟩:=(hL a e).1 he;have:=h.g.one hq hn;have:=hr e he.1 he.2;omega
  cases hy
 rw [iG,dh];constructor
 ·rintro(⟨e,he,rfl⟩ | hb)
  ·obtain⟨he,q,hq,RH,hle⟩:=(hL a e).1 he;have e2:=h.g.one hq ha;have:=hr e he.1 he.2;exact⟨e2▸h.zZ e he q (by omega) RH,hle⟩
  split at hb
  ·rename_i hn;have e2:=h.g.one hn ha;have:b=t:=by simpa using hb
   subst this;exact⟨e2▸ht,(pW _ _ ha).1⟩
  cases hb
 rintro⟨hb,hle⟩
 by_cases hp:p<n
 ·obtain⟨e,he,k1,k2⟩:=h.Fi p b hp hb;exact .inl ⟨e,(hL a e).2 ⟨he,p,ha,k1,by rw [k2];exact hle⟩,k2⟩
 have zz:=h.g.nU hb;obtain rfl:p=n:=by omega
 refine .inr ?_;rw [aj ha,(pW _ _ hb).2 rfl];exact eT.2 O
theorem Bq{N:Nat}{el:Nat→α→Prop}{le:α→α→Prop}(g:gF (N+1) el le){U:α→List α}(hU:mg el le U):∀(r p:Nat) (a:α),el p a→p+r=N→cU U (r+1) a=cU U r a:=by
 intro r
 induction r with
 | zero=>
  intro p a ha hp;obtain⟨t,ht,pW⟩:=g.top;obtain rfl:p=N:=by omega
  have:(U a).Perm [t]:=EX (hU.nd ha) (by simp) fun b=>by
   rw [hU.mem ha,eT];exact⟨fun h=> (pW _ _ h.1).2 rfl,fun h=>by subst h;exact⟨ht,(pW _ _ ha).1⟩⟩
  show((U a).map (cU U 0)).sum=1;rw [Fh (this.map _)];rfl
 | succ r ih=>
  intro p a ha hp;show((U a).map (cU U (r+1))).sum=((U a).map (cU U r)).sum;exact CZ fun b hb=>ih (p+1) b ((hU.mem ha).1 hb).1 (by omega)
end
section
variable {α β:Type} {N1 N2:Nat} {di:Nat→α→Prop} {dY:α→α→Prop} {dk:Nat→β→Prop} {dZ:β→β→Prop} {U1:α→List α} {U2:β→List β} {U:α×β→List (α×β)}
theorem IL(h1:mg di dY U1)(h2:mg dk dZ U2){K1 K2 s:Nat}
 (hU:∀(p q r1 r2:Nat) (a:α) (b:β),s≤p→s≤q→di p a→dk q b→p+r1=K1→q+r2=K2→1≤r1+r2→(U (a,b)).Perm ((if r1=0 then []else(U1 a).map fun x=> (x,b))++ (if r2=0 then []else(U2 b).map fun y=> (a,y)))):
 ∀(d r1 r2 p q:Nat) (a:α) (b:β),r1+r2=d→s≤p→s≤q→di p a→dk q b→p+r1=K1→q+r2=K2→cU U d (a,b)=cU U1 r1 a*cU U2 r2 b*iX r1 r2:=by
 intro d
 induction d with
 | zero=>
  intro r1 r2 p q a b hd _ _ _ _ _ _;obtain rfl:r1=0:=by omega
  obtain rfl:r2=0:=by omega
  rw [Bn];rfl
 | succ d ih=>
  intro r1 r2 p q a b hd hp hq ha hb e1 e2;show((U (a,b)).map (cU U d)).sum=_;rw [Fh ((hU p q r1 r2 a b hp hq ha hb e1 e2 (by omega)).map (cU U d)),iQ,List.sum_append];have k1:∀r,r1=r+1→(((U1 a).map fun x=> (x,b)).map (cU U d)).sum=cU U1 r1 a*cU U2 r2 b*iX r r2:=fun r hr=>by
   subst hr;rw [List.map_map];have:((U1 a).map (cU U d∘fun x=> (x,b))).sum=((U1 a).map fun x=>cU U1 r x* (cU U2 r2 b*iX r r2)).sum:=CZ fun x hx=>by
    show cU U d (x,b)=_;rw [ih r r2 (p+1) q x b (by omega) (by omega) hq ((h1.mem ha).1 hx).1 hb (by omega) e2,Nat.mul_assoc]
   rw [this,MG,←Nat.mul_assoc];rfl
  have k2:∀r,r2=r+1→(((U2 b).map fun y=> (a,y)).map (cU U d)).sum=cU U1 r1 a*cU U2 r2 b*iX r1 r:=fun r hr=>by
   subst hr;rw [List.map_map];have:((U2 b).map (cU U d∘fun y=> (a,y))).sum=((U2 b).map fun y=>cU U2 r y* (cU U1 r1 a*iX r1 r)).sum:=CZ fun y hy=>by
    show cU U d (a,y)=_;rw [ih r1 r p (q+1) a y (by omega) hp (by omega) ha ((h2.mem hb).1 hy).1 e1 (by omega),Nat.mul_assoc,Nat.mul_left_comm]
   rw [this,MG];show cU U2 (r+1) b* (cU U1 r1 a*iX r1 r)=_;rw [Nat.mul_left_comm,←Nat.mul_assoc]
  cases r1 with
  | zero=>
   cases r2 with
   | zero=>omega
   | succ r2=>
    rw [aj rfl,ag (by omega),k2 r2 rfl,Bn,Bn];simp
  | succ r1=>
   cases r2 with
   | zero=>rw [ag (by omega),aj rfl,k1 r1 rfl,FL,FL];simp
   | succ r2=>
    rw [ag (by omega),ag (by omega),k1 r1 rfl,k2 r2 rfl,←Nat.mul_add,IE]
theorem stepG(g1:gF N1 di dY)(g2:gF N2 dk dZ)(h1:mg di dY U1)(h2:mg dk dZ U2){el:Nat→α×β→Prop}(hU:mg el (nE dY dZ) U){K1 K2 m p q r1 r2:Nat}{a:α}{b:β}(hm:el m (a,b))(ha:di p a)(hb:dk q b)(jJ:∀c:α×β,nE dY dZ (a,b) c→(el (m+1) c↔∃i j,i≤K1∧j≤K2∧di i c.1∧dk j c.2∧i+j=p+q+1))(e1:p+r1=K1)(e2:q+r2=K2):(U (a,b)).Perm ((if r1=0 then []else(U1 a).map fun x=> (x,b))++ (if r2=0 then []else(U2 b).map fun y=> (a,y))):=by
 have m1:∀c:α×β,(c∈if r1=0 then([]:List (α×β))else(U1 a).map fun x=> (x,b))↔r1≠0∧(di (p+1) c.1∧dY a c.1)∧c.2=b:=fun c=>by
  split
  ·simp_all
  rw [dh];constructor
  ·rintro⟨x,hx,rfl⟩;exact⟨by assumption,(h1.mem ha).1 hx,rfl⟩
  rintro⟨_,hx,e⟩;exact⟨c.1,(h1.mem ha).2 hx,by rw [←e]⟩
 have m2:∀c:α×β,(c∈if r2=0 then([]:List (α×β))else(U2 b).map fun y=> (a,y))↔r2≠0∧(dk (q+1) c.2∧dZ b c.2)∧c.1=a:=fun c=>by
  split
  ·simp_all
  rw [dh];constructor
  ·rintro⟨x,hx,rfl⟩;exact⟨by assumption,(h2.mem hb).1 hx,rfl⟩
  rintro⟨_,hx,e⟩;exact⟨c.2,(h2.mem hb).2 hx,by rw [←e]⟩
 refine EX (hU.nd hm) ?_ fun c=>?_
 ·rw [List.nodup_append];refine⟨?_,?_,fun x hx y hy e=>?_⟩
  ·split
   ·simp
   exact z7 (h1.nd ha) fun x _ y _ e=> (Prod.mk.inj e).1
  ·split
   ·simp
   exact z7 (h2.nd hb) fun x _ y _ e=> (Prod.mk.inj e).2
  subst e;have hx:=(m1 x).1 hx;have hy:=(m2 x).1 hy;have:=hx.2.1.1;rw [hy.2.2]at this;have:=g1.one this ha;omega
 rw [hU.mem hm,iG,m1,m2];constructor
 ·rintro⟨hc,hle⟩;obtain⟨i,j,hi,hj,k1,k2,k3⟩:=(jJ c hle).1 hc;have l1:=g1.lv ha k1 hle.1;have l2:=g2.lv hb k2 hle.2
  by_cases e:i=p
  ·subst e;obtain rfl:j=q+1:=by omega
   exact .inr ⟨by omega,⟨k2,hle.2⟩,(l1.2 O).symm⟩
  obtain rfl:i=p+1:=by omega
  obtain rfl:j=q:=by omega
  exact .inl ⟨by omega,⟨k1,hle.1⟩,(l2.2 O).symm⟩
 rintro(⟨k0,⟨k1,k2⟩,k3⟩ | ⟨k0,⟨k1,k2⟩,k3⟩)
 ·have hle:nE dY dZ (a,b) c:=⟨k2,by rw [k3];exact g2.rf _⟩;exact⟨(jJ c hle).2 ⟨p+1,q,by omega,by omega,k1,by rw [k3];exact hb,by omega⟩,hle⟩
 have hle:nE dY dZ (a,b) c:=⟨by rw [k3];exact g1.rf _,k2⟩;exact⟨(jJ c hle).2 ⟨p,q+1,by omega,by omega,by rw [k3];exact ha,k1,by omega⟩,hle⟩
end
section
variable {α β:Type} {n1 n2:Nat} {di:Nat→α→Prop} {dY:α→α→Prop} {dk:Nat→β→Prop} {dZ:β→β→Prop} {U1:α→List α} {U2:β→List β} {U:α×β→List (α×β)}
theorem I1{p:Nat}(hp:p≤n1+n2){c:α×β}:xZ (n1+1) (n2+1) di dk p c↔∃i j,i≤n1∧j≤n2∧di i c.1∧dk j c.2∧i+j=p:=by
 constructor
 ·rintro⟨hN,⟨e,_⟩ | ⟨i,j,hi,hj,⟨dT,a⟩,⟨kF,b⟩,e⟩⟩
  ·omega
  exact⟨n1+1 - i,n2+1 - j,by omega,by omega,a,b,by omega⟩
 rintro⟨i,j,hi,hj,a,b,e⟩;exact⟨by omega,.inr ⟨n1+1 - i,n2+1 - j,by omega,by omega,⟨by omega,by rw [show n1+1 - (n1+1 - i)=i by omega];exact a⟩,⟨by omega,by rw [show n2+1 - (n2+1 - j)=j by omega];exact b⟩,by omega⟩⟩
theorem Xm(g1:gF (n1+1) di dY)(g2:gF (n2+1) dk dZ)(h1:mg di dY U1)(h2:mg dk dZ U2)(hU:mg (F8 di dk) (nE dY dZ) U){o1:α}{o2:β}(k1:di 0 o1)(k2:dk 0 o2):
 cU U (n1+1+ (n2+1)) (o1,o2)=cU U1 n1 o1*cU U2 n2 o2*iX (n1+1) (n2+1):=by
 rw [IL h1 h2 (K1:=n1+1) (K2:=n2+1) (s:=0) (fun p q r1 r2 a b _ _ ha hb e1 e2 _=>stepG g1 g2 h1 h2 hU (m:=p+q) ⟨p,q,ha,hb,rfl⟩ ha hb (fun c _=>?_) e1 e2) _ (n1+1) (n2+1) 0 0 o1 o2 rfl (aW _) (aW _) k1 k2 (by omega) (by omega),Bq g1 h1 n1 0 o1 k1 (by omega),Bq g2 h2 n2 0 o2 k2 (by omega)];constructor
 ·rintro⟨i,j,a,b,e⟩;exact⟨i,j,g1.nU a,g2.nU b,a,b,e.symm⟩
 rintro⟨i,j,_,_,a,b,e⟩;exact⟨i,j,a,b,e.symm⟩
theorem Xi(g1:gF (n1+1) di dY)(g2:gF (n2+1) dk dZ)(h1:mg di dY U1)(h2:mg dk dZ U2)(hU:mg (uj di dk) (nE dY dZ) U){o1:α}{o2:β}(k1:di 0 o1)(k2:dk 0 o2)(b1:∀(i:Nat) (a:α),di i a→dY o1 a)(b2:∀(i:Nat) (a:β),dk i a→dZ o2 a):
 cU U (n1+n2+1) (o1,o2)=cU U1 n1 o1*cU U2 n2 o2*iX n1 n2:=by
 have h0:uj di dk 0 (o1,o2):= .inl ⟨O,k1,k2⟩;have hp:(U (o1,o2)).Perm ((U1 o1).flatMap fun v=> (U2 o2).map fun w=> (v,w)):=by
  refine EX (hU.nd h0) ?_ fun c=>?_
  ·have:∀l:List α,l.Nodup→(l.flatMap fun v=> (U2 o2).map fun w=> (v,w)).Nodup:=fun l=>by
    induction l with
    | nil=>intro _;simp
    | cons x l ih=>
     intro hn;rw [pg]at hn;rw [List.flatMap_cons,List.nodup_append];refine⟨z7 (h2.nd k2) fun x _ y _ e=> (Prod.mk.inj e).2,ih hn.2,fun a ha b hb e=>?_⟩;subst e;obtain⟨w,_,rfl⟩:=dh.1 ha;obtain⟨v,hv,hb⟩:=List.mem_flatMap.1 hb;obtain⟨w',_,e⟩:=dh.1 hb;have:=(Prod.mk.inj e).1;subst this;exact hn.1 hv
   exact this _ (h1.nd k1)
  ·rw [hU.mem h0,List.mem_flatMap];constructor
   ·rintro⟨⟨e,_⟩ | ⟨i,j,hi,hj,a,b,e⟩,hle⟩
    ·omega
    ·obtain rfl:i=1:=by omega
     obtain rfl:j=1:=by omega
     exact⟨c.1,(h1.mem k1).2 ⟨a,hle.1⟩,dh.2 ⟨c.2,(h2.mem k2).2 ⟨b,hle.2⟩,O⟩⟩
   ·rintro⟨v,hv,hvw⟩;obtain⟨w,Hp,rfl⟩:=dh.1 hvw;have hv:=(h1.mem k1).1 hv;have hw:=(h2.mem k2).1 Hp;exact⟨.inr ⟨1,1,by omega,by omega,hv.1,hw.1,O⟩,⟨hv.2,hw.2⟩⟩
 have key:∀v∈U1 o1,∀w∈U2 o2,cU U (n1+n2) (v,w)=cU U1 n1 v*cU U2 n2 w*iX n1 n2:=fun v hv w hw=>by
  have hv:=((h1.mem k1).1 hv).1;have hw:=((h2.mem k2).1 hw).1;refine IL h1 h2 (K1:=n1+1) (K2:=n2+1) (s:=1) (fun p q r1 r2 a b hp hq ha hb e1 e2 _=>stepG g1 g2 h1 h2 hU (m:=p+q - 1) (.inr ⟨p,q,hp,hq,ha,hb,by omega⟩) ha hb (fun c hc=>?_) e1 e2) _ n1 n2 1 1 v w O (a8 _) (a8 _) hv hw (by omega) (by omega);constructor
  ·rintro(⟨e,_⟩ | ⟨i,j,hi,hj,a,b,e⟩)
   ·omega
   ·exact⟨i,j,g1.nU a,g2.nU b,a,b,by omega⟩
  ·rintro⟨i,j,_,_,a,b,e⟩;have:=(g1.lv ha a hc.1).1;have:=(g2.lv hb b hc.2).1;exact .inr ⟨i,j,by omega,by omega,a,b,by omega⟩
 show((U (o1,o2)).map (cU U (n1+n2))).sum=_;rw [Fh (hp.map _),List.map_flatMap];have fl:∀l:List α,(∀v∈l,v∈U1 o1)→(l.flatMap fun v=> ((U2 o2).map fun w=> (v,w)).map (cU U (n1+n2))).sum=(l.map (cU U1 n1)).sum*cU U2 (n2+1) o2*iX n1 n2:=fun l=>by
  induction l with
  | nil=>intro _;simp
  | cons v l ih=>
   intro hl;rw [List.flatMap_cons,List.sum_append,ih fun x hx=>hl x (oK _ hx),List.map_map,List.map_cons,List.sum_cons];have:((U2 o2).map (cU U (n1+n2)∘fun w=> (v,w))).sum=((U2 o2).map fun w=>cU U2 n2 w* (cU U1 n1 v*iX n1 n2)).sum:=CZ fun w hw=>by
    show cU U (n1+n2) (v,w)=_;rw [key v (hl v (List.mem_cons_self ..)) w hw,Nat.mul_comm (cU U1 n1 v),Nat.mul_assoc]
   rw [this,MG];show cU U2 (n2+1) o2*_+_=_;rw [Nat.add_mul,Nat.add_mul,Nat.mul_comm (cU U1 n1 v) (cU U2 (n2+1) o2),Nat.mul_assoc (cU U2 (n2+1) o2)]
 rw [fl _ fun v h=>h];show cU U1 (n1+1) o1*cU U2 (n2+1) o2*iX n1 n2=_;rw [Bq g1 h1 n1 0 o1 k1 (by omega),Bq g2 h2 n2 0 o2 k2 (by omega)]
theorem Xn(g1:gF (n1+1) di dY)(g2:gF (n2+1) dk dZ)(h1:mg di dY U1)(h2:mg dk dZ U2)(hU:mg (xZ (n1+1) (n2+1) di dk) (nE dY dZ) U){o1:α}{o2:β}(k1:di 0 o1)(k2:dk 0 o2):
 cU U (n1+n2) (o1,o2)=cU U1 n1 o1*cU U2 n2 o2*iX n1 n2:=by
 refine IL h1 h2 (K1:=n1) (K2:=n2) (s:=0) (fun p q r1 r2 a b _ _ ha hb e1 e2 _=>stepG g1 g2 h1 h2 hU (m:=p+q) ((I1 (by omega)).2 ⟨p,q,by omega,by omega,ha,hb,O⟩) ha hb (fun c _=>?_) e1 e2) _ n1 n2 0 0 o1 o2 O (aW _) (aW _) k1 k2 (by omega) (by omega);exact I1 (by omega)
end
section
variable {m1 m2 n1 n2:Nat} {rk1 rk2:Int→Int} {cI ck:Int→Int→Prop} [DecidableRel cI] [DecidableRel ck] {kind:Int} {U1 U2:Int→List Int}
theorem TN(h1:fk m1 n1 rk1 cI)(h2:fk m2 n2 rk2 ck)(b1:sY m1 rk1 cI)(b2:sY m2 rk2 ck)(e1:mg (jU m1 rk1) cI U1)(e2:mg (jU m2 rk2) ck U2)(mo:0≤kind∧kind≤2){k:Nat}(hk:(k:Int)=gv n1 n2 kind)(eh:1≤k):(au k ((bT m1 m2 rk1 rk2 kind k).map (b8 rk1 rk2 kind)) (nI cI ck (bT m1 m2 rk1 rk2 kind k))).length=cU U1 n1 0*cU U2 n2 0* (if kind=0 then iX (n1+1) (n2+1)else iX n1 n2):=by
 have g1:=h1.BJ b1;have g2:=h2.BJ b2;have o1:jU m1 rk1 0 0:=⟨⟨by omega,by have:=h1.two;omega⟩,by rw [h1.r0];rfl⟩;have o2:jU m2 rk2 0 0:=⟨⟨by omega,by have:=h2.two;omega⟩,by rw [h2.r0];rfl⟩;have hr:∀e:Int,0≤e→e< ((bT m1 m2 rk1 rk2 kind k).map (b8 rk1 rk2 kind)).length→gi ((bT m1 m2 rk1 rk2 kind k).map (b8 rk1 rk2 kind)) e<k:=fun e h0 h9=>by
  rw [fN]at h9;obtain⟨i,hi,_,e⟩:=vo ⟨h0,h9⟩;rw [e];omega
 rcases(show kind=0∨kind=1∨kind=2 by omega)with rfl | rfl | rfl
 ·have e:(k:Int)=n1+n2+1:=hk;have g:=Sp g1 g2;have g':=g;rw [show n1+1+ (n2+1)=k+1 by omega]at g';have rp:=CS (kind:=0) h1 h2 eh g' (fun i _ c=>Ow h1 h2) (fun c d=>Iff.rfl);obtain⟨U,hU⟩:=rp.en hr;rw [rp.flags hU (o:=(0,0)) ⟨0,0,o1,o2,rfl⟩ fun i a _=> ⟨h1.bot _,h2.bot _⟩,←Bq g' hU k 0 (0,0) ⟨0,0,o1,o2,rfl⟩ (by omega),aj rfl,←Xm g1 g2 e1 e2 hU o1 o2,show n1+1+ (n2+1)=k+1 by omega]
 ·have e:(k:Int)=n1+n2:=hk;have g:=FW g1 g2 (by omega) (by omega);have g':=g;rw [show n1+1+ (n2+1) - 1=k+1 by omega]at g';have rp:=CS (kind:=1) h1 h2 eh g' (fun i _ c=>Ov h1 h2) (fun c d=>Iff.rfl);obtain⟨U,hU⟩:=rp.en hr;have ho:uj (jU m1 rk1) (jU m2 rk2) 0 (0,0):= .inl ⟨O,o1,o2⟩;rw [rp.flags hU (o:=(0,0)) ho fun i a _=> ⟨h1.bot _,h2.bot _⟩,←Bq g' hU k 0 (0,0) ho (by omega),ag (by omega),←Xi g1 g2 e1 e2 hU o1 o2 (fun _ a _=>h1.bot a) (fun _ a _=>h2.bot a),show n1+n2+1=k+1 by omega]
 have e:(k:Int)=n1+n2:=hk;have g:=(FW g1.tj g2.tj (by omega) (by omega)).tj;have hg:gF (k+1) (xZ (n1+1) (n2+1) (jU m1 rk1) (jU m2 rk2)) (nE cI ck):=by
  have:=g;rw [show n1+1+ (n2+1) - 1=k+1 by omega]at this;unfold xZ;rw [show n1+1+ (n2+1) - 1=k+1 by omega];exact this
 have rp:=CS (kind:=2) h1 h2 eh hg (fun i hi c=>Ox h1 h2 (by omega)) (fun c d=>Iff.rfl);obtain⟨U,hU⟩:=rp.en hr;have ho:xZ (n1+1) (n2+1) (jU m1 rk1) (jU m2 rk2) 0 (0,0):=(I1 (by omega)).2 ⟨0,0,by omega,by omega,o1,o2,O⟩;rw [rp.flags hU (o:=(0,0)) ho fun i a _=> ⟨h1.bot _,h2.bot _⟩,ag (by omega),←Xn g1 g2 e1 e2 hU o1 o2,show n1+n2=k by omega]
end
theorem Gk{M:aiB}(h:iz M=0):sY (aD M M.length+2) (pZ M) (AK M)∧ml (jU (aD M M.length+2) (pZ M)) (AK M)∧∃U,mg (jU (aD M M.length+2) (pZ M)) (AK M) U∧cU U M.length 0=(gl M 0).length:=by
 obtain⟨hM,hG⟩:=jW h;have hP:=mE hM hG.1;have hb:=Yz hM;have rp:=T5 hP hb;have hs:=afX hP hb hG.2.2.2.2.2;obtain⟨U,hU⟩:=rp.en fun e h0 h1=>by have:=(hP.ri h0 h1).2;omega
 have hl:=EP hP;have hf:=rp.flags hU (o:=0) ⟨⟨by omega,by omega⟩,by rw [hl.r0];rfl⟩ fun i a _=>hl.bot a
 have e:(jr M).length=(gl M 0).length:=hG.2.1;unfold jr at e;rw [e]at hf;rw [iR]at hb hs hU;exact⟨hb,hs,U,hU,hf.symm⟩
def tk(M K:aiB)(kind:Int):Nat:=(gl M 0).length* (gl K 0).length* (if kind=0 then iX (M.length+1) (K.length+1)else iX M.length K.length)
theorem HG{M K:aiB}{kind:Int}(h:iE M K kind=0):xN (cn M K kind) (dV M K kind) (mW M K kind)∧(au (cn M K kind) (dV M K kind) (mW M K kind)).length=tk M K kind:=by
 obtain⟨hp,h5,wk⟩:=CO h;obtain⟨mo,ow,ov⟩:=yN hp;obtain⟨fU,ib⟩:=jW ow;obtain⟨jI,mO⟩:=jW ov;have l1:=rC fU ib.1;have l2:=rC jI mO.1;have d1:=BA (mE fU ib.1) ib.2.2.2.2.1;have d2:=BA (mE jI mO.1) mO.2.2.2.2.1;have c1:=Bs (mE fU ib.1) ib.2.2.1;have c2:=Bs (mE jI mO.1) mO.2.2.1;rw [iR]at d1 d2 c1 c2;have hk:=EW (kind:=kind) fU jI;have m1:=fU.1;have k1:=jI.1;have iD:2≤gv M.length K.length kind:=by unfold gv;split<;>omega
 obtain⟨b1,s1,U1,e1,f1⟩:=Gk ow;obtain⟨b2,s2,U2,e2,f2⟩:=Gk ov;refine⟨TO l1 l2 b1 b2 s1 s2 d1 d2 c1 c2 mo hk (by omega) ⟨by omega,.inl (by omega)⟩,?_⟩;have:=TN l1 l2 b1 b2 e1 e2 mo hk (by omega);rw [f1,f2]at this;exact this
theorem TE{M K:aiB}{kind:Int}(h:iE M K kind=0)(hf:tk M K kind≤400):eU (cn M K kind) (dV M K kind) (mW M K kind):=by
 have hq:=HG h;exact⟨(Mf h).1,hq.1,(CO h).2.1,by rw [hq.2];exact hf⟩
theorem aeV{M K:aiB}{kind:Int}(h:iE M K kind=0)(hf:tk M K kind≤400):iz (o8 M K kind)=0∧(o8 M K kind).length=cn M K kind∧(gl (o8 M K kind) 0).length=tk M K kind∧aD (o8 M K kind) (o8 M K kind).length=(dV M K kind).length:=by
 have hY:=TE h hf;have hq:=HG h;have e:o8 M K kind=bO (cn M K kind) (au (cn M K kind) (dV M K kind) (mW M K kind)):=by
  unfold o8;rw [if_pos h];exact(CI (by rw [hq.2];exact hf)).2.2
 rw [e];refine⟨hY.gd,hY.len,by rw [hY.nl,hq.2],by rw [hY.len,hY.To]⟩
theorem ae4{m1 m2:Nat}{rk1 rk2:Int→Int}{kind:Int}(k:Nat):(bT m1 m2 rk1 rk2 kind k).length≤m1*m2:=by
 have hm:∀c∈bT m1 m2 rk1 rk2 kind k,(0≤c.1∧c.1< (m1:Int))∧(0≤c.2∧c.2< (m2:Int)):=fun c hc=>by
  obtain⟨i,_,h1,h2,_⟩:=rK.1 hc;exact⟨h1,h2⟩
 have hn:=E2 (m1:=m1) (m2:=m2) (rk1:=rk1) (rk2:=rk2) (kind:=kind) k;generalize bT m1 m2 rk1 rk2 kind k=L at hm hn;have h1:(L.map fun c=>c.1* (m2:Int)+c.2).Nodup:=z7 hn fun x hx y hy e=>by
  have hx:=hm x hx;have hy:=hm y hy;have e:x.1* (m2:Int)+x.2=y.1* (m2:Int)+y.2:=e;have e3:x.1=y.1:=by
   have a:(x.1* (m2:Int)+x.2) / (m2:Int)=(y.1* (m2:Int)+y.2) / (m2:Int):=by rw [e]
   rwa [Int.add_comm,Int.add_mul_ediv_right _ _ (by omega),Int.add_comm (y.1*_),Int.add_mul_ediv_right _ _ (by omega),Int.ediv_eq_zero_of_lt hx.2.1 hx.2.2,Int.ediv_eq_zero_of_lt hy.2.1 hy.2.2,Int.zero_add,Int.zero_add]at a
  rw [e3]at e;exact Prod.ext e3 (by omega)
 have:=rF (N:=m1*m2) h1 fun v hv=>by
  obtain⟨c,hc,rfl⟩:=dh.1 hv;have hc:=hm c hc;have h3:0≤c.1* (m2:Int):=Int.mul_nonneg hc.1.1 (by omega);have h4:c.1* (m2:Int)≤((m1:Int) - 1)* (m2:Int):=Int.mul_le_mul_of_nonneg_right (by omega) (by omega);rw [Int.sub_mul,Int.one_mul]at h4;have h5:((m1*m2:Nat):Int)=(m1:Int)* (m2:Int):=Int.natCast_mul m1 m2;exact⟨by omega,by omega⟩
 rwa [fN]at this
end
end Go.Proofs.YtopgfgdgfjddpaaGreatDoor.Vc
