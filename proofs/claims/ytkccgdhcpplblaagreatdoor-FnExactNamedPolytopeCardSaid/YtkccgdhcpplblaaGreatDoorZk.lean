/-
 Lemmas. Conditions: as each states them.
-/
import Derived.Test.YtkccgdhcpplblaaGreatDoorZj
import Derived.Shelf.SlSortCmp.NoneTotal
set_option maxHeartbeats 8000000
namespace Go.Proofs.YtkccgdhcpplblaaGreatDoor.Vc
open Tryz
section
open Go.RowKit
theorem ahZ{M K:ah}{kind:Int}(h1:o7 M K kind=0):∃ok:Bool,(ok=true↔jw M K kind=0)/\(ok=false->jw M K kind=3)/\
 ∀X Z Y W cx cz cy cw vF wK w',vH w' X (gU M.length (bK M M.length)) (aS M M.length) Y vF (bR M)->vH w' Z (gU K.length (bK K K.length)) (aS K K.length) W wK (bR K)->aK prog 236 [.agg #[ak (M.length:Int),.slice X (aS M M.length+2) cx,.slice Y (aS M M.length+2) cy],.agg #[ak (K.length:Int),.slice Z (aS K K.length+2) cz,.slice W (aS K K.length+2) cw],ak kind] w' (Js (sL M K kind) (nN M K kind) (nM M K kind) ok w'):=by
 obtain⟨oj,vg,vf⟩:=FN h1;obtain⟨lH,ny⟩:=th vg;obtain⟨mN,pj⟩:=th vf;have h5:=lH.1;have h6:=mN.1;have dm:=ah0 h1;have hpN:(if gY M K kind<=5/\(jv M K kind).length<=500 then((gY M K kind:Nat):Int)else 0)=sL M K kind:=by
  unfold sL
  by_cases h:gY M K kind<=5/\(jv M K kind).length<=500
  ·rw [aB h,aB (dm.1 h)]
  rw [az h,az (by rw [dm.2 h];decide)]
 have hpR:(if gY M K kind<=5/\(jv M K kind).length<=500 then jv M K kind else [])=nN M K kind:=by
  unfold nN
  by_cases h:gY M K kind<=5/\(jv M K kind).length<=500
  ·rw [aB h,aB (dm.1 h)]
  rw [az h,az (by rw [dm.2 h];decide)]
 have hpB:(if gY M K kind<=5/\(jv M K kind).length<=500 then tC M K kind else [])=nM M K kind:=by
  unfold nM
  by_cases h:gY M K kind<=5/\(jv M K kind).length<=500
  ·rw [aB h,aB (dm.1 h)]
  rw [az h,az (by rw [dm.2 h];decide)]
 refine⟨decide (gY M K kind<=5/\(jv M K kind).length<=500),?_,fun h=>dm.2 (of_decide_eq_false h),fun X Z Y W cx cz cy cw vF wK w' jg oP=>?_⟩
 ·rw [lg];refine⟨dm.1,fun h=>qy fun h'=>?_⟩;rw [dm.2 h']at h;exact absurd h (by decide)
 have:=(afw X Z Y W cx cz cy cw (aS M M.length) (aS K K.length) _ _ vF wK (bR M) (bR K) M.length K.length kind (gY M K kind) w' jg oP (zk lH ny.1) (zk mN pj.1) oj (I1 lH mN) (by omega) (by omega)).mono fun _ _ h=>h.b
 rw [<-hpN,<-hpR,<-hpB];exact this
abbrev fU:ah:=[[1,0]]
def Gc(w:aa)(v:ad)(w':aa):Prop:=∃A,∃r:aO,v= .agg #[.slice A 1 1]/\St w w' (aL 34 2 A 1 1 [r] fU)
theorem Gc.rows{w w':aa}{v:ad}(h:Gc w v w'):∃A,∃r:aO,v= .agg #[.slice A 1 1]/\bF w' A 1 [r] fU/\Below w.heap.size w w':=by
 obtain⟨A,r,hv,aw⟩:=h;exact⟨A,r,hv,St.jj (ks:=[]) (by rw [fj];exact aw) O,aw.below⟩
theorem TP(w:aa):aK prog 186 [] w (Gc w):=by
 refine bA func186 O ntmps186 O (qp O O) (bg O (gH (St.refl w) O ?_));intro A0 w1 aI;refine ar O (BW aI O O O O O O ?_);intro A1 w2 aE;have aE:St w w2 (ax 2 A1 2 2 [1,0]::[eC A0 none 0 0]):=aE;refine kV aE O O O fun A2 w3 aR=>D1 (by exact inferInstance) O O O O (bO 1 2 aR O O O O O O O ?_);intro w4 aX;refine bI O (ij O (aX.rd 2 O) ?_);exact⟨A2,⟨A1,2,2⟩,O,aX.sub (show List.Sublist [_,_] [_,_,_] from((List.nil_sublist _).cons_cons _).cons_cons _)⟩
theorem VY(w:aa):aK prog 180 [] w (Gc w):=by
 refine bA func180 O ntmps180 O (qp O O) (bg O (gH (St.refl w) O ?_));intro A0 w1 aI;refine ar O (BW aI O O O O O O ?_);intro A1 w2 aE;have aE:St w w2 (ax 2 A1 2 2 [1,0]::[eC A0 none 0 0]):=aE;refine kV aE O O O fun A2 w3 aR=>D1 (by exact inferInstance) O O O O (bO 1 2 aR O O O O O O O ?_);intro w4 aX;refine bI O (ij O (aX.rd 2 O) ?_);exact⟨A2,⟨A1,2,2⟩,O,aX.sub (show List.Sublist [_,_] [_,_,_] from((List.nil_sublist _).cons_cons _).cons_cons _)⟩
end
section
theorem G0:cN fU:=by decide
theorem CB:aS fU 1=2:=by kernel_rfl
theorem Qs:bK fU 1=[0,0]:=by kernel_rfl
theorem ZB(d e:Int):¬sU fU d e:=fun⟨_,_,i,hi,k,hk,_⟩=>by
 have:i<1:=hi;omega
theorem Qr:bR fU=[[],[]]:=by
 have h:∀e:Int,(fun e=> (bS (aS fU fU.length)).filter fun d=> @decide (sU fU d e) (Classical.propDecidable _)) e=[]:=fun e=>List.filter_eq_nil_iff.2 fun d _ hd=>ZB d e (@tB _ (Classical.propDecidable _) hd)
 unfold bR;rw [rN (g:=fun _=> ([]:ai)) fun e _=>h e];show(bS (aS fU 1)).map _=_;rw [CB];rfl
theorem GZ:aG 1 [0,0] [[],[]]=[[0],[1]]:=by decide
theorem ZA:uO fU:=by
 refine⟨by show aS fU 1<=500;rw [CB];omega,?_,?_⟩
 ·unfold CF;show(aG 1 (bK fU 1) (bR fU)).length=_;rw [Qs,Qr,GZ];rfl
 show zP 1 (bK fU 1) (bR fU);rw [Qs,Qr];refine⟨by rw [GZ];simp,fun e h0 h1=>?_,?_,?_⟩
 ·rw [GZ];have h1:e<2:=h1;rcases(show e=0\/e=1 by omega)with rfl | rfl
  ·exact⟨[0],by simp,by simp⟩
  exact⟨[1],by simp,by simp⟩
 ·intro i e f h0 h1 eZ dt _;obtain rfl:i=0:=by omega
  have he:e= -1:=by rcases eZ with h | h<;>omega
  have hf:f= -1:=by rcases dt with h | h<;>omega
  subst he;subst hf;decide
 rw [GZ];intro a b eB hb;have hb:b<2:=hb;obtain rfl:a=0:=by omega
 obtain rfl:b=1:=by omega
 exact .step (.refl (by decide)) (i:=0) (by omega) (by decide) ⟨by decide,by decide,fun k hk bU=>by omega⟩
theorem Kq:kJ fU=0:=KH G0 ZA
noncomputable def gz(kind:Int):Nat->ah
 | 0=>fU
 | j+1=>mB (gz kind j) fU kind
theorem Yq(r:Nat):jM r 1=r+1:=by
 induction r with
 | zero=>exact GC 1
 | succ r ih=>rw [PK,ih,J2]
theorem Kk{kind:Int}(hk:kind=1\/kind=2){M:ah}{j f e:Nat}(hg:kJ M=0)(hl:M.length=j+1)(hf:(gl M 0).length=f)(ho:aS M M.length<=e)(h4:j<=2)(he:(e+2)*4<=500):
 jw M fU kind=0/\(f*2* (j+2)<=400->kJ (mB M fU kind)=0/\(mB M fU kind).length=j+2/\(gl (mB M fU kind) 0).length=f*2* (j+2)/\aS (mB M fU kind) (mB M fU kind).length<=(e+2)*4):=by
 have hN:gY M fU kind=j+2:=by
  unfold gY iC;rw [az (by omega),hl];show((((j+1:Nat):Int))+ ((1:Nat):Int)).toNat=_;omega
 have hR:(jv M fU kind).length<=(e+2)*4:=by
  have:=ahn M fU kind;have e2:aS fU fU.length=2:=CB;rw [e2]at this;exact nU this (Nat.mul_le_mul_right _ (by omega))
 have hp:jw M fU kind=0:=by
  have:o7 M fU kind=0:=by
   unfold o7;rw [aB ⟨(th hg).1,G0⟩,aB (by omega),aB hg,Kq]
  unfold jw;rw [aB this,az (by omega)]
 refine⟨hp,fun jQ=>?_⟩;have hz:CE M fU kind=f*2* (j+2):=by
  unfold CE;rw [az (by omega),hf,hl];show f*2*jM (j+1) 1=_;rw [Yq]
 have h:=ahT hp (by rw [hz];exact jQ);exact⟨h.1,h.2.1.trans hN,h.2.2.1.trans hz,by rw [h.2.2.2];exact hR⟩
theorem Zd{kind:Int}(hk:kind=1\/kind=2):∀j:Nat,j<=2->kJ (gz kind j)=0/\jw (gz kind j) fU kind=0:=by
 have s0:=Kk hk (M:=gz kind 0) (j:=0) (f:=2) (e:=2) Kq O O (by show aS fU 1<=2;rw [CB];omega) (by omega) (by omega);have t0:=s0.2 (by omega);have s1:=Kk hk (M:=gz kind 1) (j:=1) (f:=8) (e:=16) t0.1 t0.2.1 t0.2.2.1 t0.2.2.2 (by omega) (by omega);have t1:=s1.2 (by omega);have s2:=Kk hk (M:=gz kind 2) (j:=2) (f:=48) (e:=72) t1.1 t1.2.1 t1.2.2.1 t1.2.2.2 (by omega) (by omega);intro j hj;rcases(show j=0\/j=1\/j=2 by omega)with rfl | rfl | rfl
 ·exact⟨Kq,s0.1⟩
 ·exact⟨t0.1,s1.1⟩
 exact⟨t1.1,s2.1⟩
instance akp(n:Nat)(fl:ah)(i a b:Nat):Decidable (mZ n fl i a b):=by unfold mZ;infer_instance
instance akq(M:ah)(d e:Int):Decidable (sU M d e):=by unfold sU;infer_instance
end
section
open Go.RowKit
end
section
section
variable {N:Nat} {X Y Z:ah} {φ ψ:Int->Int}
end
section
variable {n:Nat} {R R':ai} {B B':ah} {δ δ':Int->Int}
end
section
variable {m m1 m2:Nat} {n n1 n2:Int} {rk rk' rk1 rk2 rk1' rk2':Int->Int} {ib und' cV cJ und1' und2':Int->Int->Prop} {δ δ' δ1 δ2 δ1' δ2':Int->Int}
end
section
variable {m1 m2:Nat} {rk1 rk2:Int->Int} {kind:Int}
def cE(m:Nat)(k:Int->Nat)(ok:Int->Bool)(t:Nat):Nat:=((bS m).filter fun a=>decide (k a=t) && ok a).length
end
end
section
open Go.RowKit
end
section
section
variable {M:ah}
end
section
variable {N:Nat} {X Y:ah} {φ:Int->Int}
end
section
variable {M D K L:ah} {kind:Int}
end
end
section
open Go.RowKit
end
section
end
section
open Go.RowKit
def o5(n:Nat):Nat->ai->ah
 | 0,s=> [s]
 | d+1,s=> (List.range n).flatMap fun i:Nat=>if(i:Int)∈s then []else o5 n d (s++ [(i:Int)])
def ox(n d:Nat)(s:ai)(k:Nat):ah:=(List.range k).flatMap fun i:Nat=>if(i:Int)∈s then []else o5 n d (s++ [(i:Int)])
theorem UX(n d:Nat)(s:ai)(k:Nat):ox n d s (k+1)=ox n d s k++if(k:Int)∈s then []else o5 n d (s++ [(k:Int)]):=by
 unfold ox;rw [jB,List.flatMap_append];simp
theorem UW(n d:Nat)(s:ai){k m:Nat}(h:k<=m):(ox n d s k).length<=(ox n d s m).length:=by
 induction h with
 | refl=>exact bs _
 | step _ ih=>rw [UX,b8];omega
theorem UU(n:Nat):∀(d:Nat) (s:ai),∀x∈o5 n d s,x.length=s.length+d
 | 0,s,x,h=>by rw [gG.1 h];rfl
 | d+1,s,x,h=>by
  obtain⟨i,_,h⟩:=List.mem_flatMap.1 h
  split at h
  ·cases h
  ·have:=UU n d _ x h;rw [this];simp;omega
theorem afy(n:Nat)(hn:n<=100):∀(d:Nat) {w0 w:aa} {ks:List Ck} (s:ai) (As:aj) (cs:Nat) (L:ah) (A:aj) (c:Nat) (rs:List aO),s.length+d=n->rs.length=L.length->L.length+ (o5 n d s).length<=1000->
 St w0 w (bZ 34 A L.length c rs::ax 2 As s.length cs s::(cK 2 rs L++ks))->
 aK prog 183 [ak n,.slice As s.length cs,.slice A L.length c] w (fun v w'=>∃A' c' rs',v= .slice A' (L++o5 n d s).length c'/\rs'.length=(L++o5 n d s).length/\
  St w0 w' (bZ 34 A' (L++o5 n d s).length c' rs'::(cK 2 rs' (L++o5 n d s)++ks))):=by
 intro d
 induction d with
 | zero=>
  intro w0 w ks s As cs L A c rs hd cI hlen hS;refine bA func183 O ntmps183 O (df O) ?_;refine bg O (bc O O (aC O ?_));refine Cd.gC (by rw [show s.length=n by omega];exact aF Value.bool (dM O)) ?_;refine aA O (kV hS O O O ?_);intro pa w1 aI;refine lA 1 aI O (aI.fG 0 O) O O O (by simp [o5]at hlen;omega) (by simp [o5]at hlen;omega) O ?_;intro sQ yp w2 aE;have aE:St w0 w2 (bZ 34 sQ (L.length+1) yp (rs++ [⟨As,s.length,cs⟩])::ax 2 As s.length cs s::(cK 2 rs L++ks)):=aE.tail;refine bI O (ia O ?_);have e1:(L++o5 n 0 s).length=L.length+1:=by simp [o5]
  refine⟨sQ,yp,rs++ [⟨As,s.length,cs⟩],by rw [e1],by rw [e1,b8,cI];rfl,?_⟩;rw [e1,o5,o9 cI];refine aE.perm (List.Perm.cons _ ?_);rw [gx];exact(qD (l₁:=cK 2 rs L)).symm
 | succ d ih=>
  intro w0 w ks s As cs L A c rs hd cI hlen hS;have Be:s.length≠n:=by omega
  have eJ:o5 n (d+1) s=ox n d s n:=O;rw [eJ]at hlen|-;refine bA func183 O ntmps183 O (df O) ?_;refine bg O (bc O O (aC O ?_));refine Cd.fC (aF Value.bool (cj (by omega))) (dw O ?_);refine Cd.loop (α:=Nat×(aj×Nat)×List aO) (fun z=> [(0,ak n),(1,.slice As s.length cs),(2,.slice z.2.1.1 (L++ox n d s z.1).length z.2.1.2),(7,ak (z.1:Int))]) (fun z w'=>z.1<=n/\z.2.2.length=(L++ox n d s z.1).length/\St w0 w' (bZ 34 z.2.1.1 (L++ox n d s z.1).length z.2.1.2 z.2.2::ax 2 As s.length cs s::(cK 2 z.2.2 (L++ox n d s z.1)++ks))) (fun z=>n - z.1) (0,(A,c),rs)
   ⟨rfl,rfl,by show Value.slice A L.length c=Value.slice A (L++ []).length c;rw [fj],rfl,au⟩ ⟨aZ _,by show rs.length=(L++ []).length;rw [fj];exact cI,by show St w0 w (bZ _ A (L++ []).length c rs::_::(cK _ rs (L++ [])++ks));rw [fj];exact hS⟩ ?_
  rintro⟨i,⟨B,cB⟩,rb⟩ e w2 ⟨hi,sD,aE⟩;dsimp only at hi sD aE|-;have hle:=UW n d s hi;refine bJ O (aM _ O (fun h1=>?_) (fun h1=>?_))
  ·have di:i<n:=by omega
   have Bd:=UX n d s i;have acT:=UW n d s (show i+1<=n from di);refine aA O (aQ (IJ As s.length cs s i _ (aE.bz 1 O) (by omega)) O ?_);rintro _ w2 ⟨rfl,rfl⟩
   first | refine fv rfl rfl ?_ | refine gA rfl rfl ?_
   refine aC O (aM _ O (fun h2=>?_) (fun h2=>?_))
   ·rw [az h2]at Bd;refine aA O (aQ (IK As s.length cs s _ (aE.bz 1 O) (by omega)) O ?_);rintro _ w3 ⟨Wx,Yy,rfl,aw⟩;have aR:St w0 w3 (ax 2 Wx s.length Yy s::bZ 34 B (L++ox n d s i).length cB rb::ax 2 As s.length cs s::(cK 2 rb (L++ox n d s i)++ks)):=aE.call aw;refine ar O (eS aR O O O ?_);intro yf w4 aX;refine fk 1 aX O (aX.bz 0 O) O O O ?_;intro mY nn w5 aY;have aY:St w0 w5 (ax 2 mY (s++ [(i:Int)]).length nn (s++ [(i:Int)])::bZ 34 B (L++ox n d s i).length cB rb::ax 2 As s.length cs s::(cK 2 rb (L++ox n d s i)++ks)):=by
     rw [b8];exact aY.tail
    have bk:St w0 w5 (bZ 34 B (L++ox n d s i).length cB rb::ax 2 mY (s++ [(i:Int)]).length nn (s++ [(i:Int)])::(cK 2 rb (L++ox n d s i)++ (ax 2 As s.length cs s::ks))):=by
     refine aY.perm ((List.Perm.swap _ _ _).trans (List.Perm.cons _ (List.Perm.cons _ ?_)));exact qD.symm
    refine ar O ?_;refine amq (ih (s++ [(i:Int)]) mY nn (L++ox n d s i) B cB rb (by rw [b8];show s.length+1+d=n;omega) sD (by rw [Bd,b8]at acT;rw [b8];omega) bk) O (by rw [show(s++ [(i:Int)]).length=s.length+1 from b8];rfl) O ?_;rintro _ w6 ⟨OB,Yz,r32,rfl,Th,bG⟩;have e2:L++ox n d s i++o5 n d (s++ [(i:Int)])=L++ox n d s (i+1):=by rw [Bd,gx]
    rw [e2]at Th bG|-;refine ar O (aH O (aT O (tQ ?_)));refine⟨(i+1,(OB,Yz),r32),by show n - (i+1)<n - i;omega,(amz O),di,Th,bG.perm (List.Perm.cons _ qD)⟩
   ·have h2:(i:Int)∈s:=jb.1 h2;rw [aB h2,fj]at Bd;refine aA O (aH O (aT O (tQ ?_)));refine⟨(i+1,(B,cB),rb),by show n - (i+1)<n - i;omega,⟨O,O,by rw [Bd];exact O,O,au⟩,di,by rw [Bd];exact sD,by rw [Bd];exact aE⟩
  ·obtain rfl:i=n:=by omega
   refine bn O (bo (gq O ?_));exact ia O ⟨B,cB,rb,O,sD,aE.sub (List.Sublist.cons_cons _ (List.sublist_cons_self _ _))⟩
def kA(L:ah)(w:aa)(v:ad)(w':aa):Prop:=∃A c,∃rs:List aO,v= .agg #[.slice A L.length c]/\rs.length=L.length/\St w w' (aL 34 2 A L.length c rs L)
theorem Kj{kind:Int}(hk:kind=1\/kind=2)(j:Nat):(gz kind j).length<=5/\∀x∈gz kind j,x.length<=400:=by
 cases j with
 | zero=>exact⟨by show 1<=5;omega,fun x hx=>by
  have:x=[1,0]:=by simpa [gz]using hx
  subst this;show 2<=400;omega⟩
 | succ j=>exact ahS (gz kind j) fU kind
theorem MV(n kind:Int)(hn:1<=n/\n<=4)(hk:kind=1\/kind=2)(w:aa)(hT:kX w):
 aK prog 109 [ak n,ak kind] w (kA (gz kind (n - 1).toNat) w):=by
 refine bA func109 O ntmps109 O (qp O O) (bg O (gH (St.refl w) O ?_));intro A4 w1 aI;refine ar O (aQ (TP _) O ?_);rintro _ w2 ⟨E,r,rfl,aw⟩;have aE:=aI.call2 aw;refine gH aE O fun A5 w3 aR=>bO 1 0 aR O O O O O O O fun w4 aX=>ar O (eh O (aC O ?_));refine Cd.loop (α:=Nat×(aj×Nat)×List aO) (fun z=> [(1,ak kind),(4,.pointer A4),(5,.pointer A5),(10,ak (n - 1)),(11,ak (z.1:Int))]) (fun z w'=> (z.1:Int)<=n - 1/\z.2.2.length=(gz kind z.1).length/\St w w' ([eC A5 z.2.1.1 (gz kind z.1).length z.2.1.2,eC A4 none 0 0]++aL 34 2 z.2.1.1 (gz kind z.1).length z.2.1.2 z.2.2 (gz kind z.1))) (fun z=> (n - 1).toNat - z.1) (0,(E,1),[r]) (amz O) ⟨by show(0:Int)<=n - 1;omega,O,aX⟩ ?_;clear aX aR aE aI aw;rintro⟨j,⟨A,c⟩,rs⟩ e w5 ⟨hj,cI,aY⟩;dsimp only at hj cI aY|-;have lI:=aY.rd 0 O;have ud:=hT.aq aY.below;have yE:bF w5 A (gz kind j).length rs (gz kind j):=St.oz aY.tail.tail O;refine bJ O (aM _ O (fun h1=>?_) (fun h1=>?_))
 ·have Lm:=fun(w':aa) (E:aj) (r:aO) (hT:kX w') (hM:bF w' A (gz kind j).length rs (gz kind j)) (hE:bF w' E 1 [r] fU)=>aia A E (gz kind j).length c 1 1 rs [r] (gz kind j) fU kind w' hT hM hE (aY.cap 2 O).1 (aY.cap 2 O).2 (bs _) (by omega)
  have hPl:=fun(w':aa) A D cA cD rs hT hR hB=>ahU (gz kind j) fU kind A D cA cD rs w' hT hR hB
  generalize sL (gz kind j) fU kind=N at*;generalize nN (gz kind j) fU kind=R at*;generalize nM (gz kind j) fU kind=B at*;generalize jw (gz kind j) fU kind=C at*;refine dw O ?_;refine kB [8] [.ex (.agg #[.slice (A) ((gz kind j).length) (c)]),.pr (fun v w'=>∃E,∃r:aO,v= .agg #[.slice E 1 1]/\bF w' E 1 [r] fU),yI ((kind)),.pr (fun v w'=>zF N R B C w5 v w'),.al (fun v=>∃u0,v= .tuple #[u0,ak C]) (fun v w'=>zF N R B C w5 v w'),.pr (fun v w'=>∃AR cR AD cD dv,v= .agg #[ak N,.slice AR R.length cR,.slice AD B.length cD]/\dv.length=B.length/\St w5 w' (ax 2 AR R.length cR R::(aL 34 2 AD B.length cD dv B++ []))),yI (C),.pr (fun v w'=>∃A9,v= .pointer A9/\St w5 w' [bD A9 0 none 0 0 none 0 0]),.p2 7 (fun a v w'=>∃A9 AR c AD d rs,a= .pointer A9/\rs.length=B.length/\St w5 w' (bD A9 N AR R.length c AD B.length d::(ax 2 AR R.length c R::(aL 34 2 AD B.length d rs B++ [])))),yI (C)] (ly (de.2 ⟨Ye.dp (fun v w w' h hb=>by obtain⟨E,r,hv,h1⟩:=h;exact⟨E,r,hv,h1.aq hb⟩),(ly (de.2 ⟨Ye.dp (fun v w w' h hb=>by obtain⟨AR,cR,AD,cD,dv,hv,h1,h2⟩:=h;exact⟨AR,cR,AD,cD,dv,hv,h1,h2.aq hb⟩),(de.2 ⟨XI (fun v w w' h hb=>by obtain⟨AR,cR,AD,cD,dv,hv,h1,h2⟩:=h;exact⟨AR,cR,AD,cD,dv,hv,h1,h2.aq hb⟩),(de.2 ⟨Ye.dp (fun v w w' h hb=>by obtain⟨AR,cR,AD,cD,dv,hv,h1,h2⟩:=h;exact⟨AR,cR,AD,cD,dv,hv,h1,h2.aq hb⟩),(ly (de.2 ⟨Ye.dp (fun v w w' h hb=>by obtain⟨A9,hv,hT⟩:=h;exact⟨A9,hv,hT.aq hb⟩),(de.2 ⟨O8 (fun a v w w' h hb=>by obtain⟨A9,AR,cR,AD,cD,dv,h9,h1,hT⟩:=h;exact⟨A9,AR,cR,AD,cD,dv,h9,h1,hT.aq hb⟩),(ly (fun _ h=>by cases h))⟩)⟩))⟩)⟩)⟩))⟩)) ?_ ?_
  ·refine⟨cP fun _ _ hb _ _ _=>ao.dq 0 (lI.below hb) O O O (bE O O),?_,bT O,?_,?_,?_,?_,?_,?_,bT O,au⟩
   ·refine cP fun e1 w1 hb hp aW hq=>?_
    refine aQ (TP _) O ?_;rintro _ w9 h9;obtain⟨E,r,hv,hE,pk⟩:=h9.rows;exact ao.n (fN.dn O pk ⟨E,r,hv,hE⟩)
   ·refine cP fun e1 w1 hb hp aW hq=>?_
    obtain⟨E,r,h8,h1⟩:=(hp 1 _ _ (by kernel_rfl) rfl rfl (by kernel_rfl));refine amq (Lm _ E r (ud.aq hb) (yE.aq hb) h1) O (by exact aF (fun v=> [Value.agg #[.slice A (gz kind j).length c],v,ak kind]) h8) O ?_;rintro _ w9 ⟨AR,cR,AD,cD,dv,rfl,l8,aw⟩;refine ao.n ?_;exact fN.dn O aw.below ⟨AR,cR,AD,cD,dv,O,l8,by have:=((St.refl w5).aq hb).call aw;rwa [fj]at this⟩
   ·refine cP fun e1 w1 hb hp aW hq=>?_
    obtain⟨AR,cR,AD,cD,dv,h9,h1,h2⟩:=(hp 3 _ _ (by kernel_rfl) rfl rfl (by kernel_rfl));refine O4 O (by exact h9) O (ao.n ?_);exact fN.dn O (Below.refl _ _) ⟨⟨_,O⟩,AR,cR,AD,cD,dv,O,h1,h2⟩
   ·refine cP fun e1 w1 hb hp aW hq=>?_
    obtain⟨AR,cR,AD,cD,dv,h6,h1,h2⟩:=((hp 4 _ _ (by kernel_rfl) rfl rfl).2 (by kernel_rfl));refine ao.extract (by exact h6) O O (ao.n ?_);exact fN.dn O (Below.refl _ _) ⟨AR,cR,AD,cD,dv,O,h1,h2⟩
   ·intro e1 w1 cc eZ dt fQ hp aW hq;show ao _ _ _ _ _ _ _;obtain⟨u0,h6⟩:=(hp 4 _ _ (by kernel_rfl) rfl rfl).1;refine ao.extract (by exact h6) O O (ao.n (iN O (by exact O)))
   ·refine cP fun e1 w1 hb hp aW hq=>?_
    refine nj (St.refl _) O fun A9 w9 bL=>ao.n ?_;exact fN.dn O bL.below ⟨A9,O,by have:=((St.refl w5).aq hb).call bL;rwa [fj]at this⟩
   refine kG fun e1 w1 hb hp aW hq=>?_
   obtain⟨A9,h9,hT⟩:=(hp 7 _ _ (by kernel_rfl) rfl rfl (by kernel_rfl));obtain⟨AR,cR,AD,cD,dv,eV,h1,h2⟩:=(hp 5 _ _ (by kernel_rfl) rfl rfl (by kernel_rfl));refine bO 3 0 (hT.agr h2) O (by exact h9) (by exact eV) O O O O ?_;intro w9 bL;exact ao.n (fY.st O ⟨A9,AR,cR,AD,cD,dv,h9,h1,bL⟩)
  intro u2 w7 _ _ kr _;obtain⟨A9,AR,cR,AD,cD,dv,h9,l8,wa⟩:=kr 8 7 _ rfl (by kernel_rfl);have bG:=aY.aq wa.below;refine Cc (F:=[(1,ak kind),(4,.pointer A4),(5,.pointer A5),(6,.pointer A9),(7,ak C),(10,ak (n - 1)),(11,ak j)]) ⟨O,O,O,h9,O,O,O,au⟩ (jW O (ao.dq 2 (wa.rd 0 O) O O O (ar O (aQ (hPl _ AR AD cR cD dv (hT.aq bG.below) (wa.bz 1 O) (St.jj wa.tail.tail O)) O ?_))));rintro _ w8 ⟨Am,cm,kc,rfl,ot,aw⟩;have b6:=bG.call2 aw;refine ar O (bO 1 0 b6 O O O O O O O ?_);intro w9 bL;refine ar O (aH O (aT O (tQ ?_)));exact⟨(j+1,(Am,cm),kc),by show(n - 1).toNat - (j+1)< (n - 1).toNat - j;omega,(amz O),by show((j+1:Nat):Int)<=n - 1;omega,ot,bL.sub (List.Sublist.cons_cons _ (List.Sublist.cons_cons _ (iQ _ _)))⟩
 have nC:(n - 1).toNat=j:=by omega
 rw [nC];refine bn O (bo (cL O ?_));refine ao.dq 0 lI O O O (bO 1 1 aY O O O O O O O ?_);intro w6 bk;refine bI O (ij O (bk.rd 1 O) ?_);exact⟨A,c,rs,O,cI,bk.tail.tail⟩
def uJ(p:ai)(i:Nat):ai:=(p.set i (gi p ((i:Int)+1))).set (i+1) (gi p i)
def db(n:Nat):ah:=o5 (n+1) (n+1) []
def sO(n i k:Nat):ai:=(List.range k).map fun f:Nat=> (((db n).idxOf (uJ (gl (db n) f) i):Nat):Int)
def mE(n k:Nat):ah:=(List.range k).map fun i:Nat=>sO n i (db n).length
theorem ajg(n i k:Nat):(sO n i k).length=k:=by simp [sO]
theorem Od(n k:Nat):(mE n k).length=k:=by simp [mE]
theorem ajh(n i k:Nat):sO n i (k+1)=sO n i k++ [(((db n).idxOf (uJ (gl (db n) k) i):Nat):Int)]:=by simp [sO,jB]
theorem ajf(n k:Nat):mE n (k+1)=mE n k++ [sO n k (db n).length]:=by simp [mE,jB]
def D9(n:Nat):Prop:=n<=90/\(db n).length<=1000/\∀i,i<n->∀f,f< (db n).length->uJ (gl (db n) f) i∈db n
theorem aep{L:ah}{x:ai}{j:Nat}(h:j<L.idxOf x)(hj:j<L.length):L[j]≠x:=fun e=>by
 have:=List.not_of_lt_findIdx (p:=(· ==x)) (xs:=L) (i:=j) h;simp [e]at this
theorem ahE{α:Type}(b m q1 q2:α)(X Y:List α):(b::q1::q2::m::(X++Y)).Perm (q1::q2::m::((X++ [b])++Y)):=by
 classical
 refine jA.2 fun z=>?_
 simp only [lu,jz,kC];omega
theorem Ud(n:Nat)(w:aa)(hn:D9 n):aK prog 104 [ak n] w (kA (mE n n) w):=by
 obtain⟨sB,hO1,hO⟩:=hn;have bP:∀x∈db n,x.length=n+1:=fun x hx=>by have:=UU (n+1) (n+1) [] x hx;simpa using this
 refine bA func104 O ntmps104 O (qp O O) (bg O (gH (St.refl w) O ?_));intro A2 w1 aI;refine ar O (aH O ?_);refine jn aI O fun fJ w2 aE=>jn aE O ?_;intro pL w3 aR;have aR:St w w3 (bZ 34 pL ([]:ah).length 0 []::ax 2 fJ ([]:ai).length 0 []::(cK 2 [] []++ [Bx 24 1 A2 [.slice none 0 0]])):=aR;refine aQ (afy (n+1) (by omega) (n+1) [] fJ 0 [] pL 0 [] (by show 0+ (n+1)=n+1;omega) O (by show 0+_<=1000;rw [Nat.zero_add];exact hO1) aR) O ?_;rintro _ w4 ⟨AO,cO,rO,rfl,Tj,aX⟩;rw [List.nil_append]at Tj aX|-;rw [show o5 (n+1) (n+1) []=db n from rfl]at Tj aX|-;refine vN (by exact inferInstance) O (gH aX O ?_);intro A4 w5 aY;refine ar O (bO 1 0 aY O O O O O O O ?_);intro w6 bk;have bk:St w w6 (eC A4 none 0 0::bZ 34 AO (db n).length cO rO::(cK 2 rO (db n)++ [eC A2 none 0 0])):=bk;have bk:St w w6 (eC A4 none 0 0::eC A2 none 0 0::(aL 34 2 none 0 0 [] []++aL 34 2 AO (db n).length cO rO (db n))):=((bk.nil 34).perm (by
  classical
  refine jA.2 fun z=>?_
  simp only [aL,cK,bZ,List.map_nil,lu,jz,kC];omega))
 clear aI aE aR aX aY;refine aC O (Cd.loop (α:=Nat×(aj×Nat)×List aO) (fun z=> [(0,ak n),(2,.pointer A2),(3,.slice AO (db n).length cO),(4,.pointer A4),(5,ak (z.1:Int))]) (fun z w'=>z.1<=n/\z.2.2.length=z.1/\St w w' (eC A4 z.2.1.1 z.1 z.2.1.2::eC A2 none 0 0::(aL 34 2 z.2.1.1 z.1 z.2.1.2 z.2.2 (mE n z.1)++aL 34 2 AO (db n).length cO rO (db n)))) (fun z=>n - z.1) (0,(none,0),[]) (amz O) ⟨aZ _,O,bk⟩ ?_);clear bk;rintro⟨i,⟨AX,cX⟩,rX⟩ e w7 ⟨hi,qj,hS⟩;dsimp only at hi qj hS|-;refine bJ O (aM _ O (fun h1=>?_) (fun h1=>?_))
 ·have di:i<n:=by omega
  refine aA O (jn hS O ?_);intro dW w8 b6;have b6:St w w8 (ax 2 dW 0 0 (sO n i 0)::eC A4 AX i cX::eC A2 none 0 0::(aL 34 2 AX i cX rX (mE n i)++aL 34 2 AO (db n).length cO rO (db n))):=b6;clear hS;refine aC O (Cd.loop (α:=Nat×(aj×Nat)) (fun z=> [(0,ak n),(2,.pointer A2),(3,.slice AO (db n).length cO),(4,.pointer A4),(5,ak i),(6,.slice z.2.1 z.1 z.2.2),(7,ak (z.1:Int))]) (fun z w'=>z.1<=(db n).length/\St w w' (ax 2 z.2.1 z.1 z.2.2 (sO n i z.1)::eC A4 AX i cX::eC A2 none 0 0::(aL 34 2 AX i cX rX (mE n i)++aL 34 2 AO (db n).length cO rO (db n)))) (fun z=> (db n).length - z.1) (0,(dW,0)) (amz O) ⟨aZ _,b6⟩ ?_);clear b6;rintro⟨f,⟨AM,cM⟩⟩ e w9 ⟨hf,hS⟩;dsimp only at hf hS|-;refine bg O (bc O O (aC O ?_));refine aM _ O (fun h2=>?_) (fun h2=>?_)
  ·have iH:f< (db n).length:=by omega
   have Hz:∀ {w':aa},St w w' (ax 2 AM f cM (sO n i f)::eC A4 AX i cX::eC A2 none 0 0::(aL 34 2 AX i cX rX (mE n i)++aL 34 2 AO (db n).length cO rO (db n)))->bF w' AO (db n).length rO (db n):=fun h=> (h.sub (((iQ _ _).cons _ |>.cons _).cons _)).oz O
   have tk:=Hz hS;have sE:=tk.at_ (i:=(f:Int)) (by omega) (by omega);have Mh:gl (db n) f∈db n:=by rw [b7 iH];exact dQ _
   have AG:=bP _ Mh;have Dd:(rg rO f).n=n+1:=by rw [<-sE.1];exact AG
   refine aA O (aD tk.top.2 O (bW tk.top O (aQ (IK _ _ _ (gl (db n) f) _ sE (by omega)) O ?_)));rintro _ dV ⟨A8,c8,rfl,aw⟩;rw [Dd]at aw|-;have bN:St w dV (ax 2 A8 (n+1) c8 (gl (db n) f)::ax 2 AM f cM (sO n i f)::eC A4 AX i cX::eC A2 none 0 0::(aL 34 2 AX i cX rX (mE n i)++aL 34 2 AO (db n).length cO rO (db n))):=hS.call aw;clear hS aw tk sE;have HA:=Hz bN.tail;have Mu:=HA.at_ (i:=(f:Int)) (by omega) (by omega);refine ar O (aD HA.top.2 O (bW HA.top O ?_));refine ar O (aH O ?_);refine aD Mu.2 O (a8 Mu O (aD (bN.bz 0 O).2 O (lC 0 (i:=(i:Int)) bN O O O (by omega) ?_)));intro dZ eA;have u9:=Hz eA.tail;have Mv:=u9.at_ (i:=(f:Int)) (by omega) (by omega);refine ar O (aH O (ar O ?_));refine aD u9.top.2 O (bW u9.top O (ar O (aD Mv.2 O (a8 Mv O (aD (eA.bz 0 O).2 O (lC 0 (i:=(i:Int)+1) eA O O O (by omega) ?_))))));intro fg dG;have dG:St w fg (ax 2 A8 (n+1) c8 (uJ (gl (db n) f) i)::ax 2 AM f cM (sO n i f)::eC A4 AX i cX::eC A2 none 0 0::(aL 34 2 AX i cX rX (mE n i)++aL 34 2 AO (db n).length cO rO (db n))):=dG;clear bN eA HA u9 Mu Mv;have du:=hO i di f iH;have C8:=List.idxOf_lt_length_of_mem du;refine aC O (Cd.loop (α:=Nat) (fun a=> [(0,ak n),(2,.pointer A2),(3,.slice AO (db n).length cO),(4,.pointer A4),(5,ak i),(6,.slice AM f cM),(7,ak f),(8,.slice A8 (n+1) c8),(9,ak a)]) (fun a w'=>a<=(db n).idxOf (uJ (gl (db n) f) i)/\St w w' (ax 2 A8 (n+1) c8 (uJ (gl (db n) f) i)::ax 2 AM f cM (sO n i f)::eC A4 AX i cX::eC A2 none 0 0::(aL 34 2 AX i cX rX (mE n i)++aL 34 2 AO (db n).length cO rO (db n)))) (fun a=> (db n).length - a) 0 (amz O) ⟨aZ _,dG⟩ ?_);clear dG;rintro a e gj ⟨ha,hS⟩;have yL:a< (db n).length:=by omega
   have Ln:=Hz hS.tail;have ur:=Ln.at_ (i:=(a:Int)) (by omega) (by omega);have Ib:(rg rO a).n=n+1:=by rw [<-ur.1,b7 yL];exact bP _ (dQ _)
   refine bg O (aD Ln.top.2 O (bW Ln.top O (ar O (aQ (afe _ _ _ (gl (db n) a) A8 (n+1) c8 (uJ (gl (db n) f) i) _ ur (hS.bz 0 O) (by omega)) O ?_))));rintro _ lS ⟨rfl,aw⟩;have iT:=hS.aq aw.below;clear hS aw
   first | refine fv rfl rfl ?_ | refine gA rfl rfl ?_
   refine aC O (aM _ O (fun h3=>?_) (fun h3=>?_))
   ·have fW:a+1<=(db n).idxOf (uJ (gl (db n) f) i):=by
     rcases Nat.lt_or_ge a ((db n).idxOf (uJ (gl (db n) f) i))with q | q
     ·exact q
     exfalso;obtain rfl:a=(db n).idxOf (uJ (gl (db n) f) i):=by omega
     apply h3;rw [b7 yL,List.getElem_idxOf]
    refine aA O (aH O (aT O (tQ ?_)));exact⟨a+1,by show(db n).length - (a+1)< (db n).length - a;omega,(amz O),fW,iT⟩
   have h3:=jb.1 h3;have xk:a=(db n).idxOf (uJ (gl (db n) f) i):=by
    rcases Nat.lt_or_ge a ((db n).idxOf (uJ (gl (db n) f) i))with q | q
    ·rw [b7 yL]at h3;exact absurd h3 (aep q yL)
    omega
   refine bn O (bo (cL O ?_));refine eS iT.tail O O O fun A66 rB im=>fk 1 im O (im.bz 0 O) O O O fun AZ cZ uK jY=>ar O (aH O (aT O (tQ ?_)));refine⟨(f+1,(AZ,cZ)),by show(db n).length - (f+1)< (db n).length - f;omega,(amz O),iH,?_⟩;show St w uK (ax _ AZ (f+1) cZ (sO n i (f+1))::_);rw [ajh,<-xk];exact jY.tail
  obtain rfl:f=(db n).length:=by omega
  refine bn O (bo (cL O ?_));refine aU (hS.rd 1 O) O (amv (j:=0) (hS.rd 1 O) O O O O O (ar O (kV hS O O O ?_)));intro Wz dV bN;refine lA 4 bN O (bN.fG 0 O) O O O (by omega) (by omega) O fun AZ cZ dZ eA=>aU (eA.rd 2 O) O (kF 2 (j:=0) eA O O O O O ?_);intro fg dG;have dG:=dG.tail.perm (ahE _ _ _ _ _ _);refine ar O (aH O (aT O (tQ ?_)));refine⟨(i+1,(AZ,cZ),rX++ [⟨AM,(db n).length,cM⟩]),by show n - (i+1)<n - i;omega,(amz O),by show i+1<=n;omega,by show(rX++ [_]).length=i+1;rw [b8,qj];rfl,?_⟩;show St w fg (eC A4 AZ (i+1) cZ::eC A2 none 0 0::(aL 34 2 AZ (i+1) cZ (rX++ [_]) (mE n (i+1))++aL 34 2 AO (db n).length cO rO (db n)));rw [ajf];unfold aL;rw [o9 (by rw [qj,Od])];exact dG
 obtain rfl:i=n:=by omega
 refine bn O (bo (cL O ?_));refine ao.dq 0 (hS.rd 0 O) O O O (bO 1 1 hS O O O O O O O ?_);intro w8 b6;refine bI O (ij O (b6.rd 1 O) ?_);have hl:=Od i i;refine⟨AX,cX,rX,by rw [hl];rfl,by rw [hl];exact qj,?_⟩;rw [hl];exact b6.sub (show List.Sublist _ (_::_::_) from((ng _ _).cons _ |>.cons _))
end
section
open Go.RowKit Go.Sort
theorem aco{α:Type}[Inhabited α]{enc:α->ad}{w:aa}{g n off:Nat}{os:Array Obj}{cur:Array ad}{e:ae}{fr:Nat×Nat}(d:Array α)(hb:w.heap[g]?=some (.cells cur e fr)):(Go.Sort.grow (putRow enc (Sort.ahead w n) g off d) os).heap[g]?=some (.cells (putCells enc off d cur) e fr):=by
 have hg:g<w.heap.size:=(Array.getElem?_eq_some_iff.1 hb).1;rw [heap_grow_old _ _ (by simpa using hg)];simp [putRow,mapBlock,Sort.ahead,Array.getElem?_modify,hb,onCells]
theorem aaC{α:Type}[Inhabited α]{enc:α->ad}{w:aa}{g n off:Nat}{os:Array Obj}(d:Array α):BQ w (Go.Sort.grow (putRow enc (Sort.ahead w n) g off d) os) (some g):=by
 refine⟨⟨O,O,O,by simp,fun k hk bU=>?_⟩,Nat.le_add_right _ _⟩;rw [heap_grow_old _ _ (by simpa using hk)];have:g≠k:=fun e=>bU (by rw [e])
 simp [putRow,mapBlock,Sort.ahead,Array.getElem?_modify,this]
def sv(ss:List aO)(j:Nat):aO:=ss.getD j dO
end
end Go.Proofs.YtkccgdhcpplblaaGreatDoor.Vc
