/-
 Lemmas. Conditions: as each states them.
-/
import Derived.Test.YtkccgdhcpplblaaGreatDoorZi
set_option maxHeartbeats 8000000
namespace Go.Proofs.YtkccgdhcpplblaaGreatDoor.Vc
open Tryz
section
open Go.RowKit
abbrev sU(A:aj)(n:Int)(X:aj)(m cx:Nat)(Y:aj)(k cy:Nat):Ck:=Bx 175 3 A [ak n,.slice X m cx,.slice Y k cy]
section
variable {P:Program} {N:Nat} {ops:Array Oper} {K:Env->aa->Prop} {rest:List Oper} {e:Env} {w0 w w':aa} {ks:List Ck} {d:Nat} {ty:ae} {pos:String} {af:Array Edge}
theorem ZL{t:ae}{f0 f1 f2:Field}{z0 z1 z2 y0 y1 y2:ad}{b b0 b1 b2:Nat}[bA P t (.struct #[f0,f1,f2])][bq P t (.agg #[z0,z1,z2]) 3 b]{x0 x1 x2:ag}{v0 v1 v2:ad}(rL:bq P f0.type y0 1 b0)(tX:bq P f1.type y1 1 b1)(rN:bq P f2.type y2 1 b2)(ho:f0.offset=0)(qS:f1.offset=1)(xr:f2.offset=2)(h0:ev e x0=v0)(h1:ev e x1=v1)(h2:ev e x2=v2)(c0:v0.oneCell'=true)(c1:v1.oneCell'=true)(c2:v2.oneCell'=true)(hb:Nat.blt d N=true)(hK:ao P N ops K rest (bn e d (.agg #[v0,v1,v2])) w):ao P N ops K (⟨some d,.build t #[(0,x0),(1,x1),(2,x2)],ty,pos,af,none⟩::rest) e w:=by
 obtain⟨inf,hi,dX,hs,gR⟩:=bq.get P t;obtain⟨CC,fm,_,o6,_⟩:=rL.get P f0.type;obtain⟨EB,mm,_,ug,_⟩:=tX.get P f1.type;obtain⟨GZ,ti,_,mI,_⟩:=rN.get P f2.type;have e0:v0.cells= #[v0]:=by cases v0<;>simp [Value.oneCell']at c0<;>rfl
 have e1:v1.cells= #[v1]:=by cases v1<;>simp [Value.oneCell']at c1<;>rfl
 have e2:v2.cells= #[v2]:=by cases v2<;>simp [Value.oneCell']at c2<;>rfl
 have ez:(Value.agg #[z0,z1,z2]).cells= #[z0,z1,z2]:=O;refine .val (w':=w) ?_ hb hK;simp [execOp,Instr.build,run_underlying (bA.out (P:=P) (t:=t)),sizeOf,typeInfo,zeroValue,hi,dX,fm,o6,mm,ug,ti,mI,ho,qS,xr,h0,h1,h2,e0,e1,e2,ez,Instr.fill]
end
theorem akX{α:Type}(a b c d:α):[a,b,c,d].Perm [a,d,b,c]:=by
 classical
 refine jT.2 fun z=>?_
 simp only [jS,ln];omega
theorem Xl{α:Type}(s a b m:α)(X:List α):(s::a::b::m::(X++ [])).Perm (a::b::m::((X++ [s])++ [])):=by
 classical
 refine jT.2 fun z=>?_
 simp only [l9,jS,ln];omega
theorem Wn(A:aj)(n c:Nat)(rs:List aO)(M:ah)(w:aa)(hR:bF w A n rs M)(hM:bI M)(yA:aR M M.length<=500):
 aJ prog 182 [.agg #[.slice A n c]] w (fun v w'=>∃X cx Y cy ys,v= .agg #[ak (M.length:Int),.slice X (aR M M.length+2) cx,.slice Y (aR M M.length+2) cy]/\ys.length=aR M M.length+2/\St w w' (ax 2 X (aR M M.length+2) cx (ik M.length (bU M M.length))::(aS 34 2 Y (aR M M.length+2) cy ys (lQ (aR M M.length) (bQ M))++ []))):=by
 have h5:=hM.1;have hP:=tz hM yA;have zY:=pq M M.length;have s5:=vR M;have cn:∀e:Int,0<=e->e< ((bU M M.length).length:Int)->(gl (bQ M) e).length<=500/\∀d∈gl (bQ M) e,0<=d/\d< ((bU M M.length).length:Int):=fun e h0 h=>by
  have h2:=hP.at_ (e:=e) h0 h;refine⟨?_,fun d hd=>by have:=(h2.2.1 d hd).1;omega⟩;have:=q8 (N:=(bU M M.length).length) h2.1.nodup fun x hx=>by have:=(h2.2.1 x hx).1;omega
  omega
 have VH:=fun(e:Int) (h0:0<=e) (h:e< ((bU M M.length).length:Int))=>hP.ri h0 h
 have hpo:=aim A n c rs M;generalize bU M M.length=R at*;generalize bQ M=B at*;generalize M.length=d at*;generalize aR M d=N at*;rw [zY]at cn VH;refine bC func182 O ntmps182 O (re O O) (bh O (jH (St.refl w) O O ?_));intro A1 w1 aH;refine nP aH O fun A2 w2 aF=>ar O (ao.cN 0 (aF.rd 1 O) O O O (aL (hpo _ (aF.b7 hR) hM) O ?_));rintro _ w3 ⟨AR,cR,AD,cD,dB,rfl,mH,av⟩;have aQ:=(aF.call av).perm nL;refine nP aQ O fun A3 w4 aX=>b5 3 0 aX O O O O O O O ?_;intro w5 ba;have gI:Rd w5 A3 3 (fun q=> [Value.int .i64 (d:Int),.slice AR N cR,.slice AD N cD].getD q undef):=ba.rd 0 O;have ba:St w w5 (bJ A3 d AR N cR AD N cD::sU A2 0 none 0 0 none 0 0::Bx 24 1 A1 [.slice A n c]::(ax 2 AR N cR R::(aS 34 2 AD N cD dB B++ []))):=ba;have Jh:cL w5 AR N R:=ba.bz 3 O;have BU:bF w5 AD N dB B:=(ba.sub (show(aS 34 2 AD N cD dB B).Sublist _ from(((((by rw [fI];exact lJ _:(aS 34 2 AD N cD dB B).Sublist (aS 34 2 AD N cD dB B++ [])).cons _).cons _).cons _).cons _))).nJ s5;clear aQ aF aH;refine ar O (aV gI O (gP (j:=0) gI (by exact aE Value.pointer O) O O O O (eL (i:= -1) (St.refl w5) O O O ?_)));intro X w6 zZ;refine jr zZ O fun oy w7 oT=>lp oT O O O fun Y w8 oa=>ZL (by exact inferInstance) (by exact inferInstance) (by exact inferInstance) O O O O O O O O O O (nP oa O ?_);intro A4 w9 qO;refine b5 3 0 qO O O O O O O O ?_;intro dY D4;have D4:St w5 dY (sU A4 d X 1 1 Y 1 1::ax 2 X 1 1 (-1::R.take 0)::(aS 34 2 Y 1 1 [⟨oy,0,0⟩] (oH B 0)++ [])):=D4.perm (akX _ _ _ _);clear qO oa oT zZ;refine aC O (Cd.loop (α:=Nat×(aj×Nat)×(aj×Nat)×List aO) (fun z=> [(2,.pointer A2),(3,.pointer A3),(4,.pointer A4),(5,ak (z.1:Int))]) (fun z w'=>z.1<=N/\z.2.2.2.length=z.1+1/\St w5 w' (sU A4 d z.2.1.1 (z.1+1) z.2.1.2 z.2.2.1.1 (z.1+1) z.2.2.1.2::ax 2 z.2.1.1 (z.1+1) z.2.1.2 (-1::R.take z.1)::(aS 34 2 z.2.2.1.1 (z.1+1) z.2.2.1.2 z.2.2.2 (oH B z.1)++ []))) (fun z=>N - z.1) (0,(X,1),(Y,1),[⟨oy,0,0⟩]) (aqv O) ⟨bg _,O,D4⟩ ?_);clear D4;rintro⟨i,⟨X,cX⟩,⟨Y,cY⟩,ys⟩ e eF ⟨hi,yW,hT⟩;dsimp only at hi yW hT|-;have Uj:=Rd.below gI hT.below;refine bh O (aV Uj O (aqp (j:=1) Uj (by exact aE Value.pointer O) O O O O ?_));refine a8 O O (aC O ?_);refine aM _ O (fun h1=>?_) (fun h1=>?_)
 ·have hiN:i<N:=by omega
  have J1:=cn (i:Int) am am;refine aA O (eL (i:=0) hT O O O ?_);intro A6 fH T7;refine aC O (Cd.loop (α:=Nat×aj×Nat) (fun z=> [(2,.pointer A2),(3,.pointer A3),(4,.pointer A4),(5,ak i),(6,.slice z.2.1 (z.1+1) z.2.2),(7,ak (z.1:Int))]) (fun z w'=>z.1<=(gl B i).length/\St w5 w' (ax 2 z.2.1 (z.1+1) z.2.2 (0::((gl B i).take z.1).map (· +1))::sU A4 d X (i+1) cX Y (i+1) cY::ax 2 X (i+1) cX (-1::R.take i)::(aS 34 2 Y (i+1) cY ys (oH B i)++ []))) (fun z=> (gl B i).length - z.1) (0,A6,1) (aqv O) ⟨bg _,T7⟩ ?_);clear T7 hT;rintro⟨j,A6,c6⟩ e gG ⟨hj,hT⟩;dsimp only at hj hT|-;have D9:=Rd.below gI hT.below;have F2:=BU.aq hT.below;have iL:=F2.at_ (i:=(i:Int)) am am;have jk:=iL.1;refine bh O (aV D9 O (aqp (j:=2) D9 (by exact aE Value.pointer O) O O O O (ar O (aD F2.top.2 O (b9 F2.top O ?_)))));refine a8 O O (aC O ?_);refine aM _ O (fun h2=>?_) (fun h2=>?_)
  ·have mn:j< (gl B i).length:=by omega
   have mU:=J1.2 _ (gi_in mn);refine aA O (aV D9 O (aqp (j:=2) D9 (by exact aE Value.pointer O) O O O O (ar O (aD F2.top.2 O (b9 F2.top O (ar O (aD iL.2 O (aY iL O (aI O ?_)))))))));refine eL hT O O O fun A9 mO s8=>fu 1 s8 O (s8.bz 0 O) O O O ?_;intro AZ cZ sC yp;have yp:=yp.tail;refine ar O (aI O (aT O (tQ ?_)));refine⟨(j+1,AZ,cZ),by show(gl B i).length - (j+1)< (gl B i).length - j;omega,(aqv O),by show j+1<=_;omega,?_⟩;show St w5 sC (ax _ AZ (j+1+1) cZ (0::((gl B i).take (j+1)).map (· +1))::_);rw [E0 mn,iI];exact yp
  have u7:(gl B i).take j=gl B i:=iY am;rw [u7]at hT;have iJ:=Jh.aq hT.below;have vU:=hT.rd 1 O;have JY:=VH (i:Int) am am;have yR:R.take (i+1)=R.take i++ [gi R i]:=E0 am;refine bp O (bt (sI O ?_));refine kK [8,10] [yP (ay (A4) 1),yS (X) (i+1) (cX),yP (ay (A3) 1),yS (AR) (N) (cR),yI ((i:Int)),yP (ay (AR) ((i:Int)).toNat),yI (gi (R) ((i:Int))),.pr (fun v w'=>∃A9,v= .slice A9 1 1/\St w5 w' (ax 2 A9 1 1 [gi R i]::ax 2 A6 (j+1) c6 (0::(gl B i).map (· +1))::sU A4 d X (i+1) cX Y (i+1) cY::ax 2 X (i+1) cX (-1::R.take i)::(aS 34 2 Y (i+1) cY ys (oH B i)++ []))),.pr (fun v w'=>∃AZ cZ,v= .slice AZ (i+1+1) cZ/\St w5 w' (ax 2 A6 (j+1) c6 (0::(gl B i).map (· +1))::sU A4 d X (i+1) cX Y (i+1) cY::ax 2 AZ (i+1+1) cZ ((-1::R.take i)++ [gi R i])::(aS 34 2 Y (i+1) cY ys (oH B i)++ []))),yP (ay A4 1),.pr (fun _ w'=>∃AZ cZ,St w5 w' (ax 2 A6 (j+1) c6 (0::(gl B i).map (· +1))::sU A4 d AZ (i+1+1) cZ Y (i+1) cY::ax 2 AZ (i+1+1) cZ ((-1::R.take i)++ [gi R i])::(aS 34 2 Y (i+1) cY ys (oH B i)++ [])))] (ly (ly (ly (ly (ly (ly (ly (cH.2 ⟨Ye.cJ (fun v w w' h hb=>by obtain⟨A9,hv,hT⟩:=h;exact⟨A9,hv,hT.aq hb⟩),(cH.2 ⟨Ye.cJ (fun v w w' h hb=>by obtain⟨AZ,cZ,hv,hT⟩:=h;exact⟨AZ,cZ,hv,hT.aq hb⟩),(ly (cH.2 ⟨Ye.cJ (fun v w w' h hb=>by obtain⟨AZ,cZ,hT⟩:=h;exact⟨AZ,cZ,hT.aq hb⟩),(fun _ h=>by cases h)⟩))⟩)⟩)))))))) ?_ ?_
  ·refine⟨cP fun _ _ hb _ _ _=>aV (vU.below hb) O (bG O O),cP fun _ _ hb _ _ _=>bj (vU.below hb) O (bG O O),cP fun _ _ hb _ _ _=>aV (D9.below hb) O (bG O O),cP fun _ _ hb _ _ _=>bj (D9.below hb) O (bG O O),bZ O,cP fun _ _ hb _ _ _=>aD (iJ.aq hb).2 O (bG O O),cP fun _ _ hb _ _ _=>aY (iJ.aq hb) O (bG O O),?_,?_,?_,?_,au⟩
   ·refine cP fun e1 w1 hb hp aU hq=>?_
    exact eL (St.refl _) O O O fun A9 w9 av=>ao.n (fM.dn O av.below ⟨A9,O,(hT.aq hb).call av⟩)
   ·refine kO fun e1 w1 hb hp aU hq=>?_
    obtain⟨A9,h53,qO⟩:=(hp 7 _ _ (by kernel_rfl) rfl rfl (by kernel_rfl));refine fu 3 qO O (qO.bz 0 O) O (by exact h53) O ?_;intro AZ cZ wZ hZ;exact ao.n (gn.dn O ⟨AZ,cZ,O,hZ.tail⟩)
   ·intro e1 w1 cc fo dv fL hp aU hq;show ao _ _ _ _ _ _ _;have hX:Rd w1 A4 3 (fun q=> [Value.int .i64 (d:Int),.slice X (i+1) cX,.slice Y (i+1) cY].getD q undef):=by { have dv:=qZ dv (b:=1) (by kernel_rfl);rcases(show cc=0\/cc=1 by omega)with h | h; { exact Rd.below vU (fL h) }; { subst h;obtain⟨AZ,cZ,_,Cb⟩:=hq 8 _ _ (by kernel_rfl) (by kernel_rfl) (by kernel_rfl) rfl rfl (by kernel_rfl);exact Cb.rd 1 rfl } }
    refine aV hX O (ao.n (iz O (by exact O)))
   refine sS 1 fun e1 w1 hp aU hq=>?_
   have fh:=hp 8 _ _ (by kernel_rfl) O O (by kernel_rfl);obtain⟨AZ,cZ,h54,Cb⟩:=fh;refine ki 1 Cb O O (by exact h54) O O ?_;intro eF BX;exact ao.n (gn.st O ⟨AZ,cZ,BX⟩)
  intro u mO _ hu _ _;obtain⟨AZ,cZ,s8⟩:=hu 10 _ rfl (by kernel_rfl);clear hT vU;refine Hi (F:=[(2,.pointer A2),(3,.pointer A3),(4,.pointer A4),(5,ak i),(6,.slice A6 (j+1) c6)]) (aqv O) (jD O (aV (s8.rd 1 O) O (aqp (j:=2) (s8.rd 1 O) (by exact aE Value.pointer O) O O O O (ar O (lp s8 O O O ?_)))));intro A9 sC yp;refine lK 4 yp O (yp.fQ 0 O) O O O am am O fun AQ cQ vD Gc=>aV (Gc.rd 2 O) O (ki 2 (j:=2) Gc O O O O O ?_);intro qB BZ;have BZ:=BZ.tail;have B3:St w5 qB (ax 2 A6 (j+1) c6 (0::(gl B i).map (· +1))::sU A4 d AZ (i+1+1) cZ AQ (i+1+1) cQ::ax 2 AZ (i+1+1) cZ ((-1::R.take i)++ [gi R i])::cg 34 AQ (i+1+1) cQ (ys++ [⟨A6,j+1,c6⟩])::(da 2 ys (oH B i)++ [])):=BZ;have B3:=B3.perm (Xl _ _ _ _ _);rw [<-pZ (by rw [yW,Dw]),<-aau]at B3;refine ar O (aI O (aT O (tQ ?_)));refine⟨(i+1,(AZ,cZ),(AQ,cQ),ys++ [⟨A6,j+1,c6⟩]),by show N - (i+1)<N - i;omega,(aqv O),by show i+1<=N;omega,by simp [yW],?_⟩;show St w5 qB (_::ax _ AZ (i+1+1) cZ (-1::R.take (i+1))::_);rw [yR];exact B3
 obtain rfl:i=N:=by omega
 have vU:=hT.rd 0 O;have hRt:R.take i=R:=iY am;rw [hRt]at hT;refine bp O (bt (sI O ?_));refine kK [7,9] [yP (ay (A4) 2),yS (Y) (i+1) (cY),yP (ay (A4) 1),yS (X) (i+1) (cX),yI (((i+1:Nat):Int)),.pr (fun v w'=>∃A7 c7,v= .slice A7 (i+1) c7/\St w5 w' (ax 2 A7 (i+1) c7 (bY (i+1))::sU A4 d X (i+1) cX Y (i+1) cY::ax 2 X (i+1) cX (-1::R)::(aS 34 2 Y (i+1) cY ys (oH B i)++ []))),.pr (fun v w'=>∃A8 A7 c7,v= .slice A8 1 1/\St w5 w' (cg 34 A8 1 1 [⟨A7,i+1,c7⟩]::ax 2 A7 (i+1) c7 (bY (i+1))::sU A4 d X (i+1) cX Y (i+1) cY::ax 2 X (i+1) cX (-1::R)::(aS 34 2 Y (i+1) cY ys (oH B i)++ []))),.pr (fun v w'=>∃AQ cQ A7 c7,v= .slice AQ (i+1+1) cQ/\St w5 w' (ax 2 A7 (i+1) c7 (bY (i+1))::sU A4 d X (i+1) cX Y (i+1) cY::ax 2 X (i+1) cX (-1::R)::cg 34 AQ (i+1+1) cQ (ys++ [⟨A7,i+1,c7⟩])::(da 2 ys (oH B i)++ []))),yP (ay A4 2),.pr (fun _ w'=>∃AQ cQ A7 c7,St w5 w' (ax 2 A7 (i+1) c7 (bY (i+1))::sU A4 d X (i+1) cX AQ (i+1+1) cQ::ax 2 X (i+1) cX (-1::R)::cg 34 AQ (i+1+1) cQ (ys++ [⟨A7,i+1,c7⟩])::(da 2 ys (oH B i)++ [])))] (ly (ly (ly (ly (ly (cH.2 ⟨Ye.cJ (fun v w w' h hb=>by obtain⟨A9,c9,hv,hT⟩:=h;exact⟨A9,c9,hv,hT.aq hb⟩),(cH.2 ⟨Ye.cJ (fun v w w' h hb=>by obtain⟨A8,A9,c9,hv,hT⟩:=h;exact⟨A8,A9,c9,hv,hT.aq hb⟩),(cH.2 ⟨Ye.cJ (fun v w w' h hb=>by obtain⟨AQ,cQ,A7,c7,hv,hT⟩:=h;exact⟨AQ,cQ,A7,c7,hv,hT.aq hb⟩),(ly (cH.2 ⟨Ye.cJ (fun v w w' h hb=>by obtain⟨AQ,cQ,A7,c7,hT⟩:=h;exact⟨AQ,cQ,A7,c7,hT.aq hb⟩),(fun _ h=>by cases h)⟩))⟩)⟩)⟩)))))) ?_ ?_
 ·refine⟨cP fun _ _ hb _ _ _=>aV (vU.below hb) O (bG O O),cP fun _ _ hb _ _ _=>bj (vU.below hb) O (bG O O),cP fun _ _ hb _ _ _=>aV (vU.below hb) O (bG O O),cP fun _ _ hb _ _ _=>bj (vU.below hb) O (bG O O),aP fun _ _=>a8 O O (bG O O),?_,?_,?_,?_,?_,au⟩
  ·refine cP fun e1 w1 hb hp aU hq=>?_
   refine aL (aib (i+1) _ am) O ?_;rintro _ w9 ⟨A7,c7,rfl,jN⟩;exact ao.n (fM.dn O jN.below ⟨A7,c7,O,(hT.aq hb).call jN⟩)
  ·refine cP fun e1 w1 hb hp aU hq=>?_
   obtain⟨A7,c7,F0,qO⟩:=(hp 5 _ _ (by kernel_rfl) rfl rfl (by kernel_rfl));refine lp (St.refl _) (by exact F0) O O ?_;intro A8 w9 jN;exact ao.n (fM.dn O jN.below ⟨A8,A7,c7,O,qO.call jN⟩)
  ·refine kO fun e1 w1 hb hp aU hq=>?_
   obtain⟨A8,A7,c7,DV,qO⟩:=(hp 6 _ _ (by kernel_rfl) rfl rfl (by kernel_rfl));refine lK 4 qO O (qO.fQ 0 O) O (by exact DV) O am am O ?_;intro AQ cQ wZ hZ;exact ao.n (gn.dn O ⟨AQ,cQ,A7,c7,O,hZ.tail⟩)
  ·intro e1 w1 cc fo dv fL hp aU hq;show ao _ _ _ _ _ _ _;have hX:Rd w1 A4 3 (fun q=> [Value.int .i64 (d:Int),.slice X (i+1) cX,.slice Y (i+1) cY].getD q undef):=by { have dv:=qZ dv (b:=1) (by kernel_rfl);rcases(show cc=0\/cc=1 by omega)with h | h; { exact Rd.below vU (fL h) }; { subst h;obtain⟨AQ,cQ,A7,c7,_,Cb⟩:=hq 7 _ _ (by kernel_rfl) (by kernel_rfl) (by kernel_rfl) rfl rfl (by kernel_rfl);exact Cb.rd 1 rfl } }
   refine aV hX O (ao.n (iz O (by exact O)))
  refine sS 1 fun e1 w1 hp aU hq=>?_
  have fh:=hp 7 _ _ (by kernel_rfl) O O (by kernel_rfl);obtain⟨AQ,cQ,A7,c7,TJ,Cb⟩:=fh;refine ki 1 Cb O O (by exact TJ) O O ?_;intro eF BX;exact ao.n (gn.st O ⟨AQ,cQ,A7,c7,BX⟩)
 intro u mO _ hu _ _;obtain⟨AQ,cQ,A7,c7,s8⟩:=hu 9 _ rfl (by kernel_rfl);clear hT vU;have s8:=s8.perm (Xl _ _ _ _ _);rw [<-pZ (by rw [yW,Dw])]at s8;have Uk:=Rd.below gI s8.below;refine Hi (F:=[(2,.pointer A2),(3,.pointer A3),(4,.pointer A4)]) (aqv O) (jD O (aV (s8.rd 0 O) O (aqp (j:=1) (s8.rd 0 O) (by exact aE Value.pointer O) O O O O (aV Uk O (gP (j:=0) Uk (by exact aE Value.pointer O) O O O O (eL s8 O O O ?_))))));intro A9 sC yp;refine fu 2 yp O (yp.bz 0 O) O O O fun AZ cZ vD Gc=>aV (Gc.rd 1 O) O (ki 1 (j:=1) Gc O O O O O ?_);intro qB BZ;have BZ:=BZ.tail;have B3:St w5 qB (sU A4 d AZ (i+2) cZ AQ (i+2) cQ::ax 2 AZ (i+2) cZ (ik d R)::(aS 34 2 AQ (i+2) cQ (ys++ [⟨A7,i+1,c7⟩]) (lQ i B)++ [])):=BZ;have kE:=(ba.call B3).perm nL;refine ar O (ao.cN 2 (B3.rd 0 O) O O O (b5 3 1 kE O O O O O O O ?_));intro zu py;refine bH O (iA O (py.rd 1 O) ?_);refine⟨AZ,cZ,AQ,cQ,ys++ [⟨A7,i+1,c7⟩],O,by simp [yW],py.sub (show List.Sublist _ (_::_::_::_::((aS 34 2 AD i cD dB B++ [])++ (sU A4 d AZ (i+2) cZ AQ (i+2) cQ::_))) from((((((lJ _).cons _).trans (kA _ _)).cons _).cons _).cons _).cons _)⟩
end
section
section
variable (m1 m2:Nat) (rk1 rk2:Int->Int) (kind:Int)
def tB(i:Int)(a:Int)(b:Nat):List (Int×Int):=((bY b).filter fun b=>decide (dh rk1 rk2 kind (a,b)=i/\¬ru m1 m2 kind (a,b))).map fun b=> (a,b)
def gZ(i a b:Nat):List (Int×Int):=cK m1 m2 rk1 rk2 kind i++ ((bY a).flatMap (fun a=>tB m1 m2 rk1 rk2 kind i a m2)++tB m1 m2 rk1 rk2 kind i (a:Int) b)
end
section
variable {m1 m2:Nat} {rk1 rk2:Int->Int} {kind:Int} {i a b:Nat}
theorem KE:gZ m1 m2 rk1 rk2 kind i 0 0=cK m1 m2 rk1 rk2 kind i:=by simp [gZ,tB,bY]
theorem alS:gZ m1 m2 rk1 rk2 kind i (a+1) 0=gZ m1 m2 rk1 rk2 kind i a m2:=by
 unfold gZ;rw [wx,List.flatMap_append];simp [tB,bY]
theorem alQ:gZ m1 m2 rk1 rk2 kind i m1 0=gZ m1 m2 rk1 rk2 kind (i+1) 0 0:=by
 rw [KE];unfold gZ;rw [cK]
 congr 1
 have:tB m1 m2 rk1 rk2 kind (i:Int) (m1:Int) 0=[]:=O;rw [this,fI]
 rfl
theorem alO(h:dh rk1 rk2 kind ((a:Int),(b:Int))=i/\¬ru m1 m2 kind ((a:Int),(b:Int))):gZ m1 m2 rk1 rk2 kind i a (b+1)=gZ m1 m2 rk1 rk2 kind i a b++ [((a:Int),(b:Int))]:=by
 unfold gZ;have e:tB m1 m2 rk1 rk2 kind (i:Int) (a:Int) (b+1)=tB m1 m2 rk1 rk2 kind (i:Int) (a:Int) b++ [((a:Int),(b:Int))]:=by
  unfold tB;rw [wx,sK,iI,Bu (by simpa using h)];rfl
 rw [e,<-gV,<-gV,<-gV]
theorem alT(h:¬(dh rk1 rk2 kind ((a:Int),(b:Int))=i/\¬ru m1 m2 kind ((a:Int),(b:Int)))):gZ m1 m2 rk1 rk2 kind i a (b+1)=gZ m1 m2 rk1 rk2 kind i a b:=by
 unfold gZ;have e:tB m1 m2 rk1 rk2 kind (i:Int) (a:Int) (b+1)=tB m1 m2 rk1 rk2 kind (i:Int) (a:Int) b:=by
  unfold tB;rw [wx,sK,iI,xZ (by simpa using h)];simp
 rw [e]
theorem Xz:∀ {k j:Nat},j<=k->(cK m1 m2 rk1 rk2 kind j).length<=(cK m1 m2 rk1 rk2 kind k).length
 | 0,j,h=>by
  obtain rfl:j=0:=by omega
  exact br _
 | k+1,j,h=>by
  by_cases e:j=k+1
  ·subst e;exact br _
  ·have:=Xz (k:=k) (j:=j) am;rw [cK,ck];omega
theorem XM(i a:Int)(b:Nat):(tB m1 m2 rk1 rk2 kind i a b).length<=b:=by
 unfold tB;rw [fS];refine mS (sL _ _) ?_;rw [bY,fS,rA];exact br _
theorem XL(i:Int):∀a:Nat,((bY a).flatMap (fun a=>tB m1 m2 rk1 rk2 kind i a m2)).length<=a*m2
 | 0=>by simp [bY]
 | a+1=>by
  have h1:=XL i a;have h2:=XM (m1:=m1) (m2:=m2) (rk1:=rk1) (rk2:=rk2) (kind:=kind) i (a:Int) m2;rw [wx,List.flatMap_append,ck,Nat.succ_mul];simp only [List.flatMap_cons,List.flatMap_nil,fI];omega
theorem alN(h:(cK m1 m2 rk1 rk2 kind i).length<=500)(hb:b<=m2):(gZ m1 m2 rk1 rk2 kind i a b).length<=500+ (a*m2+b):=by
 unfold gZ;have h1:=XL (m1:=m1) (m2:=m2) (rk1:=rk1) (rk2:=rk2) (kind:=kind) (i:Int) a;have h2:=XM (m1:=m1) (m2:=m2) (rk1:=rk1) (rk2:=rk2) (kind:=kind) (i:Int) (a:Int) b;rw [ck,ck];omega
end
end
section
open Go.RowKit
variable{w w' w0:aa}{B BL M K:ah}
structure wK(w:aa)(X8:aj)(X:ai)(N:Nat)(Y8:aj)(ys:List aO)(B:ah):Prop where
 len:X.length=N+2
 qd:N<=500
 rk:cL w X8 (N+2) X
 bl:bF w Y8 (N+2) ys (lQ N B)
 bd:∀e:Int,0<=e->e< (N:Int)->(gl B e).length<=500/\∀d∈gl B e,0<=d/\d< (N:Int)
theorem wK.aq{X8:aj}{X:ai}{N:Nat}{Y8:aj}{ys:List aO}(h:wK w X8 X N Y8 ys B)(hb:Below w.heap.size w w'):wK w' X8 X N Y8 ys B:=⟨h.len,h.qd,h.rk.aq hb,h.bl.aq hb,h.bd⟩
def K3(k:Nat)(RL:ai)(BL:ah)(w:aa)(v:ad)(w':aa):Prop:=((5<k\/500<RL.length)/\v= .tuple #[.agg #[ak 0,.slice none 0 0,.slice none 0 0],.bool false]/\St w w' [])\/((k<=5/\RL.length<=500)/\∃AR c AD d rs,v= .tuple #[.agg #[ak k,.slice AR RL.length c,.slice AD RL.length d],.bool true]/\rs.length=RL.length/\BL.length=RL.length/\St w w' (ax 2 AR RL.length c RL::(aS 34 2 AD RL.length d rs BL++ [])))
abbrev sq(bN cG fR AR:aj)(dC gO cR:Nat)(L:List (Int×Int))(rk:Int×Int->Int)(k:Int)(KK:List Ck):List Ck:=
 ax 2 bN L.length dC (L.map Prod.fst)::ax 2 cG L.length gO (L.map Prod.snd)::bJ fR k AR L.length cR none 0 0::ax 2 AR L.length cR (L.map rk)::KK
abbrev Hl(bN cG fR AR AD:aj)(dC gO cR cD e:Nat)(L:List (Int×Int))(rk:Int×Int->Int)(k:Int)(A6 A4 A3:aj)(v4 v3:List ad)(dB:List aO)(B:ah):List Ck:=
 ax 2 bN L.length dC (L.map Prod.fst)::ax 2 cG L.length gO (L.map Prod.snd)::bJ fR k AR L.length cR AD e cD::ax 2 AR L.length cR (L.map rk)::bJ A6 0 none 0 0 none 0 0::Bx 175 3 A4 v4::Bx 175 3 A3 v3::(aS 34 2 AD e cD dB B++ [])
theorem akV{α:Type}(b m q1 q2 q3 q4 q5 q6 q7:α)(X:List α):(b::q1::q2::q3::q4::q5::q6::q7::m::(X++ [])).Perm (q1::q2::q3::q4::q5::q6::q7::m::((X++ [b])++ [])):=by
 classical
 refine jT.2 fun z=>?_
 simp only [l9,jS,ln];omega
theorem ak0{α:Type}(a b c d:α)(X:List α):(a::b::c::d::X).Perm (d::c::b::a::X):=by
 classical
 refine jT.2 fun z=>?_
 simp only [jS];omega
theorem ais(X8 Z8 Y8 W8:aj)(cx cz cy cw:Nat)(N1 N2:Nat)(X1 X2:ai)(wG xV:List aO)(B1 B2:ah)(n1 n2 kind:Int)(k:Nat)(w:aa)(nY:wK w X8 X1 N1 Y8 wG B1)(oR:wK w Z8 X2 N2 W8 xV B2)(zS:gg (N1+2) n1 (gi X1) (eM N1 B1))(zT:gg (N2+2) n2 (gi X2) (eM N2 B2))(hk:0<=kind/\kind<=2)(jb:(k:Int)=iM n1 n2 kind)(tp:n1<=5)(Er:n2<=5):
 aJ prog 236 [.agg #[ak n1,.slice X8 (N1+2) cx,.slice Y8 (N1+2) cy],.agg #[ak n2,.slice Z8 (N2+2) cz,.slice W8 (N2+2) cw],ak kind] w (K3 k ((cK (N1+2) (N2+2) (gi X1) (gi X2) kind k).map (dh (gi X1) (gi X2) kind)) (nH (eM N1 B1) (eM N2 B2) (cK (N1+2) (N2+2) (gi X1) (gi X2) kind k)) w):=by
 have dE:=nY.qd;have eB:=oR.qd;have iT:=nY.len;have qY:=oR.len;have af0:=zS.n0;have af2:=zT.n0;have Gv:(k:Int)=n1+n2+ (if kind=0 then 1 else 0):=by rw [jb];unfold iM;split<;>omega
 refine bC func236 O ntmps236 O (ur O O) (bh O (oG (St.refl w) O O ?_));intro A3 w1 aH;refine oG aH O O fun A4 w2 aF=>nP aF O ?_;intro A6 w3 aQ;have xw:=aQ.rd 2 O;have wk:=aQ.rd 1 O;refine ar O (aV xw O (gP (j:=0) xw (by exact aE Value.pointer O) O O O O (aV wk O (gP (j:=0) wk (by exact aE Value.pointer O) O O O O ?_))));refine aI O (Fg 0 O ?_);refine uF (α:=Unit) (fun _=> [(2,ak kind),(3,.pointer A3),(4,.pointer A4),(6,.pointer A6),(8,ak k),(9,ak 1)]) (fun _ w'=>w'=w3) ?_ ?_
 ·refine bL O (aM _ O (fun h1=>?_) (fun h1=>?_))
  ·refine aA O (aI O (aT O (tQ ?_)));exact⟨(),⟨O,O,O,O,aE (Value.int .i64) (by rw [Gv,aB h1]),O,au⟩,O⟩
  refine oC O (tQ ?_);exact⟨(),⟨O,O,O,O,aE (Value.int .i64) (by rw [Gv,az h1,Int.add_zero]),O,au⟩,O⟩
 rintro _ e w4 rfl;refine uF (α:=Unit) (fun _=> [(2,ak kind),(3,.pointer A3),(4,.pointer A4),(6,.pointer A6),(8,ak k),(9,ak (fD kind))]) (fun _ w'=>w'=w4) ?_ ?_
 ·refine bL O (aM _ O (fun h1=>?_) (fun h1=>?_))
  ·refine oC O (tQ ?_);exact⟨(),⟨O,O,O,O,O,congrArg (Value.int .i64) (by unfold fD;rw [if_pos h1]),trivial⟩,O⟩
  refine oC O (tQ ?_);exact⟨(),⟨O,O,O,O,O,congrArg (Value.int .i64) (by unfold fD;rw [if_neg h1]),trivial⟩,O⟩
 rintro _ e w5 rfl;refine dA O (aM _ O (fun h1=>?_) (fun h1=>?_))
 ·refine aA O (De (by exact inferInstance) (by exact inferInstance) (by exact inferInstance) O (b5 3 0 aQ O O O O O O O ?_));intro w7 bK;refine bH O (kG O (bK.rd 0 O) O ?_);exact .inl ⟨.inl am,O,bK.none⟩
 have NT:k<=5:=by omega
 obtain⟨KK,s7⟩:∃KK:List Ck,KK=[bJ A6 0 none 0 0 none 0 0,Bx 175 3 A4 [ak n2,.slice Z8 (N2+2) cz,.slice W8 (N2+2) cw],Bx 175 3 A3 [ak n1,.slice X8 (N1+2) cx,.slice Y8 (N1+2) cy]]:=⟨_,rfl⟩;have aQ:St w w5 KK:=by rw [s7];exact aQ
 refine aA O (jr aQ O ?_);intro bN w6 bo;refine jr bo O fun cG w7 bK=>ar O (HO (by exact inferInstance) (by exact inferInstance) (by exact inferInstance) O O O O O O (nP bK O ?_));intro fR w8 cj;refine ar O (b5 3 0 cj O O O O O O O ?_);intro w9 bT;have bT:St w w9 (sq bN cG fR none 0 0 0 (gZ (N1+2) (N2+2) (gi X1) (gi X2) kind 0 0 0) (dh (gi X1) (gi X2) kind) k KK):=by
  have h9:=bT.nil 2;rw [KE];exact h9.perm (ak0 _ _ _ _ _)
 clear cj bK bo;have qT:∀ {w':aa} {ks:List Ck},St w w' (ks++KK)->Rd w' A3 3 (fun j=> [Value.int .i64 n1,.slice X8 (N1+2) cx,.slice Y8 (N1+2) cy].getD j undef):=fun h=>by
  have h9:=h.sub (kA _ _);rw [s7]at h9;exact h9.rd 2 O
 have uf:∀ {w':aa} {ks:List Ck},St w w' (ks++KK)->Rd w' A4 3 (fun j=> [Value.int .i64 n2,.slice Z8 (N2+2) cz,.slice W8 (N2+2) cw].getD j undef):=fun h=>by
  have h9:=h.sub (kA _ _);rw [s7]at h9;exact h9.rd 1 O
 have Cx:∀a:Nat,a<=N1+2->a* (N2+2)<=502*502:=fun a h=>Nat.mul_le_mul am am
 refine aC O (Cd.loop (α:=Nat×(aj×Nat)×(aj×Nat)×(aj×Nat)) (fun z=> [(2,ak kind),(3,.pointer A3),(4,.pointer A4),(6,.pointer A6),(8,ak k),(9,ak (fD kind)),(12,.pointer fR),(10,.slice z.2.1.1 (gZ (N1+2) (N2+2) (gi X1) (gi X2) kind z.1 0 0).length z.2.1.2),(11,.slice z.2.2.1.1 (gZ (N1+2) (N2+2) (gi X1) (gi X2) kind z.1 0 0).length z.2.2.1.2),(13,ak (z.1:Int))]) (fun z w'=>z.1<=k/\(cK (N1+2) (N2+2) (gi X1) (gi X2) kind z.1).length<=500/\St w w' (sq z.2.1.1 z.2.2.1.1 fR z.2.2.2.1 z.2.1.2 z.2.2.1.2 z.2.2.2.2 (gZ (N1+2) (N2+2) (gi X1) (gi X2) kind z.1 0 0) (dh (gi X1) (gi X2) kind) k KK)) (fun z=>k - z.1) (0,(bN,0),(cG,0),(none,0)) (aqv O) ⟨bg _,bg _,bT⟩ ?_);clear bT;rintro⟨i,⟨bN,dC⟩,⟨cG,gO⟩,⟨AR,cR⟩⟩ e dY ⟨hi,hlen,hS⟩;dsimp only at hi hlen hS|-;refine bL O (aM _ O (fun h2=>?_) (fun h2=>?_))
 ·have nB:i<k:=by omega
  refine dA O (Cd.loop (α:=Nat×(aj×Nat)×(aj×Nat)×(aj×Nat)) (fun z=> [(2,ak kind),(3,.pointer A3),(4,.pointer A4),(6,.pointer A6),(8,ak k),(9,ak (fD kind)),(12,.pointer fR),(10,.slice z.2.1.1 (gZ (N1+2) (N2+2) (gi X1) (gi X2) kind i z.1 0).length z.2.1.2),(11,.slice z.2.2.1.1 (gZ (N1+2) (N2+2) (gi X1) (gi X2) kind i z.1 0).length z.2.2.1.2),(13,ak i),(14,ak (z.1:Int))]) (fun z w'=>z.1<=N1+2/\St w w' (sq z.2.1.1 z.2.2.1.1 fR z.2.2.2.1 z.2.1.2 z.2.2.1.2 z.2.2.2.2 (gZ (N1+2) (N2+2) (gi X1) (gi X2) kind i z.1 0) (dh (gi X1) (gi X2) kind) k KK)) (fun z=>N1+2 - z.1) (0,(bN,dC),(cG,gO),(AR,cR)) (aqv O) ⟨bg _,hS⟩ ?_);clear hS;rintro⟨a,⟨bN,dC⟩,⟨cG,gO⟩,⟨AR,cR⟩⟩ e eF ⟨ha,hS⟩;dsimp only at ha hS|-;have ML:=qT (ks:=[_,_,_,_]) hS;refine bh O (aV ML O (aqp (j:=1) ML (by exact aE Value.pointer O) O O O O ?_));refine a8 O O (aC O ?_);refine aM _ O (fun h3=>?_) (fun h3=>?_)
  ·have D6:a<N1+2:=by omega
   have hsqa:=Cx a am;refine dA O (Cd.loop (α:=Nat×(aj×Nat)×(aj×Nat)×(aj×Nat)) (fun z=> [(2,ak kind),(3,.pointer A3),(4,.pointer A4),(6,.pointer A6),(8,ak k),(9,ak (fD kind)),(12,.pointer fR),(10,.slice z.2.1.1 (gZ (N1+2) (N2+2) (gi X1) (gi X2) kind i a z.1).length z.2.1.2),(11,.slice z.2.2.1.1 (gZ (N1+2) (N2+2) (gi X1) (gi X2) kind i a z.1).length z.2.2.1.2),(13,ak i),(14,ak a),(15,ak (z.1:Int))]) (fun z w'=>z.1<=N2+2/\St w w' (sq z.2.1.1 z.2.2.1.1 fR z.2.2.2.1 z.2.1.2 z.2.2.1.2 z.2.2.2.2 (gZ (N1+2) (N2+2) (gi X1) (gi X2) kind i a z.1) (dh (gi X1) (gi X2) kind) k KK)) (fun z=>N2+2 - z.1) (0,(bN,dC),(cG,gO),(AR,cR)) (aqv O) ⟨bg _,hS⟩ ?_);clear hS ML;rintro⟨b,⟨bN,dC⟩,⟨cG,gO⟩,⟨AR,cR⟩⟩ e fH ⟨hb,hS⟩;dsimp only at hb hS|-;have lU:=qT (ks:=[_,_,_,_]) hS;have mh:=uf (ks:=[_,_,_,_]) hS;have hlL:=alN (a:=a) hlen hb;refine bh O (aV mh O (aqp (j:=1) mh (by exact aE Value.pointer O) O O O O ?_));refine a8 O O (aC O ?_);refine aM _ O (fun h4=>?_) (fun h4=>?_)
   ·have Jp:b<N2+2:=by omega
    have lF:=(nY.aq hS.below).rk;have l5:=(oR.aq hS.below).rk;have ga:=zS.eE (a:=(a:Int)) am;have gb:=zT.eE (a:=(b:Int)) am;have gs0:0<=fD kind/\fD kind<=1:=by unfold fD;split<;>omega
    have jx:dh (gi X1) (gi X2) kind ((a:Int),(b:Int))=gi X1 a+gi X2 b+fD kind:=O;have fY:=alT (m1:=N1+2) (m2:=N2+2) (rk1:=gi X1) (rk2:=gi X2) (kind:=kind) (i:=i) (a:=a) (b:=b);have mX:=alO (m1:=N1+2) (m2:=N2+2) (rk1:=gi X1) (rk2:=gi X2) (kind:=kind) (i:=i) (a:=a) (b:=b);have hex:ru (N1+2) (N2+2) kind ((a:Int),(b:Int))↔((kind=1/\((a:Int)=0\/(b:Int)=0))\/(kind=2/\((a:Int)=((N1+2:Nat):Int) - 1\/(b:Int)=((N2+2:Nat):Int) - 1))):=Iff.rfl;have Gi:(gi X1 a+gi X2 b+fD kind≠(i:Int))\/(gi X1 a+gi X2 b+fD kind=(i:Int)/\((kind=1/\(a:Int)=0)\/(kind=1/\(a:Int)≠0/\(b:Int)=0)\/(kind=1/\(a:Int)≠0/\(b:Int)≠0)\/(kind=2/\(a:Int)=((N1+2:Nat):Int) - 1)\/(kind=2/\(a:Int)≠((N1+2:Nat):Int) - 1/\(b:Int)=((N2+2:Nat):Int) - 1)\/(kind=2/\(a:Int)≠((N1+2:Nat):Int) - 1/\(b:Int)≠((N2+2:Nat):Int) - 1)\/kind=0)):=by omega
    rcases Gi with q1 | ⟨q1,⟨k1,p1⟩ | ⟨k1,p1,p2⟩ | ⟨k1,p1,p2⟩ | ⟨k1,p1⟩ | ⟨k1,p1,p2⟩ | ⟨k1,p1,p2⟩ | k1⟩
    ·
     refine dA O ?_;refine dU [xP (ay (A3) 1),xS (X8) (N1+2) (cx),xI ((a:Int)),xP (ay (X8) ((a:Int)).toNat),xI (gi (X1) ((a:Int))),xP (ay (A4) 1),xS (Z8) (N2+2) (cz),xI ((b:Int)),xP (ay (Z8) ((b:Int)).toNat),xI (gi (X2) ((b:Int))),xI ((gi (X1) ((a:Int)))+ (gi (X2) ((b:Int)))),xI ((fD kind)),xI (((gi (X1) ((a:Int)))+ (gi (X2) ((b:Int))))+ ((fD kind))),xI ((i:Int)),xB (decide (¬(((gi (X1) ((a:Int)))+ (gi (X2) ((b:Int))))+ ((fD kind)))=((i:Int)))),xB (true),xU,xU,xU,xU,xU,xU,xU,xU,xU,xU,xB (true),xB (true),xU,xU,xU,xU,xU,xU,xU,xU,xU,xU,xU,xU,xU,xU,xU,xU,xU,xU,xB (true)] O (eG O) ?_ ?_
     ·exact⟨fun _ _ hb _ _=>aV (lU.below hb) O Az,fun _ _ hb _ _=>bj (lU.below hb) O Az,Dr O,fun _ _ hb _ _=>aD (lF.aq hb).2 O Az,fun _ _ hb _ _=>aY (lF.aq hb) O Az,fun _ _ hb _ _=>aV (mh.below hb) O Az,fun _ _ hb _ _=>bj (mh.below hb) O Az,Dr O,fun _ _ hb _ _=>aD (l5.aq hb).2 O Az,fun _ _ hb _ _=>aY (l5.aq hb) O Az,fun _ _ _ _ _=>aI O Az,Dr O,fun _ _ _ _ _=>aI O Az,Dr O,Dr O,fun _ _ _ _ _=>Dk O (by exact aE Value.bool (dz q1)),Dr O,Dr O,Dr O,Dr O,Dr O,Dr O,Dr O,Dr O,Dr O,Dr O,Dr O,fun _ _ _ _ _=>Dk O (by exact aE Value.bool (O)),Dr O,Dr O,Dr O,Dr O,Dr O,Dr O,Dr O,Dr O,Dr O,Dr O,Dr O,Dr O,Dr O,Dr O,Dr O,Dr O,Dr O,Dr O,Dr O,au⟩
     intro u gG rT _;have hS:=hS.aq rT;refine eS O (Cd.gu O ?_);have fY:=fY (fun h=>q1 (by rw [jx]at h;exact h.1));refine aA O (aI O (aT O (tQ ?_)));exact⟨(b+1,(bN,dC),(cG,gO),(AR,cR)),by show N2+2 - (b+1)<N2+2 - b;omega,⟨O,O,O,O,O,O,O,aE (fun L:List (Int×Int)=>Value.slice bN L.length dC) fY.symm,aE (fun L:List (Int×Int)=>Value.slice cG L.length gO) fY.symm,O,O,O,au⟩,by show b+1<=N2+2;omega,by show St w gG (sq bN cG fR AR dC gO cR (gZ _ _ _ _ kind i a (b+1)) _ k KK);rw [fY];exact hS⟩
    ·refine dA O ?_;refine dU [xP (ay (A3) 1),xS (X8) (N1+2) (cx),xI ((a:Int)),xP (ay (X8) ((a:Int)).toNat),xI (gi (X1) ((a:Int))),xP (ay (A4) 1),xS (Z8) (N2+2) (cz),xI ((b:Int)),xP (ay (Z8) ((b:Int)).toNat),xI (gi (X2) ((b:Int))),xI ((gi (X1) ((a:Int)))+ (gi (X2) ((b:Int)))),xI ((fD kind)),xI (((gi (X1) ((a:Int)))+ (gi (X2) ((b:Int))))+ ((fD kind))),xI ((i:Int)),xB (decide (¬(((gi (X1) ((a:Int)))+ (gi (X2) ((b:Int))))+ ((fD kind)))=((i:Int)))),xB (false),xI (kind),xB (decide ((kind)=((1:Int)))),xB (true),xI ((a:Int)),xB (decide (((a:Int))=((0:Int)))),xB (true),xU,xU,xB (true),xB (true),xB (true),xB (true),xU,xU,xU,xU,xU,xU,xU,xU,xU,xU,xU,xU,xU,xU,xU,xU,xU,xU,xB (true)] O (eG O) ?_ ?_
     ·exact⟨fun _ _ hb _ _=>aV (lU.below hb) O Az,fun _ _ hb _ _=>bj (lU.below hb) O Az,Dr O,fun _ _ hb _ _=>aD (lF.aq hb).2 O Az,fun _ _ hb _ _=>aY (lF.aq hb) O Az,fun _ _ hb _ _=>aV (mh.below hb) O Az,fun _ _ hb _ _=>bj (mh.below hb) O Az,Dr O,fun _ _ hb _ _=>aD (l5.aq hb).2 O Az,fun _ _ hb _ _=>aY (l5.aq hb) O Az,fun _ _ _ _ _=>aI O Az,Dr O,fun _ _ _ _ _=>aI O Az,Dr O,Dr O,fun _ _ _ _ _=>Dk O (by exact aE Value.bool (cT (fun h=>h q1))),Dr O,Dr O,fun _ _ _ _ _=>Dk O (by exact aE Value.bool (dz k1)),Dr O,Dr O,fun _ _ _ _ _=>Dk O (by exact aE Value.bool (dz p1)),Dr O,Dr O,Dr O,Dr O,Dr O,fun _ _ _ _ _=>Dk O (by exact aE Value.bool (O)),Dr O,Dr O,Dr O,Dr O,Dr O,Dr O,Dr O,Dr O,Dr O,Dr O,Dr O,Dr O,Dr O,Dr O,Dr O,Dr O,Dr O,Dr O,Dr O,au⟩
     intro u gG rT _;have hS:=hS.aq rT;refine eS O (Cd.gu O ?_);have fY:=fY (fun h=>h.2 (hex.2 (.inl ⟨k1,.inl p1⟩)));refine aA O (aI O (aT O (tQ ?_)));exact⟨(b+1,(bN,dC),(cG,gO),(AR,cR)),by show N2+2 - (b+1)<N2+2 - b;omega,⟨O,O,O,O,O,O,O,aE (fun L:List (Int×Int)=>Value.slice bN L.length dC) fY.symm,aE (fun L:List (Int×Int)=>Value.slice cG L.length gO) fY.symm,O,O,O,au⟩,by show b+1<=N2+2;omega,by show St w gG (sq bN cG fR AR dC gO cR (gZ _ _ _ _ kind i a (b+1)) _ k KK);rw [fY];exact hS⟩
    ·refine dA O ?_;refine dU [xP (ay (A3) 1),xS (X8) (N1+2) (cx),xI ((a:Int)),xP (ay (X8) ((a:Int)).toNat),xI (gi (X1) ((a:Int))),xP (ay (A4) 1),xS (Z8) (N2+2) (cz),xI ((b:Int)),xP (ay (Z8) ((b:Int)).toNat),xI (gi (X2) ((b:Int))),xI ((gi (X1) ((a:Int)))+ (gi (X2) ((b:Int)))),xI ((fD kind)),xI (((gi (X1) ((a:Int)))+ (gi (X2) ((b:Int))))+ ((fD kind))),xI ((i:Int)),xB (decide (¬(((gi (X1) ((a:Int)))+ (gi (X2) ((b:Int))))+ ((fD kind)))=((i:Int)))),xB (false),xI (kind),xB (decide ((kind)=((1:Int)))),xB (true),xI ((a:Int)),xB (decide (((a:Int))=((0:Int)))),xB (false),xI ((b:Int)),xB (decide (((b:Int))=((0:Int)))),xB (decide (((b:Int))=((0:Int)))),xB (decide (((b:Int))=((0:Int)))),xB (decide (((b:Int))=((0:Int)))),xB (true),xU,xU,xU,xU,xU,xU,xU,xU,xU,xU,xU,xU,xU,xU,xU,xU,xU,xU,xB (true)] O (eG O) ?_ ?_
     ·exact⟨fun _ _ hb _ _=>aV (lU.below hb) O Az,fun _ _ hb _ _=>bj (lU.below hb) O Az,Dr O,fun _ _ hb _ _=>aD (lF.aq hb).2 O Az,fun _ _ hb _ _=>aY (lF.aq hb) O Az,fun _ _ hb _ _=>aV (mh.below hb) O Az,fun _ _ hb _ _=>bj (mh.below hb) O Az,Dr O,fun _ _ hb _ _=>aD (l5.aq hb).2 O Az,fun _ _ hb _ _=>aY (l5.aq hb) O Az,fun _ _ _ _ _=>aI O Az,Dr O,fun _ _ _ _ _=>aI O Az,Dr O,Dr O,fun _ _ _ _ _=>Dk O (by exact aE Value.bool (cT (fun h=>h q1))),Dr O,Dr O,fun _ _ _ _ _=>Dk O (by exact aE Value.bool (dz k1)),Dr O,Dr O,fun _ _ _ _ _=>Dk O (by exact aE Value.bool (cT p1)),Dr O,Dr O,Dr O,Dr O,Dr O,fun _ _ _ _ _=>Dk O (by exact aE Value.bool (dz p2)),Dr O,Dr O,Dr O,Dr O,Dr O,Dr O,Dr O,Dr O,Dr O,Dr O,Dr O,Dr O,Dr O,Dr O,Dr O,Dr O,Dr O,Dr O,Dr O,au⟩
     intro u gG rT _;have hS:=hS.aq rT;refine eS O (Cd.gu O ?_);have fY:=fY (fun h=>h.2 (hex.2 (.inl ⟨k1,.inr p2⟩)));refine aA O (aI O (aT O (tQ ?_)));exact⟨(b+1,(bN,dC),(cG,gO),(AR,cR)),by show N2+2 - (b+1)<N2+2 - b;omega,⟨O,O,O,O,O,O,O,aE (fun L:List (Int×Int)=>Value.slice bN L.length dC) fY.symm,aE (fun L:List (Int×Int)=>Value.slice cG L.length gO) fY.symm,O,O,O,au⟩,by show b+1<=N2+2;omega,by show St w gG (sq bN cG fR AR dC gO cR (gZ _ _ _ _ kind i a (b+1)) _ k KK);rw [fY];exact hS⟩
    ·refine dA O ?_;refine dU [xP (ay (A3) 1),xS (X8) (N1+2) (cx),xI ((a:Int)),xP (ay (X8) ((a:Int)).toNat),xI (gi (X1) ((a:Int))),xP (ay (A4) 1),xS (Z8) (N2+2) (cz),xI ((b:Int)),xP (ay (Z8) ((b:Int)).toNat),xI (gi (X2) ((b:Int))),xI ((gi (X1) ((a:Int)))+ (gi (X2) ((b:Int)))),xI ((fD kind)),xI (((gi (X1) ((a:Int)))+ (gi (X2) ((b:Int))))+ ((fD kind))),xI ((i:Int)),xB (decide (¬(((gi (X1) ((a:Int)))+ (gi (X2) ((b:Int))))+ ((fD kind)))=((i:Int)))),xB (false),xI (kind),xB (decide ((kind)=((1:Int)))),xB (true),xI ((a:Int)),xB (decide (((a:Int))=((0:Int)))),xB (false),xI ((b:Int)),xB (decide (((b:Int))=((0:Int)))),xB (decide (((b:Int))=((0:Int)))),xB (decide (((b:Int))=((0:Int)))),xB (decide (((b:Int))=((0:Int)))),xB (false),xI (kind),xB (decide ((kind)=((2:Int)))),xB (false),xU,xU,xU,xU,xU,xU,xU,xU,xU,xU,xU,xU,xU,xU,xB (false),xB (false)] O (eG O) ?_ ?_
     ·exact⟨fun _ _ hb _ _=>aV (lU.below hb) O Az,fun _ _ hb _ _=>bj (lU.below hb) O Az,Dr O,fun _ _ hb _ _=>aD (lF.aq hb).2 O Az,fun _ _ hb _ _=>aY (lF.aq hb) O Az,fun _ _ hb _ _=>aV (mh.below hb) O Az,fun _ _ hb _ _=>bj (mh.below hb) O Az,Dr O,fun _ _ hb _ _=>aD (l5.aq hb).2 O Az,fun _ _ hb _ _=>aY (l5.aq hb) O Az,fun _ _ _ _ _=>aI O Az,Dr O,fun _ _ _ _ _=>aI O Az,Dr O,Dr O,fun _ _ _ _ _=>Dk O (by exact aE Value.bool (cT (fun h=>h q1))),Dr O,Dr O,fun _ _ _ _ _=>Dk O (by exact aE Value.bool (dz k1)),Dr O,Dr O,fun _ _ _ _ _=>Dk O (by exact aE Value.bool (cT p1)),Dr O,Dr O,Dr O,Dr O,Dr O,fun _ _ _ _ _=>Dk O (by exact aE Value.bool (cT p2)),Dr O,Dr O,fun _ _ _ _ _=>Dk O (by exact aE Value.bool (cT am)),Dr O,Dr O,Dr O,Dr O,Dr O,Dr O,Dr O,Dr O,Dr O,Dr O,Dr O,Dr O,Dr O,Dr O,Dr O,Dr O,au⟩
     intro u gG rT _;have hS:=hS.aq rT;refine eS O (Cd.fg O ?_);have mX:=mX ⟨by rw [jx];exact q1,fun h=>by have:=hex.1 h;omega⟩;have nC:(gZ (N1+2) (N2+2) (gi X1) (gi X2) kind i a (b+1)).length=(gZ (N1+2) (N2+2) (gi X1) (gi X2) kind i a b).length+1:=by rw [mX,ck];rfl
     refine aA O (eL hS O O O ?_);intro QN mO jK;refine fu 1 jK O (jK.bz 0 O) O O O ?_;intro AZ cZ sC iC;have iC:=iC.tail;refine ar O (eL iC O O O ?_);intro QO vD kD;refine fu 2 kD O (kD.bz 0 O) O O O ?_;intro AQ cQ qB gD;have gD:=gD.tail;refine ar O (aV (gD.rd 2 O) O (aqp (j:=1) (gD.rd 2 O) (by exact aE Value.pointer O) O O O O (ar O (eL gD O O O ?_))));intro QP zu kE;refine fu 4 kE O (kE.bz 0 O) O O O fun AW cW Hy py=>aV (py.rd 3 O) O (ki 3 (j:=1) py O O O O O ?_);intro xR rQ;have rQ:=rQ.tail;refine ar O (aI O (aT O (tQ ?_)));refine⟨(b+1,(AZ,cZ),(AQ,cQ),(AW,cW)),by show N2+2 - (b+1)<N2+2 - b;omega,⟨O,O,O,O,O,O,O,aE (fun m:Nat=>Value.slice AZ m cZ) nC.symm,aE (fun m:Nat=>Value.slice AQ m cQ) nC.symm,O,O,O,au⟩,by show b+1<=N2+2;omega,?_⟩;show St w xR (sq AZ AQ fR AW cZ cQ cW (gZ _ _ _ _ kind i a (b+1)) _ k KK);unfold sq;rw [nC,mX,iI,iI,iI];rw [show [((a:Int),(b:Int))].map (dh (gi X1) (gi X2) kind)=[(i:Int)] from aE (fun x=> [x]) (jx.trans q1)];exact rQ
    ·refine dA O ?_;refine dU [xP (ay (A3) 1),xS (X8) (N1+2) (cx),xI ((a:Int)),xP (ay (X8) ((a:Int)).toNat),xI (gi (X1) ((a:Int))),xP (ay (A4) 1),xS (Z8) (N2+2) (cz),xI ((b:Int)),xP (ay (Z8) ((b:Int)).toNat),xI (gi (X2) ((b:Int))),xI ((gi (X1) ((a:Int)))+ (gi (X2) ((b:Int)))),xI ((fD kind)),xI (((gi (X1) ((a:Int)))+ (gi (X2) ((b:Int))))+ ((fD kind))),xI ((i:Int)),xB (decide (¬(((gi (X1) ((a:Int)))+ (gi (X2) ((b:Int))))+ ((fD kind)))=((i:Int)))),xB (false),xI (kind),xB (decide ((kind)=((1:Int)))),xB (false),xU,xU,xU,xU,xU,xU,xB (false),xB (false),xB (false),xI (kind),xB (decide ((kind)=((2:Int)))),xB (true),xI ((a:Int)),xP (ay (A3) 1),xS (X8) (N1+2) (cx),xI (((N1+2:Nat):Int)),xI ((((N1+2:Nat):Int)) - ((1:Int))),xB (decide (((a:Int))=((((N1+2:Nat):Int)) - ((1:Int))))),xB (true),xU,xU,xU,xU,xU,xU,xB (true),xB (true),xB (true)] O (eG O) ?_ ?_
     ·exact⟨fun _ _ hb _ _=>aV (lU.below hb) O Az,fun _ _ hb _ _=>bj (lU.below hb) O Az,Dr O,fun _ _ hb _ _=>aD (lF.aq hb).2 O Az,fun _ _ hb _ _=>aY (lF.aq hb) O Az,fun _ _ hb _ _=>aV (mh.below hb) O Az,fun _ _ hb _ _=>bj (mh.below hb) O Az,Dr O,fun _ _ hb _ _=>aD (l5.aq hb).2 O Az,fun _ _ hb _ _=>aY (l5.aq hb) O Az,fun _ _ _ _ _=>aI O Az,Dr O,fun _ _ _ _ _=>aI O Az,Dr O,Dr O,fun _ _ _ _ _=>Dk O (by exact aE Value.bool (cT (fun h=>h q1))),Dr O,Dr O,fun _ _ _ _ _=>Dk O (by exact aE Value.bool (cT am)),Dr O,Dr O,Dr O,Dr O,Dr O,Dr O,Dr O,Dr O,fun _ _ _ _ _=>Dk O (by exact aE Value.bool (O)),Dr O,Dr O,fun _ _ _ _ _=>Dk O (by exact aE Value.bool (dz k1)),Dr O,fun _ _ hb _ _=>aw O (aV (lU.below hb) O Az),fun _ _ hb _ _=>aw O (bj (lU.below hb) O Az),fun _ _ _ _ _=>aw O (a8 O O Az),fun _ _ _ _ _=>aw O (dZ O Az),Dr O,fun _ _ _ _ _=>Dk O (by exact aE Value.bool (dz p1)),Dr O,Dr O,Dr O,Dr O,Dr O,Dr O,Dr O,Dr O,Dr O,au⟩
     intro u gG rT _;have hS:=hS.aq rT;refine eS O (Cd.gu O ?_);have fY:=fY (fun h=>h.2 (hex.2 (.inr ⟨k1,.inl p1⟩)));refine aA O (aI O (aT O (tQ ?_)));exact⟨(b+1,(bN,dC),(cG,gO),(AR,cR)),by show N2+2 - (b+1)<N2+2 - b;omega,⟨O,O,O,O,O,O,O,aE (fun L:List (Int×Int)=>Value.slice bN L.length dC) fY.symm,aE (fun L:List (Int×Int)=>Value.slice cG L.length gO) fY.symm,O,O,O,au⟩,by show b+1<=N2+2;omega,by show St w gG (sq bN cG fR AR dC gO cR (gZ _ _ _ _ kind i a (b+1)) _ k KK);rw [fY];exact hS⟩
    ·refine dA O ?_;refine dU [xP (ay (A3) 1),xS (X8) (N1+2) (cx),xI ((a:Int)),xP (ay (X8) ((a:Int)).toNat),xI (gi (X1) ((a:Int))),xP (ay (A4) 1),xS (Z8) (N2+2) (cz),xI ((b:Int)),xP (ay (Z8) ((b:Int)).toNat),xI (gi (X2) ((b:Int))),xI ((gi (X1) ((a:Int)))+ (gi (X2) ((b:Int)))),xI ((fD kind)),xI (((gi (X1) ((a:Int)))+ (gi (X2) ((b:Int))))+ ((fD kind))),xI ((i:Int)),xB (decide (¬(((gi (X1) ((a:Int)))+ (gi (X2) ((b:Int))))+ ((fD kind)))=((i:Int)))),xB (false),xI (kind),xB (decide ((kind)=((1:Int)))),xB (false),xU,xU,xU,xU,xU,xU,xB (false),xB (false),xB (false),xI (kind),xB (decide ((kind)=((2:Int)))),xB (true),xI ((a:Int)),xP (ay (A3) 1),xS (X8) (N1+2) (cx),xI (((N1+2:Nat):Int)),xI ((((N1+2:Nat):Int)) - ((1:Int))),xB (decide (((a:Int))=((((N1+2:Nat):Int)) - ((1:Int))))),xB (false),xI ((b:Int)),xP (ay (A4) 1),xS (Z8) (N2+2) (cz),xI (((N2+2:Nat):Int)),xI ((((N2+2:Nat):Int)) - ((1:Int))),xB (decide (((b:Int))=((((N2+2:Nat):Int)) - ((1:Int))))),xB (decide (((b:Int))=((((N2+2:Nat):Int)) - ((1:Int))))),xB (decide (((b:Int))=((((N2+2:Nat):Int)) - ((1:Int))))),xB (decide (((b:Int))=((((N2+2:Nat):Int)) - ((1:Int)))))] O (eG O) ?_ ?_
     ·exact⟨fun _ _ hb _ _=>aV (lU.below hb) O Az,fun _ _ hb _ _=>bj (lU.below hb) O Az,Dr O,fun _ _ hb _ _=>aD (lF.aq hb).2 O Az,fun _ _ hb _ _=>aY (lF.aq hb) O Az,fun _ _ hb _ _=>aV (mh.below hb) O Az,fun _ _ hb _ _=>bj (mh.below hb) O Az,Dr O,fun _ _ hb _ _=>aD (l5.aq hb).2 O Az,fun _ _ hb _ _=>aY (l5.aq hb) O Az,fun _ _ _ _ _=>aI O Az,Dr O,fun _ _ _ _ _=>aI O Az,Dr O,Dr O,fun _ _ _ _ _=>Dk O (by exact aE Value.bool (cT (fun h=>h q1))),Dr O,Dr O,fun _ _ _ _ _=>Dk O (by exact aE Value.bool (cT am)),Dr O,Dr O,Dr O,Dr O,Dr O,Dr O,Dr O,Dr O,fun _ _ _ _ _=>Dk O (by exact aE Value.bool (O)),Dr O,Dr O,fun _ _ _ _ _=>Dk O (by exact aE Value.bool (dz k1)),Dr O,fun _ _ hb _ _=>aw O (aV (lU.below hb) O Az),fun _ _ hb _ _=>aw O (bj (lU.below hb) O Az),fun _ _ _ _ _=>aw O (a8 O O Az),fun _ _ _ _ _=>aw O (dZ O Az),Dr O,fun _ _ _ _ _=>Dk O (by exact aE Value.bool (cT p1)),Dr O,fun _ _ hb _ _=>aw O (aV (mh.below hb) O Az),fun _ _ hb _ _=>aw O (bj (mh.below hb) O Az),fun _ _ _ _ _=>aw O (a8 O O Az),fun _ _ _ _ _=>aw O (dZ O Az),Dr O,Dr O,Dr O,Dr O,au⟩
     intro u gG rT _;have hS:=hS.aq rT;refine eS O (E9 O p2 ?_);have fY:=fY (fun h=>h.2 (hex.2 (.inr ⟨k1,.inr p2⟩)));refine aA O (aI O (aT O (tQ ?_)));exact⟨(b+1,(bN,dC),(cG,gO),(AR,cR)),by show N2+2 - (b+1)<N2+2 - b;omega,⟨O,O,O,O,O,O,O,aE (fun L:List (Int×Int)=>Value.slice bN L.length dC) fY.symm,aE (fun L:List (Int×Int)=>Value.slice cG L.length gO) fY.symm,O,O,O,au⟩,by show b+1<=N2+2;omega,by show St w gG (sq bN cG fR AR dC gO cR (gZ _ _ _ _ kind i a (b+1)) _ k KK);rw [fY];exact hS⟩
    ·refine dA O ?_;refine dU [xP (ay (A3) 1),xS (X8) (N1+2) (cx),xI ((a:Int)),xP (ay (X8) ((a:Int)).toNat),xI (gi (X1) ((a:Int))),xP (ay (A4) 1),xS (Z8) (N2+2) (cz),xI ((b:Int)),xP (ay (Z8) ((b:Int)).toNat),xI (gi (X2) ((b:Int))),xI ((gi (X1) ((a:Int)))+ (gi (X2) ((b:Int)))),xI ((fD kind)),xI (((gi (X1) ((a:Int)))+ (gi (X2) ((b:Int))))+ ((fD kind))),xI ((i:Int)),xB (decide (¬(((gi (X1) ((a:Int)))+ (gi (X2) ((b:Int))))+ ((fD kind)))=((i:Int)))),xB (false),xI (kind),xB (decide ((kind)=((1:Int)))),xB (false),xU,xU,xU,xU,xU,xU,xB (false),xB (false),xB (false),xI (kind),xB (decide ((kind)=((2:Int)))),xB (true),xI ((a:Int)),xP (ay (A3) 1),xS (X8) (N1+2) (cx),xI (((N1+2:Nat):Int)),xI ((((N1+2:Nat):Int)) - ((1:Int))),xB (decide (((a:Int))=((((N1+2:Nat):Int)) - ((1:Int))))),xB (false),xI ((b:Int)),xP (ay (A4) 1),xS (Z8) (N2+2) (cz),xI (((N2+2:Nat):Int)),xI ((((N2+2:Nat):Int)) - ((1:Int))),xB (decide (((b:Int))=((((N2+2:Nat):Int)) - ((1:Int))))),xB (decide (((b:Int))=((((N2+2:Nat):Int)) - ((1:Int))))),xB (decide (((b:Int))=((((N2+2:Nat):Int)) - ((1:Int))))),xB (decide (((b:Int))=((((N2+2:Nat):Int)) - ((1:Int)))))] O (eG O) ?_ ?_
     ·exact⟨fun _ _ hb _ _=>aV (lU.below hb) O Az,fun _ _ hb _ _=>bj (lU.below hb) O Az,Dr O,fun _ _ hb _ _=>aD (lF.aq hb).2 O Az,fun _ _ hb _ _=>aY (lF.aq hb) O Az,fun _ _ hb _ _=>aV (mh.below hb) O Az,fun _ _ hb _ _=>bj (mh.below hb) O Az,Dr O,fun _ _ hb _ _=>aD (l5.aq hb).2 O Az,fun _ _ hb _ _=>aY (l5.aq hb) O Az,fun _ _ _ _ _=>aI O Az,Dr O,fun _ _ _ _ _=>aI O Az,Dr O,Dr O,fun _ _ _ _ _=>Dk O (by exact aE Value.bool (cT (fun h=>h q1))),Dr O,Dr O,fun _ _ _ _ _=>Dk O (by exact aE Value.bool (cT am)),Dr O,Dr O,Dr O,Dr O,Dr O,Dr O,Dr O,Dr O,fun _ _ _ _ _=>Dk O (by exact aE Value.bool (O)),Dr O,Dr O,fun _ _ _ _ _=>Dk O (by exact aE Value.bool (dz k1)),Dr O,fun _ _ hb _ _=>aw O (aV (lU.below hb) O Az),fun _ _ hb _ _=>aw O (bj (lU.below hb) O Az),fun _ _ _ _ _=>aw O (a8 O O Az),fun _ _ _ _ _=>aw O (dZ O Az),Dr O,fun _ _ _ _ _=>Dk O (by exact aE Value.bool (cT p1)),Dr O,fun _ _ hb _ _=>aw O (aV (mh.below hb) O Az),fun _ _ hb _ _=>aw O (bj (mh.below hb) O Az),fun _ _ _ _ _=>aw O (a8 O O Az),fun _ _ _ _ _=>aw O (dZ O Az),Dr O,Dr O,Dr O,Dr O,au⟩
     intro u gG rT _;have hS:=hS.aq rT;refine eS O (qC O p2 ?_);have mX:=mX ⟨by rw [jx];exact q1,fun h=>by have:=hex.1 h;omega⟩;have nC:(gZ (N1+2) (N2+2) (gi X1) (gi X2) kind i a (b+1)).length=(gZ (N1+2) (N2+2) (gi X1) (gi X2) kind i a b).length+1:=by rw [mX,ck];rfl
     refine aA O (eL hS O O O ?_);intro QN mO jK;refine fu 1 jK O (jK.bz 0 O) O O O ?_;intro AZ cZ sC iC;have iC:=iC.tail;refine ar O (eL iC O O O ?_);intro QO vD kD;refine fu 2 kD O (kD.bz 0 O) O O O ?_;intro AQ cQ qB gD;have gD:=gD.tail;refine ar O (aV (gD.rd 2 O) O (aqp (j:=1) (gD.rd 2 O) (by exact aE Value.pointer O) O O O O (ar O (eL gD O O O ?_))));intro QP zu kE;refine fu 4 kE O (kE.bz 0 O) O O O fun AW cW Hy py=>aV (py.rd 3 O) O (ki 3 (j:=1) py O O O O O ?_);intro xR rQ;have rQ:=rQ.tail;refine ar O (aI O (aT O (tQ ?_)));refine⟨(b+1,(AZ,cZ),(AQ,cQ),(AW,cW)),by show N2+2 - (b+1)<N2+2 - b;omega,⟨O,O,O,O,O,O,O,aE (fun m:Nat=>Value.slice AZ m cZ) nC.symm,aE (fun m:Nat=>Value.slice AQ m cQ) nC.symm,O,O,O,au⟩,by show b+1<=N2+2;omega,?_⟩;show St w xR (sq AZ AQ fR AW cZ cQ cW (gZ _ _ _ _ kind i a (b+1)) _ k KK);unfold sq;rw [nC,mX,iI,iI,iI];rw [show [((a:Int),(b:Int))].map (dh (gi X1) (gi X2) kind)=[(i:Int)] from aE (fun x=> [x]) (jx.trans q1)];exact rQ
    refine dA O ?_;refine dU [xP (ay (A3) 1),xS (X8) (N1+2) (cx),xI ((a:Int)),xP (ay (X8) ((a:Int)).toNat),xI (gi (X1) ((a:Int))),xP (ay (A4) 1),xS (Z8) (N2+2) (cz),xI ((b:Int)),xP (ay (Z8) ((b:Int)).toNat),xI (gi (X2) ((b:Int))),xI ((gi (X1) ((a:Int)))+ (gi (X2) ((b:Int)))),xI ((fD kind)),xI (((gi (X1) ((a:Int)))+ (gi (X2) ((b:Int))))+ ((fD kind))),xI ((i:Int)),xB (decide (¬(((gi (X1) ((a:Int)))+ (gi (X2) ((b:Int))))+ ((fD kind)))=((i:Int)))),xB (false),xI (kind),xB (decide ((kind)=((1:Int)))),xB (false),xU,xU,xU,xU,xU,xU,xB (false),xB (false),xB (false),xI (kind),xB (decide ((kind)=((2:Int)))),xB (false),xU,xU,xU,xU,xU,xU,xU,xU,xU,xU,xU,xU,xU,xU,xB (false),xB (false)] O (eG O) ?_ ?_
    ·exact⟨fun _ _ hb _ _=>aV (lU.below hb) O Az,fun _ _ hb _ _=>bj (lU.below hb) O Az,Dr O,fun _ _ hb _ _=>aD (lF.aq hb).2 O Az,fun _ _ hb _ _=>aY (lF.aq hb) O Az,fun _ _ hb _ _=>aV (mh.below hb) O Az,fun _ _ hb _ _=>bj (mh.below hb) O Az,Dr O,fun _ _ hb _ _=>aD (l5.aq hb).2 O Az,fun _ _ hb _ _=>aY (l5.aq hb) O Az,fun _ _ _ _ _=>aI O Az,Dr O,fun _ _ _ _ _=>aI O Az,Dr O,Dr O,fun _ _ _ _ _=>Dk O (by exact aE Value.bool (cT (fun h=>h q1))),Dr O,Dr O,fun _ _ _ _ _=>Dk O (by exact aE Value.bool (cT am)),Dr O,Dr O,Dr O,Dr O,Dr O,Dr O,Dr O,Dr O,fun _ _ _ _ _=>Dk O (by exact aE Value.bool (O)),Dr O,Dr O,fun _ _ _ _ _=>Dk O (by exact aE Value.bool (cT am)),Dr O,Dr O,Dr O,Dr O,Dr O,Dr O,Dr O,Dr O,Dr O,Dr O,Dr O,Dr O,Dr O,Dr O,Dr O,Dr O,au⟩
    intro u gG rT _;have hS:=hS.aq rT;refine eS O (Cd.fg O ?_);have mX:=mX ⟨by rw [jx];exact q1,fun h=>by have:=hex.1 h;omega⟩;have nC:(gZ (N1+2) (N2+2) (gi X1) (gi X2) kind i a (b+1)).length=(gZ (N1+2) (N2+2) (gi X1) (gi X2) kind i a b).length+1:=by rw [mX,ck];rfl
    refine aA O (eL hS O O O ?_);intro QN mO jK;refine fu 1 jK O (jK.bz 0 O) O O O ?_;intro AZ cZ sC iC;have iC:=iC.tail;refine ar O (eL iC O O O ?_);intro QO vD kD;refine fu 2 kD O (kD.bz 0 O) O O O ?_;intro AQ cQ qB gD;have gD:=gD.tail;refine ar O (aV (gD.rd 2 O) O (aqp (j:=1) (gD.rd 2 O) (by exact aE Value.pointer O) O O O O (ar O (eL gD O O O ?_))));intro QP zu kE;refine fu 4 kE O (kE.bz 0 O) O O O fun AW cW Hy py=>aV (py.rd 3 O) O (ki 3 (j:=1) py O O O O O ?_);intro xR rQ;have rQ:=rQ.tail;refine ar O (aI O (aT O (tQ ?_)));refine⟨(b+1,(AZ,cZ),(AQ,cQ),(AW,cW)),by show N2+2 - (b+1)<N2+2 - b;omega,⟨O,O,O,O,O,O,O,aE (fun m:Nat=>Value.slice AZ m cZ) nC.symm,aE (fun m:Nat=>Value.slice AQ m cQ) nC.symm,O,O,O,au⟩,by show b+1<=N2+2;omega,?_⟩;show St w xR (sq AZ AQ fR AW cZ cQ cW (gZ _ _ _ _ kind i a (b+1)) _ k KK);unfold sq;rw [nC,mX,iI,iI,iI];rw [show [((a:Int),(b:Int))].map (dh (gi X1) (gi X2) kind)=[(i:Int)] from aE (fun x=> [x]) (jx.trans q1)];exact rQ
   have rV:b=N2+2:=by omega
   subst rV;rw [<-alS]at hS|-;refine bp O (bt (cS O (aI O (aT O (tQ ?_)))));exact⟨(a+1,(bN,dC),(cG,gO),(AR,cR)),by show N1+2 - (a+1)<N1+2 - a;omega,(aqv O),by show a+1<=N1+2;omega,hS⟩
  have yr:a=N1+2:=by omega
  subst yr;rw [alQ]at hS|-;have vf:=Xz (m1:=N1+2) (m2:=N2+2) (rk1:=gi X1) (rk2:=gi X2) (kind:=kind) (show i+1<=k by omega);have mq:gZ (N1+2) (N2+2) (gi X1) (gi X2) kind (i+1) 0 0=cK (N1+2) (N2+2) (gi X1) (gi X2) kind (i+1):=KE;rw [mq];refine bp O (bt (cS O (a8 O O (aC O ?_))));refine aM _ O (fun h4=>?_) (fun h4=>?_)
  ·have kU:=hS;rw [s7]at kU;refine aA O (De (by exact inferInstance) (by exact inferInstance) (by exact inferInstance) O (b5 3 4 kU O O O O O O O ?_));intro gG ja;refine bH O (fB (fe ?_));refine kG O (ja.rd 4 O) O ?_;exact .inl ⟨.inr (by rw [fS];omega),O,ja.none⟩
  refine aA O (aI O (aT O (tQ ?_)));rw [<-mq];exact⟨(i+1,(bN,dC),(cG,gO),(AR,cR)),by show k - (i+1)<k - i;omega,(aqv O),by show i+1<=k;omega,by show(cK _ _ _ _ kind (i+1)).length<=500;omega,hS⟩
 obtain rfl:i=k:=by omega
 rw [KE]at hS|-;have jw:=fun(c:Int×Int)=> (ux (m1:=N1+2) (m2:=N2+2) (rk1:=gi X1) (rk2:=gi X2) (kind:=kind) (k:=i) (c:=c))
 have bT:=hS.nil 34;generalize cK (N1+2) (N2+2) (gi X1) (gi X2) kind i=PL at*;clear hS;have hPL:PL.length<=500:=hlen;have cI:∀e:Nat,e<PL.length->(0<=(gp PL e).1/\(gp PL e).1< (N1:Int)+2)/\(0<=(gp PL e).2/\(gp PL e).2< (N2:Int)+2):=fun e he=>by
  have hm:gp PL e∈PL:=by rw [uV he];exact dK _
  obtain⟨j,hj,hE⟩:=(jw _).1 hm;have q1:=hE.1;have q2:=hE.2.1;refine⟨⟨q1.1,?_⟩,q2.1,?_⟩
  ·have:=q1.2;omega
  have:=q2.2;omega
 have UN:∀e:Nat,e<PL.length->gi (PL.map Prod.fst) e=(gp PL e).1/\gi (PL.map Prod.snd) e=(gp PL e).2:=fun e he=>by
  rw [bV (by rw [fS];exact he),bV (by rw [fS];exact he),List.getElem_map,List.getElem_map,uV he];exact⟨O,O⟩
 have yC:=fun i=>Xx N1 N2 B1 B2 PL i
 have nA:=fun i=>EP N1 N2 B1 B2 PL i
 have rU:=fun i (h:i<=PL.length)=>RH N1 N2 B1 B2 PL h
 have td:=fun i e=>RJ N1 N2 B1 B2 PL i e
 have rV:=fun i e=>RI N1 N2 B1 B2 PL i e
 have I3:∀e:Int,0<=e->e< (N1:Int)->∀d∈gl B1 e,0<=d/\d< (N1:Int):=fun e h0 h1=> (nY.bd e h0 h1).2
 have tW:∀e:Int,0<=e->e< (N2:Int)->∀d∈gl B2 e,0<=d/\d< (N2:Int):=fun e h0 h1=> (oR.bd e h0 h1).2
 have nC:=fun(b:Int) h=>Rq (B:=B1) (fun e h0 h1=> (nY.bd e h0 h1).1) dE (b:=b) h
 have pI:=fun(b:Int) h=>Rq (B:=B2) (fun e h0 h1=> (oR.bd e h0 h1).1) eB (b:=b) h
 rw [s7]at bT;have bT:St w dY (Hl bN cG fR AR none dC gO cR 0 0 PL (dh (gi X1) (gi X2) kind) i A6 A4 A3 [ak n2,.slice Z8 (N2+2) cz,.slice W8 (N2+2) cw] [ak n1,.slice X8 (N1+2) cx,.slice Y8 (N1+2) cy] [] (pW N1 N2 B1 B2 PL 0)):=bT.perm (List.perm_append_singleton _ _).symm;clear qT uf jw;refine bp O (bt (sI O ?_));refine Cd.loop (α:=Nat×(aj×Nat)×List aO) (fun z=> [(3,.pointer A3),(4,.pointer A4),(6,.pointer A6),(10,.slice bN PL.length dC),(11,.slice cG PL.length gO),(12,.pointer fR),(16,ak (z.1:Int))]) (fun z w'=>z.1<=PL.length/\z.2.2.length=z.1/\St w w' (Hl bN cG fR AR z.2.1.1 dC gO cR z.2.1.2 z.1 PL (dh (gi X1) (gi X2) kind) i A6 A4 A3 [ak n2,.slice Z8 (N2+2) cz,.slice W8 (N2+2) cw] [ak n1,.slice X8 (N1+2) cx,.slice Y8 (N1+2) cy] z.2.2 (pW N1 N2 B1 B2 PL z.1))) (fun z=>PL.length - z.1) (0,(none,0),[]) (aqv O) ⟨bg _,O,bT⟩ ?_;clear bT;rintro⟨e,⟨AD,cD⟩,dB⟩ e0 eF ⟨he,mH,hS⟩;dsimp only at he mH hS|-;refine bh O (a8 O O (aC O ?_));refine aM _ O (fun h2=>?_) (fun h2=>?_)
 ·have UD:e<PL.length:=by omega
  have hE:=cI e UD;have I6:=UN e UD;refine aA O (jr hS O ?_);intro Zb fH dT;refine aC O (Cd.loop (α:=Nat×aj×Nat) (fun z=> [(3,.pointer A3),(4,.pointer A4),(6,.pointer A6),(10,.slice bN PL.length dC),(11,.slice cG PL.length gO),(12,.pointer fR),(16,ak e),(17,.slice z.2.1 (lS N1 N2 B1 B2 PL e z.1).length z.2.2),(18,ak (z.1:Int))]) (fun z w'=>z.1<=e/\St w w' (ax 2 z.2.1 (lS N1 N2 B1 B2 PL e z.1).length z.2.2 (lS N1 N2 B1 B2 PL e z.1)::Hl bN cG fR AR AD dC gO cR cD e PL (dh (gi X1) (gi X2) kind) i A6 A4 A3 [ak n2,.slice Z8 (N2+2) cz,.slice W8 (N2+2) cw] [ak n1,.slice X8 (N1+2) cx,.slice Y8 (N1+2) cy] dB (pW N1 N2 B1 B2 PL e))) (fun z=>e - z.1) (0,Zb,0) (aqv O) ⟨bg _,dT⟩ ?_);clear dT hS;rintro⟨q,Ab,cb⟩ e1 gG ⟨hq,hS⟩;dsimp only at hq hS|-;have hbq:=rV e q;refine bL O (aM _ O (fun h3=>?_) (fun h3=>?_))
  ·have AA:q<e:=by omega
   have hQ:=cI q am;have T4:=UN q am;have vW:=td e q;have lU:=hS.rd 7 O;have mh:=hS.rd 6 O;have ji:cL gG bN PL.length (PL.map Prod.fst):=hS.bz 1 O;have pF:cL gG cG PL.length (PL.map Prod.snd):=hS.bz 2 O;have kZ:=(nY.aq hS.below).bl;have qV:=(oR.aq hS.below).bl;have mm:0<=gi (PL.map Prod.fst) e/\gi (PL.map Prod.fst) e< ((N1+2:Nat):Int):=by rw [I6.1];omega
   have ti:0<=gi (PL.map Prod.snd) e/\gi (PL.map Prod.snd) e< ((N2+2:Nat):Int):=by rw [I6.2];omega
   have Vg:(gl (lQ N1 B1) (gi (PL.map Prod.fst) e)).length<=1000000:=by have:=nC _ (show 0<=gi (PL.map Prod.fst) e/\gi (PL.map Prod.fst) e< (N1:Int)+2 by omega);omega
   have af1:(gl (lQ N2 B2) (gi (PL.map Prod.snd) e)).length<=1000000:=by have:=pI _ (show 0<=gi (PL.map Prod.snd) e/\gi (PL.map Prod.snd) e< (N2:Int)+2 by omega);omega
   have xA:(gi (PL.map Prod.fst) q=gi (PL.map Prod.fst) e\/gi (PL.map Prod.fst) q∈gl (lQ N1 B1) (gi (PL.map Prod.fst) e))↔eM N1 B1 (gp PL q).1 (gp PL e).1:=by rw [T4.1,I6.1];exact Rt hQ.1 hE.1 I3
   have lb:(gi (PL.map Prod.snd) q=gi (PL.map Prod.snd) e\/gi (PL.map Prod.snd) q∈gl (lQ N2 B2) (gi (PL.map Prod.snd) e))↔eM N2 B2 (gp PL q).2 (gp PL e).2:=by rw [T4.2,I6.2];exact Rt hQ.2 hE.2 tW
   have nD:¬(eM N1 B1 (gp PL q).1 (gp PL e).1/\eM N2 B2 (gp PL q).2 (gp PL e).2)->lS N1 N2 B1 B2 PL e (q+1)=lS N1 N2 B1 B2 PL e q:=fun h=>by rw [vW,az h]
   by_cases h5:gi (PL.map Prod.fst) q=gi (PL.map Prod.fst) e\/gi (PL.map Prod.fst) q∈gl (lQ N1 B1) (gi (PL.map Prod.fst) e)
   ·refine dA O ?_;refine dU [.ex (.agg #[ak (n1),.slice (X8) (N1+2) (cx),.slice (Y8) (N1+2) (cy)]),xS (bN) (PL.length) (dC),xI ((q:Int)),xP (ay (bN) ((q:Int)).toNat),xI (gi (PL.map Prod.fst) ((q:Int))),xS (bN) (PL.length) (dC),xI ((e:Int)),xP (ay (bN) ((e:Int)).toNat),xI (gi (PL.map Prod.fst) ((e:Int))),xB (true),xB (true),.ex (.agg #[ak (n2),.slice (Z8) (N2+2) (cz),.slice (W8) (N2+2) (cw)]),xS (cG) (PL.length) (gO),xI ((q:Int)),xP (ay (cG) ((q:Int)).toNat),xI (gi (PL.map Prod.snd) ((q:Int))),xS (cG) (PL.length) (gO),xI ((e:Int)),xP (ay (cG) ((e:Int)).toNat),xI (gi (PL.map Prod.snd) ((e:Int))),xB (decide (gi (PL.map Prod.snd) q=gi (PL.map Prod.snd) e\/gi (PL.map Prod.snd) q∈gl (lQ N2 B2) (gi (PL.map Prod.snd) e))),xB (decide (gi (PL.map Prod.snd) q=gi (PL.map Prod.snd) e\/gi (PL.map Prod.snd) q∈gl (lQ N2 B2) (gi (PL.map Prod.snd) e)))] O (eG O) ?_ ?_
    ·refine⟨fun _ _ hb _ _=>ao.cN 2 (lU.below hb) O O O Az,Dr O,Dr O,fun _ _ hb _ _=>aD (ji.aq hb).2 O Az,fun _ _ hb _ _=>aY (ji.aq hb) O Az,Dr O,Dr O,fun _ _ hb _ _=>aD (ji.aq hb).2 O Az,fun _ _ hb _ _=>aY (ji.aq hb) O Az,?_,Dr O,fun _ _ hb _ _=>aw O (ao.cN 2 (mh.below hb) O O O Az),Dr O,Dr O,fun _ _ hb _ _=>aw O (aD (pF.aq hb).2 O Az),fun _ _ hb _ _=>aw O (aY (pF.aq hb) O Az),Dr O,Dr O,fun _ _ hb _ _=>aw O (aD (pF.aq hb).2 O Az),fun _ _ hb _ _=>aw O (aY (pF.aq hb) O Az),?_,Dr O,au⟩
     ·intro e1 w1 hb hp aU;refine aL (OU n1 X8 (N1+2) cx Y8 (N1+2) cy wG (lQ N1 B1) (gi (PL.map Prod.fst) q) (gi (PL.map Prod.fst) e) _ (kZ.aq hb) (Dv _ _) mm Vg) O ?_;rintro _ w2 ⟨rfl,av⟩;refine ao.n ?_;exact eP.dn av.below (by exact aE Value.bool (dz h5))
     intro e1 w1 hb hp aU;refine aw O (aL (OU n2 Z8 (N2+2) cz W8 (N2+2) cw xV (lQ N2 B2) (gi (PL.map Prod.snd) q) (gi (PL.map Prod.snd) e) _ (qV.aq hb) (Dv _ _) ti af1) O ?_);rintro _ w2 ⟨rfl,av⟩;refine ao.n ?_;exact eP.dn av.below (by exact O)
    intro u mO Np _;have hS:=hS.aq Np;refine eS O (aM _ O (fun h6=>?_) (fun h6=>?_))
    ·rw [aB ⟨xA.1 h5,lb.1 h6⟩]at vW;refine aA O (eL hS O O O ?_);intro A9 sC iC;refine fu 1 iC O (iC.bz 0 O) O O O ?_;intro AZ cZ vD kD;have kD:=kD.tail;refine ar O (aI O (aT O (tQ ?_)));refine⟨(q+1,AZ,cZ),by show e - (q+1)<e - q;omega,⟨O,O,O,O,O,O,O,?_,O,au⟩,by show q+1<=e;omega,?_⟩
     ·show Value.slice _ _ _=Value.slice _ _ _;rw [vW,ck];rfl
     show St w vD (ax _ AZ (lS N1 N2 B1 B2 PL e (q+1)).length cZ _::_);rw [vW,ck];exact kD
    have fY:=nD (fun h=>h6 (lb.2 h.2));refine aA O (aI O (aT O (tQ ?_)));refine⟨(q+1,Ab,cb),by show e - (q+1)<e - q;omega,⟨O,O,O,O,O,O,O,?_,O,au⟩,by show q+1<=e;omega,?_⟩
    ·show Value.slice _ _ _=Value.slice _ _ _;rw [fY]
    show St w mO (ax _ Ab (lS N1 N2 B1 B2 PL e (q+1)).length cb _::_);rw [fY];exact hS
   refine dA O (dU [.ex (.agg #[ak (n1),.slice (X8) (N1+2) (cx),.slice (Y8) (N1+2) (cy)]),xS (bN) (PL.length) (dC),xI ((q:Int)),xP (ay (bN) ((q:Int)).toNat),xI (gi (PL.map Prod.fst) ((q:Int))),xS (bN) (PL.length) (dC),xI ((e:Int)),xP (ay (bN) ((e:Int)).toNat),xI (gi (PL.map Prod.fst) ((e:Int))),xB (false),xB (false),xU,xU,xU,xU,xU,xU,xU,xU,xU,xU,xB (false)] O (eG O) ?_ ?_)
   ·refine⟨fun _ _ hb _ _=>ao.cN 2 (lU.below hb) O O O Az,Dr O,Dr O,fun _ _ hb _ _=>aD (ji.aq hb).2 O Az,fun _ _ hb _ _=>aY (ji.aq hb) O Az,Dr O,Dr O,fun _ _ hb _ _=>aD (ji.aq hb).2 O Az,fun _ _ hb _ _=>aY (ji.aq hb) O Az,?_,Dr O,Dr O,Dr O,Dr O,Dr O,Dr O,Dr O,Dr O,Dr O,Dr O,Dr O,Dr O,au⟩;intro e1 w1 hb hp aU;refine aL (OU n1 X8 (N1+2) cx Y8 (N1+2) cy wG (lQ N1 B1) (gi (PL.map Prod.fst) q) (gi (PL.map Prod.fst) e) _ (kZ.aq hb) (Dv _ _) mm Vg) O ?_;rintro _ w2 ⟨rfl,av⟩;refine ao.n ?_;exact eP.dn av.below (by exact aE Value.bool (cT h5))
   intro u mO Np _;have hS:=hS.aq Np;refine eS O (Cd.fg O ?_);have fY:=nD (fun h=>h5 (xA.2 h.1));refine aA O (aI O (aT O (tQ ?_)));refine⟨(q+1,Ab,cb),by show e - (q+1)<e - q;omega,⟨O,O,O,O,O,O,O,?_,O,au⟩,by show q+1<=e;omega,?_⟩
   ·show Value.slice _ _ _=Value.slice _ _ _;rw [fY]
   show St w mO (ax _ Ab (lS N1 N2 B1 B2 PL e (q+1)).length cb _::_);rw [fY];exact hS
  obtain rfl:q=e:=by omega
  have aeY:=rU q he;have ae6:=yC q;rw [aeY]at hS|-;refine bp O (bt (cS O ?_));refine aV (hS.rd 3 O) O (aqp (j:=2) (hS.rd 3 O) (by exact aE Value.pointer O) O O O O (ar O (lp hS O O O ?_)));intro A9 vD kD;refine lK 9 kD O (kD.fQ 0 O) O O O am am O fun AZ cZ qB gD=>aV (gD.rd 4 O) O (ki 4 (j:=2) gD O O O O O ?_);intro zu kE;have kE:=kE.tail;have kE:=kE.perm (akV _ _ _ _ _ _ _ _ _ _);refine ar O (aI O (aT O (tQ ?_)));refine⟨(q+1,(AZ,cZ),dB++ [⟨Ab,(uw (eM N1 B1) (eM N2 B2) PL q).length,cb⟩]),by show PL.length - (q+1)<PL.length - q;omega,(aqv O),by show q+1<=PL.length;omega,by show(dB++ [_]).length=q+1;rw [ck,mH];rfl,?_⟩;show St w zu (Hl bN cG fR AR AZ dC gO cR cZ (q+1) PL (dh (gi X1) (gi X2) kind) i A6 A4 A3 [ak n2,.slice Z8 (N2+2) cz,.slice W8 (N2+2) cw] [ak n1,.slice X8 (N1+2) cx,.slice Y8 (N1+2) cy] (dB++ [_]) (pW N1 N2 B1 B2 PL (q+1)));rw [ae6];unfold Hl aS;rw [pZ (by rw [mH,EP])];exact kE
 obtain rfl:e=PL.length:=by omega
 refine bp O (bt (cS O ?_));refine ao.cN 2 (hS.rd 2 O) O O O (b5 3 4 hS O O O O O O O ?_);intro fH dT;refine bH O (kG O (dT.rd 4 O) O ?_);have kY:(PL.map (dh (gi X1) (gi X2) kind)).length=PL.length:=fS _;refine .inr ⟨⟨NT,am⟩,AR,cR,AD,cD,dB,by rw [kY];rfl,am,by rw [kY];exact EP N1 N2 B1 B2 PL PL.length,?_⟩;rw [kY];exact dT.sub (show List.Sublist (ax 2 AR PL.length cR (PL.map (dh (gi X1) (gi X2) kind))::(aS 34 2 AD PL.length cD dB (pW N1 N2 B1 B2 PL PL.length)++ [])) _ from((((((lJ _).cons _).cons _).cons _).cons_cons _).cons _).cons _ |>.cons _)
def K0(n:Int)(R:ai)(B:ah)(b:Bool)(w:aa)(v:ad)(w':aa):Prop:=
 ∃AR c AD d rs,v= .tuple #[.agg #[ak n,.slice AR R.length c,.slice AD B.length d],.bool b]/\rs.length=B.length/\St w w' (ax 2 AR R.length c R::(aS 34 2 AD B.length d rs B++ []))
theorem K3.b{k:Nat}{RL:ai}{v:ad}(h:K3 k RL BL w v w'):K0 (if k<=5/\RL.length<=500 then(k:Int)else 0) (if k<=5/\RL.length<=500 then RL else []) (if k<=5/\RL.length<=500 then BL else []) (decide (k<=5/\RL.length<=500)) w v w':=by
 rcases h with⟨hb,rfl,hS⟩ | ⟨hb,AR,c,AD,d,rs,rfl,h1,h2,hS⟩
 ·have hn:¬(k<=5/\RL.length<=500):=by omega
  rw [az hn,az hn,az hn,cT hn];exact⟨none,0,none,0,[],O,O,(hS.nil _).nil _⟩
 rw [aB hb,aB hb,aB hb,dz hb];exact⟨AR,c,AD,d,rs,by rw [h2],by rw [h2];exact h1,by rw [h2];exact hS⟩
theorem SP{X Y:aj}{cx cy:Nat}{ys:List aO}(hM:bI M)(hb:aR M M.length<=500)(h:St w w' (ax 2 X (aR M M.length+2) cx (ik M.length (bU M M.length))::(aS 34 2 Y (aR M M.length+2) cy ys (lQ (aR M M.length) (bQ M))++ []))):
 wK w' X (ik M.length (bU M M.length)) (aR M M.length) Y ys (bQ M):=by
 have hP:=tz hM hb;have hl:=pq M M.length;refine⟨by rw [SX,hl],hb,h.bz 0 O,?_,fun e h0 h1=>?_⟩
 ·exact(h.sub (show(aS 34 2 Y (aR M M.length+2) cy ys (lQ (aR M M.length) (bQ M))).Sublist _ from(oE _ _).cons _)).nJ (Dv _ _)
 have h2:=hP.at_ (e:=e) h0 (by rw [hl];exact h1);refine⟨?_,fun d hd=>?_⟩
 ·have:=q8 (N:=(bU M M.length).length) h2.1.nodup fun x hx=>by have:=(h2.2.1 x hx).1;omega
  omega
 have:=(h2.2.1 d hd).1;omega
theorem Xq{AR AD:aj}{a c b d:Nat}{R:ai}{rs:List aO}:∀k∈ax 2 AR a c R::(aS 34 2 AD b d rs B++ []),eU k.vs=false/\(k.e=34\/k.e=2):=fun k h=>by
 rcases iX.1 h with rfl | h
 ·exact⟨uk _,.inr O⟩
 exact ajf k h
theorem St.aji{Ab A D AR AD:aj}{n:Int}{q p a c b d e f:Nat}{R:ai}{rs:List aO}(h:St w0 w [bJ Ab n A q p D e f])(h':St w0 w (ax 2 AR a c R::(aS 34 2 AD b d rs B++ []))):St w0 w (bJ Ab n A q p D e f::(ax 2 AR a c R::(aS 34 2 AD b d rs B++ []))):=
 h.merge h' (fun k hk=>by obtain rfl:=gj.1 hk;rfl) (fun k hk=> (Xq k hk).1) (fun k hk k' eI=>by
  obtain rfl:=gj.1 hk;rcases(Xq k' eI).2 with e | e
  ·rw [e];exact(by decide:¬(58=34))
  rw [e];exact(by decide:¬(58=2)))
theorem alo{kind:Int}(h:pX M K kind=0):(gF M K kind<=5/\(iq M K kind).length<=500->iV M K kind=0)/\(¬(gF M K kind<=5/\(iq M K kind).length<=500)->iV M K kind=3):=by
 unfold iV;rw [aB h];exact⟨fun h=>az am,fun h=>aB am⟩
def oA(L:ah)(K:Int)(w:aa)(v:ad)(w':aa):Prop:=∃A c,∃rs:List aO,v= .tuple #[.agg #[.slice A L.length c],ak K]/\rs.length=L.length/\St w w' (aS 34 2 A L.length c rs L)
theorem oA.none{ks:List Ck}{K:Int}(h:St w w' ks):oA [] K w (.tuple #[.agg #[.slice Option.none 0 0],ak K]) w':=⟨Option.none,0,[],rfl,rfl,h.none.nil _⟩
open Classical in
noncomputable def zh(n:Nat)(fl:ah)(i a b:Nat):ai:=((List.range b).filter fun b=>decide (mQ n fl i a b/\b≠a)).map fun b:Nat=> (b:Int)
noncomputable def mL(n:Nat)(fl:ah)(i a b:Nat):ai:=(List.range a).flatMap (Bc n fl i)++zh n fl i a b
section
variable {n:Nat} {fl:ah} {i a b:Nat}
theorem W2:zh n fl i a fl.length=Bc n fl i a:=rfl
theorem ajC:mL n fl i (a+1) 0=mL n fl i a fl.length:=by
 unfold mL;rw [jU,List.flatMap_append,W2];simp [zh]
theorem acL{p:Nat->Bool}{b:Nat}:((List.range (b+1)).filter p)=(List.range b).filter p++ (if p b=true then [b]else []):=by
 rw [jU,sK]
 by_cases h:p b=true
 ·rw [aB h,Bu h];rfl
 rw [az h,xZ h];rfl
open Classical in
theorem W4:zh n fl i a (b+1)=zh n fl i a b++ (if mQ n fl i a b/\b≠a then [(b:Int)]else []):=by
 unfold zh;rw [acL,iI]
 by_cases h:mQ n fl i a b/\b≠a
 ·rw [aB h,aB (dz h)];rfl
 rw [az h,az (fun h'=>h (uq h'))];rfl
theorem ajB(h:mQ n fl i a b/\b≠a):mL n fl i a (b+1)=mL n fl i a b++ [(b:Int)]:=by
 unfold mL;rw [W4,aB h,gV]
theorem ajD(h:¬(mQ n fl i a b/\b≠a)):mL n fl i a (b+1)=mL n fl i a b:=by
 unfold mL;rw [W4,az h,fI]
theorem ajA:mL n fl i fl.length 0=uo n fl i:=by simp [mL,zh,uo]
theorem W3:(zh n fl i a b).length<=b:=by
 unfold zh;rw [fS];refine mS (sL _ _) ?_;rw [rA];exact br _
theorem WW(hb:b<=fl.length):(mL n fl i a b).length<=a*fl.length+b:=by
 have key:∀a:Nat,((List.range a).flatMap (Bc n fl i)).length<=a*fl.length:=by
  intro a
  induction a with
  | zero=>simp
  | succ a ih=>
   rw [jU,List.flatMap_append,ck,Nat.succ_mul];have h:=W3 (n:=n) (fl:=fl) (i:=i) (a:=a) (b:=fl.length);rw [W2]at h;simp only [List.flatMap_cons,List.flatMap_nil,fI];omega
 unfold mL;have h1:=key a;have h2:=W3 (n:=n) (fl:=fl) (i:=i) (a:=a) (b:=b);rw [ck];omega
theorem aci(hn:fl.Nodup)(hl:∀x∈fl,x.length=n)(hi:i<n)(ha:a<fl.length)(hb:b<fl.length):(a≠b/\tR (gl fl a) (gl fl b) n=1/\gi (gl fl a) i≠gi (gl fl b) i)↔mQ n fl i a b/\b≠a:=by
 have key:∀p:Nat->Bool,(∀c,c<n->(p c=true↔c=i))->((List.range n).filter p)=[i]:=fun p hp=>by
  refine List.Perm.eq_singleton ((wM (List.nodup_range.filter _) (by simp)).2 fun c=>?_);rw [gy,ig,gj];exact⟨fun h=> (hp c h.1).1 h.2,fun h=>by subst h;exact⟨hi,(hp c hi).2 rfl⟩⟩
 constructor
 ·rintro⟨bP,hd,hx⟩;refine⟨⟨ha,hb,fun k hk fX=>qD fun h=>?_⟩,fun e=>bP e.symm⟩;unfold tR at hd;obtain⟨x,iT⟩:=List.length_eq_one_iff.1 hd;have m1:i∈(List.range n).filter fun k:Nat=>decide (gi (gl fl a) k≠gi (gl fl b) k):=gy.2 ⟨ig.2 hi,dz hx⟩
  have m2:k∈(List.range n).filter fun k:Nat=>decide (gi (gl fl a) k≠gi (gl fl b) k):=gy.2 ⟨ig.2 hk,dz h⟩
  rw [iT,gj]at m1 m2;exact fX (m2.trans m1.symm)
 rintro⟨hA,bP⟩;have hx:gi (gl fl a) i≠gi (gl fl b) i:=fun e=>bP (Td hn hl hb ha fun k hk=>by
  by_cases c:k=i
  ·subst c;exact e.symm
  exact(hA.2.2 k hk c).symm)
 refine⟨fun e=>bP e.symm,?_,hx⟩;unfold tR;rw [key _ fun c hc=>?_]
 ·rfl
 rw [kB];constructor
 ·intro h;exact qD fun h'=>h (hA.2.2 c hc h')
 rintro rfl;exact hx
end
noncomputable def oj(n:Nat)(fl:ah)(i:Nat):ah:=(List.range i).map (uo n fl)
theorem WR(n:Nat)(fl:ah)(i:Nat):oj n fl (i+1)=oj n fl i++ [uo n fl i]:=by
 unfold oj;rw [jU,iI];rfl
theorem WQ(n:Nat)(fl:ah)(i:Nat):(oj n fl i).length=i:=by simp [oj]
abbrev eO(A:aj)(B:aj)(i c:Nat):Ck:=Bx 24 1 A [.slice B i c]
theorem akZ{α:Type}(b m q1 q2 q3:α)(X:List α):(b::q1::q2::q3::m::(X++ [])).Perm (q1::q2::q3::m::((X++ [b])++ [])):=by
 classical
 refine jT.2 fun z=>?_
 simp only [l9,jS,ln];omega
theorem aik(n:Nat)(A D F:aj)(a1 cA d1 cD N cF:Nat)(fZ:List aO)(fl:ah)(w:aa)(hF:bF w F N fZ fl)(hl:∀x∈fl,x.length=n)(hn:fl.Nodup)(hN:N<=400)(JQ:n<=1000):
 aJ prog 238 [.agg #[ak n,.slice A a1 cA,.slice D d1 cD],.slice F N cF] w (fun v w'=>∃A' c' rs',v= .agg #[.slice A' n c']/\rs'.length=n/\St w w' (aS 34 2 A' n c' rs' (b6 n fl)++ [])):=by
 have kc:fl.length=N:=hF.len;refine bC func238 O ntmps238 O (re O O) (bh O (oG (St.refl w) O O ?_));intro A2 w1 aH;refine ib aH O fun A4 w2 aF=>ar O (wR (by exact inferInstance) O (ib aF O ?_));intro A5 w3 aQ;refine b5 1 0 aQ O O O O O O O ?_;intro w4 aX;have aX:St w w4 (eO A5 none 0 0::eO A4 none 0 0::Bx 58 3 A2 [ak n,.slice A a1 cA,.slice D d1 cD]::(aS 34 2 none 0 0 [] (oj n fl 0)++ [])):=(aX.nil 34).perm (List.perm_append_singleton _ _).symm;clear aQ aF aH;refine aC O (Cd.loop (α:=Nat×(aj×Nat)×List aO) (fun z=> [(1,.slice F N cF),(2,.pointer A2),(4,.pointer A4),(5,.pointer A5),(6,ak (z.1:Int))]) (fun z w'=>z.1<=n/\z.2.2.length=z.1/\St w w' (eO A5 z.2.1.1 z.1 z.2.1.2::eO A4 none 0 0::Bx 58 3 A2 [ak n,.slice A a1 cA,.slice D d1 cD]::(aS 34 2 z.2.1.1 z.1 z.2.1.2 z.2.2 (oj n fl z.1)++ []))) (fun z=>n - z.1) (0,(none,0),[]) (aqv O) ⟨bg _,O,aX⟩ ?_);clear aX;rintro⟨i,⟨Am,cm⟩,kH⟩ e w5 ⟨hi,o5,hS⟩;dsimp only at hi o5 hS|-;refine bh O (aV (hS.rd 2 O) O (gP (j:=0) (hS.rd 2 O) (by exact aE Value.pointer O) O O O O (aC O ?_)));refine aM _ O (fun h1=>?_) (fun h1=>?_)
 ·have cI:i<n:=by omega
  refine aA O (jr hS O ?_);intro A7 w6 bo;refine aC O (Cd.loop (α:=Nat×aj×Nat) (fun z=> [(1,.slice F N cF),(2,.pointer A2),(4,.pointer A4),(5,.pointer A5),(6,ak i),(7,.slice z.2.1 (mL n fl i z.1 0).length z.2.2),(8,ak (z.1:Int))]) (fun z w'=>z.1<=N/\St w w' (ax 2 z.2.1 (mL n fl i z.1 0).length z.2.2 (mL n fl i z.1 0)::eO A5 Am i cm::eO A4 none 0 0::Bx 58 3 A2 [ak n,.slice A a1 cA,.slice D d1 cD]::(aS 34 2 Am i cm kH (oj n fl i)++ []))) (fun z=>N - z.1) (0,A7,0) (aqv O) ⟨bg _,bo⟩ ?_);clear bo hS;rintro⟨a,Ab,cb⟩ e1 w7 ⟨ha,hS⟩;dsimp only at ha hS|-;refine bh O (a8 O O (aC O ?_));refine aM _ O (fun h2=>?_) (fun h2=>?_)
  ·have D6:a<N:=by omega
   refine dA O (Cd.loop (α:=Nat×aj×Nat) (fun z=> [(1,.slice F N cF),(2,.pointer A2),(4,.pointer A4),(5,.pointer A5),(6,ak i),(7,.slice z.2.1 (mL n fl i a z.1).length z.2.2),(8,ak a),(9,ak (z.1:Int))]) (fun z w'=>z.1<=N/\St w w' (ax 2 z.2.1 (mL n fl i a z.1).length z.2.2 (mL n fl i a z.1)::eO A5 Am i cm::eO A4 none 0 0::Bx 58 3 A2 [ak n,.slice A a1 cA,.slice D d1 cD]::(aS 34 2 Am i cm kH (oj n fl i)++ []))) (fun z=>N - z.1) (0,Ab,cb) (aqv O) ⟨bg _,hS⟩ ?_);clear hS;rintro⟨b,Ab,cb⟩ e2 w8 ⟨hb,hS⟩;dsimp only at hb hS|-;have kY:=WW (n:=n) (i:=i) (a:=a) (b:=b) (show b<=fl.length by omega);have Cx:a*fl.length<=400*400:=Nat.mul_le_mul am am;refine bh O (a8 O O (aC O ?_));refine aM _ O (fun h3=>?_) (fun h3=>?_)
   ·have Jp:b<N:=by omega
    have zQ:=hS.b7 hF;have vj:=zQ.at_ (i:=(a:Int)) am am;have tq:=zQ.at_ (i:=(b:Int)) am am;have hla:(gl fl a).length=n:=hl _ (by rw [bR (by omega)];exact dK _);have Em:(gl fl b).length=n:=hl _ (by rw [bR (by omega)];exact dK _);have JR:(rg fZ a).n=n:=by rw [<-vj.1];exact hla
    have hnb:(rg fZ b).n=n:=by rw [<-tq.1];exact Em
    have hdf:=aci hn hl cI (show a<fl.length by omega) (show b<fl.length by omega);have vi:=ajB (n:=n) (fl:=fl) (i:=i) (a:=a) (b:=b);have uh:=ajD (n:=n) (fl:=fl) (i:=i) (a:=a) (b:=b);rw [<-hdf]at vi uh;have oa:=zQ.top
    by_cases q1:a=b
    ·refine dA O (dU [xI ((a:Int)),xI ((b:Int)),xB (decide (¬((a:Int))=((b:Int)))),xB (false),xU,xU,xU,xU,xU,xU,xU,xU,xU,xU,xB (false),xB (false),xU,xU,xU,xU,xU,xU,xU,xU,xU,xU,xU,xU,xU,xU,xU,xB (false)] O (eG O) ?_ ?_)
     ·exact⟨Dr O,Dr O,Dr O,fun _ _ _ _ _=>Dk O (by exact aE Value.bool (cT am)),Dr O,Dr O,Dr O,Dr O,Dr O,Dr O,Dr O,Dr O,Dr O,Dr O,Dr O,Dr O,Dr O,Dr O,Dr O,Dr O,Dr O,Dr O,Dr O,Dr O,Dr O,Dr O,Dr O,Dr O,Dr O,Dr O,Dr O,Dr O,au⟩
     intro u w9 oV _;have hS:=hS.aq oV;refine eS O (Cd.fg O ?_);have uh:=uh (fun h=>h.1 q1);refine aA O (aI O (aT O (tQ ?_)));exact⟨(b+1,Ab,cb),by show N - (b+1)<N - b;omega,⟨O,O,O,O,O,aE (fun L:ai=>Value.slice Ab L.length cb) uh.symm,O,O,au⟩,by show b+1<=N;omega,by show St w w9 (ax _ Ab (mL n fl i a (b+1)).length cb _::_);rw [uh];exact hS⟩
    by_cases q2:tR (gl fl a) (gl fl b) n=1
    ·refine dA O ?_;refine dU [xI ((a:Int)),xI ((b:Int)),xB (decide (¬((a:Int))=((b:Int)))),xB (true),xS (F) (N) (cF),xI ((a:Int)),xP (ay (F) ((a:Int)).toNat),xS ((rg (fZ) ((a:Int))).a) ((rg (fZ) ((a:Int))).n) ((rg (fZ) ((a:Int))).c),xS (F) (N) (cF),xI ((b:Int)),xP (ay (F) ((b:Int)).toNat),xS ((rg (fZ) ((b:Int))).a) ((rg (fZ) ((b:Int))).n) ((rg (fZ) ((b:Int))).c),xI (((tR (gl fl a) (gl fl b) (rg fZ a).n:Nat):Int)),xB (true),xB (true),xB (true),xS (F) (N) (cF),xI ((a:Int)),xP (ay (F) ((a:Int)).toNat),xS ((rg (fZ) ((a:Int))).a) ((rg (fZ) ((a:Int))).n) ((rg (fZ) ((a:Int))).c),xI ((i:Int)),xP (ay ((rg (fZ) ((a:Int))).a) ((i:Int)).toNat),xI (gi (gl fl a) ((i:Int))),xS (F) (N) (cF),xI ((b:Int)),xP (ay (F) ((b:Int)).toNat),xS ((rg (fZ) ((b:Int))).a) ((rg (fZ) ((b:Int))).n) ((rg (fZ) ((b:Int))).c),xI ((i:Int)),xP (ay ((rg (fZ) ((b:Int))).a) ((i:Int)).toNat),xI (gi (gl fl b) ((i:Int))),xB (decide (¬(gi (gl fl a) ((i:Int)))=(gi (gl fl b) ((i:Int))))),xB (decide (¬(gi (gl fl a) ((i:Int)))=(gi (gl fl b) ((i:Int)))))] O (eG O) ?_ ?_
     ·refine⟨Dr O,Dr O,Dr O,fun _ _ _ _ _=>Dk O (by exact aE Value.bool (dz am)),Dr O,Dr O,fun _ _ hb _ _=>aw O (aD (oa.aq hb).2 O Az),fun _ _ hb _ _=>aw O (b9 (oa.aq hb) O Az),Dr O,Dr O,fun _ _ hb _ _=>aw O (aD (oa.aq hb).2 O Az),fun _ _ hb _ _=>aw O (b9 (oa.aq hb) O Az),?_,fun _ _ _ _ _=>Dk O (by exact aE Value.bool (dz (by rw [JR,q2];rfl))),Dr O,Dr O,Dr O,Dr O,fun _ _ hb _ _=>aw O (aD (oa.aq hb).2 O Az),fun _ _ hb _ _=>aw O (b9 (oa.aq hb) O Az),Dr O,fun _ _ hb _ _=>aw O (aD (vj.aq hb).2 O Az),fun _ _ hb _ _=>aw O (aY (vj.aq hb) O Az),Dr O,Dr O,fun _ _ hb _ _=>aw O (aD (oa.aq hb).2 O Az),fun _ _ hb _ _=>aw O (b9 (oa.aq hb) O Az),Dr O,fun _ _ hb _ _=>aw O (aD (tq.aq hb).2 O Az),fun _ _ hb _ _=>aw O (aY (tq.aq hb) O Az),Dr O,Dr O,au⟩;intro e1 w1 hb hp aU;refine aw O (aL (Wm (rg fZ a).a (rg fZ b).a (rg fZ a).n (rg fZ a).c (rg fZ b).n (rg fZ b).c (gl fl a) (gl fl b) _ (vj.aq hb) (tq.aq hb) am am) O ?_);rintro _ w2 ⟨rfl,av⟩;refine ao.n ?_;exact eP.dn av.below (by exact O)
     intro u w9 oV _;have hS:=hS.aq oV;refine eS O (aM _ O (fun h4=>?_) (fun h4=>?_))
     ·have vi:=vi ⟨q1,q2,h4⟩;refine aA O (eL hS O O O ?_);intro A9 dY bW;refine fu 1 bW O (bW.bz 0 O) O O O ?_;intro AZ cZ eF eH;have eH:=eH.tail;refine ar O (aI O (aT O (tQ ?_)));refine⟨(b+1,AZ,cZ),by show N - (b+1)<N - b;omega,⟨O,O,O,O,O,?_,O,O,au⟩,by show b+1<=N;omega,?_⟩
      ·show Value.slice _ _ _=Value.slice _ _ _;rw [vi,ck];rfl
      show St w eF (ax _ AZ (mL n fl i a (b+1)).length cZ _::_);rw [vi,ck];exact eH
     have uh:=uh (fun h=>h4 h.2.2);refine aA O (aI O (aT O (tQ ?_)));exact⟨(b+1,Ab,cb),by show N - (b+1)<N - b;omega,⟨O,O,O,O,O,aE (fun L:ai=>Value.slice Ab L.length cb) uh.symm,O,O,au⟩,by show b+1<=N;omega,by show St w w9 (ax _ Ab (mL n fl i a (b+1)).length cb _::_);rw [uh];exact hS⟩
    refine dA O ?_;refine dU [xI ((a:Int)),xI ((b:Int)),xB (decide (¬((a:Int))=((b:Int)))),xB (true),xS (F) (N) (cF),xI ((a:Int)),xP (ay (F) ((a:Int)).toNat),xS ((rg (fZ) ((a:Int))).a) ((rg (fZ) ((a:Int))).n) ((rg (fZ) ((a:Int))).c),xS (F) (N) (cF),xI ((b:Int)),xP (ay (F) ((b:Int)).toNat),xS ((rg (fZ) ((b:Int))).a) ((rg (fZ) ((b:Int))).n) ((rg (fZ) ((b:Int))).c),xI (((tR (gl fl a) (gl fl b) (rg fZ a).n:Nat):Int)),xB (false),xB (false),xB (false),xU,xU,xU,xU,xU,xU,xU,xU,xU,xU,xU,xU,xU,xU,xU,xB (false)] O (eG O) ?_ ?_
    ·refine⟨Dr O,Dr O,Dr O,fun _ _ _ _ _=>Dk O (by exact aE Value.bool (dz am)),Dr O,Dr O,fun _ _ hb _ _=>aw O (aD (oa.aq hb).2 O Az),fun _ _ hb _ _=>aw O (b9 (oa.aq hb) O Az),Dr O,Dr O,fun _ _ hb _ _=>aw O (aD (oa.aq hb).2 O Az),fun _ _ hb _ _=>aw O (b9 (oa.aq hb) O Az),?_,fun _ _ _ _ _=>Dk O (by exact aE Value.bool (cT (by rw [JR];omega))),Dr O,Dr O,Dr O,Dr O,Dr O,Dr O,Dr O,Dr O,Dr O,Dr O,Dr O,Dr O,Dr O,Dr O,Dr O,Dr O,Dr O,Dr O,au⟩;intro e1 w1 hb hp aU;refine aw O (aL (Wm (rg fZ a).a (rg fZ b).a (rg fZ a).n (rg fZ a).c (rg fZ b).n (rg fZ b).c (gl fl a) (gl fl b) _ (vj.aq hb) (tq.aq hb) am am) O ?_);rintro _ w2 ⟨rfl,av⟩;refine ao.n ?_;exact eP.dn av.below (by exact O)
    intro u w9 oV _;have hS:=hS.aq oV;refine eS O (Cd.fg O ?_);have uh:=uh (fun h=>q2 h.2.1);refine aA O (aI O (aT O (tQ ?_)));exact⟨(b+1,Ab,cb),by show N - (b+1)<N - b;omega,⟨O,O,O,O,O,aE (fun L:ai=>Value.slice Ab L.length cb) uh.symm,O,O,au⟩,by show b+1<=N;omega,by show St w w9 (ax _ Ab (mL n fl i a (b+1)).length cb _::_);rw [uh];exact hS⟩
   have rV:b=fl.length:=by omega
   subst rV;rw [<-ajC]at hS|-;refine bp O (bt (cS O (aI O (aT O (tQ ?_)))));exact⟨(a+1,Ab,cb),by show N - (a+1)<N - a;omega,(aqv O),by show a+1<=N;omega,hS⟩
  have yr:a=fl.length:=by omega
  subst yr;have kY:=WW (n:=n) (i:=i) (a:=fl.length) (b:=0) (show 0<=fl.length by omega);have Cx:fl.length*fl.length<=400*400:=Nat.mul_le_mul am am;rw [ajA]at hS kY|-;have Eo:=WR n fl i;refine bp O (bt (cS O ?_));refine aV (hS.rd 1 O) O (aqp (j:=0) (hS.rd 1 O) O O O O O (ar O (lp hS O O O ?_)));intro A9 w8 cj;refine lK 5 cj O (cj.fQ 0 O) O O O am am O fun AZ cZ w9 bT=>aV (bT.rd 2 O) O (ki 2 (j:=0) bT O O O O O ?_);intro dY bW;have bW:=bW.tail;have bW:=bW.perm (akZ _ _ _ _ _ _);refine ar O (aI O (aT O (tQ ?_)));refine⟨(i+1,(AZ,cZ),kH++ [⟨Ab,(uo n fl i).length,cb⟩]),by show n - (i+1)<n - i;omega,(aqv O),by show i+1<=n;omega,by show(kH++ [_]).length=i+1;rw [ck,o5];rfl,?_⟩;show St w dY (eO A5 AZ (i+1) cZ::eO A4 none 0 0::Bx 58 3 A2 [ak n,.slice A a1 cA,.slice D d1 cD]::(aS 34 2 AZ (i+1) cZ (kH++ [_]) (oj n fl (i+1))++ []));rw [Eo];unfold aS;rw [pZ (by rw [o5,WQ])];exact bW
 obtain rfl:i=n:=by omega
 refine bp O (bt (cS O ?_));refine ao.cN 0 (hS.rd 0 O) O O O (b5 1 1 hS O O O O O O O ?_);intro w6 bo;refine bH O (iA O (bo.rd 1 O) ?_);exact⟨Am,cm,kH,O,o5,bo.sub (show List.Sublist _ (_::_::_::_) from((lJ _).cons _ |>.cons _ |>.cons _))⟩
abbrev EK(A6:aj)(N:Nat)(mv:ai)(g:Nat)(L:List (ByteArray×Int))(A3 A2 Am:aj)(i cm:Nat)(kH:List aO)(T:ah):List Ck:=
 ax 2 A6 N N mv::fN 163 g (eC Value.string (Value.int .i64) L)::eO A3 Am i cm::eO A2 none 0 0::(aS 34 2 Am i cm kH T++ [])
theorem ak1{α:Type}(b m q1 q2:α)(X:List α):(b::q1::q2::m::(X++ [])).Perm (q1::q2::m::((X++ [b])++ [])):=by
 classical
 refine jT.2 fun z=>?_
 simp only [l9,jS,ln];omega
theorem aja(n:Nat)(F:aj)(N cF:Nat)(fZ:List aO)(fl:ah)(w:aa)(hT:lO w)(hF:bF w F N fZ fl)(hl:∀x∈fl,x.length=n/\∀e∈x,0<=e/\e<=1000)(zV:jW n fl)(hN:0<N/\N<=400)(JQ:n<=1000):
 aJ prog 94 [.slice F N cF] w (fun v w'=>∃A' c' rs',v= .agg #[.slice A' n c']/\rs'.length=n/\St w w' (aS 34 2 A' n c' rs' (b6 n fl)++ [])):=by
 have kc:fl.length=N:=hF.len;have ve:∀x∈fl,x.length=n:=fun x hx=> (hl x hx).1
 refine bC func94 O ntmps94 O (re O O) (bh O (ib (St.refl w) O ?_));intro A2 w1 aH;refine ar O (ib aH O ?_);intro A3 w2 aF;have aF:St w w2 (eO A3 none 0 0::eO A2 none 0 0::(aS 34 2 none 0 0 [] (oj n fl 0)++ [])):=(aF.nil 34).perm (List.perm_append_singleton _ _).symm;clear aH;have oR:=aF.b7 hF;have TF:=oR.at_ (i:=(0:Int)) am am;have oe:(rg fZ (0:Int)).n=n:=by rw [<-TF.1];exact ve _ (by rw [show(0:Int)=((0:Nat):Int) from O,bR (by omega)];exact dK _)
 refine ar O (aD oR.top.2 O ?_);refine aqq oR.top O (by show(0:Int).toNat<N;exact hN.1) O O ?_;refine a8 O O (aC O ?_);refine Cd.loop (α:=Nat×(aj×Nat)×List aO) (fun z=> [(0,.slice F N cF),(2,.pointer A2),(3,.pointer A3),(16,ak n),(17,ak (z.1:Int))]) (fun z w'=>z.1<=n/\z.2.2.length=z.1/\St w w' (eO A3 z.2.1.1 z.1 z.2.1.2::eO A2 none 0 0::(aS 34 2 z.2.1.1 z.1 z.2.1.2 z.2.2 (oj n fl z.1)++ []))) (fun z=>n - z.1) (0,(none,0),[]) ⟨O,O,O,aE (fun m:Nat=>Value.int .i64 (m:Int)) oe,O,au⟩ ⟨bg _,O,aF⟩ ?_;clear aF oR TF;rintro⟨i,⟨Am,cm⟩,kH⟩ e w5 ⟨hi,o5,hS⟩;dsimp only at hi o5 hS|-;refine bL O (aM _ O (fun h1=>?_) (fun h1=>?_))
 ·have cI:i<n:=by omega
  refine aA O (Dh hS O ?_);intro g w6 bo;refine ar O (a8 O O ?_);refine x4 N bo O O ⟨am,am⟩ ?_;intro A6 w7 bK;have bK:St w w7 (EK A6 N (nG n fl i 0) g [] A3 A2 Am i cm kH (oj n fl i)):=by
   have e0:=ajE (n:=n) (fl:=fl) (i:=i);rw [kc]at e0;rw [e0];exact bK
  clear bo hS;refine ar O (a8 O O (aC O ?_));refine Cd.loop (α:=Nat×List (ByteArray×Int)) (fun z=> [(0,.slice F N cF),(2,.pointer A2),(3,.pointer A3),(4,ak i),(5,.map (some g)),(6,.slice A6 N N),(16,ak n),(17,ak i),(24,.slice F N cF),(25,ak N),(26,ak (z.1:Int))]) (fun z w'=>z.1<=N/\uH n fl i z.1 z.2/\St w w' (EK A6 N (nG n fl i z.1) g z.2 A3 A2 Am i cm kH (oj n fl i))) (fun z=>N - z.1) (0,[]) (aqv O) ⟨bg _,uH.zero,bK⟩ ?_;clear bK;rintro⟨f,L⟩ e1 w8 ⟨hf,I7,hS⟩;dsimp only at hf I7 hS|-;refine bL O (aM _ O (fun h2=>?_) (fun h2=>?_))
  ·have l4:f<fl.length:=by omega
   have zQ:=hS.b7 hF;have tt:=zQ.at_ (i:=(f:Int)) am am;have N6:gl fl f∈fl:=by rw [bR l4];exact dK _
   have Cl:=hl _ N6;have yM:(rg fZ f).n=n:=by rw [<-tt.1];exact Cl.1
   have Gh:=I7.at_ l4;have mq:=zV.lt l4 cI;have hmvl:=ajH (n:=n) (fl:=fl) (i:=i) (f:=f);refine aA O (aD zQ.top.2 O (b9 zQ.top O (ar O (aL (HI _ _ _ (gl fl f) _ tt am) O ?_))));rintro _ w9 ⟨A9,c9,rfl,av⟩;have bT:=hS.call av;clear hS av zQ tt;rw [yM]at bT|-;have bT:St w w9 (ax 2 A9 n c9 (gl fl f)::EK A6 N (nG n fl i f) g L A3 A2 Am i cm kH (oj n fl i)):=bT;refine ar O (aD (bT.rd 0 O) O (kN 0 (i:=(i:Int)) bT O O O am ?_));intro dY bW;have bW:St w dY (ax 2 A9 n c9 (iW (gl fl f) i)::EK A6 N (nG n fl i f) g L A3 A2 Am i cm kH (oj n fl i)):=bW;refine ar O ?_;refine aqm (CE A9 n c9 (iW (gl fl f) i) _ (hT.aq bW.below) (bW.bz 0 O) (fun x hx=>by
    rcases List.mem_or_eq_of_mem_set hx with hx | rfl
    ·have:=Cl.2 x hx;omega
    omega) am) rfl rfl rfl ?_
   rintro _ eF ⟨rfl,av⟩;have eH:=bW.tail.aq av.below;clear bT bW av;refine ar O (Z3 CF (jO (iW (gl fl f) i)) (eH.CU 1 O) O O O ?_);rw [Gh]
   by_cases hp:fC n fl i f<f
   ·rw [aB hp];have afH:=ajG zV cI l4 hp;refine aC O (Cd.gu O (aA O (aD (eH.rd 0 O) O (kN 0 (i:=(f:Int)) eH O O O am ?_))));intro fH dT;refine aqj (dT.rd 0 O) O O O (by show(0:Int)<=(fC n fl i f:Int);omega) (by show(fC n fl i f:Int)< (N:Int);omega) ?_;refine kN 0 (i:=(fC n fl i f:Int)) dT O O O am fun gG ja=>ar O (aI O (aT O (tQ ?_)));refine⟨(f+1,L),by show N - (f+1)<N - f;omega,(aqv O),by show f+1<=N;omega,I7.JI zV cI l4 hp,?_⟩;show St w gG (EK A6 N (nG n fl i (f+1)) g L A3 A2 Am i cm kH (oj n fl i));rw [afH];exact ja
   rw [az hp];have afY:=ajI zV cI l4 hp;refine aC O (Cd.fg O (aA O (Di O CF 1 (u:=(f:Int)) (a:=jO (iW (gl fl f) i)) (vv:=Value.int .i64) eH O O O O ?_)));intro fH dT;refine ar O (aI O (aT O (tQ ?_)));refine⟨(f+1,fj L (jO (iW (gl fl f) i)) (f:Int)),by show N - (f+1)<N - f;omega,(aqv O),by show f+1<=N;omega,I7.ajk zV ve cI l4 hp,?_⟩;show St w fH (EK A6 N (nG n fl i (f+1)) g _ A3 A2 Am i cm kH (oj n fl i));rw [afY];exact dT
  have hfe:f=fl.length:=by omega
  subst hfe;rw [ajF zV cI]at hS;have Eo:=WR n fl i;have hS:St w w8 (ax 2 A6 N N (uo n fl i)::eO A3 Am i cm::eO A2 none 0 0::(aS 34 2 Am i cm kH (oj n fl i)++ [])):=hS.sub ((lJ _).cons _ |>.cons_cons _);refine bp O (bt (cS O ?_));refine aV (hS.rd 1 O) O (aqp (j:=0) (hS.rd 1 O) O O O O O (ar O (lp hS O O O ?_)));intro A9 w9 bT;refine lK 4 bT O (bT.fQ 0 O) O O O am am O fun AZ cZ dY bW=>aV (bW.rd 2 O) O (ki 2 (j:=0) bW O O O O O ?_);intro eF eH;have eH:=eH.tail;have eH:=eH.perm (ak1 _ _ _ _ _);refine ar O (aI O (aT O (tQ ?_)));refine⟨(i+1,(AZ,cZ),kH++ [⟨A6,N,N⟩]),by show n - (i+1)<n - i;omega,(aqv O),by show i+1<=n;omega,by show(kH++ [_]).length=i+1;rw [ck,o5];rfl,?_⟩;show St w eF (eO A3 AZ (i+1) cZ::eO A2 none 0 0::(aS 34 2 AZ (i+1) cZ (kH++ [_]) (oj n fl (i+1))++ []));rw [Eo];unfold aS;rw [pZ (by rw [o5,WQ])];exact eH
 obtain rfl:i=n:=by omega
 refine bp O (bt (cS O ?_));refine ao.cN 0 (hS.rd 0 O) O O O (b5 1 1 hS O O O O O O O ?_);intro w6 bo;refine bH O (iA O (bo.rd 1 O) ?_);exact⟨Am,cm,kH,O,o5,bo.sub (show List.Sublist _ (_::_::_) from((lJ _).cons _ |>.cons _))⟩
noncomputable def Ba(n:Nat)(R:ai)(B:ah):Int:=rH n R B
noncomputable def Bb(n:Nat)(R:ai)(B:ah):ah:=if rH n R B=0 then b6 n (aG n R B)else []
theorem EL{n:Nat}{R:ai}{B:ah}(h:(aG n R B).length<=400):rH n R B=0/\yg n R B=aG n R B/\Bb n R B=b6 n (aG n R B):=by
 have e:rH n R B=0:=by unfold rH;rw [if_pos h]
 refine⟨e,by unfold yg;rw [if_pos h],by unfold Bb;rw [if_pos e]⟩
theorem WZ{n:Nat}{R:ai}{B:ah}(h:¬(aG n R B).length<=400):rH n R B=3/\Bb n R B=[]:=by
 have e:rH n R B=3:=by unfold rH;rw [if_neg h]
 exact⟨e,by unfold Bb;rw [if_neg (by rw [e];decide)]⟩
theorem Tc{n:Nat}{R:ai}{B:ah}(hP:gL n R B):∀x∈aG n R B,x.length=n/\∀e∈x,0<=e/\e<=1000:=fun x hx=>by
 have hn:=hP.n1;have hb:=hP.qd;have h:=(qL am).1 hx;refine⟨h.1,fun e he=>?_⟩;obtain⟨k,hk,rfl⟩:=gC.1 he;have:=(h.2.1 k am).1;rw [bV hk]at this;omega
theorem alj(n:Nat)(A D:aj)(cA cD:Nat)(R:ai)(rs:List aO)(B:ah)(w:aa)(hT:lO w)(hR:cL w A R.length R)(hB:bF w D B.length rs B)(hP:gL n R B)(hD:wJ n R B)(bP:aG n R B≠[]):
 aJ prog 188 [.agg #[ak n,.slice A R.length cA,.slice D B.length cD],ak 0] w (oA (Bb n R B) (Ba n R B) w):=by
 have hn:=hP.n1;refine bC func188 O ntmps188 O (ur O O) (bh O (oG (St.refl w) O O ?_));intro A2 w1 aH;refine ib aH O fun A4 w2 aF=>aC O (qC O (fun h=>h O) (aA O (ao.cN 2 (aF.rd 1 O) O O O (aL (S4 n A D cA cD R rs B _ (aF.gA hR) (aF.b7 hB) hP) O ?_))));rintro _ w3 ⟨AF,cF,fZ,rfl,GJ,av⟩;have oU:=Rd.below (aF.rd 0 O) av.below
 by_cases hf:(aG n R B).length<=400
 ·obtain⟨e1,e2,e3⟩:=EL hf;have e4:Ba n R B=0:=e1;rw [e2]at av|-;rw [e1,e3,e4];rw [e2]at GJ;have hF:bF w3 AF (aG n R B).length fZ (aG n R B):=av.jB O;have aQ:=aF.aq av.below;refine aC O (Cd.fg O (aA O ?_));have hT3:=hT.aq aQ.below;refine aL (aja n AF _ cF fZ _ _ hT3 hF (Tc hP) (FR hP hD) ⟨List.length_pos_iff.2 bP,hf⟩ am) O ?_;rintro _ w4 ⟨Am,cm,kH,rfl,o5,rW⟩;have kY:=um n (aG n R B);have aX:=(aQ.call rW).perm nL;refine b5 1 0 aX O O O O O O O fun w5 ba=>bH O (kG O (ba.rd 0 O) O ?_);refine⟨Am,cm,kH,by rw [kY];rfl,by rw [kY];exact o5,?_⟩;rw [kY];have h9:=ba.sub (show List.Sublist _ (_::_::_) from((lJ _).cons _ |>.cons _))
  rwa [fI]at h9
 obtain⟨e1,e3⟩:=WZ hf;have e4:Ba n R B=3:=e1;rw [e1,e3,e4];have aQ:=aF.aq av.below;refine aC O (Cd.gu O (aA O (wR (by exact inferInstance) O (ar O (b5 1 0 aQ O O O O O O O ?_)))));intro w5 ba;refine bH O (kG O (ba.rd 0 O) O ?_);exact oA.none ba
noncomputable def EM(M K:ah)(kind:Int):Int:=if iV M K kind=0 then Ba (gF M K kind) (iq M K kind) (pU M K kind)else iV M K kind
noncomputable def jy(M K:ah)(kind:Int):ah:=if iV M K kind=0 then Bb (gF M K kind) (iq M K kind) (pU M K kind)else []
theorem KC{M K:ah}{kind:Int}(h:iV M K kind=0):pX M K kind=0/\gF M K kind<=5/\(iq M K kind).length<=500:=by
 unfold iV at h
 split at h
 ·rename_i h1;refine⟨h1,?_⟩
  by_cases h2:5<gF M K kind\/500< (iq M K kind).length
  ·rw [aB h2]at h;exact absurd h an
  omega
 contradiction
theorem Ky{M K:ah}{kind:Int}(h:iV M K kind=0):gL (gF M K kind:Nat) (iq M K kind) (pU M K kind)/\wJ (gF M K kind:Nat) (iq M K kind) (pU M K kind)/\aG (gF M K kind) (iq M K kind) (pU M K kind)≠[]:=by
 obtain⟨hp,h5,MM⟩:=KC h;obtain⟨o3,vY,vX⟩:=Hj hp;obtain⟨ml,nZ⟩:=sX vY;obtain⟨nv,qi⟩:=sX vX;have l1:=AK ml nZ.1;have l2:=AK nv qi.1;have d1:=Is (tz ml nZ.1) nZ.2.2.2.2.1;have d2:=Is (tz nv qi.1) qi.2.2.2.2.1;have c1:=Ik (tz ml nZ.1) nZ.2.2.1;have c2:=Ik (tz nv qi.1) qi.2.2.1;rw [pq]at d1 d2 c1 c2;have hk:=Kx (kind:=kind) ml nv;have m1:=ml.1;have k1:=nv.1;have jk:2<=iM M.length K.length kind:=by unfold iM;split<;>omega
 have hl:(zm M K kind).length<=500:=by unfold iq at MM;rwa [List.length_map]at MM
 exact⟨alv l1 l2 ⟨am,h5⟩ hl,XB l1 l2 d1 d2 o3 hk am ⟨am,.inl am⟩,XC l1 l2 c1 c2 o3 hk am ⟨am,.inl am⟩⟩
theorem ali(p:Int)(A D:aj)(a cA d cD:Nat)(K:Int)(hK:K≠0)(w:aa):
 aJ prog 188 [.agg #[ak p,.slice A a cA,.slice D d cD],ak K] w (oA [] K w):=by
 refine bC func188 O ntmps188 O (ur O O) (bh O (oG (St.refl w) O O ?_));intro A2 w1 aH;refine ib aH O fun A4 w2 aF=>aC O (E9 O hK (aA O (wR (by exact inferInstance) O (ar O (b5 1 0 aF O O O O O O O ?_)))));intro w3 aQ;refine bH O (kG O (aQ.rd 0 O) O ?_);exact oA.none aQ
theorem alh(M K:ah)(kind:Int)(A D:aj)(cA cD:Nat)(rs:List aO)(w:aa)(hT:lO w)(hR:cL w A (ow M K kind).length (ow M K kind))(hB:bF w D (ov M K kind).length rs (ov M K kind)):
 aJ prog 188 [.agg #[ak (tA M K kind),.slice A (ow M K kind).length cA,.slice D (ov M K kind).length cD],ak (iV M K kind)] w (oA (jy M K kind) (EM M K kind) w):=by
 unfold jy EM
 by_cases h:iV M K kind=0
 ·rw [aB h,aB h];have dp:=Ky h;have e1:tA M K kind=(gF M K kind:Nat):=by unfold tA;rw [if_pos h]
  have e2:ow M K kind=iq M K kind:=by unfold ow;rw [if_pos h]
  have e3:ov M K kind=pU M K kind:=by unfold ov;rw [if_pos h]
  rw [e1,h];rw [e2]at hR|-;rw [e3]at hB|-;exact alj (gF M K kind) A D cA cD _ rs _ w hT hR hB dp.1 dp.2.1 dp.2.2
 rw [az h,az h];exact ali _ A D _ cA _ cD _ h w
theorem aiq(X8 Z8 Y8 W8:aj)(cx cz cy cw:Nat)(a1 a2 a3 a4:Nat)(n1 n2 kind:Int)(ok:Bool)(N:Int)(k:Nat)(R:ai)(B:ah)(w:aa)(hpx:∀w',Below w.heap.size w w'->aJ prog 236 [.agg #[ak n1,.slice X8 a1 cx,.slice Y8 a2 cy],.agg #[ak n2,.slice Z8 a3 cz,.slice W8 a4 cw],ak kind] w' (K0 N R B ok w'))(hQ:ok=true->N=(k:Int)/\gL k R B):
 aJ prog 181 [.agg #[ak n1,.slice X8 a1 cx,.slice Y8 a2 cy],.agg #[ak n2,.slice Z8 a3 cz,.slice W8 a4 cw],ak kind] w (oA (if ok=true then Bb k R B else []) (if ok=true then Ba k R B else 3) w):=by
 refine bC func181 O ntmps181 O (ur O O) (bh O (oG (St.refl w) O O ?_));intro A3 w1 aH;refine oG aH O O fun A4 w2 aF=>ib aF O fun A6 w3 aQ=>ar O (ao.cN 2 (aQ.rd 2 O) O O O (ao.cN 2 (aQ.rd 1 O) O O O (ar O (aL (hpx _ aQ.below) O ?_))));rintro _ w4 ⟨AR,cR,AD,cD,dB,rfl,mH,av⟩;have Gb:=av.bz 0 O;have MR:bF w4 AD B.length dB B:=St.jB av.tail O;have aX:=aQ.aq av.below;clear av aQ aF aH;refine ar O (nP (St.refl w4) O ?_);intro A8 w5 xk;refine b5 3 0 xk O O O O O O O ?_;intro w6 Ji;have bo:=aX.aq Ji.below;have Cc:=Ji.rd 0 O;have Gb:=Gb.aq Ji.below;have MR:=MR.aq Ji.below;cases ok
 ·refine ar O ?_
  first | refine fv rfl rfl ?_ | refine gz rfl rfl ?_
  refine aC O (Cd.gu O (aA O (wR (by exact inferInstance) O (b5 1 0 bo O O O O O O O ?_))));intro w7 bK;refine bH O (kG O (bK.rd 0 O) O ?_);exact oA.none bK
 obtain⟨rfl,hP⟩:=hQ rfl;rw [aB rfl,aB rfl];have hn:=hP.n1;refine ar O ?_
 first | refine fv rfl rfl ?_ | refine gz rfl rfl ?_
 refine aC O (Cd.fg O (aA O (ao.cN 2 Cc O O O (aL (aij k AR AD cR cD R dB B _ Gb MR hP) O ?_))));rintro _ w7 ⟨AF,cF,fZ,rfl,GJ,av⟩;have bK:=bo.aq av.below;have Cc:=Rd.below Cc av.below
 by_cases hf:(aG k R B).length<=400
 ·obtain⟨e1,e2,e3⟩:=EL hf;have e4:Ba k R B=0:=e1;rw [LL (Ig.2 hf)]at av GJ|-;rw [e3,e4];have hF:bF w7 AF (aG k R B).length fZ (aG k R B):=av.jB O;refine ar O ?_
  first | refine fv rfl rfl ?_ | refine gz rfl rfl ?_
  refine aC O (qC O (fun h=>h hf) (aA O (ao.cN 2 Cc O O O (ar O ?_))));refine aL (aik k AR AD AF _ cR _ cD _ cF fZ _ _ hF (fun x hx=> (Tc hP x hx).1) (II k R B).nodup hf am) O ?_;rintro _ w8 ⟨Am,cm,kH,rfl,o5,agL⟩;have kY:=um k (aG k R B);have cj:=bK.call2 agL;refine b5 1 0 cj O O O O O O O fun w9 bT=>bH O (kG O (bT.rd 0 O) O ?_);refine⟨Am,cm,kH,by rw [kY];rfl,by rw [kY];exact o5,?_⟩;rw [kY];have h9:=bT.sub (show List.Sublist _ (_::_::_::_) from((lJ _).cons _ |>.cons _ |>.cons _))
  rwa [fI]at h9
 obtain⟨e1,e3⟩:=WZ hf;have e4:Ba k R B=3:=e1;rw [e3,e4];refine ar O ?_
 first | refine fv rfl rfl ?_ | refine gz rfl rfl ?_
 refine aC O (E9 O hf (aA O (wR (by exact inferInstance) O (b5 1 0 bK O O O O O O O ?_))));intro w8 cj;refine bH O (kG O (cj.rd 0 O) O ?_);exact oA.none cj
end
section
section
variable{i b p:Nat}
variable {n:Nat} {R:ai} {B:ah}
theorem fJ.len(h:fJ n R B):(b6 n (aG n R B)).length=n:=um n _
theorem fJ.uT(h:fJ n R B)(hi:i<n){a:Nat}(ha:a< (aG n R B).length)(hb:b< (aG n R B).length):dd (b6 n (aG n R B)) i a=dd (b6 n (aG n R B)) i b↔gi (gl (aG n R B) a) i=gi (gl (aG n R B) b) i:=by
 rw [<-h.Wv hi ha hb];unfold dd;omega
theorem fJ.fin(h:fJ n R B)(hi:i<n){a:Nat}(ha:a< (aG n R B).length):(0<=dd (b6 n (aG n R B)) i a/\dd (b6 n (aG n R B)) i a< ((bU (b6 n (aG n R B)) n).length:Int))/\gi (bU (b6 n (aG n R B)) n) (dd (b6 n (aG n R B)) i a)=i:=by
 have h1:=yh h.qv (i:=i) (f:=a) (by rw [h.nl];exact ha);have h2:=pa (b6 n (aG n R B)) (show i+1<=n by omega);rw [pq];exact⟨⟨am,am⟩,IP hi h1.1 h1.2⟩
theorem fJ.FU(h:fJ n R B){e:Int}(h0:0<=e)(h1:e< ((bU (b6 n (aG n R B)) n).length:Int)):∃i:Nat,i<n/\∃a:Nat,a< (aG n R B).length/\e=dd (b6 n (aG n R B)) i a:=by
 rw [pq]at h1;obtain⟨i,hi,h2,h3⟩:=Tl h0 h1;have h3:e< ((aR (b6 n (aG n R B)) i+ (jg (b6 n (aG n R B)) i).toNat:Nat):Int):=h3;obtain⟨a,ha,e1⟩:=Mg h.qv i (e - (aR (b6 n (aG n R B)) i:Int)) am am;rw [h.nl]at ha;refine⟨i,hi,a,ha,?_⟩;unfold dd;rw [e1];omega
theorem fJ.spl(h:fJ n R B)(hi:i+1<n){a:Nat}(ha:a< (aG n R B).length)(hb:b< (aG n R B).length)(hm:gi (gl (aG n R B) a) i∈gl B (gi (gl (aG n R B) b) ((i+1:Nat):Int))):
 ∃c:Nat,c< (aG n R B).length/\∀k:Nat,k<n->gi (gl (aG n R B) c) k=if k<=i then gi (gl (aG n R B) a) k else gi (gl (aG n R B) b) k:=by
 have fa:=oP h.n1 ha;have fb:=oP h.n1 hb;obtain⟨x,hx⟩:∃x:ai,x=(List.range n).map fun k=>if k<=i then gi (gl (aG n R B) a) k else gi (gl (aG n R B) b) k:=⟨_,rfl⟩
 have gE:∀k:Nat,k<n->gi x k=if k<=i then gi (gl (aG n R B) a) k else gi (gl (aG n R B) b) k:=fun k hk=>by
  rw [hx,bV (by simpa using hk),List.getElem_map,List.getElem_range]
 have GV:x∈aG n R B:=by
  refine(qL h.n1).2 ⟨by rw [hx];simp,fun k hk=>?_,fun k hk=>?_⟩
  ·rw [gE k hk]
   split
   ·exact fa.2.1 k hk
   exact fb.2.1 k hk
  rw [gE k (by omega),gE (k+1) hk]
  by_cases c1:k+1<=i
  ·rw [aB (show k<=i by omega),aB c1];exact fa.2.2 k hk
  rw [az c1]
  by_cases c2:k<=i
  ·rw [aB c2];obtain rfl:k=i:=by omega
   exact hm
  rw [az c2];exact fb.2.2 k hk
 obtain⟨c,hc,e⟩:=gC.1 GV;refine⟨c,hc,fun k hk=>?_⟩;rw [bR hc,e];exact gE k hk
theorem fJ.inc(h:fJ n R B)(hi:i+1<n){a:Nat}(ha:a< (aG n R B).length)(hb:b< (aG n R B).length):dd (b6 n (aG n R B)) i a∈gl (bQ (b6 n (aG n R B))) (dd (b6 n (aG n R B)) (i+1) b)↔gi (gl (aG n R B) a) i∈gl B (gi (gl (aG n R B) b) ((i+1:Nat):Int)):=by
 have g1:=h.fin (show i<n by omega) ha;have g2:=h.fin hi hb;have hl:=h.len;rw [pq]at g1 g2;rw [rI g2.1.1 (by rw [hl];exact g2.1.2),hl];constructor
 ·rintro⟨_,f,hf,j,hj,k,hk,e1,e2⟩;rw [h.nl]at hf;rw [hl]at hj;have r1:=(h.fin hj hf).2;have r2:=(h.fin (show k<n by omega) hf).2;rw [<-e1,g2.2]at r1;rw [<-e2,g1.2]at r2;obtain rfl:j=i+1:=by omega
  obtain rfl:k=i:=by omega
  have q1:=(h.uT hi hb hf).1 e1;have q2:=(h.uT (show k<n by omega) ha hf).1 e2;rw [q1,q2];exact(oP h.n1 hf).2.2 k hi
 intro hm;obtain⟨c,hc,hk⟩:=h.spl hi ha hb hm;have q1:=hk i am;have q2:=hk (i+1) hi;rw [aB (br _)]at q1;rw [az (by omega)]at q2;exact⟨g1.1,c,by rw [h.nl];exact hc,i+1,by rw [hl];exact hi,i,am,(h.uT hi hb hc).2 q2.symm,(h.uT (show i<n by omega) ha hc).2 q1.symm⟩
theorem fJ.ahm(h:fJ n R B)(hi:i+2<n){a:Nat}(ha:a< (aG n R B).length)(hb:b< (aG n R B).length)(hm:dd (b6 n (aG n R B)) i a∈gl (bQ (b6 n (aG n R B))) (dd (b6 n (aG n R B)) (i+2) b)):gi (gl (aG n R B) a) i∈gl B (gi (gl (aG n R B) b) ((i+2:Nat):Int)):=by
 have g1:=h.fin (show i<n by omega) ha;have g2:=h.fin hi hb;have hl:=h.len;rw [pq]at g1 g2;rw [rI g2.1.1 (by rw [hl];exact g2.1.2),hl]at hm;obtain⟨_,f,hf,j,hj,k,hk,e1,e2⟩:=hm;rw [h.nl]at hf;rw [hl]at hj;have r1:=(h.fin hj hf).2;have r2:=(h.fin (show k<n by omega) hf).2;rw [<-e1,g2.2]at r1;rw [<-e2,g1.2]at r2;obtain rfl:j=i+2:=by omega
 obtain rfl:k=i:=by omega
 have q1:=(h.uT hi hb hf).1 e1;have q2:=(h.uT (show k<n by omega) ha hf).1 e2;rw [q1,q2];have f1:=(oP h.n1 hf).2.2 k am;have f2:=(oP h.n1 hf).2.2 (k+1) hi;have f3:=((oP h.n1 hf).2.1 (k+2) hi).1;exact(h.pos.at_ (e:=gi (gl (aG n R B) f) ((k+2:Nat):Int)) f3.1 f3.2).2.2 _ f2 _ f1
def tT(n:Nat)(M:ah)(a:Nat):ai:=(List.range n).map fun i=>dd M i a
theorem yf{M:ah}{a:Nat}(hi:i<n):gi (tT n M a) i=dd M i a:=by
 unfold tT;rw [bV (by simpa using hi),List.getElem_map,List.getElem_range]
theorem fJ.IJ(h:fJ n R B){y:ai}:y∈aG n (bU (b6 n (aG n R B)) n) (bQ (b6 n (aG n R B)))↔∃a:Nat,a< (aG n R B).length/\y=tT n (b6 n (aG n R B)) a:=by
 rw [qL h.n1];constructor
 ·rintro⟨hl,hr,hc⟩;have hex:∀i:Nat,∃a:Nat,i<n->a< (aG n R B).length/\gi y i=dd (b6 n (aG n R B)) i a:=fun i=>by
   by_cases hi:i<n
   ·have h1:=hr i hi;obtain⟨j,hj,a,ha,e⟩:=h.FU h1.1.1 h1.1.2;have r:=(h.fin hj ha).2;rw [<-e,h1.2]at r;obtain rfl:i=j:=by omega
    exact⟨a,fun _=> ⟨ha,e⟩⟩
   exact⟨0,fun h=>absurd h hi⟩
  obtain⟨A,hA⟩:=Classical.axiomOfChoice hex;have hA:∀i:Nat,i<n->A i< (aG n R B).length/\gi y i=dd (b6 n (aG n R B)) i (A i):=hA;obtain⟨x,hx⟩:∃x:ai,x=(List.range n).map fun i=>gi (gl (aG n R B) (A i:Int)) i:=⟨_,rfl⟩
  have gE:∀i:Nat,i<n->gi x i=gi (gl (aG n R B) (A i:Int)) i:=fun i hi=>by
   rw [hx,bV (by simpa using hi),List.getElem_map,List.getElem_range]
  have GV:x∈aG n R B:=by
   refine(qL h.n1).2 ⟨by rw [hx];simp,fun i hi=>?_,fun i hi=>?_⟩
   ·rw [gE i hi];exact h.at_ (hA i hi).1 hi
   rw [gE i (by omega),gE (i+1) hi];have q:=hc i hi;rw [(hA i (by omega)).2,(hA (i+1) hi).2]at q;exact(h.inc hi (hA i am).1 (hA (i+1) hi).1).1 q
  obtain⟨c,pB,e⟩:=gC.1 GV;refine⟨c,pB,xG (n:=n) hl (by simp [tT]) fun i hi=>?_⟩;rw [yf hi,(hA i hi).2];refine(h.uT hi (hA i hi).1 pB).2 ?_;rw [bR pB,e];exact(gE i hi).symm
 rintro⟨a,ha,rfl⟩;refine⟨by simp [tT],fun i hi=>?_,fun i hi=>?_⟩
 ·rw [yf hi];exact h.fin hi ha
 rw [yf (show i<n by omega),yf hi];exact(h.inc hi ha ha).2 ((oP h.n1 ha).2.2 i hi)
theorem fJ.acM(h:fJ n R B){a:Nat}(ha:a< (aG n R B).length)(hb:b< (aG n R B).length)(e:tT n (b6 n (aG n R B)) a=tT n (b6 n (aG n R B)) b):a=b:=
 zO ha hb (xG (n:=n) (oP h.n1 ha).1 (oP h.n1 hb).1 fun i hi=>by
  have:=aE (fun y=>gi y i) e;simp only [yf hi]at this;exact(h.uT hi ha hb).1 this)
theorem fJ.FQ(h:fJ n R B):(aG n (bU (b6 n (aG n R B)) n) (bQ (b6 n (aG n R B)))).length=(aG n R B).length:=by
 have hp:((List.range (aG n R B).length).map (tT n (b6 n (aG n R B)))).Perm (aG n (bU (b6 n (aG n R B)) n) (bQ (b6 n (aG n R B)))):=by
  refine(wM ?_ (II _ _ _).nodup).2 fun y=>?_
  ·exact oD.2 ((List.nodup_range (n:=(aG n R B).length)).imp_of_mem fun {a b} ha hb bP e=>bP (h.acM (ig.1 ha) (ig.1 hb) e))
  rw [h.IJ,dF];constructor
  ·rintro⟨a,ha,rfl⟩;exact⟨a,ig.1 ha,rfl⟩
  rintro⟨a,ha,rfl⟩;exact⟨a,ig.2 ha,rfl⟩
 have:=hp.length_eq;rw [fS,rA]at this;exact this.symm
theorem fJ.SZ(h:fJ n R B)(hp:p< (aG n R B).length):∃a:Nat,a< (aG n R B).length/\gl (aG n (bU (b6 n (aG n R B)) n) (bQ (b6 n (aG n R B)))) p=tT n (b6 n (aG n R B)) a:=by
 have hl:=h.FQ;refine h.IJ.1 ?_;rw [bR (by omega)];exact dK _
theorem fJ.acJ(h:fJ n R B){a:Nat}(ha:a< (aG n R B).length):∃p:Nat,p< (aG n R B).length/\gl (aG n (bU (b6 n (aG n R B)) n) (bQ (b6 n (aG n R B)))) p=tT n (b6 n (aG n R B)) a:=by
 have hl:=h.FQ;obtain⟨p,hp,e⟩:=gC.1 (h.IJ.2 ⟨a,ha,rfl⟩);exact⟨p,am,by rw [bR hp];exact e⟩
theorem fJ.acH(h:fJ n R B):Bq n (aG n (bU (b6 n (aG n R B)) n) (bQ (b6 n (aG n R B)))):=by
 have hl:=h.FQ;have key:∀ {S:Nat->Prop} {a c:Nat},jG n (aG n R B) S a c->∀ {S':Nat->Prop},(∀k,k<n->(S' k->S k))->∀p:Nat,p< (aG n R B).length->gl (aG n (bU (b6 n (aG n R B)) n) (bQ (b6 n (aG n R B)))) p=tT n (b6 n (aG n R B)) a->
  ∃q:Nat,q< (aG n R B).length/\gl (aG n (bU (b6 n (aG n R B)) n) (bQ (b6 n (aG n R B)))) q=tT n (b6 n (aG n R B)) c/\jG n (aG n (bU (b6 n (aG n R B)) n) (bQ (b6 n (aG n R B)))) S' p q:=by
  intro S a c hL S' hS p hp e
  induction hL with
  | refl ha=>exact⟨p,hp,e,.refl am⟩
  | step pI hi hs hA ih=>
   rename_i b c i;obtain⟨q,hq,e1,l1⟩:=ih;obtain⟨r,hr,e2⟩:=h.acJ hA.2.1;refine⟨r,hr,e2,.step l1 hi (fun hx=>hs (hS i hi hx)) ⟨am,am,fun k hk bP=>?_⟩⟩;rw [e1,e2,yf hk,yf hk];exact(h.uT hk hA.1 hA.2.1).2 (hA.2.2 k hk bP)
 intro p q vh hq;rw [hl]at hq;obtain⟨a,ha,ea⟩:=h.SZ (show p< (aG n R B).length by omega);obtain⟨b,hb,eb⟩:=h.SZ hq;have mo:jG n (aG n R B) (fun k=>gi (gl (aG n R B) a) k=gi (gl (aG n R B) b) k) a b:=by
  rcases Nat.lt_trichotomy a b with eA | eA | eA
  ·exact h.Be.2.2.2 a b eA hb
  ·subst eA;exact .refl ha
  ·have:=(h.Be.2.2.2 b a eA ha).symm;have e:(fun k:Nat=>gi (gl (aG n R B) b) k=gi (gl (aG n R B) a) k)=fun k:Nat=>gi (gl (aG n R B) a) k=gi (gl (aG n R B) b) k:=funext fun k=>propext ⟨Eq.symm,Eq.symm⟩
   rwa [e]at this
 obtain⟨r,hr,er,lr⟩:=key mo (S':=fun k=>gi (gl (aG n (bU (b6 n (aG n R B)) n) (bQ (b6 n (aG n R B)))) p) k=gi (gl (aG n (bU (b6 n (aG n R B)) n) (bQ (b6 n (aG n R B)))) q) k) (fun k hk e=>by
  rw [ea,eb,yf hk,yf hk]at e;exact(h.uT hk ha hb).1 e) p am ea
 obtain rfl:r=q:=zO am am (er.trans eb.symm);exact lr
theorem fJ.acI(h:fJ n R B):wJ n (bU (b6 n (aG n R B)) n) (bQ (b6 n (aG n R B))):=by
 intro i e f fm mm he hf NC;obtain⟨j,rfl⟩:∃j:Nat,i=j:=⟨i.toNat,am⟩;have hj:j<n:=by omega
 have fo:∃e0:Int,zB R j e0/\(e<0↔e0<0)/\(0<=e->1<=j/\∃a:Nat,a< (aG n R B).length/\e=dd (b6 n (aG n R B)) (j - 1) a/\e0=gi (gl (aG n R B) a) ((j - 1:Nat):Int)):=by
  rcases he with⟨q1,q2⟩ | ⟨q1,q2,q3⟩
  ·exact⟨-1,.inl ⟨O,q2⟩,am,fun _=>by omega⟩
  obtain⟨k,hk,a,ha,ea⟩:=h.FU q1.1 q1.2;have r:=(h.fin hk ha).2;rw [<-ea,q3]at r;obtain rfl:k=j - 1:=by omega
  have g:=h.at_ ha hk;exact⟨_,.inr ⟨g.1,q2,by rw [g.2];omega⟩,am,fun _=> ⟨am,a,ha,ea,O⟩⟩
 have dv:∃f0:Int,zA n R j f0/\(f<0↔f0<0)/\(0<=f->j+1<n/\∃b:Nat,b< (aG n R B).length/\f=dd (b6 n (aG n R B)) (j+1) b/\f0=gi (gl (aG n R B) b) ((j+1:Nat):Int)):=by
  rcases hf with⟨q1,q2⟩ | ⟨q1,q2,q3⟩
  ·exact⟨-1,.inl ⟨O,q2⟩,am,fun _=>by omega⟩
  obtain⟨k,hk,b,hb,eb⟩:=h.FU q1.1 q1.2;have r:=(h.fin hk hb).2;rw [<-eb,q3]at r;obtain rfl:k=j+1:=by omega
  have g:=h.at_ hb hk;exact⟨_,.inr ⟨g.1,q2,by rw [g.2];omega⟩,am,fun _=> ⟨am,b,hb,eb,O⟩⟩
 obtain⟨e0,hL,UC,UE⟩:=fo;obtain⟨f0,hH,UH,UL⟩:=dv;have hm:=h.Be.2.2.1 (j:Int) e0 f0 fm mm hL hH (fun k1 k2=>by
  obtain⟨j1,a,ha,ea,FI⟩:=UE am;obtain⟨j2,b,hb,eb,Iu⟩:=UL am;have:=NC am am;obtain⟨i,rfl⟩:∃i,j=i+1:=⟨j - 1,am⟩;rw [ea,eb]at this;rw [FI,Iu];have e1:i+1 - 1=i:=by omega
  rw [e1]at this|-;exact h.ahm am ha hb this)
 have hex:∀d0:Int,∃c:Nat,d0∈nN R B j e0 f0->c< (aG n R B).length/\gi (gl (aG n R B) c) j=d0:=fun d0=>by
  by_cases hd:d0∈nN R B j e0 f0
  ·have Nz:=Bv.1 hd;obtain⟨c,hc,ec⟩:=h.Qz Nz.1.1 Nz.1.2;rw [Nz.2.1]at ec;exact⟨c,fun _=> ⟨hc,ec⟩⟩
  exact⟨0,fun h=>absurd h hd⟩
 obtain⟨g,hg⟩:=Classical.axiomOfChoice hex;have hg:∀d0:Int,d0∈nN R B j e0 f0->g d0< (aG n R B).length/\gi (gl (aG n R B) (g d0:Int)) j=d0:=hg;have Up:∀c:Nat,c< (aG n R B).length->((e<0\/e∈gl (bQ (b6 n (aG n R B))) (dd (b6 n (aG n R B)) j c))↔(e0<0\/e0∈gl B (gi (gl (aG n R B) c) j))):=fun c hc=>by
  by_cases c1:e<0
  ·exact⟨fun _=> .inl (UC.1 c1),fun _=> .inl c1⟩
  obtain⟨j1,a,ha,ea,FI⟩:=UE am;obtain⟨i,rfl⟩:∃i,j=i+1:=⟨j - 1,am⟩;have e1:i+1 - 1=i:=by omega
  rw [e1]at ea FI;have:=h.inc hj ha hc;constructor
  ·rintro(q | q)
   ·exact absurd q c1
   rw [ea]at q;exact .inr (by rw [FI];exact this.1 q)
  rintro(q | q)
  ·exact absurd (UC.2 q) c1
  rw [FI]at q;exact .inr (by rw [ea];exact this.2 q)
 have Ue:∀c:Nat,c< (aG n R B).length->((f<0\/dd (b6 n (aG n R B)) j c∈gl (bQ (b6 n (aG n R B))) f)↔(f0<0\/gi (gl (aG n R B) c) j∈gl B f0)):=fun c hc=>by
  by_cases c1:f<0
  ·exact⟨fun _=> .inl (UH.1 c1),fun _=> .inl c1⟩
  obtain⟨j2,b,hb,eb,Iu⟩:=UL am;have:=h.inc j2 hc hb;constructor
  ·rintro(q | q)
   ·exact absurd q c1
   rw [eb]at q;exact .inr (by rw [Iu];exact this.1 q)
  rintro(q | q)
  ·exact absurd (UH.2 q) c1
  rw [Iu]at q;exact .inr (by rw [eb];exact this.2 q)
 have hp:((nN R B j e0 f0).map fun d0=>dd (b6 n (aG n R B)) j (g d0)).Perm (nN (bU (b6 n (aG n R B)) n) (bQ (b6 n (aG n R B))) j e f):=by
  refine(wM ?_ (Fk _ _ _ _ _)).2 fun d=>?_
  ·refine oD.2 ((Fk R B j e0 f0).imp_of_mem fun {d1 d2} h1 h2 bP q=>bP ?_);have a1:=hg d1 h1;have a2:=hg d2 h2;rw [<-a1.2,<-a2.2];exact(h.uT hj a1.1 a2.1).1 q
  rw [dF,Bv];constructor
  ·rintro⟨d0,qn,rfl⟩;have a1:=hg d0 qn;have a2:=Bv.1 qn;have a3:=h.fin hj a1.1;rw [<-a1.2]at a2;exact⟨a3.1,a3.2,(Up _ a1.1).2 a2.2.2.1,(Ue _ a1.1).2 a2.2.2.2⟩
  rintro⟨q1,q2,q3,q4⟩;obtain⟨k,hk,c,hc,ec⟩:=h.FU q1.1 q1.2;have r:=(h.fin hk hc).2;rw [<-ec,q2]at r;obtain rfl:k=j:=by omega
  have g1:=h.at_ hc hk;rw [ec]at q3 q4;have qn:gi (gl (aG n R B) c) k∈nN R B k e0 f0:=Bv.2 ⟨g1.1,g1.2,(Up _ hc).1 q3,(Ue _ hc).1 q4⟩;refine⟨_,qn,?_⟩;have a1:=hg _ qn;rw [ec];exact(h.uT hk a1.1 hc).2 a1.2
 have:=hp.length_eq;rw [fS,hm]at this;exact this.symm
theorem fJ.adt(h:fJ n R B):vG (b6 n (aG n R B)):=by
 have hl:=h.len;have hb:=h.pos.qd;have Eu:0< (aG n R B).length:=List.length_pos_iff.2 h.Be.1;refine⟨by rw [hl,h.Xa];exact hb,?_,?_⟩
 ·unfold DP;rw [hl,h.FQ,h.nl]
 rw [hl];refine⟨fun e=>?_,fun e h0 h1=>?_,h.acI,h.acH⟩
 ·have:=h.FQ;rw [e]at this;simp at this;omega
 obtain⟨i,hi,a,ha,ea⟩:=h.FU h0 h1;refine⟨_,h.IJ.2 ⟨a,ha,O⟩,?_⟩;rw [ea];unfold tT;exact dF.2 ⟨i,ig.2 hi,O⟩
theorem fJ.gd(h:fJ n R B):lA (b6 n (aG n R B))=0:=Mu h.qv h.adt
end
theorem Tz{M:ah}(h:lA M=0):vF (aR M M.length+2) (rm M) (E2 M)/\nu (kR (aR M M.length+2) (rm M)) (E2 M)/\∃U,nr (kR (aR M M.length+2) (rm M)) (E2 M) U/\cU U M.length 0=(gl M 0).length:=by
 obtain⟨hM,hG⟩:=sX h;have hP:=tz hM hG.1;have hb:=ac6 hM;have rp:=XN hP hb;have hs:=amx hP hb hG.2.2.2.2.2;obtain⟨U,hU⟩:=rp.en fun e h0 h1=>by have:=(hP.ri h0 h1).2;omega
 have hl:=G3 hP;have hf:=rp.flags hU (o:=0) ⟨⟨am,am⟩,by rw [hl.r0];rfl⟩ fun i a _=>hl.bot a
 have e:(DP M).length=(gl M 0).length:=hG.2.1;unfold DP at e;rw [e]at hf;rw [pq]at hb hs hU;exact⟨hb,hs,U,hU,hf.symm⟩
def ye(M K:ah)(kind:Int):Nat:=(gl M 0).length* (gl K 0).length* (if kind=0 then jZ (M.length+1) (K.length+1)else jZ M.length K.length)
theorem PH{M K:ah}{kind:Int}(h:iV M K kind=0):Bz (gF M K kind) (iq M K kind) (pU M K kind)/\(aG (gF M K kind) (iq M K kind) (pU M K kind)).length=ye M K kind:=by
 obtain⟨hp,h5,MM⟩:=KC h;obtain⟨o3,vY,vX⟩:=Hj hp;obtain⟨ml,nZ⟩:=sX vY;obtain⟨nv,qi⟩:=sX vX;have l1:=AK ml nZ.1;have l2:=AK nv qi.1;have d1:=Is (tz ml nZ.1) nZ.2.2.2.2.1;have d2:=Is (tz nv qi.1) qi.2.2.2.2.1;have c1:=Ik (tz ml nZ.1) nZ.2.2.1;have c2:=Ik (tz nv qi.1) qi.2.2.1;rw [pq]at d1 d2 c1 c2;have hk:=Kx (kind:=kind) ml nv;have m1:=ml.1;have k1:=nv.1;have jk:2<=iM M.length K.length kind:=by unfold iM;split<;>omega
 obtain⟨b1,s1,U1,e1,f1⟩:=Tz vY;obtain⟨b2,s2,U2,e2,f2⟩:=Tz vX;refine⟨alu l1 l2 b1 b2 s1 s2 d1 d2 c1 c2 o3 hk am ⟨am,.inl am⟩,?_⟩;have:=als l1 l2 b1 b2 e1 e2 o3 hk am;rw [f1,f2]at this;exact this
theorem Xr{M K:ah}{kind:Int}(h:iV M K kind=0)(hf:ye M K kind<=400):fJ (gF M K kind) (iq M K kind) (pU M K kind):=by
 have hq:=PH h;exact⟨(Ky h).1,hq.1,(KC h).2.1,by rw [hq.2];exact hf⟩
theorem Xs{M K:ah}{kind:Int}(h:iV M K kind=0)(hf:ye M K kind<=400):lA (jy M K kind)=0/\(jy M K kind).length=gF M K kind/\(gl (jy M K kind) 0).length=ye M K kind/\aR (jy M K kind) (jy M K kind).length=(iq M K kind).length:=by
 have hY:=Xr h hf;have hq:=PH h;have e:jy M K kind=b6 (gF M K kind) (aG (gF M K kind) (iq M K kind) (pU M K kind)):=by
  unfold jy;rw [if_pos h];exact(EL (by rw [hq.2];exact hf)).2.2
 rw [e];refine⟨hY.gd,hY.len,by rw [hY.nl,hq.2],by rw [hY.len,hY.Xa]⟩
theorem alp{m1 m2:Nat}{rk1 rk2:Int->Int}{kind:Int}(k:Nat):(cK m1 m2 rk1 rk2 kind k).length<=m1*m2:=by
 have hm:∀c∈cK m1 m2 rk1 rk2 kind k,(0<=c.1/\c.1< (m1:Int))/\(0<=c.2/\c.2< (m2:Int)):=fun c hc=>by
  obtain⟨i,_,h1,h2,_⟩:=ux.1 hc;exact⟨h1,h2⟩
 have hn:=Hk (m1:=m1) (m2:=m2) (rk1:=rk1) (rk2:=rk2) (kind:=kind) k;generalize cK m1 m2 rk1 rk2 kind k=L at hm hn;have h1:(L.map fun c=>c.1* (m2:Int)+c.2).Nodup:=CJ hn fun x hx y hy e=>by
  have hx:=hm x hx;have hy:=hm y hy;have e:x.1* (m2:Int)+x.2=y.1* (m2:Int)+y.2:=e;have e3:x.1=y.1:=by
   have a:(x.1* (m2:Int)+x.2) / (m2:Int)=(y.1* (m2:Int)+y.2) / (m2:Int):=by rw [e]
   rwa [Int.add_comm,Int.add_mul_ediv_right _ _ (by omega),Int.add_comm (y.1*_),Int.add_mul_ediv_right _ _ (by omega),Int.ediv_eq_zero_of_lt hx.2.1 hx.2.2,Int.ediv_eq_zero_of_lt hy.2.1 hy.2.2,Int.zero_add,Int.zero_add]at a
  rw [e3]at e;exact Prod.ext e3 am
 have:=q8 (N:=m1*m2) h1 fun v hv=>by
  obtain⟨c,hc,rfl⟩:=dF.1 hv;have hc:=hm c hc;have h3:0<=c.1* (m2:Int):=Int.mul_nonneg hc.1.1 am;have h4:c.1* (m2:Int)<=((m1:Int) - 1)* (m2:Int):=Int.mul_le_mul_of_nonneg_right am am;rw [Int.sub_mul,Int.one_mul]at h4;have h5:((m1*m2:Nat):Int)=(m1:Int)* (m2:Int):=Int.natCast_mul m1 m2;exact⟨am,am⟩
 rwa [fS]at this
theorem akL(M K:ah)(kind:Int):(iq M K kind).length<=(aR M M.length+2)* (aR K K.length+2):=by
 unfold iq;rw [fS];exact alp _
end
section
open Go.RowKit
theorem aln{M K:ah}{kind:Int}(h1:pX M K kind=0):∃ok:Bool,(ok=true↔iV M K kind=0)/\(ok=false->iV M K kind=3)/\
 ∀X Z Y W cx cz cy cw wG xV w',wK w' X (ik M.length (bU M M.length)) (aR M M.length) Y wG (bQ M)->wK w' Z (ik K.length (bU K K.length)) (aR K K.length) W xV (bQ K)->aJ prog 236 [.agg #[ak (M.length:Int),.slice X (aR M M.length+2) cx,.slice Y (aR M M.length+2) cy],.agg #[ak (K.length:Int),.slice Z (aR K K.length+2) cz,.slice W (aR K K.length+2) cw],ak kind] w' (K0 (tA M K kind) (ow M K kind) (ov M K kind) ok w'):=by
 obtain⟨o3,vY,vX⟩:=Hj h1;obtain⟨ml,nZ⟩:=sX vY;obtain⟨nv,qi⟩:=sX vX;have h5:=ml.1;have h6:=nv.1;have dp:=alo h1;have hpN:(if gF M K kind<=5/\(iq M K kind).length<=500 then((gF M K kind:Nat):Int)else 0)=tA M K kind:=by
  unfold tA
  by_cases h:gF M K kind<=5/\(iq M K kind).length<=500
  ·rw [aB h,aB (dp.1 h)]
  rw [az h,az (by rw [dp.2 h];decide)]
 have hpR:(if gF M K kind<=5/\(iq M K kind).length<=500 then iq M K kind else [])=ow M K kind:=by
  unfold ow
  by_cases h:gF M K kind<=5/\(iq M K kind).length<=500
  ·rw [aB h,aB (dp.1 h)]
  rw [az h,az (by rw [dp.2 h];decide)]
 have hpB:(if gF M K kind<=5/\(iq M K kind).length<=500 then pU M K kind else [])=ov M K kind:=by
  unfold ov
  by_cases h:gF M K kind<=5/\(iq M K kind).length<=500
  ·rw [aB h,aB (dp.1 h)]
  rw [az h,az (by rw [dp.2 h];decide)]
 refine⟨decide (gF M K kind<=5/\(iq M K kind).length<=500),?_,fun h=>dp.2 (of_decide_eq_false h),fun X Z Y W cx cz cy cw wG xV w' ji pF=>?_⟩
 ·rw [kB];refine⟨dp.1,fun h=>qD fun h'=>?_⟩;rw [dp.2 h']at h;exact absurd h an
 have:=(ais X Z Y W cx cz cy cw (aR M M.length) (aR K K.length) _ _ wG xV (bQ M) (bQ K) M.length K.length kind (gF M K kind) w' ji pF (AK ml nZ.1) (AK nv qi.1) o3 (Kx ml nv) am am).mono fun _ _ h=>h.b
 rw [<-hpN,<-hpR,<-hpB];exact this
abbrev fk:ah:=[[1,0]]
def HG(w:aa)(v:ad)(w':aa):Prop:=∃A,∃r:aO,v= .agg #[.slice A 1 1]/\St w w' (aS 34 2 A 1 1 [r] fk)
theorem HG.rows{w w':aa}{v:ad}(h:HG w v w'):∃A,∃r:aO,v= .agg #[.slice A 1 1]/\bF w' A 1 [r] fk/\Below w.heap.size w w':=by
 obtain⟨A,r,hv,av⟩:=h;exact⟨A,r,hv,St.jB (ks:=[]) (by rw [fI];exact av) O,av.below⟩
theorem V5(w:aa):aJ prog 186 [] w (HG w):=by
 refine bC func186 O ntmps186 O (re O O) (bh O (ib (St.refl w) O ?_));intro A0 w1 aH;refine ar O (Df aH O O O O O O ?_);intro A1 w2 aF;have aF:St w w2 (ax 2 A1 2 2 [1,0]::[eO A0 none 0 0]):=aF;refine lp aF O O O fun A2 w3 aQ=>Fm (by exact inferInstance) O O O O (b5 1 2 aQ O O O O O O O ?_);intro w4 aX;refine bH O (iA O (aX.rd 2 O) ?_);exact⟨A2,⟨A1,2,2⟩,O,aX.sub (show List.Sublist [_,_] [_,_,_] from((List.nil_sublist _).cons_cons _).cons_cons _)⟩
theorem Yj(w:aa):aJ prog 180 [] w (HG w):=by
 refine bC func180 O ntmps180 O (re O O) (bh O (ib (St.refl w) O ?_));intro A0 w1 aH;refine ar O (Df aH O O O O O O ?_);intro A1 w2 aF;have aF:St w w2 (ax 2 A1 2 2 [1,0]::[eO A0 none 0 0]):=aF;refine lp aF O O O fun A2 w3 aQ=>Fm (by exact inferInstance) O O O O (b5 1 2 aQ O O O O O O O ?_);intro w4 aX;refine bH O (iA O (aX.rd 2 O) ?_);exact⟨A2,⟨A1,2,2⟩,O,aX.sub (show List.Sublist [_,_] [_,_,_] from((List.nil_sublist _).cons_cons _).cons_cons _)⟩
end
section
variable{kind:Int}
theorem Iy:bI fk:=by decide
theorem DL:aR fk 1=2:=by kernel_rfl
theorem Sy:bU fk 1=[0,0]:=by kernel_rfl
theorem acw(d e:Int):¬sJ fk d e:=fun⟨_,_,i,hi,k,hk,_⟩=>by
 have:i<1:=hi;omega
theorem ya:bQ fk=[[],[]]:=by
 have h:∀e:Int,(fun e=> (bY (aR fk fk.length)).filter fun d=> @decide (sJ fk d e) (Classical.propDecidable _)) e=[]:=fun e=>List.filter_eq_nil_iff.2 fun d _ hd=>acw d e (@uq _ (Classical.propDecidable _) hd)
 unfold bQ;rw [pj (g:=fun _=> ([]:ai)) fun e _=>h e];show(bY (aR fk 1)).map _=_;rw [DL];rfl
theorem Ix:aG 1 [0,0] [[],[]]=[[0],[1]]:=by decide
theorem acv:vG fk:=by
 refine⟨by show aR fk 1<=500;rw [DL];omega,?_,?_⟩
 ·unfold DP;show(aG 1 (bU fk 1) (bQ fk)).length=_;rw [Sy,ya,Ix];rfl
 show Bz 1 (bU fk 1) (bQ fk);rw [Sy,ya];refine⟨by rw [Ix];simp,fun e h0 h1=>?_,?_,?_⟩
 ·rw [Ix];have h1:e<2:=h1;rcases(show e=0\/e=1 by omega)with rfl | rfl
  ·exact⟨[0],by simp,by simp⟩
  exact⟨[1],by simp,by simp⟩
 ·intro i e f h0 h1 fo dv _;obtain rfl:i=0:=by omega
  have he:e= -1:=by rcases fo with h | h<;>omega
  have hf:f= -1:=by rcases dv with h | h<;>omega
  subst he;subst hf;decide
 rw [Ix];intro a b eA hb;have hb:b<2:=hb;obtain rfl:a=0:=by omega
 obtain rfl:b=1:=by omega
 exact .step (.refl an) (i:=0) am an ⟨an,an,fun k hk bP=>by omega⟩
theorem L9:lA fk=0:=Mu Iy acv
noncomputable def fV(kind:Int):Nat->ah
 | 0=>fk
 | j+1=>jy (fV kind j) fk kind
theorem RV(r:Nat):jZ r 1=r+1:=by
 induction r with
 | zero=>exact H6 1
 | succ r ih=>rw [RW,ih,LF]
theorem LW(hk:kind=1\/kind=2){M:ah}{j f e:Nat}(hg:lA M=0)(hl:M.length=j+1)(hf:(gl M 0).length=f)(ho:aR M M.length<=e)(h4:j<=2)(he:(e+2)*4<=500):
 iV M fk kind=0/\(f*2* (j+2)<=400->lA (jy M fk kind)=0/\(jy M fk kind).length=j+2/\(gl (jy M fk kind) 0).length=f*2* (j+2)/\aR (jy M fk kind) (jy M fk kind).length<=(e+2)*4):=by
 have hN:gF M fk kind=j+2:=by
  unfold gF iM;rw [az (by omega),hl];show((((j+1:Nat):Int))+ ((1:Nat):Int)).toNat=_;omega
 have hR:(iq M fk kind).length<=(e+2)*4:=by
  have:=akL M fk kind;have e2:aR fk fk.length=2:=DL;rw [e2]at this;exact mS this (Nat.mul_le_mul_right _ am)
 have hp:iV M fk kind=0:=by
  have:pX M fk kind=0:=by
   unfold pX;rw [aB ⟨(sX hg).1,Iy⟩,aB (by omega),aB hg,L9]
  unfold iV;rw [aB this,az (by omega)]
 refine⟨hp,fun kc=>?_⟩;have hz:ye M fk kind=f*2* (j+2):=by
  unfold ye;rw [az (by omega),hf,hl];show f*2*jZ (j+1) 1=_;rw [RV]
 have h:=Xs hp (by rw [hz];exact kc);exact⟨h.1,h.2.1.trans hN,h.2.2.1.trans hz,by rw [h.2.2.2];exact hR⟩
theorem BI(hk:kind=1\/kind=2):∀j:Nat,j<=2->lA (fV kind j)=0/\iV (fV kind j) fk kind=0:=by
 have s0:=LW hk (M:=fV kind 0) (j:=0) (f:=2) (e:=2) L9 O O (by show aR fk 1<=2;rw [DL];omega) am am;have t0:=s0.2 am;have s1:=LW hk (M:=fV kind 1) (j:=1) (f:=8) (e:=16) t0.1 t0.2.1 t0.2.2.1 t0.2.2.2 am am;have t1:=s1.2 am;have s2:=LW hk (M:=fV kind 2) (j:=2) (f:=48) (e:=72) t1.1 t1.2.1 t1.2.2.1 t1.2.2.2 am am;intro j hj;rcases(show j=0\/j=1\/j=2 by omega)with rfl | rfl | rfl
 ·exact⟨L9,s0.1⟩
 ·exact⟨t0.1,s1.1⟩
 exact⟨t1.1,s2.1⟩
instance aos(n:Nat)(fl:ah)(i a b:Nat):Decidable (mQ n fl i a b):=by unfold mQ;infer_instance
instance aot(M:ah)(d e:Int):Decidable (sJ M d e):=by unfold sJ;infer_instance
def W5(n:Nat)(fl:ah)(i a:Nat):ai:=((List.range fl.length).filter fun b=>decide (mQ n fl i a b/\b≠a)).map fun b:Nat=> (b:Int)
def Pf(n:Nat)(fl:ah):ah:=(List.range n).map fun i=> (List.range fl.length).flatMap (W5 n fl i)
theorem ajq(n:Nat)(fl:ah):b6 n fl=Pf n fl:=by
 unfold b6 Pf uo;refine pj fun i _=>?_
 congr 1
 funext a;unfold Bc W5
 congr 1
 exact List.filter_congr fun b _=>ju.2 Iff.rfl
def Tj(M:ah):ah:=(bY (aR M M.length)).map fun e=> (bY (aR M M.length)).filter fun d=>decide (sJ M d e)
theorem Mr(M:ah):bQ M=Tj M:=by
 unfold bQ Tj;refine pj fun e _=>?_
 exact List.filter_congr fun d _=>ju.2 Iff.rfl
theorem KA{M K:ah}(BM BK:ah)(n:Nat)(L:List (Int×Int))(R:ai)(B fl X:ah)(hM:bQ M=BM)(hK:bQ K=BK)(hp:iV M K kind=0)(hn:gF M K kind=n)(hL:cK (aR M M.length+2) (aR K K.length+2) (rm M) (rm K) kind n=L)(hR:L.map (dh (rm M) (rm K) kind)=R)(hB:nH (eM (aR M M.length) BM) (eM (aR K K.length) BK) L=B)(hf:aG n R B=fl)(h4:fl.length<=400)(hX:Pf n fl=X):jy M K kind=X:=by
 have e1:zm M K kind=L:=by unfold zm;rw [hn];exact hL
 have e2:iq M K kind=R:=by unfold iq;rw [e1];exact hR
 have e3:pU M K kind=B:=by
  unfold pU;rw [e1,<-hB];show nH (eM _ (bQ M)) (eM _ (bQ K)) L=_;rw [hM,hK]
 unfold jy;rw [aB hp,hn,e2,e3,(EL (by rw [hf];exact h4)).2.2,hf,ajq,hX]
end
section
open Go.RowKit
theorem Qd(o b mv:ai):(kf o b mv).length=o.length:=by simp [kf]
theorem ame{o b mv:ai}{k:Nat}(hk:k<o.length):(kf o b mv).take (k+1)=(kf o b mv).take k++ [gi b (gi mv (gi o k))]:=by
 rw [nM (by rw [Qd];exact hk),bV hk];simp [kf]
theorem acX(A:aj)(n c:Nat)(rs:List aO)(xss:ah)(N:Nat)(f:Int)(w:aa)(hR:bF w A n rs xss)(hM:bI xss)(hN:N=(gl xss 0).length)(h0:0<=f)(hf:f<N):
 aJ prog 156 [.slice A n c,ak f] w (fun v w'=>∃A' c' rs',v= .agg #[.slice A' n c']/\rs'.length=n/\St w w' (aS 34 2 A' n c' rs' (ew N xss f))):=by
 subst hN;have hP:=hM.CT h0 hf;have hs:=hM.2.2.1.sys;have h5:=hM.1;have I0:=hM.2.1;have iU:=hR.len;have og:(gl xss 0).length=(rg rs 0).n:=hR.nI am am;have afB:ew (gl xss 0).length xss f=xss.map fun mv=>kf (cC (gl xss 0).length xss f) (je (gl xss 0).length (cC (gl xss 0).length xss f)) mv:=O
 have tZ:∀x:Int,0<=x->x< ((gl xss 0).length:Int)->0<=gi (je (gl xss 0).length (cC (gl xss 0).length xss f)) x/\gi (je (gl xss 0).length (cC (gl xss 0).length xss f)) x< ((gl xss 0).length:Int):=fun x h0 h1=>by
  obtain⟨k,hk,_,hb⟩:=hP.x6 h0 h1;omega
 have nA:=RG (gl xss 0).length (cC (gl xss 0).length xss f);have rV:je (gl xss 0).length (cC (gl xss 0).length xss f)=xN (List.replicate (gl xss 0).length 0) (fun k=>gi (cC (gl xss 0).length xss f) k) (fun k=> (k:Int)) (gl xss 0).length:=by
  unfold je;rw [hP.len]
 have JS:=aku A n c rs xss (gl xss 0).length f;generalize TY:(gl xss 0).length=N at*;generalize hoe:cC N xss f=o at*;generalize fL:je N o=b at*;have Es:=hP.len;have bS:∀k:Nat,k<N->0<=gi o k/\gi o k<N:=fun k hk=>hP.eE hk
 rw [afB];refine bC func156 O ntmps156 O (re O O) (bh O (ib (St.refl w) O ?_));intro Ac w1 aH;refine ar O (aL (JS _ (aH.b7 hR) am am hs am h0 hf) O ?_);rintro _ w2 ⟨Ao,co,rfl,av⟩;rw [Es]at av|-;have aF:=aH.call av;have lZ:=aF.b7 hR;refine ar O (aD lZ.top.2 O (b9 lZ.top O (a8 O O ?_)));refine x4 N aF (by rw [<-og];rfl) O am ?_;intro A6 w3 aQ;refine ar O (a8 O O (aC O ?_));refine Cd.loop (α:=Nat) (fun k=> [(0,.slice A n c),(4,.pointer Ac),(5,.slice Ao N co),(6,.slice A6 N N),(23,.slice Ao N co),(24,ak N),(25,ak k)]) (fun k w'=>St w w' [ax 2 A6 N N (xN (List.replicate N 0) (fun k=>gi o k) (fun k=> (k:Int)) k),ax 2 Ao N co o,Bx 24 1 Ac [.slice none 0 0]]/\k<=N) (fun k=>N - k) 0 ⟨O,O,O,by rw [<-og];rfl,O,O,O,au⟩ ⟨aQ,bg _⟩ ?_;rintro k e w4 ⟨aX,hk⟩;have Je:=aX.bz 1 O;refine bL O (aM _ O (fun h1=>?_) (fun h1=>?_))
 ·have dp:=bS k am;refine aA O (aD Je.2 O (aY Je O (ar O (aD (aX.bz 0 O).2 O (kN 0 aX O O O am ?_)))));intro w5 ba;refine ar O (aI O (aT O (tQ ?_)));exact⟨k+1,by show N - (k+1)<N - k;omega,(aqv O),ba,am⟩
 have yH:k=N:=by omega
 subst yH;rw [<-rV]at aX;refine bp O (bt (cS O ?_));refine ib aX O ?_;intro Ad w5 ba;have hS0:St w w5 (Bx 24 1 Ad [.slice none 0 0]::ax 2 A6 k k b::ax 2 Ao k co o::Bx 24 1 Ac [.slice none 0 0]::cg 34 none 0 0 []::[]):=(ba.nil 34).perm (nL (l₁:=[_]) (l₂:=[_,_,_,_]));refine ar O (a8 O O (aC O ?_));refine Cd.loop (α:=Nat×aj×Nat×List aO) (fun s=> [(4,.pointer Ac),(5,.slice Ao k co),(6,.slice A6 k k),(9,.pointer Ad),(35,.slice A n c),(36,ak n),(37,ak (s.1:Int))]) (fun s w'=>St w w' (Bx 24 1 Ad [.slice s.2.1 s.1 s.2.2.1]::ax 2 A6 k k b::ax 2 Ao k co o::Bx 24 1 Ac [.slice none 0 0]::cg 34 s.2.1 s.1 s.2.2.1 s.2.2.2::da 2 s.2.2.2 ((xss.map fun mv=>kf o b mv).take s.1))/\s.1<=n/\s.2.2.2.length=s.1) (fun s=>n - s.1) (0,none,0,[]) (aqv O) ⟨hS0,bg _,O⟩ ?_;rintro⟨i,A3,c3,sr⟩ e w6 ⟨bo,hi,hlen⟩;dsimp only at bo hi hlen|-;refine bL O (aM _ O (fun h1=>?_) (fun h1=>?_))
 ·have dw:i<n:=by omega
  have hx:i<xss.length:=by omega
  have MY:=bo.b7 hR;have e2:gl xss i=xss[i]:=by simp [gl,dm,fq hx]
  have vg:=hs (gl xss i) (oQ am am);have Ar:=MY.nI (k:=(i:Int)) am h1;refine aA O (aD MY.top.2 O (b9 MY.top O ?_));refine ar O (a8 O O (aC O ?_));refine Cd.loop (α:=Nat×aj×Nat) (fun s=> [(4,.pointer Ac),(5,.slice Ao k co),(6,.slice A6 k k),(9,.pointer Ad),(35,.slice A n c),(36,ak n),(37,ak i),(11,.slice (rg rs i).a (rg rs i).n (rg rs i).c),(12,.slice s.2.1 s.1 s.2.2),(41,.slice Ao k co),(42,ak k),(43,ak (s.1:Int))]) (fun s w'=>St w w' (ax 2 s.2.1 s.1 s.2.2 ((kf o b (gl xss i)).take s.1)::Bx 24 1 Ad [.slice A3 i c3]::ax 2 A6 k k b::ax 2 Ao k co o::Bx 24 1 Ac [.slice none 0 0]::cg 34 A3 i c3 sr::da 2 sr ((xss.map fun mv=>kf o b mv).take i))/\s.1<=k) (fun s=>k - s.1) (0,none,0) (aqv O) ⟨bo.nil _,bg _⟩ ?_;rintro⟨j,fR,LI⟩ e w7 ⟨bK,hj⟩;dsimp only at bK hj|-;have T0:=bK.bz 3 O;have kb:=bK.bz 2 O;have TW:=(bK.b7 hR).at_ (i:=(i:Int)) am h1;refine bL O (aM _ O (fun h2=>?_) (fun h2=>?_))
  ·have xv:=bS j am;have hv:=vg.2 _ xv.1 xv.2;have hbv:=tZ _ hv.1 hv.2;refine aA O (aD T0.2 O (aY T0 O (ar O (aD TW.2 O (aY TW O (aD kb.2 O (aY kb O (eL bK O O O ?_))))))));intro A9 w9 bT;refine fu 1 bT O (bT.bz 0 O) O O O ?_;intro bN dC dY bW;have bW:=bW.tail;refine ar O (aI O (aT O (tQ ?_)));refine⟨(j+1,bN,dC),by show k - (j+1)<k - j;omega,(aqv O),?_,by show j+1<=k;omega⟩;show St w dY (ax _ bN (j+1) dC ((kf o b (gl xss i)).take (j+1))::_);rw [ame (by omega)];exact bW
  have vc:j=k:=by omega
  subst vc;rw [iY (by rw [Qd];omega)]at bK;refine bp O (bt (cS O ?_));refine aV (bK.rd 1 O) O (bj (bK.rd 1 O) O (ar O (lp bK O O O ?_)));intro A9 w9 bT;refine lK 6 bT O (bT.fQ 0 O) O O O am am O ?_;intro bN dC dY bW;have bW:=bW.tail;refine aV (bW.rd 1 O) O (ki 1 bW O O O O O ?_);intro eF eH;have eH:St w eF (ax 2 fR j LI (kf o b (gl xss i))::Bx 24 1 Ad [.slice bN (i+1) dC]::ax 2 A6 j j b::ax 2 Ao j co o::Bx 24 1 Ac [.slice none 0 0]::cg 34 bN (i+1) dC (sr++ [⟨fR,j,LI⟩])::da 2 sr ((xss.map fun mv=>kf o b mv).take i)):=eH;refine ar O (aI O (aT O (tQ ?_)));refine⟨(i+1,bN,dC,sr++ [⟨fR,j,LI⟩]),by show n - (i+1)<n - i;omega,(aqv O),?_,dw,by simp [hlen]⟩;show St w eF (_::_::_::_::cg _ bN (i+1) dC (sr++ [_])::da _ (sr++ [_]) ((xss.map fun mv=>kf o b mv).take (i+1)));rw [nM (by rw [fS];exact hx),CY (by simp [hlen];omega),List.getElem_map,<-e2];refine eH.perm ?_;exact nL (l₁:=[_]) (l₂:=_::_::_::_::_::da 2 sr ((xss.map fun mv=>kf o b mv).take i))
 have cI:i=n:=by omega
 subst cI;rw [iY (by rw [fS];omega)]at bo;refine bp O (bt (cS O ?_));refine ao.cN 0 (bo.rd 0 O) O O O (b5 1 3 bo O O O O O O O ?_);intro w7 bK;refine bH O (iA O (bK.rd 3 O) ?_);exact⟨A3,c3,sr,O,hlen,bK.sub ((((List.sublist_cons_self _ _).trans (List.sublist_cons_self _ _)).trans (List.sublist_cons_self _ _)).trans (List.sublist_cons_self _ _))⟩
end
section
abbrev Mx:=ah
def Rk(N:Nat)(xss:Mx):Prop:=∀f,f<N->¬Wz (ew N xss (f:Nat)) xss<0
instance (N:Nat)(xss:Mx):Decidable (Rk N xss):=by unfold Rk;exact inferInstance
end
section
open Go.RowKit
section
variable {P:Program} {N:Nat} {ops:Array Oper} {K:Env->aa->Prop} {rest:List Oper} {e:Env} {w:aa} {d:Nat} {ty:ae} {pos:String} {af:Array Edge}
end
def iP(N:Nat)(xss:ah):Nat->List (ah)
 | 0=> []
 | k+1=>if ew N xss k∈iP N xss k then iP N xss k else iP N xss k++ [ew N xss k]
end
section
def Qp:ah:=[[2,5,0,7,6,1,4,3],[1,0,3,2,5,4,7,6]]
def tO:ah:=[[6,7,14,15,26,27,0,1,20,21,32,33,18,19,2,3,38,39,12,13,8,9,44,45,30,31,4,5,40,41,24,25,10,11,46,47,42,43,16,17,28,29,36,37,22,23,34,35],[2,4,0,5,1,3,8,10,6,11,7,9,14,16,12,17,13,15,20,22,18,23,19,21,26,28,24,29,25,27,32,34,30,35,31,33,38,40,36,41,37,39,44,46,42,47,43,45],[1,0,3,2,5,4,7,6,9,8,11,10,13,12,15,14,17,16,19,18,21,20,23,22,25,24,27,26,29,28,31,30,33,32,35,34,37,36,39,38,41,40,43,42,45,44,47,46]]
def Qq:ah:=[[4,6,5,7,0,2,1,3],[1,0,3,2,5,4,7,6]]
def FD:ah:=[[16,17,24,25,32,33,40,41,18,19,26,27,34,35,42,43,0,1,8,9,36,37,44,45,2,3,10,11,38,39,46,47,4,5,12,13,20,21,28,29,6,7,14,15,22,23,30,31],[4,6,5,7,0,2,1,3,12,14,13,15,8,10,9,11,20,22,21,23,16,18,17,19,28,30,29,31,24,26,25,27,36,38,37,39,32,34,33,35,44,46,45,47,40,42,41,43],[1,0,3,2,5,4,7,6,9,8,11,10,13,12,15,14,17,16,19,18,21,20,23,22,25,24,27,26,29,28,31,30,33,32,35,34,37,36,39,38,41,40,43,42,45,44,47,46]]
theorem am0:fV 1 1=Qp:=
 KA [[],[]] [[],[]] 2 [(1,1),(1,2),(2,1),(2,2),(1,3),(2,3),(3,1),(3,2)] [0,0,0,0,1,1,1,1] [[],[],[],[],[0,1],[2,3],[0,2],[1,3]] [[0,4],[0,6],[1,4],[1,7],[2,5],[2,6],[3,5],[3,7]] Qp ya ya (BI (.inl rfl) 0 am).2 (by kernel_rfl) (by kernel_rfl) (by kernel_rfl) (by kernel_rfl) (by kernel_rfl) an (by kernel_rfl)
theorem amY:bQ Qp=[[],[],[],[],[0,1],[0,2],[1,3],[2,3]]:=(Mr _).trans (by kernel_rfl)
theorem Ij:fV 1 2=tO:=by
 have h:=(BI (kind:=1) (.inl O) 1 am).2;show jy (fV 1 1) fk 1=_;rw [am0]at h|-;exact KA [[],[],[],[],[0,1],[0,2],[1,3],[2,3]] [[],[]] 3 [(1,1),(1,2),(2,1),(2,2),(3,1),(3,2),(4,1),(4,2),(1,3),(2,3),(3,3),(4,3),(5,1),(5,2),(6,1),(6,2),(7,1),(7,2),(8,1),(8,2),(5,3),(6,3),(7,3),(8,3),(9,1),(9,2)] [0,0,0,0,0,0,0,0,1,1,1,1,1,1,1,1,1,1,1,1,2,2,2,2,2,2] [[],[],[],[],[],[],[],[],[0,1],[2,3],[4,5],[6,7],[0,2],[1,3],[0,4],[1,5],[2,6],[3,7],[4,6],[5,7],[0,1,2,3,8,9,12,13],[0,1,4,5,8,10,14,15],[2,3,6,7,9,11,16,17],[4,5,6,7,10,11,18,19],[0,2,4,6,12,14,16,18],[1,3,5,7,13,15,17,19]] [[0,8,20],[0,8,21],[0,12,20],[0,12,24],[0,14,21],[0,14,24],[1,8,20],[1,8,21],[1,13,20],[1,13,25],[1,15,21],[1,15,25],[2,9,20],[2,9,22],[2,12,20],[2,12,24],[2,16,22],[2,16,24],[3,9,20],[3,9,22],[3,13,20],[3,13,25],[3,17,22],[3,17,25],[4,10,21],[4,10,23],[4,14,21],[4,14,24],[4,18,23],[4,18,24],[5,10,21],[5,10,23],[5,15,21],[5,15,25],[5,19,23],[5,19,25],[6,11,22],[6,11,23],[6,16,22],[6,16,24],[6,18,23],[6,18,24],[7,11,22],[7,11,23],[7,17,22],[7,17,25],[7,19,23],[7,19,25]] tO amY ya h (by kernel_rfl) (by kernel_rfl) (by kernel_rfl) (by kernel_rfl) (by kernel_rfl) an (by kernel_rfl)
theorem am1:fV 2 1=Qq:=
 KA [[],[]] [[],[]] 2 [(0,1),(0,2),(1,0),(2,0),(1,1),(1,2),(2,1),(2,2)] [0,0,0,0,1,1,1,1] [[],[],[],[],[0,2],[1,2],[0,3],[1,3]] [[0,4],[0,6],[1,5],[1,7],[2,4],[2,5],[3,6],[3,7]] Qq ya ya (BI (.inr rfl) 0 am).2 (by kernel_rfl) (by kernel_rfl) (by kernel_rfl) (by kernel_rfl) (by kernel_rfl) an (by kernel_rfl)
theorem amZ:bQ Qq=[[],[],[],[],[0,2],[0,3],[1,2],[1,3]]:=(Mr _).trans (by kernel_rfl)
theorem abm:fV 2 2=FD:=by
 have h:=(BI (kind:=2) (.inr O) 1 am).2;show jy (fV 2 1) fk 2=_;rw [am1]at h|-;exact KA [[],[],[],[],[0,2],[0,3],[1,2],[1,3]] [[],[]] 3 [(0,1),(0,2),(1,0),(2,0),(3,0),(4,0),(1,1),(1,2),(2,1),(2,2),(3,1),(3,2),(4,1),(4,2),(5,0),(6,0),(7,0),(8,0),(5,1),(5,2),(6,1),(6,2),(7,1),(7,2),(8,1),(8,2)] [0,0,0,0,0,0,1,1,1,1,1,1,1,1,1,1,1,1,2,2,2,2,2,2,2,2] [[],[],[],[],[],[],[0,2],[1,2],[0,3],[1,3],[0,4],[1,4],[0,5],[1,5],[2,4],[2,5],[3,4],[3,5],[0,2,4,6,10,14],[1,2,4,7,11,14],[0,2,5,6,12,15],[1,2,5,7,13,15],[0,3,4,8,10,16],[1,3,4,9,11,16],[0,3,5,8,12,17],[1,3,5,9,13,17]] [[0,6,18],[0,6,20],[0,8,22],[0,8,24],[0,10,18],[0,10,22],[0,12,20],[0,12,24],[1,7,19],[1,7,21],[1,9,23],[1,9,25],[1,11,19],[1,11,23],[1,13,21],[1,13,25],[2,6,18],[2,6,20],[2,7,19],[2,7,21],[2,14,18],[2,14,19],[2,15,20],[2,15,21],[3,8,22],[3,8,24],[3,9,23],[3,9,25],[3,16,22],[3,16,23],[3,17,24],[3,17,25],[4,10,18],[4,10,22],[4,11,19],[4,11,23],[4,14,18],[4,14,19],[4,16,22],[4,16,23],[5,12,20],[5,12,24],[5,13,21],[5,13,25],[5,15,20],[5,15,21],[5,17,24],[5,17,25]] FD amZ ya h (by kernel_rfl) (by kernel_rfl) (by kernel_rfl) (by kernel_rfl) (by kernel_rfl) an (by kernel_rfl)
theorem Tx(p:ai)(ps:ah)(j:Nat):gl (p::ps) ((j+1:Nat):Int)=gl ps j:=by
 simp only [gl,jq,List.getD_cons_succ]
theorem Tv{φ:Int->Int}{l:ai}{k:Nat}(h:k<l.length):gi (l.map φ) k=φ (gi l k):=by
 rw [bV (by simpa using h),bV h,List.getElem_map]
structure Fh(N:Nat)(xss l7:ah)(φ:Int->Int):Prop where
 len:l7.length=xss.length
 eE:∀x:Int,0<=x->x<N->0<=φ x/\φ x<N
 inj:∀x y:Int,0<=x->x<N->0<=y->y<N->φ x=φ y->x=y
 vN:∀(i:Nat) (x:Int),i<xss.length->0<=x->x<N->gi (gl l7 i) (φ x)=φ (gi (gl xss i) x)
section
variable {N:Nat} {xss l7:ah} {φ:Int->Int}
theorem alI(Ef:∀x y:Int,0<=x->x<N->0<=y->y<N->φ x=φ y->x=y){out:ai}(ho:∀x∈out,0<=x/\x< (N:Int)){y:Int}(h0:0<=y)(h1:y<N):jP (out.map φ) (φ y)=(jP out y).map φ:=by
 unfold jP
 by_cases h:y∈out
 ·rw [aB h,aB (List.mem_map_of_mem h)]
 rw [az h,az (fun hm=>by
  obtain⟨z,hz,e⟩:=dF.1 hm;exact h (Ef z y (ho z hz).1 (ho z hz).2 h0 h1 e▸hz)),iI]
 rfl
theorem fold_map(Ef:∀x y:Int,0<=x->x<N->0<=y->y<N->φ x=φ y->x=y){x:Int}:∀(ps qs:ah) (out:ai),qs.length=ps.length->(∀z∈out,0<=z/\z< (N:Int))->(∀j:Nat,j<ps.length->(0<=gi (gl ps j) x/\gi (gl ps j) x<N)/\gi (gl qs j) (φ x)=φ (gi (gl ps j) x))->qs.foldl (fun o p=>jP o (gi p (φ x))) (out.map φ)=(ps.foldl (fun o p=>jP o (gi p x)) out).map φ
 | [],[],_,_,_,_=>rfl
 | p::ps,q::qs,out,hl,ho,h=>by
  have h0:(0<=gi p x/\gi p x<N)/\gi q (φ x)=φ (gi p x):=h 0 (by simp);simp only [List.foldl_cons];rw [h0.2,alI Ef ho h0.1.1 h0.1.2];exact fold_map Ef ps qs _ (by simpa using hl) (fun z hz=>by
   rcases KD.1 hz with hz | rfl
   ·exact ho z hz
   ·exact h0.1) (fun j hj=>by
   have:=h (j+1) (by simpa using hj);rw [Tx,Tx]at this;exact this)
 | [],_::_,_,hl,_,_=>by simp at hl
 | _::_,[],_,hl,_,_=>by simp at hl
theorem RM(h:Fh N xss l7 φ)(hs:Sys N xss){pt:Int}:∀(f i:Nat) (out:ai),Good N xss pt out->oI l7 f i (out.map φ)=(oI xss f i out).map φ
 | 0,_,_,_=>rfl
 | f+1,i,out,hg=>by
  simp only [oI,fS]
  by_cases hi:i<out.length
  ·rw [aB hi,aB hi,Tv hi];have hx:=gi_in hi;have hr:=hg.range _ hx;have e:expand l7 (φ (gi out i)) (out.map φ)=(expand xss (gi out i) out).map φ:=fold_map h.inj xss l7 out h.len hg.range (fun j hj=> ⟨(hs (gl xss j) (by rw [bR hj];exact dK _)).2 _ hr.1 hr.2,h.vN j _ hj hr.1 hr.2⟩);rw [e];exact RM h hs f (i+1) _ (foldl_push hs xss out (fun p hp=>hp) hg hx).1
  ·rw [az hi,az hi]
theorem akE(h:Fh N xss l7 φ)(hs:Sys N xss){pt:Int}(h0:0<=pt)(h1:pt<N):cC N l7 (φ pt)=(cC N xss pt).map φ:=RM h hs (N+1) 0 [pt] (IW h0 h1)
theorem acZ(h:Fh N xss l7 φ)(hM:bI xss)(hN:N=(gl xss 0).length){pt:Int}(h0:0<=pt)(h1:pt<N):ew N l7 (φ pt)=ew N xss pt:=by
 have hs:=hM.2.2.1.sys;have hP:=hM.CT h0 (by rw [<-hN];exact h1);rw [<-hN]at hs hP;have ho:=akE h hs h0 h1;have hP':uL N ((cC N xss pt).map φ):=by
  refine⟨by rw [fS];exact hP.len,?_,fun x hx=>?_⟩
  ·rw [List.nodup_iff_pairwise_ne,oD];exact List.Pairwise.imp_of_mem (fun ha hb eA e=>eA (h.inj _ _ (hP.range _ ha).1 (hP.range _ ha).2 (hP.range _ hb).1 (hP.range _ hb).2 e)) (List.nodup_iff_pairwise_ne.1 hP.nodup)
  obtain⟨y,hy,rfl⟩:=dF.1 hx;exact h.eE y (hP.range y hy).1 (hP.range y hy).2
 have hb:∀z:Int,0<=z->z<N->gi (je N ((cC N xss pt).map φ)) (φ z)=gi (je N (cC N xss pt)) z:=fun z h0 h1=>by
  obtain⟨k,hk,e1,e2⟩:=hP.x6 h0 h1;have:=hP'.back hk;rw [Tv (by rw [hP.len];exact hk),e1]at this;rw [this,e2]
 unfold ew;rw [ho];apply jE
 ·simp [h.len]
 intro i h2 h3;simp only [fS]at h2 h3;simp only [List.getElem_map];unfold kf;rw [List.map_map];apply pj;intro x hx;have hx:=hP.range x hx;have hr:=(hs (gl xss i) (by rw [bR h3];exact dK _)).2 x hx.1 hx.2;have hc:=h.vN i x h3 hx.1 hx.2;rw [bR h2,bR h3]at hc;rw [bR h3]at hr;show gi _ (gi l7[i] (φ x))=_;rw [hc,hb _ hr.1 hr.2]
variable {f:Int}
theorem Tg(hM:bI xss)(hN:N=(gl xss 0).length)(h0:0<=f)(h1:f<N):Fh N xss (ew N xss f) (gi (je N (cC N xss f))):=by
 have hs:=hM.2.2.1.sys;have hP:=hM.CT h0 (by rw [<-hN];exact h1);rw [<-hN]at hs hP;refine⟨IK _ _ _,fun x hx eQ=>?_,fun x y hx eQ hy lG e=>?_,fun i x hi hx eQ=>?_⟩
 ·obtain⟨k,hk,_,e⟩:=hP.x6 hx eQ;omega
 ·obtain⟨k,hk,e1,e2⟩:=hP.x6 hx eQ;obtain⟨j,hj,e3,e4⟩:=hP.x6 hy lG;have:(k:Int)=j:=by omega
  rw [<-e1,<-e3,this]
 obtain⟨k,hk,e1,e2⟩:=hP.x6 hx eQ;rw [e2,bR (by rw [IK];exact hi)];simp only [ew,List.getElem_map];rw [bV (by rw [Qd,hP.len];exact hk)];simp only [kf,List.getElem_map];rw [<-bV (by rw [hP.len];exact hk),e1,bR hi]
theorem Th(hM:bI xss)(hN:N=(gl xss 0).length)(h0:0<=f)(h1:f<N):gi (cC N xss f) 0=f/\gi (je N (cC N xss f)) f=0:=by
 have hs:=hM.2.2.1.sys;have hP:=hM.CT h0 (by rw [<-hN];exact h1);rw [<-hN]at hs hP;have e:=BQ (tx hs h0 h1).2.1 (i:=0) (by simp);have e:gi (cC N xss f) 0=f:=e;refine⟨e,?_⟩;have:=hP.back (k:=0) am;have this:gi (je N (cC N xss f)) (gi (cC N xss f) 0)=0:=this
 rwa [e]at this
end
section
variable {n F:Nat} {L:ah}
end
section
variable {N:Nat} {xss:ah} {f:Int}
end
section
variable {M:ah}
end
section
variable {M:ah}
end
section
variable {N:Nat} {X Y Z:ah} {φ ψ:Int->Int}
end
theorem Reach.sub{ps qs:ah}(h:∀p∈ps,p∈qs){x y:Int}(hr:Reach ps x y):Reach qs x y:=by
 induction hr with
 | refl=>exact .refl
 | step _ hp ih=>exact .step ih (h _ hp)
section
variable {M:ah}
theorem PZ{i:Nat}(hi:i<M.length):gl M.reverse i=gl M ((M.length - 1 - i:Nat):Int):=by
 rw [bR (by rw [List.length_reverse];exact hi),bR (by omega),List.getElem_reverse]
theorem PY(hM:bI M):(gl M.reverse 0).length=(gl M 0).length:=by
 have h1:=hM.1;have:=PZ (M:=M) (i:=0) am;rw [show((0:Nat):Int)=0 from rfl]at this;rw [this];exact(hM.2.2.1.at_ am).1
theorem XR(hM:bI M):bI M.reverse:=by
 have h0:=PY hM;have h1:=hM.1;refine⟨by rw [List.length_reverse];exact hM.1,by rw [h0];exact hM.2.1,fun p hp=>?_,fun i hi k hk nB f hf=>?_,?_⟩
 ·rw [h0];exact hM.2.2.1 p (List.mem_reverse.1 hp)
 ·rw [List.length_reverse]at hi hk;rw [h0]at hf;have h:=hM.2.2.2.1 (M.length - 1 - k) am (M.length - 1 - i) am am f hf;unfold Comm at h|-;rw [PZ hi,PZ hk];exact⟨h.1.symm,fun e=>h.2 e.symm⟩
 have hs:Sys (gl M 0).length M.reverse:=fun p hp=>hM.2.2.1.sys p (List.mem_reverse.1 hp)
 have hN:=hM.2.1;rw [h0];refine(CN hs am).2 fun x vn iT=>?_
 exact((CN hM.2.2.1.sys am).1 hM.2.2.2.2 x vn iT).sub fun p hp=>List.mem_reverse.2 hp
end
section
variable {n:Nat} {R R':ai} {B B':ah} {δ δ':Int->Int}
end
section
variable {m m1 m2:Nat} {n n1 n2:Int} {rk rk' rk1 rk2 rk1' rk2':Int->Int} {ir und' di db und1' und2':Int->Int->Prop} {δ δ' δ1 δ2 δ1' δ2':Int->Int}
end
section
variable {m1 m2:Nat} {rk1 rk2:Int->Int} {kind:Int}
def cE(m:Nat)(k:Int->Nat)(ok:Int->Bool)(t:Nat):Nat:=((bY m).filter fun a=>decide (k a=t) && ok a).length
end
def Sf(n:Nat)(R:ai):ai:=(List.range n).map fun i:Nat=> ((vy R i).length:Int)
end
section
open Go.RowKit
end
section
section
variable {M:ah}
end
section
variable {N:Nat} {X Y:ah} {φ:Int->Int}
end
section
variable {M D K L:ah} {kind:Int}
end
end
section
open Go.RowKit
variable{ks:List Ck}{k k':Ck}
theorem amC{i:Nat}(h:ks[i]?=some k):ks.set i k=ks:=by
 apply List.ext_getElem?;intro j;rw [mR]
 split
 ·rename_i e;subst e;have hl:=(gx.1 h).1;rw [aB hl,h]
 rfl
theorem amB{i:Nat}(h:ks[i]?=some k):(ks.set i k')[i]?=some k':=by
 have hl:=(gx.1 h).1;rw [mR,aB rfl,aB hl]
def L1(w0:aa)(As:aj)(k:Ck):Prop:=∃(Ac:aj) (nc cc:Nat) (a h:Int) (bs:ai),k=Bx 73 3 As [.slice Ac nc cc,ak a,.int .u64 h]/\(0<=a/\a<=nc)/\nc<=1000000/\vK w0 Ac nc bs
theorem ack{w0 w:aa}(i:Nat){As:aj}(n:Int)(hS:St w0 w ks)(hk:ks[i]?=some k)(hK:L1 w0 As k):
 aJ prog 16 [.pointer As,ak n] w (fun v w'=>∃(r:Int) (k':Ck),v=ak r/\(0<=r/\(1<=n->r<n)/\(n<1->r=0))/\L1 w0 As k'/\St w0 w' (ks.set i k')):=by
 have hK0:=hK;obtain⟨Ac,nc,cc,a,h,bs,rfl,ha,mG,hY⟩:=hK;refine bC func16 O ntmps16 O (df O) (bL O ?_);refine aM _ O (fun h1=>?_) (fun h1=>?_)
 ·refine dM O (iH O ?_);exact⟨0,_,O,⟨Int.le_refl _,fun h=>by omega,fun _=>O⟩,hK0,by rw [amC hk];exact hS⟩
 refine aA O (lN (hS.rd i hk) (Nat.succ_pos 2) O O (aV (hS.rd i hk) O (gP (k:= .u64) (hS.rd i hk) O O O O O ?_)));refine Lj O O O fun r1 kZ=>?_
 refine HN O O O fun r2 qV=>?_
 refine lN (hS.rd i hk) (Nat.succ_pos 2) O O (aV (hS.rd i hk) O (ki i hS hk O O O O ?_));intro w1 aH;have fO:=amB (k':=(⟨As,3,3,73,[.slice Ac nc cc,ak a,.int .u64 r2]⟩:Ck)) hk;have aH:St w0 w1 (ks.set i (Bx 73 3 As [.slice Ac nc cc,ak a,.int .u64 r2])):=aH;refine ar O (lN (aH.rd i fO) (Nat.succ_pos 2) O O (aV (aH.rd i fO) O (gP (k:= .u64) (aH.rd i fO) O O O O O ?_)));refine aab O O O fun r3=>?_
 refine ZH O O O fun r4 wk=>?_
 refine qc O O (IntWalk.i64_in _ am) (aC O ?_);refine dU [xP (As),xP (As),xP (ay (As) 1),xI (a),xP (As),xP (As),xP (ay (As) 0),xS (Ac) (nc) (cc),xI (((nc:Nat):Int)),xB (decide ((a)< (((nc:Nat):Int))))] O (eG O) ?_ ?_
 ·exact⟨Dr O,fun _ _ hb _ _=>lN ((aH.rd i fO).below hb) (Nat.succ_pos _) O O Az,fun _ _ hb _ _=>aV ((aH.rd i fO).below hb) O Az,fun _ _ hb _ _=>gP ((aH.rd i fO).below hb) O O O O O Az,Dr O,fun _ _ hb _ _=>lN ((aH.rd i fO).below hb) (Nat.succ_pos _) O O Az,fun _ _ hb _ _=>aV ((aH.rd i fO).below hb) O Az,fun _ _ hb _ _=>bj ((aH.rd i fO).below hb) O Az,fun _ _ _ _ _=>a8 O O Az,Dr O,au⟩
 intro u w2 eB _;have aF:=aH.aq eB;have Gf:vK w2 Ac nc bs:=hY.below aF.below;refine eS O (aM _ O (fun h2=>?_) (fun h2=>?_))
 ·have adO:=hY.at_ ha.1 h2;refine dA O (dU [xI (r4),xP (As),xP (As),xP (ay (As) 0),xS (Ac) (nc) (cc),xP (As),xP (As),xP (ay (As) 1),xI (a),xP (ay Ac a.toNat),.ex (.int .u8 (bs.getD a.toNat 0)),xI (bs.getD a.toNat 0),xI ((r4)+ (bs.getD a.toNat 0)),xI ((r4)+ (bs.getD a.toNat 0))] O (eG O) ?_ ?_)
  ·refine⟨fun _ _ _ _ aU=>qG O (by exact aU 13 _ O (by kernel_rfl)) O Az,Dr O,fun _ _ hb _ _=>lN ((aF.rd i fO).below hb) (Nat.succ_pos _) O O Az,fun _ _ hb _ _=>aV ((aF.rd i fO).below hb) O Az,fun _ _ hb _ _=>bj ((aF.rd i fO).below hb) O Az,Dr O,fun _ _ hb _ _=>lN ((aF.rd i fO).below hb) (Nat.succ_pos _) O O Az,fun _ _ hb _ _=>aV ((aF.rd i fO).below hb) O Az,fun _ _ hb _ _=>gP ((aF.rd i fO).below hb) O O O O O Az,?_,?_,?_,fun _ _ _ _ _=>aI O Az,Dr O,au⟩
   ·intro e1 w1 hb hp aU;refine aD (Gf.below hb).2.2 O Az
   ·intro e1 w1 hb hp aU;refine Rf (Gf.below hb) O am O O Az
   intro e1 w1 hb hp aU;refine qc O O (IntWalk.i64_in _ am) Az
  intro u3 w3 gI _;have aQ:=aF.aq gI;refine jD O (lN (aQ.rd i fO) (Nat.succ_pos 2) O O (aV (aQ.rd i fO) O (gP (aQ.rd i fO) O O O O O (aI O (lN (aQ.rd i fO) (Nat.succ_pos 2) O O (aV (aQ.rd i fO) O (ki i aQ fO O O O O ?_)))))));intro w4 aX;rw [List.set_set]at aX;refine ar O (sO O O O am (bH O (iH O ?_)));exact⟨(r4+bs.getD a.toNat 0)%n,_,O,⟨Int.emod_nonneg _ am,fun h=>Int.emod_lt_of_pos _ am,fun h=>by omega⟩,⟨Ac,nc,cc,a+1,r2,bs,O,am,mG,hY⟩,aX⟩
 refine aA O (sO O O O am (bH O (iH O ?_)));exact⟨r4%n,_,O,⟨Int.emod_nonneg _ am,fun h=>Int.emod_lt_of_pos _ am,fun h=>by omega⟩,⟨Ac,nc,cc,a,r2,bs,O,ha,mG,hY⟩,aF⟩
theorem amb(Ac:aj)(nc cc:Nat)(bs:ai)(amz:Int)(w:aa)(hY:vK w Ac nc bs)(mG:nc<=1000000):
 aJ prog 15 [.slice Ac nc cc,.int .u64 amz] w (fun v w'=>∃(As:aj) (k:Ck),v= .pointer As/\L1 w As k/\St w w' [k]):=by
 refine bC func15 O ntmps15 O (df O) (bh O ?_);refine Lj O O O fun r0 _=>?_
 refine ar O (a8 O O ?_);refine qc O O (xT _ am) (HN O O O fun r1 _=>?_)
 refine ZK (by exact inferInstance) (by exact inferInstance) (by exact inferInstance) O O O O O O O O (ZO (St.refl w) O O ?_);intro As w2 hS;refine aC O (Cd.loop (α:=Nat×Int) (fun s=> [(0,.slice Ac nc cc),(5,.pointer As),(6,ak (s.1:Int))]) (fun s w'=>St w w' [Bx 73 3 As [.slice Ac nc cc,ak 0,.int .u64 s.2]]/\s.1<=nc) (fun s=>nc - s.1) (0,_) (aqv O) ⟨hS,bg _⟩ ?_);rintro⟨i,h⟩ e w3 ⟨aH,hi⟩;dsimp only at aH hi|-;refine bh O (a8 O O (aC O ?_));refine aM _ O (fun h1=>?_) (fun h1=>?_)
 ·skip
  have adO:=hY.at_ (j:=(i:Int)) am am;have yq:=hY.below aH.below;refine dA O ?_;refine kK [15] [yP (As),yP (As),yP (As),yP (ay (As) 2),.ex (.int .u64 h),.pr (fun v _=>∃r:Int,v= .int .u64 r),yS (Ac) (nc) (cc),yI ((i:Int)),yP (ay Ac (i:Int).toNat),.ex (.int .u8 (bs.getD (i:Int).toNat 0)),.ex (.int .u64 (bs.getD (i:Int).toNat 0)),.pr (fun v _=>∃r:Int,v= .int .u64 r),.pr (fun v _=>∃r:Int,v= .int .u64 r),yP (As),yP (ay (As) 2),.pr (fun _ w'=>∃r:Int,St w w' [Bx 73 3 As [.slice Ac nc cc,ak 0,.int .u64 r]])] (ly (ly (ly (ly (ly (cH.2 ⟨Ye.cJ (fun _ _ _ h _=>h),(ly (ly (ly (ly (ly (cH.2 ⟨Ye.cJ (fun _ _ _ h _=>h),(cH.2 ⟨Ye.cJ (fun _ _ _ h _=>h),(ly (ly (cH.2 ⟨Ye.cJ (fun v w w' h hb=>by obtain⟨r,h⟩:=h;exact⟨r,h.aq hb⟩),(fun _ h=>by cases h)⟩)))⟩)⟩))))))⟩)))))) ?_ ?_
  ·refine⟨bZ O,bZ O,cP fun _ _ hb _ _ _=>lN ((aH.rd 0 O).below hb) (Nat.succ_pos _) O O (bG O O),cP fun _ _ hb _ _ _=>aV ((aH.rd 0 O).below hb) O (bG O O),?_,?_,bZ O,bZ O,?_,?_,?_,?_,?_,cP fun _ _ hb _ _ _=>lN ((aH.rd 0 O).below hb) (Nat.succ_pos _) O O (bG O O),cP fun _ _ hb _ _ _=>aV ((aH.rd 0 O).below hb) O (bG O O),?_,au⟩
   ·refine cP fun e1 w1 hb hp aU hq=>?_
    refine gP (k:= .u64) ((aH.rd 0 O).below hb) O O O O O (ao.n (iz O (by exact O)))
   ·intro e1 w1 cc fo dv fL hp aU hq;show ao _ _ _ _ _ _ _;refine Lj O O O fun r _=>?_
    exact ao.n (fM.dn O (Below.refl _ _) ⟨r,O⟩)
   ·refine cP fun e1 w1 hb hp aU hq=>?_
    refine aD (yq.below hb).2.2 O (ao.n (iz O (by exact O)))
   ·refine cP fun e1 w1 hb hp aU hq=>?_
    refine Rf (yq.below hb) O am O O (ao.n (iz O (by exact O)))
   ·intro e1 w1 cc fo dv fL hp aU hq;show ao _ _ _ _ _ _ _;refine qc O O (xT _ am) (ao.n (iz O (by exact O)))
   ·refine cP fun e1 w1 hb hp aU hq=>?_
    obtain⟨r,hr⟩:=(hp 5 _ _ (by kernel_rfl) rfl rfl (by kernel_rfl));refine HN (by exact hr) O O fun r _=>?_
    exact ao.n (fM.dn O (Below.refl _ _) ⟨r,O⟩)
   ·refine cP fun e1 w1 hb hp aU hq=>?_
    obtain⟨r,hr⟩:=(hp 11 _ _ (by kernel_rfl) rfl rfl (by kernel_rfl));refine HN (by exact hr) O O fun r _=>?_
    exact ao.n (fM.dn O (Below.refl _ _) ⟨r,O⟩)
   refine kO fun e1 w1 hb hp aU hq=>?_
   obtain⟨r,hr⟩:=(hp 12 _ _ (by kernel_rfl) rfl rfl (by kernel_rfl));refine ki 0 (aH.aq hb) O O (by exact hr) O O ?_;intro w9 hT;exact ao.n (gn.st O ⟨r,hT⟩)
  intro u w5 _ hu _ _;obtain⟨r,hT⟩:=hu 15 _ rfl (by kernel_rfl);refine jD O (aI O (aT O (tQ ?_)));exact⟨(i+1,r),by show nc - (i+1)<nc - i;omega,(aqv O),hT,by show i+1<=nc;omega⟩
 refine bp O (bt (gw O ?_));refine PT O ?_;exact⟨As,_,O,⟨Ac,nc,cc,0,h,bs,O,⟨Int.le_refl _,am⟩,mG,hY⟩,aH⟩
end
end Go.Proofs.YtkccgdhcpplblaaGreatDoor.Vc
