/-
 Lemmas. Conditions: as each states them.
-/
import Derived.Test.YtopgfgdgfjddpaaGreatDoorZh
import Derived.Test.YtopgfgdgfjddpaaGreatDoorLaye
import Derived.Shelf.SlicesE.Reverse
set_option maxHeartbeats 8000000
namespace Go.Proofs.YtopgfgdgfjddpaaGreatDoor.Vc
open Tryz
section
open Go.RowKit
section
variable{z0 z1 z2 z3 y0 y1 v0 u0 u1 u2 v1 v2 v3:ad}{b b0 b1:Nat}
variable {P:Program} {N:Nat} {ops:Array Oper} {K:Env->aa->Prop} {rest:List Oper} {e:Env} {w0 w w':aa} {ks:List Ck} {d:Nat} {ty:ae} {pos:String} {af:Array Edge}
theorem PH{t:ae}{f0 f1:Field}[bV P t (.struct #[f0,f1])][bR P t (.agg #[z0,z1,z2,z3]) 4 b]{x0 x1:ag}(tB:bR P f0.type y0 1 b0)(tC:bR P f1.type y1 3 b1)(ho:f0.offset=0)(uW:f1.offset=1)(h0:ev e x0=v0)(h1:ev e x1= .agg #[u0,u1,u2])(c0:v0.oneCell'=true)(hb:Nat.blt d N=true)(hK:ao P N ops K rest (bG e d (.agg #[v0,u0,u1,u2])) w):ao P N ops K (⟨some d,.build t #[(0,x0),(1,x1)],ty,pos,af,none⟩::rest) e w:=by
 obtain⟨inf,hi,fS,hs,jv⟩:=bR.get P t;obtain⟨DY,fG,_,qy,_⟩:=tB.get P f0.type;obtain⟨DZ,kU,_,tP,_⟩:=tC.get P f1.type;have e0:v0.cells= #[v0]:=by cases v0<;>simp [Value.oneCell']at c0<;>rfl
 have e1:(Value.agg #[u0,u1,u2]).cells= #[u0,u1,u2]:=O;have ez:(Value.agg #[z0,z1,z2,z3]).cells= #[z0,z1,z2,z3]:=O;refine .val (w':=w) ?_ hb hK;simp [execOp,Instr.build,run_underlying (bV.out (P:=P) (t:=t)),sizeOf,typeInfo,zeroValue,hi,fS,fG,qy,kU,tP,ho,uW,h0,h1,e0,e1,ez,Instr.fill]
theorem Ki{t:ae}{f0 f1:Field}[bV P t (.struct #[f0,f1])][bR P t (.agg #[z0,z1,z2,z3]) 4 b](tB:bR P f0.type y0 1 b0)(tC:bR P f1.type y1 3 b1)(hb:Nat.blt d N=true)(hK:ao P N ops K rest (bG e d (.agg #[z0,z1,z2,z3])) w):ao P N ops K (⟨some d,.build t #[],ty,pos,af,none⟩::rest) e w:=by
 obtain⟨inf,hi,fS,hs,jv⟩:=bR.get P t;obtain⟨DY,fG,_,qy,_⟩:=tB.get P f0.type;obtain⟨DZ,kU,_,tP,_⟩:=tC.get P f1.type;have ez:(Value.agg #[z0,z1,z2,z3]).cells= #[z0,z1,z2,z3]:=O;refine .val (w':=w) ?_ hb hK;simp [execOp,Instr.build,run_underlying (bV.out (P:=P) (t:=t)),sizeOf,typeInfo,zeroValue,hi,fS,fG,qy,kU,tP,ez,Instr.fill]
theorem Bf{el:ae}{s:Nat}[bR P el (.agg #[v0,v1,v2,v3]) s b](hS:St w0 w ks)(hb:Nat.blt d N=true)(hK:∀A w',St w0 w' (Bx el 4 A [v0,v1,v2,v3]::ks)->ao P N ops K rest (bG e d (.pointer A)) w')(hM:fw [v0,v1,v2,v3]=false:=by rfl):ao P N ops K (⟨some d,.alloc el,ty,pos,af,none⟩::rest) e w:= .new (el:=el) (z:= .agg #[v0,v1,v2,v3]) (s:=s) (b:=b) hS hb rfl hK hM
theorem PI{el:ae}{x:ag}(hS:St w0 w ks)(hx:ev e x= .agg #[v0,v1,v2,v3])(hb:Nat.blt d N=true)(hK:∀A w',St w0 w' (Bx el 4 A [v0,v1,v2,v3]::ks)->ao P N ops K rest (bG e d (.pointer A)) w')(hM:fw [v0,v1,v2,v3]=false:=by rfl):ao P N ops K (⟨some d,.box el x,ty,pos,af,none⟩::rest) e w:=
 .Hz hS hx hb rfl hK hM
end
open Classical in
noncomputable def ir(M:ah):Int:=if bg M then(if nU M=0 then(if oP M then 0 else 5)else 3)else 1
theorem RO{M:ah}(h:¬bg M):ir M=1:=by unfold ir;rw [if_neg h]
theorem Lp{M:ah}(h:bg M)(h2:nU M≠0):ir M=3:=by unfold ir;rw [if_pos h,if_neg h2]
theorem Lo{M:ah}(h:bg M)(h2:nU M=0)(h3:¬oP M):ir M=5:=by unfold ir;rw [if_pos h,if_pos h2,if_neg h3]
theorem Ff{M:ah}(h:bg M)(h3:oP M):ir M=0:=by unfold ir;rw [if_pos h,if_pos (h3.code h),if_pos h3]
theorem kf{M:ah}(h:ir M=0):bg M/\oP M:=by
 unfold ir at h
 split at h
 ·rename_i h1
  split at h
  ·split at h
   ·rename_i h3;exact⟨h1,h3⟩
   cases h
  cases h
 cases h
theorem Wi{M:ah}(h:nU M≠0):nU M=3:=by
 unfold nU at h|-
 split
 ·rfl
 rename_i h2;rw [aw h2]at h;exact absurd rfl h
def Pj(M:ah)(w:aa)(v:ad)(w':aa):Prop:=(ir M≠0/\v= .tuple #[.agg #[.slice none 0 0,ak 0,.slice none 0 0,.slice none 0 0],ak (ir M)]/\St w w' [])\/(ir M=0/\∃A8 c8 AR c AD d rs,v= .tuple #[.agg #[.slice A8 (aH M M.length+2) c8,ak (M.length:Int),.slice AR (aH M M.length) c,.slice AD (aH M M.length) d],ak 0]/\rs.length=aH M M.length/\St w w' (az 2 A8 (aH M M.length+2) c8 (eS M.length (bn M M.length))::az 2 AR (aH M M.length) c (bn M M.length)::(aO 32 2 AD (aH M M.length) d rs (bE M)++ [])))
theorem E2(A:aj)(n c:Nat)(rs:List aQ)(M:ah)(w:aa)(hT:na w)(hR:bz w A n rs M)(hn:n<=c)(hc:c<=9223372036854775807):
 aN prog 114 [.agg #[.slice A n c]] w (Pj M w):=by
 refine bI func114 O ntmps114 O (sg O O) (bc O (ik (St.refl w) O O ?_));intro A1 w1 aE;refine Bf aE O ?_;intro A2 w2 aD;have aD:St w w2 [Bx 100 4 A2 [.slice none 0 0,ak 0,.slice none 0 0,.slice none 0 0],Bx 24 1 A1 [.slice A n c]]:=aD;refine ar O (alC 0 (aD.rd 1 O) O (aL (Ch A n c rs M _ (aD.bS hR) hn hc) O ?_));rintro _ w3 ⟨rfl,ax⟩;have aM:=aD.aq ax.below;clear ax aD aE
 first | refine eZ rfl rfl ?_ | refine fY rfl rfl ?_
 refine aI O (aR _ O (fun h1=>?_) (fun h1=>?_))
 ·refine aG O (Ki (by exact inferInstance) (by exact inferInstance) O (bW 4 0 aM O O O O O O O ?_));intro w4 aU;refine bM O (jI O (aU.rd 0 O) O ?_);exact .inl ⟨by rw [RO h1];decide,by rw [RO h1];rfl,aU.none⟩
 have hM:bg M:=jl.1 h1;have o8:=je M M.length;have o4:=uG M;refine aG O (alC 0 (aM.rd 1 O) O (aL (aeC A n c rs M _ (hT.aq aM.below) (aM.bS hR) hM) O ?_));rintro _ w4 ⟨b,rfl,hb,ax⟩;have aU:=aM.aq ax.below;clear ax aM;refine aI O (aR _ O (fun h2=>?_) (fun h2=>?_))
 ·refine aG O (Ki (by exact inferInstance) (by exact inferInstance) O (ar O (bW 4 0 aU O O O O O O O ?_)));intro w5 aV;refine bM O (jI O (aV.rd 0 O) O ?_);exact .inl ⟨by rw [Lp hM h2];decide,by rw [Lp hM h2,Wi h2];rfl,aV.none⟩
 have h2:nU M=0:=jl.1 h2;rw [EW b];refine aG O ?_
 first | refine eZ rfl rfl ?_ | refine fY rfl rfl ?_
 refine aI O (aR _ O (fun h3=>?_) (fun h3=>?_))
 ·have TQ:¬oP M:=fun h=>h3 (hb.2 h)
  refine aG O (Ki (by exact inferInstance) (by exact inferInstance) O (bW 4 0 aU O O O O O O O ?_));intro w5 aV;refine bM O (jI O (aV.rd 0 O) O ?_);exact .inl ⟨by rw [Lo hM h2 TQ];decide,by rw [Lo hM h2 TQ];rfl,aV.none⟩
 have hg:oP M:=hb.1 (jl.1 h3);have sI:=hg.1;have h5:=hM.1;refine aG O (alC 0 (aU.rd 1 O) O (aL (Ri A n c rs M _ (aU.bS hR) hM) O ?_));rintro _ w5 (⟨h9,_⟩ | ⟨_,AR,cR,AD,cD,bp,rfl,iK,ax⟩)
 ·omega
 have aV:=aU.call ax;clear ax aU;refine ar O (kO aV O ?_);intro A6 w6 aZ;refine bW 3 0 aZ O O O O O O O ?_;intro w7 a6;obtain⟨N,hN⟩:∃N,aH M M.length=N:=⟨_,rfl⟩;unfold Pj;rw [hN]at o8 o4 iK a6 sI|-;have a6:St w w7 (bH A6 (M.length:Int) AR N cR AD N cD::(az 2 AR N cR (bn M M.length)::((aO 32 2 AD N cD bp (bE M)++ [])++ [Bx 100 4 A2 [.slice none 0 0,ak 0,.slice none 0 0,.slice none 0 0],Bx 24 1 A1 [.slice A n c]]))):=a6;refine ar O (dV (i:= -1) a6 O O O ?_);intro A9 w8 bL;refine aW (bL.rd 1 O) O (a8 (bL.rd 1 O) O (fp 0 bL O (bL.bF 2 O) O O O ?_));intro A8 c8 w9 a7;have a7:St w w9 (az 2 A8 (1+N) c8 ([-1]++bn M M.length)::bH A6 (M.length:Int) AR N cR AD N cD::(az 2 AR N cR (bn M M.length)::((aO 32 2 AD N cD bp (bE M)++ [])++ [Bx 100 4 A2 [.slice none 0 0,ak 0,.slice none 0 0,.slice none 0 0],Bx 24 1 A1 [.slice A n c]]))):=a7;obtain⟨KK,sH⟩:∃KK:List Ck,KK=az 2 AR N cR (bn M M.length)::(aO 32 2 AD N cD bp (bE M)++ []):=⟨_,rfl⟩;have a7:St w w9 (az 2 A8 (1+N) c8 ([-1]++bn M M.length)::bH A6 (M.length:Int) AR N cR AD N cD::Bx 100 4 A2 [.slice none 0 0,ak 0,.slice none 0 0,.slice none 0 0]::KK):=by
  have gZ:=a7.perm (show List.Perm _ (Bx 24 1 A1 [.slice A n c]::(az 2 A8 (1+N) c8 ([-1]++bn M M.length)::bH A6 (M.length:Int) AR N cR AD N cD::Bx 100 4 A2 [.slice none 0 0,ak 0,.slice none 0 0,.slice none 0 0]::KK)) from by
   rw [sH]
   classical
   refine nC.2 fun z=>?_
   simp only [qk,mV,ql];omega)
  exact gZ.tail
 clear bL a6 aZ aV;refine aI O ?_;refine jA [4,7] [yS (A8) (1+N) (c8),yP (aB (A6) 0),yI ((M.length:Int)),.pr (fun v w'=>∃A9,v= .slice A9 1 1/\St w w' (az 2 A9 1 1 [(M.length:Int)]::az 2 A8 (1+N) c8 ([-1]++bn M M.length)::bH A6 (M.length:Int) AR N cR AD N cD::Bx 100 4 A2 [.slice none 0 0,ak 0,.slice none 0 0,.slice none 0 0]::KK)),.pr (fun v w'=>∃AZ cZ,v= .slice AZ (1+N+1) cZ/\St w w' (az 2 AZ (1+N+1) cZ (([-1]++bn M M.length)++ [(M.length:Int)])::bH A6 (M.length:Int) AR N cR AD N cD::Bx 100 4 A2 [.slice none 0 0,ak 0,.slice none 0 0,.slice none 0 0]::KK)),.ex (.agg #[ak (M.length:Int),.slice AR N cR,.slice AD N cD]),.pr (fun v w'=>∃AZ cZ,v= .agg #[.slice AZ (1+N+1) cZ,ak (M.length:Int),.slice AR N cR,.slice AD N cD]/\St w w' (az 2 AZ (1+N+1) cZ (([-1]++bn M M.length)++ [(M.length:Int)])::bH A6 (M.length:Int) AR N cR AD N cD::Bx 100 4 A2 [.slice none 0 0,ak 0,.slice none 0 0,.slice none 0 0]::KK)),.pr (fun _ w'=>∃AZ cZ,St w w' (az 2 AZ (1+N+1) cZ (([-1]++bn M M.length)++ [(M.length:Int)])::bH A6 (M.length:Int) AR N cR AD N cD::Bx 100 4 A2 [.slice AZ (1+N+1) cZ,ak (M.length:Int),.slice AR N cR,.slice AD N cD]::KK)),yI ((0:Int))] (ly (ly (ly (cj.2 ⟨Ye.cN (fun v w w' h hb=>by obtain⟨A9,hv,hT⟩:=h;exact⟨A9,hv,hT.aq hb⟩),(cj.2 ⟨Ye.cN (fun v w w' h hb=>by obtain⟨AZ,cZ,hv,hT⟩:=h;exact⟨AZ,cZ,hv,hT.aq hb⟩),(ly (cj.2 ⟨Ye.cN (fun v w w' h hb=>by obtain⟨AZ,cZ,hv,hT⟩:=h;exact⟨AZ,cZ,hv,hT.aq hb⟩),(cj.2 ⟨Ye.cN (fun v w w' h hb=>by obtain⟨AZ,cZ,hT⟩:=h;exact⟨AZ,cZ,hT.aq hb⟩),(ly (fun _ h=>by cases h))⟩)⟩))⟩)⟩)))) ?_ ?_
 ·refine⟨bQ O,cP fun _ _ hb _ _ _=>aW ((a7.rd 1 O).below hb) O (bq O O),cP fun _ _ hb _ _ _=>iW ((a7.rd 1 O).below hb) O O O O O (bq O O),?_,?_,?_,?_,?_,bQ O,av⟩
  ·refine cP fun e1 w1 hb hp aY hq=>?_
   exact dV (St.refl _) O O O fun A9 w9 ax=>ao.n (eO.dn O ax.below ⟨A9,O,(a7.aq hb).call ax⟩)
  ·refine jC fun e1 w1 hb hp aY hq=>?_
   obtain⟨A9,h39,hT⟩:=(hp 3 _ _ (by kernel_rfl) rfl rfl (by kernel_rfl));refine fp 1 hT O (hT.bF 0 O) O (by exact h39) O ?_;intro AZ cZ wZ hZ;exact ao.n (fH.dn O ⟨AZ,cZ,O,hZ.tail⟩)
  ·intro e1 w1 cc dS cI dX hp aY hq;show ao _ _ _ _ _ _ _;have hX:Rd w1 A6 3 (fun q=> [Value.int .i64 (M.length:Int),.slice AR N cR,.slice AD N cD].getD q undef):=by { have cI:=pj cI (b:=1) (by kernel_rfl);rcases(show cc=0\/cc=1 by omega)with h | h; { exact(a7.aq (dX h)).rd 1 rfl }; { subst h;obtain⟨AZ,cZ,_,hT⟩:=hq 4 _ _ (by kernel_rfl) (by kernel_rfl) (by kernel_rfl) rfl rfl (by kernel_rfl);exact hT.rd 1 rfl } }
   refine alC 2 hX O (ao.n (fL O (by exact O)))
  ·refine dP 1 fun e1 w1 hp aY hq=>?_
   have fe:=hp 4 _ _ (by kernel_rfl) O O (by kernel_rfl);obtain⟨AZ,cZ,Sg,hT⟩:=(hp 4 _ _ (by kernel_rfl) rfl rfl (by kernel_rfl));refine PH (v0:= .slice AZ (1+N+1) cZ) (by exact inferInstance) (by exact inferInstance) O O (by exact Sg) O O O (ao.n ?_);exact eO.dn O (Below.refl _ _) ⟨AZ,cZ,O,hT⟩
  refine rJ 1 fun e1 w1 hp aY hq=>?_
  have fe:=hp 4 _ _ (by kernel_rfl) O O (by kernel_rfl);obtain⟨AY,cY,h42,hT⟩:=(hp 6 _ _ (by kernel_rfl) rfl rfl (by kernel_rfl));refine bW 4 2 hT O O (by exact h42) O O O O ?_;intro eI vz;exact ao.n (fH.st O ⟨AY,cY,vz⟩)
 intro u dQ _ hu _ _;obtain⟨AZ,cZ,hT⟩:=hu 7 _ rfl (by kernel_rfl);refine zd O (jI O (hT.rd 2 O) O ?_);refine .inr ⟨Ff hM hg,AZ,cZ,AR,cR,AD,cD,bp,?_,iK,?_⟩
 ·rw [show N+2=1+N+1 by omega];rfl
 rw [show N+2=1+N+1 by omega,<-sH];exact hT.sub (((fE _).cons _).cons _ |>.cons_cons _)
end
section
section
variable{i b p:Nat}
variable {n:Nat} {R:ai} {B:ah}
theorem fF.len(h:fF n R B):(bZ n (aC n R B)).length=n:=pk n _
theorem fF.uF(h:fF n R B)(hi:i<n){a:Nat}(ha:a< (aC n R B).length)(hb:b< (aC n R B).length):bC (bZ n (aC n R B)) i a=bC (bZ n (aC n R B)) i b↔gi (gl (aC n R B) a) i=gi (gl (aC n R B) b) i:=by
 rw [<-h.Vf hi ha hb];unfold bC;omega
theorem fF.fin(h:fF n R B)(hi:i<n){a:Nat}(ha:a< (aC n R B).length):(0<=bC (bZ n (aC n R B)) i a/\bC (bZ n (aC n R B)) i a< ((bn (bZ n (aC n R B)) n).length:Int))/\gi (bn (bZ n (aC n R B)) n) (bC (bZ n (aC n R B)) i a)=i:=by
 have h1:=qq h.vW (i:=i) (f:=a) (by rw [h.nl];exact ha);have h2:=oI (bZ n (aC n R B)) (show i+1<=n by omega);rw [je];exact⟨⟨by omega,by omega⟩,E9 hi h1.1 h1.2⟩
theorem fF.Fc(h:fF n R B){e:Int}(h0:0<=e)(h1:e< ((bn (bZ n (aC n R B)) n).length:Int)):∃i:Nat,i<n/\∃a:Nat,a< (aC n R B).length/\e=bC (bZ n (aC n R B)) i a:=by
 rw [je]at h1;obtain⟨i,hi,h2,h3⟩:=Lm h0 h1;have h3:e< ((aH (bZ n (aC n R B)) i+ (fA (bZ n (aC n R B)) i).toNat:Nat):Int):=h3;obtain⟨a,ha,e1⟩:=Bl h.vW i (e - (aH (bZ n (aC n R B)) i:Int)) (by omega) (by omega);rw [h.nl]at ha;refine⟨i,hi,a,ha,?_⟩;unfold bC;rw [e1];omega
theorem fF.spl(h:fF n R B)(hi:i+1<n){a:Nat}(ha:a< (aC n R B).length)(hb:b< (aC n R B).length)(hm:gi (gl (aC n R B) a) i∈gl B (gi (gl (aC n R B) b) ((i+1:Nat):Int))):
 ∃c:Nat,c< (aC n R B).length/\∀k:Nat,k<n->gi (gl (aC n R B) c) k=if k<=i then gi (gl (aC n R B) a) k else gi (gl (aC n R B) b) k:=by
 have fa:=o3 h.n1 ha;have fb:=o3 h.n1 hb;obtain⟨x,hx⟩:∃x:ai,x=(List.range n).map fun k=>if k<=i then gi (gl (aC n R B) a) k else gi (gl (aC n R B) b) k:=⟨_,rfl⟩
 have gw:∀k:Nat,k<n->gi x k=if k<=i then gi (gl (aC n R B) a) k else gi (gl (aC n R B) b) k:=fun k hk=>by
  rw [hx,cd (by simpa using hk),List.getElem_map,List.getElem_range]
 have Gs:x∈aC n R B:=by
  refine(nh h.n1).2 ⟨by rw [hx];simp,fun k hk=>?_,fun k hk=>?_⟩
  ·rw [gw k hk]
   split
   ·exact fa.2.1 k hk
   exact fb.2.1 k hk
  rw [gw k (by omega),gw (k+1) hk]
  by_cases c1:k+1<=i
  ·rw [ay (show k<=i by omega),ay c1];exact fa.2.2 k hk
  rw [aw c1]
  by_cases c2:k<=i
  ·rw [ay c2];obtain rfl:k=i:=by omega
   exact hm
  rw [aw c2];exact fb.2.2 k hk
 obtain⟨c,hc,e⟩:=fV.1 Gs;refine⟨c,hc,fun k hk=>?_⟩;rw [cK hc,e];exact gw k hk
theorem fF.inc(h:fF n R B)(hi:i+1<n){a:Nat}(ha:a< (aC n R B).length)(hb:b< (aC n R B).length):bC (bZ n (aC n R B)) i a∈gl (bE (bZ n (aC n R B))) (bC (bZ n (aC n R B)) (i+1) b)↔gi (gl (aC n R B) a) i∈gl B (gi (gl (aC n R B) b) ((i+1:Nat):Int)):=by
 have g1:=h.fin (show i<n by omega) ha;have g2:=h.fin hi hb;have hl:=h.len;rw [je]at g1 g2;rw [ot g2.1.1 (by rw [hl];exact g2.1.2),hl];constructor
 ·rintro⟨_,f,hf,j,hj,k,hk,e1,e2⟩;rw [h.nl]at hf;rw [hl]at hj;have r1:=(h.fin hj hf).2;have r2:=(h.fin (show k<n by omega) hf).2;rw [<-e1,g2.2]at r1;rw [<-e2,g1.2]at r2;obtain rfl:j=i+1:=by omega
  obtain rfl:k=i:=by omega
  have q1:=(h.uF hi hb hf).1 e1;have q2:=(h.uF (show k<n by omega) ha hf).1 e2;rw [q1,q2];exact(o3 h.n1 hf).2.2 k hi
 intro hm;obtain⟨c,hc,hk⟩:=h.spl hi ha hb hm;have q1:=hk i (by omega);have q2:=hk (i+1) hi;rw [ay (bB _)]at q1;rw [aw (by omega)]at q2;exact⟨g1.1,c,by rw [h.nl];exact hc,i+1,by rw [hl];exact hi,i,by omega,(h.uF hi hb hc).2 q2.symm,(h.uF (show i<n by omega) ha hc).2 q1.symm⟩
theorem fF.aet(h:fF n R B)(hi:i+2<n){a:Nat}(ha:a< (aC n R B).length)(hb:b< (aC n R B).length)(hm:bC (bZ n (aC n R B)) i a∈gl (bE (bZ n (aC n R B))) (bC (bZ n (aC n R B)) (i+2) b)):gi (gl (aC n R B) a) i∈gl B (gi (gl (aC n R B) b) ((i+2:Nat):Int)):=by
 have g1:=h.fin (show i<n by omega) ha;have g2:=h.fin hi hb;have hl:=h.len;rw [je]at g1 g2;rw [ot g2.1.1 (by rw [hl];exact g2.1.2),hl]at hm;obtain⟨_,f,hf,j,hj,k,hk,e1,e2⟩:=hm;rw [h.nl]at hf;rw [hl]at hj;have r1:=(h.fin hj hf).2;have r2:=(h.fin (show k<n by omega) hf).2;rw [<-e1,g2.2]at r1;rw [<-e2,g1.2]at r2;obtain rfl:j=i+2:=by omega
 obtain rfl:k=i:=by omega
 have q1:=(h.uF hi hb hf).1 e1;have q2:=(h.uF (show k<n by omega) ha hf).1 e2;rw [q1,q2];have f1:=(o3 h.n1 hf).2.2 k (by omega);have f2:=(o3 h.n1 hf).2.2 (k+1) hi;have f3:=((o3 h.n1 hf).2.1 (k+2) hi).1;exact(h.pos.at_ (e:=gi (gl (aC n R B) f) ((k+2:Nat):Int)) f3.1 f3.2).2.2 _ f2 _ f1
def iY(n:Nat)(M:ah)(a:Nat):ai:=(List.range n).map fun i=>bC M i a
theorem lN{M:ah}{a:Nat}(hi:i<n):gi (iY n M a) i=bC M i a:=by
 unfold iY;rw [cd (by simpa using hi),List.getElem_map,List.getElem_range]
theorem fF.H0(h:fF n R B){y:ai}:y∈aC n (bn (bZ n (aC n R B)) n) (bE (bZ n (aC n R B)))↔∃a:Nat,a< (aC n R B).length/\y=iY n (bZ n (aC n R B)) a:=by
 rw [nh h.n1];constructor
 ·rintro⟨hl,hr,hc⟩;have hex:∀i:Nat,∃a:Nat,i<n->a< (aC n R B).length/\gi y i=bC (bZ n (aC n R B)) i a:=fun i=>by
   by_cases hi:i<n
   ·have h1:=hr i hi;obtain⟨j,hj,a,ha,e⟩:=h.Fc h1.1.1 h1.1.2;have r:=(h.fin hj ha).2;rw [<-e,h1.2]at r;obtain rfl:i=j:=by omega
    exact⟨a,fun _=> ⟨ha,e⟩⟩
   exact⟨0,fun h=>absurd h hi⟩
  obtain⟨A,hA⟩:=Classical.axiomOfChoice hex;have hA:∀i:Nat,i<n->A i< (aC n R B).length/\gi y i=bC (bZ n (aC n R B)) i (A i):=hA;obtain⟨x,hx⟩:∃x:ai,x=(List.range n).map fun i=>gi (gl (aC n R B) (A i:Int)) i:=⟨_,rfl⟩
  have gw:∀i:Nat,i<n->gi x i=gi (gl (aC n R B) (A i:Int)) i:=fun i hi=>by
   rw [hx,cd (by simpa using hi),List.getElem_map,List.getElem_range]
  have Gs:x∈aC n R B:=by
   refine(nh h.n1).2 ⟨by rw [hx];simp,fun i hi=>?_,fun i hi=>?_⟩
   ·rw [gw i hi];exact h.at_ (hA i hi).1 hi
   rw [gw i (by omega),gw (i+1) hi];have q:=hc i hi;rw [(hA i (by omega)).2,(hA (i+1) hi).2]at q;exact(h.inc hi (hA i (by omega)).1 (hA (i+1) hi).1).1 q
  obtain⟨c,ni,e⟩:=fV.1 Gs;refine⟨c,ni,u5 (n:=n) hl (by simp [iY]) fun i hi=>?_⟩;rw [lN hi,(hA i hi).2];refine(h.uF hi (hA i hi).1 ni).2 ?_;rw [cK ni,e];exact(gw i hi).symm
 rintro⟨a,ha,rfl⟩;refine⟨by simp [iY],fun i hi=>?_,fun i hi=>?_⟩
 ·rw [lN hi];exact h.fin hi ha
 rw [lN (show i<n by omega),lN hi];exact(h.inc hi ha ha).2 ((o3 h.n1 ha).2.2 i hi)
theorem fF.aaF(h:fF n R B){a:Nat}(ha:a< (aC n R B).length)(hb:b< (aC n R B).length)(e:iY n (bZ n (aC n R B)) a=iY n (bZ n (aC n R B)) b):a=b:=
 vr ha hb (u5 (n:=n) (o3 h.n1 ha).1 (o3 h.n1 hb).1 fun i hi=>by
  have:=aK (fun y=>gi y i) e;simp only [lN hi]at this;exact(h.uF hi ha hb).1 this)
theorem fF.Bo(h:fF n R B):(aC n (bn (bZ n (aC n R B)) n) (bE (bZ n (aC n R B)))).length=(aC n R B).length:=by
 have hp:((List.range (aC n R B).length).map (iY n (bZ n (aC n R B)))).Perm (aC n (bn (bZ n (aC n R B)) n) (bE (bZ n (aC n R B)))):=by
  refine(rE ?_ (xM _ _ _).nodup).2 fun y=>?_
  ·exact nB.2 ((List.nodup_range (n:=(aC n R B).length)).imp_of_mem fun {a b} ha hb bt e=>bt (h.aaF (gP.1 ha) (gP.1 hb) e))
  rw [h.H0,dv];constructor
  ·rintro⟨a,ha,rfl⟩;exact⟨a,gP.1 ha,rfl⟩
  rintro⟨a,ha,rfl⟩;exact⟨a,gP.2 ha,rfl⟩
 have:=hp.length_eq;rw [fj,qE]at this;exact this.symm
theorem fF.Rn(h:fF n R B)(hp:p< (aC n R B).length):∃a:Nat,a< (aC n R B).length/\gl (aC n (bn (bZ n (aC n R B)) n) (bE (bZ n (aC n R B)))) p=iY n (bZ n (aC n R B)) a:=by
 have hl:=h.Bo;refine h.H0.1 ?_;rw [cK (by omega)];exact dH _
theorem fF.aaB(h:fF n R B){a:Nat}(ha:a< (aC n R B).length):∃p:Nat,p< (aC n R B).length/\gl (aC n (bn (bZ n (aC n R B)) n) (bE (bZ n (aC n R B)))) p=iY n (bZ n (aC n R B)) a:=by
 have hl:=h.Bo;obtain⟨p,hp,e⟩:=fV.1 (h.H0.2 ⟨a,ha,rfl⟩);exact⟨p,by omega,by rw [cK hp];exact e⟩
theorem fF.aay(h:fF n R B):wi n (aC n (bn (bZ n (aC n R B)) n) (bE (bZ n (aC n R B)))):=by
 have hl:=h.Bo;have key:∀ {S:Nat->Prop} {a c:Nat},fo n (aC n R B) S a c->∀ {S':Nat->Prop},(∀k,k<n->(S' k->S k))->∀p:Nat,p< (aC n R B).length->gl (aC n (bn (bZ n (aC n R B)) n) (bE (bZ n (aC n R B)))) p=iY n (bZ n (aC n R B)) a->
  ∃q:Nat,q< (aC n R B).length/\gl (aC n (bn (bZ n (aC n R B)) n) (bE (bZ n (aC n R B)))) q=iY n (bZ n (aC n R B)) c/\fo n (aC n (bn (bZ n (aC n R B)) n) (bE (bZ n (aC n R B)))) S' p q:=by
  intro S a c hL S' hS p hp e
  induction hL with
  | refl ha=>exact⟨p,hp,e,.refl (by omega)⟩
  | step wP hi hs hA ih=>
   rename_i b c i;obtain⟨q,hq,e1,l1⟩:=ih;obtain⟨r,hr,e2⟩:=h.aaB hA.2.1;refine⟨r,hr,e2,.step l1 hi (fun hx=>hs (hS i hi hx)) ⟨by omega,by omega,fun k hk bt=>?_⟩⟩;rw [e1,e2,lN hk,lN hk];exact(h.uF hk hA.1 hA.2.1).2 (hA.2.2 k hk bt)
 intro p q tO hq;rw [hl]at hq;obtain⟨a,ha,ea⟩:=h.Rn (show p< (aC n R B).length by omega);obtain⟨b,hb,eb⟩:=h.Rn hq;have lF:fo n (aC n R B) (fun k=>gi (gl (aC n R B) a) k=gi (gl (aC n R B) b) k) a b:=by
  rcases Nat.lt_trichotomy a b with eG | eG | eG
  ·exact h.AB.2.2.2 a b eG hb
  ·subst eG;exact .refl ha
  ·have:=(h.AB.2.2.2 b a eG ha).symm;have e:(fun k:Nat=>gi (gl (aC n R B) b) k=gi (gl (aC n R B) a) k)=fun k:Nat=>gi (gl (aC n R B) a) k=gi (gl (aC n R B) b) k:=funext fun k=>propext ⟨Eq.symm,Eq.symm⟩
   rwa [e]at this
 obtain⟨r,hr,er,lr⟩:=key lF (S':=fun k=>gi (gl (aC n (bn (bZ n (aC n R B)) n) (bE (bZ n (aC n R B)))) p) k=gi (gl (aC n (bn (bZ n (aC n R B)) n) (bE (bZ n (aC n R B)))) q) k) (fun k hk e=>by
  rw [ea,eb,lN hk,lN hk]at e;exact(h.uF hk ha hb).1 e) p (by omega) ea
 obtain rfl:r=q:=vr (by omega) (by omega) (er.trans eb.symm);exact lr
theorem fF.aaz(h:fF n R B):th n (bn (bZ n (aC n R B)) n) (bE (bZ n (aC n R B))):=by
 intro i e f fG kU he hf FV;obtain⟨j,rfl⟩:∃j:Nat,i=j:=⟨i.toNat,by omega⟩;have hj:j<n:=by omega
 have dS:∃e0:Int,rF R j e0/\(e<0↔e0<0)/\(0<=e->1<=j/\∃a:Nat,a< (aC n R B).length/\e=bC (bZ n (aC n R B)) (j - 1) a/\e0=gi (gl (aC n R B) a) ((j - 1:Nat):Int)):=by
  rcases he with⟨q1,q2⟩ | ⟨q1,q2,q3⟩
  ·exact⟨-1,.inl ⟨O,q2⟩,by omega,fun _=>by omega⟩
  obtain⟨k,hk,a,ha,ea⟩:=h.Fc q1.1 q1.2;have r:=(h.fin hk ha).2;rw [<-ea,q3]at r;obtain rfl:k=j - 1:=by omega
  have g:=h.at_ ha hk;exact⟨_,.inr ⟨g.1,q2,by rw [g.2];omega⟩,by omega,fun _=> ⟨by omega,a,ha,ea,O⟩⟩
 have cI:∃f0:Int,oQ n R j f0/\(f<0↔f0<0)/\(0<=f->j+1<n/\∃b:Nat,b< (aC n R B).length/\f=bC (bZ n (aC n R B)) (j+1) b/\f0=gi (gl (aC n R B) b) ((j+1:Nat):Int)):=by
  rcases hf with⟨q1,q2⟩ | ⟨q1,q2,q3⟩
  ·exact⟨-1,.inl ⟨O,q2⟩,by omega,fun _=>by omega⟩
  obtain⟨k,hk,b,hb,eb⟩:=h.Fc q1.1 q1.2;have r:=(h.fin hk hb).2;rw [<-eb,q3]at r;obtain rfl:k=j+1:=by omega
  have g:=h.at_ hb hk;exact⟨_,.inr ⟨g.1,q2,by rw [g.2];omega⟩,by omega,fun _=> ⟨by omega,b,hb,eb,O⟩⟩
 obtain⟨e0,hL,Mz,Tj⟩:=dS;obtain⟨f0,hH,MC,Tm⟩:=cI;have hm:=h.AB.2.2.1 (j:Int) e0 f0 fG kU hL hH (fun k1 k2=>by
  obtain⟨j1,a,ha,ea,E0⟩:=Tj (by omega);obtain⟨j2,b,hb,eb,HN⟩:=Tm (by omega);have:=FV (by omega) (by omega);obtain⟨i,rfl⟩:∃i,j=i+1:=⟨j - 1,by omega⟩;rw [ea,eb]at this;rw [E0,HN];have e1:i+1 - 1=i:=by omega
  rw [e1]at this|-;exact h.aet (by omega) ha hb this)
 have hex:∀d0:Int,∃c:Nat,d0∈jZ R B j e0 f0->c< (aC n R B).length/\gi (gl (aC n R B) c) j=d0:=fun d0=>by
  by_cases hd:d0∈jZ R B j e0 f0
  ·have Mw:=zg.1 hd;obtain⟨c,hc,ec⟩:=h.O0 Mw.1.1 Mw.1.2;rw [Mw.2.1]at ec;exact⟨c,fun _=> ⟨hc,ec⟩⟩
  exact⟨0,fun h=>absurd h hd⟩
 obtain⟨g,hg⟩:=Classical.axiomOfChoice hex;have hg:∀d0:Int,d0∈jZ R B j e0 f0->g d0< (aC n R B).length/\gi (gl (aC n R B) (g d0:Int)) j=d0:=hg;have S8:∀c:Nat,c< (aC n R B).length->((e<0\/e∈gl (bE (bZ n (aC n R B))) (bC (bZ n (aC n R B)) j c))↔(e0<0\/e0∈gl B (gi (gl (aC n R B) c) j))):=fun c hc=>by
  by_cases c1:e<0
  ·exact⟨fun _=> .inl (Mz.1 c1),fun _=> .inl c1⟩
  obtain⟨j1,a,ha,ea,E0⟩:=Tj (by omega);obtain⟨i,rfl⟩:∃i,j=i+1:=⟨j - 1,by omega⟩;have e1:i+1 - 1=i:=by omega
  rw [e1]at ea E0;have:=h.inc hj ha hc;constructor
  ·rintro(q | q)
   ·exact absurd q c1
   rw [ea]at q;exact .inr (by rw [E0];exact this.1 q)
  rintro(q | q)
  ·exact absurd (Mz.2 q) c1
  rw [E0]at q;exact .inr (by rw [ea];exact this.2 q)
 have S2:∀c:Nat,c< (aC n R B).length->((f<0\/bC (bZ n (aC n R B)) j c∈gl (bE (bZ n (aC n R B))) f)↔(f0<0\/gi (gl (aC n R B) c) j∈gl B f0)):=fun c hc=>by
  by_cases c1:f<0
  ·exact⟨fun _=> .inl (MC.1 c1),fun _=> .inl c1⟩
  obtain⟨j2,b,hb,eb,HN⟩:=Tm (by omega);have:=h.inc j2 hc hb;constructor
  ·rintro(q | q)
   ·exact absurd q c1
   rw [eb]at q;exact .inr (by rw [HN];exact this.1 q)
  rintro(q | q)
  ·exact absurd (MC.2 q) c1
  rw [HN]at q;exact .inr (by rw [eb];exact this.2 q)
 have hp:((jZ R B j e0 f0).map fun d0=>bC (bZ n (aC n R B)) j (g d0)).Perm (jZ (bn (bZ n (aC n R B)) n) (bE (bZ n (aC n R B))) j e f):=by
  refine(rE ?_ (CN _ _ _ _ _)).2 fun d=>?_
  ·refine nB.2 ((CN R B j e0 f0).imp_of_mem fun {d1 d2} h1 h2 bt q=>bt ?_);have a1:=hg d1 h1;have a2:=hg d2 h2;rw [<-a1.2,<-a2.2];exact(h.uF hj a1.1 a2.1).1 q
  rw [dv,zg];constructor
  ·rintro⟨d0,BK,rfl⟩;have a1:=hg d0 BK;have a2:=zg.1 BK;have a3:=h.fin hj a1.1;rw [<-a1.2]at a2;exact⟨a3.1,a3.2,(S8 _ a1.1).2 a2.2.2.1,(S2 _ a1.1).2 a2.2.2.2⟩
  rintro⟨q1,q2,q3,q4⟩;obtain⟨k,hk,c,hc,ec⟩:=h.Fc q1.1 q1.2;have r:=(h.fin hk hc).2;rw [<-ec,q2]at r;obtain rfl:k=j:=by omega
  have g1:=h.at_ hc hk;rw [ec]at q3 q4;have BK:gi (gl (aC n R B) c) k∈jZ R B k e0 f0:=zg.2 ⟨g1.1,g1.2,(S8 _ hc).1 q3,(S2 _ hc).1 q4⟩;refine⟨_,BK,?_⟩;have a1:=hg _ BK;rw [ec];exact(h.uF hk a1.1 hc).2 a1.2
 have:=hp.length_eq;rw [fj,hm]at this;exact this.symm
theorem fF.LA(h:fF n R B):oP (bZ n (aC n R B)):=by
 have hl:=h.len;have hb:=h.pos.oV;have DP:0< (aC n R B).length:=List.length_pos_iff.2 h.AB.1;refine⟨by rw [hl,h.VN];exact hb,?_,?_⟩
 ·unfold fP;rw [hl,h.Bo,h.nl]
 rw [hl];refine⟨fun e=>?_,fun e h0 h1=>?_,h.aaz,h.aay⟩
 ·have:=h.Bo;rw [e]at this;simp at this;omega
 obtain⟨i,hi,a,ha,ea⟩:=h.Fc h0 h1;refine⟨_,h.H0.2 ⟨a,ha,O⟩,?_⟩;rw [ea];unfold iY;exact dv.2 ⟨i,gP.2 hi,O⟩
theorem fF.gd(h:fF n R B):ir (bZ n (aC n R B))=0:=Ff h.vW h.LA
end
section
variable{i b:Nat}
variable {M:ah}
theorem rN{a:Nat}:bC M i a=bC M i b↔gi (cH M i) a=gi (cH M i) b:=by
 unfold bC;omega
theorem uH(hM:bg M){a:Nat}(hi:i<M.length)(ha:a< (gl M 0).length):(0<=bC M i a/\bC M i a< (aH M M.length:Int))/\gi (bn M M.length) (bC M i a)=i:=by
 have h1:=qq hM (i:=i) ha;have h2:=oI M (show i+1<=M.length by omega);exact⟨by omega,E9 hi h1.1 h1.2⟩
theorem Ll(hM:bg M){e:Int}(h0:0<=e)(h1:e< (aH M M.length:Int)):∃i a:Nat,i<M.length/\a< (gl M 0).length/\e=bC M i a:=by
 obtain⟨i,hi,h2,h3⟩:=Lm h0 h1;have h4:aH M (i+1)=aH M i+ (fA M i).toNat:=O;have h5:=vo M i;obtain⟨a,ha,e1⟩:=Bl hM i (e - aH M i) (by omega) (by omega);exact⟨i,a,hi,ha,by unfold bC;omega⟩
theorem zy(hM:bg M){y:ai}:y∈fP M↔∃a:Nat,a< (gl M 0).length/\y=iY M.length M a:=by
 have hn:=hM.1;unfold fP;rw [nh hn.1];constructor
 ·rintro⟨hl,hr,hc⟩;have key:∀i:Nat,i<M.length->∃a:Nat,a< (gl M 0).length/\∀k:Nat,k<=i->gi y k=bC M k a:=by
   intro i
   induction i with
   | zero=>
    intro hi;have h1:=hr 0 hi;rw [je]at h1;obtain⟨j,a,hj,ha,e⟩:=Ll hM h1.1.1 h1.1.2;have h2:=(uH hM hj ha).2;rw [<-e,h1.2]at h2;obtain rfl:j=0:=by omega
    exact⟨a,ha,fun k hk=>by
     obtain rfl:k=0:=by omega
     exact e⟩
   | succ i ih=>
    intro hi;obtain⟨a,ha,hk⟩:=ih (by omega);have h1:=hr (i+1) hi;have h0:=hr i (by omega);rw [je]at h1 h0;have hm:=hc i hi;rw [ot h1.1.1 h1.1.2]at hm;obtain⟨_,f,hf,j,hj,l,wR,e1,e2⟩:=hm;have r1:=(uH hM hj hf).2;have r2:=(uH hM (show l<M.length by omega) hf).2;rw [<-e1,h1.2]at r1;rw [<-e2,h0.2]at r2;obtain rfl:j=i+1:=by omega
    obtain rfl:l=i:=by omega
    have e3:gi (cH M l) a=gi (cH M l) f:=rN.1 (by rw [<-hk l (bB _),e2]);obtain⟨u,hu,dS,cI⟩:=WR hM (j:=l) (f:=(a:Int)) (by omega) (by omega) (E4 hM (by omega) (by omega) (by omega) (by omega) e3);obtain⟨b,rfl⟩:∃b:Nat,u=b:=⟨u.toNat,by omega⟩;refine⟨b,by omega,fun k kF=>?_⟩
    by_cases TA:k<=l
    ·rw [hk k TA];exact rN.2 (dS k TA).symm
    ·obtain rfl:k=l+1:=by omega
     rw [e1];exact rN.2 (cI (l+1) (by omega)).symm
  obtain⟨a,ha,h⟩:=key (M.length - 1) (by omega);refine⟨a,ha,u5 (n:=M.length) hl (by simp [iY]) fun i hi=>?_⟩;rw [lN hi];exact h i (by omega)
 ·rintro⟨a,ha,rfl⟩;refine⟨by simp [iY],fun i hi=>?_,fun i hi=>?_⟩
  ·rw [lN hi,je];exact uH hM hi ha
  ·rw [lN (show i<M.length by omega),lN hi];have h1:=uH hM hi ha;have h2:=uH hM (show i<M.length by omega) ha;rw [ot h1.1.1 h1.1.2];exact⟨h2.1,a,ha,i+1,hi,i,by omega,O,O⟩
theorem Ru(hM:bg M)(hl:(fP M).length=(gl M 0).length){a:Nat}(ha:a< (gl M 0).length)(hb:b< (gl M 0).length)(e:iY M.length M a=iY M.length M b):a=b:=by
 refine nA fun bt=>?_
 have hex:∀y:ai,∃c:Nat,y∈fP M->c< (gl M 0).length/\c≠a/\y=iY M.length M c:=fun y=>by
  by_cases hy:y∈fP M
  ·obtain⟨c,hc,ec⟩:=(zy hM).1 hy
   by_cases h:c=a
   ·exact⟨b,fun _=> ⟨hb,fun q=>bt q.symm,by rw [ec,h,e]⟩⟩
   exact⟨c,fun _=> ⟨hc,h,ec⟩⟩
  exact⟨0,fun h=>absurd h hy⟩
 obtain⟨g,hg⟩:=Classical.axiomOfChoice hex;have hg:∀y:ai,y∈fP M->g y< (gl M 0).length/\g y≠a/\y=iY M.length M (g y):=hg;have qX:(fP M).Nodup:=(xM _ _ _).nodup;have hq:(a::(fP M).map g).Nodup:=by
  refine oS.2 ⟨fun hm=>?_,?_⟩
  ·obtain⟨y,hy,e1⟩:=dv.1 hm;exact(hg y hy).2.1 e1
  exact nB.2 (qX.imp_of_mem fun {x y} hx hy jT q=>jT (by rw [(hg x hx).2.2,(hg y hy).2.2,q]))
 have:=JA (gl M 0).length _ hq fun x hx=>by
  rcases jn.1 hx with rfl | hx
  ·exact ha
  obtain⟨y,hy,rfl⟩:=dv.1 hx;exact(hg y hy).1
 rw [List.length_cons,fj,hl]at this;omega
theorem aa8(hM:bg M)(hG:oP M):fF M.length (bn M M.length) (bE M):=
 ⟨nQ hM hG.1,hG.2.2,by have:=hM.1;omega,by
  have h1:=hG.2.1;have h2:=hM.2.1;unfold fP at h1;omega⟩
end
inductive n3(M:ah)(S:Nat->Prop)(a:Nat):Nat->Prop where
 | refl:n3 M S a a
 | step {b c i:Nat}:n3 M S a b->i<M.length->¬S i->gi (gl M i) b=(c:Int)->n3 M S a c
def pG(M:ah):Prop:=∀a b:Nat,a< (gl M 0).length->b< (gl M 0).length->n3 M (fun k=>gi (cH M k) a=gi (cH M k) b) a b
section
variable{i b p q:Nat}{S:Nat->Prop}
variable {M:ah}
theorem Od(hM:bg M){a:Nat}(hi:i<M.length)(ha:a< (gl M 0).length):∃c:Nat,c< (gl M 0).length/\gi (gl M i) a=(c:Int)/\gi (gl M i) c=(a:Int)/\c≠a:=by
 have h:=hM.xc hi (f:=(a:Int)) (by omega) (by omega);have h2:=hM.two hi (f:=(a:Int)) (by omega) (by omega);have h3:=((hM.2.2.1.at_ hi).2.2 a (by rw [(hM.2.2.1.at_ hi).1];exact ha)).1;refine⟨(gi (gl M i) a).toNat,by omega,by omega,by rw [Int.toNat_of_nonneg h.1];exact h2,fun e=>?_⟩;omega
theorem n3.lt(hM:bg M){a:Nat}(ha:a< (gl M 0).length)(h:n3 M S a b):b< (gl M 0).length:=by
 induction h with
 | refl=>exact ha
 | step _ hi _ e ih=>
  have:=hM.xc hi (f:=((_:Nat):Int)) (by omega) (show((_:Nat):Int)<_ by exact Int.ofNat_lt.2 ih);rw [e]at this;omega
theorem n3.none{a:Nat}(h:n3 M S a b)(hS:∀k,k<M.length->S k):b=a:=by
 induction h with
 | refl=>rfl
 | step _ hi hs _ _=>exact absurd (hS _ hi) hs
theorem n3.one(hM:bg M){a:Nat}(ha:a< (gl M 0).length)(h:n3 M S a b)(hS:∀k,k<M.length->k≠i->S k):b=a\/(b:Int)=gi (gl M i) a:=by
 induction h with
 | refl=>exact .inl rfl
 | step h hk hs e ih=>
  rename_i b c k;have eN:k=i:=nA fun bt=>hs (hS k hk bt)
  subst eN;rcases ih with rfl | e2
  ·exact .inr e.symm
  ·left;have:=hM.two hk (f:=(a:Int)) (by omega) (by omega);rw [<-e2,e]at this;omega
theorem R3(hM:bg M):∃g:Nat->Nat,∀a:Nat,a< (gl M 0).length->g a< (fP M).length/\gl (fP M) (g a:Int)=iY M.length M a:=by
 have hex:∀a:Nat,∃p:Nat,a< (gl M 0).length->p< (fP M).length/\gl (fP M) p=iY M.length M a:=fun a=>by
  by_cases ha:a< (gl M 0).length
  ·obtain⟨p,hp,e⟩:=fV.1 ((zy hM).2 ⟨a,ha,rfl⟩);exact⟨p,fun _=> ⟨hp,by rw [cK hp];exact e⟩⟩
  exact⟨0,fun h=>absurd h ha⟩
 exact Classical.axiomOfChoice hex
theorem Rr(hM:bg M)(hp:p< (fP M).length):∃a:Nat,a< (gl M 0).length/\gl (fP M) p=iY M.length M a:=(zy hM).1 (by rw [cK hp];exact dH _)
theorem Rs(hp:p< (fP M).length)(hq:q< (fP M).length)(h:gl (fP M) p=gl (fP M) q):p=q:=vr (n:=M.length) (R:=bn M M.length) (B:=bE M) hp hq h
theorem Rt(hM:bg M){a c:Nat}(hi:i<M.length)(ha:a< (gl M 0).length)(e:gi (gl M i) a=(c:Int))(hp:p< (fP M).length)(hq:q< (fP M).length)(ep:gl (fP M) p=iY M.length M a)(eq:gl (fP M) q=iY M.length M c):jW M.length (fP M) i p q:=
 ⟨hp,hq,fun k hk bt=>by
  rw [ep,eq,lN hk,lN hk];refine rN.2 ?_;rw [<-e];exact(E3 hM hi (fun e=>bt e.symm) (by omega) (by omega)).symm⟩
theorem aa9(hM:bg M)(hG:oP M):pG M:=by
 have hl:(fP M).length=(gl M 0).length:=hG.2.1;have hP:=aa8 hM hG;have DO:jN M.length (fP M):=hP.nb;obtain⟨g,hg⟩:=R3 hM;have key:∀ {S:Nat->Prop} {p q:Nat},fo M.length (fP M) S p q->∀ {S':Nat->Prop},(∀k,k<M.length->(S' k->S k))->∀a:Nat,a< (gl M 0).length->gl (fP M) p=iY M.length M a->
  ∃b:Nat,b< (gl M 0).length/\gl (fP M) q=iY M.length M b/\n3 M S' a b:=by
  intro S p q hL S' hS a ha e
  induction hL with
  | refl _=>exact⟨a,ha,e,.refl⟩
  | step hL hi hs hA ih=>
   rename_i q r i;obtain⟨b,hb,eb,lb⟩:=ih
   by_cases Ug:r=q
   ·subst Ug;exact⟨b,hb,eb,lb⟩
   obtain⟨c,hc,e1,e2,bt⟩:=Od hM hi hb;have BN:=hg c hc;have hq:=hA.1;have xR:=Rt hM hi hb e1 hq BN.1 eb BN.2;have FX:g c≠q:=fun e=>bt (Ru hM hl hc hb (by rw [<-BN.2,e,eb]))
   have u1:=((DO.pt hq hi).2 (g c)).1 ⟨xR,FX⟩;have u2:=((DO.pt hq hi).2 r).1 ⟨hA,Ug⟩;exact⟨c,hc,by rw [u2,<-u1];exact BN.2,.step lb hi (fun h=>hs (hS i hi h)) e1⟩
 intro a b ha hb;have MF:=hg a ha;have DF:=hg b hb;have lF:fo M.length (fP M) (fun k=>gi (gl (fP M) (g a:Int)) k=gi (gl (fP M) (g b:Int)) k) (g a) (g b):=by
  have hc:wi M.length (fP M):=hG.2.2.2.2.2;rcases Nat.lt_trichotomy (g a) (g b)with h | h | h
  ·exact hc _ _ h DF.1
  ·rw [h];exact .refl DF.1
  ·have:=(hc _ _ h MF.1).symm;have e:(fun k:Nat=>gi (gl (fP M) (g b:Int)) k=gi (gl (fP M) (g a:Int)) k)=fun k:Nat=>gi (gl (fP M) (g a:Int)) k=gi (gl (fP M) (g b:Int)) k:=funext fun k=>propext ⟨Eq.symm,Eq.symm⟩
   rwa [e]at this
 obtain⟨b',uP,e',l'⟩:=key lF (S':=fun k=>gi (cH M k) a=gi (cH M k) b) (fun k hk h=>by
  rw [MF.2,DF.2,lN hk,lN hk];exact rN.2 h) a ha MF.2
 obtain rfl:b'=b:=Ru hM hl uP hb (by rw [<-e',DF.2]);exact l'
theorem pG.inj(h:pG M){a:Nat}(ha:a< (gl M 0).length)(hb:b< (gl M 0).length)(e:∀k,k<M.length->gi (cH M k) a=gi (cH M k) b):b=a:=(h a b ha hb).none e
theorem pG.Kq(hM:bg M)(h:pG M){a:Nat}(ha:a< (gl M 0).length)(hb:b< (gl M 0).length)(e:∀k,k<M.length->k≠i->gi (cH M k) a=gi (cH M k) b):b=a\/(b:Int)=gi (gl M i) a:=(h a b ha hb).one hM ha e
theorem aaG{a:Nat}(e:iY M.length M a=iY M.length M b){k:Nat}(hk:k<M.length):gi (cH M k) a=gi (cH M k) b:=by
 have:=aK (fun y=>gi y k) e;simp only [lN hk]at this;exact rN.1 this
theorem pG.Bo(hM:bg M)(h:pG M):(fP M).length=(gl M 0).length:=by
 have hp:((List.range (gl M 0).length).map (iY M.length M)).Perm (fP M):=by
  refine(rE ?_ (xM _ _ _).nodup).2 fun y=>?_
  ·exact nB.2 ((List.nodup_range (n:=(gl M 0).length)).imp_of_mem fun {a b} ha hb bt e=>bt (h.inj (gP.1 ha) (gP.1 hb) fun k hk=>aaG e hk).symm)
  show _↔y∈fP M;rw [zy hM,dv];constructor
  ·rintro⟨a,ha,rfl⟩;exact⟨a,gP.1 ha,rfl⟩
  rintro⟨a,ha,rfl⟩;exact⟨a,gP.2 ha,rfl⟩
 have:=hp.length_eq;rw [fj,qE]at this;exact this.symm
theorem aaH(hM:bg M){a:Nat}(hi:i<M.length)(ha:a< (gl M 0).length){d:Int}(hd:0<=d/\d< (aH M M.length:Int))(hr:gi (bn M M.length) d=i)(dS:0<i->bC M (i - 1) a∈gl (bE M) d)(cI:i+1<M.length->d∈gl (bE M) (bC M (i+1) a)):∃b:Nat,b< (gl M 0).length/\bC M i b=d/\∀k,k<M.length->k≠i->bC M k b=bC M k a:=by
 have hn:=hM.1;have hm:iY M.length M a∈fP M:=(zy hM).2 ⟨a,ha,O⟩;have hf:=(nh hn.1).1 hm;have hs:∀k:Nat,gi ((iY M.length M a).set i d) k=if k=i then d else gi (iY M.length M a) k:=fun k=>by
  have:=qK (S:=iY M.length M a) (x:=(i:Int)) (y:=(k:Int)) (b:=d) (by omega) (by rw [hf.1];omega) (by omega);rw [gI]at this;rw [this]
  by_cases e:k=i
  ·subst e;simp
  rw [aw e,aw (by omega)]
 have hx:(iY M.length M a).set i d∈fP M:=by
  refine(nh hn.1).2 ⟨by rw [jK];exact hf.1,fun k hk=>?_,fun k hk=>?_⟩
  ·rw [hs k]
   by_cases e:k=i
   ·subst e;rw [ay rfl,je];exact⟨hd,hr⟩
   rw [aw e];exact hf.2.1 k hk
  rw [hs k,hs (k+1)]
  by_cases e:k=i
  ·subst e;rw [ay rfl,aw (by omega),lN hk];exact cI hk
  rw [aw e]
  by_cases e2:k+1=i
  ·subst e2;rw [ay rfl,lN (by omega)];exact dS (by omega)
  rw [aw e2];exact hf.2.2 k hk
 obtain⟨b,hb,eb⟩:=(zy hM).1 hx;refine⟨b,hb,?_,fun k hk bt=>?_⟩
 ·have:=hs i;rw [eb,lN hi,ay rfl]at this;exact this
 have:=hs k;rw [eb,lN hk,aw bt,lN hk]at this;exact this
theorem RK(hM:bg M){k a:Nat}(hi:i<M.length)(hk:k<i)(ha:a< (gl M 0).length):bC M k a∈gl (bE M) (bC M i a):=by
 have h1:=uH hM hi ha;have h2:=uH hM (show k<M.length by omega) ha;rw [ot h1.1.1 h1.1.2];exact⟨h2.1,a,ha,i,hi,k,hk,O,O⟩
theorem aa0(hM:bg M){k:Nat}{d e:Int}(hi:i<M.length)(he:0<=e/\e< (aH M M.length:Int))(Ja:gi (bn M M.length) e=i)(lT:gi (bn M M.length) d=k)(h:d∈gl (bE M) e):∃a:Nat,a< (gl M 0).length/\e=bC M i a/\d=bC M k a:=by
 rw [ot he.1 he.2]at h;obtain⟨_,f,hf,j,hj,l,hl,e1,e2⟩:=h;have r1:=(uH hM hj hf).2;have r2:=(uH hM (show l<M.length by omega) hf).2;rw [<-e1,Ja]at r1;rw [<-e2,lT]at r2;obtain rfl:j=i:=by omega
 obtain rfl:l=k:=by omega
 exact⟨f,hf,e1,e2⟩
theorem RM(hM:bg M){e:Int}(he:0<=e/\e< (aH M M.length:Int))(Ja:gi (bn M M.length) e=i):i<M.length/\∃a:Nat,a< (gl M 0).length/\e=bC M i a:=by
 obtain⟨j,a,hj,ha,e1⟩:=Ll hM he.1 he.2;have r1:=(uH hM hj ha).2;rw [<-e1,Ja]at r1;obtain rfl:j=i:=by omega
 exact⟨hj,a,ha,e1⟩
theorem pG.dia(hM:bg M)(h:pG M):th M.length (bn M M.length) (bE M):=by
 intro i0 e f fG kU he hf FV;obtain⟨i,rfl⟩:∃i:Nat,i0=i:=⟨i0.toNat,by omega⟩;have hi:i<M.length:=by omega
 have hn:=hM.1;have hN:=hM.2.1;have iw:∃a:Nat,a< (gl M 0).length/\(0<i->e=bC M (i - 1) a)/\(i+1<M.length->f=bC M (i+1) a):=by
  rcases he with⟨q1,q2⟩ | ⟨q1,q2,q3⟩
  ·rcases hf with⟨p1,p2⟩ | ⟨p1,p2,p3⟩
   ·exact⟨0,by omega,fun h=>by omega,fun h=>by omega⟩
   rw [je]at p1;obtain⟨_,a,ha,ea⟩:=RM hM (i:=i+1) p1 (by omega);exact⟨a,ha,fun h=>by omega,fun _=>ea⟩
  rw [je]at q1;rcases hf with⟨p1,p2⟩ | ⟨p1,p2,p3⟩
  ·obtain⟨_,a,ha,ea⟩:=RM hM (i:=i - 1) q1 (by omega);exact⟨a,ha,fun _=>ea,fun h=>by omega⟩
  rw [je]at p1;obtain⟨a,ha,e1,e2⟩:=aa0 hM (i:=i+1) (k:=i - 1) (by omega) p1 (by omega) (by omega) (FV q1.1 p1.1);exact⟨a,ha,fun _=>e2,fun _=>e1⟩
 obtain⟨a,ha,uO,x6⟩:=iw;have Mz:e<0↔i=0:=by
  rcases he with⟨q1,q2⟩ | ⟨q1,q2,q3⟩<;>omega
 have MC:f<0↔i+1=M.length:=by
  rcases hf with⟨q1,q2⟩ | ⟨q1,q2,q3⟩<;>omega
 obtain⟨c,hc,e1,e2,bt⟩:=Od hM hi ha;have hac:bC M i a≠bC M i c:=fun q=>bt (h.inj ha hc fun k hk=>by
  by_cases e:k=i
  ·subst e;exact rN.1 q
  rw [<-e1];exact(E3 hM hi (fun e'=>e e'.symm) (by omega) (by omega)).symm)
 have BU:∀k,k≠i->bC M k c=bC M k a:=fun k hk=>by
  refine rN.2 ?_;rw [<-e1];exact E3 hM hi (fun e'=>hk e'.symm) (by omega) (by omega)
 have kV:∀d:Int,d∈jZ (bn M M.length) (bE M) i e f↔d∈[bC M i a,bC M i c]:=fun d=>by
  rw [zg,je];constructor
  ·rintro⟨hd,hr,u,v⟩;obtain⟨b,hb,eb,hk⟩:=aaH hM hi ha hd hr (fun h0=>by
    rw [<-uO h0];exact u.resolve_left (by omega)) (fun h0=>by
    rw [<-x6 h0];exact v.resolve_left (by omega))
   rcases h.Kq hM ha hb (i:=i) (fun k gW ado=> (rN.1 (hk k gW ado)).symm)with rfl | q
   ·rw [<-eb];simp
   obtain rfl:b=c:=by omega
   rw [<-eb];simp
  intro hd;have h3:∀b:Nat,b< (gl M 0).length->(∀k,k≠i->bC M k b=bC M k a)->((0<=bC M i b/\bC M i b< (aH M M.length:Int))/\gi (bn M M.length) (bC M i b)=i/\(e<0\/e∈gl (bE M) (bC M i b))/\(f<0\/bC M i b∈gl (bE M) f)):=fun b hb hk=>by
   have g:=uH hM hi hb;refine⟨g.1,g.2,?_,?_⟩
   ·by_cases h0:0<i
    ·right;rw [uO h0,<-hk (i - 1) (by omega)];exact RK hM hi (by omega) hb
    left;omega
   by_cases h0:i+1<M.length
   ·right;rw [x6 h0,<-hk (i+1) (by omega)];exact RK hM h0 (by omega) hb
   left;omega
  rcases jn.1 hd with rfl | hd
  ·exact h3 a ha fun _ _=>O
  obtain rfl:=fm.1 hd;exact h3 c hc BU
 have hp:(jZ (bn M M.length) (bE M) i e f).Perm [bC M i a,bC M i c]:=(rE (CN _ _ _ _ _) (by simpa using hac)).2 kV;exact hp.length_eq
theorem pG.Bj(hM:bg M)(h:pG M):wi M.length (fP M):=by
 obtain⟨g,hg⟩:=R3 hM;have key:∀ {S:Nat->Prop} {a b:Nat},a< (gl M 0).length->n3 M S a b->∀ {S':Nat->Prop},(∀k,k<M.length->(S' k->S k))->b< (gl M 0).length/\fo M.length (fP M) S' (g a) (g b):=by
  intro S a b ha hL S' hS
  induction hL with
  | refl=>exact⟨ha,.refl (hg a ha).1⟩
  | step hL hi hs e ih=>
   rename_i b c i;obtain⟨hb,lb⟩:=ih;have hc:=(n3.step hL hi hs e).lt hM ha;exact⟨hc,.step lb hi (fun h=>hs (hS i hi h)) (Rt hM hi hb e (hg b hb).1 (hg c hc).1 (hg b hb).2 (hg c hc).2)⟩
 intro p q tO hq;obtain⟨a,ha,ea⟩:=Rr hM (p:=p) (by omega);obtain⟨b,hb,eb⟩:=Rr hM hq;have h1:=(key ha (h a b ha hb) (S':=fun k=>gi (gl (fP M) p) k=gi (gl (fP M) q) k) fun k hk hx=>by
  rw [ea,eb,lN hk,lN hk]at hx;exact rN.1 hx).2
 rw [Rs (hg a ha).1 (by omega) ((hg a ha).2.trans ea.symm),Rs (hg b hb).1 hq ((hg b hb).2.trans eb.symm)]at h1;exact h1
theorem R4(hM:bg M)(hb:aH M M.length<=500)(h:pG M):oP M:=by
 have hN:=hM.2.1;refine⟨hb,h.Bo hM,?_,fun e h0 h1=>?_,h.dia hM,h.Bj hM⟩
 ·exact List.ne_nil_of_mem ((zy hM).2 ⟨0,by omega,O⟩)
 rw [je]at h1;obtain⟨i,a,hi,ha,ea⟩:=Ll hM h0 h1;refine⟨_,(zy hM).2 ⟨a,ha,O⟩,?_⟩;rw [ea];unfold iY;exact dv.2 ⟨i,gP.2 hi,O⟩
theorem H7(hM:bg M):oP M↔aH M M.length<=500/\pG M:=⟨fun h=> ⟨h.1,aa9 hM h⟩,fun h=>R4 hM h.1 h.2⟩
end
theorem Ve{N:Nat}{ps qs:ah}(hs:Sys N ps)(hq:Sys N qs)(h:∀x y:Int,Reach ps x y↔Reach qs x y):∀i:Nat,i<=N->bD N ps i=bD N qs i
 | 0,_=>rfl
 | i+1,hi=>by
  have ih:=Ve hs hq h i (by omega)
  by_cases h1:0<=gi (bD N ps i).1 i
  ·rw [Ah h1,Ah (by rw [<-ih];exact h1),ih]
  ·have h2:¬0<=gi (bD N qs i).1 i:=by rw [<-ih];exact h1
   rw [yw h1,yw h2,ih];have o1:=sd hs (pt:=(i:Int)) (by omega) (by omega);have o2:=sd hq (pt:=(i:Int)) (by omega) (by omega);refine Prod.ext ?_ O;show pX _ _ _=pX _ _ _;have hl:=rh N qs i;apply jX (by rw [GI,GI]);intro k h3 h4;have g1:=wF (N:=N) (dw N ps i) (bD N qs i).1 (bD N qs i).2 hl o1.1.range (k:Int) (by omega);have g2:=wF (N:=N) (dw N qs i) (bD N qs i).1 (bD N qs i).2 hl o2.1.range (k:Int) (by omega);rw [cd h3]at g1;rw [cd h4]at g2;rw [g1,g2];have hm:(k:Int)∈dw N ps i↔(k:Int)∈dw N qs i:=by rw [o1.2.2,o2.2.2,h]
   by_cases hk:(k:Int)∈dw N ps i
   ·rw [ay hk,ay (hm.1 hk)]
   ·rw [aw hk,aw fun q=>hk (hm.2 q)]
theorem Reach.sub{ps qs:ah}(h:∀p∈ps,p∈qs){x y:Int}(hr:Reach ps x y):Reach qs x y:=by
 induction hr with
 | refl=>exact .refl
 | step _ hp ih=>exact .step ih (h _ hp)
section
variable{i b:Nat}
variable {M:ah}
theorem Ei(hi:i<M.length):gl M.reverse i=gl M ((M.length - 1 - i:Nat):Int):=by
 rw [cK (by rw [List.length_reverse];exact hi),cK (by omega),List.getElem_reverse]
theorem Wy(hi:i<M.length):gl M.reverse ((M.length - 1 - i:Nat):Int)=gl M i:=by
 rw [Ei (by omega)]
 congr 2
 omega
theorem ub(hM:bg M):(gl M.reverse 0).length=(gl M 0).length:=by
 have h1:=hM.1;have:=Ei (M:=M) (i:=0) (by omega);rw [show((0:Nat):Int)=0 from rfl]at this;rw [this];exact(hM.2.2.1.at_ (by omega)).1
theorem OC(hM:bg M)(hi:i<M.length){p:ai}:p∈M.reverse.eraseIdx (M.length - 1 - i)↔p∈M.eraseIdx i:=by
 rw [List.mem_eraseIdx_iff_getElem,List.mem_eraseIdx_iff_getElem];constructor
 ·rintro⟨k,hk,bt,e⟩;rw [List.length_reverse]at hk;exact⟨M.length - 1 - k,by omega,by omega,by rw [<-e,List.getElem_reverse]⟩
 rintro⟨k,hk,bt,e⟩;refine⟨M.length - 1 - k,by rw [List.length_reverse];omega,by omega,?_⟩;rw [List.getElem_reverse];simp only [show M.length - 1 - (M.length - 1 - k)=k by omega];exact e
theorem yM(hM:bg M):bg M.reverse:=by
 have h0:=ub hM;have h1:=hM.1;refine⟨by rw [List.length_reverse];exact hM.1,by rw [h0];exact hM.2.1,fun p hp=>?_,fun i hi k hk mJ f hf=>?_,?_⟩
 ·rw [h0];exact hM.2.2.1 p (List.mem_reverse.1 hp)
 ·rw [List.length_reverse]at hi hk;rw [h0]at hf;have h:=hM.2.2.2.1 (M.length - 1 - k) (by omega) (M.length - 1 - i) (by omega) (by omega) f hf;unfold Comm at h|-;rw [Ei hi,Ei hk];exact⟨h.1.symm,fun e=>h.2 e.symm⟩
 have hs:Sys (gl M 0).length M.reverse:=fun p hp=>hM.2.2.1.sys p (List.mem_reverse.1 hp)
 have hN:=hM.2.1;rw [h0];refine(Cs hs (by omega)).2 fun x rX jq=>?_
 exact((Cs hM.2.2.1.sys (by omega)).1 hM.2.2.2.2 x rX jq).sub fun p hp=>List.mem_reverse.2 hp
theorem Ww(hM:bg M)(hi:i<M.length):bD (gl M.reverse 0).length (M.reverse.eraseIdx (M.length - 1 - i)) (gl M.reverse 0).length=bD (gl M 0).length (M.eraseIdx i) (gl M 0).length:=by
 rw [ub hM];have hs:Sys (gl M 0).length (M.reverse.eraseIdx (M.length - 1 - i)):=fun p hp=>hM.2.2.1.sys.erase i p ((OC hM hi).1 hp)
 exact Ve hs (hM.2.2.1.sys.erase i) (fun x y=> ⟨fun h=>h.sub fun p hp=> (OC hM hi).1 hp,fun h=>h.sub fun p hp=> (OC hM hi).2 hp⟩) _ (bB _)
theorem JO(hM:bg M)(hi:i<M.length):cH M.reverse (M.length - 1 - i)=cH M i:=by
 unfold cH;rw [Ww hM hi]
theorem ah9(hM:bg M)(hi:i<M.length):fA M.reverse (M.length - 1 - i)=fA M i:=by
 unfold fA;rw [Ww hM hi]
theorem Wx(hM:bg M):∀j:Nat,j<=M.length->aH M.reverse j+aH M (M.length - j)=aH M M.length
 | 0,_=>by show 0+_=_;rw [Nat.zero_add];rfl
 | j+1,h=>by
  have ih:=Wx hM j (by omega);have e:=ah9 hM (i:=M.length - 1 - j) (by omega);rw [show M.length - 1 - (M.length - 1 - j)=j by omega]at e;have e1:aH M.reverse (j+1)=aH M.reverse j+ (fA M.reverse j).toNat:=O;have e2:aH M (M.length - 1 - j+1)=aH M (M.length - 1 - j)+ (fA M (M.length - 1 - j)).toNat:=O;rw [show M.length - 1 - j+1=M.length - j by omega]at e2;rw [show M.length - (j+1)=M.length - 1 - j by omega,e1,e];omega
theorem Cx(hM:bg M):aH M.reverse M.length=aH M M.length:=by
 have:=Wx hM M.length (bB _);rw [Nat.sub_self]at this;exact this
theorem n3.rev{S S':Nat->Prop}(hS:∀k,k<M.length->(S' (M.length - 1 - k)->S k)){a:Nat}(h:n3 M S a b):n3 M.reverse S' a b:=by
 induction h with
 | refl=>exact .refl
 | step _ hi hs e ih=>exact .step ih (i:=M.length - 1 - _) (by rw [List.length_reverse];omega) (fun h=>hs (hS _ hi h)) (by rw [Wy hi];exact e)
theorem aib(hM:bg M)(h:pG M):pG M.reverse:=fun a b ha hb=>by
 rw [ub hM]at ha hb;refine(h a b ha hb).rev fun k hk e=>?_
 rw [JO hM hk]at e;exact e
theorem aia(hM:bg M)(h:oP M):oP M.reverse:=by
 have FC:=yM hM;have h1:=(H7 hM).1 h;exact(H7 FC).2 ⟨by rw [List.length_reverse,Cx hM];exact h1.1,aib hM h1.2⟩
end
end
section
open Go.RowKit Go.Sort
variable{i:Nat}
theorem Yq{w0 w:aa}{ks:List Ck}(i:Nat){t:ae}{A:aj}{n c:Nat}{xs:List aQ}(hS:St w0 w ks)(hk:ks[i]?=some (b9 t A n c xs))(h0:0<n)(hn:n<=1000000000):
 aN prog 185 [.slice A n c] w (fun v w'=>v= .tuple #[]/\St w0 w' (ks.set i (b9 t A n c xs.reverse))):=by
 obtain⟨h1,h2,h3,h4⟩:=hS.sD hk (Cg _);have hl:xs.length=n:=(hS.ie i hk).1;have h2:n<=c:=h2;have h3:c<=maxLen:=h3;rcases h4 with⟨_,nJ⟩ | ⟨g,o,cur,hA,hg,hh,hs,hc⟩
 ·have nJ:c=0:=nJ;omega
 have hA:A=some ⟨g,o,none⟩:=hA;have hs:o+c<=cur.size:=hs;have hc:∀j,j<n->cur[o+j]?=(xs.map aQ.v)[j]?:=hc;subst hA;subst hl;have key:=AnyE.slices_Reverse af1 aQ.v (fun _=>O) g o c xs w (M3 hh hc) (by omega);refine Calls.mono key fun x w' ⟨hx,q,hw⟩=> ⟨_,hx,O,?_⟩
 subst hw;have h:=hS.laid (q:=q) (m:=xs.length) (enc:=aQ.v) (ds:=xs.reverse) hk O hg hh hs (by simp) (by simp;omega) h3;rw [lp (by simp)]at h;exact h
theorem Lu{α:Type}{l:List α}{d:α}{n:Nat}(hl:l.length=n)(hi:i<n):l.reverse.getD i d=l.getD (n - 1 - i) d:=by
 subst hl;rw [dd,dd,List.getElem?_reverse hi]
theorem bz.rev{w:aa}{A B:aj}{n:Nat}{rs:List aQ}{xss:ah}(h:bz w A n rs xss)(ht:jo w B n rs.reverse):bz w B n rs.reverse xss.reverse:=
 ⟨ht,by rw [List.length_reverse];exact h.len,fun i hi=>by rw [Lu h.top.1 hi,Lu h.len hi];exact h.row _ (by omega),fun i hi=>by rw [Lu h.top.1 hi];exact h.cap _ (by omega)⟩
theorem aam(A:aj)(n c:Nat)(rs:List aQ)(xss:ah)(N:Nat)(w:aa)(hR:bz w A n rs xss)(hM:bg xss)(hN:N=(gl xss 0).length):
 aN prog 126 [.agg #[.slice A n c]] w (fun v w'=>∃A' c' rs',v= .agg #[.slice A' n c']/\rs'.length=n/\St w w' (aO 32 2 A' n c' rs' (my N xss.reverse 0))):=by
 have hn:=hM.1;have FE:=hM.2.1;have dG:=hR.len;refine bI func126 O ntmps126 O (pq O O) (bc O (ik (St.refl w) O O ?_));intro Ab w1 aE;refine gD aE O fun Ac w2 aD=>ar O (aW (aD.rd 1 O) O (a8 (aD.rd 1 O) O (aL (Ps A n c rs _ (aD.bS hR).top (by omega) (by omega)) O ?_)));rintro _ w3 ⟨A6,c6,rfl,ax⟩;have aM:=aD.call ax;refine ar O (aL (Yq 0 aM O (by omega) (by omega)) O ?_);rintro _ w4 ⟨rfl,aU⟩;have aU:St w w4 [b9 32 A6 n c6 rs.reverse,Bx 24 1 Ac [.slice none 0 0],Bx 24 1 Ab [.slice A n c]]:=aU;have BC:=(aU.bS hR).rev (aU.ie 0 O);refine ar O ?_;refine aL (aaP A6 n c6 rs.reverse xss.reverse N 0 _ BC (yM hM) (by rw [ub hM,hN]) (by omega) (by omega)) O ?_;rintro _ w5 ⟨A',c',rs',rfl,b5,z7⟩;have aV:St w w5 ([Bx 24 1 Ac [.slice none 0 0],Bx 24 1 Ab [.slice A n c]]++aO 32 2 A' n c' rs' (my N xss.reverse 0)):=(aU.tail.call z7).perm ku;refine bW 1 0 aV O O O O O O O fun w6 aZ=>bM O (ko O (aZ.rd 0 O) ?_);exact⟨A',c',rs',O,b5,(aZ.sub ((fE _).cons _)).sub ((fE _).cons _)⟩
theorem XK(A:aj)(n c:Nat)(rs:List aQ)(xss:ah)(w:aa)(hR:bz w A n rs xss)(hM:bg xss)(rU:n<=c)(hc:c<=9223372036854775807):
 aN prog 65 [.agg #[.slice A n c]] w (mo (my (gl xss 0).length xss.reverse 0) 0 w):=by
 have dG:=hR.len;refine bI func65 O ntmps65 O (sg O O) (bc O (ik (St.refl w) O O ?_));intro Ab w1 aE;refine gD aE O fun Ac w2 aD=>ar O (alC 0 (aD.rd 1 O) O (aL (Ch A n c rs xss _ (aD.bS hR) rU hc) O ?_));rintro _ w3 ⟨rfl,ax⟩;have aM:=aD.aq ax.below
 first | refine eZ rfl rfl ?_ | refine fY rfl rfl ?_
 refine aI O (oM O (fun h=>h hM) (aG O (alC 0 (aM.rd 1 O) O (aL (aam A n c rs xss (gl xss 0).length _ (aM.bS hR) hM O) O ?_))));rintro _ w4 ⟨A',c',rs',rfl,b5,rW⟩;have aU:St w w4 ([Bx 24 1 Ac [.slice none 0 0],Bx 24 1 Ab [.slice A n c]]++aO 32 2 A' n c' rs' (my (gl xss 0).length xss.reverse 0)):=(aM.call rW).perm ku;refine bW 1 0 aU O O O O O O O fun w5 aV=>bM O (jI O (aV.rd 0 O) O ?_);have zS:(my (gl xss 0).length xss.reverse 0).length=n:=by rw [Bp,List.length_reverse,dG]
 exact⟨A',c',rs',by rw [zS];rfl,by rw [b5,zS],by rw [zS];exact(aV.sub ((fE _).cons _)).sub ((fE _).cons _)⟩
end
section
section
variable {N:Nat} {X Y Z:ah} {φ ψ:Int->Int}
theorem gM.JD(h:gM N X Y φ){y:Int}(h0:0<=y)(h1:y<N):∃x:Int,(0<=x/\x<N)/\φ x=y:=by
 have hn:((bN N).map φ).Nodup:=nB.2 ((lh N).nodup.imp_of_mem fun {a b} ha hb bt e=>bt (by
  have ha:=(fM _ _).1 ha;have hb:=(fM _ _).1 hb;exact h.inj a b ha.1 ha.2 hb.1 hb.2 e))
 have:=OV (a:=(bN N).map φ) (b:=bN N) hn (fun z hz=>by
  obtain⟨x,hx,rfl⟩:=dv.1 hz;have hx:=(fM _ _).1 hx;exact(fM _ _).2 (h.dp x hx.1 hx.2)) (by simp) y ((fM _ _).2 ⟨h0,h1⟩)
 obtain⟨x,hx,e⟩:=dv.1 this;exact⟨x,(fM _ _).1 hx,e⟩
theorem gM.comp(h:gM N X Y φ)(h':gM N Y Z ψ):gM N X Z fun x=>ψ (φ x) where
 len:=h'.len.trans h.len
 dp:=fun x h0 h1=>by have:=h.dp x h0 h1;exact h'.dp _ this.1 this.2
 inj:=fun x y a b c d e=>h.inj x y a b c d (h'.inj _ _ (h.dp x a b).1 (h.dp x a b).2 (h.dp y c d).1 (h.dp y c d).2 e)
 tv:=fun i x hi h0 h1=>by
  have:=h.dp x h0 h1;rw [h'.tv i (φ x) (by rw [h.len];exact hi) this.1 this.2,h.tv i x hi h0 h1]
theorem gM.inv(h:gM N X Y φ)(hs:Sys N X):∃ψ:Int->Int,gM N Y X ψ/\(∀x:Int,0<=x->x<N->ψ (φ x)=x)/\∀y:Int,0<=y->y<N->φ (ψ y)=y:=by
 have hex:∀y:Int,∃x:Int,0<=y/\y<N->(0<=x/\x<N)/\φ x=y:=fun y=>by
  by_cases hy:0<=y/\y<N
  ·obtain⟨x,hx,e⟩:=h.JD hy.1 hy.2;exact⟨x,fun _=> ⟨hx,e⟩⟩
  exact⟨0,fun h=>absurd h hy⟩
 obtain⟨ψ,tV⟩:=Classical.axiomOfChoice hex;have tV:∀y:Int,0<=y/\y<N->(0<=ψ y/\ψ y<N)/\φ (ψ y)=y:=tV;have hl:∀x:Int,0<=x->x<N->ψ (φ x)=x:=fun x h0 h1=>by
  have hr:=h.dp x h0 h1;have:=tV _ hr;exact h.inj _ _ this.1.1 this.1.2 h0 h1 this.2
 refine⟨ψ,⟨h.len.symm,fun y h0 h1=> (tV y ⟨h0,h1⟩).1,fun a b a0 a1 b0 b1 e=>?_,fun i y hi h0 h1=>?_⟩,hl,fun y h0 h1=> (tV y ⟨h0,h1⟩).2⟩
 ·rw [<-(tV a ⟨a0,a1⟩).2,e,(tV b ⟨b0,b1⟩).2]
 have hy:=tV y ⟨h0,h1⟩;have dt:i<X.length:=by rw [<-h.len];exact hi
 have db:=(hs (gl X i) (by rw [cK dt];exact dH _)).2 _ hy.1.1 hy.1.2;have:=h.tv i _ dt hy.1.1 hy.1.2;rw [hy.2]at this;rw [this,hl _ db.1 db.2]
theorem gM.reach(h:gM N X Y φ)(hs:Sys N X){k:Nat}{x y:Int}(h0:0<=x)(h1:x<N)(hr:Reach (X.eraseIdx k) x y):(0<=y/\y<N)/\Reach (Y.eraseIdx k) (φ x) (φ y):=by
 induction hr with
 | refl=>exact⟨⟨h0,h1⟩,.refl⟩
 | step hr hp ih=>
  rename_i z p;obtain⟨hz,hR⟩:=ih;obtain⟨j,hj,bt,rfl⟩:=Q9 hp;have db:=(hs (gl X j) (by rw [cK hj];exact dH _)).2 _ hz.1 hz.2;refine⟨db,?_⟩;rw [<-h.tv j z hj hz.1 hz.2];exact .step hR (Q8 (by rw [h.len];exact hj) bt)
theorem gM.bD(h:gM N X Y φ)(hX:bg X)(hY:bg Y)(hN:N=(gl X 0).length)(ma:N=(gl Y 0).length){k:Nat}{f g:Int}(f0:0<=f)(f1:f<N)(g0:0<=g)(g1:g<N):gi (cH Y k) (φ f)=gi (cH Y k) (φ g)↔gi (cH X k) f=gi (cH X k) g:=by
 have hs:Sys N X:=by rw [hN];exact hX.2.2.1.sys
 have hf:=h.dp f f0 f1;have hg:=h.dp g g0 g1;constructor
 ·intro e;have hr:=E4 hY hf.1 (by omega) hg.1 (by omega) e;obtain⟨ψ,hi,hl,_⟩:=h.inv hs;have hsY:Sys N Y:=by rw [ma];exact hY.2.2.1.sys
  have:=(hi.reach hsY hf.1 hf.2 hr).2;rw [hl f f0 f1,hl g g0 g1]at this;exact Le hX f0 (by omega) this
 intro e;have hr:=E4 hX f0 (by omega) g0 (by omega) e;exact Le hY hf.1 (by omega) (h.reach hs f0 f1 hr).2
theorem gM.fA(h:gM N X Y φ)(hX:bg X)(hY:bg Y)(hN:N=(gl X 0).length)(ma:N=(gl Y 0).length)(k:Nat):fA Y k=fA X k:=by
 have b1:=(vo X k).1;have b2:=(vo Y k).1;have hex:∀v:Int,∃u:Int,0<=v/\v<Vc.fA X k->(0<=u/\u<Vc.fA Y k)/\∀f:Nat,f<N->(gi (cH X k) f=v↔gi (cH Y k) (φ (f:Int))=u):=fun v=>by
  by_cases hv:0<=v/\v<Vc.fA X k
  ·obtain⟨g,hg,eg⟩:=Bl hX k v hv.1 hv.2;rw [<-hN]at hg;have hr:=h.dp (g:Int) (by omega) (by omega);obtain⟨g',mI⟩:∃g':Nat,φ (g:Int)=g':=⟨(φ (g:Int)).toNat,by omega⟩;refine⟨gi (cH Y k) (φ (g:Int)),fun _=> ⟨by rw [mI];exact zw hY k g' (by omega),fun f hf=>?_⟩⟩;rw [<-eg,h.bD hX hY hN ma (by omega) (by omega) (by omega) (by omega)]
  exact⟨0,fun h=>absurd h hv⟩
 obtain⟨u,hu⟩:=Classical.axiomOfChoice hex;have hu:∀v:Int,0<=v/\v<Vc.fA X k->(0<=u v/\u v<Vc.fA Y k)/\∀f:Nat,f<N->(gi (cH X k) f=v↔gi (cH Y k) (φ (f:Int))=u v):=hu;have hp:((bN (Vc.fA X k).toNat).map u).Perm (bN (Vc.fA Y k).toNat):=by
  refine(rE ?_ (lh _).nodup).2 fun y=>?_
  ·refine nB.2 ((lh _).nodup.imp_of_mem fun {a b} ha hb bt e=>bt ?_);have ha:=(fM _ _).1 ha;have hb:=(fM _ _).1 hb;obtain⟨g,hg,eg⟩:=Bl hX k a ha.1 (by omega);rw [<-hN]at hg;have e1:=((hu a ⟨ha.1,by omega⟩).2 g hg).1 eg;rw [e]at e1;rw [<-eg];exact((hu b ⟨hb.1,by omega⟩).2 g hg).2 e1
  rw [dv,fM];constructor
  ·rintro⟨v,hv,rfl⟩;have hv:=(fM _ _).1 hv;have:=(hu v ⟨hv.1,by omega⟩).1;omega
  intro hy;obtain⟨g,hg,eg⟩:=Bl hY k y hy.1 (by omega);rw [<-ma]at hg;obtain⟨x,hx,ex⟩:=h.JD (y:=(g:Int)) (by omega) (by omega);obtain⟨f,rfl⟩:∃f:Nat,x=f:=⟨x.toNat,by omega⟩;have db:=zw hX k f (by omega);refine⟨gi (cH X k) f,(fM _ _).2 (by omega),?_⟩;rw [<-((hu _ db).2 f (by omega)).1 rfl,ex];exact eg
 have:=hp.length_eq;rw [fj,yN,yN]at this;omega
theorem gM.off(h:gM N X Y φ)(hX:bg X)(hY:bg Y)(hN:N=(gl X 0).length)(ma:N=(gl Y 0).length):∀j:Nat,aH Y j=aH X j
 | 0=>rfl
 | j+1=>by
  show aH Y j+ (Vc.fA Y j).toNat=aH X j+ (Vc.fA X j).toNat;rw [h.off hX hY hN ma j,h.fA hX hY hN ma j]
theorem gM.lnk(h:gM N X Y φ)(hX:bg X)(hN:N=(gl X 0).length){S:Nat->Prop}{a b:Nat}(ha:a<N)(hl:n3 X S a b):n3 Y S (φ (a:Int)).toNat (φ (b:Int)).toNat:=by
 induction hl with
 | refl=>exact .refl
 | step hl hi hs e ih=>
  rename_i b c i;have hb:b<N:=by rw [hN]at ha|-;exact hl.lt hX ha
  have hc:c<N:=by rw [hN]at ha|-;exact(n3.step hl hi hs e).lt hX ha
  have r1:=h.dp (b:Int) (by omega) (by omega);have r2:=h.dp (c:Int) (by omega) (by omega);refine .step ih (by rw [h.len];exact hi) hs ?_;rw [Int.toNat_of_nonneg r1.1,Int.toNat_of_nonneg r2.1,h.tv i (b:Int) hi (by omega) (by omega),e]
theorem gM.pth(h:gM N X Y φ)(hX:bg X)(hY:bg Y)(hN:N=(gl X 0).length)(ma:N=(gl Y 0).length)(hp:pG X):pG Y:=fun a b ha hb=>by
 rw [<-ma]at ha hb;obtain⟨x,hx,ex⟩:=h.JD (y:=(a:Int)) (by omega) (by omega);obtain⟨y,hy,ey⟩:=h.JD (y:=(b:Int)) (by omega) (by omega);obtain⟨u,rfl⟩:∃u:Nat,x=u:=⟨x.toNat,by omega⟩;obtain⟨v,rfl⟩:∃v:Nat,y=v:=⟨y.toNat,by omega⟩;have hl:=h.lnk hX hN (by omega) (hp u v (by omega) (by omega));rw [ex,ey,gI,gI]at hl;have e:(fun k:Nat=>gi (cH X k) u=gi (cH X k) v)=fun k:Nat=>gi (cH Y k) a=gi (cH Y k) b:=funext fun k=>propext (by
  rw [<-ex,<-ey];exact(h.bD hX hY hN ma (by omega) (by omega) (by omega) (by omega)).symm)
 rwa [e]at hl
theorem gM.LA(h:gM N X Y φ)(hX:bg X)(hY:bg Y)(hN:N=(gl X 0).length)(ma:N=(gl Y 0).length)(hg:oP X):oP Y:=by
 have h1:=(H7 hX).1 hg;exact(H7 hY).2 ⟨by rw [h.len,h.off hX hY hN ma];exact h1.1,h.pth hX hY hN ma h1.2⟩
end
structure sq(n:Nat)(R:ai)(B:ah)(R':ai)(B':ah)(δ gk:Int->Int):Prop where
 len:R'.length=R.length
 to:∀e:Int,0<=e->e<R.length->0<=δ e/\δ e<R.length
 qJ:∀e:Int,0<=e->e<R.length->0<=gk e/\gk e<R.length
 l:∀e:Int,0<=e->e<R.length->gk (δ e)=e
 r:∀e:Int,0<=e->e<R.length->δ (gk e)=e
 rk:∀e:Int,0<=e->e<R.length->gi R' (δ e)=(n:Int) - 1 - gi R e
 ux:∀d e:Int,0<=d->d<R.length->0<=e->e<R.length->(δ e∈gl B' (δ d)↔d∈gl B e)
section
variable{x:ai}
variable {n:Nat} {R R':ai} {B B':ah} {δ gk:Int->Int}
theorem sq.symm(h:sq n R B R' B' δ gk):sq n R' B' R B gk δ where
 len:=h.len.symm
 to:=fun e h0 h1=>by rw [h.len]at h1|-;exact h.qJ e h0 h1
 qJ:=fun e h0 h1=>by rw [h.len]at h1|-;exact h.to e h0 h1
 l:=fun e h0 h1=>h.r e h0 (by rw [<-h.len];exact h1)
 r:=fun e h0 h1=>h.l e h0 (by rw [<-h.len];exact h1)
 rk:=fun e h0 h1=>by
  rw [h.len]at h1;have h2:=h.qJ e h0 h1;have:=h.rk (gk e) h2.1 h2.2;rw [h.r e h0 h1]at this;omega
 ux:=fun d e h0 h1 h2 h3=>by
  rw [h.len]at h1 h3;have q1:=h.qJ d h0 h1;have q2:=h.qJ e h2 h3;have:=h.ux (gk e) (gk d) q2.1 q2.2 q1.1 q1.2;rw [h.r d h0 h1,h.r e h2 h3]at this;exact this.symm
def wC(n:Nat)(δ:Int->Int)(x:ai):ai:=(List.range n).map fun i=>δ (gi x ((n - 1 - i:Nat):Int))
theorem KZ(n:Nat)(δ:Int->Int)(x:ai):(wC n δ x).length=n:=by simp [wC]
theorem Bk{i:Nat}(hi:i<n):gi (wC n δ x) i=δ (gi x ((n - 1 - i:Nat):Int)):=by
 rw [cd (by rw [KZ];exact hi)];simp [wC]
theorem sq.flag(h:sq n R B R' B' δ gk)(hn:1<=n)(hx:x∈aC n R B):wC n δ x∈aC n R' B':=by
 have hf:=(nh hn).1 hx;refine(nh hn).2 ⟨KZ _ _ _,fun i hi=>?_,fun i hi=>?_⟩
 ·have h1:=hf.2.1 (n - 1 - i) (by omega);rw [Bk hi,h.len];exact⟨h.to _ h1.1.1 h1.1.2,by rw [h.rk _ h1.1.1 h1.1.2,h1.2];omega⟩
 have h1:=hf.2.1 (n - 1 - i) (by omega);have h2:=hf.2.1 (n - 1 - (i+1)) (by omega);have h3:=hf.2.2 (n - 1 - (i+1)) (by omega);rw [show n - 1 - (i+1)+1=n - 1 - i by omega]at h3;rw [Bk (i:=i) (by omega),Bk (i:=i+1) hi];exact(h.ux _ _ h2.1.1 h2.1.2 h1.1.1 h1.1.2).2 h3
theorem sq.back(h:sq n R B R' B' δ gk)(hn:1<=n)(hx:x∈aC n R B):wC n gk (wC n δ x)=x:=by
 have hf:=(nh hn).1 hx;refine u5 (n:=n) (KZ _ _ _) hf.1 fun i hi=>?_
 rw [Bk hi,Bk (by omega),show n - 1 - (n - 1 - i)=i by omega];exact h.l _ (hf.2.1 i hi).1.1 (hf.2.1 i hi).1.2
theorem sq.num(h:sq n R B R' B' δ gk)(hn:1<=n):(aC n R' B').length=(aC n R B).length:=by
 have hp:((aC n R B).map (wC n δ)).Perm (aC n R' B'):=by
  refine(rE ?_ (xM _ _ _).nodup).2 fun y=>?_
  ·exact nB.2 ((xM n R B).nodup.imp_of_mem fun {x z} hx hz bt e=>bt (by rw [<-h.back hn hx,e,h.back hn hz]))
  rw [dv];constructor
  ·rintro⟨x,hx,rfl⟩;exact h.flag hn hx
  intro hy;exact⟨_,h.symm.flag hn hy,h.symm.back hn hy⟩
 have:=hp.length_eq;rw [fj]at this;exact this.symm
theorem sq.UN(h:sq n R B R' B' δ gk)(hn:1<=n)(hb:jN n (aC n R B))(uP:jN n (aC n R' B')):
 ∃φ:Int->Int,gM (aC n R B).length (bZ n (aC n R B)).reverse (bZ n (aC n R' B')) φ/\∀y:Nat,y< (aC n R B).length->∃x:Nat,x< (aC n R B).length/\φ (x:Int)=(y:Int):=by
 have hl:=h.num hn;have hm:∀a:Nat,a< (aC n R B).length->gl (aC n R B) a∈aC n R B:=fun a ha=>by rw [cK ha];exact dH _
 have hex:∀a:Nat,∃p:Nat,a< (aC n R B).length->p< (aC n R B).length/\gl (aC n R' B') p=wC n δ (gl (aC n R B) a):=fun a=>by
  by_cases ha:a< (aC n R B).length
  ·obtain⟨p,hp,e⟩:=fV.1 (h.flag hn (hm a ha));exact⟨p,fun _=> ⟨by omega,by rw [cK hp];exact e⟩⟩
  exact⟨0,fun h=>absurd h ha⟩
 obtain⟨g,hg⟩:=Classical.axiomOfChoice hex;have hg:∀a:Nat,a< (aC n R B).length->g a< (aC n R B).length/\gl (aC n R' B') (g a:Int)=wC n δ (gl (aC n R B) a):=hg;have RY:∀a b:Nat,a< (aC n R B).length->b< (aC n R B).length->g a=g b->a=b:=fun a b ha hb e=>vr ha hb (by
  rw [<-h.back hn (hm a ha),<-h.back hn (hm b hb),<-(hg a ha).2,<-(hg b hb).2,e])
 have kW:=pk n (aC n R B);refine⟨fun x=> (g x.toNat:Int),⟨by rw [pk,List.length_reverse,pk],fun x h0 h1=>?_,fun x y h0 h1 h2 h3 e=>?_,fun i x hi h0 h1=>?_⟩,fun y hy=>?_⟩
 ·have:=(hg x.toNat (by omega)).1;omega
 ·have:=RY x.toNat y.toNat (by omega) (by omega) (by have e:(g x.toNat:Int)=(g y.toNat:Int):=e;omega);omega
 ·obtain⟨a,rfl⟩:∃a:Nat,x=a:=⟨x.toNat,by omega⟩;have ha:a< (aC n R B).length:=by omega
  rw [List.length_reverse,pk]at hi;have pO:n - 1 - i<n:=by omega
  have ki:=hb.lt ha pO;have lS:=hb.pt ha pO;obtain⟨b,eb⟩:∃b,fz n (aC n R B) (n - 1 - i) a=b:=⟨_,rfl⟩;have cJ:gl (bZ n (aC n R B)).reverse i=gl (bZ n (aC n R B)) ((n - 1 - i:Nat):Int):=by
   rw [Ei (by rw [pk];exact hi),pk]
  show gi (gl (bZ n (aC n R' B')) i) (g (a:Int).toNat:Int)=(g (gi (gl (bZ n (aC n R B)).reverse i) a).toNat:Int);rw [cJ,sW hb pO ha,gI,gI,sW uP hi (by rw [hl];exact(hg a ha).1)];rw [eb]at ki lS|-;have zH:=((lS.2 b).2 O).1;have:g b=fz n (aC n R' B') i (g a):=((uP.pt (by rw [hl];exact(hg a ha).1) hi).2 (g b)).1 ⟨⟨by rw [hl];exact(hg a ha).1,by rw [hl];exact(hg b ki).1,fun k hk bt=>?_⟩,fun e=>lS.1 (RY b a ki ha e)⟩
  ·rw [this]
  rw [(hg a ha).2,(hg b ki).2,Bk hk,Bk hk,zH.2.2 (n - 1 - k) (by omega) (by omega)]
 have kX:gl (aC n R' B') y∈aC n R' B':=by rw [cK (by omega)];exact dH _
 obtain⟨a,ha,e⟩:=fV.1 (h.symm.flag hn kX);refine⟨a,ha,?_⟩;have:g a=y:=vr (by rw [hl];exact(hg a ha).1) (by rw [hl];exact hy) (by
  rw [(hg a ha).2,cK ha,e,h.symm.back hn kX])
 show(g (a:Int).toNat:Int)=_;rw [gI,this]
end
theorem gM.rev{N:Nat}{X Y:ah}{φ:Int->Int}(h:gM N X.reverse Y φ):gM N X Y.reverse φ:=by
 have hl:Y.length=X.length:=by rw [h.len,List.length_reverse]
 refine⟨by rw [List.length_reverse];exact hl,h.dp,h.inj,fun i x hi h0 h1=>?_⟩;have:=h.tv (X.length - 1 - i) x (by rw [List.length_reverse];omega) h0 h1;rw [Wy hi]at this;rw [Ei (by omega),hl];exact this
structure qD(m:Nat)(n:Int)(rk Ej:Int->Int)(gx Et:Int->Int->Prop)(δ gk:Int->Int):Prop where
 to:∀a:Int,0<=a->a<m->0<=δ a/\δ a<m
 qJ:∀a:Int,0<=a->a<m->0<=gk a/\gk a<m
 l:∀a:Int,0<=a->a<m->gk (δ a)=a
 r:∀a:Int,0<=a->a<m->δ (gk a)=a
 rk:∀a:Int,0<=a->a<m->Ej (δ a)=n - 1 - rk a
 ux:∀a b:Int,0<=a->a<m->0<=b->b<m->(Et (δ b) (δ a)↔gx a b)
section
variable {m m1 m2:Nat} {n n1 n2:Int} {rk Ej rk1 rk2 uc ud:Int->Int} {gx Et cO cL Eu Ev:Int->Int->Prop} {δ gk xp yX CF Ey:Int->Int}
theorem qD.symm(h:qD m n rk Ej gx Et δ gk):qD m n Ej rk Et gx gk δ where
 to:=h.qJ
 qJ:=h.to
 l:=h.r
 r:=h.l
 rk:=fun a h0 h1=>by
  have h2:=h.qJ a h0 h1;have:=h.rk _ h2.1 h2.2;rw [h.r a h0 h1]at this;omega
 ux:=fun a b h0 h1 h2 h3=>by
  have q1:=h.qJ a h0 h1;have q2:=h.qJ b h2 h3;have:=h.ux (gk b) (gk a) q2.1 q2.2 q1.1 q1.2;rw [h.r a h0 h1,h.r b h2 h3]at this;exact this.symm
def gV(kind:Int):Int:=if kind=1 then 2 else if kind=2 then 1 else kind
theorem aai(kind:Int):gV (gV kind)=kind:=by
 unfold gV
 by_cases h1:kind=1
 ·subst h1;decide
 by_cases h2:kind=2
 ·subst h2;decide
 simp [h1,h2]
theorem qD.el(l1:eY m1 n1 rk1 cO)(l2:eY m2 n2 rk2 cL)(D2:eY m1 n1 uc Eu)(D3:eY m2 n2 ud Ev)(h1:qD m1 n1 rk1 uc cO Eu xp CF)(h2:qD m2 n2 rk2 ud cL Ev yX Ey){kind:Int}(hk:0<=kind/\kind<=2){i:Int}{c:Int×Int}(h:jJ m1 m2 rk1 rk2 kind i c):jJ m1 m2 uc ud (gV kind) (fT n1 n2 kind - 1 - i) (xp c.1,yX c.2):=by
 obtain⟨c1,c2,hr,hx⟩:=h;have t1:=h1.to _ c1.1 c1.2;have t2:=h2.to _ c2.1 c2.2;have r1:=h1.rk _ c1.1 c1.2;have r2:=h2.rk _ c2.1 c2.2;have z1:=l1.r0;have z2:=l2.r0;have w1:=l1.rt;have w2:=l2.rt;have z1':=D2.r0;have z2':=D3.r0;have w1':=D2.rt;have w2':=D3.rt;have e01:xp c.1=0->c.1=(m1:Int) - 1:=fun e=>l1.whole c1 (by rw [e,z1']at r1;omega)
 have e02:yX c.2=0->c.2=(m2:Int) - 1:=fun e=>l2.whole c2 (by rw [e,z2']at r2;omega)
 have et1:xp c.1=(m1:Int) - 1->c.1=0:=fun e=>l1.zero c1 (by rw [e,w1']at r1;omega)
 have et2:yX c.2=(m2:Int) - 1->c.2=0:=fun e=>l2.zero c2 (by rw [e,w2']at r2;omega)
 refine⟨t1,t2,?_,?_⟩
 ·unfold cS fC at hr|-;unfold fT gV;dsimp only
  by_cases k1:kind=1
  ·subst k1;rw [ay rfl]at hr;rw [ay rfl,aw (by decide),aw (by decide)];omega
  rw [aw k1]at hr;rw [aw k1]
  by_cases k2:kind=2
  ·subst k2;rw [ay rfl,ay rfl,aw (by decide)];omega
  rw [aw k2,aw k1,ay (by omega)];omega
 unfold qh gV at*;dsimp only at*
 by_cases k1:kind=1
 ·rw [ay k1];omega
 rw [aw k1]
 by_cases k2:kind=2
 ·rw [ay k2];omega
 rw [aw k2];omega
theorem H9{L:List (Int×Int)}{e:Int}(h0:0<=e)(h1:e<L.length):gp L e∈L:=by
 obtain⟨k,rfl⟩:∃k:Nat,e=k:=⟨e.toNat,by omega⟩;rw [qM (by omega)];exact dH _
theorem R6{L:List (Int×Int)}{c:Int×Int}(h:c∈L):∃e:Int,(0<=e/\e<L.length)/\gp L e=c:=by
 obtain⟨k,hk,e⟩:=fV.1 h;exact⟨(k:Int),by omega,by rw [qM hk];exact e⟩
theorem R5{L:List (Int×Int)}(hn:L.Nodup){d e:Int}(hd:0<=d/\d<L.length)(he:0<=e/\e<L.length)(h:gp L d=gp L e):d=e:=by
 obtain⟨i,rfl⟩:∃i:Nat,d=i:=⟨d.toNat,by omega⟩;obtain⟨j,rfl⟩:∃j:Nat,e=j:=⟨e.toNat,by omega⟩;rw [qM (by omega),qM (by omega)]at h;have:=(List.getElem_inj hn).1 h;omega
theorem qD.prod[DecidableRel cO][DecidableRel cL][DecidableRel Eu][DecidableRel Ev](l1:eY m1 n1 rk1 cO)(l2:eY m2 n2 rk2 cL)(D2:eY m1 n1 uc Eu)(D3:eY m2 n2 ud Ev)(h1:qD m1 n1 rk1 uc cO Eu xp CF)(h2:qD m2 n2 rk2 ud cL Ev yX Ey){kind:Int}(hk:0<=kind/\kind<=2){k:Nat}(mK:(k:Int)=fT n1 n2 kind):
 ∃δ gk:Int->Int,sq k ((cg m1 m2 rk1 rk2 kind k).map (cS rk1 rk2 kind)) (oJ cO cL (cg m1 m2 rk1 rk2 kind k)) ((cg m1 m2 uc ud (gV kind) k).map (cS uc ud (gV kind))) (oJ Eu Ev (cg m1 m2 uc ud (gV kind) k)) δ gk:=by
 have eM:0<=gV kind/\gV kind<=2:=by unfold gV;split<;> (try split)<;>omega
 have iS:fT n1 n2 (gV kind)=fT n1 n2 kind:=by
  unfold fT gV
  by_cases k1:kind=1
  ·subst k1;rfl
  ·by_cases k2:kind=2
   ·subst k2;rfl
   ·rw [aw k1,aw k2]
 obtain⟨L,hL⟩:∃L,L=cg m1 m2 rk1 rk2 kind k:=⟨_,rfl⟩;obtain⟨L',FA⟩:∃L',L'=cg m1 m2 uc ud (gV kind) k:=⟨_,rfl⟩;have nd:L.Nodup:=hL▸Cw k;have nd':L'.Nodup:=FA▸Cw k;have mem:∀c,c∈L↔∃i:Nat,i<k/\jJ m1 m2 rk1 rk2 kind i c:=fun c=>by rw [hL];exact ru
 have N9:∀c,c∈L'↔∃i:Nat,i<k/\jJ m1 m2 uc ud (gV kind) i c:=fun c=>by rw [FA];exact ru
 have st:∀ {i:Nat} {c:Int×Int},i<k->jJ m1 m2 rk1 rk2 kind i c->jJ m1 m2 uc ud (gV kind) ((k - 1 - i:Nat):Int) (xp c.1,yX c.2):=fun {i c} hi h=>by
  have:=h1.el l1 l2 D2 D3 h2 hk h;rw [<-mK]at this
  rwa [show((k - 1 - i:Nat):Int)=(k:Int) - 1 - i by omega]
 have st':∀ {i:Nat} {c:Int×Int},i<k->jJ m1 m2 uc ud (gV kind) i c->jJ m1 m2 rk1 rk2 kind ((k - 1 - i:Nat):Int) (CF c.1,Ey c.2):=fun {i c} hi h=>by
  have:=h1.symm.el D2 D3 l1 l2 h2.symm eM h;rw [iS,<-mK,aai]at this
  rwa [show((k - 1 - i:Nat):Int)=(k:Int) - 1 - i by omega]
 have ex:∀e:Int,∃e':Int,0<=e/\e<L.length->(0<=e'/\e'<L'.length)/\gp L' e'=(xp (gp L e).1,yX (gp L e).2):=fun e=>by
  by_cases he:0<=e/\e<L.length
  ·obtain⟨i,hi,hE⟩:=(mem _).1 (H9 he.1 he.2);obtain⟨e',qS,q⟩:=R6 ((N9 _).2 ⟨k - 1 - i,by omega,st hi hE⟩);exact⟨e',fun _=> ⟨qS,q⟩⟩
  ·exact⟨0,fun h=>absurd h he⟩
 have ex':∀e:Int,∃e':Int,0<=e/\e<L'.length->(0<=e'/\e'<L.length)/\gp L e'=(CF (gp L' e).1,Ey (gp L' e).2):=fun e=>by
  by_cases he:0<=e/\e<L'.length
  ·obtain⟨i,hi,hE⟩:=(N9 _).1 (H9 he.1 he.2);obtain⟨e',qS,q⟩:=R6 ((mem _).2 ⟨k - 1 - i,by omega,st' hi hE⟩);exact⟨e',fun _=> ⟨qS,q⟩⟩
  ·exact⟨0,fun h=>absurd h he⟩
 obtain⟨D,hD⟩:=Classical.axiomOfChoice ex;obtain⟨D',Dn⟩:=Classical.axiomOfChoice ex';have hD:∀e:Int,0<=e/\e<L.length->(0<=D e/\D e<L'.length)/\gp L' (D e)=(xp (gp L e).1,yX (gp L e).2):=hD;have Dn:∀e:Int,0<=e/\e<L'.length->(0<=D' e/\D' e<L.length)/\gp L (D' e)=(CF (gp L' e).1,Ey (gp L' e).2):=Dn;have HR:∀e:Int,0<=e/\e<L.length->∃i:Nat,i<k/\jJ m1 m2 rk1 rk2 kind i (gp L e):=fun e he=> (mem _).1 (H9 he.1 he.2)
 have aap:∀e:Int,0<=e/\e<L'.length->∃i:Nat,i<k/\jJ m1 m2 uc ud (gV kind) i (gp L' e):=fun e he=> (N9 _).1 (H9 he.1 he.2)
 have bl:∀e:Int,0<=e/\e<L.length->D' (D e)=e:=fun e he=>by
  have q:=hD e he;have q2:=Dn _ q.1;obtain⟨i,hi,hE⟩:=HR e he;refine R5 nd q2.1 he ?_;rw [q2.2,q.2];exact Prod.ext (h1.l _ hE.1.1 hE.1.2) (h2.l _ hE.2.1.1 hE.2.1.2)
 have br:∀e:Int,0<=e/\e<L'.length->D (D' e)=e:=fun e he=>by
  have q:=Dn e he;have q2:=hD _ q.1;obtain⟨i,hi,hE⟩:=aap e he;refine R5 nd' q2.1 he ?_;rw [q2.2,q.2];exact Prod.ext (h1.r _ hE.1.1 hE.1.2) (h2.r _ hE.2.1.1 hE.2.1.2)
 have hlen:L'.length=L.length:=by
  have hp:((bN L.length).map D).Perm (bN L'.length):=by
   refine(rE ?_ (lh _).nodup).2 fun y=>?_
   ·refine nB.2 ((lh L.length).nodup.imp_of_mem fun {a b} ha hb bt e=>bt ?_);rw [<-bl a ((fM _ _).1 ha),e,bl b ((fM _ _).1 hb)]
   ·rw [dv,fM];constructor
    ·rintro⟨e,he,rfl⟩;exact(hD e ((fM _ _).1 he)).1
    ·intro hy;exact⟨D' y,(fM _ _).2 (Dn y hy).1,br y hy⟩
  have:=hp.length_eq;rw [fj,yN,yN]at this;exact this.symm
 refine⟨D,D',?_⟩;rw [<-hL,<-FA];have o8:(L.map (cS rk1 rk2 kind)).length=L.length:=fj _;refine⟨by rw [fj,fj,hlen],fun e h0 h1=>?_,fun e h0 h1=>?_,fun e h0 h1=>?_,fun e h0 h1=>?_,fun e h0 h1=>?_,fun d e z0 z1 z2 z3=>?_⟩
 ·rw [o8]at h1|-;have:=(hD e ⟨h0,h1⟩).1;omega
 ·rw [o8]at h1|-;exact(Dn e ⟨h0,by omega⟩).1
 ·rw [o8]at h1;exact bl e ⟨h0,h1⟩
 ·rw [o8]at h1;exact br e ⟨h0,by omega⟩
 ·rw [o8]at h1;have q:=hD e ⟨h0,h1⟩;obtain⟨i,hi,hE⟩:=HR e ⟨h0,h1⟩;rw [yG q.1.1 q.1.2,q.2,(st hi hE).2.2.1,yG h0 h1,hE.2.2.1];omega
 ·rw [o8]at z1 z3;have qd:=hD d ⟨z0,z1⟩;have qe:=hD e ⟨z2,z3⟩;obtain⟨i,_,Io⟩:=HR d ⟨z0,z1⟩;obtain⟨j,_,Ip⟩:=HR e ⟨z2,z3⟩;have b1:=tZ l1 l2 (kind:=kind) (k:=k) (e:=e) (d:=d) (by rw [<-hL];exact⟨z2,z3⟩);have b2:=tZ D2 D3 (kind:=gV kind) (k:=k) (e:=D d) (d:=D e) (by rw [<-FA];exact qd.1);rw [<-hL]at b1;rw [<-FA]at b2;rw [u9 qd.1.1 qd.1.2,u9 z2 z3,b1,b2,qd.2,qe.2];dsimp only;rw [h1.ux _ _ Io.1.1 Io.1.2 Ip.1.1 Ip.1.2,h2.ux _ _ Io.2.1.1 Io.2.1.2 Ip.2.1.1 Ip.2.1.2];have bt:D e≠D d↔d≠e:=by
   constructor
   ·intro h q;exact h (by rw [q])
   ·intro h q;have:=aK D' q;rw [bl e ⟨z2,z3⟩,bl d ⟨z0,z1⟩]at this;exact h this.symm
  rw [bt];exact⟨fun⟨_,q2,q3⟩=> ⟨⟨z0,z1⟩,q2,q3⟩,fun⟨_,q2,q3⟩=> ⟨qe.1,q2,q3⟩⟩
end
structure iC{α:Type}(N:Nat)(el:Nat->α->Prop)(le:α->α->Prop):Prop where
 one:∀ {i j:Nat} {a:α},el i a->el j a->i=j
 rf:∀a:α,le a a
 tr:∀ {i j k:Nat} {a b c:α},el i a->el j b->el k c->le a b->le b c->le a c
 st:∀ {i j:Nat} {a b:α},el i a->el j b->le a b->a=b\/i<j
 uA:∀ {i j:Nat} {a b:α},el i a->el j b->le a b->i+1<j->∃c,el (i+1) c/\le a c/\le c b
 oW:∀ {i:Nat} {a:α},el i a->i<=N
 bot:∃o,el 0 o/\∀(i:Nat) (a:α),el i a->le o a/\(i=0->a=o)
 top:∃t,el N t/\∀(i:Nat) (a:α),el i a->le a t/\(i=N->a=t)
section
variable{i j p q:Nat}{S T:Nat->Prop}
variable {α:Type} {N:Nat} {el:Nat->α->Prop} {le:α->α->Prop}
def ju(el:Nat->α->Prop)(le:α->α->Prop)(i j:Nat)(z:Nat->α):Prop:=(∀k,i<=k->k<=j->el k (z k))/\∀k,i<=k->k<j->le (z k) (z (k+1))
theorem ju.yy(g:iC N el le){z:Nat->α}(h:ju el le i j z)(h1:i<=p)(h2:p<=q)(h3:q<=j):le (z p) (z q):=by
 induction q with
 | zero=>
  obtain rfl:p=0:=by omega
  exact g.rf _
 | succ q ih=>
  by_cases e:p=q+1
  ·subst e;exact g.rf _
  ·exact g.tr (h.1 p h1 (by omega)) (h.1 q (by omega) (by omega)) (h.1 (q+1) (by omega) h3) (ih (by omega) (by omega)) (h.2 q (by omega) (by omega))
theorem ju.sub{z:Nat->α}(h:ju el le i j z)(h1:i<=p)(h2:q<=j):ju el le p q z:=⟨fun k a b=>h.1 k (by omega) (by omega),fun k a b=>h.2 k (by omega) (by omega)⟩
def qL(k:Nat)(z w:Nat->α)(p:Nat):α:=if p<=k then z p else w p
theorem rO{k:Nat}{z w:Nat->α}(h:p<=k):qL k z w p=z p:=ay h
theorem xN{k:Nat}{z w:Nat->α}(h:k<p):qL k z w p=w p:=aw (by omega)
theorem Lw{k:Nat}{z w:Nat->α}(e:z k=w k)(h:k<=p):qL k z w p=w p:=by
 by_cases h':p=k
 ·subst h';rw [rO (bB _),e]
 exact xN (by omega)
theorem ju.glue{k:Nat}{z w:Nat->α}(h1:ju el le i k z)(h2:ju el le k j w)(e:z k=w k):ju el le i j (qL k z w):=by
 refine⟨fun p a b=>?_,fun p a b=>?_⟩
 ·by_cases h:p<=k
  ·rw [rO h];exact h1.1 p a h
  rw [xN (by omega)];exact h2.1 p (by omega) b
 by_cases h:p<k
 ·rw [rO (by omega),rO (by omega)];exact h1.2 p a h
 rw [Lw e (by omega),Lw e (by omega)];exact h2.2 p (by omega) b
theorem iC.chain(g:iC N el le){a b:α}(ha:el i a)(hb:el j b)(h:le a b)(iJ:i<=j):∃z,ju el le i j z/\z i=a/\z j=b:=by
 obtain⟨d,hd⟩:∃d,d=j - i:=⟨_,rfl⟩
 induction d generalizing i a with
 | zero=>
  obtain rfl:i=j:=by omega
  rcases g.st ha hb h with rfl | h
  ·refine⟨fun _=>a,⟨fun k h1 h2=>?_,fun k _ _=>g.rf _⟩,O,O⟩;have:k=i:=by omega
   rw [this];exact ha
  ·omega
 | succ d ih=>
  by_cases e:i+1=j
  ·subst e;refine⟨fun k=>if k=i then a else b,⟨fun k h1 h2=>?_,fun k h1 h2=>?_⟩,ay O,aw (by omega)⟩
   ·show el k (if k=i then a else b)
    split
    ·rename_i e;rw [e];exact ha
    ·obtain rfl:k=i+1:=by omega
     exact hb
   ·show le (if k=i then a else b) (if k+1=i then a else b);rw [ay (by omega),aw (by omega)];exact h
  ·obtain⟨c,hc,h1,h2⟩:=g.uA ha hb h (by omega);obtain⟨z,hz,e1,e2⟩:=ih hc h2 (by omega) (by omega);refine⟨fun k=>if k=i then a else z k,⟨fun k h3 h4=>?_,fun k h3 h4=>?_⟩,ay O,by show(if j=i then a else z j)=b;rw [aw (by omega)];exact e2⟩
   ·show el k (if k=i then a else z k)
    split
    ·rename_i e;rw [e];exact ha
    ·exact hz.1 k (by omega) h4
   ·show le (if k=i then a else z k) (if k+1=i then a else z (k+1));rw [aw (show ¬k+1=i by omega)]
    split
    ·rename_i e;subst e;rw [e1];exact h1
    ·exact hz.2 k (by omega) h4
inductive jL(el:Nat->α->Prop)(le:α->α->Prop)(i j:Nat)(S:Nat->Prop)(z:Nat->α):(Nat->α)->Prop where
 | same {y:Nat->α}:(∀k,i<=k->k<=j->z k=y k)->jL el le i j S z y
 | step {y y':Nat->α} (p:Nat):jL el le i j S z y->ju el le i j y->ju el le i j y'->i<p->p<j->¬S p->(∀k,i<=k->k<=j->k≠p->y k=y' k)->jL el le i j S z y'
theorem jL.eqv{z y y':Nat->α}(h:jL el le i j S z y)(e:∀k,i<=k->k<=j->y k=y' k):jL el le i j S z y':=by
 cases h with
 | same h=>exact .same fun k a b=> (h k a b).trans (e k a b)
 | step p h c c' h1 h2 h3 h4=>
  exact .step p h c ⟨fun k a b=>e k a b▸c'.1 k a b,fun k a b=>by rw [<-e k a (by omega),<-e (k+1) (by omega) b];exact c'.2 k a b⟩ h1 h2 h3 fun k a b n=> (h4 k a b n).trans (e k a b)
theorem jL.trans{z y x:Nat->α}(h:jL el le i j S z y)(h':jL el le i j S y x):jL el le i j S z x:=by
 induction h' with
 | same e=>exact h.eqv e
 | step p _ c c' h1 h2 h3 h4 ih=>exact .step p ih c c' h1 h2 h3 h4
theorem jL.mono{z y:Nat->α}(h:jL el le i j S z y)(hT:∀p,i<p->p<j->T p->S p):jL el le i j T z y:=by
 induction h with
 | same e=>exact .same e
 | step p _ c c' h1 h2 h3 h4 ih=>exact .step p ih c c' h1 h2 (fun ht=>h3 (hT p h1 h2 ht)) h4
theorem jL.keep{z y:Nat->α}(h:jL el le i j S z y){k:Nat}(h1:i<=k)(h2:k<=j)(hk:k<=i\/j<=k\/S k):z k=y k:=by
 induction h with
 | same e=>exact e k h1 h2
 | step p _ c c' h3 h4 h5 h6 ih=>exact ih.trans (h6 k h1 h2 (fun e=>by subst e;rcases hk with h | h | h<;>first | omega | exact h5 h))
theorem jL.lo{k:Nat}{z y w:Nat->α}(h:jL el le i k S z y)(hz:ju el le i k z)(hw:ju el le k j w)(e:z k=w k)(mJ:i<=k)(DK:k<=j):jL el le i j S (qL k z w) (qL k y w):=by
 induction h with
 | same e=>
  exact .same fun p a b=>by
   unfold qL;split
   ·exact e p a (by assumption)
   ·rfl
 | @step y y' p hl c c' h1 h2 h3 h4 ih=>
  have e1:y k=w k:=(hl.keep mJ (bB _) (.inr (.inl (bB _)))).symm.trans e;have e2:y' k=w k:=(h4 k mJ (bB _) (by omega)).symm.trans e1;refine .step p ih (c.glue hw e1) (c'.glue hw e2) h1 (by omega) h3 fun q a b n=>?_
  unfold qL;split
  ·exact h4 q a (by assumption) n
  ·rfl
theorem jL.hi{k:Nat}{z w w':Nat->α}(h:jL el le k j S w w')(hz:ju el le i k z)(hw:ju el le k j w)(e:z k=w k)(mJ:i<=k)(DK:k<=j):jL el le i j S (qL k z w) (qL k z w'):=by
 induction h with
 | same e=>
  exact .same fun p a b=>by
   unfold qL;split
   ·rfl
   ·exact e p (by omega) b
 | @step y y' p hl c c' h1 h2 h3 h4 ih=>
  have e1:z k=y k:=e.trans (hl.keep (bB _) DK (.inl (bB _)));have e2:z k=y' k:=e1.trans (h4 k (bB _) DK (by omega));refine .step p ih (hz.glue c e1) (hz.glue c' e2) (by omega) h2 h3 fun q a b n=>?_
  unfold qL;split
  ·rfl
  ·exact h4 q (by omega) b n
inductive iP(el:Nat->α->Prop)(le:α->α->Prop)(i j:Nat)(a b:α)(p:Nat)(c:α):Nat->α->Prop where
 | refl:iP el le i j a b p c p c
 | step {q r:Nat} {d e:α}:iP el le i j a b p c q d->i<r->r<j->el r e->le a e->le e b->(le d e\/le e d)->iP el le i j a b p c r e
def uo(el:Nat->α->Prop)(le:α->α->Prop)(i j:Nat)(a b:α)(p:Nat)(c:α):Prop:=i<p/\p<j/\el p c/\le a c/\le c b
def mZ(el:Nat->α->Prop)(le:α->α->Prop):Prop:=∀(i j:Nat) (a b:α),el i a->el j b->le a b->i+3<=j->∀(p q:Nat) (c d:α),uo el le i j a b p c->uo el le i j a b q d->iP el le i j a b p c q d
theorem Zu(g:iC N el le)(hc:mZ el le):∀(m i j:Nat),j - i<=m->i<=j->∀z y:Nat->α,ju el le i j z->ju el le i j y->z i=y i->z j=y j->jL el le i j (fun k=>z k=y k) z y:=by
 intro m
 induction m with
 | zero=>
  intro i j hm iJ z y _ _ e1 _;exact .same fun k a b=>by
   obtain rfl:k=i:=by omega
   exact e1
 | succ m ih=>
  intro i j hm iJ z y hz hy e1 e2;have split:∀z y:Nat->α,ju el le i j z->ju el le i j y->z i=y i->z j=y j->∀k,i<k->k<j->z k=y k->jL el le i j (fun k=>z k=y k) z y:=by
   intro z y hz hy e1 e2 k h1 h2 ek;have l1:=ih i k (by omega) (by omega) z y (hz.sub (bB _) (by omega)) (hy.sub (bB _) (by omega)) e1 ek;have l2:=ih k j (by omega) (by omega) z y (hz.sub (by omega) (bB _)) (hy.sub (by omega) (bB _)) ek e2;have a1:=l1.lo (w:=z) (hz.sub (bB _) (by omega)) (hz.sub (by omega) (bB _)) O (by omega) (by omega);have a2:=l2.hi (z:=y) (hy.sub (bB _) (by omega)) (hz.sub (by omega) (bB _)) ek.symm (by omega) (by omega);refine(jL.trans (.same fun p _ _=>?_) (a1.trans a2)).eqv fun p _ _=>?_
   ·unfold qL;split<;>rfl
   ·unfold qL;split<;>rfl
  by_cases hk:∃k,i<k/\k<j/\z k=y k
  ·obtain⟨k,h1,h2,h3⟩:=hk;exact split z y hz hy e1 e2 k h1 h2 h3
  have bt:∀p,i<p->p<j->¬z p=y p:=fun p h1 h2 h=>hk ⟨p,h1,h2,h⟩
  by_cases hs:j<=i+1
  ·exact .same fun k a b=>by
    rcases(show k=i\/k=j by omega)with rfl | rfl
    ·exact e1
    ·exact e2
  by_cases pg:j=i+2
  ·subst pg;refine .step (i+1) (.same fun _ _ _=>O) hz hy (by omega) (by omega) (bt _ (by omega) (by omega)) fun k a b n=>?_
   rcases(show k=i\/k=i+2 by omega)with rfl | rfl
   ·exact e1
   ·exact e2
  have hb:=fun(w:Nat->α) (hw:ju el le i j w) (f1:z i=w i) (f2:z j=w j)=> (⟨by omega,by omega,hw.1 _ (by omega) (by omega),f1▸hw.yy g (bB _) (by omega) (by omega),f2▸hw.yy g (by omega) (by omega) (bB _)⟩:uo el le i j (z i) (z j) (i+1) (w (i+1)))
  have wL:=hc i j (z i) (z j) (hz.1 i (bB _) iJ) (hz.1 j iJ (bB _)) (hz.yy g (bB _) iJ (bB _)) (by omega) _ _ _ _ (hb z hz O O) (hb y hy e1 e2);have key:∀(q:Nat) (d:α),iP el le i j (z i) (z j) (i+1) (z (i+1)) q d->uo el le i j (z i) (z j) q d/\∀x,ju el le i j x->z i=x i->z j=x j->x q=d->jL el le i j (fun _=>False) z x:=by
   intro q d h
   induction h with
   | refl=>exact⟨hb z hz rfl rfl,fun x hx f1 f2 f3=> (split z x hz hx f1 f2 (i+1) (by omega) (by omega) f3.symm).mono fun _ _ _ h=>h.elim⟩
   | @step q r d e _ h1 h2 h3 h4 h5 h6 ihc=>
    obtain⟨⟨q1,q2,q3,q4,q5⟩,NG⟩:=ihc;refine⟨⟨h1,h2,h3,h4,h5⟩,fun x hx f1 f2 f3=>?_⟩;have hzi:=hz.1 i (bB _) iJ;have hzj:=hz.1 j iJ (bB _);have fin:∀w,ju el le i j w->z i=w i->z j=w j->w q=d->w r=e->jL el le i j (fun _=>False) z x:=fun w hw g1 g2 g3 g4=>
     (NG w hw g1 g2 g3).trans ((split w x hw hx (g1.symm.trans f1) (g2.symm.trans f2) r h1 h2 (g4.trans f3.symm)).mono fun _ _ _ h=>h.elim)
    have mk:∀(u v:Nat) (s t:α),i<u->u<v->v<j->el u s->el v t->le (z i) s->le s t->le t (z j)->∃w,ju el le i j w/\z i=w i/\z j=w j/\w u=s/\w v=t:=by
     intro u v s t k1 k2 k3 k4 k5 k6 k7 k8;obtain⟨w1,c1,a1,b1⟩:=g.chain hzi k4 k6 (by omega);obtain⟨w2,c2,a2,b2⟩:=g.chain k4 k5 k7 (by omega);obtain⟨w3,c3,a3,b3⟩:=g.chain k5 hzj k8 (by omega);refine⟨qL v (qL u w1 w2) w3,(c1.glue c2 (b1.trans a2.symm)).glue c3 (by rw [xN k2,b2,a3]),?_,?_,?_,?_⟩
     ·rw [rO (by omega),rO (by omega),a1]
     ·rw [xN k3,b3]
     ·rw [rO (by omega),rO (bB _),b1]
     ·rw [rO (bB _),xN k2,b2]
    rcases h6 with h6 | h6
    ·rcases g.st q3 h3 h6 with e' | e'
     ·subst e';obtain rfl:=g.one q3 h3;exact NG x hx f1 f2 f3
     ·obtain⟨w,hw,g1,g2,g3,g4⟩:=mk q r d e q1 e' h2 q3 h3 q4 h6 h5;exact fin w hw g1 g2 g3 g4
    ·rcases g.st h3 q3 h6 with e' | e'
     ·subst e';obtain rfl:=g.one q3 h3;exact NG x hx f1 f2 f3
     ·obtain⟨w,hw,g1,g2,g3,g4⟩:=mk r q e d h1 e' q2 h3 q3 h4 h6 q5;exact fin w hw g1 g2 g4 g3
  exact((key _ _ wL).2 y hy e1 e2 O).mono fun p h1 h2 h=>bt p h1 h2 h
end
section
variable{p q:Nat}
variable {α:Type} {el:Nat->α->Prop} {le:α->α->Prop} {i j:Nat} {a b:α}
theorem iP.end_{c d:α}(h:iP el le i j a b p c q d)(hp:uo el le i j a b p c):uo el le i j a b q d:=by
 cases h with
 | refl=>exact hp
 | step _ h1 h2 h3 h4 h5 _=>exact⟨h1,h2,h3,h4,h5⟩
theorem iP.trans{r:Nat}{c d e:α}(h:iP el le i j a b p c q d)(h':iP el le i j a b q d r e):iP el le i j a b p c r e:=by
 induction h' with
 | refl=>exact h
 | step _ h1 h2 h3 h4 h5 h6 ih=>exact .step ih h1 h2 h3 h4 h5 h6
theorem iP.one{c d:α}(hq:uo el le i j a b q d)(h:le c d\/le d c):iP el le i j a b p c q d:= .step .refl hq.1 hq.2.1 hq.2.2.1 hq.2.2.2.1 hq.2.2.2.2 h
theorem iP.symm{c d:α}(hp:uo el le i j a b p c)(h:iP el le i j a b p c q d):iP el le i j a b q d p c:=by
 induction h with
 | refl=>exact .refl
 | step h0 h1 h2 h3 h4 h5 h6 ih=>exact(iP.one (h0.end_ hp) h6.symm).trans ih
end
section
variable {α β:Type} {N1 N2:Nat} {dM:Nat->α->Prop} {eT:α->α->Prop} {dN:Nat->β->Prop} {eU:β->β->Prop}
def oF(eT:α->α->Prop)(eU:β->β->Prop)(c d:α×β):Prop:=eT c.1 d.1/\eU c.2 d.2
structure CI(dM:Nat->α->Prop)(eT:α->α->Prop)(dN:Nat->β->Prop)(eU:β->β->Prop)(a1 b1:α)(a2 b2:β)(i j:Nat)(c1:α)(c2:β):Prop where
 e1:dM i c1
 e2:dN j c2
 l1:eT a1 c1
 m1:eT c1 b1
 l2:eU a2 c2
 m2:eU c2 b2
theorem Qy(g1:iC N1 dM eT)(g2:iC N2 dN eU)(vF:mZ dM eT)(ni:mZ dN eU){el:Nat->α×β->Prop}{s i0 j0 i1 j1:Nat}{a1 b1:α}{a2 b2:β}
 (iI:dM i0 a1) (iE:dN j0 a2) (df:dM i1 b1) (eC:dN j1 b2) (h1:eT a1 b1) (h2:eU a2 b2) (hs:s<=i0+j0) (h3:i0+j0+3<=i1+j1)
 (kj:∀i j c1 c2,dM i c1->dN j c2->eT a1 c1->eU a2 c2->el (i+j - s) (c1,c2))
 {i j k l:Nat} {c1 d1:α} {c2 d2:β} (hc:CI dM eT dN eU a1 b1 a2 b2 i j c1 c2) (hd:CI dM eT dN eU a1 b1 a2 b2 k l d1 d2)
 (DC:i0+j0<i+j/\i+j<i1+j1) (DE:i0+j0<k+l/\k+l<i1+j1):
 iP el (oF eT eU) (i0+j0 - s) (i1+j1 - s) (a1,a2) (b1,b2) (i+j - s) (c1,c2) (k+l - s) (d1,d2):=by
 have nO:∀ {i j:Nat} {c1:α} {c2:β},CI dM eT dN eU a1 b1 a2 b2 i j c1 c2->i0+j0<i+j->i+j<i1+j1->uo el (oF eT eU) (i0+j0 - s) (i1+j1 - s) (a1,a2) (b1,b2) (i+j - s) (c1,c2):=fun h p q=> ⟨by omega,by omega,kj _ _ _ _ h.e1 h.e2 h.l1 h.l2,⟨h.l1,h.l2⟩,⟨h.m1,h.m2⟩⟩
 have N0:∀ {i:Nat} {c:α},dM i c->eT a1 c->eT c b1->(i0<=i/\i<=i1)/\(i=i1->c=b1)/\(i=i0->c=a1):=fun {i c} he h h'=>by
  rcases g1.st iI he h with e | e<;>rcases g1.st he df h' with e' | e'
  ·subst e;subst e';have:=g1.one he iI;have:=g1.one he df;exact⟨by omega,fun _=>rfl,fun _=>rfl⟩
  ·subst e;have:=g1.one he iI;exact⟨by omega,by omega,fun _=>rfl⟩
  ·subst e';have:=g1.one he df;exact⟨by omega,fun _=>rfl,by omega⟩
  ·exact⟨by omega,by omega,by omega⟩
 have N3:∀ {i:Nat} {c:β},dN i c->eU a2 c->eU c b2->(j0<=i/\i<=j1)/\(i=j1->c=b2)/\(i=j0->c=a2):=fun {i c} he h h'=>by
  rcases g2.st iE he h with e | e<;>rcases g2.st he eC h' with e' | e'
  ·subst e;subst e';have:=g2.one he iE;have:=g2.one he eC;exact⟨by omega,fun _=>rfl,fun _=>rfl⟩
  ·subst e;have:=g2.one he iE;exact⟨by omega,by omega,fun _=>rfl⟩
  ·subst e';have:=g2.one he eC;exact⟨by omega,fun _=>rfl,by omega⟩
  ·exact⟨by omega,by omega,by omega⟩
 have h01:=(N0 df h1 (g1.rf _)).1;have h02:=(N3 eC h2 (g2.rf _)).1
 by_cases q1:i0=i1
 ·-- the first part stands still
  have e1:∀ {i:Nat} {c:α},dM i c->eT a1 c->eT c b1->c=a1/\i=i0:=fun he h h'=>by
   have:=N0 he h h';exact⟨this.2.2 (by omega),by omega⟩
  obtain⟨rfl,rfl⟩:=e1 hc.e1 hc.l1 hc.m1;obtain⟨rfl,rfl⟩:=e1 hd.e1 hd.l1 hd.m1;have key:=ni j0 j1 a2 b2 iE eC h2 (by omega) j l c2 d2 ⟨by omega,by omega,hc.e2,hc.l2,hc.m2⟩ ⟨by omega,by omega,hd.e2,hd.l2,hd.m2⟩;clear hd DE
  induction key with
  | refl=>exact .refl
  | step _ k1 k2 k3 k4 k5 k6 ih=>
   refine ih.trans (.one (nO ⟨hc.e1,k3,hc.l1,hc.m1,k4,k5⟩ (by omega) (by omega)) ?_);exact k6.imp (fun h=> ⟨g1.rf _,h⟩) (fun h=> ⟨g1.rf _,h⟩)
 by_cases q2:j0=j1
 ·have e2:∀ {i:Nat} {c:β},dN i c->eU a2 c->eU c b2->c=a2/\i=j0:=fun he h h'=>by
   have:=N3 he h h';exact⟨this.2.2 (by omega),by omega⟩
  obtain⟨rfl,rfl⟩:=e2 hc.e2 hc.l2 hc.m2;obtain⟨rfl,rfl⟩:=e2 hd.e2 hd.l2 hd.m2;have key:=vF i0 i1 a1 b1 iI df h1 (by omega) i k c1 d1 ⟨by omega,by omega,hc.e1,hc.l1,hc.m1⟩ ⟨by omega,by omega,hd.e1,hd.l1,hd.m1⟩;clear hd DE
  induction key with
  | refl=>exact .refl
  | step _ k1 k2 k3 k4 k5 k6 ih=>
   refine ih.trans (.one (nO ⟨k3,hc.e2,k4,k5,hc.l2,hc.m2⟩ (by omega) (by omega)) ?_);exact k6.imp (fun h=> ⟨h,g2.rf _⟩) (fun h=> ⟨h,g2.rf _⟩)
 have bu:CI dM eT dN eU a1 b1 a2 b2 i0 j1 a1 b2:=⟨iI,eC,g1.rf _,h1,h2,g2.rf _⟩;have bv:CI dM eT dN eU a1 b1 a2 b2 i1 j0 b1 a2:=⟨df,iE,h1,g1.rf _,g2.rf _,h2⟩;have iu:=nO bu (by omega) (by omega);have iv:=nO bv (by omega) (by omega);have uv:iP el (oF eT eU) (i0+j0 - s) (i1+j1 - s) (a1,a2) (b1,b2) (i0+j1 - s) (a1,b2) (i1+j0 - s) (b1,a2):=by
  by_cases q3:i0+1<i1
  ·obtain⟨x,hx,x1,x2⟩:=g1.uA iI df h1 q3;refine(iP.one (c:=(a1,b2)) (nO (i:=i0+1) (j:=j1) (c1:=x) (c2:=b2) ⟨hx,eC,x1,x2,h2,g2.rf _⟩ (by omega) (by omega)) (.inl ⟨x1,g2.rf _⟩)).trans ((iP.one (c:=(x,b2)) (nO (i:=i0+1) (j:=j0) (c1:=x) (c2:=a2) ⟨hx,iE,x1,x2,g2.rf _,h2⟩ (by omega) (by omega)) (.inr ⟨g1.rf _,h2⟩)).trans ?_);exact .one iv (.inl ⟨x2,g2.rf _⟩)
  ·obtain⟨x,hx,x1,x2⟩:=g2.uA iE eC h2 (by omega);refine(iP.one (c:=(a1,b2)) (nO (i:=i0) (j:=j0+1) (c1:=a1) (c2:=x) ⟨iI,hx,g1.rf _,h1,x1,x2⟩ (by omega) (by omega)) (.inr ⟨g1.rf _,x2⟩)).trans ((iP.one (c:=(a1,x)) (nO (i:=i1) (j:=j0+1) (c1:=b1) (c2:=x) ⟨df,hx,h1,g1.rf _,x1,x2⟩ (by omega) (by omega)) (.inl ⟨h1,g2.rf _⟩)).trans ?_);exact .one iv (.inr ⟨g1.rf _,x1⟩)
 have W3:∀ {i j:Nat} {c1:α} {c2:β},CI dM eT dN eU a1 b1 a2 b2 i j c1 c2->i0+j0<i+j->i+j<i1+j1->iP el (oF eT eU) (i0+j0 - s) (i1+j1 - s) (a1,a2) (b1,b2) (i+j - s) (c1,c2) (i0+j1 - s) (a1,b2):=fun {i j c1 c2} h p q=>by
  have f1:=N0 h.e1 h.l1 h.m1;have f2:=N3 h.e2 h.l2 h.m2
  by_cases q4:i<i1
  ·exact(iP.one (c:=(c1,c2)) (nO (i:=i) (j:=j1) (c1:=c1) (c2:=b2) ⟨h.e1,eC,h.l1,h.m1,h2,g2.rf _⟩ (by omega) (by omega)) (.inl ⟨g1.rf _,h.m2⟩)).trans (iP.one (c:=(c1,b2)) iu (.inr ⟨h.l1,g2.rf _⟩))
  ·have:c1=b1:=f1.2.1 (by omega);subst this;exact(iP.one (c:=(c1,c2)) iv (.inr ⟨g1.rf _,h.l2⟩)).trans (uv.symm iu)
 exact(W3 hc DC.1 DC.2).trans ((W3 hd DE.1 DE.2).symm (nO hd DE.1 DE.2))
def HQ(dM:Nat->α->Prop)(dN:Nat->β->Prop)(p:Nat)(c:α×β):Prop:=∃i j,dM i c.1/\dN j c.2/\p=i+j
theorem UQ(g1:iC N1 dM eT)(g2:iC N2 dN eU):iC (N1+N2) (HQ dM dN) (oF eT eU) where
 one:=fun⟨i,j,a,b,e⟩ ⟨i',j',a',b',e'⟩=>by have:=g1.one a a';have:=g2.one b b';omega
 rf:=fun c=> ⟨g1.rf _,g2.rf _⟩
 tr:=fun⟨_,_,a,b,_⟩ ⟨_,_,a',b',_⟩ ⟨_,_,Kp,KC,_⟩ h h'=> ⟨g1.tr a a' Kp h.1 h'.1,g2.tr b b' KC h.2 h'.2⟩
 st:=fun {_ _ c d} ⟨i,j,a,b,e⟩ ⟨i',j',a',b',e'⟩ h=>by
  rcases g1.st a a' h.1 with h1 | h1<;>rcases g2.st b b' h.2 with h2 | h2
  ·exact .inl (Prod.ext h1 h2)
  ·rw [<-h1]at a';have:=g1.one a a';exact .inr (by omega)
  ·rw [<-h2]at b';have:=g2.one b b';exact .inr (by omega)
  exact .inr (by omega)
 uA:=fun {p q c d} ⟨i,j,a,b,e⟩ ⟨i',j',a',b',e'⟩ h tO=>by
  have k1:i<=i'/\(i=i'->c.1=d.1):=by
   rcases g1.st a a' h.1 with h1 | h1
   ·rw [<-h1]at a';have:=g1.one a a';exact⟨by omega,fun _=>h1⟩
   exact⟨by omega,by omega⟩
  have k2:j<=j'/\(j=j'->c.2=d.2):=by
   rcases g2.st b b' h.2 with h1 | h1
   ·rw [<-h1]at b';have:=g2.one b b';exact⟨by omega,fun _=>h1⟩
   exact⟨by omega,by omega⟩
  by_cases q1:i+1<i'
  ·obtain⟨x,hx,x1,x2⟩:=g1.uA a a' h.1 q1;exact⟨(x,c.2),⟨i+1,j,hx,b,by omega⟩,⟨x1,g2.rf _⟩,⟨x2,h.2⟩⟩
  by_cases q2:i+1=i'
  ·exact⟨(d.1,c.2),⟨i',j,a',b,by omega⟩,⟨h.1,g2.rf _⟩,⟨g1.rf _,h.2⟩⟩
  obtain⟨x,hx,x1,x2⟩:=g2.uA b b' h.2 (by omega);exact⟨(c.1,x),⟨i,j+1,a,hx,by omega⟩,⟨g1.rf _,x1⟩,⟨h.1,x2⟩⟩
 oW:=fun⟨i,j,a,b,e⟩=>by have:=g1.oW a;have:=g2.oW b;omega
 bot:=by
  obtain⟨o1,h1,k1⟩:=g1.bot;obtain⟨o2,h2,k2⟩:=g2.bot;exact⟨(o1,o2),⟨0,0,h1,h2,O⟩,fun p c ⟨i,j,a,b,e⟩=> ⟨⟨(k1 i _ a).1,(k2 j _ b).1⟩,fun hp=>Prod.ext ((k1 i _ a).2 (by omega)) ((k2 j _ b).2 (by omega))⟩⟩
 top:=by
  obtain⟨o1,h1,k1⟩:=g1.top;obtain⟨o2,h2,k2⟩:=g2.top;refine⟨(o1,o2),⟨N1,N2,h1,h2,O⟩,fun p c ⟨i,j,a,b,e⟩=> ⟨⟨(k1 i _ a).1,(k2 j _ b).1⟩,fun hp=>?_⟩⟩;have:=g1.oW a;have:=g2.oW b;exact Prod.ext ((k1 i _ a).2 (by omega)) ((k2 j _ b).2 (by omega))
theorem ae3(g1:iC N1 dM eT)(g2:iC N2 dN eU)(vF:mZ dM eT)(ni:mZ dN eU):mZ (HQ dM dN) (oF eT eU):=by
 rintro p q ⟨a1,a2⟩ ⟨b1,b2⟩ ⟨i0,j0,iI,iE,rfl⟩ ⟨i1,j1,df,eC,rfl⟩ h tO r t ⟨c1,c2⟩ ⟨d1,d2⟩ ⟨c3,c4,⟨i,j,hc,pc,rfl⟩,c5,c6⟩ ⟨d3,d4,⟨k,l,hd,pe,rfl⟩,d5,d6⟩;exact Qy (s:=0) g1 g2 vF ni iI iE df eC h.1 h.2 (bm _) tO (fun i j x y hx hy _ _=> ⟨i,j,hx,hy,O⟩) ⟨hc,pc,c5.1,c6.1,c5.2,c6.2⟩ ⟨hd,pe,d5.1,d6.1,d5.2,d6.2⟩ ⟨c3,c4⟩ ⟨d3,d4⟩
end
section
variable {α β:Type} {N N1 N2:Nat} {el:Nat->α->Prop} {le:α->α->Prop} {dM:Nat->α->Prop} {eT:α->α->Prop} {dN:Nat->β->Prop} {eU:β->β->Prop}
theorem iC.lv(g:iC N el le){i j:Nat}{a b:α}(ha:el i a)(hb:el j b)(h:le a b):i<=j/\(i=j->a=b):=by
 rcases g.st ha hb h with e | e
 ·subst e;have:=g.one ha hb;exact⟨by omega,fun _=>rfl⟩
 exact⟨by omega,by omega⟩
theorem iC.J4(g:iC N el le){k:Nat}{d:α}(hd:el k d)(hk:1<=k):∃v,el 1 v/\le v d:=by
 by_cases e:k=1
 ·subst e;exact⟨d,hd,g.rf _⟩
 obtain⟨o,ho,h⟩:=g.bot;obtain⟨c,hc,_,h2⟩:=g.uA ho hd (h k d hd).1 (by omega);exact⟨c,hc,h2⟩
def vn(dM:Nat->α->Prop)(dN:Nat->β->Prop)(p:Nat)(c:α×β):Prop:=(p=0/\dM 0 c.1/\dN 0 c.2)\/∃i j,1<=i/\1<=j/\dM i c.1/\dN j c.2/\p+1=i+j
theorem HG(g1:iC N1 dM eT)(g2:iC N2 dN eU)(n1:1<=N1)(n2:1<=N2):iC (N1+N2 - 1) (vn dM dN) (oF eT eU) where
 one:=by
  rintro p q c (⟨e,a,b⟩ | ⟨i,j,hi,hj,a,b,e⟩) (⟨e',a',b'⟩ | ⟨i',j',dt,ll,a',b',e'⟩)
  ·omega
  ·have:=g1.one a a';omega
  ·have:=g1.one a a';omega
  have:=g1.one a a';have:=g2.one b b';omega
 rf:=fun c=> ⟨g1.rf _,g2.rf _⟩
 tr:=by
  have key:∀ {p:Nat} {c:α×β},vn dM dN p c->∃i j,dM i c.1/\dN j c.2:=by
   rintro p c (⟨e,a,b⟩ | ⟨i,j,hi,hj,a,b,e⟩)
   ·exact⟨0,0,a,b⟩
   exact⟨i,j,a,b⟩
  intro p q r c d e h h' xO l l';obtain⟨_,_,a,b⟩:=key h;obtain⟨_,_,a',b'⟩:=key h';obtain⟨_,_,Kp,KC⟩:=key xO;exact⟨g1.tr a a' Kp l.1 l'.1,g2.tr b b' KC l.2 l'.2⟩
 st:=by
  rintro p q c d (⟨e,a,b⟩ | ⟨i,j,hi,hj,a,b,e⟩) (⟨e',a',b'⟩ | ⟨i',j',dt,ll,a',b',e'⟩) h
  ·exact .inl (Prod.ext ((g1.lv a a' h.1).2 O) ((g2.lv b b' h.2).2 O))
  ·exact .inr (by omega)
  ·have:=(g1.lv a a' h.1).1;omega
  have h1:=g1.lv a a' h.1;have h2:=g2.lv b b' h.2
  by_cases q:i=i'/\j=j'
  ·exact .inl (Prod.ext (h1.2 q.1) (h2.2 q.2))
  exact .inr (by omega)
 uA:=by
  rintro p q c d (⟨e,a,b⟩ | ⟨i,j,hi,hj,a,b,e⟩) (⟨e',a',b'⟩ | ⟨i',j',dt,ll,a',b',e'⟩) h tO
  ·omega
  ·obtain⟨v,hv,lv⟩:=g1.J4 a' dt;obtain⟨w,hw,lw⟩:=g2.J4 b' ll;obtain⟨o1,h1,k1⟩:=g1.bot;obtain⟨o2,h2,k2⟩:=g2.bot;have e1:=(k1 0 _ a).2 O;have e2:=(k2 0 _ b).2 O;exact⟨(v,w),.inr ⟨1,1,by omega,by omega,hv,hw,by omega⟩,⟨by rw [e1];exact(k1 1 v hv).1,by rw [e2];exact(k2 1 w hw).1⟩,⟨lv,lw⟩⟩
  ·omega
  have h1:=g1.lv a a' h.1;have h2:=g2.lv b b' h.2
  by_cases q1:i+1<i'
  ·obtain⟨x,hx,x1,x2⟩:=g1.uA a a' h.1 q1;exact⟨(x,c.2),.inr ⟨i+1,j,by omega,hj,hx,b,by omega⟩,⟨x1,g2.rf _⟩,⟨x2,h.2⟩⟩
  by_cases q2:i+1=i'
  ·exact⟨(d.1,c.2),.inr ⟨i',j,dt,hj,a',b,by omega⟩,⟨h.1,g2.rf _⟩,⟨g1.rf _,h.2⟩⟩
  obtain⟨x,hx,x1,x2⟩:=g2.uA b b' h.2 (by omega);exact⟨(c.1,x),.inr ⟨i,j+1,hi,by omega,a,hx,by omega⟩,⟨g1.rf _,x1⟩,⟨h.1,x2⟩⟩
 oW:=by
  rintro p c (⟨e,a,b⟩ | ⟨i,j,hi,hj,a,b,e⟩)
  ·omega
  have:=g1.oW a;have:=g2.oW b;omega
 bot:=by
  obtain⟨o1,h1,k1⟩:=g1.bot;obtain⟨o2,h2,k2⟩:=g2.bot;refine⟨(o1,o2),.inl ⟨O,h1,h2⟩,?_⟩;rintro p c (⟨e,a,b⟩ | ⟨i,j,hi,hj,a,b,e⟩)
  ·exact⟨⟨(k1 _ _ a).1,(k2 _ _ b).1⟩,fun _=>Prod.ext ((k1 _ _ a).2 O) ((k2 _ _ b).2 O)⟩
  exact⟨⟨(k1 _ _ a).1,(k2 _ _ b).1⟩,by omega⟩
 top:=by
  obtain⟨o1,h1,k1⟩:=g1.top;obtain⟨o2,h2,k2⟩:=g2.top;refine⟨(o1,o2),.inr ⟨N1,N2,n1,n2,h1,h2,by omega⟩,?_⟩;rintro p c (⟨e,a,b⟩ | ⟨i,j,hi,hj,a,b,e⟩)
  ·exact⟨⟨(k1 _ _ a).1,(k2 _ _ b).1⟩,by omega⟩
  have:=g1.oW a;have:=g2.oW b;exact⟨⟨(k1 _ _ a).1,(k2 _ _ b).1⟩,fun _=>Prod.ext ((k1 _ _ a).2 (by omega)) ((k2 _ _ b).2 (by omega))⟩
theorem QC(g1:iC N1 dM eT)(g2:iC N2 dN eU)(vF:mZ dM eT)(ni:mZ dN eU):mZ (vn dM dN) (oF eT eU):=by
 rintro p q ⟨a1,a2⟩ ⟨b1,b2⟩ ha hb h tO r t ⟨c1,c2⟩ ⟨d1,d2⟩ ⟨c3,c4,hc,c5,c6⟩ ⟨d3,d4,hd,d5,d6⟩;rcases hb with⟨e,_,_⟩ | ⟨i1,j1,kU,F4,df,eC,e⟩
 ·omega
 rcases hc with⟨e2,_,_⟩ | ⟨i,j,hi,hj,hc,pc,e2⟩
 ·omega
 rcases hd with⟨e3,_,_⟩ | ⟨k,l,hk,hl,hd,pe,e3⟩
 ·omega
 obtain rfl:q=i1+j1 - 1:=by omega
 obtain rfl:r=i+j - 1:=by omega
 obtain rfl:t=k+l - 1:=by omega
 rcases ha with⟨e1,iI,iE⟩ | ⟨i0,j0,fG,Tx,iI,iE,e1⟩
 ·subst e1;replace iI:dM 0 a1:=iI;replace iE:dN 0 a2:=iE;replace df:dM i1 b1:=df;replace eC:dN j1 b2:=eC;replace hc:dM i c1:=hc;replace pc:dN j c2:=pc;replace hd:dM k d1:=hd;replace pe:dN l d2:=pe;obtain⟨o1,uW,k1⟩:=g1.bot;obtain⟨o2,B7,k2⟩:=g2.bot;have x1:=(k1 0 _ iI).2 O;have x2:=(k2 0 _ iE).2 O;subst x1;subst x2;have nO:∀ {i j:Nat} {c1:α} {c2:β},1<=i->1<=j->dM i c1->dN j c2->eT c1 b1->eU c2 b2->i+j<i1+j1->uo (vn dM dN) (oF eT eU) 0 (i1+j1 - 1) (a1,a2) (b1,b2) (i+j - 1) (c1,c2):=fun hi hj h h' l l' hs=> ⟨by omega,by omega,.inr ⟨_,_,hi,hj,h,h',by omega⟩,⟨(k1 _ _ h).1,(k2 _ _ h').1⟩,⟨l,l'⟩⟩
  by_cases q1:i1=1
  ·have f:∀ {i:Nat} {c:α},1<=i->dM i c->eT c b1->c=b1/\i=1:=fun hi h h'=>by
    have:=g1.lv h df h';exact⟨this.2 (by omega),by omega⟩
   obtain⟨rfl,rfl⟩:=f hi hc c6.1;obtain⟨rfl,rfl⟩:=f hk hd d6.1;have key:=ni 0 j1 a2 b2 iE eC (k2 _ _ eC).1 (by omega) j l c2 d2 ⟨by omega,by omega,pc,(k2 _ _ pc).1,c6.2⟩ ⟨by omega,by omega,pe,(k2 _ _ pe).1,d6.2⟩;clear hd pe d3 d4 d5 d6 hl e3
   induction key with
   | refl=>exact .refl
   | step _ y1 y2 y3 y4 y5 y6 ih=>
    refine ih.trans (.one (nO (by omega) (by omega) hc y3 c6.1 y5 (by omega)) ?_);exact y6.imp (fun h=> ⟨g1.rf _,h⟩) (fun h=> ⟨g1.rf _,h⟩)
  by_cases q2:j1=1
  ·have f:∀ {i:Nat} {c:β},1<=i->dN i c->eU c b2->c=b2/\i=1:=fun hi h h'=>by
    have:=g2.lv h eC h';exact⟨this.2 (by omega),by omega⟩
   obtain⟨rfl,rfl⟩:=f hj pc c6.2;obtain⟨rfl,rfl⟩:=f hl pe d6.2;have key:=vF 0 i1 a1 b1 iI df (k1 _ _ df).1 (by omega) i k c1 d1 ⟨by omega,by omega,hc,(k1 _ _ hc).1,c6.1⟩ ⟨by omega,by omega,hd,(k1 _ _ hd).1,d6.1⟩;clear hd pe d3 d4 d5 d6 hk e3
   induction key with
   | refl=>exact .refl
   | step _ y1 y2 y3 y4 y5 y6 ih=>
    refine ih.trans (.one (nO (by omega) (by omega) y3 pc y5 c6.2 (by omega)) ?_);exact y6.imp (fun h=> ⟨h,g2.rf _⟩) (fun h=> ⟨h,g2.rf _⟩)
  obtain⟨v0,Ut,NZ⟩:=g1.J4 df kU;obtain⟨w0,Jj,N4⟩:=g2.J4 eC F4;have it:=nO kU (bB 1) df Jj (g1.rf _) N4 (by omega);have W1:∀ {i j:Nat} {c1:α} {c2:β},1<=i->1<=j->dM i c1->dN j c2->eT c1 b1->eU c2 b2->i<i1->iP (vn dM dN) (oF eT eU) 0 (i1+j1 - 1) (a1,a2) (b1,b2) (i+j - 1) (c1,c2) (i1+1 - 1) (b1,w0):=fun {i j c1 c2} hi hj h h' l l' hs=>by
   refine(iP.one (c:=(c1,c2)) (nO hi F4 h eC l (g2.rf _) (by omega)) (.inl ⟨g1.rf _,l'⟩)).trans ((iP.one (c:=(c1,b2)) (nO hi (bB 1) h Jj l N4 (by omega)) (.inr ⟨g1.rf _,N4⟩)).trans ?_);exact iP.one (c:=(c1,w0)) it (.inl ⟨l,g2.rf _⟩)
  have W2:∀ {i j:Nat} {c1:α} {c2:β},1<=i->1<=j->dM i c1->dN j c2->eT c1 b1->eU c2 b2->i+j<i1+j1->iP (vn dM dN) (oF eT eU) 0 (i1+j1 - 1) (a1,a2) (b1,b2) (i+j - 1) (c1,c2) (i1+1 - 1) (b1,w0):=fun {i j c1 c2} hi hj h h' l l' hs=>by
   have g:=g1.lv h df l
   by_cases q:i<i1
   ·exact W1 hi hj h h' l l' q
   ·have:c1=b1:=g.2 (by omega);subst this;refine(iP.one (c:=(c1,c2)) (nO (bB 1) hj Ut h' NZ l' (by omega)) (.inr ⟨NZ,g2.rf _⟩)).trans ?_;exact W1 (bB 1) hj Ut h' NZ l' (by omega)
  exact(W2 hi hj hc pc c6.1 c6.2 (by omega)).trans ((W2 hk hl hd pe d6.1 d6.2 (by omega)).symm (nO hk hl hd pe d6.1 d6.2 (by omega)))
 ·replace iI:dM i0 a1:=iI;replace iE:dN j0 a2:=iE;obtain rfl:p=i0+j0 - 1:=by omega
  exact Qy (s:=1) g1 g2 vF ni iI iE df eC h.1 h.2 (by omega) (by omega) (fun i j x y hx hy l1 l2=> .inr ⟨i,j,by have:=(g1.lv iI hx l1).1;omega,by have:=(g2.lv iE hy l2).1;omega,hx,hy,by have:=(g1.lv iI hx l1).1;omega⟩) ⟨hc,pc,c5.1,c6.1,c5.2,c6.2⟩ ⟨hd,pe,d5.1,d6.1,d5.2,d6.2⟩ (by omega) (by omega)
def Dg(N:Nat)(el:Nat->α->Prop)(p:Nat)(a:α):Prop:=p<=N/\el (N - p) a
def D5(le:α->α->Prop)(a b:α):Prop:=le b a
theorem iC.uD(g:iC N el le):iC N (Dg N el) (D5 le) where
 one:=fun⟨h,a⟩ ⟨h',a'⟩=>by have:=g.one a a';omega
 rf:=fun a=>g.rf a
 tr:=fun⟨_,a⟩ ⟨_,b⟩ ⟨_,c⟩ h h'=>g.tr c b a h' h
 st:=fun⟨_,a⟩ ⟨_,b⟩ h=>by
  rcases g.st b a h with e | e
  ·exact .inl e.symm
  exact .inr (by omega)
 uA:=fun {i j a b} ⟨h1,ha⟩ ⟨h2,hb⟩ h iJ=>by
  obtain⟨z,hz,e1,e2⟩:=g.chain hb ha h (by omega);refine⟨z (N - (i+1)),⟨by omega,hz.1 _ (by omega) (by omega)⟩,?_,?_⟩
  ·show le _ a;rw [<-e2];exact hz.yy g (by omega) (by omega) (bB _)
  show le b _;rw [<-e1];exact hz.yy g (bB _) (by omega) (by omega)
 oW:=fun h=>h.1
 bot:=by
  obtain⟨t,ht,k⟩:=g.top;exact⟨t,⟨bm _,by simpa using ht⟩,fun i a ⟨hi,ha⟩=> ⟨(k _ a ha).1,fun e=> (k _ a ha).2 (by omega)⟩⟩
 top:=by
  obtain⟨o,ho,k⟩:=g.bot;exact⟨o,⟨bB _,by simpa using ho⟩,fun i a ⟨hi,ha⟩=> ⟨(k _ a ha).1,fun e=> (k _ a ha).2 (by omega)⟩⟩
theorem mZ.uD(g:iC N el le)(h:mZ el le):mZ (Dg N el) (D5 le):=by
 rintro i j a b ⟨hi,ha⟩ ⟨hj,hb⟩ eG iJ p q c d ⟨c1,c2,⟨_,c3⟩,c4,c5⟩ ⟨d1,d2,⟨_,d3⟩,d4,d5⟩;have key:=h (N - j) (N - i) b a hb ha eG (by omega) (N - p) (N - q) c d ⟨by omega,by omega,c3,c5,c4⟩ ⟨by omega,by omega,d3,d5,d4⟩;obtain⟨r,hr⟩:∃r,r=N - q:=⟨_,rfl⟩;rw [<-hr]at key;have gen:∀r e,iP el le (N - j) (N - i) b a (N - p) c r e->r<=N->iP (Dg N el) (D5 le) i j a b p c (N - r) e:=by
  intro r e hh
  induction hh with
  | refl=>intro _;rw [show N - (N - p)=p by omega];exact .refl
  | @step q' r' d' e' h0 k1 k2 k3 k4 k5 k6 ih=>
   intro gg;have db:=h0.end_ ⟨by omega,by omega,c3,c5,c4⟩;have:=g.oW db.2.2.1;exact .step (ih this) (by omega) (by omega) ⟨by omega,by rw [show N - (N - r')=r' by omega];exact k3⟩ k5 k4 k6.symm
 have:=gen r d key (by omega)
 rwa [show N - r=q by omega]at this
end
section
variable {α:Type} {N:Nat} {el:Nat->α->Prop} {le:α->α->Prop}
def Hi(N:Nat)(el:Nat->α->Prop)(le:α->α->Prop):Prop:=∀z y:Nat->α,ju el le 0 N z->ju el le 0 N y->jL el le 0 N (fun k=>z k=y k) z y
theorem ZR(g:iC N el le)(hc:mZ el le):Hi N el le:=fun z y hz hy=>by
 obtain⟨o,_,ho⟩:=g.bot;obtain⟨t,_,ht⟩:=g.top;have b1:=(ho 0 _ (hz.1 0 (bB _) (bm _))).2 O;have b2:=(ho 0 _ (hy.1 0 (bB _) (bm _))).2 O;have t1:=(ht N _ (hz.1 N (bm _) (bB _))).2 O;have t2:=(ht N _ (hy.1 N (bm _) (bB _))).2 O;exact Zu g hc N 0 N (by omega) (bm _) z y hz hy (b1.trans b2.symm) (t1.trans t2.symm)
theorem aiA(g:iC N el le)(h:Hi N el le):mZ el le:=by
 intro i j a b ha hb eG iJ p q c d hc hd;obtain⟨o,ho,ja⟩:=g.bot;obtain⟨t,ht,qZ⟩:=g.top;have zP:=g.oW hb;obtain⟨w1,c1,_,e1⟩:=g.chain ho ha (ja i a ha).1 (bm _);obtain⟨w4,c4,e4,_⟩:=g.chain hb ht (qZ j b hb).1 zP;have mk:∀(p:Nat) (c:α),uo el le i j a b p c->∃z,ju el le 0 N z/\(∀k,k<=i->z k=w1 k)/\(∀k,j<=k->z k=w4 k)/\z p=c:=by
  intro p c hc;obtain⟨u1,d1,f1,Re⟩:=g.chain ha hc.2.2.1 hc.2.2.2.1 (by have:=hc.1;omega);obtain⟨u2,d2,f2,Rf⟩:=g.chain hc.2.2.1 hb hc.2.2.2.2 (by have:=hc.2.1;omega);have h1:=hc.1;have h2:=hc.2.1;have x1:=c1.glue d1 (e1.trans f1.symm);have x2:=x1.glue d2 (by rw [xN h1,Re,f2]);have x3:=x2.glue c4 (by rw [xN h2,Rf,e4]);refine⟨_,x3,fun k hk=>?_,fun k hk=>Lw (by rw [xN h2,Rf,e4]) hk,?_⟩
  ·rw [rO (by omega),rO (by omega),rO hk]
  ·rw [rO (by omega),rO (bB _),xN h1,Re]
 obtain⟨z,hz,z1,z2,z3⟩:=mk p c hc;obtain⟨y,hy,y1,y2,y3⟩:=mk q d hd;have hl:=h z y hz hy;have zi:z i=a:=(z1 i (bB _)).trans e1;have zj:z j=b:=(z2 j (bB _)).trans e4;have kp:∀y',jL el le 0 N (fun k=>z k=y k) z y'->y' i=a/\y' j=b:=fun y' h=>by
  have k1:=h.keep (k:=i) (bm _) (by omega) (.inr (.inr (by show z i=y i;rw [z1 i (bB _),y1 i (bB _)])));have k2:=h.keep (k:=j) (bm _) (by omega) (.inr (.inr (by show z j=y j;rw [z2 j (bB _),y2 j (bB _)])));exact⟨k1.symm.trans zi,k2.symm.trans zj⟩
 have nO:∀y',ju el le 0 N y'->y' i=a->y' j=b->∀r,i<r->r<j->uo el le i j a b r (y' r):=fun y' kX k1 k2 r h1 h2=>
  ⟨h1,h2,kX.1 r (bm _) (by omega),k1▸kX.yy g (bm _) (by omega) (by omega),k2▸kX.yy g (bm _) (by omega) zP⟩
 have cmp:∀y',ju el le 0 N y'->∀r s,i<r->r<j->i<s->s<j->le (y' r) (y' s)\/le (y' s) (y' r):=fun y' kX r s h1 h2 h3 h4=>by
  rcases Nat.le_total r s with h | h
  ·exact .inl (kX.yy g (bm _) h (by omega))
  ·exact .inr (kX.yy g (bm _) h (by omega))
 have key:∀y',jL el le 0 N (fun k=>z k=y k) z y'->ju el le 0 N y'->∀r,i<r->r<j->iP el le i j a b p c r (y' r):=by
  intro y' hh
  induction hh with
  | @same y' e=>
   intro kX r h1 h2;have k:=kp y' (.same e);have:=iP.one (p:=p) (c:=c) (nO y' kX k.1 k.2 r h1 h2) (by rw [<-e r (bm _) (by omega),<-z3];exact cmp z hz p r hc.1 hc.2.1 h1 h2);exact this
  | @step y0 y' s h0 k1 k2 k3 k4 k5 k6 ih=>
   intro kX r h1 h2;have ih:=ih k1
   by_cases e:r=s
   ·subst e;obtain⟨r',r1,r2,r3⟩:∃r',i<r'/\r'<j/\r'≠r:=by
     by_cases e:r=i+1
     ·exact⟨i+2,by omega,by omega,by omega⟩
     ·exact⟨i+1,by omega,by omega,by omega⟩
    have e2:=k6 r' (bm _) (by omega) r3;have hk:=kp y' (.step r h0 k1 k2 k3 k4 k5 k6);have:=ih r' r1 r2;rw [e2]at this;exact this.trans (.one (nO y' kX hk.1 hk.2 r h1 h2) (cmp y' kX r' r r1 r2 h1 h2))
   ·rw [<-k6 r (bm _) (by omega) e];exact ih r h1 h2
 have:=key y hl hy q hd.1 hd.2.1
 rwa [y3]at this
end
structure nE{α:Type}(n:Nat)(R:ai)(B:ah)(el:Nat->α->Prop)(le:α->α->Prop)(φ:Int->α):Prop where
 n1:1<=n
 g:iC (n+1) el le
 Cm:∀e:Int,0<=e/\e<R.length->∀i:Nat,i<n->gi R e=i->el (i+1) (φ e)
 G8:∀(i:Nat) (a:α),i<n->el (i+1) a->∃e:Int,(0<=e/\e<R.length)/\gi R e=i/\φ e=a
 inj:∀d e:Int,0<=d/\d<R.length->0<=e/\e<R.length->φ d=φ e->d=e
 inc:∀d e:Int,0<=d/\d<R.length->0<=e/\e<R.length->gi R e=gi R d+1->(d∈gl B e↔le (φ d) (φ e))
section
variable{y:ai}
variable {α:Type} {n:Nat} {R:ai} {B:ah} {el:Nat->α->Prop} {le:α->α->Prop} {φ:Int->α}
def mS(o t:α)(n:Nat)(φ:Int->α)(x:ai)(k:Nat):α:=if k=0 then o else if k<=n then φ (gi x ((k - 1:Nat):Int))else t
theorem CE{o t:α}{x:ai}{k:Nat}(h:k<n):mS o t n φ x (k+1)=φ (gi x k):=by
 unfold mS;rw [if_neg (by omega),if_pos (by omega)];rfl
theorem nE.z(h:nE n R B el le φ){o t:α}(ho:el 0 o)(ja:∀(i:Nat) (a:α),el i a->le o a)(ht:el (n+1) t)(qZ:∀(i:Nat) (a:α),el i a->le a t){x:ai}(hx:x∈aC n R B):ju el le 0 (n+1) (mS o t n φ x):=by
 obtain⟨_,ha,hb⟩:=(nh h.n1).1 hx;have hm:∀k:Nat,k<n->el (k+1) (mS o t n φ x (k+1)):=fun k hk=>by
  rw [CE hk];exact h.Cm _ (ha k hk).1 k hk (ha k hk).2
 have h0:mS o t n φ x 0=o:=ay O;have h9:mS o t n φ x (n+1)=t:=by unfold mS;rw [if_neg (by omega),if_neg (by omega)]
 have he:∀k:Nat,k<=n+1->el k (mS o t n φ x k):=fun k hk=>by
  cases k with
  | zero=>rw [h0];exact ho
  | succ k=>
   by_cases e:k<n
   ·exact hm k e
   ·obtain rfl:k=n:=by omega
    rw [h9];exact ht
 refine⟨fun k _ hk=>he k hk,fun k _ hk=>?_⟩;cases k with
 | zero=>rw [h0];exact ja _ _ (he 1 (by omega))
 | succ k=>
  by_cases e:k+1<n
  ·rw [CE (by omega),CE e];refine(h.inc _ _ (ha k (by omega)).1 (ha (k+1) e).1 ?_).1 (hb k e);rw [(ha k (by omega)).2,(ha (k+1) e).2];omega
  ·obtain rfl:k+1=n:=by omega
   rw [h9];exact qZ _ _ (he (k+1) (by omega))
theorem nE.x(h:nE n R B el le φ){z:Nat->α}(hz:ju el le 0 (n+1) z):∃x∈aC n R B,∀i:Nat,i<n->φ (gi x i)=z (i+1):=by
 have hex:∀i:Nat,∃e:Int,i<n->(0<=e/\e<R.length)/\gi R e=i/\φ e=z (i+1):=fun i=>by
  by_cases hi:i<n
  ·obtain⟨e,h⟩:=h.G8 i (z (i+1)) hi (hz.1 (i+1) (bm _) (by omega));exact⟨e,fun _=>h⟩
  exact⟨0,fun h=>absurd h hi⟩
 obtain⟨E,hE⟩:=Classical.axiomOfChoice hex;have hE:∀i:Nat,i<n->(0<=E i/\E i<R.length)/\gi R (E i)=i/\φ (E i)=z (i+1):=hE;have gw:∀i:Nat,i<n->gi ((List.range n).map E) i=E i:=fun i hi=>by
  rw [cd (by simpa using hi),List.getElem_map,List.getElem_range]
 refine⟨(List.range n).map E,(nh h.n1).2 ⟨by simp,fun i hi=>?_,fun i hi=>?_⟩,fun i hi=>?_⟩
 ·rw [gw i hi];exact⟨(hE i hi).1,(hE i hi).2.1⟩
 ·rw [gw i (by omega),gw (i+1) hi];have h1:=hE i (by omega);have h2:=hE (i+1) hi;rw [h.inc _ _ h1.1 h2.1 (by rw [h1.2.1,h2.2.1];omega),h1.2.2,h2.2.2];exact hz.2 (i+1) (bm _) (by omega)
 rw [gw i hi];exact(hE i hi).2.2
theorem nE.pure(h:nE n R B el le φ)(hr:∀e:Int,0<=e->e<R.length->0<=gi R e/\gi R e<n):Hp n R B:=fun e h0 h1=>by
 obtain⟨r0,r1⟩:=hr e h0 h1;obtain⟨i,hi⟩:∃i:Nat,gi R e=i:=⟨(gi R e).toNat,by omega⟩;have he:=h.Cm e ⟨h0,h1⟩ i (by omega) hi;obtain⟨o,ho,ja⟩:=h.g.bot;obtain⟨t,ht,qZ⟩:=h.g.top;obtain⟨w1,c1,_,e1⟩:=h.g.chain ho he (ja _ _ he).1 (by omega);obtain⟨w2,c2,e2,_⟩:=h.g.chain he ht (qZ _ _ he).1 (by omega);obtain⟨x,hx,hf⟩:=h.x (c1.glue c2 (e1.trans e2.symm));refine⟨x,hx,?_⟩;have hh:=hf i (by omega);rw [rO (bB _),e1]at hh;obtain⟨hl,ha,_⟩:=(nh h.n1).1 hx;have:=h.inj _ _ (ha i (by omega)).1 ⟨h0,h1⟩ hh;rw [<-this,cd (by omega)];exact dH _
theorem nE.agree(h:nE n R B el le φ){o t:α}{x:ai}(hx:x∈aC n R B)(hy:y∈aC n R B){i:Nat}(hi:i<n):mS o t n φ x (i+1)=mS o t n φ y (i+1)↔gi x i=gi y i:=by
 rw [CE hi,CE hi];exact⟨h.inj _ _ (((nh h.n1).1 hx).2.1 i hi).1 (((nh h.n1).1 hy).2.1 i hi).1,fun e=>by rw [e]⟩
theorem RZ{fl:ah}{x:ai}(h:x∈fl):∃a:Nat,a<fl.length/\gl fl a=x:=by
 obtain⟨a,ha,e⟩:=fV.1 h;exact⟨a,ha,by rw [cK ha,e]⟩
theorem sE{fl:ah}{a:Nat}(h:a<fl.length):gl fl a∈fl:=by rw [cK h];exact dH _
theorem nE.Bj(h:nE n R B el le φ)(hc:Hi (n+1) el le):wi n (aC n R B):=fun a b eG hb=>by
 obtain⟨o,ho,ja⟩:=h.g.bot;obtain⟨t,ht,qZ⟩:=h.g.top;have ha:a< (aC n R B).length:=by omega
 have mz:=fun(x:ai) (hx:x∈aC n R B)=>h.z ho (fun i a k=> (ja i a k).1) ht (fun i a k=> (qZ i a k).1) hx
 have hl:=hc _ _ (mz _ (sE ha)) (mz _ (sE hb));have key:∀y,jL el le 0 (n+1) (fun k=>mS o t n φ (gl (aC n R B) a) k=mS o t n φ (gl (aC n R B) b) k) (mS o t n φ (gl (aC n R B) a)) y->
  ∃c:Nat,c< (aC n R B).length/\fo n (aC n R B) (fun k=>gi (gl (aC n R B) a) k=gi (gl (aC n R B) b) k) a c/\∀i:Nat,i<n->mS o t n φ (gl (aC n R B) c) (i+1)=y (i+1):=by
  intro y hy
  induction hy with
  | same e=>exact⟨a,ha,.refl ha,fun i hi=>e (i+1) (bm _) (by omega)⟩
  | @step y y' p _ k1 k2 k3 k4 k5 k6 ih=>
   obtain⟨c,da,lF,Mv⟩:=ih;obtain⟨x,hx,Nx⟩:=h.x k2;obtain⟨c',pc,e'⟩:=RZ hx;have Uy:∀i:Nat,i<n->mS o t n φ (gl (aC n R B) c') (i+1)=y' (i+1):=fun i hi=>by rw [e',CE hi,Nx i hi]
   obtain⟨q,rfl⟩:∃q,p=q+1:=⟨p - 1,by omega⟩;have hq:q<n:=by omega
   refine⟨c',pc,.step lF hq (fun hs=>k5 ((h.agree (sE ha) (sE hb) hq).2 hs)) ⟨da,pc,fun k hk bt=>?_⟩,Uy⟩;rw [<-h.agree (o:=o) (t:=t) (sE da) (sE pc) hk,Mv k hk,Uy k hk];exact k6 (k+1) (bm _) (by omega) (by omega)
 obtain⟨c,da,lF,Mv⟩:=key _ hl;have:c=b:=vr da hb (u5 (n:=n) (o3 h.n1 da).1 (o3 h.n1 hb).1 fun i hi=> (h.agree (sE da) (sE hb) hi).1 (Mv i hi))
 rwa [this]at lF
theorem nE.ZQ(h:nE n R B el le φ)(hc:wi n (aC n R B)):Hi (n+1) el le:=fun z y hz hy=>by
 obtain⟨o,ho,ja⟩:=h.g.bot;obtain⟨t,ht,qZ⟩:=h.g.top;have mz:=fun(x:ai) (hx:x∈aC n R B)=>h.z ho (fun i a k=> (ja i a k).1) ht (fun i a k=> (qZ i a k).1) hx
 have all:∀w,ju el le 0 (n+1) w->∃a:Nat,a< (aC n R B).length/\∀k,0<=k->k<=n+1->mS o t n φ (gl (aC n R B) a) k=w k:=fun w hw=>by
  obtain⟨x,hx,Nx⟩:=h.x hw;obtain⟨a,ha,e⟩:=RZ hx;refine⟨a,ha,fun k _ hk=>?_⟩;cases k with
  | zero=>exact(show mS o t n φ _ 0=o from ay rfl).trans ((ja 0 _ (hw.1 0 (bB _) (by omega))).2 rfl).symm
  | succ k=>
   by_cases q:k<n
   ·rw [e,CE q];exact Nx k q
   ·obtain rfl:k=n:=by omega
    exact(show mS o t k φ _ (k+1)=t by unfold mS;rw [if_neg (by omega),if_neg (by omega)]).trans ((qZ _ _ (hw.1 (k+1) (Nat.zero_le _) (Nat.le_refl _))).2 O).symm
 obtain⟨a,ha,ea⟩:=all z hz;obtain⟨b,hb,eb⟩:=all y hy;have lF:fo n (aC n R B) (fun k=>gi (gl (aC n R B) a) k=gi (gl (aC n R B) b) k) a b:=by
  rcases Nat.lt_trichotomy a b with eG | eG | eG
  ·exact hc a b eG hb
  ·subst eG;exact .refl ha
  ·have:=(hc b a eG ha).symm;have e:(fun k:Nat=>gi (gl (aC n R B) b) k=gi (gl (aC n R B) a) k)=fun k:Nat=>gi (gl (aC n R B) a) k=gi (gl (aC n R B) b) k:=funext fun k=>propext eq_comm
   rwa [e]at this
 have key:∀c,fo n (aC n R B) (fun k=>gi (gl (aC n R B) a) k=gi (gl (aC n R B) b) k) a c->jL el le 0 (n+1) (fun k=>z k=y k) z (mS o t n φ (gl (aC n R B) c)):=by
  intro c hh
  induction hh with
  | refl _=>exact .same fun k k1 k2=> (ea k k1 k2).symm
  | @step c c' i h0 hi hS hA ih=>
   refine .step (i+1) ih (mz _ (sE hA.1)) (mz _ (sE hA.2.1)) (by omega) (by omega) (fun hs=>hS ?_) fun k _ k2 hk=>?_
   ·rw [<-h.agree (o:=o) (t:=t) (sE ha) (sE hb) hi,ea (i+1) (bm _) (by omega),eb (i+1) (bm _) (by omega)];exact hs
   ·cases k with
    | zero=>exact(show mS o t n φ _ 0=o from ay rfl).trans (show mS o t n φ _ 0=o from ay rfl).symm
    | succ k=>
     by_cases q:k<n
     ·exact(h.agree (sE hA.1) (sE hA.2.1) q).2 (hA.2.2 k q (by omega))
     ·unfold mS;rw [if_neg (by omega),if_neg (by omega),if_neg (by omega),if_neg (by omega)]
 exact(key b lF).eqv eb
end
def uk(m:Nat)(rk:Int->Int)(gx:Int->Int->Prop):Prop:=∀a b:Int,0<=a/\a<m->0<=b/\b<m->gx a b->rk a+1<rk b->∃c:Int,(0<=c/\c<m)/\gx a c/\gx c b/\rk c=rk a+1
def kA(m:Nat)(rk:Int->Int)(p:Nat)(a:Int):Prop:=(0<=a/\a<m)/\rk a+1=p
section
variable {m n:Nat} {rk:Int->Int} {gx:Int->Int->Prop}
theorem eY.Di(h:eY m n rk gx)(hb:uk m rk gx):iC (n+1) (kA m rk) gx where
 one:=fun ha hb=>by have:=ha.2;have:=hb.2;omega
 rf:=h.refl
 tr:=fun ha hb hc=>h.trans _ _ _ ha.1 hb.1 hc.1
 st:=fun {i j a b} ha hb eG=>by
  by_cases e:a=b
  ·exact .inl e
  have:=h.strict a b ha.1 hb.1 eG e;have:=ha.2;have:=hb.2;exact .inr (by omega)
 uA:=fun {i j a b} ha hc eG iJ=>by
  have h1:=ha.2;have h2:=hc.2;obtain⟨c,h3,h4,h5,h6⟩:=hb a b ha.1 hc.1 eG (by omega);exact⟨c,⟨h3,by omega⟩,h4,h5⟩
 oW:=fun ha=>by have:=(h.dp ha.1).2;have:=ha.2;omega
 bot:=⟨0,⟨⟨by omega,by have:=h.two;omega⟩,by rw [h.r0];rfl⟩,fun i a ha=> ⟨h.bot a,fun e=>h.zero ha.1 (by have:=ha.2;omega)⟩⟩
 top:=⟨(m:Int) - 1,⟨⟨by have:=h.two;omega,by omega⟩,by rw [h.rt];omega⟩,fun i a ha=> ⟨h.top a,fun e=>h.whole ha.1 (by have:=ha.2;omega)⟩⟩
end
section
variable {n:Nat} {R:ai} {B:ah}
theorem Wr(hP:gE n R B)(hb:uk (R.length+2) (gi (eS n R)) (dJ R.length B)):nE n R B (kA (R.length+2) (gi (eS n R))) (dJ R.length B) (fun e=>e+1) where
 n1:=by have:=hP.n1;omega
 g:=(GA hP).Di hb
 Cm:=fun e he i _ hi=> ⟨by omega,by rw [uE _ _ (by omega) (by omega),Int.add_sub_cancel,hi];omega⟩
 G8:=fun i a hi ha=>by
  have h1:=ha.1;have h2:=ha.2;have n0:a≠0:=fun e=>by subst e;have:gi (eS n R) 0= -1:=rfl;omega
  have n9:a≠(R.length:Int)+1:=fun e=>by subst e;rw [xK]at h2;omega
  rw [uE _ _ (by omega) (by omega)]at h2;exact⟨a - 1,by omega,by omega,by omega⟩
 inj:=fun d e _ _ h=>by have h:d+1=e+1:=h;omega
 inc:=fun d e hd he hr=>by
  show _↔dJ R.length B (d+1) (e+1);unfold dJ;rw [Int.add_sub_cancel,Int.add_sub_cancel];constructor
  ·intro h;exact .inr (.inr (.inr ⟨by omega,by omega,by omega,by omega,h⟩))
  rintro(h | h | h | h)
  ·have:d=e:=by omega
   subst this;omega
  ·omega
  ·omega
  exact h.2.2.2.2
theorem aiz(hP:gE n R B)(hb:uk (R.length+2) (gi (eS n R)) (dJ R.length B))(hc:wi n (aC n R B)):mZ (kA (R.length+2) (gi (eS n R))) (dJ R.length B):=
 aiA ((GA hP).Di hb) ((Wr hP hb).ZQ hc)
end
theorem RJ{M:ah}(hM:bg M){e:Int}(h0:0<=e)(h1:e< (aH M M.length:Int)):∃i:Nat,i<M.length/\∃f:Nat,f< (gl M 0).length/\e=bC M i f:=by
 obtain⟨i,hi,h2,h3⟩:=Lm h0 h1;have h3:e< ((aH M i+ (fA M i).toNat:Nat):Int):=h3;obtain⟨f,hf,e1⟩:=Bl hM i (e - (aH M i:Int)) (by omega) (by omega);refine⟨i,hi,f,hf,?_⟩;unfold bC;rw [e1];omega
theorem lA{M:ah}(hM:bg M){i f:Nat}(hi:i<M.length)(hf:f< (gl M 0).length):(0<=bC M i f/\bC M i f< (aH M M.length:Int))/\gi (bn M M.length) (bC M i f)=i:=by
 have h:=qq hM (i:=i) hf;have:=oI M (i:=i+1) (j:=M.length) hi;exact⟨by omega,E9 hi h.1 h.2⟩
theorem aa1{M:ah}(hM:bg M):uk ((bn M M.length).length+2) (gi (eS M.length (bn M M.length))) (dJ (bn M M.length).length (bE M)):=by
 have hl:=je M M.length;have h1:=hM.1;rw [hl];have el:∀(i f:Nat),i<M.length->f< (gl M 0).length->(0<=bC M i f+1/\bC M i f+1< ((aH M M.length+2:Nat):Int))/\gi (eS M.length (bn M M.length)) (bC M i f+1)=i:=fun i f hi hf=>by
  have h:=lA hM hi hf;exact⟨by omega,by rw [uE _ _ (by omega) (by omega),Int.add_sub_cancel];exact h.2⟩
 have gx:∀(k i f:Nat),k<i->i<M.length->f< (gl M 0).length->dJ (aH M M.length) (bE M) (bC M k f+1) (bC M i f+1):=fun k i f hk hi hf=>by
  have h:=lA hM hi hf;have h':=lA hM (show k<M.length by omega) hf;exact .inr (.inr (.inr ⟨by omega,by omega,by omega,by omega,by rw [Int.add_sub_cancel,Int.add_sub_cancel,ot h.1.1 h.1.2];exact⟨h'.1,f,hf,i,hi,k,hk,O,O⟩⟩))
 have cs:∀a:Int,0<=a->a< ((aH M M.length+2:Nat):Int)->a=0\/a=(aH M M.length:Int)+1\/∃i:Nat,i<M.length/\∃f:Nat,f< (gl M 0).length/\a=bC M i f+1:=fun a h0 h9=>by
  by_cases e0:a=0
  ·exact .inl e0
  by_cases e9:a=(aH M M.length:Int)+1
  ·exact .inr (.inl e9)
  obtain⟨i,hi,f,hf,e⟩:=RJ hM (e:=a - 1) (by omega) (by omega);exact .inr (.inr ⟨i,hi,f,hf,by omega⟩)
 have r0:gi (eS M.length (bn M M.length)) 0= -1:=O;have r9:gi (eS M.length (bn M M.length)) ((aH M M.length:Int)+1)=M.length:=by rw [<-hl];exact xK _ _
 intro a b ha hb eG hr;rcases cs a ha.1 ha.2 with rfl | rfl | ⟨i,hi,f,hf,rfl⟩
 ·rw [r0]at hr|-;rcases cs b hb.1 hb.2 with rfl | rfl | ⟨k,hk,g,hg,rfl⟩
  ·rw [r0]at hr;omega
  ·have hN:0< (gl M 0).length:=by have:=hM.2.1;omega
   exact⟨bC M 0 0+1,(el 0 0 (by omega) hN).1,.inr (.inl O),.inr (.inr (.inl O)),(el 0 0 (by omega) hN).2⟩
  rw [(el k g hk hg).2]at hr;exact⟨bC M 0 g+1,(el 0 g (by omega) hg).1,.inr (.inl O),gx 0 k g (by omega) hk hg,(el 0 g (by omega) hg).2⟩
 ·rw [r9]at hr;rcases cs b hb.1 hb.2 with rfl | rfl | ⟨k,hk,g,hg,rfl⟩
  ·rw [r0]at hr;omega
  ·rw [r9]at hr;omega
  rw [(el k g hk hg).2]at hr;omega
 rw [(el i f hi hf).2]at hr|-;rcases cs b hb.1 hb.2 with rfl | rfl | ⟨k,hk,g,hg,rfl⟩
 ·rw [r0]at hr;omega
 ·rw [r9]at hr;exact⟨bC M (i+1) f+1,(el (i+1) f (by omega) hf).1,gx i (i+1) f (by omega) (by omega) hf,.inr (.inr (.inl O)),by rw [(el (i+1) f (by omega) hf).2];omega⟩
 rw [(el k g hk hg).2]at hr;have hA:=lA hM hi hf;have hB:=lA hM hk hg;have hm:bC M i f∈gl (bE M) (bC M k g):=by
  rcases eG with h | h | h | h
  ·have:bC M i f=bC M k g:=by omega
   have e:=hA.2;rw [this,hB.2]at e;omega
  ·omega
  ·omega
  have:=h.2.2.2.2;rwa [Int.add_sub_cancel,Int.add_sub_cancel]at this
 rw [ot hB.1.1 hB.1.2]at hm;obtain⟨_,f',kS,i',dt,k',eM,e1,e2⟩:=hm;have Ii:=lA hM (show k'<M.length by omega) kS;have hB':=lA hM dt kS;have ei:i=k':=by have a:=hA.2;have b:=Ii.2;rw [e2]at a;omega
 have ek:k=i':=by have a:=hB.2;have b:=hB'.2;rw [e1]at a;omega
 subst ei;subst ek;rw [e1,e2];exact⟨bC M (i+1) f'+1,(el (i+1) f' (by omega) kS).1,gx i (i+1) f' (by omega) (by omega) kS,gx (i+1) k f' (by omega) hk kS,by rw [(el (i+1) f' (by omega) kS).2];omega⟩
section
variable{i:Nat}
variable {m1 m2 n1 n2:Nat} {rk1 rk2:Int->Int} {cO cL:Int->Int->Prop}
theorem Q4(h1:eY m1 n1 rk1 cO)(h2:eY m2 n2 rk2 cL){c:Int×Int}:HQ (kA m1 rk1) (kA m2 rk2) (i+1) c↔jJ m1 m2 rk1 rk2 0 i c:=by
 constructor
 ·rintro⟨p,q,a,b,e⟩;have h3:=a.2;have h4:=b.2;exact⟨a.1,b.1,by show rk1 c.1+rk2 c.2+1=_;omega,fun h=>by rcases h with h | h<;>omega⟩
 rintro⟨a,b,e,_⟩;have e:rk1 c.1+rk2 c.2+1=i:=e;have:=h1.dp a;have:=h2.dp b;exact⟨(rk1 c.1+1).toNat,(rk2 c.2+1).toNat,⟨a,by omega⟩,⟨b,by omega⟩,by omega⟩
theorem Q3(h1:eY m1 n1 rk1 cO)(h2:eY m2 n2 rk2 cL){c:Int×Int}:vn (kA m1 rk1) (kA m2 rk2) (i+1) c↔jJ m1 m2 rk1 rk2 1 i c:=by
 constructor
 ·rintro(⟨e,_⟩ | ⟨p,q,hp,hq,a,b,e⟩)
  ·omega
  have h3:=a.2;have h4:=b.2;refine⟨a.1,b.1,by show rk1 c.1+rk2 c.2+0=_;omega,fun h=>?_⟩;rcases h with⟨_,h | h⟩ | h
  ·rw [h,h1.r0]at h3;omega
  ·rw [h,h2.r0]at h4;omega
  omega
 rintro⟨a,b,e,hx⟩;have e:rk1 c.1+rk2 c.2+0=i:=e;have k1:=h1.dp a;have k2:=h2.dp b;have n1:rk1 c.1≠ -1:=fun h=>hx (.inl ⟨O,.inl (h1.zero a h)⟩)
 have n2:rk2 c.2≠ -1:=fun h=>hx (.inl ⟨O,.inr (h2.zero b h)⟩)
 exact .inr ⟨(rk1 c.1+1).toNat,(rk2 c.2+1).toNat,by omega,by omega,⟨a,by omega⟩,⟨b,by omega⟩,by omega⟩
def zu(N1 N2:Nat){α β:Type}(dM:Nat->α->Prop)(dN:Nat->β->Prop):Nat->α×β->Prop:=Dg (N1+N2 - 1) (vn (Dg N1 dM) (Dg N2 dN))
theorem Q5(h1:eY m1 n1 rk1 cO)(h2:eY m2 n2 rk2 cL)(hi:i<n1+n2){c:Int×Int}:zu (n1+1) (n2+1) (kA m1 rk1) (kA m2 rk2) (i+1) c↔jJ m1 m2 rk1 rk2 2 i c:=by
 constructor
 ·rintro⟨hN,⟨e,_⟩ | ⟨p,q,hp,hq,⟨nm,a⟩,⟨wU,b⟩,e⟩⟩
  ·omega
  have h3:=a.2;have h4:=b.2;refine⟨a.1,b.1,by show rk1 c.1+rk2 c.2+1=_;omega,fun h=>?_⟩;rcases h with h | ⟨_,h | h⟩
  ·omega
  ·rw [h,h1.rt]at h3;omega
  rw [h,h2.rt]at h4;omega
 rintro⟨a,b,e,hx⟩;have e:rk1 c.1+rk2 c.2+1=i:=e;have k1:=h1.dp a;have k2:=h2.dp b;have x1:rk1 c.1≠n1:=fun h=>hx (.inr ⟨O,.inl (h1.whole a h)⟩)
 have x2:rk2 c.2≠n2:=fun h=>hx (.inr ⟨O,.inr (h2.whole b h)⟩)
 refine⟨by omega,.inr ⟨n1+1 - (rk1 c.1+1).toNat,n2+1 - (rk2 c.2+1).toNat,by omega,by omega,⟨by omega,a,?_⟩,⟨by omega,b,?_⟩,by omega⟩⟩
 ·rw [show n1+1 - (n1+1 - (rk1 c.1+1).toNat)=(rk1 c.1+1).toNat by omega];omega
 rw [show n2+1 - (n2+1 - (rk2 c.2+1).toNat)=(rk2 c.2+1).toNat by omega];omega
variable [DecidableRel cO] [DecidableRel cL] {kind:Int}
theorem Eg(h1:eY m1 n1 rk1 cO)(h2:eY m2 n2 rk2 cL){k:Nat}(hk:1<=k){el:Nat->Int×Int->Prop}{le:Int×Int->Int×Int->Prop}(g:iC (k+1) el le)(kj:∀i:Nat,i<k->∀c:Int×Int,el (i+1) c↔jJ m1 m2 rk1 rk2 kind i c)(hle:∀c d:Int×Int,le c d↔cO c.1 d.1/\cL c.2 d.2):
 nE k ((cg m1 m2 rk1 rk2 kind k).map (cS rk1 rk2 kind)) (oJ cO cL (cg m1 m2 rk1 rk2 kind k)) el le (gp (cg m1 m2 rk1 rk2 kind k)):=by
 have hl:((cg m1 m2 rk1 rk2 kind k).map (cS rk1 rk2 kind)).length=(cg m1 m2 rk1 rk2 kind k).length:=by simp
 refine⟨hk,g,fun e he i hi hr=>?_,fun i a hi ha=>?_,fun d e hd he h=>?_,fun d e hd he hr=>?_⟩
 ·rw [hl]at he;obtain⟨j,hj,hE,hJ⟩:=wG he;have:i=j:=by omega
  subst this;exact(kj i hi _).2 hE
 ·obtain⟨e,he,h⟩:=K6 hi ((kj i hi a).1 ha);refine⟨e,by rw [hl];exact he,?_,h⟩;obtain⟨j,hj,hE,hJ⟩:=wG he;rw [hJ];rw [h]at hE;have h3:=((kj i hi a).1 ha).2.2.1;have h4:=hE.2.2.1;omega
 ·rw [hl]at hd he;exact Ia hd he h
 rw [hl]at hd he;rw [u9 he.1 he.2,tZ h1 h2 he,hle];exact⟨fun h=>h.2.2,fun h=> ⟨hd,fun e=>by rw [e]at hr;omega,h⟩⟩
theorem ahz(h1:eY m1 n1 rk1 cO)(h2:eY m2 n2 rk2 cL)(b1:uk m1 rk1 cO)(b2:uk m2 rk2 cL)(s1:mZ (kA m1 rk1) cO)(s2:mZ (kA m2 rk2) cL)(nj:0<=kind/\kind<=2){k:Nat}(hk:(k:Int)=fT n1 n2 kind)(fv:1<=k):
 ∃(el:Nat->Int×Int->Prop) (le:Int×Int->Int×Int->Prop),nE k ((cg m1 m2 rk1 rk2 kind k).map (cS rk1 rk2 kind)) (oJ cO cL (cg m1 m2 rk1 rk2 kind k)) el le (gp (cg m1 m2 rk1 rk2 kind k))/\mZ el le:=by
 have g1:=h1.Di b1;have g2:=h2.Di b2;rcases(show kind=0\/kind=1\/kind=2 by omega)with rfl | rfl | rfl
 ·have e:(k:Int)=n1+n2+1:=hk;have g:=UQ g1 g2;rw [show n1+1+ (n2+1)=k+1 by omega]at g;exact⟨_,_,Eg h1 h2 fv g (fun i _ c=>Q4 h1 h2) (fun c d=>Iff.rfl),ae3 g1 g2 s1 s2⟩
 ·have e:(k:Int)=n1+n2:=hk;have g:=HG g1 g2 (by omega) (by omega);rw [show n1+1+ (n2+1) - 1=k+1 by omega]at g;exact⟨_,_,Eg h1 h2 fv g (fun i _ c=>Q3 h1 h2) (fun c d=>Iff.rfl),QC g1 g2 s1 s2⟩
 have e:(k:Int)=n1+n2:=hk;have g0:=HG g1.uD g2.uD (by omega) (by omega);have g:=g0.uD;have c0:=(QC g1.uD g2.uD (s1.uD g1) (s2.uD g2)).uD g0;have hg:iC (k+1) (zu (n1+1) (n2+1) (kA m1 rk1) (kA m2 rk2)) (D5 (oF (D5 cO) (D5 cL))):=by
  have:=g;rw [show n1+1+ (n2+1) - 1=k+1 by omega]at this;unfold zu;rw [show n1+1+ (n2+1) - 1=k+1 by omega];exact this
 exact⟨_,_,Eg h1 h2 fv hg (fun i hi c=>Q5 h1 h2 (by omega)) (fun c d=>Iff.rfl),c0⟩
theorem We(h1:eY m1 n1 rk1 cO)(h2:eY m2 n2 rk2 cL)(b1:uk m1 rk1 cO)(b2:uk m2 rk2 cL)(s1:mZ (kA m1 rk1) cO)(s2:mZ (kA m2 rk2) cL)(d1:wk m1 rk1 cO)(d2:wk m2 rk2 cL)(c1:CL m1 n1 rk1 cO)(c2:CL m2 n2 rk2 cL)(nj:0<=kind/\kind<=2){k:Nat}(hk:(k:Int)=fT n1 n2 kind)(gW:2<=k)(yj:1<=(n1:Int)/\(1<=(n2:Int)\/kind=0)):zl k ((cg m1 m2 rk1 rk2 kind k).map (cS rk1 rk2 kind)) (oJ cO cL (cg m1 m2 rk1 rk2 kind k)):=by
 obtain⟨el,le,hr,hs⟩:=ahz h1 h2 b1 b2 s1 s2 nj hk (by omega);refine⟨Ot h1 h2 c1 c2 nj hk (by omega) yj,hr.pure fun e h0 h9=>?_,Oq h1 h2 d1 d2 nj hk gW yj,hr.Bj (ZR hr.g hs)⟩;rw [fj]at h9;obtain⟨i,hi,_,e⟩:=wG ⟨h0,h9⟩;rw [e];omega
end
def kP:Nat->Nat->Nat
 | 0,_=>1
 | _+1,0=>1
 | r+1,s+1=>kP r (s+1)+kP (r+1) s
theorem Hy(s:Nat):kP 0 s=1:=by rw [kP]
theorem KG(r:Nat):kP r 0=1:=by cases r<;>rw [kP]
theorem Qu(r s:Nat):kP (r+1) (s+1)=kP r (s+1)+kP (r+1) s:=by rw [kP]
section
variable{R:ai}
variable {α:Type}
def cU(U:α->List α):Nat->α->Nat
 | 0,_=>1
 | r+1,a=> ((U a).map (cU U r)).sum
structure mT(el:Nat->α->Prop)(le:α->α->Prop)(U:α->List α):Prop where
 nd:∀ {p:Nat} {a:α},el p a->(U a).Nodup
 mem:∀ {p:Nat} {a b:α},el p a->(b∈U a↔el (p+1) b/\le a b)
theorem G7{l m:List Nat}(h:l.Perm m):l.sum=m.sum:=by
 induction h with
 | nil=>rfl
 | cons x _ ih=>simp [ih]
 | swap x y l=>simp [Nat.add_left_comm]
 | trans _ _ h1 h2=>exact h1.trans h2
theorem GN{l m:List α}(hl:l.Nodup)(hm:m.Nodup)(h:∀x,x∈l↔x∈m):l.Perm m:=(rE hl hm).2 h
theorem Es{l:List α}{f g:α->Nat}(h:∀x∈l,f x=g x):(l.map f).sum=(l.map g).sum:=by rw [pB h]
theorem OW(l:List α)(f:α->Nat)(k:Nat):(l.map fun x=>f x*k).sum=(l.map f).sum*k:=by
 induction l with
 | nil=>simp
 | cons x l ih=>simp only [List.map_cons,List.sum_cons,ih,Nat.add_mul]
theorem Cn{β:Type}{l:List α}{f:α->β}(hn:l.Nodup)(h:∀x∈l,∀y∈l,f x=f y->x=y):(l.map f).Nodup:=by
 induction l with
 | nil=>simp
 | cons x l ih=>
  rw [oS]at hn;rw [List.map_cons,oS];refine⟨fun hm=>?_,ih hn.2 fun a ha b hb=>h a (pC _ ha) b (pC _ hb)⟩;obtain⟨y,hy,e⟩:=dv.1 hm;have:=h y (pC _ hy) x (List.mem_cons_self ..) e;subst this;exact hn.1 hy
theorem nE.ext{n:Nat}{B:ah}{el:Nat->α->Prop}{le:α->α->Prop}{φ:Int->α}(h:nE n R B el le φ){U:α->List α}(hU:mT el le U):
 ∀(r:Nat) (e:Int) (i:Nat),0<=e/\e<R.length->gi R e=i->i+r<n->(oo R B r e).length=cU U r (φ e):=by
 intro r
 induction r with
 | zero=>intro e i _ _ _;rfl
 | succ r ih=>
  intro e i he hr hi;have kj:=h.Cm e he i (by omega) hr;have hp:((lj R B e).map φ).Perm (U (φ e)):=by
   refine GN (Cn (Ew R B e).nodup fun x hx y hy=>h.inj x y (nz.1 hx).1 (nz.1 hy).1) (hU.nd kj) fun b=>?_
   rw [dv,hU.mem kj];constructor
   ·rintro⟨f,hf,rfl⟩;have hf:=nz.1 hf;refine⟨h.Cm f hf.1 (i+1) (by omega) (by omega),(h.inc e f he hf.1 hf.2.1).1 hf.2.2⟩
   ·rintro⟨h1,h2⟩;obtain⟨f,hf,k1,k2⟩:=h.G8 (i+1) b (by omega) h1;subst k2;exact⟨f,nz.2 ⟨hf,by omega,(h.inc e f he hf (by omega)).2 h2⟩,O⟩
  show((lj R B e).flatMap fun f=> (oo R B r f).map (f:: ·)).length=((U (φ e)).map (cU U r)).sum;rw [List.length_flatMap,<-G7 (hp.map (cU U r)),List.map_map];refine Es fun f hf=>?_
  have hf:=nz.1 hf;rw [fj,ih f (i+1) hf.1 (by omega) (by omega)]
  rfl
theorem nE.flags{n:Nat}{B:ah}{el:Nat->α->Prop}{le:α->α->Prop}{φ:Int->α}(h:nE n R B el le φ){U:α->List α}(hU:mT el le U){o:α}(ho:el 0 o)(ja:∀(i:Nat) (a:α),el i a->le o a):(aC n R B).length=cU U n o:=by
 have hn:=h.n1;obtain⟨k,rfl⟩:∃k,n=k+1:=⟨n - 1,by omega⟩;have hp:((vh R).map φ).Perm (U o):=by
  refine GN (Cn ((lh _).nodup.filter _) fun x hx y hy=>h.inj x y (uz.1 hx).1 (uz.1 hy).1) (hU.nd ho) fun b=>?_
  rw [dv,hU.mem ho];constructor
  ·rintro⟨f,hf,rfl⟩;have hf:=uz.1 hf;have:=h.Cm f hf.1 0 (by omega) (by omega);exact⟨this,ja _ _ this⟩
  rintro⟨h1,h2⟩;obtain⟨f,hf,k1,k2⟩:=h.G8 0 b (by omega) h1;exact⟨f,uz.2 ⟨hf,by omega⟩,k2⟩
 show((vh R).flatMap fun e=> (oo R B (k+1 - 1) e).map (e:: ·)).length=((U o).map (cU U k)).sum;rw [List.length_flatMap,<-G7 (hp.map (cU U k)),List.map_map];refine Es fun f hf=>?_
 have hf:=uz.1 hf;rw [fj,h.ext hU _ f 0 hf.1 (by omega) (by omega)]
 rfl
open Classical in
theorem nE.en{n:Nat}{B:ah}{el:Nat->α->Prop}{le:α->α->Prop}{φ:Int->α}(h:nE n R B el le φ)(hr:∀e:Int,0<=e->e<R.length->gi R e<n):∃U,mT el le U:=by
 obtain⟨t,ht,qZ⟩:=h.g.top;have hL:∀(a:α) (e:Int),e∈(bN R.length).filter (fun e=>decide (∃p:Nat,el p a/\gi R e=(p:Int)/\le a (φ e)))↔(0<=e/\e<R.length)/\∃p:Nat,el p a/\gi R e=(p:Int)/\le a (φ e):=fun a e=>by
  rw [fU,fM,kz]
 refine⟨fun a=> ((bN R.length).filter (fun e=>decide (∃p:Nat,el p a/\gi R e=(p:Int)/\le a (φ e)))).map φ++ (if el n a then [t]else []),fun {p a} ha=>?_,fun {p a b} ha=>?_⟩
 ·rw [List.nodup_append];refine⟨Cn ((lh _).nodup.filter _) fun x hx y hy=>h.inj x y ((hL a x).1 hx).1 ((hL a y).1 hy).1,by split<;>simp,fun x hx y hy=>?_⟩
  split at hy
  ·rename_i hn;obtain⟨e,he,rfl⟩:=dv.1 hx;obtain⟨he,q,hq,T3,_⟩:=(hL a e).1 he;have:=h.g.one hq hn;have:=hr e he.1 he.2;omega
  cases hy
 rw [iR,dv];constructor
 ·rintro(⟨e,he,rfl⟩ | hb)
  ·obtain⟨he,q,hq,T3,hle⟩:=(hL a e).1 he;have e2:=h.g.one hq ha;have:=hr e he.1 he.2;exact⟨e2▸h.Cm e he q (by omega) T3,hle⟩
  split at hb
  ·rename_i hn;have e2:=h.g.one hn ha;have:b=t:=by simpa using hb
   subst this;exact⟨e2▸ht,(qZ _ _ ha).1⟩
  cases hb
 rintro⟨hb,hle⟩
 by_cases hp:p<n
 ·obtain⟨e,he,k1,k2⟩:=h.G8 p b hp hb;exact .inl ⟨e,(hL a e).2 ⟨he,p,ha,k1,by rw [k2];exact hle⟩,k2⟩
 have uP:=h.g.oW hb;obtain rfl:p=n:=by omega
 refine .inr ?_;rw [ay ha,(qZ _ _ hb).2 rfl];exact fm.2 O
theorem C5{N:Nat}{el:Nat->α->Prop}{le:α->α->Prop}(g:iC (N+1) el le){U:α->List α}(hU:mT el le U):∀(r p:Nat) (a:α),el p a->p+r=N->cU U (r+1) a=cU U r a:=by
 intro r
 induction r with
 | zero=>
  intro p a ha hp;obtain⟨t,ht,qZ⟩:=g.top;obtain rfl:p=N:=by omega
  have:(U a).Perm [t]:=GN (hU.nd ha) (by simp) fun b=>by
   rw [hU.mem ha,fm];exact⟨fun h=> (qZ _ _ h.1).2 rfl,fun h=>by subst h;exact⟨ht,(qZ _ _ ha).1⟩⟩
  show((U a).map (cU U 0)).sum=1;rw [G7 (this.map _)];rfl
 | succ r ih=>
  intro p a ha hp;show((U a).map (cU U (r+1))).sum=((U a).map (cU U r)).sum;exact Es fun b hb=>ih (p+1) b ((hU.mem ha).1 hb).1 (by omega)
end
section
variable {α β:Type} {N1 N2:Nat} {dM:Nat->α->Prop} {eT:α->α->Prop} {dN:Nat->β->Prop} {eU:β->β->Prop} {U1:α->List α} {U2:β->List β} {U:α×β->List (α×β)}
theorem KP(h1:mT dM eT U1)(h2:mT dN eU U2){K1 K2 s:Nat}
 (hU:∀(p q r1 r2:Nat) (a:α) (b:β),s<=p->s<=q->dM p a->dN q b->p+r1=K1->q+r2=K2->1<=r1+r2->(U (a,b)).Perm ((if r1=0 then []else(U1 a).map fun x=> (x,b))++ (if r2=0 then []else(U2 b).map fun y=> (a,y)))):
 ∀(d r1 r2 p q:Nat) (a:α) (b:β),r1+r2=d->s<=p->s<=q->dM p a->dN q b->p+r1=K1->q+r2=K2->cU U d (a,b)=cU U1 r1 a*cU U2 r2 b*kP r1 r2:=by
 intro d
 induction d with
 | zero=>
  intro r1 r2 p q a b hd _ _ _ _ _ _;obtain rfl:r1=0:=by omega
  obtain rfl:r2=0:=by omega
  rw [Hy];rfl
 | succ d ih=>
  intro r1 r2 p q a b hd hp hq ha hb e1 e2;show((U (a,b)).map (cU U d)).sum=_;rw [G7 ((hU p q r1 r2 a b hp hq ha hb e1 e2 (by omega)).map (cU U d)),jm,List.sum_append];have k1:∀r,r1=r+1->(((U1 a).map fun x=> (x,b)).map (cU U d)).sum=cU U1 r1 a*cU U2 r2 b*kP r r2:=fun r hr=>by
   subst hr;rw [List.map_map];have:((U1 a).map (cU U d∘fun x=> (x,b))).sum=((U1 a).map fun x=>cU U1 r x* (cU U2 r2 b*kP r r2)).sum:=Es fun x hx=>by
    show cU U d (x,b)=_;rw [ih r r2 (p+1) q x b (by omega) (by omega) hq ((h1.mem ha).1 hx).1 hb (by omega) e2,Nat.mul_assoc]
   rw [this,OW,<-Nat.mul_assoc];rfl
  have k2:∀r,r2=r+1->(((U2 b).map fun y=> (a,y)).map (cU U d)).sum=cU U1 r1 a*cU U2 r2 b*kP r1 r:=fun r hr=>by
   subst hr;rw [List.map_map];have:((U2 b).map (cU U d∘fun y=> (a,y))).sum=((U2 b).map fun y=>cU U2 r y* (cU U1 r1 a*kP r1 r)).sum:=Es fun y hy=>by
    show cU U d (a,y)=_;rw [ih r1 r p (q+1) a y (by omega) hp (by omega) ha ((h2.mem hb).1 hy).1 e1 (by omega),Nat.mul_assoc,Nat.mul_left_comm]
   rw [this,OW];show cU U2 (r+1) b* (cU U1 r1 a*kP r1 r)=_;rw [Nat.mul_left_comm,<-Nat.mul_assoc]
  cases r1 with
  | zero=>
   cases r2 with
   | zero=>omega
   | succ r2=>
    rw [ay rfl,aw (by omega),k2 r2 rfl,Hy,Hy];simp
  | succ r1=>
   cases r2 with
   | zero=>rw [aw (by omega),ay rfl,k1 r1 rfl,KG,KG];simp
   | succ r2=>
    rw [aw (by omega),aw (by omega),k1 r1 rfl,k2 r2 rfl,<-Nat.mul_add,Qu]
theorem stepG(g1:iC N1 dM eT)(g2:iC N2 dN eU)(h1:mT dM eT U1)(h2:mT dN eU U2){el:Nat->α×β->Prop}(hU:mT el (oF eT eU) U){K1 K2 m p q r1 r2:Nat}{a:α}{b:β}(hm:el m (a,b))(ha:dM p a)(hb:dN q b)(kj:∀c:α×β,oF eT eU (a,b) c->(el (m+1) c↔∃i j,i<=K1/\j<=K2/\dM i c.1/\dN j c.2/\i+j=p+q+1))(e1:p+r1=K1)(e2:q+r2=K2):(U (a,b)).Perm ((if r1=0 then []else(U1 a).map fun x=> (x,b))++ (if r2=0 then []else(U2 b).map fun y=> (a,y))):=by
 have m1:∀c:α×β,(c∈if r1=0 then([]:List (α×β))else(U1 a).map fun x=> (x,b))↔r1≠0/\(dM (p+1) c.1/\eT a c.1)/\c.2=b:=fun c=>by
  split
  ·simp_all
  rw [dv];constructor
  ·rintro⟨x,hx,rfl⟩;exact⟨by assumption,(h1.mem ha).1 hx,rfl⟩
  rintro⟨_,hx,e⟩;exact⟨c.1,(h1.mem ha).2 hx,by rw [<-e]⟩
 have m2:∀c:α×β,(c∈if r2=0 then([]:List (α×β))else(U2 b).map fun y=> (a,y))↔r2≠0/\(dN (q+1) c.2/\eU b c.2)/\c.1=a:=fun c=>by
  split
  ·simp_all
  rw [dv];constructor
  ·rintro⟨x,hx,rfl⟩;exact⟨by assumption,(h2.mem hb).1 hx,rfl⟩
  rintro⟨_,hx,e⟩;exact⟨c.2,(h2.mem hb).2 hx,by rw [<-e]⟩
 refine GN (hU.nd hm) ?_ fun c=>?_
 ·rw [List.nodup_append];refine⟨?_,?_,fun x hx y hy e=>?_⟩
  ·split
   ·simp
   exact Cn (h1.nd ha) fun x _ y _ e=> (Prod.mk.inj e).1
  ·split
   ·simp
   exact Cn (h2.nd hb) fun x _ y _ e=> (Prod.mk.inj e).2
  subst e;have hx:=(m1 x).1 hx;have hy:=(m2 x).1 hy;have:=hx.2.1.1;rw [hy.2.2]at this;have:=g1.one this ha;omega
 rw [hU.mem hm,iR,m1,m2];constructor
 ·rintro⟨hc,hle⟩;obtain⟨i,j,hi,hj,k1,k2,k3⟩:=(kj c hle).1 hc;have l1:=g1.lv ha k1 hle.1;have l2:=g2.lv hb k2 hle.2
  by_cases e:i=p
  ·subst e;obtain rfl:j=q+1:=by omega
   exact .inr ⟨by omega,⟨k2,hle.2⟩,(l1.2 O).symm⟩
  obtain rfl:i=p+1:=by omega
  obtain rfl:j=q:=by omega
  exact .inl ⟨by omega,⟨k1,hle.1⟩,(l2.2 O).symm⟩
 rintro(⟨k0,⟨k1,k2⟩,k3⟩ | ⟨k0,⟨k1,k2⟩,k3⟩)
 ·have hle:oF eT eU (a,b) c:=⟨k2,by rw [k3];exact g2.rf _⟩;exact⟨(kj c hle).2 ⟨p+1,q,by omega,by omega,k1,by rw [k3];exact hb,by omega⟩,hle⟩
 have hle:oF eT eU (a,b) c:=⟨by rw [k3];exact g1.rf _,k2⟩;exact⟨(kj c hle).2 ⟨p,q+1,by omega,by omega,by rw [k3];exact ha,k1,by omega⟩,hle⟩
end
section
variable {α β:Type} {n1 n2:Nat} {dM:Nat->α->Prop} {eT:α->α->Prop} {dN:Nat->β->Prop} {eU:β->β->Prop} {U1:α->List α} {U2:β->List β} {U:α×β->List (α×β)}
theorem K5{p:Nat}(hp:p<=n1+n2){c:α×β}:zu (n1+1) (n2+1) dM dN p c↔∃i j,i<=n1/\j<=n2/\dM i c.1/\dN j c.2/\i+j=p:=by
 constructor
 ·rintro⟨hN,⟨e,_⟩ | ⟨i,j,hi,hj,⟨dt,a⟩,⟨ll,b⟩,e⟩⟩
  ·omega
  exact⟨n1+1 - i,n2+1 - j,by omega,by omega,a,b,by omega⟩
 rintro⟨i,j,hi,hj,a,b,e⟩;exact⟨by omega,.inr ⟨n1+1 - i,n2+1 - j,by omega,by omega,⟨by omega,by rw [show n1+1 - (n1+1 - i)=i by omega];exact a⟩,⟨by omega,by rw [show n2+1 - (n2+1 - j)=j by omega];exact b⟩,by omega⟩⟩
theorem ZL(g1:iC (n1+1) dM eT)(g2:iC (n2+1) dN eU)(h1:mT dM eT U1)(h2:mT dN eU U2)(hU:mT (HQ dM dN) (oF eT eU) U){o1:α}{o2:β}(k1:dM 0 o1)(k2:dN 0 o2):
 cU U (n1+1+ (n2+1)) (o1,o2)=cU U1 n1 o1*cU U2 n2 o2*kP (n1+1) (n2+1):=by
 rw [KP h1 h2 (K1:=n1+1) (K2:=n2+1) (s:=0) (fun p q r1 r2 a b _ _ ha hb e1 e2 _=>stepG g1 g2 h1 h2 hU (m:=p+q) ⟨p,q,ha,hb,rfl⟩ ha hb (fun c _=>?_) e1 e2) _ (n1+1) (n2+1) 0 0 o1 o2 rfl (bm _) (bm _) k1 k2 (by omega) (by omega),C5 g1 h1 n1 0 o1 k1 (by omega),C5 g2 h2 n2 0 o2 k2 (by omega)];constructor
 ·rintro⟨i,j,a,b,e⟩;exact⟨i,j,g1.oW a,g2.oW b,a,b,e.symm⟩
 rintro⟨i,j,_,_,a,b,e⟩;exact⟨i,j,a,b,e.symm⟩
theorem ZI(g1:iC (n1+1) dM eT)(g2:iC (n2+1) dN eU)(h1:mT dM eT U1)(h2:mT dN eU U2)(hU:mT (vn dM dN) (oF eT eU) U){o1:α}{o2:β}(k1:dM 0 o1)(k2:dN 0 o2)(b1:∀(i:Nat) (a:α),dM i a->eT o1 a)(b2:∀(i:Nat) (a:β),dN i a->eU o2 a):
 cU U (n1+n2+1) (o1,o2)=cU U1 n1 o1*cU U2 n2 o2*kP n1 n2:=by
 have h0:vn dM dN 0 (o1,o2):= .inl ⟨O,k1,k2⟩;have hp:(U (o1,o2)).Perm ((U1 o1).flatMap fun v=> (U2 o2).map fun w=> (v,w)):=by
  refine GN (hU.nd h0) ?_ fun c=>?_
  ·have:∀l:List α,l.Nodup->(l.flatMap fun v=> (U2 o2).map fun w=> (v,w)).Nodup:=fun l=>by
    induction l with
    | nil=>intro _;simp
    | cons x l ih=>
     intro hn;rw [oS]at hn;rw [List.flatMap_cons,List.nodup_append];refine⟨Cn (h2.nd k2) fun x _ y _ e=> (Prod.mk.inj e).2,ih hn.2,fun a ha b hb e=>?_⟩;subst e;obtain⟨w,_,rfl⟩:=dv.1 ha;obtain⟨v,hv,hb⟩:=List.mem_flatMap.1 hb;obtain⟨w',_,e⟩:=dv.1 hb;have:=(Prod.mk.inj e).1;subst this;exact hn.1 hv
   exact this _ (h1.nd k1)
  ·rw [hU.mem h0,List.mem_flatMap];constructor
   ·rintro⟨⟨e,_⟩ | ⟨i,j,hi,hj,a,b,e⟩,hle⟩
    ·omega
    ·obtain rfl:i=1:=by omega
     obtain rfl:j=1:=by omega
     exact⟨c.1,(h1.mem k1).2 ⟨a,hle.1⟩,dv.2 ⟨c.2,(h2.mem k2).2 ⟨b,hle.2⟩,O⟩⟩
   ·rintro⟨v,hv,hvw⟩;obtain⟨w,Jj,rfl⟩:=dv.1 hvw;have hv:=(h1.mem k1).1 hv;have hw:=(h2.mem k2).1 Jj;exact⟨.inr ⟨1,1,by omega,by omega,hv.1,hw.1,O⟩,⟨hv.2,hw.2⟩⟩
 have key:∀v∈U1 o1,∀w∈U2 o2,cU U (n1+n2) (v,w)=cU U1 n1 v*cU U2 n2 w*kP n1 n2:=fun v hv w hw=>by
  have hv:=((h1.mem k1).1 hv).1;have hw:=((h2.mem k2).1 hw).1;refine KP h1 h2 (K1:=n1+1) (K2:=n2+1) (s:=1) (fun p q r1 r2 a b hp hq ha hb e1 e2 _=>stepG g1 g2 h1 h2 hU (m:=p+q - 1) (.inr ⟨p,q,hp,hq,ha,hb,by omega⟩) ha hb (fun c hc=>?_) e1 e2) _ n1 n2 1 1 v w O (bB _) (bB _) hv hw (by omega) (by omega);constructor
  ·rintro(⟨e,_⟩ | ⟨i,j,hi,hj,a,b,e⟩)
   ·omega
   ·exact⟨i,j,g1.oW a,g2.oW b,a,b,by omega⟩
  ·rintro⟨i,j,_,_,a,b,e⟩;have:=(g1.lv ha a hc.1).1;have:=(g2.lv hb b hc.2).1;exact .inr ⟨i,j,by omega,by omega,a,b,by omega⟩
 show((U (o1,o2)).map (cU U (n1+n2))).sum=_;rw [G7 (hp.map _),List.map_flatMap];have fl:∀l:List α,(∀v∈l,v∈U1 o1)->(l.flatMap fun v=> ((U2 o2).map fun w=> (v,w)).map (cU U (n1+n2))).sum=(l.map (cU U1 n1)).sum*cU U2 (n2+1) o2*kP n1 n2:=fun l=>by
  induction l with
  | nil=>intro _;simp
  | cons v l ih=>
   intro hl;rw [List.flatMap_cons,List.sum_append,ih fun x hx=>hl x (pC _ hx),List.map_map,List.map_cons,List.sum_cons];have:((U2 o2).map (cU U (n1+n2)∘fun w=> (v,w))).sum=((U2 o2).map fun w=>cU U2 n2 w* (cU U1 n1 v*kP n1 n2)).sum:=Es fun w hw=>by
    show cU U (n1+n2) (v,w)=_;rw [key v (hl v (List.mem_cons_self ..)) w hw,Nat.mul_comm (cU U1 n1 v),Nat.mul_assoc]
   rw [this,OW];show cU U2 (n2+1) o2*_+_=_;rw [Nat.add_mul,Nat.add_mul,Nat.mul_comm (cU U1 n1 v) (cU U2 (n2+1) o2),Nat.mul_assoc (cU U2 (n2+1) o2)]
 rw [fl _ fun v h=>h];show cU U1 (n1+1) o1*cU U2 (n2+1) o2*kP n1 n2=_;rw [C5 g1 h1 n1 0 o1 k1 (by omega),C5 g2 h2 n2 0 o2 k2 (by omega)]
theorem ZM(g1:iC (n1+1) dM eT)(g2:iC (n2+1) dN eU)(h1:mT dM eT U1)(h2:mT dN eU U2)(hU:mT (zu (n1+1) (n2+1) dM dN) (oF eT eU) U){o1:α}{o2:β}(k1:dM 0 o1)(k2:dN 0 o2):
 cU U (n1+n2) (o1,o2)=cU U1 n1 o1*cU U2 n2 o2*kP n1 n2:=by
 refine KP h1 h2 (K1:=n1) (K2:=n2) (s:=0) (fun p q r1 r2 a b _ _ ha hb e1 e2 _=>stepG g1 g2 h1 h2 hU (m:=p+q) ((K5 (by omega)).2 ⟨p,q,by omega,by omega,ha,hb,O⟩) ha hb (fun c _=>?_) e1 e2) _ n1 n2 0 0 o1 o2 O (bm _) (bm _) k1 k2 (by omega) (by omega);exact K5 (by omega)
end
section
variable {m1 m2 n1 n2:Nat} {rk1 rk2:Int->Int} {cO cL:Int->Int->Prop} [DecidableRel cO] [DecidableRel cL] {kind:Int} {U1 U2:Int->ai}
theorem Wd(h1:eY m1 n1 rk1 cO)(h2:eY m2 n2 rk2 cL)(b1:uk m1 rk1 cO)(b2:uk m2 rk2 cL)(e1:mT (kA m1 rk1) cO U1)(e2:mT (kA m2 rk2) cL U2)(nj:0<=kind/\kind<=2){k:Nat}(hk:(k:Int)=fT n1 n2 kind)(fv:1<=k):(aC k ((cg m1 m2 rk1 rk2 kind k).map (cS rk1 rk2 kind)) (oJ cO cL (cg m1 m2 rk1 rk2 kind k))).length=cU U1 n1 0*cU U2 n2 0* (if kind=0 then kP (n1+1) (n2+1)else kP n1 n2):=by
 have g1:=h1.Di b1;have g2:=h2.Di b2;have o1:kA m1 rk1 0 0:=⟨⟨by omega,by have:=h1.two;omega⟩,by rw [h1.r0];rfl⟩;have o2:kA m2 rk2 0 0:=⟨⟨by omega,by have:=h2.two;omega⟩,by rw [h2.r0];rfl⟩;have hr:∀e:Int,0<=e->e< ((cg m1 m2 rk1 rk2 kind k).map (cS rk1 rk2 kind)).length->gi ((cg m1 m2 rk1 rk2 kind k).map (cS rk1 rk2 kind)) e<k:=fun e h0 h9=>by
  rw [fj]at h9;obtain⟨i,hi,_,e⟩:=wG ⟨h0,h9⟩;rw [e];omega
 rcases(show kind=0\/kind=1\/kind=2 by omega)with rfl | rfl | rfl
 ·have e:(k:Int)=n1+n2+1:=hk;have g:=UQ g1 g2;have g':=g;rw [show n1+1+ (n2+1)=k+1 by omega]at g';have rp:=Eg (kind:=0) h1 h2 fv g' (fun i _ c=>Q4 h1 h2) (fun c d=>Iff.rfl);obtain⟨U,hU⟩:=rp.en hr;rw [rp.flags hU (o:=(0,0)) ⟨0,0,o1,o2,rfl⟩ fun i a _=> ⟨h1.bot _,h2.bot _⟩,<-C5 g' hU k 0 (0,0) ⟨0,0,o1,o2,rfl⟩ (by omega),ay rfl,<-ZL g1 g2 e1 e2 hU o1 o2,show n1+1+ (n2+1)=k+1 by omega]
 ·have e:(k:Int)=n1+n2:=hk;have g:=HG g1 g2 (by omega) (by omega);have g':=g;rw [show n1+1+ (n2+1) - 1=k+1 by omega]at g';have rp:=Eg (kind:=1) h1 h2 fv g' (fun i _ c=>Q3 h1 h2) (fun c d=>Iff.rfl);obtain⟨U,hU⟩:=rp.en hr;have ho:vn (kA m1 rk1) (kA m2 rk2) 0 (0,0):= .inl ⟨O,o1,o2⟩;rw [rp.flags hU (o:=(0,0)) ho fun i a _=> ⟨h1.bot _,h2.bot _⟩,<-C5 g' hU k 0 (0,0) ho (by omega),aw (by omega),<-ZI g1 g2 e1 e2 hU o1 o2 (fun _ a _=>h1.bot a) (fun _ a _=>h2.bot a),show n1+n2+1=k+1 by omega]
 have e:(k:Int)=n1+n2:=hk;have g:=(HG g1.uD g2.uD (by omega) (by omega)).uD;have hg:iC (k+1) (zu (n1+1) (n2+1) (kA m1 rk1) (kA m2 rk2)) (oF cO cL):=by
  have:=g;rw [show n1+1+ (n2+1) - 1=k+1 by omega]at this;unfold zu;rw [show n1+1+ (n2+1) - 1=k+1 by omega];exact this
 have rp:=Eg (kind:=2) h1 h2 fv hg (fun i hi c=>Q5 h1 h2 (by omega)) (fun c d=>Iff.rfl);obtain⟨U,hU⟩:=rp.en hr;have ho:zu (n1+1) (n2+1) (kA m1 rk1) (kA m2 rk2) 0 (0,0):=(K5 (by omega)).2 ⟨0,0,by omega,by omega,o1,o2,O⟩;rw [rp.flags hU (o:=(0,0)) ho fun i a _=> ⟨h1.bot _,h2.bot _⟩,aw (by omega),<-ZM g1 g2 e1 e2 hU o1 o2,show n1+n2=k by omega]
end
end
section
open Go.RowKit
def Qd(l:List Oper):Bool:=l.zipIdx.all fun p=> (fO p.1).all fun ed=>Nat.blt ed.on p.2
theorem dC{o:Oper}{S:Nat->Bool}(h:∀ed∈fO o,S ed.on=true)(k:Nat)(hk:(fO o).any (fun ed=>Nat.beq ed.on k)=true):S k=true:=by
 obtain⟨ed,gv,hb⟩:=List.any_eq_true.1 hk;rw [<-pD hb];exact h ed gv
section
variable {P:Program} {N:Nat} {e:Env} {w:aa}
theorem y8{id:Nat}{l:List Oper}{Q:kb}(hm:P.follows .mixedOrders=true)(vD:Qd l=true)(I:(Nat->Bool)->Env->aa->Prop)(h0:∀w1,Below w.heap.size w w1->I (fun _=>false) e w1)
 (qY:∀(S:Nat->Bool) (i:Nat) (o:Oper) (e1:Env) (w1:aa),l[i]?=some o->S i=false->(∀ed∈fO o,S ed.on=true)->(∀(k:Nat) (o':Oper),S k=true->l[k]?=some o'->∀ed∈fO o',S ed.on=true)->I S e1 w1->ao P N l.toArray (fun e2 w2=>I (fun k=>Nat.beq k i || S k) e2 w2) [o] e1 w1)
 (yc:∀(S:Nat->Bool) (e1:Env) (w1:aa),(∀i,i<l.length->S i=true)->I S e1 w1->Q .normal e1 w1):Cd P N (.region id l.toArray true) Q e w:= .mk' fun a ha=>by
 have ya:∀(i:Nat) (o:Oper),l[i]?=some o->∀ed∈fO o,ed.on<i:=by
  intro i o ho ed gv;simp only [Qd,List.all_eq_true]at vD;have:=vD (o,i) (by
   obtain⟨hi,IQ⟩:=iQ.1 ho;rw [List.mem_iff_getElem?];exact⟨i,by simp [ho]⟩)
  simpa [Nat.blt_eq]using this ed gv
 refine wp_region_any hm ?_;have key:∀(fuel:Nat) (listed:Array Bool) (a1:Act) (e1:Env) (w1:aa),ky N a1 e1->listed.size=l.length->
  (∀(i:Nat) (o:Oper),listed.getD i false=true->l[i]?=some o->∀ed∈fO o,listed.getD ed.on false=true)->I (fun k=>listed.getD k false) e1 w1->(l.length - fuel<=(List.range l.length).countP fun i=>listed.getD i false)->
  wpAny P .any l.toArray (low N Q) fuel listed a1 w1:=by
  have oC:∀(listed:Array Bool) (a1:Act) (e1:Env) (w1:aa),ky N a1 e1->I (fun k=>listed.getD k false) e1 w1->(∀i,i<l.length->listed.getD i false=true)->low N Q .normal a1 w1:=
   fun listed a1 e1 w1 hr hI dO=> ⟨e1,hr,yc _ e1 w1 dO hI⟩
  have Gj:∀(listed:Array Bool),listed.size=l.length->Region.ready .any l.toArray listed=[]->∀i,i<l.length->listed.getD i false=true:=by
   intro listed nN vO i
   induction i using Nat.strongRecOn with
   | _ i ih=>
    intro hi;cases zR:listed.getD i false with
    | true=>rfl
    | false=>
     exfalso;have:i∈Region.ready .any l.toArray listed:=by
      rw [mem_ready];refine⟨?_,l[i],by simp [hi],fun ed gv qQ=>ih ed.on (ya i _ (gO hi) ed (sb.2 ⟨gv,qQ⟩)) (by have:=ya i _ (gO hi) ed (sb.2 ⟨gv,qQ⟩);omega)⟩;rw [jy,sr (by omega)]at zR|-;exact zR
     rw [vO]at this;cases this
  intro fuel
  induction fuel with
  | zero=>
   intro listed a1 e1 w1 hr nN da hI pd;have dO:∀i,i<l.length->listed.getD i false=true:=by
    have h4:(List.range l.length).countP (fun i=>listed.getD i false)=(List.range l.length).length:=by
     have:=List.countP_le_length (p:=fun i=>listed.getD i false) (l:=List.range l.length);simp at this pd|-;omega
    rw [List.countP_eq_length]at h4;intro i hi;exact h4 i (by simpa using hi)
   refine⟨?_,oC listed a1 e1 w1 hr hI dO⟩;rw [List.eq_nil_iff_forall_not_mem];intro i hi;obtain⟨h5,o,ho,_⟩:=mem_ready.1 hi;have sM:i<l.length:=by
    rcases Nat.lt_or_ge i l.length with h | h
    ·exact h
    ·simp [qm h]at ho
   have h6:=dO i sM;rw [jy,sr (by omega)]at h5 h6;simp at h5 h6;rw [h5]at h6;cases h6
  | succ fuel ih=>
   intro listed a1 e1 w1 hr nN da hI pd;refine⟨fun vO=>oC listed a1 e1 w1 hr hI (Gj listed nN vO),fun i hi=>?_⟩;obtain⟨aY,o,ho,x6⟩:=mem_ready.1 hi;have ja:l[i]?=some o:=by simpa using ho
   have sM:i<l.length:=(iQ.1 ja).1;have lT:∀ed∈fO o,listed.getD ed.on false=true:=fun ed gv=>x6 ed (sb.1 gv).1 (sb.1 gv).2
   have uZ:listed.getD i false=false:=by
    have h5:=aY;rw [jy,sr (by omega)]at h5|-;exact h5
   have qU:∀k,(listed.setIfInBounds i true).getD k false=if k=i then true else listed.getD k false:=by
    intro k;rw [jy,uj]
    by_cases eN:k=i
    ·subst eN;rw [ay rfl,ay (by omega),ay rfl];rfl
    ·rw [aw (fun e=>eN e.symm),aw eN,<-jy]
   have hS:(fun k=> (listed.setIfInBounds i true).getD k false)=fun k=>Nat.beq k i || listed.getD k false:=by
    funext k;rw [qU]
    by_cases eN:k=i
    ·subst eN;rw [ay rfl,Nat.beq_refl];rfl
    ·rw [aw eN];have:Nat.beq k i=false:=by
      cases hb:Nat.beq k i with
      | false=>rfl
      | true=>exact absurd (pD hb) eN
     rw [this];rfl
   have ax:=qY (fun k=>listed.getD k false) i o e1 w1 ja uZ lT (fun k o' hk dK=>da k o' hk dK) hI;have qz:=ax.run a1 hr;have uV:∀a2 w2,(∃e2,ky N a2 e2/\I (fun k=>Nat.beq k i || listed.getD k false) e2 w2)->wpAny P .any l.toArray (low N Q) fuel (listed.setIfInBounds i true) a2 w2:=by
    intro a2 w2 ⟨e2,sS,vw⟩;refine ih _ a2 e2 w2 sS (by simpa using nN) (fun k o' hk dK ed gv=>?_) (by rw [hS];exact vw) ?_
    ·rw [qU]
     by_cases zL:ed.on=i
     ·rw [ay zL]
     ·rw [aw zL]
      by_cases eN:k=i
      ·subst eN;rw [ja]at dK;cases dK;exact lT ed gv
      ·rw [qU,aw eN]at hk;exact da k o' hk dK ed gv
    ·have FR:(List.range l.length).countP (fun k=> (listed.setIfInBounds i true).getD k false)=(List.range l.length).countP (fun k=>listed.getD k false)+1:=
      Dd (fun k=>listed.getD k false) (fun k=> (listed.setIfInBounds i true).getD k false) i uZ qU _ List.nodup_range (by simpa using sM)
     rw [FR];omega
   unfold wpOp;rw [ho];unfold wpList at qz;show if _ then _ else _
   by_cases hw:Region.wanted o (yielded l.toArray a1.tmps)=true
   ·rw [ay hw]at qz|-;rcases qz with h5 | ⟨_,a0,w0,h5⟩
    ·refine .inl (Kg h5 (fun a2 w2 hx=>?_) (fun x a w hx hq=>hx hq.1));exact uV a2 w2 hx.2
    ·exact absurd h5.1 (by simp)
   ·rw [aw hw]at qz|-;exact uV _ _ qz.2
 refine key l.length (Array.replicate l.length false) a e _ ha (by simp) (fun i o hi=>?_) (by
  have:(fun k=> (Array.replicate l.length false).getD k false)=fun _=>false:=by
   funext k;rw [jy,Array.getElem?_replicate]
   split<;>rfl
  rw [this];exact h0 _ ⟨⟨rfl,rfl,rfl,bB _,fun _ _=>rfl⟩,fun _=>Nat.le_add_right _ _⟩) (by omega)
 exfalso;rw [jy,Array.getElem?_replicate]at hi
 split at hi<;>simp at hi
end
end
end Go.Proofs.YtopgfgdgfjddpaaGreatDoor.Vc
