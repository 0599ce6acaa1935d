/-
  The texts Pq2, N1, Pq3, Two, Tri, Pq6, Pq4, Pq5, Pr1, Pr2, Pnt, Pt1 in one. Conditions: as each part states them.
-/
import Derived.Test.YtopgfgdgfjddpaaGreatDoorZe
import Derived.Test.YtopgfgdgfjddpaaGreatDoorZd
import Derived.Test.YtopgfgdgfjddpaaGreatDoorZb
import Derived.Test.YtopgfgdgfjddpaaGreatDoorZa
import Derived.Test.YtopgfgdgfjddpaaGreatDoorZc
namespace Go.Proofs.YtopgfgdgfjddpaaGreatDoor.Vc
open Go.RowKit Tryz
variable{i:Nat}
theorem LY{t1 t2:TypeId}{A:aiC}{n c:Nat}{rs:List aG}{xss:aiB}{ks:List Ck}{q:Ck}(s:aG)(xs:List Int)(hr:rs.length=xss.length)(hi:i<rs.length):(q::(aE t1 t2 A n c rs xss++ks)).set (2+i) (ah t2 s.a s.n s.c xs)=q::(bU t1 A n c rs::(cS t2 (rs.set i s) (xss.set i xs)++ks)):=by
 rw [show 2+i=i+1+1 by omega,List.set_cons_succ];show _::(bU t1 A n c rs::(cS t2 rs xss++ks)).set (i+1) _=_;rw [List.set_cons_succ,List.set_append_left _ _ (by rw [CW hr];exact hi),Mv hr]
def jV(M:aiB)(i f:Nat):aiB:=(List.range (gl M 0).length).map fun g=> (List.range (if g<f then i+1 else i)).map fun k=>bC M k g
def po(M:aiB):aiB:=(List.range (gl M 0).length).map fun g=> (List.range M.length).map fun k=>bC M k g
theorem Gi(M:aiB)(i f:Nat):(jV M i f).length=(gl M 0).length:=by simp [jV]
theorem Yx(M:aiB)(f:Nat)(h:f=0):jV M 0 f=List.replicate (gl M 0).length []:=by
 subst h;apply ji (by simp [jV]);intro i h1 h2;simp [jV]
theorem Yv(M:aiB)(i:Nat):jV M i (gl M 0).length=jV M (i+1) 0:=by
 unfold jV;refine mJ fun g hg=>?_
 rw [aj (gg.1 hg),ag (jk _)]
theorem Yu(M:aiB):jV M M.length 0=po M:=by
 unfold jV po;exact mJ fun g _=>by rw [ag (jk _)]
theorem Gh{M:aiB}{f g:Nat}(hg:g< (gl M 0).length):gl (jV M i f) (g:Int)=(List.range (if g<f then i+1 else i)).map fun k=>bC M k g:=by
 rw [db (by rw [Gi];exact hg)];simp [jV]
theorem Yw{M:aiB}{f:Nat}(hf:f< (gl M 0).length):(jV M i f).set f (gl (jV M i f) (f:Int)++ [bC M i f])=jV M i (f+1):=by
 apply ji (by simp [jV]);intro g h1 h2;have hg:g< (gl M 0).length:=by rw [Gi]at h2;exact h2
 rw [List.getElem_set];have e:(jV M i (f+1))[g]=gl (jV M i (f+1)) (g:Int):=by rw [db h2]
 rw [e,Gh hg]
 by_cases h:f=g
 ·subst h;rw [aj rfl,aj (by omega),Gh hg,ag (by omega),ng,iQ];rfl
 rw [ag h];have e2:(jV M i f)[g]'(by rw [Gi];exact hg)=gl (jV M i f) (g:Int):=by rw [db]
 rw [e2,Gh hg]
 by_cases h3:g<f
 ·rw [aj h3,aj (by omega)]
 rw [ag h3,ag (by omega)]
theorem HD{M:aiB}:∀i,aD M i≤i* (gl M 0).length
 | 0=>aW _
 | i+1=>by
  have h1:=HD (M:=M) i;have h2:=ze M i;show aD M i+ (ja M i).toNat≤_;rw [Nat.succ_mul];omega
set_option maxHeartbeats 1000000 in
theorem Wi(Ab A:aiC)(n c:Nat)(rs:List aG)(M:aiB)(w:World)(hB:Rd w Ab 1 (fun _=> .slice A n c))(hR:br w A n rs M)(hM:bL M):
 aA prog 97 [.pointer Ab] w (fun v w'=>∃A' rs',v= .slice A' (gl M 0).length (gl M 0).length∧rs'.length=(gl M 0).length∧St w w' (aE 32 2 A' (gl M 0).length (gl M 0).length rs' (po M)++ [])):=by
 have hl:=hR.len;have h1:=hM.1;have h2:=hM.2.1;have e0:(rg rs 0).n=(gl M 0).length:=(hR.pE (by omega) (by omega)).symm;have yo:∀i,i≤n→aD M i≤2000:=fun i hi=>by
  have h3:=HD (M:=M) i;have h4:i* (gl M 0).length≤5*400:=Nat.mul_le_mul (by omega) (by omega);omega
 generalize hF:(gl M 0).length=F at*;refine bk func97 O ntmps97 O (cK O) (aQ O (aa.call (um Ab A n c rs M _ w hB O hR (by omega)) O O O ?_));rintro _ w ⟨rfl,rfl⟩;rw [e0];refine FB F (St.refl w) O O (by omega) ?_;intro A3 w1 ao;have ao:St w w1 (aE 32 2 A3 F F (List.replicate F dE) (List.replicate F [])):=EU F ao;refine ad O (aa.call (CR Ab A n c _ _ (ao.o7 hB) O) O O O ?_);rintro _ w1 ⟨rfl,rfl⟩;refine ay O ?_;refine Cd.loop (α:=Nat×List aG) (fun z=> [(0,.pointer Ab),(3,.slice A3 F F),(4,aiD (aD M z.1:Int)),(14,aiD (n:Int)),(15,aiD (z.1:Int))]) (fun z w'=>z.1≤n∧z.2.length=F∧St w w' (aE 32 2 A3 F F z.2 (jV M z.1 0)++ [])) (fun z=>n - z.1) (0,List.replicate F dE) ⟨O,O,O,O,O,ae⟩ ⟨aW _,by simp,by rw [Yx M 0 O,hF,fg];exact ao⟩ ?_;clear ao;rintro⟨i,CX⟩ e w2 ⟨hi,bW,hS⟩;dsimp only at hi bW hS⊢;have Rs:=yo i hi;refine bK O ?_;refine aB _ O (fun h3=>?_) (fun h3=>?_)
 ·have dq:i<n:=by omega
  have tJ:=yo (i+1) (by omega);have jY:=ze M i;have zP:aD M (i+1)=aD M i+ (ja M i).toNat:=O;refine av O (aa.call (OI Ab A n c rs M i _ (hS.o7 hB) (hS.bF hR) hM dq) O O O ?_);rintro _ w3 ⟨A6,rfl,ak⟩;have az:=(hS.call ak).perm (lh (l₁:=[ah 2 A6 (gl M 0).length (gl M 0).length (dd M i)]));rw [hF]at az⊢;clear ak hS;refine ad O (aa.len O O (ay O ?_));refine Cd.loop (α:=Nat×List aG) (fun z=> [(0,.pointer Ab),(3,.slice A3 F F),(4,aiD (aD M i:Int)),(7,aiD (ja M i)),(14,aiD (n:Int)),(15,aiD (i:Int)),(24,.slice A6 F F),(5,aiD (i:Int)),(25,aiD (F:Int)),(26,aiD (z.1:Int))]) (fun z w'=>z.1≤F∧z.2.length=F∧St w w' (aE 32 2 A3 F F z.2 (jV M i z.1)++ [ah 2 A6 F F (dd M i)])) (fun z=>F - z.1) (0,CX) ⟨O,O,O,O,O,O,O,O,O,O,ae⟩ ⟨aW _,bW,by simpa using az⟩ ?_;clear az;rintro⟨f,cG⟩ e w4 ⟨hf,tN,aJ⟩;dsimp only at hf tN aJ⊢;have QY:=Gi M i f;rw [hF]at QY;refine bK O ?_;refine aB _ O (fun h4=>?_) (fun h4=>?_)
  ·have sC:f<F:=by omega
   have fH:=St.gC aJ QY;have lK:(aE 32 2 A3 F F cG (jV M i f)++ [ah 2 A6 F F (dd M i)])[F+1]?=some (ah 2 A6 F F (dd M i)):=by
    rw [jQ (by rw [SZ (by omega)];omega),SZ (by omega),tN,Nat.sub_self];rfl
   have Cj:bS w4 A6 F (dd M i):=aJ.bc (F+1) lK;have hin2:=pn hM (i:=i) (f:=f) (by omega);have aao:(aD M i:Int)+gi (dd M i) (f:Int)=bC M i f:=O;have cj:=fH.at_ (i:=(f:Int)) (by omega) (by omega);have iD:(rg cG (f:Int)).n≤5:=by
    have:=cj.1;rw [←this,Gh (by omega),ag (by omega)];simp;omega
   refine av O (aw Cj.2 O O O (by omega) (by omega) (aT Cj O (by omega) O O (ad O (aw fH.top.2 O O O (by omega) (by omega) (bQ fH.top O (by omega) O O ?_)))));refine ad O (aa.add O O O (by omega) ?_);refine dJ aJ O O O ?_;intro AQ wQ hQ;have sD:(ah 2 AQ 1 1 [((aD M i:Int)+gi (dd M i) (f:Int))]::(aE 32 2 A3 F F cG (jV M i f)++ [ah 2 A6 F F (dd M i)]))[2+f]?=some (ah 2 (rg cG (f:Int)).a (rg cG (f:Int)).n (rg cG (f:Int)).c (gl (jV M i f) (f:Int))):=by
    have h0:=CF (t1:=32) (t2:=2) (A:=A3) (n:=F) (c:=F) (rs:=cG) (xss:=(jV M i f)) (pre:=[ah 2 AQ 1 1 [((aD M i:Int)+gi (dd M i) (f:Int))]]) (ks:=[ah 2 A6 F F (dd M i)]) (i:=f) (by omega) (by omega);exact h0
   refine eK (2+f) hQ sD (hQ.bc 0 O) O O O (by omega) (by omega) O ?_;intro AZ cZ wZ hZ;rw [LY ⟨AZ,(rg cG (f:Int)).n+1,cZ⟩ (gl (jV M i f) (f:Int)++ [((aD M i:Int)+gi (dd M i) (f:Int))]) (by omega) (by omega)]at hZ;have Qj:jD wZ A3 F cG:=hZ.il 1 O;refine aw Qj.2 O O O (by omega) (by omega) (zc (te:=32) (n:=F) (c:=F) (A:=A3) (xs:=cG) 1 hZ O O O (by omega) ?_);intro wY hY;have aK:St w wY (aE 32 2 A3 F F (cG.set f ⟨AZ,(rg cG (f:Int)).n+1,cZ⟩) ((jV M i f).set f (gl (jV M i f) (f:Int)++ [((aD M i:Int)+gi (dd M i) (f:Int))]))++ [ah 2 A6 F F (dd M i)]):=St.tail hY;clear hY Qj hZ sD hQ;rw [aao,Yw (by omega)]at aK;refine ad O (aa.add O O O (by omega) (aF O (tQ ?_)));exact⟨(f+1,_),by show F - (f+1)<F - f;omega,⟨O,O,O,O,O,O,O,O,O,O,ae⟩,by show f+1≤F;omega,by simp [tN],aK⟩
  have sC:f=F:=by omega
  subst sC;have gH:=Yv M i;rw [hF]at gH;rw [gH]at aJ;refine aY O (aZ (cL O (aa.add O O O (by omega) (ad O (aa.add O O O (by omega) (aF O (tQ ?_)))))));exact⟨(i+1,cG),by show n - (i+1)<n - i;omega,⟨O,O,by show Value.int .i64 ((aD M i:Int)+ja M i)=aiD ((aD M (i+1):Nat):Int);congr 1;omega,O,O,ae⟩,by show i+1≤n;omega,tN,aJ.sub (List.Sublist.append_left (List.nil_sublist _) _)⟩
 have dq:i=n:=by omega
 subst dq;have he:=Yu M;rw [hl]at he;rw [he]at hS;refine aY O (aZ (gE O ?_));refine gB O ?_;exact⟨A3,CX,O,bW,hS⟩
def lG(xss:aiB):List Int:=(List.range xss.length).map fun i=>ja xss i
theorem IK(xss:aiB):(lG xss).length=xss.length:=by simp [lG]
theorem Xl{xss:aiB}(h:i<xss.length):(lG xss).take (i+1)=(lG xss).take i++ [ja xss i]:=by
 rw [rY (by rw [IK];exact h)];simp [lG]
theorem OG(Ab A:aiC)(n c:Nat)(rs:List aG)(xss:aiB)(w:World)(hB:Rd w Ab 1 (fun _=> .slice A n c))(hR:br w A n rs xss)(hM:bL xss):
 aA prog 124 [.pointer Ab] w (fun v w'=>∃A' c',v= .slice A' n c'∧St w w' [ah 2 A' n c' (lG xss)]):=by
 have hl:=hR.len;have h1:=hM.1;have h2:=hM.2.1;refine bk func124 O ntmps124 O (cK O) (aQ O (aa.call (CR Ab A n c _ _ hB O) O O O ?_));rintro _ w ⟨rfl,rfl⟩;refine ay O ?_;refine Cd.loop (α:=Nat×aiC×Nat) (fun s=> [(0,.pointer Ab),(3,.slice s.2.1 s.1 s.2.2),(8,aiD (n:Int)),(9,aiD (s.1:Int))]) (fun s w'=>St w w' [ah 2 s.2.1 s.1 s.2.2 ((lG xss).take s.1)]∧s.1≤n) (fun s=>n - s.1) (0,none,0) ⟨O,O,O,O,ae⟩ ⟨(St.refl w).nil _,aW _⟩ ?_;rintro⟨i,A3,c3⟩ e w1 ⟨ao,hi⟩;dsimp only at ao hi⊢;refine bK O ?_;refine aB _ O (fun h3=>?_) (fun h3=>?_)
 ·have dT:i<n:=by omega
  have l5:=ze xss i;refine av O (aa.call (OI Ab A n c rs xss i _ (hB.below ao.below) (ao.bF hR) hM dT) O O O ?_);rintro _ w2 ⟨A5,rfl,lu⟩;have ar:=(ao.call lu).tail;refine ad O (dJ ar O O O ?_);intro A6 w3 az;refine eK 1 az O (az.bc 0 O) O O O (by omega) (by omega) O ?_;intro A7 c7 w4 aJ;refine ad O (aa.add O O O (by omega) (aF O (tQ ?_)));refine⟨(i+1,A7,c7),by show n - (i+1)<n - i;omega,⟨O,O,O,O,ae⟩,?_,dT⟩;show St w w4 [ah _ A7 (i+1) c7 ((lG xss).take (i+1))];rw [Xl (by omega)];exact aJ.tail
 refine aY O (aZ (gE O ?_));refine gB O ?_;have dq:i=n:=by omega
 rw [dq,lS (by rw [IK];omega)]at ao;rw [dq];exact⟨A3,c3,O,ao⟩
section
variable{b:Nat}
variable {P:Program} {N:Nat} {ops:Array Oper} {K:Env→World→Prop} {rest:List Oper} {e:Env} {w0 w w':World} {ks:List Ck} {d:Nat} {ty:TypeId} {pos:String} {af:Array Edge}
theorem Fy{t:TypeId}{f0 f1 f2:Field}{z0 z1 z2 y0 y1 y2:Value}{b0 b1 b2:Nat}[bB P t (.struct #[f0,f1,f2])][bp P t (.agg #[z0,z1,z2]) 3 b]{x0:Operand}{v0:Value}(sj:bp P f0.type y0 1 b0)(sk:bp P f1.type y1 1 b1)(uy:bp P f2.type y2 1 b2)(ho:f0.offset=0)(tJ:f1.offset=1)(zN:f2.offset=2)(h0:ev e x0=v0)(c0:v0.oneCell'=true)(hb:Nat.blt d N=true)(hK:aa P N ops K rest (a7 e d (.agg #[v0,z1,z2])) w):aa P N ops K (⟨some d,.build t #[(0,x0)],ty,pos,af,none⟩::rest) e w:=by
 obtain⟨inf,hi,fv,hs,iS⟩:=bp.get P t;obtain⟨Cw,eP,_,pA,_⟩:=sj.get P f0.type;obtain⟨Cx,jt,_,sJ,_⟩:=sk.get P f1.type;obtain⟨EJ,rm,_,ox,_⟩:=uy.get P f2.type;have e0:v0.cells= #[v0]:=by cases v0<;>simp [Value.oneCell']at c0<;>rfl
 have ez:(Value.agg #[z0,z1,z2]).cells= #[z0,z1,z2]:=O;refine .val (w':=w) ?_ hb hK;simp [execOp,Instr.build,run_underlying (bB.out (P:=P) (t:=t)),sizeOf,typeInfo,zeroValue,hi,fv,eP,pA,jt,sJ,rm,ox,ho,h0,e0,ez,Instr.fill]
theorem vS{t:TypeId}{f0 f1 f2:Field}{z0 z1 z2 y0 y1 y2:Value}{b0 b1 b2:Nat}[bB P t (.struct #[f0,f1,f2])][bp P t (.agg #[z0,z1,z2]) 3 b](sj:bp P f0.type y0 1 b0)(sk:bp P f1.type y1 1 b1)(uy:bp P f2.type y2 1 b2)(hb:Nat.blt d N=true)(hK:aa P N ops K rest (a7 e d (.agg #[z0,z1,z2])) w):aa P N ops K (⟨some d,.build t #[],ty,pos,af,none⟩::rest) e w:=by
 obtain⟨inf,hi,fv,hs,iS⟩:=bp.get P t;obtain⟨Cw,eP,_,pA,_⟩:=sj.get P f0.type;obtain⟨Cx,jt,_,sJ,_⟩:=sk.get P f1.type;obtain⟨EJ,rm,_,ox,_⟩:=uy.get P f2.type;have ez:(Value.agg #[z0,z1,z2]).cells= #[z0,z1,z2]:=O;refine .val (w':=w) ?_ hb hK;simp [execOp,Instr.build,run_underlying (bB.out (P:=P) (t:=t)),sizeOf,typeInfo,zeroValue,hi,fv,eP,pA,jt,sJ,rm,ox,ez,Instr.fill]
theorem jC{el:TypeId}{v0 v1 v2:Value}{s:Nat}[bp P el (.agg #[v0,v1,v2]) s b](hS:St w0 w ks)(hb:Nat.blt d N=true)(hK:∀A w',St w0 w' (Bx el 3 A [v0,v1,v2]::ks)→aa P N ops K rest (a7 e d (.pointer A)) w')(hM:eH [v0,v1,v2]=false:=by rfl):aa P N ops K (⟨some d,.alloc el,ty,pos,af,none⟩::rest) e w:= .new (el:=el) (z:= .agg #[v0,v1,v2]) (s:=s) (b:=b) hS hb rfl hK hM
end
theorem aev{α:Type}(q1 q2 q3 q4 q5 q6:α)(X Y:List α):([q1,q2,q3,q4,q5,q6]++Y++X).Perm (q4::(q2::((q1::X)++ (q3::q5::q6::Y)))):=by
 classical
 refine lR.2 fun z=>?_
 simp only [nP,lE,List.cons_append,List.nil_append];omega
abbrev bj(A:aiC)(n:Int)(AR:aiC)(N c:Nat)(AD:aiC)(m d:Nat):Ck:=Bx 34 3 A [aiD n,.slice AR N c,.slice AD m d]
theorem Xj{M:aiB}{i:Nat}(h:i<M.length):gi (lG M) (i:Int)=ja M i:=by
 rw [bX (by rw [IK];exact h)];simp [lG]
structure qO(M:aiB)(f i:Nat)(B:aiB):Prop where
 len:B.length=aD M M.length
 mem:∀e:Nat,e<aD M M.length→∀x,x∈gl B (e:Int)↔∃f' i',(f'<f∨f'=f∧i'<i)∧f'< (gl M 0).length∧i'<M.length∧bC M i' f'=e∧∃k,k<i'∧x=bC M k f'
 num:∀e:Nat,(gl B (e:Int)).length≤25*f+5*i
theorem qO.zero(M:aiB):qO M 0 0 (List.replicate (aD M M.length) []):=by
 have hg:∀e:Nat,gl (List.replicate (aD M M.length) ([]:List Int)) (e:Int)=[]:=fun e=>by
  simp only [gl,ir,cJ,List.getElem?_replicate]
  split<;>rfl
 refine⟨by simp,fun e he x=>?_,fun e=>by rw [hg];exact aW _⟩;rw [hg];constructor
 ·intro h;cases h
 rintro⟨f',i',h,_⟩;omega
theorem qO.next{M:aiB}{f i:Nat}{B:aiB}(hM:bL M)(h:qO M f i B)(hf:f< (gl M 0).length)(hi:i<M.length):qO M f (i+1) (B.set (bC M i f).toNat (gl B (bC M i f)++ (List.range i).map fun k=>bC M k f)):=by
 have dq:=pn hM (i:=i) hf;have G6:=nG M (show i+1≤M.length by omega);have h5:=hM.1;obtain⟨q,hq⟩:∃q:Nat,bC M i f=q:=⟨(bC M i f).toNat,by omega⟩;rw [hq,ir];have hg:∀e:Nat,gl (B.set q (gl B (q:Int)++ (List.range i).map fun k=>bC M k f)) (e:Int)=if q=e then gl B (q:Int)++ (List.range i).map fun k=>bC M k f else gl B (e:Int):=fun e=>YG (by rw [h.len];omega)
 refine⟨by rw [iw];exact h.len,fun e he x=>?_,fun e=>?_⟩
 ·rw [hg]
  by_cases e1:q=e
  ·subst e1;rw [aj rfl,iG,h.mem q he];constructor
   ·rintro(⟨f',i',h1,h2⟩ | h1)
    ·exact⟨f',i',by omega,h2⟩
    obtain⟨k,hk,rfl⟩:=dh.1 h1;exact⟨f,i,.inr ⟨O,by omega⟩,hf,hi,hq,k,gg.1 hk,O⟩
   rintro⟨f',i',h1,h2,h3,h4,k,hk,rfl⟩
   by_cases e2:f'=f∧i'=i
   ·obtain⟨rfl,rfl⟩:=e2;exact .inr (dh.2 ⟨k,gg.2 hk,O⟩)
   exact .inl ⟨f',i',by omega,h2,h3,h4,k,hk,O⟩
  rw [ag e1,h.mem e he];constructor
  ·rintro⟨f',i',h1,h2⟩;exact⟨f',i',by omega,h2⟩
  rintro⟨f',i',h1,h2,h3,h4,h6⟩;refine⟨f',i',?_,h2,h3,h4,h6⟩
  by_cases e2:f'=f∧i'=i
  ·obtain⟨rfl,rfl⟩:=e2;omega
  omega
 rw [hg];have h1:=h.num q;have h2:=h.num e
 split
 ·rw [dm,fN,pe];omega
 omega
theorem qO.row{M:aiB}{f:Nat}{B:aiB}(hM:bL M)(h:qO M f M.length B):qO M (f+1) 0 B:=by
 have h5:=hM.1;refine⟨h.len,fun e he x=>?_,fun e=>by have:=h.num e;omega⟩;rw [h.mem e he];constructor
 ·rintro⟨f',i',h1,h2⟩;exact⟨f',i',by omega,h2⟩
 rintro⟨f',i',h1,h2,h3,h4⟩;exact⟨f',i',by omega,h2,h3,h4⟩
theorem qO.done{M:aiB}{B:aiB}(hM:bL M)(h:qO M (gl M 0).length 0 B){e:Nat}(he:e<aD M M.length):cs (gl B (e:Int))=gl (bn M) (e:Int):=by
 refine(Xy _).eq ?_ fun x=>?_
 ·rw [db (by rw [tm];exact he)];unfold bn;rw [List.getElem_map];exact pd _ (mb _)
 rw [Xz,h.mem e he,n3 (by omega) (by omega)];constructor
 ·rintro⟨f',i',_,h2,h3,h4,k,hk,rfl⟩;have hI:vO M (bC M k f') (e:Int):=⟨f',h2,i',h3,k,hk,h4.symm,O⟩;exact⟨(hI.fT hM).1,hI⟩
 rintro⟨_,f',h2,i',h3,k,hk,h4,rfl⟩;exact⟨f',i',.inl h2,h2,h3,h4.symm,k,hk,O⟩
def U6(M:aiB)(w:World)(v:Value)(w':World):Prop:=(500<aD M M.length∧v= .tuple #[.agg #[aiD 0,.slice none 0 0,.slice none 0 0],.bool false]∧St w w' [])∨(aD M M.length≤500∧∃AR c AD d rs,v= .tuple #[.agg #[aiD (M.length:Int),.slice AR (aD M M.length) c,.slice AD (aD M M.length) d],.bool true]∧rs.length=aD M M.length∧St w w' (ah 2 AR (aD M M.length) c (aO M M.length)::(aE 32 2 AD (aD M M.length) d rs (bn M)++ [])))
set_option maxHeartbeats 2000000 in
theorem OH(A:aiC)(n c:Nat)(rs:List aG)(M:aiB)(w:World)(hR:br w A n rs M)(hM:bL M):
 aA prog 92 [.agg #[.slice A n c]] w (U6 M w):=by
 have hl:=hR.len;have h1:=hM.1;have h2:=hM.2.1;have yo:∀i,i≤n→aD M i≤2000:=fun i hi=>by
  have h3:=HD (M:=M) i;have h4:i* (gl M 0).length≤5*400:=Nat.mul_le_mul (by omega) (by omega);omega
 refine bk func92 O ntmps92 O (tW O O) (aQ O (iI (St.refl w) O O ?_));intro A1 w1 ao;refine jC ao O ?_;intro A2 w2 ar;refine ad O (aa.call (CR A1 A n c _ _ (Rd.one (ar.rd 1 O)) O) O O O ?_);rintro _ w2 ⟨rfl,rfl⟩;refine Fy (by exact inferInstance) (by exact inferInstance) (by exact inferInstance) O O O O O O (jC ar O ?_);intro A4 w3 az;refine bG 3 0 az O O O O O O O ?_;intro w4 aJ;have aJ:St w w4 [bj A4 n none 0 0 none 0 0,bj A2 0 none 0 0 none 0 0,Bx 24 1 A1 [.slice A n c]]:=aJ;clear az ar ao;refine ad O (aa.call (OG A1 A n c rs M _ (Rd.one (aJ.rd 2 O)) (aJ.bF hR) hM) O O O ?_);rintro _ w5 ⟨fe,iK,rfl,ak⟩;have aK:=aJ.call ak;clear ak aJ;have aK:St w w5 [bj A4 n none 0 0 none 0 0,ah 2 none 0 0 [],ah 2 fe n iK (lG M),bj A2 0 none 0 0 none 0 0,Bx 24 1 A1 [.slice A n c]]:=(aK.nil 2).perm (iH (l₁:=[_,_]));refine aa.len O O (ay O ?_);refine Cd.loop (α:=Nat×aiC×Nat) (fun z=> [(1,.pointer A1),(2,.pointer A2),(4,.pointer A4),(14,.slice fe n iK),(15,aiD (n:Int)),(16,aiD (z.1:Int))]) (fun z w'=>z.1≤n∧St w w' [bj A4 n z.2.1 (aD M z.1) z.2.2 none 0 0,ah 2 z.2.1 (aD M z.1) z.2.2 (aO M z.1),ah 2 fe n iK (lG M),bj A2 0 none 0 0 none 0 0,Bx 24 1 A1 [.slice A n c]]) (fun z=>n - z.1) (0,none,0) ⟨O,O,O,O,O,O,ae⟩ ⟨aW _,aK⟩ ?_;clear aK;rintro⟨i,AR,cR⟩ e w6 ⟨hi,hS⟩;dsimp only at hi hS⊢;have Rs:=yo i hi;have tw:=iR M i;refine bK O ?_;refine aB _ O (fun h3=>?_) (fun h3=>?_)
 ·have dq:i<n:=by omega
  have vq:=Xj (M:=M) (i:=i) (by omega);have jY:=ze M i;have tJ:=yo (i+1) (by omega);have zP:aD M (i+1)=aD M i+ (ja M i).toNat:=O;have oW:aO M (i+1)=aO M i++List.replicate (ja M i).toNat (i:Int):=O;have hC:=hS.bc 2 O;refine av O (aw hC.2 O O O (by omega) (by omega) (aT hC O (by omega) O O (ay O ?_)));rw [vq];obtain⟨N,hN⟩:∃N:Nat,ja M i=N:=⟨(ja M i).toNat,by omega⟩;rw [hN,ir]at zP oW;rw [hN]at jY⊢;refine iU [6,8] [yP (aq (A4) 1),yS (AR) (aD M i) (cR),yI ((i:Int)),.pr (fun v w'=>∃A9,v= .slice A9 1 1∧St w w' (ah 2 A9 1 1 [(i:Int)]::[bj A4 n AR (aD M i) cR none 0 0,ah 2 AR (aD M i) cR (aO M i),ah 2 fe n iK (lG M),bj A2 0 none 0 0 none 0 0,Bx 24 1 A1 [.slice A n c]])),yI ((N:Int)),.pr (fun v w'=>∃A9,v= .slice A9 N N∧St w w' (ah 2 A9 N N (List.replicate N (i:Int))::[bj A4 n AR (aD M i) cR none 0 0,ah 2 AR (aD M i) cR (aO M i),ah 2 fe n iK (lG M),bj A2 0 none 0 0 none 0 0,Bx 24 1 A1 [.slice A n c]])),.pr (fun v w'=>∃a6 cT,v= .slice a6 (aD M i+N) cT∧St w w' [bj A4 n AR (aD M i) cR none 0 0,ah 2 a6 (aD M i+N) cT (aO M i++List.replicate N (i:Int)),ah 2 fe n iK (lG M),bj A2 0 none 0 0 none 0 0,Bx 24 1 A1 [.slice A n c]]),yP (aq (A4) 1),.pr (fun _ w'=>∃a6 cT,St w w' [bj A4 n a6 (aD M i+N) cT none 0 0,ah 2 a6 (aD M i+N) cT (aO M i++List.replicate N (i:Int)),ah 2 fe n iK (lG M),bj A2 0 none 0 0 none 0 0,Bx 24 1 A1 [.slice A n c]])] (by kernel_rfl) (by kernel_rfl) (ly (ly (ly (bV.2 ⟨Ye.b9 (fun v w w' h hb=>by obtain⟨A9,hv,hT⟩:=h;exact⟨A9,hv,hT.later hb⟩),(ly (bV.2 ⟨Ye.b9 (fun v w w' h hb=>by obtain⟨A9,hv,hT⟩:=h;exact⟨A9,hv,hT.later hb⟩),(bV.2 ⟨Ye.b9 (fun v w w' h hb=>by obtain⟨a6,cT,hv,hT⟩:=h;exact⟨a6,cT,hv,hT.later hb⟩),(ly (bV.2 ⟨Ye.b9 (fun v w w' h hb=>by obtain⟨a6,cT,hT⟩:=h;exact⟨a6,cT,hT.later hb⟩),(fun _ h=>by cases h)⟩))⟩)⟩))⟩)))) ?_ ?_
  ·refine⟨cP fun _ _ hb _ _ _=>aH ((hS.rd 0 O).below hb) O O O O inferInstance (aX O O),cP fun _ _ hb _ _ _=>aM ((hS.rd 0 O).below hb) O O O O O (aX O O),ba O,?_,ba O,?_,?_,?_,?_,ae⟩
   ·refine cP fun e1 w1 hb hp aL hq=>?_
    refine dJ (St.refl _) O O O ?_;intro A9 w9 ak;refine aa.n ?_;exact fF.dn O ak.below ⟨A9,O,(hS.later hb).call ak⟩
   ·refine cP fun e1 w1 hb hp aL hq=>?_
    obtain⟨A9,wj,hT⟩:=(hp 3 _ _ (by kernel_rfl) rfl rfl (by kernel_rfl));refine aa.call (Ij A9 1 (i:Int) N _ (hT.bc 0 O) (by omega)) O (by exact ax (fun v=> [v,Value.int .i64 (N:Int)]) wj) O ?_;rintro _ w2 ⟨A5,rfl,ak⟩;refine aa.n ?_;exact fF.dn O ak.below ⟨A5,O,hT.tail.call ak⟩
   ·refine iY fun e1 w1 hb hp aL hq=>?_
    obtain⟨A9,DE,hT⟩:=(hp 5 _ _ (by kernel_rfl) rfl rfl (by kernel_rfl));refine eK 2 hT O (hT.bc 0 O) O (by exact DE) O (by omega) (by omega) O ?_;intro a6 cT dB tx;refine aa.n ?_;exact eA.dn O ⟨a6,cT,O,tx.tail⟩
   ·refine dP 1 fun e1 w1 hp aL hq=>?_
    have dH:=hp 6 _ _ (by kernel_rfl) O O (by kernel_rfl);obtain⟨a6,cT,Gq,hT⟩:=dH;refine aH ((hT.rd 0 O)) O O O O inferInstance (aa.n (fh O (by exact O)))
   refine oQ 1 fun e1 w1 hp aL hq=>?_
   have dH:=hp 6 _ _ (by kernel_rfl) O O (by kernel_rfl);obtain⟨a6,cT,Gq,hT⟩:=dH;refine jS 0 hT O O (by exact Gq) O O ?_;intro eu uz;refine aa.n ?_;exact eA.st O ⟨a6,cT,uz⟩
  intro u w7 _ hu _ _;obtain⟨a6,cT,hT⟩:=hu 8 _ rfl (by kernel_rfl);rw [←zP,←oW]at hT;refine iq O (aa.add O O O (by omega) (aF O (tQ ?_)));exact⟨(i+1,a6,cT),by show n - (i+1)<n - i;omega,⟨O,O,O,O,O,O,ae⟩,by show i+1≤n;omega,hT⟩
 obtain rfl:i=n:=by omega
 have ig:M.length=i:=hl;generalize hK:aD M i=N at*;have fq:=hS.rd 0 O;refine aY O (aZ (cL O ?_));refine aH fq O O O O inferInstance (aM fq O O O O O ?_);refine aa.len O O (ay O ?_);refine aB _ O (fun h4=>?_) (fun h4=>?_)
 ·refine av O (vS (by exact inferInstance) (by exact inferInstance) (by exact inferInstance) O (bG 3 3 hS O O O O O O O ?_));intro w9 aS;refine bh O (kA O (aS.rd 3 O) O ?_);exact .inl ⟨by rw [ig,hK];omega,O,aS.none⟩
 refine av O (aH fq O O O O inferInstance (aM fq O O O O O (aa.len O O (FB N hS O O (by omega) ?_))));intro da w7 aV;have aV:St w w7 (bU 32 da N N (List.replicate N dE)::[bj A4 i AR N cR none 0 0,ah 2 AR N cR (aO M i),ah 2 fe i iK (lG M),bj A2 0 none 0 0 none 0 0,Bx 24 1 A1 [.slice A i c]]):=aV;refine aH (aV.rd 1 O) O O O O inferInstance (jS 1 aV O O O O O ?_);intro w8 bA;have bA:St w w8 (bU 32 da N N (List.replicate N dE)::[bj A4 i AR N cR da N N,ah 2 AR N cR (aO M i),ah 2 fe i iK (lG M),bj A2 0 none 0 0 none 0 0,Bx 24 1 A1 [.slice A i c]]):=bA;clear aV hS;refine ad O (aa.call (Wi A1 A i c rs M _ (Rd.one (bA.rd 5 O)) (bA.bF hR) hM) O O O ?_);rintro _ w9 ⟨rQ,oD,rfl,aa8,ak⟩;obtain⟨F,hF⟩:∃F,(gl M 0).length=F:=⟨_,rfl⟩;rw [hF]at h2 aa8 ak⊢;have PS:(po M).length=F:=by simp [po,hF]
 have aS:=bA.call ak;clear ak bA;obtain⟨KK,qZ⟩:∃KK:List Ck,KK=ah 2 AR N cR (aO M i)::bj A2 0 none 0 0 none 0 0::Bx 24 1 A1 [.slice A i c]::(aE 32 2 rQ F F oD (po M)++ []):=⟨_,rfl⟩;have aS:St w w9 (bj A4 i AR N cR da N N::(aE 32 2 da N N (List.replicate N dE) (List.replicate N [])++KK)):=by
  rw [qZ];have h9:=(aS.perm lh);have h9:=EU (t:=2) N h9;have hp:([bU 32 da N N (List.replicate N dE),bj A4 i AR N cR da N N,ah 2 AR N cR (aO M i),ah 2 fe i iK (lG M),bj A2 0 none 0 0 none 0 0,Bx 24 1 A1 [.slice A i c]]++ (aE 32 2 rQ F F oD (po M)++ [])++cS 2 (List.replicate N dE) (List.replicate N [])).Perm (ah 2 fe i iK (lG M)::(bj A4 i AR N cR da N N::(aE 32 2 da N N (List.replicate N dE) (List.replicate N [])++ (ah 2 AR N cR (aO M i)::bj A2 0 none 0 0 none 0 0::Bx 24 1 A1 [.slice A i c]::(aE 32 2 rQ F F oD (po M)++ []))))):=by
   unfold aE;generalize cS 2 (List.replicate N dE) (List.replicate N [])=X;generalize bU 32 rQ F F oD::cS 2 oD (po M)++ []=Y;generalize bU 32 da N N (List.replicate N dE)=q1;generalize bj A4 i AR N cR da N N=q2;generalize ah 2 AR N cR (aO M i)=q3;generalize ah 2 fe i iK (lG M)=q4;generalize bj A2 0 none 0 0 none 0 0=q5;generalize Bx 24 1 A1 [.slice A i c]=q6;exact aev q1 q2 q3 q4 q5 q6 X Y
  exact(h9.perm hp).tail
 have lK:∀(rs':List aG) (B:aiB),(aE 32 2 rQ F F oD (po M)).Sublist (bj A4 i AR N cR da N N::(aE 32 2 da N N rs' B++KK)):=fun rs' B=>by
  rw [qZ];refine List.Sublist.cons _ (List.Sublist.trans ?_ (gR _ _));refine List.Sublist.cons _ (List.Sublist.cons _ (List.Sublist.cons _ ?_));rw [fg];exact fJ _
 have l0:aD M M.length=N:=by rw [ig,hK]
 refine aa.len O O (ay O ?_);refine Cd.loop (α:=Nat×List aG×aiB) (fun z=> [(1,.pointer A1),(2,.pointer A2),(4,.pointer A4),(40,.slice rQ F F),(41,aiD (F:Int)),(42,aiD (z.1:Int))]) (fun z w'=>z.1≤F∧z.2.1.length=N∧qO M z.1 0 z.2.2∧St w w' (bj A4 i AR N cR da N N::(aE 32 2 da N N z.2.1 z.2.2++KK))) (fun z=>F - z.1) (0,List.replicate N dE,List.replicate N []) ⟨O,O,O,O,O,O,ae⟩ ⟨aW _,by simp,by have:=qO.zero M;rwa [l0]at this,aS⟩ ?_;clear aS;rintro⟨f,CX,B⟩ e dB ⟨hf,Hj,hB,hS⟩;dsimp only at hf Hj hB hS⊢;refine bK O ?_;refine aB _ O (fun h5=>?_) (fun h5=>?_)
 ·have sC:f<F:=by omega
  have x8:=(hS.sub (lK CX B)).rN PS;have cj:=x8.at_ (i:=(f:Int)) (by omega) (by omega);have bW:=cj.1;have Ce:gl (po M) (f:Int)=(List.range M.length).map fun k=>bC M k f:=by rw [db (by omega)];simp [po]
  have iD:(rg oD (f:Int)).n=i:=by rw [←bW,Ce];simp [ig]
  refine av O (aw x8.top.2 O O O (by omega) (by omega) (bQ x8.top O (by omega) O O ?_));refine ad O (aa.len O O (ay O ?_));refine Cd.loop (α:=Nat×List aG×aiB) (fun z=> [(1,.pointer A1),(2,.pointer A2),(4,.pointer A4),(40,.slice rQ F F),(41,aiD (F:Int)),(42,aiD (f:Int)),(8,.slice (rg oD (f:Int)).a (rg oD (f:Int)).n (rg oD (f:Int)).c),(46,.slice (rg oD (f:Int)).a (rg oD (f:Int)).n (rg oD (f:Int)).c),(47,aiD ((rg oD (f:Int)).n:Int)),(48,aiD (z.1:Int))]) (fun z w'=>z.1≤i∧z.2.1.length=N∧qO M f z.1 z.2.2∧St w w' (bj A4 i AR N cR da N N::(aE 32 2 da N N z.2.1 z.2.2++KK))) (fun z=>i - z.1) (0,CX,B) ⟨O,O,O,O,O,O,O,O,O,O,ae⟩ ⟨aW _,Hj,hB,hS⟩ ?_;clear hS hB x8 cj bW Hj;rintro⟨j,cG,B4⟩ e eu ⟨hj,tN,fq,aJ⟩;dsimp only at hj tN fq aJ⊢;have ob:B4.length=N:=by rw [fq.len,l0]
  refine bK O ?_;refine aB _ O (fun h6=>?_) (fun h6=>?_)
  ·have tF:j<i:=by omega
   have x8:=(aJ.sub (lK cG B4)).rN PS;have cj:=x8.at_ (i:=(f:Int)) (by omega) (by omega);have bW:=cj.1;have QX:gi (gl (po M) (f:Int)) (j:Int)=bC M j f:=by rw [bX (by omega)];simp [Ce]
   have dq:=pn hM (i:=j) (f:=f) (by omega);have G6:=nG M (show j+1≤M.length by omega);rw [l0]at G6;obtain⟨E,hE⟩:∃E:Nat,bC M j f=E:=⟨(bC M j f).toNat,by omega⟩;rw [hE]at QX dq;have gH:=fq.next hM (by omega) (show j<M.length by omega);rw [hE,ir]at gH;have qY:E<N:=by omega
   have Cu:(gl (po M) (f:Int)).take j=(List.range j).map fun k=>bC M k f:=by
    rw [Ce,←List.map_take,List.take_range,Nat.min_eq_left (by omega)]
   have fH:br eu da N cG B4:=(aJ.perm (iH (l₁:=aE 32 2 da N N cG B4)).symm).gC ob;have yu:=(fH.at_ (i:=(E:Int)) (by omega) (by omega)).1;have G8:=fq.num E;refine av O (aw cj.2 O O O (by omega) (by omega) (aT cj O (by omega) O O (ay O ?_)));rw [QX];have sD:(bj A4 i AR N cR da N N::(aE 32 2 da N N cG B4++KK))[2+E]?=some (ah 2 (rg cG (E:Int)).a (rg cG (E:Int)).n (rg cG (E:Int)).c (gl B4 (E:Int))):=CF (t1:=32) (t2:=2) (A:=da) (n:=N) (c:=N) (rs:=cG) (xss:=B4) (pre:=[bj A4 i AR N cR da N N]) (ks:=KK) (i:=E) (by omega) (by omega);have nz:=fun(s:aG) (xs:List Int)=>LY (t1:=32) (t2:=2) (A:=da) (n:=N) (c:=N) (rs:=cG) (xss:=B4) (ks:=KK) (q:=bj A4 i AR N cR da N N) (i:=E) s xs (by omega) (by omega)
   refine iU [11,13] [yP (aq A4 2),yS (da) (N) (N),yI ((E:Int)),yP (aq (A4) 2),yS (da) (N) (N),yI ((E:Int)),yP (aq (da) ((E:Int)).toNat),yS ((rg (cG) ((E:Int))).a) ((rg (cG) ((E:Int))).n) ((rg (cG) ((E:Int))).c),yS ((rg oD (f:Int)).a) ((rg oD (f:Int)).n) ((rg oD (f:Int)).c),yI ((j:Int)),yS ((rg oD (f:Int)).a) (j) ((rg oD (f:Int)).c),.pr (fun v w'=>∃AZ cZ,v= .slice AZ ((rg cG (E:Int)).n+j) cZ∧St w w' (bj A4 i AR N cR da N N::(bU 32 da N N cG::(cS 2 (cG.set E ⟨AZ,(rg cG (E:Int)).n+j,cZ⟩) (B4.set E (gl B4 (E:Int)++ (gl (po M) (f:Int)).take j))++KK)))),yP (aq da ((E:Int)).toNat),.pr (fun _ w'=>∃AZ cZ,St w w' (bj A4 i AR N cR da N N::(aE 32 2 da N N (cG.set E ⟨AZ,(rg cG (E:Int)).n+j,cZ⟩) (B4.set E (gl B4 (E:Int)++ (gl (po M) (f:Int)).take j))++KK)))] (by kernel_rfl) (by kernel_rfl) (ly (ly (ly (ly (ly (ly (ly (ly (ly (ly (ly (bV.2 ⟨Ye.b9 (fun v w w' h hb=>by obtain⟨AZ,cZ,hv,hT⟩:=h;exact⟨AZ,cZ,hv,hT.later hb⟩),(ly (bV.2 ⟨Ye.b9 (fun v w w' h hb=>by obtain⟨AZ,cZ,hT⟩:=h;exact⟨AZ,cZ,hT.later hb⟩),(fun _ h=>by cases h)⟩))⟩)))))))))))) ?_ ?_
   ·refine⟨?_,?_,ba O,cP fun _ _ hb _ _ _=>aH ((aJ.rd 0 O).below hb) O O O O inferInstance (aX O O),cP fun _ _ hb _ _ _=>aM ((aJ.rd 0 O).below hb) O O O O O (aX O O),ba O,cP fun _ _ hb _ _ _=>aw (fH.top.later hb).2 O O O (by omega) (by omega) (aX O O),cP fun _ _ hb _ _ _=>bQ (fH.top.later hb) O (by omega) O O (aX O O),ba O,ba O,aP fun _ _=>Ic O O O (by have:=x8.cap_ (i:=(f:Int)) (by omega) (by omega);omega) (aX O O),?_,?_,?_,ae⟩
    ·intro e1 w1 cc dp bJ dz hp aL hq;show aa _ _ _ _ _ _ _;have hX:Rd w1 A4 3 (fun q=> [Value.int .i64 (i:Int),.slice AR N cR,.slice da N N].getD q undef):=by { have bJ:=mw bJ (b:=1) (by kernel_rfl);rcases(show cc=0∨cc=1 by omega)with h | h; { exact(aJ.later (dz h)).rd 0 rfl }; { subst h;obtain⟨AZ,cZ,_,hT⟩:=hq 11 _ _ (by kernel_rfl) (by kernel_rfl) (by kernel_rfl) rfl rfl (by kernel_rfl);exact hT.rd 0 rfl } }
     refine aH hX O O O O inferInstance (aa.n (fh O (by exact O)))
    ·intro e1 w1 cc dp bJ dz hp aL hq;show aa _ _ _ _ _ _ _;have hX:Rd w1 A4 3 (fun q=> [Value.int .i64 (i:Int),.slice AR N cR,.slice da N N].getD q undef):=by { have bJ:=mw bJ (b:=1) (by kernel_rfl);rcases(show cc=0∨cc=1 by omega)with h | h; { exact(aJ.later (dz h)).rd 0 rfl }; { subst h;obtain⟨AZ,cZ,_,hT⟩:=hq 11 _ _ (by kernel_rfl) (by kernel_rfl) (by kernel_rfl) rfl rfl (by kernel_rfl);exact hT.rd 0 rfl } }
     refine aM hX O O O O O (aa.n (fh O (by exact O)))
    ·refine iY fun e1 w1 hb hp aL hq=>?_
     have Zo:=x8.later hb;refine eK (2+E) (aJ.later hb) sD ((Zo.at_ (i:=(f:Int)) (by omega) (by omega)).take (l:=j) (by omega)) O O O (by omega) (by omega) O ?_;intro AZ cZ wZ hZ;rw [nz ⟨AZ,(rg cG (E:Int)).n+j,cZ⟩ (gl B4 (E:Int)++ (gl (po M) (f:Int)).take j)]at hZ;refine aa.n ?_;exact eA.dn O ⟨AZ,cZ,O,hZ⟩
    ·intro e1 w1 cc dp bJ dz hp aL hq;show aa _ _ _ _ _ _ _;have hX:jD w1 da N cG:=by { have bJ:=mw bJ (b:=1) (by kernel_rfl);rcases(show cc=0∨cc=1 by omega)with h | h; { exact(aJ.later (dz h)).il 1 rfl }; { subst h;obtain⟨AZ,cZ,_,hT⟩:=hq 11 _ _ (by kernel_rfl) (by kernel_rfl) (by kernel_rfl) rfl rfl (by kernel_rfl);exact hT.il 1 rfl } }
     refine aw hX.2 O O O (by omega) (by omega) (aa.n (fh O (by exact O)))
    refine oQ 1 fun e1 w1 hp aL hq=>?_
    have dH:=hp 11 _ _ (by kernel_rfl) O O (by kernel_rfl);obtain⟨AZ,cZ,Zb,hT⟩:=dH;refine zc (te:=32) (n:=N) (c:=N) (A:=da) (xs:=cG) 1 hT O O (by exact Zb) (by omega) ?_;intro wY hY;refine aa.n ?_;exact eA.st O ⟨AZ,cZ,hY⟩
   intro u gm _ hu _ _;obtain⟨AZ,cZ,hT⟩:=hu 13 _ rfl (by kernel_rfl);rw [Cu]at hT;refine iq O (aa.add O O O (by omega) (aF O (tQ ?_)));exact⟨(j+1,_,_),by show i - (j+1)<i - j;omega,⟨O,O,O,O,O,O,O,O,O,O,ae⟩,by show j+1≤i;omega,by simp [tN],gH,hT⟩
  have tF:j=M.length:=by omega
  subst tF;refine aY O (aZ (cL O (aa.add O O O (by omega) (aF O (tQ ?_)))));exact⟨(f+1,cG,B4),by show F - (f+1)<F - f;omega,⟨O,O,O,O,O,O,ae⟩,by show f+1≤F;omega,tN,fq.row hM,aJ⟩
 have sC:f=F:=by omega
 subst sC;have ob:B.length=N:=by rw [hB.len,l0]
 have D8:∀e':Nat,e'<N→cs (gl B (e':Int))=gl (bn M) (e':Int):=fun e' tD=>qO.done hM (by rw [hF];exact hB) (by omega)
 have G8:∀e':Nat,(gl B (e':Int)).length≤25*f:=fun e'=>by have:=hB.num e';omega
 have fq:=hS.rd 0 O;refine aY O (aZ (cL O ?_));refine aH fq O O O O inferInstance (aM fq O O O O O ?_);refine aa.len O O (ay O ?_);refine Cd.loop (α:=Nat×List aG) (fun z=> [(2,.pointer A2),(4,.pointer A4),(70,aiD (N:Int)),(71,aiD (z.1:Int))]) (fun z w'=>z.1≤N∧z.2.length=N∧St w w' (bj A4 i AR N cR da N N::(aE 32 2 da N N z.2 (my B z.1)++KK))) (fun z=>N - z.1) (0,CX) ⟨O,O,O,O,ae⟩ ⟨aW _,Hj,by rw [adN];exact hS⟩ ?_;clear hS fq;rintro⟨E,cG⟩ e eu ⟨hE,tN,hS⟩;dsimp only at hE tN hS⊢;have jK:=adL B E;refine bK O ?_;refine aB _ O (fun h6=>?_) (fun h6=>?_)
 ·have qY:E<N:=by omega
  have Rk:=adK (B:=B) (e:=E) (by omega);have pV:=adM (B:=B) (e:=E) (by omega);have fq:=hS.rd 0 O;have fH:br eu da N cG (my B E):=(hS.perm (iH (l₁:=aE 32 2 da N N cG (my B E))).symm).gC (by omega);have yu:=(fH.at_ (i:=(E:Int)) (by omega) (by omega)).1;rw [Rk]at yu;have hq:=G8 E;have sD:(bj A4 i AR N cR da N N::(aE 32 2 da N N cG (my B E)++KK))[2+E]?=some (ah 2 (rg cG (E:Int)).a (rg cG (E:Int)).n (rg cG (E:Int)).c (gl B (E:Int))):=by
   have h0:=CF (t1:=32) (t2:=2) (A:=da) (n:=N) (c:=N) (rs:=cG) (xss:=my B E) (pre:=[bj A4 i AR N cR da N N]) (ks:=KK) (i:=E) (by omega) (by omega);rw [←Rk];exact h0
  have aaF:=(ia.1 sD).1;have nz:=fun(s:aG) (xs:List Int)=>LY (t1:=32) (t2:=2) (A:=da) (n:=N) (c:=N) (rs:=cG) (xss:=my B E) (ks:=KK) (q:=bj A4 i AR N cR da N N) (i:=E) s xs (by omega) (by omega)
  refine av O (aH fq O O O O inferInstance (aM fq O O O O O (ad O (aw fH.top.2 O O O (by omega) (by omega) (bQ fH.top O (by omega) O O (aa.call (af4 (2+E) hS sD (by omega)) O O O ?_))))));rintro _ gm ⟨rfl,aV⟩;have Ea:((bj A4 i AR N cR da N N::(aE 32 2 da N N cG (my B E)++KK)).set (2+E) (ah 2 (rg cG (E:Int)).a (rg cG (E:Int)).n (rg cG (E:Int)).c (nJ (gl B (E:Int)))))[2+E]?=some (ah 2 (rg cG (E:Int)).a (rg cG (E:Int)).n (rg cG (E:Int)).c (nJ (gl B (E:Int)))):=by
   rw [oI,aj rfl,aj aaF]
  have e7:=nz ⟨(rg cG (E:Int)).a,(rg cG (E:Int)).n,(rg cG (E:Int)).c⟩ (nJ (gl B (E:Int)));have dF:jD gm da N cG:=by
   have h8:=aV;rw [e7]at h8;exact h8.il 1 O
  have Gu:Rd gm A4 3 (fun q=> [Value.int .i64 (i:Int),.slice AR N cR,.slice da N N].getD q undef):=by
   have h8:=aV;rw [e7]at h8;exact h8.rd 0 O
  refine ay O ?_;refine iU [8,10] [yP (aq A4 2),yS (da) (N) (N),yI ((E:Int)),yP (aq (A4) 2),yS (da) (N) (N),yI ((E:Int)),yP (aq (da) ((E:Int)).toNat),yS ((rg (cG) ((E:Int))).a) ((rg (cG) ((E:Int))).n) ((rg (cG) ((E:Int))).c),.pr (fun v w'=>v= .slice (rg cG (E:Int)).a (lF (nJ (gl B (E:Int)))).length (rg cG (E:Int)).c∧St w w' (bj A4 i AR N cR da N N::(bU 32 da N N cG::(cS 2 (cG.set E ⟨(rg cG (E:Int)).a,(lF (nJ (gl B (E:Int)))).length,(rg cG (E:Int)).c⟩) ((my B E).set E (lF (nJ (gl B (E:Int)))))++KK)))),yP (aq da ((E:Int)).toNat),.pr (fun _ w'=>St w w' (bj A4 i AR N cR da N N::(aE 32 2 da N N (cG.set E ⟨(rg cG (E:Int)).a,(lF (nJ (gl B (E:Int)))).length,(rg cG (E:Int)).c⟩) ((my B E).set E (lF (nJ (gl B (E:Int)))))++KK)))] (by kernel_rfl) (by kernel_rfl) (ly (ly (ly (ly (ly (ly (ly (ly (bV.2 ⟨Ye.b9 (fun v w w' h hb=> ⟨h.1,h.2.later hb⟩),(ly (bV.2 ⟨Ye.b9 (fun v w w' h hb=>h.later hb),(fun _ h=>by cases h)⟩))⟩))))))))) ?_ ?_
  ·refine⟨?_,?_,ba O,cP fun _ _ hb _ _ _=>aH (Gu.below hb) O O O O inferInstance (aX O O),cP fun _ _ hb _ _ _=>aM (Gu.below hb) O O O O O (aX O O),ba O,cP fun _ _ hb _ _ _=>aw (dF.later hb).2 O O O (by omega) (by omega) (aX O O),cP fun _ _ hb _ _ _=>bQ (dF.later hb) O (by omega) O O (aX O O),?_,?_,?_,ae⟩
   ·intro e1 w1 cc dp bJ dz hp aL hq;show aa _ _ _ _ _ _ _;have hX:Rd w1 A4 3 (fun q=> [Value.int .i64 (i:Int),.slice AR N cR,.slice da N N].getD q undef):=by { have bJ:=mw bJ (b:=1) (by kernel_rfl);rcases(show cc=0∨cc=1 by omega)with h | h; { exact Rd.below Gu (dz h) }; { subst h;obtain⟨_,hT⟩:=hq 8 _ _ (by kernel_rfl) (by kernel_rfl) (by kernel_rfl) rfl rfl (by kernel_rfl);exact hT.rd 0 rfl } }
    refine aH hX O O O O inferInstance (aa.n (fh O (by exact O)))
   ·intro e1 w1 cc dp bJ dz hp aL hq;show aa _ _ _ _ _ _ _;have hX:Rd w1 A4 3 (fun q=> [Value.int .i64 (i:Int),.slice AR N cR,.slice da N N].getD q undef):=by { have bJ:=mw bJ (b:=1) (by kernel_rfl);rcases(show cc=0∨cc=1 by omega)with h | h; { exact Rd.below Gu (dz h) }; { subst h;obtain⟨_,hT⟩:=hq 8 _ _ (by kernel_rfl) (by kernel_rfl) (by kernel_rfl) rfl rfl (by kernel_rfl);exact hT.rd 0 rfl } }
    refine aM hX O O O O O (aa.n (fh O (by exact O)))
   ·refine iY fun e1 w1 hb hp aL hq=>?_
    refine aa.call (Xp (2+E) (aV.later hb) Ea (by omega)) O O O ?_;rintro _ w9 ⟨rfl,bA⟩;rw [kI,nz ⟨(rg cG (E:Int)).a,(lF (nJ (gl B (E:Int)))).length,(rg cG (E:Int)).c⟩ (lF (nJ (gl B (E:Int))))]at bA;refine aa.n ?_;exact eA.dn O ⟨O,bA⟩
   ·intro e1 w1 cc dp bJ dz hp aL hq;show aa _ _ _ _ _ _ _;have hX:jD w1 da N cG:=by { have bJ:=mw bJ (b:=1) (by kernel_rfl);rcases(show cc=0∨cc=1 by omega)with h | h; { exact dF.later (dz h) }; { subst h;obtain⟨_,hT⟩:=hq 8 _ _ (by kernel_rfl) (by kernel_rfl) (by kernel_rfl) rfl rfl (by kernel_rfl);exact hT.il 1 rfl } }
    refine aw hX.2 O O O (by omega) (by omega) (aa.n (fh O (by exact O)))
   refine oQ 1 fun e1 w1 hp aL hq=>?_
   have dH:=hp 8 _ _ (by kernel_rfl) O O (by kernel_rfl);obtain⟨JE,hT⟩:=dH;refine zc (te:=32) (n:=N) (c:=N) (A:=da) (xs:=cG) 1 hT O O (by exact JE) (by omega) ?_;intro wY hY;refine aa.n ?_;exact eA.st O hY
  intro u dW _ hu _ _;have hT:=hu 10 _ O (by kernel_rfl);have hT:St w dW (bj A4 i AR N cR da N N::(aE 32 2 da N N (cG.set E ⟨(rg cG (E:Int)).a,(lF (nJ (gl B (E:Int)))).length,(rg cG (E:Int)).c⟩) ((my B E).set E (cs (gl B (E:Int))))++KK)):=hT;rw [pV]at hT;refine iq O (aa.add O O O (by omega) (aF O (tQ ?_)));exact⟨(E+1,_),by show N - (E+1)<N - E;omega,⟨O,O,O,O,ae⟩,by show E+1≤N;omega,by simp [tN],hT⟩
 have qY:E=N:=by omega
 have dL:my B E=bn M:=by
  rw [qY,←ob,adJ];apply ji
  ·rw [fN,tm,ob,l0]
  intro k h1 h2;rw [fN]at h1;have e1:=D8 k (by omega);rw [db h1,db h2]at e1;rw [List.getElem_map];exact e1
 rw [dL]at hS;refine aY O (aZ (cL O ?_));refine aa.bq 2 (hS.rd 0 O) O O O ?_;have ar:St w eu (bj A2 0 none 0 0 none 0 0::(ah 2 AR N cR (aO M i)::(aE 32 2 da N N cG (bn M)++ []))):=by
  have hs:(aE 32 2 da N N cG (bn M)++ [ah 2 AR N cR (aO M i),bj A2 0 none 0 0 none 0 0]).Sublist (bj A4 i AR N cR da N N::(aE 32 2 da N N cG (bn M)++KK)):=by
   rw [qZ];exact List.Sublist.cons _ (List.Sublist.append_left (List.Sublist.cons_cons _ (List.Sublist.cons_cons _ (List.nil_sublist _))) _)
  refine(hS.sub hs).perm ?_;rw [fg];exact(lh).trans (List.Perm.swap _ _ _)
 refine bG 3 0 ar O O O O O O O ?_;intro gm eG;refine bh O (kA O (eG.rd 0 O) O ?_);refine .inr ⟨by omega,AR,cR,da,N,cG,?_,by rw [l0];exact tN,?_⟩
 ·rw [l0,ig];rfl
 rw [l0,ig];exact eG.tail
structure CV where
 s:aG
 v:Int
section
variable {w0 w:World} {ks:List Ck} {i:Nat} {t:TypeId} {A:aiC} {k q:Nat} {cs:List CV}
theorem St.Wl(h:St w0 w ks)(cs:List Value)(e:TypeId)(n c:Nat)(hn:n≤c)(hc:c≤cs.length)(hm:c≤maxLen)(hM:eH cs=false):St w0 (w.alloc (.cells cs.toArray e)) (⟨some ⟨w.heap.size,0,Option.none⟩,n,c,e,cs.take n⟩::ks):=by
 have hb:Below w.heap.size w (w.alloc (.cells cs.toArray e)):=(Below.refl _ _).alloc (a8 _) _;have h1:=h.later hb;refine⟨h1.below,fun k hk=>?_,?_⟩
 ·rcases iW.1 hk with rfl | hk
  ·refine .rI (Sj n hM) ⟨by simp;omega,hn,hm,.inr ⟨_,0,cs.toArray,O,h.below.size,heap_alloc_new w _,by simp;omega,fun j hj=>?_⟩⟩;have hj:j<n:=hj;simp [rW,hj]
  exact h1.own k hk
 simp only [List.filterMap_cons,Ck.ie,Option.map_some,pg];refine⟨fun dq=>?_,h.apart⟩;obtain⟨k',fM,wJ⟩:=List.mem_filterMap.1 dq;have:=((h.own k' fM).lt wJ).2;omega
theorem Tx{α:Type}:∀(l:List α) (i:Nat) (x y:α),l[i]?=some y→(x::l).Perm (y::l.set i x)
 | [],i,x,y,h=>by simp at h
 | u::l,0,x,y,h=>by simp at h;subst h;exact List.Perm.swap _ _ _
 | u::l,i+1,x,y,h=>by
  simp only [List.getElem?_cons_succ]at h;simp only [List.set_cons_succ];exact(List.Perm.swap _ _ _).trans (((Tx l i x y h).cons u).trans (List.Perm.swap _ _ _))
end
section
variable {P:Program} {N:Nat} {ops:Array Oper} {K:Env→World→Prop} {rest:List Oper} {e:Env} {w0 w w':World} {ks:List Ck} {d:Nat} {ty:TypeId} {pos:String} {af:Array Edge}
end
structure TV where
 f:Int
 g:Int
 r:Int
def TV.cs(x:TV):List Value:=[aiD x.f,aiD x.g,aiD x.r]
def TV.v(x:TV):Value:= .agg #[aiD x.f,aiD x.g,aiD x.r]
def MN:TV:=⟨0,0,0⟩
def tg(l:List TV)(i:Int):TV:=l.getD i.toNat MN
def fp:List TV→List Value
 | []=> []
 | x::r=> .int .i64 x.f:: .int .i64 x.g:: .int .i64 x.r::fp r
theorem Dx:∀l:List TV,(fp l).length=3*l.length
 | []=>rfl
 | x::r=>by
  simp only [fp,List.length_cons];rw [Dx r];omega
theorem Jb:∀a b:List TV,fp (a++b)=fp a++fp b
 | [],_=>rfl
 | x::r,b=>by
  simp only [List.cons_append,fp];rw [Jb r b]
theorem OT:∀ {l:List TV} {i:Nat} (h:i<l.length),(fp l)[3*i]?=some (aiD l[i].f)∧(fp l)[3*i+1]?=some (aiD l[i].g)∧(fp l)[3*i+2]?=some (aiD l[i].r)
 | x::r,0,_=> ⟨rfl,rfl,rfl⟩
 | x::r,i+1,h=>by
  have:=OT (l:=r) (i:=i) (by simpa using h);simp only [fp,List.getElem_cons_succ];rw [show 3* (i+1)=3*i+1+1+1 by omega];simpa using this
theorem OV:∀(l:List TV) (i:Nat),(fp l).take (3*i)=fp (l.take i)
 | [],i=>by simp [fp]
 | x::r,0=>rfl
 | x::r,i+1=>by
  rw [show 3* (i+1)=3*i+1+1+1 by omega];simp only [fp,List.take_succ_cons];rw [OV r i]
theorem OU:∀ {l:List TV} {i:Nat} (_:i<l.length) (v:TV),rO (fp l) (3*i) v.cs=fp (l.set i v)
 | x::r,0,_,v=>rfl
 | x::r,i+1,h,v=>by
  have:=OU (l:=r) (i:=i) (by simpa using h) v;have e:∀(a b c:Value) (t:List Value) (o:Nat) (vs:List Value),rO (a::b::c::t) (o+3) vs=a::b::c::rO t o vs:=by
   intro a b c t o vs
   induction vs generalizing t o with
   | nil=>rfl
   | cons v vs ih=>
    rw [rO,rO];rw [show(a::b::c::t).set (o+3) v=a::b::c::t.set o v from rfl,show o+3+1=(o+1)+3 by omega,ih]
  rw [show 3* (i+1)=3*i+3 by omega,fp,e,this]
  rfl
theorem Cz(l:List TV):eH (fp l)=false:=by cases l<;>rfl
def dM(t:TypeId)(A:aiC)(k q:Nat)(cs:List TV):Ck:=⟨A,3*k,min (3*q) maxLen,t,fp cs⟩
def qP(w:World)(A:aiC)(k:Nat)(cs:List TV):Prop:=cs.length=k∧Rd w A (3*k) (fun j=> (fp cs).getD j undef)
theorem qP.later{w w':World}{A:aiC}{k:Nat}{cs:List TV}(h:qP w A k cs)(hb:Below w.heap.size w w'):qP w' A k cs:=⟨h.1,Rd.below h.2 hb⟩
section
variable {w0 w:World} {ks:List Ck} {i:Nat} {t:TypeId} {A:aiC} {k q:Nat} {cs:List TV}
theorem St.ke(h:St w0 w ks)(i:Nat)(hk:ks[i]?=some (dM t A k q cs)):qP w A k cs:=by
 have h1:(fp cs).length=3*k:=(h.tp hk (Cz _)).1;rw [Dx]at h1;exact⟨by omega,h.rd i hk⟩
theorem St.N5(h:St w0 w ks)(i:Nat)(hk:ks[i]?=some (dM t A k q cs)):k≤q∧3*k≤maxLen:=by
 have h1:3*k≤min (3*q) maxLen:=(h.get hk).cap.1;omega
theorem qP.take{l:Nat}(h:qP w A k cs)(hl:l≤k):qP w A l (cs.take l):=by
 have h1:=h.1;refine⟨by rw [pf];omega,fun j hj=>?_⟩;obtain⟨p,hp,hc⟩:=h.2 j (by omega);refine⟨p,hp,?_⟩;rw [hc,←OV];simp [cJ,rW,hj]
theorem qP.at_(h:qP w A k cs){j:Nat}(hj:j<k):Rd w (aq A (j*3)) 3 (fun m=> ((cs[j]'(by rw [h.1];exact hj)).cs).getD m undef):=by
 have hl:j<cs.length:=by rw [h.1];exact hj
 have:=(h.2.behind (o:=j*3) (m:=3) (by omega));refine this.congr fun m hm=>?_
 have hg:=OT hl;rcases(show m=0∨m=1∨m=2 by omega)with rfl | rfl | rfl
 ·rw [show j*3+0=3*j by omega,cJ,hg.1];rfl
 ·rw [show j*3+1=3*j+1 by omega,cJ,hg.2.1];rfl
 rw [show j*3+2=3*j+2 by omega,cJ,hg.2.2];rfl
theorem UX{z z0 z1 z2:Value}(hz:z.cells= #[z0,z1,z2])(m:Nat):(Builtin.zeroCells z.cells m).toList.length=3*m:=by
 rw [hz];simp [Builtin.zeroCells];omega
end
section
variable{t:TypeId}{x:Operand}{z z0 z1 z2:Value}{b:Nat}{i:Int}
variable {P:Program} {N:Nat} {ops:Array Oper} {K:Env→World→Prop} {rest:List Oper} {e:Env} {w0 w w':World} {ks:List Ck} {d:Nat} {ty:TypeId} {pos:String} {af:Array Edge}
theorem kK{el:TypeId}{v0 v1 v2:Value}(hS:St w0 w ks)(hx:ev e x= .agg #[v0,v1,v2])(hb:Nat.blt d N=true)(hK:∀A w',St w0 w' (Bx el 3 A [v0,v1,v2]::ks)→aa P N ops K rest (a7 e d (.pointer A)) w')(hM:eH [v0,v1,v2]=false:=by rfl):aa P N ops K (⟨some d,.box el x,ty,pos,af,none⟩::rest) e w:= .FN hS hx hb rfl hK hM
theorem kL{el:TypeId}[bB P t (.slice el)][bp P el z 3 b]{ix:Operand}{A:aiC}{n c:Nat}{k:IntKind}{cs:List TV}(hR:qP w A n cs)(hx:ev e x= .slice A n c)(hy:ev e ix= .int k i)(hb:Nat.blt d N=true)(h0:0≤i)(h1:i< (n:Int))(hK:aa P N ops K rest (a7 e d (.pointer (aq A (i.toNat*3)))) w):
 aa P N ops K (⟨some d,.indexAddr t x ix,ty,pos,af,none⟩::rest) e w:=by
 obtain⟨p,hp,_⟩:=hR.2 i.toNat (by omega);obtain⟨q,rfl⟩:∃q,A=some q:=by cases A with | none=>simp [aq]at hp | some q=>exact⟨q,rfl⟩
 obtain⟨inf,hi,_,hs,_⟩:=bp.get P el;refine .val (w':=w) ?_ hb hK;simp [execOp,Instr.indexAt,hx,hy,asIntOf,run_underlying (bB.out (P:=P) (t:=t)),h0,h1,sizeOf,typeInfo,hi,hs,aq]
theorem VF{el:TypeId}[hU:bB P t (.slice el)][bp P el z 3 b]{dT:Operand}{A:aiC}{n c:Nat}{k:IntKind}{h:Int}(hx:ev e x= .slice A n c)(hh:ev e dT= .int k h)(hb:Nat.blt d N=true)(h0:0≤h∧h≤(c:Int))(hK:aa P N ops K rest (a7 e d (.slice A h.toNat c)) w):aa P N ops K (⟨some d,.slice t x none (some dT) none,ty,pos,af,none⟩::rest) e w:=by
 obtain⟨inf,hi,fv,hs,iS⟩:=bp.get P el;refine .val (w':=w) ?_ hb hK;have:=run_sliceBound (P:=P) w k h c .sliceAcap h0.1 h0.2;have hA:A.map (fun x=>x.add 0)=A:=by cases A<;>simp [Addr.add]
 simp [execOp,hx,hh,Instr.sliceAt,run_underlying hU.out,Instr.slice,Instr.sliceBounds,this,sizeOf,typeInfo,hi,hs,hA]
theorem VB{el:TypeId}[bB P t (.slice el)][bp P el z 3 b]{x0:Operand}{v:TV}(hS:St w0 w ks)(h0:ev e x0=v.v)(hz:z.cells= #[z0,z1,z2])(hb:Nat.blt d N=true)(hK:∀A w',St w0 w' (dM el A 1 1 [v]::ks)→aa P N ops K rest (a7 e d (.slice A 1 1)) w'):aa P N ops K (⟨some d,.buildSlice t 1 #[(0,x0)],ty,pos,af,none⟩::rest) e w:=by
 obtain⟨inf,hi,fv,hs,iS⟩:=bp.get P el;refine .val (w':=w.alloc (.cells #[aiD v.f,aiD v.g,aiD v.r] el)) ?_ hb (hK _ _ (hS.alloc [aiD v.f,aiD v.g,aiD v.r] el (by simp [maxLen]) O));simp [execOp,Instr.buildSlice,run_underlying (bB.out (P:=P) (t:=t)),sizeOf,typeInfo,zeroValue,hi,hs,fv,hz,Instr.fill,newRow,h0,Dh,ng,Value.cells,TV.v]
theorem afQ{el:TypeId}[hU:bB P t (.slice el)][bp P el z 3 b](hz:z.cells= #[z0,z1,z2]){A:aiC}{n c:Nat}{cs:List TV}(i:Nat)(hS:St w0 w ks)(hk:ks[i]?=some (dM el A n c cs)){A':aiC}{m c':Nat}{ds:List TV}(hR:qP w A' m ds)
 (ur:3* (n+m)≤maxLen) (sy:(n+m)*b≤140737488355328) (ty:TypeId):
 ∃A2 c2 w',(Builtin.append_ #[t,t] ty #[.slice A n c,.slice A' m c']).run P w= .ok (.slice A2 (n+m) c2) w'∧St w0 w' (ks.set i (dM el A2 (n+m) c2 (cs++ds))):=by
 obtain⟨inf,hi,fv,hs,iS⟩:=bp.get P el;have Er:=hS.tp hk (Cz _);have kr:=hS.N5 i hk;have cg:=(hS.ke i hk).1;obtain⟨hl,qu,qo,h4⟩:=Er;have zH:=(ia.1 hk).1
 by_cases hm:m=0
 ·subst hm;have zB:ds=[]:=s7 hR.1;subst zB;refine⟨A,c,w,?_,?_⟩
  ·cases A' with
   | none=>cases A<;>simp [Builtin.append_,run_underlying hU.out,sizeOf,typeInfo,hi,Builtin.lenOf,Builtin.firstCells,kr.1,storeCells]
   | some a=>
    cases A<;>simp [Builtin.append_,run_underlying hU.out,sizeOf,typeInfo,hi,Builtin.lenOf,Builtin.firstCells,kr.1,storeCells,loadCells,loadCellsFrom]
  ·rw [fg,Nat.add_zero];have:ks.set i (dM el A n c cs)=ks:=by
    apply List.ext_getElem?;intro j;rw [oI]
    split
    ·rename_i e;subst e;rw [hk]
     try simp [zH]
    ·rfl
   rw [this];exact hS
 ·obtain⟨a,rfl⟩:∃a,A'=some a:=by
   obtain⟨p,hp,_⟩:=hR.2 0 (by omega);cases A' with | none=>simp [aq]at hp | some q=>exact⟨q,rfl⟩
  have ig:(fp ds).length=m*3:=by rw [Dx,hR.1];omega
  have wO:∀j v,(fp ds)[j]?=some v→w.cell? (a.add j)=some v:=by
   intro j v hj;have Ch:j<3*m:=by have:=(ia.1 hj).1;omega
   obtain⟨p,hp,hc⟩:=hR.2 j Ch;simp only [aq,Option.map_some,pj]at hp;rw [hp,hc];show some ((fp ds).getD j undef)=some v;rw [cJ,hj]
   rfl
  have wi:∀u∈fp ds,u.oneCell'=true:=by
   intro u hu;obtain⟨j,hj,rfl⟩:=gJ.1 hu;have gen:∀(l:List TV),∀u∈fp l,u.oneCell'=true:=by
    intro l
    induction l with
    | nil=>intro u h;cases h
    | cons x l ih=>
     intro u h;simp only [fp,iW]at h;rcases h with rfl | rfl | rfl | h
     ·rfl
     ·rfl
     ·rfl
     ·exact ih u h
   exact gen ds _ (dQ hj)
  have QF:(fp cs).length=3*n:=by rw [Dx,cg]
  have fresh:∀(xs:List Value) (c2:Nat),n+m≤c2→xs.length=3*c2→xs.take (3* (n+m))=fp cs++fp ds→eH xs=false→
   St w0 (w.drew.alloc (.cells xs.toArray el)) (ks.set i (dM el (some ⟨w.heap.size,0,none⟩) (n+m) c2 (cs++ds))):=by
   intro xs c2 h5 h7 h8 h9;have hA:=hS.drew.Wl xs el (3* (n+m)) (min (3*c2) maxLen) (by omega) (by omega) (by omega) h9;rw [h8,←Jb]at hA;exact(hA.perm (Tx ks i _ _ hk)).tail
  have JB:((n+m:Nat):Int)≤9223372036854775807:=by simp only [maxLen]at ur;omega
  have h63n:n+m≤maxLen:=by omega
  rcases h4 with⟨hA,h0⟩ | ⟨g,o,cur,hA,hg,hh,l7,hc⟩
  ·have hA:A=none:=hA;subst hA;have h0:min (3*c) maxLen=0:=h0;have pO:c=0:=by simp only [maxLen]at h0;omega
   have qt:n=0:=by omega
   subst pO qt;have wV:cs=[]:=s7 cg;subst wV;have hr:=run_append_nil (P:=P) w t ty el inf z hU.out hi fv a m c' (fp ds) (by rw [ig,hs]) wO (by omega) (by omega) (by rw [iS];rw [Nat.zero_add]at sy;omega);have zE:=grownCap_ge w m 0 el;have uP:=UX hz (grownCap w m 0 el - m);refine⟨some ⟨w.heap.size,0,none⟩,grownCap w m 0 el,_,?_,fresh (fp ds++ (Builtin.zeroCells z.cells (grownCap w m 0 el - m)).toList) (grownCap w m 0 el) (by omega) (by rw [dm,uP,ig];omega) (by
    rw [xG (by omega),lS (by omega)]
    rfl) (EL (Cz _) (by intro hn;rw [hn]at ig;simp at ig;omega))⟩
   rw [Nat.zero_add,hr]
   congr 3
   apply Array.ext';simp
  ·have hA:A=some ⟨g,o,none⟩:=hA;have hh:w.heap[g]?=some (.cells cur el (0,0)):=hh;have l7:o+min (3*c) maxLen≤cur.size:=l7;have hc:∀j,j<3*n→cur[o+j]?=(fp cs)[j]?:=hc
   by_cases Ez:n+m≤c
   ·have hf:=run_firstCells_some (P:=P) w inf.size m a m c' (fp ds) (by rw [ig,hs]) wO;have ak:=run_storeCells_at P g (o+3*n) el (fp ds) 0 cur w hh (by rw [ig];omega) wi;simp only [Nat.add_zero]at ak;refine⟨some ⟨g,o,none⟩,c,w.setRow g (cur.toList.take (o+3*n)++fp ds++cur.toList.drop (o+3*n+ (fp ds).length)).toArray,?_,hS.turn (k:=dM el A n c cs) (k':=dM el (some ⟨g,o,none⟩) (n+m) c (cs++ds)) (g:=g) hk (by simp [Ck.ie,dM,hA]) (by simp [Ck.ie,dM]) ?_ ?_⟩
    ·rw [hA];rw [hs]at hf;simp [Builtin.append_,run_underlying hU.out,sizeOf,typeInfo,hi,hs,Builtin.lenOf,Ez,Addr.add_lit,hf];rw [show n*3=3*n by omega];simp [ak]
    ·exact⟨⟨O,O,O,by simp,fun x _ hx=>setRow_other w g x _ (fun e=>hx (by rw [e]))⟩,a8 _⟩
    ·refine .rI (Cz _) ⟨by show(fp (cs++ds)).length=3* (n+m);rw [Dx,dm,cg,hR.1],by show 3* (n+m)≤min (3*c) maxLen;omega,qo,.inr ⟨g,o,_,O,hg,setRow_heap w g cur _ el _ hh,?_,fun j hj=>?_⟩⟩
     ·show o+min (3*c) maxLen≤_;simp;omega
     ·have kF:j<3* (n+m):=hj;show((cur.toList.take (o+3*n)++fp ds++cur.toList.drop (o+3*n+ (fp ds).length)).toArray)[o+j]?=(fp (cs++ds))[j]?;rw [Jb];have hcl2:cur.toList.length=cur.size:=by simp
      rw [List.getElem?_toArray]
      by_cases tG:j<3*n
      ·rw [fR,lQ (by simp;omega),rW,aj (by omega),lQ (by omega)];rw [Array.getElem?_toList];exact hc j tG
      ·rw [fR,jQ (by simp;omega),lQ (by simp;omega),jQ (by omega)]
       congr 1
       simp;omega
   ·have holds:∀j v,(fp cs)[j]?=some v→w.cell? ((⟨g,o,none⟩:Addr).add j)=some v:=by
     intro j v hj;have tG:j<3*n:=by have:=(ia.1 hj).1;omega
     rw [Bg];simp only [World.cell?,hh];simpa [hc j tG]using hj
    have hr:=run_append_grow (P:=P) w t ty el inf z hU.out hi fv ⟨g,o,none⟩ n c (fp cs) (by rw [QF,hs];omega) holds a m c' (fp ds) (by rw [ig,hs]) wO (by omega) JB (growslice_fits (by omega) (by rw [iS];exact sy));have zE:=grownCap_ge w (n+m) c el;have uP:=UX hz (grownCap w (n+m) c el - (n+m));refine⟨some ⟨w.heap.size,0,none⟩,grownCap w (n+m) c el,_,?_,fresh (fp cs++fp ds++ (Builtin.zeroCells z.cells (grownCap w (n+m) c el - (n+m))).toList) (grownCap w (n+m) c el) (by omega) (by rw [dm,dm,uP,ig,QF];omega) (by
     rw [xG (by rw [dm];omega),lS (by rw [dm];omega)]) (EL (Si (Cz _) (Cz _)) (by intro hn;have:=ax List.length hn;rw [dm,ig]at this;simp at this;omega))⟩
    rw [hA,hr]
    congr 3
    apply Array.ext';simp
theorem Vv{el:TypeId}[hU:bB P t (.slice el)][bp P el z 3 b]{y:Operand}(i:Nat){A:aiC}{n c:Nat}{cs:List TV}{A':aiC}{m c':Nat}{ds:List TV}(hS:St w0 w ks)(hk:ks[i]?=some (dM el A n c cs))(hR:qP w A' m ds)(hx:ev e x= .slice A n c)(hy:ev e y= .slice A' m c')(hz:z.cells= #[z0,z1,z2])(ur:n+m≤3074457345618258602)(sy:(n+m)*b≤140737488355328)(hb:Nat.blt d N=true)(hK:∀A2 c2 w',St w0 w' (ks.set i (dM el A2 (n+m) c2 (cs++ds)))→aa P N ops K rest (a7 e d (.slice A2 (n+m) c2)) w'):
 aa P N ops K (⟨some d,.call ⟨.builtin .append, #[x,y], #[t,t]⟩,ty,pos,af,none⟩::rest) e w:=by
 obtain⟨A2,c2,w',hr,oi⟩:=afQ (P:=P) (t:=t) hz i hS hk hR (by simp only [maxLen];omega) sy ty (c':=c');refine .val (w':=w') ?_ hb (hK _ _ _ oi);simp [execOp,resolve,invoke,builtin,hx,hy,hr]
theorem aa.ldT{fs:Array Field}[bB P t (.struct fs)][bp P t z 3 b]{A:aiC}{n:Nat}{cs:List TV}{i:Nat}{v:TV}(hR:qP w A n cs)(hi:i<n)(hv:cs[i]?=some v)(hx:ev e x= .pointer (aq A (i*3)))(hb:Nat.blt d N=true)(hK:aa P N ops K rest (a7 e d (v.v)) w):aa P N ops K (⟨some d,.load t x,ty,pos,af,none⟩::rest) e w:=by
 have pN:=hR.at_ hi;have e1:cs[i]'(by rw [hR.1];exact hi)=v:=by rw [gf (by rw [hR.1];exact hi)]at hv;exact cO hv
 rw [e1]at pN;exact .bq 2 pN hx (by rfl) hb hK
theorem oN{fs:Array Field}[bB P t (.struct fs)][bp P t z 3 b]{A:aiC}{n:Nat}{cs:List TV}(hR:qP w A n cs)(hx:ev e x= .pointer (aq A (i.toNat*3)))(hi:i.toNat<n)(hb:Nat.blt d N=true)(hK:aa P N ops K rest (a7 e d (tg cs i).v) w):aa P N ops K (⟨some d,.load t x,ty,pos,af,none⟩::rest) e w:=
 .ldT hR hi (by unfold tg;rw [List.getD_eq_getElem?_getD,List.getElem?_eq_getElem (by rw [hR.1];exact hi)];rfl) hx hb hK
theorem VQ[bp P t z 3 b]{a:Operand}(j:Nat){T:TypeId}{A:aiC}{n c i:Nat}{cs:List TV}{v:TV}(hS:St w0 w ks)(hk:ks[j]?=some (dM T A n c cs))(hi:i<n)(ha:ev e a= .pointer (aq A (i*3)))(hx:ev e x=v.v)(hK:∀w',St w0 w' (ks.set j (dM T A n c (cs.set i v)))→aa P N ops K rest e w'):aa P N ops K (⟨none,.store t a x,ty,pos,af,none⟩::rest) e w:=by
 have hl:=(hS.ke j hk).1;refine aa.Uq 3 j (k:=dM T A n c cs) (o:=i*3) hS hk ha hx O O O (Nat.ble_eq_true_of_le (by show i*3+3≤3*n;omega)) fun w' h=>hK w' ?_
 have e1:rO (fp cs) (i*3) v.cs=fp (cs.set i v):=by rw [Nat.mul_comm];exact OU (by omega) v
 have e2:({ dM T A n c cs with vs:=rO (dM T A n c cs).vs (i*3) (#[Value.int IntKind.i64 v.f,Value.int IntKind.i64 v.g,Value.int IntKind.i64 v.r]:Array Value).toList }:Ck)=dM T A n c (cs.set i v):=by
  show(⟨A,3*n,min (3*c) maxLen,T,rO (fp cs) (i*3) v.cs⟩:Ck)=⟨A,3*n,min (3*c) maxLen,T,fp (cs.set i v)⟩;rw [e1]
 exact e2▸h
theorem xM{te:TypeId}[bp P t z 3 b]{a:Operand}(m:Nat){A:aiC}{n c:Nat}{xs:List TV}{v:TV}(hS:St w0 w ks)(hk:ks[m]?=some (dM te A n c xs))(ha:ev e a= .pointer (aq A (i.toNat*3)))(hx:ev e x=v.v)(hj:i.toNat<n)(hK:∀w',St w0 w' (ks.set m (dM te A n c (xs.set i.toNat v)))→aa P N ops K rest e w'):aa P N ops K (⟨none,.store t a x,ty,pos,af,none⟩::rest) e w:=
 VQ m hS hk hj ha hx hK
theorem Vz{f0 f1 f2:Field}{y0 y1 y2:Value}{b0 b1 b2:Nat}[bB P t (.struct #[f0,f1,f2])][bp P t (.agg #[z0,z1,z2]) 3 b]{x0 x1 x2:Operand}{v:TV}(sj:bp P f0.type y0 1 b0)(sk:bp P f1.type y1 1 b1)(uy:bp P f2.type y2 1 b2)(ho:f0.offset=0)(tJ:f1.offset=1)(zN:f2.offset=2)(h0:ev e x0=aiD v.f)(h1:ev e x1=aiD v.g)(h2:ev e x2=aiD v.r)(hb:Nat.blt d N=true)(hK:aa P N ops K rest (a7 e d (v.v)) w):aa P N ops K (⟨some d,.build t #[(0,x0),(1,x1),(2,x2)],ty,pos,af,none⟩::rest) e w:=by
 obtain⟨inf,hi,fv,hs,iS⟩:=bp.get P t;obtain⟨Cw,eP,hz00,pA,hby0⟩:=sj.get P f0.type;obtain⟨Cx,jt,hz01,sJ,hby1⟩:=sk.get P f1.type;obtain⟨EJ,rm,hz02,ox,hby2⟩:=uy.get P f2.type;have ez:(Value.agg #[z0,z1,z2]).cells= #[z0,z1,z2]:=O;refine .val (w':=w) ?_ hb hK;simp [execOp,Instr.build,run_underlying (bB.out (P:=P) (t:=t)),sizeOf,typeInfo,zeroValue,hi,fv,eP,pA,jt,sJ,rm,ox,ho,tJ,zN,h0,h1,h2,ez,Instr.fill,TV.v,Value.cells]
end
theorem Vp(A:aiC)(n c:Nat)(xs:List Int)(w:World)(hR:bS w A n xs)(hn:n≤1000000000):
 aA prog 147 [.slice A n c] w (fun v w'=>∃b:Bool,v= .bool b∧(b=true↔rS xs)∧St w w' []):=by
 have dA:=hR.1;refine bk func147 O ntmps147 O (cK O) ?_;refine aQ O (aa.len O O (aa.sub O O O (by omega) (ay O ?_)));refine Cd.loop (α:=Nat) (fun k=> [(0,.slice A n c),(3,aiD ((n:Int) - 1 - (k:Int)))]) (fun k w'=>St w w' []∧(k≤n - 1)∧∀j:Nat,n - k≤j→j<n→gi xs ((j:Int) - 1)≤gi xs (j:Int)) (fun k=>n - k) 0 ⟨O,ax (Value.int .i64) (by show(n:Int) - 1=(n:Int) - 1 - ((0:Nat):Int);omega),ae⟩ ⟨St.refl w,aW _,fun j h1 h2=>by omega⟩ ?_;rintro k e w1 ⟨hS,hk,hK⟩;have jc:=hS.eY hR;refine bK O ?_;refine aB _ O (fun h1=>?_) (fun h1=>?_)
 ·have e1:((n:Int) - 1 - (k:Int))=((n - 1 - k:Nat):Int):=by omega
  have e2:((n:Int) - 1 - (k:Int) - 1)=((n - 1 - k:Nat):Int) - 1:=by omega
  refine bP O ?_;refine dI [xS (A) (n) (c),xI (((n:Int) - 1 - (k:Int))),xP (aq (A) (((n:Int) - 1 - (k:Int))).toNat),xI (gi (xs) (((n:Int) - 1 - (k:Int)))),xS (A) (n) (c),xI (((n:Int) - 1 - (k:Int))),xI ((((n:Int) - 1 - (k:Int))) - ((1:Int))),xP (aq (A) ((((n:Int) - 1 - (k:Int))) - ((1:Int))).toNat),xI (gi (xs) ((((n:Int) - 1 - (k:Int))) - ((1:Int)))),xB (decide (gi xs ((n:Int) - 1 - (k:Int))<gi xs ((n:Int) - 1 - (k:Int) - 1)))] (by kernel_rfl) (by kernel_rfl) O (eg O) ?_ ?_
  ·refine⟨Dr O,Dr O,fun _ _ hb _ _=>aw (jc.later hb).2 O O O (by omega) (by omega) (Az O),fun _ _ hb _ _=>aT (jc.later hb) O (by omega) O O (Az O),Dr O,Dr O,fun _ _ _ _ _=>aa.sub O O O (by omega) (Az O),fun _ _ hb _ _=>aw (jc.later hb).2 O O O (by omega) (by omega) (Az O),fun _ _ hb _ _=>aT (jc.later hb) O (by omega) O O (Az O),?_,ae⟩
   ·intro e1 w1 hb hp aL;refine aa.call (Ob _ _ _) O O O ?_;rintro _ w2 ⟨rfl,ak⟩;subst ak;refine aa.n (d0 (by exact O))
  intro u w2 hb _;have ar:=hS.later hb;refine eo O ?_;refine aB _ O (fun h2=>?_) (fun h2=>?_)
  ·refine dN O (eZ (eE ?_));refine cM O ?_;refine⟨false,rfl,⟨fun h=> (by cases h),fun h=>?_⟩,ar⟩;rw [e1]at h2;have h3:=List.pairwise_iff_getElem.1 h (n - 1 - k - 1) (n - 1 - k) (by omega) (by omega) (by omega);rw [←bX (by omega),←bX (by omega),show((n - 1 - k - 1:Nat):Int)=((n - 1 - k:Nat):Int) - 1 by omega]at h3;omega
  ·refine av O (aa.sub O O O (by omega) (aF O (tQ ?_)));refine⟨k+1,by show n - (k+1)<n - k;omega,⟨O,ax (Value.int .i64) (by show(n:Int) - 1 - (k:Int) - 1=(n:Int) - 1 - ((k+1:Nat):Int);omega),ae⟩,ar,by omega,fun j KB oX=>?_⟩
   by_cases ej:n - k≤j
   ·exact hK j ej oX
   ·have:(j:Int)=(n:Int) - 1 - (k:Int):=by omega
    rw [this];omega
 ·refine aY O (aZ (gE O ?_));refine cM O ?_;refine⟨true,O,⟨fun _=>?_,fun _=>O⟩,hS⟩;have key:∀j i:Nat,i≤j→j<n→gi xs (i:Int)≤gi xs (j:Int):=by
   intro j
   induction j with
   | zero=>
    intro i hi _;have:i=0:=by omega
    rw [this];exact Int.le_refl _
   | succ j ih=>
    intro i hi hj
    by_cases e:i=j+1
    ·subst e;exact Int.le_refl _
    ·have h3:=ih i (by omega) (by omega);have h4:=hK (j+1) (by omega) hj;rw [show((j+1:Nat):Int) - 1=(j:Int) by omega]at h4;omega
  refine List.pairwise_iff_getElem.2 fun i j hi hj gN=>?_
  have:=key j i (by omega) (by omega)
  rwa [bX hi,bX hj]at this
theorem Wj{n:Int}{R:List Int}(h:∀x∈R,0≤x∧x≤n - 1):zd 0 (n - 1) R:=h
set_option maxHeartbeats 2000000 in
theorem Ht(n:Int)(A D:aiC)(cA cD:Nat)(R:List Int)(rs:List aG)(B:aiB)(w:World)(hR:bS w A R.length R)(hB:br w D B.length rs B)(hP:fO n R B):
 aA prog 85 [.agg #[aiD n,.slice A R.length cA,.slice D B.length cD]] w (fun v w'=>v= .bool true∧St w w' []):=by
 have hn:=hP.n1;have kR:=hP.nn;have hle:=hP.len;have cj:=fun e (h:e<R.length)=>hP.row e h
 have bW:∀e:Nat,e<R.length→(gl B (e:Int)).length≤500:=fun e h=>by
  have:=rF (N:=R.length) (cj e h).1.nodup fun x hx=> ((cj e h).2 x hx).1
  omega
 obtain⟨N,hN⟩:∃N,R.length=N:=⟨_,rfl⟩;rw [hN]at hR kR hle cj bW⊢;rw [hle]at hB⊢;refine bk func85 O ntmps85 O (cK O) (aQ O (kK (St.refl w) O O ?_));intro A1 w1 ao;have cN:=ao.below;have h1:Rd w1 A1 3 (fun j=> [Value.int .i64 n,.slice A N cA,.slice D N cD].getD j undef):=ao.rd 0 O;have hR:=hR.later cN;have hB:=hB.later cN;have ao:=ao.none;refine ad O (aH h1 O O O O inferInstance (aM h1 O O O O O (aa.call (AA _ _ _ _) O O O ?_)));rintro _ w1 ⟨rfl,rfl⟩;refine ad O (aH h1 O O O O inferInstance (gK (j:=0) h1 (by exact ax Value.pointer O) O O O O (aa.call (xv _ _ _ _) O O O ?_)));rintro _ w1 ⟨rfl,rfl⟩
 first | refine eC rfl rfl ?_ | refine aa.not rfl rfl ?_
 refine ad O ?_;refine bY 23 O (fun h=>absurd (by omega) h) (fun _=>?_);refine aa.g O O O (ad O (aa.g O O O (ad O ?_)));refine bY 27 O (fun h=>by omega) (fun _=>?_);refine aa.g O O O (aH h1 O O O O inferInstance (aa.g O O O (aM h1 O O O O O ?_)));refine aa.g O O O (aa.len O O (aa.g O O O ?_));refine aH h1 O O O O inferInstance (aa.g O O O (aM h1 O O O O O ?_));refine aa.g O O O (aa.len O O (aa.g O O O (ad O ?_)));refine bY 36 O (fun h=>absurd O h) (fun _=>?_);refine aa.g O O O (aH h1 O O O O inferInstance (aa.g O O O (aM h1 O O O O O (aa.g O O O (aH h1 O O O O inferInstance (aa.g O O O (gK (j:=0) h1 (by exact ax Value.pointer O) O O O O ?_)))))));refine aa.g O O O (aa.sub O O O (by omega) (aa.g O O O ?_));refine aa.call (Ws A N cA R 0 (n - 1) _ hR (by omega)) O O O ?_;rintro _ w2 ⟨rfl,ak⟩;have hb:=ak.below;have h1:=Rd.below h1 hb;have hR:=hR.later hb;have hB:=hB.later hb;have ao:=ao.later hb;clear ak hb;refine aa.g O O O ?_
 first | refine eC rfl rfl ?_ | refine aa.not rfl rfl ?_
 refine ad O ?_;refine bY 45 O (fun h=>absurd (Wj hP.fT) h) (fun _=>?_);refine aa.g O O O (aH h1 O O O O inferInstance (aa.g O O O (aM h1 O O O O O (aa.g O O O (aa.call (Vp A N cA R _ hR (by omega)) O O O ?_)))));rintro _ w3 ⟨b,rfl,ZU,ak⟩;obtain rfl:=ZU.2 hP.Di;have hb:=ak.below;have h1:=Rd.below h1 hb;have hR:=hR.later hb;have hB:=hB.later hb;have ao:=ao.later hb;clear ak hb;refine aa.g O O O ?_
 first | refine eC rfl rfl ?_ | refine aa.not rfl rfl ?_
 refine ay O (Cd.eV O (av O (aH h1 O O O O inferInstance (aM h1 O O O O O ?_))));refine aa.len O O (ay O ?_);refine Cd.loop (α:=Nat) (fun k=> [(1,.pointer A1),(3,aiD (N:Int)),(52,.slice D N cD),(53,aiD (N:Int)),(54,aiD (k:Int))]) (fun k w'=>k≤N∧St w3 w' []) (fun k=>N - k) 0 ⟨O,O,O,O,O,ae⟩ ⟨aW _,St.refl _⟩ ?_;rintro k e w4 ⟨hk,ak⟩;have hb:=ak.below;have h1:=Rd.below h1 hb;have hR:=hR.later hb;have hB:=hB.later hb;have ao:=ao.later hb;clear hb;refine bK O ?_;refine aB _ O (fun h3=>?_) (fun h3=>?_)
 ·have wI:k<N:=by omega
  have fZ:=hB.at_ (i:=(k:Int)) (by omega) (by omega);have iD:=fZ.1;have hr5:=bW k wI;have jL:=cj k wI;refine av O (aw hB.top.2 O O O (by omega) (by omega) (bQ hB.top O (by omega) O O ?_));refine ad O (aa.len O O (ay O ?_));refine Cd.loop (α:=Nat) (fun q=> [(1,.pointer A1),(3,aiD (N:Int)),(52,.slice D N cD),(53,aiD (N:Int)),(54,aiD (k:Int)),(4,aiD (k:Int)),(5,.slice (rg rs (k:Int)).a (rg rs (k:Int)).n (rg rs (k:Int)).c),(59,.slice (rg rs (k:Int)).a (rg rs (k:Int)).n (rg rs (k:Int)).c),(60,aiD ((rg rs (k:Int)).n:Int)),(61,aiD (q:Int))]) (fun q w'=>q≤(rg rs (k:Int)).n∧St w4 w' []) (fun q=> (rg rs (k:Int)).n - q) 0 ⟨O,O,O,O,O,O,O,O,O,O,ae⟩ ⟨aW _,St.refl _⟩ ?_;rintro q e w5 ⟨hq,lu⟩;have hb:=lu.below;have h1:=Rd.below h1 hb;have hR:=hR.later hb;have hB:=hB.later hb;have fZ:=fZ.later hb;clear hb;refine bK O ?_;refine aB _ O (fun h4=>?_) (fun h4=>?_)
  ·have Hg:q< (gl B (k:Int)).length:=by omega
   have hd:=jL.2 (gi (gl B (k:Int)) (q:Int)) (gi_in Hg);refine av O (aw fZ.2 O O O (by omega) (by omega) (aT fZ O (by omega) O O (ay O ?_)));generalize QG:gi (gl B (k:Int)) (q:Int)=d at*
   by_cases Co:0<q
   ·
    have Hl:=jL.1.yA (show q - 1<q by omega) Hg;rw [QG,show((q - 1:Nat):Int)=(q:Int) - 1 by omega]at Hl;refine dI [xI (d),xI ((N:Int)),xI (((N:Int)) - ((1:Int))),xB (decide (0≤d∧d≤(N:Int) - 1)),xB (false),xB (false),xP (aq (A1) 1),xS (A) (N) (cA),xI (d),xP (aq (A) (d).toNat),xI (gi (R) (d)),xP (aq (A1) 1),xS (A) (N) (cA),xI ((k:Int)),xP (aq (A) ((k:Int)).toNat),xI (gi (R) ((k:Int))),xB (false),xB (false),xB (false),xI ((q:Int)),xB (true),xB (true),xS ((rg rs (k:Int)).a) ((rg rs (k:Int)).n) ((rg rs (k:Int)).c),xI ((q:Int)),xI (((q:Int)) - ((1:Int))),xP (aq ((rg rs (k:Int)).a) (((q:Int)) - ((1:Int))).toNat),xI (gi (gl B (k:Int)) (((q:Int)) - ((1:Int)))),xI (d),xB (false),xB (false),xB (false)] (by kernel_rfl) (by kernel_rfl) O (eg O) ?_ ?_
    ·refine⟨Dr O,Dr O,fun _ _ _ _ _=>aa.sub O O O (by omega) (Az O),?_,fun _ _ _ _ _=>eC O O (Az (by exact ax Value.bool (cd (fun h=>h (by omega))))),Dr O,fun _ _ hb _ _=>aa.g O O O (aH (h1.below hb) O O O O inferInstance (Az O)),fun _ _ hb _ _=>aa.g O O O (aM (h1.below hb) O O O O O (Az O)),Dr O,fun _ _ hb _ _=>aa.g O O O (aw (hR.later hb).2 O O O (by omega) (by omega) (Az O)),fun _ _ hb _ _=>aa.g O O O (aT (hR.later hb) O (by omega) O O (Az O)),fun _ _ hb _ _=>aa.g O O O (aH (h1.below hb) O O O O inferInstance (Az O)),fun _ _ hb _ _=>aa.g O O O (aM (h1.below hb) O O O O O (Az O)),Dr O,fun _ _ hb _ _=>aa.g O O O (aw (hR.later hb).2 O O O (by omega) (by omega) (Az O)),fun _ _ hb _ _=>aa.g O O O (aT (hR.later hb) O (by omega) O O (Az O)),fun _ _ _ _ _=>Dk O (by exact ax Value.bool (cd (by omega))),Dr O,Dr O,Dr O,fun _ _ _ _ _=>Dk O (by exact ax Value.bool (dX (by omega))),Dr O,Dr O,Dr O,fun _ _ _ _ _=>aa.g O O O (aa.sub O O O (by omega) (Az O)),fun _ _ hb _ _=>aa.g O O O (aw (fZ.later hb).2 O O O (by omega) (by omega) (Az O)),fun _ _ hb _ _=>aa.g O O O (aT (fZ.later hb) O (by omega) O O (Az O)),Dr O,fun _ _ _ _ _=>Dk O (by exact ax Value.bool (cd (by omega))),Dr O,Dr O,ae⟩;intro e1 w1 hb hp aL;refine aa.call (xv _ _ _ _) O O O ?_;rintro _ w2 ⟨rfl,ak⟩;subst ak;refine aa.n (d0 (by exact O))
    intro u w6 hb _;refine eo O (Cd.eV O ?_);refine av O (aa.add O O O (by omega) (aF O (tQ ?_)));exact⟨q+1,by show(rg rs (k:Int)).n - (q+1)< (rg rs (k:Int)).n - q;omega,⟨O,O,O,O,O,O,O,O,O,O,ae⟩,by omega,lu.later hb⟩
   refine dI [xI (d),xI ((N:Int)),xI (((N:Int)) - ((1:Int))),xB (decide (0≤d∧d≤(N:Int) - 1)),xB (false),xB (false),xP (aq (A1) 1),xS (A) (N) (cA),xI (d),xP (aq (A) (d).toNat),xI (gi (R) (d)),xP (aq (A1) 1),xS (A) (N) (cA),xI ((k:Int)),xP (aq (A) ((k:Int)).toNat),xI (gi (R) ((k:Int))),xB (false),xB (false),xB (false),xI ((q:Int)),xB (false),xB (false),xU,xU,xU,xU,xU,xU,xU,xB (false),xB (false)] (by kernel_rfl) (by kernel_rfl) O (eg O) ?_ ?_
   ·refine⟨Dr O,Dr O,fun _ _ _ _ _=>aa.sub O O O (by omega) (Az O),?_,fun _ _ _ _ _=>eC O O (Az (by exact ax Value.bool (cd (fun h=>h (by omega))))),Dr O,fun _ _ hb _ _=>aa.g O O O (aH (h1.below hb) O O O O inferInstance (Az O)),fun _ _ hb _ _=>aa.g O O O (aM (h1.below hb) O O O O O (Az O)),Dr O,fun _ _ hb _ _=>aa.g O O O (aw (hR.later hb).2 O O O (by omega) (by omega) (Az O)),fun _ _ hb _ _=>aa.g O O O (aT (hR.later hb) O (by omega) O O (Az O)),fun _ _ hb _ _=>aa.g O O O (aH (h1.below hb) O O O O inferInstance (Az O)),fun _ _ hb _ _=>aa.g O O O (aM (h1.below hb) O O O O O (Az O)),Dr O,fun _ _ hb _ _=>aa.g O O O (aw (hR.later hb).2 O O O (by omega) (by omega) (Az O)),fun _ _ hb _ _=>aa.g O O O (aT (hR.later hb) O (by omega) O O (Az O)),fun _ _ _ _ _=>Dk O (by exact ax Value.bool (cd (by omega))),Dr O,Dr O,Dr O,fun _ _ _ _ _=>Dk O (by exact ax Value.bool (cd (by omega))),Dr O,Dr O,Dr O,Dr O,Dr O,Dr O,Dr O,Dr O,Dr O,Dr O,ae⟩;intro e1 w1 hb hp aL;refine aa.call (xv _ _ _ _) O O O ?_;rintro _ w2 ⟨rfl,ak⟩;subst ak;refine aa.n (d0 (by exact O))
   intro u w6 hb _;refine eo O (Cd.eV O ?_);refine av O (aa.add O O O (by omega) (aF O (tQ ?_)));exact⟨q+1,by show(rg rs (k:Int)).n - (q+1)< (rg rs (k:Int)).n - q;omega,⟨O,O,O,O,O,O,O,O,O,O,ae⟩,by omega,lu.later hb⟩
  refine aY O (aZ (cL O (aa.add O O O (by omega) (aF O (tQ ?_)))));exact⟨k+1,by show N - (k+1)<N - k;omega,⟨O,O,O,O,O,ae⟩,by omega,ak.later lu.below⟩
 clear ak h3;refine aY O (aZ (cL O ?_));refine aH h1 O O O O inferInstance (aM h1 O O O O O ?_);refine aa.len O O (ay O ?_);refine Cd.loop (α:=Nat) (fun k=> [(1,.pointer A1),(100,.slice D N cD),(101,aiD (N:Int)),(102,aiD (k:Int))]) (fun k w'=>k≤N∧St w4 w' []) (fun k=>N - k) 0 ⟨O,O,O,O,ae⟩ ⟨aW _,St.refl _⟩ ?_;rintro k e w5 ⟨hk,ak⟩;have hb:=ak.below;have h1:=Rd.below h1 hb;have hB:=hB.later hb;have ao:=ao.later hb;clear hb;refine bK O ?_;refine aB _ O (fun h3=>?_) (fun h3=>?_)
 ·have wI:k<N:=by omega
  have fZ:=hB.at_ (i:=(k:Int)) (by omega) (by omega);have iD:=fZ.1;have hr5:=bW k wI;have jL:=cj k wI;refine av O (aw hB.top.2 O O O (by omega) (by omega) (bQ hB.top O (by omega) O O ?_));refine ad O (aa.len O O (ay O ?_));refine Cd.loop (α:=Nat) (fun q=> [(1,.pointer A1),(100,.slice D N cD),(101,aiD (N:Int)),(102,aiD (k:Int)),(9,.slice (rg rs (k:Int)).a (rg rs (k:Int)).n (rg rs (k:Int)).c),(106,.slice (rg rs (k:Int)).a (rg rs (k:Int)).n (rg rs (k:Int)).c),(107,aiD ((rg rs (k:Int)).n:Int)),(108,aiD (q:Int))]) (fun q w'=>q≤(rg rs (k:Int)).n∧w'=w5) (fun q=> (rg rs (k:Int)).n - q) 0 ⟨O,O,O,O,O,O,O,O,ae⟩ ⟨aW _,O⟩ ?_;rintro q e w6 ⟨hq,rfl⟩;refine bK O ?_;refine aB _ O (fun h4=>?_) (fun h4=>?_)
  ·have Hg:q< (gl B (k:Int)).length:=by omega
   have rh:=gi_in Hg;have hd:=jL.2 (gi (gl B (k:Int)) (q:Int)) rh;refine av O (aw fZ.2 O O O (by omega) (by omega) (aT fZ O (by omega) O O (ad O (aH h1 O O O O inferInstance (aM h1 O O O O O (ad O ?_))))));generalize QG:gi (gl B (k:Int)) (q:Int)=d at*;have lq:=hB.at_ (i:=d) (by omega) (by omega);have hrdn:=lq.1;have Eu:(gl B d).length≤500:=by
    have:=bW d.toNat (by omega)
    rwa [Int.toNat_of_nonneg hd.1.1]at this
   refine aw hB.top.2 O O O (by omega) (by omega) (bQ hB.top O (by omega) O O ?_);refine aa.len O O (ay O ?_);refine Cd.loop (α:=Nat) (fun t=> [(1,.pointer A1),(100,.slice D N cD),(101,aiD (N:Int)),(102,aiD (k:Int)),(9,.slice (rg rs (k:Int)).a (rg rs (k:Int)).n (rg rs (k:Int)).c),(106,.slice (rg rs (k:Int)).a (rg rs (k:Int)).n (rg rs (k:Int)).c),(107,aiD ((rg rs (k:Int)).n:Int)),(108,aiD (q:Int)),(116,.slice (rg rs d).a (rg rs d).n (rg rs d).c),(117,aiD ((rg rs d).n:Int)),(118,aiD (t:Int))]) (fun t w'=>t≤(rg rs d).n∧w'=w6) (fun t=> (rg rs d).n - t) 0 ⟨O,O,O,O,O,O,O,O,O,O,O,ae⟩ ⟨aW _,O⟩ ?_;rintro t e w7 ⟨ht,rfl⟩;refine bK O ?_;refine aB _ O (fun h5=>?_) (fun h5=>?_)
   ·have htn:t< (gl B d).length:=by omega
    have qo:=gi_in htn;have htr:=hP.tr k (by omega) d rh _ qo;refine av O (aw lq.2 O O O (by omega) (by omega) (aT lq O (by omega) O O (ad O (aa.call (NR _ _ _ (gl B (k:Int)) _ _ fZ jL.1 (by omega)) O O O ?_))));rintro _ _ ⟨⟨p,rfl⟩,rfl⟩;refine ad O ?_
    first | refine eC rfl rfl ?_ | refine aa.not rfl rfl ?_
    refine ay O ?_;refine qM O (fun h=>h htr) ?_;refine av O (aa.add O O O (by omega) (aF O (tQ ?_)));exact⟨t+1,by show(rg rs d).n - (t+1)< (rg rs d).n - t;omega,⟨O,O,O,O,O,O,O,O,O,O,O,ae⟩,by omega,O⟩
   refine aY O (aZ (cL O (aa.add O O O (by omega) (aF O (tQ ?_)))));exact⟨q+1,by show(rg rs (k:Int)).n - (q+1)< (rg rs (k:Int)).n - q;omega,⟨O,O,O,O,O,O,O,O,ae⟩,by omega,O⟩
  refine aY O (aZ (cL O (aa.add O O O (by omega) (aF O (tQ ?_)))));exact⟨k+1,by show N - (k+1)<N - k;omega,⟨O,O,O,O,ae⟩,by omega,ak⟩
 refine aY O (aZ (gE O ?_));refine cM O ?_;exact⟨O,ao⟩
theorem aeq{α:Type}(x a b c d e f g:α)(X Y:List α):(x::a::b::c::d::e::f::g::(X++Y)).Perm (a::b::c::d::e::f::g::((X++ [x])++Y)):=by
 classical
 refine lR.2 fun z=>?_
 simp only [nP,lE,nQ];omega
theorem aer{α:Type}(x a b c d e f g:α)(X Y:List α):(x::a::b::c::d::e::f::g::(X++Y)).Perm (a::b::c::d::e::f::g::(X++ (Y++ [x]))):=by
 classical
 refine lR.2 fun z=>?_
 simp only [nP,lE,nQ];omega
theorem aes{α:Type}(a b c d e f g:α)(X Y:List α):(a::b::c::d::e::f::g::(X++Y)).Perm (a::((f::X)++ (b::c::d::e::((g::Y)++ [])))):=by
 classical
 refine lR.2 fun z=>?_
 simp only [nP,lE,nQ];omega
def mC(M:aiB)(i:Nat):List Int:=(List.range i).map fun k=> (aD M k:Int)
def o4(M:aiB)(i:Nat):aiB:=(List.range i).map (dd M)
theorem aej(M:aiB)(i:Nat):mC M (i+1)=mC M i++ [(aD M i:Int)]:=by simp [mC,ng]
theorem ac5(M:aiB)(i:Nat):o4 M (i+1)=o4 M i++ [dd M i]:=by simp [o4,ng]
theorem Tp{M:aiB}{i k:Nat}(h:k<i):gi (mC M i) (k:Int)=(aD M k:Int):=by
 rw [bX (by simp [mC];exact h)];simp [mC]
theorem SN{M:aiB}{i k:Nat}(h:k<i):gl (o4 M i) (k:Int)=dd M k:=by
 rw [db (by simp [o4];exact h)];simp [o4]
theorem LJ(M:aiB)(i:Nat):(o4 M i).length=i:=by simp [o4]
def rU(M:aiB)(i f k:Nat)(G:List Bool):Prop:=G.length=aD M M.length*aD M M.length∧∀e d:Nat,e<aD M M.length→d<aD M M.length→(gb G ((e*aD M M.length+d:Nat):Int)=true↔∃f' k',(f'<f∨f'=f∧k'<k)∧f'< (gl M 0).length∧k'<i∧bC M i f'=e∧bC M k' f'=d)
theorem ael{N e d e' d':Nat}(h1:d<N)(h2:d'<N)(h:e*N+d=e'*N+d'):e=e'∧d=d':=by
 have h3:(e*N+d) / N=e:=by rw [Nat.add_comm,Nat.add_mul_div_right _ _ (by omega),Nat.div_eq_of_lt h1,Nat.zero_add]
 have h4:(e'*N+d') / N=e':=by rw [Nat.add_comm,Nat.add_mul_div_right _ _ (by omega),Nat.div_eq_of_lt h2,Nat.zero_add]
 have h5:e=e':=by rw [←h3,h,h4]
 subst h5;exact⟨O,by omega⟩
theorem Me{N e d:Nat}(h1:e<N)(h2:d<N):e*N+d<N*N:=by
 have:(e+1)*N≤N*N:=Nat.mul_le_mul_right N h1;rw [Nat.succ_mul]at this;omega
theorem rU.zero(M:aiB)(i:Nat):rU M i 0 0 (List.replicate (aD M M.length*aD M M.length) false):=by
 refine⟨by simp,fun e d he hd=>?_⟩;have:gb (List.replicate (aD M M.length*aD M M.length) false) ((e*aD M M.length+d:Nat):Int)=false:=by
  simp only [gb,ir,cJ,List.getElem?_replicate]
  split<;>rfl
 rw [this];constructor
 ·intro h;cases h
 rintro⟨f',k',h,_⟩;omega
theorem rU.next{M:aiB}(hM:bL M){i f k:Nat}{G:List Bool}(h:rU M i f k G)(hf:f< (gl M 0).length)(hi:i<M.length)(hk:k<i):rU M i f (k+1) (G.set ((bC M i f).toNat*aD M M.length+ (bC M k f).toNat) true):=by
 have h1:=pn hM (i:=i) hf;have h2:=pn hM (i:=k) hf;have h3:=nG M (show i+1≤M.length by omega);have h4:=nG M (show k+1≤M.length by omega);refine⟨by rw [iw];exact h.1,fun e d he hd=>?_⟩;have hl:=Me (e:=(bC M i f).toNat) (d:=(bC M k f).toNat) (N:=aD M M.length) (by omega) (by omega);have hg:gb (G.set ((bC M i f).toNat*aD M M.length+ (bC M k f).toNat) true) ((e*aD M M.length+d:Nat):Int)=if(bC M i f).toNat*aD M M.length+ (bC M k f).toNat=e*aD M M.length+d then true else gb G ((e*aD M M.length+d:Nat):Int):=by
  simp only [gb,ir,cJ,oI]
  by_cases e1:(bC M i f).toNat*aD M M.length+ (bC M k f).toNat=e*aD M M.length+d
  ·rw [aj e1,aj (by rw [h.1];exact hl),aj e1];rfl
  rw [ag e1,ag e1]
 rw [hg]
 by_cases e1:(bC M i f).toNat*aD M M.length+ (bC M k f).toNat=e*aD M M.length+d
 ·rw [aj e1];have:=ael (by omega) hd e1;exact⟨fun _=> ⟨f,k,.inr ⟨O,by omega⟩,hf,hk,by omega,by omega⟩,fun _=>O⟩
 rw [ag e1,h.2 e d he hd];constructor
 ·rintro⟨f',k',q,r⟩;exact⟨f',k',by omega,r⟩
 rintro⟨f',k',q,r1,r2,r3,r4⟩;refine⟨f',k',?_,r1,r2,r3,r4⟩
 by_cases e2:f'=f∧k'=k
 ·obtain⟨rfl,rfl⟩:=e2;exact absurd (by rw [r3,r4];rfl) e1
 omega
theorem rU.row{M:aiB}{i f:Nat}{G:List Bool}(h:rU M i f i G):rU M i (f+1) 0 G:=by
 refine⟨h.1,fun e d he hd=>?_⟩;rw [h.2 e d he hd];constructor
 ·rintro⟨f',k',q,r⟩;exact⟨f',k',by omega,r⟩
 rintro⟨f',k',q,r1,r2,r3⟩;exact⟨f',k',by omega,r1,r2,r3⟩
theorem rU.done{M:aiB}(hM:bL M){i:Nat}{G:List Bool}(h:rU M i (gl M 0).length 0 G)(hi:i<M.length){e d:Nat}(he:e<aD M M.length)(hd:d<aD M M.length):gb G ((e*aD M M.length+d:Nat):Int)=true↔((aD M i≤e∧e<aD M (i+1))∧(d:Int)∈gl (bn M) (e:Int)):=by
 rw [h.2 e d he hd,n3 (by omega) (by omega)];constructor
 ·rintro⟨f',k',_,r1,r2,r3,r4⟩;have:=pn hM (i:=i) r1;exact⟨by omega,by omega,f',r1,i,hi,k',r2,r3.symm,r4.symm⟩
 rintro⟨h1,_,f',r1,i',dT,k',r2,r3,r4⟩;have h5:=pn hM (i:=i') r1;have:i'=i:=by
  rcases Nat.lt_trichotomy i' i with h | h | h
  ·have:=nG M (show i'+1≤i by omega);omega
  ·exact h
  have:=nG M (show i+1≤i' by omega);omega
 subst this;exact⟨f',k',by omega,r1,r2,r3.symm,r4.symm⟩
noncomputable def td(M:aiB)(i e d x:Nat):List Int:=if x<aD M i then gl (bn M) (x:Int)else if aD M (i+1)≤x then []else if x<e then gl (bn M) (x:Int)else if x=e then(gl (bn M) (x:Int)).filter fun y=>decide (y<d)else []
noncomputable def fX(M:aiB)(i e d:Nat):aiB:=(List.range (aD M M.length)).map (td M i e d)
theorem xT(M:aiB)(i e d:Nat):(fX M i e d).length=aD M M.length:=by simp [fX]
theorem NO{M:aiB}{i e d x:Nat}(h:x<aD M M.length):gl (fX M i e d) (x:Int)=td M i e d x:=by
 rw [db (by rw [xT];exact h)];simp [fX]
theorem Ys{M:aiB}{e:Nat}(he:e<aD M M.length):gl (bn M) (e:Int)=(gl (bn M) (e:Int)).filter (fun y=>decide (y< (aD M M.length:Int))):=by
 refine(List.filter_eq_self.2 fun y hy=>?_).symm;rw [n3 (by omega) (by omega)]at hy;exact dX hy.1.2
theorem O7(M:aiB)(e:Int):SA (gl (bn M) e):=by
 have dL:∀l∈bn M,SA l:=fun l hl=>by
  unfold bn at hl;obtain⟨x,_,rfl⟩:=dh.1 hl;exact pd _ (mb _)
 by_cases h:e.toNat< (bn M).length
 ·have:gl (bn M) e=gl (bn M) (e.toNat:Int):=by simp only [gl,ir]
  rw [this,db h];exact dL _ (dQ _)
 have:gl (bn M) e=[]:=by simp [gl,cJ,oH (Nat.le_of_not_lt h)]
 rw [this];exact List.Pairwise.nil
theorem Yt{M:aiB}(hM:bL M){e:Nat}(he:e<aD M 1):gl (bn M) (e:Int)=[]:=by
 have h5:=hM.1;have G6:=nG M (show 1≤M.length by omega);refine List.eq_nil_iff_forall_not_mem.2 fun y hy=>?_
 rw [n3 (by omega) (by omega)]at hy;obtain⟨_,f,hf,i,hi,k,hk,h1,_⟩:=hy;have h2:=pn hM (i:=i) hf;have h3:=nG M (show 1≤i by omega);omega
theorem Wx{M:aiB}(hM:bL M):fX M 1 0 0=List.replicate (aD M M.length) []:=by
 apply ji (by simp [fX]);intro x h1 h2;rw [xT]at h1;simp only [fX,List.getElem_map,List.getElem_range,List.getElem_replicate];unfold td
 split
 ·exact Yt hM (by assumption)
 split
 ·rfl
 split
 ·omega
 split
 ·rename_i h;subst h;rw [List.filter_eq_nil_iff];intro y hy h;have:=sP h;rw [n3 (by omega) (by omega)]at hy;omega
 rfl
theorem Ww{M:aiB}{i:Nat}:fX M i (aD M M.length) 0=fX M (i+1) 0 0:=by
 unfold fX;refine mJ fun x hx=>?_
 have hx:=gg.1 hx;have h1:=nG M (show i+1≤i+1+1 by omega);have h2:=nG M (show i≤i+1 by omega);have hz:∀y∈gl (bn M) (x:Int),0≤y:=fun y hy=>by rw [n3 (by omega) (by omega)]at hy;omega
 unfold td
 by_cases c1:x<aD M i
 ·rw [aj c1,aj (by omega)]
 rw [ag c1]
 by_cases c2:x<aD M (i+1)
 ·rw [ag (by omega),aj hx,aj c2]
 rw [aj (by omega),ag c2]
 split
 ·rfl
 rw [ag (by omega)]
 split
 ·rename_i h;subst h;symm;rw [List.filter_eq_nil_iff];intro y hy h;have:=sP h;have:=hz y hy;omega
 rfl
theorem Wz{M:aiB}{i e:Nat}:fX M i e (aD M M.length)=fX M i (e+1) 0:=by
 unfold fX;refine mJ fun x hx=>?_
 have hx:=gg.1 hx;have hz:∀y∈gl (bn M) (x:Int),0≤y:=fun y hy=>by rw [n3 (by omega) (by omega)]at hy;omega
 unfold td
 by_cases c1:x<aD M i
 ·rw [aj c1,aj c1]
 rw [ag c1,ag c1]
 by_cases c2:aD M (i+1)≤x
 ·rw [aj c2,aj c2]
 rw [ag c2,ag c2]
 by_cases c3:x<e
 ·rw [aj c3,aj (by omega)]
 rw [ag c3]
 by_cases c4:x=e
 ·rw [aj c4,aj (by omega),←Ys hx]
 rw [ag c4,ag (by omega)]
 split
 ·rename_i h;subst h;symm;rw [List.filter_eq_nil_iff];intro y hy h;have:=sP h;have:=hz y hy;omega
 rfl
theorem WA{M:aiB}{i e d:Nat}(he:e<aD M M.length)(hd:d<aD M M.length)(h:¬((aD M i≤e∧e<aD M (i+1))∧(d:Int)∈gl (bn M) (e:Int))):fX M i e (d+1)=fX M i e d:=by
 unfold fX;refine mJ fun x hx=>?_
 unfold td
 by_cases c1:x<aD M i
 ·rw [aj c1,aj c1]
 rw [ag c1,ag c1]
 by_cases c2:aD M (i+1)≤x
 ·rw [aj c2,aj c2]
 rw [ag c2,ag c2]
 by_cases c3:x<e
 ·rw [aj c3,aj c3]
 rw [ag c3,ag c3]
 by_cases c4:x=e
 ·subst c4;rw [aj rfl,aj rfl];refine List.filter_congr fun y hy=>?_
  have bt:y≠(d:Int):=fun e=>h ⟨by omega,e▸hy⟩
  exact jo.2 (by omega)
 rw [ag c4,ag c4]
theorem Wy{M:aiB}{i e d:Nat}(he:e<aD M M.length)(h:(aD M i≤e∧e<aD M (i+1))∧(d:Int)∈gl (bn M) (e:Int)):(fX M i e d).set e (gl (fX M i e d) (e:Int)++ [(d:Int)])=fX M i e (d+1):=by
 apply ji (by simp [fX]);intro x h1 h2;rw [xT]at h2;rw [List.getElem_set];have e2:∀d' (hx:x< (fX M i e d').length),(fX M i e d')[x]=td M i e d' x:=fun d' hx=>by simp [fX]
 rw [e2 (d+1) (by rw [xT];exact h2),e2 d (by rw [xT];exact h2)]
 by_cases c:e=x
 ·subst c;rw [aj rfl,NO he];have hz:∀d':Nat,td M i e d' e=(gl (bn M) (e:Int)).filter fun y=>decide (y< (d':Int)):=fun d'=>by
   unfold td;rw [ag (by omega),ag (by omega),ag (by omega),aj rfl]
  rw [hz,hz];have hs:=O7 M (e:Int);refine SA.eq ?_ (pd _ hs) fun y=>?_
  ·rw [SA,List.pairwise_append];refine⟨pd _ hs,List.pairwise_singleton _ _,fun a ha b hb=>?_⟩;obtain rfl:=eT.1 hb;exact sP (fA.1 ha).2
  rw [iG,fA,fA,eT];simp only [jT];constructor
  ·rintro(⟨h3,h4⟩ | rfl)
   ·exact⟨h3,by omega⟩
   exact⟨h.2,by omega⟩
  rintro⟨h3,h4⟩
  by_cases e3:y=(d:Int)
  ·exact .inr e3
  exact .inl ⟨h3,by omega⟩
 rw [ag c];unfold td
 by_cases c1:x<aD M i
 ·rw [aj c1,aj c1]
 rw [ag c1,ag c1]
 by_cases c2:aD M (i+1)≤x
 ·rw [aj c2,aj c2]
 rw [ag c2,ag c2]
 by_cases c3:x<e
 ·rw [aj c3,aj c3]
 rw [ag c3,ag c3,ag (fun h=>c h.symm),ag (fun h=>c h.symm)]
theorem Wv{M:aiB}:fX M M.length 0 0=bn M:=by
 apply ji (by rw [xT,tm]);intro x h1 h2;rw [xT]at h1;simp only [fX,List.getElem_map,List.getElem_range];unfold td;rw [aj h1,db h2]
theorem aet{α:Type}(x y p r i q b:α):[x,y,p,r,i,q,b].Perm [p,x,i,q,b,y,r]:=by
 classical
 refine lR.2 fun z=>?_
 simp only [lE,nQ];omega
theorem uY{t:TypeId}{rs:List aG}{xss:aiB}{a:aiC}{n c:Nat}{x:List Int}(h:rs.length=xss.length):cS t (rs++ [⟨a,n,c⟩]) (xss++ [x])=cS t rs xss++ [ah t a n c x]:=by
 rw [CU h];rfl
abbrev xk(A1 A2 A4 A5 A6:aiC)(A:aiC)(n c:Nat)(M:aiB)(i j i':Nat)(AR:aiC)(cR:Nat)(AD:aiC)(cD:Nat)(cH:List aG)(c5 c6:Nat)(gI:List aG):List Ck:=
 bj A4 n AR (aD M i+j) cR AD (aD M i+j) cD::ah 2 AR (aD M i+j) cR (aO M i++List.replicate j (i:Int))::ah 2 A5 i' c5 (mC M i')::bj A2 0 none 0 0 none 0 0::Bx 24 1 A1 [.slice A n c]::bU 32 AD (aD M i+j) cD cH::bU 32 A6 i' c6 gI::(cS 2 cH (List.replicate (aD M i+j) [])++cS 2 gI (o4 M i'))
theorem LZ{t1 t2:TypeId}{A:aiC}{n c:Nat}{rs:List aG}{xss:aiB}{pre ks:List Ck}{i:Nat}(s:aG)(xs:List Int)(hr:rs.length=xss.length)(hi:i<rs.length):(pre++ (aE t1 t2 A n c rs xss++ks)).set (pre.length+1+i) (ah t2 s.a s.n s.c xs)=pre++ (bU t1 A n c rs::(cS t2 (rs.set i s) (xss.set i xs)++ks)):=by
 rw [List.set_append_right _ _ (by omega),show pre.length+1+i - pre.length=i+1 by omega]
 congr 1
 show(bU t1 A n c rs::(cS t2 rs xss++ks)).set (i+1) _=_;rw [List.set_cons_succ,List.set_append_left _ _ (by rw [CW hr];exact hi),Mv hr]
abbrev pD(A1 A2 A5 A6:aiC)(A:aiC)(n c:Nat)(M:aiB)(AR:aiC)(N cR c5 c6:Nat)(gI:List aG):List Ck:=
 ah 2 AR N cR (aO M n)::ah 2 A5 n c5 (mC M n)::bj A2 0 none 0 0 none 0 0::Bx 24 1 A1 [.slice A n c]::(aE 32 2 A6 n c6 gI (o4 M n)++ [])
set_option maxHeartbeats 4000000 in
theorem SH(A:aiC)(n c:Nat)(rs:List aG)(M:aiB)(w:World)(hR:br w A n rs M)(hM:bL M):
 aA prog 133 [.agg #[.slice A n c]] w (fun v w'=>∃AR cR AD cD cH,v= .agg #[aiD (M.length:Int),.slice AR (aD M M.length) cR,.slice AD (aD M M.length) cD]∧cH.length=aD M M.length∧St w w' (ah 2 AR (aD M M.length) cR (aO M M.length)::(aE 32 2 AD (aD M M.length) cD cH (bn M)++ []))):=by
 have hl:=hR.len;have h1:=hM.1;have h2:=hM.2.1;have yo:∀i,i≤n→aD M i≤2000:=fun i hi=>by
  have h3:=HD (M:=M) i;have h4:i* (gl M 0).length≤5*400:=Nat.mul_le_mul (by omega) (by omega);omega
 refine bk func133 O ntmps133 O (qH O O) (aQ O (iI (St.refl w) O O ?_));intro A1 w1 ao;refine jC ao O ?_;intro A2 w2 ar;refine ad O (aH (ar.rd 1 O) O O O O inferInstance (aM (ar.rd 1 O) O O O O O ?_));refine aa.len O O (ad O ?_);refine Fy (by exact inferInstance) (by exact inferInstance) (by exact inferInstance) O O O O O O (jl ar O ?_);intro A5 w3 az;refine jl az O ?_;intro A6 w4 aJ;refine jC aJ O ?_;intro A4 w5 aK;refine bG 3 0 aK O O O O O O O ?_;intro w6 aR;have aR:St w w6 (xk A1 A2 A4 A5 A6 A n c M 0 0 0 none 0 none 0 [] 0 0 []):=by
  have h7:=(aR.nil 32).nil 2;exact h7.perm (aet _ _ _ _ _ _ _)
 clear aK aJ az ar ao;refine ay O ?_;refine Cd.loop (α:=Nat×(aiC×Nat)×(aiC×Nat×List aG)×(aiC×Nat)×(aiC×Nat×List aG)) (fun z=> [(1,.pointer A1),(2,.pointer A2),(3,aiD (n:Int)),(4,.pointer A4),(5,.slice z.2.2.2.1.1 z.1 z.2.2.2.1.2),(6,.slice z.2.2.2.2.1 z.1 z.2.2.2.2.2.1),(7,aiD (z.1:Int))])
  (fun z w'=>z.1≤n∧z.2.2.1.2.2.length=aD M z.1∧z.2.2.2.2.2.2.length=z.1∧St w w' (xk A1 A2 A4 z.2.2.2.1.1 z.2.2.2.2.1 A n c M z.1 0 z.1 z.2.1.1 z.2.1.2 z.2.2.1.1 z.2.2.1.2.1 z.2.2.1.2.2 z.2.2.2.1.2 z.2.2.2.2.2.1 z.2.2.2.2.2.2)) (fun z=>n - z.1) (0,(none,0),(none,0,[]),(A5,0),(A6,0,[])) ⟨rfl,rfl,rfl,rfl,rfl,rfl,rfl,ae⟩ ⟨aW _,rfl,rfl,aR⟩ ?_
 clear aR;rintro⟨i,⟨AR,cR⟩,⟨AD,cD,cH⟩,⟨A5,c5⟩,⟨A6,c6,gI⟩⟩ e w7 ⟨hi,ju,Eu,hS⟩;dsimp only at hi ju Eu hS⊢;have Rs:=yo i hi;refine bK O ?_;refine aB _ O (fun h3=>?_) (fun h3=>?_)
 ·have dq:i<n:=by omega
  have jY:=ze M i;have tJ:=yo (i+1) (by omega);have zP:aD M (i+1)=aD M i+ (ja M i).toNat:=O;obtain⟨N,hN⟩:∃N:Nat,ja M i=N:=⟨(ja M i).toNat,by omega⟩;rw [hN,ir]at zP;have Ec:=X5 hM i;rw [hN]at Ec jY;have oW:aO M (i+1)=aO M i++List.replicate N (i:Int):=by rw [aO,hN,ir]
  refine av O (aH (hS.rd 0 O) O O O O inferInstance (aM (hS.rd 0 O) O O O O O (aa.len O O (dJ hS O O O ?_))));intro A32 w8 bA;refine eK 3 bA O (bA.bc 0 O) O O O (by omega) (by omega) O ?_;intro u9 vX w9 aS;have aS:=aS.tail;have e5:mC M i++ [((aD M i+0:Nat):Int)]=mC M (i+1):=(aej M i).symm;rw [e5]at aS;clear bA hS;refine ad O (aa.bq 0 (aS.rd 4 O) O O O (ad O (aa.call (acK A n c rs M i _ (aS.bF hR) hM dq) O O O ?_)));rintro _ dB ⟨ua,vY,rfl,ak⟩;have bD:=aS.call ak;clear ak aS;refine nj bD O O O ?_;intro da eu du;refine oM 8 du O (du.il 0 O) O O O (by omega) (by omega) O ?_;intro sV ug gm eG;have eG:St w gm (ah 2 ua (gl M 0).length vY (dd M i)::bj A4 n AR (aD M i+0) cR AD (aD M i+0) cD::ah 2 AR (aD M i+0) cR (aO M i++List.replicate 0 (i:Int))::ah 2 u9 (i+1) vX (mC M (i+1))::bj A2 0 none 0 0 none 0 0::Bx 24 1 A1 [.slice A n c]::bU 32 AD (aD M i+0) cD cH::bU 32 sV (i+1) ug (gI++ [⟨ua,(gl M 0).length,vY⟩])::(cS 2 cH (List.replicate (aD M i+0) [])++cS 2 gI (o4 M i))):=eG.tail;have eG:St w gm (xk A1 A2 A4 u9 sV A n c M i 0 (i+1) AR cR AD cD cH vX ug (gI++ [⟨ua,(gl M 0).length,vY⟩])):=by
   have h9:=eG.perm (aer _ _ _ _ _ _ _ _ _ _);rw [←uY (by rw [Eu,LJ]),←ac5]at h9;exact h9
  have RJ:(gI++ [(⟨ua,(gl M 0).length,vY⟩:aG)]).length=i+1:=by simp [Eu]
  have QW:rg (gI++ [(⟨ua,(gl M 0).length,vY⟩:aG)]) (i:Int)=⟨ua,(gl M 0).length,vY⟩:=by
   unfold rg;rw [ir,cJ,jQ (by omega),Eu,Nat.sub_self];rfl
  clear bD du;generalize gI++ [(⟨ua,(gl M 0).length,vY⟩:aG)]=tX at*;have kQ:jD gm sV (i+1) tX:=eG.il 6 O;have P3:bS gm ua (gl M 0).length (dd M i):=by
   have hk6:cS 2 tX (o4 M (i+1))≠[]∨True:= .inr ae;have h7:=HQ (t:=2) (rs:=tX) (xss:=o4 M (i+1)) (i:=i) (by rw [RJ,LJ]) (by omega);have h8:=eG.sub (show(cS 2 tX (o4 M (i+1))).Sublist (xk A1 A2 A4 u9 sV A n c M i 0 (i+1) AR cR AD cD cH vX ug tX) from(((((((gR _ _).cons _).cons _).cons _).cons _).cons _).cons _).cons _);have h9:=h8.bc i h7;have e8:tX.getD i dE=⟨ua,(gl M 0).length,vY⟩:=QW;have e9:(o4 M (i+1)).getD i []=dd M i:=SN (show i<i+1 by omega);rw [e8,e9]at h9;exact h9
  refine ad O (aw kQ.2 O O O (by omega) (by omega) (bQ kQ O (by omega) O O ?_));rw [QW];refine aa.call (acL ua (gl M 0).length vY (dd M i) _ P3 (by omega) (fun x hx=>by
   obtain⟨k,hk,rfl⟩:=gJ.1 hx;rw [Gb]at hk;have:=BF hM i k hk;rw [bX (by rw [Gb];exact hk)]at this;omega)) rfl rfl rfl ?_
  rintro _ gm ⟨rfl,rfl⟩;rw [Ec];refine ay O ?_;clear kQ P3;refine Cd.loop (α:=Nat×(aiC×Nat)×(aiC×Nat×List aG)) (fun z=> [(1,.pointer A1),(2,.pointer A2),(3,aiD (n:Int)),(4,.pointer A4),(5,.slice u9 (i+1) vX),(6,.slice sV (i+1) ug),(7,aiD (i:Int)),(8,aiD ((N:Int) - (z.1:Int)))])
   (fun z w'=>z.1≤N∧z.2.2.2.2.length=aD M i+z.1∧St w w' (xk A1 A2 A4 u9 sV A n c M i z.1 (i+1) z.2.1.1 z.2.1.2 z.2.2.1 z.2.2.2.1 z.2.2.2.2 vX ug tX)) (fun z=>N - z.1) (0,(AR,cR),(AD,cD,cH)) ⟨rfl,rfl,rfl,rfl,rfl,rfl,rfl,ax (Value.int .i64) (by show(N:Int)=(N:Int) - ((0:Nat):Int);omega),ae⟩ ⟨aW _,ju,eG⟩ ?_
  clear eG;rintro⟨j,⟨BR,dR⟩,⟨BD,dD,pY⟩⟩ e dW ⟨hj,wS,hS⟩;dsimp only at hj wS hS⊢;refine bK O ?_;refine aB _ O (fun h4=>?_) (fun h4=>?_)
  ·have yi:j<N:=by omega
   refine av O (aH (hS.rd 0 O) O O O O inferInstance (aM (hS.rd 0 O) O O O O O (ad O (dJ hS O O O ?_))));intro A52 me ic;refine eK 2 ic O (ic.bc 0 O) O O O (by omega) (by omega) O ?_;intro Fk FP mG gr;have hB:=gr.rd 1 O;refine aH hB O O O O inferInstance (jS 1 gr O O O O O ?_);intro rP kP;have kP:=kP.tail;clear ic gr hB hS;refine ad O ?_;have hB:=kP.rd 0 O;refine aH hB O O O O inferInstance (aM hB O O O O O (jl kP O ?_));intro qK mH fV;have fV:St w mH (ah 2 qK 0 0 []::_):=fV;refine nj fV O O O ?_;intro A58 tZ ko;refine oM 7 ko O (ko.il 0 O) O O O (by omega) (by omega) O ?_;intro Fl FQ vL oU;have hB:=oU.rd 2 O;refine aH hB O O O O inferInstance (jS 2 oU O O O O O ?_);intro kh fK;have fK:St w kh (ah 2 qK 0 0 []::bj A4 n Fk (aD M i+j+1) FP Fl (aD M i+j+1) FQ::ah 2 Fk (aD M i+j+1) FP ((aO M i++List.replicate j (i:Int))++ [(i:Int)])::ah 2 u9 (i+1) vX (mC M (i+1))::bj A2 0 none 0 0 none 0 0::Bx 24 1 A1 [.slice A n c]::bU 32 Fl (aD M i+j+1) FQ (pY++ [⟨qK,0,0⟩])::bU 32 sV (i+1) ug tX::(cS 2 pY (List.replicate (aD M i+j) [])++cS 2 tX (o4 M (i+1)))):=fK.tail;have ZI:St w kh (xk A1 A2 A4 u9 sV A n c M i (j+1) (i+1) Fk FP Fl FQ (pY++ [⟨qK,0,0⟩]) vX ug tX):=by
    have h9:=fK.perm (aeq _ _ _ _ _ _ _ _ _ _);rw [←uY (by rw [wS,List.length_replicate]),fR,←List.replicate_succ',←List.replicate_succ']at h9;exact h9
   refine ad O (aa.sub O O O (by omega) (aF O (tQ ?_)));exact⟨(j+1,(Fk,FP),(Fl,FQ,pY++ [⟨qK,0,0⟩])),by show N - (j+1)<N - j;omega,⟨O,O,O,O,O,O,O,ax (Value.int .i64) (by show(N:Int) - (j:Int) - 1=(N:Int) - ((j+1:Nat):Int);omega),ae⟩,by show j+1≤N;omega,by show(pY++ [_]).length=aD M i+ (j+1);rw [dm,wS];rfl,ZI⟩
  ·have yi:j=N:=by omega
   subst yi;refine aY O (aZ (cL O (aa.add O O O (by omega) (aF O (tQ ?_)))));refine⟨(i+1,(BR,dR),(BD,dD,pY),(u9,vX),(sV,ug,tX)),by show n - (i+1)<n - i;omega,⟨O,O,O,O,O,O,O,ae⟩,by show i+1≤n;omega,by rw [zP];exact wS,RJ,?_⟩;show St w dW (xk A1 A2 A4 u9 sV A n c M (i+1) 0 (i+1) BR dR BD dD pY vX ug tX);unfold xk at hS⊢;rw [←zP,←oW]at hS;rw [Nat.add_zero,List.replicate_zero,fg];exact hS
 obtain rfl:i=n:=by omega
 have ig:M.length=i:=hl;obtain⟨N,hK⟩:∃N,aD M i=N:=⟨_,rfl⟩;have l0:aD M M.length=N:=by rw [ig,hK]
 have Cs:N*N≤4000000:=kJ (Nat.mul_le_mul (show N≤2000 by omega) (show N≤2000 by omega)) (by decide);have Qg:St w w7 (bj A4 i AR N cR AD N cD::(aE 32 2 AD N cD cH (fX M 1 0 0)++pD A1 A2 A5 A6 A i c M AR N cR c5 c6 gI)):=by
  rw [Wx hM,l0];unfold xk at hS;rw [Nat.add_zero,hK,List.replicate_zero,fg]at hS;exact hS.perm (aes _ _ _ _ _ _ _ _ _)
 clear hS;rw [hK]at ju;refine aY O (aZ (nN O ?_));refine Cd.loop (α:=Nat×List aG) (fun z=> [(1,.pointer A1),(2,.pointer A2),(3,aiD (i:Int)),(4,.pointer A4),(5,.slice A5 i c5),(6,.slice A6 i c6),(9,aiD (z.1:Int))])
  (fun z w'=> (1≤z.1∧z.1≤i)∧z.2.length=N∧St w w' (bj A4 i AR N cR AD N cD::(aE 32 2 AD N cD z.2 (fX M z.1 0 0)++pD A1 A2 A5 A6 A i c M AR N cR c5 c6 gI))) (fun z=>i - z.1) (1,cH) ⟨rfl,rfl,rfl,rfl,rfl,rfl,rfl,ae⟩ ⟨⟨a8 _,by show 1≤i;omega⟩,ju,Qg⟩ ?_
 clear Qg;rintro⟨k,pY⟩ e w8 ⟨⟨eh,dU⟩,wS,hS⟩;dsimp only at eh dU wS hS⊢;refine bK O ?_;refine aB _ O (fun h4=>?_) (fun h4=>?_)
 ·have oY:k<i:=by omega
  refine av O (aH (hS.rd 0 O) O O O O inferInstance (aM (hS.rd 0 O) O O O O O ?_));refine aa.len O O (ad O ?_);refine aa.mul O O O (by have:((N*N:Nat):Int)=(N:Int)* (N:Int):=Int.natCast_mul N N;omega) ?_;rw [show(N:Int)* (N:Int)=((N*N:Nat):Int) from(Int.natCast_mul N N).symm];refine xL (v:=false) (N*N) hS O O (by omega) ?_;intro df w9 aS;refine ay O ?_;refine Cd.loop (α:=Nat×List Bool) (fun z=> [(1,.pointer A1),(2,.pointer A2),(3,aiD (i:Int)),(4,.pointer A4),(5,.slice A5 i c5),(6,.slice A6 i c6),(9,aiD (k:Int)),(10,aiD (N:Int)),(11,.slice df (N*N) (N*N)),(12,aiD (z.1:Int))])
   (fun z w'=>z.1≤(gl M 0).length∧rU M k z.1 0 z.2∧St w w' (fQ 4 df (N*N) (N*N) z.2::bj A4 i AR N cR AD N cD::(aE 32 2 AD N cD pY (fX M k 0 0)++pD A1 A2 A5 A6 A i c M AR N cR c5 c6 gI))) (fun z=> (gl M 0).length - z.1) (0,List.replicate (N*N) false) ⟨rfl,rfl,rfl,rfl,rfl,rfl,rfl,rfl,rfl,rfl,ae⟩ ⟨aW _,by have:=rU.zero M k;rwa [l0]at this,aS⟩ ?_
  clear aS hS;rintro⟨f,G⟩ e dB ⟨hf,hG,hS⟩;dsimp only at hf hG hS⊢;have Le:∀(G:List Bool) (q:List aG) (B:aiB),(pD A1 A2 A5 A6 A i c M AR N cR c5 c6 gI).Sublist (fQ 4 df (N*N) (N*N) G::bj A4 i AR N cR AD N cD::(aE 32 2 AD N cD q B++pD A1 A2 A5 A6 A i c M AR N cR c5 c6 gI)):=fun G q B=> ((gR _ _).cons _).cons _
  have abn:(aE 32 2 A6 i c6 gI (o4 M i)).Sublist (pD A1 A2 A5 A6 A i c M AR N cR c5 c6 gI):=by
   refine List.Sublist.cons _ (List.Sublist.cons _ (List.Sublist.cons _ (List.Sublist.cons _ ?_)));rw [fg];exact fJ _
  have x6:=(hS.sub (Le _ _ _)).rd 3 O;refine aQ O (aa.bq 0 x6 O O O (aa.call (vA A i c rs M _ (hS.bF hR) (by omega)) O O O ?_));rintro _ eu ⟨rfl,ak⟩;have hS:=hS.later ak.below;clear ak x6;refine ay O ?_;refine aB _ O (fun h5=>?_) (fun h5=>?_)
  ·have sC:f< (gl M 0).length:=by omega
   refine bP O ?_;refine Cd.loop (α:=Nat×List Bool) (fun z=> [(1,.pointer A1),(2,.pointer A2),(3,aiD (i:Int)),(4,.pointer A4),(5,.slice A5 i c5),(6,.slice A6 i c6),(9,aiD (k:Int)),(10,aiD (N:Int)),(11,.slice df (N*N) (N*N)),(12,aiD (f:Int)),(13,aiD (z.1:Int))])
    (fun z w'=>z.1≤k∧rU M k f z.1 z.2∧St w w' (fQ 4 df (N*N) (N*N) z.2::bj A4 i AR N cR AD N cD::(aE 32 2 AD N cD pY (fX M k 0 0)++pD A1 A2 A5 A6 A i c M AR N cR c5 c6 gI))) (fun z=>k - z.1) (0,G) ⟨rfl,rfl,rfl,rfl,rfl,rfl,rfl,rfl,rfl,rfl,rfl,ae⟩ ⟨aW _,hG,hS⟩ ?_
   clear hS hG;rintro⟨j,G⟩ e gm ⟨hj,hG,hS⟩;dsimp only at hj hG hS⊢;refine bK O ?_;refine aB _ O (fun h6=>?_) (fun h6=>?_)
   ·have yj:j<k:=by omega
    have GA:bS gm A5 i (mC M i):=(hS.sub (Le _ _ _)).bc 1 O;have jX:br gm A6 i gI (o4 M i):=(hS.sub (abn.trans (Le _ _ _))).rN (LJ M i);have jL:=jX.at_ (i:=(k:Int)) (by omega) (by omega);have Hi:=jX.at_ (i:=(j:Int)) (by omega) (by omega);rw [SN (by omega)]at jL Hi;have hkn9:(rg gI (k:Int)).n=(gl M 0).length:=by rw [←jL.1,Gb]
    have hjn9:(rg gI (j:Int)).n=(gl M 0).length:=by rw [←Hi.1,Gb]
    have o1:=Tp (M:=M) (i:=i) (k:=k) (by omega);have o2:=Tp (M:=M) (i:=i) (k:=j) (by omega);have e1:=pn hM (i:=k) sC;have e2:=pn hM (i:=j) sC;have m1:=nG M (show k+1≤M.length by omega);have m2:=nG M (show j+1≤M.length by omega);rw [l0]at m1 m2;have f1:gi (mC M i) (k:Int)+gi (dd M k) (f:Int)=bC M k f:=by rw [o1];rfl
    have f2:gi (mC M i) (j:Int)+gi (dd M j) (f:Int)=bC M j f:=by rw [o2];rfl
    obtain⟨E,hE⟩:∃E:Nat,bC M k f=E:=⟨(bC M k f).toNat,by omega⟩;obtain⟨D,hD⟩:∃D:Nat,bC M j f=D:=⟨(bC M j f).toNat,by omega⟩;have gH:=hG.next hM sC (by omega) yj;rw [hE,hD,l0,ir,ir]at gH;rw [hE]at e1 f1;rw [hD]at e2 f2;have tM:=Me (N:=N) (e:=E) (d:=D) (by omega) (by omega);have qY:((E*N:Nat):Int)=(E:Int)* (N:Int):=Int.natCast_mul E N;have hle:E*N≤N*N:=Nat.mul_le_mul_right N (by omega);have dp:=BF hM k f sC;have hlo2:=BF hM j f sC;have Eg:(E:Int)* (N:Int)+gi (mC M i) (j:Int)+gi (dd M j) (f:Int)=((E*N+D:Nat):Int):=by omega
    refine bP O ?_;refine iU [29] [yS (df) (N*N) (N*N),yS (A5) (i) (c5),yI ((k:Int)),yP (aq (A5) ((k:Int)).toNat),yI (gi (mC M i) ((k:Int))),yS (A6) (i) (c6),yI ((k:Int)),yP (aq (A6) ((k:Int)).toNat),yS ((rg (gI) ((k:Int))).a) ((rg (gI) ((k:Int))).n) ((rg (gI) ((k:Int))).c),yI ((f:Int)),yP (aq ((rg (gI) ((k:Int))).a) ((f:Int)).toNat),yI (gi (dd M k) ((f:Int))),yI ((gi (mC M i) ((k:Int)))+ (gi (dd M k) ((f:Int)))),yI ((N:Int)),yI ((E:Int)* (N:Int)),yS (A5) (i) (c5),yI ((j:Int)),yP (aq (A5) ((j:Int)).toNat),yI (gi (mC M i) ((j:Int))),yI (((E:Int)* (N:Int))+ (gi (mC M i) ((j:Int)))),yS (A6) (i) (c6),yI ((j:Int)),yP (aq (A6) ((j:Int)).toNat),yS ((rg (gI) ((j:Int))).a) ((rg (gI) ((j:Int))).n) ((rg (gI) ((j:Int))).c),yI ((f:Int)),yP (aq ((rg (gI) ((j:Int))).a) ((f:Int)).toNat),yI (gi (dd M j) ((f:Int))),yI ((((E:Int)* (N:Int))+ (gi (mC M i) ((j:Int))))+ (gi (dd M j) ((f:Int)))),yP (aq (df) ((((E:Int)* (N:Int))+ (gi (mC M i) ((j:Int))))+ (gi (dd M j) ((f:Int)))).toNat),.pr (fun _ w'=>St w w' (fQ 4 df (N*N) (N*N) (G.set (E*N+D) true)::bj A4 i AR N cR AD N cD::(aE 32 2 AD N cD pY (fX M k 0 0)++pD A1 A2 A5 A6 A i c M AR N cR c5 c6 gI)))] (by kernel_rfl) (by kernel_rfl) (ly (ly (ly (ly (ly (ly (ly (ly (ly (ly (ly (ly (ly (ly (ly (ly (ly (ly (ly (ly (ly (ly (ly (ly (ly (ly (ly (ly (ly (bV.2 ⟨Ye.b9 (fun v w w' h hb=>h.later hb),(fun _ h=>by cases h)⟩)))))))))))))))))))))))))))))) ?_ ?_
    ·refine⟨ba O,ba O,ba O,cP fun _ _ hb _ _ _=>aw (GA.later hb).2 O O O (by omega) (by omega) (aX O O),cP fun _ _ hb _ _ _=>aT (GA.later hb) O (by omega) O O (aX O O),ba O,ba O,cP fun _ _ hb _ _ _=>aw (jX.top.later hb).2 O O O (by omega) (by omega) (aX O O),cP fun _ _ hb _ _ _=>bQ (jX.top.later hb) O (by omega) O O (aX O O),ba O,cP fun _ _ hb _ _ _=>aw (jL.later hb).2 O O O (by omega) (by omega) (aX O O),cP fun _ _ hb _ _ _=>aT (jL.later hb) O (by omega) O O (aX O O),aP fun _ _=>aa.add O O O (by omega) (aX O O),ba O,aP fun _ _=>aa.mul (i:=(E:Int)) (j:=(N:Int)) (by exact ax (Value.int .i64) f1) O O (by omega) (aX O O),ba O,ba O,cP fun _ _ hb _ _ _=>aw (GA.later hb).2 O O O (by omega) (by omega) (aX O O),cP fun _ _ hb _ _ _=>aT (GA.later hb) O (by omega) O O (aX O O),aP fun _ _=>aa.add O O O (by omega) (aX O O),ba O,ba O,cP fun _ _ hb _ _ _=>aw (jX.top.later hb).2 O O O (by omega) (by omega) (aX O O),cP fun _ _ hb _ _ _=>bQ (jX.top.later hb) O (by omega) O O (aX O O),ba O,cP fun _ _ hb _ _ _=>aw (Hi.later hb).2 O O O (by omega) (by omega) (aX O O),cP fun _ _ hb _ _ _=>aT (Hi.later hb) O (by omega) O O (aX O O),aP fun _ _=>aa.add O O O (by omega) (aX O O),cP fun _ _ hb _ _ _=>aw ((hS.jy 0 O).later hb).2 O O O (by omega) (by omega) (aX O O),?_,ae⟩
     ·refine iY fun e1 w1 hb hp aL hq=>?_
      refine uc 0 (hS.later hb) O O O (by omega) ?_;intro w6 aR;refine aa.n ?_;exact eA.st O (by rw [Eg,ir]at aR;exact aR)
    intro u dW _ hu _ _;have hT:=hu 29 _ O (by kernel_rfl);refine iq O (aa.add O O O (by omega) (aF O (tQ ?_)));exact⟨(j+1,_),by show k - (j+1)<k - j;omega,⟨O,O,O,O,O,O,O,O,O,O,O,ae⟩,by show j+1≤k;omega,gH,hT⟩
   ·have yj:j=k:=by omega
    subst yj;refine aY O (aZ (cL O (aa.add O O O (by omega) (aF O (tQ ?_)))));exact⟨(f+1,G),by show(gl M 0).length - (f+1)< (gl M 0).length - f;omega,⟨O,O,O,O,O,O,O,O,O,O,ae⟩,by show f+1≤(gl M 0).length;omega,hG.row,hS⟩
  ·have sC:f=(gl M 0).length:=by omega
   subst sC;have nC:=fun e d he hd=>hG.done hM (show k<M.length by omega) (e:=e) (d:=d) he hd
   rw [l0]at nC;have hGl:G.length=N*N:=by have:=hG.1;rwa [l0]at this
   refine aY O (aZ (nN O ?_));refine Cd.loop (α:=Nat×List aG) (fun z=> [(1,.pointer A1),(2,.pointer A2),(3,aiD (i:Int)),(4,.pointer A4),(5,.slice A5 i c5),(6,.slice A6 i c6),(9,aiD (k:Int)),(10,aiD (N:Int)),(11,.slice df (N*N) (N*N)),(14,aiD (z.1:Int))])
    (fun z w'=>z.1≤N∧z.2.length=N∧St w w' (fQ 4 df (N*N) (N*N) G::bj A4 i AR N cR AD N cD::(aE 32 2 AD N cD z.2 (fX M k z.1 0)++pD A1 A2 A5 A6 A i c M AR N cR c5 c6 gI))) (fun z=>N - z.1) (0,pY) ⟨rfl,rfl,rfl,rfl,rfl,rfl,rfl,rfl,rfl,rfl,ae⟩ ⟨aW _,wS,hS⟩ ?_
   clear hS wS hG h5;rintro⟨E,q3⟩ e gm ⟨hE,Cp,hS⟩;dsimp only at hE Cp hS⊢;refine bK O ?_;refine aB _ O (fun h5=>?_) (fun h5=>?_)
   ·have qY:E<N:=by omega
    have hEm:((E*N:Nat):Int)=(E:Int)* (N:Int):=Int.natCast_mul E N;have hEle:E*N≤N*N:=Nat.mul_le_mul_right N (by omega);refine bP O ?_;refine Cd.loop (α:=Nat×List aG) (fun z=> [(1,.pointer A1),(2,.pointer A2),(3,aiD (i:Int)),(4,.pointer A4),(5,.slice A5 i c5),(6,.slice A6 i c6),(9,aiD (k:Int)),(10,aiD (N:Int)),(11,.slice df (N*N) (N*N)),(14,aiD (E:Int)),(15,aiD (z.1:Int))])
     (fun z w'=>z.1≤N∧z.2.length=N∧St w w' (fQ 4 df (N*N) (N*N) G::bj A4 i AR N cR AD N cD::(aE 32 2 AD N cD z.2 (fX M k E z.1)++pD A1 A2 A5 A6 A i c M AR N cR c5 c6 gI))) (fun z=>N - z.1) (0,q3) ⟨rfl,rfl,rfl,rfl,rfl,rfl,rfl,rfl,rfl,rfl,rfl,ae⟩ ⟨aW _,Cp,hS⟩ ?_
    clear hS Cp;rintro⟨D,q4⟩ e dW ⟨hD,He,hS⟩;dsimp only at hD He hS⊢;refine bK O ?_;refine aB _ O (fun h6=>?_) (fun h6=>?_)
    ·have Gw:D<N:=by omega
     have tM:=Me (N:=N) (e:=E) (d:=D) qY Gw;have oo:=xT M k E D;rw [l0]at oo;have QO:=nC E D qY Gw;have PW:ud dW df (N*N) G:=hS.jy 0 O;have Eg:(E:Int)* (N:Int)+ (D:Int)=((E*N+D:Nat):Int):=by omega
     refine av O (aa.mul O O O (by omega) ?_);refine ad O (aa.add O O O (by omega) ?_);refine aw PW.2 O O O (by omega) (by omega) (qN PW O (by omega) O O ?_);rw [Eg];refine ay O ?_;generalize hgb:gb G ((E*N+D:Nat):Int)=b at*;cases b with
     | false => --dup 2
      have e6:=WA (M:=M) (i:=k) (e:=E) (d:=D) (by omega) (by omega) (fun h=>by have:=QO.2 h;cases this);refine Cd.eV O ?_;refine av O (aa.add O O O (by omega) (aF O (tQ ?_)));exact⟨(D+1,q4),by show N - (D+1)<N - D;omega,⟨O,O,O,O,O,O,O,O,O,O,O,ae⟩,by show D+1≤N;omega,He,by rw [e6];exact hS⟩
     | true=>
      have qv:=Wy (M:=M) (i:=k) (e:=E) (d:=D) (by omega) (QO.1 O);have fH:br dW AD N q4 (fX M k E D):=by
       have h9:=hS.sub (show(aE 32 2 AD N cD q4 (fX M k E D)).Sublist _ from((rX _ _).cons _).cons _);exact h9.rN oo
      have yu:=(fH.at_ (i:=(E:Int)) (by omega) (by omega)).1;have iD:(rg q4 (E:Int)).n≤N:=by
       rw [←yu,NO (by omega)];have gy:(gl (bn M) (E:Int)).length≤N:=by
        refine rF (O7 M _).nodup fun x hx=>?_
        rw [n3 (by omega) (by omega)]at hx;omega
       unfold td
       split
       ·exact gy
       ·split
        ·exact aW _
        ·split
         ·exact gy
         ·split
          ·exact kJ (oJ _ _) gy
          ·exact aW _
      have fq:Rd dW A4 3 (fun q=> [Value.int .i64 (i:Int),.slice AR N cR,.slice AD N cD].getD q undef):=hS.rd 1 O;have sD:∀A9:aiC,(ah 2 A9 1 1 [(D:Int)]::(fQ 4 df (N*N) (N*N) G::bj A4 i AR N cR AD N cD::(aE 32 2 AD N cD q4 (fX M k E D)++pD A1 A2 A5 A6 A i c M AR N cR c5 c6 gI)))[3+1+E]?=some (ah 2 (rg q4 (E:Int)).a (rg q4 (E:Int)).n (rg q4 (E:Int)).c (gl (fX M k E D) (E:Int))):=fun A9=>CF (t1:=32) (t2:=2) (A:=AD) (n:=N) (c:=cD) (rs:=q4) (xss:=fX M k E D) (pre:=[ah 2 A9 1 1 [(D:Int)],fQ 4 df (N*N) (N*N) G,bj A4 i AR N cR AD N cD]) (ks:=pD A1 A2 A5 A6 A i c M AR N cR c5 c6 gI) (i:=E) (by omega) (by omega)
      have nz:=fun(A9:aiC) (s:aG) (xs:List Int)=>LZ (t1:=32) (t2:=2) (A:=AD) (n:=N) (c:=cD) (rs:=q4) (xss:=fX M k E D) (ks:=pD A1 A2 A5 A6 A i c M AR N cR c5 c6 gI) (pre:=[ah 2 A9 1 1 [(D:Int)],fQ 4 df (N*N) (N*N) G,bj A4 i AR N cR AD N cD]) (i:=E) s xs (by omega) (by omega)
      refine Cd.gj O ?_;refine iU [10,12] [yP (aq A4 2),yS (AD) (N) (cD),yI ((E:Int)),yP (aq (A4) 2),yS (AD) (N) (cD),yI ((E:Int)),yP (aq (AD) ((E:Int)).toNat),yS ((rg (q4) ((E:Int))).a) ((rg (q4) ((E:Int))).n) ((rg (q4) ((E:Int))).c),yI ((D:Int)),.pr (fun v w'=>∃A9,v= .slice A9 1 1∧St w w' (ah 2 A9 1 1 [(D:Int)]::(fQ 4 df (N*N) (N*N) G::bj A4 i AR N cR AD N cD::(aE 32 2 AD N cD q4 (fX M k E D)++pD A1 A2 A5 A6 A i c M AR N cR c5 c6 gI)))),.pr (fun v w'=>∃AZ cZ,v= .slice AZ ((rg q4 (E:Int)).n+1) cZ∧St w w' (fQ 4 df (N*N) (N*N) G::bj A4 i AR N cR AD N cD::(bU 32 AD N cD q4::(cS 2 (q4.set E ⟨AZ,(rg q4 (E:Int)).n+1,cZ⟩) ((fX M k E D).set E (gl (fX M k E D) (E:Int)++ [(D:Int)]))++pD A1 A2 A5 A6 A i c M AR N cR c5 c6 gI)))),yP (aq AD ((E:Int)).toNat),.pr (fun _ w'=>∃AZ cZ,St w w' (fQ 4 df (N*N) (N*N) G::bj A4 i AR N cR AD N cD::(aE 32 2 AD N cD (q4.set E ⟨AZ,(rg q4 (E:Int)).n+1,cZ⟩) ((fX M k E D).set E (gl (fX M k E D) (E:Int)++ [(D:Int)]))++pD A1 A2 A5 A6 A i c M AR N cR c5 c6 gI)))] (by kernel_rfl) (by kernel_rfl) (ly (ly (ly (ly (ly (ly (ly (ly (ly (bV.2 ⟨Ye.b9 (fun v w w' h hb=>by obtain⟨A9,hv,hT⟩:=h;exact⟨A9,hv,hT.later hb⟩),(bV.2 ⟨Ye.b9 (fun v w w' h hb=>by obtain⟨AZ,cZ,hv,hT⟩:=h;exact⟨AZ,cZ,hv,hT.later hb⟩),(ly (bV.2 ⟨Ye.b9 (fun v w w' h hb=>by obtain⟨AZ,cZ,hT⟩:=h;exact⟨AZ,cZ,hT.later hb⟩),(fun _ h=>by cases h)⟩))⟩)⟩)))))))))) ?_ ?_
      ·refine⟨?_,?_,ba O,cP fun _ _ hb _ _ _=>aH (fq.below hb) O O O O inferInstance (aX O O),cP fun _ _ hb _ _ _=>aM (fq.below hb) O O O O O (aX O O),ba O,cP fun _ _ hb _ _ _=>aw (fH.top.later hb).2 O O O (by omega) (by omega) (aX O O),cP fun _ _ hb _ _ _=>bQ (fH.top.later hb) O (by omega) O O (aX O O),ba O,?_,?_,?_,?_,ae⟩
       ·intro e1 w1 cc dp bJ dz hp aL hq;show aa _ _ _ _ _ _ _;have hX:Rd w1 A4 3 (fun q=> [Value.int .i64 (i:Int),.slice AR N cR,.slice AD N cD].getD q undef):=by { have bJ:=mw bJ (b:=1) (by kernel_rfl);rcases(show cc=0∨cc=1 by omega)with h | h; { exact Rd.below fq (dz h) }; { subst h;obtain⟨AZ,cZ,_,hT⟩:=hq 10 _ _ (by kernel_rfl) (by kernel_rfl) (by kernel_rfl) rfl rfl (by kernel_rfl);exact hT.rd 1 rfl } }
        refine aH hX O O O O inferInstance (aa.n (fh O (by exact O)))
       ·intro e1 w1 cc dp bJ dz hp aL hq;show aa _ _ _ _ _ _ _;have hX:Rd w1 A4 3 (fun q=> [Value.int .i64 (i:Int),.slice AR N cR,.slice AD N cD].getD q undef):=by { have bJ:=mw bJ (b:=1) (by kernel_rfl);rcases(show cc=0∨cc=1 by omega)with h | h; { exact Rd.below fq (dz h) }; { subst h;obtain⟨AZ,cZ,_,hT⟩:=hq 10 _ _ (by kernel_rfl) (by kernel_rfl) (by kernel_rfl) rfl rfl (by kernel_rfl);exact hT.rd 1 rfl } }
        refine aM hX O O O O O (aa.n (fh O (by exact O)))
       ·refine cP fun e1 w1 hb hp aL hq=>?_
        refine dJ (St.refl _) O O O ?_;intro A9 w9 ak;refine aa.n ?_;exact fF.dn O ak.below ⟨A9,O,(hS.later hb).call ak⟩
       ·refine iY fun e1 w1 hb hp aL hq=>?_
        obtain⟨A9,YW,hT⟩:=(hp 9 _ _ (by kernel_rfl) rfl rfl (by kernel_rfl));refine eK (3+1+E) hT (sD A9) (hT.bc 0 O) O (by exact YW) O (by omega) (by omega) O ?_;intro AZ cZ wZ hZ;have hZ:=(nz A9 ⟨AZ,(rg q4 (E:Int)).n+1,cZ⟩ (gl (fX M k E D) (E:Int)++ [(D:Int)]))▸hZ;refine aa.n ?_;exact eA.dn O ⟨AZ,cZ,O,hZ.tail⟩
       ·intro e1 w1 cc dp bJ dz hp aL hq;show aa _ _ _ _ _ _ _;have hX:jD w1 AD N q4:=by { have bJ:=mw bJ (b:=1) (by kernel_rfl);rcases(show cc=0∨cc=1 by omega)with h | h; { exact fH.top.later (dz h) }; { subst h;obtain⟨AZ,cZ,_,hT⟩:=hq 10 _ _ (by kernel_rfl) (by kernel_rfl) (by kernel_rfl) rfl rfl (by kernel_rfl);exact hT.il 2 rfl } }
        refine aw hX.2 O O O (by omega) (by omega) (aa.n (fh O (by exact O)))
       ·refine oQ 1 fun e1 w1 hp aL hq=>?_
        have dH:=hp 10 _ _ (by kernel_rfl) O O (by kernel_rfl);obtain⟨AZ,cZ,Jw,hT⟩:=dH;refine zc (te:=32) (n:=N) (c:=cD) (A:=AD) (xs:=q4) 2 hT O O (by exact Jw) (by omega) ?_;intro wY hY;refine aa.n ?_;exact eA.st O ⟨AZ,cZ,hY⟩
      intro u me _ hu _ _;obtain⟨AZ,cZ,hT⟩:=hu 12 _ rfl (by kernel_rfl);rw [qv]at hT;refine iq O (aa.add O O O (by omega) (aF O (tQ ?_)));exact⟨(D+1,_),by show N - (D+1)<N - D;omega,⟨O,O,O,O,O,O,O,O,O,O,O,ae⟩,by show D+1≤N;omega,by simp [He],hT⟩
    ·have Gw:D=N:=by omega
     have cj:=Wz (M:=M) (i:=k) (e:=E);rw [l0]at cj;rw [Gw,cj]at hS;refine aY O (aZ (cL O (aa.add O O O (by omega) (aF O (tQ ?_)))));exact⟨(E+1,q4),by show N - (E+1)<N - E;omega,⟨O,O,O,O,O,O,O,O,O,O,ae⟩,by show E+1≤N;omega,He,hS⟩
   ·have qY:E=N:=by omega
    have gH:=Ww (M:=M) (i:=k);rw [l0]at gH;rw [qY,gH]at hS;refine aY O (aZ (cL O (aa.add O O O (by omega) (aF O (tQ ?_)))));exact⟨(k+1,q3),by show i - (k+1)<i - k;omega,⟨O,O,O,O,O,O,O,ae⟩,⟨by show 1≤k+1;omega,by show k+1≤i;omega⟩,Cp,hS.tail⟩
 ·have oY:k=M.length:=by omega
  have dL:=Wv (M:=M);rw [oY,dL]at hS;refine aY O (aZ (cL O ?_));refine aa.bq 2 (hS.rd 0 O) O O O ?_;have ar:St w w8 (bj A2 0 none 0 0 none 0 0::(ah 2 AR N cR (aO M i)::(aE 32 2 AD N cD pY (bn M)++ []))):=by
   have hs:(aE 32 2 AD N cD pY (bn M)++ [ah 2 AR N cR (aO M i),bj A2 0 none 0 0 none 0 0]).Sublist (bj A4 i AR N cR AD N cD::(aE 32 2 AD N cD pY (bn M)++pD A1 A2 A5 A6 A i c M AR N cR c5 c6 gI)):=
    List.Sublist.cons _ (List.Sublist.append_left (List.Sublist.cons_cons _ (List.Sublist.cons _ (List.Sublist.cons_cons _ (List.nil_sublist _)))) _)
   refine(hS.sub hs).perm ?_;rw [fg];exact(lh).trans (List.Perm.swap _ _ _)
  refine bG 3 0 ar O O O O O O O ?_;intro gm eG;refine bh O (kX O (eG.rd 0 O) ?_);refine⟨AR,cR,AD,cD,pY,?_,by rw [l0];exact wS,?_⟩
  ·rw [l0,ig];rfl
  ·rw [l0,ig];exact eG.tail
section
variable {P:Program} {N:Nat} {ops:Array Oper} {K:Env→World→Prop} {rest:List Oper} {e:Env} {w:World} {d:Nat} {ty:TypeId} {pos:String} {af:Array Edge}
theorem VK{F:FuncId}{x y z u:Operand}{v1 v2 v3 v4:Value}(hx:ev e x=v1)(hy:ev e y=v2)(hz:ev e z=v3)(hu:ev e u=v4)(hb:Nat.blt d N=true)(hK:aa P N ops K rest (a7 e d (.func (.func F) #[] #[v1,v2,v3,v4])) w):
 aa P N ops K (⟨some d,.makeFunc (.func F) #[] #[x,y,z,u],ty,pos,af,none⟩::rest) e w:=
 .val (by simp [execOp,Instr.makeFunc,hx,hy,hz,hu]) hb hK
end
theorem xW{l:aiB}(h:l.length≤401):cap l=l:=by
 unfold cap;exact lS h
def v8(U:aiB):Nat→Int→aiB
 | 0,_=> [[]]
 | k+1,e=> (gl U e).flatMap fun f=> (v8 U k f).map (f:: ·)
def nt(U:aiB)(k:Nat)(fl xs:List Int):aiB:=xs.flatMap fun e=> (v8 U k e).map fun y=>fl++e::y
theorem YN{U:aiB}{k:Nat}{fl xs:List Int}{j:Nat}(h:j<xs.length):nt U k fl (xs.take (j+1))=nt U k fl (xs.take j)++ (v8 U k (gi xs (j:Int))).map fun y=>fl++gi xs (j:Int)::y:=by
 unfold nt;rw [rY h,List.flatMap_append,bX h];simp
theorem YM(U:aiB)(k:Nat)(fl:List Int)(e:Int):(v8 U (k+1) e).map (fun y=>fl++e::y)=nt U k (fl++ [e]) (gl U e):=by
 unfold nt;rw [v8,List.map_flatMap];refine ax (fun g=>List.flatMap g (gl U e)) (funext fun f=>?_);rw [List.map_map];refine mJ fun y _=>?_
 show fl++e::f::y=(fl++ [e])++f::y;rw [fR];rfl
abbrev oT(PF A:aiC)(c:Nat)(rs:List aG)(F:aiB)(PB:aiC)(n:Int)(AR:aiC)(nR cR:Nat)(AD:aiC)(m d:Nat)(PG PU Au:aiC)(N cU:Nat)(dv:List aG)(U:aiB)(fE:List Ck):List Ck:=
 Bx 22 1 PF [.slice A F.length c]::(aE 32 2 A F.length c rs F++ (bj PB n AR nR cR AD m d::Bx 121 1 PG [.func (.func 140) #[] #[.pointer PF,.pointer PB,.pointer PG,.pointer PU]]::Bx 22 1 PU [.slice Au N cU]::(aE 32 2 Au N cU dv U++fE)))
theorem aeu{α:Type}(x b c:α)(X Y:List α):(x::b::c::(X++Y)).Perm (b::c::((X++ [x])++Y)):=by
 classical
 refine lR.2 fun z=>?_
 simp only [nP,lE,nQ];omega
theorem Gn(PF A:aiC)(c:Nat)(rs:List aG)(F:aiB)(PB:aiC)(n:Int)(AR:aiC)(nR cR:Nat)(AD:aiC)(m d:Nat)(PG PU Au:aiC)(N cU:Nat)(dv:List aG)(U:aiB)(fE:List Ck):(bj PB n AR nR cR AD m d::Bx 121 1 PG [.func (.func 140) #[] #[.pointer PF,.pointer PB,.pointer PG,.pointer PU]]::Bx 22 1 PU [.slice Au N cU]::(aE 32 2 Au N cU dv U++fE)).Sublist (oT PF A c rs F PB n AR nR cR AD m d PG PU Au N cU dv U fE):=(gR _ _).cons _
theorem Pv(PF A:aiC)(c:Nat)(rs:List aG)(F:aiB)(PB:aiC)(n:Int)(AR:aiC)(nR cR:Nat)(AD:aiC)(m d:Nat)(PG PU Au:aiC)(N cU:Nat)(dv:List aG)(U:aiB)(fE:List Ck)(x:Ck):(x::oT PF A c rs F PB n AR nR cR AD m d PG PU Au N cU dv U fE).Perm (oT PF A c rs F PB n AR nR cR AD m d PG PU Au N cU dv U (x::fE)):=by
 classical
 refine lR.2 fun z=>?_
 simp only [oT,nP,lE];omega
theorem S0{w0 w':World}{PF A:aiC}{c:Nat}{rs:List aG}{F:aiB}{PB:aiC}{n:Int}{AR:aiC}{nR cR:Nat}{AD:aiC}{m d:Nat}{PG PU Au:aiC}{N cU:Nat}{dv:List aG}{U:aiB}{fE:List Ck}{t:TypeId}{B:aiC}{q r:Nat}{xs:List Int}(h:St w0 w' (oT PF A c rs F PB n AR nR cR AD m d PG PU Au N cU dv U (ah t B q r xs::fE))):bS w' B q xs:=(h.perm (Pv ..).symm).bc 0 rfl
theorem YV(PF A:aiC)(c:Nat)(rs:List aG)(F:aiB)(PB:aiC)(n:Int)(AR:aiC)(nR cR:Nat)(AD:aiC)(m d:Nat)(PG PU Au:aiC)(N cU:Nat)(dv:List aG)(U:aiB)(fE:List Ck)(x:Ck):(oT PF A c rs F PB n AR nR cR AD m d PG PU Au N cU dv U fE).Sublist (oT PF A c rs F PB n AR nR cR AD m d PG PU Au N cU dv U (x::fE)):=(((((((fJ fE).cons x).append_left _).cons_cons _).cons_cons _).cons_cons _).append_left _).cons_cons _
theorem Pw{w0 w':World}{PF A:aiC}{c:Nat}{rs:List aG}{F:aiB}{PB:aiC}{n:Int}{AR:aiC}{nR cR:Nat}{AD:aiC}{m d:Nat}{PG PU Au:aiC}{N cU:Nat}{dv:List aG}{U:aiB}{fE:List Ck}(GN:U.length=N)(h:St w0 w' (oT PF A c rs F PB n AR nR cR AD m d PG PU Au N cU dv U fE)):br w' Au N dv U:=
 St.gC (t1:=32) (t2:=2) (c:=cU) (h.sub (((((fJ (aE 32 2 Au N cU dv U++fE)).cons _).cons _).cons _).trans (Gn ..))) GN
set_option maxHeartbeats 2000000 in
theorem YO(w0:World)(n:Nat)(Rm:n≤5)(PF PB AR AD PG PU Au:aiC)(nR cR m d N cU:Nat)(dv:List aG)(U:aiB)(GN:U.length=N)(hN:N≤500)(ZN:∀e:Nat,e<N→(gl U (e:Int)).length≤500∧∀x∈gl U (e:Int),0≤x∧x< (N:Int)):
 ∀(k nf nx:Nat) (fl xs:List Int) (Af Ax:aiC) (cf cx:Nat) (fE:List Ck) (w:World) (A:aiC) (c:Nat) (rs:List aG) (F:aiB),fl.length=nf→xs.length=nx→nf+ (k+1)=n→nx≤500→(∀x∈xs,0≤x∧x< (N:Int))→
  (∀w' A c rs F,St w0 w' (oT PF A c rs F PB n AR nR cR AD m d PG PU Au N cU dv U fE)→bS w' Af nf fl)→
  (∀w' A c rs F,St w0 w' (oT PF A c rs F PB n AR nR cR AD m d PG PU Au N cU dv U fE)→bS w' Ax nx xs)→
  rs.length=F.length→F.length≤401→St w0 w (oT PF A c rs F PB n AR nR cR AD m d PG PU Au N cU dv U fE)→
  aA prog 140 [.slice Af nf cf,.slice Ax nx cx,.pointer PF,.pointer PB,.pointer PG,.pointer PU] w (fun v w'=>v= .tuple #[]∧∃A' c' rs',rs'.length=(cap (F++nt U k fl xs)).length∧St w0 w' (oT PF A' c' rs' (cap (F++nt U k fl xs)) PB n AR nR cR AD m d PG PU Au N cU dv U fE)):=by
 intro k
 induction k using Nat.strongRecOn with
 | _ k ih=>
  intro nf nx fl xs Af Ax cf cx fE w A c rs F En gH gy hxs Hq hf hx kS hF hS;refine bk func140 O ntmps140 O (Al O) ?_;refine aQ O (aa.len O O (ay O ?_));refine Cd.loop (α:=Nat×aiC×Nat×List aG) (fun z=> [(0,.slice Af nf cf),(2,.pointer PF),(3,.pointer PB),(4,.pointer PG),(5,.pointer PU),(11,.slice Ax nx cx),(12,aiD (nx:Int)),(13,aiD (z.1:Int))])
   (fun z w'=>z.1≤nx∧z.2.2.2.length=(cap (F++nt U k fl (xs.take z.1))).length∧St w0 w' (oT PF z.2.1 z.2.2.1 z.2.2.2 (cap (F++nt U k fl (xs.take z.1))) PB n AR nR cR AD m d PG PU Au N cU dv U fE)) (fun z=>nx - z.1) (0,A,c,rs) ⟨rfl,rfl,rfl,rfl,rfl,rfl,rfl,rfl,ae⟩ ⟨aW _,by
     show rs.length=(cap (F++ [])).length;rw [fg,xW hF];exact kS,by
     show St w0 w (oT PF A c rs (cap (F++ [])) _ _ _ _ _ _ _ _ _ _ _ _ _ _ _ _);rw [fg,xW hF];exact hS⟩ ?_
  clear hS kS;rintro⟨j,A,c,rs⟩ e w1 ⟨hj,kS,hS⟩;dsimp only at hj kS hS⊢;generalize hG:F++nt U k fl (xs.take j)=G at*;refine bK O ?_;refine aB _ O (fun h1=>?_) (fun h1=>?_)
  ·have uF:j<xs.length:=by omega
   have hR:=hx _ _ _ _ _ hS;have EG:=Hq _ (gi_in uF);have BP:F++nt U k fl (xs.take (j+1))=G++ (v8 U k (gi xs (j:Int))).map fun y=>fl++gi xs (j:Int)::y:=by
    rw [YN uF,←fR,hG]
   have G2:F++nt U k fl xs=G++nt U k fl (xs.drop j):=by
    rw [←hG,fR]
    congr 1
    unfold nt;rw [←List.flatMap_append,List.take_append_drop]
   refine av O (aw hR.2 O O O (by omega) (by omega) (aT hR O (by omega) O O (ad O ?_)));obtain⟨E,hE⟩:∃E:Nat,gi xs (j:Int)=E:=⟨(gi xs (j:Int)).toNat,by omega⟩;rw [hE]at BP EG⊢;refine aa.call (Fs Af nf cf fl _ (hf _ _ _ _ _ hS) (by omega)) O O O ?_;rintro _ w2 ⟨MV,c18,rfl,ak⟩;have ar:=hS.call ak;clear ak hS;refine ad O (dJ ar O O O ?_);intro nK w3 az;refine eK 1 az O (az.bc 0 O) O O O (by omega) (by omega) O ?_;intro dt eF w4 aJ;have aJ:St w0 w4 (ah 2 dt (nf+1) eF (fl++ [(E:Int)])::oT PF A c rs (cap G) PB n AR nR cR AD m d PG PU Au N cU dv U fE):=aJ.tail;clear az ar;have cN:Rd w4 PF 1 (fun _=> .slice A (cap G).length c):=Rd.one (aJ.rd 1 O);refine ad O (aM (j:=0) cN (by exact ax Value.pointer (oA _).symm) O O O O ?_);refine aa.len O O (ay O ?_);refine aB _ O (fun h2=>?_) (fun h2=>?_)
   ·refine dN O (eZ (eE ?_));refine Mp ?_;refine⟨O,A,c,rs,?_,?_⟩
    ·rw [G2,FV _ (by omega)];exact kS
    ·rw [G2,FV _ (by omega)];exact aJ.tail
   have cg:=IG (l:=G) (by omega);have dG:=((aJ.tail).sub (Gn ..)).rd 0 O
   by_cases uG:k=0
   ·--dup 2
    refine bP O ?_;refine dI [xS (dt) (nf+1) (eF),xI ((nf+1:Nat):Int),xP (aq (PB) 0),xI ((n:Int)),xB (true),xB (true)] (by kernel_rfl) (by kernel_rfl) O (eg O) ?_ ?_
    ·refine⟨Dr O,?_,fun _ _ hb _ _=>aH (dG.below hb) O O O O inferInstance (Az O),fun _ _ hb _ _=>gK (dG.below hb) O O O O O (Az O),fun _ _ _ _ _=>Dk O (by exact ax Value.bool (dX (by omega))),Dr O,ae⟩
     ·intro e1 w1 hb hp aL;refine aa.call (AA _ _ _ _) O O O ?_;rintro _ w2 ⟨rfl,ak⟩;subst ak;refine aa.n (d0 (by exact O))
    intro u w5 lI _;have aK:=aJ.later lI;clear aJ dG cN;have cN:Rd w5 PF 1 (fun _=> .slice A (cap G).length c):=Rd.one (aK.rd 1 O);refine eo O (Cd.gj O (av O (aM (j:=0) cN (by exact ax Value.pointer (oA _).symm) O O O O (ad O (nj aK O O O ?_)))));intro A41 w6 aR;refine oM 3 aR O (aR.il 0 O) O O O (by omega) (by omega) O ?_;intro AO Bo w7 aV;refine aa.st (i:=2) (j:=0) aV O (by exact ax Value.pointer (oA _).symm) O O (Nat.succ_pos _) ?_;intro w8 bA;have aS:St w0 w8 (ah 2 dt (nf+1) eF (fl++ [(E:Int)])::Bx 22 1 PF [.slice AO ((cap G).length+1) Bo]::bU 32 AO ((cap G).length+1) Bo (rs++ [⟨dt,nf+1,eF⟩])::(cS 2 rs (cap G)++_)):=bA.tail;have aS:=aS.perm (aeu _ _ _ _ _);rw [←uY kS]at aS;have hex:(v8 U k (E:Int)).map (fun y=>fl++ (E:Int)::y)=[fl++ [(E:Int)]]:=by rw [uG];rfl
    rw [hex]at BP;have pP:=WZ (l:=G) (fl++ [(E:Int)]) (by omega);refine ad O (aa.add O O O (by omega) (aF O (tQ ?_)));refine⟨(j+1,AO,Bo,rs++ [⟨dt,nf+1,eF⟩]),by show nx - (j+1)<nx - j;omega,⟨O,O,O,O,O,O,O,O,ae⟩,by show j+1≤nx;omega,?_,?_⟩
    ·show(rs++ [_]).length=(cap (F++nt U k fl (xs.take (j+1)))).length;rw [BP,pP,dm,dm,kS];rfl
    ·show St w0 w8 (oT PF AO Bo (rs++ [_]) (cap (F++nt U k fl (xs.take (j+1)))) PB n AR nR cR AD m d PG PU Au N cU dv U fE);rw [BP,pP];show St w0 w8 (Bx _ 1 PF [.slice AO (cap G++ [fl++ [(E:Int)]]).length Bo]::(bU _ AO (cap G++ [fl++ [(E:Int)]]).length Bo _::_));rw [show(cap G++ [fl++ [(E:Int)]]).length=(cap G).length+1 by simp];exact aS
   ·obtain⟨k',rfl⟩:∃k',k=k'+1:=⟨k - 1,by omega⟩;rw [YM]at BP;refine bP O ?_;refine dI [xS (dt) (nf+1) (eF),xI ((nf+1:Nat):Int),xP (aq (PB) 0),xI ((n:Int)),xB (false),xB (false)] (by kernel_rfl) (by kernel_rfl) O (eg O) ?_ ?_
    ·refine⟨Dr O,?_,fun _ _ hb _ _=>aH (dG.below hb) O O O O inferInstance (Az O),fun _ _ hb _ _=>gK (dG.below hb) O O O O O (Az O),fun _ _ _ _ _=>Dk O (by exact ax Value.bool (cd (by omega))),Dr O,ae⟩
     ·intro e1 w1 hb hp aL;refine aa.call (AA _ _ _ _) O O O ?_;rintro _ w2 ⟨rfl,ak⟩;subst ak;refine aa.n (d0 (by exact O))
    intro u w5 lI _;have aK:=(aJ.later lI).perm (Pv ..);clear aJ dG cN;have gu:Rd w5 PG 1 (fun _=> .func (.func 140) #[] #[.pointer PF,.pointer PB,.pointer PG,.pointer PU]):=Rd.one ((aK.sub (Gn ..)).rd 1 O);have kq:Rd w5 PU 1 (fun _=> .slice Au N cU):=Rd.one ((aK.sub (Gn ..)).rd 2 O);have hU:=Pw GN aK;have RU:=hU.at_ (i:=(E:Int)) (by omega) (by omega);have zx:=ZN E (by omega);refine eo O (Cd.eV O ?_);refine iU [6] [.ex (.func (.func 140) #[] #[.pointer PF,.pointer PB,.pointer PG,.pointer PU]),yS (dt) (nf+1) (eF),yS (Au) (N) (cU),yI ((E:Int)),yP (aq (Au) ((E:Int)).toNat),yS ((rg (dv) ((E:Int))).a) ((rg (dv) ((E:Int))).n) ((rg (dv) ((E:Int))).c),.pr (fun v w'=>∃A' c' rs',rs'.length=(cap (cap G++nt U k' (fl++ [(E:Int)]) (gl U (E:Int)))).length∧St w0 w' (oT PF A' c' rs' (cap (cap G++nt U k' (fl++ [(E:Int)]) (gl U (E:Int)))) PB n AR nR cR AD m d PG PU Au N cU dv U fE))] (by kernel_rfl) (by kernel_rfl) (ly (ly (ly (ly (ly (ly (bV.2 ⟨Ye.b9 (fun v w w' h hb=>by obtain⟨A',c',rs',fI,hT⟩:=h;exact⟨A',c',rs',fI,hT.later hb⟩),(fun _ h=>by cases h)⟩))))))) ?_ ?_
    ·refine⟨?_,ba O,cP fun _ _ hb _ _ _=>aM (j:=0) (kq.below hb) (by exact ax Value.pointer (oA _).symm) O O O O (aX O O),ba O,cP fun _ _ hb _ _ _=>aw (hU.top.later hb).2 O O O (by omega) (by omega) (aX O O),cP fun _ _ hb _ _ _=>bQ (hU.top.later hb) O (by omega) O O (aX O O),?_,ae⟩
     ·refine cP fun e1 w1 hb hp aL hq=>?_
      refine aa.ld (Rd.below gu hb) (by exact ax Value.pointer (oA _).symm) (by decide) O O O ?_;refine aa.n (fh O (by exact O))
     ·refine iY fun e1 w1 hb hp aL hq=>?_
      refine aa.call (ih k' (Nat.lt_succ_self _) (nf+1) (rg dv (E:Int)).n (fl++ [(E:Int)]) (gl U (E:Int)) dt (rg dv (E:Int)).a eF (rg dv (E:Int)).c (ah 2 dt (nf+1) eF (fl++ [(E:Int)])::fE) _ A c rs (cap G) (by rw [dm,En];rfl) RU.1 (by omega) (by have:=RU.1;omega) zx.2 (fun w' A c rs F h=>S0 h) (fun w' A c rs F h=> (Pw GN h).at_ (i:=(E:Int)) (by omega) (by omega)) kS (IH G) (aK.later hb)) O O O ?_;rintro _ w9 ⟨rfl,A',c',rs',fI,aS⟩;refine aa.n ?_;exact eA.dn O ⟨A',c',rs',fI,aS.sub (YV ..)⟩
    intro u w6 _ hu _ _;obtain⟨A',c',rs',fI,hT⟩:=hu 6 _ rfl (by kernel_rfl);rw [cg,←BP]at fI hT;refine iq O (aa.add O O O (by omega) (aF O (tQ ?_)));exact⟨(j+1,A',c',rs'),by show nx - (j+1)<nx - j;omega,⟨O,O,O,O,O,O,O,O,ae⟩,by show j+1≤nx;omega,fI,hT⟩
  ·have uF:j=xs.length:=by omega
   rw [uF,List.take_length]at hG;rw [←hG]at kS hS;refine aY O (aZ (C8 O ?_));refine xo ?_;exact⟨O,A,c,rs,kS,hS⟩
def vK(n:Nat)(R:List Int)(B:aiB)(E F x:Nat):List Int:=
 if x<E then []else(kC R B (x:Int)).filter fun g=>decide (dC n R B g∧(x=E→g< (F:Int)))
def gw(n:Nat)(R:List Int)(B:aiB)(E F:Nat):aiB:=(List.range R.length).map (vK n R B E F)
def vg(n:Nat)(R:List Int)(B:aiB)(E F x:Nat):Bool:=
 if x<E then false else if x=E then decide (gi R (x:Int)=(n:Int) - 1∨∃g∈kC R B (x:Int),dC n R B g∧g< (F:Int))else decide (dC n R B (x:Int))
def gh(n:Nat)(R:List Int)(B:aiB)(E F:Nat):List Bool:=(List.range R.length).map (vg n R B E F)
section
variable {n:Nat} {R:List Int} {B:aiB} {E F x:Nat}
theorem yX:(gw n R B E F).length=R.length:=by simp [gw]
theorem r6:(gh n R B E F).length=R.length:=by simp [gh]
theorem MO(h:x<R.length):gl (gw n R B E F) (x:Int)=vK n R B E F x:=by
 rw [db (by rw [yX];exact h)];simp [gw]
theorem NB(h:x<R.length):gb (gh n R B E F) (x:Int)=vg n R B E F x:=by
 unfold gb;rw [ir,cJ,gf (by rw [r6];exact h),Option.getD_some];simp [gh]
theorem agH:gw n R B R.length F=List.replicate R.length []:=by
 refine List.eq_replicate_iff.2 ⟨yX,fun y hy=>?_⟩;obtain⟨x,hx,rfl⟩:=dh.1 hy;unfold vK;rw [aj (gg.1 hx)]
theorem V6:gh n R B R.length F=List.replicate R.length false:=by
 refine List.eq_replicate_iff.2 ⟨r6,fun y hy=>?_⟩;obtain⟨x,hx,rfl⟩:=dh.1 hy;unfold vg;rw [aj (gg.1 hx)]
theorem yY(hP:fO n R B){e g:Int}(h:g∈kC R B e):e<g∧g<R.length:=by
 obtain⟨h1,_,h3⟩:=mF.1 h;exact⟨((hP.at_ h1.1 h1.2).2.1 e h3).1.2,h1.2⟩
theorem agK(hP:fO n R B)(hE:E<R.length):gw n R B E (E+1)=gw n R B (E+1) R.length:=by
 refine mJ fun x hx=>?_
 have hx:=gg.1 hx;unfold vK
 by_cases c1:x<E
 ·rw [aj c1,aj (by omega)]
 rw [ag c1]
 by_cases c2:x=E
 ·subst c2;rw [aj (by omega),List.filter_eq_nil_iff];intro g hg h;have h3:=(sP h).2 O;have:=yY hP hg;omega
 rw [ag (by omega)];refine List.filter_congr fun g hg=>jo.2 ?_
 have:=yY hP hg;exact⟨fun h=> ⟨h.1,fun _=>by omega⟩,fun h=> ⟨h.1,fun h=>absurd h c2⟩⟩
theorem agJ(h:¬(dC n R B (F:Int)∧(F:Int)∈kC R B (E:Int))):gw n R B E (F+1)=gw n R B E F:=by
 refine mJ fun x hx=>?_
 unfold vK
 by_cases c1:x<E
 ·rw [aj c1,aj c1]
 rw [ag c1,ag c1];refine List.filter_congr fun g hg=>jo.2 ⟨fun h2=> ⟨h2.1,fun e=>?_⟩,fun h2=> ⟨h2.1,fun e=>by have:=h2.2 e;omega⟩⟩
 have h3:=h2.2 e;subst e;have:g≠(F:Int):=fun e=>h ⟨e▸h2.1,e▸hg⟩
 omega
theorem agI(hE:E<R.length)(h:dC n R B (F:Int)∧(F:Int)∈kC R B (E:Int)):(gw n R B E F).set E (gl (gw n R B E F) (E:Int)++ [(F:Int)])=gw n R B E (F+1):=by
 apply ji (by rw [iw,yX,yX]);intro x h1 h2;rw [yX]at h2;have e2:∀d' (hx:x< (gw n R B E d').length),(gw n R B E d')[x]=vK n R B E d' x:=fun d' hx=>by simp [gw]
 rw [List.getElem_set,e2 (F+1) (by rw [yX];exact h2),e2 F (by rw [yX];exact h2)]
 by_cases c:E=x
 ·subst c;rw [aj rfl,MO hE];unfold vK;rw [ag (Nat.lt_irrefl _),ag (Nat.lt_irrefl _)];have hs:=C0 R B (E:Int);refine SA.eq ?_ (pd _ hs) fun y=>?_
  ·rw [SA,List.pairwise_append];refine⟨pd _ hs,List.pairwise_singleton _ _,fun a ha b hb=>?_⟩;obtain rfl:=eT.1 hb;exact(sP (fA.1 ha).2).2 O
  rw [iG,fA,fA,eT];simp only [jT];constructor
  ·rintro(⟨h3,h4,h5⟩ | rfl)
   ·exact⟨h3,h4,fun e=>by have:=h5 e;omega⟩
   exact⟨h.2,h.1,fun _=>by omega⟩
  rintro⟨h3,h4,h5⟩
  by_cases e3:y=(F:Int)
  ·exact .inr e3
  exact .inl ⟨h3,h4,fun e=>by have:=h5 e;omega⟩
 rw [ag c];unfold vK
 by_cases c1:x<E
 ·rw [aj c1,aj c1]
 rw [ag c1,ag c1];exact List.filter_congr fun g hg=>jo.2 ⟨fun h2=> ⟨h2.1,fun e=>absurd e.symm c⟩,fun h2=> ⟨h2.1,fun e=>absurd e.symm c⟩⟩
theorem NC{x:Nat}(hP:fO n R B)(hx:x<R.length)(h:(gi R (x:Int)=(n:Int) - 1∨∃g∈kC R B (x:Int),dC n R B g∧g< (R.length:Int))):dC n R B (x:Int):=by
 rcases h with h | ⟨g,h1,h2,_⟩
 ·exact NI h
 have h3:=(mF.1 h1);have:=hP.ri h3.1.1 h3.1.2;have:=hP.ri (e:=(x:Int)) (by omega) (by omega);exact(FI (by omega) (by omega)).2 ⟨g,h1,h2⟩
theorem ND{x:Nat}(hP:fO n R B)(hx:x<R.length)(h:dC n R B (x:Int)):(gi R (x:Int)=(n:Int) - 1∨∃g∈kC R B (x:Int),dC n R B g∧g< (R.length:Int)):=by
 have:=hP.ri (e:=(x:Int)) (by omega) (by omega)
 by_cases c:gi R (x:Int)=(n:Int) - 1
 ·exact .inl c
 obtain⟨g,h1,h2⟩:=(FI (by omega) (by omega)).1 h;exact .inr ⟨g,h1,h2,(yY hP h1).2⟩
theorem V9(hP:fO n R B)(hE:E<R.length):(gh n R B (E+1) R.length).set E (decide (gi R (E:Int)=(n:Int) - 1))=gh n R B E (E+1):=by
 apply ji (by rw [iw,r6,r6]);intro x h1 h2;rw [r6]at h2;have e2:∀e' d' (hx:x< (gh n R B e' d').length),(gh n R B e' d')[x]=vg n R B e' d' x:=fun e' d' hx=>by simp [gh]
 rw [List.getElem_set,e2 _ _ (by rw [r6];exact h2),e2 _ _ (by rw [r6];exact h2)];unfold vg
 by_cases c:E=x
 ·subst c;rw [aj rfl,ag (Nat.lt_irrefl _),aj rfl];refine jo.2 ⟨fun h=> .inl h,fun h=>?_⟩;rcases h with h | ⟨g,h3,_,h4⟩
  ·exact h
  have:=yY hP h3;omega
 rw [ag c]
 by_cases c1:x<E
 ·rw [aj (by omega),aj c1]
 rw [ag (by omega),ag c1,ag (show ¬x=E from fun e=>c e.symm)]
 split
 ·refine jo.2 ⟨fun h=>NC hP h2 h,fun h=>ND hP h2 h⟩
 rfl
theorem V8(h:¬(dC n R B (F:Int)∧(F:Int)∈kC R B (E:Int))):gh n R B E (F+1)=gh n R B E F:=by
 refine mJ fun x hx=>?_
 unfold vg
 by_cases c1:x<E
 ·rw [aj c1,aj c1]
 rw [ag c1,ag c1]
 by_cases c2:x=E
 ·subst c2;rw [aj rfl,aj rfl];refine jo.2 (or_congr Iff.rfl ⟨?_,?_⟩)
  ·rintro⟨g,h1,h2,h3⟩;have:g≠(F:Int):=fun e=>h ⟨e▸h2,e▸h1⟩
   exact⟨g,h1,h2,by omega⟩
  rintro⟨g,h1,h2,h3⟩;exact⟨g,h1,h2,by omega⟩
 rw [ag c2,ag c2]
theorem V7(hE:E<R.length)(h:dC n R B (F:Int)∧(F:Int)∈kC R B (E:Int)):(gh n R B E F).set E true=gh n R B E (F+1):=by
 apply ji (by rw [iw,r6,r6]);intro x h1 h2;rw [r6]at h2;have e2:∀e' d' (hx:x< (gh n R B e' d').length),(gh n R B e' d')[x]=vg n R B e' d' x:=fun e' d' hx=>by simp [gh]
 rw [List.getElem_set,e2 _ _ (by rw [r6];exact h2),e2 _ _ (by rw [r6];exact h2)];unfold vg
 by_cases c:E=x
 ·subst c;rw [aj rfl,ag (Nat.lt_irrefl _),aj rfl];exact(dX (.inr ⟨_,h.2,h.1,by omega⟩)).symm
 rw [ag c]
 by_cases c1:x<E
 ·rw [aj c1,aj c1]
 rw [ag c1,ag c1,ag (fun e=>c e.symm),ag (fun e=>c e.symm)]
theorem V5(hP:fO n R B)(zo:E<F)(hF:F<R.length):gb (gh n R B E F) (F:Int)=decide (dC n R B (F:Int)):=by
 rw [NB hF];unfold vg;rw [ag (by omega),ag (by omega)]
theorem V4(hP:fO n R B)(hx:x<R.length):gb (gh n R B 0 R.length) (x:Int)=decide (dC n R B (x:Int)):=by
 rw [NB hx];unfold vg;rw [ag (by omega)]
 split
 ·exact jo.2 ⟨fun h=>NC hP hx h,fun h=>ND hP hx h⟩
 rfl
theorem UK(hP:fO n R B)(hx:x<R.length):gl (gw n R B 0 R.length) (x:Int)=(kC R B (x:Int)).filter fun g=>decide (dC n R B g):=by
 rw [MO hx];unfold vK;rw [ag (by omega)];refine List.filter_congr fun g hg=>jo.2 ⟨fun h=>h.1,fun h=> ⟨h,fun _=> (yY hP hg).2⟩⟩
theorem Dy{α β:Type}{f g:α→List β}:∀ {l:List α},(∀x∈l,f x=g x)→l.flatMap f=l.flatMap g
 | [],_=>rfl
 | a::r,h=>by rw [List.flatMap_cons,List.flatMap_cons,h a (List.mem_cons_self ..),Dy fun x hx=>h x (oK _ hx)]
theorem OB(hP:fO n R B):∀(k:Nat) (e:Int),0≤e→e<R.length→(gi R e).toNat+k=n - 1→v8 (gw n R B 0 R.length) k e=nr R B k e
 | 0,_,_,_,_=>rfl
 | k+1,e,h0,h1,h2=>by
  have hr:=hP.ri h0 h1;obtain⟨x,rfl⟩:∃x:Nat,e=x:=⟨e.toNat,by omega⟩;rw [v8,UK hP (by omega),UP hr.1 (by omega)];refine Dy fun f hf=>?_
  have hf:=(mF.1 (fA.1 hf).1);rw [OB hP k f hf.1.1 hf.1.2 (by omega)]
theorem YL(hn:1≤n)(hP:fO n R B):nt (gw n R B 0 R.length) (n - 1) [] ((ue R).filter fun f=>decide (dC n R B f))=au n R B:=by
 rw [NY];unfold nt;refine Dy fun e he=>?_
 have he:=tf.1 (fA.1 he).1;rw [OB hP _ e he.1.1 he.1.2 (by omega)]
 rfl
theorem WN{m:Nat}(hm:m<R.length):((bw (m+1)).filter fun e=>decide (gi R e=0) && decide (dC n R B e))=((bw m).filter fun e=>decide (gi R e=0) && decide (dC n R B e))++ (if gi R (m:Int)=0∧dC n R B (m:Int)then [(m:Int)]else []):=by
 unfold bw;rw [ng,iQ,nS]
 congr 1
 by_cases c:gi R (m:Int)=0∧dC n R B (m:Int)
 ·rw [aj c];simp [c.1,c.2]
 rw [ag c];rw [List.filter_eq_nil_iff];intro a ha h;obtain rfl:=eT.1 ha;simp at h;exact c h
theorem WM:((bw R.length).filter fun e=>decide (gi R e=0) && decide (dC n R B e))=(ue R).filter fun f=>decide (dC n R B f):=by
 unfold ue;rw [List.filter_filter];exact List.filter_congr fun x _=>Bool.and_comm _ _
end
def jh(H:List Bool)(vs:List Int):List Bool:=vs.foldl (fun H v=>H.set v.toNat true) H
theorem TC(H:List Bool)(vs:List Int)(v:Int):jh H (vs++ [v])=(jh H vs).set v.toNat true:=by simp [jh,List.foldl_append]
theorem aeS(H:List Bool):∀vs,(jh H vs).length=H.length:=by
 intro vs;unfold jh
 induction vs generalizing H with
 | nil=>rfl
 | cons a r ih=>rw [List.foldl_cons,ih,iw]
theorem aeR(H:List Bool)(vs:List Int)(hv:∀v∈vs,0≤v∧v<H.length)(x:Int)(h0:0≤x):gb (jh H vs) x=(gb H x || decide (x∈vs)):=by
 unfold jh
 induction vs generalizing H with
 | nil=>simp
 | cons a r ih=>
  have ha:=hv a (by simp);rw [List.foldl_cons,ih _ (fun v h=>by rw [iw];exact hv v (by simp [h])),DB ha.1 ha.2 h0]
  by_cases e:a=x
  ·subst e;simp
  ·have e':¬x=a:=fun h=>e h.symm
   simp [e,e']
theorem Pc(n:Nat)(x:Int):gb (List.replicate n false) x=false:=by
 unfold gb;rw [cJ,List.getElem?_replicate]
 split<;>rfl
theorem aeQ{m:Nat}{F:aiB}(h:∀l∈F,∀x∈l,0≤x∧x< (m:Int))(x:Int)(h0:0≤x):gb (jh (List.replicate m false) F.flatten) x=decide (∃l∈F,x∈l):=by
 rw [aeR _ _ (fun v hv=>by
  obtain⟨l,hl,hx⟩:=List.mem_flatten.1 hv;rw [List.length_replicate];exact h l hl v hx) x h0,Pc,Bool.false_or]
 exact jo.2 (by rw [List.mem_flatten])
def l9(m:Nat):List Bool:=List.replicate m false
theorem Mg(m:Nat)(vs:List Int):(jh (l9 m) vs).length=m:=by rw [aeS];simp [l9]
theorem Tn{m:Nat}{F:aiB}(h:∀l∈F,∀x∈l,0≤x∧x< (m:Int)):¬(false∈jh (l9 m) F.flatten)↔∀x:Int,0≤x→x< (m:Int)→∃l∈F,x∈l:=by
 have hl:=Mg m F.flatten;have hg:=fun(x:Int) (h0:0≤x)=>aeQ h x h0
 constructor
 ·intro hn x h0 h1;apply nL;intro hc;have h2:gb (jh (l9 m) F.flatten) x=false:=(hg x h0).trans (cd hc);apply hn;have h3:x.toNat< (jh (l9 m) F.flatten).length:=by omega
  rw [←h2,gb,cJ,gf h3];exact dQ _
 intro ha hm;obtain⟨k,hk,e⟩:=gJ.1 hm;have h2:=hg (k:Int) (by omega);rw [dX (ha (k:Int) (by omega) (by omega))]at h2;have h3:gb (jh (l9 m) F.flatten) (k:Int)=(jh (l9 m) F.flatten)[k]:=by simp [gb,cJ,hk]
 have h4:gb (jh (l9 m) F.flatten) (k:Int)=true:=h2;rw [h3,e]at h4;cases h4
theorem Vn(A:aiC)(n c:Nat)(xs:List Bool)(v:Bool)(w:World)(hR:ud w A n xs)(hn:n≤9223372036854775807):
 aA prog 210 [.slice A n c,.bool v] w (fun r w'=> (∃i:Int,r=aiD i∧(0≤i↔v∈xs))∧w'=w):=by
 have dA:=hR.1;refine bk func210 O ntmps210 O (cK O) ?_;refine aQ O (aa.len O O (ay O ?_));refine Cd.loop (α:=Nat) (fun k=> [(0,.slice A n c),(1,.bool v),(7,aiD (n:Int)),(8,aiD (k:Int))]) (fun k w'=>w'=w∧k≤n∧∀j:Nat,j<k→gb xs (j:Int)≠v) (fun k=>n - k) 0 ⟨O,O,O,O,ae⟩ ⟨O,aW _,fun j hj=>by omega⟩ ?_;rintro k e w ⟨rfl,hk,hK⟩;refine bK O ?_;refine aB _ O (fun h3=>?_) (fun h3=>?_)
 ·have hg:gb xs (k:Int)=xs[k]'(by omega):=by simp [gb,cJ,show k<xs.length by omega]
  refine av O (aw hR.2 O O O (by omega) (by omega) (qN hR O (by omega) O O (VH O O O (ay O ?_))));refine Cd.cond O (fun h4=>?_) (fun h4=>?_)
  ·refine dN O (eZ (eE ?_));refine gP O ?_;have h4:v=gb xs (k:Int):=by simpa using h4
   exact⟨⟨(k:Int),O,⟨fun _=>by rw [h4,hg];exact dQ _,fun _=>by omega⟩⟩,O⟩
  refine av O (aa.add O O O (by omega) (aF O (tQ ?_)));have h4:¬v=gb xs (k:Int):=by simpa using h4
  refine⟨k+1,by show n - (k+1)<n - k;omega,⟨O,O,O,O,ae⟩,O,by omega,fun j hj=>?_⟩
  by_cases ej:j=k
  ·subst ej;exact fun h=>h4 h.symm
  exact hK j (by omega)
 refine aY O (aZ (gE O ?_));refine gP O ?_;refine⟨⟨-1,O,⟨fun h=>absurd h (by decide),fun h=>?_⟩⟩,O⟩;obtain⟨j,hj,KD⟩:=gJ.1 h;exact absurd (by simpa [gb,cJ,hj]using KD) (hK j (by omega))
theorem Va(A:aiC)(n c:Nat)(xs:List Bool)(v:Bool)(w:World)(hR:ud w A n xs)(hn:n≤9223372036854775807):
 aA prog 150 [.slice A n c,.bool v] w (fun r w'=>r= .bool (decide (v∈xs))∧w'=w):=by
 refine bk func150 O ntmps150 O (cK O) (aQ O (aa.call (Vn A n c xs v _ hR hn) O O O ?_));rintro _ w ⟨⟨i,rfl,hi⟩,rfl⟩;refine bh O (cM O ?_);exact⟨ax Value.bool (jo.2 hi),O⟩
theorem De{w:World}{A:aiC}{n:Nat}{f:Nat→Value}(h:Rd w A n f)(hn:0<n):A.isNone=false:=by
 obtain⟨p,hp,_⟩:=h 0 hn;cases A with
 | none=>simp [aq]at hp
 | some q=>rfl
def Bk(n:Nat)(R:List Int)(B:aiB)(f:Nat)(x:Nat):Prop:=(f≤x∧gi R (x:Int)=(n:Int) - 1)∨∃g:Nat,(g:Int)∈kC R B (x:Int)∧dC n R B (g:Int)∧f≤g
def vV(n:Nat)(R:List Int)(B:aiB)(f j:Nat)(x:Nat):Prop:=Bk n R B (f+1) x∨(x=f∧gi R (x:Int)=(n:Int) - 1)∨(dC n R B (f:Int)∧(x:Int)∈(gl B (f:Int)).take j∧gi R (f:Int)=gi R (x:Int)+1)
section
variable{x j:Nat}
variable {n:Nat} {R:List Int} {B:aiB}
theorem NH(hP:fO n R B){f:Nat}(hf:f≤x)(hx:x<R.length):Bk n R B f x↔dC n R B (x:Int):=by
 have hr:=hP.ri (e:=(x:Int)) (by omega) (by omega);constructor
 ·rintro(h | ⟨g,h1,h2,_⟩)
  ·exact NI h.2
  have h3:=mF.1 h1;have:=hP.ri h3.1.1 h3.1.2;exact(FI (by omega) (by omega)).2 ⟨_,h1,h2⟩
 intro h
 by_cases c:gi R (x:Int)=(n:Int) - 1
 ·exact .inl ⟨hf,c⟩
 obtain⟨g,h1,h2⟩:=(FI (by omega) (by omega)).1 h;have h3:=yY hP h1;obtain⟨g',rfl⟩:∃g':Nat,g=g':=⟨g.toNat,by omega⟩;exact .inr ⟨g',h1,h2,by omega⟩
theorem We(hP:fO n R B)(hx:x<R.length):¬Bk n R B R.length x:=by
 rintro(h | ⟨g,h1,_,h2⟩)
 ·omega
 have:=yY hP h1;omega
theorem Wh(hP:fO n R B){f:Nat}(hf:f<R.length):vV n R B f j f↔dC n R B (f:Int):=by
 rw [←NH hP (a8 f) hf];constructor
 ·rintro(h | h | h)
  ·rcases h with h | ⟨g,h1,h2,h3⟩
   ·omega
   exact .inr ⟨g,h1,h2,by omega⟩
  ·exact .inl ⟨a8 _,h.2⟩
  have:=((hP.at_ (e:=(f:Int)) (by omega) (by omega)).2.1 _ (List.mem_of_mem_take h.2.1)).1;omega
 rintro(h | ⟨g,h1,h2,h3⟩)
 ·exact .inr (.inl ⟨O,h.2⟩)
 have:=yY hP h1;exact .inl (.inr ⟨g,h1,h2,by omega⟩)
theorem Wf(hP:fO n R B){f:Nat}(hf:f<R.length)(hj:¬dC n R B (f:Int)∨(gl B (f:Int)).length≤j)(hx:x<R.length):vV n R B f j x↔Bk n R B f x:=by
 constructor
 ·rintro(h | h | h)
  ·rcases h with h | ⟨g,h1,h2,h3⟩
   ·exact .inl ⟨by omega,h.2⟩
   exact .inr ⟨g,h1,h2,by omega⟩
  ·exact .inl ⟨by omega,h.2⟩
  exact .inr ⟨f,mF.2 ⟨by omega,h.2.2,List.mem_of_mem_take h.2.1⟩,h.1,a8 _⟩
 rintro(h | ⟨g,h1,h2,h3⟩)
 ·by_cases e:x=f
  ·exact .inr (.inl ⟨e,h.2⟩)
  exact .inl (.inl ⟨by omega,h.2⟩)
 by_cases e:g=f
 ·subst e;have h4:=mF.1 h1;rcases hj with hj | hj
  ·exact absurd h2 hj
  exact .inr (.inr ⟨h2,by rw [lS hj];exact h4.2.2,h4.2.1⟩)
 exact .inl (.inr ⟨g,h1,h2,by omega⟩)
theorem Wg{f:Nat}(hj:j< (gl B (f:Int)).length):vV n R B f (j+1) x↔vV n R B f j x∨(dC n R B (f:Int)∧(x:Int)=gi (gl B (f:Int)) (j:Int)∧gi R (f:Int)=gi R (x:Int)+1):=by
 have e9:(gl B (f:Int)).take (j+1)=(gl B (f:Int)).take j++ [gi (gl B (f:Int)) (j:Int)]:=by
  rw [rY hj,bX hj]
 unfold vV;rw [e9,iG,eT];constructor
 ·rintro(h | h | ⟨h1,h2 | h2,h3⟩)
  ·exact .inl (.inl h)
  ·exact .inl (.inr (.inl h))
  ·exact .inl (.inr (.inr ⟨h1,h2,h3⟩))
  exact .inr ⟨h1,h2,h3⟩
 rintro((h | h | ⟨h1,h2,h3⟩) | ⟨h1,h2,h3⟩)
 ·exact .inl h
 ·exact .inr (.inl h)
 ·exact .inr (.inr ⟨h1,.inl h2,h3⟩)
 exact .inr (.inr ⟨h1,.inr h2,h3⟩)
end
def r5(N:Nat)(L:List Bool)(P:Nat→Prop):Prop:=L.length=N∧∀x:Nat,x<N→(gb L (x:Int)=true↔P x)
theorem r5.set{N:Nat}{L:List Bool}{P P':Nat→Prop}(h:r5 N L P){y:Nat}(hy:y<N)(hP:∀x,x<N→(P' x↔P x∨x=y)):r5 N (L.set y true) P':=by
 refine⟨by rw [iw];exact h.1,fun x hx=>?_⟩;have:=DB (S:=L) (x:=(y:Int)) (y:=(x:Int)) (b:=true) (by omega) (by rw [h.1];omega) (by omega);rw [ir]at this;rw [this,hP x hx,←h.2 x hx]
 by_cases e:x=y
 ·subst e;simp
 rw [ag (by omega)];exact⟨fun h=> .inl h,fun h=>h.resolve_right e⟩
theorem r5.congr{N:Nat}{L:List Bool}{P P':Nat→Prop}(h:r5 N L P)(hP:∀x,x<N→(P' x↔P x)):r5 N L P':=⟨h.1,fun x hx=> (h.2 x hx).trans (hP x hx).symm⟩
set_option maxHeartbeats 2000000 in
theorem acP(n:Nat)(A D:aiC)(cA cD:Nat)(R:List Int)(rs:List aG)(B:aiB)(w:World)(hR:bS w A R.length R)(hB:br w D B.length rs B)(hP:fO n R B):
 aA prog 202 [.agg #[aiD n,.slice A R.length cA,.slice D B.length cD]] w (fun v w'=>∃A' L,v= .slice A' R.length R.length∧r5 R.length L (fun x=>dC n R B (x:Int))∧St w w' [fQ 4 A' R.length R.length L]):=by
 have hn:=hP.n1;have kR:=hP.nn;have hle:=hP.len;have cj:=fun(f:Nat) (h:f<R.length)=>hP.at_ (e:=(f:Int)) (by omega) (by omega)
 have bW:∀f:Nat,f<R.length→(gl B (f:Int)).length≤500:=fun f h=>by
  have:=rF (N:=R.length) (cj f h).1.nodup fun x hx=>by have:=((cj f h).2.1 x hx).1;omega
  omega
 have Hm:=fun f j (h:f<R.length)=>Wh (n:=n) (j:=j) hP h
 have D8:=fun f j x (h:f<R.length) hj (hx:x<R.length)=>Wf (n:=n) (j:=j) hP h hj hx
 have R1:=fun x (h:x<R.length)=>We (n:=n) hP h
 have zE:=fun x (h:x<R.length)=>NH (n:=n) (f:=0) hP (aW _) h
 have fu:=fun(x:Nat) (h:x<R.length)=>hP.ri (e:=(x:Int)) (by omega) (by omega)
 obtain⟨N,hN⟩:∃N,R.length=N:=⟨_,rfl⟩;rw [hN]at hR kR hle cj bW Hm D8 R1 zE fu⊢;rw [hle]at hB⊢;refine bk func202 O ntmps202 O (cK O) (aQ O (kK (St.refl w) O O ?_));intro A1 w1 ao;have h1:Rd w1 A1 3 (fun j=> [Value.int .i64 (n:Int),.slice A N cA,.slice D N cD].getD j undef):=ao.rd 0 O;have hR:=ao.eY hR;have hB:=ao.bF hB;refine ad O (aH h1 O O O O inferInstance (aM (j:=1) h1 (by exact ax Value.pointer O) O O O O (aa.len O O (xL (v:=false) N (St.refl w1) O O (by omega) ?_))));intro A3 w2 J0;have Jy:=Rd.below h1 J0.below;refine ad O (aH Jy O O O O inferInstance (aM (j:=1) Jy (by exact ax Value.pointer O) O O O O ?_));have P5:r5 N (List.replicate N false) (Bk n R B N):=⟨by simp,fun x hx=> ⟨fun h=> (by rw [Pc]at h;cases h),fun h=>absurd h (R1 x hx)⟩⟩;clear Jy;refine aa.len O O (aa.sub O O O (by omega) (ay O ?_));refine Cd.loop (α:=Nat×List Bool) (fun z=> [(1,.pointer A1),(3,.slice A3 N N),(4,aiD ((z.1:Int) - 1))]) (fun z w'=>z.1≤N∧r5 N z.2 (Bk n R B z.1)∧St w1 w' [fQ 4 A3 N N z.2]) (fun z=>z.1) (N,List.replicate N false) ⟨O,O,O,ae⟩ ⟨a8 _,P5,J0⟩ ?_;clear J0 P5;rintro⟨E',L⟩ e w3 ⟨hE,hL,hT⟩;dsimp only at hE hL hT⊢;refine bK O ?_;refine aB _ O (fun h2=>?_) (fun h2=>?_)
 ·obtain⟨f,rfl⟩:∃f,E'=f+1:=⟨E' - 1,by omega⟩;have jY:f<N:=by omega
  rw [show((f+1:Nat):Int) - 1=(f:Int) by omega];have qi:=Rd.below h1 hT.below;have wu:=hR.later hT.below;have wU:=fu f jY;refine C7 3 O ?_;refine lC (α:=List Bool) (fun _=> [(1,.pointer A1),(3,.slice A3 N N),(4,aiD (f:Int))]) (fun L' w'=>r5 N L' (vV n R B f 0)∧St w1 w' [fQ 4 A3 N N L']) ?_ ?_
  ·refine bK O ?_;refine dI [xP (aq (A1) 1),xS (A) (N) (cA),xI ((f:Int)),xP (aq (A) ((f:Int)).toNat),xI (gi (R) ((f:Int))),xP (aq (A1) 0),xI ((n:Int)),xI (((n:Int)) - ((1:Int))),xB (decide ((gi (R) ((f:Int)))=(((n:Int)) - ((1:Int)))))] (by kernel_rfl) (by kernel_rfl) O (eg O) ?_ ?_
   ·exact⟨fun _ _ hb _ _=>aH (qi.below hb) O O O O inferInstance (Az O),fun _ _ hb _ _=>aM (qi.below hb) O O O O O (Az O),Dr O,fun _ _ hb _ _=>aw (wu.later hb).2 O O O (by omega) (by omega) (Az O),fun _ _ hb _ _=>aT (wu.later hb) O (by omega) O O (Az O),fun _ _ hb _ _=>aH (qi.below hb) O O O O inferInstance (Az O),fun _ _ hb _ _=>gK (qi.below hb) O O O O O (Az O),fun _ _ _ _ _=>aa.sub O O O (by omega) (Az O),Dr O,ae⟩
   intro u w4 kq _;have J1:=hT.later kq;clear hT qi wu;refine eo O ?_;refine aB _ O (fun h3=>?_) (fun h3=>?_)
   ·refine av O (aw (J1.jy 0 O).2 O O O (by omega) (by omega) (uc 0 J1 O O O (by omega) ?_));intro w5 jd;rw [ir]at jd;refine aF O (tQ ?_);refine⟨L.set f true,⟨O,O,O,ae⟩,hL.set jY fun x hx=>?_,jd⟩;unfold vV;rw [List.take_zero];constructor
    ·rintro(h | h | h)
     ·exact .inl h
     ·exact .inr h.1
     cases h.2.1
    rintro(h | h)
    ·exact .inl h
    subst h;exact .inr (.inl ⟨rfl,h3⟩)
   refine kD O (tQ ?_);refine⟨L,⟨O,O,O,ae⟩,hL.congr fun x hx=>?_,J1⟩;unfold vV;rw [List.take_zero];constructor
   ·rintro(h | h | h)
    ·exact h
    ·exact absurd (h.1▸h.2) h3
    cases h.2.1
   exact fun h=> .inl h
  clear hT hL qi wu;rintro L e w5 ⟨hL,hT⟩;have aba:=cj f jY;have hrl5:=bW f jY;refine bP O ?_;refine Cd.loop (α:=Nat×List Bool) (fun z=> [(1,.pointer A1),(3,.slice A3 N N),(4,aiD (f:Int)),(5,aiD (z.1:Int))]) (fun z w'=>z.1≤(gl B (f:Int)).length∧r5 N z.2 (vV n R B f z.1)∧St w1 w' [fQ 4 A3 N N z.2]) (fun z=> (gl B (f:Int)).length - z.1) (0,L) ⟨O,O,O,O,ae⟩ ⟨aW _,hL,hT⟩ ?_;clear hT hL;rintro⟨j,L⟩ e w6 ⟨hj,hL,hT⟩;dsimp only at hj hL hT⊢;have qi:=Rd.below h1 hT.below;have DL:=hB.later hT.below;have fZ:=DL.at_ (i:=(f:Int)) (by omega) (by omega);have iD:=fZ.1;have sq:=hL.1;have Ce:=(hL.2 f jY).trans (Hm f j jY);refine aQ O (aH qi O O O O inferInstance (aM (j:=2) qi (by exact ax Value.pointer O) O O O O (ad O (aw DL.top.2 O O O (by omega) (by omega) (bQ DL.top O (by omega) O O ?_)))));refine aa.len O O (ad O ?_);refine bY 39 O (fun h3=>?_) (fun h3=>?_)
  ·have ln:j< (gl B (f:Int)).length:=by omega
   refine aa.g O O O (ad O (aa.g O O O (ad O (aa.g O O O ?_))));refine aw (hT.jy 0 O).2 O O O (by omega) (by omega) (aa.g O O O (qN (hT.jy 0 O) O (by omega) O O ?_));generalize hgb:gb L (f:Int)=bb at*;rw [show bb=decide (bb=true) by cases bb<;>rfl];refine ay O ?_;refine aB _ O (fun h4=>?_) (fun h4=>?_)
   ·have mn:=Ce.1 h4;have rh:=aba.2.1 _ (gi_in ln);have gH:=fun x=>Wg (n:=n) (R:=R) (B:=B) (f:=f) (x:=x) ln
    have wu:=hR.later hT.below;obtain⟨d,hd⟩:∃d:Nat,gi (gl B (f:Int)) (j:Int)=d:=⟨(gi (gl B (f:Int)) (j:Int)).toNat,by omega⟩;rw [hd]at rh gH;have lq:=fu d (by omega);refine av O (aH qi O O O O inferInstance (aM (j:=2) qi (by exact ax Value.pointer O) O O O O (ad O (aw DL.top.2 O O O (by omega) (by omega) (bQ DL.top O (by omega) O O (ad O (aw fZ.2 O O O (by omega) (by omega) (aT fZ O (by omega) O O ?_))))))));rw [hd];refine ay O ?_;refine dI [xP (aq (A1) 1),xS (A) (N) (cA),xI ((d:Int)),xP (aq (A) ((d:Int)).toNat),xI (gi (R) ((d:Int))),xP (aq (A1) 1),xS (A) (N) (cA),xI ((f:Int)),xP (aq (A) ((f:Int)).toNat),xI (gi (R) ((f:Int))),xI ((gi (R) ((f:Int))) - ((1:Int))),xB (decide ((gi (R) ((d:Int)))=((gi (R) ((f:Int))) - ((1:Int)))))] (by kernel_rfl) (by kernel_rfl) O (eg O) ?_ ?_
    ·exact⟨fun _ _ hb _ _=>aH (qi.below hb) O O O O inferInstance (Az O),fun _ _ hb _ _=>aM (qi.below hb) O O O O O (Az O),Dr O,fun _ _ hb _ _=>aw (wu.later hb).2 O O O (by omega) (by omega) (Az O),fun _ _ hb _ _=>aT (wu.later hb) O (by omega) O O (Az O),fun _ _ hb _ _=>aH (qi.below hb) O O O O inferInstance (Az O),fun _ _ hb _ _=>aM (qi.below hb) O O O O O (Az O),Dr O,fun _ _ hb _ _=>aw (wu.later hb).2 O O O (by omega) (by omega) (Az O),fun _ _ hb _ _=>aT (wu.later hb) O (by omega) O O (Az O),fun _ _ _ _ _=>aa.sub O O O (by omega) (Az O),Dr O,ae⟩
    intro u w7 wC _;have dF:=hT.later wC;refine eo O ?_;refine aB _ O (fun h5=>?_) (fun h5=>?_)
    ·refine av O (aw (dF.jy 0 O).2 O O O (by omega) (by omega) (uc 0 dF O O O (by omega) ?_));intro w8 ew;rw [ir]at ew;refine ad O (aa.add O O O (by omega) (aF O (tQ ?_)));refine⟨(j+1,L.set d true),by show(gl B (f:Int)).length - (j+1)< (gl B (f:Int)).length - j;omega,⟨O,O,O,O,ae⟩,by show j+1≤_;omega,hL.set (by omega) fun x hx=>?_,ew⟩;rw [gH x];constructor
     ·rintro(h | h)
      ·exact .inl h
      exact .inr (by omega)
     rintro(h | h)
     ·exact .inl h
     subst h;exact .inr ⟨mn,rfl,by omega⟩
    refine av O (aa.add O O O (by omega) (aF O (tQ ?_)));refine⟨(j+1,L),by show(gl B (f:Int)).length - (j+1)< (gl B (f:Int)).length - j;omega,⟨O,O,O,O,ae⟩,by show j+1≤_;omega,hL.congr fun x hx=>?_,dF⟩;rw [gH x];constructor
    ·rintro(h | h)
     ·exact h
     have h9:=h.2.1;have gU:=h.2.2;rw [h9]at gU;omega
    exact fun h=> .inl h
   have mn:¬dC n R B (f:Int):=fun h=>h4 (Ce.2 h)
   refine aY O (aZ (cL O (aa.sub O O O (by omega) (aF O (tQ ?_)))));exact⟨(f,L),by show f<f+1;omega,⟨O,O,O,ae⟩,by show f≤N;omega,hL.congr fun x hx=> (D8 f j x jY (.inl mn) hx).symm,hT⟩
  refine ai O O O O O (ai O O O O O (ai O O O O O (ai O O O O O (ay O ?_))));refine Cd.eV O ?_;refine aY O (aZ (cL O (aa.sub O O O (by omega) (aF O (tQ ?_)))));exact⟨(f,L),by show f<f+1;omega,⟨O,O,O,ae⟩,by show f≤N;omega,hL.congr fun x hx=> (D8 f j x jY (.inr (by omega)) hx).symm,hT⟩
 obtain rfl:E'=0:=by omega
 refine aY O (aZ (gE O ?_));refine gB O ?_;have h9:=ao.none.call hT;exact⟨A3,L,O,hL.congr fun x hx=> (zE x hx).symm,h9⟩
end Go.Proofs.YtopgfgdgfjddpaaGreatDoor.Vc
