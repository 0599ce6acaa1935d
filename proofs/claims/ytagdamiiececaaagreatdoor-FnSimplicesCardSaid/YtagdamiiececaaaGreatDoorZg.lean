/-
 Lemmas. Conditions: as each states them.
-/
import Derived.Test.YtagdamiiececaaaGreatDoorZf
set_option maxHeartbeats 8000000
namespace Go.Proofs.YtagdamiiececaaaGreatDoor.Vc
open Tryz
open Go.RowKit
variable{M:ah}{i k N e' d' x:Nat}
theorem aez{α:Type}(x a b c d e f g:α)(X Y:List α):(x::a::b::c::d::e::f::g::(X++Y)).Perm (a::b::c::d::e::f::g::((X++ [x])++Y)):=by
 classical
 refine kN.2 fun z=>?_
 simp only [mb,kL,mE];omega
theorem aeA{α:Type}(x a b c d e f g:α)(X Y:List α):(x::a::b::c::d::e::f::g::(X++Y)).Perm (a::b::c::d::e::f::g::(X++ (Y++ [x]))):=by
 classical
 refine kN.2 fun z=>?_
 simp only [mb,kL,mE];omega
theorem aeB{α:Type}(a b c d e f g:α)(X Y:List α):(a::b::c::d::e::f::g::(X++Y)).Perm (a::((f::X)++ (b::c::d::e::((g::Y)++ [])))):=by
 classical
 refine kN.2 fun z=>?_
 simp only [mb,kL,mE];omega
def lZ(M:ah)(i:Nat):ai:=(List.range i).map fun k=> (aF M k:Int)
def oz(M:ah)(i:Nat):ah:=(List.range i).map (bV M)
theorem aet(M:ah)(i:Nat):lZ M (i+1)=lZ M i++ [(aF M i:Int)]:=by simp [lZ,lN]
theorem ac5(M:ah)(i:Nat):oz M (i+1)=oz M i++ [bV M i]:=by simp [oz,lN]
theorem SH(h:k<i):gi (lZ M i) k=(aF M k:Int):=by
 rw [bO (by simp [lZ];exact h)];simp [lZ]
theorem R1(h:k<i):gl (oz M i) k=bV M k:=by
 rw [bP (by simp [oz];exact h)];simp [oz]
theorem Lx(M:ah)(i:Nat):(oz M i).length=i:=by simp [oz]
def rI(M:ah)(i f k:Nat)(G:List Bool):Prop:=G.length=aF M M.length*aF M M.length/\∀e d:Nat,e<aF M M.length->d<aF M M.length->(gb G ((e*aF M M.length+d:Nat):Int)=true↔∃f' k',(f'<f\/f'=f/\k'<k)/\f'< (gl M 0).length/\k'<i/\bh M i f'=e/\bh M k' f'=d)
theorem aew{e d:Nat}(h1:d<N)(h2:d'<N)(h:e*N+d=e'*N+d'):e=e'/\d=d':=by
 have h3:(e*N+d) / N=e:=by rw [Nat.add_comm,Nat.add_mul_div_right _ _ (by omega),Nat.div_eq_of_lt h1,Nat.zero_add]
 have h4:(e'*N+d') / N=e':=by rw [Nat.add_comm,Nat.add_mul_div_right _ _ (by omega),Nat.div_eq_of_lt h2,Nat.zero_add]
 have h5:e=e':=by rw [<-h3,h,h4]
 subst h5;exact⟨O,by omega⟩
theorem LZ{e d:Nat}(h1:e<N)(h2:d<N):e*N+d<N*N:=by
 have:(e+1)*N<=N*N:=Nat.mul_le_mul_right N h1;rw [Nat.succ_mul]at this;omega
theorem rI.zero(M:ah)(i:Nat):rI M i 0 0 (List.replicate (aF M M.length*aF M M.length) false):=by
 refine⟨by simp,fun e d he hd=>?_⟩;have:gb (List.replicate (aF M M.length*aF M M.length) false) ((e*aF M M.length+d:Nat):Int)=false:=by
  simp only [gb,gG,cN,List.getElem?_replicate]
  split<;>rfl
 rw [this];constructor
 ·intro h;cases h
 rintro⟨f',k',h,_⟩;omega
theorem rI.next(hM:aZ M){f:Nat}{G:List Bool}(h:rI M i f k G)(hf:f< (gl M 0).length)(hi:i<M.length)(hk:k<i):rI M i f (k+1) (G.set ((bh M i f).toNat*aF M M.length+ (bh M k f).toNat) true):=by
 have h1:=oV hM (i:=i) hf;have h2:=oV hM (i:=k) hf;have h3:=nn M (show i+1<=M.length by omega);have h4:=nn M (show k+1<=M.length by omega);refine⟨by rw [lp];exact h.1,fun e d he hd=>?_⟩;have hl:=LZ (e:=(bh M i f).toNat) (d:=(bh M k f).toNat) (N:=aF M M.length) (by omega) (by omega);have hg:gb (G.set ((bh M i f).toNat*aF M M.length+ (bh M k f).toNat) true) ((e*aF M M.length+d:Nat):Int)=if(bh M i f).toNat*aF M M.length+ (bh M k f).toNat=e*aF M M.length+d then true else gb G ((e*aF M M.length+d:Nat):Int):=by
  simp only [gb,gG,cN,mG]
  by_cases e1:(bh M i f).toNat*aF M M.length+ (bh M k f).toNat=e*aF M M.length+d
  ·rw [ay e1,ay (by rw [h.1];exact hl),ay e1];rfl
  rw [aw e1,aw e1]
 rw [hg]
 by_cases e1:(bh M i f).toNat*aF M M.length+ (bh M k f).toNat=e*aF M M.length+d
 ·rw [ay e1];have:=aew (by omega) hd e1;exact⟨fun _=> ⟨f,k,.inr ⟨O,by omega⟩,hf,hk,by omega,by omega⟩,fun _=>O⟩
 rw [aw e1,h.2 e d he hd];constructor
 ·rintro⟨f',k',q,r⟩;exact⟨f',k',by omega,r⟩
 rintro⟨f',k',q,r1,r2,r3,r4⟩;refine⟨f',k',?_,r1,r2,r3,r4⟩
 by_cases e2:f'=f/\k'=k
 ·obtain⟨rfl,rfl⟩:=e2;exact absurd (by rw [r3,r4];rfl) e1
 omega
theorem rI.row{f:Nat}{G:List Bool}(h:rI M i f i G):rI M i (f+1) 0 G:=by
 refine⟨h.1,fun e d he hd=>?_⟩;rw [h.2 e d he hd];constructor
 ·rintro⟨f',k',q,r⟩;exact⟨f',k',by omega,r⟩
 rintro⟨f',k',q,r1,r2,r3⟩;exact⟨f',k',by omega,r1,r2,r3⟩
theorem rI.done(hM:aZ M){G:List Bool}(h:rI M i (gl M 0).length 0 G)(hi:i<M.length){e d:Nat}(he:e<aF M M.length)(hd:d<aF M M.length):gb G ((e*aF M M.length+d:Nat):Int)=true↔((aF M i<=e/\e<aF M (i+1))/\(d:Int)∈gl (bD M) e):=by
 rw [h.2 e d he hd,mQ (by omega) (by omega)];constructor
 ·rintro⟨f',k',_,r1,r2,r3,r4⟩;have:=oV hM (i:=i) r1;exact⟨by omega,by omega,f',r1,i,hi,k',r2,r3.symm,r4.symm⟩
 rintro⟨h1,_,f',r1,i',bX,k',r2,r3,r4⟩;have h5:=oV hM (i:=i') r1;have:i'=i:=by
  rcases Nat.lt_trichotomy i' i with h | h | h
  ·have:=nn M (show i'+1<=i by omega);omega
  ·exact h
  have:=nn M (show i+1<=i' by omega);omega
 subst this;exact⟨f',k',by omega,r1,r2,r3.symm,r4.symm⟩
noncomputable def sS(M:ah)(i e d x:Nat):ai:=if x<aF M i then gl (bD M) x else if aF M (i+1)<=x then []else if x<e then gl (bD M) x else if x=e then(gl (bD M) x).filter fun y=>decide (y<d)else []
noncomputable def gg(M:ah)(i e d:Nat):ah:=(List.range (aF M M.length)).map (sS M i e d)
theorem xd(M:ah)(i e d:Nat):(gg M i e d).length=aF M M.length:=by simp [gg]
theorem Nt{e d:Nat}(h:x<aF M M.length):gl (gg M i e d) x=sS M i e d x:=by
 rw [bP (by rw [xd];exact h)];simp [gg]
theorem XQ{e:Nat}(he:e<aF M M.length):gl (bD M) e=(gl (bD M) e).filter (fun y=>decide (y< (aF M M.length:Int))):=by
 refine(List.filter_eq_self.2 fun y hy=>?_).symm;rw [mQ (by omega) (by omega)]at hy;exact eM hy.1.2
theorem OP(M:ah)(e:Int):SA (gl (bD M) e):=by
 have eu:∀l∈bD M,SA l:=fun l hl=>by
  unfold bD at hl;obtain⟨x,_,rfl⟩:=db.1 hl;exact oL _ (ky _)
 by_cases h:e.toNat< (bD M).length
 ·have:gl (bD M) e=gl (bD M) (e.toNat:Int):=by simp only [gl,gG]
  rw [this,bP h];exact eu _ (dB _)
 have:gl (bD M) e=[]:=by simp [gl,cN,mF (Nat.le_of_not_lt h)]
 rw [this];exact List.Pairwise.nil
theorem XR(hM:aZ M){e:Nat}(he:e<aF M 1):gl (bD M) e=[]:=by
 have h5:=hM.1;have G0:=nn M (show 1<=M.length by omega);refine List.eq_nil_iff_forall_not_mem.2 fun y hy=>?_
 rw [mQ (by omega) (by omega)]at hy;obtain⟨_,f,hf,i,hi,k,hk,h1,_⟩:=hy;have h2:=oV hM (i:=i) hf;have h3:=nn M (show 1<=i by omega);omega
theorem V3(hM:aZ M):gg M 1 0 0=List.replicate (aF M M.length) []:=by
 apply jo (by simp [gg]);intro x h1 h2;rw [xd]at h1;simp only [gg,List.getElem_map,List.getElem_range,List.getElem_replicate];unfold sS
 split
 ·exact XR hM (by assumption)
 split
 ·rfl
 split
 ·omega
 split
 ·rename_i h;subst h;rw [List.filter_eq_nil_iff];intro y hy h;have:=uy h;rw [mQ (by omega) (by omega)]at hy;omega
 rfl
theorem V2:gg M i (aF M M.length) 0=gg M (i+1) 0 0:=by
 unfold gg;refine od fun x hx=>?_
 have hx:=fU.1 hx;have h1:=nn M (show i+1<=i+1+1 by omega);have h2:=nn M (show i<=i+1 by omega);have hz:∀y∈gl (bD M) x,0<=y:=fun y hy=>by rw [mQ (by omega) (by omega)]at hy;omega
 unfold sS
 by_cases c1:x<aF M i
 ·rw [ay c1,ay (by omega)]
 rw [aw c1]
 by_cases c2:x<aF M (i+1)
 ·rw [aw (by omega),ay hx,ay c2]
 rw [ay (by omega),aw c2]
 split
 ·rfl
 rw [aw (by omega)]
 split
 ·rename_i h;subst h;symm;rw [List.filter_eq_nil_iff];intro y hy h;have:=uy h;have:=hz y hy;omega
 rfl
theorem V5{e:Nat}:gg M i e (aF M M.length)=gg M i (e+1) 0:=by
 unfold gg;refine od fun x hx=>?_
 have hx:=fU.1 hx;have hz:∀y∈gl (bD M) x,0<=y:=fun y hy=>by rw [mQ (by omega) (by omega)]at hy;omega
 unfold sS
 by_cases c1:x<aF M i
 ·rw [ay c1,ay c1]
 rw [aw c1,aw c1]
 by_cases c2:aF M (i+1)<=x
 ·rw [ay c2,ay c2]
 rw [aw c2,aw c2]
 by_cases c3:x<e
 ·rw [ay c3,ay (by omega)]
 rw [aw c3]
 by_cases c4:x=e
 ·rw [ay c4,ay (by omega),<-XQ hx]
 rw [aw c4,aw (by omega)]
 split
 ·rename_i h;subst h;symm;rw [List.filter_eq_nil_iff];intro y hy h;have:=uy h;have:=hz y hy;omega
 rfl
theorem V6{e d:Nat}(he:e<aF M M.length)(hd:d<aF M M.length)(h:¬((aF M i<=e/\e<aF M (i+1))/\(d:Int)∈gl (bD M) e)):gg M i e (d+1)=gg M i e d:=by
 unfold gg;refine od fun x hx=>?_
 unfold sS
 by_cases c1:x<aF M i
 ·rw [ay c1,ay c1]
 rw [aw c1,aw c1]
 by_cases c2:aF M (i+1)<=x
 ·rw [ay c2,ay c2]
 rw [aw c2,aw c2]
 by_cases c3:x<e
 ·rw [ay c3,ay c3]
 rw [aw c3,aw c3]
 by_cases c4:x=e
 ·subst c4;rw [ay rfl,ay rfl];refine List.filter_congr fun y hy=>?_
  have bt:y≠(d:Int):=fun e=>h ⟨by omega,e▸hy⟩
  exact jJ.2 (by omega)
 rw [aw c4,aw c4]
theorem V4{e d:Nat}(he:e<aF M M.length)(h:(aF M i<=e/\e<aF M (i+1))/\(d:Int)∈gl (bD M) e):(gg M i e d).set e (gl (gg M i e d) e++ [(d:Int)])=gg M i e (d+1):=by
 apply jo (by simp [gg]);intro x h1 h2;rw [xd]at h2;rw [List.getElem_set];have e2:∀d' (hx:x< (gg M i e d').length),(gg M i e d')[x]=sS M i e d' x:=fun d' hx=>by simp [gg]
 rw [e2 (d+1) (by rw [xd];exact h2),e2 d (by rw [xd];exact h2)]
 by_cases c:e=x
 ·subst c;rw [ay rfl,Nt he];have hz:∀d':Nat,sS M i e d' e=(gl (bD M) e).filter fun y=>decide (y< (d':Int)):=fun d'=>by
   unfold sS;rw [aw (by omega),aw (by omega),aw (by omega),ay rfl]
  rw [hz,hz];have hs:=OP M e;refine SA.eq ?_ (oL _ hs) fun y=>?_
  ·rw [SA,List.pairwise_append];refine⟨oL _ hs,List.pairwise_singleton _ _,fun a ha b hb=>?_⟩;obtain rfl:=gk.1 hb;exact uy (fT.1 ha).2
  rw [jz,fT,fT,gk];simp only [kU];constructor
  ·rintro(⟨h3,h4⟩ | rfl)
   ·exact⟨h3,by omega⟩
   exact⟨h.2,by omega⟩
  rintro⟨h3,h4⟩
  by_cases e3:y=(d:Int)
  ·exact .inr e3
  exact .inl ⟨h3,by omega⟩
 rw [aw c];unfold sS
 by_cases c1:x<aF M i
 ·rw [ay c1,ay c1]
 rw [aw c1,aw c1]
 by_cases c2:aF M (i+1)<=x
 ·rw [ay c2,ay c2]
 rw [aw c2,aw c2]
 by_cases c3:x<e
 ·rw [ay c3,ay c3]
 rw [aw c3,aw c3,aw (fun h=>c h.symm),aw (fun h=>c h.symm)]
theorem V1:gg M M.length 0 0=bD M:=by
 apply jo (by rw [xd,tV]);intro x h1 h2;rw [xd]at h1;simp only [gg,List.getElem_map,List.getElem_range];unfold sS;rw [ay h1,bP h2]
theorem aeC{α:Type}(x y p r i q b:α):[x,y,p,r,i,q,b].Perm [p,x,i,q,b,y,r]:=by
 classical
 refine kN.2 fun z=>?_
 simp only [kL,mE];omega
theorem qy{t:ae}{rs:List aN}{xss:ah}{a:aj}{n c:Nat}{x:ai}(h:rs.length=xss.length):du t (rs++ [⟨a,n,c⟩]) (xss++ [x])=du t rs xss++ [az t a n c x]:=by
 rw [HW h];rfl
abbrev wG(A1 A2 A4 A5 A6:aj)(A:aj)(n c:Nat)(M:ah)(i j i':Nat)(AR:aj)(cR:Nat)(AD:aj)(cD:Nat)(df:List aN)(c5 c6:Nat)(fL:List aN):List Ck:=
 bE A4 n AR (aF M i+j) cR AD (aF M i+j) cD::az 2 AR (aF M i+j) cR (bo M i++List.replicate j (i:Int))::az 2 A5 i' c5 (lZ M i')::bE A2 0 none 0 0 none 0 0::Bx 37 1 A1 [.slice A n c]::cd 24 AD (aF M i+j) cD df::cd 24 A6 i' c6 fL::(du 2 df (List.replicate (aF M i+j) [])++du 2 fL (oz M i'))
theorem Sj{t1 t2:ae}{A:aj}{n c:Nat}{rs:List aN}{xss:ah}{pre ks:List Ck}(s:aN)(xs:ai)(hr:rs.length=xss.length)(hi:i<rs.length):(pre++ (aT t1 t2 A n c rs xss++ks)).set (pre.length+1+i) (az t2 s.a s.n s.c xs)=pre++ (cd t1 A n c rs::(du t2 (rs.set i s) (xss.set i xs)++ks)):=by
 rw [List.set_append_right _ _ (by omega),show pre.length+1+i - pre.length=i+1 by omega]
 congr 1
 show(cd t1 A n c rs::(du t2 rs xss++ks)).set (i+1) _=_;rw [List.set_cons_succ,List.set_append_left _ _ (by rw [zP hr];exact hi),Mf hr]
abbrev pd(A1 A2 A5 A6:aj)(A:aj)(n c:Nat)(M:ah)(AR:aj)(N cR c5 c6:Nat)(fL:List aN):List Ck:=
 az 2 AR N cR (bo M n)::az 2 A5 n c5 (lZ M n)::bE A2 0 none 0 0 none 0 0::Bx 37 1 A1 [.slice A n c]::(aT 24 2 A6 n c6 fL (oz M n)++ [])
theorem acZ(A:aj)(n c:Nat)(rs:List aN)(M:ah)(w:aa)(hR:br w A n rs M)(hM:aZ M):
 aG prog 102 [.agg #[.slice A n c]] w (fun v w'=>∃AR cR AD cD df,v= .agg #[ak (M.length:Int),.slice AR (aF M M.length) cR,.slice AD (aF M M.length) cD]/\df.length=aF M M.length/\St w w' (az 2 AR (aF M M.length) cR (bo M M.length)::(aT 24 2 AD (aF M M.length) cD df (bD M)++ []))):=by
 have hl:=hR.len;have h1:=hM.1;have h2:=hM.2.1;have xO:∀i,i<=n->aF M i<=2000:=fun i hi=>by
  have h3:=HD (M:=M) i;have h4:i* (gl M 0).length<=5*400:=Nat.mul_le_mul (by omega) (by omega);omega
 refine bA func102 O ntmps102 O (rB O O) (a8 O (jd (St.refl w) O O ?_));intro A1 w1 aA;refine mK aA O fun A2 w2 aB=>ar O (aX (aB.rd 1 O) O (bn (aB.rd 1 O) O ?_));refine bc O O (ar O ?_);refine Fj (by exact inferInstance) (by exact inferInstance) (by exact inferInstance) O O O O O O (ny aB O ?_);intro A5 w3 aH;refine ny aH O fun A6 w4 aV=>mK aV O fun A4 w5 aW=>cG 3 0 aW O O O O O O O ?_;intro w6 ba;have ba:St w w6 (wG A1 A2 A4 A5 A6 A n c M 0 0 0 none 0 none 0 [] 0 0 []):=by
  have h7:=(ba.nil 24).nil 2;exact h7.perm (aeC _ _ _ _ _ _ _)
 clear aW aV aH aB aA;refine aI O ?_;refine Cd.loop (α:=Nat×(aj×Nat)×(aj×Nat×List aN)×(aj×Nat)×(aj×Nat×List aN)) (fun z=> [(1,.pointer A1),(2,.pointer A2),(3,ak n),(4,.pointer A4),(5,.slice z.2.2.2.1.1 z.1 z.2.2.2.1.2),(6,.slice z.2.2.2.2.1 z.1 z.2.2.2.2.2.1),(7,ak (z.1:Int))])
  (fun z w'=>z.1<=n/\z.2.2.1.2.2.length=aF M z.1/\z.2.2.2.2.2.2.length=z.1/\St w w' (wG A1 A2 A4 z.2.2.2.1.1 z.2.2.2.2.1 A n c M z.1 0 z.1 z.2.1.1 z.2.1.2 z.2.2.1.1 z.2.2.1.2.1 z.2.2.1.2.2 z.2.2.2.1.2 z.2.2.2.2.2.1 z.2.2.2.2.2.2)) (fun z=>n - z.1) (0,(none,0),(none,0,[]),(A5,0),(A6,0,[])) ⟨rfl,rfl,rfl,rfl,rfl,rfl,rfl,av⟩ ⟨a7 _,rfl,rfl,ba⟩ ?_
 clear ba;rintro⟨i,⟨AR,cR⟩,⟨AD,cD,df⟩,⟨A5,c5⟩,⟨A6,c6,fL⟩⟩ e w7 ⟨hi,lE,zt,hS⟩;dsimp only at hi lE zt hS|-;have QW:=xO i hi;refine bL O (aR _ O (fun h3=>?_) (fun h3=>?_))
 ·have bW:i<n:=by omega
  have kI:=vJ M i;have tk:=xO (i+1) (by omega);have zp:aF M (i+1)=aF M i+ (fA M i).toNat:=O;obtain⟨N,hN⟩:∃N:Nat,fA M i=N:=⟨(fA M i).toNat,by omega⟩;rw [hN,gG]at zp;have Qx:=Xx hM i;rw [hN]at Qx kI;have ov:bo M (i+1)=bo M i++List.replicate N (i:Int):=by rw [bo,hN,gG]
  refine aE O (aX (hS.rd 0 O) O (bn (hS.rd 0 O) O (bc O O (eH hS O O O ?_))));intro MD w8 bS;refine fN 3 bS O (bS.bI 0 O) O O O ?_;intro vw vF w9 bH;have bH:=bH.tail;have e5:lZ M i++ [((aF M i+0:Nat):Int)]=lZ M (i+1):=(aet M i).symm;rw [e5]at bH;clear bS hS;refine ar O (ao.b7 0 (bH.rd 4 O) O O O (ar O (aL (acS A n c rs M i _ (bH.bY hR) hM bW) O ?_)));rintro _ eL ⟨qE,rV,rfl,au⟩;have bQ:=bH.call au;clear au bH;refine kO bQ O O O fun dz fI dX=>mJ 8 dX O (dX.gQ 0 O) O O O (by omega) (by omega) O ?_;intro uH vG fZ dM;have dM:St w fZ (az 2 qE (gl M 0).length rV (bV M i)::bE A4 n AR (aF M i+0) cR AD (aF M i+0) cD::az 2 AR (aF M i+0) cR (bo M i++List.replicate 0 (i:Int))::az 2 vw (i+1) vF (lZ M (i+1))::bE A2 0 none 0 0 none 0 0::Bx 37 1 A1 [.slice A n c]::cd 24 AD (aF M i+0) cD df::cd 24 uH (i+1) vG (fL++ [⟨qE,(gl M 0).length,rV⟩])::(du 2 df (List.replicate (aF M i+0) [])++du 2 fL (oz M i))):=dM.tail;have dM:St w fZ (wG A1 A2 A4 vw uH A n c M i 0 (i+1) AR cR AD cD df vF vG (fL++ [⟨qE,(gl M 0).length,rV⟩])):=by
   have h9:=dM.perm (aeA _ _ _ _ _ _ _ _ _ _);rw [<-qy (by rw [zt,Lx]),<-ac5]at h9;exact h9
  have Q7:(fL++ [(⟨qE,(gl M 0).length,rV⟩:aN)]).length=i+1:=by simp [zt]
  have Qs:rg (fL++ [(⟨qE,(gl M 0).length,rV⟩:aN)]) i=⟨qE,(gl M 0).length,rV⟩:=by
   unfold rg;rw [gG,cN,lM (by omega),zt,Nat.sub_self];rfl
  clear bQ dX;generalize fL++ [(⟨qE,(gl M 0).length,rV⟩:aN)]=tz at*;have nK:lQ fZ uH (i+1) tz:=dM.gQ 6 O;have Py:cn fZ qE (gl M 0).length (bV M i):=by
   have hk6:du 2 tz (oz M (i+1))≠[]\/True:= .inr av;have h7:=Cy (t:=2) (rs:=tz) (xss:=oz M (i+1)) (i:=i) (by rw [Q7,Lx]) (by omega);have h8:=dM.sub (show(du 2 tz (oz M (i+1))).Sublist (wG A1 A2 A4 vw uH A n c M i 0 (i+1) AR cR AD cD df vF vG tz) from(((((((mH _ _).cons _).cons _).cons _).cons _).cons _).cons _).cons _);have h9:=h8.bI i h7;have e8:tz.getD i ew=⟨qE,(gl M 0).length,rV⟩:=Qs;have e9:(oz M (i+1)).getD i []=bV M i:=R1 (show i<i+1 by omega);rw [e8,e9]at h9;exact h9
  refine ar O (aM nK.2 O (dI nK O ?_));rw [Qs];refine ajj (acT qE (gl M 0).length rV (bV M i) _ Py (by omega) (fun x hx=>by
   obtain⟨k,hk,rfl⟩:=fJ.1 hx;rw [F0]at hk;have:=xi hM i k hk;rw [bO (by rw [F0];exact hk)]at this;omega)) rfl rfl rfl ?_
  rintro _ fZ ⟨rfl,rfl⟩;rw [Qx];refine aI O ?_;clear nK Py;refine Cd.loop (α:=Nat×(aj×Nat)×(aj×Nat×List aN)) (fun z=> [(1,.pointer A1),(2,.pointer A2),(3,ak n),(4,.pointer A4),(5,.slice vw (i+1) vF),(6,.slice uH (i+1) vG),(7,ak i),(8,ak ((N:Int) - (z.1:Int)))])
   (fun z w'=>z.1<=N/\z.2.2.2.2.length=aF M i+z.1/\St w w' (wG A1 A2 A4 vw uH A n c M i z.1 (i+1) z.2.1.1 z.2.1.2 z.2.2.1 z.2.2.2.1 z.2.2.2.2 vF vG tz)) (fun z=>N - z.1) (0,(AR,cR),(AD,cD,df)) ⟨rfl,rfl,rfl,rfl,rfl,rfl,rfl,aO (Value.int .i64) (by show(N:Int)=(N:Int) - ((0:Nat):Int);omega),av⟩ ⟨a7 _,lE,dM⟩ ?_
  clear dM;rintro⟨j,⟨BR,dR⟩,⟨BD,dD,pM⟩⟩ e gM ⟨hj,wk,hS⟩;dsimp only at hj wk hS|-;refine bL O (aR _ O (fun h4=>?_) (fun h4=>?_))
  ·have xH:j<N:=by omega
   refine aE O (aX (hS.rd 0 O) O (bn (hS.rd 0 O) O (ar O (eH hS O O O ?_))));intro A52 oI jh;refine fN 2 jh O (jh.bI 0 O) O O O ?_;intro E8 FA qD ib;have hB:=ib.rd 1 O;refine aX hB O (kf 1 ib O O O O O ?_);intro tD jN;have jN:=jN.tail;clear jh ib hB hS;refine ar O ?_;have hB:=jN.rd 0 O;refine aX hB O (bn hB O (ny jN O ?_));intro CK pg fX;have fX:St w pg (az 2 CK 0 0 []::_):=fX;refine kO fX O O O fun A58 wK jO=>mJ 7 jO O (jO.gQ 0 O) O O O (by omega) (by omega) O ?_;intro E9 FB E6 oo;have hB:=oo.rd 2 O;refine aX hB O (kf 2 oo O O O O O ?_);intro yn p8;have p8:St w yn (az 2 CK 0 0 []::bE A4 n E8 (aF M i+j+1) FA E9 (aF M i+j+1) FB::az 2 E8 (aF M i+j+1) FA ((bo M i++List.replicate j (i:Int))++ [(i:Int)])::az 2 vw (i+1) vF (lZ M (i+1))::bE A2 0 none 0 0 none 0 0::Bx 37 1 A1 [.slice A n c]::cd 24 E9 (aF M i+j+1) FB (pM++ [⟨CK,0,0⟩])::cd 24 uH (i+1) vG tz::(du 2 pM (List.replicate (aF M i+j) [])++du 2 tz (oz M (i+1)))):=p8.tail;have Zs:St w yn (wG A1 A2 A4 vw uH A n c M i (j+1) (i+1) E8 FA E9 FB (pM++ [⟨CK,0,0⟩]) vF vG tz):=by
    have h9:=p8.perm (aez _ _ _ _ _ _ _ _ _ _);rw [<-qy (by rw [wk,List.length_replicate]),jy,<-List.replicate_succ',<-List.replicate_succ']at h9;exact h9
   refine ar O (dQ O (aU O (tQ ?_)));exact⟨(j+1,(E8,FA),(E9,FB,pM++ [⟨CK,0,0⟩])),by show N - (j+1)<N - j;omega,⟨O,O,O,O,O,O,O,aO (Value.int .i64) (by show(N:Int) - (j:Int) - 1=(N:Int) - ((j+1:Nat):Int);omega),av⟩,by show j+1<=N;omega,by show(pM++ [_]).length=aF M i+ (j+1);rw [cS,wk];rfl,Zs⟩
  ·have xH:j=N:=by omega
   subst xH;refine bw O (bz (dh O (aK O (aU O (tQ ?_)))));refine⟨(i+1,(BR,dR),(BD,dD,pM),(vw,vF),(uH,vG,tz)),by show n - (i+1)<n - i;omega,(ajs O),by show i+1<=n;omega,by rw [zp];exact wk,Q7,?_⟩;show St w gM (wG A1 A2 A4 vw uH A n c M (i+1) 0 (i+1) BR dR BD dD pM vF vG tz);unfold wG at hS|-;rw [<-zp,<-ov]at hS;rw [Nat.add_zero,List.replicate_zero,fM];exact hS
 obtain rfl:i=n:=by omega
 have ji:M.length=i:=hl;obtain⟨N,hK⟩:∃N,aF M i=N:=⟨_,rfl⟩;have ml:aF M M.length=N:=by rw [ji,hK]
 have Ca:N*N<=4000000:=nv (Nat.mul_le_mul (show N<=2000 by omega) (show N<=2000 by omega)) (by decide);have PN:St w w7 (bE A4 i AR N cR AD N cD::(aT 24 2 AD N cD df (gg M 1 0 0)++pd A1 A2 A5 A6 A i c M AR N cR c5 c6 fL)):=by
  rw [V3 hM,ml];unfold wG at hS;rw [Nat.add_zero,hK,List.replicate_zero,fM]at hS;exact hS.perm (aeB _ _ _ _ _ _ _ _ _)
 clear hS;rw [hK]at lE;refine bw O (bz (pS O ?_));refine Cd.loop (α:=Nat×List aN) (fun z=> [(1,.pointer A1),(2,.pointer A2),(3,ak i),(4,.pointer A4),(5,.slice A5 i c5),(6,.slice A6 i c6),(9,ak (z.1:Int))])
  (fun z w'=> (1<=z.1/\z.1<=i)/\z.2.length=N/\St w w' (bE A4 i AR N cR AD N cD::(aT 24 2 AD N cD z.2 (gg M z.1 0 0)++pd A1 A2 A5 A6 A i c M AR N cR c5 c6 fL))) (fun z=>i - z.1) (1,df) ⟨rfl,rfl,rfl,rfl,rfl,rfl,rfl,av⟩ ⟨⟨bj _,by show 1<=i;omega⟩,lE,PN⟩ ?_
 clear PN;rintro⟨k,pM⟩ e w8 ⟨⟨fK,e6⟩,wk,hS⟩;dsimp only at fK e6 wk hS|-;refine bL O (aR _ O (fun h4=>?_) (fun h4=>?_))
 ·have kl:k<i:=by omega
  refine aE O (aX (hS.rd 0 O) O (bn (hS.rd 0 O) O ?_));refine bc O O (ar O ?_);refine po O O O (by have:((N*N:Nat):Int)=(N:Int)* (N:Int):=Int.natCast_mul N N;omega) ?_;rw [show(N:Int)* (N:Int)=((N*N:Nat):Int) from(Int.natCast_mul N N).symm];refine yx (v:=false) (N*N) hS O O (by omega) fun cL w9 bH=>aI O ?_;refine Cd.loop (α:=Nat×List Bool) (fun z=> [(1,.pointer A1),(2,.pointer A2),(3,ak i),(4,.pointer A4),(5,.slice A5 i c5),(6,.slice A6 i c6),(9,ak k),(10,ak N),(11,.slice cL (N*N) (N*N)),(12,ak (z.1:Int))])
   (fun z w'=>z.1<=(gl M 0).length/\rI M k z.1 0 z.2/\St w w' (gu 4 cL (N*N) (N*N) z.2::bE A4 i AR N cR AD N cD::(aT 24 2 AD N cD pM (gg M k 0 0)++pd A1 A2 A5 A6 A i c M AR N cR c5 c6 fL))) (fun z=> (gl M 0).length - z.1) (0,List.replicate (N*N) false) ⟨rfl,rfl,rfl,rfl,rfl,rfl,rfl,rfl,rfl,rfl,av⟩ ⟨a7 _,by have:=rI.zero M k;rwa [ml]at this,bH⟩ ?_
  clear bH hS;rintro⟨f,G⟩ e eL ⟨hf,hG,hS⟩;dsimp only at hf hG hS|-;have Ld:∀(G:List Bool) (q:List aN) (B:ah),(pd A1 A2 A5 A6 A i c M AR N cR c5 c6 fL).Sublist (gu 4 cL (N*N) (N*N) G::bE A4 i AR N cR AD N cD::(aT 24 2 AD N cD q B++pd A1 A2 A5 A6 A i c M AR N cR c5 c6 fL)):=fun G q B=> ((mH _ _).cons _).cons _
  have abu:(aT 24 2 A6 i c6 fL (oz M i)).Sublist (pd A1 A2 A5 A6 A i c M AR N cR c5 c6 fL):=by
   refine List.Sublist.cons _ (List.Sublist.cons _ (List.Sublist.cons _ (List.Sublist.cons _ ?_)));rw [fM];exact jV _
  have eE:=(hS.sub (Ld _ _ _)).rd 3 O;refine a8 O (ao.b7 0 eE O O O (aL (RY A i c rs M _ (hS.bY hR) (by omega)) O ?_));rintro _ fI ⟨rfl,au⟩;have hS:=hS.aq au.below;clear au eE;refine aI O (aR _ O (fun h5=>?_) (fun h5=>?_))
  ·have si:f< (gl M 0).length:=by omega
   refine dA O ?_;refine Cd.loop (α:=Nat×List Bool) (fun z=> [(1,.pointer A1),(2,.pointer A2),(3,ak i),(4,.pointer A4),(5,.slice A5 i c5),(6,.slice A6 i c6),(9,ak k),(10,ak N),(11,.slice cL (N*N) (N*N)),(12,ak f),(13,ak (z.1:Int))])
    (fun z w'=>z.1<=k/\rI M k f z.1 z.2/\St w w' (gu 4 cL (N*N) (N*N) z.2::bE A4 i AR N cR AD N cD::(aT 24 2 AD N cD pM (gg M k 0 0)++pd A1 A2 A5 A6 A i c M AR N cR c5 c6 fL))) (fun z=>k - z.1) (0,G) ⟨rfl,rfl,rfl,rfl,rfl,rfl,rfl,rfl,rfl,rfl,rfl,av⟩ ⟨a7 _,hG,hS⟩ ?_
   clear hS hG;rintro⟨j,G⟩ e fZ ⟨hj,hG,hS⟩;dsimp only at hj hG hS|-;refine bL O (aR _ O (fun h6=>?_) (fun h6=>?_))
   ·have tf:j<k:=by omega
    have Gn:cn fZ A5 i (lZ M i):=(hS.sub (Ld _ _ _)).bI 1 O;have iI:br fZ A6 i fL (oz M i):=(hS.sub (abu.trans (Ld _ _ _))).kb (Lx M i);have jw:=iI.at_ (i:=(k:Int)) (by omega) (by omega);have G9:=iI.at_ (i:=(j:Int)) (by omega) (by omega);rw [R1 (by omega)]at jw G9;have hkn9:(rg fL k).n=(gl M 0).length:=by rw [<-jw.1,F0]
    have hjn9:(rg fL j).n=(gl M 0).length:=by rw [<-G9.1,F0]
    have o1:=SH (M:=M) (i:=i) (k:=k) (by omega);have o2:=SH (M:=M) (i:=i) (k:=j) (by omega);have e1:=oV hM (i:=k) si;have e2:=oV hM (i:=j) si;have m1:=nn M (show k+1<=M.length by omega);have m2:=nn M (show j+1<=M.length by omega);rw [ml]at m1 m2;have f1:gi (lZ M i) k+gi (bV M k) f=bh M k f:=by rw [o1];rfl
    have f2:gi (lZ M i) j+gi (bV M j) f=bh M j f:=by rw [o2];rfl
    obtain⟨E,hE⟩:∃E:Nat,bh M k f=E:=⟨(bh M k f).toNat,by omega⟩;obtain⟨D,hD⟩:∃D:Nat,bh M j f=D:=⟨(bh M j f).toNat,by omega⟩;have iC:=hG.next hM si (by omega) tf;rw [hE,hD,ml,gG,gG]at iC;rw [hE]at e1 f1;rw [hD]at e2 f2;have ow:=LZ (N:=N) (e:=E) (d:=D) (by omega) (by omega);have qU:((E*N:Nat):Int)=(E:Int)* (N:Int):=Int.natCast_mul E N;have hle:E*N<=N*N:=Nat.mul_le_mul_right N (by omega);have eB:=xi hM k f si;have hlo2:=xi hM j f si;have BU:(E:Int)* (N:Int)+gi (lZ M i) j+gi (bV M j) f=((E*N+D:Nat):Int):=by omega
    refine dA O ?_;refine kK [29] [yS (cL) (N*N) (N*N),yS (A5) (i) (c5),yI ((k:Int)),yP (aJ (A5) ((k:Int)).toNat),yI (gi (lZ M i) ((k:Int))),yS (A6) (i) (c6),yI ((k:Int)),yP (aJ (A6) ((k:Int)).toNat),yS ((rg (fL) ((k:Int))).a) ((rg (fL) ((k:Int))).n) ((rg (fL) ((k:Int))).c),yI ((f:Int)),yP (aJ ((rg (fL) ((k:Int))).a) ((f:Int)).toNat),yI (gi (bV M k) ((f:Int))),yI ((gi (lZ M i) ((k:Int)))+ (gi (bV M k) ((f:Int)))),yI ((N:Int)),yI ((E:Int)* (N:Int)),yS (A5) (i) (c5),yI ((j:Int)),yP (aJ (A5) ((j:Int)).toNat),yI (gi (lZ M i) ((j:Int))),yI (((E:Int)* (N:Int))+ (gi (lZ M i) ((j:Int)))),yS (A6) (i) (c6),yI ((j:Int)),yP (aJ (A6) ((j:Int)).toNat),yS ((rg (fL) ((j:Int))).a) ((rg (fL) ((j:Int))).n) ((rg (fL) ((j:Int))).c),yI ((f:Int)),yP (aJ ((rg (fL) ((j:Int))).a) ((f:Int)).toNat),yI (gi (bV M j) ((f:Int))),yI ((((E:Int)* (N:Int))+ (gi (lZ M i) ((j:Int))))+ (gi (bV M j) ((f:Int)))),yP (aJ (cL) ((((E:Int)* (N:Int))+ (gi (lZ M i) ((j:Int))))+ (gi (bV M j) ((f:Int)))).toNat),.pr (fun _ w'=>St w w' (gu 4 cL (N*N) (N*N) (G.set (E*N+D) true)::bE A4 i AR N cR AD N cD::(aT 24 2 AD N cD pM (gg M k 0 0)++pd A1 A2 A5 A6 A i c M AR N cR c5 c6 fL)))] (by kernel_rfl) (by kernel_rfl) (ly (ly (ly (ly (ly (ly (ly (ly (ly (ly (ly (ly (ly (ly (ly (ly (ly (ly (ly (ly (ly (ly (ly (ly (ly (ly (ly (ly (ly (cI.2 ⟨Ye.cV (fun v w w' h hb=>h.aq hb),(fun _ h=>by cases h)⟩)))))))))))))))))))))))))))))) ?_ ?_
    ·refine⟨bZ O,bZ O,bZ O,cP fun _ _ hb _ _ _=>aM (Gn.aq hb).2 O (bK O O),cP fun _ _ hb _ _ _=>bk (Gn.aq hb) O (bK O O),bZ O,bZ O,cP fun _ _ hb _ _ _=>aM (iI.top.aq hb).2 O (bK O O),cP fun _ _ hb _ _ _=>dI (iI.top.aq hb) O (bK O O),bZ O,cP fun _ _ hb _ _ _=>aM (jw.aq hb).2 O (bK O O),cP fun _ _ hb _ _ _=>bk (jw.aq hb) O (bK O O),aP fun _ _=>aK O (bK O O),bZ O,aP fun _ _=>po (i:=(E:Int)) (j:=(N:Int)) (by exact aO (Value.int .i64) f1) O O (by omega) (bK O O),bZ O,bZ O,cP fun _ _ hb _ _ _=>aM (Gn.aq hb).2 O (bK O O),cP fun _ _ hb _ _ _=>bk (Gn.aq hb) O (bK O O),aP fun _ _=>aK O (bK O O),bZ O,bZ O,cP fun _ _ hb _ _ _=>aM (iI.top.aq hb).2 O (bK O O),cP fun _ _ hb _ _ _=>dI (iI.top.aq hb) O (bK O O),bZ O,cP fun _ _ hb _ _ _=>aM (G9.aq hb).2 O (bK O O),cP fun _ _ hb _ _ _=>bk (G9.aq hb) O (bK O O),aP fun _ _=>aK O (bK O O),cP fun _ _ hb _ _ _=>aM ((hS.jG 0 O).aq hb).2 O (bK O O),?_,av⟩
     ·refine kQ fun e1 w1 hb hp a6 hq=>?_
      refine tK 0 (hS.aq hb) O O O (by omega) fun w6 ba=>ao.n ?_;exact fQ.st O (by rw [BU,gG]at ba;exact ba)
    intro u gM _ hu _ _;have hT:=hu 29 _ O (by kernel_rfl);refine kc O (aK O (aU O (tQ ?_)));exact⟨(j+1,_),by show k - (j+1)<k - j;omega,(ajs O),by show j+1<=k;omega,iC,hT⟩
   ·have tf:j=k:=by omega
    subst tf;refine bw O (bz (dh O (aK O (aU O (tQ ?_)))));exact⟨(f+1,G),by show(gl M 0).length - (f+1)< (gl M 0).length - f;omega,(ajs O),by show f+1<=(gl M 0).length;omega,hG.row,hS⟩
  ·have si:f=(gl M 0).length:=by omega
   subst si;have mW:=fun e d he hd=>hG.done hM (show k<M.length by omega) (e:=e) (d:=d) he hd
   rw [ml]at mW;have hGl:G.length=N*N:=by have:=hG.1;rwa [ml]at this
   refine bw O (bz (pS O ?_));refine Cd.loop (α:=Nat×List aN) (fun z=> [(1,.pointer A1),(2,.pointer A2),(3,ak i),(4,.pointer A4),(5,.slice A5 i c5),(6,.slice A6 i c6),(9,ak k),(10,ak N),(11,.slice cL (N*N) (N*N)),(14,ak (z.1:Int))])
    (fun z w'=>z.1<=N/\z.2.length=N/\St w w' (gu 4 cL (N*N) (N*N) G::bE A4 i AR N cR AD N cD::(aT 24 2 AD N cD z.2 (gg M k z.1 0)++pd A1 A2 A5 A6 A i c M AR N cR c5 c6 fL))) (fun z=>N - z.1) (0,pM) ⟨rfl,rfl,rfl,rfl,rfl,rfl,rfl,rfl,rfl,rfl,av⟩ ⟨a7 _,wk,hS⟩ ?_
   clear hS wk hG h5;rintro⟨E,q3⟩ e fZ ⟨hE,G5,hS⟩;dsimp only at hE G5 hS|-;refine bL O (aR _ O (fun h5=>?_) (fun h5=>?_))
   ·have qU:E<N:=by omega
    have hEm:((E*N:Nat):Int)=(E:Int)* (N:Int):=Int.natCast_mul E N;have hEle:E*N<=N*N:=Nat.mul_le_mul_right N (by omega);refine dA O ?_;refine Cd.loop (α:=Nat×List aN) (fun z=> [(1,.pointer A1),(2,.pointer A2),(3,ak i),(4,.pointer A4),(5,.slice A5 i c5),(6,.slice A6 i c6),(9,ak k),(10,ak N),(11,.slice cL (N*N) (N*N)),(14,ak E),(15,ak (z.1:Int))])
     (fun z w'=>z.1<=N/\z.2.length=N/\St w w' (gu 4 cL (N*N) (N*N) G::bE A4 i AR N cR AD N cD::(aT 24 2 AD N cD z.2 (gg M k E z.1)++pd A1 A2 A5 A6 A i c M AR N cR c5 c6 fL))) (fun z=>N - z.1) (0,q3) ⟨rfl,rfl,rfl,rfl,rfl,rfl,rfl,rfl,rfl,rfl,rfl,av⟩ ⟨a7 _,G5,hS⟩ ?_
    clear hS G5;rintro⟨D,q4⟩ e gM ⟨hD,G6,hS⟩;dsimp only at hD G6 hS|-;refine bL O (aR _ O (fun h6=>?_) (fun h6=>?_))
    ·have xo:D<N:=by omega
     have ow:=LZ (N:=N) (e:=E) (d:=D) qU xo;have o0:=xd M k E D;rw [ml]at o0;have Qo:=mW E D qU xo;have Pu:tL gM cL (N*N) G:=hS.jG 0 O;have BU:(E:Int)* (N:Int)+ (D:Int)=((E*N+D:Nat):Int):=by omega
     refine aE O (po O O O (by omega) ?_);refine ar O (aK O ?_);refine aM Pu.2 O (rS Pu O (by omega) O O ?_);rw [BU];refine aI O ?_;generalize BN:gb G ((E*N+D:Nat):Int)=b at*;cases b with
     | false => --dup 2
      have fu:=V6 (M:=M) (i:=k) (e:=E) (d:=D) (by omega) (by omega) (fun h=>by have:=Qo.2 h;cases this);refine Cd.gh O (aE O (aK O (aU O (tQ ?_))));exact⟨(D+1,q4),by show N - (D+1)<N - D;omega,(ajs O),by show D+1<=N;omega,G6,by rw [fu];exact hS⟩
     | true=>
      have tm:=V4 (M:=M) (i:=k) (e:=E) (d:=D) (by omega) (Qo.1 O);have mm:br gM AD N q4 (gg M k E D):=by
       have h9:=hS.sub (show(aT 24 2 AD N cD q4 (gg M k E D)).Sublist _ from((qI _ _).cons _).cons _);exact h9.kb o0
      have wm:=(mm.at_ (i:=(E:Int)) (by omega) (by omega)).1;have ni:(rg q4 E).n<=N:=by
       rw [<-wm,Nt (by omega)];have iY:(gl (bD M) E).length<=N:=by
        refine pL (OP M _).nodup fun x hx=>?_
        rw [mQ (by omega) (by omega)]at hx;omega
       unfold sS
       split
       ·exact iY
       ·split
        ·exact a7 _
        ·split
         ·exact iY
         ·split
          ·exact nv (rM _ _) iY
          ·exact a7 _
      have fh:Rd gM A4 3 (fun q=> [Value.int .i64 (i:Int),.slice AR N cR,.slice AD N cD].getD q undef):=hS.rd 1 O;have q9:∀A9:aj,(az 2 A9 1 1 [(D:Int)]::(gu 4 cL (N*N) (N*N) G::bE A4 i AR N cR AD N cD::(aT 24 2 AD N cD q4 (gg M k E D)++pd A1 A2 A5 A6 A i c M AR N cR c5 c6 fL)))[3+1+E]?=some (az 2 (rg q4 E).a (rg q4 E).n (rg q4 E).c (gl (gg M k E D) E)):=fun A9=>Ez (t1:=24) (t2:=2) (A:=AD) (n:=N) (c:=cD) (rs:=q4) (xss:=gg M k E D) (pre:=[az 2 A9 1 1 [(D:Int)],gu 4 cL (N*N) (N*N) G,bE A4 i AR N cR AD N cD]) (ks:=pd A1 A2 A5 A6 A i c M AR N cR c5 c6 fL) (i:=E) (by omega) (by omega)
      have qa:=fun(A9:aj) (s:aN) (xs:ai)=>Sj (t1:=24) (t2:=2) (A:=AD) (n:=N) (c:=cD) (rs:=q4) (xss:=gg M k E D) (ks:=pd A1 A2 A5 A6 A i c M AR N cR c5 c6 fL) (pre:=[az 2 A9 1 1 [(D:Int)],gu 4 cL (N*N) (N*N) G,bE A4 i AR N cR AD N cD]) (i:=E) s xs (by omega) (by omega)
      refine Cd.jE O ?_;refine kK [10,12] [yP (aJ A4 2),yS (AD) (N) (cD),yI ((E:Int)),yP (aJ (A4) 2),yS (AD) (N) (cD),yI ((E:Int)),yP (aJ (AD) ((E:Int)).toNat),yS ((rg (q4) ((E:Int))).a) ((rg (q4) ((E:Int))).n) ((rg (q4) ((E:Int))).c),yI ((D:Int)),.pr (fun v w'=>∃A9,v= .slice A9 1 1/\St w w' (az 2 A9 1 1 [(D:Int)]::(gu 4 cL (N*N) (N*N) G::bE A4 i AR N cR AD N cD::(aT 24 2 AD N cD q4 (gg M k E D)++pd A1 A2 A5 A6 A i c M AR N cR c5 c6 fL)))),.pr (fun v w'=>∃AZ cZ,v= .slice AZ ((rg q4 E).n+1) cZ/\St w w' (gu 4 cL (N*N) (N*N) G::bE A4 i AR N cR AD N cD::(cd 24 AD N cD q4::(du 2 (q4.set E ⟨AZ,(rg q4 E).n+1,cZ⟩) ((gg M k E D).set E (gl (gg M k E D) E++ [(D:Int)]))++pd A1 A2 A5 A6 A i c M AR N cR c5 c6 fL)))),yP (aJ AD ((E:Int)).toNat),.pr (fun _ w'=>∃AZ cZ,St w w' (gu 4 cL (N*N) (N*N) G::bE A4 i AR N cR AD N cD::(aT 24 2 AD N cD (q4.set E ⟨AZ,(rg q4 E).n+1,cZ⟩) ((gg M k E D).set E (gl (gg M k E D) E++ [(D:Int)]))++pd A1 A2 A5 A6 A i c M AR N cR c5 c6 fL)))] (by kernel_rfl) (by kernel_rfl) (ly (ly (ly (ly (ly (ly (ly (ly (ly (cI.2 ⟨Ye.cV (fun v w w' h hb=>by obtain⟨A9,hv,hT⟩:=h;exact⟨A9,hv,hT.aq hb⟩),(cI.2 ⟨Ye.cV (fun v w w' h hb=>by obtain⟨AZ,cZ,hv,hT⟩:=h;exact⟨AZ,cZ,hv,hT.aq hb⟩),(ly (cI.2 ⟨Ye.cV (fun v w w' h hb=>by obtain⟨AZ,cZ,hT⟩:=h;exact⟨AZ,cZ,hT.aq hb⟩),(fun _ h=>by cases h)⟩))⟩)⟩)))))))))) ?_ ?_
      ·refine⟨?_,?_,bZ O,cP fun _ _ hb _ _ _=>aX (fh.below hb) O (bK O O),cP fun _ _ hb _ _ _=>bn (fh.below hb) O (bK O O),bZ O,cP fun _ _ hb _ _ _=>aM (mm.top.aq hb).2 O (bK O O),cP fun _ _ hb _ _ _=>dI (mm.top.aq hb) O (bK O O),bZ O,?_,?_,?_,?_,av⟩
       ·intro e1 w1 cc eB cC fq hp a6 hq;show ao _ _ _ _ _ _ _;have hX:Rd w1 A4 3 (fun q=> [Value.int .i64 (i:Int),.slice AR N cR,.slice AD N cD].getD q undef):=by { have cC:=pK cC (b:=1) (by kernel_rfl);rcases(show cc=0\/cc=1 by omega)with h | h; { exact Rd.below fh (fq h) }; { subst h;obtain⟨AZ,cZ,_,hT⟩:=hq 10 _ _ (by kernel_rfl) (by kernel_rfl) (by kernel_rfl) rfl rfl (by kernel_rfl);exact hT.rd 1 rfl } }
        refine aX hX O (ao.n (ig O (by exact O)))
       ·intro e1 w1 cc eB cC fq hp a6 hq;show ao _ _ _ _ _ _ _;have hX:Rd w1 A4 3 (fun q=> [Value.int .i64 (i:Int),.slice AR N cR,.slice AD N cD].getD q undef):=by { have cC:=pK cC (b:=1) (by kernel_rfl);rcases(show cc=0\/cc=1 by omega)with h | h; { exact Rd.below fh (fq h) }; { subst h;obtain⟨AZ,cZ,_,hT⟩:=hq 10 _ _ (by kernel_rfl) (by kernel_rfl) (by kernel_rfl) rfl rfl (by kernel_rfl);exact hT.rd 1 rfl } }
        refine bn hX O (ao.n (ig O (by exact O)))
       ·refine cP fun e1 w1 hb hp a6 hq=>?_
        exact eH (St.refl _) O O O fun A9 w9 au=>ao.n (gA.dn O au.below ⟨A9,O,(hS.aq hb).call au⟩)
       ·refine kQ fun e1 w1 hb hp a6 hq=>?_
        obtain⟨A9,YA,hT⟩:=(hp 9 _ _ (by kernel_rfl) rfl rfl (by kernel_rfl));refine fN (3+1+E) hT (q9 A9) (hT.bI 0 O) O (by exact YA) O ?_;intro AZ cZ wZ hZ;have hZ:=(qa A9 ⟨AZ,(rg q4 E).n+1,cZ⟩ (gl (gg M k E D) E++ [(D:Int)]))▸hZ;exact ao.n (fQ.dn O ⟨AZ,cZ,O,hZ.tail⟩)
       ·intro e1 w1 cc eB cC fq hp a6 hq;show ao _ _ _ _ _ _ _;have hX:lQ w1 AD N q4:=by { have cC:=pK cC (b:=1) (by kernel_rfl);rcases(show cc=0\/cc=1 by omega)with h | h; { exact mm.top.aq (fq h) }; { subst h;obtain⟨AZ,cZ,_,hT⟩:=hq 10 _ _ (by kernel_rfl) (by kernel_rfl) (by kernel_rfl) rfl rfl (by kernel_rfl);exact hT.gQ 2 rfl } }
        refine aM hX.2 O (ao.n (ig O (by exact O)))
       ·refine qM 1 fun e1 w1 hp a6 hq=>?_
        have eP:=hp 10 _ _ (by kernel_rfl) O O (by kernel_rfl);obtain⟨AZ,cZ,YB,hT⟩:=eP;refine C5 (te:=24) (n:=N) (c:=cD) (A:=AD) (xs:=q4) 2 hT O O (by exact YB) (by omega) ?_;intro wY hY;exact ao.n (fQ.st O ⟨AZ,cZ,hY⟩)
      intro u oI _ hu _ _;obtain⟨AZ,cZ,hT⟩:=hu 12 _ rfl (by kernel_rfl);rw [tm]at hT;refine kc O (aK O (aU O (tQ ?_)));exact⟨(D+1,_),by show N - (D+1)<N - D;omega,(ajs O),by show D+1<=N;omega,by simp [G6],hT⟩
    ·have xo:D=N:=by omega
     have cT:=V5 (M:=M) (i:=k) (e:=E);rw [ml]at cT;rw [xo,cT]at hS;refine bw O (bz (dh O (aK O (aU O (tQ ?_)))));exact⟨(E+1,q4),by show N - (E+1)<N - E;omega,(ajs O),by show E+1<=N;omega,G6,hS⟩
   ·have qU:E=N:=by omega
    have iC:=V2 (M:=M) (i:=k);rw [ml]at iC;rw [qU,iC]at hS;refine bw O (bz (dh O (aK O (aU O (tQ ?_)))));exact⟨(k+1,q3),by show i - (k+1)<i - k;omega,(ajs O),⟨by show 1<=k+1;omega,by show k+1<=i;omega⟩,G5,hS.tail⟩
 ·have kl:k=M.length:=by omega
  have eu:=V1 (M:=M);rw [kl,eu]at hS;refine bw O (bz (dh O ?_));refine ao.b7 2 (hS.rd 0 O) O O O ?_;have aB:St w w8 (bE A2 0 none 0 0 none 0 0::(az 2 AR N cR (bo M i)::(aT 24 2 AD N cD pM (bD M)++ []))):=by
   have hs:(aT 24 2 AD N cD pM (bD M)++ [az 2 AR N cR (bo M i),bE A2 0 none 0 0 none 0 0]).Sublist (bE A4 i AR N cR AD N cD::(aT 24 2 AD N cD pM (bD M)++pd A1 A2 A5 A6 A i c M AR N cR c5 c6 fL)):=
    List.Sublist.cons _ (List.Sublist.append_left (List.Sublist.cons_cons _ (List.Sublist.cons _ (List.Sublist.cons_cons _ (List.nil_sublist _)))) _)
   refine(hS.sub hs).perm ?_;rw [fM];exact(me).trans (List.Perm.swap _ _ _)
  refine cG 3 0 aB O O O O O O O fun fZ dM=>bM O (rF O (dM.rd 0 O) ?_);refine⟨AR,cR,AD,cD,pM,?_,by rw [ml];exact wk,?_⟩
  ·rw [ml,ji];rfl
  ·rw [ml,ji];exact dM.tail
section
variable {P:Program} {N:Nat} {ops:Array Oper} {K:Env->aa->Prop} {rest:List Oper} {e:Env} {w:aa} {d:Nat} {ty:ae} {pos:String} {af:Array Edge}
theorem Vh{F:FuncId}{x y z u:ag}{v1 v2 v3 v4:ad}(hx:ev e x=v1)(hy:ev e y=v2)(hz:ev e z=v3)(hu:ev e u=v4)(hb:Nat.blt d N=true)(hK:ao P N ops K rest (bq e d (.func (.func F) #[] #[v1,v2,v3,v4])) w):
 ao P N ops K (⟨some d,.makeFunc (.func F) #[] #[x,y,z,u],ty,pos,af,none⟩::rest) e w:=
 .val (by simp [execOp,Instr.makeFunc,hx,hy,hz,hu]) hb hK
end
theorem yA{l:ah}(h:l.length<=401):cap l=l:=by
 unfold cap;exact jW h
def vI(U:ah):Nat->Int->ah
 | 0,_=> [[]]
 | k+1,e=> (gl U e).flatMap fun f=> (vI U k f).map (f:: ·)
def mS(U:ah)(k:Nat)(fl xs:ai):ah:=xs.flatMap fun e=> (vI U k e).map fun y=>fl++e::y
theorem Yp{U:ah}{k:Nat}{fl xs:ai}{j:Nat}(h:j<xs.length):mS U k fl (xs.take (j+1))=mS U k fl (xs.take j)++ (vI U k (gi xs j)).map fun y=>fl++gi xs j::y:=by
 unfold mS;rw [rQ h,List.flatMap_append,bO h];simp
theorem Yo(U:ah)(k:Nat)(fl:ai)(e:Int):(vI U (k+1) e).map (fun y=>fl++e::y)=mS U k (fl++ [e]) (gl U e):=by
 unfold mS;rw [vI,List.map_flatMap];refine aO (fun g=>List.flatMap g (gl U e)) (funext fun f=>?_);rw [List.map_map];refine od fun y _=>?_
 show fl++e::f::y=(fl++ [e])++f::y;rw [jy];rfl
abbrev om(PF A:aj)(c:Nat)(rs:List aN)(F:ah)(PB:aj)(n:Int)(AR:aj)(nR cR:Nat)(AD:aj)(m d:Nat)(PG PU Au:aj)(N cU:Nat)(dG:List aN)(U:ah)(fB:List Ck):List Ck:=
 Bx 25 1 PF [.slice A F.length c]::(aT 24 2 A F.length c rs F++ (bE PB n AR nR cR AD m d::Bx 107 1 PG [.func (.func 108) #[] #[.pointer PF,.pointer PB,.pointer PG,.pointer PU]]::Bx 25 1 PU [.slice Au N cU]::(aT 24 2 Au N cU dG U++fB)))
theorem aeD{α:Type}(x b c:α)(X Y:List α):(x::b::c::(X++Y)).Perm (b::c::((X++ [x])++Y)):=by
 classical
 refine kN.2 fun z=>?_
 simp only [mb,kL,mE];omega
theorem Gg(PF A:aj)(c:Nat)(rs:List aN)(F:ah)(PB:aj)(n:Int)(AR:aj)(nR cR:Nat)(AD:aj)(m d:Nat)(PG PU Au:aj)(N cU:Nat)(dG:List aN)(U:ah)(fB:List Ck):(bE PB n AR nR cR AD m d::Bx 107 1 PG [.func (.func 108) #[] #[.pointer PF,.pointer PB,.pointer PG,.pointer PU]]::Bx 25 1 PU [.slice Au N cU]::(aT 24 2 Au N cU dG U++fB)).Sublist (om PF A c rs F PB n AR nR cR AD m d PG PU Au N cU dG U fB):=(mH _ _).cons _
theorem Pj(PF A:aj)(c:Nat)(rs:List aN)(F:ah)(PB:aj)(n:Int)(AR:aj)(nR cR:Nat)(AD:aj)(m d:Nat)(PG PU Au:aj)(N cU:Nat)(dG:List aN)(U:ah)(fB:List Ck)(x:Ck):(x::om PF A c rs F PB n AR nR cR AD m d PG PU Au N cU dG U fB).Perm (om PF A c rs F PB n AR nR cR AD m d PG PU Au N cU dG U (x::fB)):=by
 classical
 refine kN.2 fun z=>?_
 simp only [om,mb,kL];omega
theorem Sl{w0 w':aa}{PF A:aj}{c:Nat}{rs:List aN}{F:ah}{PB:aj}{n:Int}{AR:aj}{nR cR:Nat}{AD:aj}{m d:Nat}{PG PU Au:aj}{N cU:Nat}{dG:List aN}{U:ah}{fB:List Ck}{t:ae}{B:aj}{q r:Nat}{xs:ai}(h:St w0 w' (om PF A c rs F PB n AR nR cR AD m d PG PU Au N cU dG U (az t B q r xs::fB))):cn w' B q xs:=(h.perm (Pj ..).symm).bI 0 rfl
theorem Yz(PF A:aj)(c:Nat)(rs:List aN)(F:ah)(PB:aj)(n:Int)(AR:aj)(nR cR:Nat)(AD:aj)(m d:Nat)(PG PU Au:aj)(N cU:Nat)(dG:List aN)(U:ah)(fB:List Ck)(x:Ck):(om PF A c rs F PB n AR nR cR AD m d PG PU Au N cU dG U fB).Sublist (om PF A c rs F PB n AR nR cR AD m d PG PU Au N cU dG U (x::fB)):=(((((((jV fB).cons x).append_left _).cons_cons _).cons_cons _).cons_cons _).append_left _).cons_cons _
theorem Pk{w0 w':aa}{PF A:aj}{c:Nat}{rs:List aN}{F:ah}{PB:aj}{n:Int}{AR:aj}{nR cR:Nat}{AD:aj}{m d:Nat}{PG PU Au:aj}{N cU:Nat}{dG:List aN}{U:ah}{fB:List Ck}(Gv:U.length=N)(h:St w0 w' (om PF A c rs F PB n AR nR cR AD m d PG PU Au N cU dG U fB)):br w' Au N dG U:=
 St.tx (t1:=24) (t2:=2) (c:=cU) (h.sub (((((jV (aT 24 2 Au N cU dG U++fB)).cons _).cons _).cons _).trans (Gg ..))) Gv
theorem Ys(w0:aa)(n:Nat)(QS:n<=5)(PF PB AR AD PG PU Au:aj)(nR cR m d N cU:Nat)(dG:List aN)(U:ah)(Gv:U.length=N)(hN:N<=500)(Zy:∀e:Nat,e<N->(gl U e).length<=500/\∀x∈gl U e,0<=x/\x< (N:Int)):
 ∀(k nf nx:Nat) (fl xs:ai) (Af Ax:aj) (cf cx:Nat) (fB:List Ck) (w:aa) (A:aj) (c:Nat) (rs:List aN) (F:ah),fl.length=nf->xs.length=nx->nf+ (k+1)=n->nx<=500->(∀x∈xs,0<=x/\x< (N:Int))->
  (∀w' A c rs F,St w0 w' (om PF A c rs F PB n AR nR cR AD m d PG PU Au N cU dG U fB)->cn w' Af nf fl)->
  (∀w' A c rs F,St w0 w' (om PF A c rs F PB n AR nR cR AD m d PG PU Au N cU dG U fB)->cn w' Ax nx xs)->
  rs.length=F.length->F.length<=401->St w0 w (om PF A c rs F PB n AR nR cR AD m d PG PU Au N cU dG U fB)->
  aG prog 108 [.slice Af nf cf,.slice Ax nx cx,.pointer PF,.pointer PB,.pointer PG,.pointer PU] w (fun v w'=>v= .tuple #[]/\∃A' c' rs',rs'.length=(cap (F++mS U k fl xs)).length/\St w0 w' (om PF A' c' rs' (cap (F++mS U k fl xs)) PB n AR nR cR AD m d PG PU Au N cU dG U fB)):=by
 intro k
 induction k using Nat.strongRecOn with
 | _ k ih=>
  intro nf nx fl xs Af Ax cf cx fB w A c rs F B6 iC iY hxs su hf hx ic hF hS;refine bA func108 O ntmps108 O (zJ O) ?_;refine a8 O (bc O O (aI O ?_));refine Cd.loop (α:=Nat×aj×Nat×List aN) (fun z=> [(0,.slice Af nf cf),(2,.pointer PF),(3,.pointer PB),(4,.pointer PG),(5,.pointer PU),(11,.slice Ax nx cx),(12,ak nx),(13,ak (z.1:Int))])
   (fun z w'=>z.1<=nx/\z.2.2.2.length=(cap (F++mS U k fl (xs.take z.1))).length/\St w0 w' (om PF z.2.1 z.2.2.1 z.2.2.2 (cap (F++mS U k fl (xs.take z.1))) PB n AR nR cR AD m d PG PU Au N cU dG U fB)) (fun z=>nx - z.1) (0,A,c,rs) ⟨rfl,rfl,rfl,rfl,rfl,rfl,rfl,rfl,av⟩ ⟨a7 _,by
     show rs.length=(cap (F++ [])).length;rw [fM,yA hF];exact ic,by
     show St w0 w (om PF A c rs (cap (F++ [])) _ _ _ _ _ _ _ _ _ _ _ _ _ _ _ _);rw [fM,yA hF];exact hS⟩ ?_
  clear hS ic;rintro⟨j,A,c,rs⟩ e w1 ⟨hj,ic,hS⟩;dsimp only at hj ic hS|-;generalize hG:F++mS U k fl (xs.take j)=G at*;refine bL O (aR _ O (fun h1=>?_) (fun h1=>?_))
  ·have uh:j<xs.length:=by omega
   have hR:=hx _ _ _ _ _ hS;have En:=su _ (gi_in uh);have Bq:F++mS U k fl (xs.take (j+1))=G++ (vI U k (gi xs j)).map fun y=>fl++gi xs j::y:=by
    rw [Yp uh,<-jy,hG]
   have GW:F++mS U k fl xs=G++mS U k fl (xs.drop j):=by
    rw [<-hG,jy]
    congr 1
    unfold mS;rw [<-List.flatMap_append,List.take_append_drop]
   refine aE O (aM hR.2 O (bk hR O (ar O ?_)));obtain⟨E,hE⟩:∃E:Nat,gi xs j=E:=⟨(gi xs j).toNat,by omega⟩;rw [hE]at Bq En|-;refine aL (Fe Af nf cf fl _ (hf _ _ _ _ _ hS) (by omega)) O ?_;rintro _ w2 ⟨A18,c18,rfl,au⟩;have aB:=hS.call au;clear au hS;refine ar O (eH aB O O O ?_);intro A20 w3 aH;refine fN 1 aH O (aH.bI 0 O) O O O ?_;intro oa vE w4 aV;have aV:St w0 w4 (az 2 oa (nf+1) vE (fl++ [(E:Int)])::om PF A c rs (cap G) PB n AR nR cR AD m d PG PU Au N cU dG U fB):=aV.tail;clear aH aB;have dd:Rd w4 PF 1 (fun _=> .slice A (cap G).length c):=Rd.one (aV.rd 1 O);refine ar O (ajn (j:=0) dd (by exact aO Value.pointer (nY _).symm) O O O O ?_);refine bc O O (aI O ?_);refine aR _ O (fun h2=>?_) (fun h2=>?_)
   ·refine eT O (gx (fV ?_));refine L8 ⟨O,A,c,rs,?_,?_⟩
    ·rw [GW,FF _ (by omega)];exact ic
    ·rw [GW,FF _ (by omega)];exact aV.tail
   have dt:=I3 (l:=G) (by omega);have dS:=((aV.tail).sub (Gg ..)).rd 0 O
   by_cases rq:k=0
   ·--dup 2
    refine dA O (eY [xS (oa) (nf+1) (vE),xI ((nf+1:Nat):Int),xP (aJ (PB) 0),xI ((n:Int)),xB (true),xB (true)] O (fE O) ?_ ?_)
    ·refine⟨Dr O,?_,fun _ _ hb _ _=>aX (dS.below hb) O Az,fun _ _ hb _ _=>iG (dS.below hb) O O O O O Az,fun _ _ _ _ _=>Dk O (by exact aO Value.bool (eM (by omega))),Dr O,av⟩
     ·intro e1 w1 hb hp a6;refine aL (zT _ _ _ _) O ?_;rintro _ w2 ⟨rfl,au⟩;subst au;refine ao.n (d0 (by exact O))
    intro u w5 mn _;have aW:=aV.aq mn;clear aV dS dd;have dd:Rd w5 PF 1 (fun _=> .slice A (cap G).length c):=Rd.one (aW.rd 1 O);refine fR O (Cd.jE O (aE O (ajn (j:=0) dd (by exact aO Value.pointer (nY _).symm) O O O O (ar O (kO aW O O O ?_)))));intro Ux w6 ba;refine mJ 3 ba O (ba.gQ 0 O) O O O (by omega) (by omega) O ?_;intro wO xe w7 bG;refine ao.st (i:=2) (j:=0) bG O (by exact aO Value.pointer (nY _).symm) O O (Nat.succ_pos _) ?_;intro w8 bS;have bH:St w0 w8 (az 2 oa (nf+1) vE (fl++ [(E:Int)])::Bx 25 1 PF [.slice wO ((cap G).length+1) xe]::cd 24 wO ((cap G).length+1) xe (rs++ [⟨oa,nf+1,vE⟩])::(du 2 rs (cap G)++_)):=bS.tail;have bH:=bH.perm (aeD _ _ _ _ _);rw [<-qy ic]at bH;have hex:(vI U k (E:Int)).map (fun y=>fl++ (E:Int)::y)=[fl++ [(E:Int)]]:=by rw [rq];rfl
    rw [hex]at Bq;have vc:=Wp (l:=G) (fl++ [(E:Int)]) (by omega);refine ar O (aK O (aU O (tQ ?_)));refine⟨(j+1,wO,xe,rs++ [⟨oa,nf+1,vE⟩]),by show nx - (j+1)<nx - j;omega,(ajs O),by show j+1<=nx;omega,?_,?_⟩
    ·show(rs++ [_]).length=(cap (F++mS U k fl (xs.take (j+1)))).length;rw [Bq,vc,cS,cS,ic];rfl
    ·show St w0 w8 (om PF wO xe (rs++ [_]) (cap (F++mS U k fl (xs.take (j+1)))) PB n AR nR cR AD m d PG PU Au N cU dG U fB);rw [Bq,vc];show St w0 w8 (Bx _ 1 PF [.slice wO (cap G++ [fl++ [(E:Int)]]).length xe]::(cd _ wO (cap G++ [fl++ [(E:Int)]]).length xe _::_));rw [show(cap G++ [fl++ [(E:Int)]]).length=(cap G).length+1 by simp];exact bH
   ·obtain⟨k',rfl⟩:∃k',k=k'+1:=⟨k - 1,by omega⟩;rw [Yo]at Bq;refine dA O (eY [xS (oa) (nf+1) (vE),xI ((nf+1:Nat):Int),xP (aJ (PB) 0),xI ((n:Int)),xB (false),xB (false)] O (fE O) ?_ ?_)
    ·refine⟨Dr O,?_,fun _ _ hb _ _=>aX (dS.below hb) O Az,fun _ _ hb _ _=>iG (dS.below hb) O O O O O Az,fun _ _ _ _ _=>Dk O (by exact aO Value.bool (dE (by omega))),Dr O,av⟩
     ·intro e1 w1 hb hp a6;refine aL (zT _ _ _ _) O ?_;rintro _ w2 ⟨rfl,au⟩;subst au;refine ao.n (d0 (by exact O))
    intro u w5 mn _;have aW:=(aV.aq mn).perm (Pj ..);clear aV dS dd;have iJ:Rd w5 PG 1 (fun _=> .func (.func 108) #[] #[.pointer PF,.pointer PB,.pointer PG,.pointer PU]):=Rd.one ((aW.sub (Gg ..)).rd 1 O);have nL:Rd w5 PU 1 (fun _=> .slice Au N cU):=Rd.one ((aW.sub (Gg ..)).rd 2 O);have hU:=Pk Gv aW;have Rh:=hU.at_ (i:=(E:Int)) (by omega) (by omega);have u6:=Zy E (by omega);refine fR O (Cd.gh O ?_);refine kK [6] [.ex (.func (.func 108) #[] #[.pointer PF,.pointer PB,.pointer PG,.pointer PU]),yS (oa) (nf+1) (vE),yS (Au) (N) (cU),yI ((E:Int)),yP (aJ (Au) ((E:Int)).toNat),yS ((rg (dG) ((E:Int))).a) ((rg (dG) ((E:Int))).n) ((rg (dG) ((E:Int))).c),.pr (fun v w'=>∃A' c' rs',rs'.length=(cap (cap G++mS U k' (fl++ [(E:Int)]) (gl U E))).length/\St w0 w' (om PF A' c' rs' (cap (cap G++mS U k' (fl++ [(E:Int)]) (gl U E))) PB n AR nR cR AD m d PG PU Au N cU dG U fB))] (by kernel_rfl) (by kernel_rfl) (ly (ly (ly (ly (ly (ly (cI.2 ⟨Ye.cV (fun v w w' h hb=>by obtain⟨A',c',rs',fG,hT⟩:=h;exact⟨A',c',rs',fG,hT.aq hb⟩),(fun _ h=>by cases h)⟩))))))) ?_ ?_
    ·refine⟨?_,bZ O,cP fun _ _ hb _ _ _=>ajn (j:=0) (nL.below hb) (by exact aO Value.pointer (nY _).symm) O O O O (bK O O),bZ O,cP fun _ _ hb _ _ _=>aM (hU.top.aq hb).2 O (bK O O),cP fun _ _ hb _ _ _=>dI (hU.top.aq hb) O (bK O O),?_,av⟩
     ·refine cP fun e1 w1 hb hp a6 hq=>?_
      refine ao.ld (Rd.below iJ hb) (by exact aO Value.pointer (nY _).symm) (by decide) O O O ?_;refine ao.n (ig O (by exact O))
     ·refine kQ fun e1 w1 hb hp a6 hq=>?_
      refine aL (ih k' (Nat.lt_succ_self _) (nf+1) (rg dG E).n (fl++ [(E:Int)]) (gl U E) oa (rg dG E).a vE (rg dG E).c (az 2 oa (nf+1) vE (fl++ [(E:Int)])::fB) _ A c rs (cap G) (by rw [cS,B6];rfl) Rh.1 (by omega) (by have:=Rh.1;omega) u6.2 (fun w' A c rs F h=>Sl h) (fun w' A c rs F h=> (Pk Gv h).at_ (i:=(E:Int)) (by omega) (by omega)) ic (I4 G) (aW.aq hb)) O ?_;rintro _ w9 ⟨rfl,A',c',rs',fG,bH⟩;exact ao.n (fQ.dn O ⟨A',c',rs',fG,bH.sub (Yz ..)⟩)
    intro u w6 _ hu _ _;obtain⟨A',c',rs',fG,hT⟩:=hu 6 _ rfl (by kernel_rfl);rw [dt,<-Bq]at fG hT;refine kc O (aK O (aU O (tQ ?_)));exact⟨(j+1,A',c',rs'),by show nx - (j+1)<nx - j;omega,(ajs O),by show j+1<=nx;omega,fG,hT⟩
  ·have uh:j=xs.length:=by omega
   rw [uh,List.take_length]at hG;rw [<-hG]at ic hS;refine bw O (bz (CU O ?_));exact wI ⟨O,A,c,rs,ic,hS⟩
def vr(n:Nat)(R:ai)(B:ah)(E F x:Nat):ai:=
 if x<E then []else(jT R B x).filter fun g=>decide (dL n R B g/\(x=E->g< (F:Int)))
def gy(n:Nat)(R:ai)(B:ah)(E F:Nat):ah:=(List.range R.length).map (vr n R B E F)
def uQ(n:Nat)(R:ai)(B:ah)(E F x:Nat):Bool:=
 if x<E then false else if x=E then decide (gi R x=(n:Int) - 1\/∃g∈jT R B x,dL n R B g/\g< (F:Int))else decide (dL n R B x)
def gn(n:Nat)(R:ai)(B:ah)(E F:Nat):List Bool:=(List.range R.length).map (uQ n R B E F)
section
variable {n:Nat} {R:ai} {B:ah} {E F x:Nat}
theorem yl:(gy n R B E F).length=R.length:=by simp [gy]
theorem rU:(gn n R B E F).length=R.length:=by simp [gn]
theorem My(h:x<R.length):gl (gy n R B E F) x=vr n R B E F x:=by
 rw [bP (by rw [yl];exact h)];simp [gy]
theorem Nd(h:x<R.length):gb (gn n R B E F) x=uQ n R B E F x:=by
 unfold gb;rw [gG,cN,fS (by rw [rU];exact h),Option.getD_some];simp [gn]
theorem aht:gy n R B R.length F=List.replicate R.length []:=by
 refine List.eq_replicate_iff.2 ⟨yl,fun y hy=>?_⟩;obtain⟨x,hx,rfl⟩:=db.1 hy;unfold vr;rw [ay (fU.1 hx)]
theorem VF:gn n R B R.length F=List.replicate R.length false:=by
 refine List.eq_replicate_iff.2 ⟨rU,fun y hy=>?_⟩;obtain⟨x,hx,rfl⟩:=db.1 hy;unfold uQ;rw [ay (fU.1 hx)]
theorem ym(hP:gm n R B){e g:Int}(h:g∈jT R B e):e<g/\g<R.length:=by
 obtain⟨h1,_,h3⟩:=l6.1 h;exact⟨((hP.at_ h1.1 h1.2).2.1 e h3).1.2,h1.2⟩
theorem ahw(hP:gm n R B)(hE:E<R.length):gy n R B E (E+1)=gy n R B (E+1) R.length:=by
 refine od fun x hx=>?_
 have hx:=fU.1 hx;unfold vr
 by_cases c1:x<E
 ·rw [ay c1,ay (by omega)]
 rw [aw c1]
 by_cases c2:x=E
 ·subst c2;rw [ay (by omega),List.filter_eq_nil_iff];intro g hg h;have h3:=(uy h).2 O;have:=ym hP hg;omega
 rw [aw (by omega)];refine List.filter_congr fun g hg=>jJ.2 ?_
 have:=ym hP hg;exact⟨fun h=> ⟨h.1,fun _=>by omega⟩,fun h=> ⟨h.1,fun h=>absurd h c2⟩⟩
theorem ahv(h:¬(dL n R B F/\(F:Int)∈jT R B E)):gy n R B E (F+1)=gy n R B E F:=by
 refine od fun x hx=>?_
 unfold vr
 by_cases c1:x<E
 ·rw [ay c1,ay c1]
 rw [aw c1,aw c1];refine List.filter_congr fun g hg=>jJ.2 ⟨fun h2=> ⟨h2.1,fun e=>?_⟩,fun h2=> ⟨h2.1,fun e=>by have:=h2.2 e;omega⟩⟩
 have h3:=h2.2 e;subst e;have:g≠(F:Int):=fun e=>h ⟨e▸h2.1,e▸hg⟩
 omega
theorem ahu(hE:E<R.length)(h:dL n R B F/\(F:Int)∈jT R B E):(gy n R B E F).set E (gl (gy n R B E F) E++ [(F:Int)])=gy n R B E (F+1):=by
 apply jo (by rw [lp,yl,yl]);intro x h1 h2;rw [yl]at h2;have e2:∀d' (hx:x< (gy n R B E d').length),(gy n R B E d')[x]=vr n R B E d' x:=fun d' hx=>by simp [gy]
 rw [List.getElem_set,e2 (F+1) (by rw [yl];exact h2),e2 F (by rw [yl];exact h2)]
 by_cases c:E=x
 ·subst c;rw [ay rfl,My hE];unfold vr;rw [aw (Nat.lt_irrefl _),aw (Nat.lt_irrefl _)];have hs:=CG R B E;refine SA.eq ?_ (oL _ hs) fun y=>?_
  ·rw [SA,List.pairwise_append];refine⟨oL _ hs,List.pairwise_singleton _ _,fun a ha b hb=>?_⟩;obtain rfl:=gk.1 hb;exact(uy (fT.1 ha).2).2 O
  rw [jz,fT,fT,gk];simp only [kU];constructor
  ·rintro(⟨h3,h4,h5⟩ | rfl)
   ·exact⟨h3,h4,fun e=>by have:=h5 e;omega⟩
   exact⟨h.2,h.1,fun _=>by omega⟩
  rintro⟨h3,h4,h5⟩
  by_cases e3:y=(F:Int)
  ·exact .inr e3
  exact .inl ⟨h3,h4,fun e=>by have:=h5 e;omega⟩
 rw [aw c];unfold vr
 by_cases c1:x<E
 ·rw [ay c1,ay c1]
 rw [aw c1,aw c1];exact List.filter_congr fun g hg=>jJ.2 ⟨fun h2=> ⟨h2.1,fun e=>absurd e.symm c⟩,fun h2=> ⟨h2.1,fun e=>absurd e.symm c⟩⟩
theorem Nf{x:Nat}(hP:gm n R B)(hx:x<R.length)(h:(gi R x=(n:Int) - 1\/∃g∈jT R B x,dL n R B g/\g< (R.length:Int))):dL n R B x:=by
 rcases h with h | ⟨g,h1,h2,_⟩
 ·exact Nk h
 have h3:=(l6.1 h1);have:=hP.ri h3.1.1 h3.1.2;have:=hP.ri (e:=(x:Int)) (by omega) (by omega);exact(Ft (by omega) (by omega)).2 ⟨g,h1,h2⟩
theorem Ng{x:Nat}(hP:gm n R B)(hx:x<R.length)(h:dL n R B x):(gi R x=(n:Int) - 1\/∃g∈jT R B x,dL n R B g/\g< (R.length:Int)):=by
 have:=hP.ri (e:=(x:Int)) (by omega) (by omega)
 by_cases c:gi R x=(n:Int) - 1
 ·exact .inl c
 obtain⟨g,h1,h2⟩:=(Ft (by omega) (by omega)).1 h;exact .inr ⟨g,h1,h2,(ym hP h1).2⟩
theorem VI(hP:gm n R B)(hE:E<R.length):(gn n R B (E+1) R.length).set E (decide (gi R E=(n:Int) - 1))=gn n R B E (E+1):=by
 apply jo (by rw [lp,rU,rU]);intro x h1 h2;rw [rU]at h2;have e2:∀e' d' (hx:x< (gn n R B e' d').length),(gn n R B e' d')[x]=uQ n R B e' d' x:=fun e' d' hx=>by simp [gn]
 rw [List.getElem_set,e2 _ _ (by rw [rU];exact h2),e2 _ _ (by rw [rU];exact h2)];unfold uQ
 by_cases c:E=x
 ·subst c;rw [ay rfl,aw (Nat.lt_irrefl _),ay rfl];refine jJ.2 ⟨fun h=> .inl h,fun h=>?_⟩;rcases h with h | ⟨g,h3,_,h4⟩
  ·exact h
  have:=ym hP h3;omega
 rw [aw c]
 by_cases c1:x<E
 ·rw [ay (by omega),ay c1]
 rw [aw (by omega),aw c1,aw (show ¬x=E from fun e=>c e.symm)]
 split
 ·refine jJ.2 ⟨fun h=>Nf hP h2 h,fun h=>Ng hP h2 h⟩
 rfl
theorem VH(h:¬(dL n R B F/\(F:Int)∈jT R B E)):gn n R B E (F+1)=gn n R B E F:=by
 refine od fun x hx=>?_
 unfold uQ
 by_cases c1:x<E
 ·rw [ay c1,ay c1]
 rw [aw c1,aw c1]
 by_cases c2:x=E
 ·subst c2;rw [ay rfl,ay rfl];refine jJ.2 (or_congr Iff.rfl ⟨?_,?_⟩)
  ·rintro⟨g,h1,h2,h3⟩;have:g≠(F:Int):=fun e=>h ⟨e▸h2,e▸h1⟩
   exact⟨g,h1,h2,by omega⟩
  rintro⟨g,h1,h2,h3⟩;exact⟨g,h1,h2,by omega⟩
 rw [aw c2,aw c2]
theorem VG(hE:E<R.length)(h:dL n R B F/\(F:Int)∈jT R B E):(gn n R B E F).set E true=gn n R B E (F+1):=by
 apply jo (by rw [lp,rU,rU]);intro x h1 h2;rw [rU]at h2;have e2:∀e' d' (hx:x< (gn n R B e' d').length),(gn n R B e' d')[x]=uQ n R B e' d' x:=fun e' d' hx=>by simp [gn]
 rw [List.getElem_set,e2 _ _ (by rw [rU];exact h2),e2 _ _ (by rw [rU];exact h2)];unfold uQ
 by_cases c:E=x
 ·subst c;rw [ay rfl,aw (Nat.lt_irrefl _),ay rfl];exact(eM (.inr ⟨_,h.2,h.1,by omega⟩)).symm
 rw [aw c]
 by_cases c1:x<E
 ·rw [ay c1,ay c1]
 rw [aw c1,aw c1,aw (fun e=>c e.symm),aw (fun e=>c e.symm)]
theorem VE(hP:gm n R B)(yN:E<F)(hF:F<R.length):gb (gn n R B E F) F=decide (dL n R B F):=by
 rw [Nd hF];unfold uQ;rw [aw (by omega),aw (by omega)]
theorem VD(hP:gm n R B)(hx:x<R.length):gb (gn n R B 0 R.length) x=decide (dL n R B x):=by
 rw [Nd hx];unfold uQ;rw [aw (by omega)]
 split
 ·exact jJ.2 ⟨fun h=>Nf hP hx h,fun h=>Ng hP hx h⟩
 rfl
theorem Uf(hP:gm n R B)(hx:x<R.length):gl (gy n R B 0 R.length) x=(jT R B x).filter fun g=>decide (dL n R B g):=by
 rw [My hx];unfold vr;rw [aw (by omega)];refine List.filter_congr fun g hg=>jJ.2 ⟨fun h=>h.1,fun h=> ⟨h,fun _=> (ym hP hg).2⟩⟩
theorem Ds{α β:Type}{f g:α->List β}:∀ {l:List α},(∀x∈l,f x=g x)->l.flatMap f=l.flatMap g
 | [],_=>rfl
 | a::r,h=>by rw [List.flatMap_cons,List.flatMap_cons,h a (List.mem_cons_self ..),Ds fun x hx=>h x (pj _ hx)]
theorem Of(hP:gm n R B):∀(k:Nat) (e:Int),0<=e->e<R.length->(gi R e).toNat+k=n - 1->vI (gy n R B 0 R.length) k e=mO R B k e
 | 0,_,_,_,_=>rfl
 | k+1,e,h0,h1,h2=>by
  have hr:=hP.ri h0 h1;obtain⟨x,rfl⟩:∃x:Nat,e=x:=⟨e.toNat,by omega⟩;rw [vI,Uf hP (by omega),Uk hr.1 (by omega)];refine Ds fun f hf=>?_
  have hf:=(l6.1 (fT.1 hf).1);rw [Of hP k f hf.1.1 hf.1.2 (by omega)]
theorem Yn(hn:1<=n)(hP:gm n R B):mS (gy n R B 0 R.length) (n - 1) [] ((tP R).filter fun f=>decide (dL n R B f))=aD n R B:=by
 rw [NB];unfold mS;refine Ds fun e he=>?_
 have he:=sT.1 (fT.1 he).1;rw [Of hP _ e he.1.1 he.1.2 (by omega)]
 rfl
theorem Wh{m:Nat}(hm:m<R.length):((bN (m+1)).filter fun e=>decide (gi R e=0) && decide (dL n R B e))=((bN m).filter fun e=>decide (gi R e=0) && decide (dL n R B e))++ (if gi R m=0/\dL n R B m then [(m:Int)]else []):=by
 unfold bN;rw [lN,jb,sP]
 congr 1
 by_cases c:gi R m=0/\dL n R B m
 ·rw [ay c];simp [c.1,c.2]
 rw [aw c];rw [List.filter_eq_nil_iff];intro a ha h;obtain rfl:=gk.1 ha;simp at h;exact c h
theorem Wg:((bN R.length).filter fun e=>decide (gi R e=0) && decide (dL n R B e))=(tP R).filter fun f=>decide (dL n R B f):=by
 unfold tP;rw [List.filter_filter];exact List.filter_congr fun x _=>Bool.and_comm _ _
end
def nW(H:List Bool)(vs:ai):List Bool:=vs.foldl (fun H v=>H.set v.toNat true) H
theorem aeY(H:List Bool)(vs:ai)(v:Int):nW H (vs++ [v])=(nW H vs).set v.toNat true:=by simp [nW,List.foldl_append]
theorem aeX(H:List Bool):∀vs,(nW H vs).length=H.length:=by
 intro vs;unfold nW
 induction vs generalizing H with
 | nil=>rfl
 | cons a r ih=>rw [List.foldl_cons,ih,lp]
theorem aeW(H:List Bool)(vs:ai)(hv:∀v∈vs,0<=v/\v<H.length)(x:Int)(h0:0<=x):gb (nW H vs) x=(gb H x || decide (x∈vs)):=by
 unfold nW
 induction vs generalizing H with
 | nil=>simp
 | cons a r ih=>
  have ha:=hv a (by simp);rw [List.foldl_cons,ih _ (fun v h=>by rw [lp];exact hv v (by simp [h])),Dw ha.1 ha.2 h0]
  by_cases e:a=x
  ·subst e;simp
  ·have e':¬x=a:=fun h=>e h.symm
   simp [e,e']
theorem OY(n:Nat)(x:Int):gb (List.replicate n false) x=false:=by
 unfold gb;rw [cN,List.getElem?_replicate]
 split<;>rfl
theorem aeV{m:Nat}{F:ah}(h:∀l∈F,∀x∈l,0<=x/\x< (m:Int))(x:Int)(h0:0<=x):gb (nW (List.replicate m false) F.flatten) x=decide (∃l∈F,x∈l):=by
 rw [aeW _ _ (fun v hv=>by
  obtain⟨l,hl,hx⟩:=List.mem_flatten.1 hv;rw [List.length_replicate];exact h l hl v hx) x h0,OY,Bool.false_or]
 exact jJ.2 (by rw [List.mem_flatten])
def tq(m:Nat):List Bool:=List.replicate m false
theorem S1(m:Nat)(vs:ai):(nW (tq m) vs).length=m:=by rw [aeX];simp [tq]
theorem aeq{m:Nat}{F:ah}(h:∀l∈F,∀x∈l,0<=x/\x< (m:Int)):¬(false∈nW (tq m) F.flatten)↔∀x:Int,0<=x->x< (m:Int)->∃l∈F,x∈l:=by
 have hl:=S1 m F.flatten;have hg:=fun(x:Int) (h0:0<=x)=>aeV h x h0
 constructor
 ·intro hn x h0 h1;apply ob;intro hc;have h2:gb (nW (tq m) F.flatten) x=false:=(hg x h0).trans (dE hc);apply hn;have h3:x.toNat< (nW (tq m) F.flatten).length:=by omega
  rw [<-h2,gb,cN,fS h3];exact dB _
 intro ha hm;obtain⟨k,hk,e⟩:=fJ.1 hm;have h2:=hg (k:Int) (by omega);rw [eM (ha (k:Int) (by omega) (by omega))]at h2;have h3:gb (nW (tq m) F.flatten) k=(nW (tq m) F.flatten)[k]:=by simp [gb,cN,hk]
 have h4:gb (nW (tq m) F.flatten) k=true:=h2;rw [h3,e]at h4;cases h4
theorem UO(A:aj)(n c:Nat)(xs:List Bool)(v:Bool)(w:aa)(hR:tL w A n xs)(hn:n<=9223372036854775807):
 aG prog 189 [.slice A n c,.bool v] w (fun r w'=> (∃i:Int,r=ak i/\(0<=i↔v∈xs))/\w'=w):=by
 have gP:=hR.1;refine bA func189 O ntmps189 O (cJ O) ?_;refine a8 O (bc O O (aI O ?_));refine Cd.loop (α:=Nat) (fun k=> [(0,.slice A n c),(1,.bool v),(7,ak n),(8,ak k)]) (fun k w'=>w'=w/\k<=n/\∀j:Nat,j<k->gb xs j≠v) (fun k=>n - k) 0 (ajs O) ⟨O,a7 _,fun j hj=>by omega⟩ ?_;rintro k e w ⟨rfl,hk,hK⟩;refine bL O (aR _ O (fun h3=>?_) (fun h3=>?_))
 ·have hg:gb xs k=xs[k]'(by omega):=by simp [gb,cN,show k<xs.length by omega]
  refine aE O (aM hR.2 O (rS hR O (by omega) O O (Ve O O O (aI O ?_))));refine Cd.cond O (fun h4=>?_) (fun h4=>?_)
  ·refine eT O (gx (fV ?_));refine gY O ?_;have h4:v=gb xs k:=by simpa using h4
   exact⟨⟨(k:Int),O,⟨fun _=>by rw [h4,hg];exact dB _,fun _=>by omega⟩⟩,O⟩
  refine aE O (aK O (aU O (tQ ?_)));have h4:¬v=gb xs k:=by simpa using h4
  refine⟨k+1,by show n - (k+1)<n - k;omega,(ajs O),O,by omega,fun j hj=>?_⟩
  by_cases ej:j=k
  ·subst ej;exact fun h=>h4 h.symm
  exact hK j (by omega)
 refine bw O (bz (gE O ?_));refine gY O ⟨⟨-1,O,⟨fun h=>absurd h (by decide),fun h=>?_⟩⟩,O⟩;obtain⟨j,hj,BV⟩:=fJ.1 h;exact absurd (by simpa [gb,cN,hj]using BV) (hK j (by omega))
theorem UF(A:aj)(n c:Nat)(xs:List Bool)(v:Bool)(w:aa)(hR:tL w A n xs)(hn:n<=9223372036854775807):
 aG prog 118 [.slice A n c,.bool v] w (fun r w'=>r= .bool (decide (v∈xs))/\w'=w):=by
 refine bA func118 O ntmps118 O (cJ O) (a8 O (aL (UO A n c xs v _ hR hn) O ?_));rintro _ w ⟨⟨i,rfl,hi⟩,rfl⟩;refine bM O (dK O ?_);exact⟨aO Value.bool (jJ.2 hi),O⟩
theorem C6{w:aa}{A:aj}{n:Nat}{f:Nat->ad}(h:Rd w A n f)(hn:0<n):A.isNone=false:=by
 obtain⟨p,hp,_⟩:=h 0 hn;cases A with
 | none=>simp [aJ]at hp
 | some q=>rfl
def Np(l:List Oper):Bool:=l.zipIdx.all fun p=> (fo p.1).all fun ed=>Nat.blt ed.on p.2
theorem uU{o:Oper}{S:Nat->Bool}(h:∀ed∈fo o,S ed.on=true)(k:Nat)(hk:(fo o).any (fun ed=>Nat.beq ed.on k)=true):S k=true:=by
 obtain⟨ed,fF,hb⟩:=List.any_eq_true.1 hk;rw [<-oe hb];exact h ed fF
section
variable {P:Program} {N:Nat} {e:Env} {w:aa}
theorem UD{id:Nat}{l:List Oper}{Q:jB}(hm:P.follows .mixedOrders=true)(uc:Np l=true)(I:(Nat->Bool)->Env->aa->Prop)(h0:∀w1,Below w.heap.size w w1->I (fun _=>false) e w1)
 (pG:∀(S:Nat->Bool) (i:Nat) (o:Oper) (e1:Env) (w1:aa),l[i]?=some o->S i=false->(∀ed∈fo o,S ed.on=true)->(∀(k:Nat) (o':Oper),S k=true->l[k]?=some o'->∀ed∈fo o',S ed.on=true)->I S e1 w1->ao P N l.toArray (fun e2 w2=>I (fun k=>Nat.beq k i || S k) e2 w2) [o] e1 w1)
 (y8:∀(S:Nat->Bool) (e1:Env) (w1:aa),(∀i,i<l.length->S i=true)->I S e1 w1->Q .normal e1 w1):Cd P N (.region id l.toArray true) Q e w:= .mk' fun a ha=>by
 have vX:∀(i:Nat) (o:Oper),l[i]?=some o->∀ed∈fo o,ed.on<i:=by
  intro i o ho ed fF;simp only [Np,List.all_eq_true]at uc;have:=uc (o,i) (by
   obtain⟨hi,GR⟩:=gS.1 ho;rw [List.mem_iff_getElem?];exact⟨i,by simp [ho]⟩)
  simpa [Nat.blt_eq]using this ed fF
 refine wp_region_any hm ?_;have key:∀(fuel:Nat) (listed:Array Bool) (a1:Act) (e1:Env) (w1:aa),jC N a1 e1->listed.size=l.length->
  (∀(i:Nat) (o:Oper),listed.getD i false=true->l[i]?=some o->∀ed∈fo o,listed.getD ed.on false=true)->I (fun k=>listed.getD k false) e1 w1->(l.length - fuel<=(List.range l.length).countP fun i=>listed.getD i false)->
  wpAny P .any l.toArray (low N Q) fuel listed a1 w1:=by
  have mW:∀(listed:Array Bool) (a1:Act) (e1:Env) (w1:aa),jC N a1 e1->I (fun k=>listed.getD k false) e1 w1->(∀i,i<l.length->listed.getD i false=true)->low N Q .normal a1 w1:=
   fun listed a1 e1 w1 hr hI eu=> ⟨e1,hr,y8 _ e1 w1 eu hI⟩
  have Eh:∀(listed:Array Bool),listed.size=l.length->Region.ready .any l.toArray listed=[]->∀i,i<l.length->listed.getD i false=true:=by
   intro listed mw uk i
   induction i using Nat.strongRecOn with
   | _ i ih=>
    intro hi;cases xK:listed.getD i false with
    | true=>rfl
    | false=>
     exfalso;have:i∈Region.ready .any l.toArray listed:=by
      rw [mem_ready];refine⟨?_,l[i],by simp [hi],fun ed fF s9=>ih ed.on (vX i _ (fS hi) ed (qp.2 ⟨fF,s9⟩)) (by have:=vX i _ (fS hi) ed (qp.2 ⟨fF,s9⟩);omega)⟩;rw [iR,qF (by omega)]at xK|-;exact xK
     rw [uk]at this;cases this
  intro fuel
  induction fuel with
  | zero=>
   intro listed a1 e1 w1 hr mw dt hI mo;have eu:∀i,i<l.length->listed.getD i false=true:=by
    have h4:(List.range l.length).countP (fun i=>listed.getD i false)=(List.range l.length).length:=by
     have:=List.countP_le_length (p:=fun i=>listed.getD i false) (l:=List.range l.length);simp at this mo|-;omega
    rw [List.countP_eq_length]at h4;intro i hi;exact h4 i (by simpa using hi)
   refine⟨?_,mW listed a1 e1 w1 hr hI eu⟩;rw [List.eq_nil_iff_forall_not_mem];intro i hi;obtain⟨h5,o,ho,_⟩:=mem_ready.1 hi;have re:i<l.length:=by
    rcases Nat.lt_or_ge i l.length with h | h
    ·exact h
    ·simp [mF h]at ho
   have h6:=eu i re;rw [iR,qF (by omega)]at h5 h6;simp at h5 h6;rw [h5]at h6;cases h6
  | succ fuel ih=>
   intro listed a1 e1 w1 hr mw dt hI mo;refine⟨fun uk=>mW listed a1 e1 w1 hr hI (Eh listed mw uk),fun i hi=>?_⟩;obtain⟨a6,o,ho,vU⟩:=mem_ready.1 hi;have iq:l[i]?=some o:=by simpa using ho
   have re:i<l.length:=(gS.1 iq).1;have nh:∀ed∈fo o,listed.getD ed.on false=true:=fun ed fF=>vU ed (qp.1 fF).1 (qp.1 fF).2
   have tp:listed.getD i false=false:=by
    have h5:=a6;rw [iR,qF (by omega)]at h5|-;exact h5
   have pA:∀k,(listed.setIfInBounds i true).getD k false=if k=i then true else listed.getD k false:=by
    intro k;rw [iR,vx]
    by_cases e6:k=i
    ·subst e6;rw [ay rfl,ay (by omega),ay rfl];rfl
    ·rw [aw (fun e=>e6 e.symm),aw e6,<-iR]
   have hS:(fun k=> (listed.setIfInBounds i true).getD k false)=fun k=>Nat.beq k i || listed.getD k false:=by
    funext k;rw [pA]
    by_cases e6:k=i
    ·subst e6;rw [ay rfl,Nat.beq_refl];rfl
    ·rw [aw e6];have:Nat.beq k i=false:=by
      cases hb:Nat.beq k i with
      | false=>rfl
      | true=>exact absurd (oe hb) e6
     rw [this];rfl
   have au:=pG (fun k=>listed.getD k false) i o e1 w1 iq tp nh (fun k o' hk dO=>dt k o' hk dO) hI;have pa:=au.run a1 hr;have vg:∀a2 w2,(∃e2,jC N a2 e2/\I (fun k=>Nat.beq k i || listed.getD k false) e2 w2)->wpAny P .any l.toArray (low N Q) fuel (listed.setIfInBounds i true) a2 w2:=by
    intro a2 w2 ⟨e2,pF,tZ⟩;refine ih _ a2 e2 w2 pF (by simpa using mw) (fun k o' hk dO ed fF=>?_) (by rw [hS];exact tZ) ?_
    ·rw [pA]
     by_cases xG:ed.on=i
     ·rw [ay xG]
     ·rw [aw xG]
      by_cases e6:k=i
      ·subst e6;rw [iq]at dO;cases dO;exact nh ed fF
      ·rw [pA,aw e6]at hk;exact dt k o' hk dO ed fF
    ·have DV:(List.range l.length).countP (fun k=> (listed.setIfInBounds i true).getD k false)=(List.range l.length).countP (fun k=>listed.getD k false)+1:=
      Bb (fun k=>listed.getD k false) (fun k=> (listed.setIfInBounds i true).getD k false) i tp pA _ List.nodup_range (by simpa using re)
     rw [DV];omega
   unfold wpOp;rw [ho];unfold wpList at pa;show if _ then _ else _
   by_cases hw:Region.wanted o (yielded l.toArray a1.tmps)=true
   ·rw [ay hw]at pa|-;rcases pa with h5 | ⟨_,a0,w0,h5⟩
    ·refine .inl (Io h5 (fun a2 w2 hx=>?_) (fun x a w hx hq=>hx hq.1));exact vg a2 w2 hx.2
    ·exact absurd h5.1 (by simp)
   ·rw [aw hw]at pa|-;exact vg _ _ pa.2
 refine key l.length (Array.replicate l.length false) a e _ ha (by simp) (fun i o hi=>?_) (by
  have:(fun k=> (Array.replicate l.length false).getD k false)=fun _=>false:=by
   funext k;rw [iR,Array.getElem?_replicate]
   split<;>rfl
  rw [this];exact h0 _ ⟨⟨rfl,rfl,rfl,bj _,fun _ _=>rfl⟩,fun _=>Nat.le_add_right _ _⟩) (by omega)
 exfalso;rw [iR,Array.getElem?_replicate]at hi
 split at hi<;>simp at hi
end
def Aw(n:Nat)(R:ai)(B:ah)(f:Nat)(x:Nat):Prop:=(f<=x/\gi R x=(n:Int) - 1)\/∃g:Nat,(g:Int)∈jT R B x/\dL n R B g/\f<=g
def vC(n:Nat)(R:ai)(B:ah)(f j:Nat)(x:Nat):Prop:=Aw n R B (f+1) x\/(x=f/\gi R x=(n:Int) - 1)\/(dL n R B f/\(x:Int)∈(gl B f).take j/\gi R f=gi R x+1)
section
variable{x j:Nat}
variable {n:Nat} {R:ai} {B:ah}
theorem Nj(hP:gm n R B){f:Nat}(hf:f<=x)(hx:x<R.length):Aw n R B f x↔dL n R B x:=by
 have hr:=hP.ri (e:=(x:Int)) (by omega) (by omega);constructor
 ·rintro(h | ⟨g,h1,h2,_⟩)
  ·exact Nk h.2
  have h3:=l6.1 h1;have:=hP.ri h3.1.1 h3.1.2;exact(Ft (by omega) (by omega)).2 ⟨_,h1,h2⟩
 intro h
 by_cases c:gi R x=(n:Int) - 1
 ·exact .inl ⟨hf,c⟩
 obtain⟨g,h1,h2⟩:=(Ft (by omega) (by omega)).1 h;have h3:=ym hP h1;obtain⟨g',rfl⟩:∃g':Nat,g=g':=⟨g.toNat,by omega⟩;exact .inr ⟨g',h1,h2,by omega⟩
theorem VN(hP:gm n R B)(hx:x<R.length):¬Aw n R B R.length x:=by
 rintro(h | ⟨g,h1,_,h2⟩)
 ·omega
 have:=ym hP h1;omega
theorem VQ(hP:gm n R B){f:Nat}(hf:f<R.length):vC n R B f j f↔dL n R B f:=by
 rw [<-Nj hP (bj f) hf];constructor
 ·rintro(h | h | h)
  ·rcases h with h | ⟨g,h1,h2,h3⟩
   ·omega
   exact .inr ⟨g,h1,h2,by omega⟩
  ·exact .inl ⟨bj _,h.2⟩
  have:=((hP.at_ (e:=(f:Int)) (by omega) (by omega)).2.1 _ (List.mem_of_mem_take h.2.1)).1;omega
 rintro(h | ⟨g,h1,h2,h3⟩)
 ·exact .inr (.inl ⟨O,h.2⟩)
 have:=ym hP h1;exact .inl (.inr ⟨g,h1,h2,by omega⟩)
theorem VO(hP:gm n R B){f:Nat}(hf:f<R.length)(hj:¬dL n R B f\/(gl B f).length<=j)(hx:x<R.length):vC n R B f j x↔Aw n R B f x:=by
 constructor
 ·rintro(h | h | h)
  ·rcases h with h | ⟨g,h1,h2,h3⟩
   ·exact .inl ⟨by omega,h.2⟩
   exact .inr ⟨g,h1,h2,by omega⟩
  ·exact .inl ⟨by omega,h.2⟩
  exact .inr ⟨f,l6.2 ⟨by omega,h.2.2,List.mem_of_mem_take h.2.1⟩,h.1,bj _⟩
 rintro(h | ⟨g,h1,h2,h3⟩)
 ·by_cases e:x=f
  ·exact .inr (.inl ⟨e,h.2⟩)
  exact .inl (.inl ⟨by omega,h.2⟩)
 by_cases e:g=f
 ·subst e;have h4:=l6.1 h1;rcases hj with hj | hj
  ·exact absurd h2 hj
  exact .inr (.inr ⟨h2,by rw [jW hj];exact h4.2.2,h4.2.1⟩)
 exact .inl (.inr ⟨g,h1,h2,by omega⟩)
theorem VP{f:Nat}(hj:j< (gl B f).length):vC n R B f (j+1) x↔vC n R B f j x\/(dL n R B f/\(x:Int)=gi (gl B f) j/\gi R f=gi R x+1):=by
 have e9:(gl B f).take (j+1)=(gl B f).take j++ [gi (gl B f) j]:=by
  rw [rQ hj,bO hj]
 unfold vC;rw [e9,jz,gk];constructor
 ·rintro(h | h | ⟨h1,h2 | h2,h3⟩)
  ·exact .inl (.inl h)
  ·exact .inl (.inr (.inl h))
  ·exact .inl (.inr (.inr ⟨h1,h2,h3⟩))
  exact .inr ⟨h1,h2,h3⟩
 rintro((h | h | ⟨h1,h2,h3⟩) | ⟨h1,h2,h3⟩)
 ·exact .inl h
 ·exact .inr (.inl h)
 ·exact .inr (.inr ⟨h1,.inl h2,h3⟩)
 exact .inr (.inr ⟨h1,.inr h2,h3⟩)
end
def rR(N:Nat)(L:List Bool)(P:Nat->Prop):Prop:=L.length=N/\∀x:Nat,x<N->(gb L x=true↔P x)
theorem rR.set{N:Nat}{L:List Bool}{P P':Nat->Prop}(h:rR N L P){y:Nat}(hy:y<N)(hP:∀x,x<N->(P' x↔P x\/x=y)):rR N (L.set y true) P':=by
 refine⟨by rw [lp];exact h.1,fun x hx=>?_⟩;have:=Dw (S:=L) (x:=(y:Int)) (y:=(x:Int)) (b:=true) (by omega) (by rw [h.1];omega) (by omega);rw [gG]at this;rw [this,hP x hx,<-h.2 x hx]
 by_cases e:x=y
 ·subst e;simp
 rw [aw (by omega)];exact⟨fun h=> .inl h,fun h=>h.resolve_right e⟩
theorem rR.congr{N:Nat}{L:List Bool}{P P':Nat->Prop}(h:rR N L P)(hP:∀x,x<N->(P' x↔P x)):rR N L P':=⟨h.1,fun x hx=> (h.2 x hx).trans (hP x hx).symm⟩
theorem acV(n:Nat)(A D:aj)(cA cD:Nat)(R:ai)(rs:List aN)(B:ah)(w:aa)(hR:cn w A R.length R)(hB:br w D B.length rs B)(hP:gm n R B):
 aG prog 181 [.agg #[ak n,.slice A R.length cA,.slice D B.length cD]] w (fun v w'=>∃A' L,v= .slice A' R.length R.length/\rR R.length L (fun x=>dL n R B x)/\St w w' [gu 4 A' R.length R.length L]):=by
 have hn:=hP.n1;have qZ:=hP.oQ;have hle:=hP.len;have cT:=fun(f:Nat) (h:f<R.length)=>hP.at_ (e:=(f:Int)) (by omega) (by omega)
 have bU:∀f:Nat,f<R.length->(gl B f).length<=500:=fun f h=>by
  have:=pL (N:=R.length) (cT f h).1.nodup fun x hx=>by have:=((cT f h).2.1 x hx).1;omega
  omega
 have Hf:=fun f j (h:f<R.length)=>VQ (n:=n) (j:=j) hP h
 have DY:=fun f j x (h:f<R.length) hj (hx:x<R.length)=>VO (n:=n) (j:=j) hP h hj hx
 have Rr:=fun x (h:x<R.length)=>VN (n:=n) hP h
 have vd:=fun x (h:x<R.length)=>Nj (n:=n) (f:=0) hP (a7 _) h
 have iZ:=fun(x:Nat) (h:x<R.length)=>hP.ri (e:=(x:Int)) (by omega) (by omega)
 obtain⟨N,hN⟩:∃N,R.length=N:=⟨_,rfl⟩;rw [hN]at hR qZ hle cT bU Hf DY Rr vd iZ|-;rw [hle]at hB|-;refine bA func181 O ntmps181 O (cJ O) (a8 O (nw (St.refl w) O O ?_));intro A1 w1 aA;have h1:Rd w1 A1 3 (fun j=> [Value.int .i64 (n:Int),.slice A N cA,.slice D N cD].getD j undef):=aA.rd 0 O;have hR:=aA.gW hR;have hB:=aA.bY hB;refine ar O (aX h1 O (ajn (j:=1) h1 (by exact aO Value.pointer O) O O O O (bc O O (yx (v:=false) N (St.refl w1) O O (by omega) ?_))));intro A3 w2 Kd;have JN:=Rd.below h1 Kd.below;refine ar O (aX JN O (ajn (j:=1) JN (by exact aO Value.pointer O) O O O O ?_));have PC:rR N (List.replicate N false) (Aw n R B N):=⟨by simp,fun x hx=> ⟨fun h=> (by rw [OY]at h;cases h),fun h=>absurd h (Rr x hx)⟩⟩;clear JN;refine bc O O (dQ O (aI O ?_));refine Cd.loop (α:=Nat×List Bool) (fun z=> [(1,.pointer A1),(3,.slice A3 N N),(4,ak ((z.1:Int) - 1))]) (fun z w'=>z.1<=N/\rR N z.2 (Aw n R B z.1)/\St w1 w' [gu 4 A3 N N z.2]) (fun z=>z.1) (N,List.replicate N false) (ajs O) ⟨bj _,PC,Kd⟩ ?_;clear Kd PC;rintro⟨E',L⟩ e w3 ⟨hE,hL,hT⟩;dsimp only at hE hL hT|-;refine bL O (aR _ O (fun h2=>?_) (fun h2=>?_))
 ·obtain⟨f,rfl⟩:∃f,E'=f+1:=⟨E' - 1,by omega⟩;have kI:f<N:=by omega
  rw [show((f+1:Nat):Int) - 1=(f:Int) by omega];have p6:=Rd.below h1 hT.below;have vR:=hR.aq hT.below;have rv:=iZ f kI;refine UL 3 O (tG (α:=List Bool) (fun _=> [(1,.pointer A1),(3,.slice A3 N N),(4,ak f)]) (fun L' w'=>rR N L' (vC n R B f 0)/\St w1 w' [gu 4 A3 N N L']) ?_ ?_)
  ·refine bL O (eY [xP (aJ (A1) 1),xS (A) (N) (cA),xI ((f:Int)),xP (aJ (A) ((f:Int)).toNat),xI (gi (R) ((f:Int))),xP (aJ (A1) 0),xI ((n:Int)),xI (((n:Int)) - ((1:Int))),xB (decide ((gi (R) ((f:Int)))=(((n:Int)) - ((1:Int)))))] O (fE O) ?_ ?_)
   ·exact⟨fun _ _ hb _ _=>aX (p6.below hb) O Az,fun _ _ hb _ _=>bn (p6.below hb) O Az,Dr O,fun _ _ hb _ _=>aM (vR.aq hb).2 O Az,fun _ _ hb _ _=>bk (vR.aq hb) O Az,fun _ _ hb _ _=>aX (p6.below hb) O Az,fun _ _ hb _ _=>iG (p6.below hb) O O O O O Az,fun _ _ _ _ _=>dQ O Az,Dr O,av⟩
   intro u w4 nL _;have DK:=hT.aq nL;clear hT p6 vR;refine fR O (aR _ O (fun h3=>?_) (fun h3=>?_))
   ·refine aE O (aM (DK.jG 0 O).2 O (tK 0 DK O O O (by omega) ?_));intro w5 nJ;rw [gG]at nJ;refine aU O (tQ ?_);refine⟨L.set f true,(ajs O),hL.set kI fun x hx=>?_,nJ⟩;unfold vC;rw [List.take_zero];constructor
    ·rintro(h | h | h)
     ·exact .inl h
     ·exact .inr h.1
     cases h.2.1
    rintro(h | h)
    ·exact .inl h
    subst h;exact .inr (.inl ⟨rfl,h3⟩)
   refine oc O (tQ ?_);refine⟨L,(ajs O),hL.congr fun x hx=>?_,DK⟩;unfold vC;rw [List.take_zero];constructor
   ·rintro(h | h | h)
    ·exact h
    ·exact absurd (h.1▸h.2) h3
    cases h.2.1
   exact fun h=> .inl h
  clear hT hL p6 vR;rintro L e w5 ⟨hL,hT⟩;have abg:=cT f kI;have hrl5:=bU f kI;refine dA O (Cd.loop (α:=Nat×List Bool) (fun z=> [(1,.pointer A1),(3,.slice A3 N N),(4,ak f),(5,ak (z.1:Int))]) (fun z w'=>z.1<=(gl B f).length/\rR N z.2 (vC n R B f z.1)/\St w1 w' [gu 4 A3 N N z.2]) (fun z=> (gl B f).length - z.1) (0,L) (ajs O) ⟨a7 _,hL,hT⟩ ?_);clear hT hL;rintro⟨j,L⟩ e w6 ⟨hj,hL,hT⟩;dsimp only at hj hL hT|-;have p6:=Rd.below h1 hT.below;have DB:=hB.aq hT.below;have ir:=DB.at_ (i:=(f:Int)) (by omega) (by omega);have ni:=ir.1;have Bs:=hL.1;have BO:=(hL.2 f kI).trans (Hf f j kI);refine a8 O (aX p6 O (ajn (j:=2) p6 (by exact aO Value.pointer O) O O O O (ar O (aM DB.top.2 O (dI DB.top O ?_)))));refine bc O O (ar O ?_);refine dp 39 O (fun h3=>?_) (fun h3=>?_)
  ·have lR:j< (gl B f).length:=by omega
   refine ax O (ar O (ax O (ar O (ax O ?_))));refine aM (hT.jG 0 O).2 O (ax O (rS (hT.jG 0 O) O (by omega) O O ?_));generalize BN:gb L f=bb at*;rw [show bb=decide (bb=true) by cases bb<;>rfl];refine aI O (aR _ O (fun h4=>?_) (fun h4=>?_))
   ·have qX:=BO.1 h4;have q8:=abg.2.1 _ (gi_in lR);have iC:=fun x=>VP (n:=n) (R:=R) (B:=B) (f:=f) (x:=x) lR
    have vR:=hR.aq hT.below;obtain⟨d,hd⟩:∃d:Nat,gi (gl B f) j=d:=⟨(gi (gl B f) j).toNat,by omega⟩;rw [hd]at q8 iC;have nh:=iZ d (by omega);refine aE O (aX p6 O (ajn (j:=2) p6 (by exact aO Value.pointer O) O O O O (ar O (aM DB.top.2 O (dI DB.top O (ar O (aM ir.2 O (bk ir O ?_))))))));rw [hd];refine aI O (eY [xP (aJ (A1) 1),xS (A) (N) (cA),xI ((d:Int)),xP (aJ (A) ((d:Int)).toNat),xI (gi (R) ((d:Int))),xP (aJ (A1) 1),xS (A) (N) (cA),xI ((f:Int)),xP (aJ (A) ((f:Int)).toNat),xI (gi (R) ((f:Int))),xI ((gi (R) ((f:Int))) - ((1:Int))),xB (decide ((gi (R) ((d:Int)))=((gi (R) ((f:Int))) - ((1:Int)))))] O (fE O) ?_ ?_)
    ·exact⟨fun _ _ hb _ _=>aX (p6.below hb) O Az,fun _ _ hb _ _=>bn (p6.below hb) O Az,Dr O,fun _ _ hb _ _=>aM (vR.aq hb).2 O Az,fun _ _ hb _ _=>bk (vR.aq hb) O Az,fun _ _ hb _ _=>aX (p6.below hb) O Az,fun _ _ hb _ _=>bn (p6.below hb) O Az,Dr O,fun _ _ hb _ _=>aM (vR.aq hb).2 O Az,fun _ _ hb _ _=>bk (vR.aq hb) O Az,fun _ _ _ _ _=>dQ O Az,Dr O,av⟩
    intro u w7 xC _;have kG:=hT.aq xC;refine fR O (aR _ O (fun h5=>?_) (fun h5=>?_))
    ·refine aE O (aM (kG.jG 0 O).2 O (tK 0 kG O O O (by omega) ?_));intro w8 mU;rw [gG]at mU;refine ar O (aK O (aU O (tQ ?_)));refine⟨(j+1,L.set d true),by show(gl B f).length - (j+1)< (gl B f).length - j;omega,(ajs O),by show j+1<=_;omega,hL.set (by omega) fun x hx=>?_,mU⟩;rw [iC x];constructor
     ·rintro(h | h)
      ·exact .inl h
      exact .inr (by omega)
     rintro(h | h)
     ·exact .inl h
     subst h;exact .inr ⟨qX,rfl,by omega⟩
    refine aE O (aK O (aU O (tQ ?_)));refine⟨(j+1,L),by show(gl B f).length - (j+1)< (gl B f).length - j;omega,(ajs O),by show j+1<=_;omega,hL.congr fun x hx=>?_,kG⟩;rw [iC x];constructor
    ·rintro(h | h)
     ·exact h
     have h9:=h.2.1;have ia:=h.2.2;rw [h9]at ia;omega
    exact fun h=> .inl h
   have qX:¬dL n R B f:=fun h=>h4 (BO.2 h)
   refine bw O (bz (dh O (dQ O (aU O (tQ ?_)))));exact⟨(f,L),by show f<f+1;omega,(ajs O),by show f<=N;omega,hL.congr fun x hx=> (DY f j x kI (.inl qX) hx).symm,hT⟩
  refine aQ O (aQ O (aQ O (aQ O (aI O ?_))));refine Cd.gh O (bw O (bz (dh O (dQ O (aU O (tQ ?_))))));exact⟨(f,L),by show f<f+1;omega,(ajs O),by show f<=N;omega,hL.congr fun x hx=> (DY f j x kI (.inr (by omega)) hx).symm,hT⟩
 obtain rfl:E'=0:=by omega
 refine bw O (bz (gE O ?_));refine gD O ?_;have h9:=aA.none.call hT;exact⟨A3,L,O,hL.congr fun x hx=> (vd x hx).symm,h9⟩
def vK(n:Nat)(R:ai)(B:ah):ah:=if(aD n R B).length<=400 then aD n R B else []
def pW(n:Nat)(R:ai)(B:ah):Int:=if(aD n R B).length<=400 then 0 else 3
abbrev tU(A1 PU Au fj:aj)(n:Nat)(A D:aj)(N cA cD:Nat)(al:List Bool)(dG:List aN)(U:ah):List Ck:=
 gu 4 fj N N al::Bx 25 1 PU [.slice Au N N]::bE A1 n A N cA D N cD::(aT 24 2 Au N N dG U++ [])
theorem OD(n:Nat)(A D:aj)(cA cD:Nat)(R:ai)(rs:List aN)(B:ah)(w:aa)(hR:cn w A R.length R)(hB:br w D B.length rs B)(hP:gm n R B):
 aG prog 56 [.agg #[ak n,.slice A R.length cA,.slice D B.length cD]] w (Fc (vK n R B) (pW n R B) w):=by
 have hn:=hP.n1;have qZ:=hP.oQ;have hle:=hP.len;have cT:=fun e (h:e<R.length)=>hP.row e h
 have bU:∀e:Nat,e<R.length->(gl B e).length<=500:=fun e h=>by
  have:=pL (N:=R.length) (cT e h).1.nodup fun x hx=> ((cT e h).2 x hx).1
  omega
 have Lh:∀E F:Nat,(gy n R B E F).length=R.length:=fun E F=>yl
 have qX:∀E F:Nat,(gn n R B E F).length=R.length:=fun E F=>rU
 have Rp:=fun E (h:E<R.length)=>ahw (n:=n) hP h
 have Ro:=fun E (h:E<R.length)=>VI (n:=n) hP h
 have QA:=aht (n:=n) (R:=R) (B:=B) (F:=R.length);have QB:=VF (n:=n) (R:=R) (B:=B) (F:=R.length);have GQ:=fun E F (h:E<F) (hF:F<R.length)=>VE (n:=n) hP h hF
 have Ef:=fun E F (hE:E<R.length) h=>ahu (n:=n) (R:=R) (B:=B) (E:=E) (F:=F) hE h
 have QZ:=fun E F (hE:E<R.length) h=>VG (n:=n) (R:=R) (B:=B) (E:=E) (F:=F) hE h
 have JX:br w D R.length rs B:=hle▸hB;have aao:=RQ n A D cA cD R rs B w hR hB hP;have mW:=fun x (h:x<R.length)=>VD (n:=n) hP h
 have Rt:=fun x (h:x<R.length)=>Uf (n:=n) hP h
 have Qy:=Yn (n:=n) (by omega) hP;have BI:=fun m (h:m<R.length)=>Wh (n:=n) (B:=B) h
 have ub:=Wg (n:=n) (R:=R) (B:=B);have Ru:=fun(e f:Int)=>l6 (R:=R) (B:=B) (e:=e) (f:=f)
 obtain⟨N,hN⟩:∃N,R.length=N:=⟨_,rfl⟩;rw [hN]at hR qZ hle cT bU JX Rp Ro QA QB GQ Ef QZ mW Rt Qy BI ub;simp only [hN]at Lh qX Ru;rw [hN,hle]at aao|-;refine bA func56 O ntmps56 O (rA O) (a8 O (nw (St.refl w) O O ?_));intro A1 w1 aA;have h1:Rd w1 A1 3 (fun j=> [Value.int .i64 (n:Int),.slice A N cA,.slice D N cD].getD j undef):=aA.rd 0 O;refine ar O (ao.b7 2 h1 O O O ?_);refine ajj (RQ n A D cA cD R rs B w1 (by rw [hN];exact aA.gW hR) (by rw [hle];exact aA.bY JX) hP) O (by rw [hN,hle];rfl) O ?_;rintro _ w2 ⟨rfl,au⟩;have aB:=aA.aq au.below;have h1:=Rd.below h1 au.below;clear au aA
 first | refine eA rfl rfl ?_ | refine eU rfl rfl ?_
 refine aI O (Cd.gh O (aE O (aX h1 O (bn h1 O (aL (zT _ _ _ _) O ?_)))));rintro _ w2 ⟨rfl,rfl⟩;refine ar O (Iu N aB O O (by omega) ?_);intro Au w3 aH;have aH:St w w3 ([cd 24 Au N N (List.replicate N ew),bE A1 n A N cA D N cD]):=aH;refine ao.new (z:= .slice none 0 0) aH O O ?_;intro PU w4 aV;refine ao.st (i:=0) (j:=0) aV O (by exact aO Value.pointer (nY _).symm) O O (Nat.succ_pos _) ?_;intro w5 aW;have aW:St w w5 (Bx 25 1 PU [.slice Au N N]::[cd 24 Au N N (List.replicate N ew),bE A1 n A N cA D N cD]):=aW;refine ar O (yx (v:=false) N aW O O (by omega) ?_);intro fj w6 ba;have ba:=HB (t:=2) N ba;have bG:St w w6 (tU A1 PU Au fj n A D N cA cD (gn n R B N N) (List.replicate N ew) (gy n R B N N)):=by
  rw [QA,QB];refine ba.perm ?_
  classical
  refine kN.2 fun z=>?_
  simp only [tU,aT,mb,kL,mE];omega
 clear ba aW aV aH aB h1;refine ar O (dQ O (aI O ?_));refine Cd.loop (α:=Nat×List aN) (fun z=> [(1,.pointer A1),(4,ak N),(5,.pointer PU),(6,.slice fj N N),(7,ak ((z.1:Int) - 1))]) (fun z w'=>z.1<=N/\z.2.length=N/\St w w' (tU A1 PU Au fj n A D N cA cD (gn n R B z.1 N) z.2 (gy n R B z.1 N))) (fun z=>z.1) (N,List.replicate N ew) (ajs O) ⟨bj _,by simp,bG⟩ ?_;clear bG;rintro⟨E',dG⟩ e w7 ⟨hE,vi,hS⟩;dsimp only at hE vi hS|-;refine bL O (aR _ O (fun h2=>?_) (fun h2=>?_))
 ·obtain⟨E,rfl⟩:∃E,E'=E+1:=⟨E' - 1,by omega⟩;have qU:E<N:=by omega
  rw [show((E+1:Nat):Int) - 1=(E:Int) by omega];have Bw:=hS.gW hR;have hal7:=qX (E+1) N;refine dA O ?_;refine kK [12] [yS (fj) (N) (N),yI ((E:Int)),yP (aJ (A1) 1),yS (A) (N) (cA),yI ((E:Int)),yP (aJ (A) ((E:Int)).toNat),yI (gi (R) ((E:Int))),yP (aJ (A1) 0),yI ((n:Int)),yI (((n:Int)) - ((1:Int))),yB (decide ((gi (R) ((E:Int)))=(((n:Int)) - ((1:Int))))),yP (aJ (fj) ((E:Int)).toNat),.pr (fun _ w'=>St w w' (tU A1 PU Au fj n A D N cA cD ((gn n R B (E+1) N).set E (decide (gi R E=(n:Int) - 1))) dG (gy n R B (E+1) N)))] (by kernel_rfl) (by kernel_rfl) (ly (ly (ly (ly (ly (ly (ly (ly (ly (ly (ly (ly (cI.2 ⟨Ye.cV (fun v w w' h hb=>h.aq hb),(fun _ h=>by cases h)⟩))))))))))))) ?_ ?_
  ·refine⟨bZ O,bZ O,cP fun _ _ hb _ _ _=>aX ((hS.rd 2 O).below hb) O (bK O O),cP fun _ _ hb _ _ _=>bn ((hS.rd 2 O).below hb) O (bK O O),bZ O,cP fun _ _ hb _ _ _=>aM (Bw.aq hb).2 O (bK O O),cP fun _ _ hb _ _ _=>bk (Bw.aq hb) O (bK O O),cP fun _ _ hb _ _ _=>aX ((hS.rd 2 O).below hb) O (bK O O),cP fun _ _ hb _ _ _=>iG ((hS.rd 2 O).below hb) O O O O O (bK O O),aP fun _ _=>dQ O (bK O O),bZ O,cP fun _ _ hb _ _ _=>aM ((hS.jG 0 O).aq hb).2 O (bK O O),?_,av⟩;refine kQ fun e1 w1 hb hp a6 hq=>?_
   exact tK 0 (hS.aq hb) O O O (by omega) fun w6 ba=>ao.n (fQ.st O ba)
  intro u w8 _ hu jZ hu3;have bS:=hu 12 _ O (by kernel_rfl);rw [Ro E qU,<-Rp E qU]at bS;clear hS hu jZ hu3;refine kc O (aK O (aI O ?_));refine Cd.loop (α:=Nat×List aN) (fun z=> [(1,.pointer A1),(4,ak N),(5,.pointer PU),(6,.slice fj N N),(7,ak E),(8,ak (z.1:Int))]) (fun z w'=> (E<z.1/\z.1<=N)/\z.2.length=N/\St w w' (tU A1 PU Au fj n A D N cA cD (gn n R B E z.1) z.2 (gy n R B E z.1))) (fun z=>N - z.1) (E+1,dG) (ajs O) ⟨⟨Nat.lt_succ_self _,by show E+1<=N;omega⟩,vi,bS⟩ ?_;clear bS vi dG;rintro⟨F,dG⟩ e w9 ⟨⟨yN,Y4⟩,vi,hS⟩;dsimp only at yN Y4 vi hS|-;refine bL O (aR _ O (fun h3=>?_) (fun h3=>?_))
  ·have hF:F<N:=by omega
   have sd:=hS.gW hR;have YX:=hS.bY JX;have hal9:=qX E F;have Kv:=GQ E F yN hF;have Eg:=cT F hF;have Lj:=Ru (E:Int) (F:Int);have iZ:=hP.ri (e:=(E:Int)) (by omega) (by omega);have h1:Rd w9 A1 3 (fun j=> [Value.int .i64 (n:Int),.slice A N cA,.slice D N cD].getD j undef):=hS.rd 2 O;have DS:gb (gn n R B E F) F=false\/(gb (gn n R B E F) F=true/\¬gi R F=gi R E+1)\/(gb (gn n R B E F) F=true/\gi R F=gi R E+1):=by
    cases gb (gn n R B E F) F<;>simp [Decidable.em,Classical.em]
    exact(Classical.em _).symm
   have mu:¬(dL n R B F/\(F:Int)∈jT R B E)->St w w9 (tU A1 PU Au fj n A D N cA cD (gn n R B E (F+1)) dG (gy n R B E (F+1))):=fun h=>by
    rw [VH h,ahv h];exact hS
   rcases DS with hg | ⟨hg,hr⟩ | ⟨hg,hr⟩
   ·
    have gV:¬(dL n R B F/\(F:Int)∈jT R B E):=fun h=>by
     rw [hg]at Kv;have:=eM h.1;rw [<-Kv]at this;cases this
    refine dA O (eY [xS (fj) (N) (N),xI ((F:Int)),xP (aJ (fj) ((F:Int)).toNat),xB (gb (gn n R B E F) ((F:Int))),xB (false),xU,xU,xU,xU,xU,xU,xU,xU,xU,xU,xU,xU,xB (false),xB (false),xU,xU,xU,xB (false)] O (fE O) ?_ ?_)
    ·exact⟨Dr O,Dr O,fun _ _ hb _ _=>aM ((hS.jG 0 O).aq hb).2 O Az,fun _ _ hb _ _=>rS ((hS.jG 0 O).aq hb) O (by omega) O O Az,fun _ _ _ _ _=>Dk O (by exact aO Value.bool (hg)),Dr O,Dr O,Dr O,Dr O,Dr O,Dr O,Dr O,Dr O,Dr O,Dr O,Dr O,Dr O,Dr O,fun _ _ _ _ _=>Dk O (by exact aO Value.bool (O)),Dr O,Dr O,Dr O,Dr O,av⟩
    intro u eL hb _;refine fR O (Cd.gh O ?_);refine aE O (aK O (aU O (tQ ?_)));exact⟨(F+1,dG),by show N - (F+1)<N - F;omega,(ajs O),⟨Nat.lt_succ_of_lt yN,hF⟩,vi,(mu gV).aq hb⟩
   ·have gV:¬(dL n R B F/\(F:Int)∈jT R B E):=fun h=>hr (Lj.1 h.2).2.1
    refine dA O ?_;refine eY [xS (fj) (N) (N),xI ((F:Int)),xP (aJ (fj) ((F:Int)).toNat),xB (gb (gn n R B E F) ((F:Int))),xB (true),xP (aJ (A1) 1),xS (A) (N) (cA),xI ((F:Int)),xP (aJ (A) ((F:Int)).toNat),xI (gi (R) ((F:Int))),xP (aJ (A1) 1),xS (A) (N) (cA),xI ((E:Int)),xP (aJ (A) ((E:Int)).toNat),xI (gi (R) ((E:Int))),xI ((gi (R) ((E:Int)))+ ((1:Int))),xB (decide ((gi (R) ((F:Int)))=((gi (R) ((E:Int)))+ ((1:Int))))),xB (decide ((gi (R) ((F:Int)))=((gi (R) ((E:Int)))+ ((1:Int))))),xB (false),xU,xU,xU,xB (false)] O (fE O) ?_ ?_
    ·exact⟨Dr O,Dr O,fun _ _ hb _ _=>aM ((hS.jG 0 O).aq hb).2 O Az,fun _ _ hb _ _=>rS ((hS.jG 0 O).aq hb) O (by omega) O O Az,fun _ _ _ _ _=>Dk O (by exact aO Value.bool (hg)),fun _ _ hb _ _=>ax O (aX (h1.below hb) O Az),fun _ _ hb _ _=>ax O (bn (h1.below hb) O Az),Dr O,fun _ _ hb _ _=>ax O (aM (sd.aq hb).2 O Az),fun _ _ hb _ _=>ax O (bk (sd.aq hb) O Az),fun _ _ hb _ _=>ax O (aX (h1.below hb) O Az),fun _ _ hb _ _=>ax O (bn (h1.below hb) O Az),Dr O,fun _ _ hb _ _=>ax O (aM (sd.aq hb).2 O Az),fun _ _ hb _ _=>ax O (bk (sd.aq hb) O Az),fun _ _ _ _ _=>ax O (aK O Az),Dr O,Dr O,fun _ _ _ _ _=>Dk O (by exact aO Value.bool (dE hr)),Dr O,Dr O,Dr O,Dr O,av⟩
    intro u eL hb _;refine fR O (Cd.gh O ?_);refine aE O (aK O (aU O (tQ ?_)));exact⟨(F+1,dG),by show N - (F+1)<N - F;omega,(ajs O),⟨Nat.lt_succ_of_lt yN,hF⟩,vi,(mu gV).aq hb⟩
   have ha:dL n R B F:=uy (Kv▸hg);refine dA O ?_;refine eY [xS (fj) (N) (N),xI ((F:Int)),xP (aJ (fj) ((F:Int)).toNat),xB (gb (gn n R B E F) ((F:Int))),xB (true),xP (aJ (A1) 1),xS (A) (N) (cA),xI ((F:Int)),xP (aJ (A) ((F:Int)).toNat),xI (gi (R) ((F:Int))),xP (aJ (A1) 1),xS (A) (N) (cA),xI ((E:Int)),xP (aJ (A) ((E:Int)).toNat),xI (gi (R) ((E:Int))),xI ((gi (R) ((E:Int)))+ ((1:Int))),xB (decide ((gi (R) ((F:Int)))=((gi (R) ((E:Int)))+ ((1:Int))))),xB (decide ((gi (R) ((F:Int)))=((gi (R) ((E:Int)))+ ((1:Int))))),xB (true),xI ((E:Int)),xI ((F:Int)),xB (decide ((E:Int)∈gl B F)),xB (decide ((E:Int)∈gl B F))] O (fE O) ?_ ?_
   ·refine⟨Dr O,Dr O,fun _ _ hb _ _=>aM ((hS.jG 0 O).aq hb).2 O Az,fun _ _ hb _ _=>rS ((hS.jG 0 O).aq hb) O (by omega) O O Az,fun _ _ _ _ _=>Dk O (by exact aO Value.bool (hg)),fun _ _ hb _ _=>ax O (aX (h1.below hb) O Az),fun _ _ hb _ _=>ax O (bn (h1.below hb) O Az),Dr O,fun _ _ hb _ _=>ax O (aM (sd.aq hb).2 O Az),fun _ _ hb _ _=>ax O (bk (sd.aq hb) O Az),fun _ _ hb _ _=>ax O (aX (h1.below hb) O Az),fun _ _ hb _ _=>ax O (bn (h1.below hb) O Az),Dr O,fun _ _ hb _ _=>ax O (aM (sd.aq hb).2 O Az),fun _ _ hb _ _=>ax O (bk (sd.aq hb) O Az),fun _ _ _ _ _=>ax O (aK O Az),Dr O,Dr O,fun _ _ _ _ _=>Dk O (by exact aO Value.bool (eM hr)),Dr O,Dr O,?_,Dr O,av⟩;intro e1 w1 hb hp a6;refine ax O ?_;refine aL (ur A1 A D cA cD n R rs B E F _ (by rw [hN,hle];exact Rd.below h1 hb) (by rw [hle];exact YX.aq hb) (by omega) Eg.1 (by have:=bU F hF;omega)) O ?_;rintro _ w2 ⟨rfl,au⟩;subst au;refine ao.n (d0 (by exact O))
   intro u eL hb _;have bQ:=hS.aq hb;refine fR O (aR _ O (fun h4=>?_) (fun h4=>?_))
   ·have ka:dL n R B F/\(F:Int)∈jT R B E:=⟨ha,Lj.2 ⟨by omega,hr,h4⟩⟩;have abE:=Lh E F;have mm:br eL Au N dG (gy n R B E F):=by
     have h9:=bQ.sub (show(aT 24 2 Au N N dG (gy n R B E F)).Sublist _ from(((qI _ _).cons _).cons _).cons _);exact h9.kb abE
    have wm:=(mm.at_ (i:=(E:Int)) (by omega) (by omega)).1;have ni:(rg dG E).n<=500:=by
     rw [<-wm,My (by omega)];unfold vr
     split
     ·exact a7 _
     refine nv (rM _ _) ?_;have:=pL (N:=R.length) (CG R B E).nodup fun x hx=> (l6.1 hx).1
     omega
    have P5:Rd eL PU 1 (fun _=> .slice Au N N):=Rd.one (bQ.rd 1 O);have q9:∀A9:aj,(az 2 A9 1 1 [(F:Int)]::tU A1 PU Au fj n A D N cA cD (gn n R B E F) dG (gy n R B E F))[4+1+E]?=some (az 2 (rg dG E).a (rg dG E).n (rg dG E).c (gl (gy n R B E F) E)):=fun A9=>Ez (t1:=24) (t2:=2) (A:=Au) (n:=N) (c:=N) (rs:=dG) (xss:=gy n R B E F) (pre:=[az 2 A9 1 1 [(F:Int)],gu 4 fj N N (gn n R B E F),Bx 25 1 PU [.slice Au N N],bE A1 n A N cA D N cD]) (ks:=[]) (i:=E) (by omega) (by omega)
    have qa:=fun(A9:aj) (s:aN) (xs:ai)=>Sj (t1:=24) (t2:=2) (A:=Au) (n:=N) (c:=N) (rs:=dG) (xss:=gy n R B E F) (ks:=[]) (pre:=[az 2 A9 1 1 [(F:Int)],gu 4 fj N N (gn n R B E F),Bx 25 1 PU [.slice Au N N],bE A1 n A N cA D N cD]) (i:=E) s xs (by omega) (by omega)
    clear hS;refine dA O ?_;refine kK [8,10] [yS Au N N,yI ((E:Int)),yS (Au) (N) (N),yI ((E:Int)),yP (aJ (Au) ((E:Int)).toNat),yS ((rg (dG) ((E:Int))).a) ((rg (dG) ((E:Int))).n) ((rg (dG) ((E:Int))).c),yI ((F:Int)),.pr (fun v w'=>∃A9,v= .slice A9 1 1/\St w w' (az 2 A9 1 1 [(F:Int)]::tU A1 PU Au fj n A D N cA cD (gn n R B E F) dG (gy n R B E F))),.pr (fun v w'=>∃AZ cZ,v= .slice AZ ((rg dG E).n+1) cZ/\St w w' (gu 4 fj N N (gn n R B E F)::Bx 25 1 PU [.slice Au N N]::bE A1 n A N cA D N cD::(cd 24 Au N N dG::(du 2 (dG.set E ⟨AZ,(rg dG E).n+1,cZ⟩) ((gy n R B E F).set E (gl (gy n R B E F) E++ [(F:Int)]))++ [])))),yP (aJ Au ((E:Int)).toNat),.pr (fun _ w'=>∃AZ cZ,St w w' (tU A1 PU Au fj n A D N cA cD (gn n R B E F) (dG.set E ⟨AZ,(rg dG E).n+1,cZ⟩) ((gy n R B E F).set E (gl (gy n R B E F) E++ [(F:Int)]))))] (by kernel_rfl) (by kernel_rfl) (ly (ly (ly (ly (ly (ly (ly (cI.2 ⟨Ye.cV (fun v w w' h hb=>by obtain⟨A9,hv,hT⟩:=h;exact⟨A9,hv,hT.aq hb⟩),(cI.2 ⟨Ye.cV (fun v w w' h hb=>by obtain⟨AZ,cZ,hv,hT⟩:=h;exact⟨AZ,cZ,hv,hT.aq hb⟩),(ly (cI.2 ⟨Ye.cV (fun v w w' h hb=>by obtain⟨AZ,cZ,hT⟩:=h;exact⟨AZ,cZ,hT.aq hb⟩),(fun _ h=>by cases h)⟩))⟩)⟩)))))))) ?_ ?_
    ·refine⟨?_,bZ O,cP fun _ _ hb _ _ _=>ajn (j:=0) (P5.below hb) (by exact aO Value.pointer (nY _).symm) O O O O (bK O O),bZ O,cP fun _ _ hb _ _ _=>aM (mm.top.aq hb).2 O (bK O O),cP fun _ _ hb _ _ _=>dI (mm.top.aq hb) O (bK O O),bZ O,?_,?_,?_,?_,av⟩
     ·intro e1 w1 cc eB cC fq hp a6 hq;show ao _ _ _ _ _ _ _;have hX:Rd w1 PU 1 (fun _=> .slice Au N N):=by { have cC:=pK cC (b:=1) (by kernel_rfl);rcases(show cc=0\/cc=1 by omega)with h | h; { exact Rd.below P5 (fq h) }; { subst h;obtain⟨AZ,cZ,_,hT⟩:=hq 8 _ _ (by kernel_rfl) (by kernel_rfl) (by kernel_rfl) rfl rfl (by kernel_rfl);exact Rd.one (hT.rd 1 rfl) } }
      refine ajn (j:=0) hX (by exact aO Value.pointer (nY _).symm) O O O O (ao.n (ig O (by exact O)))
     ·refine cP fun e1 w1 hb hp a6 hq=>?_
      exact eH (St.refl _) O O O fun A9 w9 au=>ao.n (gA.dn O au.below ⟨A9,O,(bQ.aq hb).call au⟩)
     ·refine kQ fun e1 w1 hb hp a6 hq=>?_
      obtain⟨A9,YO,hT⟩:=(hp 7 _ _ (by kernel_rfl) rfl rfl (by kernel_rfl));refine fN (4+1+E) hT (q9 A9) (hT.bI 0 O) O (by exact YO) O ?_;intro AZ cZ wZ hZ;have hZ:=(qa A9 ⟨AZ,(rg dG E).n+1,cZ⟩ (gl (gy n R B E F) E++ [(F:Int)]))▸hZ;exact ao.n (fQ.dn O ⟨AZ,cZ,O,hZ.tail⟩)
     ·intro e1 w1 cc eB cC fq hp a6 hq;show ao _ _ _ _ _ _ _;have hX:lQ w1 Au N dG:=by { have cC:=pK cC (b:=1) (by kernel_rfl);rcases(show cc=0\/cc=1 by omega)with h | h; { exact mm.top.aq (fq h) }; { subst h;obtain⟨AZ,cZ,_,hT⟩:=hq 8 _ _ (by kernel_rfl) (by kernel_rfl) (by kernel_rfl) rfl rfl (by kernel_rfl);exact hT.gQ 3 rfl } }
      refine aM hX.2 O (ao.n (ig O (by exact O)))
     refine qM 1 fun e1 w1 hp a6 hq=>?_
     have eP:=hp 8 _ _ (by kernel_rfl) O O (by kernel_rfl);obtain⟨AZ,cZ,YP,hT⟩:=eP;refine C5 (te:=24) (n:=N) (c:=N) (A:=Au) (xs:=dG) 3 hT O O (by exact YP) (by omega) ?_;intro wY hY;exact ao.n (fQ.st O ⟨AZ,cZ,hY⟩)
    intro u oI _ hu _ _;obtain⟨AZ,cZ,hT⟩:=hu 10 _ rfl (by kernel_rfl);rw [Ef E F qU ka]at hT;refine kc O (aM (hT.jG 0 O).2 O (tK 0 hT O O O (by omega) ?_));intro qD ib;rw [gG,QZ E F qU ka]at ib;refine ar O (aK O (aU O (tQ ?_)));exact⟨(F+1,_),by show N - (F+1)<N - F;omega,(ajs O),⟨Nat.lt_succ_of_lt yN,hF⟩,by simp [vi],ib⟩
   have gV:¬(dL n R B F/\(F:Int)∈jT R B E):=fun h=>h4 (Lj.1 h.2).2.2
   refine aE O (aK O (aU O (tQ ?_)));exact⟨(F+1,dG),by show N - (F+1)<N - F;omega,(ajs O),⟨Nat.lt_succ_of_lt yN,hF⟩,vi,(mu gV).aq hb⟩
  have hF:F=N:=by omega
  subst hF;refine bw O (bz (dh O (dQ O (aU O (tQ ?_)))));exact⟨(E,dG),by show E<E+1;omega,(ajs O),by show E<=F;omega,vi,hS⟩
 obtain rfl:E'=0:=by omega
 refine bw O (bz (dh O ?_));refine ao.new (z:= .slice none 0 0) hS O O fun PF w8 bS=>ar O (ao.new (z:= .nilFunc) bS O O ?_);intro PG w9 bH;refine ar O (Vh O O O O O (ao.st (i:=0) (j:=0) bH O (by exact aO Value.pointer (nY _).symm) O O (Nat.succ_pos _) ?_));intro eL bQ;have bQ:=(bQ.nil 2);clear bH bS hS;refine aI O (Cd.loop (α:=Nat×aj×Nat) (fun z=> [(1,.pointer A1),(4,ak N),(6,.slice fj N N),(9,.pointer PF),(10,.pointer PG),(11,.slice z.2.1 ((bN z.1).filter fun e=>decide (gi R e=0) && decide (dL n R B e)).length z.2.2),(85,ak N),(86,ak (z.1:Int))]) (fun z w'=>z.1<=N/\St w w' (az 2 z.2.1 ((bN z.1).filter fun e=>decide (gi R e=0) && decide (dL n R B e)).length z.2.2 ((bN z.1).filter fun e=>decide (gi R e=0) && decide (dL n R B e))::Bx 107 1 PG [.func (.func 108) #[] #[.pointer PF,.pointer A1,.pointer PG,.pointer PU]]::Bx 25 1 PF [.slice none 0 0]::tU A1 PU Au fj n A D N cA cD (gn n R B 0 N) dG (gy n R B 0 N))) (fun z=>N - z.1) (0,none,0) (ajs O) ⟨a7 _,bQ⟩ ?_);clear bQ;rintro⟨j,AF,cF⟩ e fI ⟨hj,hS⟩;dsimp only at hj hS|-;have iY:((bN j).filter fun e=>decide (gi R e=0) && decide (dL n R B e)).length<=500:=by
  refine nv (rM _ _) ?_;rw [bN,fk,pU];omega
 refine bL O (aR _ O (fun h3=>?_) (fun h3=>?_))
 ·have xH:j<N:=by omega
  have GA:=BI j xH;have yT:=hS.gW hR;have h1:Rd fI A1 3 (fun j=> [Value.int .i64 (n:Int),.slice A N cA,.slice D N cD].getD j undef):=hS.rd 5 O;have Pp:tL fI fj N (gn n R B 0 N):=hS.jG 3 O;have hfj:=mW j xH;have mu:¬(gi R j=0/\dL n R B j)->((bN (j+1)).filter fun e=>decide (gi R e=0) && decide (dL n R B e))=((bN j).filter fun e=>decide (gi R e=0) && decide (dL n R B e)):=fun h=>by
   rw [GA,aw h,fM]
  refine aE O (aX h1 O (bn h1 O (ar O (aM yT.2 O (bk yT O (ar O ?_))))));refine dp 95 O (fun h4=>?_) (fun h4=>?_)
  ·refine ax O (ar O (ax O (ar O (ax O ?_))));refine aM Pp.2 O (ax O (rS Pp O (by omega) O O (aI O ?_)));rw [hfj];refine aR _ O (fun h5=>?_) (fun h5=>?_)
   ·rw [ay ⟨h4,h5⟩]at GA;refine aE O (eH hS O O O ?_);intro A9 fZ dM;refine fN 1 dM O (dM.bI 0 O) O O O ?_;intro AZ cZ gM iV;have iV:=iV.tail;refine ar O (aK O (aU O (tQ ?_)));refine⟨(j+1,AZ,cZ),by show N - (j+1)<N - j;omega,⟨O,O,O,O,O,?_,O,O,av⟩,by show j+1<=N;omega,?_⟩
    ·show Value.slice _ _ _=_;rw [GA,cS];rfl
    show St w gM (az _ _ (((bN (j+1)).filter _).length) _ ((bN (j+1)).filter _)::_);rw [GA,cS];exact iV
   refine aE O (aK O (aU O (tQ ?_)));refine⟨(j+1,AF,cF),by show N - (j+1)<N - j;omega,⟨O,O,O,O,O,?_,O,O,av⟩,by show j+1<=N;omega,?_⟩
   ·show Value.slice _ _ _=_;rw [mu (fun h=>h5 h.2)]
   show St w fI (az _ _ (((bN (j+1)).filter _).length) _ ((bN (j+1)).filter _)::_);rw [mu (fun h=>h5 h.2)];exact hS
  refine aQ O (aQ O (aQ O (aQ O (aI O ?_))));refine Cd.gh O (aE O (aK O (aU O (tQ ?_))));refine⟨(j+1,AF,cF),by show N - (j+1)<N - j;omega,⟨O,O,O,O,O,?_,O,O,av⟩,by show j+1<=N;omega,?_⟩
  ·show Value.slice _ _ _=_;rw [mu (fun h=>h4 h.1)]
  show St w fI (az _ _ (((bN (j+1)).filter _).length) _ ((bN (j+1)).filter _)::_);rw [mu (fun h=>h4 h.1)];exact hS
 obtain rfl:j=N:=by omega
 rw [ub]at hS iY|-;generalize hfi:((tP R).filter fun f=>decide (dL n R B f))=fi at*;have aad:∀x∈fi,0<=x/\x< (j:Int):=fun x hx=>by
  rw [<-hfi]at hx;have:=(sT.1 (fT.1 hx).1).1;omega
 have mn:Rd fI PG 1 (fun _=> .func (.func 108) #[] #[.pointer PF,.pointer A1,.pointer PG,.pointer PU]):=Rd.one (hS.rd 1 O);have Zt:St w fI (om PF none 0 [] [] A1 n A j cA D j cD PG PU Au j j dG (gy n R B 0 j) [az 2 AF fi.length cF fi,gu 4 fj j j (gn n R B 0 j)]):=by
  have h9:=(hS.perm (show List.Perm _ (Bx 25 1 PF [.slice none 0 0]::(bE A1 n A j cA D j cD::Bx 107 1 PG [.func (.func 108) #[] #[.pointer PF,.pointer A1,.pointer PG,.pointer PU]]::Bx 25 1 PU [.slice Au j j]::(aT 24 2 Au j j dG (gy n R B 0 j)++ [az 2 AF fi.length cF fi,gu 4 fj j j (gn n R B 0 j)]))) from by
   classical
   refine kN.2 fun z=>?_
   simp only [tU,mb,kL,mE];omega))
  exact(h9.nil 24).perm (List.Perm.swap _ _ _)
 clear hS;have u6:∀e:Nat,e<j->(gl (gy n R B 0 j) e).length<=500/\∀x∈gl (gy n R B 0 j) e,0<=x/\x< (j:Int):=fun e he=>by
  rw [Rt e he];refine⟨nv (rM _ _) ?_,fun x hx=>?_⟩
  ·have:=pL (N:=R.length) (CG R B e).nodup fun x hx=> (l6.1 hx).1
   omega
  have:=(l6.1 (fT.1 hx).1).1;omega
 refine bw O (bz (dh O ?_));refine ao.ld mn (by exact aO Value.pointer (nY _).symm) (by decide) O O O ?_;refine ar O (aL (Ys w n (by omega) PF A1 A D PG PU Au j cA j cD j j dG (gy n R B 0 j) (Lh 0 j) (by omega) u6 (n - 1) 0 fi.length [] fi none AF 0 cF [az 2 AF fi.length cF fi,gu 4 fj j j (gn n R B 0 j)] _ none 0 [] [] O O (by omega) iY aad (fun _ _ _ _ _ _=>cn.nil) (fun w' A c rs F h=>Sl h) O (a7 _) Zt) O ?_);rintro _ fZ ⟨rfl,A',c',rs',fG,hS⟩;rw [List.nil_append,Qy]at fG hS;have dd:Rd fZ PF 1 (fun _=> .slice A' (cap (aD n R B)).length c'):=Rd.one (hS.rd 0 O);refine ar O (ajn (j:=0) dd (by exact aO Value.pointer (nY _).symm) O O O O ?_);refine bc O O (aI O ?_);have dt:=I4 (aD n R B);have Km:=FE (l:=aD n R B);refine aR _ O (fun h4=>?_) (fun h4=>?_)
 ·have gV:¬(aD n R B).length<=400:=fun h=>by have:=Km.2 h;omega
  refine eT O (zN O O ?_);unfold vK pW;rw [aw gV,aw gV];exact Fc.none hS
 have ka:(aD n R B).length<=400:=Km.1 (by omega);rw [yA (by omega)]at fG hS dd|-;refine aE O (ajn (j:=0) dd (by exact aO Value.pointer (nY _).symm) O O O O (bM O (zN O O ?_)));unfold vK pW;rw [ay ka,ay ka];exact⟨A',c',rs',O,fG,Vv (pre:=[]) (hS.sub ((qI _ _).cons _))⟩
theorem Wo(G X:ah):cap (cap G++X)=cap (G++X):=by
 unfold cap
 by_cases h:G.length<=401
 ·rw [jW h]
 rw [wT (by rw [oM];omega),wT (by omega),List.take_take,Nat.min_self]
section
variable (n:Nat) (R:ai) (B:ah)
def lW(st:ai)(m:Nat):ai:=(bN m).filter fun e=>decide (gi R e=(st.length:Int)/\dL n R B e/\(st.length=0\/gi st ((st.length:Int) - 1)∈gl B e))
def fC:Nat->ai->ah
 | 0,st=> [st]
 | k+1,st=> (lW n R B st R.length).flatMap fun e=>fC k (st++ [e])
end
section
variable {n:Nat} {R:ai} {B:ah}
theorem aes(st:ai)(m:Nat):lW n R B st (m+1)=if gi R m=(st.length:Int)/\dL n R B m/\(st.length=0\/gi st ((st.length:Int) - 1)∈gl B m)then lW n R B st m++ [(m:Int)]else lW n R B st m:=by
 have e9:bN (m+1)=bN m++ [(m:Int)]:=by
  unfold bN;rw [lN,jb];rfl
 unfold lW;rw [e9,sP]
 by_cases c:gi R m=(st.length:Int)/\dL n R B m/\(st.length=0\/gi st ((st.length:Int) - 1)∈gl B m)
 ·rw [ay c,yw (by simpa using c)];rfl
 rw [aw c,vB (by simpa using c)];simp
theorem Oe:∀(k:Nat) (st:ai) (e:Int),0<st.length->gi st ((st.length:Int) - 1)=e->(0<=e/\e<R.length)->gi R e=(st.length:Int) - 1->st.length+k=n->fC n R B k st=(mO R B k e).map (st++ ·)
 | 0,st,e,_,_,_,_,_=>by simp [fC,mO]
 | k+1,st,e,h0,hl,he,hr,hk=>by
  rw [fC,Uk (n:=n) (by omega) (by omega),List.map_flatMap];have hn:lW n R B st R.length=(jT R B e).filter fun f=>decide (dL n R B f):=by
   refine SA.eq (oL _ (ky _)) (oL _ (CG _ _ _)) fun y=>?_
   unfold lW;rw [fT,fT,gL,l6,kU,kU,hl];constructor
   ·rintro⟨h1,h2,h3,h4⟩;exact⟨⟨h1,by omega,h4.resolve_left (by omega)⟩,h3⟩
   ·rintro⟨⟨h1,h2,h4⟩,h3⟩;exact⟨h1,by omega,h3,.inr h4⟩
  rw [hn];refine Ds fun f hf=>?_
  have hf:=l6.1 (fT.1 hf).1;have hlen:(st++ [f]).length=st.length+1:=by simp
  rw [Oe k (st++ [f]) f (by omega) (by
   rw [hlen,show((st.length+1:Nat):Int) - 1=(st.length:Int) by omega,bO (by omega)];simp) hf.1 (by rw [hlen];omega) (by omega),List.map_map]
  refine od fun y _=>?_
  show(st++ [f])++y=st++ (f::y);rw [jy];rfl
theorem Xt(hn:1<=n):fC n R B n []=aD n R B:=by
 obtain⟨k,rfl⟩:∃k,n=k+1:=⟨n - 1,by omega⟩;rw [NB,fC];have hb:lW (k+1) R B [] R.length=(tP R).filter fun f=>decide (dL (k+1) R B f):=by
  refine SA.eq (oL _ (ky _)) (oL _ (oL _ (ky _))) fun y=>?_
  unfold lW;rw [fT,fT,gL,sT,kU,kU];exact⟨fun h=> ⟨⟨h.1,h.2.1⟩,h.2.2.1⟩,fun h=> ⟨h.1.1,h.1.2,h.2,.inl O⟩⟩
 rw [hb];refine Ds fun f hf=>?_
 have hf:=sT.1 (fT.1 hf).1;rw [List.nil_append,Oe k [f] f (by simp) (by simp [gi]) hf.1 (by rw [hf.2];rfl) (by simp;omega)]
 rfl
end
theorem EM{Q:jB}{e:Env}{w:aa}{F:List (Nat×ad)}(hM:Mt e F)(h:Q .normal (ext e F) w):Q .normal e w:=by rwa [yE hM]at h
theorem adS{w0 w:aa}{ks:List Ck}{t:ae}{A:aj}{n c:Nat}{xs:List Bool}(h:St w0 w ks)(hm:gu t A n c xs∈ks):tL w A n xs:=by
 obtain⟨i,hi,e⟩:=fJ.1 hm;exact h.jG i (by rw [fS hi,e])
theorem aeH{α:Type}(s m:α)(X K:List α):(s::m::(X++K)).Perm (m::((X++ [s])++K)):=by
 classical
 refine kN.2 fun z=>?_
 simp only [mb,kL,mE];omega
theorem aeJ{α:Type}(p s:α)(X K:List α):(p::s::(X++K)).Perm (X++ (p::s::K)):=by
 classical
 refine kN.2 fun z=>?_
 simp only [mb,kL];omega
theorem acW(w0:aa)(n:Nat)(AR AD:aj)(cR cD:Nat)(R:ai)(HX:List aN)(B:ah)(N:Nat)(hN:R.length=N)(hR:cn w0 AR N R)(hB:br w0 AD N HX B)(hP:gm n R B)(Aa:aj)(La:List Bool)(Br:rR N La (fun x=>dL n R B x)):
 ∀(k r:Nat) (st:ai) (As:aj) (cs:Nat) (fB:List Ck) (w:aa) (A:aj) (c:Nat) (rs:List aN) (F:ah),r+k=n->st.length=r->(∀x∈st,0<=x/\x< (N:Int))->gu 4 Aa N N La∈fB->rs.length=F.length->F.length<=401->
  St w0 w (az 2 As r cs st::(aT 24 2 A F.length c rs F++fB))->
  aG prog 180 [.agg #[ak n,.slice AR N cR,.slice AD N cD],.slice Aa N N,.slice As r cs,.slice A F.length c] w (fun v w'=>∃A' c' rs',v= .slice A' (cap (F++fC n R B k st)).length c'/\rs'.length=(cap (F++fC n R B k st)).length/\St w0 w' (aT 24 2 A' (cap (F++fC n R B k st)).length c' rs' (cap (F++fC n R B k st))++fB)):=by
 have hn:=hP.n1;have qZ:=hP.oQ;have hle:=hP.len;have cT:=fun(f:Nat) (h:f<R.length)=>hP.at_ (e:=(f:Int)) (by omega) (by omega)
 have bU:∀f:Nat,f<R.length->(gl B f).length<=500:=fun f h=>by
  have:=pL (N:=R.length) (cT f h).1.nodup fun x hx=>by have:=((cT f h).2.1 x hx).1;omega
  omega
 have iZ:=fun(x:Nat) (h:x<R.length)=>hP.ri (e:=(x:Int)) (by omega) (by omega)
 rw [hN]at qZ hle bU iZ;have Bs:=Br.1;intro k
 induction k with
 | zero=>
  intro r st As cs fB w A c rs F hk au xV Gi ic hF hS;refine bA func180 O ntmps180 O (cJ O) (a8 O (nw hS O O ?_));intro A4 w1 aA;refine ar O (bc O O (aI O ?_));refine aR _ O (fun h1=>?_) (fun h1=>?_)
  ·have hc:cap (F++fC n R B 0 st)=F:=by
    have h9:cap F=F:=yA hF;rw [FF (l:=F) _ (by rw [h9];omega),h9]
   refine eT O (gD O ?_);rw [hc];exact⟨A,c,rs,O,ic,aA.tail.tail⟩
  refine aE O (bc O O (ar O ?_));refine aX (aA.rd 0 O) O (iG (j:=0) (aA.rd 0 O) (by exact aO Value.pointer O) O O O O (aI O (CO O (by omega) ?_)));have hc:cap (F++fC n R B 0 st)=F++ [st]:=yA (by rw [fC,cS];show F.length+1<=401;omega);have aA:=aA.tail;refine aE O (kO aA O O O ?_);intro A9 w2 aB;refine mJ 2 aB O (aB.gQ 0 O) O O O (by omega) (by omega) O ?_;intro AZ cZ w3 aH;have aH:=aH.tail;refine bM O (gD O ?_);rw [hc];refine⟨AZ,cZ,rs++ [⟨As,r,cs⟩],by rw [cS];rfl,by simp [ic],?_⟩;have aV:St w0 w3 (az 2 As r cs st::cd 24 AZ (F.length+1) cZ (rs++ [⟨As,r,cs⟩])::(du 2 rs F++fB)):=aH;have aV:=aV.perm (aeH _ _ _ _);rw [<-qy ic]at aV;rw [cS];exact aV
 | succ k ih=>
  intro r st As cs fB w A c rs F hk au xV Gi ic hF hS;refine bA func180 O ntmps180 O (cJ O) (a8 O (nw hS O O ?_));intro A4 w1 aA;refine ar O (bc O O (aI O ?_));refine aR _ O (fun h1=>?_) (fun h1=>?_)
  ·have hc:cap (F++fC n R B (k+1) st)=F:=by
    have h9:cap F=F:=yA hF;rw [FF (l:=F) _ (by rw [h9];omega),h9]
   refine eT O (gD O ?_);rw [hc];exact⟨A,c,rs,O,ic,aA.tail.tail⟩
  refine aE O (bc O O (ar O ?_));refine aX (aA.rd 0 O) O (iG (j:=0) (aA.rd 0 O) (by exact aO Value.pointer O) O O O O (aI O (mD O (by omega) ?_)));have aA:St w0 w1 (bE A4 n AR N cR AD N cD::az 2 As r cs st::(aT 24 2 A F.length c rs F++fB)):=aA;have aB:=aA.perm (aeJ _ _ _ _);have J0:cap (F++ (lW n R B st 0).flatMap fun e=>fC n R B k (st++ [e]))=F:=by
   show cap (F++ [])=F;rw [fM,yA hF]
  clear aA hS;refine dA O ?_;refine Cd.loop (α:=Nat×aj×Nat×List aN) (fun z=> [(1,.slice Aa N N),(2,.slice As r cs),(3,.slice z.2.1 (cap (F++ (lW n R B st z.1).flatMap fun e=>fC n R B k (st++ [e]))).length z.2.2.1),(4,.pointer A4),(9,ak r),(10,ak (z.1:Int))])
   (fun z w'=>z.1<=N/\z.2.2.2.length=(cap (F++ (lW n R B st z.1).flatMap fun e=>fC n R B k (st++ [e]))).length/\St w0 w' (aT 24 2 z.2.1 (cap (F++ (lW n R B st z.1).flatMap fun e=>fC n R B k (st++ [e]))).length z.2.2.1 z.2.2.2 (cap (F++ (lW n R B st z.1).flatMap fun e=>fC n R B k (st++ [e])))++ (bE A4 n AR N cR AD N cD::az 2 As r cs st::fB))) (fun z=>N - z.1) (0,A,c,rs) ⟨rfl,rfl,aO (fun m:ah=>Value.slice A m.length c) J0.symm,rfl,rfl,rfl,av⟩ ⟨a7 _,by show rs.length=_;rw [J0];exact ic,by show St w0 w1 (aT _ _ A (cap _).length c rs (cap _)++_);rw [J0];exact aB⟩ ?_
  clear aB ic;rintro⟨q,A,c,rs⟩ e w2 ⟨hq,ic,hS⟩;dsimp only at hq ic hS|-;have iC:=aes (n:=n) (R:=R) (B:=B) st q;have dt:=I4 (F++ (lW n R B st q).flatMap fun e=>fC n R B k (st++ [e]));have DT:=Wo (F++ (lW n R B st q).flatMap fun e=>fC n R B k (st++ [e]));generalize hG:(F++ (lW n R B st q).flatMap fun e=>fC n R B k (st++ [e]))=G at*;have DR:∀ {w':aa} {A:aj} {c:Nat} {rs:List aN} {F:ah},St w0 w' (aT 24 2 A F.length c rs F++ (bE A4 n AR N cR AD N cD::az 2 As r cs st::fB))->Rd w' A4 3 (fun q=> [Value.int .i64 (n:Int),.slice AR N cR,.slice AD N cD].getD q undef):=fun h=> (h.sub (mH _ _)).rd 0 O
  have Kk:∀ {w':aa} {A:aj} {c:Nat} {rs:List aN} {F:ah},St w0 w' (aT 24 2 A F.length c rs F++ (bE A4 n AR N cR AD N cD::az 2 As r cs st::fB))->cn w' As r st:=fun h=> (h.sub (mH _ _)).bI 1 O
  have ub:∀ {w':aa} {A:aj} {c:Nat} {rs:List aN} {F:ah},St w0 w' (aT 24 2 A F.length c rs F++ (bE A4 n AR N cR AD N cD::az 2 As r cs st::fB))->tL w' Aa N La:=fun h=>adS h (List.mem_append_right _ (pj _ (pj _ Gi)))
  have s6:=DR hS;refine a8 O (aX s6 O (ajn (j:=1) s6 (by exact aO Value.pointer O) O O O O ?_));refine bc O O (aI O ?_);refine aR _ O (fun h3=>?_) (fun h3=>?_)
  ·have Q4:q<N:=by omega
   have dW:=hS.gW hR;have eF:=hS.bY hB;have jk:=Kk hS;have Bn:=ub hS;have D1:=Br.2 q Q4;have hriq:=iZ q Q4;have hrlq:=bU q (by omega);have Rc:=eF.at_ (i:=(q:Int)) (by omega) (by omega);have ni:=Rc.1;have mu:¬(gi R q=(st.length:Int)/\dL n R B q/\(st.length=0\/gi st ((st.length:Int) - 1)∈gl B q))->F++ ((lW n R B st (q+1)).flatMap fun e=>fC n R B k (st++ [e]))=G:=fun h=>by
    rw [iC,aw h];exact hG
   have DS:¬gi R q=(r:Int)\/(gi R q=(r:Int)/\gb La q=false)\/(gi R q=(r:Int)/\gb La q=true/\(r:Int)=0)\/(gi R q=(r:Int)/\gb La q=true/\¬(r:Int)=0):=by
    by_cases a:gi R q=(r:Int)
    ·cases gb La q
     ·exact .inr (.inl ⟨a,O⟩)
     ·by_cases b:(r:Int)=0
      ·exact .inr (.inr (.inl ⟨a,O,b⟩))
      ·exact .inr (.inr (.inr ⟨a,O,b⟩))
    ·exact .inl a
   rcases DS with a1 | ⟨a1,a2⟩ | ⟨a1,a2,a3⟩ | ⟨a1,a2,a3⟩
   ·--dup 4
    have fu:=mu (fun h=>a1 (by rw [h.1,au]));refine dA O (eY [xP (aJ (A4) 1),xS (AR) (N) (cR),xI ((q:Int)),xP (aJ (AR) ((q:Int)).toNat),xI (gi (R) ((q:Int))),xI ((r:Int)),xB (decide ((gi (R) ((q:Int)))=((r:Int)))),xB (false),xU,xU,xU,xU,xB (false),xB (false),xU,xU,xU,xU,xU,xU,xU,xU,xU,xU,xU,xU,xU,xU,xU,xB (false)] O (fE O) ?_ ?_)
    ·exact⟨fun _ _ hb _ _=>aX (s6.below hb) O Az,fun _ _ hb _ _=>bn (s6.below hb) O Az,Dr O,fun _ _ hb _ _=>aM (dW.aq hb).2 O Az,fun _ _ hb _ _=>bk (dW.aq hb) O Az,Dr O,Dr O,fun _ _ _ _ _=>Dk O (by exact aO Value.bool (dE a1)),Dr O,Dr O,Dr O,Dr O,Dr O,fun _ _ _ _ _=>Dk O (by exact aO Value.bool (O)),Dr O,Dr O,Dr O,Dr O,Dr O,Dr O,Dr O,Dr O,Dr O,Dr O,Dr O,Dr O,Dr O,Dr O,Dr O,Dr O,av⟩
    intro u w3 iJ _;refine fR O (Cd.gh O ?_);refine aE O (aK O (aU O (tQ ?_)));exact⟨(q+1,A,c,rs),by show N - (q+1)<N - q;omega,⟨O,O,aO (fun m:ah=>Value.slice A (cap m).length c) fu.symm,O,O,O,av⟩,by show q+1<=N;omega,by show rs.length=(cap _).length;rw [fu];exact ic,by show St w0 w3 (aT _ _ A (cap _).length c rs (cap _)++_);rw [fu];exact hS.aq iJ⟩
   ·have fu:=mu (fun h=>by have:=D1.2 h.2.1;rw [a2]at this;cases this);refine dA O (eY [xP (aJ (A4) 1),xS (AR) (N) (cR),xI ((q:Int)),xP (aJ (AR) ((q:Int)).toNat),xI (gi (R) ((q:Int))),xI ((r:Int)),xB (decide ((gi (R) ((q:Int)))=((r:Int)))),xB (true),xS (Aa) (N) (N),xI ((q:Int)),xP (aJ (Aa) ((q:Int)).toNat),xB (gb (La) ((q:Int))),xB (gb (La) ((q:Int))),xB (false),xU,xU,xU,xU,xU,xU,xU,xU,xU,xU,xU,xU,xU,xU,xU,xB (false)] O (fE O) ?_ ?_)
    ·exact⟨fun _ _ hb _ _=>aX (s6.below hb) O Az,fun _ _ hb _ _=>bn (s6.below hb) O Az,Dr O,fun _ _ hb _ _=>aM (dW.aq hb).2 O Az,fun _ _ hb _ _=>bk (dW.aq hb) O Az,Dr O,Dr O,fun _ _ _ _ _=>Dk O (by exact aO Value.bool (eM a1)),Dr O,Dr O,fun _ _ hb _ _=>ax O (aM (Bn.aq hb).2 O Az),fun _ _ hb _ _=>ax O (rS (Bn.aq hb) O (by omega) O O Az),Dr O,fun _ _ _ _ _=>Dk O (by exact aO Value.bool (a2)),Dr O,Dr O,Dr O,Dr O,Dr O,Dr O,Dr O,Dr O,Dr O,Dr O,Dr O,Dr O,Dr O,Dr O,Dr O,Dr O,av⟩
    intro u w3 iJ _;refine fR O (Cd.gh O ?_);refine aE O (aK O (aU O (tQ ?_)));exact⟨(q+1,A,c,rs),by show N - (q+1)<N - q;omega,⟨O,O,aO (fun m:ah=>Value.slice A (cap m).length c) fu.symm,O,O,O,av⟩,by show q+1<=N;omega,by show rs.length=(cap _).length;rw [fu];exact ic,by show St w0 w3 (aT _ _ A (cap _).length c rs (cap _)++_);rw [fu];exact hS.aq iJ⟩
   ·have ka:gi R q=(st.length:Int)/\dL n R B q/\(st.length=0\/gi st ((st.length:Int) - 1)∈gl B q):=⟨by omega,D1.1 a2,.inl (by omega)⟩;refine dA O (eY [xP (aJ (A4) 1),xS (AR) (N) (cR),xI ((q:Int)),xP (aJ (AR) ((q:Int)).toNat),xI (gi (R) ((q:Int))),xI ((r:Int)),xB (decide ((gi (R) ((q:Int)))=((r:Int)))),xB (true),xS (Aa) (N) (N),xI ((q:Int)),xP (aJ (Aa) ((q:Int)).toNat),xB (gb (La) ((q:Int))),xB (gb (La) ((q:Int))),xB (true),xI ((r:Int)),xB (decide (((r:Int))=((0:Int)))),xB (true),xU,xU,xU,xU,xU,xU,xU,xU,xU,xU,xU,xB (true),xB (true)] O (fE O) ?_ ?_)
    ·exact⟨fun _ _ hb _ _=>aX (s6.below hb) O Az,fun _ _ hb _ _=>bn (s6.below hb) O Az,Dr O,fun _ _ hb _ _=>aM (dW.aq hb).2 O Az,fun _ _ hb _ _=>bk (dW.aq hb) O Az,Dr O,Dr O,fun _ _ _ _ _=>Dk O (by exact aO Value.bool (eM a1)),Dr O,Dr O,fun _ _ hb _ _=>ax O (aM (Bn.aq hb).2 O Az),fun _ _ hb _ _=>ax O (rS (Bn.aq hb) O (by omega) O O Az),Dr O,fun _ _ _ _ _=>Dk O (by exact aO Value.bool (a2)),Dr O,Dr O,fun _ _ _ _ _=>Dk O (by exact aO Value.bool (eM a3)),Dr O,Dr O,Dr O,Dr O,Dr O,Dr O,Dr O,Dr O,Dr O,Dr O,Dr O,Dr O,Dr O,av⟩
    intro u w3 iJ _;have hS:=hS.aq iJ;refine fR O (Cd.jE O ?_);have Ea:=iC;rw [ay ka]at Ea;have J1:F++ ((lW n R B st (q+1)).flatMap fun e=>fC n R B k (st++ [e]))=G++fC n R B k (st++ [(q:Int)]):=by
     rw [Ea,List.flatMap_append,<-jy,hG];simp
    have Kl:=DT (fC n R B k (st++ [(q:Int)]));have K9:∀x∈st++ [(q:Int)],0<=x/\x< (N:Int):=fun x hx=>by
     rcases jz.1 hx with h | h
     ·exact xV x h
     ·obtain rfl:=gk.1 h;omega
    generalize hH:cap G=H at*;refine kK [6,8] [.ex (.agg #[ak n,.slice AR N cR,.slice AD N cD]),yS (Aa) (N) (N),yS (As) (r) (cs),.pr (fun v w'=>∃A9 c9,v= .slice A9 r c9/\St w0 w' (az 2 A9 r c9 st::(aT 24 2 A H.length c rs H++ (bE A4 n AR N cR AD N cD::az 2 As r cs st::fB)))),yI ((q:Int)),.pr (fun v w'=>∃A9,v= .slice A9 1 1/\cn w' A9 1 [(q:Int)]),.pr (fun v w'=>∃AZ cZ,v= .slice AZ (r+1) cZ/\St w0 w' (az 2 AZ (r+1) cZ (st++ [(q:Int)])::(aT 24 2 A H.length c rs H++ (bE A4 n AR N cR AD N cD::az 2 As r cs st::fB)))),yS (A) (H.length) (c),.pr (fun v w'=>∃A' c' rs',v= .slice A' (cap (G++fC n R B k (st++ [(q:Int)]))).length c'/\rs'.length=(cap (G++fC n R B k (st++ [(q:Int)]))).length/\St w0 w' (aT 24 2 A' (cap (G++fC n R B k (st++ [(q:Int)]))).length c' rs' (cap (G++fC n R B k (st++ [(q:Int)])))++ (bE A4 n AR N cR AD N cD::az 2 As r cs st::fB))),.pr (fun v w'=>∃A' c' rs',v= .slice A' (cap (G++fC n R B k (st++ [(q:Int)]))).length c'/\rs'.length=(cap (G++fC n R B k (st++ [(q:Int)]))).length/\St w0 w' (aT 24 2 A' (cap (G++fC n R B k (st++ [(q:Int)]))).length c' rs' (cap (G++fC n R B k (st++ [(q:Int)])))++ (bE A4 n AR N cR AD N cD::az 2 As r cs st::fB)))] (by kernel_rfl) (by kernel_rfl) (ly (ly (ly (cI.2 ⟨Ye.cV (fun v w w' h hb=>by obtain⟨A9,c9,hv,hT⟩:=h;exact⟨A9,c9,hv,hT.aq hb⟩),(ly (cI.2 ⟨Ye.cV (fun v w w' h hb=>by obtain⟨A9,hv,hT⟩:=h;exact⟨A9,hv,hT.aq hb⟩),(cI.2 ⟨Ye.cV (fun v w w' h hb=>by obtain⟨AZ,cZ,hv,hT⟩:=h;exact⟨AZ,cZ,hv,hT.aq hb⟩),(ly (cI.2 ⟨Ye.cV (fun v w w' h hb=>by obtain⟨A',c',rs',hv,fG,hT⟩:=h;exact⟨A',c',rs',hv,fG,hT.aq hb⟩),(cI.2 ⟨Ye.cV (fun v w w' h hb=>by obtain⟨A',c',rs',hv,fG,hT⟩:=h;exact⟨A',c',rs',hv,fG,hT.aq hb⟩),(fun _ h=>by cases h)⟩)⟩))⟩)⟩))⟩)))) ?_ ?_
    ·refine⟨?_,bZ O,bZ O,?_,bZ O,?_,?_,?_,?_,?_,av⟩
     ·intro e1 w1 cc eB cC fq hp a6 hq;show ao _ _ _ _ _ _ _;have hX:Rd w1 A4 3 (fun q=> [Value.int .i64 (n:Int),.slice AR N cR,.slice AD N cD].getD q undef):=by { have cC:=pK cC (b:=1) (by kernel_rfl);rcases(show cc=0\/cc=1 by omega)with h | h; { exact Rd.below (DR hS) (fq h) }; { subst h;obtain⟨AZ,cZ,_,hT⟩:=hq 6 _ _ (by kernel_rfl) (by kernel_rfl) (by kernel_rfl) rfl rfl (by kernel_rfl);exact DR hT.tail } }
      refine ao.b7 2 hX O O O (ao.n (ig O (by exact O)))
     ·refine cP fun e1 w1 hb hp a6 hq=>?_
      refine aL (Hu As r cs st _ (Kk (hS.aq hb)) (by omega)) O ?_;rintro _ w9 ⟨A9,c9,rfl,gO⟩;exact ao.n (gA.dn O gO.below ⟨A9,c9,O,(hS.aq hb).call gO⟩)
     ·intro e1 w1 cc eB cC fq hp a6 hq;show ao _ _ _ _ _ _ _;exact eH (St.refl _) O O O fun A9 w9 gO=>ao.n (gA.dn O gO.below ⟨A9,O,gO.bI 0 O⟩)
     ·refine kQ fun e1 w1 hb hp a6 hq=>?_
      obtain⟨A8,c8,JT,hT⟩:=(hp 3 _ _ (by kernel_rfl) rfl rfl (by kernel_rfl));obtain⟨A9,Dz,pz⟩:=(hp 5 _ _ (by kernel_rfl) rfl rfl (by kernel_rfl));refine fN 0 hT O pz (by exact JT) (by exact Dz) O ?_;intro AZ cZ wZ hZ;exact ao.n (fQ.dn O ⟨AZ,cZ,O,hZ⟩)
     ·intro e1 w1 cc eB cC fq hp a6 hq;show ao _ _ _ _ _ _ _;refine tJ O (by exact a6 9 _ O (by kernel_rfl)) O (ao.n (ig O (by exact O)))
     ·refine qM 1 fun e1 w1 hp a6 hq=>?_
      have eP:=hp 6 _ _ (by kernel_rfl) O O (by kernel_rfl);obtain⟨AZ,cZ,DA,hT⟩:=(hp 6 _ _ (by kernel_rfl) rfl rfl (by kernel_rfl));refine ajj (ih (r+1) (st++ [(q:Int)]) AZ cZ (bE A4 n AR N cR AD N cD::az 2 As r cs st::fB) _ A c rs H (by omega) (by rw [cS,au];rfl) K9 (pj _ (pj _ Gi)) ic (by omega) hT) O (by exact aO (fun v=> [Value.agg #[ak n,.slice AR N cR,.slice AD N cD],.slice Aa N N,v,.slice A H.length c]) DA) O ?_;rintro _ w9 ⟨A',c',rs',rfl,fG,se⟩;rw [Kl]at fG se|-;exact ao.n (fQ.dn O ⟨A',c',rs',O,fG,se⟩)
     ·refine dP 2 fun e1 w1 hp a6 hq=>?_
      have eP:=hp 8 _ _ (by kernel_rfl) O O (by kernel_rfl);obtain⟨A',c',rs',JU,fG,hT⟩:=(hp 8 _ _ (by kernel_rfl) rfl rfl (by kernel_rfl));refine tJ O (by exact JU) O (ao.n ?_);exact gA.dn O (Below.refl _ _) ⟨A',c',rs',O,fG,hT⟩
    intro u4 w4 _ Lg _ _;obtain⟨A',c',rs',xX,fG,hT⟩:=Lg 9 _ rfl (by kernel_rfl);rw [<-J1]at xX fG hT;refine EM (F:=[(1,.slice Aa N N),(2,.slice As r cs),(3,.slice A' (cap (F++ ((lW n R B st (q+1)).flatMap fun e=>fC n R B k (st++ [e])))).length c'),(4,.pointer A4),(9,ak r),(10,ak q)]) ⟨O,O,xX,O,O,O,av⟩ (kc O (aK O (aU O (tQ ?_))));exact⟨(q+1,A',c',rs'),by show N - (q+1)<N - q;omega,(ajs O),by show q+1<=N;omega,fG,hT⟩
   ·refine dA O ?_;refine eY [xP (aJ (A4) 1),xS (AR) (N) (cR),xI ((q:Int)),xP (aJ (AR) ((q:Int)).toNat),xI (gi (R) ((q:Int))),xI ((r:Int)),xB (decide ((gi (R) ((q:Int)))=((r:Int)))),xB (true),xS (Aa) (N) (N),xI ((q:Int)),xP (aJ (Aa) ((q:Int)).toNat),xB (gb (La) ((q:Int))),xB (gb (La) ((q:Int))),xB (true),xI ((r:Int)),xB (decide (((r:Int))=((0:Int)))),xB (false),xP (aJ (A4) 2),xS (AD) (N) (cD),xI ((q:Int)),xP (aJ (AD) ((q:Int)).toNat),xS ((rg (HX) ((q:Int))).a) ((rg (HX) ((q:Int))).n) ((rg (HX) ((q:Int))).c),xS (As) (r) (cs),xI ((r:Int)),xI (((r:Int)) - ((1:Int))),xP (aJ (As) (((r:Int)) - ((1:Int))).toNat),xI (gi (st) (((r:Int)) - ((1:Int)))),xB (decide (gi st ((r:Int) - 1)∈gl B q)),xB (decide (gi st ((r:Int) - 1)∈gl B q)),xB (decide (gi st ((r:Int) - 1)∈gl B q))] O (fE O) ?_ ?_
    ·refine⟨fun _ _ hb _ _=>aX (s6.below hb) O Az,fun _ _ hb _ _=>bn (s6.below hb) O Az,Dr O,fun _ _ hb _ _=>aM (dW.aq hb).2 O Az,fun _ _ hb _ _=>bk (dW.aq hb) O Az,Dr O,Dr O,fun _ _ _ _ _=>Dk O (by exact aO Value.bool (eM a1)),Dr O,Dr O,fun _ _ hb _ _=>ax O (aM (Bn.aq hb).2 O Az),fun _ _ hb _ _=>ax O (rS (Bn.aq hb) O (by omega) O O Az),Dr O,fun _ _ _ _ _=>Dk O (by exact aO Value.bool (a2)),Dr O,Dr O,fun _ _ _ _ _=>Dk O (by exact aO Value.bool (dE a3)),fun _ _ hb _ _=>ax O (aX (s6.below hb) O Az),fun _ _ hb _ _=>ax O (bn (s6.below hb) O Az),Dr O,fun _ _ hb _ _=>ax O (aM (eF.top.aq hb).2 O Az),fun _ _ hb _ _=>ax O (dI (eF.top.aq hb) O Az),Dr O,Dr O,fun _ _ _ _ _=>ax O (dQ O Az),fun _ _ hb _ _=>ax O (aM (jk.aq hb).2 O Az),fun _ _ hb _ _=>ax O (bk (jk.aq hb) O Az),?_,Dr O,Dr O,av⟩
     ·intro e1 w1 hb hp a6;refine ax O (aL (Ht _ _ _ _ _ _ (Rc.aq hb) (by omega)) O ?_);rintro _ w2 ⟨rfl,au⟩;subst au;refine ao.n (d0 (by exact O))
    intro u w3 iJ _;have hS:=hS.aq iJ;refine fR O (aR _ O (fun h5=>?_) (fun h5=>?_))
    ·have ka:gi R q=(st.length:Int)/\dL n R B q/\(st.length=0\/gi st ((st.length:Int) - 1)∈gl B q):=⟨by omega,D1.1 a2,.inr (by rw [au];exact h5)⟩;have Ea:=iC;rw [ay ka]at Ea;have J1:F++ ((lW n R B st (q+1)).flatMap fun e=>fC n R B k (st++ [e]))=G++fC n R B k (st++ [(q:Int)]):=by
      rw [Ea,List.flatMap_append,<-jy,hG];simp
     have Kl:=DT (fC n R B k (st++ [(q:Int)]));have K9:∀x∈st++ [(q:Int)],0<=x/\x< (N:Int):=fun x hx=>by
      rcases jz.1 hx with h | h
      ·exact xV x h
      ·obtain rfl:=gk.1 h;omega
     generalize hH:cap G=H at*;refine kK [6,8] [.ex (.agg #[ak n,.slice AR N cR,.slice AD N cD]),yS (Aa) (N) (N),yS (As) (r) (cs),.pr (fun v w'=>∃A9 c9,v= .slice A9 r c9/\St w0 w' (az 2 A9 r c9 st::(aT 24 2 A H.length c rs H++ (bE A4 n AR N cR AD N cD::az 2 As r cs st::fB)))),yI ((q:Int)),.pr (fun v w'=>∃A9,v= .slice A9 1 1/\cn w' A9 1 [(q:Int)]),.pr (fun v w'=>∃AZ cZ,v= .slice AZ (r+1) cZ/\St w0 w' (az 2 AZ (r+1) cZ (st++ [(q:Int)])::(aT 24 2 A H.length c rs H++ (bE A4 n AR N cR AD N cD::az 2 As r cs st::fB)))),yS (A) (H.length) (c),.pr (fun v w'=>∃A' c' rs',v= .slice A' (cap (G++fC n R B k (st++ [(q:Int)]))).length c'/\rs'.length=(cap (G++fC n R B k (st++ [(q:Int)]))).length/\St w0 w' (aT 24 2 A' (cap (G++fC n R B k (st++ [(q:Int)]))).length c' rs' (cap (G++fC n R B k (st++ [(q:Int)])))++ (bE A4 n AR N cR AD N cD::az 2 As r cs st::fB))),.pr (fun v w'=>∃A' c' rs',v= .slice A' (cap (G++fC n R B k (st++ [(q:Int)]))).length c'/\rs'.length=(cap (G++fC n R B k (st++ [(q:Int)]))).length/\St w0 w' (aT 24 2 A' (cap (G++fC n R B k (st++ [(q:Int)]))).length c' rs' (cap (G++fC n R B k (st++ [(q:Int)])))++ (bE A4 n AR N cR AD N cD::az 2 As r cs st::fB)))] (by kernel_rfl) (by kernel_rfl) (ly (ly (ly (cI.2 ⟨Ye.cV (fun v w w' h hb=>by obtain⟨A9,c9,hv,hT⟩:=h;exact⟨A9,c9,hv,hT.aq hb⟩),(ly (cI.2 ⟨Ye.cV (fun v w w' h hb=>by obtain⟨A9,hv,hT⟩:=h;exact⟨A9,hv,hT.aq hb⟩),(cI.2 ⟨Ye.cV (fun v w w' h hb=>by obtain⟨AZ,cZ,hv,hT⟩:=h;exact⟨AZ,cZ,hv,hT.aq hb⟩),(ly (cI.2 ⟨Ye.cV (fun v w w' h hb=>by obtain⟨A',c',rs',hv,fG,hT⟩:=h;exact⟨A',c',rs',hv,fG,hT.aq hb⟩),(cI.2 ⟨Ye.cV (fun v w w' h hb=>by obtain⟨A',c',rs',hv,fG,hT⟩:=h;exact⟨A',c',rs',hv,fG,hT.aq hb⟩),(fun _ h=>by cases h)⟩)⟩))⟩)⟩))⟩)))) ?_ ?_
     ·refine⟨?_,bZ O,bZ O,?_,bZ O,?_,?_,?_,?_,?_,av⟩
      ·intro e1 w1 cc eB cC fq hp a6 hq;show ao _ _ _ _ _ _ _;have hX:Rd w1 A4 3 (fun q=> [Value.int .i64 (n:Int),.slice AR N cR,.slice AD N cD].getD q undef):=by { have cC:=pK cC (b:=1) (by kernel_rfl);rcases(show cc=0\/cc=1 by omega)with h | h; { exact Rd.below (DR hS) (fq h) }; { subst h;obtain⟨AZ,cZ,_,hT⟩:=hq 6 _ _ (by kernel_rfl) (by kernel_rfl) (by kernel_rfl) rfl rfl (by kernel_rfl);exact DR hT.tail } }
       refine ao.b7 2 hX O O O (ao.n (ig O (by exact O)))
      ·refine cP fun e1 w1 hb hp a6 hq=>?_
       refine aL (Hu As r cs st _ (Kk (hS.aq hb)) (by omega)) O ?_;rintro _ w9 ⟨A9,c9,rfl,gO⟩;exact ao.n (gA.dn O gO.below ⟨A9,c9,O,(hS.aq hb).call gO⟩)
      ·intro e1 w1 cc eB cC fq hp a6 hq;show ao _ _ _ _ _ _ _;exact eH (St.refl _) O O O fun A9 w9 gO=>ao.n (gA.dn O gO.below ⟨A9,O,gO.bI 0 O⟩)
      ·refine kQ fun e1 w1 hb hp a6 hq=>?_
       obtain⟨A8,c8,JT,hT⟩:=(hp 3 _ _ (by kernel_rfl) rfl rfl (by kernel_rfl));obtain⟨A9,Dz,pz⟩:=(hp 5 _ _ (by kernel_rfl) rfl rfl (by kernel_rfl));refine fN 0 hT O pz (by exact JT) (by exact Dz) O ?_;intro AZ cZ wZ hZ;exact ao.n (fQ.dn O ⟨AZ,cZ,O,hZ⟩)
      ·intro e1 w1 cc eB cC fq hp a6 hq;show ao _ _ _ _ _ _ _;refine tJ O (by exact a6 9 _ O (by kernel_rfl)) O (ao.n (ig O (by exact O)))
      ·refine qM 1 fun e1 w1 hp a6 hq=>?_
       have eP:=hp 6 _ _ (by kernel_rfl) O O (by kernel_rfl);obtain⟨AZ,cZ,DA,hT⟩:=(hp 6 _ _ (by kernel_rfl) rfl rfl (by kernel_rfl));refine ajj (ih (r+1) (st++ [(q:Int)]) AZ cZ (bE A4 n AR N cR AD N cD::az 2 As r cs st::fB) _ A c rs H (by omega) (by rw [cS,au];rfl) K9 (pj _ (pj _ Gi)) ic (by omega) hT) O (by exact aO (fun v=> [Value.agg #[ak n,.slice AR N cR,.slice AD N cD],.slice Aa N N,v,.slice A H.length c]) DA) O ?_;rintro _ w9 ⟨A',c',rs',rfl,fG,se⟩;rw [Kl]at fG se|-;exact ao.n (fQ.dn O ⟨A',c',rs',O,fG,se⟩)
      ·refine dP 2 fun e1 w1 hp a6 hq=>?_
       have eP:=hp 8 _ _ (by kernel_rfl) O O (by kernel_rfl);obtain⟨A',c',rs',JU,fG,hT⟩:=(hp 8 _ _ (by kernel_rfl) rfl rfl (by kernel_rfl));refine tJ O (by exact JU) O (ao.n ?_);exact gA.dn O (Below.refl _ _) ⟨A',c',rs',O,fG,hT⟩
     intro u4 w4 _ Lg _ _;obtain⟨A',c',rs',xX,fG,hT⟩:=Lg 9 _ rfl (by kernel_rfl);rw [<-J1]at xX fG hT;refine EM (F:=[(1,.slice Aa N N),(2,.slice As r cs),(3,.slice A' (cap (F++ ((lW n R B st (q+1)).flatMap fun e=>fC n R B k (st++ [e])))).length c'),(4,.pointer A4),(9,ak r),(10,ak q)]) ⟨O,O,xX,O,O,O,av⟩ (kc O (aK O (aU O (tQ ?_))));exact⟨(q+1,A',c',rs'),by show N - (q+1)<N - q;omega,(ajs O),by show q+1<=N;omega,fG,hT⟩
    ·have fu:=mu (fun h=>by rcases h.2.2 with h6 | h6; { omega }; { rw [au]at h6;exact h5 h6 });refine aE O (aK O (aU O (tQ ?_)));exact⟨(q+1,A,c,rs),by show N - (q+1)<N - q;omega,⟨O,O,aO (fun m:ah=>Value.slice A (cap m).length c) fu.symm,O,O,O,av⟩,by show q+1<=N;omega,by show rs.length=(cap _).length;rw [fu];exact ic,by show St w0 w3 (aT _ _ A (cap _).length c rs (cap _)++_);rw [fu];exact hS⟩
  ·have xQ:q=N:=by omega
   subst xQ;have mW:F++fC n R B (k+1) st=G:=by rw [<-hG,fC,hN]
   refine bw O (bz (gE O ?_));refine gD O ?_;rw [mW];exact⟨A,c,rs,O,ic,hS.sub ((jV _).append (((jV fB).cons _).cons _))⟩
theorem St.merge{w0 w:aa}{ks oy:List Ck}(h:St w0 w ks)(h':St w0 w oy)(hk:∀k∈ks,eG k.vs=false)(eN:∀k∈oy,eG k.vs=false)(he:∀k∈ks,∀k'∈oy,k.e≠k'.e):St w0 w (ks++oy):=by
 refine⟨h.below,fun k hm=>?_,?_⟩
 ·rcases jz.1 hm with hm | hm
  ·exact h.own k hm
  exact h'.own k hm
 rw [List.filterMap_append,List.nodup_append];refine⟨h.apart,h'.apart,fun a ha b hb=>?_⟩;rintro rfl;obtain⟨k,hm,KF⟩:=List.mem_filterMap.1 ha;obtain⟨k',iO,qi⟩:=List.mem_filterMap.1 hb;have one:∀ {q:Ck},Ah w0.heap.size w q->q.ik=some a->∃cur,w.heap[a]?=some (.cells cur q.e (0,0)):=fun {q} ho hq=>by
  obtain⟨_,_,_,⟨h1,_⟩ | ⟨g,o,cur,h1,_,h2,_⟩⟩:=ho
  ·unfold Ck.ik at hq;rw [h1]at hq;cases hq
  unfold Ck.ik at hq;rw [h1]at hq;obtain rfl:g=a:=oh hq;exact⟨cur,h2⟩
 obtain⟨c1,e1⟩:=one ((h.own k hm).Mv (hk k hm)) KF;obtain⟨c2,e2⟩:=one ((h'.own k' iO).Mv (eN k' iO)) qi;rw [e1]at e2;injection e2 with e2
 injection e2 with _ e2 _
 exact he k hm k' iO e2
theorem Me{t:ae}:∀ {rs:List aN} {xss:ah},∀k∈du t rs xss,eG k.vs=false/\k.e=t
 | [],_,k,h=>by simp [du]at h
 | _::_,[],k,h=>by simp [du]at h
 | r::rs,x::xss,k,h=>by
  simp only [du,jq]at h;rcases h with rfl | h
  ·exact⟨sA _,O⟩
  ·exact Me k h
theorem adR{t1 t2:ae}{A:aj}{n c:Nat}{rs:List aN}{xss:ah}:∀k∈aT t1 t2 A n c rs xss++ [],eG k.vs=false/\(k.e=t1\/k.e=t2):=fun k h=>by
 rw [fM]at h;rcases jq.1 h with rfl | h
 ·exact⟨xZ _,.inl O⟩
 exact⟨(Me k h).1,.inr (Me k h).2⟩
def CM(L:ai)(w:aa)(v:ad)(w':aa):Prop:=∃A' c',v= .slice A' L.length c'/\St w w' [az 2 A' L.length c' L]
theorem CE{xs:ai}{j:Nat}(h:j<xs.length):xs.take (j+1)=xs.take j++ [gi xs j]:=by
 rw [rQ h,bO h]
theorem acg(n:Int)(A D:aj)(cA N m cD:Nat)(Af:aj)(nf cf:Nat)(rs:List aN)(fl:ah)(w:aa)(hF:br w Af nf rs fl)(hN:N<=500)(hr:∀l∈fl,l.length<=1000/\∀x∈l,0<=x/\x< (N:Int))(B6:nf<=100000):
 aG prog 62 [.agg #[ak n,.slice A N cA,.slice D m cD],.slice Af nf cf] w (fun v w'=>∃b:Bool,v= .bool b/\(b=true↔∀x:Int,0<=x->x< (N:Int)->∃l∈fl,x∈l)/\St w w' []):=by
 have iY:=hF.len;refine bA func62 O ntmps62 O (cJ O) (a8 O (nw (St.refl w) O O ?_));intro A1 w1 aA;have h1:Rd w1 A1 3 (fun j=> [Value.int .i64 n,.slice A N cA,.slice D m cD].getD j undef):=aA.rd 0 O;refine ar O (aX h1 O (bn h1 O (bc O O (yx (v:=false) N aA O O (by omega) ?_))));intro A5 w2 aB;have aB:St w w2 [gu 4 A5 N N (nW (tq N) (fl.take 0).flatten),bE A1 n A N cA D m cD]:=aB;refine ar O (bc O O (aI O ?_));refine Cd.loop (α:=Nat) (fun i=> [(2,.pointer A1),(5,.slice A5 N N),(14,.slice Af nf cf),(15,ak nf),(16,ak i)]) (fun i w'=>i<=nf/\St w w' [gu 4 A5 N N (nW (tq N) (fl.take i).flatten),bE A1 n A N cA D m cD]) (fun i=>nf - i) 0 (ajs O) ⟨a7 _,aB⟩ ?_;clear aB aA h1;rintro i e w3 ⟨hi,hS⟩;refine bL O (aR _ O (fun h2=>?_) (fun h2=>?_))
 ·have KA:i<fl.length:=by omega
  have hM:=hS.bY hF;have ir:=hM.at_ (i:=(i:Int)) (by omega) (by omega);have ni:=ir.1;have jQ:gl fl i∈fl:=by rw [bP KA];exact dB _
  have iZ:=hr _ jQ;refine aE O (aM hM.top.2 O (dI hM.top O ?_));refine ar O (bc O O (aI O ?_));refine Cd.loop (α:=Nat) (fun j=> [(2,.pointer A1),(5,.slice A5 N N),(14,.slice Af nf cf),(15,ak nf),(16,ak i),(20,.slice (rg rs i).a (rg rs i).n (rg rs i).c),(21,ak ((rg rs i).n:Int)),(22,ak j)]) (fun j w'=>j<=(rg rs i).n/\St w w' [gu 4 A5 N N (nW (tq N) ((fl.take i).flatten++ (gl fl i).take j)),bE A1 n A N cA D m cD]) (fun j=> (rg rs i).n - j) 0 (ajs O) ⟨a7 _,by rw [List.take_zero,fM];exact hS⟩ ?_;clear ir hM hS;rintro j e w4 ⟨hj,hS⟩;refine bL O (aR _ O (fun h3=>?_) (fun h3=>?_))
  ·have lR:j< (gl fl i).length:=by omega
   have ir:=(hS.bY hF).at_ (i:=(i:Int)) (by omega) (by omega);have hx:=iZ.2 _ (gi_in lR);have ow:=S1 N ((fl.take i).flatten++ (gl fl i).take j);refine aE O (aM ir.2 O (bk ir O (ar O (aM (hS.jG 0 O).2 O (tK 0 hS O O O (by omega) ?_)))));intro w5 aW;have aW:St w w5 [gu 4 A5 N N (nW (tq N) ((fl.take i).flatten++ (gl fl i).take (j+1))),bE A1 n A N cA D m cD]:=by
    rw [CE lR,<-jy,aeY];exact aW
   refine ar O (aK O (aU O (tQ ?_)));exact⟨j+1,by show(rg rs i).n - (j+1)< (rg rs i).n - j;omega,(ajs O),by omega,aW⟩
  rw [show(gl fl i).take j=gl fl i from jW (by omega)]at hS;refine bw O (bz (dh O (aK O (aU O (tQ ?_)))));refine⟨i+1,by show nf - (i+1)<nf - i;omega,(ajs O),by omega,?_⟩;rw [rQ KA,List.flatten_append,<-bP KA];simpa using hS
 have bW:i=fl.length:=by omega
 rw [bW,List.take_length]at hS;have aaQ:=aeq (m:=N) (F:=fl) (fun l hl=> (hr l hl).2);refine bw O (bz (dh O ?_));refine aL (UF A5 N N _ false _ (hS.jG 0 O) (by omega)) O ?_;rintro _ _ ⟨rfl,rfl⟩
 first | refine eA rfl rfl ?_ | refine eU rfl rfl ?_
 refine bM O (dK O ?_);refine⟨_,O,?_,hS.none⟩;rw [<-aaQ];simp
def sW(a b:ai)(i:Nat):ai:=(List.range a.length).map fun k:Nat=>if i<=k\/gi a k=gi b k then gi a k else -1
theorem uT(a b:ai)(i:Nat):(sW a b i).length=a.length:=by simp [sW]
theorem xf{a b:ai}{i k:Nat}(h:k<a.length):gi (sW a b i) k=if i<=k\/gi a k=gi b k then gi a k else -1:=by
 rw [bO (by rw [uT];exact h)];simp [sW]
theorem Wv(a b:ai):sW a b 0=a:=by
 apply jo (uT ..);intro k h1 h2;rw [<-bO h1,<-bO h2,xf h2,ay (.inl (a7 _))]
theorem Ww(a b:ai):sW a b a.length=nE a b:=by
 apply jo (by rw [uT,AU]);intro k h1 h2;have h3:k<a.length:=by rw [uT]at h1;exact h1
 rw [<-bO h1,<-bO h2,xf h3,AL h3]
 by_cases c:gi a k=gi b k
 ·rw [ay (.inr c),ay c]
 rw [aw (by omega),aw c]
theorem Wx{a b:ai}{i:Nat}:sW a b (i+1)=if gi a i=gi b i then sW a b i else(sW a b i).set i (-1):=by
 by_cases c:gi a i=gi b i
 ·rw [ay c];apply jo (by simp [uT]);intro k h1 h4;have h3:k<a.length:=by rw [uT]at h1;exact h1
  rw [<-bO h1,xf h3,<-bO h4,xf h3]
  by_cases e:k=i
  ·subst e;rw [ay (.inr c),ay (.inr c)]
  by_cases e2:i+1<=k\/gi a k=gi b k
  ·rw [ay e2,ay (by omega)]
  rw [aw e2,aw (by omega)]
 rw [aw c];apply jo (by simp [uT]);intro k h1 h2;have h3:k<a.length:=by rw [uT]at h1;exact h1
 have h4:k< (sW a b i).length:=by rw [uT];exact h3
 rw [<-bO h1,xf h3,List.getElem_set]
 split
 ·rename_i h;rw [aw (fun e=>by subst e;rcases h with h | h<;>first | omega | exact c h),<-bO h4,xf h3,ay (by omega)]
 rename_i h
 by_cases e:i=k
 ·rw [ay e]
 rw [aw e,<-bO h4,xf h3,aw (fun h'=>h (by omega))]
theorem NP(A A2:aj)(n c m c2:Nat)(a b:ai)(w:aa)(hA:cn w A n a)(hB:cn w A2 m b)(hm:n=m)(hn:n<=1000):
 aG prog 121 [.slice A n c,.slice A2 m c2] w (CM (nE a b) w):=by
 subst hm;have ha:=hA.1;have hb:=hB.1;refine bA func121 O ntmps121 O (cJ O) (a8 O (aL (Fe A n c a w hA (by omega)) O ?_));rintro _ w1 ⟨A5,c5,rfl,hS⟩;have hS:St w w1 [az 2 A5 n c5 (sW a b 0)]:=by rw [Wv];exact hS
 refine ar O (bc O O (aI O ?_));refine Cd.loop (α:=Nat) (fun i=> [(5,.slice A5 n c5),(10,.slice A2 n c2),(11,ak n),(12,ak i)]) (fun i w'=>i<=n/\St w w' [az 2 A5 n c5 (sW a b i)]) (fun i=>n - i) 0 (ajs O) ⟨a7 _,hS⟩ ?_;clear hS;rintro i e w2 ⟨hi,hS⟩;have hl:=uT a b i;refine bL O (aR _ O (fun h2=>?_) (fun h2=>?_))
 ·have bW:i<a.length:=by omega
  have iC:=Wx (a:=a) (b:=b) (i:=i);have DO:=xf (b:=b) (i:=i) bW;rw [ay (.inl (bj _))]at DO;have eF:=hS.gW hB;have h5:=hS.bI 0 O;refine aE O (aM eF.2 O (bk eF O (ar O (aM h5.2 O (bk h5 O (aI O ?_))))));rw [DO];refine aR _ O (fun h3=>?_) (fun h3=>?_)
  ·rw [aw h3]at iC;refine aE O (aM h5.2 O (lu 0 hS O O O (by omega) ?_));intro w3 aH;refine ar O (aK O (aU O (tQ ?_)));exact⟨i+1,by show n - (i+1)<n - i;omega,(ajs O),by omega,by rw [iC];exact aH⟩
  rw [ay (iy.1 h3)]at iC;refine aE O (aK O (aU O (tQ ?_)));exact⟨i+1,by show n - (i+1)<n - i;omega,(ajs O),by omega,by rw [iC];exact hS⟩
 have bW:i=a.length:=by omega
 rw [bW,Ww]at hS;have th:=AU a b;refine bw O (bz (gE O ?_));refine gD O ?_;exact⟨A5,c5,by rw [th,ha],by rw [th,ha];exact hS⟩
def yd(xs:ai)(x:Int):ai:=(bN xs.length).filter fun e=>decide (gi xs e=x)
theorem aeU{xs:ai}{x:Int}{m:Nat}:((bN (m+1)).filter fun e=>decide (gi xs e=x))=if x=gi xs m then((bN m).filter fun e=>decide (gi xs e=x))++ [(m:Int)]else((bN m).filter fun e=>decide (gi xs e=x)):=by
 have:bN (m+1)=bN m++ [(m:Int)]:=by
  unfold bN;rw [lN,jb];rfl
 rw [this,sP]
 by_cases c:gi xs m=x
 ·rw [ay c.symm];simp [c]
 rw [aw (fun h=>c h.symm)];simp [c]
theorem aeT(A:aj)(n c:Nat)(xs:ai)(x:Int)(w:aa)(hA:cn w A n xs)(hn:n<=100000):
 aG prog 190 [.slice A n c,ak x] w (CM (yd xs x) w):=by
 have ha:=hA.1;refine bA func190 O ntmps190 O (cJ O) ?_;refine a8 O (bc O O (aI O ?_));refine Cd.loop (α:=Nat×aj×Nat) (fun z=> [(1,ak x),(5,.slice z.2.1 ((bN z.1).filter fun e=>decide (gi xs e=x)).length z.2.2),(8,.slice A n c),(9,ak n),(10,ak (z.1:Int))]) (fun z w'=>z.1<=n/\St w w' [az 2 z.2.1 ((bN z.1).filter fun e=>decide (gi xs e=x)).length z.2.2 ((bN z.1).filter fun e=>decide (gi xs e=x))]) (fun z=>n - z.1) (0,none,0) (ajs O) ⟨a7 _,(St.refl w).nil _⟩ ?_;rintro⟨i,A5,c5⟩ e w1 ⟨hi,hS⟩;dsimp only at hi hS|-;have iY:((bN i).filter fun e=>decide (gi xs e=x)).length<=100000:=by
  refine nv (rM _ _) ?_;rw [bN,fk,pU];omega
 have iC:=aeU (xs:=xs) (x:=x) (m:=i);refine bL O (aR _ O (fun h2=>?_) (fun h2=>?_))
 ·have Bm:=hS.gW hA;refine aE O (aM Bm.2 O (bk Bm O (aI O ?_)));refine aR _ O (fun h3=>?_) (fun h3=>?_)
  ·rw [ay h3]at iC;refine aE O (eH hS O O O ?_);intro A9 w2 aB;refine fN 1 aB O (aB.bI 0 O) O O O ?_;intro AZ cZ w3 aH;have aH:=aH.tail;refine ar O (aK O (aU O (tQ ?_)));refine⟨(i+1,AZ,cZ),by show n - (i+1)<n - i;omega,⟨O,?_,O,O,O,av⟩,by show i+1<=n;omega,?_⟩
   ·show Value.slice _ _ _=_;rw [iC,cS];rfl
   show St w w3 [az _ _ (((bN (i+1)).filter _).length) _ ((bN (i+1)).filter _)];rw [iC,cS];exact aH
  rw [aw h3]at iC;refine aE O (aK O (aU O (tQ ?_)));refine⟨(i+1,A5,c5),by show n - (i+1)<n - i;omega,⟨O,?_,O,O,O,av⟩,by show i+1<=n;omega,?_⟩
  ·show Value.slice _ _ _=_;rw [iC]
  show St w w1 [az _ _ (((bN (i+1)).filter _).length) _ ((bN (i+1)).filter _)];rw [iC];exact hS
 have bW:i=xs.length:=by omega
 rw [bW]at hS|-;refine bw O (bz (gE O ?_));exact gD O ⟨A5,c5,O,hS⟩
def oF(n:Int)(R:ai)(i:Int):ai:=if 0<=i/\i<=n - 1 then yd R i else [-1]
theorem LV(P A D:aj)(n:Int)(N cA m cD:Nat)(R:ai)(i:Int)(w:aa)(hP:Rd w P 3 (fun j=> [Value.int .i64 n,.slice A N cA,.slice D m cD].getD j undef))(hR:cn w A N R)(hN:N<=1000)(hn:0<=n/\n<=100):
 aG prog 119 [.pointer P,ak i] w (CM (oF n R i) w):=by
 refine bA func119 O ntmps119 O (cJ O) (a8 O ?_);refine lq hP (by decide) O O ?_;refine aX hP O (iG (j:=0) hP (by exact aO Value.pointer O) O O O O (dQ O (aL (sL _ _ _ _) O ?_)));rintro _ _ ⟨rfl,rfl⟩
 first | refine eA rfl rfl ?_ | refine eU rfl rfl ?_
 refine aI O (aR _ O (fun h2=>?_) (fun h2=>?_))
 ·refine aE O (eH (i:= -1) (St.refl _) O O O ?_);intro A9 w2 aB;refine bM O (gD O ?_);unfold CM oF;rw [aw h2];exact⟨A9,1,O,aB⟩
 refine aE O (lq hP (by decide) O O (aX hP O (bn hP O (ar O (aL (aeT A N cA R i _ hR (by omega)) O ?_)))));rintro _ w2 ⟨A9,c9,rfl,aB⟩;refine bM O (gD O ?_);unfold CM oF;rw [ay (iy.1 h2)];exact⟨A9,c9,O,aB⟩
end Go.Proofs.YtagdamiiececaaaGreatDoor.Vc
