/-
 Lemmas. Conditions: as each states them.
-/
import Derived.Test.YtopgfgdgfjddpaaGreatDoorZb
set_option maxHeartbeats 8000000
namespace Go.Proofs.YtopgfgdgfjddpaaGreatDoor.Vc
open Tryz
section
open Go.RowKit
theorem Hh(A:aj)(n c:Nat)(xs:ai)(w:aa)(hR:di w A n xs)(hn:n<=1000000000):aN prog 141 [.slice A n c] w (fun v w'=>∃A' c',v= .slice A' n c'/\St w w' [az 2 A' n c' xs]):=by
 cases hA:A with
 | none=>
  subst hA;have qx:n=0:=by
   apply nA;intro h;obtain⟨p,hp,_⟩:=hR.2 0 (by omega);simp [aB]at hp
  subst qx;have hx:xs=[]:=uq hR.1;subst hx;refine bI func141 O ntmps141 O (du O) (bc O (EJ O O O (aI O (Cd.im O (eF O (gK O ?_))))));exact⟨none,0,O,(St.refl w).nil _⟩
 | some a=>
  subst hA;refine bI func141 O ntmps141 O (du O) (bc O (EJ O O O (aI O (Cd.gq O (aG O (jO (St.refl w) O ?_))))));intro A1 w1 aE;have aE:St w w1 [az 2 A1 0 0 []]:=aE;refine ar O (fp 0 aE O (aE.gH hR) O O O ?_);intro A2 c2 w2 aD;rw [Nat.zero_add]at aD|-;refine bM O (gK O ?_);exact⟨A2,c2,O,aD⟩
section
variable {P:Program} {N:Nat} {ops:Array Oper} {K:Env->aa->Prop} {rest:List Oper} {e:Env} {w:aa} {d:Nat} {ty:ae} {pos:String} {af:Array Edge}
theorem wm{t:ae}{f0:Field}{z0 zf:ad}{b bf:Nat}[bV P t (.struct #[f0])][bR P t (.agg #[z0]) 1 b](hI:bR P f0.type zf 1 bf)(hb:Nat.blt d N=true)(hK:ao P N ops K rest (bG e d (.agg #[z0])) w):ao P N ops K (⟨some d,.build t #[],ty,pos,af,none⟩::rest) e w:=by
 obtain⟨inf,hi,fS,hs,jv⟩:=bR.get P t;obtain⟨aeu,dt,ael,nL,acz⟩:=hI.get P f0.type;have ez:(Value.agg #[z0]).cells= #[z0]:=O;refine .val (w':=w) ?_ hb hK;simp [execOp,Instr.build,run_underlying (bV.out (P:=P) (t:=t)),sizeOf,typeInfo,zeroValue,hi,fS,hs,dt,nL,ez,Instr.fill]
end
theorem U6(A:aj)(n c:Nat)(rs:List aQ)(xss:ah)(N:Nat)(Ap:aj)(cp:Nat)(p:ai)(w:aa)(hR:bz w A n rs xss)(hn:n<=1000000)(hs:Sys N xss)(hN:N<=1000000)(hP:di w Ap N p)(hp:∀x:Int,0<=x->x<N->0<=gi p x/\gi p x<N):
 aN prog 182 [.agg #[.slice A n c],.slice Ap N cp] w (fun v w'=>∃A' c' rs',v= .agg #[.slice A' n c']/\rs'.length=n/\St w w' (aO 32 2 A' n c' rs' (xss.map (nV N p)))):=by
 have sR:=hP.1;have dG:=hR.len;refine bI func182 O ntmps182 O (pq O O) (bc O (ik (St.refl w) O O ?_));intro Ab w1 aE;refine gD aE O fun Ac w2 aD=>ar O (wm (by exact inferInstance) O (gD aD O ?_));intro Ad w3 aM;refine bW 1 0 aM O O O O O O O ?_;intro w4 aU;have aU:St w w4 (Bx 24 1 Ad [.slice none 0 0]::Bx 24 1 Ac [.slice none 0 0]::Bx 24 1 Ab [.slice A n c]::[]):=aU;have Dv:St w w4 (Bx 24 1 Ad [.slice none 0 0]::Bx 24 1 Ac [.slice none 0 0]::Bx 24 1 Ab [.slice A n c]::b9 32 none 0 0 []::[]):=(aU.nil 32).perm (ku (l₁:=[_]) (l₂:=[_,_,_]));refine aI O (Cd.loop (α:=Nat×aj×Nat×List aQ) (fun s=> [(1,.slice Ap N cp),(2,.pointer Ab),(4,.pointer Ac),(5,.pointer Ad),(6,ak (s.1:Int))]) (fun s w'=>St w w' (Bx 24 1 Ad [.slice s.2.1 s.1 s.2.2.1]::Bx 24 1 Ac [.slice none 0 0]::Bx 24 1 Ab [.slice A n c]::b9 32 s.2.1 s.1 s.2.2.1 s.2.2.2::dq 2 s.2.2.2 ((xss.map (nV N p)).take s.1))/\s.1<=n/\s.2.2.2.length=s.1) (fun s=>n - s.1) (0,none,0,[]) (alH O) ⟨Dv,bm _,O⟩ ?_);rintro⟨i,A3,c3,eW⟩ e w5 ⟨aV,hi,hlen⟩;dsimp only at aV hi hlen|-;refine bc O (aW (aV.rd 2 O) O (a8 (aV.rd 2 O) O ?_));refine bk O O (aI O ?_);refine aR _ O (fun h1=>?_) (fun h1=>?_)
 ·have dt:i<n:=by omega
  have hx:i<xss.length:=by omega
  refine aG O (bk O O ?_);refine zh N aV O O (by omega) fun A7 w6 aZ=>aI O ?_;have e2:gl xss i=xss[i]:=by simp [gl,dd,gO hx]
  have pQ:=hs (gl xss i) (rP (by omega) (by omega));refine Cd.loop (α:=Nat) (fun k=> [(1,.slice Ap N cp),(2,.pointer Ab),(4,.pointer Ac),(5,.pointer Ad),(6,ak i),(7,.slice A7 N N),(8,ak k)]) (fun k w'=>St w w' (az 2 A7 N N (s8 (List.replicate N 0) (fun f=>gi p f) (fun f=>gi p (gi (gl xss i) f)) k)::Bx 24 1 Ad [.slice A3 i c3]::Bx 24 1 Ac [.slice none 0 0]::Bx 24 1 Ab [.slice A n c]::b9 32 A3 i c3 eW::dq 2 eW ((xss.map (nV N p)).take i))/\k<=N) (fun k=>N - k) 0 (alH O) ⟨aZ,bm _⟩ ?_;rintro k e w7 ⟨a6,hk⟩;have hM:=a6.bS hR;have Iz:=a6.gH hP;refine bc O (bk O O (aI O ?_));refine aR _ O (fun h2=>?_) (fun h2=>?_)
  ·have cJ:=hM.at_ (i:=(i:Int)) (by omega) h1;have iS:=hM.ny (k:=(i:Int)) (by omega) h1;have hv:=pQ.2 (k:Int) (by omega) (by omega);have hpk:=hp (k:Int) (by omega) (by omega);have hpv:=hp _ hv.1 hv.2;have kW:=pQ.1;have hB:=a6.rd 3 O;have hO:=a6.bF 0 O;have gB:(gi p k).toNat<N:=by omega
   refine cM O ?_;refine jA [17] [yS (A7) (N) (N),yS (Ap) (N) (cp),yI ((k:Int)),yP (aB (Ap) ((k:Int)).toNat),yI (gi (p) ((k:Int))),yS (Ap) (N) (cp),yP (aB (Ab) 0),yS (A) (n) (c),yI ((i:Int)),yP (aB (A) ((i:Int)).toNat),yS ((rg (rs) ((i:Int))).a) ((rg (rs) ((i:Int))).n) ((rg (rs) ((i:Int))).c),yI ((k:Int)),yP (aB ((rg (rs) ((i:Int))).a) ((k:Int)).toNat),yI (gi (gl xss i) ((k:Int))),yP (aB (Ap) (gi (gl xss i) ((k:Int))).toNat),yI (gi (p) (gi (gl xss i) ((k:Int)))),yP (aB (A7) (gi (p) ((k:Int))).toNat),.pr (fun _ w'=>St w w' (az 2 A7 N N (s8 (List.replicate N 0) (fun f=>gi p f) (fun f=>gi p (gi (gl xss i) f)) (k+1))::Bx 24 1 Ad [.slice A3 i c3]::Bx 24 1 Ac [.slice none 0 0]::Bx 24 1 Ab [.slice A n c]::b9 32 A3 i c3 eW::dq 2 eW ((xss.map (nV N p)).take i)))] (ly (ly (ly (ly (ly (ly (ly (ly (ly (ly (ly (ly (ly (ly (ly (ly (ly (cj.2 ⟨Ye.cN (fun v w w' h hb=>h.aq hb),(fun _ h=>by cases h)⟩)))))))))))))))))) ?_ ?_
   ·refine⟨bQ O,bQ O,bQ O,cP fun _ _ hb _ _ _=>aF (Iz.aq hb).2 O (bq O O),cP fun _ _ hb _ _ _=>bh (Iz.aq hb) O (bq O O),bQ O,cP fun _ _ hb _ _ _=>aW (hB.below hb) O (bq O O),cP fun _ _ hb _ _ _=>a8 (hB.below hb) O (bq O O),bQ O,cP fun _ _ hb _ _ _=>aF (hM.top.aq hb).2 O (bq O O),cP fun _ _ hb _ _ _=>b6 (hM.top.aq hb) O (bq O O),bQ O,cP fun _ _ hb _ _ _=>aF (cJ.aq hb).2 O (bq O O),cP fun _ _ hb _ _ _=>bh (cJ.aq hb) O (bq O O),cP fun _ _ hb _ _ _=>aF (Iz.aq hb).2 O (bq O O),cP fun _ _ hb _ _ _=>bh (Iz.aq hb) O (bq O O),cP fun _ _ hb _ _ _=>aF (hO.aq hb).2 O (bq O O),?_,av⟩;refine jC fun e1 w1 hb hp aY hq=>?_
    exact lu 0 (a6.aq hb) O O O gB fun w9 ax=>ao.n (fH.st O ax)
   intro u w8 _ hu _ _;have bL:=hu 17 _ O (by kernel_rfl);refine iV O (aJ O (aT O (tQ ?_)));exact⟨k+1,by show N - (k+1)<N - k;omega,(alH O),bL,by omega⟩
  have vK:k=N:=by omega
  subst vK;refine bw O (bA (dh O ?_));refine aW (a6.rd 1 O) O (a8 (a6.rd 1 O) O (ar O (mr a6 O O O ?_)));intro A9 w9 a7;refine oe 5 a7 O (a7.ie 0 O) O O O (by omega) (by omega) O ?_;intro bT eh dQ bO;have bO:=bO.tail;refine aW (bO.rd 1 O) O (ka 1 bO O O O O O ?_);intro eI dB;have dB:St w eI (az 2 A7 k k (nV k p (gl xss i))::Bx 24 1 Ad [.slice bT (i+1) eh]::Bx 24 1 Ac [.slice none 0 0]::Bx 24 1 Ab [.slice A n c]::b9 32 bT (i+1) eh (eW++ [⟨A7,k,k⟩])::dq 2 eW ((xss.map (nV k p)).take i)):=dB;refine ar O (aJ O (aT O (tQ ?_)));refine⟨(i+1,bT,eh,eW++ [⟨A7,k,k⟩]),by show n - (i+1)<n - i;omega,(alH O),?_,dt,by simp [hlen]⟩;show St w eI (_::_::_::b9 _ bT (i+1) eh (eW++ [_])::dq _ (eW++ [_]) ((xss.map (nV k p)).take (i+1)));rw [su (by rw [fj];exact hx),AH (by simp [hlen];omega),List.getElem_map,<-e2];exact dB.perm (ku (l₁:=[_]) (l₂:=_::_::_::_::dq 2 eW ((xss.map (nV k p)).take i)))
 refine bw O (bA (dh O ?_));have db:i=n:=by omega
 subst db;rw [lp (by rw [fj];omega)]at aV;refine alC 0 (aV.rd 0 O) O (bW 1 1 aV O O O O O O O ?_);intro w6 aZ;refine bM O (ko O (aZ.rd 1 O) ?_);exact⟨A3,c3,eW,O,hlen,aZ.sub (((List.sublist_cons_self _ _).trans (List.sublist_cons_self _ _)).trans (List.sublist_cons_self _ _))⟩
theorem bg.GS{xss:ah}(hM:bg xss){f:Int}(h0:0<=f)(hf:f< (gl xss 0).length):ve (gl xss 0).length (dw (gl xss 0).length xss f):=by
 have hs:=hM.2.2.1.sys;have hi:=hM.2.2.1.inj;have h2:=hM.2.1;obtain⟨g,_,hm⟩:=sd hs h0 hf;have dO:=(Cs hs (by omega)).1 hM.2.2.2.2;refine⟨?_,g.nodup,g.range⟩;have h1:=JY (AK (gl xss 0).length) (dw (gl xss 0).length xss f) (by
  unfold AK;rw [List.nodup_iff_pairwise_ne,nB];exact(List.nodup_iff_pairwise_ne.1 List.nodup_range).imp (fun h e=>h (by omega))) (fun z hz=>by
  have hz:=WL.1 hz;exact(hm z).2 ((Reach.symm hs hi (by omega) (by omega) (dO f h0 hf)).trans (dO z hz.1 hz.2)))
 rw [OM]at h1;have:=g.len;omega
theorem agS(A:aj)(n c:Nat)(rs:List aQ)(xss:ah)(N:Nat)(pt:Int)(w:aa)(hR:bz w A n rs xss)(hn:n<=9223372036854775807)(qx:0<n)(hs:Sys N xss)(hN:N<=1000000000)(h0:0<=pt)(h1:pt<N):
 aN prog 222 [.slice A n c,ak pt] w (fun v w'=>∃A' c',v= .slice A' (dw N xss pt).length c'/\St w w' [az 2 A' (dw N xss pt).length c' (dw N xss pt)]):=by
 have b5:∀k:Int,0<=k->k<n->(rg rs k).n=N:=fun k sP hk=>by
  rw [<-hR.ny sP hk];exact(hs _ (rP sP (by rw [hR.len];exact hk))).1
 have mL:=b5 0 (by omega) (by omega);refine bI func222 O ntmps222 O (du O) (bc O (aF hR.top.2 O (b6 hR.top O (bk O O ?_))));refine xA N (St.refl w) (by rw [mL];rfl) O (by omega) ?_;intro A5 w1 aE;refine ar O ?_;refine alp (aE.ji 0 O).2 (by rw [mL];rfl) O O (by omega) (by omega) ?_;refine tn 0 aE O O O (by omega) fun w2 aD=>ar O (dV aD O O O ?_);intro A6 w3 aM;refine aI O ?_;refine Cd.loop (α:=Nat×ai×aj×Nat×List Bool) (fun q=> [(0,.slice A n c),(5,.slice A5 N N),(6,.slice q.2.2.1 q.2.1.length q.2.2.2.1),(7,ak (q.1:Int))]) (fun q w'=>St w w' [az 2 q.2.2.1 q.2.1.length q.2.2.2.1 q.2.1,gm 4 A5 N N q.2.2.2.2]/\q.1<=q.2.1.length/\Good N xss pt q.2.1/\vd N q.2.2.2.2 q.2.1/\oU xss (N+1 - q.1) q.1 q.2.1=dw N xss pt) (fun q=>N+1 - q.1) (0,[pt],A6,1,(List.replicate N false).set pt.toNat true) ⟨O,by rw [mL];rfl,O,O,av⟩ ⟨aM,bm _,H8 h0 h1,vd.init h0 (by omega),O⟩ ?_;rintro⟨i,out,Ao,co,S⟩ e2 w5 ⟨aV,hi,hg,hm,hb⟩;dsimp only at aV hi hg hm hb|-;have hlen:=hg.len;refine bc O (bk O O (aI O ?_));refine aR _ O (fun h2=>?_) (fun h2=>?_)
 ·refine aG O (bk O O (aI O ?_));refine Cd.loop (α:=Nat×ai×aj×Nat×List Bool) (fun q=> [(0,.slice A n c),(5,.slice A5 N N),(6,.slice q.2.2.1 q.2.1.length q.2.2.2.1),(7,ak i),(27,.slice A n c),(28,ak n),(29,ak (q.1:Int))]) (fun q w'=>St w w' [az 2 q.2.2.1 q.2.1.length q.2.2.2.1 q.2.1,gm 4 A5 N N q.2.2.2.2]/\q.1<=n/\Good N xss pt q.2.1/\vd N q.2.2.2.2 q.2.1/\out<+:q.2.1/\(xss.drop q.1).foldl (fun o p=>jV o (gi p (gi out i))) q.2.1=expand xss (gi out i) out) (fun q=>n - q.1) (0,out,Ao,co,S) (alH O) ⟨aV,bm _,hg,hm,List.prefix_rfl,O⟩ ?_;rintro⟨k,iT,Ba,Db,S'⟩ e3 w6 ⟨aZ,hk,mI,jw,nm,hf⟩;dsimp only at aZ hk mI jw nm hf|-;have yi:=mI.len;refine b8 O (aR _ O (fun h3=>?_) (fun h3=>?_))
  ·have IQ:i<iT.length:=by have:=nm.length_le;omega
   have zO:gi iT i=gi out i:=Bq nm (by omega);have gw:=hg.range _ (gi_in (i:=i) (by omega));have kV:gl xss k∈xss:=rP (by omega) (by rw [hR.len];omega);have hy:=(hs _ kV).2 (gi out i) gw.1 gw.2;have jG:=b5 k (by omega) (by omega);have hT:=(aZ.bS hR);have hO:=aZ.bF 0 O;have cJ:=hT.at_ (i:=k) (by omega) (by omega);have ye:(xss.drop (k+1)).foldl (fun o p=>jV o (gi p (gi out i))) (jV iT (gi (gl xss k) (gi out i)))=expand xss (gi out i) out:=by
    rw [<-hf,List.drop_eq_getElem_cons (show k<xss.length by rw [hR.len];omega),List.foldl_cons,cK (by rw [hR.len];omega)]
   refine aG O (aF hT.top.2 O (b6 hT.top O (ar O (aF hO.2 O (bh hO O ?_)))));rw [zO];refine aF cJ.2 O (bh cJ O (ar O (aF (aZ.ji 1 O).2 O (rG (aZ.ji 1 O) O (by omega) O O ?_))))
   first | refine eZ rfl rfl ?_ | refine fY rfl rfl ?_
   refine aI O (Cd.cond O (fun h4=>?_) (fun h4=>?_))
   ·have MY:¬gi (gl xss k) (gi out i)∈iT:=fun db=>by
     have:=(jw.2 _ hy.1 (by omega)).2 db;rw [this]at h4;cases h4
    have Cb:jV iT (gi (gl xss k) (gi out i))=iT++ [gi (gl xss k) (gi out i)]:=by unfold jV;rw [if_neg MY]
    have yf:=mI.push hs (nm.subset (gi_in (i:=i) (by omega))) kV;have Gf:=nm.trans (Ou iT (gi (gl xss k) (gi out i)));rw [Cb]at ye yf Gf;have MR:=yf.len;simp only [dI,List.length_singleton]at MR;refine aG O (aF (aZ.ji 1 O).2 O (tn 1 aZ O O O (by omega) ?_));intro w8 bL;refine ar O (dV bL O O O ?_);intro A3 w9 a7;refine fp 1 a7 O (a7.bF 0 O) O O O fun A4 c4 dQ bO=>ar O (aJ O (aT O (tQ ?_)));refine⟨(k+1,iT++ [gi (gl xss k) (gi out i)],A4,c4,S'.set (gi (gl xss k) (gi out i)).toNat true),by show n - (k+1)<n - k;omega,⟨O,O,by rw [dI];rfl,O,O,O,O,av⟩,?_,by show k+1<=n;omega,yf,jw.push hy.1 (by omega),Gf,ye⟩;have tz:=bO.tail;simp only [dI,List.length_singleton];exact tz
   have db:gi (gl xss k) (gi out i)∈iT:=(jw.2 _ hy.1 (by omega)).1 (by simpa using h4);have Cb:jV iT (gi (gl xss k) (gi out i))=iT:=by unfold jV;rw [if_pos db]
   rw [Cb]at ye;refine aG O (aJ O (aT O (tQ ?_)));exact⟨(k+1,iT,Ba,Db,S'),by show n - (k+1)<n - k;omega,(alH O),aZ,by show k+1<=n;omega,mI,jw,nm,ye⟩
  refine bw O (bA (dh O (aJ O (aT O (tQ ?_)))));have mK:k=n:=by omega
  rw [mK,List.drop_of_length_le (by rw [hR.len];omega)]at hf;have hf:iT=expand xss (gi out i) out:=hf;refine⟨(i+1,iT,Ba,Db,S'),by show N+1 - (i+1)<N+1 - i;omega,(alH O),aZ,by show i+1<=iT.length;have:=nm.length_le;omega,mI,jw,?_⟩;show oU xss (N+1 - (i+1)) (i+1) iT=_;rw [<-hb,show N+1 - i=(N+1 - (i+1))+1 by omega];simp only [oU];rw [ay (by omega),hf]
 refine bw O (bA (ij O ?_));refine gK O ?_;rw [Qm (by omega)]at hb;subst hb;exact⟨Ao,co,O,aV.sub (List.Sublist.cons_cons _ (List.nil_sublist _))⟩
theorem JS(o b mv:ai):(rz o b mv).length=o.length:=by simp [rz]
theorem aio{o b mv:ai}{k:Nat}(hk:k<o.length):(rz o b mv).take (k+1)=(rz o b mv).take k++ [gi b (gi mv (gi o k))]:=by
 rw [su (by rw [JS];exact hk),cd hk];simp [rz]
theorem aaP(A:aj)(n c:Nat)(rs:List aQ)(xss:ah)(N:Nat)(f:Int)(w:aa)(hR:bz w A n rs xss)(hM:bg xss)(hN:N=(gl xss 0).length)(h0:0<=f)(hf:f<N):
 aN prog 186 [.slice A n c,ak f] w (fun v w'=>∃A' c' rs',v= .agg #[.slice A' n c']/\rs'.length=n/\St w w' (aO 32 2 A' n c' rs' (my N xss f))):=by
 subst hN;have hP:=hM.GS h0 hf;have hs:=hM.2.2.1.sys;have h5:=hM.1;have Sg:=hM.2.1;have dG:=hR.len;have mL:(gl xss 0).length=(rg rs 0).n:=hR.ny (by omega) (by omega);have acT:my (gl xss 0).length xss f=xss.map fun mv=>rz (dw (gl xss 0).length xss f) (rI (gl xss 0).length (dw (gl xss 0).length xss f)) mv:=O
 have vD:∀x:Int,0<=x->x< ((gl xss 0).length:Int)->0<=gi (rI (gl xss 0).length (dw (gl xss 0).length xss f)) x/\gi (rI (gl xss 0).length (dw (gl xss 0).length xss f)) x< ((gl xss 0).length:Int):=fun x h0 h1=>by
  obtain⟨k,hk,_,hb⟩:=hP.C1 h0 h1;omega
 have ki:=Y4 (gl xss 0).length (dw (gl xss 0).length xss f);have qv:rI (gl xss 0).length (dw (gl xss 0).length xss f)=s8 (List.replicate (gl xss 0).length 0) (fun k=>gi (dw (gl xss 0).length xss f) k) (fun k=> (k:Int)) (gl xss 0).length:=by
  unfold rI;rw [hP.len]
 have wS:=agS A n c rs xss (gl xss 0).length f;generalize hNe:(gl xss 0).length=N at*;generalize hoe:dw N xss f=o at*;generalize dX:rI N o=b at*;have I3:=hP.len;have cJ:∀k:Nat,k<N->0<=gi o k/\gi o k<N:=fun k hk=>hP.dp hk
 rw [acT];refine bI func186 O ntmps186 O (pq O O) (bc O (gD (St.refl w) O ?_));intro Ac w1 aE;refine ar O (aL (wS _ (aE.bS hR) (by omega) (by omega) hs (by omega) h0 hf) O ?_);rintro _ w2 ⟨Ao,co,rfl,ax⟩;rw [I3]at ax|-;have aD:=aE.call ax;have qP:=aD.bS hR;refine ar O (aF qP.top.2 O (b6 qP.top O (bk O O ?_)));refine zh N aD (by rw [<-mL];rfl) O (by omega) ?_;intro A6 w3 aM;refine ar O (bk O O (aI O ?_));refine Cd.loop (α:=Nat) (fun k=> [(0,.slice A n c),(4,.pointer Ac),(5,.slice Ao N co),(6,.slice A6 N N),(23,.slice Ao N co),(24,ak N),(25,ak k)]) (fun k w'=>St w w' [az 2 A6 N N (s8 (List.replicate N 0) (fun k=>gi o k) (fun k=> (k:Int)) k),az 2 Ao N co o,Bx 24 1 Ac [.slice none 0 0]]/\k<=N) (fun k=>N - k) 0 ⟨O,O,O,by rw [<-mL];rfl,O,O,O,av⟩ ⟨aM,bm _⟩ ?_;rintro k e w4 ⟨aU,hk⟩;have Ix:=aU.bF 1 O;refine b8 O (aR _ O (fun h1=>?_) (fun h1=>?_))
 ·have dK:=cJ k (by omega);refine aG O (aF Ix.2 O (bh Ix O (ar O (aF (aU.bF 0 O).2 O (lu 0 aU O O O (by omega) ?_)))));intro w5 aV;refine ar O (aJ O (aT O (tQ ?_)));exact⟨k+1,by show N - (k+1)<N - k;omega,(alH O),aV,by omega⟩
 have vK:k=N:=by omega
 subst vK;rw [<-qv]at aU;refine bw O (bA (dh O ?_));refine gD aU O ?_;intro Ad w5 aV;have Dv:St w w5 (Bx 24 1 Ad [.slice none 0 0]::az 2 A6 k k b::az 2 Ao k co o::Bx 24 1 Ac [.slice none 0 0]::b9 32 none 0 0 []::[]):=(aV.nil 32).perm (ku (l₁:=[_]) (l₂:=[_,_,_,_]));refine ar O (bk O O (aI O ?_));refine Cd.loop (α:=Nat×aj×Nat×List aQ) (fun s=> [(4,.pointer Ac),(5,.slice Ao k co),(6,.slice A6 k k),(9,.pointer Ad),(35,.slice A n c),(36,ak n),(37,ak (s.1:Int))]) (fun s w'=>St w w' (Bx 24 1 Ad [.slice s.2.1 s.1 s.2.2.1]::az 2 A6 k k b::az 2 Ao k co o::Bx 24 1 Ac [.slice none 0 0]::b9 32 s.2.1 s.1 s.2.2.1 s.2.2.2::dq 2 s.2.2.2 ((xss.map fun mv=>rz o b mv).take s.1))/\s.1<=n/\s.2.2.2.length=s.1) (fun s=>n - s.1) (0,none,0,[]) (alH O) ⟨Dv,bm _,O⟩ ?_;rintro⟨i,A3,c3,eW⟩ e w6 ⟨aZ,hi,hlen⟩;dsimp only at aZ hi hlen|-;refine b8 O (aR _ O (fun h1=>?_) (fun h1=>?_))
 ·have dt:i<n:=by omega
  have hx:i<xss.length:=by omega
  have l9:=aZ.bS hR;have e2:gl xss i=xss[i]:=by simp [gl,dd,gO hx]
  have pQ:=hs (gl xss i) (rP (by omega) (by omega));have TJ:=l9.ny (k:=(i:Int)) (by omega) h1;refine aG O (aF l9.top.2 O (b6 l9.top O ?_));refine ar O (bk O O (aI O ?_));refine Cd.loop (α:=Nat×aj×Nat) (fun s=> [(4,.pointer Ac),(5,.slice Ao k co),(6,.slice A6 k k),(9,.pointer Ad),(35,.slice A n c),(36,ak n),(37,ak i),(11,.slice (rg rs i).a (rg rs i).n (rg rs i).c),(12,.slice s.2.1 s.1 s.2.2),(41,.slice Ao k co),(42,ak k),(43,ak (s.1:Int))]) (fun s w'=>St w w' (az 2 s.2.1 s.1 s.2.2 ((rz o b (gl xss i)).take s.1)::Bx 24 1 Ad [.slice A3 i c3]::az 2 A6 k k b::az 2 Ao k co o::Bx 24 1 Ac [.slice none 0 0]::b9 32 A3 i c3 eW::dq 2 eW ((xss.map fun mv=>rz o b mv).take i))/\s.1<=k) (fun s=>k - s.1) (0,none,0) (alH O) ⟨aZ.nil _,bm _⟩ ?_;rintro⟨j,iO,KI⟩ e w7 ⟨a6,hj⟩;dsimp only at a6 hj|-;have SN:=a6.bF 3 O;have Bt:=a6.bF 2 O;have SG:=(a6.bS hR).at_ (i:=(i:Int)) (by omega) h1;refine b8 O (aR _ O (fun h2=>?_) (fun h2=>?_))
  ·have wT:=cJ j (by omega);have hv:=pQ.2 _ wT.1 wT.2;have hbv:=vD _ hv.1 hv.2;refine aG O (aF SN.2 O (bh SN O (ar O (aF SG.2 O (bh SG O (aF Bt.2 O (bh Bt O (dV a6 O O O ?_))))))));intro A9 w9 a7;refine fp 1 a7 O (a7.bF 0 O) O O O ?_;intro bT eh dQ bO;have bO:=bO.tail;refine ar O (aJ O (aT O (tQ ?_)));refine⟨(j+1,bT,eh),by show k - (j+1)<k - j;omega,(alH O),?_,by show j+1<=k;omega⟩;show St w dQ (az _ bT (j+1) eh ((rz o b (gl xss i)).take (j+1))::_);rw [aio (by omega)];exact bO
  have uS:j=k:=by omega
  subst uS;rw [lp (by rw [JS];omega)]at a6;refine bw O (bA (dh O ?_));refine aW (a6.rd 1 O) O (a8 (a6.rd 1 O) O (ar O (mr a6 O O O ?_)));intro A9 w9 a7;refine oe 6 a7 O (a7.ie 0 O) O O O (by omega) (by omega) O ?_;intro bT eh dQ bO;have bO:=bO.tail;refine aW (bO.rd 1 O) O (ka 1 bO O O O O O ?_);intro eI dB;have dB:St w eI (az 2 iO j KI (rz o b (gl xss i))::Bx 24 1 Ad [.slice bT (i+1) eh]::az 2 A6 j j b::az 2 Ao j co o::Bx 24 1 Ac [.slice none 0 0]::b9 32 bT (i+1) eh (eW++ [⟨iO,j,KI⟩])::dq 2 eW ((xss.map fun mv=>rz o b mv).take i)):=dB;refine ar O (aJ O (aT O (tQ ?_)));refine⟨(i+1,bT,eh,eW++ [⟨iO,j,KI⟩]),by show n - (i+1)<n - i;omega,(alH O),?_,dt,by simp [hlen]⟩;show St w eI (_::_::_::_::b9 _ bT (i+1) eh (eW++ [_])::dq _ (eW++ [_]) ((xss.map fun mv=>rz o b mv).take (i+1)));rw [su (by rw [fj];exact hx),AH (by simp [hlen];omega),List.getElem_map,<-e2];exact dB.perm (ku (l₁:=[_]) (l₂:=_::_::_::_::_::dq 2 eW ((xss.map fun mv=>rz o b mv).take i)))
 have db:i=n:=by omega
 subst db;rw [lp (by rw [fj];omega)]at aZ;refine bw O (bA (dh O ?_));refine alC 0 (aZ.rd 0 O) O (bW 1 3 aZ O O O O O O O ?_);intro w7 a6;refine bM O (ko O (a6.rd 3 O) ?_);exact⟨A3,c3,eW,O,hlen,a6.sub ((((List.sublist_cons_self _ _).trans (List.sublist_cons_self _ _)).trans (List.sublist_cons_self _ _)).trans (List.sublist_cons_self _ _))⟩
end
section
theorem R0(p:ai)(ps:ah)(j:Nat):gl (p::ps) ((j+1:Nat):Int)=gl ps j:=by
 simp only [gl,gI,List.getD_cons_succ]
theorem aa5{φ:Int->Int}{l:ai}{k:Nat}(h:k<l.length):gi (l.map φ) k=φ (gi l k):=by
 rw [cd (by simpa using h),cd h,List.getElem_map]
structure gM(N:Nat)(xss bU:ah)(φ:Int->Int):Prop where
 len:bU.length=xss.length
 dp:∀x:Int,0<=x->x<N->0<=φ x/\φ x<N
 inj:∀x y:Int,0<=x->x<N->0<=y->y<N->φ x=φ y->x=y
 tv:∀(i:Nat) (x:Int),i<xss.length->0<=x->x<N->gi (gl bU i) (φ x)=φ (gi (gl xss i) x)
section
variable {N:Nat} {xss bU:ah} {φ:Int->Int}
theorem ahJ(DI:∀x y:Int,0<=x->x<N->0<=y->y<N->φ x=φ y->x=y){out:ai}(ho:∀x∈out,0<=x/\x< (N:Int)){y:Int}(h0:0<=y)(h1:y<N):jV (out.map φ) (φ y)=(jV out y).map φ:=by
 unfold jV
 by_cases h:y∈out
 ·rw [ay h,ay (List.mem_map_of_mem h)]
 rw [aw h,aw (fun hm=>by
  obtain⟨z,hz,e⟩:=dv.1 hm;exact h (DI z y (ho z hz).1 (ho z hz).2 h0 h1 e▸hz)),jm]
 rfl
theorem fold_map(DI:∀x y:Int,0<=x->x<N->0<=y->y<N->φ x=φ y->x=y){x:Int}:∀(ps qs:ah) (out:ai),qs.length=ps.length->(∀z∈out,0<=z/\z< (N:Int))->(∀j:Nat,j<ps.length->(0<=gi (gl ps j) x/\gi (gl ps j) x<N)/\gi (gl qs j) (φ x)=φ (gi (gl ps j) x))->qs.foldl (fun o p=>jV o (gi p (φ x))) (out.map φ)=(ps.foldl (fun o p=>jV o (gi p x)) out).map φ
 | [],[],_,_,_,_=>rfl
 | p::ps,q::qs,out,hl,ho,h=>by
  have h0:(0<=gi p x/\gi p x<N)/\gi q (φ x)=φ (gi p x):=h 0 (by simp);simp only [List.foldl_cons];rw [h0.2,ahJ DI ho h0.1.1 h0.1.2];exact fold_map DI ps qs _ (by simpa using hl) (fun z hz=>by
   rcases JH.1 hz with hz | rfl
   ·exact ho z hz
   ·exact h0.1) (fun j hj=>by
   have:=h (j+1) (by simpa using hj);rw [R0,R0]at this;exact this)
 | [],_::_,_,hl,_,_=>by simp at hl
 | _::_,[],_,hl,_,_=>by simp at hl
theorem Ql(h:gM N xss bU φ)(hs:Sys N xss){pt:Int}:∀(f i:Nat) (out:ai),Good N xss pt out->oU bU f i (out.map φ)=(oU xss f i out).map φ
 | 0,_,_,_=>rfl
 | f+1,i,out,hg=>by
  simp only [oU,fj]
  by_cases hi:i<out.length
  ·rw [ay hi,ay hi,aa5 hi];have hx:=gi_in hi;have hr:=hg.range _ hx;have e:expand bU (φ (gi out i)) (out.map φ)=(expand xss (gi out i) out).map φ:=fold_map h.inj xss bU out h.len hg.range (fun j hj=> ⟨(hs (gl xss j) (by rw [cK hj];exact dH _)).2 _ hr.1 hr.2,h.tv j _ hj hr.1 hr.2⟩);rw [e];exact Ql h hs f (i+1) _ (foldl_push hs xss out (fun p hp=>hp) hg hx).1
  ·rw [aw hi,aw hi]
theorem agW(h:gM N xss bU φ)(hs:Sys N xss){pt:Int}(h0:0<=pt)(h1:pt<N):dw N bU (φ pt)=(dw N xss pt).map φ:=Ql h hs (N+1) 0 [pt] (H8 h0 h1)
variable {f:Int}
theorem H2(hM:bg xss)(hN:N=(gl xss 0).length)(h0:0<=f)(h1:f<N):gM N xss (my N xss f) (gi (rI N (dw N xss f))):=by
 have hs:=hM.2.2.1.sys;have hP:=hM.GS h0 (by rw [<-hN];exact h1);rw [<-hN]at hs hP;refine⟨Bp _ _ _,fun x hx eE=>?_,fun x y hx eE hy kX e=>?_,fun i x hi hx eE=>?_⟩
 ·obtain⟨k,hk,_,e⟩:=hP.C1 hx eE;omega
 ·obtain⟨k,hk,e1,e2⟩:=hP.C1 hx eE;obtain⟨j,hj,e3,e4⟩:=hP.C1 hy kX;have:(k:Int)=j:=by omega
  rw [<-e1,<-e3,this]
 obtain⟨k,hk,e1,e2⟩:=hP.C1 hx eE;rw [e2,cK (by rw [Bp];exact hi)];simp only [my,List.getElem_map];rw [cd (by rw [JS,hP.len];exact hk)];simp only [rz,List.getElem_map];rw [<-cd (by rw [hP.len];exact hk),e1,cK hi]
theorem aaS(hM:bg xss)(hN:N=(gl xss 0).length)(h0:0<=f)(h1:f<N):gi (dw N xss f) 0=f/\gi (rI N (dw N xss f)) f=0:=by
 have hs:=hM.2.2.1.sys;have hP:=hM.GS h0 (by rw [<-hN];exact h1);rw [<-hN]at hs hP;have e:=Bq (sd hs h0 h1).2.1 (i:=0) (by simp);have e:gi (dw N xss f) 0=f:=e;refine⟨e,?_⟩;have:=hP.back (k:=0) (by omega);have this:gi (rI N (dw N xss f)) (gi (dw N xss f) 0)=0:=this
 rwa [e]at this
theorem aaR(hM:bg xss)(hN:N=(gl xss 0).length)(h0:0<=f)(h1:f<N):dw N (my N xss f) 0=AK N:=by
 have hs:=hM.2.2.1.sys;have hP:=hM.GS h0 (by rw [<-hN];exact h1);rw [<-hN]at hs hP;have h:=agW (H2 hM hN h0 h1) hs h0 h1;rw [(aaS hM hN h0 h1).2]at h;rw [h];apply jX
 ·rw [fj,hP.len,OM]
 intro i h2 h3;rw [OM]at h3;rw [List.getElem_map,<-cd (by rw [hP.len];exact h3),hP.back h3];simp [AK]
end
section
variable {n F:Nat} {L:ah}
theorem Reach.Bj(hI:EO n F L)(hs:Sys F L)(hF:0<F){x:Int}(h:Reach L 0 x):(0<=x/\x<F)/\Bb n L x:=by
 induction h with
 | refl=>exact⟨⟨by omega,by omega⟩,.zero⟩
 | @step y p _ hp ih=>
  obtain⟨i,hi,rfl⟩:=fV.1 hp;have hr:=(hs _ hp).2 y ih.1.1 ih.1.2;have e:gi L[i] y=cell L i y:=by
   unfold cell;rw [cK hi]
  rw [e]at hr|-;exact⟨hr,.step ih.2 (by rw [<-hI.1];exact hi) ih.1.1 hr.1⟩
end
section
variable {N:Nat} {xss:ah} {f:Int}
theorem aaQ(hM:bg xss)(hN:N=(gl xss 0).length)(h0:0<=f)(h1:f<N):Inv xss.length N (my N xss f) N (N*xss.length)/\bg (my N xss f):=by
 have hP:=hM.GS h0 (by rw [<-hN];exact h1);have hs:=hM.2.2.1.sys;rw [<-hN]at hP hs;have hI:=H2 hM hN h0 h1;have FE:=hM.2.1;have hn:=hM.1;have ab2:2<=N/\N<=400:=by omega
 have Nh:EO xss.length N (my N xss f):=⟨Bp _ _ _,fun p hp=>by
  obtain⟨mv,_,rfl⟩:=dv.1 hp;rw [JS,hP.len]⟩
 have hc:∀(i:Nat) (k:Nat),i<xss.length->k<N->cell (my N xss f) i k=gi (rI N (dw N xss f)) (gi (gl xss i) (gi (dw N xss f) k)):=fun i k hi hk=>by
  have hr:=hP.dp hk;have:=hI.tv i _ hi hr.1 hr.2;rw [hP.back hk]at this;exact this
 have db:∀(i:Nat) (x:Int),i<xss.length->0<=x->x<N->0<=gi (gl xss i) x/\gi (gl xss i) x<N:=fun i x hi hx eE=> (hs (gl xss i) (by rw [cK hi];exact dH _)).2 x hx eE
 have acV:∀(i:Nat) (x:Int),i<xss.length->0<=x->x<N->gi (gl xss i) x≠x/\gi (gl xss i) (gi (gl xss i) x)=x:=fun i x hi hx eE=>by
  have h:=(hM.2.2.1.at_ hi);have:=h.2.2 x.toNat (by omega);rw [Int.toNat_of_nonneg hx]at this;exact this
 have vG:∀(i:Nat) (k:Nat),i<xss.length->k<N->∃j:Nat,j<N/\cell (my N xss f) i k=j/\gi (dw N xss f) j=gi (gl xss i) (gi (dw N xss f) k):=fun i k hi hk=>by
  have hr:=hP.dp hk;have hq:=db i _ hi hr.1 hr.2;obtain⟨j,hj,e1,e2⟩:=hP.C1 hq.1 hq.2;exact⟨j,hj,by rw [hc i k hi hk,e2],e1⟩
 have Sw:Inv xss.length N (my N xss f) N (N*xss.length):=by
  refine⟨Nh,by omega,by omega,bB _,fun i x hi hx eE=> .inr ?_,fun a ha=>?_,fun x hx=>?_,bB _⟩
  ·obtain⟨k,rfl⟩:∃k:Nat,x=k:=⟨x.toNat,by omega⟩;have hk:k<N:=by omega
   obtain⟨j,hj,e1,e2⟩:=vG i k hi hk;obtain⟨l,hl,e3,e4⟩:=vG i j hi hj;have hr:=hP.dp hk;have hf:=acV i _ hi hr.1 hr.2;rw [e2,hf.2]at e4;have el:=hP.inj hl hk e4;rw [e1,e3,el];refine⟨by omega,by omega,eE,O,fun e=>?_⟩;have:j=k:=by omega
   rw [this]at e2;exact hf.1 e2.symm
  ·have iE:a / xss.length<N:=Nat.div_lt_of_lt_mul (by rw [Nat.mul_comm];exact ha);obtain⟨j,hj,e1,_⟩:=vG (a%xss.length) (a / xss.length) (Nat.mod_lt _ (by omega)) iE;rw [e1];omega
  have Uj:Sys N (my N xss f):=fun p hp=>by
   refine⟨Nh.2 p hp,fun x hx eE=>?_⟩;obtain⟨i,hi,rfl⟩:=fV.1 hp;rw [Bp]at hi;obtain⟨k,rfl⟩:∃k:Nat,x=k:=⟨x.toNat,by omega⟩;obtain⟨j,hj,e1,_⟩:=vG i k hi (by omega);unfold cell at e1;rw [cK (by rw [Bp];exact hi)]at e1;omega
  have ho:=aaR hM hN h0 h1;have:=(sd Uj (pt:=0) (by omega) (by omega)).2.2 (x:Int);rw [ho]at this;exact(Reach.Bj Nh Uj (by omega) (this.1 (WL.2 ⟨by omega,by omega⟩))).2
 refine⟨Sw,Sw.vW hn.2 ab2 (fun e he i hi k hk mJ=>?_)⟩;rw [Bp]at hi hk;have hr:=hP.dp he;obtain⟨j1,F4,a1,b1⟩:=vG i e hi he;obtain⟨j2,oD,a2,b2⟩:=vG k e hk he;obtain⟨j3,hj3,a3,b3⟩:=vG k j1 hk F4;obtain⟨j4,hj4,a4,b4⟩:=vG i j2 hi oD;obtain⟨q,hq⟩:∃q:Nat,gi (dw N xss f) e=q:=⟨(gi (dw N xss f) e).toNat,by omega⟩;have oz:=hM.2.2.2.1 i hi k hk mJ q (by omega);unfold Comm at oz;rw [<-hq]at oz;refine⟨fun _ e1=>?_,fun _ _=>?_⟩
 ·rw [a1,a2]at e1;have:j1=j2:=by omega
  rw [this]at b1;exact oz.2 (by rw [<-b1,<-b2])
 unfold kn;rw [a1,a2,aw (by omega),aw (by omega),a3,a4];have:gi (dw N xss f) j3=gi (dw N xss f) j4:=by rw [b3,b4,b1,b2];exact oz.1
 rw [hP.inj hj3 hj4 this]
end
end
section
open Go.RowKit
def tf(l:ai):Prop:=l.Pairwise (· <= ·)
def oK(l:ai):ai:=l.mergeSort fun x y=>decide (x<=y)
theorem OT(l:ai):(oK l).Perm l:=List.mergeSort_perm _ _
theorem aiO(l:ai):tf (oK l):=by
 have:=List.pairwise_mergeSort (le:=fun x y:Int=>decide (x<=y)) (fun a b c h1 h2=>by simp at h1 h2|-;omega) (fun a b=>by simp;omega) l;exact this.imp fun h=>by simpa using h
theorem Y3{l l':ai}(h:l.Perm l')(h1:tf l)(h2:tf l'):l=l':=
 List.Perm.eq_of_pairwise (le:=(· <= ·)) (fun a b _ _ h1 h2=>by omega) h1 h2 h
def Pw(xss:ah):Prop:=bg xss/\2<=xss.length
instance (xss:ah):Decidable (Pw xss):=by unfold Pw;exact inferInstance
theorem xd(A:aj)(n c:Nat)(rs:List aQ)(xss:ah)(w:aa)(hR:bz w A n rs xss)(hn:0<n):
 aN prog 161 [.agg #[.slice A n c]] w (fun v w'=>v=ak ((gl xss 0).length:Int)/\St w w' []):=by
 refine bI func161 O ntmps161 O (du O) (bc O (ik (St.refl w) O O ?_));intro Ab w1 hS;have kC:=hS.bS hR;have e0:(gl xss 0).length=(rg rs 0).n:=hR.ny (by omega) (by omega);refine ar O (aW (hS.rd 0 O) O (a8 (hS.rd 0 O) O (aF kC.top.2 O (b6 kC.top O ?_))));refine bk O O (bM O ?_);refine jj O ?_;exact⟨by rw [e0],hS.none⟩
theorem di.take{w:aa}{A:aj}{n l:Nat}{xs:ai}(h:di w A n xs)(hl:l<=n):di w A l (xs.take l):=by
 have:=h.cut (l:=0) (h:=l) (c:=0) (bm _) hl;refine⟨by rw [qF,h.1];omega,fun k hk=>?_⟩;obtain⟨q,h1,h2⟩:=h.2 k (by omega);exact⟨q,h1,by rw [h2];simp [tl,hk,dd]⟩
end
end Go.Proofs.YtopgfgdgfjddpaaGreatDoor.Vc
