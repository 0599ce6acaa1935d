/-
 Lemmas. Conditions: as each states them.
-/
import Derived.Test.YtagdamiiececaaaGreatDoorZh
set_option maxHeartbeats 8000000
namespace Go.Proofs.YtagdamiiececaaaGreatDoor.Vc
open Go.RowKit Tryz
variable{w w' jY w0 w1:aa}{c3 i j:Nat}{A3:aj}{os:List aL}
theorem TR{α:Type}(m o:α)(X R:List α):(m::o::(X++ [])++R).Perm (o::((X++ (m::R))++ [])):=by
 classical
 refine l3.2 fun z=>?_
 simp only [mW,lB,nY,List.cons_append];omega
structure jG(w w':aa)(N n:Nat)(A3:aj)(c3:Nat)(os:List aL)(rss:List (List aL))(Xs:List (ah)):Prop where
 ol:os.length=n
 rl:rss.length=n
 xl:Xs.length=n
 on:∀i,i<n->(os.getD i cL).n=N
 rn:∀i,i<n->(rss.getD i []).length=N
 xn:∀i,i<n->(Xs.getD i []).length=N
 st:St w w' (bE 25 A3 n c3 os::(mz N os rss Xs++ []))
theorem jG.aq{N n:Nat}{rss:List (List aL)}{Xs:List (ah)}(h:jG w w' N n A3 c3 os rss Xs)(hb:Below w'.heap.size w' jY):jG w jY N n A3 c3 os rss Xs:=⟨h.ol,h.rl,h.xl,h.on,h.rn,h.xn,h.st.aq hb⟩
theorem jG.rows{N n:Nat}{rss:List (List aL)}{Xs:List (ah)}(h:jG w w' N n A3 c3 os rss Xs){k:Nat}(hk:k<n):
 St w w' (bE 25 A3 n c3 os::(aQ 24 2 (os.getD k cL).a N (os.getD k cL).c (rss.getD k []) (Xs.getD k [])++mz N (os.eraseIdx k) (rss.eraseIdx k) (Xs.eraseIdx k))):=by
 have h9:=h.st;rw [fO]at h9;have h1:=h.ol;have h2:=h.rl;have h3:=h.xl;exact h9.perm ((CM N (by omega) (by omega) (by omega)).cons _)
theorem jG.aQ{N n:Nat}{rss:List (List aL)}{Xs:List (ah)}(h:jG w w' N n A3 c3 os rss Xs){k:Nat}(hk:k<n):bq w' (os.getD k cL).a N (rss.getD k []) (Xs.getD k []):=((h.rows hk).sub ((kU _ _).cons _)).kq (h.xn k hk)
theorem getD_set_ne{α:Type}{l:List α}{x d:α}(h:i≠j):(l.set i x).getD j d=l.getD j d:=by
 rw [cz,cz,List.getElem?_set_ne h]
theorem Ht{α:Type}{l:List α}{x d:α}(h:i<l.length):(l.set i x).getD i d=x:=by
 rw [cz,List.getElem?_set_self h];rfl
theorem jG.put{N n:Nat}{rss:List (List aL)}{Xs:List (ah)}(h:jG w0 w1 N n A3 c3 os rss Xs){k:Nat}(hk:k<n){r:List aL}{X:ah}(hr:r.length=N)(hX:X.length=N)(hS:St w w' (bE 25 A3 n c3 os::(Vc.aQ 24 2 (os.getD k cL).a N (os.getD k cL).c r X++mz N (os.eraseIdx k) (rss.eraseIdx k) (Xs.eraseIdx k)))):jG w w' N n A3 c3 os (rss.set k r) (Xs.set k X):=by
 have h1:=h.ol;have h2:=h.rl;have h3:=h.xl;refine⟨h1,by rw [ij];exact h2,by rw [ij];exact h3,h.on,fun i hi=>?_,fun i hi=>?_,?_⟩
 ·by_cases e:k=i
  ·subst e;rw [Ht (by omega)];exact hr
  rw [getD_set_ne e];exact h.rn i hi
 ·by_cases e:k=i
  ·subst e;rw [Ht (by omega)];exact hX
  rw [getD_set_ne e];exact h.xn i hi
 rw [fO];exact hS.perm ((Nx N r X (by omega) (by omega) (by omega)).cons _)
theorem Sw(A:aj)(N c:Nat)(rs:List aL)(fl:ah)(n:Nat)(w:aa)(hM:bq w A N rs fl)(DG:0<N)(hN:N<=400)(hn:n<=5)(hl:∀x∈fl,x.length=n)(mK:fl.Nodup):
 aJ prog 182 [.slice A N c] w (fun v w'=>∃A3 c3 os rss,v= .slice A3 n c3/\jG w w' N n A3 c3 os rss (gn n fl N 0 0)):=by
 have fB:=hM.len;have ql:∀f:Nat,f<N->gl fl f∈fl:=fun f hf=>by rw [cX (by omega)];exact dU _
 have bH:∀f:Nat,f<N->(rg rs f).n=n:=fun f hf=>by
  have:=(hM.at_ (i:=(f:Int)) (by omega) (by omega)).1;rw [<-this];exact hl _ (ql f hf)
 have Jh:=fun a b i (ha:a<N) (hb:b<N) (hi:i<n)=>NG (n:=n) (a:=a) (b:=b) (i:=i) mK hl (by omega) (by omega) hi
 have hz:=TC (n:=n) (fl:=fl);have Jy:=fun a=>TA (n:=n) (fl:=fl) (a:=a)
 rw [fB]at hz;simp only [fB]at Jy;have oB:∀a b k i,(mP n fl a b k i).length=N:=fun a b k i=>by rw [rJ,fB]
 refine br func182 O ntmps182 O (cw O) (a8 O (iB (St.refl w) O ?_));intro A3 w1 ay;have zM:jG w w1 N 0 A3 0 [] [] (List.replicate 0 (List.replicate N [])):=⟨O,O,O,fun i h=>absurd h (gM _),fun i h=>absurd h (gM _),fun i h=>absurd h (gM _),ay⟩;clear ay;refine aE O (Cd.loop (α:=Nat×(aj×Nat)×List aL×List (List aL)) (fun z=> [(0,.slice A N c),(3,.slice z.2.1.1 z.1 z.2.1.2),(4,ak (z.1:Int))]) (fun z w'=>z.1<=n/\jG w w' N z.1 z.2.1.1 z.2.1.2 z.2.2.1 z.2.2.2 (List.replicate z.1 (List.replicate N []))) (fun z=>n - z.1) (0,(A3,0),[],[]) (WM O) ⟨bn _,zM⟩ ?_);clear zM;rintro⟨i,⟨A3,c3⟩,os,rss⟩ e w2 ⟨hi,hS⟩;dsimp only at hi hS|-;have wX:=hS.st.bO hM;have oF:=bH 0 DG;refine a8 O (ba O O (ar O ?_));refine bY 12 O (fun _=>?_) (fun h=>absurd (by omega) h);refine au O (ar O (au O (ar O (au O ?_))));refine WB (i:=0) wX.top.2 O O O (by omega) (by omega) (au O ?_);refine WJ (i:=0) wX.top O (by show 0<N;omega) O O ?_;refine au O (ba O O (au O (aE O ?_)));have e0:(rg rs 0).n=n:=oF;rw [e0];refine aN _ O (fun h2=>?_) (fun h2=>?_)
 ·have de:i<n:=by omega
  refine aG O (ba O O ?_);refine y3 N hS.st O O (by omega) ?_;intro FP w3 aU;have aU:=yw (t:=2) N aU;have aU:=aU.perm (TR _ _ _ _);refine l6 aU O O O fun A26 w4 bd=>l5 1 bd O (bd.fz 0 O) O O O (by omega) (by omega) O ?_;intro AZ cZ w5 bh;have bh:=bh.tail;have h1:=hS.ol;have HC:=hS.rl;have h3:=hS.xl;have lJ:=GS N (os:=os) (rss:=rss) (Xs:=List.replicate i (List.replicate N [])) ⟨FP,N,N⟩ (List.replicate N cL) (List.replicate N []) (by omega) (by simp;omega);refine ar O (aK O (aR O (tQ ?_)));refine⟨(i+1,(AZ,cZ),os++ [⟨FP,N,N⟩],rss++ [List.replicate N cL]),by show n - (i+1)<n - i;omega,(WM O),by show i+1<=n;omega,?_⟩;have nz:∀ {α:Type} {l:List α} {x d:α} {j:Nat},l.length=i->j<i+1->(l++ [x]).getD j d=if j<i then l.getD j d else x:=fun {α l x d j} hl hj=>by
   rw [cz]
   by_cases c:j<i
   ·rw [aF c,lY (by omega),cz]
   obtain rfl:j=l.length:=by omega
   rw [aC c];simp
  refine⟨by simp [h1],by simp [HC],by simp,fun j hj=>?_,fun j hj=>?_,fun j hj=>?_,?_⟩
  ·rw [nz h1 hj]
   split
   ·exact hS.on j (by assumption)
   rfl
  ·rw [nz HC hj]
   split
   ·exact hS.rn j (by assumption)
   simp
  ·rw [cz,List.getElem?_replicate,aF hj];simp
  rw [List.replicate_succ',lJ];exact bh
 obtain rfl:i=n:=by omega
 rw [<-hz]at hS;refine bk O (bm (mw O ?_));refine Cd.loop (α:=Nat×List (List aL)) (fun z=> [(0,.slice A N c),(3,.slice A3 i c3),(5,ak (z.1:Int))]) (fun z w'=>z.1<=N/\jG w w' N i A3 c3 os z.2 (gn i fl z.1 0 0)) (fun z=>N - z.1) (0,rss) (WM O) ⟨bn _,hS⟩ ?_;clear hS wX;rintro⟨a,rss⟩ e w3 ⟨ha,hS⟩;dsimp only at ha hS|-;refine a8 O (ba O O (aE O ?_));refine aN _ O (fun h3=>?_) (fun h3=>?_)
 ·have qh:a<N:=by omega
  refine df O (Cd.loop (α:=Nat×List (List aL)) (fun z=> [(0,.slice A N c),(3,.slice A3 i c3),(5,ak a),(6,ak (z.1:Int))]) (fun z w'=>z.1<=N/\jG w w' N i A3 c3 os z.2 (gn i fl a z.1 0)) (fun z=>N - z.1) (0,rss) (WM O) ⟨bn _,hS⟩ ?_);clear hS;rintro⟨b,rss⟩ e w4 ⟨hb,hS⟩;dsimp only at hb hS|-;refine a8 O (ba O O (aE O ?_));refine aN _ O (fun h4=>?_) (fun h4=>?_)
  ·have vg:b<N:=by omega
   have tD:=hS.st.bO hM;have ln:=tD.at_ (i:=(a:Int)) (by omega) (by omega);have mh:=tD.at_ (i:=(b:Int)) (by omega) (by omega);have AB:=bH a qh;have I7:=bH b vg;refine df O ?_;refine dL [xS (A) (N) (c),xI ((a:Int)),xP (aD (A) ((a:Int)).toNat),xS ((rg (rs) ((a:Int))).a) ((rg (rs) ((a:Int))).n) ((rg (rs) ((a:Int))).c),xS (A) (N) (c),xI ((b:Int)),xP (aD (A) ((b:Int)).toNat),xS ((rg (rs) ((b:Int))).a) ((rg (rs) ((b:Int))).n) ((rg (rs) ((b:Int))).c),xI ((oh (gl fl a) (gl fl b) (rg rs a).n:Nat):Int),xB (decide (¬((oh (gl fl a) (gl fl b) (rg rs a).n:Nat):Int)=((1:Int))))] O (dV O) ?_ ?_
   ·refine⟨Dr O,Dr O,fun _ _ hb _ _=>aB (tD.top.aq hb).2 O Az,fun _ _ hb _ _=>ck (tD.top.aq hb) O Az,Dr O,Dr O,fun _ _ hb _ _=>aB (tD.top.aq hb).2 O Az,fun _ _ hb _ _=>ck (tD.top.aq hb) O Az,?_,Dr O,av⟩;intro e1 w1 hb hp aX;refine aI (Sp (rg rs a).a (rg rs b).a (rg rs a).n (rg rs a).c (rg rs b).n (rg rs b).c (gl fl a) (gl fl b) _ (ln.aq hb) (mh.aq hb) (by omega) (by omega)) O ?_;rintro _ w9 ⟨rfl,nI⟩;exact ao.n (gK.dn nI.below O)
   intro u w5 fm _;have bh:=hS.aq fm;refine fq O (aN _ O (fun h5=>?_) (fun h5=>?_))
   ·have kj:=Ty (n:=i) (fl:=fl) (a:=a) (b:=b) fun q hq h=>h5 (by
     have:=((Jh a b q qh vg hq).2 h).1;rw [AB,this];rfl)
    refine aG O (aK O (aR O (tQ ?_)));exact⟨(b+1,rss),by show N - (b+1)<N - b;omega,(WM O),by show b+1<=N;omega,by show jG w w5 N i A3 c3 os rss (gn i fl a (b+1) 0);rw [kj];exact bh⟩
   have h5:oh (gl fl a) (gl fl b) i=1:=by rw [AB]at h5;omega
   clear hS tD ln mh;refine df O (Cd.loop (α:=Nat×List (List aL)) (fun z=> [(0,.slice A N c),(3,.slice A3 i c3),(5,ak a),(6,ak b),(7,ak (z.1:Int))]) (fun z w'=>z.1<=i/\jG w w' N i A3 c3 os z.2 (gn i fl a b z.1)) (fun z=>i - z.1) (0,rss) (WM O) ⟨bn _,bh⟩ ?_);clear bh;rintro⟨k,rss⟩ e w6 ⟨hk,hS⟩;dsimp only at hk hS|-;have jO:=hS.st.bO hM;have ln:=jO.at_ (i:=(a:Int)) (by omega) (by omega);have mh:=jO.at_ (i:=(b:Int)) (by omega) (by omega);have Qn:=ln.1;have Aq:=mh.1;refine a8 O (aB jO.top.2 O (ck jO.top O ?_));refine ba O O (aE O ?_);refine aN _ O (fun h6=>?_) (fun h6=>?_)
   ·have dz:k<i:=by omega
    have xz:=Jh a b k qh vg dz;refine df O ?_;refine dL [xS (A) (N) (c),xI ((a:Int)),xP (aD (A) ((a:Int)).toNat),xS ((rg (rs) ((a:Int))).a) ((rg (rs) ((a:Int))).n) ((rg (rs) ((a:Int))).c),xI ((k:Int)),xP (aD ((rg (rs) ((a:Int))).a) ((k:Int)).toNat),xI (gi (gl fl a) ((k:Int))),xS (A) (N) (c),xI ((b:Int)),xP (aD (A) ((b:Int)).toNat),xS ((rg (rs) ((b:Int))).a) ((rg (rs) ((b:Int))).n) ((rg (rs) ((b:Int))).c),xI ((k:Int)),xP (aD ((rg (rs) ((b:Int))).a) ((k:Int)).toNat),xI (gi (gl fl b) ((k:Int))),xB (decide (¬(gi (gl fl a) ((k:Int)))=(gi (gl fl b) ((k:Int)))))] O (dV O) ?_ ?_
    ·exact⟨Dr O,Dr O,fun _ _ hb _ _=>aB (jO.top.aq hb).2 O Az,fun _ _ hb _ _=>ck (jO.top.aq hb) O Az,Dr O,fun _ _ hb _ _=>aB (ln.aq hb).2 O Az,fun _ _ hb _ _=>aW (ln.aq hb) O Az,Dr O,Dr O,fun _ _ hb _ _=>aB (jO.top.aq hb).2 O Az,fun _ _ hb _ _=>ck (jO.top.aq hb) O Az,Dr O,fun _ _ hb _ _=>aB (mh.aq hb).2 O Az,fun _ _ hb _ _=>aW (mh.aq hb) O Az,Dr O,av⟩
    intro u w7 rb _;have bl:=hS.aq rb;clear hS jO ln mh;refine fq O (aN _ O (fun h7=>?_) (fun h7=>?_))
    ·have gG:=xz.1 ⟨h5,h7⟩;have vD:=Tz (n:=i) (fl:=fl) (b:=b) dz (by omega:a<fl.length) gG;have vG:=bl.rows dz;have hX:=Fh (n:=i) (fl:=fl) (a:=a) (b:=b) (k:=k) dz;have ll:=bl.aQ dz;have Er:=bl.on k dz;have fp:=bl.rn k dz;rw [hX]at vG ll;have Jz:=ll.at_ (i:=(a:Int)) (by omega) (by omega);have hbound:(rg (rss.getD k []) a).n<=500:=by
      rw [<-Jz.1,Fi (by omega)];unfold mO;rw [aC (Nat.lt_irrefl _),aF rfl,aC (Nat.lt_irrefl _)];have:=Kl i fl k a b;omega
     obtain⟨oa,oc,ho⟩:∃oa oc,os.getD k cL=⟨oa,N,oc⟩:=⟨(os.getD k cL).a,(os.getD k cL).c,by rw [<-Er]⟩;have AJ:(os.getD k cL).v= .slice oa N oc:=by rw [ho];rfl
     rw [ho]at vG ll;obtain⟨rk,jg⟩:∃rk,rss.getD k []=rk:=⟨_,rfl⟩;obtain⟨Xk,DU⟩:∃Xk,mP i fl a b k k=Xk:=⟨_,rfl⟩;have Im:Xk.length=N:=by rw [<-DU];exact oB ..
     rw [jg,DU]at vG ll Jz;rw [jg]at fp hbound;rw [DU]at vD;obtain⟨KS,HZ⟩:∃KS,mz N (os.eraseIdx k) (rss.eraseIdx k) ((gn i fl a b k).eraseIdx k)=KS:=⟨_,rfl⟩;rw [HZ]at vG;have hO:im w7 A3 i os:=vG.fz 0 O;have nB:∀A9:aj,(aw 2 A9 1 1 [(b:Int)]::bE 25 A3 i c3 os::(aQ 24 2 oa N oc rk Xk++KS))[2+1+a]?=some (aw 2 (rg rk a).a (rg rk a).n (rg rk a).c (gl Xk a)):=fun A9=>vN (t1:=24) (t2:=2) (A:=oa) (n:=N) (c:=oc) (rs:=rk) (xss:=Xk) (pre:=[aw 2 A9 1 1 [(b:Int)],bE 25 A3 i c3 os]) (ks:=KS) (i:=a) (by omega) (by omega)
     have nz:=fun(A9:aj) (s:aL) (xs:ai)=>Fa (t1:=24) (t2:=2) (A:=oa) (n:=N) (c:=oc) (rs:=rk) (xss:=Xk) (ks:=KS) (pre:=[aw 2 A9 1 1 [(b:Int)],bE 25 A3 i c3 os]) (i:=a) s xs (by omega) (by omega)
     refine ja [14,16] [yS (A3) (i) (c3),yI ((k:Int)),yP (aD A3 ((k:Int)).toNat),yS (oa) (N) (oc),yI ((a:Int)),yS (A3) (i) (c3),yI ((k:Int)),yP (aD A3 ((k:Int)).toNat),yS (oa) (N) (oc),yI ((a:Int)),yP (aD (oa) ((a:Int)).toNat),yS ((rg (rk) ((a:Int))).a) ((rg (rk) ((a:Int))).n) ((rg (rk) ((a:Int))).c),yI ((b:Int)),.pr (fun v w'=>∃A9,v= .slice A9 1 1/\St w w' (aw 2 A9 1 1 [(b:Int)]::bE 25 A3 i c3 os::(aQ 24 2 oa N oc rk Xk++KS))),.pr (fun v w'=>∃AZ cZ,v= .slice AZ ((rg rk a).n+1) cZ/\St w w' (bE 25 A3 i c3 os::(bE 24 oa N oc rk::(b6 2 (rk.set a ⟨AZ,(rg rk a).n+1,cZ⟩) (Xk.set a (gl Xk a++ [(b:Int)]))++KS)))),yP (aD oa ((a:Int)).toNat),.pr (fun _ w'=>∃AZ cZ,St w w' (bE 25 A3 i c3 os::(aQ 24 2 oa N oc (rk.set a ⟨AZ,(rg rk a).n+1,cZ⟩) (Xk.set a (gl Xk a++ [(b:Int)]))++KS)))] (by kernel_rfl) (by kernel_rfl) (ly (ly (ly (ly (ly (ly (ly (ly (ly (ly (ly (ly (ly (cM.2 ⟨Ye.cN (fun v w w' h hb=>by obtain⟨A9,hv,hT⟩:=h;exact⟨A9,hv,hT.aq hb⟩),(cM.2 ⟨Ye.cN (fun v w w' h hb=>by obtain⟨AZ,cZ,hv,hT⟩:=h;exact⟨AZ,cZ,hv,hT.aq hb⟩),(ly (cM.2 ⟨Ye.cN (fun v w w' h hb=>by obtain⟨AZ,cZ,hT⟩:=h;exact⟨AZ,cZ,hT.aq hb⟩),(fun _ h=>by cases h)⟩))⟩)⟩)))))))))))))) ?_ ?_
     ·refine⟨bT O,bT O,?_,?_,bT O,bT O,bT O,cP fun _ _ hb _ _ _=>aB (hO.aq hb).2 O (bB O O),cP fun _ _ hb _ _ _=>ao.ld (hO.aq hb).2 (j:=k) O (by omega) AJ O O (bB O O),bT O,cP fun _ _ hb _ _ _=>aB (ll.top.aq hb).2 O (bB O O),cP fun _ _ hb _ _ _=>ck (ll.top.aq hb) O (bB O O),bT O,?_,?_,?_,?_,av⟩
      ·intro e1 w1 cc dF bU dO hp aX hq;show ao _ _ _ _ _ _ _;have hX:im w1 A3 i os:=by { have bU:=lQ bU (b:=1) (by kernel_rfl);rcases(show cc=0\/cc=1 by omega)with h | h; { exact hO.aq (dO h) }; { subst h;obtain⟨AZ,cZ,_,hT⟩:=hq 14 _ _ (by kernel_rfl) (by kernel_rfl) (by kernel_rfl) rfl rfl (by kernel_rfl);exact hT.fz 0 rfl } }
       refine aB hX.2 O (ao.n (eO O (by exact O)))
      ·intro e1 w1 cc dF bU dO hp aX hq;show ao _ _ _ _ _ _ _;have hX:im w1 A3 i os:=by { have bU:=lQ bU (b:=1) (by kernel_rfl);rcases(show cc=0\/cc=1 by omega)with h | h; { exact hO.aq (dO h) }; { subst h;obtain⟨AZ,cZ,_,hT⟩:=hq 14 _ _ (by kernel_rfl) (by kernel_rfl) (by kernel_rfl) rfl rfl (by kernel_rfl);exact hT.fz 0 rfl } }
       refine ao.ld hX.2 (j:=k) O (by omega) AJ O O (ao.n (eO O (by exact O)))
      ·refine cP fun e1 w1 hb hp aX hq=>?_
       exact eE (St.refl _) O O O fun A9 w9 ax=>ao.n (eX.dn O ax.below ⟨A9,O,(vG.aq hb).call ax⟩)
      ·refine jc fun e1 w1 hb hp aX hq=>?_
       obtain⟨A9,OP,hT⟩:=(hp 13 _ _ (by kernel_rfl) rfl rfl (by kernel_rfl));refine fj (2+1+a) hT (nB A9) (hT.bo 0 O) O (by exact OP) O ?_;intro AZ cZ wZ hZ;have hZ:=(nz A9 ⟨AZ,(rg rk a).n+1,cZ⟩ (gl Xk a++ [(b:Int)]))▸hZ;exact ao.n (fg.dn O ⟨AZ,cZ,O,hZ.tail⟩)
      ·intro e1 w1 cc dF bU dO hp aX hq;show ao _ _ _ _ _ _ _;have hX:im w1 oa N rk:=by { have bU:=lQ bU (b:=1) (by kernel_rfl);rcases(show cc=0\/cc=1 by omega)with h | h; { exact ll.top.aq (dO h) }; { subst h;obtain⟨AZ,cZ,_,hT⟩:=hq 14 _ _ (by kernel_rfl) (by kernel_rfl) (by kernel_rfl) rfl rfl (by kernel_rfl);exact hT.fz 1 rfl } }
       refine aB hX.2 O (ao.n (eO O (by exact O)))
      refine pY 1 fun e1 w1 hp aX hq=>?_
      have eT:=hp 14 _ _ (by kernel_rfl) O O (by kernel_rfl);obtain⟨AZ,cZ,Dn,hT⟩:=eT;refine tl (te:=24) (n:=N) (c:=oc) (A:=oa) (xs:=rk) 1 hT O O (by exact Dn) (by omega) ?_;intro wY hY;exact ao.n (fg.st O ⟨AZ,cZ,hY⟩)
     intro u w8 _ hu _ _;obtain⟨AZ,cZ,hT⟩:=hu 16 _ rfl (by kernel_rfl);have H8:=bl.put dz (r:=rk.set a ⟨AZ,(rg rk a).n+1,cZ⟩) (X:=Xk.set a (gl Xk a++ [(b:Int)])) (by rw [ij];exact fp) (by rw [ij];exact Im) (by rw [ho,HZ];exact hT);rw [vD]at H8;refine gZ O (aK O (aR O (tQ ?_)));exact⟨(k+1,rss.set k (rk.set a ⟨AZ,(rg rk a).n+1,cZ⟩)),by show i - (k+1)<i - k;omega,(WM O),by show k+1<=i;omega,H8⟩
    have mj:=TB (n:=i) (fl:=fl) (a:=a) (b:=b) (k:=k) fun h=>h7 (xz.2 h).2
    refine aG O (aK O (aR O (tQ ?_)));exact⟨(k+1,rss),by show i - (k+1)<i - k;omega,(WM O),by show k+1<=i;omega,by show jG w w7 N i A3 c3 os rss (gn i fl a b (k+1));rw [mj];exact bl⟩
   have xG:k=i:=by omega
   have QN:=Tx (n:=i) (fl:=fl) (a:=a) (b:=b);rw [xG,<-QN]at hS;refine bk O (bm (ct O (aK O (aR O (tQ ?_)))));exact⟨(b+1,rss),by show N - (b+1)<N - b;omega,(WM O),by show b+1<=N;omega,hS⟩
  have Iv:b=N:=by omega
  rw [Iv,<-Jy]at hS;refine bk O (bm (ct O (aK O (aR O (tQ ?_)))));exact⟨(a+1,rss),by show N - (a+1)<N - a;omega,(WM O),by show a+1<=N;omega,hS⟩
 have Iq:a=N:=by omega
 rw [Iq]at hS;refine bk O (bm (fA O ?_));exact eW O ⟨A3,c3,os,rss,O,hS⟩
section
variable {P:Program} {N:Nat} {ops:Array Oper} {K:Env->aa->Prop} {rest:List Oper} {e:Env} {w:aa} {d:Nat} {ty:ae} {pos:String} {af:Array Edge} {x y:ag} {xt yt:ae}
theorem L8{m i:Nat}(hx:ev e x=ak m)(hy:ev e y= .int .u64 (i:Int))(hi:i<=5)(hm:m<=32)(hb:Nat.blt d N=true)(hK:ao P N ops K rest (bj e d (ak ((m / 2^i:Nat):Int))) w):
 ao P N ops K (⟨some d,.binOp .shr xt x y yt,ty,pos,af,none⟩::rest) e w:=by
 refine .val (v:=ak ((m / 2^i:Nat):Int)) ?_ hb hK;have e1:min i IntKind.i64.bits=i:=Nat.min_eq_left (jb hi (by decide));have e2:¬(i:Int)<0:=by omega
 have e3:(m:Int).fdiv (2^i)=((m / 2^i:Nat):Int):=by
  rw [Int.fdiv_eq_ediv_of_nonneg _ (by have:=Int.pow_nonneg (n:=2) (m:=i) (by decide);omega)];simp
 simp [execOp,hx,hy,eqGuard,binOp,Op.shift,e1,e2,e3]
theorem Gf{i:Nat}(hx:ev e x=ak 1)(hy:ev e y= .int .u64 (i:Int))(hi:i<=5)(hb:Nat.blt d N=true)(hK:ao P N ops K rest (bj e d (ak ((2^i:Nat):Int))) w):
 ao P N ops K (⟨some d,.binOp .shl xt x y yt,ty,pos,af,none⟩::rest) e w:=by
 refine .val (v:=ak ((2^i:Nat):Int)) ?_ hb hK;have e1:min i IntKind.i64.bits=i:=Nat.min_eq_left (jb hi (by decide));have e2:¬(i:Int)<0:=by omega
 have e3:IntKind.i64.wrap ((1:Int)*2^i)=((2^i:Nat):Int):=by
  rcases(by omega:i=0\/i=1\/i=2\/i=3\/i=4\/i=5)with rfl | rfl | rfl | rfl | rfl | rfl<;>decide
 rw [Int.one_mul]at e3;simp [execOp,hx,hy,eqGuard,binOp,Op.shift,e1,e2,e3]
theorem MA:∀m:Nat,m<33->bits .and .i64 (m:Int) 1=((m%2:Nat):Int):=by decide
theorem LN{m:Nat}(hx:ev e x=ak m)(hy:ev e y=ak 1)(hm:m<=32)(hb:Nat.blt d N=true)(hK:ao P N ops K rest (bj e d (ak ((m%2:Nat):Int))) w):
 ao P N ops K (⟨some d,.binOp .and xt x y yt,ty,pos,af,none⟩::rest) e w:=
 .val (by simp only [execOp,hx,hy,eqGuard,binOp,intBits_and,MA m (by omega)];simp) hb hK
end
structure wq(w:aa)(N n:Nat)(A3:aj)(os:List aL)(rss:List (List aL))(Xs:List (ah)):Prop where
 top:im w A3 n os
 on:∀i,i<n->(os.getD i cL).n=N
 row:∀i,i<n->bq w (os.getD i cL).a N (rss.getD i []) (Xs.getD i [])
theorem wq.aq{w w':aa}{N n:Nat}{A3:aj}{os:List aL}{rss:List (List aL)}{Xs:List (ah)}(h:wq w N n A3 os rss Xs)(hb:Below w.heap.size w w'):wq w' N n A3 os rss Xs:=⟨h.top.aq hb,h.on,fun i hi=> (h.row i hi).aq hb⟩
theorem jG.rd{w w':aa}{N n:Nat}{A3:aj}{c3:Nat}{os:List aL}{rss:List (List aL)}{Xs:List (ah)}(h:jG w w' N n A3 c3 os rss Xs):wq w' N n A3 os rss Xs:=⟨h.st.fz 0 rfl,h.on,fun _ hi=>h.aQ hi⟩
open Classical in
theorem Kn{n:Nat}{fl:ah}{i a:Nat}{y:Int}:y∈pC n fl i a↔∃y':Nat,y=y'/\y'<fl.length/\iM n fl i a y'/\y'≠a:=by
 unfold pC;rw [fh];constructor
 ·rintro⟨y',h,rfl⟩;rw [fZ,fP,jL]at h;exact⟨y',O,h.1,h.2⟩
 rintro⟨y',rfl,h1,h2⟩;exact⟨y',by rw [fZ,fP,jL];exact⟨h1,h2⟩,O⟩
def iN(mask:Nat)(i:Nat):Prop:=mask / 2^i%2=1
theorem Sv(A3:aj)(c3:Nat)(os:List aL)(rss:List (List aL))(fl:ah)(n N mask:Nat)(w:aa)(fB:fl.length=N)(hR:wq w N n A3 os rss (gn n fl N 0 0))(hm:mask<=32)(hN:N<=400)(hn:n<=5):
 aJ prog 183 [.slice A3 n c3,ak N,ak mask] w (fun v w'=>∃A' c' L,v= .slice A' N c'/\fX N (dQ n fl (iN mask)) N L/\St w w' [aw 2 A' N c' L]):=by
 have q7:qL N (dQ n fl (iN mask)):=fB▸dQ.sZ n fl (iN mask);have hX:∀i x:Nat,i<n->x<N->gl ((gn n fl N 0 0).getD i []) x=pC n fl i x:=fun i x hi hx=>by
  rw [Fh hi,Fi (by omega)];unfold mO;rw [aF hx,Kk]
 have eu:∀i,i<n->((gn n fl N 0 0).getD i []).length=N:=fun i hi=>by rw [Fh hi,rJ,fB]
 have gU:∀i x,(pC n fl i x).length<=N:=fun i x=>by rw [<-Kk,<-fB];exact Kl ..
 generalize gn n fl N 0 0=Xs at*;refine br func183 O ntmps183 O (cw O) (a8 O (iB (St.refl w) O ?_));intro A7 w1 ay;refine aE O (Cd.loop (α:=Nat×aj×Nat) (fun z=> [(0,.slice A3 n c3),(1,ak N),(2,ak mask),(7,.slice z.2.1 z.1 z.2.2),(8,ak (z.1:Int))]) (fun z w'=>z.1<=N/\St w w' [aw 2 z.2.1 z.1 z.2.2 (List.replicate z.1 (-1))]) (fun z=>N - z.1) (0,A7,0) (WM O) ⟨bn _,ay⟩ ?_);clear ay;rintro⟨i,A7,c7⟩ e w2 ⟨hi,hS⟩;dsimp only at hi hS|-;refine bX O (aN _ O (fun h1=>?_) (fun h1=>?_))
 ·refine aG O (eE (i:= -1) hS O O O ?_);intro A9 w3 aU;refine fj 1 aU O (aU.bo 0 O) O O O ?_;intro AZ cZ w4 bd;have bd:=bd.tail;refine ar O (aK O (aR O (tQ ?_)));exact⟨(i+1,AZ,cZ),by show N - (i+1)<N - i;omega,(WM O),by show i+1<=N;omega,by show St w w4 [aw _ AZ (i+1) cZ (List.replicate (i+1) (-1))];rw [List.replicate_succ'];exact bd⟩
 obtain rfl:i=N:=by omega
 refine bk O (bm (mw O ?_));refine Cd.loop (α:=Nat×ai) (fun z=> [(0,.slice A3 n c3),(1,ak i),(2,ak mask),(7,.slice A7 i c7),(9,ak (z.1:Int))]) (fun z w'=>z.1<=i/\fX i (dQ n fl (iN mask)) z.1 z.2/\St w w' [aw 2 A7 i c7 z.2]) (fun z=>i - z.1) (0,List.replicate i (-1)) (WM O) ⟨bn _,fX.zero _ _,hS⟩ ?_;clear hS;rintro⟨f,L0⟩ e w3 ⟨hf,lb,hS⟩;dsimp only at hf lb hS|-;have ou:=lb.1;refine bX O (aN _ O (fun h1=>?_) (fun h1=>?_))
 ·have gE:f<i:=by omega
  have lh:=hS.bo 0 O;have DC:dQ n fl (iN mask) f f:= .refl (by omega);refine aG O (aB lh.2 O (aW lh O (aE O ?_)));refine aN _ O (fun h2=>?_) (fun h2=>?_)
  ·refine aG O (aK O (aR O (tQ ?_)));exact⟨(f+1,L0),by show i - (f+1)<i - f;omega,(WM O),by show f+1<=i;omega,lb.skip q7 gE (.inl h2),hS⟩
  have h0:gi L0 f<0:=by omega
  refine aG O (aB lh.2 O (il 0 hS O O O (by omega) ?_));intro w4 bd;have bd:St w w4 [aw 2 A7 i c7 (L0.set f (f:Int))]:=bd;refine ar O (eE bd O O O ?_);intro b9 w5 bh;have dW:=jJ.start (A:=rV n fl (iN mask)) ou gE h0 DC;refine aE O (Cd.loop (α:=Nat×ai×List Nat×aj×Nat) (fun z=> [(0,.slice A3 n c3),(1,ak i),(2,ak mask),(7,.slice A7 i c7),(9,ak f),(10,.slice z.2.2.2.1 z.2.2.1.length z.2.2.2.2),(11,ak (z.1:Int))]) (fun z w'=>jJ i (dQ n fl (iN mask)) (rV n fl (iN mask)) f L0 z.2.1 z.2.2.1 z.1/\St w w' [aw 2 z.2.2.2.1 z.2.2.1.length z.2.2.2.2 (gW z.2.2.1),aw 2 A7 i c7 z.2.1]) (fun z=>i+1 - z.1) (0,L0.set f (f:Int),[f],b9,1) (WM O) ⟨dW,bh⟩ ?_);clear bh bd hS lh dW;rintro⟨k,L,Q,Ao,co⟩ e w6 ⟨dW,hS⟩;dsimp only at dW hS|-;have rz:=dW.s5;have gR:=dW.Bj;refine a8 O (ba O O (aE O ?_));refine aN _ O (fun h3=>?_) (fun h3=>?_)
  ·have fG:k<Q.length:=by omega
   obtain⟨x,hx⟩:∃x,Q.getD k 0=x:=⟨_,rfl⟩;have yf:x∈Q:=by rw [<-hx,cz,eS fG];exact dU _
   have fT:=dW.sP x yf;refine df O (Cd.loop (α:=Nat×ai×List Nat×aj×Nat) (fun z=> [(0,.slice A3 n c3),(1,ak i),(2,ak mask),(7,.slice A7 i c7),(9,ak f),(10,.slice z.2.2.2.1 z.2.2.1.length z.2.2.2.2),(11,ak k),(12,ak (z.1:Int))]) (fun z w'=>z.1<=n/\jJ i (dQ n fl (iN mask)) (rV n fl (iN mask)) f L0 z.2.1 z.2.2.1 k/\(k<z.2.2.1.length/\z.2.2.1.getD k 0=x)/\(∀q y:Nat,q<z.1->¬iN mask q->iM n fl q x y->y≠x->0<=gi z.2.1 y)/\St w w' [aw 2 z.2.2.2.1 z.2.2.1.length z.2.2.2.2 (gW z.2.2.1),aw 2 A7 i c7 z.2.1]) (fun z=>n - z.1) (0,L,Q,Ao,co) (WM O) ⟨bn _,dW,⟨fG,hx⟩,fun q y h=>absurd h (gM _),hS⟩ ?_);clear hS dW hx yf fG rz gR h3;rintro⟨r,Li,Qi,Ao,co⟩ e w7 ⟨hr,dW,⟨fG,hx⟩,jR,hS⟩;dsimp only at hr dW fG hx jR hS|-;refine a8 O (ba O O (aE O ?_));refine aN _ O (fun h4=>?_) (fun h4=>?_)
   ·have fp:r<n:=by omega
    refine aG O (nZ O O (rT _ (by omega)) (L8 O O (by omega) hm O (LN O O (jb (Nat.div_le_self _ _) hm) O (aE O ?_))));refine aN _ O (fun h5=>?_) (fun h5=>?_)
    ·have hb:iN mask r:=by unfold iN;omega
     refine aG O (aK O (aR O (tQ ?_)));exact⟨(r+1,Li,Qi,Ao,co),by show n - (r+1)<n - r;omega,(WM O),by show r+1<=n;omega,dW,⟨fG,hx⟩,fun q y hq hs ha bL=>by
      by_cases eq:q=r
      ·subst eq;exact absurd hb hs
      exact jR q y (by have hq:q<r+1:=hq;omega) hs ha bL,hS⟩
    have hb:¬iN mask r:=by unfold iN;omega
    have zR:=hR.aq hS.below;have Er:=hR.on r fp;have ll:=zR.row r fp;have Bf:=hX r x fp fT.1;have Im:=eu r fp;have QC:=gU r x;have fS:∀ {w':aa} {ks:List Ck},St w w' ks->bu w' (rg (rss.getD r []) x).a (rg (rss.getD r []) x).n (pC n fl r x):=fun h=>by
     have h9:=((hR.aq h.below).row r fp).at_ (i:=(x:Int)) (by omega) (by omega);rw [Bf]at h9;exact h9
    obtain⟨oa,oc,ho⟩:∃oa oc,os.getD r cL=⟨oa,i,oc⟩:=⟨(os.getD r cL).a,(os.getD r cL).c,by rw [<-Er]⟩;have AJ:(os.getD r cL).v= .slice oa i oc:=by rw [ho];rfl
    rw [ho]at ll;generalize hXr:Xs.getD r []=Xr at*;generalize hrr:rss.getD r []=rr at*;have bW:=ll.at_ (i:=(x:Int)) (by omega) (by omega);rw [Bf]at bW;have vI:=bW.1;have xv:gi (gW Qi) k=(x:Int):=by rw [JO fG,hx]
    have rz:=dW.s5;have tH:=hS.bo 0 O;have z6:(gW Qi).length=Qi.length:=by simp [gW]
    refine df O (dL [xS (A3) (n) (c3),xI ((r:Int)),xP (aD A3 ((r:Int)).toNat),xS (oa) (i) (oc),xS (Ao) (Qi.length) (co),xI ((k:Int)),xP (aD (Ao) ((k:Int)).toNat),xI ((x:Int)),xP (aD (oa) ((x:Int)).toNat),xS ((rg (rr) ((x:Int))).a) ((rg (rr) ((x:Int))).n) ((rg (rr) ((x:Int))).c),xS ((rg (rr) ((x:Int))).a) ((rg (rr) ((x:Int))).n) ((rg (rr) ((x:Int))).c)] O (dV O) ?_ ?_)
    ·exact⟨Dr O,Dr O,fun _ _ hb _ _=>aB (zR.top.aq hb).2 O Az,fun _ _ hb _ _=>ao.ld (zR.top.aq hb).2 (j:=r) O (by omega) AJ O O Az,Dr O,Dr O,fun _ _ hb _ _=>aB (tH.aq hb).2 O Az,fun _ _ hb _ _=>ao.ld (tH.aq hb).2 (j:=k) O (by omega) (by exact aH (Value.int .i64) xv) O O Az,fun _ _ hb _ _=>aB (ll.top.aq hb).2 O Az,fun _ _ hb _ _=>ck (ll.top.aq hb) O Az,Dr O,av⟩
    intro u w8 tL _;have b7:=hS.aq tL;clear ll zR tH hS;obtain⟨sx,x9⟩:∃sx,rg rr x=sx:=⟨_,rfl⟩;rw [x9]at vI|-;simp only [x9]at fS;obtain⟨ys,sO⟩:∃ys,pC n fl r x=ys:=⟨_,rfl⟩;simp only [sO]at fS;rw [sO]at vI QC;have vc:∀y∈ys,∃y':Nat,y=y'/\y'<i/\iM n fl r x y'/\y'≠x:=fun y hy=>by
     rw [<-sO]at hy;rw [<-fB];exact Kn.1 hy
    refine fq O (Cd.loop (α:=Nat×ai×List Nat×aj×Nat) (fun z=> [(0,.slice A3 n c3),(1,ak i),(2,ak mask),(7,.slice A7 i c7),(9,ak f),(10,.slice z.2.2.2.1 z.2.2.1.length z.2.2.2.2),(11,ak k),(12,ak r),(13,.slice sx.a sx.n sx.c),(14,ak (z.1:Int))]) (fun z w'=>z.1<=sx.n/\jJ i (dQ n fl (iN mask)) (rV n fl (iN mask)) f L0 z.2.1 z.2.2.1 k/\(k<z.2.2.1.length/\z.2.2.1.getD k 0=x)/\(∀p:Nat,p<z.1->0<=gi z.2.1 (gi ys p))/\(∀y:Nat,0<=gi Li y->0<=gi z.2.1 y)/\St w w' [aw 2 z.2.2.2.1 z.2.2.1.length z.2.2.2.2 (gW z.2.2.1),aw 2 A7 i c7 z.2.1]) (fun z=>sx.n - z.1) (0,Li,Qi,Ao,co) (WM O) ⟨bn _,dW,⟨fG,hx⟩,fun p h=>absurd h (gM _),fun y h=>h,b7⟩ ?_);clear b7 dW fG hx xv z6 rz;rintro⟨q,L,Q,Ao,co⟩ e eh ⟨hq,dW,⟨fG,hx⟩,ru,pe,hS⟩;dsimp only at hq dW fG hx ru pe hS|-;have rz:=dW.s5;have O7:=dW.len;refine a8 O (ba O O (aE O ?_));refine aN _ O (fun h6=>?_) (fun h6=>?_)
    ·have Ez:q<ys.length:=by omega
     have qu:=fS hS;obtain⟨y,hy,rC,yk,Rf⟩:=vc _ (gi_in Ez);have lh:=hS.bo 1 O;refine aG O (aB qu.2 O (aW qu O ?_));rw [hy];refine aB lh.2 O (aW lh O (aE O ?_));refine aN _ O (fun h7=>?_) (fun h7=>?_)
     ·have ll:=dW.meet rC h7 (q7.qF _ _ _ fT.2.2 (rV.link ⟨r,fp,hb,yk,Rf⟩));refine aG O (aB qu.2 O (aW qu O ?_));rw [hy];refine ar O (aB lh.2 O (il 1 hS O O O (by omega) ?_));intro gp eJ;have qu:=fS eJ;refine ar O (aB qu.2 O (aW qu O ?_));rw [hy];refine eE eJ O O O fun A9 lT iS=>fj 1 iS O (iS.bo 0 O) O O O ?_;intro AZ cZ lU gP;have gP:=gP.tail;have xL:(Q++ [y]).length=Q.length+1:=by simp
      refine ar O (aK O (aR O (tQ ?_)));refine⟨(q+1,L.set y (f:Int),Q++ [y],AZ,cZ),by show sx.n - (q+1)<sx.n - q;omega,⟨O,O,O,O,O,aH (fun m=>Value.slice AZ m cZ) xL.symm,O,O,O,O,av⟩,by show q+1<=sx.n;omega,ll,⟨by show k< (Q++ [y]).length;omega,by show(Q++ [y]).getD k 0=x;rw [Hs fG,hx]⟩,fun p hp=>?_,fun z hz=>wN (pe z hz),?_⟩
      ·by_cases ep:p=q
       ·subst ep;rw [hy];have h9:=Hv (L:=L) (y:=y) (f:=f) (by omega);show 0<=gi (L.set y (f:Int)) y;omega
       have hp:p<q+1:=hp;obtain⟨y9,yj,_,_⟩:=vc _ (gi_in (show p<ys.length by omega));have h9:=ru p (by omega);rw [yj]at h9|-;exact wN h9
      show St w lU [aw _ AZ (Q++ [y]).length cZ (gW (Q++ [y])),_];rw [xL,show gW (Q++ [y])=gW Q++ [(y:Int)] by simp [gW]];exact gP
     refine aG O (aK O (aR O (tQ ?_)));refine⟨(q+1,L,Q,Ao,co),by show sx.n - (q+1)<sx.n - q;omega,(WM O),by show q+1<=sx.n;omega,dW,⟨fG,hx⟩,fun p hp=>?_,pe,hS⟩
     by_cases ep:p=q
     ·subst ep;rw [hy];show 0<=gi L y;omega
     have hp:p<q+1:=hp;exact ru p (by omega)
    have dv:∀y:Nat,(y:Int)∈ys->0<=gi L y:=fun y hy=>by
     obtain⟨p,hp,e9⟩:=eZ.1 hy;rw [<-bF hp]at e9;have:=ru p (by omega)
     rwa [e9]at this
    refine bk O (bm (ct O (aK O (aR O (tQ ?_)))));refine⟨(r+1,L,Q,Ao,co),by show n - (r+1)<n - r;omega,(WM O),by show r+1<=n;omega,dW,⟨fG,hx⟩,fun q' y AM hs ha bL=>?_,hS⟩
    by_cases eq:q'=r
    ·subst eq;exact dv y (by rw [<-sO];exact Kn.2 ⟨y,O,ha.2.1,ha,bL⟩)
    exact pe y (jR q' y (by have AM:q'<r+1:=AM;omega) hs ha bL)
   have hre:r=n:=by omega
   have rz:=dW.s5;have oD:=dW.next fG fun y hy=>by
    rw [hx]at hy;obtain⟨q,hq,hs,ha,bL⟩:=hy;exact jR q y (by omega) hs ha bL
   refine bk O (bm (ct O (aK O (aR O (tQ ?_)))));exact⟨(k+1,Li,Qi,Ao,co),by show i+1 - (k+1)<i+1 - k;have:=dW.s5;omega,(WM O),oD,hS⟩
  have fG:k=Q.length:=by omega
  subst fG;have rj:=dW.end_ q7 lb gE h0 (fun S ay aM=>dQ.ind S ay aM) (fun x y h=>h.link);refine bk O (bm (ct O (aK O (aR O (tQ ?_)))));exact⟨(f+1,L),by show i - (f+1)<i - f;omega,(WM O),by show f+1<=i;omega,rj,hS.tail⟩
 have vn:f=i:=by omega
 rw [vn]at lb;refine bk O (bm (fA O ?_));exact eW O ⟨A7,c7,L0,O,lb,hS⟩
theorem dQ.cv{n:Nat}{fl:ah}{S S':Nat->Prop}(hS:∀k,k<n->(S k↔S' k)){u v:Nat}(h:dQ n fl S u v):dQ n fl S' u v:=by
 induction h with
 | refl h=>exact .refl h
 | step _ hi hs DX ih=>exact .step ih hi (fun h=>hs ((hS _ hi).2 h)) DX
def oN(a b:ai):Nat->Nat
 | 0=>0
 | i+1=>if gi a i=gi b i then oN a b i+2^i else oN a b i
theorem Fe(a b:ai):∀i,oN a b i<2^i
 | 0=>Nat.one_pos
 | i+1=>by
  have:=Fe a b i;unfold oN;rw [Nat.pow_succ]
  split<;>omega
theorem GA{m i:Nat}:iN m i↔m.testBit i=true:=by
 unfold iN;rw [Nat.testBit_eq_decide_div_mod_eq,jL]
theorem Kg(a b:ai):∀ {m i:Nat},i<m->(iN (oN a b m) i↔gi a i=gi b i)
 | 0,i,h=>absurd h (gM _)
 | m+1,i,h=>by
  have eQ:=Fe a b m;rw [GA];unfold oN
  by_cases e:i=m
  ·subst e;have hf:=Nat.testBit_lt_two_pow eQ
   split
   ·rename_i c;rw [Nat.add_comm,Nat.testBit_two_pow_add_eq,hf];exact⟨fun _=>c,fun _=>O⟩
   ·rename_i c;rw [hf];exact⟨fun h=> (by cases h),fun h=>absurd h c⟩
  ·have ih:=Kg a b (m:=m) (i:=i) (by omega);rw [GA]at ih
   split
   ·rw [Nat.add_comm,Nat.testBit_two_pow_add_gt (by omega)];exact ih
   ·exact ih
theorem Sx(A:aj)(N c:Nat)(rs:List aL)(fl:ah)(n:Nat)(w:aa)(hM:bq w A N rs fl)(DG:0<N)(hN:N<=400)(hn:n<=5)(hl:∀x∈fl,x.length=n)(mK:fl.Nodup):
 aJ prog 113 [.slice A N c] w (fun v w'=>∃A' n' c',v= .slice A' n' c'/\(n'=0↔uG n fl)/\St w w' []):=by
 have fB:=hM.len;have ql:∀f:Nat,f<N->gl fl f∈fl:=fun f hf=>by rw [cX (by omega)];exact dU _
 have bH:∀f:Nat,f<N->(rg rs f).n=n:=fun f hf=>by
  have:=(hM.at_ (i:=(f:Int)) (by omega) (by omega)).1;rw [<-this];exact hl _ (ql f hf)
 have h2n:2^n<=32:=jb (Nat.pow_le_pow_right (by decide) hn) (by decide);refine br func113 O ntmps113 O (cw O) (a8 O (aI (Sw A N c rs fl n w hM DG hN hn hl mK) O ?_));rintro _ w1 ⟨A3,c3,os,rss,rfl,zN⟩;have hR:=zN.rd;have qg:=zN.st.none;have hM:=zN.st.bO hM;clear zN;refine iB (St.refl w1) O fun A4 w2 aM=>aE O (Cd.loop (α:=Nat×(aj×Nat)×List aL×ah) (fun z=> [(0,.slice A N c),(3,.slice A3 n c3),(4,.slice z.2.1.1 z.1 z.2.1.2),(5,ak (z.1:Int))]) (fun z w'=>z.1<=2^n/\z.2.2.1.length=z.1/\z.2.2.2.length=z.1/\(∀q:Nat,q<z.1->fX N (dQ n fl (iN q)) N (gl z.2.2.2 q))/\St w1 w' (aQ 24 2 z.2.1.1 z.1 z.2.1.2 z.2.2.1 z.2.2.2++ [])) (fun z=>2^n - z.1) (0,(A4,0),[],[]) (WM O) ⟨bn _,O,O,fun q h=>absurd h (gM _),aM⟩ ?_);clear aM;rintro⟨m,⟨A4,c4⟩,bR,Ls⟩ e w3 ⟨hm,bM,ou,nv,hS⟩;dsimp only at hm bM ou nv hS|-;refine a8 O (ba O O ?_);refine nZ O O (rT _ (by omega)) (Gf O O hn O (aE O ?_));refine aN _ O (fun h1=>?_) (fun h1=>?_)
 ·have xM:m<2^n:=by omega
  refine aG O (ba O O (ar O ?_));refine aI (Sv A3 c3 os rss fl n N m w3 fB (hR.aq hS.below) (by omega) hN hn) O ?_;rintro _ w4 ⟨A9,c9,L,rfl,hL,ax⟩;have bd:=hS.call ax;refine l6 bd O O O fun A8 w5 bh=>l5 2 bh O (bh.fz 0 O) O O O (by omega) (by omega) O ?_;intro AZ cZ w6 bD;have bD:=bD.tail;have bl:St w1 w6 (aw 2 A9 N c9 L::bE 24 AZ (m+1) cZ (bR++ [⟨A9,N,c9⟩])::(b6 2 bR Ls++ [])):=bD;have bl:=bl.perm (Kx _ _ _ _);rw [<-rQ (by omega)]at bl;refine ar O (aK O (aR O (tQ ?_)));refine⟨(m+1,(AZ,cZ),bR++ [⟨A9,N,c9⟩],Ls++ [L]),by show 2^n - (m+1)<2^n - m;omega,(WM O),by show m+1<=2^n;omega,by simp [bM],by simp [ou],fun q hq=>?_,(by exact bl)⟩;have hq:q<m+1:=hq;have e9:gl (Ls++ [L]) q=if q<m then gl Ls q else L:=by
   rw [cX (by simp;omega)]
   by_cases c:q<m
   ·rw [aF c,cX (by omega),List.getElem_append_left (by omega)]
   obtain rfl:q=m:=by omega
   rw [aC c];simp [ou]
  show fX N _ N (gl (Ls++ [L]) q);rw [e9]
  split
  ·exact nv q (by assumption)
  obtain rfl:q=m:=by omega
  exact hL
 have Aw:m=2^n:=by omega
 have iR:bq w3 A4 m bR Ls:=by
  rw [fO]at hS;exact hS.kq ou
 have qZ:=hM.aq hS.below;have aU:=qg.aq hS.below;clear hS hR hM qg;refine bk O (bm (mw O ?_));refine Cd.loop (α:=Nat) (fun a=> [(0,.slice A N c),(4,.slice A4 m c4),(6,ak a)]) (fun a w'=>a<=N/\(∀a' b':Nat,a'<a->a'<b'->b'<N->dQ n fl (fun k=>gi (gl fl a') k=gi (gl fl b') k) a' b')/\St w3 w' []) (fun a=>N - a) 0 (WM O) ⟨bn _,fun a' b' h=>absurd h (gM _),St.refl _⟩ ?_;rintro a e w4 ⟨ha,vm,hS⟩;refine a8 O (ba O O (aE O ?_));refine aN _ O (fun h2=>?_) (fun h2=>?_)
 ·have qh:a<N:=by omega
  refine aG O (aK O (aE O ?_));refine Cd.loop (α:=Nat) (fun b=> [(0,.slice A N c),(4,.slice A4 m c4),(6,ak a),(7,ak b)]) (fun b w'=> (a<b/\b<=N)/\(∀b':Nat,a<b'->b'<b->dQ n fl (fun k=>gi (gl fl a) k=gi (gl fl b') k) a b')/\St w3 w' []) (fun b=>N - b) (a+1) (WM O) ⟨⟨Nat.lt_succ_self _,qh⟩,fun b' h h'=>by omega,hS⟩ ?_;clear hS;rintro b e w5 ⟨⟨ie,vg⟩,o8,hS⟩;refine a8 O (ba O O (aE O ?_));refine aN _ O (fun h3=>?_) (fun h3=>?_)
  ·have hb:b<N:=by omega
   have AB:=bH a qh;have I7:=bH b hb;refine df O (Cd.loop (α:=Nat) (fun i=> [(0,.slice A N c),(4,.slice A4 m c4),(6,ak a),(7,ak b),(8,ak ((oN (gl fl a) (gl fl b) i:Nat):Int)),(9,ak i)]) (fun i w'=>i<=n/\St w3 w' []) (fun i=>n - i) 0 (WM O) ⟨bn _,hS⟩ ?_);clear hS;rintro i e w6 ⟨hi,hS⟩;have jO:=qZ.aq hS.below;have ln:=jO.at_ (i:=(a:Int)) (by omega) (by omega);have mh:=jO.at_ (i:=(b:Int)) (by omega) (by omega);have Qn:=ln.1;have Aq:=mh.1;have Ay:=Fe (gl fl a) (gl fl b) i;have h2i:2^i<=32:=jb (Nat.pow_le_pow_right (by decide) (show i<=5 by omega)) (by decide);refine a8 O (aB jO.top.2 O (ck jO.top O ?_));refine ba O O (aE O ?_);refine aN _ O (fun h4=>?_) (fun h4=>?_)
   ·have de:i<n:=by omega
    refine df O ?_;refine dL [xS (A) (N) (c),xI ((a:Int)),xP (aD (A) ((a:Int)).toNat),xS ((rg (rs) ((a:Int))).a) ((rg (rs) ((a:Int))).n) ((rg (rs) ((a:Int))).c),xI ((i:Int)),xP (aD ((rg (rs) ((a:Int))).a) ((i:Int)).toNat),xI (gi (gl fl a) ((i:Int))),xS (A) (N) (c),xI ((b:Int)),xP (aD (A) ((b:Int)).toNat),xS ((rg (rs) ((b:Int))).a) ((rg (rs) ((b:Int))).n) ((rg (rs) ((b:Int))).c),xI ((i:Int)),xP (aD ((rg (rs) ((b:Int))).a) ((i:Int)).toNat),xI (gi (gl fl b) ((i:Int))),xB (decide ((gi (gl fl a) ((i:Int)))=(gi (gl fl b) ((i:Int)))))] O (dV O) ?_ ?_
    ·exact⟨Dr O,Dr O,fun _ _ hb _ _=>aB (jO.top.aq hb).2 O Az,fun _ _ hb _ _=>ck (jO.top.aq hb) O Az,Dr O,fun _ _ hb _ _=>aB (ln.aq hb).2 O Az,fun _ _ hb _ _=>aW (ln.aq hb) O Az,Dr O,Dr O,fun _ _ hb _ _=>aB (jO.top.aq hb).2 O Az,fun _ _ hb _ _=>ck (jO.top.aq hb) O Az,Dr O,fun _ _ hb _ _=>aB (mh.aq hb).2 O Az,fun _ _ hb _ _=>aW (mh.aq hb) O Az,Dr O,av⟩
    intro u w7 rb _;have bl:=hS.aq rb;refine fq O (aN _ O (fun h5=>?_) (fun h5=>?_))
    ·have nD:oN (gl fl a) (gl fl b) (i+1)=oN (gl fl a) (gl fl b) i+2^i:=by
      show(if _ then _ else _)=_;rw [aF h5]
     refine aG O (nZ O O (rT _ (by omega)) (Gf O O (by omega) O ?_));refine aK O (ar O (aK O (aR O (tQ ?_))));exact⟨i+1,by show n - (i+1)<n - i;omega,⟨O,O,O,O,aH (fun m:Nat=>Value.int .i64 (m:Int)) nD.symm,O,av⟩,by omega,bl⟩
    have nD:oN (gl fl a) (gl fl b) (i+1)=oN (gl fl a) (gl fl b) i:=by
     show(if _ then _ else _)=_;rw [aC h5]
    refine aG O (aK O (aR O (tQ ?_)));exact⟨i+1,by show n - (i+1)<n - i;omega,⟨O,O,O,O,aH (fun m:Nat=>Value.int .i64 (m:Int)) nD.symm,O,av⟩,by omega,bl⟩
   have tT:i=n:=by omega
   subst tT;obtain⟨K,hK⟩:∃K,oN (gl fl a) (gl fl b) i=K:=⟨_,rfl⟩;have D1:=fun k (hk:k<i)=>Kg (gl fl a) (gl fl b) hk
   rw [hK]at Ay|-;simp only [hK]at D1;have xc:=iR.aq hS.below;have xX:=xc.at_ (i:=(K:Int)) (by omega) (by omega);have H3:=nv K (by omega);have hLKl:=H3.1;have hrKn:=xX.1;have q7:qL N (dQ i fl (iN K)):=fB▸dQ.sZ i fl (iN K);have sC:=H3.done q7 (a:=a) (b:=b) (.refl (by omega)) (.refl (by omega));refine bk O (bm (mw O ?_));refine dL [xS (A4) (m) (c4),xI ((K:Int)),xP (aD (A4) ((K:Int)).toNat),xS ((rg (bR) ((K:Int))).a) ((rg (bR) ((K:Int))).n) ((rg (bR) ((K:Int))).c),xI ((a:Int)),xP (aD ((rg (bR) ((K:Int))).a) ((a:Int)).toNat),xI (gi (gl Ls K) ((a:Int))),xS (A4) (m) (c4),xI ((K:Int)),xP (aD (A4) ((K:Int)).toNat),xS ((rg (bR) ((K:Int))).a) ((rg (bR) ((K:Int))).n) ((rg (bR) ((K:Int))).c),xI ((b:Int)),xP (aD ((rg (bR) ((K:Int))).a) ((b:Int)).toNat),xI (gi (gl Ls K) ((b:Int))),xB (decide (¬(gi (gl Ls K) ((a:Int)))=(gi (gl Ls K) ((b:Int)))))] O (dV O) ?_ ?_
   ·exact⟨Dr O,Dr O,fun _ _ hb _ _=>aB (xc.top.aq hb).2 O Az,fun _ _ hb _ _=>ck (xc.top.aq hb) O Az,Dr O,fun _ _ hb _ _=>aB (xX.aq hb).2 O Az,fun _ _ hb _ _=>aW (xX.aq hb) O Az,Dr O,Dr O,fun _ _ hb _ _=>aB (xc.top.aq hb).2 O Az,fun _ _ hb _ _=>ck (xc.top.aq hb) O Az,Dr O,fun _ _ hb _ _=>aB (xX.aq hb).2 O Az,fun _ _ hb _ _=>aW (xX.aq hb) O Az,Dr O,av⟩
   intro u w7 rb _;have bl:=hS.aq rb;refine fq O (aN _ O (fun h5=>?_) (fun h5=>?_))
   ·refine aG O (pP [(a:Int),(b:Int)] bl O O (by decide) (by decide) O O fun A9 w8 b7=>bI O (dN (dE (dN (dE ?_)))));exact eW O ⟨A9,2,2,O,⟨fun h=>absurd h (by decide),fun h=>absurd (sC.2 ((h a b ie (by omega)).cv fun k hk=> (D1 k hk).symm)) h5⟩,aU.call b7.none⟩
   have b8:=(sC.1 (kR.1 h5)).cv D1;refine aG O (aK O (aR O (tQ ?_)));exact⟨b+1,by show N - (b+1)<N - b;omega,(WM O),⟨by omega,by omega⟩,fun b' h6 h7=>by
    by_cases eb:b'=b
    ·subst eb;exact b8
    exact o8 b' h6 (by omega),bl⟩
  refine bk O (bm (ct O (aK O (aR O (tQ ?_)))));exact⟨a+1,by show N - (a+1)<N - a;omega,(WM O),by omega,fun a' b' h4 h5 h6=>by
   by_cases ea:a'=a
   ·subst ea;exact o8 b' h5 (by omega)
   exact vm a' b' (by omega) h5 h6,hS⟩
 refine bk O (bm (ct O ?_));refine iB hS O fun A9 w8 b7=>bI O (eW O ?_);exact⟨A9,0,0,O,⟨fun _ a' b' h3 h4=>vm a' b' (by omega) h3 (by omega),fun _=>O⟩,aU.call b7.none⟩
theorem CO{p:Prop}[Decidable p](h:¬p):true=decide (¬p):=by simp [h]
theorem zm{p:Prop}[Decidable p](h:p):false=decide (¬p):=by simp [h]
theorem Ko(p q:Prop)[Decidable p][Decidable q]:(!(decide p==decide q))=decide (¬(p↔q)):=by
 by_cases hp:p<;>by_cases hq:q<;>simp [hp,hq]
instance (R:ai)(i e:Int):Decidable (mx R i e):=by unfold mx;infer_instance
instance (n:Int)(R:ai)(i e:Int):Decidable (ky n R i e):=by unfold ky;infer_instance
def sW(R:ai)(B:ah)(i a b:Int)(m:Nat):Nat:=((cI m).filter fun d=>decide (gi R d=i/\(a<0\/a∈gl B d)/\(b<0\/d∈gl B b))).length
theorem S4(R:ai)(B:ah)(i a b:Int)(m:Nat):sW R B i a b (m+1)=if gi R m=i/\(a<0\/a∈gl B m)/\(b<0\/(m:Int)∈gl B b)then sW R B i a b m+1 else sW R B i a b m:=by
 have e9:cI (m+1)=cI m++ [(m:Int)]:=by
  unfold cI;rw [l4,List.map_append];rfl
 unfold sW;rw [e9,oW,eY]
 by_cases c:gi R m=i/\(a<0\/a∈gl B m)/\(b<0\/(m:Int)∈gl B b)
 ·rw [aF c,th (by simpa using c)];rfl
 rw [aC c,qJ (by simpa using c)];rfl
theorem S3(R:ai)(B:ah)(i a b:Int)(m:Nat):sW R B i a b m<=m:=by
 refine jb (mX _ _) ?_;rw [cI,lC,pO];exact dh _
theorem Ss(n:Int)(A D:aj)(cA cD:Nat)(R:ai)(rs:List aL)(B:ah)(w:aa)(hR:bu w A R.length R)(hB:bq w D B.length rs B)(hP:dm n R B):
 aJ prog 112 [.agg #[ak n,.slice A R.length cA,.slice D B.length cD]] w (fun v w'=>∃A' n' c',v= .slice A' n' c'/\(n'=0↔rX n R B)/\St w w' []):=by
 have hn:=hP.n1;have gQ:=hP.jK;have hle:=hP.len;have bM:∀e:Int,0<=e->e<R.length->(gl B e).length<=500:=fun e h0 h=>by
  have:=nN (N:=R.length) (hP.at_ h0 h).1.nodup fun x hx=>by have:=((hP.at_ h0 h).2.1 x hx).1;omega
  omega
 have gj:=fun(e:Int) (h0:0<=e) (h:e< (R.length:Int))=>hP.ri h0 h
 have I6:∀i a b,sW R B i a b R.length=(ik R B i a b).length:=fun i a b=>O
 obtain⟨N,hN⟩:∃N,R.length=N:=⟨_,rfl⟩;have DD:∀i a,mx R i a↔((a= -1/\i=0)\/((0<=a/\a< (N:Int))/\0<i/\gi R a=i - 1)):=fun i a=>by rw [<-hN];rfl
 have Dz:∀i b,ky n R i b↔((b= -1/\i=n - 1)\/((0<=b/\b< (N:Int))/\i<n - 1/\gi R b=i+1)):=fun i b=>by rw [<-hN];rfl
 rw [hN]at hR gQ hle bM gj I6|-;rw [hle]at hB|-;refine br func112 O ntmps112 O (cw O) (a8 O (ga (St.refl w) O O ?_));intro A1 w1 ay;have h1:Rd w1 A1 3 (fun j=> [Value.int .i64 n,.slice A N cA,.slice D N cD].getD j undef):=ay.rd 0 O;have hR:=ay.da hR;have hB:=ay.bO hB;have ay:=ay.none;refine ar O (aS h1 O (WI (j:=1) h1 (by exact aH Value.pointer O) O O O O ?_));refine ba O O (aE O ?_);refine Cd.loop (α:=Nat) (fun i=> [(1,.pointer A1),(3,ak N),(4,ak i)]) (fun i w'=>w'=w1/\(i:Int)<=n/\∀i' a b:Int,0<=i'->i'< (i:Int)->mx R i' a->ky n R i' b->(0<=a->0<=b->a∈gl B b)->(ik R B i' a b).length=2) (fun i=>n.toNat - i) 0 (WM O) ⟨O,by show((0:Nat):Int)<=n;omega,fun i' a b h h'=>by have h':i'< ((0:Nat):Int):=h';omega⟩ ?_;rintro i e w2 ⟨rfl,hi,xp⟩;refine a8 O (aS h1 O (fJ (j:=0) h1 (by exact aH Value.pointer O) O O O O (aE O ?_)));refine aN _ O (fun h2=>?_) (fun h2=>?_)
 ·refine df O ?_;refine Cd.loop (α:=Nat) (fun z=> [(1,.pointer A1),(3,ak N),(4,ak i),(5,ak ((z:Int) - 1))]) (fun z w'=>w'=w2/\z<=N+1/\∀a b:Int,a< (z:Int) - 1->mx R i a->ky n R i b->(0<=a->0<=b->a∈gl B b)->(ik R B i a b).length=2) (fun z=>N+1 - z) 0 (WM O) ⟨O,bn _,fun a b h h'=>by
   have h:a< ((0:Nat):Int) - 1:=h;have:=(DD _ _).1 h';omega⟩ ?_
  rintro z e w3 ⟨rfl,hz,vm⟩;obtain⟨a,ha⟩:∃a:Int,(z:Int) - 1=a:=⟨_,rfl⟩;rw [ha]at vm|-;refine bX O (aN _ O (fun h3=>?_) (fun h3=>?_))
  ·have qY:=DD (i:Int) a;have I9:∀a' b:Int,(a'=a->mx R i a->ky n R i b->(0<=a->0<=b->a∈gl B b)->(ik R B i a b).length=2)->a'< ((z+1:Nat):Int) - 1->mx R i a'->ky n R i b->(0<=a'->0<=b->a'∈gl B b)->(ik R B i a' b).length=2:=fun a' b h h' q1 q2 q3=>by
    by_cases ea:a'=a
    ·have h9:=h ea;rw [ea]at q1 q3|-;exact h9 q1 q2 q3
    exact vm a' b (by omega) q1 q2 q3
   refine wk 4 O (pK (α:=Unit) (fun _=> [(1,.pointer A1),(3,ak N),(4,ak i),(5,ak a),(41,.bool (decide (¬mx R i a)))]) (fun _ w'=>w'=w3) ?_ ?_)
   ·refine a8 O (qK O O O ?_);rw [Ko];refine ar O (bY 28 O (fun p1=>?_) (fun p1=>?_))
    ·refine az O (az O (az O (cg O O O O (cg O O O O (cg O O O O (cg O O O O (cg O O O O (cg O O O O (cg O O O O (cg O O O O (az O ?_)))))))))));refine aR O (tQ ?_);exact⟨(),⟨O,O,O,O,aH Value.bool (CO (fun h=>p1 (by have:=qY.1 h;omega))),av⟩,O⟩
    refine au O (ar O (au O (ar O (au O (ar O ?_)))));refine bY 31 O (fun p2=>?_) (fun p2=>?_)
    ·refine au O (aS h1 O (au O (WI (j:=1) h1 (by exact aH Value.pointer O) O O O O ?_)));refine au O (ar O (au O ?_));refine aB hR.2 O (au O (aW hR O ?_));refine au O (ar O (au O (dA O (au O (ar O (au O (aR O (tQ ?_))))))));exact⟨(),⟨O,O,O,O,aH Value.bool (kg.2 ⟨fun h h'=>by have:=qY.1 h';omega,fun h h'=>h (qY.2 (.inr ⟨by omega,by omega,h'⟩))⟩),av⟩,O⟩
    refine az O (az O (az O (az O (az O (az O (az O (az O (au O (aR O (tQ ?_))))))))));exact⟨(),⟨O,O,O,O,aH Value.bool (zm (qY.2 (.inl (by omega)))),av⟩,O⟩
   rintro _ e w4 rfl;refine aN _ O (fun h4=>?_) (fun h4=>?_)
   ·refine aG O (aK O (aR O (tQ ?_)));exact⟨z+1,by show N+1 - (z+1)<N+1 - z;omega,⟨O,O,O,aH (Value.int .i64) (by show a+1=((z+1:Nat):Int) - 1;omega),av⟩,O,by omega,fun a' b=>I9 a' b fun _ h=>absurd h h4⟩
   have O8:mx R i a:=kR.1 h4;refine df O ?_;refine Cd.loop (α:=Nat) (fun y=> [(1,.pointer A1),(3,ak N),(4,ak i),(5,ak a),(6,ak ((y:Int) - 1))]) (fun y w'=>w'=w4/\y<=N+1/\∀b:Int,b< (y:Int) - 1->ky n R i b->(0<=a->0<=b->a∈gl B b)->(ik R B i a b).length=2) (fun y=>N+1 - y) 0 (WM O) ⟨O,bn _,fun b h h'=>by
    have h:b< ((0:Nat):Int) - 1:=h;have:=(Dz _ _).1 h';omega⟩ ?_
   rintro y e w5 ⟨rfl,hy,o8⟩;obtain⟨b,hb⟩:∃b:Int,(y:Int) - 1=b:=⟨_,rfl⟩;rw [hb]at o8|-;refine bX O (aN _ O (fun h5=>?_) (fun h5=>?_))
   ·have wS:=Dz (i:Int) b;have Ja:(ky n R i b->(0<=a->0<=b->a∈gl B b)->(ik R B i a b).length=2)->∀b':Int,b'< ((y+1:Nat):Int) - 1->ky n R i b'->(0<=a->0<=b'->a∈gl B b')->(ik R B i a b').length=2:=fun h b' h' q1 q2=>by
     by_cases eb:b'=b
     ·rw [eb]at q1 q2|-;exact h q1 q2
     exact o8 b' (by omega) q1 q2
    refine wk 4 O (pK (α:=Unit) (fun _=> [(1,.pointer A1),(3,ak N),(4,ak i),(5,ak a),(6,ak b),(86,.bool (decide (¬(ky n R i b/\(0<=a->0<=b->a∈gl B b)))))]) (fun _ w'=>w'=w5) ?_ ?_)
    ·refine a8 O (aS h1 O (fJ (j:=0) h1 (by exact aH Value.pointer O) O O O O ?_));refine dA O (ar O ?_);refine qK O O O ?_;rw [Ko];refine ar O (bY 55 O (fun p1=>?_) (fun p1=>?_))
     ·refine az O (az O (az O (cg O O O O (cg O O O O (cg O O O O (cg O O O O (cg O O O O (cg O O O O (cg O O O O (cg O O O O (az O ?_)))))))))));refine ar O (az O (az O (az O (cg O O O O (cg O O O O (az O (az O (cg O O O O (cg O O O O (cg O O O O (cg O O O O ?_)))))))))));refine cg O O O O (cg O O O O (cg O O O O (cg O O O O (az O (aR O (tQ ?_))))));exact⟨(),⟨O,O,O,O,O,aH Value.bool (CO (fun h=>p1 (by have:=wS.1 h.1;omega))),av⟩,O⟩
     refine au O (ar O (au O (ar O (au O (ar O ?_)))));refine bY 58 O (fun p2=>?_) (fun p2=>?_)
     ·have sK:=hB.at_ (i:=b) (by omega) (by omega);have Ju:=sK.1;have Jt:=bM b (by omega) (by omega);refine au O (aS h1 O (au O (WI (j:=1) h1 (by exact aH Value.pointer O) O O O O ?_)));refine au O (ar O (au O ?_));refine aB hR.2 O (au O (aW hR O ?_));have hrib:=gj (b:Int) (by omega) (by omega);refine au O (ar O (au O (aK O (au O (ar O (au O (ar O ?_)))))));refine bY 69 O (fun p3=>?_) (fun p3=>?_)
      ·refine az O (az O (az O (cg O O O O (cg O O O O (az O (az O (cg O O O O (cg O O O O (cg O O O O (cg O O O O (cg O O O O ?_)))))))))));refine cg O O O O (cg O O O O (cg O O O O (az O (aR O (tQ ?_)))));exact⟨(),⟨O,O,O,O,O,aH Value.bool (CO (fun h=>p3 (by have:=wS.1 h.1;omega))),av⟩,O⟩
      have wT:ky n R i b:=wS.2 (.inr ⟨by omega,by omega,by omega⟩);refine au O (ar O (au O (ar O (au O (ar O ?_)))));refine bY 72 O (fun p4=>?_) (fun p4=>?_)
      ·refine au O (ar O (au O (ar O (au O (ar O (au O (ar O ?_)))))));refine bY 76 O (fun p5=>?_) (fun p5=>absurd p2 p5);refine au O (aS h1 O (au O (WI (j:=2) h1 (by exact aH Value.pointer O) O O O O ?_)));refine au O (ar O (au O ?_));refine aB hB.top.2 O (au O (ck hB.top O ?_));refine au O (ar O (au O ?_));refine aI (uk _ _ _ (gl B b) a _ sK (by omega)) O ?_;rintro _ w6 ⟨rfl,rfl⟩;refine au O ?_
       first | refine dk rfl rfl ?_ | refine eF rfl rfl ?_
       refine au O (aR O (tQ ?_));exact⟨(),⟨O,O,O,O,O,aH Value.bool (kg.2 ⟨fun h h'=>h (h'.2 p4 p2),fun h h'=>h ⟨wT,fun _ _=>h'⟩⟩),av⟩,O⟩
      refine az O (az O (au O (ar O (au O (ar O (az O (az O (az O (az O (az O (az O ?_)))))))))));refine az O (az O (au O (aR O (tQ ?_))));exact⟨(),⟨O,O,O,O,O,aH Value.bool (zm ⟨wT,fun h'=>absurd h' p4⟩),av⟩,O⟩
     have wT:ky n R i b:=wS.2 (.inl (by omega));refine az O (az O (az O (az O (az O (az O (az O (az O (au O (ar O (au O (ar O ?_)))))))))));refine au O (ar O (au O (ar O ?_)));refine bY 72 O (fun p4=>?_) (fun p4=>?_)
     ·refine au O (ar O (au O (ar O (au O (ar O (au O (ar O ?_)))))));refine bY 76 O (fun p5=>absurd p5 p2) (fun p5=>?_);refine az O (az O (az O (az O (az O (az O (az O (az O (au O (aR O (tQ ?_))))))))));exact⟨(),⟨O,O,O,O,O,aH Value.bool (zm ⟨wT,fun _ h'=>absurd h' p2⟩),av⟩,O⟩
     refine az O (az O (au O (ar O (au O (ar O (az O (az O (az O (az O (az O (az O ?_)))))))))));refine az O (az O (au O (aR O (tQ ?_))));exact⟨(),⟨O,O,O,O,O,aH Value.bool (zm ⟨wT,fun h'=>absurd h' p4⟩),av⟩,O⟩
    rintro _ e w6 rfl;refine aN _ O (fun h6=>?_) (fun h6=>?_)
    ·refine aG O (aK O (aR O (tQ ?_)));exact⟨y+1,by show N+1 - (y+1)<N+1 - y;omega,⟨O,O,O,O,aH (Value.int .i64) (by show b+1=((y+1:Nat):Int) - 1;omega),av⟩,O,by omega,Ja fun q1 q2=>absurd ⟨q1,q2⟩ h6⟩
    have b8:=kR.1 h6;have xj:=wS.1 b8.1;refine df O (Cd.loop (α:=Nat) (fun m=> [(1,.pointer A1),(3,ak N),(4,ak i),(5,ak a),(6,ak b),(7,ak ((sW R B i a b m:Nat):Int)),(8,ak m)]) (fun m w'=>w'=w6/\m<=N) (fun m=>N - m) 0 (WM O) ⟨O,bn _⟩ ?_);rintro m e w7 ⟨rfl,hm⟩;have oB:=S3 R B i a b m;have nD:=S4 R B i a b m;refine bX O (aN _ O (fun h7=>?_) (fun h7=>?_))
    ·have hmN:m<N:=by omega
     have Jv:=hB.at_ (i:=(m:Int)) (by omega) (by omega);have hrnm:=Jv.1;have hrlm:=bM (m:Int) (by omega) (by omega);refine wk 3 O (pK (α:=Unit) (fun _=> [(1,.pointer A1),(3,ak N),(4,ak i),(5,ak a),(6,ak b),(7,ak ((sW R B i a b m:Nat):Int)),(8,ak m),(124,.bool (decide (gi R m=(i:Int)/\(a<0\/a∈gl B m)/\(b<0\/(m:Int)∈gl B b))))]) (fun _ w'=>w'=w7) ?_ ?_)
     ·refine a8 O (aS h1 O (WI (j:=1) h1 (by exact aH Value.pointer O) O O O O (ar O (aB hR.2 O (aW hR O (ar O ?_))))));refine bY 99 O (fun p1=>?_) (fun p1=>?_)
      ·refine au O (ar O (au O (ar O (au O (ar O ?_)))));refine bY 102 O (fun p2=>?_) (fun p2=>?_)
       ·refine az O (az O (az O (az O (az O (az O (az O (au O (ar O (au O (ar O (au O ?_)))))))))));refine ar O (au O (ar O ?_));refine bY 115 O (fun p4=>?_) (fun p4=>?_)
        ·refine az O (az O (az O (az O (az O (az O (az O (au O (aR O (tQ ?_)))))))));exact⟨(),⟨O,O,O,O,O,O,O,aH Value.bool (eD ⟨p1,.inl p2,.inl p4⟩).symm,av⟩,O⟩
        have sK:=hB.at_ (i:=b) (by omega) (by omega);have Ju:=sK.1;have Jt:=bM b (by omega) (by omega);refine au O (aS h1 O (au O (WI (j:=2) h1 (by exact aH Value.pointer O) O O O O ?_)));refine au O (ar O (au O ?_));refine aB hB.top.2 O (au O (ck hB.top O ?_));refine au O (ar O (au O ?_));refine aI (uk _ _ _ (gl B b) m _ sK (by omega)) O ?_;rintro _ w9 ⟨rfl,rfl⟩;refine au O (aR O (tQ ?_));exact⟨(),⟨O,O,O,O,O,O,O,aH Value.bool (kg.2 ⟨fun h=> ⟨p1,.inl p2,.inr h⟩,fun h=>h.2.2.resolve_left p4⟩),av⟩,O⟩
       refine au O (aS h1 O (au O (WI (j:=2) h1 (by exact aH Value.pointer O) O O O O ?_)));refine au O (ar O (au O ?_));refine aB hB.top.2 O (au O (ck hB.top O ?_));refine au O (ar O (au O ?_));refine aI (uk _ _ _ (gl B m) a _ Jv (by omega)) O ?_;rintro _ w8 ⟨rfl,rfl⟩;refine au O (ar O ?_);refine bY 112 O (fun p3=>?_) (fun p3=>?_)
       ·refine au O (ar O (au O (ar O (au O (ar O ?_)))));refine bY 115 O (fun p4=>?_) (fun p4=>?_)
        ·refine az O (az O (az O (az O (az O (az O (az O (au O (aR O (tQ ?_)))))))));exact⟨(),⟨O,O,O,O,O,O,O,aH Value.bool (eD ⟨p1,.inr p3,.inl p4⟩).symm,av⟩,O⟩
        have sK:=hB.at_ (i:=b) (by omega) (by omega);have Ju:=sK.1;have Jt:=bM b (by omega) (by omega);refine au O (aS h1 O (au O (WI (j:=2) h1 (by exact aH Value.pointer O) O O O O ?_)));refine au O (ar O (au O ?_));refine aB hB.top.2 O (au O (ck hB.top O ?_));refine au O (ar O (au O ?_));refine aI (uk _ _ _ (gl B b) m _ sK (by omega)) O ?_;rintro _ w9 ⟨rfl,rfl⟩;refine au O (aR O (tQ ?_));exact⟨(),⟨O,O,O,O,O,O,O,aH Value.bool (kg.2 ⟨fun h=> ⟨p1,.inr p3,.inr h⟩,fun h=>h.2.2.resolve_left p4⟩),av⟩,O⟩
       refine az O (az O (az O (cg O O O O (cg O O O O (cg O O O O (cg O O O O (cg O O O O (cg O O O O (cg O O O O (az O (aR O ?_)))))))))));exact tQ ⟨(),⟨O,O,O,O,O,O,O,aH Value.bool (cS (fun h=>h.2.1.elim p2 p3)).symm,av⟩,O⟩
      refine az O (az O (az O (cg O O O O (cg O O O O (cg O O O O (cg O O O O (cg O O O O (cg O O O O (cg O O O O (az O (ar O ?_)))))))))));refine az O (az O (az O (cg O O O O (cg O O O O (cg O O O O (cg O O O O (cg O O O O (cg O O O O (cg O O O O (az O (aR O ?_)))))))))));exact tQ ⟨(),⟨O,O,O,O,O,O,O,aH Value.bool (cS (fun h=>p1 h.1)).symm,av⟩,O⟩
     rintro _ e w8 rfl;refine aN _ O (fun h8=>?_) (fun h8=>?_)
     ·rw [aF h8]at nD;refine aG O (aK O (ar O (aK O (aR O (tQ ?_)))));exact⟨m+1,by show N - (m+1)<N - m;omega,⟨O,O,O,O,O,aH (fun m:Nat=>Value.int .i64 (m:Int)) nD.symm,O,av⟩,O,by omega⟩
     rw [aC h8]at nD;refine aG O (aK O (aR O (tQ ?_)));exact⟨m+1,by show N - (m+1)<N - m;omega,⟨O,O,O,O,O,aH (fun m:Nat=>Value.int .i64 (m:Int)) nD.symm,O,av⟩,O,by omega⟩
    have Aw:m=N:=by omega
    rw [Aw]at oB|-;rw [I6]at oB|-;refine bk O (bm (mw O ?_));refine aN _ O (fun h8=>?_) (fun h8=>?_)
    ·refine aG O (pP [(i:Int),a,b] ay O O (by decide) (by decide) O O fun A9 w9 bg=>bI O (dN (dE (dN (dE (dN (dE ?_)))))));exact eW O ⟨A9,3,3,O,⟨fun h=>absurd h (by decide),fun h=>absurd (h (i:Int) a b (by omega) h2 O8 b8.1 b8.2) (by omega)⟩,bg.none⟩
    refine aG O (aK O (aR O (tQ ?_)));exact⟨y+1,by show N+1 - (y+1)<N+1 - y;omega,⟨O,O,O,O,aH (Value.int .i64) (by show b+1=((y+1:Nat):Int) - 1;omega),av⟩,O,by omega,Ja fun _ _=>by omega⟩
   refine bk O (bm (ct O (aK O (aR O (tQ ?_)))));exact⟨z+1,by show N+1 - (z+1)<N+1 - z;omega,⟨O,O,O,aH (Value.int .i64) (by show a+1=((z+1:Nat):Int) - 1;omega),av⟩,O,by omega,fun a' b'=>I9 a' b' fun _ _ q2 q3=>o8 b' (by have:=(Dz _ _).1 q2;omega) q2 q3⟩
  refine bk O (bm (ct O (aK O (aR O (tQ ?_)))));exact⟨i+1,by show n.toNat - (i+1)<n.toNat - i;omega,(WM O),O,by show((i+1:Nat):Int)<=n;omega,fun i' a' b' h0 h' q1 q2 q3=>by
   by_cases ei:i'=(i:Int)
   ·subst ei;exact vm a' b' (by have:=(DD _ _).1 q1;omega) q1 q2 q3
   exact xp i' a' b' h0 (by have h':i'< ((i+1:Nat):Int):=h';omega) q1 q2 q3⟩
 refine bk O (bm (ct O ?_));refine iB ay O fun A9 w9 bg=>bI O (eW O ?_);exact⟨A9,0,0,O,⟨fun _ i' a b h0 h' q1 q2 q3=>xp i' a b h0 (by omega) q1 q2 q3,fun _=>O⟩,bg.none⟩
theorem Sy(n:Nat)(A D:aj)(cA cD:Nat)(R:ai)(rs:List aL)(B:ah)(Af:aj)(cf:Nat)(gI:List aL)(w:aa)(hR:bu w A R.length R)(hB:bq w D B.length rs B)(hP:dm n R B)(hF:bq w Af (aA n R B).length gI (aA n R B))(IG:(aA n R B).length<=400):
 aJ prog 59 [.agg #[ak n,.slice A R.length cA,.slice D B.length cD],.slice Af (aA n R B).length cf] w (fun v w'=>∃b:Bool,v= .bool b/\(b=true↔ni n R B)/\St w w' []):=by
 have hn:=hP.n1;have gQ:=hP.jK;have mH:=zw (n:=n) (R:=R) (B:=B) (by omega) gQ;have mK:(aA n R B).Nodup:=(wJ n R B).nodup;refine br func59 O ntmps59 O (cw O) (a8 O (ga (St.refl w) O O ?_));intro A1 w1 ay;have h1:Rd w1 A1 3 (fun j=> [Value.int .i64 n,.slice A R.length cA,.slice D B.length cD].getD j undef):=ay.rd 0 O;have hR:=ay.da hR;have hB:=ay.bO hB;have hF:=ay.bO hF;have ay:=ay.none;refine ar O (ba O O (ar O ?_));refine bY 8 O (fun h2=>?_) (fun h2=>?_)
 ·have bL:aA n R B≠[]:=fun h=>by rw [h]at h2;exact absurd h2 (by decide)
  refine au O (bK 2 h1 O O O ?_);refine au O (ar O (au O ?_));refine aI (Sz n A D cA R.length B.length cD Af (aA n R B).length cf gI (aA n R B) _ hF gQ (fun l hl=> ⟨by have:=(mH l hl).1;omega,(mH l hl).2⟩) (by omega)) O ?_;rintro _ w2 ⟨b,rfl,hb,ax⟩;have h1:=Rd.below h1 ax.below;have hR:=ax.da hR;have hB:=ax.bO hB;have hF:=ax.bO hF;have ay:=ay.aq ax.below;have sJ:b=true↔Ch n R B:=hb;clear ax hb;rw [Cx b];refine ar O (bY 13 O (fun h3=>?_) (fun h3=>?_))
  ·refine au O (bK 2 h1 O O O (au O (aI (Ss n A D cA cD R rs B _ hR hB hP) O ?_)));rintro _ w3 ⟨A9,n9,c9,rfl,hd,ax⟩;have hF:=ax.bO hF;have ay:=ay.aq ax.below;clear ax;refine au O (ba O O (au O (ar O ?_)));refine bY 19 O (fun h4=>?_) (fun h4=>?_)
   ·refine au O (ar O (au O ?_));refine aI (Sx Af (aA n R B).length cf gI (aA n R B) n _ hF (by omega) IG (by omega) (fun x hx=> (mH x hx).1) mK) O ?_;rintro _ w4 ⟨A8,n8,c8,rfl,hc,ax⟩;have ay:=ay.aq ax.below;refine au O (ba O O (au O (bI O ?_)));refine cH O ?_;exact⟨_,O,by rw [jL];exact⟨fun h=> ⟨bL,sJ.1 h3,hd.1 (by omega),hc.1 (by omega)⟩,fun h=>by have:=hc.2 h.2.2.2;omega⟩,ay⟩
   refine az O (az O (az O (az O (bI O ?_))));refine cH O ?_;exact⟨false,rfl,⟨fun h=> (by cases h),fun h=>absurd (hd.2 h.2.2.1) (by omega)⟩,ay⟩
  refine az O (az O (az O (az O (ar O (az O (az O (az O (az O (bI O ?_)))))))));refine cH O ?_;exact⟨false,rfl,⟨fun h=> (by cases h),fun h=>absurd (sJ.2 h.2.1) h3⟩,ay⟩
 refine az O (az O (az O (ar O (az O (az O (az O (az O (ar O (az O (az O (az O ?_)))))))))));refine az O (bI O ?_);refine cH O ?_;exact⟨false,rfl,⟨fun h=> (by cases h),fun h=>absurd (List.length_pos_iff.2 h.1) (by omega)⟩,ay⟩
def Lu(M:ah)(w:aa)(v:ad)(w':aa):Prop:=∃b:Bool,v= .tuple #[.bool b,ak (if eA M then rO M else 1)]/\(b=true↔eA M/\B8 M)/\St w w' []
theorem Ro(A:aj)(n c:Nat)(rs:List aL)(M:ah)(w:aa)(hT:kW w)(hR:bq w A n rs M)(hn:n<=c)(hc:c<=9223372036854775807):
 aJ prog 20 [.agg #[.slice A n c]] w (Lu M w):=by
 refine br func20 O ntmps20 O (jw O) (a8 O (ng (St.refl w) O O ?_));intro A1 w1 ay;refine ar O (bK 0 (ay.rd 0 O) O O O (aI (JQ A n c rs M _ (ay.bO hR) hn hc) O ?_));rintro _ w2 ⟨rfl,ax⟩;have aM:=ay.aq ax.below
 first | refine dk rfl rfl ?_ | refine eF rfl rfl ?_
 refine aE O (aN _ O (fun h1=>?_) (fun h1=>?_))
 ·have h1:¬eA M:=h1;refine du O (nP O O ?_);exact⟨false,by rw [aC h1],⟨fun h=> (by cases h),fun h=>absurd h.1 h1⟩,aM.none⟩
 have h1:eA M:=kR.1 h1;refine aG O (bK 0 (aM.rd 0 O) O O O (aI (RE A n c rs M _ (hT.aq aM.below) (aM.bO hR) h1) O ?_));rintro _ w3 ⟨b,rfl,hb,qv⟩;have aU:=aM.aq qv.below;refine bI O (nP O O ?_);exact⟨b,by rw [aF h1],⟨fun h=> ⟨h1,hb.1 h⟩,fun h=>hb.2 h.2⟩,aU.none⟩
end Go.Proofs.YtagdamiiececaaaGreatDoor.Vc
namespace Go.Proofs.YtagdamiiececaaaGreatDoor.Vc.TS
open Go.RowKit Tryz
def gs(l:List TV)(i:Nat):TV:=l.getD i UP
def mI(a m b:Nat):Nat:=if(a+b) / 2<m then(a+b) / 2 else m
end Go.Proofs.YtagdamiiececaaaGreatDoor.Vc.TS
namespace Go.Proofs.YtagdamiiececaaaGreatDoor.Vc
open TS Tryz
def F8(m1 m2:Nat)(kind:Int)(a b:Int):Prop:=
 if kind=1 then(a=0\/b=0\/(a=(m1:Int) - 1/\b=(m2:Int) - 1))else if kind=2 then(a=(m1:Int) - 1\/b=(m2:Int) - 1\/(a=0/\b=0))else((a=0/\b=0)\/(a=(m1:Int) - 1/\b=(m2:Int) - 1))
instance (m1 m2:Nat)(kind a b:Int):Decidable (F8 m1 m2 kind a b):=by unfold F8;infer_instance
section
variable {m1 m2:Nat} {kind:Int} {n1 n2:Int} {qC qD:Int->Int} {rS pG:Int->Int->Prop}
end
end Go.Proofs.YtagdamiiececaaaGreatDoor.Vc
namespace Go.Proofs.YtagdamiiececaaaGreatDoor.Vc
open Tryz
section
variable {m1 m2:Nat} {n1 n2:Int} {qC qD:Int->Int} {rS pG:Int->Int->Prop} [DecidableRel rS] [DecidableRel pG] {kind:Int}
end
noncomputable def jB(n:Nat)(fl:ah)(i f:Nat):ai:=(List.range fl.length).map fun a=>if a<f/\dH n fl i a<f then(dH n fl i a:Int)else 0
def nW(n:Nat)(fl:ah)(i f:Nat)(L:List (ByteArray×Int)):Prop:=∀a:Nat,f<=a->a<fl.length->eB L (nK (fI (gl fl a) i))=if dH n fl i a<f then some (dH n fl i a:Int)else none
section
variable {n:Nat} {fl:ah} {i f:Nat} {L:List (ByteArray×Int)}
theorem Tp:(jB n fl i f).length=fl.length:=by simp [jB]
theorem Tm:jB n fl i 0=List.replicate fl.length 0:=by
 apply ia
 ·simp [jB]
 intro a h1 h2;simp [jB]
theorem Tn(h:gN n fl)(hi:i<n):jB n fl i fl.length=sY n fl i:=by
 rw [Ki h hi];unfold jB;refine kS fun a ha=>?_
 have ha:=fP.1 ha;rw [aF ⟨ha,h.lt ha hi⟩]
theorem Tq(h:gN n fl)(hi:i<n)(hf:f<fl.length)(hp:¬dH n fl i f<f):jB n fl i (f+1)=jB n fl i f:=by
 unfold jB;refine kS fun a ha=>?_
 have ha:=fP.1 ha;have h1:=(h.pt hf hi).1;have h2:=h.pp ha hi
 by_cases e:a=f
 ·subst e;rw [aC (by omega),aC (by omega)]
 by_cases e2:dH n fl i a=f
 ·have h3:a=dH n fl i f:=by rw [<-h2,e2]
  rw [aC (by omega),aC (by omega)]
 by_cases c:a<f/\dH n fl i a<f
 ·rw [aF c,aF (by omega)]
 rw [aC c,aC (by omega)]
theorem To(h:gN n fl)(hi:i<n)(hf:f<fl.length)(hp:dH n fl i f<f):jB n fl i (f+1)=((jB n fl i f).set f (dH n fl i f:Int)).set (dH n fl i f) (f:Int):=by
 have QM:=h.pp hf hi;apply ia
 ·simp [jB]
 intro a h1 h2;have ha:a<fl.length:=by simpa [jB]using h1
 have h3:=h.pp ha hi;rw [List.getElem_set,List.getElem_set];simp only [jB,List.getElem_map,List.getElem_range]
 by_cases e:dH n fl i f=a
 ·subst e;rw [aF rfl,QM,aF (by omega)]
 rw [aC e]
 by_cases e2:f=a
 ·subst e2;rw [aF rfl,aF (by omega)]
 rw [aC e2];have h4:dH n fl i a≠f:=fun e3=>e (by rw [<-h3,e3])
 by_cases c:a<f/\dH n fl i a<f
 ·rw [aF c,aF (by omega)]
 rw [aC c,aC (by omega)]
theorem nW.zero:nW n fl i 0 []:=fun a _ _=>by rw [aC (by omega)];rfl
theorem nW.at_(h:nW n fl i f L)(hf:f<fl.length):eB L (nK (fI (gl fl f) i))=if dH n fl i f<f then some (dH n fl i f:Int)else none:=h f (dh _) hf
theorem nW.Qb(hN:gN n fl)(hi:i<n)(h:nW n fl i f L)(hf:f<fl.length)(hp:dH n fl i f<f):nW n fl i (f+1) L:=fun a h0 ha=>by
 have h2:=hN.pp ha hi;rw [h a (by omega) ha];have h4:dH n fl i a≠f:=fun e=>by rw [e]at h2;omega
 by_cases c:dH n fl i a<f
 ·rw [aF c,aF (by omega)]
 rw [aC c,aC (by omega)]
theorem nW.S6(hN:gN n fl)(hl:∀x∈fl,x.length=n)(hi:i<n)(h:nW n fl i f L)(hf:f<fl.length)(hp:¬dH n fl i f<f):nW n fl i (f+1) (gy L (nK (fI (gl fl f) i)) (f:Int)):=fun a h0 ha=>by
 have h1:=hN.pp hf hi;have h2:=hN.pp ha hi;have hk:nK (fI (gl fl f) i)=nK (fI (gl fl a) i)↔a=f\/a=dH n fl i f:=by
  have lf:(gl fl f).length=n:=hl _ (by rw [cX hf];exact dU _);have la:(gl fl a).length=n:=hl _ (by rw [cX ha];exact dU _);constructor
  ·intro e;have e:=(BK lf la).1 (JV e)
   by_cases c:a=f
   ·exact .inl c
   exact .inr (((hN.pt hf hi).2 a).1 ⟨⟨hf,ha,fun k hk bL=>e k hk bL⟩,c⟩)
  intro e;rcases e with e | e
  ·subst e;rfl
  have h3:=((hN.pt hf hi).2 a).2 e;exact aH nK ((BK lf la).2 h3.1.2.2)
 rw [C4,h a (by omega) ha]
 by_cases e2:a=dH n fl i f
 ·rw [aF (hk.2 (.inr e2))];have h3:dH n fl i a=f:=by rw [e2,h1]
  rw [aF (by omega),h3]
 rw [aC fun e3=> (hk.1 e3).elim (by omega) e2];have h4:dH n fl i a≠f:=fun e3=>e2 (by rw [<-h2,e3])
 by_cases c:dH n fl i a<f
 ·rw [aF c,aF (by omega)]
 rw [aC c,aC (by omega)]
end
section
variable{i:Nat}
variable {n:Nat} {fl:ah}
theorem oM(n:Nat)(fl:ah):(bA n fl).length=n:=by simp [bA]
theorem Tk(n:Nat)(fl:ah)(hi:i<n):gl (bA n fl) i=sY n fl i:=by
 rw [cX (by rw [oM];exact hi)];simp [bA]
theorem Bq(h:gN n fl)(hi:i<n):gl (bA n fl) i=(List.range fl.length).map fun a=> (dH n fl i a:Int):=by rw [Tk n fl hi,Ki h hi]
theorem oL(h:gN n fl){a:Nat}(hi:i<n)(ha:a<fl.length):gi (gl (bA n fl) i) a=dH n fl i a:=by
 rw [Bq h hi,bF (by simpa using ha)];simp
theorem yr(h:gN n fl)(hi:i<n):(gl (bA n fl) i).length=fl.length:=by rw [Bq h hi];simp
theorem Fc(h:gN n fl){p:ai}:p∈bA n fl↔∃i:Nat,i<n/\p=gl (bA n fl) i:=by
 constructor
 ·intro hp;obtain⟨i,hi,e⟩:=eZ.1 hp;rw [oM]at hi;exact⟨i,hi,by rw [cX (by rw [oM];exact hi)];exact e.symm⟩
 rintro⟨i,hi,rfl⟩;rw [cX (by rw [oM];exact hi)];exact dU _
theorem Tf(h:gN n fl)(hi:i<n){x:Int}(h0:0<=x)(h1:x<fl.length):gi (gl (bA n fl) i) x=dH n fl i x.toNat:=by
 obtain⟨a,rfl⟩:∃a:Nat,x=a:=⟨x.toNat,by omega⟩;rw [oL h hi (by omega)];simp
theorem Tj(h:gN n fl)(hb:fl.length<=400)(hi:i<n):jE (gl (bA n fl) i)/\oU (gl (bA n fl) i):=by
 have hl:=yr h hi;refine⟨⟨by omega,fun x hx=>?_,?_⟩,fun a ha=>?_⟩
 ·rw [hl];rw [Bq h hi]at hx;obtain⟨a,ha,rfl⟩:=fh.1 hx;have:=h.lt (fP.1 ha) hi;omega
 ·rw [Bq h hi];refine List.pairwise_map.2 ((List.nodup_range (n:=fl.length)).imp_of_mem fun {a b} ha hb bL e=>bL ?_);have ha:=fP.1 ha;have hb:=fP.1 hb;have e:dH n fl i a=dH n fl i b:=by omega
  rw [<-h.pp ha hi,e,h.pp hb hi]
 rw [hl]at ha;rw [oL h hi ha,oL h hi (h.lt ha hi),h.pp ha hi];have:=(h.pt ha hi).1;exact⟨by omega,O⟩
theorem Tl(h:gN n fl):Sys fl.length (bA n fl):=fun p hp=>by
 obtain⟨i,hi,rfl⟩:=(Fc h).1 hp;refine⟨yr h hi,fun x h0 h1=>?_⟩;rw [Tf h hi h0 h1];have:=h.lt (a:=x.toNat) (by omega) hi;omega
theorem yq(h:gN n fl){a:Nat}(ha:a<fl.length)(hi:i<n):iM n fl i a (dH n fl i a):=(((h.pt ha hi).2 _).2 rfl).1
theorem Ke(h:gN n fl){p:ai}:p∈(bA n fl).eraseIdx i↔∃k:Nat,k<n/\k≠i/\p=gl (bA n fl) k:=by
 rw [List.mem_eraseIdx_iff_getElem];constructor
 ·rintro⟨k,hk,bL,e⟩;rw [oM]at hk;exact⟨k,hk,bL,by rw [cX (by rw [oM];exact hk)];exact e.symm⟩
 rintro⟨k,hk,bL,rfl⟩;exact⟨k,by rw [oM];exact hk,bL,by rw [cX (by rw [oM];exact hk)]⟩
theorem Tg(h:gN n fl)(hi:i<n){a:Nat}(ha:a<fl.length){y:Int}(hr:Reach ((bA n fl).eraseIdx i) (a:Int) y):(0<=y/\y<fl.length)/\gi (gl fl y) i=gi (gl fl a) i:=by
 induction hr with
 | refl=>exact⟨by omega,rfl⟩
 | step hr hp ih=>
  rename_i y p;obtain⟨k,hk,bL,rfl⟩:=(Ke h).1 hp;obtain⟨b,rfl⟩:∃b:Nat,y=b:=⟨y.toNat,by omega⟩;have hb:b<fl.length:=by omega
  rw [oL h hk hb];have h1:=h.lt hb hk;exact⟨by omega,by rw [<-(yq h hb hk).2.2 i hi (fun e=>bL e.symm)];exact ih.2⟩
theorem Kf(h:gN n fl){S:Nat->Prop}(hS:S i){a b:Nat}(hl:dQ n fl S a b):Reach ((bA n fl).eraseIdx i) (a:Int) (b:Int):=by
 induction hl with
 | refl=>exact .refl
 | step hl hk hs ha ih=>
  rename_i b c k
  by_cases e:c=b
  ·subst e;exact ih
  have hb:=hl.jD.2;have e2:c=dH n fl k b:=((h.pt hb hk).2 c).1 ⟨ha,e⟩;have:=Reach.step ih ((Ke h).2 ⟨k,hk,fun e3=>hs (e3▸hS),O⟩);rw [oL h hk hb,<-e2]at this;exact this
theorem Th(h:gN n fl){S:Nat->Prop}{a b:Nat}(hl:dQ n fl S a b):Reach (bA n fl) (a:Int) (b:Int):=by
 induction hl with
 | refl=>exact .refl
 | step hl hk hs ha ih=>
  rename_i b c k
  by_cases e:c=b
  ·subst e;exact ih
  have hb:=hl.jD.2;have e2:c=dH n fl k b:=((h.pt hb hk).2 c).1 ⟨ha,e⟩;have:=Reach.step ih ((Fc h).2 ⟨k,hk,O⟩);rw [oL h hk hb,<-e2]at this;exact this
theorem Te(h:gN n fl)(hc:uG n fl)(hi:i<n){a b:Nat}(ha:a<fl.length)(hb:b<fl.length):Reach ((bA n fl).eraseIdx i) (a:Int) (b:Int)↔gi (gl fl a) i=gi (gl fl b) i:=by
 constructor
 ·intro hr;exact(Tg h hi ha hr).2.symm
 intro e;rcases Nat.lt_trichotomy a b with ie | ie | ie
 ·exact Kf h (S:=fun k=>gi (gl fl a) k=gi (gl fl b) k) e (hc a b ie hb)
 ·subst ie;exact .refl
 exact Kf h (S:=fun k=>gi (gl fl b) k=gi (gl fl a) k) e.symm (hc b a ie ha).symm
end
section
variable {n:Nat} {R:ai} {B:ah}
theorem NZ(hP:dm n R B)(hD:rX n R B){i k a:Nat}(hi:i<n)(hk:k<n)(qm:i+2<=k)(ha:a< (aA n R B).length):
 dH n (aA n R B) k (dH n (aA n R B) i a)=dH n (aA n R B) i (dH n (aA n R B) k a):=by
 have h:=zx hP hD;have hn:1<=n:=by omega
 obtain⟨b,hb⟩:∃b,dH n (aA n R B) i a=b:=⟨_,rfl⟩;obtain⟨c,hc⟩:∃c,dH n (aA n R B) k a=c:=⟨_,rfl⟩;have ow:b< (aA n R B).length:=hb▸h.lt ha hi;have cT:c< (aA n R B).length:=hc▸h.lt ha hk;have ab:=yq h ha hi;have ac:=yq h ha hk;have nb:=(h.pt ha hi).1;have nc:=(h.pt ha hk).1;rw [hb]at ab nb|-;rw [hc]at ac nc|-;have fa:=kZ hn ha;have fb:=kZ hn ow;have fc:=kZ hn cT;obtain⟨x,hx⟩:∃x:ai,x=(gl (aA n R B) c).set i (gi (gl (aA n R B) b) i):=⟨_,rfl⟩;have eu:x.length=n:=by rw [hx,ij];exact fc.1
 have fT:∀j:Nat,j<n->gi x j=if i=j then gi (gl (aA n R B) b) i else gi (gl (aA n R B) c) j:=fun j hj=>by
  rw [bF (by omega)];subst hx;rw [List.getElem_set]
  split
  ·rfl
  exact(bF (by rw [fc.1];exact hj)).symm
 have hm:x∈aA n R B:=by
  refine(qT hn).2 ⟨eu,fun j hj=>?_,fun j hj=>?_⟩
  ·rw [fT j hj]
   split
   ·rename_i e;subst e;exact fb.2.1 i hj
   exact fc.2.1 j hj
  rw [fT j (by omega),fT (j+1) hj]
  by_cases e1:i=j
  ·subst e1;rw [aF rfl,aC (by omega),<-ac.2.2 (i+1) hj (by omega),ab.2.2 (i+1) hj (by omega)];exact fb.2.2 i hj
  by_cases e2:i=j+1
  ·subst e2;rw [aC e1,aF rfl,<-ac.2.2 j (by omega) (by omega),ab.2.2 j (by omega) (by omega)];exact fb.2.2 j hj
  rw [aC e1,aC e2];exact fc.2.2 j hj
 obtain⟨d,hd,ed⟩:=eZ.1 hm;have zp:gl (aA n R B) d=x:=by rw [cX hd];exact ed
 have e1:dH n (aA n R B) k b=d:=by
  refine(((h.pt ow hk).2 d).1 ⟨⟨ow,hd,fun j hj bL=>?_⟩,fun e=>?_⟩).symm
  ·rw [zp,fT j hj]
   split
   ·rename_i e;subst e;rfl
   rename_i e;rw [<-ab.2.2 j hj (fun e'=>e e'.symm),ac.2.2 j hj bL]
  subst e;have h1:=fT k hk;rw [aC (by omega),<-zp,<-ab.2.2 k hk (by omega)]at h1;exact nc (tz cT ha (rH (n:=n) fc.1 fa.1 fun j hj=>by
   by_cases e:j=k
   ·subst e;exact h1.symm
   exact(ac.2.2 j hj e).symm))
 have e2:dH n (aA n R B) i c=d:=by
  refine(((h.pt cT hi).2 d).1 ⟨⟨cT,hd,fun j hj bL=>?_⟩,fun e=>?_⟩).symm
  ·rw [zp,fT j hj,aC (fun e=>bL e.symm)]
  subst e;have h1:=fT i hi;rw [aF rfl,<-zp,<-ac.2.2 i hi (by omega)]at h1;exact nb (tz ow ha (rH (n:=n) fb.1 fa.1 fun j hj=>by
   by_cases e:j=i
   ·subst e;exact h1.symm
   exact(ab.2.2 j hj e).symm))
 rw [e1,e2]
theorem Ti(hP:dm n R B)(hY:ni n R B)(hn:n<=5)(hb:(aA n R B).length<=400):eA (bA n (aA n R B)):=by
 have h:=zx hP hY.2.2.1;have sH:=hP.n1;have h0:0<n:=by omega
 have AK:0< (aA n R B).length:=List.length_pos_iff.2 hY.1;have rq:(gl (bA n (aA n R B)) 0).length=(aA n R B).length:=yr h h0;have h2:2<=(aA n R B).length:=by
  have h1:=(h.pt AK h0).1;have h3:=h.lt AK h0;omega
 refine⟨by rw [oM];omega,by rw [rq];omega,fun p hp=>?_,fun i hi k hk qm f hf=>?_,?_⟩
 ·obtain⟨i,hi,rfl⟩:=(Fc h).1 hp;rw [rq,yr h hi];exact⟨O,Tj h hb hi⟩
 ·rw [oM]at hi hk;rw [rq]at hf;have eK:=h.lt hf hi;have fF:=h.lt hf hk;refine⟨?_,?_⟩
  ·rw [oL h hi hf,oL h hk hf,oL h hk eK,oL h hi fF,NZ hP hY.2.2.1 hi hk qm hf]
  rw [oL h hi hf,oL h hk hf];intro e;have e:dH n (aA n R B) i f=dH n (aA n R B) k f:=by omega
  have a1:=yq h hf hi;have a2:=yq h hf hk;rw [<-e]at a2;refine(h.pt hf hi).1 (tz eK hf (rH (n:=n) (kZ (by omega) eK).1 (kZ (by omega) hf).1 fun j hj=>?_))
  by_cases e3:j=i
  ·exact(a2.2.2 j hj (by omega)).symm
  exact(a1.2.2 j hj e3).symm
 rw [rq];refine(Kt (Tl h) AK).2 fun x sM pv=>?_
 obtain⟨b,rfl⟩:∃b:Nat,x=b:=⟨x.toNat,by omega⟩
 by_cases e:b=0
 ·subst e;exact .refl
 exact Th h (hY.2.2.2 0 b (by omega) (by omega))
end
end Go.Proofs.YtagdamiiececaaaGreatDoor.Vc
namespace Go.Proofs.YtagdamiiececaaaGreatDoor.Vc
open Go.RowKit Tryz
section
variable {n:Nat} {fl:ah} {i a b:Nat}
end
noncomputable def mm(n:Nat)(fl:ah)(i:Nat):ah:=(List.range i).map (sY n fl)
theorem Td(n:Nat)(fl:ah)(i:Nat):mm n fl (i+1)=mm n fl i++ [sY n fl i]:=by
 unfold mm;rw [l4,List.map_append];rfl
theorem Tc(n:Nat)(fl:ah)(i:Nat):(mm n fl i).length=i:=by simp [mm]
abbrev qA(A:aj)(B:aj)(i c:Nat):Ck:=Bx 37 1 A [.slice B i c]
def wg(L:ah)(K:Int)(w:aa)(v:ad)(w':aa):Prop:=∃A c,∃rs:List aL,v= .tuple #[.agg #[.slice A L.length c],ak K]/\rs.length=L.length/\St w w' (aQ 24 2 A L.length c rs L)
theorem wg.none{w w':aa}{ks:List Ck}{K:Int}(h:St w w' ks):wg [] K w (.tuple #[.agg #[.slice Option.none 0 0],ak K]) w':=⟨Option.none,0,[],rfl,rfl,h.none.nil _⟩
end Go.Proofs.YtagdamiiececaaaGreatDoor.Vc
namespace Go.Proofs.YtagdamiiececaaaGreatDoor.Vc.TS
open Go.RowKit Tryz
end Go.Proofs.YtagdamiiececaaaGreatDoor.Vc.TS
namespace Go.Proofs.YtagdamiiececaaaGreatDoor.Vc
open Go.RowKit Tryz
section
variable (N1 N2:Nat) (B1 B2:ah) (L:List (Int×Int))
end
abbrev vP(A6:aj)(N:Nat)(mv:ai)(g:Nat)(L:List (ByteArray×Int))(A3 A2 Am:aj)(i cm:Nat)(iL:List aL)(T:ah):List Ck:=
 aw 2 A6 N N mv::iF 124 g (gH Value.string (Value.int .i64) L)::qA A3 Am i cm::qA A2 none 0 0::(aQ 24 2 Am i cm iL T++ [])
theorem TT{α:Type}(b m q1 q2:α)(X:List α):(b::q1::q2::m::(X++ [])).Perm (q1::q2::m::((X++ [b])++ [])):=by
 classical
 refine l3.2 fun z=>?_
 simp only [mW,lB,nY];omega
theorem SY(n:Nat)(F:aj)(N cF:Nat)(gI:List aL)(fl:ah)(w:aa)(hT:kW w)(hF:bq w F N gI fl)(hl:∀x∈fl,x.length=n/\∀e∈x,0<=e/\e<=1000)(u7:gN n fl)(hN:0<N/\N<=400)(QB:n<=1000):
 aJ prog 65 [.slice F N cF] w (fun v w'=>∃A' c' rs',v= .agg #[.slice A' n c']/\rs'.length=n/\St w w' (aQ 24 2 A' n c' rs' (bA n fl)++ [])):=by
 have fB:fl.length=N:=hF.len;have Ej:∀x∈fl,x.length=n:=fun x hx=> (hl x hx).1
 refine br func65 O ntmps65 O (pD O O) (a8 O (jH (St.refl w) O ?_));intro A2 w1 ay;refine ar O (jH ay O ?_);intro A3 w2 aM;have aM:St w w2 (qA A3 none 0 0::qA A2 none 0 0::(aQ 24 2 none 0 0 [] (mm n fl 0)++ [])):=(aM.nil 24).perm (List.perm_append_singleton _ _).symm;clear ay;have u5:=aM.bO hF;have HB:=u5.at_ (i:=(0:Int)) (by omega) (by omega);have pf:(rg gI (0:Int)).n=n:=by rw [<-HB.1];exact Ej _ (by rw [show(0:Int)=((0:Nat):Int) from O,cX (by omega)];exact dU _)
 refine ar O (aB u5.top.2 O ?_);refine WJ u5.top O (by show(0:Int).toNat<N;exact hN.1) O O ?_;refine ba O O (aE O ?_);refine Cd.loop (α:=Nat×(aj×Nat)×List aL) (fun z=> [(0,.slice F N cF),(2,.pointer A2),(3,.pointer A3),(16,ak n),(17,ak (z.1:Int))]) (fun z w'=>z.1<=n/\z.2.2.length=z.1/\St w w' (qA A3 z.2.1.1 z.1 z.2.1.2::qA A2 none 0 0::(aQ 24 2 z.2.1.1 z.1 z.2.1.2 z.2.2 (mm n fl z.1)++ []))) (fun z=>n - z.1) (0,(none,0),[]) ⟨O,O,O,aH (fun m:Nat=>Value.int .i64 (m:Int)) pf,O,av⟩ ⟨bn _,O,aM⟩ ?_;clear aM u5 HB;rintro⟨i,⟨Am,cm⟩,iL⟩ e w5 ⟨hi,pn,hS⟩;dsimp only at hi pn hS|-;refine bX O (aN _ O (fun h1=>?_) (fun h1=>?_))
 ·have de:i<n:=by omega
  refine aG O (Ce hS O ?_);intro g w6 bD;refine ar O (ba O O ?_);refine rZ N bD O O ⟨by omega,by omega⟩ ?_;intro A6 w7 bl;have bl:St w w7 (vP A6 N (jB n fl i 0) g [] A3 A2 Am i cm iL (mm n fl i)):=by
   have e0:=Tm (n:=n) (fl:=fl) (i:=i);rw [fB]at e0;rw [e0];exact bl
  clear bD hS;refine ar O (ba O O (aE O ?_));refine Cd.loop (α:=Nat×List (ByteArray×Int)) (fun z=> [(0,.slice F N cF),(2,.pointer A2),(3,.pointer A3),(4,ak i),(5,.map (some g)),(6,.slice A6 N N),(16,ak n),(17,ak i),(24,.slice F N cF),(25,ak N),(26,ak (z.1:Int))]) (fun z w'=>z.1<=N/\nW n fl i z.1 z.2/\St w w' (vP A6 N (jB n fl i z.1) g z.2 A3 A2 Am i cm iL (mm n fl i))) (fun z=>N - z.1) (0,[]) (WM O) ⟨bn _,nW.zero,bl⟩ ?_;clear bl;rintro⟨f,L⟩ e1 w8 ⟨hf,zH,hS⟩;dsimp only at hf zH hS|-;refine bX O (aN _ O (fun h2=>?_) (fun h2=>?_))
  ·have gE:f<fl.length:=by omega
   have zG:=hS.bO hF;have ue:=zG.at_ (i:=(f:Int)) (by omega) (by omega);have Qw:gl fl f∈fl:=by rw [cX gE];exact dU _
   have xK:=hl _ Qw;have xO:(rg gI f).n=n:=by rw [<-ue.1];exact xK.1
   have zV:=zH.at_ gE;have xW:=u7.lt gE de;have hmvl:=Tp (n:=n) (fl:=fl) (i:=i) (f:=f);refine aG O (aB zG.top.2 O (ck zG.top O (ar O (aI (yN _ _ _ (gl fl f) _ ue (by omega)) O ?_))));rintro _ w9 ⟨A9,c9,rfl,ax⟩;have bg:=hS.call ax;clear hS ax zG ue;rw [xO]at bg|-;have bg:St w w9 (aw 2 A9 n c9 (gl fl f)::vP A6 N (jB n fl i f) g L A3 A2 Am i cm iL (mm n fl i)):=bg;refine ar O (aB (bg.rd 0 O) O (il 0 (i:=(i:Int)) bg O O O (by omega) ?_));intro dw bQ;have bQ:St w dw (aw 2 A9 n c9 (fI (gl fl f) i)::vP A6 N (jB n fl i f) g L A3 A2 Am i cm iL (mm n fl i)):=bQ;refine ar O ?_;refine WD (EW A9 n c9 (fI (gl fl f) i) _ (hT.aq bQ.below) (bQ.bo 0 O) (fun x hx=>by
    rcases List.mem_or_eq_of_mem_set hx with hx | rfl
    ·have:=xK.2 x hx;omega
    omega) (by omega)) rfl rfl rfl ?_
   rintro _ ew ⟨rfl,ax⟩;have dT:=bQ.tail.aq ax.below;clear bg bQ ax;refine ar O (L4 JY (nK (fI (gl fl f) i)) (dT.BE 1 O) O O O ?_);rw [zV]
   by_cases hp:dH n fl i f<f
   ·rw [aF hp];have P7:=To u7 de gE hp;refine aE O (Cd.fx O (aG O (aB (dT.rd 0 O) O (il 0 (i:=(f:Int)) dT O O O (by omega) ?_))));intro eh dC;refine WB (dC.rd 0 O) O O O (by show(0:Int)<=(dH n fl i f:Int);omega) (by show(dH n fl i f:Int)< (N:Int);omega) ?_;refine il 0 (i:=(dH n fl i f:Int)) dC O O O (by omega) fun gp eJ=>ar O (aK O (aR O (tQ ?_)));refine⟨(f+1,L),by show N - (f+1)<N - f;omega,(WM O),by show f+1<=N;omega,zH.Qb u7 de gE hp,?_⟩;show St w gp (vP A6 N (jB n fl i (f+1)) g L A3 A2 Am i cm iL (mm n fl i));rw [P7];exact eJ
   rw [aC hp];have Qx:=Tq u7 de gE hp;refine aE O (Cd.eM O (aG O (Cf O JY 1 (u:=(f:Int)) (a:=nK (fI (gl fl f) i)) (vv:=Value.int .i64) dT O O O O ?_)));intro eh dC;refine ar O (aK O (aR O (tQ ?_)));refine⟨(f+1,gy L (nK (fI (gl fl f) i)) (f:Int)),by show N - (f+1)<N - f;omega,(WM O),by show f+1<=N;omega,zH.S6 u7 Ej de gE hp,?_⟩;show St w eh (vP A6 N (jB n fl i (f+1)) g _ A3 A2 Am i cm iL (mm n fl i));rw [Qx];exact dC
  have vn:f=fl.length:=by omega
  subst vn;rw [Tn u7 de]at hS;have nD:=Td n fl i;have hS:St w w8 (aw 2 A6 N N (sY n fl i)::qA A3 Am i cm::qA A2 none 0 0::(aQ 24 2 Am i cm iL (mm n fl i)++ [])):=hS.sub ((gB _).cons _ |>.cons_cons _);refine bk O (bm (ct O ?_));refine aS (hS.rd 1 O) O (WI (j:=0) (hS.rd 1 O) O O O O O (ar O (l6 hS O O O ?_)));intro A9 w9 bg;refine l5 4 bg O (bg.fz 0 O) O O O (by omega) (by omega) O fun AZ cZ dw bQ=>aS (bQ.rd 2 O) O (kB 2 (j:=0) bQ O O O O O ?_);intro ew dT;have dT:=dT.tail;have dT:=dT.perm (TT _ _ _ _ _);refine ar O (aK O (aR O (tQ ?_)));refine⟨(i+1,(AZ,cZ),iL++ [⟨A6,N,N⟩]),by show n - (i+1)<n - i;omega,(WM O),by show i+1<=n;omega,by show(iL++ [_]).length=i+1;rw [eY,pn];rfl,?_⟩;show St w ew (qA A3 AZ (i+1) cZ::qA A2 none 0 0::(aQ 24 2 AZ (i+1) cZ (iL++ [_]) (mm n fl (i+1))++ []));rw [nD];unfold aQ;rw [rQ (by rw [pn,Tc])];exact dT
 obtain rfl:i=n:=by omega
 refine bk O (bm (ct O ?_));refine bK 0 (hS.rd 0 O) O O O (dG 1 1 hS O O O O O O O ?_);intro w6 bD;refine bI O (jC O (bD.rd 1 O) ?_);exact⟨Am,cm,iL,O,pn,bD.sub (show List.Sublist _ (_::_::_) from((gB _).cons _ |>.cons _))⟩
noncomputable def Br(n:Nat)(R:ai)(B:ah):ah:=if me n R B=0 then bA n (aA n R B)else []
theorem yv{n:Nat}{R:ai}{B:ah}(h:(aA n R B).length<=400):me n R B=0/\qb n R B=aA n R B/\Br n R B=bA n (aA n R B):=by
 have e:me n R B=0:=by unfold me;rw [if_pos h]
 refine⟨e,by unfold qb;rw [if_pos h],by unfold Br;rw [if_pos e]⟩
theorem Ts{n:Nat}{R:ai}{B:ah}(h:¬(aA n R B).length<=400):me n R B=3/\Br n R B=[]:=by
 have e:me n R B=3:=by unfold me;rw [if_neg h]
 exact⟨e,by unfold Br;rw [if_neg (by rw [e];decide)]⟩
theorem N0{n:Nat}{R:ai}{B:ah}(hP:dm n R B):∀x∈aA n R B,x.length=n/\∀e∈x,0<=e/\e<=1000:=fun x hx=>by
 have hn:=hP.n1;have hb:=hP.jK;have h:=(qT (by omega)).1 hx;refine⟨h.1,fun e he=>?_⟩;obtain⟨k,hk,rfl⟩:=eZ.1 he;have:=(h.2.1 k (by omega)).1;rw [bF hk]at this;omega
theorem Rn(n:Nat)(A D:aj)(cA cD:Nat)(R:ai)(rs:List aL)(B:ah)(w:aa)(hR:bu w A R.length R)(hB:bq w D B.length rs B)(hP:dm n R B):
 aJ prog 13 [.agg #[ak n,.slice A R.length cA,.slice D B.length cD]] w (td (qb n R B) (me n R B) w):=by
 refine br func13 O ntmps13 O (jw O) (a8 O (ga (St.refl w) O O ?_));intro A1 w1 ay;refine ar O (bK 2 (ay.rd 0 O) O O O (aI (tw n A D cA cD R rs B _ (ay.da hR) (ay.bO hB) hP) O ?_));rintro _ w2 ⟨A2,c2,s7,rfl,bM,ax⟩;have aM:=ay.call2 ax;refine bI O (mQ O O ?_);exact⟨A2,c2,s7,O,bM,aM.tail⟩
theorem ym(n:Nat)(A D:aj)(cA cD:Nat)(R:ai)(rs:List aL)(B:ah)(w:aa)(hT:kW w)(hR:bu w A R.length R)(hB:bq w D B.length rs B)(hP:dm n R B)(hf:(aA n R B).length<=400):
 aJ prog 17 [.agg #[ak n,.slice A R.length cA,.slice D B.length cD]] w (fun v w'=> (ni n R B/\wg (bA n (aA n R B)) 0 w v w')\/(¬ni n R B/\wg [] 5 w v w')):=by
 have hn:=hP.n1;obtain⟨e1,e2,e3⟩:=yv hf;refine br func17 O ntmps17 O (Fs O O) (a8 O (ga (St.refl w) O O ?_));intro A1 w1 ay;refine jH ay O fun A2 w2 aM=>ar O (bK 2 (aM.rd 1 O) O O O (aI (tw n A D cA cD R rs B _ (aM.da hR) (aM.bO hB) hP) O ?_));rintro _ w3 ⟨AF,cF,gI,rfl,nF,ax⟩;rw [e2]at ax nF|-;rw [e1];have hF:bq w3 AF (aA n R B).length gI (aA n R B):=ax.iX O;have aU:=aM.aq ax.below;have xg:=hT.aq aU.below;refine aE O (Cd.eM O (aG O (bK 2 (aU.rd 1 O) O O O (ar O (aI (EV n A D cA cD R rs B AF cF gI _ xg (aU.da hR) (aU.bO hB) hP hF hf) O ?_)))));rintro _ w4 ⟨b,rfl,hb,jh⟩;have bd:=aU.aq jh.below
 first | refine dk rfl rfl ?_ | refine eF rfl rfl ?_
 refine aE O (Cd.cond O (fun h1=>?_) (fun h1=>?_))
 ·have h1:¬ni n R B:=fun h=>by have:=hb.2 h;subst this;cases h1
  refine aG O (yX (by exact inferInstance) O (dG 1 0 bd O O O O O O O ?_));intro w5 bh;refine bI O (yz O (bh.rd 0 O) O ?_);exact .inr ⟨h1,wg.none bh⟩
 have h1:ni n R B:=hb.1 (by cases b<;>simp_all);refine aG O (aI (SY n AF _ cF gI _ _ (hT.aq bd.below) (hF.aq jh.below) (N0 hP) (zx hP h1.2.2.1) ⟨List.length_pos_iff.2 h1.1,hf⟩ (by omega)) O ?_);rintro _ w5 ⟨Am,cm,iL,rfl,pn,nH⟩;have oB:=oM n (aA n R B);have bh:=(bd.call nH).perm ka;refine dG 1 0 bh O O O O O O O fun w6 bD=>bI O (yz O (bD.rd 0 O) O ?_);refine .inl ⟨h1,Am,cm,iL,by rw [oB];rfl,by rw [oB];exact pn,?_⟩;rw [oB];have h9:=bD.sub (show List.Sublist _ (_::_::_) from((gB _).cons _ |>.cons _))
 rwa [fO]at h9
theorem Rq(n:Nat)(A D:aj)(cA cD:Nat)(R:ai)(rs:List aL)(B:ah)(w:aa)(hT:kW w)(hR:bu w A R.length R)(hB:bq w D B.length rs B)(hP:dm n R B)(hf:(aA n R B).length<=400):
 aJ prog 9 [.agg #[ak n,.slice A R.length cA,.slice D B.length cD]] w (fun v w'=>∃b:Bool,v= .tuple #[.bool b,ak 0]/\(b=true↔ni n R B)/\St w w' []):=by
 have hn:=hP.n1;obtain⟨e1,e2,e3⟩:=yv hf;refine br func9 O ntmps9 O (jw O) (a8 O (ga (St.refl w) O O ?_));intro A1 w1 ay;refine ar O (bK 2 (ay.rd 0 O) O O O (aI (tw n A D cA cD R rs B _ (ay.da hR) (ay.bO hB) hP) O ?_));rintro _ w3 ⟨AF,cF,gI,rfl,nF,ax⟩;rw [e2]at ax nF|-;rw [e1];have hF:bq w3 AF (aA n R B).length gI (aA n R B):=ax.iX O;have aU:=ay.aq ax.below;have xg:=hT.aq aU.below;refine ar O (bY 13 O (fun _=>?_) (fun h=>absurd O h));refine au O (bK 2 (aU.rd 0 O) O O O ?_);refine au O (ar O (au O ?_));refine aI (EV n A D cA cD R rs B AF cF gI _ xg (aU.da hR) (aU.bO hB) hP hF hf) O ?_;rintro _ w4 ⟨b,rfl,hb,jh⟩;have bd:=aU.aq jh.below;refine bI O (nP O O ?_);exact⟨b,O,hb,bd.none⟩
theorem Rr(n:Int)(A D:aj)(cA cD N M:Nat)(R:ai)(rs:List aL)(B:ah)(w:aa)(hR:bu w A N R)(hB:bq w D M rs B)(hn: -1000<=n/\n<=1000)(hN:N<=1000000)(hM:M<=1000000):
 aJ prog 11 [.agg #[ak n,.slice A N cA,.slice D M cD]] w (fun v w'=>∃b:Bool,v= .bool b/\(b=true↔dm n R B)/\St w w' []):=by
 refine br func11 O ntmps11 O (cw O) (a8 O (ga (St.refl w) O O ?_));intro A1 w1 ay;refine ar O (bK 2 (ay.rd 0 O) O O O (aI (JR n A D cA cD N M R rs B _ (ay.da hR) (ay.bO hB) hn hN hM) O ?_));rintro _ w2 ⟨b,rfl,hb,ax⟩;refine bI O (cH O ?_);exact⟨b,O,hb,(ay.aq ax.below).none⟩
theorem UH(n:Int)(A D:aj)(cA cD N M:Nat)(R:ai)(rs:List aL)(B:ah)(w:aa)(hR:bu w A N R)(hB:bq w D M rs B)(hn: -1000<=n/\n<=1000)(hN:N<=1000000)(hM:M<=1000000):
 aJ prog 12 [.agg #[ak n,.slice A N cA,.slice D M cD]] w (fun v w'=>∃b:Bool,v= .bool b/\(b=true↔dm n R B)/\St w w' []):=by
 refine br func12 O ntmps12 O (cw O) (a8 O (ga (St.refl w) O O ?_));intro A1 w1 ay;refine ar O (bK 2 (ay.rd 0 O) O O O (aI (EZ n A D cA cD N M R rs B _ (ay.da hR) (ay.bO hB) hn hN hM) O ?_));rintro _ w2 ⟨b,rfl,hb,ax⟩;refine bI O (cH O ?_);exact⟨b,O,hb,(ay.aq ax.below).none⟩
theorem NY(n:Int)(A D:aj)(cA cD N M:Nat)(R:ai)(rs:List aL)(B:ah)(w:aa)(hR:bu w A N R)(hB:bq w D M rs B)(hn: -1000<=n/\n<=1000)(hN:N<=1000000)(hM:M<=1000000)(hP:¬dm n R B):
 aJ prog 56 [.agg #[ak n,.slice A N cA,.slice D M cD]] w (fun v w'=>v= .tuple #[.slice none 0 0,ak 1]/\St w w' []):=by
 refine br func56 O ntmps56 O (jw O) (a8 O (ga (St.refl w) O O ?_));intro A1 w1 ay;refine ar O (bK 2 (ay.rd 0 O) O O O (aI (JR n A D cA cD N M R rs B _ (ay.da hR) (ay.bO hB) hn hN hM) O ?_));rintro _ w2 ⟨b,rfl,hb,ax⟩;have iI:b=false:=by
  cases b with
  | false=>rfl
  | true=>exact absurd (hb.1 rfl) hP
 subst iI
 first | refine dk rfl rfl ?_ | refine eF rfl rfl ?_
 refine aE O (Cd.fx O (du O (mQ O O ?_)));exact⟨O,(ay.aq ax.below).none⟩
theorem UE(n:Int)(A D:aj)(cA cD N M:Nat)(R:ai)(rs:List aL)(B:ah)(w:aa)(hR:bu w A N R)(hB:bq w D M rs B)(hn: -1000<=n/\n<=1000)(hN:N<=1000000)(hM:M<=1000000)(hP:¬dm n R B):
 aJ prog 58 [.agg #[ak n,.slice A N cA,.slice D M cD]] w (fun v w'=>v= .tuple #[.slice none 0 0,ak 1]/\St w w' []):=by
 refine br func58 O ntmps58 O (jw O) (a8 O (ga (St.refl w) O O ?_));intro A1 w1 ay;refine ar O (bK 2 (ay.rd 0 O) O O O (aI (EZ n A D cA cD N M R rs B _ (ay.da hR) (ay.bO hB) hn hN hM) O ?_));rintro _ w2 ⟨b,rfl,hb,ax⟩;have iI:b=false:=by
  cases b with
  | false=>rfl
  | true=>exact absurd (hb.1 rfl) hP
 subst iI
 first | refine dk rfl rfl ?_ | refine eF rfl rfl ?_
 refine aE O (Cd.fx O (du O (mQ O O ?_)));exact⟨O,(ay.aq ax.below).none⟩
def BN(n:Nat)(R:ai)(B:ah):ah:=if(aA n R B).length<=400 then aA n R B else []
theorem UF(n:Nat)(A D:aj)(cA cD:Nat)(R:ai)(rs:List aL)(B:ah)(w:aa)(hR:bu w A R.length R)(hB:bq w D B.length rs B)(hP:dm n R B):
 aJ prog 58 [.agg #[ak n,.slice A R.length cA,.slice D B.length cD]] w (td (BN n R B) (if(aA n R B).length<=400 then 0 else 3) w):=by
 have hn:=hP.n1;have gQ:=hP.jK;have hle:=hP.len;refine br func58 O ntmps58 O (jw O) (a8 O (ga (St.refl w) O O ?_));intro A1 w1 ay;refine ar O (bK 2 (ay.rd 0 O) O O O (aI (EZ n A D cA cD R.length B.length R rs B _ (ay.da hR) (ay.bO hB) (by omega) (by omega) (by omega)) O ?_));rintro _ w2 ⟨b,rfl,hb,ax⟩;obtain rfl:=hb.2 hP;have aM:=ay.aq ax.below
 first | refine dk rfl rfl ?_ | refine eF rfl rfl ?_
 refine aE O (Cd.eM O (aG O (bK 2 (aM.rd 0 O) O O O (aI (Su n A D cA cD R rs B _ (aM.da hR) (aM.bO hB) hP) O ?_))));rintro _ w3 ⟨A',c',rs',rfl,bM,qv⟩;refine ar O ?_
 first | refine dk rfl rfl ?_ | refine eF rfl rfl ?_
 refine aE O (aN _ O (fun h=>?_) (fun h=>?_))
 ·refine du O (mQ O O ?_);have e:BN n R B=[]:=aC h;rw [e,aC h];exact td.none (aM.aq qv.below)
 refine du O (mQ O O ?_);have h:=Decidable.not_not.1 h;have e:BN n R B=aA n R B:=aF h;have ec:cap (aA n R B)=aA n R B:=CC (zg.2 h);rw [ec]at qv bM|-;rw [e,aF h];exact⟨A',c',rs',O,bM,(aM.call qv).sub (kU _ _)⟩
def yL(n:Int)(R:ai)(B:ah)(v:ad):Prop:=(¬dm n R B/\v= .tuple #[.bool false,ak 1])\/(dm n R B/\¬(aA n.toNat R B).length<=400/\v= .tuple #[.bool false,ak 3])\/(dm n R B/\(aA n.toNat R B).length<=400/\∃b:Bool,v= .tuple #[.bool b,ak 0]/\(b=true↔ni n.toNat R B))
theorem Rp(n:Int)(A D:aj)(cA cD N M:Nat)(R:ai)(rs:List aL)(B:ah)(w:aa)(hT:kW w)(hR:bu w A N R)(hB:bq w D M rs B)(hn: -1000<=n/\n<=1000)(hN:N<=1000000)(hM:M<=1000000):
 aJ prog 9 [.agg #[ak n,.slice A N cA,.slice D M cD]] w (fun v w'=>yL n R B v/\St w w' []):=by
 by_cases hP:dm n R B
 ·obtain⟨k,rfl⟩:∃k:Nat,n=k:=⟨n.toNat,by have:=hP.n1;omega⟩;obtain rfl:=hR.1;obtain rfl:=hB.len
  by_cases hf:(aA k R B).length<=400
  ·exact(Rq k A D cA cD R rs B w hT hR hB hP hf).mono fun v w' ⟨b,h1,h2,h3⟩=> ⟨.inr (.inr ⟨hP,hf,b,h1,h2⟩),h3⟩
  obtain⟨e1,_⟩:=Ts hf;refine br func9 O ntmps9 O (jw O) (a8 O (ga (St.refl w) O O ?_));intro A1 w1 ay;refine ar O (bK 2 (ay.rd 0 O) O O O (aI (tw k A D cA cD R rs B _ (ay.da hR) (ay.bO hB) hP) O ?_));rintro _ w3 ⟨AF,cF,gI,rfl,nF,ax⟩;rw [e1];refine ar O (bY 13 O (fun h=>absurd h (by decide)) (fun _=>?_));refine az O (az O (az O (bI O ?_)));exact nP O O ⟨.inr (.inl ⟨hP,hf,O⟩),(ay.aq ax.below).none⟩
 refine br func9 O ntmps9 O (jw O) (a8 O (ga (St.refl w) O O ?_));intro A1 w1 ay;refine ar O (bK 2 (ay.rd 0 O) O O O (aI (NY n A D cA cD N M R rs B _ (ay.da hR) (ay.bO hB) hn hN hM hP) O ?_));rintro _ w3 ⟨rfl,ax⟩;refine ar O (bY 13 O (fun h=>absurd h (by decide)) (fun _=>?_));refine az O (az O (az O (bI O ?_)));exact nP O O ⟨.inl ⟨hP,O⟩,(ay.aq ax.below).none⟩
theorem UG(n:Int)(A D:aj)(cA cD N M:Nat)(R:ai)(rs:List aL)(B:ah)(w:aa)(hR:bu w A N R)(hB:bq w D M rs B)(hn: -1000<=n/\n<=1000)(hN:N<=1000000)(hM:M<=1000000):
 aJ prog 10 [.agg #[ak n,.slice A N cA,.slice D M cD]] w (fun v w'=>yL n R B v/\St w w' []):=by
 by_cases hP:dm n R B
 ·obtain⟨k,rfl⟩:∃k:Nat,n=k:=⟨n.toNat,by have:=hP.n1;omega⟩;obtain rfl:=hR.1;obtain rfl:=hB.len;have hnk:=hP.n1;refine br func10 O ntmps10 O (jw O) (a8 O (ga (St.refl w) O O ?_));intro A1 w1 ay;refine ar O (bK 2 (ay.rd 0 O) O O O (aI (UF k A D cA cD R rs B _ (ay.da hR) (ay.bO hB) hP) O ?_));rintro _ w3 ⟨AF,cF,gI,rfl,nF,ax⟩;have aU:=ay.aq ax.below;refine aE O (aN _ O (fun h=>?_) (fun h=>?_))
  ·have hf:¬(aA k R B).length<=400:=fun h'=>h (aF h')
   rw [aC hf];refine du O (nP O O ?_);exact⟨.inr (.inl ⟨hP,hf,O⟩),aU.none⟩
  have hf:(aA k R B).length<=400:=pL fun h'=>h (by rw [aC h'];decide)
  have e:BN k R B=aA k R B:=aF hf;rw [e]at ax nF|-;have hF:bq w3 AF (aA k R B).length gI (aA k R B):=ax.iX O;refine aG O (bK 2 (aU.rd 0 O) O O O (ar O (aI (Sy k A D cA cD R rs B AF cF gI _ (aU.da hR) (aU.bO hB) hP hF hf) O ?_)));rintro _ w4 ⟨b,rfl,hb,jh⟩;refine bI O (nP O O ?_);exact⟨.inr (.inr ⟨hP,hf,b,O,hb⟩),(aU.aq jh.below).none⟩
 refine br func10 O ntmps10 O (jw O) (a8 O (ga (St.refl w) O O ?_));intro A1 w1 ay;refine ar O (bK 2 (ay.rd 0 O) O O O (aI (UE n A D cA cD N M R rs B _ (ay.da hR) (ay.bO hB) hn hN hM hP) O ?_));rintro _ w3 ⟨rfl,ax⟩;refine aE O (Cd.fx O (du O (nP O O ?_)));exact⟨.inl ⟨hP,O⟩,(ay.aq ax.below).none⟩
theorem Rs(n:Nat)(A D:aj)(cA cD:Nat)(R:ai)(rs:List aL)(B:ah)(w:aa)(hR:bu w A R.length R)(hB:bq w D B.length rs B)(hP:dm n R B)(hf:(aA n R B).length<=400):
 aJ prog 14 [.agg #[ak n,.slice A R.length cA,.slice D B.length cD]] w (fun v w'=>∃b:Bool,v= .tuple #[.bool b,ak 0]/\(b=true↔∀x:Int,0<=x->x< (R.length:Int)->∃l∈aA n R B,x∈l)/\St w w' []):=by
 have hn:=hP.n1;have gQ:=hP.jK;obtain⟨e1,e2,e3⟩:=yv hf;have mH:=zw (n:=n) (R:=R) (B:=B) (by omega) gQ;refine br func14 O ntmps14 O (jw O) (a8 O (ga (St.refl w) O O ?_));intro A1 w1 ay;refine ar O (bK 2 (ay.rd 0 O) O O O (aI (tw n A D cA cD R rs B _ (ay.da hR) (ay.bO hB) hP) O ?_));rintro _ w3 ⟨AF,cF,gI,rfl,nF,ax⟩;rw [e2]at ax nF|-;rw [e1];have hF:bq w3 AF (aA n R B).length gI (aA n R B):=ax.iX O;have aU:=ay.aq ax.below;refine ar O (bY 13 O (fun _=>?_) (fun h=>absurd O h));refine au O (bK 2 (aU.rd 0 O) O O O ?_);refine au O (ar O (au O ?_));refine aI (JS n A D cA R.length B.length cD AF _ cF gI (aA n R B) _ hF gQ (fun l hl=> ⟨by have:=(mH l hl).1;omega,(mH l hl).2⟩) (by omega)) O ?_;rintro _ w4 ⟨b,rfl,hb,jh⟩;have bd:=aU.aq jh.below;refine bI O (nP O O ?_);exact⟨b,O,hb,bd.none⟩
theorem Rl(n:Nat)(A D:aj)(cA cD:Nat)(R:ai)(rs:List aL)(B:ah)(w:aa)(hR:bu w A R.length R)(hB:bq w D B.length rs B)(hP:dm n R B):
 aJ prog 15 [.agg #[ak n,.slice A R.length cA,.slice D B.length cD]] w (fun v w'=> (∃(A':aj) (n' c':Nat) (k:Int),v= .tuple #[.slice A' n' c',ak k]/\(k=4↔rX n R B)/\(k=4\/k=0))/\St w w' []):=by
 have hn:=hP.n1;have gQ:=hP.jK;have hle:=hP.len;refine br func15 O ntmps15 O (jw O) (a8 O (ga (St.refl w) O O ?_));intro A1 w1 ay;refine ar O (bK 2 (ay.rd 0 O) O O O (aI (Bi n A D cA cD R rs B _ (ay.da hR) (ay.bO hB) hP) O ?_));rintro _ w2 ⟨rfl,ax⟩;have aM:=ay.aq ax.below
 first | refine dk rfl rfl ?_ | refine eF rfl rfl ?_
 refine aE O (Cd.eM O (aG O (bK 2 (aM.rd 0 O) O O O (aI (G0 n A D cA cD R rs B _ (aM.da hR) (aM.bO hB) hP) O ?_))));rintro _ w3 ⟨A',n',c',rfl,hd,qv⟩;have aU:=aM.aq qv.below;refine ar O (ti O O O ?_);rw [show A'.isNone=decide (A'.isNone=true) by cases A'<;>rfl];refine aE O (aN _ O (fun h=>?_) (fun h=>?_))
 ·refine du O (mQ O O ?_);exact⟨⟨none,0,0,4,O,⟨fun _=>hd.1 h,fun _=>O⟩,.inl O⟩,aU.none⟩
 refine du O (mQ O O ?_);exact⟨⟨A',n',c',0,O,⟨fun h'=>absurd h' (by decide),fun h'=>absurd (hd.2 h') h⟩,.inr O⟩,aU.none⟩
theorem Rk(n:Nat)(A D:aj)(cA cD:Nat)(R:ai)(rs:List aL)(B:ah)(w:aa)(hT:kW w)(hR:bu w A R.length R)(hB:bq w D B.length rs B)(hP:dm n R B)(hf:(aA n R B).length<=400):
 aJ prog 16 [.agg #[ak n,.slice A R.length cA,.slice D B.length cD]] w (fun v w'=> (∃(A':aj) (n' c':Nat) (k:Int),v= .tuple #[.slice A' n' c',ak k]/\(k=4↔uG n (aA n R B))/\(k=4\/k=0))/\St w w' []):=by
 have hn:=hP.n1;have gQ:=hP.jK;obtain⟨e1,e2,e3⟩:=yv hf;have mH:=zw (n:=n) (R:=R) (B:=B) (by omega) gQ;refine br func16 O ntmps16 O (jw O) (a8 O (ga (St.refl w) O O ?_));intro A1 w1 ay;refine ar O (bK 2 (ay.rd 0 O) O O O (aI (tw n A D cA cD R rs B _ (ay.da hR) (ay.bO hB) hP) O ?_));rintro _ w3 ⟨AF,cF,gI,rfl,nF,ax⟩;rw [e2]at ax nF|-;rw [e1];have hF:bq w3 AF (aA n R B).length gI (aA n R B):=ax.iX O;have aU:=ay.aq ax.below;have xg:=hT.aq aU.below;refine aE O (tf O (fun h=>h O) (aG O ?_));refine aI (GQ AF _ cF gI (aA n R B) n _ xg hF (by omega) (by omega) (fun x hx=> ⟨(mH x hx).1,fun e he=>by have:=(mH x hx).2 e he;omega⟩) (wJ n R B).nodup) O ?_;rintro _ w4 ⟨A',n',c',rfl,hd,jh⟩;have bd:=aU.aq jh.below;refine ar O (ti O O O ?_);rw [show A'.isNone=decide (A'.isNone=true) by cases A'<;>rfl];refine aE O (aN _ O (fun h=>?_) (fun h=>?_))
 ·refine du O (mQ O O ?_);exact⟨⟨none,0,0,4,O,⟨fun _=>hd.1 h,fun _=>O⟩,.inl O⟩,bd.none⟩
 refine du O (mQ O O ?_);exact⟨⟨A',n',c',0,O,⟨fun h'=>absurd h' (by decide),fun h'=>absurd (hd.2 h') h⟩,.inr O⟩,bd.none⟩
theorem Rm(A:aj)(n c:Nat)(rs:List aL)(M:ah)(w:aa)(hR:bq w A n rs M)(hn:n<=c)(hc:c<=9223372036854775807)(hM:eA M)(vh:aV M M.length<=500):
 aJ prog 18 [.agg #[.slice A n c]] w (fun v w'=>∃AR c AD d,∃rs:List aL,v= .tuple #[.agg #[ak (M.length:Int),.slice AR (aV M M.length) c,.slice AD (aV M M.length) d],ak 0]/\rs.length=aV M M.length/\St w w' (aw 2 AR (aV M M.length) c (bS M M.length)::(aQ 24 2 AD (aV M M.length) d rs (bP M)++ []))):=by
 refine br func18 O ntmps18 O (Fs O O) (a8 O (ng (St.refl w) O O ?_));intro A1 w1 ay;refine kV ay O fun A2 w2 aM=>ar O (bK 0 (aM.rd 1 O) O O O (aI (JQ A n c rs M _ (aM.bO hR) hn hc) O ?_));rintro _ w3 ⟨rfl,ax⟩;have aU:=aM.aq ax.below
 first | refine dk rfl rfl ?_ | refine eF rfl rfl ?_
 refine aE O (tf O (fun h=>h hM) (aG O (bK 0 (aU.rd 1 O) O O O (aI (G8 A n c rs M _ (aU.bO hR) hM) O ?_))));rintro _ w4 (⟨hb,_⟩ | ⟨_,AR,cR,AD,cD,cq,rfl,rA,jh⟩)
 ·omega
 have bd:=(aU.call jh).perm ka;refine ar O (kV bd O ?_);intro A4 w5 bh;refine dG 3 0 bh O O O O O O O fun w6 bD=>ar O ?_
 first | refine dk rfl rfl ?_ | refine eF rfl rfl ?_
 refine aE O (Cd.eM O (aG O (bK 2 (bD.rd 0 O) O O O (dG 3 1 bD O O O O O O O ?_))));intro w7 bl;refine bI O (yz O (bl.rd 1 O) O ?_);refine⟨AR,cR,AD,cD,cq,O,rA,bl.sub (show List.Sublist _ (_::_::_::_) from((gB _).cons _ |>.cons _ |>.cons _))⟩
theorem NX(A:aj)(n c:Nat)(rs:List aL)(M:ah)(w:aa)(hR:bq w A n rs M)(hM:eA M):
 aJ prog 22 [.agg #[.slice A n c]] w (fun v w'=>v=ak ((gl M 0).length:Int)/\St w w' []):=by
 have h1:=hM.1;have hl:=hR.len;have oF:(gl M 0).length=(rg rs 0).n:=hR.pE (k:=0) (by omega) (by omega);refine br func22 O ntmps22 O (cw O) (a8 O (ng (St.refl w) O O ?_));intro A1 w1 ay;have hb:=ay.rd 0 O;have jA:=ay.bO hR;refine ar O (aS hb O (WI (j:=0) hb (by exact aH Value.pointer O) O O O O ?_));refine ba O O (aE O ?_);refine tf O (by omega) (aG O (aS hb O (WI (j:=0) hb (by exact aH Value.pointer O) O O O O (aB jA.top.2 O (ck jA.top O ?_)))));refine ba O O (bI O ?_);refine kN O ?_;exact⟨by rw [oF],ay.none⟩
end Go.Proofs.YtagdamiiececaaaGreatDoor.Vc
namespace Go.Proofs.YtagdamiiececaaaGreatDoor.Vc
open Tryz
section
variable {α:Type} {N:Nat} {el:Nat->α->Prop} {le:α->α->Prop}
end
section
variable {α:Type} {el:Nat->α->Prop} {le:α->α->Prop} {i j:Nat} {a b:α}
end
section
variable {α β:Type} {N1 N2:Nat} {CR:Nat->α->Prop} {E4:α->α->Prop} {CS:Nat->β->Prop} {E5:β->β->Prop}
end
section
variable {α β:Type} {N N1 N2:Nat} {el:Nat->α->Prop} {le:α->α->Prop} {CR:Nat->α->Prop} {E4:α->α->Prop} {CS:Nat->β->Prop} {E5:β->β->Prop}
end
section
variable {α:Type} {N:Nat} {el:Nat->α->Prop} {le:α->α->Prop}
end
section
variable {α:Type} {n:Nat} {R:ai} {B:ah} {el:Nat->α->Prop} {le:α->α->Prop} {φ:Int->α}
end
theorem NR{M:ah}(hM:eA M){i:Nat}{f g:Int}(h0:0<=f)(h1:f< (gl M 0).length)(h:Reach (M.eraseIdx i) f g):gi (dp M i) f=gi (dp M i) g:=
 E3 (hM.2.2.1.sys.erase i) (hM.2.2.1.inj.erase i) h0 h1 h _ (dh _)
def mR(R:ai)(i:Int):ai:=(cI R.length).filter fun e=>decide (gi R e=i)
theorem Fx{R:ai}{i e:Int}:e∈mR R i↔(0<=e/\e<R.length)/\gi R e=i:=by
 unfold mR;rw [fZ,oQ,jL]
theorem Ul(R:ai)(i:Int):(mR R i).Nodup:=(nQ _).nodup.filter _
structure dM(n:Nat)(R:ai)(B:ah):Prop where
 pos:dm n R B
 s4:ni n R B
 n5:n<=5
 Hd:(aA n R B).length<=400
section
variable{i:Nat}
variable {n:Nat} {R:ai} {B:ah}
theorem dM.nb(h:dM n R B):gN n (aA n R B):=zx h.pos h.s4.2.2.1
theorem dM.n1(h:dM n R B):1<=n:=by have:=h.pos.n1;omega
theorem dM.uo(h:dM n R B):eA (bA n (aA n R B)):=Ti h.pos h.s4 h.n5 h.Hd
theorem dM.nl(h:dM n R B):(gl (bA n (aA n R B)) 0).length=(aA n R B).length:=yr h.nb (show 0<n by have:=h.n1;omega)
theorem dM.J7(h:dM n R B)(hi:i<n){a b:Nat}(ha:a< (aA n R B).length)(hb:b< (aA n R B).length):gi (dp (bA n (aA n R B)) i) a=gi (dp (bA n (aA n R B)) i) b↔gi (gl (aA n R B) a) i=gi (gl (aA n R B) b) i:=by
 rw [<-Te h.nb h.s4.2.2.2 hi ha hb];constructor
 ·exact Hc h.uo (by omega) (by rw [h.nl];omega) (by omega) (by rw [h.nl];omega)
 exact NR h.uo (by omega) (by rw [h.nl];omega)
theorem dM.FJ(h:dM n R B){e:Int}(h0:0<=e)(h1:e<R.length):∃a:Nat,a< (aA n R B).length/\gi (gl (aA n R B) a) (gi R e)=e:=by
 obtain⟨x,hx,he⟩:=h.s4.2.1 e h0 h1;obtain⟨a,ha,ea⟩:=eZ.1 hx;obtain⟨k,hk,ek⟩:=eZ.1 he;have hf:=(qT h.n1).1 hx;have pd:k<n:=by rw [<-hf.1];exact hk
 have e1:gi x k=e:=by rw [bF hk];exact ek
 have e2:=(hf.2.1 k pd).2;rw [e1]at e2;exact⟨a,ha,by rw [cX ha,ea,e2];exact e1⟩
theorem dM.at_(h:dM n R B){a:Nat}(ha:a< (aA n R B).length)(hi:i<n):(0<=gi (gl (aA n R B) a) i/\gi (gl (aA n R B) a) i<R.length)/\gi R (gi (gl (aA n R B) a) i)=i:=(kZ h.n1 ha).2.1 i hi
theorem dM.lH(h:dM n R B)(hi:i<n):fK (bA n (aA n R B)) i=((mR R i).length:Int):=by
 have hN:=h.nl;have h0:=(sc (bA n (aA n R B)) i).1;have hex:∀e:Int,∃v:Int,e∈mR R i->(0<=v/\v<fK (bA n (aA n R B)) i)/\∀a:Nat,a< (aA n R B).length->(gi (dp (bA n (aA n R B)) i) a=v↔gi (gl (aA n R B) a) i=e):=fun e=>by
  by_cases he:e∈mR R i
  ·have hr:=Fx.1 he;obtain⟨b,hb,eb⟩:=h.FJ hr.1.1 hr.1.2;rw [hr.2]at eb;exact⟨gi (dp (bA n (aA n R B)) i) b,fun _=> ⟨CY h.uo i b (by rw [hN];exact hb),fun a ha=>by rw [h.J7 hi ha hb,eb]⟩⟩
  exact⟨0,fun h=>absurd h he⟩
 obtain⟨g,hg⟩:=Classical.axiomOfChoice hex;have hg:∀e:Int,e∈mR R i->(0<=g e/\g e<fK (bA n (aA n R B)) i)/\∀a:Nat,a< (aA n R B).length->(gi (dp (bA n (aA n R B)) i) a=g e↔gi (gl (aA n R B) a) i=e):=hg;have hp:((mR R i).map g).Perm (cI (fK (bA n (aA n R B)) i).toNat):=by
  refine(List.perm_ext_iff_of_nodup ?_ (nQ _).nodup).2 fun v=>?_
  ·refine List.pairwise_map.2 ((Ul R i).imp_of_mem fun {e d} he hd bL q=>bL ?_);have hr:=Fx.1 he;obtain⟨b,hb,eb⟩:=h.FJ hr.1.1 hr.1.2;rw [hr.2]at eb;have h1:=((hg e he).2 b hb).2 eb;rw [q]at h1;rw [<-((hg d hd).2 b hb).1 h1];exact eb.symm
  rw [oQ,fh];constructor
  ·rintro⟨e,he,rfl⟩;have:=(hg e he).1;omega
  intro hv;obtain⟨f,hf,ef⟩:=Ha h.uo i v hv.1 (by omega);rw [hN]at hf;have h1:=h.at_ hf hi;have hm:gi (gl (aA n R B) f) i∈mR R i:=Fx.2 h1;refine⟨_,hm,?_⟩;rw [<-((hg _ hm).2 f hf).2 rfl];exact ef
 have hl:=hp.length_eq;rw [lC,BI]at hl;omega
theorem Un(R:ai)(hR:∀e:Int,0<=e->e<R.length->0<=gi R e):∀i:Nat,((cI R.length).filter fun e=>decide (gi R e< (i:Int))).length+ (mR R i).length=((cI R.length).filter fun e=>decide (gi R e< ((i+1:Nat):Int))).length:=fun i=>by
 unfold mR;generalize cI R.length=l
 induction l with
 | nil=>rfl
 | cons e l ih=>
  rcases Int.lt_trichotomy (gi R e) (i:Int)with c | c | c
  ·rw [th (by simpa using c),qJ (by simp;omega),th (by simp;omega)];simp only [List.length_cons];omega
  ·rw [qJ (by simp;omega),th (by simpa using c),th (by simp;omega)];simp only [List.length_cons];omega
  ·rw [qJ (by simp;omega),qJ (by simp;omega),qJ (by simp;omega)];exact ih
theorem dM.off(h:dM n R B):∀i:Nat,i<=n->aV (bA n (aA n R B)) i=((cI R.length).filter fun e=>decide (gi R e< (i:Int))).length:=by
 have gj:∀e:Int,0<=e->e<R.length->0<=gi R e:=fun e h0 h1=> (h.pos.ri h0 h1).1
 intro i
 induction i with
 | zero=>
  intro _;rw [List.filter_eq_nil_iff.2 fun e he=>?_]
  ·rfl
  ·have hr:=(oQ _ _).1 he;have:=gj e hr.1 hr.2;simp;omega
 | succ i ih=>
  intro hi;have h1:=h.lH (show i<n by omega);show aV _ i+ (fK _ i).toNat=_;rw [ih (by omega),h1,<-Un R gj i];omega
theorem dM.TE(h:dM n R B):aV (bA n (aA n R B)) n=R.length:=by
 rw [h.off n (dh _),List.filter_eq_self.2 fun e he=>?_]
 ·exact BI _
 have hr:=(oQ _ _).1 he;have:=(h.pos.ri hr.1 hr.2).2;simp;omega
end
section
variable {m n:Nat} {rk:Int->Int} {und:Int->Int->Prop}
end
section
variable {n:Nat} {R:ai} {B:ah}
end
section
variable {m1 m2 n1 n2:Nat} {qC qD:Int->Int} {rS pG:Int->Int->Prop}
variable [DecidableRel rS] [DecidableRel pG] {kind:Int}
end
section
variable {α:Type}
def cU(U:α->List α):Nat->α->Nat
 | 0,_=>1
 | r+1,a=> ((U a).map (cU U r)).sum
end
section
variable {α β:Type} {N1 N2:Nat} {CR:Nat->α->Prop} {E4:α->α->Prop} {CS:Nat->β->Prop} {E5:β->β->Prop} {U1:α->List α} {U2:β->List β} {U:α×β->List (α×β)}
end
section
variable {α β:Type} {n1 n2:Nat} {CR:Nat->α->Prop} {E4:α->α->Prop} {CS:Nat->β->Prop} {E5:β->β->Prop} {U1:α->List α} {U2:β->List β} {U:α×β->List (α×β)}
end
section
variable {m1 m2 n1 n2:Nat} {qC qD:Int->Int} {rS pG:Int->Int->Prop} [DecidableRel rS] [DecidableRel pG] {kind:Int} {U1 U2:Int->ai}
end
end Go.Proofs.YtagdamiiececaaaGreatDoor.Vc
namespace Go.Proofs.YtagdamiiececaaaGreatDoor.Vc
open Go.RowKit Tryz
section
variable {P:Program} {N:Nat} {ops:Array Oper} {K:Env->aa->Prop} {rest:List Oper} {e:Env} {w0 w w':aa} {ks:List Ck} {d:Nat} {ty:ae} {pos:String} {af:Array Edge}
end
end Go.Proofs.YtagdamiiececaaaGreatDoor.Vc
namespace Go.Proofs.YtagdamiiececaaaGreatDoor.Vc
open Tryz
section
variable (m1 m2:Nat) (qC qD:Int->Int) (kind:Int)
end
section
variable {m1 m2:Nat} {qC qD:Int->Int} {kind:Int} {i a b:Nat}
end
end Go.Proofs.YtagdamiiececaaaGreatDoor.Vc
namespace Go.Proofs.YtagdamiiececaaaGreatDoor.Vc
open Go.RowKit Tryz
end Go.Proofs.YtagdamiiececaaaGreatDoor.Vc
namespace Go.Proofs.YtagdamiiececaaaGreatDoor.Vc
open Tryz
section
variable{i p:Nat}
variable {n:Nat} {R:ai} {B:ah}
theorem dM.len(h:dM n R B):(bA n (aA n R B)).length=n:=oM n _
theorem dM.oi(h:dM n R B)(hi:i<n){a b:Nat}(ha:a< (aA n R B).length)(hb:b< (aA n R B).length):cK (bA n (aA n R B)) i a=cK (bA n (aA n R B)) i b↔gi (gl (aA n R B) a) i=gi (gl (aA n R B) b) i:=by
 rw [<-h.J7 hi ha hb];unfold cK;omega
theorem dM.fin(h:dM n R B)(hi:i<n){a:Nat}(ha:a< (aA n R B).length):(0<=cK (bA n (aA n R B)) i a/\cK (bA n (aA n R B)) i a< ((bS (bA n (aA n R B)) n).length:Int))/\gi (bS (bA n (aA n R B)) n) (cK (bA n (aA n R B)) i a)=i:=by
 have h1:=sd h.uo (i:=i) (f:=a) (by rw [h.nl];exact ha);have h2:=jU (bA n (aA n R B)) (show i+1<=n by omega);rw [nu];exact⟨⟨by omega,by omega⟩,wK hi h1.1 h1.2⟩
theorem dM.wL(h:dM n R B){e:Int}(h0:0<=e)(h1:e< ((bS (bA n (aA n R B)) n).length:Int)):∃i:Nat,i<n/\∃a:Nat,a< (aA n R B).length/\e=cK (bA n (aA n R B)) i a:=by
 rw [nu]at h1;obtain⟨i,hi,h2,h3⟩:=Oe h0 h1;have h3:e< ((aV (bA n (aA n R B)) i+ (fK (bA n (aA n R B)) i).toNat:Nat):Int):=h3;obtain⟨a,ha,e1⟩:=Ha h.uo i (e - (aV (bA n (aA n R B)) i:Int)) (by omega) (by omega);rw [h.nl]at ha;refine⟨i,hi,a,ha,?_⟩;unfold cK;rw [e1];omega
theorem dM.UI(h:dM n R B)(hi:i+1<n){a b:Nat}(ha:a< (aA n R B).length)(hb:b< (aA n R B).length)(hm:gi (gl (aA n R B) a) i∈gl B (gi (gl (aA n R B) b) ((i+1:Nat):Int))):
 ∃c:Nat,c< (aA n R B).length/\∀k:Nat,k<n->gi (gl (aA n R B) c) k=if k<=i then gi (gl (aA n R B) a) k else gi (gl (aA n R B) b) k:=by
 have fa:=kZ h.n1 ha;have fb:=kZ h.n1 hb;obtain⟨x,hx⟩:∃x:ai,x=(List.range n).map fun k=>if k<=i then gi (gl (aA n R B) a) k else gi (gl (aA n R B) b) k:=⟨_,rfl⟩
 have fT:∀k:Nat,k<n->gi x k=if k<=i then gi (gl (aA n R B) a) k else gi (gl (aA n R B) b) k:=fun k hk=>by
  rw [hx,bF (by simpa using hk),List.getElem_map,List.getElem_range]
 have yg:x∈aA n R B:=by
  refine(qT h.n1).2 ⟨by rw [hx];simp,fun k hk=>?_,fun k hk=>?_⟩
  ·rw [fT k hk]
   split
   ·exact fa.2.1 k hk
   exact fb.2.1 k hk
  rw [fT k (by omega),fT (k+1) hk]
  by_cases c1:k+1<=i
  ·rw [aF (show k<=i by omega),aF c1];exact fa.2.2 k hk
  rw [aC c1]
  by_cases c2:k<=i
  ·rw [aF c2];obtain rfl:k=i:=by omega
   exact hm
  rw [aC c2];exact fb.2.2 k hk
 obtain⟨c,hc,e⟩:=eZ.1 yg;refine⟨c,hc,fun k hk=>?_⟩;rw [cX hc,e];exact fT k hk
theorem dM.inc(h:dM n R B)(hi:i+1<n){a b:Nat}(ha:a< (aA n R B).length)(hb:b< (aA n R B).length):cK (bA n (aA n R B)) i a∈gl (bP (bA n (aA n R B))) (cK (bA n (aA n R B)) (i+1) b)↔gi (gl (aA n R B) a) i∈gl B (gi (gl (aA n R B) b) ((i+1:Nat):Int)):=by
 have g1:=h.fin (show i<n by omega) ha;have g2:=h.fin hi hb;have hl:=h.len;rw [nu]at g1 g2;rw [mA g2.1.1 (by rw [hl];exact g2.1.2),hl];constructor
 ·rintro⟨_,f,hf,j,hj,k,hk,e1,e2⟩;rw [h.nl]at hf;rw [hl]at hj;have r1:=(h.fin hj hf).2;have r2:=(h.fin (show k<n by omega) hf).2;rw [<-e1,g2.2]at r1;rw [<-e2,g1.2]at r2;obtain rfl:j=i+1:=by omega
  obtain rfl:k=i:=by omega
  have q1:=(h.oi hi hb hf).1 e1;have q2:=(h.oi (show k<n by omega) ha hf).1 e2;rw [q1,q2];exact(kZ h.n1 hf).2.2 k hi
 intro hm;obtain⟨c,hc,hk⟩:=h.UI hi ha hb hm;have q1:=hk i (by omega);have q2:=hk (i+1) hi;rw [aF (dh _)]at q1;rw [aC (by omega)]at q2;exact⟨g1.1,c,by rw [h.nl];exact hc,i+1,by rw [hl];exact hi,i,by omega,(h.oi hi hb hc).2 q2.symm,(h.oi (show i<n by omega) ha hc).2 q1.symm⟩
theorem dM.Rt(h:dM n R B)(hi:i+2<n){a b:Nat}(ha:a< (aA n R B).length)(hb:b< (aA n R B).length)(hm:cK (bA n (aA n R B)) i a∈gl (bP (bA n (aA n R B))) (cK (bA n (aA n R B)) (i+2) b)):gi (gl (aA n R B) a) i∈gl B (gi (gl (aA n R B) b) ((i+2:Nat):Int)):=by
 have g1:=h.fin (show i<n by omega) ha;have g2:=h.fin hi hb;have hl:=h.len;rw [nu]at g1 g2;rw [mA g2.1.1 (by rw [hl];exact g2.1.2),hl]at hm;obtain⟨_,f,hf,j,hj,k,hk,e1,e2⟩:=hm;rw [h.nl]at hf;rw [hl]at hj;have r1:=(h.fin hj hf).2;have r2:=(h.fin (show k<n by omega) hf).2;rw [<-e1,g2.2]at r1;rw [<-e2,g1.2]at r2;obtain rfl:j=i+2:=by omega
 obtain rfl:k=i:=by omega
 have q1:=(h.oi hi hb hf).1 e1;have q2:=(h.oi (show k<n by omega) ha hf).1 e2;rw [q1,q2];have f1:=(kZ h.n1 hf).2.2 k (by omega);have f2:=(kZ h.n1 hf).2.2 (k+1) hi;have f3:=((kZ h.n1 hf).2.1 (k+2) hi).1;exact(h.pos.at_ (e:=gi (gl (aA n R B) f) ((k+2:Nat):Int)) f3.1 f3.2).2.2 _ f2 _ f1
def nt(n:Nat)(M:ah)(a:Nat):ai:=(List.range n).map fun i=>cK M i a
theorem qS{M:ah}{a:Nat}(hi:i<n):gi (nt n M a) i=cK M i a:=by
 unfold nt;rw [bF (by simpa using hi),List.getElem_map,List.getElem_range]
theorem dM.zy(h:dM n R B){y:ai}:y∈aA n (bS (bA n (aA n R B)) n) (bP (bA n (aA n R B)))↔∃a:Nat,a< (aA n R B).length/\y=nt n (bA n (aA n R B)) a:=by
 rw [qT h.n1];constructor
 ·rintro⟨hl,hr,hc⟩;have hex:∀i:Nat,∃a:Nat,i<n->a< (aA n R B).length/\gi y i=cK (bA n (aA n R B)) i a:=fun i=>by
   by_cases hi:i<n
   ·have h1:=hr i hi;obtain⟨j,hj,a,ha,e⟩:=h.wL h1.1.1 h1.1.2;have r:=(h.fin hj ha).2;rw [<-e,h1.2]at r;obtain rfl:i=j:=by omega
    exact⟨a,fun _=> ⟨ha,e⟩⟩
   exact⟨0,fun h=>absurd h hi⟩
  obtain⟨A,hA⟩:=Classical.axiomOfChoice hex;have hA:∀i:Nat,i<n->A i< (aA n R B).length/\gi y i=cK (bA n (aA n R B)) i (A i):=hA;obtain⟨x,hx⟩:∃x:ai,x=(List.range n).map fun i=>gi (gl (aA n R B) (A i:Int)) i:=⟨_,rfl⟩
  have fT:∀i:Nat,i<n->gi x i=gi (gl (aA n R B) (A i:Int)) i:=fun i hi=>by
   rw [hx,bF (by simpa using hi),List.getElem_map,List.getElem_range]
  have yg:x∈aA n R B:=by
   refine(qT h.n1).2 ⟨by rw [hx];simp,fun i hi=>?_,fun i hi=>?_⟩
   ·rw [fT i hi];exact h.at_ (hA i hi).1 hi
   rw [fT i (by omega),fT (i+1) hi];have q:=hc i hi;rw [(hA i (by omega)).2,(hA (i+1) hi).2]at q;exact(h.inc hi (hA i (by omega)).1 (hA (i+1) hi).1).1 q
  obtain⟨c,zY,e⟩:=eZ.1 yg;refine⟨c,zY,rH (n:=n) hl (by simp [nt]) fun i hi=>?_⟩;rw [qS hi,(hA i hi).2];refine(h.oi hi (hA i hi).1 zY).2 ?_;rw [cX zY,e];exact(fT i hi).symm
 rintro⟨a,ha,rfl⟩;refine⟨by simp [nt],fun i hi=>?_,fun i hi=>?_⟩
 ·rw [qS hi];exact h.fin hi ha
 rw [qS (show i<n by omega),qS hi];exact(h.inc hi ha ha).2 ((kZ h.n1 ha).2.2 i hi)
theorem dM.NW(h:dM n R B){a b:Nat}(ha:a< (aA n R B).length)(hb:b< (aA n R B).length)(e:nt n (bA n (aA n R B)) a=nt n (bA n (aA n R B)) b):a=b:=
 tz ha hb (rH (n:=n) (kZ h.n1 ha).1 (kZ h.n1 hb).1 fun i hi=>by
  have:=aH (fun y=>gi y i) e;simp only [qS hi]at this;exact(h.oi hi ha hb).1 this)
theorem dM.wI(h:dM n R B):(aA n (bS (bA n (aA n R B)) n) (bP (bA n (aA n R B)))).length=(aA n R B).length:=by
 have hp:((List.range (aA n R B).length).map (nt n (bA n (aA n R B)))).Perm (aA n (bS (bA n (aA n R B)) n) (bP (bA n (aA n R B)))):=by
  refine(List.perm_ext_iff_of_nodup ?_ (wJ _ _ _).nodup).2 fun y=>?_
  ·exact List.pairwise_map.2 ((List.nodup_range (n:=(aA n R B).length)).imp_of_mem fun {a b} ha hb bL e=>bL (h.NW (fP.1 ha) (fP.1 hb) e))
  rw [h.zy,fh];constructor
  ·rintro⟨a,ha,rfl⟩;exact⟨a,fP.1 ha,rfl⟩
  rintro⟨a,ha,rfl⟩;exact⟨a,fP.2 ha,rfl⟩
 have:=hp.length_eq;rw [lC,pO]at this;exact this.symm
theorem dM.He(h:dM n R B)(hp:p< (aA n R B).length):∃a:Nat,a< (aA n R B).length/\gl (aA n (bS (bA n (aA n R B)) n) (bP (bA n (aA n R B)))) p=nt n (bA n (aA n R B)) a:=by
 have hl:=h.wI;refine h.zy.1 ?_;rw [cX (by omega)];exact dU _
theorem dM.NU(h:dM n R B){a:Nat}(ha:a< (aA n R B).length):∃p:Nat,p< (aA n R B).length/\gl (aA n (bS (bA n (aA n R B)) n) (bP (bA n (aA n R B)))) p=nt n (bA n (aA n R B)) a:=by
 have hl:=h.wI;obtain⟨p,hp,e⟩:=eZ.1 (h.zy.2 ⟨a,ha,rfl⟩);exact⟨p,by omega,by rw [cX hp];exact e⟩
theorem dM.NS(h:dM n R B):uG n (aA n (bS (bA n (aA n R B)) n) (bP (bA n (aA n R B)))):=by
 have hl:=h.wI;have key:∀ {S:Nat->Prop} {a c:Nat},dQ n (aA n R B) S a c->∀ {S':Nat->Prop},(∀k,k<n->(S' k->S k))->∀p:Nat,p< (aA n R B).length->gl (aA n (bS (bA n (aA n R B)) n) (bP (bA n (aA n R B)))) p=nt n (bA n (aA n R B)) a->
  ∃q:Nat,q< (aA n R B).length/\gl (aA n (bS (bA n (aA n R B)) n) (bP (bA n (aA n R B)))) q=nt n (bA n (aA n R B)) c/\dQ n (aA n (bS (bA n (aA n R B)) n) (bP (bA n (aA n R B)))) S' p q:=by
  intro S a c hL S' hS p hp e
  induction hL with
  | refl ha=>exact⟨p,hp,e,.refl (by omega)⟩
  | step vz hi hs hA ih=>
   rename_i b c i;obtain⟨q,hq,e1,l1⟩:=ih;obtain⟨r,hr,e2⟩:=h.NU hA.2.1;refine⟨r,hr,e2,.step l1 hi (fun hx=>hs (hS i hi hx)) ⟨by omega,by omega,fun k hk bL=>?_⟩⟩;rw [e1,e2,qS hk,qS hk];exact(h.oi hk hA.1 hA.2.1).2 (hA.2.2 k hk bL)
 intro p q Ev hq;rw [hl]at hq;obtain⟨a,ha,ea⟩:=h.He (show p< (aA n R B).length by omega);obtain⟨b,hb,eb⟩:=h.He hq;have kI:dQ n (aA n R B) (fun k=>gi (gl (aA n R B) a) k=gi (gl (aA n R B) b) k) a b:=by
  rcases Nat.lt_trichotomy a b with ie | ie | ie
  ·exact h.s4.2.2.2 a b ie hb
  ·subst ie;exact .refl ha
  ·have:=(h.s4.2.2.2 b a ie ha).symm;have e:(fun k:Nat=>gi (gl (aA n R B) b) k=gi (gl (aA n R B) a) k)=fun k:Nat=>gi (gl (aA n R B) a) k=gi (gl (aA n R B) b) k:=funext fun k=>propext ⟨Eq.symm,Eq.symm⟩
   rwa [e]at this
 obtain⟨r,hr,er,lr⟩:=key kI (S':=fun k=>gi (gl (aA n (bS (bA n (aA n R B)) n) (bP (bA n (aA n R B)))) p) k=gi (gl (aA n (bS (bA n (aA n R B)) n) (bP (bA n (aA n R B)))) q) k) (fun k hk e=>by
  rw [ea,eb,qS hk,qS hk]at e;exact(h.oi hk ha hb).1 e) p (by omega) ea
 obtain rfl:r=q:=tz (by omega) (by omega) (er.trans eb.symm);exact lr
theorem dM.NT(h:dM n R B):rX n (bS (bA n (aA n R B)) n) (bP (bA n (aA n R B))):=by
 intro i e f mI mg he hf PS;obtain⟨j,rfl⟩:∃j:Nat,i=j:=⟨i.toNat,by omega⟩;have hj:j<n:=by omega
 have dF:∃e0:Int,mx R j e0/\(e<0↔e0<0)/\(0<=e->1<=j/\∃a:Nat,a< (aA n R B).length/\e=cK (bA n (aA n R B)) (j - 1) a/\e0=gi (gl (aA n R B) a) ((j - 1:Nat):Int)):=by
  rcases he with⟨q1,q2⟩ | ⟨q1,q2,q3⟩
  ·exact⟨-1,.inl ⟨O,q2⟩,by omega,fun _=>by omega⟩
  obtain⟨k,hk,a,ha,ea⟩:=h.wL q1.1 q1.2;have r:=(h.fin hk ha).2;rw [<-ea,q3]at r;obtain rfl:k=j - 1:=by omega
  have g:=h.at_ ha hk;exact⟨_,.inr ⟨g.1,q2,by rw [g.2];omega⟩,by omega,fun _=> ⟨by omega,a,ha,ea,O⟩⟩
 have bU:∃f0:Int,ky n R j f0/\(f<0↔f0<0)/\(0<=f->j+1<n/\∃b:Nat,b< (aA n R B).length/\f=cK (bA n (aA n R B)) (j+1) b/\f0=gi (gl (aA n R B) b) ((j+1:Nat):Int)):=by
  rcases hf with⟨q1,q2⟩ | ⟨q1,q2,q3⟩
  ·exact⟨-1,.inl ⟨O,q2⟩,by omega,fun _=>by omega⟩
  obtain⟨k,hk,b,hb,eb⟩:=h.wL q1.1 q1.2;have r:=(h.fin hk hb).2;rw [<-eb,q3]at r;obtain rfl:k=j+1:=by omega
  have g:=h.at_ hb hk;exact⟨_,.inr ⟨g.1,q2,by rw [g.2];omega⟩,by omega,fun _=> ⟨by omega,b,hb,eb,O⟩⟩
 obtain⟨e0,hL,ID,IE⟩:=dF;obtain⟨f0,hH,IF,II⟩:=bU;have hm:=h.s4.2.2.1 (j:Int) e0 f0 mI mg hL hH (fun k1 k2=>by
  obtain⟨j1,a,ha,ea,wE⟩:=IE (by omega);obtain⟨j2,b,hb,eb,zn⟩:=II (by omega);have:=PS (by omega) (by omega);obtain⟨i,rfl⟩:∃i,j=i+1:=⟨j - 1,by omega⟩;rw [ea,eb]at this;rw [wE,zn];have e1:i+1 - 1=i:=by omega
  rw [e1]at this|-;exact h.Rt (by omega) ha hb this)
 have hex:∀d0:Int,∃c:Nat,d0∈ik R B j e0 f0->c< (aA n R B).length/\gi (gl (aA n R B) c) j=d0:=fun d0=>by
  by_cases hd:d0∈ik R B j e0 f0
  ·have D7:=wo.1 hd;obtain⟨c,hc,ec⟩:=h.FJ D7.1.1 D7.1.2;rw [D7.2.1]at ec;exact⟨c,fun _=> ⟨hc,ec⟩⟩
  exact⟨0,fun h=>absurd h hd⟩
 obtain⟨g,hg⟩:=Classical.axiomOfChoice hex;have hg:∀d0:Int,d0∈ik R B j e0 f0->g d0< (aA n R B).length/\gi (gl (aA n R B) (g d0:Int)) j=d0:=hg;have Iw:∀c:Nat,c< (aA n R B).length->((e<0\/e∈gl (bP (bA n (aA n R B))) (cK (bA n (aA n R B)) j c))↔(e0<0\/e0∈gl B (gi (gl (aA n R B) c) j))):=fun c hc=>by
  by_cases c1:e<0
  ·exact⟨fun _=> .inl (ID.1 c1),fun _=> .inl c1⟩
  obtain⟨j1,a,ha,ea,wE⟩:=IE (by omega);obtain⟨i,rfl⟩:∃i,j=i+1:=⟨j - 1,by omega⟩;have e1:i+1 - 1=i:=by omega
  rw [e1]at ea wE;have:=h.inc hj ha hc;constructor
  ·rintro(q | q)
   ·exact absurd q c1
   rw [ea]at q;exact .inr (by rw [wE];exact this.1 q)
  rintro(q | q)
  ·exact absurd (ID.2 q) c1
  rw [wE]at q;exact .inr (by rw [ea];exact this.2 q)
 have Ip:∀c:Nat,c< (aA n R B).length->((f<0\/cK (bA n (aA n R B)) j c∈gl (bP (bA n (aA n R B))) f)↔(f0<0\/gi (gl (aA n R B) c) j∈gl B f0)):=fun c hc=>by
  by_cases c1:f<0
  ·exact⟨fun _=> .inl (IF.1 c1),fun _=> .inl c1⟩
  obtain⟨j2,b,hb,eb,zn⟩:=II (by omega);have:=h.inc j2 hc hb;constructor
  ·rintro(q | q)
   ·exact absurd q c1
   rw [eb]at q;exact .inr (by rw [zn];exact this.1 q)
  rintro(q | q)
  ·exact absurd (IF.2 q) c1
  rw [zn]at q;exact .inr (by rw [eb];exact this.2 q)
 have hp:((ik R B j e0 f0).map fun d0=>cK (bA n (aA n R B)) j (g d0)).Perm (ik (bS (bA n (aA n R B)) n) (bP (bA n (aA n R B))) j e f):=by
  refine(List.perm_ext_iff_of_nodup ?_ (B9 _ _ _ _ _)).2 fun d=>?_
  ·refine List.pairwise_map.2 ((B9 R B j e0 f0).imp_of_mem fun {d1 d2} h1 h2 bL q=>bL ?_);have a1:=hg d1 h1;have a2:=hg d2 h2;rw [<-a1.2,<-a2.2];exact(h.oi hj a1.1 a2.1).1 q
  rw [fh,wo];constructor
  ·rintro⟨d0,vk,rfl⟩;have a1:=hg d0 vk;have a2:=wo.1 vk;have a3:=h.fin hj a1.1;rw [<-a1.2]at a2;exact⟨a3.1,a3.2,(Iw _ a1.1).2 a2.2.2.1,(Ip _ a1.1).2 a2.2.2.2⟩
  rintro⟨q1,q2,q3,q4⟩;obtain⟨k,hk,c,hc,ec⟩:=h.wL q1.1 q1.2;have r:=(h.fin hk hc).2;rw [<-ec,q2]at r;obtain rfl:k=j:=by omega
  have g1:=h.at_ hc hk;rw [ec]at q3 q4;have vk:gi (gl (aA n R B) c) k∈ik R B k e0 f0:=wo.2 ⟨g1.1,g1.2,(Iw _ hc).1 q3,(Ip _ hc).1 q4⟩;refine⟨_,vk,?_⟩;have a1:=hg _ vk;rw [ec];exact(h.oi hk a1.1 hc).2 a1.2
 have:=hp.length_eq;rw [lC,hm]at this;exact this.symm
theorem dM.Da(h:dM n R B):B8 (bA n (aA n R B)):=by
 have hl:=h.len;have hb:=h.pos.jK;have AK:0< (aA n R B).length:=List.length_pos_iff.2 h.s4.1;refine⟨by rw [hl,h.TE];exact hb,?_,?_⟩
 ·unfold C0;rw [hl,h.wI,h.nl]
 rw [hl];refine⟨fun e=>?_,fun e h0 h1=>?_,h.NT,h.NS⟩
 ·have:=h.wI;rw [e]at this;simp at this;omega
 obtain⟨i,hi,a,ha,ea⟩:=h.wL h0 h1;refine⟨_,h.zy.2 ⟨a,ha,O⟩,?_⟩;rw [ea];unfold nt;exact fh.2 ⟨i,fP.2 hi,O⟩
end
theorem Uo(R:ai):(cI R.length).map (gi R)=R:=by
 apply ia (by simp [cI]);intro i h1 h2;simp only [cI,List.getElem_map,List.getElem_range];exact bF h2
theorem KJ(R:ai)(i:Int):(mR R i).length=(R.filter fun x=>decide (x=i)).length:=by
 have h:=aH (fun l=> (l.filter fun x=>decide (x=i)).length) (Uo R);simp only [List.filter_map,lC]at h;exact h
theorem Hn(M:ah)(i:Nat):∀n:Nat,((bS M n).filter fun x=>decide (x=(i:Int))).length=if i<n then(fK M i).toNat else 0
 | 0=>rfl
 | n+1=>by
  rw [bS,oW,eY,Hn M i n]
  by_cases e:i=n
  ·subst e;rw [aC (Nat.lt_irrefl _),aF (Nat.lt_succ_self _),List.filter_eq_self.2 fun x hx=>by rw [(List.mem_replicate.1 hx).2];simp,List.length_replicate,Nat.zero_add]
  ·rw [List.filter_eq_nil_iff.2 fun x hx=>by rw [(List.mem_replicate.1 hx).2];simp;omega]
   by_cases h:i<n
   ·rw [aF h,aF (by omega)];rfl
   ·rw [aC h,aC (by omega)];rfl
theorem Od(M:ah){i n:Nat}(h:i<n):((mR (bS M n) i).length:Int)=fK M i:=by
 rw [KJ,Hn,aF h];have:=(sc M i).1;omega
section
variable {m1 m2:Nat} {qC qD:Int->Int} {kind:Int}
def cE(m:Nat)(k:Int->Nat)(ok:Int->Bool)(t:Nat):Nat:=((cI m).filter fun a=>decide (k a=t) && ok a).length
end
def nr(n:Nat)(R:ai):ai:=(List.range n).map fun i:Nat=> ((mR R i).length:Int)
theorem CF(n:Nat)(R:ai):(nr n R).length=n:=by simp [nr]
end Go.Proofs.YtagdamiiececaaaGreatDoor.Vc
namespace Go.Proofs.YtagdamiiececaaaGreatDoor.Vc
open Go.RowKit Tryz
variable{i:Nat}{R:ai}
theorem MP(Ac:aj)(nc cc:Nat)(w:aa):aJ prog 7 [.slice Ac nc cc] w (fun v w'=>v= .bool (decide (4096< (nc:Int)))/\St w w' []):=by
 refine br func7 O ntmps7 O (cw O) ?_;refine a8 O (ba O O (bI O ?_));exact cH O ⟨O,St.refl w⟩
theorem SQ(A:aj)(n c:Nat)(xs:ai)(B:aj)(m cB:Nat)(ys:ai)(w:aa)(hX:bu w A n xs)(hY:bu w B m ys)(hn:n<=9223372036854775806):
 aJ prog 21 [.slice A n c,.slice B m cB] w (fun v w'=>v= .bool (decide (xs=ys))/\St w w' []):=by
 have eu:=hX.1;have vI:=hY.1;refine br func21 O ntmps21 O (cw O) ?_;refine a8 O (ba O O (ar O (ba O O (aE O ?_))));refine aN _ O (fun h1=>?_) (fun h1=>?_)
 ·have bL:xs≠ys:=fun e=>h1 (by rw [<-eu,<-vI,e])
  refine du O (cH O ?_);exact⟨by rw [cS bL],St.refl w⟩
 have QF:n=m:=by omega
 subst QF;refine df O (Cd.loop (α:=Nat) (fun i=> [(0,.slice A n c),(1,.slice B n cB),(5,ak i)]) (fun i w'=>St w w' []/\i<=n/\∀j,j<i->xs[j]?=ys[j]?) (fun i=>n - i) 0 (WM O) ⟨St.refl w,bn _,fun j hj=>absurd hj (gM _)⟩ ?_);rintro i e w1 ⟨ay,hi,hj⟩;have zU:=ay.da hX;have xh:=ay.da hY;refine a8 O (ba O O (aE O ?_));refine aN _ O (fun h2=>?_) (fun h2=>?_)
 ·refine df O (dL [xS (A) (n) (c),xI ((i:Int)),xP (aD (A) ((i:Int)).toNat),xI (gi (xs) ((i:Int))),xS (B) (n) (cB),xI ((i:Int)),xP (aD (B) ((i:Int)).toNat),xI (gi (ys) ((i:Int))),xB (decide (¬(gi (xs) ((i:Int)))=(gi (ys) ((i:Int)))))] O (dV O) ?_ ?_)
  ·exact⟨Dr O,Dr O,fun _ _ hb _ _=>aB (zU.aq hb).2 O Az,fun _ _ hb _ _=>aW (zU.aq hb) O Az,Dr O,Dr O,fun _ _ hb _ _=>aB (xh.aq hb).2 O Az,fun _ _ hb _ _=>aW (xh.aq hb) O Az,Dr O,av⟩
  intro u w2 iI _;have aM:=ay.aq iI;refine fq O (aN _ O (fun h3=>?_) (fun h3=>?_))
  ·have bL:xs≠ys:=fun e=>h3 (by rw [e])
   refine du O (dN (dE ?_));refine cH O ?_;exact⟨by rw [cS bL],aM⟩
  have h3:=Decidable.not_not.1 h3;rw [bF (by omega),bF (by omega)]at h3;refine aG O (aK O (aR O (tQ ?_)));refine⟨i+1,by show n - (i+1)<n - i;omega,(WM O),aM,by omega,fun j jS=>?_⟩
  by_cases e:j=i
  ·subst e;rw [eS (by omega),eS (by omega),h3]
  exact hj j (by omega)
 have he:xs=ys:=List.ext_getElem? fun j=>by
  by_cases tU:j<n
  ·exact hj j (by omega)
  rw [oX (by omega),oX (by omega)]
 refine bk O (bm (fA O ?_));refine cH O ?_;exact⟨by rw [eD he],ay⟩
def jy(n:Nat)(R:ai)(i:Nat):ai:=(List.range n).map fun r:Nat=> (((R.take i).filter fun x=>decide (x=(r:Int))).length:Int)
theorem uV(n:Nat)(R:ai)(i:Nat):(jy n R i).length=n:=by simp [jy]
theorem Ng(n:Nat)(R:ai):jy n R 0=List.replicate n 0:=by
 apply ia (by simp [jy]);intro i h1 h2;simp [jy]
theorem Ni(n:Nat)(R:ai):jy n R R.length=nr n R:=by
 unfold jy nr;refine kS fun r _=>?_
 rw [List.take_length,KJ]
theorem zj{n:Nat}{r:Nat}(h:r<n):gi (jy n R i) r=(((R.take i).filter fun x=>decide (x=(r:Int))).length:Int):=by
 rw [bF (by rw [uV];exact h)];simp [jy]
theorem Nh{n:Nat}{r:Nat}(h:r<n):0<=gi (jy n R i) r/\gi (jy n R i) r<=R.length:=by
 rw [zj h];have:=mX (fun x=>decide (x=(r:Int))) (R.take i);rw [mY]at this;omega
theorem Nj{n:Nat}{r:Nat}(hi:i<R.length)(hr:r<n)(e:gi R i=(r:Int)):(jy n R i).set r (gi (jy n R i) r+1)=jy n R (i+1):=by
 apply ia (by rw [ij,uV,uV]);intro k h1 h2;rw [uV]at h2;rw [List.getElem_set];have g1:(jy n R (i+1))[k]'(by rw [uV];exact h2)=gi (jy n R (i+1)) k:=by rw [bF]
 have g2:(jy n R i)[k]'(by rw [uV];exact h2)=gi (jy n R i) k:=by rw [bF]
 rw [g1,g2,zj h2,zj h2,zj hr];have ht:R.take (i+1)=R.take i++ [gi R i]:=by rw [oZ hi,bF hi]
 rw [ht,oW,eY,e]
 by_cases hk:r=k
 ·subst hk;rw [aF rfl];simp
 rw [aC hk,qJ (by simp;omega)];simp
theorem Nt(n:Nat)(A1 A D:aj)(N m cA cD:Nat)(R:ai)(w:aa)(hB:Rd w A1 3 (fun j=> [Value.int .i64 (n:Int),.slice A N cA,.slice D m cD].getD j undef))(hR:bu w A N R)(hr:∀x∈R,0<=x/\x< (n:Int))(hn:n<=1000)(hN:N<=1000000):
 aJ prog 68 [.pointer A1] w (uF (nr n R) w):=by
 have hl:=hR.1;refine br func68 O ntmps68 O (cw O) (a8 O ?_);refine kb hB (by decide) O O ?_;refine aS hB O (fJ (j:=0) hB (by exact aH Value.pointer O) O O O O ?_);refine rZ n (St.refl w) O O ⟨by omega,by omega⟩ ?_;intro b9 w1 ay;have ay:St w w1 [aw 2 b9 n n (jy n R 0)]:=by rw [Ng];exact ay
 have iD:=Rd.below hB ay.below;refine ar O (kb iD (by decide) O O ?_);refine aS iD O (WI (j:=1) iD (by exact aH Value.pointer O) O O O O ?_);refine ba O O (aE O ?_);refine Cd.loop (α:=Nat) (fun i=> [(3,.slice b9 n n),(14,.slice A N cA),(15,ak N),(16,ak i)]) (fun i w'=>i<=N/\St w w' [aw 2 b9 n n (jy n R i)]) (fun i=>N - i) 0 (WM O) ⟨bn _,ay⟩ ?_;clear ay;rintro i e w2 ⟨hi,aM⟩;refine bX O (aN _ O (fun h1=>?_) (fun h1=>?_))
 ·have mg:i<R.length:=by omega
  have hm:=hr _ (gi_in mg);obtain⟨r,oF⟩:∃r:Nat,gi R i=r:=⟨(gi R i).toNat,by omega⟩;have fp:r<n:=by omega
  have lj:=Nh (R:=R) (i:=i) fp;have nw:=aM.da hR;refine aG O (aB nw.2 O (aW nw O ?_));rw [oF];refine ar O ?_;refine WB (aM.rd 0 O) O O O (by omega) (by show(r:Int)< (n:Int);omega) ?_;refine WC (aM.bo 0 O) O (by show(r:Int).toNat<n;omega) O O ?_;refine aK O ?_;refine WB (aM.rd 0 O) O O O (by omega) (by show(r:Int)< (n:Int);omega) ?_;refine il 0 (i:=(r:Int)) aM O O O (by show(r:Int).toNat<n;omega) ?_;intro w3 aU;have aU:St w w3 [aw 2 b9 n n (jy n R (i+1))]:=by
   rw [<-Nj mg fp oF];exact aU
  refine ar O (aK O (aR O (tQ ?_)));exact⟨i+1,by show N - (i+1)<N - i;omega,(WM O),by omega,aU⟩
 have tT:i=R.length:=by omega
 rw [tT,Ni]at aM;refine bk O (bm (fA O ?_));refine eW O ?_;exact⟨b9,n,by rw [CF],by rw [CF];exact aM⟩
theorem JL(n:Nat)(A D:aj)(cA cD:Nat)(R:ai)(rs:List aL)(B:ah)(w:aa)(hR:bu w A R.length R)(hB:bq w D B.length rs B)(hP:dm n R B):
 aJ prog 19 [.agg #[ak n,.slice A R.length cA,.slice D B.length cD]] w (fun v w'=>∃A' c',v= .tuple #[.slice A' n c',ak 0]/\St w w' [aw 2 A' n c' (nr n R)]):=by
 have hn:=hP.n1;have vh:=hP.jK;refine br func19 O ntmps19 O (jw O) (a8 O (ga (St.refl w) O O ?_));intro A1 w1 ay;refine ar O (bK 2 (ay.rd 0 O) O O O (aI (Bi n A D cA cD R rs B _ (ay.da hR) (ay.bO hB) hP) O ?_));rintro _ w2 ⟨rfl,ax⟩;have aM:=ay.aq ax.below
 first | refine dk rfl rfl ?_ | refine eF rfl rfl ?_
 refine aE O (Cd.eM O (aG O ?_));refine aI (Nt n A1 A D R.length B.length cA cD R _ (aM.rd 0 O) (aM.da hR) (fun x hx=>by have:=hP.jD x hx;omega) (by omega) (by omega)) O ?_;rintro _ w3 ⟨A',c',rfl,qv⟩;rw [CF]at qv|-;refine bI O (mQ O O ?_);exact⟨A',c',O,(aM.call qv).sub (kU _ _)⟩
theorem R8(Ac:aj)(nc cc:Nat)(bs:ai)(w:aa)(hY:nj w Ac nc bs)(oC:nc<=1000000):
 aJ prog 55 [.slice Ac nc cc] w (fun v w'=>∃(As:aj) (k:Ck),v= .pointer As/\(∀w0,nj w0 Ac nc bs->fu w0 As k)/\St w w' [k]):=by
 refine br func55 O ntmps55 O (cw O) ?_;refine a8 O (ba O O ?_);refine nZ O O (rT _ (by omega)) (yW O O O fun r1 _=>?_)
 refine LP (by exact inferInstance) (by exact inferInstance) (by exact inferInstance) O O O O O O O O (LR (St.refl w) O O ?_);intro As w2 hS;refine aE O (Cd.loop (α:=Nat×Int) (fun s=> [(0,.slice Ac nc cc),(3,.pointer As),(4,ak (s.1:Int))]) (fun s w'=>St w w' [Bx 104 3 As [.slice Ac nc cc,ak 0,.int .u64 s.2]]/\s.1<=nc) (fun s=>nc - s.1) (0,_) (WM O) ⟨hS,bn _⟩ ?_);rintro⟨i,h⟩ e w3 ⟨ay,hi⟩;dsimp only at ay hi|-;refine a8 O (ba O O (ar O ?_));refine bY 16 O (fun h1=>?_) (fun h1=>?_)
 ·skip
  refine au O (ar O (au O (aE O ?_)));refine aN _ O (fun h2=>?_) (fun h2=>?_)
  ·skip
   have OG:=hY.at_ (j:=(i:Int)) (by omega) (by omega);have xh:=hY.below ay.below;refine df O ?_;refine ja [15] [yP (As),yP (As),yP (As),yP (aD (As) 2),.ex (.int .u64 h),.pr (fun v _=>∃r:Int,v= .int .u64 r),yS (Ac) (nc) (cc),yI ((i:Int)),yP (aD Ac (i:Int).toNat),.ex (.int .u8 (bs.getD (i:Int).toNat 0)),.ex (.int .u64 (bs.getD (i:Int).toNat 0)),.pr (fun v _=>∃r:Int,v= .int .u64 r),.pr (fun v _=>∃r:Int,v= .int .u64 r),yP (As),yP (aD (As) 2),.pr (fun _ w'=>∃r:Int,St w w' [Bx 104 3 As [.slice Ac nc cc,ak 0,.int .u64 r]])] (by kernel_rfl) (by kernel_rfl) (ly (ly (ly (ly (ly (cM.2 ⟨Ye.cN (fun _ _ _ h _=>h),(ly (ly (ly (ly (ly (cM.2 ⟨Ye.cN (fun _ _ _ h _=>h),(cM.2 ⟨Ye.cN (fun _ _ _ h _=>h),(ly (ly (cM.2 ⟨Ye.cN (fun v w w' h hb=>by obtain⟨r,h⟩:=h;exact⟨r,h.aq hb⟩),(fun _ h=>by cases h)⟩)))⟩)⟩))))))⟩)))))) ?_ ?_
   ·refine⟨bT O,bT O,cP fun _ _ hb _ _ _=>kb ((ay.rd 0 O).below hb) (Nat.succ_pos _) O O (bB O O),cP fun _ _ hb _ _ _=>aS ((ay.rd 0 O).below hb) O (bB O O),?_,?_,bT O,bT O,?_,?_,?_,?_,?_,cP fun _ _ hb _ _ _=>kb ((ay.rd 0 O).below hb) (Nat.succ_pos _) O O (bB O O),cP fun _ _ hb _ _ _=>aS ((ay.rd 0 O).below hb) O (bB O O),?_,av⟩
    ·refine cP fun e1 w1 hb hp aX hq=>?_
     refine fJ (k:= .u64) ((ay.rd 0 O).below hb) O O O O O (ao.n (eO O (by exact O)))
    ·intro e1 w1 cc dF bU dO hp aX hq;show ao _ _ _ _ _ _ _;refine Ge O O O fun r _=>?_
     exact ao.n (eX.dn O (Below.refl _ _) ⟨r,O⟩)
    ·refine cP fun e1 w1 hb hp aX hq=>?_
     refine aB (xh.below hb).2.2 O (ao.n (eO O (by exact O)))
    ·refine cP fun e1 w1 hb hp aX hq=>?_
     refine Gc (xh.below hb) O (by omega) O O (ao.n (eO O (by exact O)))
    ·intro e1 w1 cc dF bU dO hp aX hq;show ao _ _ _ _ _ _ _;refine nZ O O (rT _ (by omega)) (ao.n (eO O (by exact O)))
    ·refine cP fun e1 w1 hb hp aX hq=>?_
     obtain⟨r,hr⟩:=(hp 5 _ _ (by kernel_rfl) rfl rfl (by kernel_rfl));refine yW (by exact hr) O O fun r _=>?_
     exact ao.n (eX.dn O (Below.refl _ _) ⟨r,O⟩)
    ·refine cP fun e1 w1 hb hp aX hq=>?_
     obtain⟨r,hr⟩:=(hp 11 _ _ (by kernel_rfl) rfl rfl (by kernel_rfl));refine yW (by exact hr) O O fun r _=>?_
     exact ao.n (eX.dn O (Below.refl _ _) ⟨r,O⟩)
    refine jc fun e1 w1 hb hp aX hq=>?_
    obtain⟨r,hr⟩:=(hp 12 _ _ (by kernel_rfl) rfl rfl (by kernel_rfl));refine kB 0 (ay.aq hb) O O (by exact hr) O O ?_;intro w9 hT;exact ao.n (fg.st O ⟨r,hT⟩)
   intro u w5 _ hu _ _;obtain⟨r,hT⟩:=hu 15 _ rfl (by kernel_rfl);refine gZ O (aK O (aR O (tQ ?_)));exact⟨(i+1,r),by show nc - (i+1)<nc - i;omega,(WM O),hT,by show i+1<=nc;omega⟩
  refine bk O (bm (fA O ?_));refine BF O ?_;exact⟨As,_,O,fun w0 h0=> ⟨Ac,nc,cc,0,h,bs,O,⟨Int.le_refl _,by omega⟩,oC,h0⟩,ay⟩
 skip
 refine az O (az O (aE O ?_));refine Cd.eM O (bk O (bm (fA O ?_)));refine BF O ?_;exact⟨As,_,O,fun w0 h0=> ⟨Ac,nc,cc,0,h,bs,O,⟨Int.le_refl _,by omega⟩,oC,h0⟩,ay⟩
end Go.Proofs.YtagdamiiececaaaGreatDoor.Vc
