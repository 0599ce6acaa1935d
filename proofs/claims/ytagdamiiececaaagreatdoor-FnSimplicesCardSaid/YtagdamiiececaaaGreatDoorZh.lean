/-
 Lemmas. Conditions: as each states them.
-/
import Derived.Test.YtagdamiiececaaaGreatDoorZg
set_option maxHeartbeats 8000000
namespace Go.Proofs.YtagdamiiececaaaGreatDoor.Vc
open Go.RowKit Tryz
variable{Q:List Nat}{k y z:Nat}{L xs R:ai}{x i:Int}
theorem Tl(PB A:aj)(N c n:Nat)(rs:List aN)(fl:ah)(f i:Nat)(w:aa)(hT:js w)(hb:Rd w PB 1 (fun _=> .slice A N c))(hM:br w A N rs fl)(hf:f<N)(hN:N<=1000)(hl:(gl fl f).length=n)(hi:i<n)(hn:n<=100)(hr:∀x∈gl fl f,0<=x/\x<=1000000):
 aG prog 192 [ak f,ak i,.pointer PB] w (fun v w'=>v=wy (iE (gl fl f) i)/\St w w' []):=by
 have iY:=hM.len;have ir:=hM.at_ (i:=(f:Int)) (by omega) (by omega);have ni:=ir.1;refine bA func192 O ntmps192 O (cJ O) (a8 O (ajn (j:=0) hb (by exact aO Value.pointer (nY _).symm) O O O O (ar O (aM hM.top.2 O (dI hM.top O (aL (Fe _ _ _ _ _ ir (by omega)) O ?_))))));rintro _ w1 ⟨A6,c6,rfl,hS⟩;refine ar O (aM (hS.bI 0 O).2 O (lu 0 hS O O O (by omega) ?_));intro w2 aB;have aB:St w w2 [az 2 A6 (rg rs f).n c6 (iE (gl fl f) i)]:=aB;refine ar O ?_;refine ajj (zz A6 _ c6 (iE (gl fl f) i) _ (hT.aq aB.below) (aB.bI 0 O) (fun x hx=>by
  rcases List.mem_or_eq_of_mem_set hx with h | h
  ·have:=hr x h;omega
  omega) (by omega)) rfl rfl rfl ?_
 rintro _ w3 ⟨rfl,au⟩;refine bM O (L9 O ?_);exact⟨O,aB.none.aq au.below⟩
abbrev sG(PB A:aj)(N c:Nat)(fj:aj)(L:ai)(Aa:aj)(ca:Nat)(al:ai)(g:Nat)(M:List mI)(ks:List Ck):List Ck:=
 az 2 fj N N L::Bx 25 1 PB [.slice A N c]::az 2 Aa al.length ca al::ij 118 g (gw wy Cn M)::(pf 2 M++ks)
def ox(Q:List Nat):ai:=Q.map fun x:Nat=> (x:Int)
theorem ab5(h:k<Q.length):gi (ox Q) k=(Q.getD k 0:Nat):=by
 rw [bO (by simp [ox,h])];simp [ox,cN,h]
theorem Yh(h:k<Q.length):(Q++ [y]).getD k 0=Q.getD k 0:=by
 rw [cN,mc h,<-cN]
theorem ab6(h:k<=Q.length):ox ((Q++ [y]).drop k)=ox (Q.drop k)++ [(y:Int)]:=by
 rw [List.drop_append_of_le_length h];simp [ox]
theorem JD{f:Nat}(h:0<=gi L z):0<=gi (L.set y (f:Int)) z:=by
 simp only [gi,gG,cN,mG]at h|-
 split
 ·split
  ·simp
  exact Int.le_refl _
 exact h
theorem Yi{f:Nat}(h:y<L.length):gi (L.set y (f:Int)) y=f:=by
 rw [bO (by simpa using h)];simp
theorem aex(A:aj)(N c:Nat)(rs:List aN)(fl:ah)(n:Nat)(A2:aj)(c2:Nat)(cm:ai)(w:aa)(hT:js w)(hM:br w A N rs fl)(hC:cn w A2 n cm)(hN:N<=401)(hn:n<=5)(hl:∀x∈fl,x.length=n/\∀e∈x,0<=e/\e<=1000000)(tj:fl.Nodup):
 aG prog 123 [.slice A N c,.slice A2 n c2] w (fun v w'=>∃A' L,v= .slice A' N N/\jU N (jr n fl cm) N L/\St w w' [az 2 A' N N L]):=by
 have iY:=hM.len;have dt:=hC.1;have BP:∀f:Nat,f<N->gl fl f∈fl:=fun f hf=>by rw [bP (by omega)];exact dB _
 have qj:∀x∈fl,x.length=n/\∀e∈x,0<=e:=fun x hx=> ⟨(hl x hx).1,fun e he=> ((hl x hx).2 e he).1⟩
 have pC:∀x∈fl,x.length=n:=fun x hx=> (hl x hx).1
 refine bA func123 O ntmps123 O (cJ O) (a8 O ?_);refine ao.box (v:= .slice A N c) (St.refl w) O O (by show(1:Nat)<=maxLen;simp [maxLen]) ?_;intro PB w1 aA;have dd:Rd w1 PB 1 (fun _=> .slice A N c):=Rd.one (aA.rd 0 O);refine ar O (eH (i:= -1) aA O O O ?_);intro Ib w2 aB;have dd:Rd w2 PB 1 (fun _=> .slice A N c):=Rd.one (aB.rd 1 O);refine ajn (j:=0) dd (by exact aO Value.pointer (nY _).symm) O O O O (bc O O (aL (Fm Ib 1 (-1) N _ (aB.bI 0 O) (by omega)) O ?_));rintro _ w3 ⟨fj,rfl,au⟩;have aH:=aB.call au;clear au;refine ar O (C0 aH O ?_);intro g w4 aV;have dd:Rd w4 PB 1 (fun _=> .slice A N c):=Rd.one (aV.rd 3 O);refine ar O (Vf O O (ar O (ajn (j:=0) dd (by exact aO Value.pointer (nY _).symm) O O O O (aL (EX _ _ _ _) O ?_))));rintro _ w4 ⟨rfl,rfl⟩;have aW:St w w4 [az 2 none 0 0 [],ij 118 g [],az 2 fj N N (List.replicate N (-1)),az 2 Ib 1 1 [-1],Bx 25 1 PB [.slice A N c]]:=aV.nil 2;have aW:St w w4 (sG PB A N c fj (List.replicate N (-1)) none 0 (iA n fl cm 0) g [] []):=by
  have h9:=aW.perm (show List.Perm _ (az 2 Ib 1 1 [-1]::sG PB A N c fj (List.replicate N (-1)) none 0 (iA n fl cm 0) g [] []) from by
   classical
   refine kN.2 fun z=>?_
   simp only [sG,pf,List.map_nil,mb,kL,mE,iA,bN,List.range_zero,List.filter_nil,List.length_nil];have:gw wy Cn ([]:List mI)=[]:=O;rw [this];omega)
  exact h9.tail
 clear aV aH aB aA dd;refine aI O (Cd.loop (α:=Nat×aj×Nat×List mI) (fun z=> [(1,.slice A2 n c2),(2,.pointer PB),(5,.slice fj N N),(6,.map (some g)),(7,.func (.func 192) #[] #[.pointer PB]),(8,.slice z.2.1 (iA n fl cm z.1).length z.2.2.1),(26,ak N),(27,ak (z.1:Int))]) (fun z w'=>z.1<=N/\iS n fl (wH n fl cm z.1 0) (fun _=>False) (5*z.1) z.2.2.2/\St w w' (sG PB A N c fj (List.replicate N (-1)) z.2.1 z.2.2.1 (iA n fl cm z.1) g z.2.2.2 [])) (fun z=>N - z.1) (0,none,0,[]) (ajs O) ⟨a7 _,iS.zero,aW⟩ ?_);clear aW;rintro⟨f,Aa,ca,M⟩ e w5 ⟨hf,iU,hS⟩;dsimp only at hf iU hS|-;have eu:(iA n fl cm f).length<=500:=by
  refine nv (rM _ _) ?_;rw [bN,fk,pU];omega
 refine bL O (aR _ O (fun h1=>?_) (fun h1=>?_))
 ·have kI:f<N:=by omega
  have dd:Rd w5 PB 1 (fun _=> .slice A N c):=Rd.one (hS.rd 1 O);have xv:=hS.bY hM;have ir:=xv.at_ (i:=(f:Int)) (by omega) (by omega);have ni:=ir.1;have zh:=hl _ (BP f kI);have hnn:(rg rs f).n=n:=by omega
  have DU:=Wy (n:=n) (c:=cm) (x:=gl fl f) dt;have BF:=VC (n:=n) (fl:=fl) (c:=cm) (f:=f);refine aE O (ajn (j:=0) dd (by exact aO Value.pointer (nY _).symm) O O O O (ar O (aM xv.top.2 O (dI xv.top O (aL (NP A2 (rg rs f).a n c2 (rg rs f).n (rg rs f).c cm (gl fl f) _ (hS.gW hC) ir hnn.symm (by omega)) O ?_)))));rintro _ w6 ⟨Uw,Wn,rfl,au⟩;have ba:=hS.aq au.below;have DD:=ba.gW hC;have Pn:=au.bI 0 O;clear au hS dd xv ir;refine ar O ?_;refine aL (MO Uw _ Wn (nE cm (gl fl f)) A2 n c2 cm _ Pn DD (by rw [AU];omega)) O ?_;rintro _ w7 ⟨rfl,au⟩;have bG:=ba.aq au.below;clear au ba Pn DD
  first | refine eA rfl rfl ?_ | refine eU rfl rfl ?_
  refine aI O (aR _ O (fun h2=>?_) (fun h2=>?_))
  ·have gV:¬jx n cm (gl fl f):=fun h=>h2 (DU.2 h)
   rw [aw gV]at BF;refine aE O (aK O (aU O (tQ ?_)));refine⟨(f+1,Aa,ca,M),by show N - (f+1)<N - f;omega,⟨O,O,O,O,O,?_,O,O,av⟩,by show f+1<=N;omega,(iU.skip gV).more (by show 5*f<=5* (f+1);omega),?_⟩
   ·show Value.slice _ _ _=_;rw [BF]
   show St w w7 (sG _ _ _ _ _ _ _ _ (iA n fl cm (f+1)) _ _ _);rw [BF];exact bG
  have ka:jx n cm (gl fl f):=DU.1 (iy.1 h2);rw [ay ka]at BF;refine aE O (eH bG O O O ?_);intro A9 w8 bS;refine fN 3 bS O (bS.bI 0 O) O O O ?_;intro AZ cZ w9 bH;have bH:St w w9 (sG PB A N c fj (List.replicate N (-1)) AZ cZ (iA n fl cm (f+1)) g M []):=by
   have h9:=bH.tail;rw [BF];show St w w9 (_::_::az _ AZ ((iA n fl cm f++ [(f:Int)]).length) cZ _::_);rw [cS];exact h9
  have aag:(iA n fl cm f).length+1=(iA n fl cm (f+1)).length:=by rw [BF,cS];rfl
  clear bS bG;refine ar O (bc O O (aI O ?_));refine Cd.loop (α:=Nat×List mI) (fun z=> [(1,.slice A2 n c2),(2,.pointer PB),(5,.slice fj N N),(6,.map (some g)),(7,.func (.func 192) #[] #[.pointer PB]),(8,.slice AZ (iA n fl cm (f+1)).length cZ),(26,ak N),(27,ak f),(9,ak f),(44,ak n),(45,ak (z.1:Int))]) (fun z w'=>z.1<=n/\iS n fl (wH n fl cm f z.1) (fun _=>False) (5*f+z.1) z.2/\St w w' (sG PB A N c fj (List.replicate N (-1)) AZ cZ (iA n fl cm (f+1)) g z.2 [])) (fun z=>n - z.1) (0,M) ⟨O,O,O,O,O,aO (fun m=>Value.slice AZ m cZ) aag,O,O,O,O,O,av⟩ ⟨a7 _,iU,bH⟩ ?_;clear bH iU;rintro⟨i,M⟩ e eL ⟨hi,iU,hS⟩;dsimp only at hi iU hS|-;refine bL O (aR _ O (fun h3=>?_) (fun h3=>?_))
  ·have bW:i<n:=by omega
   refine aE O (aL (Tl PB A N c n rs fl f i _ (hT.aq hS.below) (Rd.one (hS.rd 1 O)) (hS.bY hM) kI (by omega) zh.1 bW (by omega) zh.2) O ?_);rintro _ fI ⟨rfl,au⟩;have hS:=hS.aq au.below;have hlen:=iU.len (iE (gl fl f) i);have tm:=iU.put (by omega) bW ka;generalize sj:iE (gl fl f) i=kx at*;have Rl:=(IA (pre:=[_,_,_,_]) (x:=kx) hS).1;clear au;refine ar O ?_;refine ao.look (v:= .slice (iT M kx).a (iT M kx).n (iT M kx).c) Ci (hS.Cu 3 rfl) rfl rfl (by unfold iT;cases eX M kx<;>rfl) rfl ?_;refine ar O (eH hS O O O ?_);intro A9 fZ dM;have dM:=St.T4 (pre:=[_,_,_,_,_]) (x:=kx) dM;refine fN 0 dM O (dM.bI 1 O) O O O fun AY cY gM iV=>Ag O Ci 5 (a:=kx) (u:=(⟨AY,(iT M kx).n+1,cY⟩,ju M kx++ [(f:Int)])) iV O O O O ?_;intro oI jh;have ib:=(M5 (M:=M) (x:=kx) (u:=(⟨AY,(iT M kx).n+1,cY⟩,ju M kx++ [(f:Int)])) (pre:=[_,_,_,_,_]) jh).tail;refine ar O (aK O (aU O (tQ ?_)));exact⟨(i+1,gX M kx (⟨AY,(iT M kx).n+1,cY⟩,ju M kx++ [(f:Int)])),by show n - (i+1)<n - i;omega,(ajs O),by show i+1<=n;omega,tm _,ib⟩
  obtain rfl:i=n:=by omega
  refine bw O (bz (dh O (aK O (aU O (tQ ?_)))));exact⟨(f+1,AZ,cZ,M),by show N - (f+1)<N - f;omega,(ajs O),by show f+1<=N;omega,iU.row.more (by show 5*f+i<=5* (f+1);omega),hS⟩
 obtain rfl:f=N:=by omega
 subst iY;have J5:=CX n fl cm;have iU:iS n fl (fun y _=>jx n cm (gl fl y)) (fun y=>0<=gi (List.replicate fl.length (-1:Int)) y) 2005 M:=((iU.congr fun y i hy hi=> ⟨fun h=>h.1,fun h=> ⟨h,.inl hy⟩⟩).mono fun y _ h=>h.elim).more (by omega);have s7:=adb (n:=n) (fl:=fl) (c:=cm) (jU.zero fl.length (jr n fl cm));have iC:=fun(L:ai) (j f:Nat) (hj:j< (iA n fl cm fl.length).length) (hf:gi (iA n fl cm fl.length) j=f) h=>ade (n:=n) (fl:=fl) (c:=cm) (L:=L) hj hf h
 have jQ:=fun y:Int=>Db (n:=n) (fl:=fl) (c:=cm) (f:=fl.length) (y:=y)
 generalize iA n fl cm fl.length=al at*;refine bw O (bz (dh O (bc O O (aI O ?_))));refine Cd.loop (α:=Nat×ai×List mI) (fun z=> [(1,.slice A2 n c2),(2,.pointer PB),(5,.slice fj fl.length fl.length),(6,.map (some g)),(7,.func (.func 192) #[] #[.pointer PB]),(62,.slice Aa al.length ca),(63,ak (al.length:Int)),(64,ak (z.1:Int))]) (fun z w'=>z.1<=al.length/\jU fl.length (jr n fl cm) (oR fl.length al z.1) z.2.1/\iS n fl (fun y _=>jx n cm (gl fl y)) (fun y=>0<=gi z.2.1 y) 2005 z.2.2/\St w w' (sG PB A fl.length c fj z.2.1 Aa ca al g z.2.2 [])) (fun z=>al.length - z.1) (0,List.replicate fl.length (-1),M) (ajs O) ⟨a7 _,s7,iU,hS⟩ ?_;clear hS iU s7 hf h1;rintro⟨j,L0,M⟩ e w6 ⟨hj,s7,iU,hS⟩;dsimp only at hj s7 iU hS|-;refine bL O (aR _ O (fun h1=>?_) (fun h1=>?_))
 ·have GU:j<al.length:=by omega
  have Qq:=(jQ _).1 (gi_in GU);obtain⟨f,hf⟩:∃f:Nat,gi al j=f:=⟨(gi al j).toNat,by omega⟩;have s9:oR fl.length al j=f:=by unfold oR;rw [if_pos GU,hf];rfl
  rw [hf]at Qq;rw [s9]at s7;have Bs:=s7.1;have Zc:jr n fl cm f f:=⟨Qq.2,.refl (by omega)⟩;have xw:=hS.bI 0 O;refine aE O (aM (hS.bI 2 O).2 O (bk (hS.bI 2 O) O (ar O ?_)));rw [hf];refine aM xw.2 O (bk xw O (aI O ?_));refine aR _ O (fun h2=>?_) (fun h2=>?_)
  ·refine aE O (aK O (aU O (tQ ?_)));exact⟨(j+1,L0,M),by show al.length - (j+1)<al.length - j;omega,(ajs O),by show j+1<=al.length;omega,iC _ j f GU hf (s7.skip J5 (by omega) (.inl h2)),iU,hS⟩
  have h0:gi L0 f<0:=by omega
  refine aE O (aM xw.2 O (lu 0 hS O O O (by omega) ?_));intro w7 bG;have bG:St w w7 (sG PB A fl.length c fj (L0.set f (f:Int)) Aa ca al g M []):=bG;refine ar O (eH bG O O O ?_);intro Ao w8 bS;have lC:=pq.start (A:=wP n fl cm) Bs (show f<fl.length by omega) h0 Zc;have iU:=iU.mono (G':=fun y=>0<=gi (L0.set f (f:Int)) y) fun y _ h=>JD h
  refine aI O (Cd.loop (α:=Nat×ai×List Nat×aj×Nat×List mI) (fun z=> [(1,.slice A2 n c2),(2,.pointer PB),(5,.slice fj fl.length fl.length),(6,.map (some g)),(7,.func (.func 192) #[] #[.pointer PB]),(62,.slice Aa al.length ca),(63,ak (al.length:Int)),(64,ak j),(13,ak f),(14,.slice z.2.2.2.1 (z.2.2.1.length - z.1) z.2.2.2.2.1)]) (fun z w'=>pq fl.length (jr n fl cm) (wP n fl cm) f L0 z.2.1 z.2.2.1 z.1/\iS n fl (fun y _=>jx n cm (gl fl y)) (fun y=>0<=gi z.2.1 y) 2005 z.2.2.2.2.2/\St w w' (az 2 z.2.2.2.1 (z.2.2.1.length - z.1) z.2.2.2.2.1 (ox (z.2.2.1.drop z.1))::sG PB A fl.length c fj z.2.1 Aa ca al g z.2.2.2.2.2 [])) (fun z=>fl.length+1 - z.1) (0,L0.set f (f:Int),[f],Ao,1,M) (ajs O) ⟨lC,iU,bS⟩ ?_);clear bS bG hS xw lC iU;rintro⟨k,L,Q,Ao,co,M⟩ e w9 ⟨lC,iU,hS⟩;dsimp only at lC iU hS|-;have G7:=lC.L3;have jY:=lC.Lt;refine a8 O (bc O O (aI O ?_));refine aR _ O (fun h3=>?_) (fun h3=>?_)
  ·have o4:k<Q.length:=by omega
   obtain⟨x,hx⟩:∃x,Q.getD k 0=x:=⟨_,rfl⟩;have Ry:x∈Q:=by rw [<-hx,cN,fS o4];exact dB _
   have fY:=lC.wu x Ry;have Y6:jx n cm (gl fl x):=(fY.2.2.1.of fY.2.2.2);have xL:=hl _ (BP x fY.1);refine aE O (bc O O (aI O ?_));refine Cd.loop (α:=Nat×ai×List Nat×aj×Nat×List mI) (fun z=> [(1,.slice A2 n c2),(2,.pointer PB),(5,.slice fj fl.length fl.length),(6,.map (some g)),(7,.func (.func 192) #[] #[.pointer PB]),(62,.slice Aa al.length ca),(63,ak (al.length:Int)),(64,ak j),(13,ak f),(14,.slice z.2.2.2.1 (z.2.2.1.length - k) z.2.2.2.2.1),(85,ak n),(86,ak (z.1:Int))]) (fun z w'=>z.1<=n/\pq fl.length (jr n fl cm) (wP n fl cm) f L0 z.2.1 z.2.2.1 k/\(k<z.2.2.1.length/\z.2.2.1.getD k 0=x)/\iS n fl (fun y _=>jx n cm (gl fl y)) (fun y=>0<=gi z.2.1 y) 2005 z.2.2.2.2.2/\(∀i' y:Nat,i'<z.1->y<fl.length->jx n cm (gl fl y)->iE (gl fl y) i'=iE (gl fl x) i'->0<=gi z.2.1 y)/\St w w' (az 2 z.2.2.2.1 (z.2.2.1.length - k) z.2.2.2.2.1 (ox (z.2.2.1.drop k))::sG PB A fl.length c fj z.2.1 Aa ca al g z.2.2.2.2.2 [])) (fun z=>n - z.1) (0,L,Q,Ao,co,M) (ajs O) ⟨a7 _,lC,⟨o4,hx⟩,iU,fun i' y h=>absurd h (sQ _),hS⟩ ?_;clear hS iU lC hx Ry o4 G7 jY h3;rintro⟨i,Li,Qi,Ao,co,M⟩ e eL ⟨hi,lC,⟨o4,hx⟩,iU,ot,hS⟩;dsimp only at hi lC o4 hx iU ot hS|-;refine bL O (aR _ O (fun h4=>?_) (fun h4=>?_))
   ·have bW:i<n:=by omega
    have Qv:gi (ox (Qi.drop k)) 0=(x:Int):=by
     have h9:=ab5 o4;rw [hx]at h9;rw [<-h9];unfold ox;rw [List.map_drop,O6]
    have xF:(ox (Qi.drop k)).length=Qi.length - k:=by simp [ox]
    have Kb:=hS.bI 0 O;refine aE O (ajh (i:=0) Kb.2 O O O (by omega) (by omega) ?_);refine aji (i:=0) Kb O (by show 0<_;omega) O O ?_;refine ar O ?_;rw [Qv];refine aL (Tl PB A fl.length c n rs fl x i _ (hT.aq hS.below) (Rd.one (hS.rd 2 O)) (hS.bY hM) fY.1 (by omega) xL.1 bW (by omega) xL.2) O ?_;rintro _ fI ⟨rfl,au⟩;have hS:=hS.aq au.below;have Kh:=fun y hy=>iU.IC qj fY.1 bW Y6 (y:=y) hy
    have ZL:=iU.len (iE (gl fl x) i);have P6:=fun(y:Nat) (hy:y<fl.length) (hH:jx n cm (gl fl y)) (he:iE (gl fl y) i=iE (gl fl x) i)=>he▸iU.al y i hy bW hH
    generalize sj:iE (gl fl x) i=kx at*;clear au Kb;obtain⟨sx,Rq⟩:∃sx,iT M kx=sx:=⟨_,rfl⟩;obtain⟨ys,wq⟩:∃ys,ju M kx=ys:=⟨_,rfl⟩;have nh:∀ {w':aa} {Ao:aj} {no co:Nat} {qs:ai} {L:ai},St w w' (az 2 Ao no co qs::sG PB A fl.length c fj L Aa ca al g M [])->cn w' sx.a sx.n ys:=fun h=>by
     rw [<-Rq,<-wq];exact IA (pre:=[_,_,_,_,_]) (x:=kx) h
    rw [wq]at ZL Kh P6;have zy:=(nh hS).1;refine ar O ?_;refine ao.look (v:= .slice sx.a sx.n sx.c) Ci (hS.Cu 4 rfl) rfl rfl (by rw [<-Rq];unfold iT;cases eX M kx<;>rfl) rfl ?_;refine bc O O (aI O ?_);refine Cd.loop (α:=Nat×ai×List Nat×aj×Nat) (fun z=> [(1,.slice A2 n c2),(2,.pointer PB),(5,.slice fj fl.length fl.length),(6,.map (some g)),(7,.func (.func 192) #[] #[.pointer PB]),(62,.slice Aa al.length ca),(63,ak (al.length:Int)),(64,ak j),(13,ak f),(14,.slice z.2.2.2.1 (z.2.2.1.length - k) z.2.2.2.2),(85,ak n),(86,ak i),(16,wy kx),(97,.slice sx.a sx.n sx.c),(98,ak (sx.n:Int)),(99,ak (z.1:Int))]) (fun z w'=>z.1<=sx.n/\pq fl.length (jr n fl cm) (wP n fl cm) f L0 z.2.1 z.2.2.1 k/\(k<z.2.2.1.length/\z.2.2.1.getD k 0=x)/\(∀p:Nat,p<z.1->0<=gi z.2.1 (gi ys p))/\(∀y:Nat,0<=gi Li y->0<=gi z.2.1 y)/\St w w' (az 2 z.2.2.2.1 (z.2.2.1.length - k) z.2.2.2.2 (ox (z.2.2.1.drop k))::sG PB A fl.length c fj z.2.1 Aa ca al g M [])) (fun z=>sx.n - z.1) (0,Li,Qi,Ao,co) (ajs O) ⟨a7 _,lC,⟨o4,hx⟩,fun p h=>absurd h (sQ _),fun y h=>h,hS⟩ ?_;clear hS lC o4 hx Qv xF;rintro⟨q,L,Q,Ao,co⟩ e fZ ⟨hq,lC,⟨o4,hx⟩,GV,xM,hS⟩;dsimp only at hq lC o4 hx GV xM hS|-;have G7:=lC.L3;have hLl2:=lC.len;refine bL O (aR _ O (fun h5=>?_) (fun h5=>?_))
    ·have hqy:q<ys.length:=by omega
     have Hd:=nh hS;obtain⟨y,hy,zx,Ln⟩:=Kh _ (gi_in hqy);have xw:=hS.bI 1 O;refine aE O (aM Hd.2 O (bk Hd O (ar O ?_)));rw [hy];refine aM xw.2 O (bk xw O (aI O ?_));refine aR _ O (fun h6=>?_) (fun h6=>?_)
     ·have hmt:=lC.meet zx h6 (J5.wJ _ _ _ fY.2.2 (Ln.link tj pC));refine aE O (aM xw.2 O (lu 1 hS O O O (by omega) ?_));intro gM iV;refine ar O (eH iV O O O ?_);intro A9 oI jh;refine fN 1 jh O (jh.bI 0 O) O O O ?_;intro AZ cZ qD ib;have ib:=ib.tail;have QL:(Q++ [y]).length - k=(Q.length - k)+1:=by rw [cS];show Q.length+1 - k=_;omega
      refine ar O (aK O (aU O (tQ ?_)));refine⟨(q+1,L.set y (f:Int),Q++ [y],AZ,cZ),by show sx.n - (q+1)<sx.n - q;omega,⟨O,O,O,O,O,O,O,O,O,aO (fun m=>Value.slice AZ m cZ) QL.symm,O,O,O,O,O,O,av⟩,by show q+1<=sx.n;omega,hmt,⟨by show k< (Q++ [y]).length;rw [cS];omega,by show(Q++ [y]).getD k 0=x;rw [Yh o4,hx]⟩,fun p hp=>?_,fun z hz=>JD (xM z hz),?_⟩
      ·by_cases ep:p=q
       ·subst ep;rw [hy];have h9:=Yi (L:=L) (y:=y) (f:=f) (by omega);show 0<=gi (L.set y (f:Int)) y;omega
       have hp:p<q+1:=hp;obtain⟨y9,hy9,_,_⟩:=Kh _ (gi_in (show p<ys.length by omega));have h9:=GV p (by omega);rw [hy9]at h9|-;exact JD h9
      show St w qD (az _ AZ ((Q++ [y]).length - k) cZ (ox ((Q++ [y]).drop k))::_);rw [QL,ab6 (by omega)];exact ib
     refine aE O (aK O (aU O (tQ ?_)));refine⟨(q+1,L,Q,Ao,co),by show sx.n - (q+1)<sx.n - q;omega,(ajs O),by show q+1<=sx.n;omega,lC,⟨o4,hx⟩,fun p hp=>?_,xM,hS⟩
     by_cases ep:p=q
     ·subst ep;rw [hy];show 0<=gi L y;omega
     have hp:p<q+1:=hp;exact GV p (by omega)
    have eu:∀y:Nat,(y:Int)∈ys->0<=gi L y:=fun y hy=>by
     obtain⟨p,hp,e9⟩:=fJ.1 hy;rw [<-bO hp]at e9;have:=GV p (by omega)
     rwa [e9]at this
    have YZ:=(iU.mono (G':=fun y=>0<=gi L y) fun y _ h=>xM y h).del (x:=kx) fun y hy=>eu y (wq▸hy)
    refine bw O (bz (dh O ?_));refine Vd Ci 4 (a:=kx) hS O O O ?_;intro gM iV;have iV:=Vu (pre:=[_,_,_,_,_]) (x:=kx) iV;refine ar O (aK O (aU O (tQ ?_)));refine⟨(i+1,L,Q,Ao,co,jK M kx),by show n - (i+1)<n - i;omega,(ajs O),by show i+1<=n;omega,lC,⟨o4,hx⟩,YZ,fun i' y bX zx hH he=>?_,iV⟩
    by_cases ei:i'=i
    ·subst ei;rcases P6 y zx hH (he.trans sj)with h9 | h9
     ·exact eu y h9
     exact xM y h9
    exact xM y (ot i' y (by have bX:i'<i+1:=bX;omega) zx hH he)
   obtain rfl:i=n:=by omega
   have G7:=lC.L3;have vg:=lC.next o4 fun y hy=>by
    rw [hx]at hy;obtain⟨_,Y7,i',bX,ha⟩:=hy;exact ot i' y bX ha.2.1 Y7 ((HZ xL.1 (hl _ (BP y ha.2.1)).1).2 fun k9 h9 ia=>ha.2.2 k9 h9 ia).symm
   have hkQ2:k<Qi.length:=o4;have tc:=St.NT (i:=0) (l:=1) hS O (by show 1<=Qi.length - k;omega);refine bw O (bz (dh O ?_));refine Fk (l:=1) O O O (by omega) (aU O (tQ ?_));refine⟨(k+1,Li,Qi,cutAt Ao co 1,co - 1,M),by show fl.length+1 - (k+1)<fl.length+1 - k;omega,⟨O,O,O,O,O,O,O,O,O,aO (fun m=>Value.slice (cutAt Ao co 1) m (co - 1)) (Nat.sub_sub _ _ _),av⟩,vg,iU,?_⟩;show St w eL (az _ (cutAt Ao co 1) (Qi.length - (k+1)) (co - 1) (ox (Qi.drop (k+1)))::_);have e9:ox (Qi.drop (k+1))=(ox (Qi.drop k)).drop 1:=by simp [ox]
   rw [e9,<-Nat.sub_sub];exact tc
  have o4:k=Q.length:=by omega
  subst o4;have y8:=lC.end_ J5 s7 (by omega) h0 (fun S aA aB=>UU S aA aB) (fun x y h=>h.link tj pC);refine bw O (bz (dh O (aK O (aU O (tQ ?_)))));exact⟨(j+1,L,M),by show al.length - (j+1)<al.length - j;omega,(ajs O),by show j+1<=al.length;omega,iC _ j f GU hf y8,iU,hS.tail⟩
 have xJ:j=al.length:=by omega
 have s9:oR fl.length al j=fl.length:=by unfold oR;rw [if_neg (by omega)]
 rw [s9]at s7;refine bw O (bz (gE O ?_));exact gD O ⟨fj,L0,O,s7,hS.sub ((List.nil_sublist _).cons_cons _)⟩
def uset(u:Nat->ad)(k:Nat)(v:ad):Nat->ad:=fun j=>cond (Nat.beq j k) v (u j)
theorem ahx{u:Nat->ad}{v:ad}(h:u k=v):u=uset u k v:=by
 funext j;unfold uset;cases hb:Nat.beq j k with
 | true=>rw [oe hb,h];rfl
 | false=>rfl
theorem WU(A:aj)(N c:Nat)(rs:List aN)(fl:ah)(n:Nat)(w:aa)(hT:js w)(hM:br w A N rs fl)(hN:N<=401)(hn:n<=5)(hl:∀x∈fl,x.length=n/\∀e∈x,0<=e/\e<=1000000)(tj:fl.Nodup):
 aG prog 64 [.slice A N c] w (fun v w'=>∃A' n' c',v= .slice A' n' c'/\(A'.isNone=true↔vz n fl)/\St w w' []):=by
 have iY:=hM.len;have BP:∀f:Nat,f<N->gl fl f∈fl:=fun f hf=>by rw [bP (by omega)];exact dB _
 have qj:∀x∈fl,x.length=n/\∀e∈x,0<=e:=fun x hx=> ⟨(hl x hx).1,fun e he=> ((hl x hx).2 e he).1⟩
 refine bA func64 O ntmps64 O (cJ O) (a8 O (C0 (St.refl w) O ?_));intro g w1 aA;have aA:St w w1 (ij 118 g (gw wy Cn ([]:List mI))::(pf 2 ([]:List mI)++ [])):=aA;refine ar O (aL (EX _ _ _ _) O ?_);rintro _ w1 ⟨rfl,rfl⟩;refine aI O ?_;refine Cd.loop (α:=Nat×List mI) (fun z=> [(0,.slice A N c),(3,.map (some g)),(12,ak N),(13,ak (z.1:Int))])
  (fun z w'=>z.1<=N/\(∀l u,eX z.2 l=some u->jU N (jr n fl l) N u.2)/\(∀a b:Nat,a<z.1->a<b->b<N->iF n fl (fun k=>gi (gl fl a) k=gi (gl fl b) k) a b)/\St w w' (ij 118 g (gw wy Cn z.2)::(pf 2 z.2++ []))) (fun z=>N - z.1) (0,[]) ⟨rfl,rfl,rfl,rfl,av⟩ ⟨a7 _,fun l u h=>by simp [eX]at h,fun a b h=>absurd h (sQ _),aA⟩ ?_
 clear aA;rintro⟨a,M⟩ e w2 ⟨ha,ua,ot,hS⟩;dsimp only at ha ua ot hS|-;refine bL O (aR _ O (fun h1=>?_) (fun h1=>?_))
 ·have BC:a<N:=by omega
  refine aE O (aK O (aI O ?_));refine Cd.loop (α:=Nat×List mI) (fun z=> [(0,.slice A N c),(3,.map (some g)),(12,ak N),(13,ak a),(4,ak a),(5,ak (z.1:Int))])
   (fun z w'=> (a<z.1/\z.1<=N)/\(∀l u,eX z.2 l=some u->jU N (jr n fl l) N u.2)/\(∀b:Nat,a<b->b<z.1->iF n fl (fun k=>gi (gl fl a) k=gi (gl fl b) k) a b)/\St w w' (ij 118 g (gw wy Cn z.2)::(pf 2 z.2++ []))) (fun z=>N - z.1) (a+1,M) ⟨rfl,rfl,rfl,rfl,rfl,rfl,av⟩ ⟨⟨Nat.lt_succ_self _,BC⟩,ua,fun b h h'=>by omega,hS⟩ ?_
  clear hS ua;rintro⟨b,M⟩ e w3 ⟨⟨dN,Gy⟩,ua,GI,hS⟩;dsimp only at dN Gy ua GI hS|-;refine a8 O (aL (EX _ _ _ _) O ?_);rintro _ w3 ⟨rfl,rfl⟩;refine aI O (aR _ O (fun h2=>?_) (fun h2=>?_))
  ·have hb:b<N:=by omega
   have yQ:=hS.bY hM;have sn:=yQ.at_ (i:=(a:Int)) (by omega) (by omega);have o7:=yQ.at_ (i:=(b:Int)) (by omega) (by omega);have KI:=hl _ (BP a BC);have hlB:=hl _ (BP b hb);have G1:(rg rs a).n=n:=by rw [<-sn.1];exact KI.1
   have G2:(rg rs b).n=n:=by rw [<-o7.1];exact hlB.1
   have km:=Wz (n:=n) qj (show a<fl.length by omega) (show b<fl.length by omega);have dt:(nE (gl fl a) (gl fl b)).length=n:=by rw [AU];exact KI.1
   have Kn:∀x∈nE (gl fl a) (gl fl b),-1<=x/\x<=1000000:=fun x hx=>by
    obtain⟨k,hk,rfl⟩:=db.1 hx;have hk:=fU.1 hk
    split
    ·have:=KI.2 _ (gi_in hk);omega
    ·omega
   refine dA O ?_;refine eY [xS (A) (N) (c),xI ((a:Int)),xP (aJ (A) ((a:Int)).toNat),xS ((rg (rs) ((a:Int))).a) ((rg (rs) ((a:Int))).n) ((rg (rs) ((a:Int))).c),xS (A) (N) (c),xI ((b:Int)),xP (aJ (A) ((b:Int)).toNat),xS ((rg (rs) ((b:Int))).a) ((rg (rs) ((b:Int))).n) ((rg (rs) ((b:Int))).c),.pr (fun v w'=>∃A6 c6,v= .slice A6 n c6/\cn w' A6 n (nE (gl fl a) (gl fl b))),.pr (fun v w'=>∃A6 c6,v= .slice A6 n c6/\cn w' A6 n (nE (gl fl a) (gl fl b)))] rfl (lx (lx (lx (lx (lx (lx (lx (lx (cI.2 ⟨Yd.cV (fun v w w' h hb=>by obtain⟨A6,c6,hv,hT⟩:=h;exact⟨A6,c6,hv,hT.aq hb⟩),(cI.2 ⟨Yd.cV (fun v w w' h hb=>by obtain⟨A6,c6,hv,hT⟩:=h;exact⟨A6,c6,hv,hT.aq hb⟩),(fun _ h=>by cases h)⟩)⟩))))))))) ?_ ?_
   ·refine⟨Dr O,Dr O,fun _ _ hb _ _=>aM (yQ.top.aq hb).2 O Az,fun _ _ hb _ _=>dI (yQ.top.aq hb) O Az,Dr O,Dr O,fun _ _ hb _ _=>aM (yQ.top.aq hb).2 O Az,fun _ _ hb _ _=>dI (yQ.top.aq hb) O Az,?_,?_,av⟩
    ·intro e1 w1 hb hp a6;refine aL (NP (rg rs a).a (rg rs b).a (rg rs a).n (rg rs a).c (rg rs b).n (rg rs b).c (gl fl a) (gl fl b) _ (sn.aq hb) (o7.aq hb) (by omega) (by omega)) O ?_;rintro _ w9 ⟨A6,c6,rfl,au⟩;refine ao.n ?_;exact gz.dn au.below ⟨A6,c6,by rw [dt],by have h9:=au.bI 0 O;rw [dt]at h9;exact h9⟩
    ·intro e1 w1 hb hp a6;obtain⟨A6,c6,YG,hT⟩:=(hp 8 (by decide) rfl _ _ rfl rfl);refine tJ O (by exact YG) O (ao.n ?_);exact gz.dn (Below.refl _ _) ⟨A6,c6,O,hT⟩
   intro u w4 nL hu;obtain⟨A6,c6,h6,iI⟩:=hu 9 _ rfl;rw [ahx h6];have aV:=hS.aq nL;generalize mV:nE (gl fl a) (gl fl b)=cm at*;clear hu hS yQ sn o7;refine kc O ?_;refine aL (zz A6 n c6 cm _ (hT.aq aV.below) iI (fun x hx=>by have:=Kn x hx;omega) (by omega)) O ?_;rintro _ w5 ⟨rfl,au⟩;have aW:=aV.aq au.below;have iI:=iI.aq au.below;clear au aV;refine ar O ?_;refine Vj (v:= .slice (iT M cm).a (iT M cm).n (iT M cm).c) Ci (x:=cm) (aW.Cu 0 rfl) rfl rfl (by unfold iT;cases eX M cm<;>rfl) rfl ?_;refine ar O ?_
   first | refine eA rfl rfl ?_ | refine eU rfl rfl ?_
   refine aI O ?_;cases Kx:eX M cm with
   | none => --dup 2
    refine Cd.jE O (aE O (aL (aex A N c rs fl n A6 c6 cm _ (hT.aq aW.below) (aW.bY hM) iI hN hn hl tj) O ?_));rintro _ w6 ⟨A8,L,rfl,hL,au⟩;have ba:=aW.call au;refine ar O (Ag O Ci 1 (a:=cm) (u:=(⟨A8,N,N⟩,L)) ba O O O O ?_);intro w7 bG;have cT:cn w7 A8 N L:=bG.bI 0 O;have bS:St w w7 (ij 118 g (gw wy Cn (gX M cm (⟨A8,N,N⟩,L)))::(pf 2 (gX M cm (⟨A8,N,N⟩,L))++ [])):=M5 (M:=M) (x:=cm) (u:=(⟨A8,N,N⟩,L)) (pre:=[_]) (by rw [JC Kx];exact bG);have Zd:∀l u,eX (gX M cm (⟨A8,N,N⟩,L)) l=some u->jU N (jr n fl l) N u.2:=fun l u h=>by
     rw [Dx]at h
     split at h
     ·rename_i e;subst e;injection h with h
      subst h;exact hL
     ·exact ua l u h
    clear bG ba aW au iI;have Bs:=hL.1;have bU:=cT.1;have DX:=hL.done (CX n fl cm |>fun h=>iY▸h) km.1 km.2.1;refine aI O (eY [xS (A8) (N) (N),xI ((a:Int)),xP (aJ (A8) ((a:Int)).toNat),xI (gi (L) ((a:Int))),xS (A8) (N) (N),xI ((b:Int)),xP (aJ (A8) ((b:Int)).toNat),xI (gi (L) ((b:Int))),xB (decide (¬(gi (L) ((a:Int)))=(gi (L) ((b:Int)))))] O (fE O) ?_ ?_)
    ·exact⟨Dr O,Dr O,fun _ _ hb _ _=>aM (cT.aq hb).2 O Az,fun _ _ hb _ _=>bk (cT.aq hb) O Az,Dr O,Dr O,fun _ _ hb _ _=>aM (cT.aq hb).2 O Az,fun _ _ hb _ _=>bk (cT.aq hb) O Az,Dr O,av⟩
    intro u w9 qY _;have bH:=bS.aq qY;refine fR O (aR _ O (fun h3=>?_) (fun h3=>?_))
    ·refine aE O (CY [(a:Int),(b:Int)] bH O O (by decide) (by decide) O O fun A9 eL bQ=>bM O (gx (fV (gx (fV ?_)))));refine gD O ⟨A9,2,2,O,⟨fun h=>?_,fun h=>?_⟩,bQ.none⟩
     ·rw [C6 (bQ.bI 0 rfl).2 (by decide)]at h;cases h
     ·exact absurd (DX.2 (km.2.2.2 (h a b dN (by omega)))) h3
    ·have dO:=km.2.2.1 (DX.1 (iy.1 h3));refine aE O (aK O (aU O (tQ ?_)));exact⟨(b+1,gX M cm (⟨A8,N,N⟩,L)),by show N - (b+1)<N - b;omega,(ajs O),⟨Nat.lt_succ_of_lt dN,hb⟩,Zd,fun b' h4 h5=>by
      by_cases e9:b'=b
      ·subst e9;exact dO
      ·exact GI b' h4 (by have h5:b'<b+1:=h5;omega),bH⟩
   | some u0=>
    have hL:jU N (jr n fl cm) N (ju M cm):=by
     rw [(JH Kx).2];exact ua cm u0 Kx
    have cT:cn w5 (iT M cm).a (iT M cm).n (ju M cm):=IA (pre:=[_]) (x:=cm) aW;refine Cd.gh O ?_;have Bs:=hL.1;have bU:=cT.1;have DX:=hL.done (CX n fl cm |>fun h=>iY▸h) km.1 km.2.1;refine dA O (eY [xS ((iT M cm).a) ((iT M cm).n) ((iT M cm).c),xI ((a:Int)),xP (aJ ((iT M cm).a) ((a:Int)).toNat),xI (gi (ju M cm) ((a:Int))),xS ((iT M cm).a) ((iT M cm).n) ((iT M cm).c),xI ((b:Int)),xP (aJ ((iT M cm).a) ((b:Int)).toNat),xI (gi (ju M cm) ((b:Int))),xB (decide (¬(gi (ju M cm) ((a:Int)))=(gi (ju M cm) ((b:Int)))))] O (fE O) ?_ ?_)
    ·exact⟨Dr O,Dr O,fun _ _ hb _ _=>aM (cT.aq hb).2 O Az,fun _ _ hb _ _=>bk (cT.aq hb) O Az,Dr O,Dr O,fun _ _ hb _ _=>aM (cT.aq hb).2 O Az,fun _ _ hb _ _=>bk (cT.aq hb) O Az,Dr O,av⟩
    intro u w9 qY _;have bH:=aW.aq qY;refine fR O (aR _ O (fun h3=>?_) (fun h3=>?_))
    ·refine aE O (CY [(a:Int),(b:Int)] bH O O (by decide) (by decide) O O fun A9 eL bQ=>bM O (gx (fV (gx (fV ?_)))));refine gD O ⟨A9,2,2,O,⟨fun h=>?_,fun h=>?_⟩,bQ.none⟩
     ·rw [C6 (bQ.bI 0 rfl).2 (by decide)]at h;cases h
     ·exact absurd (DX.2 (km.2.2.2 (h a b dN (by omega)))) h3
    ·have dO:=km.2.2.1 (DX.1 (iy.1 h3));refine aE O (aK O (aU O (tQ ?_)));exact⟨(b+1,M),by show N - (b+1)<N - b;omega,(ajs O),⟨Nat.lt_succ_of_lt dN,hb⟩,ua,fun b' h4 h5=>by
      by_cases e9:b'=b
      ·subst e9;exact dO
      ·exact GI b' h4 (by have h5:b'<b+1:=h5;omega),bH⟩
  ·have qd:b=N:=by omega
   refine bw O (bz (dh O (aK O (aU O (tQ ?_)))));exact⟨(a+1,M),by show N - (a+1)<N - a;omega,(ajs O),BC,ua,fun a' b' h3 h4 h5=>by
    by_cases e9:a'=a
    ·subst e9;exact GI b' h4 (by omega)
    ·exact ot a' b' (by have h3:a'<a+1:=h3;omega) h4 h5,hS⟩
 ·have s8:a=N:=by omega
  refine bw O (bz (gE O ?_));exact gD O ⟨none,0,0,O,⟨fun _ a' b' h3 h4=>ot a' b' (by omega) h3 (by omega),fun _=>O⟩,hS.none⟩
theorem HH{e:Int}:e∈yd xs x↔(0<=e/\e<xs.length)/\gi xs e=x:=by
 unfold yd;rw [fT,gL,kU]
theorem HU{n:Int}{e:Int}(h0:0<=i)(h1:i<n):e∈oF n R (i - 1)↔wU R i e:=by
 unfold oF wU
 split
 ·rw [HH];exact⟨fun h=> .inr ⟨h.1,by omega,h.2⟩,fun h=>h.elim (fun h=>by omega) fun h=> ⟨h.1,h.2.2⟩⟩
 rw [gk];exact⟨fun h=> .inl ⟨h,by omega⟩,fun h=>h.elim (fun h=>h.1) fun h=>by omega⟩
theorem HT{n:Int}{f:Int}(h0:0<=i)(h1:i<n):f∈oF n R (i+1)↔wS n R i f:=by
 unfold oF wS
 split
 ·rw [HH];exact⟨fun h=> .inr ⟨h.1,by omega,h.2⟩,fun h=>h.elim (fun h=>by omega) fun h=> ⟨h.1,h.2.2⟩⟩
 rw [gk];exact⟨fun h=> .inl ⟨h,by omega⟩,fun h=>h.elim (fun h=>h.1) fun h=>by omega⟩
theorem afT{n:Int}(h0:0<=i)(h1:i<n):oF n R i=yd R i:=by
 unfold oF;rw [ay (by omega)]
theorem Md{n:Int}(h:R.length<=500):(oF n R i).length<=500:=by
 unfold oF
 split
 ·refine nv (rM _ _) ?_;rw [bN,fk,pU];exact h
 exact(by decide:1<=500)
theorem Ts{n:Int}{e:Int}(h:e∈oF n R i):e= -1\/(0<=e/\e<R.length):=by
 unfold oF at h
 split at h
 ·exact .inr (HH.1 h).1
 exact .inl (gk.1 h)
def rW(P:Int->Prop)[DecidablePred P](xs:ai)(q:Nat):Nat:=((xs.take q).filter fun x=>decide (P x)).length
section
variable {P:Int->Prop} [DecidablePred P] {xs:ai} {q:Nat}
theorem I9:rW P xs q<=q:=by
 unfold rW;refine nv (rM _ _) ?_;rw [oM];omega
theorem Jb(h:q<xs.length)(hp:P (gi xs q)):rW P xs (q+1)=rW P xs q+1:=by
 unfold rW;rw [CE h,sP,cS];simp [hp]
theorem Ja(h:q<xs.length)(hp:¬P (gi xs q)):rW P xs (q+1)=rW P xs q:=by
 unfold rW;rw [CE h,sP,cS];simp [hp]
end
def pv(B:ah)(e f x:Int):Prop:=(e<0\/e∈gl B x)/\(f<0\/x∈gl B f)
instance (B:ah)(e f:Int):DecidablePred (pv B e f):=fun x=>by unfold pv;infer_instance
theorem WM{R:ai}{B:ah}{i e f:Int}:rW (pv B e f) (yd R i) (yd R i).length=(lO R B i e f).length:=by
 unfold rW lO yd;rw [List.take_length,List.filter_filter]
 congr 1
 refine List.filter_congr fun x _=>?_
 rw [<-Bool.decide_and];refine jJ.2 ?_;unfold pv;exact⟨fun h=> ⟨h.2,h.1⟩,fun h=> ⟨h.2,h.1⟩⟩
theorem Xf(n:Int)(A D:aj)(cA cD:Nat)(R:ai)(rs:List aN)(B:ah)(w:aa)(hR:cn w A R.length R)(hB:br w D B.length rs B)(hP:gm n R B):
 aG prog 63 [.agg #[ak n,.slice A R.length cA,.slice D B.length cD]] w (fun v w'=>∃A' n' c',v= .slice A' n' c'/\(A'.isNone=true↔tH n R B)/\St w w' []):=by
 have hn:=hP.n1;have qZ:=hP.oQ;have hle:=hP.len;have cT:=fun(e:Int) (h0:0<=e) (h:e< (R.length:Int))=> (hP.at_ h0 h).1
 have bU:∀e:Int,0<=e->e<R.length->(gl B e).length<=500:=fun e h0 h=>by
  have:=pL (N:=R.length) (cT e h0 h).nodup fun x hx=>by have:=((hP.at_ h0 h).2.1 x hx).1;omega
  omega
 refine bA func63 O ntmps63 O (cJ O) (a8 O (nw (St.refl w) O O ?_));intro A1 w1 aA;have h1:Rd w1 A1 3 (fun j=> [Value.int .i64 n,.slice A R.length cA,.slice D B.length cD].getD j undef):=aA.rd 0 O;have hR:=aA.gW hR;have hB:=aA.bY hB;have aA:=aA.none;refine ar O (aX h1 O (iG (j:=0) h1 (by exact aO Value.pointer O) O O O O (aI O ?_)));refine Cd.loop (α:=Nat) (fun i=> [(1,.pointer A1),(14,ak n),(15,ak i)]) (fun i w'=> (i:Int)<=n/\(∀i' e f:Int,0<=i'->i'< (i:Int)->e∈oF n R (i' - 1)->f∈oF n R (i'+1)->(0<=e->0<=f->e∈gl B f)->(lO R B i' e f).length=2)/\St w1 w' []) (fun i=>n.toNat - i) 0 (ajs O) ⟨by show((0:Nat):Int)<=n;omega,fun i' e f h h'=>by have h':i'< ((0:Nat):Int):=h';omega,St.refl _⟩ ?_;rintro i e w2 ⟨hi,ot,au⟩;have h1:=Rd.below h1 au.below;have hR:=au.gW hR;have hB:=au.bY hB;have aB:=aA.aq au.below;refine bL O (aR _ O (fun h2=>?_) (fun h2=>?_))
 ·have KN:=afT (R:=R) (show 0<=(i:Int) by omega) h2;have aaE:=Md (n:=n) (i:=(i:Int)) qZ;have aaz:=Md (n:=n) (i:=(i:Int) - 1) qZ;have aal:=Md (n:=n) (i:=(i:Int)+1) qZ;have aaF:=fun x=>HH (xs:=R) (x:=(i:Int)) (e:=x)
  refine aE O (aL (LV A1 A D n R.length cA B.length cD R i _ h1 hR (by omega) (by omega)) O ?_);rintro _ w3 ⟨A4,c4,rfl,nT⟩;have h4:=nT.bI 0 O;refine ar O (aK O ?_);refine aL (LV A1 A D n R.length cA B.length cD R ((i:Int)+1) _ (Rd.below h1 nT.below) (nT.gW hR) (by omega) (by omega)) O ?_;rintro _ w4 ⟨A5,c5,rfl,xW⟩;have h5:=xW.bI 0 O;have h4:=h4.aq xW.below;refine ar O (dQ O ?_);refine aL (LV A1 A D n R.length cA B.length cD R ((i:Int) - 1) _ (Rd.below h1 (nT.below.trans (xW.below.mono nT.below.size))) (xW.gW (nT.gW hR)) (by omega) (by omega)) O ?_;rintro _ w5 ⟨A6,c6,rfl,Em⟩;have h6:=Em.bI 0 O;have h4:=h4.aq Em.below;have h5:=h5.aq Em.below;have mn:=(nT.below.trans (xW.below.mono nT.below.size));have mn:=mn.trans (Em.below.mono mn.size);have h1:=Rd.below h1 mn;have hB:=hB.aq mn;have aW:=aB.aq mn;have abq:=au.aq mn;clear nT xW Em au aB;obtain⟨ms,QQ⟩:∃ms,oF n R i=ms:=⟨_,rfl⟩;obtain⟨lU,zk⟩:∃lU,oF n R ((i:Int) - 1)=lU:=⟨_,rfl⟩;obtain⟨iB,zc⟩:∃iB,oF n R ((i:Int)+1)=iB:=⟨_,rfl⟩;rw [QQ]at h4 aaE KN;rw [zc]at h5 aal;rw [zk]at h6 aaz;have xE:=fun e f=>WM (R:=R) (B:=B) (i:=(i:Int)) (e:=e) (f:=f)
  rw [<-KN]at xE;have zm:∀x∈ms,(0<=x/\x<R.length):=fun x hx=> ((aaF x).1 (KN▸hx)).1
  have GY:∀x∈lU,x= -1\/(0<=x/\x<R.length):=fun x hx=>Ts (zk▸hx)
  have hhr:∀x∈iB,x= -1\/(0<=x/\x<R.length):=fun x hx=>Ts (zc▸hx)
  rw [QQ,zk,zc];refine bc O O (aI O ?_);refine Cd.loop (α:=Nat) (fun j=> [(1,.pointer A1),(14,ak n),(15,ak i),(3,ak i),(4,.slice A4 ms.length c4),(5,.slice A5 iB.length c5),(25,.slice A6 lU.length c6),(26,ak (lU.length:Int)),(27,ak j)]) (fun j w'=>j<=lU.length/\w'=w5/\∀p:Nat,p<j->∀f∈iB,(0<=gi lU p->0<=f->gi lU p∈gl B f)->(lO R B i (gi lU p) f).length=2) (fun j=>lU.length - j) 0 (ajs O) ⟨a7 _,O,fun p h=>absurd h (sQ _)⟩ ?_;rintro j e w6 ⟨hj,rfl,eB⟩;refine bL O (aR _ O (fun h7=>?_) (fun h7=>?_))
  ·have lR:j<lU.length:=by omega
   refine aE O (aM h6.2 O (bk h6 O ?_));refine ar O (bc O O (aI O ?_));have Kt:=GY _ (gi_in lR);generalize GJ:gi lU j=ee at*;refine Cd.loop (α:=Nat) (fun k=> [(1,.pointer A1),(14,ak n),(15,ak i),(3,ak i),(4,.slice A4 ms.length c4),(5,.slice A5 iB.length c5),(25,.slice A6 lU.length c6),(26,ak (lU.length:Int)),(27,ak j),(7,ak ee),(31,.slice A5 iB.length c5),(32,ak (iB.length:Int)),(33,ak k)]) (fun k w'=>k<=iB.length/\w'=w6/\∀p:Nat,p<k->(0<=ee->0<=gi iB p->ee∈gl B (gi iB p))->(lO R B i ee (gi iB p)).length=2) (fun k=>iB.length - k) 0 (ajs O) ⟨a7 _,O,fun p h=>absurd h (sQ _)⟩ ?_;rintro k e w7 ⟨hk,rfl,cC⟩;refine bL O (aR _ O (fun h8=>?_) (fun h8=>?_))
   ·have jY:k<iB.length:=by omega
    refine aE O (aM h5.2 O (bk h5 O (ar O ?_)));have ov:=hhr _ (gi_in jY);generalize GK:gi iB k=ff at*;have pG:((0<=ee->0<=ff->ee∈gl B ff)->(lO R B i ee ff).length=2)->∀p:Nat,p<k+1->(0<=ee->0<=gi iB p->ee∈gl B (gi iB p))->(lO R B i ee (gi iB p)).length=2:=fun h p hp=>by
     by_cases ep:p=k
     ·subst ep;rw [GK];exact h
     exact cC p (by omega)
    refine dp 39 O (fun h9=>?_) (fun h9=>?_)
    ·refine ax O (ar O (ax O (ar O ?_)));refine dp 43 O (fun ia=>?_) (fun ia=>?_)
     ·refine ax O (ar O (ax O (ar O (ax O ?_))));refine aL (ur A1 A D cA cD n R rs B ee ff _ h1 hB (by omega) (cT ff ia (by omega)) (by have:=bU ff ia (by omega);omega)) O ?_;rintro _ w8 ⟨rfl,rfl⟩;refine ax O ?_
      first | refine eA rfl rfl ?_ | refine eU rfl rfl ?_
      refine aI O (aR _ O (fun p5=>?_) (fun p5=>?_))
      ·refine aE O (aK O (aU O (tQ ?_)));exact⟨k+1,by show iB.length - (k+1)<iB.length - k;omega,(ajs O),by omega,O,pG fun h=>absurd (h h9 ia) p5⟩
      have nQ:0<=ee->0<=ff->ee∈gl B ff:=fun _ _=>iy.1 p5
      refine aE O (bc O O (aI O ?_));refine Cd.loop (α:=Nat) (fun q=> [(1,.pointer A1),(14,ak n),(15,ak i),(3,ak i),(4,.slice A4 ms.length c4),(5,.slice A5 iB.length c5),(25,.slice A6 lU.length c6),(26,ak (lU.length:Int)),(27,ak j),(7,ak ee),(31,.slice A5 iB.length c5),(32,ak (iB.length:Int)),(33,ak k),(9,ak ff),(10,ak ((rW (pv B ee ff) ms q:Nat):Int)),(49,.slice A4 ms.length c4),(50,ak (ms.length:Int)),(51,ak q)]) (fun q w'=>q<=ms.length/\w'=w8) (fun q=>ms.length - q) 0 (ajs O) ⟨a7 _,O⟩ ?_;rintro q e w9 ⟨hq,rfl⟩;have dt:=I9 (P:=pv B ee ff) (xs:=ms) (q:=q);refine bL O (aR _ O (fun xn=>?_) (fun xn=>?_))
      ·have pE:q<ms.length:=by omega
       have hx:=zm _ (gi_in pE);have ka:=Jb (P:=pv B ee ff) pE;have gV:=Ja (P:=pv B ee ff) pE;refine aE O (aM h4.2 O (bk h4 O (ar O ?_)));generalize RB:gi ms q=xx at*;refine dp 57 O (fun kW=>?_) (fun kW=>?_)
       ·refine aQ O (aQ O (aQ O (ar O (ax O (ar O (ax O (ar O (ax O (ar O ?_)))))))));refine dp 65 O (fun kE=>?_) (fun kE=>?_)
        ·refine aQ O (aQ O (aQ O (ax O (aI O ?_))));refine Cd.jE O (aE O (aK O (ar O (aK O (aU O (tQ ?_))))));exact⟨q+1,by show ms.length - (q+1)<ms.length - q;omega,⟨O,O,O,O,O,O,O,O,O,O,O,O,O,O,aO (fun m:Nat=>Value.int .i64 (m:Int)) (ka ⟨.inl kW,.inl kE⟩).symm,O,O,O,av⟩,by omega,O⟩
        refine ax O (ar O (ax O (ar O (ax O ?_))));refine aL (ur A1 A D cA cD n R rs B xx ff _ h1 hB (by omega) (cT ff (by omega) (by omega)) (by have:=bU ff (by omega) (by omega);omega)) O ?_;rintro _ eL ⟨rfl,rfl⟩;refine ax O (aI O ?_);refine aR _ O (fun lA=>?_) (fun lA=>?_)
        ·refine aE O (aK O (ar O (aK O (aU O (tQ ?_)))));exact⟨q+1,by show ms.length - (q+1)<ms.length - q;omega,⟨O,O,O,O,O,O,O,O,O,O,O,O,O,O,aO (fun m:Nat=>Value.int .i64 (m:Int)) (ka ⟨.inl kW,.inr lA⟩).symm,O,O,O,av⟩,by omega,O⟩
        refine aE O (aK O (aU O (tQ ?_)));exact⟨q+1,by show ms.length - (q+1)<ms.length - q;omega,⟨O,O,O,O,O,O,O,O,O,O,O,O,O,O,aO (fun m:Nat=>Value.int .i64 (m:Int)) (gV fun h=>h.2.elim kE lA).symm,O,O,O,av⟩,by omega,O⟩
       refine ax O (ar O (ax O (ar O (ax O ?_))));refine aL (ur A1 A D cA cD n R rs B ee xx _ h1 hB (by omega) (cT xx (by omega) (by omega)) (by have:=bU xx (by omega) (by omega);omega)) O ?_;rintro _ eL ⟨rfl,rfl⟩;refine ar O (dp 62 O (fun qS=>?_) (fun qS=>?_))
       ·refine ax O (ar O (ax O (ar O (ax O (ar O ?_)))));refine dp 65 O (fun kE=>?_) (fun kE=>?_)
        ·refine aQ O (aQ O (aQ O (ax O (aI O ?_))));refine Cd.jE O (aE O (aK O (ar O (aK O (aU O (tQ ?_))))));exact⟨q+1,by show ms.length - (q+1)<ms.length - q;omega,⟨O,O,O,O,O,O,O,O,O,O,O,O,O,O,aO (fun m:Nat=>Value.int .i64 (m:Int)) (ka ⟨.inr qS,.inl kE⟩).symm,O,O,O,av⟩,by omega,O⟩
        refine ax O (ar O (ax O (ar O (ax O ?_))));refine aL (ur A1 A D cA cD n R rs B xx ff _ h1 hB (by omega) (cT ff (by omega) (by omega)) (by have:=bU ff (by omega) (by omega);omega)) O ?_;rintro _ fI ⟨rfl,rfl⟩;refine ax O (aI O ?_);refine aR _ O (fun lA=>?_) (fun lA=>?_)
        ·refine aE O (aK O (ar O (aK O (aU O (tQ ?_)))));exact⟨q+1,by show ms.length - (q+1)<ms.length - q;omega,⟨O,O,O,O,O,O,O,O,O,O,O,O,O,O,aO (fun m:Nat=>Value.int .i64 (m:Int)) (ka ⟨.inr qS,.inr lA⟩).symm,O,O,O,av⟩,by omega,O⟩
        refine aE O (aK O (aU O (tQ ?_)));exact⟨q+1,by show ms.length - (q+1)<ms.length - q;omega,⟨O,O,O,O,O,O,O,O,O,O,O,O,O,O,aO (fun m:Nat=>Value.int .i64 (m:Int)) (gV fun h=>h.2.elim kE lA).symm,O,O,O,av⟩,by omega,O⟩
       refine aQ O (aQ O (aQ O (fm O O O O (fm O O O O (fm O O O O (aQ O (aI O ?_)))))));refine Cd.gh O (aE O (aK O (aU O (tQ ?_))));exact⟨q+1,by show ms.length - (q+1)<ms.length - q;omega,⟨O,O,O,O,O,O,O,O,O,O,O,O,O,O,aO (fun m:Nat=>Value.int .i64 (m:Int)) (gV fun h=>h.1.elim kW qS).symm,O,O,O,av⟩,by omega,O⟩
      have xQ:q=ms.length:=by omega
      subst xQ;have xD:=xE ee ff;refine bw O (bz (pS O ?_));refine aR _ O (fun kW=>?_) (fun kW=>?_)
      ·refine aE O (CY [(i:Int),ee,ff] aW O O (by decide) (by decide) O O fun A9 eL bQ=>bM O (gx (fV (gx (fV (gx (fV ?_)))))));refine gD O ⟨A9,3,3,O,⟨fun h=>?_,fun h=>?_⟩,bQ.none⟩
       ·rw [C6 (bQ.bI 0 rfl).2 (by decide)]at h;cases h
       have Gz:=h (i:Int) ee ff (by omega) h2 ((HU (by omega) h2).1 (by rw [zk,<-GJ];exact gi_in lR)) ((HT (by omega) h2).1 (by rw [zc,<-GK];exact gi_in jY)) nQ;omega
      refine aE O (aK O (aU O (tQ ?_)));exact⟨k+1,by show iB.length - (k+1)<iB.length - k;omega,(ajs O),by omega,O,pG fun _=>by omega⟩
     have nQ:0<=ee->0<=ff->ee∈gl B ff:=fun _ h=>absurd h ia
     refine aQ O (aQ O (aQ O (aQ O (aI O ?_))));refine Cd.gh O (aE O (bc O O (aI O ?_)));refine Cd.loop (α:=Nat) (fun q=> [(1,.pointer A1),(14,ak n),(15,ak i),(3,ak i),(4,.slice A4 ms.length c4),(5,.slice A5 iB.length c5),(25,.slice A6 lU.length c6),(26,ak (lU.length:Int)),(27,ak j),(7,ak ee),(31,.slice A5 iB.length c5),(32,ak (iB.length:Int)),(33,ak k),(9,ak ff),(10,ak ((rW (pv B ee ff) ms q:Nat):Int)),(49,.slice A4 ms.length c4),(50,ak (ms.length:Int)),(51,ak q)]) (fun q w'=>q<=ms.length/\w'=w7) (fun q=>ms.length - q) 0 (ajs O) ⟨a7 _,O⟩ ?_;rintro q e w9 ⟨hq,rfl⟩;have dt:=I9 (P:=pv B ee ff) (xs:=ms) (q:=q);refine bL O (aR _ O (fun xn=>?_) (fun xn=>?_))
     ·have pE:q<ms.length:=by omega
      have hx:=zm _ (gi_in pE);have ka:=Jb (P:=pv B ee ff) pE;have gV:=Ja (P:=pv B ee ff) pE;refine aE O (aM h4.2 O (bk h4 O (ar O ?_)));generalize RB:gi ms q=xx at*;refine dp 57 O (fun kW=>?_) (fun kW=>?_)
      ·refine aQ O (aQ O (aQ O (ar O (ax O (ar O (ax O (ar O (ax O (ar O ?_)))))))));refine dp 65 O (fun kE=>?_) (fun kE=>?_)
       ·refine aQ O (aQ O (aQ O (ax O (aI O ?_))));refine Cd.jE O (aE O (aK O (ar O (aK O (aU O (tQ ?_))))));exact⟨q+1,by show ms.length - (q+1)<ms.length - q;omega,⟨O,O,O,O,O,O,O,O,O,O,O,O,O,O,aO (fun m:Nat=>Value.int .i64 (m:Int)) (ka ⟨.inl kW,.inl kE⟩).symm,O,O,O,av⟩,by omega,O⟩
       refine ax O (ar O (ax O (ar O (ax O ?_))));refine aL (ur A1 A D cA cD n R rs B xx ff _ h1 hB (by omega) (cT ff (by omega) (by omega)) (by have:=bU ff (by omega) (by omega);omega)) O ?_;rintro _ eL ⟨rfl,rfl⟩;refine ax O (aI O ?_);refine aR _ O (fun lA=>?_) (fun lA=>?_)
       ·refine aE O (aK O (ar O (aK O (aU O (tQ ?_)))));exact⟨q+1,by show ms.length - (q+1)<ms.length - q;omega,⟨O,O,O,O,O,O,O,O,O,O,O,O,O,O,aO (fun m:Nat=>Value.int .i64 (m:Int)) (ka ⟨.inl kW,.inr lA⟩).symm,O,O,O,av⟩,by omega,O⟩
       refine aE O (aK O (aU O (tQ ?_)));exact⟨q+1,by show ms.length - (q+1)<ms.length - q;omega,⟨O,O,O,O,O,O,O,O,O,O,O,O,O,O,aO (fun m:Nat=>Value.int .i64 (m:Int)) (gV fun h=>h.2.elim kE lA).symm,O,O,O,av⟩,by omega,O⟩
      refine ax O (ar O (ax O (ar O (ax O ?_))));refine aL (ur A1 A D cA cD n R rs B ee xx _ h1 hB (by omega) (cT xx (by omega) (by omega)) (by have:=bU xx (by omega) (by omega);omega)) O ?_;rintro _ eL ⟨rfl,rfl⟩;refine ar O (dp 62 O (fun qS=>?_) (fun qS=>?_))
      ·refine ax O (ar O (ax O (ar O (ax O (ar O ?_)))));refine dp 65 O (fun kE=>?_) (fun kE=>?_)
       ·refine aQ O (aQ O (aQ O (ax O (aI O ?_))));refine Cd.jE O (aE O (aK O (ar O (aK O (aU O (tQ ?_))))));exact⟨q+1,by show ms.length - (q+1)<ms.length - q;omega,⟨O,O,O,O,O,O,O,O,O,O,O,O,O,O,aO (fun m:Nat=>Value.int .i64 (m:Int)) (ka ⟨.inr qS,.inl kE⟩).symm,O,O,O,av⟩,by omega,O⟩
       refine ax O (ar O (ax O (ar O (ax O ?_))));refine aL (ur A1 A D cA cD n R rs B xx ff _ h1 hB (by omega) (cT ff (by omega) (by omega)) (by have:=bU ff (by omega) (by omega);omega)) O ?_;rintro _ fI ⟨rfl,rfl⟩;refine ax O (aI O ?_);refine aR _ O (fun lA=>?_) (fun lA=>?_)
       ·refine aE O (aK O (ar O (aK O (aU O (tQ ?_)))));exact⟨q+1,by show ms.length - (q+1)<ms.length - q;omega,⟨O,O,O,O,O,O,O,O,O,O,O,O,O,O,aO (fun m:Nat=>Value.int .i64 (m:Int)) (ka ⟨.inr qS,.inr lA⟩).symm,O,O,O,av⟩,by omega,O⟩
       refine aE O (aK O (aU O (tQ ?_)));exact⟨q+1,by show ms.length - (q+1)<ms.length - q;omega,⟨O,O,O,O,O,O,O,O,O,O,O,O,O,O,aO (fun m:Nat=>Value.int .i64 (m:Int)) (gV fun h=>h.2.elim kE lA).symm,O,O,O,av⟩,by omega,O⟩
      refine aQ O (aQ O (aQ O (fm O O O O (fm O O O O (fm O O O O (aQ O (aI O ?_)))))));refine Cd.gh O (aE O (aK O (aU O (tQ ?_))));exact⟨q+1,by show ms.length - (q+1)<ms.length - q;omega,⟨O,O,O,O,O,O,O,O,O,O,O,O,O,O,aO (fun m:Nat=>Value.int .i64 (m:Int)) (gV fun h=>h.1.elim kW qS).symm,O,O,O,av⟩,by omega,O⟩
     have xQ:q=ms.length:=by omega
     subst xQ;have xD:=xE ee ff;refine bw O (bz (pS O ?_));refine aR _ O (fun kW=>?_) (fun kW=>?_)
     ·refine aE O (CY [(i:Int),ee,ff] aW O O (by decide) (by decide) O O fun A9 eL bQ=>bM O (gx (fV (gx (fV (gx (fV ?_)))))));refine gD O ⟨A9,3,3,O,⟨fun h=>?_,fun h=>?_⟩,bQ.none⟩
      ·rw [C6 (bQ.bI 0 rfl).2 (by decide)]at h;cases h
      have Gz:=h (i:Int) ee ff (by omega) h2 ((HU (by omega) h2).1 (by rw [zk,<-GJ];exact gi_in lR)) ((HT (by omega) h2).1 (by rw [zc,<-GK];exact gi_in jY)) nQ;omega
     refine aE O (aK O (aU O (tQ ?_)));exact⟨k+1,by show iB.length - (k+1)<iB.length - k;omega,(ajs O),by omega,O,pG fun _=>by omega⟩
    have nQ:0<=ee->0<=ff->ee∈gl B ff:=fun h _=>absurd h h9
    refine aQ O (aQ O (ar O (aQ O (aQ O (aQ O (aQ O (aI O ?_)))))));refine Cd.gh O (aE O (bc O O (aI O ?_)));refine Cd.loop (α:=Nat) (fun q=> [(1,.pointer A1),(14,ak n),(15,ak i),(3,ak i),(4,.slice A4 ms.length c4),(5,.slice A5 iB.length c5),(25,.slice A6 lU.length c6),(26,ak (lU.length:Int)),(27,ak j),(7,ak ee),(31,.slice A5 iB.length c5),(32,ak (iB.length:Int)),(33,ak k),(9,ak ff),(10,ak ((rW (pv B ee ff) ms q:Nat):Int)),(49,.slice A4 ms.length c4),(50,ak (ms.length:Int)),(51,ak q)]) (fun q w'=>q<=ms.length/\w'=w7) (fun q=>ms.length - q) 0 (ajs O) ⟨a7 _,O⟩ ?_;rintro q e w9 ⟨hq,rfl⟩;have dt:=I9 (P:=pv B ee ff) (xs:=ms) (q:=q);refine bL O (aR _ O (fun xn=>?_) (fun xn=>?_))
    ·have pE:q<ms.length:=by omega
     have hx:=zm _ (gi_in pE);have ka:=Jb (P:=pv B ee ff) pE;have gV:=Ja (P:=pv B ee ff) pE;refine aE O (aM h4.2 O (bk h4 O (ar O ?_)));generalize RB:gi ms q=xx at*;refine dp 57 O (fun kW=>?_) (fun kW=>?_)
     ·refine aQ O (aQ O (aQ O (ar O (ax O (ar O (ax O (ar O (ax O (ar O ?_)))))))));refine dp 65 O (fun kE=>?_) (fun kE=>?_)
      ·refine aQ O (aQ O (aQ O (ax O (aI O ?_))));refine Cd.jE O (aE O (aK O (ar O (aK O (aU O (tQ ?_))))));exact⟨q+1,by show ms.length - (q+1)<ms.length - q;omega,⟨O,O,O,O,O,O,O,O,O,O,O,O,O,O,aO (fun m:Nat=>Value.int .i64 (m:Int)) (ka ⟨.inl kW,.inl kE⟩).symm,O,O,O,av⟩,by omega,O⟩
      refine ax O (ar O (ax O (ar O (ax O ?_))));refine aL (ur A1 A D cA cD n R rs B xx ff _ h1 hB (by omega) (cT ff (by omega) (by omega)) (by have:=bU ff (by omega) (by omega);omega)) O ?_;rintro _ eL ⟨rfl,rfl⟩;refine ax O (aI O ?_);refine aR _ O (fun lA=>?_) (fun lA=>?_)
      ·refine aE O (aK O (ar O (aK O (aU O (tQ ?_)))));exact⟨q+1,by show ms.length - (q+1)<ms.length - q;omega,⟨O,O,O,O,O,O,O,O,O,O,O,O,O,O,aO (fun m:Nat=>Value.int .i64 (m:Int)) (ka ⟨.inl kW,.inr lA⟩).symm,O,O,O,av⟩,by omega,O⟩
      refine aE O (aK O (aU O (tQ ?_)));exact⟨q+1,by show ms.length - (q+1)<ms.length - q;omega,⟨O,O,O,O,O,O,O,O,O,O,O,O,O,O,aO (fun m:Nat=>Value.int .i64 (m:Int)) (gV fun h=>h.2.elim kE lA).symm,O,O,O,av⟩,by omega,O⟩
     refine ax O (ar O (ax O (ar O (ax O ?_))));refine aL (ur A1 A D cA cD n R rs B ee xx _ h1 hB (by omega) (cT xx (by omega) (by omega)) (by have:=bU xx (by omega) (by omega);omega)) O ?_;rintro _ eL ⟨rfl,rfl⟩;refine ar O (dp 62 O (fun qS=>?_) (fun qS=>?_))
     ·refine ax O (ar O (ax O (ar O (ax O (ar O ?_)))));refine dp 65 O (fun kE=>?_) (fun kE=>?_)
      ·refine aQ O (aQ O (aQ O (ax O (aI O ?_))));refine Cd.jE O (aE O (aK O (ar O (aK O (aU O (tQ ?_))))));exact⟨q+1,by show ms.length - (q+1)<ms.length - q;omega,⟨O,O,O,O,O,O,O,O,O,O,O,O,O,O,aO (fun m:Nat=>Value.int .i64 (m:Int)) (ka ⟨.inr qS,.inl kE⟩).symm,O,O,O,av⟩,by omega,O⟩
      refine ax O (ar O (ax O (ar O (ax O ?_))));refine aL (ur A1 A D cA cD n R rs B xx ff _ h1 hB (by omega) (cT ff (by omega) (by omega)) (by have:=bU ff (by omega) (by omega);omega)) O ?_;rintro _ fI ⟨rfl,rfl⟩;refine ax O (aI O ?_);refine aR _ O (fun lA=>?_) (fun lA=>?_)
      ·refine aE O (aK O (ar O (aK O (aU O (tQ ?_)))));exact⟨q+1,by show ms.length - (q+1)<ms.length - q;omega,⟨O,O,O,O,O,O,O,O,O,O,O,O,O,O,aO (fun m:Nat=>Value.int .i64 (m:Int)) (ka ⟨.inr qS,.inr lA⟩).symm,O,O,O,av⟩,by omega,O⟩
      refine aE O (aK O (aU O (tQ ?_)));exact⟨q+1,by show ms.length - (q+1)<ms.length - q;omega,⟨O,O,O,O,O,O,O,O,O,O,O,O,O,O,aO (fun m:Nat=>Value.int .i64 (m:Int)) (gV fun h=>h.2.elim kE lA).symm,O,O,O,av⟩,by omega,O⟩
     refine aQ O (aQ O (aQ O (fm O O O O (fm O O O O (fm O O O O (aQ O (aI O ?_)))))));refine Cd.gh O (aE O (aK O (aU O (tQ ?_))));exact⟨q+1,by show ms.length - (q+1)<ms.length - q;omega,⟨O,O,O,O,O,O,O,O,O,O,O,O,O,O,aO (fun m:Nat=>Value.int .i64 (m:Int)) (gV fun h=>h.1.elim kW qS).symm,O,O,O,av⟩,by omega,O⟩
    have xQ:q=ms.length:=by omega
    subst xQ;have xD:=xE ee ff;refine bw O (bz (pS O ?_));refine aR _ O (fun kW=>?_) (fun kW=>?_)
    ·refine aE O (CY [(i:Int),ee,ff] aW O O (by decide) (by decide) O O fun A9 eL bQ=>bM O (gx (fV (gx (fV (gx (fV ?_)))))));refine gD O ⟨A9,3,3,O,⟨fun h=>?_,fun h=>?_⟩,bQ.none⟩
     ·rw [C6 (bQ.bI 0 rfl).2 (by decide)]at h;cases h
     have Gz:=h (i:Int) ee ff (by omega) h2 ((HU (by omega) h2).1 (by rw [zk,<-GJ];exact gi_in lR)) ((HT (by omega) h2).1 (by rw [zc,<-GK];exact gi_in jY)) nQ;omega
    refine aE O (aK O (aU O (tQ ?_)));exact⟨k+1,by show iB.length - (k+1)<iB.length - k;omega,(ajs O),by omega,O,pG fun _=>by omega⟩
   refine bw O (bz (dh O (aK O (aU O (tQ ?_)))));exact⟨j+1,by show lU.length - (j+1)<lU.length - j;omega,(ajs O),by omega,O,fun p hp f hf=>by
    by_cases ep:p=j
    ·subst ep;rw [GJ];obtain⟨q,hq,e9⟩:=fJ.1 hf;rw [<-bO hq]at e9;have:=cC q (by omega)
     rwa [e9]at this
    exact eB p (by omega) f hf⟩
  refine bw O (bz (dh O (aK O (aU O (tQ ?_)))));exact⟨i+1,by show n.toNat - (i+1)<n.toNat - i;omega,(ajs O),by show((i+1:Nat):Int)<=n;omega,fun i' e f h0 h' he hf nQ=>by
   by_cases ei:i'=(i:Int)
   ·subst ei;rw [zk]at he;rw [zc]at hf;obtain⟨q,hq,e9⟩:=fJ.1 he;rw [<-bO hq]at e9;have:=eB q (by omega) f hf;rw [e9]at this;exact this nQ
   exact ot i' e f h0 (by have h':i'< ((i+1:Nat):Int):=h';omega) he hf nQ,abq⟩
 refine bw O (bz (gE O ?_));exact gD O ⟨none,0,0,O,⟨fun _ i' e f h0 h3 h4 h5 h6=>ot i' e f h0 (by omega) ((HU h0 h3).2 h4) ((HT h0 h3).2 h5) h6,fun _=>O⟩,aB⟩
theorem XH{n:Nat}{R:ai}{B:ah}(hn:1<=n)(hb:R.length<=500):∀x∈aD n R B,x.length=n/\∀e∈x,0<=e/\e< (R.length:Int):=fun x hx=>by
 obtain⟨h1,h2,_⟩:=(nG hn).1 hx;refine⟨h1,fun e he=>?_⟩;obtain⟨k,hk,rfl⟩:=fJ.1 he;rw [<-bO hk];exact(h2 k (by omega)).1
theorem IX(b:Bool):b=decide (b=true):=by cases b<;>rfl
theorem acf(n:Nat)(A D:aj)(cA cD:Nat)(R:ai)(rs:List aN)(B:ah)(Af:aj)(cf:Nat)(fv:List aN)(w:aa)(hT:js w)(hR:cn w A R.length R)(hB:br w D B.length rs B)(hP:gm n R B)(hF:br w Af (aD n R B).length fv (aD n R B))(Qn:(aD n R B).length<=400):
 aG prog 57 [.agg #[ak n,.slice A R.length cA,.slice D B.length cD],.slice Af (aD n R B).length cf] w (fun v w'=>∃b:Bool,v= .bool b/\(b=true↔yy n R B)/\St w w' []):=by
 have hn:=hP.n1;have qZ:=hP.oQ;have GL:=XH (n:=n) (R:=R) (B:=B) (by omega) qZ;have aae:∀x∈aD n R B,x.length=n/\∀e∈x,0<=e/\e<=1000000:=fun x hx=> ⟨(GL x hx).1,fun e he=>by have:=(GL x hx).2 e he;omega⟩
 have tj:(aD n R B).Nodup:=(Bg n R B).nodup;refine bA func57 O ntmps57 O (cJ O) (a8 O (nw (St.refl w) O O ?_));intro A1 w1 aA;have h1:Rd w1 A1 3 (fun j=> [Value.int .i64 n,.slice A R.length cA,.slice D B.length cD].getD j undef):=aA.rd 0 O;have hR:=aA.gW hR;have hB:=aA.bY hB;have hF:=aA.bY hF;have hT:=hT.aq aA.below;have aA:=aA.none;refine ar O (bc O O (ar O ?_));refine dp 8 O (fun h2=>?_) (fun h2=>?_)
 ·have bt:aD n R B≠[]:=fun h=>by rw [h]at h2;exact absurd h2 (by decide)
  refine ax O (ao.b7 2 h1 O O O ?_);refine ax O (ar O (ax O ?_));refine aL (acg n A D cA R.length B.length cD Af (aD n R B).length cf fv (aD n R B) _ hF qZ (fun l hl=> ⟨by have:=(GL l hl).1;omega,(GL l hl).2⟩) (by omega)) O ?_;rintro _ w2 ⟨b,rfl,hb,au⟩;have h1:=Rd.below h1 au.below;have hR:=au.gW hR;have hB:=au.bY hB;have hF:=au.bY hF;have hT:=hT.aq au.below;have aA:=aA.aq au.below;have Ef:b=true↔Ix n R B:=hb;clear au hb;rw [IX b];refine ar O (dp 13 O (fun h3=>?_) (fun h3=>?_))
  ·refine ax O (ao.b7 2 h1 O O O (ax O (aL (Xf n A D cA cD R rs B _ hR hB hP) O ?_)));rintro _ w3 ⟨A9,n9,c9,rfl,hd,au⟩;have hF:=au.bY hF;have hT:=hT.aq au.below;have aA:=aA.aq au.below;clear au;refine ax O (CZ O O O ?_);rw [IX A9.isNone];refine ar O (dp 18 O (fun h4=>?_) (fun h4=>?_))
   ·refine ax O (ar O (ax O ?_));refine aL (WU Af (aD n R B).length cf fv (aD n R B) n _ hT hF (by omega) (by omega) aae tj) O ?_;rintro _ w4 ⟨A8,n8,c8,rfl,hc,au⟩;have aA:=aA.aq au.below;refine ax O (CZ O O O (bM O (dK O ?_)));exact⟨A8.isNone,O,⟨fun h=> ⟨bt,Ef.1 h3,hd.1 h4,hc.1 h⟩,fun h=>hc.2 h.2.2.2⟩,aA⟩
   refine aQ O (aQ O (aQ O (bM O ?_)));refine dK O ?_;exact⟨false,rfl,⟨fun h=> (by cases h),fun h=>absurd (hd.2 h.2.2.1) h4⟩,aA⟩
  refine aQ O (aQ O (aQ O (ar O (aQ O (aQ O (aQ O (bM O ?_)))))));refine dK O ?_;exact⟨false,rfl,⟨fun h=> (by cases h),fun h=>absurd (Ef.2 h.2.1) h3⟩,aA⟩
 refine aQ O (aQ O (aQ O (ar O (aQ O (aQ O (aQ O (ar O (aQ O (aQ O (aQ O (bM O ?_)))))))))));refine dK O ?_;exact⟨false,rfl,⟨fun h=> (by cases h),fun h=>absurd (List.length_pos_iff.2 h.1) (by omega)⟩,aA⟩
noncomputable def fe(M:ah):ah:=aD M.length (bo M M.length) (bD M)
noncomputable def qw(M:ah):Int:=if 500<aF M M.length\/400< (fe M).length then 3 else 0
def ns(M:ah):Prop:=aF M M.length<=500/\(fe M).length=(gl M 0).length/\yy M.length (bo M M.length) (bD M)
theorem ns.code{M:ah}(hM:aZ M)(h:ns M):qw M=0:=by
 have:=hM.2.1;unfold qw;rw [aw (by have:=h.1;have:=h.2.1;omega)]
theorem qv{M:ah}(hM:aZ M)(h:aF M M.length<=500):gm (M.length:Int) (bo M M.length) (bD M):=XZ hM h
theorem ace(A:aj)(n c:Nat)(rs:List aN)(M:ah)(w:aa)(hT:js w)(hR:br w A n rs M)(hM:aZ M):
 aG prog 69 [.agg #[.slice A n c]] w (fun v w'=>∃b:Bool,v= .tuple #[.bool b,ak (qw M)]/\(b=true↔ns M)/\St w w' []):=by
 have hl:=hR.len;have h5:=hM.1;have h4:=hM.2.1;have xy:=jg M M.length;have qT:=tV M;have ql:=hR.oG (k:=0) (by omega) (by omega);refine bA func69 O ntmps69 O (rA O) (a8 O (jd (St.refl w) O O ?_));intro A1 w1 aA;refine ar O (ao.b7 0 (aA.rd 0 O) O O O (aL (Om A n c rs M _ (aA.bY hR) hM) O ?_));rintro _ w2 (⟨vY,rfl,au⟩ | ⟨vY,AR,cR,AD,cD,df,rfl,lE,au⟩)
 ·have aB:=aA.aq au.below;refine ar O (mK aB O ?_);intro A4 w3 aH;refine cG 3 0 aH O O O O O O O fun w4 aV=>ar O ?_
  first | refine eA rfl rfl ?_ | refine eU rfl rfl ?_
  refine aI O (Cd.jE O (eT O (Cx O O ?_)));unfold qw;rw [ay (.inl vY)];exact⟨false,rfl,⟨fun h=> (by cases h),fun h=>by have:=h.1;omega⟩,aV.none⟩
 have hP:=qv hM vY;have aB:=aA.call au;clear au aA;refine ar O (mK aB O ?_);intro A4 w3 aH;refine cG 3 0 aH O O O O O O O ?_;intro w4 aV;have aV:St w w4 (bE A4 (M.length:Int) AR (aF M M.length) cR AD (aF M M.length) cD::(az 2 AR (aF M M.length) cR (bo M M.length)::((aT 24 2 AD (aF M M.length) cD df (bD M)++ [])++ [Bx 37 1 A1 [.slice A n c]]))):=aV;have gr:cn w4 AR (bo M M.length).length (bo M M.length):=by rw [xy];exact aV.bI 1 O
 have fh:br w4 AD (bD M).length df (bD M):=by
  rw [qT];have h9:=aV.sub (show(aT 24 2 AD (aF M M.length) cD df (bD M)).Sublist _ from List.Sublist.cons _ (List.Sublist.cons _ (by rw [fM];exact qI _ _)));exact h9.kb qT
 have nL:=aV.rd 0 O;have dd:Rd w4 A1 1 (fun _=> .slice A n c):=by
  have h9:=aV.sub (show List.Sublist [Bx 37 1 A1 [.slice A n c]] _ from List.Sublist.cons _ (List.Sublist.cons _ (mH _ _)));exact Rd.one (h9.rd 0 O)
 refine ar O ?_
 first | refine eA rfl rfl ?_ | refine eU rfl rfl ?_
 refine aI O (Cd.gh O (aE O (ao.b7 2 nL O O O ?_)));refine ajj (OD M.length AR AD cR cD (bo M M.length) df (bD M) _ gr fh hP) O (by rw [xy,qT];rfl) O ?_;rintro _ w5 ⟨Af,cf,Tz,rfl,rv,au⟩;have aW:=aV.aq au.below;have jM:=gr.aq au.below;have kh:=fh.aq au.below;have mn:=Rd.below nL au.below;have dd:=Rd.below dd au.below
 by_cases iY:(aD M.length (bo M M.length) (bD M)).length<=400
 ·
  have hL:vK M.length (bo M M.length) (bD M)=aD M.length (bo M M.length) (bD M):=by unfold vK;rw [if_pos iY]
  have hK:pW M.length (bo M M.length) (bD M)=0:=by unfold pW;rw [if_pos iY]
  have o6:qw M=0:=by unfold qw;rw [if_neg (by show ¬(500<aF M M.length\/400< (aD M.length (bo M M.length) (bD M)).length);omega)]
  rw [hL]at rv au|-;rw [hK,o6];have Y3:br w5 Af (aD M.length (bo M M.length) (bD M)).length Tz (aD M.length (bo M M.length) (bD M)):=by
   rw [fM]at au;exact au.kb O
  refine ar O (dp 22 O (fun _=>?_) (fun h=>absurd O h));refine ax O (ar O (ax O ?_));refine aL (EX _ _ _ _) O ?_;rintro _ w5 ⟨rfl,rfl⟩;refine ax O (aL (sY A1 A n c rs M _ _ dd O (aW.bY hR) (by omega)) O ?_);rintro _ w5 ⟨rfl,rfl⟩;refine ax O (ar O ?_);refine dp 28 O (fun h6=>?_) (fun h6=>?_)
  ·refine ax O (ao.b7 2 mn O O O ?_);refine ax O (ar O (ax O ?_));refine ajj (acf M.length AR AD cR cD (bo M M.length) df (bD M) Af cf Tz _ (hT.aq aW.below) jM kh hP Y3 iY) O (by rw [xy,qT];rfl) O ?_;rintro _ w6 ⟨b,rfl,hb,jk⟩;refine bM O (Cx O O ?_);refine⟨b,O,hb.trans ⟨fun h=> ⟨vY,?_,h⟩,fun h=>h.2.2⟩,(aW.aq jk.below).none⟩;show(aD M.length (bo M M.length) (bD M)).length=_;omega
  refine aQ O (aQ O (aQ O (bM O ?_)));refine Cx O O ?_;refine⟨false,rfl,⟨fun h=> (by cases h),fun h=>?_⟩,aW.none⟩;have h9:(aD M.length (bo M M.length) (bD M)).length=(gl M 0).length:=h.2.1;omega
 have hL:vK M.length (bo M M.length) (bD M)=[]:=by unfold vK;rw [if_neg iY]
 have hK:pW M.length (bo M M.length) (bD M)=3:=by unfold pW;rw [if_neg iY]
 have o6:qw M=3:=by unfold qw;rw [if_pos (.inr (by show 400< (aD M.length (bo M M.length) (bD M)).length;omega))]
 rw [hL]at rv au|-;rw [hK,o6];refine ar O (dp 22 O (fun h=>absurd h (by decide)) (fun _=>?_));refine aQ O (aQ O (aQ O (aQ O (ar O (aQ O (aQ O (aQ O (bM O ?_))))))));refine Cx O O ?_;refine⟨false,rfl,⟨fun h=> (by cases h),fun h=>?_⟩,aW.none⟩;have h9:(aD M.length (bo M M.length) (bD M)).length=(gl M 0).length:=h.2.1;omega
section
variable{z0 z1 z2 z3 y0 y1 v0 u0 u1 u2 v1 v2 v3:ad}{b b0 b1:Nat}
variable {P:Program} {N:Nat} {ops:Array Oper} {K:Env->aa->Prop} {rest:List Oper} {e:Env} {w0 w w':aa} {ks:List Ck} {d:Nat} {ty:ae} {pos:String} {af:Array Edge}
theorem U5{t:ae}{f0 f1:Field}[bJ P t (.struct #[f0,f1])][bF P t (.agg #[z0,z1,z2,z3]) 4 b]{x0 x1:ag}(sb:bF P f0.type y0 1 b0)(sc:bF P f1.type y1 3 b1)(ho:f0.offset=0)(tk:f1.offset=1)(h0:ev e x0=v0)(h1:ev e x1= .agg #[u0,u1,u2])(c0:v0.oneCell'=true)(hb:Nat.blt d N=true)(hK:ao P N ops K rest (bq e d (.agg #[v0,u0,u1,u2])) w):ao P N ops K (⟨some d,.build t #[(0,x0),(1,x1)],ty,pos,af,none⟩::rest) e w:=by
 obtain⟨inf,hi,fH,hs,iW⟩:=bF.get P t;obtain⟨Cf,eK,_,o9,_⟩:=sb.get P f0.type;obtain⟨Cg,kj,_,sq,_⟩:=sc.get P f1.type;have e0:v0.cells= #[v0]:=by cases v0<;>simp [Value.oneCell']at c0<;>rfl
 have e1:(Value.agg #[u0,u1,u2]).cells= #[u0,u1,u2]:=O;have ez:(Value.agg #[z0,z1,z2,z3]).cells= #[z0,z1,z2,z3]:=O;refine .val (w':=w) ?_ hb hK;simp [execOp,Instr.build,run_underlying (bJ.out (P:=P) (t:=t)),sizeOf,typeInfo,zeroValue,hi,fH,eK,o9,kj,sq,ho,tk,h0,h1,e0,e1,ez,Instr.fill]
theorem Ir{t:ae}{f0 f1:Field}[bJ P t (.struct #[f0,f1])][bF P t (.agg #[z0,z1,z2,z3]) 4 b](sb:bF P f0.type y0 1 b0)(sc:bF P f1.type y1 3 b1)(hb:Nat.blt d N=true)(hK:ao P N ops K rest (bq e d (.agg #[z0,z1,z2,z3])) w):ao P N ops K (⟨some d,.build t #[],ty,pos,af,none⟩::rest) e w:=by
 obtain⟨inf,hi,fH,hs,iW⟩:=bF.get P t;obtain⟨Cf,eK,_,o9,_⟩:=sb.get P f0.type;obtain⟨Cg,kj,_,sq,_⟩:=sc.get P f1.type;have ez:(Value.agg #[z0,z1,z2,z3]).cells= #[z0,z1,z2,z3]:=O;refine .val (w':=w) ?_ hb hK;simp [execOp,Instr.build,run_underlying (bJ.out (P:=P) (t:=t)),sizeOf,typeInfo,zeroValue,hi,fH,eK,o9,kj,sq,ez,Instr.fill]
theorem C2{el:ae}{s:Nat}[bF P el (.agg #[v0,v1,v2,v3]) s b](hS:St w0 w ks)(hb:Nat.blt d N=true)(hK:∀A w',St w0 w' (Bx el 4 A [v0,v1,v2,v3]::ks)->ao P N ops K rest (bq e d (.pointer A)) w')(hM:eG [v0,v1,v2,v3]=false:=by rfl):ao P N ops K (⟨some d,.alloc el,ty,pos,af,none⟩::rest) e w:= .new (el:=el) (z:= .agg #[v0,v1,v2,v3]) (s:=s) (b:=b) hS hb rfl hK hM
theorem MY{el:ae}{x:ag}(hS:St w0 w ks)(hx:ev e x= .agg #[v0,v1,v2,v3])(hb:Nat.blt d N=true)(hK:∀A w',St w0 w' (Bx el 4 A [v0,v1,v2,v3]::ks)->ao P N ops K rest (bq e d (.pointer A)) w')(hM:eG [v0,v1,v2,v3]=false:=by rfl):ao P N ops K (⟨some d,.box el x,ty,pos,af,none⟩::rest) e w:=
 .Fz hS hx hb rfl hK hM
end
open Classical in
noncomputable def jL(M:ah):Int:=if aZ M then(if qw M=0 then(if ns M then 0 else 5)else 3)else 1
theorem O1{M:ah}(h:¬aZ M):jL M=1:=by unfold jL;rw [if_neg h]
theorem O0{M:ah}(h:aZ M)(h2:qw M≠0):jL M=3:=by unfold jL;rw [if_pos h,if_neg h2]
theorem OZ{M:ah}(h:aZ M)(h2:qw M=0)(h3:¬ns M):jL M=5:=by unfold jL;rw [if_pos h,if_pos h2,if_neg h3]
theorem Ga{M:ah}(h:aZ M)(h3:ns M):jL M=0:=by unfold jL;rw [if_pos h,if_pos (h3.code h),if_pos h3]
theorem qQ{M:ah}(h:jL M=0):aZ M/\ns M:=by
 unfold jL at h
 split at h
 ·rename_i h1
  split at h
  ·split at h
   ·rename_i h3;exact⟨h1,h3⟩
   cases h
  cases h
 cases h
theorem afm{M:ah}(h:qw M≠0):qw M=3:=by
 unfold qw at h|-
 split
 ·rfl
 rename_i h2;rw [aw h2]at h;exact absurd rfl h
def MI(M:ah)(w:aa)(v:ad)(w':aa):Prop:=(jL M≠0/\v= .tuple #[.agg #[.slice none 0 0,ak 0,.slice none 0 0,.slice none 0 0],ak (jL M)]/\St w w' [])\/(jL M=0/\∃A8 c8 AR c AD d rs,v= .tuple #[.agg #[.slice A8 (aF M M.length+2) c8,ak (M.length:Int),.slice AR (aF M M.length) c,.slice AD (aF M M.length) d],ak 0]/\rs.length=aF M M.length/\St w w' (az 2 A8 (aF M M.length+2) c8 (fD M.length (bo M M.length))::az 2 AR (aF M M.length) c (bo M M.length)::(aT 24 2 AD (aF M M.length) d rs (bD M)++ [])))
theorem F1(A:aj)(n c:Nat)(rs:List aN)(M:ah)(w:aa)(hT:js w)(hR:br w A n rs M)(hn:n<=c)(hc:c<=9223372036854775807):
 aG prog 207 [.agg #[.slice A n c]] w (MI M w):=by
 refine bA func207 O ntmps207 O (pc O O) (a8 O (jd (St.refl w) O O ?_));intro A1 w1 aA;refine C2 aA O ?_;intro A2 w2 aB;have aB:St w w2 [Bx 188 4 A2 [.slice none 0 0,ak 0,.slice none 0 0,.slice none 0 0],Bx 37 1 A1 [.slice A n c]]:=aB;refine ar O (ao.b7 0 (aB.rd 1 O) O O O (aL (wx A n c rs M _ (aB.bY hR) hn hc) O ?_));rintro _ w3 ⟨rfl,au⟩;have aH:=aB.aq au.below;clear au aB aA
 first | refine eA rfl rfl ?_ | refine eU rfl rfl ?_
 refine aI O (aR _ O (fun h1=>?_) (fun h1=>?_))
 ·refine aE O (Ir (by exact inferInstance) (by exact inferInstance) O (cG 4 0 aH O O O O O O O ?_));intro w4 aV;refine bM O (iL O (aV.rd 0 O) O ?_);exact .inl ⟨by rw [O1 h1];decide,by rw [O1 h1];rfl,aV.none⟩
 have hM:aZ M:=iy.1 h1;have xy:=jg M M.length;have qT:=tV M;refine aE O (ao.b7 0 (aH.rd 1 O) O O O (aL (ace A n c rs M _ (hT.aq aH.below) (aH.bY hR) hM) O ?_));rintro _ w4 ⟨b,rfl,hb,au⟩;have aV:=aH.aq au.below;clear au aH;refine aI O (aR _ O (fun h2=>?_) (fun h2=>?_))
 ·refine aE O (Ir (by exact inferInstance) (by exact inferInstance) O (ar O (cG 4 0 aV O O O O O O O ?_)));intro w5 aW;refine bM O (iL O (aW.rd 0 O) O ?_);exact .inl ⟨by rw [O0 hM h2];decide,by rw [O0 hM h2,afm h2];rfl,aW.none⟩
 have h2:qw M=0:=iy.1 h2;rw [IX b];refine aE O ?_
 first | refine eA rfl rfl ?_ | refine eU rfl rfl ?_
 refine aI O (aR _ O (fun h3=>?_) (fun h3=>?_))
 ·have QV:¬ns M:=fun h=>h3 (hb.2 h)
  refine aE O (Ir (by exact inferInstance) (by exact inferInstance) O (cG 4 0 aV O O O O O O O ?_));intro w5 aW;refine bM O (iL O (aW.rd 0 O) O ?_);exact .inl ⟨by rw [OZ hM h2 QV];decide,by rw [OZ hM h2 QV];rfl,aW.none⟩
 have hg:ns M:=hb.1 (iy.1 h3);have vY:=hg.1;have h5:=hM.1;refine aE O (ao.b7 0 (aV.rd 1 O) O O O (aL (Om A n c rs M _ (aV.bY hR) hM) O ?_));rintro _ w5 (⟨h9,_⟩ | ⟨_,AR,cR,AD,cD,df,rfl,lE,au⟩)
 ·omega
 have aW:=aV.call au;clear au aV;refine ar O (mK aW O ?_);intro A6 w6 ba;refine cG 3 0 ba O O O O O O O ?_;intro w7 bG;obtain⟨N,hN⟩:∃N,aF M M.length=N:=⟨_,rfl⟩;unfold MI;rw [hN]at xy qT lE bG vY|-;have bG:St w w7 (bE A6 (M.length:Int) AR N cR AD N cD::(az 2 AR N cR (bo M M.length)::((aT 24 2 AD N cD df (bD M)++ [])++ [Bx 188 4 A2 [.slice none 0 0,ak 0,.slice none 0 0,.slice none 0 0],Bx 37 1 A1 [.slice A n c]]))):=bG;refine ar O (eH (i:= -1) bG O O O ?_);intro A9 w8 bS;refine aX (bS.rd 1 O) O (bn (bS.rd 1 O) O (fN 0 bS O (bS.bI 2 O) O O O ?_));intro A8 c8 w9 bH;have bH:St w w9 (az 2 A8 (1+N) c8 ([-1]++bo M M.length)::bE A6 (M.length:Int) AR N cR AD N cD::(az 2 AR N cR (bo M M.length)::((aT 24 2 AD N cD df (bD M)++ [])++ [Bx 188 4 A2 [.slice none 0 0,ak 0,.slice none 0 0,.slice none 0 0],Bx 37 1 A1 [.slice A n c]]))):=bH;obtain⟨KK,qV⟩:∃KK:List Ck,KK=az 2 AR N cR (bo M M.length)::(aT 24 2 AD N cD df (bD M)++ []):=⟨_,rfl⟩;have bH:St w w9 (az 2 A8 (1+N) c8 ([-1]++bo M M.length)::bE A6 (M.length:Int) AR N cR AD N cD::Bx 188 4 A2 [.slice none 0 0,ak 0,.slice none 0 0,.slice none 0 0]::KK):=by
  have ia:=bH.perm (show List.Perm _ (Bx 37 1 A1 [.slice A n c]::(az 2 A8 (1+N) c8 ([-1]++bo M M.length)::bE A6 (M.length:Int) AR N cR AD N cD::Bx 188 4 A2 [.slice none 0 0,ak 0,.slice none 0 0,.slice none 0 0]::KK)) from by
   rw [qV]
   classical
   refine kN.2 fun z=>?_
   simp only [mb,kL,mE];omega)
  exact ia.tail
 clear bS bG ba aW;refine aI O ?_;refine kK [4,7] [yS (A8) (1+N) (c8),yP (aJ (A6) 0),yI ((M.length:Int)),.pr (fun v w'=>∃A9,v= .slice A9 1 1/\St w w' (az 2 A9 1 1 [(M.length:Int)]::az 2 A8 (1+N) c8 ([-1]++bo M M.length)::bE A6 (M.length:Int) AR N cR AD N cD::Bx 188 4 A2 [.slice none 0 0,ak 0,.slice none 0 0,.slice none 0 0]::KK)),.pr (fun v w'=>∃AZ cZ,v= .slice AZ (1+N+1) cZ/\St w w' (az 2 AZ (1+N+1) cZ (([-1]++bo M M.length)++ [(M.length:Int)])::bE A6 (M.length:Int) AR N cR AD N cD::Bx 188 4 A2 [.slice none 0 0,ak 0,.slice none 0 0,.slice none 0 0]::KK)),.ex (.agg #[ak (M.length:Int),.slice AR N cR,.slice AD N cD]),.pr (fun v w'=>∃AZ cZ,v= .agg #[.slice AZ (1+N+1) cZ,ak (M.length:Int),.slice AR N cR,.slice AD N cD]/\St w w' (az 2 AZ (1+N+1) cZ (([-1]++bo M M.length)++ [(M.length:Int)])::bE A6 (M.length:Int) AR N cR AD N cD::Bx 188 4 A2 [.slice none 0 0,ak 0,.slice none 0 0,.slice none 0 0]::KK)),.pr (fun _ w'=>∃AZ cZ,St w w' (az 2 AZ (1+N+1) cZ (([-1]++bo M M.length)++ [(M.length:Int)])::bE A6 (M.length:Int) AR N cR AD N cD::Bx 188 4 A2 [.slice AZ (1+N+1) cZ,ak (M.length:Int),.slice AR N cR,.slice AD N cD]::KK)),yI ((0:Int))] (by kernel_rfl) (by kernel_rfl) (ly (ly (ly (cI.2 ⟨Ye.cV (fun v w w' h hb=>by obtain⟨A9,hv,hT⟩:=h;exact⟨A9,hv,hT.aq hb⟩),(cI.2 ⟨Ye.cV (fun v w w' h hb=>by obtain⟨AZ,cZ,hv,hT⟩:=h;exact⟨AZ,cZ,hv,hT.aq hb⟩),(ly (cI.2 ⟨Ye.cV (fun v w w' h hb=>by obtain⟨AZ,cZ,hv,hT⟩:=h;exact⟨AZ,cZ,hv,hT.aq hb⟩),(cI.2 ⟨Ye.cV (fun v w w' h hb=>by obtain⟨AZ,cZ,hT⟩:=h;exact⟨AZ,cZ,hT.aq hb⟩),(ly (fun _ h=>by cases h))⟩)⟩))⟩)⟩)))) ?_ ?_
 ·refine⟨bZ O,cP fun _ _ hb _ _ _=>aX ((bH.rd 1 O).below hb) O (bK O O),cP fun _ _ hb _ _ _=>iG ((bH.rd 1 O).below hb) O O O O O (bK O O),?_,?_,?_,?_,?_,bZ O,av⟩
  ·refine cP fun e1 w1 hb hp a6 hq=>?_
   exact eH (St.refl _) O O O fun A9 w9 au=>ao.n (gA.dn O au.below ⟨A9,O,(bH.aq hb).call au⟩)
  ·refine kQ fun e1 w1 hb hp a6 hq=>?_
   obtain⟨A9,YH,hT⟩:=(hp 3 _ _ (by kernel_rfl) rfl rfl (by kernel_rfl));refine fN 1 hT O (hT.bI 0 O) O (by exact YH) O ?_;intro AZ cZ wZ hZ;exact ao.n (fQ.dn O ⟨AZ,cZ,O,hZ.tail⟩)
  ·intro e1 w1 cc eB cC fq hp a6 hq;show ao _ _ _ _ _ _ _;have hX:Rd w1 A6 3 (fun q=> [Value.int .i64 (M.length:Int),.slice AR N cR,.slice AD N cD].getD q undef):=by { have cC:=pK cC (b:=1) (by kernel_rfl);rcases(show cc=0\/cc=1 by omega)with h | h; { exact(bH.aq (fq h)).rd 1 rfl }; { subst h;obtain⟨AZ,cZ,_,hT⟩:=hq 4 _ _ (by kernel_rfl) (by kernel_rfl) (by kernel_rfl) rfl rfl (by kernel_rfl);exact hT.rd 1 rfl } }
   refine ao.b7 2 hX O O O (ao.n (ig O (by exact O)))
  ·refine dP 1 fun e1 w1 hp a6 hq=>?_
   have eP:=hp 4 _ _ (by kernel_rfl) O O (by kernel_rfl);obtain⟨AZ,cZ,JQ,hT⟩:=(hp 4 _ _ (by kernel_rfl) rfl rfl (by kernel_rfl));refine U5 (v0:= .slice AZ (1+N+1) cZ) (by exact inferInstance) (by exact inferInstance) O O (by exact JQ) O O O (ao.n ?_);exact gA.dn O (Below.refl _ _) ⟨AZ,cZ,O,hT⟩
  refine qM 1 fun e1 w1 hp a6 hq=>?_
  have eP:=hp 4 _ _ (by kernel_rfl) O O (by kernel_rfl);obtain⟨AY,cY,YI,hT⟩:=(hp 6 _ _ (by kernel_rfl) rfl rfl (by kernel_rfl));refine cG 4 2 hT O O (by exact YI) O O O O ?_;intro fI yW;exact ao.n (fQ.st O ⟨AY,cY,yW⟩)
 intro u eL _ hu _ _;obtain⟨AZ,cZ,hT⟩:=hu 7 _ rfl (by kernel_rfl);refine CT O (iL O (hT.rd 2 O) O ?_);refine .inr ⟨Ga hM hg,AZ,cZ,AR,cR,AD,cD,df,?_,lE,?_⟩
 ·rw [show N+2=1+N+1 by omega];rfl
 rw [show N+2=1+N+1 by omega,<-qV];exact hT.sub (((jV _).cons _).cons _ |>.cons_cons _)
theorem eq_4{a b c d b' c' d':ad}(h1:b=b')(h2:c=c')(h3:d=d'):[a,b,c,d]=[a,b',c',d']:=by rw [h1,h2,h3]
theorem acX(n:Nat)(A D:aj)(cA cD:Nat)(R:ai)(rs:List aN)(B:ah)(w:aa)(hR:cn w A R.length R)(hB:br w D B.length rs B)(hP:gm n R B):
 aG prog 110 [.agg #[ak n,.slice A R.length cA,.slice D B.length cD]] w (fun v w'=>∃A' c' rs',v= .tuple #[.slice A' (cap (aD n R B)).length c',.bool (decide ((aD n R B).length<=400))]/\rs'.length=(cap (aD n R B)).length/\St w w' (aT 24 2 A' (cap (aD n R B)).length c' rs' (cap (aD n R B))++ [])):=by
 have hn:=hP.n1;have hle:=hP.len;have eu:=Xt (n:=n) (R:=R) (B:=B) (by omega);have Km:=FE (l:=aD n R B);obtain⟨N,hN⟩:∃N,R.length=N:=⟨_,rfl⟩;have qX:=fun(w:aa) hR hB=>acV n A D cA cD R rs B w hR hB hP
 have hex:=fun(w:aa) La hR hB Aa Br=>acW w n A D cA cD R rs B N hN hR hB hP Aa La Br
 rw [hle]at hB qX;rw [hN]at hR hB qX;rw [hle,hN];refine bA func110 O ntmps110 O (rA O) (a8 O (nw (St.refl w) O O ?_));intro A1 wB aA;have h1:Rd wB A1 3 (fun j=> [Value.int .i64 (n:Int),.slice A N cA,.slice D N cD].getD j undef):=aA.rd 0 O;have hR:=aA.gW hR;have hB:=aA.bY hB;have aA:=aA.none;refine aI O ?_;refine kK [5] [.ex (.agg #[ak n,.slice A N cA,.slice D N cD]),.ex (.agg #[ak n,.slice A N cA,.slice D N cD]),.pr (fun v w'=>∃A7 L,v= .slice A7 N N/\rR N L (fun x=>dL n R B x)/\St wB w' [gu 4 A7 N N L]),.pr (fun v w'=>∃A8,v= .slice A8 0 0/\St wB w' [az 2 A8 0 0 []]),.pr (fun v w'=>∃A9,v= .slice A9 0 0/\St wB w' [cd 24 A9 0 0 []]),.pr (fun v w'=>∃A' c' rs',v= .slice A' (cap (aD n R B)).length c'/\rs'.length=(cap (aD n R B)).length/\St wB w' (aT 24 2 A' (cap (aD n R B)).length c' rs' (cap (aD n R B))++ [])),.pr (fun v w'=>∃A' c' rs',v= .slice A' (cap (aD n R B)).length c'/\rs'.length=(cap (aD n R B)).length/\St wB w' (aT 24 2 A' (cap (aD n R B)).length c' rs' (cap (aD n R B))++ []))] (by kernel_rfl) (by kernel_rfl) (ly (ly (cI.2 ⟨Ye.cV (fun v w w' h hb=>by obtain⟨A7,L,hv,hL,hT⟩:=h;exact⟨A7,L,hv,hL,hT.aq hb⟩),(cI.2 ⟨Ye.cV (fun v w w' h hb=>by obtain⟨A8,hv,hT⟩:=h;exact⟨A8,hv,hT.aq hb⟩),(cI.2 ⟨Ye.cV (fun v w w' h hb=>by obtain⟨A9,hv,hT⟩:=h;exact⟨A9,hv,hT.aq hb⟩),(cI.2 ⟨Ye.cV (fun v w w' h hb=>by obtain⟨A',c',rs',hv,fG,hT⟩:=h;exact⟨A',c',rs',hv,fG,hT.aq hb⟩),(cI.2 ⟨Ye.cV (fun v w w' h hb=>by obtain⟨A',c',rs',hv,fG,hT⟩:=h;exact⟨A',c',rs',hv,fG,hT.aq hb⟩),(fun _ h=>by cases h)⟩)⟩)⟩)⟩)⟩))) ?_ ?_
 ·refine⟨cP fun _ _ hb _ _ _=>ao.b7 2 (Rd.below h1 hb) O O O (bK O O),cP fun _ _ hb _ _ _=>ao.b7 2 (Rd.below h1 hb) O O O (bK O O),?_,?_,?_,?_,?_,av⟩
  ·refine cP fun e1 w1 hb hp a6 hq=>?_
   refine aL (qX _ (hR.aq hb) (hB.aq hb)) O ?_;rintro _ w9 ⟨A7,L,rfl,hL,au⟩;refine ao.n ?_;exact gA.dn O au.below ⟨A7,L,O,hL,by have:=((St.refl wB).aq hb).call au;rwa [fM]at this⟩
  ·refine cP fun e1 w1 hb hp a6 hq=>?_
   refine ny (St.refl _) O fun A8 w9 au=>ao.n ?_;exact gA.dn O au.below ⟨A8,O,by have:=((St.refl wB).aq hb).call au;rwa [fM]at this⟩
  ·refine cP fun e1 w1 hb hp a6 hq=>?_
   refine ny (St.refl _) O fun A9 w9 au=>ao.n ?_;exact gA.dn O au.below ⟨A9,O,by have:=((St.refl wB).aq hb).call au;rwa [fM]at this⟩
  ·refine kQ fun e1 w1 hb hp a6 hq=>?_
   obtain⟨A7,L,h7,hL,kG⟩:=(hp 2 _ _ (by kernel_rfl) rfl rfl (by kernel_rfl));obtain⟨A8,h8,mU⟩:=(hp 3 _ _ (by kernel_rfl) rfl rfl (by kernel_rfl));obtain⟨A9,h9,pz⟩:=(hp 4 _ _ (by kernel_rfl) rfl rfl (by kernel_rfl));have Zf:=pz.merge kG (fun k hk=>by obtain rfl:=gk.1 hk;rfl) (fun k hk=>by obtain rfl:=gk.1 hk;exact Es _) (fun k hk k' eN=>by obtain rfl:=gk.1 hk;obtain rfl:=gk.1 eN;exact(by decide:¬(24=4)));have Zg:=mU.merge Zf (fun k hk=>by obtain rfl:=gk.1 hk;rfl) (fun k hk=>by rcases jq.1 hk with rfl | hk; { rfl }; { obtain rfl:=gk.1 hk;exact Es _ }) (fun k hk k' eN=>by obtain rfl:=gk.1 hk;rcases jq.1 eN with rfl | eN; { exact(by decide:¬(2=24)) }; { obtain rfl:=gk.1 eN;exact(by decide:¬(2=4)) });refine ajj (hex wB L hR hB A7 hL n 0 [] A8 0 [gu 4 A7 N N L] _ A9 0 [] [] (by omega) rfl (fun x hx=>by cases hx) (gk.2 rfl) rfl (a7 _) Zg) rfl (by exact eq_4 h7 h8 h9) rfl ?_;rintro _ w9 ⟨A',c',rs',rfl,fG,se⟩;rw [List.nil_append,eu]at fG se|-;exact ao.n (fQ.dn O ⟨A',c',rs',O,fG,se.sub ((jV _).append (List.nil_sublist _))⟩)
  refine dP 1 fun e1 w1 hp a6 hq=>?_
  have eP:=hp 5 _ _ (by kernel_rfl) O O (by kernel_rfl);obtain⟨A',c',rs',ia,fG,hT⟩:=(hp 5 _ _ (by kernel_rfl) rfl rfl (by kernel_rfl));refine tJ O (by exact ia) O (ao.n ?_);exact gA.dn O (Below.refl _ _) ⟨A',c',rs',O,fG,hT⟩
 intro u w2 _ hu _ _;obtain⟨A',c',rs',hv,fG,hT⟩:=hu 6 _ rfl (by kernel_rfl);refine EM (F:=[(4,.slice A' (cap (aD n R B)).length c')]) ⟨hv,av⟩ (kc O (bc O O (bM O ?_)));refine Tn O O ?_;refine⟨A',c',rs',?_,fG,(by rw [fM]at hT;exact aA.none.call hT)⟩;show Value.tuple #[_,Value.bool (decide _)]=_;rw [show decide ((((cap (aD n R B)).length:Nat):Int)<=400)=decide ((aD n R B).length<=400) from jJ.2 (by omega)]
def rY(a b:ai)(i:Nat):Nat:=((List.range i).filter fun k:Nat=>decide (gi a k≠gi b k)).length
theorem Xc(a b:ai)(i:Nat):rY a b (i+1)=if gi a i≠gi b i then rY a b i+1 else rY a b i:=by
 unfold rY;rw [lN,sP,cS]
 by_cases c:gi a i≠gi b i
 ·rw [ay c];simp [c]
 rw [aw c];simp [c]
theorem Xb(a b:ai)(i:Nat):rY a b i<=i:=by
 refine nv (rM _ _) ?_;rw [pU];exact bj _
theorem RZ(A A2:aj)(n c m c2:Nat)(a b:ai)(w:aa)(hA:cn w A n a)(hB:cn w A2 m b)(hm:m=n)(hn:n<=1000):
 aG prog 231 [.slice A n c,.slice A2 m c2] w (fun v w'=>v=ak ((rY a b n:Nat):Int)/\St w w' []):=by
 have ha:=hA.1;have hb:=hB.1;refine bA func231 O ntmps231 O (cJ O) (bL O ?_);refine Cd.loop (α:=Nat) (fun i=> [(0,.slice A n c),(1,.slice A2 m c2),(5,ak ((rY a b i:Nat):Int)),(6,ak i)]) (fun i w'=>i<=n/\St w w' []) (fun i=>n - i) 0 (ajs O) ⟨a7 _,St.refl w⟩ ?_;rintro i e w2 ⟨hi,hS⟩;have xF:=Xb a b i;have ot:=Xc a b i;have vP:=hS.gW hA;have eF:=hS.gW hB;refine a8 O (bc O O (aI O ?_));refine aR _ O (fun h2=>?_) (fun h2=>?_)
 ·refine dA O (eY [xS (A) (n) (c),xI ((i:Int)),xP (aJ (A) ((i:Int)).toNat),xI (gi (a) ((i:Int))),xS (A2) (m) (c2),xI ((i:Int)),xP (aJ (A2) ((i:Int)).toNat),xI (gi (b) ((i:Int))),xB (decide (¬(gi (a) ((i:Int)))=(gi (b) ((i:Int)))))] O (fE O) ?_ ?_)
  ·exact⟨Dr O,Dr O,fun _ _ hb _ _=>aM (vP.aq hb).2 O Az,fun _ _ hb _ _=>bk (vP.aq hb) O Az,Dr O,Dr O,fun _ _ hb _ _=>aM (eF.aq hb).2 O Az,fun _ _ hb _ _=>bk (eF.aq hb) O Az,Dr O,av⟩
  intro u w3 iJ _;have aH:=hS.aq iJ;refine fR O (aR _ O (fun h3=>?_) (fun h3=>?_))
  ·rw [ay h3]at ot;refine aE O (aK O (ar O (aK O (aU O (tQ ?_)))));exact⟨i+1,by show n - (i+1)<n - i;omega,⟨O,O,aO (fun m:Nat=>Value.int .i64 (m:Int)) ot.symm,O,av⟩,by omega,aH⟩
  rw [aw h3]at ot;refine aE O (aK O (aU O (tQ ?_)));exact⟨i+1,by show n - (i+1)<n - i;omega,⟨O,O,aO (fun m:Nat=>Value.int .i64 (m:Int)) ot.symm,O,av⟩,by omega,aH⟩
 obtain rfl:i=n:=by omega
 refine bw O (bz (gE O ?_));exact gY O ⟨O,hS⟩
section
variable {n:Nat} {fl:ah} {a b k i:Nat}
end
section
variable {P:Program} {N:Nat} {ops:Array Oper} {K:Env->aa->Prop} {rest:List Oper} {e:Env} {w:aa} {d:Nat} {ty:ae} {pos:String} {af:Array Edge} {x y:ag} {xt yt:ae}
end
instance (R:ai)(i e:Int):Decidable (wU R i e):=by unfold wU;infer_instance
instance (n:Int)(R:ai)(i e:Int):Decidable (wS n R i e):=by unfold wS;infer_instance
end Go.Proofs.YtagdamiiececaaaGreatDoor.Vc
namespace Go.Proofs.YtagdamiiececaaaGreatDoor.Vc.TS
open Go.RowKit Tryz
variable{b p k:Nat}{w0 w:aa}{ks:List Ck}{t:ae}
theorem W5{a m:Nat}(h1:a<m)(h2:m<b){c:Nat}(hc:mA a m b<=c)(lD:c<eK a m b):a<=c/\c<m/\m<=(a+b) / 2+m - 1 - c/\(a+b) / 2+m - 1 - c<b:=by
 unfold mA at hc;unfold eK at lD
 by_cases h:(a+b) / 2<m
 ·rw [ay h]at hc lD;omega
 rw [aw h]at hc lD;omega
theorem adz{a m:Nat}(h1:a<m)(h2:m<b):mA a m b<=eK a m b:=by
 unfold mA eK
 split<;>omega
theorem TZ{A:aj}{n c:Nat}(hn:n<=4000000000000):∀(f a m b:Nat),b - a<=f->a<m->m<b->b<=n->∀(ds:List TV) (w:aa),(∀s∈ds,pk s)->(∀x y,a<=x->x<m->m<=y->y<b->lT (gs ds x)<lT (gs ds y))->SR kT ds a m->SR kT ds m b->St w0 w (dU t A n c ds::ks)->
 aG prog 305 [.slice A n c,ak a,ak m,ak b,.func (.func 263) #[] #[]] w (fun v w'=>v= .tuple #[]/\∃lz,RP ds lz a b/\SR kT lz a b/\St w0 w' (dU t A n c lz::ks)):=by
 intro f
 induction f with
 | zero=>intro a m b h1 h2 h3;omega
 | succ f ih=>
  intro a m b hf Gx D9 DQ ds w hc K6 hA hB hS;have uj:ds.length=n:=(hS.jH 0 O).1;have va:=Pg hc;have vZ:=fun x y h1 h2 h3 h4=>NO (va y) (va x) (K6 x y h1 h2 h3 h4)
  refine bA func305 O ntmps305 O (zJ O) ?_;refine a8 O (dQ O (aI O ?_));refine aR _ O (fun h1=>?_) (fun h1=>?_)
  ·have hm:m=a+1:=by omega
   refine dA O ?_;refine Cd.loop (α:=Nat×Nat) (fun z=> [(0,.slice A n c),(1,ak a),(2,ak m),(3,ak b),(4,.func (.func 263) #[] #[]),(10,ak (z.1:Int)),(11,ak (z.2:Int))])
    (fun z w'=> (m<=z.1/\z.1<=z.2/\z.2<=b)/\(∀x,m<=x->x<z.1->kT (gs ds x)<kT (gs ds a))/\(∀x,z.2<=x->x<b->kT (gs ds a)<=kT (gs ds x))/\St w0 w' (dU t A n c ds::ks)) (fun z=>z.2 - z.1) (m,b) ⟨rfl,rfl,rfl,rfl,rfl,rfl,rfl,av⟩ ⟨⟨bj _,by show m<=b;omega,bj _⟩,fun x h h'=>by omega,fun x h h'=>by omega,hS⟩ ?_
   rintro⟨i,j⟩ e w1 ⟨⟨eK,gU,rh⟩,hL,hR,aA⟩;dsimp only at eK gU rh hL hR aA|-;refine bL O (aR _ O (fun h2=>?_) (fun h2=>?_))
   ·refine aE O (aK O ?_);refine oN O O (vt _ (by omega)) (C3 O O O (by omega) (oN O O (IntWalk.i64_in _ (by omega)) (aI O ?_)));obtain⟨h,hh⟩:∃h:Nat,h=(i+j) / 2:=⟨_,rfl⟩;rw [show((i:Int)+ (j:Int)) / 2=(h:Int) by omega];have de:=aA.jH 0 O;have g1:tg ds h=gs ds h:=O;have g2:tg ds a=gs ds a:=O;refine eY [.ex (.func (.func 263) #[] #[]),xS (A) (n) (c),xI ((h:Int)),xP (aJ (A) (((h:Int)).toNat*3)),.ex ((tg (ds) ((h:Int))).v),xS (A) (n) (c),xI ((a:Int)),xP (aJ (A) (((a:Int)).toNat*3)),.ex ((tg (ds) ((a:Int))).v),xI (qL (gs ds h) (gs ds a)),xB (decide ((qL (gs ds h) (gs ds a))< ((0:Int))))] O (fE O) ?_ ?_
    ·refine⟨Dr O,Dr O,Dr O,fun _ _ hb _ _=>ke (de.aq hb) O Az,fun _ _ hb _ _=>og (de.aq hb) O (by omega) O Az,Dr O,Dr O,fun _ _ hb _ _=>ke (de.aq hb) O Az,fun _ _ hb _ _=>og (de.aq hb) O (by omega) O Az,?_,Dr O,av⟩
     ·intro e1 w1 hb hp a6;refine aL (FK (gs ds h) (gs ds a) _) O ?_;rintro _ w9 ⟨rfl,gO⟩;refine ao.n ?_;exact gz.dn gO.below (by exact O)
    intro u w2 dS _;have aB:=aA.aq dS;refine fR O (aR _ O (fun h3=>?_) (fun h3=>?_))
    ·refine aE O (aK O (aU O (tQ ?_)));refine⟨(h+1,j),by show j - (h+1)<j - i;omega,(ajs O),⟨by show m<=h+1;omega,by show h+1<=j;omega,rh⟩,fun x gI pJ=>?_,hR,aB⟩;have pJ:x<h+1:=pJ;have k1:kT (gs ds x)<=kT (gs ds h):=hB.le gI (by omega) (by omega);have k2:kT (gs ds h)<kT (gs ds a):=(vZ a h (bj _) Gx (by omega) (by omega)).1 h3;omega
    ·refine oc O (tQ ?_);refine⟨(i,h),by show h - i<j - i;omega,(ajs O),⟨eK,by show i<=h;omega,by show h<=b;omega⟩,hL,fun x gI pJ=>?_,aB⟩;have gI:h<=x:=gI;have k1:kT (gs ds h)<=kT (gs ds x):=hB.le (by omega) gI pJ;have k2:kT (gs ds a)<=kT (gs ds h):=Int.not_lt.1 fun h'=>h3 ((vZ a h (bj _) Gx (by omega) (by omega)).2 h')
     omega
   ·have D4:i=j:=by omega
    subst D4;refine bw O (bz (pS O ?_));refine Cd.loop (α:=Nat×List TV) (fun z=> [(0,.slice A n c),(4,.func (.func 263) #[] #[]),(10,ak i),(13,ak (z.1:Int))]) (fun z w'=> (a<=z.1/\z.1<=i - 1)/\RP ds z.2 a b/\uN ds z.2 a z.1/\St w0 w' (dU t A n c z.2::ks)) (fun z=>i - z.1) (a,ds) (ajs O) ⟨⟨bj _,by show a<=i - 1;omega⟩,RP.refl _ _ _,uN.start _ _,aA⟩ ?_;rintro⟨k,cu⟩ e w2 ⟨⟨fK,lh⟩,hp,wg,aB⟩;dsimp only at fK lh hp wg aB|-;have dt:cu.length=n:=(aB.jH 0 O).1;refine a8 O (dQ O (aI O ?_));refine aR _ O (fun h3=>?_) (fun h3=>?_)
    ·have dF:=aB.jH 0 O;have ek:((k:Int)+1).toNat=k+1:=by omega
     have g1:tg cu k=gs cu k:=O;have g2:tg cu ((k:Int)+1)=gs cu (k+1):=by unfold tg gs;rw [ek]
     refine dA O ?_;refine kK [15,17] [yS (A) (n) (c),yI ((k:Int)),yS (A) (n) (c),yI ((k:Int)),yI (((k:Int))+ ((1:Int))),yS (A) (n) (c),yI ((k:Int)),yI (((k:Int))+ ((1:Int))),yP (aJ (A) ((((k:Int))+ ((1:Int))).toNat*3)),.ex ((tg (cu) (((k:Int))+ ((1:Int)))).v),yS (A) (n) (c),yI ((k:Int)),yP (aJ (A) (((k:Int)).toNat*3)),.ex ((tg (cu) ((k:Int))).v),yP (aJ (A) (((k:Int)).toNat*3)),.pr (fun _ w'=>St w0 w' (dU t A n c (cu.set k (gs cu (k+1)))::ks)),yP (aJ (A) ((((k:Int))+ ((1:Int))).toNat*3)),.pr (fun _ w'=>St w0 w' (dU t A n c (swp cu k (k+1))::ks))] (by kernel_rfl) (by kernel_rfl) (ly (ly (ly (ly (ly (ly (ly (ly (ly (ly (ly (ly (ly (ly (ly (cI.2 ⟨Ye.cV (fun v w w' h hb=>h.aq hb),(ly (cI.2 ⟨Ye.cV (fun v w w' h hb=>h.aq hb),(fun _ h=>by cases h)⟩))⟩)))))))))))))))) ?_ ?_
     ·refine⟨bZ O,bZ O,bZ O,bZ O,aP fun _ _=>aK O (bK O O),bZ O,bZ O,aP fun _ _=>aK O (bK O O),cP fun _ _ hb _ _ _=>ke (dF.aq hb) O (bK O O),cP fun _ _ hb _ _ _=>og (dF.aq hb) O (by omega) O (bK O O),bZ O,bZ O,cP fun _ _ hb _ _ _=>ke (dF.aq hb) O (bK O O),cP fun _ _ hb _ _ _=>og (dF.aq hb) O (by omega) O (bK O O),cP fun _ _ hb _ _ _=>ke (dF.aq hb) O (bK O O),?_,?_,?_,av⟩
      ·refine kQ fun e1 w1 hb hp a6 hq=>?_
       exact wX 0 (aB.aq hb) O O O (by omega) fun w6 ba=>ao.n (fQ.st O (yj (i:=(k:Int)) O g2 ba))
      ·refine dP 1 fun e1 w1 hp a6 hq=>?_
       have eP:=hp 15 _ _ (by kernel_rfl) O O (by kernel_rfl);have iI:=eP.jH 0 O;have wc:(cu.set k (gs cu (k+1))).length=n:=by rw [lp];exact dt
       refine ke (iI) O (ao.n (ig O (by exact O)))
      ·refine qM 1 fun e1 w1 hp a6 hq=>?_
       have eP:=hp 15 _ _ (by kernel_rfl) O O (by kernel_rfl);have iI:=eP.jH 0 O;have wc:(cu.set k (gs cu (k+1))).length=n:=by rw [lp];exact dt
       exact wX 0 eP O O O (by omega) fun w7 bG=>ao.n (fQ.st O (yj ek g1 bG))
     intro u w5 _ hu _ _;have aW:=hu 17 _ O (by kernel_rfl);refine kc O (aK O (aU O (tQ ?_)));exact⟨(k+1,swp cu k (k+1)),by show i - (k+1)<i - k;omega,(ajs O),⟨by show a<=k+1;omega,by show k+1<=i - 1;omega⟩,hp.trans (Mr (by omega) (by omega) fK (by omega) (by omega) (by omega)) (bj _) (bj _),wg.next fK (by omega),aW⟩
    ·have BW:k=i - 1:=by omega
     subst BW;refine bw O (bz (gE O ?_));exact L8 ⟨O,cu,hp,wg.sorted (hm▸hB) (by omega) rh (fun x h4 h5=>Int.le_of_lt (hL x (by omega) h5)) hR,aB⟩
  refine aE O (dQ O (aI O ?_));refine aR _ O (fun h2=>?_) (fun h2=>?_)
  ·have dd:b=m+1:=by omega
   refine dA O ?_;refine Cd.loop (α:=Nat×Nat) (fun z=> [(0,.slice A n c),(1,ak a),(2,ak m),(3,ak b),(4,.func (.func 263) #[] #[]),(14,ak (z.1:Int)),(15,ak (z.2:Int))])
    (fun z w'=> (a<=z.1/\z.1<=z.2/\z.2<=m)/\(∀x,a<=x->x<z.1->kT (gs ds x)<=kT (gs ds m))/\(∀x,z.2<=x->x<m->kT (gs ds m)<=kT (gs ds x))/\St w0 w' (dU t A n c ds::ks)) (fun z=>z.2 - z.1) (a,m) ⟨rfl,rfl,rfl,rfl,rfl,rfl,rfl,av⟩ ⟨⟨bj _,by show a<=m;omega,bj _⟩,fun x h h'=>by omega,fun x h h'=>by omega,hS⟩ ?_
   rintro⟨i,j⟩ e w1 ⟨⟨eK,gU,rh⟩,hL,hR,aA⟩;dsimp only at eK gU rh hL hR aA|-;refine bL O (aR _ O (fun h3=>?_) (fun h3=>?_))
   ·refine aE O (aK O ?_);refine oN O O (vt _ (by omega)) (C3 O O O (by omega) (oN O O (IntWalk.i64_in _ (by omega)) (aI O ?_)));obtain⟨h,hh⟩:∃h:Nat,h=(i+j) / 2:=⟨_,rfl⟩;rw [show((i:Int)+ (j:Int)) / 2=(h:Int) by omega];have de:=aA.jH 0 O;have g1:tg ds h=gs ds h:=O;have g2:tg ds m=gs ds m:=O;refine eY [.ex (.func (.func 263) #[] #[]),xS (A) (n) (c),xI ((m:Int)),xP (aJ (A) (((m:Int)).toNat*3)),.ex ((tg (ds) ((m:Int))).v),xS (A) (n) (c),xI ((h:Int)),xP (aJ (A) (((h:Int)).toNat*3)),.ex ((tg (ds) ((h:Int))).v),xI (qL (gs ds m) (gs ds h)),xB (decide ((qL (gs ds m) (gs ds h))< ((0:Int)))),xB (decide (¬((qL (gs ds m) (gs ds h))< ((0:Int)))))] O (fE O) ?_ ?_
    ·refine⟨Dr O,Dr O,Dr O,fun _ _ hb _ _=>ke (de.aq hb) O Az,fun _ _ hb _ _=>og (de.aq hb) O (by omega) O Az,Dr O,Dr O,fun _ _ hb _ _=>ke (de.aq hb) O Az,fun _ _ hb _ _=>og (de.aq hb) O (by omega) O Az,?_,Dr O,fun _ _ _ _ _=>eA O O Az,av⟩
     ·intro e1 w1 hb hp a6;refine aL (FK (gs ds m) (gs ds h) _) O ?_;rintro _ w9 ⟨rfl,gO⟩;refine ao.n ?_;exact gz.dn gO.below (by exact O)
    intro u w2 dS _;have aB:=aA.aq dS;refine fR O (aR _ O (fun h4=>?_) (fun h4=>?_))
    ·refine aE O (aK O (aU O (tQ ?_)));refine⟨(h+1,j),by show j - (h+1)<j - i;omega,(ajs O),⟨by show a<=h+1;omega,by show h+1<=j;omega,rh⟩,fun x gI pJ=>?_,hR,aB⟩;have pJ:x<h+1:=pJ;have k1:kT (gs ds x)<=kT (gs ds h):=hA.le gI (by omega) (by omega);have k2:kT (gs ds h)<=kT (gs ds m):=Int.not_lt.1 fun h'=>h4 ((vZ h m (by omega) (by omega) (bj _) D9).2 h')
     omega
    ·refine oc O (tQ ?_);refine⟨(i,h),by show h - i<j - i;omega,(ajs O),⟨eK,by show i<=h;omega,by show h<=m;omega⟩,hL,fun x gI pJ=>?_,aB⟩;have gI:h<=x:=gI;have k1:kT (gs ds h)<=kT (gs ds x):=hA.le (by omega) gI pJ;have k2:kT (gs ds m)<=kT (gs ds h):=Int.le_of_lt ((vZ h m (by omega) (by omega) (bj _) D9).1 (iy.1 h4));omega
   ·have D4:i=j:=by omega
    subst D4;refine bw O (bz (pS O ?_));refine Cd.loop (α:=Nat×List TV) (fun z=> [(0,.slice A n c),(4,.func (.func 263) #[] #[]),(14,ak i),(17,ak (z.1:Int))]) (fun z w'=> (i<=z.1/\z.1<=m)/\RP ds z.2 a b/\uM ds z.2 m z.1/\St w0 w' (dU t A n c z.2::ks)) (fun z=>z.1) (m,ds) (ajs O) ⟨⟨rh,bj _⟩,RP.refl _ _ _,uM.start _ _,aA⟩ ?_;rintro⟨k,cu⟩ e w2 ⟨⟨fK,lh⟩,hp,wg,aB⟩;dsimp only at fK lh hp wg aB|-;have dt:cu.length=n:=(aB.jH 0 O).1;refine bL O (aR _ O (fun h4=>?_) (fun h4=>?_))
    ·have dF:=aB.jH 0 O;have ek:((k:Int) - 1).toNat=k - 1:=by omega
     have g1:tg cu k=gs cu k:=O;have g2:tg cu ((k:Int) - 1)=gs cu (k - 1):=by unfold tg gs;rw [ek]
     refine dA O ?_;refine kK [15,17] [yS (A) (n) (c),yI ((k:Int)),yS (A) (n) (c),yI ((k:Int)),yI (((k:Int)) - ((1:Int))),yS (A) (n) (c),yI ((k:Int)),yI (((k:Int)) - ((1:Int))),yP (aJ (A) ((((k:Int)) - ((1:Int))).toNat*3)),.ex ((tg (cu) (((k:Int)) - ((1:Int)))).v),yS (A) (n) (c),yI ((k:Int)),yP (aJ (A) (((k:Int)).toNat*3)),.ex ((tg (cu) ((k:Int))).v),yP (aJ (A) (((k:Int)).toNat*3)),.pr (fun _ w'=>St w0 w' (dU t A n c (cu.set k (gs cu (k - 1)))::ks)),yP (aJ (A) ((((k:Int)) - ((1:Int))).toNat*3)),.pr (fun _ w'=>St w0 w' (dU t A n c (swp cu k (k - 1))::ks))] (by kernel_rfl) (by kernel_rfl) (ly (ly (ly (ly (ly (ly (ly (ly (ly (ly (ly (ly (ly (ly (ly (cI.2 ⟨Ye.cV (fun v w w' h hb=>h.aq hb),(ly (cI.2 ⟨Ye.cV (fun v w w' h hb=>h.aq hb),(fun _ h=>by cases h)⟩))⟩)))))))))))))))) ?_ ?_
     ·refine⟨bZ O,bZ O,bZ O,bZ O,aP fun _ _=>dQ O (bK O O),bZ O,bZ O,aP fun _ _=>dQ O (bK O O),cP fun _ _ hb _ _ _=>ke (dF.aq hb) O (bK O O),cP fun _ _ hb _ _ _=>og (dF.aq hb) O (by omega) O (bK O O),bZ O,bZ O,cP fun _ _ hb _ _ _=>ke (dF.aq hb) O (bK O O),cP fun _ _ hb _ _ _=>og (dF.aq hb) O (by omega) O (bK O O),cP fun _ _ hb _ _ _=>ke (dF.aq hb) O (bK O O),?_,?_,?_,av⟩
      ·refine kQ fun e1 w1 hb hp a6 hq=>?_
       exact wX 0 (aB.aq hb) O O O (by omega) fun w6 ba=>ao.n (fQ.st O (yj (i:=(k:Int)) O g2 ba))
      ·refine dP 1 fun e1 w1 hp a6 hq=>?_
       have eP:=hp 15 _ _ (by kernel_rfl) O O (by kernel_rfl);have iI:=eP.jH 0 O;have wc:(cu.set k (gs cu (k - 1))).length=n:=by rw [lp];exact dt
       refine ke (iI) O (ao.n (ig O (by exact O)))
      ·refine qM 1 fun e1 w1 hp a6 hq=>?_
       have eP:=hp 15 _ _ (by kernel_rfl) O O (by kernel_rfl);have iI:=eP.jH 0 O;have wc:(cu.set k (gs cu (k - 1))).length=n:=by rw [lp];exact dt
       exact wX 0 eP O O O (by omega) fun w7 bG=>ao.n (fQ.st O (yj ek g1 bG))
     intro u w5 _ hu _ _;have aW:=hu 17 _ O (by kernel_rfl);refine kc O (dQ O (aU O (tQ ?_)));exact⟨(k - 1,swp cu k (k - 1)),by show k - 1<k;omega,⟨O,O,O,by show Value.int .i64 _=ak _;congr 1;omega,av⟩,⟨by show i<=k - 1;omega,by show k - 1<=m;omega⟩,hp.trans (Mr (by omega) (by omega) (by omega) (by omega) (by omega) (by omega)) (bj _) (bj _),wg.next (by omega) lh (by omega),aW⟩
    ·have BW:k=i:=by omega
     subst BW;refine bw O (bz (gE O ?_));exact L8 ⟨O,cu,hp,dd▸wg.sorted hA eK rh hL hR,aB⟩
  have h1:a+1<m:=by omega
  have h2:m+1<b:=by omega
  refine aE O (aK O ?_);refine oN O O (vt _ (by omega)) (C3 O O O (by omega) (oN O O (IntWalk.i64_in _ (by omega)) ?_));obtain⟨mid,o5⟩:∃h:Nat,h=(a+b) / 2:=⟨_,rfl⟩;rw [show((a:Int)+ (b:Int)) / 2=(mid:Int) by omega];have rr:2*mid<=a+b/\a+b<=2*mid+1:=by omega
  have KM:=adz Gx D9;have hh0:eK a m b<=m:=by unfold eK;split<;>omega
  have Hc:=fun c=>W5 Gx D9 (c:=c)
  rw [<-o5]at Hc;refine ar O (aK O (CS 2 O ?_));refine tG (α:=Unit) (fun _=> [(0,.slice A n c),(1,ak a),(2,ak m),(3,ak b),(4,.func (.func 263) #[] #[]),(18,ak mid),(19,ak ((mid:Int)+ (m:Int))),(20,ak ((mA a m b:Nat):Int)),(21,ak ((eK a m b:Nat):Int))]) (fun _ w'=>w'=w) ?_ ?_
  ·refine bL O (aR _ O (fun h3=>?_) (fun h3=>?_))
   ·have e1:mA a m b=mid+m - b:=by unfold mA;rw [if_pos (by omega),<-o5]
    have e2:eK a m b=mid:=by unfold eK;rw [if_pos (by omega),<-o5]
    rw [e1,e2];refine aE O (dQ O (aU O (tQ ?_)));exact⟨(),⟨O,O,O,O,O,O,O,by show Value.int .i64 ((mid:Int)+ (m:Int) - (b:Int))=ak ((mid+m - b:Nat):Int);congr 1;omega,O,av⟩,O⟩
   ·have e1:mA a m b=a:=by unfold mA;rw [if_neg (by omega)]
    have e2:eK a m b=m:=by unfold eK;rw [if_neg (by omega)]
    rw [e1,e2];refine oc O (tQ ?_);exact⟨(),(ajs O),O⟩
  rintro _ e w1 rfl;refine aE O (dQ O (aI O ?_));refine Cd.loop (α:=Nat×Nat) (fun z=> [(0,.slice A n c),(1,ak a),(2,ak m),(3,ak b),(4,.func (.func 263) #[] #[]),(18,ak mid),(19,ak ((mid:Int)+ (m:Int))),(20,ak (z.1:Int)),(21,ak (z.2:Int)),(22,ak ((mid:Int)+ (m:Int) - 1))])
   (fun z w'=> (mA a m b<=z.1/\z.1<=z.2/\z.2<=eK a m b)/\(∀x,mA a m b<=x->x<z.1->kT (gs ds x)<=kT (gs ds (mid+m - 1 - x)))/\(∀x,z.2<=x->x<eK a m b->kT (gs ds (mid+m - 1 - x))<kT (gs ds x))/\St w0 w' (dU t A n c ds::ks)) (fun z=>z.2 - z.1) (mA a m b,eK a m b) ⟨rfl,rfl,rfl,rfl,rfl,rfl,rfl,rfl,rfl,rfl,av⟩ ⟨⟨bj _,KM,bj _⟩,fun x h h'=>by omega,fun x h h'=>by omega,hS⟩ ?_
  rintro⟨i,j⟩ e w2 ⟨⟨D2,gU,rh⟩,hL,hR,aA⟩;dsimp only at D2 gU rh hL hR aA|-;refine bL O (aR _ O (fun h3=>?_) (fun h3=>?_))
  ·refine aE O (aK O ?_);refine oN O O (vt _ (by omega)) (C3 O O O (by omega) (oN O O (IntWalk.i64_in _ (by omega)) (aI O ?_)));obtain⟨h,hh⟩:∃h:Nat,h=(i+j) / 2:=⟨_,rfl⟩;rw [show((i:Int)+ (j:Int)) / 2=(h:Int) by omega];have ng:=Hc h (by omega) (by omega);have de:=aA.jH 0 O;have ep:((mid:Int)+ (m:Int) - 1 - (h:Int)).toNat=mid+m - 1 - h:=by omega
   have g1:tg ds h=gs ds h:=O;have g2:tg ds ((mid:Int)+ (m:Int) - 1 - (h:Int))=gs ds (mid+m - 1 - h):=by unfold tg gs;rw [ep]
   refine eY [.ex (.func (.func 263) #[] #[]),xS (A) (n) (c),xI (((mid:Int)+ (m:Int) - 1)),xI ((h:Int)),xI ((((mid:Int)+ (m:Int) - 1)) - ((h:Int))),xP (aJ (A) (((((mid:Int)+ (m:Int) - 1)) - ((h:Int))).toNat*3)),.ex ((tg (ds) ((((mid:Int)+ (m:Int) - 1)) - ((h:Int)))).v),xS (A) (n) (c),xI ((h:Int)),xP (aJ (A) (((h:Int)).toNat*3)),.ex ((tg (ds) ((h:Int))).v),xI (qL (gs ds (mid+m - 1 - h)) (gs ds h)),xB (decide ((qL (gs ds (mid+m - 1 - h)) (gs ds h))< ((0:Int)))),xB (decide (¬((qL (gs ds (mid+m - 1 - h)) (gs ds h))< ((0:Int)))))] O (fE O) ?_ ?_
   ·refine⟨Dr O,Dr O,Dr O,Dr O,fun _ _ _ _ _=>dQ O Az,fun _ _ hb _ _=>ke (de.aq hb) O Az,fun _ _ hb _ _=>og (de.aq hb) O (by omega) O Az,Dr O,Dr O,fun _ _ hb _ _=>ke (de.aq hb) O Az,fun _ _ hb _ _=>og (de.aq hb) O (by omega) O Az,?_,Dr O,fun _ _ _ _ _=>eA O O Az,av⟩
    ·intro e1 w1 hb hp a6;refine ajj (FK (gs ds (mid+m - 1 - h)) (gs ds h) _) O (by rw [<-g2];rfl) O ?_;rintro _ w9 ⟨rfl,gO⟩;refine ao.n ?_;exact gz.dn gO.below (by exact O)
   intro u w3 iJ _;have aB:=aA.aq iJ;refine fR O (aR _ O (fun h4=>?_) (fun h4=>?_))
   ·refine aE O (aK O (aU O (tQ ?_)));refine⟨(h+1,j),by show j - (h+1)<j - i;omega,(ajs O),⟨by show mA a m b<=h+1;omega,by show h+1<=j;omega,rh⟩,fun x gI pJ=>?_,hR,aB⟩;have pJ:x<h+1:=pJ;have pF:=Hc x gI (by omega);have k1:kT (gs ds x)<=kT (gs ds h):=hA.le (by omega) (by omega) (by omega);have k2:kT (gs ds h)<=kT (gs ds (mid+m - 1 - h)):=Int.not_lt.1 fun h'=>h4 ((vZ h (mid+m - 1 - h) ng.1 ng.2.1 ng.2.2.1 ng.2.2.2).2 h')
    have k3:kT (gs ds (mid+m - 1 - h))<=kT (gs ds (mid+m - 1 - x)):=hB.le (by omega) (by omega) (by omega);omega
   ·refine oc O (tQ ?_);refine⟨(i,h),by show h - i<j - i;omega,(ajs O),⟨D2,by show i<=h;omega,by show h<=eK a m b;omega⟩,hL,fun x gI pJ=>?_,aB⟩;have gI:h<=x:=gI;have pF:=Hc x (by omega) pJ;have k1:kT (gs ds h)<=kT (gs ds x):=hA.le (by omega) (by omega) (by omega);have k2:kT (gs ds (mid+m - 1 - h))<kT (gs ds h):=(vZ h (mid+m - 1 - h) ng.1 ng.2.1 ng.2.2.1 ng.2.2.2).1 (iy.1 h4);have k3:kT (gs ds (mid+m - 1 - x))<=kT (gs ds (mid+m - 1 - h)):=hB.le (by omega) (by omega) (by omega);omega
  have D4:i=j:=by omega
  subst D4;have tc:Ij kT ds a m b i:=⟨D2,rh,by rw [<-o5];exact hL,by rw [<-o5];exact hR⟩;have Re:=fun l1=>W1 (l1:=l1) h1 h2 hA hB tc
  rw [<-o5]at Re;have b1:a<=i:=by have:=D2;unfold mA at this;split at this<;>omega
  have b2:i<=mid:=by have:=rh;unfold eK at this;split at this<;>omega
  have b3:i<=m:=by have:=rh;unfold eK at this;split at this<;>omega
  have b4:mid+m - i<=b:=by have:=D2;unfold mA at this;split at this<;>omega
  refine bw O (bz (dh O (dQ O (CS 0 O ?_))));refine tG (α:=List TV) (fun _=> [(0,.slice A n c),(1,ak a),(3,ak b),(4,.func (.func 263) #[] #[]),(18,ak mid),(20,ak i),(24,ak ((mid+m - i:Nat):Int))]) (fun l1 w'=>tN ds l1 i m (mid+m - i)/\RP ds l1 a b/\St w0 w' (dU t A n c l1::ks)) ?_ ?_
  ·have Xo:((mid:Int)+ (m:Int) - (i:Int))=((mid+m - i:Nat):Int):=by omega
   rw [Xo];refine a8 O (dp 181 O (fun h4=>?_) (fun h4=>?_))
   ·refine ax O (ar O (ax O (ar O (ax O (aI O ?_)))));refine aR _ O (fun h5=>?_) (fun h5=>?_)
    ·obtain⟨P,X,Y,S,y7,lP,lX,lY⟩:∃P X Y S:List TV,ds=P++ (X++ (Y++S))/\P.length=i/\X.length=m - i/\Y.length=mid - i:=by
      refine⟨ds.take i,(ds.drop i).take (m - i),(ds.drop m).take (mid - i),(ds.drop m).drop (mid - i),?_,by simp;omega,by simp;omega,by simp;omega⟩;rw [List.take_append_drop,show ds.drop m=(ds.drop i).drop (m - i) by rw [List.drop_drop];congr 1;omega,List.take_append_drop,List.take_append_drop]
     have Rf:tN ds (P++ (Y++ (X++S))) i m (mid+m - i):=by
      have:=tN.of P X Y S;rw [<-y7,lP,lX,lY]at this
      rwa [show i+ (m - i)=m by omega,show m+ (mid - i)=mid+m - i by omega]at this
     rw [y7]at aA;refine aE O (aL (afY (P:=P) (X:=X) (Y:=Y) (S:=S) i m (mid+m - i) lP (by omega) (by omega) (by omega) (by omega) hn aA) O ?_);rintro _ w4 ⟨rfl,aV⟩;refine aU O (tQ ?_);exact⟨P++ (Y++ (X++S)),(ajs O),Rf,⟨by rw [y7];exact afX P X Y S,fun x hx=>Rf.out x (by omega)⟩,aV⟩
    ·refine oc O (tQ ?_);exact⟨ds,(ajs O),tN.same ds (by omega) (by omega) (by omega),RP.refl _ _ _,aA⟩
   ·refine aQ O (aQ O (aQ O (aI O ?_)));refine Cd.gh O (oc O (tQ ?_));exact⟨ds,(ajs O),tN.same ds (by omega) (by omega) (by omega),RP.refl _ _ _,aA⟩
  rintro l1 e w4 ⟨hr,Ec,aV⟩;obtain⟨_,s1,s2,s3,s4,hx⟩:=Re l1 hr;have nP:=Ec.len;refine tG (α:=List TV) (fun _=> [(0,.slice A n c),(3,ak b),(4,.func (.func 263) #[] #[]),(18,ak mid),(24,ak ((mid+m - i:Nat):Int))]) (fun l2 w'=>RP l1 l2 a mid/\SR kT l2 a mid/\St w0 w' (dU t A n c l2::ks)) ?_ ?_
  ·refine a8 O (dp 195 O (fun h4=>?_) (fun h4=>?_))
   ·refine ax O (ar O (ax O (ar O (ax O (aI O ?_)))));refine aR _ O (fun h5=>?_) (fun h5=>?_)
    ·refine aE O ?_;refine aL (ih a i mid (by omega) (by omega) (by omega) (by omega) l1 _ (Ec.cap hc) (fun x y q1 q2 q3 q4=>by { rw [hr.out x (.inl q2),hr.left y q3 (by omega)];exact K6 x (y+ (m - i)) q1 (by omega) (by omega) (by omega) }) s1 s2 aV) O ?_;rintro _ w5 ⟨rfl,l2,jj,nS,aW⟩;refine aU O (tQ ?_);exact⟨l2,(ajs O),jj,nS,aW⟩
    ·have zd:i=mid:=by omega
     refine oc O (tQ ?_);exact⟨l1,(ajs O),RP.refl _ _ _,zd▸s1,aV⟩
   ·have zd:a=i:=by omega
    refine aQ O (aQ O (aQ O (aI O ?_)));refine Cd.gh O (oc O (tQ ?_));exact⟨l1,(ajs O),RP.refl _ _ _,zd▸s2,aV⟩
  rintro l2 e w5 ⟨jj,nS,aW⟩;have th:=jj.len;have t3:SR kT l2 mid (mid+m - i):=s3.congr fun x h h'=>jj.out x (.inr h)
  have t4:SR kT l2 (mid+m - i) b:=s4.congr fun x h h'=>jj.out x (.inr (by omega))
  have mW:∀l3,RP l2 l3 mid b->SR kT l3 mid b->RP ds l3 a b/\SR kT l3 a b:=fun l3 pD K5=>
   ⟨(Ec.trans jj (bj _) (by omega)).trans pD (by omega) (bj _),W3 (by omega) (by omega) (by omega) hx jj nS pD K5⟩
  refine aE O (dp 209 O (fun h4=>?_) (fun h4=>?_))
  ·refine ax O (ar O (ax O (ar O (ax O (aI O ?_)))));refine aR _ O (fun h5=>?_) (fun h5=>?_)
   ·refine aE O ?_;refine aL (ih mid (mid+m - i) b (by omega) (by omega) (by omega) DQ l2 _ (jj.cap (Ec.cap hc)) (fun x y q1 q2 q3 q4=>by { rw [jj.out x (.inr q1),jj.out y (.inr (by omega)),hr.right x (by omega) q2,hr.out y (.inr q3)];exact K6 (x - (mid+m - i - m)) y (by omega) (by omega) (by omega) q4 }) t3 t4 aW) O ?_;rintro _ w6 ⟨rfl,l3,pD,K5,ba⟩;have:=mW l3 pD K5;refine aU O (wI ?_);exact⟨O,l3,this.1,this.2,ba⟩
   ·have zd:mid+m - i=b:=by omega
    have:=mW l2 (RP.refl _ _ _) (zd▸t3);refine oc O (wI ?_);exact⟨O,l2,this.1,this.2,aW⟩
  ·have zd:mid=mid+m - i:=by omega
   have:=mW l2 (RP.refl _ _ _) (zd▸t4);refine aQ O (aQ O (aQ O (aI O ?_)));refine Cd.gh O (oc O (wI ?_));exact⟨O,l2,this.1,this.2,aW⟩
def yu(l:List TV)(n p:Nat):Prop:=∀x y,x<p->p<=y->y<n->lT (gs l x)<lT (gs l y)
theorem yu.out{l l':List TV}{n a:Nat}(h:yu l n p)(hp:RP l l' a b)(hb:b<=l.length)(hn:b<=n)(hs:p<=a\/b<=p):yu l' n p:=fun x y hx hy hyn=>by
 have fx:∃x',gs l' x=gs l x'/\x'<p:=by
  by_cases e:a<=x/\x<b
  ·obtain⟨j,h1,h2,h3⟩:=hp.from hb e.1 e.2;exact⟨j,h3,by omega⟩
  exact⟨x,hp.out x (by omega),hx⟩
 have fy:∃y',gs l' y=gs l y'/\p<=y'/\y'<n:=by
  by_cases e:a<=y/\y<b
  ·obtain⟨j,h1,h2,h3⟩:=hp.from hb e.1 e.2;exact⟨j,h3,by omega,by omega⟩
  exact⟨y,hp.out y (by omega),hy,hyn⟩
 obtain⟨x',e1,h1⟩:=fx;obtain⟨y',e2,h2,h3⟩:=fy;rw [e1,e2];exact h x' y' h1 h2 h3
theorem Ss{a:Nat}(ha:a=k*p)(hq:(k+1)*p=a+p)(j:Nat):j*p<=a\/a+p<=j*p:=by
 rcases Nat.lt_or_ge k j with h | h
 ·right;rw [<-hq];exact Nat.mul_le_mul_right p h
 left;rw [ha];exact Nat.mul_le_mul_right p h
theorem aea{a n:Nat}(ha:a=k*p)(hq:(k+1)*p=a+p)(hn:n<=a+p)(j:Nat):j*p<=a\/n<=j*p:=by
 rcases Ss ha hq j with h | h
 ·exact .inl h
 exact .inr (by omega)
theorem agP{A:aj}{n c:Nat}{ds:List TV}(hn:n<=1000000000000)(hc:∀s∈ds,pk s)(wj:∀x y,x<y->y<n->lT (gs ds x)<lT (gs ds y))(hS:St w0 w (dU t A n c ds::ks)):
 aG prog 290 [.slice A n c,ak n,.func (.func 263) #[] #[]] w (fun v w'=>v= .tuple #[]/\∃lz,lz.Perm ds/\SR kT lz 0 n/\St w0 w' (dU t A n c lz::ks)):=by
 have uj:ds.length=n:=(hS.jH 0 O).1;refine bA func290 O ntmps290 O (zJ O) (bL O ?_);refine Cd.loop (α:=Nat×List TV) (fun z=> [(0,.slice A n c),(1,ak n),(2,.func (.func 263) #[] #[]),(6,ak 20),(7,ak ((z.1*20:Nat):Int)),(8,ak ((z.1*20+20:Nat):Int))]) (fun z w'=>z.1*20<=n/\z.2.Perm ds/\(∀x,z.1*20<=x->gs z.2 x=gs ds x)/\(∀k,yu z.2 n (k*20))/\vy kT z.2 n 20 0 (z.1*20)/\St w0 w' (dU t A n c z.2::ks)) (fun z=>n - z.1*20) (0,ds) (ajs O) ⟨by omega,List.Perm.refl _,fun _ _=>O,fun k x y h1 h2 h3=>wj x y (Nat.lt_of_lt_of_le h1 h2) h3,fun k h h'=>by omega,hS⟩ ?_;rintro⟨k,cu⟩ e w1 ⟨hk,hp,a6,tc,hB,aA⟩;dsimp only at hk hp a6 tc hB aA|-;have hcul:cu.length=n:=by rw [hp.length_eq];exact uj
 have DT:∀s∈cu,pk s:=fun s hs=>hc s (hp.mem_iff.1 hs)
 have sep:∀(j:Nat),j*20<k*20->min (j*20+20) n<=k*20:=fun j hj=>by omega
 refine bL O (aR _ O (fun h1=>?_) (fun h1=>?_))
 ·refine aE O ?_;refine aL (RJ (k*20) (k*20+20) (by omega) hk (by omega) DT (fun x y h2 h3 h4=>by rw [a6 x h2,a6 y (by omega)];exact wj x y h3 (by omega)) aA) O ?_;rintro _ w2 ⟨rfl,FO,jj,nS,aB⟩;refine ar O (aK O (aU O (tQ ?_)));refine⟨(k+1,FO),by show n - (k+1)*20<n - k*20;omega,⟨O,O,O,O,by show Value.int .i64 ((k*20+20:Nat):Int)=ak (((k+1)*20:Nat):Int);congr 1;omega,by show Value.int .i64 (((k*20+20:Nat):Int)+20)=ak (((k+1)*20+20:Nat):Int);congr 1;omega,av⟩,by show(k+1)*20<=n;omega,jj.perm.trans hp,fun x hx=>by { have hx:(k+1)*20<=x:=hx;rw [jj.out x (.inr (by omega)),a6 x (by omega)] },fun j=> (tc j).out jj (by omega) (by omega) (by omega),fun j hj mY=>?_,aB⟩;have mY:j*20< (k+1)*20:=mY
  by_cases e:j=k
  ·subst e;rw [Nat.min_eq_left (by omega)];exact nS
  exact(hB j hj (by omega)).congr fun x h h'=>jj.out x (.inl (by omega))
 refine bw O (bz (dh O ?_));refine aL (RJ (k*20) n (bj _) hk (by omega) DT (fun x y h2 h3 h4=>by rw [a6 x h2,a6 y (by omega)];exact wj x y h3 h4) aA) O ?_;rintro _ w2 ⟨rfl,FO,jj,nS,aB⟩;have eF:vy kT FO n 20 0 n:=fun j hj mY=>by
  by_cases e:j=k
  ·subst e;rw [Nat.min_eq_right (by omega)];exact nS
  exact(hB j hj (by omega)).congr fun x h h'=>jj.out x (.inl (by omega))
 refine aI O ?_;refine Cd.loop (α:=Nat×List TV) (fun z=> [(0,.slice A n c),(1,ak n),(2,.func (.func 263) #[] #[]),(6,ak (z.1:Int))]) (fun z w'=> (0<z.1/\z.1<=2*n+20)/\z.2.Perm ds/\(∀k,yu z.2 n (k*z.1))/\vy kT z.2 n z.1 0 n/\St w0 w' (dU t A n c z.2::ks)) (fun z=>2*n+20 - z.1) (20,FO) (ajs O) ⟨⟨by show 0<20;omega,by show 20<=2*n+20;omega⟩,jj.perm.trans hp,fun j=> (tc j).out jj (by omega) (bj _) (by show j*20<=k*20\/n<=j*20;omega),eF,aB⟩ ?_;rintro⟨s,c3⟩ e w3 ⟨⟨o9,K8⟩,pD,Ko,iH,aH⟩;dsimp only at o9 K8 pD Ko iH aH|-;refine bL O (aR _ O (fun h2=>?_) (fun h2=>?_))
 ·refine aE O (po O O O (by omega) (aI O ?_));obtain⟨p,hp⟩:∃p:Nat,p=2*s:=⟨_,rfl⟩;have GF:((2:Int)* (s:Int))=(p:Int):=by omega
  rw [GF];refine Cd.loop (α:=Nat×Nat×List TV) (fun z=> [(0,.slice A n c),(1,ak n),(2,.func (.func 263) #[] #[]),(6,ak s),(7,ak (z.2.1:Int)),(8,ak ((z.2.1+p:Nat):Int))]) (fun z w'=>z.2.1=z.1*p/\z.2.1<=n/\z.2.2.Perm ds/\(∀k,yu z.2.2 n (k*p))/\(∀k,z.2.1<=k*s->yu z.2.2 n (k*s))/\vy kT z.2.2 n p 0 z.2.1/\vy kT z.2.2 n s z.2.1 n/\St w0 w' (dU t A n c z.2.2::ks)) (fun z=>n - z.2.1) (0,0,c3) ⟨O,O,O,O,O,by show Value.int .i64 (p:Int)=ak ((0+p:Nat):Int);rw [Nat.zero_add],av⟩ ⟨(Nat.zero_mul p).symm,a7 _,pD,fun k=>by { have:=Ko (2*k);rwa [show 2*k*s=k*p by rw [hp,Nat.mul_comm 2 k,Nat.mul_assoc]]at this },fun k _=>Ko k,fun k h h'=>absurd h' (sQ _),iH,aH⟩ ?_;rintro⟨k,a,c4⟩ e w4 ⟨ha,vV,sk,GG,GH,JY,Gj,aV⟩;dsimp only at ha vV sk GG GH JY Gj aV|-;have hc4l:c4.length=n:=by rw [sk.length_eq];exact uj
  have P9:∀s∈c4,pk s:=fun s hs=>hc s (sk.mem_iff.1 hs)
  have q1:2*k*s=a:=by rw [ha,hp,Nat.mul_comm 2 k,Nat.mul_assoc]
  have q2:(2*k+1)*s=a+s:=by rw [Nat.succ_mul,q1]
  have q3:(k+1)*p=a+p:=by rw [Nat.succ_mul,ha]
  have Bm:a<n->SR kT c4 a (min (a+s) n):=fun h=>by
   have:=Gj (2*k) (by rw [q1];exact bj _) (by rw [q1];exact h)
   rwa [q1]at this
  have vP:a+s<n->SR kT c4 (a+s) (min (a+s+s) n):=fun h=>by
   have:=Gj (2*k+1) (by rw [q2];omega) (by rw [q2];exact h)
   rwa [q2]at this
  refine bL O (aR _ O (fun h3=>?_) (fun h3=>?_))
  ·have qa:a+p<=n:=by omega
   have m1:=Bm (by omega);have m2:=vP (by omega);rw [Nat.min_eq_left (by omega)]at m1 m2;rw [show a+s+s=a+p by omega]at m2;refine aE O (aK O (ar O ?_));refine aL (TZ (by omega) p a (a+s) (a+p) (by omega) (by omega) (by omega) qa c4 _ P9 (fun x y h4 h5 h6 h7=>by { have h8:=GH (2*k+1) (by rw [q2];omega);rw [q2]at h8;exact h8 x y h5 h6 (by omega) }) m1 m2 aV) O ?_;rintro _ w5 ⟨rfl,c5,um,Ej,aW⟩;refine ar O (po O O O (by omega) (aK O (aU O (tQ ?_))));refine⟨(k+1,a+p,c5),by show n - (a+p)<n - a;omega,⟨O,O,O,O,O,by show Value.int .i64 (((a+p:Nat):Int)+ (2:Int)* (s:Int))=ak ((a+p+p:Nat):Int);congr 1;omega,av⟩,q3.symm,qa,um.perm.trans sk,fun j=> (GG j).out um (by omega) qa (Ss ha q3 j),fun j hj=> (GH j (by have hj:a+p<=j*s:=hj;omega)).out um (by omega) qa (.inr hj),fun j hj mY=>?_,fun j hj mY=>?_,aW⟩
   ·have mY:j*p<a+p:=mY
    by_cases e:j=k
    ·subst e;rw [<-ha,Nat.min_eq_left qa];exact Ej
    have tf:j<k+1:=by rw [<-q3]at mY;exact Nat.lt_of_mul_lt_mul_right mY
    have h6:j*p<k*p:=Nat.mul_lt_mul_of_pos_right (by omega) (by omega);have h7:=Sr h6;exact(JY j (a7 _) (by rw [ha];exact h6)).congr fun x h h'=>um.out x (.inl (by omega))
   have hj:a+p<=j*s:=hj;exact(Gj j (by omega) mY).congr fun x h h'=>um.out x (.inr (by omega))
  have qa:n<a+p:=by omega
  have key:∀c5:List TV,RP c4 c5 a n->SR kT c5 a n->vy kT c5 n p 0 n:=fun c5 um Ej j hj mY=>by
   by_cases e:j=k
   ·subst e;rw [<-ha,Nat.min_eq_right (by omega)];exact Ej
   have tf:j<k+1:=by
    have:j*p< (k+1)*p:=by rw [q3];omega
    exact Nat.lt_of_mul_lt_mul_right this
   have h6:j*p<k*p:=Nat.mul_lt_mul_of_pos_right (by omega) (by omega);have h7:=Sr h6;exact(JY j (a7 _) (by rw [ha];exact h6)).congr fun x h h'=>um.out x (.inl (by omega))
  refine bw O (bz (dh O (aK O (aI O ?_))));refine aR _ O (fun h4=>?_) (fun h4=>?_)
  ·have m1:=Bm (by omega);have m2:=vP (by omega);rw [Nat.min_eq_left (by omega)]at m1;rw [Nat.min_eq_right (by omega)]at m2;refine aE O ?_;refine aL (TZ (by omega) n a (a+s) n (by omega) (by omega) (by omega) (bj _) c4 _ P9 (fun x y h4 h5 h6 h7=>by { have h8:=GH (2*k+1) (by rw [q2];omega);rw [q2]at h8;exact h8 x y h5 h6 h7 }) m1 m2 aV) O ?_;rintro _ w5 ⟨rfl,c5,um,Ej,aW⟩;refine ar O (po O O O (by omega) (aU O (tQ ?_)));exact⟨(p,c5),by show 2*n+20 - p<2*n+20 - s;omega,⟨O,O,O,by show Value.int .i64 ((s:Int)*2)=ak p;congr 1;omega,av⟩,⟨by show 0<p;omega,by show p<=2*n+20;omega⟩,um.perm.trans sk,fun j=> (GG j).out um (by omega) (bj _) (aea ha q3 (by omega) j),key c5 um Ej,aW⟩
  have hs4:SR kT c4 a n:=by
   by_cases h5:a<n
   ·have:=Bm h5
    rwa [Nat.min_eq_right (by omega)]at this
   exact SR.one _ _ (by omega)
  refine aE O (po O O O (by omega) (aU O (tQ ?_)));exact⟨(p,c4),by show 2*n+20 - p<2*n+20 - s;omega,⟨O,O,O,by show Value.int .i64 ((s:Int)*2)=ak p;congr 1;omega,av⟩,⟨by show 0<p;omega,by show p<=2*n+20;omega⟩,sk,GG,key c4 (RP.refl _ _ _) hs4,aV⟩
 refine bw O (bz (CU O ?_));exact wI ⟨O,c3,pD,iH.done (by omega),aH⟩
theorem agy{A:aj}{n c:Nat}{ds:List TV}(hn:n<=1000000000000)(hc:∀s∈ds,pk s)(wj:∀x y,x<y->y<n->lT (gs ds x)<lT (gs ds y))(hS:St w0 w (dU t A n c ds::ks)):
 aG prog 262 [.slice A n c,.func (.func 263) #[] #[]] w (fun v w'=>v= .tuple #[]/\∃lz,lz.Perm ds/\SR kT lz 0 n/\St w0 w' (dU t A n c lz::ks)):=by
 refine bA func262 O ntmps262 O (zJ O) ?_;refine a8 O (bc O O (ar O ?_));refine aL (agP hn hc wj hS) O ?_;rintro _ w1 ⟨rfl,lz,h1,h2,h3⟩;refine aU O (wI ?_);exact⟨O,lz,h1,h2,h3⟩
end Go.Proofs.YtagdamiiececaaaGreatDoor.Vc.TS
namespace Go.Proofs.YtagdamiiececaaaGreatDoor.Vc
open Go.RowKit Tryz
structure yv(w:aa)(A8:aj)(X:ai)(N:Nat)(AD:aj)(rs:List aN)(B:ah):Prop where
 len:X.length=N+2
 oQ:N<=500
 rk:cn w A8 (N+2) X
 bl:br w AD N rs B
 Ny:B.length=N
 sa:∀e:Int,0<=e->e< (N:Int)->SA (gl B e)/\(gl B e).length<=500
theorem yv.aq{w w':aa}{A8:aj}{X:ai}{N:Nat}{AD:aj}{rs:List aN}{B:ah}(h:yv w A8 X N AD rs B)(hb:Below w.heap.size w w'):yv w' A8 X N AD rs B:=⟨h.len,h.oQ,h.rk.aq hb,h.bl.aq hb,h.Ny,h.sa⟩
abbrev Dn(A8:aj)(m c8:Nat)(q:Int)(AR:aj)(r cR:Nat)(AD:aj)(N cD:Nat):List ad:=[.slice A8 m c8,ak q,.slice AR r cR,.slice AD N cD]
theorem RR(P A8:aj)(c8:Nat)(q:Int)(AR:aj)(r cR:Nat)(AD:aj)(N cD:Nat)(X:ai)(rs:List aN)(B:ah)(a b:Int)(w:aa)(hP:Rd w P 4 (fun j=> (Dn A8 (N+2) c8 q AR r cR AD N cD).getD j undef))(hF:yv w A8 X N AD rs B)(ha:0<=a/\a< (N:Int)+2)(hb:0<=b/\b< (N:Int)+2):
 aG prog 264 [.pointer P,ak a,ak b] w (fun v w'=>v= .bool (decide (dC N B a b))/\w'=w):=by
 have vY:=hF.oQ;have ZM:=hF.Ny;have He:=hF.sa (b - 1);have J8:Rd w (aJ P 1) 3 (fun j=> [Value.int .i64 q,.slice AR r cR,.slice AD N cD].getD j undef):=(hP.behind (o:=1) (m:=3) (by omega)).congr fun j hj=>by
  rcases(show j=0\/j=1\/j=2 by omega)with rfl | rfl | rfl<;>rfl
 have yes:dC N B a b->Value.bool true= .bool (decide (dC N B a b)):=fun h=>aO Value.bool (eM h).symm
 have no:¬dC N B a b->Value.bool false= .bool (decide (dC N B a b)):=fun h=>aO Value.bool (dE h).symm
 refine bA func264 O ntmps264 O (cJ O) (a8 O ?_);refine dp 10 O (fun h1=>?_) (fun h1=>?_)
 ·refine aQ O (aQ O (ar O (aQ O (aQ O (aQ O (aQ O (aQ O (aQ O (aQ O (aQ O (ar O ?_)))))))))));refine aQ O (aQ O (aQ O (aQ O (aQ O (aQ O (aQ O (aQ O (aQ O (fm O O O O (fm O O O O (aQ O ?_)))))))))));refine aQ O (fm O O O O (fm O O O O (fm O O O O (fm O O O O (fm O O O O (fm O O O O (fm O O O O (fm O O O O (aQ O (bM O ?_))))))))));exact dK O ⟨yes (.inl h1),O⟩
 refine ax O (ar O (ax O (ar O ?_)));refine dp 14 O (fun h2=>?_) (fun h2=>?_)
 ·refine aQ O (aQ O (aQ O (aQ O (aQ O (aQ O (aQ O (aQ O (ar O (aQ O (aQ O (aQ O ?_)))))))))));refine aQ O (aQ O (aQ O (aQ O (aQ O (aQ O (fm O O O O (fm O O O O (aQ O (aQ O (fm O O O O (fm O O O O ?_)))))))))));refine fm O O O O (fm O O O O (fm O O O O (fm O O O O (fm O O O O (fm O O O O (aQ O (bM O ?_)))))));exact dK O ⟨yes (.inr (.inl h2)),O⟩
 refine ax O (ar O (ax O (ar O (ax O ?_))));refine lq hP (by decide) O O ?_;refine ax O (aX hP O (ax O (ajn (j:=0) hP (by exact aO Value.pointer O) O O O O ?_)));refine ax O (bc O O (ax O (dQ O (ax O (ar O ?_)))));refine dp 24 O (fun h3=>?_) (fun h3=>?_)
 ·refine aQ O (aQ O (aQ O (aQ O (aQ O (aQ O (aQ O (aQ O (aQ O (fm O O O O (fm O O O O (aQ O ?_)))))))))));refine aQ O (fm O O O O (fm O O O O (fm O O O O (fm O O O O (fm O O O O (fm O O O O (fm O O O O (fm O O O O (aQ O (bM O ?_))))))))));exact dK O ⟨yes (.inr (.inr (.inl (by omega)))),O⟩
 refine ax O (ar O (ax O (ar O (ax O ?_))));refine lq hP (by decide) O O ?_;refine ax O (aX hP O (ax O (ajn (j:=0) hP (by exact aO Value.pointer O) O O O O ?_)));refine ax O (bc O O (ax O (dQ O (ax O (ar O (ax O (ar O ?_)))))));refine dp 33 O (fun h4=>?_) (fun h4=>?_)
 ·refine ax O (ar O (ax O (ar O (ax O (ar O (ax O (ar O ?_)))))));refine dp 37 O (fun h5=>?_) (fun h5=>?_)
  ·refine ax O (ar O (ax O ?_));refine lq hP (by decide) O O (ax O (aX hP O ?_));refine ax O (ar O (ax O (dQ O (ax O (ar O (ax O (dQ O (ax O ?_))))))));refine aL (RK (aJ P 1) AR AD cR r cD q N rs B (a - 1) (b - 1) _ J8 hF.bl ZM (by omega) (He (by omega) (by omega)).1 (by have:=(He (by omega) (by omega)).2;omega)) O ?_;rintro _ _ ⟨rfl,rfl⟩;refine ax O (bM O ?_);refine dK O ?_;refine⟨aO Value.bool (jJ.2 ⟨fun h=> .inr (.inr (.inr ⟨by omega,by omega,by omega,by omega,h⟩)),fun h=>?_⟩),O⟩;rcases h with h | h | h | h
   ·exact absurd h h1
   ·exact absurd h h2
   ·omega
   exact h.2.2.2.2
  refine aQ O (aQ O (aQ O (aQ O (aQ O (aQ O (aQ O (aQ O (ax O (bM O ?_)))))))));refine dK O ⟨no fun h=>?_,O⟩;rcases h with h | h | h | h
  ·exact h1 h
  ·exact h2 h
  ·omega
  omega
 refine aQ O (aQ O (ax O (ar O (ax O (ar O (aQ O (aQ O (aQ O (aQ O (aQ O (aQ O ?_)))))))))));refine aQ O (aQ O (ax O (bM O ?_)));refine dK O ⟨no fun h=>?_,O⟩;rcases h with h | h | h | h
 ·exact h1 h
 ·exact h2 h
 ·omega
 omega
def UB(k:Nat)(RL:ai)(BL:ah)(w:aa)(v:ad)(w':aa):Prop:=((5<k\/500<RL.length)/\v= .tuple #[.agg #[ak 0,.slice none 0 0,.slice none 0 0],ak 3]/\St w w' [])\/((k<=5/\RL.length<=500)/\∃AR c AD d rs,v= .tuple #[.agg #[ak k,.slice AR RL.length c,.slice AD RL.length d],ak 0]/\rs.length=RL.length/\BL.length=RL.length/\St w w' (az 2 AR RL.length c RL::(aT 24 2 AD RL.length d rs BL++ [])))
abbrev mP(A:aj)(vs:List ad):Ck:=Bx 188 4 A vs
theorem St.aeo{w0 w:aa}{ks:List Ck}(t:ae)(h:St w0 w ks):St w0 w (dU t Option.none 0 0 []::ks):=h.nil t
theorem filter_lt{P:Int->Prop}[DecidablePred P]{n i:Nat}(h:i<=n):((bN n).filter fun f=>decide (f< (i:Int)/\P f))=(bN i).filter fun f=>decide (P f):=by
 refine SA.eq (oL _ (ky _)) (oL _ (ky _)) fun y=>?_
 rw [fT,fT,gL,gL,kU,kU];exact⟨fun h=> ⟨by omega,h.2.2⟩,fun h=> ⟨by omega,by omega,h.2⟩⟩
section
variable (N1 N2:Nat) (B1 B2:ah) (L:List (Int×Int))
def kC(i e:Nat):ai:=(bN e).filter fun f=>decide (dC N1 B1 (gp L f).1 (gp L i).1/\dC N2 B2 (gp L f).2 (gp L i).2)
theorem Ns(i e:Nat):kC N1 N2 B1 B2 L i (e+1)=if dC N1 B1 (gp L e).1 (gp L i).1/\dC N2 B2 (gp L e).2 (gp L i).2 then kC N1 N2 B1 B2 L i e++ [(e:Int)]else kC N1 N2 B1 B2 L i e:=by
 unfold kC;rw [uC,sP]
 by_cases c:dC N1 B1 (gp L e).1 (gp L i).1/\dC N2 B2 (gp L e).2 (gp L i).2
 ·rw [ay c];simp [c.1,c.2]
 rw [aw c];rw [vB (by simpa using c),List.filter_nil,fM]
theorem Nq{i:Nat}(h:i<=L.length):kC N1 N2 B1 B2 L i i=sE (dC N1 B1) (dC N2 B2) L i:=by
 unfold kC sE;exact(filter_lt (P:=fun f=>dC N1 B1 (gp L f).1 (gp L i).1/\dC N2 B2 (gp L f).2 (gp L i).2) h).symm
theorem Nr(i e:Nat):(kC N1 N2 B1 B2 L i e).length<=e:=by
 refine nv (rM _ _) ?_;rw [bN,fk,pU];exact bj _
def oD(i:Nat):ah:=(bN i).map (sE (dC N1 B1) (dC N2 B2) L)
theorem S8(i:Nat):oD N1 N2 B1 B2 L (i+1)=oD N1 N2 B1 B2 L i++ [sE (dC N1 B1) (dC N2 B2) L i]:=by
 unfold oD;rw [uC,jb];rfl
theorem Ct(i:Nat):(oD N1 N2 B1 B2 L i).length=i:=by simp [oD,bN]
end
abbrev zI(Ap:aj)(n cp:Nat)(ds:List TV)(bR A6 A4 A3:aj)(k:Int)(v4 v3:List ad):List Ck:=
 [dU 231 Ap n cp ds,bE bR k none 0 0 none 0 0,bE A6 0 none 0 0 none 0 0,mP A4 v4,mP A3 v3]
abbrev EH(AR:aj)(i cR:Nat)(rl:ai)(bR:aj)(k:Int)(AD:aj)(cD:Nat)(Ap:aj)(n cp:Nat)(ds:List TV)(A6 A4 A3:aj)(v4 v3:List ad)(df:List aN)(B:ah):List Ck:=
 az 2 AR i cR rl::bE bR k AR i cR AD i cD::dU 231 Ap n cp ds::bE A6 0 none 0 0 none 0 0::mP A4 v4::mP A3 v3::(aT 24 2 AD i cD df B++ [])
theorem aeG{α:Type}(q1 q2 q3 q4 q5 q6 q7:α):[q1,q2,q3,q4,q5,q6,q7].Perm [q1,q4,q3,q5,q6,q7,q2]:=by
 classical
 refine kN.2 fun z=>?_
 simp only [kL,mE];omega
theorem aeF{α:Type}(b d:α)(q1 q2 q3 q4 q5 q6 q7:α)(X:List α):(b::d::q1::q2::q3::q4::q5::q6::q7::(X++ [])).Perm (d::q1::q2::q3::q4::q5::q6::q7::((X++ [b])++ [])):=by
 classical
 refine kN.2 fun z=>?_
 simp only [mb,kL,mE];omega
theorem afl(A8 B8:aj)(c8 d8:Nat)(q1 q2:Int)(Fa BR:aj)(r1 r2 FD dR:Nat)(CL BD:aj)(N1 N2 FC dD:Nat)(X1 X2:ai)(qz Tw:List aN)(B1 B2:ah)(n1 n2 kind:Int)(k:Nat)(w:aa)(oX:yv w A8 X1 N1 CL qz B1)(oY:yv w B8 X2 N2 BD Tw B2)(xr:fz (N1+2) n1 (gi X1) (dC N1 B1))(xu:fz (N2+2) n2 (gi X2) (dC N2 B2))(hk:0<=kind/\kind<=2)(kl:(k:Int)=iw n1 n2 kind)(ti:n1<=5)(B5:n2<=5):
 aG prog 208 [.agg #[.slice A8 (N1+2) c8,ak q1,.slice Fa r1 FD,.slice CL N1 FC],.agg #[.slice B8 (N2+2) d8,ak q2,.slice BR r2 dR,.slice BD N2 dD],ak kind] w (UB k ((b5 (N1+2) (N2+2) (gi X1) (gi X2) kind k).map (cg (gi X1) (gi X2) kind)) (nX (dC N1 B1) (dC N2 B2) (b5 (N1+2) (N2+2) (gi X1) (gi X2) kind k)) w):=by
 have dd:=oX.oQ;have dS:=oY.oQ;have gI:=oX.len;have pJ:=oY.len;have hg1:=fun(a:Int) h=>xr.cj (a:=a) h
 have GN:=fun(a:Int) h=>xu.cj (a:=a) h
 have ht1:=xr.rt;have ht2:=xu.rt;have aaK:=xr.n0;have aaM:=xu.n0;have e1:(((N1+2:Nat):Int) - 1)=(N1:Int)+1:=by omega
 have e2:(((N2+2:Nat):Int) - 1)=(N2:Int)+1:=by omega
 have D6:(k:Int)=n1+n2+ (if kind=0 then 1 else 0):=by rw [kl];unfold iw;split<;>omega
 refine bA func208 O ntmps208 O (pc O O) (a8 O (MY (St.refl w) O O ?_));intro A3 w1 aA;refine MY aA O O fun A4 w2 aB=>mK aB O ?_;intro A6 w3 aH;obtain⟨v3,xX⟩:∃v3,v3=Dn A8 (N1+2) c8 q1 Fa r1 FD CL N1 FC:=⟨_,rfl⟩;obtain⟨v4,Rx⟩:∃v4,v4=Dn B8 (N2+2) d8 q2 BR r2 dR BD N2 dD:=⟨_,rfl⟩;have aH:St w w3 [bE A6 0 none 0 0 none 0 0,mP A4 v4,mP A3 v3]:=by rw [xX,Rx];exact aH
 clear aB aA;have pD:∀ {w':aa} {ks:List Ck} (i:Nat),St w w' ks->ks[i]?=some (mP A3 v3)->Rd w' A3 4 (fun j=> (Dn A8 (N1+2) c8 q1 Fa r1 FD CL N1 FC).getD j undef):=fun i h hk=>by
  have:=h.rd i hk;rw [xX]at this;exact this
 have sk:∀ {w':aa} {ks:List Ck} (i:Nat),St w w' ks->ks[i]?=some (mP A4 v4)->Rd w' A4 4 (fun j=> (Dn B8 (N2+2) d8 q2 BR r2 dR BD N2 dD).getD j undef):=fun i h hk=>by
  have:=h.rd i hk;rw [Rx]at this;exact this
 have dF:=pD 2 aH O;have gr:=sk 1 aH O;have ko:=(oX.aq aH.below).rk;have kJ:=(oY.aq aH.below).rk;refine aI O (eY [xP (aJ (A3) 0),xS (A8) (N1+2) (c8),xI (((N1+2:Nat):Int)),xI ((((N1+2:Nat):Int)) - ((1:Int))),xP (aJ (A4) 0),xS (B8) (N2+2) (d8),xI (((N2+2:Nat):Int)),xI ((((N2+2:Nat):Int)) - ((1:Int))),xI ((((N1+2:Nat):Int)) - ((1:Int))),xI ((((N2+2:Nat):Int)) - ((1:Int)))] O (fE O) ?_ ?_)
 ·exact⟨fun _ _ hb _ _=>aX (dF.below hb) O Az,fun _ _ hb _ _=>bn (dF.below hb) O Az,fun _ _ _ _ _=>bc O O Az,fun _ _ _ _ _=>dQ O Az,fun _ _ hb _ _=>aX (gr.below hb) O Az,fun _ _ hb _ _=>bn (gr.below hb) O Az,fun _ _ _ _ _=>bc O O Az,fun _ _ _ _ _=>dQ O Az,Dr O,Dr O,av⟩
 intro u w4 nL _;have aV:=aH.aq nL;have dF:=Rd.below dF nL;have gr:=Rd.below gr nL;have ko:=ko.aq nL;have kJ:=kJ.aq nL;have g1:gi X1 (((N1+2:Nat):Int) - 1)=n1:=ht1;have g2:gi X2 (((N2+2:Nat):Int) - 1)=n2:=ht2;refine fR O ?_;refine kK [13] [yP (aJ (A3) 0),yS (A8) (N1+2) (c8),yI (((((N1+2:Nat):Int) - 1))),yP (aJ (A8) (((((N1+2:Nat):Int) - 1))).toNat),yI (gi (X1) (((((N1+2:Nat):Int) - 1)))),yP (aJ (A4) 0),yS (B8) (N2+2) (d8),yI (((((N2+2:Nat):Int) - 1))),yP (aJ (B8) (((((N2+2:Nat):Int) - 1))).toNat),yI (gi (X2) (((((N2+2:Nat):Int) - 1)))),yI ((gi (X1) (((((N1+2:Nat):Int) - 1))))+ (gi (X2) (((((N2+2:Nat):Int) - 1))))),.ex (.agg #[ak (gi X1 (((N1+2:Nat):Int) - 1)+gi X2 (((N2+2:Nat):Int) - 1)),.slice none 0 0,.slice none 0 0]),.pr (fun v w'=>∃bR,v= .pointer bR/\St w w' (bE bR 0 none 0 0 none 0 0::[bE A6 0 none 0 0 none 0 0,mP A4 v4,mP A3 v3])),.p2 12 (fun a v w'=>∃bR,a= .pointer bR/\St w w' (bE bR (gi X1 (((N1+2:Nat):Int) - 1)+gi X2 (((N2+2:Nat):Int) - 1)) none 0 0 none 0 0::[bE A6 0 none 0 0 none 0 0,mP A4 v4,mP A3 v3]))] (by kernel_rfl) (by kernel_rfl) (ly (ly (ly (ly (ly (ly (ly (ly (ly (ly (ly (ly (cI.2 ⟨Ye.cV (fun v w w' h hb=>by obtain⟨A9,hv,hT⟩:=h;exact⟨A9,hv,hT.aq hb⟩),(cI.2 ⟨M6 (fun a v w w' h hb=>by obtain⟨bR,hv,hT⟩:=h;exact⟨bR,hv,hT.aq hb⟩),(fun _ h=>by cases h)⟩)⟩))))))))))))) ?_ ?_
 ·refine⟨cP fun _ _ hb _ _ _=>aX (dF.below hb) O (bK O O),cP fun _ _ hb _ _ _=>bn (dF.below hb) O (bK O O),bZ O,cP fun _ _ hb _ _ _=>aM (ko.aq hb).2 O (bK O O),cP fun _ _ hb _ _ _=>bk (ko.aq hb) O (bK O O),cP fun _ _ hb _ _ _=>aX (gr.below hb) O (bK O O),cP fun _ _ hb _ _ _=>bn (gr.below hb) O (bK O O),bZ O,cP fun _ _ hb _ _ _=>aM (kJ.aq hb).2 O (bK O O),cP fun _ _ hb _ _ _=>bk (kJ.aq hb) O (bK O O),aP fun _ _=>aK O (bK O O),aP fun _ _=>Fj (by exact inferInstance) (by exact inferInstance) (by exact inferInstance) O O O O O O (bK O O),?_,?_,av⟩
  ·refine cP fun e1 w1 hb hp a6 hq=>?_
   exact mK (St.refl _) O fun A9 w9 au=>ao.n (gA.dn O au.below ⟨A9,O,(aV.aq hb).call au⟩)
  refine kQ fun e1 w1 hb hp a6 hq=>?_
  obtain⟨bR,ia,hT⟩:=(hp 12 _ _ (by kernel_rfl) rfl rfl (by kernel_rfl));refine cG 3 0 hT O (by exact ia) O O O O O ?_;intro w9 bH;exact ao.n (fQ.st O ⟨bR,ia,bH⟩)
 intro u2 w5 _ _ jZ _;obtain⟨bR,ia,aW⟩:=jZ 13 12 _ rfl (by kernel_rfl);rw [g1,g2]at aW;refine Fl (F:=[(2,ak kind),(3,.pointer A3),(4,.pointer A4),(6,.pointer A6),(8,ak (((N1+2:Nat):Int) - 1)),(9,ak (((N2+2:Nat):Int) - 1)),(10,.pointer bR)]) ⟨O,O,O,O,O,O,ia,av⟩ ?_;clear ko kJ dF gr aV aH;refine UM 0 O (tG (α:=Unit) (fun _=> [(2,ak kind),(3,.pointer A3),(4,.pointer A4),(6,.pointer A6),(8,ak (((N1+2:Nat):Int) - 1)),(9,ak (((N2+2:Nat):Int) - 1)),(10,.pointer bR)]) (fun _ w'=>St w w' (bE bR k none 0 0 none 0 0::[bE A6 0 none 0 0 none 0 0,mP A4 v4,mP A3 v3])) ?_ ?_)
 ·refine bL O (aR _ O (fun h1=>?_) (fun h1=>?_))
  ·refine aE O (aX (aW.rd 0 O) O (iG (j:=0) (aW.rd 0 O) (by exact aO Value.pointer O) O O O O (aK O (aX (aW.rd 0 O) O (kf 0 (j:=0) aW O O O O O ?_)))));intro w6 ba;refine aU O (tQ ?_);exact⟨(),(ajs O),by rw [D6,ay h1];exact ba⟩
  refine oc O (tQ ?_);exact⟨(),(ajs O),by rw [D6,aw h1,Int.add_zero];exact aW⟩
 clear aW;rintro _ e w6 ba;refine aE O (aX (ba.rd 0 O) O (iG (j:=0) (ba.rd 0 O) (by exact aO Value.pointer O) O O O O (aI O ?_)));refine aR _ O (fun h1=>?_) (fun h1=>?_)
 ·refine aE O (z8 (by exact inferInstance) (by exact inferInstance) (by exact inferInstance) O (cG 3 1 ba O O O O O O O ?_));intro w7 bG;refine bM O (iL O (bG.rd 1 O) O ?_);exact .inl ⟨.inl (by omega),O,bG.none⟩
 have KE:k<=5:=by omega
 have bG:=ba.aeo 231;have dF:=pD 3 ba O;refine aE O (aX dF O (ajn (j:=0) dF (by exact aO Value.pointer O) O O O O ?_));refine bc O O (aI O ?_);refine Cd.loop (α:=Nat×aj×Nat) (fun z=> [(2,ak kind),(3,.pointer A3),(4,.pointer A4),(6,.pointer A6),(8,ak (((N1+2:Nat):Int) - 1)),(9,ak (((N2+2:Nat):Int) - 1)),(10,.pointer bR),(11,.slice z.2.1 (gv (N1+2) (N2+2) kind z.1 0).length z.2.2),(56,.slice A8 (N1+2) c8),(57,ak ((N1+2:Nat):Int)),(58,ak (z.1:Int))]) (fun z w'=>z.1<=N1+2/\St w w' (zI z.2.1 (gv (N1+2) (N2+2) kind z.1 0).length z.2.2 ((gv (N1+2) (N2+2) kind z.1 0).map (qB (gi X1) (gi X2) kind)) bR A6 A4 A3 k v4 v3)) (fun z=>N1+2 - z.1) (0,none,0) (ajs O) ⟨a7 _,bG⟩ ?_;clear bG ba dF;rintro⟨a,Ap,cp⟩ e w7 ⟨ha,hS⟩;dsimp only at ha hS|-;refine bL O (aR _ O (fun h2=>?_) (fun h2=>?_))
 ·have BC:a<N1+2:=by omega
  have ko:=(oX.aq hS.below).rk;have gr:=sk 3 hS O;have ga:=hg1 (a:Int) (by omega);refine aE O (aM ko.2 O (bk ko O (ar O (aX gr O (ajn (j:=0) gr (by exact aO Value.pointer O) O O O O ?_)))));refine bc O O (aI O ?_);refine Cd.loop (α:=Nat×aj×Nat) (fun z=> [(2,ak kind),(3,.pointer A3),(4,.pointer A4),(6,.pointer A6),(8,ak (((N1+2:Nat):Int) - 1)),(9,ak (((N2+2:Nat):Int) - 1)),(10,.pointer bR),(11,.slice z.2.1 (gv (N1+2) (N2+2) kind a z.1).length z.2.2),(56,.slice A8 (N1+2) c8),(57,ak ((N1+2:Nat):Int)),(58,ak a),(12,ak a),(13,ak (gi X1 a)),(64,.slice B8 (N2+2) d8),(65,ak ((N2+2:Nat):Int)),(66,ak (z.1:Int))]) (fun z w'=>z.1<=N2+2/\St w w' (zI z.2.1 (gv (N1+2) (N2+2) kind a z.1).length z.2.2 ((gv (N1+2) (N2+2) kind a z.1).map (qB (gi X1) (gi X2) kind)) bR A6 A4 A3 k v4 v3)) (fun z=>N2+2 - z.1) (0,Ap,cp) (ajs O) ⟨a7 _,hS⟩ ?_;clear hS ko gr;rintro⟨b,Ap,cp⟩ e w8 ⟨hb,hS⟩;dsimp only at hb hS|-;refine bL O (aR _ O (fun h3=>?_) (fun h3=>?_))
  ·have Gy:b<N2+2:=by omega
   have kJ:=(oY.aq hS.below).rk;have gb:=GN (b:Int) (by omega);have qX:=Nh (m1:=N1+2) (m2:=N2+2) (kind:=kind) a b (by omega);have Ca:a* (N2+2)<=502*502:=Nat.mul_le_mul (by omega) (by omega);refine aE O (aM kJ.2 O (bk kJ O ?_));refine ar O (aK O (aK O ?_));refine U6 (v:=⟨(a:Int),(b:Int),gi X1 a+gi X2 b+1⟩) (by exact inferInstance) (by exact inferInstance) (by exact inferInstance) O O O O O O O (mK hS O ?_);intro CJ w9 bH;refine cG 3 0 bH O O O O O O O ?_;intro eL bQ;have bQ:St w eL (Bx 231 3 CJ [ak a,ak b,ak (gi X1 a+gi X2 b+1)]::zI Ap (gv (N1+2) (N2+2) kind a b).length cp ((gv (N1+2) (N2+2) kind a b).map (qB (gi X1) (gi X2) kind)) bR A6 A4 A3 k v4 v3):=bQ;refine CS 0 O (tG (α:=Unit) (fun _=> [(2,ak kind),(3,.pointer A3),(4,.pointer A4),(6,.pointer A6),(8,ak (((N1+2:Nat):Int) - 1)),(9,ak (((N2+2:Nat):Int) - 1)),(10,.pointer bR),(11,.slice Ap (gv (N1+2) (N2+2) kind a b).length cp),(56,.slice A8 (N1+2) c8),(57,ak ((N1+2:Nat):Int)),(58,ak a),(12,ak a),(13,ak (gi X1 a)),(64,.slice B8 (N2+2) d8),(65,ak ((N2+2:Nat):Int)),(66,ak b),(14,ak b),(16,.pointer CJ),(17,.bool (decide ((a:Int)=0/\(b:Int)=0))),(18,.bool (decide ((a:Int)=((N1+2:Nat):Int) - 1/\(b:Int)=((N2+2:Nat):Int) - 1)))]) (fun _ w'=>w'=eL) ?_ ?_)
   ·refine a8 O (dp 80 O (fun p1=>?_) (fun p1=>?_))
    ·refine ax O (ar O (ax O (ar O ?_)));refine dp 87 O (fun p2=>?_) (fun p2=>?_)
     ·refine ax O (ar O (ax O (ar O (ax O (aU O (tQ ?_))))));exact⟨(),⟨O,O,O,O,O,O,O,O,O,O,O,O,O,O,O,O,O,O,aO Value.bool (jJ.2 ⟨fun h=> ⟨p1,h⟩,fun h=>h.2⟩),aO Value.bool (jJ.2 ⟨fun h=> ⟨p2,h⟩,fun h=>h.2⟩),av⟩,O⟩
     refine aQ O (aQ O (aQ O (aU O (tQ ?_))));exact⟨(),⟨O,O,O,O,O,O,O,O,O,O,O,O,O,O,O,O,O,O,aO Value.bool (jJ.2 ⟨fun h=> ⟨p1,h⟩,fun h=>h.2⟩),aO Value.bool (dE fun h=>p2 h.1).symm,av⟩,O⟩
    refine aQ O (aQ O (ar O ?_));refine dp 87 O (fun p2=>?_) (fun p2=>?_)
    ·refine ax O (ar O (ax O (ar O (ax O (aU O (tQ ?_))))));exact⟨(),⟨O,O,O,O,O,O,O,O,O,O,O,O,O,O,O,O,O,O,aO Value.bool (dE fun h=>p1 h.1).symm,aO Value.bool (jJ.2 ⟨fun h=> ⟨p2,h⟩,fun h=>h.2⟩),av⟩,O⟩
    refine aQ O (aQ O (aQ O (aU O (tQ ?_))));exact⟨(),⟨O,O,O,O,O,O,O,O,O,O,O,O,O,O,O,O,O,O,aO Value.bool (dE fun h=>p1 h.1).symm,aO Value.bool (dE fun h=>p2 h.1).symm,av⟩,O⟩
   rintro _ e fI rfl;refine tG (α:=Unit) (fun _=> [(2,ak kind),(3,.pointer A3),(4,.pointer A4),(6,.pointer A6),(8,ak (((N1+2:Nat):Int) - 1)),(9,ak (((N2+2:Nat):Int) - 1)),(10,.pointer bR),(11,.slice Ap (gv (N1+2) (N2+2) kind a b).length cp),(56,.slice A8 (N1+2) c8),(57,ak ((N1+2:Nat):Int)),(58,ak a),(12,ak a),(13,ak (gi X1 a)),(64,.slice B8 (N2+2) d8),(65,ak ((N2+2:Nat):Int)),(66,ak b),(14,ak b),(16,.pointer CJ),(17,.bool (decide ((a:Int)=0/\(b:Int)=0))),(18,.bool (decide ((a:Int)=((N1+2:Nat):Int) - 1/\(b:Int)=((N2+2:Nat):Int) - 1))),(19,.bool (decide (((a:Int)=0/\(b:Int)=0)\/((a:Int)=((N1+2:Nat):Int) - 1/\(b:Int)=((N2+2:Nat):Int) - 1))))]) (fun _ w'=>w'=fI) ?_ ?_
   ·refine a8 O (dp 93 O (fun p1=>?_) (fun p1=>?_))
    ·refine aQ O (aU O (tQ ?_));exact⟨(),⟨O,O,O,O,O,O,O,O,O,O,O,O,O,O,O,O,O,O,O,O,aO Value.bool (eM (.inl p1)).symm,av⟩,O⟩
    refine ax O (aU O (tQ ?_));exact⟨(),⟨O,O,O,O,O,O,O,O,O,O,O,O,O,O,O,O,O,O,O,O,aO Value.bool (jJ.2 ⟨fun h=> .inr h,fun h=>h.resolve_left p1⟩),av⟩,O⟩
   rintro _ e fZ rfl;have Gp:kind=1->(oK (N1+2) (N2+2) kind a b↔((a:Int)=0\/(b:Int)=0\/((a:Int)=((N1+2:Nat):Int) - 1/\(b:Int)=((N2+2:Nat):Int) - 1))):=fun h=>by unfold oK;rw [if_pos h]
   have Gq:kind=2->(oK (N1+2) (N2+2) kind a b↔((a:Int)=((N1+2:Nat):Int) - 1\/(b:Int)=((N2+2:Nat):Int) - 1\/((a:Int)=0/\(b:Int)=0))):=fun h=>by unfold oK;rw [if_neg (by omega),if_pos h]
   have Ze:¬kind=1->¬kind=2->(oK (N1+2) (N2+2) kind a b↔(((a:Int)=0/\(b:Int)=0)\/((a:Int)=((N1+2:Nat):Int) - 1/\(b:Int)=((N2+2:Nat):Int) - 1))):=fun h h'=>by unfold oK;rw [if_neg h,if_neg h']
   have Jo:kind=1->cg (gi X1) (gi X2) kind ((a:Int),(b:Int))=gi X1 a+gi X2 b+1 - 1:=fun h=>by unfold cg eS;rw [if_pos h];show gi X1 a+gi X2 b+0=_;omega
   have FY:¬kind=1->cg (gi X1) (gi X2) kind ((a:Int),(b:Int))=gi X1 a+gi X2 b+1:=fun h=>by unfold cg eS;rw [if_neg h]
   refine tG (α:=Unit) (fun _=> [(2,ak kind),(3,.pointer A3),(4,.pointer A4),(6,.pointer A6),(8,ak (((N1+2:Nat):Int) - 1)),(9,ak (((N2+2:Nat):Int) - 1)),(10,.pointer bR),(11,.slice Ap (gv (N1+2) (N2+2) kind a b).length cp),(56,.slice A8 (N1+2) c8),(57,ak ((N1+2:Nat):Int)),(58,ak a),(12,ak a),(13,ak (gi X1 a)),(64,.slice B8 (N2+2) d8),(65,ak ((N2+2:Nat):Int)),(66,ak b),(14,ak b),(16,.pointer CJ),(19,.bool (decide (oK (N1+2) (N2+2) kind a b)))]) (fun _ w'=>St w w' (Bx 231 3 CJ [ak a,ak b,ak (cg (gi X1) (gi X2) kind ((a:Int),(b:Int)))]::zI Ap (gv (N1+2) (N2+2) kind a b).length cp ((gv (N1+2) (N2+2) kind a b).map (qB (gi X1) (gi X2) kind)) bR A6 A4 A3 k v4 v3)) ?_ ?_
   ·refine bL O (aR _ O (fun k1=>?_) (fun k1=>?_))
    ·refine aE O (dp 101 O (fun p1=>?_) (fun p1=>?_))
     ·refine aQ O (aQ O (ar O (aQ O (ar O ?_))));refine aX (bQ.rd 0 O) O (iG (j:=2) (bQ.rd 0 O) (by exact aO Value.pointer O) O O O O (dQ O (aX (bQ.rd 0 O) O (kf 0 (j:=2) bQ O O O O O ?_))));intro gM iV;refine aU O (tQ ?_);exact⟨(),⟨O,O,O,O,O,O,O,O,O,O,O,O,O,O,O,O,O,O,aO Value.bool ((eM ((Gp k1).2 (.inl p1))).symm),av⟩,by rw [Jo k1];exact iV⟩
     refine ax O (ar O (ax O (ar O ?_)));refine dp 105 O (fun p2=>?_) (fun p2=>?_)
     ·refine aQ O (ar O ?_);refine aX (bQ.rd 0 O) O (iG (j:=2) (bQ.rd 0 O) (by exact aO Value.pointer O) O O O O (dQ O (aX (bQ.rd 0 O) O (kf 0 (j:=2) bQ O O O O O ?_))));intro gM iV;refine aU O (tQ ?_);exact⟨(),⟨O,O,O,O,O,O,O,O,O,O,O,O,O,O,O,O,O,O,aO Value.bool ((eM ((Gp k1).2 (.inr (.inl p2)))).symm),av⟩,by rw [Jo k1];exact iV⟩
     refine ax O (ar O ?_);refine aX (bQ.rd 0 O) O (iG (j:=2) (bQ.rd 0 O) (by exact aO Value.pointer O) O O O O (dQ O (aX (bQ.rd 0 O) O (kf 0 (j:=2) bQ O O O O O ?_))));intro gM iV;refine aU O (tQ ?_);exact⟨(),⟨O,O,O,O,O,O,O,O,O,O,O,O,O,O,O,O,O,O,aO Value.bool (jJ.2 ⟨fun h=> (Gp k1).2 (.inr (.inr h)),fun h=> (((Gp k1).1 h).resolve_left p1).resolve_left p2⟩),av⟩,by rw [Jo k1];exact iV⟩
    refine dA O (aR _ O (fun k2=>?_) (fun k2=>?_))
    ·refine aE O (dp 117 O (fun p1=>?_) (fun p1=>?_))
     ·refine aQ O (aQ O (aQ O (ar O (aQ O (aU O (tQ ?_))))));exact⟨(),⟨O,O,O,O,O,O,O,O,O,O,O,O,O,O,O,O,O,O,aO Value.bool (eM ((Gq k2).2 (.inl p1))).symm,av⟩,by rw [FY k1];exact bQ⟩
     refine ax O (ar O (ax O (ar O (ax O (ar O ?_)))));refine dp 122 O (fun p2=>?_) (fun p2=>?_)
     ·refine aQ O (aU O (tQ ?_));exact⟨(),⟨O,O,O,O,O,O,O,O,O,O,O,O,O,O,O,O,O,O,aO Value.bool (eM ((Gq k2).2 (.inr (.inl p2)))).symm,av⟩,by rw [FY k1];exact bQ⟩
     refine ax O (aU O (tQ ?_));exact⟨(),⟨O,O,O,O,O,O,O,O,O,O,O,O,O,O,O,O,O,O,aO Value.bool (jJ.2 ⟨fun h=> (Gq k2).2 (.inr (.inr h)),fun h=> (((Gq k2).1 h).resolve_left p1).resolve_left p2⟩),av⟩,by rw [FY k1];exact bQ⟩
    refine oc O (tQ ?_);exact⟨(),⟨O,O,O,O,O,O,O,O,O,O,O,O,O,O,O,O,O,O,aO Value.bool (jJ.2 (Ze k1 k2).symm),av⟩,by rw [FY k1];exact bQ⟩
   rintro _ e gM iV;refine aE O ?_
   first | refine eA rfl rfl ?_ | refine eU rfl rfl ?_
   refine aI O (aR _ O (fun h5=>?_) (fun h5=>?_))
   ·have tm:=VL (m1:=N1+2) (m2:=N2+2) h5;refine aE O (ao.b7 2 (iV.rd 0 O) O O O (U8 (v:=qB (gi X1) (gi X2) kind ((a:Int),(b:Int))) iV O O O ?_));intro A9 oI jh;refine UZ 2 jh O (jh.jH 0 O) O O O (by omega) (by omega) O ?_;intro AZ cZ qD ib;have ib:=ib.tail.tail;refine ar O (aK O (aU O (tQ ?_)));refine⟨(b+1,AZ,cZ),by show N2+2 - (b+1)<N2+2 - b;omega,⟨O,O,O,O,O,O,O,?_,O,O,O,O,O,O,O,O,av⟩,by show b+1<=N2+2;omega,?_⟩
    ·show Value.slice _ _ _=Value.slice _ _ _;rw [tm,cS];rfl
    show St w qD (zI AZ (gv _ _ kind a (b+1)).length cZ _ _ _ _ _ _ _ _);rw [tm,cS,jb];exact ib
   have mu:=VM (m1:=N1+2) (m2:=N2+2) (iy.1 h5);refine aE O (aK O (aU O (tQ ?_)));refine⟨(b+1,Ap,cp),by show N2+2 - (b+1)<N2+2 - b;omega,⟨O,O,O,O,O,O,O,?_,O,O,O,O,O,O,O,O,av⟩,by show b+1<=N2+2;omega,?_⟩
   ·show Value.slice _ _ _=Value.slice _ _ _;rw [mu]
   show St w gM (zI Ap (gv _ _ kind a (b+1)).length cp _ _ _ _ _ _ _ _);rw [mu];exact iV.tail
  have qd:b=N2+2:=by omega
  subst qd;refine bw O (bz (dh O (aK O (aU O (tQ ?_)))));refine⟨(a+1,Ap,cp),by show N1+2 - (a+1)<N1+2 - a;omega,⟨O,O,O,O,O,O,O,?_,O,O,O,av⟩,by show a+1<=N1+2;omega,?_⟩
  ·show Value.slice _ _ _=Value.slice _ _ _;rw [IG]
  show St w w8 (zI Ap (gv _ _ kind (a+1) 0).length cp _ _ _ _ _ _ _ _);rw [IG];exact hS
 obtain rfl:a=N1+2:=by omega
 have Ee:=VK xr xu hk kl (show N2+2<=1000 by omega);have ow:=Ee.length_eq;have eu:=VJ (N1+2) (N2+2) kind (gi X1) (gi X2) (by omega) (by omega);have Rn:=fun(ds:List TV) hp hs=>agA xr xu hk kl (show N1+2<=1000 by omega) (show N2+2<=1000 by omega) (ds:=ds) hp hs
 have Ki:=eu.2;rw [fk]at Ki;have qX:=Nh (m1:=N1+2) (m2:=N2+2) (kind:=kind) (N1+2) 0 (by omega);have Ca:(N1+2)* (N2+2)<=502*502:=Nat.mul_le_mul (by omega) (by omega);have xF:((gv (N1+2) (N2+2) kind (N1+2) 0).map (qB (gi X1) (gi X2) kind)).length=(gv (N1+2) (N2+2) kind (N1+2) 0).length:=fk _;have jv:=fun(c:Int×Int)=> (sF (m1:=N1+2) (m2:=N2+2) (rk1:=gi X1) (rk2:=gi X2) (kind:=kind) (k:=k) (c:=c))
 generalize gv (N1+2) (N2+2) kind (N1+2) 0=PA at*;generalize b5 (N1+2) (N2+2) (gi X1) (gi X2) kind k=PL at*;refine bw O (bz (dh O (bc O O (aI O ?_))));refine aR _ O (fun h3=>?_) (fun h3=>?_)
 ·refine aE O (z8 (by exact inferInstance) (by exact inferInstance) (by exact inferInstance) O (cG 3 2 hS O O O O O O O ?_));intro w8 bS;refine bM O (iL O (bS.rd 2 O) O ?_);exact .inl ⟨.inr (by rw [fk];omega),O,bS.none⟩
 have hP5:PL.length<=500:=by omega
 refine aE O (aL (TS.agy (by omega) eu.1 Ki hS) O ?_);rintro _ w8 ⟨rfl,lz,KX,PO,bS⟩;have Qf:lz.length=PA.length:=by rw [KX.length_eq,xF]
 obtain rfl:=Rn lz KX (by rw [Qf];exact PO);clear hS;rw [ow]at bS|-;obtain⟨ds,y7⟩:∃ds,PL.map (qB (gi X1) (gi X2) kind)=ds:=⟨_,rfl⟩;have hdsl:ds.length=PL.length:=by rw [<-y7,fk]
 rw [y7]at bS;have Lf:=fun i (h:i<PL.length)=>agV (qB (gi X1) (gi X2) kind) PL h
 rw [y7]at Lf;have bW:∀i:Nat,i<PL.length->((0<=(gp PL i).1/\(gp PL i).1< (N1:Int)+2)/\(0<=(gp PL i).2/\(gp PL i).2< (N2:Int)+2))/\0<=cg (gi X1) (gi X2) kind (gp PL i)/\cg (gi X1) (gi X2) kind (gp PL i)<=5:=fun i h=>by
  have hm:gp PL i∈PL:=by rw [s5 h];exact dB _
  obtain⟨j,hj,hE⟩:=(jv _).1 hm;have h9:=hE.2.2.1;refine⟨⟨⟨hE.1.1,?_⟩,hE.2.1.1,?_⟩,by omega,by omega⟩
  ·have:=hE.1.2;omega
  have:=hE.2.1.2;omega
 have bU:∀i:Nat,i<PL.length->(PL.map (cg (gi X1) (gi X2) kind)).take (i+1)=(PL.map (cg (gi X1) (gi X2) kind)).take i++ [cg (gi X1) (gi X2) kind (gp PL i)]:=fun i h=>by
  rw [CE (by rw [fk];exact h)]
  congr 2
  rw [bO (by rw [fk];exact h),List.getElem_map,s5 h]
 have BI:=fun i=>S8 N1 N2 B1 B2 PL i
 have o0:=fun i=>Ct N1 N2 B1 B2 PL i
 have ub:=fun i (h:i<=PL.length)=>Nq N1 N2 B1 B2 PL h
 have DQ:=fun i e=>Ns N1 N2 B1 B2 PL i e
 have qd:=fun i e=>Nr N1 N2 B1 B2 PL i e
 have bH:St w w8 (EH none 0 0 ((PL.map (cg (gi X1) (gi X2) kind)).take 0) bR k none 0 Ap PL.length cp ds A6 A4 A3 v4 v3 [] (oD N1 N2 B1 B2 PL 0)):=by
  have h9:=(bS.nil 24).nil 2;exact h9.perm (aeG _ _ _ _ _ _ _)
 clear bS PO KX Qf Rn eu Ki qX xF Ee h3;refine ar O (bc O O (aI O ?_));refine Cd.loop (α:=Nat×(aj×Nat)×(aj×Nat)×List aN) (fun z=> [(3,.pointer A3),(4,.pointer A4),(6,.pointer A6),(10,.pointer bR),(11,.slice Ap PL.length cp),(139,.slice Ap PL.length cp),(140,ak (PL.length:Int)),(141,ak (z.1:Int))]) (fun z w'=>z.1<=PL.length/\z.2.2.2.length=z.1/\St w w' (EH z.2.1.1 z.1 z.2.1.2 ((PL.map (cg (gi X1) (gi X2) kind)).take z.1) bR k z.2.2.1.1 z.2.2.1.2 Ap PL.length cp ds A6 A4 A3 v4 v3 z.2.2.2 (oD N1 N2 B1 B2 PL z.1))) (fun z=>PL.length - z.1) (0,(none,0),(none,0),[]) (ajs O) ⟨a7 _,O,bH⟩ ?_;clear bH;rintro⟨i,⟨AR,cR⟩,⟨AD,cD⟩,df⟩ e w9 ⟨hi,lE,hS⟩;dsimp only at hi lE hS|-;refine bL O (aR _ O (fun h3=>?_) (fun h3=>?_))
 ·have KB:i<PL.length:=by omega
  have hI:=bW i KB;have Bz:=hS.jH 2 O;refine aE O (ke Bz O (og Bz O (by omega) O ?_));rw [Lf i KB];refine mK hS O fun oa eL bQ=>ar O (cG 3 0 bQ O O O O O O O ?_);intro fI dX;obtain⟨ci,Qa⟩:∃ci,gp PL i=ci:=⟨_,rfl⟩;have Hb:=bU i KB;have ZH:=ub i hi;have ZN:=DQ i;have ZQ:=BI i;rw [Qa]at dX Hb hI;have dX:St w fI (Bx 231 3 oa [ak ci.1,ak ci.2,ak (cg (gi X1) (gi X2) kind ci)]::EH AR i cR ((PL.map (cg (gi X1) (gi X2) kind)).take i) bR k AD cD Ap PL.length cp ds A6 A4 A3 v4 v3 df (oD N1 N2 B1 B2 PL i)):=dX;clear bQ hS Bz;refine ar O (aX (dX.rd 2 O) O (ajn (j:=1) (dX.rd 2 O) (by exact aO Value.pointer O) O O O O (aX (dX.rd 0 O) O (iG (j:=2) (dX.rd 0 O) (by exact aO Value.pointer O) O O O O (eH dX O O O ?_)))));intro A9 fZ dM;refine fN 2 dM O (dM.bI 0 O) O O O fun AQ cQ gM iV=>aX (iV.rd 3 O) O (kf 3 (j:=1) iV O O O O O ?_);intro oI jh;have jh:=jh.tail;have jh:St w oI (Bx 231 3 oa [ak ci.1,ak ci.2,ak (cg (gi X1) (gi X2) kind ci)]::az 2 AQ (i+1) cQ ((PL.map (cg (gi X1) (gi X2) kind)).take (i+1))::bE bR k AQ (i+1) cQ AD i cD::dU 231 Ap PL.length cp ds::bE A6 0 none 0 0 none 0 0::mP A4 v4::mP A3 v3::(aT 24 2 AD i cD df (oD N1 N2 B1 B2 PL i)++ [])):=by rw [Hb];exact jh
  have hcapT:=jh.NJ 3 O;clear iV dM dX;refine ar O (Va (h:=(i:Int)) O O O (by omega) ?_);refine bc O O (aI O ?_);rw [gG];have ib:=jh.nil 2;refine Cd.loop (α:=Nat×aj×Nat) (fun z=> [(3,.pointer A3),(4,.pointer A4),(6,.pointer A6),(10,.pointer bR),(11,.slice Ap PL.length cp),(139,.slice Ap PL.length cp),(140,ak (PL.length:Int)),(141,ak i),(20,ak i),(21,.pointer oa),(22,.slice z.2.1 (kC N1 N2 B1 B2 PL i z.1).length z.2.2),(155,.slice Ap i cp),(156,ak i),(157,ak (z.1:Int))]) (fun z w'=>z.1<=i/\St w w' (az 2 z.2.1 (kC N1 N2 B1 B2 PL i z.1).length z.2.2 (kC N1 N2 B1 B2 PL i z.1)::Bx 231 3 oa [ak ci.1,ak ci.2,ak (cg (gi X1) (gi X2) kind ci)]::az 2 AQ (i+1) cQ ((PL.map (cg (gi X1) (gi X2) kind)).take (i+1))::bE bR k AQ (i+1) cQ AD i cD::dU 231 Ap PL.length cp ds::bE A6 0 none 0 0 none 0 0::mP A4 v4::mP A3 v3::(aT 24 2 AD i cD df (oD N1 N2 B1 B2 PL i)++ []))) (fun z=>i - z.1) (0,none,0) (ajs O) ⟨a7 _,ib⟩ ?_;clear ib jh;rintro⟨q,Ab,cb⟩ e qD ⟨hq,hS⟩;dsimp only at hq hS|-;have ZO:=qd i q;refine bL O (aR _ O (fun h4=>?_) (fun h4=>?_))
  ·have hqi:q<i:=by omega
   have hJ:=(bW q (by omega)).1;have Bz:=(hS.jH 4 O).take (l:=i) (by omega);have ud:=ZN q;have Le:=Lf q (by omega);rw [<-agW ds hqi (by omega)]at Le;obtain⟨cq,ZZ⟩:∃cq,gp PL q=cq:=⟨_,rfl⟩;rw [ZZ]at hJ Le ud;rw [Qa]at ud;refine aE O (ke Bz O (og Bz O (by omega) O ?_));rw [Le];refine mK hS O fun Uu tD jN=>ar O (cG 3 0 jN O O O O O O O ?_);intro pg fX;have fX:St w pg (Bx 231 3 Uu [ak cq.1,ak cq.2,ak (cg (gi X1) (gi X2) kind cq)]::az 2 Ab (kC N1 N2 B1 B2 PL i q).length cb (kC N1 N2 B1 B2 PL i q)::Bx 231 3 oa [ak ci.1,ak ci.2,ak (cg (gi X1) (gi X2) kind ci)]::az 2 AQ (i+1) cQ ((PL.map (cg (gi X1) (gi X2) kind)).take (i+1))::bE bR k AQ (i+1) cQ AD i cD::dU 231 Ap PL.length cp ds::bE A6 0 none 0 0 none 0 0::mP A4 v4::mP A3 v3::(aT 24 2 AD i cD df (oD N1 N2 B1 B2 PL i)++ [])):=fX;have mu:¬(dC N1 B1 cq.1 ci.1/\dC N2 B2 cq.2 ci.2)->kC N1 N2 B1 B2 PL i (q+1)=kC N1 N2 B1 B2 PL i q:=fun h=>by rw [ud,aw h]
   clear jN hS;refine ar O (aX (fX.rd 0 O) O (iG (j:=0) (fX.rd 0 O) (by exact aO Value.pointer O) O O O O (aX (fX.rd 2 O) O (iG (j:=0) (fX.rd 2 O) (by exact aO Value.pointer O) O O O O (aL (RR A3 A8 c8 q1 Fa r1 FD CL N1 FC X1 qz B1 cq.1 ci.1 _ (pD 8 fX O) (oX.aq fX.below) hJ.1 hI.1.1) O ?_)))));rintro _ pg ⟨rfl,rfl⟩;refine ar O (dp 167 O (fun h5=>?_) (fun h5=>?_))
   ·refine ax O (aX (fX.rd 0 O) O (ax O (iG (j:=1) (fX.rd 0 O) (by exact aO Value.pointer O) O O O O (ax O (aX (fX.rd 2 O) O (ax O (iG (j:=1) (fX.rd 2 O) (by exact aO Value.pointer O) O O O O (ax O (aL (RR A4 B8 d8 q2 BR r2 dR BD N2 dD X2 Tw B2 cq.2 ci.2 _ (sk 7 fX O) (oY.aq fX.below) hJ.2 hI.1.2) O ?_)))))))));rintro _ pg ⟨rfl,rfl⟩;refine aI O (aR _ O (fun h6=>?_) (fun h6=>?_))
    ·rw [ay ⟨h5,h6⟩]at ud;refine aE O (eH fX O O O ?_);intro A9 wK jO;refine fN 2 jO O (jO.bI 0 O) O O O ?_;intro AZ cZ E6 oo;have oo:=oo.tail.tail;refine ar O (aK O (aU O (tQ ?_)));refine⟨(q+1,AZ,cZ),by show i - (q+1)<i - q;omega,⟨O,O,O,O,O,O,O,O,O,O,?_,O,O,O,av⟩,by show q+1<=i;omega,?_⟩
     ·show Value.slice _ _ _=Value.slice _ _ _;rw [ud,cS];rfl
     show St w E6 (az _ AZ (kC N1 N2 B1 B2 PL i (q+1)).length cZ _::_);rw [ud,cS];exact oo
    have fu:=mu (fun h=>h6 h.2);refine aE O (aK O (aU O (tQ ?_)));refine⟨(q+1,Ab,cb),by show i - (q+1)<i - q;omega,⟨O,O,O,O,O,O,O,O,O,O,?_,O,O,O,av⟩,by show q+1<=i;omega,?_⟩
    ·show Value.slice _ _ _=Value.slice _ _ _;rw [fu]
    show St w pg (az _ Ab (kC N1 N2 B1 B2 PL i (q+1)).length cb _::_);rw [fu];exact fX.tail
   have fu:=mu (fun h=>h5 h.1);refine aQ O (aQ O (aQ O (aQ O (aQ O (aI O ?_)))));refine Cd.gh O (aE O (aK O (aU O (tQ ?_))));refine⟨(q+1,Ab,cb),by show i - (q+1)<i - q;omega,⟨O,O,O,O,O,O,O,O,O,O,?_,O,O,O,av⟩,by show q+1<=i;omega,?_⟩
   ·show Value.slice _ _ _=Value.slice _ _ _;rw [fu]
   show St w pg (az _ Ab (kC N1 N2 B1 B2 PL i (q+1)).length cb _::_);rw [fu];exact fX.tail
  obtain rfl:q=i:=by omega
  rw [ZH]at hS|-;refine bw O (bz (dh O ?_));refine aX (hS.rd 3 O) O (ajn (j:=2) (hS.rd 3 O) (by exact aO Value.pointer O) O O O O (ar O (kO hS O O O ?_)));intro A9 tD jN;refine mJ 9 jN O (jN.gQ 0 O) O O O (by omega) (by omega) O fun AZ cZ pg fX=>aX (fX.rd 4 O) O (kf 4 (j:=2) fX O O O O O ?_);intro wK jO;have jO:=jO.tail;have jO:=(jO.perm (aeF _ _ _ _ _ _ _ _ _ _)).tail;refine ar O (aK O (aU O (tQ ?_)));refine⟨(q+1,(AQ,cQ),(AZ,cZ),df++ [⟨Ab,(sE (dC N1 B1) (dC N2 B2) PL q).length,cb⟩]),by show PL.length - (q+1)<PL.length - q;omega,(ajs O),by show q+1<=PL.length;omega,by show(df++ [_]).length=q+1;rw [cS,lE];rfl,?_⟩;show St w wK (EH AQ (q+1) cQ _ bR k AZ cZ Ap PL.length cp ds A6 A4 A3 v4 v3 (df++ [_]) (oD N1 N2 B1 B2 PL (q+1)));rw [ZQ];unfold EH aT;rw [qy (by rw [lE,Ct])];exact jO
 obtain rfl:i=PL.length:=by omega
 refine bw O (bz (dh O ?_));refine ao.b7 2 (hS.rd 1 O) O O O (cG 3 3 hS O O O O O O O ?_);intro eL bQ;refine bM O (iL O (bQ.rd 3 O) O ?_);have lS:(PL.map (cg (gi X1) (gi X2) kind)).length=PL.length:=fk _;refine .inr ⟨⟨KE,by omega⟩,AR,cR,AD,cD,df,by rw [lS];rfl,by omega,by rw [lS];exact Ct N1 N2 B1 B2 PL PL.length,?_⟩;rw [lS];have h9:=bQ.sub (show List.Sublist (az 2 AR PL.length cR ((PL.map (cg (gi X1) (gi X2) kind)).take PL.length)::(aT 24 2 AD PL.length cD df (oD N1 N2 B1 B2 PL PL.length)++ [])) _ from(((((jV _).cons _).cons _).cons _).cons _).cons _ |>.cons_cons _);rw [jW (by omega)]at h9;exact h9
end Go.Proofs.YtagdamiiececaaaGreatDoor.Vc
