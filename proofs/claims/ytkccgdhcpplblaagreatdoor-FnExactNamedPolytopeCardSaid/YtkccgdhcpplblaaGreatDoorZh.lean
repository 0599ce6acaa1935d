/-
 Lemmas. Conditions: as each states them.
-/
import Derived.Test.YtkccgdhcpplblaaGreatDoorZg
import Derived.Test.YtkccgdhcpplblaaGreatDoorLaye
import Derived.Shelf.SlicesE.Reverse
import Derived.Laws.StructEq
set_option maxHeartbeats 8000000
namespace Go.Proofs.YtkccgdhcpplblaaGreatDoor.Vc
open Tryz
section
open Go.RowKit
variable{Q:List Nat}{k y z:Nat}{L xs R:ai}{x i:Int}
theorem Vy(PB A:aj)(N c n:Nat)(rs:List aO)(fl:ah)(f i:Nat)(w:aa)(hT:kX w)(hb:Rd w PB 1 (fun _=> .slice A N c))(hM:bF w A N rs fl)(hf:f<N)(hN:N<=1000)(hl:(gl fl f).length=n)(hi:i<n)(hn:n<=100)(hr:∀x∈gl fl f,0<=x/\x<=1000000):
 aK prog 282 [ak f,ak i,.pointer PB] w (fun v w'=>v=xO (iK (gl fl f) i)/\St w w' []):=by
 have jQ:=hM.len;have iA:=hM.at_ (i:=(f:Int)) (by omega) (by omega);have oV:=iA.1;refine bA func282 O ntmps282 O (df O) (bg O (amv (j:=0) hb (by exact aF Value.pointer (jh _).symm) O O O O (ar O (aD hM.top.2 O (bW hM.top O (aQ (Ge _ _ _ _ _ iA (by omega)) O ?_))))));rintro _ w1 ⟨A6,c6,rfl,hS⟩;refine ar O (aD (hS.bz 0 O).2 O (lC 0 hS O O O (by omega) ?_));intro w2 aE;have aE:St w w2 [ax 2 A6 (rg rs f).n c6 (iK (gl fl f) i)]:=aE;refine ar O ?_;refine amq (Bm A6 _ c6 (iK (gl fl f) i) _ (hT.aq aE.below) (aE.bz 0 O) (fun x hx=>by
  rcases List.mem_or_eq_of_mem_set hx with h | h
  ·have:=hr x h;omega
  omega) (by omega)) rfl rfl rfl ?_
 rintro _ w3 ⟨rfl,aw⟩;refine bI O (Vz O ?_);exact⟨O,aE.none.aq aw.below⟩
abbrev tG(PB A:aj)(N c:Nat)(fh:aj)(L:ai)(Aa:aj)(ca:Nat)(al:ai)(g:Nat)(M:List ni)(ks:List Ck):List Ck:=
 ax 2 fh N N L::Bx 22 1 PB [.slice A N c]::ax 2 Aa al.length ca al::fu 214 g (dY xO Dv M)::(pI 2 M++ks)
def oZ(Q:List Nat):ai:=Q.map fun x:Nat=> (x:Int)
theorem aeu(h:k<Q.length):gi (oZ Q) k=(Q.getD k 0:Nat):=by
 rw [b9 (by simp [oZ,h])];simp [oZ,da,h]
theorem aap(h:k<Q.length):(Q++ [y]).getD k 0=Q.getD k 0:=by
 rw [da,lz h,<-da]
theorem aev(h:k<=Q.length):oZ ((Q++ [y]).drop k)=oZ (Q.drop k)++ [(y:Int)]:=by
 rw [List.drop_append_of_le_length h];simp [oZ]
theorem KN{f:Nat}(h:0<=gi L z):0<=gi (L.set y (f:Int)) z:=by
 simp only [gi,jc,da,mI]at h|-
 split
 ·split
  ·simp
  exact Int.le_refl _
 exact h
theorem aas{f:Nat}(h:y<L.length):gi (L.set y (f:Int)) y=f:=by
 rw [b9 (by simpa using h)];simp
theorem ahm(A:aj)(N c:Nat)(rs:List aO)(fl:ah)(n:Nat)(A2:aj)(c2:Nat)(cm:ai)(w:aa)(hT:kX w)(hM:bF w A N rs fl)(hC:cg w A2 n cm)(hN:N<=401)(hn:n<=5)(hl:∀x∈fl,x.length=n/\∀e∈x,0<=e/\e<=1000000)(we:fl.Nodup):
 aK prog 225 [.slice A N c,.slice A2 n c2] w (fun v w'=>∃A' L,v= .slice A' N N/\kh N (jC n fl cm) N L/\St w w' [ax 2 A' N N L]):=by
 have jQ:=hM.len;have dh:=hC.1;have C5:∀f:Nat,f<N->gl fl f∈fl:=fun f hf=>by rw [b7 (by omega)];exact dQ _
 have qT:∀x∈fl,x.length=n/\∀e∈x,0<=e:=fun x hx=> ⟨(hl x hx).1,fun e he=> ((hl x hx).2 e he).1⟩
 have AH:∀x∈fl,x.length=n:=fun x hx=> (hl x hx).1
 refine bA func225 O ntmps225 O (df O) (bg O ?_);refine ao.box (v:= .slice A N c) (St.refl w) O O (by show(1:Nat)<=maxLen;simp [maxLen]) ?_;intro PB w1 aI;have dF:Rd w1 PB 1 (fun _=> .slice A N c):=Rd.one (aI.rd 0 O);refine ar O (eS (i:= -1) aI O O O ?_);intro F7 w2 aE;have dF:Rd w2 PB 1 (fun _=> .slice A N c):=Rd.one (aE.rd 1 O);refine amv (j:=0) dF (by exact aF Value.pointer (jh _).symm) O O O O (bc O O (aQ (JJ F7 1 (-1) N _ (aE.bz 0 O) (by omega)) O ?_));rintro _ w3 ⟨fh,rfl,aw⟩;have aR:=aE.call aw;clear aw;refine ar O (BZ aR O ?_);intro g w4 aX;have dF:Rd w4 PB 1 (fun _=> .slice A N c):=Rd.one (aX.rd 3 O);refine ar O (Xf O O (ar O (amv (j:=0) dF (by exact aF Value.pointer (jh _).symm) O O O O (aQ (FW _ _ _ _) O ?_))));rintro _ w4 ⟨rfl,rfl⟩;have aY:St w w4 [ax 2 none 0 0 [],fu 214 g [],ax 2 fh N N (List.replicate N (-1)),ax 2 F7 1 1 [-1],Bx 22 1 PB [.slice A N c]]:=aX.nil 2;have aY:St w w4 (tG PB A N c fh (List.replicate N (-1)) none 0 (iE n fl cm 0) g [] []):=by
  have h9:=aY.perm (show List.Perm _ (ax 2 F7 1 1 [-1]::tG PB A N c fh (List.replicate N (-1)) none 0 (iE n fl cm 0) g [] []) from by
   classical
   refine jA.2 fun z=>?_
   simp only [tG,pI,List.map_nil,lu,jz,kC,iE,bS,List.range_zero,List.filter_nil,List.length_nil];have:dY xO Dv ([]:List ni)=[]:=O;rw [this];omega)
  exact h9.tail
 clear aX aR aE aI dF;refine aC O (Cd.loop (α:=Nat×aj×Nat×List ni) (fun z=> [(1,.slice A2 n c2),(2,.pointer PB),(5,.slice fh N N),(6,.map (some g)),(7,.func (.func 282) #[] #[.pointer PB]),(8,.slice z.2.1 (iE n fl cm z.1).length z.2.2.1),(26,ak N),(27,ak (z.1:Int))]) (fun z w'=>z.1<=N/\ja n fl (x7 n fl cm z.1 0) (fun _=>False) (5*z.1) z.2.2.2/\St w w' (tG PB A N c fh (List.replicate N (-1)) z.2.1 z.2.2.1 (iE n fl cm z.1) g z.2.2.2 [])) (fun z=>N - z.1) (0,none,0,[]) (amz O) ⟨aZ _,ja.zero,aY⟩ ?_);clear aY;rintro⟨f,Aa,ca,M⟩ e w5 ⟨hf,iG,hS⟩;dsimp only at hf iG hS|-;have eJ:(iE n fl cm f).length<=500:=by
  refine nU (rL _ _) ?_;rw [bS,fO,qB];omega
 refine bJ O (aM _ O (fun h1=>?_) (fun h1=>?_))
 ·have lp:f<N:=by omega
  have dF:Rd w5 PB 1 (fun _=> .slice A N c):=Rd.one (hS.rd 1 O);have yE:=hS.cT hM;have iA:=yE.at_ (i:=(f:Int)) (by omega) (by omega);have oV:=iA.1;have AG:=hl _ (C5 f lp);have hnn:(rg rs f).n=n:=by omega
  have EP:=YJ (n:=n) (c:=cm) (x:=gl fl f) dh;have C0:=XL (n:=n) (fl:=fl) (c:=cm) (f:=f);refine aA O (amv (j:=0) dF (by exact aF Value.pointer (jh _).symm) O O O O (ar O (aD yE.top.2 O (bW yE.top O (aQ (Qe A2 (rg rs f).a n c2 (rg rs f).n (rg rs f).c cm (gl fl f) _ (hS.gh hC) iA hnn.symm (by omega)) O ?_)))));rintro _ w6 ⟨Wy,YA,rfl,aw⟩;have bk:=hS.aq aw.below;have Ry:=bk.gh hC;have Rr:=aw.bz 0 O;clear aw hS dF yE iA;refine ar O ?_;refine aQ (WL Wy _ YA (nZ cm (gl fl f)) A2 n c2 cm _ Rr Ry (by rw [Cw];omega)) O ?_;rintro _ w7 ⟨rfl,aw⟩;have bG:=bk.aq aw.below;clear aw bk Rr Ry
  first | refine fv rfl rfl ?_ | refine gA rfl rfl ?_
  refine aC O (aM _ O (fun h2=>?_) (fun h2=>?_))
  ·have gD:¬jK n cm (gl fl f):=fun h=>h2 (EP.2 h)
   rw [az gD]at C0;refine aA O (aH O (aT O (tQ ?_)));refine⟨(f+1,Aa,ca,M),by show N - (f+1)<N - f;omega,⟨O,O,O,O,O,?_,O,O,au⟩,by show f+1<=N;omega,(iG.skip gD).more (by show 5*f<=5* (f+1);omega),?_⟩
   ·show Value.slice _ _ _=_;rw [C0]
   show St w w7 (tG _ _ _ _ _ _ _ _ (iE n fl cm (f+1)) _ _ _);rw [C0];exact bG
  have jS:jK n cm (gl fl f):=EP.1 (jb.1 h2);rw [aB jS]at C0;refine aA O (eS bG O O O ?_);intro A9 w8 b6;refine fk 3 b6 O (b6.bz 0 O) O O O ?_;intro AZ cZ w9 bL;have bL:St w w9 (tG PB A N c fh (List.replicate N (-1)) AZ cZ (iE n fl cm (f+1)) g M []):=by
   have h9:=bL.tail;rw [C0];show St w w9 (_::_::ax _ AZ ((iE n fl cm f++ [(f:Int)]).length) cZ _::_);rw [b8];exact h9
  have acB:(iE n fl cm f).length+1=(iE n fl cm (f+1)).length:=by rw [C0,b8];rfl
  clear b6 bG;refine ar O (bc O O (aC O ?_));refine Cd.loop (α:=Nat×List ni) (fun z=> [(1,.slice A2 n c2),(2,.pointer PB),(5,.slice fh N N),(6,.map (some g)),(7,.func (.func 282) #[] #[.pointer PB]),(8,.slice AZ (iE n fl cm (f+1)).length cZ),(26,ak N),(27,ak f),(9,ak f),(44,ak n),(45,ak (z.1:Int))]) (fun z w'=>z.1<=n/\ja n fl (x7 n fl cm f z.1) (fun _=>False) (5*f+z.1) z.2/\St w w' (tG PB A N c fh (List.replicate N (-1)) AZ cZ (iE n fl cm (f+1)) g z.2 [])) (fun z=>n - z.1) (0,M) ⟨O,O,O,O,O,aF (fun m=>Value.slice AZ m cZ) acB,O,O,O,O,O,au⟩ ⟨aZ _,iG,bL⟩ ?_;clear bL iG;rintro⟨i,M⟩ e dV ⟨hi,iG,hS⟩;dsimp only at hi iG hS|-;refine bJ O (aM _ O (fun h3=>?_) (fun h3=>?_))
  ·have du:i<n:=by omega
   refine aA O (aQ (Vy PB A N c n rs fl f i _ (hT.aq hS.below) (Rd.one (hS.rd 1 O)) (hS.cT hM) lp (by omega) AG.1 du (by omega) AG.2) O ?_);rintro _ dZ ⟨rfl,aw⟩;have hS:=hS.aq aw.below;have hlen:=iG.len (iK (gl fl f) i);have uq:=iG.put (by omega) du jS;generalize oS:iK (gl fl f) i=kx at*;have hrx:=(JM (pre:=[_,_,_,_]) (x:=kx) hS).1;clear aw;refine ar O ?_;refine ao.look (v:= .slice (jd M kx).a (jd M kx).n (jd M kx).c) Dp (hS.Bz 3 rfl) rfl rfl (by unfold jd;cases dL M kx<;>rfl) rfl ?_;refine ar O (eS hS O O O ?_);intro A9 fg dG;have dG:=St.Wa (pre:=[_,_,_,_,_]) (x:=kx) dG;refine fk 0 dG O (dG.bz 1 O) O O O fun AY cY gj ic=>B3 O Dp 5 (a:=kx) (u:=(⟨AY,(jd M kx).n+1,cY⟩,jF M kx++ [(f:Int)])) ic O O O O ?_;intro lS iT;have im:=(O7 (M:=M) (x:=kx) (u:=(⟨AY,(jd M kx).n+1,cY⟩,jF M kx++ [(f:Int)])) (pre:=[_,_,_,_,_]) iT).tail;refine ar O (aH O (aT O (tQ ?_)));exact⟨(i+1,eO M kx (⟨AY,(jd M kx).n+1,cY⟩,jF M kx++ [(f:Int)])),by show n - (i+1)<n - i;omega,(amz O),by show i+1<=n;omega,uq _,im⟩
  obtain rfl:i=n:=by omega
  refine bn O (bo (cL O (aH O (aT O (tQ ?_)))));exact⟨(f+1,AZ,cZ,M),by show N - (f+1)<N - f;omega,(amz O),by show f+1<=N;omega,iG.row.more (by show 5*f+i<=5* (f+1);omega),hS⟩
 obtain rfl:f=N:=by omega
 subst jQ;have Ll:=DZ n fl cm;have iG:ja n fl (fun y _=>jK n cm (gl fl y)) (fun y=>0<=gi (List.replicate fl.length (-1:Int)) y) 2005 M:=((iG.congr fun y i hy hi=> ⟨fun h=>h.1,fun h=> ⟨h,.inl hy⟩⟩).mono fun y _ h=>h.elim).more (by omega);have v8:=afI (n:=n) (fl:=fl) (c:=cm) (kh.zero fl.length (jC n fl cm));have iJ:=fun(L:ai) (j f:Nat) (hj:j< (iE n fl cm fl.length).length) (hf:gi (iE n fl cm fl.length) j=f) h=>afJ (n:=n) (fl:=fl) (c:=cm) (L:=L) hj hf h
 have kL:=fun y:Int=>Eb (n:=n) (fl:=fl) (c:=cm) (f:=fl.length) (y:=y)
 generalize iE n fl cm fl.length=al at*;refine bn O (bo (cL O (bc O O (aC O ?_))));refine Cd.loop (α:=Nat×ai×List ni) (fun z=> [(1,.slice A2 n c2),(2,.pointer PB),(5,.slice fh fl.length fl.length),(6,.map (some g)),(7,.func (.func 282) #[] #[.pointer PB]),(62,.slice Aa al.length ca),(63,ak (al.length:Int)),(64,ak (z.1:Int))]) (fun z w'=>z.1<=al.length/\kh fl.length (jC n fl cm) (pf fl.length al z.1) z.2.1/\ja n fl (fun y _=>jK n cm (gl fl y)) (fun y=>0<=gi z.2.1 y) 2005 z.2.2/\St w w' (tG PB A fl.length c fh z.2.1 Aa ca al g z.2.2 [])) (fun z=>al.length - z.1) (0,List.replicate fl.length (-1),M) (amz O) ⟨aZ _,v8,iG,hS⟩ ?_;clear hS iG v8 hf h1;rintro⟨j,L0,M⟩ e w6 ⟨hj,v8,iG,hS⟩;dsimp only at hj v8 iG hS|-;refine bJ O (aM _ O (fun h1=>?_) (fun h1=>?_))
 ·have H2:j<al.length:=by omega
  have Sy:=(kL _).1 (gi_in H2);obtain⟨f,hf⟩:∃f:Nat,gi al j=f:=⟨(gi al j).toNat,by omega⟩;have sk:pf fl.length al j=f:=by unfold pf;rw [if_pos H2,hf];rfl
  rw [hf]at Sy;rw [sk]at v8;have CS:=v8.1;have hKf:jC n fl cm f f:=⟨Sy.2,.refl (by omega)⟩;have yG:=hS.bz 0 O;refine aA O (aD (hS.bz 2 O).2 O (a8 (hS.bz 2 O) O (ar O ?_)));rw [hf];refine aD yG.2 O (a8 yG O (aC O ?_));refine aM _ O (fun h2=>?_) (fun h2=>?_)
  ·refine aA O (aH O (aT O (tQ ?_)));exact⟨(j+1,L0,M),by show al.length - (j+1)<al.length - j;omega,(amz O),by show j+1<=al.length;omega,iJ _ j f H2 hf (v8.skip Ll (by omega) (.inl h2)),iG,hS⟩
  have h0:gi L0 f<0:=by omega
  refine aA O (aD yG.2 O (lC 0 hS O O O (by omega) ?_));intro w7 bG;have bG:St w w7 (tG PB A fl.length c fh (L0.set f (f:Int)) Aa ca al g M []):=bG;refine ar O (eS bG O O O ?_);intro Ao w8 b6;have l5:=pN.start (A:=yg n fl cm) CS (show f<fl.length by omega) h0 hKf;have iG:=iG.mono (G':=fun y=>0<=gi (L0.set f (f:Int)) y) fun y _ h=>KN h
  refine aC O (Cd.loop (α:=Nat×ai×List Nat×aj×Nat×List ni) (fun z=> [(1,.slice A2 n c2),(2,.pointer PB),(5,.slice fh fl.length fl.length),(6,.map (some g)),(7,.func (.func 282) #[] #[.pointer PB]),(62,.slice Aa al.length ca),(63,ak (al.length:Int)),(64,ak j),(13,ak f),(14,.slice z.2.2.2.1 (z.2.2.1.length - z.1) z.2.2.2.2.1)]) (fun z w'=>pN fl.length (jC n fl cm) (yg n fl cm) f L0 z.2.1 z.2.2.1 z.1/\ja n fl (fun y _=>jK n cm (gl fl y)) (fun y=>0<=gi z.2.1 y) 2005 z.2.2.2.2.2/\St w w' (ax 2 z.2.2.2.1 (z.2.2.1.length - z.1) z.2.2.2.2.1 (oZ (z.2.2.1.drop z.1))::tG PB A fl.length c fh z.2.1 Aa ca al g z.2.2.2.2.2 [])) (fun z=>fl.length+1 - z.1) (0,L0.set f (f:Int),[f],Ao,1,M) (amz O) ⟨l5,iG,b6⟩ ?_);clear b6 bG hS yG l5 iG;rintro⟨k,L,Q,Ao,co,M⟩ e w9 ⟨l5,iG,hS⟩;dsimp only at l5 iG hS|-;have Ms:=l5.NU;have kK:=l5.MY;refine bg O (bc O O (aC O ?_));refine aM _ O (fun h3=>?_) (fun h3=>?_)
  ·have py:k<Q.length:=by omega
   obtain⟨x,hx⟩:∃x,Q.getD k 0=x:=⟨_,rfl⟩;have TH:x∈Q:=by rw [<-hx,da,fZ py];exact dQ _
   have gv:=l5.Bk x TH;have hHx:jK n cm (gl fl x):=(gv.2.2.1.of gv.2.2.2);have sA:=hl _ (C5 x gv.1);refine aA O (bc O O (aC O ?_));refine Cd.loop (α:=Nat×ai×List Nat×aj×Nat×List ni) (fun z=> [(1,.slice A2 n c2),(2,.pointer PB),(5,.slice fh fl.length fl.length),(6,.map (some g)),(7,.func (.func 282) #[] #[.pointer PB]),(62,.slice Aa al.length ca),(63,ak (al.length:Int)),(64,ak j),(13,ak f),(14,.slice z.2.2.2.1 (z.2.2.1.length - k) z.2.2.2.2.1),(85,ak n),(86,ak (z.1:Int))]) (fun z w'=>z.1<=n/\pN fl.length (jC n fl cm) (yg n fl cm) f L0 z.2.1 z.2.2.1 k/\(k<z.2.2.1.length/\z.2.2.1.getD k 0=x)/\ja n fl (fun y _=>jK n cm (gl fl y)) (fun y=>0<=gi z.2.1 y) 2005 z.2.2.2.2.2/\(∀i' y:Nat,i'<z.1->y<fl.length->jK n cm (gl fl y)->iK (gl fl y) i'=iK (gl fl x) i'->0<=gi z.2.1 y)/\St w w' (ax 2 z.2.2.2.1 (z.2.2.1.length - k) z.2.2.2.2.1 (oZ (z.2.2.1.drop k))::tG PB A fl.length c fh z.2.1 Aa ca al g z.2.2.2.2.2 [])) (fun z=>n - z.1) (0,L,Q,Ao,co,M) (amz O) ⟨aZ _,l5,⟨py,hx⟩,iG,fun i' y h=>absurd h (sX _),hS⟩ ?_;clear hS iG l5 hx TH py Ms kK h3;rintro⟨i,Li,Qi,Ao,co,M⟩ e dV ⟨hi,l5,⟨py,hx⟩,iG,oO,hS⟩;dsimp only at hi l5 py hx iG oO hS|-;refine bJ O (aM _ O (fun h4=>?_) (fun h4=>?_))
   ·have du:i<n:=by omega
    have SG:gi (oZ (Qi.drop k)) 0=(x:Int):=by
     have h9:=aeu py;rw [hx]at h9;rw [<-h9];unfold oZ;rw [List.map_drop,aaq]
    have ve:(oZ (Qi.drop k)).length=Qi.length - k:=by simp [oZ]
    have Lp:=hS.bz 0 O;refine aA O (amn (i:=0) Lp.2 O O O (by omega) (by omega) ?_);refine amo (i:=0) Lp O (by show 0<_;omega) O O ?_;refine ar O ?_;rw [SG];refine aQ (Vy PB A fl.length c n rs fl x i _ (hT.aq hS.below) (Rd.one (hS.rd 2 O)) (hS.cT hM) gv.1 (by omega) sA.1 du (by omega) sA.2) O ?_;rintro _ dZ ⟨rfl,aw⟩;have hS:=hS.aq aw.below;have LC:=fun y hy=>iG.XJ qT gv.1 du hHx (y:=y) hy
    have abY:=iG.len (iK (gl fl x) i);have R8:=fun(y:Nat) (hy:y<fl.length) (hH:jK n cm (gl fl y)) (he:iK (gl fl y) i=iK (gl fl x) i)=>he▸iG.al y i hy du hH
    generalize oS:iK (gl fl x) i=kx at*;clear aw Lp;obtain⟨sx,Ty⟩:∃sx,jd M kx=sx:=⟨_,rfl⟩;obtain⟨ys,xK⟩:∃ys,jF M kx=ys:=⟨_,rfl⟩;have oU:∀ {w':aa} {Ao:aj} {no co:Nat} {qs:ai} {L:ai},St w w' (ax 2 Ao no co qs::tG PB A fl.length c fh L Aa ca al g M [])->cg w' sx.a sx.n ys:=fun h=>by
     rw [<-Ty,<-xK];exact JM (pre:=[_,_,_,_,_]) (x:=kx) h
    rw [xK]at abY LC R8;have MQ:=(oU hS).1;refine ar O ?_;refine ao.look (v:= .slice sx.a sx.n sx.c) Dp (hS.Bz 4 rfl) rfl rfl (by rw [<-Ty];unfold jd;cases dL M kx<;>rfl) rfl ?_;refine bc O O (aC O ?_);refine Cd.loop (α:=Nat×ai×List Nat×aj×Nat) (fun z=> [(1,.slice A2 n c2),(2,.pointer PB),(5,.slice fh fl.length fl.length),(6,.map (some g)),(7,.func (.func 282) #[] #[.pointer PB]),(62,.slice Aa al.length ca),(63,ak (al.length:Int)),(64,ak j),(13,ak f),(14,.slice z.2.2.2.1 (z.2.2.1.length - k) z.2.2.2.2),(85,ak n),(86,ak i),(16,xO kx),(97,.slice sx.a sx.n sx.c),(98,ak (sx.n:Int)),(99,ak (z.1:Int))]) (fun z w'=>z.1<=sx.n/\pN fl.length (jC n fl cm) (yg n fl cm) f L0 z.2.1 z.2.2.1 k/\(k<z.2.2.1.length/\z.2.2.1.getD k 0=x)/\(∀p:Nat,p<z.1->0<=gi z.2.1 (gi ys p))/\(∀y:Nat,0<=gi Li y->0<=gi z.2.1 y)/\St w w' (ax 2 z.2.2.2.1 (z.2.2.1.length - k) z.2.2.2.2 (oZ (z.2.2.1.drop k))::tG PB A fl.length c fh z.2.1 Aa ca al g M [])) (fun z=>sx.n - z.1) (0,Li,Qi,Ao,co) (amz O) ⟨aZ _,l5,⟨py,hx⟩,fun p h=>absurd h (sX _),fun y h=>h,hS⟩ ?_;clear hS l5 py hx SG ve;rintro⟨q,L,Q,Ao,co⟩ e fg ⟨hq,l5,⟨py,hx⟩,H5,yW,hS⟩;dsimp only at hq l5 py hx H5 yW hS|-;have Ms:=l5.NU;have hLl2:=l5.len;refine bJ O (aM _ O (fun h5=>?_) (fun h5=>?_))
    ·have hqy:q<ys.length:=by omega
     have Tu:=oU hS;obtain⟨y,hy,Bj,MP⟩:=LC _ (gi_in hqy);have yG:=hS.bz 1 O;refine aA O (aD Tu.2 O (a8 Tu O (ar O ?_)));rw [hy];refine aD yG.2 O (a8 yG O (aC O ?_));refine aM _ O (fun h6=>?_) (fun h6=>?_)
     ·have Ia:=l5.meet Bj h6 (Ll.yc _ _ _ gv.2.2 (MP.link we AH));refine aA O (aD yG.2 O (lC 1 hS O O O (by omega) ?_));intro gj ic;refine ar O (eS ic O O O ?_);intro A9 lS iT;refine fk 1 iT O (iT.bz 0 O) O O O ?_;intro AZ cZ rB im;have im:=im.tail;have E3:(Q++ [y]).length - k=(Q.length - k)+1:=by rw [b8];show Q.length+1 - k=_;omega
      refine ar O (aH O (aT O (tQ ?_)));refine⟨(q+1,L.set y (f:Int),Q++ [y],AZ,cZ),by show sx.n - (q+1)<sx.n - q;omega,⟨O,O,O,O,O,O,O,O,O,aF (fun m=>Value.slice AZ m cZ) E3.symm,O,O,O,O,O,O,au⟩,by show q+1<=sx.n;omega,Ia,⟨by show k< (Q++ [y]).length;rw [b8];omega,by show(Q++ [y]).getD k 0=x;rw [aap py,hx]⟩,fun p hp=>?_,fun z hz=>KN (yW z hz),?_⟩
      ·by_cases ep:p=q
       ·subst ep;rw [hy];have h9:=aas (L:=L) (y:=y) (f:=f) (by omega);show 0<=gi (L.set y (f:Int)) y;omega
       have hp:p<q+1:=hp;obtain⟨y9,hy9,_,_⟩:=LC _ (gi_in (show p<ys.length by omega));have h9:=H5 p (by omega);rw [hy9]at h9|-;exact KN h9
      show St w rB (ax _ AZ ((Q++ [y]).length - k) cZ (oZ ((Q++ [y]).drop k))::_);rw [E3,aev (by omega)];exact im
     refine aA O (aH O (aT O (tQ ?_)));refine⟨(q+1,L,Q,Ao,co),by show sx.n - (q+1)<sx.n - q;omega,(amz O),by show q+1<=sx.n;omega,l5,⟨py,hx⟩,fun p hp=>?_,yW,hS⟩
     by_cases ep:p=q
     ·subst ep;rw [hy];show 0<=gi L y;omega
     have hp:p<q+1:=hp;exact H5 p (by omega)
    have eJ:∀y:Nat,(y:Int)∈ys->0<=gi L y:=fun y hy=>by
     obtain⟨p,hp,e9⟩:=gF.1 hy;rw [<-b9 hp]at e9;have:=H5 p (by omega)
     rwa [e9]at this
    have aa4:=(iG.mono (G':=fun y=>0<=gi L y) fun y _ h=>yW y h).del (x:=kx) fun y hy=>eJ y (xK▸hy)
    refine bn O (bo (cL O ?_));refine Xc Dp 4 (a:=kx) hS O O O ?_;intro gj ic;have ic:=XD (pre:=[_,_,_,_,_]) (x:=kx) ic;refine ar O (aH O (aT O (tQ ?_)));refine⟨(i+1,L,Q,Ao,co,iR M kx),by show n - (i+1)<n - i;omega,(amz O),by show i+1<=n;omega,l5,⟨py,hx⟩,aa4,fun i' y di Bj hH he=>?_,ic⟩
    by_cases ei:i'=i
    ·subst ei;rcases R8 y Bj hH (he.trans oS)with h9 | h9
     ·exact eJ y h9
     exact yW y h9
    exact yW y (oO i' y (by have di:i'<i+1:=di;omega) Bj hH he)
   obtain rfl:i=n:=by omega
   have Ms:=l5.NU;have wg:=l5.next py fun y hy=>by
    rw [hx]at hy;obtain⟨_,hHy,i',di,ha⟩:=hy;exact oO i' y di ha.2.1 hHy ((Jh sA.1 (hl _ (C5 y ha.2.1)).1).2 fun k9 h9 eV=>ha.2.2 k9 h9 eV).symm
   have hkQ2:k<Qi.length:=py;have uf:=XC (i:=0) (l:=1) hS O (by show 1<=Qi.length - k;omega);refine bn O (bo (cL O ?_));refine JE (l:=1) O O O (by omega) (aT O (tQ ?_));refine⟨(k+1,Li,Qi,cutAt Ao co 1,co - 1,M),by show fl.length+1 - (k+1)<fl.length+1 - k;omega,⟨O,O,O,O,O,O,O,O,O,aF (fun m=>Value.slice (cutAt Ao co 1) m (co - 1)) (Nat.sub_sub _ _ _),au⟩,wg,iG,?_⟩;show St w dV (ax _ (cutAt Ao co 1) (Qi.length - (k+1)) (co - 1) (oZ (Qi.drop (k+1)))::_);have e9:oZ (Qi.drop (k+1))=(oZ (Qi.drop k)).drop 1:=by simp [oZ]
   rw [e9,<-Nat.sub_sub];exact uf
  have py:k=Q.length:=by omega
  subst py;have Ar:=l5.end_ Ll v8 (by omega) h0 (fun S aI aE=>WV S aI aE) (fun x y h=>h.link we AH);refine bn O (bo (cL O (aH O (aT O (tQ ?_)))));exact⟨(j+1,L,M),by show al.length - (j+1)<al.length - j;omega,(amz O),by show j+1<=al.length;omega,iJ _ j f H2 hf Ar,iG,hS.tail⟩
 have uh:j=al.length:=by omega
 have sk:pf fl.length al j=fl.length:=by unfold pf;rw [if_neg (by omega)]
 rw [sk]at v8;refine bn O (bo (gq O ?_));exact ia O ⟨fh,L0,O,v8,hS.sub ((List.nil_sublist _).cons_cons _)⟩
def uset(u:Nat->ad)(k:Nat)(v:ad):Nat->ad:=fun j=>cond (Nat.beq j k) v (u j)
theorem aj6{u:Nat->ad}{v:ad}(h:u k=v):u=uset u k v:=by
 funext j;unfold uset;cases hb:Nat.beq j k with
 | true=>rw [oE hb,h];rfl
 | false=>rfl
theorem Y6(A:aj)(N c:Nat)(rs:List aO)(fl:ah)(n:Nat)(w:aa)(hT:kX w)(hM:bF w A N rs fl)(hN:N<=401)(hn:n<=5)(hl:∀x∈fl,x.length=n/\∀e∈x,0<=e/\e<=1000000)(we:fl.Nodup):
 aK prog 169 [.slice A N c] w (fun v w'=>∃A' n' c',v= .slice A' n' c'/\(A'.isNone=true↔zH n fl)/\St w w' []):=by
 have jQ:=hM.len;have C5:∀f:Nat,f<N->gl fl f∈fl:=fun f hf=>by rw [b7 (by omega)];exact dQ _
 have qT:∀x∈fl,x.length=n/\∀e∈x,0<=e:=fun x hx=> ⟨(hl x hx).1,fun e he=> ((hl x hx).2 e he).1⟩
 refine bA func169 O ntmps169 O (df O) (bg O (BZ (St.refl w) O ?_));intro g w1 aI;have aI:St w w1 (fu 214 g (dY xO Dv ([]:List ni))::(pI 2 ([]:List ni)++ [])):=aI;refine ar O (aQ (FW _ _ _ _) O ?_);rintro _ w1 ⟨rfl,rfl⟩;refine aC O ?_;refine Cd.loop (α:=Nat×List ni) (fun z=> [(0,.slice A N c),(3,.map (some g)),(12,ak N),(13,ak (z.1:Int))])
  (fun z w'=>z.1<=N/\(∀l u,dL z.2 l=some u->kh N (jC n fl l) N u.2)/\(∀a b:Nat,a<z.1->a<b->b<N->jm n fl (fun k=>gi (gl fl a) k=gi (gl fl b) k) a b)/\St w w' (fu 214 g (dY xO Dv z.2)::(pI 2 z.2++ []))) (fun z=>N - z.1) (0,[]) ⟨rfl,rfl,rfl,rfl,au⟩ ⟨aZ _,fun l u h=>by simp [dL]at h,fun a b h=>absurd h (sX _),aI⟩ ?_
 clear aI;rintro⟨a,M⟩ e w2 ⟨ha,xh,oO,hS⟩;dsimp only at ha xh oO hS|-;refine bJ O (aM _ O (fun h1=>?_) (fun h1=>?_))
 ·have CY:a<N:=by omega
  refine aA O (aH O (aC O ?_));refine Cd.loop (α:=Nat×List ni) (fun z=> [(0,.slice A N c),(3,.map (some g)),(12,ak N),(13,ak a),(4,ak a),(5,ak (z.1:Int))])
   (fun z w'=> (a<z.1/\z.1<=N)/\(∀l u,dL z.2 l=some u->kh N (jC n fl l) N u.2)/\(∀b:Nat,a<b->b<z.1->jm n fl (fun k=>gi (gl fl a) k=gi (gl fl b) k) a b)/\St w w' (fu 214 g (dY xO Dv z.2)::(pI 2 z.2++ []))) (fun z=>N - z.1) (a+1,M) ⟨rfl,rfl,rfl,rfl,rfl,rfl,au⟩ ⟨⟨Nat.lt_succ_self _,CY⟩,xh,fun b h h'=>by omega,hS⟩ ?_
  clear hS xh;rintro⟨b,M⟩ e w3 ⟨⟨eB,HI⟩,xh,HR,hS⟩;dsimp only at eB HI xh HR hS|-;refine bg O (aQ (FW _ _ _ _) O ?_);rintro _ w3 ⟨rfl,rfl⟩;refine aC O (aM _ O (fun h2=>?_) (fun h2=>?_))
  ·have hb:b<N:=by omega
   have Ae:=hS.cT hM;have ur:=Ae.at_ (i:=(a:Int)) (by omega) (by omega);have sD:=Ae.at_ (i:=(b:Int)) (by omega) (by omega);have Ma:=hl _ (C5 a CY);have hlB:=hl _ (C5 b hb);have Ib:(rg rs a).n=n:=by rw [<-ur.1];exact Ma.1
   have hnb:(rg rs b).n=n:=by rw [<-sD.1];exact hlB.1
   have lL:=YK (n:=n) qT (show a<fl.length by omega) (show b<fl.length by omega);have dh:(nZ (gl fl a) (gl fl b)).length=n:=by rw [Cw];exact Ma.1
   have LK:∀x∈nZ (gl fl a) (gl fl b),-1<=x/\x<=1000000:=fun x hx=>by
    obtain⟨k,hk,rfl⟩:=dA.1 hx;have hk:=il.1 hk
    split
    ·have:=Ma.2 _ (gi_in hk);omega
    ·omega
   refine dw O ?_;refine eo [xS (A) (N) (c),xI ((a:Int)),xP (ay (A) ((a:Int)).toNat),xS ((rg (rs) ((a:Int))).a) ((rg (rs) ((a:Int))).n) ((rg (rs) ((a:Int))).c),xS (A) (N) (c),xI ((b:Int)),xP (ay (A) ((b:Int)).toNat),xS ((rg (rs) ((b:Int))).a) ((rg (rs) ((b:Int))).n) ((rg (rs) ((b:Int))).c),.pr (fun v w'=>∃A6 c6,v= .slice A6 n c6/\cg w' A6 n (nZ (gl fl a) (gl fl b))),.pr (fun v w'=>∃A6 c6,v= .slice A6 n c6/\cg w' A6 n (nZ (gl fl a) (gl fl b)))] rfl (lx (lx (lx (lx (lx (lx (lx (lx (de.2 ⟨Yd.dp (fun v w w' h hb=>by obtain⟨A6,c6,hv,hT⟩:=h;exact⟨A6,c6,hv,hT.aq hb⟩),(de.2 ⟨Yd.dp (fun v w w' h hb=>by obtain⟨A6,c6,hv,hT⟩:=h;exact⟨A6,c6,hv,hT.aq hb⟩),(fun _ h=>by cases h)⟩)⟩))))))))) ?_ ?_
   ·refine⟨Dr O,Dr O,fun _ _ hb _ _=>aD (Ae.top.aq hb).2 O Az,fun _ _ hb _ _=>bW (Ae.top.aq hb) O Az,Dr O,Dr O,fun _ _ hb _ _=>aD (Ae.top.aq hb).2 O Az,fun _ _ hb _ _=>bW (Ae.top.aq hb) O Az,?_,?_,au⟩
    ·intro e1 w1 hb hp aW;refine aQ (Qe (rg rs a).a (rg rs b).a (rg rs a).n (rg rs a).c (rg rs b).n (rg rs b).c (gl fl a) (gl fl b) _ (ur.aq hb) (sD.aq hb) (by omega) (by omega)) O ?_;rintro _ w9 ⟨A6,c6,rfl,aw⟩;refine ao.n ?_;exact fM.dn aw.below ⟨A6,c6,by rw [dh],by have h9:=aw.bz 0 O;rw [dh]at h9;exact h9⟩
    ·intro e1 w1 hb hp aW;obtain⟨A6,c6,h32,hT⟩:=(hp 8 (by decide) rfl _ _ rfl rfl);refine lW O (by exact h32) O (ao.n ?_);exact fM.dn (Below.refl _ _) ⟨A6,c6,O,hT⟩
   intro u w4 og hu;obtain⟨A6,c6,h6,je⟩:=hu 9 _ rfl;rw [aj6 h6];have aX:=hS.aq og;generalize pq:nZ (gl fl a) (gl fl b)=cm at*;clear hu hS Ae ur sD;refine jW O ?_;refine aQ (Bm A6 n c6 cm _ (hT.aq aX.below) je (fun x hx=>by have:=LK x hx;omega) (by omega)) O ?_;rintro _ w5 ⟨rfl,aw⟩;have aY:=aX.aq aw.below;have je:=je.aq aw.below;clear aw aX;refine ar O ?_;refine Xl (v:= .slice (jd M cm).a (jd M cm).n (jd M cm).c) Dp (x:=cm) (aY.Bz 0 rfl) rfl rfl (by unfold jd;cases dL M cm<;>rfl) rfl ?_;refine ar O ?_
   first | refine fv rfl rfl ?_ | refine gA rfl rfl ?_
   refine aC O ?_;cases LU:dL M cm with
   | none => --dup 2
    refine Cd.gC O (aA O (aQ (ahm A N c rs fl n A6 c6 cm _ (hT.aq aY.below) (aY.cT hM) je hN hn hl we) O ?_));rintro _ w6 ⟨A8,L,rfl,hL,aw⟩;have bk:=aY.call aw;refine ar O (B3 O Dp 1 (a:=cm) (u:=(⟨A8,N,N⟩,L)) bk O O O O ?_);intro w7 bG;have bP:cg w7 A8 N L:=bG.bz 0 O;have b6:St w w7 (fu 214 g (dY xO Dv (eO M cm (⟨A8,N,N⟩,L)))::(pI 2 (eO M cm (⟨A8,N,N⟩,L))++ [])):=O7 (M:=M) (x:=cm) (u:=(⟨A8,N,N⟩,L)) (pre:=[_]) (by rw [Hf LU];exact bG);have abd:∀l u,dL (eO M cm (⟨A8,N,N⟩,L)) l=some u->kh N (jC n fl l) N u.2:=fun l u h=>by
     rw [Et]at h
     split at h
     ·rename_i e;subst e;injection h with h
      subst h;exact hL
     ·exact xh l u h
    clear bG bk aY aw je;have CS:=hL.1;have cI:=bP.1;have ET:=hL.done (DZ n fl cm |>fun h=>jQ▸h) lL.1 lL.2.1;refine aC O (eo [xS (A8) (N) (N),xI ((a:Int)),xP (ay (A8) ((a:Int)).toNat),xI (gi (L) ((a:Int))),xS (A8) (N) (N),xI ((b:Int)),xP (ay (A8) ((b:Int)).toNat),xI (gi (L) ((b:Int))),xB (decide (¬(gi (L) ((a:Int)))=(gi (L) ((b:Int)))))] O (eL O) ?_ ?_)
    ·exact⟨Dr O,Dr O,fun _ _ hb _ _=>aD (bP.aq hb).2 O Az,fun _ _ hb _ _=>a8 (bP.aq hb) O Az,Dr O,Dr O,fun _ _ hb _ _=>aD (bP.aq hb).2 O Az,fun _ _ hb _ _=>a8 (bP.aq hb) O Az,Dr O,au⟩
    intro u w9 pk _;have bL:=b6.aq pk;refine eP O (aM _ O (fun h3=>?_) (fun h3=>?_))
    ·refine aA O (fS [(a:Int),(b:Int)] bL O O (by decide) (by decide) O O fun A9 dV bN=>bI O (fz (eW (fz (eW ?_)))));refine ia O ⟨A9,2,2,O,⟨fun h=>?_,fun h=>?_⟩,bN.none⟩
     ·rw [D8 (bN.bz 0 rfl).2 (by decide)]at h;cases h
     ·exact absurd (ET.2 (lL.2.2.2 (h a b eB (by omega)))) h3
    ·have dm:=lL.2.2.1 (ET.1 (jb.1 h3));refine aA O (aH O (aT O (tQ ?_)));exact⟨(b+1,eO M cm (⟨A8,N,N⟩,L)),by show N - (b+1)<N - b;omega,(amz O),⟨Nat.lt_succ_of_lt eB,hb⟩,abd,fun b' h4 h5=>by
      by_cases e9:b'=b
      ·subst e9;exact dm
      ·exact HR b' h4 (by have h5:b'<b+1:=h5;omega),bL⟩
   | some u0=>
    have hL:kh N (jC n fl cm) N (jF M cm):=by
     rw [(KR LU).2];exact xh cm u0 LU
    have bP:cg w5 (jd M cm).a (jd M cm).n (jF M cm):=JM (pre:=[_]) (x:=cm) aY;refine Cd.fC O ?_;have CS:=hL.1;have cI:=bP.1;have ET:=hL.done (DZ n fl cm |>fun h=>jQ▸h) lL.1 lL.2.1;refine dw O (eo [xS ((jd M cm).a) ((jd M cm).n) ((jd M cm).c),xI ((a:Int)),xP (ay ((jd M cm).a) ((a:Int)).toNat),xI (gi (jF M cm) ((a:Int))),xS ((jd M cm).a) ((jd M cm).n) ((jd M cm).c),xI ((b:Int)),xP (ay ((jd M cm).a) ((b:Int)).toNat),xI (gi (jF M cm) ((b:Int))),xB (decide (¬(gi (jF M cm) ((a:Int)))=(gi (jF M cm) ((b:Int)))))] O (eL O) ?_ ?_)
    ·exact⟨Dr O,Dr O,fun _ _ hb _ _=>aD (bP.aq hb).2 O Az,fun _ _ hb _ _=>a8 (bP.aq hb) O Az,Dr O,Dr O,fun _ _ hb _ _=>aD (bP.aq hb).2 O Az,fun _ _ hb _ _=>a8 (bP.aq hb) O Az,Dr O,au⟩
    intro u w9 pk _;have bL:=aY.aq pk;refine eP O (aM _ O (fun h3=>?_) (fun h3=>?_))
    ·refine aA O (fS [(a:Int),(b:Int)] bL O O (by decide) (by decide) O O fun A9 dV bN=>bI O (fz (eW (fz (eW ?_)))));refine ia O ⟨A9,2,2,O,⟨fun h=>?_,fun h=>?_⟩,bN.none⟩
     ·rw [D8 (bN.bz 0 rfl).2 (by decide)]at h;cases h
     ·exact absurd (ET.2 (lL.2.2.2 (h a b eB (by omega)))) h3
    ·have dm:=lL.2.2.1 (ET.1 (jb.1 h3));refine aA O (aH O (aT O (tQ ?_)));exact⟨(b+1,M),by show N - (b+1)<N - b;omega,(amz O),⟨Nat.lt_succ_of_lt eB,hb⟩,xh,fun b' h4 h5=>by
      by_cases e9:b'=b
      ·subst e9;exact dm
      ·exact HR b' h4 (by have h5:b'<b+1:=h5;omega),bL⟩
  ·have qS:b=N:=by omega
   refine bn O (bo (cL O (aH O (aT O (tQ ?_)))));exact⟨(a+1,M),by show N - (a+1)<N - a;omega,(amz O),CY,xh,fun a' b' h3 h4 h5=>by
    by_cases e9:a'=a
    ·subst e9;exact HR b' h4 (by omega)
    ·exact oO a' b' (by have h3:a'<a+1:=h3;omega) h4 h5,hS⟩
 ·have xk:a=N:=by omega
  refine bn O (bo (gq O ?_));exact ia O ⟨none,0,0,O,⟨fun _ a' b' h3 h4=>oO a' b' (by omega) h3 (by omega),fun _=>O⟩,hS.none⟩
theorem I3{e:Int}:e∈zt xs x↔(0<=e/\e<xs.length)/\gi xs e=x:=by
 unfold zt;rw [gg,jU,lg]
theorem Je{n:Int}{e:Int}(h0:0<=i)(h1:i<n):e∈o8 n R (i - 1)↔yi R i e:=by
 unfold o8 yi
 split
 ·rw [I3];exact⟨fun h=> .inr ⟨h.1,by omega,h.2⟩,fun h=>h.elim (fun h=>by omega) fun h=> ⟨h.1,h.2.2⟩⟩
 rw [gG];exact⟨fun h=> .inl ⟨h,by omega⟩,fun h=>h.elim (fun h=>h.1) fun h=>by omega⟩
theorem Jd{n:Int}{f:Int}(h0:0<=i)(h1:i<n):f∈o8 n R (i+1)↔yh n R i f:=by
 unfold o8 yh
 split
 ·rw [I3];exact⟨fun h=> .inr ⟨h.1,by omega,h.2⟩,fun h=>h.elim (fun h=>by omega) fun h=> ⟨h.1,h.2.2⟩⟩
 rw [gG];exact⟨fun h=> .inl ⟨h,by omega⟩,fun h=>h.elim (fun h=>h.1) fun h=>by omega⟩
theorem aiy{n:Int}(h0:0<=i)(h1:i<n):o8 n R i=zt R i:=by
 unfold o8;rw [aB (by omega)]
theorem N5{n:Int}(h:R.length<=500):(o8 n R i).length<=500:=by
 unfold o8
 split
 ·refine nU (rL _ _) ?_;rw [bS,fO,qB];exact h
 exact(by decide:1<=500)
theorem VE{n:Int}{e:Int}(h:e∈o8 n R i):e= -1\/(0<=e/\e<R.length):=by
 unfold o8 at h
 split at h
 ·exact .inr (I3.1 h).1
 exact .inl (gG.1 h)
def s8(P:Int->Prop)[DecidablePred P](xs:ai)(q:Nat):Nat:=((xs.take q).filter fun x=>decide (P x)).length
section
variable {P:Int->Prop} [DecidablePred P] {xs:ai} {q:Nat}
theorem Kf:s8 P xs q<=q:=by
 unfold s8;refine nU (rL _ _) ?_;rw [na];omega
theorem Kh(h:q<xs.length)(hp:P (gi xs q)):s8 P xs (q+1)=s8 P xs q+1:=by
 unfold s8;rw [DL h,rJ,b8];simp [hp]
theorem Kg(h:q<xs.length)(hp:¬P (gi xs q)):s8 P xs (q+1)=s8 P xs q:=by
 unfold s8;rw [DL h,rJ,b8];simp [hp]
end
def pP(B:ah)(e f x:Int):Prop:=(e<0\/e∈gl B x)/\(f<0\/x∈gl B f)
instance (B:ah)(e f:Int):DecidablePred (pP B e f):=fun x=>by unfold pP;infer_instance
theorem YX{R:ai}{B:ah}{i e f:Int}:s8 (pP B e f) (zt R i) (zt R i).length=(nh R B i e f).length:=by
 unfold s8 nh zt;rw [List.take_length,List.filter_filter]
 congr 1
 refine List.filter_congr fun x _=>?_
 rw [<-Bool.decide_and];refine kk.2 ?_;unfold pP;exact⟨fun h=> ⟨h.2,h.1⟩,fun h=> ⟨h.2,h.1⟩⟩
theorem Zt(n:Int)(A D:aj)(cA cD:Nat)(R:ai)(rs:List aO)(B:ah)(w:aa)(hR:cg w A R.length R)(hB:bF w D B.length rs B)(hP:gr n R B):
 aK prog 168 [.agg #[ak n,.slice A R.length cA,.slice D B.length cD]] w (fun v w'=>∃A' n' c',v= .slice A' n' c'/\(A'.isNone=true↔uN n R B)/\St w w' []):=by
 have hn:=hP.n1;have sq:=hP.pe;have hle:=hP.len;have bP:=fun(e:Int) (h0:0<=e) (h:e< (R.length:Int))=> (hP.at_ h0 h).1
 have cI:∀e:Int,0<=e->e<R.length->(gl B e).length<=500:=fun e h0 h=>by
  have:=sJ (N:=R.length) (bP e h0 h).nodup fun x hx=>by have:=((hP.at_ h0 h).2.1 x hx).1;omega
  omega
 refine bA func168 O ntmps168 O (df O) (bg O (nV (St.refl w) O O ?_));intro A1 w1 aI;have h1:Rd w1 A1 3 (fun j=> [Value.int .i64 n,.slice A R.length cA,.slice D B.length cD].getD j undef):=aI.rd 0 O;have hR:=aI.gh hR;have hB:=aI.cT hB;have aI:=aI.none;refine ar O (aU h1 O (iy (j:=0) h1 (by exact aF Value.pointer O) O O O O (aC O ?_)));refine Cd.loop (α:=Nat) (fun i=> [(1,.pointer A1),(14,ak n),(15,ak i)]) (fun i w'=> (i:Int)<=n/\(∀i' e f:Int,0<=i'->i'< (i:Int)->e∈o8 n R (i' - 1)->f∈o8 n R (i'+1)->(0<=e->0<=f->e∈gl B f)->(nh R B i' e f).length=2)/\St w1 w' []) (fun i=>n.toNat - i) 0 (amz O) ⟨by show((0:Nat):Int)<=n;omega,fun i' e f h h'=>by have h':i'< ((0:Nat):Int):=h';omega,St.refl _⟩ ?_;rintro i e w2 ⟨hi,oO,aw⟩;have h1:=Rd.below h1 aw.below;have hR:=aw.gh hR;have hB:=aw.cT hB;have aE:=aI.aq aw.below;refine bJ O (aM _ O (fun h2=>?_) (fun h2=>?_))
 ·have Mg:=aiy (R:=R) (show 0<=(i:Int) by omega) h2;have acX:=N5 (n:=n) (i:=(i:Int)) sq;have acU:=N5 (n:=n) (i:=(i:Int) - 1) sq;have acH:=N5 (n:=n) (i:=(i:Int)+1) sq;have acY:=fun x=>I3 (xs:=R) (x:=(i:Int)) (e:=x)
  refine aA O (aQ (NI A1 A D n R.length cA B.length cD R i _ h1 hR (by omega) (by omega)) O ?_);rintro _ w3 ⟨A4,c4,rfl,qW⟩;have h4:=qW.bz 0 O;refine ar O (aH O ?_);refine aQ (NI A1 A D n R.length cA B.length cD R ((i:Int)+1) _ (Rd.below h1 qW.below) (qW.gh hR) (by omega) (by omega)) O ?_;rintro _ w4 ⟨A5,c5,rfl,nD⟩;have h5:=nD.bz 0 O;have h4:=h4.aq nD.below;refine ar O (eh O ?_);refine aQ (NI A1 A D n R.length cA B.length cD R ((i:Int) - 1) _ (Rd.below h1 (qW.below.trans (nD.below.mono qW.below.size))) (nD.gh (qW.gh hR)) (by omega) (by omega)) O ?_;rintro _ w5 ⟨A6,c6,rfl,Bg⟩;have h6:=Bg.bz 0 O;have h4:=h4.aq Bg.below;have h5:=h5.aq Bg.below;have lI:=(qW.below.trans (nD.below.mono qW.below.size));have lI:=lI.trans (Bg.below.mono lI.size);have h1:=Rd.below h1 lI;have hB:=hB.aq lI;have aY:=aE.aq lI;have adS:=aw.aq lI;clear qW nD Bg aw aE;obtain⟨ms,S2⟩:∃ms,o8 n R i=ms:=⟨_,rfl⟩;obtain⟨mu,AJ⟩:∃mu,o8 n R ((i:Int) - 1)=mu:=⟨_,rfl⟩;obtain⟨iI,AA⟩:∃iI,o8 n R ((i:Int)+1)=iI:=⟨_,rfl⟩;rw [S2]at h4 acX Mg;rw [AA]at h5 acH;rw [AJ]at h6 acU;have yO:=fun e f=>YX (R:=R) (B:=B) (i:=(i:Int)) (e:=e) (f:=f)
  rw [<-Mg]at yO;have AL:∀x∈ms,(0<=x/\x<R.length):=fun x hx=> ((acY x).1 (Mg▸hx)).1
  have H8:∀x∈mu,x= -1\/(0<=x/\x<R.length):=fun x hx=>VE (AJ▸hx)
  have hhr:∀x∈iI,x= -1\/(0<=x/\x<R.length):=fun x hx=>VE (AA▸hx)
  rw [S2,AJ,AA];refine bc O O (aC O ?_);refine Cd.loop (α:=Nat) (fun j=> [(1,.pointer A1),(14,ak n),(15,ak i),(3,ak i),(4,.slice A4 ms.length c4),(5,.slice A5 iI.length c5),(25,.slice A6 mu.length c6),(26,ak (mu.length:Int)),(27,ak j)]) (fun j w'=>j<=mu.length/\w'=w5/\∀p:Nat,p<j->∀f∈iI,(0<=gi mu p->0<=f->gi mu p∈gl B f)->(nh R B i (gi mu p) f).length=2) (fun j=>mu.length - j) 0 (amz O) ⟨aZ _,O,fun p h=>absurd h (sX _)⟩ ?_;rintro j e w6 ⟨hj,rfl,eZ⟩;refine bJ O (aM _ O (fun h7=>?_) (fun h7=>?_))
  ·have lK:j<mu.length:=by omega
   refine aA O (aD h6.2 O (a8 h6 O ?_));refine ar O (bc O O (aC O ?_));have LR:=H8 _ (gi_in lK);generalize HS:gi mu j=ee at*;refine Cd.loop (α:=Nat) (fun k=> [(1,.pointer A1),(14,ak n),(15,ak i),(3,ak i),(4,.slice A4 ms.length c4),(5,.slice A5 iI.length c5),(25,.slice A6 mu.length c6),(26,ak (mu.length:Int)),(27,ak j),(7,ak ee),(31,.slice A5 iI.length c5),(32,ak (iI.length:Int)),(33,ak k)]) (fun k w'=>k<=iI.length/\w'=w6/\∀p:Nat,p<k->(0<=ee->0<=gi iI p->ee∈gl B (gi iI p))->(nh R B i ee (gi iI p)).length=2) (fun k=>iI.length - k) 0 (amz O) ⟨aZ _,O,fun p h=>absurd h (sX _)⟩ ?_;rintro k e w7 ⟨hk,rfl,dt⟩;refine bJ O (aM _ O (fun h8=>?_) (fun h8=>?_))
   ·have kK:k<iI.length:=by omega
    refine aA O (aD h5.2 O (a8 h5 O (ar O ?_)));have oQ:=hhr _ (gi_in kK);generalize HU:gi iI k=ff at*;have oW:((0<=ee->0<=ff->ee∈gl B ff)->(nh R B i ee ff).length=2)->∀p:Nat,p<k+1->(0<=ee->0<=gi iI p->ee∈gl B (gi iI p))->(nh R B i ee (gi iI p)).length=2:=fun h p hp=>by
     by_cases ep:p=k
     ·subst ep;rw [HU];exact h
     exact dt p (by omega)
    refine ew 39 O (fun h9=>?_) (fun h9=>?_)
    ·refine av O (ar O (av O (ar O ?_)));refine ew 43 O (fun eV=>?_) (fun eV=>?_)
     ·refine av O (ar O (av O (ar O (av O ?_))));refine aQ (vu A1 A D cA cD n R rs B ee ff _ h1 hB (by omega) (bP ff eV (by omega)) (by have:=cI ff eV (by omega);omega)) O ?_;rintro _ w8 ⟨rfl,rfl⟩;refine av O ?_
      first | refine fv rfl rfl ?_ | refine gA rfl rfl ?_
      refine aC O (aM _ O (fun jO=>?_) (fun jO=>?_))
      ·refine aA O (aH O (aT O (tQ ?_)));exact⟨k+1,by show iI.length - (k+1)<iI.length - k;omega,(amz O),by omega,O,oW fun h=>absurd (h h9 eV) jO⟩
      have qU:0<=ee->0<=ff->ee∈gl B ff:=fun _ _=>jb.1 jO
      refine aA O (bc O O (aC O ?_));refine Cd.loop (α:=Nat) (fun q=> [(1,.pointer A1),(14,ak n),(15,ak i),(3,ak i),(4,.slice A4 ms.length c4),(5,.slice A5 iI.length c5),(25,.slice A6 mu.length c6),(26,ak (mu.length:Int)),(27,ak j),(7,ak ee),(31,.slice A5 iI.length c5),(32,ak (iI.length:Int)),(33,ak k),(9,ak ff),(10,ak ((s8 (pP B ee ff) ms q:Nat):Int)),(49,.slice A4 ms.length c4),(50,ak (ms.length:Int)),(51,ak q)]) (fun q w'=>q<=ms.length/\w'=w8) (fun q=>ms.length - q) 0 (amz O) ⟨aZ _,O⟩ ?_;rintro q e w9 ⟨hq,rfl⟩;have dh:=Kf (P:=pP B ee ff) (xs:=ms) (q:=q);refine bJ O (aM _ O (fun CM=>?_) (fun CM=>?_))
      ·have qi:q<ms.length:=by omega
       have hx:=AL _ (gi_in qi);have jS:=Kh (P:=pP B ee ff) qi;have gD:=Kg (P:=pP B ee ff) qi;refine aA O (aD h4.2 O (a8 h4 O (ar O ?_)));generalize TK:gi ms q=xx at*;refine ew 57 O (fun nu=>?_) (fun nu=>?_)
       ·refine aJ O (aJ O (aJ O (ar O (av O (ar O (av O (ar O (av O (ar O ?_)))))))));refine ew 65 O (fun l0=>?_) (fun l0=>?_)
        ·refine aJ O (aJ O (aJ O (av O (aC O ?_))));refine Cd.gC O (aA O (aH O (ar O (aH O (aT O (tQ ?_))))));exact⟨q+1,by show ms.length - (q+1)<ms.length - q;omega,⟨O,O,O,O,O,O,O,O,O,O,O,O,O,O,aF (fun m:Nat=>Value.int .i64 (m:Int)) (jS ⟨.inl nu,.inl l0⟩).symm,O,O,O,au⟩,by omega,O⟩
        refine av O (ar O (av O (ar O (av O ?_))));refine aQ (vu A1 A D cA cD n R rs B xx ff _ h1 hB (by omega) (bP ff (by omega) (by omega)) (by have:=cI ff (by omega) (by omega);omega)) O ?_;rintro _ dV ⟨rfl,rfl⟩;refine av O (aC O ?_);refine aM _ O (fun l4=>?_) (fun l4=>?_)
        ·refine aA O (aH O (ar O (aH O (aT O (tQ ?_)))));exact⟨q+1,by show ms.length - (q+1)<ms.length - q;omega,⟨O,O,O,O,O,O,O,O,O,O,O,O,O,O,aF (fun m:Nat=>Value.int .i64 (m:Int)) (jS ⟨.inl nu,.inr l4⟩).symm,O,O,O,au⟩,by omega,O⟩
        refine aA O (aH O (aT O (tQ ?_)));exact⟨q+1,by show ms.length - (q+1)<ms.length - q;omega,⟨O,O,O,O,O,O,O,O,O,O,O,O,O,O,aF (fun m:Nat=>Value.int .i64 (m:Int)) (gD fun h=>h.2.elim l0 l4).symm,O,O,O,au⟩,by omega,O⟩
       refine av O (ar O (av O (ar O (av O ?_))));refine aQ (vu A1 A D cA cD n R rs B ee xx _ h1 hB (by omega) (bP xx (by omega) (by omega)) (by have:=cI xx (by omega) (by omega);omega)) O ?_;rintro _ dV ⟨rfl,rfl⟩;refine ar O (ew 62 O (fun sb=>?_) (fun sb=>?_))
       ·refine av O (ar O (av O (ar O (av O (ar O ?_)))));refine ew 65 O (fun l0=>?_) (fun l0=>?_)
        ·refine aJ O (aJ O (aJ O (av O (aC O ?_))));refine Cd.gC O (aA O (aH O (ar O (aH O (aT O (tQ ?_))))));exact⟨q+1,by show ms.length - (q+1)<ms.length - q;omega,⟨O,O,O,O,O,O,O,O,O,O,O,O,O,O,aF (fun m:Nat=>Value.int .i64 (m:Int)) (jS ⟨.inr sb,.inl l0⟩).symm,O,O,O,au⟩,by omega,O⟩
        refine av O (ar O (av O (ar O (av O ?_))));refine aQ (vu A1 A D cA cD n R rs B xx ff _ h1 hB (by omega) (bP ff (by omega) (by omega)) (by have:=cI ff (by omega) (by omega);omega)) O ?_;rintro _ dZ ⟨rfl,rfl⟩;refine av O (aC O ?_);refine aM _ O (fun l4=>?_) (fun l4=>?_)
        ·refine aA O (aH O (ar O (aH O (aT O (tQ ?_)))));exact⟨q+1,by show ms.length - (q+1)<ms.length - q;omega,⟨O,O,O,O,O,O,O,O,O,O,O,O,O,O,aF (fun m:Nat=>Value.int .i64 (m:Int)) (jS ⟨.inr sb,.inr l4⟩).symm,O,O,O,au⟩,by omega,O⟩
        refine aA O (aH O (aT O (tQ ?_)));exact⟨q+1,by show ms.length - (q+1)<ms.length - q;omega,⟨O,O,O,O,O,O,O,O,O,O,O,O,O,O,aF (fun m:Nat=>Value.int .i64 (m:Int)) (gD fun h=>h.2.elim l0 l4).symm,O,O,O,au⟩,by omega,O⟩
       refine aJ O (aJ O (aJ O (fA O O O O (fA O O O O (fA O O O O (aJ O (aC O ?_)))))));refine Cd.fC O (aA O (aH O (aT O (tQ ?_))));exact⟨q+1,by show ms.length - (q+1)<ms.length - q;omega,⟨O,O,O,O,O,O,O,O,O,O,O,O,O,O,aF (fun m:Nat=>Value.int .i64 (m:Int)) (gD fun h=>h.1.elim nu sb).symm,O,O,O,au⟩,by omega,O⟩
      have y7:q=ms.length:=by omega
      subst y7;have wb:=yO ee ff;refine bn O (bo (rI O ?_));refine aM _ O (fun nu=>?_) (fun nu=>?_)
      ·refine aA O (fS [(i:Int),ee,ff] aY O O (by decide) (by decide) O O fun A9 dV bN=>bI O (fz (eW (fz (eW (fz (eW ?_)))))));refine ia O ⟨A9,3,3,O,⟨fun h=>?_,fun h=>?_⟩,bN.none⟩
       ·rw [D8 (bN.bz 0 rfl).2 (by decide)]at h;cases h
       have HK:=h (i:Int) ee ff (by omega) h2 ((Je (by omega) h2).1 (by rw [AJ,<-HS];exact gi_in lK)) ((Jd (by omega) h2).1 (by rw [AA,<-HU];exact gi_in kK)) qU;omega
      refine aA O (aH O (aT O (tQ ?_)));exact⟨k+1,by show iI.length - (k+1)<iI.length - k;omega,(amz O),by omega,O,oW fun _=>by omega⟩
     have qU:0<=ee->0<=ff->ee∈gl B ff:=fun _ h=>absurd h eV
     refine aJ O (aJ O (aJ O (aJ O (aC O ?_))));refine Cd.fC O (aA O (bc O O (aC O ?_)));refine Cd.loop (α:=Nat) (fun q=> [(1,.pointer A1),(14,ak n),(15,ak i),(3,ak i),(4,.slice A4 ms.length c4),(5,.slice A5 iI.length c5),(25,.slice A6 mu.length c6),(26,ak (mu.length:Int)),(27,ak j),(7,ak ee),(31,.slice A5 iI.length c5),(32,ak (iI.length:Int)),(33,ak k),(9,ak ff),(10,ak ((s8 (pP B ee ff) ms q:Nat):Int)),(49,.slice A4 ms.length c4),(50,ak (ms.length:Int)),(51,ak q)]) (fun q w'=>q<=ms.length/\w'=w7) (fun q=>ms.length - q) 0 (amz O) ⟨aZ _,O⟩ ?_;rintro q e w9 ⟨hq,rfl⟩;have dh:=Kf (P:=pP B ee ff) (xs:=ms) (q:=q);refine bJ O (aM _ O (fun CM=>?_) (fun CM=>?_))
     ·have qi:q<ms.length:=by omega
      have hx:=AL _ (gi_in qi);have jS:=Kh (P:=pP B ee ff) qi;have gD:=Kg (P:=pP B ee ff) qi;refine aA O (aD h4.2 O (a8 h4 O (ar O ?_)));generalize TK:gi ms q=xx at*;refine ew 57 O (fun nu=>?_) (fun nu=>?_)
      ·refine aJ O (aJ O (aJ O (ar O (av O (ar O (av O (ar O (av O (ar O ?_)))))))));refine ew 65 O (fun l0=>?_) (fun l0=>?_)
       ·refine aJ O (aJ O (aJ O (av O (aC O ?_))));refine Cd.gC O (aA O (aH O (ar O (aH O (aT O (tQ ?_))))));exact⟨q+1,by show ms.length - (q+1)<ms.length - q;omega,⟨O,O,O,O,O,O,O,O,O,O,O,O,O,O,aF (fun m:Nat=>Value.int .i64 (m:Int)) (jS ⟨.inl nu,.inl l0⟩).symm,O,O,O,au⟩,by omega,O⟩
       refine av O (ar O (av O (ar O (av O ?_))));refine aQ (vu A1 A D cA cD n R rs B xx ff _ h1 hB (by omega) (bP ff (by omega) (by omega)) (by have:=cI ff (by omega) (by omega);omega)) O ?_;rintro _ dV ⟨rfl,rfl⟩;refine av O (aC O ?_);refine aM _ O (fun l4=>?_) (fun l4=>?_)
       ·refine aA O (aH O (ar O (aH O (aT O (tQ ?_)))));exact⟨q+1,by show ms.length - (q+1)<ms.length - q;omega,⟨O,O,O,O,O,O,O,O,O,O,O,O,O,O,aF (fun m:Nat=>Value.int .i64 (m:Int)) (jS ⟨.inl nu,.inr l4⟩).symm,O,O,O,au⟩,by omega,O⟩
       refine aA O (aH O (aT O (tQ ?_)));exact⟨q+1,by show ms.length - (q+1)<ms.length - q;omega,⟨O,O,O,O,O,O,O,O,O,O,O,O,O,O,aF (fun m:Nat=>Value.int .i64 (m:Int)) (gD fun h=>h.2.elim l0 l4).symm,O,O,O,au⟩,by omega,O⟩
      refine av O (ar O (av O (ar O (av O ?_))));refine aQ (vu A1 A D cA cD n R rs B ee xx _ h1 hB (by omega) (bP xx (by omega) (by omega)) (by have:=cI xx (by omega) (by omega);omega)) O ?_;rintro _ dV ⟨rfl,rfl⟩;refine ar O (ew 62 O (fun sb=>?_) (fun sb=>?_))
      ·refine av O (ar O (av O (ar O (av O (ar O ?_)))));refine ew 65 O (fun l0=>?_) (fun l0=>?_)
       ·refine aJ O (aJ O (aJ O (av O (aC O ?_))));refine Cd.gC O (aA O (aH O (ar O (aH O (aT O (tQ ?_))))));exact⟨q+1,by show ms.length - (q+1)<ms.length - q;omega,⟨O,O,O,O,O,O,O,O,O,O,O,O,O,O,aF (fun m:Nat=>Value.int .i64 (m:Int)) (jS ⟨.inr sb,.inl l0⟩).symm,O,O,O,au⟩,by omega,O⟩
       refine av O (ar O (av O (ar O (av O ?_))));refine aQ (vu A1 A D cA cD n R rs B xx ff _ h1 hB (by omega) (bP ff (by omega) (by omega)) (by have:=cI ff (by omega) (by omega);omega)) O ?_;rintro _ dZ ⟨rfl,rfl⟩;refine av O (aC O ?_);refine aM _ O (fun l4=>?_) (fun l4=>?_)
       ·refine aA O (aH O (ar O (aH O (aT O (tQ ?_)))));exact⟨q+1,by show ms.length - (q+1)<ms.length - q;omega,⟨O,O,O,O,O,O,O,O,O,O,O,O,O,O,aF (fun m:Nat=>Value.int .i64 (m:Int)) (jS ⟨.inr sb,.inr l4⟩).symm,O,O,O,au⟩,by omega,O⟩
       refine aA O (aH O (aT O (tQ ?_)));exact⟨q+1,by show ms.length - (q+1)<ms.length - q;omega,⟨O,O,O,O,O,O,O,O,O,O,O,O,O,O,aF (fun m:Nat=>Value.int .i64 (m:Int)) (gD fun h=>h.2.elim l0 l4).symm,O,O,O,au⟩,by omega,O⟩
      refine aJ O (aJ O (aJ O (fA O O O O (fA O O O O (fA O O O O (aJ O (aC O ?_)))))));refine Cd.fC O (aA O (aH O (aT O (tQ ?_))));exact⟨q+1,by show ms.length - (q+1)<ms.length - q;omega,⟨O,O,O,O,O,O,O,O,O,O,O,O,O,O,aF (fun m:Nat=>Value.int .i64 (m:Int)) (gD fun h=>h.1.elim nu sb).symm,O,O,O,au⟩,by omega,O⟩
     have y7:q=ms.length:=by omega
     subst y7;have wb:=yO ee ff;refine bn O (bo (rI O ?_));refine aM _ O (fun nu=>?_) (fun nu=>?_)
     ·refine aA O (fS [(i:Int),ee,ff] aY O O (by decide) (by decide) O O fun A9 dV bN=>bI O (fz (eW (fz (eW (fz (eW ?_)))))));refine ia O ⟨A9,3,3,O,⟨fun h=>?_,fun h=>?_⟩,bN.none⟩
      ·rw [D8 (bN.bz 0 rfl).2 (by decide)]at h;cases h
      have HK:=h (i:Int) ee ff (by omega) h2 ((Je (by omega) h2).1 (by rw [AJ,<-HS];exact gi_in lK)) ((Jd (by omega) h2).1 (by rw [AA,<-HU];exact gi_in kK)) qU;omega
     refine aA O (aH O (aT O (tQ ?_)));exact⟨k+1,by show iI.length - (k+1)<iI.length - k;omega,(amz O),by omega,O,oW fun _=>by omega⟩
    have qU:0<=ee->0<=ff->ee∈gl B ff:=fun h _=>absurd h h9
    refine aJ O (aJ O (ar O (aJ O (aJ O (aJ O (aJ O (aC O ?_)))))));refine Cd.fC O (aA O (bc O O (aC O ?_)));refine Cd.loop (α:=Nat) (fun q=> [(1,.pointer A1),(14,ak n),(15,ak i),(3,ak i),(4,.slice A4 ms.length c4),(5,.slice A5 iI.length c5),(25,.slice A6 mu.length c6),(26,ak (mu.length:Int)),(27,ak j),(7,ak ee),(31,.slice A5 iI.length c5),(32,ak (iI.length:Int)),(33,ak k),(9,ak ff),(10,ak ((s8 (pP B ee ff) ms q:Nat):Int)),(49,.slice A4 ms.length c4),(50,ak (ms.length:Int)),(51,ak q)]) (fun q w'=>q<=ms.length/\w'=w7) (fun q=>ms.length - q) 0 (amz O) ⟨aZ _,O⟩ ?_;rintro q e w9 ⟨hq,rfl⟩;have dh:=Kf (P:=pP B ee ff) (xs:=ms) (q:=q);refine bJ O (aM _ O (fun CM=>?_) (fun CM=>?_))
    ·have qi:q<ms.length:=by omega
     have hx:=AL _ (gi_in qi);have jS:=Kh (P:=pP B ee ff) qi;have gD:=Kg (P:=pP B ee ff) qi;refine aA O (aD h4.2 O (a8 h4 O (ar O ?_)));generalize TK:gi ms q=xx at*;refine ew 57 O (fun nu=>?_) (fun nu=>?_)
     ·refine aJ O (aJ O (aJ O (ar O (av O (ar O (av O (ar O (av O (ar O ?_)))))))));refine ew 65 O (fun l0=>?_) (fun l0=>?_)
      ·refine aJ O (aJ O (aJ O (av O (aC O ?_))));refine Cd.gC O (aA O (aH O (ar O (aH O (aT O (tQ ?_))))));exact⟨q+1,by show ms.length - (q+1)<ms.length - q;omega,⟨O,O,O,O,O,O,O,O,O,O,O,O,O,O,aF (fun m:Nat=>Value.int .i64 (m:Int)) (jS ⟨.inl nu,.inl l0⟩).symm,O,O,O,au⟩,by omega,O⟩
      refine av O (ar O (av O (ar O (av O ?_))));refine aQ (vu A1 A D cA cD n R rs B xx ff _ h1 hB (by omega) (bP ff (by omega) (by omega)) (by have:=cI ff (by omega) (by omega);omega)) O ?_;rintro _ dV ⟨rfl,rfl⟩;refine av O (aC O ?_);refine aM _ O (fun l4=>?_) (fun l4=>?_)
      ·refine aA O (aH O (ar O (aH O (aT O (tQ ?_)))));exact⟨q+1,by show ms.length - (q+1)<ms.length - q;omega,⟨O,O,O,O,O,O,O,O,O,O,O,O,O,O,aF (fun m:Nat=>Value.int .i64 (m:Int)) (jS ⟨.inl nu,.inr l4⟩).symm,O,O,O,au⟩,by omega,O⟩
      refine aA O (aH O (aT O (tQ ?_)));exact⟨q+1,by show ms.length - (q+1)<ms.length - q;omega,⟨O,O,O,O,O,O,O,O,O,O,O,O,O,O,aF (fun m:Nat=>Value.int .i64 (m:Int)) (gD fun h=>h.2.elim l0 l4).symm,O,O,O,au⟩,by omega,O⟩
     refine av O (ar O (av O (ar O (av O ?_))));refine aQ (vu A1 A D cA cD n R rs B ee xx _ h1 hB (by omega) (bP xx (by omega) (by omega)) (by have:=cI xx (by omega) (by omega);omega)) O ?_;rintro _ dV ⟨rfl,rfl⟩;refine ar O (ew 62 O (fun sb=>?_) (fun sb=>?_))
     ·refine av O (ar O (av O (ar O (av O (ar O ?_)))));refine ew 65 O (fun l0=>?_) (fun l0=>?_)
      ·refine aJ O (aJ O (aJ O (av O (aC O ?_))));refine Cd.gC O (aA O (aH O (ar O (aH O (aT O (tQ ?_))))));exact⟨q+1,by show ms.length - (q+1)<ms.length - q;omega,⟨O,O,O,O,O,O,O,O,O,O,O,O,O,O,aF (fun m:Nat=>Value.int .i64 (m:Int)) (jS ⟨.inr sb,.inl l0⟩).symm,O,O,O,au⟩,by omega,O⟩
      refine av O (ar O (av O (ar O (av O ?_))));refine aQ (vu A1 A D cA cD n R rs B xx ff _ h1 hB (by omega) (bP ff (by omega) (by omega)) (by have:=cI ff (by omega) (by omega);omega)) O ?_;rintro _ dZ ⟨rfl,rfl⟩;refine av O (aC O ?_);refine aM _ O (fun l4=>?_) (fun l4=>?_)
      ·refine aA O (aH O (ar O (aH O (aT O (tQ ?_)))));exact⟨q+1,by show ms.length - (q+1)<ms.length - q;omega,⟨O,O,O,O,O,O,O,O,O,O,O,O,O,O,aF (fun m:Nat=>Value.int .i64 (m:Int)) (jS ⟨.inr sb,.inr l4⟩).symm,O,O,O,au⟩,by omega,O⟩
      refine aA O (aH O (aT O (tQ ?_)));exact⟨q+1,by show ms.length - (q+1)<ms.length - q;omega,⟨O,O,O,O,O,O,O,O,O,O,O,O,O,O,aF (fun m:Nat=>Value.int .i64 (m:Int)) (gD fun h=>h.2.elim l0 l4).symm,O,O,O,au⟩,by omega,O⟩
     refine aJ O (aJ O (aJ O (fA O O O O (fA O O O O (fA O O O O (aJ O (aC O ?_)))))));refine Cd.fC O (aA O (aH O (aT O (tQ ?_))));exact⟨q+1,by show ms.length - (q+1)<ms.length - q;omega,⟨O,O,O,O,O,O,O,O,O,O,O,O,O,O,aF (fun m:Nat=>Value.int .i64 (m:Int)) (gD fun h=>h.1.elim nu sb).symm,O,O,O,au⟩,by omega,O⟩
    have y7:q=ms.length:=by omega
    subst y7;have wb:=yO ee ff;refine bn O (bo (rI O ?_));refine aM _ O (fun nu=>?_) (fun nu=>?_)
    ·refine aA O (fS [(i:Int),ee,ff] aY O O (by decide) (by decide) O O fun A9 dV bN=>bI O (fz (eW (fz (eW (fz (eW ?_)))))));refine ia O ⟨A9,3,3,O,⟨fun h=>?_,fun h=>?_⟩,bN.none⟩
     ·rw [D8 (bN.bz 0 rfl).2 (by decide)]at h;cases h
     have HK:=h (i:Int) ee ff (by omega) h2 ((Je (by omega) h2).1 (by rw [AJ,<-HS];exact gi_in lK)) ((Jd (by omega) h2).1 (by rw [AA,<-HU];exact gi_in kK)) qU;omega
    refine aA O (aH O (aT O (tQ ?_)));exact⟨k+1,by show iI.length - (k+1)<iI.length - k;omega,(amz O),by omega,O,oW fun _=>by omega⟩
   refine bn O (bo (cL O (aH O (aT O (tQ ?_)))));exact⟨j+1,by show mu.length - (j+1)<mu.length - j;omega,(amz O),by omega,O,fun p hp f hf=>by
    by_cases ep:p=j
    ·subst ep;rw [HS];obtain⟨q,hq,e9⟩:=gF.1 hf;rw [<-b9 hq]at e9;have:=dt q (by omega)
     rwa [e9]at this
    exact eZ p (by omega) f hf⟩
  refine bn O (bo (cL O (aH O (aT O (tQ ?_)))));exact⟨i+1,by show n.toNat - (i+1)<n.toNat - i;omega,(amz O),by show((i+1:Nat):Int)<=n;omega,fun i' e f h0 h' he hf qU=>by
   by_cases ei:i'=(i:Int)
   ·subst ei;rw [AJ]at he;rw [AA]at hf;obtain⟨q,hq,e9⟩:=gF.1 he;rw [<-b9 hq]at e9;have:=eZ q (by omega) f hf;rw [e9]at this;exact this qU
   exact oO i' e f h0 (by have h':i'< ((i+1:Nat):Int):=h';omega) he hf qU,adS⟩
 refine bn O (bo (gq O ?_));exact ia O ⟨none,0,0,O,⟨fun _ i' e f h0 h3 h4 h5 h6=>oO i' e f h0 (by omega) ((Je h0 h3).2 h4) ((Jd h0 h3).2 h5) h6,fun _=>O⟩,aE⟩
theorem ZV{n:Nat}{R:ai}{B:ah}(hn:1<=n)(hb:R.length<=500):∀x∈aG n R B,x.length=n/\∀e∈x,0<=e/\e< (R.length:Int):=fun x hx=>by
 obtain⟨h1,h2,_⟩:=(pS hn).1 hx;refine⟨h1,fun e he=>?_⟩;obtain⟨k,hk,rfl⟩:=gF.1 he;rw [<-b9 hk];exact(h2 k (by omega)).1
theorem J3(b:Bool):b=decide (b=true):=by cases b<;>rfl
theorem aeD(n:Nat)(A D:aj)(cA cD:Nat)(R:ai)(rs:List aO)(B:ah)(Af:aj)(cf:Nat)(fH:List aO)(w:aa)(hT:kX w)(hR:cg w A R.length R)(hB:bF w D B.length rs B)(hP:gr n R B)(hF:bF w Af (aG n R B).length fH (aG n R B))(Su:(aG n R B).length<=400):
 aK prog 93 [.agg #[ak n,.slice A R.length cA,.slice D B.length cD],.slice Af (aG n R B).length cf] w (fun v w'=>∃b:Bool,v= .bool b/\(b=true↔zP n R B)/\St w w' []):=by
 have hn:=hP.n1;have sq:=hP.pe;have HV:=ZV (n:=n) (R:=R) (B:=B) (by omega) sq;have acz:∀x∈aG n R B,x.length=n/\∀e∈x,0<=e/\e<=1000000:=fun x hx=> ⟨(HV x hx).1,fun e he=>by have:=(HV x hx).2 e he;omega⟩
 have we:(aG n R B).Nodup:=(G9 n R B).nodup;refine bA func93 O ntmps93 O (df O) (bg O (nV (St.refl w) O O ?_));intro A1 w1 aI;have h1:Rd w1 A1 3 (fun j=> [Value.int .i64 n,.slice A R.length cA,.slice D B.length cD].getD j undef):=aI.rd 0 O;have hR:=aI.gh hR;have hB:=aI.cT hB;have hF:=aI.cT hF;have hT:=hT.aq aI.below;have aI:=aI.none;refine ar O (bc O O (ar O ?_));refine ew 8 O (fun h2=>?_) (fun h2=>?_)
 ·have bU:aG n R B≠[]:=fun h=>by rw [h]at h2;exact absurd h2 (by decide)
  refine av O (ao.dq 2 h1 O O O ?_);refine av O (ar O (av O ?_));refine aQ (aeE n A D cA R.length B.length cD Af (aG n R B).length cf fH (aG n R B) _ hF sq (fun l hl=> ⟨by have:=(HV l hl).1;omega,(HV l hl).2⟩) (by omega)) O ?_;rintro _ w2 ⟨b,rfl,hb,aw⟩;have h1:=Rd.below h1 aw.below;have hR:=aw.gh hR;have hB:=aw.cT hB;have hF:=aw.cT hF;have hT:=hT.aq aw.below;have aI:=aI.aq aw.below;have Fa:b=true↔JI n R B:=hb;clear aw hb;rw [J3 b];refine ar O (ew 13 O (fun h3=>?_) (fun h3=>?_))
  ·refine av O (ao.dq 2 h1 O O O (av O (aQ (Zt n A D cA cD R rs B _ hR hB hP) O ?_)));rintro _ w3 ⟨A9,n9,c9,rfl,hd,aw⟩;have hF:=aw.cT hF;have hT:=hT.aq aw.below;have aI:=aI.aq aw.below;clear aw;refine av O (D2 O O O ?_);rw [J3 A9.isNone];refine ar O (ew 18 O (fun h4=>?_) (fun h4=>?_))
   ·refine av O (ar O (av O ?_));refine aQ (Y6 Af (aG n R B).length cf fH (aG n R B) n _ hT hF (by omega) (by omega) acz we) O ?_;rintro _ w4 ⟨A8,n8,c8,rfl,hc,aw⟩;have aI:=aI.aq aw.below;refine av O (D2 O O O (bI O (dz O ?_)));exact⟨A8.isNone,O,⟨fun h=> ⟨bU,Fa.1 h3,hd.1 h4,hc.1 h⟩,fun h=>hc.2 h.2.2.2⟩,aI⟩
   refine aJ O (aJ O (aJ O (bI O ?_)));refine dz O ?_;exact⟨false,rfl,⟨fun h=> (by cases h),fun h=>absurd (hd.2 h.2.2.1) h4⟩,aI⟩
  refine aJ O (aJ O (aJ O (ar O (aJ O (aJ O (aJ O (bI O ?_)))))));refine dz O ?_;exact⟨false,rfl,⟨fun h=> (by cases h),fun h=>absurd (Fa.2 h.2.1) h3⟩,aI⟩
 refine aJ O (aJ O (aJ O (ar O (aJ O (aJ O (aJ O (ar O (aJ O (aJ O (aJ O (bI O ?_)))))))))));refine dz O ?_;exact⟨false,rfl,⟨fun h=> (by cases h),fun h=>absurd (List.length_pos_iff.2 h.1) (by omega)⟩,aI⟩
noncomputable def CF(M:ah):ah:=aG M.length (bK M M.length) (bR M)
noncomputable def rr(M:ah):Int:=if 500<aS M M.length\/400< (CF M).length then 3 else 0
def uO(M:ah):Prop:=aS M M.length<=500/\(CF M).length=(gl M 0).length/\zP M.length (bK M M.length) (bR M)
theorem uO.code{M:ah}(hM:cN M)(h:uO M):rr M=0:=by
 have:=hM.2.1;unfold rr;rw [az (by have:=h.1;have:=h.2.1;omega)]
theorem sK{M:ah}(hM:cN M)(h:aS M M.length<=500):gr (M.length:Int) (bK M M.length) (bR M):=aad hM h
theorem aeC(A:aj)(n c:Nat)(rs:List aO)(M:ah)(w:aa)(hT:kX w)(hR:bF w A n rs M)(hM:cN M):
 aK prog 102 [.agg #[.slice A n c]] w (fun v w'=>∃b:Bool,v= .tuple #[.bool b,ak (rr M)]/\(b=true↔uO M)/\St w w' []):=by
 have hl:=hR.len;have h5:=hM.1;have h4:=hM.2.1;have yH:=oH M M.length;have sd:=uY M;have xE:=hR.qu (k:=0) (by omega) (by omega);refine bA func102 O ntmps102 O (x5 O) (bg O (lB (St.refl w) O O ?_));intro A1 w1 aI;refine ar O (ao.dq 0 (aI.rd 0 O) O O O (aQ (QF A n c rs M _ (aI.cT hR) hM) O ?_));rintro _ w2 (⟨xn,rfl,aw⟩ | ⟨xn,AR,cR,AD,cD,dv,rfl,l8,aw⟩)
 ·have aE:=aI.aq aw.below;refine ar O (nj aE O ?_);intro A4 w3 aR;refine bO 3 0 aR O O O O O O O fun w4 aX=>ar O ?_
  first | refine fv rfl rfl ?_ | refine gA rfl rfl ?_
  refine aC O (Cd.gC O (dX O (Ja O O ?_)));unfold rr;rw [aB (.inl xn)];exact⟨false,rfl,⟨fun h=> (by cases h),fun h=>by have:=h.1;omega⟩,aX.none⟩
 have hP:=sK hM xn;have aE:=aI.call aw;clear aw aI;refine ar O (nj aE O ?_);intro A4 w3 aR;refine bO 3 0 aR O O O O O O O ?_;intro w4 aX;have aX:St w w4 (bD A4 (M.length:Int) AR (aS M M.length) cR AD (aS M M.length) cD::(ax 2 AR (aS M M.length) cR (bK M M.length)::((aL 34 2 AD (aS M M.length) cD dv (bR M)++ [])++ [Bx 24 1 A1 [.slice A n c]]))):=aX;have sg:cg w4 AR (bK M M.length).length (bK M M.length):=by rw [yH];exact aX.bz 1 O
 have lk:bF w4 AD (bR M).length dv (bR M):=by
  rw [sd];have h9:=aX.sub (show(aL 34 2 AD (aS M M.length) cD dv (bR M)).Sublist _ from List.Sublist.cons _ (List.Sublist.cons _ (by rw [fj];exact ng _ _)));exact h9.oz sd
 have og:=aX.rd 0 O;have dF:Rd w4 A1 1 (fun _=> .slice A n c):=by
  have h9:=aX.sub (show List.Sublist [Bx 24 1 A1 [.slice A n c]] _ from List.Sublist.cons _ (List.Sublist.cons _ (iQ _ _)));exact Rd.one (h9.rd 0 O)
 refine ar O ?_
 first | refine fv rfl rfl ?_ | refine gA rfl rfl ?_
 refine aC O (Cd.fC O (aA O (ao.dq 2 og O O O ?_)));refine amq (QQ M.length AR AD cR cD (bK M M.length) dv (bR M) _ sg lk hP) O (by rw [yH,sd];rfl) O ?_;rintro _ w5 ⟨Af,cf,VK,rfl,sE,aw⟩;have aY:=aX.aq aw.below;have Lo:=sg.aq aw.below;have K8:=lk.aq aw.below;have lI:=Rd.below og aw.below;have dF:=Rd.below dF aw.below
 by_cases jQ:(aG M.length (bK M M.length) (bR M)).length<=400
 ·
  have hL:xa M.length (bK M M.length) (bR M)=aG M.length (bK M M.length) (bR M):=by unfold xa;rw [if_pos jQ]
  have hK:pR M.length (bK M M.length) (bR M)=0:=by unfold pR;rw [if_pos jQ]
  have mn:rr M=0:=by unfold rr;rw [if_neg (by show ¬(500<aS M M.length\/400< (aG M.length (bK M M.length) (bR M)).length);omega)]
  rw [hL]at sE aw|-;rw [hK,mn];have hF5:bF w5 Af (aG M.length (bK M M.length) (bR M)).length VK (aG M.length (bK M M.length) (bR M)):=by
   rw [fj]at aw;exact aw.oz O
  refine ar O (ew 22 O (fun _=>?_) (fun h=>absurd O h));refine av O (ar O (av O ?_));refine aQ (FW _ _ _ _) O ?_;rintro _ w5 ⟨rfl,rfl⟩;refine av O (aQ (zX A1 A n c rs M _ _ dF O (aY.cT hR) (by omega)) O ?_);rintro _ w5 ⟨rfl,rfl⟩;refine av O (ar O ?_);refine ew 28 O (fun h6=>?_) (fun h6=>?_)
  ·refine av O (ao.dq 2 lI O O O ?_);refine av O (ar O (av O ?_));refine amq (aeD M.length AR AD cR cD (bK M M.length) dv (bR M) Af cf VK _ (hT.aq aY.below) Lo K8 hP hF5 jQ) O (by rw [yH,sd];rfl) O ?_;rintro _ w6 ⟨b,rfl,hb,kN⟩;refine bI O (Ja O O ?_);refine⟨b,O,hb.trans ⟨fun h=> ⟨xn,?_,h⟩,fun h=>h.2.2⟩,(aY.aq kN.below).none⟩;show(aG M.length (bK M M.length) (bR M)).length=_;omega
  refine aJ O (aJ O (aJ O (bI O ?_)));refine Ja O O ?_;refine⟨false,rfl,⟨fun h=> (by cases h),fun h=>?_⟩,aY.none⟩;have h9:(aG M.length (bK M M.length) (bR M)).length=(gl M 0).length:=h.2.1;omega
 have hL:xa M.length (bK M M.length) (bR M)=[]:=by unfold xa;rw [if_neg jQ]
 have hK:pR M.length (bK M M.length) (bR M)=3:=by unfold pR;rw [if_neg jQ]
 have mn:rr M=3:=by unfold rr;rw [if_pos (.inr (by show 400< (aG M.length (bK M M.length) (bR M)).length;omega))]
 rw [hL]at sE aw|-;rw [hK,mn];refine ar O (ew 22 O (fun h=>absurd h (by decide)) (fun _=>?_));refine aJ O (aJ O (aJ O (aJ O (ar O (aJ O (aJ O (aJ O (bI O ?_))))))));refine Ja O O ?_;refine⟨false,rfl,⟨fun h=> (by cases h),fun h=>?_⟩,aY.none⟩;have h9:(aG M.length (bK M M.length) (bR M)).length=(gl M 0).length:=h.2.1;omega
section
variable{z0 z1 z2 z3 y0 y1 v0 u0 u1 u2 v1 v2 v3:ad}{b b0 b1:Nat}
variable {P:Program} {N:Nat} {ops:Array Oper} {K:Env->aa->Prop} {rest:List Oper} {e:Env} {w0 w w':aa} {ks:List Ck} {d:Nat} {ty:ae} {pos:String} {af:Array Edge}
theorem W3{t:ae}{f0 f1:Field}[bt P t (.struct #[f0,f1])][bq P t (.agg #[z0,z1,z2,z3]) 4 b]{x0 x1:ag}(u6:bq P f0.type y0 1 b0)(u7:bq P f1.type y1 3 b1)(ho:f0.offset=0)(sC:f1.offset=1)(h0:ev e x0=v0)(h1:ev e x1= .agg #[u0,u1,u2])(c0:v0.oneCell'=true)(hb:Nat.blt d N=true)(hK:ao P N ops K rest (br e d (.agg #[v0,u0,u1,u2])) w):ao P N ops K (⟨some d,.build t #[(0,x0),(1,x1)],ty,pos,af,none⟩::rest) e w:=by
 obtain⟨inf,hi,dU,hs,gI⟩:=bq.get P t;obtain⟨Dl,eY,_,pB,_⟩:=u6.get P f0.type;obtain⟨Fu,mm,_,vq,_⟩:=u7.get P f1.type;have e0:v0.cells= #[v0]:=by cases v0<;>simp [Value.oneCell']at c0<;>rfl
 have e1:(Value.agg #[u0,u1,u2]).cells= #[u0,u1,u2]:=O;have ez:(Value.agg #[z0,z1,z2,z3]).cells= #[z0,z1,z2,z3]:=O;refine .val (w':=w) ?_ hb hK;simp [execOp,Instr.build,run_underlying (bt.out (P:=P) (t:=t)),sizeOf,typeInfo,zeroValue,hi,dU,eY,pB,mm,vq,ho,sC,h0,h1,e0,e1,ez,Instr.fill]
theorem JC{t:ae}{f0 f1:Field}[bt P t (.struct #[f0,f1])][bq P t (.agg #[z0,z1,z2,z3]) 4 b](u6:bq P f0.type y0 1 b0)(u7:bq P f1.type y1 3 b1)(hb:Nat.blt d N=true)(hK:ao P N ops K rest (br e d (.agg #[z0,z1,z2,z3])) w):ao P N ops K (⟨some d,.build t #[],ty,pos,af,none⟩::rest) e w:=by
 obtain⟨inf,hi,dU,hs,gI⟩:=bq.get P t;obtain⟨Dl,eY,_,pB,_⟩:=u6.get P f0.type;obtain⟨Fu,mm,_,vq,_⟩:=u7.get P f1.type;have ez:(Value.agg #[z0,z1,z2,z3]).cells= #[z0,z1,z2,z3]:=O;refine .val (w':=w) ?_ hb hK;simp [execOp,Instr.build,run_underlying (bt.out (P:=P) (t:=t)),sizeOf,typeInfo,zeroValue,hi,dU,eY,pB,mm,vq,ez,Instr.fill]
theorem D4{el:ae}{s:Nat}[bq P el (.agg #[v0,v1,v2,v3]) s b](hS:St w0 w ks)(hb:Nat.blt d N=true)(hK:∀A w',St w0 w' (Bx el 4 A [v0,v1,v2,v3]::ks)->ao P N ops K rest (br e d (.pointer A)) w')(hM:eK [v0,v1,v2,v3]=false:=by rfl):ao P N ops K (⟨some d,.alloc el,ty,pos,af,none⟩::rest) e w:= .new (el:=el) (z:= .agg #[v0,v1,v2,v3]) (s:=s) (b:=b) hS hb rfl hK hM
theorem OX{el:ae}{x:ag}(hS:St w0 w ks)(hx:ev e x= .agg #[v0,v1,v2,v3])(hb:Nat.blt d N=true)(hK:∀A w',St w0 w' (Bx el 4 A [v0,v1,v2,v3]::ks)->ao P N ops K rest (br e d (.pointer A)) w')(hM:eK [v0,v1,v2,v3]=false:=by rfl):ao P N ops K (⟨some d,.box el x,ty,pos,af,none⟩::rest) e w:=
 .J4 hS hx hb rfl hK hM
end
open Classical in
noncomputable def kJ(M:ah):Int:=if cN M then(if rr M=0 then(if uO M then 0 else 5)else 3)else 1
theorem Ra{M:ah}(h:¬cN M):kJ M=1:=by unfold kJ;rw [if_neg h]
theorem Q9{M:ah}(h:cN M)(h2:rr M≠0):kJ M=3:=by unfold kJ;rw [if_pos h,if_neg h2]
theorem Q8{M:ah}(h:cN M)(h2:rr M=0)(h3:¬uO M):kJ M=5:=by unfold kJ;rw [if_pos h,if_pos h2,if_neg h3]
theorem KH{M:ah}(h:cN M)(h3:uO M):kJ M=0:=by unfold kJ;rw [if_pos h,if_pos (h3.code h),if_pos h3]
theorem th{M:ah}(h:kJ M=0):cN M/\uO M:=by
 unfold kJ at h
 split at h
 ·rename_i h1
  split at h
  ·split at h
   ·rename_i h3;exact⟨h1,h3⟩
   cases h
  cases h
 cases h
theorem aic{M:ah}(h:rr M≠0):rr M=3:=by
 unfold rr at h|-
 split
 ·rfl
 rename_i h2;rw [az h2]at h;exact absurd rfl h
def OI(M:ah)(w:aa)(v:ad)(w':aa):Prop:=(kJ M≠0/\v= .tuple #[.agg #[.slice none 0 0,ak 0,.slice none 0 0,.slice none 0 0],ak (kJ M)]/\St w w' [])\/(kJ M=0/\∃A8 c8 AR c AD d rs,v= .tuple #[.agg #[.slice A8 (aS M M.length+2) c8,ak (M.length:Int),.slice AR (aS M M.length) c,.slice AD (aS M M.length) d],ak 0]/\rs.length=aS M M.length/\St w w' (ax 2 A8 (aS M M.length+2) c8 (gU M.length (bK M M.length))::ax 2 AR (aS M M.length) c (bK M M.length)::(aL 34 2 AD (aS M M.length) d rs (bR M)++ [])))
theorem G5(A:aj)(n c:Nat)(rs:List aO)(M:ah)(w:aa)(hT:kX w)(hR:bF w A n rs M)(hn:n<=c)(hc:c<=9223372036854775807):
 aK prog 243 [.agg #[.slice A n c]] w (OI M w):=by
 refine bA func243 O ntmps243 O (tD O O) (bg O (lB (St.refl w) O O ?_));intro A1 w1 aI;refine D4 aI O ?_;intro A2 w2 aE;have aE:St w w2 [Bx 233 4 A2 [.slice none 0 0,ak 0,.slice none 0 0,.slice none 0 0],Bx 24 1 A1 [.slice A n c]]:=aE;refine ar O (ao.dq 0 (aE.rd 1 O) O O O (aQ (IF A n c rs M _ (aE.cT hR) hn hc) O ?_));rintro _ w3 ⟨rfl,aw⟩;have aR:=aE.aq aw.below;clear aw aE aI
 first | refine fv rfl rfl ?_ | refine gA rfl rfl ?_
 refine aC O (aM _ O (fun h1=>?_) (fun h1=>?_))
 ·refine aA O (JC (by exact inferInstance) (by exact inferInstance) O (bO 4 0 aR O O O O O O O ?_));intro w4 aX;refine bI O (kb O (aX.rd 0 O) O ?_);exact .inl ⟨by rw [Ra h1];decide,by rw [Ra h1];rfl,aX.none⟩
 have hM:cN M:=jb.1 h1;have yH:=oH M M.length;have sd:=uY M;refine aA O (ao.dq 0 (aR.rd 1 O) O O O (aQ (aeC A n c rs M _ (hT.aq aR.below) (aR.cT hR) hM) O ?_));rintro _ w4 ⟨b,rfl,hb,aw⟩;have aX:=aR.aq aw.below;clear aw aR;refine aC O (aM _ O (fun h2=>?_) (fun h2=>?_))
 ·refine aA O (JC (by exact inferInstance) (by exact inferInstance) O (ar O (bO 4 0 aX O O O O O O O ?_)));intro w5 aY;refine bI O (kb O (aY.rd 0 O) O ?_);exact .inl ⟨by rw [Q9 hM h2];decide,by rw [Q9 hM h2,aic h2];rfl,aY.none⟩
 have h2:rr M=0:=jb.1 h2;rw [J3 b];refine aA O ?_
 first | refine fv rfl rfl ?_ | refine gA rfl rfl ?_
 refine aC O (aM _ O (fun h3=>?_) (fun h3=>?_))
 ·have S6:¬uO M:=fun h=>h3 (hb.2 h)
  refine aA O (JC (by exact inferInstance) (by exact inferInstance) O (bO 4 0 aX O O O O O O O ?_));intro w5 aY;refine bI O (kb O (aY.rd 0 O) O ?_);exact .inl ⟨by rw [Q8 hM h2 S6];decide,by rw [Q8 hM h2 S6];rfl,aY.none⟩
 have hg:uO M:=hb.1 (jb.1 h3);have xn:=hg.1;have h5:=hM.1;refine aA O (ao.dq 0 (aX.rd 1 O) O O O (aQ (QF A n c rs M _ (aX.cT hR) hM) O ?_));rintro _ w5 (⟨h9,_⟩ | ⟨_,AR,cR,AD,cD,dv,rfl,l8,aw⟩)
 ·omega
 have aY:=aX.call aw;clear aw aX;refine ar O (nj aY O ?_);intro A6 w6 bk;refine bO 3 0 bk O O O O O O O ?_;intro w7 bG;obtain⟨N,hN⟩:∃N,aS M M.length=N:=⟨_,rfl⟩;unfold OI;rw [hN]at yH sd l8 bG xn|-;have bG:St w w7 (bD A6 (M.length:Int) AR N cR AD N cD::(ax 2 AR N cR (bK M M.length)::((aL 34 2 AD N cD dv (bR M)++ [])++ [Bx 233 4 A2 [.slice none 0 0,ak 0,.slice none 0 0,.slice none 0 0],Bx 24 1 A1 [.slice A n c]]))):=bG;refine ar O (eS (i:= -1) bG O O O ?_);intro A9 w8 b6;refine aU (b6.rd 1 O) O (bh (b6.rd 1 O) O (fk 0 b6 O (b6.bz 2 O) O O O ?_));intro A8 c8 w9 bL;have bL:St w w9 (ax 2 A8 (1+N) c8 ([-1]++bK M M.length)::bD A6 (M.length:Int) AR N cR AD N cD::(ax 2 AR N cR (bK M M.length)::((aL 34 2 AD N cD dv (bR M)++ [])++ [Bx 233 4 A2 [.slice none 0 0,ak 0,.slice none 0 0,.slice none 0 0],Bx 24 1 A1 [.slice A n c]]))):=bL;obtain⟨KK,sf⟩:∃KK:List Ck,KK=ax 2 AR N cR (bK M M.length)::(aL 34 2 AD N cD dv (bR M)++ []):=⟨_,rfl⟩;have bL:St w w9 (ax 2 A8 (1+N) c8 ([-1]++bK M M.length)::bD A6 (M.length:Int) AR N cR AD N cD::Bx 233 4 A2 [.slice none 0 0,ak 0,.slice none 0 0,.slice none 0 0]::KK):=by
  have eV:=bL.perm (show List.Perm _ (Bx 24 1 A1 [.slice A n c]::(ax 2 A8 (1+N) c8 ([-1]++bK M M.length)::bD A6 (M.length:Int) AR N cR AD N cD::Bx 233 4 A2 [.slice none 0 0,ak 0,.slice none 0 0,.slice none 0 0]::KK)) from by
   rw [sf]
   classical
   refine jA.2 fun z=>?_
   simp only [lu,jz,kC];omega)
  exact eV.tail
 clear b6 bG bk aY;refine aC O ?_;refine kB [4,7] [yS (A8) (1+N) (c8),yP (ay (A6) 0),yI ((M.length:Int)),.pr (fun v w'=>∃A9,v= .slice A9 1 1/\St w w' (ax 2 A9 1 1 [(M.length:Int)]::ax 2 A8 (1+N) c8 ([-1]++bK M M.length)::bD A6 (M.length:Int) AR N cR AD N cD::Bx 233 4 A2 [.slice none 0 0,ak 0,.slice none 0 0,.slice none 0 0]::KK)),.pr (fun v w'=>∃AZ cZ,v= .slice AZ (1+N+1) cZ/\St w w' (ax 2 AZ (1+N+1) cZ (([-1]++bK M M.length)++ [(M.length:Int)])::bD A6 (M.length:Int) AR N cR AD N cD::Bx 233 4 A2 [.slice none 0 0,ak 0,.slice none 0 0,.slice none 0 0]::KK)),.ex (.agg #[ak (M.length:Int),.slice AR N cR,.slice AD N cD]),.pr (fun v w'=>∃AZ cZ,v= .agg #[.slice AZ (1+N+1) cZ,ak (M.length:Int),.slice AR N cR,.slice AD N cD]/\St w w' (ax 2 AZ (1+N+1) cZ (([-1]++bK M M.length)++ [(M.length:Int)])::bD A6 (M.length:Int) AR N cR AD N cD::Bx 233 4 A2 [.slice none 0 0,ak 0,.slice none 0 0,.slice none 0 0]::KK)),.pr (fun _ w'=>∃AZ cZ,St w w' (ax 2 AZ (1+N+1) cZ (([-1]++bK M M.length)++ [(M.length:Int)])::bD A6 (M.length:Int) AR N cR AD N cD::Bx 233 4 A2 [.slice AZ (1+N+1) cZ,ak (M.length:Int),.slice AR N cR,.slice AD N cD]::KK)),yI ((0:Int))] (ly (ly (ly (de.2 ⟨Ye.dp (fun v w w' h hb=>by obtain⟨A9,hv,hT⟩:=h;exact⟨A9,hv,hT.aq hb⟩),(de.2 ⟨Ye.dp (fun v w w' h hb=>by obtain⟨AZ,cZ,hv,hT⟩:=h;exact⟨AZ,cZ,hv,hT.aq hb⟩),(ly (de.2 ⟨Ye.dp (fun v w w' h hb=>by obtain⟨AZ,cZ,hv,hT⟩:=h;exact⟨AZ,cZ,hv,hT.aq hb⟩),(de.2 ⟨Ye.dp (fun v w w' h hb=>by obtain⟨AZ,cZ,hT⟩:=h;exact⟨AZ,cZ,hT.aq hb⟩),(ly (fun _ h=>by cases h))⟩)⟩))⟩)⟩)))) ?_ ?_
 ·refine⟨bT O,cP fun _ _ hb _ _ _=>aU ((bL.rd 1 O).below hb) O (bE O O),cP fun _ _ hb _ _ _=>iy ((bL.rd 1 O).below hb) O O O O O (bE O O),?_,?_,?_,?_,?_,bT O,au⟩
  ·refine cP fun e1 w1 hb hp aW hq=>?_
   exact eS (St.refl _) O O O fun A9 w9 aw=>ao.n (fN.dn O aw.below ⟨A9,O,(bL.aq hb).call aw⟩)
  ·refine kG fun e1 w1 hb hp aW hq=>?_
   obtain⟨A9,h39,hT⟩:=(hp 3 _ _ (by kernel_rfl) rfl rfl (by kernel_rfl));refine fk 1 hT O (hT.bz 0 O) O (by exact h39) O ?_;intro AZ cZ wZ hZ;exact ao.n (fY.dn O ⟨AZ,cZ,O,hZ.tail⟩)
  ·intro e1 w1 cc eZ dt fQ hp aW hq;show ao _ _ _ _ _ _ _;have hX:Rd w1 A6 3 (fun q=> [Value.int .i64 (M.length:Int),.slice AR N cR,.slice AD N cD].getD q undef):=by { have dt:=qn dt (b:=1) (by kernel_rfl);rcases(show cc=0\/cc=1 by omega)with h | h; { exact(bL.aq (fQ h)).rd 1 rfl }; { subst h;obtain⟨AZ,cZ,_,hT⟩:=hq 4 _ _ (by kernel_rfl) (by kernel_rfl) (by kernel_rfl) rfl rfl (by kernel_rfl);exact hT.rd 1 rfl } }
   refine ao.dq 2 hX O O O (ao.n (iN O (by exact O)))
  ·refine dP 1 fun e1 w1 hp aW hq=>?_
   have eN:=hp 4 _ _ (by kernel_rfl) O O (by kernel_rfl);obtain⟨AZ,cZ,Hk,hT⟩:=(hp 4 _ _ (by kernel_rfl) rfl rfl (by kernel_rfl));refine W3 (v0:= .slice AZ (1+N+1) cZ) (by exact inferInstance) (by exact inferInstance) O O (by exact Hk) O O O (ao.n ?_);exact fN.dn O (Below.refl _ _) ⟨AZ,cZ,O,hT⟩
  refine rU 1 fun e1 w1 hp aW hq=>?_
  have eN:=hp 4 _ _ (by kernel_rfl) O O (by kernel_rfl);obtain⟨AY,cY,h42,hT⟩:=(hp 6 _ _ (by kernel_rfl) rfl rfl (by kernel_rfl));refine bO 4 2 hT O O (by exact h42) O O O O ?_;intro dZ Ag;exact ao.n (fY.st O ⟨AY,cY,Ag⟩)
 intro u dV _ hu _ _;obtain⟨AZ,cZ,hT⟩:=hu 7 _ rfl (by kernel_rfl);refine BO O (kb O (hT.rd 2 O) O ?_);refine .inr ⟨KH hM hg,AZ,cZ,AR,cR,AD,cD,dv,?_,l8,?_⟩
 ·rw [show N+2=1+N+1 by omega];rfl
 rw [show N+2=1+N+1 by omega,<-sf];exact hT.sub (((kU _).cons _).cons _ |>.cons_cons _)
end
section
section
variable{i b p:Nat}
variable {n:Nat} {R:ai} {B:ah}
theorem fp.len(h:fp n R B):(bV n (aG n R B)).length=n:=sI n _
theorem fp.ua(h:fp n R B)(hi:i<n){a:Nat}(ha:a< (aG n R B).length)(hb:b< (aG n R B).length):cS (bV n (aG n R B)) i a=cS (bV n (aG n R B)) i b↔gi (gl (aG n R B) a) i=gi (gl (aG n R B) b) i:=by
 rw [<-h.Uh hi ha hb];unfold cS;omega
theorem fp.fin(h:fp n R B)(hi:i<n){a:Nat}(ha:a< (aG n R B).length):(0<=cS (bV n (aG n R B)) i a/\cS (bV n (aG n R B)) i a< ((bK (bV n (aG n R B)) n).length:Int))/\gi (bK (bV n (aG n R B)) n) (cS (bV n (aG n R B)) i a)=i:=by
 have h1:=xb h.nF (i:=i) (f:=a) (by rw [h.nl];exact ha);have h2:=ow (bV n (aG n R B)) (show i+1<=n by omega);rw [oH];exact⟨⟨by omega,by omega⟩,Hd hi h1.1 h1.2⟩
theorem fp.Er(h:fp n R B){e:Int}(h0:0<=e)(h1:e< ((bK (bV n (aG n R B)) n).length:Int)):∃i:Nat,i<n/\∃a:Nat,a< (aG n R B).length/\e=cS (bV n (aG n R B)) i a:=by
 rw [oH]at h1;obtain⟨i,hi,h2,h3⟩:=Q6 h0 h1;have h3:e< ((aS (bV n (aG n R B)) i+ (iS (bV n (aG n R B)) i).toNat:Nat):Int):=h3;obtain⟨a,ha,e1⟩:=Kw h.nF i (e - (aS (bV n (aG n R B)) i:Int)) (by omega) (by omega);rw [h.nl]at ha;refine⟨i,hi,a,ha,?_⟩;unfold cS;rw [e1];omega
theorem fp.spl(h:fp n R B)(hi:i+1<n){a:Nat}(ha:a< (aG n R B).length)(hb:b< (aG n R B).length)(hm:gi (gl (aG n R B) a) i∈gl B (gi (gl (aG n R B) b) ((i+1:Nat):Int))):
 ∃c:Nat,c< (aG n R B).length/\∀k:Nat,k<n->gi (gl (aG n R B) c) k=if k<=i then gi (gl (aG n R B) a) k else gi (gl (aG n R B) b) k:=by
 have fa:=oc h.n1 ha;have fb:=oc h.n1 hb;obtain⟨x,hx⟩:∃x:ai,x=(List.range n).map fun k=>if k<=i then gi (gl (aG n R B) a) k else gi (gl (aG n R B) b) k:=⟨_,rfl⟩
 have gv:∀k:Nat,k<n->gi x k=if k<=i then gi (gl (aG n R B) a) k else gi (gl (aG n R B) b) k:=fun k hk=>by
  rw [hx,b9 (by simpa using hk),List.getElem_map,List.getElem_range]
 have Fp:x∈aG n R B:=by
  refine(pS h.n1).2 ⟨by rw [hx];simp,fun k hk=>?_,fun k hk=>?_⟩
  ·rw [gv k hk]
   split
   ·exact fa.2.1 k hk
   exact fb.2.1 k hk
  rw [gv k (by omega),gv (k+1) hk]
  by_cases c1:k+1<=i
  ·rw [aB (show k<=i by omega),aB c1];exact fa.2.2 k hk
  rw [az c1]
  by_cases c2:k<=i
  ·rw [aB c2];obtain rfl:k=i:=by omega
   exact hm
  rw [az c2];exact fb.2.2 k hk
 obtain⟨c,hc,e⟩:=gF.1 Fp;refine⟨c,hc,fun k hk=>?_⟩;rw [b7 hc,e];exact gv k hk
theorem fp.inc(h:fp n R B)(hi:i+1<n){a:Nat}(ha:a< (aG n R B).length)(hb:b< (aG n R B).length):cS (bV n (aG n R B)) i a∈gl (bR (bV n (aG n R B))) (cS (bV n (aG n R B)) (i+1) b)↔gi (gl (aG n R B) a) i∈gl B (gi (gl (aG n R B) b) ((i+1:Nat):Int)):=by
 have g1:=h.fin (show i<n by omega) ha;have g2:=h.fin hi hb;have hl:=h.len;rw [oH]at g1 g2;rw [qI g2.1.1 (by rw [hl];exact g2.1.2),hl];constructor
 ·rintro⟨_,f,hf,j,hj,k,hk,e1,e2⟩;rw [h.nl]at hf;rw [hl]at hj;have r1:=(h.fin hj hf).2;have r2:=(h.fin (show k<n by omega) hf).2;rw [<-e1,g2.2]at r1;rw [<-e2,g1.2]at r2;obtain rfl:j=i+1:=by omega
  obtain rfl:k=i:=by omega
  have q1:=(h.ua hi hb hf).1 e1;have q2:=(h.ua (show k<n by omega) ha hf).1 e2;rw [q1,q2];exact(oc h.n1 hf).2.2 k hi
 intro hm;obtain⟨c,hc,hk⟩:=h.spl hi ha hb hm;have q1:=hk i (by omega);have q2:=hk (i+1) hi;rw [aB (bs _)]at q1;rw [az (by omega)]at q2;exact⟨g1.1,c,by rw [h.nl];exact hc,i+1,by rw [hl];exact hi,i,by omega,(h.ua hi hb hc).2 q2.symm,(h.ua (show i<n by omega) ha hc).2 q1.symm⟩
theorem fp.aes(h:fp n R B)(hi:i+2<n){a:Nat}(ha:a< (aG n R B).length)(hb:b< (aG n R B).length)(hm:cS (bV n (aG n R B)) i a∈gl (bR (bV n (aG n R B))) (cS (bV n (aG n R B)) (i+2) b)):gi (gl (aG n R B) a) i∈gl B (gi (gl (aG n R B) b) ((i+2:Nat):Int)):=by
 have g1:=h.fin (show i<n by omega) ha;have g2:=h.fin hi hb;have hl:=h.len;rw [oH]at g1 g2;rw [qI g2.1.1 (by rw [hl];exact g2.1.2),hl]at hm;obtain⟨_,f,hf,j,hj,k,hk,e1,e2⟩:=hm;rw [h.nl]at hf;rw [hl]at hj;have r1:=(h.fin hj hf).2;have r2:=(h.fin (show k<n by omega) hf).2;rw [<-e1,g2.2]at r1;rw [<-e2,g1.2]at r2;obtain rfl:j=i+2:=by omega
 obtain rfl:k=i:=by omega
 have q1:=(h.ua hi hb hf).1 e1;have q2:=(h.ua (show k<n by omega) ha hf).1 e2;rw [q1,q2];have f1:=(oc h.n1 hf).2.2 k (by omega);have f2:=(oc h.n1 hf).2.2 (k+1) hi;have f3:=((oc h.n1 hf).2.1 (k+2) hi).1;exact(h.pos.at_ (e:=gi (gl (aG n R B) f) ((k+2:Nat):Int)) f3.1 f3.2).2.2 _ f2 _ f1
def td(n:Nat)(M:ah)(a:Nat):ai:=(List.range n).map fun i=>cS M i a
theorem wX{M:ah}{a:Nat}(hi:i<n):gi (td n M a) i=cS M i a:=by
 unfold td;rw [b9 (by simpa using hi),List.getElem_map,List.getElem_range]
theorem fp.Ha(h:fp n R B){y:ai}:y∈aG n (bK (bV n (aG n R B)) n) (bR (bV n (aG n R B)))↔∃a:Nat,a< (aG n R B).length/\y=td n (bV n (aG n R B)) a:=by
 rw [pS h.n1];constructor
 ·rintro⟨hl,hr,hc⟩;have hex:∀i:Nat,∃a:Nat,i<n->a< (aG n R B).length/\gi y i=cS (bV n (aG n R B)) i a:=fun i=>by
   by_cases hi:i<n
   ·have h1:=hr i hi;obtain⟨j,hj,a,ha,e⟩:=h.Er h1.1.1 h1.1.2;have r:=(h.fin hj ha).2;rw [<-e,h1.2]at r;obtain rfl:i=j:=by omega
    exact⟨a,fun _=> ⟨ha,e⟩⟩
   exact⟨0,fun h=>absurd h hi⟩
  obtain⟨A,hA⟩:=Classical.axiomOfChoice hex;have hA:∀i:Nat,i<n->A i< (aG n R B).length/\gi y i=cS (bV n (aG n R B)) i (A i):=hA;obtain⟨x,hx⟩:∃x:ai,x=(List.range n).map fun i=>gi (gl (aG n R B) (A i:Int)) i:=⟨_,rfl⟩
  have gv:∀i:Nat,i<n->gi x i=gi (gl (aG n R B) (A i:Int)) i:=fun i hi=>by
   rw [hx,b9 (by simpa using hi),List.getElem_map,List.getElem_range]
  have Fp:x∈aG n R B:=by
   refine(pS h.n1).2 ⟨by rw [hx];simp,fun i hi=>?_,fun i hi=>?_⟩
   ·rw [gv i hi];exact h.at_ (hA i hi).1 hi
   rw [gv i (by omega),gv (i+1) hi];have q:=hc i hi;rw [(hA i (by omega)).2,(hA (i+1) hi).2]at q;exact(h.inc hi (hA i (by omega)).1 (hA (i+1) hi).1).1 q
  obtain⟨c,oN,e⟩:=gF.1 Fp;refine⟨c,oN,wv (n:=n) hl (by simp [td]) fun i hi=>?_⟩;rw [wX hi,(hA i hi).2];refine(h.ua hi (hA i hi).1 oN).2 ?_;rw [b7 oN,e];exact(gv i hi).symm
 rintro⟨a,ha,rfl⟩;refine⟨by simp [td],fun i hi=>?_,fun i hi=>?_⟩
 ·rw [wX hi];exact h.fin hi ha
 rw [wX (show i<n by omega),wX hi];exact(h.inc hi ha ha).2 ((oc h.n1 ha).2.2 i hi)
theorem fp.ZU(h:fp n R B){a:Nat}(ha:a< (aG n R B).length)(hb:b< (aG n R B).length)(e:td n (bV n (aG n R B)) a=td n (bV n (aG n R B)) b):a=b:=
 yx ha hb (wv (n:=n) (oc h.n1 ha).1 (oc h.n1 hb).1 fun i hi=>by
  have:=aF (fun y=>gi y i) e;simp only [wX hi]at this;exact(h.ua hi ha hb).1 this)
theorem fp.Eo(h:fp n R B):(aG n (bK (bV n (aG n R B)) n) (bR (bV n (aG n R B)))).length=(aG n R B).length:=by
 have hp:((List.range (aG n R B).length).map (td n (bV n (aG n R B)))).Perm (aG n (bK (bV n (aG n R B)) n) (bR (bV n (aG n R B)))):=by
  refine(vJ ?_ (G9 _ _ _).nodup).2 fun y=>?_
  ·exact pd.2 ((List.nodup_range (n:=(aG n R B).length)).imp_of_mem fun {a b} ha hb bU e=>bU (h.ZU (il.1 ha) (il.1 hb) e))
  rw [h.Ha,dA];constructor
  ·rintro⟨a,ha,rfl⟩;exact⟨a,il.1 ha,rfl⟩
  rintro⟨a,ha,rfl⟩;exact⟨a,il.2 ha,rfl⟩
 have:=hp.length_eq;rw [fO,qB]at this;exact this.symm
theorem fp.QL(h:fp n R B)(hp:p< (aG n R B).length):∃a:Nat,a< (aG n R B).length/\gl (aG n (bK (bV n (aG n R B)) n) (bR (bV n (aG n R B)))) p=td n (bV n (aG n R B)) a:=by
 have hl:=h.Eo;refine h.Ha.1 ?_;rw [b7 (by omega)];exact dQ _
theorem fp.ZR(h:fp n R B){a:Nat}(ha:a< (aG n R B).length):∃p:Nat,p< (aG n R B).length/\gl (aG n (bK (bV n (aG n R B)) n) (bR (bV n (aG n R B)))) p=td n (bV n (aG n R B)) a:=by
 have hl:=h.Eo;obtain⟨p,hp,e⟩:=gF.1 (h.Ha.2 ⟨a,ha,rfl⟩);exact⟨p,by omega,by rw [b7 hp];exact e⟩
theorem fp.ZP(h:fp n R B):zH n (aG n (bK (bV n (aG n R B)) n) (bR (bV n (aG n R B)))):=by
 have hl:=h.Eo;have key:∀ {S:Nat->Prop} {a c:Nat},jm n (aG n R B) S a c->∀ {S':Nat->Prop},(∀k,k<n->(S' k->S k))->∀p:Nat,p< (aG n R B).length->gl (aG n (bK (bV n (aG n R B)) n) (bR (bV n (aG n R B)))) p=td n (bV n (aG n R B)) a->
  ∃q:Nat,q< (aG n R B).length/\gl (aG n (bK (bV n (aG n R B)) n) (bR (bV n (aG n R B)))) q=td n (bV n (aG n R B)) c/\jm n (aG n (bK (bV n (aG n R B)) n) (bR (bV n (aG n R B)))) S' p q:=by
  intro S a c hL S' hS p hp e
  induction hL with
  | refl ha=>exact⟨p,hp,e,.refl (by omega)⟩
  | step qg hi hs hA ih=>
   rename_i b c i;obtain⟨q,hq,e1,l1⟩:=ih;obtain⟨r,hr,e2⟩:=h.ZR hA.2.1;refine⟨r,hr,e2,.step l1 hi (fun hx=>hs (hS i hi hx)) ⟨by omega,by omega,fun k hk bU=>?_⟩⟩;rw [e1,e2,wX hk,wX hk];exact(h.ua hk hA.1 hA.2.1).2 (hA.2.2 k hk bU)
 intro p q uo hq;rw [hl]at hq;obtain⟨a,ha,ea⟩:=h.QL (show p< (aG n R B).length by omega);obtain⟨b,hb,eb⟩:=h.QL hq;have lL:jm n (aG n R B) (fun k=>gi (gl (aG n R B) a) k=gi (gl (aG n R B) b) k) a b:=by
  rcases Nat.lt_trichotomy a b with eB | eB | eB
  ·exact h.zu.2.2.2 a b eB hb
  ·subst eB;exact .refl ha
  ·have:=(h.zu.2.2.2 b a eB ha).symm;have e:(fun k:Nat=>gi (gl (aG n R B) b) k=gi (gl (aG n R B) a) k)=fun k:Nat=>gi (gl (aG n R B) a) k=gi (gl (aG n R B) b) k:=funext fun k=>propext ⟨Eq.symm,Eq.symm⟩
   rwa [e]at this
 obtain⟨r,hr,er,lr⟩:=key lL (S':=fun k=>gi (gl (aG n (bK (bV n (aG n R B)) n) (bR (bV n (aG n R B)))) p) k=gi (gl (aG n (bK (bV n (aG n R B)) n) (bR (bV n (aG n R B)))) q) k) (fun k hk e=>by
  rw [ea,eb,wX hk,wX hk]at e;exact(h.ua hk ha hb).1 e) p (by omega) ea
 obtain rfl:r=q:=yx (by omega) (by omega) (er.trans eb.symm);exact lr
theorem fp.ZQ(h:fp n R B):uN n (bK (bV n (aG n R B)) n) (bR (bV n (aG n R B))):=by
 intro i e f eY mm he hf LP;obtain⟨j,rfl⟩:∃j:Nat,i=j:=⟨i.toNat,by omega⟩;have hj:j<n:=by omega
 have eZ:∃e0:Int,yi R j e0/\(e<0↔e0<0)/\(0<=e->1<=j/\∃a:Nat,a< (aG n R B).length/\e=cS (bV n (aG n R B)) (j - 1) a/\e0=gi (gl (aG n R B) a) ((j - 1:Nat):Int)):=by
  rcases he with⟨q1,q2⟩ | ⟨q1,q2,q3⟩
  ·exact⟨-1,.inl ⟨O,q2⟩,by omega,fun _=>by omega⟩
  obtain⟨k,hk,a,ha,ea⟩:=h.Er q1.1 q1.2;have r:=(h.fin hk ha).2;rw [<-ea,q3]at r;obtain rfl:k=j - 1:=by omega
  have g:=h.at_ ha hk;exact⟨_,.inr ⟨g.1,q2,by rw [g.2];omega⟩,by omega,fun _=> ⟨by omega,a,ha,ea,O⟩⟩
 have dt:∃f0:Int,yh n R j f0/\(f<0↔f0<0)/\(0<=f->j+1<n/\∃b:Nat,b< (aG n R B).length/\f=cS (bV n (aG n R B)) (j+1) b/\f0=gi (gl (aG n R B) b) ((j+1:Nat):Int)):=by
  rcases hf with⟨q1,q2⟩ | ⟨q1,q2,q3⟩
  ·exact⟨-1,.inl ⟨O,q2⟩,by omega,fun _=>by omega⟩
  obtain⟨k,hk,b,hb,eb⟩:=h.Er q1.1 q1.2;have r:=(h.fin hk hb).2;rw [<-eb,q3]at r;obtain rfl:k=j+1:=by omega
  have g:=h.at_ hb hk;exact⟨_,.inr ⟨g.1,q2,by rw [g.2];omega⟩,by omega,fun _=> ⟨by omega,b,hb,eb,O⟩⟩
 obtain⟨e0,hL,Sk,Sm⟩:=eZ;obtain⟨f0,hH,Sr,Sw⟩:=dt;have hm:=h.zu.2.2.1 (j:Int) e0 f0 eY mm hL hH (fun k1 k2=>by
  obtain⟨j1,a,ha,ea,Ef⟩:=Sm (by omega);obtain⟨j2,b,hb,eb,GW⟩:=Sw (by omega);have:=LP (by omega) (by omega);obtain⟨i,rfl⟩:∃i,j=i+1:=⟨j - 1,by omega⟩;rw [ea,eb]at this;rw [Ef,GW];have e1:i+1 - 1=i:=by omega
  rw [e1]at this|-;exact h.aes (by omega) ha hb this)
 have hex:∀d0:Int,∃c:Nat,d0∈nh R B j e0 f0->c< (aG n R B).length/\gi (gl (aG n R B) c) j=d0:=fun d0=>by
  by_cases hd:d0∈nh R B j e0 f0
  ·have LN:=zM.1 hd;obtain⟨c,hc,ec⟩:=h.Om LN.1.1 LN.1.2;rw [LN.2.1]at ec;exact⟨c,fun _=> ⟨hc,ec⟩⟩
  exact⟨0,fun h=>absurd h hd⟩
 obtain⟨g,hg⟩:=Classical.axiomOfChoice hex;have hg:∀d0:Int,d0∈nh R B j e0 f0->g d0< (aG n R B).length/\gi (gl (aG n R B) (g d0:Int)) j=d0:=hg;have Sa:∀c:Nat,c< (aG n R B).length->((e<0\/e∈gl (bR (bV n (aG n R B))) (cS (bV n (aG n R B)) j c))↔(e0<0\/e0∈gl B (gi (gl (aG n R B) c) j))):=fun c hc=>by
  by_cases c1:e<0
  ·exact⟨fun _=> .inl (Sk.1 c1),fun _=> .inl c1⟩
  obtain⟨j1,a,ha,ea,Ef⟩:=Sm (by omega);obtain⟨i,rfl⟩:∃i,j=i+1:=⟨j - 1,by omega⟩;have e1:i+1 - 1=i:=by omega
  rw [e1]at ea Ef;have:=h.inc hj ha hc;constructor
  ·rintro(q | q)
   ·exact absurd q c1
   rw [ea]at q;exact .inr (by rw [Ef];exact this.1 q)
  rintro(q | q)
  ·exact absurd (Sk.2 q) c1
  rw [Ef]at q;exact .inr (by rw [ea];exact this.2 q)
 have RZ:∀c:Nat,c< (aG n R B).length->((f<0\/cS (bV n (aG n R B)) j c∈gl (bR (bV n (aG n R B))) f)↔(f0<0\/gi (gl (aG n R B) c) j∈gl B f0)):=fun c hc=>by
  by_cases c1:f<0
  ·exact⟨fun _=> .inl (Sr.1 c1),fun _=> .inl c1⟩
  obtain⟨j2,b,hb,eb,GW⟩:=Sw (by omega);have:=h.inc j2 hc hb;constructor
  ·rintro(q | q)
   ·exact absurd q c1
   rw [eb]at q;exact .inr (by rw [GW];exact this.1 q)
  rintro(q | q)
  ·exact absurd (Sr.2 q) c1
  rw [GW]at q;exact .inr (by rw [eb];exact this.2 q)
 have hp:((nh R B j e0 f0).map fun d0=>cS (bV n (aG n R B)) j (g d0)).Perm (nh (bK (bV n (aG n R B)) n) (bR (bV n (aG n R B))) j e f):=by
  refine(vJ ?_ (D0 _ _ _ _ _)).2 fun d=>?_
  ·refine pd.2 ((D0 R B j e0 f0).imp_of_mem fun {d1 d2} h1 h2 bU q=>bU ?_);have a1:=hg d1 h1;have a2:=hg d2 h2;rw [<-a1.2,<-a2.2];exact(h.ua hj a1.1 a2.1).1 q
  rw [dA,zM];constructor
  ·rintro⟨d0,pv,rfl⟩;have a1:=hg d0 pv;have a2:=zM.1 pv;have a3:=h.fin hj a1.1;rw [<-a1.2]at a2;exact⟨a3.1,a3.2,(Sa _ a1.1).2 a2.2.2.1,(RZ _ a1.1).2 a2.2.2.2⟩
  rintro⟨q1,q2,q3,q4⟩;obtain⟨k,hk,c,hc,ec⟩:=h.Er q1.1 q1.2;have r:=(h.fin hk hc).2;rw [<-ec,q2]at r;obtain rfl:k=j:=by omega
  have g1:=h.at_ hc hk;rw [ec]at q3 q4;have pv:gi (gl (aG n R B) c) k∈nh R B k e0 f0:=zM.2 ⟨g1.1,g1.2,(Sa _ hc).1 q3,(RZ _ hc).1 q4⟩;refine⟨_,pv,?_⟩;have a1:=hg _ pv;rw [ec];exact(h.ua hk a1.1 hc).2 a1.2
 have:=hp.length_eq;rw [fO,hm]at this;exact this.symm
theorem fp.aau(h:fp n R B):uO (bV n (aG n R B)):=by
 have hl:=h.len;have hb:=h.pos.pe;have Ih:0< (aG n R B).length:=List.length_pos_iff.2 h.zu.1;refine⟨by rw [hl,h.UR];exact hb,?_,?_⟩
 ·unfold CF;rw [hl,h.Eo,h.nl]
 rw [hl];refine⟨fun e=>?_,fun e h0 h1=>?_,h.ZQ,h.ZP⟩
 ·have:=h.Eo;rw [e]at this;simp at this;omega
 obtain⟨i,hi,a,ha,ea⟩:=h.Er h0 h1;refine⟨_,h.Ha.2 ⟨a,ha,O⟩,?_⟩;rw [ea];unfold td;exact dA.2 ⟨i,il.2 hi,O⟩
theorem fp.gd(h:fp n R B):kJ (bV n (aG n R B))=0:=KH h.nF h.aau
end
section
variable {N:Nat} {xss yss:ah} {φ:Int->Int}
variable {f:Int}
end
section
variable {n F:Nat} {L:ah}
end
section
variable {N:Nat} {xss:ah} {f:Int}
end
section
variable {M:ah}
end
section
variable {M:ah}
end
theorem Reach.sub{ps qs:ah}(h:∀p∈ps,p∈qs){x y:Int}(hr:Reach ps x y):Reach qs x y:=by
 induction hr with
 | refl=>exact .refl
 | step _ hp ih=>exact .step ih (h _ hp)
section
variable {M:ah}
theorem N3{i:Nat}(hi:i<M.length):gl M.reverse i=gl M ((M.length - 1 - i:Nat):Int):=by
 rw [b7 (by rw [List.length_reverse];exact hi),b7 (by omega),List.getElem_reverse]
theorem Jc(hM:cN M):(gl M.reverse 0).length=(gl M 0).length:=by
 have h1:=hM.1;have:=N3 (M:=M) (i:=0) (by omega);rw [show((0:Nat):Int)=0 from rfl]at this;rw [this];exact(hM.2.2.1.at_ (by omega)).1
theorem N0(hM:cN M):cN M.reverse:=by
 have h0:=Jc hM;have h1:=hM.1;refine⟨by rw [List.length_reverse];exact hM.1,by rw [h0];exact hM.2.1,fun p hp=>?_,fun i hi k hk mQ f hf=>?_,?_⟩
 ·rw [h0];exact hM.2.2.1 p (List.mem_reverse.1 hp)
 ·rw [List.length_reverse]at hi hk;rw [h0]at hf;have h:=hM.2.2.2.1 (M.length - 1 - k) (by omega) (M.length - 1 - i) (by omega) (by omega) f hf;unfold Comm at h|-;rw [N3 hi,N3 hk];exact⟨h.1.symm,fun e=>h.2 e.symm⟩
 have hs:Sys (gl M 0).length M.reverse:=fun p hp=>hM.2.2.1.sys p (List.mem_reverse.1 hp)
 have hN:=hM.2.1;rw [h0];refine(FG hs (by omega)).2 fun x uy ka=>?_
 exact((FG hM.2.2.1.sys (by omega)).1 hM.2.2.2.2 x uy ka).sub fun p hp=>List.mem_reverse.2 hp
end
end
section
open Go.RowKit Go.Sort
variable{i:Nat}
theorem XB{w0 w:aa}{ks:List Ck}(i:Nat){t:ae}{A:aj}{n c:Nat}{xs:List aO}(hS:St w0 w ks)(hk:ks[i]?=some (bZ t A n c xs))(h0:0<n)(hn:n<=1000000000):
 aK prog 155 [.slice A n c] w (fun v w'=>v= .tuple #[]/\St w0 w' (ks.set i (bZ t A n c xs.reverse))):=by
 obtain⟨h1,h2,h3,h4⟩:=hS.pU hk (xM _);have hl:xs.length=n:=(hS.fG i hk).1;have h2:n<=c:=h2;have h3:c<=maxLen:=h3;rcases h4 with⟨_,lJ⟩ | ⟨g,o,cur,hA,hg,hh,hs,hc⟩
 ·have lJ:c=0:=lJ;omega
 have hA:A=some ⟨g,o,none⟩:=hA;have hs:o+c<=cur.size:=hs;have hc:∀j,j<n->cur[o+j]?=(xs.map aO.v)[j]?:=hc;subst hA;subst hl;have key:=AnyE.slices_Reverse af5 aO.v (fun _=>O) g o c xs w (Mk hh hc) (by omega);refine Calls.mono key fun x w' ⟨hx,q,hw⟩=> ⟨_,hx,O,?_⟩
 subst hw;have h:=hS.laid (q:=q) (m:=xs.length) (enc:=aO.v) (ds:=xs.reverse) hk O hg hh hs (by simp) (by simp;omega) h3;rw [gR (by simp)]at h;exact h
theorem KL{α:Type}{l:List α}{d:α}{n:Nat}(hl:l.length=n)(hi:i<n):l.reverse.getD i d=l.getD (n - 1 - i) d:=by
 subst hl;rw [da,da,List.getElem?_reverse hi]
theorem bF.rev{w:aa}{A B:aj}{n:Nat}{rs:List aO}{xss:ah}(h:bF w A n rs xss)(ht:ml w B n rs.reverse):bF w B n rs.reverse xss.reverse:=
 ⟨ht,by rw [List.length_reverse];exact h.len,fun i hi=>by rw [KL h.top.1 hi,KL h.len hi];exact h.row _ (by omega),fun i hi=>by rw [KL h.top.1 hi];exact h.cap _ (by omega)⟩
theorem Ko(A:aj)(n c:Nat)(rs:List aO)(xss:ah)(N:Nat)(w:aa)(hR:bF w A n rs xss)(hM:cN xss)(hN:N=(gl xss 0).length):
 aK prog 85 [.agg #[.slice A n c]] w (fun v w'=>∃A' c' rs',v= .agg #[.slice A' n c']/\rs'.length=n/\St w w' (aL 34 2 A' n c' rs' (pT N xss.reverse 0))):=by
 have hn:=hM.1;have hN2:=hM.2.1;have jH:=hR.len;refine bA func85 O ntmps85 O (qp O O) (bg O (lB (St.refl w) O O ?_));intro Ab w1 aI;refine gH aI O fun Ac w2 aE=>ar O (aU (aE.rd 1 O) O (bh (aE.rd 1 O) O (aQ (OM A n c rs _ (aE.cT hR).top (by omega) (by omega)) O ?_)));rintro _ w3 ⟨A6,c6,rfl,aw⟩;have aR:=aE.call aw;refine ar O (aQ (XB 0 aR O (by omega) (by omega)) O ?_);rintro _ w4 ⟨rfl,aX⟩;have aX:St w w4 [bZ 34 A6 n c6 rs.reverse,Bx 24 1 Ac [.slice none 0 0],Bx 24 1 Ab [.slice A n c]]:=aX;have EH:=(aX.cT hR).rev (aX.fG 0 O);refine ar O ?_;refine aQ (Z3 A6 n c6 rs.reverse xss.reverse N 0 _ EH (N0 hM) (by rw [Jc hM,hN]) (by omega) (by omega)) O ?_;rintro _ w5 ⟨A',c',rs',rfl,cI,nD⟩;have aY:St w w5 ([Bx 24 1 Ac [.slice none 0 0],Bx 24 1 Ab [.slice A n c]]++aL 34 2 A' n c' rs' (pT N xss.reverse 0)):=(aX.tail.call nD).perm nT;refine bO 1 0 aY O O O O O O O fun w6 bk=>bI O (ij O (bk.rd 0 O) ?_);exact⟨A',c',rs',O,cI,(bk.sub ((kU _).cons _)).sub ((kU _).cons _)⟩
end
section
open Go.RowKit
theorem aiG{o b mv:ai}{f:Nat}(h:f<o.length):(jV o b mv).take (f+1)=(jV o b mv).take f++ [gi b (gi mv (gi o f))]:=by
 rw [lV (by simpa [jV]using h)];simp [jV,b9 h]
theorem afq(A:aj)(n c:Nat)(rs:List aO)(Y:ah)(N:Nat)(w:aa)(hR:bF w A n rs Y)(hM:cN Y)(hN:(gl Y 0).length=N)(xA:n<=c):
 aK prog 241 [.agg #[.slice A n c],ak 0,ak 0,ak ((n:Int) - 1)] w (fun v w'=>∃(A':aj) (c':Nat) (rs':List aO),v= .agg #[.slice A' n c']/\rs'.length=n/\St w w' (aL 34 2 A' n c' rs' (pT N Y 0))):=by
 subst hN;have EG:=hM.NQ (f:=0) (by omega) (by have:=hM.2.1;omega);have hs:=hM.2.2.1.sys;have h5:=hM.1;have Hk:=hM.2.1;have HF:=hR.len;generalize RH:(gl Y 0).length=N at*;obtain⟨o,ho⟩:∃o,o=eE N Y 0:=⟨_,rfl⟩;rw [<-ho]at EG;have De:o.length=N:=EG.len;have hX:pT N Y 0=Y.map (jV o (nk N o)):=by unfold pT;rw [<-ho]
 obtain⟨X,Lz⟩:∃X,X=Y.map (jV o (nk N o)):=⟨_,rfl⟩;rw [hX,<-Lz];have EK:X.length=n:=by rw [Lz,fO,HF]
 have RX:∀i:Nat,i<n->X.take (i+1)=X.take i++ [jV o (nk N o) (gl Y i)]:=fun i hi=>by
  rw [lV (by omega)]
  congr 2
  simp only [Lz,List.getElem_map];rw [b7 (by omega)]
 have Le:∀w',bF w' A n rs Y->aK prog 179 [.agg #[.slice A n c]] w' (fun v F3=>v=ak N/\St w' F3 []):=fun w' h=>by
  have:=IL A n c rs Y w' h (by omega)
  rwa [RH]at this
 have e1:Value.slice (cutAt A c (0:Int).toNat) (((n:Int) - 1+1).toNat - (0:Int).toNat) (c - (0:Int).toNat)= .slice A n c:=by
  have:cutAt A c 0=A:=by unfold cutAt;split;rfl;exact jh _
  show Value.slice (cutAt A c 0) (((n:Int) - 1+1).toNat - 0) (c - 0)=_;rw [this,show((n:Int) - 1+1).toNat - 0=n by omega,Nat.sub_zero]
 refine bA func241 O ntmps241 O (qp O O) (bg O (lB (St.refl w) O O ?_));intro A4 w1 hS;refine gH hS O ?_;clear hS;intro A8 w2 hS;refine ar O (aU (hS.rd 1 O) O (bh (hS.rd 1 O) O ?_));refine ar O (aH O ?_);refine Xb O O O O (by omega) ?_;rw [e1];refine ar O (aQ (M3 A n c rs Y N 0 _ (hS.cT hR) (by omega) hs (by omega) (by omega) (by omega)) O ?_);rintro _ w3 ⟨bH,dE,rfl,aw⟩;rw [<-ho]at aw|-;rw [De]at aw|-;replace hS:=hS.call aw;refine ar O (ao.dq 0 (hS.rd 2 O) O O O (aQ (Le _ (hS.cT hR)) O ?_));rintro _ w4 ⟨rfl,qW⟩;replace hS:=hS.aq qW.below;refine wP N hS O O (by omega) ?_;clear hS;intro cn w5 hS;refine aC O (Cd.loop (α:=Nat) (fun k=> [(4,.pointer A4),(8,.pointer A8),(9,.slice A n c),(10,.slice bH N dE),(11,.slice cn N N),(12,ak k)]) (fun k w'=>k<=N/\St w w' [ax 2 cn N N (wG (List.replicate N 0) (fun k=>gi o k) (fun k=> (k:Int)) k),ax 2 bH N dE o,Bx 24 1 A8 [.slice none 0 0],Bx 24 1 A4 [.slice A n c]]) (fun k=>N - k) 0 (amz O) ⟨aZ _,hS⟩ ?_);clear hS;rintro k e w6 ⟨hk,hS⟩;refine bg O (bc O O (aC O ?_));refine aM _ O (fun h1=>?_) (fun h1=>?_)
 ·have hpk:=EG.gO (k:=k) (by omega);refine aA O (aD (hS.bz 1 O).2 O (a8 (hS.bz 1 O) O (ar O (aD (hS.bz 0 O).2 O (lC 0 hS O O O (by omega) ?_)))));intro w7 bG;refine ar O (aH O (aT O (tQ ?_)));exact⟨k+1,by show N - (k+1)<N - k;omega,⟨O,O,O,O,O,aF (Value.int .i64) (by omega),au⟩,by omega,bG⟩
 obtain rfl:k=N:=by omega
 have tm:wG (List.replicate k 0) (fun k=>gi o k) (fun k=> (k:Int)) k=nk k o:=by unfold nk;rw [De]
 rw [tm]at hS;have HM:∀x:Int,0<=x->x<k->0<=gi (nk k o) x/\gi (nk k o) x<k:=fun x h0 h1=>by
  obtain⟨y,hy,_,hb⟩:=EG.Pu h0 h1;omega
 have mP:(nk k o).length=k:=Pt _ _;obtain⟨b,hb_⟩:∃b,b=nk k o:=⟨_,rfl⟩;rw [<-hb_]at hS HM mP RX;refine bn O (bo (cL O ?_));refine vN (by exact inferInstance) O (gH hS O ?_);clear hS;intro pL w7 hS;refine bO 1 0 hS O O O O O O O ?_;clear hS;intro w8 hS;replace hS:St w w8 ([Bx 24 1 pL [.slice none 0 0],ax 2 cn k k b,ax 2 bH k dE o,Bx 24 1 A8 [.slice none 0 0]]++aL 34 2 none 0 0 [] (X.take 0)):=by
  have km:St w w8 [Bx 24 1 pL [.slice none 0 0],ax 2 cn k k b,ax 2 bH k dE o,Bx 24 1 A8 [.slice none 0 0]]:=hS.sub (((((List.nil_sublist [Bx 24 1 A4 [.slice A n c]]).cons_cons _).cons_cons _).cons_cons _).cons_cons _);exact(km.nil 34).perm (nT (l₁:=[_]) (l₂:=[_,_,_,_]))
 refine aC O (Cd.loop (α:=Nat×(aj×Nat)×List aO) (fun z=> [(8,.pointer A8),(9,.slice A n c),(10,.slice bH k dE),(11,.slice cn k k),(13,.pointer pL),(14,ak (z.1:Int))]) (fun z w'=>z.1<=n/\z.2.2.length=z.1/\St w w' ([Bx 24 1 pL [.slice z.2.1.1 z.1 z.2.1.2],ax 2 cn k k b,ax 2 bH k dE o,Bx 24 1 A8 [.slice none 0 0]]++aL 34 2 z.2.1.1 z.1 z.2.1.2 z.2.2 (X.take z.1))) (fun z=>n - z.1) (0,(none,0),[]) (amz O) ⟨aZ _,O,hS⟩ ?_);clear hS;rintro⟨j,⟨AX,cX⟩,rX⟩ e w9 ⟨hj,qj,hS⟩;dsimp only at hj qj hS|-;refine bg O (bc O O (aC O ?_));refine aM _ O (fun h2=>?_) (fun h2=>?_)
 ·have gX:j<n:=by omega
  have um:=hs (gl Y j) (pW (by omega) (by omega));refine aA O (jn hS O ?_);clear hS;intro sQ dV hS;refine aC O (Cd.loop (α:=Nat×(aj×Nat)) (fun z=> [(8,.pointer A8),(9,.slice A n c),(10,.slice bH k dE),(11,.slice cn k k),(13,.pointer pL),(14,ak j),(15,.slice z.2.1 z.1 z.2.2),(16,ak (z.1:Int))]) (fun z w'=>z.1<=k/\St w w' (ax 2 z.2.1 z.1 z.2.2 ((jV o b (gl Y j)).take z.1)::([Bx 24 1 pL [.slice AX j cX],ax 2 cn k k b,ax 2 bH k dE o,Bx 24 1 A8 [.slice none 0 0]]++aL 34 2 AX j cX rX (X.take j)))) (fun z=>k - z.1) (0,(sQ,0)) (amz O) ⟨aZ _,hS⟩ ?_);clear hS;rintro⟨f,sQ,yp⟩ e dZ ⟨hf,hS⟩;dsimp only at hf hS|-;refine bg O (bc O O (aC O ?_));refine aM _ O (fun h3=>?_) (fun h3=>?_)
  ·have iH:f<k:=by omega
   have u9:=hS.cT hR;have bP:=u9.at_ (i:=(j:Int)) (by omega) (by omega);have cI:=bP.1;have l6:=um.1;have S7:=EG.gO (k:=f) iH;have uk:=um.2 _ S7.1 S7.2;have hbo:=HM _ uk.1 uk.2;have hOr:cg dZ bH k o:=hS.bz 3 O;have iG:cg dZ cn k b:=hS.bz 2 O;refine dw O ?_;refine kB [15] [yS (sQ) (f) (yp),yS (cn) (k) (k),yS (A) (n) (c),yI ((j:Int)),yP (ay (A) ((j:Int)).toNat),yS ((rg (rs) ((j:Int))).a) ((rg (rs) ((j:Int))).n) ((rg (rs) ((j:Int))).c),yS (bH) (k) (dE),yI ((f:Int)),yP (ay (bH) ((f:Int)).toNat),yI (gi (o) ((f:Int))),yP (ay ((rg (rs) ((j:Int))).a) (gi (o) ((f:Int))).toNat),yI (gi (gl Y j) (gi (o) ((f:Int)))),yP (ay (cn) (gi (gl Y j) (gi (o) ((f:Int)))).toNat),yI (gi (b) (gi (gl Y j) (gi (o) ((f:Int))))),.pr (fun v w'=>∃A9,v= .slice A9 1 1/\St w w' (ax 2 A9 1 1 [gi b (gi (gl Y j) (gi o f))]::ax 2 sQ f yp ((jV o b (gl Y j)).take f)::([Bx 24 1 pL [.slice AX j cX],ax 2 cn k k b,ax 2 bH k dE o,Bx 24 1 A8 [.slice none 0 0]]++aL 34 2 AX j cX rX (X.take j)))),.pr (fun v w'=>∃A9 c9,v= .slice A9 (f+1) c9/\St w w' (ax 2 A9 (f+1) c9 ((jV o b (gl Y j)).take (f+1))::([Bx 24 1 pL [.slice AX j cX],ax 2 cn k k b,ax 2 bH k dE o,Bx 24 1 A8 [.slice none 0 0]]++aL 34 2 AX j cX rX (X.take j)))),.pr (fun v w'=>∃A9 c9,v= .slice A9 (f+1) c9/\St w w' (ax 2 A9 (f+1) c9 ((jV o b (gl Y j)).take (f+1))::([Bx 24 1 pL [.slice AX j cX],ax 2 cn k k b,ax 2 bH k dE o,Bx 24 1 A8 [.slice none 0 0]]++aL 34 2 AX j cX rX (X.take j))))] (ly (ly (ly (ly (ly (ly (ly (ly (ly (ly (ly (ly (ly (ly (de.2 ⟨Ye.dp (fun v w w' h hb=>by obtain⟨A9,hv,h1⟩:=h;exact⟨A9,hv,h1.aq hb⟩),(de.2 ⟨Ye.dp (fun v w w' h hb=>by obtain⟨dW,fq,hv,h1⟩:=h;exact⟨dW,fq,hv,h1.aq hb⟩),(de.2 ⟨Ye.dp (fun v w w' h hb=>by obtain⟨dW,fq,hv,h1⟩:=h;exact⟨dW,fq,hv,h1.aq hb⟩),(fun _ h=>by cases h)⟩)⟩)⟩))))))))))))))) ?_ ?_
   ·refine⟨?_,bT O,bT O,bT O,cP fun _ _ hb _ _ _=>aD (u9.top.aq hb).2 O (bE O O),cP fun _ _ hb _ _ _=>bW (u9.top.aq hb) O (bE O O),bT O,bT O,cP fun _ _ hb _ _ _=>aD (hOr.aq hb).2 O (bE O O),cP fun _ _ hb _ _ _=>a8 (hOr.aq hb) O (bE O O),cP fun _ _ hb _ _ _=>aD (bP.aq hb).2 O (bE O O),cP fun _ _ hb _ _ _=>a8 (bP.aq hb) O (bE O O),cP fun _ _ hb _ _ _=>aD (iG.aq hb).2 O (bE O O),cP fun _ _ hb _ _ _=>a8 (iG.aq hb) O (bE O O),?_,?_,?_,au⟩
    ·intro e1 w1 cc eZ dt fQ hp aW hq;show ao _ _ _ _ _ _ _;refine lW O (by exact aW 16 _ O (by kernel_rfl)) O (ao.n (iN O (by exact O)))
    ·refine cP fun e1 w1 hb hp aW hq=>?_
     exact eS (St.refl _) O O O fun A9 w9 iV=>ao.n (fN.dn O iV.below ⟨A9,O,(hS.aq hb).call iV⟩)
    ·refine kG fun e1 w1 hb hp aW hq=>?_
     obtain⟨A9,oY,h1⟩:=(hp 14 _ _ (by kernel_rfl) rfl rfl (by kernel_rfl));refine fk 1 h1 O (h1.bz 0 O) O (by exact oY) O ?_;intro dW fq Ou Ak;refine ao.n ?_;exact fY.dn O ⟨dW,fq,O,by rw [aiG (by omega)];exact Ak.tail⟩
    refine dP 1 fun e1 w1 hp aW hq=>?_
    have eN:=hp 15 _ _ (by kernel_rfl) O O (by kernel_rfl);obtain⟨dW,fq,oY,h1⟩:=(hp 15 _ _ (by kernel_rfl) rfl rfl (by kernel_rfl));refine lW O (by exact oY) O (ao.n ?_);exact fN.dn O (Below.refl _ _) ⟨dW,fq,O,h1⟩
   intro u fg _ hu _ _;obtain⟨B7,d7,MJ,hS⟩:=hu 16 _ rfl (by kernel_rfl);refine jW O (aH O (aT O (tQ ?_)));exact⟨(f+1,B7,d7),by show k - (f+1)<k - f;omega,⟨O,O,O,O,O,O,by exact MJ,aF (Value.int .i64) (by omega),au⟩,by show f+1<=k;omega,hS⟩
  obtain rfl:f=k:=by omega
  rw [gR (by simp [jV];omega)]at hS;refine bn O (bo (cL O ?_));refine aU (hS.rd 1 O) O (bh (hS.rd 1 O) O (ar O (kV hS O O O ?_)));clear hS;intro A9 fg hS;refine lA 6 hS O (hS.fG 0 O) O O O (by omega) (by omega) O ?_;clear hS;intro F6 GD gj hS;replace hS:=hS.tail;refine aU (hS.rd 1 O) O (kF 1 (j:=0) hS O O O O O ?_);clear hS;intro lS hS;replace hS:St w lS (ax 2 sQ f yp (jV o b (gl Y j))::([Bx 24 1 pL [.slice F6 (j+1) GD],ax 2 cn f f b,ax 2 bH f dE o,Bx 24 1 A8 [.slice none 0 0],bZ 34 F6 (j+1) GD (rX++ [⟨sQ,f,yp⟩])]++cK 2 rX (X.take j))):=hS;refine ar O (aH O (aT O (tQ ?_)));refine⟨(j+1,(F6,GD),rX++ [⟨sQ,f,yp⟩]),by show n - (j+1)<n - j;omega,⟨O,O,O,O,O,aF (Value.int .i64) (by omega),au⟩,by show j+1<=n;omega,by show(rX++ [_]).length=j+1;rw [b8,qj];rfl,?_⟩;show St w lS (_++aL _ _ F6 (j+1) GD (rX++ [_]) (X.take (j+1)));rw [RX j gX];unfold aL;rw [o9 (by rw [qj,na];omega)];refine hS.perm ?_;exact nT (l₁:=[_]) (l₂:=_::_::_::_::_::cK 2 rX (X.take j))
 obtain rfl:j=n:=by omega
 rw [gR (by omega)]at hS;refine bn O (bo (cL O ?_));refine ao.dq 0 (hS.rd 0 O) O O O (bO 1 3 hS O O O O O O O ?_);clear hS;intro dV hS;refine bI O (ij O (hS.rd 3 O) ?_);exact⟨AX,cX,rX,O,qj,hS.tail.tail.tail.tail⟩
def Ps(l:List Oper):Bool:=l.zipIdx.all fun p=> (fB p.1).all fun ed=>Nat.blt ed.on p.2
theorem dT{o:Oper}{S:Nat->Bool}(h:∀ed∈fB o,S ed.on=true)(k:Nat)(hk:(fB o).any (fun ed=>Nat.beq ed.on k)=true):S k=true:=by
 obtain⟨ed,fV,hb⟩:=List.any_eq_true.1 hk;rw [<-oE hb];exact h ed fV
section
variable {P:Program} {N:Nat} {e:Env} {w:aa}
theorem BN{id:Nat}{l:List Oper}{Q:jD}(hm:P.follows .mixedOrders=true)(tm:Ps l=true)(I:(Nat->Bool)->Env->aa->Prop)(h0:∀w1,Below w.heap.size w w1->I (fun _=>false) e w1)
 (oW:∀(S:Nat->Bool) (i:Nat) (o:Oper) (e1:Env) (w1:aa),l[i]?=some o->S i=false->(∀ed∈fB o,S ed.on=true)->(∀(k:Nat) (o':Oper),S k=true->l[k]?=some o'->∀ed∈fB o',S ed.on=true)->I S e1 w1->ao P N l.toArray (fun e2 w2=>I (fun k=>Nat.beq k i || S k) e2 w2) [o] e1 w1)
 (Ar:∀(S:Nat->Bool) (e1:Env) (w1:aa),(∀i,i<l.length->S i=true)->I S e1 w1->Q .normal e1 w1):Cd P N (.region id l.toArray true) Q e w:= .mk' fun a ha=>by
 have xm:∀(i:Nat) (o:Oper),l[i]?=some o->∀ed∈fB o,ed.on<i:=by
  intro i o ho ed fV;simp only [Ps,List.all_eq_true]at tm;have:=tm (o,i) (by
   obtain⟨hi,HZ⟩:=gm.1 ho;rw [List.mem_iff_getElem?];exact⟨i,by simp [ho]⟩)
  simpa [Nat.blt_eq]using this ed fV
 refine wp_region_any hm ?_;have key:∀(fuel:Nat) (listed:Array Bool) (a1:Act) (e1:Env) (w1:aa),jL N a1 e1->listed.size=l.length->
  (∀(i:Nat) (o:Oper),listed.getD i false=true->l[i]?=some o->∀ed∈fB o,listed.getD ed.on false=true)->I (fun k=>listed.getD k false) e1 w1->(l.length - fuel<=(List.range l.length).countP fun i=>listed.getD i false)->
  wpAny P .any l.toArray (low N Q) fuel listed a1 w1:=by
  have nA:∀(listed:Array Bool) (a1:Act) (e1:Env) (w1:aa),jL N a1 e1->I (fun k=>listed.getD k false) e1 w1->(∀i,i<l.length->listed.getD i false=true)->low N Q .normal a1 w1:=
   fun listed a1 e1 w1 hr hI eJ=> ⟨e1,hr,Ar _ e1 w1 eJ hI⟩
  have Ff:∀(listed:Array Bool),listed.size=l.length->Region.ready .any l.toArray listed=[]->∀i,i<l.length->listed.getD i false=true:=by
   intro listed lN vk i
   induction i using Nat.strongRecOn with
   | _ i ih=>
    intro hi;cases yV:listed.getD i false with
    | true=>rfl
    | false=>
     exfalso;have:i∈Region.ready .any l.toArray listed:=by
      rw [mem_ready];refine⟨?_,l[i],by simp [hi],fun ed fV sk=>ih ed.on (xm i _ (fZ hi) ed (q9.2 ⟨fV,sk⟩)) (by have:=xm i _ (fZ hi) ed (q9.2 ⟨fV,sk⟩);omega)⟩;rw [iZ,rG (by omega)]at yV|-;exact yV
     rw [vk]at this;cases this
  intro fuel
  induction fuel with
  | zero=>
   intro listed a1 e1 w1 hr lN dh hI oh;have eJ:∀i,i<l.length->listed.getD i false=true:=by
    have h4:(List.range l.length).countP (fun i=>listed.getD i false)=(List.range l.length).length:=by
     have:=List.countP_le_length (p:=fun i=>listed.getD i false) (l:=List.range l.length);simp at this oh|-;omega
    rw [List.countP_eq_length]at h4;intro i hi;exact h4 i (by simpa using hi)
   refine⟨?_,nA listed a1 e1 w1 hr hI eJ⟩;rw [List.eq_nil_iff_forall_not_mem];intro i hi;obtain⟨h5,o,ho,_⟩:=mem_ready.1 hi;have qf:i<l.length:=by
    rcases Nat.lt_or_ge i l.length with h | h
    ·exact h
    ·simp [mh h]at ho
   have h6:=eJ i qf;rw [iZ,rG (by omega)]at h5 h6;simp at h5 h6;rw [h5]at h6;cases h6
  | succ fuel ih=>
   intro listed a1 e1 w1 hr lN dh hI oh;refine⟨fun vk=>nA listed a1 e1 w1 hr hI (Ff listed lN vk),fun i hi=>?_⟩;obtain⟨aW,o,ho,yM⟩:=mem_ready.1 hi;have iz:l[i]?=some o:=by simpa using ho
   have qf:i<l.length:=(gm.1 iz).1;have oU:∀ed∈fB o,listed.getD ed.on false=true:=fun ed fV=>yM ed (q9.1 fV).1 (q9.1 fV).2
   have ux:listed.getD i false=false:=by
    have h5:=aW;rw [iZ,rG (by omega)]at h5|-;exact h5
   have qe:∀k,(listed.setIfInBounds i true).getD k false=if k=i then true else listed.getD k false:=by
    intro k;rw [iZ,tM]
    by_cases fE:k=i
    ·subst fE;rw [aB rfl,aB (by omega),aB rfl];rfl
    ·rw [az (fun e=>fE e.symm),az fE,<-iZ]
   have hS:(fun k=> (listed.setIfInBounds i true).getD k false)=fun k=>Nat.beq k i || listed.getD k false:=by
    funext k;rw [qe]
    by_cases fE:k=i
    ·subst fE;rw [aB rfl,Nat.beq_refl];rfl
    ·rw [az fE];have:Nat.beq k i=false:=by
      cases hb:Nat.beq k i with
      | false=>rfl
      | true=>exact absurd (oE hb) fE
     rw [this];rfl
   have aw:=oW (fun k=>listed.getD k false) i o e1 w1 iz ux oU (fun k o' hk dm=>dh k o' hk dm) hI;have l9:=aw.run a1 hr;have wg:∀a2 w2,(∃e2,jL N a2 e2/\I (fun k=>Nat.beq k i || listed.getD k false) e2 w2)->wpAny P .any l.toArray (low N Q) fuel (listed.setIfInBounds i true) a2 w2:=by
    intro a2 w2 ⟨e2,qV,xg⟩;refine ih _ a2 e2 w2 qV (by simpa using lN) (fun k o' hk dm ed fV=>?_) (by rw [hS];exact xg) ?_
    ·rw [qe]
     by_cases yQ:ed.on=i
     ·rw [aB yQ]
     ·rw [az yQ]
      by_cases fE:k=i
      ·subst fE;rw [iz]at dm;cases dm;exact oU ed fV
      ·rw [qe,az fE]at hk;exact dh k o' hk dm ed fV
    ·have ER:(List.range l.length).countP (fun k=> (listed.setIfInBounds i true).getD k false)=(List.range l.length).countP (fun k=>listed.getD k false)+1:=
      Cz (fun k=>listed.getD k false) (fun k=> (listed.setIfInBounds i true).getD k false) i ux qe _ List.nodup_range (by simpa using qf)
     rw [ER];omega
   unfold wpOp;rw [ho];unfold wpList at l9;show if _ then _ else _
   by_cases hw:Region.wanted o (yielded l.toArray a1.tmps)=true
   ·rw [aB hw]at l9|-;rcases l9 with h5 | ⟨_,a0,w0,h5⟩
    ·refine .inl (Jz h5 (fun a2 w2 hx=>?_) (fun x a w hx hq=>hx hq.1));exact wg a2 w2 hx.2
    ·exact absurd h5.1 (by simp)
   ·rw [az hw]at l9|-;exact wg _ _ l9.2
 refine key l.length (Array.replicate l.length false) a e _ ha (by simp) (fun i o hi=>?_) (by
  have:(fun k=> (Array.replicate l.length false).getD k false)=fun _=>false:=by
   funext k;rw [iZ,Array.getElem?_replicate]
   split<;>rfl
  rw [this];exact h0 _ ⟨⟨rfl,rfl,rfl,bs _,fun _ _=>rfl⟩,fun _=>Nat.le_add_right _ _⟩) (by omega)
 exfalso;rw [iZ,Array.getElem?_replicate]at hi
 split at hi<;>simp at hi
end
def Rg(n:Nat)(xs:ai):Prop:=xs.length=n/\∀x∈xs,0<=x/\x< (n:Int)
theorem Rg.gi{n:Nat}{xs:ai}(h:Rg n xs){i:Int}(h0:0<=i)(h1:i<n):0<=Vc.gi xs i/\Vc.gi xs i<n:=by
 obtain⟨q,rfl⟩:∃q:Nat,i=q:=⟨i.toNat,by omega⟩;rw [b9 (by rw [h.1];omega)];exact h.2 _ (dQ _)
theorem Rg.set{n:Nat}{xs:ai}(h:Rg n xs){j:Nat}{v:Int}(h0:0<=v)(h1:v<n):Rg n (xs.set j v):=by
 refine⟨by rw [lT];exact h.1,fun x hx=>?_⟩;rcases List.mem_or_eq_of_mem_set hx with hx | rfl
 ·exact h.2 x hx
 exact⟨h0,h1⟩
def GM(N:Nat)(xss:ah):Prop:=∀p∈xss,Rg N p
def vE(v:Nat->Int)(n f:Nat):ai:=(List.range n).map fun g=>if g<f then v g else 0
theorem aju(v:Nat->Int)(n:Nat):vE v n 0=List.replicate n 0:=by
 apply ki (by simp [vE]);intro i h1 h2;simp [vE]
theorem ajv{v:Nat->Int}{n f:Nat}:(vE v n f).set f (v f)=vE v n (f+1):=by
 apply ki (by simp [vE]);intro i h1 h2;rw [List.getElem_set];simp only [vE,List.getElem_map,List.getElem_range]
 by_cases h:f=i
 ·subst h;rw [aB rfl,aB (Nat.lt_succ_self _)]
 rw [az h]
 by_cases h2:i<f
 ·rw [aB h2,aB (by omega)]
 rw [az h2,az (by omega)]
def DQ(g:Nat):Int:=if(g:Int)%2=0 then(g:Int)+1 else(g:Int) - 1
end
section
end
section
open Go.RowKit
section
variable {P:Program} {N:Nat} {ops:Array Oper} {K:Env->aa->Prop} {rest:List Oper} {e:Env} {w0 w w':aa} {ks:List Ck} {d:Nat} {ty:ae} {pos:String} {af:Array Edge} {x y:ag} {xt yt:ae} {i j:Int}
theorem OZ{t el:ae}{b:Nat}[bt P t (.slice el)][bq P el (.slice none 0 0) 1 b]{x0 x1 x2:ag}{s0 s1 s2:aO}(hS:St w0 w ks)(h0:ev e x0=s0.v)(h1:ev e x1=s1.v)(h2:ev e x2=s2.v)(hb:Nat.blt d N=true)(hK:∀A w',St w0 w' (bZ el A 3 3 [s0,s1,s2]::ks)->ao P N ops K rest (br e d (.slice A 3 3)) w'):ao P N ops K (⟨some d,.buildSlice t 3 #[(0,x0),(1,x1),(2,x2)],ty,pos,af,none⟩::rest) e w:=by
 obtain⟨inf,hi,dU,hs,gI⟩:=bq.get P el;have e0:(s0.v).cells= #[s0.v]:=O;have e1:(s1.v).cells= #[s1.v]:=O;have e2:(s2.v).cells= #[s2.v]:=O;have hz:(Value.slice none 0 0).cells= #[Value.slice none 0 0]:=O;refine .val (w':=w.alloc (.cells #[s0.v,s1.v,s2.v] el)) ?_ hb (hK _ _ (hS.alloc [s0.v,s1.v,s2.v] el (by simp [maxLen]) O));simp [execOp,Instr.buildSlice,run_underlying (bt.out (P:=P) (t:=t)),sizeOf,typeInfo,zeroValue,hi,hs,dU,hz,Instr.fill,newRow,h0,e0,h1,e1,h2,e2,Cn,jB]
end
theorem Vf{Q:jD}{e:Env}{w:aa}{F:List (Nat×ad)}(hM:Mt e F)(h:Q .normal (ext e F) w):Q .normal e w:=by rwa [yu hM]at h
structure XA(w0:aa)(A4 A7 AX:aj)(n cX:Nat)(rX:List aO)(X:ah)(bX:Bool)(S:Nat->Bool)(e:Env)(w:aa):Prop where
 f7:e 7= .pointer A7
 f4:e 4= .pointer A4
 p0:S 0=true->e 17= .agg #[.slice AX n cX]
 p1:S 1=true->e 18= .agg #[.slice AX n cX]
 p2:S 2=true->e 19= .bool bX
 p4:S 4=true->e 5= .bool bX
 mem:∃B2:ad,(S 3=true->B2= .slice AX n cX)/\St w0 w (Bx 24 1 A7 [.slice AX n cX]::Bx 24 1 A4 [B2]::aL 34 2 AX n cX rX X)
theorem afr(A:aj)(n c:Nat)(rs:List aO)(xss:ah)(F:Nat)(Aw:aj)(nw cw:Nat)(BF:List aO)(ws Y:ah)(w:aa)(hR:bF w A n rs xss)(hW:bF w Aw nw BF ws)(hs:Sys F xss)(hn:0<n)(hF:(gl xss 0).length=F)(nv:F<=1000000)(Fo:nw<=1000)
 (xH:∀i:Nat,i<nw->∀k:Nat,k< (gl ws i).length->0<=gi (gl ws i) k/\gi (gl ws i) k<n) (l9:∀i:Nat,i<nw->(gl ws i).length<=9223372036854775807) (hY:ws.map (pQ xss F)=Y) (hMY:cN Y) (hNY:(gl Y 0).length=F):
 aK prog 185 [.agg #[.slice A n c],.slice Aw nw cw] w (fun v w'=>∃(A':aj) (c':Nat) (rs':List aO) (b:Bool),v= .tuple #[.agg #[.slice A' nw c'],.bool b]/\rs'.length=nw/\St w w' (aL 34 2 A' nw c' rs' (pT F Y 0))):=by
 have MK:=hW.len;have HF:Y.length=nw:=by rw [<-hY,fO,MK]
 refine bA func185 O ntmps185 O (tD O O) (bg O (lB (St.refl w) O O ?_));intro A2 w1 hS;refine gH hS O ?_;clear hS;intro A4 w2 hS;refine ar O (ao.dq 0 (hS.rd 1 O) O O O (ar O (aQ (afs A n c rs xss F Aw nw cw BF ws _ (hS.cT hR) (hS.cT hW) hs hn hF nv Fo xH l9) O ?_)));rintro _ w3 ⟨AY,cY,rY,rfl,hrY,aw⟩;rw [hY]at aw;have hcY:nw<=cY:=(aw.get (k:=bZ 34 AY nw cY rY) (i:=0) O).cap.1;replace hS:=(hS.call aw).perm (nT);refine D1 (by exact inferInstance) O O O O (gH hS O ?_);clear hS;intro A6 w4 hS;refine bO 1 0 hS O O O O O O O ?_;clear hS;intro w5 hS;replace hS:St w w5 (Bx 24 1 A6 [.slice AY nw cY]::Bx 24 1 A4 [.slice none 0 0]::Bx 24 1 A2 [.slice A n c]::aL 34 2 AY nw cY rY Y):=hS;have hRY:bF w5 AY nw rY Y:=St.jj (ks:=[]) (by rw [fj];exact hS.tail.tail.tail) HF;refine ar O (ao.dq 0 (hS.rd 0 O) O O O ?_);refine ar O (bc O O (eh O ?_));refine aQ (afq AY nw cY rY Y F _ hRY hMY hNY hcY) O ?_;rintro _ w6 ⟨AX,cX,rX,rfl,qj,Bg⟩;have jQ:=Q3 F Y 0;generalize pT F Y 0=X at*;replace hS:=(hS.tail.sub (((List.nil_sublist _).cons_cons (Bx 24 1 A4 [.slice none 0 0])))).call2 Bg;refine gH hS O ?_;clear hS;intro A7 w7 hS;refine bO 1 0 hS O O O O O O O ?_;clear hS;intro w8 hS;replace hS:St w w8 (Bx 24 1 A7 [.slice AX nw cX]::Bx 24 1 A4 [.slice none 0 0]::aL 34 2 AX nw cX rX X):=hS;obtain⟨bX,hbX⟩:∃bX:Bool,bX=decide (cN X):=⟨_,rfl⟩;have EK:X.length=nw:=by rw [jQ,HF]
 refine aC O (BN (by kernel_rfl) (by kernel_rfl) (fun S e1 w1=>XA w A4 A7 AX nw cX rX X bX S e1 w1) (fun w4 hb=> ⟨O,O,fun h=> (nomatch h),fun h=> (nomatch h),fun h=> (nomatch h),fun h=> (nomatch h),.slice none 0 0,fun h=> (nomatch h),hS.aq hb⟩) ?_ ?_)
 ·intro S q o e1 w4 hq cC hd dh hI;obtain⟨f7,f4,p0,p1,p2,p4,B2,m3,hT⟩:=hI
  match q,hq,cC with
  | 0,hq,cC=>
   obtain rfl:=dC hq;refine ao.dq 0 (hT.rd 0 O) (by exact f7) O O (ao.n ?_);exact⟨f7,f4,fun _=>O,p1,p2,p4,B2,m3,hT⟩
  | 1,hq,cC=>
   obtain rfl:=dC hq;refine ao.dq 0 (hT.rd 0 O) (by exact f7) O O (ao.n ?_);exact⟨f7,f4,p0,fun _=>O,p2,p4,B2,m3,hT⟩
  | 2,hq,cC=>
   obtain rfl:=dC hq;have jP:bF w4 AX nw rX X:=St.jj (ks:=[]) (by rw [fj];exact hT.sub (((kU _).cons _).cons _)) EK;refine amq (T8 AX nw cX rX X _ jP (by omega)) O (by exact aF (fun v=> [v]) (p1 (dT hd 1 O))) O ?_;rintro _ w9 ⟨rfl,aw⟩;have hT:=hT.aq aw.below;refine ao.n ?_;exact⟨f7,f4,p0,p1,fun _=>by rw [hbX];rfl,p4,B2,m3,hT⟩
  | 3,hq,cC=>
   obtain rfl:=dC hq;refine bO 1 1 hT O (by exact f4) (by exact p0 (dT hd 0 O)) O O O O ?_;intro w9 hT;exact ao.n ⟨f7,f4,p0,p1,p2,p4,.slice AX nw cX,fun _=>O,hT⟩
  | 4,hq,cC=>
   obtain rfl:=dC hq;refine O2 O (by exact p2 (dT hd 2 O)) O (ao.n ?_);exact⟨f7,f4,p0,p1,p2,fun _=>O,B2,m3,hT⟩
  | q+5,hq,_=>exact(nomatch hq)
 ·intro S e1 w4 eJ hI;obtain⟨f7,f4,p0,p1,p2,p4,B2,m3,hT⟩:=hI;obtain rfl:=m3 (eJ 3 (by decide));refine Vf (F:=[(4,.pointer A4),(5,.bool bX)]) ⟨f4,p4 (eJ 4 (by decide)),au⟩ (BO O (kb O (hT.rd 1 O) O ?_));exact⟨AX,cX,rX,bX,O,qj,hT.tail.tail⟩
def ob(n q:Nat):ah:=(List.range q).map fun t:Nat=> [(n:Int) - 1 - (t:Int)]
theorem Zx(n q:Nat):ob n (q+1)=ob n q++ [[(n:Int) - 1 - (q:Int)]]:=by simp [ob,jB]
theorem GV(n q:Nat):(ob n q).length=q:=by simp [ob]
theorem Qq{n q i:Nat}(h:i<q):gl (ob n q) i=[(n:Int) - 1 - (i:Int)]:=by rw [b7 (by rw [GV];exact h)];simp [ob]
theorem Zw{M:ah}{F:Nat}(hs:∀i:Nat,i<M.length->(gl M i).length=F):(ob M.length M.length).map (pQ M F)=M.reverse:=by
 apply ki
 ·simp [ob]
 intro i h1 h2;have hi:i<M.length:=by simpa using h2
 rw [List.getElem_map,List.getElem_reverse];have e:(ob M.length M.length)[i]'(by rw [GV];exact hi)=[((M.length - 1 - i:Nat):Int)]:=by
  simp only [ob,List.getElem_map,List.getElem_range]
  congr 1
  omega
 rw [e];have h9:=hs (M.length - 1 - i) (by omega);rw [<-b7 (show M.length - 1 - i<M.length by omega)];apply ki
 ·rw [h9];simp [pQ]
 intro j h3 h4;simp only [pQ,List.getElem_map,List.getElem_range,tH,List.foldl_cons,List.foldl_nil];rw [b9 h4]
theorem M6(A:aj)(n c:Nat)(rs:List aO)(xss:ah)(N:Nat)(w:aa)(hR:bF w A n rs xss)(hM:cN xss)(hN:N=(gl xss 0).length):
 aK prog 105 [.agg #[.slice A n c]] w (fun v w'=>∃(A':aj) (c':Nat) (rs':List aO),v= .agg #[.slice A' n c']/\rs'.length=n/\St w w' (aL 34 2 A' n c' rs' (pT N xss.reverse 0))):=by
 have hn:=hM.1;have Hk:=hM.2.1;have hs:=hM.2.2.1.sys;have jH:=hR.len;subst hN;have adA:=Jc hM;have ot:=N0 hM;have ve:(ob xss.length xss.length).map (pQ xss (gl xss 0).length)=xss.reverse:=Zw fun i hi=> (hs (gl xss i) (by rw [b7 hi];exact dQ hi)).1
 refine bA func105 O ntmps105 O (qp O O) (bg O (lB (St.refl w) O O ?_));intro A1 w1 hS;refine gH hS O ?_;clear hS;intro A2 w2 hS;refine ar O (jn hS O ?_);clear hS;intro A3 w3 hS;replace hS:St w w3 (aL 34 2 A3 0 0 [] (ob n 0)++ [Bx 24 1 A2 [.slice none 0 0],Bx 24 1 A1 [.slice A n c]]):=hS;refine ar O (aU (hS.rd 2 O) O (bh (hS.rd 2 O) O ?_));refine bc O O (eh O (aC O ?_));refine Cd.loop (α:=Nat×(aj×Nat)×List aO) (fun z=> [(1,.pointer A1),(2,.pointer A2),(3,.slice z.2.1.1 z.1 z.2.1.2),(4,ak ((n:Int) - 1 - (z.1:Int)))]) (fun z w'=>z.1<=n/\z.2.2.length=z.1/\St w w' (aL 34 2 z.2.1.1 z.1 z.2.1.2 z.2.2 (ob n z.1)++ [Bx 24 1 A2 [.slice none 0 0],Bx 24 1 A1 [.slice A n c]])) (fun z=>n - z.1) (0,(A3,0),[]) ⟨O,O,O,aF (Value.int .i64) (by show(n:Int) - 1=(n:Int) - 1 - (0:Nat);omega),au⟩ ⟨aZ _,O,hS⟩ ?_;clear hS;rintro⟨q,⟨A3,c3⟩,r3⟩ e w4 ⟨hq,wj,hS⟩;dsimp only at hq wj hS|-;refine bJ O (aM _ O (fun h1=>?_) (fun h1=>?_))
 ·have Mp:q<n:=by omega
  refine aA O (eS hS O O O ?_);clear hS;intro sR w5 hS;refine kV hS O O O ?_;clear hS;intro F7 w6 hS;refine lA 2 hS O (hS.fG 0 O) O O O (by omega) (by omega) O ?_;clear hS;intro jk J7 w7 hS;replace hS:St w w7 (ax 2 sR 1 1 [(n:Int) - 1 - (q:Int)]::bZ 34 jk (q+1) J7 (r3++ [⟨sR,1,1⟩])::(cK 2 r3 (ob n q)++ [Bx 24 1 A2 [.slice none 0 0],Bx 24 1 A1 [.slice A n c]])):=hS.tail;refine ar O (eh O (aT O (tQ ?_)));refine⟨(q+1,(jk,J7),r3++ [⟨sR,1,1⟩]),by show n - (q+1)<n - q;omega,⟨O,O,O,aF (Value.int .i64) (by show(n:Int) - 1 - (q:Int) - 1=(n:Int) - 1 - (q+1:Nat);omega),au⟩,by show q+1<=n;omega,by show(r3++ [_]).length=q+1;rw [b8,wj];rfl,?_⟩;show St w w7 (aL _ _ jk (q+1) J7 (r3++ [_]) (ob n (q+1))++_);rw [Zx];unfold aL;rw [o9 (by rw [wj,GV])];refine hS.perm ?_;rw [List.cons_append,gx];exact(List.Perm.swap _ _ _).trans (List.Perm.cons _ (qD (l₁:=cK 2 r3 (ob n q))).symm)
 obtain rfl:q=n:=by omega
 have pn:Rd w4 A1 1 (fun j=> [Value.slice A q c].getD j undef):=(hS.sub (iQ _ _)).rd (k:=Bx 24 1 A1 [.slice A q c]) 1 O;have hWI:bF w4 A3 q r3 (ob q q):=St.jj hS (GV _ _);refine bn O (bo (cL O ?_));refine ao.dq 0 pn O O O (ar O ?_);refine aQ (afr A q c rs xss (gl xss 0).length A3 q c3 r3 (ob q q) xss.reverse _ (hS.cT hR) hWI hs (by omega) O (by omega) (by omega) (fun i hi k hk=>?_) (fun i hi=>?_) ?_ ot adA) O ?_
 ·rw [Qq hi]at hk|-;have:k=0:=by simpa using hk
  subst this;show 0<=(q:Int) - 1 - (i:Int)/\(q:Int) - 1 - (i:Int)<q;omega
 ·rw [Qq hi];simp
 ·rw [<-jH];exact ve
 rintro _ w5 ⟨A',c',rs',b,rfl,adE,aw⟩;replace hS:=((hS.sub (((iQ _ _)).trans (kU _))).call2 aw);refine ar O (gH hS O ?_);clear hS;intro A5 w6 hS;refine bO 1 0 hS O O O O O O O ?_;clear hS;intro w7 hS;refine ar O (ao.dq 0 (hS.rd 0 O) O O O (bO 1 1 hS O O O O O O O ?_));clear hS;intro w8 hS;refine bI O (ij O (hS.rd 1 O) ?_);exact⟨A',c',rs',O,adE,hS.tail.tail.tail⟩
section
variable {P:Program} {N:Nat} {ops:Array Oper} {K:Env->aa->Prop} {rest:List Oper} {e:Env} {w0 w w':aa} {ks:List Ck} {d:Nat} {ty:ae} {pos:String} {af:Array Edge}
def ze:Nat->List ad->List (Nat×ad)
 | _,[]=> []
 | k,v::r=> (k,v)::ze (k+1) r
theorem QP:∀(vs:List ad) (k:Nat) (cells:Array ad),(∀v∈vs,v.cells= #[v])->k+vs.length<=cells.size->∃out,Instr.fill (fun i=>some (i*1,1)) cells (ze k vs)=some out/\out.size=cells.size/\(∀j,j<k->out[j]?=cells[j]?)/\(∀j,j<vs.length->out[k+j]?=vs[j]?)/\(∀j,k+vs.length<=j->out[j]?=cells[j]?)
 | [],k,cells,_,_=> ⟨cells,rfl,rfl,fun _ _=>rfl,fun j hj=>absurd hj (sX _),fun _ _=>rfl⟩
 | v::r,k,cells,hv,h=>by
  have hk:k<cells.size:=by simp at h;omega
  have hc:v.cells= #[v]:=hv v (by simp);obtain⟨out,h1,h2,h3,h4,h5⟩:=QP r (k+1) (cells.setIfInBounds k v) (fun u hu=>hv u (by simp [hu])) (by simp at h|-;omega);refine⟨out,?_,by rw [h2];simp,fun j hj=>?_,fun j hj=>?_,fun j hj=>?_⟩
  ·show Instr.fill _ cells ((k,v)::ze (k+1) r)=some out;rw [<-h1];simp [Instr.fill,hc,show ¬cells.size<k+1 by omega]
  ·rw [h3 j (by omega),tM,az (by omega)]
  ·cases j with
   | zero=>rw [Nat.add_zero,h3 k (by omega),tM,aB rfl,aB hk];rfl
   | succ q=>
    have:=h4 q (by simpa using hj);rw [show k+ (q+1)=k+1+q by omega,this]
    rfl
  ·rw [h5 j (by simp at hj|-;omega),tM,az (by simp at hj;omega)]
theorem QO(vs:List ad)(cells:Array ad)(hv:∀v∈vs,v.cells= #[v])(h:cells.size=vs.length):Instr.fill (fun i=>some (i*1,1)) cells (ze 0 vs)=some vs.toArray:=by
 obtain⟨out,h1,h2,_,h4,_⟩:=QP vs 0 cells hv (by omega);rw [h1]
 congr 1
 apply Array.ext';apply List.ext_getElem?;intro j
 by_cases hj:j<vs.length
 ·have:=h4 j hj;rw [Nat.zero_add]at this;simpa using this
 rw [mh (by simpa [h2,h]using hj),mh (by simpa using hj)]
theorem BX{t el:ae}{z:ad}{b n:Nat}[bt P t (.slice el)][bq P el z 1 b]{ps:Array (Nat×ag)}(ss:List aO)(hS:St w0 w ks)(hv:(ps.toList.map fun p=> (p.1,ev e p.2))=ze 0 (ss.map aO.v))(hn:ss.length=n)(oo:n≠0)(sB:n<=1000)(hz:z.cells= #[z])(hb:Nat.blt d N=true)(hK:∀A w',St w0 w' (bZ el A n n ss::ks)->ao P N ops K rest (br e d (.slice A n n)) w'):ao P N ops K (⟨some d,.buildSlice t n ps,ty,pos,af,none⟩::rest) e w:=by
 subst hn;obtain⟨inf,hi,dU,hs,gI⟩:=bq.get P el;have hA:=hS.alloc (ss.map aO.v) el (by simp [maxLen];omega) (xM _);refine .val (w':=w.alloc (.cells (ss.map aO.v).toArray el)) ?_ hb (hK _ _ (by simpa [bZ]using hA));have hf:=QO (ss.map aO.v) ((Array.range (ss.length*1)).map ((#[z]:Array ad)[· % (#[z]:Array ad).size]!)) (fun v hv=>by obtain⟨s,_,rfl⟩:=dA.1 hv;rfl) (by simp);have oY:(ps.map fun p=> (p.1,ev e p.2)).toList=ze 0 (ss.map aO.v):=by rw [Array.toList_map];exact hv
 have z6:¬16777216<ss.length:=by omega
 simp only [Nat.mul_one]at hf;simp [execOp,Instr.buildSlice,run_underlying (bt.out (P:=P) (t:=t)),sizeOf,typeInfo,zeroValue,hi,hs,dU,hz,newRow,hv,z6,oo];simp at hf;simp [hf]
end
section
variable {P:Program} {N:Nat} {ops:Array Oper} {K:Env->aa->Prop} {rest:List Oper} {e:Env} {w w0:aa} {ks:List Ck} {d:Nat} {ty:ae} {pos:String} {af:Array Edge} {x y:ag} {xt yt:ae}
theorem kW[bt P xt .string]{a b:ByteArray}(hx:ev e x= .string a)(hy:ev e y= .string b)(hb:Nat.blt d N=true)(hK:ao P N ops K rest (br e d (.bool (decide (a=b)))) w):
 ao P N ops K (⟨some d,.binOp .eql xt x y yt,ty,pos,af,none⟩::rest) e w:=by
 have he:(a.toList==b.toList)=decide (a=b):=by
  by_cases h:a=b
  ·subst h;simp
  have:¬a.toList=b.toList:=fun q=>h (ByteArray.ext (by simpa [ByteArray.toList_eq]using q))
  simp [h,this]
 exact .val (by rw [<-he];simp [execOp,hx,hy,eqGuard,binOp,Op.stringOp]) hb hK
theorem aex(vs:List ByteArray):eK (vs.map Value.string)=false:=by cases vs<;>rfl
theorem W6{t el:ae}{z:ad}{b n:Nat}[bt P t (.slice el)][bq P el z 1 b]{ps:Array (Nat×ag)}(ss:List ByteArray)(hS:St w0 w ks)(hv:(ps.toList.map fun p=> (p.1,ev e p.2))=ze 0 (ss.map Value.string))(hn:ss.length=n)(oo:n≠0)(sB:n<=1000)(hz:z.cells= #[z])(hb:Nat.blt d N=true)(hK:∀A w',St w0 w' (⟨A,n,n,el,ss.map Value.string⟩::ks)->ao P N ops K rest (br e d (.slice A n n)) w'):ao P N ops K (⟨some d,.buildSlice t n ps,ty,pos,af,none⟩::rest) e w:=by
 subst hn;obtain⟨inf,hi,dU,hs,gI⟩:=bq.get P el;have hA:=hS.alloc (ss.map Value.string) el (by simp [maxLen];omega) (aex _);refine .val (w':=w.alloc (.cells (ss.map Value.string).toArray el)) ?_ hb (hK _ _ (by simpa using hA));have hf:=QO (ss.map Value.string) ((Array.range (ss.length*1)).map ((#[z]:Array ad)[· % (#[z]:Array ad).size]!)) (fun v hv=>by obtain⟨s,_,rfl⟩:=dA.1 hv;rfl) (by simp);have oY:(ps.map fun p=> (p.1,ev e p.2)).toList=ze 0 (ss.map Value.string):=by rw [Array.toList_map];exact hv
 have z6:¬16777216<ss.length:=by omega
 simp only [Nat.mul_one]at hf;simp [execOp,Instr.buildSlice,run_underlying (bt.out (P:=P) (t:=t)),sizeOf,typeInfo,zeroValue,hi,hs,dU,hz,newRow,hv,z6,oo];simp at hf;simp [hf]
theorem W9{t el:ae}{n s b:Nat}{z:ad}[hU:bt P t (.array n el)][bq P el z s b]{q:Addr}(hx:ev e x= .pointer (some q))(hb:Nat.blt d N=true)(hn:n<=9223372036854775807)(hK:ao P N ops K rest (br e d (.slice (some q) n n)) w):ao P N ops K (⟨some d,.slice t x none none none,ty,pos,af,none⟩::rest) e w:=by
 obtain⟨inf,hi,dU,hs,gI⟩:=bq.get P el;refine .val (w':=w) ?_ hb hK;have hq:q.add 0=q:=by simp [Addr.add]
 simp [execOp,hx,Instr.sliceAt,run_underlying hU.out,Instr.sureAddr,Instr.sliceBounds,sizeOf,typeInfo,hi,hs,hq]
end
def ov:List ByteArray:=[⟨#[99,117,98,101]⟩,⟨#[100,111,100,101,99,97,104,101,100,114,111,110]⟩,⟨#[104,101,109,105,99,117,98,101]⟩,⟨#[104,101,109,105,100,111,100,101,99,97,104,101,100,114,111,110]⟩,⟨#[104,101,109,105,105,99,111,115,97,104,101,100,114,111,110]⟩,⟨#[104,101,109,105,111,99,116,97,104,101,100,114,111,110]⟩,⟨#[105,99,111,115,97,104,101,100,114,111,110]⟩,⟨#[111,99,116,97,104,101,100,114,111,110]⟩,⟨#[112,101,110,116,97,116,111,112,101]⟩,⟨#[115,101,118,101,110,115]⟩,⟨#[116,101,115,115,101,114,97,99,116]⟩,⟨#[116,101,116,114,97,104,101,100,114,111,110]⟩]
def cd(i:Nat):ByteArray:=ov.getD i ⟨#[]⟩
def IY(i:Nat):ad:= .string (cd i)
def zO(w:aa):Prop:=Rd w (some ⟨0,0,none⟩) 12 IY
theorem zO.aq{w w':aa}(h:zO w)(hb:Below w.heap.size w w'):zO w':=Rd.below h hb
theorem xY{s:ByteArray}:s∈ov↔∃i,i<12/\cd i=s:=by
 constructor
 ·intro h;obtain⟨i,hi,rfl⟩:=gF.1 h;exact⟨i,hi,by simp [cd,da,fZ hi]⟩
 rintro⟨i,hi,rfl⟩;have:i<ov.length:=hi;simp only [cd,da,fZ this,Option.getD_some];exact dQ _
def xL(s:ByteArray):Bool:=ov.any fun a=>decide (a=s)
theorem Dj{s:ByteArray}:xL s=true↔s∈ov:=by
 unfold xL;rw [List.any_eq_true];constructor
 ·rintro⟨a,ha,h⟩;have:=tB h;subst this;exact ha
 exact fun h=> ⟨s,h,dM O⟩
theorem WS(A:aj)(c:Nat)(s:ByteArray)(w:aa)(hR:Rd w A 12 IY):
 aK prog 108 [.slice A 12 c,.string s] w (fun v w'=>∃k:Int,v=ak k/\(0<=k↔s∈ov)/\w'=w):=by
 refine bA func108 O ntmps108 O (df O) ?_;refine bg O (bc O O (aC O ?_));refine Cd.loop (α:=Nat) (fun k=> [(0,.slice A 12 c),(1,.string s),(7,ak 12),(8,ak k)]) (fun k w'=>k<=12/\(∀j,j<k->¬cd j=s)/\w'=w) (fun k=>12 - k) 0 (amz O) ⟨aZ _,fun j hj=>absurd hj (sX _),O⟩ ?_;rintro k e w1 ⟨hk,gD,rfl⟩;refine bJ O (aM _ O (fun h1=>?_) (fun h1=>?_))
 ·refine aA O (aD hR O (ao.ld (v:= .string (cd k)) hR O (by omega) O O O (kW O O O (aC O ?_))));refine aM _ O (fun h2=>?_) (fun h2=>?_)
  ·refine dX O (fz (eW ?_));refine gZ O ?_;exact⟨(k:Int),O,⟨fun _=>xY.2 ⟨k,by omega,h2.symm⟩,fun _=>by omega⟩,O⟩
  refine aA O (aH O (aT O (tQ ?_)));exact⟨k+1,by show 12 - (k+1)<12 - k;omega,⟨O,O,O,aF (Value.int .i64) (by omega),au⟩,by omega,fun j hj=>by
   rcases Nat.lt_succ_iff_lt_or_eq.1 hj with h | rfl
   ·exact gD j h
   exact fun q=>h2 q.symm,O⟩
 refine bn O (bo (gq O ?_));refine gZ O ⟨-1,O,⟨fun h=>absurd h (by decide),fun h=>?_⟩,O⟩;obtain⟨i,hi,he⟩:=xY.1 h;exact absurd he (gD i (by omega))
theorem WI(A:aj)(c:Nat)(s:ByteArray)(w:aa)(hR:Rd w A 12 IY):
 aK prog 48 [.slice A 12 c,.string s] w (fun v w'=>v= .bool (xL s)/\w'=w):=by
 refine bA func48 O ntmps48 O (df O) (bg O (aQ (WS A c s _ hR) O ?_));rintro _ w1 ⟨k,rfl,hk,rfl⟩;refine bI O (dz O ?_);refine⟨aF Value.bool ?_,O⟩
 by_cases h:0<=k
 ·rw [dM h,Dj.2 (hk.1 h)]
 ·rw [cj h];cases hb:xL s with
  | false=>rfl
  | true=>exact absurd (hk.2 (Dj.1 hb)) h
set_option maxRecDepth 10000 in
theorem ajj(w:aa):aK prog 14 [] w (fun v w'=>∃A,v= .slice A 12 12/\St w w' [⟨A,12,12,9,ov.map Value.string⟩]):=by
 refine bA func14 O ntmps14 O (df O) (bg O ?_);refine W6 ov (St.refl w) O O (by decide) (by decide) O O fun A w1 hS=>bI O (ia O ?_);exact⟨A,O,hS⟩
end
section
structure gP{α:Type}(N:Nat)(el:Nat->α->Prop)(le:α->α->Prop):Prop where
 one:∀ {i j:Nat} {a:α},el i a->el j a->i=j
 rf:∀a:α,le a a
 tr:∀ {i j k:Nat} {a b c:α},el i a->el j b->el k c->le a b->le b c->le a c
 st:∀ {i j:Nat} {a b:α},el i a->el j b->le a b->a=b\/i<j
 tW:∀ {i j:Nat} {a b:α},el i a->el j b->le a b->i+1<j->∃c,el (i+1) c/\le a c/\le c b
 nX:∀ {i:Nat} {a:α},el i a->i<=N
 bot:∃o,el 0 o/\∀(i:Nat) (a:α),el i a->le o a/\(i=0->a=o)
 top:∃t,el N t/\∀(i:Nat) (a:α),el i a->le a t/\(i=N->a=t)
section
variable{i j p q k:Nat}{S T:Nat->Prop}
variable {α:Type} {N:Nat} {el:Nat->α->Prop} {le:α->α->Prop}
def iO(el:Nat->α->Prop)(le:α->α->Prop)(i j:Nat)(z:Nat->α):Prop:=(∀k,i<=k->k<=j->el k (z k))/\∀k,i<=k->k<j->le (z k) (z (k+1))
theorem iO.xV(g:gP N el le){z:Nat->α}(h:iO el le i j z)(h1:i<=p)(h2:p<=q)(h3:q<=j):le (z p) (z q):=by
 induction q with
 | zero=>
  obtain rfl:p=0:=by omega
  exact g.rf _
 | succ q ih=>
  by_cases e:p=q+1
  ·subst e;exact g.rf _
  ·exact g.tr (h.1 p h1 (by omega)) (h.1 q (by omega) (by omega)) (h.1 (q+1) (by omega) h3) (ih (by omega) (by omega)) (h.2 q (by omega) (by omega))
theorem iO.sub{z:Nat->α}(h:iO el le i j z)(h1:i<=p)(h2:q<=j):iO el le p q z:=⟨fun k a b=>h.1 k (by omega) (by omega),fun k a b=>h.2 k (by omega) (by omega)⟩
def pV(k:Nat)(z w:Nat->α)(p:Nat):α:=if p<=k then z p else w p
theorem qJ{z w:Nat->α}(h:p<=k):pV k z w p=z p:=aB h
theorem xe{z w:Nat->α}(h:k<p):pV k z w p=w p:=az (by omega)
theorem KO{z w:Nat->α}(e:z k=w k)(h:k<=p):pV k z w p=w p:=by
 by_cases h':p=k
 ·subst h';rw [qJ (bs _),e]
 exact xe (by omega)
theorem iO.glue{z w:Nat->α}(h1:iO el le i k z)(h2:iO el le k j w)(e:z k=w k):iO el le i j (pV k z w):=by
 refine⟨fun p a b=>?_,fun p a b=>?_⟩
 ·by_cases h:p<=k
  ·rw [qJ h];exact h1.1 p a h
  rw [xe (by omega)];exact h2.1 p (by omega) b
 by_cases h:p<k
 ·rw [qJ (by omega),qJ (by omega)];exact h1.2 p a h
 rw [KO e (by omega),KO e (by omega)];exact h2.2 p (by omega) b
theorem gP.chain(g:gP N el le){a b:α}(ha:el i a)(hb:el j b)(h:le a b)(ig:i<=j):∃z,iO el le i j z/\z i=a/\z j=b:=by
 obtain⟨d,hd⟩:∃d,d=j - i:=⟨_,rfl⟩
 induction d generalizing i a with
 | zero=>
  obtain rfl:i=j:=by omega
  rcases g.st ha hb h with rfl | h
  ·refine⟨fun _=>a,⟨fun k h1 h2=>?_,fun k _ _=>g.rf _⟩,O,O⟩;have:k=i:=by omega
   rw [this];exact ha
  ·omega
 | succ d ih=>
  by_cases e:i+1=j
  ·subst e;refine⟨fun k=>if k=i then a else b,⟨fun k h1 h2=>?_,fun k h1 h2=>?_⟩,aB O,az (by omega)⟩
   ·show el k (if k=i then a else b)
    split
    ·rename_i e;rw [e];exact ha
    ·obtain rfl:k=i+1:=by omega
     exact hb
   ·show le (if k=i then a else b) (if k+1=i then a else b);rw [aB (by omega),az (by omega)];exact h
  ·obtain⟨c,hc,h1,h2⟩:=g.tW ha hb h (by omega);obtain⟨z,hz,e1,e2⟩:=ih hc h2 (by omega) (by omega);refine⟨fun k=>if k=i then a else z k,⟨fun k h3 h4=>?_,fun k h3 h4=>?_⟩,aB O,by show(if j=i then a else z j)=b;rw [az (by omega)];exact e2⟩
   ·show el k (if k=i then a else z k)
    split
    ·rename_i e;rw [e];exact ha
    ·exact hz.1 k (by omega) h4
   ·show le (if k=i then a else z k) (if k+1=i then a else z (k+1));rw [az (show ¬k+1=i by omega)]
    split
    ·rename_i e;subst e;rw [e1];exact h1
    ·exact hz.2 k (by omega) h4
inductive jl(el:Nat->α->Prop)(le:α->α->Prop)(i j:Nat)(S:Nat->Prop)(z:Nat->α):(Nat->α)->Prop where
 | same {y:Nat->α}:(∀k,i<=k->k<=j->z k=y k)->jl el le i j S z y
 | step {y y':Nat->α} (p:Nat):jl el le i j S z y->iO el le i j y->iO el le i j y'->i<p->p<j->¬S p->(∀k,i<=k->k<=j->k≠p->y k=y' k)->jl el le i j S z y'
theorem jl.eqv{z y y':Nat->α}(h:jl el le i j S z y)(e:∀k,i<=k->k<=j->y k=y' k):jl el le i j S z y':=by
 cases h with
 | same h=>exact .same fun k a b=> (h k a b).trans (e k a b)
 | step p h c c' h1 h2 h3 h4=>
  exact .step p h c ⟨fun k a b=>e k a b▸c'.1 k a b,fun k a b=>by rw [<-e k a (by omega),<-e (k+1) (by omega) b];exact c'.2 k a b⟩ h1 h2 h3 fun k a b n=> (h4 k a b n).trans (e k a b)
theorem jl.trans{z y x:Nat->α}(h:jl el le i j S z y)(h':jl el le i j S y x):jl el le i j S z x:=by
 induction h' with
 | same e=>exact h.eqv e
 | step p _ c c' h1 h2 h3 h4 ih=>exact .step p ih c c' h1 h2 h3 h4
theorem jl.mono{z y:Nat->α}(h:jl el le i j S z y)(hT:∀p,i<p->p<j->T p->S p):jl el le i j T z y:=by
 induction h with
 | same e=>exact .same e
 | step p _ c c' h1 h2 h3 h4 ih=>exact .step p ih c c' h1 h2 (fun ht=>h3 (hT p h1 h2 ht)) h4
theorem jl.keep{z y:Nat->α}(h:jl el le i j S z y)(h1:i<=k)(h2:k<=j)(hk:k<=i\/j<=k\/S k):z k=y k:=by
 induction h with
 | same e=>exact e k h1 h2
 | step p _ c c' h3 h4 h5 h6 ih=>exact ih.trans (h6 k h1 h2 (fun e=>by subst e;rcases hk with h | h | h<;>first | omega | exact h5 h))
theorem jl.lo{z y w:Nat->α}(h:jl el le i k S z y)(hz:iO el le i k z)(hw:iO el le k j w)(e:z k=w k)(mQ:i<=k)(C9:k<=j):jl el le i j S (pV k z w) (pV k y w):=by
 induction h with
 | same e=>
  exact .same fun p a b=>by
   unfold pV;split
   ·exact e p a (by assumption)
   ·rfl
 | @step y y' p hl c c' h1 h2 h3 h4 ih=>
  have e1:y k=w k:=(hl.keep mQ (bs _) (.inr (.inl (bs _)))).symm.trans e;have e2:y' k=w k:=(h4 k mQ (bs _) (by omega)).symm.trans e1;refine .step p ih (c.glue hw e1) (c'.glue hw e2) h1 (by omega) h3 fun q a b n=>?_
  unfold pV;split
  ·exact h4 q a (by assumption) n
  ·rfl
theorem jl.hi{z w w':Nat->α}(h:jl el le k j S w w')(hz:iO el le i k z)(hw:iO el le k j w)(e:z k=w k)(mQ:i<=k)(C9:k<=j):jl el le i j S (pV k z w) (pV k z w'):=by
 induction h with
 | same e=>
  exact .same fun p a b=>by
   unfold pV;split
   ·rfl
   ·exact e p (by omega) b
 | @step y y' p hl c c' h1 h2 h3 h4 ih=>
  have e1:z k=y k:=e.trans (hl.keep (bs _) C9 (.inl (bs _)));have e2:z k=y' k:=e1.trans (h4 k (bs _) C9 (by omega));refine .step p ih (hz.glue c e1) (hz.glue c' e2) (by omega) h2 h3 fun q a b n=>?_
  unfold pV;split
  ·rfl
  ·exact h4 q (by omega) b n
inductive ik(el:Nat->α->Prop)(le:α->α->Prop)(i j:Nat)(a b:α)(p:Nat)(c:α):Nat->α->Prop where
 | refl:ik el le i j a b p c p c
 | step {q r:Nat} {d e:α}:ik el le i j a b p c q d->i<r->r<j->el r e->le a e->le e b->(le d e\/le e d)->ik el le i j a b p c r e
def tP(el:Nat->α->Prop)(le:α->α->Prop)(i j:Nat)(a b:α)(p:Nat)(c:α):Prop:=i<p/\p<j/\el p c/\le a c/\le c b
def mL(el:Nat->α->Prop)(le:α->α->Prop):Prop:=∀(i j:Nat) (a b:α),el i a->el j b->le a b->i+3<=j->∀(p q:Nat) (c d:α),tP el le i j a b p c->tP el le i j a b q d->ik el le i j a b p c q d
theorem YF(g:gP N el le)(hc:mL el le):∀(m i j:Nat),j - i<=m->i<=j->∀z y:Nat->α,iO el le i j z->iO el le i j y->z i=y i->z j=y j->jl el le i j (fun k=>z k=y k) z y:=by
 intro m
 induction m with
 | zero=>
  intro i j hm ig z y _ _ e1 _;exact .same fun k a b=>by
   obtain rfl:k=i:=by omega
   exact e1
 | succ m ih=>
  intro i j hm ig z y hz hy e1 e2;have split:∀z y:Nat->α,iO el le i j z->iO el le i j y->z i=y i->z j=y j->∀k,i<k->k<j->z k=y k->jl el le i j (fun k=>z k=y k) z y:=by
   intro z y hz hy e1 e2 k h1 h2 ek;have l1:=ih i k (by omega) (by omega) z y (hz.sub (bs _) (by omega)) (hy.sub (bs _) (by omega)) e1 ek;have l2:=ih k j (by omega) (by omega) z y (hz.sub (by omega) (bs _)) (hy.sub (by omega) (bs _)) ek e2;have a1:=l1.lo (w:=z) (hz.sub (bs _) (by omega)) (hz.sub (by omega) (bs _)) O (by omega) (by omega);have a2:=l2.hi (z:=y) (hy.sub (bs _) (by omega)) (hz.sub (by omega) (bs _)) ek.symm (by omega) (by omega);refine(jl.trans (.same fun p _ _=>?_) (a1.trans a2)).eqv fun p _ _=>?_
   ·unfold pV;split<;>rfl
   ·unfold pV;split<;>rfl
  by_cases hk:∃k,i<k/\k<j/\z k=y k
  ·obtain⟨k,h1,h2,h3⟩:=hk;exact split z y hz hy e1 e2 k h1 h2 h3
  have bU:∀p,i<p->p<j->¬z p=y p:=fun p h1 h2 h=>hk ⟨p,h1,h2,h⟩
  by_cases hs:j<=i+1
  ·exact .same fun k a b=>by
    rcases(show k=i\/k=j by omega)with rfl | rfl
    ·exact e1
    ·exact e2
  by_cases mT:j=i+2
  ·subst mT;refine .step (i+1) (.same fun _ _ _=>O) hz hy (by omega) (by omega) (bU _ (by omega) (by omega)) fun k a b n=>?_
   rcases(show k=i\/k=i+2 by omega)with rfl | rfl
   ·exact e1
   ·exact e2
  have hb:=fun(w:Nat->α) (hw:iO el le i j w) (f1:z i=w i) (f2:z j=w j)=> (⟨by omega,by omega,hw.1 _ (by omega) (by omega),f1▸hw.xV g (bs _) (by omega) (by omega),f2▸hw.xV g (by omega) (by omega) (bs _)⟩:tP el le i j (z i) (z j) (i+1) (w (i+1)))
  have yO:=hc i j (z i) (z j) (hz.1 i (bs _) ig) (hz.1 j ig (bs _)) (hz.xV g (bs _) ig (bs _)) (by omega) _ _ _ _ (hb z hz O O) (hb y hy e1 e2);have key:∀(q:Nat) (d:α),ik el le i j (z i) (z j) (i+1) (z (i+1)) q d->tP el le i j (z i) (z j) q d/\∀x,iO el le i j x->z i=x i->z j=x j->x q=d->jl el le i j (fun _=>False) z x:=by
   intro q d h
   induction h with
   | refl=>exact⟨hb z hz rfl rfl,fun x hx f1 f2 f3=> (split z x hz hx f1 f2 (i+1) (by omega) (by omega) f3.symm).mono fun _ _ _ h=>h.elim⟩
   | @step q r d e _ h1 h2 h3 h4 h5 h6 ihc=>
    obtain⟨⟨q1,q2,q3,q4,q5⟩,MU⟩:=ihc;refine⟨⟨h1,h2,h3,h4,h5⟩,fun x hx f1 f2 f3=>?_⟩;have hzi:=hz.1 i (bs _) ig;have hzj:=hz.1 j ig (bs _);have fin:∀w,iO el le i j w->z i=w i->z j=w j->w q=d->w r=e->jl el le i j (fun _=>False) z x:=fun w hw g1 g2 g3 g4=>
     (MU w hw g1 g2 g3).trans ((split w x hw hx (g1.symm.trans f1) (g2.symm.trans f2) r h1 h2 (g4.trans f3.symm)).mono fun _ _ _ h=>h.elim)
    have mk:∀(u v:Nat) (s t:α),i<u->u<v->v<j->el u s->el v t->le (z i) s->le s t->le t (z j)->∃w,iO el le i j w/\z i=w i/\z j=w j/\w u=s/\w v=t:=by
     intro u v s t k1 k2 k3 k4 k5 k6 k7 k8;obtain⟨w1,c1,a1,b1⟩:=g.chain hzi k4 k6 (by omega);obtain⟨w2,c2,a2,b2⟩:=g.chain k4 k5 k7 (by omega);obtain⟨w3,c3,a3,b3⟩:=g.chain k5 hzj k8 (by omega);refine⟨pV v (pV u w1 w2) w3,(c1.glue c2 (b1.trans a2.symm)).glue c3 (by rw [xe k2,b2,a3]),?_,?_,?_,?_⟩
     ·rw [qJ (by omega),qJ (by omega),a1]
     ·rw [xe k3,b3]
     ·rw [qJ (by omega),qJ (bs _),b1]
     ·rw [qJ (bs _),xe k2,b2]
    rcases h6 with h6 | h6
    ·rcases g.st q3 h3 h6 with e' | e'
     ·subst e';obtain rfl:=g.one q3 h3;exact MU x hx f1 f2 f3
     ·obtain⟨w,hw,g1,g2,g3,g4⟩:=mk q r d e q1 e' h2 q3 h3 q4 h6 h5;exact fin w hw g1 g2 g3 g4
    ·rcases g.st h3 q3 h6 with e' | e'
     ·subst e';obtain rfl:=g.one q3 h3;exact MU x hx f1 f2 f3
     ·obtain⟨w,hw,g1,g2,g3,g4⟩:=mk r q e d h1 e' q2 h3 q3 h4 h6 q5;exact fin w hw g1 g2 g4 g3
  exact((key _ _ yO).2 y hy e1 e2 O).mono fun p h1 h2 h=>bU p h1 h2 h
end
section
variable{p q:Nat}
variable {α:Type} {el:Nat->α->Prop} {le:α->α->Prop} {i j:Nat} {a b:α}
theorem ik.end_{c d:α}(h:ik el le i j a b p c q d)(hp:tP el le i j a b p c):tP el le i j a b q d:=by
 cases h with
 | refl=>exact hp
 | step _ h1 h2 h3 h4 h5 _=>exact⟨h1,h2,h3,h4,h5⟩
theorem ik.trans{r:Nat}{c d e:α}(h:ik el le i j a b p c q d)(h':ik el le i j a b q d r e):ik el le i j a b p c r e:=by
 induction h' with
 | refl=>exact h
 | step _ h1 h2 h3 h4 h5 h6 ih=>exact .step ih h1 h2 h3 h4 h5 h6
theorem ik.one{c d:α}(hq:tP el le i j a b q d)(h:le c d\/le d c):ik el le i j a b p c q d:= .step .refl hq.1 hq.2.1 hq.2.2.1 hq.2.2.2.1 hq.2.2.2.2 h
theorem ik.symm{c d:α}(hp:tP el le i j a b p c)(h:ik el le i j a b p c q d):ik el le i j a b q d p c:=by
 induction h with
 | refl=>exact .refl
 | step h0 h1 h2 h3 h4 h5 h6 ih=>exact(ik.one (h0.end_ hp) h6.symm).trans ih
end
section
variable {α β:Type} {N1 N2:Nat} {dI:Nat->α->Prop} {eH:α->α->Prop} {dJ:Nat->β->Prop} {eI:β->β->Prop}
def nE(eH:α->α->Prop)(eI:β->β->Prop)(c d:α×β):Prop:=eH c.1 d.1/\eI c.2 d.2
structure BM(dI:Nat->α->Prop)(eH:α->α->Prop)(dJ:Nat->β->Prop)(eI:β->β->Prop)(a1 b1:α)(a2 b2:β)(i j:Nat)(c1:α)(c2:β):Prop where
 e1:dI i c1
 e2:dJ j c2
 l1:eH a1 c1
 m1:eH c1 b1
 l2:eI a2 c2
 m2:eI c2 b2
theorem PQ(g1:gP N1 dI eH)(g2:gP N2 dJ eI)(yN:mL dI eH)(oN:mL dJ eI){el:Nat->α×β->Prop}{s i0 j0 i1 j1:Nat}{a1 b1:α}{a2 b2:β}
 (gW:dI i0 a1) (ie:dJ j0 a2) (dF:dI i1 b1) (eM:dJ j1 b2) (h1:eH a1 b1) (h2:eI a2 b2) (hs:s<=i0+j0) (h3:i0+j0+3<=i1+j1)
 (jf:∀i j c1 c2,dI i c1->dJ j c2->eH a1 c1->eI a2 c2->el (i+j - s) (c1,c2))
 {i j k l:Nat} {c1 d1:α} {c2 d2:β} (hc:BM dI eH dJ eI a1 b1 a2 b2 i j c1 c2) (hd:BM dI eH dJ eI a1 b1 a2 b2 k l d1 d2)
 (HO:i0+j0<i+j/\i+j<i1+j1) (C3:i0+j0<k+l/\k+l<i1+j1):
 ik el (nE eH eI) (i0+j0 - s) (i1+j1 - s) (a1,a2) (b1,b2) (i+j - s) (c1,c2) (k+l - s) (d1,d2):=by
 have mV:∀ {i j:Nat} {c1:α} {c2:β},BM dI eH dJ eI a1 b1 a2 b2 i j c1 c2->i0+j0<i+j->i+j<i1+j1->tP el (nE eH eI) (i0+j0 - s) (i1+j1 - s) (a1,a2) (b1,b2) (i+j - s) (c1,c2):=fun h p q=> ⟨by omega,by omega,jf _ _ _ _ h.e1 h.e2 h.l1 h.l2,⟨h.l1,h.l2⟩,⟨h.m1,h.m2⟩⟩
 have Nk:∀ {i:Nat} {c:α},dI i c->eH a1 c->eH c b1->(i0<=i/\i<=i1)/\(i=i1->c=b1)/\(i=i0->c=a1):=fun {i c} he h h'=>by
  rcases g1.st gW he h with e | e<;>rcases g1.st he dF h' with e' | e'
  ·subst e;subst e';have:=g1.one he gW;have:=g1.one he dF;exact⟨by omega,fun _=>rfl,fun _=>rfl⟩
  ·subst e;have:=g1.one he gW;exact⟨by omega,by omega,fun _=>rfl⟩
  ·subst e';have:=g1.one he dF;exact⟨by omega,fun _=>rfl,by omega⟩
  ·exact⟨by omega,by omega,by omega⟩
 have Nl:∀ {i:Nat} {c:β},dJ i c->eI a2 c->eI c b2->(j0<=i/\i<=j1)/\(i=j1->c=b2)/\(i=j0->c=a2):=fun {i c} he h h'=>by
  rcases g2.st ie he h with e | e<;>rcases g2.st he eM h' with e' | e'
  ·subst e;subst e';have:=g2.one he ie;have:=g2.one he eM;exact⟨by omega,fun _=>rfl,fun _=>rfl⟩
  ·subst e;have:=g2.one he ie;exact⟨by omega,by omega,fun _=>rfl⟩
  ·subst e';have:=g2.one he eM;exact⟨by omega,fun _=>rfl,by omega⟩
  ·exact⟨by omega,by omega,by omega⟩
 have h01:=(Nk dF h1 (g1.rf _)).1;have h02:=(Nl eM h2 (g2.rf _)).1
 by_cases q1:i0=i1
 ·-- the first part stands still
  have e1:∀ {i:Nat} {c:α},dI i c->eH a1 c->eH c b1->c=a1/\i=i0:=fun he h h'=>by
   have:=Nk he h h';exact⟨this.2.2 (by omega),by omega⟩
  obtain⟨rfl,rfl⟩:=e1 hc.e1 hc.l1 hc.m1;obtain⟨rfl,rfl⟩:=e1 hd.e1 hd.l1 hd.m1;have key:=oN j0 j1 a2 b2 ie eM h2 (by omega) j l c2 d2 ⟨by omega,by omega,hc.e2,hc.l2,hc.m2⟩ ⟨by omega,by omega,hd.e2,hd.l2,hd.m2⟩;clear hd C3
  induction key with
  | refl=>exact .refl
  | step _ k1 k2 k3 k4 k5 k6 ih=>
   refine ih.trans (.one (mV ⟨hc.e1,k3,hc.l1,hc.m1,k4,k5⟩ (by omega) (by omega)) ?_);exact k6.imp (fun h=> ⟨g1.rf _,h⟩) (fun h=> ⟨g1.rf _,h⟩)
 by_cases q2:j0=j1
 ·have e2:∀ {i:Nat} {c:β},dJ i c->eI a2 c->eI c b2->c=a2/\i=j0:=fun he h h'=>by
   have:=Nl he h h';exact⟨this.2.2 (by omega),by omega⟩
  obtain⟨rfl,rfl⟩:=e2 hc.e2 hc.l2 hc.m2;obtain⟨rfl,rfl⟩:=e2 hd.e2 hd.l2 hd.m2;have key:=yN i0 i1 a1 b1 gW dF h1 (by omega) i k c1 d1 ⟨by omega,by omega,hc.e1,hc.l1,hc.m1⟩ ⟨by omega,by omega,hd.e1,hd.l1,hd.m1⟩;clear hd C3
  induction key with
  | refl=>exact .refl
  | step _ k1 k2 k3 k4 k5 k6 ih=>
   refine ih.trans (.one (mV ⟨k3,hc.e2,k4,k5,hc.l2,hc.m2⟩ (by omega) (by omega)) ?_);exact k6.imp (fun h=> ⟨h,g2.rf _⟩) (fun h=> ⟨h,g2.rf _⟩)
 have bu:BM dI eH dJ eI a1 b1 a2 b2 i0 j1 a1 b2:=⟨gW,eM,g1.rf _,h1,h2,g2.rf _⟩;have bv:BM dI eH dJ eI a1 b1 a2 b2 i1 j0 b1 a2:=⟨dF,ie,h1,g1.rf _,g2.rf _,h2⟩;have iu:=mV bu (by omega) (by omega);have iv:=mV bv (by omega) (by omega);have uv:ik el (nE eH eI) (i0+j0 - s) (i1+j1 - s) (a1,a2) (b1,b2) (i0+j1 - s) (a1,b2) (i1+j0 - s) (b1,a2):=by
  by_cases q3:i0+1<i1
  ·obtain⟨x,hx,x1,x2⟩:=g1.tW gW dF h1 q3;refine(ik.one (c:=(a1,b2)) (mV (i:=i0+1) (j:=j1) (c1:=x) (c2:=b2) ⟨hx,eM,x1,x2,h2,g2.rf _⟩ (by omega) (by omega)) (.inl ⟨x1,g2.rf _⟩)).trans ((ik.one (c:=(x,b2)) (mV (i:=i0+1) (j:=j0) (c1:=x) (c2:=a2) ⟨hx,ie,x1,x2,g2.rf _,h2⟩ (by omega) (by omega)) (.inr ⟨g1.rf _,h2⟩)).trans ?_);exact .one iv (.inl ⟨x2,g2.rf _⟩)
  ·obtain⟨x,hx,x1,x2⟩:=g2.tW ie eM h2 (by omega);refine(ik.one (c:=(a1,b2)) (mV (i:=i0) (j:=j0+1) (c1:=a1) (c2:=x) ⟨gW,hx,g1.rf _,h1,x1,x2⟩ (by omega) (by omega)) (.inr ⟨g1.rf _,x2⟩)).trans ((ik.one (c:=(a1,x)) (mV (i:=i1) (j:=j0+1) (c1:=b1) (c2:=x) ⟨dF,hx,h1,g1.rf _,x1,x2⟩ (by omega) (by omega)) (.inl ⟨h1,g2.rf _⟩)).trans ?_);exact .one iv (.inr ⟨g1.rf _,x1⟩)
 have Wi:∀ {i j:Nat} {c1:α} {c2:β},BM dI eH dJ eI a1 b1 a2 b2 i j c1 c2->i0+j0<i+j->i+j<i1+j1->ik el (nE eH eI) (i0+j0 - s) (i1+j1 - s) (a1,a2) (b1,b2) (i+j - s) (c1,c2) (i0+j1 - s) (a1,b2):=fun {i j c1 c2} h p q=>by
  have f1:=Nk h.e1 h.l1 h.m1;have f2:=Nl h.e2 h.l2 h.m2
  by_cases q4:i<i1
  ·exact(ik.one (c:=(c1,c2)) (mV (i:=i) (j:=j1) (c1:=c1) (c2:=b2) ⟨h.e1,eM,h.l1,h.m1,h2,g2.rf _⟩ (by omega) (by omega)) (.inl ⟨g1.rf _,h.m2⟩)).trans (ik.one (c:=(c1,b2)) iu (.inr ⟨h.l1,g2.rf _⟩))
  ·have:c1=b1:=f1.2.1 (by omega);subst this;exact(ik.one (c:=(c1,c2)) iv (.inr ⟨g1.rf _,h.l2⟩)).trans (uv.symm iu)
 exact(Wi hc HO.1 HO.2).trans ((Wi hd C3.1 C3.2).symm (mV hd C3.1 C3.2))
def G1(dI:Nat->α->Prop)(dJ:Nat->β->Prop)(p:Nat)(c:α×β):Prop:=∃i j,dI i c.1/\dJ j c.2/\p=i+j
theorem T0(g1:gP N1 dI eH)(g2:gP N2 dJ eI):gP (N1+N2) (G1 dI dJ) (nE eH eI) where
 one:=fun⟨i,j,a,b,e⟩ ⟨i',j',a',b',e'⟩=>by have:=g1.one a a';have:=g2.one b b';omega
 rf:=fun c=> ⟨g1.rf _,g2.rf _⟩
 tr:=fun⟨_,_,a,b,_⟩ ⟨_,_,a',b',_⟩ ⟨_,_,JN,JX,_⟩ h h'=> ⟨g1.tr a a' JN h.1 h'.1,g2.tr b b' JX h.2 h'.2⟩
 st:=fun {_ _ c d} ⟨i,j,a,b,e⟩ ⟨i',j',a',b',e'⟩ h=>by
  rcases g1.st a a' h.1 with h1 | h1<;>rcases g2.st b b' h.2 with h2 | h2
  ·exact .inl (Prod.ext h1 h2)
  ·rw [<-h1]at a';have:=g1.one a a';exact .inr (by omega)
  ·rw [<-h2]at b';have:=g2.one b b';exact .inr (by omega)
  exact .inr (by omega)
 tW:=fun {p q c d} ⟨i,j,a,b,e⟩ ⟨i',j',a',b',e'⟩ h uo=>by
  have k1:i<=i'/\(i=i'->c.1=d.1):=by
   rcases g1.st a a' h.1 with h1 | h1
   ·rw [<-h1]at a';have:=g1.one a a';exact⟨by omega,fun _=>h1⟩
   exact⟨by omega,by omega⟩
  have k2:j<=j'/\(j=j'->c.2=d.2):=by
   rcases g2.st b b' h.2 with h1 | h1
   ·rw [<-h1]at b';have:=g2.one b b';exact⟨by omega,fun _=>h1⟩
   exact⟨by omega,by omega⟩
  by_cases q1:i+1<i'
  ·obtain⟨x,hx,x1,x2⟩:=g1.tW a a' h.1 q1;exact⟨(x,c.2),⟨i+1,j,hx,b,by omega⟩,⟨x1,g2.rf _⟩,⟨x2,h.2⟩⟩
  by_cases q2:i+1=i'
  ·exact⟨(d.1,c.2),⟨i',j,a',b,by omega⟩,⟨h.1,g2.rf _⟩,⟨g1.rf _,h.2⟩⟩
  obtain⟨x,hx,x1,x2⟩:=g2.tW b b' h.2 (by omega);exact⟨(c.1,x),⟨i,j+1,a,hx,by omega⟩,⟨g1.rf _,x1⟩,⟨h.1,x2⟩⟩
 nX:=fun⟨i,j,a,b,e⟩=>by have:=g1.nX a;have:=g2.nX b;omega
 bot:=by
  obtain⟨o1,h1,k1⟩:=g1.bot;obtain⟨o2,h2,k2⟩:=g2.bot;exact⟨(o1,o2),⟨0,0,h1,h2,O⟩,fun p c ⟨i,j,a,b,e⟩=> ⟨⟨(k1 i _ a).1,(k2 j _ b).1⟩,fun hp=>Prod.ext ((k1 i _ a).2 (by omega)) ((k2 j _ b).2 (by omega))⟩⟩
 top:=by
  obtain⟨o1,h1,k1⟩:=g1.top;obtain⟨o2,h2,k2⟩:=g2.top;refine⟨(o1,o2),⟨N1,N2,h1,h2,O⟩,fun p c ⟨i,j,a,b,e⟩=> ⟨⟨(k1 i _ a).1,(k2 j _ b).1⟩,fun hp=>?_⟩⟩;have:=g1.nX a;have:=g2.nX b;exact Prod.ext ((k1 i _ a).2 (by omega)) ((k2 j _ b).2 (by omega))
theorem ae1(g1:gP N1 dI eH)(g2:gP N2 dJ eI)(yN:mL dI eH)(oN:mL dJ eI):mL (G1 dI dJ) (nE eH eI):=by
 rintro p q ⟨a1,a2⟩ ⟨b1,b2⟩ ⟨i0,j0,gW,ie,rfl⟩ ⟨i1,j1,dF,eM,rfl⟩ h uo r t ⟨c1,c2⟩ ⟨d1,d2⟩ ⟨c3,c4,⟨i,j,hc,po,rfl⟩,c5,c6⟩ ⟨d3,d4,⟨k,l,hd,oi,rfl⟩,d5,d6⟩;exact PQ (s:=0) g1 g2 yN oN gW ie dF eM h.1 h.2 (aZ _) uo (fun i j x y hx hy _ _=> ⟨i,j,hx,hy,O⟩) ⟨hc,po,c5.1,c6.1,c5.2,c6.2⟩ ⟨hd,oi,d5.1,d6.1,d5.2,d6.2⟩ ⟨c3,c4⟩ ⟨d3,d4⟩
end
end
end Go.Proofs.YtkccgdhcpplblaaGreatDoor.Vc
