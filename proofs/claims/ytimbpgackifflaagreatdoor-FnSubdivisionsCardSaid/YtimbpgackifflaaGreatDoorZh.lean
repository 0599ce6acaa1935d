/-
 Lemmas. Conditions: as each states them.
-/
import Derived.Test.YtimbpgackifflaaGreatDoorZg
import Derived.Test.YtimbpgackifflaaGreatDoorLayf
import Derived.Shelf.SlSortCmp.NoneTotal
import Derived.Test.YtimbpgackifflaaGreatDoorZf
set_option maxHeartbeats 8000000
namespace Go.Proofs.YtimbpgackifflaaGreatDoor.Vc
open Tryz
section
open Go.RowKit
variable{b:ah}
theorem Zu{a:ah}{k:Nat}(ha:k<a.length)(hb:k<b.length):iB (a.drop k) (b.drop k)=if nG (gi a k) (gi b k)=0 then iB (a.drop (k+1)) (b.drop (k+1))else nG (gi a k) (gi b k):=by
 rw[List.drop_eq_getElem_cons ha,List.drop_eq_getElem_cons hb,b7 ha,b7 hb]
 rfl
theorem Zt{a:ah}{k:Nat}(ha:k<a.length)(hb:b.length<=k):iB (a.drop k) (b.drop k)=1:=by
 rw[List.drop_eq_getElem_cons ha,List.drop_of_length_le hb]
 rfl
theorem Zs{a:ah}{k:Nat}(ha:a.length<=k):iB (a.drop k) (b.drop k)=if k<b.length then-1 else 0:=by
 rw[List.drop_of_length_le ha]
 split
 ·rename_i h;rw[List.drop_eq_getElem_cons h]
  rfl
 rename_i h;rw[List.drop_of_length_le (by omega)]
 rfl
theorem YZ(x:Int)(w:aa):aF prog 182 [aj x] w (λv w'=>v=.bool false/\w'=w):=by
 refine bn func182 O ntmps182 O (bM O) (Mr O (cK O ?_));exact⟨by simp,O⟩
theorem aeW(x y:Int)(w:aa):aF prog 148 [aj x,aj y] w (λv w'=>v=aj (nG x y)/\w'=w):=by
 refine bn func148 O ntmps148 O (bM O) (aY O (aI (YZ _ _) O ?_));rintro _ w ⟨rfl,rfl⟩;refine aq O (aI (YZ _ _) O ?_);rintro _ w ⟨rfl,rfl⟩;refine ay O (Cd.cX O (cM O (Cd.cX O (cM O ?_))));refine aK _ O (λh1=>?_) (λh1=>?_)
 ·refine dE O (gj O ?_);exact⟨by rw[nG,aG h1],O⟩
 refine cM O (aK _ O (λh2=>?_) (λh2=>?_))
 ·refine dE O (gj O ?_);exact⟨by rw[nG,aD h1,aG h2],O⟩
 refine dE O (gj O ?_);exact⟨by rw[nG,aD h1,aD h2],O⟩
theorem SU(A:ai)(n c:Nat)(xs:ah)(A':ai)(n' c':Nat)(ys:ah)(w:aa)(hX:bu w A n xs)(hY:bu w A' n' ys)(hn:n<=9223372036854775807):
 aF prog 102 [.slice A n c,.slice A' n' c'] w (λv w'=>v=aj (iB xs ys)/\w'=w):=by
 have cT:=hX.1;have nO:=hY.1;refine bn func102 O ntmps102 O (bM O) ?_;refine aY O (aR O O (ay O ?_));refine Cd.loop (α:=Nat) (λk=>[(0,.slice A n c),(1,.slice A' n' c'),(9,.slice A n c),(10,aj n),(11,aj k)]) (λk w'=>w'=w/\k<=n/\k<=n'/\iB xs ys=iB (xs.drop k) (ys.drop k)) (λk=>n-k) 0 (auV O) ⟨O,bl _,bl _,O⟩ ?_;rintro k e w ⟨rfl,hk,fU,hK⟩;refine bC O (aK _ O (λh1=>?_) (λh1=>?_))
 ·refine aC O (aA hX.2 O (bg hX O ?_));refine aq O (aR O O (ay O ?_));refine aK _ O (λh2=>?_) (λh2=>?_)
  ·refine dE O (fz (fe ?_));refine gj O ?_;exact⟨by rw[hK,Zt (by omega) (by omega)],O⟩
  rw[Zu (by omega) (by omega)]at hK;refine aC O (aA hY.2 O (bg hY O (aq O (aI (aeW _ _ _) O ?_))));rintro _ w ⟨rfl,rfl⟩;refine ay O (aK _ O (λh3=>?_) (λh3=>?_))
  ·refine dE O (fz (fe ?_));refine gj O ?_;exact⟨by rw[hK,aD h3],O⟩
  rw[aG (kW.1 h3)]at hK;refine aC O (aJ O (aN O (tQ ?_)));exact⟨k+1,by show n-(k+1)<n-k;omega,(auV O),O,ac,ac,hK⟩
 rw[Zs (by omega)]at hK;have rI:k=n:=by omega
 subst rI;refine ba O (bc (bY O (aR O O (aq O (aR O O (ay O ?_))))));refine aK _ O (λh2=>?_) (λh2=>?_)
 ·refine dE O (gj O ?_);exact⟨by rw[hK,aG (by omega)],O⟩
 refine dE O (gj O ?_);exact⟨by rw[hK,aD (by omega)],O⟩
theorem Fx(A:ai)(n c:Nat)(xs:ah)(A':ai)(n' c':Nat)(ys:ah)(w:aa)(hR:bu w A n xs)(z8:bu w A' n' ys)(hn:n<=9223372036854775807):
 aF prog 155 [.slice A n c,.slice A' n' c'] w (λv w'=>v=.bool (decide (xs=ys))/\St w w' []):=by
 have hl:=hR.1;have yx:=z8.1;subst hl;subst yx;refine bn func155 O ntmps155 O (bM O) ?_;refine aY O (aR O O (aq O (aR O O (ay O ?_))));refine aK _ O (λh=>?_) (λh=>?_)
 ·refine dE O (cK O ?_);exact⟨by rw[db (λe:xs=ys=>h (by rw[e]))],St.refl _⟩
 refine aC O (aR O O (ay O ?_));refine Cd.loop (α:=Nat) (λk=>[(0,.slice A xs.length c),(1,.slice A' ys.length c'),(12,aj (xs.length:Int)),(13,aj k)]) (λk w'=>St w w' []/\k<=xs.length/\xs.take k=ys.take k) (λk=>xs.length-k) 0 (auV O) ⟨St.refl w,bl _,O⟩ ?_;rintro k e w2 ⟨az,hk,hI⟩;have hle:xs.length=ys.length:=by omega
 refine bC O (aK _ O (λh1=>?_) (λh1=>?_))
 ·have hA:=az.dq hR;have hB:=az.dq z8;have h2:(k:Int)<ys.length:=by omega
  have hx:=b7 (p:=xs) (k:=k) ac;have hy:=b7 (p:=ys) (k:=k) ac;refine cM O (ec [xS (A) (xs.length) (c),xI ((k:Int)),xP (aH (A) ((k:Int)).toNat),xI (gi (xs) ((k:Int))),xS (A') (ys.length) (c'),xI ((k:Int)),xP (aH (A') ((k:Int)).toNat),xI (gi (ys) ((k:Int))),xB (decide (¬(gi (xs) ((k:Int)))=(gi (ys) ((k:Int)))))] O (eK O) ?_ ?_)
  ·exact⟨Dr O,Dr O,λ_ _ hb _ _=>aA (hA.ao hb).2 O Az,λ_ _ hb _ _=>bg (hA.ao hb) O Az,Dr O,Dr O,λ_ _ hb _ _=>aA (hB.ao hb).2 O Az,λ_ _ hb _ _=>bg (hB.ao hb) O Az,Dr O,au⟩
  intro u w3 ji _;have aM:=az.ao ji;refine fG O (aK _ O (λh3=>?_) (λh3=>?_))
  ·refine dE O (fz (fe ?_));refine cK O ?_;refine⟨by rw[db (λe:xs=ys=>h3 (by rw[e]))],aM⟩
  refine aC O (aJ O (aN O (tQ ?_)));refine⟨k+1,ac,(auV O),aM,ac,?_⟩;rw[lG (by omega),lG (by omega),hI,kW.1 h3]
 refine ba O (bc (ew O ?_));refine cK O ⟨?_,az⟩;rw[jw (by omega),jw (by omega)]at hI;rw[dB hI]
theorem amC(A:ai)(n c:Nat)(xs:ah)(A':ai)(n' c':Nat)(ys:ah)(w:aa)(hR:bu w A n xs)(z8:bu w A' n' ys)(hn:n<=9223372036854775807):
 aF prog 135 [.slice A n c,.slice A' n' c'] w (λv w'=>v=.bool (decide (xs=ys))/\St w w' []):=by
 have hl:=hR.1;have yx:=z8.1;subst hl;subst yx;refine bn func135 O ntmps135 O (bM O) ?_;refine aY O (aR O O (aq O (aR O O (ay O ?_))));refine aK _ O (λh=>?_) (λh=>?_)
 ·refine dE O (cK O ?_);exact⟨by rw[db (λe:xs=ys=>h (by rw[e]))],St.refl _⟩
 refine cM O (Cd.loop (α:=Nat) (λk=>[(0,.slice A xs.length c),(1,.slice A' ys.length c'),(5,aj k)]) (λk w'=>St w w' []/\k<=xs.length/\xs.take k=ys.take k) (λk=>xs.length-k) 0 (auV O) ⟨St.refl w,bl _,O⟩ ?_);rintro k e w2 ⟨az,hk,hI⟩;have hle:xs.length=ys.length:=by omega
 refine aY O (aR O O (ay O ?_));refine aK _ O (λh1=>?_) (λh1=>?_)
 ·have hA:=az.dq hR;have hB:=az.dq z8;have h2:(k:Int)<ys.length:=by omega
  have hx:=b7 (p:=xs) (k:=k) ac;have hy:=b7 (p:=ys) (k:=k) ac;refine cM O (ec [xS (A) (xs.length) (c),xI ((k:Int)),xP (aH (A) ((k:Int)).toNat),xI (gi (xs) ((k:Int))),xS (A') (ys.length) (c'),xI ((k:Int)),xP (aH (A') ((k:Int)).toNat),xI (gi (ys) ((k:Int))),xB (decide (¬(gi (xs) ((k:Int)))=(gi (ys) ((k:Int)))))] O (eK O) ?_ ?_)
  ·exact⟨Dr O,Dr O,λ_ _ hb _ _=>aA (hA.ao hb).2 O Az,λ_ _ hb _ _=>bg (hA.ao hb) O Az,Dr O,Dr O,λ_ _ hb _ _=>aA (hB.ao hb).2 O Az,λ_ _ hb _ _=>bg (hB.ao hb) O Az,Dr O,au⟩
  intro u w3 ji _;have aM:=az.ao ji;refine fG O (aK _ O (λh3=>?_) (λh3=>?_))
  ·refine dE O (fz (fe ?_));refine cK O ?_;refine⟨by rw[db (λe:xs=ys=>h3 (by rw[e]))],aM⟩
  refine aC O (aJ O (aN O (tQ ?_)));refine⟨k+1,ac,(auV O),aM,ac,?_⟩;rw[lG (by omega),lG (by omega),hI,kW.1 h3]
 refine ba O (bc (ew O ?_));refine cK O ⟨?_,az⟩;rw[jw (by omega),jw (by omega)]at hI;rw[dB hI]
theorem amy(A:ai)(n c:Nat)(xs:ah)(A':ai)(n' c':Nat)(ys:ah)(w:aa)(hX:bu w A n xs)(hY:bu w A' n' ys)(hn:n<=9223372036854775807):
 aF prog 134 [.slice A n c,.slice A' n' c'] w (λv w'=>v=.bool (decide (iB xs ys<0))/\St w w' []):=by
 have cT:=hX.1;have nO:=hY.1;refine bn func134 O ntmps134 O (bM O) (bC O ?_);refine Cd.loop (α:=Nat) (λk=>[(0,.slice A n c),(1,.slice A' n' c'),(5,aj k)]) (λk w'=>St w w' []/\k<=n/\k<=n'/\iB xs ys=iB (xs.drop k) (ys.drop k)) (λk=>n-k) 0 (auV O) ⟨St.refl w,bl _,bl _,O⟩ ?_;rintro k e w2 ⟨az,hk,fU,hK⟩;have WC:=az.dq hX;have Ay:=az.dq hY;refine aY O (aR O O (aq O ?_));refine b9 10 O (λh1=>?_) (λh1=>?_)
 ·refine ar O (aq O (ar O (aq O (ar O (aR O O (ar O (ay O ?_)))))));refine aK _ O (λh2=>?_) (λh2=>?_)
  ·rw[Zu (by omega) (by omega)]at hK;refine cM O (ec [xS (A) (n) (c),xI ((k:Int)),xP (aH (A) ((k:Int)).toNat),xI (gi (xs) ((k:Int))),xS (A') (n') (c'),xI ((k:Int)),xP (aH (A') ((k:Int)).toNat),xI (gi (ys) ((k:Int))),xB (decide (¬(gi (xs) ((k:Int)))=(gi (ys) ((k:Int)))))] O (eK O) ?_ ?_)
   ·exact⟨Dr O,Dr O,λ_ _ hb _ _=>aA (WC.ao hb).2 O Az,λ_ _ hb _ _=>bg (WC.ao hb) O Az,Dr O,Dr O,λ_ _ hb _ _=>aA (Ay.ao hb).2 O Az,λ_ _ hb _ _=>bg (Ay.ao hb) O Az,Dr O,au⟩
   intro u w3 ji _;have aM:=az.ao ji;have WD:=aM.dq hX;have WG:=aM.dq hY;refine fG O (aK _ O (λh3=>?_) (λh3=>?_))
   ·rw[aD (λh=>h3 (zS.1 h))]at hK;refine cM O (ec [xS (A) (n) (c),xI ((k:Int)),xP (aH (A) ((k:Int)).toNat),xI (gi (xs) ((k:Int))),xS (A') (n') (c'),xI ((k:Int)),xP (aH (A') ((k:Int)).toNat),xI (gi (ys) ((k:Int))),xB (decide ((gi (xs) ((k:Int)))<(gi (ys) ((k:Int))))),xB (decide ((gi (xs) ((k:Int)))<(gi (ys) ((k:Int)))))] O (eK O) ?_ ?_)
    ·exact⟨Dr O,Dr O,λ_ _ hb _ _=>aA (WD.ao hb).2 O Az,λ_ _ hb _ _=>bg (WD.ao hb) O Az,Dr O,Dr O,λ_ _ hb _ _=>aA (WG.ao hb).2 O Az,λ_ _ hb _ _=>bg (WG.ao hb) O Az,Dr O,Dr O,au⟩
    intro u2 w4 kq _;have aU:=aM.ao kq;refine xM O (fz (fe ?_));refine cK O ?_;exact⟨aQ Value.bool (kl.2 (by rw[hK,FV])),aU⟩
   rw[aG (zS.2 (kW.1 h3))]at hK;refine aC O (aJ O (aN O (tQ ?_)));exact⟨k+1,by show n-(k+1)<n-k;omega,(auV O),aM,ac,ac,hK⟩
  rw[Zt (by omega) (by omega)]at hK;refine ba O (bc (bY O (aR O O (aq O (aR O O (bR O ?_))))));refine cK O ?_;exact⟨aQ Value.bool (kl.2 (by rw[hK];omega)),az⟩
 rw[Zs (by omega)]at hK;refine aB O (aB O (aB O (aB O (ay O ?_))));refine Cd.cX O (ba O (bc (bY O (aR O O (aq O (aR O O (bR O ?_)))))));refine cK O ?_;exact⟨aQ Value.bool (kl.2 (by rw[hK];split<;>omega)),az⟩
end
section
open Go.RowKit Go.Sort
def Cb(ss:List aE)(n:Nat)(j:Fin n):ab:=(sv ss j).v
theorem St.abw{w0 w:aa}{ks:List Ck}{i:Nat}{t:ad}{g o n c:Nat}{ss:List aE}{cur:Array ab}[Inhabited (Fin n)](hS:St w0 w ks)(hk:ks[i]?=some (aX t (some ⟨g,o,Option.none⟩) n c ss))(hh:w.heap[g]?=some (.cells cur t (0,0)))(hg:w0.heap.size<=g)(hs:o+c<=cur.size)(m:Nat)(dk:Array (Fin n))(hd:dk.size=n)(os:Array Obj):
 St w0 (sortWorld (Cb ss n) w g o m dk os) (ks.set i (aX t (some ⟨g,o,Option.none⟩) n c (dk.toList.map λj:Fin n=>sv ss j.val))):=by
 have ni:n<=c:=(hS.cap i hk).1;have hc9:c<=maxLen:=(hS.cap i hk).2;refine hS.turn hk O O (ahw _) (.qS (yY _) ⟨by simp[hd],ni,hc9,.inr ⟨g,o,_,O,hg,ajs _ hh,by simp only[putCells,Array.size_mapIdx];exact hs,λj hj=>?_⟩⟩);have hj:j<n:=hj;have GZ:o+j<cur.size:=by omega
 show(putCells (Cb ss n) o dk cur)[o+j]?=((dk.toList.map λj:Fin n=>sv ss j.val).map aE.v)[j]?;have e:dk[j]! =dk[j]' ac:=getElem!_pos dk j ac;simp[putCells,GZ,hj,hd,Cb]
theorem abt{w0 w:aa}{ks:List Ck}(i:Nat){t:ad}{A:ai}{n c:Nat}{ss:List aE}(hS:St w0 w ks)(hk:ks[i]?=some (aX t A n c ss))(hn:n<=4000000000000)(xs:Nat->ah)(gu:∀a,a<n->(sv ss a).n<=9223372036854775807)
 (br:∀(w':aa)(q:List Nat),q.length=n->(∀j∈q,j<n)->St w0 w' (ks.set i (aX t A n c (q.map (sv ss))))->∀a,a<n->bu w' (sv ss a).a (sv ss a).n (xs a)):
 aF prog 153 [.slice A n c,.func (.func 102) #[] #[]] w (λv w'=>v=.tuple #[]/\∃q:List Nat,q.Perm (List.range n)/\q.Pairwise (λa b=>¬LT (xs b) (xs a))/\St w0 w' (ks.set i (aX t A n c (q.map (sv ss))))):=by
 have hF:bq prog 102:=inferInstance;obtain⟨h1,h2,h3,h4⟩:=hS.py hk (yY _);have hl:ss.length=n:=by have:(ss.map aE.v).length=n:=h1;simpa using this
 have h2:n<=c:=h2
 by_cases h0:n=0
 ·subst h0;have key:=AnyF.slices_SortFunc_none { ZA with } A c (.func (.func 102) #[] #[]) w;refine Calls.mono key λx w' ⟨hx,hw⟩=>⟨_,hx,O,[],List.Perm.refl _,List.Pairwise.nil,?_⟩
  subst hw;have e:ss=[]:=iL hl;subst e;rw[show(List.map (sv []) []:List aE)=[]from rfl];have:=(iD.1 hk);rw[show ks.set i (aX t A 0 c [])=ks from by
   apply List.ext_getElem?;intro j;rw[lI]
   split
   ·rename_i e;subst e;rw[hk];simp[this.1]
   ·rfl]
  exact hS
 have h0:0<n:=by omega
 rcases h4 with⟨_,kF⟩|⟨g,o,cur,hA,hg,hh,hs,hc⟩
 ·have kF:c=0:=kF;omega
 have hA:A=some ⟨g,o,none⟩:=hA;have hs:o+c<=cur.size:=hs;have hc:∀j,j<n->cur[o+j]?=(ss.map aE.v)[j]?:=hc;subst hA
 haveI:Inhabited (Fin n):=⟨⟨0,h0⟩⟩
 have dH:g<w.heap.size:=(Array.getElem?_eq_some_iff.1 hh).1;have pH:(Array.ofFn (λj:Fin n=>j)).size=n:=by simp
 have hH:Holds (Cb ss n) w g o (Array.ofFn λj:Fin n=>j):=λj hj=>by
  have iJ:j<n:=by simpa using hj
  refine⟨?_,by simp[World.frozen?,hh]⟩;have e:(Array.ofFn λj:Fin n=>j)[j]! =⟨j,iJ⟩:=by
   rw[getElem!_pos (Array.ofFn λj:Fin n=>j) j (by simpa using iJ)];simp
  rw[e];simp only[World.cell?,hh];simp only[Option.isSome_none,Bool.false_eq_true,if_false];rw[hc j iJ];simp[iJ,hl,sv,Cb,b5]
 obtain⟨fn,rH,Po,GL⟩:=hF.out;obtain⟨bd,Kf⟩:∃c,fn.body=some c:=by
  cases h:fn.body with
  |none=>rw[h]at GL;cases GL
  |some c=>exact⟨c,rfl⟩
 have eg:∀args w,(callFunc 102 args).run prog w=.ok (.enter 102 args) w:=enters_of rH Po Kf;have hC:CmpLays1 prog 102 #[] (Cb ss n) (λa b:Fin n=>iB (xs a) (xs b)) g o (Array.ofFn λj:Fin n=>j).size w:=λm os dk hdk a b=>by
  have qw:dk.size=n:=by rw[hdk,pH]
  have hW:=hS.abw hk hh hg hs m dk qw os;have hr:=br _ (dk.toList.map λj=>j.val) (by simp[qw]) (λj hj=>by obtain⟨x,_,rfl⟩:=de.1 hj;exact x.2) (by rw[List.map_map];exact hW);have h5:=SU (sv ss a).a (sv ss a).n (sv ss a).c (xs a) (sv ss b).a (sv ss b).n (sv ss b).c (xs b) _ (hr a a.2) (hr b b.2) (gu a a.2);refine Calls.mono h5 λx w' ⟨v,hx,hv,aw⟩=>?_
  subst hv;exact⟨hx,0, #[],by rw[aw];simp[World.drewN]⟩
 have hO:SWO (ltOf λa b:Fin n=>iB (xs a) (xs b)):={
  irrefl:=λa=>by simpa[ltOf,LT]using LT.irrefl (xs a)
  trans:=λa b c h h'=>by simp only[ltOf,decide_eq_true_iff]at*;exact LT.trans (a:=xs a) (b:=xs b) (c:=xs c) h h'
  ntrans:=λa b c h h'=>by simp only[ltOf,decide_eq_false_iff_not]at*;exact acw (a:=xs a) (b:=xs b) (c:=xs c) h h' }
 have key:=Any.slices_SortFunc ZA (Cb ss n) (λ_=>O) (λa b:Fin n=>iB (xs a) (xs b)) hO 102 #[] g o c (Array.ofFn λj:Fin n=>j) w eg hC hH dH (by rw[pH];omega);rw[pH]at key;refine Calls.mono key λx w' ⟨hx,d',m,os,hp,yN,hw⟩=>⟨_,hx,O,d'.toList.map (λj=>j.val),?_,?_,?_⟩
 ·obtain⟨hz,_,XS⟩:=hp;rw[pH]at hz;have e1:d'.extract 0 n=d':=by have:=Array.extract_size (xs:=d');rwa[hz]at this
  have e2:(Array.ofFn λj:Fin n=>j).extract 0 n=Array.ofFn λj:Fin n=>j:=by
   have:=Array.extract_size (xs:=Array.ofFn λj:Fin n=>j)
   rwa[pH]at this
  rw[e1,e2]at XS;have h6:=XS.map (λj:Fin n=>j.val);have e3:(Array.ofFn λj:Fin n=>j).toList.map (λj:Fin n=>j.val)=List.range n:=by
   apply iC
   ·simp
   ·intro j h1 h2;simp
  rw[e3]at h6;exact h6
 ·have hz:=hp.1;rw[pH]at hz;rw[rV,List.pairwise_iff_getElem];intro a b ha hb gr;have Ee:a<d'.size:=by simpa using ha
  have J8:b<d'.size:=by simpa using hb
  have h7:=yN a b (bl _) gr ac;simp only[ltOf,decide_eq_false_iff_not,getElem!_pos d' a Ee,getElem!_pos d' b J8]at h7;simpa[LT]using h7
 ·subst hw;have hz:=hp.1;rw[pH]at hz;rw[List.map_map];exact hS.abw hk hh hg hs m d' hz os
end
section
end
section
open Go.RowKit
theorem St.tB{w0 w:aa}{t1 t2:ad}{A:ai}{n c:Nat}{rs:List aE}{xss:ag}(h:St w0 w (aV t1 t2 A n c rs xss))(hl:xss.length=n):bH w A n rs xss:=
 St.fO (ks:=[]) (by rw[dQ];exact h) hl
end
section
abbrev Mx:=ag
def Ts(N:Nat)(xss:Mx):Prop:=∀f,f<N->¬Zr (agE N xss (f:Nat)) xss<0
instance (N:Nat)(xss:Mx):Decidable (Ts N xss):=by unfold Ts;exact inferInstance
end
section
open Go.RowKit
section
variable {P:Program}{N:Nat}{ops:Array Oper}{K:Env->aa->Prop}{rest:List Oper}{e:Env}{w:aa}{d:Nat}{ty:ad}{pos:String}{af:Array Edge}
end
section
variable {P:Program}{N:Nat}{ops:Array Oper}{K:Env->aa->Prop}{rest:List Oper}{e:Env}{w0 w:aa}{ks:List Ck}{d:Nat}{ty:ad}{pos:String}{af:Array Edge}
theorem abj:∀(cs vs:List ab)(o m:Nat),m<=o->(tC vs o cs).take m=vs.take m
 |[],_,_,_,_=>rfl
 |c::r,vs,o,m,h=>by
  show(tC (vs.set o c) (o+1) r).take m=_;rw[abj r _ _ _ (by omega),List.take_set_of_le h]
theorem YX:∀{vs:List ab}(o:Nat)(cs:List ab),eV vs=false->(∀u∈cs,u.oneCell'=true)->eV (tC vs o cs)=false
 |_,_,[],h,_=>h
 |vs,o,c::r,h,hc=>YX (o+1) r (YW o h (hc c (by simp))) λu hu=>hc u (by simp[hu])
theorem acK{t el:ad}{z z0:ab}{b:Nat}[bJ P t (.slice el)][bL P el z 1 b]{x:ae}(i l:Nat){k:Ck}{n' c':Nat}(hS:St w0 w ks)(hk:ks[i]?=some k)(hl:l<k.n)(tj:n'=k.n-l)(hx:ev e x=.slice (cutAt k.A k.c l) n' c')(hz:z.cells= #[z0])(h1:z0.oneCell'=true)(hK:∀w',St w0 w' (ks.set i { k with n:=l,vs:=k.vs.take l })->ak P N ops K rest e w')(hM:eV k.vs=false:=by first|rfl|exact vH _|exact EO _|exact yY _):
 ak P N ops K (⟨none,.call ⟨.builtin .clear, #[x], #[t]⟩,ty,pos,af,none⟩::rest) e w:=by
 obtain⟨inf,hi,eN,hs,iI⟩:=bL.get P el;obtain⟨C3,ni,pG,-⟩:=hS.py hk hM;have dH:=(iD.1 hk).1;obtain⟨p,hp,_⟩:=(hS.rd i hk) l hl;have na:cutAt k.A k.c l=some p:=by unfold cutAt;rw[if_neg (by omega)];exact hp
 obtain⟨w',jI,mu⟩:=RQ (P:=P) (k:=k) i (List.replicate (k.n-l) z0) ks k.vs w l p hS hk hp (by simp;omega) (λu hu=>by rw[List.eq_of_mem_replicate hu];exact h1) l p hp ac ac;have az:=mu.shrink i (k:={ k with vs:=tC k.vs l (List.replicate (k.n-l) z0) }) (by rw[lI];simp[dH]) l (by show l<=k.n;omega) (YX _ _ hM (λu hu=>by rw[List.eq_of_mem_replicate hu];exact h1));rw[List.set_set]at az;have e1:({ ({ k with vs:=tC k.vs l (List.replicate (k.n-l) z0) }:Ck)with n:=l,vs:=({ k with vs:=tC k.vs l (List.replicate (k.n-l) z0) }:Ck).vs.take l }:Ck)={ k with n:=l,vs:=k.vs.take l }:=by
  show({ k with n:=l,vs:=(tC k.vs l (List.replicate (k.n-l) z0)).take l }:Ck)=_;rw[abj _ _ _ _ (cJ _)]
 rw[e1]at az;have Bp:(Builtin.zeroCells z.cells (k.n-l)).toList=List.replicate (k.n-l) z0:=by
  rw[hz];simp[Builtin.zeroCells];apply iC
  ·simp
  intro i h1 h2;simp[Nat.mod_one]
 rw[Nat.sub_self]at jI;have hm:k.n-l=(k.n-l-1)+1:=by omega
 generalize k.n-l-1=m at hm;have hv:∀w,(zeroValue el).run P w=.ok z w:=λw=>by simp[zeroValue,typeInfo,hi,eN]
 rw[tj,na,hm]at hx;rw[hm]at Bp jI;refine .abT (v:=.tuple #[]) (w':=w') ?_ (hK _ az);simp[execOp,resolve,invoke,builtin,hx,Builtin.clear_,run_underlying (bJ.out (P:=P) (t:=t)),hv,Bp,jI]
end
def WK(h:ah->ah)(list:ah):ah->ah
 |[]=>[]
 |v::r=>if v∉list/\h (list++[v])≠[]then h (list++[v])else WK h list r
def Zk(l:ah):Int:=gi l ((l.length:Int)-1)
def Gz(mn:Nat)(next:ag):Nat->ah->ah
 |0,_=>[]
 |f+1,l=>if l.length=next.length then(if mn<l.length/\gi l 0∈gl next (Zk l)then l else[])else WK (Gz mn next f) l (gl next (Zk l))
def Kp(xss:ag):ah:=Gz 2 (ZT xss) (abU xss) [0]
theorem alx(A:ai)(n c:Nat)(xs:ah)(G:FuncId)[hF:bq prog G](cv:List ab)(pd:Int->Bool)(w:aa)(hR:bu w A n xs)(hn:n<=4000000000000)(rG:∀(w':aa)(x:Int),Below w.heap.size w w'->x∈xs->aF prog G (aj x::cv) w' (λv nX=>v=.bool (pd x)/\St w' nX [])):
 aF prog 115 [.slice A n c,.func (.func G) #[] cv.toArray] w (λv w'=>(∃i:Int,v=aj i/\((i= -1/\∀x∈xs,pd x=false)\/∃k:Nat,k<n/\i=k/\pd (gi xs k)=true/\∀j:Nat,j<k->pd (gi xs j)=false))/\St w w' []):=by
 have cT:=hR.1;refine bn func115 O ntmps115 O (bM O) ?_;refine aY O (aR O O (ay O ?_));refine Cd.loop (α:=Nat) (λk=>[(0,.slice A n c),(1,.func (.func G) #[] cv.toArray),(7,aj n),(8,aj k)]) (λk w'=>St w w' []/\k<=n/\∀j:Nat,j<k->pd (gi xs j)=false) (λk=>n-k) 0 (auV O) ⟨St.refl w,bl _,λj hj=>by omega⟩ ?_;rintro k e w1 ⟨hS,hk,hK⟩;refine bC O (aK _ O (λh3=>?_) (λh3=>?_))
 ·have fU:k<xs.length:=by omega
  have eW:=hR.ao hS.below;refine aC O (aA eW.2 O (bg eW O (aI (rG w1 (gi xs k) hS.below (gi_in fU)) O ?_)));rintro _ w2 ⟨rfl,aw⟩;have az:=hS.ao aw.below;rw[show pd (gi xs k)=decide (pd (gi xs k)=true) by simp];refine ay O (aK _ O (λh4=>?_) (λh4=>?_))
  ·refine dE O (fz (fe ?_));refine gj O ?_;exact⟨⟨(k:Int),O,.inr ⟨k,ac,O,h4,hK⟩⟩,az⟩
  refine aC O (aJ O (aN O (tQ ?_)));refine⟨k+1,by show n-(k+1)<n-k;omega,(auV O),az,ac,λj hj=>?_⟩
  by_cases ej:j=k
  ·subst ej;simpa using h4
  exact hK j ac
 refine ba O (bc (ew O ?_));refine gj O ⟨⟨-1,O,.inl ⟨O,λx hx=>?_⟩⟩,hS⟩;obtain⟨j,hj,rfl⟩:=fS.1 hx;rw[<-b7 hj];exact hK j ac
def sq(a b:ah):ah:=a.filter λx=>!decide (x∈b)
section
variable {P:Program}{N:Nat}{ops:Array Oper}{K:Env->aa->Prop}{rest:List Oper}{e:Env}{w:aa}{d:Nat}{ty xt yt:ad}{pos:String}{af:Array Edge}{x y:ae}{i j:Int}
end
def p2L(l:ah):ah:=l.map λx=>Int.tmod x 2
def aoH(xss:ag):ah:=p2L (sY (ZT xss) (-1) 0).1
def Bd(En:ag)(parts:ah)(e:Nat):Prop:=(gl En e).length=1\/gi parts (gi (gl En e) 0)=gi parts (gi (gl En e) 1)
instance (En:ag)(parts:ah)(e:Nat):Decidable (Bd En parts e):=by unfold Bd;exact inferInstance
def aay(xss:ag):Prop:=∃e,e<Nr xss/\Bd (UF xss) (aoH xss) e
instance (xss:ag):Decidable (aay xss):=by unfold aay;exact inferInstance
end
section
theorem Zq{a b:ah}{x:Int}:x∈sq a b↔x∈a/\x∉b:=by simp[sq]
end
end Go.Proofs.YtimbpgackifflaaGreatDoor.Vc
