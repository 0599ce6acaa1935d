/-
  The texts D2, D3, D4, D5, D8, D9, Dc, Dd, De, Df, F3, F4, L02, Lst, F5, K1, Dg, Sr4, Qf1, C9, C11, E1, E2, E3, Dst, Co1, Co2, Co5, Po1, Po2, Shr, Rt2, Pq1 in one. Conditions: as each part states them.
-/
import Derived.Test.YtopgfgdgfjddpaaGreatDoorLayb
import Derived.Test.YtopgfgdgfjddpaaGreatDoorZd
import Derived.Shelf.SlicesE.Compact
import Derived.Shelf.SlicesE.Delete
import Derived.Shelf.SortM.SortNone
import Derived.Test.YtopgfgdgfjddpaaGreatDoorZc
import Derived.Test.YtopgfgdgfjddpaaGreatDoorZb
import Derived.Test.YtopgfgdgfjddpaaGreatDoorZa
namespace Go.Proofs.YtopgfgdgfjddpaaGreatDoor.Vc
section
open Go.RowKit Go.Sort Tryz
variable{w w0:World}{q:Nat}{cur:Array Value}{ks:List Ck}{l:List Int}
theorem aah{α:Type}[Inhabited α]{enc:α→Value}{g off:Nat}{e:TypeId}{fr:Nat×Nat}(d:Array α)(hb:w.heap[g]?=some (.cells cur e fr)):(putRow enc (Sort.ahead w q) g off d).heap[g]?=some (.cells (putCells enc off d cur) e fr):=by
 simp [putRow,mapBlock,Sort.ahead,Array.getElem?_modify,hb,onCells]
theorem YP{α:Type}[Inhabited α]{enc:α→Value}{g off:Nat}(d:Array α):Fu w (putRow enc (Sort.ahead w q) g off d) (some g):=by
 refine⟨⟨O,O,O,by simp [Sort.ahead],fun k hk bt=>?_⟩,Nat.le_add_right _ _⟩;have:g≠k:=fun e=>bt (by rw [e])
 simp [putRow,mapBlock,Sort.ahead,Array.getElem?_modify,this]
theorem Rv{α:Type}[Inhabited α]{enc:α→Value}{g o:Nat}{e:TypeId}{ds:List α}(hh:w.heap[g]?=some (.cells cur e (0,0)))(hc:∀j,j<ds.length→cur[o+j]?=(ds.map enc)[j]?):Holds enc w g o ds.toArray:=fun j hj=>by
 have kF:j<ds.length:=by simpa using hj
 refine⟨?_,by simp [World.frozen?,hh]⟩;simp only [World.cell?,hh];simp only [Option.isSome_none,Bool.false_eq_true,if_false];rw [hc j kF];simp [kF]
theorem St.laid{α:Type}[Inhabited α]{enc:α→Value}{i:Nat}{k:Ck}{g o m:Nat}{ds:List α}(hS:St w0 w ks)(hk:ks[i]?=some k)(hA:k.A=some ⟨g,o,Option.none⟩)(hg:w0.heap.size≤g)(hh:w.heap[g]?=some (.cells cur k.e (0,0)))(hs:o+k.c≤cur.size)(hm:m≤ds.length)(hd:ds.length≤k.c)(hc:k.c≤maxLen)(he1:∀x,(enc x).oneCell'=true:=by intro _;rfl):
 St w0 (putRow enc (Sort.ahead w q) g o ds.toArray) (ks.set i ⟨k.A,m,k.c,k.e,(ds.take m).map enc⟩):=by
 refine hS.turn hk (by simp [Ck.ie,hA]) (by simp [Ck.ie,hA]) (YP _) (.rI (xb fun v hv=>by obtain⟨x,_,rfl⟩:=dh.1 hv;exact he1 x) ⟨by simp;omega,by show m≤k.c;omega,hc,.inr ⟨g,o,_,hA,hg,aah _ hh,by simp only [putCells,Array.size_mapIdx];exact hs,fun j hj=>?_⟩⟩);have hj:j<m:=hj;show(putCells enc o ds.toArray cur)[o+j]?=((ds.take m).map enc)[j]?;have KM:o+j<cur.size:=by omega
 have hjd:j<ds.length:=by omega
 simp [putCells,KM,hjd,rW,hj]
def SA(l:List Int):Prop:=l.Pairwise (· < ·)
theorem SA.Di(h:SA l):rS l:=h.imp fun h=>by omega
theorem SA.nodup(h:SA l):l.Nodup:=h.imp fun h=>by omega
theorem SA.eq{l':List Int}(h:SA l)(h':SA l')(hm:∀x,x∈l↔x∈l'):l=l':=Wt ((s9 h.nodup h'.nodup).2 hm) h.Di h'.Di
def lF(xs:List Int):List Int:=Lib.compactUpTo xs.toArray xs.toArray.size
theorem Iy(xs:List Int)(j:Nat):xs.toArray[j]! =gi xs (j:Int):=by
 by_cases h:j<xs.length
 ·rw [bX h];simp [h]
 have e:gi xs (j:Int)=0:=by simp [gi,cJ,oH (Nat.not_lt.1 h)]
 rw [e,getElem!_neg _ _ (by simpa using h)];rfl
theorem II(xs:List Int):lF xs=((List.range xs.length).filter fun j:Nat=>decide (j=0∨gi xs (j:Int)≠gi xs ((j - 1:Nat):Int))).map fun j:Nat=>gi xs (j:Int):=by
 unfold lF Lib.compactUpTo;rw [List.size_toArray];have e1:Lib.keeps xs.toArray=fun j:Nat=>decide (j=0∨gi xs (j:Int)≠gi xs ((j - 1:Nat):Int)):=by
  funext j;unfold Lib.keeps;rw [Iy,Iy]
 rw [e1];exact mJ fun j _=>Iy xs j
theorem Oa(xs:List Int):(lF xs).length≤xs.length:=by
 rw [II,fN];have:=oJ (fun j:Nat=>decide (j=0∨gi xs (j:Int)≠gi xs ((j - 1:Nat):Int))) (List.range xs.length)
 rwa [pe]at this
theorem Xc(xs:List Int)(x:Int):x∈lF xs↔x∈xs:=by
 rw [II,dh];constructor
 ·rintro⟨j,hj,rfl⟩;have:=gg.1 (fA.1 hj).1;rw [bX this];exact dQ _
 ·intro hx;obtain⟨j,hj,uF⟩:=gJ.1 hx;rw [←bX hj]at uF;clear hx
  induction j with
  | zero=>exact⟨0,fA.2 ⟨gg.2 hj,by simp⟩,uF⟩
  | succ j ih=>
   by_cases h:gi xs ((j+1:Nat):Int)=gi xs ((j:Nat):Int)
   ·exact ih (by omega) (h▸uF)
   ·exact⟨j+1,fA.2 ⟨gg.2 hj,by simp only [Nat.add_sub_cancel,jT];exact .inr h⟩,uF⟩
theorem Xb{xs:List Int}(h:rS xs):SA (lF xs):=by
 have mono:∀a b,a≤b→b<xs.length→gi xs (a:Int)≤gi xs (b:Int):=fun a b dO hb=>by
  rw [bX (by omega),bX hb]
  by_cases e:a=b
  ·subst e;exact Int.le_refl _
  exact(List.pairwise_iff_getElem.1 h) a b (by omega) hb (by omega)
 rw [II];unfold SA;rw [qd];have hr:(List.range xs.length).Pairwise (· < ·):=List.pairwise_lt_range;refine(hr.filter _).imp_of_mem fun {a b} ha hb dO=>?_
 have cN:=gg.1 (fA.1 hb).1;have dG:=sP (fA.1 hb).2;have h1:=mono a (b - 1) (by omega) (by omega);have h2:=mono (b - 1) b (by omega) cN;rcases dG with dG | dG
 ·omega
 omega
def cs(l:List Int):List Int:=lF (nJ l)
theorem Xz(l:List Int)(x:Int):x∈cs l↔x∈l:=by rw [cs,Xc];exact(MD l).mem_iff
theorem Xy(l:List Int):SA (cs l):=Xb (agb l)
theorem Xq(i:Nat){t:TypeId}{A:aiC}{n c:Nat}{xs:List Int}(hS:St w0 w ks)(hk:ks[i]?=some (ah t A n c xs))(h0:0<n)(hn:n≤1000000000):
 aA prog 160 [.slice A n c] w (fun v w'=>v= .slice A (lF xs).length c∧St w0 w' (ks.set i (ah t A (lF xs).length c (lF xs)))):=by
 obtain⟨h1,h2,h3,h4⟩:=hS.tp hk (tS _);have hl:xs.length=n:=hS.CE i hk;have h2:n≤c:=h2;have h3:c≤maxLen:=h3;rcases h4 with⟨_,pO⟩ | ⟨g,o,cur,hA,hg,hh,hs,hc⟩
 ·have pO:c=0:=pO;omega
 have hA:A=some ⟨g,o,none⟩:=hA;have hs:o+c≤cur.size:=hs;have hc:∀j,j<n→cur[o+j]?=(xs.map (Value.int .i64))[j]?:=hc;subst hA;subst hl;have key:=AnyE.slices_Compact adf (Value.int .i64) (fun _=>O) (EqlAt.intD _ _ .i64) (NeqAt.intD _ _ .i64) (0:Int) (fun w=>zeroValue2 w) g o c xs.toArray w (Rv hh hc) (by simp;omega) (by simpa using h2);refine Calls.mono key fun x w' ⟨hx,q,hw⟩=> ⟨_,hx,O,?_⟩
 subst hw;have hle:=Oa xs;have h:=hS.laid (q:=q) (m:=(lF xs).length) (enc:=Value.int .i64) (ds:=lF xs++List.replicate (xs.toArray.size - (lF xs).length) 0) hk O hg hh hs (by simp) (by simp;show _≤c;omega) h3;rw [xG (a8 _),List.take_length]at h;exact h
instance:Inhabited aG:=⟨dE⟩
theorem XL(i:Nat){t:TypeId}{A:aiC}{n c a b:Nat}{xs:List aG}(hS:St w0 w ks)(hk:ks[i]?=some (bU t A n c xs))(h0:0<n)(hn:n≤1000000000)(dO:a≤b)(hb:b≤n):
 aA prog 252 [.slice A n c,aiD (a:Int),aiD (b:Int)] w (fun v w'=>v= .slice A (n - (b - a)) c∧St w0 w' (ks.set i (bU t A (n - (b - a)) c (xs.take a++xs.drop b)))):=by
 obtain⟨h1,h2,h3,h4⟩:=hS.tp hk (Cy _);have hl:xs.length=n:=(hS.il i hk).1;have h2:n≤c:=h2;have h3:c≤maxLen:=h3;rcases h4 with⟨_,pO⟩ | ⟨g,o,cur,hA,hg,hh,hs,hc⟩
 ·have pO:c=0:=pO;omega
 have hA:A=some ⟨g,o,none⟩:=hA;have hs:o+c≤cur.size:=hs;have hc:∀j,j<n→cur[o+j]?=(xs.map aG.v)[j]?:=hc;subst hA;subst hl;obtain⟨i0,eP,_,Hr,_⟩:=bp.get prog 32;have key:=AnyE.slices_Delete adi aG.v (fun _=>O) dE (fun w=>zeroValue32 w) i0 eP Hr g o c a b xs.toArray w (Rv hh hc) (by simpa using h2) (by simpa [maxLen]using h3) dO (by simpa using hb);refine Calls.mono key fun x w' ⟨hx,q,hw⟩=> ⟨_,hx,by simp,?_⟩
 subst hw;have h:=hS.laid (q:=q) (m:=xs.length - (b - a)) (enc:=aG.v) (ds:=xs.toArray.toList.take a++xs.toArray.toList.drop b++List.replicate (b - a) dE) hk O hg hh hs (by simp;omega) (by simp;omega) h3;have e1:(xs.toArray.toList.take a++xs.toArray.toList.drop b++List.replicate (b - a) dE).take (xs.length - (b - a))=xs.take a++xs.drop b:=by
  have e2:(xs.take a++xs.drop b).length=xs.length - (b - a):=by simp;omega
  show(xs.take a++xs.drop b++List.replicate (b - a) dE).take _=_;rw [←e2,xG (a8 _),List.take_length]
 rw [e1]at h;exact h
end
section
open Go.RowKit Tryz
variable{w:World}{ks:List Ck}
theorem U9(A:aiC)(n c:Nat)(rs:List aG)(w:World)(hR:jD w A n rs)(hn:n≤1000000)(h0:0<n):aA prog 184 [.slice A n c] w (fun v w'=>∃A' c',v= .slice A' n c'∧St w w' [bU 32 A' n c' rs]):=by
 cases hA:A with
 | none=>
  subst hA;obtain⟨p,hp,_⟩:=hR.2 0 h0;simp [aq]at hp
 | some a=>
  subst hA;refine bk func184 O ntmps184 O (cK O) (aQ O (Da O O O (ay O (Cd.eV O (av O (jl (St.refl w) O ?_))))));intro A1 w1 ao;have ao:St w w1 [bU 32 A1 0 0 []]:=ao;refine ad O (oM 0 ao O (ao.Mc hR) O O O (by omega) (by omega) O ?_);intro A2 c2 w2 ar;rw [Nat.zero_add]at ar⊢;refine bh O (gB O ?_);exact⟨A2,c2,O,ar⟩
theorem agO(Ab A:aiC)(n c:Nat)(rs:List aG)(xss:aiB)(i:Nat)(w:World)(hB:Rd w Ab 1 (fun _=> .slice A n c))(hR:br w A n rs xss)(hn:n≤1000)(hi:i<n):
 aA prog 218 [.pointer Ab,aiD (i:Int)] w (fun v w'=>∃A' c',v= .slice A' (n - 1) c'∧St w w' [bU 32 A' (n - 1) c' (rs.eraseIdx i)]):=by
 refine bk func218 O ntmps218 O (cK O) (aQ O ?_);refine mh hB (by decide) O O ?_;refine aH hB O O O O inferInstance (aM hB O O O O O (aa.call (U9 A n c rs _ hR.top (by omega) (by omega)) O O O ?_));rintro _ w1 ⟨A1,c1,rfl,ao⟩;refine ad O (aa.add O O O (by omega) ?_);have jt:((i:Int)+1)=((i+1:Nat):Int):=by omega
 rw [jt];refine aa.call (XL 0 ao O (by omega) (by omega) (show i≤i+1 by omega) (by omega)) O O O ?_;rintro _ w2 ⟨rfl,ar⟩;refine bh O (gB O ?_);have e:n - (i+1 - i)=n - 1:=by omega
 rw [e];rw [e,←List.eraseIdx_eq_take_drop_succ]at ar;exact⟨A1,c1,O,ar⟩
theorem OI(Ab A:aiC)(n c:Nat)(rs:List aG)(xss:aiB)(i:Nat)(w:World)(hB:Rd w Ab 1 (fun _=> .slice A n c))(hR:br w A n rs xss)(hM:bL xss)(hi:i<n):
 aA prog 164 [.pointer Ab,aiD (i:Int)] w (fun v w'=>∃A',v= .tuple #[.slice A' (gl xss 0).length (gl xss 0).length,aiD (ja xss i)]∧St w w' [ah 2 A' (gl xss 0).length (gl xss 0).length (dd xss i)]):=by
 have hl:=hR.len;have h1:=hM.1;have h2:=hM.2.1;have e0:(rg rs 0).n=(gl xss 0).length:=(hR.pE (by omega) (by omega)).symm;refine bk func164 O ntmps164 O (sQ O) (aQ O (aa.call (um Ab A n c rs xss _ w hB O hR (by omega)) O O O ?_));rintro _ w ⟨rfl,rfl⟩;rw [e0];refine ad O (aa.call (agO Ab A n c rs xss i _ hB hR (by omega) hi) O O O ?_);rintro _ w1 ⟨A1,c1,rfl,ao⟩;refine aa.call (Tr A1 (n - 1) c1 (rs.eraseIdx i) (xss.eraseIdx i) (gl xss 0).length _ ((ao.bF hR).erase hi (ao.il 0 O)) (by omega) (hM.2.2.1.sys.erase i) (hM.2.2.1.inj.erase i) (by omega)) O O O ?_;rintro _ w2 ⟨A2,rfl,ak⟩;have ar:=ao.call ak;refine bh O (Aq O O ?_);exact⟨A2,O,ar.sub (List.Sublist.cons_cons _ (List.nil_sublist _))⟩
theorem Mv{t:TypeId}:∀ {rs:List aG} {xss:aiB} {i:Nat} {s:aG} {xs:List Int},rs.length=xss.length→(cS t rs xss).set i (ah t s.a s.n s.c xs)=cS t (rs.set i s) (xss.set i xs)
 | [],[],_,_,_,_=>rfl
 | [],_::_,_,_,_,h=>by simp at h
 | _::_,[],_,_,_,h=>by simp at h
 | r::rs,x::xss,0,s,xs,_=>rfl
 | r::rs,x::xss,i+1,s,xs,h=>by
  have:=Mv (t:=t) (rs:=rs) (xss:=xss) (i:=i) (s:=s) (xs:=xs) (by simpa using h);simpa [cS]using this
theorem EU{w0 w:World}{t:TypeId}:∀(n:Nat) {ks:List Ck},St w0 w ks→St w0 w (ks++cS t (List.replicate n dE) (List.replicate n []))
 | 0,ks,h=>by show St w0 w (ks++ []);rwa [fg]
 | n+1,ks,h=>by
  have h1:=EU (t:=t) n h;have h2:=h1.nil t;exact h2.perm (iH.symm)
def IB(Vl El:List Int)(m:Nat):Nat→aiB
 | 0=>List.replicate m []
 | f+1=> (IB Vl El m f).set (gi El f).toNat (gl (IB Vl El m f) (gi El f)++ [gi Vl f])
def ends(Vl El:List Int)(m f:Nat):aiB:=(IB Vl El m f).map cs
def Fp(L:aiB)(K:Int)(w:World)(v:Value)(w':World):Prop:=∃A' c' rs',v= .tuple #[.slice A' L.length c',aiD K]∧rs'.length=L.length∧St w w' (aE 32 2 A' L.length c' rs' L++ [])
theorem Fp.none{w':World}{K:Int}(h:St w w' ks):Fp [] K w (.tuple #[.slice Option.none 0 0,aiD K]) w':=⟨Option.none,0,[],rfl,rfl,h.none.nil _⟩
def my(B:aiB)(e:Nat):aiB:=(B.take e).map cs++B.drop e
theorem adL(B:aiB)(e:Nat):(my B e).length=B.length:=by simp [my];omega
theorem adN(B:aiB):my B 0=B:=by simp [my]
theorem adJ(B:aiB):my B B.length=B.map cs:=by simp [my]
theorem adK{B:aiB}{e:Nat}(h:e<B.length):gl (my B e) (e:Int)=gl B (e:Int):=by
 simp only [gl,my,ir,cJ];rw [jQ (by simp;omega)];simp [Nat.min_eq_left (Nat.le_of_lt h)]
theorem adM{B:aiB}{e:Nat}(h:e<B.length):(my B e).set e (cs (gl B (e:Int)))=my B (e+1):=by
 rw [db h];unfold my;rw [List.set_append_right _ _ (by simp;omega),rY h,iQ,fR];have e1:e - ((B.take e).map cs).length=0:=by simp;omega
 rw [e1,List.drop_eq_getElem_cons h]
 rfl
theorem af4{w0:World}(i:Nat){t:TypeId}{A:aiC}{n c:Nat}{xs:List Int}(hS:St w0 w ks)(hk:ks[i]?=some (ah t A n c xs))(hn:n≤1000000000):
 aA prog 159 [.slice A n c] w (fun v w'=>v= .tuple #[]∧St w0 w' (ks.set i (ah t A n c (nJ xs)))):=by
 by_cases h0:0<n
 ·exact af6 i hS hk h0 hn
 obtain rfl:n=0:=by omega
 have dA:=hS.CE i hk;obtain rfl:=s7 dA;refine Calls.mono (AnyM.slices_Sort_int_none SY A c w) fun x w' ⟨hx,hw⟩=> ⟨_,hx,O,?_⟩
 subst hw;have e:nJ []=[]:=s7 (MD []).length_eq;rw [e,MA hk];exact hS
theorem Xp{w0:World}(i:Nat){t:TypeId}{A:aiC}{n c:Nat}{xs:List Int}(hS:St w0 w ks)(hk:ks[i]?=some (ah t A n c xs))(hn:n≤1000000000):
 aA prog 160 [.slice A n c] w (fun v w'=>v= .slice A (lF xs).length c∧St w0 w' (ks.set i (ah t A (lF xs).length c (lF xs)))):=by
 by_cases h0:0<n
 ·exact Xq i hS hk h0 hn
 obtain rfl:n=0:=by omega
 have dA:=hS.CE i hk;obtain rfl:=s7 dA;have e:lF []=[]:=s7 (Nat.le_zero.1 (Oa []));rw [e];refine bk func160 O ntmps160 O (cK O) ?_;refine aQ O (aa.len O O (ay O ?_));refine C4 O (by decide) ?_;refine dN O (gB O ?_);exact⟨O,by rw [show([]:List Int).length=0 from O,MA hk];exact hS⟩
theorem SZ{t1 t2:TypeId}{A:aiC}{n c:Nat}{rs:List aG}{xss:aiB}(h:rs.length=xss.length):(aE t1 t2 A n c rs xss).length=rs.length+1:=by simp [aE,CW h]
theorem NP{N M v r:Int}(hv:0≤v∧v<N)(hr:0≤r∧r<M)(hb:N*M≤1000000):0≤v*M∧v*M≤1000000∧0≤v*M+r∧v*M+r<N*M:=by
 have h1:(v+1)*M≤N*M:=Int.mul_le_mul_of_nonneg_right (by omega) (by omega);have h2:0≤v*M:=Int.mul_nonneg hv.1 (by omega);rw [Int.add_mul,Int.one_mul]at h1;omega
theorem GM.first{N:Nat}{xss:aiB}(h:GM N xss)(hn:0<xss.length):(gl xss 0).length=N:=by
 have e:gl xss (0:Nat)=xss[0]:=db hn;have e:gl xss 0=xss[0]:=e;rw [e];exact(h _ (dQ hn)).1
theorem GM.at_{N:Nat}{xss:aiB}(h:GM N xss){i:Nat}(hi:i<xss.length):Rg N (gl xss (i:Int)):=by
 rw [db hi];exact h _ (dQ hi)
theorem EO(A:aiC)(n c:Nat)(rs:List aG)(xss:aiB)(N:Nat)(B:aiC)(m cB:Nat)(rs':List aG)(oE:aiB)(M:Nat)(w:World)(hX:br w A n rs xss)(hY:br w B m rs' oE)(hn:1≤n∧n≤100)(hm:1≤m∧m≤100)(hx:GM N xss)(hy:GM M oE)(hN:1≤N)(hM:1≤M)(l0:N*M≤1000000):
 aA prog 180 [.agg #[.slice A n c],.agg #[.slice B m cB]] w (H4 (n+m) (N*M) w):=by
 have dA:=hX.len;have tR:=hY.len;have EE:=hx.first (by omega);have hyM:=hy.first (by omega);have P9:(N:Int)* (M:Int)≤1000000:=by
  rw [←Int.natCast_mul];exact Int.ofNat_le.2 l0
 refine bk func180 O ntmps180 O (qH O O) (aQ O (iI (St.refl w) O O ?_));intro A2 w1 ao;refine iI ao O O ?_;intro A3 w2 ar;refine gS ar O ?_;intro A4 w3 az;refine ay O ?_;refine dI [.ex (.agg #[.slice (A) (n) (c)]),xI ((gl xss 0).length:Int),.ex (.agg #[.slice (B) (m) (cB)]),xI ((gl oE 0).length:Int),xI ((gl xss 0).length:Int),xI ((gl oE 0).length:Int)] (by kernel_rfl) (by kernel_rfl) O (eg O) ?_ ?_
 ·refine⟨fun _ _ hb _ _=>aa.bq 0 ((az.rd 2 O).below hb) O O O (Az O),?_,fun _ _ hb _ _=>aa.bq 0 ((az.rd 1 O).below hb) O O O (Az O),?_,Dr O,Dr O,ae⟩
  ·intro e1 w1 hb hp aL;refine aa.call (vA A n c rs xss _ ((az.later hb).bF hX) (by omega)) O O O ?_;rintro _ w2 ⟨rfl,ak⟩;refine aa.n ?_;exact gD.dn ak.below (by exact O)
  intro e1 w1 hb hp aL;refine aa.call (vA B m cB rs' oE _ ((az.later hb).bF hY) (by omega)) O O O ?_;rintro _ w2 ⟨rfl,ak⟩;refine aa.n ?_;exact gD.dn ak.below (by exact O)
 intro u w4 kq _;have aJ:=az.later kq;rw [EE,hyM];refine iq O (xK (by exact inferInstance) O (gS aJ O ?_));intro A7 w5 aK;refine bG 1 0 aK O O O O O O O ?_;intro w6 aR;have aR:St w w6 ([Bx 24 1 A7 [.slice none 0 0],Bx 24 1 A4 [.slice none 0 0],Bx 24 1 A3 [.slice B m cB],Bx 24 1 A2 [.slice A n c]]++aE 32 2 none 0 0 [] []):=(aR.nil _).perm (lh (l₁:=[_]) (l₂:=[_,_,_,_]));refine ay O ?_;refine Cd.loop (α:=Ns) (fun s=> [(2,.pointer A2),(3,.pointer A3),(4,.pointer A4),(5,aiD (N:Int)),(6,aiD (M:Int)),(7,.pointer A7),(8,aiD (s.n:Int))]) (fun s w'=>St w w' ([Bx 24 1 A7 [.slice s.B s.n s.c],Bx 24 1 A4 [.slice none 0 0],Bx 24 1 A3 [.slice B m cB],Bx 24 1 A2 [.slice A n c]]++aE 32 2 s.B s.n s.c s.rs s.xss)∧s.n≤n+m∧s.rs.length=s.n∧s.xss.length=s.n∧GM (N*M) s.xss) (fun s=>n+m - s.n) ⟨0,0,none,0,0,[],[]⟩ ⟨O,O,O,O,O,O,O,ae⟩ ⟨aR,aW _,O,O,fun p hp=> (nomatch hp)⟩ ?_;rintro⟨_,_,C,i,cC,iM,kZ⟩ e w7 ⟨aV,hi,bW,uP,hz⟩;dsimp only at aV hi bW uP hz⊢;refine aQ O (aH (aV.rd 3 O) O O O O inferInstance (aM (aV.rd 3 O) O O O O O (aa.len O O (aH (aV.rd 2 O) O O O O inferInstance (aM (aV.rd 2 O) O O O O O ?_)))));refine aa.len O O (aa.add O O O (by omega) (ay O ?_));refine aB _ O (fun h1=>?_) (fun h1=>?_)
 ·refine av O (jl aV O ?_);intro A9 w8 bA;refine ay O ?_;refine Cd.loop (α:=Nat×aiC×Nat×List Int) (fun s=> [(2,.pointer A2),(3,.pointer A3),(4,.pointer A4),(5,aiD (N:Int)),(6,aiD (M:Int)),(7,.pointer A7),(8,aiD (i:Int)),(9,.slice s.2.1 s.1 s.2.2.1),(10,aiD (s.1:Int))]) (fun s w'=>St w w' (ah 2 s.2.1 s.1 s.2.2.1 s.2.2.2::([Bx 24 1 A7 [.slice C i cC],Bx 24 1 A4 [.slice none 0 0],Bx 24 1 A3 [.slice B m cB],Bx 24 1 A2 [.slice A n c]]++aE 32 2 C i cC iM kZ))∧s.1≤N*M∧s.2.2.2.length=s.1∧∀x∈s.2.2.2,0≤x∧x< ((N*M:Nat):Int)) (fun s=>N*M - s.1) (0,A9,0,[]) ⟨O,O,O,O,O,O,O,O,O,ae⟩ ⟨bA,aW _,O,fun x hx=> (nomatch hx)⟩ ?_;rintro⟨f,A9,c9,acc⟩ e w9 ⟨aS,hf,mn,yc⟩;dsimp only at aS hf mn yc⊢;have ZA:(N:Int)* (M:Int)=((N*M:Nat):Int):=(Int.natCast_mul N M).symm;refine aQ O (aa.mul O O O (by omega) ?_);rw [ZA];refine ay O ?_;refine aB _ O (fun h2=>?_) (fun h2=>?_)
  ·have Co:0≤(f:Int) / (M:Int):=Int.ediv_nonneg (by omega) (by omega);have RF:(f:Int) / (M:Int)< (N:Int):=Int.ediv_lt_of_lt_mul (by omega) (by omega);have qw:=Int.emod_nonneg (f:Int) (b:=(M:Int)) (by omega);have kG:=Int.emod_lt_of_pos (f:Int) (b:=(M:Int)) (by omega);have J6:=aS.bF hX;have Ka:=aS.bF hY;refine av O (aH (aS.rd 4 O) O O O O inferInstance (aM (aS.rd 4 O) O O O O O ?_));refine aa.len O O (ay O ?_);refine aB _ O (fun h3=>?_) (fun h3=>?_)
   ·have cj:=J6.at_ (i:=(i:Int)) (by omega) (by omega);have rA:=hx.at_ (i:=i) (by omega);have iD:(rg rs (i:Int)).n=N:=by rw [←cj.1,rA.1]
    have hv:=rA.gi Co RF;have om:=NP (N:=(N:Int)) (M:=(M:Int)) hv ⟨qw,kG⟩ P9;generalize hV:gi (gl xss (i:Int)) ((f:Int) / (M:Int))=v at hv om;refine iU [18] [yS (A9) (f) (c9),yP (aq (A2) 0),yS (A) (n) (c),yI ((i:Int)),yP (aq (A) ((i:Int)).toNat),yS ((rg (rs) ((i:Int))).a) ((rg (rs) ((i:Int))).n) ((rg (rs) ((i:Int))).c),yI ((f:Int)),yI ((M:Int)),yI ((f:Int) / (M:Int)),yP (aq ((rg (rs) ((i:Int))).a) ((f:Int) / (M:Int)).toNat),yI (v),yI ((M:Int)),yI (v* (M:Int)),yI ((f:Int)),yI ((M:Int)),yI ((f:Int)% (M:Int)),yI ((v* (M:Int))+ ((f:Int)% (M:Int))),.pr (fun v' w'=>∃qK,v'= .slice qK 1 1∧St w w' (ah 2 qK 1 1 [v* (M:Int)+ (f:Int)% (M:Int)]::ah 2 A9 f c9 acc::([Bx 24 1 A7 [.slice C i cC],Bx 24 1 A4 [.slice none 0 0],Bx 24 1 A3 [.slice B m cB],Bx 24 1 A2 [.slice A n c]]++aE 32 2 C i cC iM kZ))),.pr (fun v' w'=>∃dt eF,v'= .slice dt (f+1) eF∧St w w' (ah 2 dt (f+1) eF (acc++ [v* (M:Int)+ (f:Int)% (M:Int)])::([Bx 24 1 A7 [.slice C i cC],Bx 24 1 A4 [.slice none 0 0],Bx 24 1 A3 [.slice B m cB],Bx 24 1 A2 [.slice A n c]]++aE 32 2 C i cC iM kZ))),.pr (fun v' w'=>∃dt eF,v'= .slice dt (f+1) eF∧St w w' (ah 2 dt (f+1) eF (acc++ [v* (M:Int)+ (f:Int)% (M:Int)])::([Bx 24 1 A7 [.slice C i cC],Bx 24 1 A4 [.slice none 0 0],Bx 24 1 A3 [.slice B m cB],Bx 24 1 A2 [.slice A n c]]++aE 32 2 C i cC iM kZ)))] (by kernel_rfl) (by kernel_rfl) (ly (ly (ly (ly (ly (ly (ly (ly (ly (ly (ly (ly (ly (ly (ly (ly (ly (bV.2 ⟨Ye.b9 (fun v w w' h hb=>by obtain⟨nK,hv,h1⟩:=h;exact⟨nK,hv,h1.later hb⟩),(bV.2 ⟨Ye.b9 (fun v w w' h hb=>by obtain⟨dt,eF,hv,h1⟩:=h;exact⟨dt,eF,hv,h1.later hb⟩),(bV.2 ⟨Ye.b9 (fun v w w' h hb=>by obtain⟨dt,eF,hv,h1⟩:=h;exact⟨dt,eF,hv,h1.later hb⟩),(fun _ h=>by cases h)⟩)⟩)⟩)))))))))))))))))) ?_ ?_
    ·refine⟨?_,cP fun _ _ hb _ _ _=>aH ((aS.rd 4 O).below hb) O O O O inferInstance (aX O O),cP fun _ _ hb _ _ _=>aM ((aS.rd 4 O).below hb) O O O O O (aX O O),ba O,cP fun _ _ hb _ _ _=>aw (J6.top.later hb).2 O O O (by omega) (by omega) (aX O O),cP fun _ _ hb _ _ _=>bQ (J6.top.later hb) O (by omega) O O (aX O O),ba O,ba O,?_,cP fun _ _ hb _ _ _=>aw (cj.later hb).2 O O O (by omega) (by omega) (aX O O),?_,ba O,?_,ba O,ba O,?_,aP fun _ _=>aa.add O O O (by omega) (aX O O),?_,?_,?_,ae⟩
     ·intro e1 w1 cc dp bJ dz hp aL hq;show aa _ _ _ _ _ _ _;refine oO O (by exact aL 19 _ O (by kernel_rfl)) O (aa.n (fh O (by exact O)))
     ·intro e1 w1 cc dp bJ dz hp aL hq;show aa _ _ _ _ _ _ _;refine aa.quo O O O (by omega) (aa.n (fh O (by exact O)))
     ·refine cP fun e1 w1 hb hp aL hq=>?_
      refine aT (cj.later hb) O (by omega) O O (aa.n ?_);exact fh O (by exact ax (Value.int .i64) hV)
     ·intro e1 w1 cc dp bJ dz hp aL hq;show aa _ _ _ _ _ _ _;refine aa.mul O O O (by omega) (aa.n (fh O (by exact O)))
     ·intro e1 w1 cc dp bJ dz hp aL hq;show aa _ _ _ _ _ _ _;refine aa.rem O O O (by omega) (aa.n (fh O (by exact O)))
     ·refine cP fun e1 w1 hb hp aL hq=>?_
      refine dJ (St.refl _) O O O ?_;intro nK kh yw;refine aa.n ?_;exact fF.dn O yw.below ⟨nK,O,(aS.later hb).call yw⟩
     ·refine iY fun e1 w1 hb hp aL hq=>?_
      obtain⟨nK,sL,h1⟩:=(hp 17 _ _ (by kernel_rfl) rfl rfl (by kernel_rfl));refine eK 1 h1 O (h1.bc 0 O) O (by exact sL) O (by omega) (by omega) O ?_;intro dt eF H0 DX;refine aa.n ?_;exact eA.dn O ⟨dt,eF,O,DX.tail⟩
     refine dP 1 fun e1 w1 hp aL hq=>?_
     have dH:=hp 18 _ _ (by kernel_rfl) O O (by kernel_rfl);obtain⟨dt,eF,sL,h1⟩:=(hp 18 _ _ (by kernel_rfl) rfl rfl (by kernel_rfl));refine oO O (by exact sL) O (aa.n ?_);exact fF.dn O (Below.refl _ _) ⟨dt,eF,O,h1⟩
    intro u dB _ hu _ _;obtain⟨dt,eF,Ln,hT⟩:=hu 19 _ rfl (by kernel_rfl);refine iq O (aa.add O O O (by omega) (aF O (tQ ?_)));refine⟨(f+1,dt,eF,acc++ [v* (M:Int)+ (f:Int)% (M:Int)]),by show N*M - (f+1)<N*M - f;omega,⟨O,O,O,O,O,O,O,Ln,O,ae⟩,hT,by show f+1≤N*M;omega,by simp [mn],fun x jf=>?_⟩;rcases iG.1 jf with h | h
    ·exact yc x h
    rw [eT]at h;subst h;omega
   have cj:=Ka.at_ (i:=(i:Int) - (n:Int)) (by omega) (by omega);obtain⟨j,hj⟩:∃j:Nat,(i:Int) - (n:Int)=j:=⟨i - n,by omega⟩;have rA:=hy.at_ (i:=j) (by omega);rw [←hj]at rA;have iD:(rg rs' ((i:Int) - (n:Int))).n=M:=by rw [←cj.1,rA.1]
   have hv:=rA.gi qw kG;have om:=NP (N:=(N:Int)) (M:=(M:Int)) (v:=(f:Int) / (M:Int)) ⟨Co,RF⟩ hv P9;generalize hV:gi (gl oE ((i:Int) - (n:Int))) ((f:Int)% (M:Int))=v at hv om;refine iU [22] [yS (A9) (f) (c9),yI ((f:Int)),yI ((M:Int)),yI ((f:Int) / (M:Int)),yI ((M:Int)),yI ((f:Int) / (M:Int)* (M:Int)),yP (aq (A3) 0),yS (B) (m) (cB),yI ((i:Int)),yP (aq (A2) 0),yS (A) (n) (c),yI (((n:Nat):Int)),yI (((i:Int)) - (((n:Nat):Int))),yP (aq (B) (((i:Int)) - (((n:Nat):Int))).toNat),yS ((rg (rs') (((i:Int)) - (((n:Nat):Int)))).a) ((rg (rs') (((i:Int)) - (((n:Nat):Int)))).n) ((rg (rs') (((i:Int)) - (((n:Nat):Int)))).c),yI ((f:Int)),yI ((M:Int)),yI ((f:Int)% (M:Int)),yP (aq ((rg (rs') (((i:Int)) - (((n:Nat):Int)))).a) ((f:Int)% (M:Int)).toNat),yI (v),yI (((f:Int) / (M:Int)* (M:Int))+ (v)),.pr (fun v' w'=>∃qK,v'= .slice qK 1 1∧St w w' (ah 2 qK 1 1 [(f:Int) / (M:Int)* (M:Int)+v]::ah 2 A9 f c9 acc::([Bx 24 1 A7 [.slice C i cC],Bx 24 1 A4 [.slice none 0 0],Bx 24 1 A3 [.slice B m cB],Bx 24 1 A2 [.slice A n c]]++aE 32 2 C i cC iM kZ))),.pr (fun v' w'=>∃dt eF,v'= .slice dt (f+1) eF∧St w w' (ah 2 dt (f+1) eF (acc++ [(f:Int) / (M:Int)* (M:Int)+v])::([Bx 24 1 A7 [.slice C i cC],Bx 24 1 A4 [.slice none 0 0],Bx 24 1 A3 [.slice B m cB],Bx 24 1 A2 [.slice A n c]]++aE 32 2 C i cC iM kZ))),.pr (fun v' w'=>∃dt eF,v'= .slice dt (f+1) eF∧St w w' (ah 2 dt (f+1) eF (acc++ [(f:Int) / (M:Int)* (M:Int)+v])::([Bx 24 1 A7 [.slice C i cC],Bx 24 1 A4 [.slice none 0 0],Bx 24 1 A3 [.slice B m cB],Bx 24 1 A2 [.slice A n c]]++aE 32 2 C i cC iM kZ)))] (by kernel_rfl) (by kernel_rfl) (ly (ly (ly (ly (ly (ly (ly (ly (ly (ly (ly (ly (ly (ly (ly (ly (ly (ly (ly (ly (ly (bV.2 ⟨Ye.b9 (fun v w w' h hb=>by obtain⟨nK,hv,h1⟩:=h;exact⟨nK,hv,h1.later hb⟩),(bV.2 ⟨Ye.b9 (fun v w w' h hb=>by obtain⟨dt,eF,hv,h1⟩:=h;exact⟨dt,eF,hv,h1.later hb⟩),(bV.2 ⟨Ye.b9 (fun v w w' h hb=>by obtain⟨dt,eF,hv,h1⟩:=h;exact⟨dt,eF,hv,h1.later hb⟩),(fun _ h=>by cases h)⟩)⟩)⟩)))))))))))))))))))))) ?_ ?_
   ·refine⟨?_,ba O,ba O,?_,ba O,?_,cP fun _ _ hb _ _ _=>aH ((aS.rd 3 O).below hb) O O O O inferInstance (aX O O),cP fun _ _ hb _ _ _=>aM ((aS.rd 3 O).below hb) O O O O O (aX O O),ba O,cP fun _ _ hb _ _ _=>aH ((aS.rd 4 O).below hb) O O O O inferInstance (aX O O),cP fun _ _ hb _ _ _=>aM ((aS.rd 4 O).below hb) O O O O O (aX O O),aP fun _ _=>aa.len O O (aX O O),aP fun _ _=>aa.sub O O O (by omega) (aX O O),cP fun _ _ hb _ _ _=>aw (Ka.top.later hb).2 O O O (by omega) (by omega) (aX O O),cP fun _ _ hb _ _ _=>bQ (Ka.top.later hb) O (by omega) O O (aX O O),ba O,ba O,?_,cP fun _ _ hb _ _ _=>aw (cj.later hb).2 O O O (by omega) (by omega) (aX O O),?_,aP fun _ _=>aa.add O O O (by omega) (aX O O),?_,?_,?_,ae⟩
    ·intro e1 w1 cc dp bJ dz hp aL hq;show aa _ _ _ _ _ _ _;refine oO O (by exact aL 23 _ O (by kernel_rfl)) O (aa.n (fh O (by exact O)))
    ·intro e1 w1 cc dp bJ dz hp aL hq;show aa _ _ _ _ _ _ _;refine aa.quo O O O (by omega) (aa.n (fh O (by exact O)))
    ·intro e1 w1 cc dp bJ dz hp aL hq;show aa _ _ _ _ _ _ _;refine aa.mul O O O (by omega) (aa.n (fh O (by exact O)))
    ·intro e1 w1 cc dp bJ dz hp aL hq;show aa _ _ _ _ _ _ _;refine aa.rem O O O (by omega) (aa.n (fh O (by exact O)))
    ·refine cP fun e1 w1 hb hp aL hq=>?_
     refine aT (cj.later hb) O (by omega) O O (aa.n ?_);exact fh O (by exact ax (Value.int .i64) hV)
    ·refine cP fun e1 w1 hb hp aL hq=>?_
     refine dJ (St.refl _) O O O ?_;intro nK kh yw;refine aa.n ?_;exact fF.dn O yw.below ⟨nK,O,(aS.later hb).call yw⟩
    ·refine iY fun e1 w1 hb hp aL hq=>?_
     obtain⟨nK,sL,h1⟩:=(hp 21 _ _ (by kernel_rfl) rfl rfl (by kernel_rfl));refine eK 1 h1 O (h1.bc 0 O) O (by exact sL) O (by omega) (by omega) O ?_;intro dt eF H0 DX;refine aa.n ?_;exact eA.dn O ⟨dt,eF,O,DX.tail⟩
    refine dP 1 fun e1 w1 hp aL hq=>?_
    have dH:=hp 22 _ _ (by kernel_rfl) O O (by kernel_rfl);obtain⟨dt,eF,sL,h1⟩:=(hp 22 _ _ (by kernel_rfl) rfl rfl (by kernel_rfl));refine oO O (by exact sL) O (aa.n ?_);exact fF.dn O (Below.refl _ _) ⟨dt,eF,O,h1⟩
   intro u dB _ hu _ _;obtain⟨dt,eF,Ln,hT⟩:=hu 23 _ rfl (by kernel_rfl);refine iq O (aa.add O O O (by omega) (aF O (tQ ?_)));refine⟨(f+1,dt,eF,acc++ [(f:Int) / (M:Int)* (M:Int)+v]),by show N*M - (f+1)<N*M - f;omega,⟨O,O,O,O,O,O,O,Ln,O,ae⟩,hT,by show f+1≤N*M;omega,by simp [mn],fun x jf=>?_⟩;rcases iG.1 jf with h | h
   ·exact yc x h
   rw [eT]at h;subst h;omega
  have yg:f=N*M:=by omega
  refine aY O (aZ (cL O ?_));refine aH (aS.rd 1 O) O O O O inferInstance (aM (aS.rd 1 O) O O O O O (ad O (nj aS O O O ?_)));intro U3 dB bD;refine oM 6 bD O (bD.il 0 O) O O O (by omega) (by omega) O ?_;intro rR sb eu du;have du:St w eu (ah 2 A9 f c9 acc::Bx 24 1 A7 [.slice C i cC]::Bx 24 1 A4 [.slice none 0 0]::Bx 24 1 A3 [.slice B m cB]::Bx 24 1 A2 [.slice A n c]::bU 32 rR (i+1) sb (iM++ [⟨A9,f,c9⟩])::cS 2 iM kZ):=du.tail;refine aH (du.rd 1 O) O O O O inferInstance (jS 1 du O O O O O ?_);intro gm eG;have eG:St w gm (ah 2 A9 f c9 acc::Bx 24 1 A7 [.slice rR (i+1) sb]::Bx 24 1 A4 [.slice none 0 0]::Bx 24 1 A3 [.slice B m cB]::Bx 24 1 A2 [.slice A n c]::bU 32 rR (i+1) sb (iM++ [⟨A9,f,c9⟩])::cS 2 iM kZ):=eG;refine ad O (aa.add O O O (by omega) (aF O (tQ ?_)));refine⟨⟨0,0,rR,i+1,sb,iM++ [⟨A9,f,c9⟩],kZ++ [acc]⟩,by show n+m - (i+1)<n+m - i;omega,⟨O,O,O,O,O,O,O,ae⟩,?_,by show i+1≤n+m;omega,by simp [bW],by simp [uP],fun p hp=>?_⟩
  ·show St w gm ([_,_,_,_]++bU 32 rR (i+1) sb (iM++ [⟨A9,f,c9⟩])::cS 2 (iM++ [⟨A9,f,c9⟩]) (kZ++ [acc]));rw [CU (by omega)];refine eG.perm ?_;exact lh (l₁:=[_]) (l₂:=_::_::_::_::bU 32 rR (i+1) sb (iM++ [⟨A9,f,c9⟩])::cS 2 iM kZ)
  rcases iG.1 hp with h | h
  ·exact hz p h
  rw [eT]at h;subst h;exact⟨by omega,yc⟩
 have qp:i=n+m:=by omega
 subst qp;refine aY O (aZ (cL O ?_));refine aa.bq 0 (aV.rd 0 O) O O O (bG 1 1 aV O O O O O O O ?_);intro w8 bA;refine bh O (kX O (bA.rd 1 O) ?_);exact⟨C,cC,iM,kZ,O,bW,uP,hz,(((bA.sub ((fJ _).cons _)).sub ((fJ _).cons _)).sub ((fJ _).cons _)).sub ((fJ _).cons _)⟩
theorem NT{q e c:Nat}(h:q<4*e)(hc:c<4)(he:e≤1000000):0≤bits .xor .i64 (q:Int) (c:Int)∧bits .xor .i64 (q:Int) (c:Int)< ((4*e:Nat):Int):=by
 have h1:(q^^^c) / 4=q / 4:=by
  have h2:(q^^^c) / 2^2=q / 2^2^^^c / 2^2:=Nat.xor_div_two_pow;have h3:c / 2^2=0:=Nat.div_eq_of_lt (by simpa using hc);rw [h3,Nat.xor_zero]at h2;exact h2
 have h4:q^^^c<4*e:=by omega
 have e1:bits .xor .i64 (q:Int) (c:Int)=IntKind.i64.wrap ((BitVec.ofInt 64 (q:Int)^^^BitVec.ofInt 64 (c:Int)).toNat:Int):=O;have e2:(BitVec.ofInt 64 (q:Int)^^^BitVec.ofInt 64 (c:Int)).toNat=q^^^c:=by
  rw [BitVec.toNat_xor,BitVec.ofInt_natCast,BitVec.ofInt_natCast,BitVec.toNat_ofNat,BitVec.toNat_ofNat,Nat.mod_eq_of_lt (by omega),Nat.mod_eq_of_lt (by omega)]
 rw [e1,e2,IntWalk.i64_in _ (by omega)];omega
section
variable {P:Program} {N:Nat} {ops:Array Oper} {K:Env→World→Prop} {rest:List Oper} {e:Env} {w0 w w':World} {ks:List Ck} {d:Nat} {ty:TypeId} {pos:String} {af:Array Edge} {x y:Operand} {xt yt:TypeId} {i j:Int}
theorem Np(hx:ev e x=aiD i)(hy:ev e y=aiD j)(hb:Nat.blt d N=true)(hK:aa P N ops K rest (a7 e d (aiD (bits .xor .i64 i j))) w):
 aa P N ops K (⟨some d,.binOp .xor xt x y yt,ty,pos,af,none⟩::rest) e w:=
 .val (by simp only [execOp,hx,hy,eqGuard,binOp,intBits_xor];simp) hb hK
theorem VC{t el:TypeId}{b:Nat}[bB P t (.slice el)][bp P el (.slice none 0 0) 1 b]{x0 x1 x2:Operand}{s0 s1 s2:aG}(hS:St w0 w ks)(h0:ev e x0=s0.v)(h1:ev e x1=s1.v)(h2:ev e x2=s2.v)(hb:Nat.blt d N=true)(hK:∀A w',St w0 w' (bU el A 3 3 [s0,s1,s2]::ks)→aa P N ops K rest (a7 e d (.slice A 3 3)) w'):aa P N ops K (⟨some d,.buildSlice t 3 #[(0,x0),(1,x1),(2,x2)],ty,pos,af,none⟩::rest) e w:=by
 obtain⟨inf,hi,fv,hs,iS⟩:=bp.get P el;have e0:(s0.v).cells= #[s0.v]:=O;have e1:(s1.v).cells= #[s1.v]:=O;have e2:(s2.v).cells= #[s2.v]:=O;have hz:(Value.slice none 0 0).cells= #[Value.slice none 0 0]:=O;refine .val (w':=w.alloc (.cells #[s0.v,s1.v,s2.v] el)) ?_ hb (hK _ _ (hS.alloc [s0.v,s1.v,s2.v] el (by simp [maxLen]) O));simp [execOp,Instr.buildSlice,run_underlying (bB.out (P:=P) (t:=t)),sizeOf,typeInfo,zeroValue,hi,hs,fv,hz,Instr.fill,newRow,h0,e0,h1,e1,h2,e2,Dh,ng]
end
theorem acM{w0 w:World}{ks:List Ck}(ix:Nat){As:aiC}{k:Ck}(ed:Nat)(hS:St w0 w ks)(hk:ks[ix]?=some k)(hK:fz w0 As k)(he:1≤ed∧ed≤100000):
 aA prog 236 [.pointer As,aiD (ed:Int)] w (fun v w'=>∃A c rs xss N k',v= .agg #[.slice A 3 c]∧rs.length=3∧xss.length=3∧GM N xss∧(1≤N∧N≤4*ed)∧fz w0 As k'∧St w0 w' (aE 32 2 A 3 c rs xss++ks.set ix k')):=by
 refine bk func236 O ntmps236 O (qH O O) (aQ O (gS hS O ?_));intro A4 w1 ao;refine ad O (aa.mul O O O (by omega) (ad O ?_));refine jl ao O ?_;intro nK w2 ar;refine jl ar O ?_;intro dt w3 az;have hn:(4:Int)* (ed:Int)=((4*ed:Nat):Int):=by omega
 rw [hn];have az:St w0 w3 (ah 2 dt 0 0 []::ah 2 nK 0 0 []::Bx 24 1 A4 [.slice none 0 0]::ks):=az;refine ad O (aa.call (SB (ix+3) (4*ed) az (by exact hk) hK (by omega)) O O O ?_);rintro _ w4 ⟨Am,cm,ps,k',rfl,jZ,og,aJ⟩;have aJ:St w0 w4 (ah 2 Am (4*ed) cm ps::ah 2 dt 0 0 []::ah 2 nK 0 0 []::Bx 24 1 A4 [.slice none 0 0]::ks.set ix k'):=aJ;generalize hN:4*ed=n at*;refine ay O ?_;refine Cd.loop (α:=Nat×aiC×Nat×List Int×aiC×Nat×List Int) (fun s=> [(4,.pointer A4),(5,aiD (n:Int)),(6,.slice s.2.1 s.1 s.2.2.1),(7,.slice s.2.2.2.2.1 s.1 s.2.2.2.2.2.1),(8,.slice Am n cm),(9,aiD (s.1:Int))]) (fun s w'=>St w0 w' (ah 2 Am n cm ps::ah 2 s.2.2.2.2.1 s.1 s.2.2.2.2.2.1 s.2.2.2.2.2.2::ah 2 s.2.1 s.1 s.2.2.1 s.2.2.2.1::Bx 24 1 A4 [.slice none 0 0]::ks.set ix k')∧s.1≤n∧s.2.2.2.1.length=s.1∧s.2.2.2.2.2.2.length=s.1∧(∀x∈s.2.2.2.1,0≤x∧x< (n:Int))∧(∀x∈s.2.2.2.2.2.2,0≤x∧x< (n:Int))) (fun s=>n - s.1) (0,nK,0,[],dt,0,[]) ⟨O,O,O,O,O,O,ae⟩ ⟨aJ,aW _,O,O,fun x hx=> (nomatch hx),fun x hx=> (nomatch hx)⟩ ?_;rintro⟨f,A6,c6,zs,A7,c7,ts⟩ e w5 ⟨aK,hf,uP,Lf,hz,ht⟩;dsimp only at aK hf uP Lf hz ht⊢;refine bK O ?_;refine aB _ O (fun h1=>?_) (fun h1=>?_)
 ·have jg:=NT (q:=f) (e:=ed) (c:=1) (by omega) (by decide) (by omega);have mS:=NT (q:=f) (e:=ed) (c:=2) (by omega) (by decide) (by omega);rw [hN]at jg mS;refine av O (Np (j:=((1:Nat):Int)) O O O ?_);generalize bits .xor .i64 (f:Int) ((1:Nat):Int)=b1 at jg⊢;refine dJ aK O O O ?_;intro u9 w6 aR;refine eK 3 aR O (aR.bc 0 O) O O O (by omega) (by omega) O ?_;intro MW N4 w7 aV;have aV:St w0 w7 (ah 2 Am n cm ps::ah 2 A7 f c7 ts::ah 2 MW (f+1) N4 (zs++ [b1])::Bx 24 1 A4 [.slice none 0 0]::ks.set ix k'):=aV.tail;refine ad O (Np (j:=((2:Nat):Int)) O O O ?_);generalize bits .xor .i64 (f:Int) ((2:Nat):Int)=b2 at mS⊢;refine dJ aV O O O ?_;intro da w8 bA;refine eK 2 bA O (bA.bc 0 O) O O O (by omega) (by omega) O ?_;intro sV ug w9 aS;refine ad O (aa.add O O O (by omega) (aF O (tQ ?_)));refine⟨(f+1,MW,N4,zs++ [b1],sV,ug,ts++ [b2]),by show n - (f+1)<n - f;omega,⟨O,O,O,O,O,O,ae⟩,aS.tail,by show f+1≤n;omega,by simp [uP],by simp [Lf],fun x hx=>?_,fun x hx=>?_⟩
  ·rcases iG.1 hx with h | h
   ·exact hz x h
   rw [eT]at h;subst h;exact jg
  rcases iG.1 hx with h | h
  ·exact ht x h
  rw [eT]at h;subst h;exact mS
 have l5:f=n:=by omega
 subst l5;refine aY O (aZ (cL O ?_));refine VC (s0:=⟨A6,f,c6⟩) (s1:=⟨Am,f,cm⟩) (s2:=⟨A7,f,c7⟩) aK O O O O ?_;intro a6 w6 aR;have aR:St w0 w6 (aE 32 2 a6 3 3 [⟨A6,f,c6⟩,⟨Am,f,cm⟩,⟨A7,f,c7⟩] [zs,ps,ts]++ (Bx 24 1 A4 [.slice none 0 0]::ks.set ix k')):=aR.perm (List.Perm.cons _ (((List.Perm.cons _ (List.Perm.swap _ _ _)).trans (List.Perm.swap _ _ _)).trans (List.Perm.cons _ (List.Perm.refl _))));have hG:GM f [zs,ps,ts]:=fun q hq=>by
  rcases iW.1 hq with rfl | hq
  ·exact⟨uP,hz⟩
  rcases iW.1 hq with rfl | hq
  ·exact jZ
  rw [eT]at hq;subst hq;exact⟨Lf,ht⟩
 have ny:br w6 a6 3 [⟨A6,f,c6⟩,⟨Am,f,cm⟩,⟨A7,f,c7⟩] [zs,ps,ts]:=St.gC aR O;obtain⟨o1,o2,_⟩:=vF (N:=f) (xss:=[zs,ps,ts]) (pt:=0) hG.sys (Int.le_refl _) (by omega);have Ru:=o1.len;have aaX:1≤(fS f [zs,ps,ts] 0).length:=by
  have:=o2.length_le;simpa using this
 have Ry:=o1.range;refine ad O ?_;refine aa.call (LC a6 3 3 _ _ f 0 _ ny (by decide) hG.sys (by omega) (Int.le_refl _) (by omega)) O O O ?_;rintro _ w7 ⟨df,gq,rfl,abl⟩;have aV:=aR.call abl;generalize hO:fS f [zs,ps,ts] 0=ord at*;have aV:St w0 w7 (ah 2 df ord.length gq ord::(aE 32 2 a6 3 3 [⟨A6,f,c6⟩,⟨Am,f,cm⟩,⟨A7,f,c7⟩] [zs,ps,ts]++ (Bx 24 1 A4 [.slice none 0 0]::ks.set ix k'))):=aV;refine ad O (vT f aV O O (by omega) ?_);intro eJ w8 bA;refine ay O ?_;refine Cd.loop (α:=Nat×List Int) (fun s=> [(4,.pointer A4),(5,aiD (f:Int)),(10,.slice a6 3 3),(11,.slice df ord.length gq),(12,.slice eJ f f),(13,aiD (s.1:Int))]) (fun s w'=>St w0 w' (ah 2 eJ f f s.2::ah 2 df ord.length gq ord::(aE 32 2 a6 3 3 [⟨A6,f,c6⟩,⟨Am,f,cm⟩,⟨A7,f,c7⟩] [zs,ps,ts]++ (Bx 24 1 A4 [.slice none 0 0]::ks.set ix k')))∧s.1≤ord.length∧s.2.length=f∧∀x∈s.2,0≤x∧x< (ord.length:Int)) (fun s=>ord.length - s.1) (0,List.replicate f 0) ⟨rfl,rfl,rfl,rfl,rfl,rfl,ae⟩ ⟨bA,aW _,by simp,fun x hx=>by obtain⟨h0,rfl⟩:=List.mem_replicate.1 hx;omega⟩ ?_;rintro⟨i,num⟩ e w9 ⟨aS,hi,ig,Eo⟩;dsimp only at aS hi ig Eo⊢;refine aQ O (aa.len O O (ay O ?_));refine aB _ O (fun h2=>?_) (fun h2=>?_)
 ·have zr:=aS.bc 1 O;have JX:=aS.bc 0 O;have yp:=Ry (gi ord (i:Int)) (by rw [bX (by omega)];exact dQ _);refine av O (aw zr.2 O O O (by omega) (by omega) (aT zr O (by omega) O O (ad O (aw JX.2 O O O (by omega) (by omega) (jR 0 aS O O O (by omega) ?_)))));intro dB bD;refine ad O (aa.add O O O (by omega) (aF O (tQ ?_)));refine⟨(i+1,num.set (gi ord (i:Int)).toNat (i:Int)),by show ord.length - (i+1)<ord.length - i;omega,⟨O,O,O,O,O,O,ae⟩,bD,by show i+1≤ord.length;omega,by rw [iw];exact ig,fun x hx=>?_⟩;rcases List.mem_or_eq_of_mem_set hx with hx | rfl
  ·exact Eo x hx
  omega
 have zr:=aS.bc 1 O;have JX:=aS.bc 0 O;have Zy:br w9 a6 3 [⟨A6,f,c6⟩,⟨Am,f,cm⟩,⟨A7,f,c7⟩] [zs,ps,ts]:=St.gC aS.tail.tail O;have G8:∀x:Int,0≤x→x<f→0≤gi num x∧gi num x< (ord.length:Int):=fun x h0 h1=>by
  obtain⟨q,rfl⟩:∃q:Nat,x=q:=⟨x.toNat,by omega⟩;rw [bX (by omega)];exact Eo _ (dQ _)
 refine aY O (aZ (cL O ?_));refine xK (by exact inferInstance) O (gS (St.refl w9) O ?_);intro fe dB tx;refine bG 1 0 tx O O O O O O O ?_;intro eu uz;have uz:St w9 eu ([Bx 24 1 fe [.slice none 0 0]]++aE 32 2 none 0 0 [] []):=(uz.nil _).perm (lh (l₁:=[_]) (l₂:=[_]));refine ay O ?_;refine Cd.loop (α:=Ns) (fun s=> [(4,.pointer A4),(5,aiD (f:Int)),(10,.slice a6 3 3),(11,.slice df ord.length gq),(12,.slice eJ f f),(14,.pointer fe),(15,aiD (s.n:Int))]) (fun s w'=>St w9 w' ([Bx 24 1 fe [.slice s.B s.n s.c]]++aE 32 2 s.B s.n s.c s.rs s.xss)∧s.n≤3∧s.rs.length=s.n∧s.xss.length=s.n∧GM ord.length s.xss) (fun s=>3 - s.n) ⟨0,0,none,0,0,[],[]⟩ ⟨O,O,O,O,O,O,O,ae⟩ ⟨uz,aW _,O,O,fun p hp=> (nomatch hp)⟩ ?_;rintro⟨_,_,C,q,cC,iM,kZ⟩ e gm ⟨BV,hq,bW,Lv,Lw⟩;dsimp only at BV hq bW Lv Lw⊢;refine bK O ?_;refine aB _ O (fun h3=>?_) (fun h3=>?_)
 ·refine av O (jl BV O ?_);intro gx dW JZ;refine ay O ?_;refine Cd.loop (α:=Nat×aiC×Nat×List Int) (fun s=> [(4,.pointer A4),(5,aiD (f:Int)),(10,.slice a6 3 3),(11,.slice df ord.length gq),(12,.slice eJ f f),(14,.pointer fe),(15,aiD (q:Int)),(16,.slice s.2.1 s.1 s.2.2.1),(17,aiD (s.1:Int))]) (fun s w'=>St w9 w' (ah 2 s.2.1 s.1 s.2.2.1 s.2.2.2::([Bx 24 1 fe [.slice C q cC]]++aE 32 2 C q cC iM kZ))∧s.1≤ord.length∧s.2.2.2.length=s.1∧∀x∈s.2.2.2,0≤x∧x< (ord.length:Int)) (fun s=>ord.length - s.1) (0,gx,0,[]) ⟨O,O,O,O,O,O,O,O,O,ae⟩ ⟨JZ,aW _,O,fun x hx=> (nomatch hx)⟩ ?_;rintro⟨j,gx,qS,acc⟩ e me ⟨l4,hj,mn,yc⟩;dsimp only at l4 hj mn yc⊢;refine aQ O (aa.len O O (ay O ?_));refine aB _ O (fun h4=>?_) (fun h4=>?_)
  ·have Qb:=l4.eY zr;have P8:=l4.eY JX;have JS:=l4.bF Zy;have cj:=JS.at_ (i:=(q:Int)) (by omega) (by omega);have rA:=hG.at_ (i:=q) (by show q<3;omega);have iD:(rg [⟨A6,f,c6⟩,⟨Am,f,cm⟩,⟨A7,f,c7⟩] (q:Int)).n=f:=by rw [←cj.1,rA.1]
   have yp:=Ry (gi ord (j:Int)) (by rw [bX (by omega)];exact dQ _);have pT:=rA.gi yp.1 yp.2;have Rr:=G8 _ pT.1 pT.2;generalize hV:gi (gl [zs,ps,ts] (q:Int)) (gi ord (j:Int))=mv at pT Rr;refine bP O ?_;refine iU [15] [yS (gx) (j) (qS),yS (eJ) (f) (f),yS (a6) (3) (3),yI ((q:Int)),yP (aq (a6) ((q:Int)).toNat),yS ((rg ([⟨A6,f,c6⟩,⟨Am,f,cm⟩,⟨A7,f,c7⟩]) ((q:Int))).a) ((rg ([⟨A6,f,c6⟩,⟨Am,f,cm⟩,⟨A7,f,c7⟩]) ((q:Int))).n) ((rg ([⟨A6,f,c6⟩,⟨Am,f,cm⟩,⟨A7,f,c7⟩]) ((q:Int))).c),yS (df) (ord.length) (gq),yI ((j:Int)),yP (aq (df) ((j:Int)).toNat),yI (gi (ord) ((j:Int))),yP (aq (rg [⟨A6,f,c6⟩,⟨Am,f,cm⟩,⟨A7,f,c7⟩] (q:Int)).a (gi ord (j:Int)).toNat),yI (mv),yP (aq (eJ) (mv).toNat),yI (gi (num) (mv)),.pr (fun v' w'=>∃qK,v'= .slice qK 1 1∧St w9 w' (ah 2 qK 1 1 [gi num mv]::ah 2 gx j qS acc::([Bx 24 1 fe [.slice C q cC]]++aE 32 2 C q cC iM kZ))),.pr (fun v' w'=>∃dt eF,v'= .slice dt (j+1) eF∧St w9 w' (ah 2 dt (j+1) eF (acc++ [gi num mv])::([Bx 24 1 fe [.slice C q cC]]++aE 32 2 C q cC iM kZ))),.pr (fun v' w'=>∃dt eF,v'= .slice dt (j+1) eF∧St w9 w' (ah 2 dt (j+1) eF (acc++ [gi num mv])::([Bx 24 1 fe [.slice C q cC]]++aE 32 2 C q cC iM kZ)))] (by kernel_rfl) (by kernel_rfl) (ly (ly (ly (ly (ly (ly (ly (ly (ly (ly (ly (ly (ly (ly (bV.2 ⟨Ye.b9 (fun v w w' h hb=>by obtain⟨nK,hv,h1⟩:=h;exact⟨nK,hv,h1.later hb⟩),(bV.2 ⟨Ye.b9 (fun v w w' h hb=>by obtain⟨dt,eF,hv,h1⟩:=h;exact⟨dt,eF,hv,h1.later hb⟩),(bV.2 ⟨Ye.b9 (fun v w w' h hb=>by obtain⟨dt,eF,hv,h1⟩:=h;exact⟨dt,eF,hv,h1.later hb⟩),(fun _ h=>by cases h)⟩)⟩)⟩))))))))))))))) ?_ ?_
   ·refine⟨?_,ba O,ba O,ba O,cP fun _ _ hb _ _ _=>aw (JS.top.later hb).2 O O O (by omega) (by omega) (aX O O),cP fun _ _ hb _ _ _=>bQ (JS.top.later hb) O (by omega) O O (aX O O),ba O,ba O,cP fun _ _ hb _ _ _=>aw (Qb.later hb).2 O O O (by omega) (by omega) (aX O O),cP fun _ _ hb _ _ _=>aT (Qb.later hb) O (by omega) O O (aX O O),?_,?_,cP fun _ _ hb _ _ _=>aw (P8.later hb).2 O O O (by omega) (by omega) (aX O O),cP fun _ _ hb _ _ _=>aT (P8.later hb) O (by omega) O O (aX O O),?_,?_,?_,ae⟩
    ·intro e1 w1 cc dp bJ dz hp aL hq;show aa _ _ _ _ _ _ _;refine oO O (by exact aL 16 _ O (by kernel_rfl)) O (aa.n (fh O (by exact O)))
    ·refine cP fun e1 w1 hb hp aL hq=>?_
     refine aw (cj.later hb).2 O O O (by omega) (by omega) (aa.n (fh O (by exact O)))
    ·refine cP fun e1 w1 hb hp aL hq=>?_
     refine aT (cj.later hb) O (by omega) O O (aa.n ?_);exact fh O (by exact ax (Value.int .i64) hV)
    ·refine cP fun e1 w1 hb hp aL hq=>?_
     refine dJ (St.refl _) O O O ?_;intro nK kh yw;refine aa.n ?_;exact fF.dn O yw.below ⟨nK,O,(l4.later hb).call yw⟩
    ·refine iY fun e1 w1 hb hp aL hq=>?_
     obtain⟨nK,sL,h1⟩:=(hp 14 _ _ (by kernel_rfl) rfl rfl (by kernel_rfl));refine eK 1 h1 O (h1.bc 0 O) O (by exact sL) O (by omega) (by omega) O ?_;intro dt eF H0 DX;refine aa.n ?_;exact eA.dn O ⟨dt,eF,O,DX.tail⟩
    refine dP 1 fun e1 w1 hp aL hq=>?_
    have dH:=hp 15 _ _ (by kernel_rfl) O O (by kernel_rfl);obtain⟨dt,eF,sL,h1⟩:=(hp 15 _ _ (by kernel_rfl) rfl rfl (by kernel_rfl));refine oO O (by exact sL) O (aa.n ?_);exact fF.dn O (Below.refl _ _) ⟨dt,eF,O,h1⟩
   intro u mG _ hu _ _;obtain⟨dt,eF,abv,hT⟩:=hu 16 _ rfl (by kernel_rfl);refine iq O (aa.add O O O (by omega) (aF O (tQ ?_)));refine⟨(j+1,dt,eF,acc++ [gi num mv]),by show ord.length - (j+1)<ord.length - j;omega,⟨O,O,O,O,O,O,O,abv,O,ae⟩,hT,by show j+1≤ord.length;omega,by simp [mn],fun x jf=>?_⟩;rcases iG.1 jf with h | h
   ·exact yc x h
   rw [eT]at h;subst h;exact Rr
  have zI:j=ord.length:=by omega
  refine aY O (aZ (cL O ?_));refine aH (l4.rd 1 O) O O O O inferInstance (aM (l4.rd 1 O) O O O O O (ad O (nj l4 O O O ?_)));intro U3 mG tz;refine oM 3 tz O (tz.il 0 O) O O O (by omega) (by omega) O ?_;intro rR sb rP vp;have vp:St w9 rP (ah 2 gx j qS acc::Bx 24 1 fe [.slice C q cC]::bU 32 rR (q+1) sb (iM++ [⟨gx,j,qS⟩])::cS 2 iM kZ):=vp.tail;refine aH (vp.rd 1 O) O O O O inferInstance (jS 1 vp O O O O O ?_);intro mH uA;have uA:St w9 mH (ah 2 gx j qS acc::Bx 24 1 fe [.slice rR (q+1) sb]::bU 32 rR (q+1) sb (iM++ [⟨gx,j,qS⟩])::cS 2 iM kZ):=uA;refine ad O (aa.add O O O (by omega) (aF O (tQ ?_)));refine⟨⟨0,0,rR,q+1,sb,iM++ [⟨gx,j,qS⟩],kZ++ [acc]⟩,by show 3 - (q+1)<3 - q;omega,⟨O,O,O,O,O,O,O,ae⟩,?_,by show q+1≤3;omega,by simp [bW],by simp [Lv],fun p hp=>?_⟩
  ·show St w9 mH ([_]++bU 32 rR (q+1) sb (iM++ [⟨gx,j,qS⟩])::cS 2 (iM++ [⟨gx,j,qS⟩]) (kZ++ [acc]));rw [CU (by omega)];refine uA.perm ?_;exact lh (l₁:=[_]) (l₂:=_::bU 32 rR (q+1) sb (iM++ [⟨gx,j,qS⟩])::cS 2 iM kZ)
  rcases iG.1 hp with h | h
  ·exact Lw p h
  rw [eT]at h;subst h;exact⟨by omega,yc⟩
 have Cp:q=3:=by omega
 subst Cp;have hF:=aS.call BV;have od:St w0 gm (Bx 24 1 fe [.slice C 3 cC]::(aE 32 2 C 3 cC iM kZ++ (Bx 24 1 A4 [.slice none 0 0]::ks.set ix k'))):=
  hF.sub (List.Sublist.cons_cons _ (List.Sublist.append_left ((gR _ _).cons _ |>.cons _) _))
 have PO:St w0 gm (Bx 24 1 fe [.slice C 3 cC]::Bx 24 1 A4 [.slice none 0 0]::(aE 32 2 C 3 cC iM kZ++ks.set ix k')):=od.perm (List.Perm.cons _ iH);refine aY O (aZ (cL O ?_));refine aa.bq 0 (PO.rd 0 O) O O O (bG 1 1 PO O O O O O O O ?_);intro dW PQ;refine bh O (kX O (PQ.rd 1 O) ?_);exact⟨C,cC,iM,kZ,ord.length,k',O,bW,Lv,Lw,⟨aaX,by omega⟩,og,(PQ.sub ((fJ _).cons _)).sub ((fJ _).cons _)⟩
theorem xu{a b a' b':Value}(h:a=a')(h':b=b'):[a,b]=[a',b']:=by rw [h,h']
theorem CN{Q:jm}{e:Env}{w:World}{F:List (Nat×Value)}(hM:Mt e F)(h:Q .normal (ext e F) w):Q .normal e w:=by rwa [x4 hM]at h
theorem Fg{w0 w:World}{ks:List Ck}(X:List Ck)(ix:Nat){As:aiC}{k:Ck}(n:Int)(hS:St w0 w (X++ks))(hk:ks[ix]?=some k)(hK:fz w0 As k):
 aA prog 135 [.pointer As,aiD n] w (fun v w'=>∃(r:Int) (k':Ck),v=aiD r∧(0≤r∧(1≤n→r<n)∧(n<1→r=0))∧fz w0 As k'∧St w0 w' (X++ks.set ix k')):=by
 have e:(X++ks)[X.length+ix]?=some k:=by
  rw [jQ (by omega),Nat.add_sub_cancel_left];exact hk
 have h:=tY (X.length+ix) n hS e hK;refine h.mono ?_;rintro v w' ⟨r,k',h1,h2,h3,h4⟩;rw [show(X++ks).set (X.length+ix) k'=X++ks.set ix k' from by rw [List.set_append,ag (by omega),Nat.add_sub_cancel_left]]at h4;exact⟨r,k',h1,h2,h3,h4⟩
def H3(w0:World)(ks:List Ck)(ix:Nat)(As:aiC)(v:Value)(w':World):Prop:=
 ∃(n N:Nat) (A:aiC) (c:Nat) (rs:List aG) (xss:aiB) (k':Ck),v= .agg #[.slice A n c]∧(1≤n∧n≤5)∧(1≤N∧N≤20000)∧rs.length=n∧xss.length=n∧GM N xss∧fz w0 As k'∧St w0 w' (aE 32 2 A n c rs xss++ks.set ix k')
structure Fo where
 n:Nat
 N:Nat
 A:aiC
 c:Nat
 rs:List aG
 xss:aiB
 k:Ck
abbrev vi(A4 A5 A6 Ar Ae:aiC)(vs:List Value)(X:List Ck):List Ck:=
 Bx 24 1 A6 vs::Bx 24 1 A5 [.slice Ar 1 1]::Bx 24 1 A4 [.slice none 0 0]::(aE 32 2 Ar 1 1 [⟨Ae,2,2⟩] [[1,0]]++X)
abbrev anyM(A4 A5 A6 Ar Ae:aiC)(vs:List Value)(ms X:List Ck):List Ck:=
 Bx 24 1 A6 vs::Bx 24 1 A5 [.slice Ar 1 1]::Bx 24 1 A4 [.slice none 0 0]::(ms++ (aE 32 2 Ar 1 1 [⟨Ae,2,2⟩] [[1,0]]++X))
theorem any_join{w0 w w':World}{A4 A5 A6 Ar Ae:aiC}{vs:List Value}{ms X:List Ck}(hS:St w0 w (vi A4 A5 A6 Ar Ae vs X))(hT:St w w' ms):St w0 w' (anyM A4 A5 A6 Ar Ae vs ms X):=(hS.call hT).perm ((iH (l₁:=ms)).trans (List.Perm.cons _ ((iH (l₁:=ms)).trans (List.Perm.cons _ (iH (l₁:=ms))))))
theorem Wo{w0 w':World}{A4 A5 A6 Ar Ae:aiC}{vs:List Value}{ms X:List Ck}(hS:St w0 w' (ms++vi A4 A5 A6 Ar Ae vs X)):St w0 w' (anyM A4 A5 A6 Ar Ae vs ms X):=
 hS.perm ((iH (l₁:=ms)).trans (List.Perm.cons _ ((iH (l₁:=ms)).trans (List.Perm.cons _ (iH (l₁:=ms))))))
theorem Bl{w0 w':World}{A4 A5 A6 Ar Ae:aiC}{vs:List Value}{ms X:List Ck}(hS:St w0 w' (anyM A4 A5 A6 Ar Ae vs ms X)):St w0 w' (vi A4 A5 A6 Ar Ae vs X):=
 hS.sub (List.Sublist.cons_cons _ (List.Sublist.cons_cons _ (List.Sublist.cons_cons _ (gR _ _))))
theorem MC{w0 w:World}{A4 A5 A6 Ar Ae:aiC}{vs:List Value}{ms ks:List Ck}(ix:Nat){As:aiC}{k:Ck}(n:Int)(hS:St w0 w (anyM A4 A5 A6 Ar Ae vs ms ks))(hk:ks[ix]?=some k)(hK:fz w0 As k):
 aA prog 135 [.pointer As,aiD n] w (fun v w'=>∃(r:Int) (k':Ck),v=aiD r∧(0≤r∧(1≤n→r<n)∧(n<1→r=0))∧fz w0 As k'∧St w0 w' (anyM A4 A5 A6 Ar Ae vs ms (ks.set ix k'))):=by
 have e:∀X,anyM A4 A5 A6 Ar Ae vs ms X=anyM A4 A5 A6 Ar Ae vs ms []++X:=fun X=>by simp [anyM]
 rw [e]at hS;refine(Fg _ ix n hS hk hK).mono ?_;rintro v w' ⟨r,k',h1,h2,h3,h4⟩;rw [←e]at h4;exact⟨r,k',h1,h2,h3,h4⟩
theorem Ba:GM 2 [[1,0]]:=fun p hp=>by
 rw [eT]at hp;subst hp;exact⟨O,fun x hx=>by
  rcases iW.1 hx with rfl | hx
  ·decide
  rw [eT]at hx;subst hx;decide⟩
structure U4(w0:World)(ks:List Ck)(ix:Nat)(As A4 A5 A6 Ar Ae:aiC)(most p:Nat)(D:Int)(S:Nat→Bool)(e:Env)(w:World):Prop where
 f0:e 0= .pointer As
 f1:e 1=aiD (most:Int)
 f4:e 4= .pointer A4
 f5:e 5= .pointer A5
 f6:e 6= .pointer A6
 f7:e 7=aiD (p:Int)
 p0:S 0=true→e 52=aiD (p:Int)
 p2:S 2=true→e 54= .pointer As
 p3:S 3=true→e 55=aiD (most:Int)
 p4:S 4=true→e 56=aiD (p:Int)
 p5:S 5=true→e 57=aiD (4* (p:Int))
 p6:S 6=true→e 58=aiD D
 p7:S 7=true→∃r:Int,e 59=aiD r∧0≤r∧r≤250
 p8:S 8=true→∃q:Nat,e 60=aiD (q:Int)∧1≤q∧q≤251
 mem:∃(b1 b2 b3:List Ck) (kk:Ck) (vs:List Value),fz w0 As kk∧(S 1=true→∃A c rs xss,e 53= .agg #[.slice A 2 c]∧rs.length=2∧xss.length=2∧GM (2*p) xss∧b1=aE 32 2 A 2 c rs xss)∧(S 9=true→∃A c rs xss q,e 61= .agg #[.slice A 2 c]∧(1≤q∧q≤251)∧rs.length=2∧xss.length=2∧GM (2*q) xss∧b2=aE 32 2 A 2 c rs xss)∧(S 11=false→vs=[.slice Ar 1 1])∧(S 10=true→∃A c rs xss N,e 62= .agg #[.slice A 4 c]∧(1≤N∧N≤20000)∧rs.length=4∧xss.length=4∧GM N xss∧b3=aE 32 2 A 4 c rs xss∧(S 11=true→vs=[.slice A 4 c]))∧
  St w0 w (anyM A4 A5 A6 Ar Ae vs (b3++ (b2++b1)) (ks.set ix kk))
theorem Iw{w0 w':World}{A4 A5 A6 Ar Ae:aiC}{vs:List Value}{n m m' X:List Ck}(hS:St w0 w' (n++anyM A4 A5 A6 Ar Ae vs m X))(hm:(n++m).Perm m'):St w0 w' (anyM A4 A5 A6 Ar Ae vs m' X):=
 hS.perm ((iH (l₁:=n)).trans (List.Perm.cons _ ((iH (l₁:=n)).trans (List.Perm.cons _ ((iH (l₁:=n)).trans (List.Perm.cons _ (by rw [←fR];exact hm.append_right _)))))))
theorem Bm{w0 w':World}{A4 A5 A6 Ar Ae:aiC}{vs:List Value}{m m' X:List Ck}(hS:St w0 w' (anyM A4 A5 A6 Ar Ae vs m X))(hm:m'.Sublist m):St w0 w' (anyM A4 A5 A6 Ar Ae vs m' X):=
 hS.sub (List.Sublist.cons_cons _ (List.Sublist.cons_cons _ (List.Sublist.cons_cons _ (hm.append (fJ _)))))
theorem acI{w0 w:World}{ks:List Ck}(ix:Nat){As:aiC}{k:Ck}(most:Nat)(hS:St w0 w ks)(hk:ks[ix]?=some k)(hK:fz w0 As k)(hm:8≤most∧most≤1000):
 aA prog 199 [.pointer As,aiD (most:Int)] w (H3 w0 ks ix As):=by
 refine bk func199 O ntmps199 O (qH O O) (aQ O (gS hS O ?_));intro A4 w1 ao;refine ad O ?_;refine vc [1,0] ao O O (by decide) (by decide) O O ?_;intro Ae w2 ar;refine nj ar O O O ?_;intro Ar w3 az;refine Fx (by exact inferInstance) O O O O (gS az O ?_);intro A5 w4 aJ;refine bG 1 0 aJ O O O O O O O ?_;intro w5 aK;refine ad O (aa.bq 0 (aK.rd 0 O) O O O (gS aK O ?_));intro A6 w6 aR;refine bG 1 0 aR O O O O O O O ?_;intro w7 aV;have aV:St w0 w7 (vi A4 A5 A6 Ar Ae [.slice Ar 1 1] ks):=aV.perm (List.Perm.cons _ (List.Perm.cons _ ((lh (l₁:=[_,_]) (l₂:=[_])).append_right ks)));refine vb 0 O ?_;refine lC (α:=Fo) (fun s=> [(0,.pointer As),(1,aiD (most:Int)),(4,.pointer A4),(5,.pointer A5),(6,.pointer A6)]) (fun s w'=> (1≤s.n∧s.n≤5)∧(1≤s.N∧s.N≤20000)∧s.rs.length=s.n∧s.xss.length=s.n∧GM s.N s.xss∧fz w0 As s.k∧St w0 w' (anyM A4 A5 A6 Ar Ae [.slice s.A s.n s.c] (aE 32 2 s.A s.n s.c s.rs s.xss) (ks.set ix s.k))) ?_ ?_
 ·refine aQ O (aa.call (tY (ix+5) 7 aV (by exact hk) hK) O O O ?_);rintro _ w8 ⟨r,k1,rfl,hr,nw,bA⟩;have bA:St w0 w8 (vi A4 A5 A6 Ar Ae [.slice Ar 1 1] (ks.set ix k1)):=bA;have eh:=lB (k':=k1) hk;refine ay O ?_;refine aB _ O (fun h1=>?_) (fun h1=>?_)
  ·refine av O (aa.quo O O O (by omega) (aa.call (tY (ix+5) _ bA (by exact eh) nw) O O O ?_));rintro _ w9 ⟨q,k2,rfl,hq,fB,aS⟩;have aS:St w0 w9 (vi A4 A5 A6 Ar Ae [.slice Ar 1 1] ((ks.set ix k1).set ix k2)):=aS;rw [kI]at aS;have gk:=lB (k':=k2) hk;refine aa.add O O O (by omega) ?_;obtain⟨p,hp⟩:∃p:Nat,1+q=p:=⟨(1+q).toNat,by omega⟩;rw [hp];refine aa.call (zW p _ (by omega)) O O O ?_;rintro _ dB ⟨A,c,rs,xss,rfl,bW,dA,hG,hT⟩;have bD:=any_join aS hT;refine bG 1 0 bD O O O O O O O ?_;intro eu du;refine aF O (tQ ?_);exact⟨⟨2,2*p,A,c,rs,xss,k2⟩,⟨O,O,O,O,O,ae⟩,(by show 1≤2∧2≤5;decide),⟨by show 1≤2*p;omega,by show 2*p≤20000;omega⟩,bW,dA,hG,fB,du⟩
  ·refine bP O ?_;refine aB _ O (fun h2=>?_) (fun h2=>?_)
   ·refine av O (aa.bq 0 (bA.rd 1 O) O O O (bG 1 2 bA O O O O O O O ?_));intro w9 aS;refine bh O (eZ (eE ?_));refine kX O (aS.rd 2 O) ?_;exact⟨1,2,Ar,1,[⟨Ae,2,2⟩],[[1,0]],k1,O,by decide,by decide,O,O,Ba,nw,aS.tail.tail.tail⟩
   ·refine bP O ?_;refine aB _ O (fun h3=>?_) (fun h3=>?_)
    ·refine av O (aa.quo O O O (by omega) (aa.call (tY (ix+5) _ bA (by exact eh) nw) O O O ?_));rintro _ w9 ⟨q,k2,rfl,hq,fB,aS⟩;have aS:St w0 w9 (vi A4 A5 A6 Ar Ae [.slice Ar 1 1] ((ks.set ix k1).set ix k2)):=aS;rw [kI]at aS;refine aa.add O O O (by omega) ?_;obtain⟨p,hp⟩:∃p:Nat,1+q=p:=⟨(1+q).toNat,by omega⟩;rw [hp];refine aa.call (zW p _ (by omega)) O O O ?_;rintro _ dB ⟨A,c,rs,xss,rfl,bW,dA,hG,hT⟩;have bD:=any_join aS hT;refine bG 1 0 bD O O O O O O O ?_;intro eu du;have du:St w0 eu (anyM A4 A5 A6 Ar Ae [.slice A 2 c] (aE 32 2 A 2 c rs xss) (ks.set ix k2)):=du;refine ad O (aa.bq 0 (du.rd 0 O) O O O (aa.bq 0 (du.rd 1 O) O O O ?_));refine aa.call (EO A 2 c rs xss (2*p) Ar 1 1 [⟨Ae,2,2⟩] [[1,0]] 2 eu (St.gC du.tail.tail.tail (by omega)) (St.gC (Bl du).tail.tail.tail O) (by decide) (by decide) hG Ba (by omega) (by omega) (by omega)) O O O ?_;rintro _ gm ⟨A',c',rs',xss',rfl,mr,o3,oe,gV⟩;have eG:=any_join (Bl du) gV;refine bG 1 0 eG O O O O O O O ?_;intro dW fC;refine aF O (tQ ?_);exact⟨⟨3,2*p*2,A',c',rs',xss',k2⟩,⟨O,O,O,O,O,ae⟩,(by show 1≤3∧3≤5;decide),⟨by show 1≤2*p*2;omega,by show 2*p*2≤20000;omega⟩,mr,o3,oe,fB,fC⟩
    ·refine bP O ?_;refine aB _ O (fun h4=>?_) (fun h4=>?_)
     ·refine av O (aa.call (tY (ix+5) 4 bA (by exact eh) nw) O O O ?_);rintro _ w9 ⟨q,k2,rfl,hq,fB,aS⟩;have aS:St w0 w9 (vi A4 A5 A6 Ar Ae [.slice Ar 1 1] ((ks.set ix k1).set ix k2)):=aS;rw [kI]at aS;refine aa.add O O O (by omega) (vb 0 O ?_);refine lC (α:=Nat) (fun p=> [(0,.pointer As),(1,aiD (most:Int)),(4,.pointer A4),(5,.pointer A5),(6,.pointer A6),(7,aiD (p:Int))]) (fun p w'=>w'=w9∧1≤p∧p≤4) ?_ ?_
      ·refine aQ O (aa.mul O O O (by omega) (ay O ?_));refine aB _ O (fun h5=>?_) (fun h5=>?_)
       ·refine kD O (tQ ?_);exact⟨2,⟨O,O,O,O,O,O,ae⟩,O,by decide⟩
       ·refine kD O (tQ ?_);exact⟨(1+q).toNat,⟨O,O,O,O,O,ax (Value.int .i64) (by omega),ae⟩,O,by omega⟩
      rintro p e dB ⟨rfl,hp⟩;obtain⟨D,hD⟩:∃D:Int,(most:Int) / (4* (p:Int))=D:=⟨_,rfl⟩;have hDb:0≤D∧D≤250:=by
       rcases(by omega:p=1∨p=2∨p=3∨p=4)with rfl | rfl | rfl | rfl<;>omega
      refine xE (by kernel_rfl) (by kernel_rfl) (fun S e1 w1=>U4 w0 ks ix As A4 A5 A6 Ar Ae most p D S e1 w1) (fun w4 hb=> ⟨O,O,O,O,O,O,fun h=> (nomatch h),fun h=> (nomatch h),fun h=> (nomatch h),fun h=> (nomatch h),fun h=> (nomatch h),fun h=> (nomatch h),fun h=> (nomatch h),fun h=> (nomatch h),[],[],[],k2,[.slice Ar 1 1],fB,fun h=> (nomatch h),fun h=> (nomatch h),fun _=>O,fun h=> (nomatch h),aS.later hb⟩) ?_ ?_
      ·intro S i o e1 w4 hq bE hd cg hI;obtain⟨f0,f1,f4,f5,f6,f7,p0,p2,p3,p4,p5,p6,p7,p8,B1,B2,B3,kk,vs,dw,m1,m9,m11,m10,hT⟩:=hI
       match i,hq,bE with
       | 0,hq,bE=>
        obtain rfl:=cO hq;refine pI O (by exact f7) O (aa.n ?_);exact⟨f0,f1,f4,f5,f6,f7,fun _=>O,p2,p3,p4,p5,p6,p7,p8,B1,B2,B3,kk,vs,dw,m1,m9,m11,m10,hT⟩
       | 1,hq,bE=>
        obtain rfl:=cO hq;refine aa.call (zW p w4 (by omega)) O (by exact ax (fun v=> [v]) (p0 (cV hd 0 O))) O ?_;rintro _ w5 ⟨A,c,rs,xss,rfl,bW,dA,hG,gV⟩;have jd:=Iw (m':=B3++ (B2++aE 32 2 A 2 c rs xss)) ((Bm hT (m':=B3++ (B2++ [])) ((fJ _).append ((fJ _).append (List.nil_sublist _)))).call gV) (by rw [fg,←fR B3 B2];exact lh);refine aa.n ?_;exact⟨f0,f1,f4,f5,f6,f7,p0,p2,p3,p4,p5,p6,p7,p8,aE 32 2 A 2 c rs xss,B2,B3,kk,vs,dw,fun _=> ⟨A,c,rs,xss,O,bW,dA,hG,O⟩,m9,m11,m10,jd⟩
       | 2,hq,bE=>
        obtain rfl:=cO hq;refine y8 O (by exact f0) O (aa.n ?_);exact⟨f0,f1,f4,f5,f6,f7,p0,fun _=>O,p3,p4,p5,p6,p7,p8,B1,B2,B3,kk,vs,dw,m1,m9,m11,m10,hT⟩
       | 3,hq,bE=>
        obtain rfl:=cO hq;refine pI O (by exact f1) O (aa.n ?_);exact⟨f0,f1,f4,f5,f6,f7,p0,p2,fun _=>O,p4,p5,p6,p7,p8,B1,B2,B3,kk,vs,dw,m1,m9,m11,m10,hT⟩
       | 4,hq,bE=>
        obtain rfl:=cO hq;refine pI O (by exact f7) O (aa.n ?_);exact⟨f0,f1,f4,f5,f6,f7,p0,p2,p3,fun _=>O,p5,p6,p7,p8,B1,B2,B3,kk,vs,dw,m1,m9,m11,m10,hT⟩
       | 5,hq,bE=>
        obtain rfl:=cO hq;refine aa.mul O (by exact p4 (cV hd 4 O)) O (by omega) (aa.n ?_);exact⟨f0,f1,f4,f5,f6,f7,p0,p2,p3,p4,fun _=>O,p6,p7,p8,B1,B2,B3,kk,vs,dw,m1,m9,m11,m10,hT⟩
       | 6,hq,bE=>
        obtain rfl:=cO hq;refine aa.quo (by exact p3 (cV hd 3 O)) (by exact p5 (cV hd 5 O)) O (by omega) (aa.n ?_);exact⟨f0,f1,f4,f5,f6,f7,p0,p2,p3,p4,p5,fun _=>ax (Value.int .i64) hD,p7,p8,B1,B2,B3,kk,vs,dw,m1,m9,m11,m10,hT⟩
       | 7,hq,bE=>
        obtain rfl:=cO hq;have tH:=lB (k':=kk) hk;refine aa.call (MC ix D hT tH dw) O (by exact xu (p2 (cV hd 2 O)) (p6 (cV hd 6 O))) O ?_;rintro _ w5 ⟨r7,k7,rfl,Ev,sl,dF⟩;rw [kI]at dF;refine aa.n ?_;exact⟨f0,f1,f4,f5,f6,f7,p0,p2,p3,p4,p5,p6,fun _=> ⟨r7,O,Ev.1,by omega⟩,p8,B1,B2,B3,k7,vs,sl,m1,m9,m11,m10,dF⟩
       | 8,hq,bE=>
        obtain rfl:=cO hq;obtain⟨r7,h7,Ev⟩:=p7 (cV hd 7 rfl);refine aa.add O (by exact h7) O (by omega) (aa.n ?_);exact⟨f0,f1,f4,f5,f6,f7,p0,p2,p3,p4,p5,p6,p7,fun _=> ⟨(1+r7).toNat,ax (Value.int .i64) (by omega),by omega,by omega⟩,B1,B2,B3,kk,vs,dw,m1,m9,m11,m10,hT⟩
       | 9,hq,bE=>
        obtain rfl:=cO hq;obtain⟨q8,h8,Hf⟩:=p8 (cV hd 8 rfl);refine aa.call (zW q8 w4 (by omega)) O (by exact ax (fun v=> [v]) h8) O ?_;rintro _ w5 ⟨A,c,rs,xss,rfl,bW,dA,hG,gV⟩;have jd:=Iw (m':=B3++ (aE 32 2 A 2 c rs xss++B1)) ((Bm hT (m':=B3++ ([]++B1)) ((fJ _).append ((List.nil_sublist _).append (fJ _)))).call gV) (by rw [List.nil_append,←fR,←fR];exact lh.append_right _);refine aa.n ?_;exact⟨f0,f1,f4,f5,f6,f7,p0,p2,p3,p4,p5,p6,p7,p8,B1,aE 32 2 A 2 c rs xss,B3,kk,vs,dw,m1,fun _=> ⟨A,c,rs,xss,q8,O,Hf,bW,dA,hG,O⟩,m11,m10,jd⟩
       | 10,hq,bE=>
        obtain rfl:=cO hq;obtain⟨A1,c1,fw,ki,Gr,aa6,abA,PT,rfl⟩:=m1 (cV hd 1 rfl);obtain⟨A2,c2,xp,C1,q8,PH,Hf,aa7,abB,PV,rfl⟩:=m9 (cV hd 9 rfl);have n11:S 11=false:=by
         cases h:S 11 with
         | false=>rfl
         | true=>rw [←bE];exact(cV (cg 11 _ h rfl) 10 rfl).symm
        have tA:br w4 A1 2 fw ki:=St.gC ((Bm hT (m':=[]++ ([]++aE 32 2 A1 2 c1 fw ki)) ((List.nil_sublist _).append ((List.nil_sublist _).append (fJ _)))).tail.tail.tail) (by omega);have ZR:br w4 A2 2 xp C1:=St.gC ((Bm hT (m':=aE 32 2 A2 2 c2 xp C1) ((rX _ _).trans (gR _ _))).tail.tail.tail) (by omega);have hN:2*p* (2*q8)≤8*502:=Nat.mul_le_mul (by omega) (by omega);have GF:1≤2*p* (2*q8):=Nat.mul_pos (by omega) (by omega);refine aa.call (EO A1 2 c1 fw ki (2*p) A2 2 c2 xp C1 (2*q8) w4 tA ZR (by decide) (by decide) PT PV (by omega) (by omega) (by omega)) O (by exact xu Gr PH) O ?_;rintro _ w5 ⟨A,c,rs,xss,rfl,bW,dA,hG,gV⟩;have jd:=Iw (m':=aE 32 2 A (2+2) c rs xss++ (aE 32 2 A2 2 c2 xp C1++aE 32 2 A1 2 c1 fw ki)) ((Bm hT (gR _ _)).call gV) (List.Perm.refl _);refine aa.n ?_;exact⟨f0,f1,f4,f5,f6,f7,p0,p2,p3,p4,p5,p6,p7,p8,aE 32 2 A1 2 c1 fw ki,aE 32 2 A2 2 c2 xp C1,aE 32 2 A (2+2) c rs xss,kk,vs,dw,fun _=> ⟨A1,c1,fw,ki,Gr,aa6,abA,PT,O⟩,fun _=> ⟨A2,c2,xp,C1,q8,PH,Hf,aa7,abB,PV,O⟩,m11,fun _=> ⟨A,c,rs,xss,2*p* (2*q8),O,⟨GF,by omega⟩,bW,dA,hG,O,fun h=> (nomatch n11.symm.trans h)⟩,jd⟩
       | 11,hq,bE=>
        obtain rfl:=cO hq;obtain⟨A,c,rs,xss,N,JA,hN,bW,dA,hG,rfl,_⟩:=m10 (cV hd 10 rfl);obtain rfl:=m11 bE;refine bG 1 0 hT O (by exact f6) (by exact JA) O O O O ?_;intro w5 jd;refine aa.n ?_;exact⟨f0,f1,f4,f5,f6,f7,p0,p2,p3,p4,p5,p6,p7,p8,B1,B2,_,kk,[.slice A 4 c],dw,m1,m9,fun h=> (nomatch (show true=false from h)),fun _=> ⟨A,c,rs,xss,N,JA,hN,bW,dA,hG,O,fun _=>O⟩,jd⟩
       | i+12,hq,_=>exact(nomatch hq)
      ·intro S e1 w4 dL hI;obtain⟨f0,f1,f4,f5,f6,f7,p0,p2,p3,p4,p5,p6,p7,p8,B1,B2,B3,kk,vs,dw,m1,m9,m11,m10,hT⟩:=hI;obtain⟨A,c,rs,xss,N,JA,hN,bW,dA,hG,rfl,wV⟩:=m10 (dL 10 (by decide));obtain rfl:=wV (dL 11 (by decide));refine CN (F:=[(0,.pointer As),(1,aiD (most:Int)),(4,.pointer A4),(5,.pointer A5),(6,.pointer A6)]) ⟨f0,f1,f4,f5,f6,ae⟩ ?_;refine M8 O (tQ ?_);exact⟨⟨4,N,A,c,rs,xss,kk⟩,⟨O,O,O,O,O,ae⟩,(by show 1≤4∧4≤5;decide),hN,bW,dA,hG,dw,Bm hT (rX _ _)⟩
     ·refine av O (aa.quo O O O (by omega) (aa.call (tY (ix+5) _ bA (by exact eh) nw) O O O ?_));rintro _ w9 ⟨q,k2,rfl,hq,fB,aS⟩;have aS:St w0 w9 (vi A4 A5 A6 Ar Ae [.slice Ar 1 1] ((ks.set ix k1).set ix k2)):=aS;rw [kI]at aS;have gk:=lB (k':=k2) hk;refine aa.add O O O (by omega) ?_;obtain⟨p,hp⟩:∃p:Nat,1+q=p:=⟨(1+q).toNat,by omega⟩;rw [hp];refine aa.call (acM (ix+5) p aS (by exact gk) fB (by omega)) O O O ?_;rintro _ dB ⟨A,c,rs,xss,N,k3,rfl,bW,dA,hG,hN,mm,hT⟩;have hT:St w0 dB (aE 32 2 A 3 c rs xss++vi A4 A5 A6 Ar Ae [.slice Ar 1 1] ((ks.set ix k2).set ix k3)):=hT;rw [kI]at hT;have bD:=Wo hT;refine bG 1 0 bD O O O O O O O ?_;intro eu du;refine aF O (tQ ?_);exact⟨⟨3,N,A,c,rs,xss,k3⟩,⟨O,O,O,O,O,ae⟩,(by show 1≤3∧3≤5;decide),⟨hN.1,by show N≤20000;omega⟩,bW,dA,hG,mm,du⟩
 ·intro s e w9 hI;refine bP O ?_;refine Cd.loop (α:=Fo) (fun s=> [(0,.pointer As),(1,aiD (most:Int)),(4,.pointer A4),(5,.pointer A5),(6,.pointer A6)]) (fun s w'=> (1≤s.n∧s.n≤5)∧(1≤s.N∧s.N≤20000)∧s.rs.length=s.n∧s.xss.length=s.n∧GM s.N s.xss∧fz w0 As s.k∧St w0 w' (anyM A4 A5 A6 Ar Ae [.slice s.A s.n s.c] (aE 32 2 s.A s.n s.c s.rs s.xss) (ks.set ix s.k))) (fun s=>5 - s.n) s ⟨O,O,O,O,O,ae⟩ hI ?_;clear hI s;rintro⟨n,N,A,c,rs,xss,k2⟩ e dB ⟨hn,hN,bW,dA,hG,fB,bD⟩;dsimp only at hn hN bW dA hG fB bD⊢;have gk:=lB (k':=k2) hk;refine aQ O (aH (bD.rd 0 O) O O O O inferInstance (aM (bD.rd 0 O) O O O O O ?_));refine aa.len O O (ad O ?_);have JI:∀(k5:Ck) (eu:World),fz w0 As k5→St w0 eu (aE 32 2 A n c rs xss++ (aE 32 2 Ar 1 1 [⟨Ae,2,2⟩] [[1,0]]++ks.set ix k5))→H3 w0 ks ix As (.agg #[.slice A n c]) eu:=fun k5 eu PY h=> ⟨n,N,A,c,rs,xss,k5,O,hn,hN,bW,dA,hG,PY,h.sub ((fJ _).append (gR _ _))⟩
  refine bY 67 O (fun h1=>?_) (fun h1=>?_)
  ·refine aa.g O O O (aa.bq 0 (bD.rd 0 O) O O O (aa.g O O O (aa.call (vA A n c rs xss dB (St.gC bD.tail.tail.tail (by omega)) (by omega)) O O O ?_)));rintro _ eu ⟨rfl,hT⟩;have du:=bD.later hT.below;rw [hG.first (by omega)];refine aa.g O O O (aa.mul O O O (by omega) (aa.g O O O (ad O (aa.g O O O (ad O ?_)))));refine bY 74 O (fun h2=>?_) (fun h2=>?_)
   ·refine aa.g O O O (ad O (aa.g O O O ?_));refine aa.call (MC ix 3 du gk fB) O O O ?_;rintro _ gm ⟨r,k3,rfl,hr,mm,eG⟩;rw [kI]at eG;have hk3:=lB (k':=k3) hk;refine aa.g O O O (ay O ?_);refine aB _ O (fun h3=>?_) (fun h3=>?_)
    ·refine av O (aa.call (MC ix 2 eG hk3 mm) O O O ?_);rintro _ dW ⟨r',k4,rfl,fI,Gz,fC⟩;rw [kI]at fC;refine ay O ?_;refine aB _ O (fun h4=>?_) (fun h4=>?_)
     ·skip
      refine av O (aa.bq 0 (fC.rd 0 O) O O O (aa.bq 0 (fC.rd 1 O) O O O ?_));refine aa.call (EO A n c rs xss N Ar 1 1 [⟨Ae,2,2⟩] [[1,0]] 2 dW (St.gC fC.tail.tail.tail (by omega)) (St.gC (Bl fC).tail.tail.tail O) (by omega) (by decide) hG Ba (by omega) (by omega) (by omega)) O O O ?_;rintro _ me ⟨A',c',rs',xss',rfl,mr,o3,oe,gV⟩;have ic:=any_join (Bl fC) gV;refine bG 1 0 ic O O O O O O O ?_;intro mG gr;refine aF O (tQ ?_);exact⟨⟨n+1,N*2,A',c',rs',xss',k4⟩,by show 5 - (n+1)<5 - n;omega,⟨O,O,O,O,O,ae⟩,⟨by show 1≤n+1;omega,by show n+1≤5;omega⟩,⟨by show 1≤N*2;omega,by show N*2≤20000;omega⟩,mr,o3,oe,Gz,gr⟩
     ·skip
      refine av O (aa.bq 0 (fC.rd 1 O) O O O (aa.bq 0 (fC.rd 0 O) O O O ?_));refine aa.call (EO Ar 1 1 [⟨Ae,2,2⟩] [[1,0]] 2 A n c rs xss N dW (St.gC (Bl fC).tail.tail.tail O) (St.gC fC.tail.tail.tail (by omega)) (by decide) (by omega) Ba hG (by omega) (by omega) (by omega)) O O O ?_;rintro _ me ⟨A',c',rs',xss',rfl,mr,o3,oe,gV⟩;have ic:=any_join (Bl fC) gV;refine bG 1 0 ic O O O O O O O ?_;intro mG gr;refine aF O (tQ ?_);exact⟨⟨1+n,2*N,A',c',rs',xss',k4⟩,by show 5 - (1+n)<5 - n;omega,⟨O,O,O,O,O,ae⟩,⟨by show 1≤1+n;omega,by show 1+n≤5;omega⟩,⟨by show 1≤2*N;omega,by show 2*N≤20000;omega⟩,mr,o3,oe,Gz,gr⟩
    ·refine aY O (aZ (cL O ?_));refine aa.bq 0 (eG.rd 0 O) O O O (bG 1 2 eG O O O O O O O ?_);intro kh fK;refine bh O (kX O (fK.rd 2 O) ?_);exact JI k3 kh ‹_› fK.tail.tail.tail
   ·refine ai O O O O O (ai O O O O O (ai O O O O O (ay O ?_)));refine Cd.eV O ?_;refine aY O (aZ (cL O ?_));refine aa.bq 0 (du.rd 0 O) O O O (bG 1 2 du O O O O O O O ?_);intro kh fK;refine bh O (kX O (fK.rd 2 O) ?_);exact JI k2 kh ‹_› fK.tail.tail.tail
  ·refine ai O O O O O (ai O O O O O (ai O O O O O (ai O O O O O (ai O O O O O (ad O (ai O O O O O (ai O O O O O (ai O O O O O (ay O ?_)))))))));refine Cd.eV O ?_;refine aY O (aZ (cL O ?_));refine aa.bq 0 (bD.rd 0 O) O O O (bG 1 2 bD O O O O O O O ?_);intro kh fK;refine bh O (kX O (fK.rd 2 O) ?_);exact JI k2 kh ‹_› fK.tail.tail.tail
theorem Ug{N:Nat}{f g:Nat→Int}(hg:∀i,i<N→0≤g i∧g i< (N:Int)):∀ {m:Nat} {xs:List Int},m≤N→Rg N xs→Rg N (yT xs f g m)
 | 0,_,_,h=>h
 | m+1,xs,hm,h=>by
  have h1:=Ug (f:=f) hg (m:=m) (by omega) h;have h2:=hg m (by omega);refine⟨by simp [yT,h1.1],fun x hx=>?_⟩;simp only [yT]at hx;rcases List.mem_or_eq_of_mem_set hx with hx | rfl
  ·exact h1.2 x hx
  ·exact h2
theorem GM.T4{N:Nat}{p:List Int}{xss:aiB}(h:GM N xss)(hp:Rg N p):GM N (xss.map (mY N p)):=fun q hq=>by
 obtain⟨mv,pT,rfl⟩:=dh.1 hq;have h1:=h mv pT;refine Ug (fun i hi=>?_) (a8 _) ⟨by simp,fun x hx=>by obtain⟨h0,rfl⟩:=List.mem_replicate.1 hx;omega⟩;have h2:=h1.gi (i:=(i:Int)) (by omega) (by omega);exact hp.gi h2.1 h2.2
structure Vf(w0:World)(ks:List Ck)(ix:Nat)(As A4 A5:aiC)(n N:Nat)(A:aiC)(c:Nat)(rs:List aG)(xss:aiB)(S:Nat→Bool)(e:Env)(w:World):Prop where
 f0:e 0= .pointer As
 f4:e 4= .pointer A4
 f5:e 5= .pointer A5
 p0:S 0=true→e 12= .agg #[.slice A n c]
 p1:S 1=true→e 13= .pointer As
 p2:S 2=true→e 14= .agg #[.slice A n c]
 p3:S 3=true→e 15=aiD (N:Int)
 mem:∃(b1 b2:List Ck) (kk:Ck) (vs:List Value),fz w0 As kk∧(S 4=true→∃Ap cp ps,e 16= .slice Ap N cp∧Rg N ps∧b1=[ah 2 Ap N cp ps])∧(S 6=false→vs=[.slice none 0 0])∧(S 5=true→∃A' c' rs' xss',e 17= .agg #[.slice A' n c']∧rs'.length=n∧xss'.length=n∧GM N xss'∧b2=aE 32 2 A' n c' rs' xss'∧(S 6=true→vs=[.slice A' n c']))∧
  St w0 w (Bx 24 1 A5 [.slice A n c]::Bx 24 1 A4 vs::(aE 32 2 A n c rs xss++ (b2++ (b1++ks.set ix kk))))
theorem Sw{w0 w:World}{ks:List Ck}(X:List Ck)(ix:Nat){As:aiC}{k:Ck}(n:Nat)(hS:St w0 w (X++ks))(hk:ks[ix]?=some k)(hK:fz w0 As k)(hn:n≤1000000):
 aA prog 183 [.pointer As,aiD (n:Int)] w (fun v w'=>∃A c xs k',v= .slice A n c∧Rg n xs∧fz w0 As k'∧St w0 w' (ah 2 A n c xs::(X++ks.set ix k'))):=by
 have e:(X++ks)[X.length+ix]?=some k:=by
  rw [jQ (by omega),Nat.add_sub_cancel_left];exact hk
 refine(Sx (X.length+ix) n hS e hK hn).mono ?_;rintro v w' ⟨A,c,xs,k',h1,h2,h3,h4⟩;rw [show(X++ks).set (X.length+ix) k'=X++ks.set ix k' from by rw [List.set_append,ag (by omega),Nat.add_sub_cancel_left]]at h4;exact⟨A,c,xs,k',h1,h2,h3,h4⟩
theorem acJ{w0 w:World}{ks:List Ck}(ix:Nat){As:aiC}{k:Ck}(most:Nat)(hS:St w0 w ks)(hk:ks[ix]?=some k)(hK:fz w0 As k)(hm:8≤most∧most≤1000):
 aA prog 134 [.pointer As,aiD (most:Int)] w (H3 w0 ks ix As):=by
 refine bk func134 O ntmps134 O (qH O O) (aQ O (gS hS O ?_));intro A4 w1 ao;refine ad O (aa.call (acI (ix+1) most ao (by exact hk) hK hm) O O O ?_);rintro _ w2 ⟨n,N,A,c,rs,xss,k1,rfl,hn,hN,bW,dA,hG,nw,ar⟩;refine gS ar O ?_;intro A5 w3 az;refine bG 1 0 az O O O O O O O ?_;intro w4 aJ;have aJ:St w0 w4 (Bx 24 1 A5 [.slice A n c]::(aE 32 2 A n c rs xss++ (Bx 24 1 A4 [.slice none 0 0]::ks.set ix k1))):=aJ;have aJ:St w0 w4 (Bx 24 1 A5 [.slice A n c]::Bx 24 1 A4 [.slice none 0 0]::(aE 32 2 A n c rs xss++ks.set ix k1)):=aJ.perm (List.Perm.cons _ iH);have eh:=lB (k':=k1) hk;refine ad O ?_;have Zz:∀(X:List Ck) (kk:Ck) (w5:World) (vs:List Value) (q:Int),fz w0 As kk→St w0 w5 (Bx 24 1 A5 [.slice A n c]::Bx 24 1 A4 vs::(aE 32 2 A n c rs xss++ (X++ks.set ix kk)))→aA prog 135 [.pointer As,aiD q] w5 (fun v w'=>∃(r:Int) (k':Ck),v=aiD r∧(0≤r∧(1≤q→r<q)∧(q<1→r=0))∧fz w0 As k'∧St w0 w' (Bx 24 1 A5 [.slice A n c]::Bx 24 1 A4 vs::(aE 32 2 A n c rs xss++ (X++ks.set ix k')))):=by
  intro X kk w5 vs q dw hT;have tH:=lB (k':=kk) hk;have e:∀Y,Bx 24 1 A5 [.slice A n c]::Bx 24 1 A4 vs::(aE 32 2 A n c rs xss++ (X++Y))=(Bx 24 1 A5 [.slice A n c]::Bx 24 1 A4 vs::(aE 32 2 A n c rs xss++X))++Y:=fun Y=>by simp
  rw [e]at hT;refine(Fg _ ix q hT tH dw).mono ?_;rintro v w' ⟨r,k',h1,h2,h3,h4⟩;rw [←e,kI]at h4;exact⟨r,k',h1,h2,h3,h4⟩
 refine aa.call (Zz [] k1 w4 _ 4 nw aJ) O O O ?_;rintro _ w5 ⟨r,k2,rfl,hr,fB,aK⟩;have aK:St w0 w5 (Bx 24 1 A5 [.slice A n c]::Bx 24 1 A4 [.slice none 0 0]::(aE 32 2 A n c rs xss++ks.set ix k2)):=aK;have gk:=lB (k':=k2) hk;refine ay O ?_;refine aB _ O (fun h1=>?_) (fun h1=>?_)
 ·refine bP O ?_;refine xE (by kernel_rfl) (by kernel_rfl) (fun S e1 w1=>Vf w0 ks ix As A4 A5 n N A c rs xss S e1 w1) (fun w6 hb=> ⟨O,O,O,fun h=> (nomatch h),fun h=> (nomatch h),fun h=> (nomatch h),fun h=> (nomatch h),[],[],k2,[.slice none 0 0],fB,fun h=> (nomatch h),fun _=>O,fun h=> (nomatch h),aK.later hb⟩) ?_ ?_
  ·intro S i o e1 w6 hq bE hd cg hI;obtain⟨f0,f4,f5,p0,p1,p2,p3,B1,B2,kk,vs,dw,m4,m6,m5,hT⟩:=hI;have hX:br w6 A n rs xss:=St.gC hT.tail.tail (by omega)
   match i,hq,bE with
   | 0,hq,bE=>
    obtain rfl:=cO hq;refine aa.bq 0 (hT.rd 0 O) (by exact f5) O O (aa.n ?_);exact⟨f0,f4,f5,fun _=>O,p1,p2,p3,B1,B2,kk,vs,dw,m4,m6,m5,hT⟩
   | 1,hq,bE=>
    obtain rfl:=cO hq;refine y8 O (by exact f0) O (aa.n ?_);exact⟨f0,f4,f5,p0,fun _=>O,p2,p3,B1,B2,kk,vs,dw,m4,m6,m5,hT⟩
   | 2,hq,bE=>
    obtain rfl:=cO hq;refine aa.bq 0 (hT.rd 0 O) (by exact f5) O O (aa.n ?_);exact⟨f0,f4,f5,p0,p1,fun _=>O,p3,B1,B2,kk,vs,dw,m4,m6,m5,hT⟩
   | 3,hq,bE=>
    obtain rfl:=cO hq;refine aa.call (vA A n c rs xss w6 hX (by omega)) O (by exact ax (fun v=> [v]) (p2 (cV hd 2 O))) O ?_;rintro _ w7 ⟨rfl,gV⟩;have dF:=hT.later gV.below;rw [hG.first (by omega)];refine aa.n ?_;exact⟨f0,f4,f5,p0,p1,p2,fun _=>O,B1,B2,kk,vs,dw,m4,m6,m5,dF⟩
   | 4,hq,bE=>
    obtain rfl:=cO hq;have tH:=lB (k':=kk) hk;have e:(Bx 24 1 A5 [.slice A n c]::Bx 24 1 A4 vs::(aE 32 2 A n c rs xss++ (B2++ (B1++ks.set ix kk))))=(Bx 24 1 A5 [.slice A n c]::Bx 24 1 A4 vs::(aE 32 2 A n c rs xss++ (B2++B1)))++ks.set ix kk:=by simp
    have uB:=hT;rw [e]at uB;refine aa.call (Sw _ ix N uB tH dw (by omega)) O (by exact xu (p1 (cV hd 1 O)) (p3 (cV hd 3 O))) O ?_;rintro _ w7 ⟨Ap,cp,ps,k7,rfl,jZ,sl,dF⟩;rw [kI]at dF;have ew:St w0 w7 (Bx 24 1 A5 [.slice A n c]::Bx 24 1 A4 vs::(aE 32 2 A n c rs xss++ (B2++ ([ah 2 Ap N cp ps]++ks.set ix k7)))):=by
     refine(dF.sub (ks':=ah 2 Ap N cp ps::Bx 24 1 A5 [.slice A n c]::Bx 24 1 A4 vs::((aE 32 2 A n c rs xss++B2)++ks.set ix k7)) ?_).perm ?_
     ·rw [←fR (aE 32 2 A n c rs xss)];exact List.Sublist.cons_cons _ (List.Sublist.cons_cons _ (List.Sublist.cons_cons _ ((rX _ _).append (fJ _))))
     ·rw [←fR (aE 32 2 A n c rs xss)];exact(List.Perm.swap _ _ _).trans (List.Perm.cons _ ((List.Perm.swap _ _ _).trans (List.Perm.cons _ iH.symm)))
    refine aa.n ?_;exact⟨f0,f4,f5,p0,p1,p2,p3,[ah 2 Ap N cp ps],B2,k7,vs,sl,fun _=> ⟨Ap,cp,ps,O,jZ,O⟩,m6,m5,ew⟩
   | 5,hq,bE=>
    obtain rfl:=cO hq;obtain⟨Ap,cp,ps,nv,jZ,rfl⟩:=m4 (cV hd 4 rfl);have n6:S 6=false:=by
     cases h:S 6 with
     | false=>rfl
     | true=>rw [←bE];exact(cV (cg 6 _ h rfl) 5 rfl).symm
    have hP:bS w6 Ap N ps:=((hT.sub ((((gR _ _).trans (gR _ _)).cons _).cons _):St w0 w6 (ah 2 Ap N cp ps::ks.set ix kk))).bc 0 O;refine aa.call (SF A n c rs xss N Ap cp ps w6 hX (by omega) hG.sys (by omega) hP (fun x h0 h1=>jZ.gi h0 h1)) O (by exact xu (p0 (cV hd 0 O)) nv) O ?_;rintro _ w7 ⟨A',c',rs',rfl,mr,gV⟩;have ew:St w0 w7 (Bx 24 1 A5 [.slice A n c]::Bx 24 1 A4 vs::(aE 32 2 A n c rs xss++ (aE 32 2 A' n c' rs' (xss.map (mY N ps))++ ([ah 2 Ap N cp ps]++ks.set ix kk)))):=by
     refine((hT.sub (ks':=Bx 24 1 A5 [.slice A n c]::Bx 24 1 A4 vs::(aE 32 2 A n c rs xss++ ([ah 2 Ap N cp ps]++ks.set ix kk))) ?_).call gV).perm ?_
     ·exact List.Sublist.cons_cons _ (List.Sublist.cons_cons _ ((fJ _).append (gR _ _)))
     ·refine(iH (l₁:=aE 32 2 A' n c' rs' (xss.map (mY N ps)))).trans (List.Perm.cons _ ((iH (l₁:=aE 32 2 A' n c' rs' (xss.map (mY N ps)))).trans (List.Perm.cons _ ?_)));rw [←fR (aE 32 2 A' n c' rs' (xss.map (mY N ps))) (aE 32 2 A n c rs xss),←fR (aE 32 2 A n c rs xss) (aE 32 2 A' n c' rs' (xss.map (mY N ps)))];exact lh.append_right _
    refine aa.n ?_;exact⟨f0,f4,f5,p0,p1,p2,p3,[ah 2 Ap N cp ps],aE 32 2 A' n c' rs' (xss.map (mY N ps)),kk,vs,dw,fun _=> ⟨Ap,cp,ps,nv,jZ,O⟩,m6,fun _=> ⟨A',c',rs',_,O,mr,by simp [dA],hG.T4 jZ,O,fun h=> (nomatch n6.symm.trans h)⟩,ew⟩
   | 6,hq,bE=>
    obtain rfl:=cO hq;obtain⟨A',c',rs',xss',zn,mr,o3,oe,rfl,_⟩:=m5 (cV hd 5 rfl);obtain rfl:=m6 bE;refine bG 1 1 hT O (by exact f4) (by exact zn) O O O O ?_;intro w7 dF;refine aa.n ?_;exact⟨f0,f4,f5,p0,p1,p2,p3,B1,_,kk,[.slice A' n c'],dw,m4,fun h=> (nomatch (show true=false from h)),fun _=> ⟨A',c',rs',xss',zn,mr,o3,oe,O,fun _=>O⟩,dF⟩
   | i+7,hq,_=>exact(nomatch hq)
  ·intro S e1 w6 dL hI;obtain⟨f0,f4,f5,p0,p1,p2,p3,B1,B2,kk,vs,dw,m4,m6,m5,hT⟩:=hI;obtain⟨A',c',rs',xss',zn,mr,o3,oe,rfl,wV⟩:=m5 (dL 5 (by decide));obtain rfl:=wV (dL 6 (by decide));refine CN (F:=[(4,.pointer A4)]) ⟨f4,ae⟩ (xF O (kX O (hT.rd 1 O) ?_));exact⟨n,N,A',c',rs',xss',kk,O,hn,hN,mr,o3,oe,dw,hT.tail.tail.sub (((fJ _).append (gR _ _)).trans (gR _ _))⟩
 ·refine av O (aa.bq 0 (aK.rd 0 O) O O O (bG 1 1 aK O O O O O O O ?_));intro w6 aR;refine bh O (kX O (aR.rd 1 O) ?_);exact⟨n,N,A,c,rs,xss,k2,O,hn,hN,bW,dA,hG,fB,aR.tail.tail⟩
theorem Vg(A:aiC)(n c:Nat)(xs:List Int)(A':aiC)(n' c':Nat)(ys:List Int)(w:World)(hR:bS w A n xs)(sv:bS w A' n' ys)(hn:n≤9223372036854775807):
 aA prog 99 [.slice A n c,.slice A' n' c'] w (fun v w'=>v= .bool (decide (xs=ys))∧St w w' []):=by
 have hl:=hR.1;have uH:=sv.1;subst hl;subst uH;refine bk func99 O ntmps99 O (cK O) ?_;refine aQ O (aa.len O O (ad O (aa.len O O (ay O ?_))));refine aB _ O (fun h=>?_) (fun h=>?_)
 ·refine dN O (cM O ?_);exact⟨by rw [cd (fun e:xs=ys=>h (by rw [e]))],St.refl _⟩
 refine av O (aa.len O O (ay O ?_));refine Cd.loop (α:=Nat) (fun k=> [(0,.slice A xs.length c),(1,.slice A' ys.length c'),(12,aiD (xs.length:Int)),(13,aiD (k:Int))]) (fun k w'=>St w w' []∧k≤xs.length∧xs.take k=ys.take k) (fun k=>xs.length - k) 0 ⟨O,O,O,O,ae⟩ ⟨St.refl w,aW _,O⟩ ?_;rintro k e w2 ⟨ar,hk,hI⟩;have hle:xs.length=ys.length:=by omega
 refine bK O ?_;refine aB _ O (fun h1=>?_) (fun h1=>?_)
 ·have hA:=ar.eY hR;have hB:=ar.eY sv;have h2:(k:Int)<ys.length:=by omega
  have hx:=bX (p:=xs) (k:=k) (by omega);have hy:=bX (p:=ys) (k:=k) (by omega);refine bP O ?_;refine dI [xS (A) (xs.length) (c),xI ((k:Int)),xP (aq (A) ((k:Int)).toNat),xI (gi (xs) ((k:Int))),xS (A') (ys.length) (c'),xI ((k:Int)),xP (aq (A') ((k:Int)).toNat),xI (gi (ys) ((k:Int))),xB (decide (¬(gi (xs) ((k:Int)))=(gi (ys) ((k:Int)))))] (by kernel_rfl) (by kernel_rfl) O (eg O) ?_ ?_
  ·exact⟨Dr O,Dr O,fun _ _ hb _ _=>aw (hA.later hb).2 O O O (by omega) (by omega) (Az O),fun _ _ hb _ _=>aT (hA.later hb) O (by omega) O O (Az O),Dr O,Dr O,fun _ _ hb _ _=>aw (hB.later hb).2 O O O (by omega) (by omega) (Az O),fun _ _ hb _ _=>aT (hB.later hb) O (by omega) O O (Az O),Dr O,ae⟩
  intro u w3 gu _;have az:=ar.later gu;refine eo O ?_;refine aB _ O (fun h3=>?_) (fun h3=>?_)
  ·refine dN O (eZ (eE ?_));refine cM O ?_;refine⟨by rw [cd (fun e:xs=ys=>h3 (by rw [e]))],az⟩
  refine av O (aa.add O O O (by omega) (aF O (tQ ?_)));refine⟨k+1,by omega,⟨O,O,O,O,ae⟩,az,by omega,?_⟩;rw [xr (by omega),xr (by omega),hI,iP.1 h3]
 refine aY O (aZ (gE O ?_));refine cM O ?_;refine⟨?_,ar⟩;rw [lS (by omega),lS (by omega)]at hI;rw [dX hI]
theorem St.rN{w0 w:World}{t1 t2:TypeId}{A:aiC}{n c:Nat}{rs:List aG}{xss:aiB}(h:St w0 w (aE t1 t2 A n c rs xss))(hl:xss.length=n):br w A n rs xss:=
 St.gC (ks:=[]) (by rw [fg];exact h) hl
end
section
open Tryz
abbrev Mx:=aiB
def Nr(N:Nat)(xss:Mx):Prop:=∀f,f<N→¬SV (Yr N xss (f:Nat)) xss<0
instance (N:Nat)(xss:Mx):Decidable (Nr N xss):=by unfold Nr;exact inferInstance
end
section
open Go.RowKit Tryz
section
variable {P:Program} {N:Nat} {ops:Array Oper} {K:Env→World→Prop} {rest:List Oper} {e:Env} {w:World} {d:Nat} {ty:TypeId} {pos:String} {af:Array Edge}
end
section
variable {P:Program} {N:Nat} {ops:Array Oper} {K:Env→World→Prop} {rest:List Oper} {e:Env} {w0 w w':World} {ks:List Ck} {d:Nat} {ty:TypeId} {pos:String} {af:Array Edge}
end
theorem jD.drop{w:World}{A:aiC}{n c l:Nat}{xs:List aG}(h:jD w A n xs)(hl:l≤n)(hc:n≤c):jD w (cutAt A c l) (n - l) (xs.drop l):=by
 have:=h.cut (l:=l) (h:=n) (c:=c) hl (a8 _) hc
 rwa [lS (by rw [List.length_drop,h.1];omega)]at this
def M1(w0:World)(ks:List Ck)(ix:Nat)(As:aiC)(v:Value)(w':World):Prop:=
 ∃(n:Nat) (A:aiC) (c:Nat) (rs:List aG) (xss:aiB) (X:List Ck) (k':Ck),v= .agg #[.slice A n c]∧n≤6∧(n≤c∧c≤9223372036854775807)∧(∀p∈xss,p.length≤20001∧∀x∈p,-1≤x∧x≤20001)∧fz w0 As k'∧(∀(lO:World) (Y:List Ck),St w0 lO (X++Y)→br lO A n rs xss)∧St w0 w' (X++ks.set ix k')
theorem Jl{α:Type}(d:α)(xs:List α)(i:Nat):(xs.drop 1).getD i d=xs.getD (i+1) d:=by
 cases xs with
 | nil=>rfl
 | cons a r=>rfl
theorem br.XT{w:World}{A:aiC}{n c:Nat}{rs:List aG}{xss:aiB}(h:br w A n rs xss)(hn:1≤n)(hc:n≤c):br w (cutAt A c 1) (n - 1) (rs.drop 1) (xss.drop 1):=by
 refine⟨h.top.drop hn hc,by rw [List.length_drop,h.len],fun i hi=>?_,fun i hi=>?_⟩
 ·rw [Jl,Jl];exact h.row (i+1) (by omega)
 rw [Jl];exact h.cap (i+1) (by omega)
structure VT(w0:World)(ks:List Ck)(ix:Nat)(As A4 A5:aiC)(n N:Nat)(A:aiC)(c:Nat)(rs:List aG)(xss:aiB)(S:Nat→Bool)(e:Env)(w:World):Prop where
 f0:e 0= .pointer As
 f4:e 4= .pointer A4
 f5:e 5= .pointer A5
 f6:e 6=aiD (N:Int)
 p0:S 0=true→e 30= .pointer (aq A5 0)
 p1:S 1=true→e 31= .slice A n c
 p2:S 2=true→e 32= .pointer As
 p3:S 3=true→e 33=aiD (N:Int)
 p7:S 7=true→e 37= .pointer (aq A5 0)
 mem:∃(Am:aiC) (cm:Nat) (ps:List Int) (na A':aiC) (c':Nat) (b1 b2:List Ck) (b3 kk:Ck) (vs:List Value),fz w0 As kk∧(S 4=true→e 34= .slice Am N cm∧Rg N ps∧b1=[ah 2 Am N cm ps])∧(S 5=true→e 35= .slice na 1 1∧b2=[bU 32 na 1 1 [⟨Am,N,cm⟩]])∧(S 6=false→b3=bU 32 A n c rs)∧(S 6=true→e 36= .slice A' (n+1) c'∧b3=bU 32 A' (n+1) c' (rs++ [⟨Am,N,cm⟩]))∧(S 8=false→vs=[.slice A n c])∧(S 8=true→vs=[.slice A' (n+1) c'])∧
  St w0 w (Bx 24 1 A5 vs::Bx 24 1 A4 [.slice none 0 0]::b3::(cS 2 rs xss++ (b2++ (b1++ks.set ix kk))))
theorem acD{w0 w:World}{ks:List Ck}(X:List Ck)(ix:Nat){As:aiC}{k:Ck}(n:Nat)(hS:St w0 w (X++ks))(hk:ks[ix]?=some k)(hK:fz w0 As k)(hn:n≤1000000):
 aA prog 162 [.pointer As,aiD (n:Int)] w (fun v w'=>∃A c xs k',v= .slice A n c∧Rg n xs∧fz w0 As k'∧St w0 w' (ah 2 A n c xs::(X++ks.set ix k'))):=by
 have e:(X++ks)[X.length+ix]?=some k:=by
  rw [jQ (by omega),Nat.add_sub_cancel_left];exact hk
 refine(SB (X.length+ix) n hS e hK hn).mono ?_;rintro v w' ⟨A,c,xs,k',h1,h2,h3,h4⟩;rw [show(X++ks).set (X.length+ix) k'=X++ks.set ix k' from by rw [List.set_append,ag (by omega),Nat.add_sub_cancel_left]]at h4;exact⟨A,c,xs,k',h1,h2,h3,h4⟩
theorem xg{S:Nat→Bool}{j k:Nat}(bE:S k=false)(h:S j=true→S k=true):S j=false:=by
 cases hj:S j with
 | false=>rfl
 | true=>rw [←bE];exact(h hj).symm
structure VS(w0:World)(ks:List Ck)(ix:Nat)(As A4 A5:aiC)(n N:Nat)(A:aiC)(c:Nat)(a0:aiC)(c0:Nat)(fw:List aG)(ki:aiB)(S:Nat→Bool)(e:Env)(w:World):Prop where
 f0:e 0= .pointer As
 f4:e 4= .pointer A4
 f5:e 5= .pointer A5
 f6:e 6=aiD (N:Int)
 p0:S 0=true→e 16= .pointer (aq A5 0)
 p1:S 1=true→e 17= .slice A n c
 p2:S 2=true→e 18= .pointer (aq A 0)
 p3:S 3=true→e 19= .slice a0 N c0
 p4:S 4=true→e 20= .pointer As
 p5:S 5=true→e 21=aiD (N:Int)
 p6:S 6=true→∃r:Int,e 22=aiD r∧0≤r∧r<N
 p7:S 7=true→e 23= .pointer As
 p8:S 8=true→e 24=aiD (N:Int)
 qE:S 10=true→∃x:Int,e 26=aiD x∧ -1≤x∧x≤20001
 qF:S 11=true→∃r:Int,e 27= .pointer (aq a0 r.toNat)∧0≤r∧r<N
 mem:∃(y:List Int) (lg:aiC) (b1:List Ck) (kk:Ck),fz w0 As kk∧(y.length=N∧∀x∈y,-1≤x∧x≤20001)∧(S 9=true→e 25= .slice lg 3 3∧b1=[ah 2 lg 3 3 [-1,(N:Int),0]])∧
  St w0 w (Bx 24 1 A5 [.slice A n c]::Bx 24 1 A4 [.slice none 0 0]::bU 32 A n c (⟨a0,N,c0⟩::fw)::ah 2 a0 N c0 y::(cS 2 fw ki++ (b1++ks.set ix kk)))
structure VU(w0:World)(ks:List Ck)(ix:Nat)(As A4 A5:aiC)(n N:Nat)(A:aiC)(c:Nat)(a0:aiC)(c0:Nat)(fw:List aG)(x0:List Int)(ki:aiB)(kk:Ck)(S:Nat→Bool)(e:Env)(w:World):Prop where
 f4:e 4= .pointer A4
 f5:e 5= .pointer A5
 f6:e 6=aiD (N:Int)
 p0:S 0=true→e 44= .pointer (aq A5 0)
 p1:S 1=true→e 45= .slice A n c
 p2:S 2=true→e 46= .pointer (aq A5 0)
 p3:S 3=true→e 47= .slice A n c
 p4:S 4=true→e 48= .pointer (aq A 0)
 p5:S 5=true→e 49= .slice a0 N c0
 p6:S 6=true→e 50=aiD (N:Int)
 p9:S 9=true→e 53= .pointer (aq A 0)
 mem:∃(oF A':aiC) (c':Nat) (b1:List Ck) (b3 b4:Ck),(S 7=true→e 51= .slice oF 1 1∧b1=[ah 2 oF 1 1 [(N:Int)]])∧(S 8=false→b3=ah 2 a0 N c0 x0)∧(S 8=true→e 52= .slice A' (N+1) c'∧b3=ah 2 A' (N+1) c' (x0++ [(N:Int)]))∧(S 10=false→b4=bU 32 A n c (⟨a0,N,c0⟩::fw))∧(S 10=true→b4=bU 32 A n c (⟨A',N+1,c'⟩::fw))∧
  St w0 w (Bx 24 1 A5 [.slice A n c]::Bx 24 1 A4 [.slice none 0 0]::b4::b3::(cS 2 fw ki++ (b1++ks.set ix kk)))
theorem SD{w0 w:World}{ks:List Ck}(X:List Ck)(ix:Nat){As:aiC}{k:Ck}(A:aiC)(n c:Nat)(xs:List Int)(hS:St w0 w (X++ks))(hk:ks[ix]?=some k)(hK:fz w0 As k)(hR:∀k' w',St w0 w' (X++ks.set ix k')→bS w' A n xs)(hn:0<n∧n≤1000000):
 aA prog 137 [.pointer As,.slice A n c] w (fun v w'=>∃(x:Int) (k':Ck),v=aiD x∧x∈xs∧fz w0 As k'∧St w0 w' (X++ks.set ix k')):=by
 have e:(X++ks)[X.length+ix]?=some k:=by
  rw [jQ (by omega),Nat.add_sub_cancel_left];exact hk
 have e2:∀k',(X++ks).set (X.length+ix) k'=X++ks.set ix k':=fun k'=>by rw [List.set_append,ag (by omega),Nat.add_sub_cancel_left]
 refine(acF (X.length+ix) A n c xs hS e hK (fun k' w' h=>hR k' w' (by rwa [e2]at h)) hn).mono ?_;rintro v w' ⟨x,k',h1,h2,h3,h4⟩;rw [e2]at h4;exact⟨x,k',h1,h2,h3,h4⟩
theorem acO{w0 w:World}{ks:List Ck}(ix:Nat){As:aiC}{k:Ck}(most:Nat)(hS:St w0 w ks)(hk:ks[ix]?=some k)(hK:fz w0 As k)(hm:8≤most∧most≤1000):
 aA prog 95 [.pointer As,aiD (most:Int)] w (M1 w0 ks ix As):=by
 refine bk func95 O ntmps95 O (qH O O) (aQ O (gS hS O ?_));intro A4 w1 ao;refine ad O (aa.call (acJ (ix+1) most ao (by exact hk) hK hm) O O O ?_);rintro _ w2 ⟨n,N,A,c,rs,xss,k1,rfl,hn,hN,bW,dA,hG,nw,ar⟩;refine gS ar O ?_;intro A5 w3 az;refine bG 1 0 az O O O O O O O ?_;intro w4 aJ;have aJ:St w0 w4 (Bx 24 1 A5 [.slice A n c]::(aE 32 2 A n c rs xss++ (Bx 24 1 A4 [.slice none 0 0]::ks.set ix k1))):=aJ;have aJ:St w0 w4 (Bx 24 1 A5 [.slice A n c]::Bx 24 1 A4 [.slice none 0 0]::(aE 32 2 A n c rs xss++ks.set ix k1)):=aJ.perm (List.Perm.cons _ iH);have eh:=lB (k':=k1) hk;refine ad O (aa.bq 0 (aJ.rd 0 O) O O O (aa.call (vA A n c rs xss w4 (St.gC aJ.tail.tail (by omega)) (by omega)) O O O ?_));rintro _ w5 ⟨rfl,hT⟩;have aK:=aJ.later hT.below;rw [hG.first (by omega)];refine ad O (aa.call (Fg (Bx 24 1 A5 [.slice A n c]::Bx 24 1 A4 [.slice none 0 0]::aE 32 2 A n c rs xss) ix 40 aK eh nw) O O O ?_);rintro _ w6 ⟨r,k2,rfl,hr,fB,aR⟩;rw [kI]at aR;have aR:St w0 w6 (Bx 24 1 A5 [.slice A n c]::Bx 24 1 A4 [.slice none 0 0]::(aE 32 2 A n c rs xss++ks.set ix k2)):=aR;have gk:=lB (k':=k2) hk;have kr:n≤c∧c≤9223372036854775807:=aR.cap 2 O;have tO:∀p∈xss,p.length≤20001∧∀x∈p,-1≤x∧x≤20001:=fun p hp=> ⟨by have:=(hG p hp).1;omega,fun x hx=>by have:=(hG p hp).2 x hx;omega⟩
 refine ay O ?_;refine aB _ O (fun h1=>?_) (fun h1=>?_)
 ·obtain⟨r0,fw,rfl⟩:∃r0 fw,rs=r0::fw:=by cases rs with | nil=>exact absurd bW (by simp;omega) | cons a b=>exact⟨a,b,rfl⟩
  obtain⟨x0,ki,rfl⟩:∃x0 ki,xss=x0::ki:=by cases xss with | nil=>exact absurd dA (by simp;omega) | cons a b=>exact⟨a,b,rfl⟩
  obtain⟨a0,n0,c0⟩:=r0;have sM:x0.length=N:=(hG x0 (List.mem_cons_self)).1;have qw:x0.length=n0:=((St.gC aR.tail.tail dA).at_ (i:=0) (by omega) (by omega)).1;obtain rfl:n0=N:=by omega
  refine xE (by kernel_rfl) (by kernel_rfl) (fun S e1 w1=>VS w0 ks ix As A4 A5 n n0 A c a0 c0 fw ki S e1 w1) (fun w7 hb=> ⟨O,O,O,O,fun h=> (nomatch h),fun h=> (nomatch h),fun h=> (nomatch h),fun h=> (nomatch h),fun h=> (nomatch h),fun h=> (nomatch h),fun h=> (nomatch h),fun h=> (nomatch h),fun h=> (nomatch h),fun h=> (nomatch h),fun h=> (nomatch h),x0,none,[],k2,fB,⟨sM,(tO x0 List.mem_cons_self).2⟩,fun h=> (nomatch h),aR.later hb⟩) ?_ ?_
  ·intro S i o e1 w7 hq bE hd cg hI;obtain⟨f0,f4,f5,f6,p0,p1,p2,p3,p4,p5,p6,p7,p8,qE,qF,y,lg,b1,kk,dw,hy,m9,hT⟩:=hI;have tH:=lB (k':=kk) hk;have eX:∀Y,(Bx 24 1 A5 [.slice A n c]::Bx 24 1 A4 [.slice none 0 0]::bU 32 A n c (⟨a0,n0,c0⟩::fw)::ah 2 a0 n0 c0 y::(cS 2 fw ki++ (b1++Y)))=(Bx 24 1 A5 [.slice A n c]::Bx 24 1 A4 [.slice none 0 0]::bU 32 A n c (⟨a0,n0,c0⟩::fw)::ah 2 a0 n0 c0 y::(cS 2 fw ki++b1))++Y:=fun Y=>by simp
   have uB:=hT;rw [eX]at uB
   match i,hq,bE with
   | 0,hq,bE=>
    obtain rfl:=cO hq;refine aH (hT.rd 0 O) (by exact f5) O O O inferInstance (aa.n ?_);exact⟨f0,f4,f5,f6,fun _=>O,p1,p2,p3,p4,p5,p6,p7,p8,qE,qF,y,lg,b1,kk,dw,hy,m9,hT⟩
   | 1,hq,bE=>
    obtain rfl:=cO hq;refine aM (hT.rd 0 O) (by exact p0 (cV hd 0 O)) O O O O (aa.n ?_);exact⟨f0,f4,f5,f6,p0,fun _=>O,p2,p3,p4,p5,p6,p7,p8,qE,qF,y,lg,b1,kk,dw,hy,m9,hT⟩
   | 2,hq,bE=>
    obtain rfl:=cO hq;refine aw (hT.rd 2 O) (by exact p1 (cV hd 1 O)) O O (by omega) (by show(0:Int)< (n:Int);omega) ?_;refine aa.n ?_;exact⟨f0,f4,f5,f6,p0,p1,fun _=>O,p3,p4,p5,p6,p7,p8,qE,qF,y,lg,b1,kk,dw,hy,m9,hT⟩
   | 3,hq,bE=>
    obtain rfl:=cO hq;refine bQ (i:=0) (hT.il 2 O) (by exact p2 (cV hd 2 O)) (by show 0<n;omega) O O ?_;refine aa.n ?_;exact⟨f0,f4,f5,f6,p0,p1,p2,fun _=>O,p4,p5,p6,p7,p8,qE,qF,y,lg,b1,kk,dw,hy,m9,hT⟩
   | 4,hq,bE=>
    obtain rfl:=cO hq;refine y8 O (by exact f0) O (aa.n ?_);exact⟨f0,f4,f5,f6,p0,p1,p2,p3,fun _=>O,p5,p6,p7,p8,qE,qF,y,lg,b1,kk,dw,hy,m9,hT⟩
   | 5,hq,bE=>
    obtain rfl:=cO hq;refine pI O (by exact f6) O (aa.n ?_);exact⟨f0,f4,f5,f6,p0,p1,p2,p3,p4,fun _=>O,p6,p7,p8,qE,qF,y,lg,b1,kk,dw,hy,m9,hT⟩
   | 6,hq,bE=>
    obtain rfl:=cO hq;refine aa.call (Fg _ ix (n0:Int) uB tH dw) O (by exact xu (p4 (cV hd 4 O)) (p5 (cV hd 5 O))) O ?_;rintro _ w8 ⟨r7,k7,rfl,Ev,sl,dF⟩;rw [kI,←eX]at dF;refine aa.n ?_;exact⟨f0,f4,f5,f6,p0,p1,p2,p3,p4,p5,fun _=> ⟨r7,O,Ev.1,Ev.2.1 (by omega)⟩,p7,p8,qE,qF,y,lg,b1,k7,sl,hy,m9,dF⟩
   | 7,hq,bE=>
    obtain rfl:=cO hq;refine y8 O (by exact f0) O (aa.n ?_);exact⟨f0,f4,f5,f6,p0,p1,p2,p3,p4,p5,p6,fun _=>O,p8,qE,qF,y,lg,b1,kk,dw,hy,m9,hT⟩
   | 8,hq,bE=>
    obtain rfl:=cO hq;refine pI O (by exact f6) O (aa.n ?_);exact⟨f0,f4,f5,f6,p0,p1,p2,p3,p4,p5,p6,p7,fun _=>O,qE,qF,y,lg,b1,kk,dw,hy,m9,hT⟩
   | 9,hq,bE=>
    obtain rfl:=cO hq;refine vc [-1,(n0:Int),0] (hT.sub (List.Sublist.cons_cons _ (List.Sublist.cons_cons _ (List.Sublist.cons_cons _ (List.Sublist.cons_cons _ ((fJ _).append (gR _ _))))))) (by have wj:e1 24=aiD (n0:Int):=p8 (cV hd 8 O);simp [ev,wj,zU]) O (by decide) (by decide) O O ?_;intro lg w8 ew;have js:St w0 w8 (Bx 24 1 A5 [.slice A n c]::Bx 24 1 A4 [.slice none 0 0]::bU 32 A n c (⟨a0,n0,c0⟩::fw)::ah 2 a0 n0 c0 y::(cS 2 fw ki++ ([ah 2 lg 3 3 [-1,(n0:Int),0]]++ks.set ix kk))):=ew.perm (iH (l₁:=Bx 24 1 A5 [.slice A n c]::Bx 24 1 A4 [.slice none 0 0]::bU 32 A n c (⟨a0,n0,c0⟩::fw)::ah 2 a0 n0 c0 y::cS 2 fw ki)).symm;refine aa.n ?_;exact⟨f0,f4,f5,f6,p0,p1,p2,p3,p4,p5,p6,p7,p8,qE,qF,y,lg,_,kk,dw,hy,fun _=> ⟨O,O⟩,js⟩
   | 10,hq,bE=>
    obtain rfl:=cO hq;obtain⟨Gp,rfl⟩:=m9 (cV hd 9 rfl);refine aa.call (SD _ ix lg 3 3 [-1,(n0:Int),0] uB tH dw (fun k' w' h=>by rw [←eX]at h;exact St.bc (i:=0) (h.sub (((gR _ _).cons _).cons _ |>.cons _ |>.cons _)) O) (by decide)) O (by exact xu (p7 (cV hd 7 O)) Gp) O ?_;rintro _ w8 ⟨x,k7,rfl,hx,sl,dF⟩;rw [kI,←eX]at dF;have R8: -1≤x∧x≤20001:=by
     simp only [iW,List.not_mem_nil,or_false]at hx;rcases hx with rfl | rfl | rfl<;>omega
    refine aa.n ?_;exact⟨f0,f4,f5,f6,p0,p1,p2,p3,p4,p5,p6,p7,p8,fun _=> ⟨x,O,R8⟩,qF,y,lg,_,k7,sl,hy,fun _=> ⟨Gp,O⟩,dF⟩
   | 11,hq,bE=>
    obtain rfl:=cO hq;obtain⟨r,YZ,hr⟩:=p6 (cV hd 6 rfl);refine aw (hT.rd 3 O) (by exact p3 (cV hd 3 O)) (by exact YZ) O (by omega) (by show r< (n0:Int);omega) ?_;refine aa.n ?_;exact⟨f0,f4,f5,f6,p0,p1,p2,p3,p4,p5,p6,p7,p8,qE,fun _=> ⟨r,O,hr⟩,y,lg,b1,kk,dw,hy,m9,hT⟩
   | 12,hq,bE=>
    obtain rfl:=cO hq;obtain⟨r,Gq,hr⟩:=qF (cV hd 11 rfl);obtain⟨x,DE,hx⟩:=qE (cV hd 10 rfl);refine jR 3 hT O (by exact Gq) (by exact DE) (by omega) ?_;intro w8 ew;refine aa.n ?_;exact⟨f0,f4,f5,f6,p0,p1,p2,p3,p4,p5,p6,p7,p8,qE,qF,y.set r.toNat x,lg,b1,kk,dw,⟨by rw [iw];exact hy.1,fun z hz=> (List.mem_or_eq_of_mem_set hz).elim (hy.2 z) (fun h=>h▸hx)⟩,m9,ew⟩
   | i+13,hq,_=>exact(nomatch hq)
  ·intro S e1 w7 dL hI;obtain⟨f0,f4,f5,f6,p0,p1,p2,p3,p4,p5,p6,p7,p8,qE,qF,y,lg,b1,kk,dw,hy,m9,hT⟩:=hI;refine CN (F:=[(4,.pointer A4),(5,.pointer A5)]) ⟨f4,f5,ae⟩ (iq O (aa.bq 0 (hT.rd 0 O) O O O (bG 1 1 hT O O O O O O O ?_)));intro kh fK;refine bh O (kX O (fK.rd 1 O) ?_);exact⟨n,A,c,⟨a0,n0,c0⟩::fw,y::ki,aE 32 2 A n c (⟨a0,n0,c0⟩::fw) (y::ki),kk,O,by omega,kr,fun p hp=> (iW.1 hp).elim (fun h=>h▸⟨by omega,hy.2⟩) (fun h=>tO p (oK _ h)),dw,fun lO Y h=>St.gC h (by simpa using dA),fK.tail.tail.sub (List.Sublist.cons_cons _ (List.Sublist.cons_cons _ ((fJ _).append (gR _ _))))⟩
 ·refine bP O ?_;refine aB _ O (fun h2=>?_) (fun h2=>?_)
  ·skip
   refine xE (by kernel_rfl) (by kernel_rfl) (fun S e1 w1=>VT w0 ks ix As A4 A5 n N A c rs xss S e1 w1) (fun w7 hb=> ⟨O,O,O,O,fun h=> (nomatch h),fun h=> (nomatch h),fun h=> (nomatch h),fun h=> (nomatch h),fun h=> (nomatch h),none,0,[],none,none,0,[],[],bU 32 A n c rs,k2,[.slice A n c],fB,fun h=> (nomatch h),fun h=> (nomatch h),fun _=>O,fun h=> (nomatch h),fun _=>O,fun h=> (nomatch h),aR.later hb⟩) ?_ ?_
   ·intro S i o e1 w7 hq bE hd cg hI;obtain⟨f0,f4,f5,f6,p0,p1,p2,p3,p7,Am,cm,ps,na,A',c',b1,b2,b3,kk,vs,dw,m4,m5,vD,m6,lN,m8,hT⟩:=hI
    match i,hq,bE with
    | 0,hq,bE=>
     obtain rfl:=cO hq;refine aH (hT.rd 0 O) (by exact f5) O O O inferInstance (aa.n ?_);exact⟨f0,f4,f5,f6,fun _=>O,p1,p2,p3,p7,Am,cm,ps,na,A',c',b1,b2,b3,kk,vs,dw,m4,m5,vD,m6,lN,m8,hT⟩
    | 1,hq,bE=>
     obtain rfl:=cO hq;obtain rfl:=lN (xg bE fun h=>cV (cg 8 _ h rfl) 1 rfl);refine aM (hT.rd 0 O) (by exact p0 (cV hd 0 O)) O O O O (aa.n ?_);exact⟨f0,f4,f5,f6,p0,fun _=>O,p2,p3,p7,Am,cm,ps,na,A',c',b1,b2,b3,kk,_,dw,m4,m5,vD,m6,lN,m8,hT⟩
    | 2,hq,bE=>
     obtain rfl:=cO hq;refine y8 O (by exact f0) O (aa.n ?_);exact⟨f0,f4,f5,f6,p0,p1,fun _=>O,p3,p7,Am,cm,ps,na,A',c',b1,b2,b3,kk,vs,dw,m4,m5,vD,m6,lN,m8,hT⟩
    | 3,hq,bE=>
     obtain rfl:=cO hq;refine pI O (by exact f6) O (aa.n ?_);exact⟨f0,f4,f5,f6,p0,p1,p2,fun _=>O,p7,Am,cm,ps,na,A',c',b1,b2,b3,kk,vs,dw,m4,m5,vD,m6,lN,m8,hT⟩
    | 4,hq,bE=>
     obtain rfl:=cO hq;have tH:=lB (k':=kk) hk;have n5:S 5=false:=(xg bE fun h=>cV (cg 5 _ h O) 4 O);have n6:S 6=false:=(xg bE fun h=>cV (cg 6 _ h O) 4 O);have uB:St w0 w7 ((Bx 24 1 A5 vs::Bx 24 1 A4 [.slice none 0 0]::b3::(cS 2 rs xss++b2))++ks.set ix kk):=hT.sub (List.Sublist.cons_cons _ (List.Sublist.cons_cons _ (List.Sublist.cons_cons _ (by show List.Sublist ((cS 2 rs xss++b2)++ks.set ix kk) _;rw [fR];exact(fJ _).append ((fJ _).append (gR _ _))))));refine aa.call (acD _ ix N uB tH dw (by omega)) O (by exact xu (p2 (cV hd 2 O)) (p3 (cV hd 3 O))) O ?_;rintro _ w8 ⟨Am,cm,ps,k7,rfl,jZ,sl,dF⟩;rw [kI]at dF;have ew:St w0 w8 (Bx 24 1 A5 vs::Bx 24 1 A4 [.slice none 0 0]::b3::(cS 2 rs xss++ (b2++ ([ah 2 Am N cm ps]++ks.set ix k7)))):=by
      have e:(Bx 24 1 A5 vs::Bx 24 1 A4 [.slice none 0 0]::b3::(cS 2 rs xss++ (b2++ ([ah 2 Am N cm ps]++ks.set ix k7))))=(Bx 24 1 A5 vs::Bx 24 1 A4 [.slice none 0 0]::b3::(cS 2 rs xss++b2))++ (ah 2 Am N cm ps::ks.set ix k7):=by simp
      rw [e];exact dF.perm iH.symm
     refine aa.n ?_;exact⟨f0,f4,f5,f6,p0,p1,p2,p3,p7,Am,cm,ps,na,A',c',[ah 2 Am N cm ps],b2,b3,k7,vs,sl,fun _=> ⟨O,jZ,O⟩,fun h=> (nomatch n5.symm.trans h),vD,fun h=> (nomatch n6.symm.trans h),lN,m8,ew⟩
    | 5,hq,bE=>
     obtain rfl:=cO hq;obtain⟨Pz,jZ,rfl⟩:=m4 (cV hd 4 rfl);have n6:S 6=false:=(xg bE fun h=>cV (cg 6 _ h O) 5 O);refine nj (hT.sub (ks':=Bx 24 1 A5 vs::Bx 24 1 A4 [.slice none 0 0]::b3::(cS 2 rs xss++ ([ah 2 Am N cm ps]++ks.set ix kk))) (List.Sublist.cons_cons _ (List.Sublist.cons_cons _ (List.Sublist.cons_cons _ ((fJ _).append (gR _ _)))))) (by exact Pz) O O ?_;intro na w8 ew;have ew:St w0 w8 (Bx 24 1 A5 vs::Bx 24 1 A4 [.slice none 0 0]::b3::(cS 2 rs xss++ ([bU 32 na 1 1 [⟨Am,N,cm⟩]]++ ([ah 2 Am N cm ps]++ks.set ix kk)))):=ew.perm (iH (l₁:=Bx 24 1 A5 vs::Bx 24 1 A4 [.slice none 0 0]::b3::cS 2 rs xss)).symm;refine aa.n ?_;exact⟨f0,f4,f5,f6,p0,p1,p2,p3,p7,Am,cm,ps,na,A',c',_,[bU 32 na 1 1 [⟨Am,N,cm⟩]],b3,kk,vs,dw,fun _=> ⟨Pz,jZ,O⟩,fun _=> ⟨O,O⟩,vD,fun h=> (nomatch n6.symm.trans h),lN,m8,ew⟩
    | 6,hq,bE=>
     obtain rfl:=cO hq;obtain⟨DF,rfl⟩:=m5 (cV hd 5 rfl);obtain rfl:=vD bE;have n8:S 8=false:=(xg bE fun h=>cV (cg 8 _ h O) 6 O);have hR:jD w7 na 1 [⟨Am,N,cm⟩]:=St.il (i:=0) (hT.sub (ks':=bU 32 na 1 1 [⟨Am,N,cm⟩]::(b1++ks.set ix kk)) (((gR _ _).cons _).cons _ |>.cons _)) O;refine oM 2 hT O hR (by exact p1 (cV hd 1 O)) (by exact DF) O (by omega) (by omega) O ?_;intro A' c' w8 ew;refine aa.n ?_;exact⟨f0,f4,f5,f6,p0,p1,p2,p3,p7,Am,cm,ps,na,A',c',b1,_,bU 32 A' (n+1) c' (rs++ [⟨Am,N,cm⟩]),kk,vs,dw,m4,fun _=> ⟨DF,O⟩,fun h=> (nomatch (show true=false from h)),fun _=> ⟨O,O⟩,lN,fun h=> (nomatch n8.symm.trans h),ew⟩
    | 7,hq,bE=>
     obtain rfl:=cO hq;refine aH (hT.rd 0 O) (by exact f5) O O O inferInstance (aa.n ?_);exact⟨f0,f4,f5,f6,p0,p1,p2,p3,fun _=>O,Am,cm,ps,na,A',c',b1,b2,b3,kk,vs,dw,m4,m5,vD,m6,lN,m8,hT⟩
    | 8,hq,bE=>
     obtain rfl:=cO hq;obtain⟨PC,rfl⟩:=m6 (cV hd 6 rfl);obtain rfl:=lN bE;refine jS 0 hT O (by exact p7 (cV hd 7 O)) (by exact PC) O O ?_;intro w8 ew;refine aa.n ?_;exact⟨f0,f4,f5,f6,p0,p1,p2,p3,p7,Am,cm,ps,na,A',c',b1,b2,_,kk,[.slice A' (n+1) c'],dw,m4,m5,vD,fun _=> ⟨PC,O⟩,fun h=> (nomatch (show true=false from h)),fun _=>O,ew⟩
    | i+9,hq,_=>exact(nomatch hq)
   ·intro S e1 w7 dL hI;obtain⟨f0,f4,f5,f6,p0,p1,p2,p3,p7,Am,cm,ps,na,A',c',b1,b2,b3,kk,vs,dw,m4,m5,vD,m6,lN,m8,hT⟩:=hI;obtain⟨_,jZ,rfl⟩:=m4 (dL 4 (by decide));obtain⟨_,rfl⟩:=m6 (dL 6 (by decide));obtain rfl:=m8 (dL 8 (by decide));have Z9:n+1≤c'∧c'≤9223372036854775807:=hT.cap 2 O;have hT:St w0 w7 (Bx 24 1 A5 [.slice A' (n+1) c']::Bx 24 1 A4 [.slice none 0 0]::(aE 32 2 A' (n+1) c' (rs++ [⟨Am,N,cm⟩]) (xss++ [ps])++ks.set ix kk)):=by
     refine(hT.sub (ks':=Bx 24 1 A5 [.slice A' (n+1) c']::Bx 24 1 A4 [.slice none 0 0]::bU 32 A' (n+1) c' (rs++ [⟨Am,N,cm⟩])::(cS 2 rs xss++ ([ah 2 Am N cm ps]++ks.set ix kk))) (List.Sublist.cons_cons _ (List.Sublist.cons_cons _ (List.Sublist.cons_cons _ ((fJ _).append (gR _ _)))))).perm ?_;refine List.Perm.cons _ (List.Perm.cons _ ?_);show List.Perm _ (bU 32 A' (n+1) c' (rs++ [⟨Am,N,cm⟩])::(cS 2 (rs++ [⟨Am,N,cm⟩]) (xss++ [ps])++ks.set ix kk));rw [CU (by omega),←fR];exact List.Perm.refl _
    refine CN (F:=[(4,.pointer A4),(5,.pointer A5)]) ⟨f4,f5,ae⟩ (iq O (aa.bq 0 (hT.rd 0 O) O O O (bG 1 1 hT O O O O O O O ?_)));intro kh fK;refine bh O (kX O (fK.rd 1 O) ?_);exact⟨n+1,A',c',_,xss++ [ps],_,kk,rfl,by omega,Z9,fun p hp=> (iG.1 hp).elim (tO p) (fun h=>by rw [eT]at h;subst h;exact⟨by have:=jZ.1;omega,fun x hx=>by have:=jZ.2 x hx;omega⟩),dw,fun lO Y h=>St.gC h (by simp [dA]),fK.tail.tail⟩
  ·refine bP O ?_;refine aB _ O (fun h3=>?_) (fun h3=>?_)
   ·refine av O (jl aR O ?_);intro rQ w7 aV;refine aH (aV.rd 1 O) O O O O inferInstance (jS 1 aV O O O O O ?_);intro w8 bA;have bA:St w0 w8 ([Bx 24 1 A5 [.slice rQ 0 0],Bx 24 1 A4 [.slice none 0 0]]++ (aE 32 2 rQ 0 0 [] []++ks.set ix k2)):=by
     refine(bA.sub (ks':=aE 32 2 rQ 0 0 [] []++ ([Bx 24 1 A5 [.slice rQ 0 0],Bx 24 1 A4 [.slice none 0 0]]++ks.set ix k2)) ?_).perm ?_
     ·exact List.Sublist.cons_cons _ (List.Sublist.cons_cons _ (List.Sublist.cons_cons _ (gR _ _)))
     ·exact(iH (l₁:=[_,_])).symm
    refine ad O (aa.bq 0 (bA.rd 0 O) O O O (bG 1 1 bA O O O O O O O ?_));intro kh fK;refine bh O (kX O (fK.rd 1 O) ?_);exact⟨0,rQ,0,[],[],_,k2,O,by omega,by decide,fun p hp=> (nomatch hp),fB,fun lO Y h=>St.gC h O,fK.tail.tail⟩
   ·refine bP O ?_;refine aB _ O (fun h4=>?_) (fun h4=>?_)
    ·obtain⟨r0,fw,rfl⟩:∃r0 fw,rs=r0::fw:=by cases rs with | nil=>exact absurd bW (by simp;omega) | cons a b=>exact⟨a,b,rfl⟩
     obtain⟨x0,ki,rfl⟩:∃x0 ki,xss=x0::ki:=by cases xss with | nil=>exact absurd dA (by simp;omega) | cons a b=>exact⟨a,b,rfl⟩
     obtain⟨a0,n0,c0⟩:=r0;have sM:x0.length=N:=(hG x0 (List.mem_cons_self)).1;have qw:x0.length=n0:=((St.gC aR.tail.tail dA).at_ (i:=0) (by omega) (by omega)).1;obtain rfl:n0=N:=by omega
     refine xE (by kernel_rfl) (by kernel_rfl) (fun S e1 w1=>VU w0 ks ix As A4 A5 n n0 A c a0 c0 fw x0 ki k2 S e1 w1) (fun w7 hb=> ⟨O,O,O,fun h=> (nomatch h),fun h=> (nomatch h),fun h=> (nomatch h),fun h=> (nomatch h),fun h=> (nomatch h),fun h=> (nomatch h),fun h=> (nomatch h),fun h=> (nomatch h),none,none,0,[],_,_,fun h=> (nomatch h),fun _=>O,fun h=> (nomatch h),fun _=>O,fun h=> (nomatch h),aR.later hb⟩) ?_ ?_
     ·intro S i o e1 w7 hq bE hd cg hI;obtain⟨f4,f5,f6,p0,p1,p2,p3,p4,p5,p6,p9,oF,A',c',b1,b3,b4,m7,lN,m8,qC,m10,hT⟩:=hI
      match i,hq,bE with
      | 0,hq,bE=>
       obtain rfl:=cO hq;refine aH (hT.rd 0 O) (by exact f5) O O O inferInstance (aa.n ?_);exact⟨f4,f5,f6,fun _=>O,p1,p2,p3,p4,p5,p6,p9,oF,A',c',b1,b3,b4,m7,lN,m8,qC,m10,hT⟩
      | 1,hq,bE=>
       obtain rfl:=cO hq;refine aM (hT.rd 0 O) (by exact p0 (cV hd 0 O)) O O O O (aa.n ?_);exact⟨f4,f5,f6,p0,fun _=>O,p2,p3,p4,p5,p6,p9,oF,A',c',b1,b3,b4,m7,lN,m8,qC,m10,hT⟩
      | 2,hq,bE=>
       obtain rfl:=cO hq;refine aH (hT.rd 0 O) (by exact f5) O O O inferInstance (aa.n ?_);exact⟨f4,f5,f6,p0,p1,fun _=>O,p3,p4,p5,p6,p9,oF,A',c',b1,b3,b4,m7,lN,m8,qC,m10,hT⟩
      | 3,hq,bE=>
       obtain rfl:=cO hq;refine aM (hT.rd 0 O) (by exact p2 (cV hd 2 O)) O O O O (aa.n ?_);exact⟨f4,f5,f6,p0,p1,p2,fun _=>O,p4,p5,p6,p9,oF,A',c',b1,b3,b4,m7,lN,m8,qC,m10,hT⟩
      | 4,hq,bE=>
       obtain rfl:=cO hq;obtain rfl:=qC (xg bE fun h=>cV (cg 10 _ h rfl) 4 rfl);refine aw (hT.rd 2 O) (by exact p3 (cV hd 3 O)) O O (by omega) (by show(0:Int)< (n:Int);omega) ?_;refine aa.n ?_;exact⟨f4,f5,f6,p0,p1,p2,p3,fun _=>O,p5,p6,p9,oF,A',c',b1,b3,_,m7,lN,m8,qC,m10,hT⟩
      | 5,hq,bE=>
       obtain rfl:=cO hq;obtain rfl:=qC (xg bE fun h=>cV (cg 10 _ h rfl) 5 rfl);refine bQ (i:=0) (hT.il 2 O) (by exact p4 (cV hd 4 O)) (by show 0<n;omega) O O ?_;refine aa.n ?_;exact⟨f4,f5,f6,p0,p1,p2,p3,p4,fun _=>O,p6,p9,oF,A',c',b1,b3,_,m7,lN,m8,qC,m10,hT⟩
      | 6,hq,bE=>
       obtain rfl:=cO hq;refine pI O (by exact f6) O (aa.n ?_);exact⟨f4,f5,f6,p0,p1,p2,p3,p4,p5,fun _=>O,p9,oF,A',c',b1,b3,b4,m7,lN,m8,qC,m10,hT⟩
      | 7,hq,bE=>
       obtain rfl:=cO hq;refine dJ (hT.sub (ks':=Bx 24 1 A5 [.slice A n c]::Bx 24 1 A4 [.slice none 0 0]::b4::b3::(cS 2 fw ki++ks.set ix k2)) (List.Sublist.cons_cons _ (List.Sublist.cons_cons _ (List.Sublist.cons_cons _ (List.Sublist.cons_cons _ ((fJ _).append (gR _ _))))))) (by exact p6 (cV hd 6 O)) O O ?_;intro oF w8 ew;have js:St w0 w8 (Bx 24 1 A5 [.slice A n c]::Bx 24 1 A4 [.slice none 0 0]::b4::b3::(cS 2 fw ki++ ([ah 2 oF 1 1 [(n0:Int)]]++ks.set ix k2))):=ew.perm (iH (l₁:=Bx 24 1 A5 [.slice A n c]::Bx 24 1 A4 [.slice none 0 0]::b4::b3::cS 2 fw ki)).symm;refine aa.n ?_;exact⟨f4,f5,f6,p0,p1,p2,p3,p4,p5,p6,p9,oF,A',c',_,b3,b4,fun _=> ⟨O,O⟩,lN,m8,qC,m10,js⟩
      | 8,hq,bE=>
       obtain rfl:=cO hq;obtain⟨PD,rfl⟩:=m7 (cV hd 7 rfl);obtain rfl:=lN bE;have n10:S 10=false:=(xg bE fun h=>cV (cg 10 _ h O) 8 O);have hR:bS w7 oF 1 [(n0:Int)]:=St.bc (i:=0) (hT.sub (((gR _ _).cons _).cons _ |>.cons _ |>.cons _)) O;refine eK 3 hT O hR (by exact p5 (cV hd 5 O)) (by exact PD) O (by omega) (by omega) O ?_;intro A' c' w8 ew;refine aa.n ?_;exact⟨f4,f5,f6,p0,p1,p2,p3,p4,p5,p6,p9,oF,A',c',_,_,b4,fun _=> ⟨PD,O⟩,fun h=> (nomatch (show true=false from h)),fun _=> ⟨O,O⟩,qC,fun h=> (nomatch n10.symm.trans h),ew⟩
      | 9,hq,bE=>
       obtain rfl:=cO hq;obtain rfl:=qC (xg bE fun h=>cV (cg 10 _ h rfl) 9 rfl);refine aw (hT.rd 2 O) (by exact p1 (cV hd 1 O)) O O (by omega) (by show(0:Int)< (n:Int);omega) ?_;refine aa.n ?_;exact⟨f4,f5,f6,p0,p1,p2,p3,p4,p5,p6,fun _=>O,oF,A',c',b1,b3,_,m7,lN,m8,qC,m10,hT⟩
      | 10,hq,bE=>
       obtain rfl:=cO hq;obtain⟨PE,rfl⟩:=m8 (cV hd 8 rfl);obtain rfl:=qC bE;refine zc (i:=0) 2 hT O (by exact p9 (cV hd 9 O)) (by exact PE) (by show 0<n;omega) ?_;intro w8 ew;refine aa.n ?_;exact⟨f4,f5,f6,p0,p1,p2,p3,p4,p5,p6,p9,oF,A',c',b1,_,_,m7,lN,fun _=> ⟨PE,O⟩,fun h=> (nomatch (show true=false from h)),fun _=>O,ew⟩
      | i+11,hq,_=>exact(nomatch hq)
     ·intro S e1 w7 dL hI;obtain⟨f4,f5,f6,p0,p1,p2,p3,p4,p5,p6,p9,oF,A',c',b1,b3,b4,m7,lN,m8,qC,m10,hT⟩:=hI;obtain⟨_,rfl⟩:=m8 (dL 8 (by decide));obtain rfl:=m10 (dL 10 (by decide));refine CN (F:=[(4,.pointer A4),(5,.pointer A5)]) ⟨f4,f5,ae⟩ (iq O (aa.bq 0 (hT.rd 0 O) O O O (bG 1 1 hT O O O O O O O ?_)));intro kh fK;refine bh O (kX O (fK.rd 1 O) ?_);exact⟨n,A,c,⟨A',n0+1,c'⟩::fw,(x0++ [(n0:Int)])::ki,aE 32 2 A n c (⟨A',n0+1,c'⟩::fw) ((x0++ [(n0:Int)])::ki),k2,O,by omega,kr,fun p hp=> (iW.1 hp).elim (fun h=>h▸⟨by simp;omega,fun x hx=> (iG.1 hx).elim ((tO x0 List.mem_cons_self).2 x) (fun h=>by rw [eT]at h;omega)⟩) (fun h=>tO p (oK _ h)),fB,fun lO Y h=>St.gC h (by simpa using dA),fK.tail.tail.sub (List.Sublist.cons_cons _ (List.Sublist.cons_cons _ ((fJ _).append (gR _ _))))⟩
    ·refine bP O ?_;refine aB _ O (fun h5=>?_) (fun h5=>?_)
     ·refine av O (aH (aR.rd 0 O) O O O O inferInstance (aM (aR.rd 0 O) O O O O O (FA O O O (by omega) (aH (aR.rd 0 O) O O O O inferInstance (jS 0 aR O O O O O ?_)))));intro w7 aV;refine ad O (aa.bq 0 (aV.rd 0 O) O O O (bG 1 1 aV O O O O O O O ?_));intro kh fK;refine bh O (kX O (fK.rd 1 O) ?_);exact⟨n - 1,cutAt A c 1,c - 1,rs.drop 1,xss.drop 1,_,k2,O,by omega,by omega,fun p hp=>tO p (List.mem_of_mem_drop hp),fB,fun lO Y h=> (St.gC h dA).XT (by omega) (by omega),fK.tail.tail⟩
     ·skip
      refine av O (aa.bq 0 (aR.rd 0 O) O O O (bG 1 1 aR O O O O O O O ?_));intro kh fK;refine bh O (kX O (fK.rd 1 O) ?_);exact⟨n,A,c,rs,xss,_,k2,O,by omega,kr,tO,fB,fun lO Y h=>St.gC h dA,fK.tail.tail⟩
section
variable {P:Program} {N:Nat} {ops:Array Oper} {K:Env→World→Prop} {rest:List Oper} {e:Env} {w0 w w':World} {ks:List Ck} {d:Nat} {ty:TypeId} {pos:String} {af:Array Edge}
def Cv:Nat→List Value→List (Nat×Value)
 | _,[]=> []
 | k,v::r=> (k,v)::Cv (k+1) r
theorem OO:∀(vs:List Value) (k:Nat) (cells:Array Value),(∀v∈vs,v.cells= #[v])→k+vs.length≤cells.size→∃out,Instr.fill (fun i=>some (i*1,1)) cells (Cv k vs)=some out∧out.size=cells.size∧(∀j,j<k→out[j]?=cells[j]?)∧(∀j,j<vs.length→out[k+j]?=vs[j]?)∧(∀j,k+vs.length≤j→out[j]?=cells[j]?)
 | [],k,cells,_,_=> ⟨cells,rfl,rfl,fun _ _=>rfl,fun j hj=>absurd hj (jk _),fun _ _=>rfl⟩
 | v::r,k,cells,hv,h=>by
  have hk:k<cells.size:=by simp at h;omega
  have hc:v.cells= #[v]:=hv v (by simp);obtain⟨out,h1,h2,h3,h4,h5⟩:=OO r (k+1) (cells.setIfInBounds k v) (fun u hu=>hv u (by simp [hu])) (by simp at h⊢;omega);refine⟨out,?_,by rw [h2];simp,fun j hj=>?_,fun j hj=>?_,fun j hj=>?_⟩
  ·show Instr.fill _ cells ((k,v)::Cv (k+1) r)=some out;rw [←h1];simp [Instr.fill,hc,show ¬cells.size<k+1 by omega]
  ·rw [h3 j (by omega),sX,ag (by omega)]
  ·cases j with
   | zero=>rw [Nat.add_zero,h3 k (by omega),sX,aj rfl,aj hk];rfl
   | succ q=>
    have:=h4 q (by simpa using hj);rw [show k+ (q+1)=k+1+q by omega,this]
    rfl
  ·rw [h5 j (by simp at hj⊢;omega),sX,ag (by simp at hj;omega)]
theorem Yf(vs:List Value)(cells:Array Value)(hv:∀v∈vs,v.cells= #[v])(h:cells.size=vs.length):Instr.fill (fun i=>some (i*1,1)) cells (Cv 0 vs)=some vs.toArray:=by
 obtain⟨out,h1,h2,_,h4,_⟩:=OO vs 0 cells hv (by omega);rw [h1]
 congr 1
 apply Array.ext';apply List.ext_getElem?;intro j
 by_cases hj:j<vs.length
 ·have:=h4 j hj;rw [Nat.zero_add]at this;simpa using this
 rw [oH (by simpa [h2,h]using hj),oH (by simpa using hj)]
theorem VD{t el:TypeId}{z:Value}{b n:Nat}[bB P t (.slice el)][bp P el z 1 b]{ps:Array (Nat×Operand)}(ss:List aG)(hS:St w0 w ks)(hv:(ps.toList.map fun p=> (p.1,ev e p.2))=Cv 0 (ss.map aG.v))(hn:ss.length=n)(qt:n≠0)(uJ:n≤1000)(hz:z.cells= #[z])(hb:Nat.blt d N=true)(hK:∀A w',St w0 w' (bU el A n n ss::ks)→aa P N ops K rest (a7 e d (.slice A n n)) w'):aa P N ops K (⟨some d,.buildSlice t n ps,ty,pos,af,none⟩::rest) e w:=by
 subst hn;obtain⟨inf,hi,fv,hs,iS⟩:=bp.get P el;have hA:=hS.alloc (ss.map aG.v) el (by simp [maxLen];omega) (Cy _);refine .val (w':=w.alloc (.cells (ss.map aG.v).toArray el)) ?_ hb (hK _ _ (by simpa [bU]using hA));have hf:=Yf (ss.map aG.v) ((Array.range (ss.length*1)).map ((#[z]:Array Value)[· % (#[z]:Array Value).size]!)) (fun v hv=>by obtain⟨s,_,rfl⟩:=dh.1 hv;rfl) (by simp);have sL:(ps.map fun p=> (p.1,ev e p.2)).toList=Cv 0 (ss.map aG.v):=by rw [Array.toList_map];exact hv
 have wj:¬16777216<ss.length:=by omega
 simp only [Nat.mul_one]at hf;simp [execOp,Instr.buildSlice,run_underlying (bB.out (P:=P) (t:=t)),sizeOf,typeInfo,zeroValue,hi,hs,fv,hz,newRow,hv,wj,qt];simp at hf;simp [hf]
end
section
variable {P:Program} {N:Nat} {ops:Array Oper} {K:Env→World→Prop} {rest:List Oper} {e:Env} {w:World} {d:Nat} {ty:TypeId} {pos:String} {af:Array Edge} {x y:Operand} {xt yt:TypeId}
def xw(m:Nat):Nat:=if m%2=0 then m+1 else m - 1
theorem agQ:∀m:Nat,m<33→bits .xor .i64 (m:Int) 1=(xw m:Int):=by decide
theorem Nq{m:Nat}(hx:ev e x=aiD (m:Int))(hy:ev e y=aiD 1)(hm:m≤32)(hb:Nat.blt d N=true)(hK:aa P N ops K rest (a7 e d (aiD (xw m:Int))) w):
 aa P N ops K (⟨some d,.binOp .xor xt x y yt,ty,pos,af,none⟩::rest) e w:=
 .val (by simp only [execOp,hx,hy,eqGuard,binOp,intBits_xor,agQ m (by omega)];simp) hb hK
end
theorem UT{m a:Nat}(h:m<8*a):xw m<8*a:=by
 unfold xw
 split<;>omega
def xO(f n:Nat)(xs:List Int):Prop:=xs.length=f∧∀x∈xs,0≤x∧x< (n:Int)
theorem xO.snoc{f n:Nat}{xs:List Int}(h:xO f n xs){v:Int}(h0:0≤v)(h1:v<n):xO (f+1) n (xs++ [v]):=by
 refine⟨by rw [dm,h.1];rfl,fun x hx=>?_⟩;rcases iG.1 hx with hx | hx
 ·exact h.2 x hx
 rw [eT]at hx;subst hx;exact⟨h0,h1⟩
structure Vm where
 f:Nat
 A5:aiC
 c5:Nat
 xs:List Int
 A6:aiC
 c6:Nat
 ys:List Int
 A7:aiC
 c7:Nat
 zs:List Int
abbrev Gm(A4 A5 A6 A7:aiC)(n5 n6 n7 c5 c6 c7:Nat)(xs ys zs:List Int):List Ck:=
 [ah 2 A7 n7 c7 zs,ah 2 A6 n6 c6 ys,ah 2 A5 n5 c5 xs,Bx 24 1 A4 [.slice none 0 0]]
set_option maxHeartbeats 1000000 in
theorem acZ(a:Nat)(w:World)(ha:1≤a∧a≤2):aA prog 181 [aiD (a:Int),aiD 1] w (H4 3 (8*a) w):=by
 refine bk func181 O ntmps181 O (qH O O) (aQ O (gS (St.refl w) O ?_));intro A4 w1 ao;refine ad O (jl ao O ?_);intro A5 w2 ar;refine jl ar O ?_;intro A6 w3 az;refine jl az O ?_;intro A7 w4 aJ;have aJ:St w w4 (Gm A4 A5 A6 A7 0 0 0 0 0 0 [] [] []):=aJ;have hz:xO 0 (8*a) []:=⟨O,fun x hx=>nomatch hx⟩;refine ay O ?_;refine Cd.loop (α:=Vm) (fun s=> [(0,aiD (a:Int)),(1,aiD 1),(4,.pointer A4),(5,.slice s.A5 s.f s.c5),(6,.slice s.A6 s.f s.c6),(7,.slice s.A7 s.f s.c7),(8,aiD (s.f:Int))]) (fun s w'=>s.f≤8*a∧xO s.f (8*a) s.xs∧xO s.f (8*a) s.ys∧xO s.f (8*a) s.zs∧St w w' (Gm A4 s.A5 s.A6 s.A7 s.f s.f s.f s.c5 s.c6 s.c7 s.xs s.ys s.zs)) (fun s=>8*a - s.f) ⟨0,A5,0,[],A6,0,[],A7,0,[]⟩ ⟨O,O,O,O,O,O,O,ae⟩ ⟨aW _,hz,hz,hz,aJ⟩ ?_;clear aJ az ar ao hz;rintro⟨f,A5,c5,xs,A6,c6,ys,A7,c7,zs⟩ e w5 ⟨hf,hx,hy,hz,hS⟩;dsimp only at hf hx hy hz hS⊢;refine aQ O (aa.mul O O O (by omega) (ad O ?_));refine aa.mul O O O (by omega) (ay O ?_);refine aB _ O (fun h1=>?_) (fun h1=>?_)
 ·have hfa:f<8*a:=by omega
  obtain⟨cell,QD⟩:∃c:Nat,f / 8=c:=⟨_,rfl⟩;obtain⟨k,hk⟩:∃k:Nat,f%8=k:=⟨_,rfl⟩;have px:(f:Int) / 8=(cell:Int):=by omega
  have gk:(f:Int)%8=(k:Int):=by omega
  have QA:cell<a:=by omega
  have hk8:k<8:=by omega
  refine av O (aa.quo O O O (by omega) (ad O (aa.rem O O O (by omega) ?_)));rw [px,gk];refine ay O ?_;have e1:(cell:Int)% (a:Int)=(cell:Int):=Int.emod_eq_of_lt (by omega) (by omega);have e2:(cell:Int) / (a:Int)=0:=Int.ediv_eq_zero_of_lt (by omega) (by omega);refine dI [xI ((cell:Int)),xI ((a:Int)),xI ((cell:Int)% (a:Int)),xI ((cell:Int)),xI ((a:Int)),xI ((cell:Int) / (a:Int)),xI ((cell:Int)% (a:Int)),xI ((cell:Int) / (a:Int))] (by kernel_rfl) (by kernel_rfl) O (eg O) ?_ ?_
  ·exact⟨Dr O,Dr O,fun _ _ _ _ _=>aa.rem O O O (by omega) (Az O),Dr O,Dr O,fun _ _ _ _ _=>aa.quo O O O (by omega) (Az O),Dr O,Dr O,ae⟩
  intro u w6 oj _;rw [e1,e2];have hS:=hS.later oj;refine iq O (Nq (m:=f) (by exact O) (by exact O) (by omega) O (dJ hS O O O ?_));intro ua w7 aV;refine eK 3 aV O (aV.bc 0 O) O O O (by omega) (by omega) O ?_;intro da Dm w8 bA;have bA:St w w8 (Gm A4 da A6 A7 (f+1) f f Dm c6 c7 (xs++ [(xw f:Int)]) ys zs):=bA.tail;have hxf:=UT hfa;have jg:=hx.snoc (v:=(xw f:Int)) (by omega) (by omega);clear hS aV;refine vb 0 O ?_;refine lC (α:=aiC×Nat×List Int) (fun s=> [(0,aiD (a:Int)),(1,aiD 1),(4,.pointer A4),(5,.slice da (f+1) Dm),(6,.slice s.1 (f+1) s.2.1),(7,.slice A7 f c7),(8,aiD (f:Int)),(10,aiD (k:Int)),(11,aiD (cell:Int)),(12,aiD 0)]) (fun s w'=>xO (f+1) (8*a) s.2.2∧St w w' (Gm A4 da s.1 A7 (f+1) (f+1) f Dm s.2.1 c7 (xs++ [(xw f:Int)]) s.2.2 zs)) ?_ ?_
  ·refine aQ O (aa.rem O O O (by omega) (ay O ?_));refine aB _ O (fun h2=>?_) (fun h2=>?_)
   ·refine av O (aa.mul O O O (by omega) (ad O (aa.add O O O (by omega) ?_)));refine aa.rem O O O (by omega) (aa.add O O O (by omega) (dJ bA O O O ?_));intro U0 w9 aS;refine eK 2 aS O (aS.bc 0 O) O O O (by omega) (by omega) O ?_;intro AP Bp dB bD;refine aF O (tQ ?_);exact⟨(AP,Bp,ys++ [8* (cell:Int)+ ((k:Int)+7)%8]),⟨O,O,O,O,O,O,O,O,O,O,ae⟩,hy.snoc (by omega) (by omega),bD.tail⟩
   refine av O (aa.mul O O O (by omega) (ad O (aa.add O O O (by omega) ?_)));refine aa.rem O O O (by omega) (aa.add O O O (by omega) (dJ bA O O O ?_));intro U0 w9 aS;refine eK 2 aS O (aS.bc 0 O) O O O (by omega) (by omega) O ?_;intro AP Bp dB bD;refine aF O (tQ ?_);exact⟨(AP,Bp,ys++ [8* (cell:Int)+ ((k:Int)+1)%8]),⟨O,O,O,O,O,O,O,O,O,O,ae⟩,hy.snoc (by omega) (by omega),bD.tail⟩
  rintro⟨AP,Bp,ys'⟩ e w9 ⟨R9,aS⟩;dsimp only at R9 aS⊢;clear bA;have b1:=Int.emod_nonneg ((cell:Int)+1) (b:=(a:Int)) (by omega);have b2:=Int.emod_lt_of_pos ((cell:Int)+1) (b:=(a:Int)) (by omega);have b3:=Int.emod_nonneg ((cell:Int)+ (a:Int) - 1) (b:=(a:Int)) (by omega);have b4:=Int.emod_lt_of_pos ((cell:Int)+ (a:Int) - 1) (b:=(a:Int)) (by omega);refine lC (α:=Int) (fun s=> [(0,aiD (a:Int)),(1,aiD 1),(4,.pointer A4),(5,.slice da (f+1) Dm),(6,.slice AP (f+1) Bp),(7,.slice A7 f c7),(8,aiD (f:Int)),(10,aiD (k:Int)),(11,aiD s),(12,aiD 0)]) (fun s w'=> (0≤s∧s< (a:Int))∧w'=w9) ?_ ?_
  ·refine aQ O (aa.quo O O O (by omega) (ay O ?_));refine aB _ O (fun h3=>?_) (fun h3=>?_)
   ·refine av O (aa.add O O O (by omega) (ad O ?_));refine aa.rem O O O (by omega) ?_;refine aF O (tQ ?_);exact⟨((cell:Int)+1)% (a:Int),⟨O,O,O,O,O,O,O,O,O,O,ae⟩,⟨b1,b2⟩,O⟩
   refine bP O ?_;refine aB _ O (fun h4=>?_) (fun h4=>?_)
   ·refine av O (aa.add O O O (by omega) (ad O ?_));refine aa.rem O O O (by omega) ?_;refine aF O (tQ ?_);exact⟨(cell:Int),⟨O,O,O,O,O,O,O,O,O,O,ae⟩,⟨by omega,by omega⟩,O⟩
   refine bP O ?_;refine aB _ O (fun h5=>?_) (fun h5=>?_)
   ·refine av O (aa.add O O O (by omega) (aa.sub O O O (by omega) (ad O ?_)));refine aa.rem O O O (by omega) ?_;refine aF O (tQ ?_);exact⟨((cell:Int)+ (a:Int) - 1)% (a:Int),⟨O,O,O,O,O,O,O,O,O,O,ae⟩,⟨b3,b4⟩,O⟩
   refine bP O ?_;refine aB _ O (fun h6=>?_) (fun h6=>?_)
   ·refine av O (aa.add O O O (by omega) (aa.sub O O O (by omega) (ad O ?_)));refine aa.rem O O O (by omega) ?_;refine aF O (tQ ?_);exact⟨(cell:Int),⟨O,O,O,O,O,O,O,O,O,O,ae⟩,⟨by omega,by omega⟩,O⟩
   refine kD O (tQ ?_);exact⟨(cell:Int),⟨O,O,O,O,O,O,O,O,O,O,ae⟩,⟨by omega,by omega⟩,O⟩
  rintro x e _ ⟨R8,rfl⟩;obtain⟨q,hq⟩:∃q:Nat,((k:Int)+4)%8=(q:Int):=⟨(((k:Int)+4)%8).toNat,by omega⟩;have Hf:q<8:=by omega
  have hxq:=UT (m:=q) (a:=1) (by omega);refine av O (aa.mul O O O (by omega) ?_);rw [Int.mul_zero];refine aa.add O O O (by omega) (aa.mul O O O (by omega) (ad O (aa.add O O O (by omega) ?_)));refine aa.rem O O O (by omega) ?_;rw [hq];refine Nq (m:=q) (by exact O) (by exact O) (by omega) O (aa.add O O O (by omega) (dJ aS O O O ?_));intro A102 dB bD;refine eK 1 bD O (bD.bc 0 O) O O O (by omega) (by omega) O ?_;intro UY WU eu du;refine ad O (aa.add O O O (by omega) (aF O (tQ ?_)));exact⟨⟨f+1,da,Dm,xs++ [(xw f:Int)],AP,Bp,ys',UY,WU,zs++ [8* (x+0)+ (xw q:Int)]⟩,by show 8*a - (f+1)<8*a - f;omega,⟨O,O,O,O,O,O,O,ae⟩,by show f+1≤8*a;omega,jg,R9,hz.snoc (by omega) (by omega),du.tail⟩
 have yg:f=8*a:=by omega
 refine aY O (aZ (cL O ?_));refine VD [⟨A5,f,c5⟩,⟨A6,f,c6⟩,⟨A7,f,c7⟩] hS O O (by decide) (by decide) O O ?_;intro Fj w6 aR;refine Fx (by exact inferInstance) O O O O (bG 1 4 aR O O O O O O O ?_);intro w7 aV;refine bh O (kX O (aV.rd 4 O) ?_);have aV:St w w7 (bU 32 Fj 3 3 [⟨A5,f,c5⟩,⟨A6,f,c6⟩,⟨A7,f,c7⟩]::[ah 2 A7 f c7 zs,ah 2 A6 f c6 ys,ah 2 A5 f c5 xs,Bx 24 1 A4 [.slice Fj 3 3]]):=aV;refine⟨Fj,3,[⟨A5,f,c5⟩,⟨A6,f,c6⟩,⟨A7,f,c7⟩],[xs,ys,zs],O,O,O,fun p hp=>?_,?_⟩
 ·subst yg;rcases iW.1 hp with rfl | hp
  ·exact hx
  rcases iW.1 hp with rfl | hp
  ·exact hy
  rw [eT]at hp;subst hp;exact hz
 have h9:=aV.sub (show List.Sublist [bU 32 Fj 3 3 [⟨A5,f,c5⟩,⟨A6,f,c6⟩,⟨A7,f,c7⟩],ah 2 A7 f c7 zs,ah 2 A6 f c6 ys,ah 2 A5 f c5 xs] _ from List.Sublist.cons_cons _ (List.Sublist.cons_cons _ (List.Sublist.cons_cons _ (List.Sublist.cons_cons _ (List.nil_sublist _)))));exact h9.perm (List.Perm.cons _ (List.reverse_perm (cS 2 [⟨A5,f,c5⟩,⟨A6,f,c6⟩,⟨A7,f,c7⟩] [xs,ys,zs])))
theorem acA{w0 w:World}{ks:List Ck}(ix:Nat){As:aiC}{k:Ck}(most:Nat)(hS:St w0 w ks)(hk:ks[ix]?=some k)(hK:fz w0 As k)(hm:most≤1000):
 aA prog 178 [.pointer As,aiD (most:Int)] w (fun v w'=>∃(x:Int) (k':Ck),v=aiD x∧(-4611686018427387904≤x∧x≤1099511627776)∧fz w0 As k'∧St w0 w' (ks.set ix k')):=by
 refine bk func178 O ntmps178 O (cK O) (aQ O (aa.call (tY ix 14 hS hk hK) O O O ?_));rintro _ w1 ⟨r,k1,rfl,hr,nw,ao⟩;have eh:=lB (k':=k1) hk;refine ay O ?_;refine aB _ O (fun h1=>?_) (fun h1=>?_)
 ·refine av O (aa.add O O O (by omega) ?_);refine vc [-1,(most:Int)+1,1099511627776,-4611686018427387904] ao O O (by decide) (by decide) O O ?_;intro df w2 ar;refine aa.call (SD [ah 2 df 4 4 [-1,(most:Int)+1,1099511627776,-4611686018427387904]] ix df 4 4 [-1,(most:Int)+1,1099511627776,-4611686018427387904] ar eh nw (fun k' w' h=>h.bc 0 O) (by decide)) O O O ?_;rintro _ w3 ⟨x,k2,rfl,hx,fB,az⟩;rw [kI]at az;refine bh O (gP O ?_);refine⟨x,k2,O,?_,fB,az.tail⟩;simp only [iW,List.not_mem_nil,or_false]at hx;omega
 refine av O (aa.add O O O (by omega) ?_);refine aa.call (tY ix ((most:Int)+1) ao eh nw) O O O ?_;rintro _ w2 ⟨x,k2,rfl,hx,fB,ar⟩;rw [kI]at ar;refine bh O (gP O ?_);exact⟨x,k2,O,by omega,fB,ar⟩
section
variable {P:Program} {N:Nat} {ops:Array Oper} {K:Env→World→Prop} {rest:List Oper} {e:Env} {w:World} {d:Nat} {ty:TypeId} {pos:String} {af:Array Edge}
theorem VJ{F:FuncId}{x y:Operand}{v1 v2:Value}(hx:ev e x=v1)(hy:ev e y=v2)(hb:Nat.blt d N=true)(hK:aa P N ops K rest (a7 e d (.func (.func F) #[] #[v1,v2])) w):
 aa P N ops K (⟨some d,.makeFunc (.func F) #[] #[x,y],ty,pos,af,none⟩::rest) e w:=
 .val (by simp [execOp,Instr.makeFunc,hx,hy]) hb hK
end
def zd(lo hi:Int)(xs:List Int):Prop:=∀x∈xs,lo≤x∧x≤hi
instance (lo hi:Int)(xs:List Int):Decidable (zd lo hi xs):=by unfold zd;exact inferInstance
theorem Wr(x lo hi:Int)(P1 P2:aiC)(w:World)(h1:Rd w P1 1 (fun _=>aiD lo))(h2:Rd w P2 1 (fun _=>aiD hi)):
 aA prog 206 [aiD x,.pointer P1,.pointer P2] w (fun v w'=>v= .bool (decide (¬(lo≤x∧x≤hi)))∧w'=w):=by
 refine bk func206 O ntmps206 O (cK O) (aQ O ?_);refine aa.ld h1 (by exact ax Value.pointer (oA P1).symm) (by decide) O O O ?_;refine aa.ld h2 (by exact ax Value.pointer (oA P2).symm) (by decide) O O O ?_;refine aa.call (xv _ _ _ _) O O O ?_;rintro _ w ⟨rfl,rfl⟩
 first | refine eC rfl rfl ?_ | refine aa.not rfl rfl ?_
 refine bh O (cM O ?_);exact⟨O,O⟩
theorem Vo(A:aiC)(n c:Nat)(xs:List Int)(lo hi:Int)(P1 P2:aiC)(w:World)(hR:bS w A n xs)(hn:n≤9223372036854775807)(h1:Rd w P1 1 (fun _=>aiD lo))(h2:Rd w P2 1 (fun _=>aiD hi)):
 aA prog 238 [.slice A n c,.func (.func 206) #[] #[.pointer P1,.pointer P2]] w (fun v w'=> (∃i:Int,v=aiD i∧(0≤i↔¬zd lo hi xs))∧w'=w):=by
 have dA:=hR.1;refine bk func238 O ntmps238 O (cK O) ?_;refine aQ O (aa.len O O (ay O ?_));refine Cd.loop (α:=Nat) (fun k=> [(0,.slice A n c),(1,.func (.func 206) #[] #[.pointer P1,.pointer P2]),(7,aiD (n:Int)),(8,aiD (k:Int))]) (fun k w'=>w'=w∧k≤n∧∀j,j<k→lo≤gi xs (j:Nat)∧gi xs (j:Nat)≤hi) (fun k=>n - k) 0 ⟨O,O,O,O,ae⟩ ⟨O,aW _,fun j hj=>by omega⟩ ?_;rintro k e w ⟨rfl,hk,hK⟩;refine bK O ?_;refine aB _ O (fun h3=>?_) (fun h3=>?_)
 ·refine av O (aw hR.2 O O O (by omega) (by omega) (aT hR O (by omega) O O (aa.call (Wr _ lo hi P1 P2 _ h1 h2) O O O ?_)));rintro _ w ⟨rfl,rfl⟩;refine ay O ?_;refine aB _ O (fun h4=>?_) (fun h4=>?_)
  ·refine dN O (eZ (eE ?_));refine gP O ?_;exact⟨⟨(k:Int),O,⟨fun _ ha=>h4 (by rw [bX (by omega)];exact ha _ (dQ _)),fun _=>by omega⟩⟩,O⟩
  refine av O (aa.add O O O (by omega) (aF O (tQ ?_)));refine⟨k+1,by show n - (k+1)<n - k;omega,⟨O,O,O,O,ae⟩,O,by omega,fun j hj=>?_⟩
  by_cases ej:j=k
  ·subst ej;exact iP.1 h4
  exact hK j (by omega)
 refine aY O (aZ (gE O ?_));refine gP O ?_;refine⟨⟨-1,O,⟨fun h=>absurd h (by decide),fun h=>absurd (fun x hx=>?_) h⟩⟩,O⟩;obtain⟨j,hj,rfl⟩:=gJ.1 hx;have:=hK j (by omega)
 rwa [bX hj]at this
theorem Vb(A:aiC)(n c:Nat)(xs:List Int)(lo hi:Int)(P1 P2:aiC)(w:World)(hR:bS w A n xs)(hn:n≤9223372036854775807)(h1:Rd w P1 1 (fun _=>aiD lo))(h2:Rd w P2 1 (fun _=>aiD hi)):
 aA prog 205 [.slice A n c,.func (.func 206) #[] #[.pointer P1,.pointer P2]] w (fun v w'=>v= .bool (decide (¬zd lo hi xs))∧w'=w):=by
 refine bk func205 O ntmps205 O (cK O) (aQ O (aa.call (Vo A n c xs lo hi P1 P2 _ hR hn h1 h2) O O O ?_));rintro _ w ⟨⟨i,rfl,dT⟩,rfl⟩;refine bh O (cM O ?_);exact⟨ax Value.bool (jo.2 dT),O⟩
theorem Ws(A:aiC)(n c:Nat)(xs:List Int)(lo hi:Int)(w:World)(hR:bS w A n xs)(hn:n≤9223372036854775807):
 aA prog 146 [.slice A n c,aiD lo,aiD hi] w (fun v w'=>v= .bool (decide (zd lo hi xs))∧St w w' []):=by
 refine bk func146 O ntmps146 O (cK O) (aQ O ?_);refine aa.box (v:=aiD lo) (St.refl w) O O (by show(1:Nat)≤maxLen;simp [maxLen]) ?_;intro P1 w1 ao;have ao:St w w1 [Bx 2 1 P1 [aiD lo]]:=ao;refine aa.box (v:=aiD hi) ao O O (by show(1:Nat)≤maxLen;simp [maxLen]) ?_;intro P2 w2 ar;have ar:St w w2 [Bx 2 1 P2 [aiD hi],Bx 2 1 P1 [aiD lo]]:=ar;refine ad O (VJ O O O (aa.call (Vb A n c xs lo hi P1 P2 _ (ar.eY hR) hn (Rd.one (ar.rd 1 O)) (Rd.one (ar.rd 0 O))) O O O ?_));rintro _ w2 ⟨rfl,rfl⟩
 first | refine eC rfl rfl ?_ | refine aa.not rfl rfl ?_
 refine bh O (cM O ?_);exact⟨by simp,ar.none⟩
def Na(n:Nat)(ws:List Int):Prop:=zd 0 ((n:Int) - 1) ws∧ws.length≤64
instance (n:Nat)(ws:List Int):Decidable (Na n ws):=by unfold Na;exact inferInstance
end
section
open Tryz
variable{l M:aiB}{i j:Nat}{R:List Int}{y:Int}
theorem LL{N:Nat}{xss:aiB}(hs:Sys N xss)(dT:rV N xss){x y:Int}(h0:0≤x)(h1:x<N)(hr:Reach xss x y):∀i,i≤N→gi (bz N xss i).1 x=gi (bz N xss i).1 y
 | 0,_=>by
  have hy:=hr.range hs h0 h1;simp only [bz,zm h0 h1,zm hy.1 hy.2]
 | i+1,hi=>by
  have hy:=hr.range hs h0 h1;have ih:=LL hs dT h0 h1 hr i (by omega);have ho:=vF hs (pt:=(i:Int)) (by omega) (by omega);simp only [bz]
  split
  ·exact ih
  ·simp only;rw [x5 _ _ _ (qz N xss i) ho.1.range x h0,x5 _ _ _ (qz N xss i) ho.1.range y hy.1];have hm:x∈fS N xss i↔y∈fS N xss i:=by
    rw [ho.2.2,ho.2.2];exact⟨fun h=>h.trans hr,fun h=>h.trans (hr.symm hs dT h0 h1)⟩
   by_cases h:x∈fS N xss i
   ·rw [aj h,aj (hm.1 h)]
   ·rw [ag h,ag (fun h'=>h (hm.2 h')),ih]
theorem SO{N:Nat}{xss:aiB}(hs:Sys N xss)(dT:rV N xss){x y:Int}(h0:0≤x)(h1:x<N)(h2:0≤y)(h3:y<N):∀i,i≤N→gi (bz N xss i).1 x=gi (bz N xss i).1 y→0≤gi (bz N xss i).1 x→Reach xss x y
 | 0,_,_,h=>by simp only [bz,zm h0 h1]at h;omega
 | i+1,hi,he,hp=>by
  have ih:=SO hs dT h0 h1 h2 h3 i (by omega);have ho:=vF hs (pt:=(i:Int)) (by omega) (by omega);have hc:=yz N xss i;have hx:=(CB hs dT i (by omega)).1 x h0 h1;have hy:=(CB hs dT i (by omega)).1 y h2 h3;simp only [bz]at he hp
  split at he
  ·rename_i hl;rw [aj hl]at hp;exact ih he hp
  ·rename_i hl;rw [ag hl]at hp;simp only at he hp;rw [x5 _ _ _ (qz N xss i) ho.1.range x h0]at he hp;rw [x5 _ _ _ (qz N xss i) ho.1.range y h2]at he
   by_cases uO:x∈fS N xss i
   ·rw [aj uO]at he
    by_cases EI:y∈fS N xss i
    ·exact(((ho.2.2 x).1 uO).symm hs dT (by omega) (by omega)).trans ((ho.2.2 y).1 EI)
    ·rw [ag EI]at he;omega
   ·rw [ag uO]at he hp
    by_cases EI:y∈fS N xss i
    ·rw [aj EI]at he;omega
    ·rw [ag EI]at he;exact ih he hp
theorem XY{xss:aiB}{k:Nat}(hk:k<xss.length)(bt:k≠i):gl xss k∈xss.eraseIdx i:=by
 rw [List.mem_eraseIdx_iff_getElem];exact⟨k,hk,bt,by rw [db hk]⟩
theorem XZ{xss:aiB}{p:List Int}(h:p∈xss.eraseIdx i):∃k:Nat,k<xss.length∧k≠i∧p=gl xss k:=by
 rw [List.mem_eraseIdx_iff_getElem]at h;obtain⟨k,hk,bt,rfl⟩:=h;exact⟨k,hk,bt,by rw [db hk]⟩
theorem Du{xss:aiB}(hM:bL xss){k:Nat}(hk:k<xss.length)(bt:k≠i){f:Int}(h0:0≤f)(h1:f< (gl xss 0).length):gi (dd xss i) (gi (gl xss k) f)=gi (dd xss i) f:=(LL (hM.2.2.1.sys.erase i) (hM.2.2.1.inj.erase i) h0 h1 (.step .refl (XY hk bt)) _ (a8 _)).symm
theorem I9{xss:aiB}(hM:bL xss){f g:Int}(h0:0≤f)(h1:f< (gl xss 0).length)(h2:0≤g)(h3:g< (gl xss 0).length)(h:gi (dd xss i) f=gi (dd xss i) g):Reach (xss.eraseIdx i) f g:=by
 obtain⟨k,rfl⟩:∃k:Nat,f=k:=⟨f.toNat,by omega⟩;exact SO (hM.2.2.1.sys.erase i) (hM.2.2.1.inj.erase i) h0 h1 h2 h3 _ (a8 _) h (BF hM i k (by omega)).1
theorem bL.two{xss:aiB}(hM:bL xss){k:Nat}(hk:k<xss.length){f:Int}(h0:0≤f)(h1:f< (gl xss 0).length):gi (gl xss k) (gi (gl xss k) f)=f:=by
 obtain⟨q,rfl⟩:∃q:Nat,f=q:=⟨f.toNat,by omega⟩;have hr:=hM.2.2.1.at_ hk;exact(hr.2.2 q (by omega)).2
theorem bL.vz{xss:aiB}(hM:bL xss){k:Nat}(hk:k<xss.length){f:Int}(h0:0≤f)(h1:f< (gl xss 0).length):0≤gi (gl xss k) f∧gi (gl xss k) f< (gl xss 0).length:=(hM.2.2.1.sys _ (by rw [db hk];exact dQ _)).2 f h0 h1
theorem bL.comm{xss:aiB}(hM:bL xss){k:Nat}(hi:i<xss.length)(hk:k<xss.length)(nD:i+2≤k){f:Int}(h0:0≤f)(h1:f< (gl xss 0).length):gi (gl xss k) (gi (gl xss i) f)=gi (gl xss i) (gi (gl xss k) f):=by
 obtain⟨q,rfl⟩:∃q:Nat,f=q:=⟨f.toNat,by omega⟩;exact(hM.2.2.2.1 i hi k hk nD q (by omega)).1
def LT(a b:List Int):Prop:=vC a b<0
instance (a b:List Int):Decidable (LT a b):=by unfold LT;infer_instance
theorem LT.ne{a b:List Int}(h:LT a b):a≠b:=fun e=>by
 unfold LT at h;rw [SW.2 e]at h;omega
def SL(l:aiB):Prop:=l.Pairwise LT
theorem SL.nodup(h:SL l):l.Nodup:=h.imp fun h=>h.ne
def Ins(a b:List Int):Prop:=∀x∈a,x∈b
instance (a b:List Int):Decidable (Ins a b):=by unfold Ins;infer_instance
theorem Nb{x:Int}{a b:List Int}:LT (x::a) (y::b)↔x<y∨x=y∧LT a b:=by
 unfold LT;rw [vC]
 by_cases e:x=y
 ·subst e;rw [aj (FY.2 rfl)];constructor
  ·exact fun h=> .inr ⟨O,h⟩
  rintro(h | h)
  ·omega
  exact h.2
 rw [ag (fun h=>e (FY.1 h)),Xa];constructor
 ·exact fun h=> .inl h
 rintro(h | h)
 ·exact h
 exact absurd h.1 e
def Nd(ls:aiB)(x:List Int):Prop:=x∈ls∧x≠[]∧∀y∈ls,Ins x y→y=x
instance (ls:aiB)(x:List Int):Decidable (Nd ls x):=by unfold Nd;infer_instance
def Iz(x:List Int):aiB→Nat
 | []=>0
 | y::l=>if LT y x then Iz x l+1 else 0
def afh(l:aiB)(x:List Int):aiB:=if x∈l then l else l.take (Iz x l)++x::l.drop (Iz x l)
def T0(ls:aiB):aiB:=(ls.filter fun l=>decide (l≠[])).foldl afh []
def X4(ls:aiB):aiB:=(T0 ls).filter fun x=>decide (∀y∈T0 ls,Ins x y→y=x)
def ix(s:List Int)(x:Int):Int:=(s.idxOf x:Nat)
def XI(ss:aiB):List Int:=cs ss.flatten
def M6(ss:aiB):Prop:=(∃l∈ss,6<l.length)∨60< (XI ss).length∨400< (X4 ss).length
instance (ss:aiB):Decidable (M6 ss):=by unfold M6;infer_instance
def bw(n:Nat):List Int:=(List.range n).map fun k:Nat=> (k:Int)
theorem yR(n:Nat):(bw n).length=n:=by simp [bw]
theorem im(n:Nat)(x:Int):x∈bw n↔0≤x∧x<n:=by
 simp only [bw,dh,gg];exact⟨fun⟨k,hk,e⟩=>by omega,fun h=> ⟨x.toNat,by omega,by omega⟩⟩
theorem mb(n:Nat):SA (bw n):=by
 unfold SA bw;rw [qd];exact List.pairwise_lt_range.imp fun h=>by omega
theorem BI(x:Int)(l:List Int)(i:Nat):gi (x::l) ((i+1:Nat):Int)=gi l (i:Nat):=by simp [gi]
theorem SA.yA{l:List Int}(h:SA l)(gN:i<j)(hj:j<l.length):gi l (i:Int)<gi l (j:Int):=by
 rw [bX (by omega),bX hj];exact List.pairwise_iff_getElem.1 h i j (by omega) hj gN
def kC(R:List Int)(B:aiB)(e:Int):List Int:=(bw R.length).filter fun f=>decide (gi R f=gi R e+1∧e∈gl B f)
theorem mF{B:aiB}{e f:Int}:f∈kC R B e↔(0≤f∧f<R.length)∧gi R f=gi R e+1∧e∈gl B f:=by
 unfold kC;rw [fA,im,jT]
theorem C0(R:List Int)(B:aiB)(e:Int):SA (kC R B e):=pd _ (mb _)
def nr(R:List Int)(B:aiB):Nat→Int→aiB
 | 0,_=> [[]]
 | k+1,e=> (kC R B e).flatMap fun f=> (nr R B k f).map (f:: ·)
def ue(R:List Int):List Int:=(bw R.length).filter fun e=>decide (gi R e=0)
theorem tf{e:Int}:e∈ue R↔(0≤e∧e<R.length)∧gi R e=0:=by
 unfold ue;rw [fA,im,jT]
def au(n:Nat)(R:List Int)(B:aiB):aiB:=(ue R).flatMap fun e=> (nr R B (n - 1) e).map (e:: ·)
def dC(n:Nat)(R:List Int)(B:aiB)(e:Int):Prop:=nr R B (n - 1 - (gi R e).toNat) e≠[]
instance (n:Nat)(R:List Int)(B:aiB)(e:Int):Decidable (dC n R B e):=by unfold dC;infer_instance
theorem NI{n:Nat}{B:aiB}{e:Int}(h:gi R e=(n:Int) - 1):dC n R B e:=by
 unfold dC;rw [show n - 1 - (gi R e).toNat=0 by omega];simp [nr]
theorem FI{n:Nat}{B:aiB}{e:Int}(h0:0≤gi R e)(h1:gi R e< (n:Int) - 1):dC n R B e↔∃f∈kC R B e,dC n R B f:=by
 obtain⟨k,hk⟩:∃k,n - 1 - (gi R e).toNat=k+1:=⟨n - 1 - (gi R e).toNat - 1,by omega⟩;have hf:∀f∈kC R B e,n - 1 - (gi R f).toNat=k:=fun f hf=>by
  have:=(mF.1 hf).2.1;omega
 unfold dC;rw [hk,nr];constructor
 ·intro h;obtain⟨x,hx⟩:=List.exists_mem_of_ne_nil _ h;obtain⟨f,iL,hx⟩:=List.mem_flatMap.1 hx;obtain⟨y,hy,_⟩:=dh.1 hx;exact⟨f,iL,by rw [hf f iL];exact List.ne_nil_of_mem hy⟩
 rintro⟨f,iL,h⟩;rw [hf f iL]at h;obtain⟨y,hy⟩:=List.exists_mem_of_ne_nil _ h;exact List.ne_nil_of_mem (List.mem_flatMap.2 ⟨f,iL,dh.2 ⟨y,hy,O⟩⟩)
theorem Jc{α β:Type}{p:α→Bool}{g:α→List β}:∀ {l:List α},(∀x∈l,p x=false→g x=[])→(l.filter p).flatMap g=l.flatMap g
 | [],_=>rfl
 | a::r,h=>by
  have ih:=Jc (p:=p) (g:=g) (l:=r) fun x hx=>h x (oK _ hx)
  cases hp:p a with
  | true=>rw [s8 hp,List.flatMap_cons,List.flatMap_cons,ih]
  | false=>rw [pG (by simp [hp]),List.flatMap_cons,ih,h a (by simp) hp];rfl
theorem UP{n:Nat}{B:aiB}{e:Int}{k:Nat}(h0:0≤gi R e)(hk:(gi R e).toNat+ (k+1)=n - 1):nr R B (k+1) e=((kC R B e).filter fun f=>decide (dC n R B f)).flatMap fun f=> (nr R B k f).map (f:: ·):=by
 rw [nr,Jc];intro f hf h;have h2:=(mF.1 hf).2.1;have h3:¬dC n R B f:=by simpa using h
 unfold dC at h3;rw [show n - 1 - (gi R f).toNat=k by omega]at h3;rw [iP.1 h3];rfl
theorem NY{n:Nat}{B:aiB}:au n R B=((ue R).filter fun f=>decide (dC n R B f)).flatMap fun e=> (nr R B (n - 1) e).map (e:: ·):=by
 rw [au,Jc];intro f hf h;have h2:=(tf.1 hf).2;have h3:¬dC n R B f:=by simpa using h
 unfold dC at h3;rw [h2]at h3;rw [show n - 1 - (0:Int).toNat=n - 1 by rfl]at h3;rw [iP.1 h3];rfl
def cap(l:aiB):aiB:=l.take 401
theorem IH(l:aiB):(cap l).length≤401:=by unfold cap;rw [List.length_take];omega
theorem FV(m:aiB)(h:400< (cap l).length):cap (l++m)=cap l:=by
 unfold cap at h⊢;rw [pf]at h;rw [xG (by omega)]
theorem IG(h:(cap l).length≤400):cap l=l:=by
 unfold cap at h⊢;rw [pf]at h;exact lS (by omega)
theorem FU:(cap l).length≤400↔l.length≤400:=by
 unfold cap;rw [pf];omega
theorem WZ(x:List Int)(h:(cap l).length≤400):cap (l++ [x])=cap l++ [x]:=by
 rw [IG h];rw [FU]at h;unfold cap;exact lS (by rw [dm,List.length_singleton];omega)
def C5(R:List Int)(B:aiB):Int→List Int→Prop
 | _,[]=>True
 | e,f::r=>f∈kC R B e∧C5 R B f r
theorem Ga{R:List Int}{B:aiB}:∀ {k:Nat} {e:Int} {x:List Int},x∈nr R B k e↔x.length=k∧C5 R B e x
 | 0,e,x=>by
  rw [nr,eT];constructor
  ·rintro rfl;exact⟨rfl,ae⟩
  ·exact fun h=>s7 h.1
 | k+1,e,x=>by
  rw [nr,List.mem_flatMap];constructor
  ·rintro⟨f,hf,h⟩;obtain⟨y,hy,rfl⟩:=dh.1 h;obtain⟨h1,h2⟩:=Ga.1 hy;exact⟨by rw [List.length_cons,h1],hf,h2⟩
  ·rintro⟨h1,h2⟩
   match x,h1,h2 with
   | f::r,h1,⟨h2,h3⟩=>exact⟨f,h2,dh.2 ⟨r,Ga.2 ⟨by simpa using h1,h3⟩,rfl⟩⟩
theorem H6{R:List Int}{B:aiB}:∀ {x:List Int} {e:Int},C5 R B e x↔∀i:Nat,i<x.length→gi (e::x) ((i+1:Nat):Int)∈kC R B (gi (e::x) (i:Int))
 | [],e=>by simp [C5]
 | f::r,e=>by
  rw [C5,H6 (x:=r) (e:=f)];constructor
  ·rintro⟨h1,h2⟩ i hi
   match i with
   | 0=>exact h1
   | i+1=>
    rw [BI,BI];exact h2 i (by simpa using hi)
  ·intro h;refine⟨h 0 (by simp),fun i hi=>?_⟩;have:=h (i+1) (by simpa using hi)
   rwa [BI,BI]at this
theorem nY{n:Nat}(hn:1≤n){B:aiB}{x:List Int}:x∈au n R B↔x.length=n∧(∀i:Nat,i<n→(0≤gi x (i:Int)∧gi x (i:Int)<R.length)∧gi R (gi x (i:Int))=i)∧∀i:Nat,i+1<n→gi x (i:Int)∈gl B (gi x ((i+1:Nat):Int)):=by
 unfold au;rw [List.mem_flatMap];constructor
 ·rintro⟨e,he,h⟩;obtain⟨y,hy,rfl⟩:=dh.1 h;obtain⟨h1,h2⟩:=Ga.1 hy;obtain⟨h3,h4⟩:=tf.1 he;rw [H6]at h2;have key:∀i:Nat,i<n→(0≤gi (e::y) (i:Int)∧gi (e::y) (i:Int)<R.length)∧gi R (gi (e::y) (i:Int))=i:=by
   intro i
   induction i with
   | zero=>intro _;exact⟨h3,h4⟩
   | succ i ih=>
    intro hi;have h5:=mF.1 (h2 i (by omega));have h6:=ih (by omega);exact⟨h5.1,by rw [h5.2.1,h6.2];omega⟩
  exact⟨by rw [List.length_cons,h1];omega,key,fun i hi=> (mF.1 (h2 i (by omega))).2.2⟩
 ·rintro⟨h1,h2,h3⟩
  match x,h1,h2,h3 with
  | [],h1,_,_=>simp at h1;omega
  | e::y,h1,h2,h3=>
   rw [List.length_cons]at h1;refine⟨e,tf.2 (h2 0 (by omega)),dh.2 ⟨y,Ga.2 ⟨by omega,H6.2 fun i hi=>?_⟩,O⟩⟩;have h4:=h2 (i+1) (by omega);have h5:=h2 i (by omega);exact mF.2 ⟨h4.1,by rw [h4.2,h5.2];omega,h3 i (by omega)⟩
theorem Ik{g:Int→aiB}(hg:∀f,SL (g f)):∀ {l:List Int},SA l→SL (l.flatMap fun f=> (g f).map (f:: ·))
 | [],_=>List.Pairwise.nil
 | a::l,h=>by
  obtain⟨h1,h2⟩:=List.pairwise_cons.1 h;rw [List.flatMap_cons,SL,List.pairwise_append];refine⟨qd.2 ((hg a).imp fun h=>Nb.2 (.inr ⟨O,h⟩)),Ik hg h2,fun x hx y hy=>?_⟩;obtain⟨u,_,rfl⟩:=dh.1 hx;obtain⟨b,hb,hy⟩:=List.mem_flatMap.1 hy;obtain⟨v,_,rfl⟩:=dh.1 hy;exact Nb.2 (.inl (h1 b hb))
theorem OC(R:List Int)(B:aiB):∀(k:Nat) (e:Int),SL (nr R B k e)
 | 0,_=>by simp [nr,SL]
 | k+1,e=>Ik (OC R B k) (C0 R B e)
theorem BH(n:Nat)(R:List Int)(B:aiB):SL (au n R B):=Ik (OC R B (n - 1)) (pd _ (mb _))
structure fO(n:Int)(R:List Int)(B:aiB):Prop where
 n1:1≤n∧n≤5
 nn:R.length≤500
 len:B.length=R.length
 fT:∀x∈R,0≤x∧x≤n - 1
 Di:rS R
 row:∀e:Nat,e<R.length→SA (gl B (e:Int))∧∀d∈gl B (e:Int),(0≤d∧d<R.length)∧gi R d<gi R (e:Int)
 tr:∀e:Nat,e<R.length→∀d∈gl B (e:Int),∀c∈gl B d,c∈gl B (e:Int)
theorem rS.le(h:rS R)(gN:i≤j)(hj:j<R.length):gi R (i:Int)≤gi R (j:Int):=by
 rcases Nat.lt_or_eq_of_le gN with h1 | rfl
 ·rw [bX (by omega),bX hj];exact List.pairwise_iff_getElem.1 h i j (by omega) hj h1
 exact Int.le_refl _
theorem fO.at_{n:Int}{B:aiB}(h:fO n R B){e:Int}(h0:0≤e)(h1:e<R.length):SA (gl B e)∧(∀d∈gl B e,(0≤d∧d<e)∧gi R d<gi R e)∧∀d∈gl B e,∀c∈gl B d,c∈gl B e:=by
 obtain⟨k,rfl⟩:∃k:Nat,e=k:=⟨e.toNat,by omega⟩;have hr:=h.row k (by omega);refine⟨hr.1,fun d hd=>?_,h.tr k (by omega)⟩;have h2:=hr.2 d hd;obtain⟨j,rfl⟩:∃j:Nat,d=j:=⟨d.toNat,by omega⟩;refine⟨⟨by omega,?_⟩,h2.2⟩;refine Int.not_le.1 fun hle=>?_
 have:=h.Di.le (i:=k) (j:=j) (by omega) (by omega);omega
theorem fO.ri{n:Int}{B:aiB}(h:fO n R B){e:Int}(h0:0≤e)(h1:e<R.length):0≤gi R e∧gi R e≤n - 1:=by
 obtain⟨k,rfl⟩:∃k:Nat,e=k:=⟨e.toNat,by omega⟩;exact h.fT _ (gi_in (by omega))
def aD(M:aiB):Nat→Nat
 | 0=>0
 | i+1=>aD M i+ (ja M i).toNat
def aO(M:aiB):Nat→List Int
 | 0=> []
 | i+1=>aO M i++List.replicate (ja M i).toNat (i:Int)
theorem iR(M:aiB):∀i,(aO M i).length=aD M i
 | 0=>rfl
 | i+1=>by rw [aO,dm,iR M i,List.length_replicate];rfl
def bC(M:aiB)(i:Nat)(f:Nat):Int:=(aD M i:Int)+gi (dd M i) (f:Int)
theorem nG(M:aiB)(h:i≤j):aD M i≤aD M j:=by
 induction h with
 | refl=>exact a8 _
 | step _ ih=>exact kJ ih (by show _≤aD M _+_;omega)
theorem pn(hM:bL M){f:Nat}(hf:f< (gl M 0).length):(aD M i:Int)≤bC M i f∧bC M i f< (aD M (i+1):Int):=by
 have h1:=BF hM i f hf;unfold bC;show _∧_< ((aD M i+ (ja M i).toNat:Nat):Int);omega
theorem Dz{n:Nat}:∀ {i:Nat},i<n→∀ {e:Int},(aD M i:Int)≤e→e< (aD M (i+1):Int)→gi (aO M n) e=i:=by
 induction n with
 | zero=>intro i hi;omega
 | succ n ih=>
  intro i hi e h0 h1;obtain⟨k,rfl⟩:∃k:Nat,e=k:=⟨e.toNat,by omega⟩;have hl:=iR M n
  by_cases h:i=n
  ·subst h;rw [aO,gi,cJ,jQ (by rw [hl];omega),List.getElem?_replicate,aj]
   ·rfl
   ·have:aD M (i+1)=aD M i+ (ja M i).toNat:=O;rw [hl];omega
  ·have h3:=nG M (show i+1≤n by omega);have h2:=ih (show i<n by omega) h0 h1;rw [aO,gi,cJ,lQ (by rw [hl];omega),←cJ];exact h2
theorem Jg{n:Nat}{e:Int}(h0:0≤e)(h1:e< (aD M n:Int)):∃i,i<n∧(aD M i:Int)≤e∧e< (aD M (i+1):Int):=by
 induction n with
 | zero=>have:aD M 0=0:=rfl;omega
 | succ n ih=>
  by_cases h:e< (aD M n:Int)
  ·obtain⟨i,hi,h2⟩:=ih h;exact⟨i,by omega,h2⟩
  ·exact⟨n,by omega,by omega,h1⟩
theorem O8(M:aiB):∀n,rS (aO M n)∧∀x∈aO M n,0≤x∧x< (n:Int)
 | 0=> ⟨List.Pairwise.nil,fun x hx=>by cases hx⟩
 | n+1=>by
  obtain⟨h1,h2⟩:=O8 M n;refine⟨?_,fun x hx=>?_⟩
  ·rw [aO,rS,List.pairwise_append];refine⟨h1,List.pairwise_replicate.2 (.inr (Int.le_refl _)),fun x hx y hy=>?_⟩;have:=h2 x hx;have:=(List.mem_replicate.1 hy).2;omega
  ·rw [aO]at hx;rcases iG.1 hx with h | h
   ·have:=h2 x h;omega
   ·have:=(List.mem_replicate.1 h).2;omega
def vO(M:aiB)(d e:Int):Prop:=∃f:Nat,f< (gl M 0).length∧∃i:Nat,i<M.length∧∃k:Nat,k<i∧e=bC M i f∧d=bC M k f
open Classical in
noncomputable def bn(M:aiB):aiB:=(bw (aD M M.length)).map fun e=> (bw (aD M M.length)).filter fun d=>decide (vO M d e)
theorem tm(M:aiB):(bn M).length=aD M M.length:=by simp [bn,bw]
theorem n3{e:Int}(h0:0≤e)(h1:e< (aD M M.length:Int))(d:Int):d∈gl (bn M) e↔(0≤d∧d< (aD M M.length:Int))∧vO M d e:=by
 obtain⟨k,rfl⟩:∃k:Nat,e=k:=⟨e.toNat,by omega⟩;rw [db (by rw [tm];omega)];unfold bn;rw [List.getElem_map,fA,im];have:(bw (aD M M.length))[k]'(by rw [yR];omega)=(k:Int):=by simp [bw]
 rw [this];exact and_congr Iff.rfl (by simp)
theorem vO.fT(hM:bL M){d e:Int}(h:vO M d e):(0≤d∧d< (aD M M.length:Int))∧(0≤e∧e< (aD M M.length:Int))∧gi (aO M M.length) d<gi (aO M M.length) e:=by
 obtain⟨f,hf,i,hi,k,hk,rfl,rfl⟩:=h;have h1:=pn hM (i:=i) hf;have h2:=pn hM (i:=k) hf;have h3:=nG M (show i+1≤M.length by omega);have h4:=nG M (show k+1≤M.length by omega);refine⟨by omega,by omega,?_⟩;rw [Dz hi h1.1 h1.2,Dz (show k<M.length by omega) h2.1 h2.2];omega
theorem Uz{p:List Int}(h:p∈M.take j):∃k:Nat,k<j∧k<M.length∧p=gl M k:=by
 obtain⟨k,hk,rfl⟩:=gJ.1 h;rw [pf]at hk;exact⟨k,by omega,by omega,by rw [List.getElem_take,db (by omega)]⟩
theorem SX(hM:bL M)(j:Nat):Sys (gl M 0).length (M.take j):=fun p hp=>hM.2.2.1.sys p (List.mem_of_mem_take hp)
theorem ads(hM:bL M){u:Int}(h0:0≤y)(h1:y< (gl M 0).length)(h:Reach (M.take j) y u):∀i:Nat,j≤i→gi (dd M i) u=gi (dd M i) y:=by
 induction h with
 | refl=>exact fun _ _=>rfl
 | step h hp ih=>
  intro i hi;have hr:=h.range (SX hM j) h0 h1;obtain⟨k,Ci,hk,rfl⟩:=Uz hp;rw [Du hM hk (by omega) hr.1 hr.2,ih i hi]
theorem adr(hM:bL M){k:Nat}(yj:j<k)(hk:k<M.length){u:Int}(h0:0≤y)(h1:y< (gl M 0).length)(h:Reach (M.take j) y u):Reach (M.take j) (gi (gl M k) y) (gi (gl M k) u):=by
 induction h with
 | refl=>exact .refl
 | step h hp ih=>
  have hr:=h.range (SX hM j) h0 h1;obtain⟨i,gN,hi,rfl⟩:=Uz hp;rw [hM.comm hi hk (by omega) hr.1 hr.2];exact .step ih hp
theorem Up(hM:bL M){f:Int}(h0:0≤f)(h1:f< (gl M 0).length){g:Int}(h:Reach (M.eraseIdx j) f g):
 ∃u:Int,(0≤u∧u< (gl M 0).length)∧(∀i:Nat,i≤j→gi (dd M i) u=gi (dd M i) f)∧∀i:Nat,j≤i→gi (dd M i) u=gi (dd M i) g:=by
 have key:∃u:Int,(0≤u∧u< (gl M 0).length)∧(∀i:Nat,i≤j→gi (dd M i) u=gi (dd M i) f)∧Reach (M.take j) g u:=by
  induction h with
  | refl=>exact⟨f,⟨h0,h1⟩,fun _ _=>rfl,.refl⟩
  | step h hp ih=>
   rename_i y p;obtain⟨u,hu,dp,hr⟩:=ih;have sN:=h.range (hM.2.2.1.sys.erase j) h0 h1;obtain⟨k,hk,Ci,rfl⟩:=XZ hp;rcases Nat.lt_or_gt_of_ne Ci with fY | G0
   ·refine⟨u,hu,dp,?_⟩;have hm:gl M k∈M.take j:=by
     rw [gJ];exact⟨k,by rw [pf];omega,by rw [List.getElem_take,db hk]⟩
    have h2:Reach (M.take j) (gi (gl M k) y) (gi (gl M k) (gi (gl M k) y)):= .step .refl hm;rw [hM.two hk sN.1 sN.2]at h2;exact h2.trans hr
   ·refine⟨gi (gl M k) u,hM.vz hk hu.1 hu.2,fun i hi=>?_,adr hM G0 hk sN.1 sN.2 hr⟩;rw [Du hM hk (by omega) hu.1 hu.2,dp i hi]
 obtain⟨u,hu,dp,hr⟩:=key;have hg:=h.range (hM.2.2.1.sys.erase j) h0 h1;exact⟨u,hu,dp,ads hM hg.1 hg.2 hr⟩
theorem vO.trans(hM:bL M){c d e:Int}(h:vO M c d)(h':vO M d e):vO M c e:=by
 obtain⟨f,hf,j,hj,k,hk,rfl,rfl⟩:=h;obtain⟨g,hg,i,hi,l,hl,rfl,e2⟩:=h';have h1:=pn hM (i:=j) hf;have h2:=pn hM (i:=l) hg;have ln:j=l:=by
  rcases Nat.lt_trichotomy j l with h | h | h
  ·have:=nG M (show j+1≤l by omega);omega
  ·exact h
  have:=nG M (show l+1≤j by omega);omega
 subst ln;have e3:gi (dd M j) (f:Int)=gi (dd M j) (g:Int):=by unfold bC at e2;omega
 obtain⟨u,hu,dp,bJ⟩:=Up hM (j:=j) (f:=(f:Int)) (by omega) (by omega) (I9 hM (by omega) (by omega) (by omega) (by omega) e3);refine⟨u.toNat,by omega,i,hi,k,by omega,?_,?_⟩
 ·unfold bC;rw [Int.toNat_of_nonneg hu.1,bJ i (by omega)]
 unfold bC;rw [Int.toNat_of_nonneg hu.1,dp k (by omega)]
theorem YB(hM:bL M)(hb:aD M M.length≤500):fO M.length (aO M M.length) (bn M):=by
 have h1:=hM.1;have hl:=iR M M.length;obtain⟨ha,hr⟩:=O8 M M.length;refine⟨by omega,by omega,by rw [tm,hl],fun x hx=>?_,ha,fun e he=> ⟨?_,fun d hd=>?_⟩,fun e he d hd c hc=>?_⟩
 ·have:=hr x hx;omega
 ·rw [db (by rw [tm];omega)];unfold bn;rw [List.getElem_map];exact pd _ (mb _)
 ·rw [n3 (by omega) (by omega)]at hd;have:=hd.2.fT hM;exact⟨by omega,this.2.2⟩
 rw [n3 (by omega) (by omega)]at hd⊢;rw [n3 (by omega) (by omega)]at hc;exact⟨hc.1,hc.2.trans hM hd.2⟩
end
section
open Go.RowKit Tryz
section
variable {P:Program} {N:Nat} {ops:Array Oper} {K:Env→World→Prop} {rest:List Oper} {e:Env} {w:World} {d:Nat} {ty:TypeId} {pos:String} {af:Array Edge} {x y:Operand} {xt yt:TypeId} {i:Int}
theorem Dc{k:IntKind}(hx:ev e x= .int .u64 i)(hy:ev e y= .int k 1)(hb:Nat.blt d N=true)(h0:0≤i)(hK:aa P N ops K rest (a7 e d (.int .u64 (i / 2))) w):
 aa P N ops K (⟨some d,.binOp .shr xt x y yt,ty,pos,af,none⟩::rest) e w:=by
 refine .val (v:= .int .u64 (i / 2)) ?_ hb hK;have e1:min 1 IntKind.u64.bits=1:=by decide
 have e2:i.fdiv 2=i / 2:=Int.fdiv_eq_ediv_of_nonneg _ (by decide);simp [execOp,hx,hy,eqGuard,binOp,Op.shift,e1,e2]
end
section
variable {w:World} {e:Env}
theorem Mq{R:Value→World→Prop}{t u:Nat}{b:Bool}{k:IntKind}{i:Int}(h:e t= .int k i)(h2:e u= .bool b)(hR:R (.tuple #[.int k i,.bool b]) w):CT t u R .ret e w:=by show R (.tuple #[e t,e u]) w;rw [h,h2];exact hR
end
theorem Xd(x:Int)(w:World):aA prog 221 [aiD x] w (fun v w'=>v= .bool (decide (¬x=x))∧w'=w):=by
 refine bk func221 O ntmps221 O (cK O) (H8 O (cM O ?_));exact⟨O,O⟩
theorem Ob(x y:Int)(w:World):aA prog 207 [aiD x,aiD y] w (fun v w'=>v= .bool (decide (x<y))∧w'=w):=by
 refine bk func207 O ntmps207 O (cK O) (aQ O (aa.call (Xd x w) O O O ?_));rintro _ _ ⟨rfl,rfl⟩;refine ad O ?_;refine bY 7 O (fun h=>absurd O h) (fun _=>?_);refine ai O O O O O (ai O O O O O (ai O O O O O (ad O (aa.g O O O (ad O (aa.g O O O (ad O (aa.g O O O (bh O ?_)))))))));refine cM O ?_;exact⟨O,O⟩
theorem af3(x:Int)(w:World):aA prog 208 [aiD x] w (fun v w'=>v= .bool (decide (¬x=x))∧w'=w):=by
 refine bk func208 O ntmps208 O (cK O) (H8 O (cM O ?_));exact⟨O,O⟩
theorem NR(A:aiC)(n c:Nat)(xs:List Int)(x:Int)(w:World)(hR:bS w A n xs)(hs:SA xs)(hn:n≤1000000000):
 aA prog 148 [.slice A n c,aiD x] w (fun v w'=> (∃k:Int,v= .tuple #[aiD k,.bool (decide (x∈xs))])∧w'=w):=by
 have dA:=hR.1;refine bk func148 O ntmps148 O (sQ O) ?_;refine aQ O (aa.len O O (ay O ?_));refine Cd.loop (α:=Nat×Nat) (fun z=> [(0,.slice A n c),(1,aiD x),(6,aiD (n:Int)),(7,aiD (z.1:Int)),(8,aiD (z.2:Int))]) (fun z w'=>w'=w∧z.1≤z.2∧z.2≤n∧(∀p:Nat,p<z.1→gi xs (p:Int)<x)∧∀p:Nat,z.2≤p→p<n→x≤gi xs (p:Int)) (fun z=>z.2 - z.1) (0,n) ⟨O,O,O,O,O,ae⟩ ⟨O,aW _,a8 _,fun p hp=>absurd hp (jk _),fun p hp gX=>by have hp:n≤p:=hp;omega⟩ ?_;rintro⟨i,j⟩ e w ⟨rfl,gN,tG,dp,bJ⟩;dsimp only at gN tG dp bJ⊢;refine bK O ?_;refine aB _ O (fun h1=>?_) (fun h1=>?_)
 ·refine av O (aa.add O O O (by omega) ?_);refine nk O O (sU _ (by omega)) (Dc O O O (by omega) (nk O O (IntWalk.i64_in _ (by omega)) ?_));obtain⟨h,hh⟩:∃h:Nat,h=(i+j) / 2:=⟨_,rfl⟩;rw [show((i:Int)+ (j:Int)) / 2=(h:Int) by omega];refine ad O (aw hR.2 O O O (by omega) (by omega) (aT hR O (by omega) O O (ad O (aa.call (Ob _ _ _) O O O ?_))));rintro _ _ ⟨rfl,rfl⟩;refine ay O ?_;refine aB _ O (fun h2=>?_) (fun h2=>?_)
  ·refine av O (aa.add O O O (by omega) (aF O (tQ ?_)));refine⟨(h+1,j),by show j - (h+1)<j - i;omega,⟨O,O,O,O,O,ae⟩,O,by show h+1≤j;omega,tG,fun p hp=>?_,bJ⟩;have hp:p<h+1:=hp
   by_cases e:p=h
   ·subst e;exact h2
   have:=hs.yA (show p<h by omega) (by omega);omega
  refine kD O (tQ ?_);refine⟨(i,h),by show h - i<j - i;omega,⟨O,O,O,O,O,ae⟩,O,by show i≤h;omega,by show h≤n;omega,dp,fun p hp gX=>?_⟩;have hp:h≤p:=hp
  by_cases e:p=h
  ·subst e;omega
  have:=hs.yA (show h<p by omega) (by omega);omega
 obtain rfl:i=j:=by omega
 have ij:∀p:Nat,p<n→gi xs (p:Int)=x→p=i:=fun p hp hx=>by
  rcases Nat.lt_trichotomy p i with h | h | h
  ·have:=dp p h;omega
  ·exact h
  have h3:=hs.yA h (by omega);have h4:=bJ i (a8 _) (by omega);omega
 have lp:x∈xs↔i<n∧gi xs (i:Int)=x:=by
  constructor
  ·intro hm;obtain⟨p,hp,e⟩:=gJ.1 hm;have e2:gi xs (p:Int)=x:=by rw [bX hp];exact e
   have:=ij p (by omega) e2;subst this;exact⟨by omega,e2⟩
  rintro⟨h2,h3⟩;rw [←h3];exact gi_in (by omega)
 refine aY O (aZ (cL O ?_));refine bY 35 O (fun h2=>?_) (fun h2=>?_)
 ·refine aa.g O O O (ad O (aa.g O O O (ad O (aa.g O O O ?_))));refine aw hR.2 O O O (by omega) (by omega) (aa.g O O O (aT hR O (by omega) O O ?_));refine aa.g O O O (ad O (aa.g O O O (ad O (aa.g O O O (ad O ?_)))));refine bY 42 O (fun h3=>?_) (fun h3=>?_)
  ·refine ai O O O O O (ai O O O O O (ai O O O O O (ai O O O O O (ai O O O O O (ai O O O O O (bM O O O O (bM O O O O (ai O O O O O (aa.g O O O (bh O ?_))))))))));refine Mq O O ?_;exact⟨⟨_,by rw [dX (lp.2 ⟨by omega,h3⟩)]⟩,O⟩
  refine aa.g O O O (ad O (aa.g O O O (ad O (aa.g O O O ?_))));refine aw hR.2 O O O (by omega) (by omega) (aa.g O O O (aT hR O (by omega) O O (aa.g O O O (aa.call (af3 _ _) O O O ?_))));rintro _ _ ⟨rfl,rfl⟩;refine aa.g O O O (ad O ?_);refine bY 48 O (fun h=>absurd O h) (fun _=>?_);refine ai O O O O O (ai O O O O O (aa.g O O O (ad O (aa.g O O O (bh O ?_)))));refine Mq O O ?_;exact⟨⟨_,by rw [cd (fun h=>h3 (lp.1 h).2)]⟩,O⟩
 refine ai O O O O O (ai O O O O O (ai O O O O O (ai O O O O O (ai O O O O O (ai O O O O O (ai O O O O O (bM O O O O (bM O O O O (bM O O O O (bM O O O O (bM O O O O ?_)))))))))));refine bM O O O O (bM O O O O (bM O O O O (bM O O O O (ai O O O O O (bh O ?_)))));refine Mq O O ?_;exact⟨⟨_,by rw [cd (fun h=>by have:=(lp.1 h).1;omega)]⟩,O⟩
theorem Sg(P A D:aiC)(cA r cD:Nat)(n:Int)(N:Nat)(rs:List aG)(B:aiB)(e f:Int)(w:World)(hP:Rd w P 3 (fun j=> [Value.int .i64 n,.slice A r cA,.slice D N cD].getD j undef))(hB:br w D N rs B)(ob:B.length=N)(hf:0≤f∧f<N)(hs:SA (gl B f))(hl:(gl B f).length≤1000000):
 aA prog 139 [.pointer P,aiD e,aiD f] w (fun v w'=>v= .bool (decide (e∈gl B f))∧w'=w):=by
 have cj:=hB.at_ (i:=f) hf.1 hf.2;have iD:=cj.1;refine bk func139 O ntmps139 O (cK O) (aQ O ?_);refine mh hP (by decide) O O ?_;refine aH hP O O O O inferInstance (aM hP O O O O O (ad O (aw hB.top.2 O O O (by omega) (by omega) (bQ hB.top O (by omega) O O (ad O (aa.call (NR _ _ _ (gl B f) e w cj hs (by omega)) O O O ?_))))));rintro _ _ ⟨⟨k,rfl⟩,rfl⟩;refine bh O (cM O ?_);exact⟨O,O⟩
theorem uQ(P A D:aiC)(cA cD:Nat)(n:Int)(R:List Int)(rs:List aG)(B:aiB)(e f:Int)(w:World)(hP:Rd w P 3 (fun j=> [Value.int .i64 n,.slice A R.length cA,.slice D B.length cD].getD j undef))(hB:br w D B.length rs B)(hf:0≤f∧f<B.length)(hs:SA (gl B f))(hl:(gl B f).length≤1000000):
 aA prog 139 [.pointer P,aiD e,aiD f] w (fun v w'=>v= .bool (decide (e∈gl B f))∧w'=w):=
 Sg P A D cA R.length cD n B.length rs B e f w hP hB rfl hf hs hl
end
end Go.Proofs.YtopgfgdgfjddpaaGreatDoor.Vc
