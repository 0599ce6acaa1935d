/-
 Lemmas. Conditions: as each states them.
-/
import Derived.Test.YtagdamiiececaaaGreatDoorLayb
import Derived.Test.YtagdamiiececaaaGreatDoorZc
import Derived.Shelf.SlicesE.Compact
import Derived.Shelf.SlicesE.Delete
import Derived.Shelf.SortM.SortNone
set_option maxHeartbeats 8000000
namespace Go.Proofs.YtagdamiiececaaaGreatDoor.Vc
open Go.RowKit Go.Sort Tryz
variable{w w0:aa}{q o i b:Nat}{ks:List Ck}{l' xs:ai}
theorem Z9{α:Type}[Inhabited α]{enc:α->ad}{g off:Nat}{cur:Array ad}{e:ae}{fr:Nat×Nat}(d:Array α)(hb:w.heap[g]?=some (.cells cur e fr)):(putRow enc (Sort.ahead w q) g off d).heap[g]?=some (.cells (putCells enc off d cur) e fr):=by
 simp [putRow,mapBlock,Sort.ahead,Array.getElem?_modify,hb,onCells]
theorem Yt{α:Type}[Inhabited α]{enc:α->ad}{g off:Nat}(d:Array α):CW w (putRow enc (Sort.ahead w q) g off d) (some g):=by
 refine⟨⟨O,O,O,by simp [Sort.ahead],fun k hk bt=>?_⟩,Nat.le_add_right _ _⟩;have:g≠k:=fun e=>bt (by rw [e])
 simp [putRow,mapBlock,Sort.ahead,Array.getElem?_modify,this]
theorem KU{α:Type}[Inhabited α]{enc:α->ad}{g:Nat}{cur:Array ad}{e:ae}{ds:List α}(hh:w.heap[g]?=some (.cells cur e (0,0)))(hc:∀j,j<ds.length->cur[o+j]?=(ds.map enc)[j]?):Holds enc w g o ds.toArray:=fun j hj=>by
 have im:j<ds.length:=by simpa using hj
 refine⟨?_,by simp [World.frozen?,hh]⟩;simp only [World.cell?,hh];simp only [Option.isSome_none,Bool.false_eq_true,if_false];rw [hc j im];simp [im]
theorem St.laid{α:Type}[Inhabited α]{enc:α->ad}{k:Ck}{g m:Nat}{cur:Array ad}{ds:List α}(hS:St w0 w ks)(hk:ks[i]?=some k)(hA:k.A=some ⟨g,o,Option.none⟩)(hg:w0.heap.size<=g)(hh:w.heap[g]?=some (.cells cur k.e (0,0)))(hs:o+k.c<=cur.size)(hm:m<=ds.length)(hd:ds.length<=k.c)(hc:k.c<=maxLen)(Z6:∀x,(enc x).oneCell'=true:=by intro _;rfl):
 St w0 (putRow enc (Sort.ahead w q) g o ds.toArray) (ks.set i ⟨k.A,m,k.c,k.e,(ds.take m).map enc⟩):=by
 refine hS.turn hk (by simp [Ck.ik,hA]) (by simp [Ck.ik,hA]) (Yt _) (.qq (wv fun v hv=>by obtain⟨x,_,rfl⟩:=db.1 hv;exact Z6 x) ⟨by simp;omega,by show m<=k.c;omega,hc,.inr ⟨g,o,_,hA,hg,Z9 _ hh,by simp only [putCells,Array.size_mapIdx];exact hs,fun j hj=>?_⟩⟩);have hj:j<m:=hj;show(putCells enc o ds.toArray cur)[o+j]?=((ds.take m).map enc)[j]?;have D8:o+j<cur.size:=by omega
 have hjd:j<ds.length:=by omega
 simp [putCells,D8,hjd,rL,hj]
def SA(l:ai):Prop:=l.Pairwise (· < ·)
theorem SA.Ay{l:ai}(h:SA l):rH l:=h.imp fun h=>by omega
theorem SA.nodup{l:ai}(h:SA l):l.Nodup:=h.imp fun h=>by omega
theorem SA.eq{l:ai}(h:SA l)(h':SA l')(hm:∀x,x∈l↔x∈l'):l=l':=VZ ((rN h.nodup h'.nodup).2 hm) h.Ay h'.Ay
def kR(xs:ai):ai:=Lib.compactUpTo xs.toArray xs.toArray.size
theorem IK(xs:ai)(j:Nat):xs.toArray[j]! =gi xs j:=by
 by_cases h:j<xs.length
 ·rw [bO h];simp [h]
 have e:gi xs j=0:=by simp [gi,cN,mF (Nat.not_lt.1 h)]
 rw [e,getElem!_neg _ _ (by simpa using h)];rfl
theorem I5(xs:ai):kR xs=((List.range xs.length).filter fun j:Nat=>decide (j=0\/gi xs j≠gi xs ((j - 1:Nat):Int))).map fun j:Nat=>gi xs j:=by
 unfold kR Lib.compactUpTo;rw [List.size_toArray];have e1:Lib.keeps xs.toArray=fun j:Nat=>decide (j=0\/gi xs j≠gi xs ((j - 1:Nat):Int)):=by
  funext j;unfold Lib.keeps;rw [IK,IK]
 rw [e1];exact od fun j _=>IK xs j
theorem NM(xs:ai):(kR xs).length<=xs.length:=by
 rw [I5,fk];have:=rM (fun j:Nat=>decide (j=0\/gi xs j≠gi xs ((j - 1:Nat):Int))) (List.range xs.length)
 rwa [pU]at this
theorem WE(xs:ai)(x:Int):x∈kR xs↔x∈xs:=by
 rw [I5,db];constructor
 ·rintro⟨j,hj,rfl⟩;have:=fU.1 (fT.1 hj).1;rw [bO this];exact dB _
 ·intro hx;obtain⟨j,hj,uh⟩:=fJ.1 hx;rw [<-bO hj]at uh;clear hx
  induction j with
  | zero=>exact⟨0,fT.2 ⟨fU.2 hj,by simp⟩,uh⟩
  | succ j ih=>
   by_cases h:gi xs ((j+1:Nat):Int)=gi xs ((j:Nat):Int)
   ·exact ih (by omega) (h▸uh)
   ·exact⟨j+1,fT.2 ⟨fU.2 hj,by simp only [Nat.add_sub_cancel,kU];exact .inr h⟩,uh⟩
theorem WD(h:rH xs):SA (kR xs):=by
 have mono:∀a b,a<=b->b<xs.length->gi xs a<=gi xs b:=fun a b dN hb=>by
  rw [bO (by omega),bO hb]
  by_cases e:a=b
  ·subst e;exact Int.le_refl _
  exact(List.pairwise_iff_getElem.1 h) a b (by omega) hb (by omega)
 rw [I5];unfold SA;rw [kM];have hr:(List.range xs.length).Pairwise (· < ·):=List.pairwise_lt_range;refine(hr.filter _).imp_of_mem fun {a b} ha hb dN=>?_
 have dd:=fU.1 (fT.1 hb).1;have dS:=uy (fT.1 hb).2;have h1:=mono a (b - 1) (by omega) (by omega);have h2:=mono (b - 1) b (by omega) dd;rcases dS with dS | dS
 ·omega
 omega
def cs(l:ai):ai:=kR (l5 l)
theorem WZ(l:ai)(x:Int):x∈cs l↔x∈l:=by rw [cs,WE];exact(H3 l).mem_iff
theorem WY(l:ai):SA (cs l):=WD (agM l)
theorem WN(i:Nat){t:ae}{A:aj}{n c:Nat}(hS:St w0 w ks)(hk:ks[i]?=some (az t A n c xs))(h0:0<n)(hn:n<=1000000000):
 aG prog 131 [.slice A n c] w (fun v w'=>v= .slice A (kR xs).length c/\St w0 w' (ks.set i (az t A (kR xs).length c (kR xs)))):=by
 obtain⟨h1,h2,h3,h4⟩:=hS.pY hk (sA _);have hl:xs.length=n:=hS.Cm i hk;have h2:n<=c:=h2;have h3:c<=maxLen:=h3;rcases h4 with⟨_,jP⟩ | ⟨g,o,cur,hA,hg,hh,hs,hc⟩
 ·have jP:c=0:=jP;omega
 have hA:A=some ⟨g,o,none⟩:=hA;have hs:o+c<=cur.size:=hs;have hc:∀j,j<n->cur[o+j]?=(xs.map (Value.int .i64))[j]?:=hc;subst hA;subst hl;have key:=AnyE.slices_Compact adf (Value.int .i64) (fun _=>O) (EqlAt.intD _ _ .i64) (NeqAt.intD _ _ .i64) (0:Int) (fun w=>zeroValue2 w) g o c xs.toArray w (KU hh hc) (by simp;omega) (by simpa using h2);refine Calls.mono key fun x w' ⟨hx,q,hw⟩=> ⟨_,hx,O,?_⟩
 subst hw;have hle:=NM xs;have h:=hS.laid (q:=q) (m:=(kR xs).length) (enc:=Value.int .i64) (ds:=kR xs++List.replicate (xs.toArray.size - (kR xs).length) 0) hk O hg hh hs (by simp) (by simp;show _<=c;omega) h3;rw [wT (bj _),List.take_length]at h;exact h
instance:Inhabited aN:=⟨ew⟩
theorem Xa(i:Nat){t:ae}{A:aj}{n c a:Nat}{xs:List aN}(hS:St w0 w ks)(hk:ks[i]?=some (cd t A n c xs))(h0:0<n)(hn:n<=1000000000)(dN:a<=b)(hb:b<=n):
 aG prog 266 [.slice A n c,ak a,ak b] w (fun v w'=>v= .slice A (n - (b - a)) c/\St w0 w' (ks.set i (cd t A (n - (b - a)) c (xs.take a++xs.drop b)))):=by
 obtain⟨h1,h2,h3,h4⟩:=hS.pY hk (xZ _);have hl:xs.length=n:=(hS.gQ i hk).1;have h2:n<=c:=h2;have h3:c<=maxLen:=h3;rcases h4 with⟨_,jP⟩ | ⟨g,o,cur,hA,hg,hh,hs,hc⟩
 ·have jP:c=0:=jP;omega
 have hA:A=some ⟨g,o,none⟩:=hA;have hs:o+c<=cur.size:=hs;have hc:∀j,j<n->cur[o+j]?=(xs.map aN.v)[j]?:=hc;subst hA;subst hl;obtain⟨i0,eK,_,Hn,_⟩:=bF.get prog 24;have key:=AnyE.slices_Delete adi aN.v (fun _=>O) ew (fun w=>zeroValue24 w) i0 eK Hn g o c a b xs.toArray w (KU hh hc) (by simpa using h2) (by simpa [maxLen]using h3) dN (by simpa using hb);refine Calls.mono key fun x w' ⟨hx,q,hw⟩=> ⟨_,hx,by simp,?_⟩
 subst hw;have h:=hS.laid (q:=q) (m:=xs.length - (b - a)) (enc:=aN.v) (ds:=xs.toArray.toList.take a++xs.toArray.toList.drop b++List.replicate (b - a) ew) hk O hg hh hs (by simp;omega) (by simp;omega) h3;have e1:(xs.toArray.toList.take a++xs.toArray.toList.drop b++List.replicate (b - a) ew).take (xs.length - (b - a))=xs.take a++xs.drop b:=by
  have e2:(xs.take a++xs.drop b).length=xs.length - (b - a):=by simp;omega
  show(xs.take a++xs.drop b++List.replicate (b - a) ew).take _=_;rw [<-e2,wT (bj _),List.take_length]
 rw [e1]at h;exact h
end Go.Proofs.YtagdamiiececaaaGreatDoor.Vc
namespace Go.Proofs.YtagdamiiececaaaGreatDoor.Vc
open Go.RowKit Tryz
variable{w0 w w':aa}{pre ks:List Ck}
theorem Vv{t1 t2:ae}{A:aj}{n c:Nat}{rs:List aN}{xss:ah}(h:St w0 w (pre++aT t1 t2 A n c rs xss)):St w0 w (pre++ (aT t1 t2 A n c rs xss++ [])):=by rwa [fM]
def part(T:ai)(m:Nat):ai:=T.take m++List.replicate (T.length - m) 0
theorem MK(A:aj)(n c:Nat)(rs:List aN)(w:aa)(hR:lQ w A n rs)(hn:n<=1000000)(h0:0<n):aG prog 160 [.slice A n c] w (fun v w'=>∃A' c',v= .slice A' n c'/\St w w' [cd 24 A' n c' rs]):=by
 cases hA:A with
 | none=>
  subst hA;obtain⟨p,hp,_⟩:=hR.2 0 h0;simp [aJ]at hp
 | some a=>
  subst hA;refine bA func160 O ntmps160 O (cJ O) (a8 O (CZ O O O (aI O (Cd.gh O (aE O (ny (St.refl w) O ?_))))));intro A1 w1 aA;have aA:St w w1 [cd 24 A1 0 0 []]:=aA;refine ar O (mJ 0 aA O (aA.LW hR) O O O (by omega) (by omega) O ?_);intro A2 c2 w2 aB;rw [Nat.zero_add]at aB|-;refine bM O (gD O ?_);exact⟨A2,c2,O,aB⟩
theorem ahB(Ab A:aj)(n c:Nat)(rs:List aN)(xss:ah)(i:Nat)(w:aa)(hB:Rd w Ab 1 (fun _=> .slice A n c))(hR:br w A n rs xss)(hn:n<=1000)(hi:i<n):
 aG prog 212 [.pointer Ab,ak i] w (fun v w'=>∃A' c',v= .slice A' (n - 1) c'/\St w w' [cd 24 A' (n - 1) c' (rs.eraseIdx i)]):=by
 refine bA func212 O ntmps212 O (cJ O) (a8 O ?_);refine lq hB (by decide) O O (aX hB O (bn hB O (aL (MK A n c rs _ hR.top (by omega) (by omega)) O ?_)));rintro _ w1 ⟨A1,c1,rfl,aA⟩;refine ar O (aK O ?_);have kj:((i:Int)+1)=((i+1:Nat):Int):=by omega
 rw [kj];refine aL (Xa 0 aA O (by omega) (by omega) (show i<=i+1 by omega) (by omega)) O ?_;rintro _ w2 ⟨rfl,aB⟩;refine bM O (gD O ?_);have e:n - (i+1 - i)=n - 1:=by omega
 rw [e];rw [e,<-List.eraseIdx_eq_take_drop_succ]at aB;exact⟨A1,c1,O,aB⟩
theorem On(Ab A:aj)(n c:Nat)(rs:List aN)(xss:ah)(i:Nat)(w:aa)(hB:Rd w Ab 1 (fun _=> .slice A n c))(hR:br w A n rs xss)(hM:aZ xss)(hi:i<n):
 aG prog 156 [.pointer Ab,ak i] w (fun v w'=>∃A',v= .tuple #[.slice A' (gl xss 0).length (gl xss 0).length,ak (fA xss i)]/\St w w' [az 2 A' (gl xss 0).length (gl xss 0).length (bV xss i)]):=by
 have hl:=hR.len;have h1:=hM.1;have h2:=hM.2.1;have e0:(rg rs 0).n=(gl xss 0).length:=(hR.oG (by omega) (by omega)).symm;refine bA func156 O ntmps156 O (rA O) (a8 O (aL (sY Ab A n c rs xss _ w hB O hR (by omega)) O ?_));rintro _ w ⟨rfl,rfl⟩;rw [e0];refine ar O (aL (ahB Ab A n c rs xss i _ hB hR (by omega) hi) O ?_);rintro _ w1 ⟨A1,c1,rfl,aA⟩;refine aL (HE A1 (n - 1) c1 (rs.eraseIdx i) (xss.eraseIdx i) (gl xss 0).length _ ((aA.bY hR).erase hi (aA.gQ 0 O)) (by omega) (hM.2.2.1.sys.erase i) (hM.2.2.1.inj.erase i) (by omega)) O ?_;rintro _ w2 ⟨A2,rfl,au⟩;have aB:=aA.call au;refine bM O (zN O O ?_);exact⟨A2,O,aB.sub (List.Sublist.cons_cons _ (List.nil_sublist _))⟩
theorem Mf{t:ae}:∀ {rs:List aN} {xss:ah} {i:Nat} {s:aN} {xs:ai},rs.length=xss.length->(du t rs xss).set i (az t s.a s.n s.c xs)=du t (rs.set i s) (xss.set i xs)
 | [],[],_,_,_,_=>rfl
 | [],_::_,_,_,_,h=>by simp at h
 | _::_,[],_,_,_,h=>by simp at h
 | r::rs,x::xss,0,s,xs,_=>rfl
 | r::rs,x::xss,i+1,s,xs,h=>by
  have:=Mf (t:=t) (rs:=rs) (xss:=xss) (i:=i) (s:=s) (xs:=xs) (by simpa using h);simpa [du]using this
theorem HB{w0 w:aa}{t:ae}:∀(n:Nat) {ks:List Ck},St w0 w ks->St w0 w (ks++du t (List.replicate n ew) (List.replicate n []))
 | 0,ks,h=>by show St w0 w (ks++ []);rwa [fM]
 | n+1,ks,h=>by
  have h1:=HB (t:=t) n h;have h2:=h1.nil t;exact h2.perm (uL.symm)
def IP(Vl El:ai)(m:Nat):Nat->ah
 | 0=>List.replicate m []
 | f+1=> (IP Vl El m f).set (gi El f).toNat (gl (IP Vl El m f) (gi El f)++ [gi Vl f])
def ends(Vl El:ai)(m f:Nat):ah:=(IP Vl El m f).map cs
def Fc(L:ah)(K:Int)(w:aa)(v:ad)(w':aa):Prop:=∃A' c' rs',v= .tuple #[.slice A' L.length c',ak K]/\rs'.length=L.length/\St w w' (aT 24 2 A' L.length c' rs' L++ [])
theorem Fc.none{K:Int}(h:St w w' ks):Fc [] K w (.tuple #[.slice Option.none 0 0,ak K]) w':=⟨Option.none,0,[],rfl,rfl,h.none.nil _⟩
def lV(B:ah)(e:Nat):ah:=(B.take e).map cs++B.drop e
theorem adY(B:ah)(e:Nat):(lV B e).length=B.length:=by simp [lV];omega
theorem ad0(B:ah):lV B 0=B:=by simp [lV]
theorem adW(B:ah):lV B B.length=B.map cs:=by simp [lV]
theorem adX{B:ah}{e:Nat}(h:e<B.length):gl (lV B e) e=gl B e:=by
 simp only [gl,lV,gG,cN];rw [lM (by simp;omega)];simp [Nat.min_eq_left (Nat.le_of_lt h)]
theorem adZ{B:ah}{e:Nat}(h:e<B.length):(lV B e).set e (cs (gl B e))=lV B (e+1):=by
 rw [bP h];unfold lV;rw [List.set_append_right _ _ (by simp;omega),rQ h,jb,jy];have e1:e - ((B.take e).map cs).length=0:=by simp;omega
 rw [e1,List.drop_eq_getElem_cons h]
 rfl
theorem TH(i:Nat){t:ae}{A:aj}{n c:Nat}{xs:ai}(hS:St w0 w ks)(hk:ks[i]?=some (az t A n c xs))(hn:n<=1000000000):
 aG prog 130 [.slice A n c] w (fun v w'=>v= .tuple #[]/\St w0 w' (ks.set i (az t A n c (l5 xs)))):=by
 by_cases h0:0<n
 ·exact agz i hS hk h0 hn
 obtain rfl:n=0:=by omega
 have gP:=hS.Cm i hk;obtain rfl:=qH gP;refine Calls.mono (AnyM.slices_Sort_int_none Sh A c w) fun x w' ⟨hx,hw⟩=> ⟨_,hx,O,?_⟩
 subst hw;have e:l5 []=[]:=qH (H3 []).length_eq;rw [e,Ml hk];exact hS
theorem NQ(i:Nat){t:ae}{A:aj}{n c:Nat}{xs:ai}(hS:St w0 w ks)(hk:ks[i]?=some (az t A n c xs))(hn:n<=1000000000):
 aG prog 131 [.slice A n c] w (fun v w'=>v= .slice A (kR xs).length c/\St w0 w' (ks.set i (az t A (kR xs).length c (kR xs)))):=by
 by_cases h0:0<n
 ·exact WN i hS hk h0 hn
 obtain rfl:n=0:=by omega
 have gP:=hS.Cm i hk;obtain rfl:=qH gP;have e:kR []=[]:=qH (Nat.le_zero.1 (NM []));rw [e];refine bA func131 O ntmps131 O (cJ O) ?_;refine a8 O (bc O O (aI O ?_));refine CO O (by decide) (eT O (gD O ?_));exact⟨O,by rw [show([]:ai).length=0 from O,Ml hk];exact hS⟩
theorem Sk{t1 t2:ae}{A:aj}{n c:Nat}{rs:List aN}{xss:ah}(h:rs.length=xss.length):(aT t1 t2 A n c rs xss).length=rs.length+1:=by simp [aT,zP h]
section
variable {P:Program} {N:Nat} {ops:Array Oper} {K:Env->aa->Prop} {rest:List Oper} {e:Env} {w:aa} {d:Nat} {ty:ae} {pos:String} {af:Array Edge}
theorem Vg{F:FuncId}{x y:ag}{v1 v2:ad}(hx:ev e x=v1)(hy:ev e y=v2)(hb:Nat.blt d N=true)(hK:ao P N ops K rest (bq e d (.func (.func F) #[] #[v1,v2])) w):
 ao P N ops K (⟨some d,.makeFunc (.func F) #[] #[x,y],ty,pos,af,none⟩::rest) e w:=
 .val (by simp [execOp,Instr.makeFunc,hx,hy]) hb hK
end
def yz(lo hi:Int)(xs:ai):Prop:=∀x∈xs,lo<=x/\x<=hi
instance (lo hi:Int)(xs:ai):Decidable (yz lo hi xs):=by unfold yz;exact inferInstance
theorem VX(x lo hi:Int)(P1 P2:aj)(w:aa)(h1:Rd w P1 1 (fun _=>ak lo))(h2:Rd w P2 1 (fun _=>ak hi)):
 aG prog 185 [ak x,.pointer P1,.pointer P2] w (fun v w'=>v= .bool (decide (¬(lo<=x/\x<=hi)))/\w'=w):=by
 refine bA func185 O ntmps185 O (cJ O) (a8 O ?_);refine ao.ld h1 (by exact aO Value.pointer (nY P1).symm) (by decide) O O O ?_;refine ao.ld h2 (by exact aO Value.pointer (nY P2).symm) (by decide) O O O ?_;refine aL (sL _ _ _ _) O ?_;rintro _ w ⟨rfl,rfl⟩
 first | refine eA rfl rfl ?_ | refine eU rfl rfl ?_
 refine bM O (dK O ?_);exact⟨O,O⟩
theorem UP(A:aj)(n c:Nat)(xs:ai)(lo hi:Int)(P1 P2:aj)(w:aa)(hR:cn w A n xs)(hn:n<=9223372036854775807)(h1:Rd w P1 1 (fun _=>ak lo))(h2:Rd w P2 1 (fun _=>ak hi)):
 aG prog 232 [.slice A n c,.func (.func 185) #[] #[.pointer P1,.pointer P2]] w (fun v w'=> (∃i:Int,v=ak i/\(0<=i↔¬yz lo hi xs))/\w'=w):=by
 have gP:=hR.1;refine bA func232 O ntmps232 O (cJ O) ?_;refine a8 O (bc O O (aI O ?_));refine Cd.loop (α:=Nat) (fun k=> [(0,.slice A n c),(1,.func (.func 185) #[] #[.pointer P1,.pointer P2]),(7,ak n),(8,ak k)]) (fun k w'=>w'=w/\k<=n/\∀j,j<k->lo<=gi xs (j:Nat)/\gi xs (j:Nat)<=hi) (fun k=>n - k) 0 (ajs O) ⟨O,a7 _,fun j hj=>by omega⟩ ?_;rintro k e w ⟨rfl,hk,hK⟩;refine bL O (aR _ O (fun h3=>?_) (fun h3=>?_))
 ·refine aE O (aM hR.2 O (bk hR O (aL (VX _ lo hi P1 P2 _ h1 h2) O ?_)));rintro _ w ⟨rfl,rfl⟩;refine aI O (aR _ O (fun h4=>?_) (fun h4=>?_))
  ·refine eT O (gx (fV ?_));refine gY O ?_;exact⟨⟨(k:Int),O,⟨fun _ ha=>h4 (by rw [bO (by omega)];exact ha _ (dB _)),fun _=>by omega⟩⟩,O⟩
  refine aE O (aK O (aU O (tQ ?_)));refine⟨k+1,by show n - (k+1)<n - k;omega,(ajs O),O,by omega,fun j hj=>?_⟩
  by_cases ej:j=k
  ·subst ej;exact iy.1 h4
  exact hK j (by omega)
 refine bw O (bz (gE O ?_));refine gY O ⟨⟨-1,O,⟨fun h=>absurd h (by decide),fun h=>absurd (fun x hx=>?_) h⟩⟩,O⟩;obtain⟨j,hj,rfl⟩:=fJ.1 hx;have:=hK j (by omega)
 rwa [bO hj]at this
theorem UG(A:aj)(n c:Nat)(xs:ai)(lo hi:Int)(P1 P2:aj)(w:aa)(hR:cn w A n xs)(hn:n<=9223372036854775807)(h1:Rd w P1 1 (fun _=>ak lo))(h2:Rd w P2 1 (fun _=>ak hi)):
 aG prog 184 [.slice A n c,.func (.func 185) #[] #[.pointer P1,.pointer P2]] w (fun v w'=>v= .bool (decide (¬yz lo hi xs))/\w'=w):=by
 refine bA func184 O ntmps184 O (cJ O) (a8 O (aL (UP A n c xs lo hi P1 P2 _ hR hn h1 h2) O ?_));rintro _ w ⟨⟨i,rfl,bX⟩,rfl⟩;refine bM O (dK O ?_);exact⟨aO Value.bool (jJ.2 bX),O⟩
theorem VY(A:aj)(n c:Nat)(xs:ai)(lo hi:Int)(w:aa)(hR:cn w A n xs)(hn:n<=9223372036854775807):
 aG prog 114 [.slice A n c,ak lo,ak hi] w (fun v w'=>v= .bool (decide (yz lo hi xs))/\St w w' []):=by
 refine bA func114 O ntmps114 O (cJ O) (a8 O ?_);refine ao.box (v:=ak lo) (St.refl w) O O (by show(1:Nat)<=maxLen;simp [maxLen]) ?_;intro P1 w1 aA;have aA:St w w1 [Bx 2 1 P1 [ak lo]]:=aA;refine ao.box (v:=ak hi) aA O O (by show(1:Nat)<=maxLen;simp [maxLen]) ?_;intro P2 w2 aB;have aB:St w w2 [Bx 2 1 P2 [ak hi],Bx 2 1 P1 [ak lo]]:=aB;refine ar O (Vg O O O (aL (UG A n c xs lo hi P1 P2 _ (aB.gW hR) hn (Rd.one (aB.rd 1 O)) (Rd.one (aB.rd 0 O))) O ?_));rintro _ w2 ⟨rfl,rfl⟩
 first | refine eA rfl rfl ?_ | refine eU rfl rfl ?_
 refine bM O (dK O ?_);exact⟨by simp,aB.none⟩
def MQ(n:Nat)(ws:ai):Prop:=yz 0 ((n:Int) - 1) ws/\ws.length<=64
instance (n:Nat)(ws:ai):Decidable (MQ n ws):=by unfold MQ;exact inferInstance
end Go.Proofs.YtagdamiiececaaaGreatDoor.Vc
namespace Go.Proofs.YtagdamiiececaaaGreatDoor.Vc
open Tryz
variable{B M:ah}{i k j:Nat}{p b R:ai}{x y u:Int}
theorem Ly{N:Nat}{xss:ah}(hs:Sys N xss)(bX:pT N xss){x y:Int}(h0:0<=x)(h1:x<N)(hr:Reach xss x y):∀i,i<=N->gi (bg N xss i).1 x=gi (bg N xss i).1 y
 | 0,_=>by
  have hy:=hr.range hs h0 h1;simp only [bg,xm h0 h1,xm hy.1 hy.2]
 | i+1,hi=>by
  have hy:=hr.range hs h0 h1;have ih:=Ly hs bX h0 h1 hr i (by omega);have ho:=sD hs (pt:=(i:Int)) (by omega) (by omega);simp only [bg]
  split
  ·exact ih
  ·simp only;rw [uX _ _ _ (nU N xss i) ho.1.range x h0,uX _ _ _ (nU N xss i) ho.1.range y hy.1];have hm:x∈b8 N xss i↔y∈b8 N xss i:=by
    rw [ho.2.2,ho.2.2];exact⟨fun h=>h.trans hr,fun h=>h.trans (hr.symm hs bX h0 h1)⟩
   by_cases h:x∈b8 N xss i
   ·rw [ay h,ay (hm.1 h)]
   ·rw [aw h,aw (fun h'=>h (hm.2 h')),ih]
theorem R2{N:Nat}{xss:ah}(hs:Sys N xss)(bX:pT N xss){x y:Int}(h0:0<=x)(h1:x<N)(h2:0<=y)(h3:y<N):∀i,i<=N->gi (bg N xss i).1 x=gi (bg N xss i).1 y->0<=gi (bg N xss i).1 x->Reach xss x y
 | 0,_,_,h=>by simp only [bg,xm h0 h1]at h;omega
 | i+1,hi,he,hp=>by
  have ih:=R2 hs bX h0 h1 h2 h3 i (by omega);have ho:=sD hs (pt:=(i:Int)) (by omega) (by omega);have hc:=wz N xss i;have hx:=(Cj hs bX i (by omega)).1 x h0 h1;have hy:=(Cj hs bX i (by omega)).1 y h2 h3;simp only [bg]at he hp
  split at he
  ·rename_i hl;rw [ay hl]at hp;exact ih he hp
  ·rename_i hl;rw [aw hl]at hp;simp only at he hp;rw [uX _ _ _ (nU N xss i) ho.1.range x h0]at he hp;rw [uX _ _ _ (nU N xss i) ho.1.range y h2]at he
   by_cases uq:x∈b8 N xss i
   ·rw [ay uq]at he
    by_cases Ep:y∈b8 N xss i
    ·exact(((ho.2.2 x).1 uq).symm hs bX (by omega) (by omega)).trans ((ho.2.2 y).1 Ep)
    ·rw [aw Ep]at he;omega
   ·rw [aw uq]at he hp
    by_cases Ep:y∈b8 N xss i
    ·rw [ay Ep]at he;omega
    ·rw [aw Ep]at he;exact ih he hp
theorem Oc{xss:ah}(hk:k<xss.length)(bt:k≠i):gl xss k∈xss.eraseIdx i:=by
 rw [List.mem_eraseIdx_iff_getElem];exact⟨k,hk,bt,by rw [bP hk]⟩
theorem Od{xss:ah}(h:p∈xss.eraseIdx i):∃k:Nat,k<xss.length/\k≠i/\p=gl xss k:=by
 rw [List.mem_eraseIdx_iff_getElem]at h;obtain⟨k,hk,bt,rfl⟩:=h;exact⟨k,hk,bt,by rw [bP hk]⟩
theorem Dl{xss:ah}(hM:aZ xss)(hk:k<xss.length)(bt:k≠i){f:Int}(h0:0<=f)(h1:f< (gl xss 0).length):gi (bV xss i) (gi (gl xss k) f)=gi (bV xss i) f:=(Ly (hM.2.2.1.sys.erase i) (hM.2.2.1.inj.erase i) h0 h1 (.step .refl (Oc hk bt)) _ (bj _)).symm
theorem Dm{xss:ah}(hM:aZ xss){f g:Int}(h0:0<=f)(h1:f< (gl xss 0).length)(h2:0<=g)(h3:g< (gl xss 0).length)(h:gi (bV xss i) f=gi (bV xss i) g):Reach (xss.eraseIdx i) f g:=by
 obtain⟨k,rfl⟩:∃k:Nat,f=k:=⟨f.toNat,by omega⟩;exact R2 (hM.2.2.1.sys.erase i) (hM.2.2.1.inj.erase i) h0 h1 h2 h3 _ (bj _) h (xi hM i k (by omega)).1
theorem aZ.two{xss:ah}(hM:aZ xss)(hk:k<xss.length){f:Int}(h0:0<=f)(h1:f< (gl xss 0).length):gi (gl xss k) (gi (gl xss k) f)=f:=by
 obtain⟨q,rfl⟩:∃q:Nat,f=q:=⟨f.toNat,by omega⟩;have hr:=hM.2.2.1.at_ hk;exact(hr.2.2 q (by omega)).2
theorem aZ.wu{xss:ah}(hM:aZ xss)(hk:k<xss.length){f:Int}(h0:0<=f)(h1:f< (gl xss 0).length):0<=gi (gl xss k) f/\gi (gl xss k) f< (gl xss 0).length:=(hM.2.2.1.sys _ (by rw [bP hk];exact dB _)).2 f h0 h1
theorem aZ.comm{xss:ah}(hM:aZ xss)(hi:i<xss.length)(hk:k<xss.length)(mr:i+2<=k){f:Int}(h0:0<=f)(h1:f< (gl xss 0).length):gi (gl xss k) (gi (gl xss i) f)=gi (gl xss i) (gi (gl xss k) f):=by
 obtain⟨q,rfl⟩:∃q:Nat,f=q:=⟨f.toNat,by omega⟩;exact(hM.2.2.2.1 i hi k hk mr q (by omega)).1
def LT(a b:ai):Prop:=gJ a b<0
instance (a b:ai):Decidable (LT a b):=by unfold LT;infer_instance
theorem LT.ne{a:ai}(h:LT a b):a≠b:=fun e=>by
 unfold LT at h;rw [zC.2 e]at h;omega
theorem MT{a:ai}(h:¬LT a b)(h':a≠b):LT b a:=by
 unfold LT at h|-;have h1:=Hw a b;have h2:gJ a b≠0:=fun e=>h' (zC.1 e)
 omega
theorem LT.asymm{a:ai}(h:LT a b):¬LT b a:=fun h'=>by
 unfold LT at h h';have h1:=Hw a b;omega
theorem Im(a:ai):¬LT a a:=fun h=>h.ne rfl
theorem LT.trans{a c:ai}(h:LT a b)(h':LT b c):LT a c:=LF h h'
theorem UT{a c:ai}(h:¬LT a b)(h':¬LT b c):¬LT a c:=fun xA=>by
 by_cases e:a=b
 ·subst e;exact h' xA
 exact h' ((MT h e).trans xA)
def SL(l:ah):Prop:=l.Pairwise LT
theorem SL.nodup{l:ah}(h:SL l):l.Nodup:=h.imp fun h=>h.ne
theorem SL.eq:∀ {l l':ah},SL l->SL l'->(∀x,x∈l↔x∈l')->l=l'
 | [],[],_,_,_=>rfl
 | [],b::r,_,_,h=>absurd ((h b).2 (by simp)) (by simp)
 | a::l,[],_,_,h=>absurd ((h a).1 (by simp)) (by simp)
 | a::l,b::r,hl,hr,h=>by
  obtain⟨nP,th⟩:=List.pairwise_cons.1 hl;obtain⟨ng,pF⟩:=List.pairwise_cons.1 hr;have e:a=b:=by
   have h1:a∈b::r:=(h a).1 (by simp);have h2:b∈a::l:=(h b).2 (by simp);rcases jq.1 h1 with e | h1
   ·exact e
   ·rcases jq.1 h2 with e | h2
    ·exact e.symm
    ·exact absurd (nP b h2) (ng a h1).asymm
  subst e;rw [SL.eq th pF fun x=>?_];have hx:=h x;constructor
  ·intro hm;rcases jq.1 (hx.1 (by simp [hm]))with e | h'
   ·subst e;exact absurd (nP x hm) (Im x)
   ·exact h'
  ·intro hm;rcases jq.1 (hx.2 (by simp [hm]))with e | h'
   ·subst e;exact absurd (ng x hm) (Im x)
   ·exact h'
def Ins(a b:ai):Prop:=∀x∈a,x∈b
instance (a b:ai):Decidable (Ins a b):=by unfold Ins;infer_instance
theorem MS{a:ai}:LT (x::a) (y::b)↔x<y\/x=y/\LT a b:=by
 unfold LT;rw [gJ]
 by_cases e:x=y
 ·subst e;rw [ay (AV.2 rfl)];constructor
  ·exact fun h=> .inr ⟨O,h⟩
  rintro(h | h)
  ·omega
  exact h.2
 rw [aw (fun h=>e (AV.1 h)),FL];constructor
 ·exact fun h=> .inl h
 rintro(h | h)
 ·exact h
 exact absurd h.1 e
def MW(ls:ah)(x:ai):Prop:=x∈ls/\x≠[]/\∀y∈ls,Ins x y->y=x
instance (ls:ah)(x:ai):Decidable (MW ls x):=by unfold MW;infer_instance
def IL(x:ai):ah->Nat
 | []=>0
 | y::l=>if LT y x then IL x l+1 else 0
def afr(l:ah)(x:ai):ah:=if x∈l then l else l.take (IL x l)++x::l.drop (IL x l)
def Th(ls:ah):ah:=(ls.filter fun l=>decide (l≠[])).foldl afr []
def Xv(ls:ah):ah:=(Th ls).filter fun x=>decide (∀y∈Th ls,Ins x y->y=x)
def ix(s:ai)(x:Int):Int:=(s.idxOf x:Nat)
def W6(ss:ah):ai:=cs ss.flatten
def MM(ss:ah):Prop:=(∃l∈ss,6<l.length)\/60< (W6 ss).length\/400< (Xv ss).length
instance (ss:ah):Decidable (MM ss):=by unfold MM;infer_instance
def bN(n:Nat):ai:=(List.range n).map fun k:Nat=> (k:Int)
theorem ES(n:Nat):(bN n).length=n:=by simp [bN]
theorem gL(n:Nat)(x:Int):x∈bN n↔0<=x/\x<n:=by
 simp only [bN,db,fU];exact⟨fun⟨k,hk,e⟩=>by omega,fun h=> ⟨x.toNat,by omega,by omega⟩⟩
theorem ky(n:Nat):SA (bN n):=by
 unfold SA bN;rw [kM];exact List.pairwise_lt_range.imp fun h=>by omega
theorem Bk(x:Int)(l:ai)(i:Nat):gi (x::l) ((i+1:Nat):Int)=gi l (i:Nat):=by simp [gi]
theorem SA.x6{l:ai}(h:SA l)(gU:i<j)(hj:j<l.length):gi l i<gi l j:=by
 rw [bO (by omega),bO hj];exact List.pairwise_iff_getElem.1 h i j (by omega) hj gU
def jT(R:ai)(B:ah)(e:Int):ai:=(bN R.length).filter fun f=>decide (gi R f=gi R e+1/\e∈gl B f)
theorem l6{e f:Int}:f∈jT R B e↔(0<=f/\f<R.length)/\gi R f=gi R e+1/\e∈gl B f:=by
 unfold jT;rw [fT,gL,kU]
theorem CG(R:ai)(B:ah)(e:Int):SA (jT R B e):=oL _ (ky _)
def mO(R:ai)(B:ah):Nat->Int->ah
 | 0,_=> [[]]
 | k+1,e=> (jT R B e).flatMap fun f=> (mO R B k f).map (f:: ·)
def tP(R:ai):ai:=(bN R.length).filter fun e=>decide (gi R e=0)
theorem sT{e:Int}:e∈tP R↔(0<=e/\e<R.length)/\gi R e=0:=by
 unfold tP;rw [fT,gL,kU]
def aD(n:Nat)(R:ai)(B:ah):ah:=(tP R).flatMap fun e=> (mO R B (n - 1) e).map (e:: ·)
def dL(n:Nat)(R:ai)(B:ah)(e:Int):Prop:=mO R B (n - 1 - (gi R e).toNat) e≠[]
instance (n:Nat)(R:ai)(B:ah)(e:Int):Decidable (dL n R B e):=by unfold dL;infer_instance
theorem Nk{n:Nat}{e:Int}(h:gi R e=(n:Int) - 1):dL n R B e:=by
 unfold dL;rw [show n - 1 - (gi R e).toNat=0 by omega];simp [mO]
theorem Ft{n:Nat}{e:Int}(h0:0<=gi R e)(h1:gi R e< (n:Int) - 1):dL n R B e↔∃f∈jT R B e,dL n R B f:=by
 obtain⟨k,hk⟩:∃k,n - 1 - (gi R e).toNat=k+1:=⟨n - 1 - (gi R e).toNat - 1,by omega⟩;have hf:∀f∈jT R B e,n - 1 - (gi R f).toNat=k:=fun f hf=>by
  have:=(l6.1 hf).2.1;omega
 unfold dL;rw [hk,mO];constructor
 ·intro h;obtain⟨x,hx⟩:=List.exists_mem_of_ne_nil _ h;obtain⟨f,iX,hx⟩:=List.mem_flatMap.1 hx;obtain⟨y,hy,_⟩:=db.1 hx;exact⟨f,iX,by rw [hf f iX];exact List.ne_nil_of_mem hy⟩
 rintro⟨f,iX,h⟩;rw [hf f iX]at h;obtain⟨y,hy⟩:=List.exists_mem_of_ne_nil _ h;exact List.ne_nil_of_mem (List.mem_flatMap.2 ⟨f,iX,db.2 ⟨y,hy,O⟩⟩)
theorem Ju{α β:Type}{p:α->Bool}{g:α->List β}:∀ {l:List α},(∀x∈l,p x=false->g x=[])->(l.filter p).flatMap g=l.flatMap g
 | [],_=>rfl
 | a::r,h=>by
  have ih:=Ju (p:=p) (g:=g) (l:=r) fun x hx=>h x (pj _ hx)
  cases hp:p a with
  | true=>rw [yw hp,List.flatMap_cons,List.flatMap_cons,ih]
  | false=>rw [vB (by simp [hp]),List.flatMap_cons,ih,h a (by simp) hp];rfl
theorem Uk{n:Nat}{e:Int}(h0:0<=gi R e)(hk:(gi R e).toNat+ (k+1)=n - 1):mO R B (k+1) e=((jT R B e).filter fun f=>decide (dL n R B f)).flatMap fun f=> (mO R B k f).map (f:: ·):=by
 rw [mO,Ju];intro f hf h;have h2:=(l6.1 hf).2.1;have h3:¬dL n R B f:=by simpa using h
 unfold dL at h3;rw [show n - 1 - (gi R f).toNat=k by omega]at h3;rw [iy.1 h3];rfl
theorem NB{n:Nat}:aD n R B=((tP R).filter fun f=>decide (dL n R B f)).flatMap fun e=> (mO R B (n - 1) e).map (e:: ·):=by
 rw [aD,Ju];intro f hf h;have h2:=(sT.1 hf).2;have h3:¬dL n R B f:=by simpa using h
 unfold dL at h3;rw [h2]at h3;rw [show n - 1 - (0:Int).toNat=n - 1 by rfl]at h3;rw [iy.1 h3];rfl
def cap(l:ah):ah:=l.take 401
theorem I4(l:ah):(cap l).length<=401:=by unfold cap;rw [List.length_take];omega
theorem FF{l:ah}(m:ah)(h:400< (cap l).length):cap (l++m)=cap l:=by
 unfold cap at h|-;rw [oM]at h;rw [wT (by omega)]
theorem I3{l:ah}(h:(cap l).length<=400):cap l=l:=by
 unfold cap at h|-;rw [oM]at h;exact jW (by omega)
theorem FE{l:ah}:(cap l).length<=400↔l.length<=400:=by
 unfold cap;rw [oM];omega
theorem Wp{l:ah}(x:ai)(h:(cap l).length<=400):cap (l++ [x])=cap l++ [x]:=by
 rw [I3 h];rw [FE]at h;unfold cap;exact jW (by rw [cS,List.length_singleton];omega)
def CP(R:ai)(B:ah):Int->ai->Prop
 | _,[]=>True
 | e,f::r=>f∈jT R B e/\CP R B f r
theorem FZ{R:ai}{B:ah}:∀ {k:Nat} {e:Int} {x:ai},x∈mO R B k e↔x.length=k/\CP R B e x
 | 0,e,x=>by
  rw [mO,gk];constructor
  ·rintro rfl;exact⟨rfl,av⟩
  ·exact fun h=>qH h.1
 | k+1,e,x=>by
  rw [mO,List.mem_flatMap];constructor
  ·rintro⟨f,hf,h⟩;obtain⟨y,hy,rfl⟩:=db.1 h;obtain⟨h1,h2⟩:=FZ.1 hy;exact⟨by rw [List.length_cons,h1],hf,h2⟩
  ·rintro⟨h1,h2⟩
   match x,h1,h2 with
   | f::r,h1,⟨h2,h3⟩=>exact⟨f,h2,db.2 ⟨r,FZ.2 ⟨by simpa using h1,h3⟩,rfl⟩⟩
theorem Ii{R:ai}{B:ah}:∀ {x:ai} {e:Int},CP R B e x↔∀i:Nat,i<x.length->gi (e::x) ((i+1:Nat):Int)∈jT R B (gi (e::x) i)
 | [],e=>by simp [CP]
 | f::r,e=>by
  rw [CP,Ii (x:=r) (e:=f)];constructor
  ·rintro⟨h1,h2⟩ i hi
   match i with
   | 0=>exact h1
   | i+1=>
    rw [Bk,Bk];exact h2 i (by simpa using hi)
  ·intro h;refine⟨h 0 (by simp),fun i hi=>?_⟩;have:=h (i+1) (by simpa using hi)
   rwa [Bk,Bk]at this
theorem nG{n:Nat}(hn:1<=n){x:ai}:x∈aD n R B↔x.length=n/\(∀i:Nat,i<n->(0<=gi x i/\gi x i<R.length)/\gi R (gi x i)=i)/\∀i:Nat,i+1<n->gi x i∈gl B (gi x ((i+1:Nat):Int)):=by
 unfold aD;rw [List.mem_flatMap];constructor
 ·rintro⟨e,he,h⟩;obtain⟨y,hy,rfl⟩:=db.1 h;obtain⟨h1,h2⟩:=FZ.1 hy;obtain⟨h3,h4⟩:=sT.1 he;rw [Ii]at h2;have key:∀i:Nat,i<n->(0<=gi (e::y) i/\gi (e::y) i<R.length)/\gi R (gi (e::y) i)=i:=by
   intro i
   induction i with
   | zero=>intro _;exact⟨h3,h4⟩
   | succ i ih=>
    intro hi;have h5:=l6.1 (h2 i (by omega));have h6:=ih (by omega);exact⟨h5.1,by rw [h5.2.1,h6.2];omega⟩
  exact⟨by rw [List.length_cons,h1];omega,key,fun i hi=> (l6.1 (h2 i (by omega))).2.2⟩
 ·rintro⟨h1,h2,h3⟩
  match x,h1,h2,h3 with
  | [],h1,_,_=>simp at h1;omega
  | e::y,h1,h2,h3=>
   rw [List.length_cons]at h1;refine⟨e,sT.2 (h2 0 (by omega)),db.2 ⟨y,FZ.2 ⟨by omega,Ii.2 fun i hi=>?_⟩,O⟩⟩;have h4:=h2 (i+1) (by omega);have h5:=h2 i (by omega);exact l6.2 ⟨h4.1,by rw [h4.2,h5.2];omega,h3 i (by omega)⟩
theorem Iy{g:Int->ah}(hg:∀f,SL (g f)):∀ {l:ai},SA l->SL (l.flatMap fun f=> (g f).map (f:: ·))
 | [],_=>List.Pairwise.nil
 | a::l,h=>by
  obtain⟨h1,h2⟩:=List.pairwise_cons.1 h;rw [List.flatMap_cons,SL,List.pairwise_append];refine⟨kM.2 ((hg a).imp fun h=>MS.2 (.inr ⟨O,h⟩)),Iy hg h2,fun x hx y hy=>?_⟩;obtain⟨u,_,rfl⟩:=db.1 hx;obtain⟨b,hb,hy⟩:=List.mem_flatMap.1 hy;obtain⟨v,_,rfl⟩:=db.1 hy;exact MS.2 (.inl (h1 b hb))
theorem Og(R:ai)(B:ah):∀(k:Nat) (e:Int),SL (mO R B k e)
 | 0,_=>by simp [mO,SL]
 | k+1,e=>Iy (Og R B k) (CG R B e)
theorem Bg(n:Nat)(R:ai)(B:ah):SL (aD n R B):=Iy (Og R B (n - 1)) (oL _ (ky _))
structure gm(n:Int)(R:ai)(B:ah):Prop where
 n1:1<=n/\n<=5
 oQ:R.length<=500
 len:B.length=R.length
 cj:∀x∈R,0<=x/\x<=n - 1
 Ay:rH R
 row:∀e:Nat,e<R.length->SA (gl B e)/\∀d∈gl B e,(0<=d/\d<R.length)/\gi R d<gi R e
 tr:∀e:Nat,e<R.length->∀d∈gl B e,∀c∈gl B d,c∈gl B e
theorem rH.le(h:rH R)(gU:i<=j)(hj:j<R.length):gi R i<=gi R j:=by
 rcases Nat.lt_or_eq_of_le gU with h1 | rfl
 ·rw [bO (by omega),bO hj];exact List.pairwise_iff_getElem.1 h i j (by omega) hj h1
 exact Int.le_refl _
theorem gm.at_{n:Int}(h:gm n R B){e:Int}(h0:0<=e)(h1:e<R.length):SA (gl B e)/\(∀d∈gl B e,(0<=d/\d<e)/\gi R d<gi R e)/\∀d∈gl B e,∀c∈gl B d,c∈gl B e:=by
 obtain⟨k,rfl⟩:∃k:Nat,e=k:=⟨e.toNat,by omega⟩;have hr:=h.row k (by omega);refine⟨hr.1,fun d hd=>?_,h.tr k (by omega)⟩;have h2:=hr.2 d hd;obtain⟨j,rfl⟩:∃j:Nat,d=j:=⟨d.toNat,by omega⟩;refine⟨⟨by omega,?_⟩,h2.2⟩;refine Int.not_le.1 fun hle=>?_
 have:=h.Ay.le (i:=k) (j:=j) (by omega) (by omega);omega
theorem gm.ri{n:Int}(h:gm n R B){e:Int}(h0:0<=e)(h1:e<R.length):0<=gi R e/\gi R e<=n - 1:=by
 obtain⟨k,rfl⟩:∃k:Nat,e=k:=⟨e.toNat,by omega⟩;exact h.cj _ (gi_in (by omega))
def aF(M:ah):Nat->Nat
 | 0=>0
 | i+1=>aF M i+ (fA M i).toNat
def bo(M:ah):Nat->ai
 | 0=> []
 | i+1=>bo M i++List.replicate (fA M i).toNat (i:Int)
theorem jg(M:ah):∀i,(bo M i).length=aF M i
 | 0=>rfl
 | i+1=>by rw [bo,cS,jg M i,List.length_replicate];rfl
def bh(M:ah)(i:Nat)(f:Nat):Int:=(aF M i:Int)+gi (bV M i) f
theorem nn(M:ah)(h:i<=j):aF M i<=aF M j:=by
 induction h with
 | refl=>exact bj _
 | step _ ih=>exact nv ih (by show _<=aF M _+_;omega)
theorem oV(hM:aZ M){f:Nat}(hf:f< (gl M 0).length):(aF M i:Int)<=bh M i f/\bh M i f< (aF M (i+1):Int):=by
 have h1:=xi hM i f hf;unfold bh;show _/\_< ((aF M i+ (fA M i).toNat:Nat):Int);omega
theorem Dt{n:Nat}:∀ {i:Nat},i<n->∀ {e:Int},(aF M i:Int)<=e->e< (aF M (i+1):Int)->gi (bo M n) e=i:=by
 induction n with
 | zero=>intro i hi;omega
 | succ n ih=>
  intro i hi e h0 h1;obtain⟨k,rfl⟩:∃k:Nat,e=k:=⟨e.toNat,by omega⟩;have hl:=jg M n
  by_cases h:i=n
  ·subst h;rw [bo,gi,cN,lM (by rw [hl];omega),List.getElem?_replicate,ay]
   ·rfl
   ·have:aF M (i+1)=aF M i+ (fA M i).toNat:=O;rw [hl];omega
  ·have h3:=nn M (show i+1<=n by omega);have h2:=ih (show i<n by omega) h0 h1;rw [bo,gi,cN,mc (by rw [hl];omega),<-cN];exact h2
theorem Jy{n:Nat}{e:Int}(h0:0<=e)(h1:e< (aF M n:Int)):∃i,i<n/\(aF M i:Int)<=e/\e< (aF M (i+1):Int):=by
 induction n with
 | zero=>have:aF M 0=0:=rfl;omega
 | succ n ih=>
  by_cases h:e< (aF M n:Int)
  ·obtain⟨i,hi,h2⟩:=ih h;exact⟨i,by omega,h2⟩
  ·exact⟨n,by omega,by omega,h1⟩
theorem OR(M:ah):∀n,rH (bo M n)/\∀x∈bo M n,0<=x/\x< (n:Int)
 | 0=> ⟨List.Pairwise.nil,fun x hx=>by cases hx⟩
 | n+1=>by
  obtain⟨h1,h2⟩:=OR M n;refine⟨?_,fun x hx=>?_⟩
  ·rw [bo,rH,List.pairwise_append];refine⟨h1,List.pairwise_replicate.2 (.inr (Int.le_refl _)),fun x hx y hy=>?_⟩;have:=h2 x hx;have:=(List.mem_replicate.1 hy).2;omega
  ·rw [bo]at hx;rcases jz.1 hx with h | h
   ·have:=h2 x h;omega
   ·have:=(List.mem_replicate.1 h).2;omega
def qG(M:ah)(d e:Int):Prop:=∃f:Nat,f< (gl M 0).length/\∃i:Nat,i<M.length/\∃k:Nat,k<i/\e=bh M i f/\d=bh M k f
open Classical in
noncomputable def bD(M:ah):ah:=(bN (aF M M.length)).map fun e=> (bN (aF M M.length)).filter fun d=>decide (qG M d e)
theorem tV(M:ah):(bD M).length=aF M M.length:=by simp [bD,bN]
theorem mQ{e:Int}(h0:0<=e)(h1:e< (aF M M.length:Int))(d:Int):d∈gl (bD M) e↔(0<=d/\d< (aF M M.length:Int))/\qG M d e:=by
 obtain⟨k,rfl⟩:∃k:Nat,e=k:=⟨e.toNat,by omega⟩;rw [bP (by rw [tV];omega)];unfold bD;rw [List.getElem_map,fT,gL];have:(bN (aF M M.length))[k]'(by rw [ES];omega)=(k:Int):=by simp [bN]
 rw [this];exact and_congr Iff.rfl (by simp)
theorem qG.cj(hM:aZ M){d e:Int}(h:qG M d e):(0<=d/\d< (aF M M.length:Int))/\(0<=e/\e< (aF M M.length:Int))/\gi (bo M M.length) d<gi (bo M M.length) e:=by
 obtain⟨f,hf,i,hi,k,hk,rfl,rfl⟩:=h;have h1:=oV hM (i:=i) hf;have h2:=oV hM (i:=k) hf;have h3:=nn M (show i+1<=M.length by omega);have h4:=nn M (show k+1<=M.length by omega);refine⟨by omega,by omega,?_⟩;rw [Dt hi h1.1 h1.2,Dt (show k<M.length by omega) h2.1 h2.2];omega
theorem T5(h:p∈M.take j):∃k:Nat,k<j/\k<M.length/\p=gl M k:=by
 obtain⟨k,hk,rfl⟩:=fJ.1 h;rw [oM]at hk;exact⟨k,by omega,by omega,by rw [List.getElem_take,bP (by omega)]⟩
theorem Sf(hM:aZ M)(j:Nat):Sys (gl M 0).length (M.take j):=fun p hp=>hM.2.2.1.sys p (List.mem_of_mem_take hp)
theorem adF(hM:aZ M)(h0:0<=y)(h1:y< (gl M 0).length)(h:Reach (M.take j) y u):∀i:Nat,j<=i->gi (bV M i) u=gi (bV M i) y:=by
 induction h with
 | refl=>exact fun _ _=>rfl
 | step h hp ih=>
  intro i hi;have hr:=h.range (Sf hM j) h0 h1;obtain⟨k,BX,hk,rfl⟩:=T5 hp;rw [Dl hM hk (by omega) hr.1 hr.2,ih i hi]
theorem adE(hM:aZ M)(tf:j<k)(hk:k<M.length)(h0:0<=y)(h1:y< (gl M 0).length)(h:Reach (M.take j) y u):Reach (M.take j) (gi (gl M k) y) (gi (gl M k) u):=by
 induction h with
 | refl=>exact .refl
 | step h hp ih=>
  have hr:=h.range (Sf hM j) h0 h1;obtain⟨i,gU,hi,rfl⟩:=T5 hp;rw [hM.comm hi hk (by omega) hr.1 hr.2];exact .step ih hp
theorem TO(hM:aZ M){f:Int}(h0:0<=f)(h1:f< (gl M 0).length){g:Int}(h:Reach (M.eraseIdx j) f g):
 ∃u:Int,(0<=u/\u< (gl M 0).length)/\(∀i:Nat,i<=j->gi (bV M i) u=gi (bV M i) f)/\∀i:Nat,j<=i->gi (bV M i) u=gi (bV M i) g:=by
 have key:∃u:Int,(0<=u/\u< (gl M 0).length)/\(∀i:Nat,i<=j->gi (bV M i) u=gi (bV M i) f)/\Reach (M.take j) g u:=by
  induction h with
  | refl=>exact⟨f,⟨h0,h1⟩,fun _ _=>rfl,.refl⟩
  | step h hp ih=>
   rename_i y p;obtain⟨u,hu,eB,hr⟩:=ih;have sy:=h.range (hM.2.2.1.sys.erase j) h0 h1;obtain⟨k,hk,BX,rfl⟩:=Od hp;rcases Nat.lt_or_gt_of_ne BX with eO | GQ
   ·refine⟨u,hu,eB,?_⟩;have hm:gl M k∈M.take j:=by
     rw [fJ];exact⟨k,by rw [oM];omega,by rw [List.getElem_take,bP hk]⟩
    have h2:Reach (M.take j) (gi (gl M k) y) (gi (gl M k) (gi (gl M k) y)):= .step .refl hm;rw [hM.two hk sy.1 sy.2]at h2;exact h2.trans hr
   ·refine⟨gi (gl M k) u,hM.wu hk hu.1 hu.2,fun i hi=>?_,adE hM GQ hk sy.1 sy.2 hr⟩;rw [Dl hM hk (by omega) hu.1 hu.2,eB i hi]
 obtain⟨u,hu,eB,hr⟩:=key;have hg:=h.range (hM.2.2.1.sys.erase j) h0 h1;exact⟨u,hu,eB,adF hM hg.1 hg.2 hr⟩
theorem qG.trans(hM:aZ M){c d e:Int}(h:qG M c d)(h':qG M d e):qG M c e:=by
 obtain⟨f,hf,j,hj,k,hk,rfl,rfl⟩:=h;obtain⟨g,hg,i,hi,l,hl,rfl,e2⟩:=h';have h1:=oV hM (i:=j) hf;have h2:=oV hM (i:=l) hg;have lR:j=l:=by
  rcases Nat.lt_trichotomy j l with h | h | h
  ·have:=nn M (show j+1<=l by omega);omega
  ·exact h
  have:=nn M (show l+1<=j by omega);omega
 subst lR;have e3:gi (bV M j) f=gi (bV M j) g:=by unfold bh at e2;omega
 obtain⟨u,hu,eB,cC⟩:=TO hM (j:=j) (f:=(f:Int)) (by omega) (by omega) (Dm hM (by omega) (by omega) (by omega) (by omega) e3);refine⟨u.toNat,by omega,i,hi,k,by omega,?_,?_⟩
 ·unfold bh;rw [Int.toNat_of_nonneg hu.1,cC i (by omega)]
 unfold bh;rw [Int.toNat_of_nonneg hu.1,eB k (by omega)]
theorem XZ(hM:aZ M)(hb:aF M M.length<=500):gm M.length (bo M M.length) (bD M):=by
 have h1:=hM.1;have hl:=jg M M.length;obtain⟨ha,hr⟩:=OR M M.length;refine⟨by omega,by omega,by rw [tV,hl],fun x hx=>?_,ha,fun e he=> ⟨?_,fun d hd=>?_⟩,fun e he d hd c hc=>?_⟩
 ·have:=hr x hx;omega
 ·rw [bP (by rw [tV];omega)];unfold bD;rw [List.getElem_map];exact oL _ (ky _)
 ·rw [mQ (by omega) (by omega)]at hd;have:=hd.2.cj hM;exact⟨by omega,this.2.2⟩
 rw [mQ (by omega) (by omega)]at hd|-;rw [mQ (by omega) (by omega)]at hc;exact⟨hc.1,hc.2.trans hM hd.2⟩
structure fz(m:Nat)(n:Int)(rk:Int->Int)(fP:Int->Int->Prop):Prop where
 two:2<=m
 r0:rk 0= -1
 rt:rk ((m:Int) - 1)=n
 ri:∀a:Int,0<a->a< (m:Int) - 1->0<=rk a/\rk a<=n - 1
 refl:∀a,fP a a
 trans:∀a b c:Int,0<=a/\a<m->0<=b/\b<m->0<=c/\c<m->fP a b->fP b c->fP a c
 strict:∀a b:Int,0<=a/\a<m->0<=b/\b<m->fP a b->a≠b->rk a<rk b
 bot:∀b,fP 0 b
 top:∀a,fP a ((m:Int) - 1)
 n0:0<=n
def vA(m:Nat)(rk:Int->Int)(fP:Int->Int->Prop):Prop:=∀a b:Int,0<=a/\a<m->0<=b/\b<m->fP a b->rk b=rk a+2->∃x y:Int,x≠y/\∀c:Int,((0<=c/\c<m)/\fP a c/\fP c b/\rk c=rk a+1)↔(c=x\/c=y)
theorem fz.pN{m:Nat}{n:Int}{rk:Int->Int}{fP:Int->Int->Prop}(h:fz m n rk fP){a b:Int}(ha:0<=a/\a<m)(hb:0<=b/\b<m)(hu:fP a b):rk a<=rk b:=by
 by_cases e:a=b
 ·rw [e];exact Int.le_refl _
 exact Int.le_of_lt (h.strict a b ha hb hu e)
theorem fz.same{m:Nat}{n:Int}{rk:Int->Int}{fP:Int->Int->Prop}(h:fz m n rk fP){a b:Int}(ha:0<=a/\a<m)(hb:0<=b/\b<m)(hu:fP a b)(hr:rk b<=rk a):a=b:=
 ob fun e=>by have:=h.strict a b ha hb hu e;omega
theorem fz.cj{m:Nat}{n:Int}{rk:Int->Int}{fP:Int->Int->Prop}(h:fz m n rk fP){a:Int}(ha:0<=a/\a<m): -1<=rk a/\rk a<=n:=by
 have h0:=h.r0;have ht:=h.rt;have hn:=h.n0
 by_cases e:a=0
 ·subst e;omega
 by_cases e2:a=(m:Int) - 1
 ·subst e2;omega
 have:=h.ri a (by omega) (by omega);omega
theorem fz.zero{m:Nat}{n:Int}{rk:Int->Int}{fP:Int->Int->Prop}(h:fz m n rk fP){a:Int}(ha:0<=a/\a<m)(hr:rk a= -1):a=0:=by
 have ht:=h.rt;have hn:=h.n0;refine ob fun e=>?_
 by_cases e2:a=(m:Int) - 1
 ·subst e2;omega
 have:=h.ri a (by omega) (by omega);omega
theorem fz.whole{m:Nat}{n:Int}{rk:Int->Int}{fP:Int->Int->Prop}(h:fz m n rk fP){a:Int}(ha:0<=a/\a<m)(hr:rk a=n):a=(m:Int) - 1:=by
 have h0:=h.r0;have hn:=h.n0;refine ob fun e=>?_
 by_cases e2:a=0
 ·subst e2;omega
 have:=h.ri a (by omega) (by omega);omega
section
variable {m1 m2:Nat} {n1 n2:Int} {rk1 rk2:Int->Int} {b9 b6:Int->Int->Prop}
theorem Wj(h1:fz m1 n1 rk1 b9)(h2:fz m2 n2 rk2 b6)(d1:vA m1 rk1 b9)(d2:vA m2 rk2 b6){a1 a2 b1 b2:Int}(gN:0<=a1/\a1<m1)(gH:0<=a2/\a2<m2)(dd:0<=b1/\b1<m1)(dS:0<=b2/\b2<m2)(vj:b9 a1 b1)(jZ:b6 a2 b2)(hr:rk1 b1+rk2 b2=rk1 a1+rk2 a2+2):
 ∃x y:Int×Int,x≠y/\∀c:Int×Int,((0<=c.1/\c.1<m1)/\(0<=c.2/\c.2<m2)/\(b9 a1 c.1/\b6 a2 c.2)/\(b9 c.1 b1/\b6 c.2 b2)/\rk1 c.1+rk2 c.2=rk1 a1+rk2 a2+1)↔(c=x\/c=y):=by
 have q1:=h1.pN gN dd vj;have q2:=h2.pN gH dS jZ;rcases(show(rk1 b1=rk1 a1+2/\rk2 b2=rk2 a2)\/(rk1 b1=rk1 a1+1/\rk2 b2=rk2 a2+1)\/(rk1 b1=rk1 a1/\rk2 b2=rk2 a2+2) by omega)with⟨r1,r2⟩ | ⟨r1,r2⟩ | ⟨r1,r2⟩
 ·obtain rfl:=h2.same gH dS jZ (by omega);obtain⟨x,y,jl,hc⟩:=d1 a1 b1 gN dd vj r1;refine⟨(x,a2),(y,a2),fun e=>jl (aO Prod.fst e),fun c=>?_⟩;constructor
  ·rintro⟨i1,i2,⟨u1,u2⟩,⟨v1,v2⟩,rc⟩;have e2:=h2.same gH i2 u2 (h2.pN i2 gH v2);have:=(hc c.1).1 ⟨i1,u1,v1,by rw [<-e2]at rc;omega⟩;rcases this with h | h
   ·left;rw [<-h,e2]
   right;rw [<-h,e2]
  rintro(rfl | rfl)
  ·obtain⟨i,u,v,rc⟩:=(hc x).2 (.inl rfl);exact⟨i,gH,⟨u,h2.refl _⟩,⟨v,h2.refl _⟩,by show rk1 x+rk2 a2=_;omega⟩
  obtain⟨i,u,v,rc⟩:=(hc y).2 (.inr rfl);exact⟨i,gH,⟨u,h2.refl _⟩,⟨v,h2.refl _⟩,by show rk1 y+rk2 a2=_;omega⟩
 ·have ne1:a1≠b1:=fun e=>by rw [e]at r1;omega
  refine⟨(a1,b2),(b1,a2),fun e=>ne1 (aO Prod.fst e),fun c=>?_⟩;constructor
  ·rintro⟨i1,i2,⟨u1,u2⟩,⟨v1,v2⟩,rc⟩;have p1:=h1.pN gN i1 u1;have p2:=h1.pN i1 dd v1;have p3:=h2.pN gH i2 u2;have p4:=h2.pN i2 dS v2
   by_cases e:rk1 c.1=rk1 a1
   ·left;have e1:=h1.same gN i1 u1 (by omega);have e2:=h2.same i2 dS v2 (by omega);exact Prod.ext e1.symm e2
   right;have e1:=h1.same i1 dd v1 (by omega);have e2:=h2.same gH i2 u2 (by omega);exact Prod.ext e1 e2.symm
  rintro(rfl | rfl)
  ·exact⟨gN,dS,⟨h1.refl _,jZ⟩,⟨vj,h2.refl _⟩,by show rk1 a1+rk2 b2=_;omega⟩
  exact⟨dd,gH,⟨vj,h2.refl _⟩,⟨h1.refl _,jZ⟩,by show rk1 b1+rk2 a2=_;omega⟩
 obtain rfl:=h1.same gN dd vj (by omega);obtain⟨x,y,jl,hc⟩:=d2 a2 b2 gH dS jZ r2;refine⟨(a1,x),(a1,y),fun e=>jl (aO Prod.snd e),fun c=>?_⟩;constructor
 ·rintro⟨i1,i2,⟨u1,u2⟩,⟨v1,v2⟩,rc⟩;have e1:=h1.same gN i1 u1 (h1.pN i1 gN v1);have:=(hc c.2).1 ⟨i2,u2,v2,by rw [<-e1]at rc;omega⟩;rcases this with h | h
  ·left;rw [<-h,e1]
  right;rw [<-h,e1]
 rintro(rfl | rfl)
 ·obtain⟨i,u,v,rc⟩:=(hc x).2 (.inl rfl);exact⟨gN,i,⟨h1.refl _,u⟩,⟨h1.refl _,v⟩,by show rk1 a1+rk2 x=_;omega⟩
 obtain⟨i,u,v,rc⟩:=(hc y).2 (.inr rfl);exact⟨gN,i,⟨h1.refl _,u⟩,⟨h1.refl _,v⟩,by show rk1 a1+rk2 y=_;omega⟩
def pR(m1 m2:Nat)(kind:Int)(c:Int×Int):Prop:=(kind=1/\(c.1=0\/c.2=0))\/(kind=2/\(c.1=(m1:Int) - 1\/c.2=(m2:Int) - 1))
instance (m1 m2:Nat)(kind:Int)(c:Int×Int):Decidable (pR m1 m2 kind c):=by unfold pR;infer_instance
def eS(kind:Int):Int:=if kind=1 then 0 else 1
def cg(rk1 rk2:Int->Int)(kind:Int)(c:Int×Int):Int:=rk1 c.1+rk2 c.2+eS kind
def iw(n1 n2 kind:Int):Int:=if kind=0 then n1+n2+1 else n1+n2
def l8(m1 m2:Nat)(rk1 rk2:Int->Int)(kind:Int)(i:Int)(c:Int×Int):Prop:=(0<=c.1/\c.1<m1)/\(0<=c.2/\c.2<m2)/\cg rk1 rk2 kind c=i/\¬pR m1 m2 kind c
theorem afi(h1:fz m1 n1 rk1 b9)(h2:fz m2 n2 rk2 b6)(d1:vA m1 rk1 b9)(d2:vA m2 rk2 b6){kind:Int}(hk:0<=kind/\kind<=2){i:Int}(hi:0<=i)(qh:i<iw n1 n2 kind)(hn:2<=iw n1 n2 kind)
 (a b:Option (Int×Int)) (ha:match a with | none=>i=0 | some a=>0<i/\l8 m1 m2 rk1 rk2 kind (i - 1) a) (hb:match b with | none=>i=iw n1 n2 kind - 1 | some b=>i<iw n1 n2 kind - 1/\l8 m1 m2 rk1 rk2 kind (i+1) b)
 (dN:∀x∈a,∀y∈b,b9 x.1 y.1/\b6 x.2 y.2) (wh:1<=n1/\(1<=n2\/kind=0)):
 ∃x y:Int×Int,x≠y/\∀c:Int×Int,(l8 m1 m2 rk1 rk2 kind i c/\(∀x∈a,b9 x.1 c.1/\b6 x.2 c.2)/\∀y∈b,b9 c.1 y.1/\b6 c.2 y.2)↔(c=x\/c=y):=by
 have z1:=h1.r0;have z2:=h2.r0;have t1:=h1.rt;have t2:=h2.rt;have w1:=h1.two;have w2:=h2.two;have m1n:=h1.n0;have m2n:=h2.n0;have main:∀a1 a2 b1 b2:Int,0<=a1/\a1<m1->0<=a2/\a2<m2->0<=b1/\b1<m1->0<=b2/\b2<m2->b9 a1 b1->b6 a2 b2->cg rk1 rk2 kind (a1,a2)=i - 1->cg rk1 rk2 kind (b1,b2)=i+1->
  (∀c1 c2:Int,0<=c1/\c1<m1->0<=c2/\c2<m2->b9 a1 c1->b6 a2 c2->b9 c1 b1->b6 c2 b2->cg rk1 rk2 kind (c1,c2)=i->¬pR m1 m2 kind (c1,c2))->
  ∃x y:Int×Int,x≠y/\∀c:Int×Int,(l8 m1 m2 rk1 rk2 kind i c/\(b9 a1 c.1/\b6 a2 c.2)/\b9 c.1 b1/\b6 c.2 b2)↔(c=x\/c=y):=by
  intro a1 a2 b1 b2 gN gH dd dS vj jZ ra rb hex;unfold cg at ra rb hex;obtain⟨x,y,jl,hc⟩:=Wj h1 h2 d1 d2 gN gH dd dS vj jZ (by simp only at ra rb;omega);refine⟨x,y,jl,fun c=>?_⟩;rw [<-hc c];unfold l8 cg;simp only at ra rb;constructor
  ·rintro⟨⟨i1,i2,rc,_⟩,⟨u1,u2⟩,v1,v2⟩;exact⟨i1,i2,⟨u1,u2⟩,⟨v1,v2⟩,by omega⟩
  ·rintro⟨i1,i2,⟨u1,u2⟩,⟨v1,v2⟩,rc⟩;exact⟨⟨i1,i2,by omega,hex c.1 c.2 i1 i2 u1 u2 v1 v2 (by show rk1 c.1+rk2 c.2+eS kind=i;omega)⟩,⟨u1,u2⟩,v1,v2⟩
 have QJ:∀c:Int×Int,(∀x∈a,b9 x.1 c.1/\b6 x.2 c.2)↔(b9 (a.getD (0,0)).1 c.1/\b6 (a.getD (0,0)).2 c.2):=fun c=>by
  cases a with
  | none=>simp [h1.bot,h2.bot]
  | some a=>simp
 have abF:∀c:Int×Int,(∀y∈b,b9 c.1 y.1/\b6 c.2 y.2)↔(b9 c.1 (b.getD ((m1:Int) - 1,(m2:Int) - 1)).1/\b6 c.2 (b.getD ((m1:Int) - 1,(m2:Int) - 1)).2):=fun c=>by
  cases b with
  | none=>simp [h1.top,h2.top]
  | some b=>simp
 have QM:b9 (a.getD (0,0)).1 (b.getD ((m1:Int) - 1,(m2:Int) - 1)).1/\b6 (a.getD (0,0)).2 (b.getD ((m1:Int) - 1,(m2:Int) - 1)).2:=by
  cases a with
  | none=>exact⟨h1.bot _,h2.bot _⟩
  | some a=>
   cases b with
   | none=>exact⟨h1.top _,h2.top _⟩
   | some b=>exact dN a rfl b rfl
 have GY:(0<=(a.getD (0,0)).1/\(a.getD (0,0)).1<m1)/\(0<=(a.getD (0,0)).2/\(a.getD (0,0)).2<m2):=by
  cases a with
  | none=>simp only [Option.getD_none];omega
  | some a=>exact⟨ha.2.1,ha.2.2.1⟩
 have Rv:(0<=(b.getD ((m1:Int) - 1,(m2:Int) - 1)).1/\(b.getD ((m1:Int) - 1,(m2:Int) - 1)).1<m1)/\(0<=(b.getD ((m1:Int) - 1,(m2:Int) - 1)).2/\(b.getD ((m1:Int) - 1,(m2:Int) - 1)).2<m2):=by
  cases b with
  | none=>simp only [Option.getD_none];omega
  | some b=>exact⟨hb.2.1,hb.2.2.1⟩
 have abk:kind=0->eS kind=1:=fun h=>by subst h;rfl
 have abl:kind=1->eS kind=0:=fun h=>by subst h;rfl
 have abm:kind=2->eS kind=1:=fun h=>by subst h;rfl
 have abf:kind=0->iw n1 n2 kind=n1+n2+1:=fun h=>by subst h;rfl
 have Rb:kind≠0->iw n1 n2 kind=n1+n2:=fun h=>by unfold iw;rw [if_neg h]
 have use:cg rk1 rk2 kind (a.getD (0,0))=i - 1->cg rk1 rk2 kind (b.getD ((m1:Int) - 1,(m2:Int) - 1))=i+1->
  (∀c1 c2:Int,0<=c1/\c1<m1->0<=c2/\c2<m2->b9 (a.getD (0,0)).1 c1->b6 (a.getD (0,0)).2 c2->b9 c1 (b.getD ((m1:Int) - 1,(m2:Int) - 1)).1->b6 c2 (b.getD ((m1:Int) - 1,(m2:Int) - 1)).2->cg rk1 rk2 kind (c1,c2)=i->¬pR m1 m2 kind (c1,c2))->
  ∃x y:Int×Int,x≠y/\∀c:Int×Int,(l8 m1 m2 rk1 rk2 kind i c/\(∀x∈a,b9 x.1 c.1/\b6 x.2 c.2)/\∀y∈b,b9 c.1 y.1/\b6 c.2 y.2)↔(c=x\/c=y):=by
  intro ra rb hex;obtain⟨x,y,jl,hc⟩:=main _ _ _ _ GY.1 GY.2 Rv.1 Rv.2 QM.1 QM.2 ra rb hex;refine⟨x,y,jl,fun c=>?_⟩;rw [<-hc c,QJ c,abF c]
 rcases(show kind=0\/kind=1\/kind=2 by omega)with rq | fK | lh
 ·have s0:=abk rq;have r0:=abf rq;refine use ?_ ?_ ?_
  ·cases a with
   | none=>show rk1 0+rk2 0+eS kind=i - 1;have:i=0:=ha;omega
   | some a=>exact ha.2.2.2.1
  ·cases b with
   | none=>show rk1 ((m1:Int) - 1)+rk2 ((m2:Int) - 1)+eS kind=i+1;have:i=iw n1 n2 kind - 1:=hb;omega
   | some b=>exact hb.2.2.2.1
  ·intro c1 c2 _ _ _ _ _ _ _ he;unfold pR at he;omega
 ·have s1:=abl fK;have r1:=Rb (show kind≠0 by omega);cases a with
  | some a=>
   have bt:¬pR m1 m2 kind a:=ha.2.2.2.2;refine use ha.2.2.2.1 ?_ ?_
   ·cases b with
    | none=>show rk1 ((m1:Int) - 1)+rk2 ((m2:Int) - 1)+eS kind=i+1;have:i=iw n1 n2 kind - 1:=hb;omega
    | some b=>exact hb.2.2.2.1
   ·intro c1 c2 i1 i2 u1 u2 _ _ _ he;have u1:b9 a.1 c1:=u1;have u2:b6 a.2 c2:=u2;unfold pR at he bt;rcases he with⟨_,e | e⟩ | ⟨e,_⟩
    ·have e:c1=0:=e;subst e;have q1:=h1.pN ha.2.1 (by omega) u1;have q2:=h1.cj ha.2.1;have:=h1.zero ha.2.1 (by omega);exact bt (.inl ⟨fK,.inl this⟩)
    ·have e:c2=0:=e;subst e;have q1:=h2.pN ha.2.2.1 (by omega) u2;have q2:=h2.cj ha.2.2.1;have:=h2.zero ha.2.2.1 (by omega);exact bt (.inl ⟨fK,.inr this⟩)
    ·omega
  | none=>
   have eK:i=0:=ha;cases b with
   | none=>have:i=iw n1 n2 kind - 1:=hb;omega
   | some b=>
    obtain⟨_,dd,dS,rb,qd⟩:=hb;unfold cg at rb;have p1:b.1≠0:=fun e=>qd (.inl ⟨fK,.inl e⟩)
    have p2:b.2≠0:=fun e=>qd (.inl ⟨fK,.inr e⟩)
    have S5:∀c,0<=c/\c< (m1:Int)->c≠0->0<=rk1 c:=fun c hc h0=>by
     have h3:=h1.cj hc;have h4:=h1.zero hc;omega
    have S6:∀c,0<=c/\c< (m2:Int)->c≠0->0<=rk2 c:=fun c hc h0=>by
     have h3:=h2.cj hc;have h4:=h2.zero hc;omega
    have g1:=S5 b.1 dd p1;have g2:=S6 b.2 dS p2;have eqv:∀c:Int×Int,(l8 m1 m2 rk1 rk2 kind i c/\(∀x∈(none:Option (Int×Int)),b9 x.1 c.1/\b6 x.2 c.2)/\∀y∈some b,b9 c.1 y.1/\b6 c.2 y.2)↔((0<=c.1/\c.1<m1)/\(0<=c.2/\c.2<m2)/\rk1 c.1=0/\rk2 c.2=0/\b9 c.1 b.1/\b6 c.2 b.2):=fun c=>by
     constructor
     ·rintro⟨⟨i1,i2,rc,xD⟩,_,hv⟩;have hv:=hv b O;unfold cg at rc;have f1:=S5 c.1 i1 fun e=>xD (.inl ⟨fK,.inl e⟩)
      have f2:=S6 c.2 i2 fun e=>xD (.inl ⟨fK,.inr e⟩)
      exact⟨i1,i2,by omega,by omega,hv.1,hv.2⟩
     ·rintro⟨i1,i2,f1,f2,v1,v2⟩;refine⟨⟨i1,i2,by unfold cg;omega,?_⟩,(fun x hx=>by cases hx),fun y hy=>by cases hy;exact⟨v1,v2⟩⟩;rintro(⟨_,e | e⟩ | ⟨e,_⟩)
      ·rw [e]at f1;omega
      ·rw [e]at f2;omega
      ·omega
    rcases(show(rk1 b.1=1/\rk2 b.2=0)\/(rk1 b.1=0/\rk2 b.2=1) by omega)with⟨e1,e2⟩ | ⟨e1,e2⟩
    ·obtain⟨x,y,jl,hc⟩:=d1 0 b.1 (by omega) dd (h1.bot _) (by omega);refine⟨(x,b.2),(y,b.2),fun e=>jl (aO Prod.fst e),fun c=>?_⟩;rw [eqv c];constructor
     ·rintro⟨i1,i2,f1,f2,v1,v2⟩;have h3:=h2.same i2 dS v2 (by omega);rcases(hc c.1).1 ⟨i1,h1.bot _,v1,by omega⟩with h | h
      ·left;rw [<-h,<-h3]
      ·right;rw [<-h,<-h3]
     ·rintro(rfl | rfl)
      ·obtain⟨i,u,v,rc⟩:=(hc x).2 (.inl rfl);exact⟨i,dS,by show rk1 x=0;omega,e2,v,h2.refl _⟩
      ·obtain⟨i,u,v,rc⟩:=(hc y).2 (.inr rfl);exact⟨i,dS,by show rk1 y=0;omega,e2,v,h2.refl _⟩
    ·obtain⟨x,y,jl,hc⟩:=d2 0 b.2 (by omega) dS (h2.bot _) (by omega);refine⟨(b.1,x),(b.1,y),fun e=>jl (aO Prod.snd e),fun c=>?_⟩;rw [eqv c];constructor
     ·rintro⟨i1,i2,f1,f2,v1,v2⟩;have h3:=h1.same i1 dd v1 (by omega);rcases(hc c.2).1 ⟨i2,h2.bot _,v2,by omega⟩with h | h
      ·left;rw [<-h,<-h3]
      ·right;rw [<-h,<-h3]
     ·rintro(rfl | rfl)
      ·obtain⟨i,u,v,rc⟩:=(hc x).2 (.inl rfl);exact⟨dd,i,e1,by show rk2 x=0;omega,h1.refl _,v⟩
      ·obtain⟨i,u,v,rc⟩:=(hc y).2 (.inr rfl);exact⟨dd,i,e1,by show rk2 y=0;omega,h1.refl _,v⟩
 ·have s2:=abm lh;have r2:=Rb (show kind≠0 by omega);have LG:∀c,0<=c/\c< (m1:Int)->c≠(m1:Int) - 1->rk1 c<=n1 - 1:=fun c hc h0=>by
   have h3:=h1.cj hc;have h4:=h1.whole hc;omega
  have LH:∀c,0<=c/\c< (m2:Int)->c≠(m2:Int) - 1->rk2 c<=n2 - 1:=fun c hc h0=>by
   have h3:=h2.cj hc;have h4:=h2.whole hc;omega
  cases b with
  | some b=>
   have bt:¬pR m1 m2 kind b:=hb.2.2.2.2;have g1:=LG b.1 hb.2.1 fun e=>bt (.inr ⟨lh,.inl e⟩)
   have g2:=LH b.2 hb.2.2.1 fun e=>bt (.inr ⟨lh,.inr e⟩)
   refine use ?_ hb.2.2.2.1 ?_
   ·cases a with
    | none=>show rk1 0+rk2 0+eS kind=i - 1;have:i=0:=ha;omega
    | some a=>exact ha.2.2.2.1
   ·intro c1 c2 i1 i2 _ _ v1 v2 _ he;have v1:b9 c1 b.1:=v1;have v2:b6 c2 b.2:=v2;have q1:=h1.pN i1 hb.2.1 v1;have q2:=h2.pN i2 hb.2.2.1 v2;unfold pR at he;rcases he with⟨e,_⟩ | ⟨_,e | e⟩
    ·omega
    ·have e:c1=(m1:Int) - 1:=e;rw [e]at q1;omega
    ·have e:c2=(m2:Int) - 1:=e;rw [e]at q2;omega
  | none=>
   have GS:i=iw n1 n2 kind - 1:=hb;cases a with
   | none=>have:i=0:=ha;omega
   | some a=>
    obtain⟨_,gN,gH,ra,s8⟩:=ha;unfold cg at ra;have g1:=LG a.1 gN fun e=>s8 (.inr ⟨lh,.inl e⟩)
    have g2:=LH a.2 gH fun e=>s8 (.inr ⟨lh,.inr e⟩)
    have eqv:∀c:Int×Int,(l8 m1 m2 rk1 rk2 kind i c/\(∀x∈some a,b9 x.1 c.1/\b6 x.2 c.2)/\∀y∈(none:Option (Int×Int)),b9 c.1 y.1/\b6 c.2 y.2)↔((0<=c.1/\c.1<m1)/\(0<=c.2/\c.2<m2)/\rk1 c.1=n1 - 1/\rk2 c.2=n2 - 1/\b9 a.1 c.1/\b6 a.2 c.2):=fun c=>by
     constructor
     ·rintro⟨⟨i1,i2,rc,xD⟩,hu,_⟩;have hu:=hu a O;unfold cg at rc;have f1:=LG c.1 i1 fun e=>xD (.inr ⟨lh,.inl e⟩)
      have f2:=LH c.2 i2 fun e=>xD (.inr ⟨lh,.inr e⟩)
      exact⟨i1,i2,by omega,by omega,hu.1,hu.2⟩
     ·rintro⟨i1,i2,f1,f2,v1,v2⟩;refine⟨⟨i1,i2,by unfold cg;omega,?_⟩,(fun x hx=>by cases hx;exact⟨v1,v2⟩),fun y hy=>by cases hy⟩;rintro(⟨e,_⟩ | ⟨_,e | e⟩)
      ·omega
      ·rw [e]at f1;omega
      ·rw [e]at f2;omega
    rcases(show(rk1 a.1=n1 - 1/\rk2 a.2=n2 - 2)\/(rk1 a.1=n1 - 2/\rk2 a.2=n2 - 1) by omega)with⟨e1,e2⟩ | ⟨e1,e2⟩
    ·obtain⟨x,y,jl,hc⟩:=d2 a.2 ((m2:Int) - 1) gH (by omega) (h2.top _) (by omega);refine⟨(a.1,x),(a.1,y),fun e=>jl (aO Prod.snd e),fun c=>?_⟩;rw [eqv c];constructor
     ·rintro⟨i1,i2,f1,f2,v1,v2⟩;have h3:=h1.same gN i1 v1 (by omega);rcases(hc c.2).1 ⟨i2,v2,h2.top _,by omega⟩with h | h
      ·left;rw [<-h,h3]
      ·right;rw [<-h,h3]
     ·rintro(rfl | rfl)
      ·obtain⟨i,u,v,rc⟩:=(hc x).2 (.inl rfl);exact⟨gN,i,e1,by show rk2 x=n2 - 1;omega,h1.refl _,u⟩
      ·obtain⟨i,u,v,rc⟩:=(hc y).2 (.inr rfl);exact⟨gN,i,e1,by show rk2 y=n2 - 1;omega,h1.refl _,u⟩
    ·obtain⟨x,y,jl,hc⟩:=d1 a.1 ((m1:Int) - 1) gN (by omega) (h1.top _) (by omega);refine⟨(x,a.2),(y,a.2),fun e=>jl (aO Prod.fst e),fun c=>?_⟩;rw [eqv c];constructor
     ·rintro⟨i1,i2,f1,f2,v1,v2⟩;have h3:=h2.same gH i2 v2 (by omega);rcases(hc c.1).1 ⟨i1,v1,h1.top _,by omega⟩with h | h
      ·left;rw [<-h,h3]
      ·right;rw [<-h,h3]
     ·rintro(rfl | rfl)
      ·obtain⟨i,u,v,rc⟩:=(hc x).2 (.inl rfl);exact⟨i,gH,by show rk1 x=n1 - 1;omega,e2,u,h2.refl _⟩
      ·obtain⟨i,u,v,rc⟩:=(hc y).2 (.inr rfl);exact⟨i,gH,by show rk1 y=n1 - 1;omega,e2,u,h2.refl _⟩
end
def fD(n:Int)(R:ai):ai:= -1::(R++ [n])
def dC(N:Nat)(B:ah)(a b:Int):Prop:=a=b\/a=0\/b=(N:Int)+1\/(0<a/\a< (N:Int)+1/\0<b/\b< (N:Int)+1/\a - 1∈gl B (b - 1))
instance (N:Nat)(B:ah)(a b:Int):Decidable (dC N B a b):=by unfold dC;infer_instance
theorem Oo(n:Int)(R:ai):(fD n R).length=R.length+2:=by simp [fD]
theorem tT(n:Int)(R:ai){a:Int}(h0:0<a)(h1:a< (R.length:Int)+1):gi (fD n R) a=gi R (a - 1):=by
 obtain⟨k,rfl⟩:∃k:Nat,a=((k+1:Nat):Int):=⟨(a - 1).toNat,by omega⟩;rw [fD,Bk,show((k+1:Nat):Int) - 1=(k:Int) by omega];simp only [gi,gG,cN];rw [mc (by omega)]
theorem xj(n:Int)(R:ai):gi (fD n R) ((R.length:Int)+1)=n:=by
 rw [show((R.length:Int)+1)=((R.length+1:Nat):Int) by omega,fD,Bk];simp [gi,cN]
theorem Ex{n:Int}{R:ai}{B:ah}(h:gm n R B):fz (R.length+2) n (gi (fD n R)) (dC R.length B):=by
 have hn:=h.n1;have ht:=xj n R;have et:((R.length+2:Nat):Int) - 1=(R.length:Int)+1:=by omega
 have o5:∀a:Int,0<a->a< (R.length:Int)+1->0<=gi (fD n R) a/\gi (fD n R) a<=n - 1:=fun a h0 h1=>by
  rw [tT n R h0 h1];exact h.ri (by omega) (by omega)
 have h0:gi (fD n R) 0= -1:=O;refine⟨by omega,h0,by rw [et];exact ht,fun a ha hb=>o5 a ha (by omega),fun a=> .inl O,fun a b c ha hb hc dN DP=>?_,fun a b ha hb dN bt=>?_,fun b=> .inr (.inl O),fun a=> .inr (.inr (.inl et)),by omega⟩
 ·rcases dN with rfl | e | e | ⟨a0,a1,b0,b1,hm⟩
  ·exact DP
  ·exact .inr (.inl e)
  ·rcases DP with rfl | e2 | e2 | ⟨b0,b1,_⟩
   ·exact .inr (.inr (.inl e))
   ·omega
   ·exact .inr (.inr (.inl e2))
   omega
  rcases DP with rfl | e2 | e2 | ⟨_,_,c0,c1,rr⟩
  ·exact .inr (.inr (.inr ⟨a0,a1,b0,b1,hm⟩))
  ·omega
  ·exact .inr (.inr (.inl e2))
  exact .inr (.inr (.inr ⟨a0,a1,c0,c1,(h.at_ (e:=c - 1) (by omega) (by omega)).2.2 _ rr _ hm⟩))
 rcases dN with e | e | e | ⟨a0,a1,b0,b1,hm⟩
 ·exact absurd e bt
 ·subst e;rw [h0]
  by_cases e2:b=(R.length:Int)+1
  ·subst e2;omega
  have:=o5 b (by omega) (by omega);omega
 ·subst e;rw [ht]
  by_cases e2:a=0
  ·subst e2;omega
  have:=o5 a (by omega) (by omega);omega
 rw [tT n R a0 a1,tT n R b0 b1];exact((h.at_ (e:=b - 1) (by omega) (by omega)).2.1 _ hm).2
def wU(R:ai)(i e:Int):Prop:=(e= -1/\i=0)\/((0<=e/\e<R.length)/\0<i/\gi R e=i - 1)
def wS(n:Int)(R:ai)(i f:Int):Prop:=(f= -1/\i=n - 1)\/((0<=f/\f<R.length)/\i<n - 1/\gi R f=i+1)
def lO(R:ai)(B:ah)(i e f:Int):ai:=(bN R.length).filter fun d=>decide (gi R d=i/\(e<0\/e∈gl B d)/\(f<0\/d∈gl B f))
def tH(n:Int)(R:ai)(B:ah):Prop:=∀i e f:Int,0<=i->i<n->wU R i e->wS n R i f->(0<=e->0<=f->e∈gl B f)->(lO R B i e f).length=2
theorem wV{R:ai}{B:ah}{i e f d:Int}:d∈lO R B i e f↔(0<=d/\d<R.length)/\gi R d=i/\(e<0\/e∈gl B d)/\(f<0\/d∈gl B f):=by
 unfold lO;rw [fT,gL,kU]
theorem Ud{l:ai}(hn:l.Nodup)(h:l.length=2):∃x y,x≠y/\∀c,c∈l↔(c=x\/c=y):=by
 match l,h with
 | [x,y],_=>exact⟨x,y,by simpa using hn,fun c=>by simp⟩
theorem z6(R:ai)(B:ah)(i e f:Int):(lO R B i e f).Nodup:=((ky _).nodup).filter _
theorem FQ{n:Int}{R:ai}{B:ah}(h:gm n R B)(hd:tH n R B):vA (R.length+2) (gi (fD n R)) (dC R.length B):=by
 have L:=Ex h;have ht:=xj n R;have h0:gi (fD n R) 0= -1:=O;have o5:∀a:Int,0<a->a< (R.length:Int)+1->(0<=gi (fD n R) a/\gi (fD n R) a<=n - 1)/\gi (fD n R) a=gi R (a - 1):=fun a h0 h1=>by
  have e:=tT n R h0 h1;refine⟨?_,e⟩;rw [e];exact h.ri (by omega) (by omega)
 intro a b ha hb hu hr;have ra:=L.cj ha;have rb:=L.cj hb;have hn:=h.n1;have DO:a≠(R.length:Int)+1:=fun e=>by rw [e,ht]at hr;omega
 have fq:b≠0:=fun e=>by rw [e,h0]at hr;omega
 have eB:wU R (gi (fD n R) a+1) (a - 1):=by
  by_cases e:a=0
  ·subst e;exact .inl ⟨rfl,by rw [h0];rfl⟩
  have:=o5 a (by omega) (by omega);exact .inr ⟨by omega,by omega,by omega⟩
 have cC:wS n R (gi (fD n R) a+1) (if b=(R.length:Int)+1 then -1 else b - 1):=by
  by_cases e:b=(R.length:Int)+1
  ·rw [ay e];rw [e,ht]at hr;exact .inl ⟨rfl,by omega⟩
  rw [aw e];have:=o5 b (by omega) (by omega);exact .inr ⟨by omega,by omega,by omega⟩
 have dN:0<=a - 1->0<=(if b=(R.length:Int)+1 then -1 else b - 1)->a - 1∈gl B (if b=(R.length:Int)+1 then -1 else b - 1):=fun h1 h2=>by
  by_cases e:b=(R.length:Int)+1
  ·rw [ay e]at h2;omega
  rw [aw e];rcases hu with e2 | e2 | e2 | ⟨_,_,_,_,hm⟩
  ·rw [e2]at hr;omega
  ·omega
  ·exact absurd e2 e
  exact hm
 have h2:=hd _ _ _ (by omega) (by omega) eB cC dN;obtain⟨x,y,jl,hc⟩:=Ud (z6 _ _ _ _ _) h2;refine⟨x+1,y+1,by omega,fun c=>?_⟩;have e1:(c=x+1\/c=y+1)↔(c - 1=x\/c - 1=y):=by omega
 rw [e1,<-hc (c - 1),wV];constructor
 ·rintro⟨Kn,u1,u2,rc⟩;have c0:c≠0:=fun e=>by rw [e,h0]at rc;omega
  have ct:c≠(R.length:Int)+1:=fun e=>by rw [e,ht]at rc;omega
  have hm:=o5 c (by omega) (by omega);refine⟨by omega,by omega,?_,?_⟩
  ·rcases u1 with e | e | e | ⟨_,_,_,_,h9⟩
   ·rw [e]at rc;omega
   ·left;omega
   ·exact absurd e ct
   exact .inr h9
  by_cases e:b=(R.length:Int)+1
  ·left;rw [ay e];omega
  rw [aw e];rcases u2 with e2 | e2 | e2 | ⟨_,_,_,_,h9⟩
  ·rw [e2]at rc;omega
  ·exact absurd e2 c0
  ·exact absurd e2 e
  exact .inr h9
 rintro⟨Kn,rc,u1,u2⟩;have hm:=o5 c (by omega) (by omega);refine⟨by omega,?_,?_,by omega⟩
 ·rcases u1 with e | e
  ·exact .inr (.inl (by omega))
  have:0<a:=by
   refine Int.not_le.1 fun hle=>?_
   have:=((h.at_ (e:=c - 1) (by omega) (by omega)).2.1 _ e).1.1;omega
  exact .inr (.inr (.inr ⟨this,by omega,by omega,by omega,e⟩))
 by_cases e:b=(R.length:Int)+1
 ·exact .inr (.inr (.inl e))
 rw [aw e]at u2;rcases u2 with e2 | e2
 ·omega
 exact .inr (.inr (.inr ⟨by omega,by omega,by omega,by omega,e2⟩))
section
variable (m1 m2:Nat) (rk1 rk2:Int->Int) (kind:Int)
def zK(i:Int):List (Int×Int):=(bN m1).flatMap fun a=> ((bN m2).filter fun b=>decide (cg rk1 rk2 kind (a,b)=i/\¬pR m1 m2 kind (a,b))).map fun b=> (a,b)
def b5:Nat->List (Int×Int)
 | 0=> []
 | k+1=>b5 k++zK m1 m2 rk1 rk2 kind (k:Int)
end
section
variable {m1 m2:Nat} {rk1 rk2:Int->Int} {kind:Int}
theorem yf{i:Int}{c:Int×Int}:c∈zK m1 m2 rk1 rk2 kind i↔l8 m1 m2 rk1 rk2 kind i c:=by
 unfold zK l8;rw [List.mem_flatMap];constructor
 ·rintro⟨a,ha,h⟩;obtain⟨b,hb,rfl⟩:=db.1 h;rw [fT,gL,kU]at hb;exact⟨(gL _ _).1 ha,hb.1,hb.2⟩
 rintro⟨h1,h2,h3⟩;exact⟨c.1,(gL _ _).2 h1,db.2 ⟨c.2,fT.2 ⟨(gL _ _).2 h2,eM h3⟩,O⟩⟩
theorem afc(i:Int):(zK m1 m2 rk1 rk2 kind i).Nodup:=by
 unfold zK;refine List.pairwise_flatMap.2 ⟨fun a _=>kM.2 (((ky m2).nodup.filter _).imp fun h e=>h (aO Prod.snd e)),(ky m1).nodup.imp fun h x hx y hy e=>h ?_⟩;obtain⟨u,_,rfl⟩:=db.1 hx;obtain⟨v,_,rfl⟩:=db.1 hy;exact aO Prod.fst e
theorem sF{k:Nat}{c:Int×Int}:c∈b5 m1 m2 rk1 rk2 kind k↔∃i:Nat,i<k/\l8 m1 m2 rk1 rk2 kind i c:=by
 induction k with
 | zero=>simp [b5]
 | succ k ih=>
  rw [b5,jz,ih,yf];constructor
  ·rintro(⟨i,hi,h⟩ | h)
   ·exact⟨i,by omega,h⟩
   ·exact⟨k,by omega,h⟩
  ·rintro⟨i,hi,h⟩
   by_cases e:i=k
   ·subst e;exact .inr h
   ·exact .inl ⟨i,by omega,h⟩
theorem EO(k:Nat):(b5 m1 m2 rk1 rk2 kind k).Nodup:=by
 induction k with
 | zero=>exact List.nodup_nil
 | succ k ih=>
  rw [b5,List.nodup_append];refine⟨ih,afc _,fun a ha b hb e=>?_⟩;subst e;obtain⟨i,hi,h⟩:=sF.1 ha;have h2:=yf.1 hb;have:=h.2.2.1.symm.trans h2.2.2.1;omega
theorem S9(k:Nat):rH ((b5 m1 m2 rk1 rk2 kind k).map (cg rk1 rk2 kind)):=by
 induction k with
 | zero=>exact List.Pairwise.nil
 | succ k ih=>
  rw [b5,jb,rH,List.pairwise_append];refine⟨ih,kM.2 (List.pairwise_of_forall_mem_list fun a ha b hb=>?_),fun x hx y hy=>?_⟩
  ·rw [(yf.1 ha).2.2.1,(yf.1 hb).2.2.1];exact Int.le_refl _
  ·obtain⟨a,ha,rfl⟩:=db.1 hx;obtain⟨b,hb,rfl⟩:=db.1 hy;obtain⟨i,hi,h⟩:=sF.1 ha;rw [h.2.2.1,(yf.1 hb).2.2.1];omega
end
def gp(L:List (Int×Int))(i:Int):Int×Int:=L.getD i.toNat (0,0)
theorem s5{L:List (Int×Int)}{k:Nat}(h:k<L.length):gp L k=L[k]:=by simp [gp,cN,h]
def sE(b9 b6:Int->Int->Prop)[DecidableRel b9][DecidableRel b6](L:List (Int×Int))(e:Int):ai:=(bN L.length).filter fun f=>decide (f<e/\b9 (gp L f).1 (gp L e).1/\b6 (gp L f).2 (gp L e).2)
def nX(b9 b6:Int->Int->Prop)[DecidableRel b9][DecidableRel b6](L:List (Int×Int)):ah:=(bN L.length).map (sE b9 b6 L)
section
variable{k i:Nat}
variable {m1 m2:Nat} {n1 n2:Int} {rk1 rk2:Int->Int} {b9 b6:Int->Int->Prop} [DecidableRel b9] [DecidableRel b6] {kind:Int}
theorem vp{L:List (Int×Int)}{e:Int}(h0:0<=e)(h1:e<L.length):gl (nX b9 b6 L) e=sE b9 b6 L e:=by
 obtain⟨k,rfl⟩:∃k:Nat,e=k:=⟨e.toNat,by omega⟩;rw [bP (by simp [nX,bN];omega)];unfold nX;rw [List.getElem_map]
 congr 1
 simp [bN]
theorem zL{L:List (Int×Int)}{e:Int}(h0:0<=e)(h1:e<L.length):gi (L.map (cg rk1 rk2 kind)) e=cg rk1 rk2 kind (gp L e):=by
 obtain⟨k,rfl⟩:∃k:Nat,e=k:=⟨e.toNat,by omega⟩;rw [bO (by simp;omega),s5 (by omega)];simp
theorem uA(h1:fz m1 n1 rk1 b9)(h2:fz m2 n2 rk2 b6){e d:Int}(he:0<=e/\e< (b5 m1 m2 rk1 rk2 kind k).length):d∈sE b9 b6 (b5 m1 m2 rk1 rk2 kind k) e↔(0<=d/\d< (b5 m1 m2 rk1 rk2 kind k).length)/\d≠e/\b9 (gp (b5 m1 m2 rk1 rk2 kind k) d).1 (gp (b5 m1 m2 rk1 rk2 kind k) e).1/\b6 (gp (b5 m1 m2 rk1 rk2 kind k) d).2 (gp (b5 m1 m2 rk1 rk2 kind k) e).2:=by
 unfold sE;rw [fT,gL,kU];constructor
 ·rintro⟨hd,eO,hu⟩;exact⟨hd,by omega,hu⟩
 rintro⟨hd,bt,hu⟩;refine⟨hd,?_,hu⟩;obtain⟨i,rfl⟩:∃i:Nat,d=i:=⟨d.toNat,by omega⟩;obtain⟨j,rfl⟩:∃j:Nat,e=j:=⟨e.toNat,by omega⟩;refine Int.not_le.1 fun hle=>?_
 have ha:=S9 (m1:=m1) (m2:=m2) (rk1:=rk1) (rk2:=rk2) (kind:=kind) k;have h3:=ha.le (i:=j) (j:=i) (by omega) (by simp;omega);rw [zL (by omega) he.2,zL (by omega) hd.2]at h3;have mi:=s5 (L:=b5 m1 m2 rk1 rk2 kind k) (k:=i) (by omega);have mj:=s5 (L:=b5 m1 m2 rk1 rk2 kind k) (k:=j) (by omega);obtain⟨a,_,ea⟩:=sF.1 (mi▸dB _:gp (b5 m1 m2 rk1 rk2 kind k) i∈b5 m1 m2 rk1 rk2 kind k);obtain⟨b,_,eb⟩:=sF.1 (mj▸dB _:gp (b5 m1 m2 rk1 rk2 kind k) j∈b5 m1 m2 rk1 rk2 kind k);have q1:=h1.pN ea.1 eb.1 hu.1;have q2:=h2.pN ea.2.1 eb.2.1 hu.2;unfold cg at h3;have e1:=h1.same ea.1 eb.1 hu.1 (by omega);have e2:=h2.same ea.2.1 eb.2.1 hu.2 (by omega);have e3:gp (b5 m1 m2 rk1 rk2 kind k) i=gp (b5 m1 m2 rk1 rk2 kind k) j:=Prod.ext e1 e2;rw [mi,mj]at e3;have:=(List.getElem_inj (EO k)).1 e3;omega
theorem uY{e:Int}(he:0<=e/\e< (b5 m1 m2 rk1 rk2 kind k).length):∃i:Nat,i<k/\l8 m1 m2 rk1 rk2 kind i (gp (b5 m1 m2 rk1 rk2 kind k) e)/\gi ((b5 m1 m2 rk1 rk2 kind k).map (cg rk1 rk2 kind)) e=i:=by
 obtain⟨j,rfl⟩:∃j:Nat,e=j:=⟨e.toNat,by omega⟩;have mj:=s5 (L:=b5 m1 m2 rk1 rk2 kind k) (k:=j) (by omega);obtain⟨i,hi,h⟩:=sF.1 (mj▸dB _:gp (b5 m1 m2 rk1 rk2 kind k) j∈b5 m1 m2 rk1 rk2 kind k);exact⟨i,hi,h,by rw [zL (by omega) (by omega)];exact h.2.2.1⟩
theorem Jl{c:Int×Int}(hi:i<k)(h:l8 m1 m2 rk1 rk2 kind i c):∃e:Int,(0<=e/\e< (b5 m1 m2 rk1 rk2 kind k).length)/\gp (b5 m1 m2 rk1 rk2 kind k) e=c:=by
 obtain⟨j,hj,e⟩:=fJ.1 (sF.2 ⟨i,hi,h⟩);exact⟨j,by omega,by rw [s5 hj];exact e⟩
theorem Ge{d e:Int}(hd:0<=d/\d< (b5 m1 m2 rk1 rk2 kind k).length)(he:0<=e/\e< (b5 m1 m2 rk1 rk2 kind k).length)(h:gp (b5 m1 m2 rk1 rk2 kind k) d=gp (b5 m1 m2 rk1 rk2 kind k) e):d=e:=by
 obtain⟨i,rfl⟩:∃i:Nat,d=i:=⟨d.toNat,by omega⟩;obtain⟨j,rfl⟩:∃j:Nat,e=j:=⟨e.toNat,by omega⟩;rw [s5 (by omega),s5 (by omega)]at h;have:=(List.getElem_inj (EO k)).1 h;omega
theorem afg(h1:fz m1 n1 rk1 b9)(h2:fz m2 n2 rk2 b6)(hk:1<=k/\k<=5)(hb:(b5 m1 m2 rk1 rk2 kind k).length<=500):gm k ((b5 m1 m2 rk1 rk2 kind k).map (cg rk1 rk2 kind)) (nX b9 b6 (b5 m1 m2 rk1 rk2 kind k)):=by
 have hl:((b5 m1 m2 rk1 rk2 kind k).map (cg rk1 rk2 kind)).length=(b5 m1 m2 rk1 rk2 kind k).length:=by simp
 refine⟨by omega,by rw [hl];exact hb,by simp [nX,bN],fun x hx=>?_,S9 k,fun e he=>?_,fun e he d hd c hc=>?_⟩
 ·obtain⟨c,hc,rfl⟩:=db.1 hx;obtain⟨i,hi,h⟩:=sF.1 hc;rw [h.2.2.1];omega
 ·rw [hl]at he;rw [vp (by omega) (by omega)];refine⟨oL _ (ky _),fun d hd=>?_⟩;have hm:=(uA h1 h2 (by omega)).1 hd;refine⟨by rw [hl];exact hm.1,?_⟩;have eO:d< (e:Int):=by
   unfold sE at hd;rw [fT,kU]at hd;exact hd.2.1
  obtain⟨i,_,ei,ri⟩:=uY (m1:=m1) (m2:=m2) (rk1:=rk1) (rk2:=rk2) (kind:=kind) (k:=k) (e:=d) hm.1;obtain⟨j,_,ej,rj⟩:=uY (m1:=m1) (m2:=m2) (rk1:=rk1) (rk2:=rk2) (kind:=kind) (k:=k) (e:=(e:Int)) (by omega);rw [zL hm.1.1 hm.1.2,zL (by omega) (by omega)];have q1:=h1.pN ei.1 ej.1 hm.2.2.1;have q2:=h2.pN ei.2.1 ej.2.1 hm.2.2.2;unfold cg;refine Int.not_le.1 fun hle=>hm.2.1 (Ge hm.1 (by omega) (Prod.ext (h1.same ei.1 ej.1 hm.2.2.1 (by omega)) (h2.same ei.2.1 ej.2.1 hm.2.2.2 (by omega))))
 rw [hl]at he;rw [vp (by omega) (by omega)]at hd|-;have q8:=(uA h1 h2 (by omega)).1 hd;rw [vp q8.1.1 q8.1.2]at hc;have mV:=(uA h1 h2 q8.1).1 hc;have l1:d< (e:Int):=by unfold sE at hd;rw [List.mem_filter,decide_eq_true_eq]at hd;exact hd.2.1
 have l2:c<d:=by unfold sE at hc;rw [List.mem_filter,decide_eq_true_eq]at hc;exact hc.2.1
 obtain⟨_,_,ec,_⟩:=uY (m1:=m1) (m2:=m2) (rk1:=rk1) (rk2:=rk2) (kind:=kind) (k:=k) (e:=c) mV.1;obtain⟨_,_,ed,_⟩:=uY (m1:=m1) (m2:=m2) (rk1:=rk1) (rk2:=rk2) (kind:=kind) (k:=k) (e:=d) q8.1;obtain⟨_,_,ee,_⟩:=uY (m1:=m1) (m2:=m2) (rk1:=rk1) (rk2:=rk2) (kind:=kind) (k:=k) (e:=(e:Int)) (by omega);exact(uA h1 h2 (by omega)).2 ⟨mV.1,by omega,h1.trans _ _ _ ec.1 ed.1 ee.1 mV.2.2.1 q8.2.2.1,h2.trans _ _ _ ec.2.1 ed.2.1 ee.2.1 mV.2.2.2 q8.2.2.2⟩
theorem Tc(h1:fz m1 n1 rk1 b9)(h2:fz m2 n2 rk2 b6)(d1:vA m1 rk1 b9)(d2:vA m2 rk2 b6)(nN:0<=kind/\kind<=2)(hk:(k:Int)=iw n1 n2 kind)(lh:2<=k)(wh:1<=n1/\(1<=n2\/kind=0)):tH k ((b5 m1 m2 rk1 rk2 kind k).map (cg rk1 rk2 kind)) (nX b9 b6 (b5 m1 m2 rk1 rk2 kind k)):=by
 have hl:((b5 m1 m2 rk1 rk2 kind k).map (cg rk1 rk2 kind)).length=(b5 m1 m2 rk1 rk2 kind k).length:=by simp
 intro i e f eK kj he hf DZ;have Ks:∀x:Int,0<=x/\x< (b5 m1 m2 rk1 rk2 kind k).length->l8 m1 m2 rk1 rk2 kind (gi ((b5 m1 m2 rk1 rk2 kind k).map (cg rk1 rk2 kind)) x) (gp (b5 m1 m2 rk1 rk2 kind k) x):=fun x hx=>by
  obtain⟨j,_,h,r⟩:=uY hx;rw [r];exact h
 generalize hL:b5 m1 m2 rk1 rk2 kind k=L at*;obtain⟨x,y,jl,hc⟩:=afi h1 h2 d1 d2 nN (i:=i) eK (by omega) (by omega) (if e<0 then none else some (gp L e)) (if f<0 then none else some (gp L f)) (by
  rcases he with⟨h,h'⟩ | ⟨h,h',vN⟩
  ·rw [ay (by omega)];exact h'
  rw [hl]at h;rw [aw (by omega)];exact⟨h',by rw [<-vN];exact Ks e h⟩)
  (by
    rcases hf with⟨h,h'⟩ | ⟨h,h',vN⟩
    ·rw [ay (by omega)];show i=iw n1 n2 kind - 1;omega
    rw [hl]at h;rw [aw (by omega)];exact⟨by omega,by rw [<-vN];exact Ks f h⟩)
  (by
    intro a ha b hb
    by_cases e0:e<0
    ·rw [ay e0]at ha;cases ha
    by_cases f0:f<0
    ·rw [ay f0]at hb;cases hb
    rw [aw e0]at ha;rw [aw f0]at hb;cases ha;cases hb;have ov:0<=f/\f<L.length:=by
     rcases hf with⟨h,_⟩ | ⟨h,_⟩
     ·omega
     rw [hl]at h;exact h
    have h9:=DZ (by omega) (by omega);rw [vp ov.1 ov.2]at h9;subst hL;exact((uA h1 h2 ov).1 h9).2.2)
  wh
 have Qw:∀c,l8 m1 m2 rk1 rk2 kind i c->∃d:Int,(0<=d/\d<L.length)/\gp L d=c:=fun c ZV=>by
  subst hL;exact Jl (i:=i.toNat) (by omega) (by rw [Int.toNat_of_nonneg eK];exact ZV)
 have jQ:∀d:Int,d∈lO (L.map (cg rk1 rk2 kind)) (nX b9 b6 L) i e f↔(0<=d/\d<L.length)/\(gp L d=x\/gp L d=y):=fun d=>by
  rw [wV,hl];constructor
  ·rintro⟨hd,rd,u,v⟩;refine⟨hd,(hc _).1 ⟨by rw [<-rd];exact Ks d hd,fun a ha=>?_,fun b hb=>?_⟩⟩
   ·by_cases e0:e<0
    ·rw [ay e0]at ha;cases ha
    rw [aw e0]at ha;cases ha;have h9:=u.resolve_left e0;rw [vp hd.1 hd.2]at h9;subst hL;exact((uA h1 h2 hd).1 h9).2.2
   by_cases f0:f<0
   ·rw [ay f0]at hb;cases hb
   rw [aw f0]at hb;cases hb;have ov:0<=f/\f<L.length:=by
    rcases hf with⟨h,_⟩ | ⟨h,_⟩
    ·omega
    rw [hl]at h;exact h
   have h9:=v.resolve_left f0;rw [vp ov.1 ov.2]at h9;subst hL;exact((uA h1 h2 ov).1 h9).2.2
  rintro⟨hd,abK⟩;obtain⟨hE,ha,hb⟩:=(hc _).2 abK;have rd:gi (L.map (cg rk1 rk2 kind)) d=i:=by rw [zL hd.1 hd.2];exact hE.2.2.1
  refine⟨hd,rd,?_,?_⟩
  ·by_cases e0:e<0
   ·exact .inl e0
   right;have h9:=ha (gp L e) (by rw [aw e0];rfl);have Kt:(0<=e/\e<L.length)/\gi (L.map (cg rk1 rk2 kind)) e=i - 1:=by
    rcases he with⟨h,_⟩ | ⟨h,_,vN⟩
    ·omega
    rw [hl]at h;exact⟨h,vN⟩
   rw [vp hd.1 hd.2];subst hL;exact(uA h1 h2 hd).2 ⟨Kt.1,fun h=>by rw [h,rd]at Kt;omega,h9⟩
  by_cases f0:f<0
  ·exact .inl f0
  right;have h9:=hb (gp L f) (by rw [aw f0];rfl);have ov:(0<=f/\f<L.length)/\gi (L.map (cg rk1 rk2 kind)) f=i+1:=by
   rcases hf with⟨h,_⟩ | ⟨h,_,vN⟩
   ·omega
   rw [hl]at h;exact⟨h,vN⟩
  rw [vp ov.1.1 ov.1.2];subst hL;exact(uA h1 h2 ov.1).2 ⟨hd,fun h=>by rw [<-h,rd]at ov;omega,h9⟩
 obtain⟨dx,Qg,ex⟩:=Qw x ((hc x).2 (.inl rfl)).1;obtain⟨dy,Qh,ey⟩:=Qw y ((hc y).2 (.inr rfl)).1;have bt:dx≠dy:=fun h=>jl (by rw [<-ex,<-ey,h])
 have hp:(lO (L.map (cg rk1 rk2 kind)) (nX b9 b6 L) i e f).Perm [dx,dy]:=by
  refine(rN (z6 _ _ _ _ _) (by simpa using bt)).2 fun d=>?_
  rw [jQ d];simp only [jq,List.not_mem_nil,or_false];constructor
  ·rintro⟨hd,h | h⟩
   ·left;subst hL;exact Ge hd Qg (h.trans ex.symm)
   right;subst hL;exact Ge hd Qh (h.trans ey.symm)
  rintro(rfl | rfl)
  ·exact⟨Qg,.inl ex⟩
  exact⟨Qh,.inr ey⟩
 rw [hp.length_eq];rfl
end
end Go.Proofs.YtagdamiiececaaaGreatDoor.Vc
namespace Go.Proofs.YtagdamiiececaaaGreatDoor.Vc
open Go.RowKit Tryz
structure CV where
 s:aN
 v:Int
section
variable {w0 w:aa} {ks:List Ck} {i:Nat} {t:ae} {A:aj} {k q:Nat} {cs:List CV}
theorem St.VU(h:St w0 w ks)(cs:List ad)(e:ae)(n c:Nat)(hn:n<=c)(hc:c<=cs.length)(hm:c<=maxLen)(hM:eG cs=false):St w0 (w.alloc (.cells cs.toArray e)) (⟨some ⟨w.heap.size,0,Option.none⟩,n,c,e,cs.take n⟩::ks):=by
 have hb:Below w.heap.size w (w.alloc (.cells cs.toArray e)):=(Below.refl _ _).alloc (bj _) _;have h1:=h.aq hb;refine⟨h1.below,fun k hk=>?_,?_⟩
 ·rcases jq.1 hk with rfl | hk
  ·refine .qq (RO n hM) ⟨by simp;omega,hn,hm,.inr ⟨_,0,cs.toArray,O,h.below.size,heap_alloc_new w _,by simp;omega,fun j hj=>?_⟩⟩;have hj:j<n:=hj;simp [rL,hj]
  exact h1.own k hk
 simp only [List.filterMap_cons,Ck.ik,Option.map_some,nt];refine⟨fun bW=>?_,h.apart⟩;obtain⟨k',eN,qi⟩:=List.mem_filterMap.1 bW;have:=((h.own k' eN).lt qi).2;omega
theorem SY{α:Type}:∀(l:List α) (i:Nat) (x y:α),l[i]?=some y->(x::l).Perm (y::l.set i x)
 | [],i,x,y,h=>by simp at h
 | u::l,0,x,y,h=>by simp at h;subst h;exact List.Perm.swap _ _ _
 | u::l,i+1,x,y,h=>by
  simp only [List.getElem?_cons_succ]at h;simp only [List.set_cons_succ];exact(List.Perm.swap _ _ _).trans (((SY l i x y h).cons u).trans (List.Perm.swap _ _ _))
end
section
variable {P:Program} {N:Nat} {ops:Array Oper} {K:Env->aa->Prop} {rest:List Oper} {e:Env} {w0 w w':aa} {ks:List Ck} {d:Nat} {ty:ae} {pos:String} {af:Array Edge}
end
structure TV where
 f:Int
 g:Int
 r:Int
def TV.cs(x:TV):List ad:=[ak x.f,ak x.g,ak x.r]
def TV.v(x:TV):ad:= .agg #[ak x.f,ak x.g,ak x.r]
def Mw:TV:=⟨0,0,0⟩
def tg(l:List TV)(i:Int):TV:=l.getD i.toNat Mw
def fp:List TV->List ad
 | []=> []
 | x::r=> .int .i64 x.f:: .int .i64 x.g:: .int .i64 x.r::fp r
theorem Dq:∀l:List TV,(fp l).length=3*l.length
 | []=>rfl
 | x::r=>by
  simp only [fp,List.length_cons];rw [Dq r];omega
theorem Jt:∀a b:List TV,fp (a++b)=fp a++fp b
 | [],_=>rfl
 | x::r,b=>by
  simp only [List.cons_append,fp];rw [Jt r b]
theorem OG:∀ {l:List TV} {i:Nat} (h:i<l.length),(fp l)[3*i]?=some (ak l[i].f)/\(fp l)[3*i+1]?=some (ak l[i].g)/\(fp l)[3*i+2]?=some (ak l[i].r)
 | x::r,0,_=> ⟨rfl,rfl,rfl⟩
 | x::r,i+1,h=>by
  have:=OG (l:=r) (i:=i) (by simpa using h);simp only [fp,List.getElem_cons_succ];rw [show 3* (i+1)=3*i+1+1+1 by omega];simpa using this
theorem OI:∀(l:List TV) (i:Nat),(fp l).take (3*i)=fp (l.take i)
 | [],i=>by simp [fp]
 | x::r,0=>rfl
 | x::r,i+1=>by
  rw [show 3* (i+1)=3*i+1+1+1 by omega];simp only [fp,List.take_succ_cons];rw [OI r i]
theorem OH:∀ {l:List TV} {i:Nat} (_:i<l.length) (v:TV),rG (fp l) (3*i) v.cs=fp (l.set i v)
 | x::r,0,_,v=>rfl
 | x::r,i+1,h,v=>by
  have:=OH (l:=r) (i:=i) (by simpa using h) v;have e:∀(a b c:ad) (t:List ad) (o:Nat) (vs:List ad),rG (a::b::c::t) (o+3) vs=a::b::c::rG t o vs:=by
   intro a b c t o vs
   induction vs generalizing t o with
   | nil=>rfl
   | cons v vs ih=>
    rw [rG,rG];rw [show(a::b::c::t).set (o+3) v=a::b::c::t.set o v from rfl,show o+3+1=(o+1)+3 by omega,ih]
  rw [show 3* (i+1)=3*i+3 by omega,fp,e,this]
  rfl
theorem Ch(l:List TV):eG (fp l)=false:=by cases l<;>rfl
def dU(t:ae)(A:aj)(k q:Nat)(cs:List TV):Ck:=⟨A,3*k,min (3*q) maxLen,t,fp cs⟩
def qK(w:aa)(A:aj)(k:Nat)(cs:List TV):Prop:=cs.length=k/\Rd w A (3*k) (fun j=> (fp cs).getD j undef)
theorem qK.aq{w w':aa}{A:aj}{k:Nat}{cs:List TV}(h:qK w A k cs)(hb:Below w.heap.size w w'):qK w' A k cs:=⟨h.1,Rd.below h.2 hb⟩
section
variable {w0 w:aa} {ks:List Ck} {i:Nat} {t:ae} {A:aj} {k q:Nat} {cs:List TV}
theorem St.jH(h:St w0 w ks)(i:Nat)(hk:ks[i]?=some (dU t A k q cs)):qK w A k cs:=by
 have h1:(fp cs).length=3*k:=(h.pY hk (Ch _)).1;rw [Dq]at h1;exact⟨by omega,h.rd i hk⟩
theorem St.NJ(h:St w0 w ks)(i:Nat)(hk:ks[i]?=some (dU t A k q cs)):k<=q/\3*k<=maxLen:=by
 have h1:3*k<=min (3*q) maxLen:=(h.get hk).cap.1;omega
theorem qK.take{l:Nat}(h:qK w A k cs)(hl:l<=k):qK w A l (cs.take l):=by
 have h1:=h.1;refine⟨by rw [oM];omega,fun j hj=>?_⟩;obtain⟨p,hp,hc⟩:=h.2 j (by omega);refine⟨p,hp,?_⟩;rw [hc,<-OI];simp [cN,rL,hj]
theorem qK.at_(h:qK w A k cs){j:Nat}(hj:j<k):Rd w (aJ A (j*3)) 3 (fun m=> ((cs[j]'(by rw [h.1];exact hj)).cs).getD m undef):=by
 have hl:j<cs.length:=by rw [h.1];exact hj
 have:=(h.2.behind (o:=j*3) (m:=3) (by omega));refine this.congr fun m hm=>?_
 have hg:=OG hl;rcases(show m=0\/m=1\/m=2 by omega)with rfl | rfl | rfl
 ·rw [show j*3+0=3*j by omega,cN,hg.1];rfl
 ·rw [show j*3+1=3*j+1 by omega,cN,hg.2.1];rfl
 rw [show j*3+2=3*j+2 by omega,cN,hg.2.2];rfl
theorem Us{z z0 z1 z2:ad}(hz:z.cells= #[z0,z1,z2])(m:Nat):(Builtin.zeroCells z.cells m).toList.length=3*m:=by
 rw [hz];simp [Builtin.zeroCells];omega
end
section
variable{t T te:ae}{x ix bX x0 y x1 x2:ag}{v0 v1 v2 z z0 z1 z2 y0 y1 y2:ad}{b c' b0 b1 b2:Nat}{A':aj}{i h:Int}
variable {P:Program} {N:Nat} {ops:Array Oper} {K:Env->aa->Prop} {rest:List Oper} {e:Env} {w0 w w':aa} {ks:List Ck} {d:Nat} {ty:ae} {pos:String} {af:Array Edge}
theorem nw{el:ae}(hS:St w0 w ks)(hx:ev e x= .agg #[v0,v1,v2])(hb:Nat.blt d N=true)(hK:∀A w',St w0 w' (Bx el 3 A [v0,v1,v2]::ks)->ao P N ops K rest (bq e d (.pointer A)) w')(hM:eG [v0,v1,v2]=false:=by rfl):ao P N ops K (⟨some d,.box el x,ty,pos,af,none⟩::rest) e w:= .Fz hS hx hb rfl hK hM
theorem ajr{el:ae}[bJ P t (.slice el)][bF P el z 3 b]{A:aj}{n c:Nat}{k:IntKind}{cs:List TV}(hR:qK w A n cs)(hx:ev e x= .slice A n c)(hy:ev e ix= .int k i)(hb:Nat.blt d N=true)(h0:0<=i)(h1:i< (n:Int))(hK:ao P N ops K rest (bq e d (.pointer (aJ A (i.toNat*3)))) w):
 ao P N ops K (⟨some d,.indexAddr t x ix,ty,pos,af,none⟩::rest) e w:=by
 obtain⟨p,hp,_⟩:=hR.2 i.toNat (by omega);obtain⟨q,rfl⟩:∃q,A=some q:=by cases A with | none=>simp [aJ]at hp | some q=>exact⟨q,rfl⟩
 obtain⟨inf,hi,_,hs,_⟩:=bF.get P el;refine .val (w':=w) ?_ hb hK;simp [execOp,Instr.indexAt,hx,hy,asIntOf,run_underlying (bJ.out (P:=P) (t:=t)),h0,h1,sizeOf,typeInfo,hi,hs,aJ]
theorem ke{el:ae}[bJ P t (.slice el)][bF P el z 3 b]{A:aj}{n c:Nat}{k:IntKind}{cs:List TV}(hR:qK w A n cs)(q9:(ev e x,ev e ix,Nat.blt d N)=(.slice A n c,.int k i,true))(hK:ao P N ops K rest (bq e d (.pointer (aJ A (i.toNat*3)))) w)(h0:0<=i:=by omega)(h1:i< (n:Int):=by omega):ao P N ops K (⟨some d,.indexAddr t x ix,ty,pos,af,none⟩::rest) e w:=ajr hR (congrArg (fun p=>p.1) q9) (congrArg (fun p=>p.2.1) q9) (congrArg (fun p=>p.2.2) q9) h0 h1 hK
theorem Va{el:ae}[hU:bJ P t (.slice el)][bF P el z 3 b]{A:aj}{n c:Nat}{k:IntKind}(hx:ev e x= .slice A n c)(hh:ev e bX= .int k h)(hb:Nat.blt d N=true)(h0:0<=h/\h<=(c:Int))(hK:ao P N ops K rest (bq e d (.slice A h.toNat c)) w):ao P N ops K (⟨some d,.slice t x none (some bX) none,ty,pos,af,none⟩::rest) e w:=by
 obtain⟨inf,hi,fH,hs,iW⟩:=bF.get P el;refine .val (w':=w) ?_ hb hK;have:=run_sliceBound (P:=P) w k h c .sliceAcap h0.1 h0.2;have hA:A.map (fun x=>x.add 0)=A:=by cases A<;>simp [Addr.add]
 simp [execOp,hx,hh,Instr.sliceAt,run_underlying hU.out,Instr.slice,Instr.sliceBounds,this,sizeOf,typeInfo,hi,hs,hA]
theorem U8{el:ae}[bJ P t (.slice el)][bF P el z 3 b]{v:TV}(hS:St w0 w ks)(h0:ev e x0=v.v)(hz:z.cells= #[z0,z1,z2])(hb:Nat.blt d N=true)(hK:∀A w',St w0 w' (dU el A 1 1 [v]::ks)->ao P N ops K rest (bq e d (.slice A 1 1)) w'):ao P N ops K (⟨some d,.buildSlice t 1 #[(0,x0)],ty,pos,af,none⟩::rest) e w:=by
 obtain⟨inf,hi,fH,hs,iW⟩:=bF.get P el;refine .val (w':=w.alloc (.cells #[ak v.f,ak v.g,ak v.r] el)) ?_ hb (hK _ _ (hS.alloc [ak v.f,ak v.g,ak v.r] el (by simp [maxLen]) O));simp [execOp,Instr.buildSlice,run_underlying (bJ.out (P:=P) (t:=t)),sizeOf,typeInfo,zeroValue,hi,hs,fH,hz,Instr.fill,newRow,h0,Fu,lN,Value.cells,TV.v]
theorem af5{el:ae}[hU:bJ P t (.slice el)][bF P el z 3 b](hz:z.cells= #[z0,z1,z2]){A:aj}{n c:Nat}{cs:List TV}(i:Nat)(hS:St w0 w ks)(hk:ks[i]?=some (dU el A n c cs)){m:Nat}{ds:List TV}(hR:qK w A' m ds)
 (tX:3* (n+m)<=maxLen) (sg:(n+m)*b<=140737488355328) (ty:ae):
 ∃A2 c2 w',(Builtin.append_ #[t,t] ty #[.slice A n c,.slice A' m c']).run P w= .ok (.slice A2 (n+m) c2) w'/\St w0 w' (ks.set i (dU el A2 (n+m) c2 (cs++ds))):=by
 obtain⟨inf,hi,fH,hs,iW⟩:=bF.get P el;have Eb:=hS.pY hk (Ch _);have va:=hS.NJ i hk;have dt:=(hS.jH i hk).1;obtain⟨hl,mZ,mV,h4⟩:=Eb;have ze:=(gS.1 hk).1
 by_cases hm:m=0
 ·subst hm;have qe:ds=[]:=qH hR.1;subst qe;refine⟨A,c,w,?_,?_⟩
  ·cases A' with
   | none=>cases A<;>simp [Builtin.append_,run_underlying hU.out,sizeOf,typeInfo,hi,Builtin.lenOf,Builtin.firstCells,va.1,storeCells]
   | some a=>
    cases A<;>simp [Builtin.append_,run_underlying hU.out,sizeOf,typeInfo,hi,Builtin.lenOf,Builtin.firstCells,va.1,storeCells,loadCells,loadCellsFrom]
  ·rw [fM,Nat.add_zero];have:ks.set i (dU el A n c cs)=ks:=by
    apply List.ext_getElem?;intro j;rw [mG]
    split
    ·rename_i e;subst e;rw [hk]
     try simp [ze]
    ·rfl
   rw [this];exact hS
 ·obtain⟨a,rfl⟩:∃a,A'=some a:=by
   obtain⟨p,hp,_⟩:=hR.2 0 (by omega);cases A' with | none=>simp [aJ]at hp | some q=>exact⟨q,rfl⟩
  have ji:(fp ds).length=m*3:=by rw [Dq,hR.1];omega
  have wi:∀j v,(fp ds)[j]?=some v->w.cell? (a.add j)=some v:=by
   intro j v hj;have ve:j<3*m:=by have:=(gS.1 hj).1;omega
   obtain⟨p,hp,hc⟩:=hR.2 j ve;simp only [aJ,Option.map_some,oO]at hp;rw [hp,hc];show some ((fp ds).getD j undef)=some v;rw [cN,hj]
   rfl
  have vO:∀u∈fp ds,u.oneCell'=true:=by
   intro u hu;obtain⟨j,hj,rfl⟩:=fJ.1 hu;have gen:∀(l:List TV),∀u∈fp l,u.oneCell'=true:=by
    intro l
    induction l with
    | nil=>intro u h;cases h
    | cons x l ih=>
     intro u h;simp only [fp,jq]at h;rcases h with rfl | rfl | rfl | h
     ·rfl
     ·rfl
     ·rfl
     ·exact ih u h
   exact gen ds _ (dB hj)
  have Qb:(fp cs).length=3*n:=by rw [Dq,dt]
  have fresh:∀(xs:List ad) (c2:Nat),n+m<=c2->xs.length=3*c2->xs.take (3* (n+m))=fp cs++fp ds->eG xs=false->
   St w0 (w.drew.alloc (.cells xs.toArray el)) (ks.set i (dU el (some ⟨w.heap.size,0,none⟩) (n+m) c2 (cs++ds))):=by
   intro xs c2 h5 h7 h8 h9;have hA:=hS.drew.VU xs el (3* (n+m)) (min (3*c2) maxLen) (by omega) (by omega) (by omega) h9;rw [h8,<-Jt]at hA;exact(hA.perm (SY ks i _ _ hk)).tail
  have JS:((n+m:Nat):Int)<=9223372036854775807:=by simp only [maxLen]at tX;omega
  have h63n:n+m<=maxLen:=by omega
  rcases h4 with⟨hA,h0⟩ | ⟨g,o,cur,hA,hg,hh,mw,hc⟩
  ·have hA:A=none:=hA;subst hA;have h0:min (3*c) maxLen=0:=h0;have jP:c=0:=by simp only [maxLen]at h0;omega
   have qk:n=0:=by omega
   subst jP qk;have Lk:cs=[]:=qH dt;subst Lk;have hr:=run_append_nil (P:=P) w t ty el inf z hU.out hi fH a m c' (fp ds) (by rw [ji,hs]) wi (by omega) (by omega) (by rw [iW];rw [Nat.zero_add]at sg;omega);have vd:=grownCap_ge w m 0 el;have Ho:=Us hz (grownCap w m 0 el - m);refine⟨some ⟨w.heap.size,0,none⟩,grownCap w m 0 el,_,?_,fresh (fp ds++ (Builtin.zeroCells z.cells (grownCap w m 0 el - m)).toList) (grownCap w m 0 el) (by omega) (by rw [cS,Ho,ji];omega) (by
    rw [wT (by omega),jW (by omega)]
    rfl) (Et (Ch _) (by intro hn;rw [hn]at ji;simp at ji;omega))⟩
   rw [Nat.zero_add,hr]
   congr 3
   apply Array.ext';simp
  ·have hA:A=some ⟨g,o,none⟩:=hA;have hh:w.heap[g]?=some (.cells cur el (0,0)):=hh;have mw:o+min (3*c) maxLen<=cur.size:=mw;have hc:∀j,j<3*n->cur[o+j]?=(fp cs)[j]?:=hc
   by_cases Ei:n+m<=c
   ·have hf:=run_firstCells_some (P:=P) w inf.size m a m c' (fp ds) (by rw [ji,hs]) wi;have au:=run_storeCells_at P g (o+3*n) el (fp ds) 0 cur w hh (by rw [ji];omega) vO;simp only [Nat.add_zero]at au;refine⟨some ⟨g,o,none⟩,c,w.setRow g (cur.toList.take (o+3*n)++fp ds++cur.toList.drop (o+3*n+ (fp ds).length)).toArray,?_,hS.turn (k:=dU el A n c cs) (k':=dU el (some ⟨g,o,none⟩) (n+m) c (cs++ds)) (g:=g) hk (by simp [Ck.ik,dU,hA]) (by simp [Ck.ik,dU]) ?_ ?_⟩
    ·rw [hA];rw [hs]at hf;simp [Builtin.append_,run_underlying hU.out,sizeOf,typeInfo,hi,hs,Builtin.lenOf,Ei,Addr.add_lit,hf];rw [show n*3=3*n by omega];simp [au]
    ·exact⟨⟨O,O,O,by simp,fun x _ hx=>setRow_other w g x _ (fun e=>hx (by rw [e]))⟩,bj _⟩
    ·refine .qq (Ch _) ⟨by show(fp (cs++ds)).length=3* (n+m);rw [Dq,cS,dt,hR.1],by show 3* (n+m)<=min (3*c) maxLen;omega,mV,.inr ⟨g,o,_,O,hg,setRow_heap w g cur _ el _ hh,?_,fun j hj=>?_⟩⟩
     ·show o+min (3*c) maxLen<=_;simp;omega
     ·have im:j<3* (n+m):=hj;show((cur.toList.take (o+3*n)++fp ds++cur.toList.drop (o+3*n+ (fp ds).length)).toArray)[o+j]?=(fp (cs++ds))[j]?;rw [Jt];have hcl2:cur.toList.length=cur.size:=by simp
      rw [List.getElem?_toArray]
      by_cases pB:j<3*n
      ·rw [jy,mc (by simp;omega),rL,ay (by omega),mc (by omega)];rw [Array.getElem?_toList];exact hc j pB
      ·rw [jy,lM (by simp;omega),mc (by simp;omega),lM (by omega)]
       congr 1
       simp;omega
   ·have holds:∀j v,(fp cs)[j]?=some v->w.cell? ((⟨g,o,none⟩:Addr).add j)=some v:=by
     intro j v hj;have pB:j<3*n:=by have:=(gS.1 hj).1;omega
     rw [An];simp only [World.cell?,hh];simpa [hc j pB]using hj
    have hr:=run_append_grow (P:=P) w t ty el inf z hU.out hi fH ⟨g,o,none⟩ n c (fp cs) (by rw [Qb,hs];omega) holds a m c' (fp ds) (by rw [ji,hs]) wi (by omega) JS (growslice_fits (by omega) (by rw [iW];exact sg));have vd:=grownCap_ge w (n+m) c el;have Ho:=Us hz (grownCap w (n+m) c el - (n+m));refine⟨some ⟨w.heap.size,0,none⟩,grownCap w (n+m) c el,_,?_,fresh (fp cs++fp ds++ (Builtin.zeroCells z.cells (grownCap w (n+m) c el - (n+m))).toList) (grownCap w (n+m) c el) (by omega) (by rw [cS,cS,Ho,ji,Qb];omega) (by
     rw [wT (by rw [cS];omega),jW (by rw [cS];omega)]) (Et (RN (Ch _) (Ch _)) (by intro hn;have:=aO List.length hn;rw [cS,ji]at this;simp at this;omega))⟩
    rw [hA,hr]
    congr 3
    apply Array.ext';simp
theorem UZ{el:ae}[hU:bJ P t (.slice el)][bF P el z 3 b](i:Nat){A:aj}{n c:Nat}{cs:List TV}{m:Nat}{ds:List TV}(hS:St w0 w ks)(hk:ks[i]?=some (dU el A n c cs))(hR:qK w A' m ds)(hx:ev e x= .slice A n c)(hy:ev e y= .slice A' m c')(hz:z.cells= #[z0,z1,z2])(tX:n+m<=3074457345618258602)(sg:(n+m)*b<=140737488355328)(hb:Nat.blt d N=true)(hK:∀A2 c2 w',St w0 w' (ks.set i (dU el A2 (n+m) c2 (cs++ds)))->ao P N ops K rest (bq e d (.slice A2 (n+m) c2)) w'):
 ao P N ops K (⟨some d,.call ⟨.builtin .append, #[x,y], #[t,t]⟩,ty,pos,af,none⟩::rest) e w:=by
 obtain⟨A2,c2,w',hr,nI⟩:=af5 (P:=P) (t:=t) hz i hS hk hR (by simp only [maxLen];omega) sg ty (c':=c');refine .val (w':=w') ?_ hb (hK _ _ _ nI);simp [execOp,resolve,invoke,builtin,hx,hy,hr]
theorem ao.ldT{fs:Array Field}[bJ P t (.struct fs)][bF P t z 3 b]{A:aj}{n:Nat}{cs:List TV}{i:Nat}{v:TV}(hR:qK w A n cs)(hi:i<n)(hv:cs[i]?=some v)(hx:ev e x= .pointer (aJ A (i*3)))(hb:Nat.blt d N=true)(hK:ao P N ops K rest (bq e d (v.v)) w):ao P N ops K (⟨some d,.load t x,ty,pos,af,none⟩::rest) e w:=by
 have dW:=hR.at_ hi;have e1:cs[i]'(by rw [hR.1];exact hi)=v:=by rw [fS (by rw [hR.1];exact hi)]at hv;exact oh hv
 rw [e1]at dW;exact .b7 2 dW hx (by rfl) hb hK
theorem og{fs:Array Field}[bJ P t (.struct fs)][bF P t z 3 b]{A:aj}{n:Nat}{cs:List TV}(hR:qK w A n cs)(hx:ev e x= .pointer (aJ A (i.toNat*3)))(hi:i.toNat<n)(hb:Nat.blt d N=true)(hK:ao P N ops K rest (bq e d (tg cs i).v) w):ao P N ops K (⟨some d,.load t x,ty,pos,af,none⟩::rest) e w:=
 .ldT hR hi (by unfold tg;rw [List.getD_eq_getElem?_getD,List.getElem?_eq_getElem (by rw [hR.1];exact hi)];rfl) hx hb hK
theorem Vq[bF P t z 3 b]{a:ag}(j:Nat){A:aj}{n c i:Nat}{cs:List TV}{v:TV}(hS:St w0 w ks)(hk:ks[j]?=some (dU T A n c cs))(hi:i<n)(ha:ev e a= .pointer (aJ A (i*3)))(hx:ev e x=v.v)(hK:∀w',St w0 w' (ks.set j (dU T A n c (cs.set i v)))->ao P N ops K rest e w'):ao P N ops K (⟨none,.store t a x,ty,pos,af,none⟩::rest) e w:=by
 have hl:=(hS.jH j hk).1;refine ao.TT 3 j (k:=dU T A n c cs) (o:=i*3) hS hk ha hx O O O (Nat.ble_eq_true_of_le (by show i*3+3<=3*n;omega)) fun w' h=>hK w' ?_
 have e1:rG (fp cs) (i*3) v.cs=fp (cs.set i v):=by rw [Nat.mul_comm];exact OH (by omega) v
 have e2:({ dU T A n c cs with vs:=rG (dU T A n c cs).vs (i*3) (#[Value.int IntKind.i64 v.f,Value.int IntKind.i64 v.g,Value.int IntKind.i64 v.r]:Array ad).toList }:Ck)=dU T A n c (cs.set i v):=by
  show(⟨A,3*n,min (3*c) maxLen,T,rG (fp cs) (i*3) v.cs⟩:Ck)=⟨A,3*n,min (3*c) maxLen,T,fp (cs.set i v)⟩;rw [e1]
 exact e2▸h
theorem wX[bF P t z 3 b]{a:ag}(m:Nat){A:aj}{n c:Nat}{xs:List TV}{v:TV}(hS:St w0 w ks)(hk:ks[m]?=some (dU te A n c xs))(ha:ev e a= .pointer (aJ A (i.toNat*3)))(hx:ev e x=v.v)(hj:i.toNat<n)(hK:∀w',St w0 w' (ks.set m (dU te A n c (xs.set i.toNat v)))->ao P N ops K rest e w'):ao P N ops K (⟨none,.store t a x,ty,pos,af,none⟩::rest) e w:=
 Vq m hS hk hj ha hx hK
theorem U6{f0 f1 f2:Field}[bJ P t (.struct #[f0,f1,f2])][bF P t (.agg #[z0,z1,z2]) 3 b]{v:TV}(sb:bF P f0.type y0 1 b0)(sc:bF P f1.type y1 1 b1)(tZ:bF P f2.type y2 1 b2)(ho:f0.offset=0)(tk:f1.offset=1)(zo:f2.offset=2)(h0:ev e x0=ak v.f)(h1:ev e x1=ak v.g)(h2:ev e x2=ak v.r)(hb:Nat.blt d N=true)(hK:ao P N ops K rest (bq e d (v.v)) w):ao P N ops K (⟨some d,.build t #[(0,x0),(1,x1),(2,x2)],ty,pos,af,none⟩::rest) e w:=by
 obtain⟨inf,hi,fH,hs,iW⟩:=bF.get P t;obtain⟨Cf,eK,hz00,o9,hby0⟩:=sb.get P f0.type;obtain⟨Cg,kj,hz01,sq,hby1⟩:=sc.get P f1.type;obtain⟨Er,qh,hz02,nS,hby2⟩:=tZ.get P f2.type;have ez:(Value.agg #[z0,z1,z2]).cells= #[z0,z1,z2]:=O;refine .val (w':=w) ?_ hb hK;simp [execOp,Instr.build,run_underlying (bJ.out (P:=P) (t:=t)),sizeOf,typeInfo,zeroValue,hi,fH,eK,o9,kj,sq,qh,nS,ho,tk,zo,h0,h1,h2,ez,Instr.fill,TV.v,Value.cells]
end
end Go.Proofs.YtagdamiiececaaaGreatDoor.Vc
namespace Go.Proofs.YtagdamiiececaaaGreatDoor.Vc.TS
open Go.RowKit Tryz
variable{i b a' b' j k:Nat}
def gs(l:List TV)(i:Nat):TV:=l.getD i Mw
theorem r8{l:List TV}(h:i<l.length):gs l i=l[i]:=by simp [gs,cN,h]
def SR(κ:TV->Int)(l:List TV)(a b:Nat):Prop:=∀i j,a<=i->i<j->j<b->κ (gs l i)<=κ (gs l j)
theorem SR.one(κ:TV->Int)(l:List TV){a:Nat}(h:b<=a+1):SR κ l a b:=fun i j h1 h2 h3=>by omega
theorem SR.sub{κ:TV->Int}{l:List TV}{a:Nat}(h:SR κ l a b)(h1:a<=a')(h2:b'<=b):SR κ l a' b':=fun i j hi gU hj=>h i j (by omega) gU (by omega)
theorem SR.le{κ:TV->Int}{l:List TV}{a:Nat}(h:SR κ l a b)(h1:a<=i)(h2:i<=j)(h3:j<b):κ (gs l i)<=κ (gs l j):=by
 rcases Nat.lt_or_eq_of_le h2 with h2 | rfl
 ·exact h i j h1 h2 h3
 exact Int.le_refl _
theorem SR.congr{κ:TV->Int}{l l':List TV}{a:Nat}(h:SR κ l a b)(he:∀i,a<=i->i<b->gs l' i=gs l i):SR κ l' a b:=fun i j hi gU hj=>by
 rw [he i hi (by omega),he j (by omega) hj];exact h i j hi gU hj
structure RP(l l':List TV)(a b:Nat):Prop where
 perm:l'.Perm l
 out:∀i,i<a\/b<=i->gs l' i=gs l i
theorem RP.refl(l:List TV)(a b:Nat):RP l l a b:=⟨List.Perm.refl _,fun _ _=>rfl⟩
theorem RP.len{l l':List TV}{a:Nat}(h:RP l l' a b):l'.length=l.length:=h.perm.length_eq
theorem RP.trans{l l' RX:List TV}{a:Nat}(h:RP l l' a b)(h':RP l' RX a' b')(h1:a<=a')(h2:b'<=b):RP l RX a b:=
 ⟨h'.perm.trans h.perm,fun i hi=>by rw [h'.out i (by omega),h.out i hi]⟩
theorem Yx{l l':List TV}{a:Nat}(hl:l'.length=l.length)(h:∀i,i<a->gs l' i=gs l i):l'.take a=l.take a:=by
 refine jo (by simp [hl]) fun i h1 h2=>?_
 rw [oM]at h1 h2;rw [List.getElem_take,List.getElem_take,<-r8 (by omega),<-r8 (by omega)];exact h i (by omega)
theorem Yw{l l':List TV}(hl:l'.length=l.length)(h:∀i,b<=i->gs l' i=gs l i):l'.drop b=l.drop b:=by
 refine jo (by simp [hl]) fun i h1 h2=>?_
 rw [List.length_drop]at h1 h2;rw [List.getElem_drop,List.getElem_drop,<-r8 (by omega),<-r8 (by omega)];exact h _ (by omega)
theorem TM{α:Type}(l:List α){a:Nat}(h:a<=b):l=l.take a++ ((l.drop a).take (b - a)++l.drop b):=by
 have h1:l.drop b=(l.drop a).drop (b - a):=by rw [List.drop_drop];congr 1;omega
 rw [h1,List.take_append_drop,List.take_append_drop]
theorem RP.mid{l l':List TV}{a:Nat}(h:RP l l' a b)(dN:a<=b):((l'.drop a).take (b - a)).Perm ((l.drop a).take (b - a)):=by
 have h1:=h.perm;rw [TM l' dN,TM l dN,Yx h.len (fun i hi=>h.out i (.inl hi)),Yw h.len (fun i hi=>h.out i (.inr hi))]at h1;exact(List.perm_append_right_iff _).1 ((List.perm_append_left_iff _).1 h1)
theorem RP.from{l l':List TV}{a:Nat}(h:RP l l' a b)(hb:b<=l.length)(h1:a<=i)(h2:i<b):∃j,a<=j/\j<b/\gs l' i=gs l j:=by
 have hl:=h.len;have hm:gs l' i∈(l'.drop a).take (b - a):=by
  rw [fJ];refine⟨i - a,by rw [oM,List.length_drop];omega,?_⟩;rw [List.getElem_take,List.getElem_drop,<-r8 (by omega)]
  congr 1;omega
 obtain⟨k,hk,e⟩:=fJ.1 ((h.mid (by omega)).mem_iff.1 hm);rw [oM,List.length_drop]at hk;refine⟨a+k,by omega,by omega,?_⟩;rw [<-e,List.getElem_take,List.getElem_drop,<-r8 (by omega)]
def swp(l:List TV)(i j:Nat):List TV:=(l.set i (gs l j)).set j (gs l i)
theorem TY(l:List TV)(i j:Nat):(swp l i j).length=l.length:=by simp [swp]
theorem Ph{l:List TV}(h:i<l.length)(v:TV)(x:Nat):gs (l.set i v) x=if x=i then v else gs l x:=by
 simp only [gs,cN,mG]
 by_cases e:i=x
 ·subst e;simp [h]
 have:¬x=i:=fun h=>e h.symm
 simp [e,this]
theorem Dy{l:List TV}(hi:i<l.length)(hj:j<l.length)(x:Nat):gs (swp l i j) x=if x=j then gs l i else if x=i then gs l j else gs l x:=by
 rw [swp,Ph (by simpa using hj),Ph hi]
theorem Mr{l:List TV}{a:Nat}(hi:i<l.length)(hj:j<l.length)(h1:a<=i)(h2:i<b)(h3:a<=j)(h4:j<b):RP l (swp l i j) a b:=by
 refine⟨?_,fun x hx=>?_⟩
 ·unfold swp;rw [r8 hi,r8 hj];exact List.set_set_perm hi hj
 rw [Dy hi hj,aw (by omega),aw (by omega)]
structure uK(κ:TV->Int)(l:List TV)(a i j:Nat):Prop where
 low:a<=j
 high:j<=i
 rest:∀x y,a<=x->x<y->y<=i->x≠j->y≠j->κ (gs l x)<=κ (gs l y)
 own:∀y,j<y->y<=i->κ (gs l j)<=κ (gs l y)
theorem uK.start{κ:TV->Int}{l:List TV}{a:Nat}(h:SR κ l a i)(hi:a<=i):uK κ l a i i:=
 ⟨hi,bj _,fun x y h1 h2 h3 h4 h5=>h x y h1 h2 (by omega),fun y h1 h2=>by omega⟩
theorem uK.stop{κ:TV->Int}{l:List TV}{a:Nat}(h:uK κ l a i j)(hs:j=a\/κ (gs l (j - 1))<=κ (gs l j)):SR κ l a (i+1):=fun x y h1 h2 h3=>by
 by_cases e:x=j
 ·subst e;exact h.own y h2 (by omega)
 by_cases e2:y=j
 ·subst e2;rcases hs with hs | hs
  ·omega
  by_cases e3:x=y - 1
  ·subst e3;exact hs
  exact Int.le_trans (h.rest x (y - 1) h1 (by omega) (by have:=h.high;omega) e (by omega)) hs
 exact h.rest x y h1 h2 (by omega) e e2
theorem uK.next{κ:TV->Int}{l:List TV}{a:Nat}(h:uK κ l a i j)(hj:a<j)(hi:i<l.length)(hs:κ (gs l j)<κ (gs l (j - 1))):uK κ (swp l j (j - 1)) a i (j - 1):=by
 have hh:=h.high;have g:=Dy (l:=l) (i:=j) (j:=j - 1) (by omega) (by omega);refine⟨by omega,by omega,fun x y h1 h2 h3 h4 h5=>?_,fun y h1 h2=>?_⟩
 ·rw [g x,g y,aw h4,aw h5]
  by_cases e:x=j
  ·subst e;rw [ay rfl,aw (by omega)];exact h.rest (x - 1) y (by omega) (by omega) h3 (by omega) (by omega)
  rw [aw e]
  by_cases e2:y=j
  ·subst e2;rw [ay rfl];exact h.rest x (y - 1) h1 (by omega) (by omega) e (by omega)
  rw [aw e2];exact h.rest x y h1 h2 h3 e e2
 rw [g (j - 1),g y,ay rfl,aw (by omega)]
 by_cases e2:y=j
 ·subst e2;rw [ay rfl];omega
 rw [aw e2];exact h.own y (by omega) h2
theorem Xu{α:Type}(P X M Y S:List α)(k:Nat)(h:X.length=Y.length)(hk:k<X.length)(x y:α)(hx:X[k]?=some x)(hy:Y[k]?=some y):((P++ (Y.take k++X.drop k)++M++ (X.take k++Y.drop k)++S).set (P.length+k) y).set (P.length+X.length+M.length+k) x=P++ (Y.take (k+1)++X.drop (k+1))++M++ (X.take (k+1)++Y.drop (k+1))++S:=by
 obtain⟨eN,rfl⟩:=gS.1 hx;obtain⟨lh,rfl⟩:=gS.1 hy;rw [List.drop_eq_getElem_cons eN,List.drop_eq_getElem_cons lh,rQ eN,rQ lh];have e1:(P++ (Y.take k++X[k]::X.drop (k+1))++M++ (X.take k++Y[k]::Y.drop (k+1))++S)=(P++Y.take k)++X[k]::(X.drop (k+1)++M++ (X.take k++Y[k]::Y.drop (k+1))++S):=by simp only [jy,List.cons_append]
 have l1:P.length+k=(P++Y.take k).length:=by simp;omega
 rw [e1,l1,List.set_append_right _ _ (bj _),Nat.sub_self,List.set_cons_zero];have e2:(P++Y.take k)++Y[k]::(X.drop (k+1)++M++ (X.take k++Y[k]::Y.drop (k+1))++S)=(P++Y.take k++Y[k]::(X.drop (k+1)++M++X.take k))++Y[k]::(Y.drop (k+1)++S):=by simp only [jy,List.cons_append]
 have l2:P.length+X.length+M.length+k=(P++Y.take k++Y[k]::(X.drop (k+1)++M++X.take k)).length:=by simp;omega
 rw [e2,l2,List.set_append_right _ _ (bj _),Nat.sub_self,List.set_cons_zero];simp only [jy,List.cons_append,List.nil_append]
structure tN(l l1:List TV)(s m e:Nat):Prop where
 out:∀i,i<s\/e<=i->gs l1 i=gs l i
 left:∀i,s<=i->i<s+ (e - m)->gs l1 i=gs l (i+ (m - s))
 right:∀i,s+ (e - m)<=i->i<e->gs l1 i=gs l (i - (e - m))
theorem tN.same(l:List TV){s m e:Nat}(h:s=m\/m=e)(h1:s<=m)(h2:m<=e):tN l l s m e:=
 ⟨fun _ _=>rfl,fun i h3 h4=>by congr 1;omega,fun i h3 h4=>by congr 1;omega⟩
theorem tN.of(P X Y S:List TV):tN (P++ (X++ (Y++S))) (P++ (Y++ (X++S))) P.length (P.length+X.length) (P.length+X.length+Y.length):=by
 have key:∀(P X Y S:List TV) (i:Nat),gs (P++ (X++ (Y++S))) i=if i<P.length then gs P i else if i<P.length+X.length then gs X (i - P.length)else if i<P.length+X.length+Y.length then gs Y (i - P.length - X.length)else gs S (i - P.length - X.length - Y.length):=fun P X Y S i=>by
  simp only [gs,cN]
  by_cases h1:i<P.length
  ·rw [ay h1,mc h1]
  rw [aw h1,lM (by omega)]
  by_cases h2:i<P.length+X.length
  ·rw [ay h2,mc (by omega)]
  rw [aw h2,lM (by omega)]
  by_cases h3:i<P.length+X.length+Y.length
  ·rw [ay h3,mc (by omega)]
  rw [aw h3,lM (by omega)]
 refine⟨fun i h=>?_,fun i h1 h2=>?_,fun i h1 h2=>?_⟩
 ·rw [key,key];rcases h with h | h
  ·rw [ay h,ay h]
  rw [aw (by omega),aw (by omega),aw (by omega),aw (by omega),aw (by omega),aw (by omega)]
  congr 1;omega
 ·rw [key,key,aw (by omega),ay (by omega),aw (by omega),aw (by omega),ay (by omega)]
  congr 1;omega
 rw [key,key,aw (by omega),aw (by omega),ay (by omega),aw (by omega),ay (by omega)]
 congr 1;omega
theorem afX{α:Type}(P X Y S:List α):(P++ (Y++ (X++S))).Perm (P++ (X++ (Y++S))):=by
 refine(List.perm_append_left_iff _).2 ?_;rw [<-jy,<-jy];exact(List.perm_append_right_iff _).2 me
def mA(a m b:Nat):Nat:=if(a+b) / 2<m then(a+b) / 2+m - b else a
def eK(a m b:Nat):Nat:=if(a+b) / 2<m then(a+b) / 2 else m
structure Ij(κ:TV->Int)(l:List TV)(a m b s:Nat):Prop where
 lo:mA a m b<=s
 hi:s<=eK a m b
 left:∀c,mA a m b<=c->c<s->κ (gs l c)<=κ (gs l ((a+b) / 2+m - 1 - c))
 right:∀c,s<=c->c<eK a m b->κ (gs l ((a+b) / 2+m - 1 - c))<κ (gs l c)
theorem W1{κ:TV->Int}{l l1:List TV}{a m s:Nat}(h1:a+1<m)(h2:m+1<b)(hA:SR κ l a m)(hB:SR κ l m b)(hc:Ij κ l a m b s)(hr:tN l l1 s m ((a+b) / 2+m - s)):(a<=s/\s<=(a+b) / 2/\s<=m/\(a+b) / 2<=(a+b) / 2+m - s/\m<=(a+b) / 2+m - s/\(a+b) / 2+m - s<=b)/\SR κ l1 a s/\SR κ l1 s ((a+b) / 2)/\SR κ l1 ((a+b) / 2) ((a+b) / 2+m - s)/\SR κ l1 ((a+b) / 2+m - s) b/\∀i j,a<=i->i< (a+b) / 2->(a+b) / 2<=j->j<b->κ (gs l1 i)<=κ (gs l1 j):=by
 obtain⟨c1,c2,c3,c4⟩:=hc;generalize o5:(a+b) / 2=mid at*;unfold mA at c1 c3;unfold eK at c2 c4;rw [o5]at c1 c2 c3 c4;have rr:2*mid<=a+b/\a+b<=2*mid+1:=by omega
 have b1:a<=s:=by split at c1<;>omega
 have b2:s<=mid:=by split at c2<;>omega
 have b3:s<=m:=by split at c2<;>omega
 have b4:mid+m - s<=b:=by split at c1<;>omega
 generalize he:mid+m - s=e at*;obtain⟨r1,r2,r3⟩:=hr;have L4:∀i,s<=i->i<mid->gs l1 i=gs l (i+ (m - s)):=fun i h h'=>r2 i h (by omega)
 have HN:∀i,mid<=i->i<e->gs l1 i=gs l (i - (mid - s)):=fun i h h'=>by rw [r3 i (by omega) h'];congr 1;omega
 refine⟨⟨b1,b2,b3,by omega,by omega,b4⟩,?_,?_,?_,?_,?_⟩
 ·exact(hA.sub (bj _) b3).congr fun i _ h=>r1 i (.inl h)
 ·intro i j hi gU hj;rw [L4 i hi (by omega),L4 j (by omega) hj];exact hB _ _ (by omega) (by omega) (by omega)
 ·intro i j hi gU hj;rw [HN i hi (by omega),HN j (by omega) hj];exact hA _ _ (by omega) (by omega) (by omega)
 ·exact(hB.sub (by omega) (bj _)).congr fun i h _=>r1 i (.inr h)
 intro i j hi qh hj mY
 by_cases x1:i<s
 ·rw [r1 i (.inl x1)]
  by_cases x2:j<e
  ·rw [HN j hj x2];exact hA.le hi (by omega) (by omega)
  rw [r1 j (.inr (by omega))];have k1:κ (gs l i)<=κ (gs l (s - 1)):=hA.le hi (by omega) (by omega);have k2:κ (gs l e)<=κ (gs l j):=hB.le (by omega) (by omega) mY;have k3:=c3 (s - 1) (by split<;>omega) (by omega);rw [show mid+m - 1 - (s - 1)=e by omega]at k3;omega
 rw [L4 i (by omega) qh]
 by_cases x2:j<e
 ·rw [HN j hj x2];have k1:κ (gs l (i+ (m - s)))<=κ (gs l (e - 1)):=hB.le (by omega) (by omega) (by omega);have k2:κ (gs l s)<=κ (gs l (j - (mid - s))):=hA.le (by omega) (by omega) (by omega);have k3:=c4 s (bj _) (by split<;>omega);rw [show mid+m - 1 - s=e - 1 by omega]at k3;omega
 rw [r1 j (.inr (by omega))];exact hB.le (by omega) (by omega) mY
theorem W3{κ:TV->Int}{l1 l2 l3:List TV}{a mid:Nat}(dN:a<=mid)(D9:mid<=b)(hb:b<=l1.length)(h:∀i j,a<=i->i<mid->mid<=j->j<b->κ (gs l1 i)<=κ (gs l1 j))(p2:RP l1 l2 a mid)(s2:SR κ l2 a mid)(p3:RP l2 l3 mid b)(s3:SR κ l3 mid b):SR κ l3 a b:=fun i j hi gU hj=>by
 have th:=p2.len
 by_cases x1:j<mid
 ·rw [p3.out i (.inl (by omega)),p3.out j (.inl x1)];exact s2 i j hi gU x1
 by_cases x2:i<mid
 ·rw [p3.out i (.inl x2)];obtain⟨i',h1,h2,e1⟩:=p2.from (by omega) hi x2;obtain⟨j',h3,h4,e2⟩:=p3.from (by omega) (by omega) hj;rw [e1,e2,p2.out j' (.inr h3)];exact h i' j' h1 h2 h3 h4
 exact s3 i j (by omega) gU hj
structure uN(l c:List TV)(a k:Nat):Prop where
 len:c.length=l.length
 out:∀x,x<a\/k<x->gs c x=gs l x
 tu:∀x,a<=x->x<k->gs c x=gs l (x+1)
 own:gs c k=gs l a
theorem uN.start(l:List TV)(a:Nat):uN l l a a:=⟨rfl,fun _ _=>rfl,fun x h h'=>by omega,rfl⟩
theorem uN.next{l c:List TV}{a:Nat}(h:uN l c a k)(ha:a<=k)(hk:k+1<l.length):uN l (swp c k (k+1)) a (k+1):=by
 have hl:=h.len;have g:=Dy (l:=c) (i:=k) (j:=k+1) (by omega) (by omega);refine⟨by rw [TY,hl],fun x hx=>?_,fun x h1 h2=>?_,?_⟩
 ·rw [g,aw (by omega),aw (by omega),h.out x (by omega)]
 ·rw [g,aw (by omega)]
  by_cases e:x=k
  ·subst e;rw [ay rfl,h.out _ (by omega)]
  rw [aw e,h.tu x h1 (by omega)]
 rw [g,ay rfl,h.own]
theorem uN.sorted{κ:TV->Int}{l c:List TV}{a:Nat}(h:uN l c a (i - 1))(hs:SR κ l (a+1) b)(h1:a+1<=i)(h2:i<=b)(hl:∀x,a+1<=x->x<i->κ (gs l x)<=κ (gs l a))(hr:∀x,i<=x->x<b->κ (gs l a)<=κ (gs l x)):SR κ c a b:=fun x y hx jl hy=>by
 by_cases e:x=i - 1
 ·rw [e,h.own,h.out y (.inr (by omega))];exact hr y (by omega) hy
 by_cases e2:y=i - 1
 ·rw [e2,h.own,h.tu x hx (by omega)];exact hl _ (by omega) (by omega)
 by_cases x1:y<i - 1
 ·rw [h.tu x hx (by omega),h.tu y (by omega) x1];exact hs _ _ (by omega) (by omega) (by omega)
 rw [h.out y (.inr (by omega))]
 by_cases x2:x<i - 1
 ·rw [h.tu x hx x2];exact hs _ _ (by omega) (by omega) hy
 rw [h.out x (.inr (by omega))];exact hs _ _ (by omega) jl hy
structure uM(l c:List TV)(m k:Nat):Prop where
 len:c.length=l.length
 out:∀x,x<k\/m<x->gs c x=gs l x
 tu:∀x,k<x->x<=m->gs c x=gs l (x - 1)
 own:gs c k=gs l m
theorem uM.start(l:List TV)(m:Nat):uM l l m m:=⟨rfl,fun _ _=>rfl,fun x h h'=>by omega,rfl⟩
theorem uM.next{l c:List TV}{m:Nat}(h:uM l c m k)(hk:0<k)(QG:k<=m)(hm:m<l.length):uM l (swp c k (k - 1)) m (k - 1):=by
 have hl:=h.len;have g:=Dy (l:=c) (i:=k) (j:=k - 1) (by omega) (by omega);refine⟨by rw [TY,hl],fun x hx=>?_,fun x h1 h2=>?_,?_⟩
 ·rw [g,aw (by omega),aw (by omega),h.out x (by omega)]
 ·rw [g,aw (by omega)]
  by_cases e:x=k
  ·subst e;rw [ay rfl,h.out _ (by omega)]
  rw [aw e,h.tu x (by omega) h2]
 rw [g,ay rfl,h.own]
theorem uM.sorted{κ:TV->Int}{l c:List TV}{a m:Nat}(h:uM l c m i)(hs:SR κ l a m)(h1:a<=i)(h2:i<=m)(hl:∀x,a<=x->x<i->κ (gs l x)<=κ (gs l m))(hr:∀x,i<=x->x<m->κ (gs l m)<=κ (gs l x)):SR κ c a (m+1):=fun x y hx jl hy=>by
 by_cases e:x=i
 ·rw [e,h.own,h.tu y (by omega) (by omega)];exact hr _ (by omega) (by omega)
 by_cases e2:y=i
 ·rw [e2,h.own,h.out x (.inl (by omega))];exact hl x hx (by omega)
 by_cases x1:y<i
 ·rw [h.out x (.inl (by omega)),h.out y (.inl x1)];exact hs _ _ hx jl (by omega)
 rw [h.tu y (by omega) (by omega)]
 by_cases x2:x<i
 ·rw [h.out x (.inl x2)];exact hs _ _ hx (by omega) (by omega)
 rw [h.tu x (by omega) (by omega)];exact hs _ _ (by omega) (by omega) (by omega)
def vy(κ:TV->Int)(l:List TV)(n s lo hi:Nat):Prop:=∀k,lo<=k*s->k*s<hi->SR κ l (k*s) (min (k*s+s) n)
theorem vy.done{κ:TV->Int}{l:List TV}{n s:Nat}(h:vy κ l n s 0 n)(hs:n<=s):SR κ l 0 n:=by
 by_cases h0:n=0
 ·subst h0;exact SR.one _ _ (by omega)
 have:=h 0 (by omega) (by omega);rw [Nat.zero_mul,Nat.zero_add,Nat.min_eq_right hs]at this;exact this
theorem Sr{s:Nat}(h:j*s<k*s):j*s+s<=k*s:=by
 have tf:j<k:=Nat.lt_of_mul_lt_mul_right h;have:=Nat.mul_le_mul_right s (Nat.succ_le_of_lt tf);rw [Nat.succ_mul]at this;exact this
end Go.Proofs.YtagdamiiececaaaGreatDoor.Vc.TS
namespace Go.Proofs.YtagdamiiececaaaGreatDoor.Vc
open Go.RowKit Tryz
section
variable {P:Program} {N:Nat} {ops:Array Oper} {K:Env->aa->Prop} {rest:List Oper} {e:Env} {w0 w w':aa} {ks:List Ck} {d:Nat} {ty:ae} {pos:String} {af:Array Edge}
def Tp(a n u:Nat)(R:ad->aa->Prop):jB
 | .normal,e,w=>∃A f,e a= .pointer A/\Rd w A n f/\R (.tuple #[.agg ((List.range n).map f).toArray,e u]) w
 | .ret,e,w=>∃A f,e a= .pointer A/\Rd w A n f/\R (.tuple #[.agg ((List.range n).map f).toArray,e u]) w
 | _,_,_=>False
theorem iL{a n u:Nat}{R:ad->aa->Prop}{A:aj}{f:Nat->ad}{v:ad}(h:e a= .pointer A)(hR:Rd w A n f)(hv:e u=v)(h2:R (.tuple #[.agg ((List.range n).map f).toArray,v]) w):Tp a n u R .ret e w:=⟨A,f,h,hR,by rw [hv];exact h2⟩
theorem pc{fn:Func}{R:ad->aa->Prop}{a t n b u:Nat}{fs:Array Field}{z:ad}[bJ P t (.struct fs)][bF P t z n b](hr:fn.results= #[.cell a t,.tmp u])(zn:Nat.blt 0 n=true):∀x a1 e w,jC N a1 e->Tp a n u R x e w->bodyPost P fn (fun x w'=>∃v,x= .returned v/\R v w') x a1 w:=by
 intro x a1 e w he q;have hn:0<n:=by simpa [Nat.blt_eq]using zn
 have hg:=he.get a;have hh:=he.get u;have key:∀(A:aj) (f:Nat->ad),e a= .pointer A->Rd w A n f->(results fn a1.tmps).run P w= .ok (.tuple #[.agg ((List.range n).map f).toArray,e u]) w:=by
  intro A f hA hR;obtain⟨q,rfl,hl⟩:=TA (P:=P) (t:=t) hn hR;rw [iR]at hg hh;simp [results,hr,hg,hh,hA,asAddr,hl]
 cases x<;>first
  | exact q.elim
  | (
   obtain⟨A,f,hA,hR,h2⟩:=q;exact⟨he.defers,_,key A f hA hR,_,O,h2⟩)
end
section
variable{t:ae}{b b0 b1 b2:Nat}{bs:ai}
variable {P:Program} {N:Nat} {ops:Array Oper} {K:Env->aa->Prop} {rest:List Oper} {e:Env} {w0 w w':aa} {ks:List Ck} {d:Nat} {ty:ae} {pos:String} {af:Array Edge}
theorem U7{el:ae}{x:ag}{v0 v1 v2:ad}(hS:St w0 w ks)(hx:ev e x= .agg #[v0,v1,v2])(hb:Nat.blt d N=true)(hK:∀A w',St w0 w' (Bx el 3 A [v0,v1,v2]::ks)->ao P N ops K rest (bq e d (.pointer A)) w')(hM:eG [v0,v1,v2]=false:=by rfl):ao P N ops K (⟨some d,.box el x,ty,pos,af,none⟩::rest) e w:= .Fz hS hx hb rfl hK hM
variable {x y:ag} {xt yt:ae} {i j:Int}
theorem Up(i:Int):0<=IntKind.u64.wrap i/\IntKind.u64.wrap i<=18446744073709551615:=by rw [IntKind.wrap_u64];omega
theorem Iv(hx:ev e x= .int .u64 i)(hy:ev e y= .int .u64 j)(hb:Nat.blt d N=true)(hK:∀r:Int,0<=r/\r<=18446744073709551615->ao P N ops K rest (bq e d (.int .u64 r)) w):
 ao P N ops K (⟨some d,.binOp .mul xt x y yt,ty,pos,af,none⟩::rest) e w:=
 .val (by simp [execOp,hx,hy,eqGuard,binOp,Op.intArith]) hb (hK _ (Up (i*j)))
theorem Fi(hx:ev e x= .int .u64 i)(hy:ev e y= .int .u64 j)(hb:Nat.blt d N=true)(hK:∀r:Int,0<=r/\r<=18446744073709551615->ao P N ops K rest (bq e d (.int .u64 r)) w):
 ao P N ops K (⟨some d,.binOp .add xt x y yt,ty,pos,af,none⟩::rest) e w:=
 .val (by simp [execOp,hx,hy,eqGuard,binOp,Op.intArith]) hb (hK _ (Up (i+j)))
theorem V9(i:Int):0<=bits .and .u64 i 16777215/\bits .and .u64 i 16777215<=16777215:=by
 have h:∀a:BitVec 64,(a &&& BitVec.ofInt 64 16777215).toNat<=16777215:=fun a=>by
  rw [BitVec.toNat_and];exact Nat.and_le_right
 have e:bits .and .u64 i 16777215=IntKind.u64.wrap ((BitVec.ofInt 64 i &&& BitVec.ofInt 64 16777215).toNat:Int):=O;have:=h (BitVec.ofInt 64 i);rw [e,IntKind.wrap_u64];omega
theorem UY(hx:ev e x= .int .u64 i)(hy:ev e y= .int .u64 16777215)(hb:Nat.blt d N=true)(hK:∀r:Int,0<=r/\r<=16777215->ao P N ops K rest (bq e d (.int .u64 r)) w):
 ao P N ops K (⟨some d,.binOp .and xt x y yt,ty,pos,af,none⟩::rest) e w:=
 .val (by simp only [execOp,hx,hy,eqGuard,binOp,intBits_and];simp) hb (hK _ (V9 i))
theorem Vp{k:IntKind}(hx:ev e x= .int .u64 i)(hy:ev e y= .int k 33)(hb:Nat.blt d N=true)(hK:∀r:Int,ao P N ops K rest (bq e d (.int .u64 r)) w):
 ao P N ops K (⟨some d,.binOp .shr xt x y yt,ty,pos,af,none⟩::rest) e w:=by
 refine .val (v:= .int .u64 (i.fdiv (2^33))) ?_ hb (hK _);have e1:min 33 IntKind.u64.bits=33:=by decide
 simp [execOp,hx,hy,eqGuard,binOp,Op.shift,e1]
def tM(w:aa)(A:aj)(n:Nat)(bs:ai):Prop:=bs.length=n/\(∀b∈bs,0<=b/\b<=255)/\Rd w A n (fun j=> .int .u8 (bs.getD j 0))
theorem tM.below{w w':aa}{A:aj}{n:Nat}(h:tM w A n bs)(hb:Below w.heap.size w w'):tM w' A n bs:=⟨h.1,h.2.1,Rd.below h.2.2 hb⟩
theorem tM.at_{A:aj}{n:Nat}(h:tM w A n bs){j:Int}(h0:0<=j)(h1:j<n):0<=bs.getD j.toNat 0/\bs.getD j.toNat 0<=255:=by
 have hl:j.toNat<bs.length:=by rw [h.1];omega
 rw [cN,fS hl];exact h.2.1 _ (dB hl)
theorem M0{u:TypeDesc}[bJ P t u]{A:aj}{n:Nat}(hR:tM w A n bs)(hx:ev e x= .pointer (aJ A i.toNat))(h1:i.toNat<n)(hp:wF u=true)(hb:Nat.blt d N=true)(hK:ao P N ops K rest (bq e d (.int .u8 (bs.getD i.toNat 0))) w):ao P N ops K (⟨some d,.load t x,ty,pos,af,none⟩::rest) e w:=
 .ld hR.2.2 hx h1 rfl hp hb hK
def Ce:Nat->ai->List (Nat×ad)
 | _,[]=> []
 | k,v::r=> (k,.int .i64 v)::Ce (k+1) r
theorem Oy:∀(vs:ai) (k:Nat) (cells:Array ad),k+vs.length<=cells.size->∃out,Instr.fill (fun i=>some (i*1,1)) cells (Ce k vs)=some out/\out.size=cells.size/\(∀j,j<k->out[j]?=cells[j]?)/\(∀j,j<vs.length->out[k+j]?=vs[j]?.map (Value.int .i64))/\(∀j,k+vs.length<=j->out[j]?=cells[j]?)
 | [],k,cells,_=> ⟨cells,rfl,rfl,fun _ _=>rfl,fun j hj=>absurd hj (sQ _),fun _ _=>rfl⟩
 | v::r,k,cells,h=>by
  have hk:k<cells.size:=by simp at h;omega
  obtain⟨out,h1,h2,h3,h4,h5⟩:=Oy r (k+1) (cells.setIfInBounds k (ak v)) (by simp at h|-;omega);refine⟨out,?_,by rw [h2];simp,fun j hj=>?_,fun j hj=>?_,fun j hj=>?_⟩
  ·show Instr.fill _ cells ((k,ak v)::Ce (k+1) r)=some out;rw [<-h1];simp [Instr.fill,Value.cells,show ¬cells.size<k+1 by omega]
  ·rw [h3 j (by omega),vx,aw (by omega)]
  ·cases j with
   | zero=>rw [Nat.add_zero,h3 k (by omega),vx,ay rfl,ay hk];rfl
   | succ q=>
    have:=h4 q (by simpa using hj);rw [show k+ (q+1)=k+1+q by omega,this]
    rfl
  ·rw [h5 j (by simp at hj|-;omega),vx,aw (by simp at hj;omega)]
theorem XB(vs:ai)(cells:Array ad)(h:cells.size=vs.length):Instr.fill (fun i=>some (i*1,1)) cells (Ce 0 vs)=some (vs.map (Value.int .i64)).toArray:=by
 obtain⟨out,h1,h2,_,h4,_⟩:=Oy vs 0 cells (by omega);rw [h1]
 congr 1
 apply Array.ext';apply List.ext_getElem?;intro j
 by_cases hj:j<vs.length
 ·have:=h4 j hj;rw [Nat.zero_add]at this;simpa using this
 rw [mF (by simpa [h2,h]using hj),mF (by simpa using hj)]
theorem CY{el:ae}{z:ad}{n:Nat}[bJ P t (.slice el)][bF P el z 1 b]{ps:Array (Nat×ag)}(vs:ai)(hS:St w0 w ks)(hv:(ps.toList.map fun p=> (p.1,ev e p.2))=Ce 0 vs)(hn:vs.length=n)(qk:n≠0)(ti:n<=1000)(hz:z.cells= #[z])(hb:Nat.blt d N=true)(hK:∀A w',St w0 w' (az el A n n vs::ks)->ao P N ops K rest (bq e d (.slice A n n)) w'):ao P N ops K (⟨some d,.buildSlice t n ps,ty,pos,af,none⟩::rest) e w:=by
 subst hn;obtain⟨inf,hi,fH,hs,iW⟩:=bF.get P el;have hA:=hS.alloc (vs.map (Value.int .i64)) el (by simp [maxLen];omega) (sA _);refine .val (w':=w.alloc (.cells (vs.map (Value.int .i64)).toArray el)) ?_ hb (hK _ _ (by simpa [az]using hA));have hf:=XB vs ((Array.range (vs.length*1)).map ((#[z]:Array ad)[· % (#[z]:Array ad).size]!)) (by simp);have hv':(ps.map fun p=> (p.1,ev e p.2)).toList=Ce 0 vs:=by rw [Array.toList_map];exact hv
 have JO:¬16777216<vs.length:=by omega
 simp only [Nat.mul_one]at hf;simp [execOp,Instr.buildSlice,run_underlying (bJ.out (P:=P) (t:=t)),sizeOf,typeInfo,zeroValue,hi,hs,fH,hz,newRow,hv,JO,qk];simp at hf;simp [hf]
theorem U3{f0 f1 f2:Field}{z0 z1 z2 y0 y1 y2:ad}[bJ P t (.struct #[f0,f1,f2])][bF P t (.agg #[z0,z1,z2]) 3 b]{x0 x2:ag}{v0 v2:ad}(sb:bF P f0.type y0 1 b0)(sc:bF P f1.type y1 1 b1)(tZ:bF P f2.type y2 1 b2)(ho:f0.offset=0)(tk:f1.offset=1)(zo:f2.offset=2)(h0:ev e x0=v0)(h2:ev e x2=v2)(c0:v0.oneCell'=true)(c2:v2.oneCell'=true)(hb:Nat.blt d N=true)(hK:ao P N ops K rest (bq e d (.agg #[v0,z1,v2])) w):ao P N ops K (⟨some d,.build t #[(0,x0),(2,x2)],ty,pos,af,none⟩::rest) e w:=by
 obtain⟨inf,hi,fH,hs,iW⟩:=bF.get P t;obtain⟨Cf,eK,_,o9,_⟩:=sb.get P f0.type;obtain⟨Cg,kj,_,sq,_⟩:=sc.get P f1.type;obtain⟨Er,qh,_,nS,_⟩:=tZ.get P f2.type;have e0:v0.cells= #[v0]:=by cases v0<;>simp [Value.oneCell']at c0<;>rfl
 have e2:v2.cells= #[v2]:=by cases v2<;>simp [Value.oneCell']at c2<;>rfl
 have ez:(Value.agg #[z0,z1,z2]).cells= #[z0,z1,z2]:=O;refine .val (w':=w) ?_ hb hK;simp [execOp,Instr.build,run_underlying (bJ.out (P:=P) (t:=t)),sizeOf,typeInfo,zeroValue,hi,fH,eK,o9,kj,sq,qh,nS,ho,tk,zo,h0,e0,h2,e2,ez,Instr.fill]
end
end Go.Proofs.YtagdamiiececaaaGreatDoor.Vc
namespace Go.Proofs.YtagdamiiececaaaGreatDoor.Vc.TS
open Go.RowKit Tryz
variable{b j:Nat}{w0 w' w:aa}{t:ae}{ks:List Ck}
def lT(x:TV):Int:=x.f*1000+x.g
def kT(x:TV):Int:=x.r*1000000+lT x
def pk(x:TV):Prop:=(0<=x.f/\x.f<1000)/\0<=x.g/\x.g<1000
def qL(x y:TV):Int:=if x.r<y.r then -1 else if y.r<x.r then 1 else 0
theorem pk.ix{x:TV}(h:pk x):0<=lT x/\lT x<1000000:=by unfold pk at h;unfold lT;omega
theorem NO{x y:TV}(hx:pk x)(hy:pk y)(h:lT y<lT x):qL x y<0↔kT x<kT y:=by
 have h1:=hx.ix;have h2:=hy.ix;unfold qL kT
 by_cases e:x.r<y.r
 ·rw [ay e];omega
 rw [aw e]
 by_cases e2:y.r<x.r
 ·rw [ay e2];omega
 rw [aw e2];omega
theorem Eu(x:Int)(w:aa):aG prog 233 [ak x] w (fun v w'=>v= .bool false/\w'=w):=by
 refine bA func233 O ntmps233 O (cJ O) (Fg O (dK O ?_));exact⟨by rw [dE (fun h=>h O)],O⟩
theorem WB(x y:Int)(w:aa):aG prog 260 [ak x,ak y] w (fun v w'=>v=ak (if x<y then -1 else if y<x then 1 else 0)/\w'=w):=by
 refine bA func260 O ntmps260 O (cJ O) (a8 O (aL (Eu x w) O ?_));rintro _ w1 ⟨rfl,rfl⟩;refine ar O (aL (Eu y _) O ?_);rintro _ w1 ⟨rfl,rfl⟩;refine aI O (Cd.gh O (dA O (Cd.gh O (dA O ?_))));refine aR _ O (fun h=>?_) (fun h=>?_)
 ·refine eT O (gY O ?_);exact⟨by rw [ay h],O⟩
 refine dA O (aR _ O (fun h2=>?_) (fun h2=>?_))
 ·refine eT O (gY O ?_);exact⟨by rw [aw h,ay h2],O⟩
 refine eT O (gY O ?_);exact⟨by rw [aw h,aw h2],O⟩
theorem FK(x y:TV)(w:aa):
 aG prog 263 [x.v,y.v] w (fun v w'=>v=ak (qL x y)/\St w w' []):=by
 refine bA func263 O ntmps263 O (cJ O) (a8 O (nw (St.refl w) O O ?_));intro A2 w1 aA;refine nw aA O O fun A3 w2 aB=>ar O (aX (aB.rd 1 O) O (iG (aB.rd 1 O) O O O O O (aX (aB.rd 0 O) O (iG (aB.rd 0 O) O O O O O (aL (WB x.r y.r _) O ?_)))));rintro _ w3 ⟨rfl,rfl⟩;refine bM O (gY O ?_);exact⟨O,aB.none⟩
theorem Pg{ds:List TV}(h:∀s∈ds,pk s)(i:Nat):pk (gs ds i):=by
 by_cases hi:i<ds.length
 ·rw [r8 hi];exact h _ (dB _)
 have:gs ds i=Mw:=by simp [gs,cN,mF (Nat.le_of_not_lt hi)]
 rw [this];exact⟨⟨Int.le_refl _,by decide⟩,Int.le_refl _,by decide⟩
theorem RP.cap{ds lz:List TV}{a:Nat}(h:RP ds lz a b)(hc:∀s∈ds,pk s):∀s∈lz,pk s:=fun s hs=>hc s (h.perm.mem_iff.1 hs)
theorem yj{A:aj}{n c:Nat}{L:List TV}{x s:TV}{i:Int}(e:i.toNat=j)(g:s=x)(h:St w0 w' (dU t A n c (L.set i.toNat s)::ks)):St w0 w' (dU t A n c (L.set j x)::ks):=by
 subst g;rw [<-e];exact h
theorem Mq{A:aj}{n c:Nat}{P X M Y S:List TV}{G:FuncId}(a b m:Nat)(ha:P.length=a)(hb:P.length+X.length+M.length=b)(hm:X.length=m)(jl:X.length=Y.length)(hn:n<=4000000000000)(hS:St w0 w (dU t A n c (P++X++M++Y++S)::ks)):
 aG prog 320 [.slice A n c,ak a,ak b,ak m,.func (.func G) #[] #[]] w (fun v w'=>v= .tuple #[]/\St w0 w' (dU t A n c (P++Y++M++X++S)::ks)):=by
 have uj:(P++X++M++Y++S).length=n:=(hS.jH 0 O).1;simp only [cS]at uj;refine bA func320 O ntmps320 O (zJ O) (bL O ?_);refine Cd.loop (α:=Nat) (fun k=> [(0,.slice A n c),(1,ak a),(2,ak b),(3,ak m),(4,.func (.func G) #[] #[]),(10,ak k)]) (fun k w'=>k<=m/\St w0 w' (dU t A n c (P++ (Y.take k++X.drop k)++M++ (X.take k++Y.drop k)++S)::ks)) (fun k=>m - k) 0 (ajs O) ⟨a7 _,by simpa using hS⟩ ?_;rintro k e w1 ⟨hk,aA⟩;refine bL O (aR _ O (fun h1=>?_) (fun h1=>?_))
 ·have sj:k<X.length:=by omega
  have KG:k<Y.length:=by omega
  have hR:=aA.jH 0 O;have ga:tg (P++ (Y.take k++X.drop k)++M++ (X.take k++Y.drop k)++S) ((a:Int)+ (k:Int))=X[k]:=by
   have e1:((a:Int)+ (k:Int)).toNat=P.length+k:=by omega
   unfold tg;rw [e1,cN];simp only [jy];rw [lM (by omega),lM (by simp;omega),mc (by simp;omega)];simp [Nat.min_eq_left (Nat.le_of_lt KG),sj]
  have gb:tg (P++ (Y.take k++X.drop k)++M++ (X.take k++Y.drop k)++S) ((b:Int)+ (k:Int))=Y[k]:=by
   have e1:((b:Int)+ (k:Int)).toNat=P.length+X.length+M.length+k:=by omega
   unfold tg;rw [e1,cN];simp only [jy];rw [lM (by omega),lM (by simp;omega),lM (by simp;omega),lM (by simp;omega),lM (by simp;omega),mc (by simp;omega)];have e2:P.length+X.length+M.length+k - P.length - (List.take k Y).length - (List.drop k X).length - M.length - (List.take k X).length=0:=by simp;omega
   rw [e2];simp [KG]
  have hx:=Xu P X M Y S k jl sj X[k] Y[k] (by simp [sj]) (by simp [KG]);have ea:((a:Int)+ (k:Int)).toNat=P.length+k:=by omega
  have eb:((b:Int)+ (k:Int)).toNat=P.length+X.length+M.length+k:=by omega
  generalize hL:P++ (Y.take k++X.drop k)++M++ (X.take k++Y.drop k)++S=L at*;have Bs:L.length=n:=hR.1;refine dA O ?_;refine kK [21,23] [yS (A) (n) (c),yI ((a:Int)),yI ((k:Int)),yI (((a:Int))+ ((k:Int))),yS (A) (n) (c),yI ((b:Int)),yI ((k:Int)),yI (((b:Int))+ ((k:Int))),yS (A) (n) (c),yI ((b:Int)),yI ((k:Int)),yI (((b:Int))+ ((k:Int))),yP (aJ (A) ((((b:Int))+ ((k:Int))).toNat*3)),.ex ((tg (L) (((b:Int))+ ((k:Int)))).v),yS (A) (n) (c),yI ((a:Int)),yI ((k:Int)),yI (((a:Int))+ ((k:Int))),yP (aJ (A) ((((a:Int))+ ((k:Int))).toNat*3)),.ex ((tg (L) (((a:Int))+ ((k:Int)))).v),yP (aJ (A) ((((a:Int))+ ((k:Int))).toNat*3)),.pr (fun _ w'=>St w0 w' (dU t A n c (L.set (P.length+k) Y[k])::ks)),yP (aJ (A) ((((b:Int))+ ((k:Int))).toNat*3)),.pr (fun _ w'=>St w0 w' (dU t A n c ((L.set (P.length+k) Y[k]).set (P.length+X.length+M.length+k) X[k])::ks))] (by kernel_rfl) (by kernel_rfl) (ly (ly (ly (ly (ly (ly (ly (ly (ly (ly (ly (ly (ly (ly (ly (ly (ly (ly (ly (ly (ly (cI.2 ⟨Ye.cV (fun v w w' h hb=>h.aq hb),(ly (cI.2 ⟨Ye.cV (fun v w w' h hb=>h.aq hb),(fun _ h=>by cases h)⟩))⟩)))))))))))))))))))))) ?_ ?_
  ·refine⟨bZ O,bZ O,bZ O,aP fun _ _=>aK O (bK O O),bZ O,bZ O,bZ O,aP fun _ _=>aK O (bK O O),bZ O,bZ O,bZ O,aP fun _ _=>aK O (bK O O),cP fun _ _ hb _ _ _=>ke (hR.aq hb) O (bK O O),cP fun _ _ hb _ _ _=>og (hR.aq hb) O (by omega) O (bK O O),bZ O,bZ O,bZ O,aP fun _ _=>aK O (bK O O),cP fun _ _ hb _ _ _=>ke (hR.aq hb) O (bK O O),cP fun _ _ hb _ _ _=>og (hR.aq hb) O (by omega) O (bK O O),cP fun _ _ hb _ _ _=>ke (hR.aq hb) O (bK O O),?_,?_,?_,av⟩
   ·refine kQ fun e1 w1 hb hp a6 hq=>?_
    exact wX 0 (aA.aq hb) O O O (by omega) fun w6 ba=>ao.n (fQ.st O (yj ea gb ba))
   ·refine dP 1 fun e1 w1 hp a6 hq=>?_
    have eP:=hp 21 _ _ (by kernel_rfl) O O (by kernel_rfl);have iI:=eP.jH 0 O;refine ke (iI) O (ao.n (ig O (by exact O)))
   refine qM 1 fun e1 w1 hp a6 hq=>?_
   have eP:=hp 21 _ _ (by kernel_rfl) O O (by kernel_rfl);have iI:=eP.jH 0 O;exact wX 0 eP O O O (by omega) fun w7 bG=>ao.n (fQ.st O (yj eb ga bG))
  intro u w5 _ hu _ _;have aW:=hu 23 _ O (by kernel_rfl);rw [hx]at aW;refine kc O (aK O (aU O (tQ ?_)));exact⟨k+1,by show m - (k+1)<m - k;omega,(ajs O),by omega,aW⟩
 have QG:k=m:=by omega
 subst QG;rw [jW (by omega),jW (by omega),List.drop_eq_nil_of_le (by omega),List.drop_eq_nil_of_le (by omega),fM,fM]at aA;refine bw O (bz (CU O ?_));exact wI ⟨O,aA⟩
theorem afY{A:aj}{n c:Nat}{P X Y S:List TV}{G:FuncId}(a m b:Nat)(ha:P.length=a)(hm:P.length+X.length=m)(hb:P.length+X.length+Y.length=b)(qn:0<X.length)(Hm:0<Y.length)(hn:n<=4000000000000)(hS:St w0 w (dU t A n c (P++ (X++ (Y++S)))::ks)):
 aG prog 316 [.slice A n c,ak a,ak m,ak b,.func (.func G) #[] #[]] w (fun v w'=>v= .tuple #[]/\St w0 w' (dU t A n c (P++ (Y++ (X++S)))::ks)):=by
 have uj:(P++ (X++ (Y++S))).length=n:=(hS.jH 0 O).1;simp only [cS]at uj;generalize hT:P++ (Y++ (X++S))=T;refine bA func316 O ntmps316 O (zJ O) ?_;refine a8 O (dQ O (ar O (dQ O (aI O ?_))));refine Cd.loop (α:=List TV×List TV×List TV×List TV) (fun z=> [(0,.slice A n c),(2,ak m),(4,.func (.func G) #[] #[]),(10,ak (z.2.1.length:Int)),(11,ak (z.2.2.1.length:Int))]) (fun z w'=>z.1.length+z.2.1.length=m/\0<z.2.1.length/\0<z.2.2.1.length/\z.1++ (z.2.2.1++ (z.2.1++z.2.2.2))=T/\z.1.length+ (z.2.1.length+ (z.2.2.1.length+z.2.2.2.length))=n/\St w0 w' (dU t A n c (z.1++ (z.2.1++ (z.2.2.1++z.2.2.2)))::ks)) (fun z=>z.2.1.length+z.2.2.1.length) (P,X,Y,S)
  ⟨rfl,rfl,rfl,by show Value.int .i64 ((m:Int) - (a:Int))=ak (X.length:Int);congr 1;omega,by show Value.int .i64 ((b:Int) - (m:Int))=ak (Y.length:Int);congr 1;omega,av⟩ ⟨hm,qn,Hm,hT,by show P.length+ (X.length+ (Y.length+S.length))=n;omega,hS⟩ ?_
 rintro⟨P',X',Y',S'⟩ e w1 ⟨iO,dH,kq,se,qj,aA⟩;dsimp only at iO dH kq se qj aA|-;refine bL O (aR _ O (fun h1=>?_) (fun h1=>?_))
 ·refine dA O (aR _ O (fun h2=>?_) (fun h2=>?_))
  ·have hj:Y'.length<=X'.length:=by omega
   obtain⟨X1,X2,rfl,u7⟩:∃X1 X2,X'=X1++X2/\X1.length=Y'.length:=⟨X'.take Y'.length,X'.drop Y'.length,(List.take_append_drop _ _).symm,by simp;omega⟩;have hlen:(X1++X2).length=X1.length+X2.length:=cS;simp only [cS]at iO dH qj h1 h2;refine aE O (dQ O (ar O ?_));refine ajj (Mq (P:=P') (X:=X1) (M:=X2) (Y:=Y') (S:=S') P'.length m Y'.length O (by omega) u7 u7 hn (by simpa using aA)) O (by show [Value.slice A n c,ak ((m:Int) - ((X1++X2).length:Int)),ak m,ak (Y'.length:Int),.func (.func G) #[] #[]]=_;congr 3;simp;omega) O ?_;rintro _ w2 ⟨rfl,aB⟩;refine ar O (dQ O (aU O (tQ ?_)));exact⟨(P'++Y',X2,X1,S'),by show X2.length+X1.length< (X1++X2).length+Y'.length;simp;omega,⟨O,O,O,by show Value.int .i64 _=ak _;congr 1;simp;omega,aO (fun k:Nat=>Value.int .i64 (k:Int)) u7.symm,av⟩,by simp;omega,by show 0<X2.length;omega,by show 0<X1.length;omega,by show(P'++Y')++ (X1++ (X2++S'))=T;rw [<-se];simp,by show(P'++Y').length+_=n;simp;omega,by simpa using aB⟩
  have hj:X'.length<Y'.length:=by omega
  obtain⟨Y1,Y2,rfl,DN⟩:∃Y1 Y2,Y'=Y1++Y2/\Y2.length=X'.length:=⟨Y'.take (Y'.length - X'.length),Y'.drop (Y'.length - X'.length),(List.take_append_drop _ _).symm,by simp;omega⟩;have hlen:(Y1++Y2).length=Y1.length+Y2.length:=cS;simp only [cS]at kq qj h1 h2 hj;refine aE O (dQ O (ar O (aK O (ar O (dQ O (ar O ?_))))));refine ajj (Mq (P:=P') (X:=X') (M:=Y1) (Y:=Y2) (S:=S') P'.length (m+Y1.length) X'.length O (by omega) O DN.symm hn (by simpa using aA)) O (by show [Value.slice A n c,ak ((m:Int) - (X'.length:Int)),ak ((m:Int)+ ((Y1++Y2).length:Int) - (X'.length:Int)),ak (X'.length:Int),.func (.func G) #[] #[]]=_;rw [show(m:Int)+ ((Y1++Y2).length:Int) - (X'.length:Int)=((m+Y1.length:Nat):Int) by omega,show(m:Int) - (X'.length:Int)=(P'.length:Int) by omega]) O ?_;rintro _ w2 ⟨rfl,aB⟩;refine ar O (dQ O (aU O (tQ ?_)));exact⟨(P',Y2,Y1,X'++S'),by show Y2.length+Y1.length<X'.length+ (Y1++Y2).length;simp;omega,⟨O,O,O,aO (fun k:Nat=>Value.int .i64 (k:Int)) DN.symm,by show Value.int .i64 _=ak _;congr 1;simp;omega,av⟩,by show P'.length+Y2.length=m;omega,by show 0<Y2.length;omega,by show 0<Y1.length;omega,by show P'++ (Y1++ (Y2++ (X'++S')))=T;rw [<-se];simp,by show P'.length+ (Y2.length+ (Y1.length+ (X'++S').length))=n;simp;omega,by simpa using aB⟩
 have jl:X'.length=Y'.length:=by omega
 refine bw O (bz (dh O (dQ O (ar O ?_))));refine ajj (Mq (P:=P') (X:=X') (M:=[]) (Y:=Y') (S:=S') P'.length m X'.length O (by simpa using iO) O jl hn (by simpa using aA)) O (by show [Value.slice A n c,ak ((m:Int) - (X'.length:Int)),ak m,ak (X'.length:Int),.func (.func G) #[] #[]]=_;congr 3;omega) O ?_;rintro _ w2 ⟨rfl,aB⟩;refine aU O (wI ?_);exact⟨O,by rw [<-se];simpa using aB⟩
theorem RJ{A:aj}{n c:Nat}{ds:List TV}(a b:Nat)(hb:b<=n)(ha:a<=n)(hn:n<=4000000000000)(hc:∀s∈ds,pk s)(wj:∀x y,a<=x->x<y->y<b->lT (gs ds x)<lT (gs ds y))(hS:St w0 w (dU t A n c ds::ks)):
 aG prog 304 [.slice A n c,ak a,ak b,.func (.func 263) #[] #[]] w (fun v w'=>v= .tuple #[]/\∃lz,RP ds lz a b/\SR kT lz a b/\St w0 w' (dU t A n c lz::ks)):=by
 have uj:ds.length=n:=(hS.jH 0 O).1;refine bA func304 O ntmps304 O (zJ O) ?_;refine a8 O (aK O (aI O ?_));refine Cd.loop (α:=Nat×List TV) (fun z=> [(0,.slice A n c),(1,ak a),(2,ak b),(3,.func (.func 263) #[] #[]),(8,ak (z.1:Int))]) (fun z w'=>a+1<=z.1/\RP ds z.2 a b/\SR kT z.2 a z.1/\(∀x,z.1<=x->gs z.2 x=gs ds x)/\(∀x y,a<=x->x<z.1->z.1<=y->y<b->lT (gs z.2 x)<lT (gs ds y))/\St w0 w' (dU t A n c z.2::ks)) (fun z=>b - z.1) (a+1,ds) (ajs O) ⟨bj _,RP.refl _ _ _,SR.one _ _ (bj _),fun _ _=>O,fun x y h1 h2 h3 h4=>wj x y h1 (Nat.lt_of_lt_of_le h2 h3) h4,hS⟩ ?_;rintro⟨i,cur⟩ e w1 ⟨hi,hp,hs,a6,QN,aA⟩;dsimp only at hi hp hs a6 QN aA|-;refine bL O (aR _ O (fun h1=>?_) (fun h1=>?_))
 ·refine dA O ?_;refine Cd.loop (α:=Nat×List TV) (fun z=> [(0,.slice A n c),(1,ak a),(2,ak b),(3,.func (.func 263) #[] #[]),(8,ak i),(9,ak (z.1:Int))]) (fun z w'=>RP ds z.2 a b/\uK kT z.2 a i z.1/\gs z.2 z.1=gs ds i/\(∀x,i<x->gs z.2 x=gs ds x)/\(∀x y,a<=x->x<=i->x≠z.1->i<=y->y<b->lT (gs z.2 x)<lT (gs ds y))/\St w0 w' (dU t A n c z.2::ks)) (fun z=>z.1) (i,cur) (ajs O) ⟨hp,uK.start hs (by omega),a6 i (bj _),fun x hx=>a6 x (Nat.le_of_lt hx),fun x y h3 h4 h5 h6 h7=>QN x y h3 (by have h5:x≠i:=h5;omega) h6 h7,aA⟩ ?_;rintro⟨j,cu⟩ e w2 ⟨jj,hI,jv,Hi,BZ,aB⟩;dsimp only at jj hI jv Hi BZ aB|-;have dt:cu.length=n:=(aB.jH 0 O).1;have hR:=aB.jH 0 O;have QJ:=hI.low;have hhigh:=hI.high;have va:=Pg (jj.cap hc);refine bL O ?_
  by_cases PY:a<j
  ·
   have ej:((j:Int) - 1).toNat=j - 1:=by omega
   have g1:tg cu j=gs cu j:=O;have g2:tg cu ((j:Int) - 1)=gs cu (j - 1):=by unfold tg gs;rw [ej]
   refine eY [xI ((j:Int)),xI ((a:Int)),xB (decide (((a:Int))< ((j:Int)))),xB (true),.ex (.func (.func 263) #[] #[]),xS (A) (n) (c),xI ((j:Int)),xP (aJ (A) (((j:Int)).toNat*3)),.ex ((tg (cu) ((j:Int))).v),xS (A) (n) (c),xI ((j:Int)),xI (((j:Int)) - ((1:Int))),xP (aJ (A) ((((j:Int)) - ((1:Int))).toNat*3)),.ex ((tg (cu) (((j:Int)) - ((1:Int)))).v),xI (qL (gs cu j) (gs cu (j - 1))),xB (decide ((qL (gs cu j) (gs cu (j - 1)))< ((0:Int)))),xB (decide ((qL (gs cu j) (gs cu (j - 1)))< ((0:Int))))] O (fE O) ?_ ?_
   ·refine⟨Dr O,Dr O,Dr O,fun _ _ _ _ _=>Dk O (by exact aO Value.bool (eM (by omega))),Dr O,Dr O,Dr O,fun _ _ hb _ _=>ax O (ke (hR.aq hb) O Az),fun _ _ hb _ _=>ax O (og (hR.aq hb) O (by omega) O Az),Dr O,Dr O,fun _ _ _ _ _=>ax O (dQ O Az),fun _ _ hb _ _=>ax O (ke (hR.aq hb) O Az),fun _ _ hb _ _=>ax O (og (hR.aq hb) O (by omega) O Az),?_,Dr O,Dr O,av⟩;intro e1 w1 hb hp a6;refine ax O ?_;refine ajj (FK (gs cu j) (gs cu (j - 1)) _) O (by rw [<-g2];rfl) O ?_;rintro _ w9 ⟨rfl,gO⟩;refine ao.n ?_;exact gz.dn gO.below (by exact O)
   intro u w3 iJ _;have aH:=aB.aq iJ;have vZ:=NO (va j) (va (j - 1)) (by rw [jv];exact BZ (j - 1) i (by omega) (by omega) (by omega) (bj _) (by omega));refine fR O (aR _ O (fun h2=>?_) (fun h2=>?_))
   ·have dF:=aH.jH 0 O;have eO:kT (gs cu j)<kT (gs cu (j - 1)):=vZ.1 h2;have JL:=fun x=>Dy (l:=cu) (i:=j) (j:=j - 1) (by omega) (by omega) x
    refine dA O ?_;refine kK [15,17] [yS (A) (n) (c),yI ((j:Int)),yS (A) (n) (c),yI ((j:Int)),yI (((j:Int)) - ((1:Int))),yS (A) (n) (c),yI ((j:Int)),yI (((j:Int)) - ((1:Int))),yP (aJ (A) ((((j:Int)) - ((1:Int))).toNat*3)),.ex ((tg (cu) (((j:Int)) - ((1:Int)))).v),yS (A) (n) (c),yI ((j:Int)),yP (aJ (A) (((j:Int)).toNat*3)),.ex ((tg (cu) ((j:Int))).v),yP (aJ (A) (((j:Int)).toNat*3)),.pr (fun _ w'=>St w0 w' (dU t A n c (cu.set j (gs cu (j - 1)))::ks)),yP (aJ (A) ((((j:Int)) - ((1:Int))).toNat*3)),.pr (fun _ w'=>St w0 w' (dU t A n c (swp cu j (j - 1))::ks))] (by kernel_rfl) (by kernel_rfl) (ly (ly (ly (ly (ly (ly (ly (ly (ly (ly (ly (ly (ly (ly (ly (cI.2 ⟨Ye.cV (fun v w w' h hb=>h.aq hb),(ly (cI.2 ⟨Ye.cV (fun v w w' h hb=>h.aq hb),(fun _ h=>by cases h)⟩))⟩)))))))))))))))) ?_ ?_
    ·refine⟨bZ O,bZ O,bZ O,bZ O,aP fun _ _=>dQ O (bK O O),bZ O,bZ O,aP fun _ _=>dQ O (bK O O),cP fun _ _ hb _ _ _=>ke (dF.aq hb) O (bK O O),cP fun _ _ hb _ _ _=>og (dF.aq hb) O (by omega) O (bK O O),bZ O,bZ O,cP fun _ _ hb _ _ _=>ke (dF.aq hb) O (bK O O),cP fun _ _ hb _ _ _=>og (dF.aq hb) O (by omega) O (bK O O),cP fun _ _ hb _ _ _=>ke (dF.aq hb) O (bK O O),?_,?_,?_,av⟩
     ·refine kQ fun e1 w1 hb hp a6 hq=>?_
      exact wX 0 (aH.aq hb) O O O (by omega) fun w6 ba=>ao.n (fQ.st O (yj (i:=(j:Int)) O g2 ba))
     ·refine dP 1 fun e1 w1 hp a6 hq=>?_
      have eP:=hp 15 _ _ (by kernel_rfl) O O (by kernel_rfl);have iI:=eP.jH 0 O;have wc:(cu.set j (gs cu (j - 1))).length=n:=by rw [lp];exact dt
      refine ke (iI) O (ao.n (ig O (by exact O)))
     refine qM 1 fun e1 w1 hp a6 hq=>?_
     have eP:=hp 15 _ _ (by kernel_rfl) O O (by kernel_rfl);have iI:=eP.jH 0 O;have wc:(cu.set j (gs cu (j - 1))).length=n:=by rw [lp];exact dt
     exact wX 0 eP O O O (by omega) fun w7 bG=>ao.n (fQ.st O (yj ej g1 bG))
    intro u w5 _ hu _ _;have aW:=hu 17 _ O (by kernel_rfl);refine kc O (dQ O (aU O (tQ ?_)));exact⟨(j - 1,swp cu j (j - 1)),by show j - 1<j;omega,⟨O,O,O,O,O,by show Value.int .i64 _=ak _;congr 1;omega,av⟩,jj.trans (Mr (by omega) (by omega) (Nat.le_of_lt PY) (by omega) (by omega) (by omega)) (bj _) (bj _),hI.next PY (by omega) eO,by show gs (swp cu j (j - 1)) (j - 1)=_;rw [JL,ay O];exact jv,fun x hx=>by rw [JL,aw (by omega),aw (by omega)];exact Hi x hx,fun x y h3 h4 h5 h6 h7=>by { have h5:x≠j - 1:=h5;rw [JL,aw h5];by_cases e:x=j; { rw [ay e];exact BZ (j - 1) y (by omega) (by omega) (by omega) h6 h7 }; { rw [aw e];exact BZ x y h3 h4 e h6 h7 } },aW⟩
   refine bw O (bz (dh O (aK O (aU O (tQ ?_)))));exact⟨(i+1,cu),by show b - (i+1)<b - i;omega,(ajs O),by show a+1<=i+1;omega,jj,hI.stop (.inr (Int.not_lt.1 fun h=>h2 (vZ.2 h))),fun x hx=>Hi x (by have hx:i+1<=x:=hx;omega),fun x y h3 h4 h5 h6=>by { have h4:x<i+1:=h4;have h5:i+1<=y:=h5;by_cases e:x=j; { rw [e,jv];exact wj i y (by omega) (by omega) h6 }; { exact BZ x y h3 (by omega) e (by omega) h6 } },aH⟩
  refine eY [xI ((j:Int)),xI ((a:Int)),xB (decide (((a:Int))< ((j:Int)))),xB (false),xU,xU,xU,xU,xU,xU,xU,xU,xU,xU,xU,xU,xB (false)] O (fE O) ?_ ?_
  ·exact⟨Dr O,Dr O,Dr O,fun _ _ _ _ _=>Dk O (by exact aO Value.bool (dE (by omega))),Dr O,Dr O,Dr O,Dr O,Dr O,Dr O,Dr O,Dr O,Dr O,Dr O,Dr O,Dr O,Dr O,av⟩
  intro u w3 iJ _;have aH:=aB.aq iJ;refine fR O (Cd.gh O ?_);refine bw O (bz (dh O (aK O (aU O (tQ ?_)))));exact⟨(i+1,cu),by show b - (i+1)<b - i;omega,(ajs O),by show a+1<=i+1;omega,jj,hI.stop (.inl (by omega)),fun x hx=>Hi x (by have hx:i+1<=x:=hx;omega),fun x y h3 h4 h5 h6=>by { have h4:x<i+1:=h4;have h5:i+1<=y:=h5;by_cases e:x=j; { rw [e,jv];exact wj i y (by omega) (by omega) h6 }; { exact BZ x y h3 (by omega) e (by omega) h6 } },aH⟩
 refine bw O (bz (CU O ?_));exact wI ⟨O,cur,hp,hs.sub (bj _) (by omega),aA⟩
end Go.Proofs.YtagdamiiececaaaGreatDoor.Vc.TS
namespace Go.Proofs.YtagdamiiececaaaGreatDoor.Vc
open TS Tryz
def oK(m1 m2:Nat)(kind:Int)(a b:Int):Prop:=
 if kind=1 then(a=0\/b=0\/(a=(m1:Int) - 1/\b=(m2:Int) - 1))else if kind=2 then(a=(m1:Int) - 1\/b=(m2:Int) - 1\/(a=0/\b=0))else((a=0/\b=0)\/(a=(m1:Int) - 1/\b=(m2:Int) - 1))
instance (m1 m2:Nat)(kind a b:Int):Decidable (oK m1 m2 kind a b):=by unfold oK;infer_instance
def uR(m1 m2:Nat)(kind:Int)(a:Int)(b:Nat):List (Int×Int):=((bN b).filter fun b=>decide (¬oK m1 m2 kind a b)).map fun b=> (a,b)
def gv(m1 m2:Nat)(kind:Int)(a b:Nat):List (Int×Int):=(bN a).flatMap (fun a=>uR m1 m2 kind a m2)++uR m1 m2 kind a b
def qB(rk1 rk2:Int->Int)(kind:Int)(c:Int×Int):TV:=⟨c.1,c.2,cg rk1 rk2 kind c⟩
section
variable {m1 m2:Nat} {kind:Int} {n1 n2:Int} {rk1 rk2:Int->Int} {b9 b6:Int->Int->Prop}
theorem uC(n:Nat):bN (n+1)=bN n++ [(n:Int)]:=by
 unfold bN;rw [lN,jb];rfl
theorem Fs(a:Int):uR m1 m2 kind a 0=[]:=rfl
theorem IG(a:Nat):gv m1 m2 kind (a+1) 0=gv m1 m2 kind a m2:=by
 unfold gv;rw [uC,List.flatMap_append,Fs,fM];simp
theorem VL{a b:Nat}(h:¬oK m1 m2 kind a b):gv m1 m2 kind a (b+1)=gv m1 m2 kind a b++ [((a:Int),(b:Int))]:=by
 unfold gv uR;rw [uC,sP,jb,jy];simp [h]
theorem VM{a b:Nat}(h:oK m1 m2 kind a b):gv m1 m2 kind a (b+1)=gv m1 m2 kind a b:=by
 unfold gv uR;rw [uC,sP,jb];simp [h]
theorem Ni(a:Int)(b:Nat):(uR m1 m2 kind a b).length<=b:=by
 unfold uR;rw [fk];refine nv (rM _ _) ?_;rw [bN,fk,pU];exact bj _
theorem Nh:∀a b:Nat,b<=m2->(gv m1 m2 kind a b).length<=a*m2+b:=by
 intro a
 induction a with
 | zero=>intro b hb;have:=Ni (m1:=m1) (m2:=m2) (kind:=kind) ((0:Nat):Int) b;simpa [gv,bN]using this
 | succ a ih=>
  intro b hb;have h1:=ih m2 (bj _);rw [<-IG]at h1;have h2:=Ni (m1:=m1) (m2:=m2) (kind:=kind) ((a+1:Nat):Int) b;unfold gv at h1|-;rw [Fs,fM]at h1;rw [cS,Nat.succ_mul];omega
theorem IE{c:Int×Int}:c∈gv m1 m2 kind m1 0↔(0<=c.1/\c.1<m1)/\(0<=c.2/\c.2<m2)/\¬oK m1 m2 kind c.1 c.2:=by
 unfold gv;rw [Fs,fM,List.mem_flatMap];unfold uR;constructor
 ·rintro⟨a,ha,h⟩;obtain⟨b,hb,rfl⟩:=db.1 h;rw [fT,gL,kU]at hb;exact⟨(gL _ _).1 ha,hb.1,hb.2⟩
 rintro⟨h1,h2,h3⟩;exact⟨c.1,(gL _ _).2 h1,db.2 ⟨c.2,fT.2 ⟨(gL _ _).2 h2,eM h3⟩,O⟩⟩
theorem IF(h:m2<=1000):(gv m1 m2 kind m1 0).Pairwise fun c d=>c.1*1000+c.2<d.1*1000+d.2:=by
 unfold gv;rw [Fs,fM];refine List.pairwise_flatMap.2 ⟨fun a _=>?_,(ky m1).imp_of_mem fun {a a'} ha xz eO x hx y hy=>?_⟩
 ·unfold uR;refine kM.2 (((ky m2).filter _).imp fun h=>?_);show a*1000+_<a*1000+_;omega
 unfold uR at hx hy;obtain⟨b,hb,rfl⟩:=db.1 hx;obtain⟨b',sf,rfl⟩:=db.1 hy;have h1:=(gL _ _).1 (fT.1 hb).1;have h2:=(gL _ _).1 (fT.1 sf).1;show a*1000+b<a'*1000+b';omega
theorem Sa(h1:fz m1 n1 rk1 b9)(h2:fz m2 n2 rk2 b6)(hk:0<=kind/\kind<=2){k:Nat}(hn:(k:Int)=iw n1 n2 kind){c:Int×Int}:((0<=c.1/\c.1<m1)/\(0<=c.2/\c.2<m2)/\¬oK m1 m2 kind c.1 c.2)↔∃i:Nat,i<k/\l8 m1 m2 rk1 rk2 kind i c:=by
 have z1:=h1.r0;have z2:=h2.r0;have t1:=h1.rt;have t2:=h2.rt;have w1:=h1.two;have w2:=h2.two;have m1n:=h1.n0;have m2n:=h2.n0;obtain⟨a,b⟩:=c;show((0<=a/\a<m1)/\(0<=b/\b<m2)/\¬oK m1 m2 kind a b)↔∃i:Nat,i<k/\(0<=a/\a<m1)/\(0<=b/\b<m2)/\rk1 a+rk2 b+eS kind=i/\¬((kind=1/\(a=0\/b=0))\/(kind=2/\(a=(m1:Int) - 1\/b=(m2:Int) - 1)));unfold iw at hn;constructor
 ·rintro⟨ha,hb,hl⟩;have ra:=h1.cj ha;have rb:=h2.cj hb;have za:=fun h=>h1.zero ha h;have zb:=fun h=>h2.zero hb h
  have ta:=fun h=>h1.whole ha h;have tb:=fun h=>h2.whole hb h
  unfold oK at hl;unfold eS
  by_cases k1:kind=1
  ·rw [ay k1]at hl;rw [aw (by omega)]at hn;refine⟨(rk1 a+rk2 b).toNat,?_,ha,hb,?_,by omega⟩
   ·have:¬(rk1 a=n1/\rk2 b=n2):=fun h=>hl (.inr (.inr ⟨ta h.1,tb h.2⟩))
    omega
   rw [ay k1];have:rk1 a≠ -1:=fun h=>hl (.inl (za h))
   have:rk2 b≠ -1:=fun h=>hl (.inr (.inl (zb h)))
   omega
  rw [aw k1]at hl|-
  by_cases k2:kind=2
  ·rw [ay k2]at hl;rw [aw (by omega)]at hn;have q1:rk1 a≠n1:=fun h=>hl (.inl (ta h))
   have q2:rk2 b≠n2:=fun h=>hl (.inr (.inl (tb h)))
   have q3:¬(rk1 a= -1/\rk2 b= -1):=fun h=>hl (.inr (.inr ⟨za h.1,zb h.2⟩))
   exact⟨(rk1 a+rk2 b+1).toNat,by omega,ha,hb,by omega,by omega⟩
  rw [aw k2]at hl;rw [ay (by omega)]at hn;have q3:¬(rk1 a= -1/\rk2 b= -1):=fun h=>hl (.inl ⟨za h.1,zb h.2⟩)
  have q4:¬(rk1 a=n1/\rk2 b=n2):=fun h=>hl (.inr ⟨ta h.1,tb h.2⟩)
  exact⟨(rk1 a+rk2 b+1).toNat,by omega,ha,hb,by omega,by omega⟩
 rintro⟨i,hi,ha,hb,hr,he⟩;refine⟨ha,hb,fun hl=>?_⟩;have ra:=h1.cj ha;have rb:=h2.cj hb;unfold eS at hr;unfold oK at hl
 by_cases k1:kind=1
 ·rw [ay k1]at hl hr;rw [aw (by omega)]at hn;rcases hl with h | h | ⟨h,h'⟩
  ·exact he (.inl ⟨k1,.inl h⟩)
  ·exact he (.inl ⟨k1,.inr h⟩)
  rw [h,h',t1,t2]at hr;omega
 rw [aw k1]at hl hr
 by_cases k2:kind=2
 ·rw [ay k2]at hl;rcases hl with h | h | ⟨h,h'⟩
  ·exact he (.inr ⟨k2,.inl h⟩)
  ·exact he (.inr ⟨k2,.inr h⟩)
  rw [h,h',z1,z2]at hr;omega
 rw [aw k2]at hl;rw [ay (by omega)]at hn;rcases hl with⟨h,h'⟩ | ⟨h,h'⟩
 ·rw [h,h',z1,z2]at hr;omega
 rw [h,h',t1,t2]at hr;omega
end
theorem SZ{α:Type}(k:α->Int):∀ {l' l:List α},l.Perm l'->l.Pairwise (fun x y=>k x<=k y)->l'.Pairwise (fun x y=>k x<k y)->l=l'
 | [],l,h,_,_=>h.eq_nil
 | b::r',l,h,h1,h2=>by
  cases l with
  | nil=>exact absurd h.symm.eq_nil (by simp)
  | cons a r=>
   have dN:a=b:=by
    have ha:a∈b::r':=h.subset (List.mem_cons_self ..);have hb:b∈a::r:=h.symm.subset (List.mem_cons_self ..);rcases jq.1 ha with e | e
    ·exact e
    ·have h3:=(List.pairwise_cons.1 h2).1 a e;rcases jq.1 hb with e' | e'
     ·exact e'.symm
     ·have h4:=(List.pairwise_cons.1 h1).1 b e';omega
   subst dN;rw [SZ k (h.cons_inv) (List.pairwise_cons.1 h1).2 (List.pairwise_cons.1 h2).2]
theorem afd{m1 m2:Nat}{rk1 rk2:Int->Int}{kind:Int}{i:Int}(h:m2<=1000):(zK m1 m2 rk1 rk2 kind i).Pairwise fun c d=>c.1*1000+c.2<d.1*1000+d.2:=by
 unfold zK;refine List.pairwise_flatMap.2 ⟨fun a _=>?_,(ky m1).imp_of_mem fun {a a'} ha xz eO x hx y hy=>?_⟩
 ·refine kM.2 (((ky m2).filter _).imp fun h=>?_);show a*1000+_<a*1000+_;omega
 obtain⟨b,hb,rfl⟩:=db.1 hx;obtain⟨b',sf,rfl⟩:=db.1 hy;have h1:=(gL _ _).1 (fT.1 hb).1;have h2:=(gL _ _).1 (fT.1 sf).1;show a*1000+b<a'*1000+b';omega
theorem Tb{m1 m2:Nat}{rk1 rk2:Int->Int}{kind:Int}(h:m2<=1000)(h1:m1<=1000):∀k:Nat,((b5 m1 m2 rk1 rk2 kind k).map (qB rk1 rk2 kind)).Pairwise fun x y=>kT x<kT y
 | 0=>List.Pairwise.nil
 | k+1=>by
  rw [b5,jb,List.pairwise_append];refine⟨Tb h h1 k,kM.2 ((afd h).imp_of_mem fun {c d} hc hd eO=>?_),fun x hx y hy=>?_⟩
  ·have e1:=(yf.1 hc).2.2.1;have e2:=(yf.1 hd).2.2.1;show(cg rk1 rk2 kind c)*1000000+ (c.1*1000+c.2)< (cg rk1 rk2 kind d)*1000000+ (d.1*1000+d.2);omega
  ·obtain⟨c,hc,rfl⟩:=db.1 hx;obtain⟨d,hd,rfl⟩:=db.1 hy;obtain⟨i,hi,hc⟩:=sF.1 hc;have hd:=yf.1 hd;have e1:=hc.2.2.1;have e2:=hd.2.2.1;have:=hc.1;have:=hc.2.1;have:=hd.1;have:=hd.2.1;show(cg rk1 rk2 kind c)*1000000+ (c.1*1000+c.2)< (cg rk1 rk2 kind d)*1000000+ (d.1*1000+d.2);omega
theorem VK{m1 m2:Nat}{kind:Int}{n1 n2:Int}{rk1 rk2:Int->Int}{b9 b6:Int->Int->Prop}(h1:fz m1 n1 rk1 b9)(h2:fz m2 n2 rk2 b6)(hk:0<=kind/\kind<=2){k:Nat}(hn:(k:Int)=iw n1 n2 kind)(rr:m2<=1000):(gv m1 m2 kind m1 0).Perm (b5 m1 m2 rk1 rk2 kind k):=by
 refine(rN ?_ (EO k)).2 fun c=>?_
 ·exact(IF rr).imp fun h e=>by rw [e]at h;omega
 rw [IE,sF];exact Sa h1 h2 hk hn
theorem agV(f:Int×Int->TV)(L:List (Int×Int)){i:Nat}(h:i<L.length):tg (L.map f) i=f (gp L i):=by
 rw [s5 h];unfold tg;rw [gG,cN,fS (by simpa using h),Option.getD_some,List.getElem_map]
theorem agW(L:List TV){i j:Nat}(h:j<i)(hi:i<=L.length):tg (L.take i) j=tg L j:=by
 unfold tg;rw [gG,cN,cN,List.getElem?_take_of_lt h]
theorem agA{m1 m2:Nat}{kind:Int}{n1 n2:Int}{rk1 rk2:Int->Int}{b9 b6:Int->Int->Prop}(h1:fz m1 n1 rk1 b9)(h2:fz m2 n2 rk2 b6)(hk:0<=kind/\kind<=2){k:Nat}(hn:(k:Int)=iw n1 n2 kind)(zl:m1<=1000)(rr:m2<=1000){ds:List TV}(hp:ds.Perm ((gv m1 m2 kind m1 0).map (qB rk1 rk2 kind)))(hs:SR kT ds 0 ds.length):ds=(b5 m1 m2 rk1 rk2 kind k).map (qB rk1 rk2 kind):=by
 have hP:(gv m1 m2 kind m1 0).Perm (b5 m1 m2 rk1 rk2 kind k):=by
  refine(rN ?_ (EO k)).2 fun c=>?_
  ·exact(IF rr).imp fun h e=>by rw [e]at h;omega
  rw [IE,sF];exact Sa h1 h2 hk hn
 refine SZ kT (hp.trans (hP.map _)) ?_ (Tb rr zl k);refine List.pairwise_iff_getElem.2 fun i j hi hj gU=>?_
 have:=hs i j (a7 _) gU hj
 rwa [r8 hi,r8 hj]at this
theorem VJ(m1 m2:Nat)(kind:Int)(rk1 rk2:Int->Int)(zl:m1<=1000)(rr:m2<=1000):(∀s∈(gv m1 m2 kind m1 0).map (qB rk1 rk2 kind),pk s)/\∀x y,x<y->y< ((gv m1 m2 kind m1 0).map (qB rk1 rk2 kind)).length->lT (gs ((gv m1 m2 kind m1 0).map (qB rk1 rk2 kind)) x)<lT (gs ((gv m1 m2 kind m1 0).map (qB rk1 rk2 kind)) y):=by
 constructor
 ·intro s hs;obtain⟨c,hc,rfl⟩:=db.1 hs;have:=IE.1 hc;show(0<=c.1/\c.1<1000)/\0<=c.2/\c.2<1000;omega
 intro x y jl hy;rw [r8 (by omega),r8 hy,List.getElem_map,List.getElem_map];rw [fk]at hy;exact List.pairwise_iff_getElem.1 (IF (m1:=m1) (kind:=kind) rr) x y (by omega) hy jl
end Go.Proofs.YtagdamiiececaaaGreatDoor.Vc
