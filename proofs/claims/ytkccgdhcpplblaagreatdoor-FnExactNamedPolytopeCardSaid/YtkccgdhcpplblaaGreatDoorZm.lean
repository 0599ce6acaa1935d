/-
 Lemmas. Conditions: as each states them.
-/
import Derived.Test.YtkccgdhcpplblaaGreatDoorZl
import Derived.Deep.Matrix
import Derived.ChangeSame
import Derived.ProofKit
import Derived.OpenShut
import Derived.Handed
import Derived.Lib.SmallJoins
import Derived.Lib.LaidTab
import Derived.ChangeVars
import Derived.LaidLaws
set_option maxHeartbeats 8000000
namespace Go.Proofs.YtkccgdhcpplblaaGreatDoor.Vc
open Tryz
section
open Go.RowKit
variable{q j k i t:Nat}{seen l:List Nat}
theorem Ur:∀(a b:List PV) (M:ai),sG (a++b) M=sG b (sG a M)
 | [],_,_=>rfl
 | s::r,b,M=>Ur r b _
theorem PW(V:ai):∀(a b:List PV) (L:List ((Int×Int)×List PV)),s6 V (a++b) L=s6 V b (s6 V a L)
 | [],_,_=>rfl
 | s::r,b,L=>PW V r b _
theorem Wc{α:Type}{l:List α}(h:q<l.length):l.take (q+1)=l.take q++ [l[q]]:=by rw [lV h]
theorem aga{SD:List PV}(h:q<SD.length)(M:ai):sG (SD.take (q+1)) M=((sG (SD.take q) M).set SD[q].s.toNat SD[q].v).set SD[q].v.toNat SD[q].s:=by
 rw [Wc h,Ur];rfl
theorem Yx{V:ai}{SD:List PV}(h:q<SD.length):s6 V (SD.take (q+1)) []=eO (s6 V (SD.take q) []) (zy V SD[q]) ((dL (s6 V (SD.take q) []) (zy V SD[q])).getD []++ [FT V SD[q]]):=by
 rw [Wc h,PW];rfl
theorem aiV(ps:ah):(rz 0 ps).length=ps.flatten.length:=(Cg (k:=1) (fun f p=>by simp [VP]) ps 0).trans (by omega)
theorem aiW{ps:ah}(h:j<ps.length):rz 0 (ps.take (j+1))=rz 0 (ps.take j)++ (List.range (gl ps j).length).map (Jj (bp ps j) (gl ps j).length):=by
 rw [b7 h];exact(Ch _ ps 0 j h).trans (by rw [Nat.zero_add];rfl)
theorem gqV(M:List qE)(x:Int×Int):((dL M x).map uG).getD (.slice Option.none 0 0)=uG (ns M x):=by
 unfold ns;cases dL M x<;>rfl
theorem aav{M:List qE}{x:Int×Int}(h:∀p∈M,Fs p.1/\p.2.2.1=0/\p.2.1.n<=k):(ns M x).2.1=0/\(ns M x).1.n<=k:=by
 unfold ns
 induction M with
 | nil=>exact⟨rfl,aZ _⟩
 | cons p r ih=>
  obtain⟨y,u⟩:=p;simp only [dL]
  split
  ·exact(h (y,u) (by simp)).2
  ·exact ih fun p hp=>h p (by simp [hp])
theorem Vo{κ ν:Type}[DecidableEq κ]:∀ {L:List (κ×ν)} {x:κ} {u:ν} {p:κ×ν},p∈eO L x u->p=(x,u)\/p∈L
 | [],x,u,p,h=>by simp [eO]at h;exact .inl h
 | (y,v)::r,x,u,p,h=>by
  simp only [eO]at h
  split at h
  ·rcases iP.1 h with h | h
   ·exact .inl h
   ·exact .inr (by simp [h])
  ·rcases iP.1 h with h | h
   ·exact .inr (by simp [h])
   ·rcases Vo h with h | h
    ·exact .inl h
    ·exact .inr (by simp [h])
theorem afV{es:List MapEntry}{y:MapEntry}(h:y∈qZ es seen):(qZ es (seen++ [y.born])).length< (qZ es seen).length:=by
 have e:qZ es (seen++ [y.born])=(qZ es seen).filter fun e=>e.born !=y.born:=by
  unfold qZ;rw [List.filter_filter]
  congr 1
  funext e
  by_cases h1:e.born=y.born<;>by_cases h2:e.born∈seen<;>simp [h1,h2,bne]
 rw [e];exact List.length_filter_lt_length_iff_exists.2 ⟨y,h,by simp⟩
theorem Un{es:List MapEntry}{y:MapEntry}(h:y∈qZ es seen):y∈es:=(gg.1 h).1
theorem afW{es:List MapEntry}{y:MapEntry}(h:qZ es seen=[])(hy:y∈es):y.born∈seen:=by
 have:=List.filter_eq_nil_iff.1 h y hy;simpa using this
theorem ag8(h:l.Nodup){a:Nat}(h1:l[i]?=some a)(h2:l[j]?=some a):i=j:=by
 obtain⟨a1,b1⟩:=gm.1 h1;obtain⟨a2,b2⟩:=gm.1 h2;exact(List.getElem_inj h).1 (b1.trans b2.symm)
theorem aar{a b:ai}(h:a.length=b.length)(h':∀f:Nat,f<a.length->gi a f=gi b f):a=b:=ki h fun i h1 h2=>by have:=h' i h1;rwa [b9 h1,b9 h2]at this
theorem U4{α:Type}(b m:α)(R T Q:List α):(b::(R++ (T++ (m::Q)))).Perm ((b::m::(R++T))++ (Q++ [])):=by
 classical
 refine jA.2 fun z=>?_
 simp only [List.cons_append,lu,jz,kC];omega
theorem U5{α:Type}(b m:α)(R T Q:List α):((b::m::(R++T))++ (Q++ [])).Perm (b::m::(R++ (T++Q))):=by
 classical
 refine jA.2 fun z=>?_
 simp only [List.cons_append,lu,jz,kC];omega
theorem afP{α:Type}:∀ {l:List α},l.length=2->∃a b,l=[a,b]
 | [a,b],_=> ⟨a,b,rfl⟩
def mC(a:PV)(t:Nat):Int:=if t=0 then a.s else a.v
theorem Vu(a:PV)(h:t<2):[Value.int .i64 a.s,Value.int .i64 a.v].getD t undef=ak (mC a t):=by
 rcases(show t=0\/t=1 by omega)with rfl | rfl<;>rfl
def WJ(M T:ai)(l:List PV):Prop:=∀a∈l,gi M a.s=gi T a.s/\gi M a.v=gi T a.v
theorem Ki{M T:ai}{a v f:Int}(ha:0<=a/\a<M.length)(hv:gi T a=v)(hf:0<=f)(h:f=a\/gi M f=gi T f):gi (M.set a.toNat v) f=gi T f:=by
 rw [r7 ha.1 ha.2 hf]
 split
 ·rename_i e;rw [<-e,hv]
 rename_i e;exact h.resolve_left fun q=>e q.symm
section
variable {P:Program} {N:Nat} {ops:Array Oper} {K:Env->aa->Prop} {rest:List Oper} {e:Env} {w0 w:aa} {ks:List Ck} {d:Nat} {ty:ae} {pos:String} {af:Array Edge}
theorem O1{t el:ae}{l:Nat}{z:ad}{b:Nat}(m:Nat)[bt P t (.array l el)][bq P t z (m+1) b]{x:ag}{A:aj}{f:Nat->ad}{cs:Array ad}(hR:Rd w A (m+1) f)(hx:ev e x= .pointer A)(ue:((List.range (m+1)).map f).toArray=cs)(hb:Nat.blt d N=true)(hK:ao P N ops K rest (br e d (.agg cs)) w):ao P N ops K (⟨some d,.load t x,ty,pos,af,none⟩::rest) e w:=by
 obtain⟨p,hp,_⟩:=hR 0 (by omega);obtain⟨q,rfl⟩:∃q,A=some q:=by cases A with | none=>simp [ay]at hp | some q=>exact⟨q,rfl⟩
 obtain⟨inf,hi,dU,hs,gI⟩:=bq.get P t;have hl:=run_loadCells (P:=P) w q (m+1) f (fun j hj=>by
  obtain⟨p,hp,hc⟩:=hR j hj;simp [ay]at hp;rw [hp];exact hc)
 subst ue;refine .val (w':=w) ?_ hb hK;simp [execOp,Instr.loadAt,hx,Instr.sureAddr,loadVar,isAgg,run_underlying (bt.out (P:=P) (t:=t)),sizeOf,typeInfo,hi,hs,hl]
end
abbrev pD(fJ B0 B1 B2:aj)(F:Nat)(M0 M1 M2:ai):List Ck:=[bZ 34 fJ 3 3 [⟨B0,F,F⟩,⟨B1,F,F⟩,⟨B2,F,F⟩],ax 2 B0 F F M0,ax 2 B1 F F M1,ax 2 B2 F F M2]
abbrev pE(A2 A4 A5:aj)(L c4 c5:Nat)(V:ai)(SD:List PV):List Ck:=[ax 2 A4 L c4 V,jy 182 A5 L c5 0 SD,Bx 24 1 A2 [.slice none 0 0]]
structure zN(ps:ah):Prop where
 zW:ps.flatten.length<=100
 key:∀v∈ps.flatten,-9223372036854775808<=v/\v<=9223372036854775807
 one:vE DQ (2*ps.flatten.length) (2*ps.flatten.length)=ku ps
 uL:(kf ps).length=2*ps.flatten.length
 nF:cN (mapM ps)
 Yf:∀p∈s6 ps.flatten (rz 0 ps) [],∀a∈p.2,((0<=a.s/\a.s<2*ps.flatten.length)/\(0<=a.v/\a.v<2*ps.flatten.length))
structure Xw(w0:aa)(base:List Ck)(A2 A4 A5:aj)(L c4 c5 F:Nat)(S:Nat->Bool)(e:Env)(w:aa):Prop where
 f2:e 2= .pointer A2
 f4:e 4= .slice A4 L c4
 f5:e 5= .slice A5 L c5
 f11:e 11=ak F
 p0:S 0=true->e 63=ak F
 p2:S 2=true->e 65=ak F
 p4:S 4=true->e 67=ak F
 mem:∃(A1 A3 A6 A7:aj) (b1 b2 b3 b4:List Ck),(S 1=false->b1=[])/\(S 1=true->e 64= .slice A1 F F/\b1=[ax 2 A1 F F (List.replicate F 0)])/\(S 3=false->b2=[])/\(S 3=true->e 66= .slice A3 F F/\b2=[ax 2 A3 F F (List.replicate F 0)])/\(S 5=false->b3=[])/\(S 5=true->e 68= .slice A6 F F/\b3=[ax 2 A6 F F (List.replicate F 0)])/\(S 6=false->b4=[])/\(S 6=true->e 69= .slice A7 3 3/\b4=[bZ 34 A7 3 3 [⟨A1,F,F⟩,⟨A3,F,F⟩,⟨A6,F,F⟩]])/\(S 7=true->e 12= .slice A7 3 3)/\St w0 w (b4++ (b1++ (b2++ (b3++base))))
structure Xx(w0:aa)(A2 A4 A5 fJ gk B0 B1 B2:aj)(L c4 c5 F g q:Nat)(s:PV)(V Z M1 M2:ai)(SD:List PV)(tl:List Ck)(S:Nat->Bool)(e:Env)(w:aa):Prop where
 f2:e 2= .pointer A2
 f4:e 4= .slice A4 L c4
 f12:e 12= .slice fJ 3 3
 f13:e 13= .map (some g)
 f16:e 16= .pointer gk
 f83:e 83= .slice A5 L c5
 f84:e 84=ak L
 f85:e 85=ak q
 p0:S 0=true->e 89= .slice fJ 3 3
 p1:S 1=true->e 90= .pointer (ay fJ 0)
 p2:S 2=true->e 91= .slice B0 F F
 p3:S 3=true->e 92= .pointer (ay gk 0)
 p4:S 4=true->e 93=ak s.s
 p5:S 5=true->e 94= .slice fJ 3 3
 p6:S 6=true->e 95= .pointer (ay fJ 0)
 p7:S 7=true->e 96= .slice B0 F F
 p8:S 8=true->e 97= .pointer (ay gk 1)
 p9:S 9=true->e 98=ak s.v
 ir:S 10=true->e 99= .pointer (ay gk 1)
 nI:S 11=true->e 100=ak s.v
 iw:S 12=true->e 101= .pointer (ay gk 0)
 nJ:S 13=true->e 102=ak s.s
 nK:S 14=true->e 103= .pointer (ay B0 s.s.toNat)
 nL:S 16=true->e 104= .pointer (ay B0 s.v.toNat)
 mem:∃M0:ai,(S 15=false->M0=Z)/\(S 15=true->S 17=false->M0=Z.set s.s.toNat s.v)/\(S 17=true->M0=(Z.set s.s.toNat s.v).set s.v.toNat s.s)/\St w0 w (Bx 182 2 gk [ak s.s,ak s.v]::(pD fJ B0 B1 B2 F M0 M1 M2++tl))
structure Xy(w0:aa)(A2 A4 A5 fJ gk:aj)(L c4 c5 g q:Nat)(x:Int×Int)(s:PV)(M:List qE)(pre:List Ck)(S:Nat->Bool)(e:Env)(w:aa):Prop where
 f2:e 2= .pointer A2
 f4:e 4= .slice A4 L c4
 f12:e 12= .slice fJ 3 3
 f13:e 13= .map (some g)
 f16:e 16= .pointer gk
 f83:e 83= .slice A5 L c5
 f84:e 84=ak L
 f85:e 85=ak q
 f17:e 17=ak x.1
 f18:e 18=ak x.2
 p0:S 0=true->e 128= .map (some g)
 p1:S 1=true->e 129=ak x.1
 p2:S 2=true->e 130=ak x.2
 p3:S 3=true->e 131=pC x
 p4:S 4=true->e 132= .map (some g)
 p5:S 5=true->e 133=ak x.1
 p6:S 6=true->e 134=ak x.2
 p7:S 7=true->e 135=pC x
 p8:S 8=true->e 136=uG (ns M x)
 p9:S 9=true->e 137= .agg #[ak s.s,ak s.v]
 mem:∃(b:List Ck) (u:Cb) (Mm:List qE),(S 10=false->b=[])/\(S 10=true->∃A9,e 138= .slice A9 1 1/\b=[jy 182 A9 1 1 0 [s]])/\(S 11=false->u=ns M x)/\(S 11=true->e 139=uG u/\u.2.1=0/\u.1.n=(ns M x).1.n+1/\u.2.2=(ns M x).2.2++ [s])/\(S 12=false->Mm=M)/\(S 12=true->Mm=eO M x u)/\
  St w0 w (b++ (jy 182 u.1.a u.1.n u.1.c u.2.1 u.2.2::(Bx 182 2 gk [ak s.s,ak s.v]::fu 183 g (dY pC uG Mm)::pre)))
structure Xz(w0:aa)(fJ B0 B1 B2:aj)(F k:Nat)(a b:Int)(ls:aO)(r:Nat)(A2:aj)(M0 M1 Z:ai)(it:Ck)(tl:List Ck)(S:Nat->Bool)(e:Env)(w:aa):Prop where
 f2:e 2= .pointer A2
 f12:e 12= .slice fJ 3 3
 f20:e 20=ls.v
 f22:e 22=ak a
 f23:e 23=ak b
 f142:e 142= .pointer (some ⟨r,0,Option.none⟩)
 f151:e 151=ak k
 p0:S 0=true->e 164= .slice fJ 3 3
 p1:S 1=true->e 165= .pointer (ay fJ 2)
 p2:S 2=true->e 166= .slice B2 F F
 p3:S 3=true->e 167=ak a
 p4:S 4=true->e 168= .slice fJ 3 3
 p5:S 5=true->e 169= .pointer (ay fJ 2)
 p6:S 6=true->e 170= .slice B2 F F
 p7:S 7=true->e 171=ak b
 p8:S 8=true->e 172=ak b
 p9:S 9=true->e 173=ak a
 ir:S 10=true->e 174= .pointer (ay B2 a.toNat)
 iw:S 12=true->e 175= .pointer (ay B2 b.toNat)
 mem:∃M2:ai,(S 11=false->M2=Z)/\(S 11=true->S 13=false->M2=Z.set a.toNat b)/\(S 13=true->M2=(Z.set a.toNat b).set b.toNat a)/\St w0 w (it::(pD fJ B0 B1 B2 F M0 M1 M2++tl))
theorem IQ(A:aj)(n c:Nat)(rs:List aO)(ps:ah)(w:aa)(hR:bF w A n rs ps)(dm:BS ps)(wh:zN ps):
 aK prog 111 [.slice A n c] w (fun v w'=>∃(A':aj) (rs':List aO),v= .tuple #[.agg #[.slice A' 3 3],.bool true]/\rs'.length=3/\St w w' (aL 34 2 A' 3 3 rs' (mapM ps))):=by
 have vn:=hR.len;have HT:=dm.zW;have hF:ps.flatten.length<=100:=wh.zW;refine bA func111 O ntmps111 O (tD O O) (bg O (gH (St.refl w) O ?_));intro A2 w1 hS;have hS:St w w1 [ax 2 none 0 0 [],jy 182 none 0 0 0 [],Bx 24 1 A2 [.slice none 0 0]]:=(hS.nil 182).nil 2;refine ar O (bc O O (aC O ?_));refine Cd.loop (α:=Nat×(aj×Nat)×(aj×Nat)) (fun z=> [(2,.pointer A2),(4,.slice z.2.1.1 (bp ps z.1) z.2.1.2),(5,.slice z.2.2.1 (bp ps z.1) z.2.2.2),(25,.slice A n c),(26,ak n),(27,ak (z.1:Int))]) (fun z w'=>z.1<=n/\St w w' [ax 2 z.2.1.1 (bp ps z.1) z.2.1.2 (ps.take z.1).flatten,jy 182 z.2.2.1 (bp ps z.1) z.2.2.2 0 (rz 0 (ps.take z.1)),Bx 24 1 A2 [.slice none 0 0]]) (fun z=>n - z.1) (0,(none,0),(none,0)) (amz O) ⟨aZ _,hS⟩ ?_;clear hS;rintro⟨j,⟨A4,c4⟩,⟨A5,c5⟩⟩ ev w2 ⟨hj,hS⟩;dsimp only at hj hS|-;refine bJ O (aM _ O (fun h1=>?_) (fun h1=>?_))
 ·have nC:j<n:=by omega
  have ln:=hS.cT hR;have bP:=ln.at_ (i:=(j:Int)) (by omega) (by omega);have iM:=bP.1;have jG:(gl ps j).length<=100:=(HT.2 _ (by rw [b7 (by omega)];exact dQ _)).2;have su:=PE (ps:=ps) (j:=j) (by omega);have mP:=PD ps (j+1);have hsd:=aiW (ps:=ps) (j:=j) (by omega);have hvt:(ps.take (j+1)).flatten=(ps.take j).flatten++gl ps j:=by rw [QX ps j (by omega),b7 (by omega)]
  refine aA O (aD ln.top.2 O (bW ln.top O (ar O (aQ (wH _ _ _ _) O ?_))));rintro _ w3 ⟨rfl,rfl⟩;refine ar O (aQ (wH _ _ _ _) O ?_);rintro _ w3 ⟨rfl,rfl⟩;refine ar O (fk 0 hS O bP O O O ?_);clear hS;intro F8 GF w4 hS;have hS:St w w4 [ax 2 F8 (bp ps (j+1)) GF (ps.take (j+1)).flatten,jy 182 A5 (bp ps j) c5 0 (rz 0 (ps.take j)),Bx 24 1 A2 [.slice none 0 0]]:=by rw [hvt,su,iM];exact hS
  refine aC O ?_;rw [<-iM];rw [<-su];refine Cd.loop (α:=Nat×(aj×Nat)) (fun z=> [(2,.pointer A2),(4,.slice F8 (bp ps (j+1)) GF),(5,.slice z.2.1 (bp ps j+z.1) z.2.2),(8,ak (bp ps j:Int)),(9,ak ((gl ps j).length:Int)),(25,.slice A n c),(26,ak n),(27,ak j),(38,ak ((gl ps j).length:Int)),(39,ak (z.1:Int))]) (fun z w'=>z.1<=(gl ps j).length/\St w w' [ax 2 F8 (bp ps (j+1)) GF (ps.take (j+1)).flatten,jy 182 z.2.1 (bp ps j+z.1) z.2.2 0 (rz 0 (ps.take j)++ (List.range z.1).map (Jj (bp ps j) (gl ps j).length)),Bx 24 1 A2 [.slice none 0 0]]) (fun z=> (gl ps j).length - z.1) (0,(A5,c5)) (amz O) ⟨aZ _,by
   show St w w4 [_,jy 182 A5 (bp ps j) c5 0 (rz 0 (ps.take j)++ []),_];simpa only [fj]using hS⟩ ?_
  clear hS;rintro⟨i,⟨A5,c5⟩⟩ ev w5 ⟨hi,hS⟩;dsimp only at hi hS|-;refine bJ O (aM _ O (fun h2=>?_) (fun h2=>?_))
  ·have mQ:i< (gl ps j).length:=by omega
   have AK:0<=((i:Int)+1)% ((gl ps j).length:Int)/\((i:Int)+1)% ((gl ps j).length:Int)< ((gl ps j).length:Int):=⟨Int.emod_nonneg _ (by omega),Int.emod_lt_of_pos _ (by omega)⟩;refine aA O (aH O (rQ O O O (by omega) (ar O (aH O (ar O ?_)))));refine ao.rem O O O (by omega) (aH O (rQ O O O (by omega) (aH O ?_)));refine JB (by exact inferInstance) O O O O O (OY hS O O O ?_);intro A56 w6 bk;refine OW 2 bk O (bk.BA 0 O) O O O (by omega) (by omega) O ?_;intro OC PX q5 w7 hq5 bG;obtain rfl:q5=0:=by omega
   refine ar O (aH O (aT O (tQ ?_)));exact⟨(i+1,(OC,PX)),by show(gl ps j).length - (i+1)< (gl ps j).length - i;omega,⟨O,O,O,O,O,O,O,O,O,aF (Value.int .i64) (by omega),au⟩,by show i+1<=_;omega,by
    show St w w7 [_,jy 182 OC (bp ps j+ (i+1)) PX 0 (rz 0 (ps.take j)++ (List.range (i+1)).map (Jj (bp ps j) (gl ps j).length)),_];rw [jB,iD,<-gx];exact bG.tail⟩
  ·obtain rfl:i=(gl ps j).length:=by omega
   refine bn O (bo (cL O (aH O (aT O (tQ ?_)))));rw [<-hsd,<-su]at hS;rw [<-su];exact⟨(j+1,(F8,GF),(A5,c5)),by show n - (j+1)<n - j;omega,⟨O,O,O,O,O,aF (Value.int .i64) (by omega),au⟩,by show j+1<=n;omega,hS⟩
 ·obtain rfl:j=n:=by omega
  have xG:ps.take j=ps:=gR (by omega);have sr:bp ps j=ps.flatten.length:=by unfold bp;rw [xG]
  have hSDl:=aiV ps;have abW:=dm.bd;have dU:=dm.zero;have adi:=dm.pair;have adp:=dm.put;have abP:=dm.all;have RT:=dm.len;have Ie:=wh.one;have acP:=wh.key;have RG:=wh.nF;have R9:=wh.Yf;have Mf:mapM ps=[kf ps,ku ps,oB (kz ps) (ky ps)]:=O;have wu:=wh.uL;rw [Mf]at RG|-;rw [xG,sr]at hS;rw [sr];clear dm wh;generalize kf ps=uL at*;generalize ku ps=one at*;generalize oB (kz ps) (ky ps)=T at*;generalize ps.flatten=V at*;generalize rz 0 ps=SD at*;generalize hL:V.length=L at*;refine bn O (bo (cL O ?_));refine aQ (wH _ _ _ _) O ?_;rintro _ w3 ⟨rfl,rfl⟩;refine rQ O O O (by omega) (aC O ?_);have od:(2:Int)* (L:Int)=((2*L:Nat):Int):=by omega
  rw [od];generalize hFe:2*L=F at*;refine BN (by kernel_rfl) (by kernel_rfl) (fun S e1 w1=>Xw w [ax 2 A4 L c4 V,jy 182 A5 L c5 0 SD,Bx 24 1 A2 [.slice none 0 0]] A2 A4 A5 L c4 c5 F S e1 w1) (fun w4 hb=> ⟨O,O,O,O,fun h=> (nomatch h),fun h=> (nomatch h),fun h=> (nomatch h),none,none,none,none,[],[],[],[],fun _=>O,fun h=> (nomatch h),fun _=>O,fun h=> (nomatch h),fun _=>O,fun h=> (nomatch h),fun _=>O,fun h=> (nomatch h),fun h=> (nomatch h),hS.aq hb⟩) ?_ ?_
  ·intro S q o e1 w4 hq cC hd dh hI;obtain⟨f2,f4,f5,f11,p0,p2,p4,A1,A3,A6,A7,b1,b2,b3,b4,m1,wx,m3,wA,m5,wC,m6,Bq,m7,hT⟩:=hI
   match q,hq,cC with
   | 0,hq,cC=>
    obtain rfl:=dC hq;refine qF O (by exact f11) O (ao.n ?_);exact⟨f2,f4,f5,f11,fun _=>O,p2,p4,A1,A3,A6,A7,b1,b2,b3,b4,m1,wx,m3,wA,m5,wC,m6,Bq,m7,hT⟩
   | 1,hq,cC=>
    obtain rfl:=dC hq;obtain rfl:=m1 cC;have n6:S 6=false:=by
     cases h:S 6 with
     | false=>rfl
     | true=>rw [<-cC];exact(dT (dh 6 _ h rfl) 1 rfl).symm
    obtain rfl:=m6 n6;refine wP F hT (by exact p0 (dT hd 0 O)) O (by omega) ?_;intro A' w5 ud;refine ao.n ?_;exact⟨f2,f4,f5,f11,p0,p2,p4,A',A3,A6,A7,[ax 2 A' F F (List.replicate F 0)],b2,b3,[],fun h=> (nomatch (show true=false from h)),fun _=> ⟨O,O⟩,m3,wA,m5,wC,fun _=>O,fun h=> (nomatch n6.symm.trans h),m7,ud⟩
   | 2,hq,cC=>
    obtain rfl:=dC hq;refine qF O (by exact f11) O (ao.n ?_);exact⟨f2,f4,f5,f11,p0,fun _=>O,p4,A1,A3,A6,A7,b1,b2,b3,b4,m1,wx,m3,wA,m5,wC,m6,Bq,m7,hT⟩
   | 3,hq,cC=>
    obtain rfl:=dC hq;obtain rfl:=m3 cC;have n6:S 6=false:=by
     cases h:S 6 with
     | false=>rfl
     | true=>rw [<-cC];exact(dT (dh 6 _ h rfl) 3 rfl).symm
    obtain rfl:=m6 n6;refine wP F hT (by exact p2 (dT hd 2 O)) O (by omega) ?_;intro A' w5 ud;refine ao.n ?_;exact⟨f2,f4,f5,f11,p0,p2,p4,A1,A',A6,A7,b1,[ax 2 A' F F (List.replicate F 0)],b3,[],m1,wx,fun h=> (nomatch (show true=false from h)),fun _=> ⟨O,O⟩,m5,wC,fun _=>O,fun h=> (nomatch n6.symm.trans h),m7,ud.perm (qD (l₁:=b1)).symm⟩
   | 4,hq,cC=>
    obtain rfl:=dC hq;refine qF O (by exact f11) O (ao.n ?_);exact⟨f2,f4,f5,f11,p0,p2,fun _=>O,A1,A3,A6,A7,b1,b2,b3,b4,m1,wx,m3,wA,m5,wC,m6,Bq,m7,hT⟩
   | 5,hq,cC=>
    obtain rfl:=dC hq;obtain rfl:=m5 cC;have n6:S 6=false:=by
     cases h:S 6 with
     | false=>rfl
     | true=>rw [<-cC];exact(dT (dh 6 _ h rfl) 5 rfl).symm
    obtain rfl:=m6 n6;refine wP F hT (by exact p4 (dT hd 4 O)) O (by omega) ?_;intro A' w5 ud;refine ao.n ?_;exact⟨f2,f4,f5,f11,p0,p2,p4,A1,A3,A',A7,b1,b2,[ax 2 A' F F (List.replicate F 0)],[],m1,wx,m3,wA,fun h=> (nomatch (show true=false from h)),fun _=> ⟨O,O⟩,fun _=>O,fun h=> (nomatch n6.symm.trans h),m7,ud.perm (by rw [<-gx,<-gx];exact(qD (l₁:=b1++b2)).symm.trans (by simp))⟩
   | 6,hq,cC=>
    obtain rfl:=dC hq;obtain rfl:=m6 cC;have n7:S 7=false:=by
     cases h:S 7 with
     | false=>rfl
     | true=>rw [<-cC];exact(dT (dh 7 _ h rfl) 6 rfl).symm
    have q1:=wx (dT hd 1 O);have q3:=wA (dT hd 3 O);have q5:=wC (dT hd 5 O);refine OZ (s0:=⟨A1,F,F⟩) (s1:=⟨A3,F,F⟩) (s2:=⟨A6,F,F⟩) hT (by exact q1.1) (by exact q3.1) (by exact q5.1) O ?_;intro A' w5 ud;refine ao.n ?_;exact⟨f2,f4,f5,f11,p0,p2,p4,A1,A3,A6,A',b1,b2,b3,[bZ 34 A' 3 3 [⟨A1,F,F⟩,⟨A3,F,F⟩,⟨A6,F,F⟩]],m1,wx,m3,wA,m5,wC,fun h=> (nomatch (show true=false from h)),fun _=> ⟨O,O⟩,fun h=> (nomatch n7.symm.trans h),ud⟩
   | 7,hq,cC=>
    obtain rfl:=dC hq;refine lW O (by exact(Bq (dT hd 6 O)).1) O (ao.n ?_);exact⟨f2,f4,f5,f11,p0,p2,p4,A1,A3,A6,A7,b1,b2,b3,b4,m1,wx,m3,wA,m5,wC,m6,Bq,fun _=>O,hT⟩
   | q+8,hq,_=>exact(nomatch hq)
  ·intro S e1 w4 eJ hI;obtain⟨f2,f4,f5,f11,p0,p2,p4,A1,A3,A6,A7,b1,b2,b3,b4,m1,wx,m3,wA,m5,wC,m6,Bq,m7,hT⟩:=hI;obtain⟨Rs,rfl⟩:=wx (eJ 1 (by decide));obtain⟨h66,rfl⟩:=wA (eJ 3 (by decide));obtain⟨CN,rfl⟩:=wC (eJ 5 (by decide));obtain⟨Rt,rfl⟩:=Bq (eJ 6 (by decide));refine Cc (F:=[(2,.pointer A2),(4,.slice A4 L c4),(5,.slice A5 L c5),(11,ak F),(12,.slice A7 3 3)]) ⟨f2,f4,f5,f11,m7 (eJ 7 (by decide)),au⟩ ?_;clear hS;obtain⟨Z,hZ⟩:∃Z:ai,Z=List.replicate F 0:=⟨_,rfl⟩;have hS:St w w4 (pD A7 A1 A3 A6 F (List.replicate F 0) (vE DQ F 0) (List.replicate F 0)++pE A2 A4 A5 L c4 c5 V SD):=by rw [aju];exact hT
   rw [<-hZ]at hS dU;clear hT;refine jW O (BZ hS O ?_);clear hS;intro g w5 hS;refine aC O (Cd.loop (α:=Nat) (fun k=> [(2,.pointer A2),(4,.slice A4 L c4),(5,.slice A5 L c5),(12,.slice A7 3 3),(13,.map (some g)),(71,ak F),(72,ak k)]) (fun k w'=>k<=F/\St w w' (fu 183 g []::(pD A7 A1 A3 A6 F Z (vE DQ F k) Z++pE A2 A4 A5 L c4 c5 V SD))) (fun k=>F - k) 0 (amz O) ⟨aZ _,hS⟩ ?_);clear hS;rintro k ev w6 ⟨hk,hS⟩;refine bJ O (aM _ O (fun h2=>?_) (fun h2=>?_))
   ·have hkF:k<F:=by omega
    refine aA O (aD (hS.fG 1 O).2 O ?_);refine amt (i:=1) (hS.fG 1 O) O (by decide) O O (ar O (Xu (m:=k) O O (by omega) O (aD (hS.bz 3 O).2 O (lC 3 (i:=(k:Int)) hS O O O (by omega) ?_))));intro w7 bG;have bG:St w w7 (fu 183 g []::(pD A7 A1 A3 A6 F Z ((vE DQ F k).set k (F5 k:Int)) Z++pE A2 A4 A5 L c4 c5 V SD)):=bG;rw [<-aj7,ajv]at bG;refine ar O (aH O (aT O (tQ ?_)));exact⟨k+1,by show F - (k+1)<F - k;omega,⟨O,O,O,O,O,O,aF (Value.int .i64) (by omega),au⟩,by show k+1<=F;omega,bG⟩
   ·obtain rfl:k=F:=by omega
    rw [Ie]at hS;have hS:St w w6 (pD A7 A1 A3 A6 k (sG (SD.take 0) Z) one Z++ (pE A2 A4 A5 L c4 c5 V SD++ (fu 183 g (dY pC uG [])::kR 182 []))):=by
     refine hS.perm ?_
     classical
     refine jA.2 fun z=>?_
     simp only [pD,pE,List.take_zero,sG,dY,kR,List.map_nil,lu,jz,kC];omega
    refine bn O (bo (cL O (bc O O (aC O ?_))));refine Cd.loop (α:=Nat×List qE) (fun z=> [(2,.pointer A2),(4,.slice A4 L c4),(12,.slice A7 3 3),(13,.map (some g)),(83,.slice A5 L c5),(84,ak L),(85,ak (z.1:Int))]) (fun z w'=>z.1<=L/\vy z.2=s6 V (SD.take z.1) []/\(∀p∈z.2,Fs p.1/\p.2.2.1=0/\p.2.1.n<=z.1)/\(z.2.map (·.1)).Nodup/\St w w' (pD A7 A1 A3 A6 k (sG (SD.take z.1) Z) one Z++ (pE A2 A4 A5 L c4 c5 V SD++ (fu 183 g (dY pC uG z.2)::kR 182 z.2)))) (fun z=>L - z.1) (0,[]) (amz O) ⟨aZ _,O,by simp,by simp,hS⟩ ?_;clear hS;rintro⟨q,M⟩ ev w7 ⟨hq,E9,EE,Hx,hS⟩;dsimp only at hq E9 EE Hx hS|-;refine bJ O (aM _ O (fun h3=>?_) (fun h3=>?_))
    ·have Mr:q<SD.length:=by omega
     have sk:=abW _ (dQ Mr);have Ia:=aga Mr Z;have xo:=Yx (V:=V) Mr;have Sb:=(hS.BA 5 O).at_ (j:=q) (by omega);generalize Bf:SD[q]=s at sk Ia xo Sb;refine aA O (JF (hS.BA 5 O) O O O (by omega) (by omega) (O1 (cs:= #[ak s.s,ak s.v]) 1 Sb O O O (Xp hS O ?_)));clear hS;intro gk w8 hS;refine bO 2 0 hS O O O O O O O ?_;clear hS;intro w9 hS;have hS:St w w9 (Bx 182 2 gk [ak s.s,ak s.v]::(pD A7 A1 A3 A6 k (sG (SD.take q) Z) one Z++ (pE A2 A4 A5 L c4 c5 V SD++ (fu 183 g (dY pC uG M)::kR 182 M)))):=hS;refine aC O (BN (by kernel_rfl) (by kernel_rfl) (fun S e1 w1=>Xx w A2 A4 A5 A7 gk A1 A3 A6 L c4 c5 k g q s V (sG (SD.take q) Z) one Z SD (pE A2 A4 A5 L c4 c5 V SD++ (fu 183 g (dY pC uG M)::kR 182 M)) S e1 w1) (fun w4 hb=> ⟨O,O,O,O,O,O,O,O,fun h=> (nomatch h),fun h=> (nomatch h),fun h=> (nomatch h),fun h=> (nomatch h),fun h=> (nomatch h),fun h=> (nomatch h),fun h=> (nomatch h),fun h=> (nomatch h),fun h=> (nomatch h),fun h=> (nomatch h),fun h=> (nomatch h),fun h=> (nomatch h),fun h=> (nomatch h),fun h=> (nomatch h),fun h=> (nomatch h),fun h=> (nomatch h),sG (SD.take q) Z,fun _=>O,fun h=> (nomatch h),fun h=> (nomatch h),hS.aq hb⟩) ?_ ?_)
     ·intro S q o e1 w4 hq cC hd dh hI;obtain⟨f2,f4,f12,f13,f16,f83,f84,f85,p0,p1,p2,p3,p4,p5,p6,p7,p8,p9,ir,nI,iw,nJ,nK,nL,M0,m15,m16,m17,hT⟩:=hI
      match q,hq,cC with
      | 0,hq,cC=>
       obtain rfl:=dC hq;refine lW O (by exact f12) O (ao.n ?_);exact⟨f2,f4,f12,f13,f16,f83,f84,f85,fun _=>O,p1,p2,p3,p4,p5,p6,p7,p8,p9,ir,nI,iw,nJ,nK,nL,M0,m15,m16,m17,hT⟩
      | 1,hq,cC=>
       obtain rfl:=dC hq;refine amn (hT.fG 1 O).2 (by exact p0 (dT hd 0 O)) O O (by omega) (by omega) (ao.n ?_);exact⟨f2,f4,f12,f13,f16,f83,f84,f85,p0,fun _=>O,p2,p3,p4,p5,p6,p7,p8,p9,ir,nI,iw,nJ,nK,nL,M0,m15,m16,m17,hT⟩
      | 2,hq,cC=>
       obtain rfl:=dC hq;refine amt (i:=0) (hT.fG 1 O) (by exact p1 (dT hd 1 O)) (by decide) O O ?_;exact ao.n ⟨f2,f4,f12,f13,f16,f83,f84,f85,p0,p1,fun _=>O,p3,p4,p5,p6,p7,p8,p9,ir,nI,iw,nJ,nK,nL,M0,m15,m16,m17,hT⟩
      | 3,hq,cC=>
       obtain rfl:=dC hq;refine tS (n:=2) (o:=0) (hT.rd 0 O) (by omega) (by rw [jh gk];exact f16) O O (by omega) (by omega) ?_;exact ao.n ⟨f2,f4,f12,f13,f16,f83,f84,f85,p0,p1,p2,fun _=>O,p4,p5,p6,p7,p8,p9,ir,nI,iw,nJ,nK,nL,M0,m15,m16,m17,hT⟩
      | 4,hq,cC=>
       obtain rfl:=dC hq;refine iy (j:=0) (hT.rd 0 O) (by exact p3 (dT hd 3 O)) O O O O (ao.n ?_);exact⟨f2,f4,f12,f13,f16,f83,f84,f85,p0,p1,p2,p3,fun _=>O,p5,p6,p7,p8,p9,ir,nI,iw,nJ,nK,nL,M0,m15,m16,m17,hT⟩
      | 5,hq,cC=>
       obtain rfl:=dC hq;refine lW O (by exact f12) O (ao.n ?_);exact⟨f2,f4,f12,f13,f16,f83,f84,f85,p0,p1,p2,p3,p4,fun _=>O,p6,p7,p8,p9,ir,nI,iw,nJ,nK,nL,M0,m15,m16,m17,hT⟩
      | 6,hq,cC=>
       obtain rfl:=dC hq;refine amn (hT.fG 1 O).2 (by exact p5 (dT hd 5 O)) O O (by omega) (by omega) (ao.n ?_);exact⟨f2,f4,f12,f13,f16,f83,f84,f85,p0,p1,p2,p3,p4,p5,fun _=>O,p7,p8,p9,ir,nI,iw,nJ,nK,nL,M0,m15,m16,m17,hT⟩
      | 7,hq,cC=>
       obtain rfl:=dC hq;refine amt (i:=0) (hT.fG 1 O) (by exact p6 (dT hd 6 O)) (by decide) O O ?_;exact ao.n ⟨f2,f4,f12,f13,f16,f83,f84,f85,p0,p1,p2,p3,p4,p5,p6,fun _=>O,p8,p9,ir,nI,iw,nJ,nK,nL,M0,m15,m16,m17,hT⟩
      | 8,hq,cC=>
       obtain rfl:=dC hq;refine tS (n:=2) (o:=0) (hT.rd 0 O) (by omega) (by rw [jh gk];exact f16) O O (by omega) (by omega) ?_;exact ao.n ⟨f2,f4,f12,f13,f16,f83,f84,f85,p0,p1,p2,p3,p4,p5,p6,p7,fun _=>O,p9,ir,nI,iw,nJ,nK,nL,M0,m15,m16,m17,hT⟩
      | 9,hq,cC=>
       obtain rfl:=dC hq;refine iy (j:=1) (hT.rd 0 O) (by exact p8 (dT hd 8 O)) O O O O (ao.n ?_);exact⟨f2,f4,f12,f13,f16,f83,f84,f85,p0,p1,p2,p3,p4,p5,p6,p7,p8,fun _=>O,ir,nI,iw,nJ,nK,nL,M0,m15,m16,m17,hT⟩
      | 10,hq,cC=>
       obtain rfl:=dC hq;refine tS (n:=2) (o:=0) (hT.rd 0 O) (by omega) (by rw [jh gk];exact f16) O O (by omega) (by omega) ?_;exact ao.n ⟨f2,f4,f12,f13,f16,f83,f84,f85,p0,p1,p2,p3,p4,p5,p6,p7,p8,p9,fun _=>O,nI,iw,nJ,nK,nL,M0,m15,m16,m17,hT⟩
      | 11,hq,cC=>
       obtain rfl:=dC hq;refine iy (j:=1) (hT.rd 0 O) (by exact ir (dT hd 10 O)) O O O O (ao.n ?_);exact⟨f2,f4,f12,f13,f16,f83,f84,f85,p0,p1,p2,p3,p4,p5,p6,p7,p8,p9,ir,fun _=>O,iw,nJ,nK,nL,M0,m15,m16,m17,hT⟩
      | 12,hq,cC=>
       obtain rfl:=dC hq;refine tS (n:=2) (o:=0) (hT.rd 0 O) (by omega) (by rw [jh gk];exact f16) O O (by omega) (by omega) ?_;exact ao.n ⟨f2,f4,f12,f13,f16,f83,f84,f85,p0,p1,p2,p3,p4,p5,p6,p7,p8,p9,ir,nI,fun _=>O,nJ,nK,nL,M0,m15,m16,m17,hT⟩
      | 13,hq,cC=>
       obtain rfl:=dC hq;refine iy (j:=0) (hT.rd 0 O) (by exact iw (dT hd 12 O)) O O O O (ao.n ?_);exact⟨f2,f4,f12,f13,f16,f83,f84,f85,p0,p1,p2,p3,p4,p5,p6,p7,p8,p9,ir,nI,iw,fun _=>O,nK,nL,M0,m15,m16,m17,hT⟩
      | 14,hq,cC=>
       obtain rfl:=dC hq;refine amn (hT.bz 2 O).2 (by exact p2 (dT hd 2 O)) (by exact p4 (dT hd 4 O)) O (by omega) (by omega) (ao.n ?_);exact⟨f2,f4,f12,f13,f16,f83,f84,f85,p0,p1,p2,p3,p4,p5,p6,p7,p8,p9,ir,nI,iw,nJ,fun _=>O,nL,M0,m15,m16,m17,hT⟩
      | 15,hq,cC=>
       obtain rfl:=dC hq;have n17:S 17=false:=by
        cases h:S 17 with
        | false=>rfl
        | true=>rw [<-cC];exact(dT (dh 17 _ h rfl) 15 rfl).symm
       obtain rfl:=m15 cC;refine lC 2 (i:=s.s) hT O (by exact nK (dT hd 14 O)) (by exact nI (dT hd 11 O)) (by omega) ?_;intro w9 hT;refine ao.n ?_;exact⟨f2,f4,f12,f13,f16,f83,f84,f85,p0,p1,p2,p3,p4,p5,p6,p7,p8,p9,ir,nI,iw,nJ,nK,nL,_,fun h=> (nomatch (show true=false from h)),fun _ _=>O,fun h=> (nomatch n17.symm.trans h),hT⟩
      | 16,hq,cC=>
       obtain rfl:=dC hq;refine amn (hT.bz 2 O).2 (by exact p7 (dT hd 7 O)) (by exact p9 (dT hd 9 O)) O (by omega) (by omega) (ao.n ?_);exact⟨f2,f4,f12,f13,f16,f83,f84,f85,p0,p1,p2,p3,p4,p5,p6,p7,p8,p9,ir,nI,iw,nJ,nK,fun _=>O,M0,m15,m16,m17,hT⟩
      | 17,hq,cC=>
       obtain rfl:=dC hq;obtain rfl:=m16 (dT hd 15 rfl) cC;refine lC 2 (i:=s.v) hT O (by exact nL (dT hd 16 O)) (by exact nJ (dT hd 13 O)) (by omega) ?_;intro w9 hT;refine ao.n ?_;exact⟨f2,f4,f12,f13,f16,f83,f84,f85,p0,p1,p2,p3,p4,p5,p6,p7,p8,p9,ir,nI,iw,nJ,nK,nL,_,fun h=> (nomatch (dT hd 15 O).symm.trans h),fun _ h=> (nomatch (show true=false from h)),fun _=>O,hT⟩
      | q+18,hq,_=>exact(nomatch hq)
     ·intro S e1 w4 eJ hI;obtain⟨f2,f4,f12,f13,f16,f83,f84,f85,p0,p1,p2,p3,p4,p5,p6,p7,p8,p9,ir,nI,iw,nJ,nK,nL,M0,m15,m16,m17,hT⟩:=hI;obtain rfl:=m17 (eJ 17 (by decide));refine Cc (F:=[(2,.pointer A2),(4,.slice A4 L c4),(12,.slice A7 3 3),(13,.map (some g)),(16,.pointer gk),(83,.slice A5 L c5),(84,ak L),(85,ak q)]) ⟨f2,f4,f12,f13,f16,f83,f84,f85,au⟩ ?_;clear hS;rw [<-Ia]at hT;generalize abf:sG (SD.take (q+1)) Z=OU at hT;have HD:cg w4 A4 L V:=hT.bz 5 O;have pn:Rd w4 gk 2 _:=hT.rd 0 O;refine eP O (eo [xS (A4) (L) (c4),xP (ay gk 0),xI (s.s),xI (s.s / 2),xP (ay (A4) (s.s / 2).toNat),xI (gi (V) (s.s / 2)),xS (A4) (L) (c4),xP (ay gk 1),xI (s.v),xI (s.v / 2),xP (ay (A4) (s.v / 2).toNat),xI (gi (V) (s.v / 2)),xI (gi (V) (s.s / 2)),xI (gi (V) (s.v / 2))] O (eL O) ?_ ?_)
      ·refine⟨Dr O,?_,?_,?_,fun _ _ hb _ _=>aD (HD.aq hb).2 O Az,fun _ _ hb _ _=>a8 (HD.aq hb) O Az,Dr O,?_,?_,?_,fun _ _ hb _ _=>aD (HD.aq hb).2 O Az,fun _ _ hb _ _=>a8 (HD.aq hb) O Az,Dr O,Dr O,au⟩
       ·intro e1 w1 hb hp aW;refine tS (o:=0) (pn.below hb) (by omega) (by rw [jh gk];rfl) O O (by omega) (by omega) ?_;exact ao.n (fM.dn (Below.refl _ _) O)
       ·intro e1 w1 hb hp aW;refine iy (j:=0) (pn.below hb) O O O O O (ao.n ?_);exact fM.dn (Below.refl _ _) O
       ·intro e1 w1 hb hp aW;refine ao.quo O O O (by omega) (ao.n ?_);exact fM.dn (Below.refl _ _) O
       ·intro e1 w1 hb hp aW;refine tS (o:=0) (pn.below hb) (by omega) (by rw [jh gk];rfl) O O (by omega) (by omega) ?_;exact ao.n (fM.dn (Below.refl _ _) O)
       ·intro e1 w1 hb hp aW;refine iy (j:=1) (pn.below hb) O O O O O (ao.n ?_);exact fM.dn (Below.refl _ _) O
       ·intro e1 w1 hb hp aW;refine ao.quo O O O (by omega) (ao.n ?_);exact fM.dn (Below.refl _ _) O
      intro u w9 pk _;have hS:=hT.aq pk;clear hT;obtain⟨x,hx⟩:∃x,x=zy V s:=⟨_,rfl⟩;obtain⟨s2,mT⟩:∃s2,s2=FT V s:=⟨_,rfl⟩;refine OP 0 O (tN (α:=Unit) (fun _=> [(2,.pointer A2),(4,.slice A4 L c4),(12,.slice A7 3 3),(13,.map (some g)),(16,.pointer gk),(17,ak x.1),(18,ak x.2),(83,.slice A5 L c5),(84,ak L),(85,ak q)]) (fun _ w'=>St w w' (Bx 182 2 gk [ak s2.s,ak s2.v]::(pD A7 A1 A3 A6 k OU one Z++ (pE A2 A4 A5 L c4 c5 V SD++ (fu 183 g (dY pC uG M)::kR 182 M))))) ?_ ?_)
      ·refine bJ O (aM _ O (fun h4=>?_) (fun h4=>?_))
       ·have ex:x=(gi V (s.v / 2),gi V (s.s / 2)):=by rw [hx];unfold zy;rw [if_pos (by omega)]
        have es:s2=⟨s.v,s.s⟩:=by rw [mT];unfold FT;rw [if_pos (by omega)]
        refine aA O ?_;refine tS (n:=2) (o:=0) (hS.rd 0 O) (by omega) (by rw [jh gk];rfl) O O (by omega) (by omega) ?_;refine iy (j:=1) (hS.rd 0 O) O O O O O ?_;refine tS (n:=2) (o:=0) (hS.rd 0 O) (by omega) (by rw [jh gk];rfl) O O (by omega) (by omega) ?_;refine iy (j:=0) (hS.rd 0 O) O O O O O ?_;refine tS (n:=2) (o:=0) (hS.rd 0 O) (by omega) (by rw [jh gk];rfl) O O (by omega) (by omega) ?_;refine kF 0 (j:=0) hS O O O O O ?_;clear hS;intro dV hS;refine tS (n:=2) (o:=0) (hS.rd 0 O) (by omega) (by rw [jh gk];rfl) O O (by omega) (by omega) ?_;refine kF 0 (j:=1) hS O O O O O ?_;clear hS;intro dZ hS;refine aT O (tQ ?_);rw [ex,es];exact⟨(),(amz O),hS⟩
       ·have ex:x=(gi V (s.s / 2),gi V (s.v / 2)):=by rw [hx];unfold zy;rw [if_neg (by omega)]
        have es:s2=s:=by rw [mT];unfold FT;rw [if_neg (by omega)]
        refine nS O (tQ ?_);rw [ex,es];exact⟨(),(amz O),hS⟩
      ·rintro⟨⟩ ev dV hS;have Da:∀y:Int,0<=y->y<L-> -9223372036854775808<=gi V y/\gi V y<=9223372036854775807:=fun y h0 h1=>by
        have:=acP _ (gi_in (out:=V) (i:=y.toNat) (by omega))
        rwa [show((y.toNat:Nat):Int)=y by omega]at this
       have qX:Fs x:=by
        rw [hx];unfold zy
        split
        ·exact⟨Da _ (by omega) (by omega),Da _ (by omega) (by omega)⟩
        ·exact⟨Da _ (by omega) (by omega),Da _ (by omega) (by omega)⟩
       have HX:=aav (x:=x) EE;have hS:=((hS.perm (U4 _ _ _ _ _)).ajx (x:=x)).perm ((U5 _ _ _ _ _).cons _);refine BN (by kernel_rfl) (by kernel_rfl) (fun S e1 w1=>Xy w A2 A4 A5 A7 gk L c4 c5 g q x s2 M (pD A7 A1 A3 A6 k OU one Z++ (pE A2 A4 A5 L c4 c5 V SD++kR 182 (iR M x))) S e1 w1) (fun w4 hb=> ⟨O,O,O,O,O,O,O,O,O,O,fun h=> (nomatch h),fun h=> (nomatch h),fun h=> (nomatch h),fun h=> (nomatch h),fun h=> (nomatch h),fun h=> (nomatch h),fun h=> (nomatch h),fun h=> (nomatch h),fun h=> (nomatch h),fun h=> (nomatch h),[],ns M x,M,fun _=>O,fun h=> (nomatch h),fun _=>O,fun h=> (nomatch h),fun _=>O,fun h=> (nomatch h),hS.aq hb⟩) ?_ ?_
       ·intro S q o e1 w4 hq cC hd dh hI;obtain⟨f2,f4,f12,f13,f16,f83,f84,f85,f17,f18,p0,p1,p2,p3,p4,p5,p6,p7,p8,p9,b,u,Mm,m10,sH,m11,q8,m12,uB,hT⟩:=hI
        match q,hq,cC with
        | 0,hq,cC=>
         obtain rfl:=dC hq;refine O3 O (by exact f13) O (ao.n ?_);exact⟨f2,f4,f12,f13,f16,f83,f84,f85,f17,f18,fun _=>O,p1,p2,p3,p4,p5,p6,p7,p8,p9,b,u,Mm,m10,sH,m11,q8,m12,uB,hT⟩
        | 1,hq,cC=>
         obtain rfl:=dC hq;refine qF O (by exact f17) O (ao.n ?_);exact⟨f2,f4,f12,f13,f16,f83,f84,f85,f17,f18,p0,fun _=>O,p2,p3,p4,p5,p6,p7,p8,p9,b,u,Mm,m10,sH,m11,q8,m12,uB,hT⟩
        | 2,hq,cC=>
         obtain rfl:=dC hq;refine qF O (by exact f18) O (ao.n ?_);exact⟨f2,f4,f12,f13,f16,f83,f84,f85,f17,f18,p0,p1,fun _=>O,p3,p4,p5,p6,p7,p8,p9,b,u,Mm,m10,sH,m11,q8,m12,uB,hT⟩
        | 3,hq,cC=>
         obtain rfl:=dC hq;refine JB (by exact inferInstance) (by exact p1 (dT hd 1 O)) (by exact p2 (dT hd 2 O)) O O O (ao.n ?_);exact⟨f2,f4,f12,f13,f16,f83,f84,f85,f17,f18,p0,p1,p2,fun _=>O,p4,p5,p6,p7,p8,p9,b,u,Mm,m10,sH,m11,q8,m12,uB,hT⟩
        | 4,hq,cC=>
         obtain rfl:=dC hq;refine O3 O (by exact f13) O (ao.n ?_);exact⟨f2,f4,f12,f13,f16,f83,f84,f85,f17,f18,p0,p1,p2,p3,fun _=>O,p5,p6,p7,p8,p9,b,u,Mm,m10,sH,m11,q8,m12,uB,hT⟩
        | 5,hq,cC=>
         obtain rfl:=dC hq;refine qF O (by exact f17) O (ao.n ?_);exact⟨f2,f4,f12,f13,f16,f83,f84,f85,f17,f18,p0,p1,p2,p3,p4,fun _=>O,p6,p7,p8,p9,b,u,Mm,m10,sH,m11,q8,m12,uB,hT⟩
        | 6,hq,cC=>
         obtain rfl:=dC hq;refine qF O (by exact f18) O (ao.n ?_);exact⟨f2,f4,f12,f13,f16,f83,f84,f85,f17,f18,p0,p1,p2,p3,p4,p5,fun _=>O,p7,p8,p9,b,u,Mm,m10,sH,m11,q8,m12,uB,hT⟩
        | 7,hq,cC=>
         obtain rfl:=dC hq;refine JB (by exact inferInstance) (by exact p5 (dT hd 5 O)) (by exact p6 (dT hd 6 O)) O O O (ao.n ?_);exact⟨f2,f4,f12,f13,f16,f83,f84,f85,f17,f18,p0,p1,p2,p3,p4,p5,p6,fun _=>O,p8,p9,b,u,Mm,m10,sH,m11,q8,m12,uB,hT⟩
        | 8,hq,cC=>
         obtain rfl:=dC hq;have n12:S 12=false:=by
          cases h:S 12 with
          | false=>rfl
          | true=>rw [<-cC];exact(dT (dh 12 _ h rfl) 8 rfl).symm
         obtain rfl:=m12 n12;have jP:uS w4 g (dY pC uG Mm):=(hT.sub (iQ b _)).Bz 2 O;refine Xk T1 qX (fun p hp=> (EE p hp).1) Hx jP (by exact p4 (dT hd 4 O)) (by exact p7 (dT hd 7 O)) (by exact gqV _ x) O ?_;exact ao.n ⟨f2,f4,f12,f13,f16,f83,f84,f85,f17,f18,p0,p1,p2,p3,p4,p5,p6,p7,fun _=>O,p9,b,u,_,m10,sH,m11,q8,fun _=>O,fun h=> (nomatch n12.symm.trans h),hT⟩
        | 9,hq,cC=>
         obtain rfl:=dC hq;refine O1 1 ((hT.sub (iQ b _)).rd 1 O) (by exact f16) O O (ao.n ?_);exact⟨f2,f4,f12,f13,f16,f83,f84,f85,f17,f18,p0,p1,p2,p3,p4,p5,p6,p7,p8,fun _=>O,b,u,Mm,m10,sH,m11,q8,m12,uB,hT⟩
        | 10,hq,cC=>
         obtain rfl:=dC hq;obtain rfl:=m10 cC;refine OY hT (by exact p9 (dT hd 9 O)) O O ?_;intro A9 w9 hT;refine ao.n ?_;exact⟨f2,f4,f12,f13,f16,f83,f84,f85,f17,f18,p0,p1,p2,p3,p4,p5,p6,p7,p8,p9,[jy 182 A9 1 1 0 [s2]],u,Mm,fun h=> (nomatch (show true=false from h)),fun _=> ⟨A9,O,O⟩,m11,q8,m12,uB,hT⟩
        | 11,hq,cC=>
         obtain rfl:=dC hq;have n12:S 12=false:=by
          cases h:S 12 with
          | false=>rfl
          | true=>rw [<-cC];exact(dT (dh 12 _ h rfl) 11 rfl).symm
         obtain⟨A9,Ev,rfl⟩:=sH (dT hd 10 rfl);obtain rfl:=m11 cC;refine OW 1 hT O (hT.BA 0 O) (by exact p8 (dT hd 8 O)) (by exact Ev) O (by omega) (by omega) O ?_;intro A3 c3 q3 w9 Fb hT;refine ao.n ?_;exact⟨f2,f4,f12,f13,f16,f83,f84,f85,f17,f18,p0,p1,p2,p3,p4,p5,p6,p7,p8,p9,_,(⟨A3,(ns M x).1.n+1,c3⟩,q3,(ns M x).2.2++ [s2]),Mm,m10,fun _=> ⟨A9,Ev,O⟩,fun h=> (nomatch (show true=false from h)),fun _=> ⟨O,by show q3=0;omega,O,O⟩,m12,fun h=> (nomatch n12.symm.trans h),hT⟩
        | 12,hq,cC=>
         obtain rfl:=dC hq;obtain⟨A9,Ev,rfl⟩:=sH (dT hd 10 rfl);have q11:=q8 (dT hd 11 O);obtain rfl:=m12 cC;refine Xt O T1 3 (a:=x) (u:=u) qX (fun p hp=> (EE p hp).1) Hx hT O (by exact p0 (dT hd 0 O)) (by exact p3 (dT hd 3 O)) (by exact q11.1) ?_;intro w9 hT;refine ao.n ?_;exact⟨f2,f4,f12,f13,f16,f83,f84,f85,f17,f18,p0,p1,p2,p3,p4,p5,p6,p7,p8,p9,_,u,_,m10,fun _=> ⟨A9,Ev,O⟩,m11,q8,fun h=> (nomatch (show true=false from h)),fun _=>O,hT⟩
        | q+13,hq,_=>exact(nomatch hq)
       ·intro S e1 w4 eJ hI;obtain⟨f2,f4,f12,f13,f16,f83,f84,f85,f17,f18,p0,p1,p2,p3,p4,p5,p6,p7,p8,p9,b,u,Mm,m10,sH,m11,q8,m12,uB,hT⟩:=hI;obtain⟨A9,Ev,rfl⟩:=sH (eJ 10 (by decide));obtain⟨h139,u1,u2,u3⟩:=q8 (eJ 11 (by decide));obtain rfl:=uB (eJ 12 (by decide));refine Cc (F:=[(2,.pointer A2),(4,.slice A4 L c4),(12,.slice A7 3 3),(13,.map (some g)),(83,.slice A5 L c5),(84,ak L),(85,ak q)]) ⟨f2,f4,f12,f13,f83,f84,f85,au⟩ ?_;have hT:=(((hT.tail.perm ((U5 _ _ _ _ _).symm.cons _)).aih).perm (U4 _ _ _ _ _).symm).tail;rw [<-abf]at hT;clear hS;refine jW O (aH O (aT O (tQ ?_)));refine⟨(q+1,eO M x u),by show L - (q+1)<L - q;omega,⟨O,O,O,O,O,O,aF (Value.int .i64) (by omega),au⟩,by show q+1<=L;omega,?_,fun p hp=>?_,(Vq Hx).1,hT⟩
        ·show vy (eO M x u)=_;rw [ahK,u3,aaw,E9,xo,<-hx,<-mT]
        ·rcases Vo hp with rfl | hp
         ·exact⟨qX,u1,by show u.1.n<=q+1;omega⟩
         ·have h9:=EE p hp;exact⟨h9.1,h9.2.1,by show p.2.1.n<=q+1;have:=h9.2.2;omega⟩
    ·obtain rfl:q=L:=by omega
     rw [gR (by omega)]at hS E9;rw [dU]at hS;have LB:Z.length=k:=by rw [hZ];simp
     have HJ:∀(i:Nat) (p:qE),M[i]?=some p->(p.1,p.2.2.2)∈s6 V SD []:=fun i p h=>by
      rw [<-E9];exact dA.2 ⟨p,List.mem_of_getElem? h,O⟩
     refine bn O (bo (cL O ?_));refine Xr 7 182 hS O O O ?_;clear hS;intro r es cl w8 H4 ou hS;have hSi:∀(i:Nat) (y:MapEntry),es[i]?=some y->∃p,M[i]?=some p/\y.key=pC p.1/\y.val=uG p.2:=fun i y h=>by
      have h1:=aF (fun l:List (ad×ad)=>l[i]?) H4;simp only [II,dY,List.getElem?_map,h,Option.map_some]at h1;obtain⟨p,hp,h2⟩:=Option.map_eq_some_iff.1 h1.symm;exact⟨p,hp,(aF Prod.fst h2).symm,(aF Prod.snd h2).symm⟩
     have hSl:es.length=M.length:=by have:=aF List.length H4;simpa [II,dY]using this
     have hS:St w w8 (oC 182 r g cl []::(pD A7 A1 A3 A6 k uL one Z++ (pE A2 A4 A5 q c4 c5 V SD++ (rH 183 g es cl::kR 182 M)))):=hS;refine aC O ?_;refine Cd.loop (α:=List Nat×ai) (fun z=> [(2,.pointer A2),(12,.slice A7 3 3),(142,.pointer (some ⟨r,0,Option.none⟩))]) (fun z w'=>z.2.length=k/\(∀(i:Nat) (p:qE) (y:MapEntry),es[i]?=some y->M[i]?=some p->y.born∈z.1->WJ z.2 T p.2.2.2)/\St w w' (oC 182 r g cl z.1::(pD A7 A1 A3 A6 k uL one z.2++ (pE A2 A4 A5 q c4 c5 V SD++ (rH 183 g es cl::kR 182 M))))) (fun z=> (qZ es z.1).length) ([],Z) ⟨rfl,rfl,rfl,au⟩ ⟨LB,fun i p y _ _ h=> (by cases h),hS⟩ ?_;clear hS;rintro⟨seen,M2⟩ ev w9 ⟨ED,LJ,hS⟩;dsimp only at ED LJ hS|-;refine bg O (Xq 8 0 hS O O O O (fun hl=>?_) (fun y dV hy bN=>?_))
     ·--dup 2
      have hMT:M2=T:=by
       refine aar (by rw [ED,RT]) fun f hf=>?_
       obtain⟨p,hp,a,ha,yM⟩:=abP f (il.2 (by omega));rw [<-E9]at hp;obtain⟨p',kM,rfl⟩:=dA.1 hp;obtain⟨i,hi⟩:=List.mem_iff_getElem?.1 kM;obtain⟨y,hy⟩:∃y,es[i]?=some y:=⟨_,fZ (by rw [hSl];exact(gm.1 hi).1)⟩;have h9:=LJ i p' y hy hi (afW hl (List.mem_of_getElem? hy)) a ha;rcases yM with e | e
       ·rw [<-e];exact h9.1
       ·rw [<-e];exact h9.2
      subst hMT;refine aC O (Cd.fC O ?_);refine bn O (bo (cL O ?_));refine D1 (by exact inferInstance) O O O O (gH hS O ?_);clear hS;intro BJ dV hS;refine bO 1 0 hS O O O O O O O ?_;clear hS;intro dZ hS;have hS:St w dZ (Bx 24 1 BJ [.slice A7 3 3]::oC 182 r g cl seen::(pD A7 A1 A3 A6 k uL one M2++ (pE A2 A4 A5 q c4 c5 V SD++ (rH 183 g es cl::kR 182 M)))):=hS;have jP:bF dZ A7 3 [⟨A1,k,k⟩,⟨A3,k,k⟩,⟨A6,k,k⟩] [uL,one,M2]:=St.jj (w0:=w) (t1:=34) (t2:=2) (c:=3) (rs:=[⟨A1,k,k⟩,⟨A3,k,k⟩,⟨A6,k,k⟩]) (xss:=[uL,one,M2]) (ks:=pE A2 A4 A5 q c4 c5 V SD++ (rH 183 g es cl::kR 182 M)) hS.tail.tail O;refine ar O (ao.dq 0 (hS.rd 0 O) O O O (aQ (IF A7 3 3 _ _ _ jP (by omega) (by omega)) O ?_));rintro _ fg ⟨rfl,aw⟩;have hS:=hS.aq aw.below;have qa:decide (cN [uL,one,M2])=true:=dM RG;rw [qa]
      first | refine fv rfl rfl ?_ | refine gA rfl rfl ?_
      refine aC O (Cd.fC O (aA O (ao.dq 0 (hS.rd 0 O) O O O (bO 1 8 hS O O O O O O O ?_))));clear hS;intro gj hS;refine bI O (kb O (hS.rd 8 O) O ?_);exact⟨A7,[⟨A1,k,k⟩,⟨A3,k,k⟩,⟨A6,k,k⟩],O,O,hS.tail.tail.sub (ng (pD A7 A1 A3 A6 k uL one M2) _)⟩
     ·obtain⟨i,hi⟩:=List.mem_iff_getElem?.1 (Un hy);obtain⟨p,hp,jG,kq⟩:=hSi i y hi;have Ig:=HJ i p hp;have jS:=Un hy;obtain⟨yk,yv,yb⟩:=y;obtain⟨px,⟨sa,sn,sc⟩,sz,sl⟩:=p;dsimp only at jG kq bN Ig;subst jG;have kq:yv= .slice sa sn sc:=kq;subst kq;have qg:=adi _ Ig;have tx:=adp _ Ig;have Is:=R9 _ Ig;dsimp only at qg tx Is;obtain⟨a,b,rfl⟩:=afP qg;have mn:=tx a O b O;have qR:=Is a (by simp);have LG:=Is b (by simp);clear tx Is qg;have hS:St w dV (oC 182 r g cl (seen++ [yb])::(pD A7 A1 A3 A6 k uL one M2++ (pE A2 A4 A5 q c4 c5 V SD++ (rH 183 g es cl::kR 182 M)))):=bN;have Iu:sn=2:=((hS.BA (i+9) (t:=182) (A:=sa) (k:=sn) (q:=sc) (z:=sz) (cs:=[a,b]) (by
       show(kR 182 M)[i]?=_;unfold kR;rw [List.getElem?_map,hp]
       rfl)).1).symm
      refine aC O (Cd.gC O (aA O (Xd 8 0 hS O O jS O O ?_)));refine ar O (bc O O (aC O ?_));refine nP O (by omega) (dw O ?_);refine Cd.loop (α:=Nat×ai) (fun z=> [(2,.pointer A2),(12,.slice A7 3 3),(20,.slice sa sn sc),(142,.pointer (some ⟨r,0,Option.none⟩)),(151,ak (z.1:Int))]) (fun z w'=>z.1<=2/\z.2.length=k/\(∀f:Int,0<=f->gi M2 f=gi T f->gi z.2 f=gi T f)/\(1<=z.1->gi z.2 a.s=gi T a.s/\gi z.2 b.s=gi T b.s)/\(2<=z.1->gi z.2 a.v=gi T a.v/\gi z.2 b.v=gi T b.v)/\St w w' (oC 182 r g cl (seen++ [yb])::(pD A7 A1 A3 A6 k uL one z.2++ (pE A2 A4 A5 q c4 c5 V SD++ (rH 183 g es cl::kR 182 M))))) (fun z=>2 - z.1) (0,M2) (amz O) ⟨aZ _,ED,fun _ _ h=>h,fun h=>absurd (show 1<=0 from h) (by decide),fun h=>absurd (show 2<=0 from h) (by decide),hS⟩ ?_;clear hS bN;rintro⟨t,Mt⟩ ev dZ ⟨ht,Lk,uk,sC,yY,hS⟩;dsimp only at ht Lk uk sC yY hS|-;refine bJ O (aM _ O (fun h5=>?_) (fun h5=>?_))
      ·have Fk:t<2:=by omega
       have hQ:vP dZ sa sn [a,b]:=hS.BA (i+9) (t:=182) (q:=sc) (z:=sz) (by
        show(kR 182 M)[i]?=_;unfold kR;rw [List.getElem?_map,hp]
        rfl)
       have R2:=hQ.at_ (j:=0) (by omega);have R3:=hQ.at_ (j:=1) (by omega);refine dw O (eo [xS (sa) (sn) (sc),xI ((t:Int)),xP (ay sa (0*2)),xP (ay (ay sa (0*2)) (0+t)),xI (mC a t),xS (sa) (sn) (sc),xI ((t:Int)),xP (ay sa (1*2)),xP (ay (ay sa (1*2)) (0+t)),xI (mC b t),xI (mC a t),xI (mC b t)] O (eL O) ?_ ?_)
       ·refine⟨Dr O,Dr O,?_,?_,?_,Dr O,Dr O,?_,?_,?_,Dr O,Dr O,au⟩
        ·intro e1 w1 hb hp aW;refine JF (hQ.below hb) O O O (by omega) (by omega) (ao.n ?_);exact fM.dn (Below.refl _ _) O
        ·intro e1 w1 hb hp aW;refine tS (n:=2) (o:=0) (R2.below hb) (by omega) (by rw [jh (ay sa (0*2))];rfl) O O (by omega) (by omega) ?_;exact ao.n (fM.dn (Below.refl _ _) O)
        ·intro e1 w1 hb hp aW;refine ao.ld (R2.below hb) O (by omega) (show _=Value.int .i64 (mC a t) from by rw [Nat.zero_add];exact Vu a Fk) O O ?_;exact ao.n (fM.dn (Below.refl _ _) O)
        ·intro e1 w1 hb hp aW;refine JF (hQ.below hb) O O O (by omega) (by omega) (ao.n ?_);exact fM.dn (Below.refl _ _) O
        ·intro e1 w1 hb hp aW;refine tS (n:=2) (o:=0) (R3.below hb) (by omega) (by rw [jh (ay sa (1*2))];rfl) O O (by omega) (by omega) ?_;exact ao.n (fM.dn (Below.refl _ _) O)
        ·intro e1 w1 hb hp aW;refine ao.ld (R3.below hb) O (by omega) (show _=Value.int .i64 (mC b t) from by rw [Nat.zero_add];exact Vu b Fk) O O ?_;exact ao.n (fM.dn (Below.refl _ _) O)
       intro u fg abQ _;have hS:=hS.aq abQ;have Dh:(0<=mC a t/\mC a t<k)/\(0<=mC b t/\mC b t<k)/\gi T (mC a t)=mC b t/\gi T (mC b t)=mC a t:=by
        unfold mC
        split
        ·exact⟨by omega,by omega,mn.1.1,mn.1.2⟩
        ·exact⟨by omega,by omega,mn.2.1,mn.2.2⟩
       have Fl:t=0->mC a t=a.s/\mC b t=b.s:=fun h=>by subst h;exact⟨rfl,rfl⟩
       have TE:t=1->mC a t=a.v/\mC b t=b.v:=fun h=>by subst h;exact⟨rfl,rfl⟩
       generalize mC a t=va at*;generalize mC b t=vb at*;have Av:∀f:Int,0<=f->(f=va\/f=vb\/gi Mt f=gi T f)->gi ((Mt.set va.toNat vb).set vb.toNat va) f=gi T f:=fun f hf h=>by
        refine Ki ⟨Dh.2.1.1,by rw [lT];omega⟩ Dh.2.2.2 hf ?_;rcases h with h | h | h
        ·exact .inr (Ki ⟨Dh.1.1,by omega⟩ Dh.2.2.1 hf (.inl h))
        ·exact .inl h
        ·exact .inr (Ki ⟨Dh.1.1,by omega⟩ Dh.2.2.1 hf (.inr h))
       refine eP O (BN (by kernel_rfl) (by kernel_rfl) (fun S e1 w1=>Xz w A7 A1 A3 A6 k t va vb ⟨sa,sn,sc⟩ r A2 uL one Mt (oC 182 r g cl (seen++ [yb])) (pE A2 A4 A5 q c4 c5 V SD++ (rH 183 g es cl::kR 182 M)) S e1 w1) (fun w4 hb=> ⟨O,O,O,O,O,O,O,fun h=> (nomatch h),fun h=> (nomatch h),fun h=> (nomatch h),fun h=> (nomatch h),fun h=> (nomatch h),fun h=> (nomatch h),fun h=> (nomatch h),fun h=> (nomatch h),fun h=> (nomatch h),fun h=> (nomatch h),fun h=> (nomatch h),fun h=> (nomatch h),Mt,fun _=>O,fun h=> (nomatch h),fun h=> (nomatch h),hS.aq hb⟩) ?_ ?_)
       ·intro S q o e1 w4 hq cC hd dh hI;obtain⟨f2,f12,f20,f22,f23,f142,f151,p0,p1,p2,p3,p4,p5,p6,p7,p8,p9,ir,iw,M2,m11,m12,m13,hT⟩:=hI
        match q,hq,cC with
        | 0,hq,cC=>
         obtain rfl:=dC hq;refine lW O (by exact f12) O (ao.n ?_);exact⟨f2,f12,f20,f22,f23,f142,f151,fun _=>O,p1,p2,p3,p4,p5,p6,p7,p8,p9,ir,iw,M2,m11,m12,m13,hT⟩
        | 1,hq,cC=>
         obtain rfl:=dC hq;refine amn (hT.fG 1 O).2 (by exact p0 (dT hd 0 O)) O O (by omega) (by omega) (ao.n ?_);exact⟨f2,f12,f20,f22,f23,f142,f151,p0,fun _=>O,p2,p3,p4,p5,p6,p7,p8,p9,ir,iw,M2,m11,m12,m13,hT⟩
        | 2,hq,cC=>
         obtain rfl:=dC hq;refine amt (i:=2) (hT.fG 1 O) (by exact p1 (dT hd 1 O)) (by decide) O O ?_;exact ao.n ⟨f2,f12,f20,f22,f23,f142,f151,p0,p1,fun _=>O,p3,p4,p5,p6,p7,p8,p9,ir,iw,M2,m11,m12,m13,hT⟩
        | 3,hq,cC=>
         obtain rfl:=dC hq;refine qF O (by exact f22) O (ao.n ?_);exact⟨f2,f12,f20,f22,f23,f142,f151,p0,p1,p2,fun _=>O,p4,p5,p6,p7,p8,p9,ir,iw,M2,m11,m12,m13,hT⟩
        | 4,hq,cC=>
         obtain rfl:=dC hq;refine lW O (by exact f12) O (ao.n ?_);exact⟨f2,f12,f20,f22,f23,f142,f151,p0,p1,p2,p3,fun _=>O,p5,p6,p7,p8,p9,ir,iw,M2,m11,m12,m13,hT⟩
        | 5,hq,cC=>
         obtain rfl:=dC hq;refine amn (hT.fG 1 O).2 (by exact p4 (dT hd 4 O)) O O (by omega) (by omega) (ao.n ?_);exact⟨f2,f12,f20,f22,f23,f142,f151,p0,p1,p2,p3,p4,fun _=>O,p6,p7,p8,p9,ir,iw,M2,m11,m12,m13,hT⟩
        | 6,hq,cC=>
         obtain rfl:=dC hq;refine amt (i:=2) (hT.fG 1 O) (by exact p5 (dT hd 5 O)) (by decide) O O ?_;exact ao.n ⟨f2,f12,f20,f22,f23,f142,f151,p0,p1,p2,p3,p4,p5,fun _=>O,p7,p8,p9,ir,iw,M2,m11,m12,m13,hT⟩
        | 7,hq,cC=>
         obtain rfl:=dC hq;refine qF O (by exact f23) O (ao.n ?_);exact⟨f2,f12,f20,f22,f23,f142,f151,p0,p1,p2,p3,p4,p5,p6,fun _=>O,p8,p9,ir,iw,M2,m11,m12,m13,hT⟩
        | 8,hq,cC=>
         obtain rfl:=dC hq;refine qF O (by exact f23) O (ao.n ?_);exact⟨f2,f12,f20,f22,f23,f142,f151,p0,p1,p2,p3,p4,p5,p6,p7,fun _=>O,p9,ir,iw,M2,m11,m12,m13,hT⟩
        | 9,hq,cC=>
         obtain rfl:=dC hq;refine qF O (by exact f22) O (ao.n ?_);exact⟨f2,f12,f20,f22,f23,f142,f151,p0,p1,p2,p3,p4,p5,p6,p7,p8,fun _=>O,ir,iw,M2,m11,m12,m13,hT⟩
        | 10,hq,cC=>
         obtain rfl:=dC hq;refine amn (hT.bz 4 O).2 (by exact p2 (dT hd 2 O)) (by exact p3 (dT hd 3 O)) O (by omega) (by omega) (ao.n ?_);exact⟨f2,f12,f20,f22,f23,f142,f151,p0,p1,p2,p3,p4,p5,p6,p7,p8,p9,fun _=>O,iw,M2,m11,m12,m13,hT⟩
        | 11,hq,cC=>
         obtain rfl:=dC hq;have n13:S 13=false:=by
          cases h:S 13 with
          | false=>rfl
          | true=>rw [<-cC];exact(dT (dh 13 _ h rfl) 11 rfl).symm
         obtain rfl:=m11 cC;refine lC 4 (i:=va) hT O (by exact ir (dT hd 10 O)) (by exact p8 (dT hd 8 O)) (by omega) ?_;intro w9 hT;refine ao.n ?_;exact⟨f2,f12,f20,f22,f23,f142,f151,p0,p1,p2,p3,p4,p5,p6,p7,p8,p9,ir,iw,_,fun h=> (nomatch (show true=false from h)),fun _ _=>O,fun h=> (nomatch n13.symm.trans h),hT⟩
        | 12,hq,cC=>
         obtain rfl:=dC hq;refine amn (hT.bz 4 O).2 (by exact p6 (dT hd 6 O)) (by exact p7 (dT hd 7 O)) O (by omega) (by omega) (ao.n ?_);exact⟨f2,f12,f20,f22,f23,f142,f151,p0,p1,p2,p3,p4,p5,p6,p7,p8,p9,ir,fun _=>O,M2,m11,m12,m13,hT⟩
        | 13,hq,cC=>
         obtain rfl:=dC hq;obtain rfl:=m12 (dT hd 11 rfl) cC;refine lC 4 (i:=vb) hT O (by exact iw (dT hd 12 O)) (by exact p9 (dT hd 9 O)) (by omega) ?_;intro w9 hT;refine ao.n ?_;exact⟨f2,f12,f20,f22,f23,f142,f151,p0,p1,p2,p3,p4,p5,p6,p7,p8,p9,ir,iw,_,fun h=> (nomatch (dT hd 11 O).symm.trans h),fun _ h=> (nomatch (show true=false from h)),fun _=>O,hT⟩
        | q+14,hq,_=>exact(nomatch hq)
       ·intro S e1 w4 eJ hI;obtain⟨f2,f12,f20,f22,f23,f142,f151,p0,p1,p2,p3,p4,p5,p6,p7,p8,p9,ir,iw,M2,m11,m12,m13,hT⟩:=hI;obtain rfl:=m13 (eJ 13 (by decide));refine Cc (F:=[(2,.pointer A2),(12,.slice A7 3 3),(20,.slice sa sn sc),(142,.pointer (some ⟨r,0,Option.none⟩)),(151,ak t)]) ⟨f2,f12,f20,f142,f151,au⟩ (jW O (aH O (aT O (tQ ?_))));refine⟨(t+1,(Mt.set va.toNat vb).set vb.toNat va),by show 2 - (t+1)<2 - t;omega,⟨O,O,O,O,aF (Value.int .i64) (by omega),au⟩,by show t+1<=2;omega,by show((Mt.set va.toNat vb).set vb.toNat va).length=k;simp [Lk],fun f hf h=>Av f hf (.inr (.inr (uk f hf h))),fun _=>?_,fun h=>?_,hT⟩
        ·rcases Nat.eq_zero_or_pos t with e | e
         ·exact⟨Av _ qR.1.1 (.inl (Fl e).1.symm),Av _ LG.1.1 (.inr (.inl (Fl e).2.symm))⟩
         ·have:=sC e;exact⟨Av _ qR.1.1 (.inr (.inr this.1)),Av _ LG.1.1 (.inr (.inr this.2))⟩
        ·have e:t=1:=by have:2<=t+1:=h;omega
         exact⟨Av _ qR.2.1 (.inl (TE e).1.symm),Av _ LG.2.1 (.inr (.inl (TE e).2.symm))⟩
      ·have Fk:t=2:=by omega
       have g1:=sC (by omega);have g2:=yY (by omega);refine bn O (bo (BP O (tQ ?_)));refine⟨(seen++ [yb],Mt),afV hy,(amz O),Lk,fun i' p' y' di kM hm=>?_,hS⟩;rcases kj.1 hm with hm | hm
       ·intro z hz;have hc:=LJ i' p' y' di kM hm z hz;have pk:=R9 _ (HJ i' p' kM) z hz;exact⟨uk _ pk.1.1 hc.1,uk _ pk.2.1 hc.2⟩
       ·have ei:i'=i:=ag8 ou.2 (a:=yb) (by simp [di];simpa using hm) (by simp [hi]);subst ei;obtain rfl:=dC (hp.symm.trans kM);intro z hz;rcases iP.1 hz with rfl | hz
        ·exact⟨g1.1,g2.1⟩
        ·obtain rfl:=gG.1 hz;exact⟨g1.2,g2.2⟩
def ya(xs:ai)(i:Nat):ai:=[gi xs (3* (i:Int)),gi xs (3* (i:Int)+1),gi xs (3* (i:Int)+2)]
def qv(xs:ai)(k:Nat):ah:=(List.range k).map (ya xs)
theorem ajB(xs:ai)(k:Nat):(qv xs k).length=k:=by simp [qv]
theorem ajC(xs:ai)(k:Nat):qv xs (k+1)=qv xs k++ [ya xs k]:=by simp [qv,jB]
theorem Uc(A:aj)(n c k:Nat)(xs:ai)(w:aa)(hX:cg w A n xs)(hn:n=3*k)(hk:k<=1000):
 aK prog 107 [.slice A n c] w (fun v w'=>∃(A':aj) (c':Nat) (rs':List aO),v= .slice A' k c'/\rs'.length=k/\St w w' (aL 34 2 A' k c' rs' (qv xs k))):=by
 refine bA func107 O ntmps107 O (df O) (bg O (jn (St.refl w) O ?_));intro A5 w1 hS;have hS:St w w1 (aL 34 2 A5 0 0 [] []):=hS;refine aC O (Cd.loop (α:=Nat×(aj×Nat)×List aO) (fun z=> [(0,.slice A n c),(3,.slice z.2.1.1 z.1 z.2.1.2),(4,ak (3* (z.1:Int)))]) (fun z w'=>z.1<=k/\z.2.2.length=z.1/\St w w' (aL 34 2 z.2.1.1 z.1 z.2.1.2 z.2.2 (qv xs z.1))) (fun z=>k - z.1) (0,(A5,0),[]) (amz O) ⟨aZ _,O,hS⟩ ?_);clear hS;rintro⟨q,⟨A3,c3⟩,rs⟩ ev w2 ⟨hq,cI,hS⟩;dsimp only at hq cI hS|-;refine bg O (aH O (ar O (bc O O (aC O ?_))));refine aM _ O (fun h1=>?_) (fun h1=>?_)
 ·have hqk:q<k:=by omega
  have CX:=hS.gh hX;have zd:=ajB xs q;refine dw O ?_;refine kB [17] [yS (A3) (q) (c3),yS (A) (n) (c),yI ((3* (q:Int))),yP (ay (A) ((3* (q:Int))).toNat),yI (gi (xs) ((3* (q:Int)))),yS (A) (n) (c),yI ((3* (q:Int))),yI (((3* (q:Int)))+ ((1:Int))),yP (ay (A) (((3* (q:Int)))+ ((1:Int))).toNat),yI (gi (xs) (((3* (q:Int)))+ ((1:Int)))),yS (A) (n) (c),yI ((3* (q:Int))),yI (((3* (q:Int)))+ ((2:Int))),yP (ay (A) (((3* (q:Int)))+ ((2:Int))).toNat),yI (gi (xs) (((3* (q:Int)))+ ((2:Int)))),.pr (fun v w'=>∃iY,v= .slice iY 3 3/\St w w' (ax 2 iY 3 3 (ya xs q)::aL 34 2 A3 q c3 rs (qv xs q))),.pr (fun v w'=>∃iY yf,v= .slice yf 1 1/\St w w' (bZ 34 yf 1 1 [⟨iY,3,3⟩]::ax 2 iY 3 3 (ya xs q)::aL 34 2 A3 q c3 rs (qv xs q))),.pr (fun v w'=>∃iY mY nn,v= .slice mY (q+1) nn/\St w w' (ax 2 iY 3 3 (ya xs q)::bZ 34 mY (q+1) nn (rs++ [⟨iY,3,3⟩])::cK 2 rs (qv xs q))),.pr (fun v w'=>∃iY mY nn,v= .slice mY (q+1) nn/\St w w' (ax 2 iY 3 3 (ya xs q)::bZ 34 mY (q+1) nn (rs++ [⟨iY,3,3⟩])::cK 2 rs (qv xs q)))] (ly (ly (ly (ly (ly (ly (ly (ly (ly (ly (ly (ly (ly (ly (ly (de.2 ⟨Ye.dp (fun v w w' h hb=>by obtain⟨iY,hv,h1⟩:=h;exact⟨iY,hv,h1.aq hb⟩),(de.2 ⟨Ye.dp (fun v w w' h hb=>by obtain⟨iY,yf,hv,h1⟩:=h;exact⟨iY,yf,hv,h1.aq hb⟩),(de.2 ⟨Ye.dp (fun v w w' h hb=>by obtain⟨iY,mY,nn,hv,h1⟩:=h;exact⟨iY,mY,nn,hv,h1.aq hb⟩),(de.2 ⟨Ye.dp (fun v w w' h hb=>by obtain⟨iY,mY,nn,hv,h1⟩:=h;exact⟨iY,mY,nn,hv,h1.aq hb⟩),(fun _ h=>by cases h)⟩)⟩)⟩)⟩)))))))))))))))) ?_ ?_
  ·refine⟨?_,bT O,bT O,cP fun _ _ hb _ _ _=>aD (CX.aq hb).2 O (bE O O),cP fun _ _ hb _ _ _=>a8 (CX.aq hb) O (bE O O),bT O,bT O,aP fun _ _=>aH O (bE O O),cP fun _ _ hb _ _ _=>aD (CX.aq hb).2 O (bE O O),cP fun _ _ hb _ _ _=>a8 (CX.aq hb) O (bE O O),bT O,bT O,aP fun _ _=>aH O (bE O O),cP fun _ _ hb _ _ _=>aD (CX.aq hb).2 O (bE O O),cP fun _ _ hb _ _ _=>a8 (CX.aq hb) O (bE O O),?_,?_,?_,?_,au⟩
   ·intro e1 w1 cc eZ dt fQ hp aW hq;show ao _ _ _ _ _ _ _;refine lW O (by exact aW 18 _ O (by kernel_rfl)) O (ao.n (iN O (by exact O)))
   ·refine cP fun e1 w1 hb hp aW hq=>?_
    exact fS (ya xs q) (St.refl _) O O (by decide) (by decide) O O fun iY w9 aw=>ao.n (fN.dn O aw.below ⟨iY,O,(hS.aq hb).call aw⟩)
   ·refine cP fun e1 w1 hb hp aW hq=>?_
    obtain⟨iY,hv,h1⟩:=(hp 15 _ _ (by kernel_rfl) rfl rfl (by kernel_rfl));refine kV (St.refl _) (by exact hv) O O ?_;intro yf w9 aw;exact ao.n (fN.dn O aw.below ⟨iY,yf,O,h1.call aw⟩)
   ·refine kG fun e1 w1 hb hp aW hq=>?_
    obtain⟨iY,yf,hv,h1⟩:=(hp 16 _ _ (by kernel_rfl) rfl rfl (by kernel_rfl));refine lA 2 h1 O (h1.fG 0 O) O (by exact hv) O (by omega) (by omega) O ?_;intro mY nn w9 hT;exact ao.n (fY.dn O ⟨iY,mY,nn,O,hT.tail⟩)
   refine dP 1 fun e1 w1 hp aW hq=>?_
   have eN:=hp 17 _ _ (by kernel_rfl) O O (by kernel_rfl);obtain⟨iY,mY,nn,hv,h1⟩:=(hp 17 _ _ (by kernel_rfl) rfl rfl (by kernel_rfl));refine lW O (by exact hv) O (ao.n ?_);exact fN.dn O (Below.refl _ _) ⟨iY,mY,nn,O,h1⟩
  intro u w3 _ hu _ _;obtain⟨iY,mY,nn,wq,hT⟩:=hu 18 _ rfl (by kernel_rfl);refine jW O (aH O (aT O (tQ ?_)));exact⟨(q+1,(mY,nn),rs++ [⟨iY,3,3⟩]),by show k - (q+1)<k - q;omega,⟨O,wq,aF (Value.int .i64) (by omega),au⟩,by show q+1<=k;omega,by simp [cI],by
   show St w w3 (aL 34 2 mY (q+1) nn (rs++ [⟨iY,3,3⟩]) (qv xs (q+1)));rw [ajC];unfold aL;rw [show cK 2 (rs++ [⟨iY,3,3⟩]) (qv xs q++ [ya xs q])=cK 2 rs (qv xs q)++ [ax 2 iY 3 3 (ya xs q)] from by rw [DE (by omega)];rfl];refine hT.perm ?_;exact(List.Perm.swap _ _ _).trans (((List.perm_append_singleton _ _).symm).cons _)⟩
 obtain rfl:q=k:=by omega
 refine bn O (bo (gq O ?_));exact ia O ⟨A3,c3,rs,O,cI,hS⟩
theorem afv{M K:ah}{kind:Int}(h1:o7 M K kind=0):∀X Z Y W cx cz cy cw vF wK w',vH w' X (gU M.length (bK M M.length)) (aS M M.length) Y vF (bR M)->vH w' Z (gU K.length (bK K K.length)) (aS K K.length) W wK (bR K)->aK prog 181 [.agg #[ak (M.length:Int),.slice X (aS M M.length+2) cx,.slice Y (aS M M.length+2) cy],.agg #[ak (K.length:Int),.slice Z (aS K K.length+2) cz,.slice W (aS K K.length+2) cw],ak kind] w' (qx (mB M K kind) (Dy M K kind) w'):=by
 obtain⟨oj,vg,vf⟩:=FN h1;obtain⟨lH,ny⟩:=th vg;obtain⟨mN,pj⟩:=th vf;obtain⟨ok,Mj,S8,hPx⟩:=ahZ h1;have hP:ok=true->sL M K kind=((gY M K kind:Nat):Int)/\gr ((gY M K kind:Nat):Int) (nN M K kind) (nM M K kind):=fun h=>by
  have h0:=Mj.1 h;have hd:=(I2 h0).1;unfold sL nN nM;rw [aB h0,aB h0,aB h0];exact⟨O,hd⟩
 have e1:(if ok=true then vx (gY M K kind) (nN M K kind) (nM M K kind)else [])=mB M K kind:=by
  cases ok
  ·have h3:=S8 O;unfold mB;rw [az (by decide),az (by rw [h3];decide)]
  have h0:=Mj.1 O;unfold mB nN nM;rw [aB rfl,aB h0,aB h0,aB h0]
 have e2:(if ok=true then zq (gY M K kind) (nN M K kind) (nM M K kind)else 3)=Dy M K kind:=by
  cases ok
  ·have h3:=S8 O;unfold Dy;rw [az (by decide),az (by rw [h3];decide),h3]
  have h0:=Mj.1 O;unfold Dy nN nM;rw [aB rfl,aB h0,aB h0,aB h0]
 exact fun X Z Y W cx cz cy cw vF wK w' jg oP=>by
  have:=afu X Z Y W cx cz cy cw _ _ _ _ M.length K.length kind ok (sL M K kind) (gY M K kind) (nN M K kind) (nM M K kind) w' (fun w2 hb=>hPx X Z Y W cx cz cy cw vF wK w2 (jg.aq hb) (oP.aq hb)) hP;rw [e1,e2]at this;exact this
theorem Oe(n kind:Int)(hn:1<=n/\n<=4)(hk:kind=1\/kind=2)(w:aa):
 aK prog 103 [ak n,ak kind] w (kA (gz kind (n - 1).toNat) w):=by
 refine bA func103 O ntmps103 O (qp O O) (bg O (gH (St.refl w) O ?_));intro A4 w1 aI;refine ar O (aQ (VY _) O ?_);rintro _ w2 ⟨E,r,rfl,aw⟩;have aE:=aI.call2 aw;refine gH aE O fun A5 w3 aR=>bO 1 0 aR O O O O O O O fun w4 aX=>aC O ?_;refine Cd.loop (α:=Nat×(aj×Nat)×List aO) (fun z=> [(0,ak n),(1,ak kind),(4,.pointer A4),(5,.pointer A5),(6,ak ((z.1:Int)+1))]) (fun z w'=> (z.1:Int)<=n - 1/\z.2.2.length=(gz kind z.1).length/\St w w' ([eC A5 z.2.1.1 (gz kind z.1).length z.2.1.2,eC A4 none 0 0]++aL 34 2 z.2.1.1 (gz kind z.1).length z.2.1.2 z.2.2 (gz kind z.1))) (fun z=> (n - 1).toNat - z.1) (0,(E,1),[r]) (amz O) ⟨by show(0:Int)<=n - 1;omega,O,aX⟩ ?_;clear aX aR aE aI aw;rintro⟨j,⟨A,c⟩,rs⟩ e w5 ⟨hj,cI,aY⟩;dsimp only at hj cI aY|-;have lI:=aY.rd 0 O;have yE:bF w5 A (gz kind j).length rs (gz kind j):=St.oz aY.tail.tail O;refine bJ O (aM _ O (fun h1=>?_) (fun h1=>?_))
 ·have hg:=Zd hk j (by omega);have hp:=(I5 hg.2).1;obtain⟨lH,ny⟩:=th hg.1;have hMx:=afv hp;refine aA O (ao.dq 0 lI O O O (aQ (Ua A (gz kind j).length c rs (gz kind j) _ yE lH ny.1) O ?_));rintro _ w6 ⟨X,cx,Y,cy,ys,rfl,MQ,Iv⟩;have jg:=QE lH ny.1 Iv;have bk:=aY.aq Iv.below;refine aQ (VY _) O ?_;intro v7 w7 h7;obtain⟨E',r',rfl,hE,C2⟩:=h7.rows;have bG:=bk.aq C2;refine aQ (Ua E' 1 1 [r'] fU _ hE G0 (by show aS fU 1<=500;rw [CB];omega)) O ?_;rintro _ w8 ⟨Z,cz,W,cw,zs,rfl,wu,kN⟩;have oP:=QE G0 (by show aS fU 1<=500;rw [CB];omega) kN;have b6:=bG.aq kN.below;refine ar O (aQ (hMx X Z Y W cx cz cy cw ys zs _ ((jg.aq C2).aq kN.below) oP) O ?_);rintro _ w9 ⟨Am,cm,kc,rfl,ot,aw⟩;have bL:=b6.call2 aw;refine ar O (gH bL O ?_);intro A7 dV bN;refine bO 1 0 bN O O O O O O O fun dZ eA=>ar O (ao.dq 0 (eA.rd 0 O) O O O (bO 1 1 eA O O O O O O O ?_));intro fg dG;refine ar O (aH O (aT O (tQ ?_)));exact⟨(j+1,(Am,cm),kc),by show(n - 1).toNat - (j+1)< (n - 1).toNat - j;omega,(amz O),by show((j+1:Nat):Int)<=n - 1;omega,ot,dG.sub (List.Sublist.cons _ (List.Sublist.cons_cons _ (List.Sublist.cons_cons _ (iQ _ _))))⟩
 have nC:(n - 1).toNat=j:=by omega
 rw [nC];refine bn O (bo (cL O ?_));refine ao.dq 0 lI O O O (bO 1 1 aY O O O O O O O ?_);intro w6 bk;refine bI O (ij O (bk.rd 1 O) ?_);exact⟨A,c,rs,O,cI,bk.tail.tail⟩
set_option maxRecDepth 100000
theorem EV:zN qc:=⟨by decide+kernel,by decide+kernel,by decide+kernel,by decide+kernel,by decide+kernel,by decide+kernel⟩
theorem EW:zN qd:=⟨by decide+kernel,by decide+kernel,by decide+kernel,by decide+kernel,by decide+kernel,by decide+kernel⟩
theorem Ft:zN ql:=⟨by decide+kernel,by decide+kernel,by decide+kernel,by decide+kernel,by decide+kernel,by decide+kernel⟩
theorem VS:zN mD:=⟨by decide+kernel,by decide+kernel,by decide+kernel,by decide+kernel,by decide+kernel,by decide+kernel⟩
def tZ(M:ah):ah:=pT (gl M 0).length M.reverse 0
theorem Qn(M:ah):(tZ M).length=M.length:=by unfold tZ;rw [Q3,List.length_reverse]
noncomputable def iX(s:ByteArray):ah:=if s=cd 0 then gz 1 ((3:Int) - 1).toNat else if s=cd 10 then gz 1 ((4:Int) - 1).toNat else if s=cd 7 then gz 2 ((3:Int) - 1).toNat else if s=cd 11 then mE 3 3 else if s=cd 8 then mE 4 4 else if s=cd 1 then tZ (mapM ql)else if s=cd 3 then tZ (mapM qd)else if s=cd 5 then tZ (mapM qc)else if s=cd 2 then mapM qc else if s=cd 4 then mapM qd else if s=cd 6 then mapM ql else mapM mD
theorem Ny{s:ByteArray}(h:s=cd 0):iX s=gz 1 ((3:Int) - 1).toNat:=by subst h;unfold iX;rw [if_pos rfl]
theorem NA{s:ByteArray}(h:s=cd 10):iX s=gz 1 ((4:Int) - 1).toNat:=by subst h;unfold iX;rw [if_neg (by decide),if_pos rfl]
theorem NF{s:ByteArray}(h:s=cd 7):iX s=gz 2 ((3:Int) - 1).toNat:=by subst h;unfold iX;rw [if_neg (by decide),if_neg (by decide),if_pos rfl]
theorem NB{s:ByteArray}(h:s=cd 11):iX s=mE 3 3:=by subst h;unfold iX;rw [if_neg (by decide),if_neg (by decide),if_neg (by decide),if_pos rfl]
theorem NG{s:ByteArray}(h:s=cd 8):iX s=mE 4 4:=by subst h;unfold iX;rw [if_neg (by decide),if_neg (by decide),if_neg (by decide),if_neg (by decide),if_pos rfl]
theorem Nz{s:ByteArray}(h:s=cd 1):iX s=tZ (mapM ql):=by subst h;unfold iX;rw [if_neg (by decide),if_neg (by decide),if_neg (by decide),if_neg (by decide),if_neg (by decide),if_pos rfl]
theorem NC{s:ByteArray}(h:s=cd 3):iX s=tZ (mapM qd):=by subst h;unfold iX;rw [if_neg (by decide),if_neg (by decide),if_neg (by decide),if_neg (by decide),if_neg (by decide),if_neg (by decide),if_pos rfl]
theorem ND{s:ByteArray}(h:s=cd 5):iX s=tZ (mapM qc):=by subst h;unfold iX;rw [if_neg (by decide),if_neg (by decide),if_neg (by decide),if_neg (by decide),if_neg (by decide),if_neg (by decide),if_neg (by decide),if_pos rfl]
theorem FD{s:ByteArray}(h:s=cd 2):iX s=mapM qc:=by subst h;unfold iX;rw [if_neg (by decide),if_neg (by decide),if_neg (by decide),if_neg (by decide),if_neg (by decide),if_neg (by decide),if_neg (by decide),if_neg (by decide),if_pos rfl]
theorem FE{s:ByteArray}(h:s=cd 4):iX s=mapM qd:=by subst h;unfold iX;rw [if_neg (by decide),if_neg (by decide),if_neg (by decide),if_neg (by decide),if_neg (by decide),if_neg (by decide),if_neg (by decide),if_neg (by decide),if_neg (by decide),if_pos rfl]
theorem FF{s:ByteArray}(h:s=cd 6):iX s=mapM ql:=by subst h;unfold iX;rw [if_neg (by decide),if_neg (by decide),if_neg (by decide),if_neg (by decide),if_neg (by decide),if_neg (by decide),if_neg (by decide),if_neg (by decide),if_neg (by decide),if_neg (by decide),if_pos rfl]
theorem NH{s:ByteArray}(h:s=cd 9):iX s=mapM mD:=by subst h;unfold iX;rw [if_neg (by decide),if_neg (by decide),if_neg (by decide),if_neg (by decide),if_neg (by decide),if_neg (by decide),if_neg (by decide),if_neg (by decide),if_neg (by decide),if_neg (by decide),if_neg (by decide)]
theorem kA.oa{M:ah}{w w':aa}{v:ad}(h:∃(A':aj) (c':Nat) (rs':List aO),v= .agg #[.slice A' M.length c']/\rs'.length=M.length/\St w w' (aL 34 2 A' M.length c' rs' (pT (gl M 0).length M.reverse 0))):kA (tZ M) w v w':=by
 obtain⟨A',c',rs',h1,h2,h3⟩:=h;unfold kA;rw [Qn];exact⟨A',c',rs',h1,h2,h3⟩
theorem kA.jj{M:ah}{w0 w:aa}{ks:List Ck}{A:aj}{c:Nat}{rs:List aO}(h:St w0 w (ks++aL 34 2 A M.length c rs M)):bF w A M.length rs M:=St.jj (h.perm nT) rfl
theorem VR:∀i:Nat,i<7->mD.take (2* (i+1))=mD.take (2*i)++ [[(i:Int),((i:Int)+1)%7,((i:Int)+3)%7],[(i:Int),((i:Int)+3)%7,((i:Int)+2)%7]]:=by decide
theorem U8{α:Type}(a b c:α)(X Y:List α):(b::a::c::(X++Y)).Perm (c::((X++ [a,b])++Y)):=by
 classical
 refine jA.2 fun z=>?_
 simp only [lu,jz,kC];omega
theorem UL(s:ByteArray)(w:aa)(hT:kX w)(hs:s∈ov)(H:(s=cd 1\/s=cd 3\/s=cd 5)->(∀(s':ByteArray) (w':aa),s'=cd 6\/s'=cd 4\/s'=cd 2->kX w'->aK prog 49 [.string s'] w' (kA (iX s') w'))):
 aK prog 49 [.string s] w (kA (iX s) w):=by
 refine bA func49 O ntmps49 O (qp O O) (bg O (gH (St.refl w) O ?_));intro A2 w1 hS;refine ar O (gH hS O ?_);clear hS;intro A3 w2 hS;refine ar O (kW O O O (aC O ?_));refine aM _ O (fun h0=>?_) (fun h0=>?_)
 ·replace h0:s=cd 0:=h0;rw [Ny h0];refine aA O (aQ (MV 3 1 (by decide) (by decide) _ (hT.aq hS.below)) O ?_);rintro _ w4 ⟨A',c',rs',rfl,dH,aw⟩;replace hS:=hS.call2 aw;refine bO 1 1 hS O O O O O O O ?_;clear hS;intro wz hS;refine bI O (ij O (hS.rd 1 O) ?_);exact⟨A',c',rs',O,dH,hS.tail.tail⟩
 ·replace h0:¬s=cd 0:=h0;refine aA O (kW O O O (aC O ?_));refine aM _ O (fun eV=>?_) (fun eV=>?_)
  ·replace eV:s=cd 10:=eV;rw [NA eV];refine aA O (aQ (MV 4 1 (by decide) (by decide) _ (hT.aq hS.below)) O ?_);rintro _ w4 ⟨A',c',rs',rfl,dH,aw⟩;replace hS:=hS.call2 aw;refine bO 1 1 hS O O O O O O O ?_;clear hS;intro wz hS;refine bI O (ij O (hS.rd 1 O) ?_);exact⟨A',c',rs',O,dH,hS.tail.tail⟩
  ·replace eV:¬s=cd 10:=eV;refine aA O (kW O O O (aC O ?_));refine aM _ O (fun h7=>?_) (fun h7=>?_)
   ·replace h7:s=cd 7:=h7;rw [NF h7];refine aA O (aQ (MV 3 2 (by decide) (by decide) _ (hT.aq hS.below)) O ?_);rintro _ w4 ⟨A',c',rs',rfl,dH,aw⟩;replace hS:=hS.call2 aw;refine bO 1 1 hS O O O O O O O ?_;clear hS;intro wz hS;refine bI O (ij O (hS.rd 1 O) ?_);exact⟨A',c',rs',O,dH,hS.tail.tail⟩
   ·replace h7:¬s=cd 7:=h7;refine aA O (kW O O O (aC O ?_));refine aM _ O (fun jO=>?_) (fun jO=>?_)
    ·replace jO:s=cd 11:=jO;rw [NB jO];refine aA O (aQ (VV 3 (CH 3) (db 3) 100 _ (hT.aq hS.below) (ai5 (by omega))) O ?_);rw [ai7];rintro _ w4 ⟨A',c',rs',rfl,dH,aw⟩;replace hS:=hS.call2 aw;refine bO 1 1 hS O O O O O O O ?_;clear hS;intro wz hS;refine bI O (ij O (hS.rd 1 O) ?_);exact⟨A',c',rs',O,dH,hS.tail.tail⟩
    ·replace jO:¬s=cd 11:=jO;refine aA O (kW O O O (aC O ?_));refine aM _ O (fun h8=>?_) (fun h8=>?_)
     ·replace h8:s=cd 8:=h8;rw [NG h8];refine aA O (aQ (VV 4 CI (db 4) 500 _ (hT.aq hS.below) ai6) O ?_);rw [ai8];rintro _ w4 ⟨A',c',rs',rfl,dH,aw⟩;replace hS:=hS.call2 aw;refine bO 1 1 hS O O O O O O O ?_;clear hS;intro wz hS;refine bI O (ij O (hS.rd 1 O) ?_);exact⟨A',c',rs',O,dH,hS.tail.tail⟩
     ·replace h8:¬s=cd 8:=h8;refine aA O (kW O O O (aC O ?_));refine aM _ O (fun h1=>?_) (fun h1=>?_)
      ·replace h1:s=cd 1:=h1;rw [Nz h1];refine aA O (aQ (H (.inl h1) (cd 6) _ (.inl O) (hT.aq hS.below)) O ?_);rw [FF rfl];rintro _ w4 ⟨A',c',rs',rfl,dH,aw⟩;replace hS:=hS.call2 aw;refine aQ (Ko A' (mapM ql).length c' rs' (mapM ql) _ _ (kA.jj hS) Ft.nF O) O ?_;intro v w5 hA;obtain⟨A5,c5,vC,rfl,vo,nD⟩:=kA.oa hA;replace hS:=(hS.sub (ng _ _)).call2 nD;refine bO 1 1 hS O O O O O O O ?_;clear hS;intro wz hS;refine bI O (ij O (hS.rd 1 O) ?_);exact⟨A5,c5,vC,O,vo,hS.tail.tail⟩
      ·replace h1:¬s=cd 1:=h1;refine aA O (kW O O O (aC O ?_));refine aM _ O (fun h3=>?_) (fun h3=>?_)
       ·replace h3:s=cd 3:=h3;rw [NC h3];refine aA O (aQ (H (.inr (.inl h3)) (cd 4) _ (.inr (.inl O)) (hT.aq hS.below)) O ?_);rw [FE rfl];rintro _ w4 ⟨A',c',rs',rfl,dH,aw⟩;replace hS:=hS.call2 aw;refine aQ (Ko A' (mapM qd).length c' rs' (mapM qd) _ _ (kA.jj hS) EW.nF O) O ?_;intro v w5 hA;obtain⟨A5,c5,vC,rfl,vo,nD⟩:=kA.oa hA;replace hS:=(hS.sub (ng _ _)).call2 nD;refine bO 1 1 hS O O O O O O O ?_;clear hS;intro wz hS;refine bI O (ij O (hS.rd 1 O) ?_);exact⟨A5,c5,vC,O,vo,hS.tail.tail⟩
       ·replace h3:¬s=cd 3:=h3;refine aA O (kW O O O (aC O ?_));refine aM _ O (fun h5=>?_) (fun h5=>?_)
        ·replace h5:s=cd 5:=h5;rw [ND h5];refine aA O (aQ (H (.inr (.inr h5)) (cd 2) _ (.inr (.inr O)) (hT.aq hS.below)) O ?_);rw [FD rfl];rintro _ w4 ⟨A',c',rs',rfl,dH,aw⟩;replace hS:=hS.call2 aw;refine aQ (Ko A' (mapM qc).length c' rs' (mapM qc) _ _ (kA.jj hS) EV.nF O) O ?_;intro v w5 hA;obtain⟨A5,c5,vC,rfl,vo,nD⟩:=kA.oa hA;replace hS:=(hS.sub (ng _ _)).call2 nD;refine bO 1 1 hS O O O O O O O ?_;clear hS;intro wz hS;refine bI O (ij O (hS.rd 1 O) ?_);exact⟨A5,c5,vC,O,vo,hS.tail.tail⟩
        ·replace h5:¬s=cd 5:=h5;refine aA O (kW O O O (aC O ?_));refine aM _ O (fun h2=>?_) (fun h2=>?_)
         ·replace h2:s=cd 2:=h2;rw [FD h2];refine aA O (fS [0,1,2,3] hS O O (by decide) (by decide) O O ?_);clear hS;intro P0 Ox hS;refine fS [0,1,3,2] hS O O (by decide) (by decide) O O ?_;clear hS;intro P1 Oy hS;refine fS [0,2,1,3] hS O O (by decide) (by decide) O O ?_;clear hS;intro P2 Oz hS;refine BX [⟨P0,4,4⟩,⟨P1,4,4⟩,⟨P2,4,4⟩] hS O O (by decide) (by decide) O O ?_;clear hS;intro PR wr hS;replace hS:St w wr (bZ 34 PR 3 3 [⟨P0,4,4⟩,⟨P1,4,4⟩,⟨P2,4,4⟩]::((cK 2 [⟨P0,4,4⟩,⟨P1,4,4⟩,⟨P2,4,4⟩] qc).reverse++ [Bx 24 1 A3 [.slice none 0 0],Bx 24 1 A2 [.slice none 0 0]])):=hS;have qL:bF wr PR 3 [⟨P0,4,4⟩,⟨P1,4,4⟩,⟨P2,4,4⟩] qc:=St.jj (t1:=34) (t2:=2) (c:=3) (hS.perm (List.Perm.cons _ ((List.reverse_perm _).append_right _))) O;replace hS:=hS.tail.sub (iQ _ _);refine aQ (IQ PR 3 3 _ qc _ qL Sp EV) O ?_;rintro _ w4 ⟨A',rs',rfl,dH,aw⟩;replace hS:=hS.call2 aw;refine ar O (bO 1 0 hS O O O O O O O ?_);clear hS;intro wy hS;refine ar O (ao.dq 0 (hS.rd 0 O) O O O (bO 1 1 hS O O O O O O O ?_));clear hS;intro wz hS;refine bI O (ij O (hS.rd 1 O) ?_);exact⟨A',3,rs',O,dH,hS.tail.tail⟩
         ·replace h2:¬s=cd 2:=h2;refine aA O (kW O O O (aC O ?_));refine aM _ O (fun h4=>?_) (fun h4=>?_)
          ·replace h4:s=cd 4:=h4;rw [FE h4];refine aA O (fS [0,1,2] hS O O (by decide) (by decide) O O ?_);clear hS;intro P0 Ox hS;refine fS [0,2,3] hS O O (by decide) (by decide) O O ?_;clear hS;intro P1 Oy hS;refine fS [0,3,4] hS O O (by decide) (by decide) O O ?_;clear hS;intro P2 Oz hS;refine fS [0,4,5] hS O O (by decide) (by decide) O O ?_;clear hS;intro P3 wq3 hS;refine fS [0,5,1] hS O O (by decide) (by decide) O O ?_;clear hS;intro P4 wq4 hS;refine fS [1,2,4] hS O O (by decide) (by decide) O O ?_;clear hS;intro P5 wq5 hS;refine fS [2,3,5] hS O O (by decide) (by decide) O O ?_;clear hS;intro P6 wq6 hS;refine fS [3,4,1] hS O O (by decide) (by decide) O O ?_;clear hS;intro P7 wq7 hS;refine fS [4,5,2] hS O O (by decide) (by decide) O O ?_;clear hS;intro P8 wq8 hS;refine fS [5,1,3] hS O O (by decide) (by decide) O O ?_;clear hS;intro P9 wq9 hS;refine BX [⟨P0,3,3⟩,⟨P1,3,3⟩,⟨P2,3,3⟩,⟨P3,3,3⟩,⟨P4,3,3⟩,⟨P5,3,3⟩,⟨P6,3,3⟩,⟨P7,3,3⟩,⟨P8,3,3⟩,⟨P9,3,3⟩] hS O O (by decide) (by decide) O O ?_;clear hS;intro PR wr hS;replace hS:St w wr (bZ 34 PR 10 10 [⟨P0,3,3⟩,⟨P1,3,3⟩,⟨P2,3,3⟩,⟨P3,3,3⟩,⟨P4,3,3⟩,⟨P5,3,3⟩,⟨P6,3,3⟩,⟨P7,3,3⟩,⟨P8,3,3⟩,⟨P9,3,3⟩]::((cK 2 [⟨P0,3,3⟩,⟨P1,3,3⟩,⟨P2,3,3⟩,⟨P3,3,3⟩,⟨P4,3,3⟩,⟨P5,3,3⟩,⟨P6,3,3⟩,⟨P7,3,3⟩,⟨P8,3,3⟩,⟨P9,3,3⟩] qd).reverse++ [Bx 24 1 A3 [.slice none 0 0],Bx 24 1 A2 [.slice none 0 0]])):=hS;have qL:bF wr PR 10 [⟨P0,3,3⟩,⟨P1,3,3⟩,⟨P2,3,3⟩,⟨P3,3,3⟩,⟨P4,3,3⟩,⟨P5,3,3⟩,⟨P6,3,3⟩,⟨P7,3,3⟩,⟨P8,3,3⟩,⟨P9,3,3⟩] qd:=St.jj (t1:=34) (t2:=2) (c:=10) (hS.perm (List.Perm.cons _ ((List.reverse_perm _).append_right _))) O;replace hS:=hS.tail.sub (iQ _ _);refine aQ (IQ PR 10 10 _ qd _ qL Sq EW) O ?_;rintro _ w4 ⟨A',rs',rfl,dH,aw⟩;replace hS:=hS.call2 aw;refine ar O (bO 1 0 hS O O O O O O O ?_);clear hS;intro wy hS;refine ar O (ao.dq 0 (hS.rd 0 O) O O O (bO 1 1 hS O O O O O O O ?_));clear hS;intro wz hS;refine bI O (ij O (hS.rd 1 O) ?_);exact⟨A',3,rs',O,dH,hS.tail.tail⟩
          ·replace h4:¬s=cd 4:=h4;refine aA O (kW O O O (aC O ?_));refine aM _ O (fun h6=>?_) (fun h6=>?_)
           ·replace h6:s=cd 6:=h6;rw [FF h6];refine aA O (fS [0,1,2] hS O O (by decide) (by decide) O O ?_);clear hS;intro P0 Ox hS;refine fS [0,2,3] hS O O (by decide) (by decide) O O ?_;clear hS;intro P1 Oy hS;refine fS [0,3,4] hS O O (by decide) (by decide) O O ?_;clear hS;intro P2 Oz hS;refine fS [0,4,5] hS O O (by decide) (by decide) O O ?_;clear hS;intro P3 wq3 hS;refine fS [0,5,1] hS O O (by decide) (by decide) O O ?_;clear hS;intro P4 wq4 hS;refine fS [1,2,6] hS O O (by decide) (by decide) O O ?_;clear hS;intro P5 wq5 hS;refine fS [2,3,7] hS O O (by decide) (by decide) O O ?_;clear hS;intro P6 wq6 hS;refine fS [3,4,8] hS O O (by decide) (by decide) O O ?_;clear hS;intro P7 wq7 hS;refine fS [4,5,9] hS O O (by decide) (by decide) O O ?_;clear hS;intro P8 wq8 hS;refine fS [5,1,10] hS O O (by decide) (by decide) O O ?_;clear hS;intro P9 wq9 hS;refine fS [2,6,7] hS O O (by decide) (by decide) O O ?_;clear hS;intro Gk wq10 hS;refine fS [3,7,8] hS O O (by decide) (by decide) O O ?_;clear hS;intro Gl wq11 hS;refine fS [4,8,9] hS O O (by decide) (by decide) O O ?_;clear hS;intro Gm wq12 hS;refine fS [5,9,10] hS O O (by decide) (by decide) O O ?_;clear hS;intro Gn wq13 hS;refine fS [1,10,6] hS O O (by decide) (by decide) O O ?_;clear hS;intro Gp wq14 hS;refine fS [11,6,7] hS O O (by decide) (by decide) O O ?_;clear hS;intro Gq wq15 hS;refine fS [11,7,8] hS O O (by decide) (by decide) O O ?_;clear hS;intro Gr wq16 hS;refine fS [11,8,9] hS O O (by decide) (by decide) O O ?_;clear hS;intro Gs wq17 hS;refine fS [11,9,10] hS O O (by decide) (by decide) O O ?_;clear hS;intro Gt wq18 hS;refine fS [11,10,6] hS O O (by decide) (by decide) O O ?_;clear hS;intro Gu wq19 hS;refine BX [⟨P0,3,3⟩,⟨P1,3,3⟩,⟨P2,3,3⟩,⟨P3,3,3⟩,⟨P4,3,3⟩,⟨P5,3,3⟩,⟨P6,3,3⟩,⟨P7,3,3⟩,⟨P8,3,3⟩,⟨P9,3,3⟩,⟨Gk,3,3⟩,⟨Gl,3,3⟩,⟨Gm,3,3⟩,⟨Gn,3,3⟩,⟨Gp,3,3⟩,⟨Gq,3,3⟩,⟨Gr,3,3⟩,⟨Gs,3,3⟩,⟨Gt,3,3⟩,⟨Gu,3,3⟩] hS O O (by decide) (by decide) O O ?_;clear hS;intro PR wr hS;replace hS:St w wr (bZ 34 PR 20 20 [⟨P0,3,3⟩,⟨P1,3,3⟩,⟨P2,3,3⟩,⟨P3,3,3⟩,⟨P4,3,3⟩,⟨P5,3,3⟩,⟨P6,3,3⟩,⟨P7,3,3⟩,⟨P8,3,3⟩,⟨P9,3,3⟩,⟨Gk,3,3⟩,⟨Gl,3,3⟩,⟨Gm,3,3⟩,⟨Gn,3,3⟩,⟨Gp,3,3⟩,⟨Gq,3,3⟩,⟨Gr,3,3⟩,⟨Gs,3,3⟩,⟨Gt,3,3⟩,⟨Gu,3,3⟩]::((cK 2 [⟨P0,3,3⟩,⟨P1,3,3⟩,⟨P2,3,3⟩,⟨P3,3,3⟩,⟨P4,3,3⟩,⟨P5,3,3⟩,⟨P6,3,3⟩,⟨P7,3,3⟩,⟨P8,3,3⟩,⟨P9,3,3⟩,⟨Gk,3,3⟩,⟨Gl,3,3⟩,⟨Gm,3,3⟩,⟨Gn,3,3⟩,⟨Gp,3,3⟩,⟨Gq,3,3⟩,⟨Gr,3,3⟩,⟨Gs,3,3⟩,⟨Gt,3,3⟩,⟨Gu,3,3⟩] ql).reverse++ [Bx 24 1 A3 [.slice none 0 0],Bx 24 1 A2 [.slice none 0 0]])):=hS;have qL:bF wr PR 20 [⟨P0,3,3⟩,⟨P1,3,3⟩,⟨P2,3,3⟩,⟨P3,3,3⟩,⟨P4,3,3⟩,⟨P5,3,3⟩,⟨P6,3,3⟩,⟨P7,3,3⟩,⟨P8,3,3⟩,⟨P9,3,3⟩,⟨Gk,3,3⟩,⟨Gl,3,3⟩,⟨Gm,3,3⟩,⟨Gn,3,3⟩,⟨Gp,3,3⟩,⟨Gq,3,3⟩,⟨Gr,3,3⟩,⟨Gs,3,3⟩,⟨Gt,3,3⟩,⟨Gu,3,3⟩] ql:=St.jj (t1:=34) (t2:=2) (c:=20) (hS.perm (List.Perm.cons _ ((List.reverse_perm _).append_right _))) O;replace hS:=hS.tail.sub (iQ _ _);refine aQ (IQ PR 20 20 _ ql _ qL TN Ft) O ?_;rintro _ w4 ⟨A',rs',rfl,dH,aw⟩;replace hS:=hS.call2 aw;refine ar O (bO 1 0 hS O O O O O O O ?_);clear hS;intro wy hS;refine ar O (ao.dq 0 (hS.rd 0 O) O O O (bO 1 1 hS O O O O O O O ?_));clear hS;intro wz hS;refine bI O (ij O (hS.rd 1 O) ?_);exact⟨A',3,rs',O,dH,hS.tail.tail⟩
           ·replace h6:¬s=cd 6:=h6;have h9:s=cd 9:=by
             obtain⟨i,hi,rfl⟩:=xY.1 hs;rcases(show i=0\/i=1\/i=2\/i=3\/i=4\/i=5\/i=6\/i=7\/i=8\/i=9\/i=10\/i=11 by omega)with rfl | rfl | rfl | rfl | rfl | rfl | rfl | rfl | rfl | rfl | rfl | rfl<;>first | rfl | (exfalso;first | exact h0 rfl | exact h1 rfl | exact h2 rfl | exact h3 rfl | exact h4 rfl | exact h5 rfl | exact h6 rfl | exact h7 rfl | exact h8 rfl | exact eV rfl | exact jO rfl)
            rw [NH h9];replace hS:St w w2 (aL 34 2 none 0 0 [] (mD.take (2*0))++ [Bx 24 1 A3 [.slice none 0 0],Bx 24 1 A2 [.slice none 0 0]]):=hS.nil 34;refine dw O (Cd.loop (α:=Nat×(aj×Nat)×List aO) (fun z=> [(2,.pointer A2),(3,.pointer A3),(4,.slice z.2.1.1 (2*z.1) z.2.1.2),(7,ak (z.1:Int))]) (fun z w'=>z.1<=7/\z.2.2.length=2*z.1/\St w w' (aL 34 2 z.2.1.1 (2*z.1) z.2.1.2 z.2.2 (mD.take (2*z.1))++ [Bx 24 1 A3 [.slice none 0 0],Bx 24 1 A2 [.slice none 0 0]])) (fun z=>7 - z.1) (0,(none,0),[]) (amz O) ⟨aZ _,O,hS⟩ ?_);clear hS;rintro⟨i,⟨A4,c4⟩,r4⟩ ev w5 ⟨hi,wk,hS⟩;dsimp only at hi wk hS|-;refine bJ O (aM _ O (fun q1=>?_) (fun q1=>?_))
            ·have LV:i<7:=by omega
             have aw:=VR i LV;have zd:(mD.take (2*i)).length=2*i:=by rw [na];exact Nat.min_eq_left (show 2*i<=14 by omega)
             refine aA O (aH O ?_);refine ao.rem O O O (by omega) (ar O (aH O ?_));refine ao.rem O O O (by omega) (fS [(i:Int),((i:Int)+1)%7,((i:Int)+3)%7] hS O O (by decide) (by decide) O O ?_);clear hS;intro P0 w6 hS;refine ar O (aH O ?_);refine ao.rem O O O (by omega) (ar O (aH O ?_));refine ao.rem O O O (by omega) (fS [(i:Int),((i:Int)+3)%7,((i:Int)+2)%7] hS O O (by decide) (by decide) O O ?_);clear hS;intro P1 w7 hS;refine BX [⟨P0,3,3⟩,⟨P1,3,3⟩] hS O O (by decide) (by decide) O O ?_;clear hS;intro P2 w8 hS;refine lA 3 hS O (hS.fG 0 O) O O O (by omega) (by omega) O ?_;clear hS;intro A5 c5 w9 hS;replace hS:St w w9 (ax 2 P1 3 3 [(i:Int),((i:Int)+3)%7,((i:Int)+2)%7]::ax 2 P0 3 3 [(i:Int),((i:Int)+1)%7,((i:Int)+3)%7]::bZ 34 A5 (2* (i+1)) c5 (r4++ [⟨P0,3,3⟩,⟨P1,3,3⟩])::(cK 2 r4 (mD.take (2*i))++ [Bx 24 1 A3 [.slice none 0 0],Bx 24 1 A2 [.slice none 0 0]])):=hS.tail;refine ar O (aH O (aT O (tQ ?_)));refine⟨(i+1,(A5,c5),r4++ [⟨P0,3,3⟩,⟨P1,3,3⟩]),by show 7 - (i+1)<7 - i;omega,⟨O,O,O,aF (Value.int .i64) (by omega),au⟩,by show i+1<=7;omega,by show(r4++ [_,_]).length=2* (i+1);rw [b8,wk];rfl,?_⟩;show St w w9 (aL _ _ A5 (2* (i+1)) c5 (r4++ [_,_]) (mD.take (2* (i+1)))++_);rw [aw];unfold aL;rw [DE (by rw [wk,zd])];exact hS.perm (U8 _ _ _ _ _)
            ·obtain rfl:i=7:=by omega
             replace hS:St w w5 (aL 34 2 A4 14 c4 r4 mD++ [Bx 24 1 A3 [.slice none 0 0],Bx 24 1 A2 [.slice none 0 0]]):=hS;have qL:bF w5 A4 14 r4 mD:=St.jj hS O;replace hS:=hS.sub (iQ _ _);refine bn O (bo (cL O ?_));refine aQ (IQ A4 14 c4 r4 mD _ qL VT VS) O ?_;rintro _ w6 ⟨A',rs',rfl,dH,aw⟩;replace hS:=hS.call2 aw;refine ar O (bO 1 0 hS O O O O O O O ?_);clear hS;intro wy hS;refine ar O (ao.dq 0 (hS.rd 0 O) O O O (bO 1 1 hS O O O O O O O ?_));clear hS;intro wz hS;refine bI O (ij O (hS.rd 1 O) ?_);exact⟨A',3,rs',O,dH,hS.tail.tail⟩
theorem agW(s:ByteArray)(w:aa)(hT:kX w)(hs:s∈ov):aK prog 49 [.string s] w (kA (iX s) w):=
 UL s w hT hs fun _ s' w' h' qN=>by
  rcases h' with rfl | rfl | rfl<;>exact UL _ w' qN (xY.2 ⟨_,by decide,rfl⟩) (fun h=>absurd h (by decide))
theorem Ub(s:ByteArray)(w:aa)(hs:s∈ov)(H:(s=cd 1\/s=cd 3\/s=cd 5)->(∀(s':ByteArray) (w':aa),s'=cd 6\/s'=cd 4\/s'=cd 2->aK prog 47 [.string s'] w' (kA (iX s') w'))):
 aK prog 47 [.string s] w (kA (iX s) w):=by
 refine bA func47 O ntmps47 O (qp O O) (bg O (gH (St.refl w) O ?_));intro A2 w1 hS;refine ar O (vN (by exact inferInstance) O (gH hS O ?_));clear hS;intro A3 w2 hS;refine bO 1 0 hS O O O O O O O ?_;clear hS;intro w2 hS;refine ar O (kW O O O (aC O ?_));refine aM _ O (fun h0=>?_) (fun h0=>?_)
 ·replace h0:s=cd 0:=h0;rw [Ny h0];refine aA O (aQ (Oe 3 1 (by decide) (by decide) _) O ?_);rintro _ w4 ⟨A',c',rs',rfl,dH,aw⟩;replace hS:=hS.call2 aw;refine bO 1 1 hS O O O O O O O ?_;clear hS;intro wz hS;refine bI O (ij O (hS.rd 1 O) ?_);exact⟨A',c',rs',O,dH,hS.tail.tail⟩
 replace h0:¬s=cd 0:=h0;refine aA O (kW O O O (aC O ?_));refine aM _ O (fun h7=>?_) (fun h7=>?_)
 ·replace h7:s=cd 7:=h7;rw [NF h7];refine aA O (aQ (Oe 3 2 (by decide) (by decide) _) O ?_);rintro _ w4 ⟨A',c',rs',rfl,dH,aw⟩;replace hS:=hS.call2 aw;refine bO 1 1 hS O O O O O O O ?_;clear hS;intro wz hS;refine bI O (ij O (hS.rd 1 O) ?_);exact⟨A',c',rs',O,dH,hS.tail.tail⟩
 replace h7:¬s=cd 7:=h7;refine aA O (kW O O O (aC O ?_));refine aM _ O (fun eV=>?_) (fun eV=>?_)
 ·replace eV:s=cd 10:=eV;rw [NA eV];refine aA O (aQ (Oe 4 1 (by decide) (by decide) _) O ?_);rintro _ w4 ⟨A',c',rs',rfl,dH,aw⟩;replace hS:=hS.call2 aw;refine bO 1 1 hS O O O O O O O ?_;clear hS;intro wz hS;refine bI O (ij O (hS.rd 1 O) ?_);exact⟨A',c',rs',O,dH,hS.tail.tail⟩
 replace eV:¬s=cd 10:=eV;refine aA O (kW O O O (aC O ?_));refine aM _ O (fun h8=>?_) (fun h8=>?_)
 ·replace h8:s=cd 8:=h8;rw [NG h8];refine aA O (aQ (Ud 4 _ VX) O ?_);rintro _ w4 ⟨A',c',rs',rfl,dH,aw⟩;replace hS:=hS.call2 aw;refine bO 1 1 hS O O O O O O O ?_;clear hS;intro wz hS;refine bI O (ij O (hS.rd 1 O) ?_);exact⟨A',c',rs',O,dH,hS.tail.tail⟩
 replace h8:¬s=cd 8:=h8;refine aA O (kW O O O (aC O ?_));refine aM _ O (fun jO=>?_) (fun jO=>?_)
 ·replace jO:s=cd 11:=jO;rw [NB jO];refine aA O (aQ (Ud 3 _ (VW 3 (by omega))) O ?_);rintro _ w4 ⟨A',c',rs',rfl,dH,aw⟩;replace hS:=hS.call2 aw;refine bO 1 1 hS O O O O O O O ?_;clear hS;intro wz hS;refine bI O (ij O (hS.rd 1 O) ?_);exact⟨A',c',rs',O,dH,hS.tail.tail⟩
 replace jO:¬s=cd 11:=jO;refine aA O (kW O O O (aC O ?_));refine aM _ O (fun h1=>?_) (fun h1=>?_)
 ·replace h1:s=cd 1:=h1;rw [Nz h1];refine aA O (aQ (H (.inl h1) (cd 6) _ (.inl O)) O ?_);rw [FF rfl];rintro _ w4 ⟨A',c',rs',rfl,dH,aw⟩;replace hS:=hS.call2 aw;refine aQ (M6 A' (mapM ql).length c' rs' (mapM ql) _ _ (kA.jj hS) Ft.nF O) O ?_;intro v w5 hA;obtain⟨A5,c5,vC,rfl,vo,nD⟩:=kA.oa hA;replace hS:=(hS.sub (ng _ _)).call2 nD;refine bO 1 1 hS O O O O O O O ?_;clear hS;intro wz hS;refine bI O (ij O (hS.rd 1 O) ?_);exact⟨A5,c5,vC,O,vo,hS.tail.tail⟩
 replace h1:¬s=cd 1:=h1;refine aA O (kW O O O (aC O ?_));refine aM _ O (fun h3=>?_) (fun h3=>?_)
 ·replace h3:s=cd 3:=h3;rw [NC h3];refine aA O (aQ (H (.inr (.inl h3)) (cd 4) _ (.inr (.inl O))) O ?_);rw [FE rfl];rintro _ w4 ⟨A',c',rs',rfl,dH,aw⟩;replace hS:=hS.call2 aw;refine aQ (M6 A' (mapM qd).length c' rs' (mapM qd) _ _ (kA.jj hS) EW.nF O) O ?_;intro v w5 hA;obtain⟨A5,c5,vC,rfl,vo,nD⟩:=kA.oa hA;replace hS:=(hS.sub (ng _ _)).call2 nD;refine bO 1 1 hS O O O O O O O ?_;clear hS;intro wz hS;refine bI O (ij O (hS.rd 1 O) ?_);exact⟨A5,c5,vC,O,vo,hS.tail.tail⟩
 replace h3:¬s=cd 3:=h3;refine aA O (kW O O O (aC O ?_));refine aM _ O (fun h5=>?_) (fun h5=>?_)
 ·replace h5:s=cd 5:=h5;rw [ND h5];refine aA O (aQ (H (.inr (.inr h5)) (cd 2) _ (.inr (.inr O))) O ?_);rw [FD rfl];rintro _ w4 ⟨A',c',rs',rfl,dH,aw⟩;replace hS:=hS.call2 aw;refine aQ (M6 A' (mapM qc).length c' rs' (mapM qc) _ _ (kA.jj hS) EV.nF O) O ?_;intro v w5 hA;obtain⟨A5,c5,vC,rfl,vo,nD⟩:=kA.oa hA;replace hS:=(hS.sub (ng _ _)).call2 nD;refine bO 1 1 hS O O O O O O O ?_;clear hS;intro wz hS;refine bI O (ij O (hS.rd 1 O) ?_);exact⟨A5,c5,vC,O,vo,hS.tail.tail⟩
 replace h5:¬s=cd 5:=h5;refine aA O (kW O O O (aC O ?_));refine aM _ O (fun h2=>?_) (fun h2=>?_)
 ·replace h2:s=cd 2:=h2;rw [FD h2];refine aA O (fS [0,1,2,3] hS O O (by decide) (by decide) O O ?_);clear hS;intro P0 Ox hS;refine fS [0,1,3,2] hS O O (by decide) (by decide) O O ?_;clear hS;intro P1 Oy hS;refine fS [0,2,1,3] hS O O (by decide) (by decide) O O ?_;clear hS;intro P2 Oz hS;refine BX [⟨P0,4,4⟩,⟨P1,4,4⟩,⟨P2,4,4⟩] hS O O (by decide) (by decide) O O ?_;clear hS;intro PR wr hS;replace hS:St w wr (bZ 34 PR 3 3 [⟨P0,4,4⟩,⟨P1,4,4⟩,⟨P2,4,4⟩]::((cK 2 [⟨P0,4,4⟩,⟨P1,4,4⟩,⟨P2,4,4⟩] qc).reverse++ [Bx 24 1 A3 [.slice none 0 0],Bx 24 1 A2 [.slice none 0 0]])):=hS;have qL:bF wr PR 3 [⟨P0,4,4⟩,⟨P1,4,4⟩,⟨P2,4,4⟩] qc:=St.jj (t1:=34) (t2:=2) (c:=3) (hS.perm (List.Perm.cons _ ((List.reverse_perm _).append_right _))) O;replace hS:=hS.tail.sub (iQ _ _);refine aQ (IM PR 3 3 _ qc _ qL Sp) O ?_;rintro _ w4 ⟨A',c',rs',rfl,dH,aw⟩;replace hS:=hS.call2 aw;refine ar O (bO 1 0 hS O O O O O O O ?_);clear hS;intro wy hS;refine ar O (ao.dq 0 (hS.rd 0 O) O O O (bO 1 1 hS O O O O O O O ?_));clear hS;intro wz hS;refine bI O (ij O (hS.rd 1 O) ?_);exact⟨A',c',rs',O,dH,hS.tail.tail⟩
 replace h2:¬s=cd 2:=h2;refine aA O (kW O O O (aC O ?_));refine aM _ O (fun h4=>?_) (fun h4=>?_)
 ·replace h4:s=cd 4:=h4;rw [FE h4];refine aA O (fS [0,1,2,0,2,3,0,3,4,0,4,5,0,5,1,1,2,4,2,3,5,3,4,1,4,5,2,5,1,3] hS O O (by decide) (by decide) O O ?_);clear hS;intro P0 w3 hS;refine aQ (Uc P0 30 30 10 [0,1,2,0,2,3,0,3,4,0,4,5,0,5,1,1,2,4,2,3,5,3,4,1,4,5,2,5,1,3] _ (hS.bz 0 O) O (by decide)) O ?_;rintro _ wr ⟨PR,cR,ss,rfl,hss,vr⟩;rw [show qv [0,1,2,0,2,3,0,3,4,0,4,5,0,5,1,1,2,4,2,3,5,3,4,1,4,5,2,5,1,3] 10=qd by decide]at vr;have qL:bF wr PR 10 ss qd:=St.jj (ks:=[]) (by rw [fj];exact vr) O;replace hS:=(hS.tail).aq vr.below;refine aQ (IM PR 10 cR _ qd _ qL Sq) O ?_;rintro _ w4 ⟨A',c',rs',rfl,dH,aw⟩;replace hS:=hS.call2 aw;refine ar O (bO 1 0 hS O O O O O O O ?_);clear hS;intro wy hS;refine ar O (ao.dq 0 (hS.rd 0 O) O O O (bO 1 1 hS O O O O O O O ?_));clear hS;intro wz hS;refine bI O (ij O (hS.rd 1 O) ?_);exact⟨A',c',rs',O,dH,hS.tail.tail⟩
 replace h4:¬s=cd 4:=h4;refine aA O (kW O O O (aC O ?_));refine aM _ O (fun h6=>?_) (fun h6=>?_)
 ·replace h6:s=cd 6:=h6;rw [FF h6];refine aA O (fS [0,1,2,0,2,3,0,3,4,0,4,5,0,5,1,1,2,6,2,3,7,3,4,8,4,5,9,5,1,10,2,6,7,3,7,8,4,8,9,5,9,10,1,10,6,11,6,7,11,7,8,11,8,9,11,9,10,11,10,6] hS O O (by decide) (by decide) O O ?_);clear hS;intro P0 w3 hS;refine aQ (Uc P0 60 60 20 [0,1,2,0,2,3,0,3,4,0,4,5,0,5,1,1,2,6,2,3,7,3,4,8,4,5,9,5,1,10,2,6,7,3,7,8,4,8,9,5,9,10,1,10,6,11,6,7,11,7,8,11,8,9,11,9,10,11,10,6] _ (hS.bz 0 O) O (by decide)) O ?_;rintro _ wr ⟨PR,cR,ss,rfl,hss,vr⟩;rw [show qv [0,1,2,0,2,3,0,3,4,0,4,5,0,5,1,1,2,6,2,3,7,3,4,8,4,5,9,5,1,10,2,6,7,3,7,8,4,8,9,5,9,10,1,10,6,11,6,7,11,7,8,11,8,9,11,9,10,11,10,6] 20=ql by decide]at vr;have qL:bF wr PR 20 ss ql:=St.jj (ks:=[]) (by rw [fj];exact vr) O;replace hS:=(hS.tail).aq vr.below;refine aQ (IM PR 20 cR _ ql _ qL TN) O ?_;rintro _ w4 ⟨A',c',rs',rfl,dH,aw⟩;replace hS:=hS.call2 aw;refine ar O (bO 1 0 hS O O O O O O O ?_);clear hS;intro wy hS;refine ar O (ao.dq 0 (hS.rd 0 O) O O O (bO 1 1 hS O O O O O O O ?_));clear hS;intro wz hS;refine bI O (ij O (hS.rd 1 O) ?_);exact⟨A',c',rs',O,dH,hS.tail.tail⟩
 replace h6:¬s=cd 6:=h6;refine aA O (kW O O O (aC O ?_));refine aM _ O (fun h9=>?_) (fun h9=>?_)
 ·replace h9:s=cd 9:=h9;rw [NH h9];refine aA O (jn hS O ?_);clear hS;intro A4 w3 hS;replace hS:St w w3 (aL 34 2 A4 0 0 [] (mD.take (2*0))++ [Bx 24 1 A3 [.slice none 0 0],Bx 24 1 A2 [.slice none 0 0]]):=hS;refine aC O (Cd.loop (α:=Nat×(aj×Nat)×List aO) (fun z=> [(2,.pointer A2),(3,.pointer A3),(4,.slice z.2.1.1 (2*z.1) z.2.1.2),(5,ak (z.1:Int))]) (fun z w'=>z.1<=7/\z.2.2.length=2*z.1/\St w w' (aL 34 2 z.2.1.1 (2*z.1) z.2.1.2 z.2.2 (mD.take (2*z.1))++ [Bx 24 1 A3 [.slice none 0 0],Bx 24 1 A2 [.slice none 0 0]])) (fun z=>7 - z.1) (0,(A4,0),[]) (amz O) ⟨aZ _,O,hS⟩ ?_);clear hS;rintro⟨i,⟨A4,c4⟩,r4⟩ ev w5 ⟨hi,wk,hS⟩;dsimp only at hi wk hS|-;refine bJ O (aM _ O (fun q1=>?_) (fun q1=>?_))
  ·have LV:i<7:=by omega
   have aw:=VR i LV;have zd:(mD.take (2*i)).length=2*i:=by rw [na];exact Nat.min_eq_left (show 2*i<=14 by omega)
   refine aA O (aH O ?_);refine ao.rem O O O (by omega) (ar O (aH O ?_));refine ao.rem O O O (by omega) (fS [(i:Int),((i:Int)+1)%7,((i:Int)+3)%7] hS O O (by decide) (by decide) O O ?_);clear hS;intro P0 w6 hS;refine ar O (aH O ?_);refine ao.rem O O O (by omega) (ar O (aH O ?_));refine ao.rem O O O (by omega) (fS [(i:Int),((i:Int)+3)%7,((i:Int)+2)%7] hS O O (by decide) (by decide) O O ?_);clear hS;intro P1 w7 hS;refine BX [⟨P0,3,3⟩,⟨P1,3,3⟩] hS O O (by decide) (by decide) O O ?_;clear hS;intro P2 w8 hS;refine lA 3 hS O (hS.fG 0 O) O O O (by omega) (by omega) O ?_;clear hS;intro A5 c5 w9 hS;replace hS:St w w9 (ax 2 P1 3 3 [(i:Int),((i:Int)+3)%7,((i:Int)+2)%7]::ax 2 P0 3 3 [(i:Int),((i:Int)+1)%7,((i:Int)+3)%7]::bZ 34 A5 (2* (i+1)) c5 (r4++ [⟨P0,3,3⟩,⟨P1,3,3⟩])::(cK 2 r4 (mD.take (2*i))++ [Bx 24 1 A3 [.slice none 0 0],Bx 24 1 A2 [.slice none 0 0]])):=hS.tail;refine ar O (aH O (aT O (tQ ?_)));refine⟨(i+1,(A5,c5),r4++ [⟨P0,3,3⟩,⟨P1,3,3⟩]),by show 7 - (i+1)<7 - i;omega,⟨O,O,O,aF (Value.int .i64) (by omega),au⟩,by show i+1<=7;omega,by show(r4++ [_,_]).length=2* (i+1);rw [b8,wk];rfl,?_⟩;show St w w9 (aL _ _ A5 (2* (i+1)) c5 (r4++ [_,_]) (mD.take (2* (i+1)))++_);rw [aw];unfold aL;rw [DE (by rw [wk,zd])];exact hS.perm (U8 _ _ _ _ _)
  obtain rfl:i=7:=by omega
  replace hS:St w w5 (aL 34 2 A4 14 c4 r4 mD++ [Bx 24 1 A3 [.slice none 0 0],Bx 24 1 A2 [.slice none 0 0]]):=hS;have qL:bF w5 A4 14 r4 mD:=St.jj hS O;replace hS:=hS.sub (iQ _ _);refine bn O (bo (cL O ?_));refine aQ (IM A4 14 c4 r4 mD _ qL VT) O ?_;rintro _ w6 ⟨A',c',rs',rfl,dH,aw⟩;replace hS:=hS.call2 aw;refine ar O (bO 1 0 hS O O O O O O O ?_);clear hS;intro wy hS;refine ar O (ao.dq 0 (hS.rd 0 O) O O O (bO 1 1 hS O O O O O O O ?_));clear hS;intro wz hS;refine bI O (ij O (hS.rd 1 O) ?_);exact⟨A',c',rs',O,dH,hS.tail.tail⟩
 exfalso;obtain⟨i,hi,rfl⟩:=xY.1 hs;rcases(show i=0\/i=1\/i=2\/i=3\/i=4\/i=5\/i=6\/i=7\/i=8\/i=9\/i=10\/i=11 by omega)with rfl | rfl | rfl | rfl | rfl | rfl | rfl | rfl | rfl | rfl | rfl | rfl<;>first | exact h0 rfl | exact h1 rfl | exact h2 rfl | exact h3 rfl | exact h4 rfl | exact h5 rfl | exact h6 rfl | exact h7 rfl | exact h8 rfl | exact eV rfl | exact jO rfl | exact h9 rfl
theorem afx(s:ByteArray)(w:aa)(hs:s∈ov):aK prog 47 [.string s] w (kA (iX s) w):=
 Ub s w hs fun _ s' w' h'=>by
  rcases h' with rfl | rfl | rfl<;>exact Ub _ w' (xY.2 ⟨_,by decide,rfl⟩) (fun h=>absurd h (by decide))
theorem agj{w0 w:aa}{pre post:List Ck}{t1 t2:ae}{A:aj}{n c:Nat}{rs:List aO}{xss:ah}(k:Int)(hS:St w0 w (pre++ (aL t1 t2 A n c rs xss++post)))(cI:rs.length=n)(jH:xss.length=n)(hn:n<=1000)(hr:∀x∈xss,x.length<=1000)(mR:0<=k/\k<=1000000000000000):
 aK prog 10 [.agg #[.slice A n c],ak k] w (fun v w'=>v=ak (k+jx xss)/\St w0 w' (pre++ (aL t1 t2 A n c rs (lQ k xss)++post))):=by
 refine bA func10 O ntmps10 O (df O) (bg O (lB hS O O ?_));intro Ab w1 aI;refine ar O (aU (aI.rd 0 O) O (bh (aI.rd 0 O) O (ar O (aQ (agk (pre:=Bx 24 1 Ab [.slice A n c]::pre) (post:=post) (rs:=rs) k aI cI jH hn hr mR) O ?_))));rintro _ w2 ⟨rfl,aE⟩;refine bI O (gZ O ?_);exact⟨O,St.tail aE⟩
theorem Sn(A:aj)(n c:Nat)(rs:List aO)(xss:ah)(k:Int)(w:aa)(hR:bF w A n rs (lQ k xss))(hn:n<=1000)(hr:∀x∈xss,x.length<=1000)(mR:0<=k/\k<=1000000000000000):
 aK prog 11 [.agg #[.slice A n c],ak k] w (fun v w'=>v=ak (k+jx xss)/\St w w' []):=by
 have hl:=hR.len;rw [xT]at hl;have MC:=F2 (b:=1000) xss hr;refine bA func11 O ntmps11 O (df O) (bg O (lB (St.refl w) O O ?_));intro Ab w1 aI;refine ar O (aU (aI.rd 0 O) O (bh (aI.rd 0 O) O (ar O (aQ (acs A n c rs xss k _ (aI.cT hR) hn hr mR) O ?_))));rintro _ w2 ⟨rfl,rfl⟩;refine aC O (nP O (by omega) (dX O (gZ O ?_)));exact⟨O,aI.none⟩
section
variable {P:Program} {N:Nat} {ops:Array Oper} {K:Env->aa->Prop} {rest:List Oper} {e:Env} {w:aa} {d:Nat} {ty:ae} {pos:String} {af:Array Edge}
theorem Xi{x:ag}{t:ae}{s:ByteArray}[hU:bt P t .string](hx:ev e x= .string s)(hb:Nat.blt d N=true)(hK:ao P N ops K rest (br e d (ak (s.size:Int))) w):
 ao P N ops K (⟨some d,.call ⟨.builtin .len, #[x], #[t]⟩,ty,pos,af,none⟩::rest) e w:=by
 refine .val (w':=w) ?_ hb hK;simp [execOp,resolve,invoke,builtin,Builtin.len_,hx,run_underlying hU.out,goInt]
end
set_option maxRecDepth 100000 in
theorem ag9(s:ByteArray)(hs:s∈ov):(iX s).length<=5/\∀x∈iX s,x.length<=400:=by
 have tx:∀n,n=3\/n=4->(mE n n).length<=5/\∀x∈mE n n,x.length<=400:=fun n hn=>by
  refine⟨by rw [Od];omega,fun x hx=>?_⟩;obtain⟨i,_,rfl⟩:=dA.1 hx;rw [ajg];rcases hn with rfl | rfl
  ·exact(by decide+kernel:(db 3).length<=400)
  exact(by decide+kernel:(db 4).length<=400)
 have ve:∀ps:ah,zN ps->(tZ (mapM ps)).length<=5/\∀x∈tZ (mapM ps),x.length<=400:=fun ps h=>by
  refine⟨by rw [Qn];exact(by omega:3<=5),fun x hx=>?_⟩;unfold tZ pT at hx;obtain⟨mv,_,rfl⟩:=dA.1 hx;have hr:=N0 h.nF;have:=(hr.NQ (f:=0) (by omega) (by have:=hr.2.1;omega)).len;rw [Jc h.nF]at this;unfold jV;rw [fO,this];exact h.nF.2.1.2
 have H9:∀ps:ah,zN ps->(mapM ps).length<=5/\∀x∈mapM ps,x.length<=400:=fun ps h=>by
  refine⟨(by omega:3<=5),fun x hx=>?_⟩;have:=(h.nF.2.2.1.sys x hx).1;rw [this];exact h.nF.2.1.2
 obtain⟨i,hi,rfl⟩:=xY.1 hs;rcases(show i=0\/i=1\/i=2\/i=3\/i=4\/i=5\/i=6\/i=7\/i=8\/i=9\/i=10\/i=11 by omega)with rfl | rfl | rfl | rfl | rfl | rfl | rfl | rfl | rfl | rfl | rfl | rfl
 ·rw [Ny rfl];exact Kj (by omega) _
 ·rw [Nz rfl];exact ve _ Ft
 ·rw [FD rfl];exact H9 _ EV
 ·rw [NC rfl];exact ve _ EW
 ·rw [FE rfl];exact H9 _ EW
 ·rw [ND rfl];exact ve _ EV
 ·rw [FF rfl];exact H9 _ Ft
 ·rw [NF rfl];exact Kj (by omega) _
 ·rw [NG rfl];exact tx 4 (by omega)
 ·rw [NH rfl];exact H9 _ VS
 ·rw [NA rfl];exact Kj (by omega) _
 rw [NB rfl];exact tx 3 (by omega)
noncomputable def xZ(s:ByteArray):ah:=if xL s=true then iX s else []
def Dx(s:ByteArray):Int:=if xL s=true then 0 else 4
theorem aer(s:ByteArray)(w:aa)(hT:kX w)(hN:zO w):
 aK prog 8 [.string s] w (qx (xZ s) (Dx s) w):=by
 unfold xZ Dx;refine bA func8 O ntmps8 O (tD O O) (bg O (gH (St.refl w) O ?_));intro A2 w1 hS;refine ar O (W9 O O (by decide) (ar O (aQ (WI _ 12 s _ (hN.aq hS.below)) O ?_)));rintro _ w2 ⟨rfl,rfl⟩;cases hb:xL s with
 | false=>
  rw [az (by decide), az (by decide)] --dup 2
  first | refine fv rfl rfl ?_ | refine gA rfl rfl ?_
  refine aC O (Cd.gC O (aA O (vN (by exact inferInstance) O (bO 1 0 hS O O O O O O O ?_))));intro w3 aR;refine bI O (kb O (aR.rd 0 O) O ?_);exact qx.none aR
 | true=>
  rw [aB rfl,aB rfl]
  first | refine fv rfl rfl ?_ | refine gA rfl rfl ?_
  refine aC O (Cd.fC O (aA O (aQ (agW s _ (hT.aq hS.below) (Dj.1 hb)) O ?_)));rintro _ w3 ⟨A,c,rs,rfl,cI,aw⟩;have aR:=hS.call2 aw;refine bO 1 0 aR O O O O O O O fun w4 aX=>bI O (kb O (aX.rd 0 O) O ?_);exact⟨A,c,rs,O,cI,aX.tail⟩
theorem ag4(k:Nat)(h:k<12):(ov.map Value.string).getD k undef= .string (cd k):=by
 have:k<ov.length:=h;simp [cd,da,List.getElem?_map,fZ this]
theorem aji(s:ByteArray)(w:aa):
 aK prog 7 [.string s] w (qx (xZ s) (Dx s) w):=by
 refine bA func7 O ntmps7 O (tD O O) (bg O (gH (St.refl w) O ?_));intro A2 w1 hS;refine ar O (aQ (ajj _) O ?_);rintro _ w2 ⟨A4,rfl,aw⟩;replace hS:=hS.call2 aw;refine aC O (Cd.loop (α:=Nat) (fun k=> [(0,.string s),(2,.pointer A2),(4,.slice A4 12 12),(5,ak k)]) (fun k w'=>k<=12/\(∀j,j<k->¬cd j=s)/\St w w' ([Bx 24 1 A2 [.slice none 0 0]]++ [⟨A4,12,12,9,ov.map Value.string⟩])) (fun k=>12 - k) 0 (amz O) ⟨aZ _,fun j hj=>absurd hj (sX _),hS⟩ ?_);clear hS;rintro k e w3 ⟨hk,gD,hS⟩;refine bg O (bc O O (aC O ?_));refine aM _ O (fun h1=>?_) (fun h1=>?_)
 ·refine aA O ?_;refine amn (hS.rd 1 O) O O O (by omega) (by show(k:Int)<12;omega) ?_;refine ao.ld (v:= .string (cd k)) (hS.rd 1 O) O (by show k<12;omega) (ag4 k (by omega)) O O ?_;refine ar O (kW O O O (aC O ?_));refine aM _ O (fun h2=>?_) (fun h2=>?_)
  ·have hm:s∈ov:=xY.2 ⟨k,by omega,h2⟩;have hi:xL s=true:=Dj.2 hm;unfold xZ Dx;rw [aB hi,aB hi];refine aA O (aQ (afx s _ hm) O ?_);rintro _ w4 ⟨A,c,rs,rfl,cI,aw⟩;have aR:=hS.call2 aw;refine bO 1 0 aR O O O O O O O fun w5 aX=>bI O (fz (eW ?_));exact kb O (aX.rd 0 O) O ⟨A,c,rs,O,cI,aX.tail.tail⟩
  refine aA O (aH O (aT O (tQ ?_)));exact⟨k+1,by show 12 - (k+1)<12 - k;omega,⟨O,O,O,aF (Value.int .i64) (by omega),au⟩,by omega,fun j hj=>by
   rcases Nat.lt_succ_iff_lt_or_eq.1 hj with h | rfl
   ·exact gD j h
   exact h2,hS⟩
 have hi:¬xL s=true:=fun q=>by
  obtain⟨i,hi,he⟩:=xY.1 (Dj.1 q);exact gD i (by omega) he
 unfold xZ Dx;rw [az hi,az hi];refine bn O (bo (cL O ?_));refine vN (by exact inferInstance) O (bO 1 0 hS O O O O O O O ?_);intro w4 aX;refine bI O (kb O (aX.rd 0 O) O ?_);exact qx.none aX
theorem WM(s:ByteArray)(w:aa)(hT:kX w)(hN:zO w):
 aK prog 3 [.string s] w (fun v w'=>v= .bool true/\St w w' []):=by
 have hS_:=fun w=>aji s w
 have RB:=fun w hT hN=>aer s w hT hN
 have hsm:(xZ s).length<=5/\∀x∈xZ s,x.length<=400:=by
  unfold xZ
  split
  ·rename_i h;exact ag9 s (Dj.1 h)
  exact⟨by show 0<=5;omega,fun x hx=>by cases hx⟩
 generalize xZ s=L at*;generalize Dx s=K at*;have Ik:∀x∈L,x.length<=1000:=fun x hx=>by have:=hsm.2 x hx;omega
 have MC:=F2 (b:=1000) L Ik;refine bA func3 O ntmps3 O (df O) (bg O (Xi O O (aC O ?_)));refine aM _ O (fun h0=>?_) (fun h0=>?_)
 ·refine dX O (dz O ?_);exact⟨O,St.refl _⟩
 refine aA O (aQ (hS_ _) O ?_);rintro _ w1 ⟨W0,cW,x9,rfl,hrW,aI⟩;refine ar O (gH aI O ?_);intro A3 w2 aE;refine bO 1 0 aE O O O O O O O fun w3 aR=>ar O (aQ (RB _ (hT.aq aR.below) (hN.aq aR.below)) O ?_);rintro _ w4 ⟨G,cG,wF,rfl,hrG,qW⟩;have aX:=aR.call2 qW;refine ar O (gH aX O ?_);intro A5 w5 aY;refine bO 1 0 aY O O O O O O O ?_;intro w6 bk;obtain⟨b3,fR⟩:∃b3,b3=Bx 24 1 A3 [.slice W0 L.length cW]:=⟨_,rfl⟩;obtain⟨b5,lI⟩:∃b5,b5=Bx 24 1 A5 [.slice G L.length cG]:=⟨_,rfl⟩;have bk:St w w6 ([b5,b3]++ (aL 34 2 W0 L.length cW x9 L++aL 34 2 G L.length cG wF L)):=by subst fR;subst lI;exact bk
 have bk:St w w6 ([b5,b3]++ (aL 34 2 G L.length cG wF L++aL 34 2 W0 L.length cW x9 L)):=bk.perm (List.Perm.append_left [b5,b3] nT);have r5:∀ {w':aa} {ks:List Ck},St w w' (b5::ks)->Rd w' A5 1 (fun j=> [Value.slice G L.length cG].getD j undef):=fun h=>by subst lI;exact h.rd 0 rfl
 have r3:∀ {w':aa} {ks:List Ck},St w w' (b5::b3::ks)->Rd w' A3 1 (fun j=> [Value.slice W0 L.length cW].getD j undef):=fun h=>by subst fR;exact h.rd 1 rfl
 have Np:∀ {w':aa} {Y:ah} {ks:List Ck},Y.length=L.length->St w w' ([b5,b3]++ (aL 34 2 G L.length cG wF Y++ks))->bF w' G L.length wF Y:=fun hY h=>h.Nr (c:=cG) ((ng _ _).trans (iQ _ _)) hY
 have Us:∀ {w':aa} {k1:List Ck},St w w' ([b5,b3]++ (k1++aL 34 2 W0 L.length cW x9 L))->bF w' W0 L.length x9 L:=fun h=>h.Nr (c:=cW) ((iQ _ _).trans (iQ _ _)) O
 refine ar O (ao.dq 0 (r5 bk) O O O (ao.dq 0 (r3 bk) O O O (aQ (Qy G _ cG wF L W0 _ cW x9 L _ (Np O bk) (Us bk) (by omega)) O ?_)));rintro _ w7 ⟨rfl,adT⟩;have bG:=bk.aq adT.below
 first | refine fv rfl rfl ?_ | refine gA rfl rfl ?_
 refine ar O (ew 28 O (fun h=>absurd O h) (fun _=>?_));refine av O (ar O (av O (ar O (av O (aC O ?_)))));refine nP O (fun h=>h O) (aA O (ao.dq 0 (r5 bG) O O O (ar O (aQ (agj (rs:=wF) (pre:=[b5,b3]) (post:=aL 34 2 W0 L.length cW x9 L) 1 bG hrG O (by omega) Ik (by omega)) O ?_))));rintro _ w8 ⟨rfl,b6⟩;refine ar O (ao.dq 0 (r5 b6) O O O (ar O (aQ (Sn G _ cG wF L 1 _ (Np (xT _ _) b6) (by omega) Ik (by omega)) O ?_)));rintro _ w9 ⟨rfl,iV⟩;have bL:=b6.aq iV.below;refine aC O (nP O (by omega) (dw O ?_));refine nP O (fun h=>h O) (aA O (aQ (RB _ (hT.aq bL.below) (hN.aq bL.below)) O ?_));rintro _ dV ⟨H,cH,Jg,rfl,hrH,adP⟩;have bN:=bL.call adP;refine ar O (gH bN O ?_);intro A9 dZ eA;refine bO 1 0 eA O O O O O O O ?_;intro fg dG;have dG:St w fg (Bx 24 1 A9 [.slice H L.length cH]::(aL 34 2 H L.length cH Jg L++ ([b5,b3]++ (aL 34 2 G L.length cG wF (lQ 1 L)++aL 34 2 W0 L.length cW x9 L)))):=dG;have t12:=fun {w':aa} (h:St w w' (Bx 24 1 A9 [.slice H L.length cH]::(aL 34 2 H L.length cH Jg L++ ([b5,b3]++ (aL 34 2 G L.length cG wF (lQ 1 L)++aL 34 2 W0 L.length cW x9 L)))))=>h.sub ((iQ _ _).trans (List.sublist_cons_self _ _))
 have m12:bF fg H L.length Jg L:=dG.Nr (c:=cH) ((ng _ _).trans (List.sublist_cons_self _ _)) O;refine ar O (ao.dq 0 (dG.rd 0 O) O O O (ao.dq 0 (r3 (t12 dG)) O O O (aQ (Qy H _ cH Jg L W0 _ cW x9 L _ m12 (Us (t12 dG)) (by omega)) O ?_)));rintro _ gj ⟨rfl,adQ⟩;have ic:=dG.aq adQ.below
 first | refine fv rfl rfl ?_ | refine gA rfl rfl ?_
 refine ar O (ew 53 O (fun h=>absurd O h) (fun _=>?_));refine av O (ar O (av O (ar O (av O (aC O ?_)))));refine nP O (fun h=>h O) (aA O (ao.dq 0 (r5 (t12 ic)) O O O (ar O (aQ (Sn G _ cG wF L 1 _ (Np (xT _ _) (t12 ic)) (by omega) Ik (by omega)) O ?_))));rintro _ lS ⟨rfl,adR⟩;have iT:=ic.aq adR.below;refine aC O (nP O (by omega) (dw O ?_));refine nP O (fun h=>h O) (dX O (dz O ?_));exact⟨O,iT.none⟩
end
section
open Go.RowKit Go.ChangeShapes Go.WideShapes
theorem laid:laidOutB prog=true:=by kernel_rfl
theorem own:ownKnob prog.godebug=none:=by kernel_rfl
section
variable {H:Type} {enc:ae×ad->H} {P:Program}
theorem Wk(hl:laidOutB P=true){W W':aa}(hb:Below W.heap.size W W'){sp:Nat->Bool}:∀ {ts:List ae} {vs:List ad} {ds:List (DataW H)} {ps:List MemPlace},(ts.all fun t=>P.readableRec t && Nat.blt t P.types.size)=true->(∀p∈ps,p.block<W.heap.size)->(∀p∈ps,sp p.block=true)->
 DataW.TrodAll enc P W 0 (fun _=>true) true ts vs ds ps->DataW.TrodAll enc P W' 0 sp true ts vs ds ps
 | [],[],[],_,_,_,_,h=>h
 | t::ts,v::vs,d::ds,ps,hr,fW,tx,h=>by
  obtain⟨p,q,h1,h2,rfl⟩:=h;simp only [List.all_cons,Bool.and_eq_true]at hr;exact⟨p,q,WideElems.Trod_stays hl hr.1.1 (by simpa [Nat.blt_eq]using hr.1.2) h1 (fun x hx=>hb.same (fW x (by simp [hx]))) (fun x hx=>tx x (by simp [hx])),Wk hl hb hr.2 (fun x hx=>fW x (by simp [hx])) (fun x hx=>tx x (by simp [hx])) h2,O⟩
 | [],[],_::_,_,_,_,_,h=>h.elim
 | [],_::_,_,_,_,_,_,h=>by cases h
 | _::_,[],_,_,_,_,_,h=>by cases h
 | _::_,_::_,[],_,_,_,_,h=>by cases h
end
section
variable {H:Type} {enc:ae×ad->H} {P:Program}
end
section
variable{w W W':aa}
variable {H:Type} {enc:ae×ad->H} {P:Program}
theorem ahg{r:Go.Reach}{b0:Nat}{t:ae}{v:ad}{d:DataW H}{p:List MemPlace}(ht:P.underlying t=some .string)(vt:Value.okWide P w r b0 t v)(h:DataW.Trod enc P w 0 (fun _=>true) true t v d p):∃s,v= .string s/\p=[]:=by
 obtain⟨s,rfl⟩:=okWide_string ht vt;obtain⟨fuel,hf⟩:=h;obtain⟨s',_,hx,_⟩:=DataW.trod_string ht hf;exact⟨s,O,aF Prod.snd hx⟩
theorem aj9{B g:Nat}{n:String}{cs:Array ad}(h:Go.RowKit.Below B W W')(hg:P.globalNamed n=some g)(hgB:g<B)(hv:W.var? P n=some cs):W'.var? P n=some cs:=by
 unfold World.var? at hv|-;simp only [hg,Option.bind_some]at hv|-;rw [h.block g hgB];exact hv
theorem aka{g:Nat}{n:String}{cs:Array ad}(hg:P.globalNamed n=some g)(hv:W.var? P n=some cs):g<W.heap.size:=by
 unfold World.var? at hv;simp only [hg,Option.bind_some]at hv;rcases Nat.lt_or_ge g W.heap.size with h | h
 ·exact h
 rw [Array.getElem?_eq_none h]at hv;simp at hv
theorem YE{base:Nat}{sp:Nat->Bool}{held:Bool}{fuel:Nat}{t e:ae}{n:Nat}{cs:List ad}{zs:List ByteArray}{p:List MemPlace}
 (ht:P.underlying t=some (.array n e)) (he:P.underlying e=some .string) (wb:P.cellsOf e=1) (hct:P.cellsOf t=n)
 (h:DataW.trod enc P w base sp held fuel t cs=some (.agg (zs.map fun z=> .lit (.string z.data.toList)),p)):cs=zs.map Value.string:=by
 cases fuel with
 | zero=>simp [DataW.trod]at h
 | succ fuel=>
  simp only [DataW.trod,ht,wb,hct,Nat.mul_one]at h
  split at h
  ·rename_i hl;obtain⟨xs,hm,hx⟩:=Option.map_eq_some_iff.1 h;have MM:xs.map (·.1)=zs.map fun z=> (DataW.lit (.string z.data.toList):DataW H):=by
    have:=aF Prod.fst hx;simpa using this
   have jH:xs.length=n:=by simpa using Lib.mapM_length hm
   have wu:zs.length=n:=by
    have:=aF List.length MM;simp at this;omega
   apply List.ext_getElem?;intro i
   by_cases hi:i<n
   ·obtain⟨b,hb,hf⟩:=Lib.mapM_at hm i i (by simp [hi]);obtain⟨z,hc,rfl,_⟩:=DataW.trod_string he hf;have h1:cs[i]?=some (.string z):=by
     have:=aF (·[0]?) hc;simpa [rK,List.getElem?_drop]using this
    have h2:(xs.map (·.1))[i]?=some (DataW.lit (.string z.data.toList):DataW H):=by simp [hb]
    rw [MM]at h2;simp only [List.getElem?_map,Option.map_eq_some_iff,DataW.lit.injEq,Lit.string.injEq]at h2;obtain⟨z',IB,qb⟩:=h2;have:z'=z:=ByteArray.ext (Array.ext' qb);subst this;simp [h1,IB]
   ·rw [mh (by omega),mh (by simp;omega)]
  ·cases h
theorem ahY{f:Func}{s:ChangeSpec}{apart:Bool}{args:Array ad}{ds gs:List (DataW H)}{before:List MemPlace}{nm:String}{g0:Nat}{t0:ae}(hl:laidOutB P=true){b:ae}(hu:P.underlying b=some .bool)(Tk:f.resultTypes= #[b])(hv:s.vars=[nm])
 (hr:(f.params.toList.all fun t=>P.readableRec t && Nat.blt t P.types.size)=true) (SB:P.globalNamed nm=some g0) (ht0:(P.globals[g0]?).map (·.type)=some t0) (xE:P.readableRec t0=true) (vj:t0<P.types.size)
 (ko:(s.fn H (ds++gs)).results=[.lit (.bool true)]/\(s.fn H (ds++gs)).args=ds/\(s.fn H (ds++gs)).vars=gs)
 (hW:DataW.Whole enc P f.params.toList s.vars apart W args.toList ds gs before) (hb:Below W.heap.size W W'):s.post enc P f apart true false false W args (.bool true) W':=by
 have fW:∀x∈before,x.block<W.heap.size:=fun x hx=>hW.lt x hx
 have hW0:=hW;obtain⟨p,q,hA,hV,rfl,hz,hn⟩:=hW;have SX:∀x∈p,x.block<W.heap.size:=fun x hx=>fW x (by simp [hx])
 have E3:∀x∈q,x.block<W.heap.size:=fun x hx=>fW x (by simp [hx])
 have Hl:∀sp:Nat->Bool,(∀x∈p,sp x.block=true)->DataW.TrodAll enc P W' 0 sp true f.params.toList args.toList (s.fn H (ds++gs)).args p:=fun sp tx=>by
  rw [ko.2.1];exact Wk hl hb hr SX tx hA
 have pY:∀(b0:Nat) (sp:Nat->Bool) (hd:Bool),DataW.TrodAll enc P W' b0 sp hd f.resultTypes.toList ((Value.bool true).resultList f.resultTypes.size) (s.fn H (ds++gs)).results []:=fun b0 sp hd=>by
  rw [ko.1,Tk];exact trodAll_cons_mk (shut_bool hu _) trodAll_mk0
 have RU:∀sp:Nat->Bool,(∀x∈q,sp x.block=true)->DataW.TrodVars enc P W' sp s.vars (s.fn H (ds++gs)).vars q:=fun sp tx=>by
  rw [ko.2.2];rw [hv]at hV|-;obtain⟨g,t,cs,fuel,d,p1,rfl,h1,h2,h3,h4,rfl⟩:=trodVars_one hV;obtain rfl:g0=g:=dC (SB.symm.trans h1);obtain rfl:t0=t:=dC (ht0.symm.trans h2);have h5:DataW.Trod enc P W 0 (fun _=>true) true t0 (.agg cs) d p1:=⟨fuel,h4⟩;obtain⟨fuel',h6⟩:=WideElems.Trod_stays hl xE vj h5 (fun x hx=>hb.same (E3 x (by simp [hx]))) (sp':=sp) (fun x hx=>tx x (by simp [hx]));exact trodVars_mk1 h1 h2 (aj9 hb.toBelow h1 (aka h1 h3) h3) h6
 refine⟨ds,gs,p++q,[],p,q,hW0,pY _ _ _,Hl _ (fun x hx=>by simpa using SX x hx),RU _ (fun x hx=>by simpa using E3 x hx),World.keptBut_mono (fun x hx=> ⟨hx,by simpa using hx⟩) (hb.frame (· ∈p++q)),fun _=> ⟨fun j t r h1 h2=>?_,_,_,([]++p)++q,⟨[]++p,q,trodAll_append (Hl _ fun _ _=>O) (pY _ _ _),RU _ (fun _ _=>O),O,fun c off hc=>?_,fun ha=>by simpa using hn ha⟩,fun x hx _=>by simpa using hx⟩⟩
 ·rw [Tk]at h1 h2;cases j with
  | zero=>
   simp at h1;subst h1;simp [Value.resultList]at h2;subst h2;exact okWide_bool_mk hu _
  | succ j=>simp at h1
 ·have du:MemPlace.cell c off∈p++q:=by simpa using hc
  rw [hb.frozen (fW _ du)];exact hz c off du
end
theorem gN : prog.globalNamed "loop.example/g01108/impl.polytopeNames" = some 0 := by kernel_rfl
theorem UP:(prog.globals[0]?).map (·.type)=some 68:=by kernel_rfl
theorem YR:prog.cellsOf 68=12:=by kernel_rfl
theorem Zb:prog.cellsOf 9=1:=by kernel_rfl
set_option maxRecDepth 10000 in
theorem ag6{W : aa}{rest : List (String × DataW Unit)}(h : laidMet prog (("loop.example/g01108/impl.polytopeNames", .agg (ov.map fun z => .lit (.string z.data.toList))) :: rest) W): zO W := by
 obtain⟨ps,⟨g',t',cs,fuel,p,q,nB,oX,ad8,hd,_,_⟩,_⟩:=h;obtain rfl:=dC (gN.symm.trans nB);obtain rfl:=dC (UP.symm.trans oX);have ue:=YE underlying68 underlying9 Zb YR hd;intro j hj;refine⟨⟨0,j,none⟩,by show some (Addr.add _ j)=_;simp [Addr.add];(try omega),?_⟩;have h1:=World.var?_cell gN ad8 j;rw [h1,<-Array.getElem?_toList,ue];have gX:j<ov.length:=hj;simp [IY,cd,da,fZ gX]
end
end Go.Proofs.YtkccgdhcpplblaaGreatDoor.Vc
