/-
 Lemmas. Conditions: as each states them.
-/
import Derived.Test.YtkccgdhcpplblaaGreatDoorZe
import Derived.MapKept
import Derived.Carry
set_option maxHeartbeats 8000000
namespace Go.Proofs.YtkccgdhcpplblaaGreatDoor.Vc
section
structure ia{α:Type}(N:Nat)(el:Nat->α->Prop)(le:α->α->Prop):Prop where
 one:∀ {i j:Nat} {a:α},el i a->el j a->i=j
 rf:∀a:α,le a a
 tr:∀ {i j k:Nat} {a b c:α},el i a->el j b->el k c->le a b->le b c->le a c
 st:∀ {i j:Nat} {a b:α},el i a->el j b->le a b->a=b\/i<j
 uO:∀ {i j:Nat} {a b:α},el i a->el j b->le a b->i+1<j->∃c,el (i+1) c/\le a c/\le c b
 oJ:∀ {i:Nat} {a:α},el i a->i<=N
 bot:∃o,el 0 o/\∀(i:Nat) (a:α),el i a->le o a/\(i=0->a=o)
 top:∃t,el N t/\∀(i:Nat) (a:α),el i a->le a t/\(i=N->a=t)
section
variable{i j p q k:Nat}{S T:Nat->Prop}
variable {α:Type} {N:Nat} {el:Nat->α->Prop} {le:α->α->Prop}
def jc(el:Nat->α->Prop)(le:α->α->Prop)(i j:Nat)(z:Nat->α):Prop:=(∀k,i<=k->k<=j->el k (z k))/\∀k,i<=k->k<j->le (z k) (z (k+1))
theorem jc.zg(g:ia N el le){z:Nat->α}(h:jc el le i j z)(h1:i<=p)(h2:p<=q)(h3:q<=j):le (z p) (z q):=by
 induction q with
 | zero=>
  obtain rfl:p=0:=by omega
  exact g.rf _
 | succ q ih=>
  by_cases e:p=q+1
  ·subst e;exact g.rf _
  ·exact g.tr (h.1 p h1 am) (h.1 q am am) (h.1 (q+1) am h3) (ih am am) (h.2 q am am)
theorem jc.sub{z:Nat->α}(h:jc el le i j z)(h1:i<=p)(h2:q<=j):jc el le p q z:=⟨fun k a b=>h.1 k am am,fun k a b=>h.2 k am am⟩
def qM(k:Nat)(z w:Nat->α)(p:Nat):α:=if p<=k then z p else w p
theorem rJ{z w:Nat->α}(h:p<=k):qM k z w p=z p:=aB h
theorem yj{z w:Nat->α}(h:k<p):qM k z w p=w p:=az am
theorem MB{z w:Nat->α}(e:z k=w k)(h:k<=p):qM k z w p=w p:=by
 by_cases h':p=k
 ·subst h';rw [rJ (br _),e]
 exact yj am
theorem jc.glue{z w:Nat->α}(h1:jc el le i k z)(h2:jc el le k j w)(e:z k=w k):jc el le i j (qM k z w):=by
 refine⟨fun p a b=>?_,fun p a b=>?_⟩
 ·by_cases h:p<=k
  ·rw [rJ h];exact h1.1 p a h
  rw [yj (by omega)];exact h2.1 p am b
 by_cases h:p<k
 ·rw [rJ (by omega),rJ (by omega)];exact h1.2 p a h
 rw [MB e (by omega),MB e (by omega)];exact h2.2 p am b
theorem ia.chain(g:ia N el le){a b:α}(ha:el i a)(hb:el j b)(h:le a b)(iy:i<=j):∃z,jc el le i j z/\z i=a/\z j=b:=by
 obtain⟨d,hd⟩:∃d,d=j - i:=⟨_,rfl⟩
 induction d generalizing i a with
 | zero=>
  obtain rfl:i=j:=by omega
  rcases g.st ha hb h with rfl | h
  ·refine⟨fun _=>a,⟨fun k h1 h2=>?_,fun k _ _=>g.rf _⟩,O,O⟩;have:k=i:=by omega
   rw [this];exact ha
  ·omega
 | succ d ih=>
  by_cases e:i+1=j
  ·subst e;refine⟨fun k=>if k=i then a else b,⟨fun k h1 h2=>?_,fun k h1 h2=>?_⟩,aB O,az am⟩
   ·show el k (if k=i then a else b)
    split
    ·rename_i e;rw [e];exact ha
    ·obtain rfl:k=i+1:=by omega
     exact hb
   ·show le (if k=i then a else b) (if k+1=i then a else b);rw [aB (by omega),az (by omega)];exact h
  ·obtain⟨c,hc,h1,h2⟩:=g.uO ha hb h am;obtain⟨z,hz,e1,e2⟩:=ih hc h2 am am;refine⟨fun k=>if k=i then a else z k,⟨fun k h3 h4=>?_,fun k h3 h4=>?_⟩,aB O,by show(if j=i then a else z j)=b;rw [az (by omega)];exact e2⟩
   ·show el k (if k=i then a else z k)
    split
    ·rename_i e;rw [e];exact ha
    ·exact hz.1 k am h4
   ·show le (if k=i then a else z k) (if k+1=i then a else z (k+1));rw [az (show ¬k+1=i by omega)]
    split
    ·rename_i e;subst e;rw [e1];exact h1
    ·exact hz.2 k am h4
inductive jF(el:Nat->α->Prop)(le:α->α->Prop)(i j:Nat)(S:Nat->Prop)(z:Nat->α):(Nat->α)->Prop where
 | same {y:Nat->α}:(∀k,i<=k->k<=j->z k=y k)->jF el le i j S z y
 | step {y y':Nat->α} (p:Nat):jF el le i j S z y->jc el le i j y->jc el le i j y'->i<p->p<j->¬S p->(∀k,i<=k->k<=j->k≠p->y k=y' k)->jF el le i j S z y'
theorem jF.eqv{z y y':Nat->α}(h:jF el le i j S z y)(e:∀k,i<=k->k<=j->y k=y' k):jF el le i j S z y':=by
 cases h with
 | same h=>exact .same fun k a b=> (h k a b).trans (e k a b)
 | step p h c c' h1 h2 h3 h4=>
  exact .step p h c ⟨fun k a b=>e k a b▸c'.1 k a b,fun k a b=>by rw [<-e k a (by omega),<-e (k+1) (by omega) b];exact c'.2 k a b⟩ h1 h2 h3 fun k a b n=> (h4 k a b n).trans (e k a b)
theorem jF.trans{z y x:Nat->α}(h:jF el le i j S z y)(h':jF el le i j S y x):jF el le i j S z x:=by
 induction h' with
 | same e=>exact h.eqv e
 | step p _ c c' h1 h2 h3 h4 ih=>exact .step p ih c c' h1 h2 h3 h4
theorem jF.mono{z y:Nat->α}(h:jF el le i j S z y)(hT:∀p,i<p->p<j->T p->S p):jF el le i j T z y:=by
 induction h with
 | same e=>exact .same e
 | step p _ c c' h1 h2 h3 h4 ih=>exact .step p ih c c' h1 h2 (fun ht=>h3 (hT p h1 h2 ht)) h4
theorem jF.keep{z y:Nat->α}(h:jF el le i j S z y)(h1:i<=k)(h2:k<=j)(hk:k<=i\/j<=k\/S k):z k=y k:=by
 induction h with
 | same e=>exact e k h1 h2
 | step p _ c c' h3 h4 h5 h6 ih=>exact ih.trans (h6 k h1 h2 (fun e=>by subst e;rcases hk with h | h | h<;>first | omega | exact h5 h))
theorem jF.lo{z y w:Nat->α}(h:jF el le i k S z y)(hz:jc el le i k z)(hw:jc el le k j w)(e:z k=w k)(nB:i<=k)(Ej:k<=j):jF el le i j S (qM k z w) (qM k y w):=by
 induction h with
 | same e=>
  exact .same fun p a b=>by
   unfold qM;split
   ·exact e p a (by assumption)
   ·rfl
 | @step y y' p hl c c' h1 h2 h3 h4 ih=>
  have e1:y k=w k:=(hl.keep nB (br _) (.inr (.inl (br _)))).symm.trans e;have e2:y' k=w k:=(h4 k nB (br _) am).symm.trans e1;refine .step p ih (c.glue hw e1) (c'.glue hw e2) h1 am h3 fun q a b n=>?_
  unfold qM;split
  ·exact h4 q a (by assumption) n
  ·rfl
theorem jF.hi{z w w':Nat->α}(h:jF el le k j S w w')(hz:jc el le i k z)(hw:jc el le k j w)(e:z k=w k)(nB:i<=k)(Ej:k<=j):jF el le i j S (qM k z w) (qM k z w'):=by
 induction h with
 | same e=>
  exact .same fun p a b=>by
   unfold qM;split
   ·rfl
   ·exact e p am b
 | @step y y' p hl c c' h1 h2 h3 h4 ih=>
  have e1:z k=y k:=e.trans (hl.keep (br _) Ej (.inl (br _)));have e2:z k=y' k:=e1.trans (h4 k (br _) Ej am);refine .step p ih (hz.glue c e1) (hz.glue c' e2) am h2 h3 fun q a b n=>?_
  unfold qM;split
  ·rfl
  ·exact h4 q am b n
inductive iB(el:Nat->α->Prop)(le:α->α->Prop)(i j:Nat)(a b:α)(p:Nat)(c:α):Nat->α->Prop where
 | refl:iB el le i j a b p c p c
 | step {q r:Nat} {d e:α}:iB el le i j a b p c q d->i<r->r<j->el r e->le a e->le e b->(le d e\/le e d)->iB el le i j a b p c r e
def uI(el:Nat->α->Prop)(le:α->α->Prop)(i j:Nat)(a b:α)(p:Nat)(c:α):Prop:=i<p/\p<j/\el p c/\le a c/\le c b
def nu(el:Nat->α->Prop)(le:α->α->Prop):Prop:=∀(i j:Nat) (a b:α),el i a->el j b->le a b->i+3<=j->∀(p q:Nat) (c d:α),uI el le i j a b p c->uI el le i j a b q d->iB el le i j a b p c q d
theorem abp(g:ia N el le)(hc:nu el le):∀(m i j:Nat),j - i<=m->i<=j->∀z y:Nat->α,jc el le i j z->jc el le i j y->z i=y i->z j=y j->jF el le i j (fun k=>z k=y k) z y:=by
 intro m
 induction m with
 | zero=>
  intro i j hm iy z y _ _ e1 _;exact .same fun k a b=>by
   obtain rfl:k=i:=by omega
   exact e1
 | succ m ih=>
  intro i j hm iy z y hz hy e1 e2;have split:∀z y:Nat->α,jc el le i j z->jc el le i j y->z i=y i->z j=y j->∀k,i<k->k<j->z k=y k->jF el le i j (fun k=>z k=y k) z y:=by
   intro z y hz hy e1 e2 k h1 h2 ek;have l1:=ih i k am am z y (hz.sub (br _) am) (hy.sub (br _) am) e1 ek;have l2:=ih k j am am z y (hz.sub am (br _)) (hy.sub am (br _)) ek e2;have a1:=l1.lo (w:=z) (hz.sub (br _) am) (hz.sub am (br _)) O am am;have a2:=l2.hi (z:=y) (hy.sub (br _) am) (hz.sub am (br _)) ek.symm am am;refine(jF.trans (.same fun p _ _=>?_) (a1.trans a2)).eqv fun p _ _=>?_
   ·unfold qM;split<;>rfl
   ·unfold qM;split<;>rfl
  by_cases hk:∃k,i<k/\k<j/\z k=y k
  ·obtain⟨k,h1,h2,h3⟩:=hk;exact split z y hz hy e1 e2 k h1 h2 h3
  have bP:∀p,i<p->p<j->¬z p=y p:=fun p h1 h2 h=>hk ⟨p,h1,h2,h⟩
  by_cases hs:j<=i+1
  ·exact .same fun k a b=>by
    rcases(show k=i\/k=j by omega)with rfl | rfl
    ·exact e1
    ·exact e2
  by_cases mI:j=i+2
  ·subst mI;refine .step (i+1) (.same fun _ _ _=>O) hz hy am am (bP _ am am) fun k a b n=>?_
   rcases(show k=i\/k=i+2 by omega)with rfl | rfl
   ·exact e1
   ·exact e2
  have hb:=fun(w:Nat->α) (hw:jc el le i j w) (f1:z i=w i) (f2:z j=w j)=> (⟨am,am,hw.1 _ am am,f1▸hw.zg g (br _) am am,f2▸hw.zg g am am (br _)⟩:uI el le i j (z i) (z j) (i+1) (w (i+1)))
  have Ag:=hc i j (z i) (z j) (hz.1 i (br _) iy) (hz.1 j iy (br _)) (hz.zg g (br _) iy (br _)) am _ _ _ _ (hb z hz O O) (hb y hy e1 e2);have key:∀(q:Nat) (d:α),iB el le i j (z i) (z j) (i+1) (z (i+1)) q d->uI el le i j (z i) (z j) q d/\∀x,jc el le i j x->z i=x i->z j=x j->x q=d->jF el le i j (fun _=>False) z x:=by
   intro q d h
   induction h with
   | refl=>exact⟨hb z hz rfl rfl,fun x hx f1 f2 f3=> (split z x hz hx f1 f2 (i+1) am am f3.symm).mono fun _ _ _ h=>h.elim⟩
   | @step q r d e _ h1 h2 h3 h4 h5 h6 ihc=>
    obtain⟨⟨q1,q2,q3,q4,q5⟩,OL⟩:=ihc;refine⟨⟨h1,h2,h3,h4,h5⟩,fun x hx f1 f2 f3=>?_⟩;have hzi:=hz.1 i (br _) iy;have hzj:=hz.1 j iy (br _);have fin:∀w,jc el le i j w->z i=w i->z j=w j->w q=d->w r=e->jF el le i j (fun _=>False) z x:=fun w hw g1 g2 g3 g4=>
     (OL w hw g1 g2 g3).trans ((split w x hw hx (g1.symm.trans f1) (g2.symm.trans f2) r h1 h2 (g4.trans f3.symm)).mono fun _ _ _ h=>h.elim)
    have mk:∀(u v:Nat) (s t:α),i<u->u<v->v<j->el u s->el v t->le (z i) s->le s t->le t (z j)->∃w,jc el le i j w/\z i=w i/\z j=w j/\w u=s/\w v=t:=by
     intro u v s t k1 k2 k3 k4 k5 k6 k7 k8;obtain⟨w1,c1,a1,b1⟩:=g.chain hzi k4 k6 am;obtain⟨w2,c2,a2,b2⟩:=g.chain k4 k5 k7 am;obtain⟨w3,c3,a3,b3⟩:=g.chain k5 hzj k8 am;refine⟨qM v (qM u w1 w2) w3,(c1.glue c2 (b1.trans a2.symm)).glue c3 (by rw [yj k2,b2,a3]),?_,?_,?_,?_⟩
     ·rw [rJ (by omega),rJ (by omega),a1]
     ·rw [yj k3,b3]
     ·rw [rJ (by omega),rJ (br _),b1]
     ·rw [rJ (br _),yj k2,b2]
    rcases h6 with h6 | h6
    ·rcases g.st q3 h3 h6 with e' | e'
     ·subst e';obtain rfl:=g.one q3 h3;exact OL x hx f1 f2 f3
     ·obtain⟨w,hw,g1,g2,g3,g4⟩:=mk q r d e q1 e' h2 q3 h3 q4 h6 h5;exact fin w hw g1 g2 g3 g4
    ·rcases g.st h3 q3 h6 with e' | e'
     ·subst e';obtain rfl:=g.one q3 h3;exact OL x hx f1 f2 f3
     ·obtain⟨w,hw,g1,g2,g3,g4⟩:=mk r q e d h1 e' q2 h3 q3 h4 h6 q5;exact fin w hw g1 g2 g4 g3
  exact((key _ _ Ag).2 y hy e1 e2 O).mono fun p h1 h2 h=>bP p h1 h2 h
end
section
variable{p q:Nat}
variable {α:Type} {el:Nat->α->Prop} {le:α->α->Prop} {i j:Nat} {a b:α}
theorem iB.end_{c d:α}(h:iB el le i j a b p c q d)(hp:uI el le i j a b p c):uI el le i j a b q d:=by
 cases h with
 | refl=>exact hp
 | step _ h1 h2 h3 h4 h5 _=>exact⟨h1,h2,h3,h4,h5⟩
theorem iB.trans{r:Nat}{c d e:α}(h:iB el le i j a b p c q d)(h':iB el le i j a b q d r e):iB el le i j a b p c r e:=by
 induction h' with
 | refl=>exact h
 | step _ h1 h2 h3 h4 h5 h6 ih=>exact .step ih h1 h2 h3 h4 h5 h6
theorem iB.one{c d:α}(hq:uI el le i j a b q d)(h:le c d\/le d c):iB el le i j a b p c q d:= .step .refl hq.1 hq.2.1 hq.2.2.1 hq.2.2.2.1 hq.2.2.2.2 h
theorem iB.symm{c d:α}(hp:uI el le i j a b p c)(h:iB el le i j a b p c q d):iB el le i j a b q d p c:=by
 induction h with
 | refl=>exact .refl
 | step h0 h1 h2 h3 h4 h5 h6 ih=>exact(iB.one (h0.end_ hp) h6.symm).trans ih
end
section
variable {α β:Type} {N1 N2:Nat} {dN:Nat->α->Prop} {eV:α->α->Prop} {dO:Nat->β->Prop} {eW:β->β->Prop}
def oi(eV:α->α->Prop)(eW:β->β->Prop)(c d:α×β):Prop:=eV c.1 d.1/\eW c.2 d.2
structure C8(dN:Nat->α->Prop)(eV:α->α->Prop)(dO:Nat->β->Prop)(eW:β->β->Prop)(a1 b1:α)(a2 b2:β)(i j:Nat)(c1:α)(c2:β):Prop where
 e1:dN i c1
 e2:dO j c2
 l1:eV a1 c1
 m1:eV c1 b1
 l2:eW a2 c2
 m2:eW c2 b2
theorem R0(g1:ia N1 dN eV)(g2:ia N2 dO eW)(Ae:nu dN eV)(pB:nu dO eW){el:Nat->α×β->Prop}{s i0 j0 i1 j1:Nat}{a1 b1:α}{a2 b2:β}
 (im:dN i0 a1) (iw:dO j0 a2) (dE:dN i1 b1) (eB:dO j1 b2) (h1:eV a1 b1) (h2:eW a2 b2) (hs:s<=i0+j0) (h3:i0+j0+3<=i1+j1)
 (jw:∀i j c1 c2,dN i c1->dO j c2->eV a1 c1->eW a2 c2->el (i+j - s) (c1,c2))
 {i j k l:Nat} {c1 d1:α} {c2 d2:β} (hc:C8 dN eV dO eW a1 b1 a2 b2 i j c1 c2) (hd:C8 dN eV dO eW a1 b1 a2 b2 k l d1 d2)
 (Jv:i0+j0<i+j/\i+j<i1+j1) (Eb:i0+j0<k+l/\k+l<i1+j1):
 iB el (oi eV eW) (i0+j0 - s) (i1+j1 - s) (a1,a2) (b1,b2) (i+j - s) (c1,c2) (k+l - s) (d1,d2):=by
 have nE:∀ {i j:Nat} {c1:α} {c2:β},C8 dN eV dO eW a1 b1 a2 b2 i j c1 c2->i0+j0<i+j->i+j<i1+j1->uI el (oi eV eW) (i0+j0 - s) (i1+j1 - s) (a1,a2) (b1,b2) (i+j - s) (c1,c2):=fun h p q=> ⟨am,am,jw _ _ _ _ h.e1 h.e2 h.l1 h.l2,⟨h.l1,h.l2⟩,⟨h.m1,h.m2⟩⟩
 have O7:∀ {i:Nat} {c:α},dN i c->eV a1 c->eV c b1->(i0<=i/\i<=i1)/\(i=i1->c=b1)/\(i=i0->c=a1):=fun {i c} he h h'=>by
  rcases g1.st im he h with e | e<;>rcases g1.st he dE h' with e' | e'
  ·subst e;subst e';have:=g1.one he im;have:=g1.one he dE;exact⟨am,fun _=>rfl,fun _=>rfl⟩
  ·subst e;have:=g1.one he im;exact⟨am,am,fun _=>rfl⟩
  ·subst e';have:=g1.one he dE;exact⟨am,fun _=>rfl,am⟩
  ·exact⟨am,am,am⟩
 have O8:∀ {i:Nat} {c:β},dO i c->eW a2 c->eW c b2->(j0<=i/\i<=j1)/\(i=j1->c=b2)/\(i=j0->c=a2):=fun {i c} he h h'=>by
  rcases g2.st iw he h with e | e<;>rcases g2.st he eB h' with e' | e'
  ·subst e;subst e';have:=g2.one he iw;have:=g2.one he eB;exact⟨am,fun _=>rfl,fun _=>rfl⟩
  ·subst e;have:=g2.one he iw;exact⟨am,am,fun _=>rfl⟩
  ·subst e';have:=g2.one he eB;exact⟨am,fun _=>rfl,am⟩
  ·exact⟨am,am,am⟩
 have h01:=(O7 dE h1 (g1.rf _)).1;have h02:=(O8 eB h2 (g2.rf _)).1
 by_cases q1:i0=i1
 ·-- the first part stands still
  have e1:∀ {i:Nat} {c:α},dN i c->eV a1 c->eV c b1->c=a1/\i=i0:=fun he h h'=>by
   have:=O7 he h h';exact⟨this.2.2 am,am⟩
  obtain⟨rfl,rfl⟩:=e1 hc.e1 hc.l1 hc.m1;obtain⟨rfl,rfl⟩:=e1 hd.e1 hd.l1 hd.m1;have key:=pB j0 j1 a2 b2 iw eB h2 am j l c2 d2 ⟨am,am,hc.e2,hc.l2,hc.m2⟩ ⟨am,am,hd.e2,hd.l2,hd.m2⟩;clear hd Eb
  induction key with
  | refl=>exact .refl
  | step _ k1 k2 k3 k4 k5 k6 ih=>
   refine ih.trans (.one (nE ⟨hc.e1,k3,hc.l1,hc.m1,k4,k5⟩ am am) ?_);exact k6.imp (fun h=> ⟨g1.rf _,h⟩) (fun h=> ⟨g1.rf _,h⟩)
 by_cases q2:j0=j1
 ·have e2:∀ {i:Nat} {c:β},dO i c->eW a2 c->eW c b2->c=a2/\i=j0:=fun he h h'=>by
   have:=O8 he h h';exact⟨this.2.2 am,am⟩
  obtain⟨rfl,rfl⟩:=e2 hc.e2 hc.l2 hc.m2;obtain⟨rfl,rfl⟩:=e2 hd.e2 hd.l2 hd.m2;have key:=Ae i0 i1 a1 b1 im dE h1 am i k c1 d1 ⟨am,am,hc.e1,hc.l1,hc.m1⟩ ⟨am,am,hd.e1,hd.l1,hd.m1⟩;clear hd Eb
  induction key with
  | refl=>exact .refl
  | step _ k1 k2 k3 k4 k5 k6 ih=>
   refine ih.trans (.one (nE ⟨k3,hc.e2,k4,k5,hc.l2,hc.m2⟩ am am) ?_);exact k6.imp (fun h=> ⟨h,g2.rf _⟩) (fun h=> ⟨h,g2.rf _⟩)
 have bu:C8 dN eV dO eW a1 b1 a2 b2 i0 j1 a1 b2:=⟨im,eB,g1.rf _,h1,h2,g2.rf _⟩;have bv:C8 dN eV dO eW a1 b1 a2 b2 i1 j0 b1 a2:=⟨dE,iw,h1,g1.rf _,g2.rf _,h2⟩;have iu:=nE bu am am;have iv:=nE bv am am;have uv:iB el (oi eV eW) (i0+j0 - s) (i1+j1 - s) (a1,a2) (b1,b2) (i0+j1 - s) (a1,b2) (i1+j0 - s) (b1,a2):=by
  by_cases q3:i0+1<i1
  ·obtain⟨x,hx,x1,x2⟩:=g1.uO im dE h1 q3;refine(iB.one (c:=(a1,b2)) (nE (i:=i0+1) (j:=j1) (c1:=x) (c2:=b2) ⟨hx,eB,x1,x2,h2,g2.rf _⟩ am am) (.inl ⟨x1,g2.rf _⟩)).trans ((iB.one (c:=(x,b2)) (nE (i:=i0+1) (j:=j0) (c1:=x) (c2:=a2) ⟨hx,iw,x1,x2,g2.rf _,h2⟩ am am) (.inr ⟨g1.rf _,h2⟩)).trans ?_);exact .one iv (.inl ⟨x2,g2.rf _⟩)
  ·obtain⟨x,hx,x1,x2⟩:=g2.uO iw eB h2 am;refine(iB.one (c:=(a1,b2)) (nE (i:=i0) (j:=j0+1) (c1:=a1) (c2:=x) ⟨im,hx,g1.rf _,h1,x1,x2⟩ am am) (.inr ⟨g1.rf _,x2⟩)).trans ((iB.one (c:=(a1,x)) (nE (i:=i1) (j:=j0+1) (c1:=b1) (c2:=x) ⟨dE,hx,h1,g1.rf _,x1,x2⟩ am am) (.inl ⟨h1,g2.rf _⟩)).trans ?_);exact .one iv (.inr ⟨g1.rf _,x1⟩)
 have YE:∀ {i j:Nat} {c1:α} {c2:β},C8 dN eV dO eW a1 b1 a2 b2 i j c1 c2->i0+j0<i+j->i+j<i1+j1->iB el (oi eV eW) (i0+j0 - s) (i1+j1 - s) (a1,a2) (b1,b2) (i+j - s) (c1,c2) (i0+j1 - s) (a1,b2):=fun {i j c1 c2} h p q=>by
  have f1:=O7 h.e1 h.l1 h.m1;have f2:=O8 h.e2 h.l2 h.m2
  by_cases q4:i<i1
  ·exact(iB.one (c:=(c1,c2)) (nE (i:=i) (j:=j1) (c1:=c1) (c2:=b2) ⟨h.e1,eB,h.l1,h.m1,h2,g2.rf _⟩ am am) (.inl ⟨g1.rf _,h.m2⟩)).trans (iB.one (c:=(c1,b2)) iu (.inr ⟨h.l1,g2.rf _⟩))
  ·have:c1=b1:=f1.2.1 am;subst this;exact(iB.one (c:=(c1,c2)) iv (.inr ⟨g1.rf _,h.l2⟩)).trans (uv.symm iu)
 exact(YE hc Jv.1 Jv.2).trans ((YE hd Eb.1 Eb.2).symm (nE hd Eb.1 Eb.2))
def Iz(dN:Nat->α->Prop)(dO:Nat->β->Prop)(p:Nat)(c:α×β):Prop:=∃i j,dN i c.1/\dO j c.2/\p=i+j
theorem We(g1:ia N1 dN eV)(g2:ia N2 dO eW):ia (N1+N2) (Iz dN dO) (oi eV eW) where
 one:=fun⟨i,j,a,b,e⟩ ⟨i',j',a',b',e'⟩=>by have:=g1.one a a';have:=g2.one b b';omega
 rf:=fun c=> ⟨g1.rf _,g2.rf _⟩
 tr:=fun⟨_,_,a,b,_⟩ ⟨_,_,a',b',_⟩ ⟨_,_,Lp,Lz,_⟩ h h'=> ⟨g1.tr a a' Lp h.1 h'.1,g2.tr b b' Lz h.2 h'.2⟩
 st:=fun {_ _ c d} ⟨i,j,a,b,e⟩ ⟨i',j',a',b',e'⟩ h=>by
  rcases g1.st a a' h.1 with h1 | h1<;>rcases g2.st b b' h.2 with h2 | h2
  ·exact .inl (Prod.ext h1 h2)
  ·rw [<-h1]at a';have:=g1.one a a';exact .inr am
  ·rw [<-h2]at b';have:=g2.one b b';exact .inr am
  exact .inr am
 uO:=fun {p q c d} ⟨i,j,a,b,e⟩ ⟨i',j',a',b',e'⟩ h vh=>by
  have k1:i<=i'/\(i=i'->c.1=d.1):=by
   rcases g1.st a a' h.1 with h1 | h1
   ·rw [<-h1]at a';have:=g1.one a a';exact⟨am,fun _=>h1⟩
   exact⟨am,am⟩
  have k2:j<=j'/\(j=j'->c.2=d.2):=by
   rcases g2.st b b' h.2 with h1 | h1
   ·rw [<-h1]at b';have:=g2.one b b';exact⟨am,fun _=>h1⟩
   exact⟨am,am⟩
  by_cases q1:i+1<i'
  ·obtain⟨x,hx,x1,x2⟩:=g1.uO a a' h.1 q1;exact⟨(x,c.2),⟨i+1,j,hx,b,am⟩,⟨x1,g2.rf _⟩,⟨x2,h.2⟩⟩
  by_cases q2:i+1=i'
  ·exact⟨(d.1,c.2),⟨i',j,a',b,am⟩,⟨h.1,g2.rf _⟩,⟨g1.rf _,h.2⟩⟩
  obtain⟨x,hx,x1,x2⟩:=g2.uO b b' h.2 am;exact⟨(c.1,x),⟨i,j+1,a,hx,am⟩,⟨g1.rf _,x1⟩,⟨h.1,x2⟩⟩
 oJ:=fun⟨i,j,a,b,e⟩=>by have:=g1.oJ a;have:=g2.oJ b;omega
 bot:=by
  obtain⟨o1,h1,k1⟩:=g1.bot;obtain⟨o2,h2,k2⟩:=g2.bot;exact⟨(o1,o2),⟨0,0,h1,h2,O⟩,fun p c ⟨i,j,a,b,e⟩=> ⟨⟨(k1 i _ a).1,(k2 j _ b).1⟩,fun hp=>Prod.ext ((k1 i _ a).2 am) ((k2 j _ b).2 am)⟩⟩
 top:=by
  obtain⟨o1,h1,k1⟩:=g1.top;obtain⟨o2,h2,k2⟩:=g2.top;refine⟨(o1,o2),⟨N1,N2,h1,h2,O⟩,fun p c ⟨i,j,a,b,e⟩=> ⟨⟨(k1 i _ a).1,(k2 j _ b).1⟩,fun hp=>?_⟩⟩;have:=g1.oJ a;have:=g2.oJ b;exact Prod.ext ((k1 i _ a).2 am) ((k2 j _ b).2 am)
theorem ahX(g1:ia N1 dN eV)(g2:ia N2 dO eW)(Ae:nu dN eV)(pB:nu dO eW):nu (Iz dN dO) (oi eV eW):=by
 rintro p q ⟨a1,a2⟩ ⟨b1,b2⟩ ⟨i0,j0,im,iw,rfl⟩ ⟨i1,j1,dE,eB,rfl⟩ h vh r t ⟨c1,c2⟩ ⟨d1,d2⟩ ⟨c3,c4,⟨i,j,hc,qm,rfl⟩,c5,c6⟩ ⟨d3,d4,⟨k,l,hd,oY,rfl⟩,d5,d6⟩;exact R0 (s:=0) g1 g2 Ae pB im iw dE eB h.1 h.2 (bg _) vh (fun i j x y hx hy _ _=> ⟨i,j,hx,hy,O⟩) ⟨hc,qm,c5.1,c6.1,c5.2,c6.2⟩ ⟨hd,oY,d5.1,d6.1,d5.2,d6.2⟩ ⟨c3,c4⟩ ⟨d3,d4⟩
end
section
variable {α β:Type} {N N1 N2:Nat} {el:Nat->α->Prop} {le:α->α->Prop} {dN:Nat->α->Prop} {eV:α->α->Prop} {dO:Nat->β->Prop} {eW:β->β->Prop}
theorem ia.lv(g:ia N el le){i j:Nat}{a b:α}(ha:el i a)(hb:el j b)(h:le a b):i<=j/\(i=j->a=b):=by
 rcases g.st ha hb h with e | e
 ·subst e;have:=g.one ha hb;exact⟨am,fun _=>rfl⟩
 exact⟨am,am⟩
theorem ia.KV(g:ia N el le){k:Nat}{d:α}(hd:el k d)(hk:1<=k):∃v,el 1 v/\le v d:=by
 by_cases e:k=1
 ·subst e;exact⟨d,hd,g.rf _⟩
 obtain⟨o,ho,h⟩:=g.bot;obtain⟨c,hc,_,h2⟩:=g.uO ho hd (h k d hd).1 am;exact⟨c,hc,h2⟩
def vP(dN:Nat->α->Prop)(dO:Nat->β->Prop)(p:Nat)(c:α×β):Prop:=(p=0/\dN 0 c.1/\dO 0 c.2)\/∃i j,1<=i/\1<=j/\dN i c.1/\dO j c.2/\p+1=i+j
theorem Ii(g1:ia N1 dN eV)(g2:ia N2 dO eW)(n1:1<=N1)(n2:1<=N2):ia (N1+N2 - 1) (vP dN dO) (oi eV eW) where
 one:=by
  rintro p q c (⟨e,a,b⟩ | ⟨i,j,hi,hj,a,b,e⟩) (⟨e',a',b'⟩ | ⟨i',j',dw,gW,a',b',e'⟩)
  ·omega
  ·have:=g1.one a a';omega
  ·have:=g1.one a a';omega
  have:=g1.one a a';have:=g2.one b b';omega
 rf:=fun c=> ⟨g1.rf _,g2.rf _⟩
 tr:=by
  have key:∀ {p:Nat} {c:α×β},vP dN dO p c->∃i j,dN i c.1/\dO j c.2:=by
   rintro p c (⟨e,a,b⟩ | ⟨i,j,hi,hj,a,b,e⟩)
   ·exact⟨0,0,a,b⟩
   exact⟨i,j,a,b⟩
  intro p q r c d e h h' yl l l';obtain⟨_,_,a,b⟩:=key h;obtain⟨_,_,a',b'⟩:=key h';obtain⟨_,_,Lp,Lz⟩:=key yl;exact⟨g1.tr a a' Lp l.1 l'.1,g2.tr b b' Lz l.2 l'.2⟩
 st:=by
  rintro p q c d (⟨e,a,b⟩ | ⟨i,j,hi,hj,a,b,e⟩) (⟨e',a',b'⟩ | ⟨i',j',dw,gW,a',b',e'⟩) h
  ·exact .inl (Prod.ext ((g1.lv a a' h.1).2 O) ((g2.lv b b' h.2).2 O))
  ·exact .inr am
  ·have:=(g1.lv a a' h.1).1;omega
  have h1:=g1.lv a a' h.1;have h2:=g2.lv b b' h.2
  by_cases q:i=i'/\j=j'
  ·exact .inl (Prod.ext (h1.2 q.1) (h2.2 q.2))
  exact .inr am
 uO:=by
  rintro p q c d (⟨e,a,b⟩ | ⟨i,j,hi,hj,a,b,e⟩) (⟨e',a',b'⟩ | ⟨i',j',dw,gW,a',b',e'⟩) h vh
  ·omega
  ·obtain⟨v,hv,lv⟩:=g1.KV a' dw;obtain⟨w,hw,lw⟩:=g2.KV b' gW;obtain⟨o1,h1,k1⟩:=g1.bot;obtain⟨o2,h2,k2⟩:=g2.bot;have e1:=(k1 0 _ a).2 O;have e2:=(k2 0 _ b).2 O;exact⟨(v,w),.inr ⟨1,1,am,am,hv,hw,am⟩,⟨by rw [e1];exact(k1 1 v hv).1,by rw [e2];exact(k2 1 w hw).1⟩,⟨lv,lw⟩⟩
  ·omega
  have h1:=g1.lv a a' h.1;have h2:=g2.lv b b' h.2
  by_cases q1:i+1<i'
  ·obtain⟨x,hx,x1,x2⟩:=g1.uO a a' h.1 q1;exact⟨(x,c.2),.inr ⟨i+1,j,am,hj,hx,b,am⟩,⟨x1,g2.rf _⟩,⟨x2,h.2⟩⟩
  by_cases q2:i+1=i'
  ·exact⟨(d.1,c.2),.inr ⟨i',j,dw,hj,a',b,am⟩,⟨h.1,g2.rf _⟩,⟨g1.rf _,h.2⟩⟩
  obtain⟨x,hx,x1,x2⟩:=g2.uO b b' h.2 am;exact⟨(c.1,x),.inr ⟨i,j+1,hi,am,a,hx,am⟩,⟨g1.rf _,x1⟩,⟨h.1,x2⟩⟩
 oJ:=by
  rintro p c (⟨e,a,b⟩ | ⟨i,j,hi,hj,a,b,e⟩)
  ·omega
  have:=g1.oJ a;have:=g2.oJ b;omega
 bot:=by
  obtain⟨o1,h1,k1⟩:=g1.bot;obtain⟨o2,h2,k2⟩:=g2.bot;refine⟨(o1,o2),.inl ⟨O,h1,h2⟩,?_⟩;rintro p c (⟨e,a,b⟩ | ⟨i,j,hi,hj,a,b,e⟩)
  ·exact⟨⟨(k1 _ _ a).1,(k2 _ _ b).1⟩,fun _=>Prod.ext ((k1 _ _ a).2 O) ((k2 _ _ b).2 O)⟩
  exact⟨⟨(k1 _ _ a).1,(k2 _ _ b).1⟩,am⟩
 top:=by
  obtain⟨o1,h1,k1⟩:=g1.top;obtain⟨o2,h2,k2⟩:=g2.top;refine⟨(o1,o2),.inr ⟨N1,N2,n1,n2,h1,h2,am⟩,?_⟩;rintro p c (⟨e,a,b⟩ | ⟨i,j,hi,hj,a,b,e⟩)
  ·exact⟨⟨(k1 _ _ a).1,(k2 _ _ b).1⟩,am⟩
  have:=g1.oJ a;have:=g2.oJ b;exact⟨⟨(k1 _ _ a).1,(k2 _ _ b).1⟩,fun _=>Prod.ext ((k1 _ _ a).2 am) ((k2 _ _ b).2 am)⟩
theorem R9(g1:ia N1 dN eV)(g2:ia N2 dO eW)(Ae:nu dN eV)(pB:nu dO eW):nu (vP dN dO) (oi eV eW):=by
 rintro p q ⟨a1,a2⟩ ⟨b1,b2⟩ ha hb h vh r t ⟨c1,c2⟩ ⟨d1,d2⟩ ⟨c3,c4,hc,c5,c6⟩ ⟨d3,d4,hd,d5,d6⟩;rcases hb with⟨e,_,_⟩ | ⟨i1,j1,mm,NR,dE,eB,e⟩
 ·omega
 rcases hc with⟨e2,_,_⟩ | ⟨i,j,hi,hj,hc,qm,e2⟩
 ·omega
 rcases hd with⟨e3,_,_⟩ | ⟨k,l,hk,hl,hd,oY,e3⟩
 ·omega
 obtain rfl:q=i1+j1 - 1:=by omega
 obtain rfl:r=i+j - 1:=by omega
 obtain rfl:t=k+l - 1:=by omega
 rcases ha with⟨e1,im,iw⟩ | ⟨i0,j0,fm,U0,im,iw,e1⟩
 ·subst e1;replace im:dN 0 a1:=im;replace iw:dO 0 a2:=iw;replace dE:dN i1 b1:=dE;replace eB:dO j1 b2:=eB;replace hc:dN i c1:=hc;replace qm:dO j c2:=qm;replace hd:dN k d1:=hd;replace oY:dO l d2:=oY;obtain⟨o1,qS,k1⟩:=g1.bot;obtain⟨o2,xr,k2⟩:=g2.bot;have x1:=(k1 0 _ im).2 O;have x2:=(k2 0 _ iw).2 O;subst x1;subst x2;have nE:∀ {i j:Nat} {c1:α} {c2:β},1<=i->1<=j->dN i c1->dO j c2->eV c1 b1->eW c2 b2->i+j<i1+j1->uI (vP dN dO) (oi eV eW) 0 (i1+j1 - 1) (a1,a2) (b1,b2) (i+j - 1) (c1,c2):=fun hi hj h h' l l' hs=> ⟨am,am,.inr ⟨_,_,hi,hj,h,h',am⟩,⟨(k1 _ _ h).1,(k2 _ _ h').1⟩,⟨l,l'⟩⟩
  by_cases q1:i1=1
  ·have f:∀ {i:Nat} {c:α},1<=i->dN i c->eV c b1->c=b1/\i=1:=fun hi h h'=>by
    have:=g1.lv h dE h';exact⟨this.2 am,am⟩
   obtain⟨rfl,rfl⟩:=f hi hc c6.1;obtain⟨rfl,rfl⟩:=f hk hd d6.1;have key:=pB 0 j1 a2 b2 iw eB (k2 _ _ eB).1 am j l c2 d2 ⟨am,am,qm,(k2 _ _ qm).1,c6.2⟩ ⟨am,am,oY,(k2 _ _ oY).1,d6.2⟩;clear hd oY d3 d4 d5 d6 hl e3
   induction key with
   | refl=>exact .refl
   | step _ y1 y2 y3 y4 y5 y6 ih=>
    refine ih.trans (.one (nE am am hc y3 c6.1 y5 am) ?_);exact y6.imp (fun h=> ⟨g1.rf _,h⟩) (fun h=> ⟨g1.rf _,h⟩)
  by_cases q2:j1=1
  ·have f:∀ {i:Nat} {c:β},1<=i->dO i c->eW c b2->c=b2/\i=1:=fun hi h h'=>by
    have:=g2.lv h eB h';exact⟨this.2 am,am⟩
   obtain⟨rfl,rfl⟩:=f hj qm c6.2;obtain⟨rfl,rfl⟩:=f hl oY d6.2;have key:=Ae 0 i1 a1 b1 im dE (k1 _ _ dE).1 am i k c1 d1 ⟨am,am,hc,(k1 _ _ hc).1,c6.1⟩ ⟨am,am,hd,(k1 _ _ hd).1,d6.1⟩;clear hd oY d3 d4 d5 d6 hk e3
   induction key with
   | refl=>exact .refl
   | step _ y1 y2 y3 y4 y5 y6 ih=>
    refine ih.trans (.one (nE am am y3 qm y5 c6.2 am) ?_);exact y6.imp (fun h=> ⟨h,g2.rf _⟩) (fun h=> ⟨h,g2.rf _⟩)
  obtain⟨v0,GR,O6⟩:=g1.KV dE mm;obtain⟨w0,Kc,O9⟩:=g2.KV eB NR;have it:=nE mm (br 1) dE Kc (g1.rf _) O9 am;have YC:∀ {i j:Nat} {c1:α} {c2:β},1<=i->1<=j->dN i c1->dO j c2->eV c1 b1->eW c2 b2->i<i1->iB (vP dN dO) (oi eV eW) 0 (i1+j1 - 1) (a1,a2) (b1,b2) (i+j - 1) (c1,c2) (i1+1 - 1) (b1,w0):=fun {i j c1 c2} hi hj h h' l l' hs=>by
   refine(iB.one (c:=(c1,c2)) (nE hi NR h eB l (g2.rf _) am) (.inl ⟨g1.rf _,l'⟩)).trans ((iB.one (c:=(c1,b2)) (nE hi (br 1) h Kc l O9 am) (.inr ⟨g1.rf _,O9⟩)).trans ?_);exact iB.one (c:=(c1,w0)) it (.inl ⟨l,g2.rf _⟩)
  have YD:∀ {i j:Nat} {c1:α} {c2:β},1<=i->1<=j->dN i c1->dO j c2->eV c1 b1->eW c2 b2->i+j<i1+j1->iB (vP dN dO) (oi eV eW) 0 (i1+j1 - 1) (a1,a2) (b1,b2) (i+j - 1) (c1,c2) (i1+1 - 1) (b1,w0):=fun {i j c1 c2} hi hj h h' l l' hs=>by
   have g:=g1.lv h dE l
   by_cases q:i<i1
   ·exact YC hi hj h h' l l' q
   ·have:c1=b1:=g.2 am;subst this;refine(iB.one (c:=(c1,c2)) (nE (br 1) hj GR h' O6 l' am) (.inr ⟨O6,g2.rf _⟩)).trans ?_;exact YC (br 1) hj GR h' O6 l' am
  exact(YD hi hj hc qm c6.1 c6.2 am).trans ((YD hk hl hd oY d6.1 d6.2 am).symm (nE hk hl hd oY d6.1 d6.2 am))
 ·replace im:dN i0 a1:=im;replace iw:dO j0 a2:=iw;obtain rfl:p=i0+j0 - 1:=by omega
  exact R0 (s:=1) g1 g2 Ae pB im iw dE eB h.1 h.2 am am (fun i j x y hx hy l1 l2=> .inr ⟨i,j,by have:=(g1.lv im hx l1).1;omega,by have:=(g2.lv iw hy l2).1;omega,hx,hy,by have:=(g1.lv im hx l1).1;omega⟩) ⟨hc,qm,c5.1,c6.1,c5.2,c6.2⟩ ⟨hd,oY,d5.1,d6.1,d5.2,d6.2⟩ am am
def DM(N:Nat)(el:Nat->α->Prop)(p:Nat)(a:α):Prop:=p<=N/\el (N - p) a
def EG(le:α->α->Prop)(a b:α):Prop:=le b a
theorem ia.oN(g:ia N el le):ia N (DM N el) (EG le) where
 one:=fun⟨h,a⟩ ⟨h',a'⟩=>by have:=g.one a a';omega
 rf:=fun a=>g.rf a
 tr:=fun⟨_,a⟩ ⟨_,b⟩ ⟨_,c⟩ h h'=>g.tr c b a h' h
 st:=fun⟨_,a⟩ ⟨_,b⟩ h=>by
  rcases g.st b a h with e | e
  ·exact .inl e.symm
  exact .inr am
 uO:=fun {i j a b} ⟨h1,ha⟩ ⟨h2,hb⟩ h iy=>by
  obtain⟨z,hz,e1,e2⟩:=g.chain hb ha h am;refine⟨z (N - (i+1)),⟨am,hz.1 _ am am⟩,?_,?_⟩
  ·show le _ a;rw [<-e2];exact hz.zg g am am (br _)
  show le b _;rw [<-e1];exact hz.zg g (br _) am am
 oJ:=fun h=>h.1
 bot:=by
  obtain⟨t,ht,k⟩:=g.top;exact⟨t,⟨bg _,by simpa using ht⟩,fun i a ⟨hi,ha⟩=> ⟨(k _ a ha).1,fun e=> (k _ a ha).2 am⟩⟩
 top:=by
  obtain⟨o,ho,k⟩:=g.bot;exact⟨o,⟨br _,by simpa using ho⟩,fun i a ⟨hi,ha⟩=> ⟨(k _ a ha).1,fun e=> (k _ a ha).2 am⟩⟩
theorem nu.oN(g:ia N el le)(h:nu el le):nu (DM N el) (EG le):=by
 rintro i j a b ⟨hi,ha⟩ ⟨hj,hb⟩ eA iy p q c d ⟨c1,c2,⟨_,c3⟩,c4,c5⟩ ⟨d1,d2,⟨_,d3⟩,d4,d5⟩;have key:=h (N - j) (N - i) b a hb ha eA am (N - p) (N - q) c d ⟨am,am,c3,c5,c4⟩ ⟨am,am,d3,d5,d4⟩;obtain⟨r,hr⟩:∃r,r=N - q:=⟨_,rfl⟩;rw [<-hr]at key;have gen:∀r e,iB el le (N - j) (N - i) b a (N - p) c r e->r<=N->iB (DM N el) (EG le) i j a b p c (N - r) e:=by
  intro r e hh
  induction hh with
  | refl=>intro _;rw [show N - (N - p)=p by omega];exact .refl
  | @step q' r' d' e' h0 k1 k2 k3 k4 k5 k6 ih=>
   intro fP;have cI:=h0.end_ ⟨am,am,c3,c5,c4⟩;have:=g.oJ cI.2.2.1;exact .step (ih this) am am ⟨am,by rw [show N - (N - r')=r' by omega];exact k3⟩ k5 k4 k6.symm
 have:=gen r d key am
 rwa [show N - r=q by omega]at this
end
structure Dl(N:Nat)(K:Nat->Nat->Prop):Prop where
 sym:∀a b,K a b->K b a
 zt:∀a b c,K a b->K b c->K a c
 eE:∀a b,K a b->a<N/\b<N
def kM(N:Nat)(K:Nat->Nat->Prop)(f:Nat)(L:ai):Prop:=
 L.length=N/\∀x:Nat,x<N->(0<=gi L x->∃r:Nat,gi L x=r/\r<f/\K r x/\∀c,K c x->r<=c)/\(gi L x<0->gi L x= -1/\∀c,c<f->¬K c x)
theorem kM.zero(N:Nat)(K:Nat->Nat->Prop):kM N K 0 (List.replicate N (-1)):=
 ⟨by simp,fun x hx=>by
  rw [vS (by omega) (by omega)];exact⟨fun h=>absurd h am,fun _=> ⟨O,fun c hc=>absurd hc am⟩⟩⟩
theorem kM.skip{N:Nat}{K:Nat->Nat->Prop}(hK:Dl N K){f:Nat}{L:ai}(h:kM N K f L)(hf:f<N)(h0:0<=gi L f\/¬K f f):kM N K (f+1) L:=by
 refine⟨h.1,fun x hx=> ⟨fun h1=>?_,fun h1=>?_⟩⟩
 ·obtain⟨r,h2,h3,h4⟩:=(h.2 x hx).1 h1;exact⟨r,h2,am,h4⟩
 obtain⟨h2,h3⟩:=(h.2 x hx).2 h1;refine⟨h2,fun c hc hk=>?_⟩
 by_cases e:c=f
 ·subst e;rcases h0 with h0 | h0
  ·obtain⟨r,h4,h5,h6,_⟩:=(h.2 c hf).1 h0;exact h3 r h5 (hK.zt _ _ _ h6 hk)
  exact h0 (hK.zt _ _ _ hk (hK.sym _ _ hk))
 exact h3 c am hk
theorem kM.pT{N:Nat}{K:Nat->Nat->Prop}(hK:Dl N K){f:Nat}{L L':ai}(h:kM N K f L)(hf:f<N)(h0:gi L f<0)(hl:L'.length=N)(hp:∀x:Nat,x<N->(K f x->gi L' x=f)/\(¬K f x->gi L' x=gi L x)):kM N K (f+1) L':=by
 refine⟨hl,fun x hx=>?_⟩;have h9:=(h.2 f hf).2 h0
 by_cases hk:K f x
 ·rw [(hp x hx).1 hk];refine⟨fun _=> ⟨f,O,am,hk,fun c hc=>?_⟩,fun h=>absurd h am⟩;refine Nat.le_of_not_lt fun fG=>h9.2 c fG (hK.zt _ _ _ hc (hK.sym _ _ hk))
 rw [(hp x hx).2 hk];refine⟨fun h1=>?_,fun h1=>?_⟩
 ·obtain⟨r,h2,h3,h4⟩:=(h.2 x hx).1 h1;exact⟨r,h2,am,h4⟩
 obtain⟨h2,h3⟩:=(h.2 x hx).2 h1;refine⟨h2,fun c hc kX=>?_⟩
 by_cases e:c=f
 ·subst e;exact hk kX
 exact h3 c am kX
theorem kM.done{N:Nat}{K:Nat->Nat->Prop}(hK:Dl N K){L:ai}(h:kM N K N L){a b:Nat}(ha:K a a)(hb:K b b):gi L a=gi L b↔K a b:=by
 have get:∀x,K x x->∃r:Nat,gi L x=r/\K r x/\∀c,K c x->r<=c:=fun x hx=>by
  have OB:=(hK.eE _ _ hx).1;rcases Int.lt_or_le (gi L x) 0 with h1 | h1
  ·exact absurd hx (((h.2 x OB).2 h1).2 x OB)
  obtain⟨r,h2,_,h4,h5⟩:=(h.2 x OB).1 h1;exact⟨r,h2,h4,h5⟩
 obtain⟨r,h1,h2,h3⟩:=get a ha;obtain⟨s,h4,h5,h6⟩:=get b hb;rw [h1,h4];constructor
 ·intro e;obtain rfl:r=s:=by omega
  exact hK.zt _ _ _ (hK.sym _ _ h2) h5
 intro hk;have h7:=h3 s (hK.zt _ _ _ h5 (hK.sym _ _ hk));have h8:=h6 r (hK.zt _ _ _ h2 hk);omega
def mQ(n:Nat)(fl:ah)(i a b:Nat):Prop:=a<fl.length/\b<fl.length/\∀k:Nat,k<n->k≠i->gi (gl fl a) k=gi (gl fl b) k
theorem mQ.symm{n:Nat}{fl:ah}{i a b:Nat}(h:mQ n fl i a b):mQ n fl i b a:=⟨h.2.1,h.1,fun k hk bP=> (h.2.2 k hk bP).symm⟩
inductive jG(n:Nat)(fl:ah)(S:Nat->Prop)(a:Nat):Nat->Prop where
 | refl:a<fl.length->jG n fl S a a
 | step {b c i:Nat}:jG n fl S a b->i<n->¬S i->mQ n fl i b c->jG n fl S a c
theorem jG.trans{n:Nat}{fl:ah}{S:Nat->Prop}{a b c:Nat}(h:jG n fl S a b)(h':jG n fl S b c):jG n fl S a c:=by
 induction h' with
 | refl=>exact h
 | step _ hi hs ha ih=>exact .step ih hi hs ha
theorem jG.eE{n:Nat}{fl:ah}{S:Nat->Prop}{a b:Nat}(h:jG n fl S a b):a<fl.length/\b<fl.length:=by
 induction h with
 | refl h=>exact⟨h,h⟩
 | step _ _ _ ha ih=>exact⟨ih.1,ha.2.1⟩
theorem jG.symm{n:Nat}{fl:ah}{S:Nat->Prop}{a b:Nat}(h:jG n fl S a b):jG n fl S b a:=by
 induction h with
 | refl h=>exact .refl h
 | step h hi hs ha ih=>exact(jG.step (.refl ha.2.1) hi hs ha.symm).trans ih
theorem jG.keep{n:Nat}{fl:ah}{S:Nat->Prop}{a b:Nat}(h:jG n fl S a b):∀k:Nat,k<n->S k->gi (gl fl b) k=gi (gl fl a) k:=by
 induction h with
 | refl h=>exact fun _ _ _=>rfl
 | step h hi hs ha ih=>
  intro k hk hS;rw [<-ha.2.2 k hk (fun e=>hs (e▸hS)),ih k hk hS]
def Bq(n:Nat)(fl:ah):Prop:=∀a b:Nat,a<b->b<fl.length->jG n fl (fun k=>gi (gl fl a) k=gi (gl fl b) k) a b
structure qH(N:Nat)(K A:Nat->Nat->Prop)(f:Nat)(L0 L:ai)(Q:List Nat)(k:Nat):Prop where
 len:L.length=N
 CB:∀x∈Q,x<N/\gi L0 x<0/\K f x
 bw:∀x:Nat,x<N->gi L x=if x∈Q then(f:Int)else gi L0 x
 root:f∈Q
 OP:k<=Q.length
 done:∀p,p<k->∀y,A (Q.getD p 0) y->0<=gi L y
 nd:Q.Nodup
theorem qH.meet{N:Nat}{K A:Nat->Nat->Prop}{f:Nat}{L0 L:ai}{Q:List Nat}{k:Nat}(h:qH N K A f L0 L Q k){y:Nat}(hy:y<N)(hl:gi L y<0)(hk:K f y):qH N K A f L0 (L.set y (f:Int)) (Q++ [y]) k:=by
 have V0:y∉Q:=fun hm=>by
  have:=h.bw y hy;rw [aB hm]at this;omega
 have e:∀x:Nat,x<N->gi (L.set y (f:Int)) x=if x=y then(f:Int)else gi L x:=fun x hx=>by
  have:=mD (S:=L) (x:=(y:Int)) (y:=(x:Int)) (b:=(f:Int)) am (by rw [h.len];omega) am;rw [jq]at this;rw [this]
  by_cases e:x=y
  ·subst e;simp
  rw [az e,az (by omega)]
 have wh:gi L0 y<0:=by
  have:=h.bw y hy;rw [az V0]at this;omega
 refine⟨by rw [mA];exact h.len,fun x hx=>?_,fun x hx=>?_,List.mem_append_left _ h.root,by rw [ck];have:=h.OP;omega,fun p hp z hz=>?_,List.nodup_append.2 ⟨h.nd,by simp,fun a ha b hb e=>V0 (by rw [<-gj.1 hb,<-e];exact ha)⟩⟩
 ·rcases jd.1 hx with hx | hx
  ·exact h.CB x hx
  obtain rfl:=gj.1 hx;exact⟨hy,wh,hk⟩
 ·rw [e x hx]
  by_cases ex:x=y
  ·subst ex;simp
  rw [az ex,h.bw x hx];simp [ex]
 have hk:=h.OP;rw [dm,ma (by omega),<-dm]at hz;have h2:=h.done p hp z hz
 by_cases hzN:z<N
 ·rw [e z hzN]
  split<;>omega
 have:gi L z=gi (L.set y (f:Int)) z:=by
  simp [gi,dm,me (show L.length<=z by rw [h.len];omega),me (show(L.set y (f:Int)).length<=z by rw [mA,h.len];omega)]
 omega
theorem qH.next{N:Nat}{K A:Nat->Nat->Prop}{f:Nat}{L0 L:ai}{Q:List Nat}{k:Nat}(h:qH N K A f L0 L Q k)(hk:k<Q.length)(hd:∀y,A (Q.getD k 0) y->0<=gi L y):qH N K A f L0 L Q (k+1):=
 ⟨h.len,h.CB,h.bw,h.root,hk,fun p hp y hy=>by
  by_cases e:p=k
  ·subst e;exact hd y hy
  exact h.done p am y hy,h.nd⟩
theorem qH.PM{N:Nat}{K A:Nat->Nat->Prop}{f:Nat}{L0 L:ai}{Q:List Nat}{k:Nat}(h:qH N K A f L0 L Q k):Q.length<=N:=Pl N Q h.nd fun x hx=> (h.CB x hx).1
theorem qH.start{N:Nat}{K A:Nat->Nat->Prop}{f:Nat}{L0:ai}(hl:L0.length=N)(hf:f<N)(h0:gi L0 f<0)(hk:K f f):qH N K A f L0 (L0.set f (f:Int)) [f] 0:=by
 refine⟨by simp [hl],fun x hx=>?_,fun x hx=>?_,by simp,bg _,fun p hp=>absurd hp am,by simp⟩
 ·obtain rfl:=gj.1 hx;exact⟨hf,h0,hk⟩
 have:=mD (S:=L0) (x:=(f:Int)) (y:=(x:Int)) (b:=(f:Int)) am (by rw [hl];omega) am;rw [jq]at this;rw [this]
 by_cases e:x=f
 ·subst e;simp
 rw [az (by omega),az (by simpa using e)]
theorem qH.end_{N:Nat}{K A:Nat->Nat->Prop}(hK:Dl N K){f:Nat}{L0 L:ai}{Q:List Nat}(h:qH N K A f L0 L Q Q.length)(hL:kM N K f L0)(hf:f<N)(h0:gi L0 f<0)(hA:∀S:Nat->Prop,S f->(∀x y,S x->K f x->A x y->S y)->∀x,K f x->S x)(hAK:∀x y,A x y->K x y):kM N K (f+1) L:=by
 have hQ:∀x,K f x->x∈Q:=hA (fun x=>x∈Q) h.root fun x y hx pH ha=>by
  obtain⟨p,hp,e⟩:=gC.1 hx;have e2:Q.getD p 0=x:=by rw [dm,fq hp];exact e
  have h1:=h.done p hp y (by rw [e2];exact ha);have hk:=hAK x y ha;have CA:=(hK.eE _ _ hk).2;refine qD fun hn=>?_
  have h2:=h.bw y CA;rw [az hn]at h2;obtain⟨r,_,h3,h4,_⟩:=(hL.2 y CA).1 am;exact((hL.2 f hf).2 h0).2 r h3 (hK.zt _ _ _ (hK.zt _ _ _ h4 (hK.sym _ _ hk)) (hK.sym _ _ pH))
 refine hL.pT hK hf h0 h.len fun x hx=> ⟨fun hk=>?_,fun hk=>?_⟩
 ·rw [h.bw x hx,aB (hQ x hk)]
 rw [h.bw x hx,az fun hm=>hk (h.CB x hm).2.2]
theorem oP{n:Nat}{R:ai}{B:ah}(hn:1<=n){a:Nat}(ha:a< (aG n R B).length):(gl (aG n R B) a).length=n/\(∀i:Nat,i<n->(0<=gi (gl (aG n R B) a) i/\gi (gl (aG n R B) a) i<R.length)/\gi R (gi (gl (aG n R B) a) i)=i)/\∀i:Nat,i+1<n->gi (gl (aG n R B) a) i∈gl B (gi (gl (aG n R B) a) ((i+1:Nat):Int)):=(qL hn).1 (by rw [bR ha];exact dK _)
theorem xG{n:Nat}{x y:ai}(hx:x.length=n)(hy:y.length=n)(h:∀i:Nat,i<n->gi x i=gi y i):x=y:=
 jE am fun i h1 h2=>by
  have:=h i am
  rwa [bV h1,bV h2]at this
theorem zO{n:Nat}{R:ai}{B:ah}{a b:Nat}(ha:a< (aG n R B).length)(hb:b< (aG n R B).length)(h:gl (aG n R B) a=gl (aG n R B) b):a=b:=by
 rw [bR ha,bR hb]at h;exact(List.getElem_inj (II n R B).nodup).1 h
theorem acR{n:Nat}{R:ai}{B:ah}(hP:gL n R B)(hD:wJ n R B){a i:Nat}(ha:a< (aG n R B).length)(hi:i<n):∃b:Nat,b≠a/\∀c:Nat,(mQ n (aG n R B) i a c/\c≠a)↔c=b:=by
 have hn:1<=n:=by have:=hP.n1;omega
 obtain⟨hl,hr,hc⟩:=oP hn ha;generalize hx:gl (aG n R B) a=x at hl hr hc;have fo:zB R i (if i=0 then -1 else gi x ((i - 1:Nat):Int)):=by
  by_cases e:i=0
  ·rw [aB e];exact .inl ⟨rfl,am⟩
  rw [az e];have:=hr (i - 1) am;exact .inr ⟨this.1,am,by rw [this.2];omega⟩
 have dv:zA n R i (if i=n - 1 then -1 else gi x ((i+1:Nat):Int)):=by
  by_cases e:i=n - 1
  ·rw [aB e];exact .inl ⟨rfl,am⟩
  rw [az e];have:=hr (i+1) am;exact .inr ⟨this.1,am,by rw [this.2];omega⟩
 have N0:0<=(if i=0 then -1 else gi x ((i - 1:Nat):Int))->0<=(if i=n - 1 then -1 else gi x ((i+1:Nat):Int))->(if i=0 then -1 else gi x ((i - 1:Nat):Int))∈gl B (if i=n - 1 then -1 else gi x ((i+1:Nat):Int)):=fun h1 h2=>by
  by_cases e:i=0
  ·rw [aB e]at h1;omega
  by_cases e2:i=n - 1
  ·rw [aB e2]at h2;omega
  rw [az e,az e2];have Cn:=hc (i - 1) am;have ud:=hc i am;rw [show i - 1+1=i by omega]at Cn;have qV:=hr (i+1) am;exact(hP.at_ qV.1.1 qV.1.2).2.2 _ ud _ Cn
 have h2:=hD (i:Int) _ _ am am fo dv N0;have AG:∀d:Int,d∈nN R B i (if i=0 then -1 else gi x ((i - 1:Nat):Int)) (if i=n - 1 then -1 else gi x ((i+1:Nat):Int))↔x.set i d∈aG n R B:=fun d=>by
  rw [Bv,qL hn];have gs:∀k:Nat,gi (x.set i d) k=if k=i then d else gi x k:=fun k=>by
   have:=mD (S:=x) (x:=(i:Int)) (y:=(k:Int)) (b:=d) am am am;rw [jq]at this;rw [this]
   by_cases e:k=i
   ·subst e;simp
   rw [az e,az (by omega)]
  constructor
  ·rintro⟨hd,rd,u,v⟩;refine⟨by rw [mA];exact hl,fun k hk=>?_,fun k hk=>?_⟩
   ·rw [gs k]
    by_cases e:k=i
    ·rw [aB e,e];exact⟨hd,rd⟩
    rw [az e];exact hr k hk
   rw [gs k,gs (k+1)]
   by_cases e:k=i
   ·rw [aB e,az (by omega)];rw [az (by omega)]at v;have:=hr (i+1) am;rw [e];exact v.resolve_left am
   rw [az e]
   by_cases e2:k+1=i
   ·rw [aB e2];rw [az (by omega),show i - 1=k by omega]at u;have:=hr k am;exact u.resolve_left am
   rw [az e2];exact hc k hk
  rintro⟨_,h3,h4⟩;have h5:=h3 i hi;rw [gs i,aB rfl]at h5;refine⟨h5.1,h5.2,?_,?_⟩
  ·by_cases e:i=0
   ·left;rw [aB e];omega
   right;rw [az e];have h6:=h4 (i - 1) am;rw [gs (i - 1),show i - 1+1=i by omega,gs i,az (show ¬i - 1=i by omega),aB rfl]at h6;exact h6
  by_cases e:i=n - 1
  ·left;rw [aB e];omega
  right;rw [az e];have h6:=h4 i am;rw [gs i,gs (i+1),aB rfl,az (by omega)]at h6;exact h6
 obtain⟨p,q,vh,hm⟩:=YP (Fk _ _ _ _ _) h2;have J5:gi x i=p\/gi x i=q:=(hm _).1 ((AG _).2 (by
  have e:x.set i (gi x i)=x:=by
   rw [bV (by omega)];exact List.set_getElem_self _
  rw [e,<-hx,bR ha];exact dK _))
 obtain⟨d,hd,Uy⟩:∃d,d≠gi x i/\∀c,(c=p\/c=q)↔(c=gi x i\/c=d):=by
  rcases J5 with h | h
  ·exact⟨q,fun e=>vh (by rw [<-h,e]),fun c=>by rw [h]⟩
  exact⟨p,fun e=>vh (by rw [<-h,e]),fun c=>by rw [h];exact or_comm⟩
 have mU:x.set i d∈aG n R B:=(AG d).1 ((hm d).2 ((Uy d).2 (.inr O)));obtain⟨b,hb,eb⟩:=gC.1 mU;have Iv:gl (aG n R B) b=x.set i d:=by rw [bR hb];exact eb
 have MG:∀(d:Int) (k:Nat),gi (x.set i d) k=if k=i then d else gi x k:=fun d k=>by
  have:=mD (S:=x) (x:=(i:Int)) (y:=(k:Int)) (b:=d) am am am;rw [jq]at this;rw [this]
  by_cases e:k=i
  ·subst e;simp
  rw [az e,az (by omega)]
 have rU:b≠a:=fun e=>by
  subst e;rw [hx]at Iv;have:=MG d i;rw [<-Iv,aB rfl]at this;exact hd this.symm
 refine⟨b,rU,fun c=> ⟨fun⟨⟨_,de,pz⟩,hca⟩=>?_,?_⟩⟩
 ·
  rw [hx]at pz;obtain⟨pI,qV,pB⟩:=oP hn de;have ec:gl (aG n R B) c=x.set i (gi (gl (aG n R B) c) i):=xG pI (by rw [mA];exact hl) fun k hk=>by
   rw [MG]
   by_cases e:k=i
   ·rw [aB e,e]
   rw [az e];exact(pz k hk e).symm
  have oW:x.set i (gi (gl (aG n R B) c) i)∈aG n R B:=by rw [<-ec,bR de];exact dK _
  rcases(Uy _).1 ((hm _).1 ((AG _).2 oW))with h | h
  ·exfalso;refine hca (zO de ha ?_);rw [ec,h,hx,bV (by omega)];exact List.set_getElem_self _
  rw [h]at ec;exact zO de hb (ec.trans Iv.symm)
 rintro rfl;exact⟨⟨ha,hb,fun k hk bP=>by rw [Iv,hx,MG,az bP]⟩,rU⟩
open Classical in
noncomputable def Bc(n:Nat)(fl:ah)(i:Nat)(a:Nat):ai:=((List.range fl.length).filter fun b=>decide (mQ n fl i a b/\b≠a)).map fun b:Nat=> (b:Int)
noncomputable def uo(n:Nat)(fl:ah)(i:Nat):ai:=(List.range fl.length).flatMap (Bc n fl i)
noncomputable def b6(n:Nat)(fl:ah):ah:=(List.range n).map (uo n fl)
def jW(n:Nat)(fl:ah):Prop:=∀a i:Nat,a<fl.length->i<n->∃b:Nat,b≠a/\∀c:Nat,(mQ n fl i a c/\c≠a)↔c=b
open Classical in
theorem ajM{n:Nat}{fl:ah}{i a b:Nat}(h:∀c:Nat,(mQ n fl i a c/\c≠a)↔c=b):Bc n fl i a=[(b:Int)]:=by
 have hb:=((h b).2 O).1.2.1;have key:∀p:Nat->Bool,(∀c,p c=true↔c=b)->((List.range fl.length).filter p)=[b]:=fun p hp=>by
  refine List.Perm.eq_singleton ((wM (List.nodup_range.filter _) (by simp)).2 fun c=>?_);rw [gy,ig,hp c,gj];exact⟨fun h=>h.2,fun h=> ⟨by rw [h];exact hb,h⟩⟩
 unfold Bc;exact aE (List.map fun b:Nat=> (b:Int)) (key _ fun c=>decide_eq_true_iff.trans (h c))
open Classical in
noncomputable def fC(n:Nat)(fl:ah)(i a:Nat):Nat:=if h:∃b:Nat,b≠a/\∀c:Nat,(mQ n fl i a c/\c≠a)↔c=b then h.choose else 0
theorem jW.pt{n:Nat}{fl:ah}(h:jW n fl){a i:Nat}(ha:a<fl.length)(hi:i<n):fC n fl i a≠a/\∀c:Nat,(mQ n fl i a c/\c≠a)↔c=fC n fl i a:=by
 have he:=h a i ha hi;unfold fC;rw [dif_pos he];exact he.choose_spec
theorem jW.lt{n:Nat}{fl:ah}(h:jW n fl){a i:Nat}(ha:a<fl.length)(hi:i<n):fC n fl i a<fl.length:=(((h.pt ha hi).2 _).2 rfl).1.2.1
theorem jW.pp{n:Nat}{fl:ah}(h:jW n fl){a i:Nat}(ha:a<fl.length)(hi:i<n):fC n fl i (fC n fl i a)=a:=by
 have h1:=((h.pt ha hi).2 _).2 O;exact(((h.pt (h.lt ha hi) hi).2 a).1 ⟨h1.1.symm,fun e=> (h.pt ha hi).1 e.symm⟩).symm
theorem Pj{n:Nat}{fl:ah}(h:jW n fl){i:Nat}(hi:i<n):uo n fl i=(List.range fl.length).map fun a=> (fC n fl i a:Int):=by
 unfold uo;have e:∀l:List Nat,(∀a∈l,a<fl.length)->l.flatMap (Bc n fl i)=l.map fun a=> (fC n fl i a:Int):=by
  intro l
  induction l with
  | nil=>intro _;rfl
  | cons a r ih=>
   intro hl;rw [List.flatMap_cons,List.map_cons,ih fun b hb=>hl b (rB _ hb),ajM (h.pt (hl a (by simp)) hi).2];rfl
 exact e _ fun a ha=>ig.1 ha
theorem FR{n:Nat}{R:ai}{B:ah}(hP:gL n R B)(hD:wJ n R B):jW n (aG n R B):=fun _ _ ha hi=>acR hP hD ha hi
def Ll(n:Nat)(R:ai)(B:ah):Prop:=∀e:Int,0<=e->e<R.length->∃x∈aG n R B,e∈x
def Bz(n:Nat)(R:ai)(B:ah):Prop:=aG n R B≠[]/\Ll n R B/\wJ n R B/\Bq n (aG n R B)
def oL(a b:ai):ai:=(List.range a.length).map fun k:Nat=>if gi a k=gi b k then gi a k else -1
theorem DG(a b:ai):(oL a b).length=a.length:=by simp [oL]
theorem DF{a b:ai}{k:Nat}(h:k<a.length):gi (oL a b) k=if gi a k=gi b k then gi a k else -1:=by
 rw [bV (by rw [DG];exact h)];simp [oL]
def kh(n:Nat)(c x:ai):Prop:=∀k:Nat,k<n->gi c k≠ -1->gi c k=gi x k
instance (n:Nat)(c x:ai):Decidable (kh n c x):=by unfold kh;infer_instance
def jV(n:Nat)(fl:ah)(c:ai)(a b:Nat):Prop:=kh n c (gl fl a)/\jG n fl (fun k=>gi c k≠ -1) a b
theorem kh.of{n:Nat}{fl:ah}{c:ai}{a b:Nat}(h:kh n c (gl fl a))(h':jG n fl (fun k=>gi c k≠ -1) a b):kh n c (gl fl b):=fun k hk bP=>by
 rw [h'.keep k hk bP];exact h k hk bP
theorem Fj(n:Nat)(fl:ah)(c:ai):Dl fl.length (jV n fl c):=
 ⟨fun _ _ h=> ⟨h.1.of h.2,h.2.symm⟩,fun _ _ _ h h'=> ⟨h.1,h.2.trans h'.2⟩,fun _ _ h=>h.2.eE⟩
theorem abw{n:Nat}{fl:ah}(hl:∀x∈fl,x.length=n/\∀e∈x,0<=e){a b:Nat}(ha:a<fl.length)(hb:b<fl.length):
 jV n fl (oL (gl fl a) (gl fl b)) a a/\jV n fl (oL (gl fl a) (gl fl b)) b b/\(jV n fl (oL (gl fl a) (gl fl b)) a b↔jG n fl (fun k=>gi (gl fl a) k=gi (gl fl b) k) a b):=by
 have hxa:=hl _ (by rw [bR ha];exact dK _:gl fl a∈fl);have bP:∀k:Nat,k<n->(gi (oL (gl fl a) (gl fl b)) k≠ -1↔gi (gl fl a) k=gi (gl fl b) k):=fun k hk=>by
  rw [DF (by omega)];have:=hxa.2 _ (gi_in (show k< (gl fl a).length by omega))
  split
  ·exact⟨fun _=>by assumption,fun _=>by omega⟩
  ·rename_i h;exact⟨fun h'=>absurd rfl h',fun h'=>absurd h' h⟩
 have h1:kh n (oL (gl fl a) (gl fl b)) (gl fl a):=fun k hk h=>by
  have:=(bP k hk).1 h;rw [DF (by omega),aB this]
 have h2:kh n (oL (gl fl a) (gl fl b)) (gl fl b):=fun k hk h=>by
  have:=(bP k hk).1 h;rw [DF (by omega),aB this,this]
 have cv:∀ {S S':Nat->Prop},(∀k,k<n->(S k↔S' k))->∀ {u v},jG n fl S u v->jG n fl S' u v:=fun {S S'} hS {u v} h=>by
  induction h with
  | refl h=>exact .refl h
  | step _ hi hs had ih=>exact .step ih hi (fun h=>hs ((hS _ hi).2 h)) had
 exact⟨⟨h1,.refl ha⟩,⟨h2,.refl hb⟩,fun h=>cv bP h.2,fun h=> ⟨h1,cv (fun k hk=> (bP k hk).symm) h⟩⟩
def zx(n:Nat)(fl:ah)(c:ai)(x y:Nat):Prop:=kh n c (gl fl x)/\kh n c (gl fl y)/\∃i,i<n/\mQ n fl i x y
theorem Td{n:Nat}{fl:ah}(hn:fl.Nodup)(hl:∀x∈fl,x.length=n){x y:Nat}(hx:x<fl.length)(hy:y<fl.length)(h:∀k:Nat,k<n->gi (gl fl x) k=gi (gl fl y) k):x=y:=by
 have e:gl fl x=gl fl y:=xG (hl _ (by rw [bR hx];exact dK _)) (hl _ (by rw [bR hy];exact dK _)) h;rw [bR hx,bR hy]at e;exact(List.getElem_inj hn).1 e
theorem zx.link{n:Nat}{fl:ah}(hn:fl.Nodup)(hl:∀x∈fl,x.length=n){c:ai}{x y:Nat}(h:zx n fl c x y):jV n fl c x y:=by
 obtain⟨h1,h2,i,hi,ha⟩:=h;refine⟨h1,?_⟩
 by_cases hc:gi c i≠ -1
 ·have:x=y:=Td hn hl ha.1 ha.2.1 fun k hk=>by
   by_cases e:k=i
   ·subst e;rw [<-h1 k hk hc,h2 k hk hc]
   exact ha.2.2 k hk e
  subst this;exact .refl ha.1
 exact .step (.refl ha.1) hi hc ha
theorem ZD{n:Nat}{fl:ah}{c:ai}{f:Nat}(S:Nat->Prop)(hf:S f)(hs:∀x y,S x->jV n fl c f x->zx n fl c x y->S y):∀x,jV n fl c f x->S x:=fun x h=>by
 obtain⟨h1,h2⟩:=h
 induction h2 with
 | refl _=>exact hf
 | step h hi hS ha ih=>exact hs _ _ ih ⟨h1,h⟩ ⟨h1.of h,h1.of (.step h hi hS ha),_,hi,ha⟩
section
variable {α:Type} {N:Nat} {el:Nat->α->Prop} {le:α->α->Prop}
def HJ(N:Nat)(el:Nat->α->Prop)(le:α->α->Prop):Prop:=∀z y:Nat->α,jc el le 0 N z->jc el le 0 N y->jF el le 0 N (fun k=>z k=y k) z y
theorem abW(g:ia N el le)(hc:nu el le):HJ N el le:=fun z y hz hy=>by
 obtain⟨o,_,ho⟩:=g.bot;obtain⟨t,_,ht⟩:=g.top;have b1:=(ho 0 _ (hz.1 0 (br _) (bg _))).2 O;have b2:=(ho 0 _ (hy.1 0 (br _) (bg _))).2 O;have t1:=(ht N _ (hz.1 N (bg _) (br _))).2 O;have t2:=(ht N _ (hy.1 N (bg _) (br _))).2 O;exact abp g hc N 0 N am (bg _) z y hz hy (b1.trans b2.symm) (t1.trans t2.symm)
theorem amy(g:ia N el le)(h:HJ N el le):nu el le:=by
 intro i j a b ha hb eA iy p q c d hc hd;obtain⟨o,ho,iK⟩:=g.bot;obtain⟨t,ht,pL⟩:=g.top;have Ak:=g.oJ hb;obtain⟨w1,c1,_,e1⟩:=g.chain ho ha (iK i a ha).1 (bg _);obtain⟨w4,c4,e4,_⟩:=g.chain hb ht (pL j b hb).1 Ak;have mk:∀(p:Nat) (c:α),uI el le i j a b p c->∃z,jc el le 0 N z/\(∀k,k<=i->z k=w1 k)/\(∀k,j<=k->z k=w4 k)/\z p=c:=by
  intro p c hc;obtain⟨u1,d1,f1,SN⟩:=g.chain ha hc.2.2.1 hc.2.2.2.1 (by have:=hc.1;omega);obtain⟨u2,d2,f2,SO⟩:=g.chain hc.2.2.1 hb hc.2.2.2.2 (by have:=hc.2.1;omega);have h1:=hc.1;have h2:=hc.2.1;have x1:=c1.glue d1 (e1.trans f1.symm);have x2:=x1.glue d2 (by rw [yj h1,SN,f2]);have x3:=x2.glue c4 (by rw [yj h2,SO,e4]);refine⟨_,x3,fun k hk=>?_,fun k hk=>MB (by rw [yj h2,SO,e4]) hk,?_⟩
  ·rw [rJ (by omega),rJ (by omega),rJ hk]
  ·rw [rJ (by omega),rJ (br _),yj h1,SN]
 obtain⟨z,hz,z1,z2,z3⟩:=mk p c hc;obtain⟨y,hy,y1,y2,y3⟩:=mk q d hd;have hl:=h z y hz hy;have zi:z i=a:=(z1 i (br _)).trans e1;have zj:z j=b:=(z2 j (br _)).trans e4;have kp:∀y',jF el le 0 N (fun k=>z k=y k) z y'->y' i=a/\y' j=b:=fun y' h=>by
  have k1:=h.keep (k:=i) (bg _) am (.inr (.inr (by show z i=y i;rw [z1 i (br _),y1 i (br _)])));have k2:=h.keep (k:=j) (bg _) am (.inr (.inr (by show z j=y j;rw [z2 j (br _),y2 j (br _)])));exact⟨k1.symm.trans zi,k2.symm.trans zj⟩
 have nE:∀y',jc el le 0 N y'->y' i=a->y' j=b->∀r,i<r->r<j->uI el le i j a b r (y' r):=fun y' lG k1 k2 r h1 h2=>
  ⟨h1,h2,lG.1 r (bg _) am,k1▸lG.zg g (bg _) am am,k2▸lG.zg g (bg _) am Ak⟩
 have cmp:∀y',jc el le 0 N y'->∀r s,i<r->r<j->i<s->s<j->le (y' r) (y' s)\/le (y' s) (y' r):=fun y' lG r s h1 h2 h3 h4=>by
  rcases Nat.le_total r s with h | h
  ·exact .inl (lG.zg g (bg _) h am)
  ·exact .inr (lG.zg g (bg _) h am)
 have key:∀y',jF el le 0 N (fun k=>z k=y k) z y'->jc el le 0 N y'->∀r,i<r->r<j->iB el le i j a b p c r (y' r):=by
  intro y' hh
  induction hh with
  | @same y' e=>
   intro lG r h1 h2;have k:=kp y' (.same e);have:=iB.one (p:=p) (c:=c) (nE y' lG k.1 k.2 r h1 h2) (by rw [<-e r (bg _) (by omega),<-z3];exact cmp z hz p r hc.1 hc.2.1 h1 h2);exact this
  | @step y0 y' s h0 k1 k2 k3 k4 k5 k6 ih=>
   intro lG r h1 h2;have ih:=ih k1
   by_cases e:r=s
   ·subst e;obtain⟨r',r1,r2,r3⟩:∃r',i<r'/\r'<j/\r'≠r:=by
     by_cases e:r=i+1
     ·exact⟨i+2,am,am,am⟩
     ·exact⟨i+1,am,am,am⟩
    have e2:=k6 r' (bg _) am r3;have hk:=kp y' (.step r h0 k1 k2 k3 k4 k5 k6);have:=ih r' r1 r2;rw [e2]at this;exact this.trans (.one (nE y' lG hk.1 hk.2 r h1 h2) (cmp y' lG r' r r1 r2 h1 h2))
   ·rw [<-k6 r (bg _) (by omega) e];exact ih r h1 h2
 have:=key y hl hy q hd.1 hd.2.1
 rwa [y3]at this
end
structure nt{α:Type}(n:Nat)(R:ai)(B:ah)(el:Nat->α->Prop)(le:α->α->Prop)(φ:Int->α):Prop where
 n1:1<=n
 g:ia (n+1) el le
 CG:∀e:Int,0<=e/\e<R.length->∀i:Nat,i<n->gi R e=i->el (i+1) (φ e)
 Hw:∀(i:Nat) (a:α),i<n->el (i+1) a->∃e:Int,(0<=e/\e<R.length)/\gi R e=i/\φ e=a
 inj:∀d e:Int,0<=d/\d<R.length->0<=e/\e<R.length->φ d=φ e->d=e
 inc:∀d e:Int,0<=d/\d<R.length->0<=e/\e<R.length->gi R e=gi R d+1->(d∈gl B e↔le (φ d) (φ e))
section
variable{y:ai}
variable {α:Type} {n:Nat} {R:ai} {B:ah} {el:Nat->α->Prop} {le:α->α->Prop} {φ:Int->α}
def mP(o t:α)(n:Nat)(φ:Int->α)(x:ai)(k:Nat):α:=if k=0 then o else if k<=n then φ (gi x ((k - 1:Nat):Int))else t
theorem C5{o t:α}{x:ai}{k:Nat}(h:k<n):mP o t n φ x (k+1)=φ (gi x k):=by
 unfold mP;rw [if_neg (by omega),if_pos (by omega)];rfl
theorem nt.z(h:nt n R B el le φ){o t:α}(ho:el 0 o)(iK:∀(i:Nat) (a:α),el i a->le o a)(ht:el (n+1) t)(pL:∀(i:Nat) (a:α),el i a->le a t){x:ai}(hx:x∈aG n R B):jc el le 0 (n+1) (mP o t n φ x):=by
 obtain⟨_,ha,hb⟩:=(qL h.n1).1 hx;have hm:∀k:Nat,k<n->el (k+1) (mP o t n φ x (k+1)):=fun k hk=>by
  rw [C5 hk];exact h.CG _ (ha k hk).1 k hk (ha k hk).2
 have h0:mP o t n φ x 0=o:=aB O;have h9:mP o t n φ x (n+1)=t:=by unfold mP;rw [if_neg (by omega),if_neg (by omega)]
 have he:∀k:Nat,k<=n+1->el k (mP o t n φ x k):=fun k hk=>by
  cases k with
  | zero=>rw [h0];exact ho
  | succ k=>
   by_cases e:k<n
   ·exact hm k e
   ·obtain rfl:k=n:=by omega
    rw [h9];exact ht
 refine⟨fun k _ hk=>he k hk,fun k _ hk=>?_⟩;cases k with
 | zero=>rw [h0];exact iK _ _ (he 1 am)
 | succ k=>
  by_cases e:k+1<n
  ·rw [C5 (by omega),C5 e];refine(h.inc _ _ (ha k am).1 (ha (k+1) e).1 ?_).1 (hb k e);rw [(ha k (by omega)).2,(ha (k+1) e).2];omega
  ·obtain rfl:k+1=n:=by omega
   rw [h9];exact pL _ _ (he (k+1) am)
theorem nt.x(h:nt n R B el le φ){z:Nat->α}(hz:jc el le 0 (n+1) z):∃x∈aG n R B,∀i:Nat,i<n->φ (gi x i)=z (i+1):=by
 have hex:∀i:Nat,∃e:Int,i<n->(0<=e/\e<R.length)/\gi R e=i/\φ e=z (i+1):=fun i=>by
  by_cases hi:i<n
  ·obtain⟨e,h⟩:=h.Hw i (z (i+1)) hi (hz.1 (i+1) (bg _) am);exact⟨e,fun _=>h⟩
  exact⟨0,fun h=>absurd h hi⟩
 obtain⟨E,hE⟩:=Classical.axiomOfChoice hex;have hE:∀i:Nat,i<n->(0<=E i/\E i<R.length)/\gi R (E i)=i/\φ (E i)=z (i+1):=hE;have gE:∀i:Nat,i<n->gi ((List.range n).map E) i=E i:=fun i hi=>by
  rw [bV (by simpa using hi),List.getElem_map,List.getElem_range]
 refine⟨(List.range n).map E,(qL h.n1).2 ⟨by simp,fun i hi=>?_,fun i hi=>?_⟩,fun i hi=>?_⟩
 ·rw [gE i hi];exact⟨(hE i hi).1,(hE i hi).2.1⟩
 ·rw [gE i (by omega),gE (i+1) hi];have h1:=hE i am;have h2:=hE (i+1) hi;rw [h.inc _ _ h1.1 h2.1 (by rw [h1.2.1,h2.2.1];omega),h1.2.2,h2.2.2];exact hz.2 (i+1) (bg _) am
 rw [gE i hi];exact(hE i hi).2.2
theorem nt.pure(h:nt n R B el le φ)(hr:∀e:Int,0<=e->e<R.length->0<=gi R e/\gi R e<n):Ll n R B:=fun e h0 h1=>by
 obtain⟨r0,r1⟩:=hr e h0 h1;obtain⟨i,hi⟩:∃i:Nat,gi R e=i:=⟨(gi R e).toNat,am⟩;have he:=h.CG e ⟨h0,h1⟩ i am hi;obtain⟨o,ho,iK⟩:=h.g.bot;obtain⟨t,ht,pL⟩:=h.g.top;obtain⟨w1,c1,_,e1⟩:=h.g.chain ho he (iK _ _ he).1 am;obtain⟨w2,c2,e2,_⟩:=h.g.chain he ht (pL _ _ he).1 am;obtain⟨x,hx,hf⟩:=h.x (c1.glue c2 (e1.trans e2.symm));refine⟨x,hx,?_⟩;have hh:=hf i am;rw [rJ (br _),e1]at hh;obtain⟨hl,ha,_⟩:=(qL h.n1).1 hx;have:=h.inj _ _ (ha i am).1 ⟨h0,h1⟩ hh;rw [<-this,bV (by omega)];exact dK _
theorem nt.agree(h:nt n R B el le φ){o t:α}{x:ai}(hx:x∈aG n R B)(hy:y∈aG n R B){i:Nat}(hi:i<n):mP o t n φ x (i+1)=mP o t n φ y (i+1)↔gi x i=gi y i:=by
 rw [C5 hi,C5 hi];exact⟨h.inj _ _ (((qL h.n1).1 hx).2.1 i hi).1 (((qL h.n1).1 hy).2.1 i hi).1,fun e=>by rw [e]⟩
theorem Tw{fl:ah}{x:ai}(h:x∈fl):∃a:Nat,a<fl.length/\gl fl a=x:=by
 obtain⟨a,ha,e⟩:=gC.1 h;exact⟨a,ha,by rw [bR ha,e]⟩
theorem sY{fl:ah}{a:Nat}(h:a<fl.length):gl fl a∈fl:=by rw [bR h];exact dK _
theorem nt.con(h:nt n R B el le φ)(hc:HJ (n+1) el le):Bq n (aG n R B):=fun a b eA hb=>by
 obtain⟨o,ho,iK⟩:=h.g.bot;obtain⟨t,ht,pL⟩:=h.g.top;have ha:a< (aG n R B).length:=by omega
 have mz:=fun(x:ai) (hx:x∈aG n R B)=>h.z ho (fun i a k=> (iK i a k).1) ht (fun i a k=> (pL i a k).1) hx
 have hl:=hc _ _ (mz _ (sY ha)) (mz _ (sY hb));have key:∀y,jF el le 0 (n+1) (fun k=>mP o t n φ (gl (aG n R B) a) k=mP o t n φ (gl (aG n R B) b) k) (mP o t n φ (gl (aG n R B) a)) y->
  ∃c:Nat,c< (aG n R B).length/\jG n (aG n R B) (fun k=>gi (gl (aG n R B) a) k=gi (gl (aG n R B) b) k) a c/\∀i:Nat,i<n->mP o t n φ (gl (aG n R B) c) (i+1)=y (i+1):=by
  intro y hy
  induction hy with
  | same e=>exact⟨a,ha,.refl ha,fun i hi=>e (i+1) (bg _) am⟩
  | @step y y' p _ k1 k2 k3 k4 k5 k6 ih=>
   obtain⟨c,de,mo,Ny⟩:=ih;obtain⟨x,hx,OD⟩:=h.x k2;obtain⟨c',qm,e'⟩:=Tw hx;have Ke:∀i:Nat,i<n->mP o t n φ (gl (aG n R B) c') (i+1)=y' (i+1):=fun i hi=>by rw [e',C5 hi,OD i hi]
   obtain⟨q,rfl⟩:∃q,p=q+1:=⟨p - 1,am⟩;have hq:q<n:=by omega
   refine⟨c',qm,.step mo hq (fun hs=>k5 ((h.agree (sY ha) (sY hb) hq).2 hs)) ⟨de,qm,fun k hk bP=>?_⟩,Ke⟩;rw [<-h.agree (o:=o) (t:=t) (sY de) (sY qm) hk,Ny k hk,Ke k hk];exact k6 (k+1) (bg _) am am
 obtain⟨c,de,mo,Ny⟩:=key _ hl;have:c=b:=zO de hb (xG (n:=n) (oP h.n1 de).1 (oP h.n1 hb).1 fun i hi=> (h.agree (sY de) (sY hb) hi).1 (Ny i hi))
 rwa [this]at mo
theorem nt.abV(h:nt n R B el le φ)(hc:Bq n (aG n R B)):HJ (n+1) el le:=fun z y hz hy=>by
 obtain⟨o,ho,iK⟩:=h.g.bot;obtain⟨t,ht,pL⟩:=h.g.top;have mz:=fun(x:ai) (hx:x∈aG n R B)=>h.z ho (fun i a k=> (iK i a k).1) ht (fun i a k=> (pL i a k).1) hx
 have all:∀w,jc el le 0 (n+1) w->∃a:Nat,a< (aG n R B).length/\∀k,0<=k->k<=n+1->mP o t n φ (gl (aG n R B) a) k=w k:=fun w hw=>by
  obtain⟨x,hx,OD⟩:=h.x hw;obtain⟨a,ha,e⟩:=Tw hx;refine⟨a,ha,fun k _ hk=>?_⟩;cases k with
  | zero=>exact(show mP o t n φ _ 0=o from aB rfl).trans ((iK 0 _ (hw.1 0 (br _) am)).2 rfl).symm
  | succ k=>
   by_cases q:k<n
   ·rw [e,C5 q];exact OD k q
   ·obtain rfl:k=n:=by omega
    exact(show mP o t k φ _ (k+1)=t by unfold mP;rw [if_neg (by omega),if_neg (by omega)]).trans ((pL _ _ (hw.1 (k+1) (Nat.zero_le _) (Nat.le_refl _))).2 O).symm
 obtain⟨a,ha,ea⟩:=all z hz;obtain⟨b,hb,eb⟩:=all y hy;have mo:jG n (aG n R B) (fun k=>gi (gl (aG n R B) a) k=gi (gl (aG n R B) b) k) a b:=by
  rcases Nat.lt_trichotomy a b with eA | eA | eA
  ·exact hc a b eA hb
  ·subst eA;exact .refl ha
  ·have:=(hc b a eA ha).symm;have e:(fun k:Nat=>gi (gl (aG n R B) b) k=gi (gl (aG n R B) a) k)=fun k:Nat=>gi (gl (aG n R B) a) k=gi (gl (aG n R B) b) k:=funext fun k=>propext eq_comm
   rwa [e]at this
 have key:∀c,jG n (aG n R B) (fun k=>gi (gl (aG n R B) a) k=gi (gl (aG n R B) b) k) a c->jF el le 0 (n+1) (fun k=>z k=y k) z (mP o t n φ (gl (aG n R B) c)):=by
  intro c hh
  induction hh with
  | refl _=>exact .same fun k k1 k2=> (ea k k1 k2).symm
  | @step c c' i h0 hi hS hA ih=>
   refine .step (i+1) ih (mz _ (sY hA.1)) (mz _ (sY hA.2.1)) am am (fun hs=>hS ?_) fun k _ k2 hk=>?_
   ·rw [<-h.agree (o:=o) (t:=t) (sY ha) (sY hb) hi,ea (i+1) (bg _) (by omega),eb (i+1) (bg _) (by omega)];exact hs
   ·cases k with
    | zero=>exact(show mP o t n φ _ 0=o from aB rfl).trans (show mP o t n φ _ 0=o from aB rfl).symm
    | succ k=>
     by_cases q:k<n
     ·exact(h.agree (sY hA.1) (sY hA.2.1) q).2 (hA.2.2 k q am)
     ·unfold mP;rw [if_neg (by omega),if_neg (by omega),if_neg (by omega),if_neg (by omega)]
 exact(key b mo).eqv eb
end
def Fb(m:Nat)(n:Int)(rk:Int->Int)(ir:Int->Int->Prop):Prop:=∃z:Int->Int,∀i:Int,-1<=i->i<=n->(0<=z i/\z i<m)/\rk (z i)=i/\∀j:Int,i<=j->j<=n->ir (z i) (z j)
theorem Ik{n:Nat}{R:ai}{B:ah}(h:gL n R B)(hf:aG n R B≠[]):Fb (R.length+2) n (gi (ik n R)) (eM R.length B):=by
 have hn:=h.n1;have tp:1<=n:=by omega
 obtain⟨x,hx⟩:=List.exists_mem_of_ne_nil _ hf;obtain⟨hl,ha,hb⟩:=(qL tp).1 hx;have eA:∀i j:Nat,i<j->j<n->gi x i∈gl B (gi x j):=by
  intro i j iy
  induction j with
  | zero=>omega
  | succ j ih=>
   intro hj;have h1:=hb j am
   by_cases e:i=j
   ·subst e;exact h1
   ·have h2:=ih am am;have h3:=ha (j+1) am;exact(h.at_ (e:=gi x ((j+1:Nat):Int)) h3.1.1 h3.1.2).2.2 _ h1 _ h2
 have key:∀i:Int,0<=i->i<n->0<=gi x i/\gi x i<R.length/\gi R (gi x i)=i:=fun i h0 h1=>by
  obtain⟨k,rfl⟩:∃k:Nat,i=k:=⟨i.toNat,am⟩;have:=ha k am;exact⟨this.1.1,this.1.2,this.2⟩
 have jO:∀i j:Int,0<=i->i<j->j<n->gi x i∈gl B (gi x j):=fun i j h0 h1 h2=>by
  obtain⟨k,rfl⟩:∃k:Nat,i=k:=⟨i.toNat,am⟩;obtain⟨q,rfl⟩:∃q:Nat,j=q:=⟨j.toNat,am⟩;exact eA k q am am
 refine⟨fun i=>if i<0 then 0 else if i<n then gi x i+1 else(R.length:Int)+1,fun i h0 h1=>?_⟩
 by_cases c0:i<0
 ·have e:i= -1:=by omega
  subst e;refine⟨by show(0:Int)<=(if(-1:Int)<0 then 0 else _)/\(if(-1:Int)<0 then 0 else _)<_;rw [aB (by omega)];omega,by show gi _ (if(-1:Int)<0 then 0 else _)=_;rw [aB (by omega)];rfl,fun j _ _=>by show eM _ _ (if(-1:Int)<0 then 0 else _) _;rw [aB (by omega)];exact .inr (.inl O)⟩
 by_cases c1:i<n
 ·have hk:=key i am c1;have hz:(if i<0 then 0 else if i<n then gi x i+1 else(R.length:Int)+1)=gi x i+1:=by rw [az c0,aB c1]
  refine⟨by show(0:Int)<=(if i<0 then 0 else if i<n then gi x i+1 else(R.length:Int)+1)/\(if i<0 then 0 else if i<n then gi x i+1 else(R.length:Int)+1)<_;rw [hz];omega,by show gi _ (if i<0 then 0 else if i<n then gi x i+1 else(R.length:Int)+1)=_;rw [hz,zN _ _ (by omega) (by omega),Int.add_sub_cancel];exact hk.2.2,fun j hj pG=>?_⟩;show eM _ _ (if i<0 then 0 else if i<n then gi x i+1 else(R.length:Int)+1) (if j<0 then 0 else if j<n then gi x j+1 else(R.length:Int)+1);rw [hz,az (by omega)]
  by_cases c2:j<n
  ·rw [aB c2]
   by_cases e:i=j
   ·subst e;exact .inl rfl
   ·have kX:=key j am c2;exact .inr (.inr (.inr ⟨am,am,am,am,by rw [Int.add_sub_cancel,Int.add_sub_cancel];exact jO i j am am c2⟩))
  ·rw [az c2];exact .inr (.inr (.inl rfl))
 ·have e:i=n:=by omega
  have hz:(if i<0 then 0 else if i<n then gi x i+1 else(R.length:Int)+1)=(R.length:Int)+1:=by rw [az c0,az c1]
  refine⟨by show(0:Int)<=(if i<0 then 0 else if i<n then gi x i+1 else(R.length:Int)+1)/\(if i<0 then 0 else if i<n then gi x i+1 else(R.length:Int)+1)<_;rw [hz];omega,by show gi _ (if i<0 then 0 else if i<n then gi x i+1 else(R.length:Int)+1)=_;rw [hz,FK];exact e.symm,fun j hj pG=>?_⟩;obtain rfl:j=i:=by omega
  exact .inl O
section
variable {m1 m2:Nat} {n1 n2:Int} {rk1 rk2:Int->Int} {di db:Int->Int->Prop} [DecidableRel di] [DecidableRel db] {kind:Int}
theorem XC(h1:gg m1 n1 rk1 di)(h2:gg m2 n2 rk2 db)(c1:Fb m1 n1 rk1 di)(c2:Fb m2 n2 rk2 db)(o3:0<=kind/\kind<=2){k:Nat}(hk:(k:Int)=iM n1 n2 kind)(fO:1<=k)(yL:1<=n1/\(1<=n2\/kind=0)):
 aG k ((cK m1 m2 rk1 rk2 kind k).map (dh rk1 rk2 kind)) (nH di db (cK m1 m2 rk1 rk2 kind k))≠[]:=by
 obtain⟨z1,Kf⟩:=c1;obtain⟨z2,V1⟩:=c2;have tp:=h1.n0;have Er:=h2.n0;have r10:=h1.r0;have r1t:=h1.rt;have r20:=h2.r0;have r2t:=h2.rt;obtain⟨t,ht⟩:∃t:Int,t=if kind=2 then n1 - 1 else n1:=⟨_,rfl⟩
 obtain⟨s,hs⟩:∃s:Int,s=if kind=1 then 0 else -1:=⟨_,rfl⟩
 obtain⟨p,hpd⟩:∃p:Nat->Int,p=fun i:Nat=>if(i:Int)<=t then(i:Int)else t:=⟨_,rfl⟩
 obtain⟨q,hqd⟩:∃q:Nat->Int,q=fun i:Nat=>if(i:Int)<=t then s else s+ ((i:Int) - t):=⟨_,rfl⟩
 have hp:∀i:Nat,p i=if(i:Int)<=t then(i:Int)else t:=fun i=>by rw [hpd]
 have hq:∀i:Nat,q i=if(i:Int)<=t then s else s+ ((i:Int) - t):=fun i=>by rw [hqd]
 have vh:∀i:Nat,i<k->(-1<=p i/\p i<=n1)/\(-1<=q i/\q i<=n2)/\p i+q i+fD kind=i/\(kind=1->0<=p i/\0<=q i)/\(kind=2->p i<n1/\q i<n2):=fun i hi=>by
  rw [hp,hq];rcases(show kind=0\/kind=1\/kind=2 by omega)with rfl | rfl | rfl
  ·simp only [iM,aB]at hk;simp only [fD]at*;simp at ht hs
   split<;>simp<;>omega
  ·simp only [iM]at hk;simp only [fD]at*;simp at ht hs hk
   split<;>simp<;>omega
  simp only [iM]at hk;simp only [fD]at*;simp at ht hs hk
  split<;>simp<;>omega
 have Aq:∀i:Nat,p i<=p (i+1)/\q i<=q (i+1):=fun i=>by
  rw [hp,hq,hp,hq]
  split<;>split<;>omega
 have jw:∀i:Nat,i<k->nq m1 m2 rk1 rk2 kind i (z1 (p i),z2 (q i)):=fun i hi=>by
  have h:=vh i hi;have a:=Kf (p i) h.1.1 h.1.2;have b:=V1 (q i) h.2.1.1 h.2.1.2;refine⟨a.1,b.1,by show rk1 (z1 (p i))+rk2 (z2 (q i))+fD kind=i;rw [a.2.1,b.2.1];exact h.2.2.1,fun hx=>?_⟩;rcases hx with⟨k1,e | e⟩ | ⟨k2,e | e⟩
  ·have e:z1 (p i)=0:=e;have:=a.2.1;rw [e,r10]at this;have:=(h.2.2.2.1 k1).1;omega
  ·have e:z2 (q i)=0:=e;have:=b.2.1;rw [e,r20]at this;have:=(h.2.2.2.1 k1).2;omega
  ·have e:z1 (p i)=(m1:Int) - 1:=e;have:=a.2.1;rw [e,r1t]at this;have:=(h.2.2.2.2 k2).1;omega
  have e:z2 (q i)=(m2:Int) - 1:=e;have:=b.2.1;rw [e,r2t]at this;have:=(h.2.2.2.2 k2).2;omega
 have hex:∀i:Nat,∃e:Int,i<k->(0<=e/\e< (cK m1 m2 rk1 rk2 kind k).length)/\gp (cK m1 m2 rk1 rk2 kind k) e=(z1 (p i),z2 (q i)):=fun i=>by
  by_cases hi:i<k
  ·obtain⟨e,h,h'⟩:=Mb hi (jw i hi);exact⟨e,fun _=> ⟨h,h'⟩⟩
  exact⟨0,fun h=>absurd h hi⟩
 obtain⟨E,hE⟩:=Classical.axiomOfChoice hex;have hE:∀i:Nat,i<k->(0<=E i/\E i< (cK m1 m2 rk1 rk2 kind k).length)/\gp (cK m1 m2 rk1 rk2 kind k) (E i)=(z1 (p i),z2 (q i)):=hE;have gE:∀i:Nat,i<k->gi ((List.range k).map E) i=E i:=fun i hi=>by
  rw [bV (by simpa using hi),List.getElem_map,List.getElem_range]
 have hm:(List.range k).map E∈aG k ((cK m1 m2 rk1 rk2 kind k).map (dh rk1 rk2 kind)) (nH di db (cK m1 m2 rk1 rk2 kind k)):=by
  refine(qL fO).2 ⟨by simp,fun i hi=>?_,fun i hi=>?_⟩
  ·rw [gE i hi,fS];have h:=hE i hi;refine⟨h.1,?_⟩;rw [CS h.1.1 h.1.2,h.2];exact(jw i hi).2.2.1
  rw [gE i (by omega),gE (i+1) hi];have h:=hE i am;have h':=hE (i+1) hi;rw [xM h'.1.1 h'.1.2,wv h1 h2 h'.1];have b0:=vh i am;have b1:=vh (i+1) hi;have hm:=Aq i;refine⟨h.1,fun e=>?_,?_,?_⟩
  ·have e2:=h'.2;rw [<-e,h.2]at e2;have r1:=(jw i am).2.2.1;have r2:=(jw (i+1) hi).2.2.1;rw [e2,r2]at r1;omega
  ·rw [h.2,h'.2];exact(Kf (p i) b0.1.1 b0.1.2).2.2 (p (i+1)) hm.1 b1.1.2
  rw [h.2,h'.2];exact(V1 (q i) b0.2.1.1 b0.2.1.2).2.2 (q (i+1)) hm.2 b1.2.1.2
 intro h;rw [h]at hm;cases hm
end
end
section
open Go.RowKit Go.MapKept
structure tI{κ:Type}(d:TypeDesc)(kv:κ->ad):Prop where
 isKey:∀a,IsKey d (kv a)
 inj:∀a b,kv a=kv b->a=b
theorem CF:tI .string Value.string:=⟨fun _=>au,fun a b h=>by injection h⟩
section
variable {κ ν:Type} [DecidableEq κ]
def dS:List (κ×ν)->κ->Option ν
 | [],_=>none
 | (y,v)::r,x=>if y=x then some v else dS r x
def fj:List (κ×ν)->κ->ν->List (κ×ν)
 | [],x,v=> [(x,v)]
 | (y,u)::r,x,v=>if y=x then(x,v)::r else(y,u)::fj r x v
def lz:List (κ×ν)->κ->Option (Nat×ν)
 | [],_=>none
 | (y,v)::r,x=>if y=x then some (0,v)else(lz r x).map fun p=> (p.1+1,p.2)
theorem Mn:∀(L:List (κ×ν)) (x:κ),dS L x=(lz L x).map (·.2)
 | [],_=>rfl
 | (y,v)::r,x=>by
  simp only [dS,lz]
  split
  ·rfl
  ·rw [Mn r x,Option.map_map];rfl
theorem Mp:∀ {L:List (κ×ν)} {x:κ} {j:Nat} {v:ν},lz L x=some (j,v)->L[j]?=some (x,v)/\∀u,fj L x u=L.set j (x,u)
 | (y,w)::r,x,j,v,h=>by
  simp only [lz]at h
  split at h
  ·rename_i e;simp only [mB,Prod.mk.injEq]at h;obtain⟨rfl,rfl⟩:=h;subst e;exact⟨O,fun u=>by simp [fj]⟩
  ·rename_i e;cases hf:lz r x with
   | none=>simp [hf]at h
   | some p=>
    simp only [hf,Option.map_some,mB,Prod.mk.injEq]at h;obtain⟨rfl,rfl⟩:=h;obtain⟨h1,h2⟩:=Mp (L:=r) (x:=x) (j:=p.1) (v:=p.2) hf;exact⟨by simpa using h1,fun u=>by simp only [fj,az e,h2 u,List.set_cons_succ]⟩
theorem Mo:∀ {L:List (κ×ν)} {x:κ},lz L x=none->∀u,fj L x u=L++ [(x,u)]
 | [],x,_,u=>rfl
 | (y,w)::r,x,h,u=>by
  simp only [lz]at h
  split at h
  ·cases h
  ·rename_i e;rw [Option.map_eq_none_iff]at h;simp only [fj,az e,Mo h u,List.cons_append]
theorem FW(L:List (κ×ν))(x y:κ)(u:ν):dS (fj L x u) y=if x=y then some u else dS L y:=by
 induction L with
 | nil=>simp only [fj,dS]
 | cons p r ih=>
  obtain⟨z,w⟩:=p;simp only [fj]
  by_cases e:z=x
  ·subst e;rw [aB rfl];simp only [dS]
   split<;>simp_all
  ·rw [az e];simp only [dS,ih]
   by_cases e2:z=y
   ·subst e2;rw [aB rfl,az (fun h=>e h.symm),aB rfl]
   ·rw [az e2,az e2]
def eC(kv:κ->ad)(vv:ν->ad)(L:List (κ×ν)):List (ad×ad):=L.map fun p=> (kv p.1,vv p.2)
theorem IH{d:TypeDesc}{kv:κ->ad}{vv:ν->ad}(K:tI d kv)(x:κ):∀(l:List MapEntry) (L:List (κ×ν)) (i:Nat),l.map (fun e=> (e.key,e.val))=eC kv vv L->Instr.findNow d (kv x) l i=some ((lz L x).map fun p=> (i+p.1,vv p.2))
 | [],[],_,_=>rfl
 | [],_::_,_,h=>by simp [eC]at h
 | _::_,[],_,h=>by simp [eC]at h
 | e::l,(y,v)::L,i,h=>by
  simp only [eC,List.map_cons,List.cons.injEq,Prod.mk.injEq]at h;obtain⟨⟨h1,h2⟩,h3⟩:=h;obtain⟨r,hr,Gr⟩:=sameNow_of_keys (K.isKey x) (K.isKey y);simp only [Instr.findNow,lz];rw [h1,hr];cases r with
  | true=>
   have e1:=K.inj _ _ (Gr.1 O);subst e1;simp [h2]
  | false=>
   have bP:¬y=x:=fun q=>by
    have:=Gr.2 (by rw [q]);cases this
   rw [az bP];simp only;rw [IH K x l L (i+1) h3,Option.map_map]
   congr 2
   funext p;simp only [Function.comp];rw [Nat.add_assoc,Nat.add_comm 1]
end
theorem WK{es:Array MapEntry}{cl:Nat}(h:vq es cl)(k v:ad):vq (es.push ⟨k,v,cl⟩) (cl+1):=by
 refine⟨fun x hx=>?_,?_⟩
 ·rw [Array.toList_push,jd]at hx;rcases hx with hx | hx
  ·exact Nat.lt_succ_of_lt (h.1 x hx)
  rw [gj]at hx;subst hx;exact Nat.lt_succ_self _
 rw [Array.toList_push,iI,List.nodup_append];refine⟨h.2,by simp,fun a ha b hb=>?_⟩;obtain⟨x,hx,rfl⟩:=dF.1 ha;have:=h.1 x hx;simp at hb;omega
theorem WJ{es:Array MapEntry}{cl:Nat}(h:vq es cl)(j:Nat)(k v:ad):vq (es.modify j fun e=> { e with key:=k,val:=v }) cl:=by
 have e1:(es.modify j fun e=> { e with key:=k,val:=v }).toList.map (·.born)=es.toList.map (·.born):=by
  apply List.ext_getElem?;intro q;simp only [List.getElem?_map,Array.getElem?_toList,Array.getElem?_modify]
  split
  ·rw [Option.map_map];rfl
  rfl
 refine⟨fun x hx=>?_,by rw [e1];exact h.2⟩;have h2:x.born∈(es.modify j fun e=> { e with key:=k,val:=v }).toList.map (·.born):=dF.2 ⟨x,hx,O⟩;rw [e1]at h2;obtain⟨y,hy,e⟩:=dF.1 h2;rw [<-e];exact h.1 y hy
theorem ajb{es sT:Array MapEntry}{cl:Nat}(h:vq es cl)(hs:sT.toList.Sublist es.toList):vq sT cl:=⟨fun x hx=>h.1 x (hs.subset hx),h.2.sublist (hs.map _)⟩
def fN(t:ae)(g:Nat)(mZ:List (ad×ad)):Ck:=⟨some ⟨g,0,none⟩,0,0,t,.tuple #[]::sV mZ⟩
def vJ(w:aa)(g:Nat)(mZ:List (ad×ad)):Prop:=∃es cl,w.heap[g]?=some (.map es cl)/\es.toList.map (fun e=> (e.key,e.val))=mZ
section
variable {w0 w w':aa} {ks:List Ck} {t:ae} {g:Nat} {mZ:List (ad×ad)}
theorem St.Hd(h:St w0 w ks)(i:Nat)(hk:ks[i]?=some (fN t g mZ)):w0.heap.size<=g/\∃es cl,w.heap[g]?=some (.map es cl)/\es.toList.map (fun e=> (e.key,e.val))=mZ/\vq es cl:=by
 rcases(h.get hk).cases with⟨_,_,_,g',o,hA,hg,hh,hv⟩ | ⟨hm,_⟩
 ·have hA:some (⟨g,0,Option.none⟩:Addr)=some ⟨g',0,Option.none⟩:=hA;simp only [mB,Addr.mk.injEq,and_true]at hA;subst hA
  match o,hh,hv with
  | .map es cl,hh,⟨hw,.inl hv⟩=>
   have hv:(.tuple #[]::sV mZ:List ad)= .tuple #[]::sV (es.toList.map fun e=> (e.key,e.val)):=hv;simp only [List.cons.injEq,true_and]at hv;exact⟨hg,es,cl,hh,(S5 hv).symm,hw⟩
  | .map es cl,hh,⟨hw,.inr hv⟩=>
   have hv:(.tuple #[]::sV mZ:List ad)= .tuple #[ak cl]::sW es.toList:=hv;simp at hv
  | .mapIter m since seen c0,hh,⟨_,bm,_,hv⟩=>
   have hv:(.tuple #[]::sV mZ:List ad)= .tuple #[.map (some bm),ak since]::_:=hv;simp at hv
 ·cases hm
theorem St.Xg(h:St w0 w ks)(i:Nat)(hk:ks[i]?=some (fN t g mZ)):w0.heap.size<=g/\vJ w g mZ:=by
 obtain⟨h1,es,cl,h2,h3,_⟩:=h.Hd i hk;exact⟨h1,es,cl,h2,h3⟩
theorem St.CU(h:St w0 w ks)(i:Nat)(hk:ks[i]?=some (fN t g mZ)):vJ w g mZ:=(h.Xg i hk).2
theorem St.aaN(h:St w0 w ks)(t:ae):St w0 (w.alloc (.map #[] 0)) (fN t w.heap.size []::ks):=by
 have hb:Below w.heap.size w (w.alloc (.map #[] 0)):=(Below.refl _ _).alloc (br _) _;have h1:=h.aq hb;refine⟨h1.below,fun k hk=>?_,?_⟩
 ·rcases iX.1 hk with rfl | hk
  ·exact .ofM rfl ⟨rfl,rfl,_,_,rfl,h.below.size,heap_alloc_new w _,⟨(fun _ h=>by cases h),List.nodup_nil⟩,.inl rfl⟩
  exact h1.own k hk
 simp only [List.filterMap_cons,fN,Ck.ij,Option.map_some,mf];refine⟨fun cI=>?_,h.apart⟩;obtain⟨k',eI,qp⟩:=List.mem_filterMap.1 cI;have:=((h.own k' eI).lt qp).2;omega
theorem St.E1{i:Nat}{OQ:List (ad×ad)}{sT:Array MapEntry}{xd:Nat}(h:St w0 w ks)(hk:ks[i]?=some (fN t g mZ))(hv:sT.toList.map (fun e=> (e.key,e.val))=OQ)(o8:vq sT xd):St w0 { w with heap:=w.heap.setIfInBounds g (.map sT xd) } (ks.set i (fN t g OQ)):=by
 obtain⟨hg,es,cl,hh,_⟩:=h.Xg i hk;refine h.turn (k:=fN t g mZ) (k':=fN t g OQ) (g:=g) hk O O ⟨⟨O,O,O,by simp,fun x _ hx=>?_⟩,br _⟩ ?_
 ·exact(heap_set hh).2 x fun e=>hx (by rw [e])
 refine .ofM O ⟨O,O,g,_,O,hg,(heap_set hh).1,o8,.inl ?_⟩;rw [hv];rfl
end
section
variable{x m ix k:ag}{t kt et T:ae}{b:Nat}
variable {P:Program} {N:Nat} {ops:Array Oper} {K:Env->aa->Prop} {rest:List Oper} {e:Env} {w0 w w':aa} {ks:List Ck} {d:Nat} {ty:ae} {pos:String} {af:Array Edge}
variable {κ ν:Type} [DecidableEq κ] {kd:TypeDesc} {kv:κ->ad} {vv:ν->ad}
theorem Ri{op:Op}{g:Option Nat}(o4:AV op=some x)(hx:ev e x= .map g)(hb:Nat.blt d N=true)(hK:ao P N ops K rest (bn e d (.map g)) w):ao P N ops K (⟨some d,op,ty,pos,af,none⟩::rest) e w:= .mv o4 hx hb hK
theorem Dh(hS:St w0 w ks)(hb:Nat.blt d N=true)(hK:∀g w',St w0 w' (fN t g []::ks)->ao P N ops K rest (bn e d (.map (some g))) w'):
 ao P N ops K (⟨some d,.makeMap t none,ty,pos,af,none⟩::rest) e w:=
 .val (w':=w.alloc (.map #[] 0)) (by simp [execOp,run_makeMap]) hb (hK _ _ (hS.aaN t))
theorem Qh{z:ad}{s:Nat}[hU:bA P t (.map kt et)][hk:bA P kt kd][bq P et z s b](KT:tI kd kv){g:Nat}{L:List (κ×ν)}{x:κ}(hR:vJ w g (eC kv vv L))(ok:Bool):
 (Instr.lookup t (.map (some g)) (kv x) ok).run P w= .ok (if ok then .tuple #[((dS L x).map vv).getD z,.bool (dS L x).isSome]else((dS L x).map vv).getD z) w:=by
 obtain⟨es,cl,hh,hm⟩:=hR;obtain⟨inf,hi,dX,_,_⟩:=bq.get P et;have hf:=IH (vv:=vv) KT x es.toList L 0 hm;rw [Mn];unfold Instr.lookup;simp only [Sem.run_bind,run_underlying hU.out,Result.andThen,MapKept.run_getObj_map hh,MapKept.run_checkKey hk.out (KT.isKey x)];cases kW:lz L x with
 | none=>
  rw [kW]at hf;have oZ:=MapKept.run_findKey (P:=P) (w:=w) hk.out hf;cases ok<;>simp [oZ,zeroValue,typeInfo,hi,dX]
 | some p=>
  rw [kW]at hf;have oZ:=MapKept.run_findKey (P:=P) (w:=w) hk.out hf;cases ok<;>simp [oZ]
theorem ao.look{z v:ad}{s:Nat}[bA P t (.map kt et)][bA P kt kd][bq P et z s b](KT:tI kd kv){g:Nat}{L:List (κ×ν)}{x:κ}(hR:vJ w g (eC kv vv L))(hx:ev e m= .map (some g))(hy:ev e ix=kv x)(hv:((dS L x).map vv).getD z=v)(hb:Nat.blt d N=true)(hK:ao P N ops K rest (bn e d v) w):ao P N ops K (⟨some d,.lookup t m ix false,ty,pos,af,none⟩::rest) e w:=by
 subst hv;refine .val (w':=w) ?_ hb hK;have:=Qh (P:=P) (t:=t) (x:=x) KT hR false;simp [execOp,hx,hy,this]
theorem ZZ[bA P t (.map kt et)][bA P kt kd][bq P et (.bool false) 1 b](KT:tI kd kv){g:Nat}{L:List (κ×Bool)}(x:κ)(hR:vJ w g (eC kv Value.bool L))(hx:ev e m= .map (some g))(hy:ev e ix=kv x)(hb:Nat.blt d N=true)(hK:ao P N ops K rest (bn e d (.bool ((dS L x).getD false))) w):ao P N ops K (⟨some d,.lookup t m ix false,ty,pos,af,none⟩::rest) e w:=
 .look KT hR hx hy (by cases dS L x<;>rfl) hb hK
theorem Z2[bA P t (.map kt et)][bA P kt kd][bq P et (ak 0) 1 b](KT:tI kd kv){g:Nat}{L:List (κ×Int)}(x:κ)(hR:vJ w g (eC kv (Value.int .i64) L))(hx:ev e m= .map (some g))(hy:ev e ix=kv x)(hb:Nat.blt d N=true)(hK:ao P N ops K rest (bn e d (ak ((dS L x).getD 0))) w):ao P N ops K (⟨some d,.lookup t m ix false,ty,pos,af,none⟩::rest) e w:=
 .look KT hR hx hy (by cases dS L x<;>rfl) hb hK
theorem Z3[bA P t (.map kt et)][bA P kt kd][bq P et (ak 0) 1 b](KT:tI kd kv){g:Nat}{L:List (κ×Int)}(x:κ)(hR:vJ w g (eC kv (Value.int .i64) L))(hx:ev e m= .map (some g))(hy:ev e ix=kv x)(hb:Nat.blt d N=true)(hK:ao P N ops K rest (bn e d (.tuple #[ak ((dS L x).getD 0),.bool (dS L x).isSome])) w):ao P N ops K (⟨some d,.lookup t m ix true,ty,pos,af,none⟩::rest) e w:=by
 refine .val (w':=w) ?_ hb hK;have:=Qh (P:=P) (t:=t) (x:=x) KT hR true;have e1:((dS L x).map (Value.int .i64)).getD (ak 0)=ak ((dS L x).getD 0):=by cases dS L x<;>rfl
 rw [e1]at this;simp [execOp,hx,hy,this]
theorem amt[hU:bA P t (.map kt et)][hk:bA P kt kd](KT:tI kd kv){g:Nat}{L:List (κ×ν)}(i:Nat)(x:κ)(u:ν)(hS:St w0 w ks)(hi:ks[i]?=some (fN T g (eC kv vv L))):
 ∃w',(Instr.mapUpdate t (.map (some g)) (kv x) (vv u)).run P w= .ok () w'/\St w0 w' (ks.set i (fN T g (eC kv vv (fj L x u)))):=by
 obtain⟨_,es,cl,hh,hm,o8⟩:=hS.Hd i hi;have hf:=IH (vv:=vv) KT x es.toList L 0 hm;have oZ:=MapKept.run_findKey (P:=P) (w:=w) hk.out hf;cases kW:lz L x with
 | none=>
  refine⟨{ w with heap:=w.heap.setIfInBounds g (.map (es.push ⟨kv x,vv u,cl⟩) (cl+1)) },?_,hS.E1 hi ?_ (WK o8 _ _)⟩
  ·simp [Instr.mapUpdate,run_underlying hU.out,MapKept.run_getObj_map hh,MapKept.run_checkKey hk.out (KT.isKey x),oZ,kW,MapKept.run_setObj_map _ hh,Result.andThen]
  ·rw [Mo kW];simp only [Array.toList_push,iI,hm,eC]
   rfl
 | some p=>
  obtain⟨j,v⟩:=p;obtain⟨h1,h2⟩:=Mp kW;have mn:j<L.length:=(gx.1 h1).1;have jw:es.toList.length=L.length:=by have:=aE List.length hm;simpa [eC]using this
  have hes:es.size=L.length:=by simpa using jw
  have u7:j<es.size:=by omega
  have NV:es[j].key=kv x:=by
   have:=aE (fun l=>l[j]?) hm;simp [eC,h1,u7]at this;exact this.1
  have av:=MapKept.run_keyThatStays (P:=P) (w:=w) (KT.isKey x);refine⟨{ w with heap:=w.heap.setIfInBounds g (.map (es.modify j fun e=> { e with key:=kv x,val:=vv u }) cl) },?_,hS.E1 hi ?_ (WJ o8 _ _ _)⟩
  ·simp [Instr.mapUpdate,run_underlying hU.out,MapKept.run_getObj_map hh,MapKept.run_checkKey hk.out (KT.isKey x),oZ,kW,MapKept.run_setObj_map _ hh,Result.andThen,u7,NV,av]
  ·rw [h2 u];apply List.ext_getElem?;intro q;have hq:=aE (fun l=>l[q]?) hm;simp only [eC,List.getElem?_map,Array.getElem?_toList]at hq;simp only [eC,List.getElem?_map,mR,Array.getElem?_toList,Array.getElem?_modify]
   by_cases e1:j=q
   ·subst e1;simp [u7,mn]
   ·rw [az e1,az e1];exact hq
def KU:Op->Option (ae×ag×ag×ag)
 | .mapUpdate t m k x=>some (t,m,k,x)
 | .insert t m k x=>some (t,m,k,x)
 | _=>none
theorem Di{op:Op}[hU:bA P t (.map kt et)][bA P kt kd](o4:KU op=some (t,m,k,x))(KT:tI kd kv){g:Nat}{L:List (κ×ν)}(i:Nat){a:κ}{u:ν}(hS:St w0 w ks)(hi:ks[i]?=some (fN T g (eC kv vv L)))(hm:ev e m= .map (some g))(hk:ev e k=kv a)(hx:ev e x=vv u)(hK:∀w',St w0 w' (ks.set i (fN T g (eC kv vv (fj L a u))))->ao P N ops K rest e w'):ao P N ops K (⟨none,op,ty,pos,af,none⟩::rest) e w:=by
 obtain⟨w',ko,kU⟩:=amt (P:=P) (t:=t) KT i a u hS hi;refine .unit (w':=w') ?_ (hK _ kU);cases op<;>simp [KU]at o4<;>obtain⟨rfl,rfl,rfl,rfl⟩:=o4<;>simp [execOp,hm,hk,hx,ko]
end
end
end Go.Proofs.YtkccgdhcpplblaaGreatDoor.Vc
