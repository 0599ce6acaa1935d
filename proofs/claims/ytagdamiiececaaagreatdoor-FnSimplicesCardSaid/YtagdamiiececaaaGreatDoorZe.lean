/-
 Lemmas. Conditions: as each states them.
-/
import Derived.Test.YtagdamiiececaaaGreatDoorZd
import Derived.MapKept
import Derived.Carry
set_option maxHeartbeats 8000000
namespace Go.Proofs.YtagdamiiececaaaGreatDoor.Vc
section
structure gF{α:Type}(N:Nat)(el:Nat->α->Prop)(le:α->α->Prop):Prop where
 one:∀ {i j:Nat} {a:α},el i a->el j a->i=j
 rf:∀a:α,le a a
 tr:∀ {i j k:Nat} {a b c:α},el i a->el j b->el k c->le a b->le b c->le a c
 st:∀ {i j:Nat} {a b:α},el i a->el j b->le a b->a=b\/i<j
 sU:∀ {i j:Nat} {a b:α},el i a->el j b->le a b->i+1<j->∃c,el (i+1) c/\le a c/\le c b
 nB:∀ {i:Nat} {a:α},el i a->i<=N
 bot:∃o,el 0 o/\∀(i:Nat) (a:α),el i a->le o a/\(i=0->a=o)
 top:∃t,el N t/\∀(i:Nat) (a:α),el i a->le a t/\(i=N->a=t)
section
variable{i j p q k:Nat}{S T:Nat->Prop}
variable {α:Type} {N:Nat} {el:Nat->α->Prop} {le:α->α->Prop}
def iN(el:Nat->α->Prop)(le:α->α->Prop)(i j:Nat)(z:Nat->α):Prop:=(∀k,i<=k->k<=j->el k (z k))/\∀k,i<=k->k<j->le (z k) (z (k+1))
theorem iN.wC(g:gF N el le){z:Nat->α}(h:iN el le i j z)(h1:i<=p)(h2:p<=q)(h3:q<=j):le (z p) (z q):=by
 induction q with
 | zero=>
  obtain rfl:p=0:=by omega
  exact g.rf _
 | succ q ih=>
  by_cases e:p=q+1
  ·subst e;exact g.rf _
  ·exact g.tr (h.1 p h1 (by omega)) (h.1 q (by omega) (by omega)) (h.1 (q+1) (by omega) h3) (ih (by omega) (by omega)) (h.2 q (by omega) (by omega))
theorem iN.sub{z:Nat->α}(h:iN el le i j z)(h1:i<=p)(h2:q<=j):iN el le p q z:=⟨fun k a b=>h.1 k (by omega) (by omega),fun k a b=>h.2 k (by omega) (by omega)⟩
def px(k:Nat)(z w:Nat->α)(p:Nat):α:=if p<=k then z p else w p
theorem pZ{z w:Nat->α}(h:p<=k):px k z w p=z p:=ay h
theorem vM{z w:Nat->α}(h:k<p):px k z w p=w p:=aw (by omega)
theorem JE{z w:Nat->α}(e:z k=w k)(h:k<=p):px k z w p=w p:=by
 by_cases h':p=k
 ·subst h';rw [pZ (bj _),e]
 exact vM (by omega)
theorem iN.glue{z w:Nat->α}(h1:iN el le i k z)(h2:iN el le k j w)(e:z k=w k):iN el le i j (px k z w):=by
 refine⟨fun p a b=>?_,fun p a b=>?_⟩
 ·by_cases h:p<=k
  ·rw [pZ h];exact h1.1 p a h
  rw [vM (by omega)];exact h2.1 p (by omega) b
 by_cases h:p<k
 ·rw [pZ (by omega),pZ (by omega)];exact h1.2 p a h
 rw [JE e (by omega),JE e (by omega)];exact h2.2 p (by omega) b
theorem gF.chain(g:gF N el le){a b:α}(ha:el i a)(hb:el j b)(h:le a b)(gU:i<=j):∃z,iN el le i j z/\z i=a/\z j=b:=by
 obtain⟨d,hd⟩:∃d,d=j - i:=⟨_,rfl⟩
 induction d generalizing i a with
 | zero=>
  obtain rfl:i=j:=by omega
  rcases g.st ha hb h with rfl | h
  ·refine⟨fun _=>a,⟨fun k h1 h2=>?_,fun k _ _=>g.rf _⟩,O,O⟩;have:k=i:=by omega
   rw [this];exact ha
  ·omega
 | succ d ih=>
  by_cases e:i+1=j
  ·subst e;refine⟨fun k=>if k=i then a else b,⟨fun k h1 h2=>?_,fun k h1 h2=>?_⟩,ay O,aw (by omega)⟩
   ·show el k (if k=i then a else b)
    split
    ·rename_i e;rw [e];exact ha
    ·obtain rfl:k=i+1:=by omega
     exact hb
   ·show le (if k=i then a else b) (if k+1=i then a else b);rw [ay (by omega),aw (by omega)];exact h
  ·obtain⟨c,hc,h1,h2⟩:=g.sU ha hb h (by omega);obtain⟨z,hz,e1,e2⟩:=ih hc h2 (by omega) (by omega);refine⟨fun k=>if k=i then a else z k,⟨fun k h3 h4=>?_,fun k h3 h4=>?_⟩,ay O,by show(if j=i then a else z j)=b;rw [aw (by omega)];exact e2⟩
   ·show el k (if k=i then a else z k)
    split
    ·rename_i e;rw [e];exact ha
    ·exact hz.1 k (by omega) h4
   ·show le (if k=i then a else z k) (if k+1=i then a else z (k+1));rw [aw (show ¬k+1=i by omega)]
    split
    ·rename_i e;subst e;rw [e1];exact h1
    ·exact hz.2 k (by omega) h4
inductive jc(el:Nat->α->Prop)(le:α->α->Prop)(i j:Nat)(S:Nat->Prop)(z:Nat->α):(Nat->α)->Prop where
 | same {y:Nat->α}:(∀k,i<=k->k<=j->z k=y k)->jc el le i j S z y
 | step {y y':Nat->α} (p:Nat):jc el le i j S z y->iN el le i j y->iN el le i j y'->i<p->p<j->¬S p->(∀k,i<=k->k<=j->k≠p->y k=y' k)->jc el le i j S z y'
theorem jc.eqv{z y y':Nat->α}(h:jc el le i j S z y)(e:∀k,i<=k->k<=j->y k=y' k):jc el le i j S z y':=by
 cases h with
 | same h=>exact .same fun k a b=> (h k a b).trans (e k a b)
 | step p h c c' h1 h2 h3 h4=>
  exact .step p h c ⟨fun k a b=>e k a b▸c'.1 k a b,fun k a b=>by rw [<-e k a (by omega),<-e (k+1) (by omega) b];exact c'.2 k a b⟩ h1 h2 h3 fun k a b n=> (h4 k a b n).trans (e k a b)
theorem jc.trans{z y x:Nat->α}(h:jc el le i j S z y)(h':jc el le i j S y x):jc el le i j S z x:=by
 induction h' with
 | same e=>exact h.eqv e
 | step p _ c c' h1 h2 h3 h4 ih=>exact .step p ih c c' h1 h2 h3 h4
theorem jc.mono{z y:Nat->α}(h:jc el le i j S z y)(hT:∀p,i<p->p<j->T p->S p):jc el le i j T z y:=by
 induction h with
 | same e=>exact .same e
 | step p _ c c' h1 h2 h3 h4 ih=>exact .step p ih c c' h1 h2 (fun ht=>h3 (hT p h1 h2 ht)) h4
theorem jc.keep{z y:Nat->α}(h:jc el le i j S z y)(h1:i<=k)(h2:k<=j)(hk:k<=i\/j<=k\/S k):z k=y k:=by
 induction h with
 | same e=>exact e k h1 h2
 | step p _ c c' h3 h4 h5 h6 ih=>exact ih.trans (h6 k h1 h2 (fun e=>by subst e;rcases hk with h | h | h<;>first | omega | exact h5 h))
theorem jc.lo{z y w:Nat->α}(h:jc el le i k S z y)(hz:iN el le i k z)(hw:iN el le k j w)(e:z k=w k)(mr:i<=k)(BX:k<=j):jc el le i j S (px k z w) (px k y w):=by
 induction h with
 | same e=>
  exact .same fun p a b=>by
   unfold px;split
   ·exact e p a (by assumption)
   ·rfl
 | @step y y' p hl c c' h1 h2 h3 h4 ih=>
  have e1:y k=w k:=(hl.keep mr (bj _) (.inr (.inl (bj _)))).symm.trans e;have e2:y' k=w k:=(h4 k mr (bj _) (by omega)).symm.trans e1;refine .step p ih (c.glue hw e1) (c'.glue hw e2) h1 (by omega) h3 fun q a b n=>?_
  unfold px;split
  ·exact h4 q a (by assumption) n
  ·rfl
theorem jc.hi{z w w':Nat->α}(h:jc el le k j S w w')(hz:iN el le i k z)(hw:iN el le k j w)(e:z k=w k)(mr:i<=k)(BX:k<=j):jc el le i j S (px k z w) (px k z w'):=by
 induction h with
 | same e=>
  exact .same fun p a b=>by
   unfold px;split
   ·rfl
   ·exact e p (by omega) b
 | @step y y' p hl c c' h1 h2 h3 h4 ih=>
  have e1:z k=y k:=e.trans (hl.keep (bj _) BX (.inl (bj _)));have e2:z k=y' k:=e1.trans (h4 k (bj _) BX (by omega));refine .step p ih (hz.glue c e1) (hz.glue c' e2) (by omega) h2 h3 fun q a b n=>?_
  unfold px;split
  ·rfl
  ·exact h4 q (by omega) b n
inductive gZ(el:Nat->α->Prop)(le:α->α->Prop)(i j:Nat)(a b:α)(p:Nat)(c:α):Nat->α->Prop where
 | refl:gZ el le i j a b p c p c
 | step {q r:Nat} {d e:α}:gZ el le i j a b p c q d->i<r->r<j->el r e->le a e->le e b->(le d e\/le e d)->gZ el le i j a b p c r e
def sN(el:Nat->α->Prop)(le:α->α->Prop)(i j:Nat)(a b:α)(p:Nat)(c:α):Prop:=i<p/\p<j/\el p c/\le a c/\le c b
def mg(el:Nat->α->Prop)(le:α->α->Prop):Prop:=∀(i j:Nat) (a b:α),el i a->el j b->le a b->i+3<=j->∀(p q:Nat) (c d:α),sN el le i j a b p c->sN el le i j a b q d->gZ el le i j a b p c q d
theorem Ws(g:gF N el le)(hc:mg el le):∀(m i j:Nat),j - i<=m->i<=j->∀z y:Nat->α,iN el le i j z->iN el le i j y->z i=y i->z j=y j->jc el le i j (fun k=>z k=y k) z y:=by
 intro m
 induction m with
 | zero=>
  intro i j hm gU z y _ _ e1 _;exact .same fun k a b=>by
   obtain rfl:k=i:=by omega
   exact e1
 | succ m ih=>
  intro i j hm gU z y hz hy e1 e2;have split:∀z y:Nat->α,iN el le i j z->iN el le i j y->z i=y i->z j=y j->∀k,i<k->k<j->z k=y k->jc el le i j (fun k=>z k=y k) z y:=by
   intro z y hz hy e1 e2 k h1 h2 ek;have l1:=ih i k (by omega) (by omega) z y (hz.sub (bj _) (by omega)) (hy.sub (bj _) (by omega)) e1 ek;have l2:=ih k j (by omega) (by omega) z y (hz.sub (by omega) (bj _)) (hy.sub (by omega) (bj _)) ek e2;have a1:=l1.lo (w:=z) (hz.sub (bj _) (by omega)) (hz.sub (by omega) (bj _)) O (by omega) (by omega);have a2:=l2.hi (z:=y) (hy.sub (bj _) (by omega)) (hz.sub (by omega) (bj _)) ek.symm (by omega) (by omega);refine(jc.trans (.same fun p _ _=>?_) (a1.trans a2)).eqv fun p _ _=>?_
   ·unfold px;split<;>rfl
   ·unfold px;split<;>rfl
  by_cases hk:∃k,i<k/\k<j/\z k=y k
  ·obtain⟨k,h1,h2,h3⟩:=hk;exact split z y hz hy e1 e2 k h1 h2 h3
  have bt:∀p,i<p->p<j->¬z p=y p:=fun p h1 h2 h=>hk ⟨p,h1,h2,h⟩
  by_cases hs:j<=i+1
  ·exact .same fun k a b=>by
    rcases(show k=i\/k=j by omega)with rfl | rfl
    ·exact e1
    ·exact e2
  by_cases nS:j=i+2
  ·subst nS;refine .step (i+1) (.same fun _ _ _=>O) hz hy (by omega) (by omega) (bt _ (by omega) (by omega)) fun k a b n=>?_
   rcases(show k=i\/k=i+2 by omega)with rfl | rfl
   ·exact e1
   ·exact e2
  have hb:=fun(w:Nat->α) (hw:iN el le i j w) (f1:z i=w i) (f2:z j=w j)=> (⟨by omega,by omega,hw.1 _ (by omega) (by omega),f1▸hw.wC g (bj _) (by omega) (by omega),f2▸hw.wC g (by omega) (by omega) (bj _)⟩:sN el le i j (z i) (z j) (i+1) (w (i+1)))
  have xE:=hc i j (z i) (z j) (hz.1 i (bj _) gU) (hz.1 j gU (bj _)) (hz.wC g (bj _) gU (bj _)) (by omega) _ _ _ _ (hb z hz O O) (hb y hy e1 e2);have key:∀(q:Nat) (d:α),gZ el le i j (z i) (z j) (i+1) (z (i+1)) q d->sN el le i j (z i) (z j) q d/\∀x,iN el le i j x->z i=x i->z j=x j->x q=d->jc el le i j (fun _=>False) z x:=by
   intro q d h
   induction h with
   | refl=>exact⟨hb z hz rfl rfl,fun x hx f1 f2 f3=> (split z x hz hx f1 f2 (i+1) (by omega) (by omega) f3.symm).mono fun _ _ _ h=>h.elim⟩
   | @step q r d e _ h1 h2 h3 h4 h5 h6 ihc=>
    obtain⟨⟨q1,q2,q3,q4,q5⟩,Lr⟩:=ihc;refine⟨⟨h1,h2,h3,h4,h5⟩,fun x hx f1 f2 f3=>?_⟩;have hzi:=hz.1 i (bj _) gU;have hzj:=hz.1 j gU (bj _);have fin:∀w,iN el le i j w->z i=w i->z j=w j->w q=d->w r=e->jc el le i j (fun _=>False) z x:=fun w hw g1 g2 g3 g4=>
     (Lr w hw g1 g2 g3).trans ((split w x hw hx (g1.symm.trans f1) (g2.symm.trans f2) r h1 h2 (g4.trans f3.symm)).mono fun _ _ _ h=>h.elim)
    have mk:∀(u v:Nat) (s t:α),i<u->u<v->v<j->el u s->el v t->le (z i) s->le s t->le t (z j)->∃w,iN el le i j w/\z i=w i/\z j=w j/\w u=s/\w v=t:=by
     intro u v s t k1 k2 k3 k4 k5 k6 k7 k8;obtain⟨w1,c1,a1,b1⟩:=g.chain hzi k4 k6 (by omega);obtain⟨w2,c2,a2,b2⟩:=g.chain k4 k5 k7 (by omega);obtain⟨w3,c3,a3,b3⟩:=g.chain k5 hzj k8 (by omega);refine⟨px v (px u w1 w2) w3,(c1.glue c2 (b1.trans a2.symm)).glue c3 (by rw [vM k2,b2,a3]),?_,?_,?_,?_⟩
     ·rw [pZ (by omega),pZ (by omega),a1]
     ·rw [vM k3,b3]
     ·rw [pZ (by omega),pZ (bj _),b1]
     ·rw [pZ (bj _),vM k2,b2]
    rcases h6 with h6 | h6
    ·rcases g.st q3 h3 h6 with e' | e'
     ·subst e';obtain rfl:=g.one q3 h3;exact Lr x hx f1 f2 f3
     ·obtain⟨w,hw,g1,g2,g3,g4⟩:=mk q r d e q1 e' h2 q3 h3 q4 h6 h5;exact fin w hw g1 g2 g3 g4
    ·rcases g.st h3 q3 h6 with e' | e'
     ·subst e';obtain rfl:=g.one q3 h3;exact Lr x hx f1 f2 f3
     ·obtain⟨w,hw,g1,g2,g3,g4⟩:=mk r q e d h1 e' q2 h3 q3 h4 h6 q5;exact fin w hw g1 g2 g4 g3
  exact((key _ _ xE).2 y hy e1 e2 O).mono fun p h1 h2 h=>bt p h1 h2 h
end
section
variable{p q:Nat}
variable {α:Type} {el:Nat->α->Prop} {le:α->α->Prop} {i j:Nat} {a b:α}
theorem gZ.end_{c d:α}(h:gZ el le i j a b p c q d)(hp:sN el le i j a b p c):sN el le i j a b q d:=by
 cases h with
 | refl=>exact hp
 | step _ h1 h2 h3 h4 h5 _=>exact⟨h1,h2,h3,h4,h5⟩
theorem gZ.trans{r:Nat}{c d e:α}(h:gZ el le i j a b p c q d)(h':gZ el le i j a b q d r e):gZ el le i j a b p c r e:=by
 induction h' with
 | refl=>exact h
 | step _ h1 h2 h3 h4 h5 h6 ih=>exact .step ih h1 h2 h3 h4 h5 h6
theorem gZ.one{c d:α}(hq:sN el le i j a b q d)(h:le c d\/le d c):gZ el le i j a b p c q d:= .step .refl hq.1 hq.2.1 hq.2.2.1 hq.2.2.2.1 hq.2.2.2.2 h
theorem gZ.symm{c d:α}(hp:sN el le i j a b p c)(h:gZ el le i j a b p c q d):gZ el le i j a b q d p c:=by
 induction h with
 | refl=>exact .refl
 | step h0 h1 h2 h3 h4 h5 h6 ih=>exact(gZ.one (h0.end_ hp) h6.symm).trans ih
end
section
variable {α β:Type} {N1 N2:Nat} {dv:Nat->α->Prop} {eh:α->α->Prop} {dw:Nat->β->Prop} {eo:β->β->Prop}
def nj(eh:α->α->Prop)(eo:β->β->Prop)(c d:α×β):Prop:=eh c.1 d.1/\eo c.2 d.2
structure zY(dv:Nat->α->Prop)(eh:α->α->Prop)(dw:Nat->β->Prop)(eo:β->β->Prop)(a1 b1:α)(a2 b2:β)(i j:Nat)(c1:α)(c2:β):Prop where
 e1:dv i c1
 e2:dw j c2
 l1:eh a1 c1
 m1:eh c1 b1
 l2:eo a2 c2
 m2:eo c2 b2
theorem NF(g1:gF N1 dv eh)(g2:gF N2 dw eo)(u9:mg dv eh)(lD:mg dw eo){el:Nat->α×β->Prop}{s i0 j0 i1 j1:Nat}{a1 b1:α}{a2 b2:β}
 (gN:dv i0 a1) (gH:dw j0 a2) (dd:dv i1 b1) (dS:dw j1 b2) (h1:eh a1 b1) (h2:eo a2 b2) (hs:s<=i0+j0) (h3:i0+j0+3<=i1+j1)
 (jv:∀i j c1 c2,dv i c1->dw j c2->eh a1 c1->eo a2 c2->el (i+j - s) (c1,c2))
 {i j k l:Nat} {c1 d1:α} {c2 d2:β} (hc:zY dv eh dw eo a1 b1 a2 b2 i j c1 c2) (hd:zY dv eh dw eo a1 b1 a2 b2 k l d1 d2)
 (GF:i0+j0<i+j/\i+j<i1+j1) (BJ:i0+j0<k+l/\k+l<i1+j1):
 gZ el (nj eh eo) (i0+j0 - s) (i1+j1 - s) (a1,a2) (b1,b2) (i+j - s) (c1,c2) (k+l - s) (d1,d2):=by
 have my:∀ {i j:Nat} {c1:α} {c2:β},zY dv eh dw eo a1 b1 a2 b2 i j c1 c2->i0+j0<i+j->i+j<i1+j1->sN el (nj eh eo) (i0+j0 - s) (i1+j1 - s) (a1,a2) (b1,b2) (i+j - s) (c1,c2):=fun h p q=> ⟨by omega,by omega,jv _ _ _ _ h.e1 h.e2 h.l1 h.l2,⟨h.l1,h.l2⟩,⟨h.m1,h.m2⟩⟩
 have LK:∀ {i:Nat} {c:α},dv i c->eh a1 c->eh c b1->(i0<=i/\i<=i1)/\(i=i1->c=b1)/\(i=i0->c=a1):=fun {i c} he h h'=>by
  rcases g1.st gN he h with e | e<;>rcases g1.st he dd h' with e' | e'
  ·subst e;subst e';have:=g1.one he gN;have:=g1.one he dd;exact⟨by omega,fun _=>rfl,fun _=>rfl⟩
  ·subst e;have:=g1.one he gN;exact⟨by omega,by omega,fun _=>rfl⟩
  ·subst e';have:=g1.one he dd;exact⟨by omega,fun _=>rfl,by omega⟩
  ·exact⟨by omega,by omega,by omega⟩
 have LL:∀ {i:Nat} {c:β},dw i c->eo a2 c->eo c b2->(j0<=i/\i<=j1)/\(i=j1->c=b2)/\(i=j0->c=a2):=fun {i c} he h h'=>by
  rcases g2.st gH he h with e | e<;>rcases g2.st he dS h' with e' | e'
  ·subst e;subst e';have:=g2.one he gH;have:=g2.one he dS;exact⟨by omega,fun _=>rfl,fun _=>rfl⟩
  ·subst e;have:=g2.one he gH;exact⟨by omega,by omega,fun _=>rfl⟩
  ·subst e';have:=g2.one he dS;exact⟨by omega,fun _=>rfl,by omega⟩
  ·exact⟨by omega,by omega,by omega⟩
 have h01:=(LK dd h1 (g1.rf _)).1;have h02:=(LL dS h2 (g2.rf _)).1
 by_cases q1:i0=i1
 ·-- the first part stands still
  have e1:∀ {i:Nat} {c:α},dv i c->eh a1 c->eh c b1->c=a1/\i=i0:=fun he h h'=>by
   have:=LK he h h';exact⟨this.2.2 (by omega),by omega⟩
  obtain⟨rfl,rfl⟩:=e1 hc.e1 hc.l1 hc.m1;obtain⟨rfl,rfl⟩:=e1 hd.e1 hd.l1 hd.m1;have key:=lD j0 j1 a2 b2 gH dS h2 (by omega) j l c2 d2 ⟨by omega,by omega,hc.e2,hc.l2,hc.m2⟩ ⟨by omega,by omega,hd.e2,hd.l2,hd.m2⟩;clear hd BJ
  induction key with
  | refl=>exact .refl
  | step _ k1 k2 k3 k4 k5 k6 ih=>
   refine ih.trans (.one (my ⟨hc.e1,k3,hc.l1,hc.m1,k4,k5⟩ (by omega) (by omega)) ?_);exact k6.imp (fun h=> ⟨g1.rf _,h⟩) (fun h=> ⟨g1.rf _,h⟩)
 by_cases q2:j0=j1
 ·have e2:∀ {i:Nat} {c:β},dw i c->eo a2 c->eo c b2->c=a2/\i=j0:=fun he h h'=>by
   have:=LL he h h';exact⟨this.2.2 (by omega),by omega⟩
  obtain⟨rfl,rfl⟩:=e2 hc.e2 hc.l2 hc.m2;obtain⟨rfl,rfl⟩:=e2 hd.e2 hd.l2 hd.m2;have key:=u9 i0 i1 a1 b1 gN dd h1 (by omega) i k c1 d1 ⟨by omega,by omega,hc.e1,hc.l1,hc.m1⟩ ⟨by omega,by omega,hd.e1,hd.l1,hd.m1⟩;clear hd BJ
  induction key with
  | refl=>exact .refl
  | step _ k1 k2 k3 k4 k5 k6 ih=>
   refine ih.trans (.one (my ⟨k3,hc.e2,k4,k5,hc.l2,hc.m2⟩ (by omega) (by omega)) ?_);exact k6.imp (fun h=> ⟨h,g2.rf _⟩) (fun h=> ⟨h,g2.rf _⟩)
 have bu:zY dv eh dw eo a1 b1 a2 b2 i0 j1 a1 b2:=⟨gN,dS,g1.rf _,h1,h2,g2.rf _⟩;have bv:zY dv eh dw eo a1 b1 a2 b2 i1 j0 b1 a2:=⟨dd,gH,h1,g1.rf _,g2.rf _,h2⟩;have iu:=my bu (by omega) (by omega);have iv:=my bv (by omega) (by omega);have uv:gZ el (nj eh eo) (i0+j0 - s) (i1+j1 - s) (a1,a2) (b1,b2) (i0+j1 - s) (a1,b2) (i1+j0 - s) (b1,a2):=by
  by_cases q3:i0+1<i1
  ·obtain⟨x,hx,x1,x2⟩:=g1.sU gN dd h1 q3;refine(gZ.one (c:=(a1,b2)) (my (i:=i0+1) (j:=j1) (c1:=x) (c2:=b2) ⟨hx,dS,x1,x2,h2,g2.rf _⟩ (by omega) (by omega)) (.inl ⟨x1,g2.rf _⟩)).trans ((gZ.one (c:=(x,b2)) (my (i:=i0+1) (j:=j0) (c1:=x) (c2:=a2) ⟨hx,gH,x1,x2,g2.rf _,h2⟩ (by omega) (by omega)) (.inr ⟨g1.rf _,h2⟩)).trans ?_);exact .one iv (.inl ⟨x2,g2.rf _⟩)
  ·obtain⟨x,hx,x1,x2⟩:=g2.sU gH dS h2 (by omega);refine(gZ.one (c:=(a1,b2)) (my (i:=i0) (j:=j0+1) (c1:=a1) (c2:=x) ⟨gN,hx,g1.rf _,h1,x1,x2⟩ (by omega) (by omega)) (.inr ⟨g1.rf _,x2⟩)).trans ((gZ.one (c:=(a1,x)) (my (i:=i1) (j:=j0+1) (c1:=b1) (c2:=x) ⟨dd,hx,h1,g1.rf _,x1,x2⟩ (by omega) (by omega)) (.inl ⟨h1,g2.rf _⟩)).trans ?_);exact .one iv (.inr ⟨g1.rf _,x1⟩)
 have Ua:∀ {i j:Nat} {c1:α} {c2:β},zY dv eh dw eo a1 b1 a2 b2 i j c1 c2->i0+j0<i+j->i+j<i1+j1->gZ el (nj eh eo) (i0+j0 - s) (i1+j1 - s) (a1,a2) (b1,b2) (i+j - s) (c1,c2) (i0+j1 - s) (a1,b2):=fun {i j c1 c2} h p q=>by
  have f1:=LK h.e1 h.l1 h.m1;have f2:=LL h.e2 h.l2 h.m2
  by_cases q4:i<i1
  ·exact(gZ.one (c:=(c1,c2)) (my (i:=i) (j:=j1) (c1:=c1) (c2:=b2) ⟨h.e1,dS,h.l1,h.m1,h2,g2.rf _⟩ (by omega) (by omega)) (.inl ⟨g1.rf _,h.m2⟩)).trans (gZ.one (c:=(c1,b2)) iu (.inr ⟨h.l1,g2.rf _⟩))
  ·have:c1=b1:=f1.2.1 (by omega);subst this;exact(gZ.one (c:=(c1,c2)) iv (.inr ⟨g1.rf _,h.l2⟩)).trans (uv.symm iu)
 exact(Ua hc GF.1 GF.2).trans ((Ua hd BJ.1 BJ.2).symm (my hd BJ.1 BJ.2))
def FX(dv:Nat->α->Prop)(dw:Nat->β->Prop)(p:Nat)(c:α×β):Prop:=∃i j,dv i c.1/\dw j c.2/\p=i+j
theorem RU(g1:gF N1 dv eh)(g2:gF N2 dw eo):gF (N1+N2) (FX dv dw) (nj eh eo) where
 one:=fun⟨i,j,a,b,e⟩ ⟨i',j',a',b',e'⟩=>by have:=g1.one a a';have:=g2.one b b';omega
 rf:=fun c=> ⟨g1.rf _,g2.rf _⟩
 tr:=fun⟨_,_,a,b,_⟩ ⟨_,_,a',b',_⟩ ⟨_,_,IB,IM,_⟩ h h'=> ⟨g1.tr a a' IB h.1 h'.1,g2.tr b b' IM h.2 h'.2⟩
 st:=fun {_ _ c d} ⟨i,j,a,b,e⟩ ⟨i',j',a',b',e'⟩ h=>by
  rcases g1.st a a' h.1 with h1 | h1<;>rcases g2.st b b' h.2 with h2 | h2
  ·exact .inl (Prod.ext h1 h2)
  ·rw [<-h1]at a';have:=g1.one a a';exact .inr (by omega)
  ·rw [<-h2]at b';have:=g2.one b b';exact .inr (by omega)
  exact .inr (by omega)
 sU:=fun {p q c d} ⟨i,j,a,b,e⟩ ⟨i',j',a',b',e'⟩ h sl=>by
  have k1:i<=i'/\(i=i'->c.1=d.1):=by
   rcases g1.st a a' h.1 with h1 | h1
   ·rw [<-h1]at a';have:=g1.one a a';exact⟨by omega,fun _=>h1⟩
   exact⟨by omega,by omega⟩
  have k2:j<=j'/\(j=j'->c.2=d.2):=by
   rcases g2.st b b' h.2 with h1 | h1
   ·rw [<-h1]at b';have:=g2.one b b';exact⟨by omega,fun _=>h1⟩
   exact⟨by omega,by omega⟩
  by_cases q1:i+1<i'
  ·obtain⟨x,hx,x1,x2⟩:=g1.sU a a' h.1 q1;exact⟨(x,c.2),⟨i+1,j,hx,b,by omega⟩,⟨x1,g2.rf _⟩,⟨x2,h.2⟩⟩
  by_cases q2:i+1=i'
  ·exact⟨(d.1,c.2),⟨i',j,a',b,by omega⟩,⟨h.1,g2.rf _⟩,⟨g1.rf _,h.2⟩⟩
  obtain⟨x,hx,x1,x2⟩:=g2.sU b b' h.2 (by omega);exact⟨(c.1,x),⟨i,j+1,a,hx,by omega⟩,⟨g1.rf _,x1⟩,⟨h.1,x2⟩⟩
 nB:=fun⟨i,j,a,b,e⟩=>by have:=g1.nB a;have:=g2.nB b;omega
 bot:=by
  obtain⟨o1,h1,k1⟩:=g1.bot;obtain⟨o2,h2,k2⟩:=g2.bot;exact⟨(o1,o2),⟨0,0,h1,h2,O⟩,fun p c ⟨i,j,a,b,e⟩=> ⟨⟨(k1 i _ a).1,(k2 j _ b).1⟩,fun hp=>Prod.ext ((k1 i _ a).2 (by omega)) ((k2 j _ b).2 (by omega))⟩⟩
 top:=by
  obtain⟨o1,h1,k1⟩:=g1.top;obtain⟨o2,h2,k2⟩:=g2.top;refine⟨(o1,o2),⟨N1,N2,h1,h2,O⟩,fun p c ⟨i,j,a,b,e⟩=> ⟨⟨(k1 i _ a).1,(k2 j _ b).1⟩,fun hp=>?_⟩⟩;have:=g1.nB a;have:=g2.nB b;exact Prod.ext ((k1 i _ a).2 (by omega)) ((k2 j _ b).2 (by omega))
theorem acH(g1:gF N1 dv eh)(g2:gF N2 dw eo)(u9:mg dv eh)(lD:mg dw eo):mg (FX dv dw) (nj eh eo):=by
 rintro p q ⟨a1,a2⟩ ⟨b1,b2⟩ ⟨i0,j0,gN,gH,rfl⟩ ⟨i1,j1,dd,dS,rfl⟩ h sl r t ⟨c1,c2⟩ ⟨d1,d2⟩ ⟨c3,c4,⟨i,j,hc,o3,rfl⟩,c5,c6⟩ ⟨d3,d4,⟨k,l,hd,nM,rfl⟩,d5,d6⟩;exact NF (s:=0) g1 g2 u9 lD gN gH dd dS h.1 h.2 (a7 _) sl (fun i j x y hx hy _ _=> ⟨i,j,hx,hy,O⟩) ⟨hc,o3,c5.1,c6.1,c5.2,c6.2⟩ ⟨hd,nM,d5.1,d6.1,d5.2,d6.2⟩ ⟨c3,c4⟩ ⟨d3,d4⟩
end
section
variable {α β:Type} {N N1 N2:Nat} {el:Nat->α->Prop} {le:α->α->Prop} {dv:Nat->α->Prop} {eh:α->α->Prop} {dw:Nat->β->Prop} {eo:β->β->Prop}
theorem gF.lv(g:gF N el le){i j:Nat}{a b:α}(ha:el i a)(hb:el j b)(h:le a b):i<=j/\(i=j->a=b):=by
 rcases g.st ha hb h with e | e
 ·subst e;have:=g.one ha hb;exact⟨by omega,fun _=>rfl⟩
 exact⟨by omega,by omega⟩
theorem gF.H9(g:gF N el le){k:Nat}{d:α}(hd:el k d)(hk:1<=k):∃v,el 1 v/\le v d:=by
 by_cases e:k=1
 ·subst e;exact⟨d,hd,g.rf _⟩
 obtain⟨o,ho,h⟩:=g.bot;obtain⟨c,hc,_,h2⟩:=g.sU ho hd (h k d hd).1 (by omega);exact⟨c,hc,h2⟩
def tS(dv:Nat->α->Prop)(dw:Nat->β->Prop)(p:Nat)(c:α×β):Prop:=(p=0/\dv 0 c.1/\dw 0 c.2)\/∃i j,1<=i/\1<=j/\dv i c.1/\dw j c.2/\p+1=i+j
theorem FG(g1:gF N1 dv eh)(g2:gF N2 dw eo)(n1:1<=N1)(n2:1<=N2):gF (N1+N2 - 1) (tS dv dw) (nj eh eo) where
 one:=by
  rintro p q c (⟨e,a,b⟩ | ⟨i,j,hi,hj,a,b,e⟩) (⟨e',a',b'⟩ | ⟨i',j',bX,im,a',b',e'⟩)
  ·omega
  ·have:=g1.one a a';omega
  ·have:=g1.one a a';omega
  have:=g1.one a a';have:=g2.one b b';omega
 rf:=fun c=> ⟨g1.rf _,g2.rf _⟩
 tr:=by
  have key:∀ {p:Nat} {c:α×β},tS dv dw p c->∃i j,dv i c.1/\dw j c.2:=by
   rintro p c (⟨e,a,b⟩ | ⟨i,j,hi,hj,a,b,e⟩)
   ·exact⟨0,0,a,b⟩
   exact⟨i,j,a,b⟩
  intro p q r c d e h h' vN l l';obtain⟨_,_,a,b⟩:=key h;obtain⟨_,_,a',b'⟩:=key h';obtain⟨_,_,IB,IM⟩:=key vN;exact⟨g1.tr a a' IB l.1 l'.1,g2.tr b b' IM l.2 l'.2⟩
 st:=by
  rintro p q c d (⟨e,a,b⟩ | ⟨i,j,hi,hj,a,b,e⟩) (⟨e',a',b'⟩ | ⟨i',j',bX,im,a',b',e'⟩) h
  ·exact .inl (Prod.ext ((g1.lv a a' h.1).2 O) ((g2.lv b b' h.2).2 O))
  ·exact .inr (by omega)
  ·have:=(g1.lv a a' h.1).1;omega
  have h1:=g1.lv a a' h.1;have h2:=g2.lv b b' h.2
  by_cases q:i=i'/\j=j'
  ·exact .inl (Prod.ext (h1.2 q.1) (h2.2 q.2))
  exact .inr (by omega)
 sU:=by
  rintro p q c d (⟨e,a,b⟩ | ⟨i,j,hi,hj,a,b,e⟩) (⟨e',a',b'⟩ | ⟨i',j',bX,im,a',b',e'⟩) h sl
  ·omega
  ·obtain⟨v,hv,lv⟩:=g1.H9 a' bX;obtain⟨w,hw,lw⟩:=g2.H9 b' im;obtain⟨o1,h1,k1⟩:=g1.bot;obtain⟨o2,h2,k2⟩:=g2.bot;have e1:=(k1 0 _ a).2 O;have e2:=(k2 0 _ b).2 O;exact⟨(v,w),.inr ⟨1,1,by omega,by omega,hv,hw,by omega⟩,⟨by rw [e1];exact(k1 1 v hv).1,by rw [e2];exact(k2 1 w hw).1⟩,⟨lv,lw⟩⟩
  ·omega
  have h1:=g1.lv a a' h.1;have h2:=g2.lv b b' h.2
  by_cases q1:i+1<i'
  ·obtain⟨x,hx,x1,x2⟩:=g1.sU a a' h.1 q1;exact⟨(x,c.2),.inr ⟨i+1,j,by omega,hj,hx,b,by omega⟩,⟨x1,g2.rf _⟩,⟨x2,h.2⟩⟩
  by_cases q2:i+1=i'
  ·exact⟨(d.1,c.2),.inr ⟨i',j,bX,hj,a',b,by omega⟩,⟨h.1,g2.rf _⟩,⟨g1.rf _,h.2⟩⟩
  obtain⟨x,hx,x1,x2⟩:=g2.sU b b' h.2 (by omega);exact⟨(c.1,x),.inr ⟨i,j+1,hi,by omega,a,hx,by omega⟩,⟨g1.rf _,x1⟩,⟨h.1,x2⟩⟩
 nB:=by
  rintro p c (⟨e,a,b⟩ | ⟨i,j,hi,hj,a,b,e⟩)
  ·omega
  have:=g1.nB a;have:=g2.nB b;omega
 bot:=by
  obtain⟨o1,h1,k1⟩:=g1.bot;obtain⟨o2,h2,k2⟩:=g2.bot;refine⟨(o1,o2),.inl ⟨O,h1,h2⟩,?_⟩;rintro p c (⟨e,a,b⟩ | ⟨i,j,hi,hj,a,b,e⟩)
  ·exact⟨⟨(k1 _ _ a).1,(k2 _ _ b).1⟩,fun _=>Prod.ext ((k1 _ _ a).2 O) ((k2 _ _ b).2 O)⟩
  exact⟨⟨(k1 _ _ a).1,(k2 _ _ b).1⟩,by omega⟩
 top:=by
  obtain⟨o1,h1,k1⟩:=g1.top;obtain⟨o2,h2,k2⟩:=g2.top;refine⟨(o1,o2),.inr ⟨N1,N2,n1,n2,h1,h2,by omega⟩,?_⟩;rintro p c (⟨e,a,b⟩ | ⟨i,j,hi,hj,a,b,e⟩)
  ·exact⟨⟨(k1 _ _ a).1,(k2 _ _ b).1⟩,by omega⟩
  have:=g1.nB a;have:=g2.nB b;exact⟨⟨(k1 _ _ a).1,(k2 _ _ b).1⟩,fun _=>Prod.ext ((k1 _ _ a).2 (by omega)) ((k2 _ _ b).2 (by omega))⟩
theorem NK(g1:gF N1 dv eh)(g2:gF N2 dw eo)(u9:mg dv eh)(lD:mg dw eo):mg (tS dv dw) (nj eh eo):=by
 rintro p q ⟨a1,a2⟩ ⟨b1,b2⟩ ha hb h sl r t ⟨c1,c2⟩ ⟨d1,d2⟩ ⟨c3,c4,hc,c5,c6⟩ ⟨d3,d4,hd,d5,d6⟩;rcases hb with⟨e,_,_⟩ | ⟨i1,j1,kj,D5,dd,dS,e⟩
 ·omega
 rcases hc with⟨e2,_,_⟩ | ⟨i,j,hi,hj,hc,o3,e2⟩
 ·omega
 rcases hd with⟨e3,_,_⟩ | ⟨k,l,hk,hl,hd,nM,e3⟩
 ·omega
 obtain rfl:q=i1+j1 - 1:=by omega
 obtain rfl:r=i+j - 1:=by omega
 obtain rfl:t=k+l - 1:=by omega
 rcases ha with⟨e1,gN,gH⟩ | ⟨i0,j0,eK,QC,gN,gH,e1⟩
 ·subst e1;replace gN:dv 0 a1:=gN;replace gH:dw 0 a2:=gH;replace dd:dv i1 b1:=dd;replace dS:dw j1 b2:=dS;replace hc:dv i c1:=hc;replace o3:dw j c2:=o3;replace hd:dv k d1:=hd;replace nM:dw l d2:=nM;obtain⟨o1,tk,k1⟩:=g1.bot;obtain⟨o2,zo,k2⟩:=g2.bot;have x1:=(k1 0 _ gN).2 O;have x2:=(k2 0 _ gH).2 O;subst x1;subst x2;have my:∀ {i j:Nat} {c1:α} {c2:β},1<=i->1<=j->dv i c1->dw j c2->eh c1 b1->eo c2 b2->i+j<i1+j1->sN (tS dv dw) (nj eh eo) 0 (i1+j1 - 1) (a1,a2) (b1,b2) (i+j - 1) (c1,c2):=fun hi hj h h' l l' hs=> ⟨by omega,by omega,.inr ⟨_,_,hi,hj,h,h',by omega⟩,⟨(k1 _ _ h).1,(k2 _ _ h').1⟩,⟨l,l'⟩⟩
  by_cases q1:i1=1
  ·have f:∀ {i:Nat} {c:α},1<=i->dv i c->eh c b1->c=b1/\i=1:=fun hi h h'=>by
    have:=g1.lv h dd h';exact⟨this.2 (by omega),by omega⟩
   obtain⟨rfl,rfl⟩:=f hi hc c6.1;obtain⟨rfl,rfl⟩:=f hk hd d6.1;have key:=lD 0 j1 a2 b2 gH dS (k2 _ _ dS).1 (by omega) j l c2 d2 ⟨by omega,by omega,o3,(k2 _ _ o3).1,c6.2⟩ ⟨by omega,by omega,nM,(k2 _ _ nM).1,d6.2⟩;clear hd nM d3 d4 d5 d6 hl e3
   induction key with
   | refl=>exact .refl
   | step _ y1 y2 y3 y4 y5 y6 ih=>
    refine ih.trans (.one (my (by omega) (by omega) hc y3 c6.1 y5 (by omega)) ?_);exact y6.imp (fun h=> ⟨g1.rf _,h⟩) (fun h=> ⟨g1.rf _,h⟩)
  by_cases q2:j1=1
  ·have f:∀ {i:Nat} {c:β},1<=i->dw i c->eo c b2->c=b2/\i=1:=fun hi h h'=>by
    have:=g2.lv h dS h';exact⟨this.2 (by omega),by omega⟩
   obtain⟨rfl,rfl⟩:=f hj o3 c6.2;obtain⟨rfl,rfl⟩:=f hl nM d6.2;have key:=u9 0 i1 a1 b1 gN dd (k1 _ _ dd).1 (by omega) i k c1 d1 ⟨by omega,by omega,hc,(k1 _ _ hc).1,c6.1⟩ ⟨by omega,by omega,hd,(k1 _ _ hd).1,d6.1⟩;clear hd nM d3 d4 d5 d6 hk e3
   induction key with
   | refl=>exact .refl
   | step _ y1 y2 y3 y4 y5 y6 ih=>
    refine ih.trans (.one (my (by omega) (by omega) y3 o3 y5 c6.2 (by omega)) ?_);exact y6.imp (fun h=> ⟨h,g2.rf _⟩) (fun h=> ⟨h,g2.rf _⟩)
  obtain⟨v0,Rw,LJ⟩:=g1.H9 dd kj;obtain⟨w0,Hk,LM⟩:=g2.H9 dS D5;have it:=my kj (bj 1) dd Hk (g1.rf _) LM (by omega);have T8:∀ {i j:Nat} {c1:α} {c2:β},1<=i->1<=j->dv i c1->dw j c2->eh c1 b1->eo c2 b2->i<i1->gZ (tS dv dw) (nj eh eo) 0 (i1+j1 - 1) (a1,a2) (b1,b2) (i+j - 1) (c1,c2) (i1+1 - 1) (b1,w0):=fun {i j c1 c2} hi hj h h' l l' hs=>by
   refine(gZ.one (c:=(c1,c2)) (my hi D5 h dS l (g2.rf _) (by omega)) (.inl ⟨g1.rf _,l'⟩)).trans ((gZ.one (c:=(c1,b2)) (my hi (bj 1) h Hk l LM (by omega)) (.inr ⟨g1.rf _,LM⟩)).trans ?_);exact gZ.one (c:=(c1,w0)) it (.inl ⟨l,g2.rf _⟩)
  have T9:∀ {i j:Nat} {c1:α} {c2:β},1<=i->1<=j->dv i c1->dw j c2->eh c1 b1->eo c2 b2->i+j<i1+j1->gZ (tS dv dw) (nj eh eo) 0 (i1+j1 - 1) (a1,a2) (b1,b2) (i+j - 1) (c1,c2) (i1+1 - 1) (b1,w0):=fun {i j c1 c2} hi hj h h' l l' hs=>by
   have g:=g1.lv h dd l
   by_cases q:i<i1
   ·exact T8 hi hj h h' l l' q
   ·have:c1=b1:=g.2 (by omega);subst this;refine(gZ.one (c:=(c1,c2)) (my (bj 1) hj Rw h' LJ l' (by omega)) (.inr ⟨LJ,g2.rf _⟩)).trans ?_;exact T8 (bj 1) hj Rw h' LJ l' (by omega)
  exact(T9 hi hj hc o3 c6.1 c6.2 (by omega)).trans ((T9 hk hl hd nM d6.1 d6.2 (by omega)).symm (my hk hl hd nM d6.1 d6.2 (by omega)))
 ·replace gN:dv i0 a1:=gN;replace gH:dw j0 a2:=gH;obtain rfl:p=i0+j0 - 1:=by omega
  exact NF (s:=1) g1 g2 u9 lD gN gH dd dS h.1 h.2 (by omega) (by omega) (fun i j x y hx hy l1 l2=> .inr ⟨i,j,by have:=(g1.lv gN hx l1).1;omega,by have:=(g2.lv gH hy l2).1;omega,hx,hy,by have:=(g1.lv gN hx l1).1;omega⟩) ⟨hc,o3,c5.1,c6.1,c5.2,c6.2⟩ ⟨hd,nM,d5.1,d6.1,d5.2,d6.2⟩ (by omega) (by omega)
def Be(N:Nat)(el:Nat->α->Prop)(p:Nat)(a:α):Prop:=p<=N/\el (N - p) a
def Cl(le:α->α->Prop)(a b:α):Prop:=le b a
theorem gF.oU(g:gF N el le):gF N (Be N el) (Cl le) where
 one:=fun⟨h,a⟩ ⟨h',a'⟩=>by have:=g.one a a';omega
 rf:=fun a=>g.rf a
 tr:=fun⟨_,a⟩ ⟨_,b⟩ ⟨_,c⟩ h h'=>g.tr c b a h' h
 st:=fun⟨_,a⟩ ⟨_,b⟩ h=>by
  rcases g.st b a h with e | e
  ·exact .inl e.symm
  exact .inr (by omega)
 sU:=fun {i j a b} ⟨h1,ha⟩ ⟨h2,hb⟩ h gU=>by
  obtain⟨z,hz,e1,e2⟩:=g.chain hb ha h (by omega);refine⟨z (N - (i+1)),⟨by omega,hz.1 _ (by omega) (by omega)⟩,?_,?_⟩
  ·show le _ a;rw [<-e2];exact hz.wC g (by omega) (by omega) (bj _)
  show le b _;rw [<-e1];exact hz.wC g (bj _) (by omega) (by omega)
 nB:=fun h=>h.1
 bot:=by
  obtain⟨t,ht,k⟩:=g.top;exact⟨t,⟨a7 _,by simpa using ht⟩,fun i a ⟨hi,ha⟩=> ⟨(k _ a ha).1,fun e=> (k _ a ha).2 (by omega)⟩⟩
 top:=by
  obtain⟨o,ho,k⟩:=g.bot;exact⟨o,⟨bj _,by simpa using ho⟩,fun i a ⟨hi,ha⟩=> ⟨(k _ a ha).1,fun e=> (k _ a ha).2 (by omega)⟩⟩
theorem mg.oU(g:gF N el le)(h:mg el le):mg (Be N el) (Cl le):=by
 rintro i j a b ⟨hi,ha⟩ ⟨hj,hb⟩ dN gU p q c d ⟨c1,c2,⟨_,c3⟩,c4,c5⟩ ⟨d1,d2,⟨_,d3⟩,d4,d5⟩;have key:=h (N - j) (N - i) b a hb ha dN (by omega) (N - p) (N - q) c d ⟨by omega,by omega,c3,c5,c4⟩ ⟨by omega,by omega,d3,d5,d4⟩;obtain⟨r,hr⟩:∃r,r=N - q:=⟨_,rfl⟩;rw [<-hr]at key;have gen:∀r e,gZ el le (N - j) (N - i) b a (N - p) c r e->r<=N->gZ (Be N el) (Cl le) i j a b p c (N - r) e:=by
  intro r e hh
  induction hh with
  | refl=>intro _;rw [show N - (N - p)=p by omega];exact .refl
  | @step q' r' d' e' h0 k1 k2 k3 k4 k5 k6 ih=>
   intro fG;have bW:=h0.end_ ⟨by omega,by omega,c3,c5,c4⟩;have:=g.nB bW.2.2.1;exact .step (ih this) (by omega) (by omega) ⟨by omega,by rw [show N - (N - r')=r' by omega];exact k3⟩ k5 k4 k6.symm
 have:=gen r d key (by omega)
 rwa [show N - r=q by omega]at this
end
structure Aj(N:Nat)(K:Nat->Nat->Prop):Prop where
 sym:∀a b,K a b->K b a
 wJ:∀a b c,K a b->K b c->K a c
 cj:∀a b,K a b->a<N/\b<N
def jU(N:Nat)(K:Nat->Nat->Prop)(f:Nat)(L:ai):Prop:=
 L.length=N/\∀x:Nat,x<N->(0<=gi L x->∃r:Nat,gi L x=r/\r<f/\K r x/\∀c,K c x->r<=c)/\(gi L x<0->gi L x= -1/\∀c,c<f->¬K c x)
theorem jU.zero(N:Nat)(K:Nat->Nat->Prop):jU N K 0 (List.replicate N (-1)):=
 ⟨by simp,fun x hx=>by
  rw [xm (by omega) (by omega)];exact⟨fun h=>absurd h (by omega),fun _=> ⟨O,fun c hc=>absurd hc (by omega)⟩⟩⟩
theorem jU.skip{N:Nat}{K:Nat->Nat->Prop}(hK:Aj N K){f:Nat}{L:ai}(h:jU N K f L)(hf:f<N)(h0:0<=gi L f\/¬K f f):jU N K (f+1) L:=by
 refine⟨h.1,fun x hx=> ⟨fun h1=>?_,fun h1=>?_⟩⟩
 ·obtain⟨r,h2,h3,h4⟩:=(h.2 x hx).1 h1;exact⟨r,h2,by omega,h4⟩
 obtain⟨h2,h3⟩:=(h.2 x hx).2 h1;refine⟨h2,fun c hc hk=>?_⟩
 by_cases e:c=f
 ·subst e;rcases h0 with h0 | h0
  ·obtain⟨r,h4,h5,h6,_⟩:=(h.2 c hf).1 h0;exact h3 r h5 (hK.wJ _ _ _ h6 hk)
  exact h0 (hK.wJ _ _ _ hk (hK.sym _ _ hk))
 exact h3 c (by omega) hk
theorem jU.oC{N:Nat}{K:Nat->Nat->Prop}(hK:Aj N K){f:Nat}{L L':ai}(h:jU N K f L)(hf:f<N)(h0:gi L f<0)(hl:L'.length=N)(hp:∀x:Nat,x<N->(K f x->gi L' x=f)/\(¬K f x->gi L' x=gi L x)):jU N K (f+1) L':=by
 refine⟨hl,fun x hx=>?_⟩;have h9:=(h.2 f hf).2 h0
 by_cases hk:K f x
 ·rw [(hp x hx).1 hk];refine⟨fun _=> ⟨f,O,by omega,hk,fun c hc=>?_⟩,fun h=>absurd h (by omega)⟩;refine Nat.le_of_not_lt fun eO=>h9.2 c eO (hK.wJ _ _ _ hc (hK.sym _ _ hk))
 rw [(hp x hx).2 hk];refine⟨fun h1=>?_,fun h1=>?_⟩
 ·obtain⟨r,h2,h3,h4⟩:=(h.2 x hx).1 h1;exact⟨r,h2,by omega,h4⟩
 obtain⟨h2,h3⟩:=(h.2 x hx).2 h1;refine⟨h2,fun c hc lh=>?_⟩
 by_cases e:c=f
 ·subst e;exact hk lh
 exact h3 c (by omega) lh
theorem jU.done{N:Nat}{K:Nat->Nat->Prop}(hK:Aj N K){L:ai}(h:jU N K N L){a b:Nat}(ha:K a a)(hb:K b b):gi L a=gi L b↔K a b:=by
 have get:∀x,K x x->∃r:Nat,gi L x=r/\K r x/\∀c,K c x->r<=c:=fun x hx=>by
  have Ll:=(hK.cj _ _ hx).1;rcases Int.lt_or_le (gi L x) 0 with h1 | h1
  ·exact absurd hx (((h.2 x Ll).2 h1).2 x Ll)
  obtain⟨r,h2,_,h4,h5⟩:=(h.2 x Ll).1 h1;exact⟨r,h2,h4,h5⟩
 obtain⟨r,h1,h2,h3⟩:=get a ha;obtain⟨s,h4,h5,h6⟩:=get b hb;rw [h1,h4];constructor
 ·intro e;obtain rfl:r=s:=by omega
  exact hK.wJ _ _ _ (hK.sym _ _ h2) h5
 intro hk;have h7:=h3 s (hK.wJ _ _ _ h5 (hK.sym _ _ hk));have h8:=h6 r (hK.wJ _ _ _ h2 hk);omega
def lL(n:Nat)(fl:ah)(i a b:Nat):Prop:=a<fl.length/\b<fl.length/\∀k:Nat,k<n->k≠i->gi (gl fl a) k=gi (gl fl b) k
theorem lL.symm{n:Nat}{fl:ah}{i a b:Nat}(h:lL n fl i a b):lL n fl i b a:=⟨h.2.1,h.1,fun k hk bt=> (h.2.2 k hk bt).symm⟩
inductive iF(n:Nat)(fl:ah)(S:Nat->Prop)(a:Nat):Nat->Prop where
 | refl:a<fl.length->iF n fl S a a
 | step {b c i:Nat}:iF n fl S a b->i<n->¬S i->lL n fl i b c->iF n fl S a c
theorem iF.trans{n:Nat}{fl:ah}{S:Nat->Prop}{a b c:Nat}(h:iF n fl S a b)(h':iF n fl S b c):iF n fl S a c:=by
 induction h' with
 | refl=>exact h
 | step _ hi hs ha ih=>exact .step ih hi hs ha
theorem iF.cj{n:Nat}{fl:ah}{S:Nat->Prop}{a b:Nat}(h:iF n fl S a b):a<fl.length/\b<fl.length:=by
 induction h with
 | refl h=>exact⟨h,h⟩
 | step _ _ _ ha ih=>exact⟨ih.1,ha.2.1⟩
theorem iF.symm{n:Nat}{fl:ah}{S:Nat->Prop}{a b:Nat}(h:iF n fl S a b):iF n fl S b a:=by
 induction h with
 | refl h=>exact .refl h
 | step h hi hs ha ih=>exact(iF.step (.refl ha.2.1) hi hs ha.symm).trans ih
theorem iF.keep{n:Nat}{fl:ah}{S:Nat->Prop}{a b:Nat}(h:iF n fl S a b):∀k:Nat,k<n->S k->gi (gl fl b) k=gi (gl fl a) k:=by
 induction h with
 | refl h=>exact fun _ _ _=>rfl
 | step h hi hs ha ih=>
  intro k hk hS;rw [<-ha.2.2 k hk (fun e=>hs (e▸hS)),ih k hk hS]
def vz(n:Nat)(fl:ah):Prop:=∀a b:Nat,a<b->b<fl.length->iF n fl (fun k=>gi (gl fl a) k=gi (gl fl b) k) a b
structure pq(N:Nat)(K A:Nat->Nat->Prop)(f:Nat)(L0 L:ai)(Q:List Nat)(k:Nat):Prop where
 len:L.length=N
 wu:∀x∈Q,x<N/\gi L0 x<0/\K f x
 bg:∀x:Nat,x<N->gi L x=if x∈Q then(f:Int)else gi L0 x
 root:f∈Q
 Lt:k<=Q.length
 done:∀p,p<k->∀y,A (Q.getD p 0) y->0<=gi L y
 nd:Q.Nodup
theorem pq.meet{N:Nat}{K A:Nat->Nat->Prop}{f:Nat}{L0 L:ai}{Q:List Nat}{k:Nat}(h:pq N K A f L0 L Q k){y:Nat}(hy:y<N)(hl:gi L y<0)(hk:K f y):pq N K A f L0 (L.set y (f:Int)) (Q++ [y]) k:=by
 have RC:y∉Q:=fun hm=>by
  have:=h.bg y hy;rw [ay hm]at this;omega
 have e:∀x:Nat,x<N->gi (L.set y (f:Int)) x=if x=y then(f:Int)else gi L x:=fun x hx=>by
  have:=pw (S:=L) (x:=(y:Int)) (y:=(x:Int)) (b:=(f:Int)) (by omega) (by rw [h.len];omega) (by omega);rw [gG]at this;rw [this]
  by_cases e:x=y
  ·subst e;simp
  rw [aw e,aw (by omega)]
 have nO:gi L0 y<0:=by
  have:=h.bg y hy;rw [aw RC]at this;omega
 refine⟨by rw [lp];exact h.len,fun x hx=>?_,fun x hx=>?_,List.mem_append_left _ h.root,by rw [cS];have:=h.Lt;omega,fun p hp z hz=>?_,List.nodup_append.2 ⟨h.nd,by simp,fun a ha b hb e=>RC (by rw [<-gk.1 hb,<-e];exact ha)⟩⟩
 ·rcases jz.1 hx with hx | hx
  ·exact h.wu x hx
  obtain rfl:=gk.1 hx;exact⟨hy,nO,hk⟩
 ·rw [e x hx]
  by_cases ex:x=y
  ·subst ex;simp
  rw [aw ex,h.bg x hx];simp [ex]
 have hk:=h.Lt;rw [cN,mc (by omega),<-cN]at hz;have h2:=h.done p hp z hz
 by_cases hzN:z<N
 ·rw [e z hzN]
  split<;>omega
 have:gi L z=gi (L.set y (f:Int)) z:=by
  simp [gi,cN,mF (show L.length<=z by rw [h.len];omega),mF (show(L.set y (f:Int)).length<=z by rw [lp,h.len];omega)]
 omega
theorem pq.next{N:Nat}{K A:Nat->Nat->Prop}{f:Nat}{L0 L:ai}{Q:List Nat}{k:Nat}(h:pq N K A f L0 L Q k)(hk:k<Q.length)(hd:∀y,A (Q.getD k 0) y->0<=gi L y):pq N K A f L0 L Q (k+1):=
 ⟨h.len,h.wu,h.bg,h.root,hk,fun p hp y hy=>by
  by_cases e:p=k
  ·subst e;exact hd y hy
  exact h.done p (by omega) y hy,h.nd⟩
theorem pq.L3{N:Nat}{K A:Nat->Nat->Prop}{f:Nat}{L0 L:ai}{Q:List Nat}{k:Nat}(h:pq N K A f L0 L Q k):Q.length<=N:=HC N Q h.nd fun x hx=> (h.wu x hx).1
theorem pq.start{N:Nat}{K A:Nat->Nat->Prop}{f:Nat}{L0:ai}(hl:L0.length=N)(hf:f<N)(h0:gi L0 f<0)(hk:K f f):pq N K A f L0 (L0.set f (f:Int)) [f] 0:=by
 refine⟨by simp [hl],fun x hx=>?_,fun x hx=>?_,by simp,a7 _,fun p hp=>absurd hp (by omega),by simp⟩
 ·obtain rfl:=gk.1 hx;exact⟨hf,h0,hk⟩
 have:=pw (S:=L0) (x:=(f:Int)) (y:=(x:Int)) (b:=(f:Int)) (by omega) (by rw [hl];omega) (by omega);rw [gG]at this;rw [this]
 by_cases e:x=f
 ·subst e;simp
 rw [aw (by omega),aw (by simpa using e)]
theorem pq.end_{N:Nat}{K A:Nat->Nat->Prop}(hK:Aj N K){f:Nat}{L0 L:ai}{Q:List Nat}(h:pq N K A f L0 L Q Q.length)(hL:jU N K f L0)(hf:f<N)(h0:gi L0 f<0)(hA:∀S:Nat->Prop,S f->(∀x y,S x->K f x->A x y->S y)->∀x,K f x->S x)(YV:∀x y,A x y->K x y):jU N K (f+1) L:=by
 have hQ:∀x,K f x->x∈Q:=hA (fun x=>x∈Q) h.root fun x y hx sj ha=>by
  obtain⟨p,hp,e⟩:=fJ.1 hx;have e2:Q.getD p 0=x:=by rw [cN,fS hp];exact e
  have h1:=h.done p hp y (by rw [e2];exact ha);have hk:=YV x y ha;have zx:=(hK.cj _ _ hk).2;refine ob fun hn=>?_
  have h2:=h.bg y zx;rw [aw hn]at h2;obtain⟨r,_,h3,h4,_⟩:=(hL.2 y zx).1 (by omega);exact((hL.2 f hf).2 h0).2 r h3 (hK.wJ _ _ _ (hK.wJ _ _ _ h4 (hK.sym _ _ hk)) (hK.sym _ _ sj))
 refine hL.oC hK hf h0 h.len fun x hx=> ⟨fun hk=>?_,fun hk=>?_⟩
 ·rw [h.bg x hx,ay (hQ x hk)]
 rw [h.bg x hx,aw fun hm=>hk (h.wu x hm).2.2]
theorem nH{n:Nat}{R:ai}{B:ah}(hn:1<=n){a:Nat}(ha:a< (aD n R B).length):(gl (aD n R B) a).length=n/\(∀i:Nat,i<n->(0<=gi (gl (aD n R B) a) i/\gi (gl (aD n R B) a) i<R.length)/\gi R (gi (gl (aD n R B) a) i)=i)/\∀i:Nat,i+1<n->gi (gl (aD n R B) a) i∈gl B (gi (gl (aD n R B) a) ((i+1:Nat):Int)):=(nG hn).1 (by rw [bP ha];exact dB _)
theorem ux{n:Nat}{x y:ai}(hx:x.length=n)(hy:y.length=n)(h:∀i:Nat,i<n->gi x i=gi y i):x=y:=
 jo (by omega) fun i h1 h2=>by
  have:=h i (by omega)
  rwa [bO h1,bO h2]at this
theorem vL{n:Nat}{R:ai}{B:ah}{a b:Nat}(ha:a< (aD n R B).length)(hb:b< (aD n R B).length)(h:gl (aD n R B) a=gl (aD n R B) b):a=b:=by
 rw [bP ha,bP hb]at h;exact(List.getElem_inj (Bg n R B).nodup).1 h
theorem XJ{n:Nat}{R:ai}{B:ah}(hP:gm n R B)(hD:tH n R B){a i:Nat}(ha:a< (aD n R B).length)(hi:i<n):∃b:Nat,b≠a/\∀c:Nat,(lL n (aD n R B) i a c/\c≠a)↔c=b:=by
 have hn:1<=n:=by have:=hP.n1;omega
 obtain⟨hl,hr,hc⟩:=nH hn ha;generalize hx:gl (aD n R B) a=x at hl hr hc;have eB:wU R i (if i=0 then -1 else gi x ((i - 1:Nat):Int)):=by
  by_cases e:i=0
  ·rw [ay e];exact .inl ⟨rfl,by omega⟩
  rw [aw e];have:=hr (i - 1) (by omega);exact .inr ⟨this.1,by omega,by rw [this.2];omega⟩
 have cC:wS n R i (if i=n - 1 then -1 else gi x ((i+1:Nat):Int)):=by
  by_cases e:i=n - 1
  ·rw [ay e];exact .inl ⟨rfl,by omega⟩
  rw [aw e];have:=hr (i+1) (by omega);exact .inr ⟨this.1,by omega,by rw [this.2];omega⟩
 have KM:0<=(if i=0 then -1 else gi x ((i - 1:Nat):Int))->0<=(if i=n - 1 then -1 else gi x ((i+1:Nat):Int))->(if i=0 then -1 else gi x ((i - 1:Nat):Int))∈gl B (if i=n - 1 then -1 else gi x ((i+1:Nat):Int)):=fun h1 h2=>by
  by_cases e:i=0
  ·rw [ay e]at h1;omega
  by_cases e2:i=n - 1
  ·rw [ay e2]at h2;omega
  rw [aw e,aw e2];have zl:=hc (i - 1) (by omega);have rr:=hc i (by omega);rw [show i - 1+1=i by omega]at zl;have pF:=hr (i+1) (by omega);exact(hP.at_ pF.1.1 pF.1.2).2.2 _ rr _ zl
 have h2:=hD (i:Int) _ _ (by omega) (by omega) eB cC KM;have xT:∀d:Int,d∈lO R B i (if i=0 then -1 else gi x ((i - 1:Nat):Int)) (if i=n - 1 then -1 else gi x ((i+1:Nat):Int))↔x.set i d∈aD n R B:=fun d=>by
  rw [wV,nG hn];have gs:∀k:Nat,gi (x.set i d) k=if k=i then d else gi x k:=fun k=>by
   have:=pw (S:=x) (x:=(i:Int)) (y:=(k:Int)) (b:=d) (by omega) (by omega) (by omega);rw [gG]at this;rw [this]
   by_cases e:k=i
   ·subst e;simp
   rw [aw e,aw (by omega)]
  constructor
  ·rintro⟨hd,rd,u,v⟩;refine⟨by rw [lp];exact hl,fun k hk=>?_,fun k hk=>?_⟩
   ·rw [gs k]
    by_cases e:k=i
    ·rw [ay e,e];exact⟨hd,rd⟩
    rw [aw e];exact hr k hk
   rw [gs k,gs (k+1)]
   by_cases e:k=i
   ·rw [ay e,aw (by omega)];rw [aw (by omega)]at v;have:=hr (i+1) (by omega);rw [e];exact v.resolve_left (by omega)
   rw [aw e]
   by_cases e2:k+1=i
   ·rw [ay e2];rw [aw (by omega),show i - 1=k by omega]at u;have:=hr k (by omega);exact u.resolve_left (by omega)
   rw [aw e2];exact hc k hk
  rintro⟨_,h3,h4⟩;have h5:=h3 i hi;rw [gs i,ay rfl]at h5;refine⟨h5.1,h5.2,?_,?_⟩
  ·by_cases e:i=0
   ·left;rw [ay e];omega
   right;rw [aw e];have h6:=h4 (i - 1) (by omega);rw [gs (i - 1),show i - 1+1=i by omega,gs i,aw (show ¬i - 1=i by omega),ay rfl]at h6;exact h6
  by_cases e:i=n - 1
  ·left;rw [ay e];omega
  right;rw [aw e];have h6:=h4 i (by omega);rw [gs i,gs (i+1),ay rfl,aw (by omega)]at h6;exact h6
 obtain⟨p,q,sl,hm⟩:=Ud (z6 _ _ _ _ _) h2;have Hf:gi x i=p\/gi x i=q:=(hm _).1 ((xT _).2 (by
  have e:x.set i (gi x i)=x:=by
   rw [bO (by omega)];exact List.set_getElem_self _
  rw [e,<-hx,bP ha];exact dB _))
 obtain⟨d,hd,Qe⟩:∃d,d≠gi x i/\∀c,(c=p\/c=q)↔(c=gi x i\/c=d):=by
  rcases Hf with h | h
  ·exact⟨q,fun e=>sl (by rw [<-h,e]),fun c=>by rw [h]⟩
  exact⟨p,fun e=>sl (by rw [<-h,e]),fun c=>by rw [h];exact or_comm⟩
 have q8:x.set i d∈aD n R B:=(xT d).1 ((hm d).2 ((Qe d).2 (.inr O)));obtain⟨b,hb,eb⟩:=fJ.1 q8;have FT:gl (aD n R B) b=x.set i d:=by rw [bP hb];exact eb
 have JK:∀(d:Int) (k:Nat),gi (x.set i d) k=if k=i then d else gi x k:=fun d k=>by
  have:=pw (S:=x) (x:=(i:Int)) (y:=(k:Int)) (b:=d) (by omega) (by omega) (by omega);rw [gG]at this;rw [this]
  by_cases e:k=i
  ·subst e;simp
  rw [aw e,aw (by omega)]
 have ub:b≠a:=fun e=>by
  subst e;rw [hx]at FT;have:=JK d i;rw [<-FT,ay rfl]at this;exact hd this.symm
 refine⟨b,ub,fun c=> ⟨fun⟨⟨_,dt,oq⟩,ZW⟩=>?_,?_⟩⟩
 ·
  rw [hx]at oq;obtain⟨th,pF,lD⟩:=nH hn dt;have ec:gl (aD n R B) c=x.set i (gi (gl (aD n R B) c) i):=ux th (by rw [lp];exact hl) fun k hk=>by
   rw [JK]
   by_cases e:k=i
   ·rw [ay e,e]
   rw [aw e];exact(oq k hk e).symm
  have mV:x.set i (gi (gl (aD n R B) c) i)∈aD n R B:=by rw [<-ec,bP dt];exact dB _
  rcases(Qe _).1 ((hm _).1 ((xT _).2 mV))with h | h
  ·exfalso;refine ZW (vL dt ha ?_);rw [ec,h,hx,bO (by omega)];exact List.set_getElem_self _
  rw [h]at ec;exact vL dt hb (ec.trans FT.symm)
 rintro rfl;exact⟨⟨ha,hb,fun k hk bt=>by rw [FT,hx,JK,aw bt]⟩,ub⟩
open Classical in
noncomputable def yc(n:Nat)(fl:ah)(i:Nat)(a:Nat):ai:=((List.range fl.length).filter fun b=>decide (lL n fl i a b/\b≠a)).map fun b:Nat=> (b:Int)
noncomputable def tv(n:Nat)(fl:ah)(i:Nat):ai:=(List.range fl.length).flatMap (yc n fl i)
noncomputable def bT(n:Nat)(fl:ah):ah:=(List.range n).map (tv n fl)
def jA(n:Nat)(fl:ah):Prop:=∀a i:Nat,a<fl.length->i<n->∃b:Nat,b≠a/\∀c:Nat,(lL n fl i a c/\c≠a)↔c=b
open Classical in
theorem aek{n:Nat}{fl:ah}{i a b:Nat}(h:∀c:Nat,(lL n fl i a c/\c≠a)↔c=b):yc n fl i a=[(b:Int)]:=by
 have hb:=((h b).2 O).1.2.1;have key:∀p:Nat->Bool,(∀c,p c=true↔c=b)->((List.range fl.length).filter p)=[b]:=fun p hp=>by
  refine List.Perm.eq_singleton ((rN (List.nodup_range.filter _) (by simp)).2 fun c=>?_);rw [fT,fU,hp c,gk];exact⟨fun h=>h.2,fun h=> ⟨by rw [h];exact hb,h⟩⟩
 unfold yc;exact aO (List.map fun b:Nat=> (b:Int)) (key _ fun c=>decide_eq_true_iff.trans (h c))
open Classical in
noncomputable def eQ(n:Nat)(fl:ah)(i a:Nat):Nat:=if h:∃b:Nat,b≠a/\∀c:Nat,(lL n fl i a c/\c≠a)↔c=b then h.choose else 0
theorem jA.pt{n:Nat}{fl:ah}(h:jA n fl){a i:Nat}(ha:a<fl.length)(hi:i<n):eQ n fl i a≠a/\∀c:Nat,(lL n fl i a c/\c≠a)↔c=eQ n fl i a:=by
 have he:=h a i ha hi;unfold eQ;rw [dif_pos he];exact he.choose_spec
theorem jA.lt{n:Nat}{fl:ah}(h:jA n fl){a i:Nat}(ha:a<fl.length)(hi:i<n):eQ n fl i a<fl.length:=(((h.pt ha hi).2 _).2 rfl).1.2.1
theorem jA.pp{n:Nat}{fl:ah}(h:jA n fl){a i:Nat}(ha:a<fl.length)(hi:i<n):eQ n fl i (eQ n fl i a)=a:=by
 have h1:=((h.pt ha hi).2 _).2 O;exact(((h.pt (h.lt ha hi) hi).2 a).1 ⟨h1.1.symm,fun e=> (h.pt ha hi).1 e.symm⟩).symm
theorem Sw{n:Nat}{fl:ah}(h:jA n fl){i:Nat}(hi:i<n):tv n fl i=(List.range fl.length).map fun a=> (eQ n fl i a:Int):=by
 unfold tv;have e:∀l:List Nat,(∀a∈l,a<fl.length)->l.flatMap (yc n fl i)=l.map fun a=> (eQ n fl i a:Int):=by
  intro l
  induction l with
  | nil=>intro _;rfl
  | cons a r ih=>
   intro hl;rw [List.flatMap_cons,List.map_cons,ih fun b hb=>hl b (pj _ hb),aek (h.pt (hl a (by simp)) hi).2];rfl
 exact e _ fun a ha=>fU.1 ha
theorem F4{n:Nat}{R:ai}{B:ah}(hP:gm n R B)(hD:tH n R B):jA n (aD n R B):=fun _ _ ha hi=>XJ hP hD ha hi
def Ix(n:Nat)(R:ai)(B:ah):Prop:=∀e:Int,0<=e->e<R.length->∃x∈aD n R B,e∈x
def yy(n:Nat)(R:ai)(B:ah):Prop:=aD n R B≠[]/\Ix n R B/\tH n R B/\vz n (aD n R B)
def nE(a b:ai):ai:=(List.range a.length).map fun k:Nat=>if gi a k=gi b k then gi a k else -1
theorem AU(a b:ai):(nE a b).length=a.length:=by simp [nE]
theorem AL{a b:ai}{k:Nat}(h:k<a.length):gi (nE a b) k=if gi a k=gi b k then gi a k else -1:=by
 rw [bO (by rw [AU];exact h)];simp [nE]
def jx(n:Nat)(c x:ai):Prop:=∀k:Nat,k<n->gi c k≠ -1->gi c k=gi x k
instance (n:Nat)(c x:ai):Decidable (jx n c x):=by unfold jx;infer_instance
def jr(n:Nat)(fl:ah)(c:ai)(a b:Nat):Prop:=jx n c (gl fl a)/\iF n fl (fun k=>gi c k≠ -1) a b
theorem jx.of{n:Nat}{fl:ah}{c:ai}{a b:Nat}(h:jx n c (gl fl a))(h':iF n fl (fun k=>gi c k≠ -1) a b):jx n c (gl fl b):=fun k hk bt=>by
 rw [h'.keep k hk bt];exact h k hk bt
theorem CX(n:Nat)(fl:ah)(c:ai):Aj fl.length (jr n fl c):=
 ⟨fun _ _ h=> ⟨h.1.of h.2,h.2.symm⟩,fun _ _ _ h h'=> ⟨h.1,h.2.trans h'.2⟩,fun _ _ h=>h.2.cj⟩
theorem Wz{n:Nat}{fl:ah}(hl:∀x∈fl,x.length=n/\∀e∈x,0<=e){a b:Nat}(ha:a<fl.length)(hb:b<fl.length):
 jr n fl (nE (gl fl a) (gl fl b)) a a/\jr n fl (nE (gl fl a) (gl fl b)) b b/\(jr n fl (nE (gl fl a) (gl fl b)) a b↔iF n fl (fun k=>gi (gl fl a) k=gi (gl fl b) k) a b):=by
 have hxa:=hl _ (by rw [bP ha];exact dB _:gl fl a∈fl);have bt:∀k:Nat,k<n->(gi (nE (gl fl a) (gl fl b)) k≠ -1↔gi (gl fl a) k=gi (gl fl b) k):=fun k hk=>by
  rw [AL (by omega)];have:=hxa.2 _ (gi_in (show k< (gl fl a).length by omega))
  split
  ·exact⟨fun _=>by assumption,fun _=>by omega⟩
  ·rename_i h;exact⟨fun h'=>absurd rfl h',fun h'=>absurd h' h⟩
 have h1:jx n (nE (gl fl a) (gl fl b)) (gl fl a):=fun k hk h=>by
  have:=(bt k hk).1 h;rw [AL (by omega),ay this]
 have h2:jx n (nE (gl fl a) (gl fl b)) (gl fl b):=fun k hk h=>by
  have:=(bt k hk).1 h;rw [AL (by omega),ay this,this]
 have cv:∀ {S S':Nat->Prop},(∀k,k<n->(S k↔S' k))->∀ {u v},iF n fl S u v->iF n fl S' u v:=fun {S S'} hS {u v} h=>by
  induction h with
  | refl h=>exact .refl h
  | step _ hi hs ZE ih=>exact .step ih hi (fun h=>hs ((hS _ hi).2 h)) ZE
 exact⟨⟨h1,.refl ha⟩,⟨h2,.refl hb⟩,fun h=>cv bt h.2,fun h=> ⟨h1,cv (fun k hk=> (bt k hk).symm) h⟩⟩
def wP(n:Nat)(fl:ah)(c:ai)(x y:Nat):Prop:=jx n c (gl fl x)/\jx n c (gl fl y)/\∃i,i<n/\lL n fl i x y
theorem OK{n:Nat}{fl:ah}(hn:fl.Nodup)(hl:∀x∈fl,x.length=n){x y:Nat}(hx:x<fl.length)(hy:y<fl.length)(h:∀k:Nat,k<n->gi (gl fl x) k=gi (gl fl y) k):x=y:=by
 have e:gl fl x=gl fl y:=ux (hl _ (by rw [bP hx];exact dB _)) (hl _ (by rw [bP hy];exact dB _)) h;rw [bP hx,bP hy]at e;exact(List.getElem_inj hn).1 e
theorem wP.link{n:Nat}{fl:ah}(hn:fl.Nodup)(hl:∀x∈fl,x.length=n){c:ai}{x y:Nat}(h:wP n fl c x y):jr n fl c x y:=by
 obtain⟨h1,h2,i,hi,ha⟩:=h;refine⟨h1,?_⟩
 by_cases hc:gi c i≠ -1
 ·have:x=y:=OK hn hl ha.1 ha.2.1 fun k hk=>by
   by_cases e:k=i
   ·subst e;rw [<-h1 k hk hc,h2 k hk hc]
   exact ha.2.2 k hk e
  subst this;exact .refl ha.1
 exact .step (.refl ha.1) hi hc ha
theorem UU{n:Nat}{fl:ah}{c:ai}{f:Nat}(S:Nat->Prop)(hf:S f)(hs:∀x y,S x->jr n fl c f x->wP n fl c x y->S y):∀x,jr n fl c f x->S x:=fun x h=>by
 obtain⟨h1,h2⟩:=h
 induction h2 with
 | refl _=>exact hf
 | step h hi hS ha ih=>exact hs _ _ ih ⟨h1,h⟩ ⟨h1.of h,h1.of (.step h hi hS ha),_,hi,ha⟩
section
variable {α:Type} {N:Nat} {el:Nat->α->Prop} {le:α->α->Prop}
def Ff(N:Nat)(el:Nat->α->Prop)(le:α->α->Prop):Prop:=∀z y:Nat->α,iN el le 0 N z->iN el le 0 N y->jc el le 0 N (fun k=>z k=y k) z y
theorem WS(g:gF N el le)(hc:mg el le):Ff N el le:=fun z y hz hy=>by
 obtain⟨o,_,ho⟩:=g.bot;obtain⟨t,_,ht⟩:=g.top;have b1:=(ho 0 _ (hz.1 0 (bj _) (a7 _))).2 O;have b2:=(ho 0 _ (hy.1 0 (bj _) (a7 _))).2 O;have t1:=(ht N _ (hz.1 N (a7 _) (bj _))).2 O;have t2:=(ht N _ (hy.1 N (a7 _) (bj _))).2 O;exact Ws g hc N 0 N (by omega) (a7 _) z y hz hy (b1.trans b2.symm) (t1.trans t2.symm)
theorem age(g:gF N el le)(h:Ff N el le):mg el le:=by
 intro i j a b ha hb dN gU p q c d hc hd;obtain⟨o,ho,iq⟩:=g.bot;obtain⟨t,ht,pH⟩:=g.top;have xH:=g.nB hb;obtain⟨w1,c1,_,e1⟩:=g.chain ho ha (iq i a ha).1 (a7 _);obtain⟨w4,c4,e4,_⟩:=g.chain hb ht (pH j b hb).1 xH;have mk:∀(p:Nat) (c:α),sN el le i j a b p c->∃z,iN el le 0 N z/\(∀k,k<=i->z k=w1 k)/\(∀k,j<=k->z k=w4 k)/\z p=c:=by
  intro p c hc;obtain⟨u1,d1,f1,Oh⟩:=g.chain ha hc.2.2.1 hc.2.2.2.1 (by have:=hc.1;omega);obtain⟨u2,d2,f2,Oi⟩:=g.chain hc.2.2.1 hb hc.2.2.2.2 (by have:=hc.2.1;omega);have h1:=hc.1;have h2:=hc.2.1;have x1:=c1.glue d1 (e1.trans f1.symm);have x2:=x1.glue d2 (by rw [vM h1,Oh,f2]);have x3:=x2.glue c4 (by rw [vM h2,Oi,e4]);refine⟨_,x3,fun k hk=>?_,fun k hk=>JE (by rw [vM h2,Oi,e4]) hk,?_⟩
  ·rw [pZ (by omega),pZ (by omega),pZ hk]
  ·rw [pZ (by omega),pZ (bj _),vM h1,Oh]
 obtain⟨z,hz,z1,z2,z3⟩:=mk p c hc;obtain⟨y,hy,y1,y2,y3⟩:=mk q d hd;have hl:=h z y hz hy;have zi:z i=a:=(z1 i (bj _)).trans e1;have zj:z j=b:=(z2 j (bj _)).trans e4;have kp:∀y',jc el le 0 N (fun k=>z k=y k) z y'->y' i=a/\y' j=b:=fun y' h=>by
  have k1:=h.keep (k:=i) (a7 _) (by omega) (.inr (.inr (by show z i=y i;rw [z1 i (bj _),y1 i (bj _)])));have k2:=h.keep (k:=j) (a7 _) (by omega) (.inr (.inr (by show z j=y j;rw [z2 j (bj _),y2 j (bj _)])));exact⟨k1.symm.trans zi,k2.symm.trans zj⟩
 have my:∀y',iN el le 0 N y'->y' i=a->y' j=b->∀r,i<r->r<j->sN el le i j a b r (y' r):=fun y' kq k1 k2 r h1 h2=>
  ⟨h1,h2,kq.1 r (a7 _) (by omega),k1▸kq.wC g (a7 _) (by omega) (by omega),k2▸kq.wC g (a7 _) (by omega) xH⟩
 have cmp:∀y',iN el le 0 N y'->∀r s,i<r->r<j->i<s->s<j->le (y' r) (y' s)\/le (y' s) (y' r):=fun y' kq r s h1 h2 h3 h4=>by
  rcases Nat.le_total r s with h | h
  ·exact .inl (kq.wC g (a7 _) h (by omega))
  ·exact .inr (kq.wC g (a7 _) h (by omega))
 have key:∀y',jc el le 0 N (fun k=>z k=y k) z y'->iN el le 0 N y'->∀r,i<r->r<j->gZ el le i j a b p c r (y' r):=by
  intro y' hh
  induction hh with
  | @same y' e=>
   intro kq r h1 h2;have k:=kp y' (.same e);have:=gZ.one (p:=p) (c:=c) (my y' kq k.1 k.2 r h1 h2) (by rw [<-e r (a7 _) (by omega),<-z3];exact cmp z hz p r hc.1 hc.2.1 h1 h2);exact this
  | @step y0 y' s h0 k1 k2 k3 k4 k5 k6 ih=>
   intro kq r h1 h2;have ih:=ih k1
   by_cases e:r=s
   ·subst e;obtain⟨r',r1,r2,r3⟩:∃r',i<r'/\r'<j/\r'≠r:=by
     by_cases e:r=i+1
     ·exact⟨i+2,by omega,by omega,by omega⟩
     ·exact⟨i+1,by omega,by omega,by omega⟩
    have e2:=k6 r' (a7 _) (by omega) r3;have hk:=kp y' (.step r h0 k1 k2 k3 k4 k5 k6);have:=ih r' r1 r2;rw [e2]at this;exact this.trans (.one (my y' kq hk.1 hk.2 r h1 h2) (cmp y' kq r' r r1 r2 h1 h2))
   ·rw [<-k6 r (a7 _) (by omega) e];exact ih r h1 h2
 have:=key y hl hy q hd.1 hd.2.1
 rwa [y3]at this
end
structure mf{α:Type}(n:Nat)(R:ai)(B:ah)(el:Nat->α->Prop)(le:α->α->Prop)(φ:Int->α):Prop where
 n1:1<=n
 g:gF (n+1) el le
 zB:∀e:Int,0<=e/\e<R.length->∀i:Nat,i<n->gi R e=i->el (i+1) (φ e)
 E4:∀(i:Nat) (a:α),i<n->el (i+1) a->∃e:Int,(0<=e/\e<R.length)/\gi R e=i/\φ e=a
 inj:∀d e:Int,0<=d/\d<R.length->0<=e/\e<R.length->φ d=φ e->d=e
 inc:∀d e:Int,0<=d/\d<R.length->0<=e/\e<R.length->gi R e=gi R d+1->(d∈gl B e↔le (φ d) (φ e))
section
variable{y:ai}
variable {α:Type} {n:Nat} {R:ai} {B:ah} {el:Nat->α->Prop} {le:α->α->Prop} {φ:Int->α}
def lK(o t:α)(n:Nat)(φ:Int->α)(x:ai)(k:Nat):α:=if k=0 then o else if k<=n then φ (gi x ((k - 1:Nat):Int))else t
theorem zW{o t:α}{x:ai}{k:Nat}(h:k<n):lK o t n φ x (k+1)=φ (gi x k):=by
 unfold lK;rw [if_neg (by omega),if_pos (by omega)];rfl
theorem mf.z(h:mf n R B el le φ){o t:α}(ho:el 0 o)(iq:∀(i:Nat) (a:α),el i a->le o a)(ht:el (n+1) t)(pH:∀(i:Nat) (a:α),el i a->le a t){x:ai}(hx:x∈aD n R B):iN el le 0 (n+1) (lK o t n φ x):=by
 obtain⟨_,ha,hb⟩:=(nG h.n1).1 hx;have hm:∀k:Nat,k<n->el (k+1) (lK o t n φ x (k+1)):=fun k hk=>by
  rw [zW hk];exact h.zB _ (ha k hk).1 k hk (ha k hk).2
 have h0:lK o t n φ x 0=o:=ay O;have h9:lK o t n φ x (n+1)=t:=by unfold lK;rw [if_neg (by omega),if_neg (by omega)]
 have he:∀k:Nat,k<=n+1->el k (lK o t n φ x k):=fun k hk=>by
  cases k with
  | zero=>rw [h0];exact ho
  | succ k=>
   by_cases e:k<n
   ·exact hm k e
   ·obtain rfl:k=n:=by omega
    rw [h9];exact ht
 refine⟨fun k _ hk=>he k hk,fun k _ hk=>?_⟩;cases k with
 | zero=>rw [h0];exact iq _ _ (he 1 (by omega))
 | succ k=>
  by_cases e:k+1<n
  ·rw [zW (by omega),zW e];refine(h.inc _ _ (ha k (by omega)).1 (ha (k+1) e).1 ?_).1 (hb k e);rw [(ha k (by omega)).2,(ha (k+1) e).2];omega
  ·obtain rfl:k+1=n:=by omega
   rw [h9];exact pH _ _ (he (k+1) (by omega))
theorem mf.x(h:mf n R B el le φ){z:Nat->α}(hz:iN el le 0 (n+1) z):∃x∈aD n R B,∀i:Nat,i<n->φ (gi x i)=z (i+1):=by
 have hex:∀i:Nat,∃e:Int,i<n->(0<=e/\e<R.length)/\gi R e=i/\φ e=z (i+1):=fun i=>by
  by_cases hi:i<n
  ·obtain⟨e,h⟩:=h.E4 i (z (i+1)) hi (hz.1 (i+1) (a7 _) (by omega));exact⟨e,fun _=>h⟩
  exact⟨0,fun h=>absurd h hi⟩
 obtain⟨E,hE⟩:=Classical.axiomOfChoice hex;have hE:∀i:Nat,i<n->(0<=E i/\E i<R.length)/\gi R (E i)=i/\φ (E i)=z (i+1):=hE;have fY:∀i:Nat,i<n->gi ((List.range n).map E) i=E i:=fun i hi=>by
  rw [bO (by simpa using hi),List.getElem_map,List.getElem_range]
 refine⟨(List.range n).map E,(nG h.n1).2 ⟨by simp,fun i hi=>?_,fun i hi=>?_⟩,fun i hi=>?_⟩
 ·rw [fY i hi];exact⟨(hE i hi).1,(hE i hi).2.1⟩
 ·rw [fY i (by omega),fY (i+1) hi];have h1:=hE i (by omega);have h2:=hE (i+1) hi;rw [h.inc _ _ h1.1 h2.1 (by rw [h1.2.1,h2.2.1];omega),h1.2.2,h2.2.2];exact hz.2 (i+1) (a7 _) (by omega)
 rw [fY i hi];exact(hE i hi).2.2
theorem mf.pure(h:mf n R B el le φ)(hr:∀e:Int,0<=e->e<R.length->0<=gi R e/\gi R e<n):Ix n R B:=fun e h0 h1=>by
 obtain⟨r0,r1⟩:=hr e h0 h1;obtain⟨i,hi⟩:∃i:Nat,gi R e=i:=⟨(gi R e).toNat,by omega⟩;have he:=h.zB e ⟨h0,h1⟩ i (by omega) hi;obtain⟨o,ho,iq⟩:=h.g.bot;obtain⟨t,ht,pH⟩:=h.g.top;obtain⟨w1,c1,_,e1⟩:=h.g.chain ho he (iq _ _ he).1 (by omega);obtain⟨w2,c2,e2,_⟩:=h.g.chain he ht (pH _ _ he).1 (by omega);obtain⟨x,hx,hf⟩:=h.x (c1.glue c2 (e1.trans e2.symm));refine⟨x,hx,?_⟩;have hh:=hf i (by omega);rw [pZ (bj _),e1]at hh;obtain⟨hl,ha,_⟩:=(nG h.n1).1 hx;have:=h.inj _ _ (ha i (by omega)).1 ⟨h0,h1⟩ hh;rw [<-this,bO (by omega)];exact dB _
theorem mf.agree(h:mf n R B el le φ){o t:α}{x:ai}(hx:x∈aD n R B)(hy:y∈aD n R B){i:Nat}(hi:i<n):lK o t n φ x (i+1)=lK o t n φ y (i+1)↔gi x i=gi y i:=by
 rw [zW hi,zW hi];exact⟨h.inj _ _ (((nG h.n1).1 hx).2.1 i hi).1 (((nG h.n1).1 hy).2.1 i hi).1,fun e=>by rw [e]⟩
theorem O8{fl:ah}{x:ai}(h:x∈fl):∃a:Nat,a<fl.length/\gl fl a=x:=by
 obtain⟨a,ha,e⟩:=fJ.1 h;exact⟨a,ha,by rw [bP ha,e]⟩
theorem qR{fl:ah}{a:Nat}(h:a<fl.length):gl fl a∈fl:=by rw [bP h];exact dB _
theorem mf.yC(h:mf n R B el le φ)(hc:Ff (n+1) el le):vz n (aD n R B):=fun a b dN hb=>by
 obtain⟨o,ho,iq⟩:=h.g.bot;obtain⟨t,ht,pH⟩:=h.g.top;have ha:a< (aD n R B).length:=by omega
 have mz:=fun(x:ai) (hx:x∈aD n R B)=>h.z ho (fun i a k=> (iq i a k).1) ht (fun i a k=> (pH i a k).1) hx
 have hl:=hc _ _ (mz _ (qR ha)) (mz _ (qR hb));have key:∀y,jc el le 0 (n+1) (fun k=>lK o t n φ (gl (aD n R B) a) k=lK o t n φ (gl (aD n R B) b) k) (lK o t n φ (gl (aD n R B) a)) y->
  ∃c:Nat,c< (aD n R B).length/\iF n (aD n R B) (fun k=>gi (gl (aD n R B) a) k=gi (gl (aD n R B) b) k) a c/\∀i:Nat,i<n->lK o t n φ (gl (aD n R B) c) (i+1)=y (i+1):=by
  intro y hy
  induction hy with
  | same e=>exact⟨a,ha,.refl ha,fun i hi=>e (i+1) (a7 _) (by omega)⟩
  | @step y y' p _ k1 k2 k3 k4 k5 k6 ih=>
   obtain⟨c,dt,km,Kp⟩:=ih;obtain⟨x,hx,Lm⟩:=h.x k2;obtain⟨c',o3,e'⟩:=O8 hx;have RD:∀i:Nat,i<n->lK o t n φ (gl (aD n R B) c') (i+1)=y' (i+1):=fun i hi=>by rw [e',zW hi,Lm i hi]
   obtain⟨q,rfl⟩:∃q,p=q+1:=⟨p - 1,by omega⟩;have hq:q<n:=by omega
   refine⟨c',o3,.step km hq (fun hs=>k5 ((h.agree (qR ha) (qR hb) hq).2 hs)) ⟨dt,o3,fun k hk bt=>?_⟩,RD⟩;rw [<-h.agree (o:=o) (t:=t) (qR dt) (qR o3) hk,Kp k hk,RD k hk];exact k6 (k+1) (a7 _) (by omega) (by omega)
 obtain⟨c,dt,km,Kp⟩:=key _ hl;have:c=b:=vL dt hb (ux (n:=n) (nH h.n1 dt).1 (nH h.n1 hb).1 fun i hi=> (h.agree (qR dt) (qR hb) hi).1 (Kp i hi))
 rwa [this]at km
theorem mf.WR(h:mf n R B el le φ)(hc:vz n (aD n R B)):Ff (n+1) el le:=fun z y hz hy=>by
 obtain⟨o,ho,iq⟩:=h.g.bot;obtain⟨t,ht,pH⟩:=h.g.top;have mz:=fun(x:ai) (hx:x∈aD n R B)=>h.z ho (fun i a k=> (iq i a k).1) ht (fun i a k=> (pH i a k).1) hx
 have all:∀w,iN el le 0 (n+1) w->∃a:Nat,a< (aD n R B).length/\∀k,0<=k->k<=n+1->lK o t n φ (gl (aD n R B) a) k=w k:=fun w hw=>by
  obtain⟨x,hx,Lm⟩:=h.x hw;obtain⟨a,ha,e⟩:=O8 hx;refine⟨a,ha,fun k _ hk=>?_⟩;cases k with
  | zero=>exact(show lK o t n φ _ 0=o from ay rfl).trans ((iq 0 _ (hw.1 0 (bj _) (by omega))).2 rfl).symm
  | succ k=>
   by_cases q:k<n
   ·rw [e,zW q];exact Lm k q
   ·obtain rfl:k=n:=by omega
    exact(show lK o t k φ _ (k+1)=t by unfold lK;rw [if_neg (by omega),if_neg (by omega)]).trans ((pH _ _ (hw.1 (k+1) (Nat.zero_le _) (Nat.le_refl _))).2 O).symm
 obtain⟨a,ha,ea⟩:=all z hz;obtain⟨b,hb,eb⟩:=all y hy;have km:iF n (aD n R B) (fun k=>gi (gl (aD n R B) a) k=gi (gl (aD n R B) b) k) a b:=by
  rcases Nat.lt_trichotomy a b with dN | dN | dN
  ·exact hc a b dN hb
  ·subst dN;exact .refl ha
  ·have:=(hc b a dN ha).symm;have e:(fun k:Nat=>gi (gl (aD n R B) b) k=gi (gl (aD n R B) a) k)=fun k:Nat=>gi (gl (aD n R B) a) k=gi (gl (aD n R B) b) k:=funext fun k=>propext eq_comm
   rwa [e]at this
 have key:∀c,iF n (aD n R B) (fun k=>gi (gl (aD n R B) a) k=gi (gl (aD n R B) b) k) a c->jc el le 0 (n+1) (fun k=>z k=y k) z (lK o t n φ (gl (aD n R B) c)):=by
  intro c hh
  induction hh with
  | refl _=>exact .same fun k k1 k2=> (ea k k1 k2).symm
  | @step c c' i h0 hi hS hA ih=>
   refine .step (i+1) ih (mz _ (qR hA.1)) (mz _ (qR hA.2.1)) (by omega) (by omega) (fun hs=>hS ?_) fun k _ k2 hk=>?_
   ·rw [<-h.agree (o:=o) (t:=t) (qR ha) (qR hb) hi,ea (i+1) (a7 _) (by omega),eb (i+1) (a7 _) (by omega)];exact hs
   ·cases k with
    | zero=>exact(show lK o t n φ _ 0=o from ay rfl).trans (show lK o t n φ _ 0=o from ay rfl).symm
    | succ k=>
     by_cases q:k<n
     ·exact(h.agree (qR hA.1) (qR hA.2.1) q).2 (hA.2.2 k q (by omega))
     ·unfold lK;rw [if_neg (by omega),if_neg (by omega),if_neg (by omega),if_neg (by omega)]
 exact(key b km).eqv eb
end
def CQ(m:Nat)(n:Int)(rk:Int->Int)(fP:Int->Int->Prop):Prop:=∃z:Int->Int,∀i:Int,-1<=i->i<=n->(0<=z i/\z i<m)/\rk (z i)=i/\∀j:Int,i<=j->j<=n->fP (z i) (z j)
theorem FJ{n:Nat}{R:ai}{B:ah}(h:gm n R B)(hf:aD n R B≠[]):CQ (R.length+2) n (gi (fD n R)) (dC R.length B):=by
 have hn:=h.n1;have ti:1<=n:=by omega
 obtain⟨x,hx⟩:=List.exists_mem_of_ne_nil _ hf;obtain⟨hl,ha,hb⟩:=(nG ti).1 hx;have dN:∀i j:Nat,i<j->j<n->gi x i∈gl B (gi x j):=by
  intro i j gU
  induction j with
  | zero=>omega
  | succ j ih=>
   intro hj;have h1:=hb j (by omega)
   by_cases e:i=j
   ·subst e;exact h1
   ·have h2:=ih (by omega) (by omega);have h3:=ha (j+1) (by omega);exact(h.at_ (e:=gi x ((j+1:Nat):Int)) h3.1.1 h3.1.2).2.2 _ h1 _ h2
 have key:∀i:Int,0<=i->i<n->0<=gi x i/\gi x i<R.length/\gi R (gi x i)=i:=fun i h0 h1=>by
  obtain⟨k,rfl⟩:∃k:Nat,i=k:=⟨i.toNat,by omega⟩;have:=ha k (by omega);exact⟨this.1.1,this.1.2,this.2⟩
 have jm:∀i j:Int,0<=i->i<j->j<n->gi x i∈gl B (gi x j):=fun i j h0 h1 h2=>by
  obtain⟨k,rfl⟩:∃k:Nat,i=k:=⟨i.toNat,by omega⟩;obtain⟨q,rfl⟩:∃q:Nat,j=q:=⟨j.toNat,by omega⟩;exact dN k q (by omega) (by omega)
 refine⟨fun i=>if i<0 then 0 else if i<n then gi x i+1 else(R.length:Int)+1,fun i h0 h1=>?_⟩
 by_cases c0:i<0
 ·have e:i= -1:=by omega
  subst e;refine⟨by show(0:Int)<=(if(-1:Int)<0 then 0 else _)/\(if(-1:Int)<0 then 0 else _)<_;rw [ay (by omega)];omega,by show gi _ (if(-1:Int)<0 then 0 else _)=_;rw [ay (by omega)];rfl,fun j _ _=>by show dC _ _ (if(-1:Int)<0 then 0 else _) _;rw [ay (by omega)];exact .inr (.inl O)⟩
 by_cases c1:i<n
 ·have hk:=key i (by omega) c1;have hz:(if i<0 then 0 else if i<n then gi x i+1 else(R.length:Int)+1)=gi x i+1:=by rw [aw c0,ay c1]
  refine⟨by show(0:Int)<=(if i<0 then 0 else if i<n then gi x i+1 else(R.length:Int)+1)/\(if i<0 then 0 else if i<n then gi x i+1 else(R.length:Int)+1)<_;rw [hz];omega,by show gi _ (if i<0 then 0 else if i<n then gi x i+1 else(R.length:Int)+1)=_;rw [hz,tT _ _ (by omega) (by omega),Int.add_sub_cancel];exact hk.2.2,fun j hj mY=>?_⟩;show dC _ _ (if i<0 then 0 else if i<n then gi x i+1 else(R.length:Int)+1) (if j<0 then 0 else if j<n then gi x j+1 else(R.length:Int)+1);rw [hz,aw (by omega)]
  by_cases c2:j<n
  ·rw [ay c2]
   by_cases e:i=j
   ·subst e;exact .inl rfl
   ·have lh:=key j (by omega) c2;exact .inr (.inr (.inr ⟨by omega,by omega,by omega,by omega,by rw [Int.add_sub_cancel,Int.add_sub_cancel];exact jm i j (by omega) (by omega) c2⟩))
  ·rw [aw c2];exact .inr (.inr (.inl rfl))
 ·have e:i=n:=by omega
  have hz:(if i<0 then 0 else if i<n then gi x i+1 else(R.length:Int)+1)=(R.length:Int)+1:=by rw [aw c0,aw c1]
  refine⟨by show(0:Int)<=(if i<0 then 0 else if i<n then gi x i+1 else(R.length:Int)+1)/\(if i<0 then 0 else if i<n then gi x i+1 else(R.length:Int)+1)<_;rw [hz];omega,by show gi _ (if i<0 then 0 else if i<n then gi x i+1 else(R.length:Int)+1)=_;rw [hz,xj];exact e.symm,fun j hj mY=>?_⟩;obtain rfl:j=i:=by omega
  exact .inl O
section
variable {m1 m2:Nat} {n1 n2:Int} {rk1 rk2:Int->Int} {b9 b6:Int->Int->Prop} [DecidableRel b9] [DecidableRel b6] {kind:Int}
theorem Td(h1:fz m1 n1 rk1 b9)(h2:fz m2 n2 rk2 b6)(c1:CQ m1 n1 rk1 b9)(c2:CQ m2 n2 rk2 b6)(nN:0<=kind/\kind<=2){k:Nat}(hk:(k:Int)=iw n1 n2 kind)(fK:1<=k)(wh:1<=n1/\(1<=n2\/kind=0)):
 aD k ((b5 m1 m2 rk1 rk2 kind k).map (cg rk1 rk2 kind)) (nX b9 b6 (b5 m1 m2 rk1 rk2 kind k))≠[]:=by
 obtain⟨z1,Hn⟩:=c1;obtain⟨z2,RE⟩:=c2;have ti:=h1.n0;have B5:=h2.n0;have r10:=h1.r0;have r1t:=h1.rt;have r20:=h2.r0;have r2t:=h2.rt;obtain⟨t,ht⟩:∃t:Int,t=if kind=2 then n1 - 1 else n1:=⟨_,rfl⟩
 obtain⟨s,hs⟩:∃s:Int,s=if kind=1 then 0 else -1:=⟨_,rfl⟩
 obtain⟨p,hpd⟩:∃p:Nat->Int,p=fun i:Nat=>if(i:Int)<=t then(i:Int)else t:=⟨_,rfl⟩
 obtain⟨q,hqd⟩:∃q:Nat->Int,q=fun i:Nat=>if(i:Int)<=t then s else s+ ((i:Int) - t):=⟨_,rfl⟩
 have hp:∀i:Nat,p i=if(i:Int)<=t then(i:Int)else t:=fun i=>by rw [hpd]
 have hq:∀i:Nat,q i=if(i:Int)<=t then s else s+ ((i:Int) - t):=fun i=>by rw [hqd]
 have sl:∀i:Nat,i<k->(-1<=p i/\p i<=n1)/\(-1<=q i/\q i<=n2)/\p i+q i+eS kind=i/\(kind=1->0<=p i/\0<=q i)/\(kind=2->p i<n1/\q i<n2):=fun i hi=>by
  rw [hp,hq];rcases(show kind=0\/kind=1\/kind=2 by omega)with rfl | rfl | rfl
  ·simp only [iw,ay]at hk;simp only [eS]at*;simp at ht hs
   split<;>simp<;>omega
  ·simp only [iw]at hk;simp only [eS]at*;simp at ht hs hk
   split<;>simp<;>omega
  simp only [iw]at hk;simp only [eS]at*;simp at ht hs hk
  split<;>simp<;>omega
 have xM:∀i:Nat,p i<=p (i+1)/\q i<=q (i+1):=fun i=>by
  rw [hp,hq,hp,hq]
  split<;>split<;>omega
 have jv:∀i:Nat,i<k->l8 m1 m2 rk1 rk2 kind i (z1 (p i),z2 (q i)):=fun i hi=>by
  have h:=sl i hi;have a:=Hn (p i) h.1.1 h.1.2;have b:=RE (q i) h.2.1.1 h.2.1.2;refine⟨a.1,b.1,by show rk1 (z1 (p i))+rk2 (z2 (q i))+eS kind=i;rw [a.2.1,b.2.1];exact h.2.2.1,fun hx=>?_⟩;rcases hx with⟨k1,e | e⟩ | ⟨k2,e | e⟩
  ·have e:z1 (p i)=0:=e;have:=a.2.1;rw [e,r10]at this;have:=(h.2.2.2.1 k1).1;omega
  ·have e:z2 (q i)=0:=e;have:=b.2.1;rw [e,r20]at this;have:=(h.2.2.2.1 k1).2;omega
  ·have e:z1 (p i)=(m1:Int) - 1:=e;have:=a.2.1;rw [e,r1t]at this;have:=(h.2.2.2.2 k2).1;omega
  have e:z2 (q i)=(m2:Int) - 1:=e;have:=b.2.1;rw [e,r2t]at this;have:=(h.2.2.2.2 k2).2;omega
 have hex:∀i:Nat,∃e:Int,i<k->(0<=e/\e< (b5 m1 m2 rk1 rk2 kind k).length)/\gp (b5 m1 m2 rk1 rk2 kind k) e=(z1 (p i),z2 (q i)):=fun i=>by
  by_cases hi:i<k
  ·obtain⟨e,h,h'⟩:=Jl hi (jv i hi);exact⟨e,fun _=> ⟨h,h'⟩⟩
  exact⟨0,fun h=>absurd h hi⟩
 obtain⟨E,hE⟩:=Classical.axiomOfChoice hex;have hE:∀i:Nat,i<k->(0<=E i/\E i< (b5 m1 m2 rk1 rk2 kind k).length)/\gp (b5 m1 m2 rk1 rk2 kind k) (E i)=(z1 (p i),z2 (q i)):=hE;have fY:∀i:Nat,i<k->gi ((List.range k).map E) i=E i:=fun i hi=>by
  rw [bO (by simpa using hi),List.getElem_map,List.getElem_range]
 have hm:(List.range k).map E∈aD k ((b5 m1 m2 rk1 rk2 kind k).map (cg rk1 rk2 kind)) (nX b9 b6 (b5 m1 m2 rk1 rk2 kind k)):=by
  refine(nG fK).2 ⟨by simp,fun i hi=>?_,fun i hi=>?_⟩
  ·rw [fY i hi,fk];have h:=hE i hi;refine⟨h.1,?_⟩;rw [zL h.1.1 h.1.2,h.2];exact(jv i hi).2.2.1
  rw [fY i (by omega),fY (i+1) hi];have h:=hE i (by omega);have h':=hE (i+1) hi;rw [vp h'.1.1 h'.1.2,uA h1 h2 h'.1];have b0:=sl i (by omega);have b1:=sl (i+1) hi;have hm:=xM i;refine⟨h.1,fun e=>?_,?_,?_⟩
  ·have e2:=h'.2;rw [<-e,h.2]at e2;have r1:=(jv i (by omega)).2.2.1;have r2:=(jv (i+1) hi).2.2.1;rw [e2,r2]at r1;omega
  ·rw [h.2,h'.2];exact(Hn (p i) b0.1.1 b0.1.2).2.2 (p (i+1)) hm.1 b1.1.2
  rw [h.2,h'.2];exact(RE (q i) b0.2.1.1 b0.2.1.2).2.2 (q (i+1)) hm.2 b1.2.1.2
 intro h;rw [h]at hm;cases hm
end
end
section
open Go.RowKit Go.MapKept
structure rJ{κ:Type}(d:TypeDesc)(kv:κ->ad):Prop where
 isKey:∀a,IsKey d (kv a)
 inj:∀a b,kv a=kv b->a=b
theorem zA:rJ .string Value.string:=⟨fun _=>av,fun a b h=>by injection h⟩
section
variable {κ ν:Type} [DecidableEq κ]
def eX:List (κ×ν)->κ->Option ν
 | [],_=>none
 | (y,v)::r,x=>if y=x then some v else eX r x
def gX:List (κ×ν)->κ->ν->List (κ×ν)
 | [],x,v=> [(x,v)]
 | (y,u)::r,x,v=>if y=x then(x,v)::r else(y,u)::gX r x v
def oj:List (κ×ν)->κ->Option (Nat×ν)
 | [],_=>none
 | (y,v)::r,x=>if y=x then some (0,v)else(oj r x).map fun p=> (p.1+1,p.2)
theorem OL:∀(L:List (κ×ν)) (x:κ),eX L x=(oj L x).map (·.2)
 | [],_=>rfl
 | (y,v)::r,x=>by
  simp only [eX,oj]
  split
  ·rfl
  ·rw [OL r x,Option.map_map];rfl
theorem ON:∀ {L:List (κ×ν)} {x:κ} {j:Nat} {v:ν},oj L x=some (j,v)->L[j]?=some (x,v)/\∀u,gX L x u=L.set j (x,u)
 | (y,w)::r,x,j,v,h=>by
  simp only [oj]at h
  split at h
  ·rename_i e;simp only [oO,Prod.mk.injEq]at h;obtain⟨rfl,rfl⟩:=h;subst e;exact⟨O,fun u=>by simp [gX]⟩
  ·rename_i e;cases hf:oj r x with
   | none=>simp [hf]at h
   | some p=>
    simp only [hf,Option.map_some,oO,Prod.mk.injEq]at h;obtain⟨rfl,rfl⟩:=h;obtain⟨h1,h2⟩:=ON (L:=r) (x:=x) (j:=p.1) (v:=p.2) hf;exact⟨by simpa using h1,fun u=>by simp only [gX,aw e,h2 u,List.set_cons_succ]⟩
theorem OM:∀ {L:List (κ×ν)} {x:κ},oj L x=none->∀u,gX L x u=L++ [(x,u)]
 | [],x,_,u=>rfl
 | (y,w)::r,x,h,u=>by
  simp only [oj]at h
  split at h
  ·cases h
  ·rename_i e;rw [Option.map_eq_none_iff]at h;simp only [gX,aw e,OM h u,List.cons_append]
theorem Dx(L:List (κ×ν))(x y:κ)(u:ν):eX (gX L x u) y=if x=y then some u else eX L y:=by
 induction L with
 | nil=>simp only [gX,eX]
 | cons p r ih=>
  obtain⟨z,w⟩:=p;simp only [gX]
  by_cases e:z=x
  ·subst e;rw [ay rfl];simp only [eX]
   split<;>simp_all
  ·rw [aw e];simp only [eX,ih]
   by_cases e2:z=y
   ·subst e2;rw [ay rfl,aw (fun h=>e h.symm),ay rfl]
   ·rw [aw e2,aw e2]
def gw(kv:κ->ad)(vv:ν->ad)(L:List (κ×ν)):List (ad×ad):=L.map fun p=> (kv p.1,vv p.2)
theorem F3{d:TypeDesc}{kv:κ->ad}{vv:ν->ad}(K:rJ d kv)(x:κ):∀(l:List MapEntry) (L:List (κ×ν)) (i:Nat),l.map (fun e=> (e.key,e.val))=gw kv vv L->Instr.findNow d (kv x) l i=some ((oj L x).map fun p=> (i+p.1,vv p.2))
 | [],[],_,_=>rfl
 | [],_::_,_,h=>by simp [gw]at h
 | _::_,[],_,h=>by simp [gw]at h
 | e::l,(y,v)::L,i,h=>by
  simp only [gw,List.map_cons,List.cons.injEq,Prod.mk.injEq]at h;obtain⟨⟨h1,h2⟩,h3⟩:=h;obtain⟨r,hr,D3⟩:=sameNow_of_keys (K.isKey x) (K.isKey y);simp only [Instr.findNow,oj];rw [h1,hr];cases r with
  | true=>
   have e1:=K.inj _ _ (D3.1 O);subst e1;simp [h2]
  | false=>
   have bt:¬y=x:=fun q=>by
    have:=D3.2 (by rw [q]);cases this
   rw [aw bt];simp only;rw [F3 K x l L (i+1) h3,Option.map_map]
   congr 2
   funext p;simp only [Function.comp];rw [Nat.add_assoc,Nat.add_comm 1]
end
def ij(t:ae)(g:Nat)(uw:List (ad×ad)):Ck:=⟨some ⟨g,0,none⟩,0,0,t,.tuple #[]::uW uw⟩
def xa(w:aa)(g:Nat)(uw:List (ad×ad)):Prop:=∃es cl,w.heap[g]?=some (.map es cl)/\es.toList.map (fun e=> (e.key,e.val))=uw
section
variable {w0 w w':aa} {ks:List Ck} {t:ae} {g:Nat} {uw:List (ad×ad)}
theorem St.HF(h:St w0 w ks)(i:Nat)(hk:ks[i]?=some (ij t g uw)):w0.heap.size<=g/\xa w g uw:=by
 rcases(h.get hk).cases with⟨_,_,_,g',es,cl,hA,hg,hh,hv⟩ | ⟨hm,_⟩
 ·have hA:some (⟨g,0,Option.none⟩:Addr)=some ⟨g',0,Option.none⟩:=hA;simp only [oO,Addr.mk.injEq,and_true]at hA;subst hA;have hv:(.tuple #[]::uW uw:List ad)= .tuple #[]::uW (es.toList.map fun e=> (e.key,e.val)):=hv;simp only [List.cons.injEq,true_and]at hv;exact⟨hg,es,cl,hh,(OE hv).symm⟩
 cases hm
theorem St.Cu(h:St w0 w ks)(i:Nat)(hk:ks[i]?=some (ij t g uw)):xa w g uw:=(h.HF i hk).2
theorem St.VT(h:St w0 w ks)(t:ae):St w0 (w.alloc (.map #[] 0)) (ij t w.heap.size []::ks):=by
 have hb:Below w.heap.size w (w.alloc (.map #[] 0)):=(Below.refl _ _).alloc (bj _) _;have h1:=h.aq hb;refine⟨h1.below,fun k hk=>?_,?_⟩
 ·rcases jq.1 hk with rfl | hk
  ·exact .ofM O ⟨O,O,_, #[],0,O,h.below.size,heap_alloc_new w _,O⟩
  exact h1.own k hk
 simp only [List.filterMap_cons,ij,Ck.ik,Option.map_some,nt];refine⟨fun bW=>?_,h.apart⟩;obtain⟨k',eN,qi⟩:=List.mem_filterMap.1 bW;have:=((h.own k' eN).lt qi).2;omega
theorem St.H5{i:Nat}{Lu:List (ad×ad)}{Jp:Array MapEntry}{NL:Nat}(h:St w0 w ks)(hk:ks[i]?=some (ij t g uw))(hv:Jp.toList.map (fun e=> (e.key,e.val))=Lu):St w0 { w with heap:=w.heap.setIfInBounds g (.map Jp NL) } (ks.set i (ij t g Lu)):=by
 obtain⟨hg,es,cl,hh,_⟩:=h.HF i hk;refine h.turn (k:=ij t g uw) (k':=ij t g Lu) (g:=g) hk O O ⟨⟨O,O,O,by simp,fun x _ hx=>?_⟩,bj _⟩ ?_
 ·exact(heap_set hh).2 x fun e=>hx (by rw [e])
 refine .ofM O ⟨O,O,g,Jp,NL,O,hg,(heap_set hh).1,?_⟩;rw [hv];rfl
end
section
variable{t kt et T:ae}{b:Nat}{ix k x:ag}
variable {P:Program} {N:Nat} {ops:Array Oper} {K:Env->aa->Prop} {rest:List Oper} {e:Env} {w0 w w':aa} {ks:List Ck} {d:Nat} {ty:ae} {pos:String} {af:Array Edge}
variable {κ ν:Type} [DecidableEq κ] {kd:TypeDesc} {kv:κ->ad} {vv:ν->ad}
theorem C0(hS:St w0 w ks)(hb:Nat.blt d N=true)(hK:∀g w',St w0 w' (ij t g []::ks)->ao P N ops K rest (bq e d (.map (some g))) w'):
 ao P N ops K (⟨some d,.makeMap t none,ty,pos,af,none⟩::rest) e w:=
 .val (w':=w.alloc (.map #[] 0)) (by simp [execOp,run_makeMap]) hb (hK _ _ (hS.VT t))
theorem Mh{z:ad}{s:Nat}[hU:bJ P t (.map kt et)][hk:bJ P kt kd][bF P et z s b](KT:rJ kd kv){g:Nat}{L:List (κ×ν)}{x:κ}(hR:xa w g (gw kv vv L))(ok:Bool):
 (Instr.lookup t (.map (some g)) (kv x) ok).run P w= .ok (if ok then .tuple #[((eX L x).map vv).getD z,.bool (eX L x).isSome]else((eX L x).map vv).getD z) w:=by
 obtain⟨es,cl,hh,hm⟩:=hR;obtain⟨inf,hi,fH,_,_⟩:=bF.get P et;have hf:=F3 (vv:=vv) KT x es.toList L 0 hm;rw [OL];unfold Instr.lookup;simp only [Sem.run_bind,run_underlying hU.out,Result.andThen,MapKept.run_getObj_map hh,MapKept.run_checkKey hk.out (KT.isKey x)];cases mq:oj L x with
 | none=>
  rw [mq]at hf;have v8:=MapKept.run_findKey (P:=P) (w:=w) hk.out hf;cases ok<;>simp [v8,zeroValue,typeInfo,hi,fH]
 | some p=>
  rw [mq]at hf;have v8:=MapKept.run_findKey (P:=P) (w:=w) hk.out hf;cases ok<;>simp [v8]
theorem ao.look{z v:ad}{s:Nat}[bJ P t (.map kt et)][bJ P kt kd][bF P et z s b](KT:rJ kd kv){g:Nat}{L:List (κ×ν)}{m:ag}{x:κ}(hR:xa w g (gw kv vv L))(hx:ev e m= .map (some g))(hy:ev e ix=kv x)(hv:((eX L x).map vv).getD z=v)(hb:Nat.blt d N=true)(hK:ao P N ops K rest (bq e d v) w):ao P N ops K (⟨some d,.lookup t m ix false,ty,pos,af,none⟩::rest) e w:=by
 subst hv;refine .val (w':=w) ?_ hb hK;have:=Mh (P:=P) (t:=t) (x:=x) KT hR false;simp [execOp,hx,hy,this]
theorem Vi[bJ P t (.map kt et)][bJ P kt kd][bF P et (.bool false) 1 b](KT:rJ kd kv){g:Nat}{L:List (κ×Bool)}{m:ag}(x:κ)(hR:xa w g (gw kv Value.bool L))(hx:ev e m= .map (some g))(hy:ev e ix=kv x)(hb:Nat.blt d N=true)(hK:ao P N ops K rest (bq e d (.bool ((eX L x).getD false))) w):ao P N ops K (⟨some d,.lookup t m ix false,ty,pos,af,none⟩::rest) e w:=
 .look KT hR hx hy (by cases eX L x<;>rfl) hb hK
theorem Vk[bJ P t (.map kt et)][bJ P kt kd][bF P et (ak 0) 1 b](KT:rJ kd kv){g:Nat}{L:List (κ×Int)}{m:ag}(x:κ)(hR:xa w g (gw kv (Value.int .i64) L))(hx:ev e m= .map (some g))(hy:ev e ix=kv x)(hb:Nat.blt d N=true)(hK:ao P N ops K rest (bq e d (ak ((eX L x).getD 0))) w):ao P N ops K (⟨some d,.lookup t m ix false,ty,pos,af,none⟩::rest) e w:=
 .look KT hR hx hy (by cases eX L x<;>rfl) hb hK
theorem Vm[bJ P t (.map kt et)][bJ P kt kd][bF P et (ak 0) 1 b](KT:rJ kd kv){g:Nat}{L:List (κ×Int)}{m:ag}(x:κ)(hR:xa w g (gw kv (Value.int .i64) L))(hx:ev e m= .map (some g))(hy:ev e ix=kv x)(hb:Nat.blt d N=true)(hK:ao P N ops K rest (bq e d (.tuple #[ak ((eX L x).getD 0),.bool (eX L x).isSome])) w):ao P N ops K (⟨some d,.lookup t m ix true,ty,pos,af,none⟩::rest) e w:=by
 refine .val (w':=w) ?_ hb hK;have:=Mh (P:=P) (t:=t) (x:=x) KT hR true;have e1:((eX L x).map (Value.int .i64)).getD (ak 0)=ak ((eX L x).getD 0):=by cases eX L x<;>rfl
 rw [e1]at this;simp [execOp,hx,hy,this]
theorem agb[hU:bJ P t (.map kt et)][hk:bJ P kt kd](KT:rJ kd kv){g:Nat}{L:List (κ×ν)}(i:Nat)(x:κ)(u:ν)(hS:St w0 w ks)(hi:ks[i]?=some (ij T g (gw kv vv L))):
 ∃w',(Instr.mapUpdate t (.map (some g)) (kv x) (vv u)).run P w= .ok () w'/\St w0 w' (ks.set i (ij T g (gw kv vv (gX L x u)))):=by
 obtain⟨_,es,cl,hh,hm⟩:=hS.HF i hi;have hf:=F3 (vv:=vv) KT x es.toList L 0 hm;have v8:=MapKept.run_findKey (P:=P) (w:=w) hk.out hf;cases mq:oj L x with
 | none=>
  refine⟨{ w with heap:=w.heap.setIfInBounds g (.map (es.push ⟨kv x,vv u,cl⟩) (cl+1)) },?_,hS.H5 hi ?_⟩
  ·simp [Instr.mapUpdate,run_underlying hU.out,MapKept.run_getObj_map hh,MapKept.run_checkKey hk.out (KT.isKey x),v8,mq,MapKept.run_setObj_map _ hh,Result.andThen]
  ·rw [OM mq];simp only [Array.toList_push,jb,hm,gw]
   rfl
 | some p=>
  obtain⟨j,v⟩:=p;obtain⟨h1,h2⟩:=ON mq;have lR:j<L.length:=(gS.1 h1).1;have jv:es.toList.length=L.length:=by have:=aO List.length hm;simpa [gw]using this
  have hes:es.size=L.length:=by simpa using jv
  have xJ:j<es.size:=by omega
  have aat:es[j].key=kv x:=by
   have:=aO (fun l=>l[j]?) hm;simp [gw,h1,xJ]at this;exact this.1
  have au:=MapKept.run_keyThatStays (P:=P) (w:=w) (KT.isKey x);refine⟨{ w with heap:=w.heap.setIfInBounds g (.map (es.modify j fun e=> { e with key:=kv x,val:=vv u }) cl) },?_,hS.H5 hi ?_⟩
  ·simp [Instr.mapUpdate,run_underlying hU.out,MapKept.run_getObj_map hh,MapKept.run_checkKey hk.out (KT.isKey x),v8,mq,MapKept.run_setObj_map _ hh,Result.andThen,xJ,aat,au]
  ·rw [h2 u];apply List.ext_getElem?;intro q;have hq:=aO (fun l=>l[q]?) hm;simp only [gw,List.getElem?_map,Array.getElem?_toList]at hq;simp only [gw,List.getElem?_map,mG,Array.getElem?_toList,Array.getElem?_modify]
   by_cases e1:j=q
   ·subst e1;simp [xJ,lR]
   ·rw [aw e1,aw e1];exact hq
def Ug:Op->Option (ae×ag×ag×ag)
 | .mapUpdate t m k x=>some (t,m,k,x)
 | .insert t m k x=>some (t,m,k,x)
 | _=>none
theorem Ag{op:Op}{m:ag}[hU:bJ P t (.map kt et)][bJ P kt kd](tl:Ug op=some (t,m,k,x))(KT:rJ kd kv){g:Nat}{L:List (κ×ν)}(i:Nat){a:κ}{u:ν}(hS:St w0 w ks)(hi:ks[i]?=some (ij T g (gw kv vv L)))(hm:ev e m= .map (some g))(hk:ev e k=kv a)(hx:ev e x=vv u)(hK:∀w',St w0 w' (ks.set i (ij T g (gw kv vv (gX L a u))))->ao P N ops K rest e w'):ao P N ops K (⟨none,op,ty,pos,af,none⟩::rest) e w:=by
 obtain⟨w',qm,nI⟩:=agb (P:=P) (t:=t) KT i a u hS hi;refine .unit (w':=w') ?_ (hK _ nI);cases op<;>simp [Ug]at tl<;>obtain⟨rfl,rfl,rfl,rfl⟩:=tl<;>simp [execOp,hm,hk,hx,qm]
end
end
end Go.Proofs.YtagdamiiececaaaGreatDoor.Vc
