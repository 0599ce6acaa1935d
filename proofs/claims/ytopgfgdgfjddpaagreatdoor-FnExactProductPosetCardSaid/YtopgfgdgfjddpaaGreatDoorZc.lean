/-
  The texts Drn, Agg, G1, G2, G3, Gct, G4, G5, F1, F2, Cyc, C1, C2 in one. Conditions: as each part states them.
-/
import Derived.Test.YtopgfgdgfjddpaaGreatDoorZb
import Derived.KernelRfl
import Derived.Test.YtopgfgdgfjddpaaGreatDoorZa
/-
 A statement whose order Go leaves open, with any operations that turn memory: each world's property holds till the next of them.
-/
namespace Go.Proofs.YtopgfgdgfjddpaaGreatDoor.Vc
open Go.RowKit
def dsl (l : List Oper) : List Nat := l.filterMap (·.dst)
theorem filterMap_inj {α β : Type} (f : α → Option β) : ∀ (l : List α), (l.filterMap f).Nodup → ∀ (i j : Nat) (a b : α) (d : β), l[i]? = some a → l[j]? = some b → f a = some d → f b = some d → i = j
 | [], _, i, j, a, b, d, hi, _, _, _ => by simp at hi
 | x :: l, hn, i, j, a, b, d, hi, hj, ha, hb => by
  have mem : ∀ (k : Nat) (c : α), l[k]? = some c → f c = some d → d ∈ l.filterMap f := fun k c hk hc => List.mem_filterMap.2 ⟨c, List.mem_of_getElem? hk, hc⟩
  cases hx : f x with
  | none =>
   rw [List.filterMap_cons, hx] at hn
   cases i with
   | zero => simp at hi; subst hi; rw [hx] at ha; cases ha
   | succ i =>
    cases j with
    | zero => simp at hj; subst hj; rw [hx] at hb; cases hb
    | succ j => rw [filterMap_inj f l hn i j a b d (by simpa using hi) (by simpa using hj) ha hb]
  | some y =>
   rw [List.filterMap_cons, hx] at hn
   simp only [List.nodup_cons] at hn
   cases i with
   | zero =>
    simp at hi; subst hi
    rw [hx] at ha; cases ha
    cases j with
    | zero => rfl
    | succ j => exact absurd (mem j b (by simpa using hj) hb) hn.1
   | succ i =>
    cases j with
    | zero =>
     simp at hj; subst hj
     rw [hx] at hb; cases hb
     exact absurd (mem i a (by simpa using hi) ha) hn.1
    | succ j => rw [filterMap_inj f l hn.2 i j a b d (by simpa using hi) (by simpa using hj) ha hb]
def valOf (o : Oper) (e : Env) : Value := match o.dst with
 | some d => e d
 | none => undef
def isEx : Yd → Bool
 | .ex _ => true
 | .pr _ => false
def drawOkN (N : Nat) (l : List Oper) (ys : List Yd) (ms : List Nat) : Bool :=
 l.all (fun o => match o.dst with | some d => Nat.blt d N | none => true) && decide ((dsl l).Nodup) && (l.zipIdx.all fun p => (aft p.1).all fun ed => Nat.blt ed.on p.2) && Nat.beq l.length ys.length && (l.zip ys).all (fun p => p.1.dst.isSome || !isEx p.2) && decide ms.Nodup && ms.all (fun m => Nat.blt m l.length) && (ys.zipIdx.all fun p => !(isEx p.1) || !(ms.contains p.2))
def loOf (l : List Oper) (ms : List Nat) (k : Nat) : Nat := ms.countP fun m => ancOf l l.length k m
def hiOf (l : List Oper) (ms : List Nat) (k : Nat) : Nat := ms.countP fun m => !(ancOf l l.length m k) && !(Nat.beq m k)
def phOf (l : List Oper) (ms : List Nat) (k : Nat) : Nat := ms.countP fun m => Nat.beq m k || ancOf l l.length k m
def chainAt (l : List Oper) (ms : List Nat) (m : Nat) : Bool := ms.all fun m' => Nat.beq m' m || ancOf l l.length m m' || ancOf l l.length m' m
def Yd.at_ (c ph : Nat) : Yd → Value → World → Prop
 | .ex v, u, _ => u = v
 | .pr p, u, w => c = ph → p u w
def endFrN : List Oper → List Yd → (Nat → Value) → Nat → List (Nat × Value)
 | o :: l, y :: ys, u, i => match o.dst, y with
  | some d, .ex v => (d, v) :: endFrN l ys u (i + 1)
  | some d, .pr _ => (d, u i) :: endFrN l ys u (i + 1)
  | none, _ => endFrN l ys u (i + 1)
 | _, _, _, _ => []
def depFrN (l : List Oper) (ys : List Yd) : List Edge → List (Nat × Value)
 | [] => []
 | ed :: r => match ys[ed.on]?, (l[ed.on]?).bind (·.dst) with
  | some (.ex v), some d => (d, v) :: depFrN l ys r
  | _, _ => depFrN l ys r
theorem le_of_lo {a b c : Nat} (h : a ≤ c) (e : a = b) : b ≤ c := e ▸ h
theorem le_of_hi {a b c : Nat} (h : c ≤ a) (e : a = b) : c ≤ b := e ▸ h
theorem cc_of {a b c d : Nat} (h : a ≤ c) (k : c ≤ d) (e : a = b := by kernel_rfl) (f : d = b := by kernel_rfl) : c = b := by omega
section
variable {P : Program} {N : Nat} {e : Env} {w : World}
def AfterN (o : Oper) (y : Yd) (e1 : Env) (w1 : World) : Env → World → Prop := fun e2 w2 => Below w1.heap.size w1 w2 ∧ y.holds (valOf o e2) w2 ∧ ∀ j, o.dst ≠ some j → e2 j = e1 j
def AfterT (o : Oper) (y : Yd) (e1 : Env) : Env → World → Prop := fun e2 w2 => y.holds (valOf o e2) w2 ∧ ∀ j, o.dst ≠ some j → e2 j = e1 j
theorem upd_at (e1 : Env) (d : Nat) (v : Value) : upd e1 d v d = v := by unfold upd; rw [Nat.beq_refl]; rfl
theorem upd_ne (e1 : Env) {d j : Nat} (v : Value) (h : j ≠ d) : upd e1 d v j = e1 j := by
 have : Nat.beq j d = false := by
  cases hb : Nat.beq j d with
  | false => rfl
  | true => exact absurd (Nat.eq_of_beq_eq_true hb) h
 unfold upd; rw [this]; rfl
theorem AfterN.dn {o : Oper} {y : Yd} {e1 : Env} {w1 w2 : World} {d : Nat} {v : Value} (hd : o.dst = some d) (hb : Below w1.heap.size w1 w2) (hv : y.holds v w2) : AfterN o y e1 w1 (upd e1 d v) w2 := by
 refine ⟨hb, ?_, fun j hj => upd_ne e1 v (fun h => hj (by rw [hd, h]))⟩
 unfold valOf; rw [hd]
 show y.holds (upd e1 d v d) w2
 rw [upd_at]; exact hv
theorem n0 {o : Oper} {y : Yd} {e1 : Env} {w1 : World} {d : Nat} {v : Value} (hd : o.dst = some d) (hv : y.holds v w1) : AfterN o y e1 w1 (upd e1 d v) w1 := AfterN.dn hd (Below.refl _ _) hv
theorem AfterT.dn {o : Oper} {y : Yd} {e1 : Env} {w2 : World} {d : Nat} {v : Value} (hd : o.dst = some d) (hv : y.holds v w2) : AfterT o y e1 (upd e1 d v) w2 := by
 refine ⟨?_, fun j hj => upd_ne e1 v (fun h => hj (by rw [hd, h]))⟩
 unfold valOf; rw [hd]
 show y.holds (upd e1 d v d) w2
 rw [upd_at]; exact hv
theorem AfterT.st {o : Oper} {y : Yd} {e1 : Env} {w2 : World} (hd : o.dst = none) (hv : y.holds undef w2) : AfterT o y e1 e1 w2 := by
 refine ⟨?_, fun j _ => O⟩
 unfold valOf; rw [hd]; exact hv
def StepN (P : Program) (N : Nat) (l : List Oper) (ys : List Yd) (ms : List Nat) (e : Env) (w : World) (i : Nat) (o : Oper) : Prop :=
 ∀ (e1 : Env) (w1 : World) (c : Nat), loOf l ms i ≤ c → c ≤ hiOf l ms i → (c = 0 → Below w.heap.size w w1) → (∀ (j : Nat) (y : Yd) (o' : Oper), ancOf l l.length i j = true → ys[j]? = some y → l[j]? = some o' → y.at_ c (phOf l ms j) (valOf o' e1) w1) → (∀ (j : Nat) (o' : Oper), l[j]? = some o' → ancOf l l.length j i = true → valOf o' e1 = valOf o' e) → (∀ (m : Nat) (y : Yd) (o' : Oper), memb ms m = true → chainAt l ms m = true → phOf l ms m = c → ys[m]? = some y → l[m]? = some o' → y.at_ c (phOf l ms m) (valOf o' e1) w1) →
  bif memb ms i then Ops P N l.toArray (AfterT o (ys.getD i (.pr fun _ _ => True)) (ext (mix e1 e (dsl l)) (depFrN l ys (aft o)))) [o] (ext (mix e1 e (dsl l)) (depFrN l ys (aft o))) w1
  else Ops P N l.toArray (AfterN o (ys.getD i (.pr fun _ _ => True)) (ext (mix e1 e (dsl l)) (depFrN l ys (aft o))) w1) [o] (ext (mix e1 e (dsl l)) (depFrN l ys (aft o))) w1
theorem DkN {ops : Array Oper} {o : Oper} {y : Yd} {e1 : Env} {w1 : World} {d : Nat} {v : Value} (h : stpG ops N e1 o = some (d, v)) (hv : y.holds v w1) : Ops P N ops (AfterN o y e1 w1) [o] e1 w1 := .stpG h (AfterN.dn (stpG_dst h) (Below.refl _ _) hv)
def StepsN (P : Program) (N : Nat) (l : List Oper) (ys : List Yd) (ms : List Nat) (e : Env) (w : World) : Nat → List Oper → Prop
 | _, [] => True
 | i, o :: r => StepN P N l ys ms e w i o ∧ StepsN P N l ys ms e w (i + 1) r
theorem StepsN.get {l : List Oper} {ys : List Yd} {ms : List Nat} : ∀ {r : List Oper} {i : Nat}, StepsN P N l ys ms e w i r → ∀ k o, r[k]? = some o → StepN P N l ys ms e w (i + k) o
 | [], _, _, k, o, hk => by simp at hk
 | x :: r, i, h, 0, o, hk => by simp at hk; subst hk; exact h.1
 | x :: r, i, h, k + 1, o, hk => by
  have := StepsN.get h.2 k o (by simpa using hk)
  rw [show i + 1 + k = i + (k + 1) by omega] at this
  exact this
theorem depFrN_mt {l : List Oper} {ys : List Yd} {e1 : Env} : ∀ (af : List Edge), (∀ ed ∈ af, ∀ (v : Value) (o' : Oper), ys[ed.on]? = some (.ex v) → l[ed.on]? = some o' → valOf o' e1 = v) → Mt e1 (depFrN l ys af)
 | [], _ => trivial
 | ed :: r, h => by
  have hr := depFrN_mt r (fun x hx => h x (List.mem_cons_of_mem _ hx))
  unfold depFrN
  split
  ·rename_i v d hy hd
   refine ⟨?_, hr⟩
   cases ho : l[ed.on]? with
   | none => rw [ho] at hd; cases hd
   | some o' =>
    rw [ho] at hd
    have hd' : o'.dst = some d := hd
    have := h ed (by simp) v o' hy ho
    unfold valOf at this
    rw [hd'] at this
    exact this
  ·exact hr
theorem endFrN_eq {e1 e : Env} : ∀ (l : List Oper) (ys : List Yd) (i : Nat), l.length = ys.length → (dsl l).Nodup → (∀ (k : Nat) (v : Value) (o : Oper), ys[k]? = some (.ex v) → l[k]? = some o → valOf o e1 = v ∨ o.dst = none) →
  ∃ u : Nat → Value, ext e (endFrN l ys u i) = mix e1 e (dsl l) ∧ (∀ (k : Nat) (o : Oper), l[k]? = some o → u (i + k) = valOf o e1)
 | [], [], i, _, _, _ => ⟨fun _ => undef, by funext j; rfl, fun k o h => by simp at h⟩
 | [], y :: ys, i, hl, _, _ => by simp at hl
 | o :: l, [], i, hl, _, _ => by simp at hl
 | o :: l, y :: ys, i, hl, hn, h => by
  have hn' : (dsl l).Nodup := by
   unfold dsl at hn ⊢
   rw [List.filterMap_cons] at hn
   split at hn
   ·exact hn
   ·exact (List.nodup_cons.1 hn).2
  obtain ⟨u, hu, hu2⟩ := endFrN_eq (e1 := e1) (e := e) l ys (i + 1) (by simpa using hl) hn' (fun k v o' hy ho => h (k + 1) v o' (by simpa using hy) (by simpa using ho))
  have cng : ∀ (l : List Oper) (ys : List Yd) (i : Nat) (u u' : Nat → Value), (∀ k, i ≤ k → u k = u' k) → endFrN l ys u i = endFrN l ys u' i := by
   intro l
   induction l with
   | nil => intros; rfl
   | cons o l ih =>
    intro ys i u u' hk
    cases ys with
    | nil => rfl
    | cons y ys =>
     have h1 := ih ys (i + 1) u u' (fun k hk' => hk k (by omega))
     simp only [endFrN]
     rw [h1, hk i (by omega)]
  have hc := cng l ys (i + 1) (fun k => if k = i then valOf o e1 else u k) u (fun k hk => by show (if k = i then _ else _) = _; rw [if_neg (by omega)])
  refine ⟨fun k => if k = i then valOf o e1 else u k, ?_, fun k o' hk => ?_⟩
  ·cases hd : o.dst with
   | none =>
    have e1' : dsl (o :: l) = dsl l := by unfold dsl; rw [List.filterMap_cons, hd]
    simp only [endFrN, hd, hc, hu, e1']
   | some d =>
    have e1' : dsl (o :: l) = d :: dsl l := by unfold dsl; rw [List.filterMap_cons, hd]
    have hval : valOf o e1 = e1 d := by unfold valOf; rw [hd]
    have hstep : ∀ v, v = e1 d → upd (mix e1 e (dsl l)) d v = mix e1 e (d :: dsl l) := by
     intro v hv
     funext j
     simp only [upd, mix, memb]
     cases hb : Nat.beq j d with
     | true => rw [Nat.eq_of_beq_eq_true hb, hv]; rfl
     | false => rfl
    rw [e1']
    cases y with
    | ex v =>
     have h0 := h 0 v o O O
     simp only [endFrN, hd, ext, hc, hu]
     refine hstep v ?_
     rcases h0 with h0 | h0
     ·rw [← h0, hval]
     ·rw [hd] at h0; cases h0
    | pr p =>
     simp only [endFrN, hd, ext, hc, hu, if_pos]
     exact hstep _ hval
  ·cases k with
   | zero => simp at hk; subst hk; simp
   | succ k =>
    have := hu2 k o' (by simpa using hk)
    show (if i + (k + 1) = i then _ else u (i + (k + 1))) = _
    rw [if_neg (by omega), ← this]; congr 1; omega
theorem countP_le_of {ms : List Nat} {p q : Nat → Bool} (h : ∀ m ∈ ms, p m = true → q m = true) : ms.countP p ≤ ms.countP q := List.countP_mono_left h
theorem Cd.drawN {id : Nat} {l : List Oper} {Q : Post} (ms : List Nat) (ys : List Yd) (hm : P.follows .mixedOrders = true) (hok : drawOkN N l ys ms = true) (hlasts : ∀ y ∈ ys, y.lasts)
    (hsteps : StepsN P N l ys ms e w 0 l) (hend : ∀ u w1, (ms = [] → Below w.heap.size w w1) → (∀ (k : Nat) (p : Value → World → Prop), ys[k]? = some (Yd.pr p) → phOf l ms k = ms.length → p (u k) w1) → Q .normal (ext e (endFrN l ys u 0)) w1) : Cd P N (.region id l.toArray true) Q e w := .mk' fun a ha => by
  simp only [drawOkN, Bool.and_eq_true, List.all_eq_true, decide_eq_true_eq] at hok
  obtain ⟨⟨⟨⟨⟨⟨⟨h1, h2⟩, h3⟩, hlen⟩, hnone⟩, hmn⟩, hml⟩, hmy⟩ := hok
  have hlen' : l.length = ys.length := Nat.eq_of_beq_eq_true hlen
  have hback : ∀ (i : Nat) (o : Oper), l[i]? = some o → ∀ ed ∈ aft o, ed.on < i := by
    intro i o ho ed hed
    have := h3 (o, i) (by
      obtain ⟨hi, hio⟩ := List.getElem?_eq_some_iff.1 ho
      rw [List.mem_iff_getElem?]
      exact ⟨i, by simp [ho]⟩)
    simpa [Nat.blt_eq] using this ed hed
  have hdN : ∀ (i : Nat) (o : Oper) (d : Nat), l[i]? = some o → o.dst = some d → d < N := by
    intro i o d ho hd
    have := h1 o (List.mem_of_getElem? ho)
    rw [hd] at this
    simpa [Nat.blt_eq] using this
  have hexd : ∀ (i : Nat) (o : Oper) (v : Value), l[i]? = some o → ys[i]? = some (.ex v) → o.dst ≠ none := by
    intro i o v ho hy hd
    have := hnone (o, .ex v) (by
      rw [List.mem_iff_getElem?]
      exact ⟨i, by rw [List.getElem?_zip_eq_some]; exact ⟨ho, hy⟩⟩)
    simp [hd, isEx] at this
  have hmpr : ∀ (m : Nat) (y : Yd), m ∈ ms → ys[m]? = some y → ∃ p, y = .pr p := by
    intro m y hmm hy
    have := hmy (y, m) (by
      obtain ⟨hi, hio⟩ := List.getElem?_eq_some_iff.1 hy
      rw [List.mem_iff_getElem?]
      exact ⟨m, by simp [hy]⟩)
    cases y with
    | ex v => simp [isEx, hmm] at this
    | pr p => exact ⟨p, rfl⟩
  refine wp_region_any hm ?_
  let cnt : Array Bool → Nat := fun listed => ms.countP fun m => listed.getD m false
  have key : ∀ (fuel : Nat) (listed : Array Bool) (a1 : Act) (e1 : Env) (w1 : World), Rep N a1 e1 → (cnt listed = 0 → Below w.heap.size w w1) → (∀ j, memb (dsl l) j = false → e1 j = e j) → listed.size = l.length →
      (∀ (i : Nat) (y : Yd) (o : Oper), listed.getD i false = true → ys[i]? = some y → l[i]? = some o → y.at_ (cnt listed) (phOf l ms i) (valOf o e1) w1) → (∀ (i : Nat) (o : Oper), listed.getD i false = true → l[i]? = some o → ∀ ed ∈ aft o, listed.getD ed.on false = true) → (∀ (i : Nat) (o : Oper), listed.getD i false = false → l[i]? = some o → valOf o e1 = valOf o e) → (l.length - fuel ≤ (List.range l.length).countP fun i => listed.getD i false) →
      wpAny P .any l.toArray (low N Q) fuel listed a1 w1 := by
    have hfin : ∀ (listed : Array Bool) (a1 : Act) (e1 : Env) (w1 : World), Rep N a1 e1 → (cnt listed = 0 → Below w.heap.size w w1) → (∀ j, memb (dsl l) j = false → e1 j = e j) →
        (∀ (i : Nat) (y : Yd) (o : Oper), listed.getD i false = true → ys[i]? = some y → l[i]? = some o → y.at_ (cnt listed) (phOf l ms i) (valOf o e1) w1) → (∀ i, i < l.length → listed.getD i false = true) → low N Q .normal a1 w1 := by
      intro listed a1 e1 w1 hr hb hag hS hall
      have hcnt : cnt listed = ms.length := by
        show ms.countP _ = ms.length
        rw [List.countP_eq_length]
        intro m hmm
        exact hall m (by simpa [Nat.blt_eq] using hml m hmm)
      obtain ⟨u, hu, hu2⟩ := endFrN_eq (e1 := e1) (e := e) l ys 0 hlen' h2 (fun k v o hy ho => .inl (hS k _ o (hall k (List.getElem?_eq_some_iff.1 ho).1) hy ho))
      refine ⟨e1, hr, ?_⟩
      have := hend u w1 (fun h0 => hb (by rw [hcnt, h0]; rfl)) (fun k p hk hph => by
        have hkl : k < l.length := by rw [hlen']; exact (List.getElem?_eq_some_iff.1 hk).1
        have h5 := hS k _ l[k] (hall k hkl) hk (List.getElem?_eq_getElem hkl)
        have h6 := hu2 k l[k] (List.getElem?_eq_getElem hkl)
        rw [Nat.zero_add] at h6
        rw [h6]; exact h5 (by rw [hcnt, hph]))
      rw [hu, mix_eq hag] at this
      exact this
    have hready : ∀ (listed : Array Bool), listed.size = l.length → Region.ready .any l.toArray listed = [] → ∀ i, i < l.length → listed.getD i false = true := by
      intro listed hsz hnil i
      induction i using Nat.strongRecOn with
      | _ i ih =>
        intro hi
        cases hli : listed.getD i false with
        | true => rfl
        | false =>
          exfalso
          have : i ∈ Region.ready .any l.toArray listed := by
            rw [mem_ready]
            refine ⟨?_, l[i], by simp [hi], fun ed hed hbd => ih ed.on (hback i _ (List.getElem?_eq_getElem hi) ed (mem_aft.2 ⟨hed, hbd⟩)) (by have := hback i _ (List.getElem?_eq_getElem hi) ed (mem_aft.2 ⟨hed, hbd⟩); omega)⟩
            rw [Array.getD_eq_getD_getElem?, Array.getElem?_eq_getElem (by omega)] at hli ⊢
            exact hli
          rw [hnil] at this
          cases this
    intro fuel
    induction fuel with
    | zero =>
      intro listed a1 e1 w1 hr hb hag hsz hS hcl hun0 hcnt
      have hall : ∀ i, i < l.length → listed.getD i false = true := by
        have h4 : (List.range l.length).countP (fun i => listed.getD i false) = (List.range l.length).length := by
          have := List.countP_le_length (p := fun i => listed.getD i false) (l := List.range l.length)
          simp at this hcnt ⊢; omega
        rw [List.countP_eq_length] at h4
        intro i hi
        exact h4 i (by simpa using hi)
      refine ⟨?_, hfin listed a1 e1 w1 hr hb hag hS hall⟩
      rw [List.eq_nil_iff_forall_not_mem]
      intro i hi
      obtain ⟨h5, o, ho, _⟩ := mem_ready.1 hi
      have hil : i < l.length := by
        rcases Nat.lt_or_ge i l.length with h | h
        · exact h
        · simp [List.getElem?_eq_none h] at ho
      have h6 := hall i hil
      rw [Array.getD_eq_getD_getElem?, Array.getElem?_eq_getElem (by omega)] at h5 h6
      simp at h5 h6
      rw [h5] at h6; cases h6
    | succ fuel ih =>
      intro listed a1 e1 w1 hr hb hag hsz hS hcl hun0 hcnt
      refine ⟨fun hnil => hfin listed a1 e1 w1 hr hb hag hS (hready listed hsz hnil), fun i hi => ?_⟩
      obtain ⟨hun, o, ho, haf⟩ := mem_ready.1 hi
      have ho' : l[i]? = some o := by simpa using ho
      have hil : i < l.length := (List.getElem?_eq_some_iff.1 ho').1
      have hrd : ∀ ed ∈ aft o, listed.getD ed.on false = true := fun ed hed => haf ed (mem_aft.1 hed).1 (mem_aft.1 hed).2
      have hun' : listed.getD i false = false := by
        have h5 := hun
        rw [Array.getD_eq_getD_getElem?, Array.getElem?_eq_getElem (by omega)] at h5 ⊢
        exact h5
      have hgs : ∀ k, (listed.setIfInBounds i true).getD k false = if k = i then true else listed.getD k false := by
        intro k
        rw [Array.getD_eq_getD_getElem?, Array.getElem?_setIfInBounds]
        by_cases hki : k = i
        · subst hki; rw [if_pos rfl, if_pos (by omega), if_pos rfl]; rfl
        · rw [if_neg (fun e => hki e.symm), if_neg hki, ← Array.getD_eq_getD_getElem?]
      have hlo : loOf l ms i ≤ cnt listed := countP_le_of fun m _ h => ancOf_ready hcl ho' hrd _ _ h
      have hhi : cnt listed ≤ hiOf l ms i := countP_le_of fun m _ h => by
        have hne : Nat.beq m i = false := by
          cases hb : Nat.beq m i with
          | false => rfl
          | true => rw [Nat.eq_of_beq_eq_true hb, hun'] at h; cases h
        have han : ancOf l l.length m i = false := by
          cases hb : ancOf l l.length m i with
          | false => rfl
          | true => have := ancOf_listed hcl _ _ _ hb h; rw [hun'] at this; cases this
        simp [hne, han]
      have hph : ∀ (j : Nat), listed.getD j false = true → phOf l ms j ≤ cnt listed := fun j hj => countP_le_of fun m _ h => by
        rw [Bool.or_eq_true] at h
        rcases h with h | h
        · rw [Nat.eq_of_beq_eq_true h]; exact hj
        · exact ancOf_listed hcl _ _ _ h hj
      have hst := hsteps.get i o ho' e1 w1 (cnt listed)
      rw [Nat.zero_add] at hst
      have hst := hst hlo hhi hb (fun j y o' han hy hoj => hS j y o' (ancOf_ready hcl ho' hrd _ _ han) hy hoj) (fun j o' hj han => by
        refine hun0 j o' ?_ hj
        cases hlj : listed.getD j false with
        | false => rfl
        | true => have := ancOf_listed hcl _ _ _ han hlj; rw [hun'] at this; cases this) (fun m y o' hm hch hphm hy hom => by
        refine hS m y o' ?_ hy hom
        cases hlm : listed.getD m false with
        | true => rfl
        | false =>
          exfalso
          have h8 := countP_one (fun k => listed.getD k false) (fun k => if k = m then true else listed.getD k false) m hlm (fun k => O) ms hmn (memb_iff.1 hm)
          have h9 : ms.countP (fun k => if k = m then true else listed.getD k false) ≤ phOf l ms m := countP_le_of fun m' hm' h => by
            by_cases e : m' = m
            · rw [e, Nat.beq_refl]; rfl
            · rw [if_neg e] at h
              simp only [chainAt, List.all_eq_true] at hch
              have h10 := hch m' hm'
              cases h11 : ancOf l l.length m m' with
              | true => rw [Bool.or_true]
              | false =>
                rw [h11, Bool.or_false, Bool.or_eq_true] at h10
                rcases h10 with h10 | h10
                · exact absurd (Nat.eq_of_beq_eq_true h10) e
                · have := ancOf_listed hcl _ _ _ h10 h
                  rw [hlm] at this; cases this
          have h12 : ms.countP (fun k => listed.getD k false) = cnt listed := O
          omega)
      rw [mix_eq hag, ext_of_mt (depFrN_mt (aft o) (fun ed hed v o' hy hoj => hS ed.on _ o' (hrd ed hed) hy hoj))] at hst
      let turns : Prop := memb ms i = true
      let KK : Env → World → Prop := fun e2 w2 => (memb ms i = false → Below w1.heap.size w1 w2) ∧ (ys.getD i (.pr fun _ _ => True)).holds (valOf o e2) w2 ∧ ∀ j, o.dst ≠ some j → e2 j = e1 j
      have hwl' : ∃ K : Env → World → Prop, (∀ e2 w2, K e2 w2 → KK e2 w2) ∧ Ops P N l.toArray K [o] e1 w1 := by
        cases hmi : memb ms i with
        | true =>
          rw [hmi] at hst
          exact ⟨_, fun e2 w2 h => ⟨fun h0 => (by rw [hmi] at h0; cases h0), h.1, h.2⟩, hst⟩
        | false =>
          rw [hmi] at hst
          exact ⟨_, fun e2 w2 h => ⟨fun _ => h.1, h.2.1, h.2.2⟩, hst⟩
      obtain ⟨K, hKK, hst'⟩ := hwl'
      have hwl := hst'.run a1 hr
      have hcnt' : cnt (listed.setIfInBounds i true) = if memb ms i = true then cnt listed + 1 else cnt listed := by
        show ms.countP _ = _
        by_cases hmi : memb ms i = true
        · rw [if_pos hmi]
          exact countP_one (fun m => listed.getD m false) (fun m => (listed.setIfInBounds i true).getD m false) i hun' hgs ms hmn (memb_iff.1 hmi)
        · rw [if_neg hmi]
          refine List.countP_congr fun m hmm => ?_
          rw [hgs, if_neg (fun e => hmi (memb_iff.2 (by rw [← e]; exact hmm)))]
      have hnext : ∀ a2 w2, (∃ e2, Rep N a2 e2 ∧ K e2 w2) → wpAny P .any l.toArray (low N Q) fuel (listed.setIfInBounds i true) a2 w2 := by
        intro a2 w2 ⟨e2, hr2, hK2⟩
        obtain ⟨hbl, hy2, hag2⟩ := hKK _ _ hK2
        have hother : ∀ (k : Nat) (o' : Oper), l[k]? = some o' → k ≠ i → valOf o' e2 = valOf o' e1 := by
          intro k o' hok hki
          unfold valOf
          cases hd : o'.dst with
          | none => rfl
          | some d => exact hag2 d (fun h => hki (filterMap_inj _ l h2 k i o' o d hok ho' hd h))
        refine ih _ a2 e2 w2 hr2 (fun h0 => ?_) (fun j hj => ?_) (by simpa using hsz) (fun k y o' hk hy hok => ?_) (fun k o' hk hok ed hed => ?_) (fun k o' hk hok => ?_) ?_
        · rw [hcnt'] at h0
          by_cases hmi : memb ms i = true
          · rw [if_pos hmi] at h0; omega
          · rw [if_neg hmi] at h0
            have := hbl (by simpa using hmi)
            exact (hb h0).trans (this.mono (hb h0).size)
        · have hne : o.dst ≠ some j := by
            intro hd
            have : memb (dsl l) j = true := by rw [memb_iff]; exact List.mem_filterMap.2 ⟨o, List.mem_of_getElem? ho', hd⟩
            rw [this] at hj; cases hj
          rw [hag2 j hne]; exact hag j hj
        · by_cases hki : k = i
          · subst hki
            rw [ho'] at hok
            cases hok
            have : ys.getD k (.pr fun _ _ => True) = y := by simp [List.getD_eq_getElem?_getD, hy]
            rw [this] at hy2
            cases y with
            | ex v => exact hy2
            | pr p => exact fun _ => hy2
          · have hk' : listed.getD k false = true := by rw [hgs, if_neg hki] at hk; exact hk
            have h7 := hS k y o' hk' hy hok
            rw [hother k o' hok hki]
            cases y with
            | ex v => exact h7
            | pr p =>
              intro hc
              rw [hcnt'] at hc
              by_cases hmi : memb ms i = true
              · rw [if_pos hmi] at hc
                have := hph k hk'
                omega
              · rw [if_neg hmi] at hc
                have hl := hlasts _ (List.mem_of_getElem? hy)
                exact hl _ _ _ (h7 hc) (hbl (by simpa using hmi))
        · rw [hgs]
          by_cases hei : ed.on = i
          · rw [if_pos hei]
          · rw [if_neg hei]
            by_cases hki : k = i
            · subst hki
              rw [ho'] at hok; cases hok
              exact hrd ed hed
            · rw [hgs, if_neg hki] at hk
              exact hcl k o' hk hok ed hed
        · rw [hgs] at hk
          by_cases hki : k = i
          · rw [if_pos hki] at hk; cases hk
          · rw [if_neg hki] at hk
            rw [hother k o' hok hki]
            exact hun0 k o' hk hok
        · have hcount : (List.range l.length).countP (fun k => (listed.setIfInBounds i true).getD k false) = (List.range l.length).countP (fun k => listed.getD k false) + 1 :=
            countP_one (fun k => listed.getD k false) (fun k => (listed.setIfInBounds i true).getD k false) i hun' hgs _ List.nodup_range (by simpa using hil)
          rw [hcount]; omega
      unfold wpOp
      rw [ho]
      unfold wpList at hwl
      show if _ then _ else _
      by_cases hw : Region.wanted o (yielded l.toArray a1.tmps) = true
      · rw [if_pos hw] at hwl ⊢
        rcases hwl with h5 | ⟨_, a0, w0, h5⟩
        · refine .inl (Oper.wp_conv h5 (fun a2 w2 hx => ?_) (fun x a w hx hq => hx hq.1))
          exact hnext a2 w2 hx.2
        · exact absurd h5.1 (by simp)
      · rw [if_neg hw] at hwl ⊢
        exact hnext _ _ hwl.2
  refine key l.length (Array.replicate l.length false) a e _ ha (fun _ => ⟨⟨O, O, O, Nat.le_refl _, fun _ _ => O⟩, fun _ => Nat.le_add_right _ _⟩) (fun _ _ => O) (by simp) (fun i y o hi => ?_) (fun i o hi => ?_) (fun _ _ _ _ => O) (by omega)
  · exfalso
    rw [Array.getD_eq_getD_getElem?, Array.getElem?_replicate] at hi
    split at hi <;> simp at hi
  · exfalso
    rw [Array.getD_eq_getD_getElem?, Array.getElem?_replicate] at hi
    split at hi <;> simp at hi
end
/-
 Structs built, slices of structs, comparisons with nil, rows of a matrix turned.
-/
section
variable {P : Program} {N : Nat} {ops : Array Oper} {K : Env → World → Prop} {rest : List Oper} {e : Env} {w0 w w' : World} {ks : List Ck} {d : Nat} {ty : TypeId} {pos : String} {af : Array Edge}
theorem Ops.eqNil {t t' el : TypeId} [Und P t (.slice el)] {x y : Operand} {A : Option Addr} {n c : Nat} (hx : ev e x = .slice A n c) (hy : ev e y = .slice none 0 0) (hb : Nat.blt d N = true) (hK : Ops P N ops K rest (upd e d (.bool A.isNone)) w) :
  Ops P N ops K (⟨some d, .binOp .eql t x y t', ty, pos, af, none⟩ :: rest) e w := by
 have hr : (Op.equal t (.slice A n c) (.slice none 0 0)).run P w = .ok A.isNone w := by
  show (Op.equalIn (9999 + 1) t (.slice A n c) (.slice none 0 0)).run P w = _
  rw [Op.equalIn]
  cases A <;> simp [run_underlying (Und.out (P := P) (t := t))]
 exact .val (by simp [execOp, hx, hy, eqGuard, binOp, hr]) hb hK
end
/-! a row of a matrix of one's own -/
theorem rowsCk_set {t : TypeId} : ∀ {rs : List SlV} {xss : List (List Int)} {i : Nat} {xs : List Int}, rs.length = xss.length → i < rs.length → (rowsCk t rs xss).set i (CkI t (rs.getD i slNil).a (rs.getD i slNil).n (rs.getD i slNil).c xs) = rowsCk t rs (xss.set i xs)
 | [], _, _, _, _, h => by simp at h
 | r :: rs, [], _, _, h, _ => by simp at h
 | r :: rs, x :: xss, 0, xs, _, _ => rfl
 | r :: rs, x :: xss, i + 1, xs, h, hi => by
  have := rowsCk_set (t := t) (rs := rs) (xss := xss) (i := i) (xs := xs) (by simpa using h) (by simpa using hi)
  simpa [rowsCk] using this
theorem mat_get {t1 t2 : TypeId} {A : Option Addr} {n c : Nat} {rs : List SlV} {xss : List (List Int)} {pre ks : List Ck} {i : Nat} (hr : rs.length = xss.length) (hi : i < rs.length) : (pre ++ (mat t1 t2 A n c rs xss ++ ks))[pre.length + 1 + i]? = some (CkI t2 (rs.getD i slNil).a (rs.getD i slNil).n (rs.getD i slNil).c (xss.getD i [])) := by
 rw [List.getElem?_append_right (by omega), show pre.length + 1 + i - pre.length = i + 1 by omega, List.getElem?_append_left (by simp [mat, rowsCk_length hr]; omega)]
 simpa [mat] using rowsCk_get (t := t2) hr hi
theorem mat_set {t1 t2 : TypeId} {A : Option Addr} {n c : Nat} {rs : List SlV} {xss : List (List Int)} {pre ks : List Ck} {i : Nat} {xs : List Int} (hr : rs.length = xss.length) (hi : i < rs.length) : (pre ++ (mat t1 t2 A n c rs xss ++ ks)).set (pre.length + 1 + i) (CkI t2 (rs.getD i slNil).a (rs.getD i slNil).n (rs.getD i slNil).c xs) = pre ++ (mat t1 t2 A n c rs (xss.set i xs) ++ ks) := by
 rw [List.set_append_right _ _ (by omega), show pre.length + 1 + i - pre.length = i + 1 by omega, List.set_append_left _ _ (by simp [mat, rowsCk_length hr]; omega)]
 congr 2
 simp only [mat, List.set_cons_succ]
 rw [rowsCk_set hr hi]
section
variable {P : Program} {N : Nat} {ops : Array Oper} {K : Env → World → Prop} {rest : List Oper} {e : Env} {w0 w w' : World} {ks pre : List Ck} {ty : TypeId} {pos : String} {af : Array Edge}
end
structure MatV where
 top : SlV
 rs : List SlV
 xss : List (List Int)
def MatV.ok (m : MatV) : Prop := m.xss.length = m.top.n
/-
 The walks of copies and of the reference's tests of partial moves.
-/
theorem l01Own_c (A : Option Addr) (n c : Nat) (xs : List Int) (w : World) (hR : RdI w A n xs) (hn : n ≤ 1000000000) : Ret Tryz.prog 237 [.slice A n c] w (fun v w' => ∃ A' c', v = .slice A' n c' ∧ St w w' [CkI 2 A' n c' xs]) := by
 refine Ret.of_cd Tryz.func237 O Tryz.ntmps237 O (post1 O) (Gbo O (Ops.bs0 (St.refl w) O ?_))
 intro A1 w1 hS1
 have hS1 : St w w1 [CkI 2 A1 0 0 []] := hS1
 refine Gdo O (Ops.appI 0 hS1 O (hS1.oldI hR) O O O (by omega) (by omega) O ?_)
 intro A2 c2 w2 hS2
 rw [Nat.zero_add] at hS2 ⊢
 refine Gdr O (ret1_s O ?_)
 exact ⟨A2, c2, O, hS2⟩
/-
 The walk of the reference's search for rooted forms.
-/
def body (n F : Nat) (ok : List (List Int) → Nat → Nat → Bool) (fin : List (List Int) → Bool) (k at_ met : Nat) (M : List (List Int)) (g : Nat) : List (List (List Int)) :=
 if 0 ≤ cell M (at_ % n) (g : Nat) then [] else if ok (put M (at_ % n) (at_ / n) g) (at_ % n) (at_ / n) = true then grow n F ok fin k (at_ + 1) (max met (g + 1)) (put M (at_ % n) (at_ / n) g) else []
/-
 The walk of the reference's search for rooted forms.
-/
end Go.Proofs.YtopgfgdgfjddpaaGreatDoor.Vc
/-
 Plain mathematics: how many rooted forms there can be.
-/
namespace Go.Proofs.YtopgfgdgfjddpaaGreatDoor.Vc
section
variable {n F : Nat} {M : List (List Int)} {met at_ : Nat}
end
end Go.Proofs.YtopgfgdgfjddpaaGreatDoor.Vc
/-
 The walks of the reference's list of rooted forms and of its count.
-/
namespace Go.Proofs.YtopgfgdgfjddpaaGreatDoor.Vc
open Go.RowKit
def Small (rank flags : Int) : Prop := (1 ≤ rank ∧ rank ≤ 4) ∧ (2 ≤ flags ∧ flags ≤ 12)
instance (rank flags : Int) : Decidable (Small rank flags) := by unfold Small; exact inferInstance
/-
 The walks of the program's copies and of its test of a move.
-/
theorem Clone_c (A : Option Addr) (n c : Nat) (xs : List Int) (w : World) (hR : RdI w A n xs) (hn : n ≤ 1000000000) : Ret Tryz.prog 141 [.slice A n c] w (fun v w' => ∃ A' c', v = .slice A' n c' ∧ St w w' [CkI 2 A' n c' xs]) := by
 cases hA : A with
 | none =>
  subst hA
  have hn0 : n = 0 := by
   apply Classical.byContradiction
   intro h
   obtain ⟨p, hp, _⟩ := hR.2 0 (by omega)
   simp [ptrAt] at hp
  subst hn0
  have hx : xs = [] := List.eq_nil_of_length_eq_zero hR.1
  subst hx
  refine Ret.of_cd Tryz.func141 O Tryz.ntmps141 O (post1 O) (Gbo O (Ops.eqNil O O O (Gdc O (Cd.cond_t O (Gar O (ret1_s O ?_))))))
  exact ⟨none, 0, O, (St.refl w).nil _⟩
 | some a =>
  subst hA
  refine Ret.of_cd Tryz.func141 O Tryz.ntmps141 O (post1 O) (Gbo O (Ops.eqNil O O O (Gdc O (Cd.cond_f O (Gao O (Ops.bs0 (St.refl w) O ?_))))))
  intro A1 w1 hS1
  have hS1 : St w w1 [CkI 2 A1 0 0 []] := hS1
  refine Gdo O (Ops.appI 0 hS1 O (hS1.oldI hR) O O O (by omega) (by omega) O ?_)
  intro A2 c2 w2 hS2
  rw [Nat.zero_add] at hS2 ⊢
  refine Gdr O (ret1_s O ?_)
  exact ⟨A2, c2, O, hS2⟩
/-
 The walks of the reference's forms.
-/
section
variable {P : Program} {N : Nat} {ops : Array Oper} {K : Env → World → Prop} {rest : List Oper} {e : Env} {w : World} {d : Nat} {ty : TypeId} {pos : String} {af : Array Edge}
end
/-
 The walks of forms on both sides.
-/
/-
 The cycles of a list of numbers, by their least points, and lists in ascending order: a plain law, with no program in sight.
-/
/-! ascending lists -/
def Asc (l : List Int) : Prop := l.Pairwise (· ≤ ·)
def srt (l : List Int) : List Int := l.mergeSort fun x y => decide (x ≤ y)
theorem srt_perm (l : List Int) : (srt l).Perm l := List.mergeSort_perm _ _
theorem srt_asc (l : List Int) : Asc (srt l) := by
 have := List.pairwise_mergeSort (le := fun x y : Int => decide (x ≤ y)) (fun a b c h1 h2 => by simp at h1 h2 ⊢; omega) (fun a b => by simp; omega) l
 exact this.imp fun h => by simpa using h
theorem asc_unique {l l' : List Int} (h : l.Perm l') (h1 : Asc l) (h2 : Asc l') : l = l' :=
 List.Perm.eq_of_pairwise (le := (· ≤ ·)) (fun a b _ _ h1 h2 => by omega) h1 h2 h
/-
 The walks of the reference's runs of a word over flags, and of the lengths of a word.
-/
def Grph (xss : List (List Int)) : Prop := Mani xss ∧ 2 ≤ xss.length
instance (xss : List (List Int)) : Decidable (Grph xss) := by unfold Grph; exact inferInstance
theorem l02Flags_c (A : Option Addr) (n c : Nat) (rs : List SlV) (xss : List (List Int)) (w : World) (hR : RowsI w A n rs xss) (hn : 0 < n) :
  Ret Tryz.prog 161 [.agg #[.slice A n c]] w (fun v w' => v = .int .i64 ((gl xss 0).length : Int) ∧ St w w' []) := by
 refine Ret.of_cd Tryz.func161 O Tryz.ntmps161 O (post1 O) (Gbo O (Ops.box1 (St.refl w) O O ?_))
 intro Ab w1 hS
 have hR1 := hS.oldRows hR
 have e0 : (gl xss 0).length = (rg rs 0).n := hR.rowLen (by omega) (by omega)
 refine Gdo O (Ops.fld (hS.rd 0 O) O O O O inferInstance (Ops.ldf_s (hS.rd 0 O) O O O O O (Ops.idx hR1.top.2 O O O (by omega) (by omega) (Ops.ld_sl hR1.top O (by omega) O O ?_))))
 refine Ops.len O O (Gdr O ?_)
 refine ret1_i O ?_
 exact ⟨by rw [e0], hS.none⟩
/-
 The walk of the reference's lengths of a word.
-/
theorem RdI.take {w : World} {A : Option Addr} {n l : Nat} {xs : List Int} (h : RdI w A n xs) (hl : l ≤ n) : RdI w A l (xs.take l) := by
 have := h.cut (l := 0) (h := l) (c := 0) (Nat.zero_le _) hl
 refine ⟨by rw [List.length_take, h.1]; omega, fun k hk => ?_⟩
 obtain ⟨q, h1, h2⟩ := h.2 k (by omega)
 exact ⟨q, h1, by rw [h2]; simp [List.getElem?_take, hk, List.getD_eq_getElem?_getD]⟩
end Go.Proofs.YtopgfgdgfjddpaaGreatDoor.Vc
