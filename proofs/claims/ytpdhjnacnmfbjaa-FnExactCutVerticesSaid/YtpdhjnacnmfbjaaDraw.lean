/-
  A statement whose order Go leaves open: its operations make new memory at most; what each yields is told by a value or by a lasting property; whatever the order, all of it holds behind it. And: two ways that meet again. Conditions: as each rule names them.
-/
import Derived.Test.YtpdhjnacnmfbjaaMop
namespace Go.Proofs.Ytpdhjnacnmfbjaa.Vc
open Go.RowKit

inductive Yd where
  | ex (v : Value)
  | pr (p : Value → World → Prop)
def Yd.holds : Yd → Value → World → Prop
  | .ex v, u, _ => u = v
  | .pr p, u, w => p u w
def Yd.lasts : Yd → Prop
  | .ex _ => True
  | .pr p => ∀ v w w', p v w → Below w.heap.size w w' → p v w'
theorem Yd.lasts_ex (v : Value) : (Yd.ex v).lasts := True.intro
theorem Yd.lasts_pr {p : Value → World → Prop} (h : ∀ v w w', p v w → Below w.heap.size w w' → p v w') : (Yd.pr p).lasts := h
theorem Yd.holds_later {y : Yd} (hl : y.lasts) {v : Value} {w w' : World} (h : y.holds v w) (hb : Below w.heap.size w w') : y.holds v w' := by
  cases y with
  | ex u => exact h
  | pr p => exact hl v w w' h hb

def memb (ds : List Nat) (i : Nat) : Bool := match ds with
  | [] => false
  | d :: r => bif Nat.beq i d then true else memb r i
theorem memb_iff {ds : List Nat} {i : Nat} : memb ds i = true ↔ i ∈ ds := by
  induction ds with
  | nil => simp [memb]
  | cons d r ih =>
    simp only [memb, List.mem_cons]
    cases hb : Nat.beq i d with
    | true => simp [Nat.eq_of_beq_eq_true hb]
    | false =>
      have : i ≠ d := fun e => by subst e; simp at hb
      simp [this, ih]
def mix (e1 e : Env) (ds : List Nat) : Env := fun i => bif memb ds i then e1 i else e i
/-- what an operation waits for, whatever the order -/
def aft (o : Oper) : List Edge := o.after.toList.filter (Region.binds .any)
theorem mem_aft {o : Oper} {ed : Edge} : ed ∈ aft o ↔ ed ∈ o.after ∧ Region.binds .any ed = true := by
  simp [aft]
def dstOf (o : Oper) : Nat := match o.dst with
  | some d => d
  | none => 0
/-- every operation has a slot of its own, and waits for earlier ones alone -/
def drawOk (N : Nat) (l : List Oper) : Bool :=
  l.all (fun o => match o.dst with | some d => Nat.blt d N | none => false) && decide ((l.map dstOf).Nodup) && (l.zipIdx.all fun p => (aft p.1).all fun ed => Nat.blt ed.on p.2)
def depFr (l : List Oper) (ys : List Yd) : List Edge → List (Nat × Value)
  | [] => []
  | ed :: r => match ys[ed.on]? with
    | some (.ex v) => (((l[ed.on]?).map dstOf).getD 0, v) :: depFr l ys r
    | _ => depFr l ys r
def endFr : List Oper → List Yd → (Nat → Value) → Nat → List (Nat × Value)
  | o :: l, .ex v :: ys, u, i => (dstOf o, v) :: endFr l ys u (i + 1)
  | o :: l, .pr _ :: ys, u, i => (dstOf o, u i) :: endFr l ys u (i + 1)
  | _, _, _, _ => []

/-- operation k waits for operation j, by itself or through others -/
def ancOf (l : List Oper) : Nat → Nat → Nat → Bool
  | 0, _, _ => false
  | f + 1, k, j => match l[k]? with
    | some o => (aft o).any fun ed => Nat.beq ed.on j || ancOf l f ed.on j
    | none => false
/-- what is listed has what it waits for listed -/
theorem ancOf_listed {l : List Oper} {listed : Array Bool} (hcl : ∀ (i : Nat) (o : Oper), listed.getD i false = true → l[i]? = some o → ∀ ed ∈ aft o, listed.getD ed.on false = true) : ∀ (f k j : Nat), ancOf l f k j = true → listed.getD k false = true → listed.getD j false = true
  | 0, k, j, h, _ => by simp [ancOf] at h
  | f + 1, k, j, h, hk => by
    simp only [ancOf] at h
    split at h
    · rename_i o ho
      rw [List.any_eq_true] at h
      obtain ⟨ed, hed, h⟩ := h
      have h1 := hcl k o hk ho ed hed
      rw [Bool.or_eq_true] at h
      rcases h with h | h
      · rw [← Nat.eq_of_beq_eq_true h]; exact h1
      · exact ancOf_listed hcl f ed.on j h h1
    · cases h
theorem ancOf_ready {l : List Oper} {listed : Array Bool} (hcl : ∀ (i : Nat) (o : Oper), listed.getD i false = true → l[i]? = some o → ∀ ed ∈ aft o, listed.getD ed.on false = true) {k : Nat} {o : Oper} (ho : l[k]? = some o) (hr : ∀ ed ∈ aft o, listed.getD ed.on false = true) : ∀ (f j : Nat), ancOf l f k j = true → listed.getD j false = true
  | 0, j, h => by simp [ancOf] at h
  | f + 1, j, h => by
    simp only [ancOf, ho] at h
    rw [List.any_eq_true] at h
    obtain ⟨ed, hed, h⟩ := h
    have h1 := hr ed hed
    rw [Bool.or_eq_true] at h
    rcases h with h | h
    · rw [← Nat.eq_of_beq_eq_true h]; exact h1
    · exact ancOf_listed hcl f ed.on j h h1

section
variable {P : Program} {N : Nat} {e : Env} {w : World}
def After (i : Nat) (e1 : Env) (w1 : World) (d : Nat) (y : Yd) : Env → World → Prop := fun e2 w2 => Below w1.heap.size w1 w2 ∧ y.holds (e2 d) w2 ∧ ∀ j, j ≠ d → e2 j = e1 j

theorem After.dn {i : Nat} {e1 : Env} {w1 w2 : World} {d : Nat} {y : Yd} {v : Value} (hb : Below w1.heap.size w1 w2) (hv : y.holds v w2) : After i e1 w1 d y (upd e1 d v) w2 := by
  refine ⟨hb, ?_, fun j hj => ?_⟩
  · have : upd e1 d v d = v := by unfold upd; rw [Nat.beq_refl]; rfl
    rw [this]; exact hv
  · have : Nat.beq j d = false := by
      cases h : Nat.beq j d with
      | false => rfl
      | true => exact absurd (Nat.eq_of_beq_eq_true h) hj
    unfold upd; rw [this]; rfl

def DrawSteps (P : Program) (N : Nat) (l : List Oper) (ys : List Yd) (e : Env) (w : World) : Nat → List Oper → Prop
  | _, [] => True
  | i, o :: r => (∀ e1 w1, Below w.heap.size w w1 → (∀ j, j < l.length → memb ((aft o).map (·.on)) j = true → ∀ (y : Yd) (o' : Oper), ys[j]? = some y → l[j]? = some o' → y.holds (e1 (dstOf o')) w1) → (∀ (j : Nat) (o' : Oper), l[j]? = some o' → ancOf l l.length j i = true → e1 (dstOf o') = e (dstOf o')) → 
      Ops P N l.toArray (After i (ext (mix e1 e (l.map dstOf)) (depFr l ys (aft o))) w1 (dstOf o) (ys.getD i (.pr fun _ _ => True))) [o] (ext (mix e1 e (l.map dstOf)) (depFr l ys (aft o))) w1) ∧ DrawSteps P N l ys e w (i + 1) r

theorem DrawSteps.get {l : List Oper} {ys : List Yd} : ∀ {r : List Oper} {i : Nat}, DrawSteps P N l ys e w i r → ∀ k o, r[k]? = some o → ∀ e1 w1, Below w.heap.size w w1 → (∀ j, j < l.length → memb ((aft o).map (·.on)) j = true → ∀ (y : Yd) (o' : Oper), ys[j]? = some y → l[j]? = some o' → y.holds (e1 (dstOf o')) w1) → (∀ (j : Nat) (o' : Oper), l[j]? = some o' → ancOf l l.length j (i + k) = true → e1 (dstOf o') = e (dstOf o')) → 
      Ops P N l.toArray (After (i + k) (ext (mix e1 e (l.map dstOf)) (depFr l ys (aft o))) w1 (dstOf o) (ys.getD (i + k) (.pr fun _ _ => True))) [o] (ext (mix e1 e (l.map dstOf)) (depFr l ys (aft o))) w1
  | [], _, _, k, o, hk => by simp at hk
  | x :: r, i, h, 0, o, hk => by simp at hk; subst hk; exact h.1
  | x :: r, i, h, k + 1, o, hk => by
    have := DrawSteps.get h.2 k o (by simpa using hk)
    simpa [Nat.add_assoc, Nat.add_comm 1 k] using this

theorem Oper.wp_conv {o : Oper} {a : Act} {w : World} {K K2 : Act → World → Prop} {Q Q2 : Exit → Act → World → Prop} (h : o.wp P a w K Q) (hK : ∀ a w, K a w → K2 a w) (hQ : ∀ x a w, x ≠ .normal → ¬ Q x a w) : o.wp P a w K2 Q2 := by
  unfold Oper.wp at *
  generalize (execOp a.eval o).run P w = r at *
  cases r with
  | ok n w' =>
    cases n <;> simp only [Oper.upon] at h ⊢ <;> first
      | exact hK _ _ h
      | (refine Calls.mono h fun x w'' hx => ?_
         cases x with
         | returned v => exact hK _ _ hx
         | panicked ch => exact absurd hx (hQ _ _ _ (by simp))
         | outgrown => obtain ⟨a0, w0, hx⟩ := hx; exact absurd hx (hQ _ _ _ (by simp)))
      | exact Rows.mono h fun v w'' hx => hK _ _ hx
  | halt x w' =>
    cases x <;> simp only [Oper.upon] at h ⊢
    exact absurd h (hQ _ _ _ (by simp))

theorem mix_eq {e1 e : Env} {ds : List Nat} (h : ∀ j, memb ds j = false → e1 j = e j) : mix e1 e ds = e1 := by
  funext j
  unfold mix
  cases hm : memb ds j with
  | true => rfl
  | false => exact (h j hm).symm

theorem depFr_mt {l : List Oper} {ys : List Yd} {e1 : Env} {w1 : World} : ∀ (af : List Edge), (∀ ed ∈ af, ed.on < l.length) → (∀ j, memb (af.map (·.on)) j = true → ∀ (y : Yd) (o' : Oper), ys[j]? = some y → l[j]? = some o' → y.holds (e1 (dstOf o')) w1) → Mt e1 (depFr l ys af)
  | [], _, _ => trivial
  | ed :: r, hlt, h => by
    have hr := depFr_mt r (fun x hx => hlt x (List.mem_cons_of_mem _ hx)) (fun j hj => h j (by rw [memb_iff] at hj ⊢; exact List.mem_cons_of_mem _ hj))
    unfold depFr
    split
    · rename_i v hy
      have hl := hlt ed (by simp)
      refine ⟨?_, hr⟩
      rw [List.getElem?_eq_getElem hl]
      exact h ed.on (by rw [memb_iff]; simp) _ _ hy (List.getElem?_eq_getElem hl)
    · exact hr

theorem endFr_eq {e1 e : Env} {w1 : World} : ∀ (l : List Oper) (ys : List Yd) (i : Nat), l.length = ys.length → (l.map dstOf).Nodup → (∀ (k : Nat) (y : Yd) (o : Oper), ys[k]? = some y → l[k]? = some o → y.holds (e1 (dstOf o)) w1) →
    ∃ u : Nat → Value, ext e (endFr l ys u i) = mix e1 e (l.map dstOf) ∧ (∀ (k : Nat) (o : Oper), l[k]? = some o → u (i + k) = e1 (dstOf o))
  | [], [], i, _, _, _ => ⟨fun _ => undef, by funext j; rfl, fun k o h => by simp at h⟩
  | [], y :: ys, i, hl, _, _ => by simp at hl
  | o :: l, [], i, hl, _, _ => by simp at hl
  | o :: l, y :: ys, i, hl, hn, h => by
    simp only [List.map_cons, List.nodup_cons] at hn
    obtain ⟨u, hu, hu2⟩ := endFr_eq (e1 := e1) (e := e) (w1 := w1) l ys (i + 1) (by simpa using hl) hn.2 (fun k y o hy ho => h (k + 1) y o (by simpa using hy) (by simpa using ho))
    have h0 := h 0 y o rfl rfl
    have cng : ∀ (l : List Oper) (ys : List Yd) (i : Nat) (u u' : Nat → Value), (∀ k, i ≤ k → u k = u' k) → endFr l ys u i = endFr l ys u' i := by
      intro l
      induction l with
      | nil => intros; rfl
      | cons o l ih =>
        intro ys i u u' hk
        cases ys with
        | nil => rfl
        | cons y ys =>
          cases y with
          | ex v => simp only [endFr]; rw [ih ys (i + 1) u u' (fun k hk' => hk k (by omega))]
          | pr p => simp only [endFr]; rw [ih ys (i + 1) u u' (fun k hk' => hk k (by omega)), hk i (by omega)]
    refine ⟨fun k => if k = i then e1 (dstOf o) else u k, ?_, fun k o' hk => ?_⟩
    · have hc := cng l ys (i + 1) (fun k => if k = i then e1 (dstOf o) else u k) u (fun k hk => by rw [if_neg (by omega)])
      have hstep : ∀ v, v = e1 (dstOf o) → upd (mix e1 e (l.map dstOf)) (dstOf o) v = mix e1 e ((o :: l).map dstOf) := by
        intro v hv
        funext j
        simp only [upd, mix, List.map_cons, memb]
        cases hb : Nat.beq j (dstOf o) with
        | true => rw [Nat.eq_of_beq_eq_true hb, hv]; rfl
        | false => rfl
      cases y with
      | ex v =>
        simp only [endFr, ext, hc, hu]
        exact hstep v h0.symm
      | pr p =>
        simp only [endFr, ext, hc, hu, if_pos]
        exact hstep _ rfl
    · cases k with
      | zero => simp at hk; subst hk; simp
      | succ k =>
        have := hu2 k o' (by simpa using hk)
        show (if i + (k + 1) = i then _ else u (i + (k + 1))) = _
        rw [if_neg (by omega), ← this]; congr 1; omega

theorem countP_one (p p' : Nat → Bool) (i : Nat) (hi : p i = false) (hp : ∀ k, p' k = if k = i then true else p k) : ∀ (l : List Nat), l.Nodup → i ∈ l → l.countP p' = l.countP p + 1
  | [], _, h => by cases h
  | x :: l, hn, h => by
    have hnot : ∀ (l : List Nat), ¬ i ∈ l → l.countP p' = l.countP p := by
      intro l hl
      exact List.countP_congr fun k hk => by rw [hp k, if_neg (by rintro rfl; exact hl hk)]
    simp only [List.nodup_cons] at hn
    simp only [List.countP_cons]
    by_cases hx : x = i
    · subst hx
      rw [hnot l hn.1, hp x, if_pos rfl, hi]; simp
    · have him : i ∈ l := by
        rcases List.mem_cons.1 h with h | h
        · exact absurd h.symm hx
        · exact h
      rw [countP_one p p' i hi hp l hn.2 him, hp x, if_neg hx]; omega

theorem Cd.draw {id : Nat} {l : List Oper} {Q : Post} (ys : List Yd) (hm : P.follows .mixedOrders = true) (hok : drawOk N l = true) (hlen : Nat.beq l.length ys.length = true) (hlast : ∀ y ∈ ys, y.lasts)
    (hsteps : DrawSteps P N l ys e w 0 l) (hend : ∀ u w1, Below w.heap.size w w1 → (∀ (k : Nat) (p : Value → World → Prop), ys[k]? = some (Yd.pr p) → p (u k) w1) → Q .normal (ext e (endFr l ys u 0)) w1) : Cd P N (.region id l.toArray true) Q e w := .mk' fun a ha => by
  have hlen' : l.length = ys.length := Nat.eq_of_beq_eq_true hlen
  simp only [drawOk, Bool.and_eq_true, List.all_eq_true, decide_eq_true_eq] at hok
  obtain ⟨⟨h1, h2⟩, h3⟩ := hok
  have hdst : ∀ (i : Nat) (o : Oper), l[i]? = some o → ∃ d, o.dst = some d ∧ dstOf o = d ∧ d < N := by
    intro i o ho
    have := h1 o (List.mem_of_getElem? ho)
    cases hd : o.dst with
    | none => rw [hd] at this; cases this
    | some d => rw [hd] at this; exact ⟨d, rfl, by simp [dstOf, hd], by simpa [Nat.blt_eq] using this⟩
  have hback2 : ∀ (i : Nat) (o : Oper), l[i]? = some o → ∀ ed ∈ aft o, ed.on < i ∧ Region.binds .any ed = true := by
    intro i o ho ed hed
    have := h3 (o, i) (by
      obtain ⟨hi, hio⟩ := List.getElem?_eq_some_iff.1 ho
      rw [List.mem_iff_getElem?]
      exact ⟨i, by simp [ho]⟩)
    exact ⟨by simpa [Nat.blt_eq] using this ed hed, (mem_aft.1 hed).2⟩
  have hback : ∀ (i : Nat) (o : Oper), l[i]? = some o → ∀ ed ∈ aft o, ed.on < i := fun i o ho ed hed => (hback2 i o ho ed hed).1
  refine wp_region_any hm ?_
  -- whatever the order
  have key : ∀ (fuel : Nat) (listed : Array Bool) (a1 : Act) (e1 : Env) (w1 : World), Rep N a1 e1 → Below w.heap.size w w1 → (∀ j, memb (l.map dstOf) j = false → e1 j = e j) → listed.size = l.length →
      (∀ (i : Nat) (y : Yd) (o : Oper), listed.getD i false = true → ys[i]? = some y → l[i]? = some o → y.holds (e1 (dstOf o)) w1) → (∀ (i : Nat) (o : Oper), listed.getD i false = true → l[i]? = some o → ∀ ed ∈ aft o, listed.getD ed.on false = true) → (∀ (i : Nat) (o : Oper), listed.getD i false = false → l[i]? = some o → e1 (dstOf o) = e (dstOf o)) → (l.length - fuel ≤ (List.range l.length).countP fun i => listed.getD i false) →
      wpAny P .any l.toArray (low N Q) fuel listed a1 w1 := by
    have hfin : ∀ (listed : Array Bool) (a1 : Act) (e1 : Env) (w1 : World), Rep N a1 e1 → Below w.heap.size w w1 → (∀ j, memb (l.map dstOf) j = false → e1 j = e j) →
        (∀ (i : Nat) (y : Yd) (o : Oper), listed.getD i false = true → ys[i]? = some y → l[i]? = some o → y.holds (e1 (dstOf o)) w1) → (∀ i, i < l.length → listed.getD i false = true) → low N Q .normal a1 w1 := by
      intro listed a1 e1 w1 hr hb hag hS hall
      obtain ⟨u, hu, hu2⟩ := endFr_eq (e1 := e1) (e := e) (w1 := w1) l ys 0 hlen' h2 (fun k y o hy ho => hS k y o (hall k (List.getElem?_eq_some_iff.1 ho).1) hy ho)
      refine ⟨e1, hr, ?_⟩
      have := hend u w1 hb (fun k p hk => by
        have hkl : k < l.length := by rw [hlen']; exact (List.getElem?_eq_some_iff.1 hk).1
        have h5 := hS k _ l[k] (hall k hkl) hk (List.getElem?_eq_getElem hkl)
        have h6 := hu2 k l[k] (List.getElem?_eq_getElem hkl)
        rw [Nat.zero_add] at h6
        rw [h6]; exact h5)
      rw [hu, mix_eq hag] at this
      exact this
    have hready : ∀ (listed : Array Bool), listed.size = l.length → Region.ready .any l.toArray listed = [] → ∀ i, i < l.length → listed.getD i false = true := by
      intro listed hsz hnil i
      induction i using Nat.strongRecOn with
      | _ i ih =>
        intro hi
        cases hli : listed.getD i false with
        | true => rfl
        | false =>
          exfalso
          have : i ∈ Region.ready .any l.toArray listed := by
            rw [mem_ready]
            refine ⟨?_, l[i], by simp [hi], fun ed hed hbd => ih ed.on (hback i _ (List.getElem?_eq_getElem hi) ed (mem_aft.2 ⟨hed, hbd⟩)) (by have := hback i _ (List.getElem?_eq_getElem hi) ed (mem_aft.2 ⟨hed, hbd⟩); omega)⟩
            rw [Array.getD_eq_getD_getElem?, Array.getElem?_eq_getElem (by omega)] at hli ⊢
            exact hli
          rw [hnil] at this
          cases this
    intro fuel
    induction fuel with
    | zero =>
      intro listed a1 e1 w1 hr hb hag hsz hS hcl hun0 hcnt
      have hall : ∀ i, i < l.length → listed.getD i false = true := by
        have h4 : (List.range l.length).countP (fun i => listed.getD i false) = (List.range l.length).length := by
          have := List.countP_le_length (p := fun i => listed.getD i false) (l := List.range l.length)
          simp at this hcnt ⊢; omega
        rw [List.countP_eq_length] at h4
        intro i hi
        exact h4 i (by simpa using hi)
      refine ⟨?_, hfin listed a1 e1 w1 hr hb hag hS hall⟩
      rw [List.eq_nil_iff_forall_not_mem]
      intro i hi
      obtain ⟨h5, o, ho, _⟩ := mem_ready.1 hi
      have hil : i < l.length := by
        rcases Nat.lt_or_ge i l.length with h | h
        · exact h
        · simp [List.getElem?_eq_none h] at ho
      have h6 := hall i hil
      rw [Array.getD_eq_getD_getElem?, Array.getElem?_eq_getElem (by omega)] at h5 h6
      simp at h5 h6
      rw [h5] at h6; cases h6
    | succ fuel ih =>
      intro listed a1 e1 w1 hr hb hag hsz hS hcl hun0 hcnt
      refine ⟨fun hnil => hfin listed a1 e1 w1 hr hb hag hS (hready listed hsz hnil), fun i hi => ?_⟩
      obtain ⟨hun, o, ho, haf⟩ := mem_ready.1 hi
      have ho' : l[i]? = some o := by simpa using ho
      have hil : i < l.length := (List.getElem?_eq_some_iff.1 ho').1
      obtain ⟨d, hd, hdo, hdN⟩ := hdst i o ho'
      have hdeps : ∀ j, memb ((aft o).map (·.on)) j = true → ∀ (y : Yd) (o' : Oper), ys[j]? = some y → l[j]? = some o' → y.holds (e1 (dstOf o')) w1 := by
        intro j hj y o' hy hoj
        rw [memb_iff, List.mem_map] at hj
        obtain ⟨ed, hed, rfl⟩ := hj
        exact hS _ y o' (haf ed (mem_aft.1 hed).1 (mem_aft.1 hed).2) hy hoj
      have hrd : ∀ ed ∈ aft o, listed.getD ed.on false = true := fun ed hed => haf ed (mem_aft.1 hed).1 (mem_aft.1 hed).2
      have hun' : listed.getD i false = false := by
        have h5 := hun
        rw [Array.getD_eq_getD_getElem?, Array.getElem?_eq_getElem (by omega)] at h5 ⊢
        exact h5
      have hgs : ∀ k, (listed.setIfInBounds i true).getD k false = if k = i then true else listed.getD k false := by
        intro k
        rw [Array.getD_eq_getD_getElem?, Array.getElem?_setIfInBounds]
        by_cases hki : k = i
        · subst hki; rw [if_pos rfl, if_pos (by omega), if_pos rfl]; rfl
        · rw [if_neg (fun e => hki e.symm), if_neg hki, ← Array.getD_eq_getD_getElem?]
      have hst := hsteps.get i o ho' e1 w1 hb (fun j _ hj => hdeps j hj) (fun j o' hj han => by
        refine hun0 j o' ?_ hj
        cases hlj : listed.getD j false with
        | false => rfl
        | true =>
          have := ancOf_listed hcl _ _ _ han hlj
          rw [Nat.zero_add, hun'] at this; cases this)
      rw [mix_eq hag, ext_of_mt (depFr_mt (aft o) (fun ed hed => by have := hback i o ho' ed hed; omega) hdeps), Nat.zero_add] at hst
      have hwl := hst.run a1 hr
      have hnext : ∀ a2 w2, (∃ e2, Rep N a2 e2 ∧ After i e1 w1 (dstOf o) (ys.getD i (.pr fun _ _ => True)) e2 w2) → wpAny P .any l.toArray (low N Q) fuel (listed.setIfInBounds i true) a2 w2 := by
        intro a2 w2 ⟨e2, hr2, hb2, hy2, hag2⟩
        have hb3 : Below w.heap.size w w2 := hb.trans (hb2.mono hb.size)
        refine ih _ a2 e2 w2 hr2 hb3 (fun j hj => ?_) (by simpa using hsz) (fun k y o' hk hy hok => ?_) (fun k o' hk hok ed hed => ?_) (fun k o' hk hok => ?_) ?_
        · have hne : j ≠ dstOf o := by
            rintro rfl
            have : memb (l.map dstOf) (dstOf o) = true := by rw [memb_iff]; exact List.mem_map.2 ⟨o, List.mem_of_getElem? ho', rfl⟩
            rw [this] at hj; cases hj
          rw [hag2 j hne]; exact hag j hj
        · by_cases hki : k = i
          · subst hki
            rw [ho'] at hok
            cases hok
            have : ys.getD k (.pr fun _ _ => True) = y := by simp [List.getD_eq_getElem?_getD, hy]
            rw [this] at hy2
            exact hy2
          · have hk' : listed.getD k false = true := by
              rw [Array.getD_eq_getD_getElem?, Array.getElem?_setIfInBounds, if_neg (by omega), ← Array.getD_eq_getD_getElem?] at hk
              exact hk
            have h7 := hS k y o' hk' hy hok
            have hne : dstOf o' ≠ dstOf o := by
              intro heq
              have hkl := (List.getElem?_eq_some_iff.1 hok).1
              have h9 : k = i := (List.getElem_inj (xs := l.map dstOf) (h₀ := by simpa using hkl) (h₁ := by simpa using hil) h2).1 (by
                have e1 := (List.getElem?_eq_some_iff.1 hok).2
                have e2 := (List.getElem?_eq_some_iff.1 ho').2
                simp [e1, e2, heq])
              exact hki h9
            rw [hag2 _ hne]
            exact Yd.holds_later (hlast y (List.mem_of_getElem? hy)) h7 hb2
        · rw [hgs]
          by_cases hei : ed.on = i
          · rw [if_pos hei]
          · rw [if_neg hei]
            by_cases hki : k = i
            · subst hki
              rw [ho'] at hok; cases hok
              exact hrd ed hed
            · rw [hgs, if_neg hki] at hk
              exact hcl k o' hk hok ed hed
        · rw [hgs] at hk
          by_cases hki : k = i
          · rw [if_pos hki] at hk; cases hk
          · rw [if_neg hki] at hk
            rw [hag2 _ (fun heq => by
              have hkl := (List.getElem?_eq_some_iff.1 hok).1
              have h9 : k = i := (List.getElem_inj (xs := l.map dstOf) (h₀ := by simpa using hkl) (h₁ := by simpa using hil) h2).1 (by
                have e1 := (List.getElem?_eq_some_iff.1 hok).2
                have e2 := (List.getElem?_eq_some_iff.1 ho').2
                simp [e1, e2, heq])
              exact hki h9)]
            exact hun0 k o' hk hok
        · have hcount : (List.range l.length).countP (fun k => (listed.setIfInBounds i true).getD k false) = (List.range l.length).countP (fun k => listed.getD k false) + 1 := by
            refine countP_one (fun k => listed.getD k false) (fun k => (listed.setIfInBounds i true).getD k false) i ?_ (fun k => ?_) _ List.nodup_range (by simpa using hil)
            · have h5 := hun
              show listed.getD i false = false
              rw [Array.getD_eq_getD_getElem?, Array.getElem?_eq_getElem (by omega)] at h5 ⊢
              exact h5
            · show (listed.setIfInBounds i true).getD k false = if k = i then true else listed.getD k false
              rw [Array.getD_eq_getD_getElem?, Array.getElem?_setIfInBounds]
              by_cases hki : k = i
              · subst hki; rw [if_pos rfl, if_pos (by omega), if_pos rfl]; rfl
              · rw [if_neg (fun e => hki e.symm), if_neg hki, ← Array.getD_eq_getD_getElem?]
          rw [hcount]; omega
      -- the one operation
      unfold wpOp
      rw [ho]
      unfold wpList at hwl
      show if _ then _ else _
      by_cases hw : Region.wanted o (yielded l.toArray a1.tmps) = true
      · rw [if_pos hw] at hwl ⊢
        rcases hwl with h5 | ⟨_, a0, w0, h5⟩
        · refine .inl (Oper.wp_conv h5 (fun a2 w2 hx => ?_) (fun x a w hx hq => hx hq.1))
          exact hnext a2 w2 hx.2
        · exact absurd h5.1 (by simp)
      · rw [if_neg hw] at hwl ⊢
        exact hnext _ _ hwl.2
  refine key l.length (Array.replicate l.length false) a e _ ha ⟨rfl, rfl, rfl, Nat.le_refl _, fun _ _ => rfl⟩ (fun _ _ => rfl) (by simp) (fun i y o hi => ?_) (fun i o hi => ?_) (fun _ _ _ _ => rfl) (by omega)
  · exfalso
    rw [Array.getD_eq_getD_getElem?, Array.getElem?_replicate] at hi
    split at hi <;> simp at hi
  · exfalso
    rw [Array.getD_eq_getD_getElem?, Array.getElem?_replicate] at hi
    split at hi <;> simp at hi

/-- two ways that meet again -/
theorem Cd.join {α : Type} {x y : Code} {Q : Post} (F : α → List (Nat × Value)) (I : α → World → Prop) (hx : Cd P N x (thenQ (fun e' w' => ∃ s, Mt e' (F s) ∧ I s w') Q) e w)
    (hy : ∀ s e' w', I s w' → Cd P N y Q (ext e' (F s)) w') : Cd P N (.seq x y) Q e w :=
  .seq (hx.mono fun ex e' w' q => by
    cases ex <;> first
      | exact q
      | (obtain ⟨s, hm, hi⟩ := q
         have := hy s e' w' hi
         rw [ext_of_mt hm] at this
         exact this))
end
end Go.Proofs.Ytpdhjnacnmfbjaa.Vc
