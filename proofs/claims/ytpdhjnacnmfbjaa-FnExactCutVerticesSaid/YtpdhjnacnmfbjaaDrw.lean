/-
  A statement whose order Go leaves open, with one operation that turns memory; what it waits for comes ahead of it, what waits for it comes behind. Conditions: as each rule names them.
-/
import Derived.Test.YtpdhjnacnmfbjaaApp
namespace Go.Proofs.Ytpdhjnacnmfbjaa.Vc
open Go.RowKit

/-- what is told by a property alone is the turning operation, or waits for it -/
def prOk (l : List Oper) (m : Nat) (ys : List Yd) : Bool := ys.zipIdx.all fun p => match p.1 with
  | .ex _ => true
  | .pr _ => Nat.beq p.2 m || ancOf l l.length p.2 m
theorem prOk_get {l : List Oper} {m : Nat} {ys : List Yd} (h : prOk l m ys = true) {k : Nat} {y : Yd} (hy : ys[k]? = some y) (hk : k ≠ m) : (∃ v, y = .ex v) ∨ ancOf l l.length k m = true := by
  simp only [prOk, List.all_eq_true] at h
  have := h (y, k) (by
    obtain ⟨hi, hio⟩ := List.getElem?_eq_some_iff.1 hy
    rw [List.mem_iff_getElem?]
    exact ⟨k, by simp [hy]⟩)
  cases y with
  | ex v => exact .inl ⟨v, rfl⟩
  | pr p =>
    simp only [Bool.or_eq_true] at this
    rcases this with h | h
    · exact absurd (Nat.eq_of_beq_eq_true h) hk
    · exact .inr h

section
variable {P : Program} {N : Nat} {e : Env} {w : World}
/-- where the world may stand at operation i: ahead of the turning one, or behind it -/
def Phase (l : List Oper) (m i : Nat) (w w1 : World) (p : Value → World → Prop) : Prop :=
  (Below w.heap.size w w1 ∧ ancOf l l.length i m = false) ∨ ((∃ v, p v w1) ∧ ancOf l l.length m i = false)
theorem Phase.before {l : List Oper} {m i : Nat} {w w1 : World} {p : Value → World → Prop} (h : Phase l m i w w1 p) (ha : ancOf l l.length m i = true) : Below w.heap.size w w1 := by
  rcases h with h | h
  · exact h.1
  · rw [ha] at h; cases h.2
theorem Phase.behind {l : List Oper} {m i : Nat} {w w1 : World} {p : Value → World → Prop} (h : Phase l m i w w1 p) (ha : ancOf l l.length i m = true) : ∃ v, p v w1 := by
  rcases h with h | h
  · rw [ha] at h; cases h.2
  · exact h.1

def AfterM (e1 : Env) (d : Nat) (p : Value → World → Prop) : Env → World → Prop := fun e2 w2 => p (e2 d) w2 ∧ ∀ j, j ≠ d → e2 j = e1 j
theorem AfterM.dn {e1 : Env} {w2 : World} {d : Nat} {p : Value → World → Prop} {v : Value} (hv : p v w2) : AfterM e1 d p (upd e1 d v) w2 := by
  refine ⟨?_, fun j hj => ?_⟩
  · have : upd e1 d v d = v := by unfold upd; rw [Nat.beq_refl]; rfl
    rw [this]; exact hv
  · have : Nat.beq j d = false := by
      cases h : Nat.beq j d with
      | false => rfl
      | true => exact absurd (Nat.eq_of_beq_eq_true h) hj
    unfold upd; rw [this]; rfl

def DrawStepsM (P : Program) (N : Nat) (l : List Oper) (ys : List Yd) (e : Env) (w : World) (m : Nat) (p : Value → World → Prop) : Nat → List Oper → Prop
  | _, [] => True
  | i, o :: r => (∀ e1 w1, Phase l m i w w1 p → (∀ j, j < l.length → memb ((aft o).map (·.on)) j = true → ∀ (y : Yd) (o' : Oper), ys[j]? = some y → l[j]? = some o' → y.holds (e1 (dstOf o')) w1) → (∀ (j : Nat) (o' : Oper), l[j]? = some o' → ancOf l l.length j i = true → e1 (dstOf o') = e (dstOf o')) → 
      bif Nat.beq i m then (Below w.heap.size w w1 → Ops P N l.toArray (AfterM (ext (mix e1 e (l.map dstOf)) (depFr l ys (aft o))) (dstOf o) p) [o] (ext (mix e1 e (l.map dstOf)) (depFr l ys (aft o))) w1)
      else Ops P N l.toArray (After i (ext (mix e1 e (l.map dstOf)) (depFr l ys (aft o))) w1 (dstOf o) (ys.getD i (.pr fun _ _ => True))) [o] (ext (mix e1 e (l.map dstOf)) (depFr l ys (aft o))) w1) ∧ DrawStepsM P N l ys e w m p (i + 1) r

theorem DrawStepsM.get {l : List Oper} {ys : List Yd} {m : Nat} {p : Value → World → Prop} : ∀ {r : List Oper} {i : Nat}, DrawStepsM P N l ys e w m p i r → ∀ k o, r[k]? = some o → ∀ e1 w1, Phase l m (i + k) w w1 p → (∀ j, j < l.length → memb ((aft o).map (·.on)) j = true → ∀ (y : Yd) (o' : Oper), ys[j]? = some y → l[j]? = some o' → y.holds (e1 (dstOf o')) w1) → (∀ (j : Nat) (o' : Oper), l[j]? = some o' → ancOf l l.length j (i + k) = true → e1 (dstOf o') = e (dstOf o')) → 
      bif Nat.beq (i + k) m then (Below w.heap.size w w1 → Ops P N l.toArray (AfterM (ext (mix e1 e (l.map dstOf)) (depFr l ys (aft o))) (dstOf o) p) [o] (ext (mix e1 e (l.map dstOf)) (depFr l ys (aft o))) w1)
      else Ops P N l.toArray (After (i + k) (ext (mix e1 e (l.map dstOf)) (depFr l ys (aft o))) w1 (dstOf o) (ys.getD (i + k) (.pr fun _ _ => True))) [o] (ext (mix e1 e (l.map dstOf)) (depFr l ys (aft o))) w1
  | [], _, _, k, o, hk => by simp at hk
  | x :: r, i, h, 0, o, hk => by simp at hk; subst hk; exact h.1
  | x :: r, i, h, k + 1, o, hk => by
    have := DrawStepsM.get h.2 k o (by simpa using hk)
    simpa [Nat.add_assoc, Nat.add_comm 1 k] using this

theorem Cd.drawM {id : Nat} {l : List Oper} {Q : Post} (m : Nat) (p : Value → World → Prop) (ys : List Yd) (hm : P.follows .mixedOrders = true) (hok : drawOk N l = true) (hlen : Nat.beq l.length ys.length = true) (hp : ys[m]? = some (.pr p)) (honly : prOk l m ys = true) (hlasts : ∀ y ∈ ys, y.lasts)
    (hsteps : DrawStepsM P N l ys e w m p 0 l) (hend : ∀ u w1, (∀ (k : Nat) (p : Value → World → Prop), ys[k]? = some (Yd.pr p) → p (u k) w1) → Q .normal (ext e (endFr l ys u 0)) w1) : Cd P N (.region id l.toArray true) Q e w := .mk' fun a ha => by
  have hlen' : l.length = ys.length := Nat.eq_of_beq_eq_true hlen
  have hml : m < l.length := by rw [hlen']; exact (List.getElem?_eq_some_iff.1 hp).1
  simp only [drawOk, Bool.and_eq_true, List.all_eq_true, decide_eq_true_eq] at hok
  obtain ⟨⟨h1, h2⟩, h3⟩ := hok
  have hdst : ∀ (i : Nat) (o : Oper), l[i]? = some o → ∃ d, o.dst = some d ∧ dstOf o = d ∧ d < N := by
    intro i o ho
    have := h1 o (List.mem_of_getElem? ho)
    cases hd : o.dst with
    | none => rw [hd] at this; cases this
    | some d => rw [hd] at this; exact ⟨d, rfl, by simp [dstOf, hd], by simpa [Nat.blt_eq] using this⟩
  have hback2 : ∀ (i : Nat) (o : Oper), l[i]? = some o → ∀ ed ∈ aft o, ed.on < i ∧ Region.binds .any ed = true := by
    intro i o ho ed hed
    have := h3 (o, i) (by
      obtain ⟨hi, hio⟩ := List.getElem?_eq_some_iff.1 ho
      rw [List.mem_iff_getElem?]
      exact ⟨i, by simp [ho]⟩)
    exact ⟨by simpa [Nat.blt_eq] using this ed hed, (mem_aft.1 hed).2⟩
  have hback : ∀ (i : Nat) (o : Oper), l[i]? = some o → ∀ ed ∈ aft o, ed.on < i := fun i o ho ed hed => (hback2 i o ho ed hed).1
  refine wp_region_any hm ?_
  have key : ∀ (fuel : Nat) (listed : Array Bool) (a1 : Act) (e1 : Env) (w1 : World), Rep N a1 e1 → (listed.getD m false = false → Below w.heap.size w w1) → (∀ j, memb (l.map dstOf) j = false → e1 j = e j) → listed.size = l.length →
      (∀ (i : Nat) (y : Yd) (o : Oper), listed.getD i false = true → ys[i]? = some y → l[i]? = some o → y.holds (e1 (dstOf o)) w1) → (∀ (i : Nat) (o : Oper), listed.getD i false = true → l[i]? = some o → ∀ ed ∈ aft o, listed.getD ed.on false = true) → (∀ (i : Nat) (o : Oper), listed.getD i false = false → l[i]? = some o → e1 (dstOf o) = e (dstOf o)) → (l.length - fuel ≤ (List.range l.length).countP fun i => listed.getD i false) →
      wpAny P .any l.toArray (low N Q) fuel listed a1 w1 := by
    have hfin : ∀ (listed : Array Bool) (a1 : Act) (e1 : Env) (w1 : World), Rep N a1 e1 → (∀ j, memb (l.map dstOf) j = false → e1 j = e j) →
        (∀ (i : Nat) (y : Yd) (o : Oper), listed.getD i false = true → ys[i]? = some y → l[i]? = some o → y.holds (e1 (dstOf o)) w1) → (∀ i, i < l.length → listed.getD i false = true) → low N Q .normal a1 w1 := by
      intro listed a1 e1 w1 hr hag hS hall
      obtain ⟨u, hu, hu2⟩ := endFr_eq (e1 := e1) (e := e) (w1 := w1) l ys 0 hlen' h2 (fun k y o hy ho => hS k y o (hall k (List.getElem?_eq_some_iff.1 ho).1) hy ho)
      refine ⟨e1, hr, ?_⟩
      have := hend u w1 (fun k p hk => by
        have hkl : k < l.length := by rw [hlen']; exact (List.getElem?_eq_some_iff.1 hk).1
        have h5 := hS k _ l[k] (hall k hkl) hk (List.getElem?_eq_getElem hkl)
        have h6 := hu2 k l[k] (List.getElem?_eq_getElem hkl)
        rw [Nat.zero_add] at h6
        rw [h6]; exact h5)
      rw [hu, mix_eq hag] at this
      exact this
    have hready : ∀ (listed : Array Bool), listed.size = l.length → Region.ready .any l.toArray listed = [] → ∀ i, i < l.length → listed.getD i false = true := by
      intro listed hsz hnil i
      induction i using Nat.strongRecOn with
      | _ i ih =>
        intro hi
        cases hli : listed.getD i false with
        | true => rfl
        | false =>
          exfalso
          have : i ∈ Region.ready .any l.toArray listed := by
            rw [mem_ready]
            refine ⟨?_, l[i], by simp [hi], fun ed hed hbd => ih ed.on (hback i _ (List.getElem?_eq_getElem hi) ed (mem_aft.2 ⟨hed, hbd⟩)) (by have := hback i _ (List.getElem?_eq_getElem hi) ed (mem_aft.2 ⟨hed, hbd⟩); omega)⟩
            rw [Array.getD_eq_getD_getElem?, Array.getElem?_eq_getElem (by omega)] at hli ⊢
            exact hli
          rw [hnil] at this
          cases this
    intro fuel
    induction fuel with
    | zero =>
      intro listed a1 e1 w1 hr hb hag hsz hS hcl hun0 hcnt
      have hall : ∀ i, i < l.length → listed.getD i false = true := by
        have h4 : (List.range l.length).countP (fun i => listed.getD i false) = (List.range l.length).length := by
          have := List.countP_le_length (p := fun i => listed.getD i false) (l := List.range l.length)
          simp at this hcnt ⊢; omega
        rw [List.countP_eq_length] at h4
        intro i hi
        exact h4 i (by simpa using hi)
      refine ⟨?_, hfin listed a1 e1 w1 hr hag hS hall⟩
      rw [List.eq_nil_iff_forall_not_mem]
      intro i hi
      obtain ⟨h5, o, ho, _⟩ := mem_ready.1 hi
      have hil : i < l.length := by
        rcases Nat.lt_or_ge i l.length with h | h
        · exact h
        · simp [List.getElem?_eq_none h] at ho
      have h6 := hall i hil
      rw [Array.getD_eq_getD_getElem?, Array.getElem?_eq_getElem (by omega)] at h5 h6
      simp at h5 h6
      rw [h5] at h6; cases h6
    | succ fuel ih =>
      intro listed a1 e1 w1 hr hb hag hsz hS hcl hun0 hcnt
      refine ⟨fun hnil => hfin listed a1 e1 w1 hr hag hS (hready listed hsz hnil), fun i hi => ?_⟩
      obtain ⟨hun, o, ho, haf⟩ := mem_ready.1 hi
      have ho' : l[i]? = some o := by simpa using ho
      have hil : i < l.length := (List.getElem?_eq_some_iff.1 ho').1
      obtain ⟨d, hd, hdo, hdN⟩ := hdst i o ho'
      have hun' : listed.getD i false = false := by
        have h5 := hun
        rw [Array.getD_eq_getD_getElem?, Array.getElem?_eq_getElem (by omega)] at h5 ⊢
        exact h5
      have hrd : ∀ ed ∈ aft o, listed.getD ed.on false = true := fun ed hed => haf ed (mem_aft.1 hed).1 (mem_aft.1 hed).2
      have hdeps : ∀ j, memb ((aft o).map (·.on)) j = true → ∀ (y : Yd) (o' : Oper), ys[j]? = some y → l[j]? = some o' → y.holds (e1 (dstOf o')) w1 := by
        intro j hj y o' hy hoj
        rw [memb_iff, List.mem_map] at hj
        obtain ⟨ed, hed, rfl⟩ := hj
        exact hS _ y o' (hrd ed hed) hy hoj
      have hph : Phase l m (0 + i) w w1 p := by
        rw [Nat.zero_add]
        cases hlm : listed.getD m false with
        | false =>
          refine .inl ⟨hb hlm, ?_⟩
          cases han : ancOf l l.length i m with
          | false => rfl
          | true => have := ancOf_ready hcl ho' hrd _ _ han; rw [hlm] at this; cases this
        | true =>
          refine .inr ⟨⟨_, hS m _ l[m] hlm hp (List.getElem?_eq_getElem hml)⟩, ?_⟩
          cases han : ancOf l l.length m i with
          | false => rfl
          | true => have := ancOf_listed hcl _ _ _ han hlm; rw [hun'] at this; cases this
      have hst := hsteps.get i o ho' e1 w1 hph (fun j _ hj => hdeps j hj) (fun j o' hj han => by
        refine hun0 j o' ?_ hj
        cases hlj : listed.getD j false with
        | false => rfl
        | true =>
          have := ancOf_listed hcl _ _ _ han hlj
          rw [Nat.zero_add, hun'] at this; cases this)
      rw [mix_eq hag, ext_of_mt (depFr_mt (aft o) (fun ed hed => by have := hback i o ho' ed hed; omega) hdeps), Nat.zero_add] at hst
      -- what holds behind the operation
      let KK : Env → World → Prop := fun e2 w2 => (if i = m then p (e2 (dstOf o)) w2 else Below w1.heap.size w1 w2 ∧ (ys.getD i (.pr fun _ _ => True)).holds (e2 (dstOf o)) w2) ∧ ∀ j, j ≠ dstOf o → e2 j = e1 j
      have hwl' : ∃ K : Env → World → Prop, (∀ e2 w2, K e2 w2 → KK e2 w2) ∧ Ops P N l.toArray K [o] e1 w1 := by
        by_cases him : i = m
        · have hbm : Nat.beq i m = true := by rw [him]; exact Nat.beq_refl m
          rw [hbm] at hst
          refine ⟨_, fun e2 w2 h => ?_, hst (hb (by rw [← him]; exact hun'))⟩
          exact ⟨by rw [if_pos him]; exact h.1, h.2⟩
        · have hbm : Nat.beq i m = false := by
            cases hbb : Nat.beq i m with
            | false => rfl
            | true => exact absurd (Nat.eq_of_beq_eq_true hbb) him
          rw [hbm] at hst
          refine ⟨_, fun e2 w2 h => ?_, hst⟩
          exact ⟨by rw [if_neg him]; exact ⟨h.1, h.2.1⟩, h.2.2⟩
      obtain ⟨K, hKK, hst'⟩ := hwl'
      have hwl := hst'.run a1 hr
      have hnext : ∀ a2 w2, (∃ e2, Rep N a2 e2 ∧ K e2 w2) → wpAny P .any l.toArray (low N Q) fuel (listed.setIfInBounds i true) a2 w2 := by
        intro a2 w2 ⟨e2, hr2, hK2⟩
        obtain ⟨hy2, hag2⟩ := hKK _ _ hK2
        have hgs : ∀ k, (listed.setIfInBounds i true).getD k false = if k = i then true else listed.getD k false := by
          intro k
          rw [Array.getD_eq_getD_getElem?, Array.getElem?_setIfInBounds]
          by_cases hki : k = i
          · subst hki; rw [if_pos rfl, if_pos (by omega), if_pos rfl]; rfl
          · rw [if_neg (fun e => hki e.symm), if_neg hki, ← Array.getD_eq_getD_getElem?]
        refine ih _ a2 e2 w2 hr2 (fun hlm => ?_) (fun j hj => ?_) (by simpa using hsz) (fun k y o' hk hy hok => ?_) (fun k o' hk hok ed hed => ?_) (fun k o' hk hok => ?_) ?_
        · rw [hgs] at hlm
          by_cases him : i = m
          · rw [if_pos him.symm] at hlm; cases hlm
          · rw [if_neg (fun e => him e.symm)] at hlm
            rw [if_neg him] at hy2
            exact (hb hlm).trans (hy2.1.mono (hb hlm).size)
        · have hne : j ≠ dstOf o := by
            rintro rfl
            have : memb (l.map dstOf) (dstOf o) = true := by rw [memb_iff]; exact List.mem_map.2 ⟨o, List.mem_of_getElem? ho', rfl⟩
            rw [this] at hj; cases hj
          rw [hag2 j hne]; exact hag j hj
        · by_cases hki : k = i
          · subst hki
            rw [ho'] at hok
            cases hok
            by_cases him : k = m
            · subst him
              rw [if_pos rfl] at hy2
              rw [hp] at hy; cases hy
              exact hy2
            · rw [if_neg him] at hy2
              have : ys.getD k (.pr fun _ _ => True) = y := by simp [List.getD_eq_getElem?_getD, hy]
              rw [this] at hy2
              exact hy2.2
          · have hk' : listed.getD k false = true := by rw [hgs, if_neg hki] at hk; exact hk
            have h7 := hS k y o' hk' hy hok
            have hne : dstOf o' ≠ dstOf o := by
              intro heq
              have hkl := (List.getElem?_eq_some_iff.1 hok).1
              have h9 : k = i := (List.getElem_inj (xs := l.map dstOf) (h₀ := by simpa using hkl) (h₁ := by simpa using hil) h2).1 (by
                have e1 := (List.getElem?_eq_some_iff.1 hok).2
                have e2 := (List.getElem?_eq_some_iff.1 ho').2
                simp [e1, e2, heq])
              exact hki h9
            rw [hag2 _ hne]
            by_cases him : i = m
            · rcases prOk_get honly hy (fun e => hki (e.trans him.symm)) with ⟨v, rfl⟩ | han
              · exact h7
              · have := ancOf_listed hcl _ _ _ han hk'
                rw [← him, hun'] at this; cases this
            · rw [if_neg him] at hy2
              exact Yd.holds_later (hlasts y (List.mem_of_getElem? hy)) h7 hy2.1
        · rw [hgs]
          by_cases hei : ed.on = i
          · rw [if_pos hei]
          · rw [if_neg hei]
            by_cases hki : k = i
            · subst hki
              rw [ho'] at hok; cases hok
              exact hrd ed hed
            · rw [hgs, if_neg hki] at hk
              exact hcl k o' hk hok ed hed
        · rw [hgs] at hk
          by_cases hki : k = i
          · rw [if_pos hki] at hk; cases hk
          · rw [if_neg hki] at hk
            rw [hag2 _ (fun heq => by
              have hkl := (List.getElem?_eq_some_iff.1 hok).1
              have h9 : k = i := (List.getElem_inj (xs := l.map dstOf) (h₀ := by simpa using hkl) (h₁ := by simpa using hil) h2).1 (by
                have e1 := (List.getElem?_eq_some_iff.1 hok).2
                have e2 := (List.getElem?_eq_some_iff.1 ho').2
                simp [e1, e2, heq])
              exact hki h9)]
            exact hun0 k o' hk hok
        · have hcount : (List.range l.length).countP (fun k => (listed.setIfInBounds i true).getD k false) = (List.range l.length).countP (fun k => listed.getD k false) + 1 :=
            countP_one (fun k => listed.getD k false) (fun k => (listed.setIfInBounds i true).getD k false) i hun' hgs _ List.nodup_range (by simpa using hil)
          rw [hcount]; omega
      unfold wpOp
      rw [ho]
      unfold wpList at hwl
      show if _ then _ else _
      by_cases hw : Region.wanted o (yielded l.toArray a1.tmps) = true
      · rw [if_pos hw] at hwl ⊢
        rcases hwl with h5 | ⟨_, a0, w0, h5⟩
        · refine .inl (Oper.wp_conv h5 (fun a2 w2 hx => ?_) (fun x a w hx hq => hx hq.1))
          exact hnext a2 w2 hx.2
        · exact absurd h5.1 (by simp)
      · rw [if_neg hw] at hwl ⊢
        exact hnext _ _ hwl.2
  refine key l.length (Array.replicate l.length false) a e _ ha (fun _ => ⟨rfl, rfl, rfl, Nat.le_refl _, fun _ _ => rfl⟩) (fun _ _ => rfl) (by simp) (fun i y o hi => ?_) (fun i o hi => ?_) (fun _ _ _ _ => rfl) (by omega)
  · exfalso
    rw [Array.getD_eq_getD_getElem?, Array.getElem?_replicate] at hi
    split at hi <;> simp at hi
  · exfalso
    rw [Array.getD_eq_getD_getElem?, Array.getElem?_replicate] at hi
    split at hi <;> simp at hi
end
end Go.Proofs.Ytpdhjnacnmfbjaa.Vc
