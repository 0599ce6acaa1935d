/-
  The texts B7, Drn, Agg, G1, G2, G3, Gct, G4, G5, F1, F2, Cyc, C1, C2 in one. Conditions: as each part states them.
-/
import Derived.Test.YtgobjpcankaicaaGreatDoorZc
import Derived.Test.YtgobjpcankaicaaGreatDoorZb
import Derived.KernelRfl
import Derived.Test.YtgobjpcankaicaaGreatDoorZa
/-
  The walks of the desk's small functions. Conditions: as each states them.
-/
namespace Go.Proofs.YtgobjpcankaicaaGreatDoor.Vc
open Go.RowKit
section
variable {P : Program} {N : Nat} {ops : Array Oper} {K : Env → World → Prop} {rest : List Oper} {e : Env} {w : World} {d : Nat} {ty : TypeId} {pos : String} {af : Array Edge} {x y : Operand} {xt yt : TypeId}
theorem run_equal_bool [Und P xt .bool] (a b : Bool) : (Op.equal xt (.bool a) (.bool b)).run P w = .ok (a == b) w :=
  run_equalIn_bool w 9999 xt a b Und.out
theorem Ops.neqB [Und P xt .bool] {a b : Bool} (hx : ev e x = .bool a) (hy : ev e y = .bool b) (hb : Nat.blt d N = true) (hK : Ops P N ops K rest (upd e d (.bool (!(a == b)))) w) :
    Ops P N ops K (⟨some d, .binOp .neq xt x y yt, ty, pos, af, none⟩ :: rest) e w :=
  .val (by simp [execOp, hx, hy, eqGuard, binOp, run_equal_bool]) hb hK
theorem Ops.eqlB [Und P xt .bool] {a b : Bool} (hx : ev e x = .bool a) (hy : ev e y = .bool b) (hb : Nat.blt d N = true) (hK : Ops P N ops K rest (upd e d (.bool (a == b))) w) :
    Ops P N ops K (⟨some d, .binOp .eql xt x y yt, ty, pos, af, none⟩ :: rest) e w :=
  .val (by simp [execOp, hx, hy, eqGuard, binOp, run_equal_bool]) hb hK
end

theorem szGo_fits : ∀ (ns : List Nat) (l : Int), 0 ≤ l → 0 ≤ szGo ns l → szGo ns l ≤ l ∧ ∀ n ∈ ns, (n : Int) ≤ l
  | [], l, _, _ => ⟨by simp [szGo], fun n hn => by cases hn⟩
  | m :: r, l, h0, h => by
    simp only [szGo] at h ⊢
    split at h
    · omega
    · rename_i h1
      rw [if_neg h1]
      have hle := szI_le m l h0
      have ih := szGo_fits r (szI m l) (by omega) h
      refine ⟨by omega, fun n hn => ?_⟩
      rcases List.mem_cons.1 hn with rfl | hn
      · unfold szI at h1; split at h1 <;> omega
      · have := ih.2 n hn; omega
theorem szSS_fits {ns : List Nat} {l : Int} (h0 : 0 ≤ l) (h : 0 ≤ szSS ns l) : szSS ns l ≤ l ∧ (ns.length : Int) ≤ l ∧ ∀ n ∈ ns, (n : Int) ≤ l := by
  unfold szSS at h ⊢
  split at h
  · omega
  · rename_i h1
    rw [if_neg h1]
    have := szGo_fits ns (l - ns.length) (by omega) h
    exact ⟨by omega, by omega, fun n hn => by have := this.2 n hn; omega⟩
theorem szSS_neg {ns : List Nat} {l : Int} (h : szSS ns l < 0) : szSS ns l = -1 := by
  have key : ∀ (ns : List Nat) (l : Int), 0 ≤ l → szGo ns l < 0 → szGo ns l = -1 := by
    intro ns
    induction ns with
    | nil => intro l h0 h; simp [szGo] at h; omega
    | cons n r ih =>
      intro l h0
      simp only [szGo]
      split
      · intro _; rfl
      · exact ih _ (by omega)
  unfold szSS at h ⊢
  split
  · rfl
  · rename_i h1
    rw [if_neg h1] at h
    exact key _ _ (by omega) h
theorem fits_of {n : Nat} {rs : List SlV} {l : Int} (hl : rs.length = n) (h0 : 0 ≤ l ∧ l ≤ 1048576) (h : 0 ≤ szSS (lens rs) l) : Fits n rs := by
  have h1 := szSS_fits h0.1 h
  refine ⟨by have := h1.2.1; simp [lens] at this; omega, fun i hi => ?_⟩
  have := h1.2.2 (rs.getD i slNil).n (by
    simp only [lens, List.mem_map]
    exact ⟨rs[i]'(by omega), List.getElem_mem _, by simp [List.getD_eq_getElem?_getD, List.getElem?_eq_getElem (show i < rs.length by omega)]⟩)
  omega

end Go.Proofs.YtgobjpcankaicaaGreatDoor.Vc
/-
  A statement whose order Go leaves open, with any operations that turn memory: each world's property holds till the next of them. Conditions: as each rule names them.
-/
namespace Go.Proofs.YtgobjpcankaicaaGreatDoor.Vc
open Go.RowKit

def dsl (l : List Oper) : List Nat := l.filterMap (·.dst)
theorem filterMap_inj {α β : Type} (f : α → Option β) : ∀ (l : List α), (l.filterMap f).Nodup → ∀ (i j : Nat) (a b : α) (d : β), l[i]? = some a → l[j]? = some b → f a = some d → f b = some d → i = j
  | [], _, i, j, a, b, d, hi, _, _, _ => by simp at hi
  | x :: l, hn, i, j, a, b, d, hi, hj, ha, hb => by
    have mem : ∀ (k : Nat) (c : α), l[k]? = some c → f c = some d → d ∈ l.filterMap f := fun k c hk hc => List.mem_filterMap.2 ⟨c, List.mem_of_getElem? hk, hc⟩
    cases hx : f x with
    | none =>
      rw [List.filterMap_cons, hx] at hn
      cases i with
      | zero => simp at hi; subst hi; rw [hx] at ha; cases ha
      | succ i =>
        cases j with
        | zero => simp at hj; subst hj; rw [hx] at hb; cases hb
        | succ j => rw [filterMap_inj f l hn i j a b d (by simpa using hi) (by simpa using hj) ha hb]
    | some y =>
      rw [List.filterMap_cons, hx] at hn
      simp only [List.nodup_cons] at hn
      cases i with
      | zero =>
        simp at hi; subst hi
        rw [hx] at ha; cases ha
        cases j with
        | zero => rfl
        | succ j => exact absurd (mem j b (by simpa using hj) hb) hn.1
      | succ i =>
        cases j with
        | zero =>
          simp at hj; subst hj
          rw [hx] at hb; cases hb
          exact absurd (mem i a (by simpa using hi) ha) hn.1
        | succ j => rw [filterMap_inj f l hn.2 i j a b d (by simpa using hi) (by simpa using hj) ha hb]

def valOf (o : Oper) (e : Env) : Value := match o.dst with
  | some d => e d
  | none => undef
def isEx : Yd → Bool
  | .ex _ => true
  | .pr _ => false
def drawOkN (N : Nat) (l : List Oper) (ys : List Yd) (ms : List Nat) : Bool :=
  l.all (fun o => match o.dst with | some d => Nat.blt d N | none => true) && decide ((dsl l).Nodup) && (l.zipIdx.all fun p => (aft p.1).all fun ed => Nat.blt ed.on p.2) && Nat.beq l.length ys.length && (l.zip ys).all (fun p => p.1.dst.isSome || !isEx p.2) && decide ms.Nodup && ms.all (fun m => Nat.blt m l.length) && (ys.zipIdx.all fun p => !(isEx p.1) || !(ms.contains p.2))
def loOf (l : List Oper) (ms : List Nat) (k : Nat) : Nat := ms.countP fun m => ancOf l l.length k m
def hiOf (l : List Oper) (ms : List Nat) (k : Nat) : Nat := ms.countP fun m => !(ancOf l l.length m k) && !(Nat.beq m k)
def phOf (l : List Oper) (ms : List Nat) (k : Nat) : Nat := ms.countP fun m => Nat.beq m k || ancOf l l.length k m
/-- one that turns, in order with all that turn -/
def chainAt (l : List Oper) (ms : List Nat) (m : Nat) : Bool := ms.all fun m' => Nat.beq m' m || ancOf l l.length m m' || ancOf l l.length m' m
def Yd.at_ (c ph : Nat) : Yd → Value → World → Prop
  | .ex v, u, _ => u = v
  | .pr p, u, w => c = ph → p u w
def endFrN : List Oper → List Yd → (Nat → Value) → Nat → List (Nat × Value)
  | o :: l, y :: ys, u, i => match o.dst, y with
    | some d, .ex v => (d, v) :: endFrN l ys u (i + 1)
    | some d, .pr _ => (d, u i) :: endFrN l ys u (i + 1)
    | none, _ => endFrN l ys u (i + 1)
  | _, _, _, _ => []
def depFrN (l : List Oper) (ys : List Yd) : List Edge → List (Nat × Value)
  | [] => []
  | ed :: r => match ys[ed.on]?, (l[ed.on]?).bind (·.dst) with
    | some (.ex v), some d => (d, v) :: depFrN l ys r
    | _, _ => depFrN l ys r

theorem le_of_lo {a b c : Nat} (h : a ≤ c) (e : a = b) : b ≤ c := e ▸ h
theorem le_of_hi {a b c : Nat} (h : c ≤ a) (e : a = b) : c ≤ b := e ▸ h
section
variable {P : Program} {N : Nat} {e : Env} {w : World}
def AfterN (o : Oper) (y : Yd) (e1 : Env) (w1 : World) : Env → World → Prop := fun e2 w2 => Below w1.heap.size w1 w2 ∧ y.holds (valOf o e2) w2 ∧ ∀ j, o.dst ≠ some j → e2 j = e1 j
def AfterT (o : Oper) (y : Yd) (e1 : Env) : Env → World → Prop := fun e2 w2 => y.holds (valOf o e2) w2 ∧ ∀ j, o.dst ≠ some j → e2 j = e1 j
theorem upd_at (e1 : Env) (d : Nat) (v : Value) : upd e1 d v d = v := by unfold upd; rw [Nat.beq_refl]; rfl
theorem upd_ne (e1 : Env) {d j : Nat} (v : Value) (h : j ≠ d) : upd e1 d v j = e1 j := by
  have : Nat.beq j d = false := by
    cases hb : Nat.beq j d with
    | false => rfl
    | true => exact absurd (Nat.eq_of_beq_eq_true hb) h
  unfold upd; rw [this]; rfl
theorem AfterN.dn {o : Oper} {y : Yd} {e1 : Env} {w1 w2 : World} {d : Nat} {v : Value} (hd : o.dst = some d) (hb : Below w1.heap.size w1 w2) (hv : y.holds v w2) : AfterN o y e1 w1 (upd e1 d v) w2 := by
  refine ⟨hb, ?_, fun j hj => upd_ne e1 v (fun h => hj (by rw [hd, h]))⟩
  unfold valOf; rw [hd]
  show y.holds (upd e1 d v d) w2
  rw [upd_at]; exact hv
theorem AfterT.dn {o : Oper} {y : Yd} {e1 : Env} {w2 : World} {d : Nat} {v : Value} (hd : o.dst = some d) (hv : y.holds v w2) : AfterT o y e1 (upd e1 d v) w2 := by
  refine ⟨?_, fun j hj => upd_ne e1 v (fun h => hj (by rw [hd, h]))⟩
  unfold valOf; rw [hd]
  show y.holds (upd e1 d v d) w2
  rw [upd_at]; exact hv
theorem AfterT.st {o : Oper} {y : Yd} {e1 : Env} {w2 : World} (hd : o.dst = none) (hv : y.holds undef w2) : AfterT o y e1 e1 w2 := by
  refine ⟨?_, fun j _ => rfl⟩
  unfold valOf; rw [hd]; exact hv

def StepN (P : Program) (N : Nat) (l : List Oper) (ys : List Yd) (ms : List Nat) (e : Env) (w : World) (i : Nat) (o : Oper) : Prop :=
  ∀ (e1 : Env) (w1 : World) (c : Nat), loOf l ms i ≤ c → c ≤ hiOf l ms i → (c = 0 → Below w.heap.size w w1) →
    (∀ (j : Nat) (y : Yd) (o' : Oper), ancOf l l.length i j = true → ys[j]? = some y → l[j]? = some o' → y.at_ c (phOf l ms j) (valOf o' e1) w1) →
    (∀ (j : Nat) (o' : Oper), l[j]? = some o' → ancOf l l.length j i = true → valOf o' e1 = valOf o' e) →
    (∀ (m : Nat) (y : Yd) (o' : Oper), memb ms m = true → chainAt l ms m = true → phOf l ms m = c → ys[m]? = some y → l[m]? = some o' → y.at_ c (phOf l ms m) (valOf o' e1) w1) →
    bif memb ms i then Ops P N l.toArray (AfterT o (ys.getD i (.pr fun _ _ => True)) (ext (mix e1 e (dsl l)) (depFrN l ys (aft o)))) [o] (ext (mix e1 e (dsl l)) (depFrN l ys (aft o))) w1
    else Ops P N l.toArray (AfterN o (ys.getD i (.pr fun _ _ => True)) (ext (mix e1 e (dsl l)) (depFrN l ys (aft o))) w1) [o] (ext (mix e1 e (dsl l)) (depFrN l ys (aft o))) w1
def StepsN (P : Program) (N : Nat) (l : List Oper) (ys : List Yd) (ms : List Nat) (e : Env) (w : World) : Nat → List Oper → Prop
  | _, [] => True
  | i, o :: r => StepN P N l ys ms e w i o ∧ StepsN P N l ys ms e w (i + 1) r
theorem StepsN.get {l : List Oper} {ys : List Yd} {ms : List Nat} : ∀ {r : List Oper} {i : Nat}, StepsN P N l ys ms e w i r → ∀ k o, r[k]? = some o → StepN P N l ys ms e w (i + k) o
  | [], _, _, k, o, hk => by simp at hk
  | x :: r, i, h, 0, o, hk => by simp at hk; subst hk; exact h.1
  | x :: r, i, h, k + 1, o, hk => by
    have := StepsN.get h.2 k o (by simpa using hk)
    rw [show i + 1 + k = i + (k + 1) by omega] at this
    exact this

theorem depFrN_mt {l : List Oper} {ys : List Yd} {e1 : Env} : ∀ (af : List Edge), (∀ ed ∈ af, ∀ (v : Value) (o' : Oper), ys[ed.on]? = some (.ex v) → l[ed.on]? = some o' → valOf o' e1 = v) → Mt e1 (depFrN l ys af)
  | [], _ => trivial
  | ed :: r, h => by
    have hr := depFrN_mt r (fun x hx => h x (List.mem_cons_of_mem _ hx))
    unfold depFrN
    split
    · rename_i v d hy hd
      refine ⟨?_, hr⟩
      cases ho : l[ed.on]? with
      | none => rw [ho] at hd; cases hd
      | some o' =>
        rw [ho] at hd
        have hd' : o'.dst = some d := hd
        have := h ed (by simp) v o' hy ho
        unfold valOf at this
        rw [hd'] at this
        exact this
    · exact hr

theorem endFrN_eq {e1 e : Env} : ∀ (l : List Oper) (ys : List Yd) (i : Nat), l.length = ys.length → (dsl l).Nodup → (∀ (k : Nat) (v : Value) (o : Oper), ys[k]? = some (.ex v) → l[k]? = some o → valOf o e1 = v ∨ o.dst = none) →
    ∃ u : Nat → Value, ext e (endFrN l ys u i) = mix e1 e (dsl l) ∧ (∀ (k : Nat) (o : Oper), l[k]? = some o → u (i + k) = valOf o e1)
  | [], [], i, _, _, _ => ⟨fun _ => undef, by funext j; rfl, fun k o h => by simp at h⟩
  | [], y :: ys, i, hl, _, _ => by simp at hl
  | o :: l, [], i, hl, _, _ => by simp at hl
  | o :: l, y :: ys, i, hl, hn, h => by
    have hn' : (dsl l).Nodup := by
      unfold dsl at hn ⊢
      rw [List.filterMap_cons] at hn
      split at hn
      · exact hn
      · exact (List.nodup_cons.1 hn).2
    obtain ⟨u, hu, hu2⟩ := endFrN_eq (e1 := e1) (e := e) l ys (i + 1) (by simpa using hl) hn' (fun k v o' hy ho => h (k + 1) v o' (by simpa using hy) (by simpa using ho))
    have cng : ∀ (l : List Oper) (ys : List Yd) (i : Nat) (u u' : Nat → Value), (∀ k, i ≤ k → u k = u' k) → endFrN l ys u i = endFrN l ys u' i := by
      intro l
      induction l with
      | nil => intros; rfl
      | cons o l ih =>
        intro ys i u u' hk
        cases ys with
        | nil => rfl
        | cons y ys =>
          have h1 := ih ys (i + 1) u u' (fun k hk' => hk k (by omega))
          simp only [endFrN]
          rw [h1, hk i (by omega)]
    have hc := cng l ys (i + 1) (fun k => if k = i then valOf o e1 else u k) u (fun k hk => by show (if k = i then _ else _) = _; rw [if_neg (by omega)])
    refine ⟨fun k => if k = i then valOf o e1 else u k, ?_, fun k o' hk => ?_⟩
    · cases hd : o.dst with
      | none =>
        have e1' : dsl (o :: l) = dsl l := by unfold dsl; rw [List.filterMap_cons, hd]
        simp only [endFrN, hd, hc, hu, e1']
      | some d =>
        have e1' : dsl (o :: l) = d :: dsl l := by unfold dsl; rw [List.filterMap_cons, hd]
        have hval : valOf o e1 = e1 d := by unfold valOf; rw [hd]
        have hstep : ∀ v, v = e1 d → upd (mix e1 e (dsl l)) d v = mix e1 e (d :: dsl l) := by
          intro v hv
          funext j
          simp only [upd, mix, memb]
          cases hb : Nat.beq j d with
          | true => rw [Nat.eq_of_beq_eq_true hb, hv]; rfl
          | false => rfl
        rw [e1']
        cases y with
        | ex v =>
          have h0 := h 0 v o rfl rfl
          simp only [endFrN, hd, ext, hc, hu]
          refine hstep v ?_
          rcases h0 with h0 | h0
          · rw [← h0, hval]
          · rw [hd] at h0; cases h0
        | pr p =>
          simp only [endFrN, hd, ext, hc, hu, if_pos]
          exact hstep _ hval
    · cases k with
      | zero => simp at hk; subst hk; simp
      | succ k =>
        have := hu2 k o' (by simpa using hk)
        show (if i + (k + 1) = i then _ else u (i + (k + 1))) = _
        rw [if_neg (by omega), ← this]; congr 1; omega

theorem countP_le_of {ms : List Nat} {p q : Nat → Bool} (h : ∀ m ∈ ms, p m = true → q m = true) : ms.countP p ≤ ms.countP q := List.countP_mono_left h

theorem Cd.drawN {id : Nat} {l : List Oper} {Q : Post} (ms : List Nat) (ys : List Yd) (hm : P.follows .mixedOrders = true) (hok : drawOkN N l ys ms = true) (hlasts : ∀ y ∈ ys, y.lasts)
    (hsteps : StepsN P N l ys ms e w 0 l) (hend : ∀ u w1, (ms = [] → Below w.heap.size w w1) → (∀ (k : Nat) (p : Value → World → Prop), ys[k]? = some (Yd.pr p) → phOf l ms k = ms.length → p (u k) w1) → Q .normal (ext e (endFrN l ys u 0)) w1) : Cd P N (.region id l.toArray true) Q e w := .mk' fun a ha => by
  simp only [drawOkN, Bool.and_eq_true, List.all_eq_true, decide_eq_true_eq] at hok
  obtain ⟨⟨⟨⟨⟨⟨⟨h1, h2⟩, h3⟩, hlen⟩, hnone⟩, hmn⟩, hml⟩, hmy⟩ := hok
  have hlen' : l.length = ys.length := Nat.eq_of_beq_eq_true hlen
  have hback : ∀ (i : Nat) (o : Oper), l[i]? = some o → ∀ ed ∈ aft o, ed.on < i := by
    intro i o ho ed hed
    have := h3 (o, i) (by
      obtain ⟨hi, hio⟩ := List.getElem?_eq_some_iff.1 ho
      rw [List.mem_iff_getElem?]
      exact ⟨i, by simp [ho]⟩)
    simpa [Nat.blt_eq] using this ed hed
  have hdN : ∀ (i : Nat) (o : Oper) (d : Nat), l[i]? = some o → o.dst = some d → d < N := by
    intro i o d ho hd
    have := h1 o (List.mem_of_getElem? ho)
    rw [hd] at this
    simpa [Nat.blt_eq] using this
  have hexd : ∀ (i : Nat) (o : Oper) (v : Value), l[i]? = some o → ys[i]? = some (.ex v) → o.dst ≠ none := by
    intro i o v ho hy hd
    have := hnone (o, .ex v) (by
      rw [List.mem_iff_getElem?]
      exact ⟨i, by rw [List.getElem?_zip_eq_some]; exact ⟨ho, hy⟩⟩)
    simp [hd, isEx] at this
  have hmpr : ∀ (m : Nat) (y : Yd), m ∈ ms → ys[m]? = some y → ∃ p, y = .pr p := by
    intro m y hmm hy
    have := hmy (y, m) (by
      obtain ⟨hi, hio⟩ := List.getElem?_eq_some_iff.1 hy
      rw [List.mem_iff_getElem?]
      exact ⟨m, by simp [hy]⟩)
    cases y with
    | ex v => simp [isEx, hmm] at this
    | pr p => exact ⟨p, rfl⟩
  refine wp_region_any hm ?_
  let cnt : Array Bool → Nat := fun listed => ms.countP fun m => listed.getD m false
  have key : ∀ (fuel : Nat) (listed : Array Bool) (a1 : Act) (e1 : Env) (w1 : World), Rep N a1 e1 → (cnt listed = 0 → Below w.heap.size w w1) → (∀ j, memb (dsl l) j = false → e1 j = e j) → listed.size = l.length →
      (∀ (i : Nat) (y : Yd) (o : Oper), listed.getD i false = true → ys[i]? = some y → l[i]? = some o → y.at_ (cnt listed) (phOf l ms i) (valOf o e1) w1) → (∀ (i : Nat) (o : Oper), listed.getD i false = true → l[i]? = some o → ∀ ed ∈ aft o, listed.getD ed.on false = true) → (∀ (i : Nat) (o : Oper), listed.getD i false = false → l[i]? = some o → valOf o e1 = valOf o e) → (l.length - fuel ≤ (List.range l.length).countP fun i => listed.getD i false) →
      wpAny P .any l.toArray (low N Q) fuel listed a1 w1 := by
    have hfin : ∀ (listed : Array Bool) (a1 : Act) (e1 : Env) (w1 : World), Rep N a1 e1 → (cnt listed = 0 → Below w.heap.size w w1) → (∀ j, memb (dsl l) j = false → e1 j = e j) →
        (∀ (i : Nat) (y : Yd) (o : Oper), listed.getD i false = true → ys[i]? = some y → l[i]? = some o → y.at_ (cnt listed) (phOf l ms i) (valOf o e1) w1) → (∀ i, i < l.length → listed.getD i false = true) → low N Q .normal a1 w1 := by
      intro listed a1 e1 w1 hr hb hag hS hall
      have hcnt : cnt listed = ms.length := by
        show ms.countP _ = ms.length
        rw [List.countP_eq_length]
        intro m hmm
        exact hall m (by simpa [Nat.blt_eq] using hml m hmm)
      obtain ⟨u, hu, hu2⟩ := endFrN_eq (e1 := e1) (e := e) l ys 0 hlen' h2 (fun k v o hy ho => .inl (hS k _ o (hall k (List.getElem?_eq_some_iff.1 ho).1) hy ho))
      refine ⟨e1, hr, ?_⟩
      have := hend u w1 (fun h0 => hb (by rw [hcnt, h0]; rfl)) (fun k p hk hph => by
        have hkl : k < l.length := by rw [hlen']; exact (List.getElem?_eq_some_iff.1 hk).1
        have h5 := hS k _ l[k] (hall k hkl) hk (List.getElem?_eq_getElem hkl)
        have h6 := hu2 k l[k] (List.getElem?_eq_getElem hkl)
        rw [Nat.zero_add] at h6
        rw [h6]; exact h5 (by rw [hcnt, hph]))
      rw [hu, mix_eq hag] at this
      exact this
    have hready : ∀ (listed : Array Bool), listed.size = l.length → Region.ready .any l.toArray listed = [] → ∀ i, i < l.length → listed.getD i false = true := by
      intro listed hsz hnil i
      induction i using Nat.strongRecOn with
      | _ i ih =>
        intro hi
        cases hli : listed.getD i false with
        | true => rfl
        | false =>
          exfalso
          have : i ∈ Region.ready .any l.toArray listed := by
            rw [mem_ready]
            refine ⟨?_, l[i], by simp [hi], fun ed hed hbd => ih ed.on (hback i _ (List.getElem?_eq_getElem hi) ed (mem_aft.2 ⟨hed, hbd⟩)) (by have := hback i _ (List.getElem?_eq_getElem hi) ed (mem_aft.2 ⟨hed, hbd⟩); omega)⟩
            rw [Array.getD_eq_getD_getElem?, Array.getElem?_eq_getElem (by omega)] at hli ⊢
            exact hli
          rw [hnil] at this
          cases this
    intro fuel
    induction fuel with
    | zero =>
      intro listed a1 e1 w1 hr hb hag hsz hS hcl hun0 hcnt
      have hall : ∀ i, i < l.length → listed.getD i false = true := by
        have h4 : (List.range l.length).countP (fun i => listed.getD i false) = (List.range l.length).length := by
          have := List.countP_le_length (p := fun i => listed.getD i false) (l := List.range l.length)
          simp at this hcnt ⊢; omega
        rw [List.countP_eq_length] at h4
        intro i hi
        exact h4 i (by simpa using hi)
      refine ⟨?_, hfin listed a1 e1 w1 hr hb hag hS hall⟩
      rw [List.eq_nil_iff_forall_not_mem]
      intro i hi
      obtain ⟨h5, o, ho, _⟩ := mem_ready.1 hi
      have hil : i < l.length := by
        rcases Nat.lt_or_ge i l.length with h | h
        · exact h
        · simp [List.getElem?_eq_none h] at ho
      have h6 := hall i hil
      rw [Array.getD_eq_getD_getElem?, Array.getElem?_eq_getElem (by omega)] at h5 h6
      simp at h5 h6
      rw [h5] at h6; cases h6
    | succ fuel ih =>
      intro listed a1 e1 w1 hr hb hag hsz hS hcl hun0 hcnt
      refine ⟨fun hnil => hfin listed a1 e1 w1 hr hb hag hS (hready listed hsz hnil), fun i hi => ?_⟩
      obtain ⟨hun, o, ho, haf⟩ := mem_ready.1 hi
      have ho' : l[i]? = some o := by simpa using ho
      have hil : i < l.length := (List.getElem?_eq_some_iff.1 ho').1
      have hrd : ∀ ed ∈ aft o, listed.getD ed.on false = true := fun ed hed => haf ed (mem_aft.1 hed).1 (mem_aft.1 hed).2
      have hun' : listed.getD i false = false := by
        have h5 := hun
        rw [Array.getD_eq_getD_getElem?, Array.getElem?_eq_getElem (by omega)] at h5 ⊢
        exact h5
      have hgs : ∀ k, (listed.setIfInBounds i true).getD k false = if k = i then true else listed.getD k false := by
        intro k
        rw [Array.getD_eq_getD_getElem?, Array.getElem?_setIfInBounds]
        by_cases hki : k = i
        · subst hki; rw [if_pos rfl, if_pos (by omega), if_pos rfl]; rfl
        · rw [if_neg (fun e => hki e.symm), if_neg hki, ← Array.getD_eq_getD_getElem?]
      have hlo : loOf l ms i ≤ cnt listed := countP_le_of fun m _ h => ancOf_ready hcl ho' hrd _ _ h
      have hhi : cnt listed ≤ hiOf l ms i := countP_le_of fun m _ h => by
        have hne : Nat.beq m i = false := by
          cases hb : Nat.beq m i with
          | false => rfl
          | true => rw [Nat.eq_of_beq_eq_true hb, hun'] at h; cases h
        have han : ancOf l l.length m i = false := by
          cases hb : ancOf l l.length m i with
          | false => rfl
          | true => have := ancOf_listed hcl _ _ _ hb h; rw [hun'] at this; cases this
        simp [hne, han]
      have hph : ∀ (j : Nat), listed.getD j false = true → phOf l ms j ≤ cnt listed := fun j hj => countP_le_of fun m _ h => by
        rw [Bool.or_eq_true] at h
        rcases h with h | h
        · rw [Nat.eq_of_beq_eq_true h]; exact hj
        · exact ancOf_listed hcl _ _ _ h hj
      have hst := hsteps.get i o ho' e1 w1 (cnt listed)
      rw [Nat.zero_add] at hst
      have hst := hst hlo hhi hb (fun j y o' han hy hoj => hS j y o' (ancOf_ready hcl ho' hrd _ _ han) hy hoj) (fun j o' hj han => by
        refine hun0 j o' ?_ hj
        cases hlj : listed.getD j false with
        | false => rfl
        | true => have := ancOf_listed hcl _ _ _ han hlj; rw [hun'] at this; cases this) (fun m y o' hm hch hphm hy hom => by
        refine hS m y o' ?_ hy hom
        cases hlm : listed.getD m false with
        | true => rfl
        | false =>
          exfalso
          have h8 := countP_one (fun k => listed.getD k false) (fun k => if k = m then true else listed.getD k false) m hlm (fun k => rfl) ms hmn (memb_iff.1 hm)
          have h9 : ms.countP (fun k => if k = m then true else listed.getD k false) ≤ phOf l ms m := countP_le_of fun m' hm' h => by
            by_cases e : m' = m
            · rw [e, Nat.beq_refl]; rfl
            · rw [if_neg e] at h
              simp only [chainAt, List.all_eq_true] at hch
              have h10 := hch m' hm'
              cases h11 : ancOf l l.length m m' with
              | true => rw [Bool.or_true]
              | false =>
                rw [h11, Bool.or_false, Bool.or_eq_true] at h10
                rcases h10 with h10 | h10
                · exact absurd (Nat.eq_of_beq_eq_true h10) e
                · have := ancOf_listed hcl _ _ _ h10 h
                  rw [hlm] at this; cases this
          have h12 : ms.countP (fun k => listed.getD k false) = cnt listed := rfl
          omega)
      rw [mix_eq hag, ext_of_mt (depFrN_mt (aft o) (fun ed hed v o' hy hoj => hS ed.on _ o' (hrd ed hed) hy hoj))] at hst
      let turns : Prop := memb ms i = true
      let KK : Env → World → Prop := fun e2 w2 => (memb ms i = false → Below w1.heap.size w1 w2) ∧ (ys.getD i (.pr fun _ _ => True)).holds (valOf o e2) w2 ∧ ∀ j, o.dst ≠ some j → e2 j = e1 j
      have hwl' : ∃ K : Env → World → Prop, (∀ e2 w2, K e2 w2 → KK e2 w2) ∧ Ops P N l.toArray K [o] e1 w1 := by
        cases hmi : memb ms i with
        | true =>
          rw [hmi] at hst
          exact ⟨_, fun e2 w2 h => ⟨fun h0 => (by rw [hmi] at h0; cases h0), h.1, h.2⟩, hst⟩
        | false =>
          rw [hmi] at hst
          exact ⟨_, fun e2 w2 h => ⟨fun _ => h.1, h.2.1, h.2.2⟩, hst⟩
      obtain ⟨K, hKK, hst'⟩ := hwl'
      have hwl := hst'.run a1 hr
      have hcnt' : cnt (listed.setIfInBounds i true) = if memb ms i = true then cnt listed + 1 else cnt listed := by
        show ms.countP _ = _
        by_cases hmi : memb ms i = true
        · rw [if_pos hmi]
          exact countP_one (fun m => listed.getD m false) (fun m => (listed.setIfInBounds i true).getD m false) i hun' hgs ms hmn (memb_iff.1 hmi)
        · rw [if_neg hmi]
          refine List.countP_congr fun m hmm => ?_
          rw [hgs, if_neg (fun e => hmi (memb_iff.2 (by rw [← e]; exact hmm)))]
      have hnext : ∀ a2 w2, (∃ e2, Rep N a2 e2 ∧ K e2 w2) → wpAny P .any l.toArray (low N Q) fuel (listed.setIfInBounds i true) a2 w2 := by
        intro a2 w2 ⟨e2, hr2, hK2⟩
        obtain ⟨hbl, hy2, hag2⟩ := hKK _ _ hK2
        have hother : ∀ (k : Nat) (o' : Oper), l[k]? = some o' → k ≠ i → valOf o' e2 = valOf o' e1 := by
          intro k o' hok hki
          unfold valOf
          cases hd : o'.dst with
          | none => rfl
          | some d => exact hag2 d (fun h => hki (filterMap_inj _ l h2 k i o' o d hok ho' hd h))
        refine ih _ a2 e2 w2 hr2 (fun h0 => ?_) (fun j hj => ?_) (by simpa using hsz) (fun k y o' hk hy hok => ?_) (fun k o' hk hok ed hed => ?_) (fun k o' hk hok => ?_) ?_
        · rw [hcnt'] at h0
          by_cases hmi : memb ms i = true
          · rw [if_pos hmi] at h0; omega
          · rw [if_neg hmi] at h0
            have := hbl (by simpa using hmi)
            exact (hb h0).trans (this.mono (hb h0).size)
        · have hne : o.dst ≠ some j := by
            intro hd
            have : memb (dsl l) j = true := by rw [memb_iff]; exact List.mem_filterMap.2 ⟨o, List.mem_of_getElem? ho', hd⟩
            rw [this] at hj; cases hj
          rw [hag2 j hne]; exact hag j hj
        · by_cases hki : k = i
          · subst hki
            rw [ho'] at hok
            cases hok
            have : ys.getD k (.pr fun _ _ => True) = y := by simp [List.getD_eq_getElem?_getD, hy]
            rw [this] at hy2
            cases y with
            | ex v => exact hy2
            | pr p => exact fun _ => hy2
          · have hk' : listed.getD k false = true := by rw [hgs, if_neg hki] at hk; exact hk
            have h7 := hS k y o' hk' hy hok
            rw [hother k o' hok hki]
            cases y with
            | ex v => exact h7
            | pr p =>
              intro hc
              rw [hcnt'] at hc
              by_cases hmi : memb ms i = true
              · rw [if_pos hmi] at hc
                have := hph k hk'
                omega
              · rw [if_neg hmi] at hc
                have hl := hlasts _ (List.mem_of_getElem? hy)
                exact hl _ _ _ (h7 hc) (hbl (by simpa using hmi))
        · rw [hgs]
          by_cases hei : ed.on = i
          · rw [if_pos hei]
          · rw [if_neg hei]
            by_cases hki : k = i
            · subst hki
              rw [ho'] at hok; cases hok
              exact hrd ed hed
            · rw [hgs, if_neg hki] at hk
              exact hcl k o' hk hok ed hed
        · rw [hgs] at hk
          by_cases hki : k = i
          · rw [if_pos hki] at hk; cases hk
          · rw [if_neg hki] at hk
            rw [hother k o' hok hki]
            exact hun0 k o' hk hok
        · have hcount : (List.range l.length).countP (fun k => (listed.setIfInBounds i true).getD k false) = (List.range l.length).countP (fun k => listed.getD k false) + 1 :=
            countP_one (fun k => listed.getD k false) (fun k => (listed.setIfInBounds i true).getD k false) i hun' hgs _ List.nodup_range (by simpa using hil)
          rw [hcount]; omega
      unfold wpOp
      rw [ho]
      unfold wpList at hwl
      show if _ then _ else _
      by_cases hw : Region.wanted o (yielded l.toArray a1.tmps) = true
      · rw [if_pos hw] at hwl ⊢
        rcases hwl with h5 | ⟨_, a0, w0, h5⟩
        · refine .inl (Oper.wp_conv h5 (fun a2 w2 hx => ?_) (fun x a w hx hq => hx hq.1))
          exact hnext a2 w2 hx.2
        · exact absurd h5.1 (by simp)
      · rw [if_neg hw] at hwl ⊢
        exact hnext _ _ hwl.2
  refine key l.length (Array.replicate l.length false) a e _ ha (fun _ => ⟨⟨rfl, rfl, rfl, Nat.le_refl _, fun _ _ => rfl⟩, fun _ => Nat.le_add_right _ _⟩) (fun _ _ => rfl) (by simp) (fun i y o hi => ?_) (fun i o hi => ?_) (fun _ _ _ _ => rfl) (by omega)
  · exfalso
    rw [Array.getD_eq_getD_getElem?, Array.getElem?_replicate] at hi
    split at hi <;> simp at hi
  · exfalso
    rw [Array.getD_eq_getD_getElem?, Array.getElem?_replicate] at hi
    split at hi <;> simp at hi
end
end Go.Proofs.YtgobjpcankaicaaGreatDoor.Vc
/-
  Structs built, slices of structs, comparisons with nil, rows of a matrix turned. Conditions: as each rule names them.
-/
namespace Go.Proofs.YtgobjpcankaicaaGreatDoor.Vc
open Go.RowKit
section
variable {P : Program} {N : Nat} {ops : Array Oper} {K : Env → World → Prop} {rest : List Oper} {e : Env} {w0 w w' : World} {ks : List Ck} {d : Nat} {ty : TypeId} {pos : String} {af : Array Edge}

theorem Ops.bld1 {t : TypeId} {f0 : Field} {z0 zf : Value} {b bf : Nat} [Und P t (.struct #[f0])] [Inf P t (.agg #[z0]) 1 b] {x0 : Operand} {v0 : Value} (hI : Inf P f0.type zf 1 bf) (ho : f0.offset = 0) (h0 : ev e x0 = v0) (c0 : v0.oneCell' = true) (hb : Nat.blt d N = true)
    (hK : Ops P N ops K rest (upd e d (.agg #[v0])) w) : Ops P N ops K (⟨some d, .build t #[(0, x0)], ty, pos, af, none⟩ :: rest) e w := by
  obtain ⟨inf, hi, hz0, hs, hby⟩ := Inf.get P t
  obtain ⟨inf', hi', hz0', hs', hby'⟩ := hI.get P f0.type
  have e0 : v0.cells = #[v0] := by cases v0 <;> simp [Value.oneCell'] at c0 <;> rfl
  have ez : (Value.agg #[z0]).cells = #[z0] := rfl
  refine .val (w' := w) ?_ hb hK
  simp [execOp, Instr.build, run_underlying (Und.out (P := P) (t := t)), sizeOf, typeInfo, zeroValue, hi, hz0, hi', hs', ho, h0, e0, ez, Instr.fill]

theorem Ops.bs1A {t el : TypeId} {z z0 : Value} {b : Nat} [Und P t (.slice el)] [Inf P el z 1 b] {x0 : Operand} {A0 : Option Addr} {n0 c0 : Nat} (hS : St w0 w ks) (h0 : ev e x0 = .agg #[.slice A0 n0 c0]) (hz : z.cells = #[z0]) (hb : Nat.blt d N = true)
    (hK : ∀ A w', St w0 w' (CkR el A 1 1 [⟨A0, n0, c0⟩] :: ks) → Ops P N ops K rest (upd e d (.slice A 1 1)) w') : Ops P N ops K (⟨some d, .buildSlice t 1 #[(0, x0)], ty, pos, af, none⟩ :: rest) e w := by
  obtain ⟨inf, hi, hz0, hs, hby⟩ := Inf.get P el
  refine .val (w' := w.alloc (.cells #[.slice A0 n0 c0] el)) ?_ hb (hK _ _ (hS.alloc [.slice A0 n0 c0] el (by simp [maxLen]) rfl))
  simp [execOp, Instr.buildSlice, run_underlying (Und.out (P := P) (t := t)), sizeOf, typeInfo, zeroValue, hi, hs, hz0, hz, Instr.fill, newRow, h0, arr_range, List.range_succ, Value.cells]

theorem Ops.maxI {x y : Operand} {t t' : TypeId} {i j : Int} (hx : ev e x = .int .i64 i) (hy : ev e y = .int .i64 j) (hb : Nat.blt d N = true) (hK : Ops P N ops K rest (upd e d (.int .i64 (max i j))) w) :
    Ops P N ops K (⟨some d, .call ⟨.builtin .max, #[x, y], #[t, t']⟩, ty, pos, af, none⟩ :: rest) e w := by
  have hm : (if i < j then j else i) = max i j := by split <;> omega
  refine .val (w' := w) ?_ hb hK
  simp [execOp, resolve, invoke, builtin, hx, hy, Builtin.max_, Builtin.max2, hm]

theorem Ops.eqNil {t t' el : TypeId} [Und P t (.slice el)] {x y : Operand} {A : Option Addr} {n c : Nat} (hx : ev e x = .slice A n c) (hy : ev e y = .slice none 0 0) (hb : Nat.blt d N = true) (hK : Ops P N ops K rest (upd e d (.bool A.isNone)) w) :
    Ops P N ops K (⟨some d, .binOp .eql t x y t', ty, pos, af, none⟩ :: rest) e w := by
  have hr : (Op.equal t (.slice A n c) (.slice none 0 0)).run P w = .ok A.isNone w := by
    show (Op.equalIn (9999 + 1) t (.slice A n c) (.slice none 0 0)).run P w = _
    rw [Op.equalIn]
    cases A <;> simp [run_underlying (Und.out (P := P) (t := t))]
  exact .val (by simp [execOp, hx, hy, eqGuard, binOp, hr]) hb hK
end

/-! a row of a matrix of one's own -/
theorem rowsCk_set {t : TypeId} : ∀ {rs : List SlV} {xss : List (List Int)} {i : Nat} {xs : List Int}, rs.length = xss.length → i < rs.length → (rowsCk t rs xss).set i (CkI t (rs.getD i slNil).a (rs.getD i slNil).n (rs.getD i slNil).c xs) = rowsCk t rs (xss.set i xs)
  | [], _, _, _, _, h => by simp at h
  | r :: rs, [], _, _, h, _ => by simp at h
  | r :: rs, x :: xss, 0, xs, _, _ => rfl
  | r :: rs, x :: xss, i + 1, xs, h, hi => by
    have := rowsCk_set (t := t) (rs := rs) (xss := xss) (i := i) (xs := xs) (by simpa using h) (by simpa using hi)
    simpa [rowsCk] using this
theorem mat_get {t1 t2 : TypeId} {A : Option Addr} {n c : Nat} {rs : List SlV} {xss : List (List Int)} {pre ks : List Ck} {i : Nat} (hr : rs.length = xss.length) (hi : i < rs.length) :
    (pre ++ (mat t1 t2 A n c rs xss ++ ks))[pre.length + 1 + i]? = some (CkI t2 (rs.getD i slNil).a (rs.getD i slNil).n (rs.getD i slNil).c (xss.getD i [])) := by
  rw [List.getElem?_append_right (by omega), show pre.length + 1 + i - pre.length = i + 1 by omega, List.getElem?_append_left (by simp [mat, rowsCk_length hr]; omega)]
  simpa [mat] using rowsCk_get (t := t2) hr hi
theorem mat_set {t1 t2 : TypeId} {A : Option Addr} {n c : Nat} {rs : List SlV} {xss : List (List Int)} {pre ks : List Ck} {i : Nat} {xs : List Int} (hr : rs.length = xss.length) (hi : i < rs.length) :
    (pre ++ (mat t1 t2 A n c rs xss ++ ks)).set (pre.length + 1 + i) (CkI t2 (rs.getD i slNil).a (rs.getD i slNil).n (rs.getD i slNil).c xs) = pre ++ (mat t1 t2 A n c rs (xss.set i xs) ++ ks) := by
  rw [List.set_append_right _ _ (by omega), show pre.length + 1 + i - pre.length = i + 1 by omega, List.set_append_left _ _ (by simp [mat, rowsCk_length hr]; omega)]
  congr 2
  simp only [mat, List.set_cons_succ]
  rw [rowsCk_set hr hi]

section
variable {P : Program} {N : Nat} {ops : Array Oper} {K : Env → World → Prop} {rest : List Oper} {e : Env} {w0 w w' : World} {ks pre : List Ck} {ty : TypeId} {pos : String} {af : Array Edge}
/-- a store into row i of a matrix of one's own -/
theorem Ops.st_row {t t1 t2 : TypeId} {z : Value} {b : Nat} [Inf P t z 1 b] {a x : Operand} {A : Option Addr} {n c : Nat} {rs : List SlV} {xss : List (List Int)} (i : Nat) {f u : Int} (hS : St w0 w (pre ++ (mat t1 t2 A n c rs xss ++ ks))) (hr : rs.length = xss.length) (hi : i < rs.length) (ha : ev e a = .pointer (ptrAt (rg rs i).a f.toNat)) (hx : ev e x = .int .i64 u) (hj : f.toNat < (rg rs i).n)
    (hK : ∀ w', St w0 w' (pre ++ (mat t1 t2 A n c rs (xss.set i ((gl xss i).set f.toNat u)) ++ ks)) → Ops P N ops K rest e w') : Ops P N ops K (⟨none, .store t a x, ty, pos, af, none⟩ :: rest) e w :=
  .st_int (pre.length + 1 + i) hS (mat_get hr hi) ha hx hj fun w' h => hK w' (by
    have e1 : gl xss i = xss.getD i [] := by simp [gl]
    rw [e1, ← mat_set (pre := pre) (ks := ks) hr hi]; exact h)
end

/-- whole matrices, each told by its slice, its rows' slices, and its numbers -/
structure MatV where
  top : SlV
  rs : List SlV
  xss : List (List Int)
def MatV.ok (m : MatV) : Prop := m.xss.length = m.top.n
def MatV.cks (t1 t2 : TypeId) (m : MatV) : List Ck := mat t1 t2 m.top.a m.top.n m.top.c m.rs m.xss
def matsCk (t1 t2 : TypeId) (ms : List MatV) : List Ck := ms.flatMap (MatV.cks t1 t2)
theorem matsCk_append (t1 t2 : TypeId) (ms ms' : List MatV) : matsCk t1 t2 (ms ++ ms') = matsCk t1 t2 ms ++ matsCk t1 t2 ms' := by simp [matsCk, List.flatMap_append]
end Go.Proofs.YtgobjpcankaicaaGreatDoor.Vc
/-
  The walks of copies and of the reference's tests of partial moves. Conditions: as each states them.
-/
namespace Go.Proofs.YtgobjpcankaicaaGreatDoor.Vc
open Go.RowKit

theorem l01Own_c (A : Option Addr) (n c : Nat) (xs : List Int) (w : World) (hR : RdI w A n xs) (hn : n ≤ 1000000000) : Ret Tryz.prog 27 [.slice A n c] w (fun v w' => ∃ A' c', v = .slice A' n c' ∧ St w w' [CkI 2 A' n c' xs]) := by
  refine Ret.of_cd Tryz.func27 rfl Tryz.ntmps27 rfl (post1 rfl) ?_
  refine Cd.seq ?_
  refine Cd.region ?_
  refine Ops.mv_sl rfl rfl rfl ?_
  refine Ops.nil ?_
  refine thenQ_n ?_
  refine Cd.seq ?_
  refine Cd.region ?_
  -- stop: BUILDSLICE 35 0 [] -> 3
  refine Ops.bs0 (St.refl w) rfl ?_
  intro A1 w1 hS1
  have hS1 : St w w1 [CkI 2 A1 0 0 []] := hS1
  refine Ops.mv_sl rfl rfl rfl ?_
  -- stop: BUILTIN append(t3, t4) -> 5
  refine Ops.appI 0 hS1 rfl (hS1.oldI hR) rfl rfl rfl (by omega) (by omega) rfl ?_
  intro A2 c2 w2 hS2
  rw [Nat.zero_add] at hS2 ⊢
  refine Ops.mv_sl rfl rfl rfl ?_
  refine Ops.nil ?_
  refine thenQ_n ?_
  refine Cd.ret ?_
  refine ret1_s rfl ?_
  -- stop: end
  exact ⟨A2, c2, rfl, hS2⟩

theorem l01Own2_c (A : Option Addr) (n c : Nat) (rs : List SlV) (xss : List (List Int)) (w : World) (hR : RowsI w A n rs xss) (hn : n ≤ 1000000000) (hr : ∀ i, i < n → (rs.getD i slNil).n ≤ 1000000000) :
    Ret Tryz.prog 14 [.slice A n c] w (fun v w' => ∃ A' c' rs', v = .slice A' n c' ∧ rs'.length = n ∧ St w w' (mat 35 2 A' n c' rs' xss)) := by
  refine Ret.of_cd Tryz.func14 rfl Tryz.ntmps14 rfl (post1 rfl) ?_
  refine Cd.seq ?_
  refine Cd.region ?_
  refine Ops.mv_sl rfl rfl rfl ?_
  refine Ops.nil ?_
  refine thenQ_n ?_
  refine Cd.seq ?_
  refine Cd.region ?_
  -- stop: BUILDSLICE 22 0 [] -> 5
  refine Ops.bs0 (St.refl w) rfl ?_
  intro A1 w1 hS1
  have hS1 : St w w1 [CkR 35 A1 0 0 []] := hS1
  refine Ops.mv_sl rfl rfl rfl ?_
  refine Ops.nil ?_
  refine thenQ_n ?_
  refine Cd.seq ?_
  refine Cd.seq ?_
  refine Cd.region ?_
  refine Ops.mv_int rfl rfl rfl ?_
  refine Ops.nil ?_
  refine thenQ_n ?_
  refine Cd.block ?_
  -- stop: loop
  refine Cd.loop (α := Nat × Option Addr × Nat × List SlV) (fun s => [(0, .slice A n c), (3, .slice s.2.1 s.1 s.2.2.1), (4, .int .i64 (s.1 : Int))]) (fun s w' => St w w' (CkR 35 s.2.1 s.1 s.2.2.1 s.2.2.2 :: rowsCk 2 s.2.2.2 (xss.take s.1)) ∧ s.1 ≤ n ∧ s.2.2.2.length = s.1) (fun s => n - s.1) (0, A1, 0, []) ⟨rfl, rfl, rfl, trivial⟩ ⟨hS1, Nat.zero_le _, rfl⟩ ?_
  rintro ⟨k, A3, c3, rs1⟩ e w2 ⟨hS2, hk, hlen⟩
  dsimp only at hS2 hk hlen ⊢
  refine Cd.seq ?_
  refine Cd.seq ?_
  refine Cd.region ?_
  refine Ops.mv_int rfl rfl rfl ?_
  refine Ops.mv_sl rfl rfl rfl ?_
  refine Ops.len rfl rfl ?_
  refine Ops.lss rfl rfl rfl ?_
  refine Ops.nil ?_
  refine thenQ_n ?_
  -- stop: cond
  refine Cd.cond_p _ rfl (fun h1 => ?_) (fun h1 => ?_)
  · have hk' : k < n := by omega
    have hx : k < xss.length := by rw [hR.len]; exact hk'
    refine Cd.skip ?_
    refine thenQ_n ?_
    refine Cd.seq ?_
    refine Cd.block ?_
    refine Cd.region ?_
    refine Ops.mv_sl rfl rfl rfl ?_
    refine Ops.mv_sl rfl rfl rfl ?_
    refine Ops.mv_int rfl rfl rfl ?_
    -- stop: INDEXADDR 22 t13 t14 -> 15
    refine Ops.idx (hS2.oldR hR.top).2 rfl rfl rfl (by omega) h1 ?_
    refine Ops.ld_sl (hS2.oldR hR.top) rfl (by omega) rfl rfl ?_
    refine Ops.call (l01Own_c _ _ _ _ _ (hS2.oldI (hR.at_ (i := k) (by omega) h1)) (hr k hk')) rfl rfl rfl ?_
    rintro _ w3 ⟨A4, c4, rfl, hS3⟩
    have hS3 := hS2.call hS3
    refine Ops.bs1R hS3 rfl rfl rfl ?_
    intro A5 w4 hS4
    refine Ops.appR 2 hS4 rfl (hS4.rdR 0 rfl) rfl rfl rfl (by omega) (by omega) rfl ?_
    intro A6 c6 w5 hS5
    refine Ops.mv_sl rfl rfl rfl ?_
    refine Ops.nil ?_
    refine blockQ_n ?_
    refine thenQ_n ?_
    refine Cd.region ?_
    refine Ops.mv_int rfl rfl rfl ?_
    refine Ops.add rfl rfl rfl (by omega) ?_
    refine Ops.mv_int rfl rfl rfl ?_
    refine Ops.nil ?_
    refine thenQ_n ?_
    -- stop: round
    refine ⟨(k + 1, A6, c6, rs1 ++ [⟨A4, (rg rs k).n, c4⟩]), by show n - (k + 1) < n - k; omega, ⟨rfl, rfl, rfl, trivial⟩, ?_, hk', by simp [hlen]⟩
    have e2 : gl xss k = xss[k] := by simp [gl, List.getD_eq_getElem?_getD, List.getElem?_eq_getElem hx]
    show St w w5 (CkR _ A6 (k + 1) c6 (rs1 ++ [_]) :: rowsCk _ (rs1 ++ [_]) (xss.take (k + 1)))
    rw [List.take_succ_eq_append_getElem hx, rowsCk_append (by simp [hlen]; omega)]
    have h5 : St w w5 (CkI 2 A4 (rg rs k).n c4 (gl xss k) :: CkR 35 A6 (k + 1) c6 (rs1 ++ [⟨A4, (rg rs k).n, c4⟩]) :: rowsCk 2 rs1 (xss.take k)) := hS5.tail
    rw [e2] at h5
    refine h5.perm ?_
    refine (List.Perm.swap _ _ _).trans (List.Perm.cons _ ?_)
    exact List.perm_append_comm (l₁ := [_])
  · refine Cd.exit ?_
    refine thenQ_x ?_
    refine thenQ_x ?_
    refine blockQ_x ?_
    refine thenQ_n ?_
    refine Cd.seq ?_
    refine Cd.region ?_
    refine Ops.mv_sl rfl rfl rfl ?_
    refine Ops.mv_sl rfl rfl rfl ?_
    refine Ops.nil ?_
    refine thenQ_n ?_
    refine Cd.ret ?_
    refine ret1_s rfl ?_
    -- stop: end
    have : k = n := by omega
    subst this
    rw [← hR.len, List.take_length] at hS2
    exact ⟨A3, c3, rs1, rfl, hlen, by rw [← hR.len]; exact hS2⟩

theorem RowsI.shp {w : World} {A : Option Addr} {n F : Nat} {rs : List SlV} {M : List (List Int)} (hR : RowsI w A n rs M) (hs : Shp n F M) {k : Int} (h0 : 0 ≤ k) (h1 : k < n) : (rg rs k).n = F := by
  rw [← hR.rowLen h0 h1]
  exact hs.2 _ (gl_in h0 (by rw [hs.1]; exact h1))

/-- partial moves whose numbers are flags, or below 0 -/
def Rng (n F : Nat) (M : List (List Int)) : Prop := ∀ (i : Nat) (f : Int), i < n → 0 ≤ f → f < F → cell M i f < F
theorem Inv.rng {n F : Nat} {M : List (List Int)} {met at_ : Nat} (h : Inv n F M met at_) : Rng n F M := fun i f hi h0 hf => by
  have := h.metF
  rcases h.cells i f hi h0 hf with h1 | h1
  · omega
  · omega

end Go.Proofs.YtgobjpcankaicaaGreatDoor.Vc
/-
  The walk of the reference's search for rooted forms. Conditions: as each states them.
-/
namespace Go.Proofs.YtgobjpcankaicaaGreatDoor.Vc
open Go.RowKit

theorem perm_mid {α : Type} (a b c : List α) (x : α) : (a ++ (x :: (b ++ c))).Perm (x :: (b ++ (a ++ c))) :=
  List.perm_middle.trans (List.Perm.cons _ (by rw [← List.append_assoc, ← List.append_assoc]; exact List.Perm.append_right c List.perm_append_comm))

theorem perm_four {α : Type} (a b c d : List α) : (a ++ (b ++ (c ++ d))).Perm (b ++ ((c ++ a) ++ d)) := by
  have h1 := List.Perm.append_right (c ++ d) (List.perm_append_comm (l₁ := a) (l₂ := b))
  rw [List.append_assoc, List.append_assoc] at h1
  have h2 := List.Perm.append_right d (List.perm_append_comm (l₁ := a) (l₂ := c))
  rw [List.append_assoc] at h2
  exact h1.trans (List.Perm.append_left _ h2)

/-- known places are passed -/
theorem grow_skip {n F : Nat} {ok : List (List Int) → Nat → Nat → Bool} {fin : List (List Int) → Bool} {M : List (List Int)} {met : Nat} : ∀ (s fuel at_ : Nat), at_ + s ≤ met * n → (∀ a, at_ ≤ a → a < at_ + s → 0 ≤ cell M (a % n) (a / n : Nat)) → grow n F ok fin (fuel + s) at_ met M = grow n F ok fin fuel (at_ + s) met M
  | 0, fuel, at_, _, _ => rfl
  | s + 1, fuel, at_, hle, hk => by
    rw [← Nat.add_assoc]
    show (if _ then _ else _) = _
    rw [if_neg (by omega), if_pos (hk at_ (Nat.le_refl _) (by omega)), grow_skip s fuel (at_ + 1) (by omega) (fun a h1 h2 => hk a (by omega) (by omega))]
    congr 1; omega
theorem Inv.upto {n F : Nat} {M : List (List Int)} {met at_ : Nat} (h : Inv n F M met at_) : ∀ (b : Nat), at_ ≤ b → b ≤ met * n → (∀ a, a < b → 0 ≤ cell M (a % n) (a / n : Nat)) → Inv n F M met b := fun b _ hb hk =>
  ⟨h.shp, h.n0, h.met1, h.metF, h.cells, hk, h.con, hb⟩

/-- what the loop over g has found -/
def body (n F : Nat) (ok : List (List Int) → Nat → Nat → Bool) (fin : List (List Int) → Bool) (k at_ met : Nat) (M : List (List Int)) (g : Nat) : List (List (List Int)) :=
  if 0 ≤ cell M (at_ % n) (g : Nat) then [] else if ok (put M (at_ % n) (at_ / n) g) (at_ % n) (at_ / n) = true then grow n F ok fin k (at_ + 1) (max met (g + 1)) (put M (at_ % n) (at_ / n) g) else []
theorem grow_body {n F : Nat} {ok : List (List Int) → Nat → Nat → Bool} {fin : List (List Int) → Bool} {k at_ met : Nat} {M : List (List Int)} (ha : at_ ≠ met * n) (hk : ¬ 0 ≤ cell M (at_ % n) (at_ / n : Nat)) :
    grow n F ok fin (k + 1) at_ met M = (List.range' (at_ / n + 1) (min met (F - 1) - at_ / n)).flatMap (body n F ok fin k at_ met M) := by
  show (if _ then _ else _) = _
  rw [if_neg ha, if_neg hk]; rfl
theorem range_step {α : Type} (f : Nat → List α) {s c g : Nat} (h1 : s ≤ g) (h2 : g < s + c) : (List.range' s (g + 1 - s)).flatMap f = (List.range' s (g - s)).flatMap f ++ f g := by
  rw [show g + 1 - s = (g - s) + 1 by omega, List.range'_concat, List.flatMap_append]
  simp [show s + (g - s) = g by omega]
theorem range_rest {α : Type} (f : Nat → List α) {s c g : Nat} (h1 : s ≤ g) (h2 : g < s + c) : ((List.range' s (g - s)).flatMap f).length + (f g).length ≤ ((List.range' s c).flatMap f).length := by
  have e : List.range' s c = List.range' s (g + 1 - s) ++ List.range' (g + 1) (c - (g + 1 - s)) := by
    rw [show c = (g + 1 - s) + (c - (g + 1 - s)) by omega, ← List.range'_append_1]
    congr 2 <;> omega
  rw [e, List.flatMap_append, range_step f h1 h2]
  simp only [List.length_append]
  omega
end Go.Proofs.YtgobjpcankaicaaGreatDoor.Vc
/-
  The walk of the reference's search for rooted forms. Conditions: as each states them.
-/
namespace Go.Proofs.YtgobjpcankaicaaGreatDoor.Vc
open Go.RowKit

end Go.Proofs.YtgobjpcankaicaaGreatDoor.Vc
/-
  Plain mathematics: how many rooted forms there can be. Conditions: as each states them. No program in sight.
-/
namespace Go.Proofs.YtgobjpcankaicaaGreatDoor.Vc

def dft : Nat → Nat
  | 0 => 1
  | 1 => 0
  | u + 2 => (u + 1) * dft u
def prod : List Nat → Nat
  | [] => 1
  | x :: l => x * prod l
def phi (M : List (List Int)) : Nat := prod (M.map fun p => dft (unl p))
theorem prod_set : ∀ (l : List Nat) (i k x : Nat) (h : i < l.length), l[i] = k * x → prod l = k * prod (l.set i x)
  | [], i, _, _, h, _ => by simp at h
  | y :: l, 0, k, x, _, e => by
    simp at e; subst e
    simp [prod, Nat.mul_assoc]
  | y :: l, i + 1, k, x, h, e => by
    have := prod_set l i k x (by simpa using h) (by simpa using e)
    simp only [prod, List.set_cons_succ, this]
    rw [Nat.mul_left_comm]
theorem prod_one : ∀ (l : List Nat), (∀ x ∈ l, x = 1) → prod l = 1
  | [], _ => rfl
  | x :: l, h => by simp [prod, h x (by simp), prod_one l (fun y hy => h y (by simp [hy]))]

theorem sum_le {α : Type} (f : Nat → List α) (p : Nat → Bool) (X : Nat) : ∀ (l : List Nat), (∀ g ∈ l, (f g).length ≤ if p g = true then X else 0) → (l.flatMap f).length ≤ l.countP p * X
  | [], _ => by simp
  | g :: l, h => by
    have h1 := h g (by simp)
    have h2 := sum_le f p X l (fun x hx => h x (by simp [hx]))
    rw [List.flatMap_cons, List.length_append, List.countP_cons]
    by_cases hp : p g = true
    · rw [if_pos hp] at h1 ⊢
      rw [Nat.add_mul, Nat.one_mul]; omega
    · rw [if_neg hp] at h1 ⊢
      rw [Nat.add_zero]
      omega

/-- the unknown places of a row behind one that is unknown -/
theorem behind_le {p : List Int} {q c : Nat} (hq : q < p.length) (hn : gi p q < 0) (hc : q + 1 + c ≤ p.length) : (List.range' (q + 1) c).countP (fun g => decide (gi p (g : Nat) < 0)) + 1 ≤ unl p := by
  have e1 : (List.range' (q + 1) c).map (fun g => gi p (g : Nat)) = (p.drop (q + 1)).take c := by
    apply List.ext_getElem
    · simp; omega
    · intro i h1 h2
      have hi : i < c := by simpa using h1
      rw [List.getElem_map, List.getElem_range', gi_mem (by omega)]
      simp
  have e2 : (List.range' (q + 1) c).countP (fun g => decide (gi p (g : Nat) < 0)) = ((p.drop (q + 1)).take c).countP (fun x => decide (x < 0)) := by
    rw [← e1, List.countP_map]; rfl
  have e3 : ((p.drop (q + 1)).take c).countP (fun x => decide (x < 0)) ≤ (p.drop (q + 1)).countP (fun x => decide (x < 0)) := (List.take_sublist _ _).countP_le
  have e4 : unl p = (p.take (q + 1)).countP (fun x => decide (x < 0)) + (p.drop (q + 1)).countP (fun x => decide (x < 0)) := by
    unfold unl
    rw [← List.countP_append, List.take_append_drop]
  have e5 : 0 < (p.take (q + 1)).countP (fun x => decide (x < 0)) := List.countP_pos_iff.2 ⟨gi p q, by rw [take_succ_gi hq]; simp, by simpa using hn⟩
  omega

section
variable {n F : Nat} {M : List (List Int)} {met at_ : Nat}
theorem phi_put (h : Shp n F M) {r q g : Nat} (hr : r < n) (hq : q < F) (hg : g < F) (hqg : q ≠ g) (h1 : cell M r q < 0) (h2 : cell M r g < 0) {u : Nat} (hu : unl (gl M r) = u + 2) : phi (put M r q g) = prod ((M.map fun p => dft (unl p)).set r (dft u)) ∧ phi M = (u + 1) * prod ((M.map fun p => dft (unl p)).set r (dft u)) := by
  have hl := h.1
  have hrow := h.row hr
  have hp1 : unl ((gl M r).set q (g : Int)) + 1 = unl (gl M r) := by
    have := unl_set (L := gl M r) (x := (q : Int)) (c := (g : Int)) (by omega) (by omega) h1 (by omega)
    rwa [Int.toNat_natCast] at this
  have e2 : gi ((gl M r).set q (g : Int)) g = gi (gl M r) g := by
    have := gi_set (S := gl M r) (x := (q : Int)) (y := (g : Int)) (b := (g : Int)) (by omega) (by omega) (by omega)
    rw [Int.toNat_natCast, if_neg (by omega)] at this
    exact this
  have hp2 : unl (((gl M r).set q (g : Int)).set g (q : Int)) + 1 = unl ((gl M r).set q (g : Int)) := by
    have := unl_set (L := (gl M r).set q (g : Int)) (x := (g : Int)) (c := (q : Int)) (by omega) (by simp; omega) (by rw [e2]; exact h2) (by omega)
    rwa [Int.toNat_natCast] at this
  have hu2 : unl (((gl M r).set q (g : Int)).set g (q : Int)) = u := by omega
  have hput : put M r q g = M.set r (((gl M r).set q (g : Int)).set g (q : Int)) := by
    unfold put setc
    rw [gl_set (by omega), if_pos rfl, List.set_set]
  have hgr : M[r]'(by omega) = gl M r := (gl_mem (by omega)).symm
  unfold phi
  rw [hput, List.map_set, hu2]
  refine ⟨rfl, ?_⟩
  refine prod_set _ r (u + 1) (dft u) (by simp; omega) ?_
  rw [List.getElem_map, hgr, hu]; rfl

theorem grow_le_phi : ∀ (k at_ met : Nat) (M : List (List Int)), Inv n F M met at_ → (grow n F (fun _ _ _ => true) (fun _ => true) k at_ met M).length ≤ phi M
  | 0, _, _, _, _ => by simp [grow]
  | k + 1, at_, met, M, h => by
    simp only [grow]
    split
    · rename_i ha
      split
      · rename_i hm
        have hm1 := hm.1
        subst hm1
        have hI : Inv n met M met (met * n) := by rw [← ha]; exact h
        have : phi M = 1 := prod_one _ (fun x hx => by
          obtain ⟨p, hp, rfl⟩ := List.mem_map.1 hx
          obtain ⟨i, hi, rfl⟩ := List.mem_iff_getElem.1 hp
          have hin : i < n := by rw [← h.shp.1]; exact hi
          have e : M[i] = gl M i := (gl_mem hi).symm
          have : unl M[i] = 0 := by
            rw [e]
            refine List.countP_eq_zero.2 fun x hx => ?_
            obtain ⟨j, hj, rfl⟩ := List.mem_iff_getElem.1 hx
            have := hI.full (i := i) (f := (j : Int)) hin (by omega) (by rw [h.shp.row hin] at hj; omega)
            rw [← gi_mem hj]
            have h3 : 0 ≤ gi (gl M i) (j : Int) := this
            simp; omega
          rw [this]; rfl)
        simp [this]
      · simp
    · rename_i ha
      split
      · rename_i hk
        exact grow_le_phi k _ _ _ (h.next ha hk)
      · rename_i hk
        have hp := h.pos ha
        have hF := h.metF
        have hrow := h.shp.row hp.1
        have hqF : at_ / n < F := by omega
        have hrg := fun g hg => range_mem h ha (g := g) hg
        have hput := fun g (h1 : at_ / n < g) (h2 : g ≤ met) (h3 : g < F) h4 => h.put ha hk (g := g) h1 h2 h3 h4
        generalize hr : at_ % n = r at *
        generalize hq : at_ / n = q at *
        have hkn : gi (gl M (r : Nat)) (q : Nat) < 0 := Int.not_le.1 hk
        have hm1 := h.met1
        have hbeh := behind_le (p := gl M (r : Nat)) (q := q) (c := min met (F - 1) - q) (by omega) hkn (by omega)
        obtain ⟨u, hu⟩ : ∃ u, unl (gl M (r : Nat)) = u + 1 := ⟨unl (gl M (r : Nat)) - 1, by omega⟩
        refine Nat.le_trans (sum_le _ (fun g => decide (gi (gl M (r : Nat)) (g : Nat) < 0)) (prod ((M.map fun p => dft (unl p)).set r (dft (u - 1)))) _ (fun g hg => ?_)) ?_
        · have hgr := hrg g hg
          by_cases hgc : 0 ≤ cell M r (g : Nat)
          · rw [if_pos hgc]; exact Nat.zero_le _
          · have hgn : gi (gl M (r : Nat)) (g : Nat) < 0 := Int.not_le.1 hgc
            rw [if_neg hgc, if_pos trivial, if_pos (decide_eq_true hgn)]
            have hcnt : 0 < (List.range' (q + 1) (min met (F - 1) - q)).countP (fun g => decide (gi (gl M (r : Nat)) (g : Nat) < 0)) := List.countP_pos_iff.2 ⟨g, hg, decide_eq_true hgn⟩
            obtain ⟨u', rfl⟩ : ∃ u', u = u' + 1 := ⟨u - 1, by omega⟩
            have hphi := phi_put h.shp hp.1 hqF hgr.2.2 (by omega) (by omega) (by omega) hu
            rw [show u' + 1 - 1 = u' by omega, ← hphi.1]
            exact grow_le_phi k _ _ _ (hput g hgr.1 hgr.2.1 hgr.2.2 hgc)
        · by_cases hu0 : u = 0
          · have : (List.range' (q + 1) (min met (F - 1) - q)).countP (fun g => decide (gi (gl M (r : Nat)) (g : Nat) < 0)) = 0 := by omega
            rw [this, Nat.zero_mul]; exact Nat.zero_le _
          · obtain ⟨u', rfl⟩ : ∃ u', u = u' + 1 := ⟨u - 1, by omega⟩
            rw [show u' + 1 - 1 = u' by omega]
            have hfac : phi M = (u' + 1) * prod ((M.map fun p => dft (unl p)).set r (dft u')) := by
              unfold phi
              have hl := h.shp.1
              refine prod_set _ r (u' + 1) (dft u') (by simp; omega) ?_
              rw [List.getElem_map, show M[r]'(by omega) = gl M r from (gl_mem (by omega)).symm, hu]; rfl
            rw [hfac]
            exact Nat.mul_le_mul_right _ (by omega)

/-- two moves that should commute meet at flag 0 -/
def bad0 (n : Nat) (M : List (List Int)) : Bool := (List.range n).any fun i => (List.range n).any fun k => decide (i + 2 ≤ k ∧ 0 ≤ cell M i 0 ∧ cell M i 0 = cell M k 0)
/-- a bound that looks at j places first -/
def wt (n F : Nat) : Nat → Nat → Nat → List (List Int) → Nat
  | 0, _, _, M => if bad0 n M = true then 0 else phi M
  | j + 1, at_, met, M =>
    if at_ = met * n then 1
    else if 0 ≤ cell M (at_ % n) (at_ / n : Nat) then wt n F j (at_ + 1) met M
    else ((List.range' (at_ / n + 1) (min met (F - 1) - at_ / n)).map fun g => if 0 ≤ cell M (at_ % n) (g : Nat) then 0 else wt n F j (at_ + 1) (max met (g + 1)) (put M (at_ % n) (at_ / n) g)).sum

theorem forms_bad (h : Inv n F M met at_) (hb : bad0 n M = true) (k : Nat) : forms n F k at_ met M = [] := by
  unfold forms
  rw [List.filter_eq_nil_iff]
  intro L hL hV
  have h1 := grow_leaf k _ _ _ h L hL
  have hV := of_decide_eq_true hV
  simp only [bad0, List.any_eq_true, decide_eq_true_eq, List.mem_range] at hb
  obtain ⟨i, hi, k', hk', hik, h0, he⟩ := hb
  have hF : 0 < F := by have := h.met1; have := h.metF; omega
  have h2 := hV.cells h1.2 hi hk' hik (f := 0) (by omega) (by omega)
  rw [h1.1 i 0 hi (by omega) (by omega) h0, h1.1 k' 0 hk' (by omega) (by omega) (by rw [← he]; exact h0)] at h2
  exact h2.2 he
theorem sum_le2 {α : Type} (f : Nat → List α) (c : Nat → Nat) : ∀ (l : List Nat), (∀ g ∈ l, (f g).length ≤ c g) → (l.flatMap f).length ≤ (l.map c).sum
  | [], _ => by simp
  | g :: l, h => by
    have h1 := h g (by simp)
    have h2 := sum_le2 f c l (fun x hx => h x (by simp [hx]))
    rw [List.flatMap_cons, List.length_append, List.map_cons, List.sum_cons]
    omega
theorem forms_le_wt : ∀ (j k at_ met : Nat) (M : List (List Int)), Inv n F M met at_ → (forms n F k at_ met M).length ≤ wt n F j at_ met M
  | 0, k, at_, met, M, h => by
    simp only [wt]
    split
    · rename_i hb; rw [forms_bad h hb]; simp
    · exact Nat.le_trans (List.length_filter_le _ _) (grow_le_phi k _ _ _ h)
  | j + 1, 0, at_, met, M, h => by simp [forms, grow]
  | j + 1, k + 1, at_, met, M, h => by
    simp only [forms, grow, wt]
    split
    · refine Nat.le_trans (List.length_filter_le _ _) ?_
      split <;> simp
    · rename_i ha
      split
      · rename_i hk
        exact forms_le_wt j k _ _ _ (h.next ha hk)
      · rename_i hk
        rw [filter_flatMap']
        refine sum_le2 _ _ _ (fun g hg => ?_)
        have hr := range_mem h ha hg
        split
        · simp
        · rename_i hgc
          rw [if_pos trivial]
          exact forms_le_wt j k _ _ _ (h.put ha hk hr.1 hr.2.1 hr.2.2 hgc)
end

theorem wt_small : ((List.range' 1 4).all fun n => (List.range' 2 11).all fun F => Nat.ble (wt n F 4 0 1 (blank n F)) 4000000000000) = true := by kernel_rfl
theorem forms_small {n F : Nat} (hn : 1 ≤ n ∧ n ≤ 4) (hF : 2 ≤ F ∧ F ≤ 12) (k : Nat) : (forms n F k 0 1 (blank n F)).length ≤ 4000000000000 := by
  have h := wt_small
  rw [List.all_eq_true] at h
  have h1 := h n (by rw [List.mem_range'_1]; omega)
  rw [List.all_eq_true] at h1
  have h2 := h1 F (by rw [List.mem_range'_1]; omega)
  exact Nat.le_trans (forms_le_wt 4 k 0 1 _ (Inv.blank (by omega) (by omega))) (Nat.le_of_ble_eq_true h2)
end Go.Proofs.YtgobjpcankaicaaGreatDoor.Vc
/-
  The walks of the reference's list of rooted forms and of its count. Conditions: as each states them.
-/
namespace Go.Proofs.YtgobjpcankaicaaGreatDoor.Vc
open Go.RowKit

def Small (rank flags : Int) : Prop := (1 ≤ rank ∧ rank ≤ 4) ∧ (2 ≤ flags ∧ flags ≤ 12)
instance (rank flags : Int) : Decidable (Small rank flags) := by unfold Small; exact inferInstance
/-- the answer: how many, and the code -/
def cnt1 (rank flags : Int) : Int := if Small rank flags then ((forms rank.toNat flags.toNat (flags.toNat * rank.toNat + 1) 0 1 (blank rank.toNat flags.toNat)).length : Int) else 0
def cnt2 (rank flags : Int) : Int := if Small rank flags then 0 else 2
end Go.Proofs.YtgobjpcankaicaaGreatDoor.Vc
/-
  The walks of the program's copies and of its test of a move. Conditions: as each states them.
-/
namespace Go.Proofs.YtgobjpcankaicaaGreatDoor.Vc
open Go.RowKit

theorem Clone_c (A : Option Addr) (n c : Nat) (xs : List Int) (w : World) (hR : RdI w A n xs) (hn : n ≤ 1000000000) : Ret Tryz.prog 56 [.slice A n c] w (fun v w' => ∃ A' c', v = .slice A' n c' ∧ St w w' [CkI 2 A' n c' xs]) := by
  cases hA : A with
  | none =>
    subst hA
    have hn0 : n = 0 := by
      apply Classical.byContradiction
      intro h
      obtain ⟨p, hp, _⟩ := hR.2 0 (by omega)
      simp [ptrAt] at hp
    subst hn0
    have hx : xs = [] := List.eq_nil_of_length_eq_zero hR.1
    subst hx
    refine Ret.of_cd Tryz.func56 rfl Tryz.ntmps56 rfl (post1 rfl) ?_
    refine Cd.seq ?_
    refine Cd.region ?_
    refine Ops.mv_sl rfl rfl rfl ?_
    refine Ops.nil ?_
    refine thenQ_n ?_
    refine Cd.seq ?_
    refine Cd.seq ?_
    refine Cd.region ?_
    refine Ops.mv_sl rfl rfl rfl ?_
    -- stop: BINOP eql 35 t3 0 35 -> 4
    refine Ops.eqNil rfl rfl rfl ?_
    refine Ops.nil ?_
    refine thenQ_n ?_
    -- stop: cond
    refine Cd.cond_t rfl ?_
    refine Cd.seq ?_
    refine Cd.region ?_
    refine Ops.mv_sl rfl rfl rfl ?_
    refine Ops.nil ?_
    refine thenQ_n ?_
    refine Cd.ret ?_
    refine thenQ_r ?_
    refine ret1_s rfl ?_
    -- stop: end
    exact ⟨none, 0, rfl, (St.refl w).nil _⟩
  | some a =>
    subst hA
    refine Ret.of_cd Tryz.func56 rfl Tryz.ntmps56 rfl (post1 rfl) ?_
    refine Cd.seq ?_
    refine Cd.region ?_
    refine Ops.mv_sl rfl rfl rfl ?_
    refine Ops.nil ?_
    refine thenQ_n ?_
    refine Cd.seq ?_
    refine Cd.seq ?_
    refine Cd.region ?_
    refine Ops.mv_sl rfl rfl rfl ?_
    -- stop: BINOP eql 35 t3 0 35 -> 4
    refine Ops.eqNil rfl rfl rfl ?_
    refine Ops.nil ?_
    refine thenQ_n ?_
    -- stop: cond
    refine Cd.cond_f rfl ?_
    refine Cd.skip ?_
    refine thenQ_n ?_
    refine Cd.seq ?_
    refine Cd.region ?_
    -- stop: BUILDSLICE 35 0 [] -> 5
    refine Ops.bs0 (St.refl w) rfl ?_
    intro A1 w1 hS1
    have hS1 : St w w1 [CkI 2 A1 0 0 []] := hS1
    refine Ops.mv_sl rfl rfl rfl ?_
    -- stop: BUILTIN append(t5, t6) -> 7
    refine Ops.appI 0 hS1 rfl (hS1.oldI hR) rfl rfl rfl (by omega) (by omega) rfl ?_
    intro A2 c2 w2 hS2
    rw [Nat.zero_add] at hS2 ⊢
    refine Ops.mv_sl rfl rfl rfl ?_
    refine Ops.nil ?_
    refine thenQ_n ?_
    refine Cd.ret ?_
    refine ret1_s rfl ?_
    -- stop: end
    exact ⟨A2, c2, rfl, hS2⟩

end Go.Proofs.YtgobjpcankaicaaGreatDoor.Vc
/-
  The walks of the reference's forms. Conditions: as each states them.
-/
namespace Go.Proofs.YtgobjpcankaicaaGreatDoor.Vc
open Go.RowKit

section
variable {P : Program} {N : Nat} {ops : Array Oper} {K : Env → World → Prop} {rest : List Oper} {e : Env} {w : World} {d : Nat} {ty : TypeId} {pos : String} {af : Array Edge}
theorem Ops.bld0 {t : TypeId} {f0 : Field} {z0 zf : Value} {b bf : Nat} [Und P t (.struct #[f0])] [Inf P t (.agg #[z0]) 1 b] (hI : Inf P f0.type zf 1 bf) (hb : Nat.blt d N = true)
    (hK : Ops P N ops K rest (upd e d (.agg #[z0])) w) : Ops P N ops K (⟨some d, .build t #[], ty, pos, af, none⟩ :: rest) e w := by
  obtain ⟨inf, hi, hz0, hs, hby⟩ := Inf.get P t
  obtain ⟨inf', hi', hz0', hs', hby'⟩ := hI.get P f0.type
  have ez : (Value.agg #[z0]).cells = #[z0] := rfl
  refine .val (w' := w) ?_ hb hK
  simp [execOp, Instr.build, run_underlying (Und.out (P := P) (t := t)), sizeOf, typeInfo, zeroValue, hi, hz0, hs, hi', hs', ez, Instr.fill]
end

end Go.Proofs.YtgobjpcankaicaaGreatDoor.Vc
/-
  The walks of forms on both sides. Conditions: as each states them.
-/
namespace Go.Proofs.YtgobjpcankaicaaGreatDoor.Vc
open Go.RowKit

theorem Mani.prm {xss : List (List Int)} (hM : Mani xss) {f : Int} (h0 : 0 ≤ f) (hf : f < (gl xss 0).length) : Prm (gl xss 0).length (orbit (gl xss 0).length xss f) := by
  have hs := hM.2.2.1.sys
  have hi := hM.2.2.1.inj
  have h2 := hM.2.1
  obtain ⟨g, _, hm⟩ := orbit_spec hs h0 hf
  have hall := (orbit_all hs (by omega)).1 hM.2.2.2.2
  refine ⟨?_, g.nodup, g.range⟩
  have h1 := sub_len (seqI (gl xss 0).length) (orbit (gl xss 0).length xss f) (by
    unfold seqI
    rw [List.nodup_iff_pairwise_ne, List.pairwise_map]
    exact (List.nodup_iff_pairwise_ne.1 List.nodup_range).imp (fun h e => h (by omega))) (fun z hz => by
    have hz := seqI_mem.1 hz
    exact (hm z).2 ((Reach.symm hs hi (by omega) (by omega) (hall f h0 hf)).trans (hall z hz.1 hz.2)))
  rw [seqI_len] at h1
  have := g.len
  omega

end Go.Proofs.YtgobjpcankaicaaGreatDoor.Vc
/-
  The cycles of a list of numbers, by their least points, and lists in ascending order: a plain law, with no program in sight. Conditions: as each states them.
-/
namespace Go.Proofs.YtgobjpcankaicaaGreatDoor.Vc
open Go.RowKit

/-- from x on, till a point comes that was seen -/
def goC (p : List Int) : Nat → Nat → List Bool → List Int × List Bool
  | 0, _, s => ([], s)
  | k + 1, x, s => if gb s (x : Int) = true then ([], s) else ((x : Int) :: (goC p k (gi p x).toNat (s.set x true)).1, (goC p k (gi p x).toNat (s.set x true)).2)

theorem gb_nat {s : List Bool} {x : Nat} (hx : x < s.length) : gb s (x : Int) = s[x] := by simp [gb, List.getD_eq_getElem?_getD, List.getElem?_eq_getElem hx]
theorem count_seen {s : List Bool} {x : Nat} (hx : x < s.length) (h : ¬ gb s (x : Int) = true) : (s.set x true).count false + 1 = s.count false := by
  have e := gb_nat hx
  rw [e, Bool.not_eq_true] at h
  have h1 : 0 < s.count false := by
    rw [List.count_pos_iff, ← h]
    exact List.getElem_mem hx
  rw [List.count_set hx, h]
  simp
  omega
theorem goC_seen {p : List Int} {s : List Bool} {x : Nat} (h : gb s (x : Int) = true) (k : Nat) : goC p k x s = ([], s) := by
  cases k with
  | zero => rfl
  | succ k => simp [goC, h]
theorem goC_step {p : List Int} {s : List Bool} {x : Nat} (hx : x < s.length) (h : ¬ gb s (x : Int) = true) : goC p (s.count false) x s = ((x : Int) :: (goC p ((s.set x true).count false) (gi p x).toNat (s.set x true)).1, (goC p ((s.set x true).count false) (gi p x).toNat (s.set x true)).2) := by
  rw [← count_seen hx h]
  simp [goC, h]
theorem goC_len {p : List Int} : ∀ (k x : Nat) (s : List Bool), (goC p k x s).2.length = s.length
  | 0, _, _ => rfl
  | k + 1, x, s => by
    unfold goC
    split
    · rfl
    · show (goC p k _ _).2.length = _
      rw [goC_len k, List.length_set]
theorem goC_le {p : List Int} : ∀ (k x : Nat) (s : List Bool), (goC p k x s).1.length ≤ k
  | 0, _, _ => Nat.le_refl _
  | k + 1, x, s => by
    unfold goC
    split
    · exact Nat.zero_le _
    · show (goC p k _ _).1.length + 1 ≤ _
      have := goC_le (p := p) k (gi p x).toNat (s.set x true)
      omega

/-- all cycles from some points on -/
def cycs (p : List Int) : List Nat → List Bool → List (List Int)
  | [], _ => []
  | i :: is, s => (if (goC p (s.count false) i s).1 = [] then [] else [(goC p (s.count false) i s).1]) ++ cycs p is (goC p (s.count false) i s).2
theorem cycs_le {p : List Int} : ∀ (is : List Nat) (s : List Bool), (cycs p is s).length ≤ is.length
  | [], _ => Nat.le_refl _
  | i :: is, s => by
    have := cycs_le (p := p) is (goC p (s.count false) i s).2
    unfold cycs
    rw [List.length_append, List.length_cons]
    split <;> simp <;> omega
/-- the cycles of n points -/
def cyAll (p : List Int) (n : Nat) : List (List Int) := cycs p (List.range n) (List.replicate n false)
def lenAll (p : List Int) (n : Nat) : List Int := (cyAll p n).map fun c => (c.length : Int)
theorem cyAll_le (p : List Int) (n : Nat) : (cyAll p n).length ≤ n := by
  have := cycs_le (p := p) (List.range n) (List.replicate n false)
  rwa [List.length_range] at this
theorem lenAll_le (p : List Int) (n : Nat) : (lenAll p n).length ≤ n := by
  unfold lenAll; rw [List.length_map]; exact cyAll_le p n
theorem range_drop (n i : Nat) (h : i < n) : List.range' i (n - i) = i :: List.range' (i + 1) (n - (i + 1)) := by
  obtain ⟨m, hm⟩ : ∃ m, n - i = m + 1 := ⟨n - i - 1, by omega⟩
  rw [hm, show n - (i + 1) = m by omega]
  rfl
theorem cyAll_eq (p : List Int) (n : Nat) : cyAll p n = cycs p (List.range' 0 (n - 0)) (List.replicate n false) := by
  unfold cyAll
  rw [List.range_eq_range']
  rfl
theorem cycs_step {p : List Int} {n i : Nat} (h : i < n) (s : List Bool) : cycs p (List.range' i (n - i)) s = (if (goC p (s.count false) i s).1 = [] then [] else [(goC p (s.count false) i s).1]) ++ cycs p (List.range' (i + 1) (n - (i + 1))) (goC p (s.count false) i s).2 := by
  rw [range_drop n i h]; rfl
theorem cycs_end {p : List Int} {n : Nat} (s : List Bool) : cycs p (List.range' n (n - n)) s = [] := by
  rw [Nat.sub_self]; rfl

/-! ascending lists -/
def Asc (l : List Int) : Prop := l.Pairwise (· ≤ ·)
def srt (l : List Int) : List Int := l.mergeSort fun x y => decide (x ≤ y)
theorem srt_perm (l : List Int) : (srt l).Perm l := List.mergeSort_perm _ _
theorem srt_asc (l : List Int) : Asc (srt l) := by
  have := List.pairwise_mergeSort (le := fun x y : Int => decide (x ≤ y)) (fun a b c h1 h2 => by simp at h1 h2 ⊢; omega) (fun a b => by simp; omega) l
  exact this.imp fun h => by simpa using h
theorem asc_unique {l l' : List Int} (h : l.Perm l') (h1 : Asc l) (h2 : Asc l') : l = l' :=
  List.Perm.eq_of_pairwise (le := (· ≤ ·)) (fun a b _ _ h1 h2 => by omega) h1 h2 h
theorem asc_srt {l l' : List Int} (h : l.Perm l') (h1 : Asc l) : l = srt l' := asc_unique (h.trans (srt_perm l').symm) h1 (srt_asc l')
/-- a number put in where all ahead are less, and the one there is not -/
theorem asc_put {out : List Int} {a : Nat} {v : Int} (h : Asc out) (ha : a ≤ out.length) (hl : ∀ j : Nat, j < a → gi out (j : Int) < v) (hg : a < out.length → v ≤ gi out (a : Int)) : Asc (out.take a ++ (v :: out.drop a)) := by
  have key : ∀ j (hj : j < out.length), gi out (j : Int) = out[j] := fun j hj => by simp [gi, List.getD_eq_getElem?_getD, List.getElem?_eq_getElem hj]
  have hidx : ∀ i j (hi : i < out.length) (hj : j < out.length), i ≤ j → out[i] ≤ out[j] := fun i j hi hj hij => by
    by_cases e : i = j
    · subst e; exact Int.le_refl _
    · exact (List.pairwise_iff_getElem.1 h) i j hi hj (by omega)
  unfold Asc
  rw [List.pairwise_append, List.pairwise_cons]
  refine ⟨h.sublist (List.take_sublist _ _), ⟨fun x hx => ?_, h.sublist (List.drop_sublist _ _)⟩, fun x hx y hy => ?_⟩
  · obtain ⟨j, hj, rfl⟩ := List.mem_iff_getElem.1 hx
    rw [List.length_drop] at hj
    rw [List.getElem_drop]
    have h1 := hg (by omega)
    rw [key a (by omega)] at h1
    exact Int.le_trans h1 (hidx _ _ (by omega) (by omega) (by omega))
  · obtain ⟨j, hj, rfl⟩ := List.mem_iff_getElem.1 hx
    rw [List.length_take] at hj
    rw [List.getElem_take]
    have hxv : out[j] < v := by rw [← key j (by omega)]; exact hl j (by omega)
    rcases List.mem_cons.1 hy with rfl | hy
    · omega
    · obtain ⟨m, hm, rfl⟩ := List.mem_iff_getElem.1 hy
      rw [List.length_drop] at hm
      rw [List.getElem_drop]
      exact hidx _ _ (by omega) (by omega) (by omega)
theorem put_perm {out : List Int} {a : Nat} {v : Int} : (out.take a ++ (v :: out.drop a)).Perm (out ++ [v]) := by
  have h1 : (out.take a ++ (v :: out.drop a)).Perm (v :: (out.take a ++ out.drop a)) := List.perm_middle
  rw [List.take_append_drop] at h1
  exact h1.trans (List.perm_append_comm (l₁ := [v]))
end Go.Proofs.YtgobjpcankaicaaGreatDoor.Vc
/-
  The walks of the reference's runs of a word over flags, and of the lengths of a word. Conditions: as each states them.
-/
namespace Go.Proofs.YtgobjpcankaicaaGreatDoor.Vc
open Go.RowKit

/-- where a word leads from x -/
def runW (xss : List (List Int)) (x : Int) (ws : List Int) : Int := ws.foldl (fun x i => gi (gl xss i) x) x
/-- what a word does -/
def doesL (xss : List (List Int)) (F : Nat) (ws : List Int) : List Int := (List.range F).map fun x : Nat => runW xss (x : Int) ws
theorem runW_take {xss : List (List Int)} {x : Int} {ws : List Int} {k : Nat} (hk : k < ws.length) : runW xss x (ws.take (k + 1)) = gi (gl xss (gi ws k)) (runW xss x (ws.take k)) := by
  unfold runW
  rw [List.take_succ_eq_append_getElem hk, List.foldl_append]
  simp [gi, List.getD_eq_getElem?_getD, List.getElem?_eq_getElem hk]
theorem runW_lt {F : Nat} {xss : List (List Int)} (hs : Sys F xss) : ∀ (ws : List Int) (x : Int), (∀ i ∈ ws, 0 ≤ i ∧ i < xss.length) → 0 ≤ x → x < F → 0 ≤ runW xss x ws ∧ runW xss x ws < F
  | [], _, _, h0, h1 => ⟨h0, h1⟩
  | i :: ws, x, hw, h0, h1 => by
    have hi := hw i (by simp)
    have hg := (hs _ (gl_in hi.1 hi.2)).2 x h0 h1
    exact runW_lt hs ws _ (fun j hj => hw j (by simp [hj])) hg.1 hg.2
theorem gi_does {xss : List (List Int)} {F : Nat} {ws : List Int} {x : Int} (h0 : 0 ≤ x) (hx : x < F) : gi (doesL xss F ws) x = runW xss x ws := by
  have h : x.toNat < F := by omega
  have e : ((x.toNat : Nat) : Int) = x := by omega
  simp [gi, doesL, List.getD_eq_getElem?_getD, h, e]
theorem mem_gi {l : List Int} {a b : Int} (h : ∀ k : Nat, k < l.length → a ≤ gi l k ∧ gi l k < b) : ∀ i ∈ l, a ≤ i ∧ i < b := fun i hi => by
  obtain ⟨k, hk, rfl⟩ := List.mem_iff_getElem.1 hi
  have := h k hk
  simpa [gi, List.getD_eq_getElem?_getD, List.getElem?_eq_getElem hk] using this
theorem does_lt {F : Nat} {xss : List (List Int)} (hs : Sys F xss) {ws : List Int} (hw : ∀ i ∈ ws, 0 ≤ i ∧ i < xss.length) {x : Nat} (hx : x < F) : 0 ≤ gi (doesL xss F ws) x ∧ gi (doesL xss F ws) x < F := by
  rw [gi_does (by omega) (by omega)]
  exact runW_lt hs ws _ hw (by omega) (by omega)

/-- rows of two kinds of elements lie apart -/
theorem St.beside {w0 w : World} {k : Ck} {ks : List Ck} (h1 : St w0 w ks) (h2 : St w0 w [k]) (he : ∀ k' ∈ ks, k'.e ≠ k.e) (hM : isM k.vs = false := by first | rfl | exact isM_I _ | exact isM_B _ | exact isM_R _) : St w0 w (k :: ks) := by
  refine ⟨h1.below, fun x hx => ?_, ?_⟩
  · rcases List.mem_cons.1 hx with rfl | hx
    · exact h2.own _ (by simp)
    · exact h1.own _ hx
  · rw [List.filterMap_cons]
    split
    · exact h1.apart
    · rename_i g hg
      rw [List.nodup_cons]
      refine ⟨fun hm => ?_, h1.apart⟩
      obtain ⟨k', hk', hg'⟩ := List.mem_filterMap.1 hm
      have o1 := h2.own k (by simp)
      have o2 := h1.own k' hk'
      have find : ∀ {k : Ck}, OwnC w0.heap.size w k → k.blk = some g → ∃ cur, w.heap[g]? = some (.cells cur k.e (0, 0)) := fun {k} o hb => by
        obtain ⟨_, _, _, h4⟩ := o
        rcases h4 with ⟨h0, _⟩ | ⟨g', o, cur, hA, _, hh, _⟩
        · simp [Ck.blk, h0] at hb
        · simp [Ck.blk, hA] at hb
          subst hb
          exact ⟨cur, hh⟩
      obtain ⟨c1, e1⟩ := find (o1.toC hM) hg
      rcases o2.cases with ⟨_, _, _, g2, es2, cl2, hA2, _, hh2, _⟩ | ⟨_, o2⟩
      · simp [Ck.blk, hA2] at hg'
        subst hg'
        rw [e1] at hh2
        cases hh2
      obtain ⟨c2, e2⟩ := find o2 hg'
      rw [e1] at e2
      simp only [Option.some.injEq, Obj.cells.injEq] at e2
      exact he k' hk' e2.2.1.symm

/-- a maniplex with edges -/
def Grph (xss : List (List Int)) : Prop := Mani xss ∧ 2 ≤ xss.length
instance (xss : List (List Int)) : Decidable (Grph xss) := by unfold Grph; exact inferInstance

theorem l18Is_c (A : Option Addr) (n c : Nat) (rs : List SlV) (xss : List (List Int)) (w : World) (hR : RowsI w A n rs xss) (hn : n ≤ 9223372036854775807) :
    Ret Tryz.prog 10 [.agg #[.slice A n c]] w (fun v w' => v = .bool (decide (Grph xss)) ∧ St w w' []) := by
  have hl := hR.len
  refine Ret.of_cd Tryz.func10 rfl Tryz.ntmps10 rfl (post1 rfl) ?_
  refine Cd.seq ?_
  refine Cd.region ?_
  -- stop: BOX 28 t0=m -> 1
  refine Ops.box1 (St.refl w) rfl rfl ?_
  intro Ab w1 hS
  refine Ops.mv_bool rfl rfl rfl ?_
  refine Ops.nil ?_
  refine thenQ_n ?_
  refine Cd.seq ?_
  refine Cd.region ?_
  -- stop: LOAD 28 t1=m -> 3
  refine Ops.ld_agg 0 (hS.rd 0 rfl) rfl rfl rfl ?_
  refine Ops.call (l02Is_c A n c rs xss _ (hS.oldRows hR) hn) rfl rfl rfl ?_
  rintro _ w2 ⟨rfl, hst⟩
  have hS := hS.later hst.below
  refine Ops.mv_bool rfl rfl rfl ?_
  -- stop: guard 5
  refine Ops.split_p 5 rfl (fun h => ?_) (fun h => ?_)
  · refine Ops.rung rfl rfl rfl ?_
    -- stop: FIELDADDR 28 t1=m 0 -> 6
    refine Ops.fld (hS.rd 0 rfl) rfl rfl rfl rfl inferInstance ?_
    refine Ops.rung rfl rfl rfl ?_
    -- stop: LOAD 22 t6 -> 7
    refine Ops.ldf_s (hS.rd 0 rfl) rfl rfl rfl rfl rfl ?_
    refine Ops.rung rfl rfl rfl ?_
    refine Ops.len rfl rfl ?_
    refine Ops.rung rfl rfl rfl ?_
    refine Ops.geq rfl rfl rfl ?_
    refine Ops.pick_t rfl rfl rfl ?_
    refine Ops.mv_bool rfl rfl rfl ?_
    refine Ops.nil ?_
    refine thenQ_n ?_
    refine Cd.ret ?_
    refine ret1_b rfl ?_
    -- stop: end
    exact ⟨by simp [Grph, h, hl]; omega, hS.none⟩
  · refine Ops.skipg rfl rfl rfl rfl rfl ?_
    refine Ops.skipg rfl rfl rfl rfl rfl ?_
    refine Ops.skipg rfl rfl rfl rfl rfl ?_
    refine Ops.skipg rfl rfl rfl rfl rfl ?_
    refine Ops.pick_f rfl rfl rfl ?_
    refine Ops.mv_bool rfl rfl rfl ?_
    refine Ops.nil ?_
    refine thenQ_n ?_
    refine Cd.ret ?_
    refine ret1_b rfl ?_
    -- stop: end
    exact ⟨by simp [Grph, h], hS.none⟩

theorem l02Flags_c (A : Option Addr) (n c : Nat) (rs : List SlV) (xss : List (List Int)) (w : World) (hR : RowsI w A n rs xss) (hn : 0 < n) :
    Ret Tryz.prog 46 [.agg #[.slice A n c]] w (fun v w' => v = .int .i64 ((gl xss 0).length : Int) ∧ St w w' []) := by
  refine Ret.of_cd Tryz.func46 rfl Tryz.ntmps46 rfl (post1 rfl) ?_
  refine Cd.seq ?_
  refine Cd.region ?_
  -- stop: BOX 28 t0=m -> 1
  refine Ops.box1 (St.refl w) rfl rfl ?_
  intro Ab w1 hS
  have hR1 := hS.oldRows hR
  have e0 : (gl xss 0).length = (rg rs 0).n := hR.rowLen (by omega) (by omega)
  refine Ops.mv_int rfl rfl rfl ?_
  refine Ops.nil ?_
  refine thenQ_n ?_
  refine Cd.seq ?_
  refine Cd.region ?_
  -- stop: FIELDADDR 28 t1=m 0 -> 3
  refine Ops.fld (hS.rd 0 rfl) rfl rfl rfl rfl inferInstance ?_
  refine Ops.ldf_s (hS.rd 0 rfl) rfl rfl rfl rfl rfl ?_
  refine Ops.idx hR1.top.2 rfl rfl rfl (by omega) (by omega) ?_
  refine Ops.ld_sl hR1.top rfl (by omega) rfl rfl ?_
  refine Ops.len rfl rfl ?_
  refine Ops.mv_int rfl rfl rfl ?_
  refine Ops.nil ?_
  refine thenQ_n ?_
  refine Cd.ret ?_
  refine ret1_i rfl ?_
  -- stop: end
  exact ⟨by rw [e0], hS.none⟩

end Go.Proofs.YtgobjpcankaicaaGreatDoor.Vc
/-
  The walk of the reference's lengths of a word. Conditions: as it states them.
-/
namespace Go.Proofs.YtgobjpcankaicaaGreatDoor.Vc
open Go.RowKit

theorem goC_fst_le {p : List Int} {x : Nat} {s : List Bool} {F : Nat} (hs : s.length = F) : (goC p (s.count false) x s).1.length ≤ F := by
  have h1 := goC_le (p := p) (s.count false) x s
  have h2 : s.count false ≤ s.length := List.count_le_length
  omega

theorem RdI.drop {w : World} {A : Option Addr} {n c l : Nat} {xs : List Int} (h : RdI w A n xs) (hl : l ≤ n) (hc : n ≤ c) : RdI w (cutAt A c l) (n - l) (xs.drop l) := by
  have := h.cut (l := l) (h := n) (c := c) hl (Nat.le_refl _) hc
  rwa [List.take_of_length_le (by rw [List.length_drop, h.1]; omega)] at this
theorem RdI.take {w : World} {A : Option Addr} {n l : Nat} {xs : List Int} (h : RdI w A n xs) (hl : l ≤ n) : RdI w A l (xs.take l) := by
  have := h.cut (l := 0) (h := l) (c := 0) (Nat.zero_le _) hl
  refine ⟨by rw [List.length_take, h.1]; omega, fun k hk => ?_⟩
  obtain ⟨q, h1, h2⟩ := h.2 k (by omega)
  exact ⟨q, h1, by rw [h2]; simp [List.getElem?_take, hk, List.getD_eq_getElem?_getD]⟩

end Go.Proofs.YtgobjpcankaicaaGreatDoor.Vc
