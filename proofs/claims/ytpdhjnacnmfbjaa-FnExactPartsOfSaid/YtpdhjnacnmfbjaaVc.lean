/-
  A small calculus over the model's own weakest preconditions: the frame's slots as a function, one rule an operation. Conditions: none; plain theorems, nothing of a program in sight.
-/
import Derived.WalkKit
import Derived.Deep.Quiet
import Derived.Deep.LoopGhost
namespace Go.Proofs.Ytpdhjnacnmfbjaa.Vc
open Go.RowKit

abbrev Env := Nat → Value
def upd (e : Env) (d : Nat) (v : Value) : Env := fun i => bif Nat.beq i d then v else e i
def ev (e : Env) : Operand → Value
  | .tmp t => e t
  | .const v => v
  | .global g => .pointer (some ⟨g, 0, none⟩)
  | .func f => .func (.func f) #[] #[]

/-- the frame 'a' has N slots and holds 'e' -/
structure Rep (N : Nat) (a : Act) (e : Env) : Prop where
  defers : a.defers = []
  size : a.tmps.size = N
  get : ∀ i, a.tmps.getD i undef = e i

theorem Rep.eval {N : Nat} {a : Act} {e : Env} (h : Rep N a e) : a.eval = ev e := by
  funext x
  cases x with
  | tmp t => exact h.get t
  | const v => rfl
  | global g => rfl
  | func f => rfl

theorem Rep.put {N : Nat} {a : Act} {e : Env} (h : Rep N a e) {d : Nat} (hd : Nat.blt d N = true) (v : Value) : Rep N (a.put (some d) v) (upd e d v) := by
  have hd' : d < a.tmps.size := by rw [h.size]; simpa [Nat.blt_eq] using hd
  refine ⟨h.defers, by simp [Act.put, h.size], fun i => ?_⟩
  simp only [Act.put, upd]
  rw [Array.getD_eq_getD_getElem?, Array.getElem?_setIfInBounds]
  by_cases e1 : d = i
  · subst e1
    simp [hd']
  · have e2 : Nat.beq i d = false := by
      cases hb : Nat.beq i d with
      | false => rfl
      | true => exact absurd (Nat.eq_of_beq_eq_true hb).symm e1
    rw [if_neg e1, e2, ← Array.getD_eq_getD_getElem?, h.get]
    rfl

theorem Rep.put_none {N : Nat} {a : Act} {e : Env} (h : Rep N a e) (v : Value) : Rep N (a.put none v) e := h

abbrev Post := Exit → Env → World → Prop
def low (N : Nat) (Q : Post) : Exit → Act → World → Prop := fun x a w => ∃ e, Rep N a e ∧ Q x e w
structure Cd (P : Program) (N : Nat) (c : Code) (Q : Post) (e : Env) (w : World) : Prop where
  mk' ::
  run : ∀ a, Rep N a e → c.wp P (low N Q) a w
/-- the operations 'l' of the region 'ops', then 'K' -/
structure Ops (P : Program) (N : Nat) (ops : Array Oper) (K : Env → World → Prop) (l : List Oper) (e : Env) (w : World) : Prop where
  mk' ::
  run : ∀ a, Rep N a e → wpList P ops (fun x a w => x = .normal ∧ ∃ e, Rep N a e ∧ K e w) l a w

section
variable {P : Program} {N : Nat} {Q : Post} {e : Env} {w : World}

def thenQ (K : Env → World → Prop) (Q : Post) : Post
  | .normal, e, w => K e w
  | x, e, w => Q x e w
def blockQ (id : Nat) (Q : Post) : Post
  | .exit id', e, w => if id' = id then Q .normal e w else Q (.exit id') e w
  | x, e, w => Q x e w

theorem Cd.mono {c : Code} {Q' : Post} (hq : ∀ x e w, Q x e w → Q' x e w) (h : Cd P N c Q e w) : Cd P N c Q' e w :=
  .mk' fun a ha => wp_mono (h.run a ha) fun _ _ _ ⟨e, he, q⟩ => ⟨e, he, hq _ _ _ q⟩

theorem Cd.seq {x y : Code} (h : Cd P N x (thenQ (Cd P N y Q) Q) e w) : Cd P N (.seq x y) Q e w := .mk' fun a ha =>
  wp_seq (wp_mono (h.run a ha) fun ex a' w' ⟨e', he', q⟩ => by
    cases ex <;> first | exact q.run a' he' | exact ⟨e', he', q⟩)
theorem Cd.skip (h : Q .normal e w) : Cd P N .skip Q e w := .mk' fun a ha => wp_skip ⟨e, ha, h⟩
theorem Cd.ret (h : Q .ret e w) : Cd P N .ret Q e w := .mk' fun a ha => wp_ret ⟨e, ha, h⟩
theorem Cd.exit {id : Nat} (h : Q (.exit id) e w) : Cd P N (.exit id) Q e w := .mk' fun a ha => wp_exit ⟨e, ha, h⟩
theorem Cd.block {id : Nat} {c : Code} (h : Cd P N c (blockQ id Q) e w) : Cd P N (.block id c) Q e w := .mk' fun a ha =>
  wp_block (wp_mono (h.run a ha) fun ex a' w' ⟨e', he', q⟩ => by
    cases ex <;> first
      | exact ⟨e', he', q⟩
      | (rename_i id'
         simp only [blockQ] at q
         simp only [Exit.inBlock]
         split
         · rename_i hid; rw [if_pos hid] at q; exact ⟨e', he', q⟩
         · rename_i hid; rw [if_neg hid] at q; exact ⟨e', he', q⟩))
theorem Cd.cond {c : Operand} {x y : Code} {t : Bool} (hc : ev e c = .bool t) (h1 : t = true → Cd P N x Q e w) (h2 : t = false → Cd P N y Q e w) : Cd P N (.cond c x y) Q e w := .mk' fun a ha =>
  wp_cond_split (t := t) (by rw [ha.eval, hc]) (fun h => (h1 h).run a ha) (fun h => (h2 h).run a ha)
theorem Cd.cond_t {c : Operand} {x y : Code} (hc : ev e c = .bool true) (h1 : Cd P N x Q e w) : Cd P N (.cond c x y) Q e w := .cond hc (fun _ => h1) (fun h => by cases h)
theorem Cd.cond_f {c : Operand} {x y : Code} (hc : ev e c = .bool false) (h1 : Cd P N y Q e w) : Cd P N (.cond c x y) Q e w := .cond hc (fun h => by cases h) (fun _ => h1)
/-- a test on a proposition -/
theorem Cd.cond_p {c : Operand} {x y : Code} (p : Prop) [Decidable p] (hc : ev e c = .bool (decide p)) (h1 : p → Cd P N x Q e w) (h2 : ¬ p → Cd P N y Q e w) : Cd P N (.cond c x y) Q e w :=
  .cond hc (fun h => h1 (of_decide_eq_true h)) (fun h => h2 (of_decide_eq_false h))

theorem Cd.region {id : Nat} {l : List Oper} (h : Ops P N l.toArray (fun e w => Q .normal e w) l e w) : Cd P N (.region id l.toArray false) Q e w := .mk' fun a ha =>
  wp_mono (wp_region_lit (h.run a ha)) fun _ _ _ ⟨hx, e', he', q⟩ => ⟨e', he', by rw [hx]; exact q⟩

/-- the slots that a loop's relation names -/
def Mt (e : Env) : List (Nat × Value) → Prop
  | [] => True
  | (i, v) :: r => e i = v ∧ Mt e r
def ext (e : Env) : List (Nat × Value) → Env
  | [] => e
  | (i, v) :: r => upd (ext e r) i v
theorem ext_of_mt : ∀ {l : List (Nat × Value)} {e : Env}, Mt e l → ext e l = e
  | [], _, _ => rfl
  | (i, v) :: r, e, h => by
    show upd (ext e r) i v = e
    rw [ext_of_mt h.2]
    funext j
    unfold upd
    cases hb : Nat.beq j i with
    | false => rfl
    | true => rw [Nat.eq_of_beq_eq_true hb, h.1]; rfl

/-- a loop: 'F' names the slots, 'I' the world, 'm' goes down -/
theorem Cd.loop {α : Type} {c : Code} (F : α → List (Nat × Value)) (I : α → World → Prop) (m : α → Nat) (s0 : α) (hF : Mt e (F s0)) (hI : I s0 w)
    (round : ∀ s e w, I s w → Cd P N c (thenQ (fun e' w' => ∃ s', m s' < m s ∧ Mt e' (F s') ∧ I s' w') Q) (ext e (F s)) w) : Cd P N (.loop c) Q e w := by
  have key : ∀ n s e w, m s = n → Mt e (F s) → I s w → ∀ a, Rep N a e → (Code.loop c).wp P (low N Q) a w := by
    intro n0 s e w hn hm hI' a ha
    let J : Act → World → Prop := fun a w => ∃ s e, Rep N a e ∧ Mt e (F s) ∧ I s w
    -- the ghost number, by strong induction on it
    refine wp_loop_ghost (I := fun n a w => ∃ s e, m s = n ∧ Rep N a e ∧ Mt e (F s) ∧ I s w) n0 ⟨s, e, hn, ha, hm, hI'⟩ ?_
    intro n a w ⟨s, e, hn, ha, hm, hI⟩
    have h1 := round s e w hI
    rw [ext_of_mt hm] at h1
    refine wp_mono (h1.run a ha) fun ex a' w' ⟨e', he', q⟩ => ?_
    cases ex <;> first
      | exact ⟨e', he', q⟩
      | (obtain ⟨s', hlt, hm', hI'⟩ := q
         exact ⟨m s', by omega, s', e', rfl, he', hm', hI'⟩)
  exact .mk' fun a ha => key _ s0 e w rfl hF hI a ha

end
end Go.Proofs.Ytpdhjnacnmfbjaa.Vc
