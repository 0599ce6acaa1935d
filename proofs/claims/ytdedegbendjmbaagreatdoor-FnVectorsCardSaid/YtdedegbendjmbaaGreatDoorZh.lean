/-
  The texts Co22, Co23, Co30, Co31, Cw1, Cw2, Dr0, Open, Opm, Opy, Cw3, Co18 in one. Conditions: as each part states them.
-/
import Derived.Test.YtdedegbendjmbaaGreatDoorZg
import Derived.Test.YtdedegbendjmbaaGreatDoorZb
import Derived.Test.YtdedegbendjmbaaGreatDoorZa
import Derived.Test.YtdedegbendjmbaaGreatDoorInst
import Derived.Deep.Matrix
import Derived.Carry
import Derived.Below
import Derived.ChangeSame
import Derived.ProofKit
import Derived.OpenShut
import Derived.Handed
import Derived.Lib.SmallJoins
import Derived.Test.YtdedegbendjmbaaGreatDoorZe
/-
 Plain mathematics: polynomials told by their coefficients, and what becomes of numbers of faces. Conditions: as each states them. No program in sight.
-/
namespace Go.Proofs.YtdedegbendjmbaaGreatDoor.Vc

def sumN : Nat → (Nat → Int) → Int
 | 0, _ => 0
 | n + 1, g => sumN n g + g n
theorem sumN_congr {g h : Nat → Int} : ∀ {n : Nat}, (∀ i, i < n → g i = h i) → sumN n g = sumN n h
 | 0, _ => rfl
 | n + 1, H => by unfold sumN; rw [sumN_congr (n := n) fun i hi => H i (by omega), H n (by omega)]
theorem sumN_front (g : Nat → Int) : ∀ n : Nat, sumN (n + 1) g = g 0 + sumN n fun i => g (i + 1)
 | 0 => by simp [sumN]
 | n + 1 => by
  have := sumN_front g n
  rw [sumN, this, sumN]
  omega
theorem sumN_add (g h : Nat → Int) : ∀ n : Nat, sumN n (fun i => g i + h i) = sumN n g + sumN n h
 | 0 => rfl
 | n + 1 => by unfold sumN; rw [sumN_add g h n]; show _ + _ + (g n + h n) = _; omega
theorem sumN_mul (a : Int) (g : Nat → Int) : ∀ n : Nat, sumN n (fun i => a * g i) = a * sumN n g
 | 0 => by simp [sumN]
 | n + 1 => by unfold sumN; rw [sumN_mul a g n, Int.mul_add]
theorem sumN_zero : ∀ n : Nat, sumN n (fun _ => 0) = 0
 | 0 => rfl
 | n + 1 => by unfold sumN; rw [sumN_zero n]; rfl

def pX (p : Nat → Int) : Nat → Int
 | 0 => 0
 | n + 1 => p n
def pD (p : Nat → Int) : Nat → Int := fun n => p n - pX p n
def p1 : Nat → Int := fun n => if n = 0 then 1 else 0
def pDn : Nat → Nat → Int
 | 0 => p1
 | m + 1 => pD (pDn m)
def pW : List Int → Nat → Nat → Int
 | [], _ => fun _ => 0
 | a :: r, m => fun n => a * pDn m n + pX (pW r (m - 1)) n
theorem pX_D (p : Nat → Int) : pX (pD p) = pD (pX p) := by
 funext n
 match n with
 | 0 => rfl
 | 1 => show pD p 0 = pX p 1 - pX (pX p) 1; rfl
 | n + 2 => rfl
theorem pX_zero : pX (fun _ => 0) = fun _ => 0 := by funext n; cases n <;> rfl
theorem pW_D : ∀ {f : List Int} {m : Nat}, f.length ≤ m + 1 → pW f (m + 1) = pD (pW f m)
 | [], m, _ => by funext n; cases n <;> rfl
 | a :: r, m, h => by
  have e : pX (pW r m) = pD (pX (pW r (m - 1))) := by
   match r, m, h with
   | [], m, _ => funext n; match n with
    | 0 => rfl
    | 1 => rfl
    | n + 2 => rfl
   | b :: s, m + 1, h =>
    show pX (pW (b :: s) (m + 1)) = pD (pX (pW (b :: s) m))
    rw [pW_D (f := b :: s) (m := m) (by simpa using h), pX_D]
  funext n
  show a * pD (pDn m) n + pX (pW r m) n = (a * pDn m n + pX (pW r (m - 1)) n) - pX (fun n => a * pDn m n + pX (pW r (m - 1)) n) n
  rw [e]
  cases n with
  | zero => simp [pD, pX]
  | succ n => simp only [pD, pX, Int.mul_sub]; omega
theorem pDn_deg : ∀ {m n : Nat}, m < n → pDn m n = 0
 | 0, n, h => by simp [pDn, p1]; omega
 | m + 1, n + 1, h => by
  show pDn m (n + 1) - pDn m n = 0
  rw [pDn_deg (m := m) (by omega), pDn_deg (m := m) (by omega)]; rfl
theorem pW_deg : ∀ {f : List Int} {m n : Nat}, f.length ≤ m + 1 → m < n → pW f m n = 0
 | [], _, _, _, _ => rfl
 | a :: r, m, n + 1, h, hn => by
  show a * pDn m (n + 1) + pW r (m - 1) n = 0
  rw [pDn_deg hn]
  match r, m, h with
  | [], m, _ => show a * 0 + 0 = 0; simp
  | b :: s, m + 1, h => rw [pW_deg (f := b :: s) (by simpa using h) (by omega)]; simp

def conv (p q : Nat → Int) (n : Nat) : Int := sumN (n + 1) fun i => p i * q (n - i)
theorem conv_add (p p' q : Nat → Int) (n : Nat) : conv (fun i => p i + p' i) q n = conv p q n + conv p' q n := by
 unfold conv
 rw [← sumN_add]
 exact sumN_congr fun i _ => Int.add_mul _ _ _
theorem conv_mul (a : Int) (p q : Nat → Int) (n : Nat) : conv (fun i => a * p i) q n = a * conv p q n := by
 unfold conv
 rw [← sumN_mul]
 exact sumN_congr fun i _ => Int.mul_assoc _ _ _
theorem conv_zero (q : Nat → Int) (n : Nat) : conv (fun _ => 0) q n = 0 := by
 unfold conv
 rw [sumN_congr (h := fun _ => 0) fun i _ => Int.zero_mul _]
 exact sumN_zero _
theorem conv_X (p q : Nat → Int) (n : Nat) : conv (pX p) q n = pX (conv p q) n := by
 cases n with
 | zero => simp [conv, sumN, pX]
 | succ n =>
  show sumN (n + 1 + 1) _ = sumN (n + 1) _
  rw [sumN_front]
  simp only [pX, Int.zero_mul, Int.zero_add]
  exact sumN_congr fun i hi => by rw [show n + 1 - (i + 1) = n - i by omega]
theorem conv_D (p q : Nat → Int) (n : Nat) : conv (pD p) q n = pD (conv p q) n := by
 have h : conv (pD p) q n + conv (pX p) q n = conv p q n := by
  rw [← conv_add]
  congr 1
  funext i
  show p i - pX p i + pX p i = p i
  omega
 rw [conv_X] at h
 show _ = conv p q n - pX (conv p q) n
 omega
theorem conv_one (q : Nat → Int) (n : Nat) : conv p1 q n = q n := by
 unfold conv
 rw [sumN_front, sumN_congr (h := fun _ => 0) (n := n) fun i _ => by simp [p1], sumN_zero]
 simp [p1]
theorem conv_Dn {g : List Int} {k : Nat} (hg : g.length ≤ k + 1) : ∀ m n : Nat, conv (pDn m) (pW g k) n = pW g (m + k) n
 | 0, n => by rw [Nat.zero_add]; exact conv_one _ n
 | m + 1, n => by
  show conv (pD (pDn m)) (pW g k) n = _
  rw [conv_D, show conv (pDn m) (pW g k) = pW g (m + k) from funext (conv_Dn hg m), show m + 1 + k = m + k + 1 by omega, pW_D (by omega)]

/-! lists of coefficients -/
def addL : List Int → List Int → List Int
 | [], g => g
 | f, [] => f
 | a :: f, b :: g => (a + b) :: addL f g
def cvl : List Int → List Int → List Int
 | [], _ => []
 | a :: r, g => addL (g.map (a * ·)) (0 :: cvl r g)
theorem addL_len : ∀ f g : List Int, (addL f g).length = max f.length g.length
 | [], g => by simp [addL]
 | a :: f, [] => by simp [addL]
 | a :: f, b :: g => by simp [addL, addL_len f g]
theorem addL_at : ∀ (f g : List Int) (n : Nat), (addL f g).getD n 0 = f.getD n 0 + g.getD n 0
 | [], g, n => by simp [addL]
 | a :: f, [], n => by simp [addL]
 | a :: f, b :: g, 0 => by simp [addL]
 | a :: f, b :: g, n + 1 => by simpa [addL] using addL_at f g n
theorem cvl_len {g : List Int} (hg : g ≠ []) : ∀ {f : List Int}, f ≠ [] → (cvl f g).length = f.length + g.length - 1
 | [a], _ => by
  have := List.length_pos_iff.2 hg
  simp [cvl, addL_len]; omega
 | a :: b :: r, _ => by
  have := List.length_pos_iff.2 hg
  have ih := cvl_len hg (f := b :: r) (by simp)
  rw [cvl, addL_len, List.length_map, List.length_cons, ih]
  simp; omega
theorem getD_map (a : Int) (g : List Int) (n : Nat) : (g.map (a * ·)).getD n 0 = a * g.getD n 0 := by
 simp only [List.getD_eq_getElem?_getD, List.getElem?_map]
 cases g[n]? <;> simp
theorem getD_cons0 (l : List Int) : (fun n => ((0 : Int) :: l).getD n 0) = pX fun n => l.getD n 0 := by
 funext n; cases n <;> rfl
theorem cvl_at : ∀ (f g : List Int) (n : Nat), (cvl f g).getD n 0 = conv (fun i => f.getD i 0) (fun i => g.getD i 0) n
 | [], g, n => by
  show _ = conv (fun _ => 0) _ n
  rw [conv_zero]; rfl
 | a :: r, g, n => by
  rw [cvl, addL_at, getD_map]
  have h1 : ((0 : Int) :: cvl r g).getD n 0 = pX (fun n => (cvl r g).getD n 0) n := congrFun (getD_cons0 _) n
  have h2 : (fun i => (a :: r).getD i 0) = fun i => a * p1 i + pX (fun j => r.getD j 0) i := by
   funext i; cases i <;> simp [p1, pX]
  rw [h1, show (fun n => (cvl r g).getD n 0) = conv (fun i => r.getD i 0) (fun i => g.getD i 0) from funext (cvl_at r g), ← conv_X, h2, conv_add, conv_mul, conv_one]
theorem pW_add : ∀ (f g : List Int) (m n : Nat), pW (addL f g) m n = pW f m n + pW g m n
 | [], g, m, n => by show _ = 0 + _; simp [addL]
 | a :: f, [], m, n => by show _ = _ + 0; simp [addL]
 | a :: f, b :: g, m, n => by
  show (a + b) * pDn m n + pX (pW (addL f g) (m - 1)) n = (a * pDn m n + pX (pW f (m - 1)) n) + (b * pDn m n + pX (pW g (m - 1)) n)
  cases n with
  | zero => simp only [pX, Int.add_mul]; omega
  | succ n => simp only [pX, Int.add_mul, pW_add f g (m - 1) n]; omega
theorem pW_smul (a : Int) : ∀ (g : List Int) (m n : Nat), pW (g.map (a * ·)) m n = a * pW g m n
 | [], m, n => by show 0 = a * 0; simp
 | b :: g, m, n => by
  show (a * b) * pDn m n + pX (pW (g.map (a * ·)) (m - 1)) n = a * (b * pDn m n + pX (pW g (m - 1)) n)
  cases n with
  | zero => simp only [pX, Int.mul_add, Int.mul_assoc]; simp
  | succ n => simp only [pX, Int.mul_add, Int.mul_assoc, pW_smul a g (m - 1) n]
/-- the product of two polynomials -/
theorem pW_conv : ∀ {f g : List Int} {m k : Nat}, f.length ≤ m + 1 → g.length ≤ k + 1 → ∀ n, conv (pW f m) (pW g k) n = pW (cvl f g) (m + k) n
 | [], g, m, k, _, _, n => conv_zero _ n
 | a :: r, g, m, k, hf, hg, n => by
  show conv (fun n => a * pDn m n + pX (pW r (m - 1)) n) (pW g k) n = pW (addL (g.map (a * ·)) (0 :: cvl r g)) (m + k) n
  rw [conv_add, conv_mul, conv_X, conv_Dn hg, pW_add, pW_smul]
  show _ = _ + (0 * pDn (m + k) n + pX (pW (cvl r g) (m + k - 1)) n)
  rw [Int.zero_mul, Int.zero_add]
  congr 1
  match r, m, hf with
  | [], m, _ =>
   rw [show conv (pW [] (m - 1)) (pW g k) = fun _ => 0 from funext fun n => conv_zero _ n]; rfl
  | b :: s, m + 1, hf =>
   rw [show m + 1 - 1 = m from rfl, show m + 1 + k - 1 = m + k by omega, show conv (pW (b :: s) m) (pW g k) = pW (cvl (b :: s) g) (m + k) from funext (pW_conv (f := b :: s) (by simpa using hf) hg)]

/-- the h-vector of an f-vector -/
def hP (f : List Int) : List Int := (List.range f.length).map (pW f (f.length - 1))
theorem hP_len (f : List Int) : (hP f).length = f.length := by simp [hP]
theorem hP_at {f : List Int} (n : Nat) : (hP f).getD n 0 = pW f (f.length - 1) n := by
 unfold hP
 rw [List.getD_eq_getElem?_getD, List.getElem?_map]
 by_cases h : n < f.length
 ·rw [List.getElem?_range h]; rfl
 ·rw [List.getElem?_eq_none (by simp; omega)]
  match f, h with
  | [], _ => rfl
  | a :: r, h => exact (pW_deg (by simp) (by simp at h ⊢; omega)).symm
theorem list_ext0 {f g : List Int} (hl : f.length = g.length) (h : ∀ n, f.getD n 0 = g.getD n 0) : f = g := by
 apply List.ext_getElem hl
 intro i h1 h2
 have := h i
 simpa [List.getD_eq_getElem?_getD, h1, h2] using this
theorem hP_prod {f g : List Int} (hf : f ≠ []) (hg : g ≠ []) : hP (cvl f g) = cvl (hP f) (hP g) := by
 have h1 := List.length_pos_iff.2 hf
 have h2 := List.length_pos_iff.2 hg
 have hne : ∀ l : List Int, l ≠ [] → hP l ≠ [] := fun l h => fun e => h (List.eq_nil_of_length_eq_zero (by rw [← hP_len l, e]; rfl))
 refine list_ext0 (by rw [hP_len, cvl_len hg hf, cvl_len (hne g hg) (hne f hf), hP_len, hP_len]) fun n => ?_
 rw [hP_at, cvl_len hg hf, cvl_at, show (fun i => (hP f).getD i 0) = pW f (f.length - 1) from funext hP_at, show (fun i => (hP g).getD i 0) = pW g (g.length - 1) from funext hP_at, pW_conv (by omega) (by omega)]
 congr 1
 omega
theorem sumN_X (p : Nat → Int) (n : Nat) : sumN (n + 1) (pX p) = sumN n p := by
 rw [sumN_front]
 show 0 + sumN n p = _
 omega
theorem sumN_D (p : Nat → Int) (n : Nat) : sumN (n + 1) (pD p) = p n := by
 induction n with
 | zero => simp [sumN, pD, pX]
 | succ n ih => rw [sumN, ih]; show p n + (p (n + 1) - p n) = _; omega
theorem sum_pW : ∀ {f : List Int} {m : Nat}, f.length = m + 1 → sumN (m + 1) (pW f m) = f.getD m 0
 | [a], 0, _ => by simp [sumN, pW, pDn, p1, pX]
 | a :: b :: r, m + 1, h => by
  show sumN (m + 1 + 1) (fun n => a * pDn (m + 1) n + pX (pW (b :: r) m) n) = _
  have e0 : sumN (m + 1 + 1) (pDn (m + 1)) = 0 := by
   show sumN (m + 1 + 1) (pD (pDn m)) = 0
   rw [sumN_D, pDn_deg (by omega)]
  rw [sumN_add, sumN_mul, sumN_X, sum_pW (by simpa using h), e0]
  simp
/-- the sum of an h-vector -/
theorem sum_hP {f : List Int} (h : f ≠ []) : sumN f.length (fun n => (hP f).getD n 0) = f.getD (f.length - 1) 0 := by
 obtain ⟨m, hm⟩ : ∃ m, f.length = m + 1 := ⟨f.length - 1, by have := List.length_pos_iff.2 h; omega⟩
 rw [show (fun n => (hP f).getD n 0) = pW f (f.length - 1) from funext hP_at, hm]
 exact sum_pW hm
/-- one term more -/
theorem pW_snoc : ∀ (l : List Int) (a : Int) (m n : Nat), pW (l ++ [a]) m n = pW l m n + (if l.length ≤ n then a * pDn (m - l.length) (n - l.length) else 0)
 | [], a, m, n => by
  show a * pDn m n + pX (fun _ => 0) n = 0 + _
  rw [pX_zero]
  simp
 | b :: r, a, m, n => by
  show b * pDn m n + pX (pW (r ++ [a]) (m - 1)) n = b * pDn m n + pX (pW r (m - 1)) n + _
  cases n with
  | zero => simp [pX]
  | succ n =>
   simp only [pX, pW_snoc r a (m - 1) n, List.length_cons]
   rw [show m - 1 - r.length = m - (r.length + 1) by omega, show n + 1 - (r.length + 1) = n - r.length by omega]
   by_cases h : r.length ≤ n
   ·rw [if_pos h, if_pos (by omega)]; omega
   ·rw [if_neg h, if_neg (by omega)]; omega
end Go.Proofs.YtdedegbendjmbaaGreatDoor.Vc
/-
 Plain mathematics of complexes: the join of two, and its numbers of faces. Conditions: as each states them. No program in sight.
-/
namespace Go.Proofs.YtdedegbendjmbaaGreatDoor.Vc

def jnL (V : Int) (F G : List (List Int)) : List (List Int) := F.flatMap fun a => G.map fun b => a ++ b.map (V + ·)
/-- the lists whose complex is the join -/
def jnS (V : Int) (F G : List (List Int)) : List (List Int) := if F = [] ∨ G = [] then F ++ G else jnL V F G
theorem jnL_mem {V : Int} {F G : List (List Int)} {x : List Int} : x ∈ jnL V F G ↔ ∃ a ∈ F, ∃ b ∈ G, x = a ++ b.map (V + ·) := by
 unfold jnL
 rw [List.mem_flatMap]
 constructor
 ·rintro ⟨a, ha, h⟩
  obtain ⟨b, hb, rfl⟩ := List.mem_map.1 h
  exact ⟨a, ha, b, hb, rfl⟩
 ·rintro ⟨a, ha, b, hb, rfl⟩
  exact ⟨a, ha, List.mem_map.2 ⟨b, hb, rfl⟩⟩
theorem fcs_iff {F : List (List Int)} (hne : F ≠ []) {k : Nat} {x : List Int} : x ∈ fcs F k ↔ (∃ f ∈ F, x.Sublist f) ∧ x.length = k := by
 rw [fcs_mem, faL_mem]
 constructor
 ·rintro (⟨h0, rfl⟩ | ⟨_, f, hf, h1, h2⟩)
  ·match F, hne with
   | f :: _, _ => exact ⟨⟨f, by simp, List.nil_sublist f⟩, h0.symm⟩
  ·exact ⟨⟨f, hf, h1⟩, h2⟩
 ·rintro ⟨⟨f, hf, h1⟩, h2⟩
  by_cases h : k = 0
  ·exact .inl ⟨h, List.eq_nil_of_length_eq_zero (by omega)⟩
  ·exact .inr ⟨by omega, f, hf, h1, h2⟩
theorem jn_inj {V : Int} {y y' z z' : List Int} (hy : ∀ x ∈ y, x < V) (hy' : ∀ x ∈ y', x < V) (hz : ∀ x ∈ z, 0 ≤ x) (hz' : ∀ x ∈ z', 0 ≤ x) (h : y ++ z.map (V + ·) = y' ++ z'.map (V + ·)) : y = y' ∧ z = z' := by
 have key : ∀ {y z : List Int}, (∀ x ∈ y, x < V) → (∀ x ∈ z, 0 ≤ x) → (y ++ z.map (V + ·)).filter (fun x => decide (x < V)) = y := fun {y z} hy hz => by
  rw [List.filter_append, List.filter_eq_self.2 (fun x hx => decide_eq_true (hy x hx)), List.filter_eq_nil_iff.2, List.append_nil]
  intro x hx
  obtain ⟨u, hu, rfl⟩ := List.mem_map.1 hx
  have := hz u hu
  simp; omega
 have e : y = y' := by rw [← key hy hz, h, key hy' hz']
 subst e
 refine ⟨rfl, ?_⟩
 have h2 := List.append_cancel_left h
 exact (List.map_inj_right fun a b hab => by omega).1 h2
theorem len_flat (n : Nat) (g : Nat → List (List Int)) : (((List.range n).flatMap g).length : Int) = sumN n fun i => ((g i).length : Int) := by
 induction n with
 | zero => rfl
 | succ n ih =>
  rw [List.range_succ, List.flatMap_append, List.length_append, sumN]
  simp only [List.flatMap_cons, List.flatMap_nil, List.append_nil]
  rw [← ih]; omega
theorem len_prod {α β γ : Type} (A : List α) (B : List β) (f : α → β → γ) : (A.flatMap fun y => B.map fun z => f y z).length = A.length * B.length := by
 induction A with
 | nil => simp
 | cons a r ih => rw [List.flatMap_cons, List.length_append, List.length_map, ih, List.length_cons, Nat.add_mul, Nat.one_mul, Nat.add_comm]
/-- the faces of a join, pair by pair -/
def jnF (V : Int) (F G : List (List Int)) (k : Nat) : List (List Int) := (List.range (k + 1)).flatMap fun i => (fcs F i).flatMap fun y => (fcs G (k - i)).map fun z => y ++ z.map (V + ·)
theorem nf_join {V : Int} {F G : List (List Int)} (hF : F ≠ []) (hG : G ≠ []) (hv : ∀ f ∈ F, ∀ x ∈ f, x < V) (hz : ∀ g ∈ G, ∀ x ∈ g, 0 ≤ x) (k : Nat) : (nf (jnL V F G) k : Int) = conv (fun i => (nf F i : Int)) (fun i => (nf G i : Int)) k := by
 have hJ : jnL V F G ≠ [] := by
  match F, G, hF, hG with
  | a :: _, b :: _, _, _ => exact List.ne_nil_of_mem (jnL_mem.2 ⟨a, by simp, b, by simp, rfl⟩)
 have hv' : ∀ i, ∀ y ∈ fcs F i, ∀ x ∈ y, x < V := fun i y hy x hx => by
  obtain ⟨⟨f, hf, h1⟩, _⟩ := (fcs_iff hF).1 hy
  exact hv f hf x (h1.subset hx)
 have hz' : ∀ i, ∀ y ∈ fcs G i, ∀ x ∈ y, 0 ≤ x := fun i y hy x hx => by
  obtain ⟨⟨f, hf, h1⟩, _⟩ := (fcs_iff hG).1 hy
  exact hz f hf x (h1.subset hx)
 have hperm : (fcs (jnL V F G) k).Perm (jnF V F G k) := by
  refine (List.perm_ext_iff_of_nodup (fcs_SL _ _).nodup ?_).2 fun x => ?_
  ·refine List.pairwise_flatMap.2 ⟨fun i hi => List.pairwise_flatMap.2 ⟨fun y hy => List.pairwise_map.2 ?_, ?_⟩, ?_⟩
   ·refine (fcs_SL G (k - i)).nodup.imp_of_mem fun {a b} ha hb hab e => hab ?_
    exact (jn_inj (hv' i y hy) (hv' i y hy) (hz' _ a ha) (hz' _ b hb) e).2
   ·refine (fcs_SL F i).nodup.imp_of_mem fun {a b} ha hb hab u hu v hv e => hab ?_
    obtain ⟨z, hz1, rfl⟩ := List.mem_map.1 hu
    obtain ⟨z2, hz2, rfl⟩ := List.mem_map.1 hv
    exact (jn_inj (hv' i a ha) (hv' i b hb) (hz' _ z hz1) (hz' _ z2 hz2) e).1
   ·refine List.nodup_range.imp fun {i j} hij u hu v hv e => hij ?_
    obtain ⟨a, ha, hu⟩ := List.mem_flatMap.1 hu
    obtain ⟨b, hb, hv⟩ := List.mem_flatMap.1 hv
    obtain ⟨z, hz1, rfl⟩ := List.mem_map.1 hu
    obtain ⟨z2, hz2, rfl⟩ := List.mem_map.1 hv
    have h1 := (jn_inj (hv' i a ha) (hv' j b hb) (hz' _ z hz1) (hz' _ z2 hz2) e).1
    rw [← fcs_len ha, ← fcs_len hb, h1]
  ·rw [fcs_iff hJ]
   unfold jnF
   rw [List.mem_flatMap]
   constructor
   ·rintro ⟨⟨f, hf, h1⟩, h2⟩
    obtain ⟨a, ha, b, hb, rfl⟩ := jnL_mem.1 hf
    obtain ⟨y, u, rfl, hy, hu⟩ := List.sublist_append_iff.1 h1
    obtain ⟨z, hz1, rfl⟩ := List.sublist_map_iff.1 hu
    rw [List.length_append, List.length_map] at h2
    exact ⟨y.length, List.mem_range.2 (by omega), List.mem_flatMap.2 ⟨y, (fcs_iff hF).2 ⟨⟨a, ha, hy⟩, rfl⟩, List.mem_map.2 ⟨z, (fcs_iff hG).2 ⟨⟨b, hb, hz1⟩, by omega⟩, rfl⟩⟩⟩
   ·rintro ⟨i, hi, h⟩
    have hi := List.mem_range.1 hi
    obtain ⟨y, hy, h⟩ := List.mem_flatMap.1 h
    obtain ⟨z, hz1, rfl⟩ := List.mem_map.1 h
    obtain ⟨⟨a, ha, h1⟩, h2⟩ := (fcs_iff hF).1 hy
    obtain ⟨⟨b, hb, h3⟩, h4⟩ := (fcs_iff hG).1 hz1
    exact ⟨⟨_, jnL_mem.2 ⟨a, ha, b, hb, rfl⟩, h1.append (h3.map _)⟩, by rw [List.length_append, List.length_map]; omega⟩
 unfold nf
 rw [hperm.length_eq]
 unfold jnF conv
 rw [len_flat]
 refine sumN_congr fun i _ => ?_
 rw [len_prod]
 simp
theorem jn_dpt {V : Int} {F G : List (List Int)} (hF : F ≠ []) (hG : G ≠ []) : dpt (jnL V F G) = dpt F + dpt G := by
 obtain ⟨a, ha, h1⟩ := dpt_ex hF
 obtain ⟨b, hb, h2⟩ := dpt_ex hG
 have h3 := dpt_le (jnL_mem.2 ⟨a, ha, b, hb, rfl⟩ : a ++ b.map (V + ·) ∈ jnL V F G)
 rw [List.length_append, List.length_map] at h3
 have h4 : dpt (jnL V F G) ≤ dpt F + dpt G := dpt_bd fun x hx => by
  obtain ⟨a, ha, b, hb, rfl⟩ := jnL_mem.1 hx
  have := dpt_le ha
  have := dpt_le hb
  rw [List.length_append, List.length_map]; omega
 omega
theorem fvP_getD (F : List (List Int)) (n : Nat) : (fvP F).getD n 0 = nf F n := by
 by_cases h : n ≤ dpt F
 ·have := fvP_at F h
  exact this
 ·rw [List.getD_eq_getElem?_getD, List.getElem?_eq_none (by rw [fvP_len]; omega), nf_short (by omega)]; rfl
theorem fvP_ne (F : List (List Int)) : fvP F ≠ [] := fun e => by have := fvP_len F; rw [e] at this; simp at this
theorem fv_join {V : Int} {F G : List (List Int)} (hF : F ≠ []) (hG : G ≠ []) (hv : ∀ f ∈ F, ∀ x ∈ f, x < V) (hz : ∀ g ∈ G, ∀ x ∈ g, 0 ≤ x) : fvP (jnL V F G) = cvl (fvP F) (fvP G) := by
 refine list_ext0 ?_ fun n => ?_
 ·rw [cvl_len (fvP_ne G) (fvP_ne F), fvP_len, fvP_len, fvP_len, jn_dpt hF hG]; omega
 ·rw [fvP_getD, cvl_at, nf_join hF hG hv hz]
  congr 1
  ·funext i; exact (fvP_getD F i).symm
  ·funext i; exact (fvP_getD G i).symm
theorem cvl_one (g : List Int) (hg : g ≠ []) : cvl [1] g = g := by
 refine list_ext0 ?_ fun n => ?_
 ·rw [cvl_len hg (by simp)]; have := List.length_pos_iff.2 hg; simp
 ·rw [cvl_at, show (fun i => ([1] : List Int).getD i 0) = p1 from ?_, conv_one]
  funext i
  match i with
  | 0 => rfl
  | i + 1 => simp [p1]
theorem cvl_one' (g : List Int) (hg : g ≠ []) : cvl g [1] = g := by
 have h : ∀ g : List Int, cvl g [1] = g := fun g => by
  induction g with
  | nil => rfl
  | cons a r ih => rw [cvl, ih]; simp [addL]
 exact h g
theorem fvP_nil : fvP [] = [1] := by
 have h := fvP_zero []
 have h1 := fvP_len []
 match fvP [], h, h1 with
 | [a], h, _ => exact congrArg (· :: []) h
/-- the numbers of faces of a join, also with a complex without facets -/
theorem fv_joinS {V : Int} {F G : List (List Int)} (hv : ∀ f ∈ F, ∀ x ∈ f, x < V) (hz : ∀ g ∈ G, ∀ x ∈ g, 0 ≤ x) : fvP (jnS V F G) = cvl (fvP F) (fvP G) := by
 unfold jnS
 by_cases hF : F = []
 ·rw [if_pos (.inl hF), hF, List.nil_append, fvP_nil, cvl_one _ (fvP_ne G)]
 ·by_cases hG : G = []
  ·rw [if_pos (.inr hG), hG, List.append_nil, fvP_nil, cvl_one' _ (fvP_ne F)]
  ·rw [if_neg (by simp [hF, hG]), fv_join hF hG hv hz]
theorem jnS_sa {V W : Int} {F G : List (List Int)} (hF : Cplx V F) (hG : Cplx W G) : ∀ l ∈ jnS V F G, SA l := fun l hl => by
 unfold jnS at hl
 split at hl
 ·rcases List.mem_append.1 hl with h | h
  ·exact (hF.row l h).2.1
  ·exact (hG.row l h).2.1
 ·obtain ⟨a, ha, b, hb, rfl⟩ := jnL_mem.1 hl
  refine List.pairwise_append.2 ⟨(hF.row a ha).2.1, List.pairwise_map.2 ((hG.row b hb).2.1.imp fun h => by omega), fun x hx y hy => ?_⟩
  obtain ⟨z, hz, rfl⟩ := List.mem_map.1 hy
  have h1 := (hF.row a ha).2.2 x hx
  have h2 := (hG.row b hb).2.2 z hz
  omega
end Go.Proofs.YtdedegbendjmbaaGreatDoor.Vc
/-
 Joins of complexes, walked in the program. Conditions: as each states them.
-/
namespace Go.Proofs.YtdedegbendjmbaaGreatDoor.Vc
open Go.RowKit

def JnBig (F G : List (List Int)) : Prop := F ≠ [] ∧ G ≠ [] ∧ 400 < F.length * G.length
instance (F G : List (List Int)) : Decidable (JnBig F G) := by unfold JnBig; exact inferInstance
def jnV (V : Int) (F G : List (List Int)) : Int := if JnBig F G then 0 else cxV (jnS V F G)
def jnLs (V : Int) (F G : List (List Int)) : List (List Int) := if JnBig F G then [] else cxL (jnS V F G)
def jnK (V : Int) (F G : List (List Int)) : Int := if JnBig F G then 3 else cxK (jnS V F G)
/-- lists of a join, as they are met -/
def jnG (V : Int) (F G : List (List Int)) (i k : Nat) : List (List Int) := jnL V (F.take i) G ++ (G.take k).map fun b => gl F (i : Int) ++ b.map (V + ·)
theorem jnG_zero (V : Int) (F G : List (List Int)) (i : Nat) : jnG V F G i 0 = jnL V (F.take i) G := by simp [jnG]
theorem jnG_all {V : Int} {F G : List (List Int)} {i : Nat} (h : i < F.length) : jnG V F G i G.length = jnG V F G (i + 1) 0 := by
 rw [jnG_zero]
 unfold jnG jnL
 rw [List.take_length, take_succ_gl h, List.flatMap_append]
 simp
theorem jnG_succ {V : Int} {F G : List (List Int)} {i k : Nat} (h : k < G.length) : jnG V F G i (k + 1) = jnG V F G i k ++ [gl F (i : Int) ++ (gl G (k : Int)).map (V + ·)] := by
 unfold jnG
 rw [take_succ_gl h, List.map_append, List.append_assoc]; rfl
theorem jnG_end (V : Int) (F G : List (List Int)) : jnG V F G F.length 0 = jnL V F G := by rw [jnG_zero, List.take_length]
theorem jnL_len (V : Int) (F G : List (List Int)) : (jnL V F G).length = F.length * G.length := len_prod F G _
theorem jnG_len {V : Int} {F G : List (List Int)} {i k : Nat} (hi : i < F.length) (hk : k ≤ G.length) : (jnG V F G i k).length ≤ F.length * G.length := by
 unfold jnG
 rw [List.length_append, jnL_len, List.length_map, List.length_take, List.length_take, Nat.min_eq_left (by omega), Nat.min_eq_left hk]
 have h1 : (i + 1) * G.length ≤ F.length * G.length := Nat.mul_le_mul_right _ (by omega)
 rw [Nat.add_mul, Nat.one_mul] at h1
 omega
theorem jn_small {F G : List (List Int)} (hF : F ≠ []) (hG : G ≠ []) (h : ¬ JnBig F G) : F.length * G.length ≤ 400 := Nat.le_of_not_lt fun h' => h ⟨hF, hG, h'⟩
theorem Cplx.jn {V W : Int} {F G : List (List Int)} (hF : Cplx V F) (hG : Cplx W G) (h : ¬ JnBig F G) : (jnS V F G).length ≤ 800 ∧ (∀ l ∈ jnS V F G, SA l ∧ l.length ≤ 12) ∧ (jnS V F G).flatten.length ≤ 9600 := by
 have h2 : ∀ l ∈ jnS V F G, SA l ∧ l.length ≤ 12 := fun l hl => by
  refine ⟨jnS_sa hF hG l hl, ?_⟩
  unfold jnS at hl
  split at hl
  ·rcases List.mem_append.1 hl with h | h
   ·have := (hF.row l h).1; omega
   ·have := (hG.row l h).1; omega
  ·obtain ⟨a, ha, b, hb, rfl⟩ := jnL_mem.1 hl
   have := (hF.row a ha).1
   have := (hG.row b hb).1
   rw [List.length_append, List.length_map]; omega
 have h1 : (jnS V F G).length ≤ 800 := by
  have := hF.f
  have := hG.f
  unfold jnS
  split
  ·rw [List.length_append]; omega
  ·rename_i h3
   rw [jnL_len]
   have := jn_small (fun e => h3 (.inl e)) (fun e => h3 (.inr e)) h
   omega
 refine ⟨h1, h2, ?_⟩
 have := flat_le2 (b := 12) fun l hl => (h2 l hl).2
 omega

set_option maxHeartbeats 1000000 in
theorem joined_c (V : Int) (A : Option Addr) (n c : Nat) (rs : List SlV) (F : List (List Int)) (W : Int) (B : Option Addr) (m d : Nat) (ts : List SlV) (G : List (List Int)) (w : World) (hT : Tab w) (hR : RowsI w A n rs F) (hQ : RowsI w B m ts G) (hF : Cplx V F) (hG : Cplx W G) :
    Ret Tryz.prog 104 [.agg #[.int .i64 V, .slice A n c], .agg #[.int .i64 W, .slice B m d]] w (AnsC (jnV V F G) (jnLs V F G) (jnK V F G) w) := by
  have hFl := hR.len
  have hGl := hQ.len
  have hn4 := hF.f
  have hm4 := hG.f
  have hV := hF.v
  refine Ret.of_cd Tryz.func104 rfl Tryz.ntmps104 rfl (postc2 rfl rfl) ?_
  refine Cd.seq ?_
  refine Cd.region ?_
  refine Ops.box2 (St.refl w) rfl rfl ?_
  intro A2 w1 hS1
  refine Ops.box2 hS1 rfl rfl ?_
  intro A3 w2 hS2
  refine Ops.new2 hS2 rfl ?_
  intro A4 w3 hS3
  have hS3 : St w w3 [cxZ A4, cxB A3 W B m d, cxB A2 V A n c] := hS3
  clear hS1 hS2
  refine Ops.mv_int rfl rfl rfl ?_
  refine Ops.nil ?_
  refine thenQ_n ?_
  refine Cd.seq ?_
  refine Cd.seq ?_
  refine Cd.region ?_
  refine Ops.fld (hS3.rd 2 rfl) rfl rfl rfl rfl inferInstance ?_
  refine Ops.ldf_s (hS3.rd 2 rfl) rfl rfl rfl rfl rfl ?_
  refine Ops.len rfl rfl ?_
  refine Ops.eql rfl rfl rfl ?_
  refine Ops.nil ?_
  refine thenQ_n ?_
  refine Cd.cond_p _ rfl (fun h1 => ?_) (fun h1 => ?_)
  · have hF0 : F = [] := List.eq_nil_of_length_eq_zero (by omega)
    have hbig : ¬ JnBig F G := fun h => h.1 hF0
    obtain ⟨hL1, hL2, hL3⟩ := hF.jn hG hbig
    have hjs : jnS V F G = G := by unfold jnS; rw [if_pos (.inl hF0), hF0]; rfl
    rw [hjs] at hL1 hL2 hL3
    unfold jnV jnLs jnK
    rw [if_neg hbig, if_neg hbig, if_neg hbig, hjs]
    refine Cd.region ?_
    refine Ops.ld_agg 1 (hS3.rd 1 rfl) rfl rfl rfl ?_
    refine Ops.ld_agg 1 (hS3.rd 2 rfl) rfl rfl rfl ?_
    refine Ops.st_agg 2 2 hS3 rfl rfl rfl rfl rfl rfl rfl ?_
    intro w4 hS4
    refine Ops.st_agg 2 1 hS4 rfl rfl rfl rfl rfl rfl rfl ?_
    intro w5 hS5
    have hS4 : St w w5 [cxZ A4, cxB A3 V A n c, cxB A2 W B m d] := hS5
    clear hS5 hS3
    refine Ops.nil ?_
    refine thenQ_n ?_
    refine Cd.seq ?_
    refine Cd.region ?_
    refine Ops.fld (hS4.rd 2 rfl) rfl rfl rfl rfl inferInstance ?_
    refine Ops.ldf_s (hS4.rd 2 rfl) rfl rfl rfl rfl rfl ?_
    refine Ops.mv_sl rfl rfl rfl ?_
    refine Ops.nil ?_
    refine thenQ_n ?_
    refine Cd.seq ?_
    refine Cd.seq ?_
    refine Cd.region ?_
    refine Ops.fld (hS4.rd 1 rfl) rfl rfl rfl rfl inferInstance ?_
    refine Ops.ldf_s (hS4.rd 1 rfl) rfl rfl rfl rfl rfl ?_
    refine Ops.len rfl rfl ?_
    refine Ops.gtr rfl rfl rfl ?_
    refine Ops.nil ?_
    refine thenQ_n ?_
    refine Cd.cond_pf rfl (by omega) ?_
    have hC := complexOf_c B m d ts G w5 (hT.later hS4.below) (hS4.oldRows hQ) (by omega) (fun l hl => by have := (hL2 l hl).2; omega)
    rw [map_cs_id fun l hl => (hL2 l hl).1] at hC
    refine Cd.skip ?_
    refine thenQ_n ?_
    refine Cd.seq ?_
    refine Cd.region ?_
    refine Ops.mv_sl rfl rfl rfl ?_
    refine Ops.call hC rfl rfl rfl ?_
    rintro _ w6 ⟨A9, c9, rs9, rfl, hrl9, hst6⟩
    have hS6 := hS4.call2 hst6
    refine Ops.extract rfl rfl rfl ?_
    refine Ops.extract rfl rfl rfl ?_
    refine Ops.st_agg 2 0 hS6 rfl rfl rfl rfl rfl rfl rfl ?_
    intro w7 hS7
    refine Ops.mv_int rfl rfl rfl ?_
    refine Ops.nil ?_
    refine thenQ_n ?_
    refine Cd.ret ?_
    skip
    refine retc2_r rfl (hS7.rd 0 rfl) rfl ?_
    exact ⟨A9, c9, rs9, rfl, hrl9, hS7.sub (List.Sublist.cons _ (List.Sublist.cons _ (List.sublist_cons_self _ _)))⟩
  · have hF0 : F ≠ [] := fun e => h1 (by rw [e] at hFl; simp at hFl; omega)
    refine Cd.skip ?_
    refine thenQ_n ?_
    refine Cd.seq ?_
    refine Cd.region ?_
    refine Ops.fld (hS3.rd 2 rfl) rfl rfl rfl rfl inferInstance ?_
    refine Ops.ldf_s (hS3.rd 2 rfl) rfl rfl rfl rfl rfl ?_
    refine Ops.mv_sl rfl rfl rfl ?_
    refine Ops.nil ?_
    refine thenQ_n ?_
    refine Cd.seq ?_
    refine Cd.seq ?_
    refine Cd.region ?_
    refine Ops.fld (hS3.rd 1 rfl) rfl rfl rfl rfl inferInstance ?_
    refine Ops.ldf_s (hS3.rd 1 rfl) rfl rfl rfl rfl rfl ?_
    refine Ops.len rfl rfl ?_
    refine Ops.gtr rfl rfl rfl ?_
    refine Ops.nil ?_
    refine thenQ_n ?_
    refine Cd.cond_p _ rfl (fun h2 => ?_) (fun h2 => ?_)
    · have hG0 : G ≠ [] := fun e => by rw [e] at hGl; simp at hGl; omega
      have hnm : (n : Int) * m = ((n * m : Nat) : Int) := (Int.natCast_mul _ _).symm
      have hnm2 : n * m ≤ 400 * 400 := Nat.mul_le_mul (by omega) (by omega)
      refine Cd.seq ?_
      refine Cd.seq ?_
      refine Cd.region ?_
      refine Ops.fld (hS3.rd 2 rfl) rfl rfl rfl rfl inferInstance ?_
      refine Ops.ldf_s (hS3.rd 2 rfl) rfl rfl rfl rfl rfl ?_
      refine Ops.len rfl rfl ?_
      refine Ops.fld (hS3.rd 1 rfl) rfl rfl rfl rfl inferInstance ?_
      refine Ops.ldf_s (hS3.rd 1 rfl) rfl rfl rfl rfl rfl ?_
      refine Ops.len rfl rfl ?_
      refine Ops.mul rfl rfl rfl (by omega) ?_
      rw [hnm]
      refine Ops.gtr rfl rfl rfl ?_
      refine Ops.nil ?_
      refine thenQ_n ?_
      refine Cd.cond_p _ rfl (fun h3 => ?_) (fun h3 => ?_)
      · have hbig : JnBig F G := ⟨hF0, hG0, by rw [hFl, hGl]; omega⟩
        unfold jnV jnLs jnK
        rw [if_pos hbig, if_pos hbig, if_pos hbig]
        refine Cd.seq ?_
        refine Cd.region ?_
        refine Ops.bldZ2 (by exact inferInstance) (by exact inferInstance) rfl rfl rfl ?_
        refine Ops.st_agg 2 0 hS3 rfl rfl rfl rfl rfl rfl rfl ?_
        intro w9 hS9
        refine Ops.mv_int rfl rfl rfl ?_
        refine Ops.nil ?_
        refine thenQ_n ?_
        refine Cd.ret ?_
        refine thenQ_r ?_
        refine thenQ_r ?_
        skip
        refine retc2_r rfl (hS9.rd 0 rfl) rfl ?_
        exact AnsC.none hS9
      · have hbig : ¬ JnBig F G := fun h => h3 (by have := h.2.2; rw [hFl, hGl] at this; omega)
        obtain ⟨hL1, hL2, hL3⟩ := hF.jn hG hbig
        have hjs : jnS V F G = jnL V F G := by unfold jnS; rw [if_neg (by simp [hF0, hG0])]
        rw [hjs] at hL1 hL2 hL3
        unfold jnV jnLs jnK
        rw [if_neg hbig, if_neg hbig, if_neg hbig, hjs]
        have hFG : F.length * G.length ≤ 400 := jn_small hF0 hG0 hbig
        refine Cd.skip ?_
        refine thenQ_n ?_
        refine Cd.seq ?_
        refine Cd.region ?_
        refine Ops.mv_sl rfl rfl rfl ?_
        refine Ops.nil ?_
        refine thenQ_n ?_
        refine Cd.seq ?_
        refine Cd.region ?_
        refine Ops.fld (hS3.rd 2 rfl) rfl rfl rfl rfl inferInstance ?_
        refine Ops.ldf_s (hS3.rd 2 rfl) rfl rfl rfl rfl rfl ?_
        refine Ops.len rfl rfl ?_
        refine Ops.mv_int rfl rfl rfl ?_
        refine Ops.nil ?_
        refine thenQ_n ?_
        refine Cd.block ?_
        have hS5 : St w w3 ([cxZ A4, cxB A3 W B m d, cxB A2 V A n c, CkR 25 none (jnG V F G 0 0).length 0 []] ++ rowsCk 2 [] (jnG V F G 0 0)) := by
          rw [jnG_zero]
          exact (hS3.nil 25).perm (List.perm_append_comm (l₁ := [CkR 25 none 0 0 []]) (l₂ := [_, _, _]))
        have hlen00 : (jnG V F G 0 0).length = 0 := by rw [jnG_zero]; rfl
        refine Cd.loop (α := Nat × (Option Addr × Nat) × List SlV) (fun z => [(2, .pointer A2), (3, .pointer A3), (4, .pointer A4), (6, .slice z.2.1.1 (jnG V F G z.1 0).length z.2.1.2), (36, .slice A n c), (37, .int .i64 (n : Int)), (38, .int .i64 (z.1 : Int))])
          (fun z w' => z.1 ≤ n ∧ z.2.2.length = (jnG V F G z.1 0).length ∧ St w w' ([cxZ A4, cxB A3 W B m d, cxB A2 V A n c, CkR 25 z.2.1.1 (jnG V F G z.1 0).length z.2.1.2 z.2.2] ++ rowsCk 2 z.2.2 (jnG V F G z.1 0))) (fun z => n - z.1) (0, (none, 0), []) ⟨rfl, rfl, rfl, by show Value.slice none 0 0 = .slice none (jnG V F G 0 0).length 0; rw [hlen00], rfl, rfl, rfl, trivial⟩ ⟨Nat.zero_le _, by show 0 = _; rw [hlen00], hS5⟩ ?_
        clear hS5 hS3
        rintro ⟨i, ⟨A6, c6⟩, rs6⟩ e w4 ⟨hi, hrl6, hS4⟩
        dsimp only at hi hrl6 hS4 ⊢
        refine Cd.seq ?_
        refine Cd.region ?_
        refine Ops.lss rfl rfl rfl ?_
        refine Ops.nil ?_
        refine thenQ_n ?_
        refine Cd.seq ?_
        refine Cd.cond_p _ rfl (fun h4 => ?_) (fun h4 => ?_)
        · have hiF : i < F.length := by omega
          have hM := hS4.oldRows hR
          have hrowA := hR.at_ (i := (i : Int)) (by omega) (by omega)
          have hrlA := hrowA.1
          have hfA := (hF.at_ hiF).1
          refine Cd.skip ?_
          refine thenQ_n ?_
          refine Cd.seq ?_
          refine Cd.block ?_
          refine Cd.seq ?_
          refine Cd.region ?_
          refine Ops.idx hM.top.2 rfl rfl rfl (by omega) (by omega) ?_
          refine Ops.ld_sl hM.top rfl (by omega) rfl rfl ?_
          refine Ops.mv_sl rfl rfl rfl ?_
          refine Ops.nil ?_
          refine thenQ_n ?_
          refine Cd.seq ?_
          refine Cd.region ?_
          refine Ops.fld (hS4.rd 1 rfl) rfl rfl rfl rfl inferInstance ?_
          refine Ops.ldf_s (hS4.rd 1 rfl) rfl rfl rfl rfl rfl ?_
          refine Ops.len rfl rfl ?_
          refine Ops.mv_int rfl rfl rfl ?_
          refine Ops.nil ?_
          refine thenQ_n ?_
          refine Cd.block ?_
          refine Cd.loop (α := Nat × (Option Addr × Nat) × List SlV) (fun z => [(2, .pointer A2), (3, .pointer A3), (4, .pointer A4), (6, .slice z.2.1.1 (jnG V F G i z.1).length z.2.1.2), (8, .slice (rg rs (i : Int)).a (rg rs (i : Int)).n (rg rs (i : Int)).c), (36, .slice A n c), (37, .int .i64 (n : Int)), (38, .int .i64 (i : Int)), (43, .slice B m d), (44, .int .i64 (m : Int)), (45, .int .i64 (z.1 : Int))])
            (fun z w' => z.1 ≤ m ∧ z.2.2.length = (jnG V F G i z.1).length ∧ St w w' ([cxZ A4, cxB A3 W B m d, cxB A2 V A n c, CkR 25 z.2.1.1 (jnG V F G i z.1).length z.2.1.2 z.2.2] ++ rowsCk 2 z.2.2 (jnG V F G i z.1))) (fun z => m - z.1) (0, (A6, c6), rs6) ⟨rfl, rfl, rfl, rfl, rfl, rfl, rfl, rfl, rfl, rfl, rfl, trivial⟩ ⟨Nat.zero_le _, hrl6, hS4⟩ ?_
          clear hS4 hrl6 hM
          rintro ⟨k, ⟨A6, c6⟩, rs6⟩ e w4 ⟨hk, hrl6, hS4⟩
          dsimp only at hk hrl6 hS4 ⊢
          have hll := jnG_len (V := V) hiF (show k ≤ G.length by omega)
          refine Cd.seq ?_
          refine Cd.region ?_
          refine Ops.lss rfl rfl rfl ?_
          refine Ops.nil ?_
          refine thenQ_n ?_
          refine Cd.seq ?_
          refine Cd.cond_p _ rfl (fun h5 => ?_) (fun h5 => ?_)
          · have hkG : k < G.length := by omega
            have hM := hS4.oldRows hQ
            have hrowB := hQ.at_ (i := (k : Int)) (by omega) (by omega)
            have hrlB := hrowB.1
            have hfB := hG.at_ hkG
            have hGv := hG.v
            refine Cd.skip ?_
            refine thenQ_n ?_
            refine Cd.seq ?_
            refine Cd.block ?_
            refine Cd.seq ?_
            refine Cd.region ?_
            refine Ops.idx hM.top.2 rfl rfl rfl (by omega) (by omega) ?_
            refine Ops.ld_sl hM.top rfl (by omega) rfl rfl ?_
            refine Ops.mv_sl rfl rfl rfl ?_
            refine Ops.nil ?_
            refine thenQ_n ?_
            refine Cd.seq ?_
            refine Cd.region ?_
            refine Ops.mv_sl rfl rfl rfl ?_
            refine Ops.call (Clone_c _ _ _ (gl F (i : Int)) _ (hS4.oldI hrowA) (by omega)) rfl rfl rfl ?_
            rintro _ w5 ⟨A11, c11, rfl, hT5⟩
            have hS5 : St w w5 (CkI 2 A11 ((rg rs (i : Int)).n + 0) c11 (gl F (i : Int) ++ ((gl G (k : Int)).take 0).map (V + ·)) :: ([cxZ A4, cxB A3 W B m d, cxB A2 V A n c, CkR 25 A6 (jnG V F G i k).length c6 rs6] ++ rowsCk 2 rs6 (jnG V F G i k))) := by
              rw [List.take_zero, List.map_nil, List.append_nil]
              exact hS4.call hT5
            refine Ops.mv_sl rfl rfl rfl ?_
            refine Ops.nil ?_
            refine thenQ_n ?_
            refine Cd.seq ?_
            refine Cd.seq ?_
            refine Cd.region ?_
            refine Ops.mv_sl rfl rfl rfl ?_
            refine Ops.len rfl rfl ?_
            refine Ops.mv_int rfl rfl rfl ?_
            refine Ops.nil ?_
            refine thenQ_n ?_
            refine Cd.block ?_
            refine Cd.loop (α := Nat × Option Addr × Nat) (fun z => [(2, .pointer A2), (3, .pointer A3), (4, .pointer A4), (6, .slice A6 (jnG V F G i k).length c6), (8, .slice (rg rs (i : Int)).a (rg rs (i : Int)).n (rg rs (i : Int)).c), (11, .slice z.2.1 ((rg rs (i : Int)).n + z.1) z.2.2), (36, .slice A n c), (37, .int .i64 (n : Int)), (38, .int .i64 (i : Int)), (43, .slice B m d), (44, .int .i64 (m : Int)), (45, .int .i64 (k : Int)), (51, .slice (rg ts (k : Int)).a (rg ts (k : Int)).n (rg ts (k : Int)).c), (52, .int .i64 ((rg ts (k : Int)).n : Int)), (53, .int .i64 (z.1 : Int))])
              (fun z w' => z.1 ≤ (rg ts (k : Int)).n ∧ St w w' (CkI 2 z.2.1 ((rg rs (i : Int)).n + z.1) z.2.2 (gl F (i : Int) ++ ((gl G (k : Int)).take z.1).map (V + ·)) :: ([cxZ A4, cxB A3 W B m d, cxB A2 V A n c, CkR 25 A6 (jnG V F G i k).length c6 rs6] ++ rowsCk 2 rs6 (jnG V F G i k)))) (fun z => (rg ts (k : Int)).n - z.1) (0, A11, c11) ⟨rfl, rfl, rfl, rfl, rfl, rfl, rfl, rfl, rfl, rfl, rfl, rfl, rfl, rfl, rfl, trivial⟩ ⟨Nat.zero_le _, hS5⟩ ?_
            clear hS5 hT5 hS4 hM
            rintro ⟨j, A11, c11⟩ e w6 ⟨hj, hS6⟩
            dsimp only at hj hS6 ⊢
            refine Cd.seq ?_
            refine Cd.region ?_
            refine Ops.lss rfl rfl rfl ?_
            refine Ops.nil ?_
            refine thenQ_n ?_
            refine Cd.seq ?_
            refine Cd.cond_p _ rfl (fun h6 => ?_) (fun h6 => ?_)
            · have hB6 := hS6.oldI hrowB
              have hgv := hfB.2.2 (gi (gl G (k : Int)) (j : Int)) (by rw [gi_mem (show j < (gl G (k : Int)).length by omega)]; exact List.getElem_mem _)
              refine Cd.skip ?_
              refine thenQ_n ?_
              refine Cd.seq ?_
              refine Cd.block ?_
              refine Cd.seq ?_
              refine Cd.region ?_
              refine Ops.idx hB6.2 rfl rfl rfl (by omega) (by omega) ?_
              refine Ops.ld_int hB6 rfl (by omega) rfl rfl ?_
              refine Ops.mv_int rfl rfl rfl ?_
              refine Ops.nil ?_
              refine thenQ_n ?_
              refine Cd.region ?_
              refine Ops.mv_sl rfl rfl rfl ?_
              refine Ops.fld (hS6.rd 3 rfl) rfl rfl rfl rfl inferInstance ?_
              refine Ops.ldf_i (hS6.rd 3 rfl) rfl rfl rfl rfl rfl ?_
              refine Ops.mv_int rfl rfl rfl ?_
              refine Ops.add rfl rfl rfl (by omega) ?_
              refine Ops.bs1I hS6 rfl rfl rfl ?_
              intro A12 w7 hS7
              refine Ops.appI 1 hS7 rfl (hS7.rdI 0 rfl) rfl rfl rfl (by omega) (by omega) rfl ?_
              intro A13 c13 w8 hS8
              have hS8 := hS8.tail
              have htk : ((gl G (k : Int)).take (j + 1)).map (V + ·) = ((gl G (k : Int)).take j).map (V + ·) ++ [V + gi (gl G (k : Int)) (j : Int)] := by rw [take_succ_gi (by omega), List.map_append]; rfl
              refine Ops.mv_sl rfl rfl rfl ?_
              refine Ops.nil ?_
              refine blockQ_n ?_
              refine thenQ_n ?_
              refine Cd.region ?_
              refine Ops.add rfl rfl rfl (by omega) ?_
              refine Ops.mv_int rfl rfl rfl ?_
              refine Ops.nil ?_
              refine thenQ_n ?_
              refine ⟨(j + 1, A13, c13), by show (rg ts (k : Int)).n - (j + 1) < (rg ts (k : Int)).n - j; omega, ⟨rfl, rfl, rfl, rfl, rfl, rfl, rfl, rfl, rfl, rfl, rfl, rfl, rfl, rfl, rfl, trivial⟩, by show j + 1 ≤ _; omega, ?_⟩
              show St w w8 (CkI 2 A13 ((rg rs (i : Int)).n + (j + 1)) c13 (gl F (i : Int) ++ ((gl G (k : Int)).take (j + 1)).map (V + ·)) :: _)
              rw [htk, ← List.append_assoc, ← Nat.add_assoc]
              exact hS8
            · rw [List.take_of_length_le (by omega)] at hS6
              have hjn : j = (gl G (k : Int)).length := by omega
              have hl : (rg rs (i : Int)).n + j = (gl F (i : Int) ++ (gl G (k : Int)).map (V + ·)).length := by rw [List.length_append, List.length_map]; omega
              rw [hl] at hS6 ⊢
              have hsucc := jnG_succ (V := V) (F := F) (i := i) hkG
              have hl1 : (jnG V F G i (k + 1)).length = (jnG V F G i k).length + 1 := by rw [hsucc, List.length_append]; rfl
              generalize hrow : gl F (i : Int) ++ (gl G (k : Int)).map (V + ·) = row at *
              refine Cd.exit ?_
              refine thenQ_x ?_
              refine thenQ_x ?_
              refine blockQ_x ?_
              refine thenQ_n ?_
              refine Cd.region ?_
              refine Ops.mv_sl rfl rfl rfl ?_
              refine Ops.mv_sl rfl rfl rfl ?_
              refine Ops.bs1R hS6 rfl rfl rfl ?_
              intro A14 w7 hS7
              refine Ops.appR 5 hS7 rfl (hS7.rdR 0 rfl) rfl rfl rfl (by omega) (by omega) rfl ?_
              intro A15 c15 w8 hS8
              have hS8 : St w w8 (CkI 2 A11 row.length c11 row :: ([cxZ A4, cxB A3 W B m d, cxB A2 V A n c, CkR 25 A15 ((jnG V F G i k).length + 1) c15 (rs6 ++ [⟨A11, row.length, c11⟩])] ++ rowsCk 2 rs6 (jnG V F G i k))) := hS8.tail
              refine Ops.mv_sl rfl rfl rfl ?_
              refine Ops.nil ?_
              refine blockQ_n ?_
              refine thenQ_n ?_
              refine Cd.region ?_
              refine Ops.add rfl rfl rfl (by omega) ?_
              refine Ops.mv_int rfl rfl rfl ?_
              refine Ops.nil ?_
              refine thenQ_n ?_
              refine ⟨(k + 1, (A15, c15), rs6 ++ [⟨A11, row.length, c11⟩]), by show m - (k + 1) < m - k; omega, ⟨rfl, rfl, rfl, by show Value.slice A15 ((jnG V F G i k).length + 1) c15 = .slice A15 (jnG V F G i (k + 1)).length c15; rw [hl1], rfl, rfl, rfl, rfl, rfl, rfl, rfl, trivial⟩, by show k + 1 ≤ m; omega, by show (rs6 ++ [_]).length = _; rw [hl1, List.length_append, hrl6]; rfl, ?_⟩
              show St w w8 ([cxZ A4, cxB A3 W B m d, cxB A2 V A n c, CkR 25 A15 (jnG V F G i (k + 1)).length c15 (rs6 ++ [⟨A11, row.length, c11⟩])] ++ rowsCk 2 (rs6 ++ [⟨A11, row.length, c11⟩]) (jnG V F G i (k + 1)))
              rw [hl1, hsucc, rowsCk_append hrl6, ← List.append_assoc]
              exact hS8.perm (List.perm_append_comm (l₁ := [CkI 2 A11 row.length c11 row]))
          · have hkm : k = G.length := by omega
            rw [hkm, jnG_all hiF] at hrl6 hS4 ⊢
            refine Cd.exit ?_
            refine thenQ_x ?_
            refine thenQ_x ?_
            refine blockQ_x ?_
            refine blockQ_n ?_
            refine thenQ_n ?_
            refine Cd.region ?_
            refine Ops.add rfl rfl rfl (by omega) ?_
            refine Ops.mv_int rfl rfl rfl ?_
            refine Ops.nil ?_
            refine thenQ_n ?_
            exact ⟨(i + 1, (A6, c6), rs6), by show n - (i + 1) < n - i; omega, ⟨rfl, rfl, rfl, rfl, rfl, rfl, rfl, trivial⟩, by show i + 1 ≤ n; omega, hrl6, hS4⟩
        · have hin : i = F.length := by omega
          rw [hin, jnG_end] at hrl6 hS4 ⊢
          have hM : St w w4 (mat 25 2 A6 (jnL V F G).length c6 rs6 (jnL V F G)) := hS4.tail.tail.tail
          have hC := complexOf_c A6 _ c6 rs6 (jnL V F G) w4 (hT.later hS4.below) (St.rowsI (ks := []) (by rwa [List.append_nil]) rfl) (by omega) (fun l hl => by have := (hL2 l hl).2; omega)
          rw [map_cs_id fun l hl => (hL2 l hl).1] at hC
          have hS4 : St w w4 [cxZ A4, cxB A3 W B m d, cxB A2 V A n c] := hS4.sub (List.Sublist.cons_cons _ (List.Sublist.cons_cons _ (List.Sublist.cons_cons _ (List.nil_sublist _))))
          refine Cd.exit ?_
          refine thenQ_x ?_
          refine thenQ_x ?_
          refine blockQ_x ?_
          refine thenQ_n ?_
          refine Cd.seq ?_
          refine Cd.region ?_
          refine Ops.mv_sl rfl rfl rfl ?_
          refine Ops.call hC rfl rfl rfl ?_
          rintro _ w6 ⟨A9, c9, rs9, rfl, hrl9, hst6⟩
          have hS6 := hS4.call2 hst6
          refine Ops.extract rfl rfl rfl ?_
          refine Ops.extract rfl rfl rfl ?_
          refine Ops.st_agg 2 0 hS6 rfl rfl rfl rfl rfl rfl rfl ?_
          intro w7 hS7
          refine Ops.mv_int rfl rfl rfl ?_
          refine Ops.nil ?_
          refine thenQ_n ?_
          refine Cd.ret ?_
          skip
          refine retc2_r rfl (hS7.rd 0 rfl) rfl ?_
          exact ⟨A9, c9, rs9, rfl, hrl9, hS7.sub (List.Sublist.cons _ (List.Sublist.cons _ (List.sublist_cons_self _ _)))⟩
    · have hG0 : G = [] := List.eq_nil_of_length_eq_zero (by omega)
      have hbig : ¬ JnBig F G := fun h => h.2.1 hG0
      obtain ⟨hL1, hL2, hL3⟩ := hF.jn hG hbig
      have hjs : jnS V F G = F := by unfold jnS; rw [if_pos (.inr hG0), hG0, List.append_nil]
      rw [hjs] at hL1 hL2 hL3
      unfold jnV jnLs jnK
      rw [if_neg hbig, if_neg hbig, if_neg hbig, hjs]
      have hC := complexOf_c A n c rs F w3 (hT.later hS3.below) (hS3.oldRows hR) (by omega) (fun l hl => by have := (hL2 l hl).2; omega)
      rw [map_cs_id fun l hl => (hL2 l hl).1] at hC
      have hS4 := hS3
      refine Cd.skip ?_
      refine thenQ_n ?_
      refine Cd.seq ?_
      refine Cd.region ?_
      refine Ops.mv_sl rfl rfl rfl ?_
      refine Ops.call hC rfl rfl rfl ?_
      rintro _ w6 ⟨A9, c9, rs9, rfl, hrl9, hst6⟩
      have hS6 := hS4.call2 hst6
      refine Ops.extract rfl rfl rfl ?_
      refine Ops.extract rfl rfl rfl ?_
      refine Ops.st_agg 2 0 hS6 rfl rfl rfl rfl rfl rfl rfl ?_
      intro w7 hS7
      refine Ops.mv_int rfl rfl rfl ?_
      refine Ops.nil ?_
      refine thenQ_n ?_
      refine Cd.ret ?_
      skip
      refine retc2_r rfl (hS7.rd 0 rfl) rfl ?_
      exact ⟨A9, c9, rs9, rfl, hrl9, hS7.sub (List.Sublist.cons _ (List.Sublist.cons _ (List.sublist_cons_self _ _)))⟩
end Go.Proofs.YtdedegbendjmbaaGreatDoor.Vc
/-
 Joins of complexes, walked in the reference; and joins on both sides. Conditions: as each states them.
-/
namespace Go.Proofs.YtdedegbendjmbaaGreatDoor.Vc
open Go.RowKit

theorem mat_two {t1 t2 : TypeId} {A B : Option Addr} {n c m d : Nat} {rs ts : List SlV} {F G : List (List Int)} : (mat t1 t2 B m d ts G ++ (mat t1 t2 A n c rs F ++ [])).Perm (CkR t1 A n c rs :: CkR t1 B m d ts :: (rowsCk t2 rs F ++ rowsCk t2 ts G)) := by
 rw [List.append_nil]
 refine List.perm_append_comm.trans ?_
 exact List.Perm.cons _ List.perm_middle
theorem two_eq {a b c d : Value} (h : a = c) (h' : b = d) : [a, b] = [c, d] := by rw [h, h']
theorem rowLen {w : World} {A : Option Addr} {n : Nat} {rs : List SlV} {F : List (List Int)} (hR : RowsI w A n rs F) {b : Nat} (h : ∀ f ∈ F, f.length ≤ b) : ∀ i, i < n → (rs.getD i slNil).n ≤ b := fun i hi => by
 have h1 := (hR.row i hi).1
 have h2 : F.getD i [] ∈ F := by
  have := hR.len
  rw [List.getD_eq_getElem?_getD, List.getElem?_eq_getElem (show i < F.length by omega)]; exact List.getElem_mem _
 have := h _ h2
 omega

set_option maxHeartbeats 1000000 in
theorem l17Join_c (V : Int) (A : Option Addr) (n c : Nat) (rs : List SlV) (F : List (List Int)) (W : Int) (B : Option Addr) (m d : Nat) (ts : List SlV) (G : List (List Int)) (w : World) (hR : RowsI w A n rs F) (hQ : RowsI w B m ts G) (hF : Cplx V F) (hG : Cplx W G) :
    Ret Tryz.prog 105 [.agg #[.int .i64 V, .slice A n c], .agg #[.int .i64 W, .slice B m d]] w (AnsC (jnV V F G) (jnLs V F G) (jnK V F G) w) := by
  have hFl := hR.len
  have hGl := hQ.len
  have hn4 := hF.f
  have hm4 := hG.f
  have hV := hF.v
  have hra := rowLen hR (b := 1000000000) fun f hf => by have := (hF.row f hf).1; omega
  have hrb := rowLen hQ (b := 1000000000) fun f hf => by have := (hG.row f hf).1; omega
  refine Ret.of_cd Tryz.func105 rfl Tryz.ntmps105 rfl (postc2 rfl rfl) ?_
  refine Cd.seq ?_
  refine Cd.region ?_
  refine Ops.box2 (St.refl w) rfl rfl ?_
  intro A2 w1 hS1
  refine Ops.box2 hS1 rfl rfl ?_
  intro A3 w2 hS2
  refine Ops.new2 hS2 rfl ?_
  intro A4 w3 hS3
  have hS3 : St w w3 [cxZ A4, cxB A3 W B m d, cxB A2 V A n c] := hS3
  clear hS1 hS2
  refine Ops.mv_int rfl rfl rfl ?_
  refine Ops.nil ?_
  refine thenQ_n ?_
  refine Cd.seq ?_
  refine Cd.seq ?_
  refine Cd.region ?_
  refine Ops.fld (hS3.rd 2 rfl) rfl rfl rfl rfl inferInstance ?_
  refine Ops.ldf_s (hS3.rd 2 rfl) rfl rfl rfl rfl rfl ?_
  refine Ops.len rfl rfl ?_
  refine Ops.eql rfl rfl rfl ?_
  refine Ops.mv_bool rfl rfl rfl ?_
  refine Ops.split_p 15 rfl (fun h1 => ?_) (fun h1 => ?_)
  · have hF0 : F = [] := List.eq_nil_of_length_eq_zero (by omega)
    have hbig : ¬ JnBig F G := fun h => h.1 hF0
    obtain ⟨hL1, hL2, hL3⟩ := hF.jn hG hbig
    have hjs : jnS V F G = F ++ G := by unfold jnS; rw [if_pos (.inl hF0)]
    rw [hjs] at hL1 hL2 hL3
    unfold jnV jnLs jnK
    rw [if_neg hbig, if_neg hbig, if_neg hbig, hjs]
    refine Ops.skipg rfl rfl rfl rfl rfl ?_
    refine Ops.skipg rfl rfl rfl rfl rfl ?_
    refine Ops.skipg rfl rfl rfl rfl rfl ?_
    refine Ops.skipg rfl rfl rfl rfl rfl ?_
    refine Ops.pick_t rfl rfl rfl ?_
    refine Ops.nil ?_
    refine thenQ_n ?_
    refine Cd.cond_t rfl ?_
    refine Cd.seq ?_
    refine Cd.drawP [6, 10] [.ex (.pointer (ptrAt (A2) 1)), .ex (.slice (A) (n) (c)), .pr (fun v w' => ∃ A1 c1 rs1, v = .slice A1 n c1 ∧ rs1.length = n ∧ St w3 w' (mat 25 2 A1 n c1 rs1 F ++ [])), .ex (.pointer (ptrAt (A3) 1)), .ex (.slice (B) (m) (d)), .p2 2 (fun a v w' => ∃ A1 c1 rs1 A5 c5 rs5, a = .slice A1 n c1 ∧ v = .slice A5 m c5 ∧ rs1.length = n ∧ rs5.length = m ∧ St w3 w' (mat 25 2 A5 m c5 rs5 G ++ (mat 25 2 A1 n c1 rs1 F ++ []))), .pr (fun v w' => ∃ A7 c7 rs7, v = .slice A7 (n + m) c7 ∧ rs7.length = n + m ∧ St w3 w' (mat 25 2 A7 (n + m) c7 rs7 (F ++ G) ++ [])), .pr (fun v w' => ∃ A8 c8 rs8, v = .tuple #[.agg #[.int .i64 (cxV (F ++ G)), .slice A8 (cxL (F ++ G)).length c8], .int .i64 (cxK (F ++ G))] ∧ rs8.length = (cxL (F ++ G)).length ∧ St w3 w' (mat 25 2 A8 (cxL (F ++ G)).length c8 rs8 (cxL (F ++ G)) ++ [])), .pr (fun v w' => ∃ A8 c8 rs8, v = .agg #[.int .i64 (cxV (F ++ G)), .slice A8 (cxL (F ++ G)).length c8] ∧ rs8.length = (cxL (F ++ G)).length ∧ St w3 w' (mat 25 2 A8 (cxL (F ++ G)).length c8 rs8 (cxL (F ++ G)) ++ [])), .ex (.int .i64 (cxK (F ++ G))), .pr (fun _ w' => ∃ A8 c8 rs8, rs8.length = (cxL (F ++ G)).length ∧ St w w' ([cxB A4 (cxV (F ++ G)) A8 (cxL (F ++ G)).length c8, cxB A3 W B m d, cxB A2 V A n c] ++ (mat 25 2 A8 (cxL (F ++ G)).length c8 rs8 (cxL (F ++ G)) ++ []))), .ex (.int .i64 (cxK (F ++ G)))] (by kernel_rfl) (by kernel_rfl) (List.forall_mem_cons.2 ⟨Ye.lasts_ex _, (List.forall_mem_cons.2 ⟨Ye.lasts_ex _, (List.forall_mem_cons.2 ⟨Ye.lasts_pr (fun v w w' h hb => by obtain ⟨A1, c1, rs1, hv, hl, hT⟩ := h; exact ⟨A1, c1, rs1, hv, hl, hT.later hb⟩), (List.forall_mem_cons.2 ⟨Ye.lasts_ex _, (List.forall_mem_cons.2 ⟨Ye.lasts_ex _, (List.forall_mem_cons.2 ⟨Ye.lasts_p2 (fun a v w w' h hb => by obtain ⟨A1, c1, rs1, A5, c5, rs5, h1, h2, h3, h4, hT⟩ := h; exact ⟨A1, c1, rs1, A5, c5, rs5, h1, h2, h3, h4, hT.later hb⟩), (List.forall_mem_cons.2 ⟨Ye.lasts_pr (fun v w w' h hb => by obtain ⟨A1, c1, rs1, hv, hl, hT⟩ := h; exact ⟨A1, c1, rs1, hv, hl, hT.later hb⟩), (List.forall_mem_cons.2 ⟨Ye.lasts_pr (fun v w w' h hb => by obtain ⟨A1, c1, rs1, hv, hl, hT⟩ := h; exact ⟨A1, c1, rs1, hv, hl, hT.later hb⟩), (List.forall_mem_cons.2 ⟨Ye.lasts_pr (fun v w w' h hb => by obtain ⟨A1, c1, rs1, hv, hl, hT⟩ := h; exact ⟨A1, c1, rs1, hv, hl, hT.later hb⟩), (List.forall_mem_cons.2 ⟨Ye.lasts_ex _, (List.forall_mem_cons.2 ⟨Ye.lasts_pr (fun v w w' h hb => by obtain ⟨A1, c1, rs1, hl, hT⟩ := h; exact ⟨A1, c1, rs1, hl, hT.later hb⟩), (List.forall_mem_cons.2 ⟨Ye.lasts_ex _, (fun _ h => by cases h)⟩)⟩)⟩)⟩)⟩)⟩)⟩)⟩)⟩)⟩)⟩)⟩) ⟨?_, ?_, ?_, ?_, ?_, ?_, ?_, ?_, ?_, ?_, ?_, ?_, trivial⟩ ?_
    · intro e1 w1 cc hlo hhi hb0 hp hun hq
      show Ops _ _ _ _ _ _ _
      replace hlo := le_of_lo hlo (b := 0) (by kernel_rfl)
      replace hhi := le_of_hi hhi (b := 0) (by kernel_rfl)
      obtain rfl : cc = 0 := by omega
      have hb := hb0 rfl
      refine Ops.fld ((hS3.rd 2 rfl).below hb) rfl rfl rfl rfl inferInstance ?_
      refine Ops.nil ?_
      exact AfterP.dn rfl (Below.refl _ _) (by exact rfl)
    · intro e1 w1 cc hlo hhi hb0 hp hun hq
      show Ops _ _ _ _ _ _ _
      replace hlo := le_of_lo hlo (b := 0) (by kernel_rfl)
      replace hhi := le_of_hi hhi (b := 0) (by kernel_rfl)
      obtain rfl : cc = 0 := by omega
      have hb := hb0 rfl
      refine Ops.ldf_s ((hS3.rd 2 rfl).below hb) rfl rfl rfl rfl rfl ?_
      refine Ops.nil ?_
      exact AfterP.dn rfl (Below.refl _ _) (by exact rfl)
    · intro e1 w1 cc hlo hhi hb0 hp hun hq
      show Ops _ _ _ _ _ _ _
      replace hlo := le_of_lo hlo (b := 0) (by kernel_rfl)
      replace hhi := le_of_hi hhi (b := 0) (by kernel_rfl)
      obtain rfl : cc = 0 := by omega
      have hb := hb0 rfl
      refine Ops.call (l01Own2_c A n c rs F _ ((hS3.later hb).oldRows hR) (by omega) hra) rfl rfl rfl ?_
      rintro _ w9 ⟨A1, c1, rs1, rfl, hrl, hst⟩
      refine Ops.nil ?_
      exact AfterP.dn rfl hst.below ⟨A1, c1, rs1, rfl, hrl, ((St.refl w3).later hb).call hst⟩
    · intro e1 w1 cc hlo hhi hb0 hp hun hq
      show Ops _ _ _ _ _ _ _
      replace hlo := le_of_lo hlo (b := 0) (by kernel_rfl)
      replace hhi := le_of_hi hhi (b := 0) (by kernel_rfl)
      obtain rfl : cc = 0 := by omega
      have hb := hb0 rfl
      refine Ops.fld ((hS3.rd 1 rfl).below hb) rfl rfl rfl rfl inferInstance ?_
      refine Ops.nil ?_
      exact AfterP.dn rfl (Below.refl _ _) (by exact rfl)
    · intro e1 w1 cc hlo hhi hb0 hp hun hq
      show Ops _ _ _ _ _ _ _
      replace hlo := le_of_lo hlo (b := 0) (by kernel_rfl)
      replace hhi := le_of_hi hhi (b := 0) (by kernel_rfl)
      obtain rfl : cc = 0 := by omega
      have hb := hb0 rfl
      refine Ops.ldf_s ((hS3.rd 1 rfl).below hb) rfl rfl rfl rfl rfl ?_
      refine Ops.nil ?_
      exact AfterP.dn rfl (Below.refl _ _) (by exact rfl)
    · intro e1 w1 cc hlo hhi hb0 hp hun hq
      show Ops _ _ _ _ _ _ _
      replace hlo := le_of_lo hlo (b := 0) (by kernel_rfl)
      replace hhi := le_of_hi hhi (b := 0) (by kernel_rfl)
      obtain rfl : cc = 0 := by omega
      have hb := hb0 rfl
      obtain ⟨A1, c1, rs1, h23, hl1, hT⟩ := (hp 2 _ _ (by kernel_rfl) rfl rfl (by kernel_rfl))
      refine Ops.call (l01Own2_c B m d ts G _ ((hS3.later hb).oldRows hQ) (by omega) hrb) rfl rfl rfl ?_
      rintro _ w9 ⟨A5, c5, rs5, rfl, hrl5, hst⟩
      refine Ops.nil ?_
      exact AfterP.dn rfl hst.below ⟨A1, c1, rs1, A5, c5, rs5, h23, rfl, hl1, hrl5, hT.call hst⟩
    · intro e1 w1 cc hlo hhi hb0 hp hun hq
      show Ops _ _ _ _ _ _ _
      replace hlo := le_of_lo hlo (b := 0) (by kernel_rfl)
      replace hhi := le_of_hi hhi (b := 0) (by kernel_rfl)
      obtain rfl : cc = 0 := by omega
      have hb := hb0 rfl
      obtain ⟨A1, c1, rs1, A5, c5, rs5, h23, h26, hl1, hl5, hT⟩ := (hp 5 _ _ (by kernel_rfl) rfl rfl (by kernel_rfl))
      refine Ops.call (l17Append_c 0 1 (hT.perm mat_two) (by decide) rfl rfl (by omega) (by omega)) rfl (by exact two_eq h23 h26) rfl ?_
      rintro _ w9 ⟨A7, c7, rfl, hst⟩
      refine Ops.nil ?_
      exact AfterU.dn rfl ⟨A7, c7, rs1 ++ rs5, rfl, by rw [List.length_append, hl1, hl5], by unfold mat; rw [rowsCk_append (by omega), List.append_nil]; exact St.sub hst (List.Sublist.cons_cons _ (List.sublist_cons_self _ _))⟩
    · intro e1 w1 cc hlo hhi hb0 hp hun hq
      show Ops _ _ _ _ _ _ _
      replace hlo := le_of_lo hlo (b := 1) (by kernel_rfl)
      replace hhi := le_of_hi hhi (b := 1) (by kernel_rfl)
      obtain rfl : cc = 1 := by omega
      have hph := hp 6 _ _ (by kernel_rfl) rfl rfl (by kernel_rfl)
      obtain ⟨A7, c7, rs7, h27, hl7, hT⟩ := (hp 6 _ _ (by kernel_rfl) rfl rfl (by kernel_rfl))
      refine Ops.call (l17Make_c A7 _ c7 rs7 (F ++ G) _ (St.rowsI hT (by rw [List.length_append, hFl, hGl])) (by omega) (by omega) (fun l hl => (hL2 l hl).1)) rfl (by exact congrArg (fun v => [v]) h27) rfl ?_
      rintro _ w9 ⟨A8, c8, rs8, rfl, hrl8, hst⟩
      refine Ops.nil ?_
      exact AfterP.dn rfl hst.below ⟨A8, c8, rs8, rfl, hrl8, (hT.call hst).sub (List.sublist_append_left _ _)⟩
    · intro e1 w1 cc hlo hhi hb0 hp hun hq
      show Ops _ _ _ _ _ _ _
      replace hlo := le_of_lo hlo (b := 1) (by kernel_rfl)
      replace hhi := le_of_hi hhi (b := 1) (by kernel_rfl)
      obtain rfl : cc = 1 := by omega
      have hph := hp 6 _ _ (by kernel_rfl) rfl rfl (by kernel_rfl)
      obtain ⟨A8, c8, rs8, h28, hl8, hT⟩ := (hp 7 _ _ (by kernel_rfl) rfl rfl (by kernel_rfl))
      refine Ops.extract (by exact h28) rfl rfl ?_
      refine Ops.nil ?_
      exact AfterP.dn rfl (Below.refl _ _) ⟨A8, c8, rs8, rfl, hl8, hT⟩
    · intro e1 w1 cc hlo hhi hb0 hp hun hq
      show Ops _ _ _ _ _ _ _
      replace hlo := le_of_lo hlo (b := 1) (by kernel_rfl)
      replace hhi := le_of_hi hhi (b := 1) (by kernel_rfl)
      obtain rfl : cc = 1 := by omega
      have hph := hp 6 _ _ (by kernel_rfl) rfl rfl (by kernel_rfl)
      obtain ⟨A8, c8, rs8, h28, hl8, hT⟩ := (hp 7 _ _ (by kernel_rfl) rfl rfl (by kernel_rfl))
      refine Ops.extract (by exact h28) rfl rfl ?_
      refine Ops.nil ?_
      exact AfterP.dn rfl (Below.refl _ _) (by exact rfl)
    · intro e1 w1 cc hlo hhi hb0 hp hun hq
      show Ops _ _ _ _ _ _ _
      replace hlo := le_of_lo hlo (b := 1) (by kernel_rfl)
      replace hhi := le_of_hi hhi (b := 1) (by kernel_rfl)
      obtain rfl : cc = 1 := by omega
      have hph := hp 6 _ _ (by kernel_rfl) rfl rfl (by kernel_rfl)
      obtain ⟨A8, c8, rs8, h29, hl8, hT⟩ := (hp 8 _ _ (by kernel_rfl) rfl rfl (by kernel_rfl))
      have hX := hS3.call2 hT
      refine Ops.st_agg 2 0 hX rfl rfl (by exact h29) rfl rfl rfl rfl ?_
      intro w9 hS9
      refine Ops.nil ?_
      exact AfterU.st rfl ⟨A8, c8, rs8, hl8, hS9⟩
    · intro e1 w1 cc hlo hhi hb0 hp hun hq
      show Ops _ _ _ _ _ _ _
      refine Ops.mv_int rfl rfl rfl ?_
      refine Ops.nil ?_
      exact AfterP.dn rfl (Below.refl _ _) (by exact rfl)
    intro u w5 _ hu _ _
    obtain ⟨A8, c8, rs8, hl8, hS9⟩ := hu 10 _ rfl (by kernel_rfl)
    refine thenQ_n ?_
    refine Cd.ret ?_
    refine thenQ_r ?_
    skip
    refine retc2_r rfl (hS9.rd 0 rfl) rfl ?_
    exact ⟨A8, c8, rs8, rfl, hl8, hS9.tail.tail.tail⟩
  have hF0 : F ≠ [] := fun e => h1 (by rw [e] at hFl; simp at hFl; omega)
  refine Ops.rung rfl rfl rfl ?_
  refine Ops.fld (hS3.rd 1 rfl) rfl rfl rfl rfl inferInstance ?_
  refine Ops.rung rfl rfl rfl ?_
  refine Ops.ldf_s (hS3.rd 1 rfl) rfl rfl rfl rfl rfl ?_
  refine Ops.rung rfl rfl rfl ?_
  refine Ops.len rfl rfl ?_
  refine Ops.rung rfl rfl rfl ?_
  refine Ops.eql rfl rfl rfl ?_
  refine Ops.pick_f rfl rfl rfl ?_
  refine Ops.nil ?_
  refine thenQ_n ?_
  refine Cd.cond_p _ rfl (fun h2 => ?_) (fun h2 => ?_)
  · have hG0 : G = [] := List.eq_nil_of_length_eq_zero (by omega)
    have hbig : ¬ JnBig F G := fun h => h.2.1 hG0
    obtain ⟨hL1, hL2, hL3⟩ := hF.jn hG hbig
    have hjs : jnS V F G = F ++ G := by unfold jnS; rw [if_pos (.inr hG0)]
    rw [hjs] at hL1 hL2 hL3
    unfold jnV jnLs jnK
    rw [if_neg hbig, if_neg hbig, if_neg hbig, hjs]
    refine Cd.seq ?_
    refine Cd.drawP [6, 10] [.ex (.pointer (ptrAt (A2) 1)), .ex (.slice (A) (n) (c)), .pr (fun v w' => ∃ A1 c1 rs1, v = .slice A1 n c1 ∧ rs1.length = n ∧ St w3 w' (mat 25 2 A1 n c1 rs1 F ++ [])), .ex (.pointer (ptrAt (A3) 1)), .ex (.slice (B) (m) (d)), .p2 2 (fun a v w' => ∃ A1 c1 rs1 A5 c5 rs5, a = .slice A1 n c1 ∧ v = .slice A5 m c5 ∧ rs1.length = n ∧ rs5.length = m ∧ St w3 w' (mat 25 2 A5 m c5 rs5 G ++ (mat 25 2 A1 n c1 rs1 F ++ []))), .pr (fun v w' => ∃ A7 c7 rs7, v = .slice A7 (n + m) c7 ∧ rs7.length = n + m ∧ St w3 w' (mat 25 2 A7 (n + m) c7 rs7 (F ++ G) ++ [])), .pr (fun v w' => ∃ A8 c8 rs8, v = .tuple #[.agg #[.int .i64 (cxV (F ++ G)), .slice A8 (cxL (F ++ G)).length c8], .int .i64 (cxK (F ++ G))] ∧ rs8.length = (cxL (F ++ G)).length ∧ St w3 w' (mat 25 2 A8 (cxL (F ++ G)).length c8 rs8 (cxL (F ++ G)) ++ [])), .pr (fun v w' => ∃ A8 c8 rs8, v = .agg #[.int .i64 (cxV (F ++ G)), .slice A8 (cxL (F ++ G)).length c8] ∧ rs8.length = (cxL (F ++ G)).length ∧ St w3 w' (mat 25 2 A8 (cxL (F ++ G)).length c8 rs8 (cxL (F ++ G)) ++ [])), .ex (.int .i64 (cxK (F ++ G))), .pr (fun _ w' => ∃ A8 c8 rs8, rs8.length = (cxL (F ++ G)).length ∧ St w w' ([cxB A4 (cxV (F ++ G)) A8 (cxL (F ++ G)).length c8, cxB A3 W B m d, cxB A2 V A n c] ++ (mat 25 2 A8 (cxL (F ++ G)).length c8 rs8 (cxL (F ++ G)) ++ []))), .ex (.int .i64 (cxK (F ++ G)))] (by kernel_rfl) (by kernel_rfl) (List.forall_mem_cons.2 ⟨Ye.lasts_ex _, (List.forall_mem_cons.2 ⟨Ye.lasts_ex _, (List.forall_mem_cons.2 ⟨Ye.lasts_pr (fun v w w' h hb => by obtain ⟨A1, c1, rs1, hv, hl, hT⟩ := h; exact ⟨A1, c1, rs1, hv, hl, hT.later hb⟩), (List.forall_mem_cons.2 ⟨Ye.lasts_ex _, (List.forall_mem_cons.2 ⟨Ye.lasts_ex _, (List.forall_mem_cons.2 ⟨Ye.lasts_p2 (fun a v w w' h hb => by obtain ⟨A1, c1, rs1, A5, c5, rs5, h1, h2, h3, h4, hT⟩ := h; exact ⟨A1, c1, rs1, A5, c5, rs5, h1, h2, h3, h4, hT.later hb⟩), (List.forall_mem_cons.2 ⟨Ye.lasts_pr (fun v w w' h hb => by obtain ⟨A1, c1, rs1, hv, hl, hT⟩ := h; exact ⟨A1, c1, rs1, hv, hl, hT.later hb⟩), (List.forall_mem_cons.2 ⟨Ye.lasts_pr (fun v w w' h hb => by obtain ⟨A1, c1, rs1, hv, hl, hT⟩ := h; exact ⟨A1, c1, rs1, hv, hl, hT.later hb⟩), (List.forall_mem_cons.2 ⟨Ye.lasts_pr (fun v w w' h hb => by obtain ⟨A1, c1, rs1, hv, hl, hT⟩ := h; exact ⟨A1, c1, rs1, hv, hl, hT.later hb⟩), (List.forall_mem_cons.2 ⟨Ye.lasts_ex _, (List.forall_mem_cons.2 ⟨Ye.lasts_pr (fun v w w' h hb => by obtain ⟨A1, c1, rs1, hl, hT⟩ := h; exact ⟨A1, c1, rs1, hl, hT.later hb⟩), (List.forall_mem_cons.2 ⟨Ye.lasts_ex _, (fun _ h => by cases h)⟩)⟩)⟩)⟩)⟩)⟩)⟩)⟩)⟩)⟩)⟩)⟩) ⟨?_, ?_, ?_, ?_, ?_, ?_, ?_, ?_, ?_, ?_, ?_, ?_, trivial⟩ ?_
    · intro e1 w1 cc hlo hhi hb0 hp hun hq
      show Ops _ _ _ _ _ _ _
      replace hlo := le_of_lo hlo (b := 0) (by kernel_rfl)
      replace hhi := le_of_hi hhi (b := 0) (by kernel_rfl)
      obtain rfl : cc = 0 := by omega
      have hb := hb0 rfl
      refine Ops.fld ((hS3.rd 2 rfl).below hb) rfl rfl rfl rfl inferInstance ?_
      refine Ops.nil ?_
      exact AfterP.dn rfl (Below.refl _ _) (by exact rfl)
    · intro e1 w1 cc hlo hhi hb0 hp hun hq
      show Ops _ _ _ _ _ _ _
      replace hlo := le_of_lo hlo (b := 0) (by kernel_rfl)
      replace hhi := le_of_hi hhi (b := 0) (by kernel_rfl)
      obtain rfl : cc = 0 := by omega
      have hb := hb0 rfl
      refine Ops.ldf_s ((hS3.rd 2 rfl).below hb) rfl rfl rfl rfl rfl ?_
      refine Ops.nil ?_
      exact AfterP.dn rfl (Below.refl _ _) (by exact rfl)
    · intro e1 w1 cc hlo hhi hb0 hp hun hq
      show Ops _ _ _ _ _ _ _
      replace hlo := le_of_lo hlo (b := 0) (by kernel_rfl)
      replace hhi := le_of_hi hhi (b := 0) (by kernel_rfl)
      obtain rfl : cc = 0 := by omega
      have hb := hb0 rfl
      refine Ops.call (l01Own2_c A n c rs F _ ((hS3.later hb).oldRows hR) (by omega) hra) rfl rfl rfl ?_
      rintro _ w9 ⟨A1, c1, rs1, rfl, hrl, hst⟩
      refine Ops.nil ?_
      exact AfterP.dn rfl hst.below ⟨A1, c1, rs1, rfl, hrl, ((St.refl w3).later hb).call hst⟩
    · intro e1 w1 cc hlo hhi hb0 hp hun hq
      show Ops _ _ _ _ _ _ _
      replace hlo := le_of_lo hlo (b := 0) (by kernel_rfl)
      replace hhi := le_of_hi hhi (b := 0) (by kernel_rfl)
      obtain rfl : cc = 0 := by omega
      have hb := hb0 rfl
      refine Ops.fld ((hS3.rd 1 rfl).below hb) rfl rfl rfl rfl inferInstance ?_
      refine Ops.nil ?_
      exact AfterP.dn rfl (Below.refl _ _) (by exact rfl)
    · intro e1 w1 cc hlo hhi hb0 hp hun hq
      show Ops _ _ _ _ _ _ _
      replace hlo := le_of_lo hlo (b := 0) (by kernel_rfl)
      replace hhi := le_of_hi hhi (b := 0) (by kernel_rfl)
      obtain rfl : cc = 0 := by omega
      have hb := hb0 rfl
      refine Ops.ldf_s ((hS3.rd 1 rfl).below hb) rfl rfl rfl rfl rfl ?_
      refine Ops.nil ?_
      exact AfterP.dn rfl (Below.refl _ _) (by exact rfl)
    · intro e1 w1 cc hlo hhi hb0 hp hun hq
      show Ops _ _ _ _ _ _ _
      replace hlo := le_of_lo hlo (b := 0) (by kernel_rfl)
      replace hhi := le_of_hi hhi (b := 0) (by kernel_rfl)
      obtain rfl : cc = 0 := by omega
      have hb := hb0 rfl
      obtain ⟨A1, c1, rs1, h23, hl1, hT⟩ := (hp 2 _ _ (by kernel_rfl) rfl rfl (by kernel_rfl))
      refine Ops.call (l01Own2_c B m d ts G _ ((hS3.later hb).oldRows hQ) (by omega) hrb) rfl rfl rfl ?_
      rintro _ w9 ⟨A5, c5, rs5, rfl, hrl5, hst⟩
      refine Ops.nil ?_
      exact AfterP.dn rfl hst.below ⟨A1, c1, rs1, A5, c5, rs5, h23, rfl, hl1, hrl5, hT.call hst⟩
    · intro e1 w1 cc hlo hhi hb0 hp hun hq
      show Ops _ _ _ _ _ _ _
      replace hlo := le_of_lo hlo (b := 0) (by kernel_rfl)
      replace hhi := le_of_hi hhi (b := 0) (by kernel_rfl)
      obtain rfl : cc = 0 := by omega
      have hb := hb0 rfl
      obtain ⟨A1, c1, rs1, A5, c5, rs5, h23, h26, hl1, hl5, hT⟩ := (hp 5 _ _ (by kernel_rfl) rfl rfl (by kernel_rfl))
      refine Ops.call (l17Append_c 0 1 (hT.perm mat_two) (by decide) rfl rfl (by omega) (by omega)) rfl (by exact two_eq h23 h26) rfl ?_
      rintro _ w9 ⟨A7, c7, rfl, hst⟩
      refine Ops.nil ?_
      exact AfterU.dn rfl ⟨A7, c7, rs1 ++ rs5, rfl, by rw [List.length_append, hl1, hl5], by unfold mat; rw [rowsCk_append (by omega), List.append_nil]; exact St.sub hst (List.Sublist.cons_cons _ (List.sublist_cons_self _ _))⟩
    · intro e1 w1 cc hlo hhi hb0 hp hun hq
      show Ops _ _ _ _ _ _ _
      replace hlo := le_of_lo hlo (b := 1) (by kernel_rfl)
      replace hhi := le_of_hi hhi (b := 1) (by kernel_rfl)
      obtain rfl : cc = 1 := by omega
      have hph := hp 6 _ _ (by kernel_rfl) rfl rfl (by kernel_rfl)
      obtain ⟨A7, c7, rs7, h27, hl7, hT⟩ := (hp 6 _ _ (by kernel_rfl) rfl rfl (by kernel_rfl))
      refine Ops.call (l17Make_c A7 _ c7 rs7 (F ++ G) _ (St.rowsI hT (by rw [List.length_append, hFl, hGl])) (by omega) (by omega) (fun l hl => (hL2 l hl).1)) rfl (by exact congrArg (fun v => [v]) h27) rfl ?_
      rintro _ w9 ⟨A8, c8, rs8, rfl, hrl8, hst⟩
      refine Ops.nil ?_
      exact AfterP.dn rfl hst.below ⟨A8, c8, rs8, rfl, hrl8, (hT.call hst).sub (List.sublist_append_left _ _)⟩
    · intro e1 w1 cc hlo hhi hb0 hp hun hq
      show Ops _ _ _ _ _ _ _
      replace hlo := le_of_lo hlo (b := 1) (by kernel_rfl)
      replace hhi := le_of_hi hhi (b := 1) (by kernel_rfl)
      obtain rfl : cc = 1 := by omega
      have hph := hp 6 _ _ (by kernel_rfl) rfl rfl (by kernel_rfl)
      obtain ⟨A8, c8, rs8, h28, hl8, hT⟩ := (hp 7 _ _ (by kernel_rfl) rfl rfl (by kernel_rfl))
      refine Ops.extract (by exact h28) rfl rfl ?_
      refine Ops.nil ?_
      exact AfterP.dn rfl (Below.refl _ _) ⟨A8, c8, rs8, rfl, hl8, hT⟩
    · intro e1 w1 cc hlo hhi hb0 hp hun hq
      show Ops _ _ _ _ _ _ _
      replace hlo := le_of_lo hlo (b := 1) (by kernel_rfl)
      replace hhi := le_of_hi hhi (b := 1) (by kernel_rfl)
      obtain rfl : cc = 1 := by omega
      have hph := hp 6 _ _ (by kernel_rfl) rfl rfl (by kernel_rfl)
      obtain ⟨A8, c8, rs8, h28, hl8, hT⟩ := (hp 7 _ _ (by kernel_rfl) rfl rfl (by kernel_rfl))
      refine Ops.extract (by exact h28) rfl rfl ?_
      refine Ops.nil ?_
      exact AfterP.dn rfl (Below.refl _ _) (by exact rfl)
    · intro e1 w1 cc hlo hhi hb0 hp hun hq
      show Ops _ _ _ _ _ _ _
      replace hlo := le_of_lo hlo (b := 1) (by kernel_rfl)
      replace hhi := le_of_hi hhi (b := 1) (by kernel_rfl)
      obtain rfl : cc = 1 := by omega
      have hph := hp 6 _ _ (by kernel_rfl) rfl rfl (by kernel_rfl)
      obtain ⟨A8, c8, rs8, h29, hl8, hT⟩ := (hp 8 _ _ (by kernel_rfl) rfl rfl (by kernel_rfl))
      have hX := hS3.call2 hT
      refine Ops.st_agg 2 0 hX rfl rfl (by exact h29) rfl rfl rfl rfl ?_
      intro w9 hS9
      refine Ops.nil ?_
      exact AfterU.st rfl ⟨A8, c8, rs8, hl8, hS9⟩
    · intro e1 w1 cc hlo hhi hb0 hp hun hq
      show Ops _ _ _ _ _ _ _
      refine Ops.mv_int rfl rfl rfl ?_
      refine Ops.nil ?_
      exact AfterP.dn rfl (Below.refl _ _) (by exact rfl)
    intro u w5 _ hu _ _
    obtain ⟨A8, c8, rs8, hl8, hS9⟩ := hu 10 _ rfl (by kernel_rfl)
    refine thenQ_n ?_
    refine Cd.ret ?_
    refine thenQ_r ?_
    skip
    refine retc2_r rfl (hS9.rd 0 rfl) rfl ?_
    exact ⟨A8, c8, rs8, rfl, hl8, hS9.tail.tail.tail⟩
  have hG0 : G ≠ [] := fun e => h2 (by rw [e] at hGl; simp at hGl; omega)
  have hnm : (n : Int) * m = ((n * m : Nat) : Int) := (Int.natCast_mul _ _).symm
  have hnm2 : n * m ≤ 400 * 400 := Nat.mul_le_mul (by omega) (by omega)
  refine Cd.skip ?_
  refine thenQ_n ?_
  refine Cd.seq ?_
  refine Cd.seq ?_
  refine Cd.region ?_
  refine Ops.fld (hS3.rd 2 rfl) rfl rfl rfl rfl inferInstance ?_
  refine Ops.ldf_s (hS3.rd 2 rfl) rfl rfl rfl rfl rfl ?_
  refine Ops.len rfl rfl ?_
  refine Ops.fld (hS3.rd 1 rfl) rfl rfl rfl rfl inferInstance ?_
  refine Ops.ldf_s (hS3.rd 1 rfl) rfl rfl rfl rfl rfl ?_
  refine Ops.len rfl rfl ?_
  refine Ops.mul rfl rfl rfl (by omega) ?_
  rw [hnm]
  refine Ops.gtr rfl rfl rfl ?_
  refine Ops.nil ?_
  refine thenQ_n ?_
  refine Cd.cond_p _ rfl (fun h3 => ?_) (fun h3 => ?_)
  · have hbig : JnBig F G := ⟨hF0, hG0, by rw [hFl, hGl]; omega⟩
    unfold jnV jnLs jnK
    rw [if_pos hbig, if_pos hbig, if_pos hbig]
    refine Cd.seq ?_
    refine Cd.region ?_
    refine Ops.bldZ2 (by exact inferInstance) (by exact inferInstance) rfl rfl rfl ?_
    refine Ops.st_agg 2 0 hS3 rfl rfl rfl rfl rfl rfl rfl ?_
    intro w9 hS9
    refine Ops.mv_int rfl rfl rfl ?_
    refine Ops.nil ?_
    refine thenQ_n ?_
    refine Cd.ret ?_
    refine thenQ_r ?_
    skip
    refine retc2_r rfl (hS9.rd 0 rfl) rfl ?_
    exact AnsC.none hS9
  have hbig : ¬ JnBig F G := fun h => h3 (by have := h.2.2; rw [hFl, hGl] at this; omega)
  obtain ⟨hL1, hL2, hL3⟩ := hF.jn hG hbig
  have hjs : jnS V F G = jnL V F G := by unfold jnS; rw [if_neg (by simp [hF0, hG0])]
  rw [hjs] at hL1 hL2 hL3
  unfold jnV jnLs jnK
  rw [if_neg hbig, if_neg hbig, if_neg hbig, hjs]
  have hFG : F.length * G.length ≤ 400 := jn_small hF0 hG0 hbig
  refine Cd.skip ?_
  refine thenQ_n ?_
  refine Cd.seq ?_
  refine Cd.region ?_
  refine Ops.bs0 hS3 rfl ?_
  intro A6 w4 hS4
  have hS5 : St w w4 ([cxZ A4, cxB A3 W B m d, cxB A2 V A n c, CkR 25 A6 (jnG V F G 0 0).length 0 []] ++ rowsCk 2 [] (jnG V F G 0 0)) := by
    rw [jnG_zero]
    exact hS4.perm (List.perm_append_comm (l₁ := [_]) (l₂ := [_, _, _]))
  have hlen00 : (jnG V F G 0 0).length = 0 := by rw [jnG_zero]; rfl
  refine Ops.mv_sl rfl rfl rfl ?_
  refine Ops.nil ?_
  refine thenQ_n ?_
  refine Cd.seq ?_
  refine Cd.seq ?_
  refine Cd.region ?_
  refine Ops.mv_int rfl rfl rfl ?_
  refine Ops.nil ?_
  refine thenQ_n ?_
  refine Cd.block ?_
  refine Cd.loop (α := Nat × (Option Addr × Nat) × List SlV) (fun z => [(2, .pointer A2), (3, .pointer A3), (4, .pointer A4), (6, .slice z.2.1.1 (jnG V F G z.1 0).length z.2.1.2), (7, .int .i64 (z.1 : Int))])
    (fun z w' => z.1 ≤ n ∧ z.2.2.length = (jnG V F G z.1 0).length ∧ St w w' ([cxZ A4, cxB A3 W B m d, cxB A2 V A n c, CkR 25 z.2.1.1 (jnG V F G z.1 0).length z.2.1.2 z.2.2] ++ rowsCk 2 z.2.2 (jnG V F G z.1 0))) (fun z => n - z.1) (0, (A6, 0), []) ⟨rfl, rfl, rfl, by show Value.slice A6 0 0 = .slice A6 (jnG V F G 0 0).length 0; rw [hlen00], rfl, trivial⟩ ⟨Nat.zero_le _, by show 0 = _; rw [hlen00], hS5⟩ ?_
  clear hS5 hS4 hS3
  rintro ⟨i, ⟨A6, c6⟩, rs6⟩ e w4 ⟨hi, hrl6, hS4⟩
  dsimp only at hi hrl6 hS4 ⊢
  refine Cd.seq ?_
  refine Cd.seq ?_
  refine Cd.region ?_
  refine Ops.mv_int rfl rfl rfl ?_
  refine Ops.fld (hS4.rd 2 rfl) rfl rfl rfl rfl inferInstance ?_
  refine Ops.ldf_s (hS4.rd 2 rfl) rfl rfl rfl rfl rfl ?_
  refine Ops.len rfl rfl ?_
  refine Ops.lss rfl rfl rfl ?_
  refine Ops.nil ?_
  refine thenQ_n ?_
  refine Cd.cond_p _ rfl (fun h4 => ?_) (fun h4 => ?_)
  · have hiF : i < F.length := by omega
    have hrowA := hR.at_ (i := (i : Int)) (by omega) (by omega)
    have hrlA := hrowA.1
    have hfA := (hF.at_ hiF).1
    refine Cd.skip ?_
    refine thenQ_n ?_
    refine Cd.seq ?_
    refine Cd.block ?_
    refine Cd.seq ?_
    refine Cd.region ?_
    refine Ops.mv_int rfl rfl rfl ?_
    refine Ops.nil ?_
    refine thenQ_n ?_
    refine Cd.block ?_
    refine Cd.loop (α := Nat × (Option Addr × Nat) × List SlV) (fun z => [(2, .pointer A2), (3, .pointer A3), (4, .pointer A4), (6, .slice z.2.1.1 (jnG V F G i z.1).length z.2.1.2), (7, .int .i64 (i : Int)), (8, .int .i64 (z.1 : Int))])
      (fun z w' => z.1 ≤ m ∧ z.2.2.length = (jnG V F G i z.1).length ∧ St w w' ([cxZ A4, cxB A3 W B m d, cxB A2 V A n c, CkR 25 z.2.1.1 (jnG V F G i z.1).length z.2.1.2 z.2.2] ++ rowsCk 2 z.2.2 (jnG V F G i z.1))) (fun z => m - z.1) (0, (A6, c6), rs6) ⟨rfl, rfl, rfl, rfl, rfl, rfl, trivial⟩ ⟨Nat.zero_le _, hrl6, hS4⟩ ?_
    clear hS4 hrl6
    rintro ⟨k, ⟨A6, c6⟩, rs6⟩ e w4 ⟨hk, hrl6, hS4⟩
    dsimp only at hk hrl6 hS4 ⊢
    have hll := jnG_len (V := V) hiF (show k ≤ G.length by omega)
    refine Cd.seq ?_
    refine Cd.seq ?_
    refine Cd.region ?_
    refine Ops.mv_int rfl rfl rfl ?_
    refine Ops.fld (hS4.rd 1 rfl) rfl rfl rfl rfl inferInstance ?_
    refine Ops.ldf_s (hS4.rd 1 rfl) rfl rfl rfl rfl rfl ?_
    refine Ops.len rfl rfl ?_
    refine Ops.lss rfl rfl rfl ?_
    refine Ops.nil ?_
    refine thenQ_n ?_
    refine Cd.cond_p _ rfl (fun h5 => ?_) (fun h5 => ?_)
    · have hkG : k < G.length := by omega
      have hM := hS4.oldRows hR
      have hrowB := hQ.at_ (i := (k : Int)) (by omega) (by omega)
      have hrlB := hrowB.1
      have hfB := hG.at_ hkG
      have hGv := hG.v
      refine Cd.skip ?_
      refine thenQ_n ?_
      refine Cd.seq ?_
      refine Cd.block ?_
      refine Cd.seq ?_
      refine Cd.region ?_
      refine Ops.fld (hS4.rd 2 rfl) rfl rfl rfl rfl inferInstance ?_
      refine Ops.ldf_s (hS4.rd 2 rfl) rfl rfl rfl rfl rfl ?_
      refine Ops.mv_int rfl rfl rfl ?_
      refine Ops.idx hM.top.2 rfl rfl rfl (by omega) (by omega) ?_
      refine Ops.ld_sl hM.top rfl (by omega) rfl rfl ?_
      refine Ops.call (l01Own_c _ _ _ (gl F (i : Int)) _ (hS4.oldI hrowA) (by omega)) rfl rfl rfl ?_
      rintro _ w5 ⟨A11, c11, rfl, hT5⟩
      have hS5 : St w w5 (CkI 2 A11 ((rg rs (i : Int)).n + 0) c11 (gl F (i : Int) ++ ((gl G (k : Int)).take 0).map (V + ·)) :: ([cxZ A4, cxB A3 W B m d, cxB A2 V A n c, CkR 25 A6 (jnG V F G i k).length c6 rs6] ++ rowsCk 2 rs6 (jnG V F G i k))) := by
        rw [List.take_zero, List.map_nil, List.append_nil]
        exact hS4.call hT5
      refine Ops.mv_sl rfl rfl rfl ?_
      refine Ops.nil ?_
      refine thenQ_n ?_
      refine Cd.seq ?_
      refine Cd.seq ?_
      refine Cd.region ?_
      refine Ops.mv_int rfl rfl rfl ?_
      refine Ops.nil ?_
      refine thenQ_n ?_
      refine Cd.block ?_
      refine Cd.loop (α := Nat × Option Addr × Nat) (fun z => [(2, .pointer A2), (3, .pointer A3), (4, .pointer A4), (6, .slice A6 (jnG V F G i k).length c6), (7, .int .i64 (i : Int)), (8, .int .i64 (k : Int)), (9, .slice z.2.1 ((rg rs (i : Int)).n + z.1) z.2.2), (10, .int .i64 (z.1 : Int))])
        (fun z w' => z.1 ≤ (rg ts (k : Int)).n ∧ St w w' (CkI 2 z.2.1 ((rg rs (i : Int)).n + z.1) z.2.2 (gl F (i : Int) ++ ((gl G (k : Int)).take z.1).map (V + ·)) :: ([cxZ A4, cxB A3 W B m d, cxB A2 V A n c, CkR 25 A6 (jnG V F G i k).length c6 rs6] ++ rowsCk 2 rs6 (jnG V F G i k)))) (fun z => (rg ts (k : Int)).n - z.1) (0, A11, c11) ⟨rfl, rfl, rfl, rfl, rfl, rfl, rfl, rfl, trivial⟩ ⟨Nat.zero_le _, hS5⟩ ?_
      clear hS5 hT5 hS4 hM
      rintro ⟨j, A11, c11⟩ e w6 ⟨hj, hS6⟩
      dsimp only at hj hS6 ⊢
      have hM := hS6.oldRows hQ
      refine Cd.seq ?_
      refine Cd.seq ?_
      refine Cd.region ?_
      refine Ops.mv_int rfl rfl rfl ?_
      refine Ops.fld (hS6.rd 2 rfl) rfl rfl rfl rfl inferInstance ?_
      refine Ops.ldf_s (hS6.rd 2 rfl) rfl rfl rfl rfl rfl ?_
      refine Ops.mv_int rfl rfl rfl ?_
      refine Ops.idx hM.top.2 rfl rfl rfl (by omega) (by omega) ?_
      refine Ops.ld_sl hM.top rfl (by omega) rfl rfl ?_
      refine Ops.len rfl rfl ?_
      refine Ops.lss rfl rfl rfl ?_
      refine Ops.nil ?_
      refine thenQ_n ?_
      refine Cd.cond_p _ rfl (fun h6 => ?_) (fun h6 => ?_)
      · have hB6 := hS6.oldI hrowB
        have hgv := hfB.2.2 (gi (gl G (k : Int)) (j : Int)) (by rw [gi_mem (show j < (gl G (k : Int)).length by omega)]; exact List.getElem_mem _)
        refine Cd.skip ?_
        refine thenQ_n ?_
        refine Cd.seq ?_
        refine Cd.block ?_
        refine Cd.drawN [13] [.ex (.slice (A11) ((rg rs (i : Int)).n + j) (c11)), .ex (.pointer (ptrAt (A2) 0)), .ex (.int .i64 (V)), .ex (.pointer (ptrAt (A3) 1)), .ex (.slice (B) (m) (d)), .ex (.int .i64 ((k : Int))), .ex (.pointer (ptrAt (B) ((k : Int)).toNat)), .ex (.slice ((rg (ts) ((k : Int))).a) ((rg (ts) ((k : Int))).n) ((rg (ts) ((k : Int))).c)), .ex (.int .i64 ((j : Int))), .ex (.pointer (ptrAt ((rg (ts) ((k : Int))).a) ((j : Int)).toNat)), .ex (.int .i64 (gi (gl G (k : Int)) ((j : Int)))), .ex (.int .i64 ((V) + (gi (gl G (k : Int)) ((j : Int))))), .pr (fun v w' => ∃ A12, v = .slice A12 1 1 ∧ RdI w' A12 1 [V + gi (gl G (k : Int)) (j : Int)]), .pr (fun v w' => ∃ A13 c13, v = .slice A13 ((rg rs (i : Int)).n + j + 1) c13 ∧ St w w' (CkI 2 A13 ((rg rs (i : Int)).n + j + 1) c13 ((gl F (i : Int) ++ ((gl G (k : Int)).take j).map (V + ·)) ++ [V + gi (gl G (k : Int)) (j : Int)]) :: ([cxZ A4, cxB A3 W B m d, cxB A2 V A n c, CkR 25 A6 (jnG V F G i k).length c6 rs6] ++ rowsCk 2 rs6 (jnG V F G i k)))), .pr (fun v w' => ∃ A13 c13, v = .slice A13 ((rg rs (i : Int)).n + j + 1) c13 ∧ St w w' (CkI 2 A13 ((rg rs (i : Int)).n + j + 1) c13 ((gl F (i : Int) ++ ((gl G (k : Int)).take j).map (V + ·)) ++ [V + gi (gl G (k : Int)) (j : Int)]) :: ([cxZ A4, cxB A3 W B m d, cxB A2 V A n c, CkR 25 A6 (jnG V F G i k).length c6 rs6] ++ rowsCk 2 rs6 (jnG V F G i k))))] (by kernel_rfl) (by kernel_rfl) (List.forall_mem_cons.2 ⟨Yd.lasts_ex _, (List.forall_mem_cons.2 ⟨Yd.lasts_ex _, (List.forall_mem_cons.2 ⟨Yd.lasts_ex _, (List.forall_mem_cons.2 ⟨Yd.lasts_ex _, (List.forall_mem_cons.2 ⟨Yd.lasts_ex _, (List.forall_mem_cons.2 ⟨Yd.lasts_ex _, (List.forall_mem_cons.2 ⟨Yd.lasts_ex _, (List.forall_mem_cons.2 ⟨Yd.lasts_ex _, (List.forall_mem_cons.2 ⟨Yd.lasts_ex _, (List.forall_mem_cons.2 ⟨Yd.lasts_ex _, (List.forall_mem_cons.2 ⟨Yd.lasts_ex _, (List.forall_mem_cons.2 ⟨Yd.lasts_ex _, (List.forall_mem_cons.2 ⟨Yd.lasts_pr (fun v w w' h hb => by obtain ⟨A9, hv, hT⟩ := h; exact ⟨A9, hv, hT.later hb⟩), (List.forall_mem_cons.2 ⟨Yd.lasts_pr (fun v w w' h hb => by obtain ⟨A5, c5, hv, hT⟩ := h; exact ⟨A5, c5, hv, hT.later hb⟩), (List.forall_mem_cons.2 ⟨Yd.lasts_pr (fun v w w' h hb => by obtain ⟨A5, c5, hv, hT⟩ := h; exact ⟨A5, c5, hv, hT.later hb⟩), (fun _ h => by cases h)⟩)⟩)⟩)⟩)⟩)⟩)⟩)⟩)⟩)⟩)⟩)⟩)⟩)⟩)⟩) ⟨?_, ?_, ?_, ?_, ?_, ?_, ?_, ?_, ?_, ?_, ?_, ?_, ?_, ?_, ?_, trivial⟩ ?_
        · intro e1 w1 cc hlo hhi hb0 hp hun hq
          show Ops _ _ _ _ _ _ _
          refine Ops.mv_sl rfl (by exact hun 14 _ rfl (by kernel_rfl)) rfl ?_
          refine Ops.nil ?_
          exact AfterN.dn rfl (Below.refl _ _) (by exact rfl)
        · intro e1 w1 cc hlo hhi hb0 hp hun hq
          show Ops _ _ _ _ _ _ _
          replace hlo := le_of_lo hlo (b := 0) (by kernel_rfl)
          replace hhi := le_of_hi hhi (b := 0) (by kernel_rfl)
          obtain rfl : cc = 0 := by omega
          have hb := hb0 rfl
          refine Ops.fld ((hS6.rd 3 rfl).below hb) rfl rfl rfl rfl inferInstance ?_
          refine Ops.nil ?_
          exact AfterN.dn rfl (Below.refl _ _) (by exact rfl)
        · intro e1 w1 cc hlo hhi hb0 hp hun hq
          show Ops _ _ _ _ _ _ _
          replace hlo := le_of_lo hlo (b := 0) (by kernel_rfl)
          replace hhi := le_of_hi hhi (b := 0) (by kernel_rfl)
          obtain rfl : cc = 0 := by omega
          have hb := hb0 rfl
          refine Ops.ldf_i ((hS6.rd 3 rfl).below hb) rfl rfl rfl rfl rfl ?_
          refine Ops.nil ?_
          exact AfterN.dn rfl (Below.refl _ _) (by exact rfl)
        · intro e1 w1 cc hlo hhi hb0 hp hun hq
          show Ops _ _ _ _ _ _ _
          replace hlo := le_of_lo hlo (b := 0) (by kernel_rfl)
          replace hhi := le_of_hi hhi (b := 0) (by kernel_rfl)
          obtain rfl : cc = 0 := by omega
          have hb := hb0 rfl
          refine Ops.fld ((hS6.rd 2 rfl).below hb) rfl rfl rfl rfl inferInstance ?_
          refine Ops.nil ?_
          exact AfterN.dn rfl (Below.refl _ _) (by exact rfl)
        · intro e1 w1 cc hlo hhi hb0 hp hun hq
          show Ops _ _ _ _ _ _ _
          replace hlo := le_of_lo hlo (b := 0) (by kernel_rfl)
          replace hhi := le_of_hi hhi (b := 0) (by kernel_rfl)
          obtain rfl : cc = 0 := by omega
          have hb := hb0 rfl
          refine Ops.ldf_s ((hS6.rd 2 rfl).below hb) rfl rfl rfl rfl rfl ?_
          refine Ops.nil ?_
          exact AfterN.dn rfl (Below.refl _ _) (by exact rfl)
        · intro e1 w1 cc hlo hhi hb0 hp hun hq
          show Ops _ _ _ _ _ _ _
          refine Ops.mv_int rfl rfl rfl ?_
          refine Ops.nil ?_
          exact AfterN.dn rfl (Below.refl _ _) (by exact rfl)
        · intro e1 w1 cc hlo hhi hb0 hp hun hq
          show Ops _ _ _ _ _ _ _
          replace hlo := le_of_lo hlo (b := 0) (by kernel_rfl)
          replace hhi := le_of_hi hhi (b := 0) (by kernel_rfl)
          obtain rfl : cc = 0 := by omega
          have hb := hb0 rfl
          refine Ops.idx (hM.top.later hb).2 rfl rfl rfl (by omega) (by omega) ?_
          refine Ops.nil ?_
          exact AfterN.dn rfl (Below.refl _ _) (by exact rfl)
        · intro e1 w1 cc hlo hhi hb0 hp hun hq
          show Ops _ _ _ _ _ _ _
          replace hlo := le_of_lo hlo (b := 0) (by kernel_rfl)
          replace hhi := le_of_hi hhi (b := 0) (by kernel_rfl)
          obtain rfl : cc = 0 := by omega
          have hb := hb0 rfl
          refine Ops.ld_sl (hM.top.later hb) rfl (by omega) rfl rfl ?_
          refine Ops.nil ?_
          exact AfterN.dn rfl (Below.refl _ _) (by exact rfl)
        · intro e1 w1 cc hlo hhi hb0 hp hun hq
          show Ops _ _ _ _ _ _ _
          refine Ops.mv_int rfl rfl rfl ?_
          refine Ops.nil ?_
          exact AfterN.dn rfl (Below.refl _ _) (by exact rfl)
        · intro e1 w1 cc hlo hhi hb0 hp hun hq
          show Ops _ _ _ _ _ _ _
          replace hlo := le_of_lo hlo (b := 0) (by kernel_rfl)
          replace hhi := le_of_hi hhi (b := 0) (by kernel_rfl)
          obtain rfl : cc = 0 := by omega
          have hb := hb0 rfl
          refine Ops.idx (hB6.later hb).2 rfl rfl rfl (by omega) (by omega) ?_
          refine Ops.nil ?_
          exact AfterN.dn rfl (Below.refl _ _) (by exact rfl)
        · intro e1 w1 cc hlo hhi hb0 hp hun hq
          show Ops _ _ _ _ _ _ _
          replace hlo := le_of_lo hlo (b := 0) (by kernel_rfl)
          replace hhi := le_of_hi hhi (b := 0) (by kernel_rfl)
          obtain rfl : cc = 0 := by omega
          have hb := hb0 rfl
          refine Ops.ld_int (hB6.later hb) rfl (by omega) rfl rfl ?_
          refine Ops.nil ?_
          exact AfterN.dn rfl (Below.refl _ _) (by exact rfl)
        · intro e1 w1 cc hlo hhi hb0 hp hun hq
          show Ops _ _ _ _ _ _ _
          refine Ops.add rfl rfl rfl (by omega) ?_
          refine Ops.nil ?_
          exact AfterN.dn rfl (Below.refl _ _) (by exact rfl)
        · intro e1 w1 cc hlo hhi hb0 hp hun hq
          show Ops _ _ _ _ _ _ _
          refine Ops.bs1I (St.refl _) rfl rfl rfl ?_
          intro A12 w9 hst
          refine Ops.nil ?_
          exact AfterN.dn rfl hst.below ⟨A12, rfl, hst.rdI 0 rfl⟩
        · intro e1 w1 cc hlo hhi hb0 hp hun hq
          show Ops _ _ _ _ _ _ _
          replace hlo := le_of_lo hlo (b := 0) (by kernel_rfl)
          replace hhi := le_of_hi hhi (b := 0) (by kernel_rfl)
          obtain rfl : cc = 0 := by omega
          have hb := hb0 rfl
          obtain ⟨A12, h83, hT2⟩ := (hp 12 _ _ (by kernel_rfl) rfl rfl (by kernel_rfl))
          refine Ops.appI 0 (hS6.later hb) rfl hT2 rfl (by exact h83) rfl (by omega) (by omega) rfl ?_
          intro A13 c13 w10 hT10
          refine Ops.nil ?_
          exact AfterT.dn rfl ⟨A13, c13, rfl, hT10⟩
        · intro e1 w1 cc hlo hhi hb0 hp hun hq
          show Ops _ _ _ _ _ _ _
          replace hlo := le_of_lo hlo (b := 1) (by kernel_rfl)
          replace hhi := le_of_hi hhi (b := 1) (by kernel_rfl)
          obtain rfl : cc = 1 := by omega
          have hph := hp 13 _ _ (by kernel_rfl) rfl rfl (by kernel_rfl)
          obtain ⟨A13, c13, h84, hT⟩ := (hp 13 _ _ (by kernel_rfl) rfl rfl (by kernel_rfl))
          refine Ops.mv_sl rfl (by exact h84) rfl ?_
          refine Ops.nil ?_
          exact AfterN.dn rfl (Below.refl _ _) ⟨A13, c13, rfl, hT⟩
        intro u w8 _ hu
        obtain ⟨A13, c13, hv, hS8⟩ := hu 14 _ rfl (by kernel_rfl)
        have htk : ((gl G (k : Int)).take (j + 1)).map (V + ·) = ((gl G (k : Int)).take j).map (V + ·) ++ [V + gi (gl G (k : Int)) (j : Int)] := by rw [take_succ_gi (by omega), List.map_append]; rfl
        refine blockQ_n ?_
        refine thenQ_n ?_
        refine Cd.region ?_
        refine Ops.mv_int rfl rfl rfl ?_
        refine Ops.add rfl rfl rfl (by omega) ?_
        refine Ops.mv_int rfl rfl rfl ?_
        refine Ops.nil ?_
        refine thenQ_n ?_
        refine ⟨(j + 1, A13, c13), by show (rg ts (k : Int)).n - (j + 1) < (rg ts (k : Int)).n - j; omega, ⟨rfl, rfl, rfl, rfl, rfl, rfl, hv, rfl, trivial⟩, by show j + 1 ≤ _; omega, ?_⟩
        show St w w8 (CkI 2 A13 ((rg rs (i : Int)).n + (j + 1)) c13 (gl F (i : Int) ++ ((gl G (k : Int)).take (j + 1)).map (V + ·)) :: _)
        rw [htk, ← List.append_assoc, ← Nat.add_assoc]
        exact hS8
      · rw [List.take_of_length_le (by omega)] at hS6
        have hjn : j = (gl G (k : Int)).length := by omega
        have hl : (rg rs (i : Int)).n + j = (gl F (i : Int) ++ (gl G (k : Int)).map (V + ·)).length := by rw [List.length_append, List.length_map]; omega
        rw [hl] at hS6 ⊢
        have hsucc := jnG_succ (V := V) (F := F) (i := i) hkG
        have hl1 : (jnG V F G i (k + 1)).length = (jnG V F G i k).length + 1 := by rw [hsucc, List.length_append]; rfl
        generalize hrow : gl F (i : Int) ++ (gl G (k : Int)).map (V + ·) = row at *
        refine Cd.exit ?_
        refine thenQ_x ?_
        refine thenQ_x ?_
        refine blockQ_x ?_
        refine thenQ_n ?_
        refine Cd.region ?_
        refine Ops.mv_sl rfl rfl rfl ?_
        refine Ops.mv_sl rfl rfl rfl ?_
        refine Ops.bs1R hS6 rfl rfl rfl ?_
        intro A14 w7 hS7
        refine Ops.appR 5 hS7 rfl (hS7.rdR 0 rfl) rfl rfl rfl (by omega) (by omega) rfl ?_
        intro A15 c15 w8 hS8
        have hS8 : St w w8 (CkI 2 A11 row.length c11 row :: ([cxZ A4, cxB A3 W B m d, cxB A2 V A n c, CkR 25 A15 ((jnG V F G i k).length + 1) c15 (rs6 ++ [⟨A11, row.length, c11⟩])] ++ rowsCk 2 rs6 (jnG V F G i k))) := hS8.tail
        refine Ops.mv_sl rfl rfl rfl ?_
        refine Ops.nil ?_
        refine blockQ_n ?_
        refine thenQ_n ?_
        refine Cd.region ?_
        refine Ops.mv_int rfl rfl rfl ?_
        refine Ops.add rfl rfl rfl (by omega) ?_
        refine Ops.mv_int rfl rfl rfl ?_
        refine Ops.nil ?_
        refine thenQ_n ?_
        refine ⟨(k + 1, (A15, c15), rs6 ++ [⟨A11, row.length, c11⟩]), by show m - (k + 1) < m - k; omega, ⟨rfl, rfl, rfl, by show Value.slice A15 ((jnG V F G i k).length + 1) c15 = .slice A15 (jnG V F G i (k + 1)).length c15; rw [hl1], rfl, rfl, trivial⟩, by show k + 1 ≤ m; omega, by show (rs6 ++ [_]).length = _; rw [hl1, List.length_append, hrl6]; rfl, ?_⟩
        show St w w8 ([cxZ A4, cxB A3 W B m d, cxB A2 V A n c, CkR 25 A15 (jnG V F G i (k + 1)).length c15 (rs6 ++ [⟨A11, row.length, c11⟩])] ++ rowsCk 2 (rs6 ++ [⟨A11, row.length, c11⟩]) (jnG V F G i (k + 1)))
        rw [hl1, hsucc, rowsCk_append hrl6, ← List.append_assoc]
        exact hS8.perm (List.perm_append_comm (l₁ := [CkI 2 A11 row.length c11 row]))
    · have hkm : k = G.length := by omega
      rw [hkm, jnG_all hiF] at hrl6 hS4 ⊢
      refine Cd.exit ?_
      refine thenQ_x ?_
      refine thenQ_x ?_
      refine blockQ_x ?_
      refine blockQ_n ?_
      refine thenQ_n ?_
      refine Cd.region ?_
      refine Ops.mv_int rfl rfl rfl ?_
      refine Ops.add rfl rfl rfl (by omega) ?_
      refine Ops.mv_int rfl rfl rfl ?_
      refine Ops.nil ?_
      refine thenQ_n ?_
      exact ⟨(i + 1, (A6, c6), rs6), by show n - (i + 1) < n - i; omega, ⟨rfl, rfl, rfl, rfl, rfl, trivial⟩, by show i + 1 ≤ n; omega, hrl6, hS4⟩
  · have hin : i = F.length := by omega
    rw [hin, jnG_end] at hrl6 hS4 ⊢
    have hM : St w w4 (mat 25 2 A6 (jnL V F G).length c6 rs6 (jnL V F G)) := hS4.tail.tail.tail
    refine Cd.exit ?_
    refine thenQ_x ?_
    refine thenQ_x ?_
    refine blockQ_x ?_
    refine thenQ_n ?_
    refine Cd.seq ?_
    refine Cd.region ?_
    refine Ops.mv_sl rfl rfl rfl ?_
    refine Ops.call (l17Make_c A6 _ c6 rs6 (jnL V F G) _ (St.rowsI (ks := []) (by rwa [List.append_nil]) rfl) (by omega) (by omega) (fun l hl => (hL2 l hl).1)) rfl rfl rfl ?_
    rintro _ w6 ⟨A9, c9, rs9, rfl, hrl9, hst6⟩
    have hS6 := (hS4.sub (List.Sublist.cons_cons _ (List.nil_sublist _))).call2 hst6
    refine Ops.extract rfl rfl rfl ?_
    refine Ops.extract rfl rfl rfl ?_
    refine Ops.st_agg 2 0 hS6 rfl rfl rfl rfl rfl rfl rfl ?_
    intro w7 hS7
    refine Ops.mv_int rfl rfl rfl ?_
    refine Ops.nil ?_
    refine thenQ_n ?_
    refine Cd.ret ?_
    skip
    refine retc2_r rfl (hS7.rd 0 rfl) rfl ?_
    exact ⟨A9, c9, rs9, rfl, hrl9, hS7.tail⟩
end Go.Proofs.YtdedegbendjmbaaGreatDoor.Vc
/-
 A complex drawn, walked. Conditions: as each states them.
-/
namespace Go.Proofs.YtdedegbendjmbaaGreatDoor.Vc
open Go.RowKit

theorem co_cplx (ls : List (List Int)) : Cplx (coV ls) (coL ls) := by
 have h0 : Cplx 0 [] := by decide
 unfold coV coL
 by_cases h : NegL ls
 ·rw [if_pos h, if_pos h]; exact h0
 ·rw [if_neg h, if_neg h]
  by_cases hb : CxBad (ls.map cs)
  ·unfold cxV cxL; rw [if_pos hb, if_pos hb]; exact h0
  ·exact cx_cplx (fun l hl => by obtain ⟨l0, _, rfl⟩ := List.mem_map.1 hl; exact cs_SA l0) hb
theorem jn_cplx {V W : Int} {F G : List (List Int)} (hF : Cplx V F) (hG : Cplx W G) : Cplx (jnV V F G) (jnLs V F G) := by
 have h0 : Cplx 0 [] := by decide
 unfold jnV jnLs
 by_cases h : JnBig F G
 ·rw [if_pos h, if_pos h]; exact h0
 ·rw [if_neg h, if_neg h]
  by_cases hb : CxBad (jnS V F G)
  ·unfold cxV cxL; rw [if_pos hb, if_pos hb]; exact h0
  ·exact cx_cplx (jnS_sa hF hG) hb
theorem two_pts : Cplx 2 [[0], [1]] := by decide

/-- a list more -/
theorem St.matAdd {w0 w : World} {t1 t2 : TypeId} {a A : Option Addr} {m d n c : Nat} {x : List Int} {rs : List SlV} {L : List (List Int)} {X : List Ck} (h : St w0 w (CkI t2 a m d x :: (CkR t1 A n c (rs ++ [⟨a, m, d⟩]) :: (rowsCk t2 rs L ++ X)))) (hl : rs.length = L.length) : St w0 w (mat t1 t2 A n c (rs ++ [⟨a, m, d⟩]) (L ++ [x]) ++ X) := by
 refine h.perm ?_
 unfold mat
 rw [rowsCk_append hl]
 refine (List.Perm.swap _ _ _).trans (List.Perm.cons _ ?_)
 show (CkI t2 a m d x :: (rowsCk t2 rs L ++ X)).Perm ((rowsCk t2 rs L ++ [CkI t2 a m d x]) ++ X)
 rw [List.append_assoc]
 exact List.perm_middle.symm

/-- a drawn complex, in memory of its own -/
def AnsDr (w0 : World) (ks : List Ck) (ix : Nat) (As : Option Addr) (v : Value) (w' : World) : Prop :=
 ∃ (V : Int) (F : List (List Int)) (A : Option Addr) (c : Nat) (rs : List SlV) (k' : Ck), v = .agg #[.int .i64 V, .slice A F.length c] ∧ Cplx V F ∧ rs.length = F.length ∧ srcK w0 As k' ∧ St w0 w' (mat 25 2 A F.length c rs F ++ ks.set ix k')

set_option maxHeartbeats 1000000 in
theorem l17Draw_c {w0 w : World} {ks : List Ck} (ix : Nat) {As : Option Addr} {k : Ck} (hS : St w0 w ks) (hk : ks[ix]? = some k) (hK : srcK w0 As k) :
    Ret Tryz.prog 138 [.pointer As] w (AnsDr w0 ks ix As) := by
  refine Ret.of_cd Tryz.func138 rfl Tryz.ntmps138 rfl (postc rfl rfl) ?_
  refine Cd.seq ?_
  refine Cd.region ?_
  refine Ops.new2 hS rfl ?_
  intro A2 w1 hS1
  have hS1 : St w0 w1 (cxZ A2 :: ks) := hS1
  refine Ops.nil ?_
  refine thenQ_n ?_
  refine Cd.seq ?_
  refine Cd.region ?_
  refine Ops.bs0 hS1 rfl ?_
  intro A3 w2 hS2
  refine Ops.mv_sl rfl rfl rfl ?_
  refine Ops.nil ?_
  refine thenQ_n ?_
  refine Cd.join (α := Nat × (Option Addr × Nat) × List SlV × List (List Int) × Ck) (fun z => [(0, .pointer As), (2, .pointer A2), (3, .slice z.2.1.1 z.1 z.2.1.2)])
    (fun z w' => z.1 ≤ 20 ∧ z.2.2.1.length = z.1 ∧ z.2.2.2.1.length = z.1 ∧ (∀ l ∈ z.2.2.2.1, l.length ≤ 20) ∧ srcK w0 As z.2.2.2.2 ∧ St w0 w' (mat 25 2 z.2.1.1 z.1 z.2.1.2 z.2.2.1 z.2.2.2.1 ++ (cxZ A2 :: ks.set ix z.2.2.2.2))) ?_ ?_
  · refine Cd.seq ?_
    refine Cd.region ?_
    refine Ops.mv_ptr rfl rfl rfl ?_
    refine Ops.call (srcNextP_c [CkR 25 A3 0 0 [], cxZ A2] ix 6 hS2 hk hK) rfl rfl rfl ?_
    rintro _ w3 ⟨q, k1, rfl, hq, hK1, hS3⟩
    have hS3 : St w0 w3 (mat 25 2 A3 0 0 [] [] ++ (cxZ A2 :: ks.set ix k1)) := hS3
    have hk1 := setK_get (k' := k1) hk
    refine Ops.nil ?_
    refine thenQ_n ?_
    refine Cd.block ?_
    refine Cd.seq ?_
    refine Cd.region ?_
    refine Ops.eql rfl rfl rfl ?_
    refine Ops.mv_bool rfl rfl rfl ?_
    refine Ops.nil ?_
    refine thenQ_n ?_
    refine Cd.cond_p _ rfl (fun h1 => ?_) (fun h1 => ?_)
    · refine Cd.seq ?_
      refine Cd.region ?_
      refine Ops.mv_ptr rfl rfl rfl ?_
      refine Ops.call (srcNextP_c (mat 25 2 A3 0 0 [] [] ++ [cxZ A2]) ix 4 (by rw [List.append_assoc]; exact hS3) hk1 hK1) rfl rfl rfl ?_
      rintro _ w4 ⟨r, k2, rfl, hr, hK2, hS4⟩
      rw [List.set_set, List.append_assoc] at hS4
      have hk2 := setK_get (k' := k2) hk
      obtain ⟨N, hN⟩ : ∃ N : Nat, 2 + r = N := ⟨(2 + r).toNat, by omega⟩
      have hN5 : N ≤ 5 := by omega
      refine Ops.add rfl rfl rfl (by omega) ?_
      refine Ops.mv_int rfl rfl rfl ?_
      refine Ops.nil ?_
      refine thenQ_n ?_
      refine Cd.seq ?_
      refine Cd.region ?_
      refine Ops.mv_int rfl rfl rfl ?_
      refine Ops.nil ?_
      refine thenQ_n ?_
      refine Cd.block ?_
      rw [hN]
      refine Cd.loop (α := Nat × (Option Addr × Nat) × List SlV × List (List Int)) (fun z => [(0, .pointer As), (2, .pointer A2), (3, .slice z.2.1.1 z.1 z.2.1.2), (4, .int .i64 (N : Int)), (5, .int .i64 (z.1 : Int))])
        (fun z w' => z.1 ≤ N ∧ z.2.2.1.length = z.1 ∧ z.2.2.2.length = z.1 ∧ (∀ l ∈ z.2.2.2, l.length ≤ 20) ∧ St w0 w' (mat 25 2 z.2.1.1 z.1 z.2.1.2 z.2.2.1 z.2.2.2 ++ (cxZ A2 :: ks.set ix k2))) (fun z => N - z.1) (0, (A3, 0), [], []) ⟨rfl, rfl, rfl, rfl, rfl, trivial⟩ ⟨Nat.zero_le _, rfl, rfl, (fun _ h => by cases h), hS4⟩ ?_
      clear hS4 hS3
      rintro ⟨i, ⟨A3, c3⟩, rs, L⟩ e w5 ⟨hi, hrl, hll, hsm, hS5⟩
      dsimp only at hi hrl hll hsm hS5 ⊢
      refine Cd.seq ?_
      refine Cd.seq ?_
      refine Cd.region ?_
      refine Ops.mv_int rfl rfl rfl ?_
      refine Ops.mv_int rfl rfl rfl ?_
      refine Ops.lss rfl rfl rfl ?_
      refine Ops.nil ?_
      refine thenQ_n ?_
      refine Cd.cond_p _ rfl (fun h2 => ?_) (fun h2 => ?_)
      · refine Cd.skip ?_
        refine thenQ_n ?_
        refine Cd.seq ?_
        refine Cd.block ?_
        refine Cd.seq ?_
        refine Cd.region ?_
        refine Ops.bs0 hS5 rfl ?_
        intro A6 w6 hS6
        have hS6 : St w0 w6 (CkI 2 A6 0 0 [] :: (mat 25 2 A3 i c3 rs L ++ (cxZ A2 :: ks.set ix k2))) := hS6
        refine Ops.mv_sl rfl rfl rfl ?_
        refine Ops.nil ?_
        refine thenQ_n ?_
        refine Cd.seq ?_
        refine Cd.seq ?_
        refine Cd.region ?_
        refine Ops.mv_int rfl rfl rfl ?_
        refine Ops.nil ?_
        refine thenQ_n ?_
        refine Cd.block ?_
        refine Cd.loop (α := Nat × (Option Addr × Nat) × List Int) (fun z => [(0, .pointer As), (2, .pointer A2), (3, .slice A3 i c3), (4, .int .i64 (N : Int)), (5, .int .i64 (i : Int)), (6, .slice z.2.1.1 z.2.2.length z.2.1.2), (7, .int .i64 (z.1 : Int))])
          (fun z w' => z.1 ≤ N ∧ z.2.2.length ≤ z.1 ∧ St w0 w' (CkI 2 z.2.1.1 z.2.2.length z.2.1.2 z.2.2 :: (mat 25 2 A3 i c3 rs L ++ (cxZ A2 :: ks.set ix k2)))) (fun z => N - z.1) (0, (A6, 0), []) ⟨rfl, rfl, rfl, rfl, rfl, rfl, rfl, trivial⟩ ⟨Nat.zero_le _, Nat.le_refl _, hS6⟩ ?_
        clear hS6 hS5
        rintro ⟨j, ⟨A6, c6⟩, x⟩ e w7 ⟨hj, hx, hS7⟩
        dsimp only at hj hx hS7 ⊢
        refine Cd.seq ?_
        refine Cd.seq ?_
        refine Cd.region ?_
        refine Ops.mv_int rfl rfl rfl ?_
        refine Ops.mv_int rfl rfl rfl ?_
        refine Ops.lss rfl rfl rfl ?_
        refine Ops.nil ?_
        refine thenQ_n ?_
        refine Cd.cond_p _ rfl (fun h3 => ?_) (fun h3 => ?_)
        · refine Cd.skip ?_
          refine thenQ_n ?_
          refine Cd.seq ?_
          refine Cd.block ?_
          refine Cd.seq ?_
          refine Cd.region ?_
          refine Ops.mv_int rfl rfl rfl ?_
          refine Ops.mv_int rfl rfl rfl ?_
          refine Ops.neq rfl rfl rfl ?_
          refine Ops.nil ?_
          refine thenQ_n ?_
          refine Cd.cond_p _ rfl (fun h4 => ?_) (fun h4 => ?_)
          · refine Cd.region ?_
            refine Ops.mv_sl rfl rfl rfl ?_
            refine Ops.mv_int rfl rfl rfl ?_
            refine Ops.bs1I hS7 rfl rfl rfl ?_
            intro A9 w8 hS8
            refine Ops.appI 1 hS8 rfl (hS8.rdI 0 rfl) rfl rfl rfl (by omega) (by omega) rfl ?_
            intro A10 c10 w9 hS9
            have hS9 : St w0 w9 (CkI 2 A10 (x.length + 1) c10 (x ++ [(j : Int)]) :: (mat 25 2 A3 i c3 rs L ++ (cxZ A2 :: ks.set ix k2))) := hS9.tail
            have hxl : (x ++ [(j : Int)]).length = x.length + 1 := by simp
            refine Ops.mv_sl rfl rfl rfl ?_
            refine Ops.nil ?_
            refine blockQ_n ?_
            refine thenQ_n ?_
            refine Cd.region ?_
            refine Ops.mv_int rfl rfl rfl ?_
            refine Ops.add rfl rfl rfl (by omega) ?_
            refine Ops.mv_int rfl rfl rfl ?_
            refine Ops.nil ?_
            refine thenQ_n ?_
            exact ⟨(j + 1, (A10, c10), x ++ [(j : Int)]), by show N - (j + 1) < N - j; omega, ⟨rfl, rfl, rfl, rfl, rfl, by show Value.slice A10 (x.length + 1) c10 = .slice A10 (x ++ [(j : Int)]).length c10; rw [hxl], rfl, trivial⟩, by show j + 1 ≤ N; omega, by show (x ++ [(j : Int)]).length ≤ j + 1; omega, by rw [← hxl] at hS9; exact hS9⟩
          · refine Cd.skip ?_
            refine blockQ_n ?_
            refine thenQ_n ?_
            refine Cd.region ?_
            refine Ops.mv_int rfl rfl rfl ?_
            refine Ops.add rfl rfl rfl (by omega) ?_
            refine Ops.mv_int rfl rfl rfl ?_
            refine Ops.nil ?_
            refine thenQ_n ?_
            exact ⟨(j + 1, (A6, c6), x), by show N - (j + 1) < N - j; omega, ⟨rfl, rfl, rfl, rfl, rfl, rfl, rfl, trivial⟩, by show j + 1 ≤ N; omega, by show x.length ≤ j + 1; omega, hS7⟩
        · refine Cd.exit ?_
          refine thenQ_x ?_
          refine thenQ_x ?_
          refine blockQ_x ?_
          refine thenQ_n ?_
          refine Cd.region ?_
          refine Ops.mv_sl rfl rfl rfl ?_
          refine Ops.mv_sl rfl rfl rfl ?_
          refine Ops.bs1R hS7 rfl rfl rfl ?_
          intro A7 w6 hS6
          refine Ops.appR 2 hS6 rfl (hS6.rdR 0 rfl) rfl rfl rfl (by omega) (by omega) rfl ?_
          intro A8 c8 w7 hS7
          have hS7 := St.matAdd hS7.tail (by omega)
          refine Ops.mv_sl rfl rfl rfl ?_
          refine Ops.nil ?_
          refine blockQ_n ?_
          refine thenQ_n ?_
          refine Cd.region ?_
          refine Ops.mv_int rfl rfl rfl ?_
          refine Ops.add rfl rfl rfl (by omega) ?_
          refine Ops.mv_int rfl rfl rfl ?_
          refine Ops.nil ?_
          refine thenQ_n ?_
          refine ⟨(i + 1, (A8, c8), rs ++ [⟨A6, x.length, c6⟩], L ++ [x]), by show N - (i + 1) < N - i; omega, ⟨rfl, rfl, rfl, rfl, rfl, trivial⟩, by show i + 1 ≤ N; omega, by show (rs ++ [_]).length = i + 1; simp [hrl], by show (L ++ [x]).length = i + 1; simp [hll], fun l hl => ?_, hS7⟩
          rcases List.mem_append.1 hl with hl | hl
          · exact hsm l hl
          · obtain rfl : l = x := by simpa using hl
            omega
      · refine Cd.exit ?_
        refine thenQ_x ?_
        refine thenQ_x ?_
        refine blockQ_x ?_
        refine blockQ_n ?_
        refine thenQ_n ?_
        exact ⟨(i, (A3, c3), rs, L, k2), ⟨rfl, rfl, rfl, trivial⟩, by show i ≤ 20; omega, hrl, hll, hsm, hK2, hS5⟩
    · refine Cd.seq ?_
      refine Cd.region ?_
      refine Ops.eql rfl rfl rfl ?_
      refine Ops.mv_bool rfl rfl rfl ?_
      refine Ops.nil ?_
      refine thenQ_n ?_
      refine Cd.cond_p _ rfl (fun h2 => ?_) (fun h2 => ?_)
      · refine Cd.seq ?_
        refine Cd.region ?_
        refine Ops.mv_ptr rfl rfl rfl ?_
        refine Ops.call (srcNextP_c (mat 25 2 A3 0 0 [] [] ++ [cxZ A2]) ix 5 (by rw [List.append_assoc]; exact hS3) hk1 hK1) rfl rfl rfl ?_
        rintro _ w4 ⟨r, k2, rfl, hr, hK2, hS4⟩
        rw [List.set_set, List.append_assoc] at hS4
        obtain ⟨N, hN⟩ : ∃ N : Nat, 3 + r = N := ⟨(3 + r).toNat, by omega⟩
        have hN5 : 3 ≤ N ∧ N ≤ 7 := by omega
        refine Ops.add rfl rfl rfl (by omega) ?_
        refine Ops.mv_int rfl rfl rfl ?_
        refine Ops.nil ?_
        refine thenQ_n ?_
        refine Cd.seq ?_
        refine Cd.region ?_
        refine Ops.mv_int rfl rfl rfl ?_
        refine Ops.nil ?_
        refine thenQ_n ?_
        refine Cd.block ?_
        rw [hN]
        refine Cd.loop (α := Nat × (Option Addr × Nat) × List SlV × List (List Int)) (fun z => [(0, .pointer As), (2, .pointer A2), (3, .slice z.2.1.1 z.1 z.2.1.2), (8, .int .i64 (N : Int)), (9, .int .i64 (z.1 : Int))])
          (fun z w' => z.1 ≤ N ∧ z.2.2.1.length = z.1 ∧ z.2.2.2.length = z.1 ∧ (∀ l ∈ z.2.2.2, l.length ≤ 20) ∧ St w0 w' (mat 25 2 z.2.1.1 z.1 z.2.1.2 z.2.2.1 z.2.2.2 ++ (cxZ A2 :: ks.set ix k2))) (fun z => N - z.1) (0, (A3, 0), [], []) ⟨rfl, rfl, rfl, rfl, rfl, trivial⟩ ⟨Nat.zero_le _, rfl, rfl, (fun _ h => by cases h), hS4⟩ ?_
        clear hS4 hS3
        rintro ⟨i, ⟨A3, c3⟩, rs, L⟩ e w5 ⟨hi, hrl, hll, hsm, hS5⟩
        dsimp only at hi hrl hll hsm hS5 ⊢
        refine Cd.seq ?_
        refine Cd.seq ?_
        refine Cd.region ?_
        refine Ops.mv_int rfl rfl rfl ?_
        refine Ops.mv_int rfl rfl rfl ?_
        refine Ops.lss rfl rfl rfl ?_
        refine Ops.nil ?_
        refine thenQ_n ?_
        refine Cd.cond_p _ rfl (fun h3 => ?_) (fun h3 => ?_)
        · refine Cd.skip ?_
          refine thenQ_n ?_
          refine Cd.seq ?_
          refine Cd.block ?_
          refine Cd.region ?_
          refine Ops.mv_sl rfl rfl rfl ?_
          refine Ops.mv_int rfl rfl rfl ?_
          refine Ops.mv_int rfl rfl rfl ?_
          refine Ops.add rfl rfl rfl (by omega) ?_
          refine Ops.mv_int rfl rfl rfl ?_
          refine Ops.rem rfl rfl rfl (by omega) ?_
          refine Ops.bsL [(i : Int), ((i : Int) + 1) % N] hS5 rfl rfl (by decide) (by decide) rfl rfl ?_
          intro A6 w6 hS6
          refine Ops.bs1R hS6 rfl rfl rfl ?_
          intro A7 w6 hS6
          refine Ops.appR 2 hS6 rfl (hS6.rdR 0 rfl) rfl rfl rfl (by omega) (by omega) rfl ?_
          intro A8 c8 w7 hS7
          have hS7 := St.matAdd hS7.tail (by omega)
          refine Ops.mv_sl rfl rfl rfl ?_
          refine Ops.nil ?_
          refine blockQ_n ?_
          refine thenQ_n ?_
          refine Cd.region ?_
          refine Ops.mv_int rfl rfl rfl ?_
          refine Ops.add rfl rfl rfl (by omega) ?_
          refine Ops.mv_int rfl rfl rfl ?_
          refine Ops.nil ?_
          refine thenQ_n ?_
          refine ⟨(i + 1, (A8, c8), rs ++ [⟨A6, 2, 2⟩], L ++ [[(i : Int), ((i : Int) + 1) % N]]), by show N - (i + 1) < N - i; omega, ⟨rfl, rfl, rfl, rfl, rfl, trivial⟩, by show i + 1 ≤ N; omega, by show (rs ++ [_]).length = i + 1; simp [hrl], by show (L ++ [_]).length = i + 1; simp [hll], fun l hl => ?_, hS7⟩
          rcases List.mem_append.1 hl with hl | hl
          · exact hsm l hl
          · obtain rfl : l = [(i : Int), ((i : Int) + 1) % N] := by simpa using hl
            simp
        · refine Cd.exit ?_
          refine thenQ_x ?_
          refine thenQ_x ?_
          refine blockQ_x ?_
          refine blockQ_n ?_
          refine thenQ_n ?_
          exact ⟨(i, (A3, c3), rs, L, k2), ⟨rfl, rfl, rfl, trivial⟩, by show i ≤ 20; omega, hrl, hll, hsm, hK2, hS5⟩
      · refine Cd.seq ?_
        refine Cd.region ?_
        refine Ops.eql rfl rfl rfl ?_
        refine Ops.mv_bool rfl rfl rfl ?_
        refine Ops.nil ?_
        refine thenQ_n ?_
        refine Cd.cond_p _ rfl (fun h3 => ?_) (fun h3 => ?_)
        · refine Cd.region ?_
          refine Ops.bsL [0, 1, 2] (St.refl w3) rfl rfl (by decide) (by decide) rfl rfl ?_
          intro B0 v0 hT
          refine Ops.bsL [0, 2, 3] hT rfl rfl (by decide) (by decide) rfl rfl ?_
          intro B1 v1 hT
          refine Ops.bsL [0, 3, 4] hT rfl rfl (by decide) (by decide) rfl rfl ?_
          intro B2 v2 hT
          refine Ops.bsL [0, 4, 5] hT rfl rfl (by decide) (by decide) rfl rfl ?_
          intro B3 v3 hT
          refine Ops.bsL [0, 1, 5] hT rfl rfl (by decide) (by decide) rfl rfl ?_
          intro B4 v4 hT
          refine Ops.bsL [1, 2, 4] hT rfl rfl (by decide) (by decide) rfl rfl ?_
          intro B5 v5 hT
          refine Ops.bsL [2, 3, 5] hT rfl rfl (by decide) (by decide) rfl rfl ?_
          intro B6 v6 hT
          refine Ops.bsL [1, 3, 4] hT rfl rfl (by decide) (by decide) rfl rfl ?_
          intro B7 v7 hT
          refine Ops.bsL [2, 4, 5] hT rfl rfl (by decide) (by decide) rfl rfl ?_
          intro B8 v8 hT
          refine Ops.bsL [1, 3, 5] hT rfl rfl (by decide) (by decide) rfl rfl ?_
          intro B9 v9 hT
          refine Ops.bsLR [⟨B0, 3, 3⟩, ⟨B1, 3, 3⟩, ⟨B2, 3, 3⟩, ⟨B3, 3, 3⟩, ⟨B4, 3, 3⟩, ⟨B5, 3, 3⟩, ⟨B6, 3, 3⟩, ⟨B7, 3, 3⟩, ⟨B8, 3, 3⟩, ⟨B9, 3, 3⟩] hT rfl rfl (by decide) (by decide) rfl rfl ?_
          intro A6 w6 hT
          have hT2 : St w3 w6 (mat 25 2 A6 10 10 [⟨B0, 3, 3⟩, ⟨B1, 3, 3⟩, ⟨B2, 3, 3⟩, ⟨B3, 3, 3⟩, ⟨B4, 3, 3⟩, ⟨B5, 3, 3⟩, ⟨B6, 3, 3⟩, ⟨B7, 3, 3⟩, ⟨B8, 3, 3⟩, ⟨B9, 3, 3⟩] [[0, 1, 2], [0, 2, 3], [0, 3, 4], [0, 4, 5], [0, 1, 5], [1, 2, 4], [2, 3, 5], [1, 3, 4], [2, 4, 5], [1, 3, 5]]) := hT.perm (List.Perm.cons _ (List.reverse_perm (rowsCk 2 [⟨B0, 3, 3⟩, ⟨B1, 3, 3⟩, ⟨B2, 3, 3⟩, ⟨B3, 3, 3⟩, ⟨B4, 3, 3⟩, ⟨B5, 3, 3⟩, ⟨B6, 3, 3⟩, ⟨B7, 3, 3⟩, ⟨B8, 3, 3⟩, ⟨B9, 3, 3⟩] [[0, 1, 2], [0, 2, 3], [0, 3, 4], [0, 4, 5], [0, 1, 5], [1, 2, 4], [2, 3, 5], [1, 3, 4], [2, 4, 5], [1, 3, 5]])))
          have hS5 := (hS3.sub (List.sublist_cons_self _ _)).call hT2
          refine Ops.mv_sl rfl rfl rfl ?_
          refine Ops.nil ?_
          refine blockQ_n ?_
          refine thenQ_n ?_
          exact ⟨(10, (A6, 10), _, _, k1), ⟨rfl, rfl, rfl, trivial⟩, by show 10 ≤ 20; omega, rfl, rfl, (by show ∀ l ∈ ([[0, 1, 2], [0, 2, 3], [0, 3, 4], [0, 4, 5], [0, 1, 5], [1, 2, 4], [2, 3, 5], [1, 3, 4], [2, 4, 5], [1, 3, 5]] : List (List Int)), l.length ≤ 20; decide), hK1, hS5⟩
        · refine Cd.seq ?_
          refine Cd.region ?_
          refine Ops.mv_ptr rfl rfl rfl ?_
          refine Ops.call (srcNextP_c (mat 25 2 A3 0 0 [] [] ++ [cxZ A2]) ix 7 (by rw [List.append_assoc]; exact hS3) hk1 hK1) rfl rfl rfl ?_
          rintro _ w4 ⟨r, k2, rfl, hr, hK2, hS4⟩
          rw [List.set_set, List.append_assoc] at hS4
          refine Ops.mv_int rfl rfl rfl ?_
          refine Ops.nil ?_
          refine thenQ_n ?_
          refine Cd.block ?_
          refine Cd.loop (α := Int × (Nat × (Option Addr × Nat)) × List SlV × List (List Int) × Ck) (fun z => [(0, .pointer As), (2, .pointer A2), (3, .slice z.2.1.2.1 z.2.1.1 z.2.1.2.2), (10, .int .i64 z.1)])
            (fun z w' => (0 ≤ z.1 ∧ z.1 + z.2.1.1 ≤ 7) ∧ z.2.2.1.length = z.2.1.1 ∧ z.2.2.2.1.length = z.2.1.1 ∧ (∀ l ∈ z.2.2.2.1, l.length ≤ 20) ∧ srcK w0 As z.2.2.2.2 ∧ St w0 w' (mat 25 2 z.2.1.2.1 z.2.1.1 z.2.1.2.2 z.2.2.1 z.2.2.2.1 ++ (cxZ A2 :: ks.set ix z.2.2.2.2))) (fun z => z.1.toNat) (r, (0, (A3, 0)), [], [], k2) ⟨rfl, rfl, rfl, rfl, trivial⟩ ⟨by show 0 ≤ r ∧ r + ((0 : Nat) : Int) ≤ 7; omega, rfl, rfl, (fun _ h => by cases h), hK2, hS4⟩ ?_
          clear hS4 hS3 hK2 hr hk1 hK1
          rintro ⟨p, ⟨i, ⟨A3, c3⟩⟩, rs, L, k2⟩ e w5 ⟨hp, hrl, hll, hsm, hK2, hS5⟩
          dsimp only at hp hrl hll hsm hK2 hS5 ⊢
          have hk2 := setK_get (k' := k2) hk
          refine Cd.seq ?_
          refine Cd.seq ?_
          refine Cd.region ?_
          refine Ops.mv_int rfl rfl rfl ?_
          refine Ops.gtr rfl rfl rfl ?_
          refine Ops.nil ?_
          refine thenQ_n ?_
          refine Cd.cond_p _ rfl (fun h4 => ?_) (fun h4 => ?_)
          · refine Cd.skip ?_
            refine thenQ_n ?_
            refine Cd.seq ?_
            refine Cd.block ?_
            refine Cd.seq ?_
            refine Cd.region ?_
            refine Ops.bs0 hS5 rfl ?_
            intro A6 w6 hS6
            have hS6 : St w0 w6 ((CkI 2 A6 0 0 [] :: (mat 25 2 A3 i c3 rs L ++ [cxZ A2])) ++ ks.set ix k2) := by
              rw [List.cons_append, List.append_assoc]; exact hS6
            refine Ops.mv_sl rfl rfl rfl ?_
            refine Ops.nil ?_
            refine thenQ_n ?_
            refine Cd.seq ?_
            refine Cd.seq ?_
            refine Cd.region ?_
            refine Ops.mv_ptr rfl rfl rfl ?_
            refine Ops.call (srcNextP_c _ ix 4 hS6 hk2 hK2) rfl rfl rfl ?_
            rintro _ w7 ⟨r3, k3, rfl, hr3, hK3, hS7⟩
            rw [List.set_set] at hS7
            refine Ops.add rfl rfl rfl (by omega) ?_
            refine Ops.mv_int rfl rfl rfl ?_
            refine Ops.nil ?_
            refine thenQ_n ?_
            refine Cd.block ?_
            refine Cd.loop (α := Int × (Option Addr × Nat) × List Int × Ck) (fun z => [(0, .pointer As), (2, .pointer A2), (3, .slice A3 i c3), (10, .int .i64 p), (11, .slice z.2.1.1 z.2.2.1.length z.2.1.2), (12, .int .i64 z.1)])
              (fun z w' => (0 ≤ z.1 ∧ z.1 + z.2.2.1.length ≤ 4) ∧ srcK w0 As z.2.2.2 ∧ St w0 w' ((CkI 2 z.2.1.1 z.2.2.1.length z.2.1.2 z.2.2.1 :: (mat 25 2 A3 i c3 rs L ++ [cxZ A2])) ++ ks.set ix z.2.2.2)) (fun z => z.1.toNat) (1 + r3, (A6, 0), [], k3) ⟨rfl, rfl, rfl, rfl, rfl, rfl, trivial⟩ ⟨by show 0 ≤ 1 + r3 ∧ 1 + r3 + ((0 : Nat) : Int) ≤ 4; omega, hK3, hS7⟩ ?_
            clear hS7 hS6 hS5 hK3 hr3 hk2 hK2
            rintro ⟨s, ⟨A6, c6⟩, x, k3⟩ e w8 ⟨hs, hK3, hS8⟩
            dsimp only at hs hK3 hS8 ⊢
            have hk3 := setK_get (k' := k3) hk
            refine Cd.seq ?_
            refine Cd.seq ?_
            refine Cd.region ?_
            refine Ops.mv_int rfl rfl rfl ?_
            refine Ops.gtr rfl rfl rfl ?_
            refine Ops.nil ?_
            refine thenQ_n ?_
            refine Cd.cond_p _ rfl (fun h5 => ?_) (fun h5 => ?_)
            · refine Cd.skip ?_
              refine thenQ_n ?_
              refine Cd.seq ?_
              refine Cd.block ?_
              refine Cd.region ?_
              refine Ops.mv_sl rfl rfl rfl ?_
              refine Ops.mv_ptr rfl rfl rfl ?_
              refine Ops.call (srcNextP_c _ ix 7 hS8 hk3 hK3) rfl rfl rfl ?_
              rintro _ w9 ⟨r4, k4, rfl, hr4, hK4, hS9⟩
              rw [List.set_set] at hS9
              refine Ops.bs1I hS9 rfl rfl rfl ?_
              intro A9 w10 hS10
              refine Ops.appI 1 hS10 rfl (hS10.rdI 0 rfl) rfl rfl rfl (by omega) (by omega) rfl ?_
              intro A10 c10 w11 hS11
              have hS11 : St w0 w11 ((CkI 2 A10 (x.length + 1) c10 (x ++ [r4]) :: (mat 25 2 A3 i c3 rs L ++ [cxZ A2])) ++ ks.set ix k4) := hS11.tail
              have hxl : (x ++ [r4]).length = x.length + 1 := by simp
              refine Ops.mv_sl rfl rfl rfl ?_
              refine Ops.nil ?_
              refine blockQ_n ?_
              refine thenQ_n ?_
              refine Cd.region ?_
              refine Ops.mv_int rfl rfl rfl ?_
              refine Ops.sub rfl rfl rfl (by omega) ?_
              refine Ops.mv_int rfl rfl rfl ?_
              refine Ops.nil ?_
              refine thenQ_n ?_
              exact ⟨(s - 1, (A10, c10), x ++ [r4], k4), by show (s - 1).toNat < s.toNat; omega, ⟨rfl, rfl, rfl, rfl, by show Value.slice A10 (x.length + 1) c10 = .slice A10 (x ++ [r4]).length c10; rw [hxl], rfl, trivial⟩, by show 0 ≤ s - 1 ∧ s - 1 + ((x ++ [r4]).length : Int) ≤ 4; omega, hK4, by rw [← hxl] at hS11; exact hS11⟩
            · have hS8 : St w0 w8 (CkI 2 A6 x.length c6 x :: (mat 25 2 A3 i c3 rs L ++ (cxZ A2 :: ks.set ix k3))) := by
                rw [List.cons_append, List.append_assoc] at hS8; exact hS8
              refine Cd.exit ?_
              refine thenQ_x ?_
              refine thenQ_x ?_
              refine blockQ_x ?_
              refine thenQ_n ?_
              refine Cd.region ?_
              refine Ops.mv_sl rfl rfl rfl ?_
              refine Ops.mv_sl rfl rfl rfl ?_
              refine Ops.bs1R hS8 rfl rfl rfl ?_
              intro A7 w6 hS6
              refine Ops.appR 2 hS6 rfl (hS6.rdR 0 rfl) rfl rfl rfl (by omega) (by omega) rfl ?_
              intro A8 c8 w7 hS7
              have hS7 := St.matAdd hS7.tail (by omega)
              refine Ops.mv_sl rfl rfl rfl ?_
              refine Ops.nil ?_
              refine blockQ_n ?_
              refine thenQ_n ?_
              refine Cd.region ?_
              refine Ops.mv_int rfl rfl rfl ?_
              refine Ops.sub rfl rfl rfl (by omega) ?_
              refine Ops.mv_int rfl rfl rfl ?_
              refine Ops.nil ?_
              refine thenQ_n ?_
              refine ⟨(p - 1, (i + 1, (A8, c8)), rs ++ [⟨A6, x.length, c6⟩], L ++ [x], k3), by show (p - 1).toNat < p.toNat; omega, ⟨rfl, rfl, rfl, rfl, trivial⟩, by show 0 ≤ p - 1 ∧ p - 1 + ((i + 1 : Nat) : Int) ≤ 7; omega, by show (rs ++ [_]).length = i + 1; simp [hrl], by show (L ++ [x]).length = i + 1; simp [hll], fun l hl => ?_, hK3, hS7⟩
              rcases List.mem_append.1 hl with hl | hl
              · exact hsm l hl
              · obtain rfl : l = x := by simpa using hl
                omega
          · refine Cd.exit ?_
            refine thenQ_x ?_
            refine thenQ_x ?_
            refine blockQ_x ?_
            refine blockQ_n ?_
            refine thenQ_n ?_
            exact ⟨(i, (A3, c3), rs, L, k2), ⟨rfl, rfl, rfl, trivial⟩, by show i ≤ 20; omega, hrl, hll, hsm, hK2, hS5⟩
  rintro ⟨n, ⟨A3, c3⟩, rs, L, k2⟩ e w4 ⟨hn, hrl, hll, hsm, hK2, hS4⟩
  dsimp only at hn hrl hll hsm hK2 hS4 ⊢
  have hk2 := setK_get (k' := k2) hk
  refine Cd.seq ?_
  refine Cd.region ?_
  refine Ops.mv_sl rfl rfl rfl ?_
  refine Ops.call (specComplexOf_c A3 n c3 rs L _ (St.rowsI hS4 hll) (by omega) (fun l hl => by have := hsm l hl; omega)) rfl rfl rfl ?_
  rintro _ w5 ⟨A4, c4, rs4, rfl, hrl4, hst4⟩
  have hC := co_cplx L
  generalize coV L = V at *
  generalize coL L = F at *
  have hS5 : St w0 w5 (mat 25 2 A4 F.length c4 rs4 F ++ (cxZ A2 :: ks.set ix k2)) := (hS4.call hst4).sub (by
    rw [List.append_nil]
    exact (List.Sublist.refl _).append (List.sublist_append_right _ _))
  refine Ops.mv_tup rfl rfl rfl ?_
  refine Ops.extract rfl rfl rfl ?_
  refine Ops.extract rfl rfl rfl ?_
  refine Ops.new2 hS5 rfl ?_
  intro A5 w6 hS6
  refine Ops.st_agg 2 0 hS6 rfl rfl rfl rfl rfl rfl rfl ?_
  intro w7 hS7
  have hS7 : St w0 w7 ((cxB A5 V A4 F.length c4 :: (mat 25 2 A4 F.length c4 rs4 F ++ [cxZ A2])) ++ ks.set ix k2) := by
    rw [List.cons_append, List.append_assoc]; exact hS7
  clear hS6 hS5 hS4
  refine Ops.mv_int rfl rfl rfl ?_
  refine Ops.nil ?_
  refine thenQ_n ?_
  refine Cd.seq ?_
  refine Cd.seq ?_
  refine Cd.region ?_
  refine Ops.mv_ptr rfl rfl rfl ?_
  refine Ops.call (srcNextP_c _ ix 4 hS7 hk2 hK2) rfl rfl rfl ?_
  rintro _ w8 ⟨r, k3, rfl, hr, hK3, hS8⟩
  rw [List.set_set, List.cons_append, List.append_assoc] at hS8
  clear hS7
  have hfin : ∀ {w9 : World}, St w0 w9 (cxB A5 V A4 F.length c4 :: (mat 25 2 A4 F.length c4 rs4 F ++ (cxZ A2 :: ks.set ix k3))) → St w0 w9 (cxZ A2 :: cxB A5 V A4 F.length c4 :: (mat 25 2 A4 F.length c4 rs4 F ++ ks.set ix k3)) := fun h => h.perm (List.perm_middle (l₁ := cxB A5 V A4 F.length c4 :: mat 25 2 A4 F.length c4 rs4 F))
  refine Ops.eql rfl rfl rfl ?_
  refine Ops.nil ?_
  refine thenQ_n ?_
  refine Cd.cond_p _ rfl (fun h1 => ?_) (fun h1 => ?_)
  · refine Cd.seq ?_
    refine Cd.region ?_
    refine Ops.ld_agg 1 (hS8.rd 0 rfl) rfl rfl rfl ?_
    refine Ops.bs1I (St.refl w8) rfl rfl rfl ?_
    intro B0 w9 hT
    refine Ops.bs1I hT rfl rfl rfl ?_
    intro B1 w10 hT
    refine Ops.bsLR [⟨B0, 1, 1⟩, ⟨B1, 1, 1⟩] hT rfl rfl (by decide) (by decide) rfl rfl ?_
    intro B2 w11 hT
    have hT : St w8 w11 (mat 25 2 B2 2 2 [⟨B0, 1, 1⟩, ⟨B1, 1, 1⟩] [[0], [1]] ++ []) := hT.perm (List.Perm.cons _ (List.Perm.swap _ _ _))
    refine Ops.bld2c (by exact inferInstance) (by exact inferInstance) rfl rfl rfl rfl rfl rfl rfl ?_
    have hS9 := hS8.later hT.below
    have hM : RowsI w11 A4 F.length rs4 F := St.rowsI (show St w0 w11 (mat 25 2 A4 F.length c4 rs4 F ++ _) from hS9.tail) rfl
    refine Ops.call (l17Join_c V A4 F.length c4 rs4 F 2 B2 2 2 _ [[0], [1]] _ hM (St.rowsI hT rfl) hC two_pts) rfl rfl rfl ?_
    rintro _ w12 ⟨A6, c6, rs6, rfl, hrl6, hst6⟩
    have hJ := jn_cplx hC two_pts
    generalize jnV V F [[0], [1]] = V' at *
    generalize jnLs V F [[0], [1]] = F' at *
    generalize jnK V F [[0], [1]] = K' at *
    have hS10 := hS9.call hst6
    refine Ops.mv_tup rfl rfl rfl ?_
    refine Ops.extract rfl rfl rfl ?_
    refine Ops.extract rfl rfl rfl ?_
    refine Ops.new2 hS10 rfl ?_
    intro A7 w13 hS11
    refine Ops.st_agg 2 0 hS11 rfl rfl rfl rfl rfl rfl rfl ?_
    intro w14 hS12
    have hS12 : St w0 w14 (cxB A7 V' A6 F'.length c6 :: (mat 25 2 A6 F'.length c6 rs6 F' ++ (cxB A5 V A4 F.length c4 :: (mat 25 2 A4 F.length c4 rs4 F ++ (cxZ A2 :: ks.set ix k3))))) := by
      rw [List.append_nil] at hS12; exact hS12
    refine Ops.mv_int rfl rfl rfl ?_
    refine Ops.nil ?_
    refine thenQ_n ?_
    refine Cd.seq ?_
    refine Cd.region ?_
    refine Ops.mv_int rfl rfl rfl ?_
    refine Ops.eql rfl rfl rfl ?_
    refine Ops.nil ?_
    refine thenQ_n ?_
    refine Cd.cond_p _ rfl (fun h2 => ?_) (fun h2 => ?_)
    · have hS13 : St w0 w14 (cxB A5 V A4 F.length c4 :: cxB A7 V' A6 F'.length c6 :: cxZ A2 :: (mat 25 2 A6 F'.length c6 rs6 F' ++ ks.set ix k3)) := by
        refine (hS12.sub (?_ : List.Sublist (cxB A7 V' A6 F'.length c6 :: (mat 25 2 A6 F'.length c6 rs6 F' ++ (cxB A5 V A4 F.length c4 :: (cxZ A2 :: ks.set ix k3)))) _)).perm ?_
        · exact List.Sublist.cons_cons _ ((List.Sublist.refl _).append (List.Sublist.cons_cons _ (List.sublist_append_right _ _)))
        · refine (List.Perm.cons _ (List.perm_middle.trans (List.Perm.cons _ List.perm_middle))).trans ?_
          exact List.Perm.swap _ _ _
      refine Cd.region ?_
      refine Ops.ld_agg 1 (hS13.rd 1 rfl) rfl rfl rfl ?_
      refine Ops.st_agg 2 0 hS13 rfl rfl rfl rfl rfl rfl rfl ?_
      intro w15 hS14
      refine Ops.nil ?_
      refine thenQ_n ?_
      refine Cd.seq ?_
      refine Cd.region ?_
      refine Ops.ld_agg 1 (hS14.rd 0 rfl) rfl rfl rfl ?_
      refine Ops.st_agg 2 2 hS14 rfl rfl rfl rfl rfl rfl rfl ?_
      intro w16 hS15
      refine Ops.nil ?_
      refine thenQ_n ?_
      refine Cd.ret ?_
      skip
      refine retc_r rfl (hS15.rd 2 rfl) ?_
      exact ⟨V', F', A6, c6, rs6, k3, rfl, hJ, hrl6, hK3, hS15.tail.tail.tail⟩
    · have hS13 := hfin (hS12.sub ((List.sublist_append_right _ _).cons _) : St w0 w14 (cxB A5 V A4 F.length c4 :: (mat 25 2 A4 F.length c4 rs4 F ++ (cxZ A2 :: ks.set ix k3))))
      refine Cd.skip ?_
      refine thenQ_n ?_
      refine Cd.seq ?_
      refine Cd.region ?_
      refine Ops.ld_agg 1 (hS13.rd 1 rfl) rfl rfl rfl ?_
      refine Ops.st_agg 2 0 hS13 rfl rfl rfl rfl rfl rfl rfl ?_
      intro w16 hS15
      refine Ops.nil ?_
      refine thenQ_n ?_
      refine Cd.ret ?_
      skip
      refine retc_r rfl (hS15.rd 0 rfl) ?_
      exact ⟨V, F, A4, c4, rs4, k3, rfl, hC, hrl4, hK3, hS15.tail.tail⟩
  · have hS13 := hfin hS8
    refine Cd.skip ?_
    refine thenQ_n ?_
    refine Cd.seq ?_
    refine Cd.region ?_
    refine Ops.ld_agg 1 (hS13.rd 1 rfl) rfl rfl rfl ?_
    refine Ops.st_agg 2 0 hS13 rfl rfl rfl rfl rfl rfl rfl ?_
    intro w16 hS15
    refine Ops.nil ?_
    refine thenQ_n ?_
    refine Cd.ret ?_
    skip
    refine retc_r rfl (hS15.rd 0 rfl) ?_
    exact ⟨V, F, A4, c4, rs4, k3, rfl, hC, hrl4, hK3, hS15.tail.tail⟩
end Go.Proofs.YtdedegbendjmbaaGreatDoor.Vc
/-
 What mostly is a complex, drawn; and lists drawn, walked. Conditions: as each states them.
-/
namespace Go.Proofs.YtdedegbendjmbaaGreatDoor.Vc
open Go.RowKit

theorem St.matAdd2 {w0 w : World} {t1 t2 : TypeId} {a A : Option Addr} {m d n c : Nat} {x : List Int} {rs : List SlV} {L : List (List Int)} {p q : Ck} {X : List Ck} (h : St w0 w (CkI t2 a m d x :: p :: q :: CkR t1 A n c (rs ++ [⟨a, m, d⟩]) :: (rowsCk t2 rs L ++ X))) (hl : rs.length = L.length) : St w0 w (p :: q :: (mat t1 t2 A n c (rs ++ [⟨a, m, d⟩]) (L ++ [x]) ++ X)) := by
 refine h.perm ?_
 unfold mat
 rw [rowsCk_append hl]
 exact (List.perm_append_comm (l₁ := [CkI t2 a m d x]) (l₂ := p :: q :: CkR t1 A n c (rs ++ [⟨a, m, d⟩]) :: rowsCk t2 rs L)).append_right X

/-- something drawn that mostly is a complex, in memory of its own -/
def AnsAny (w0 : World) (ks : List Ck) (ix : Nat) (As : Option Addr) (v : Value) (w' : World) : Prop :=
 ∃ (V : Int) (n : Nat) (F : List (List Int)) (A : Option Addr) (c : Nat) (rs : List SlV) (k' : Ck), v = .agg #[.int .i64 V, .slice A n c] ∧ (-10 ≤ V ∧ V ≤ 200) ∧ n ≤ 401 ∧ rs.length = n ∧ F.length = n ∧ srcK w0 As k' ∧ St w0 w' (mat 25 2 A n c rs F ++ ks.set ix k')

set_option maxHeartbeats 1000000 in
theorem l17DrawAny_c {w0 w : World} {ks : List Ck} (ix : Nat) {As : Option Addr} {k : Ck} (hS : St w0 w ks) (hk : ks[ix]? = some k) (hK : srcK w0 As k) :
    Ret Tryz.prog 91 [.pointer As] w (AnsAny w0 ks ix As) := by
  refine Ret.of_cd Tryz.func91 rfl Tryz.ntmps91 rfl (postc rfl rfl) ?_
  refine Cd.seq ?_
  refine Cd.region ?_
  refine Ops.new2 hS rfl ?_
  intro A2 w1 hS1
  have hS1 : St w0 w1 (cxZ A2 :: ks) := hS1
  refine Ops.nil ?_
  refine thenQ_n ?_
  refine Cd.seq ?_
  refine Cd.region ?_
  refine Ops.mv_ptr rfl rfl rfl ?_
  refine Ops.call (l17Draw_c (ix + 1) hS1 (by exact hk) hK) rfl rfl rfl ?_
  rintro _ w2 ⟨V, F, A, c, rs, k1, rfl, hC, hrl, hK1, hS2⟩
  have hV := hC.v
  have hF4 := hC.f
  refine Ops.new2 hS2 rfl ?_
  intro A3 w3 hS3
  refine Ops.st_agg 2 0 hS3 rfl rfl rfl rfl rfl rfl rfl ?_
  intro w4 hS4
  have hS4 : St w0 w4 (cxZ A2 :: cxB A3 V A F.length c :: (mat 25 2 A F.length c rs F ++ ks.set ix k1)) := St.perm (show St w0 w4 ((cxB A3 V A F.length c :: mat 25 2 A F.length c rs F) ++ (cxZ A2 :: ks.set ix k1)) from hS4) List.perm_middle
  have hk1 := setK_get (k' := k1) hk
  clear hS1 hS2 hS3 hS
  refine Ops.nil ?_
  refine thenQ_n ?_
  refine Cd.join (α := (Int × Nat) × (Option Addr × Nat) × List SlV × List (List Int) × Ck) (fun _ => [(2, .pointer A2), (3, .pointer A3)])
    (fun z w' => (-10 ≤ z.1.1 ∧ z.1.1 ≤ 200) ∧ z.1.2 ≤ 401 ∧ z.2.2.1.length = z.1.2 ∧ z.2.2.2.1.length = z.1.2 ∧ srcK w0 As z.2.2.2.2 ∧ St w0 w' (cxZ A2 :: cxB A3 z.1.1 z.2.1.1 z.1.2 z.2.1.2 :: (mat 25 2 z.2.1.1 z.1.2 z.2.1.2 z.2.2.1 z.2.2.2.1 ++ ks.set ix z.2.2.2.2))) ?_ ?_
  · refine Cd.seq ?_
    refine Cd.region ?_
    refine Ops.mv_ptr rfl rfl rfl ?_
    refine Ops.call (srcNextP_c (cxZ A2 :: cxB A3 V A F.length c :: mat 25 2 A F.length c rs F) ix 24 hS4 hk1 hK1) rfl rfl rfl ?_
    rintro _ wB ⟨q, k2, rfl, hq, hK2, hB⟩
    rw [List.set_set] at hB
    have hB : St w0 wB (cxZ A2 :: cxB A3 V A F.length c :: (mat 25 2 A F.length c rs F ++ ks.set ix k2)) := hB
    have hk2 := setK_get (k' := k2) hk
    generalize hn : F.length = n at *
    clear hS4
    refine Ops.nil ?_
    refine thenQ_n ?_
    refine Cd.block ?_
    refine Cd.seq ?_
    refine Cd.region ?_
    refine Ops.eql rfl rfl rfl ?_
    refine Ops.mv_bool rfl rfl rfl ?_
    refine Ops.nil ?_
    refine thenQ_n ?_
    refine Cd.cond_p _ rfl (fun h1 => ?_) (fun h1 => ?_)
    · skip
      refine Cd.drawN [4, 7] [.ex (.pointer (ptrAt A3 0)), .ex (.int .i64 (V)), .ex (.pointer As), .pr (fun v w' => ∃ A13, v = .slice A13 3 3 ∧ St w0 w' (CkI 2 A13 3 3 [1, -1, 60] :: (cxZ A2 :: cxB A3 V A n c :: (mat 25 2 A n c rs F ++ ks.set ix k2)))), .pr (fun v w' => ∃ r k3, v = .int .i64 r ∧ (-1 ≤ r ∧ r ≤ 60) ∧ srcK w0 As k3 ∧ St w0 w' (cxZ A2 :: cxB A3 V A n c :: (mat 25 2 A n c rs F ++ ks.set ix k3))), .pr (fun v _ => ∃ r : Int, v = .int .i64 (V + r) ∧ (-1 ≤ r ∧ r ≤ 60)), .ex (.pointer (ptrAt A3 0)), .pr (fun _ w' => ∃ r k3, (-1 ≤ r ∧ r ≤ 60) ∧ srcK w0 As k3 ∧ St w0 w' (cxZ A2 :: cxB A3 (V + r) A n c :: (mat 25 2 A n c rs F ++ ks.set ix k3)))] (by kernel_rfl) (by kernel_rfl) (List.forall_mem_cons.2 ⟨Yd.lasts_ex _, (List.forall_mem_cons.2 ⟨Yd.lasts_ex _, (List.forall_mem_cons.2 ⟨Yd.lasts_ex _, (List.forall_mem_cons.2 ⟨Yd.lasts_pr (fun v w w' h hb => by obtain ⟨A13, hv, hT⟩ := h; exact ⟨A13, hv, hT.later hb⟩), (List.forall_mem_cons.2 ⟨Yd.lasts_pr (fun v w w' h hb => by obtain ⟨r, k3, hv, hr, hK3, hT⟩ := h; exact ⟨r, k3, hv, hr, hK3, hT.later hb⟩), (List.forall_mem_cons.2 ⟨Yd.lasts_pr (fun v w w' h hb => h), (List.forall_mem_cons.2 ⟨Yd.lasts_ex _, (List.forall_mem_cons.2 ⟨Yd.lasts_pr (fun v w w' h hb => by obtain ⟨r, k3, hr, hK3, hT⟩ := h; exact ⟨r, k3, hr, hK3, hT.later hb⟩), (fun _ h => by cases h)⟩)⟩)⟩)⟩)⟩)⟩)⟩)⟩) ⟨?_, ?_, ?_, ?_, ?_, ?_, ?_, ?_, trivial⟩ ?_
      · intro e1 w1 cc hlo hhi hb0 hp hun hq
        show Ops _ _ _ _ _ _ _
        have hX : Rd w1 A3 2 (fun j => [Value.int .i64 V, .slice A n c].getD j undef) := by { have hhi := le_of_hi hhi (b := 1) (by kernel_rfl); rcases (show cc = 0 ∨ cc = 1 by omega) with h | h; { exact (hB.later (hb0 h)).rd 1 rfl }; { subst h; obtain ⟨r, k3, _, _, _, hT⟩ := hq 4 _ _ (by kernel_rfl) (by kernel_rfl) (by kernel_rfl) rfl rfl (by kernel_rfl); exact hT.rd 1 rfl } }
        refine Ops.fld hX rfl rfl rfl rfl inferInstance ?_
        refine Ops.nil ?_
        exact AfterN.dn rfl (Below.refl _ _) (by exact rfl)
      · intro e1 w1 cc hlo hhi hb0 hp hun hq
        show Ops _ _ _ _ _ _ _
        have hX : Rd w1 A3 2 (fun j => [Value.int .i64 V, .slice A n c].getD j undef) := by { have hhi := le_of_hi hhi (b := 1) (by kernel_rfl); rcases (show cc = 0 ∨ cc = 1 by omega) with h | h; { exact (hB.later (hb0 h)).rd 1 rfl }; { subst h; obtain ⟨r, k3, _, _, _, hT⟩ := hq 4 _ _ (by kernel_rfl) (by kernel_rfl) (by kernel_rfl) rfl rfl (by kernel_rfl); exact hT.rd 1 rfl } }
        refine Ops.ldf_i hX rfl rfl rfl rfl rfl ?_
        refine Ops.nil ?_
        exact AfterN.dn rfl (Below.refl _ _) (by exact rfl)
      · intro e1 w1 cc hlo hhi hb0 hp hun hq
        show Ops _ _ _ _ _ _ _
        refine Ops.mv_ptr rfl rfl rfl ?_
        refine Ops.nil ?_
        exact AfterN.dn rfl (Below.refl _ _) (by exact rfl)
      · intro e1 w1 cc hlo hhi hb0 hp hun hq
        show Ops _ _ _ _ _ _ _
        replace hlo := le_of_lo hlo (b := 0) (by kernel_rfl)
        replace hhi := le_of_hi hhi (b := 0) (by kernel_rfl)
        obtain rfl : cc = 0 := by omega
        have hb := hb0 rfl
        refine Ops.bsL [1, -1, 60] (St.refl _) rfl rfl (by decide) (by decide) rfl rfl ?_
        intro A13 w9 hst
        refine Ops.nil ?_
        exact AfterN.dn rfl hst.below ⟨A13, rfl, (hB.later hb).call hst⟩
      · intro e1 w1 cc hlo hhi hb0 hp hun hq
        show Ops _ _ _ _ _ _ _
        replace hlo := le_of_lo hlo (b := 0) (by kernel_rfl)
        replace hhi := le_of_hi hhi (b := 0) (by kernel_rfl)
        obtain rfl : cc = 0 := by omega
        have hb := hb0 rfl
        obtain ⟨A13, h13, hT⟩ := (hp 3 _ _ (by kernel_rfl) rfl rfl (by kernel_rfl))
        refine Ops.call (l01PickP_c (CkI 2 A13 3 3 [1, -1, 60] :: cxZ A2 :: cxB A3 V A n c :: mat 25 2 A n c rs F) ix A13 3 3 [1, -1, 60] hT hk2 hK2 (fun k' w' h => h.rdI 0 rfl) (by decide)) rfl (by exact congrArg (fun v => [Value.pointer As, v]) h13) rfl ?_
        rintro _ w9 ⟨x, k3, rfl, hx, hK3, hS9⟩
        rw [List.set_set] at hS9
        refine Ops.nil ?_
        exact AfterT.dn rfl ⟨x, k3, rfl, by (simp at hx; omega), hK3, St.tail hS9⟩
      · intro e1 w1 cc hlo hhi hb0 hp hun hq
        show Ops _ _ _ _ _ _ _
        replace hlo := le_of_lo hlo (b := 1) (by kernel_rfl)
        replace hhi := le_of_hi hhi (b := 1) (by kernel_rfl)
        obtain rfl : cc = 1 := by omega
        have hph := hp 4 _ _ (by kernel_rfl) rfl rfl (by kernel_rfl)
        obtain ⟨r, k3, h14, hr, _, _⟩ := (hp 4 _ _ (by kernel_rfl) rfl rfl (by kernel_rfl))
        refine Ops.add rfl (by exact h14) rfl (by omega) ?_
        refine Ops.nil ?_
        exact AfterN.dn rfl (Below.refl _ _) ⟨r, rfl, hr⟩
      · intro e1 w1 cc hlo hhi hb0 hp hun hq
        show Ops _ _ _ _ _ _ _
        replace hlo := le_of_lo hlo (b := 1) (by kernel_rfl)
        replace hhi := le_of_hi hhi (b := 1) (by kernel_rfl)
        obtain rfl : cc = 1 := by omega
        have hph := hp 4 _ _ (by kernel_rfl) rfl rfl (by kernel_rfl)
        obtain ⟨r, k3, _, _, _, hT⟩ := hph
        refine Ops.fld (hT.rd 1 rfl) rfl rfl rfl rfl inferInstance ?_
        refine Ops.nil ?_
        exact AfterN.dn rfl (Below.refl _ _) (by exact rfl)
      · intro e1 w1 cc hlo hhi hb0 hp hun hq
        show Ops _ _ _ _ _ _ _
        replace hlo := le_of_lo hlo (b := 1) (by kernel_rfl)
        replace hhi := le_of_hi hhi (b := 1) (by kernel_rfl)
        obtain rfl : cc = 1 := by omega
        have hph := hp 4 _ _ (by kernel_rfl) rfl rfl (by kernel_rfl)
        obtain ⟨r, h15, hr⟩ := (hp 5 _ _ (by kernel_rfl) rfl rfl (by kernel_rfl))
        obtain ⟨r', k3, _, _, hK3, hT⟩ := hph
        refine Ops.stf 1 hT rfl rfl (by exact h15) rfl rfl ?_
        intro w9 hS9
        refine Ops.nil ?_
        exact AfterT.st rfl ⟨r, k3, hr, hK3, hS9⟩
      intro u w5 _ hu
      obtain ⟨r, k3, hr, hK3, hT⟩ := hu 7 _ rfl (by kernel_rfl)
      refine blockQ_n ?_
      refine thenQ_n ?_
      exact ⟨((V + r, n), (A, c), rs, F, k3), ⟨rfl, rfl, trivial⟩, by show -10 ≤ V + r ∧ V + r ≤ 200; omega, by show n ≤ 401; omega, hrl, hn, hK3, hT⟩
    · refine Cd.seq ?_
      refine Cd.region ?_
      refine Ops.eql rfl rfl rfl ?_
      refine Ops.mv_bool rfl rfl rfl ?_
      refine Ops.nil ?_
      refine thenQ_n ?_
      refine Cd.cond_p _ rfl (fun h2 => ?_) (fun h2 => ?_)
      · skip
        refine Cd.drawN [3, 6, 8] [.ex (.pointer (ptrAt A3 1)), .ex (.slice (A) (n) (c)), .ex (.pointer As), .pr (fun v w' => ∃ r k3, v = .int .i64 r ∧ srcK w0 As k3 ∧ St w0 w' (cxZ A2 :: cxB A3 V A n c :: (mat 25 2 A n c rs F ++ ks.set ix k3))), .pr (fun v w' => ∃ A9 r k3, v = .slice A9 1 1 ∧ srcK w0 As k3 ∧ St w0 w' (CkI 2 A9 1 1 [r] :: cxZ A2 :: cxB A3 V A n c :: (mat 25 2 A n c rs F ++ ks.set ix k3))), .pr (fun v w' => ∃ A9 r k3 A10, v = .slice A10 1 1 ∧ srcK w0 As k3 ∧ St w0 w' (CkR 25 A10 1 1 [⟨A9, 1, 1⟩] :: CkI 2 A9 1 1 [r] :: cxZ A2 :: cxB A3 V A n c :: (mat 25 2 A n c rs F ++ ks.set ix k3))), .pr (fun v w' => ∃ A9 r k3 A11 c11, v = .slice A11 (n + 1) c11 ∧ srcK w0 As k3 ∧ St w0 w' (cxZ A2 :: cxB A3 V A n c :: (mat 25 2 A11 (n + 1) c11 (rs ++ [⟨A9, 1, 1⟩]) (F ++ [[r]]) ++ ks.set ix k3))), .ex (.pointer (ptrAt A3 1)), .pr (fun _ w' => ∃ A9 r k3 A11 c11, srcK w0 As k3 ∧ St w0 w' (cxZ A2 :: cxB A3 V A11 (n + 1) c11 :: (mat 25 2 A11 (n + 1) c11 (rs ++ [⟨A9, 1, 1⟩]) (F ++ [[r]]) ++ ks.set ix k3)))] (by kernel_rfl) (by kernel_rfl) (List.forall_mem_cons.2 ⟨Yd.lasts_ex _, (List.forall_mem_cons.2 ⟨Yd.lasts_ex _, (List.forall_mem_cons.2 ⟨Yd.lasts_ex _, (List.forall_mem_cons.2 ⟨Yd.lasts_pr (fun v w w' h hb => by obtain ⟨r, k3, hv, hK3, hT⟩ := h; exact ⟨r, k3, hv, hK3, hT.later hb⟩), (List.forall_mem_cons.2 ⟨Yd.lasts_pr (fun v w w' h hb => by obtain ⟨A9, r, k3, hv, hK3, hT⟩ := h; exact ⟨A9, r, k3, hv, hK3, hT.later hb⟩), (List.forall_mem_cons.2 ⟨Yd.lasts_pr (fun v w w' h hb => by obtain ⟨A9, r, k3, A10, hv, hK3, hT⟩ := h; exact ⟨A9, r, k3, A10, hv, hK3, hT.later hb⟩), (List.forall_mem_cons.2 ⟨Yd.lasts_pr (fun v w w' h hb => by obtain ⟨A9, r, k3, A11, c11, hv, hK3, hT⟩ := h; exact ⟨A9, r, k3, A11, c11, hv, hK3, hT.later hb⟩), (List.forall_mem_cons.2 ⟨Yd.lasts_ex _, (List.forall_mem_cons.2 ⟨Yd.lasts_pr (fun v w w' h hb => by obtain ⟨A9, r, k3, A11, c11, hK3, hT⟩ := h; exact ⟨A9, r, k3, A11, c11, hK3, hT.later hb⟩), (fun _ h => by cases h)⟩)⟩)⟩)⟩)⟩)⟩)⟩)⟩)⟩) ⟨?_, ?_, ?_, ?_, ?_, ?_, ?_, ?_, ?_, trivial⟩ ?_
        · intro e1 w1 cc hlo hhi hb0 hp hun hq
          show Ops _ _ _ _ _ _ _
          have hX : Rd w1 A3 2 (fun j => [Value.int .i64 V, .slice A n c].getD j undef) := by { have hhi := le_of_hi hhi (b := 1) (by kernel_rfl); rcases (show cc = 0 ∨ cc = 1 by omega) with h | h; { exact (hB.later (hb0 h)).rd 1 rfl }; { subst h; obtain ⟨r, k3, _, _, hT⟩ := hq 3 _ _ (by kernel_rfl) (by kernel_rfl) (by kernel_rfl) rfl rfl (by kernel_rfl); exact hT.rd 1 rfl } }
          refine Ops.fld hX rfl rfl rfl rfl inferInstance ?_
          refine Ops.nil ?_
          exact AfterN.dn rfl (Below.refl _ _) (by exact rfl)
        · intro e1 w1 cc hlo hhi hb0 hp hun hq
          show Ops _ _ _ _ _ _ _
          have hX : Rd w1 A3 2 (fun j => [Value.int .i64 V, .slice A n c].getD j undef) := by { have hhi := le_of_hi hhi (b := 1) (by kernel_rfl); rcases (show cc = 0 ∨ cc = 1 by omega) with h | h; { exact (hB.later (hb0 h)).rd 1 rfl }; { subst h; obtain ⟨r, k3, _, _, hT⟩ := hq 3 _ _ (by kernel_rfl) (by kernel_rfl) (by kernel_rfl) rfl rfl (by kernel_rfl); exact hT.rd 1 rfl } }
          refine Ops.ldf_s hX rfl rfl rfl rfl rfl ?_
          refine Ops.nil ?_
          exact AfterN.dn rfl (Below.refl _ _) (by exact rfl)
        · intro e1 w1 cc hlo hhi hb0 hp hun hq
          show Ops _ _ _ _ _ _ _
          refine Ops.mv_ptr rfl rfl rfl ?_
          refine Ops.nil ?_
          exact AfterN.dn rfl (Below.refl _ _) (by exact rfl)
        · intro e1 w1 cc hlo hhi hb0 hp hun hq
          show Ops _ _ _ _ _ _ _
          replace hlo := le_of_lo hlo (b := 0) (by kernel_rfl)
          replace hhi := le_of_hi hhi (b := 0) (by kernel_rfl)
          obtain rfl : cc = 0 := by omega
          have hb := hb0 rfl
          refine Ops.call (srcNextP_c (cxZ A2 :: cxB A3 V A n c :: mat 25 2 A n c rs F) ix 8 (hB.later hb) hk2 hK2) rfl rfl rfl ?_
          rintro _ w9 ⟨r, k3, rfl, _, hK3, hS9⟩
          rw [List.set_set] at hS9
          refine Ops.nil ?_
          exact AfterT.dn rfl ⟨r, k3, rfl, hK3, hS9⟩
        · intro e1 w1 cc hlo hhi hb0 hp hun hq
          show Ops _ _ _ _ _ _ _
          replace hlo := le_of_lo hlo (b := 1) (by kernel_rfl)
          replace hhi := le_of_hi hhi (b := 1) (by kernel_rfl)
          obtain rfl : cc = 1 := by omega
          have hph := hp 3 _ _ (by kernel_rfl) rfl rfl (by kernel_rfl)
          obtain ⟨r, k3, h22, hK3, hT⟩ := (hp 3 _ _ (by kernel_rfl) rfl rfl (by kernel_rfl))
          refine Ops.bs1I (St.refl _) (by exact h22) rfl rfl ?_
          intro A9 w9 hst
          refine Ops.nil ?_
          exact AfterN.dn rfl hst.below ⟨A9, r, k3, rfl, hK3, hT.call hst⟩
        · intro e1 w1 cc hlo hhi hb0 hp hun hq
          show Ops _ _ _ _ _ _ _
          replace hlo := le_of_lo hlo (b := 1) (by kernel_rfl)
          replace hhi := le_of_hi hhi (b := 1) (by kernel_rfl)
          obtain rfl : cc = 1 := by omega
          have hph := hp 3 _ _ (by kernel_rfl) rfl rfl (by kernel_rfl)
          obtain ⟨A9, r, k3, h23, hK3, hT⟩ := (hp 4 _ _ (by kernel_rfl) rfl rfl (by kernel_rfl))
          refine Ops.bs1R (St.refl _) (by exact h23) rfl rfl ?_
          intro A10 w9 hst
          refine Ops.nil ?_
          exact AfterN.dn rfl hst.below ⟨A9, r, k3, A10, rfl, hK3, hT.call hst⟩
        · intro e1 w1 cc hlo hhi hb0 hp hun hq
          show Ops _ _ _ _ _ _ _
          replace hlo := le_of_lo hlo (b := 1) (by kernel_rfl)
          replace hhi := le_of_hi hhi (b := 1) (by kernel_rfl)
          obtain rfl : cc = 1 := by omega
          have hph := hp 3 _ _ (by kernel_rfl) rfl rfl (by kernel_rfl)
          obtain ⟨A9, r, k3, A10, h24, hK3, hT⟩ := (hp 5 _ _ (by kernel_rfl) rfl rfl (by kernel_rfl))
          refine Ops.appR 4 hT rfl (hT.rdR 0 rfl) rfl (by exact h24) rfl (by omega) (by omega) rfl ?_
          intro A11 c11 w10 hT10
          refine Ops.nil ?_
          exact AfterT.dn rfl ⟨A9, r, k3, A11, c11, rfl, hK3, St.matAdd2 hT10.tail (by omega)⟩
        · intro e1 w1 cc hlo hhi hb0 hp hun hq
          show Ops _ _ _ _ _ _ _
          replace hlo := le_of_lo hlo (b := 2) (by kernel_rfl)
          replace hhi := le_of_hi hhi (b := 2) (by kernel_rfl)
          obtain rfl : cc = 2 := by omega
          have hph := hp 6 _ _ (by kernel_rfl) rfl rfl (by kernel_rfl)
          obtain ⟨A9, r, k3, A11, c11, _, _, hT⟩ := (hp 6 _ _ (by kernel_rfl) rfl rfl (by kernel_rfl))
          refine Ops.fld (hT.rd 1 rfl) rfl rfl rfl rfl inferInstance ?_
          refine Ops.nil ?_
          exact AfterN.dn rfl (Below.refl _ _) (by exact rfl)
        · intro e1 w1 cc hlo hhi hb0 hp hun hq
          show Ops _ _ _ _ _ _ _
          replace hlo := le_of_lo hlo (b := 2) (by kernel_rfl)
          replace hhi := le_of_hi hhi (b := 2) (by kernel_rfl)
          obtain rfl : cc = 2 := by omega
          have hph := hp 6 _ _ (by kernel_rfl) rfl rfl (by kernel_rfl)
          obtain ⟨A9, r, k3, A11, c11, h25, hK3, hT⟩ := (hp 6 _ _ (by kernel_rfl) rfl rfl (by kernel_rfl))
          refine Ops.stf 1 hT rfl rfl (by exact h25) rfl rfl ?_
          intro w9 hS9
          refine Ops.nil ?_
          exact AfterT.st rfl ⟨A9, r, k3, A11, c11, hK3, hS9⟩
        intro u w5 _ hu
        obtain ⟨A9, r, k3, A11, c11, hK3, hT⟩ := hu 8 _ rfl (by kernel_rfl)
        refine blockQ_n ?_
        refine thenQ_n ?_
        exact ⟨((V, n + 1), (A11, c11), rs ++ [⟨A9, 1, 1⟩], F ++ [[r]], k3), ⟨rfl, rfl, trivial⟩, by show -10 ≤ V ∧ V ≤ 200; omega, by show n + 1 ≤ 401; omega, by show (rs ++ [_]).length = n + 1; simp [hrl], by show (F ++ [_]).length = n + 1; simp [hn], hK3, hT⟩
      · refine Cd.seq ?_
        refine Cd.region ?_
        refine Ops.eql rfl rfl rfl ?_
        refine Ops.mv_bool rfl rfl rfl ?_
        refine Ops.nil ?_
        refine thenQ_n ?_
        refine Cd.cond_p _ rfl (fun h3 => ?_) (fun h3 => ?_)
        · refine Cd.seq ?_
          refine Cd.region ?_
          refine Ops.fld (hB.rd 1 rfl) rfl rfl rfl rfl inferInstance ?_
          refine Ops.ldf_s (hB.rd 1 rfl) rfl rfl rfl rfl rfl ?_
          refine Ops.len rfl rfl ?_
          refine Ops.gtr rfl rfl rfl ?_
          refine Ops.nil ?_
          refine thenQ_n ?_
          refine Cd.cond_p _ rfl (fun h4 => ?_) (fun h4 => ?_)
          · obtain ⟨s0, rs1, rfl⟩ : ∃ s0 rs1, rs = s0 :: rs1 := by cases rs with | nil => exact absurd hrl (by simp; omega) | cons a b => exact ⟨a, b, rfl⟩
            obtain ⟨x0, F1, rfl⟩ : ∃ x0 F1, F = x0 :: F1 := by cases F with | nil => exact absurd hn (by simp; omega) | cons a b => exact ⟨a, b, rfl⟩
            refine Cd.region ?_
            refine Ops.fld (hB.rd 1 rfl) rfl rfl rfl rfl inferInstance ?_
            refine Ops.ldf_s (hB.rd 1 rfl) rfl rfl rfl rfl rfl ?_
            refine Ops.bsL [1, 0] hB rfl rfl (by decide) (by decide) rfl rfl ?_
            intro A9 w5 hS5
            refine Ops.idx (hS5.rdR 3 rfl).2 rfl rfl rfl (by omega) (by omega) ?_
            refine Ops.st_sl 3 hS5 rfl rfl rfl (by omega) ?_
            intro w6 hS6
            have hS6 : St w0 w6 (CkI 2 A9 2 2 [1, 0] :: (cxZ A2 :: cxB A3 V A n c :: CkR 25 A n c (⟨A9, 2, 2⟩ :: rs1) :: CkI 2 s0.a s0.n s0.c x0 :: (rowsCk 2 rs1 F1 ++ ks.set ix k2))) := hS6
            have hS7 : St w0 w6 (cxZ A2 :: cxB A3 V A n c :: (mat 25 2 A n c (⟨A9, 2, 2⟩ :: rs1) ([1, 0] :: F1) ++ ks.set ix k2)) := by
              have h := hS6.sub (List.Sublist.cons_cons _ (List.Sublist.cons_cons _ (List.Sublist.cons_cons _ (List.Sublist.cons_cons _ (List.sublist_cons_self _ _)))))
              exact h.perm ((List.Perm.swap _ _ _).trans (List.Perm.cons _ ((List.Perm.swap _ _ _).trans (List.Perm.cons _ (List.Perm.swap _ _ _)))))
            refine Ops.nil ?_
            refine blockQ_n ?_
            refine thenQ_n ?_
            exact ⟨((V, n), (A, c), ⟨A9, 2, 2⟩ :: rs1, [1, 0] :: F1, k2), ⟨rfl, rfl, trivial⟩, by show -10 ≤ V ∧ V ≤ 200; omega, by show n ≤ 401; omega, by simpa using hrl, by simpa using hn, hK2, hS7⟩
          · refine Cd.skip ?_
            refine blockQ_n ?_
            refine thenQ_n ?_
            exact ⟨((V, n), (A, c), rs, F, k2), ⟨rfl, rfl, trivial⟩, by show -10 ≤ V ∧ V ≤ 200; omega, by show n ≤ 401; omega, hrl, hn, hK2, hB⟩
        · refine Cd.skip ?_
          refine blockQ_n ?_
          refine thenQ_n ?_
          exact ⟨((V, n), (A, c), rs, F, k2), ⟨rfl, rfl, trivial⟩, by show -10 ≤ V ∧ V ≤ 200; omega, by show n ≤ 401; omega, hrl, hn, hK2, hB⟩
  rintro ⟨⟨V, n⟩, ⟨A, c⟩, rs, F, k2⟩ e w5 ⟨hV, hn, hrl, hFl, hK2, hS5⟩
  dsimp only at hV hn hrl hFl hK2 hS5 ⊢
  refine Cd.seq ?_
  refine Cd.region ?_
  refine Ops.ld_agg 1 (hS5.rd 1 rfl) rfl rfl rfl ?_
  refine Ops.st_agg 2 0 hS5 rfl rfl rfl rfl rfl rfl rfl ?_
  intro w6 hS6
  refine Ops.nil ?_
  refine thenQ_n ?_
  refine Cd.ret ?_
  skip
  refine retc_r rfl (hS6.rd 0 rfl) ?_
  exact ⟨V, n, F, A, c, rs, k2, rfl, hV, hn, hrl, hFl, hK2, hS6.tail.tail⟩
end Go.Proofs.YtdedegbendjmbaaGreatDoor.Vc
/-
 Helpers of the laws: big, likeInts, same9. Conditions: as each states them.
-/
namespace Go.Proofs.YtdedegbendjmbaaGreatDoor.Vc
open Go.RowKit

theorem big_c (Ac : Option Addr) (nc cc : Nat) (w : World) : Ret Tryz.prog 26 [.slice Ac nc cc] w (fun v w' => v = .bool (decide (4096 < (nc : Int))) ∧ St w w' []) := by
 refine Ret.of_cd Tryz.func26 rfl Tryz.ntmps26 rfl (post1 rfl) ?_
 refine Cd.seq ?_
 refine Cd.region ?_
 refine Ops.mv_bool rfl rfl rfl ?_
 refine Ops.nil ?_
 refine thenQ_n ?_
 refine Cd.seq ?_
 refine Cd.region ?_
 refine Ops.mv_sl rfl rfl rfl ?_
 refine Ops.len rfl rfl ?_
 refine Ops.gtr rfl rfl rfl ?_
 refine Ops.mv_bool rfl rfl rfl ?_
 refine Ops.nil ?_
 refine thenQ_n ?_
 refine Cd.ret ?_
 refine ret1_b rfl ?_
 exact ⟨rfl, St.refl w⟩

theorem likeInts_c (A : Option Addr) (n c : Nat) (xs : List Int) (B : Option Addr) (m cB : Nat) (ys : List Int) (w : World) (hX : RdI w A n xs) (hY : RdI w B m ys) (hn : n ≤ 9223372036854775806) :
  Ret Tryz.prog 45 [.slice A n c, .slice B m cB] w (fun v w' => v = .bool (decide (xs = ys)) ∧ St w w' []) := by
 have hxl := hX.1
 have hyl := hY.1
 refine Ret.of_cd Tryz.func45 rfl Tryz.ntmps45 rfl (post1 rfl) ?_
 refine Cd.seq ?_
 refine Cd.region ?_
 refine Ops.mv_bool rfl rfl rfl ?_
 refine Ops.nil ?_
 refine thenQ_n ?_
 refine Cd.seq ?_
 refine Cd.seq ?_
 refine Cd.region ?_
 refine Ops.mv_sl rfl rfl rfl ?_
 refine Ops.len rfl rfl ?_
 refine Ops.mv_sl rfl rfl rfl ?_
 refine Ops.len rfl rfl ?_
 refine Ops.neq rfl rfl rfl ?_
 refine Ops.nil ?_
 refine thenQ_n ?_
 refine Cd.cond_p _ rfl (fun h1 => ?_) (fun h1 => ?_)
 ·have hne : xs ≠ ys := fun e => h1 (by rw [← hxl, ← hyl, e])
  refine Cd.seq ?_
  refine Cd.region ?_
  refine Ops.mv_bool rfl rfl rfl ?_
  refine Ops.nil ?_
  refine thenQ_n ?_
  refine Cd.ret ?_
  refine thenQ_r ?_
  refine ret1_b rfl ?_
  exact ⟨by rw [decide_eq_false hne], St.refl w⟩
 ·have hnm : n = m := by omega
  subst hnm
  refine Cd.skip ?_
  refine thenQ_n ?_
  refine Cd.seq ?_
  refine Cd.seq ?_
  refine Cd.region ?_
  refine Ops.mv_int rfl rfl rfl ?_
  refine Ops.nil ?_
  refine thenQ_n ?_
  refine Cd.block ?_
  refine Cd.loop (α := Nat) (fun i => [(0, .slice A n c), (1, .slice B n cB), (5, .int .i64 (i : Int))]) (fun i w' => St w w' [] ∧ i ≤ n ∧ ∀ j, j < i → xs[j]? = ys[j]?) (fun i => n - i) 0 ⟨rfl, rfl, rfl, trivial⟩ ⟨St.refl w, Nat.zero_le _, fun j hj => absurd hj (Nat.not_lt_zero _)⟩ ?_
  rintro i e w1 ⟨hS1, hi, hj⟩
  have hX1 := hS1.oldI hX
  have hY1 := hS1.oldI hY
  refine Cd.seq ?_
  refine Cd.seq ?_
  refine Cd.region ?_
  refine Ops.mv_int rfl rfl rfl ?_
  refine Ops.mv_sl rfl rfl rfl ?_
  refine Ops.len rfl rfl ?_
  refine Ops.lss rfl rfl rfl ?_
  refine Ops.nil ?_
  refine thenQ_n ?_
  refine Cd.cond_p _ rfl (fun h2 => ?_) (fun h2 => ?_)
  ·refine Cd.skip ?_
   refine thenQ_n ?_
   refine Cd.seq ?_
   refine Cd.block ?_
   refine Cd.seq ?_
   refine Cd.draw [.ex (.slice (A) (n) (c)), .ex (.int .i64 ((i : Int))), .ex (.pointer (ptrAt (A) ((i : Int)).toNat)), .ex (.int .i64 (gi (xs) ((i : Int)))), .ex (.slice (B) (n) (cB)), .ex (.int .i64 ((i : Int))), .ex (.pointer (ptrAt (B) ((i : Int)).toNat)), .ex (.int .i64 (gi (ys) ((i : Int)))), .ex (.bool (decide (¬ (gi (xs) ((i : Int))) = (gi (ys) ((i : Int))))))] (by kernel_rfl) (by kernel_rfl) rfl (List.forall_mem_cons.2 ⟨Yd.lasts_ex _, (List.forall_mem_cons.2 ⟨Yd.lasts_ex _, (List.forall_mem_cons.2 ⟨Yd.lasts_ex _, (List.forall_mem_cons.2 ⟨Yd.lasts_ex _, (List.forall_mem_cons.2 ⟨Yd.lasts_ex _, (List.forall_mem_cons.2 ⟨Yd.lasts_ex _, (List.forall_mem_cons.2 ⟨Yd.lasts_ex _, (List.forall_mem_cons.2 ⟨Yd.lasts_ex _, (List.forall_mem_cons.2 ⟨Yd.lasts_ex _, (fun _ h => by cases h)⟩)⟩)⟩)⟩)⟩)⟩)⟩)⟩)⟩) ⟨?_, ?_, ?_, ?_, ?_, ?_, ?_, ?_, ?_, trivial⟩ ?_
   ·intro e1 w1 hb hp hun
    refine Ops.mv_sl rfl rfl rfl ?_
    refine Ops.nil ?_
    exact After.dn (Below.refl _ _) (by exact rfl)
   ·intro e1 w1 hb hp hun
    refine Ops.mv_int rfl rfl rfl ?_
    refine Ops.nil ?_
    exact After.dn (Below.refl _ _) (by exact rfl)
   ·intro e1 w1 hb hp hun
    refine Ops.idx (hX1.later hb).2 rfl rfl rfl (by omega) (by omega) ?_
    refine Ops.nil ?_
    exact After.dn (Below.refl _ _) (by exact rfl)
   ·intro e1 w1 hb hp hun
    refine Ops.ld_int (hX1.later hb) rfl (by omega) rfl rfl ?_
    refine Ops.nil ?_
    exact After.dn (Below.refl _ _) (by exact rfl)
   ·intro e1 w1 hb hp hun
    refine Ops.mv_sl rfl rfl rfl ?_
    refine Ops.nil ?_
    exact After.dn (Below.refl _ _) (by exact rfl)
   ·intro e1 w1 hb hp hun
    refine Ops.mv_int rfl rfl rfl ?_
    refine Ops.nil ?_
    exact After.dn (Below.refl _ _) (by exact rfl)
   ·intro e1 w1 hb hp hun
    refine Ops.idx (hY1.later hb).2 rfl rfl rfl (by omega) (by omega) ?_
    refine Ops.nil ?_
    exact After.dn (Below.refl _ _) (by exact rfl)
   ·intro e1 w1 hb hp hun
    refine Ops.ld_int (hY1.later hb) rfl (by omega) rfl rfl ?_
    refine Ops.nil ?_
    exact After.dn (Below.refl _ _) (by exact rfl)
   ·intro e1 w1 hb hp hun
    refine Ops.neq rfl rfl rfl ?_
    refine Ops.nil ?_
    exact After.dn (Below.refl _ _) (by exact rfl)
   intro u w2 hb2 _
   have hS2 := hS1.later hb2
   refine thenQ_n ?_
   refine Cd.cond_p _ rfl (fun h3 => ?_) (fun h3 => ?_)
   ·have hne : xs ≠ ys := fun e => h3 (by rw [e])
    refine Cd.seq ?_
    refine Cd.region ?_
    refine Ops.mv_bool rfl rfl rfl ?_
    refine Ops.nil ?_
    refine thenQ_n ?_
    refine Cd.ret ?_
    refine blockQ_r ?_
    refine thenQ_r ?_
    refine thenQ_r ?_
    refine blockQ_r ?_
    refine thenQ_r ?_
    refine ret1_b rfl ?_
    exact ⟨by rw [decide_eq_false hne], hS2⟩
   ·have h3 := Decidable.not_not.1 h3
    rw [gi_mem (by omega), gi_mem (by omega)] at h3
    refine Cd.skip ?_
    refine blockQ_n ?_
    refine thenQ_n ?_
    refine Cd.region ?_
    refine Ops.mv_int rfl rfl rfl ?_
    refine Ops.add rfl rfl rfl (by omega) ?_
    refine Ops.mv_int rfl rfl rfl ?_
    refine Ops.nil ?_
    refine thenQ_n ?_
    refine ⟨i + 1, by show n - (i + 1) < n - i; omega, ⟨rfl, rfl, rfl, trivial⟩, hS2, by omega, fun j hj' => ?_⟩
    by_cases e : j = i
    ·subst e; rw [List.getElem?_eq_getElem (by omega), List.getElem?_eq_getElem (by omega), h3]
    ·exact hj j (by omega)
  ·have he : xs = ys := List.ext_getElem? fun j => by
    by_cases hjn : j < n
    ·exact hj j (by omega)
    ·rw [List.getElem?_eq_none (by omega), List.getElem?_eq_none (by omega)]
   refine Cd.exit ?_
   refine thenQ_x ?_
   refine thenQ_x ?_
   refine blockQ_x ?_
   refine thenQ_n ?_
   refine Cd.seq ?_
   refine Cd.region ?_
   refine Ops.mv_bool rfl rfl rfl ?_
   refine Ops.nil ?_
   refine thenQ_n ?_
   refine Cd.ret ?_
   refine ret1_b rfl ?_
   exact ⟨by rw [decide_eq_true he], hS1⟩

theorem same9_c (A : Option Addr) (n c : Nat) (rs : List SlV) (xss : List (List Int)) (B : Option Addr) (m cB : Nat) (rs' : List SlV) (yss : List (List Int)) (w : World) (hX : RowsI w A n rs xss) (hY : RowsI w B m rs' yss) (hn : n ≤ 9223372036854775806) (hr : ∀ x ∈ xss, x.length ≤ 9223372036854775806) :
  Ret Tryz.prog 90 [.slice A n c, .slice B m cB] w (fun v w' => v = .bool (decide (xss = yss)) ∧ St w w' []) := by
 have hxl := hX.len
 have hyl := hY.len
 refine Ret.of_cd Tryz.func90 rfl Tryz.ntmps90 rfl (post1 rfl) ?_
 refine Cd.seq ?_
 refine Cd.region ?_
 refine Ops.mv_bool rfl rfl rfl ?_
 refine Ops.nil ?_
 refine thenQ_n ?_
 refine Cd.seq ?_
 refine Cd.seq ?_
 refine Cd.region ?_
 refine Ops.mv_sl rfl rfl rfl ?_
 refine Ops.len rfl rfl ?_
 refine Ops.mv_sl rfl rfl rfl ?_
 refine Ops.len rfl rfl ?_
 refine Ops.neq rfl rfl rfl ?_
 refine Ops.nil ?_
 refine thenQ_n ?_
 refine Cd.cond_p _ rfl (fun h1 => ?_) (fun h1 => ?_)
 ·have hne : xss ≠ yss := fun e => h1 (by rw [← hxl, ← hyl, e])
  refine Cd.seq ?_
  refine Cd.region ?_
  refine Ops.mv_bool rfl rfl rfl ?_
  refine Ops.nil ?_
  refine thenQ_n ?_
  refine Cd.ret ?_
  refine thenQ_r ?_
  refine ret1_b rfl ?_
  exact ⟨by rw [decide_eq_false hne], St.refl w⟩
 ·have hnm : n = m := by omega
  subst hnm
  refine Cd.skip ?_
  refine thenQ_n ?_
  refine Cd.seq ?_
  refine Cd.seq ?_
  refine Cd.region ?_
  refine Ops.mv_int rfl rfl rfl ?_
  refine Ops.nil ?_
  refine thenQ_n ?_
  refine Cd.block ?_
  refine Cd.loop (α := Nat) (fun i => [(0, .slice A n c), (1, .slice B n cB), (5, .int .i64 (i : Int))]) (fun i w' => St w w' [] ∧ i ≤ n ∧ ∀ j, j < i → xss[j]? = yss[j]?) (fun i => n - i) 0 ⟨rfl, rfl, rfl, trivial⟩ ⟨St.refl w, Nat.zero_le _, fun j hj => absurd hj (Nat.not_lt_zero _)⟩ ?_
  rintro i e w1 ⟨hS1, hi, hj⟩
  have hX1 := hS1.oldRows hX
  have hY1 := hS1.oldRows hY
  refine Cd.seq ?_
  refine Cd.seq ?_
  refine Cd.region ?_
  refine Ops.mv_int rfl rfl rfl ?_
  refine Ops.mv_sl rfl rfl rfl ?_
  refine Ops.len rfl rfl ?_
  refine Ops.lss rfl rfl rfl ?_
  refine Ops.nil ?_
  refine thenQ_n ?_
  refine Cd.cond_p _ rfl (fun h2 => ?_) (fun h2 => ?_)
  ·have hxi := hX1.at_ (i := (i : Int)) (by omega) (by omega)
   have hyi := hY1.at_ (i := (i : Int)) (by omega) (by omega)
   have hri : (rg rs (i : Int)).n ≤ 9223372036854775806 := by
    rw [← hxi.1, gl_mem (by omega)]; exact hr _ (List.getElem_mem _)
   refine Cd.skip ?_
   refine thenQ_n ?_
   refine Cd.seq ?_
   refine Cd.block ?_
   refine Cd.seq ?_
   refine Cd.draw [.ex (.slice (A) (n) (c)), .ex (.int .i64 ((i : Int))), .ex (.pointer (ptrAt (A) ((i : Int)).toNat)), .ex (.slice ((rg (rs) ((i : Int))).a) ((rg (rs) ((i : Int))).n) ((rg (rs) ((i : Int))).c)), .ex (.slice (B) (n) (cB)), .ex (.int .i64 ((i : Int))), .ex (.pointer (ptrAt (B) ((i : Int)).toNat)), .ex (.slice ((rg (rs') ((i : Int))).a) ((rg (rs') ((i : Int))).n) ((rg (rs') ((i : Int))).c)), .ex (.bool (decide (gl xss (i : Int) = gl yss (i : Int)))), .ex (.bool (decide (¬ (gl xss (i : Int) = gl yss (i : Int)))))] (by kernel_rfl) (by kernel_rfl) rfl (List.forall_mem_cons.2 ⟨Yd.lasts_ex _, (List.forall_mem_cons.2 ⟨Yd.lasts_ex _, (List.forall_mem_cons.2 ⟨Yd.lasts_ex _, (List.forall_mem_cons.2 ⟨Yd.lasts_ex _, (List.forall_mem_cons.2 ⟨Yd.lasts_ex _, (List.forall_mem_cons.2 ⟨Yd.lasts_ex _, (List.forall_mem_cons.2 ⟨Yd.lasts_ex _, (List.forall_mem_cons.2 ⟨Yd.lasts_ex _, (List.forall_mem_cons.2 ⟨Yd.lasts_ex _, (List.forall_mem_cons.2 ⟨Yd.lasts_ex _, (fun _ h => by cases h)⟩)⟩)⟩)⟩)⟩)⟩)⟩)⟩)⟩)⟩) ⟨?_, ?_, ?_, ?_, ?_, ?_, ?_, ?_, ?_, ?_, trivial⟩ ?_
   ·intro e1 w1 hb hp hun
    refine Ops.mv_sl rfl rfl rfl ?_
    refine Ops.nil ?_
    exact After.dn (Below.refl _ _) (by exact rfl)
   ·intro e1 w1 hb hp hun
    refine Ops.mv_int rfl rfl rfl ?_
    refine Ops.nil ?_
    exact After.dn (Below.refl _ _) (by exact rfl)
   ·intro e1 w1 hb hp hun
    refine Ops.idx (hX1.top.later hb).2 rfl rfl rfl (by omega) (by omega) ?_
    refine Ops.nil ?_
    exact After.dn (Below.refl _ _) (by exact rfl)
   ·intro e1 w1 hb hp hun
    refine Ops.ld_sl (hX1.top.later hb) rfl (by omega) rfl rfl ?_
    refine Ops.nil ?_
    exact After.dn (Below.refl _ _) (by exact rfl)
   ·intro e1 w1 hb hp hun
    refine Ops.mv_sl rfl rfl rfl ?_
    refine Ops.nil ?_
    exact After.dn (Below.refl _ _) (by exact rfl)
   ·intro e1 w1 hb hp hun
    refine Ops.mv_int rfl rfl rfl ?_
    refine Ops.nil ?_
    exact After.dn (Below.refl _ _) (by exact rfl)
   ·intro e1 w1 hb hp hun
    refine Ops.idx (hY1.top.later hb).2 rfl rfl rfl (by omega) (by omega) ?_
    refine Ops.nil ?_
    exact After.dn (Below.refl _ _) (by exact rfl)
   ·intro e1 w1 hb hp hun
    refine Ops.ld_sl (hY1.top.later hb) rfl (by omega) rfl rfl ?_
    refine Ops.nil ?_
    exact After.dn (Below.refl _ _) (by exact rfl)
   ·intro e1 w1 hb hp hun
    refine Ops.call (likeInts_c _ _ _ _ _ _ _ _ _ (hxi.later hb) (hyi.later hb) hri) rfl rfl rfl ?_
    rintro _ w2 ⟨rfl, hst⟩
    refine Ops.nil ?_
    exact After.dn hst.below (by exact rfl)
   ·intro e1 w1 hb hp hun
    refine Ops.not_p rfl rfl ?_
    refine Ops.nil ?_
    exact After.dn (Below.refl _ _) (by exact rfl)
   intro u w2 hb2 _
   have hS2 := hS1.later hb2
   refine thenQ_n ?_
   refine Cd.cond_p _ rfl (fun h3 => ?_) (fun h3 => ?_)
   ·have hne : xss ≠ yss := fun e => h3 (by rw [e])
    refine Cd.seq ?_
    refine Cd.region ?_
    refine Ops.mv_bool rfl rfl rfl ?_
    refine Ops.nil ?_
    refine thenQ_n ?_
    refine Cd.ret ?_
    refine blockQ_r ?_
    refine thenQ_r ?_
    refine thenQ_r ?_
    refine blockQ_r ?_
    refine thenQ_r ?_
    refine ret1_b rfl ?_
    exact ⟨by rw [decide_eq_false hne], hS2⟩
   ·have h3 := Decidable.not_not.1 h3
    rw [gl_mem (by omega), gl_mem (by omega)] at h3
    refine Cd.skip ?_
    refine blockQ_n ?_
    refine thenQ_n ?_
    refine Cd.region ?_
    refine Ops.mv_int rfl rfl rfl ?_
    refine Ops.add rfl rfl rfl (by omega) ?_
    refine Ops.mv_int rfl rfl rfl ?_
    refine Ops.nil ?_
    refine thenQ_n ?_
    refine ⟨i + 1, by show n - (i + 1) < n - i; omega, ⟨rfl, rfl, rfl, trivial⟩, hS2, by omega, fun j hj' => ?_⟩
    by_cases e : j = i
    ·subst e; rw [List.getElem?_eq_getElem (by omega), List.getElem?_eq_getElem (by omega), h3]
    ·exact hj j (by omega)
  ·have he : xss = yss := List.ext_getElem? fun j => by
    by_cases hjn : j < n
    ·exact hj j (by omega)
    ·rw [List.getElem?_eq_none (by omega), List.getElem?_eq_none (by omega)]
   refine Cd.exit ?_
   refine thenQ_x ?_
   refine thenQ_x ?_
   refine blockQ_x ?_
   refine thenQ_n ?_
   refine Cd.seq ?_
   refine Cd.region ?_
   refine Ops.mv_bool rfl rfl rfl ?_
   refine Ops.nil ?_
   refine thenQ_n ?_
   refine Cd.ret ?_
   refine ret1_b rfl ?_
   exact ⟨by rw [decide_eq_true he], hS1⟩
end Go.Proofs.YtdedegbendjmbaaGreatDoor.Vc
/-
 A statement's frame: the arguments opened, and what a walk gives told in the statement's own words. Conditions: as each states them.
-/
namespace Go.Proofs.YtdedegbendjmbaaGreatDoor.Vc
open Go.RowKit Go.ChangeShapes Go.WideShapes

theorem laid : laidOutB Tryz.prog = true := by kernel_rfl
theorem own : ownKnob Tryz.prog.godebug = none := by kernel_rfl

section
variable {H : Type} {enc : TypeId × Value → H} {P : Program}
theorem trodAll_stays (hl : laidOutB P = true) {W W' : World} (hb : Below W.heap.size W W') {sp : Nat → Bool} : ∀ {ts : List TypeId} {vs : List Value} {ds : List (DataW H)} {ps : List MemPlace}, (ts.all fun t => P.readableRec t && Nat.blt t P.types.size) = true → (∀ p ∈ ps, p.block < W.heap.size) → (∀ p ∈ ps, sp p.block = true) →
  DataW.TrodAll enc P W 0 (fun _ => true) true ts vs ds ps → DataW.TrodAll enc P W' 0 sp true ts vs ds ps
 | [], [], [], _, _, _, _, h => h
 | t :: ts, v :: vs, d :: ds, ps, hr, hlt, hsp, h => by
  obtain ⟨p, q, h1, h2, rfl⟩ := h
  simp only [List.all_cons, Bool.and_eq_true] at hr
  exact ⟨p, q, WideElems.Trod_stays hl hr.1.1 (by simpa [Nat.blt_eq] using hr.1.2) h1 (fun x hx => hb.same (hlt x (by simp [hx]))) (fun x hx => hsp x (by simp [hx])), trodAll_stays hl hb hr.2 (fun x hx => hlt x (by simp [hx])) (fun x hx => hsp x (by simp [hx])) h2, rfl⟩
 | [], [], _ :: _, _, _, _, _, h => h.elim
 | [], _ :: _, _, _, _, _, _, h => by cases h
 | _ :: _, [], _, _, _, _, _, h => by cases h
 | _ :: _, _ :: _, [], _, _, _, _, h => by cases h

/-- what a law's walk gives, in its statement's words: it returns true, and its arguments read as they did -/
theorem post_law {f : Func} {s : ChangeSpec} {apart : Bool} {W W' : World} {args : Array Value} {ds gs : List (DataW H)} {before : List MemPlace} (hl : laidOutB P = true) {b : TypeId} (hu : P.underlying b = some .bool) (hres : f.resultTypes = #[b]) (hv : s.vars = [])
    (hr : (f.params.toList.all fun t => P.readableRec t && Nat.blt t P.types.size) = true) (hfn : (s.fn H (ds ++ gs)).results = [.lit (.bool true)] ∧ (s.fn H (ds ++ gs)).args = ds ∧ (s.fn H (ds ++ gs)).vars = [])
    (hW : DataW.Whole enc P f.params.toList s.vars apart W args.toList ds gs before) (hb : Below W.heap.size W W') : s.post enc P f apart true false false W args (.bool true) W' := by
  have hlt : ∀ x ∈ before, x.block < W.heap.size := fun x hx => hW.lt x hx
  have hW0 := hW
  obtain ⟨p, q, hA, hV, rfl, hz, hn⟩ := hW
  rw [hv] at hV
  obtain ⟨rfl, rfl⟩ := trodVars_none hV
  have hlp : ∀ x ∈ p, x.block < W.heap.size := fun x hx => hlt x (by simp [hx])
  have hA' : ∀ sp : Nat → Bool, (∀ x ∈ p, sp x.block = true) → DataW.TrodAll enc P W' 0 sp true f.params.toList args.toList (s.fn H (ds ++ [])).args p := fun sp hsp => by
    rw [hfn.2.1]
    exact trodAll_stays hl hb hr hlp hsp hA
  have hR' : ∀ (b0 : Nat) (sp : Nat → Bool) (hd : Bool), DataW.TrodAll enc P W' b0 sp hd f.resultTypes.toList ((Value.bool true).resultList f.resultTypes.size) (s.fn H (ds ++ [])).results [] := fun b0 sp hd => by
    rw [hfn.1, hres]
    exact trodAll_cons_mk (shut_bool hu _) trodAll_mk0
  have hV' : ∀ sp : Nat → Bool, DataW.TrodVars enc P W' sp s.vars (s.fn H (ds ++ [])).vars [] := fun sp => by
    rw [hfn.2.2, hv]; rfl
  refine ⟨ds, [], p ++ [], [], p, [], hW0, hR' _ _ _, hA' _ (fun x hx => by simpa using hlp x hx), hV' _, World.keptBut_mono (fun x hx => ⟨hx, by simpa using hx⟩) (hb.frame (· ∈ p ++ [])), fun _ => ⟨fun j t r h1 h2 => ?_, _, _, ([] ++ p) ++ [], ⟨[] ++ p, [], trodAll_append (hA' _ fun _ _ => rfl) (hR' _ _ _), hV' _, rfl, fun c off hc => ?_, fun ha => by simpa using hn ha⟩, fun x hx _ => by simpa using hx⟩⟩
  · rw [hres] at h1 h2
    cases j with
    | zero =>
      simp at h1
      subst h1
      simp [Value.resultList] at h2
      subst h2
      exact okWide_bool_mk hu _
    | succ j => simp at h1
  · have hin : MemPlace.cell c off ∈ p ++ [] := by simpa using hc
    rw [hb.frozen (hlt _ hin)]
    exact hz c off hin
end
end Go.Proofs.YtdedegbendjmbaaGreatDoor.Vc
/-
 Arguments opened: a struct of one matrix, a list of integers. Conditions: as each states them.
-/
namespace Go.Proofs.YtdedegbendjmbaaGreatDoor.Vc
open Go.RowKit Go.ChangeShapes Go.WideShapes

section
variable {H : Type} {enc : TypeId × Value → H} {P : Program}
end
end Go.Proofs.YtdedegbendjmbaaGreatDoor.Vc
/-
 An argument that is a list of bytes, opened. Conditions: as stated.
-/
namespace Go.Proofs.YtdedegbendjmbaaGreatDoor.Vc
open Go.RowKit Go.ChangeShapes Go.WideShapes
section
variable {H : Type} {enc : TypeId × Value → H} {P : Program}
theorem open_ybs {w : World} {r : Go.Reach} {b0 : Nat} {t e : TypeId} {v : Value} {d : DataW H} {p : List MemPlace} (ht : P.underlying t = some (.slice e)) (he : P.underlying e = some (.int .u8)) (ce : P.cellsOf e = 1)
    (hval : Value.okWide P w r b0 t v) (h : DataW.Trod enc P w 0 (fun _ => true) true t v d p) : ∃ A n c bs, v = .slice A n c ∧ RdY w A n bs ∧ n ≤ c ∧ c ≤ 9223372036854775807 := by
  obtain ⟨a, len, cap, rfl⟩ := okWide_slice ht hval
  obtain ⟨fuel, hf⟩ := h
  have hcs : (Value.slice a len cap).cells.toList = [Value.slice a len cap] := rfl
  rw [hcs] at hf
  rcases open_ints ht he ce hf with ⟨h1, _⟩ | ⟨b, n, c, zs, h1, _, hl, hm, hz, _, hc, hwz⟩
  · simp only [List.cons.injEq, and_true] at h1
    exact ⟨none, 0, 0, [], h1, ⟨rfl, fun x hx => (nomatch hx), fun k hk => absurd hk (Nat.not_lt_zero _)⟩, Nat.le_refl _, by omega⟩
  · simp only [List.cons.injEq, and_true] at h1
    rw [if_pos rfl] at hz
    refine ⟨some b, n, c, zs.take n, h1, ⟨?_, fun x hx => ?_, fun k hk => ?_⟩, hl, by simpa [maxLen] using hm⟩
    · simp; omega
    · have := hwz x (List.mem_of_mem_take hx)
      simpa [Lit.wf, IntKind.min, IntKind.max, IntKind.signed, IntKind.bits] using this
    · refine ⟨b.add k, rfl, ?_⟩
      rw [hc k (by omega)]
      simp [List.getD_eq_getElem?_getD, List.getElem?_take, hk]
end
end Go.Proofs.YtdedegbendjmbaaGreatDoor.Vc
/-
 Lists drawn; helpers of the laws of complexes, walked. Conditions: as each states them.
-/
namespace Go.Proofs.YtdedegbendjmbaaGreatDoor.Vc
open Go.RowKit

theorem likeComplex9_c (V : Int) (A : Option Addr) (n c : Nat) (rs : List SlV) (F : List (List Int)) (W : Int) (B : Option Addr) (m d : Nat) (ts : List SlV) (G : List (List Int)) (w : World) (hR : RowsI w A n rs F) (hQ : RowsI w B m ts G) (hn : n ≤ 1000000) (hr : ∀ f ∈ F, f.length ≤ 1000000) :
  Ret Tryz.prog 30 [.agg #[.int .i64 V, .slice A n c], .agg #[.int .i64 W, .slice B m d]] w (fun v w' => v = .bool (decide (V = W ∧ F = G)) ∧ St w w' []) := by
 refine Ret.of_cd Tryz.func30 rfl Tryz.ntmps30 rfl (post1 rfl) ?_
 refine Cd.seq ?_
 refine Cd.region ?_
 refine Ops.box2 (St.refl w) rfl rfl ?_
 intro A2 w1 hS1
 refine Ops.box2 hS1 rfl rfl ?_
 intro A3 w2 hS2
 refine Ops.mv_bool rfl rfl rfl ?_
 refine Ops.nil ?_
 refine thenQ_n ?_
 refine Cd.seq ?_
 refine Cd.region ?_
 refine Ops.fld (hS2.rd 1 rfl) rfl rfl rfl rfl inferInstance ?_
 refine Ops.ldf_i (hS2.rd 1 rfl) rfl rfl rfl rfl rfl ?_
 refine Ops.fld (hS2.rd 0 rfl) rfl rfl rfl rfl inferInstance ?_
 refine Ops.ldf_i (hS2.rd 0 rfl) rfl rfl rfl rfl rfl ?_
 refine Ops.eql rfl rfl rfl ?_
 refine Ops.mv_bool rfl rfl rfl ?_
 refine Ops.split_p 10 rfl (fun h1 => ?_) (fun h1 => ?_)
 ·refine Ops.rung rfl rfl rfl ?_
  refine Ops.fld (hS2.rd 1 rfl) rfl rfl rfl rfl inferInstance ?_
  refine Ops.rung rfl rfl rfl ?_
  refine Ops.ldf_s (hS2.rd 1 rfl) rfl rfl rfl rfl rfl ?_
  refine Ops.rung rfl rfl rfl ?_
  refine Ops.fld (hS2.rd 0 rfl) rfl rfl rfl rfl inferInstance ?_
  refine Ops.rung rfl rfl rfl ?_
  refine Ops.ldf_s (hS2.rd 0 rfl) rfl rfl rfl rfl rfl ?_
  refine Ops.rung rfl rfl rfl ?_
  refine Ops.call (same9_c _ _ _ _ _ _ _ _ _ _ _ (hS2.oldRows hR) (hS2.oldRows hQ) (by omega) (fun x hx => by have := hr x hx; omega)) rfl rfl rfl ?_
  rintro _ w3 ⟨rfl, hst⟩
  refine Ops.pick_t rfl rfl rfl ?_
  refine Ops.mv_bool rfl rfl rfl ?_
  refine Ops.nil ?_
  refine thenQ_n ?_
  refine Cd.ret ?_
  refine ret1_b rfl ?_
  exact ⟨congrArg Value.bool (decide_eq_decide.2 ⟨fun h => ⟨h1, h⟩, fun h => h.2⟩), (hS2.later hst.below).none⟩
 ·refine Ops.skipg rfl rfl rfl rfl rfl ?_
  refine Ops.skipg rfl rfl rfl rfl rfl ?_
  refine Ops.skipg rfl rfl rfl rfl rfl ?_
  refine Ops.skipg rfl rfl rfl rfl rfl ?_
  refine Ops.skipg rfl rfl rfl rfl rfl ?_
  refine Ops.pick_f rfl rfl rfl ?_
  refine Ops.mv_bool rfl rfl rfl ?_
  refine Ops.nil ?_
  refine thenQ_n ?_
  refine Cd.ret ?_
  refine ret1_b rfl ?_
  exact ⟨by rw [decide_eq_false (fun h => h1 h.1)], hS2.none⟩

end Go.Proofs.YtdedegbendjmbaaGreatDoor.Vc
/-
 The library's CompactFunc on rows of lists by their equality, walked. Conditions: that the lists can be read while the row is turned about.
-/
namespace Go.Proofs.YtdedegbendjmbaaGreatDoor.Vc
open Go.RowKit

def kepC (xs : Nat → List Int) (n : Nat) : List Nat := (List.range n).filter fun j => decide (j = 0 ∨ xs j ≠ xs (j - 1))
theorem kepC_succ (xs : Nat → List Int) (n : Nat) : kepC xs (n + 1) = kepC xs n ++ (if n = 0 ∨ xs n ≠ xs (n - 1) then [n] else []) := by
 unfold kepC
 rw [List.range_succ, List.filter_append]
 congr 1
 by_cases h : n = 0 ∨ xs n ≠ xs (n - 1) <;> simp [h]
theorem kepC_all {xs : Nat → List Int} {n : Nat} (h : ∀ j, j < n → j = 0 ∨ xs j ≠ xs (j - 1)) : kepC xs n = List.range n := by
 unfold kepC
 rw [List.filter_eq_self]
 intro j hj
 exact decide_eq_true (h j (List.mem_range.1 hj))
theorem kepC_len (xs : Nat → List Int) (n : Nat) : (kepC xs n).length ≤ n := by
 have := List.length_filter_le (fun j => decide (j = 0 ∨ xs j ≠ xs (j - 1))) (List.range n)
 unfold kepC
 simpa using this

theorem compactF_c {w0 w : World} {ks : List Ck} (i : Nat) {t : TypeId} {A : Option Addr} {n c : Nat} {ss : List SlV} (hS : St w0 w ks) (hk : ks[i]? = some (CkR t A n c ss)) (hn : n ≤ 4000000000000) (xs : Nat → List Int) (hcap : ∀ a, a < n → (sv ss a).n ≤ 9223372036854775807)
    (hrow : ∀ (w' : World) (q : List Nat), q.length = n → (∀ j ∈ q, j < n) → St w0 w' (ks.set i (CkR t A n c (q.map (sv ss)))) → ∀ a, a < n → RdI w' (sv ss a).a (sv ss a).n (xs a)) :
    Ret Tryz.prog 141 [.slice A n c, .func (.func 142) #[] #[]] w (fun v w' => v = .slice A (kepC xs n).length c ∧ St w0 w' (ks.set i (CkR t A (kepC xs n).length c ((kepC xs n).map (sv ss))))) := by
  have hil : i < ks.length := (List.getElem?_eq_some_iff.1 hk).1
  obtain ⟨h1, h2, h3, -⟩ := hS.getC hk (isM_R _)
  have hsl : ss.length = n := by have : (ss.map SlV.v).length = n := h1; simpa using this
  have h2 : n ≤ c := h2
  have h3 : c ≤ maxLen := h3
  have hrng : (List.range n).map (sv ss) = ss := by
    apply List.ext_getElem
    · simp [hsl]
    · intro j h1 h2
      simp [sv, List.getD_eq_getElem?_getD, h2]
  have hid : ks.set i (CkR t A n c ((List.range n).map (sv ss))) = ks := by rw [hrng, set_id hk]
  have hSi : ∀ {w' : World}, St w0 w' ks → St w0 w' (ks.set i (CkR t A n c ((List.range n).map (sv ss)))) := fun h => by rw [hid]; exact h
  have get : ∀ l, (ks.set i l)[i]? = some l := fun l => by simp [hil]
  have hrg0 : ∀ j : Nat, rg ss (j : Int) = sv ss j := fun j => rfl
  have hrd : ∀ {w' : World}, St w0 w' ks → ∀ a, a < n → RdI w' (sv ss a).a (sv ss a).n (xs a) := fun h => hrow _ (List.range n) (by simp) (fun j hj => List.mem_range.1 hj) (hSi h)
  refine Ret.of_cd Tryz.func141 rfl Tryz.ntmps141 rfl (post1 rfl) ?_
  refine Cd.seq ?_
  refine Cd.region ?_
  refine Ops.mv_sl rfl rfl rfl ?_
  refine Ops.nil ?_
  refine thenQ_n ?_
  refine Cd.seq ?_
  refine Cd.seq ?_
  refine Cd.region ?_
  refine Ops.mv_sl rfl rfl rfl ?_
  refine Ops.len rfl rfl ?_
  refine Ops.lss rfl rfl rfl ?_
  refine Ops.nil ?_
  refine thenQ_n ?_
  refine Cd.cond_p _ rfl (fun h4 => ?_) (fun h4 => ?_)
  · have hall : kepC xs n = List.range n := kepC_all fun j hj => .inl (by omega)
    refine Cd.seq ?_
    refine Cd.region ?_
    refine Ops.mv_sl rfl rfl rfl ?_
    refine Ops.mv_sl rfl rfl rfl ?_
    refine Ops.nil ?_
    refine thenQ_n ?_
    refine Cd.ret ?_
    refine thenQ_r ?_
    refine ret1_s rfl ?_
    rw [hall, List.length_range, hid]
    exact ⟨rfl, hS⟩
  · refine Cd.skip ?_
    refine thenQ_n ?_
    refine Cd.seq ?_
    refine Cd.seq ?_
    refine Cd.region ?_
    refine Ops.mv_int rfl rfl rfl ?_
    refine Ops.nil ?_
    refine thenQ_n ?_
    refine Cd.block ?_
    refine Cd.loop (α := Nat) (fun k => [(0, .slice A n c), (1, .func (.func 142) #[] #[]), (5, .int .i64 (k : Int))]) (fun k w' => 1 ≤ k ∧ k ≤ n ∧ (∀ j, j < k → j = 0 ∨ xs j ≠ xs (j - 1)) ∧ St w0 w' ks) (fun k => n - k) 1 ⟨rfl, rfl, rfl, trivial⟩ ⟨Nat.le_refl _, by omega, fun j hj => .inl (by omega), hS⟩ ?_
    rintro k e w1 ⟨hk1, hkn, hne, hS1⟩
    refine Cd.seq ?_
    refine Cd.seq ?_
    refine Cd.region ?_
    refine Ops.mv_int rfl rfl rfl ?_
    refine Ops.mv_sl rfl rfl rfl ?_
    refine Ops.len rfl rfl ?_
    refine Ops.lss rfl rfl rfl ?_
    refine Ops.nil ?_
    refine thenQ_n ?_
    refine Cd.cond_p _ rfl (fun h5 => ?_) (fun h5 => ?_)
    · have hR1 := hS1.rdR i hk
      have hra : RdI w1 (rg ss (k : Int)).a (rg ss (k : Int)).n (xs k) := hrd hS1 k (by omega)
      have hrb : RdI w1 (rg ss ((k : Int) - 1)).a (rg ss ((k : Int) - 1)).n (xs (k - 1)) := by
        rw [show (k : Int) - 1 = ((k - 1 : Nat) : Int) by omega]
        exact hrd hS1 (k - 1) (by omega)
      have hca : (rg ss (k : Int)).n ≤ 9223372036854775807 := hcap k (by omega)
      refine Cd.skip ?_
      refine thenQ_n ?_
      refine Cd.seq ?_
      refine Cd.block ?_
      refine Cd.seq ?_
      by_cases h6 : xs k = xs (k - 1)
      · --dup 2
        refine Cd.draw [.ex (.func (.func 142) #[] #[]), .ex (.slice (A) (n) (c)), .ex (.int .i64 ((k : Int))), .ex (.pointer (ptrAt (A) ((k : Int)).toNat)), .ex (.slice ((rg (ss) ((k : Int))).a) ((rg (ss) ((k : Int))).n) ((rg (ss) ((k : Int))).c)), .ex (.slice (A) (n) (c)), .ex (.int .i64 ((k : Int))), .ex (.int .i64 (((k : Int)) - ((1 : Int)))), .ex (.pointer (ptrAt (A) (((k : Int)) - ((1 : Int))).toNat)), .ex (.slice ((rg (ss) (((k : Int)) - ((1 : Int)))).a) ((rg (ss) (((k : Int)) - ((1 : Int)))).n) ((rg (ss) (((k : Int)) - ((1 : Int)))).c)), .ex (.bool (true))] (by kernel_rfl) (by kernel_rfl) rfl (List.forall_mem_cons.2 ⟨Yd.lasts_ex _, (List.forall_mem_cons.2 ⟨Yd.lasts_ex _, (List.forall_mem_cons.2 ⟨Yd.lasts_ex _, (List.forall_mem_cons.2 ⟨Yd.lasts_ex _, (List.forall_mem_cons.2 ⟨Yd.lasts_ex _, (List.forall_mem_cons.2 ⟨Yd.lasts_ex _, (List.forall_mem_cons.2 ⟨Yd.lasts_ex _, (List.forall_mem_cons.2 ⟨Yd.lasts_ex _, (List.forall_mem_cons.2 ⟨Yd.lasts_ex _, (List.forall_mem_cons.2 ⟨Yd.lasts_ex _, (List.forall_mem_cons.2 ⟨Yd.lasts_ex _, (fun _ h => by cases h)⟩)⟩)⟩)⟩)⟩)⟩)⟩)⟩)⟩)⟩)⟩) ⟨?_, ?_, ?_, ?_, ?_, ?_, ?_, ?_, ?_, ?_, ?_, trivial⟩ ?_
        · intro e1 w1 hb hp hun
          refine Ops.mv_fn rfl rfl rfl ?_
          refine Ops.nil ?_
          exact After.dn (Below.refl _ _) (by exact rfl)
        · intro e1 w1 hb hp hun
          refine Ops.mv_sl rfl rfl rfl ?_
          refine Ops.nil ?_
          exact After.dn (Below.refl _ _) (by exact rfl)
        · intro e1 w1 hb hp hun
          refine Ops.mv_int rfl rfl rfl ?_
          refine Ops.nil ?_
          exact After.dn (Below.refl _ _) (by exact rfl)
        · intro e1 w1 hb hp hun
          refine Ops.idx (hR1.later hb).2 rfl rfl rfl (by omega) (by omega) ?_
          refine Ops.nil ?_
          exact After.dn (Below.refl _ _) (by exact rfl)
        · intro e1 w1 hb hp hun
          refine Ops.ld_sl (hR1.later hb) rfl (by omega) rfl rfl ?_
          refine Ops.nil ?_
          exact After.dn (Below.refl _ _) (by exact rfl)
        · intro e1 w1 hb hp hun
          refine Ops.mv_sl rfl rfl rfl ?_
          refine Ops.nil ?_
          exact After.dn (Below.refl _ _) (by exact rfl)
        · intro e1 w1 hb hp hun
          refine Ops.mv_int rfl rfl rfl ?_
          refine Ops.nil ?_
          exact After.dn (Below.refl _ _) (by exact rfl)
        · intro e1 w1 hb hp hun
          refine Ops.sub rfl rfl rfl (by omega) ?_
          refine Ops.nil ?_
          exact After.dn (Below.refl _ _) (by exact rfl)
        · intro e1 w1 hb hp hun
          refine Ops.idx (hR1.later hb).2 rfl rfl rfl (by omega) (by omega) ?_
          refine Ops.nil ?_
          exact After.dn (Below.refl _ _) (by exact rfl)
        · intro e1 w1 hb hp hun
          refine Ops.ld_sl (hR1.later hb) rfl (by omega) rfl rfl ?_
          refine Ops.nil ?_
          exact After.dn (Below.refl _ _) (by exact rfl)
        · intro e1 w1 hb hp hun
          refine Ops.call (Equal_c _ _ _ (xs k) _ _ _ (xs (k - 1)) _ (hra.later hb) (hrb.later hb) hca) rfl rfl rfl ?_
          rintro _ w2 ⟨rfl, hst⟩
          refine Ops.nil ?_
          exact After.dn hst.below (by exact congrArg Value.bool (decide_eq_true h6))
        intro u w2 hb _
        have hS2 := hS1.later hb
        have hk0 : kepC xs k = List.range k := kepC_all hne
        refine thenQ_n ?_
        refine Cd.cond_t rfl ?_
        refine Cd.seq ?_
        refine Cd.region ?_
        refine Ops.mv_sl rfl rfl rfl ?_
        refine Ops.mv_int rfl rfl rfl ?_
        refine Ops.cut_l (A := A) (n := n) (c := c) (l := (k : Int)) rfl rfl rfl (by omega) ?_
        rw [Int.toNat_natCast]
        refine Ops.mv_sl rfl rfl rfl ?_
        refine Ops.nil ?_
        refine thenQ_n ?_
        refine Cd.seq ?_
        refine Cd.seq ?_
        refine Cd.region ?_
        refine Ops.mv_int rfl rfl rfl ?_
        refine Ops.nil ?_
        refine thenQ_n ?_
        refine Cd.block ?_
        refine Cd.loop (α := Nat × Nat × List Nat) (fun z => [(0, .slice A n c), (1, .func (.func 142) #[] #[]), (5, .int .i64 (z.1 : Int)), (6, .slice (cutAt A c k) (n - k) (c - k)), (7, .int .i64 (z.2.1 : Int))])
          (fun z w' => 1 ≤ z.2.1 ∧ z.2.1 ≤ n - k ∧ z.1 < k + z.2.1 ∧ z.2.2.length = n ∧ (∀ j ∈ z.2.2, j < n) ∧ z.1 = (kepC xs (k + z.2.1)).length ∧ z.2.2.take z.1 = kepC xs (k + z.2.1) ∧ (∀ m, z.1 ≤ m → m < n → z.2.2[m]? = some m) ∧ St w0 w' (ks.set i (CkR t A n c (z.2.2.map (sv ss))))) (fun z => n - k - z.2.1) (k, 1, List.range n) ⟨rfl, rfl, rfl, rfl, rfl, trivial⟩
          ⟨Nat.le_refl _, by show 1 ≤ n - k; omega, by show k < k + 1; omega, by simp, fun j hj => List.mem_range.1 hj, by
            show k = (kepC xs (k + 1)).length
            rw [kepC_succ, if_neg (fun h => h.elim (fun h => by omega) (fun h => h h6)), List.append_nil, hk0, List.length_range], by
            show (List.range n).take k = kepC xs (k + 1)
            rw [kepC_succ, if_neg (fun h => h.elim (fun h => by omega) (fun h => h h6)), List.append_nil, hk0, List.take_range, Nat.min_eq_left (by omega)], fun m hm hm' => by simp [hm'], hSi hS2⟩ ?_
        rintro ⟨a, b, q⟩ e w3 ⟨hb1, hbn, hab, hql, hqm, hal, hqt, hqr, hS3⟩
        dsimp only at hb1 hbn hab hql hqm hal hqt hqr hS3 ⊢
        refine Cd.seq ?_
        refine Cd.seq ?_
        refine Cd.region ?_
        refine Ops.mv_int rfl rfl rfl ?_
        refine Ops.mv_sl rfl rfl rfl ?_
        refine Ops.len rfl rfl ?_
        refine Ops.lss rfl rfl rfl ?_
        refine Ops.nil ?_
        refine thenQ_n ?_
        refine Cd.cond_p _ rfl (fun h7 => ?_) (fun h7 => ?_)
        · have hR3 := hS3.rdR i (get _)
          have hcut := hR3.drop (l := k) (by omega) h2
          have hg : ∀ m : Nat, a ≤ k + m → k + m < n → rg ((q.map (sv ss)).drop k) (m : Int) = sv ss (k + m) := fun m h8 h9 => by
            have := hqr (k + m) h8 h9
            simp [rg, List.getD_eq_getElem?_getD, this]
          have hra : RdI w3 (rg ((q.map (sv ss)).drop k) (b : Int)).a (rg ((q.map (sv ss)).drop k) (b : Int)).n (xs (k + b)) := by rw [hg b (by omega) (by omega)]; exact hrow _ q hql hqm hS3 _ (by omega)
          have hrb : RdI w3 (rg ((q.map (sv ss)).drop k) ((b : Int) - 1)).a (rg ((q.map (sv ss)).drop k) ((b : Int) - 1)).n (xs (k + b - 1)) := by
            rw [show (b : Int) - 1 = ((b - 1 : Nat) : Int) by omega, hg (b - 1) (by omega) (by omega), show k + (b - 1) = k + b - 1 by omega]
            exact hrow _ q hql hqm hS3 _ (by omega)
          have hca : (rg ((q.map (sv ss)).drop k) (b : Int)).n ≤ 9223372036854775807 := by rw [hg b (by omega) (by omega)]; exact hcap _ (by omega)
          have hsuc := kepC_succ xs (k + b)
          refine Cd.skip ?_
          refine thenQ_n ?_
          refine Cd.seq ?_
          refine Cd.block ?_
          refine Cd.seq ?_
          by_cases h8 : xs (k + b) = xs (k + b - 1)
          · --dup 2
            refine Cd.draw [.ex (.func (.func 142) #[] #[]), .ex (.slice (cutAt A c k) (n - k) (c - k)), .ex (.int .i64 ((b : Int))), .ex (.pointer (ptrAt (cutAt A c k) ((b : Int)).toNat)), .ex (.slice ((rg ((q.map (sv ss)).drop k) ((b : Int))).a) ((rg ((q.map (sv ss)).drop k) ((b : Int))).n) ((rg ((q.map (sv ss)).drop k) ((b : Int))).c)), .ex (.slice (cutAt A c k) (n - k) (c - k)), .ex (.int .i64 ((b : Int))), .ex (.int .i64 (((b : Int)) - ((1 : Int)))), .ex (.pointer (ptrAt (cutAt A c k) (((b : Int)) - ((1 : Int))).toNat)), .ex (.slice ((rg ((q.map (sv ss)).drop k) (((b : Int)) - ((1 : Int)))).a) ((rg ((q.map (sv ss)).drop k) (((b : Int)) - ((1 : Int)))).n) ((rg ((q.map (sv ss)).drop k) (((b : Int)) - ((1 : Int)))).c)), .ex (.bool (decide (xs (k + b) = xs (k + b - 1)))), .ex (.bool (false))] (by kernel_rfl) (by kernel_rfl) rfl (List.forall_mem_cons.2 ⟨Yd.lasts_ex _, (List.forall_mem_cons.2 ⟨Yd.lasts_ex _, (List.forall_mem_cons.2 ⟨Yd.lasts_ex _, (List.forall_mem_cons.2 ⟨Yd.lasts_ex _, (List.forall_mem_cons.2 ⟨Yd.lasts_ex _, (List.forall_mem_cons.2 ⟨Yd.lasts_ex _, (List.forall_mem_cons.2 ⟨Yd.lasts_ex _, (List.forall_mem_cons.2 ⟨Yd.lasts_ex _, (List.forall_mem_cons.2 ⟨Yd.lasts_ex _, (List.forall_mem_cons.2 ⟨Yd.lasts_ex _, (List.forall_mem_cons.2 ⟨Yd.lasts_ex _, (List.forall_mem_cons.2 ⟨Yd.lasts_ex _, (fun _ h => by cases h)⟩)⟩)⟩)⟩)⟩)⟩)⟩)⟩)⟩)⟩)⟩)⟩) ⟨?_, ?_, ?_, ?_, ?_, ?_, ?_, ?_, ?_, ?_, ?_, ?_, trivial⟩ ?_
            · intro e1 w1 hb hp hun
              refine Ops.mv_fn rfl rfl rfl ?_
              refine Ops.nil ?_
              exact After.dn (Below.refl _ _) (by exact rfl)
            · intro e1 w1 hb hp hun
              refine Ops.mv_sl rfl rfl rfl ?_
              refine Ops.nil ?_
              exact After.dn (Below.refl _ _) (by exact rfl)
            · intro e1 w1 hb hp hun
              refine Ops.mv_int rfl rfl rfl ?_
              refine Ops.nil ?_
              exact After.dn (Below.refl _ _) (by exact rfl)
            · intro e1 w1 hb hp hun
              refine Ops.idx (hcut.later hb).2 rfl rfl rfl (by omega) (by omega) ?_
              refine Ops.nil ?_
              exact After.dn (Below.refl _ _) (by exact rfl)
            · intro e1 w1 hb hp hun
              refine Ops.ld_sl (hcut.later hb) rfl (by omega) rfl rfl ?_
              refine Ops.nil ?_
              exact After.dn (Below.refl _ _) (by exact rfl)
            · intro e1 w1 hb hp hun
              refine Ops.mv_sl rfl rfl rfl ?_
              refine Ops.nil ?_
              exact After.dn (Below.refl _ _) (by exact rfl)
            · intro e1 w1 hb hp hun
              refine Ops.mv_int rfl rfl rfl ?_
              refine Ops.nil ?_
              exact After.dn (Below.refl _ _) (by exact rfl)
            · intro e1 w1 hb hp hun
              refine Ops.sub rfl rfl rfl (by omega) ?_
              refine Ops.nil ?_
              exact After.dn (Below.refl _ _) (by exact rfl)
            · intro e1 w1 hb hp hun
              refine Ops.idx (hcut.later hb).2 rfl rfl rfl (by omega) (by omega) ?_
              refine Ops.nil ?_
              exact After.dn (Below.refl _ _) (by exact rfl)
            · intro e1 w1 hb hp hun
              refine Ops.ld_sl (hcut.later hb) rfl (by omega) rfl rfl ?_
              refine Ops.nil ?_
              exact After.dn (Below.refl _ _) (by exact rfl)
            · intro e1 w1 hb hp hun
              refine Ops.call (Equal_c _ _ _ (xs (k + b)) _ _ _ (xs (k + b - 1)) _ (hra.later hb) (hrb.later hb) hca) rfl rfl rfl ?_
              rintro _ w2 ⟨rfl, hst⟩
              refine Ops.nil ?_
              exact After.dn hst.below (by exact rfl)
            · intro e1 w1 hb hp hun
              refine Ops.not_p rfl rfl ?_
              refine Ops.nil ?_
              exact After.dn (Below.refl _ _) (by exact congrArg Value.bool (decide_eq_false (fun h => h h8)))
            intro u w4 hb _
            rw [if_neg (fun h => h.elim (fun h => by omega) (fun h => h h8)), List.append_nil] at hsuc
            refine thenQ_n ?_
            refine Cd.cond_f rfl ?_
            refine Cd.skip ?_
            refine blockQ_n ?_
            refine thenQ_n ?_
            refine Cd.region ?_
            refine Ops.mv_int rfl rfl rfl ?_
            refine Ops.add rfl rfl rfl (by omega) ?_
            refine Ops.mv_int rfl rfl rfl ?_
            refine Ops.nil ?_
            refine thenQ_n ?_
            exact ⟨(a, b + 1, q), by show n - k - (b + 1) < n - k - b; omega, ⟨rfl, rfl, rfl, rfl, rfl, trivial⟩, by show 1 ≤ b + 1; omega, by show b + 1 ≤ n - k; omega, by show a < k + (b + 1); omega, hql, hqm, by show a = (kepC xs (k + b + 1)).length; rw [hsuc]; exact hal, by show q.take a = kepC xs (k + b + 1); rw [hsuc]; exact hqt, hqr, hS3.later hb⟩
          · refine Cd.draw [.ex (.func (.func 142) #[] #[]), .ex (.slice (cutAt A c k) (n - k) (c - k)), .ex (.int .i64 ((b : Int))), .ex (.pointer (ptrAt (cutAt A c k) ((b : Int)).toNat)), .ex (.slice ((rg ((q.map (sv ss)).drop k) ((b : Int))).a) ((rg ((q.map (sv ss)).drop k) ((b : Int))).n) ((rg ((q.map (sv ss)).drop k) ((b : Int))).c)), .ex (.slice (cutAt A c k) (n - k) (c - k)), .ex (.int .i64 ((b : Int))), .ex (.int .i64 (((b : Int)) - ((1 : Int)))), .ex (.pointer (ptrAt (cutAt A c k) (((b : Int)) - ((1 : Int))).toNat)), .ex (.slice ((rg ((q.map (sv ss)).drop k) (((b : Int)) - ((1 : Int)))).a) ((rg ((q.map (sv ss)).drop k) (((b : Int)) - ((1 : Int)))).n) ((rg ((q.map (sv ss)).drop k) (((b : Int)) - ((1 : Int)))).c)), .ex (.bool (decide (xs (k + b) = xs (k + b - 1)))), .ex (.bool (true))] (by kernel_rfl) (by kernel_rfl) rfl (List.forall_mem_cons.2 ⟨Yd.lasts_ex _, (List.forall_mem_cons.2 ⟨Yd.lasts_ex _, (List.forall_mem_cons.2 ⟨Yd.lasts_ex _, (List.forall_mem_cons.2 ⟨Yd.lasts_ex _, (List.forall_mem_cons.2 ⟨Yd.lasts_ex _, (List.forall_mem_cons.2 ⟨Yd.lasts_ex _, (List.forall_mem_cons.2 ⟨Yd.lasts_ex _, (List.forall_mem_cons.2 ⟨Yd.lasts_ex _, (List.forall_mem_cons.2 ⟨Yd.lasts_ex _, (List.forall_mem_cons.2 ⟨Yd.lasts_ex _, (List.forall_mem_cons.2 ⟨Yd.lasts_ex _, (List.forall_mem_cons.2 ⟨Yd.lasts_ex _, (fun _ h => by cases h)⟩)⟩)⟩)⟩)⟩)⟩)⟩)⟩)⟩)⟩)⟩)⟩) ⟨?_, ?_, ?_, ?_, ?_, ?_, ?_, ?_, ?_, ?_, ?_, ?_, trivial⟩ ?_
            · intro e1 w1 hb hp hun
              refine Ops.mv_fn rfl rfl rfl ?_
              refine Ops.nil ?_
              exact After.dn (Below.refl _ _) (by exact rfl)
            · intro e1 w1 hb hp hun
              refine Ops.mv_sl rfl rfl rfl ?_
              refine Ops.nil ?_
              exact After.dn (Below.refl _ _) (by exact rfl)
            · intro e1 w1 hb hp hun
              refine Ops.mv_int rfl rfl rfl ?_
              refine Ops.nil ?_
              exact After.dn (Below.refl _ _) (by exact rfl)
            · intro e1 w1 hb hp hun
              refine Ops.idx (hcut.later hb).2 rfl rfl rfl (by omega) (by omega) ?_
              refine Ops.nil ?_
              exact After.dn (Below.refl _ _) (by exact rfl)
            · intro e1 w1 hb hp hun
              refine Ops.ld_sl (hcut.later hb) rfl (by omega) rfl rfl ?_
              refine Ops.nil ?_
              exact After.dn (Below.refl _ _) (by exact rfl)
            · intro e1 w1 hb hp hun
              refine Ops.mv_sl rfl rfl rfl ?_
              refine Ops.nil ?_
              exact After.dn (Below.refl _ _) (by exact rfl)
            · intro e1 w1 hb hp hun
              refine Ops.mv_int rfl rfl rfl ?_
              refine Ops.nil ?_
              exact After.dn (Below.refl _ _) (by exact rfl)
            · intro e1 w1 hb hp hun
              refine Ops.sub rfl rfl rfl (by omega) ?_
              refine Ops.nil ?_
              exact After.dn (Below.refl _ _) (by exact rfl)
            · intro e1 w1 hb hp hun
              refine Ops.idx (hcut.later hb).2 rfl rfl rfl (by omega) (by omega) ?_
              refine Ops.nil ?_
              exact After.dn (Below.refl _ _) (by exact rfl)
            · intro e1 w1 hb hp hun
              refine Ops.ld_sl (hcut.later hb) rfl (by omega) rfl rfl ?_
              refine Ops.nil ?_
              exact After.dn (Below.refl _ _) (by exact rfl)
            · intro e1 w1 hb hp hun
              refine Ops.call (Equal_c _ _ _ (xs (k + b)) _ _ _ (xs (k + b - 1)) _ (hra.later hb) (hrb.later hb) hca) rfl rfl rfl ?_
              rintro _ w2 ⟨rfl, hst⟩
              refine Ops.nil ?_
              exact After.dn hst.below (by exact rfl)
            · intro e1 w1 hb hp hun
              refine Ops.not_p rfl rfl ?_
              refine Ops.nil ?_
              exact After.dn (Below.refl _ _) (by exact congrArg Value.bool (decide_eq_true h8))
            intro u w4 hb _
            have hS4 := hS3.later hb
            have hR4 := hS4.rdR i (get _)
            have hcut4 := hR4.drop (l := k) (by omega) h2
            rw [if_pos (.inr h8)] at hsuc
            refine thenQ_n ?_
            refine Cd.cond_t rfl ?_
            refine Cd.seq ?_
            refine Cd.region ?_
            refine Ops.mv_sl rfl rfl rfl ?_
            refine Ops.mv_int rfl rfl rfl ?_
            refine Ops.mv_sl rfl rfl rfl ?_
            refine Ops.mv_int rfl rfl rfl ?_
            refine Ops.idx hcut4.2 rfl rfl rfl (by omega) (by omega) ?_
            refine Ops.ld_sl hcut4 rfl (by omega) rfl rfl ?_
            rw [hg b (by omega) (by omega)]
            refine Ops.idx hR4.2 rfl rfl rfl (by omega) (by omega) ?_
            refine Ops.st_sl i hS4 (get _) rfl rfl (by omega) ?_
            intro w5 hS5
            have hS5 : St w0 w5 (ks.set i (CkR t A n c ((q.set a (k + b)).map (sv ss)))) := by
              rw [List.set_set] at hS5
              rw [List.map_set]
              exact hS5
            refine Ops.nil ?_
            refine thenQ_n ?_
            refine Cd.region ?_
            refine Ops.mv_int rfl rfl rfl ?_
            refine Ops.add rfl rfl rfl (by omega) ?_
            refine Ops.mv_int rfl rfl rfl ?_
            refine Ops.nil ?_
            refine blockQ_n ?_
            refine thenQ_n ?_
            refine Cd.region ?_
            refine Ops.mv_int rfl rfl rfl ?_
            refine Ops.add rfl rfl rfl (by omega) ?_
            refine Ops.mv_int rfl rfl rfl ?_
            refine Ops.nil ?_
            refine thenQ_n ?_
            refine ⟨(a + 1, b + 1, q.set a (k + b)), by show n - k - (b + 1) < n - k - b; omega, ⟨rfl, rfl, rfl, rfl, rfl, trivial⟩, by show 1 ≤ b + 1; omega, by show b + 1 ≤ n - k; omega, by show a + 1 < k + (b + 1); omega, by show (q.set a _).length = n; rw [List.length_set]; exact hql, ?_, by show a + 1 = (kepC xs (k + b + 1)).length; rw [hsuc, List.length_append, ← hal]; rfl, ?_, ?_, hS5⟩
            · show ∀ j ∈ q.set a (k + b), j < n
              intro j hj
              rcases List.mem_or_eq_of_mem_set hj with h | h
              · exact hqm j h
              · omega
            · show (q.set a (k + b)).take (a + 1) = kepC xs (k + b + 1)
              rw [hsuc, ← hqt, List.take_succ_eq_append_getElem (by rw [List.length_set]; omega), List.take_set_of_le (Nat.le_refl _), List.getElem_set_self]
            · show ∀ m, a + 1 ≤ m → m < n → (q.set a (k + b))[m]? = some m
              intro m hm hm'
              rw [List.getElem?_set, if_neg (by omega)]
              exact hqr m (by omega) hm'
        · have hbe : k + b = n := by omega
          rw [hbe] at hal hqt
          have hle := kepC_len xs n
          have han : a < n := by omega
          refine Cd.exit ?_
          refine thenQ_x ?_
          refine thenQ_x ?_
          refine blockQ_x ?_
          refine thenQ_n ?_
          refine Cd.seq ?_
          refine Cd.region ?_
          refine Ops.mv_sl rfl rfl rfl ?_
          refine Ops.mv_int rfl rfl rfl ?_
          refine Ops.cut_l (A := A) (n := n) (c := c) (l := (a : Int)) rfl rfl rfl (by omega) ?_
          skip
          refine Ops.clr i a hS3 (get _) (show a < n by omega) (by show n - _ = n - a; omega) rfl rfl rfl ?_
          intro w4 hS4
          rw [List.set_set] at hS4
          refine Ops.nil ?_
          refine thenQ_n ?_
          refine Cd.seq ?_
          refine Cd.region ?_
          refine Ops.mv_sl rfl rfl rfl ?_
          refine Ops.mv_int rfl rfl rfl ?_
          refine Ops.cut_h (A := A) (n := n) (c := c) (h := (a : Int)) rfl rfl rfl (by omega) ?_
          refine Ops.mv_sl rfl rfl rfl ?_
          refine Ops.nil ?_
          refine thenQ_n ?_
          refine Cd.ret ?_
          refine blockQ_r ?_
          refine thenQ_r ?_
          refine thenQ_r ?_
          refine blockQ_r ?_
          refine thenQ_r ?_
          refine ret1_s rfl ?_
          rw [← hal]
          refine ⟨rfl, ?_⟩
          have e9 : ({ CkR t A n c (q.map (sv ss)) with n := a, vs := (CkR t A n c (q.map (sv ss))).vs.take a } : Ck) = CkR t A a c ((kepC xs n).map (sv ss)) := by
            rw [← hqt]
            simp [CkR, List.map_take]
          rw [← e9]
          exact hS4
      · refine Cd.draw [.ex (.func (.func 142) #[] #[]), .ex (.slice (A) (n) (c)), .ex (.int .i64 ((k : Int))), .ex (.pointer (ptrAt (A) ((k : Int)).toNat)), .ex (.slice ((rg (ss) ((k : Int))).a) ((rg (ss) ((k : Int))).n) ((rg (ss) ((k : Int))).c)), .ex (.slice (A) (n) (c)), .ex (.int .i64 ((k : Int))), .ex (.int .i64 (((k : Int)) - ((1 : Int)))), .ex (.pointer (ptrAt (A) (((k : Int)) - ((1 : Int))).toNat)), .ex (.slice ((rg (ss) (((k : Int)) - ((1 : Int)))).a) ((rg (ss) (((k : Int)) - ((1 : Int)))).n) ((rg (ss) (((k : Int)) - ((1 : Int)))).c)), .ex (.bool (false))] (by kernel_rfl) (by kernel_rfl) rfl (List.forall_mem_cons.2 ⟨Yd.lasts_ex _, (List.forall_mem_cons.2 ⟨Yd.lasts_ex _, (List.forall_mem_cons.2 ⟨Yd.lasts_ex _, (List.forall_mem_cons.2 ⟨Yd.lasts_ex _, (List.forall_mem_cons.2 ⟨Yd.lasts_ex _, (List.forall_mem_cons.2 ⟨Yd.lasts_ex _, (List.forall_mem_cons.2 ⟨Yd.lasts_ex _, (List.forall_mem_cons.2 ⟨Yd.lasts_ex _, (List.forall_mem_cons.2 ⟨Yd.lasts_ex _, (List.forall_mem_cons.2 ⟨Yd.lasts_ex _, (List.forall_mem_cons.2 ⟨Yd.lasts_ex _, (fun _ h => by cases h)⟩)⟩)⟩)⟩)⟩)⟩)⟩)⟩)⟩)⟩)⟩) ⟨?_, ?_, ?_, ?_, ?_, ?_, ?_, ?_, ?_, ?_, ?_, trivial⟩ ?_
        · intro e1 w1 hb hp hun
          refine Ops.mv_fn rfl rfl rfl ?_
          refine Ops.nil ?_
          exact After.dn (Below.refl _ _) (by exact rfl)
        · intro e1 w1 hb hp hun
          refine Ops.mv_sl rfl rfl rfl ?_
          refine Ops.nil ?_
          exact After.dn (Below.refl _ _) (by exact rfl)
        · intro e1 w1 hb hp hun
          refine Ops.mv_int rfl rfl rfl ?_
          refine Ops.nil ?_
          exact After.dn (Below.refl _ _) (by exact rfl)
        · intro e1 w1 hb hp hun
          refine Ops.idx (hR1.later hb).2 rfl rfl rfl (by omega) (by omega) ?_
          refine Ops.nil ?_
          exact After.dn (Below.refl _ _) (by exact rfl)
        · intro e1 w1 hb hp hun
          refine Ops.ld_sl (hR1.later hb) rfl (by omega) rfl rfl ?_
          refine Ops.nil ?_
          exact After.dn (Below.refl _ _) (by exact rfl)
        · intro e1 w1 hb hp hun
          refine Ops.mv_sl rfl rfl rfl ?_
          refine Ops.nil ?_
          exact After.dn (Below.refl _ _) (by exact rfl)
        · intro e1 w1 hb hp hun
          refine Ops.mv_int rfl rfl rfl ?_
          refine Ops.nil ?_
          exact After.dn (Below.refl _ _) (by exact rfl)
        · intro e1 w1 hb hp hun
          refine Ops.sub rfl rfl rfl (by omega) ?_
          refine Ops.nil ?_
          exact After.dn (Below.refl _ _) (by exact rfl)
        · intro e1 w1 hb hp hun
          refine Ops.idx (hR1.later hb).2 rfl rfl rfl (by omega) (by omega) ?_
          refine Ops.nil ?_
          exact After.dn (Below.refl _ _) (by exact rfl)
        · intro e1 w1 hb hp hun
          refine Ops.ld_sl (hR1.later hb) rfl (by omega) rfl rfl ?_
          refine Ops.nil ?_
          exact After.dn (Below.refl _ _) (by exact rfl)
        · intro e1 w1 hb hp hun
          refine Ops.call (Equal_c _ _ _ (xs k) _ _ _ (xs (k - 1)) _ (hra.later hb) (hrb.later hb) hca) rfl rfl rfl ?_
          rintro _ w2 ⟨rfl, hst⟩
          refine Ops.nil ?_
          exact After.dn hst.below (by exact congrArg Value.bool (decide_eq_false h6))
        intro u w2 hb _
        refine thenQ_n ?_
        refine Cd.cond_f rfl ?_
        refine Cd.skip ?_
        refine blockQ_n ?_
        refine thenQ_n ?_
        refine Cd.region ?_
        refine Ops.mv_int rfl rfl rfl ?_
        refine Ops.add rfl rfl rfl (by omega) ?_
        refine Ops.mv_int rfl rfl rfl ?_
        refine Ops.nil ?_
        refine thenQ_n ?_
        refine ⟨k + 1, by show n - (k + 1) < n - k; omega, ⟨rfl, rfl, rfl, trivial⟩, by omega, by omega, fun j hj => ?_, hS1.later hb⟩
        by_cases e : j = k
        · subst e; exact .inr h6
        · exact hne j (by omega)
    · have hall : kepC xs n = List.range n := kepC_all fun j hj => hne j (by omega)
      refine Cd.exit ?_
      refine thenQ_x ?_
      refine thenQ_x ?_
      refine blockQ_x ?_
      refine thenQ_n ?_
      refine Cd.seq ?_
      refine Cd.region ?_
      refine Ops.mv_sl rfl rfl rfl ?_
      refine Ops.mv_sl rfl rfl rfl ?_
      refine Ops.nil ?_
      refine thenQ_n ?_
      refine Cd.ret ?_
      refine ret1_s rfl ?_
      rw [hall, List.length_range, hid]
      exact ⟨rfl, hS1⟩
end Go.Proofs.YtdedegbendjmbaaGreatDoor.Vc
