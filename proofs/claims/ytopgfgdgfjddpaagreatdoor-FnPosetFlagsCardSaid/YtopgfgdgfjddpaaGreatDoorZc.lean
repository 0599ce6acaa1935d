/-
  The texts Frm, G1, G2, G3, Gct, G4, G5, F1, F2, Cyc, C1, C2 in one. Conditions: as each part states them.
-/
import Derived.Test.YtopgfgdgfjddpaaGreatDoorZb
import Derived.KernelRfl
import Derived.Test.YtopgfgdgfjddpaaGreatDoorZa
/-
 Forms of maniplexes, their order, and rooted forms, without a program.
-/
namespace Go.Proofs.YtopgfgdgfjddpaaGreatDoor.Vc
open Go.RowKit
/-! scattered writes -/
def scat (init : List Int) (ix v : Nat → Int) : Nat → List Int
 | 0 => init
 | k + 1 => (scat init ix v k).set (ix k).toNat (v k)
theorem scat_len (init : List Int) (ix v : Nat → Int) : ∀ k, (scat init ix v k).length = init.length
 | 0 => rfl
 | k + 1 => by simp [scat, scat_len init ix v k]
theorem scat_get {init : List Int} {ix v : Nat → Int} {N : Nat} (hN : init.length = N) : ∀ k, (∀ j, j < k → 0 ≤ ix j ∧ ix j < N) → (∀ i j, i < k → j < k → ix i = ix j → i = j) → ∀ j, j < k → gi (scat init ix v k) (ix j) = v j
 | 0, _, _, j, hj => by omega
 | k + 1, hr, hi, j, hj => by
  have h1 := hr k (by omega)
  have h2 := hr j hj
  show gi ((scat init ix v k).set (ix k).toNat (v k)) (ix j) = v j
  rw [gi_set h1.1 (by rw [scat_len, hN]; exact h1.2) h2.1]
  by_cases e : ix k = ix j
  ·rw [if_pos e, hi k j (by omega) hj e]
  ·rw [if_neg e]
   have : j ≠ k := fun hjk => e (by rw [hjk])
   exact scat_get hN k (fun j hj => hr j (by omega)) (fun i j h h' => hi i j (by omega) (by omega)) j (by omega)
def seqI (m : Nat) : List Int := (List.range m).map fun (k : Nat) => (k : Int)
theorem seqI_len (m : Nat) : (seqI m).length = m := by simp [seqI]
theorem seqI_mem {m : Nat} {x : Int} : x ∈ seqI m ↔ 0 ≤ x ∧ x < m := by
 simp only [seqI, List.mem_map, List.mem_range]
 exact ⟨fun ⟨k, hk, e⟩ => by omega, fun h => ⟨x.toNat, by omega, by omega⟩⟩
/-! the inverse, and a system renumbered -/
def backI (N : Nat) (o : List Int) : List Int := scat (List.replicate N 0) (fun k => gi o k) (fun k => (k : Int)) o.length
theorem backI_len (N : Nat) (o : List Int) : (backI N o).length = N := by simp [backI, scat_len]
structure Prm (N : Nat) (o : List Int) : Prop where
 len : o.length = N
 nodup : o.Nodup
 range : ∀ x ∈ o, 0 ≤ x ∧ x < (N : Int)
section
variable {N : Nat} {o : List Int}
theorem Prm.rng (h : Prm N o) {k : Nat} (hk : k < N) : 0 ≤ gi o k ∧ gi o k < N := h.range _ (gi_in (by rw [h.len]; exact hk))
theorem Prm.inj (h : Prm N o) {i j : Nat} (hi : i < N) (hj : j < N) (e : gi o i = gi o j) : i = j := by
 rw [gi_mem (by rw [h.len]; exact hi), gi_mem (by rw [h.len]; exact hj)] at e
 exact (List.getElem_inj h.nodup).1 e
theorem Prm.back (h : Prm N o) {k : Nat} (hk : k < N) : gi (backI N o) (gi o k) = k :=
 scat_get (N := N) (by simp) o.length (fun j hj => h.rng (by rw [← h.len]; exact hj)) (fun i j hi hj e => h.inj (by rw [← h.len]; exact hi) (by rw [← h.len]; exact hj) e) k (by rw [h.len]; exact hk)
theorem Prm.hit (h : Prm N o) {x : Int} (h0 : 0 ≤ x) (h1 : x < N) : ∃ k : Nat, k < N ∧ gi o k = x := by
 apply Classical.byContradiction
 intro hne
 have hx : x ∉ o := fun hm => by
  obtain ⟨k, hk, e⟩ := List.mem_iff_getElem.1 hm
  exact hne ⟨k, by rw [← h.len]; exact hk, by rw [gi_mem hk]; exact e⟩
 have := nodup_le_int (N := N) (l := x :: o) (List.nodup_cons.2 ⟨hx, h.nodup⟩) (fun y hy => by
  rcases List.mem_cons.1 hy with rfl | hy
  ·exact ⟨h0, h1⟩
  exact h.range y hy)
 rw [List.length_cons, h.len] at this
 omega
theorem Prm.backR (h : Prm N o) {x : Int} (h0 : 0 ≤ x) (h1 : x < N) : ∃ k : Nat, k < N ∧ gi o k = x ∧ gi (backI N o) x = k := by
 obtain ⟨k, hk, e⟩ := h.hit h0 h1
 exact ⟨k, hk, e, by rw [← e]; exact h.back hk⟩
end
def rowF (o b mv : List Int) : List Int := o.map fun x => gi b (gi mv x)
def renI (N : Nat) (p mv : List Int) : List Int := scat (List.replicate N 0) (fun f => gi p f) (fun f => gi p (gi mv f)) N
def formL (N : Nat) (xss : List (List Int)) (f : Int) : List (List Int) := xss.map fun mv => rowF (orbit N xss f) (backI N (orbit N xss f)) mv
theorem formL_len (N : Nat) (xss : List (List Int)) (f : Int) : (formL N xss f).length = xss.length := by simp [formL]
/-! lexicographic order -/
def cmpI (a b : Int) : Int := if a < b then -1 else if b < a then 1 else 0
def lexC : List Int → List Int → Int
 | [], [] => 0
 | [], _ :: _ => -1
 | _ :: _, [] => 1
 | a :: l, b :: r => if cmpI a b = 0 then lexC l r else cmpI a b
def lexCC : List (List Int) → List (List Int) → Int
 | [], [] => 0
 | [], _ :: _ => -1
 | _ :: _, [] => 1
 | a :: l, b :: r => if lexC a b = 0 then lexCC l r else lexC a b
theorem cmpI_zero {a b : Int} : cmpI a b = 0 ↔ a = b := by unfold cmpI; by_cases h : a < b <;> by_cases h' : b < a <;> simp [h, h'] <;> omega
theorem cmpI_neg {a b : Int} : cmpI a b < 0 ↔ a < b := by unfold cmpI; by_cases h : a < b <;> by_cases h' : b < a <;> simp [h, h'] <;> omega
theorem cmpI_swap (a b : Int) : cmpI b a = - cmpI a b := by unfold cmpI; split <;> split <;> omega
theorem lexC_zero : ∀ {a b : List Int}, lexC a b = 0 ↔ a = b
 | [], [] => by simp [lexC]
 | [], _ :: _ => by simp [lexC]
 | _ :: _, [] => by simp [lexC]
 | a :: l, b :: r => by
  simp only [lexC]
  split
  ·rename_i h
   rw [lexC_zero, cmpI_zero.1 h]
   simp
  ·rename_i h
   constructor
   ·intro h'; exact absurd h' h
   ·intro h'; exact absurd (cmpI_zero.2 (List.cons.inj h').1) h
theorem lexCC_zero : ∀ {a b : List (List Int)}, lexCC a b = 0 ↔ a = b
 | [], [] => by simp [lexCC]
 | [], _ :: _ => by simp [lexCC]
 | _ :: _, [] => by simp [lexCC]
 | a :: l, b :: r => by
  simp only [lexCC]
  split
  ·rename_i h
   rw [lexCC_zero, lexC_zero.1 h]
   simp
  ·rename_i h
   constructor
   ·intro h'; exact absurd h' h
   ·intro h'; exact absurd (lexC_zero.2 (List.cons.inj h').1) h
theorem lexC_swap : ∀ (a b : List Int), lexC b a = - lexC a b
 | [], [] => rfl
 | [], _ :: _ => rfl
 | _ :: _, [] => rfl
 | a :: l, b :: r => by
  simp only [lexC]
  rw [cmpI_swap a b, lexC_swap l r]
  by_cases h : cmpI a b = 0
  ·rw [if_pos h, if_pos (by omega)]
  ·rw [if_neg h, if_neg (by omega)]
theorem lexCC_swap : ∀ (a b : List (List Int)), lexCC b a = - lexCC a b
 | [], [] => rfl
 | [], _ :: _ => rfl
 | _ :: _, [] => rfl
 | a :: l, b :: r => by
  simp only [lexCC]
  rw [lexC_swap a b, lexCC_swap l r]
  by_cases h : lexC a b = 0
  ·rw [if_pos h, if_pos (by omega)]
  ·rw [if_neg h, if_neg (by omega)]
theorem lexC_trans : ∀ {a b c : List Int}, lexC a b < 0 → lexC b c < 0 → lexC a c < 0
 | [], [], _, h, _ => by simp [lexC] at h
 | [], _ :: _, [], _, h => by simp [lexC] at h
 | [], _ :: _, _ :: _, _, _ => by simp [lexC]
 | _ :: _, [], _, h, _ => by simp [lexC] at h
 | _ :: _, _ :: _, [], _, h => by simp [lexC] at h
 | a :: l, b :: r, c :: s, h, h' => by
  simp only [lexC] at h h' ⊢
  by_cases e1 : cmpI a b = 0
  ·have := cmpI_zero.1 e1
   subst this
   rw [if_pos e1] at h
   by_cases e2 : cmpI a c = 0
   ·rw [if_pos e2] at h' ⊢
    exact lexC_trans h h'
   ·rw [if_neg e2] at h' ⊢
    exact h'
  ·rw [if_neg e1] at h
   have hab := cmpI_neg.1 h
   by_cases e2 : cmpI b c = 0
   ·have := cmpI_zero.1 e2
    subst this
    rw [if_neg e1]
    exact h
   ·rw [if_neg e2] at h'
    have hbc := cmpI_neg.1 h'
    have hac : cmpI a c < 0 := cmpI_neg.2 (by omega)
    rw [if_neg (by omega)]
    exact hac
theorem lexCC_trans : ∀ {a b c : List (List Int)}, lexCC a b < 0 → lexCC b c < 0 → lexCC a c < 0
 | [], [], _, h, _ => by simp [lexCC] at h
 | [], _ :: _, [], _, h => by simp [lexCC] at h
 | [], _ :: _, _ :: _, _, _ => by simp [lexCC]
 | _ :: _, [], _, h, _ => by simp [lexCC] at h
 | _ :: _, _ :: _, [], _, h => by simp [lexCC] at h
 | a :: l, b :: r, c :: s, h, h' => by
  simp only [lexCC] at h h' ⊢
  by_cases e1 : lexC a b = 0
  ·have := lexC_zero.1 e1
   subst this
   rw [if_pos e1] at h
   by_cases e2 : lexC a c = 0
   ·rw [if_pos e2] at h' ⊢
    exact lexCC_trans h h'
   ·rw [if_neg e2] at h' ⊢
    exact h'
  ·rw [if_neg e1] at h
   by_cases e2 : lexC b c = 0
   ·have := lexC_zero.1 e2
    subst this
    rw [if_neg e1]
    exact h
   ·rw [if_neg e2] at h'
    have hac : lexC a c < 0 := lexC_trans h h'
    rw [if_neg (by omega)]
    exact hac
/-! the least form -/
def leastTo (N : Nat) (xss : List (List Int)) : Nat → List (List Int)
 | 0 => formL N xss 0
 | k + 1 => if lexCC (formL N xss k) (leastTo N xss k) < 0 then formL N xss k else leastTo N xss k
def leastL (N : Nat) (xss : List (List Int)) : List (List Int) := leastTo N xss N
theorem leastTo_le {N : Nat} {xss : List (List Int)} : ∀ k, (¬ lexCC (formL N xss 0) (leastTo N xss k) < 0) ∧ ∀ f : Nat, f < k → ¬ lexCC (formL N xss f) (leastTo N xss k) < 0
 | 0 => ⟨by show ¬ lexCC (formL N xss 0) (formL N xss 0) < 0; rw [lexCC_zero.2 rfl]; omega, fun f hf => by omega⟩
 | k + 1 => by
  obtain ⟨h0, h1⟩ := leastTo_le (N := N) (xss := xss) k
  simp only [leastTo]
  split
  ·rename_i h
   have tr : ∀ x, ¬ lexCC x (leastTo N xss k) < 0 → ¬ lexCC x (formL N xss k) < 0 := fun x hx hc => hx (lexCC_trans hc h)
   refine ⟨tr _ h0, fun f hf => ?_⟩
   by_cases e : f = k
   ·subst e; rw [lexCC_zero.2 rfl]; omega
   ·exact tr _ (h1 f (by omega))
  ·rename_i h
   refine ⟨h0, fun f hf => ?_⟩
   by_cases e : f = k
   ·subst e; exact h
   ·exact h1 f (by omega)
theorem leastTo_is {N : Nat} {xss : List (List Int)} (hN : 0 < N) : ∀ k, k ≤ N → ∃ f : Nat, f < N ∧ leastTo N xss k = formL N xss f
 | 0, _ => ⟨0, hN, rfl⟩
 | k + 1, hk => by
  simp only [leastTo]
  split
  ·exact ⟨k, by omega, O⟩
  ·exact leastTo_is hN k (by omega)
/-! rooted forms are their own forms from the flag 0 -/
section
variable {n F : Nat}
end
/-
 The walks of copies and of the reference's tests of partial moves.
-/
theorem l01Own_c (A : Option Addr) (n c : Nat) (xs : List Int) (w : World) (hR : RdI w A n xs) (hn : n ≤ 1000000000) : Ret Tryz.prog 237 [.slice A n c] w (fun v w' => ∃ A' c', v = .slice A' n c' ∧ St w w' [CkI 2 A' n c' xs]) := by
 refine Ret.of_cd Tryz.func237 O Tryz.ntmps237 O (post1 O) (Gbo O (Ops.bs0 (St.refl w) O ?_))
 intro A1 w1 hS1
 have hS1 : St w w1 [CkI 2 A1 0 0 []] := hS1
 refine Gdo O (Ops.appI 0 hS1 O (hS1.oldI hR) O O O (by omega) (by omega) O ?_)
 intro A2 c2 w2 hS2
 rw [Nat.zero_add] at hS2 ⊢
 refine Gdr O (ret1_s O ?_)
 exact ⟨A2, c2, O, hS2⟩
/-
 The walk of the reference's search for rooted forms.
-/
def body (n F : Nat) (ok : List (List Int) → Nat → Nat → Bool) (fin : List (List Int) → Bool) (k at_ met : Nat) (M : List (List Int)) (g : Nat) : List (List (List Int)) :=
 if 0 ≤ cell M (at_ % n) (g : Nat) then [] else if ok (put M (at_ % n) (at_ / n) g) (at_ % n) (at_ / n) = true then grow n F ok fin k (at_ + 1) (max met (g + 1)) (put M (at_ % n) (at_ / n) g) else []
/-
 The walk of the reference's search for rooted forms.
-/
end Go.Proofs.YtopgfgdgfjddpaaGreatDoor.Vc
/-
 Plain mathematics: how many rooted forms there can be.
-/
namespace Go.Proofs.YtopgfgdgfjddpaaGreatDoor.Vc
section
variable {n F : Nat} {M : List (List Int)} {met at_ : Nat}
end
end Go.Proofs.YtopgfgdgfjddpaaGreatDoor.Vc
/-
 The walks of the reference's list of rooted forms and of its count.
-/
namespace Go.Proofs.YtopgfgdgfjddpaaGreatDoor.Vc
open Go.RowKit
def Small (rank flags : Int) : Prop := (1 ≤ rank ∧ rank ≤ 4) ∧ (2 ≤ flags ∧ flags ≤ 12)
instance (rank flags : Int) : Decidable (Small rank flags) := by unfold Small; exact inferInstance
/-
 The walks of the program's copies and of its test of a move.
-/
theorem Clone_c (A : Option Addr) (n c : Nat) (xs : List Int) (w : World) (hR : RdI w A n xs) (hn : n ≤ 1000000000) : Ret Tryz.prog 141 [.slice A n c] w (fun v w' => ∃ A' c', v = .slice A' n c' ∧ St w w' [CkI 2 A' n c' xs]) := by
 cases hA : A with
 | none =>
  subst hA
  have hn0 : n = 0 := by
   apply Classical.byContradiction
   intro h
   obtain ⟨p, hp, _⟩ := hR.2 0 (by omega)
   simp [ptrAt] at hp
  subst hn0
  have hx : xs = [] := List.eq_nil_of_length_eq_zero hR.1
  subst hx
  refine Ret.of_cd Tryz.func141 O Tryz.ntmps141 O (post1 O) (Gbo O (Ops.eqNil O O O (Gdc O (Cd.cond_t O (Gar O (ret1_s O ?_))))))
  exact ⟨none, 0, O, (St.refl w).nil _⟩
 | some a =>
  subst hA
  refine Ret.of_cd Tryz.func141 O Tryz.ntmps141 O (post1 O) (Gbo O (Ops.eqNil O O O (Gdc O (Cd.cond_f O (Gao O (Ops.bs0 (St.refl w) O ?_))))))
  intro A1 w1 hS1
  have hS1 : St w w1 [CkI 2 A1 0 0 []] := hS1
  refine Gdo O (Ops.appI 0 hS1 O (hS1.oldI hR) O O O (by omega) (by omega) O ?_)
  intro A2 c2 w2 hS2
  rw [Nat.zero_add] at hS2 ⊢
  refine Gdr O (ret1_s O ?_)
  exact ⟨A2, c2, O, hS2⟩
/-
 The walks of the reference's forms.
-/
section
variable {P : Program} {N : Nat} {ops : Array Oper} {K : Env → World → Prop} {rest : List Oper} {e : Env} {w : World} {d : Nat} {ty : TypeId} {pos : String} {af : Array Edge}
theorem Ops.bld0 {t : TypeId} {f0 : Field} {z0 zf : Value} {b bf : Nat} [Und P t (.struct #[f0])] [Inf P t (.agg #[z0]) 1 b] (hI : Inf P f0.type zf 1 bf) (hb : Nat.blt d N = true) (hK : Ops P N ops K rest (upd e d (.agg #[z0])) w) : Ops P N ops K (⟨some d, .build t #[], ty, pos, af, none⟩ :: rest) e w := by
 obtain ⟨inf, hi, hz0, hs, hby⟩ := Inf.get P t
 obtain ⟨inf', hi', hz0', hs', hby'⟩ := hI.get P f0.type
 have ez : (Value.agg #[z0]).cells = #[z0] := O
 refine .val (w' := w) ?_ hb hK
 simp [execOp, Instr.build, run_underlying (Und.out (P := P) (t := t)), sizeOf, typeInfo, zeroValue, hi, hz0, hs, hi', hs', ez, Instr.fill]
end
theorem l02Renumber_c (A : Option Addr) (n c : Nat) (rs : List SlV) (xss : List (List Int)) (N : Nat) (Ap : Option Addr) (cp : Nat) (p : List Int) (w : World) (hR : RowsI w A n rs xss) (hn : n ≤ 1000000) (hs : Sys N xss) (hN : N ≤ 1000000) (hP : RdI w Ap N p) (hp : ∀ x : Int, 0 ≤ x → x < N → 0 ≤ gi p x ∧ gi p x < N) :
  Ret Tryz.prog 182 [.agg #[.slice A n c], .slice Ap N cp] w (fun v w' => ∃ A' c' rs', v = .agg #[.slice A' n c'] ∧ rs'.length = n ∧ St w w' (mat 32 2 A' n c' rs' (xss.map (renI N p)))) := by
 have hpl := hP.1
 have hxl := hR.len
 refine Ret.of_cd Tryz.func182 O Tryz.ntmps182 O (postc O O) (Gbo O (Ops.box1 (St.refl w) O O ?_))
 intro Ab w1 hS1
 refine Ops.new1 hS1 O ?_
 intro Ac w2 hS2
 refine Gdo O (Ops.bld0 (by exact inferInstance) O (Ops.new1 hS2 O ?_))
 intro Ad w3 hS3
 refine Ops.st_agg 1 0 hS3 O O O O O O O ?_
 intro w4 hS4
 have hS4 : St w w4 (Bx 24 1 Ad [.slice none 0 0] :: Bx 24 1 Ac [.slice none 0 0] :: Bx 24 1 Ab [.slice A n c] :: []) := hS4
 have hS0 : St w w4 (Bx 24 1 Ad [.slice none 0 0] :: Bx 24 1 Ac [.slice none 0 0] :: Bx 24 1 Ab [.slice A n c] :: CkR 32 none 0 0 [] :: []) := (hS4.nil 32).perm (List.perm_append_comm (l₁ := [_]) (l₂ := [_, _, _]))
 refine Gdc O ?_
 refine Cd.loop (α := Nat × Option Addr × Nat × List SlV) (fun s => [(1, .slice Ap N cp), (2, .pointer Ab), (4, .pointer Ac), (5, .pointer Ad), (6, .int .i64 (s.1 : Int))]) (fun s w' => St w w' (Bx 24 1 Ad [.slice s.2.1 s.1 s.2.2.1] :: Bx 24 1 Ac [.slice none 0 0] :: Bx 24 1 Ab [.slice A n c] :: CkR 32 s.2.1 s.1 s.2.2.1 s.2.2.2 :: rowsCk 2 s.2.2.2 ((xss.map (renI N p)).take s.1)) ∧ s.1 ≤ n ∧ s.2.2.2.length = s.1) (fun s => n - s.1) (0, none, 0, []) ⟨O, O, O, O, O, trivial⟩ ⟨hS0, Nat.zero_le _, O⟩ ?_
 rintro ⟨i, A3, c3, rs1⟩ e w5 ⟨hS5, hi, hlen⟩
 dsimp only at hS5 hi hlen ⊢
 refine Gbo O (Ops.fld (hS5.rd 2 O) O O O O inferInstance (Ops.ldf_s (hS5.rd 2 O) O O O O O ?_))
 refine Ops.len O O (Gdc O ?_)
 refine Cd.cond_p _ O (fun h1 => ?_) (fun h1 => ?_)
 ·have hi' : i < n := by omega
  have hx : i < xss.length := by omega
  refine Gao O (Ops.len O O ?_)
  refine Ops.mkI N hS5 O O (by omega) ?_
  intro A7 w6 hS6
  refine Gdc O ?_
  have e2 : gl xss i = xss[i] := by simp [gl, List.getD_eq_getElem?_getD, List.getElem?_eq_getElem hx]
  have hmv := hs (gl xss i) (gl_in (by omega) (by omega))
  refine Cd.loop (α := Nat) (fun k => [(1, .slice Ap N cp), (2, .pointer Ab), (4, .pointer Ac), (5, .pointer Ad), (6, .int .i64 (i : Int)), (7, .slice A7 N N), (8, .int .i64 (k : Int))]) (fun k w' => St w w' (CkI 2 A7 N N (scat (List.replicate N 0) (fun f => gi p f) (fun f => gi p (gi (gl xss i) f)) k) :: Bx 24 1 Ad [.slice A3 i c3] :: Bx 24 1 Ac [.slice none 0 0] :: Bx 24 1 Ab [.slice A n c] :: CkR 32 A3 i c3 rs1 :: rowsCk 2 rs1 ((xss.map (renI N p)).take i)) ∧ k ≤ N) (fun k => N - k) 0 ⟨O, O, O, O, O, O, O, trivial⟩ ⟨hS6, Nat.zero_le _⟩ ?_
  rintro k e w7 ⟨hS7, hk⟩
  have hM := hS7.oldRows hR
  have hP7 := hS7.oldI hP
  refine Gbo O (Ops.len O O (Gdc O ?_))
  refine Cd.cond_p _ O (fun h2 => ?_) (fun h2 => ?_)
  ·have hrow := hM.at_ (i := (i : Int)) (by omega) h1
   have hrn := hM.rowLen (k := (i : Int)) (by omega) h1
   have hv := hmv.2 (k : Int) (by omega) (by omega)
   have hpk := hp (k : Int) (by omega) (by omega)
   have hpv := hp _ hv.1 hv.2
   have hml := hmv.1
   have hB := hS7.rd 3 O
   have hO := hS7.rdI 0 O
   have hlt : (gi p (k : Int)).toNat < N := by omega
   refine Gac O ?_
   refine Cd.drawP [17] [yS (A7) (N) (N), yS (Ap) (N) (cp), yI ((k : Int)), yP (ptrAt (Ap) ((k : Int)).toNat), yI (gi (p) ((k : Int))), yS (Ap) (N) (cp), yP (ptrAt (Ab) 0), yS (A) (n) (c), yI ((i : Int)), yP (ptrAt (A) ((i : Int)).toNat), yS ((rg (rs) ((i : Int))).a) ((rg (rs) ((i : Int))).n) ((rg (rs) ((i : Int))).c), yI ((k : Int)), yP (ptrAt ((rg (rs) ((i : Int))).a) ((k : Int)).toNat), yI (gi (gl xss (i : Int)) ((k : Int))), yP (ptrAt (Ap) (gi (gl xss (i : Int)) ((k : Int))).toNat), yI (gi (p) (gi (gl xss (i : Int)) ((k : Int)))), yP (ptrAt (A7) (gi (p) ((k : Int))).toNat), .pr (fun _ w' => St w w' (CkI 2 A7 N N (scat (List.replicate N 0) (fun f => gi p f) (fun f => gi p (gi (gl xss i) f)) (k + 1)) :: Bx 24 1 Ad [.slice A3 i c3] :: Bx 24 1 Ac [.slice none 0 0] :: Bx 24 1 Ab [.slice A n c] :: CkR 32 A3 i c3 rs1 :: rowsCk 2 rs1 ((xss.map (renI N p)).take i)))] (by kernel_rfl) (by kernel_rfl) (ly (ly (ly (ly (ly (ly (ly (ly (ly (ly (ly (ly (ly (ly (ly (ly (ly (List.forall_mem_cons.2 ⟨Ye.lasts_pr (fun v w w' h hb => h.later hb), (fun _ h => by cases h)⟩)))))))))))))))))) ?_ ?_
   ·refine ⟨DrP O, DrP O, DrP O, cP fun _ _ hb _ _ _ => Ops.idx (hP7.later hb).2 O O O (by omega) (by omega) (AzP O O), cP fun _ _ hb _ _ _ => Ops.ld_int (hP7.later hb) O (by omega) O O (AzP O O), DrP O, cP fun _ _ hb _ _ _ => Ops.fld (hB.below hb) O O O O inferInstance (AzP O O), cP fun _ _ hb _ _ _ => Ops.ldf_s (hB.below hb) O O O O O (AzP O O), DrP O, cP fun _ _ hb _ _ _ => Ops.idx (hM.top.later hb).2 O O O (by omega) (by omega) (AzP O O), cP fun _ _ hb _ _ _ => Ops.ld_sl (hM.top.later hb) O (by omega) O O (AzP O O), DrP O, cP fun _ _ hb _ _ _ => Ops.idx (hrow.later hb).2 O O O (by omega) (by omega) (AzP O O), cP fun _ _ hb _ _ _ => Ops.ld_int (hrow.later hb) O (by omega) O O (AzP O O), cP fun _ _ hb _ _ _ => Ops.idx (hP7.later hb).2 O O O (by omega) (by omega) (AzP O O), cP fun _ _ hb _ _ _ => Ops.ld_int (hP7.later hb) O (by omega) O O (AzP O O), cP fun _ _ hb _ _ _ => Ops.idx (hO.later hb).2 O O O (by omega) (by omega) (AzP O O), ?_, trivial⟩
    refine cPT fun e1 w1 hb hp hun hq => ?_
    refine Ops.st_int 0 (hS7.later hb) O O O hlt ?_
    intro w9 hst
    refine Ops.n ?_
    exact AfterU.st O hst
   intro u w8 _ hu _ _
   have hS8 := hu 17 _ O (by kernel_rfl)
   refine Geo O (Ops.add O O O (by omega) (Gdn O (tQ ?_)))
   exact ⟨k + 1, by show N - (k + 1) < N - k; omega, ⟨O, O, O, O, O, O, O, trivial⟩, hS8, by omega⟩
  have hkN : k = N := by omega
  subst hkN
  refine Gax O (thenQ_x (Gfo O ?_))
  refine Ops.fld (hS7.rd 1 O) O O O O inferInstance (Ops.ldf_s (hS7.rd 1 O) O O O O O (Gdo O (Ops.bs1R hS7 O O O ?_)))
  intro A9 w9 hS9
  refine Ops.appR 5 hS9 O (hS9.rdR 0 O) O O O (by omega) (by omega) O ?_
  intro A10 c10 w10 hS10
  have hS10 := hS10.tail
  refine Ops.fld (hS10.rd 1 O) O O O O inferInstance (Ops.stf 1 hS10 O O O O O ?_)
  intro w11 hS11
  have hS11 : St w w11 (CkI 2 A7 k k (renI k p (gl xss i)) :: Bx 24 1 Ad [.slice A10 (i + 1) c10] :: Bx 24 1 Ac [.slice none 0 0] :: Bx 24 1 Ab [.slice A n c] :: CkR 32 A10 (i + 1) c10 (rs1 ++ [⟨A7, k, k⟩]) :: rowsCk 2 rs1 ((xss.map (renI k p)).take i)) := hS11
  refine Gdo O (Ops.add O O O (by omega) (Gdn O (tQ ?_)))
  refine ⟨(i + 1, A10, c10, rs1 ++ [⟨A7, k, k⟩]), by show n - (i + 1) < n - i; omega, ⟨O, O, O, O, O, trivial⟩, ?_, hi', by simp [hlen]⟩
  show St w w11 (_ :: _ :: _ :: CkR _ A10 (i + 1) c10 (rs1 ++ [_]) :: rowsCk _ (rs1 ++ [_]) ((xss.map (renI k p)).take (i + 1)))
  rw [List.take_succ_eq_append_getElem (by rw [List.length_map]; exact hx), rowsCk_append (by simp [hlen]; omega), List.getElem_map, ← e2]
  refine hS11.perm ?_
  exact List.perm_append_comm (l₁ := [_]) (l₂ := _ :: _ :: _ :: _ :: rowsCk 2 rs1 ((xss.map (renI k p)).take i))
 refine Gax O (thenQ_x (Gfo O ?_))
 have hin : i = n := by omega
 subst hin
 rw [List.take_of_length_le (by rw [List.length_map]; omega)] at hS5
 refine Ops.ld_agg 0 (hS5.rd 0 O) O O O (Ops.st_agg 1 1 hS5 O O O O O O O ?_)
 intro w6 hS6
 refine Gdr O (retc_r O (hS6.rd 1 O) ?_)
 exact ⟨A3, c3, rs1, O, hlen, hS6.sub (((List.sublist_cons_self _ _).trans (List.sublist_cons_self _ _)).trans (List.sublist_cons_self _ _))⟩
/-
 The walks of forms on both sides.
-/
theorem Mani.prm {xss : List (List Int)} (hM : Mani xss) {f : Int} (h0 : 0 ≤ f) (hf : f < (gl xss 0).length) : Prm (gl xss 0).length (orbit (gl xss 0).length xss f) := by
 have hs := hM.2.2.1.sys
 have hi := hM.2.2.1.inj
 have h2 := hM.2.1
 obtain ⟨g, _, hm⟩ := orbit_spec hs h0 hf
 have hall := (orbit_all hs (by omega)).1 hM.2.2.2.2
 refine ⟨?_, g.nodup, g.range⟩
 have h1 := sub_len (seqI (gl xss 0).length) (orbit (gl xss 0).length xss f) (by
  unfold seqI
  rw [List.nodup_iff_pairwise_ne, List.pairwise_map]
  exact (List.nodup_iff_pairwise_ne.1 List.nodup_range).imp (fun h e => h (by omega))) (fun z hz => by
  have hz := seqI_mem.1 hz
  exact (hm z).2 ((Reach.symm hs hi (by omega) (by omega) (hall f h0 hf)).trans (hall z hz.1 hz.2)))
 rw [seqI_len] at h1
 have := g.len
 omega
theorem numberedFrom_c (A : Option Addr) (n c : Nat) (rs : List SlV) (xss : List (List Int)) (N : Nat) (pt : Int) (w : World) (hR : RowsI w A n rs xss) (hn : n ≤ 9223372036854775807) (hn0 : 0 < n) (hs : Sys N xss) (hN : N ≤ 1000000000) (h0 : 0 ≤ pt) (h1 : pt < N) :
  Ret Tryz.prog 222 [.slice A n c, .int .i64 pt] w (fun v w' => ∃ A' c', v = .slice A' (orbit N xss pt).length c' ∧ St w w' [CkI 2 A' (orbit N xss pt).length c' (orbit N xss pt)]) := by
 have hrl : ∀ k : Int, 0 ≤ k → k < n → (rg rs k).n = N := fun k hk0 hk => by
  rw [← hR.rowLen hk0 hk]
  exact (hs _ (gl_in hk0 (by rw [hR.len]; exact hk))).1
 have hr0 := hrl 0 (by omega) (by omega)
 refine Ret.of_cd Tryz.func222 O Tryz.ntmps222 O (post1 O) (Gbo O (Ops.idx hR.top.2 O O O (by omega) (by omega) (Ops.ld_sl hR.top O (by omega) O O (Ops.len O O ?_))))
 refine Ops.mkB N (St.refl w) (by rw [hr0]; rfl) O (by omega) ?_
 intro A5 w1 hS1
 refine Gdo O ?_
 refine Ops.idx (hS1.rdB 0 O).2 (by rw [hr0]; rfl) O O (by omega) (by omega) ?_
 refine Ops.st_bool 0 hS1 O O O (by omega) ?_
 intro w2 hS2
 refine Gdo O (Ops.bs1I hS2 O O O ?_)
 intro A6 w3 hS3
 refine Gdc O ?_
 refine Cd.loop (α := Nat × List Int × Option Addr × Nat × List Bool) (fun q => [(0, .slice A n c), (5, .slice A5 N N), (6, .slice q.2.2.1 q.2.1.length q.2.2.2.1), (7, .int .i64 (q.1 : Int))]) (fun q w' => St w w' [CkI 2 q.2.2.1 q.2.1.length q.2.2.2.1 q.2.1, CkB 4 A5 N N q.2.2.2.2] ∧ q.1 ≤ q.2.1.length ∧ Good N xss pt q.2.1 ∧ Marked N q.2.2.2.2 q.2.1 ∧ bfs xss (N + 1 - q.1) q.1 q.2.1 = orbit N xss pt) (fun q => N + 1 - q.1) (0, [pt], A6, 1, (List.replicate N false).set pt.toNat true) ⟨O, by rw [hr0]; rfl, O, O, trivial⟩ ⟨hS3, Nat.zero_le _, good_one h0 h1, Marked.init h0 (by omega), O⟩ ?_
 rintro ⟨i, out, Ao, co, S⟩ e2 w5 ⟨hS5, hi, hg, hm, hb⟩
 dsimp only at hS5 hi hg hm hb ⊢
 have hlen := hg.len
 refine Gbo O (Ops.len O O (Gdc O ?_))
 refine Cd.cond_p _ O (fun h2 => ?_) (fun h2 => ?_)
 ·refine Gao O (Ops.len O O (Gdc O ?_))
  refine Cd.loop (α := Nat × List Int × Option Addr × Nat × List Bool) (fun q => [(0, .slice A n c), (5, .slice A5 N N), (6, .slice q.2.2.1 q.2.1.length q.2.2.2.1), (7, .int .i64 (i : Int)), (27, .slice A n c), (28, .int .i64 (n : Int)), (29, .int .i64 (q.1 : Int))]) (fun q w' => St w w' [CkI 2 q.2.2.1 q.2.1.length q.2.2.2.1 q.2.1, CkB 4 A5 N N q.2.2.2.2] ∧ q.1 ≤ n ∧ Good N xss pt q.2.1 ∧ Marked N q.2.2.2.2 q.2.1 ∧ out <+: q.2.1 ∧ (xss.drop q.1).foldl (fun o p => push1 o (gi p (gi out i))) q.2.1 = expand xss (gi out i) out) (fun q => n - q.1) (0, out, Ao, co, S) ⟨O, O, O, O, O, O, O, trivial⟩ ⟨hS5, Nat.zero_le _, hg, hm, List.prefix_rfl, O⟩ ?_
  rintro ⟨k, out', Ao', co', S'⟩ e3 w6 ⟨hS6, hk, hg', hm', hp', hf⟩
  dsimp only at hS6 hk hg' hm' hp' hf ⊢
  have hlen' := hg'.len
  refine Gbc O ?_
  refine Cd.cond_p _ O (fun h3 => ?_) (fun h3 => ?_)
  ·have hio : i < out'.length := by have := hp'.length_le; omega
   have hgi : gi out' i = gi out i := gi_prefix hp' (by omega)
   have hxi := hg.range _ (gi_in (i := i) (by omega))
   have hmem : gl xss k ∈ xss := gl_in (by omega) (by rw [hR.len]; omega)
   have hy := (hs _ hmem).2 (gi out i) hxi.1 hxi.2
   have hrk := hrl k (by omega) (by omega)
   have hT := (hS6.oldRows hR)
   have hO := hS6.rdI 0 O
   have hrow := hT.at_ (i := k) (by omega) (by omega)
   have hfold : (xss.drop (k + 1)).foldl (fun o p => push1 o (gi p (gi out i))) (push1 out' (gi (gl xss k) (gi out i))) = expand xss (gi out i) out := by
    rw [← hf, List.drop_eq_getElem_cons (show k < xss.length by rw [hR.len]; omega), List.foldl_cons, gl_mem (by rw [hR.len]; omega)]
   refine Gao O (Ops.idx hT.top.2 O O O (by omega) (by omega) (Ops.ld_sl hT.top O (by omega) O O (Gdo O (Ops.idx hO.2 O O O (by omega) (by omega) (Ops.ld_int hO O (by omega) O O ?_)))))
   rw [hgi]
   refine Ops.idx hrow.2 O O O (by omega) (by omega) (Ops.ld_int hrow O (by omega) O O (Gdo O (Ops.idx (hS6.rdB 1 O).2 O O O (by omega) (by omega) (Ops.ld_bool (hS6.rdB 1 O) O (by omega) O O ?_))))
   first | refine Ops.not_p rfl rfl ?_ | refine Ops.not rfl rfl ?_
   refine Gdc O ?_
   refine Cd.cond O (fun h4 => ?_) (fun h4 => ?_)
   ·have hnin : ¬ gi (gl xss k) (gi out i) ∈ out' := fun hin => by
     have := (hm'.2 _ hy.1 (by omega)).2 hin
     rw [this] at h4; cases h4
    have hpush : push1 out' (gi (gl xss k) (gi out i)) = out' ++ [gi (gl xss k) (gi out i)] := by unfold push1; rw [if_neg hnin]
    have hg7 := hg'.push hs (hp'.subset (gi_in (i := i) (by omega))) hmem
    have hp7 := hp'.trans (push1_prefix out' (gi (gl xss k) (gi out i)))
    rw [hpush] at hfold hg7 hp7
    have hlen7 := hg7.len
    simp only [List.length_append, List.length_singleton] at hlen7
    refine Gao O (Ops.idx (hS6.rdB 1 O).2 O O O (by omega) (by omega) (Ops.st_bool 1 hS6 O O O (by omega) ?_))
    intro w8 hS8
    refine Gdo O (Ops.bs1I hS8 O O O ?_)
    intro A3 w9 hS9
    refine Ops.appI 1 hS9 O (hS9.rdI 0 O) O O O (by omega) (by omega) O ?_
    intro A4 c4 w10 hS10
    refine Gdo O (Ops.add O O O (by omega) (Gdn O (tQ ?_)))
    refine ⟨(k + 1, out' ++ [gi (gl xss k) (gi out i)], A4, c4, S'.set (gi (gl xss k) (gi out i)).toNat true), by show n - (k + 1) < n - k; omega, ⟨O, O, by rw [List.length_append]; rfl, O, O, O, O, trivial⟩, ?_, by show k + 1 ≤ n; omega, hg7, hm'.push hy.1 (by omega), hp7, hfold⟩
    have h11 := hS10.tail
    simp only [List.length_append, List.length_singleton]
    exact h11
   have hin : gi (gl xss k) (gi out i) ∈ out' := (hm'.2 _ hy.1 (by omega)).1 (by simpa using h4)
   have hpush : push1 out' (gi (gl xss k) (gi out i)) = out' := by unfold push1; rw [if_pos hin]
   rw [hpush] at hfold
   refine Gao O (Ops.add O O O (by omega) (Gdn O (tQ ?_)))
   exact ⟨(k + 1, out', Ao', co', S'), by show n - (k + 1) < n - k; omega, ⟨O, O, O, O, O, O, O, trivial⟩, hS6, by show k + 1 ≤ n; omega, hg', hm', hp', hfold⟩
  refine Gax O (thenQ_x (Gfo O (Ops.add O O O (by omega) (Gdn O (tQ ?_)))))
  have hkn : k = n := by omega
  rw [hkn, List.drop_of_length_le (by rw [hR.len]; omega)] at hf
  have hf : out' = expand xss (gi out i) out := hf
  refine ⟨(i + 1, out', Ao', co', S'), by show N + 1 - (i + 1) < N + 1 - i; omega, ⟨O, O, O, O, trivial⟩, hS6, by show i + 1 ≤ out'.length; have := hp'.length_le; omega, hg', hm', ?_⟩
  show bfs xss (N + 1 - (i + 1)) (i + 1) out' = _
  rw [← hb, show N + 1 - i = (N + 1 - (i + 1)) + 1 by omega]
  simp only [bfs]
  rw [if_pos (by omega), hf]
 refine Gax O (thenQ_x (Gfr O ?_))
 refine ret1_s O ?_
 rw [bfs_out (by omega)] at hb
 subst hb
 exact ⟨Ao, co, O, hS5.sub (List.Sublist.cons_cons _ (List.nil_sublist _))⟩
/-
 The cycles of a list of numbers, by their least points, and lists in ascending order: a plain law, with no program in sight.
-/
/-! ascending lists -/
def Asc (l : List Int) : Prop := l.Pairwise (· ≤ ·)
def srt (l : List Int) : List Int := l.mergeSort fun x y => decide (x ≤ y)
theorem srt_perm (l : List Int) : (srt l).Perm l := List.mergeSort_perm _ _
theorem srt_asc (l : List Int) : Asc (srt l) := by
 have := List.pairwise_mergeSort (le := fun x y : Int => decide (x ≤ y)) (fun a b c h1 h2 => by simp at h1 h2 ⊢; omega) (fun a b => by simp; omega) l
 exact this.imp fun h => by simpa using h
theorem asc_unique {l l' : List Int} (h : l.Perm l') (h1 : Asc l) (h2 : Asc l') : l = l' :=
 List.Perm.eq_of_pairwise (le := (· ≤ ·)) (fun a b _ _ h1 h2 => by omega) h1 h2 h
/-
 The walks of the reference's runs of a word over flags, and of the lengths of a word.
-/
def Grph (xss : List (List Int)) : Prop := Mani xss ∧ 2 ≤ xss.length
instance (xss : List (List Int)) : Decidable (Grph xss) := by unfold Grph; exact inferInstance
theorem l02Flags_c (A : Option Addr) (n c : Nat) (rs : List SlV) (xss : List (List Int)) (w : World) (hR : RowsI w A n rs xss) (hn : 0 < n) :
  Ret Tryz.prog 161 [.agg #[.slice A n c]] w (fun v w' => v = .int .i64 ((gl xss 0).length : Int) ∧ St w w' []) := by
 refine Ret.of_cd Tryz.func161 O Tryz.ntmps161 O (post1 O) (Gbo O (Ops.box1 (St.refl w) O O ?_))
 intro Ab w1 hS
 have hR1 := hS.oldRows hR
 have e0 : (gl xss 0).length = (rg rs 0).n := hR.rowLen (by omega) (by omega)
 refine Gdo O (Ops.fld (hS.rd 0 O) O O O O inferInstance (Ops.ldf_s (hS.rd 0 O) O O O O O (Ops.idx hR1.top.2 O O O (by omega) (by omega) (Ops.ld_sl hR1.top O (by omega) O O ?_))))
 refine Ops.len O O (Gdr O ?_)
 refine ret1_i O ?_
 exact ⟨by rw [e0], hS.none⟩
/-
 The walk of the reference's lengths of a word.
-/
theorem RdI.take {w : World} {A : Option Addr} {n l : Nat} {xs : List Int} (h : RdI w A n xs) (hl : l ≤ n) : RdI w A l (xs.take l) := by
 have := h.cut (l := 0) (h := l) (c := 0) (Nat.zero_le _) hl
 refine ⟨by rw [List.length_take, h.1]; omega, fun k hk => ?_⟩
 obtain ⟨q, h1, h2⟩ := h.2 k (by omega)
 exact ⟨q, h1, by rw [h2]; simp [List.getElem?_take, hk, List.getD_eq_getElem?_getD]⟩
end Go.Proofs.YtopgfgdgfjddpaaGreatDoor.Vc
