/-
  The texts Grv, Frm, G1, G2, G3, Gct, G4, G5, F1, F2, Cyc, C1, C2 in one. Conditions: as each part states them.
-/
import Derived.Test.YtjpkmpihmilgoaaZc
import Derived.KernelRfl
import Derived.Test.YtjpkmpihmilgoaaZb
import Derived.Test.YtjpkmpihmilgoaaZa
/-
  Plain mathematics of rooted forms: both ways of cutting the tree keep the maniplexes, in the same order. Conditions: as each states them. No program in sight.
-/
namespace Go.Proofs.Ytjpkmpihmilgoaa.Vc

section
variable {n F : Nat} {L M : List (List Int)}
theorem Inv.full (h : Inv n F L F (F * n)) {i : Nat} {f : Int} (hi : i < n) (h0 : 0 ≤ f) (hf : f < F) : 0 ≤ cell L i f := by
  obtain ⟨q, rfl⟩ : ∃ q : Nat, f = q := ⟨f.toNat, by omega⟩
  have h1 : q * n + i < F * n := by
    have : (q + 1) * n ≤ F * n := Nat.mul_le_mul_right n (by omega)
    rw [Nat.succ_mul] at this
    omega
  have h2 := h.known (q * n + i) h1
  rw [Nat.add_comm, Nat.add_mul_mod_self_right, Nat.mod_eq_of_lt hi, Nat.add_mul_div_right _ _ h.n0, Nat.div_eq_of_lt hi, Nat.zero_add] at h2
  exact h2
/-- a maniplex, told by cells -/
theorem Mani.cells (hL : Inv n F L F (F * n)) (h : Mani L) {i k : Nat} (hi : i < n) (hk : k < n) (hik : i + 2 ≤ k) {f : Int} (h0 : 0 ≤ f) (hf : f < F) : cell L k (cell L i f) = cell L i (cell L k f) ∧ cell L i f ≠ cell L k f := by
  have hl0 : (gl L 0).length = F := hL.shp.row hL.n0
  have hlen := hL.shp.1
  have h1 := h.2.2.2.1 i (by omega) k (by omega) hik f.toNat (by omega)
  unfold Comm at h1
  rw [Int.toNat_of_nonneg h0] at h1
  exact h1
/-- all rooted forms that go on from here, in order -/
def forms (n F : Nat) (k at_ met : Nat) (M : List (List Int)) : List (List (List Int)) := (grow n F (fun _ _ _ => true) (fun _ => true) k at_ met M).filter fun L => decide (Mani L)

/-- nothing known -/
def blank (n F : Nat) : List (List Int) := List.replicate n (List.replicate F (-1))
end
end Go.Proofs.Ytjpkmpihmilgoaa.Vc
/-
  Forms of maniplexes, their order, and rooted forms, without a program. Conditions: as each states them.
-/
namespace Go.Proofs.Ytjpkmpihmilgoaa.Vc
open Go.RowKit

/-! scattered writes -/
def scat (init : List Int) (ix v : Nat → Int) : Nat → List Int
  | 0 => init
  | k + 1 => (scat init ix v k).set (ix k).toNat (v k)
theorem scat_len (init : List Int) (ix v : Nat → Int) : ∀ k, (scat init ix v k).length = init.length
  | 0 => rfl
  | k + 1 => by simp [scat, scat_len init ix v k]
def seqI (m : Nat) : List Int := (List.range m).map fun (k : Nat) => (k : Int)
theorem seqI_len (m : Nat) : (seqI m).length = m := by simp [seqI]
theorem seqI_get {m k : Nat} (h : k < m) : gi (seqI m) (k : Int) = k := by rw [gi_mem (by rw [seqI_len]; exact h)]; simp [seqI]
theorem seqI_mem {m : Nat} {x : Int} : x ∈ seqI m ↔ 0 ≤ x ∧ x < m := by
  simp only [seqI, List.mem_map, List.mem_range]
  exact ⟨fun ⟨k, hk, e⟩ => by omega, fun h => ⟨x.toNat, by omega, by omega⟩⟩
theorem seqI_succ (m : Nat) : seqI (m + 1) = seqI m ++ [(m : Int)] := by simp [seqI, List.range_succ]
/-! the inverse, and a system renumbered -/
def backI (N : Nat) (o : List Int) : List Int := scat (List.replicate N 0) (fun k => gi o k) (fun k => (k : Int)) o.length
/-- each of the N places once -/
structure Prm (N : Nat) (o : List Int) : Prop where
  len : o.length = N
  nodup : o.Nodup
  range : ∀ x ∈ o, 0 ≤ x ∧ x < (N : Int)
section
variable {N : Nat} {o : List Int}
end
/-- a move in new numbers: read along the order of the flags -/
def rowF (o b mv : List Int) : List Int := o.map fun x => gi b (gi mv x)
/-- .. and written place by place -/
def renI (N : Nat) (p mv : List Int) : List Int := scat (List.replicate N 0) (fun f => gi p f) (fun f => gi p (gi mv f)) N
/-- the form of a system from a flag -/
def formL (N : Nat) (xss : List (List Int)) (f : Int) : List (List Int) := xss.map fun mv => rowF (orbit N xss f) (backI N (orbit N xss f)) mv
/-! lexicographic order -/
def cmpI (a b : Int) : Int := if a < b then -1 else if b < a then 1 else 0
def lexC : List Int → List Int → Int
  | [], [] => 0
  | [], _ :: _ => -1
  | _ :: _, [] => 1
  | a :: l, b :: r => if cmpI a b = 0 then lexC l r else cmpI a b
def lexCC : List (List Int) → List (List Int) → Int
  | [], [] => 0
  | [], _ :: _ => -1
  | _ :: _, [] => 1
  | a :: l, b :: r => if lexC a b = 0 then lexCC l r else lexC a b
theorem cmpI_zero {a b : Int} : cmpI a b = 0 ↔ a = b := by unfold cmpI; by_cases h : a < b <;> by_cases h' : b < a <;> simp [h, h'] <;> omega
theorem cmpI_neg {a b : Int} : cmpI a b < 0 ↔ a < b := by unfold cmpI; by_cases h : a < b <;> by_cases h' : b < a <;> simp [h, h'] <;> omega
theorem cmpI_swap (a b : Int) : cmpI b a = - cmpI a b := by unfold cmpI; split <;> split <;> omega
theorem lexC_zero : ∀ {a b : List Int}, lexC a b = 0 ↔ a = b
  | [], [] => by simp [lexC]
  | [], _ :: _ => by simp [lexC]
  | _ :: _, [] => by simp [lexC]
  | a :: l, b :: r => by
    simp only [lexC]
    split
    · rename_i h
      rw [lexC_zero, cmpI_zero.1 h]
      simp
    · rename_i h
      constructor
      · intro h'; exact absurd h' h
      · intro h'; exact absurd (cmpI_zero.2 (List.cons.inj h').1) h
theorem lexCC_zero : ∀ {a b : List (List Int)}, lexCC a b = 0 ↔ a = b
  | [], [] => by simp [lexCC]
  | [], _ :: _ => by simp [lexCC]
  | _ :: _, [] => by simp [lexCC]
  | a :: l, b :: r => by
    simp only [lexCC]
    split
    · rename_i h
      rw [lexCC_zero, lexC_zero.1 h]
      simp
    · rename_i h
      constructor
      · intro h'; exact absurd h' h
      · intro h'; exact absurd (lexC_zero.2 (List.cons.inj h').1) h
theorem lexC_swap : ∀ (a b : List Int), lexC b a = - lexC a b
  | [], [] => rfl
  | [], _ :: _ => rfl
  | _ :: _, [] => rfl
  | a :: l, b :: r => by
    simp only [lexC]
    rw [cmpI_swap a b, lexC_swap l r]
    by_cases h : cmpI a b = 0
    · rw [if_pos h, if_pos (by omega)]
    · rw [if_neg h, if_neg (by omega)]
theorem lexC_trans : ∀ {a b c : List Int}, lexC a b < 0 → lexC b c < 0 → lexC a c < 0
  | [], [], _, h, _ => by simp [lexC] at h
  | [], _ :: _, [], _, h => by simp [lexC] at h
  | [], _ :: _, _ :: _, _, _ => by simp [lexC]
  | _ :: _, [], _, h, _ => by simp [lexC] at h
  | _ :: _, _ :: _, [], _, h => by simp [lexC] at h
  | a :: l, b :: r, c :: s, h, h' => by
    simp only [lexC] at h h' ⊢
    by_cases e1 : cmpI a b = 0
    · have := cmpI_zero.1 e1
      subst this
      rw [if_pos e1] at h
      by_cases e2 : cmpI a c = 0
      · rw [if_pos e2] at h' ⊢
        exact lexC_trans h h'
      · rw [if_neg e2] at h' ⊢
        exact h'
    · rw [if_neg e1] at h
      have hab := cmpI_neg.1 h
      by_cases e2 : cmpI b c = 0
      · have := cmpI_zero.1 e2
        subst this
        rw [if_neg e1]
        exact h
      · rw [if_neg e2] at h'
        have hbc := cmpI_neg.1 h'
        have hac : cmpI a c < 0 := cmpI_neg.2 (by omega)
        rw [if_neg (by omega)]
        exact hac
theorem lexCC_trans : ∀ {a b c : List (List Int)}, lexCC a b < 0 → lexCC b c < 0 → lexCC a c < 0
  | [], [], _, h, _ => by simp [lexCC] at h
  | [], _ :: _, [], _, h => by simp [lexCC] at h
  | [], _ :: _, _ :: _, _, _ => by simp [lexCC]
  | _ :: _, [], _, h, _ => by simp [lexCC] at h
  | _ :: _, _ :: _, [], _, h => by simp [lexCC] at h
  | a :: l, b :: r, c :: s, h, h' => by
    simp only [lexCC] at h h' ⊢
    by_cases e1 : lexC a b = 0
    · have := lexC_zero.1 e1
      subst this
      rw [if_pos e1] at h
      by_cases e2 : lexC a c = 0
      · rw [if_pos e2] at h' ⊢
        exact lexCC_trans h h'
      · rw [if_neg e2] at h' ⊢
        exact h'
    · rw [if_neg e1] at h
      by_cases e2 : lexC b c = 0
      · have := lexC_zero.1 e2
        subst this
        rw [if_neg e1]
        exact h
      · rw [if_neg e2] at h'
        have hac : lexC a c < 0 := lexC_trans h h'
        rw [if_neg (by omega)]
        exact hac

/-! the least form -/
def leastTo (N : Nat) (xss : List (List Int)) : Nat → List (List Int)
  | 0 => formL N xss 0
  | k + 1 => if lexCC (formL N xss k) (leastTo N xss k) < 0 then formL N xss k else leastTo N xss k
def leastL (N : Nat) (xss : List (List Int)) : List (List Int) := leastTo N xss N
/-! rooted forms are their own forms from the flag 0 -/
section
variable {n F : Nat}
/-- how many flags are numbered ahead of a place -/
def mtL (L : List (List Int)) (n : Nat) : Nat → Nat
  | 0 => 1
  | a + 1 => max (mtL L n a) ((cell L (a % n) (a / n : Nat)).toNat + 1)
def RG (L : List (List Int)) (n a : Nat) : Prop := 0 ≤ cell L (a % n) (a / n : Nat) ∧ cell L (a % n) (a / n : Nat) ≤ mtL L n a ∧ a / n < mtL L n a
theorem push_seq {m : Nat} {v : Int} (h0 : 0 ≤ v) (h1 : v ≤ m) : push1 (seqI m) v = seqI (max m (v.toNat + 1)) := by
  unfold push1
  by_cases h : v < m
  · rw [if_pos (seqI_mem.2 ⟨h0, h⟩), show max m (v.toNat + 1) = m by omega]
  · rw [if_neg (fun hm => h (seqI_mem.1 hm).2), show max m (v.toNat + 1) = m + 1 by omega, seqI_succ, show v = (m : Int) by omega]
theorem expand_seq {L : List (List Int)} {f : Nat} (hl : L.length = n) (hn : 0 < n) (hR : ∀ a, f * n ≤ a → a < (f + 1) * n → RG L n a) : expand L (f : Int) (seqI (mtL L n (f * n))) = seqI (mtL L n ((f + 1) * n)) := by
  have e1 : (f + 1) * n = f * n + n := by rw [Nat.succ_mul]
  have key : ∀ j, j ≤ n → (L.take j).foldl (fun o p => push1 o (gi p f)) (seqI (mtL L n (f * n))) = seqI (mtL L n (f * n + j)) := by
    intro j
    induction j with
    | zero => intro _; rfl
    | succ j ih =>
      intro hj
      have hj' : j < L.length := by omega
      rw [List.take_succ_eq_append_getElem hj', List.foldl_append, ih (by omega)]
      have ha1 : (f * n + j) % n = j := by rw [Nat.mul_comm, Nat.mul_add_mod]; exact Nat.mod_eq_of_lt (by omega)
      have ha2 : (f * n + j) / n = f := by rw [Nat.mul_comm, Nat.mul_add_div hn]; rw [Nat.div_eq_of_lt (by omega)]; omega
      have hr := hR (f * n + j) (by omega) (by omega)
      unfold RG at hr
      rw [ha1, ha2] at hr
      have hc : cell L j (f : Int) = gi (L[j]) f := by
        unfold cell
        rw [show gl L (j : Int) = L[j] by simp [gl, List.getD_eq_getElem?_getD, List.getElem?_eq_getElem hj']]
      show push1 _ (gi L[j] f) = seqI (max (mtL L n (f * n + j)) ((cell L ((f * n + j) % n) ((f * n + j) / n : Nat)).toNat + 1))
      rw [ha1, ha2, ← hc]
      exact push_seq hr.1 hr.2.1
  have := key n (Nat.le_refl _)
  rw [List.take_of_length_le (by omega)] at this
  rw [e1]
  exact this
end
end Go.Proofs.Ytjpkmpihmilgoaa.Vc
/-
  The walks of copies and of the reference's tests of partial moves. Conditions: as each states them.
-/
namespace Go.Proofs.Ytjpkmpihmilgoaa.Vc
open Go.RowKit

theorem l01Own_c (A : Option Addr) (n c : Nat) (xs : List Int) (w : World) (hR : RdI w A n xs) (hn : n ≤ 1000000000) : Ret Try.prog 37 [.slice A n c] w (fun v w' => ∃ A' c', v = .slice A' n c' ∧ St w w' [CkI 2 A' n c' xs]) := by
  refine Ret.of_cd Try.func37 rfl Try.ntmps37 rfl (post1 rfl) ?_
  refine Cd.seq ?_
  refine Cd.region ?_
  refine Ops.mv_sl rfl rfl rfl ?_
  refine Ops.nil ?_
  refine thenQ_n ?_
  refine Cd.seq ?_
  refine Cd.region ?_
  refine Ops.bs0 (St.refl w) rfl ?_
  intro A1 w1 hS1
  have hS1 : St w w1 [CkI 2 A1 0 0 []] := hS1
  refine Ops.mv_sl rfl rfl rfl ?_
  refine Ops.appI 0 hS1 rfl (hS1.oldI hR) rfl rfl rfl (by omega) (by omega) rfl ?_
  intro A2 c2 w2 hS2
  rw [Nat.zero_add] at hS2 ⊢
  refine Ops.mv_sl rfl rfl rfl ?_
  refine Ops.nil ?_
  refine thenQ_n ?_
  refine Cd.ret ?_
  refine ret1_s rfl ?_
  exact ⟨A2, c2, rfl, hS2⟩

theorem l01Own2_c (A : Option Addr) (n c : Nat) (rs : List SlV) (xss : List (List Int)) (w : World) (hR : RowsI w A n rs xss) (hn : n ≤ 1000000000) (hr : ∀ i, i < n → (rs.getD i slNil).n ≤ 1000000000) :
    Ret Try.prog 25 [.slice A n c] w (fun v w' => ∃ A' c' rs', v = .slice A' n c' ∧ rs'.length = n ∧ St w w' (mat 36 2 A' n c' rs' xss)) := by
  refine Ret.of_cd Try.func25 rfl Try.ntmps25 rfl (post1 rfl) ?_
  refine Cd.seq ?_
  refine Cd.region ?_
  refine Ops.mv_sl rfl rfl rfl ?_
  refine Ops.nil ?_
  refine thenQ_n ?_
  refine Cd.seq ?_
  refine Cd.region ?_
  refine Ops.bs0 (St.refl w) rfl ?_
  intro A1 w1 hS1
  have hS1 : St w w1 [CkR 36 A1 0 0 []] := hS1
  refine Ops.mv_sl rfl rfl rfl ?_
  refine Ops.nil ?_
  refine thenQ_n ?_
  refine Cd.seq ?_
  refine Cd.seq ?_
  refine Cd.region ?_
  refine Ops.mv_int rfl rfl rfl ?_
  refine Ops.nil ?_
  refine thenQ_n ?_
  refine Cd.block ?_
  refine Cd.loop (α := Nat × Option Addr × Nat × List SlV) (fun s => [(0, .slice A n c), (3, .slice s.2.1 s.1 s.2.2.1), (4, .int .i64 (s.1 : Int))]) (fun s w' => St w w' (CkR 36 s.2.1 s.1 s.2.2.1 s.2.2.2 :: rowsCk 2 s.2.2.2 (xss.take s.1)) ∧ s.1 ≤ n ∧ s.2.2.2.length = s.1) (fun s => n - s.1) (0, A1, 0, []) ⟨rfl, rfl, rfl, trivial⟩ ⟨hS1, Nat.zero_le _, rfl⟩ ?_
  rintro ⟨k, A3, c3, rs1⟩ e w2 ⟨hS2, hk, hlen⟩
  dsimp only at hS2 hk hlen ⊢
  refine Cd.seq ?_
  refine Cd.seq ?_
  refine Cd.region ?_
  refine Ops.mv_int rfl rfl rfl ?_
  refine Ops.mv_sl rfl rfl rfl ?_
  refine Ops.len rfl rfl ?_
  refine Ops.lss rfl rfl rfl ?_
  refine Ops.nil ?_
  refine thenQ_n ?_
  refine Cd.cond_p _ rfl (fun h1 => ?_) (fun h1 => ?_)
  · have hk' : k < n := by omega
    have hx : k < xss.length := by rw [hR.len]; exact hk'
    refine Cd.skip ?_
    refine thenQ_n ?_
    refine Cd.seq ?_
    refine Cd.block ?_
    refine Cd.region ?_
    refine Ops.mv_sl rfl rfl rfl ?_
    refine Ops.mv_sl rfl rfl rfl ?_
    refine Ops.mv_int rfl rfl rfl ?_
    refine Ops.idx (hS2.oldR hR.top).2 rfl rfl rfl (by omega) h1 ?_
    refine Ops.ld_sl (hS2.oldR hR.top) rfl (by omega) rfl rfl ?_
    refine Ops.call (l01Own_c _ _ _ _ _ (hS2.oldI (hR.at_ (i := k) (by omega) h1)) (hr k hk')) rfl rfl rfl ?_
    rintro _ w3 ⟨A4, c4, rfl, hS3⟩
    have hS3 := hS2.call hS3
    refine Ops.bs1R hS3 rfl rfl rfl ?_
    intro A5 w4 hS4
    refine Ops.appR 2 hS4 rfl (hS4.rdR 0 rfl) rfl rfl rfl (by omega) (by omega) rfl ?_
    intro A6 c6 w5 hS5
    refine Ops.mv_sl rfl rfl rfl ?_
    refine Ops.nil ?_
    refine blockQ_n ?_
    refine thenQ_n ?_
    refine Cd.region ?_
    refine Ops.mv_int rfl rfl rfl ?_
    refine Ops.add rfl rfl rfl (by omega) ?_
    refine Ops.mv_int rfl rfl rfl ?_
    refine Ops.nil ?_
    refine thenQ_n ?_
    refine ⟨(k + 1, A6, c6, rs1 ++ [⟨A4, (rg rs k).n, c4⟩]), by show n - (k + 1) < n - k; omega, ⟨rfl, rfl, rfl, trivial⟩, ?_, hk', by simp [hlen]⟩
    have e2 : gl xss k = xss[k] := by simp [gl, List.getD_eq_getElem?_getD, List.getElem?_eq_getElem hx]
    show St w w5 (CkR _ A6 (k + 1) c6 (rs1 ++ [_]) :: rowsCk _ (rs1 ++ [_]) (xss.take (k + 1)))
    rw [List.take_succ_eq_append_getElem hx, rowsCk_append (by simp [hlen]; omega)]
    have h5 : St w w5 (CkI 2 A4 (rg rs k).n c4 (gl xss k) :: CkR 36 A6 (k + 1) c6 (rs1 ++ [⟨A4, (rg rs k).n, c4⟩]) :: rowsCk 2 rs1 (xss.take k)) := hS5.tail
    rw [e2] at h5
    refine h5.perm ?_
    refine (List.Perm.swap _ _ _).trans (List.Perm.cons _ ?_)
    exact List.perm_append_comm (l₁ := [_])
  · refine Cd.exit ?_
    refine thenQ_x ?_
    refine thenQ_x ?_
    refine blockQ_x ?_
    refine thenQ_n ?_
    refine Cd.seq ?_
    refine Cd.region ?_
    refine Ops.mv_sl rfl rfl rfl ?_
    refine Ops.mv_sl rfl rfl rfl ?_
    refine Ops.nil ?_
    refine thenQ_n ?_
    refine Cd.ret ?_
    refine ret1_s rfl ?_
    have : k = n := by omega
    subst this
    rw [← hR.len, List.take_length] at hS2
    exact ⟨A3, c3, rs1, rfl, hlen, by rw [← hR.len]; exact hS2⟩

/-- partial moves whose numbers are flags, or below 0 -/
def Rng (n F : Nat) (M : List (List Int)) : Prop := ∀ (i : Nat) (f : Int), i < n → 0 ≤ f → f < F → cell M i f < F
end Go.Proofs.Ytjpkmpihmilgoaa.Vc
/-
  The walk of the reference's search for rooted forms. Conditions: as each states them.
-/
namespace Go.Proofs.Ytjpkmpihmilgoaa.Vc
open Go.RowKit

/-- what the loop over g has found -/
def body (n F : Nat) (ok : List (List Int) → Nat → Nat → Bool) (fin : List (List Int) → Bool) (k at_ met : Nat) (M : List (List Int)) (g : Nat) : List (List (List Int)) :=
  if 0 ≤ cell M (at_ % n) (g : Nat) then [] else if ok (put M (at_ % n) (at_ / n) g) (at_ % n) (at_ / n) = true then grow n F ok fin k (at_ + 1) (max met (g + 1)) (put M (at_ % n) (at_ / n) g) else []
end Go.Proofs.Ytjpkmpihmilgoaa.Vc
/-
  The walk of the reference's search for rooted forms. Conditions: as each states them.
-/
namespace Go.Proofs.Ytjpkmpihmilgoaa.Vc
open Go.RowKit

end Go.Proofs.Ytjpkmpihmilgoaa.Vc
/-
  Plain mathematics: how many rooted forms there can be. Conditions: as each states them. No program in sight.
-/
namespace Go.Proofs.Ytjpkmpihmilgoaa.Vc

def dft : Nat → Nat
  | 0 => 1
  | 1 => 0
  | u + 2 => (u + 1) * dft u
def prod : List Nat → Nat
  | [] => 1
  | x :: l => x * prod l
def phi (M : List (List Int)) : Nat := prod (M.map fun p => dft (unl p))
theorem prod_set : ∀ (l : List Nat) (i k x : Nat) (h : i < l.length), l[i] = k * x → prod l = k * prod (l.set i x)
  | [], i, _, _, h, _ => by simp at h
  | y :: l, 0, k, x, _, e => by
    simp at e; subst e
    simp [prod, Nat.mul_assoc]
  | y :: l, i + 1, k, x, h, e => by
    have := prod_set l i k x (by simpa using h) (by simpa using e)
    simp only [prod, List.set_cons_succ, this]
    rw [Nat.mul_left_comm]
theorem prod_one : ∀ (l : List Nat), (∀ x ∈ l, x = 1) → prod l = 1
  | [], _ => rfl
  | x :: l, h => by simp [prod, h x (by simp), prod_one l (fun y hy => h y (by simp [hy]))]

theorem sum_le {α : Type} (f : Nat → List α) (p : Nat → Bool) (X : Nat) : ∀ (l : List Nat), (∀ g ∈ l, (f g).length ≤ if p g = true then X else 0) → (l.flatMap f).length ≤ l.countP p * X
  | [], _ => by simp
  | g :: l, h => by
    have h1 := h g (by simp)
    have h2 := sum_le f p X l (fun x hx => h x (by simp [hx]))
    rw [List.flatMap_cons, List.length_append, List.countP_cons]
    by_cases hp : p g = true
    · rw [if_pos hp] at h1 ⊢
      rw [Nat.add_mul, Nat.one_mul]; omega
    · rw [if_neg hp] at h1 ⊢
      rw [Nat.add_zero]
      omega

/-- the unknown places of a row behind one that is unknown -/
theorem behind_le {p : List Int} {q c : Nat} (hq : q < p.length) (hn : gi p q < 0) (hc : q + 1 + c ≤ p.length) : (List.range' (q + 1) c).countP (fun g => decide (gi p (g : Nat) < 0)) + 1 ≤ unl p := by
  have e1 : (List.range' (q + 1) c).map (fun g => gi p (g : Nat)) = (p.drop (q + 1)).take c := by
    apply List.ext_getElem
    · simp; omega
    · intro i h1 h2
      have hi : i < c := by simpa using h1
      rw [List.getElem_map, List.getElem_range', gi_mem (by omega)]
      simp
  have e2 : (List.range' (q + 1) c).countP (fun g => decide (gi p (g : Nat) < 0)) = ((p.drop (q + 1)).take c).countP (fun x => decide (x < 0)) := by
    rw [← e1, List.countP_map]; rfl
  have e3 : ((p.drop (q + 1)).take c).countP (fun x => decide (x < 0)) ≤ (p.drop (q + 1)).countP (fun x => decide (x < 0)) := (List.take_sublist _ _).countP_le
  have e4 : unl p = (p.take (q + 1)).countP (fun x => decide (x < 0)) + (p.drop (q + 1)).countP (fun x => decide (x < 0)) := by
    unfold unl
    rw [← List.countP_append, List.take_append_drop]
  have e5 : 0 < (p.take (q + 1)).countP (fun x => decide (x < 0)) := List.countP_pos_iff.2 ⟨gi p q, by rw [take_succ_gi hq]; simp, by simpa using hn⟩
  omega

section
variable {n F : Nat} {M : List (List Int)} {met at_ : Nat}
theorem phi_put (h : Shp n F M) {r q g : Nat} (hr : r < n) (hq : q < F) (hg : g < F) (hqg : q ≠ g) (h1 : cell M r q < 0) (h2 : cell M r g < 0) {u : Nat} (hu : unl (gl M r) = u + 2) : phi (put M r q g) = prod ((M.map fun p => dft (unl p)).set r (dft u)) ∧ phi M = (u + 1) * prod ((M.map fun p => dft (unl p)).set r (dft u)) := by
  have hl := h.1
  have hrow := h.row hr
  have hp1 : unl ((gl M r).set q (g : Int)) + 1 = unl (gl M r) := by
    have := unl_set (L := gl M r) (x := (q : Int)) (c := (g : Int)) (by omega) (by omega) h1 (by omega)
    rwa [Int.toNat_natCast] at this
  have e2 : gi ((gl M r).set q (g : Int)) g = gi (gl M r) g := by
    have := gi_set (S := gl M r) (x := (q : Int)) (y := (g : Int)) (b := (g : Int)) (by omega) (by omega) (by omega)
    rw [Int.toNat_natCast, if_neg (by omega)] at this
    exact this
  have hp2 : unl (((gl M r).set q (g : Int)).set g (q : Int)) + 1 = unl ((gl M r).set q (g : Int)) := by
    have := unl_set (L := (gl M r).set q (g : Int)) (x := (g : Int)) (c := (q : Int)) (by omega) (by simp; omega) (by rw [e2]; exact h2) (by omega)
    rwa [Int.toNat_natCast] at this
  have hu2 : unl (((gl M r).set q (g : Int)).set g (q : Int)) = u := by omega
  have hput : put M r q g = M.set r (((gl M r).set q (g : Int)).set g (q : Int)) := by
    unfold put setc
    rw [gl_set (by omega), if_pos rfl, List.set_set]
  have hgr : M[r]'(by omega) = gl M r := (gl_mem (by omega)).symm
  unfold phi
  rw [hput, List.map_set, hu2]
  refine ⟨rfl, ?_⟩
  refine prod_set _ r (u + 1) (dft u) (by simp; omega) ?_
  rw [List.getElem_map, hgr, hu]; rfl

theorem grow_le_phi : ∀ (k at_ met : Nat) (M : List (List Int)), Inv n F M met at_ → (grow n F (fun _ _ _ => true) (fun _ => true) k at_ met M).length ≤ phi M
  | 0, _, _, _, _ => by simp [grow]
  | k + 1, at_, met, M, h => by
    simp only [grow]
    split
    · rename_i ha
      split
      · rename_i hm
        have hm1 := hm.1
        subst hm1
        have hI : Inv n met M met (met * n) := by rw [← ha]; exact h
        have : phi M = 1 := prod_one _ (fun x hx => by
          obtain ⟨p, hp, rfl⟩ := List.mem_map.1 hx
          obtain ⟨i, hi, rfl⟩ := List.mem_iff_getElem.1 hp
          have hin : i < n := by rw [← h.shp.1]; exact hi
          have e : M[i] = gl M i := (gl_mem hi).symm
          have : unl M[i] = 0 := by
            rw [e]
            refine List.countP_eq_zero.2 fun x hx => ?_
            obtain ⟨j, hj, rfl⟩ := List.mem_iff_getElem.1 hx
            have := hI.full (i := i) (f := (j : Int)) hin (by omega) (by rw [h.shp.row hin] at hj; omega)
            rw [← gi_mem hj]
            have h3 : 0 ≤ gi (gl M i) (j : Int) := this
            simp; omega
          rw [this]; rfl)
        simp [this]
      · simp
    · rename_i ha
      split
      · rename_i hk
        exact grow_le_phi k _ _ _ (h.next ha hk)
      · rename_i hk
        have hp := h.pos ha
        have hF := h.metF
        have hrow := h.shp.row hp.1
        have hqF : at_ / n < F := by omega
        have hrg := fun g hg => range_mem h ha (g := g) hg
        have hput := fun g (h1 : at_ / n < g) (h2 : g ≤ met) (h3 : g < F) h4 => h.put ha hk (g := g) h1 h2 h3 h4
        generalize hr : at_ % n = r at *
        generalize hq : at_ / n = q at *
        have hkn : gi (gl M (r : Nat)) (q : Nat) < 0 := Int.not_le.1 hk
        have hm1 := h.met1
        have hbeh := behind_le (p := gl M (r : Nat)) (q := q) (c := min met (F - 1) - q) (by omega) hkn (by omega)
        obtain ⟨u, hu⟩ : ∃ u, unl (gl M (r : Nat)) = u + 1 := ⟨unl (gl M (r : Nat)) - 1, by omega⟩
        refine Nat.le_trans (sum_le _ (fun g => decide (gi (gl M (r : Nat)) (g : Nat) < 0)) (prod ((M.map fun p => dft (unl p)).set r (dft (u - 1)))) _ (fun g hg => ?_)) ?_
        · have hgr := hrg g hg
          by_cases hgc : 0 ≤ cell M r (g : Nat)
          · rw [if_pos hgc]; exact Nat.zero_le _
          · have hgn : gi (gl M (r : Nat)) (g : Nat) < 0 := Int.not_le.1 hgc
            rw [if_neg hgc, if_pos trivial, if_pos (decide_eq_true hgn)]
            have hcnt : 0 < (List.range' (q + 1) (min met (F - 1) - q)).countP (fun g => decide (gi (gl M (r : Nat)) (g : Nat) < 0)) := List.countP_pos_iff.2 ⟨g, hg, decide_eq_true hgn⟩
            obtain ⟨u', rfl⟩ : ∃ u', u = u' + 1 := ⟨u - 1, by omega⟩
            have hphi := phi_put h.shp hp.1 hqF hgr.2.2 (by omega) (by omega) (by omega) hu
            rw [show u' + 1 - 1 = u' by omega, ← hphi.1]
            exact grow_le_phi k _ _ _ (hput g hgr.1 hgr.2.1 hgr.2.2 hgc)
        · by_cases hu0 : u = 0
          · have : (List.range' (q + 1) (min met (F - 1) - q)).countP (fun g => decide (gi (gl M (r : Nat)) (g : Nat) < 0)) = 0 := by omega
            rw [this, Nat.zero_mul]; exact Nat.zero_le _
          · obtain ⟨u', rfl⟩ : ∃ u', u = u' + 1 := ⟨u - 1, by omega⟩
            rw [show u' + 1 - 1 = u' by omega]
            have hfac : phi M = (u' + 1) * prod ((M.map fun p => dft (unl p)).set r (dft u')) := by
              unfold phi
              have hl := h.shp.1
              refine prod_set _ r (u' + 1) (dft u') (by simp; omega) ?_
              rw [List.getElem_map, show M[r]'(by omega) = gl M r from (gl_mem (by omega)).symm, hu]; rfl
            rw [hfac]
            exact Nat.mul_le_mul_right _ (by omega)

/-- two moves that should commute meet at flag 0 -/
def bad0 (n : Nat) (M : List (List Int)) : Bool := (List.range n).any fun i => (List.range n).any fun k => decide (i + 2 ≤ k ∧ 0 ≤ cell M i 0 ∧ cell M i 0 = cell M k 0)
/-- a bound that looks at j places first -/
def wt (n F : Nat) : Nat → Nat → Nat → List (List Int) → Nat
  | 0, _, _, M => if bad0 n M = true then 0 else phi M
  | j + 1, at_, met, M =>
    if at_ = met * n then 1
    else if 0 ≤ cell M (at_ % n) (at_ / n : Nat) then wt n F j (at_ + 1) met M
    else ((List.range' (at_ / n + 1) (min met (F - 1) - at_ / n)).map fun g => if 0 ≤ cell M (at_ % n) (g : Nat) then 0 else wt n F j (at_ + 1) (max met (g + 1)) (put M (at_ % n) (at_ / n) g)).sum

theorem forms_bad (h : Inv n F M met at_) (hb : bad0 n M = true) (k : Nat) : forms n F k at_ met M = [] := by
  unfold forms
  rw [List.filter_eq_nil_iff]
  intro L hL hV
  have h1 := grow_leaf k _ _ _ h L hL
  have hV := of_decide_eq_true hV
  simp only [bad0, List.any_eq_true, decide_eq_true_eq, List.mem_range] at hb
  obtain ⟨i, hi, k', hk', hik, h0, he⟩ := hb
  have hF : 0 < F := by have := h.met1; have := h.metF; omega
  have h2 := hV.cells h1.2 hi hk' hik (f := 0) (by omega) (by omega)
  rw [h1.1 i 0 hi (by omega) (by omega) h0, h1.1 k' 0 hk' (by omega) (by omega) (by rw [← he]; exact h0)] at h2
  exact h2.2 he
theorem sum_le2 {α : Type} (f : Nat → List α) (c : Nat → Nat) : ∀ (l : List Nat), (∀ g ∈ l, (f g).length ≤ c g) → (l.flatMap f).length ≤ (l.map c).sum
  | [], _ => by simp
  | g :: l, h => by
    have h1 := h g (by simp)
    have h2 := sum_le2 f c l (fun x hx => h x (by simp [hx]))
    rw [List.flatMap_cons, List.length_append, List.map_cons, List.sum_cons]
    omega
end

end Go.Proofs.Ytjpkmpihmilgoaa.Vc
/-
  The walks of the reference's list of rooted forms and of its count. Conditions: as each states them.
-/
namespace Go.Proofs.Ytjpkmpihmilgoaa.Vc
open Go.RowKit

def Small (rank flags : Int) : Prop := (1 ≤ rank ∧ rank ≤ 4) ∧ (2 ≤ flags ∧ flags ≤ 12)
instance (rank flags : Int) : Decidable (Small rank flags) := by unfold Small; exact inferInstance
/-- the answer: how many, and the code -/
def cnt1 (rank flags : Int) : Int := if Small rank flags then ((forms rank.toNat flags.toNat (flags.toNat * rank.toNat + 1) 0 1 (blank rank.toNat flags.toNat)).length : Int) else 0
def cnt2 (rank flags : Int) : Int := if Small rank flags then 0 else 2
end Go.Proofs.Ytjpkmpihmilgoaa.Vc
/-
  The walks of the program's copies and of its test of a move. Conditions: as each states them.
-/
namespace Go.Proofs.Ytjpkmpihmilgoaa.Vc
open Go.RowKit

theorem Clone_c (A : Option Addr) (n c : Nat) (xs : List Int) (w : World) (hR : RdI w A n xs) (hn : n ≤ 1000000000) : Ret Try.prog 54 [.slice A n c] w (fun v w' => ∃ A' c', v = .slice A' n c' ∧ St w w' [CkI 2 A' n c' xs]) := by
  cases hA : A with
  | none =>
    subst hA
    have hn0 : n = 0 := by
      apply Classical.byContradiction
      intro h
      obtain ⟨p, hp, _⟩ := hR.2 0 (by omega)
      simp [ptrAt] at hp
    subst hn0
    have hx : xs = [] := List.eq_nil_of_length_eq_zero hR.1
    subst hx
    refine Ret.of_cd Try.func54 rfl Try.ntmps54 rfl (post1 rfl) ?_
    refine Cd.seq ?_
    refine Cd.region ?_
    refine Ops.mv_sl rfl rfl rfl ?_
    refine Ops.nil ?_
    refine thenQ_n ?_
    refine Cd.seq ?_
    refine Cd.seq ?_
    refine Cd.region ?_
    refine Ops.mv_sl rfl rfl rfl ?_
    refine Ops.eqNil rfl rfl rfl ?_
    refine Ops.nil ?_
    refine thenQ_n ?_
    refine Cd.cond_t rfl ?_
    refine Cd.seq ?_
    refine Cd.region ?_
    refine Ops.mv_sl rfl rfl rfl ?_
    refine Ops.nil ?_
    refine thenQ_n ?_
    refine Cd.ret ?_
    refine thenQ_r ?_
    refine ret1_s rfl ?_
    exact ⟨none, 0, rfl, (St.refl w).nil _⟩
  | some a =>
    subst hA
    refine Ret.of_cd Try.func54 rfl Try.ntmps54 rfl (post1 rfl) ?_
    refine Cd.seq ?_
    refine Cd.region ?_
    refine Ops.mv_sl rfl rfl rfl ?_
    refine Ops.nil ?_
    refine thenQ_n ?_
    refine Cd.seq ?_
    refine Cd.seq ?_
    refine Cd.region ?_
    refine Ops.mv_sl rfl rfl rfl ?_
    refine Ops.eqNil rfl rfl rfl ?_
    refine Ops.nil ?_
    refine thenQ_n ?_
    refine Cd.cond_f rfl ?_
    refine Cd.skip ?_
    refine thenQ_n ?_
    refine Cd.seq ?_
    refine Cd.region ?_
    refine Ops.bs0 (St.refl w) rfl ?_
    intro A1 w1 hS1
    have hS1 : St w w1 [CkI 2 A1 0 0 []] := hS1
    refine Ops.mv_sl rfl rfl rfl ?_
    refine Ops.appI 0 hS1 rfl (hS1.oldI hR) rfl rfl rfl (by omega) (by omega) rfl ?_
    intro A2 c2 w2 hS2
    rw [Nat.zero_add] at hS2 ⊢
    refine Ops.mv_sl rfl rfl rfl ?_
    refine Ops.nil ?_
    refine thenQ_n ?_
    refine Cd.ret ?_
    refine ret1_s rfl ?_
    exact ⟨A2, c2, rfl, hS2⟩

end Go.Proofs.Ytjpkmpihmilgoaa.Vc
/-
  The walks of the reference's forms. Conditions: as each states them.
-/
namespace Go.Proofs.Ytjpkmpihmilgoaa.Vc
open Go.RowKit

section
variable {P : Program} {N : Nat} {ops : Array Oper} {K : Env → World → Prop} {rest : List Oper} {e : Env} {w : World} {d : Nat} {ty : TypeId} {pos : String} {af : Array Edge}
end

end Go.Proofs.Ytjpkmpihmilgoaa.Vc
/-
  The walks of forms on both sides. Conditions: as each states them.
-/
namespace Go.Proofs.Ytjpkmpihmilgoaa.Vc
open Go.RowKit

end Go.Proofs.Ytjpkmpihmilgoaa.Vc
/-
  The cycles of a list of numbers, by their least points, and lists in ascending order: a plain law, with no program in sight. Conditions: as each states them.
-/
namespace Go.Proofs.Ytjpkmpihmilgoaa.Vc
open Go.RowKit

/-- from x on, till a point comes that was seen -/
def goC (p : List Int) : Nat → Nat → List Bool → List Int × List Bool
  | 0, _, s => ([], s)
  | k + 1, x, s => if gb s (x : Int) = true then ([], s) else ((x : Int) :: (goC p k (gi p x).toNat (s.set x true)).1, (goC p k (gi p x).toNat (s.set x true)).2)

/-- all cycles from some points on -/
def cycs (p : List Int) : List Nat → List Bool → List (List Int)
  | [], _ => []
  | i :: is, s => (if (goC p (s.count false) i s).1 = [] then [] else [(goC p (s.count false) i s).1]) ++ cycs p is (goC p (s.count false) i s).2
/-- the cycles of n points -/
def cyAll (p : List Int) (n : Nat) : List (List Int) := cycs p (List.range n) (List.replicate n false)
def lenAll (p : List Int) (n : Nat) : List Int := (cyAll p n).map fun c => (c.length : Int)
/-! ascending lists -/
def Asc (l : List Int) : Prop := l.Pairwise (· ≤ ·)
def srt (l : List Int) : List Int := l.mergeSort fun x y => decide (x ≤ y)
end Go.Proofs.Ytjpkmpihmilgoaa.Vc
/-
  The walks of the reference's runs of a word over flags, and of the lengths of a word. Conditions: as each states them.
-/
namespace Go.Proofs.Ytjpkmpihmilgoaa.Vc
open Go.RowKit

/-- where a word leads from x -/
def runW (xss : List (List Int)) (x : Int) (ws : List Int) : Int := ws.foldl (fun x i => gi (gl xss i) x) x
/-- what a word does -/
def doesL (xss : List (List Int)) (F : Nat) (ws : List Int) : List Int := (List.range F).map fun x : Nat => runW xss (x : Int) ws
/-- a maniplex with edges -/
def Grph (xss : List (List Int)) : Prop := Mani xss ∧ 2 ≤ xss.length
instance (xss : List (List Int)) : Decidable (Grph xss) := by unfold Grph; exact inferInstance

end Go.Proofs.Ytjpkmpihmilgoaa.Vc
/-
  The walk of the reference's lengths of a word. Conditions: as it states them.
-/
namespace Go.Proofs.Ytjpkmpihmilgoaa.Vc
open Go.RowKit

theorem RdI.take {w : World} {A : Option Addr} {n l : Nat} {xs : List Int} (h : RdI w A n xs) (hl : l ≤ n) : RdI w A l (xs.take l) := by
  have := h.cut (l := 0) (h := l) (c := 0) (Nat.zero_le _) hl
  refine ⟨by rw [List.length_take, h.1]; omega, fun k hk => ?_⟩
  obtain ⟨q, h1, h2⟩ := h.2 k (by omega)
  exact ⟨q, h1, by rw [h2]; simp [List.getElem?_take, hk, List.getD_eq_getElem?_getD]⟩

end Go.Proofs.Ytjpkmpihmilgoaa.Vc
