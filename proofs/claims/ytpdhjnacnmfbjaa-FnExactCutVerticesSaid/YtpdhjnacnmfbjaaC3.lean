/-
  The walks of the program's permutations that words do, and of their cycles. Conditions: as each states them.
-/
import Derived.Test.YtpdhjnacnmfbjaaC2
import Derived.Test.YtpdhjnacnmfbjaaSrt
import Derived.Test.YtpdhjnacnmfbjaaB6
import Derived.Test.YtpdhjnacnmfbjaaB2
namespace Go.Proofs.Ytpdhjnacnmfbjaa.Vc
open Go.RowKit

theorem isGraphed_c (A : Option Addr) (n c : Nat) (rs : List SlV) (xss : List (List Int)) (w : World) (hR : RowsI w A n rs xss) (hn : n ≤ c) (hc : c ≤ 9223372036854775807) :
    Ret Try.prog 64 [.agg #[.slice A n c]] w (fun v w' => v = .bool (decide (Grph xss)) ∧ St w w' []) := by
  have hl := hR.len
  refine Ret.of_cd Try.func64 rfl Try.ntmps64 rfl (post1 rfl) ?_
  refine Cd.seq ?_
  refine Cd.region ?_
  -- stop: BOX 32 t0=m -> 1
  refine Ops.box1 (St.refl w) rfl rfl ?_
  intro Ab w1 hS
  refine Ops.mv_bool rfl rfl rfl ?_
  refine Ops.nil ?_
  refine thenQ_n ?_
  refine Cd.seq ?_
  refine Cd.region ?_
  -- stop: FIELDADDR 32 t1=m 0 -> 3
  refine Ops.fld (hS.rd 0 rfl) rfl rfl rfl rfl inferInstance ?_
  refine Ops.ldf_s (hS.rd 0 rfl) rfl rfl rfl rfl rfl ?_
  refine Ops.len rfl rfl ?_
  refine Ops.gtr rfl rfl rfl ?_
  refine Ops.mv_bool rfl rfl rfl ?_
  -- stop: guard 7
  refine Ops.split_p 7 rfl (fun h => ?_) (fun h => ?_)
  · refine Ops.rung rfl rfl rfl ?_
    -- stop: LOAD 32 t1=m -> 8
    refine Ops.ld_agg 0 (hS.rd 0 rfl) rfl rfl rfl ?_
    refine Ops.rung rfl rfl rfl ?_
    -- stop: CALL impl.isManiplex(t8) -> 9
    refine Ops.call (isManiplex_c A n c rs xss _ (hS.oldRows hR) hn hc) rfl rfl rfl ?_
    rintro _ w2 ⟨rfl, hst⟩
    have hS := hS.later hst.below
    refine Ops.pick_t rfl rfl rfl ?_
    refine Ops.mv_bool rfl rfl rfl ?_
    refine Ops.nil ?_
    refine thenQ_n ?_
    refine Cd.ret ?_
    refine ret1_b rfl ?_
    -- stop: end
    exact ⟨by have : 2 ≤ n := by omega
              simp [Grph, hl, this], hS.none⟩
  · refine Ops.skipg rfl rfl rfl rfl rfl ?_
    refine Ops.skipg rfl rfl rfl rfl rfl ?_
    refine Ops.pick_f rfl rfl rfl ?_
    refine Ops.mv_bool rfl rfl rfl ?_
    refine Ops.nil ?_
    refine thenQ_n ?_
    refine Cd.ret ?_
    refine ret1_b rfl ?_
    -- stop: end
    exact ⟨by have : ¬ 2 ≤ n := by omega
              simp [Grph, hl, this], hS.none⟩

def idL (n : Nat) : List Int := (List.range n).map fun x : Nat => (x : Int)
theorem idL_set {n k : Nat} {l : List Int} (hk : k < n) (hl : l.length = n) (h : ∀ j, j < k → l[j]? = some (j : Int)) : ∀ j, j < k + 1 → (l.set k (k : Int))[j]? = some (j : Int) := fun j hj => by
  rw [List.getElem?_set]
  by_cases e : k = j
  · subst e; rw [if_pos rfl, if_pos (by omega)]
  · rw [if_neg e]; exact h j (by omega)
theorem identity_c (n : Nat) (w : World) (hn : n ≤ 1000000000) : Ret Try.prog 67 [.int .i64 (n : Int)] w (fun v w' => ∃ A', v = .slice A' n n ∧ St w w' [CkI 2 A' n n (idL n)]) := by
  refine Ret.of_cd Try.func67 rfl Try.ntmps67 rfl (post1 rfl) ?_
  refine Cd.seq ?_
  refine Cd.region ?_
  refine Ops.mv_sl rfl rfl rfl ?_
  refine Ops.nil ?_
  refine thenQ_n ?_
  refine Cd.seq ?_
  refine Cd.region ?_
  refine Ops.mv_int rfl rfl rfl ?_
  -- stop: MAKESLICE 39 t5 t5 -> 6
  refine Ops.mkI n (St.refl w) rfl rfl (by omega) ?_
  intro A1 w1 hS1
  refine Ops.mv_sl rfl rfl rfl ?_
  refine Ops.nil ?_
  refine thenQ_n ?_
  refine Cd.seq ?_
  refine Cd.seq ?_
  refine Cd.region ?_
  refine Ops.mv_sl rfl rfl rfl ?_
  refine Ops.len rfl rfl ?_
  refine Ops.mv_int rfl rfl rfl ?_
  refine Ops.nil ?_
  refine thenQ_n ?_
  refine Cd.block ?_
  -- stop: loop
  refine Cd.loop (α := Nat × List Int) (fun z => [(3, .slice A1 n n), (8, .int .i64 (n : Int)), (9, .int .i64 (z.1 : Int))]) (fun z w' => St w w' [CkI 2 A1 n n z.2] ∧ z.1 ≤ n ∧ z.2.length = n ∧ ∀ j, j < z.1 → z.2[j]? = some (j : Int)) (fun z => n - z.1) (0, List.replicate n 0) ⟨rfl, rfl, rfl, trivial⟩ ⟨hS1, Nat.zero_le _, by simp, fun j hj => by omega⟩ ?_
  rintro ⟨k, l⟩ e w2 ⟨hS2, hk, hl, hK⟩
  dsimp only at hS2 hk hl hK ⊢
  refine Cd.seq ?_
  refine Cd.region ?_
  refine Ops.lss rfl rfl rfl ?_
  refine Ops.nil ?_
  refine thenQ_n ?_
  refine Cd.seq ?_
  -- stop: cond
  refine Cd.cond_p _ rfl (fun h1 => ?_) (fun h1 => ?_)
  · refine Cd.skip ?_
    refine thenQ_n ?_
    refine Cd.seq ?_
    refine Cd.block ?_
    refine Cd.seq ?_
    refine Cd.region ?_
    refine Ops.mv_int rfl rfl rfl ?_
    refine Ops.mv_int rfl rfl rfl ?_
    refine Ops.nil ?_
    refine thenQ_n ?_
    refine Cd.region ?_
    refine Ops.mv_sl rfl rfl rfl ?_
    refine Ops.mv_int rfl rfl rfl ?_
    refine Ops.mv_int rfl rfl rfl ?_
    -- stop: INDEXADDR 39 t12 t13 -> 15
    refine Ops.idx (hS2.rdI 0 rfl).2 rfl rfl rfl (by omega) (by omega) ?_
    refine Ops.st_int 0 hS2 rfl rfl rfl (by omega) ?_
    intro w3 hS3
    refine Ops.nil ?_
    refine blockQ_n ?_
    refine thenQ_n ?_
    refine Cd.region ?_
    refine Ops.add rfl rfl rfl (by omega) ?_
    refine Ops.mv_int rfl rfl rfl ?_
    refine Ops.nil ?_
    refine thenQ_n ?_
    -- stop: round
    exact ⟨(k + 1, l.set k (k : Int)), by show n - (k + 1) < n - k; omega, ⟨rfl, rfl, rfl, trivial⟩, hS3, by show k + 1 ≤ n; omega, by show (l.set k _).length = n; rw [List.length_set]; exact hl, idL_set (by omega) hl hK⟩
  · refine Cd.exit ?_
    refine thenQ_x ?_
    refine thenQ_x ?_
    refine blockQ_x ?_
    refine thenQ_n ?_
    refine Cd.seq ?_
    refine Cd.region ?_
    refine Ops.mv_sl rfl rfl rfl ?_
    refine Ops.mv_sl rfl rfl rfl ?_
    refine Ops.nil ?_
    refine thenQ_n ?_
    refine Cd.ret ?_
    refine ret1_s rfl ?_
    -- stop: end
    have hkn : k = n := by omega
    subst hkn
    have he : l = idL k := by
      apply List.ext_getElem?
      intro j
      by_cases hj : j < k
      · rw [hK j hj]; simp [idL, hj]
      · rw [List.getElem?_eq_none (by omega), List.getElem?_eq_none (by simp [idL]; omega)]
    subst he
    exact ⟨A1, rfl, hS2⟩

def thenL (p q : List Int) : List Int := p.map fun x => gi q x
theorem then_c (A : Option Addr) (n c : Nat) (p : List Int) (A' : Option Addr) (n' c' : Nat) (q : List Int) (w : World) (hP : RdI w A n p) (hQ : RdI w A' n' q) (hn : n ≤ 1000000000) (hp : ∀ k : Nat, k < n → 0 ≤ gi p k ∧ gi p k < n') :
    Ret Try.prog 104 [.slice A n c, .slice A' n' c'] w (fun v w' => ∃ A', v = .slice A' n n ∧ St w w' [CkI 2 A' n n (thenL p q)]) := by
  have hpl := hP.1
  refine Ret.of_cd Try.func104 rfl Try.ntmps104 rfl (post1 rfl) ?_
  refine Cd.seq ?_
  refine Cd.region ?_
  refine Ops.mv_sl rfl rfl rfl ?_
  refine Ops.nil ?_
  refine thenQ_n ?_
  refine Cd.seq ?_
  refine Cd.region ?_
  refine Ops.mv_sl rfl rfl rfl ?_
  refine Ops.len rfl rfl ?_
  -- stop: MAKESLICE 39 t9 t9 -> 10
  refine Ops.mkI n (St.refl w) rfl rfl (by omega) ?_
  intro A1 w1 hS1
  refine Ops.mv_sl rfl rfl rfl ?_
  refine Ops.nil ?_
  refine thenQ_n ?_
  refine Cd.seq ?_
  refine Cd.seq ?_
  refine Cd.region ?_
  refine Ops.mv_sl rfl rfl rfl ?_
  refine Ops.len rfl rfl ?_
  refine Ops.mv_int rfl rfl rfl ?_
  refine Ops.nil ?_
  refine thenQ_n ?_
  refine Cd.block ?_
  -- stop: loop
  refine Cd.loop (α := Nat × List Int) (fun z => [(0, .slice A n c), (1, .slice A' n' c'), (5, .slice A1 n n), (11, .slice A n c), (12, .int .i64 (n : Int)), (13, .int .i64 (z.1 : Int))]) (fun z w' => St w w' [CkI 2 A1 n n z.2] ∧ z.1 ≤ n ∧ z.2.length = n ∧ ∀ j, j < z.1 → z.2[j]? = (thenL p q)[j]?) (fun z => n - z.1) (0, List.replicate n 0) ⟨rfl, rfl, rfl, rfl, rfl, rfl, trivial⟩ ⟨hS1, Nat.zero_le _, by simp, fun j hj => by omega⟩ ?_
  rintro ⟨k, l⟩ e w2 ⟨hS2, hk, hl, hK⟩
  dsimp only at hS2 hk hl hK ⊢
  have hP2 := hS2.oldI hP
  have hQ2 := hS2.oldI hQ
  refine Cd.seq ?_
  refine Cd.region ?_
  refine Ops.lss rfl rfl rfl ?_
  refine Ops.nil ?_
  refine thenQ_n ?_
  refine Cd.seq ?_
  -- stop: cond
  refine Cd.cond_p _ rfl (fun h1 => ?_) (fun h1 => ?_)
  · have hpk := hp k (by omega)
    refine Cd.skip ?_
    refine thenQ_n ?_
    refine Cd.seq ?_
    refine Cd.block ?_
    refine Cd.seq ?_
    refine Cd.region ?_
    refine Ops.mv_int rfl rfl rfl ?_
    -- stop: INDEXADDR 39 t11 t13 -> 16
    refine Ops.idx hP2.2 rfl rfl rfl (by omega) (by omega) ?_
    refine Ops.ld_int hP2 rfl (by omega) rfl rfl ?_
    refine Ops.mv_int rfl rfl rfl ?_
    refine Ops.mv_int rfl rfl rfl ?_
    refine Ops.nil ?_
    refine thenQ_n ?_
    refine Cd.region ?_
    refine Ops.mv_sl rfl rfl rfl ?_
    refine Ops.mv_int rfl rfl rfl ?_
    refine Ops.mv_sl rfl rfl rfl ?_
    refine Ops.mv_int rfl rfl rfl ?_
    -- stop: INDEXADDR 39 t20 t21 -> 22
    refine Ops.idx hQ2.2 rfl rfl rfl (by omega) (by omega) ?_
    refine Ops.ld_int hQ2 rfl (by omega) rfl rfl ?_
    refine Ops.idx (hS2.rdI 0 rfl).2 rfl rfl rfl (by omega) (by omega) ?_
    refine Ops.st_int 0 hS2 rfl rfl rfl (by omega) ?_
    intro w3 hS3
    refine Ops.nil ?_
    refine blockQ_n ?_
    refine thenQ_n ?_
    refine Cd.region ?_
    refine Ops.add rfl rfl rfl (by omega) ?_
    refine Ops.mv_int rfl rfl rfl ?_
    refine Ops.nil ?_
    refine thenQ_n ?_
    -- stop: round
    refine ⟨(k + 1, l.set k (gi q (gi p k))), by show n - (k + 1) < n - k; omega, ⟨rfl, rfl, rfl, rfl, rfl, rfl, trivial⟩, hS3, by show k + 1 ≤ n; omega, by show (l.set k _).length = n; rw [List.length_set]; exact hl, fun j hj => ?_⟩
    show (l.set k (gi q (gi p k)))[j]? = _
    rw [List.getElem?_set]
    by_cases ej : k = j
    · subst ej
      rw [if_pos rfl, if_pos (by omega)]
      simp [thenL, gi, List.getD_eq_getElem?_getD, List.getElem?_eq_getElem (show k < p.length by omega)]
    · rw [if_neg ej]
      exact hK j (by have : j < k + 1 := hj; omega)
  · refine Cd.exit ?_
    refine thenQ_x ?_
    refine thenQ_x ?_
    refine blockQ_x ?_
    refine thenQ_n ?_
    refine Cd.seq ?_
    refine Cd.region ?_
    refine Ops.mv_sl rfl rfl rfl ?_
    refine Ops.mv_sl rfl rfl rfl ?_
    refine Ops.nil ?_
    refine thenQ_n ?_
    refine Cd.ret ?_
    refine ret1_s rfl ?_
    -- stop: end
    have hkn : k = n := by omega
    subst hkn
    have he : l = thenL p q := by
      apply List.ext_getElem?
      intro j
      by_cases hj : j < k
      · exact hK j hj
      · rw [List.getElem?_eq_none (by omega), List.getElem?_eq_none (by simp [thenL]; omega)]
    subst he
    exact ⟨A1, rfl, hS2⟩
end Go.Proofs.Ytpdhjnacnmfbjaa.Vc
