/-
  The walks of the laws' marks, which tell memory apart. Conditions: as each states them.
-/
import Derived.Test.YtpdhjnacnmfbjaaC5
import Derived.Test.YtpdhjnacnmfbjaaAgg
namespace Go.Proofs.Ytpdhjnacnmfbjaa.Vc
open Go.RowKit

theorem set_id {α : Type} {l : List α} {i : Nat} {x : α} (h : l[i]? = some x) : l.set i x = l := by
  apply List.ext_getElem?
  intro j
  rw [List.getElem?_set]
  split
  · rename_i e; subst e
    rw [if_pos (List.getElem?_eq_some_iff.1 h).1, h]
  · rfl
theorem Rd.one {w : World} {A : Option Addr} {n : Nat} {f : Nat → Value} (h : Rd w A (n + 1) f) : Rd w A 1 (fun _ => f 0) := fun j hj => by
  obtain rfl : j = 0 := by omega
  exact h 0 (by omega)

theorem small_of {n : Nat} {rs : List SlV} (hl : rs.length = n) (h : 0 ≤ szSS (lens rs) 1048576) : n ≤ 1048576 ∧ ∀ i, i < n → (rs.getD i slNil).n ≤ 1048576 := by
  have h1 := szSS_fits (by omega) h
  refine ⟨by have := h1.2.1; simp [lens] at this; omega, fun i hi => ?_⟩
  have := h1.2.2 (rs.getD i slNil).n (by
    simp only [lens, List.mem_map]
    exact ⟨rs[i]'(by omega), List.getElem_mem _, by simp [List.getD_eq_getElem?_getD, List.getElem?_eq_getElem (show i < rs.length by omega)]⟩)
  omega

/-- the marks from k on -/
def marks (k : Int) (n : Nat) : List Int := (List.range n).map fun j : Nat => k + (j : Int)
theorem marks_len (k : Int) (n : Nat) : (marks k n).length = n := by simp [marks]
theorem marks_get {k : Int} {n j : Nat} (h : j < n) : gi (marks k n) (j : Int) = k + j := by simp [gi, marks, List.getD_eq_getElem?_getD, h]

theorem markInt64S_c {w0 w : World} {ks : List Ck} (i : Nat) {t : TypeId} {A : Option Addr} {n c : Nat} {xs : List Int} (k : Int) (hS : St w0 w ks) (hk : ks[i]? = some (CkI t A n c xs)) (hk0 : 0 ≤ k ∧ k + n ≤ 4611686018427387904) :
    Ret Try.prog 29 [.slice A n c, .int .i64 k] w (fun v w' => v = .int .i64 (k + n) ∧ St w0 w' (ks.set i (CkI t A n c (marks k n)))) := by
  have hil : i < ks.length := (List.getElem?_eq_some_iff.1 hk).1
  have hxl : xs.length = n := hS.lenI i hk
  have get : ∀ l, (ks.set i (CkI t A n c l))[i]? = some (CkI t A n c l) := fun l => by simp [hil]
  have hS0 : St w0 w (ks.set i (CkI t A n c xs)) := by rwa [set_id hk]
  refine Ret.of_cd Try.func29 rfl Try.ntmps29 rfl (post1 rfl) ?_
  refine Cd.seq ?_
  refine Cd.region ?_
  refine Ops.mv_int rfl rfl rfl ?_
  refine Ops.nil ?_
  refine thenQ_n ?_
  refine Cd.seq ?_
  refine Cd.seq ?_
  refine Cd.region ?_
  refine Ops.mv_int rfl rfl rfl ?_
  refine Ops.nil ?_
  refine thenQ_n ?_
  refine Cd.block ?_
  -- stop: loop
  refine Cd.loop (α := Nat × List Int) (fun z => [(0, .slice A n c), (1, .int .i64 (k + (z.1 : Int))), (5, .int .i64 (z.1 : Int))]) (fun z w' => St w0 w' (ks.set i (CkI t A n c z.2)) ∧ z.1 ≤ n ∧ z.2.length = n ∧ ∀ j, j < z.1 → z.2[j]? = some (k + (j : Int))) (fun z => n - z.1) (0, xs) ⟨rfl, by show Value.int .i64 _ = .int .i64 _; simp, rfl, trivial⟩ ⟨hS0, Nat.zero_le _, hxl, fun j hj => by omega⟩ ?_
  rintro ⟨m, l⟩ e w1 ⟨hS1, hm, hll, hK⟩
  dsimp only at hS1 hm hll hK ⊢
  refine Cd.seq ?_
  refine Cd.seq ?_
  refine Cd.region ?_
  refine Ops.mv_int rfl rfl rfl ?_
  refine Ops.mv_sl rfl rfl rfl ?_
  refine Ops.len rfl rfl ?_
  refine Ops.lss rfl rfl rfl ?_
  refine Ops.nil ?_
  refine thenQ_n ?_
  -- stop: cond
  refine Cd.cond_p _ rfl (fun h1 => ?_) (fun h1 => ?_)
  · refine Cd.skip ?_
    refine thenQ_n ?_
    refine Cd.seq ?_
    refine Cd.block ?_
    refine Cd.seq ?_
    refine Cd.region ?_
    refine Ops.mv_sl rfl rfl rfl ?_
    refine Ops.mv_int rfl rfl rfl ?_
    refine Ops.mv_int rfl rfl rfl ?_
    -- stop: INDEXADDR 39 t12 t13 -> 15
    refine Ops.idx (hS1.rdI i (get l)).2 rfl rfl rfl (by omega) (by omega) ?_
    refine Ops.st_int i hS1 (get l) rfl rfl (by omega) ?_
    intro w2 hS2
    rw [List.set_set] at hS2
    refine Ops.nil ?_
    refine thenQ_n ?_
    refine Cd.region ?_
    refine Ops.mv_int rfl rfl rfl ?_
    refine Ops.add rfl rfl rfl (by omega) ?_
    refine Ops.mv_int rfl rfl rfl ?_
    refine Ops.nil ?_
    refine blockQ_n ?_
    refine thenQ_n ?_
    refine Cd.region ?_
    refine Ops.mv_int rfl rfl rfl ?_
    refine Ops.add rfl rfl rfl (by omega) ?_
    refine Ops.mv_int rfl rfl rfl ?_
    refine Ops.nil ?_
    refine thenQ_n ?_
    -- stop: round
    refine ⟨(m + 1, l.set m (k + m)), by show n - (m + 1) < n - m; omega, ⟨rfl, by show Value.int .i64 _ = .int .i64 _; congr 1; show _ = k + ((m + 1 : Nat) : Int); omega, rfl, trivial⟩, hS2, by show m + 1 ≤ n; omega, by show (l.set m _).length = n; rw [List.length_set]; exact hll, fun j hj => ?_⟩
    show (l.set m (k + m))[j]? = _
    rw [List.getElem?_set]
    by_cases ej : m = j
    · subst ej; rw [if_pos rfl, if_pos (by omega)]
    · rw [if_neg ej]; exact hK j (by have : j < m + 1 := hj; omega)
  · refine Cd.exit ?_
    refine thenQ_x ?_
    refine thenQ_x ?_
    refine blockQ_x ?_
    refine thenQ_n ?_
    refine Cd.seq ?_
    refine Cd.region ?_
    refine Ops.mv_int rfl rfl rfl ?_
    refine Ops.mv_int rfl rfl rfl ?_
    refine Ops.nil ?_
    refine thenQ_n ?_
    refine Cd.ret ?_
    refine ret1_i rfl ?_
    -- stop: end
    have hmn : m = n := by omega
    subst hmn
    have he : l = marks k m := by
      apply List.ext_getElem?
      intro j
      by_cases hj : j < m
      · rw [hK j hj]; simp [marks, hj]
      · rw [List.getElem?_eq_none (by omega), List.getElem?_eq_none (by rw [marks_len]; omega)]
    subst he
    exact ⟨rfl, hS1⟩

theorem heldInt64S_c (A : Option Addr) (n c : Nat) (k : Int) (w : World) (hR : RdI w A n (marks k n)) (hk0 : 0 ≤ k ∧ k + n ≤ 4611686018427387904) :
    Ret Try.prog 30 [.slice A n c, .int .i64 k] w (fun v w' => v = .int .i64 (k + n) ∧ w' = w) := by
  refine Ret.of_cd Try.func30 rfl Try.ntmps30 rfl (post1 rfl) ?_
  refine Cd.seq ?_
  refine Cd.region ?_
  refine Ops.mv_int rfl rfl rfl ?_
  refine Ops.nil ?_
  refine thenQ_n ?_
  refine Cd.seq ?_
  refine Cd.seq ?_
  refine Cd.region ?_
  refine Ops.mv_int rfl rfl rfl ?_
  refine Ops.nil ?_
  refine thenQ_n ?_
  refine Cd.block ?_
  -- stop: loop
  refine Cd.loop (α := Nat) (fun z => [(0, .slice A n c), (1, .int .i64 (k + (z : Int))), (5, .int .i64 (z : Int))]) (fun z w' => w' = w ∧ z ≤ n) (fun z => n - z) 0 ⟨rfl, by show Value.int .i64 _ = .int .i64 _; simp, rfl, trivial⟩ ⟨rfl, Nat.zero_le _⟩ ?_
  rintro m e w ⟨rfl, hm⟩
  refine Cd.seq ?_
  refine Cd.seq ?_
  refine Cd.region ?_
  refine Ops.mv_int rfl rfl rfl ?_
  refine Ops.mv_sl rfl rfl rfl ?_
  refine Ops.len rfl rfl ?_
  refine Ops.lss rfl rfl rfl ?_
  refine Ops.nil ?_
  refine thenQ_n ?_
  -- stop: cond
  refine Cd.cond_p _ rfl (fun h1 => ?_) (fun h1 => ?_)
  · have hg := marks_get (k := k) (n := n) (j := m) (by omega)
    refine Cd.skip ?_
    refine thenQ_n ?_
    refine Cd.seq ?_
    refine Cd.block ?_
    refine Cd.seq ?_
    refine Cd.seq ?_
    refine Cd.region ?_
    refine Ops.mv_sl rfl rfl rfl ?_
    refine Ops.mv_int rfl rfl rfl ?_
    -- stop: INDEXADDR 39 t12 t13 -> 14
    refine Ops.idx hR.2 rfl rfl rfl (by omega) (by omega) ?_
    refine Ops.ld_int hR rfl (by omega) rfl rfl ?_
    rw [hg]
    refine Ops.mv_int rfl rfl rfl ?_
    refine Ops.neq rfl rfl rfl ?_
    refine Ops.nil ?_
    refine thenQ_n ?_
    -- stop: cond
    refine Cd.cond_pf rfl (fun h => h rfl) ?_
    refine Cd.skip ?_
    refine thenQ_n ?_
    refine Cd.region ?_
    refine Ops.mv_int rfl rfl rfl ?_
    refine Ops.add rfl rfl rfl (by omega) ?_
    refine Ops.mv_int rfl rfl rfl ?_
    refine Ops.nil ?_
    refine blockQ_n ?_
    refine thenQ_n ?_
    refine Cd.region ?_
    refine Ops.mv_int rfl rfl rfl ?_
    refine Ops.add rfl rfl rfl (by omega) ?_
    refine Ops.mv_int rfl rfl rfl ?_
    refine Ops.nil ?_
    refine thenQ_n ?_
    -- stop: round
    exact ⟨m + 1, by show n - (m + 1) < n - m; omega, ⟨rfl, by show Value.int .i64 _ = .int .i64 _; congr 1; show _ = k + ((m + 1 : Nat) : Int); omega, rfl, trivial⟩, rfl, by show m + 1 ≤ n; omega⟩
  · refine Cd.exit ?_
    refine thenQ_x ?_
    refine thenQ_x ?_
    refine blockQ_x ?_
    refine thenQ_n ?_
    refine Cd.seq ?_
    refine Cd.region ?_
    refine Ops.mv_int rfl rfl rfl ?_
    refine Ops.mv_int rfl rfl rfl ?_
    refine Ops.nil ?_
    refine thenQ_n ?_
    refine Cd.ret ?_
    refine ret1_i rfl ?_
    -- stop: end
    have hmn : m = n := by omega
    subst hmn
    exact ⟨rfl, rfl⟩

theorem markInt64SS_c {w0 w : World} {pre post : List Ck} {t1 t2 : TypeId} {A : Option Addr} {n c : Nat} {rs : List SlV} {xss : List (List Int)} (k : Int) (hS : St w0 w (pre ++ (mat t1 t2 A n c rs xss ++ post))) (hrl : rs.length = n) (hxl : xss.length = n) (hn : n ≤ 1048576) (hr : ∀ i, i < n → (rs.getD i slNil).n ≤ 1048576) (hk0 : 0 ≤ k ∧ k ≤ 1048576) :
    Ret Try.prog 41 [.slice A n c, .int .i64 k] w (fun v w' => ∃ (K : Int) (xss' : List (List Int)), v = .int .i64 K ∧ (0 ≤ K ∧ K ≤ 2199023255552) ∧ xss'.length = n ∧ St w0 w' (pre ++ (mat t1 t2 A n c rs xss' ++ post))) := by
  refine Ret.of_cd Try.func41 rfl Try.ntmps41 rfl (post1 rfl) ?_
  refine Cd.seq ?_
  refine Cd.region ?_
  refine Ops.mv_int rfl rfl rfl ?_
  refine Ops.nil ?_
  refine thenQ_n ?_
  refine Cd.seq ?_
  refine Cd.seq ?_
  refine Cd.region ?_
  refine Ops.mv_int rfl rfl rfl ?_
  refine Ops.nil ?_
  refine thenQ_n ?_
  refine Cd.block ?_
  -- stop: loop
  refine Cd.loop (α := Nat × Int × List (List Int)) (fun z => [(0, .slice A n c), (1, .int .i64 z.2.1), (5, .int .i64 (z.1 : Int))]) (fun z w' => St w0 w' (pre ++ (mat t1 t2 A n c rs z.2.2 ++ post)) ∧ z.1 ≤ n ∧ z.2.2.length = n ∧ 0 ≤ z.2.1 ∧ z.2.1 ≤ 1048576 + (z.1 : Int) * 1048576) (fun z => n - z.1) (0, k, xss) ⟨rfl, rfl, rfl, trivial⟩ ⟨hS, Nat.zero_le _, hxl, hk0.1, by simp; exact hk0.2⟩ ?_
  rintro ⟨i, K, ys⟩ e w1 ⟨hS1, hi, hyl, hK0, hK1⟩
  dsimp only at hS1 hi hyl hK0 hK1 ⊢
  have hM := (hS1.sub (List.sublist_append_right _ _)).rowsI hyl
  refine Cd.seq ?_
  refine Cd.seq ?_
  refine Cd.region ?_
  refine Ops.mv_int rfl rfl rfl ?_
  refine Ops.mv_sl rfl rfl rfl ?_
  refine Ops.len rfl rfl ?_
  refine Ops.lss rfl rfl rfl ?_
  refine Ops.nil ?_
  refine thenQ_n ?_
  -- stop: cond
  refine Cd.cond_p _ rfl (fun h1 => ?_) (fun h1 => ?_)
  · have hi' : i < n := by omega
    have hri := hr i hi'
    have hget := mat_get (t1 := t1) (t2 := t2) (A := A) (n := n) (c := c) (rs := rs) (xss := ys) (pre := pre) (ks := post) (i := i) (by omega) (by omega)
    have hset := fun l => mat_set (t1 := t1) (t2 := t2) (A := A) (n := n) (c := c) (rs := rs) (xss := ys) (pre := pre) (ks := post) (i := i) (xs := l) (by omega) (by omega)
    refine Cd.skip ?_
    refine thenQ_n ?_
    refine Cd.seq ?_
    refine Cd.block ?_
    refine Cd.region ?_
    refine Ops.mv_sl rfl rfl rfl ?_
    refine Ops.mv_int rfl rfl rfl ?_
    -- stop: INDEXADDR 25 t12 t13 -> 14
    refine Ops.idx hM.top.2 rfl rfl rfl (by omega) h1 ?_
    refine Ops.ld_sl hM.top rfl (by omega) rfl rfl ?_
    refine Ops.mv_int rfl rfl rfl ?_
    -- stop: CALL laws.markInt64S(t15, t16) -> 17
    refine Ops.call (markInt64S_c (pre.length + 1 + i) K hS1 hget ⟨hK0, by omega⟩) rfl rfl rfl ?_
    rintro _ w2 ⟨rfl, hS2⟩
    rw [hset] at hS2
    refine Ops.mv_int rfl rfl rfl ?_
    refine Ops.nil ?_
    refine blockQ_n ?_
    refine thenQ_n ?_
    refine Cd.region ?_
    refine Ops.mv_int rfl rfl rfl ?_
    refine Ops.add rfl rfl rfl (by omega) ?_
    refine Ops.mv_int rfl rfl rfl ?_
    refine Ops.nil ?_
    refine thenQ_n ?_
    -- stop: round
    exact ⟨(i + 1, K + ((rs.getD i slNil).n : Int), ys.set i (marks K (rs.getD i slNil).n)), by show n - (i + 1) < n - i; omega, ⟨rfl, rfl, rfl, trivial⟩, hS2, by show i + 1 ≤ n; omega, by show (ys.set i _).length = n; rw [List.length_set]; exact hyl, by show 0 ≤ K + _; omega, by show K + _ ≤ 1048576 + ((i + 1 : Nat) : Int) * 1048576; omega⟩
  · refine Cd.exit ?_
    refine thenQ_x ?_
    refine thenQ_x ?_
    refine blockQ_x ?_
    refine thenQ_n ?_
    refine Cd.seq ?_
    refine Cd.region ?_
    refine Ops.mv_int rfl rfl rfl ?_
    refine Ops.mv_int rfl rfl rfl ?_
    refine Ops.nil ?_
    refine thenQ_n ?_
    refine Cd.ret ?_
    refine ret1_i rfl ?_
    -- stop: end
    exact ⟨K, ys, rfl, ⟨hK0, by omega⟩, hyl, hS1⟩

theorem markManiplex_c {w0 w : World} {pre post : List Ck} {t1 t2 : TypeId} {A : Option Addr} {n c : Nat} {rs : List SlV} {xss : List (List Int)} (k : Int) (hS : St w0 w (pre ++ (mat t1 t2 A n c rs xss ++ post))) (hrl : rs.length = n) (hxl : xss.length = n) (hn : n ≤ 1048576) (hr : ∀ i, i < n → (rs.getD i slNil).n ≤ 1048576) (hk0 : 0 ≤ k ∧ k ≤ 1048576) :
    Ret Try.prog 28 [.agg #[.slice A n c], .int .i64 k] w (fun v w' => ∃ (K : Int) (xss' : List (List Int)), v = .int .i64 K ∧ (0 ≤ K ∧ K ≤ 2199023255552) ∧ xss'.length = n ∧ St w0 w' (pre ++ (mat t1 t2 A n c rs xss' ++ post))) := by
  refine Ret.of_cd Try.func28 rfl Try.ntmps28 rfl (post1 rfl) ?_
  refine Cd.seq ?_
  refine Cd.region ?_
  -- stop: BOX 32 t0=a -> 2
  refine Ops.box1 hS rfl rfl ?_
  intro Ab w1 hS1
  refine Ops.mv_int rfl rfl rfl ?_
  refine Ops.nil ?_
  refine thenQ_n ?_
  refine Cd.seq ?_
  refine Cd.region ?_
  -- stop: FIELDADDR 32 t2=a 0 -> 5
  refine Ops.fld (hS1.rd 0 rfl) rfl rfl rfl rfl inferInstance ?_
  refine Ops.ldf_s (hS1.rd 0 rfl) rfl rfl rfl rfl rfl ?_
  refine Ops.mv_int rfl rfl rfl ?_
  -- stop: CALL laws.markInt64SS(t6, t7) -> 8
  refine Ops.call (markInt64SS_c (pre := Bx 32 1 Ab [.slice A n c] :: pre) (post := post) (rs := rs) k hS1 hrl hxl hn hr hk0) rfl rfl rfl ?_
  rintro _ w2 ⟨K, ys, rfl, hK, hyl, hS2⟩
  refine Ops.mv_int rfl rfl rfl ?_
  refine Ops.nil ?_
  refine thenQ_n ?_
  refine Cd.seq ?_
  refine Cd.region ?_
  refine Ops.mv_int rfl rfl rfl ?_
  refine Ops.mv_int rfl rfl rfl ?_
  refine Ops.nil ?_
  refine thenQ_n ?_
  refine Cd.ret ?_
  refine ret1_i rfl ?_
  -- stop: end
  exact ⟨K, ys, rfl, hK, hyl, St.tail hS2⟩
end Go.Proofs.Ytpdhjnacnmfbjaa.Vc
