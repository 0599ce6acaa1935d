/-
  The walk of slices.Repeat, of small products. Conditions: as each states them.
-/
import Derived.Test.YtpdhjnacnmfbjaaCpy
import Derived.Test.YtpdhjnacnmfbjaaB1
namespace Go.Proofs.Ytpdhjnacnmfbjaa.Vc
open Go.RowKit

theorem Mul64_c (x y : Int) (w : World) (hx : 0 ≤ x ∧ x ≤ 1048576) (hy : 0 ≤ y ∧ y ≤ 1048576) : Ret Try.prog 128 [.int .u64 x, .int .u64 y] w (fun v w' => v = .tuple #[.int .u64 0, .int .u64 (x * y)] ∧ w' = w) := by
  have hxy : 0 ≤ x * y ∧ x * y ≤ 1099511627776 := ⟨Int.mul_nonneg hx.1 hy.1, Int.le_trans (Int.mul_le_mul hx.2 hy.2 hy.1 (by omega)) (by decide)⟩
  have ex : x % 4294967296 = x := by omega
  have ey : y % 4294967296 = y := by omega
  have dx : x / 4294967296 = 0 := by omega
  have dy : y / 4294967296 = 0 := by omega
  refine Ret.of_cd Try.func128 rfl Try.ntmps128 rfl (post2 rfl) ?_
  refine Cd.seq ?_
  refine Cd.region ?_
  refine Ops.mv_int rfl rfl rfl ?_
  refine Ops.mv_int rfl rfl rfl ?_
  refine Ops.nil ?_
  refine thenQ_n ?_
  refine Cd.seq ?_
  refine Cd.region ?_
  refine Ops.mv_int rfl rfl rfl ?_
  -- stop: BINOP and 113 t14 4294967295 113 -> 15
  refine Ops.andU (x) rfl rfl rfl (by omega) (by omega) ?_
  refine Ops.mv_int rfl rfl rfl ?_
  refine Ops.nil ?_
  refine thenQ_n ?_
  refine Cd.seq ?_
  refine Cd.region ?_
  refine Ops.mv_int rfl rfl rfl ?_
  -- stop: BINOP shr 113 t16 32 97 -> 17
  refine Ops.shrU (0) rfl rfl rfl (by omega) (by omega) ?_
  refine Ops.mv_int rfl rfl rfl ?_
  refine Ops.nil ?_
  refine thenQ_n ?_
  refine Cd.seq ?_
  refine Cd.region ?_
  refine Ops.mv_int rfl rfl rfl ?_
  -- stop: BINOP and 113 t18 4294967295 113 -> 19
  refine Ops.andU (y) rfl rfl rfl (by omega) (by omega) ?_
  refine Ops.mv_int rfl rfl rfl ?_
  refine Ops.nil ?_
  refine thenQ_n ?_
  refine Cd.seq ?_
  refine Cd.region ?_
  refine Ops.mv_int rfl rfl rfl ?_
  -- stop: BINOP shr 113 t20 32 97 -> 21
  refine Ops.shrU (0) rfl rfl rfl (by omega) (by omega) ?_
  refine Ops.mv_int rfl rfl rfl ?_
  refine Ops.nil ?_
  refine thenQ_n ?_
  refine Cd.seq ?_
  refine Cd.region ?_
  refine Ops.mv_int rfl rfl rfl ?_
  refine Ops.mv_int rfl rfl rfl ?_
  -- stop: BINOP mul 113 t22 t23 113 -> 24
  refine Ops.mulU (x * y) rfl rfl rfl (by simp) (by omega) ?_
  refine Ops.mv_int rfl rfl rfl ?_
  refine Ops.nil ?_
  refine thenQ_n ?_
  refine Cd.seq ?_
  refine Cd.region ?_
  refine Ops.mv_int rfl rfl rfl ?_
  refine Ops.mv_int rfl rfl rfl ?_
  -- stop: BINOP mul 113 t25 t26 113 -> 27
  refine Ops.mulU (0) rfl rfl rfl (by simp) (by omega) ?_
  refine Ops.mv_int rfl rfl rfl ?_
  -- stop: BINOP shr 113 t28 32 97 -> 29
  refine Ops.shrU (x * y / 4294967296) rfl rfl rfl (by omega) (by omega) ?_
  skip
  -- stop: BINOP add 113 t27 t29 113 -> 30
  refine Ops.addU (x * y / 4294967296) rfl rfl rfl (by simp) (by omega) ?_
  refine Ops.mv_int rfl rfl rfl ?_
  refine Ops.nil ?_
  refine thenQ_n ?_
  refine Cd.seq ?_
  refine Cd.region ?_
  refine Ops.mv_int rfl rfl rfl ?_
  -- stop: BINOP and 113 t31 4294967295 113 -> 32
  refine Ops.andU (x * y / 4294967296) rfl rfl rfl (by omega) (by omega) ?_
  refine Ops.mv_int rfl rfl rfl ?_
  refine Ops.nil ?_
  refine thenQ_n ?_
  refine Cd.seq ?_
  refine Cd.region ?_
  refine Ops.mv_int rfl rfl rfl ?_
  -- stop: BINOP shr 113 t33 32 97 -> 34
  refine Ops.shrU (0) rfl rfl rfl (by omega) (by omega) ?_
  refine Ops.mv_int rfl rfl rfl ?_
  refine Ops.nil ?_
  refine thenQ_n ?_
  refine Cd.seq ?_
  refine Cd.region ?_
  refine Ops.mv_int rfl rfl rfl ?_
  refine Ops.mv_int rfl rfl rfl ?_
  refine Ops.mv_int rfl rfl rfl ?_
  -- stop: BINOP mul 113 t36 t37 113 -> 38
  refine Ops.mulU (0) rfl rfl rfl (by simp) (by omega) ?_
  skip
  -- stop: BINOP add 113 t35 t38 113 -> 39
  refine Ops.addU (x * y / 4294967296) rfl rfl rfl (by simp) (by omega) ?_
  refine Ops.mv_int rfl rfl rfl ?_
  refine Ops.nil ?_
  refine thenQ_n ?_
  refine Cd.seq ?_
  refine Cd.region ?_
  refine Ops.mv_int rfl rfl rfl ?_
  refine Ops.mv_int rfl rfl rfl ?_
  -- stop: BINOP mul 113 t40 t41 113 -> 42
  refine Ops.mulU (0) rfl rfl rfl (by simp) (by omega) ?_
  refine Ops.mv_int rfl rfl rfl ?_
  -- stop: BINOP add 113 t42 t43 113 -> 44
  refine Ops.addU (0) rfl rfl rfl (by simp) (by omega) ?_
  refine Ops.mv_int rfl rfl rfl ?_
  -- stop: BINOP shr 113 t45 32 97 -> 46
  refine Ops.shrU (0) rfl rfl rfl (by omega) (by omega) ?_
  skip
  -- stop: BINOP add 113 t44 t46 113 -> 47
  refine Ops.addU (0) rfl rfl rfl (by simp) (by omega) ?_
  refine Ops.mv_int rfl rfl rfl ?_
  refine Ops.nil ?_
  refine thenQ_n ?_
  refine Cd.seq ?_
  refine Cd.region ?_
  refine Ops.mv_int rfl rfl rfl ?_
  refine Ops.mv_int rfl rfl rfl ?_
  -- stop: BINOP mul 113 t48 t49 113 -> 50
  refine Ops.mulU (x * y) rfl rfl rfl (by simp) (by omega) ?_
  refine Ops.mv_int rfl rfl rfl ?_
  refine Ops.nil ?_
  refine thenQ_n ?_
  refine Cd.ret ?_
  refine ret2_ii rfl rfl ?_
  -- stop: end
  exact ⟨rfl, rfl⟩

theorem Mul_c (x y : Int) (w : World) (hx : 0 ≤ x ∧ x ≤ 1048576) (hy : 0 ≤ y ∧ y ≤ 1048576) : Ret Try.prog 113 [.int .u64 x, .int .u64 y] w (fun v w' => v = .tuple #[.int .u64 0, .int .u64 (x * y)] ∧ w' = w) := by
  refine Ret.of_cd Try.func113 rfl Try.ntmps113 rfl (post2 rfl) ?_
  refine Cd.seq ?_
  refine Cd.region ?_
  refine Ops.mv_int rfl rfl rfl ?_
  refine Ops.mv_int rfl rfl rfl ?_
  refine Ops.nil ?_
  refine thenQ_n ?_
  refine Cd.seq ?_
  -- stop: cond
  refine Cd.cond_f rfl ?_
  refine Cd.skip ?_
  refine thenQ_n ?_
  refine Cd.seq ?_
  refine Cd.region ?_
  refine Ops.mv_int rfl rfl rfl ?_
  refine Ops.mv_int rfl rfl rfl ?_
  -- stop: CALL bits.Mul64(t23, t24) -> 25
  refine Ops.call (Mul64_c x y w hx hy) rfl rfl rfl ?_
  rintro _ _ ⟨rfl, rfl⟩
  refine Ops.mv_tup rfl rfl rfl ?_
  refine Ops.extract rfl rfl rfl ?_
  refine Ops.extract rfl rfl rfl ?_
  refine Ops.mv_int rfl rfl rfl ?_
  refine Ops.mv_int rfl rfl rfl ?_
  refine Ops.nil ?_
  refine thenQ_n ?_
  refine Cd.seq ?_
  refine Cd.region ?_
  refine Ops.mv_int rfl rfl rfl ?_
  refine Ops.mv_int rfl rfl rfl ?_
  refine Ops.mv_int rfl rfl rfl ?_
  refine Ops.mv_int rfl rfl rfl ?_
  refine Ops.nil ?_
  refine thenQ_n ?_
  refine Cd.ret ?_
  refine ret2_ii rfl rfl ?_
  -- stop: end
  exact ⟨rfl, rfl⟩

/-- n elements made of copies of one -/
def rep (a n : Nat) (x v : Int) : List Int := List.replicate a x ++ List.replicate (n - a) v
theorem rep_copy {m n q : Nat} {x v : Int} (hm : m ≤ n) (hq : q ≤ n - m) : ((rep m n x v).map (Value.int .i64)).take m ++ (List.range q).map (fun _ => Value.int .i64 x) ++ ((rep m n x v).map (Value.int .i64)).drop (m + q) = (rep (m + q) n x v).map (Value.int .i64) := by
  have e1 : (rep m n x v).map (Value.int .i64) = List.replicate m (Value.int .i64 x) ++ List.replicate (n - m) (Value.int .i64 v) := by simp [rep]
  have e2 : (List.range q).map (fun _ => Value.int .i64 x) = List.replicate q (Value.int .i64 x) := by
    apply List.ext_getElem <;> simp
  rw [e1, e2, List.take_append_of_le_length (by simp), List.drop_append]
  simp only [rep, List.map_append, List.map_replicate, List.length_replicate, List.take_replicate, List.drop_replicate, Nat.min_self]
  rw [show m - (m + q) = 0 by omega, show m + q - m = q by omega, show n - m - q = n - (m + q) by omega]
  simp
theorem Repeat_c (A : Option Addr) (c : Nat) (x : Int) (n : Nat) (w : World) (hR : RdI w A 1 [x]) (hn : n ≤ 1048576) :
    Ret Try.prog 89 [.slice A 1 c, .int .i64 (n : Int)] w (fun v w' => ∃ A', v = .slice A' n n ∧ St w w' [CkI 2 A' n n (List.replicate n x)]) := by
  refine Ret.of_cd Try.func89 rfl Try.ntmps89 rfl (post1 rfl) ?_
  refine Cd.seq ?_
  refine Cd.region ?_
  refine Ops.mv_sl rfl rfl rfl ?_
  refine Ops.nil ?_
  refine thenQ_n ?_
  refine Cd.seq ?_
  refine Cd.seq ?_
  refine Cd.region ?_
  refine Ops.mv_int rfl rfl rfl ?_
  refine Ops.lss rfl rfl rfl ?_
  refine Ops.nil ?_
  refine thenQ_n ?_
  -- stop: cond
  refine Cd.cond_pf rfl (by omega) ?_
  refine Cd.skip ?_
  refine thenQ_n ?_
  refine Cd.seq ?_
  refine Cd.region ?_
  refine Ops.mv_sl rfl rfl rfl ?_
  refine Ops.len rfl rfl ?_
  -- stop: CONVERT 3 97 t14 -> 15
  refine Ops.convK (i := 1) rfl rfl (by decide) ?_
  refine Ops.mv_int rfl rfl rfl ?_
  -- stop: CONVERT 3 97 t16 -> 17
  refine Ops.convK (i := (n : Int)) rfl rfl (wrap_u64_in _ (by omega)) ?_
  refine Ops.call (Mul_c 1 n _ (by omega) (by omega)) rfl rfl rfl ?_
  rintro _ w ⟨rfl, rfl⟩
  rw [Int.one_mul]
  refine Ops.mv_tup rfl rfl rfl ?_
  refine Ops.extract rfl rfl rfl ?_
  refine Ops.extract rfl rfl rfl ?_
  refine Ops.mv_int rfl rfl rfl ?_
  refine Ops.mv_int rfl rfl rfl ?_
  refine Ops.nil ?_
  refine thenQ_n ?_
  refine Cd.seq ?_
  refine Cd.seq ?_
  refine Cd.region ?_
  refine Ops.mv_int rfl rfl rfl ?_
  refine Ops.gtr rfl rfl rfl ?_
  refine Ops.mv_bool rfl rfl rfl ?_
  -- stop: guard 23
  refine Ops.split_p 23 rfl (fun h => absurd h (by decide)) (fun _ => ?_) --f
  refine Ops.rung rfl rfl rfl ?_
  refine Ops.mv_int rfl rfl rfl ?_
  refine Ops.rung rfl rfl rfl ?_
  refine Ops.gtr rfl rfl rfl ?_
  refine Ops.pick_f rfl rfl rfl ?_
  refine Ops.nil ?_
  refine thenQ_n ?_
  -- stop: cond
  refine Cd.cond_pf rfl (by omega) ?_
  refine Cd.skip ?_
  refine thenQ_n ?_
  refine Cd.seq ?_
  refine Cd.region ?_
  refine Ops.mv_int rfl rfl rfl ?_
  -- stop: CONVERT 97 3 t28 -> 29
  refine Ops.convK (i := (n : Int)) rfl rfl (IntWalk.i64_in _ (by omega)) ?_
  refine Ops.mkI n (St.refl w) rfl rfl (by omega) ?_
  intro A1 w1 hS1
  refine Ops.mv_sl rfl rfl rfl ?_
  refine Ops.nil ?_
  refine thenQ_n ?_
  refine Cd.seq ?_
  refine Cd.region ?_
  refine Ops.mv_sl rfl rfl rfl ?_
  refine Ops.mv_sl rfl rfl rfl ?_
  -- stop: BUILTIN copy(t31, t32) -> 33
  refine Ops.cp 0 0 (min 1 n) hS1 rfl (hS1.oldI hR).2 (Nat.zero_le _) (by rw [cutAt_zero]; rfl) rfl (fun _ _ => rfl) rfl rfl ?_
  intro w2 hS2
  refine Ops.mv_int rfl rfl rfl ?_
  refine Ops.nil ?_
  refine thenQ_n ?_
  refine Cd.seq ?_
  refine Cd.block ?_
  -- stop: loop
  have h3 : St w w2 [CkI 2 A1 n n (rep (min 1 n) n x 0)] := by
    have e : ([CkI 2 A1 n n (List.replicate n 0)].set 0 { CkI 2 A1 n n (List.replicate n 0) with vs := (CkI 2 A1 n n (List.replicate n 0)).vs.take 0 ++ (List.range (min 1 n)).map (fun j => Value.int .i64 ([x].getD j 0)) ++ (CkI 2 A1 n n (List.replicate n 0)).vs.drop (0 + min 1 n) }) = [CkI 2 A1 n n (rep (min 1 n) n x 0)] := by
      by_cases h0 : n = 0
      · subst h0; rfl
      · have h1 : min 1 n = 1 := by omega
        rw [h1]
        simp [CkI, rep, List.range_succ]
    rw [← e]; exact hS2
  refine Cd.loop (α := Nat) (fun m => [(7, .slice A1 n n), (8, .int .i64 (m : Int))]) (fun m w' => St w w' [CkI 2 A1 n n (rep m n x 0)] ∧ m ≤ n ∧ (0 < n → 0 < m)) (fun m => n - m) (min 1 n) ⟨rfl, rfl, trivial⟩ ⟨h3, by omega, by omega⟩ ?_
  rintro m e w3 ⟨hS3, hm, hm0⟩
  refine Cd.seq ?_
  refine Cd.seq ?_
  refine Cd.region ?_
  refine Ops.mv_int rfl rfl rfl ?_
  refine Ops.mv_sl rfl rfl rfl ?_
  refine Ops.len rfl rfl ?_
  refine Ops.lss rfl rfl rfl ?_
  refine Ops.nil ?_
  refine thenQ_n ?_
  -- stop: cond
  refine Cd.cond_p _ rfl (fun h4 => ?_) (fun h4 => ?_)
  · refine Cd.skip ?_
    refine thenQ_n ?_
    refine Cd.block ?_
    -- stop: draw
    have hlen : (rep m n x 0).length = n := hS3.lenI 0 rfl
    have hR2 : ∀ {w1 : World}, Below w3.heap.size w3 w1 → Rd w1 A1 m (fun _ => .int .i64 x) := fun hb j hj => by
      have h5 := (hS3.later hb).rd 0 rfl j (by show j < n; omega)
      have h6 : ((rep m n x 0).map (Value.int .i64)).getD j undef = .int .i64 x := by simp [rep, List.getD_eq_getElem?_getD, List.getElem?_append_left, hj]
      obtain ⟨p, hp, hc⟩ := h5
      exact ⟨p, hp, hc.trans (congrArg some h6)⟩
    have hR3 := rep_copy (n := n) (m := m) (q := min m (n - m)) (x := x) (v := 0) hm (by omega)
    refine Cd.drawM 7 (fun v w' => v = .int .i64 ((min m (n - m) : Nat) : Int) ∧ St w w' [CkI 2 A1 n n (rep (m + min m (n - m)) n x 0)]) [.ex (.int .i64 ((m : Int))), .ex (.slice (A1) (n) (n)), .ex (.int .i64 ((m : Int))), .ex (.slice (cutAt A1 n m) (n - m) (n - m)), .ex (.slice (A1) (n) (n)), .ex (.int .i64 ((m : Int))), .ex (.slice (A1) (m) (n)), .pr (fun v w' => v = .int .i64 ((min m (n - m) : Nat) : Int) ∧ St w w' [CkI 2 A1 n n (rep (m + min m (n - m)) n x 0)]), .ex (.int .i64 ((m : Int) + ((min m (n - m) : Nat) : Int))), .ex (.int .i64 ((m : Int) + ((min m (n - m) : Nat) : Int)))] (by kernel_rfl) (by kernel_rfl) rfl rfl (by kernel_rfl) (List.forall_mem_cons.2 ⟨Yd.lasts_ex _, (List.forall_mem_cons.2 ⟨Yd.lasts_ex _, (List.forall_mem_cons.2 ⟨Yd.lasts_ex _, (List.forall_mem_cons.2 ⟨Yd.lasts_ex _, (List.forall_mem_cons.2 ⟨Yd.lasts_ex _, (List.forall_mem_cons.2 ⟨Yd.lasts_ex _, (List.forall_mem_cons.2 ⟨Yd.lasts_ex _, (List.forall_mem_cons.2 ⟨Yd.lasts_pr (fun v w w' h hb => ⟨h.1, h.2.later hb⟩), (List.forall_mem_cons.2 ⟨Yd.lasts_ex _, (List.forall_mem_cons.2 ⟨Yd.lasts_ex _, (fun _ h => by cases h)⟩)⟩)⟩)⟩)⟩)⟩)⟩)⟩)⟩)⟩) ⟨?_, ?_, ?_, ?_, ?_, ?_, ?_, ?_, ?_, ?_, trivial⟩ ?_
    · intro e1 w1 hph hp hun
      show Ops _ _ _ _ _ _ _
      refine Ops.mv_int rfl (by exact hun 9 _ rfl (by kernel_rfl)) rfl ?_
      refine Ops.nil ?_
      exact After.dn (Below.refl _ _) (by exact rfl)
    · intro e1 w1 hph hp hun
      show Ops _ _ _ _ _ _ _
      refine Ops.mv_sl rfl rfl rfl ?_
      refine Ops.nil ?_
      exact After.dn (Below.refl _ _) (by exact rfl)
    · intro e1 w1 hph hp hun
      show Ops _ _ _ _ _ _ _
      refine Ops.mv_int rfl (by exact hun 9 _ rfl (by kernel_rfl)) rfl ?_
      refine Ops.nil ?_
      exact After.dn (Below.refl _ _) (by exact rfl)
    · intro e1 w1 hph hp hun
      show Ops _ _ _ _ _ _ _
      refine Ops.cut_l rfl rfl rfl (by omega) ?_
      refine Ops.nil ?_
      exact After.dn (Below.refl _ _) (by exact rfl)
    · intro e1 w1 hph hp hun
      show Ops _ _ _ _ _ _ _
      refine Ops.mv_sl rfl rfl rfl ?_
      refine Ops.nil ?_
      exact After.dn (Below.refl _ _) (by exact rfl)
    · intro e1 w1 hph hp hun
      show Ops _ _ _ _ _ _ _
      refine Ops.mv_int rfl (by exact hun 9 _ rfl (by kernel_rfl)) rfl ?_
      refine Ops.nil ?_
      exact After.dn (Below.refl _ _) (by exact rfl)
    · intro e1 w1 hph hp hun
      show Ops _ _ _ _ _ _ _
      refine Ops.cut_h rfl rfl rfl (by omega) ?_
      refine Ops.nil ?_
      exact After.dn (Below.refl _ _) (by exact rfl)
    · intro e1 w1 hph hp hun
      refine fun hb => ?_
      refine Ops.cp 0 m (min m (n - m)) (hS3.later hb) rfl (f := fun _ => .int .i64 x) (hR2 hb) (by omega) rfl rfl (fun _ _ => rfl) rfl rfl ?_
      intro w5 hS5
      refine Ops.nil ?_
      exact AfterM.dn ⟨rfl, by show St w w5 [⟨A1, n, n, _, (rep (m + min m (n - m)) n x 0).map (Value.int .i64)⟩]; rw [← hR3]; exact hS5⟩ --exact After
    · intro e1 w1 hph hp hun
      show Ops _ _ _ _ _ _ _
      have h45 : e1 45 = .int .i64 _ := (hp 7 (by decide) rfl _ _ rfl rfl).1
      refine Ops.add rfl (by exact h45) rfl (by omega) ?_
      refine Ops.nil ?_
      exact After.dn (Below.refl _ _) (by exact rfl)
    · intro e1 w1 hph hp hun
      show Ops _ _ _ _ _ _ _
      refine Ops.mv_int rfl rfl rfl ?_
      refine Ops.nil ?_
      exact After.dn (Below.refl _ _) (by exact rfl)
    intro u w5 hu
    have hS5 := (hu 7 _ rfl).2
    refine blockQ_n ?_
    refine thenQ_n ?_
    -- stop: round
    exact ⟨m + min m (n - m), by have := hm0 (by omega); omega, ⟨rfl, by show Value.int .i64 _ = Value.int .i64 _; congr 1, trivial⟩, hS5, by omega, by omega⟩
  · refine Cd.exit ?_
    refine thenQ_x ?_
    refine thenQ_x ?_
    refine blockQ_x ?_
    refine thenQ_n ?_
    refine Cd.seq ?_
    refine Cd.region ?_
    refine Ops.mv_sl rfl rfl rfl ?_
    refine Ops.mv_sl rfl rfl rfl ?_
    refine Ops.nil ?_
    refine thenQ_n ?_
    refine Cd.ret ?_
    refine ret1_s rfl ?_
    -- stop: end
    have : m = n := by omega
    subst this
    refine ⟨A1, rfl, ?_⟩
    have e : rep m m x 0 = List.replicate m x := by simp [rep]
    rw [← e]; exact hS3
end Go.Proofs.Ytpdhjnacnmfbjaa.Vc
