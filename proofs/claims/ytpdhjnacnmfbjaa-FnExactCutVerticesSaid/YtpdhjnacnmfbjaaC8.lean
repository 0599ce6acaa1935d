/-
  The walks of holes and zigzags on both sides. Conditions: as each states them.
-/
import Derived.Test.YtpdhjnacnmfbjaaC7
import Derived.Test.YtpdhjnacnmfbjaaRpl
namespace Go.Proofs.Ytpdhjnacnmfbjaa.Vc
open Go.RowKit

/-- the code of holes and zigzags -/
def holeK (xss : List (List Int)) (j : Int) : Int := if ¬ Grph xss then 1 else if ¬ (1 ≤ j ∧ j ≤ 16) then 2 else if ¬ xss.length = 3 then 5 else 0
theorem holeK_zero {xss : List (List Int)} {j : Int} (h : holeK xss j = 0) : Grph xss ∧ (1 ≤ j ∧ j ≤ 16) ∧ xss.length = 3 := by
  unfold holeK at h
  split at h
  · cases h
  · rename_i h1
    split at h
    · cases h
    · rename_i h2
      split at h
      · cases h
      · rename_i h3
        exact ⟨Classical.not_not.1 h1, Classical.not_not.1 h2, Classical.not_not.1 h3⟩

theorem l18Number_c (A : Option Addr) (n c : Nat) (rs : List SlV) (xss : List (List Int)) (j : Int) (w : World) (hR : RowsI w A n rs xss) (hn : n ≤ 9223372036854775807) :
    Ret Try.prog 71 [.agg #[.slice A n c], .int .i64 j] w (fun v w' => v = .int .i64 (holeK xss j) ∧ St w w' []) := by
  have hl := hR.len
  refine Ret.of_cd Try.func71 rfl Try.ntmps71 rfl (post1 rfl) ?_
  refine Cd.seq ?_
  refine Cd.region ?_
  -- stop: BOX 32 t0=m -> 2
  refine Ops.box1 (St.refl w) rfl rfl ?_
  intro Ab w1 hS
  refine Ops.mv_int rfl rfl rfl ?_
  refine Ops.nil ?_
  refine thenQ_n ?_
  refine Cd.seq ?_
  refine Cd.block ?_
  refine Cd.seq ?_
  refine Cd.region ?_
  -- stop: LOAD 32 t2=m -> 6
  refine Ops.ld_agg 0 (hS.rd 0 rfl) rfl rfl rfl ?_
  refine Ops.call (l18Is_c A n c rs xss _ (hS.oldRows hR) hn) rfl rfl rfl ?_
  rintro _ w2 ⟨rfl, hst⟩
  have hS := hS.later hst.below
  first | refine Ops.not_p rfl rfl ?_ | refine Ops.not rfl rfl ?_
  refine Ops.mv_bool rfl rfl rfl ?_
  refine Ops.nil ?_
  refine thenQ_n ?_
  -- stop: cond
  refine Cd.cond_p _ rfl (fun h1 => ?_) (fun h1 => ?_)
  · refine Cd.seq ?_
    refine Cd.region ?_
    refine Ops.mv_int rfl rfl rfl ?_
    refine Ops.nil ?_
    refine thenQ_n ?_
    refine Cd.ret ?_
    refine blockQ_r ?_
    refine thenQ_r ?_
    refine ret1_i rfl ?_
    -- stop: end
    exact ⟨by rw [holeK, if_pos h1], hS.none⟩
  · refine Cd.seq ?_
    refine Cd.region ?_
    refine Ops.mv_int rfl rfl rfl ?_
    -- stop: CALL spec.l01In(t10, 1, 16) -> 11
    refine Ops.call (l01In_c _ _ _ _) rfl rfl rfl ?_
    rintro _ w2 ⟨rfl, rfl⟩
    first | refine Ops.not_p rfl rfl ?_ | refine Ops.not rfl rfl ?_
    refine Ops.mv_bool rfl rfl rfl ?_
    refine Ops.nil ?_
    refine thenQ_n ?_
    -- stop: cond
    refine Cd.cond_p _ rfl (fun h2 => ?_) (fun h2 => ?_)
    · refine Cd.seq ?_
      refine Cd.region ?_
      refine Ops.mv_int rfl rfl rfl ?_
      refine Ops.nil ?_
      refine thenQ_n ?_
      refine Cd.ret ?_
      refine blockQ_r ?_
      refine thenQ_r ?_
      refine ret1_i rfl ?_
      -- stop: end
      exact ⟨by rw [holeK, if_neg h1, if_pos h2], hS.none⟩
    · refine Cd.seq ?_
      refine Cd.region ?_
      -- stop: FIELDADDR 32 t2=m 0 -> 14
      refine Ops.fld (hS.rd 0 rfl) rfl rfl rfl rfl inferInstance ?_
      refine Ops.ldf_s (hS.rd 0 rfl) rfl rfl rfl rfl rfl ?_
      refine Ops.len rfl rfl ?_
      refine Ops.neq rfl rfl rfl ?_
      refine Ops.mv_bool rfl rfl rfl ?_
      refine Ops.nil ?_
      refine thenQ_n ?_
      -- stop: cond
      refine Cd.cond_p _ rfl (fun h3 => ?_) (fun h3 => ?_)
      · refine Cd.seq ?_
        refine Cd.region ?_
        refine Ops.mv_int rfl rfl rfl ?_
        refine Ops.nil ?_
        refine thenQ_n ?_
        refine Cd.ret ?_
        refine blockQ_r ?_
        refine thenQ_r ?_
        refine ret1_i rfl ?_
        -- stop: end
        exact ⟨by rw [holeK, if_neg h1, if_neg h2, if_pos (by omega)], hS.none⟩
      · refine Cd.skip ?_
        refine blockQ_n ?_
        refine thenQ_n ?_
        refine Cd.seq ?_
        refine Cd.region ?_
        refine Ops.mv_int rfl rfl rfl ?_
        refine Ops.nil ?_
        refine thenQ_n ?_
        refine Cd.ret ?_
        refine ret1_i rfl ?_
        -- stop: end
        exact ⟨by rw [holeK, if_neg h1, if_neg h2, if_neg (by omega)], hS.none⟩

theorem holeCode_c (A : Option Addr) (n c : Nat) (rs : List SlV) (xss : List (List Int)) (j : Int) (w : World) (hR : RowsI w A n rs xss) (hn : n ≤ c) (hc : c ≤ 9223372036854775807) :
    Ret Try.prog 73 [.agg #[.slice A n c], .int .i64 j] w (fun v w' => v = .int .i64 (holeK xss j) ∧ St w w' []) := by
  have hl := hR.len
  refine Ret.of_cd Try.func73 rfl Try.ntmps73 rfl (post1 rfl) ?_
  refine Cd.seq ?_
  refine Cd.region ?_
  -- stop: BOX 32 t0=m -> 2
  refine Ops.box1 (St.refl w) rfl rfl ?_
  intro Ab w1 hS
  refine Ops.mv_int rfl rfl rfl ?_
  refine Ops.nil ?_
  refine thenQ_n ?_
  refine Cd.seq ?_
  refine Cd.block ?_
  refine Cd.seq ?_
  refine Cd.region ?_
  -- stop: LOAD 32 t2=m -> 6
  refine Ops.ld_agg 0 (hS.rd 0 rfl) rfl rfl rfl ?_
  refine Ops.call (isGraphed_c A n c rs xss _ (hS.oldRows hR) hn hc) rfl rfl rfl ?_
  rintro _ w2 ⟨rfl, hst⟩
  have hS := hS.later hst.below
  first | refine Ops.not_p rfl rfl ?_ | refine Ops.not rfl rfl ?_
  refine Ops.mv_bool rfl rfl rfl ?_
  refine Ops.nil ?_
  refine thenQ_n ?_
  -- stop: cond
  refine Cd.cond_p _ rfl (fun h1 => ?_) (fun h1 => ?_)
  · refine Cd.seq ?_
    refine Cd.region ?_
    refine Ops.mv_int rfl rfl rfl ?_
    refine Ops.nil ?_
    refine thenQ_n ?_
    refine Cd.ret ?_
    refine blockQ_r ?_
    refine thenQ_r ?_
    refine ret1_i rfl ?_
    -- stop: end
    exact ⟨by rw [holeK, if_pos h1], hS.none⟩
  · refine Cd.seq ?_
    refine Cd.region ?_
    refine Ops.mv_int rfl rfl rfl ?_
    -- stop: CALL impl.within(t10, 1, 16) -> 11
    refine Ops.call (within_c _ _ _ _) rfl rfl rfl ?_
    rintro _ w2 ⟨rfl, rfl⟩
    first | refine Ops.not_p rfl rfl ?_ | refine Ops.not rfl rfl ?_
    refine Ops.mv_bool rfl rfl rfl ?_
    refine Ops.nil ?_
    refine thenQ_n ?_
    -- stop: cond
    refine Cd.cond_p _ rfl (fun h2 => ?_) (fun h2 => ?_)
    · refine Cd.seq ?_
      refine Cd.region ?_
      refine Ops.mv_int rfl rfl rfl ?_
      refine Ops.nil ?_
      refine thenQ_n ?_
      refine Cd.ret ?_
      refine blockQ_r ?_
      refine thenQ_r ?_
      refine ret1_i rfl ?_
      -- stop: end
      exact ⟨by rw [holeK, if_neg h1, if_pos h2], hS.none⟩
    · refine Cd.seq ?_
      refine Cd.region ?_
      -- stop: CALL impl.Maniplex).rank(t2=m) -> 14
      refine Ops.call (rank_c Ab A n c _ _ (hS.rd 0 rfl) rfl) rfl rfl rfl ?_
      rintro _ w2 ⟨rfl, rfl⟩
      refine Ops.neq rfl rfl rfl ?_
      refine Ops.mv_bool rfl rfl rfl ?_
      refine Ops.nil ?_
      refine thenQ_n ?_
      -- stop: cond
      refine Cd.cond_p _ rfl (fun h3 => ?_) (fun h3 => ?_)
      · refine Cd.seq ?_
        refine Cd.region ?_
        refine Ops.mv_int rfl rfl rfl ?_
        refine Ops.nil ?_
        refine thenQ_n ?_
        refine Cd.ret ?_
        refine blockQ_r ?_
        refine thenQ_r ?_
        refine ret1_i rfl ?_
        -- stop: end
        exact ⟨by rw [holeK, if_neg h1, if_neg h2, if_pos (by omega)], hS.none⟩
      · refine Cd.skip ?_
        refine blockQ_n ?_
        refine thenQ_n ?_
        refine Cd.seq ?_
        refine Cd.region ?_
        refine Ops.mv_int rfl rfl rfl ?_
        refine Ops.nil ?_
        refine thenQ_n ?_
        refine Cd.ret ?_
        refine ret1_i rfl ?_
        -- stop: end
        exact ⟨by rw [holeK, if_neg h1, if_neg h2, if_neg (by omega)], hS.none⟩

theorem l11Power_c (A : Option Addr) (a c : Nat) (xs : List Int) (n : Nat) (w : World) (hR : RdI w A a xs) (ha : a ≤ 1000) (hn : n ≤ 1000) :
    Ret Try.prog 72 [.slice A a c, .int .i64 (n : Int)] w (fun v w' => ∃ A' c', v = .slice A' (a * n) c' ∧ St w w' [CkI 2 A' (a * n) c' (pow xs n)]) := by
  have hxl := hR.1
  refine Ret.of_cd Try.func72 rfl Try.ntmps72 rfl (post1 rfl) ?_
  refine Cd.seq ?_
  refine Cd.region ?_
  refine Ops.mv_sl rfl rfl rfl ?_
  refine Ops.nil ?_
  refine thenQ_n ?_
  refine Cd.seq ?_
  refine Cd.region ?_
  -- stop: BUILDSLICE 39 0 [] -> 6
  refine Ops.bs0 (St.refl w) rfl ?_
  intro A5 w1 hS1
  have hS1 : St w w1 [CkI 2 A5 (a * 0) 0 (pow xs 0)] := hS1
  refine Ops.mv_sl rfl rfl rfl ?_
  refine Ops.nil ?_
  refine thenQ_n ?_
  refine Cd.seq ?_
  refine Cd.block ?_
  -- stop: loop
  refine Cd.loop (α := Nat × Option Addr × Nat) (fun z => [(0, .slice A a c), (1, .int .i64 ((n : Int) - (z.1 : Int))), (5, .slice z.2.1 (a * z.1) z.2.2)]) (fun z w' => St w w' [CkI 2 z.2.1 (a * z.1) z.2.2 (pow xs z.1)] ∧ z.1 ≤ n) (fun z => n - z.1) (0, A5, 0) ⟨rfl, by show Value.int .i64 _ = .int .i64 _; simp, rfl, trivial⟩ ⟨hS1, Nat.zero_le _⟩ ?_
  rintro ⟨k, A6, c6⟩ e w2 ⟨hS2, hk⟩
  dsimp only at hS2 hk ⊢
  have hb2 : a * k ≤ 1000000 := Nat.mul_le_mul ha (show k ≤ 1000 by omega)
  refine Cd.seq ?_
  refine Cd.seq ?_
  refine Cd.region ?_
  refine Ops.mv_int rfl rfl rfl ?_
  refine Ops.gtr rfl rfl rfl ?_
  refine Ops.nil ?_
  refine thenQ_n ?_
  -- stop: cond
  refine Cd.cond_p _ rfl (fun h1 => ?_) (fun h1 => ?_)
  · refine Cd.skip ?_
    refine thenQ_n ?_
    refine Cd.seq ?_
    refine Cd.block ?_
    refine Cd.region ?_
    refine Ops.mv_sl rfl rfl rfl ?_
    refine Ops.mv_sl rfl rfl rfl ?_
    -- stop: BUILTIN append(t11, t12) -> 13
    refine Ops.appI 0 hS2 rfl (hS2.oldI hR) rfl rfl rfl (by omega) (by omega) rfl ?_
    intro A7 c7 w3 hS3
    refine Ops.mv_sl rfl rfl rfl ?_
    refine Ops.nil ?_
    refine blockQ_n ?_
    refine thenQ_n ?_
    refine Cd.region ?_
    refine Ops.mv_int rfl rfl rfl ?_
    refine Ops.sub rfl rfl rfl (by omega) ?_
    refine Ops.mv_int rfl rfl rfl ?_
    refine Ops.nil ?_
    refine thenQ_n ?_
    -- stop: round
    have e1 : a * (k + 1) = a * k + a := Nat.mul_succ a k
    refine ⟨(k + 1, A7, c7), by show n - (k + 1) < n - k; omega, ⟨rfl, by show Value.int .i64 _ = .int .i64 _; congr 1; show _ = (n : Int) - ((k + 1 : Nat) : Int); omega, by show Value.slice _ _ _ = .slice _ _ _; rw [e1], trivial⟩, ?_, by show k + 1 ≤ n; omega⟩
    show St w w3 [CkI _ A7 (a * (k + 1)) c7 (pow xs (k + 1))]
    rw [e1, pow_succ]
    exact hS3
  · refine Cd.exit ?_
    refine thenQ_x ?_
    refine thenQ_x ?_
    refine blockQ_x ?_
    refine thenQ_n ?_
    refine Cd.seq ?_
    refine Cd.region ?_
    refine Ops.mv_sl rfl rfl rfl ?_
    refine Ops.mv_sl rfl rfl rfl ?_
    refine Ops.nil ?_
    refine thenQ_n ?_
    refine Cd.ret ?_
    refine ret1_s rfl ?_
    -- stop: end
    have hkn : k = n := by omega
    subst hkn
    exact ⟨A6, c6, rfl, hS2⟩

def zigW (n : Nat) : List Int := [0] ++ pow [1, 2] n
def holeW (n : Nat) : List Int := zigW n ++ [1]
theorem zigW_len (n : Nat) : (zigW n).length = 1 + 2 * n := by simp [zigW, pow_len]; omega
theorem holeW_len (n : Nat) : (holeW n).length = 1 + 2 * n + 1 := by rw [holeW, List.length_append, zigW_len]; rfl
theorem zigW_in (n : Nat) : ∀ i ∈ zigW n, 0 ≤ i ∧ i < 3 := fun i hi => by
  simp only [zigW, pow, List.mem_append, List.mem_singleton, List.mem_flatten, List.mem_replicate] at hi
  rcases hi with rfl | ⟨l, ⟨_, rfl⟩, hi⟩
  · omega
  · simp at hi; omega
theorem holeW_in (n : Nat) : ∀ i ∈ holeW n, 0 ≤ i ∧ i < 3 := fun i hi => by
  rcases List.mem_append.1 hi with h | h
  · exact zigW_in n i h
  · simp at h; omega
theorem in_gi {ws : List Int} {a b : Int} (h : ∀ i ∈ ws, a ≤ i ∧ i < b) : ∀ k : Nat, k < ws.length → a ≤ gi ws k ∧ gi ws k < b := fun k hk => by
  rw [gi_mem hk]; exact h _ (List.getElem_mem _)

theorem zigzagWord_c (n : Nat) (w : World) (hn : n ≤ 1000) : Ret Try.prog 74 [.int .i64 (n : Int)] w (fun v w' => ∃ A' c', v = .slice A' (1 + 2 * n) c' ∧ St w w' [CkI 2 A' (1 + 2 * n) c' (zigW n)]) := by
  refine Ret.of_cd Try.func74 rfl Try.ntmps74 rfl (post1 rfl) ?_
  refine Cd.seq ?_
  refine Cd.region ?_
  refine Ops.mv_sl rfl rfl rfl ?_
  refine Ops.nil ?_
  refine thenQ_n ?_
  refine Cd.seq ?_
  refine Cd.region ?_
  -- stop: BUILDSLICE 39 1 [('pair', [0, ('app', 'Go.Operand.const', [('app', 'Go.Value.int', ['Go.IntKind.i64', 0])])])] -> 3
  refine Ops.bs1I (St.refl w) rfl rfl rfl ?_
  intro A3 w1 hS1
  refine Ops.bs2 hS1 rfl rfl rfl rfl rfl rfl ?_
  intro A4 w2 hS2
  have hS2 : St w w2 (CkI 2 A4 2 2 [1, 2] :: CkI 2 A3 1 1 [0] :: []) := hS2
  refine Ops.mv_int rfl rfl rfl ?_
  -- stop: CALL slices.Repeat[[]int64,int64](t4, t5) -> 6
  refine Ops.call (RepeatL_c A4 2 2 [1, 2] n _ (hS2.rdI 0 rfl) (by omega) hn) rfl rfl rfl ?_
  rintro _ w3 ⟨A5, rfl, hst⟩
  have hS3 := hS2.call hst
  refine Ops.appI 2 hS3 rfl (hS3.rdI 0 rfl) rfl rfl rfl (by omega) (by omega) rfl ?_
  intro A6 c6 w4 hS4
  refine Ops.mv_sl rfl rfl rfl ?_
  refine Ops.nil ?_
  refine thenQ_n ?_
  refine Cd.ret ?_
  refine ret1_s rfl ?_
  -- stop: end
  exact ⟨A6, c6, rfl, hS4.sub ((List.sublist_cons_self _ _).trans (List.sublist_cons_self _ _))⟩
end Go.Proofs.Ytpdhjnacnmfbjaa.Vc
