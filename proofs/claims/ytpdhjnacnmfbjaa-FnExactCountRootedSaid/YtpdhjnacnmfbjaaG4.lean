/-
  The walks of the reference's list of rooted forms and of its count. Conditions: as each states them.
-/
import Derived.Test.YtpdhjnacnmfbjaaG3
import Derived.Test.YtpdhjnacnmfbjaaGct
namespace Go.Proofs.Ytpdhjnacnmfbjaa.Vc
open Go.RowKit

theorem l19Rooted_c (n F : Nat) (hn : 1 ≤ n ∧ n ≤ 4) (hF : 2 ≤ F ∧ F ≤ 12) (w : World) :
    Ret Try.prog 54 [.int .i64 (n : Int), .int .i64 (F : Int)] w (fun v w' => ∃ A' c', ∃ new : List MatV, v = .slice A' new.length c' ∧ (∀ m ∈ new, m.ok) ∧ new.map (·.xss) = forms n F (F * n + 1) 0 1 (blank n F) ∧
      St w w' (CkR 32 A' new.length c' (new.map (·.top)) :: matsCk 39 2 new)) := by
  refine Ret.of_cd Try.func54 rfl Try.ntmps54 rfl (post1 rfl) ?_
  refine Cd.seq ?_
  refine Cd.region ?_
  refine Ops.mv_sl rfl rfl rfl ?_
  refine Ops.nil ?_
  refine thenQ_n ?_
  refine Cd.seq ?_
  refine Cd.region ?_
  -- stop: BUILDSLICE 25 0 [] -> 9
  refine Ops.bs0 (St.refl w) rfl ?_
  intro A1 w1 hS1
  have hS1 : St w w1 [CkR 39 A1 0 0 []] := hS1
  refine Ops.mv_sl rfl rfl rfl ?_
  refine Ops.nil ?_
  refine thenQ_n ?_
  refine Cd.seq ?_
  refine Cd.seq ?_
  refine Cd.region ?_
  refine Ops.mv_int rfl rfl rfl ?_
  refine Ops.nil ?_
  refine thenQ_n ?_
  refine Cd.block ?_
  -- stop: loop
  refine Cd.loop (α := Nat × Option Addr × Nat × List SlV) (fun s => [(0, .int .i64 (n : Int)), (1, .int .i64 (F : Int)), (5, .slice s.2.1 s.1 s.2.2.1), (6, .int .i64 (s.1 : Int))]) (fun s w' => St w w' (CkR 39 s.2.1 s.1 s.2.2.1 s.2.2.2 :: rowsCk 2 s.2.2.2 (List.replicate s.1 (List.replicate F (-1)))) ∧ s.1 ≤ n ∧ s.2.2.2.length = s.1) (fun s => n - s.1) (0, A1, 0, []) ⟨rfl, rfl, rfl, rfl, trivial⟩ ⟨hS1, Nat.zero_le _, rfl⟩ ?_
  rintro ⟨i, A5, c5, rs⟩ e w2 ⟨hS2, hi, hlen⟩
  dsimp only at hS2 hi hlen ⊢
  refine Cd.seq ?_
  refine Cd.seq ?_
  refine Cd.region ?_
  refine Ops.mv_int rfl rfl rfl ?_
  refine Ops.mv_int rfl rfl rfl ?_
  refine Ops.lss rfl rfl rfl ?_
  refine Ops.nil ?_
  refine thenQ_n ?_
  -- stop: cond
  refine Cd.cond_p _ rfl (fun h1 => ?_) (fun h1 => ?_)
  · refine Cd.skip ?_
    refine thenQ_n ?_
    refine Cd.seq ?_
    refine Cd.block ?_
    refine Cd.seq ?_
    refine Cd.region ?_
    -- stop: BUILDSLICE 39 0 [] -> 15
    refine Ops.bs0 hS2 rfl ?_
    intro A7 w3 hS3
    have hS3 : St w w3 (CkI 2 A7 0 0 (List.replicate 0 (-1)) :: CkR 39 A5 i c5 rs :: rowsCk 2 rs (List.replicate i (List.replicate F (-1)))) := hS3
    refine Ops.mv_sl rfl rfl rfl ?_
    refine Ops.nil ?_
    refine thenQ_n ?_
    refine Cd.seq ?_
    refine Cd.seq ?_
    refine Cd.region ?_
    refine Ops.mv_int rfl rfl rfl ?_
    refine Ops.nil ?_
    refine thenQ_n ?_
    refine Cd.block ?_
    -- stop: loop
    refine Cd.loop (α := Nat × Option Addr × Nat) (fun s => [(0, .int .i64 (n : Int)), (1, .int .i64 (F : Int)), (5, .slice A5 i c5), (6, .int .i64 (i : Int)), (7, .slice s.2.1 s.1 s.2.2), (8, .int .i64 (s.1 : Int))]) (fun s w' => St w w' (CkI 2 s.2.1 s.1 s.2.2 (List.replicate s.1 (-1)) :: CkR 39 A5 i c5 rs :: rowsCk 2 rs (List.replicate i (List.replicate F (-1)))) ∧ s.1 ≤ F) (fun s => F - s.1) (0, A7, 0) ⟨rfl, rfl, rfl, rfl, rfl, rfl, trivial⟩ ⟨hS3, Nat.zero_le _⟩ ?_
    rintro ⟨f, A8, c8⟩ e w4 ⟨hS4, hf⟩
    dsimp only at hS4 hf ⊢
    refine Cd.seq ?_
    refine Cd.seq ?_
    refine Cd.region ?_
    refine Ops.mv_int rfl rfl rfl ?_
    refine Ops.mv_int rfl rfl rfl ?_
    refine Ops.lss rfl rfl rfl ?_
    refine Ops.nil ?_
    refine thenQ_n ?_
    -- stop: cond
    refine Cd.cond_p _ rfl (fun h2 => ?_) (fun h2 => ?_)
    · refine Cd.skip ?_
      refine thenQ_n ?_
      refine Cd.seq ?_
      refine Cd.block ?_
      refine Cd.region ?_
      refine Ops.mv_sl rfl rfl rfl ?_
      -- stop: BUILDSLICE 39 1 [('pair', [0, ('app', 'Go.Operand.const', [('app', 'Go.Value.int', ['Go.IntKind.i64', -1])])])] -> 22
      refine Ops.bs1I hS4 rfl rfl rfl ?_
      intro A9 w5 hS5
      refine Ops.appI 1 hS5 rfl (hS5.rdI 0 rfl) rfl rfl rfl (by omega) (by omega) rfl ?_
      intro A10 c10 w6 hS6
      refine Ops.mv_sl rfl rfl rfl ?_
      refine Ops.nil ?_
      refine blockQ_n ?_
      refine thenQ_n ?_
      refine Cd.region ?_
      refine Ops.mv_int rfl rfl rfl ?_
      refine Ops.add rfl rfl rfl (by omega) ?_
      refine Ops.mv_int rfl rfl rfl ?_
      refine Ops.nil ?_
      refine thenQ_n ?_
      -- stop: round
      refine ⟨(f + 1, A10, c10), by show F - (f + 1) < F - f; omega, ⟨rfl, rfl, rfl, rfl, rfl, rfl, trivial⟩, ?_, by show f + 1 ≤ F; omega⟩
      have h7 := hS6.tail
      show St w w6 (CkI _ A10 (f + 1) c10 (List.replicate (f + 1) (-1)) :: _)
      rw [List.replicate_succ']
      exact h7
    · refine Cd.exit ?_
      refine thenQ_x ?_
      refine thenQ_x ?_
      refine blockQ_x ?_
      refine thenQ_n ?_
      refine Cd.region ?_
      refine Ops.mv_sl rfl rfl rfl ?_
      refine Ops.mv_sl rfl rfl rfl ?_
      -- stop: BUILDSLICE 25 1 [('pair', [0, ('app', 'Go.Operand.tmp', [25])])] -> 26
      have hfF : f = F := by omega
      subst hfF
      refine Ops.bs1R hS4 rfl rfl rfl ?_
      intro A9 w5 hS5
      refine Ops.appR 2 hS5 rfl (hS5.rdR 0 rfl) rfl rfl rfl (by omega) (by omega) rfl ?_
      intro A10 c10 w6 hS6
      refine Ops.mv_sl rfl rfl rfl ?_
      refine Ops.nil ?_
      refine blockQ_n ?_
      refine thenQ_n ?_
      refine Cd.region ?_
      refine Ops.mv_int rfl rfl rfl ?_
      refine Ops.add rfl rfl rfl (by omega) ?_
      refine Ops.mv_int rfl rfl rfl ?_
      refine Ops.nil ?_
      refine thenQ_n ?_
      -- stop: round
      refine ⟨(i + 1, A10, c10, rs ++ [⟨A8, f, c8⟩]), by show n - (i + 1) < n - i; omega, ⟨rfl, rfl, rfl, rfl, trivial⟩, ?_, by show i + 1 ≤ n; omega, by simp [hlen]⟩
      have h7 : St w w6 (CkI 2 A8 f c8 (List.replicate f (-1)) :: CkR 39 A10 (i + 1) c10 (rs ++ [⟨A8, f, c8⟩]) :: rowsCk 2 rs (List.replicate i (List.replicate f (-1)))) := hS6.tail
      show St w w6 (CkR _ A10 (i + 1) c10 (rs ++ [_]) :: rowsCk _ (rs ++ [_]) (List.replicate (i + 1) (List.replicate f (-1))))
      rw [List.replicate_succ', rowsCk_append (by simp [hlen])]
      refine h7.perm ?_
      refine (List.Perm.swap _ _ _).trans (List.Perm.cons _ ?_)
      exact List.perm_append_comm (l₁ := [_])
  · have hin : i = n := by omega
    subst hin
    have hI := Inv.blank (n := i) (F := F) (by omega) (by omega)
    have hfe := growS_forms (n := i) (F := F) (by omega) ⟨by omega, by omega⟩ (F * i + 1) hI (fun e he => blank_fits e he)
    have hS3 : St w w2 (CkR 32 none 0 0 [] :: (mat 39 2 A5 i c5 rs (blank i F) ++ [])) := by rw [List.append_nil]; exact hS2.nil _
    refine Cd.exit ?_
    refine thenQ_x ?_
    refine thenQ_x ?_
    refine blockQ_x ?_
    refine thenQ_n ?_
    refine Cd.seq ?_
    refine Cd.region ?_
    refine Ops.mv_sl rfl rfl rfl ?_
    refine Ops.mv_int rfl rfl rfl ?_
    -- stop: CALL spec.l19Grow(t28, t29, 1, 0) -> 30
    refine Ops.call (l19Grow_c i F (by omega) ⟨by omega, by omega⟩ (F * i + 1) 0 1 (blank i F) hI (by omega) w w2 [] none 0 0 [] A5 c5 rs hS3 (by rw [hfe]; have := forms_small hn hF (F * i + 1); omega)) rfl rfl rfl ?_
    rintro _ w3 ⟨A', c', new, rfl, hok, hx, hS4⟩
    refine Ops.mv_sl rfl rfl rfl ?_
    refine Ops.nil ?_
    refine thenQ_n ?_
    refine Cd.ret ?_
    refine ret1_s rfl ?_
    -- stop: end
    rw [hfe] at hx
    rw [Nat.zero_add, List.nil_append] at hS4
    rw [Nat.zero_add]
    exact ⟨A', c', new, rfl, hok, hx, by have := hS4.sub (List.Sublist.cons_cons _ (List.sublist_append_right _ _)); rwa [List.append_nil] at this⟩

def Small (rank flags : Int) : Prop := (1 ≤ rank ∧ rank ≤ 4) ∧ (2 ≤ flags ∧ flags ≤ 12)
instance (rank flags : Int) : Decidable (Small rank flags) := by unfold Small; exact inferInstance
theorem l19Code_c (rank flags : Int) (w : World) : Ret Try.prog 53 [.int .i64 rank, .int .i64 flags] w (fun v w' => v = .int .i64 (if Small rank flags then 0 else 2) ∧ w' = w) := by
  refine Ret.of_cd Try.func53 rfl Try.ntmps53 rfl (post1 rfl) ?_
  refine Cd.seq ?_
  refine Cd.region ?_
  refine Ops.mv_int rfl rfl rfl ?_
  refine Ops.nil ?_
  refine thenQ_n ?_
  refine Cd.seq ?_
  refine Cd.seq ?_
  refine Cd.region ?_
  refine Ops.mv_int rfl rfl rfl ?_
  -- stop: CALL spec.l01In(t5, 1, 4) -> 6
  refine Ops.call (l01In_c _ _ _ _) rfl rfl rfl ?_
  rintro _ w ⟨rfl, rfl⟩
  first | refine Ops.not_p rfl rfl ?_ | refine Ops.not rfl rfl ?_
  refine Ops.mv_bool rfl rfl rfl ?_
  -- stop: guard 8
  refine Ops.split_p 8 rfl (fun h => ?_) (fun h => ?_)
  · refine Ops.skipg rfl rfl rfl rfl rfl ?_
    refine Ops.skipg rfl rfl rfl rfl rfl ?_
    refine Ops.skipg rfl rfl rfl rfl rfl ?_
    refine Ops.pick_t rfl rfl rfl ?_
    refine Ops.nil ?_
    refine thenQ_n ?_
    -- stop: cond
    refine Cd.cond_t rfl ?_
    refine Cd.seq ?_
    refine Cd.region ?_
    refine Ops.mv_int rfl rfl rfl ?_
    refine Ops.nil ?_
    refine thenQ_n ?_
    refine Cd.ret ?_
    refine thenQ_r ?_
    refine ret1_i rfl ?_
    -- stop: end
    exact ⟨by rw [if_neg (fun hs : Small rank flags => h hs.1)], rfl⟩
  · refine Ops.rung rfl rfl rfl ?_
    refine Ops.mv_int rfl rfl rfl ?_
    refine Ops.rung rfl rfl rfl ?_
    -- stop: CALL spec.l01In(t9, 2, 12) -> 10
    refine Ops.call (l01In_c _ _ _ _) rfl rfl rfl ?_
    rintro _ w ⟨rfl, rfl⟩
    refine Ops.rung rfl rfl rfl ?_
    first | refine Ops.not_p rfl rfl ?_ | refine Ops.not rfl rfl ?_
    refine Ops.pick_f rfl rfl rfl ?_
    refine Ops.nil ?_
    refine thenQ_n ?_
    -- stop: cond
    refine Cd.cond_p _ rfl (fun h2 => ?_) (fun h2 => ?_)
    · refine Cd.seq ?_
      refine Cd.region ?_
      refine Ops.mv_int rfl rfl rfl ?_
      refine Ops.nil ?_
      refine thenQ_n ?_
      refine Cd.ret ?_
      refine thenQ_r ?_
      refine ret1_i rfl ?_
      -- stop: end
      exact ⟨by rw [if_neg (fun hs : Small rank flags => h2 hs.2)], rfl⟩
    · refine Cd.skip ?_
      refine thenQ_n ?_
      refine Cd.seq ?_
      refine Cd.region ?_
      refine Ops.mv_int rfl rfl rfl ?_
      refine Ops.nil ?_
      refine thenQ_n ?_
      refine Cd.ret ?_
      refine ret1_i rfl ?_
      -- stop: end
      exact ⟨by rw [if_pos (show Small rank flags from ⟨Classical.not_not.1 h, Classical.not_not.1 h2⟩)], rfl⟩

/-- the answer: how many, and the code -/
def cnt1 (rank flags : Int) : Int := if Small rank flags then ((forms rank.toNat flags.toNat (flags.toNat * rank.toNat + 1) 0 1 (blank rank.toNat flags.toNat)).length : Int) else 0
def cnt2 (rank flags : Int) : Int := if Small rank flags then 0 else 2
theorem specCountRooted_c (rank flags : Int) (w : World) : Ret Try.prog 15 [.int .i64 rank, .int .i64 flags] w (fun v w' => v = .tuple #[.int .i64 (cnt1 rank flags), .int .i64 (cnt2 rank flags)] ∧ St w w' []) := by
  refine Ret.of_cd Try.func15 rfl Try.ntmps15 rfl (post2 rfl) ?_
  refine Cd.seq ?_
  refine Cd.region ?_
  refine Ops.mv_int rfl rfl rfl ?_
  refine Ops.mv_int rfl rfl rfl ?_
  refine Ops.nil ?_
  refine thenQ_n ?_
  refine Cd.seq ?_
  refine Cd.seq ?_
  refine Cd.region ?_
  refine Ops.mv_int rfl rfl rfl ?_
  refine Ops.mv_int rfl rfl rfl ?_
  -- stop: CALL spec.l19Code(t7, t8) -> 9
  refine Ops.call (l19Code_c rank flags _) rfl rfl rfl ?_
  rintro _ w ⟨rfl, rfl⟩
  refine Ops.mv_int rfl rfl rfl ?_
  refine Ops.nil ?_
  refine thenQ_n ?_
  refine Cd.seq ?_
  refine Cd.region ?_
  refine Ops.mv_int rfl rfl rfl ?_
  refine Ops.neq rfl rfl rfl ?_
  refine Ops.nil ?_
  refine thenQ_n ?_
  -- stop: cond
  refine Cd.cond_p _ rfl (fun h => ?_) (fun h => ?_)
  · have hs : ¬ Small rank flags := fun hs => h (by rw [if_pos hs])
    refine Cd.seq ?_
    refine Cd.region ?_
    refine Ops.mv_int rfl rfl rfl ?_
    refine Ops.mv_int rfl rfl rfl ?_
    refine Ops.mv_int rfl rfl rfl ?_
    refine Ops.nil ?_
    refine thenQ_n ?_
    refine Cd.ret ?_
    refine thenQ_r ?_
    refine ret2_ii rfl rfl ?_
    -- stop: end
    exact ⟨by rw [cnt1, cnt2, if_neg hs, if_neg hs], St.refl _⟩
  · have hs : Small rank flags := by
      apply Classical.byContradiction
      intro hs
      exact h (by rw [if_neg hs]; decide)
    obtain ⟨n, rfl⟩ : ∃ n : Nat, rank = n := ⟨rank.toNat, by have := hs.1; omega⟩
    obtain ⟨F, rfl⟩ : ∃ F : Nat, flags = F := ⟨flags.toNat, by have := hs.2; omega⟩
    have hs1 := hs.1
    have hs2 := hs.2
    refine Cd.skip ?_
    refine thenQ_n ?_
    refine Cd.seq ?_
    refine Cd.region ?_
    refine Ops.mv_int rfl rfl rfl ?_
    refine Ops.mv_int rfl rfl rfl ?_
    -- stop: CALL spec.l19Rooted(t13, t14) -> 15
    refine Ops.call (l19Rooted_c n F (by omega) (by omega) _) rfl rfl rfl ?_
    rintro _ w2 ⟨A', c', new, rfl, hok, hx, hS⟩
    refine Ops.len rfl rfl ?_
    refine Ops.mv_int rfl rfl rfl ?_
    refine Ops.mv_int rfl rfl rfl ?_
    refine Ops.nil ?_
    refine thenQ_n ?_
    refine Cd.ret ?_
    refine ret2_ii rfl rfl ?_
    -- stop: end
    refine ⟨?_, hS.none⟩
    rw [cnt1, cnt2, if_pos hs, if_pos hs, Int.toNat_natCast, Int.toNat_natCast, ← hx, List.length_map]
end Go.Proofs.Ytpdhjnacnmfbjaa.Vc
