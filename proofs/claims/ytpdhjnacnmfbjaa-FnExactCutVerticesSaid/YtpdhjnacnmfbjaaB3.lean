/-
  The walk of the search for an orbit. Conditions: as each states them.
-/
import Derived.Test.YtpdhjnacnmfbjaaB2
import Derived.Test.YtpdhjnacnmfbjaaOrb
import Derived.Test.YtpdhjnacnmfbjaaApp
namespace Go.Proofs.Ytpdhjnacnmfbjaa.Vc
open Go.RowKit

/-- what is marked is what is found -/
def Marked (M : Nat) (S : List Bool) (out : List Int) : Prop := S.length = M ∧ ∀ x : Int, 0 ≤ x → x < M → (gb S x = true ↔ x ∈ out)
theorem Marked.init {M : Nat} {pt : Int} (h0 : 0 ≤ pt) (h1 : pt < M) : Marked M ((List.replicate M false).set pt.toNat true) [pt] := by
  refine ⟨by simp, fun x hx hx' => ?_⟩
  rw [gb_set h0 (by simpa using h1) hx]
  by_cases e : pt = x
  · simp [e]
  · rw [if_neg e]
    have : x ≠ pt := fun h => e h.symm
    simp [gb, List.getD_eq_getElem?_getD, List.getElem?_replicate, this]
    split <;> simp
theorem Marked.push {M : Nat} {S : List Bool} {out : List Int} {y : Int} (h : Marked M S out) (h0 : 0 ≤ y) (h1 : y < M) : Marked M (S.set y.toNat true) (out ++ [y]) := by
  refine ⟨by simpa using h.1, fun x hx hx' => ?_⟩
  rw [gb_set h0 (by rw [h.1]; exact h1) hx, List.mem_append]
  by_cases e : y = x
  · simp [e]
  · rw [if_neg e, h.2 x hx hx']
    have : x ≠ y := fun h => e h.symm
    simp [this]
theorem bfs_out {xss : List (List Int)} {f i : Nat} {out : List Int} (h : ¬ i < out.length) : bfs xss f i out = out := by
  cases f with
  | zero => rfl
  | succ f => simp only [bfs]; rw [if_neg h]
theorem RowsI.rowLen {w : World} {A : Option Addr} {n : Nat} {rs : List SlV} {xss : List (List Int)} (h : RowsI w A n rs xss) {k : Int} (h0 : 0 ≤ k) (h1 : k < n) : (gl xss k).length = (rg rs k).n := (h.at_ h0 h1).1
theorem gl_in {xss : List (List Int)} {k : Int} (h0 : 0 ≤ k) (h : k < xss.length) : gl xss k ∈ xss := by
  obtain ⟨j, rfl⟩ : ∃ j : Nat, k = j := ⟨k.toNat, by omega⟩
  rw [gl_mem (by omega)]; exact List.getElem_mem _

theorem l01Orbit_c (A : Option Addr) (n c : Nat) (rs : List SlV) (xss : List (List Int)) (N : Nat) (pt : Int) (w : World) (hR : RowsI w A n rs xss) (hn : n ≤ 9223372036854775807) (hs : Sys N xss) (hN : N ≤ 1000000000) (h0 : 0 ≤ pt) (h1 : pt < N) :
    Ret Try.prog 93 [.slice A n c, .int .i64 pt] w (fun v w' => ∃ A' c', v = .slice A' (orbit N xss pt).length c' ∧ St w w' [CkI 2 A' (orbit N xss pt).length c' (orbit N xss pt)]) := by
  have hrl : ∀ k : Int, 0 ≤ k → k < n → (rg rs k).n = N := fun k hk0 hk => by
    rw [← hR.rowLen hk0 hk]
    exact (hs _ (gl_in hk0 (by rw [hR.len]; exact hk))).1
  refine Ret.of_cd Try.func93 rfl Try.ntmps93 rfl (post1 rfl) ?_
  refine Cd.seq ?_
  refine Cd.region ?_
  refine Ops.mv_sl rfl rfl rfl ?_
  refine Ops.nil ?_
  refine thenQ_n ?_
  refine Cd.seq ?_
  refine Cd.region ?_
  refine Ops.mv_int rfl rfl rfl ?_
  -- stop: BUILDSLICE 39 1 [('pair', [0, ('app', 'Go.Operand.tmp', [11])])] -> 12
  refine Ops.bs1I (St.refl w) rfl rfl rfl ?_
  intro A1 w1 hS1
  refine Ops.mv_sl rfl rfl rfl ?_
  refine Ops.nil ?_
  refine thenQ_n ?_
  refine Cd.seq ?_
  refine Cd.region ?_
  refine Ops.mv_int rfl rfl rfl ?_
  refine Ops.nil ?_
  refine thenQ_n ?_
  -- stop: join
  refine Cd.join (α := Nat) (fun s => [(0, .slice A n c), (1, .int .i64 pt), (5, .slice A1 1 1), (6, .int .i64 (s : Int))]) (fun s w' => w' = w1 ∧ s ≤ N ∧ (0 < n → s = N)) ?_ ?_
  · refine Cd.seq ?_
    refine Cd.region ?_
    refine Ops.mv_sl rfl rfl rfl ?_
    refine Ops.len rfl rfl ?_
    refine Ops.gtr rfl rfl rfl ?_
    refine Ops.nil ?_
    refine thenQ_n ?_
    -- stop: cond
    refine Cd.cond_p _ rfl (fun h2 => ?_) (fun h2 => ?_)
    · refine Cd.region ?_
      refine Ops.mv_sl rfl rfl rfl ?_
      -- stop: INDEXADDR 25 t16 0 -> 17
      refine Ops.idx (hS1.oldR hR.top).2 rfl rfl rfl (by omega) (by omega) ?_
      refine Ops.ld_sl (hS1.oldR hR.top) rfl (by omega) rfl rfl ?_
      refine Ops.len rfl rfl ?_
      refine Ops.mv_int rfl rfl rfl ?_
      refine Ops.nil ?_
      refine thenQ_n ?_
      -- stop: round
      exact ⟨N, ⟨rfl, rfl, rfl, by rw [hrl 0 (by omega) (by omega)]; rfl, trivial⟩, rfl, Nat.le_refl _, fun _ => rfl⟩
    · refine Cd.skip ?_
      refine thenQ_n ?_
      -- stop: round
      exact ⟨0, ⟨rfl, rfl, rfl, rfl, trivial⟩, rfl, Nat.zero_le _, fun h => by omega⟩
  rintro s e1 w2 ⟨rfl, hsN, hs0⟩
  have hpt : n = 0 → N = N := fun _ => rfl
  refine Cd.seq ?_
  refine Cd.region ?_
  refine Ops.mv_int rfl rfl rfl ?_
  refine Ops.mv_int rfl rfl rfl ?_
  refine Ops.add rfl rfl rfl (by omega) ?_
  refine Ops.add rfl rfl rfl (by omega) ?_
  -- stop: MAKESLICE 86 t23 t23 -> 24
  refine Ops.mkB (s + pt.toNat + 1) hS1 (by show Value.int .i64 _ = Value.int .i64 _; congr 1; omega) rfl (by omega) ?_
  intro A2 w3 hS3
  refine Ops.mv_sl rfl rfl rfl ?_
  refine Ops.nil ?_
  refine thenQ_n ?_
  refine Cd.seq ?_
  refine Cd.region ?_
  refine Ops.mv_sl rfl rfl rfl ?_
  refine Ops.mv_int rfl rfl rfl ?_
  -- stop: INDEXADDR 86 t25 t26 -> 27
  refine Ops.idx (hS3.rdB 0 rfl).2 rfl rfl rfl (by omega) (by omega) ?_
  refine Ops.st_bool 0 hS3 rfl rfl rfl (by omega) ?_
  intro w4 hS4
  refine Ops.nil ?_
  refine thenQ_n ?_
  refine Cd.seq ?_
  refine Cd.seq ?_
  refine Cd.region ?_
  refine Ops.mv_int rfl rfl rfl ?_
  refine Ops.nil ?_
  refine thenQ_n ?_
  refine Cd.block ?_
  -- stop: loop
  refine Cd.loop (α := Nat × List Int × Option Addr × Nat × List Bool) (fun q => [(0, .slice A n c), (5, .slice q.2.2.1 q.2.1.length q.2.2.2.1), (7, .slice A2 (s + pt.toNat + 1) (s + pt.toNat + 1)), (8, .int .i64 (q.1 : Int))])
    (fun q w' => St w w' [CkB 4 A2 (s + pt.toNat + 1) (s + pt.toNat + 1) q.2.2.2.2, CkI 2 q.2.2.1 q.2.1.length q.2.2.2.1 q.2.1] ∧ q.1 ≤ q.2.1.length ∧ Good N xss pt q.2.1 ∧ Marked (s + pt.toNat + 1) q.2.2.2.2 q.2.1 ∧ bfs xss (N + 1 - q.1) q.1 q.2.1 = orbit N xss pt)
    (fun q => N + 1 - q.1) (0, [pt], A1, 1, (List.replicate (s + pt.toNat + 1) false).set pt.toNat true) ⟨rfl, rfl, rfl, rfl, trivial⟩ ⟨hS4, Nat.zero_le _, good_one h0 h1, Marked.init h0 (by omega), rfl⟩ ?_
  rintro ⟨i, out, Ao, co, S⟩ e2 w5 ⟨hS5, hi, hg, hm, hb⟩
  dsimp only at hS5 hi hg hm hb ⊢
  have hlen := hg.len
  refine Cd.seq ?_
  refine Cd.seq ?_
  refine Cd.region ?_
  refine Ops.mv_int rfl rfl rfl ?_
  refine Ops.mv_sl rfl rfl rfl ?_
  refine Ops.len rfl rfl ?_
  refine Ops.lss rfl rfl rfl ?_
  refine Ops.nil ?_
  refine thenQ_n ?_
  -- stop: cond
  refine Cd.cond_p _ rfl (fun h2 => ?_) (fun h2 => ?_)
  · refine Cd.skip ?_
    refine thenQ_n ?_
    refine Cd.seq ?_
    refine Cd.block ?_
    refine Cd.seq ?_
    refine Cd.region ?_
    refine Ops.mv_int rfl rfl rfl ?_
    refine Ops.nil ?_
    refine thenQ_n ?_
    refine Cd.block ?_
    -- stop: loop
    refine Cd.loop (α := Nat × List Int × Option Addr × Nat × List Bool) (fun q => [(0, .slice A n c), (5, .slice q.2.2.1 q.2.1.length q.2.2.2.1), (7, .slice A2 (s + pt.toNat + 1) (s + pt.toNat + 1)), (8, .int .i64 (i : Int)), (9, .int .i64 (q.1 : Int))])
      (fun q w' => St w w' [CkB 4 A2 (s + pt.toNat + 1) (s + pt.toNat + 1) q.2.2.2.2, CkI 2 q.2.2.1 q.2.1.length q.2.2.2.1 q.2.1] ∧ q.1 ≤ n ∧ Good N xss pt q.2.1 ∧ Marked (s + pt.toNat + 1) q.2.2.2.2 q.2.1 ∧ out <+: q.2.1 ∧ (xss.drop q.1).foldl (fun o p => push1 o (gi p (gi out i))) q.2.1 = expand xss (gi out i) out)
      (fun q => n - q.1) (0, out, Ao, co, S) ⟨rfl, rfl, rfl, rfl, rfl, trivial⟩ ⟨hS5, Nat.zero_le _, hg, hm, List.prefix_rfl, rfl⟩ ?_
    rintro ⟨k, out', Ao', co', S'⟩ e3 w6 ⟨hS6, hk, hg', hm', hp', hf⟩
    dsimp only at hS6 hk hg' hm' hp' hf ⊢
    have hlen' := hg'.len
    refine Cd.seq ?_
    refine Cd.seq ?_
    refine Cd.region ?_
    refine Ops.mv_int rfl rfl rfl ?_
    refine Ops.mv_sl rfl rfl rfl ?_
    refine Ops.len rfl rfl ?_
    refine Ops.lss rfl rfl rfl ?_
    refine Ops.nil ?_
    refine thenQ_n ?_
    -- stop: cond
    refine Cd.cond_p _ rfl (fun h3 => ?_) (fun h3 => ?_)
    · have hio : i < out'.length := by have := hp'.length_le; omega
      have hgi : gi out' i = gi out i := gi_prefix hp' (by omega)
      have hxi := hg.range _ (gi_in (i := i) (by omega))
      have hmem : gl xss k ∈ xss := gl_in (by omega) (by rw [hR.len]; omega)
      have hy := (hs _ hmem).2 (gi out i) hxi.1 hxi.2
      have hrk := hrl k (by omega) (by omega)
      have hsN : s = N := hs0 (by omega)
      have hT := (hS6.oldRows hR)
      have hO := hS6.rdI 1 rfl
      have hrow := hT.at_ (i := k) (by omega) (by omega)
      refine Cd.skip ?_
      refine thenQ_n ?_
      refine Cd.seq ?_
      refine Cd.block ?_
      refine Cd.seq ?_
      -- stop: draw
      refine Cd.draw [.ex (.slice (A) (n) (c)), .ex (.int .i64 ((k : Int))), .ex (.pointer (ptrAt (A) ((k : Int)).toNat)), .ex (.slice ((rg (rs) ((k : Int))).a) ((rg (rs) ((k : Int))).n) ((rg (rs) ((k : Int))).c)), .ex (.slice (Ao') (out'.length) (co')), .ex (.int .i64 ((i : Int))), .ex (.pointer (ptrAt (Ao') ((i : Int)).toNat)), .ex (.int .i64 (gi (out') ((i : Int)))), .ex (.pointer (ptrAt ((rg (rs) ((k : Int))).a) (gi (out') ((i : Int))).toNat)), .ex (.int .i64 (gi (gl xss k) (gi (out') ((i : Int))))), .ex (.int .i64 (gi (gl xss k) (gi (out') ((i : Int)))))] (by kernel_rfl) (by kernel_rfl) rfl (List.forall_mem_cons.2 ⟨Yd.lasts_ex _, (List.forall_mem_cons.2 ⟨Yd.lasts_ex _, (List.forall_mem_cons.2 ⟨Yd.lasts_ex _, (List.forall_mem_cons.2 ⟨Yd.lasts_ex _, (List.forall_mem_cons.2 ⟨Yd.lasts_ex _, (List.forall_mem_cons.2 ⟨Yd.lasts_ex _, (List.forall_mem_cons.2 ⟨Yd.lasts_ex _, (List.forall_mem_cons.2 ⟨Yd.lasts_ex _, (List.forall_mem_cons.2 ⟨Yd.lasts_ex _, (List.forall_mem_cons.2 ⟨Yd.lasts_ex _, (List.forall_mem_cons.2 ⟨Yd.lasts_ex _, (fun _ h => by cases h)⟩)⟩)⟩)⟩)⟩)⟩)⟩)⟩)⟩)⟩)⟩) ⟨?_, ?_, ?_, ?_, ?_, ?_, ?_, ?_, ?_, ?_, ?_, trivial⟩ ?_
      · intro e1 w1 hb hp hun
        refine Ops.mv_sl rfl rfl rfl ?_
        refine Ops.nil ?_
        exact After.dn (Below.refl _ _) (by exact rfl)
      · intro e1 w1 hb hp hun
        refine Ops.mv_int rfl rfl rfl ?_
        refine Ops.nil ?_
        exact After.dn (Below.refl _ _) (by exact rfl)
      · intro e1 w1 hb hp hun
        refine Ops.idx (hT.top.later hb).2 rfl rfl rfl (by omega) (by omega) ?_
        refine Ops.nil ?_
        exact After.dn (Below.refl _ _) (by exact rfl)
      · intro e1 w1 hb hp hun
        refine Ops.ld_sl (hT.top.later hb) rfl (by omega) rfl rfl ?_
        refine Ops.nil ?_
        exact After.dn (Below.refl _ _) (by exact rfl)
      · intro e1 w1 hb hp hun
        refine Ops.mv_sl rfl rfl rfl ?_
        refine Ops.nil ?_
        exact After.dn (Below.refl _ _) (by exact rfl)
      · intro e1 w1 hb hp hun
        refine Ops.mv_int rfl rfl rfl ?_
        refine Ops.nil ?_
        exact After.dn (Below.refl _ _) (by exact rfl)
      · intro e1 w1 hb hp hun
        refine Ops.idx (hO.later hb).2 rfl rfl rfl (by omega) (by omega) ?_
        refine Ops.nil ?_
        exact After.dn (Below.refl _ _) (by exact rfl)
      · intro e1 w1 hb hp hun
        refine Ops.ld_int (hO.later hb) rfl (by omega) rfl rfl ?_
        refine Ops.nil ?_
        exact After.dn (Below.refl _ _) (by exact rfl)
      · intro e1 w1 hb hp hun
        refine Ops.idx (hrow.later hb).2 rfl rfl rfl (by rw [hgi]; omega) (by rw [hgi, hrk]; omega) ?_
        refine Ops.nil ?_
        exact After.dn (Below.refl _ _) (by exact rfl)
      · intro e1 w1 hb hp hun
        refine Ops.ld_int (hrow.later hb) rfl (by omega) rfl rfl ?_
        refine Ops.nil ?_
        exact After.dn (Below.refl _ _) (by exact rfl)
      · intro e1 w1 hb hp hun
        refine Ops.mv_int rfl rfl rfl ?_
        refine Ops.nil ?_
        exact After.dn (Below.refl _ _) (by exact rfl)
      intro u w7 hb7 _
      have hS7 := hS6.later hb7
      rw [hgi]
      have hfold : (xss.drop (k + 1)).foldl (fun o p => push1 o (gi p (gi out i))) (push1 out' (gi (gl xss k) (gi out i))) = expand xss (gi out i) out := by
        rw [← hf, List.drop_eq_getElem_cons (show k < xss.length by rw [hR.len]; omega), List.foldl_cons, gl_mem (by rw [hR.len]; omega)]
      refine thenQ_n ?_
      refine Cd.seq ?_
      refine Cd.region ?_
      refine Ops.mv_sl rfl rfl rfl ?_
      refine Ops.mv_int rfl rfl rfl ?_
      -- stop: INDEXADDR 86 t50 t51 -> 52
      refine Ops.idx (hS7.rdB 0 rfl).2 rfl rfl rfl (by omega) (by omega) ?_
      refine Ops.ld_bool (hS7.rdB 0 rfl) rfl (by omega) rfl rfl ?_
      first | refine Ops.not_p rfl rfl ?_ | refine Ops.not rfl rfl ?_
      refine Ops.nil ?_
      refine thenQ_n ?_
      -- stop: cond
      refine Cd.cond rfl (fun h4 => ?_) (fun h4 => ?_)
      · have hnin : ¬ gi (gl xss k) (gi out i) ∈ out' := fun hin => by
          have := (hm'.2 _ hy.1 (by omega)).2 hin
          rw [this] at h4; cases h4
        have hpush : push1 out' (gi (gl xss k) (gi out i)) = out' ++ [gi (gl xss k) (gi out i)] := by unfold push1; rw [if_neg hnin]
        have hg7 := hg'.push hs (hp'.subset (gi_in (i := i) (by omega))) hmem
        have hp7 := hp'.trans (push1_prefix out' (gi (gl xss k) (gi out i)))
        rw [hpush] at hfold hg7 hp7
        have hlen7 := hg7.len
        simp only [List.length_append, List.length_singleton] at hlen7
        refine Cd.seq ?_
        refine Cd.region ?_
        refine Ops.mv_sl rfl rfl rfl ?_
        refine Ops.mv_int rfl rfl rfl ?_
        -- stop: INDEXADDR 86 t55 t56 -> 57
        refine Ops.idx (hS7.rdB 0 rfl).2 rfl rfl rfl (by omega) (by omega) ?_
        refine Ops.st_bool 0 hS7 rfl rfl rfl (by omega) ?_
        intro w8 hS8
        refine Ops.nil ?_
        refine thenQ_n ?_
        refine Cd.region ?_
        refine Ops.mv_sl rfl rfl rfl ?_
        refine Ops.mv_int rfl rfl rfl ?_
        -- stop: BUILDSLICE 39 1 [('pair', [0, ('app', 'Go.Operand.tmp', [59])])] -> 60
        refine Ops.bs1I hS8 rfl rfl rfl ?_
        intro A3 w9 hS9
        refine Ops.appI 2 hS9 rfl (hS9.rdI 0 rfl) rfl rfl rfl (by omega) (by omega) rfl ?_
        intro A4 c4 w10 hS10
        refine Ops.mv_sl rfl rfl rfl ?_
        refine Ops.nil ?_
        refine blockQ_n ?_
        refine thenQ_n ?_
        refine Cd.region ?_
        refine Ops.mv_int rfl rfl rfl ?_
        refine Ops.add rfl rfl rfl (by omega) ?_
        refine Ops.mv_int rfl rfl rfl ?_
        refine Ops.nil ?_
        refine thenQ_n ?_
        -- stop: round
        refine ⟨(k + 1, out' ++ [gi (gl xss k) (gi out i)], A4, c4, S'.set (gi (gl xss k) (gi out i)).toNat true), by show n - (k + 1) < n - k; omega, ⟨rfl, by rw [List.length_append]; rfl, rfl, rfl, rfl, trivial⟩, ?_, by show k + 1 ≤ n; omega, hg7, hm'.push hy.1 (by omega), hp7, hfold⟩
        have h11 := hS10.tail
        simp only [List.length_append, List.length_singleton]
        exact h11
      · have hin : gi (gl xss k) (gi out i) ∈ out' := (hm'.2 _ hy.1 (by omega)).1 (by simpa using h4)
        have hpush : push1 out' (gi (gl xss k) (gi out i)) = out' := by unfold push1; rw [if_pos hin]
        rw [hpush] at hfold
        refine Cd.skip ?_
        refine blockQ_n ?_
        refine thenQ_n ?_
        refine Cd.region ?_
        refine Ops.mv_int rfl rfl rfl ?_
        refine Ops.add rfl rfl rfl (by omega) ?_
        refine Ops.mv_int rfl rfl rfl ?_
        refine Ops.nil ?_
        refine thenQ_n ?_
        -- stop: round
        exact ⟨(k + 1, out', Ao', co', S'), by show n - (k + 1) < n - k; omega, ⟨rfl, rfl, rfl, rfl, rfl, trivial⟩, hS7, by show k + 1 ≤ n; omega, hg', hm', hp', hfold⟩
    · refine Cd.exit ?_
      refine thenQ_x ?_
      refine thenQ_x ?_
      refine blockQ_x ?_
      refine blockQ_n ?_
      refine thenQ_n ?_
      refine Cd.region ?_
      refine Ops.mv_int rfl rfl rfl ?_
      refine Ops.add rfl rfl rfl (by omega) ?_
      refine Ops.mv_int rfl rfl rfl ?_
      refine Ops.nil ?_
      refine thenQ_n ?_
      -- stop: round
      have hk' : k = n := by omega
      rw [hk', ← hR.len, List.drop_length, List.foldl_nil] at hf
      refine ⟨(i + 1, out', Ao', co', S'), by show N + 1 - (i + 1) < N + 1 - i; omega, ⟨rfl, rfl, rfl, rfl, trivial⟩, hS6, ?_, hg', hm', ?_⟩
      · have := hp'.length_le; show i + 1 ≤ out'.length; omega
      · show bfs xss (N + 1 - (i + 1)) (i + 1) out' = orbit N xss pt
        rw [← hb, hf]
        have e : N + 1 - i = (N + 1 - (i + 1)) + 1 := by omega
        rw [e]
        simp only [bfs]
        rw [if_pos (by omega)]
  · refine Cd.exit ?_
    refine thenQ_x ?_
    refine thenQ_x ?_
    refine blockQ_x ?_
    refine thenQ_n ?_
    refine Cd.seq ?_
    refine Cd.region ?_
    refine Ops.mv_sl rfl rfl rfl ?_
    refine Ops.mv_sl rfl rfl rfl ?_
    refine Ops.nil ?_
    refine thenQ_n ?_
    refine Cd.ret ?_
    refine ret1_s rfl ?_
    -- stop: end
    rw [bfs_out (by omega)] at hb
    exact ⟨Ao, co, by rw [hb], by rw [← hb]; exact hS5.tail⟩
end Go.Proofs.Ytpdhjnacnmfbjaa.Vc
