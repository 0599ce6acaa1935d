/-
  The walk of the labels of orbits. Conditions: as each states them.
-/
import Derived.Test.YtpdhjnacnmfbjaaB3
import Derived.Test.YtpdhjnacnmfbjaaRep
import Derived.Test.YtpdhjnacnmfbjaaLab
namespace Go.Proofs.Ytpdhjnacnmfbjaa.Vc
open Go.RowKit

theorem St.shrink {w0 w : World} {ks : List Ck} {k : Ck} (h : St w0 w ks) (i : Nat) (hk : ks[i]? = some k) (m : Nat) (hm : m ≤ k.n) : St w0 w (ks.set i { k with n := m, vs := k.vs.take m }) := by
  have hilt := (List.getElem?_eq_some_iff.1 hk).1
  refine ⟨h.below, fun x hx => ?_, ?_⟩
  · obtain ⟨j, hj, rfl⟩ := List.mem_iff_getElem.1 hx
    have hj' : j < ks.length := by simpa using hj
    rw [List.getElem_set]
    split
    · obtain ⟨h1, h2, h3, h4⟩ := h.get hk
      refine ⟨by simp; omega, by show m ≤ k.c; omega, h3, ?_⟩
      rcases h4 with h4 | ⟨g, o, cur, hA, hg, hh, hs, hc⟩
      · exact .inl h4
      · refine .inr ⟨g, o, cur, hA, hg, hh, hs, fun j hj => ?_⟩
        have hj : j < m := hj
        show _ = (k.vs.take m)[j]?
        rw [hc j (by omega), List.getElem?_take, if_pos hj]
    · exact h.own _ (List.getElem_mem _)
  · rw [filterMap_set Ck.blk ks i k { k with n := m, vs := k.vs.take m } hk rfl]
    exact h.apart
theorem St.shrinkI {w0 w : World} {ks : List Ck} {t : TypeId} {A : Option Addr} {n c : Nat} {xs : List Int} (h : St w0 w ks) (i : Nat) (hk : ks[i]? = some (CkI t A n c xs)) (m : Nat) (hm : m ≤ n) : St w0 w (ks.set i (CkI t A m c (xs.take m))) := by
  have := h.shrink i hk m hm
  simpa [CkI] using this

theorem concat_cases (op : List Int) (h : 0 < op.length) : ∃ o x, op = o ++ [x] := ⟨op.dropLast, op.getLast (by intro e; simp [e] at h), (List.dropLast_concat_getLast _).symm⟩

theorem orbitLabels_c (A : Option Addr) (n c : Nat) (rs : List SlV) (xss : List (List Int)) (N : Nat) (w : World) (hR : RowsI w A n rs xss) (hn : n ≤ 9223372036854775807) (hs : Sys N xss) (hinj : Inj N xss) (hN : N ≤ 1048576) :
    Ret Try.prog 97 [.int .i64 (N : Int), .slice A n c] w (fun v w' => ∃ A', v = .tuple #[.slice A' N N, .int .i64 (lab N xss N).2] ∧ St w w' [CkI 2 A' N N (lab N xss N).1]) := by
  have hrl : ∀ k : Int, 0 ≤ k → k < n → (rg rs k).n = N := fun k hk0 hk => by
    rw [← hR.rowLen hk0 hk]
    exact (hs _ (gl_in hk0 (by rw [hR.len]; exact hk))).1
  refine Ret.of_cd Try.func97 rfl Try.ntmps97 rfl (post2 rfl) ?_
  refine Cd.seq ?_
  refine Cd.region ?_
  refine Ops.mv_sl rfl rfl rfl ?_
  refine Ops.mv_int rfl rfl rfl ?_
  refine Ops.nil ?_
  refine thenQ_n ?_
  refine Cd.seq ?_
  refine Cd.region ?_
  -- stop: BUILDSLICE 39 1 [('pair', [0, ('app', 'Go.Operand.const', [('app', 'Go.Value.int', ['Go.IntKind.i64', -1])])])] -> 14
  refine Ops.bs1I (St.refl w) rfl rfl rfl ?_
  intro A1 w1 hS1
  refine Ops.mv_int rfl rfl rfl ?_
  -- stop: CALL slices.Repeat[[]int64,int64](t14, t15) -> 16
  refine Ops.call (Repeat_c A1 1 (-1) N w1 (hS1.rdI 0 rfl) hN) rfl rfl rfl ?_
  rintro _ w2 ⟨A6, rfl, hS2⟩
  have hS2 := (hS1.call2 hS2).tail
  refine Ops.mv_sl rfl rfl rfl ?_
  refine Ops.nil ?_
  refine thenQ_n ?_
  refine Cd.seq ?_
  refine Cd.region ?_
  refine Ops.mv_int rfl rfl rfl ?_
  refine Ops.nil ?_
  refine thenQ_n ?_
  refine Cd.seq ?_
  refine Cd.seq ?_
  refine Cd.region ?_
  refine Ops.mv_int rfl rfl rfl ?_
  refine Ops.mv_int rfl rfl rfl ?_
  refine Ops.nil ?_
  refine thenQ_n ?_
  refine Cd.block ?_
  -- stop: loop
  refine Cd.loop (α := Nat) (fun i => [(1, .slice A n c), (6, .slice A6 N N), (7, .int .i64 (lab N xss i).2), (17, .int .i64 (N : Int)), (18, .int .i64 (i : Int))]) (fun i w' => St w w' [CkI 2 A6 N N (lab N xss i).1] ∧ i ≤ N) (fun i => N - i) 0 ⟨rfl, rfl, rfl, rfl, rfl, trivial⟩ ⟨hS2, Nat.zero_le _⟩ ?_
  rintro i e w3 ⟨hS3, hi⟩
  have hcnt := lab_count N xss i
  refine Cd.seq ?_
  refine Cd.region ?_
  refine Ops.lss rfl rfl rfl ?_
  refine Ops.nil ?_
  refine thenQ_n ?_
  refine Cd.seq ?_
  -- stop: cond
  refine Cd.cond_p _ rfl (fun h1 => ?_) (fun h1 => ?_)
  · refine Cd.skip ?_
    refine thenQ_n ?_
    refine Cd.seq ?_
    refine Cd.block ?_
    refine Cd.seq ?_
    refine Cd.region ?_
    refine Ops.mv_int rfl rfl rfl ?_
    refine Ops.mv_int rfl rfl rfl ?_
    refine Ops.nil ?_
    refine thenQ_n ?_
    refine Cd.seq ?_
    refine Cd.seq ?_
    refine Cd.region ?_
    refine Ops.mv_sl rfl rfl rfl ?_
    refine Ops.mv_int rfl rfl rfl ?_
    -- stop: INDEXADDR 39 t21 t22 -> 23
    refine Ops.idx (hS3.rdI 0 rfl).2 rfl rfl rfl (by omega) (by omega) ?_
    refine Ops.ld_int (hS3.rdI 0 rfl) rfl (by omega) rfl rfl ?_
    refine Ops.geq rfl rfl rfl ?_
    refine Ops.nil ?_
    refine thenQ_n ?_
    -- stop: cond
    refine Cd.cond_p _ rfl (fun h2 => ?_) (fun h2 => ?_)
    · refine Cd.exit ?_
      refine thenQ_x ?_
      refine blockQ_x ?_
      refine thenQ_n ?_
      refine Cd.region ?_
      refine Ops.add rfl rfl rfl (by omega) ?_
      refine Ops.mv_int rfl rfl rfl ?_
      refine Ops.nil ?_
      refine thenQ_n ?_
      -- stop: round
      exact ⟨i + 1, by omega, ⟨rfl, rfl, by rw [lab_pos h2]; rfl, rfl, rfl, trivial⟩, by rw [lab_pos h2]; exact hS3, by omega⟩
    · refine Cd.skip ?_
      refine thenQ_n ?_
      refine Cd.seq ?_
      refine Cd.region ?_
      refine Ops.mv_sl rfl rfl rfl ?_
      refine Ops.mv_int rfl rfl rfl ?_
      refine Ops.mv_int rfl rfl rfl ?_
      -- stop: INDEXADDR 39 t26 t27 -> 29
      refine Ops.idx (hS3.rdI 0 rfl).2 rfl rfl rfl (by omega) (by omega) ?_
      refine Ops.st_int 0 hS3 rfl rfl rfl (by omega) ?_
      intro w4 hS4
      refine Ops.nil ?_
      refine thenQ_n ?_
      refine Cd.seq ?_
      refine Cd.seq ?_
      refine Cd.region ?_
      refine Ops.mv_int rfl rfl rfl ?_
      -- stop: BUILDSLICE 39 1 [('pair', [0, ('app', 'Go.Operand.tmp', [30])])] -> 31
      refine Ops.bs1I hS4 rfl rfl rfl ?_
      intro A9 w5 hS5
      refine Ops.mv_sl rfl rfl rfl ?_
      refine Ops.nil ?_
      refine thenQ_n ?_
      refine Cd.block ?_
      -- stop: loop
      have hun : unl (lab N xss i).1 ≤ N := by
        have := List.countP_le_length (p := fun x : Int => decide (x < 0)) (l := (lab N xss i).1)
        rw [lab_length] at this; exact this
      have hun1 := unl_set (L := (lab N xss i).1) (x := i) (c := (lab N xss i).2) (by omega) (by rw [lab_length]; omega) (by omega) hcnt.1
      refine Cd.loop (α := List Int × List Int × Option Addr × Nat) (fun q => [(1, .slice A n c), (6, .slice A6 N N), (7, .int .i64 (lab N xss i).2), (9, .slice q.2.2.1 q.2.1.length q.2.2.2), (17, .int .i64 (N : Int)), (18, .int .i64 (i : Int))])
        (fun q w' => St w w' [CkI 2 q.2.2.1 q.2.1.length q.2.2.2 q.2.1, CkI 2 A6 N N q.1] ∧ Dfs N xss i (lab N xss i).2 (lab N xss i).1 q.1 q.2.1 (-1) 0 ∧ unl q.1 + q.2.1.length ≤ N) (fun q => unl q.1 + q.2.1.length)
        ((lab N xss i).1.set (i : Int).toNat (lab N xss i).2, [(i : Int)], A9, 1) ⟨rfl, rfl, rfl, rfl, rfl, rfl, trivial⟩ ⟨hS5, Dfs.init (lab_length N xss i) (by omega) (by omega) (by omega) hcnt.1, by show unl ((lab N xss i).1.set (i : Int).toNat (lab N xss i).2) + 1 ≤ N; omega⟩ ?_
      rintro ⟨L, op, A9, c9⟩ e2 w6 ⟨hS6, hD, hu⟩
      dsimp only at hS6 hD hu ⊢
      refine Cd.seq ?_
      refine Cd.seq ?_
      refine Cd.region ?_
      refine Ops.mv_sl rfl rfl rfl ?_
      refine Ops.len rfl rfl ?_
      refine Ops.gtr rfl rfl rfl ?_
      refine Ops.nil ?_
      refine thenQ_n ?_
      -- stop: cond
      refine Cd.cond_p _ rfl (fun h3 => ?_) (fun h3 => ?_)
      · obtain ⟨o, x, rfl⟩ := concat_cases op (by omega)
        have hol : (o ++ [x]).length = o.length + 1 := by simp
        have hx : gi (o ++ [x]) (((o ++ [x]).length : Int) - 1) = x := by
          rw [show (((o ++ [x]).length : Nat) : Int) - 1 = ((o.length : Nat) : Int) by omega, gi_mem (by omega)]
          simp
        have hxo := hD.opn x (by simp)
        refine Cd.skip ?_
        refine thenQ_n ?_
        refine Cd.block ?_
        refine Cd.seq ?_
        refine Cd.region ?_
        refine Ops.mv_sl rfl rfl rfl ?_
        refine Ops.mv_sl rfl rfl rfl ?_
        refine Ops.len rfl rfl ?_
        refine Ops.sub rfl rfl rfl (by omega) ?_
        -- stop: INDEXADDR 39 t35 t38 -> 39
        refine Ops.idx (hS6.rdI 0 rfl).2 rfl rfl rfl (by omega) (by omega) ?_
        refine Ops.ld_int (hS6.rdI 0 rfl) rfl (by omega) rfl rfl ?_
        rw [hx]
        refine Ops.mv_int rfl rfl rfl ?_
        refine Ops.nil ?_
        refine thenQ_n ?_
        refine Cd.seq ?_
        refine Cd.region ?_
        refine Ops.mv_sl rfl rfl rfl ?_
        refine Ops.mv_sl rfl rfl rfl ?_
        refine Ops.len rfl rfl ?_
        refine Ops.sub rfl rfl rfl (by omega) ?_
        -- stop: SLICE 39 t41 none some t44 none -> 45
        refine Ops.cut_h rfl rfl rfl (by have := (hS6.cap 0 rfl).1; dsimp only at this; omega) ?_
        have hS7 := hS6.shrinkI 0 rfl o.length (by omega)
        rw [List.take_left] at hS7
        rw [show (((o ++ [x]).length : Nat) : Int) - 1 = ((o.length : Nat) : Int) by omega, Int.toNat_natCast]
        refine Ops.mv_sl rfl rfl rfl ?_
        refine Ops.nil ?_
        refine thenQ_n ?_
        refine Cd.seq ?_
        refine Cd.region ?_
        refine Ops.mv_sl rfl rfl rfl ?_
        refine Ops.len rfl rfl ?_
        refine Ops.mv_int rfl rfl rfl ?_
        refine Ops.nil ?_
        refine thenQ_n ?_
        refine Cd.block ?_
        -- stop: loop
        refine Cd.loop (α := Nat × List Int × List Int × Option Addr × Nat) (fun q => [(1, .slice A n c), (6, .slice A6 N N), (7, .int .i64 (lab N xss i).2), (9, .slice q.2.2.2.1 q.2.2.1.length q.2.2.2.2), (10, .int .i64 x), (17, .int .i64 (N : Int)), (18, .int .i64 (i : Int)), (46, .slice A n c), (47, .int .i64 (n : Int)), (48, .int .i64 (q.1 : Int))])
          (fun q w' => St w w' [CkI 2 q.2.2.2.1 q.2.2.1.length q.2.2.2.2 q.2.2.1, CkI 2 A6 N N q.2.1] ∧ Dfs N xss i (lab N xss i).2 (lab N xss i).1 q.2.1 q.2.2.1 x q.1 ∧ q.1 ≤ n ∧ gi q.2.1 x = (lab N xss i).2 ∧ unl q.2.1 + q.2.2.1.length = unl L + o.length) (fun q => n - q.1)
          (0, L, o, A9, c9) ⟨rfl, rfl, rfl, rfl, rfl, rfl, rfl, rfl, rfl, rfl, trivial⟩ ⟨hS7, hD.pop0, Nat.zero_le _, hxo.2.2.2, rfl⟩ ?_
        rintro ⟨k, L', o', A', c'⟩ e3 w8 ⟨hS8, hD8, hk, hxc, hu8⟩
        dsimp only at hS8 hD8 hk hxc hu8 ⊢
        refine Cd.seq ?_
        refine Cd.region ?_
        refine Ops.lss rfl rfl rfl ?_
        refine Ops.nil ?_
        refine thenQ_n ?_
        refine Cd.seq ?_
        -- stop: cond
        refine Cd.cond_p _ rfl (fun h4 => ?_) (fun h4 => ?_)
        · have hM := hS8.oldRows hR
          have hrow := hM.at_ (i := k) (by omega) h4
          have hrk := hrl k (by omega) h4
          have hmem : gl xss k ∈ xss := gl_in (by omega) (by rw [hR.len]; exact h4)
          have hy := (hs _ hmem).2 x hxo.1 hxo.2.1
          refine Cd.skip ?_
          refine thenQ_n ?_
          refine Cd.seq ?_
          refine Cd.block ?_
          refine Cd.seq ?_
          refine Cd.region ?_
          -- stop: INDEXADDR 25 t46 t48 -> 50
          refine Ops.idx hM.top.2 rfl rfl rfl (by omega) h4 ?_
          refine Ops.ld_sl hM.top rfl (by omega) rfl rfl ?_
          refine Ops.mv_sl rfl rfl rfl ?_
          refine Ops.nil ?_
          refine thenQ_n ?_
          refine Cd.seq ?_
          refine Cd.region ?_
          refine Ops.mv_sl rfl rfl rfl ?_
          refine Ops.mv_int rfl rfl rfl ?_
          -- stop: INDEXADDR 39 t52 t53 -> 54
          refine Ops.idx hrow.2 rfl rfl rfl (by omega) (by omega) ?_
          refine Ops.ld_int hrow rfl (by omega) rfl rfl ?_
          refine Ops.mv_int rfl rfl rfl ?_
          refine Ops.nil ?_
          refine thenQ_n ?_
          refine Cd.seq ?_
          refine Cd.region ?_
          refine Ops.mv_sl rfl rfl rfl ?_
          refine Ops.mv_int rfl rfl rfl ?_
          -- stop: INDEXADDR 39 t56 t57 -> 58
          refine Ops.idx (hS8.rdI 1 rfl).2 rfl rfl rfl (by omega) (by omega) ?_
          refine Ops.ld_int (hS8.rdI 1 rfl) rfl (by omega) rfl rfl ?_
          refine Ops.lss rfl rfl rfl ?_
          refine Ops.nil ?_
          refine thenQ_n ?_
          -- stop: cond
          refine Cd.cond_p _ rfl (fun h5 => ?_) (fun h5 => ?_)
          · refine Cd.seq ?_
            refine Cd.region ?_
            refine Ops.mv_sl rfl rfl rfl ?_
            refine Ops.mv_int rfl rfl rfl ?_
            refine Ops.mv_int rfl rfl rfl ?_
            -- stop: INDEXADDR 39 t61 t62 -> 64
            refine Ops.idx (hS8.rdI 1 rfl).2 rfl rfl rfl (by omega) (by omega) ?_
            refine Ops.st_int 1 hS8 rfl rfl rfl (by omega) ?_
            intro w9 hS9
            refine Ops.nil ?_
            refine thenQ_n ?_
            refine Cd.region ?_
            refine Ops.mv_sl rfl rfl rfl ?_
            refine Ops.mv_int rfl rfl rfl ?_
            -- stop: BUILDSLICE 39 1 [('pair', [0, ('app', 'Go.Operand.tmp', [66])])] -> 67
            refine Ops.bs1I hS9 rfl rfl rfl ?_
            intro A10 w10 hS10
            refine Ops.appI 1 hS10 rfl (hS10.rdI 0 rfl) rfl rfl rfl (by omega) (by omega) rfl ?_
            intro A11 c11 w11 hS11
            refine Ops.mv_sl rfl rfl rfl ?_
            refine Ops.nil ?_
            refine blockQ_n ?_
            refine thenQ_n ?_
            refine Cd.region ?_
            refine Ops.add rfl rfl rfl (by omega) ?_
            refine Ops.mv_int rfl rfl rfl ?_
            refine Ops.nil ?_
            refine thenQ_n ?_
            -- stop: round
            have hu9 := unl_set (L := L') (x := gi (gl xss k) x) (c := (lab N xss i).2) hy.1 (by rw [hD8.len]; exact hy.2) h5 hcnt.1
            refine ⟨(k + 1, L'.set (gi (gl xss k) x).toNat (lab N xss i).2, o' ++ [gi (gl xss k) x], A11, c11), by show n - (k + 1) < n - k; omega, ⟨rfl, rfl, rfl, by rw [List.length_append]; rfl, rfl, rfl, rfl, rfl, rfl, rfl, trivial⟩, ?_, hD8.push hs (by omega) (by rw [hR.len]; omega) hxo.1 hxo.2.1 hxo.2.2.1 hxc hcnt.1 h5, by show k + 1 ≤ n; omega, ?_, ?_⟩
            · have h11 := hS11.tail
              simp only [List.length_append, List.length_singleton]
              exact h11
            · show gi (L'.set _ _) x = _
              rw [gi_set hy.1 (by rw [hD8.len]; exact hy.2) hxo.1]
              split
              · rfl
              · exact hxc
            · show unl (L'.set _ _) + (o' ++ [_]).length = _
              simp only [List.length_append, List.length_singleton]
              omega
          · refine Cd.skip ?_
            refine blockQ_n ?_
            refine thenQ_n ?_
            refine Cd.region ?_
            refine Ops.add rfl rfl rfl (by omega) ?_
            refine Ops.mv_int rfl rfl rfl ?_
            refine Ops.nil ?_
            refine thenQ_n ?_
            -- stop: round
            exact ⟨(k + 1, L', o', A', c'), by show n - (k + 1) < n - k; omega, ⟨rfl, rfl, rfl, rfl, rfl, rfl, rfl, rfl, rfl, rfl, trivial⟩, hS8, hD8.skip (by rw [hR.len]; omega) (by omega), by show k + 1 ≤ n; omega, hxc, hu8⟩
        · refine Cd.exit ?_
          refine thenQ_x ?_
          refine thenQ_x ?_
          refine blockQ_x ?_
          refine blockQ_n ?_
          refine thenQ_n ?_
          -- stop: round
          have hk' : k = xss.length := by rw [hR.len]; omega
          subst hk'
          exact ⟨(L', o', A', c'), by show unl L' + o'.length < unl L + (o ++ [x]).length; omega, ⟨rfl, rfl, rfl, rfl, rfl, rfl, trivial⟩, hS8, hD8.rest, by show unl L' + o'.length ≤ N; omega⟩
      · have hop : op = [] := List.eq_nil_of_length_eq_zero (by omega)
        subst hop
        have hL := hD.done hs hinj (by omega) h2
        refine Cd.exit ?_
        refine thenQ_x ?_
        refine thenQ_x ?_
        refine blockQ_x ?_
        refine thenQ_n ?_
        refine Cd.region ?_
        refine Ops.mv_int rfl rfl rfl ?_
        refine Ops.add rfl rfl rfl (by omega) ?_
        refine Ops.mv_int rfl rfl rfl ?_
        refine Ops.nil ?_
        refine blockQ_n ?_
        refine thenQ_n ?_
        refine Cd.region ?_
        refine Ops.add rfl rfl rfl (by omega) ?_
        refine Ops.mv_int rfl rfl rfl ?_
        refine Ops.nil ?_
        refine thenQ_n ?_
        -- stop: round
        refine ⟨i + 1, by omega, ⟨rfl, rfl, by rw [lab_neg h2]; rfl, rfl, rfl, trivial⟩, ?_, by omega⟩
        rw [← hL]; exact hS6.tail
  · refine Cd.exit ?_
    refine thenQ_x ?_
    refine thenQ_x ?_
    refine blockQ_x ?_
    refine thenQ_n ?_
    refine Cd.seq ?_
    refine Cd.region ?_
    refine Ops.mv_sl rfl rfl rfl ?_
    refine Ops.mv_int rfl rfl rfl ?_
    refine Ops.mv_sl rfl rfl rfl ?_
    refine Ops.mv_int rfl rfl rfl ?_
    refine Ops.nil ?_
    refine thenQ_n ?_
    refine Cd.ret ?_
    refine ret2_si rfl rfl ?_
    -- stop: end
    have : i = N := by omega
    subst this
    exact ⟨A6, rfl, hS3⟩
end Go.Proofs.Ytpdhjnacnmfbjaa.Vc
