/-
  The diameter of the graph on both sides, and the walk of the law FnExactGraphDiameter. Conditions: as each states them.
-/
import Derived.Test.YtpdhjnacnmfbjaaE3
import Derived.Test.YtpdhjnacnmfbjaaC7
namespace Go.Proofs.Ytpdhjnacnmfbjaa.Vc
open Go.RowKit

def mx (a : Int) (l : List Int) : Int := l.foldl max a
theorem mx_snoc (a : Int) (l : List Int) (x : Int) : mx a (l ++ [x]) = max (mx a l) x := by
  unfold mx
  rw [List.foldl_append]; rfl
theorem mx_max (a : Int) : ∀ (l : List Int) (b : Int), mx (max a b) l = max a (mx b l)
  | [], _ => rfl
  | x :: l, b => by
    show mx (max (max a b) x) l = max a (mx (max b x) l)
    rw [← mx_max a l (max b x), Int.max_assoc]
theorem mx_head {l : List Int} (a : Int) (h : 0 < l.length) : max a (mx (gi l 0) l) = mx a l := by
  cases l with
  | nil => simp at h
  | cons x l =>
    show max a (mx (max x x) l) = mx (max a x) l
    rw [Int.max_self, mx_max]

theorem Max_c (A : Option Addr) (n c : Nat) (xs : List Int) (w : World) (hR : RdI w A n xs) (h0 : 0 < n) (hn : n ≤ 1000000000) :
    Ret Try.prog 82 [.slice A n c] w (fun v w' => v = .int .i64 (mx (gi xs 0) xs) ∧ w' = w) := by
  have hxl := hR.1
  refine Ret.of_cd Try.func82 rfl Try.ntmps82 rfl (post1 rfl) ?_
  refine Cd.seq ?_
  refine Cd.region ?_
  refine Ops.mv_int rfl rfl rfl ?_
  refine Ops.nil ?_
  refine thenQ_n ?_
  refine Cd.seq ?_
  refine Cd.seq ?_
  refine Cd.region ?_
  refine Ops.mv_sl rfl rfl rfl ?_
  refine Ops.len rfl rfl ?_
  refine Ops.lss rfl rfl rfl ?_
  refine Ops.nil ?_
  refine thenQ_n ?_
  -- stop: cond
  refine Cd.cond_pf rfl (by omega) ?_
  refine Cd.skip ?_
  refine thenQ_n ?_
  refine Cd.seq ?_
  refine Cd.region ?_
  refine Ops.mv_sl rfl rfl rfl ?_
  -- stop: INDEXADDR 39 t9 0 -> 10
  refine Ops.idx hR.2 rfl rfl rfl (by omega) (by omega) ?_
  refine Ops.ld_int hR rfl (by show Int.toNat 0 < _; rw [show Int.toNat 0 = 0 from rfl]; omega) rfl rfl ?_
  refine Ops.mv_int rfl rfl rfl ?_
  refine Ops.nil ?_
  refine thenQ_n ?_
  refine Cd.seq ?_
  refine Cd.seq ?_
  refine Cd.region ?_
  refine Ops.mv_int rfl rfl rfl ?_
  refine Ops.nil ?_
  refine thenQ_n ?_
  refine Cd.block ?_
  -- stop: loop
  have e1 : mx (gi xs 0) (xs.take 1) = gi xs 0 := by
    rw [show (1 : Nat) = 0 + 1 from rfl, take_succ_gi (by omega), mx_snoc]
    show max (gi xs 0) (gi xs ((0 : Nat) : Int)) = gi xs 0
    exact Int.max_self _
  refine Cd.loop (α := Nat) (fun k => [(0, .slice A n c), (3, .int .i64 (mx (gi xs 0) (xs.take k))), (4, .int .i64 (k : Int))]) (fun k w' => w' = w ∧ k ≤ n) (fun k => n - k) 1 ⟨rfl, by show Value.int .i64 _ = .int .i64 _; rw [e1], rfl, trivial⟩ ⟨rfl, by omega⟩ ?_
  rintro k e w ⟨rfl, hk⟩
  refine Cd.seq ?_
  refine Cd.seq ?_
  refine Cd.region ?_
  refine Ops.mv_int rfl rfl rfl ?_
  refine Ops.mv_sl rfl rfl rfl ?_
  refine Ops.len rfl rfl ?_
  refine Ops.lss rfl rfl rfl ?_
  refine Ops.nil ?_
  refine thenQ_n ?_
  -- stop: cond
  refine Cd.cond_p _ rfl (fun h1 => ?_) (fun h1 => ?_)
  · refine Cd.skip ?_
    refine thenQ_n ?_
    refine Cd.seq ?_
    refine Cd.block ?_
    refine Cd.region ?_
    refine Ops.mv_int rfl rfl rfl ?_
    refine Ops.mv_sl rfl rfl rfl ?_
    refine Ops.mv_int rfl rfl rfl ?_
    -- stop: INDEXADDR 39 t19 t20 -> 21
    refine Ops.idx hR.2 rfl rfl rfl (by omega) (by omega) ?_
    refine Ops.ld_int hR rfl (by omega) rfl rfl ?_
    refine Ops.maxI rfl rfl rfl ?_
    refine Ops.mv_int rfl rfl rfl ?_
    refine Ops.nil ?_
    refine blockQ_n ?_
    refine thenQ_n ?_
    refine Cd.region ?_
    refine Ops.mv_int rfl rfl rfl ?_
    refine Ops.add rfl rfl rfl (by omega) ?_
    refine Ops.mv_int rfl rfl rfl ?_
    refine Ops.nil ?_
    refine thenQ_n ?_
    -- stop: round
    exact ⟨k + 1, by show n - (k + 1) < n - k; omega, ⟨rfl, by show Value.int .i64 _ = .int .i64 _; rw [take_succ_gi (by omega), mx_snoc], rfl, trivial⟩, rfl, by omega⟩
  · refine Cd.exit ?_
    refine thenQ_x ?_
    refine thenQ_x ?_
    refine blockQ_x ?_
    refine thenQ_n ?_
    refine Cd.seq ?_
    refine Cd.region ?_
    refine Ops.mv_int rfl rfl rfl ?_
    refine Ops.mv_int rfl rfl rfl ?_
    refine Ops.nil ?_
    refine thenQ_n ?_
    refine Cd.ret ?_
    refine ret1_i rfl ?_
    -- stop: end
    have hkn : k = n := by omega
    subst hkn
    exact ⟨by rw [← hxl, List.take_length], rfl⟩

/-- the greatest distance from the first vertices -/
def dmP (next : List (List Int)) : Nat → Int
  | 0 => 0
  | v + 1 => mx (dmP next v) (distP next (-1) v).1
def gdD (xss : List (List Int)) : Int := if Grph xss then dmP (nbL xss) (vertsN xss) else 0

theorem specGraphDiameter_c (A : Option Addr) (n c : Nat) (rs : List SlV) (xss : List (List Int)) (w : World) (hR : RowsI w A n rs xss) (hn : n ≤ 9223372036854775807) :
    Ret Try.prog 45 [.agg #[.slice A n c]] w (fun v w' => v = .tuple #[.int .i64 (gdD xss), .int .i64 (petrieK xss)] ∧ St w w' []) := by
  refine Ret.of_cd Try.func45 rfl Try.ntmps45 rfl (post2 rfl) ?_
  refine Cd.seq ?_
  refine Cd.region ?_
  -- stop: BOX 32 t0=m -> 1
  refine Ops.box1 (St.refl w) rfl rfl ?_
  intro Ab w1 hS1
  refine Ops.mv_int rfl rfl rfl ?_
  refine Ops.mv_int rfl rfl rfl ?_
  refine Ops.nil ?_
  refine thenQ_n ?_
  refine Cd.seq ?_
  refine Cd.seq ?_
  refine Cd.region ?_
  -- stop: LOAD 32 t1=m -> 9
  refine Ops.ld_agg 0 (hS1.rd 0 rfl) rfl rfl rfl ?_
  refine Ops.call (l18Is_c A n c rs xss _ (hS1.oldRows hR) hn) rfl rfl rfl ?_
  rintro _ w2 ⟨rfl, hst⟩
  have hS2 := hS1.later hst.below
  first | refine Ops.not_p rfl rfl ?_ | refine Ops.not rfl rfl ?_
  refine Ops.nil ?_
  refine thenQ_n ?_
  -- stop: cond
  refine Cd.cond_p _ rfl (fun h => ?_) (fun h => ?_)
  · refine Cd.seq ?_
    refine Cd.region ?_
    refine Ops.mv_int rfl rfl rfl ?_
    refine Ops.mv_int rfl rfl rfl ?_
    refine Ops.nil ?_
    refine thenQ_n ?_
    refine Cd.ret ?_
    refine thenQ_r ?_
    refine ret2_ii rfl rfl ?_
    -- stop: end
    exact ⟨by rw [petrieK, if_neg h, gdD, if_neg h], hS2.none⟩
  · have hG : Grph xss := Classical.not_not.1 h
    have hg := nb_gr hG.1
    have hsm := nb_small hG.1
    refine Cd.skip ?_
    refine thenQ_n ?_
    refine Cd.seq ?_
    refine Cd.region ?_
    -- stop: LOAD 32 t1=m -> 12
    refine Ops.ld_agg 0 (hS2.rd 0 rfl) rfl rfl rfl ?_
    refine Ops.call (l18Neighbours_c A n c rs xss _ (hS2.oldRows hR) hG) rfl rfl rfl ?_
    rintro _ w3 ⟨A3, rs3, rfl, hrl, hst3⟩
    have hS3 := (hS2.later hst3.below).none
    have hN3 := hst3.rowsI (nbL_len xss)
    have hfin : gdD xss = dmP (nbL xss) (vertsN xss) := by rw [gdD, if_pos hG]
    generalize hv : vertsN xss = vN at *
    generalize hnx : nbL xss = next at *
    refine Ops.mv_sl rfl rfl rfl ?_
    refine Ops.mv_int rfl rfl rfl ?_
    refine Ops.nil ?_
    refine thenQ_n ?_
    refine Cd.seq ?_
    refine Cd.seq ?_
    refine Cd.region ?_
    refine Ops.mv_int rfl rfl rfl ?_
    refine Ops.nil ?_
    refine thenQ_n ?_
    refine Cd.block ?_
    -- stop: loop
    refine Cd.loop (α := Nat) (fun v => [(4, .slice A3 vN vN), (5, .int .i64 (dmP next v)), (6, .int .i64 (v : Int))]) (fun v w' => St w3 w' [] ∧ v ≤ vN) (fun v => vN - v) 0 ⟨rfl, rfl, rfl, trivial⟩ ⟨St.refl w3, Nat.zero_le _⟩ ?_
    rintro v e w4 ⟨hS4, hv4⟩
    have hN4 := hS4.oldRows hN3
    refine Cd.seq ?_
    refine Cd.seq ?_
    refine Cd.region ?_
    refine Ops.mv_int rfl rfl rfl ?_
    refine Ops.mv_sl rfl rfl rfl ?_
    refine Ops.len rfl rfl ?_
    refine Ops.lss rfl rfl rfl ?_
    refine Ops.nil ?_
    refine thenQ_n ?_
    -- stop: cond
    refine Cd.cond_p _ rfl (fun h1 => ?_) (fun h1 => ?_)
    · refine Cd.skip ?_
      refine thenQ_n ?_
      refine Cd.seq ?_
      refine Cd.block ?_
      refine Cd.seq ?_
      refine Cd.region ?_
      refine Ops.mv_sl rfl rfl rfl ?_
      refine Ops.mv_int rfl rfl rfl ?_
      -- stop: CALL spec.l18Distances(t20, t21, -1) -> 22
      refine Ops.call (l18Distances_c A3 _ _ rs3 next (v : Int) (-1) _ hN4 hg (by omega) (by omega)) rfl rfl rfl ?_
      rintro _ w5 ⟨A5, rfl, hst5⟩
      have hS5 := hS4.call hst5
      have hdl := (dist_BF (wo := -1) (v := (v : Int)) hg (by omega) (by omega)).len
      have hst : dmP next (v + 1) = mx (dmP next v) (distP next (-1) (v : Int)).1 := rfl
      generalize hd : (distP next (-1) (v : Int)).1 = dl at *
      refine Ops.mv_sl rfl rfl rfl ?_
      refine Ops.nil ?_
      refine thenQ_n ?_
      refine Cd.seq ?_
      refine Cd.region ?_
      refine Ops.mv_int rfl rfl rfl ?_
      refine Ops.nil ?_
      refine thenQ_n ?_
      refine Cd.block ?_
      -- stop: loop
      refine Cd.loop (α := Nat) (fun u => [(4, .slice A3 vN vN), (5, .int .i64 (mx (dmP next v) (dl.take u))), (6, .int .i64 (v : Int)), (7, .slice A5 vN vN), (8, .int .i64 (u : Int))]) (fun u w' => w' = w5 ∧ u ≤ vN) (fun u => vN - u) 0 ⟨rfl, rfl, rfl, rfl, rfl, trivial⟩ ⟨rfl, Nat.zero_le _⟩ ?_
      rintro u e w6 ⟨rfl, hu⟩
      have hD6 := hS5.rdI 0 rfl
      refine Cd.seq ?_
      refine Cd.seq ?_
      refine Cd.region ?_
      refine Ops.mv_int rfl rfl rfl ?_
      refine Ops.mv_sl rfl rfl rfl ?_
      refine Ops.len rfl rfl ?_
      refine Ops.lss rfl rfl rfl ?_
      refine Ops.nil ?_
      refine thenQ_n ?_
      -- stop: cond
      refine Cd.cond_p _ rfl (fun h2 => ?_) (fun h2 => ?_)
      · refine Cd.skip ?_
        refine thenQ_n ?_
        refine Cd.seq ?_
        refine Cd.block ?_
        refine Cd.region ?_
        refine Ops.mv_int rfl rfl rfl ?_
        refine Ops.mv_sl rfl rfl rfl ?_
        refine Ops.mv_int rfl rfl rfl ?_
        -- stop: INDEXADDR 39 t30 t31 -> 32
        refine Ops.idx hD6.2 rfl rfl rfl (by omega) (by omega) ?_
        refine Ops.ld_int hD6 rfl (by omega) rfl rfl ?_
        refine Ops.maxI rfl rfl rfl ?_
        refine Ops.mv_int rfl rfl rfl ?_
        refine Ops.nil ?_
        refine blockQ_n ?_
        refine thenQ_n ?_
        refine Cd.region ?_
        refine Ops.mv_int rfl rfl rfl ?_
        refine Ops.add rfl rfl rfl (by omega) ?_
        refine Ops.mv_int rfl rfl rfl ?_
        refine Ops.nil ?_
        refine thenQ_n ?_
        -- stop: round
        exact ⟨u + 1, by show vN - (u + 1) < vN - u; omega, ⟨rfl, by show Value.int .i64 _ = .int .i64 _; rw [take_succ_gi (by omega), mx_snoc], rfl, rfl, rfl, trivial⟩, rfl, by omega⟩
      · refine Cd.exit ?_
        refine thenQ_x ?_
        refine thenQ_x ?_
        refine blockQ_x ?_
        refine blockQ_n ?_
        refine thenQ_n ?_
        refine Cd.region ?_
        refine Ops.mv_int rfl rfl rfl ?_
        refine Ops.add rfl rfl rfl (by omega) ?_
        refine Ops.mv_int rfl rfl rfl ?_
        refine Ops.nil ?_
        refine thenQ_n ?_
        -- stop: round
        have hun : u = vN := by omega
        subst hun
        rw [List.take_of_length_le (by omega)]
        exact ⟨v + 1, by show u - (v + 1) < u - v; omega, ⟨rfl, by show Value.int .i64 _ = .int .i64 _; rw [hst], rfl, trivial⟩, hS5.none, by omega⟩
    · refine Cd.exit ?_
      refine thenQ_x ?_
      refine thenQ_x ?_
      refine blockQ_x ?_
      refine thenQ_n ?_
      refine Cd.seq ?_
      refine Cd.region ?_
      refine Ops.mv_int rfl rfl rfl ?_
      refine Ops.mv_int rfl rfl rfl ?_
      refine Ops.mv_int rfl rfl rfl ?_
      refine Ops.nil ?_
      refine thenQ_n ?_
      refine Cd.ret ?_
      refine ret2_ii rfl rfl ?_
      -- stop: end
      have hvn : v = vN := by omega
      subst hvn
      exact ⟨by rw [petrieK, if_pos hG, hfin], hS3.later hS4.below⟩

theorem goK_nil (xss : List (List Int)) : goK xss [] = petrieK xss := by
  unfold goK petrieK
  have h : allIn 0 ((vertsN xss : Int) - 1) [] := fun x hx => by cases hx
  by_cases hG : Grph xss
  · rw [if_neg (fun h => h hG), if_neg (fun h2 => h2 h), if_pos hG]
  · rw [if_pos hG, if_neg hG]
theorem goL_nil {xss : List (List Int)} (hG : Grph xss) : goL xss [] = nbL xss := by rw [goL, if_pos ⟨hG, fun x hx => by cases hx⟩]

theorem implGraphDiameter_c (A : Option Addr) (n c : Nat) (rs : List SlV) (xss : List (List Int)) (w : World) (hR : RowsI w A n rs xss) (hn : n ≤ c) (hc : c ≤ 9223372036854775807) :
    Ret Try.prog 46 [.agg #[.slice A n c]] w (fun v w' => v = .tuple #[.int .i64 (gdD xss), .int .i64 (petrieK xss)] ∧ St w w' []) := by
  refine Ret.of_cd Try.func46 rfl Try.ntmps46 rfl (post2 rfl) ?_
  refine Cd.seq ?_
  refine Cd.region ?_
  -- stop: BOX 32 t0=m -> 1
  refine Ops.box1 (St.refl w) rfl rfl ?_
  intro Ab w1 hS1
  refine Ops.mv_int rfl rfl rfl ?_
  refine Ops.mv_int rfl rfl rfl ?_
  refine Ops.nil ?_
  refine thenQ_n ?_
  refine Cd.seq ?_
  refine Cd.region ?_
  -- stop: LOAD 32 t1=m -> 9
  refine Ops.ld_agg 0 (hS1.rd 0 rfl) rfl rfl rfl ?_
  refine Ops.call (graphOf_c A n c rs xss none 0 0 [] _ (hS1.oldRows hR) hn hc RdI.nil (by omega)) rfl rfl rfl ?_
  rintro _ w3 ⟨A3, c3, rs3, rfl, hrl, hst3⟩
  have hS3 := hS1.later hst3.below
  rw [goK_nil] at *
  refine Ops.mv_tup rfl rfl rfl ?_
  refine Ops.extract rfl rfl rfl ?_
  refine Ops.extract rfl rfl rfl ?_
  refine Ops.mv_sl rfl rfl rfl ?_
  refine Ops.mv_int rfl rfl rfl ?_
  refine Ops.nil ?_
  refine thenQ_n ?_
  refine Cd.seq ?_
  refine Cd.seq ?_
  refine Cd.region ?_
  refine Ops.mv_int rfl rfl rfl ?_
  refine Ops.neq rfl rfl rfl ?_
  refine Ops.nil ?_
  refine thenQ_n ?_
  -- stop: cond
  refine Cd.cond_p _ rfl (fun h => ?_) (fun h => ?_)
  · have hnG : ¬ Grph xss := fun hG => h (by rw [petrieK, if_pos hG])
    refine Cd.seq ?_
    refine Cd.region ?_
    refine Ops.mv_int rfl rfl rfl ?_
    refine Ops.mv_int rfl rfl rfl ?_
    refine Ops.mv_int rfl rfl rfl ?_
    refine Ops.nil ?_
    refine thenQ_n ?_
    refine Cd.ret ?_
    refine thenQ_r ?_
    refine ret2_ii rfl rfl ?_
    -- stop: end
    exact ⟨by rw [gdD, if_neg hnG], hS3.none⟩
  · have hG : Grph xss := by
      apply Classical.byContradiction
      intro hG
      exact h (by rw [petrieK, if_neg hG]; decide)
    have hg := nb_gr hG.1
    have hsm := nb_small hG.1
    rw [goL_nil hG, nbL_len] at *
    have hN3 := hst3.rowsI (nbL_len xss)
    have hfin : gdD xss = dmP (nbL xss) (vertsN xss) := by rw [gdD, if_pos hG]
    generalize hv : vertsN xss = vN at *
    generalize hnx : nbL xss = next at *
    refine Cd.skip ?_
    refine thenQ_n ?_
    refine Cd.seq ?_
    refine Cd.region ?_
    refine Ops.mv_int rfl rfl rfl ?_
    refine Ops.nil ?_
    refine thenQ_n ?_
    refine Cd.seq ?_
    refine Cd.seq ?_
    refine Cd.region ?_
    refine Ops.mv_sl rfl rfl rfl ?_
    -- stop: CALL impl.size[[]int64](t16) -> 17
    refine Ops.call (sizeR_c _ _ _ _) rfl rfl rfl ?_
    rintro _ w3 ⟨rfl, rfl⟩
    refine Ops.mv_int rfl rfl rfl ?_
    refine Ops.nil ?_
    refine thenQ_n ?_
    refine Cd.block ?_
    -- stop: loop
    refine Cd.loop (α := Nat) (fun v => [(4, .slice A3 vN c3), (6, .int .i64 (dmP next v)), (17, .int .i64 (vN : Int)), (18, .int .i64 (v : Int))]) (fun v w' => St w3 w' [] ∧ v ≤ vN) (fun v => vN - v) 0 ⟨rfl, rfl, rfl, rfl, trivial⟩ ⟨St.refl w3, Nat.zero_le _⟩ ?_
    rintro v e w4 ⟨hS4, hv4⟩
    have hN4 := hS4.oldRows hN3
    refine Cd.seq ?_
    refine Cd.region ?_
    refine Ops.lss rfl rfl rfl ?_
    refine Ops.nil ?_
    refine thenQ_n ?_
    refine Cd.seq ?_
    -- stop: cond
    refine Cd.cond_p _ rfl (fun h1 => ?_) (fun h1 => ?_)
    · have hdl := (dist_BF (wo := -1) (v := (v : Int)) hg (by omega) (by omega)).len
      refine Cd.skip ?_
      refine thenQ_n ?_
      refine Cd.seq ?_
      refine Cd.block ?_
      refine Cd.seq ?_
      refine Cd.region ?_
      refine Ops.mv_int rfl rfl rfl ?_
      refine Ops.mv_int rfl rfl rfl ?_
      refine Ops.nil ?_
      refine thenQ_n ?_
      refine Cd.region ?_
      refine Ops.mv_int rfl rfl rfl ?_
      refine Ops.mv_sl rfl rfl rfl ?_
      refine Ops.mv_int rfl rfl rfl ?_
      -- stop: CALL impl.graphDistances(t22, t23) -> 24
      refine Ops.call (graphDistances_c A3 _ _ rs3 next (v : Int) _ hN4 hg (by omega) (by omega)) rfl rfl rfl ?_
      rintro _ w5 ⟨A5, rfl, hst5⟩
      have hS5 := hS4.call hst5
      refine Ops.call (Max_c A5 vN vN _ _ (hS5.rdI 0 rfl) (by omega) (by omega)) rfl rfl rfl ?_
      rintro _ w5 ⟨rfl, rfl⟩
      refine Ops.maxI rfl rfl rfl ?_
      rw [mx_head _ (by omega)]
      refine Ops.mv_int rfl rfl rfl ?_
      refine Ops.nil ?_
      refine blockQ_n ?_
      refine thenQ_n ?_
      refine Cd.region ?_
      refine Ops.add rfl rfl rfl (by omega) ?_
      refine Ops.mv_int rfl rfl rfl ?_
      refine Ops.nil ?_
      refine thenQ_n ?_
      -- stop: round
      exact ⟨v + 1, by show vN - (v + 1) < vN - v; omega, ⟨rfl, rfl, rfl, rfl, trivial⟩, hS5.none, by omega⟩
    · refine Cd.exit ?_
      refine thenQ_x ?_
      refine thenQ_x ?_
      refine blockQ_x ?_
      refine thenQ_n ?_
      refine Cd.seq ?_
      refine Cd.region ?_
      refine Ops.mv_int rfl rfl rfl ?_
      refine Ops.mv_int rfl rfl rfl ?_
      refine Ops.mv_int rfl rfl rfl ?_
      refine Ops.nil ?_
      refine thenQ_n ?_
      refine Cd.ret ?_
      refine ret2_ii rfl rfl ?_
      -- stop: end
      have hvn : v = vN := by omega
      subst hvn
      exact ⟨by rw [hfin, petrieK, if_pos hG], (hS3.later hS4.below).none⟩

theorem FnExactGraphDiameter_c (A : Option Addr) (n c : Nat) (rs : List SlV) (xss : List (List Int)) (w : World) (hR : RowsI w A n rs xss) (hn : n ≤ 9223372036854775807) :
    Ret Try.prog 11 [.agg #[.slice A n c]] w (fun v w' => v = .bool true ∧ St w w' []) := by
  have hxl := hR.len
  refine Ret.of_cd Try.func11 rfl Try.ntmps11 rfl (post1 rfl) ?_
  refine Cd.seq ?_
  refine Cd.region ?_
  -- stop: BOX 27 t0=aM -> 1
  refine Ops.box1 (St.refl w) rfl rfl ?_
  intro Ab w1 hS
  refine Ops.mv_bool rfl rfl rfl ?_
  refine Ops.nil ?_
  refine thenQ_n ?_
  refine Cd.seq ?_
  refine Cd.region ?_
  refine Ops.mv_int rfl rfl rfl ?_
  refine Ops.nil ?_
  refine thenQ_n ?_
  refine Cd.seq ?_
  refine Cd.region ?_
  -- stop: LOAD 27 t1=aM -> 9
  refine Ops.ld_agg 0 (hS.rd 0 rfl) rfl rfl rfl ?_
  refine Ops.mv_int rfl rfl rfl ?_
  -- stop: CALL laws.szManiplex(t9, t10) -> 11
  refine Ops.call (szManiplex_c A n c rs xss 1048576 _ (hS.oldRows hR) hn (by omega)) rfl rfl rfl ?_
  rintro _ w2 ⟨rfl, hst⟩
  have hS := hS.later hst.below
  refine Ops.mv_int rfl rfl rfl ?_
  refine Ops.nil ?_
  refine thenQ_n ?_
  refine Cd.seq ?_
  refine Cd.seq ?_
  refine Cd.region ?_
  refine Ops.mv_int rfl rfl rfl ?_
  refine Ops.lss rfl rfl rfl ?_
  refine Ops.nil ?_
  refine thenQ_n ?_
  -- stop: cond
  refine Cd.cond_p _ rfl (fun h1 => ?_) (fun h1 => ?_)
  · refine Cd.seq ?_
    refine Cd.region ?_
    refine Ops.mv_bool rfl rfl rfl ?_
    refine Ops.nil ?_
    refine thenQ_n ?_
    refine Cd.ret ?_
    refine thenQ_r ?_
    refine ret1_b rfl ?_
    -- stop: end
    exact ⟨rfl, hS.none⟩
  have hfit := fits_of hR.top.1 (by omega) (Int.not_lt.1 h1)
  refine Cd.skip ?_
  refine thenQ_n ?_
  refine Cd.seq ?_
  refine Cd.region ?_
  -- stop: LOAD 27 t1=aM -> 15
  refine Ops.ld_agg 0 (hS.rd 0 rfl) rfl rfl rfl ?_
  refine Ops.call (toManiplex_c A n c rs xss _ (hS.oldRows hR) hfit) rfl rfl rfl ?_
  rintro _ w3 ⟨A1, rs1, rfl, hrl1, hst1⟩
  refine Ops.call (specGraphDiameter_c A1 n n rs1 xss _ (St.rowsI (ks := []) (by rwa [List.append_nil]) hxl) hn) rfl rfl rfl ?_
  rintro _ w4 ⟨rfl, hst2⟩
  have hS4 := (hS.later hst1.below).later hst2.below
  refine Ops.mv_tup rfl rfl rfl ?_
  refine Ops.extract rfl rfl rfl ?_
  refine Ops.extract rfl rfl rfl ?_
  refine Ops.mv_int rfl rfl rfl ?_
  refine Ops.mv_int rfl rfl rfl ?_
  refine Ops.nil ?_
  refine thenQ_n ?_
  refine Cd.seq ?_
  refine Cd.region ?_
  -- stop: LOAD 27 t1=aM -> 20
  refine Ops.ld_agg 0 (hS4.rd 0 rfl) rfl rfl rfl ?_
  refine Ops.call (toManiplex_c A n c rs xss _ (hS4.oldRows hR) hfit) rfl rfl rfl ?_
  rintro _ w5 ⟨A2, rs2, rfl, hrl2, hst3⟩
  have hS5 := hS4.call2 hst3
  refine Ops.new1 hS5 rfl ?_
  intro A6 w6 hS6
  refine Ops.st_agg 1 0 hS6 rfl rfl rfl rfl rfl rfl rfl ?_
  intro w7 hS7
  have hS7 : St w w7 ([Bx 32 1 A6 [.slice A2 n n], Bx 27 1 Ab [.slice A n c]] ++ mat 39 2 A2 n n rs2 xss) := hS7
  refine Ops.nil ?_
  refine thenQ_n ?_
  refine Cd.seq ?_
  refine Cd.region ?_
  -- stop: LOAD 32 t6=x0 -> 23
  refine Ops.ld_agg 0 (hS7.rd 0 rfl) rfl rfl rfl ?_
  refine Ops.call (implGraphDiameter_c A2 n n rs2 xss _ ((hS7.matNil.sub (List.sublist_append_right _ _)).rowsI hxl) (Nat.le_refl _) hn) rfl rfl rfl ?_
  rintro _ w8 ⟨rfl, hst4⟩
  have hS8 := (hS7.later hst4.below).matNil (pre := [_, _])
  refine Ops.mv_tup rfl rfl rfl ?_
  refine Ops.extract rfl rfl rfl ?_
  refine Ops.extract rfl rfl rfl ?_
  refine Ops.mv_int rfl rfl rfl ?_
  refine Ops.mv_int rfl rfl rfl ?_
  refine Ops.nil ?_
  refine thenQ_n ?_
  refine Cd.seq ?_
  refine Cd.seq ?_
  refine Cd.region ?_
  refine Ops.mv_int rfl rfl rfl ?_
  refine Ops.mv_int rfl rfl rfl ?_
  refine Ops.neq rfl rfl rfl ?_
  refine Ops.mv_bool rfl rfl rfl ?_
  -- stop: guard 30
  refine Ops.split_p 30 rfl (fun h => absurd rfl h) (fun _ => ?_) --f
  refine Ops.rung rfl rfl rfl ?_
  refine Ops.mv_int rfl rfl rfl ?_
  refine Ops.rung rfl rfl rfl ?_
  refine Ops.mv_int rfl rfl rfl ?_
  refine Ops.rung rfl rfl rfl ?_
  refine Ops.neq rfl rfl rfl ?_
  refine Ops.pick_f rfl rfl rfl ?_
  refine Ops.nil ?_
  refine thenQ_n ?_
  -- stop: cond
  refine Cd.cond_pf rfl (fun h => h rfl) ?_
  refine Cd.skip ?_
  refine thenQ_n ?_
  refine Cd.seq ?_
  refine Cd.seq ?_
  -- stop: draw
  have hM8 := (hS8.sub (List.sublist_append_right _ _)).rowsI hxl
  have hR8 := hS8.oldRows hR
  refine Cd.draw [.ex (.agg #[.slice (A2) (n) (n)]), .ex (.agg #[.slice (A) (n) (c)]), .pr (fun v w' => ∃ D rd, v = .agg #[.slice D n n] ∧ RowsI w' D n rd xss), .ex (.bool (true)), .ex (.bool (false))] (by kernel_rfl) (by kernel_rfl) rfl (List.forall_mem_cons.2 ⟨Yd.lasts_ex _, (List.forall_mem_cons.2 ⟨Yd.lasts_ex _, (List.forall_mem_cons.2 ⟨Yd.lasts_pr (fun v w w' h hb => by obtain ⟨D, rd, hv, h1⟩ := h; exact ⟨D, rd, hv, h1.later hb⟩), (List.forall_mem_cons.2 ⟨Yd.lasts_ex _, (List.forall_mem_cons.2 ⟨Yd.lasts_ex _, (fun _ h => by cases h)⟩)⟩)⟩)⟩)⟩) ⟨?_, ?_, ?_, ?_, ?_, trivial⟩ ?_
  · intro e1 w1 hb hp hun
    refine Ops.ld_agg 0 ((hS8.rd 0 rfl).below hb) rfl rfl rfl ?_
    refine Ops.nil ?_
    exact After.dn (Below.refl _ _) (by exact rfl)
  · intro e1 w1 hb hp hun
    refine Ops.ld_agg 0 ((hS8.rd 1 rfl).below hb) rfl rfl rfl ?_
    refine Ops.nil ?_
    exact After.dn (Below.refl _ _) (by exact rfl)
  · intro e1 w1 hb hp hun
    refine Ops.call (toManiplex_c A n c rs xss _ (hR8.later hb) hfit) rfl rfl rfl ?_
    rintro _ w2 ⟨D, rd, rfl, hrd, hst⟩
    refine Ops.nil ?_
    exact After.dn hst.below ⟨D, rd, rfl, St.rowsI (ks := []) (by rwa [List.append_nil]) hxl⟩
  · intro e1 w1 hb hp hun
    obtain ⟨D, rd, h43, h1⟩ := (hp 2 (by decide) rfl _ _ rfl rfl)
    refine Ops.call (eqManiplex_c A2 n n rs2 xss D n n rd xss _ (hM8.later hb) h1 hn) rfl (by exact congrArg (fun v => [Value.agg #[.slice A2 n n], v]) h43) rfl ?_
    rintro _ w2 ⟨rfl, hst⟩
    refine Ops.nil ?_
    exact After.dn hst.below (by exact congrArg Value.bool (decide_eq_true rfl))
  · intro e1 w1 hb hp hun
    refine Ops.not rfl rfl ?_
    refine Ops.nil ?_
    exact After.dn (Below.refl _ _) (by exact congrArg Value.bool (rfl))
  intro u w10 hb10 _
  have hS10 := hS8.later hb10
  refine thenQ_n ?_
  -- stop: cond
  refine Cd.cond_f rfl ?_
  refine Cd.skip ?_
  refine thenQ_n ?_
  refine Cd.seq ?_
  refine Cd.region ?_
  refine Ops.mv_bool rfl rfl rfl ?_
  refine Ops.nil ?_
  refine thenQ_n ?_
  refine Cd.ret ?_
  refine ret1_b rfl ?_
  -- stop: end
  exact ⟨rfl, hS10.none⟩
end Go.Proofs.Ytpdhjnacnmfbjaa.Vc
