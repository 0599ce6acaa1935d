/-
  Distances and what is reached: the program's walks. Conditions: as each states them.
-/
import Derived.Test.YtpdhjnacnmfbjaaE1
namespace Go.Proofs.Ytpdhjnacnmfbjaa.Vc
open Go.RowKit

theorem gi_drop (l : List Int) (i : Nat) : gi (l.drop i) 0 = gi l (i : Int) := by simp [gi, List.getD_eq_getElem?_getD, List.getElem?_drop]
/-- a list of one's own, cut at its head -/
theorem St.cutl {w0 w : World} {ks : List Ck} {i : Nat} {t : TypeId} {A : Option Addr} {n c l : Nat} {xs : List Int} (hS : St w0 w ks) (hk : ks[i]? = some (CkI t A n c xs)) (hl : l ≤ n) : St w0 w (ks.set i (CkI t (cutAt A c l) (n - l) (c - l) (xs.drop l))) := by
  have hxl := hS.lenI i hk
  obtain ⟨h1, h2, h3, h4⟩ := hS.get hk
  have h2 : n ≤ c := h2
  have h3 : c ≤ maxLen := h3
  rcases h4 with ⟨hA, hc0⟩ | ⟨g, o, cur, hA, hg, hh, hs, hc⟩
  · have hA : A = Option.none := hA
    have hc0 : c = 0 := hc0
    subst hA hc0
    obtain rfl : n = 0 := by omega
    obtain rfl : l = 0 := by omega
    obtain rfl := List.eq_nil_of_length_eq_zero hxl
    have e : cutAt Option.none 0 0 = Option.none := rfl
    rw [e]
    show St w0 w (ks.set i (CkI t Option.none 0 0 []))
    rw [set_id hk]
    exact hS
  · have hA : A = some ⟨g, o, Option.none⟩ := hA
    have hs : o + c ≤ cur.size := hs
    have hh : w.heap[g]? = some (.cells cur t (0, 0)) := hh
    have hc : ∀ j, j < n → cur[o + j]? = (xs.map (Value.int .i64))[j]? := hc
    subst hA
    have hcut : ∃ o', cutAt (some ⟨g, o, Option.none⟩) c l = some ⟨g, o', Option.none⟩ ∧ o' + (c - l) ≤ cur.size ∧ (0 < n - l → o' = o + l) := by
      unfold cutAt
      split
      · exact ⟨o, rfl, by omega, fun h => by omega⟩
      · exact ⟨o + l, by simp [ptrAt, add_none], by omega, fun _ => rfl⟩
    obtain ⟨o', e1, e2, e3⟩ := hcut
    refine hS.turn hk rfl (by simp [Ck.blk, e1]) ⟨rfl, rfl, rfl, Nat.le_refl _, fun _ _ _ => rfl⟩ ⟨by simp [hxl], by show n - l ≤ c - l; omega, by show c - l ≤ maxLen; omega, .inr ⟨g, o', cur, e1, hg, hh, e2, fun j hj => ?_⟩⟩
    have hj : j < n - l := hj
    show cur[o' + j]? = ((xs.drop l).map (Value.int .i64))[j]?
    rw [e3 (Nat.zero_lt_of_lt hj), Nat.add_assoc, hc (l + j) (Nat.add_lt_of_lt_sub' hj)]
    simp [List.getElem?_drop]

theorem graphDistances_c (A : Option Addr) (n c : Nat) (rs : List SlV) (next : List (List Int)) (v : Int) (w : World) (hR : RowsI w A n rs next) (hg : Gr n next) (h0 : 0 ≤ v) (h1 : v < n) :
    Ret Try.prog 83 [.slice A n c, .int .i64 v] w (fun r w' => ∃ A', r = .slice A' n n ∧ St w w' [CkI 2 A' n n (distP next (-1) v).1]) := by
  have hl := hg.len
  have hsm := hg.small
  refine Ret.of_cd Try.func83 rfl Try.ntmps83 rfl (post1 rfl) ?_
  refine Cd.seq ?_
  refine Cd.region ?_
  refine Ops.mv_sl rfl rfl rfl ?_
  refine Ops.nil ?_
  refine thenQ_n ?_
  refine Cd.seq ?_
  refine Cd.region ?_
  -- stop: BUILDSLICE 39 1 [('pair', [0, ('app', 'Go.Operand.const', [('app', 'Go.Value.int', ['Go.IntKind.i64', -1])])])] -> 9
  refine Ops.bs1I (St.refl w) rfl rfl rfl ?_
  intro A1 w1 hS1
  refine Ops.mv_sl rfl rfl rfl ?_
  refine Ops.len rfl rfl ?_
  -- stop: CALL slices.Repeat[[]int64,int64](t9, t11) -> 12
  refine Ops.call (Repeat_c A1 1 (-1) n _ (hS1.rdI 0 rfl) (by omega)) rfl rfl rfl ?_
  rintro _ w2 ⟨A5, rfl, hst⟩
  have hS2 := (hS1.call hst).sub (List.Sublist.cons_cons _ (List.nil_sublist _))
  refine Ops.mv_sl rfl rfl rfl ?_
  refine Ops.nil ?_
  refine thenQ_n ?_
  refine Cd.seq ?_
  refine Cd.region ?_
  refine Ops.mv_sl rfl rfl rfl ?_
  refine Ops.mv_int rfl rfl rfl ?_
  -- stop: INDEXADDR 39 t13 t14 -> 15
  refine Ops.idx (hS2.rdI 0 rfl).2 rfl rfl rfl h0 h1 ?_
  refine Ops.st_int 0 hS2 rfl rfl rfl (by omega) ?_
  intro w3 hS3
  refine Ops.nil ?_
  refine thenQ_n ?_
  refine Cd.seq ?_
  refine Cd.seq ?_
  refine Cd.region ?_
  refine Ops.mv_int rfl rfl rfl ?_
  -- stop: BUILDSLICE 39 1 [('pair', [0, ('app', 'Go.Operand.tmp', [16])])] -> 17
  refine Ops.bs1I hS3 rfl rfl rfl ?_
  intro A6 w4 hS4
  have hS4 : St w w4 [CkI 2 A6 ((initB n v).2.length - 0) 1 ((initB n v).2.drop 0), CkI 2 A5 n n (initB n v).1] := hS4
  have hfin : distP next (-1) v = bfsD next (-1) (n + 1 - 0) 0 (initB n v) := by unfold distP; rw [hl]; rfl
  refine Ops.mv_sl rfl rfl rfl ?_
  refine Ops.nil ?_
  refine thenQ_n ?_
  refine Cd.block ?_
  -- stop: loop
  refine Cd.loop (α := Nat × Option Addr × Nat × (List Int × List Int)) (fun z => [(0, .slice A n c), (5, .slice A5 n n), (6, .slice z.2.1 (z.2.2.2.2.length - z.1) z.2.2.1)])
    (fun z w' => St w w' [CkI 2 z.2.1 (z.2.2.2.2.length - z.1) z.2.2.1 (z.2.2.2.2.drop z.1), CkI 2 A5 n n z.2.2.2.1] ∧ BF n z.2.2.2 ∧ z.1 ≤ z.2.2.2.2.length ∧ distP next (-1) v = bfsD next (-1) (n + 1 - z.1) z.1 z.2.2.2)
    (fun z => n + 1 - z.1) (0, A6, 1, initB n v) ⟨rfl, rfl, rfl, trivial⟩ ⟨hS4, BF.init h0 h1, Nat.zero_le _, hfin⟩ ?_
  rintro ⟨i, A10, c10, st⟩ e w5 ⟨hS5, hB, hi, hD⟩
  dsimp only at hS5 hB hi hD ⊢
  have hql := hB.len2
  refine Cd.seq ?_
  refine Cd.seq ?_
  refine Cd.region ?_
  refine Ops.mv_sl rfl rfl rfl ?_
  refine Ops.len rfl rfl ?_
  refine Ops.gtr rfl rfl rfl ?_
  refine Ops.nil ?_
  refine thenQ_n ?_
  -- stop: cond
  refine Cd.cond_p _ rfl (fun h3 => ?_) (fun h3 => ?_)
  · have hi' : i < st.2.length := by omega
    have hQ := hS5.rdI 0 rfl
    have hum : gi st.2 (i : Int) ∈ st.2 := gi_in hi'
    have hur := hB.rng _ hum
    have hrow := hg.row (gi st.2 (i : Int)) hur.1
    have hR5 := hS5.oldRows hR
    rw [bfsD_go hi' (by omega)] at hD
    refine Cd.skip ?_
    refine thenQ_n ?_
    refine Cd.seq ?_
    refine Cd.block ?_
    refine Cd.seq ?_
    refine Cd.region ?_
    refine Ops.mv_sl rfl rfl rfl ?_
    refine Ops.mv_sl rfl rfl rfl ?_
    -- stop: INDEXADDR 39 t24 0 -> 25
    refine Ops.idx hQ.2 rfl rfl rfl (by omega) (by omega) ?_
    refine Ops.ld_int hQ rfl (by omega) rfl rfl ?_
    rw [gi_drop]
    generalize hu : gi st.2 (i : Int) = u at *
    have hnr : (gl next u).length = (rg rs u).n := hR.rowLen hur.1 hur.2
    refine Ops.idx hR5.top.2 rfl rfl rfl hur.1 hur.2 ?_
    refine Ops.ld_sl hR5.top rfl (by omega) rfl rfl ?_
    refine Ops.len rfl rfl ?_
    refine Ops.mv_int rfl rfl rfl ?_
    refine Ops.nil ?_
    refine thenQ_n ?_
    refine Cd.block ?_
    -- stop: loop
    refine Cd.loop (α := Nat × Option Addr × Nat × (List Int × List Int)) (fun z => [(0, .slice A n c), (5, .slice A5 n n), (6, .slice z.2.1 (z.2.2.2.2.length - i) z.2.2.1), (28, .slice (rg rs u).a (rg rs u).n (rg rs u).c), (29, .int .i64 ((rg rs u).n : Int)), (30, .int .i64 (z.1 : Int))])
      (fun z w' => St w w' [CkI 2 z.2.1 (z.2.2.2.2.length - i) z.2.2.1 (z.2.2.2.2.drop i), CkI 2 A5 n n z.2.2.2.1] ∧ z.1 ≤ (gl next u).length ∧ z.2.2.2 = rowB (-1) u ((gl next u).take z.1) st)
      (fun z => (gl next u).length - z.1) (0, A10, c10, st) ⟨rfl, rfl, rfl, rfl, rfl, rfl, trivial⟩ ⟨hS5, Nat.zero_le _, rfl⟩ ?_
    rintro ⟨j, A11, c11, sj⟩ e w6 ⟨hS6, hj, hsj⟩
    dsimp only at hS6 hj hsj ⊢
    obtain ⟨hBj, hpre⟩ := BF.row (wo := -1) ((gl next u).take j) hB hum (fun x hx => hrow.1 x (List.mem_of_mem_take hx))
    rw [← hsj] at hBj hpre
    have hR6 := hS6.oldRows hR
    have hqj := hBj.len2
    have hlj := hBj.len
    have hpl := hpre.length_le
    have hui : gi sj.2 (i : Int) = u := by rw [← hu]; exact gi_prefix hpre hi'
    refine Cd.seq ?_
    refine Cd.region ?_
    refine Ops.lss rfl rfl rfl ?_
    refine Ops.nil ?_
    refine thenQ_n ?_
    refine Cd.seq ?_
    -- stop: cond
    refine Cd.cond_p _ rfl (fun h4 => ?_) (fun h4 => ?_)
    · have hj' : j < (gl next u).length := by omega
      have hrowR := hR6.at_ (i := u) hur.1 hur.2
      have hxm : gi (gl next u) (j : Int) ∈ gl next u := gi_in hj'
      have hx := hrow.1 _ hxm
      have hstep : rowB (-1) u ((gl next u).take (j + 1)) st = stepB (-1) u sj (gi (gl next u) (j : Int)) := by rw [take_succ_gi hj', rowB_snoc, ← hsj]
      have hO := hS6.rdI 1 rfl
      have hQj := hS6.rdI 0 rfl
      have hgu := hBj.val _ (gi_in2 (l := sj.1) hur.1 (by omega))
      refine Cd.skip ?_
      refine thenQ_n ?_
      refine Cd.seq ?_
      refine Cd.block ?_
      refine Cd.seq ?_
      refine Cd.region ?_
      -- stop: INDEXADDR 39 t28 t30 -> 32
      refine Ops.idx hrowR.2 rfl rfl rfl (by omega) (by omega) ?_
      refine Ops.ld_int hrowR rfl (by omega) rfl rfl ?_
      generalize hxe : gi (gl next u) (j : Int) = x at *
      refine Ops.mv_int rfl rfl rfl ?_
      refine Ops.nil ?_
      refine thenQ_n ?_
      refine Cd.seq ?_
      refine Cd.region ?_
      refine Ops.mv_sl rfl rfl rfl ?_
      refine Ops.mv_int rfl rfl rfl ?_
      -- stop: INDEXADDR 39 t34 t35 -> 36
      refine Ops.idx hO.2 rfl rfl rfl hx.1 hx.2 ?_
      refine Ops.ld_int hO rfl (by omega) rfl rfl ?_
      refine Ops.lss rfl rfl rfl ?_
      refine Ops.nil ?_
      refine thenQ_n ?_
      -- stop: cond
      refine Cd.cond_p _ rfl (fun h5 => ?_) (fun h5 => ?_)
      · have hst : stepB (-1) u sj x = (sj.1.set x.toNat (gi sj.1 u + 1), sj.2 ++ [x]) := by unfold stepB; rw [if_pos ⟨h5, by omega⟩]
        refine Cd.seq ?_
        refine Cd.region ?_
        refine Ops.mv_sl rfl rfl rfl ?_
        refine Ops.mv_int rfl rfl rfl ?_
        refine Ops.mv_sl rfl rfl rfl ?_
        refine Ops.mv_sl rfl rfl rfl ?_
        -- stop: INDEXADDR 39 t42 0 -> 43
        refine Ops.idx hQj.2 rfl rfl rfl (by omega) (by omega) ?_
        refine Ops.ld_int hQj rfl (by show Int.toNat 0 < _; rw [show Int.toNat 0 = 0 from rfl]; omega) rfl rfl ?_
        rw [gi_drop, hui]
        refine Ops.idx hO.2 rfl rfl rfl hur.1 hur.2 ?_
        refine Ops.ld_int hO rfl (by omega) rfl rfl ?_
        refine Ops.add rfl rfl rfl (by omega) ?_
        -- stop: INDEXADDR 39 t39 t40 -> 48
        refine Ops.idx hO.2 rfl rfl rfl hx.1 hx.2 ?_
        refine Ops.st_int 1 hS6 rfl rfl rfl (by omega) ?_
        intro w7 hS7
        refine Ops.nil ?_
        refine thenQ_n ?_
        refine Cd.region ?_
        refine Ops.mv_sl rfl rfl rfl ?_
        refine Ops.mv_int rfl rfl rfl ?_
        -- stop: BUILDSLICE 39 1 [('pair', [0, ('app', 'Go.Operand.tmp', [50])])] -> 51
        refine Ops.bs1I hS7 rfl rfl rfl ?_
        intro A12 w8 hS8
        refine Ops.appI 1 hS8 rfl (hS8.rdI 0 rfl) rfl rfl rfl (by omega) (by omega) rfl ?_
        intro A13 c13 w9 hS9
        refine Ops.mv_sl rfl rfl rfl ?_
        refine Ops.nil ?_
        refine blockQ_n ?_
        refine thenQ_n ?_
        refine Cd.region ?_
        refine Ops.add rfl rfl rfl (by omega) ?_
        refine Ops.mv_int rfl rfl rfl ?_
        refine Ops.nil ?_
        refine thenQ_n ?_
        -- stop: round
        have e2 : (sj.2 ++ [x]).length - i = sj.2.length - i + 1 := by simp; omega
        have e3 : (sj.2 ++ [x]).drop i = sj.2.drop i ++ [x] := List.drop_append_of_le_length (by omega)
        refine ⟨(j + 1, A13, c13, stepB (-1) u sj x), by show _ - (j + 1) < _ - j; omega, ⟨rfl, rfl, by show Value.slice _ _ _ = .slice _ _ _; rw [hst]; show Value.slice _ _ _ = .slice _ ((sj.2 ++ [x]).length - i) _; rw [e2], rfl, rfl, rfl, trivial⟩, ?_, hj', hstep.symm⟩
        show St w w9 [CkI _ A13 ((stepB (-1) u sj x).2.length - i) c13 ((stepB (-1) u sj x).2.drop i), CkI _ A5 n n (stepB (-1) u sj x).1]
        rw [hst]
        show St w w9 [CkI _ A13 ((sj.2 ++ [x]).length - i) c13 ((sj.2 ++ [x]).drop i), CkI _ A5 n n (sj.1.set x.toNat (gi sj.1 u + 1))]
        rw [e2, e3]
        exact hS9.tail
      · have hst : stepB (-1) u sj x = sj := by unfold stepB; rw [if_neg (fun h => h5 h.1)]
        rw [hst] at hstep
        refine Cd.skip ?_
        refine blockQ_n ?_
        refine thenQ_n ?_
        refine Cd.region ?_
        refine Ops.add rfl rfl rfl (by omega) ?_
        refine Ops.mv_int rfl rfl rfl ?_
        refine Ops.nil ?_
        refine thenQ_n ?_
        -- stop: round
        exact ⟨(j + 1, A11, c11, sj), by show _ - (j + 1) < _ - j; omega, ⟨rfl, rfl, rfl, rfl, rfl, rfl, trivial⟩, hS6, hj', hstep.symm⟩
    · refine Cd.exit ?_
      refine thenQ_x ?_
      refine thenQ_x ?_
      refine blockQ_x ?_
      refine blockQ_n ?_
      refine thenQ_n ?_
      refine Cd.region ?_
      refine Ops.mv_sl rfl rfl rfl ?_
      -- stop: SLICE 39 t21 some 1 none none -> 22
      have hje : j = (gl next u).length := by omega
      subst hje
      rw [List.take_length] at hsj
      rw [← hsj] at hD
      refine Ops.cut_l rfl rfl rfl (by omega) ?_
      have hS7 := hS6.cutl (i := 0) rfl (show 1 ≤ sj.2.length - i by omega)
      have e2 : sj.2.length - i - 1 = sj.2.length - (i + 1) := by omega
      have e3 : (sj.2.drop i).drop 1 = sj.2.drop (i + 1) := by rw [List.drop_drop]
      refine Ops.mv_sl rfl rfl rfl ?_
      refine Ops.nil ?_
      refine thenQ_n ?_
      -- stop: round
      refine ⟨(i + 1, cutAt A11 c11 1, c11 - 1, sj), by show n + 1 - (i + 1) < n + 1 - i; omega, ⟨rfl, rfl, by show Value.slice _ _ _ = .slice _ _ _; rw [← e2]; rfl, trivial⟩, ?_, hBj, by show i + 1 ≤ sj.2.length; omega, by show distP next (-1) v = bfsD next (-1) (n + 1 - (i + 1)) (i + 1) sj; rw [hD]; congr 1⟩
      show St w w6 [CkI _ (cutAt A11 c11 1) (sj.2.length - (i + 1)) (c11 - 1) (sj.2.drop (i + 1)), _]
      rw [← e2, ← e3]
      exact hS7
  · refine Cd.exit ?_
    refine thenQ_x ?_
    refine thenQ_x ?_
    refine blockQ_x ?_
    refine thenQ_n ?_
    refine Cd.seq ?_
    refine Cd.region ?_
    refine Ops.mv_sl rfl rfl rfl ?_
    refine Ops.mv_sl rfl rfl rfl ?_
    refine Ops.nil ?_
    refine thenQ_n ?_
    refine Cd.ret ?_
    refine ret1_s rfl ?_
    -- stop: end
    rw [bfsD_end (by omega)] at hD
    rw [hD]
    exact ⟨A5, rfl, hS5.tail⟩
end Go.Proofs.Ytpdhjnacnmfbjaa.Vc
