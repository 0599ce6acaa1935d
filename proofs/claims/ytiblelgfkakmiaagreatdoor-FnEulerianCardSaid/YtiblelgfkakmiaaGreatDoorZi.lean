/-
  The texts Pm4, El3, El7, Su1, El8, D6, Cx0, Cx1, Cx2, Cw8 in one. Conditions: as each part states them.
-/
import Derived.Test.YtiblelgfkakmiaaGreatDoorZh
import Derived.Test.YtiblelgfkakmiaaGreatDoorZf
import Derived.Test.YtiblelgfkakmiaaGreatDoorZc
import Derived.Test.YtiblelgfkakmiaaGreatDoorZg
import Derived.Test.YtiblelgfkakmiaaGreatDoorZb
/-
 Pseudomanifolds on both sides.
-/
namespace Go.Proofs.YtiblelgfkakmiaaGreatDoor.Vc
open Go.RowKit
theorem implIsPseudo_c (V : Int) (A : Option Addr) (n c : Nat) (rs : List SlV) (F : List (List Int)) (w : World) (hT : Tab w) (hR : RowsI w A n rs F) (hn : n ≤ 9223372036854775807) :
  Ret Tryz.prog 21 [.agg #[.int .i64 V, .slice A n c]] w (fun v w' => ∃ b : Bool, v = .tuple #[.bool b, .int .i64 (hvK V F)] ∧ (b = true ↔ Cplx V F ∧ PsM F) ∧ St w w' []) := by
 have hFl := hR.len
 refine Ret.of_cd Tryz.func21 rfl Tryz.ntmps21 rfl (post2 rfl) (Cd.seq (Cd.region (Ops.box2 (St.refl w) rfl rfl ?_)))
 intro Ab w1 hS1
 refine Ops.mb rfl rfl rfl (Ops.mi rfl rfl rfl (Ops.n (tQ (Cd.seq (Cd.seq (Cd.region (Ops.ld_agg 1 (hS1.rd 0 rfl) rfl rfl rfl (Ops.call (isComplex_c V A n c rs F _ (hT.later hS1.below) (hS1.oldRows hR) hn) rfl rfl rfl ?_))))))))
 rintro _ w2 ⟨rfl, hst⟩
 have hS2 := hS1.later hst.below
 unfold hvK
 first | refine Ops.not_p rfl rfl ?_ | refine Ops.not rfl rfl ?_
 refine Ops.n (tQ ?_)
 refine Cd.cond_p _ rfl (fun h1 => ?_) (fun h1 => ?_)
 ·rw [if_neg h1]
  refine Cd.seq (Cd.region (Ops.mb rfl rfl rfl (Ops.mi rfl rfl rfl (Ops.n (tQ (Cd.ret (thenQ_r (ret2_bi rfl rfl ?_))))))))
  exact ⟨false, rfl, ⟨fun h => (by cases h), fun h => absurd h.1 h1⟩, hS2.none⟩
 have hC := Classical.not_not.1 h1
 rw [if_pos hC]
 refine Cd.skip (tQ (Cd.seq (Cd.region (Ops.call (isPseudo_c Ab V A n c rs F _ (hT.later hS2.below) (hS2.rd 0 rfl) (hS2.oldRows hR) hC) rfl rfl rfl ?_))))
 rintro _ w3 ⟨b, rfl, hb, hst3⟩
 refine Ops.mb rfl rfl rfl (Ops.mi rfl rfl rfl (Ops.n (tQ (Cd.ret (ret2_bi rfl rfl ?_)))))
 exact ⟨b, rfl, hb.trans ⟨fun h => ⟨hC, h⟩, fun h => h.2⟩, (hS2.later hst3.below).none⟩
def meQ (n : Nat) (Q : List Nat) : List Bool := (List.range n).map fun k => decide (k ∈ Q)
theorem meQ_len (n : Nat) (Q : List Nat) : (meQ n Q).length = n := by simp [meQ]
theorem meQ_at {n : Nat} {Q : List Nat} {k : Nat} (h : k < n) : gb (meQ n Q) (k : Int) = decide (k ∈ Q) := by simp [gb, meQ, List.getD_eq_getElem?_getD, h]
theorem meQ_add {n : Nat} {Q : List Nat} {k : Nat} : (meQ n Q).set k true = meQ n (Q ++ [k]) := by
 apply List.ext_getElem
 ·simp [meQ]
 ·intro j h1 h2
  have hj : j < n := by rw [meQ_len] at h2; exact h2
  rw [List.getElem_set]
  by_cases e : k = j
  ·subst e; simp [meQ]
  ·rw [if_neg e]
   have : ¬ j = k := fun h => e h.symm
   simp [meQ, this]
def inQ (Q : List Nat) : List Int := Q.map fun (k : Nat) => (k : Int)
structure PsQ (F : List (List Int)) (i : Nat) (Q : List Nat) : Prop where
 nd : Q.Nodup
 lt : ∀ q ∈ Q, q < F.length
 rch : ∀ q ∈ Q, RchF F q
 zero : 0 ∈ Q
 cl : ∀ j, j < i → ∀ k, k < F.length → AdF F (Q.getD j 0) k → k ∈ Q
 le : i ≤ Q.length
theorem PsQ.len {F : List (List Int)} {i : Nat} {Q : List Nat} (h : PsQ F i Q) : Q.length ≤ F.length := nodup_le _ _ h.nd h.lt
theorem PsQ.done {F : List (List Int)} {Q : List Nat} (h : PsQ F Q.length Q) (hn : 0 < F.length) : Q.length = F.length ↔ ∀ k, k < F.length → RchF F k := by
 have key : ∀ k, RchF F k → k < F.length → k ∈ Q := fun k hk => by
  induction hk with
  | zero => exact fun _ => h.zero
  | step hr hi hj ha ih =>
   intro _
   obtain ⟨m, hm, e⟩ := List.mem_iff_getElem.1 (ih hi)
   exact h.cl m hm _ hj (by rw [List.getD_eq_getElem?_getD, List.getElem?_eq_getElem hm, Option.getD_some, e]; exact ha)
 constructor
 ·intro hl k hk
  have := sub_all h.nd (b := List.range F.length) (fun x hx => List.mem_range.2 (h.lt x hx)) (by rw [List.length_range]; omega) k (List.mem_range.2 hk)
  exact h.rch k this
 ·intro hr
  have h1 := h.len
  have h2 := sub_len (List.range F.length) Q List.nodup_range fun k hk => key k (hr k (List.mem_range.1 hk)) (List.mem_range.1 hk)
  rw [List.length_range] at h2
  omega
theorem getD_app {Q : List Nat} {j k : Nat} (h : j < Q.length) : (Q ++ [k]).getD j 0 = Q.getD j 0 := by
 simp [List.getD_eq_getElem?_getD, List.getElem?_append_left h]
set_option maxHeartbeats 4000000 in
theorem specIsPseudo_c (V : Int) (A : Option Addr) (n c : Nat) (rs : List SlV) (F : List (List Int)) (w : World) (hR : RowsI w A n rs F) (hn : n ≤ 9223372036854775807) :
    Ret Tryz.prog 22 [.agg #[.int .i64 V, .slice A n c]] w (fun v w' => ∃ b : Bool, v = .tuple #[.bool b, .int .i64 (hvK V F)] ∧ (b = true ↔ Cplx V F ∧ PsM F) ∧ St w w' []) := by
  have hFl := hR.len
  refine Ret.of_cd Tryz.func22 rfl Tryz.ntmps22 rfl (post2 rfl) (Cd.seq (Cd.region (Ops.box2 (St.refl w) rfl rfl ?_)))
  intro Ab w1 hS1
  refine Ops.mb rfl rfl rfl (Ops.mi rfl rfl rfl (Ops.n (tQ (Cd.seq (Cd.seq (Cd.region (Ops.ld_agg 1 (hS1.rd 0 rfl) rfl rfl rfl (Ops.call (l17Is_c V A n c rs F _ (hS1.oldRows hR) hn) rfl rfl rfl ?_))))))))
  rintro _ w2 ⟨rfl, hst⟩
  have hS2 : St w w2 [cxB Ab V A n c] := hS1.later hst.below
  unfold hvK
  first | refine Ops.not_p rfl rfl ?_ | refine Ops.not rfl rfl ?_
  refine Ops.n (tQ ?_)
  refine Cd.cond_p _ rfl (fun h1 => ?_) (fun h1 => ?_)
  · rw [if_neg h1]
    refine Cd.seq (Cd.region (Ops.mb rfl rfl rfl (Ops.mi rfl rfl rfl (Ops.n (tQ (Cd.ret (thenQ_r (ret2_bi rfl rfl ?_))))))))
    exact ⟨false, rfl, ⟨fun h => (by cases h), fun h => absurd h.1 h1⟩, hS2.none⟩
  have hC := Classical.not_not.1 h1
  have hF4 := hC.f
  have h6 : ∀ f ∈ F, f.length ≤ 6 := fun f hf => (hC.row f hf).1.2
  have hl6 : ∀ f ∈ F, f.length ≤ 1000000 := fun f hf => by have := h6 f hf; omega
  rw [if_pos hC]
  refine Cd.skip (tQ (Cd.seq (Cd.seq (Cd.region (Ops.ld_agg 1 (hS2.rd 0 rfl) rfl rfl rfl (Ops.call (l17Pure_c V A n c rs F _ (hS2.oldRows hR) (by omega)) rfl rfl rfl ?_))))))
  rintro _ w3 ⟨rfl, hst3⟩
  have hS3 : St w w3 [cxB Ab V A n c] := hS2.later hst3.below
  clear hS1 hS2 hst hst3
  first | refine Ops.not_p rfl rfl ?_ | refine Ops.not rfl rfl ?_
  refine Ops.mb rfl rfl rfl ?_
  refine Ops.split_p 17 rfl (fun h2 => ?_) (fun h2 => ?_)
  · refine Ops.k rfl rfl rfl rfl rfl (Ops.k rfl rfl rfl rfl rfl (Ops.k rfl rfl rfl rfl rfl (Ops.k rfl rfl rfl rfl rfl (Ops.pick_t rfl rfl rfl (Ops.n (tQ (Cd.cond_t rfl (Cd.seq (Cd.region ?_)))))))))
    refine Ops.mb rfl rfl rfl (Ops.mi rfl rfl rfl (Ops.n (tQ (Cd.ret (thenQ_r (ret2_bi rfl rfl ?_))))))
    exact ⟨false, rfl, ⟨fun h => (by cases h), fun h => absurd h.2.2.1 h2⟩, hS3.none⟩
  have hpu := Classical.not_not.1 h2
  refine Ops.g rfl rfl rfl (Ops.fld (hS3.rd 0 rfl) rfl rfl rfl rfl inferInstance (Ops.g rfl rfl rfl (Ops.ldf_s (hS3.rd 0 rfl) rfl rfl rfl rfl rfl (Ops.g rfl rfl rfl (Ops.len rfl rfl (Ops.g rfl rfl rfl (Ops.eql rfl rfl rfl (Ops.pick_f rfl rfl rfl (Ops.n ?_)))))))))
  refine tQ ?_
  refine Cd.cond_p _ rfl (fun h3 => ?_) (fun h3 => ?_)
  · have hnil : F = [] := List.eq_nil_of_length_eq_zero (by omega)
    refine Cd.seq (Cd.region (Ops.mb rfl rfl rfl (Ops.mi rfl rfl rfl (Ops.n (tQ (Cd.ret (thenQ_r (ret2_bi rfl rfl ?_))))))))
    exact ⟨false, rfl, ⟨fun h => (by cases h), fun h => absurd hnil h.2.1⟩, hS3.none⟩
  have hne : F ≠ [] := fun e => h3 (by rw [e] at hFl; simp at hFl; omega)
  have hn0 : 0 < F.length := by omega
  have hd1 := (pure_len hC hpu hn0).2.2
  have hDl := fcs_num (dpt F - 1) h6
  have hcat : ∀ q, q < (fcs F (dpt F - 1)).length → gi (cnL F (fcs F (dpt F - 1)) (fcs F (dpt F - 1)).length 0) (q : Int) = ((hasI F (gl (fcs F (dpt F - 1)) (q : Int))).length : Int) := fun q hq => by
    rw [cnL_at hq, cnE, if_pos hq, cntI_all]
  have hTwo : TwoR F ↔ ∀ q, q < (fcs F (dpt F - 1)).length → (hasI F (gl (fcs F (dpt F - 1)) (q : Int))).length = 2 := by
    constructor
    · intro h q hq
      obtain ⟨p, hp, e⟩ := List.mem_map.1 ((rdgs_mem hC hpu).2 ⟨(show gl (fcs F (dpt F - 1)) (q : Int) ∈ fcs F (dpt F - 1) by rw [gl_mem hq]; exact List.getElem_mem _), hne⟩)
      have h1 := h p hp
      rw [rdgs_nums hC hpu hp, e] at h1
      exact h1
    · intro h p hp
      rw [rdgs_nums hC hpu hp]
      obtain ⟨q, hq, e⟩ := List.mem_iff_getElem.1 ((rdgs_mem hC hpu).1 (List.mem_map.2 ⟨p, hp, rfl⟩)).1
      have := h q hq
      rwa [gl_mem hq, e] at this
  refine Cd.skip (tQ (Cd.seq (Cd.region (Ops.ld_agg 1 (hS3.rd 0 rfl) rfl rfl rfl (Ops.call (l17Ridges_c V A n c rs F _ (hS3.oldRows hR) (by omega) h6 hd1) rfl rfl rfl ?_)))))
  rintro _ w4 ⟨A4, c4, rs4, A5, c5, rfl, hrl4, hst4⟩
  generalize hD : fcs F (dpt F - 1) = D at *
  have hcl := cnL_len F D D.length 0
  generalize hcL : cnL F D D.length 0 = L at *
  have hS4 : St w w4 (CkI 2 A5 D.length c5 L :: [cxB Ab V A n c]) := by
    have := hS3.call hst4
    exact this.sub (List.Sublist.cons_cons _ (List.sublist_append_right _ _))
  clear hst4
  refine Ops.mv_tup rfl rfl rfl (Ops.extract rfl rfl rfl (Ops.extract rfl rfl rfl (Ops.ms rfl rfl rfl (Ops.ms rfl rfl rfl (Ops.n (tQ (Cd.seq (Cd.seq (Cd.region ?_)))))))))
  refine Ops.mi rfl rfl rfl (Ops.n (tQ (Cd.block ?_)))
  refine Cd.loop (α := Nat) (fun z => [(1, .pointer Ab), (5, .slice A5 D.length c5), (6, .int .i64 (z : Int))])
    (fun z w' => z ≤ D.length ∧ (∀ q, q < z → (hasI F (gl D (q : Int))).length = 2) ∧ St w w' (CkI 2 A5 D.length c5 L :: [cxB Ab V A n c])) (fun z => D.length - z) 0 ⟨rfl, rfl, rfl, trivial⟩ ⟨Nat.zero_le _, (fun q hq => absurd hq (by omega)), hS4⟩ ?_
  clear hS4 hS3
  rintro r e w5 ⟨hr, hr2, hS⟩
  refine Cd.seq (Cd.seq (Cd.region (Ops.mi rfl rfl rfl (Ops.ms rfl rfl rfl (Ops.len rfl rfl (Ops.lss rfl rfl rfl (Ops.n (tQ ?_))))))))
  refine Cd.cond_p _ rfl (fun h4 => ?_) (fun h4 => ?_)
  · have hrD : r < D.length := by omega
    have hO : RdI w5 A5 D.length L := hS.rdI 0 rfl
    refine Cd.skip (tQ (Cd.seq (Cd.block (Cd.seq (Cd.region (Ops.ms rfl rfl rfl (Ops.mi rfl rfl rfl (Ops.idx hO.2 rfl rfl rfl (by omega) (by omega) (Ops.ld_int hO rfl (by omega) rfl rfl ?_)))))))))
    rw [hcat r hrD]
    refine Ops.neq rfl rfl rfl (Ops.n (tQ ?_))
    refine Cd.cond_p _ rfl (fun h5 => ?_) (fun h5 => ?_)
    · refine Cd.seq (Cd.region (Ops.mb rfl rfl rfl (Ops.mi rfl rfl rfl (Ops.n (tQ (Cd.ret (blockQ_r (thenQ_r (thenQ_r ?_)))))))))
      refine blockQ_r (thenQ_r (ret2_bi rfl rfl ?_))
      exact ⟨false, rfl, ⟨fun h => (by cases h), fun h => absurd (hTwo.1 h.2.2.2.1 r hrD) (fun e => h5 (by omega))⟩, hS.none⟩
    · refine Cd.skip (blockQ_n (tQ (Cd.region (Ops.mi rfl rfl rfl (Ops.add rfl rfl rfl (by omega) (Ops.mi rfl rfl rfl (Ops.n (tQ ?_))))))))
      exact ⟨r + 1, by show D.length - (r + 1) < D.length - r; omega, ⟨rfl, rfl, rfl, trivial⟩, by omega, fun q hq => by
        by_cases e : q = r
        · subst e; omega
        · exact hr2 q (by omega), hS⟩
  have h2T := hTwo.2 fun q hq => hr2 q (by omega)
  have hS := hS.tail
  refine Cd.exit (thenQ_x (thenQ_x (blockQ_x (tQ (Cd.seq (Cd.region (Ops.fld (hS.rd 0 rfl) rfl rfl rfl rfl inferInstance (Ops.ldf_s (hS.rd 0 rfl) rfl rfl rfl rfl rfl (Ops.len rfl rfl ?_)))))))))
  refine Ops.mkB n hS rfl rfl (by omega) ?_
  intro A7 w6 hS6
  have hB6 := hS6.rdB 0 rfl
  refine Ops.ms rfl rfl rfl (Ops.n (tQ (Cd.seq (Cd.region (Ops.ms rfl rfl rfl (Ops.idx (i := 0) hB6.2 rfl rfl rfl (by omega) (by omega) ?_))))))
  refine Ops.st_bool (te := 4) (i := 0) 0 hS6 rfl rfl rfl (by show 0 < n; omega) ?_
  intro w7 hS7
  have e0 : (List.replicate n false).set (0 : Int).toNat true = meQ n [0] := by
    have h0 : List.replicate n false = meQ n [] := by
      apply List.ext_getElem
      · simp [meQ]
      · intro j h1 h2; simp [meQ]
    rw [h0]; exact meQ_add
  have hS7 : St w w7 [CkB 4 A7 n n (meQ n [0]), cxB Ab V A n c] := by rw [← e0]; exact hS7
  refine Ops.n (tQ (Cd.seq (Cd.region (Ops.bs1I hS7 rfl rfl rfl ?_))))
  intro A8 w8 hS8
  have hS8 : St w w8 [CkI 3 A8 [0].length 1 (inQ [0]), CkB 4 A7 n n (meQ n [0]), cxB Ab V A n c] := hS8
  have hQ0 : PsQ F 0 [0] := ⟨by simp, fun q hq => by obtain rfl := List.mem_singleton.1 hq; exact hn0, fun q hq => by obtain rfl := List.mem_singleton.1 hq; exact .zero, by simp, fun j hj => absurd hj (by omega), Nat.zero_le _⟩
  clear hS6 hS7 hB6 hS
  refine Ops.ms rfl rfl rfl (Ops.n (tQ (Cd.seq (Cd.seq (Cd.region (Ops.mi rfl rfl rfl (Ops.n (tQ (Cd.block ?_)))))))))
  refine Cd.loop (α := Nat × (Option Addr × Nat) × List Nat) (fun z => [(1, .pointer Ab), (7, .slice A7 n n), (8, .slice z.2.1.1 z.2.2.length z.2.1.2), (9, .int .i64 (z.1 : Int))])
    (fun z w' => PsQ F z.1 z.2.2 ∧ St w w' [CkI 3 z.2.1.1 z.2.2.length z.2.1.2 (inQ z.2.2), CkB 4 A7 n n (meQ n z.2.2), cxB Ab V A n c]) (fun z => n - z.1) (0, (A8, 1), [0]) ⟨rfl, rfl, rfl, rfl, trivial⟩ ⟨hQ0, hS8⟩ ?_
  clear hS8 hQ0
  rintro ⟨i, ⟨A8, c8⟩, Q⟩ e w9 ⟨hQ, hS⟩
  dsimp only at hQ hS ⊢
  have hQl := hQ.len
  have hQi := hQ.le
  refine Cd.seq (Cd.seq (Cd.region (Ops.mi rfl rfl rfl (Ops.ms rfl rfl rfl (Ops.len rfl rfl (Ops.lss rfl rfl rfl (Ops.n (tQ ?_))))))))
  refine Cd.cond_p _ rfl (fun h5 => ?_) (fun h5 => ?_)
  · have hiQ : i < Q.length := by omega
    have hq0 := hQ.lt (Q.getD i 0) (by rw [List.getD_eq_getElem?_getD, List.getElem?_eq_getElem hiQ]; exact List.getElem_mem _)
    have hqr := hQ.rch (Q.getD i 0) (by rw [List.getD_eq_getElem?_getD, List.getElem?_eq_getElem hiQ]; exact List.getElem_mem _)
    generalize hqq : Q.getD i 0 = q0 at *
    refine Cd.skip (tQ (Cd.seq (Cd.block (Cd.seq (Cd.region (Ops.mi rfl rfl rfl (Ops.n (tQ (Cd.block ?_)))))))))
    refine Cd.loop (α := Nat × (Option Addr × Nat) × List Nat) (fun z => [(1, .pointer Ab), (7, .slice A7 n n), (8, .slice z.2.1.1 z.2.2.length z.2.1.2), (9, .int .i64 (i : Int)), (10, .int .i64 (z.1 : Int))])
      (fun z w' => z.1 ≤ n ∧ PsQ F i z.2.2 ∧ i < z.2.2.length ∧ z.2.2.getD i 0 = q0 ∧ (∀ j, j < z.1 → AdF F q0 j → j ∈ z.2.2) ∧ St w w' [CkI 3 z.2.1.1 z.2.2.length z.2.1.2 (inQ z.2.2), CkB 4 A7 n n (meQ n z.2.2), cxB Ab V A n c]) (fun z => n - z.1) (0, (A8, c8), Q) ⟨rfl, rfl, rfl, rfl, rfl, trivial⟩ ⟨Nat.zero_le _, hQ, hiQ, hqq, (fun j hj => absurd hj (by omega)), hS⟩ ?_
    clear hS hQ hQl hQi hqq hiQ h5
    rintro ⟨k, ⟨A8, c8⟩, Q⟩ e w10 ⟨hk, hQ, hiQ, hqq, hcl, hS⟩
    dsimp only at hk hQ hiQ hqq hcl hS ⊢
    have hQl := hQ.len
    have hBx := hS.rd 2 rfl
    refine Cd.seq (Cd.seq (Cd.region (Ops.mi rfl rfl rfl (Ops.fld hBx rfl rfl rfl rfl inferInstance (Ops.ldf_s hBx rfl rfl rfl rfl rfl (Ops.len rfl rfl (Ops.lss rfl rfl rfl (Ops.n (tQ ?_)))))))))
    refine Cd.cond_p _ rfl (fun h6 => ?_) (fun h6 => ?_)
    · have hkn : k < n := by omega
      have hmet : RdB w10 A7 n (meQ n Q) := hS.rdB 1 rfl
      have hqu : RdI w10 A8 Q.length (inQ Q) := hS.rdI 0 rfl
      have hM := hS.oldRows hR
      have hgq : gi (inQ Q) (i : Int) = (q0 : Int) := by
        rw [gi_mem (by simp [inQ]; omega)]
        simp only [inQ, List.getElem_map]
        rw [← hqq, List.getD_eq_getElem?_getD, List.getElem?_eq_getElem hiQ]; rfl
      have hra := hM.at_ (i := (k : Int)) (by omega) (by omega)
      have hrb := hM.at_ (i := (q0 : Int)) (by omega) (by omega)
      have hla := hra.1
      have hlb := hrb.1
      have hka := (hC.at_ (show k < F.length by omega)).1.2
      have hkb := (hC.at_ (show q0 < F.length by omega)).1.2
      have hmk := meQ_at (Q := Q) hkn
      by_cases hkQ : k ∈ Q --dup 2
      · rw [decide_eq_true hkQ] at hmk
        refine Cd.skip (tQ (Cd.seq (Cd.block (Cd.seq ?_))))
        refine Cd.draw [.ex (.slice (A7) (n) (n)), .ex (.int .i64 ((k : Int))), .ex (.pointer (ptrAt (A7) ((k : Int)).toNat)), .ex (.bool (true)), .ex (.bool (false)), .ex (.bool (false)), .ex (undef), .ex (undef), .ex (undef), .ex (undef), .ex (undef), .ex (undef), .ex (undef), .ex (undef), .ex (undef), .ex (undef), .ex (undef), .ex (undef), .ex (undef), .ex (undef), .ex (undef), .ex (undef), .ex (.bool (false))] (by kernel_rfl) (by kernel_rfl) rfl (lx (lx (lx (lx (lx (lx (lx (lx (lx (lx (lx (lx (lx (lx (lx (lx (lx (lx (lx (lx (lx (lx (lx (fun _ h => by cases h)))))))))))))))))))))))) ⟨?_, ?_, ?_, ?_, ?_, ?_, ?_, ?_, ?_, ?_, ?_, ?_, ?_, ?_, ?_, ?_, ?_, ?_, ?_, ?_, ?_, ?_, ?_, trivial⟩ ?_
        · intro e1 w1 hb hp hun
          refine Ops.ms rfl rfl rfl (Ops.n (d0 (by exact rfl)))
        · intro e1 w1 hb hp hun
          refine Ops.mi rfl rfl rfl (Ops.n (d0 (by exact rfl)))
        · intro e1 w1 hb hp hun
          refine Ops.idx (hmet.later hb).2 rfl rfl rfl (by omega) (by omega) (Ops.n (d0 (by exact rfl)))
        · intro e1 w1 hb hp hun
          refine Ops.ld_bool (hmet.later hb) rfl (by omega) rfl rfl (Ops.n ?_)
          exact d0 (by exact congrArg Value.bool (hmk))
        · intro e1 w1 hb hp hun
          refine Ops.not rfl rfl (Ops.n ?_)
          exact d0 (by exact congrArg Value.bool (rfl))
        · intro e1 w1 hb hp hun
          refine Ops.mb rfl rfl rfl (Ops.n (d0 (by exact rfl)))
        · intro e1 w1 hb hp hun
          refine Ops.k rfl rfl rfl rfl rfl (Ops.n (d0 (by exact rfl)))
        · intro e1 w1 hb hp hun
          refine Ops.k rfl rfl rfl rfl rfl (Ops.n (d0 (by exact rfl)))
        · intro e1 w1 hb hp hun
          refine Ops.k rfl rfl rfl rfl rfl (Ops.n (d0 (by exact rfl)))
        · intro e1 w1 hb hp hun
          refine Ops.k rfl rfl rfl rfl rfl (Ops.n (d0 (by exact rfl)))
        · intro e1 w1 hb hp hun
          refine Ops.k rfl rfl rfl rfl rfl (Ops.n (d0 (by exact rfl)))
        · intro e1 w1 hb hp hun
          refine Ops.k rfl rfl rfl rfl rfl (Ops.n (d0 (by exact rfl)))
        · intro e1 w1 hb hp hun
          refine Ops.k rfl rfl rfl rfl rfl (Ops.n (d0 (by exact rfl)))
        · intro e1 w1 hb hp hun
          refine Ops.k rfl rfl rfl rfl rfl (Ops.n (d0 (by exact rfl)))
        · intro e1 w1 hb hp hun
          refine Ops.k rfl rfl rfl rfl rfl (Ops.n (d0 (by exact rfl)))
        · intro e1 w1 hb hp hun
          refine Ops.k rfl rfl rfl rfl rfl (Ops.n (d0 (by exact rfl)))
        · intro e1 w1 hb hp hun
          refine Ops.k rfl rfl rfl rfl rfl (Ops.n (d0 (by exact rfl)))
        · intro e1 w1 hb hp hun
          refine Ops.k rfl rfl rfl rfl rfl (Ops.n (d0 (by exact rfl)))
        · intro e1 w1 hb hp hun
          refine Ops.k rfl rfl rfl rfl rfl (Ops.n (d0 (by exact rfl)))
        · intro e1 w1 hb hp hun
          refine Ops.k rfl rfl rfl rfl rfl (Ops.n (d0 (by exact rfl)))
        · intro e1 w1 hb hp hun
          refine Ops.k rfl rfl rfl rfl rfl (Ops.n (d0 (by exact rfl)))
        · intro e1 w1 hb hp hun
          refine Ops.k rfl rfl rfl rfl rfl (Ops.n (d0 (by exact rfl)))
        · intro e1 w1 hb hp hun
          refine Ops.pick_f rfl rfl rfl (Ops.n (d0 (by exact rfl)))
        intro u w11 hb11 _
        have hS11 := hS.later hb11
        refine tQ (Cd.cond_f rfl (Cd.skip (blockQ_n (tQ (Cd.region (Ops.mi rfl rfl rfl (Ops.add rfl rfl rfl (by omega) (Ops.mi rfl rfl rfl (Ops.n ?_)))))))))
        refine tQ ?_
        exact ⟨(k + 1, (A8, c8), Q), by show n - (k + 1) < n - k; omega, ⟨rfl, rfl, rfl, rfl, rfl, trivial⟩, by show k + 1 ≤ n; omega, hQ, hiQ, hqq, fun j hj ha => by
          have hj : j < k + 1 := hj
          by_cases ej : j = k
          · subst ej; exact hkQ
          · exact hcl j (by omega) ha, hS11⟩
      · rw [decide_eq_false hkQ] at hmk
        refine Cd.skip (tQ (Cd.seq (Cd.block (Cd.seq ?_))))
        refine Cd.draw [.ex (.slice (A7) (n) (n)), .ex (.int .i64 ((k : Int))), .ex (.pointer (ptrAt (A7) ((k : Int)).toNat)), .ex (.bool (false)), .ex (.bool (true)), .ex (.bool (true)), .ex (.pointer (ptrAt (Ab) 1)), .ex (.slice (A) (n) (c)), .ex (.int .i64 ((k : Int))), .ex (.pointer (ptrAt (A) ((k : Int)).toNat)), .ex (.slice ((rg (rs) ((k : Int))).a) ((rg (rs) ((k : Int))).n) ((rg (rs) ((k : Int))).c)), .ex (.pointer (ptrAt (Ab) 1)), .ex (.slice (A) (n) (c)), .ex (.slice (A8) (Q.length) (c8)), .ex (.int .i64 ((i : Int))), .ex (.pointer (ptrAt (A8) ((i : Int)).toNat)), .ex (.int .i64 ((q0 : Int))), .ex (.pointer (ptrAt (A) ((q0 : Int)).toNat)), .ex (.slice ((rg (rs) ((q0 : Int))).a) ((rg (rs) ((q0 : Int))).n) ((rg (rs) ((q0 : Int))).c)), .pr (fun v w' => ∃ A2 c2, v = .slice A2 (lessL (gl F (k : Int)) (gl F (q0 : Int))).length c2), .ex (.int .i64 (((lessL (gl F (k : Int)) (gl F (q0 : Int))).length : Nat))), .ex (.bool (decide ((((lessL (gl F (k : Int)) (gl F (q0 : Int))).length : Nat)) = ((1 : Int))))), .ex (.bool (decide ((((lessL (gl F (k : Int)) (gl F (q0 : Int))).length : Nat)) = ((1 : Int)))))] (by kernel_rfl) (by kernel_rfl) rfl (lx (lx (lx (lx (lx (lx (lx (lx (lx (lx (lx (lx (lx (lx (lx (lx (lx (lx (lx (List.forall_mem_cons.2 ⟨Yd.lasts_pr (fun v w w' h hb => h), (lx (lx (lx (fun _ h => by cases h))))⟩)))))))))))))))))))) ⟨?_, ?_, ?_, ?_, ?_, ?_, ?_, ?_, ?_, ?_, ?_, ?_, ?_, ?_, ?_, ?_, ?_, ?_, ?_, ?_, ?_, ?_, ?_, trivial⟩ ?_
        · intro e1 w1 hb hp hun
          refine Ops.ms rfl rfl rfl (Ops.n (d0 (by exact rfl)))
        · intro e1 w1 hb hp hun
          refine Ops.mi rfl rfl rfl (Ops.n (d0 (by exact rfl)))
        · intro e1 w1 hb hp hun
          refine Ops.idx (hmet.later hb).2 rfl rfl rfl (by omega) (by omega) (Ops.n (d0 (by exact rfl)))
        · intro e1 w1 hb hp hun
          refine Ops.ld_bool (hmet.later hb) rfl (by omega) rfl rfl (Ops.n ?_)
          exact d0 (by exact congrArg Value.bool (hmk))
        · intro e1 w1 hb hp hun
          refine Ops.not rfl rfl (Ops.n ?_)
          exact d0 (by exact congrArg Value.bool (rfl))
        · intro e1 w1 hb hp hun
          refine Ops.mb rfl rfl rfl (Ops.n (d0 (by exact rfl)))
        · intro e1 w1 hb hp hun
          refine Ops.g rfl rfl rfl (Ops.fld (hBx.below hb) rfl rfl rfl rfl inferInstance (Ops.n (d0 (by exact rfl))))
        · intro e1 w1 hb hp hun
          refine Ops.g rfl rfl rfl (Ops.ldf_s (hBx.below hb) rfl rfl rfl rfl rfl (Ops.n (d0 (by exact rfl))))
        · intro e1 w1 hb hp hun
          refine Ops.g rfl rfl rfl (Ops.mi rfl rfl rfl (Ops.n (d0 (by exact rfl))))
        · intro e1 w1 hb hp hun
          refine Ops.g rfl rfl rfl (Ops.idx (hM.top.later hb).2 rfl rfl rfl (by omega) (by omega) (Ops.n (d0 (by exact rfl))))
        · intro e1 w1 hb hp hun
          refine Ops.g rfl rfl rfl (Ops.ld_sl (hM.top.later hb) rfl (by omega) rfl rfl (Ops.n (d0 (by exact rfl))))
        · intro e1 w1 hb hp hun
          refine Ops.g rfl rfl rfl (Ops.fld (hBx.below hb) rfl rfl rfl rfl inferInstance (Ops.n (d0 (by exact rfl))))
        · intro e1 w1 hb hp hun
          refine Ops.g rfl rfl rfl (Ops.ldf_s (hBx.below hb) rfl rfl rfl rfl rfl (Ops.n (d0 (by exact rfl))))
        · intro e1 w1 hb hp hun
          refine Ops.g rfl rfl rfl (Ops.ms rfl rfl rfl (Ops.n (d0 (by exact rfl))))
        · intro e1 w1 hb hp hun
          refine Ops.g rfl rfl rfl (Ops.mi rfl rfl rfl (Ops.n (d0 (by exact rfl))))
        · intro e1 w1 hb hp hun
          refine Ops.g rfl rfl rfl (Ops.idx (hqu.later hb).2 rfl rfl rfl (by omega) (by omega) (Ops.n (d0 (by exact rfl))))
        · intro e1 w1 hb hp hun
          refine Ops.g rfl rfl rfl (Ops.ld_int (hqu.later hb) rfl (by omega) rfl rfl ?_)
          rw [hgq]
          refine Ops.n (d0 (by exact rfl))
        · intro e1 w1 hb hp hun
          refine Ops.g rfl rfl rfl (Ops.idx (hM.top.later hb).2 rfl rfl rfl (by omega) (by omega) (Ops.n (d0 (by exact rfl))))
        · intro e1 w1 hb hp hun
          refine Ops.g rfl rfl rfl (Ops.ld_sl (hM.top.later hb) rfl (by omega) rfl rfl (Ops.n (d0 (by exact rfl))))
        · intro e1 w1 hb hp hun
          refine Ops.g rfl rfl rfl (Ops.call (l17Without_c _ _ _ (gl F (k : Int)) _ _ _ (gl F (q0 : Int)) _ (hra.later hb) (hrb.later hb) (by omega) (by omega)) rfl rfl rfl ?_)
          rintro _ w2 ⟨A2, c2, rfl, hst⟩
          refine Ops.n ?_
          exact After.dn hst.below ⟨A2, c2, rfl⟩
        · intro e1 w1 hb hp hun
          refine Ops.g rfl rfl rfl ?_
          obtain ⟨A2, c2, h78⟩ := (hp 19 (by decide) rfl _ _ rfl rfl)
          refine Ops.len (by exact h78) rfl (Ops.n (d0 (by exact rfl)))
        · intro e1 w1 hb hp hun
          refine Ops.g rfl rfl rfl (Ops.eql rfl rfl rfl (Ops.n (d0 (by exact rfl))))
        · intro e1 w1 hb hp hun
          refine Ops.pick_t rfl rfl rfl (Ops.n (d0 (by exact rfl)))
        intro u w11 hb11 _
        have hS11 := hS.later hb11
        refine tQ ?_
        refine Cd.cond_p _ rfl (fun h7 => ?_) (fun h7 => ?_)
        · have hA : AdF F q0 k := by unfold AdF; omega
          have hBo := hS11.rdB 1 rfl
          refine Cd.seq (Cd.region (Ops.ms rfl rfl rfl (Ops.mi rfl rfl rfl (Ops.idx hBo.2 rfl rfl rfl (by omega) (by omega) (Ops.st_bool (te := 4) 1 hS11 rfl rfl rfl (by omega) ?_)))))
          intro w12 hS12
          refine Ops.n (tQ (Cd.region (Ops.ms rfl rfl rfl (Ops.mi rfl rfl rfl (Ops.bs1I hS12 rfl rfl rfl ?_)))))
          intro A87 w13 hS13
          refine Ops.appI 1 hS13 rfl (hS13.rdI 0 rfl) rfl rfl rfl (by omega) (by omega) rfl ?_
          intro A88 c88 w14 hS14
          have hS14 : St w w14 [CkI 3 A88 (Q.length + 1) c88 (inQ Q ++ [(k : Int)]), CkB 4 A7 n n ((meQ n Q).set k true), cxB Ab V A n c] := St.tail hS14
          rw [meQ_add] at hS14
          have hin : inQ (Q ++ [k]) = inQ Q ++ [(k : Int)] := by simp [inQ]
          have hln : (Q ++ [k]).length = Q.length + 1 := by simp
          refine Ops.ms rfl rfl rfl (Ops.n (blockQ_n (tQ (Cd.region (Ops.mi rfl rfl rfl (Ops.add rfl rfl rfl (by omega) (Ops.mi rfl rfl rfl (Ops.n (tQ ?_)))))))))
          refine ⟨(k + 1, (A88, c88), Q ++ [k]), by show n - (k + 1) < n - k; omega, ⟨rfl, rfl, by show Value.slice A88 (Q.length + 1) c88 = .slice A88 (Q ++ [k]).length c88; rw [hln], rfl, rfl, trivial⟩, by show k + 1 ≤ n; omega, ⟨?_, fun q hq => ?_, fun q hq => ?_, List.mem_append_left _ hQ.zero, fun j hj k' hk' ha => ?_, by have := hQ.le; show i ≤ (Q ++ [k]).length; omega⟩, by show i < (Q ++ [k]).length; omega, by show (Q ++ [k]).getD i 0 = q0; rw [getD_app hiQ]; exact hqq, fun j hj ha => ?_, by show St w w14 [CkI _ A88 (Q ++ [k]).length c88 (inQ (Q ++ [k])), _, _]; rw [hln, hin]; exact hS14⟩
          · rw [List.nodup_append]
            exact ⟨hQ.nd, by simp, fun a ha b hb e => hkQ (by rw [← List.mem_singleton.1 hb, ← e]; exact ha)⟩
          · rcases List.mem_append.1 hq with hq | hq
            · exact hQ.lt q hq
            · rw [List.mem_singleton.1 hq]; omega
          · rcases List.mem_append.1 hq with hq | hq
            · exact hQ.rch q hq
            · rw [List.mem_singleton.1 hq]; exact .step hqr (by omega) (by omega) hA
          · rw [getD_app (by omega)] at ha
            exact List.mem_append_left _ (hQ.cl j hj k' hk' ha)
          · have hj : j < k + 1 := hj
            by_cases ej : j = k
            · subst ej; exact List.mem_append_right _ (List.mem_singleton.2 rfl)
            · exact List.mem_append_left _ (hcl j (by omega) ha)
        · refine Cd.skip (blockQ_n (tQ (Cd.region (Ops.mi rfl rfl rfl (Ops.add rfl rfl rfl (by omega) (Ops.mi rfl rfl rfl (Ops.n (tQ ?_))))))))
          exact ⟨(k + 1, (A8, c8), Q), by show n - (k + 1) < n - k; omega, ⟨rfl, rfl, rfl, rfl, rfl, trivial⟩, by show k + 1 ≤ n; omega, hQ, hiQ, hqq, fun j hj ha => by
            have hj : j < k + 1 := hj
            by_cases ej : j = k
            · subst ej; exact absurd (show _ from ha) (fun h => h7 (by unfold AdF at h; omega))
            · exact hcl j (by omega) ha, hS11⟩
    · have hke : k = n := by omega
      refine Cd.exit (thenQ_x (thenQ_x (blockQ_x (blockQ_n (tQ (Cd.region (Ops.mi rfl rfl rfl (Ops.add rfl rfl rfl (by omega) (Ops.mi rfl rfl rfl ?_)))))))))
      refine Ops.n (tQ ?_)
      refine ⟨(i + 1, (A8, c8), Q), by show n - (i + 1) < n - i; omega, ⟨rfl, rfl, rfl, rfl, trivial⟩, ⟨hQ.nd, hQ.lt, hQ.rch, hQ.zero, fun j hj k' hk' ha => ?_, by show i + 1 ≤ Q.length; omega⟩, hS⟩
      have hj : j < i + 1 := hj
      by_cases ej : j = i
      · subst ej
        rw [hqq] at ha
        exact hcl k' (by omega) ha
      · exact hQ.cl j (by omega) k' hk' ha
  · have hie : i = Q.length := by omega
    subst hie
    have hdn := hQ.done hn0
    have hBx := hS.rd 2 rfl
    refine Cd.exit (thenQ_x (thenQ_x (blockQ_x (tQ (Cd.seq (Cd.region (Ops.ms rfl rfl rfl (Ops.len rfl rfl (Ops.fld hBx rfl rfl rfl rfl inferInstance ?_)))))))))
    refine Ops.ldf_s hBx rfl rfl rfl rfl rfl (Ops.len rfl rfl (Ops.eql rfl rfl rfl (Ops.mb rfl rfl rfl (Ops.mi rfl rfl rfl (Ops.n (tQ (Cd.ret (ret2_bi rfl rfl ?_))))))))
    refine ⟨_, rfl, ?_, hS.none⟩
    rw [decide_eq_true_eq]
    constructor
    · intro h
      exact ⟨hC, hne, hpu, h2T, hdn.1 (by omega)⟩
    · intro h
      have := hdn.2 h.2.2.2.2
      omega
/-
 Eulerian complexes: the reference's test, walked.
-/
theorem St.merge {w0 w : World} {ks ks' : List Ck} (h : St w0 w ks) (h' : St w0 w ks') (hk : ∀ k ∈ ks, isM k.vs = false) (hk' : ∀ k ∈ ks', isM k.vs = false) (he : ∀ k ∈ ks, ∀ k' ∈ ks', k.e ≠ k'.e) : St w0 w (ks ++ ks') := by
 refine ⟨h.below, fun k hm => ?_, ?_⟩
 ·rcases List.mem_append.1 hm with hm | hm
  ·exact h.own k hm
  ·exact h'.own k hm
 ·rw [List.filterMap_append, List.nodup_append]
  refine ⟨h.apart, h'.apart, fun a ha b hb => ?_⟩
  rintro rfl
  obtain ⟨k, hm, hka⟩ := List.mem_filterMap.1 ha
  obtain ⟨k', hm', hkb⟩ := List.mem_filterMap.1 hb
  have one : ∀ {q : Ck}, OwnC w0.heap.size w q → q.blk = some a → ∃ cur, w.heap[a]? = some (.cells cur q.e (0, 0)) := fun {q} ho hq => by
   obtain ⟨_, _, _, ⟨h1, _⟩ | ⟨g, o, cur, h1, _, h2, _⟩⟩ := ho
   ·unfold Ck.blk at hq; rw [h1] at hq; cases hq
   ·unfold Ck.blk at hq
    rw [h1] at hq
    obtain rfl : g = a := Option.some.inj hq
    exact ⟨cur, h2⟩
  obtain ⟨c1, e1⟩ := one ((h.own k hm).toC (hk k hm)) hka
  obtain ⟨c2, e2⟩ := one ((h'.own k' hm').toC (hk' k' hm')) hkb
  rw [e1] at e2
  injection e2 with e2
  injection e2 with _ e2 _
  exact he k hm k' hm' e2
theorem rowsCk_e {t : TypeId} : ∀ {rs : List SlV} {xss : List (List Int)}, ∀ k ∈ rowsCk t rs xss, isM k.vs = false ∧ k.e = t
 | [], _, k, h => by simp [rowsCk] at h
 | _ :: _, [], k, h => by simp [rowsCk] at h
 | r :: rs, x :: xss, k, h => by
  simp only [rowsCk, List.mem_cons] at h
  rcases h with rfl | h
  ·exact ⟨isM_I _, rfl⟩
  ·exact rowsCk_e k h
theorem mat_e {t1 t2 : TypeId} {A : Option Addr} {n c : Nat} {rs : List SlV} {xss : List (List Int)} : ∀ k ∈ mat t1 t2 A n c rs xss ++ [], isM k.vs = false ∧ (k.e = t1 ∨ k.e = t2) := fun k h => by
 rw [List.append_nil] at h
 rcases List.mem_cons.1 h with rfl | h
 ·exact ⟨isM_R _, .inl rfl⟩
 ·exact ⟨(rowsCk_e k h).1, .inr (rowsCk_e k h).2⟩
set_option maxHeartbeats 4000000 in
theorem specIsEulerian_c (V : Int) (A : Option Addr) (n c : Nat) (rs : List SlV) (F : List (List Int)) (w : World) (hR : RowsI w A n rs F) (hn : n ≤ 9223372036854775807) :
    Ret Tryz.prog 20 [.agg #[.int .i64 V, .slice A n c]] w (fun v w' => v = .tuple #[.bool (seB V F), .int .i64 (hvK V F)] ∧ St w w' []) := by
  have hFl := hR.len
  refine Ret.of_cd Tryz.func20 rfl Tryz.ntmps20 rfl (post2 rfl) (Cd.seq (Cd.region (Ops.box2 (St.refl w) rfl rfl ?_)))
  intro Ab w1 hS1
  refine Ops.mb rfl rfl rfl (Ops.mi rfl rfl rfl (Ops.n (tQ (Cd.seq (Cd.seq (Cd.region (Ops.ld_agg 1 (hS1.rd 0 rfl) rfl rfl rfl (Ops.call (l17Is_c V A n c rs F _ (hS1.oldRows hR) hn) rfl rfl rfl ?_))))))))
  rintro _ w2 ⟨rfl, hst⟩
  have hS2 : St w w2 [cxB Ab V A n c] := hS1.later hst.below
  unfold seB hvK
  first | refine Ops.not_p rfl rfl ?_ | refine Ops.not rfl rfl ?_
  refine Ops.n (tQ ?_)
  refine Cd.cond_p _ rfl (fun h1 => ?_) (fun h1 => ?_)
  · rw [if_neg h1, decide_eq_false fun h => h1 h.1]
    refine Cd.seq (Cd.region (Ops.mb rfl rfl rfl (Ops.mi rfl rfl rfl (Ops.n (tQ (Cd.ret (thenQ_r (ret2_bi rfl rfl ?_))))))))
    exact ⟨rfl, hS2.none⟩
  have hC := Classical.not_not.1 h1
  have hF4 := hC.f
  have h6 : ∀ f ∈ F, f.length ≤ 6 := fun f hf => (hC.row f hf).1.2
  have hl6 : ∀ f ∈ F, f.length ≤ 1000000 := fun f hf => by have := h6 f hf; omega
  have hd := dpt_bd h6
  rw [if_pos hC, show decide (Cplx V F ∧ EulS F) = decide (EulS F) from decide_eq_decide.2 ⟨fun h => h.2, fun h => ⟨hC, h⟩⟩]
  refine Cd.skip (tQ (Cd.seq (Cd.seq (Cd.region (Ops.ld_agg 1 (hS2.rd 0 rfl) rfl rfl rfl (Ops.call (l17Pure_c V A n c rs F _ (hS2.oldRows hR) (by omega)) rfl rfl rfl ?_))))))
  rintro _ w3 ⟨rfl, hst3⟩
  have hS3 := hS2.later hst3.below
  clear hS1 hS2 hst hst3
  first | refine Ops.not_p rfl rfl ?_ | refine Ops.not rfl rfl ?_
  refine Ops.n (tQ ?_)
  refine Cd.cond_p _ rfl (fun h2 => ?_) (fun h2 => ?_)
  · refine Cd.seq (Cd.region (Ops.mb rfl rfl rfl (Ops.mi rfl rfl rfl (Ops.n (tQ (Cd.ret (thenQ_r (ret2_bi rfl rfl ?_))))))))
    exact ⟨by rw [decide_eq_false fun h : EulS F => h2 h.1], hS3.none⟩
  have hpu := Classical.not_not.1 h2
  have hEul : EulS F ↔ ∀ k, k < dpt F + 1 → ∀ x ∈ fcs F k, altS ((fvP (cxL (lnkL F x))).drop 1) = elT (dpt F) k := ⟨fun h => h.2, fun h => ⟨hpu, h⟩⟩
  refine Cd.skip (tQ (Cd.seq (Cd.region (Ops.ld_agg 1 (hS3.rd 0 rfl) rfl rfl rfl (Ops.call (l17Size_c V A n c rs F _ (hS3.oldRows hR) (by omega) hl6) rfl rfl rfl ?_)))))
  rintro _ w4 ⟨rfl, hst4⟩
  have hS4 := hS3.later hst4.below
  refine Ops.mi rfl rfl rfl (Ops.n (tQ (Cd.seq (Cd.seq (Cd.region (Ops.mi rfl rfl rfl (Ops.n (tQ (Cd.block ?_)))))))))
  refine Cd.loop (α := Nat) (fun z => [(1, .pointer Ab), (4, .int .i64 (dpt F : Int)), (5, .int .i64 (z : Int))])
    (fun z w' => z ≤ dpt F + 1 ∧ (∀ k, k < z → ∀ x ∈ fcs F k, altS ((fvP (cxL (lnkL F x))).drop 1) = elT (dpt F) k) ∧ St w w' [cxB Ab V A n c]) (fun z => dpt F + 1 - z) 0 ⟨rfl, rfl, rfl, trivial⟩ ⟨Nat.zero_le _, (fun k hk => absurd hk (by omega)), hS4⟩ ?_
  clear hS4 hS3 hst4
  rintro k e w5 ⟨hk, hE, hS⟩
  refine Cd.seq (Cd.seq (Cd.region (Ops.mi rfl rfl rfl (Ops.mi rfl rfl rfl (Ops.leq rfl rfl rfl (Ops.n (tQ ?_)))))))
  refine Cd.cond_p _ rfl (fun h3 => ?_) (fun h3 => ?_)
  · have hGl := fcs_num k h6
    refine Cd.skip (tQ (Cd.seq (Cd.block (Cd.seq (Cd.region (Ops.ld_agg 1 (hS.rd 0 rfl) rfl rfl rfl (Ops.mi rfl rfl rfl (Ops.call (l17Faces_c V A n c rs F k _ (hS.oldRows hR) (by omega) h6 (by omega)) rfl rfl rfl ?_))))))))
    rintro _ w6 ⟨A6, c6, rs6, rfl, hrl6, hst6⟩
    have hS6 : St w w6 (cxB Ab V A n c :: (mat 28 2 A6 (fcs F k).length c6 rs6 (fcs F k) ++ [])) := (hS.call hst6).perm List.perm_append_comm
    have hkE : ∀ {i : Nat} (hi : i < (fcs F k).length), altS ((fvP (cxL (lnkL F (gl (fcs F k) (i : Int))))).drop 1) ≠ elT (dpt F) k → ¬ EulS F := fun hi hne h => hne (hEul.1 h k (by omega) _ (by rw [gl_mem hi]; exact List.getElem_mem _))
    have hfl : ∀ y ∈ fcs F k, y.length = k := fun y hy => fcs_len hy
    clear hst6 hS
    generalize hG : fcs F k = G at *
    refine Ops.ms rfl rfl rfl (Ops.n (tQ (Cd.seq (Cd.region (Ops.mi rfl rfl rfl (Ops.n (tQ (Cd.block ?_))))))))
    refine Cd.loop (α := Nat) (fun z => [(1, .pointer Ab), (4, .int .i64 (dpt F : Int)), (5, .int .i64 (k : Int)), (6, .slice A6 G.length c6), (7, .int .i64 (z : Int))])
      (fun z w' => z ≤ G.length ∧ (∀ j, j < z → altS ((fvP (cxL (lnkL F (gl G (j : Int))))).drop 1) = elT (dpt F) k) ∧ St w w' (cxB Ab V A n c :: (mat 28 2 A6 G.length c6 rs6 G ++ []))) (fun z => G.length - z) 0 ⟨rfl, rfl, rfl, rfl, rfl, trivial⟩ ⟨Nat.zero_le _, (fun j hj => absurd hj (by omega)), hS6⟩ ?_
    clear hS6
    rintro i e w7 ⟨hi, hJ, hS⟩
    refine Cd.seq (Cd.seq (Cd.region (Ops.mi rfl rfl rfl (Ops.ms rfl rfl rfl (Ops.len rfl rfl (Ops.lss rfl rfl rfl (Ops.n (tQ ?_))))))))
    refine Cd.cond_p _ rfl (fun h4 => ?_) (fun h4 => ?_)
    · have hiG : i < G.length := by omega
      have hM6 := hS.tail.rowsI (show G.length = G.length from rfl)
      have hr0 := hM6.at_ (i := (i : Int)) (by omega) (by omega)
      have hrl0 := hr0.1
      have hgm : gl G (i : Int) ∈ G := by rw [gl_mem hiG]; exact List.getElem_mem _
      have hlen := hfl _ hgm
      have hX := hS.oldRows hR
      have hB1 := hS.rd 0 rfl
      generalize hx : gl G (i : Int) = x at *
      have hln := hC.lnk x
      have hfine := lnk_fine hC x
      have hsaL : ∀ l ∈ lnkL F x, SA l := fun l hl => (hln.2.1 l hl).1
      have hCL := cx_cplx hsaL hfine
      have hL4 := hCL.f
      have hL6 : ∀ f ∈ cxL (lnkL F x), f.length ≤ 6 := fun f hf => (hCL.row f hf).1.2
      have hLd := dpt_bd hL6
      have hLb := fvP_bd hL4 hL6
      have hLl := fvP_len (cxL (lnkL F x))
      have hln1 := hln.1
      have hln3 := hln.2.2
      have hMk := fun D d ts w h1 => l17Make_c D (lnkL F x).length d ts (lnkL F x) w h1 (by omega) (by omega) hsaL
      generalize hU : cxV (lnkL F x) = U at *
      generalize hLL : cxL (lnkL F x) = L at *
      generalize hKK : cxK (lnkL F x) = K at *
      refine Cd.skip (tQ (Cd.seq (Cd.block (Cd.seq ?_))))
      refine Cd.drawP [11] [.ex (.agg #[.int .i64 (V), .slice (A) (n) (c)]), .ex (.slice (A6) (G.length) (c6)), .ex (.int .i64 ((i : Int))), .ex (.pointer (ptrAt (A6) ((i : Int)).toNat)), .ex (.slice ((rg (rs6) ((i : Int))).a) ((rg (rs6) ((i : Int))).n) ((rg (rs6) ((i : Int))).c)), .pr (fun v w' => ∃ D d ts, v = .slice D (lnkL F x).length d ∧ RowsI w' D (lnkL F x).length ts (lnkL F x)), .pr (fun v w' => ∃ D d ts, v = .tuple #[.agg #[.int .i64 U, .slice D L.length d], .int .i64 K] ∧ St w7 w' (mat 28 2 D L.length d ts L ++ [])), .al (fun v => ∃ u0, v = .tuple #[u0, .int .i64 K]) (fun v w' => ∃ D d ts, v = .tuple #[.agg #[.int .i64 U, .slice D L.length d], .int .i64 K] ∧ St w7 w' (mat 28 2 D L.length d ts L ++ [])), .pr (fun v w' => ∃ D d ts, v = .agg #[.int .i64 U, .slice D L.length d] ∧ St w7 w' (mat 28 2 D L.length d ts L ++ [])), .ex (.int .i64 (K)), .pr (fun v w' => ∃ A8, v = .pointer A8 ∧ St w7 w' [cxZ A8]), .p2 10 (fun a v w' => ∃ A8 D d ts, a = .pointer A8 ∧ St w7 w' (cxB A8 U D L.length d :: (mat 28 2 D L.length d ts L ++ []))), .ex (.int .i64 (K))] (by kernel_rfl) (by kernel_rfl) (ly (ly (ly (ly (ly (List.forall_mem_cons.2 ⟨Ye.lasts_pr (fun v w w' h hb => by obtain ⟨D, d, ts, hv, h1⟩ := h; exact ⟨D, d, ts, hv, h1.later hb⟩), (List.forall_mem_cons.2 ⟨Ye.lasts_pr (fun v w w' h hb => by obtain ⟨D, d, ts, hv, h1⟩ := h; exact ⟨D, d, ts, hv, h1.later hb⟩), (List.forall_mem_cons.2 ⟨Ye.lasts_al (fun v w w' h hb => by obtain ⟨D, d, ts, hv, h1⟩ := h; exact ⟨D, d, ts, hv, h1.later hb⟩), (List.forall_mem_cons.2 ⟨Ye.lasts_pr (fun v w w' h hb => by obtain ⟨D, d, ts, hv, h1⟩ := h; exact ⟨D, d, ts, hv, h1.later hb⟩), (ly (List.forall_mem_cons.2 ⟨Ye.lasts_pr (fun v w w' h hb => by obtain ⟨A8, hv, hT⟩ := h; exact ⟨A8, hv, hT.later hb⟩), (List.forall_mem_cons.2 ⟨Ye.lasts_p2 (fun a v w w' h hb => by obtain ⟨A8, D, d, ts, hv, hT⟩ := h; exact ⟨A8, D, d, ts, hv, hT.later hb⟩), (ly (fun _ h => by cases h))⟩)⟩))⟩)⟩)⟩)⟩)))))) ⟨?_, ?_, ?_, ?_, ?_, ?_, ?_, ?_, ?_, ?_, ?_, ?_, ?_, trivial⟩ ?_
      · intro e1 w1 cc hlo hhi hb0 hp hun hq
        show Ops _ _ _ _ _ _ _
        obtain rfl := cc_of hlo hhi (b := 0) (by kernel_rfl) (by kernel_rfl)
        have hb := hb0 rfl
        refine Ops.ld_agg 1 (hB1.below hb) rfl rfl rfl (Ops.n (p0_ rfl (by exact rfl)))
      · intro e1 w1 cc hlo hhi hb0 hp hun hq
        show Ops _ _ _ _ _ _ _
        refine Ops.ms rfl rfl rfl (Ops.n (p0_ rfl (by exact rfl)))
      · intro e1 w1 cc hlo hhi hb0 hp hun hq
        show Ops _ _ _ _ _ _ _
        refine Ops.mi rfl rfl rfl (Ops.n (p0_ rfl (by exact rfl)))
      · intro e1 w1 cc hlo hhi hb0 hp hun hq
        show Ops _ _ _ _ _ _ _
        obtain rfl := cc_of hlo hhi (b := 0) (by kernel_rfl) (by kernel_rfl)
        have hb := hb0 rfl
        refine Ops.idx (hM6.top.later hb).2 rfl rfl rfl (by omega) (by omega) (Ops.n (p0_ rfl (by exact rfl)))
      · intro e1 w1 cc hlo hhi hb0 hp hun hq
        show Ops _ _ _ _ _ _ _
        obtain rfl := cc_of hlo hhi (b := 0) (by kernel_rfl) (by kernel_rfl)
        have hb := hb0 rfl
        refine Ops.ld_sl (hM6.top.later hb) rfl (by omega) rfl rfl (Ops.n (p0_ rfl (by exact rfl)))
      · intro e1 w1 cc hlo hhi hb0 hp hun hq
        show Ops _ _ _ _ _ _ _
        obtain rfl := cc_of hlo hhi (b := 0) (by kernel_rfl) (by kernel_rfl)
        have hb := hb0 rfl
        refine Ops.call (l17Link_c V A n c rs F (rg rs6 (i : Int)).a (rg rs6 (i : Int)).n (rg rs6 (i : Int)).c x _ (hX.later hb) (hr0.later hb) (by omega) (by omega) hl6) rfl rfl rfl ?_
        rintro _ w9 ⟨D, d, ts, rfl, hl9, hst9⟩
        refine Ops.n ?_
        exact AfterP.dn rfl hst9.below ⟨D, d, ts, rfl, hst9.rowsI rfl⟩
      · intro e1 w1 cc hlo hhi hb0 hp hun hq
        show Ops _ _ _ _ _ _ _
        obtain rfl := cc_of hlo hhi (b := 0) (by kernel_rfl) (by kernel_rfl)
        have hb := hb0 rfl
        obtain ⟨D, d, ts, h38, h1⟩ := (hp 5 _ _ (by kernel_rfl) rfl rfl (by kernel_rfl))
        refine Ops.call (hMk D d ts _ h1) rfl (by exact congrArg (fun v => [v]) h38) rfl ?_
        rintro _ w9 ⟨D2, d2, ts2, rfl, hl9, hst9⟩
        refine Ops.n ?_
        exact AfterP.dn rfl hst9.below ⟨D2, d2, ts2, rfl, by have := ((St.refl w7).later hb).call hst9; rwa [List.append_nil] at this⟩
      · intro e1 w1 cc hlo hhi hb0 hp hun hq
        show Ops _ _ _ _ _ _ _
        obtain rfl := cc_of hlo hhi (b := 0) (by kernel_rfl) (by kernel_rfl)
        have hb := hb0 rfl
        obtain ⟨D, d, ts, h39, h1⟩ := (hp 6 _ _ (by kernel_rfl) rfl rfl (by kernel_rfl))
        refine Ops.mv_tup rfl (by exact h39) rfl (Ops.n ?_)
        exact AfterP.dn rfl (Below.refl _ _) ⟨⟨_, rfl⟩, D, d, ts, rfl, h1⟩
      · intro e1 w1 cc hlo hhi hb0 hp hun hq
        show Ops _ _ _ _ _ _ _
        obtain rfl := cc_of hlo hhi (b := 0) (by kernel_rfl) (by kernel_rfl)
        have hb := hb0 rfl
        obtain ⟨D, d, ts, h32, h1⟩ := ((hp 7 _ _ (by kernel_rfl) rfl rfl).2 (by kernel_rfl))
        refine Ops.extract (by exact h32) rfl rfl (Ops.n ?_)
        exact AfterP.dn rfl (Below.refl _ _) ⟨D, d, ts, rfl, h1⟩
      · intro e1 w1 cc hlo hhi hb0 hp hun hq
        show Ops _ _ _ _ _ _ _
        obtain ⟨u0, h32⟩ := (hp 7 _ _ (by kernel_rfl) rfl rfl).1
        refine Ops.extract (by exact h32) rfl rfl (Ops.n (p0_ rfl (by exact rfl)))
      · intro e1 w1 cc hlo hhi hb0 hp hun hq
        show Ops _ _ _ _ _ _ _
        obtain rfl := cc_of hlo hhi (b := 0) (by kernel_rfl) (by kernel_rfl)
        have hb := hb0 rfl
        refine Ops.new2 (St.refl _) rfl ?_
        intro A8 w9 hS9
        refine Ops.n ?_
        exact AfterP.dn rfl hS9.below ⟨A8, rfl, by have := ((St.refl w7).later hb).call hS9; rwa [List.append_nil] at this⟩
      · intro e1 w1 cc hlo hhi hb0 hp hun hq
        show Ops _ _ _ _ _ _ _
        obtain rfl := cc_of hlo hhi (b := 0) (by kernel_rfl) (by kernel_rfl)
        have hb := hb0 rfl
        obtain ⟨A8, h8, hT⟩ := (hp 10 _ _ (by kernel_rfl) rfl rfl (by kernel_rfl))
        obtain ⟨D, d, ts, h40, h1⟩ := (hp 8 _ _ (by kernel_rfl) rfl rfl (by kernel_rfl))
        have hM := hT.merge h1 (fun k hk => by obtain rfl := List.mem_singleton.1 hk; rfl) (fun k hk => (mat_e k hk).1) (fun k hk k' hk' => by obtain rfl := List.mem_singleton.1 hk; rcases (mat_e k' hk').2 with e | e; { rw [e]; exact (by decide : ¬ (26 = 28)) }; { rw [e]; exact (by decide : ¬ (26 = 2)) })
        refine Ops.st_agg 2 0 hM rfl (by exact h8) (by exact h40) rfl rfl rfl rfl ?_
        intro w9 hS9
        refine Ops.n ?_
        exact AfterU.st rfl ⟨A8, D, d, ts, h8, hS9⟩
      · intro e1 w1 cc hlo hhi hb0 hp hun hq
        show Ops _ _ _ _ _ _ _
        refine Ops.mi rfl rfl rfl (Ops.n (p0_ rfl (by exact rfl)))
      intro u w8 _ _ hu2 _
      obtain ⟨A8, D, d, ts, h8, hT8⟩ := hu2 11 10 _ rfl (by kernel_rfl)
      have hS8 := hS.call2 hT8
      have hB8 := hT8.rd 0 rfl
      have hR8 : RowsI w8 D L.length ts L := hT8.tail.rowsI rfl
      refine thenQ_ext (F := [(1, .pointer Ab), (4, .int .i64 (dpt F : Int)), (5, .int .i64 (k : Int)), (6, .slice A6 G.length c6), (7, .int .i64 (i : Int)), (8, .pointer A8)]) ⟨rfl, rfl, rfl, rfl, rfl, h8, trivial⟩ (tQ (Cd.seq (Cd.region (Ops.ld_agg 1 hB8 rfl rfl rfl (Ops.call (l17F_c U D L.length d ts L _ hR8 (by omega) hL6) rfl rfl rfl ?_)))))
      rintro _ w9 ⟨A9, c9, rfl, hst9⟩
      refine Ops.call (l17Euler_c A9 _ c9 (fvP L) _ (hst9.rdI 0 rfl) (by omega) (by omega) hLb) rfl rfl rfl ?_
      rintro _ w9 ⟨rfl, rfl⟩
      have hS9 := hS8.later hst9.below
      refine Ops.mi rfl rfl rfl (Ops.mi rfl rfl rfl (Ops.sub rfl rfl rfl (by omega) (Ops.rem rfl rfl rfl (by omega) (Ops.mul rfl rfl rfl (by omega) (Ops.neq rfl rfl rfl (Ops.n (tQ ?_)))))))
      refine Cd.cond_p _ rfl (fun h5 => ?_) (fun h5 => ?_)
      · refine Cd.seq (Cd.region (Ops.mb rfl rfl rfl (Ops.mi rfl rfl rfl (Ops.n (tQ (Cd.ret (blockQ_r (thenQ_r (thenQ_r ?_)))))))))
        refine blockQ_r (blockQ_r (thenQ_r (thenQ_r (blockQ_r (thenQ_r (ret2_bi rfl rfl ?_))))))
        exact ⟨by rw [decide_eq_false (hkE hiG (by rw [hx, hLL]; exact h5))], hS9.none⟩
      · have h5 := Classical.not_not.1 h5
        refine Cd.skip (blockQ_n (tQ (Cd.region (Ops.mi rfl rfl rfl (Ops.add rfl rfl rfl (by omega) (Ops.mi rfl rfl rfl (Ops.n (tQ ?_))))))))
        exact ⟨i + 1, by show G.length - (i + 1) < G.length - i; omega, ⟨rfl, rfl, rfl, rfl, rfl, trivial⟩, by omega, fun j hj => by
          by_cases ej : j = i
          · subst ej; rw [hx, hLL]; exact h5
          · exact hJ j (by omega), hS9.sub (List.sublist_append_left _ _)⟩
    · refine Cd.exit (thenQ_x (thenQ_x (blockQ_x (blockQ_n (tQ (Cd.region (Ops.mi rfl rfl rfl (Ops.add rfl rfl rfl (by omega) (Ops.mi rfl rfl rfl ?_)))))))))
      refine Ops.n (tQ ?_)
      refine ⟨k + 1, by show dpt F + 1 - (k + 1) < dpt F + 1 - k; omega, ⟨rfl, rfl, rfl, trivial⟩, by omega, fun k' hk' x hx => ?_, hS.sub (List.Sublist.cons_cons _ (List.nil_sublist _))⟩
      by_cases ek : k' = k
      · subst ek
        rw [hG] at hx
        obtain ⟨j, hj, rfl⟩ := List.mem_iff_getElem.1 hx
        have := hJ j (by omega)
        rwa [gl_mem hj] at this
      · exact hE k' (by omega) x hx
  · have hke : k = dpt F + 1 := by omega
    rw [hke] at hE
    refine Cd.exit (thenQ_x (thenQ_x (blockQ_x (tQ (Cd.seq (Cd.region (Ops.mb rfl rfl rfl (Ops.mi rfl rfl rfl (Ops.n ?_)))))))))
    refine tQ (Cd.ret (ret2_bi rfl rfl ?_))
    exact ⟨by rw [decide_eq_true (hEul.2 hE)], hS.none⟩
end Go.Proofs.YtiblelgfkakmiaaGreatDoor.Vc
/-
 Plain mathematics: links of faces of Eulerian complexes are Eulerian.
-/
namespace Go.Proofs.YtiblelgfkakmiaaGreatDoor.Vc
theorem eul_cx {ls : List (List Int)} (hs : ∀ l ∈ ls, SA l) (hb : ¬ CxBad ls) (hd : ∀ l ∈ ls, l.length = dpt ls) (he : ∀ k, k ≤ dpt ls → ∀ x ∈ fcs ls k, eF ls x = sgn (dpt ls)) : Eul (cxL ls) := by
 have hm := ix_mono (s := cvP ls) (cs_SA _)
 have hin : ∀ l ∈ facP ls, Ins l (cvP ls) := fun l hl => cvP_ins (facP_mem.1 hl).1
 have hc : cxL ls = (facP ls).map (List.map (ix (cvP ls))) := by unfold cxL; rw [if_neg hb]; rfl
 have hf : ∀ k, fcs (cxL ls) k = (fcs ls k).map (List.map (ix (cvP ls))) := fun k => by rw [hc, fcs_map hm hin, fcs_fac hs]
 have hdp : dpt (cxL ls) = dpt ls := dpt_of (nf_cx hs hb)
 have hxin : ∀ k, ∀ x ∈ fcs ls k, Ins x (cvP ls) := fun k x hx => by
  rcases faL_mem.1 (fcs_mem.1 hx) with ⟨_, rfl⟩ | ⟨_, f, hf, h1, _⟩
  ·exact fun z hz => by cases hz
  ·exact fun z hz => cvP_ins hf z (h1.subset hz)
 have hinj : ∀ a ∈ cvP ls, ∀ b ∈ cvP ls, ix (cvP ls) a = ix (cvP ls) b → a = b := fun a ha b hb e => by
  rcases Int.lt_trichotomy a b with h | h | h
  ·have := hm a ha b hb h; omega
  ·exact h
  ·have := hm b hb a ha h; omega
 have hup : ∀ k, ∀ x ∈ fcs ls k, ∀ n, upF (cxL ls) (x.map (ix (cvP ls))) n = upF ls x n := fun k x hx n => by
  unfold upF
  rw [hf n, List.filter_map, List.length_map]
  congr 1
  refine List.filter_congr fun y hy => ?_
  show decide (Ins (x.map _) (y.map _)) = decide (Ins x y)
  refine decide_eq_decide.2 ⟨fun h z hz => ?_, fun h z hz => ?_⟩
  ·obtain ⟨w, hw, e⟩ := List.mem_map.1 (h _ (List.mem_map.2 ⟨z, hz, rfl⟩))
   rw [← hinj w (hxin n y hy w hw) z (hxin k x hx z hz) e]; exact hw
  ·obtain ⟨w, hw, rfl⟩ := List.mem_map.1 hz
   exact List.mem_map.2 ⟨w, h w hw, rfl⟩
 refine ⟨fun f hfm => ?_, fun k hk x hx => ?_⟩
 ·rw [hc] at hfm
  obtain ⟨l, hl, rfl⟩ := List.mem_map.1 hfm
  rw [List.length_map, hdp]
  exact hd l (facP_mem.1 hl).1
 ·rw [hf k] at hx
  obtain ⟨y, hy, rfl⟩ := List.mem_map.1 hx
  rw [hdp, ← he k (by omega) y hy]
  unfold eF
  rw [hdp]
  exact sumN_congr fun n _ => by rw [hup k y hy n]
theorem lnk_lnk {F : List (List Int)} {x z u : List Int} (hz : ∀ a ∈ z, a ∉ x) (hu : ∀ a, a ∈ u ↔ a ∈ z ∨ a ∈ x) : lnkL (lnkL F x) z = lnkL F u := by
 unfold lnkL
 rw [List.filter_map, List.map_map, List.filter_filter]
 have e1 : (F.filter fun f => ((fun f => decide (Ins z f)) ∘ fun f => lessL f x) f && decide (Ins x f)) = F.filter fun f => decide (Ins u f) := by
  refine List.filter_congr fun f _ => ?_
  show (decide (Ins z (lessL f x)) && decide (Ins x f)) = decide (Ins u f)
  rw [← Bool.decide_and]
  refine decide_eq_decide.2 ⟨fun ⟨h1, h2⟩ a ha => ?_, fun h => ⟨fun a ha => ?_, fun a ha => h a ((hu a).2 (.inr ha))⟩⟩
  ·rcases (hu a).1 ha with h | h
   ·exact (lessL_mem.1 (h1 a h)).1
   ·exact h2 a h
  ·exact lessL_mem.2 ⟨h a ((hu a).2 (.inl ha)), hz a ha⟩
 rw [e1]
 refine List.map_congr_left fun f _ => ?_
 show lessL (lessL f x) z = lessL f u
 unfold lessL
 rw [List.filter_filter]
 refine List.filter_congr fun a _ => ?_
 by_cases h1 : a ∈ z <;> by_cases h2 : a ∈ x <;> simp [hu, h1, h2]
theorem eul_link {V : Int} {F : List (List Int)} (hc : Cplx V F) (h : Eul F) {x : List Int} (hx : x ∈ fcs F x.length) : Eul (cxL (lnkL F x)) := by
 have hs : ∀ f ∈ F, SA f := fun f hf => (hc.row f hf).2.1
 have hxs := fcs_sa hs hx
 have hsL : ∀ l ∈ lnkL F x, SA l := fun l hl => ((hc.lnk x).2.1 l hl).1
 have hll : ∀ l ∈ lnkL F x, l.length + x.length = dpt F := fun l hl => by
  obtain ⟨f, hf, rfl⟩ := List.mem_map.1 hl
  obtain ⟨hf, hi⟩ := List.mem_filter.1 hf
  rw [lessL_add (hs f hf) hxs (of_decide_eq_true hi)]
  exact h.1 f hf
 have hdL : dpt (lnkL F x) + x.length = dpt F := by
  by_cases hne : F = []
  ·subst hne
   have hx0 : x = [] := by
    rcases faL_mem.1 (fcs_mem.1 hx) with ⟨_, h⟩ | ⟨_, f, hf, _⟩
    ·exact h
    ·cases hf
   subst hx0; rfl
  ·obtain ⟨⟨f, hf, h1⟩, _⟩ := (fcs_iff' hne).1 hx
   have hm : lessL f x ∈ lnkL F x := List.mem_map.2 ⟨f, List.mem_filter.2 ⟨hf, decide_eq_true (Ins.of_sub h1)⟩, rfl⟩
   obtain ⟨g, hg, e⟩ := dpt_ex (F := lnkL F x) (List.ne_nil_of_mem hm)
   rw [← e]; exact hll g hg
 refine eul_cx hsL (lnk_fine hc x) (fun l hl => by have := hll l hl; omega) fun k hk z hz => ?_
 have hzl := fcs_len hz
 have e1 := eF_link hsL (face_of hz)
 by_cases hLe : lnkL F x = []
 ·-- no facets: nothing above
  have hz0 : z = [] := by
   rcases faL_mem.1 (fcs_mem.1 hz) with ⟨_, h⟩ | ⟨_, f, hf, _⟩
   ·exact h
   ·rw [hLe] at hf; cases hf
  subst hz0
  rw [hLe]; rfl
 ·obtain ⟨⟨g, hg, hzg⟩, _⟩ := (fcs_iff' hLe).1 hz
  obtain ⟨f, hf, rfl⟩ := List.mem_map.1 hg
  obtain ⟨hf, hi⟩ := List.mem_filter.1 hf
  have hxf : Ins x f := of_decide_eq_true hi
  have hzx : ∀ a ∈ z, a ∉ x := fun a ha => (lessL_mem.1 (hzg.subset ha)).2
  have hu : SA (f.filter fun a => decide (a ∈ z ∨ a ∈ x)) := List.Pairwise.filter _ (hs f hf)
  have hum : ∀ a, a ∈ (f.filter fun a => decide (a ∈ z ∨ a ∈ x)) ↔ a ∈ z ∨ a ∈ x := fun a => by
   rw [List.mem_filter]
   simp only [decide_eq_true_eq]
   exact ⟨fun h => h.2, fun h => ⟨h.elim (fun h => (lessL_mem.1 (hzg.subset h)).1) (hxf a), h⟩⟩
  have hsub : (f.filter fun a => decide (a ∈ z ∨ a ∈ x)).Sublist f := List.filter_sublist
  generalize f.filter (fun a => decide (a ∈ z ∨ a ∈ x)) = u at *
  have hzs := fcs_sa hsL hz
  have eu : lessL u x = z := by
   refine (lessL_SA hu).eq hzs fun a => ?_
   rw [lessL_mem, hum]
   exact ⟨fun ⟨h1, h2⟩ => h1.elim id fun h => absurd h h2, fun h => ⟨.inl h, hzx a h⟩⟩
  have hul := lessL_add hu hxs fun a ha => (hum a).2 (.inr ha)
  rw [eu] at hul
  have hne : F ≠ [] := List.ne_nil_of_mem hf
  have huF : u ∈ fcs F u.length := (fcs_iff' hne).2 ⟨⟨f, hf, hsub⟩, rfl⟩
  have e2 := eF_link hs huF
  have hud : u.length ≤ dpt F := by have := hsub.length_le; rw [h.1 f hf] at this; exact this
  rw [lnk_lnk hzx hum, e2, h.2 u.length hud u huF] at e1
  have h1 : sgn (dpt F) = sgn (dpt (lnkL F x)) * sgn x.length := by rw [← sgn_add, hdL]
  have h2 : sgn u.length = sgn z.length * sgn x.length := by rw [← sgn_add, hul]
  rw [h1, h2] at e1
  have one : ∀ m, sgn m = 1 ∨ sgn m = -1 := fun m => by unfold sgn; split <;> simp
  rcases one z.length with a | a <;> rcases one x.length with b | b <;> rcases one (dpt (lnkL F x)) with c | c <;> rw [a, b, c] at e1 <;> rw [c] <;> omega
end Go.Proofs.YtiblelgfkakmiaaGreatDoor.Vc
/-
 Suspensions, walked on both sides.
-/
namespace Go.Proofs.YtiblelgfkakmiaaGreatDoor.Vc
open Go.RowKit
theorem two_ptS : Cplx 2 [[0], [1]] := by decide
def suV (V : Int) (F : List (List Int)) : Int := if Cplx V F then jnV V F [[0], [1]] else 0
def suL (V : Int) (F : List (List Int)) : List (List Int) := if Cplx V F then jnLs V F [[0], [1]] else []
def suK (V : Int) (F : List (List Int)) : Int := if Cplx V F then jnK V F [[0], [1]] else 1
theorem implSusp_c (V : Int) (A : Option Addr) (n c : Nat) (rs : List SlV) (F : List (List Int)) (w : World) (hT : Tab w) (hR : RowsI w A n rs F) (hn : n ≤ 9223372036854775807) :
  Ret Tryz.prog 14 [.agg #[.int .i64 V, .slice A n c]] w (AnsC (suV V F) (suL V F) (suK V F) w) := by
 have hFl := hR.len
 refine Ret.of_cd Tryz.func14 rfl Tryz.ntmps14 rfl (postc2 rfl rfl) (Cd.seq (Cd.region (Ops.box2 (St.refl w) rfl rfl ?_)))
 intro A1 w1 hS1
 refine Ops.new2 hS1 rfl ?_
 intro A2 w3 hS3
 have hS3 : St w w3 [cxZ A2, cxB A1 V A n c] := hS3
 clear hS1
 refine Ops.mi rfl rfl rfl (Ops.n (tQ (Cd.seq (Cd.seq (Cd.region (Ops.ld_agg 1 (hS3.rd 1 rfl) rfl rfl rfl (Ops.call (isComplex_c V A n c rs F _ (hT.later hS3.below) (hS3.oldRows hR) hn) rfl rfl rfl ?_)))))))
 rintro _ w4 ⟨rfl, hst⟩
 have hS4 := hS3.later hst.below
 clear hS3
 unfold suV suL suK
 first | refine Ops.not_p rfl rfl ?_ | refine Ops.not rfl rfl ?_
 refine Ops.n (tQ ?_)
 refine Cd.cond_p _ rfl (fun h1 => ?_) (fun h1 => ?_)
 ·rw [if_neg h1, if_neg h1, if_neg h1]
  refine Cd.seq (Cd.region (Ops.bldZ2 (by exact inferInstance) (by exact inferInstance) rfl rfl rfl (Ops.st_agg 2 0 hS4 rfl rfl rfl rfl rfl rfl rfl ?_)))
  intro w9 hS9
  refine Ops.mi rfl rfl rfl (Ops.n (tQ (Cd.ret (thenQ_r ?_))))
  skip
  refine retc2_r rfl (hS9.rd 0 rfl) rfl ?_
  exact AnsC.none hS9
 have hF := Classical.not_not.1 h1
 rw [if_pos hF, if_pos hF, if_pos hF]
 refine Cd.skip (tQ (Cd.seq (Cd.region (Ops.ld_agg 1 (hS4.rd 1 rfl) rfl rfl rfl (Ops.bs1I hS4 rfl rfl rfl ?_)))))
 intro A9 w5 hS5
 refine Ops.bs1I hS5 rfl rfl rfl ?_
 intro A10 w6 hS6
 refine Ops.bs2 hS6 rfl rfl rfl rfl rfl rfl ?_
 intro A11 w7 hS7
 have hS7 : St w w7 (mat 28 2 A11 2 2 [⟨A9, 1, 1⟩, ⟨A10, 1, 1⟩] [[0], [1]] ++ [cxZ A2, cxB A1 V A n c]) := hS7.perm (List.Perm.cons _ (List.Perm.swap _ _ _))
 refine Ops.bld2c (by exact inferInstance) (by exact inferInstance) rfl rfl rfl rfl rfl rfl rfl (Ops.call (joined_c V A n c rs F 2 A11 2 2 [⟨A9, 1, 1⟩, ⟨A10, 1, 1⟩] [[0], [1]] _ (hT.later hS7.below) (hS7.oldRows hR) (hS7.rowsI rfl) hF two_ptS) rfl rfl rfl ?_)
 rintro _ w8 ⟨A6, c6, rs6, rfl, hrl6, hst6⟩
 have hS8 : St w w8 (mat 28 2 A6 (jnLs V F [[0], [1]]).length c6 rs6 (jnLs V F [[0], [1]]) ++ [] ++ (mat 28 2 A11 2 2 [⟨A9, 1, 1⟩, ⟨A10, 1, 1⟩] [[0], [1]] ++ [cxZ A2, cxB A1 V A n c])) := hS7.call hst6
 have hS9 : St w w8 ([cxZ A2] ++ (mat 28 2 A6 (jnLs V F [[0], [1]]).length c6 rs6 (jnLs V F [[0], [1]]) ++ [])) := by
  refine (hS8.perm ?_).sub (List.sublist_append_left _ (mat 28 2 A11 2 2 [⟨A9, 1, 1⟩, ⟨A10, 1, 1⟩] [[0], [1]] ++ [cxB A1 V A n c]))
  generalize mat 28 2 A6 (jnLs V F [[0], [1]]).length c6 rs6 (jnLs V F [[0], [1]]) ++ [] = X
  generalize mat 28 2 A11 2 2 [⟨A9, 1, 1⟩, ⟨A10, 1, 1⟩] [[0], [1]] = Y
  show (X ++ (Y ++ ([cxZ A2] ++ [cxB A1 V A n c]))).Perm (([cxZ A2] ++ X) ++ (Y ++ [cxB A1 V A n c]))
  rw [← List.append_assoc Y, ← List.append_assoc X, ← List.append_assoc (_ ++ X)]
  refine List.Perm.append_right _ ?_
  rw [List.append_assoc [cxZ A2], ← List.append_assoc X]
  exact List.perm_append_comm
 refine Ops.extract rfl rfl rfl (Ops.extract rfl rfl rfl (Ops.st_agg 2 0 hS9 rfl rfl rfl rfl rfl rfl rfl ?_))
 intro w10 hS10
 refine Ops.mi rfl rfl rfl (Ops.n (tQ (Cd.ret ?_)))
 skip
 refine retc2_r rfl (hS10.rd 0 rfl) rfl ?_
 exact ⟨A6, c6, rs6, rfl, hrl6, hS10.tail⟩
end Go.Proofs.YtiblelgfkakmiaaGreatDoor.Vc
/-
 Plain mathematics: joins of Eulerian complexes are Eulerian, and so suspensions.
-/
namespace Go.Proofs.YtiblelgfkakmiaaGreatDoor.Vc
theorem conv_sum (P Q : Nat → Int) : ∀ N, sumN N (conv P Q) = sumN N fun i => P i * sumN (N - i) Q
 | 0 => rfl
 | N + 1 => by
  show sumN N (conv P Q) + conv P Q N = sumN N (fun i => P i * sumN (N + 1 - i) Q) + P N * sumN (N + 1 - N) Q
  rw [conv_sum P Q N]
  have e1 : conv P Q N = sumN N (fun i => P i * Q (N - i)) + P N * Q 0 := by
   show sumN N (fun i => P i * Q (N - i)) + P N * Q (N - N) = _
   rw [Nat.sub_self]
  rw [e1, show N + 1 - N = 1 by omega, show sumN 1 Q = Q 0 from by simp [sumN]]
  rw [sumN_congr (g := fun i => P i * sumN (N + 1 - i) Q) (h := fun i => P i * sumN (N - i) Q + P i * Q (N - i)) fun i hi => by
   rw [show N + 1 - i = (N - i) + 1 by omega, ← Int.mul_add]; rfl]
  rw [sumN_add]; omega
theorem sumN_mulr (g : Nat → Int) (a : Int) (n : Nat) : sumN n (fun i => g i * a) = sumN n g * a := by
 rw [sumN_congr (h := fun i => a * g i) fun i _ => Int.mul_comm _ _, sumN_mul, Int.mul_comm]
theorem conv_prod {P Q : Nat → Int} {a b N : Nat} (hP : ∀ i, a < i → P i = 0) (hQ : ∀ i, b < i → Q i = 0) (hN : a + b + 1 ≤ N) : sumN N (conv P Q) = sumN (a + 1) P * sumN (b + 1) Q := by
 rw [conv_sum, sumN_congr (h := fun i => P i * sumN (b + 1) Q) fun i hi => by
  by_cases h : i ≤ a
  ·rw [sumN_ends (g := Q) (a := b + 1) (b := N - i) (by omega) fun j hj => hQ j (by omega)]
  ·rw [hP i (by omega), Int.zero_mul, Int.zero_mul]]
 rw [sumN_mulr, sumN_ends (g := P) (a := a + 1) (b := N) (by omega) fun j hj => hP j (by omega)]
theorem conv_sgn (p q : Nat → Int) (k : Nat) : conv (fun i => sgn i * p i) (fun i => sgn i * q i) k = sgn k * conv p q k := by
 unfold conv
 rw [← sumN_mul]
 refine sumN_congr fun i hi => ?_
 have h1 : sgn k = sgn i * sgn (k - i) := by rw [← sgn_add, show i + (k - i) = k by omega]
 rw [h1]
 simp only [Int.mul_assoc, Int.mul_left_comm]
theorem lnk_join {V : Int} {F G : List (List Int)} (hF : ∀ f ∈ F, ∀ a ∈ f, a < V) (hG : ∀ g ∈ G, ∀ a ∈ g, 0 ≤ a) {y z : List Int} (hy : ∀ a ∈ y, a < V) (hz : ∀ a ∈ z, 0 ≤ a) : lnkL (jnL V F G) (y ++ z.map (V + ·)) = jnL V (lnkL F y) (lnkL G z) := by
 have hin : ∀ a : List Int, (∀ u ∈ a, u < V) → ∀ b : List Int, (∀ u ∈ b, 0 ≤ u) → (Ins (y ++ z.map (V + ·)) (a ++ b.map (V + ·)) ↔ Ins y a ∧ Ins z b) := fun a ha b hb => by
  constructor
  ·intro h
   refine ⟨fun u hu => ?_, fun u hu => ?_⟩
   ·rcases List.mem_append.1 (h u (List.mem_append_left _ hu)) with h1 | h1
    ·exact h1
    ·obtain ⟨v, hv, e⟩ := List.mem_map.1 h1
     have := hb v hv; have := hy u hu; omega
   ·rcases List.mem_append.1 (h (V + u) (List.mem_append_right _ (List.mem_map.2 ⟨u, hu, rfl⟩))) with h1 | h1
    ·have := ha _ h1; have := hz u hu; omega
    ·obtain ⟨v, hv, e⟩ := List.mem_map.1 h1
     have : v = u := by omega
     rw [← this]; exact hv
  ·rintro ⟨h1, h2⟩ u hu
   rcases List.mem_append.1 hu with h | h
   ·exact List.mem_append_left _ (h1 u h)
   ·obtain ⟨v, hv, rfl⟩ := List.mem_map.1 h
    exact List.mem_append_right _ (List.mem_map.2 ⟨v, h2 v hv, rfl⟩)
 have hless : ∀ a : List Int, (∀ u ∈ a, u < V) → ∀ b : List Int, (∀ u ∈ b, 0 ≤ u) → lessL (a ++ b.map (V + ·)) (y ++ z.map (V + ·)) = lessL a y ++ (lessL b z).map (V + ·) := fun a ha b hb => by
  unfold lessL
  rw [List.filter_append, List.filter_map]
  congr 1
  ·refine List.filter_congr fun u hu => ?_
   have h1 : u ∈ y ++ z.map (V + ·) ↔ u ∈ y := by
    rw [List.mem_append]
    refine ⟨fun h => h.elim id fun h => ?_, .inl⟩
    obtain ⟨v, hv, e⟩ := List.mem_map.1 h
    have := hz v hv; have := ha u hu; omega
   rw [decide_eq_decide.2 h1]
  ·congr 1
   refine List.filter_congr fun u hu => ?_
   have h1 : V + u ∈ y ++ z.map (V + ·) ↔ u ∈ z := by
    rw [List.mem_append]
    refine ⟨fun h => h.elim (fun h => ?_) fun h => ?_, fun h => .inr (List.mem_map.2 ⟨u, h, rfl⟩)⟩
    ·have := hy _ h; have := hb u hu; omega
    ·obtain ⟨v, hv, e⟩ := List.mem_map.1 h
     have : v = u := by omega
     rw [← this]; exact hv
   show (!decide (V + u ∈ y ++ z.map (V + ·))) = !decide (u ∈ z)
   rw [decide_eq_decide.2 h1]
 have one : ∀ a : List Int, (∀ u ∈ a, u < V) → lnkL (G.map fun b => a ++ b.map (V + ·)) (y ++ z.map (V + ·)) = if Ins y a then (lnkL G z).map fun b => lessL a y ++ b.map (V + ·) else [] := fun a ha => by
  unfold lnkL
  rw [List.filter_map, List.map_map]
  by_cases h : Ins y a
  ·rw [if_pos h, List.map_map]
   have e1 : G.filter ((fun f => decide (Ins (y ++ z.map (V + ·)) f)) ∘ fun b => a ++ b.map (V + ·)) = G.filter fun b => decide (Ins z b) := List.filter_congr fun b hb => decide_eq_decide.2 ⟨fun h' => ((hin a ha b (hG b hb)).1 h').2, fun h' => (hin a ha b (hG b hb)).2 ⟨h, h'⟩⟩
   rw [e1]
   exact List.map_congr_left fun b hb => hless a ha b (hG b (List.mem_filter.1 hb).1)
  ·rw [if_neg h]
   have e1 : G.filter ((fun f => decide (Ins (y ++ z.map (V + ·)) f)) ∘ fun b => a ++ b.map (V + ·)) = [] := List.filter_eq_nil_iff.2 fun b hb h' => h ((hin a ha b (hG b hb)).1 (of_decide_eq_true h')).1
   rw [e1]; rfl
 have app : ∀ (A B : List (List Int)) (x : List Int), lnkL (A ++ B) x = lnkL A x ++ lnkL B x := fun A B x => by unfold lnkL; rw [List.filter_append, List.map_append]
 induction F with
 | nil => rfl
 | cons a r ih =>
  have ih := ih fun f hf => hF f (List.mem_cons_of_mem _ hf)
  unfold jnL at ih ⊢
  rw [List.flatMap_cons, app, ih, one a (hF a (by simp))]
  by_cases h : Ins y a
  ·rw [if_pos h]
   unfold lnkL
   rw [List.filter_cons_of_pos (by simpa using h), List.map_cons, List.flatMap_cons]
  ·rw [if_neg h]
   unfold lnkL
   rw [List.filter_cons_of_neg (by simpa using h)]; rfl
theorem eF_join {V : Int} {F G : List (List Int)} (hFne : F ≠ []) (hGne : G ≠ []) (hsF : ∀ f ∈ F, SA f) (hsG : ∀ g ∈ G, SA g) (hF : ∀ f ∈ F, ∀ a ∈ f, a < V) (hG : ∀ g ∈ G, ∀ a ∈ g, 0 ≤ a) {x : List Int} {k : Nat} (hx : x ∈ fcs (jnL V F G) k) :
  ∃ y z, y ∈ fcs F y.length ∧ z ∈ fcs G z.length ∧ eF (jnL V F G) x = eF F y * eF G z := by
 have hJne : jnL V F G ≠ [] := by
  match F, G, hFne, hGne with
  | a :: _, b :: _, _, _ => exact List.ne_nil_of_mem (jnL_mem.2 ⟨a, by simp, b, by simp, rfl⟩)
 have hsJ : ∀ l ∈ jnL V F G, SA l := fun l hl => by
  obtain ⟨a, ha, b, hb, rfl⟩ := jnL_mem.1 hl
  rw [SA, List.pairwise_append]
  refine ⟨hsF a ha, List.pairwise_map.2 ((hsG b hb).imp fun h => by omega), fun u hu v hv => ?_⟩
  obtain ⟨q, hq, rfl⟩ := List.mem_map.1 hv
  have := hF a ha u hu; have := hG b hb q hq; omega
 obtain ⟨⟨l, hl, h1⟩, _⟩ := (fcs_iff' hJne).1 hx
 obtain ⟨a, ha, b, hb, rfl⟩ := jnL_mem.1 hl
 obtain ⟨y, w, rfl, hya, hwb⟩ := List.sublist_append_iff.1 h1
 obtain ⟨z, hzb, rfl⟩ := List.sublist_map_iff.1 hwb
 have hyV : ∀ u ∈ y, u < V := fun u hu => hF a ha u (hya.subset hu)
 have hz0 : ∀ u ∈ z, 0 ≤ u := fun u hu => hG b hb u (hzb.subset hu)
 have hyF : y ∈ fcs F y.length := (fcs_iff' hFne).2 ⟨⟨a, ha, hya⟩, rfl⟩
 have hzG : z ∈ fcs G z.length := (fcs_iff' hGne).2 ⟨⟨b, hb, hzb⟩, rfl⟩
 refine ⟨y, z, hyF, hzG, ?_⟩
 have e1 := eF_link hsJ (face_of hx)
 have e2 := eF_link hsF hyF
 have e3 := eF_link hsG hzG
 rw [lnk_join hF hG hyV hz0] at e1
 have hF'ne : lnkL F y ≠ [] := List.ne_nil_of_mem (List.mem_map.2 ⟨a, List.mem_filter.2 ⟨ha, decide_eq_true (Ins.of_sub hya)⟩, rfl⟩)
 have hG'ne : lnkL G z ≠ [] := List.ne_nil_of_mem (List.mem_map.2 ⟨b, List.mem_filter.2 ⟨hb, decide_eq_true (Ins.of_sub hzb)⟩, rfl⟩)
 have hnf := nf_join (V := V) hF'ne hG'ne (fun f hf u hu => by
  obtain ⟨q, hq, rfl⟩ := List.mem_map.1 hf
  exact hF q (List.mem_filter.1 hq).1 u (lessL_mem.1 hu).1) (fun f hf u hu => by
  obtain ⟨q, hq, rfl⟩ := List.mem_map.1 hf
  exact hG q (List.mem_filter.1 hq).1 u (lessL_mem.1 hu).1)
 generalize lnkL F y = F' at *
 generalize lnkL G z = G' at *
 have h5 := sumN_ends (g := fun j => sgn j * (nf (jnL V F' G') j : Int)) (a := dpt (jnL V F' G') + 1) (b := dpt (jnL V F' G') + 1 + (dpt F' + dpt G' + 1)) (by omega) fun i hi => by rw [nf_short (by omega)]; simp
 rw [← h5, sumN_congr (h := conv (fun i => sgn i * (nf F' i : Int)) fun i => sgn i * (nf G' i : Int)) fun i _ => by rw [conv_sgn, hnf], conv_prod (a := dpt F') (b := dpt G') (fun i hi => by rw [nf_short hi]; simp) (fun i hi => by rw [nf_short hi]; simp) (by omega), e2, e3] at e1
 have h6 : sgn (y ++ z.map (V + ·)).length = sgn y.length * sgn z.length := by rw [List.length_append, List.length_map, sgn_add]
 rw [h6] at e1
 have one : ∀ m, sgn m = 1 ∨ sgn m = -1 := fun m => by unfold sgn; split <;> simp
 have hmm : ∀ a b c d : Int, a * b * (c * d) = a * c * (b * d) := fun a b c d => by simp only [Int.mul_assoc, Int.mul_left_comm]
 rw [hmm] at e1
 generalize eF F y * eF G z = D at *
 rcases one y.length with p | p <;> rcases one z.length with q | q <;> rw [p, q] at e1 <;> omega
theorem eul_two : Eul [[0], [1]] := by
 refine ⟨by decide, ?_⟩
 decide
theorem eul_susp {V : Int} {F : List (List Int)} (hc : Cplx V F) (h : Eul F) (hK : suK V F = 0) : Eul (suL V F) := by
 unfold suK at hK
 unfold suL
 rw [if_pos hc] at hK ⊢
 unfold jnK at hK
 unfold jnLs
 by_cases hB : JnBig F [[0], [1]]
 ·rw [if_pos hB] at hK; cases hK
 rw [if_neg hB] at hK ⊢
 unfold cxK at hK
 by_cases hX : CxBad (jnS V F [[0], [1]])
 ·rw [if_pos hX] at hK; cases hK
 clear hK
 unfold jnS at hX ⊢
 have hsF : ∀ f ∈ F, SA f := fun f hf => (hc.row f hf).2.1
 by_cases hF : F = []
 ·subst hF
  rw [if_pos (.inl rfl)] at hX ⊢
  exact eul_cx (by decide) hX (by decide) fun k hk x hx => eul_two.2 k hk x hx
 rw [if_neg (by simp [hF])] at hX ⊢
 have hlen : ∀ l ∈ jnL V F [[0], [1]], l.length = dpt F + 1 := fun l hl => by
  obtain ⟨a, ha, b, hb, rfl⟩ := jnL_mem.1 hl
  have h1 := h.1 a ha
  have h2 : b.length = 1 := by simp at hb; rcases hb with rfl | rfl <;> rfl
  rw [List.length_append, List.length_map, h1, h2]
 have hsJ : ∀ l ∈ jnL V F [[0], [1]], SA l := fun l hl => by
  obtain ⟨a, ha, b, hb, rfl⟩ := jnL_mem.1 hl
  rw [SA, List.pairwise_append]
  refine ⟨hsF a ha, List.pairwise_map.2 ((two_ptS.row b hb).2.1.imp fun h => by omega), fun u hu v hv => ?_⟩
  obtain ⟨q, hq, rfl⟩ := List.mem_map.1 hv
  have := (hc.row a ha).2.2 u hu; have := (two_ptS.row b hb).2.2 q hq; omega
 have hdJ : dpt (jnL V F [[0], [1]]) = dpt F + 1 := by
  have hne : jnL V F [[0], [1]] ≠ [] := by
   match F, hF with
   | a :: _, _ => exact List.ne_nil_of_mem (jnL_mem.2 ⟨a, by simp, [0], by simp, rfl⟩)
  obtain ⟨f, hf, e⟩ := dpt_ex hne
  rw [← e]; exact hlen f hf
 refine eul_cx hsJ hX (fun l hl => by rw [hdJ]; exact hlen l hl) fun k _ x hx => ?_
 obtain ⟨y, z, hy, hz, e⟩ := eF_join hF (by simp) hsF (fun g hg => (two_ptS.row g hg).2.1) (fun f hf a ha => ((hc.row f hf).2.2 a ha).2) (fun g hg a ha => ((two_ptS.row g hg).2.2 a ha).1) hx
 have hyd : y.length ≤ dpt F := by
  obtain ⟨⟨f, hf, h1⟩, _⟩ := (fcs_iff' hF).1 hy
  have := h1.length_le
  rwa [h.1 f hf] at this
 have hzd : z.length ≤ dpt [[0], [1]] := by
  obtain ⟨⟨f, hf, h1⟩, _⟩ := (fcs_iff' (by simp)).1 hz
  have := h1.length_le
  rwa [eul_two.1 f hf] at this
 rw [e, h.2 _ hyd y hy, eul_two.2 _ hzd z hz, hdJ, sgn_succ]
 have : sgn (dpt [[0], [1]]) = -1 := by decide
 rw [this, Int.mul_neg, Int.mul_one]
end Go.Proofs.YtiblelgfkakmiaaGreatDoor.Vc
/-
 The laws' marks over lists of lists, told exactly.
-/
namespace Go.Proofs.YtiblelgfkakmiaaGreatDoor.Vc
open Go.RowKit
def tot (xss : List (List Int)) : Int := ((xss.map List.length).sum : Nat)
def mkSS (k : Int) : List (List Int) → List (List Int)
 | [] => []
 | x :: xs => marks k x.length :: mkSS (k + x.length) xs
def mixM (k : Int) (xs : List (List Int)) (i : Nat) : List (List Int) := mkSS k (xs.take i) ++ xs.drop i
end Go.Proofs.YtiblelgfkakmiaaGreatDoor.Vc
/-
 What laws do to complexes: measured, copied, compared, marked.
-/
namespace Go.Proofs.YtiblelgfkakmiaaGreatDoor.Vc
open Go.RowKit Go.ChangeShapes Go.WideShapes
section
variable {H : Type} {enc : TypeId × Value → H} {P : Program}
end
end Go.Proofs.YtiblelgfkakmiaaGreatDoor.Vc
/-
 The walk of the law FnExactLinkOf: it returns true. Conditions: the library's table of powers of ten holds what the program's text lays there.
-/
namespace Go.Proofs.YtiblelgfkakmiaaGreatDoor.Vc
open Go.RowKit
theorem cxL_bd {ls : List (List Int)} : (cxL ls).length ≤ 1000 ∧ ∀ x ∈ cxL ls, x.length ≤ 1000 := by
 unfold cxL
 split
 ·simp
 ·rename_i h
  have h1 : ¬ (∃ l ∈ ls, 6 < l.length) := fun h' => h (.inl h')
  have h2 : (facP ls).length ≤ 400 := Nat.le_of_not_lt fun h' => h (.inr (.inr h'))
  unfold cxF
  refine ⟨by rw [List.length_map]; omega, fun x hx => ?_⟩
  obtain ⟨l, hl, rfl⟩ := List.mem_map.1 hx
  rw [List.length_map]
  have : ¬ 6 < l.length := fun h' => h1 ⟨l, (facP_mem.1 hl).1, h'⟩
  omega
theorem lkL_bd (V : Int) (F : List (List Int)) (face : List Int) : (lkL V F face).length ≤ 1000 ∧ ∀ x ∈ lkL V F face, x.length ≤ 1000 := by
 unfold lkL
 split
 ·exact cxL_bd
 ·simp
/-
 The walk of the law FnExactBoundaryOf: it returns true. Conditions: the library's table of powers of ten holds what the program's text lays there.
-/
/-
 The walk of the law FnEulerian (it returns true). Conditions: the library's table of powers of ten holds what the program's text lays there.
-/
theorem DrawIsEulerian_c (Ac : Option Addr) (nc cc : Nat) (bs : List Int) (w : World) (hY : RdY w Ac nc bs) (hnc : nc ≤ 1000000) :
  Ret Tryz.prog 18 [.slice Ac nc cc] w (fun v w' => ∃ (V : Int) (n : Nat) (F : List (List Int)) (A : Option Addr) (c : Nat) (rs : List SlV), v = .agg #[.int .i64 V, .slice A n c] ∧ (-10 ≤ V ∧ V ≤ 200) ∧ n ≤ 401 ∧ rs.length = n ∧ F.length = n ∧ St w w' (mat 28 2 A n c rs F ++ [])) := by
 refine Ret.of_cd Tryz.func18 rfl Tryz.ntmps18 rfl (postc rfl rfl) (Cd.seq (Cd.region (Ops.new2 (St.refl w) rfl ?_)))
 intro A2 w1 hS1
 refine Ops.n (tQ (Cd.seq (Cd.region (Ops.ms rfl rfl rfl (Ops.call (DrawIsComplex_c Ac nc cc bs w1 (hY.below hS1.below) hnc) rfl rfl rfl ?_)))))
 rintro _ w2 ⟨V, n, F, A, c, rs, rfl, hV, hn, hrl, hFl, hst⟩
 have hS2 := hS1.call2 hst
 refine Ops.st_agg 2 0 hS2 rfl rfl rfl rfl rfl rfl rfl ?_
 intro w3 hS3
 refine Ops.n (tQ (Cd.ret ?_))
 skip
 exact ⟨A2, _, rfl, hS3.rd 0 rfl, V, n, F, A, c, rs, rfl, hV, hn, hrl, hFl, hS3.tail⟩
theorem suK_cases (V : Int) (F : List (List Int)) (h : Cplx V F) : suK V F = 0 ∨ suK V F = 3 := by
 unfold suK
 rw [if_pos h]; exact jnK_cases V F _
theorem cxL_nil : cxL [] = [] := by unfold cxL; split <;> rfl
theorem cxK_nil : cxK [] = 0 := by
 unfold cxK
 exact if_neg ((by decide : Cplx 0 []).sub (g := id) fun f hf => by cases hf)
def LkI (w17 : World) (As A3 : Option Addr) (V : Int) (A : Option Addr) (n c : Nat) (F : List (List Int)) (a : Option Addr) (ln cp : Nat) (f : List Int) (Ac : Option Addr) (nc cc : Nat) (S : Nat → Bool) (e : Env) (w : World) : Prop :=
  e 0 = .slice Ac nc cc ∧ e 3 = .pointer A3 ∧ e 18 = .int .i64 (suK V F) ∧ e 21 = .pointer As ∧ e 22 = .slice a ln cp ∧
  (S 0 = true → e 153 = .agg #[.int .i64 V, .slice A n c]) ∧ (S 1 = true → e 154 = .slice a ln cp) ∧ (S 2 = true → e 155 = .pointer As) ∧ (S 3 = true → e 156 = .slice a ln cp) ∧ (S 4 = true → e 157 = .int .i64 (ln : Int)) ∧ (S 5 = true → e 158 = .int .i64 ((ln : Int) + 1)) ∧
  ∃ (m : Nat) (A23 D : Option Addr) (d : Nat) (ts : List SlV) (k3 : Ck) (bsB bsL : List Ck), m ≤ ln ∧ (S 6 = true → e 159 = .int .i64 (m : Int)) ∧ (S 7 = true → e 160 = .slice a m cp) ∧
   (S 8 = false → bsL = []) ∧ (S 8 = true → bsL = mat 28 2 D (lkL V F (f.take m)).length d ts (lkL V F (f.take m)) ++ [] ∧ e 161 = .tuple #[.agg #[.int .i64 (lkV V F (f.take m)), .slice D (lkL V F (f.take m)).length d], .int .i64 (lkK V F (f.take m))]) ∧
   (S 9 = true → e 152 = .tuple #[.agg #[.int .i64 (lkV V F (f.take m)), .slice D (lkL V F (f.take m)).length d], .int .i64 (lkK V F (f.take m))]) ∧
   (S 10 = true → e 162 = .agg #[.int .i64 (lkV V F (f.take m)), .slice D (lkL V F (f.take m)).length d]) ∧ (S 11 = true → e 163 = .int .i64 (lkK V F (f.take m))) ∧
   (S 12 = false → bsB = []) ∧ (S 12 = true → e 23 = .pointer A23) ∧ (S 12 = true → S 13 = false → bsB = [cxZ A23]) ∧ (S 13 = true → bsB = [cxB A23 (lkV V F (f.take m)) D (lkL V F (f.take m)).length d]) ∧
   (S 14 = true → e 24 = .int .i64 (lkK V F (f.take m))) ∧ dicK w17 As k3 ∧ St w17 w (bsB ++ (bsL ++ [k3]))
set_option maxHeartbeats 1000000 in
theorem FnEulerian_c (Ac : Option Addr) (nc cc : Nat) (bs : List Int) (w : World) (hT : Tab w) (hY : RdY w Ac nc bs) :
  Ret Tryz.prog 4 [.slice Ac nc cc] w (fun v w' => v = .bool true ∧ St w w' []) := by
 refine Ret.of_cd Tryz.func4 rfl Tryz.ntmps4 rfl (post1 rfl) (Cd.seq (Cd.region (Ops.mb rfl rfl rfl (Ops.n (tQ (Cd.seq (Cd.seq (Cd.region (Ops.ms rfl rfl rfl ?_)))))))))
 refine Ops.call (big_c Ac nc cc w) rfl rfl rfl ?_
 rintro _ w1 ⟨rfl, hW⟩
 refine Ops.n (tQ ?_)
 refine Cd.cond_p _ rfl (fun h1 => ?_) (fun h1 => ?_)
 ·refine Cd.seq (Cd.region (Ops.mb rfl rfl rfl (Ops.n (tQ (Cd.ret (thenQ_r (ret1_b rfl ?_)))))))
  exact ⟨rfl, hW⟩
 have hT := hT.later hW.below
 have hY := hY.below hW.below
 refine Cd.skip (tQ (Cd.seq (Cd.region (Ops.ms rfl rfl rfl (Ops.call (DrawIsEulerian_c Ac nc cc bs w1 hY (by omega)) rfl rfl rfl ?_)))))
 rintro _ w2 ⟨V, n, F, A, c, rs, rfl, hV, hn, hrl, hFl, hst⟩
 have hX : RowsI w2 A n rs F := St.rowsI hst hFl
 have hb := hst.below
 have hW := hW.later hb; have hT := hT.later hb; have hY := hY.below hb
 clear hst
 skip
 refine Ops.new2 (St.refl w2) rfl ?_
 intro A3 w3 hU
 refine Ops.st_agg 2 0 hU rfl rfl rfl rfl rfl rfl rfl ?_
 intro w4 hU
 have hb := hU.below
 have h3 : Rd w4 A3 2 (fun j => [Value.int .i64 V, .slice A n c].getD j undef) := hU.rd 0 rfl
 have hW := hW.later hb; have hT := hT.later hb; have hY := hY.below hb; have hX := hX.later hb
 clear hU
 refine Ops.n (tQ (Cd.seq (Cd.region (Ops.ld_agg 1 h3 rfl rfl rfl (Ops.call (implIsEulerian_c V A n c rs F w4 hT hX (by omega)) rfl rfl rfl ?_)))))
 rintro _ w5 ⟨rfl, hst⟩
 have hb := hst.below
 have hW := hW.later hb; have hT := hT.later hb; have hY := hY.below hb; have hX := hX.later hb; have h3 := Rd.below h3 hb
 clear hst
 refine Ops.mv_tup rfl rfl rfl (Ops.extract rfl rfl rfl (Ops.extract rfl rfl rfl (Ops.mb rfl rfl rfl (Ops.mi rfl rfl rfl (Ops.n (tQ (Cd.seq (Cd.seq (Cd.region ?_)))))))))
 refine Ops.ld_agg 1 h3 rfl rfl rfl (Ops.call (specIsEulerian_c V A n c rs F w5 hX (by omega)) rfl rfl rfl ?_)
 rintro _ w6 ⟨rfl, hst⟩
 have hb := hst.below
 have hW := hW.later hb; have hT := hT.later hb; have hY := hY.below hb; have hX := hX.later hb; have h3 := Rd.below h3 hb
 clear hst
 rw [← ieB_seB]
 refine Ops.mv_tup rfl rfl rfl (Ops.extract rfl rfl rfl (Ops.extract rfl rfl rfl (Ops.mb rfl rfl rfl (Ops.mi rfl rfl rfl (Ops.n (tQ (Cd.seq (Cd.region (Ops.mi rfl rfl rfl ?_)))))))))
 refine Ops.mi rfl rfl rfl (Ops.neq rfl rfl rfl (Ops.mb rfl rfl rfl ?_))
 refine Ops.split_p 44 rfl (fun h => absurd rfl h) (fun _ => ?_) --f
 refine Ops.g rfl rfl rfl (Ops.mb rfl rfl rfl (Ops.g rfl rfl rfl (Ops.mb rfl rfl rfl (Ops.g rfl rfl rfl (Ops.neqB rfl rfl rfl ?_)))))
 rw [show (ieB V F == ieB V F) = true from beq_self_eq_true _]
 refine Ops.pick_f rfl rfl rfl (Ops.n (tQ (Cd.cond_f rfl (Cd.skip (tQ (Cd.seq (Cd.region (Ops.ld_agg 1 h3 rfl rfl rfl (Ops.call (implIsPseudo_c V A n c rs F w6 hT hX (by omega)) rfl rfl rfl ?_)))))))))
 rintro _ w7 ⟨b1, rfl, hb1, hst⟩
 have hb := hst.below
 have hW := hW.later hb; have hT := hT.later hb; have hY := hY.below hb; have hX := hX.later hb; have h3 := Rd.below h3 hb
 clear hst
 refine Ops.mv_tup rfl rfl rfl (Ops.extract rfl rfl rfl (Ops.extract rfl rfl rfl (Ops.mb rfl rfl rfl (Ops.mi rfl rfl rfl (Ops.n (tQ (Cd.seq (Cd.seq (Cd.region ?_)))))))))
 refine Ops.ld_agg 1 h3 rfl rfl rfl (Ops.call (specIsPseudo_c V A n c rs F w7 hX (by omega)) rfl rfl rfl ?_)
 rintro _ w8 ⟨b2, rfl, hb2, hst⟩
 have hb := hst.below
 have hW := hW.later hb; have hT := hT.later hb; have hY := hY.below hb; have hX := hX.later hb; have h3 := Rd.below h3 hb
 clear hst
 obtain rfl : b1 = b2 := Bool.eq_iff_iff.2 (hb1.trans hb2.symm)
 refine Ops.mv_tup rfl rfl rfl (Ops.extract rfl rfl rfl (Ops.extract rfl rfl rfl (Ops.mb rfl rfl rfl (Ops.mi rfl rfl rfl (Ops.n (tQ (Cd.seq (Cd.region (Ops.mi rfl rfl rfl ?_)))))))))
 refine Ops.mi rfl rfl rfl (Ops.neq rfl rfl rfl (Ops.mb rfl rfl rfl ?_))
 refine Ops.split_p 62 rfl (fun h => absurd rfl h) (fun _ => ?_) --f
 refine Ops.g rfl rfl rfl (Ops.mb rfl rfl rfl (Ops.g rfl rfl rfl (Ops.mb rfl rfl rfl (Ops.g rfl rfl rfl (Ops.neqB rfl rfl rfl ?_)))))
 rw [show (b1 == b1) = true from beq_self_eq_true _]
 refine Ops.pick_f rfl rfl rfl (Ops.n (tQ (Cd.cond_f rfl (Cd.skip (tQ (Cd.seq (Cd.seq (Cd.region (Ops.mi rfl rfl rfl ?_)))))))))
 refine Ops.neq rfl rfl rfl (Ops.mb rfl rfl rfl ?_)
 refine Ops.split_p 69 rfl (fun h2 => ?_) (fun h2 => ?_)
 ·refine Ops.k rfl rfl rfl rfl rfl (Ops.k rfl rfl rfl rfl rfl (Ops.pick_t rfl rfl rfl (Ops.n (tQ (Cd.cond_t rfl (Cd.seq (Cd.region (Ops.mb rfl rfl rfl (Ops.n ?_)))))))))
  refine tQ (Cd.ret (thenQ_r (ret1_b rfl ?_)))
  exact ⟨rfl, hW⟩
 have h2 : hvK V F = 0 := Classical.not_not.1 h2
 have hC : Cplx V F := Classical.byContradiction fun h => by unfold hvK at h2; rw [if_neg h] at h2; cases h2
 refine Ops.g rfl rfl rfl (Ops.mb rfl rfl rfl (Ops.g rfl rfl rfl ?_))
 first | refine Ops.not_p rfl rfl ?_ | refine Ops.not rfl rfl ?_
 refine Ops.pick_f rfl rfl rfl (Ops.n (tQ ?_))
 refine Cd.cond_p _ rfl (fun hE => ?_) (fun hE => ?_)
 ·refine Cd.seq (Cd.region (Ops.mb rfl rfl rfl (Ops.n (tQ (Cd.ret (thenQ_r (ret1_b rfl ?_)))))))
  exact ⟨rfl, hW⟩
 have hE := Classical.not_not.1 hE
 have hEu := (EulI_iff fun f hf => (hC.row f hf).2.1).1 hE.2
 have hF4 := hC.f
 have h6 : ∀ f ∈ F, f.length ≤ 6 := fun f hf => (hC.row f hf).1.2
 have hsa : ∀ f ∈ F, SA f := fun f hf => (hC.row f hf).2.1
 have hd6 := dpt_bd h6
 have eH : hvV V F = hP (fvP F) := by unfold hvV; rw [if_pos hC]
 have hhl : (hP (fvP F)).length = dpt F + 1 := by rw [hP_len, fvP_len]
 have hBd := eul_bd hC hEu
 have eBL : bdL V F = [] := by unfold bdL; rw [hBd, cxL_nil]; split <;> rfl
 have eBK : bdK V F = 0 := by unfold bdK; rw [if_pos hC, if_pos hEu.1, hBd, cxK_nil]
 refine Cd.skip (tQ (Cd.seq (Cd.region (Ops.ld_agg 1 h3 rfl rfl rfl (Ops.call (HVector_c V A n c rs F w8 hT hX (by omega)) rfl rfl rfl ?_)))))
 rw [eH]
 rintro _ w9 ⟨A12, c12, rfl, hst⟩
 have hH : RdI w9 A12 (hP (fvP F)).length (hP (fvP F)) := hst.rdI 0 rfl
 have hb := hst.below
 have hW := hW.later hb; have hT := hT.later hb; have hY := hY.below hb; have hX := hX.later hb; have h3 := Rd.below h3 hb
 clear hst
 refine Ops.mv_tup rfl rfl rfl (Ops.extract rfl rfl rfl (Ops.extract rfl rfl rfl (Ops.ms rfl rfl rfl (Ops.mi rfl rfl rfl (Ops.n (tQ (Cd.seq (Cd.region (Ops.ld_agg 1 h3 rfl rfl rfl ?_)))))))))
 refine Ops.call (implBoundaryOf_c V A n c rs F w9 hT hX (by omega)) rfl rfl rfl ?_
 rw [eBL, eBK]
 rintro _ w10 ⟨A14, c14, rs14, rfl, hrl14, hst⟩
 have hb := hst.below
 have hH := hH.later hb
 have hW := hW.later hb; have hT := hT.later hb; have hY := hY.below hb; have hX := hX.later hb; have h3 := Rd.below h3 hb
 clear hst
 refine Ops.mv_tup rfl rfl rfl (Ops.extract rfl rfl rfl (Ops.extract rfl rfl rfl (Ops.new2 (St.refl w10) rfl ?_)))
 intro A15 w11 hU
 refine Ops.st_agg 2 0 hU rfl rfl rfl rfl rfl rfl rfl ?_
 intro w12 hU
 have hb := hU.below
 have h14 : Rd w12 A15 2 (fun j => [Value.int .i64 (bdV V F), .slice A14 ([] : List (List Int)).length c14].getD j undef) := hU.rd 0 rfl
 have hH := hH.later hb
 have hW := hW.later hb; have hT := hT.later hb; have hY := hY.below hb; have hX := hX.later hb; have h3 := Rd.below h3 hb
 clear hU
 refine Ops.mi rfl rfl rfl (Ops.n (tQ (Cd.seq (Cd.seq (Cd.region (Ops.mi rfl rfl rfl (Ops.neq rfl rfl rfl (Ops.mb rfl rfl rfl ?_))))))))
 refine Ops.split_p 85 rfl (fun h => absurd h2 h) (fun _ => ?_) --f
 refine Ops.g rfl rfl rfl (Ops.mi rfl rfl rfl (Ops.g rfl rfl rfl (Ops.neq rfl rfl rfl (Ops.pick_f rfl rfl rfl (Ops.mb rfl rfl rfl ?_)))))
 refine Ops.split_p 89 rfl (fun h => absurd rfl h) (fun _ => ?_) --f
 refine Ops.g rfl rfl rfl (Ops.fld h14 rfl rfl rfl rfl inferInstance (Ops.g rfl rfl rfl (Ops.ldf_s h14 rfl rfl rfl rfl rfl (Ops.g rfl rfl rfl (Ops.len rfl rfl (Ops.g rfl rfl rfl (Ops.neq rfl rfl rfl (Ops.pick_f rfl rfl rfl (Ops.mb rfl rfl rfl ?_)))))))))
 refine Ops.split_p 95 rfl (fun h => absurd rfl h) (fun _ => ?_) --f
 refine Ops.g rfl rfl rfl (Ops.ms rfl rfl rfl (Ops.g rfl rfl rfl (Ops.len rfl rfl (Ops.g rfl rfl rfl (Ops.eql rfl rfl rfl (Ops.pick_f rfl rfl rfl (Ops.n (tQ (Cd.cond_pf rfl (by omega) ?_)))))))))
 have hsy := fun k (hk : k ≤ dpt F) => eul_h hsa h6 hEu hk
 refine Cd.skip (tQ (Cd.seq (Cd.seq (Cd.region (Ops.mi rfl rfl rfl (Ops.n (tQ (Cd.block ?_))))))))
 refine Cd.loop (α := Nat) (fun k => [(0, .slice Ac nc cc), (3, .pointer A3), (12, .slice A12 (hP (fvP F)).length c12), (16, .int .i64 (k : Int))]) (fun k w' => St w12 w' [] ∧ k ≤ dpt F + 1) (fun k => dpt F + 1 - k) 0 ⟨rfl, rfl, rfl, rfl, trivial⟩ ⟨St.refl w12, Nat.zero_le _⟩ ?_
 rintro k e w13 ⟨hst, hk⟩
 have hb := hst.below
 have hH := hH.later hb
 have hW := hW.later hb; have hT := hT.later hb; have hY := hY.below hb; have hX := hX.later hb; have h3 := Rd.below h3 hb
 refine Cd.seq (Cd.seq (Cd.region (Ops.mi rfl rfl rfl (Ops.ms rfl rfl rfl (Ops.len rfl rfl (Ops.lss rfl rfl rfl (Ops.n (tQ ?_))))))))
 refine Cd.cond_p _ rfl (fun h4 => ?_) (fun h4 => ?_)
 ·have hkd : k ≤ dpt F := by omega
  have hs := hsy k hkd
  have ek : (((hP (fvP F)).length : Nat) : Int) - 1 - (k : Int) = ((dpt F - k : Nat) : Int) := by omega
  refine Cd.skip (tQ (Cd.seq (Cd.block (Cd.seq ?_))))
  refine Cd.draw [.ex (.slice (A12) ((hP (fvP F)).length) (c12)), .ex (.int .i64 ((k : Int))), .ex (.pointer (ptrAt (A12) ((k : Int)).toNat)), .ex (.int .i64 (gi (hP (fvP F)) ((k : Int)))), .ex (.slice (A12) ((hP (fvP F)).length) (c12)), .ex (.slice (A12) ((hP (fvP F)).length) (c12)), .ex (.int .i64 ((((hP (fvP F)).length : Nat) : Int))), .ex (.int .i64 (((((hP (fvP F)).length : Nat) : Int)) - ((1 : Int)))), .ex (.int .i64 ((k : Int))), .ex (.int .i64 ((((((hP (fvP F)).length : Nat) : Int)) - ((1 : Int))) - ((k : Int)))), .ex (.pointer (ptrAt (A12) ((((((hP (fvP F)).length : Nat) : Int)) - ((1 : Int))) - ((k : Int))).toNat)), .ex (.int .i64 (gi (hP (fvP F)) ((((((hP (fvP F)).length : Nat) : Int)) - ((1 : Int))) - ((k : Int))))), .ex (.bool (false))] (by kernel_rfl) (by kernel_rfl) rfl (lx (lx (lx (lx (lx (lx (lx (lx (lx (lx (lx (lx (lx (fun _ h => by cases h)))))))))))))) ⟨?_, ?_, ?_, ?_, ?_, ?_, ?_, ?_, ?_, ?_, ?_, ?_, ?_, trivial⟩ ?_
  ·intro e1 w1 hb hp hun; refine Ops.ms rfl rfl rfl (Ops.n (d0 (by exact rfl)))
  ·intro e1 w1 hb hp hun; refine Ops.mi rfl rfl rfl (Ops.n (d0 (by exact rfl)))
  ·intro e1 w1 hb hp hun; refine Ops.idx (hH.later hb).2 rfl rfl rfl (by omega) (by omega) (Ops.n (d0 (by exact rfl)))
  ·intro e1 w1 hb hp hun; refine Ops.ld_int (hH.later hb) rfl (by omega) rfl rfl (Ops.n (d0 (by exact rfl)))
  ·intro e1 w1 hb hp hun; refine Ops.ms rfl rfl rfl (Ops.n (d0 (by exact rfl)))
  ·intro e1 w1 hb hp hun; refine Ops.ms rfl rfl rfl (Ops.n (d0 (by exact rfl)))
  ·intro e1 w1 hb hp hun; refine Ops.len rfl rfl (Ops.n (d0 (by exact rfl)))
  ·intro e1 w1 hb hp hun; refine Ops.sub rfl rfl rfl (by omega) (Ops.n (d0 (by exact rfl)))
  ·intro e1 w1 hb hp hun; refine Ops.mi rfl rfl rfl (Ops.n (d0 (by exact rfl)))
  ·intro e1 w1 hb hp hun; refine Ops.sub rfl rfl rfl (by omega) (Ops.n (d0 (by exact rfl)))
  ·intro e1 w1 hb hp hun; refine Ops.idx (hH.later hb).2 rfl rfl rfl (by omega) (by omega) (Ops.n (d0 (by exact rfl)))
  ·intro e1 w1 hb hp hun; refine Ops.ld_int (hH.later hb) rfl (by omega) rfl rfl (Ops.n (d0 (by exact rfl)))
  ·intro e1 w1 hb hp hun; refine Ops.neq rfl rfl rfl (Ops.n ?_)
   exact d0 (by exact congrArg Value.bool (decide_eq_false (fun h => h (by rw [ek]; exact hs))))
  intro u w14 hb _
  refine tQ (Cd.cond_f rfl (Cd.skip (blockQ_n (tQ (Cd.region (Ops.mi rfl rfl rfl (Ops.add rfl rfl rfl (by omega) (Ops.mi rfl rfl rfl (Ops.n ?_)))))))))
  refine tQ ?_
  exact ⟨k + 1, by show dpt F + 1 - (k + 1) < dpt F + 1 - k; omega, ⟨rfl, rfl, rfl, rfl, trivial⟩, hst.later hb, by omega⟩
 clear hst hH hsy h14
 refine Cd.exit (thenQ_x (thenQ_x (blockQ_x (tQ (Cd.seq (Cd.region (Ops.ld_agg 1 h3 rfl rfl rfl (Ops.call (implSusp_c V A n c rs F w13 hT hX (by omega)) rfl rfl rfl ?_))))))))
 rintro _ w14 ⟨A17, c17, rs17, rfl, hrl17, hst⟩
 have hS : RowsI w14 A17 (suL V F).length rs17 (suL V F) := St.rowsI hst rfl
 have hb := hst.below
 have hW := hW.later hb; have hT := hT.later hb; have hY := hY.below hb; have hX := hX.later hb; have h3 := Rd.below h3 hb
 clear hst
 refine Ops.mv_tup rfl rfl rfl (Ops.extract rfl rfl rfl (Ops.extract rfl rfl rfl (Ops.new2 (St.refl w14) rfl ?_)))
 intro A18 w15 hU
 refine Ops.st_agg 2 0 hU rfl rfl rfl rfl rfl rfl rfl ?_
 intro w16 hU
 have hb := hU.below
 have h17 : Rd w16 A18 2 (fun j => [Value.int .i64 (suV V F), .slice A17 (suL V F).length c17].getD j undef) := hU.rd 0 rfl
 have hS := hS.later hb
 have hW := hW.later hb; have hT := hT.later hb; have hY := hY.below hb; have hX := hX.later hb; have h3 := Rd.below h3 hb
 clear hU
 have hsl : (suL V F).length ≤ 1000 := by unfold suL; rw [if_pos hC]; exact (jnLs_bd V F _).1
 have hCS : Cplx (suV V F) (suL V F) := by unfold suV suL; rw [if_pos hC, if_pos hC]; exact jn_cplx hC two_pts
 refine Ops.mi rfl rfl rfl (Ops.n (tQ ?_))
 refine Cd.join (α := Unit) (fun _ => [(0, .slice Ac nc cc), (3, .pointer A3), (18, .int .i64 (suK V F))]) (fun _ w' => St w16 w' []) ?_ ?_
 ·refine Cd.seq (Cd.region (Ops.mi rfl rfl rfl (Ops.eql rfl rfl rfl (Ops.n (tQ ?_)))))
  refine Cd.cond_p _ rfl (fun h5 => ?_) (fun h5 => ?_)
  ·have hES := eul_susp hC hEu h5
   have eK : hvK (suV V F) (suL V F) = 0 := by unfold hvK; rw [if_pos hCS]
   have eE : Cplx (suV V F) (suL V F) ∧ EulI (suL V F) := ⟨hCS, (EulI_iff fun f hf => (hCS.row f hf).2.1).2 hES⟩
   refine Cd.seq (Cd.region (Ops.ld_agg 1 h17 rfl rfl rfl (Ops.call (implIsEulerian_c (suV V F) A17 _ c17 rs17 (suL V F) w16 hT hS (by omega)) rfl rfl rfl ?_)))
   rintro _ w17 ⟨rfl, hst⟩
   refine Ops.mv_tup rfl rfl rfl (Ops.extract rfl rfl rfl (Ops.extract rfl rfl rfl (Ops.mb rfl rfl rfl (Ops.mi rfl rfl rfl (Ops.n (tQ (Cd.seq (Cd.region (Ops.mi rfl rfl rfl ?_)))))))))
   refine Ops.neq rfl rfl rfl (Ops.mb rfl rfl rfl ?_)
   refine Ops.split_p 133 rfl (fun h => absurd eK h) (fun _ => ?_) --f
   refine Ops.g rfl rfl rfl (Ops.mb rfl rfl rfl (Ops.g rfl rfl rfl ?_))
   first | refine Ops.not_p rfl rfl ?_ | refine Ops.not rfl rfl ?_
   refine Ops.pick_f rfl rfl rfl (Ops.n (tQ ?_))
   refine Cd.cond_pf rfl (fun h => h eE) ?_
   refine Cd.skip (tQ ?_)
   exact ⟨(), ⟨rfl, rfl, rfl, trivial⟩, hst⟩
  ·refine Cd.skip (tQ ?_)
   exact ⟨(), ⟨rfl, rfl, rfl, trivial⟩, St.refl _⟩
 rintro _ e w17 hst
 have hb := hst.below
 have hW := hW.later hb; have hT := hT.later hb; have hY := hY.below hb; have hX := hX.later hb; have h3 := Rd.below h3 hb
 clear hst hS h17
 refine Cd.seq (Cd.seq (Cd.region (Ops.fld h3 rfl rfl rfl rfl inferInstance (Ops.ldf_s h3 rfl rfl rfl rfl rfl (Ops.len rfl rfl (Ops.eql rfl rfl rfl (Ops.n (tQ ?_))))))))
 refine Cd.cond_p _ rfl (fun h5 => ?_) (fun h5 => ?_)
 ·refine Cd.seq (Cd.region (Ops.mb rfl rfl rfl (Ops.n (tQ (Cd.ret (thenQ_r (ret1_b rfl ?_)))))))
  exact ⟨rfl, hW⟩
 have hn0 : 0 < n := by omega
 refine Cd.skip (tQ (Cd.seq (Cd.region (Ops.ms rfl rfl rfl (Ops.call (roll_c Ac nc cc bs 1171 w17 hY (by omega)) rfl rfl rfl ?_)))))
 rintro _ w18 ⟨As, kd, rfl, hkd, hD⟩
 refine Ops.mv_ptr rfl rfl rfl (Ops.n (tQ (Cd.seq ?_)))
 refine Cd.drawP [6] [.ex (.pointer (ptrAt A3 1)), .ex (.slice (A) (n) (c)), .ex (.pointer As), .ex (.pointer (ptrAt (A3) 1)), .ex (.slice (A) (n) (c)), .ex (.int .i64 (((n : Nat) : Int))), .al (fun v => ∃ r : Nat, v = .int .i64 (r : Int) ∧ r < n) (fun v w' => ∃ k3, dicK w17 As k3 ∧ St w17 w' [k3]), .al (fun v => ∃ r : Nat, v = .pointer (ptrAt A r) ∧ r < n) (fun _ _ => True), .al (fun v => ∃ r : Nat, v = .slice (rg rs (r : Int)).a (rg rs (r : Int)).n (rg rs (r : Int)).c ∧ r < n) (fun _ _ => True), .al (fun v => ∃ r : Nat, v = .slice (rg rs (r : Int)).a (rg rs (r : Int)).n (rg rs (r : Int)).c ∧ r < n) (fun _ w' => ∃ k3, dicK w17 As k3 ∧ St w17 w' [k3])] (by kernel_rfl) (by kernel_rfl) (ly (ly (ly (ly (ly (ly (List.forall_mem_cons.2 ⟨Ye.lasts_al (fun v w w' h hb => by obtain ⟨k3, hK3, hT⟩ := h; exact ⟨k3, hK3, hT.later hb⟩), (List.forall_mem_cons.2 ⟨Ye.lasts_al (fun v w w' h hb => trivial), (List.forall_mem_cons.2 ⟨Ye.lasts_al (fun v w w' h hb => trivial), (List.forall_mem_cons.2 ⟨Ye.lasts_al (fun v w w' h hb => by obtain ⟨k3, hK3, hT⟩ := h; exact ⟨k3, hK3, hT.later hb⟩), (fun _ h => by cases h)⟩)⟩)⟩)⟩))))))) ⟨?_, ?_, ?_, ?_, ?_, ?_, ?_, ?_, ?_, ?_, trivial⟩ ?_
 ·intro e1 w1 cc hlo hhi hb0 hp hun hq; show Ops _ _ _ _ _ _ _
  have hX3 : Rd w1 A3 2 (fun j => [Value.int .i64 V, .slice A n c].getD j undef) := by { have hhi := le_of_hi hhi (b := 1) (by kernel_rfl); rcases (show cc = 0 ∨ cc = 1 by omega) with h | h; { exact (hD.later (hb0 h)).old h3 }; { subst h; obtain ⟨k3, _, hT9⟩ := (hq 6 _ _ (by kernel_rfl) (by kernel_rfl) (by kernel_rfl) rfl rfl).2 (by kernel_rfl); exact hT9.old h3 } }
  refine Ops.fld hX3 rfl rfl rfl rfl inferInstance (Ops.n (p0_ rfl (by exact rfl)))
 ·intro e1 w1 cc hlo hhi hb0 hp hun hq; show Ops _ _ _ _ _ _ _
  have hX3 : Rd w1 A3 2 (fun j => [Value.int .i64 V, .slice A n c].getD j undef) := by { have hhi := le_of_hi hhi (b := 1) (by kernel_rfl); rcases (show cc = 0 ∨ cc = 1 by omega) with h | h; { exact (hD.later (hb0 h)).old h3 }; { subst h; obtain ⟨k3, _, hT9⟩ := (hq 6 _ _ (by kernel_rfl) (by kernel_rfl) (by kernel_rfl) rfl rfl).2 (by kernel_rfl); exact hT9.old h3 } }
  refine Ops.ldf_s hX3 rfl rfl rfl rfl rfl (Ops.n (p0_ rfl (by exact rfl)))
 ·intro e1 w1 cc hlo hhi hb0 hp hun hq; show Ops _ _ _ _ _ _ _
  refine Ops.mv_ptr rfl rfl rfl (Ops.n (p0_ rfl (by exact rfl)))
 ·intro e1 w1 cc hlo hhi hb0 hp hun hq; show Ops _ _ _ _ _ _ _
  obtain rfl := cc_of hlo hhi (b := 0) (by kernel_rfl) (by kernel_rfl)
  have hb := hb0 rfl
  refine Ops.fld ((hD.old h3).below hb) rfl rfl rfl rfl inferInstance (Ops.n (p0_ rfl (by exact rfl)))
 ·intro e1 w1 cc hlo hhi hb0 hp hun hq; show Ops _ _ _ _ _ _ _
  obtain rfl := cc_of hlo hhi (b := 0) (by kernel_rfl) (by kernel_rfl)
  have hb := hb0 rfl
  refine Ops.ldf_s ((hD.old h3).below hb) rfl rfl rfl rfl rfl (Ops.n (p0_ rfl (by exact rfl)))
 ·intro e1 w1 cc hlo hhi hb0 hp hun hq; show Ops _ _ _ _ _ _ _
  refine Ops.len rfl rfl (Ops.n (p0_ rfl (by exact rfl)))
 ·intro e1 w1 cc hlo hhi hb0 hp hun hq; show Ops _ _ _ _ _ _ _
  obtain rfl := cc_of hlo hhi (b := 0) (by kernel_rfl) (by kernel_rfl)
  have hb := hb0 rfl
  refine Ops.call (dicNext_c 0 (n : Int) (hD.later hb) rfl hkd) rfl rfl rfl ?_
  rintro _ w9 ⟨r, k3, rfl, hr, hK3, hS9⟩
  refine Ops.n ?_
  exact AfterU.dn rfl ⟨⟨r.toNat, by rw [Int.toNat_of_nonneg hr.1], by have := hr.2.1 (by omega); omega⟩, k3, hK3, hS9⟩
 ·intro e1 w1 cc hlo hhi hb0 hp hun hq; show Ops _ _ _ _ _ _ _
  obtain rfl := cc_of hlo hhi (b := 1) (by kernel_rfl) (by kernel_rfl)
  have hph := (hp 6 _ _ (by kernel_rfl) rfl rfl).2 (by kernel_rfl)
  obtain ⟨r, h149, hr⟩ := (hp 6 _ _ (by kernel_rfl) rfl rfl).1
  obtain ⟨k3, hK3, hT9⟩ := hph
  refine Ops.idx (i := (r : Int)) (hT9.oldRows hX).top.2 rfl (by exact h149) rfl (by omega) (by omega) (Ops.n ?_)
  exact AfterP.dn rfl (Below.refl _ _) ⟨⟨r, rfl, hr⟩, trivial⟩
 ·intro e1 w1 cc hlo hhi hb0 hp hun hq; show Ops _ _ _ _ _ _ _
  obtain rfl := cc_of hlo hhi (b := 1) (by kernel_rfl) (by kernel_rfl)
  have hph := (hp 6 _ _ (by kernel_rfl) rfl rfl).2 (by kernel_rfl)
  obtain ⟨r, h150, hr⟩ := (hp 7 _ _ (by kernel_rfl) rfl rfl).1
  obtain ⟨k3, hK3, hT9⟩ := hph
  refine Ops.ld_sl (i := (r : Int)) (hT9.oldRows hX).top (by exact h150) (by omega) rfl rfl (Ops.n ?_)
  exact AfterP.dn rfl (Below.refl _ _) ⟨⟨r, rfl, hr⟩, trivial⟩
 ·intro e1 w1 cc hlo hhi hb0 hp hun hq; show Ops _ _ _ _ _ _ _
  obtain rfl := cc_of hlo hhi (b := 1) (by kernel_rfl) (by kernel_rfl)
  have hph := (hp 6 _ _ (by kernel_rfl) rfl rfl).2 (by kernel_rfl)
  obtain ⟨r, h151, hr⟩ := (hp 8 _ _ (by kernel_rfl) rfl rfl).1
  obtain ⟨k3, hK3, hT9⟩ := hph
  refine Ops.ms rfl (by exact h151) rfl (Ops.n ?_)
  exact AfterP.dn rfl (Below.refl _ _) ⟨⟨r, rfl, hr⟩, k3, hK3, hT9⟩
 intro u w19 _ _ _ hu3
 obtain ⟨⟨r, h22, hr⟩, hm⟩ := hu3 9 _ _ rfl
 obtain ⟨k3, hK3, hD⟩ := hm (by kernel_rfl)
 refine thenQ_ext (F := [(0, .slice Ac nc cc), (3, .pointer A3), (18, .int .i64 (suK V F)), (21, .pointer As), (22, .slice (rg rs (r : Int)).a (rg rs (r : Int)).n (rg rs (r : Int)).c)]) ⟨rfl, rfl, rfl, rfl, h22, trivial⟩ ?_
 have hrow := hX.at_ (i := (r : Int)) (by omega) (by omega)
 have hcap := hX.cap_ (i := (r : Int)) (by omega) (by omega)
 have hrn := hrow.1
 have hr6 := (hC.at_ (show r < F.length by omega)).1.2
 have hW := hW.none
 refine tQ (Cd.seq ?_)
 refine Cd.drawS (by kernel_rfl) (by kernel_rfl) (fun S e1 w1 => LkI w17 As A3 V A n c F (rg rs (r : Int)).a (rg rs (r : Int)).n (rg rs (r : Int)).c (gl F (r : Int)) Ac nc cc S e1 w1) (fun w4 hb => ⟨rfl, rfl, rfl, rfl, rfl, (fun h => (nomatch h)), (fun h => (nomatch h)), (fun h => (nomatch h)), (fun h => (nomatch h)), (fun h => (nomatch h)), (fun h => (nomatch h)), 0, none, none, 0, [], k3, [], [], Nat.zero_le _, (fun h => (nomatch h)), (fun h => (nomatch h)), (fun _ => rfl), (fun h => (nomatch h)), (fun h => (nomatch h)), (fun h => (nomatch h)), (fun h => (nomatch h)), (fun _ => rfl), (fun h => (nomatch h)), (fun h => (nomatch h)), (fun h => (nomatch h)), (fun h => (nomatch h)), hK3, hD.later hb⟩) ?_ ?_
 ·intro S q o e1 w20 hq hSk hd hcl hI
  clear hD hK3
  obtain ⟨f0, f3, f18, f21, f22, p0, p1, p2, p3, p4, p5, m, A23, D, d, ts, k3, bsB, bsL, hml, m6, m7, b0, b1, m9, m10, m11, c0, c1, c2, c3, m14, hK3, hD⟩ := hI
  match q, hq, hSk with
  | 0, hq, hSk =>
   obtain rfl := Option.some.inj hq
   refine Ops.ld_agg 1 (hD.old h3) (by exact f3) rfl rfl (Ops.n ?_)
   exact ⟨f0, f3, f18, f21, f22, (fun _ => rfl), p1, p2, p3, p4, p5, m, A23, D, d, ts, k3, bsB, bsL, hml, m6, m7, b0, b1, m9, m10, m11, c0, c1, c2, c3, m14, hK3, hD⟩
  | 1, hq, hSk =>
   obtain rfl := Option.some.inj hq
   refine Ops.ms rfl (by exact f22) rfl (Ops.n ?_)
   exact ⟨f0, f3, f18, f21, f22, p0, (fun _ => rfl), p2, p3, p4, p5, m, A23, D, d, ts, k3, bsB, bsL, hml, m6, m7, b0, b1, m9, m10, m11, c0, c1, c2, c3, m14, hK3, hD⟩
  | 2, hq, hSk =>
   obtain rfl := Option.some.inj hq
   refine Ops.mv_ptr rfl (by exact f21) rfl (Ops.n ?_)
   exact ⟨f0, f3, f18, f21, f22, p0, p1, (fun _ => rfl), p3, p4, p5, m, A23, D, d, ts, k3, bsB, bsL, hml, m6, m7, b0, b1, m9, m10, m11, c0, c1, c2, c3, m14, hK3, hD⟩
  | 3, hq, hSk =>
   obtain rfl := Option.some.inj hq
   refine Ops.ms rfl (by exact f22) rfl (Ops.n ?_)
   exact ⟨f0, f3, f18, f21, f22, p0, p1, p2, (fun _ => rfl), p4, p5, m, A23, D, d, ts, k3, bsB, bsL, hml, m6, m7, b0, b1, m9, m10, m11, c0, c1, c2, c3, m14, hK3, hD⟩
  | 4, hq, hSk =>
   obtain rfl := Option.some.inj hq
   refine Ops.len (by exact p3 (deps_of hd 3 rfl)) rfl (Ops.n ?_)
   exact ⟨f0, f3, f18, f21, f22, p0, p1, p2, p3, (fun _ => rfl), p5, m, A23, D, d, ts, k3, bsB, bsL, hml, m6, m7, b0, b1, m9, m10, m11, c0, c1, c2, c3, m14, hK3, hD⟩
  | 5, hq, hSk =>
   obtain rfl := Option.some.inj hq
   refine Ops.add (by exact p4 (deps_of hd 4 rfl)) rfl rfl (by omega) (Ops.n ?_)
   exact ⟨f0, f3, f18, f21, f22, p0, p1, p2, p3, p4, (fun _ => rfl), m, A23, D, d, ts, k3, bsB, bsL, hml, m6, m7, b0, b1, m9, m10, m11, c0, c1, c2, c3, m14, hK3, hD⟩
  | 6, hq, hSk =>
   obtain rfl := Option.some.inj hq
   have n7 : S 7 = false := by
    cases h : S 7 with
    | false => rfl
    | true => rw [← hSk]; exact (deps_of (hcl 7 _ h rfl) 6 rfl).symm
   have n8 : S 8 = false := by
    cases h : S 8 with
    | false => rfl
    | true => rw [← n7]; exact (deps_of (hcl 8 _ h rfl) 7 rfl).symm
   have n9 : S 9 = false := by
    cases h : S 9 with
    | false => rfl
    | true => rw [← n8]; exact (deps_of (hcl 9 _ h rfl) 8 rfl).symm
   have n10 : S 10 = false := by
    cases h : S 10 with
    | false => rfl
    | true => rw [← n9]; exact (deps_of (hcl 10 _ h rfl) 9 rfl).symm
   have n11 : S 11 = false := by
    cases h : S 11 with
    | false => rfl
    | true => rw [← n9]; exact (deps_of (hcl 11 _ h rfl) 9 rfl).symm
   have n13 : S 13 = false := by
    cases h : S 13 with
    | false => rfl
    | true => rw [← n10]; exact (deps_of (hcl 13 _ h rfl) 10 rfl).symm
   have n14 : S 14 = false := by
    cases h : S 14 with
    | false => rfl
    | true => rw [← n11]; exact (deps_of (hcl 14 _ h rfl) 11 rfl).symm
   obtain rfl := b0 n8
   rw [List.nil_append] at hD
   have hkk : (bsB ++ [k3])[bsB.length]? = some k3 := by simp
   refine Ops.call (dicNext_c bsB.length (((rg rs (r : Int)).n : Int) + 1) hD hkk hK3) rfl (by show [e1 155, e1 158] = _; rw [p2 (deps_of hd 2 rfl), p5 (deps_of hd 5 rfl)]) rfl ?_
   rintro _ w21 ⟨rr, k4, rfl, hrr, hK4, hD⟩
   have hm0 : rr.toNat ≤ (rg rs (r : Int)).n := by have := hrr.2.1 (by omega); omega
   have hrr' : rr = ((rr.toNat : Nat) : Int) := by have := hrr.1; omega
   rw [show (bsB ++ [k3]).set bsB.length k4 = bsB ++ [k4] by simp] at hD
   refine Ops.n ?_
   exact ⟨f0, f3, f18, f21, f22, p0, p1, p2, p3, p4, p5, rr.toNat, A23, D, d, ts, k4, bsB, [], hm0, (fun _ => congrArg (Value.int .i64) hrr'), (fun h => (nomatch n7.symm.trans h)), (fun _ => rfl), (fun h => (nomatch n8.symm.trans h)), (fun h => (nomatch n9.symm.trans h)), (fun h => (nomatch n10.symm.trans h)), (fun h => (nomatch n11.symm.trans h)), c0, c1, c2, (fun h => (nomatch n13.symm.trans h)), (fun h => (nomatch n14.symm.trans h)), hK4, hD⟩
  | 7, hq, hSk =>
   obtain rfl := Option.some.inj hq
   refine Ops.cut_h (by exact p1 (deps_of hd 1 rfl)) (by exact m6 (deps_of hd 6 rfl)) rfl (by omega) (Ops.n ?_)
   exact ⟨f0, f3, f18, f21, f22, p0, p1, p2, p3, p4, p5, m, A23, D, d, ts, k3, bsB, bsL, hml, m6, (fun _ => rfl), b0, b1, m9, m10, m11, c0, c1, c2, c3, m14, hK3, hD⟩
  | 8, hq, hSk =>
   obtain rfl := Option.some.inj hq
   have n9 : S 9 = false := by
    cases h : S 9 with
    | false => rfl
    | true => rw [← hSk]; exact (deps_of (hcl 9 _ h rfl) 8 rfl).symm
   have n10 : S 10 = false := by
    cases h : S 10 with
    | false => rfl
    | true => rw [← n9]; exact (deps_of (hcl 10 _ h rfl) 9 rfl).symm
   have n11 : S 11 = false := by
    cases h : S 11 with
    | false => rfl
    | true => rw [← n9]; exact (deps_of (hcl 11 _ h rfl) 9 rfl).symm
   have n13 : S 13 = false := by
    cases h : S 13 with
    | false => rfl
    | true => rw [← n10]; exact (deps_of (hcl 13 _ h rfl) 10 rfl).symm
   have n14 : S 14 = false := by
    cases h : S 14 with
    | false => rfl
    | true => rw [← n11]; exact (deps_of (hcl 14 _ h rfl) 11 rfl).symm
   obtain rfl := b0 hSk
   rw [List.nil_append] at hD
   refine Ops.call (implLinkOf_c V A n c rs F (rg rs (r : Int)).a m (rg rs (r : Int)).c ((gl F (r : Int)).take m) _ (hT.later hD.below) (hD.oldRows hX) ((hD.oldI hrow).take hml) (by omega) (by omega)) rfl (by show [e1 153, e1 160] = _; rw [p0 (deps_of hd 0 rfl), m7 (deps_of hd 7 rfl)]) rfl ?_
   rintro _ w21 ⟨D, d, ts, rfl, hlD, hst⟩
   have hD2 := hD.call hst
   have hD3 := hD2.perm (show (_ ++ (bsB ++ [k3])).Perm (bsB ++ ((mat 28 2 D (lkL V F ((gl F (r : Int)).take m)).length d ts (lkL V F ((gl F (r : Int)).take m)) ++ []) ++ [k3])) from by rw [← List.append_assoc, ← List.append_assoc]; exact List.perm_append_comm.append_right _)
   refine Ops.n ?_
   exact ⟨f0, f3, f18, f21, f22, p0, p1, p2, p3, p4, p5, m, A23, D, d, ts, k3, bsB, _, hml, m6, m7, (fun h => (nomatch (show true = false from h))), (fun _ => ⟨rfl, rfl⟩), (fun h => (nomatch n9.symm.trans h)), (fun h => (nomatch n10.symm.trans h)), (fun h => (nomatch n11.symm.trans h)), c0, c1, c2, (fun h => (nomatch n13.symm.trans h)), (fun h => (nomatch n14.symm.trans h)), hK3, hD3⟩
  | 9, hq, hSk =>
   obtain rfl := Option.some.inj hq
   refine Ops.mv_tup rfl (by exact (b1 (deps_of hd 8 rfl)).2) rfl (Ops.n ?_)
   exact ⟨f0, f3, f18, f21, f22, p0, p1, p2, p3, p4, p5, m, A23, D, d, ts, k3, bsB, bsL, hml, m6, m7, b0, b1, (fun _ => rfl), m10, m11, c0, c1, c2, c3, m14, hK3, hD⟩
  | 10, hq, hSk =>
   obtain rfl := Option.some.inj hq
   refine Ops.extract (by exact m9 (deps_of hd 9 rfl)) rfl rfl (Ops.n ?_)
   exact ⟨f0, f3, f18, f21, f22, p0, p1, p2, p3, p4, p5, m, A23, D, d, ts, k3, bsB, bsL, hml, m6, m7, b0, b1, m9, (fun _ => rfl), m11, c0, c1, c2, c3, m14, hK3, hD⟩
  | 11, hq, hSk =>
   obtain rfl := Option.some.inj hq
   refine Ops.extract (by exact m9 (deps_of hd 9 rfl)) rfl rfl (Ops.n ?_)
   exact ⟨f0, f3, f18, f21, f22, p0, p1, p2, p3, p4, p5, m, A23, D, d, ts, k3, bsB, bsL, hml, m6, m7, b0, b1, m9, m10, (fun _ => rfl), c0, c1, c2, c3, m14, hK3, hD⟩
  | 12, hq, hSk =>
   obtain rfl := Option.some.inj hq
   have n13 : S 13 = false := by
    cases h : S 13 with
    | false => rfl
    | true => rw [← hSk]; exact (deps_of (hcl 13 _ h rfl) 12 rfl).symm
   obtain rfl := c0 hSk
   refine Ops.new2 hD rfl ?_
   intro A9 w21 hD
   refine Ops.n ?_
   exact ⟨f0, f3, f18, f21, f22, p0, p1, p2, p3, p4, p5, m, A9, D, d, ts, k3, [cxZ A9], bsL, hml, m6, m7, b0, b1, m9, m10, m11, (fun h => (nomatch (show true = false from h))), (fun _ => rfl), (fun _ _ => rfl), (fun h => (nomatch n13.symm.trans h)), m14, hK3, hD⟩
  | 13, hq, hSk =>
   obtain rfl := Option.some.inj hq
   obtain rfl := c2 (deps_of hd 12 rfl) hSk
   refine Ops.st_agg 2 0 hD rfl (by exact c1 (deps_of hd 12 rfl)) (by exact m10 (deps_of hd 10 rfl)) rfl rfl rfl rfl ?_
   intro w21 hD
   have n12 : S 12 = true := deps_of hd 12 rfl
   refine Ops.n ?_
   exact ⟨f0, f3, f18, f21, f22, p0, p1, p2, p3, p4, p5, m, A23, D, d, ts, k3, _, bsL, hml, m6, m7, b0, b1, m9, m10, m11, (fun h => (nomatch n12.symm.trans h)), c1, (fun _ h => (nomatch (show true = false from h))), (fun _ => rfl), m14, hK3, hD⟩
  | 14, hq, hSk =>
   obtain rfl := Option.some.inj hq
   refine Ops.mi rfl (by exact m11 (deps_of hd 11 rfl)) rfl (Ops.n ?_)
   exact ⟨f0, f3, f18, f21, f22, p0, p1, p2, p3, p4, p5, m, A23, D, d, ts, k3, bsB, bsL, hml, m6, m7, b0, b1, m9, m10, m11, c0, c1, c2, c3, (fun _ => rfl), hK3, hD⟩
  | q + 15, hq, _ => exact (nomatch hq)
 intro S e1 w20 hall hI
 clear hD hK3
 obtain ⟨f0, f3, f18, f21, f22, p0, p1, p2, p3, p4, p5, m, A23, D, d, ts, k3, bsB, bsL, hml, m6, m7, b0, b1, m9, m10, m11, c0, c1, c2, c3, m14, hK3, hD⟩ := hI
 have e23 := c1 (hall 12 (by decide))
 have e24 := m14 (hall 14 (by decide))
 have eL := (b1 (hall 8 (by decide))).1
 have eB := c3 (hall 13 (by decide))
 subst eL eB
 have hxf : (gl F (r : Int)).take m ∈ fcs F ((gl F (r : Int)).take m).length := (fcs_iff' (fun e => by rw [e] at hFl; simp at hFl; omega)).2 ⟨⟨gl F (r : Int), by rw [gl_mem (by omega)]; exact List.getElem_mem _, List.take_sublist _ _⟩, rfl⟩
 generalize hx : (gl F (r : Int)).take m = x at *
 have hxs := fcs_sa hsa hxf
 have hFc : Fce F x := ⟨hxs, .inr ⟨gl F (r : Int), by rw [gl_mem (by omega)]; exact List.getElem_mem _, by rw [← hx]; exact Ins.of_sub (List.take_sublist _ _)⟩⟩
 have eLL : lkL V F x = cxL (lnkL F x) := by unfold lkL; rw [if_pos ⟨hC, hFc⟩]
 have eLV : lkV V F x = cxV (lnkL F x) := by unfold lkV; rw [if_pos ⟨hC, hFc⟩]
 have eLK : lkK V F x = 0 := by unfold lkK cxK; rw [if_pos hC, if_pos hFc, if_neg (lnk_fine hC x)]
 have hCL : Cplx (lkV V F x) (lkL V F x) := by rw [eLL, eLV]; exact cx_cplx (fun l hl => ((hC.lnk x).2.1 l hl).1) (lnk_fine hC x)
 have hEL : Eul (lkL V F x) := by rw [eLL]; exact eul_link hC hEu hxf
 have eE : Cplx (lkV V F x) (lkL V F x) ∧ EulI (lkL V F x) := ⟨hCL, (EulI_iff fun f hf => (hCL.row f hf).2.1).2 hEL⟩
 have eK : hvK (lkV V F x) (lkL V F x) = 0 := by unfold hvK; rw [if_pos hCL]
 have hlb := (lkL_bd V F x).1
 have hB23 := hD.rd 0 rfl
 have hRL : RowsI w20 D (lkL V F x).length ts (lkL V F x) := by
  have h9 : St w17 w20 ([cxB A23 (lkV V F x) D (lkL V F x).length d] ++ (mat 28 2 D (lkL V F x).length d ts (lkL V F x) ++ ([] ++ [k3]))) := by
   rw [← List.append_assoc (mat _ _ _ _ _ _ _)]; exact hD
  exact (h9.sub (List.sublist_append_right _ _)).rowsI rfl
 have hT20 := hT.later hD.below
 have hW20 := hW.later hD.below
 refine thenQ_ext (F := [(0, .slice Ac nc cc), (3, .pointer A3), (18, .int .i64 (suK V F)), (23, .pointer A23), (24, .int .i64 (lkK V F x))]) ⟨f0, f3, f18, e23, e24, trivial⟩ (tQ (Cd.seq (Cd.region (Ops.ld_agg 1 hB23 rfl rfl rfl (Ops.call (implIsEulerian_c (lkV V F x) D _ d ts (lkL V F x) w20 hT20 hRL (by omega)) rfl rfl rfl ?_)))))
 rintro _ w21 ⟨rfl, hst⟩
 have hsc := suK_cases V F hC
 refine Ops.mv_tup rfl rfl rfl (Ops.extract rfl rfl rfl (Ops.extract rfl rfl rfl (Ops.mb rfl rfl rfl (Ops.mi rfl rfl rfl (Ops.n (tQ (Cd.seq (Cd.region (Ops.mi rfl rfl rfl ?_)))))))))
 refine Ops.eql rfl rfl rfl (Ops.mb rfl rfl rfl ?_)
 refine Ops.split_p 171 rfl (fun _ => ?_) (fun h => absurd eLK h) --t
 refine Ops.g rfl rfl rfl (Ops.mi rfl rfl rfl (Ops.g rfl rfl rfl (Ops.eql rfl rfl rfl (Ops.pick_t rfl rfl rfl (Ops.mb rfl rfl rfl ?_)))))
 refine Ops.split_p 175 rfl (fun _ => ?_) (fun h => absurd eK h) --t
 refine Ops.g rfl rfl rfl (Ops.mb rfl rfl rfl (Ops.pick_t rfl rfl rfl (Ops.mb rfl rfl rfl ?_)))
 refine Ops.split_p 178 rfl (fun _ => ?_) (fun h => absurd eE h) --t
 refine Ops.g rfl rfl rfl (Ops.mi rfl rfl rfl (Ops.g rfl rfl rfl (Ops.eql rfl rfl rfl (Ops.g rfl rfl rfl (Ops.mb rfl rfl rfl ?_)))))
 refine Ops.split_p 181 rfl (fun h9 => ?_) (fun h9 => ?_)
 ·refine Ops.k rfl rfl rfl rfl rfl (Ops.k rfl rfl rfl rfl rfl (Ops.g rfl rfl rfl (Ops.pick_t rfl rfl rfl (Ops.pick_t rfl rfl rfl (Ops.mb rfl rfl rfl (Ops.n (tQ (Cd.ret (ret1_b rfl ?_)))))))))
  exact ⟨rfl, (hW20.later hst.below).none⟩
 ·refine Ops.g rfl rfl rfl (Ops.mi rfl rfl rfl (Ops.g rfl rfl rfl (Ops.eql rfl rfl rfl (Ops.g rfl rfl rfl (Ops.pick_f rfl rfl rfl (Ops.pick_t rfl rfl rfl (Ops.mb rfl rfl rfl (Ops.n (tQ ?_)))))))))
  refine Cd.ret (ret1_b rfl ?_)
  exact ⟨congrArg Value.bool (decide_eq_true (hsc.resolve_left h9)), (hW20.later hst.below).none⟩
end Go.Proofs.YtiblelgfkakmiaaGreatDoor.Vc
