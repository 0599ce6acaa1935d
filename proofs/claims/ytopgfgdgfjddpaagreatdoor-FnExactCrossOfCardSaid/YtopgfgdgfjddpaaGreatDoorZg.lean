/-
  The texts Pq5, Pr1, Pr2, Pnt, Drs, Pt1, Pr3, Pt2, Mrg, Pr4, Pr5 in one. Conditions: as each part states them.
-/
import Derived.Test.YtopgfgdgfjddpaaGreatDoorZf
import Derived.Test.YtopgfgdgfjddpaaGreatDoorZb
import Derived.Test.YtopgfgdgfjddpaaGreatDoorZd
import Derived.Test.YtopgfgdgfjddpaaGreatDoorZc
import Derived.Test.YtopgfgdgfjddpaaGreatDoorZe
/-
 The reference's face poset of a maniplex, walked; its answer.
-/
namespace Go.Proofs.YtopgfgdgfjddpaaGreatDoor.Vc
open Go.RowKit
theorem perm_d {α : Type} (x y p r i q b : α) : [x, y, p, r, i, q, b].Perm [p, x, i, q, b, y, r] := by
 classical
 refine List.perm_iff_count.2 fun z => ?_
 simp only [List.count_cons, List.count_nil]
 omega
theorem rowsCk_snoc {t : TypeId} {rs : List SlV} {xss : List (List Int)} {a : Option Addr} {n c : Nat} {x : List Int} (h : rs.length = xss.length) : rowsCk t (rs ++ [⟨a, n, c⟩]) (xss ++ [x]) = rowsCk t rs xss ++ [CkI t a n c x] := by
 rw [rowsCk_append h]; rfl
abbrev psK (A1 A2 A4 A5 A6 : Option Addr) (A : Option Addr) (n c : Nat) (M : List (List Int)) (i j i' : Nat) (AR : Option Addr) (cR : Nat) (AD : Option Addr) (cD : Nat) (rsD : List SlV) (c5 c6 : Nat) (rs6 : List SlV) : List Ck :=
 poB A4 n AR (offP M i + j) cR AD (offP M i + j) cD :: CkI 2 AR (offP M i + j) cR (fpR M i ++ List.replicate j (i : Int)) :: CkI 2 A5 i' c5 (offL M i') :: poB A2 0 none 0 0 none 0 0 :: Bx 24 1 A1 [.slice A n c] :: CkR 32 AD (offP M i + j) cD rsD :: CkR 32 A6 i' c6 rs6 :: (rowsCk 2 rsD (List.replicate (offP M i + j) []) ++ rowsCk 2 rs6 (labL M i'))
theorem mat_apP {t1 t2 : TypeId} {A : Option Addr} {n c : Nat} {rs : List SlV} {xss : List (List Int)} {pre ks : List Ck} {i : Nat} (s : SlV) (xs : List Int) (hr : rs.length = xss.length) (hi : i < rs.length) : (pre ++ (mat t1 t2 A n c rs xss ++ ks)).set (pre.length + 1 + i) (CkI t2 s.a s.n s.c xs) = pre ++ (CkR t1 A n c rs :: (rowsCk t2 (rs.set i s) (xss.set i xs) ++ ks)) := by
 rw [List.set_append_right _ _ (by omega), show pre.length + 1 + i - pre.length = i + 1 by omega]
 congr 1
 show (CkR t1 A n c rs :: (rowsCk t2 rs xss ++ ks)).set (i + 1) _ = _
 rw [List.set_cons_succ, List.set_append_left _ _ (by rw [rowsCk_length hr]; exact hi), rowsCk_upd hr]
abbrev psQ (A1 A2 A5 A6 : Option Addr) (A : Option Addr) (n c : Nat) (M : List (List Int)) (AR : Option Addr) (N cR c5 c6 : Nat) (rs6 : List SlV) : List Ck :=
 CkI 2 AR N cR (fpR M n) :: CkI 2 A5 n c5 (offL M n) :: poB A2 0 none 0 0 none 0 0 :: Bx 24 1 A1 [.slice A n c] :: (mat 32 2 A6 n c6 rs6 (labL M n) ++ [])
set_option maxHeartbeats 4000000 in
theorem l03Poset_c (A : Option Addr) (n c : Nat) (rs : List SlV) (M : List (List Int)) (w : World) (hR : RowsI w A n rs M) (hM : Mani M) :
    Ret Tryz.prog 133 [.agg #[.slice A n c]] w (fun v w' => ∃ AR cR AD cD rsD, v = .agg #[.int .i64 (M.length : Int), .slice AR (offP M M.length) cR, .slice AD (offP M M.length) cD] ∧ rsD.length = offP M M.length ∧ St w w' (CkI 2 AR (offP M M.length) cR (fpR M M.length) :: (mat 32 2 AD (offP M M.length) cD rsD (fpB M) ++ []))) := by
  have hl := hR.len
  have h1 := hM.1
  have h2 := hM.2.1
  have hob : ∀ i, i ≤ n → offP M i ≤ 2000 := fun i hi => by
    have h3 := offP_bd (M := M) i
    have h4 : i * (gl M 0).length ≤ 5 * 400 := Nat.mul_le_mul (by omega) (by omega)
    omega
  refine Ret.of_cd Tryz.func133 O Tryz.ntmps133 O (postc O O) (Gbo O (Ops.box1 (St.refl w) O O ?_))
  intro A1 w1 hS1
  refine Ops.newP hS1 O ?_
  intro A2 w2 hS2
  refine Gdo O (Ops.fld (hS2.rd 1 O) O O O O inferInstance (Ops.ldf_s (hS2.rd 1 O) O O O O O ?_))
  refine Ops.len O O (Gdo O ?_)
  refine Ops.bldP1 (by exact inferInstance) (by exact inferInstance) (by exact inferInstance) O O O O O O (Ops.bs0 hS2 O ?_)
  intro A5 w3 hS3
  refine Ops.bs0 hS3 O ?_
  intro A6 w4 hS4
  refine Ops.newP hS4 O ?_
  intro A4 w5 hS5
  refine Ops.st_agg 3 0 hS5 O O O O O O O ?_
  intro w6 hS6
  have hS6 : St w w6 (psK A1 A2 A4 A5 A6 A n c M 0 0 0 none 0 none 0 [] 0 0 []) := by
    have h7 := (hS6.nil 32).nil 2
    exact h7.perm (perm_d _ _ _ _ _ _ _)
  clear hS5 hS4 hS3 hS2 hS1
  refine Gdc O ?_
  refine Cd.loop (α := Nat × (Option Addr × Nat) × (Option Addr × Nat × List SlV) × (Option Addr × Nat) × (Option Addr × Nat × List SlV)) (fun z => [(1, .pointer A1), (2, .pointer A2), (3, .int .i64 (n : Int)), (4, .pointer A4), (5, .slice z.2.2.2.1.1 z.1 z.2.2.2.1.2), (6, .slice z.2.2.2.2.1 z.1 z.2.2.2.2.2.1), (7, .int .i64 (z.1 : Int))])
    (fun z w' => z.1 ≤ n ∧ z.2.2.1.2.2.length = offP M z.1 ∧ z.2.2.2.2.2.2.length = z.1 ∧ St w w' (psK A1 A2 A4 z.2.2.2.1.1 z.2.2.2.2.1 A n c M z.1 0 z.1 z.2.1.1 z.2.1.2 z.2.2.1.1 z.2.2.1.2.1 z.2.2.1.2.2 z.2.2.2.1.2 z.2.2.2.2.2.1 z.2.2.2.2.2.2)) (fun z => n - z.1) (0, (none, 0), (none, 0, []), (A5, 0), (A6, 0, [])) ⟨rfl, rfl, rfl, rfl, rfl, rfl, rfl, trivial⟩ ⟨Nat.zero_le _, rfl, rfl, hS6⟩ ?_
  clear hS6
  rintro ⟨i, ⟨AR, cR⟩, ⟨AD, cD, rsD⟩, ⟨A5, c5⟩, ⟨A6, c6, rs6⟩⟩ e w7 ⟨hi, hrD, hr6, hS⟩
  dsimp only at hi hrD hr6 hS ⊢
  have hoi := hob i hi
  refine Gbc O ?_
  refine Cd.cond_p _ O (fun h3 => ?_) (fun h3 => ?_)
  · have hin : i < n := by omega
    have hfN := facesN_le M i
    have ho1 := hob (i + 1) (by omega)
    have hos : offP M (i + 1) = offP M i + (facesN M i).toNat := O
    obtain ⟨N, hN⟩ : ∃ N : Nat, facesN M i = N := ⟨(facesN M i).toNat, by omega⟩
    rw [hN, Int.toNat_natCast] at hos
    have hgr := faces_grt hM i
    rw [hN] at hgr hfN
    have hfr : fpR M (i + 1) = fpR M i ++ List.replicate N (i : Int) := by rw [fpR, hN, Int.toNat_natCast]
    refine Gao O (Ops.fld (hS.rd 0 O) O O O O inferInstance (Ops.ldf_s (hS.rd 0 O) O O O O O (Ops.len O O (Ops.bs1I hS O O O ?_))))
    intro A32 w8 hS8
    refine Ops.appI 3 hS8 O (hS8.rdI 0 O) O O O (by omega) (by omega) O ?_
    intro A33 c33 w9 hS9
    have hS9 := hS9.tail
    have e5 : offL M i ++ [((offP M i + 0 : Nat) : Int)] = offL M (i + 1) := (offL_succ M i).symm
    rw [e5] at hS9
    clear hS8 hS
    refine Gdo O (Ops.ld_agg 0 (hS9.rd 4 O) O O O (Gdo O (Ops.call (l02Faces_c A n c rs M i _ (hS9.oldRows hR) hM hin) O O O ?_)))
    rintro _ w10 ⟨A37, c37, rfl, hst⟩
    have hS10 := hS9.call hst
    clear hst hS9
    refine Ops.bs1R hS10 O O O ?_
    intro A38 w11 hS11
    refine Ops.appR 8 hS11 O (hS11.rdR 0 O) O O O (by omega) (by omega) O ?_
    intro A39 c39 w12 hS12
    have hS12 : St w w12 (CkI 2 A37 (gl M 0).length c37 (facesL M i) :: poB A4 n AR (offP M i + 0) cR AD (offP M i + 0) cD :: CkI 2 AR (offP M i + 0) cR (fpR M i ++ List.replicate 0 (i : Int)) :: CkI 2 A33 (i + 1) c33 (offL M (i + 1)) :: poB A2 0 none 0 0 none 0 0 :: Bx 24 1 A1 [.slice A n c] :: CkR 32 AD (offP M i + 0) cD rsD :: CkR 32 A39 (i + 1) c39 (rs6 ++ [⟨A37, (gl M 0).length, c37⟩]) :: (rowsCk 2 rsD (List.replicate (offP M i + 0) []) ++ rowsCk 2 rs6 (labL M i))) := hS12.tail
    have hS12 : St w w12 (psK A1 A2 A4 A33 A39 A n c M i 0 (i + 1) AR cR AD cD rsD c33 c39 (rs6 ++ [⟨A37, (gl M 0).length, c37⟩])) := by
      have h9 := hS12.perm (perm_b _ _ _ _ _ _ _ _ _ _)
      rw [← rowsCk_snoc (by rw [hr6, labL_len]), ← labL_succ] at h9
      exact h9
    have hr61 : (rs6 ++ [(⟨A37, (gl M 0).length, c37⟩ : SlV)]).length = i + 1 := by simp [hr6]
    have hg6 : rg (rs6 ++ [(⟨A37, (gl M 0).length, c37⟩ : SlV)]) (i : Int) = ⟨A37, (gl M 0).length, c37⟩ := by
      unfold rg
      rw [Int.toNat_natCast, List.getD_eq_getElem?_getD, List.getElem?_append_right (by omega), hr6, Nat.sub_self]; rfl
    clear hS10 hS11
    generalize rs6 ++ [(⟨A37, (gl M 0).length, c37⟩ : SlV)] = rs61 at *
    have hT6 : RdR w12 A39 (i + 1) rs61 := hS12.rdR 6 O
    have hL6 : RdI w12 A37 (gl M 0).length (facesL M i) := by
      have hk6 : rowsCk 2 rs61 (labL M (i + 1)) ≠ [] ∨ True := .inr trivial
      have h7 := rowsCk_get (t := 2) (rs := rs61) (xss := labL M (i + 1)) (i := i) (by rw [hr61, labL_len]) (by omega)
      have h8 := hS12.sub (show (rowsCk 2 rs61 (labL M (i + 1))).Sublist (psK A1 A2 A4 A33 A39 A n c M i 0 (i + 1) AR cR AD cD rsD c33 c39 rs61) from (((((((List.sublist_append_right _ _).cons _).cons _).cons _).cons _).cons _).cons _).cons _)
      have h9 := h8.rdI i h7
      have e8 : rs61.getD i slNil = ⟨A37, (gl M 0).length, c37⟩ := hg6
      have e9 : (labL M (i + 1)).getD i [] = facesL M i := labL_at (show i < i + 1 by omega)
      rw [e8, e9] at h9
      exact h9
    refine Gdo O (Ops.idx hT6.2 O O O (by omega) (by omega) (Ops.ld_sl hT6 O (by omega) O O ?_))
    rw [hg6]
    refine Ops.call (l02Greatest_c A37 (gl M 0).length c37 (facesL M i) _ hL6 (by omega) (fun x hx => by
      obtain ⟨k, hk, rfl⟩ := List.mem_iff_getElem.1 hx
      rw [facesL_len] at hk
      have := faces_in hM i k hk
      rw [gi_mem (by rw [facesL_len]; exact hk)] at this
      omega)) rfl rfl rfl ?_
    rintro _ w12 ⟨rfl, rfl⟩
    rw [hgr]
    refine Gdc O ?_
    clear hT6 hL6
    refine Cd.loop (α := Nat × (Option Addr × Nat) × (Option Addr × Nat × List SlV)) (fun z => [(1, .pointer A1), (2, .pointer A2), (3, .int .i64 (n : Int)), (4, .pointer A4), (5, .slice A33 (i + 1) c33), (6, .slice A39 (i + 1) c39), (7, .int .i64 (i : Int)), (8, .int .i64 ((N : Int) - (z.1 : Int)))])
      (fun z w' => z.1 ≤ N ∧ z.2.2.2.2.length = offP M i + z.1 ∧ St w w' (psK A1 A2 A4 A33 A39 A n c M i z.1 (i + 1) z.2.1.1 z.2.1.2 z.2.2.1 z.2.2.2.1 z.2.2.2.2 c33 c39 rs61)) (fun z => N - z.1) (0, (AR, cR), (AD, cD, rsD)) ⟨rfl, rfl, rfl, rfl, rfl, rfl, rfl, congrArg (Value.int .i64) (by show (N : Int) = (N : Int) - ((0 : Nat) : Int); omega), trivial⟩ ⟨Nat.zero_le _, hrD, hS12⟩ ?_
    clear hS12
    rintro ⟨j, ⟨BR, dR⟩, ⟨BD, dD, qsD⟩⟩ e w13 ⟨hj, hqD, hS⟩
    dsimp only at hj hqD hS ⊢
    refine Gbc O ?_
    refine Cd.cond_p _ O (fun h4 => ?_) (fun h4 => ?_)
    · have hjN : j < N := by omega
      refine Gao O (Ops.fld (hS.rd 0 O) O O O O inferInstance (Ops.ldf_s (hS.rd 0 O) O O O O O (Gdo O (Ops.bs1I hS O O O ?_))))
      intro A52 w14 hS14
      refine Ops.appI 2 hS14 O (hS14.rdI 0 O) O O O (by omega) (by omega) O ?_
      intro A53 c53 w15 hS15
      have hB := hS15.rd 1 O
      refine Ops.fld hB O O O O inferInstance (Ops.stf 1 hS15 O O O O O ?_)
      intro w16 hS16
      have hS16 := hS16.tail
      clear hS14 hS15 hB hS
      refine Gdo O ?_
      have hB := hS16.rd 0 O
      refine Ops.fld hB O O O O inferInstance (Ops.ldf_s hB O O O O O (Ops.bs0 hS16 O ?_))
      intro A57 w17 hS17
      have hS17 : St w w17 (CkI 2 A57 0 0 [] :: _) := hS17
      refine Ops.bs1R hS17 O O O ?_
      intro A58 w18 hS18
      refine Ops.appR 7 hS18 O (hS18.rdR 0 O) O O O (by omega) (by omega) O ?_
      intro A59 c59 w19 hS19
      have hB := hS19.rd 2 O
      refine Ops.fld hB O O O O inferInstance (Ops.stf 2 hS19 O O O O O ?_)
      intro w20 hS20
      have hS20 : St w w20 (CkI 2 A57 0 0 [] :: poB A4 n A53 (offP M i + j + 1) c53 A59 (offP M i + j + 1) c59 :: CkI 2 A53 (offP M i + j + 1) c53 ((fpR M i ++ List.replicate j (i : Int)) ++ [(i : Int)]) :: CkI 2 A33 (i + 1) c33 (offL M (i + 1)) :: poB A2 0 none 0 0 none 0 0 :: Bx 24 1 A1 [.slice A n c] :: CkR 32 A59 (offP M i + j + 1) c59 (qsD ++ [⟨A57, 0, 0⟩]) :: CkR 32 A39 (i + 1) c39 rs61 :: (rowsCk 2 qsD (List.replicate (offP M i + j) []) ++ rowsCk 2 rs61 (labL M (i + 1)))) := hS20.tail
      have hS21 : St w w20 (psK A1 A2 A4 A33 A39 A n c M i (j + 1) (i + 1) A53 c53 A59 c59 (qsD ++ [⟨A57, 0, 0⟩]) c33 c39 rs61) := by
        have h9 := hS20.perm (perm_a _ _ _ _ _ _ _ _ _ _)
        rw [← rowsCk_snoc (by rw [hqD, List.length_replicate]), List.append_assoc, ← List.replicate_succ', ← List.replicate_succ'] at h9
        exact h9
      refine Gdo O (Ops.sub O O O (by omega) (Gdn O (tQ ?_)))
      exact ⟨(j + 1, (A53, c53), (A59, c59, qsD ++ [⟨A57, 0, 0⟩])), by show N - (j + 1) < N - j; omega, ⟨O, O, O, O, O, O, O, congrArg (Value.int .i64) (by show (N : Int) - (j : Int) - 1 = (N : Int) - ((j + 1 : Nat) : Int); omega), trivial⟩, by show j + 1 ≤ N; omega, by show (qsD ++ [_]).length = offP M i + (j + 1); rw [List.length_append, hqD]; rfl, hS21⟩
    · have hjN : j = N := by omega
      subst hjN
      refine Gax O (thenQ_x (Gfo O (Ops.add O O O (by omega) (Gdn O (tQ ?_)))))
      refine ⟨(i + 1, (BR, dR), (BD, dD, qsD), (A33, c33), (A39, c39, rs61)), by show n - (i + 1) < n - i; omega, ⟨O, O, O, O, O, O, O, trivial⟩, by show i + 1 ≤ n; omega, by rw [hos]; exact hqD, hr61, ?_⟩
      show St w w13 (psK A1 A2 A4 A33 A39 A n c M (i + 1) 0 (i + 1) BR dR BD dD qsD c33 c39 rs61)
      unfold psK at hS ⊢
      rw [← hos, ← hfr] at hS
      rw [Nat.add_zero, List.replicate_zero, List.append_nil]
      exact hS
  obtain rfl : i = n := by omega
  have hnl : M.length = i := hl
  obtain ⟨N, hK⟩ : ∃ N, offP M i = N := ⟨_, rfl⟩
  have hNM : offP M M.length = N := by rw [hnl, hK]
  have hsq : N * N ≤ 4000000 := Nat.le_trans (Nat.mul_le_mul (show N ≤ 2000 by omega) (show N ≤ 2000 by omega)) (by decide)
  have hSB : St w w7 (poB A4 i AR N cR AD N cD :: (mat 32 2 AD N cD rsD (belL M 1 0 0) ++ psQ A1 A2 A5 A6 A i c M AR N cR c5 c6 rs6)) := by
    rw [belL_one hM, hNM]
    unfold psK at hS
    rw [Nat.add_zero, hK, List.replicate_zero, List.append_nil] at hS
    exact hS.perm (perm_c _ _ _ _ _ _ _ _ _)
  clear hS
  rw [hK] at hrD
  refine Gax O (thenQ_x (Gfc O ?_))
  refine Cd.loop (α := Nat × List SlV) (fun z => [(1, .pointer A1), (2, .pointer A2), (3, .int .i64 (i : Int)), (4, .pointer A4), (5, .slice A5 i c5), (6, .slice A6 i c6), (9, .int .i64 (z.1 : Int))])
    (fun z w' => (1 ≤ z.1 ∧ z.1 ≤ i) ∧ z.2.length = N ∧ St w w' (poB A4 i AR N cR AD N cD :: (mat 32 2 AD N cD z.2 (belL M z.1 0 0) ++ psQ A1 A2 A5 A6 A i c M AR N cR c5 c6 rs6))) (fun z => i - z.1) (1, rsD) ⟨rfl, rfl, rfl, rfl, rfl, rfl, rfl, trivial⟩ ⟨⟨Nat.le_refl _, by show 1 ≤ i; omega⟩, hrD, hSB⟩ ?_
  clear hSB
  rintro ⟨k, qsD⟩ e w8 ⟨⟨hk1, hki⟩, hqD, hS⟩
  dsimp only at hk1 hki hqD hS ⊢
  refine Gbc O ?_
  refine Cd.cond_p _ O (fun h4 => ?_) (fun h4 => ?_)
  · have hkn : k < i := by omega
    refine Gao O (Ops.fld (hS.rd 0 O) O O O O inferInstance (Ops.ldf_s (hS.rd 0 O) O O O O O ?_))
    refine Ops.len O O (Gdo O ?_)
    refine Ops.mul O O O (by have : ((N * N : Nat) : Int) = (N : Int) * (N : Int) := Int.natCast_mul N N; omega) ?_
    rw [show (N : Int) * (N : Int) = ((N * N : Nat) : Int) from (Int.natCast_mul N N).symm]
    refine Ops.mkB (v := false) (N * N) hS O O (by omega) ?_
    intro A11 w9 hS9
    refine Gdc O ?_
    -- the pairs found
    refine Cd.loop (α := Nat × List Bool) (fun z => [(1, .pointer A1), (2, .pointer A2), (3, .int .i64 (i : Int)), (4, .pointer A4), (5, .slice A5 i c5), (6, .slice A6 i c6), (9, .int .i64 (k : Int)), (10, .int .i64 (N : Int)), (11, .slice A11 (N * N) (N * N)), (12, .int .i64 (z.1 : Int))])
      (fun z w' => z.1 ≤ (gl M 0).length ∧ FndP M k z.1 0 z.2 ∧ St w w' (CkB 4 A11 (N * N) (N * N) z.2 :: poB A4 i AR N cR AD N cD :: (mat 32 2 AD N cD qsD (belL M k 0 0) ++ psQ A1 A2 A5 A6 A i c M AR N cR c5 c6 rs6))) (fun z => (gl M 0).length - z.1) (0, List.replicate (N * N) false) ⟨rfl, rfl, rfl, rfl, rfl, rfl, rfl, rfl, rfl, rfl, trivial⟩ ⟨Nat.zero_le _, by have := FndP.zero M k; rwa [hNM] at this, hS9⟩ ?_
    clear hS9 hS
    rintro ⟨f, G⟩ e w10 ⟨hf, hG, hS⟩
    dsimp only at hf hG hS ⊢
    have hsubK : ∀ (G : List Bool) (q : List SlV) (B : List (List Int)), (psQ A1 A2 A5 A6 A i c M AR N cR c5 c6 rs6).Sublist (CkB 4 A11 (N * N) (N * N) G :: poB A4 i AR N cR AD N cD :: (mat 32 2 AD N cD q B ++ psQ A1 A2 A5 A6 A i c M AR N cR c5 c6 rs6)) := fun G q B => ((List.sublist_append_right _ _).cons _).cons _
    have hsub6 : (mat 32 2 A6 i c6 rs6 (labL M i)).Sublist (psQ A1 A2 A5 A6 A i c M AR N cR c5 c6 rs6) := by
      refine List.Sublist.cons _ (List.Sublist.cons _ (List.Sublist.cons _ (List.Sublist.cons _ ?_)))
      rw [List.append_nil]; exact List.Sublist.refl _
    have hB1 := (hS.sub (hsubK _ _ _)).rd 3 O
    refine Gbo O (Ops.ld_agg 0 hB1 O O O (Ops.call (l02Flags_c A i c rs M _ (hS.oldRows hR) (by omega)) O O O ?_))
    rintro _ w11 ⟨rfl, hst⟩
    have hS := hS.later hst.below
    clear hst hB1
    refine Gdc O ?_
    refine Cd.cond_p _ O (fun h5 => ?_) (fun h5 => ?_)
    · have hfF : f < (gl M 0).length := by omega
      refine Gac O ?_
      refine Cd.loop (α := Nat × List Bool) (fun z => [(1, .pointer A1), (2, .pointer A2), (3, .int .i64 (i : Int)), (4, .pointer A4), (5, .slice A5 i c5), (6, .slice A6 i c6), (9, .int .i64 (k : Int)), (10, .int .i64 (N : Int)), (11, .slice A11 (N * N) (N * N)), (12, .int .i64 (f : Int)), (13, .int .i64 (z.1 : Int))])
        (fun z w' => z.1 ≤ k ∧ FndP M k f z.1 z.2 ∧ St w w' (CkB 4 A11 (N * N) (N * N) z.2 :: poB A4 i AR N cR AD N cD :: (mat 32 2 AD N cD qsD (belL M k 0 0) ++ psQ A1 A2 A5 A6 A i c M AR N cR c5 c6 rs6))) (fun z => k - z.1) (0, G) ⟨rfl, rfl, rfl, rfl, rfl, rfl, rfl, rfl, rfl, rfl, rfl, trivial⟩ ⟨Nat.zero_le _, hG, hS⟩ ?_
      clear hS hG
      rintro ⟨j, G⟩ e w12 ⟨hj, hG, hS⟩
      dsimp only at hj hG hS ⊢
      refine Gbc O ?_
      refine Cd.cond_p _ O (fun h6 => ?_) (fun h6 => ?_)
      · have hjk : j < k := by omega
        have hL5 : RdI w12 A5 i (offL M i) := (hS.sub (hsubK _ _ _)).rdI 1 O
        have hR6 : RowsI w12 A6 i rs6 (labL M i) := (hS.sub (hsub6.trans (hsubK _ _ _))).rowsI1 (labL_len M i)
        have hrk := hR6.at_ (i := (k : Int)) (by omega) (by omega)
        have hrj := hR6.at_ (i := (j : Int)) (by omega) (by omega)
        rw [labL_at (by omega)] at hrk hrj
        have hkn9 : (rg rs6 (k : Int)).n = (gl M 0).length := by rw [← hrk.1, facesL_len]
        have hjn9 : (rg rs6 (j : Int)).n = (gl M 0).length := by rw [← hrj.1, facesL_len]
        have o1 := offL_at (M := M) (i := i) (k := k) (by omega)
        have o2 := offL_at (M := M) (i := i) (k := j) (by omega)
        have e1 := fpE_in hM (i := k) hfF
        have e2 := fpE_in hM (i := j) hfF
        have m1 := offP_mono M (show k + 1 ≤ M.length by omega)
        have m2 := offP_mono M (show j + 1 ≤ M.length by omega)
        rw [hNM] at m1 m2
        have f1 : gi (offL M i) (k : Int) + gi (facesL M k) (f : Int) = fpE M k f := by rw [o1]; rfl
        have f2 : gi (offL M i) (j : Int) + gi (facesL M j) (f : Int) = fpE M j f := by rw [o2]; rfl
        obtain ⟨E, hE⟩ : ∃ E : Nat, fpE M k f = E := ⟨(fpE M k f).toNat, by omega⟩
        obtain ⟨D, hD⟩ : ∃ D : Nat, fpE M j f = D := ⟨(fpE M j f).toNat, by omega⟩
        have hnx := hG.next hM hfF (by omega) hjk
        rw [hE, hD, hNM, Int.toNat_natCast, Int.toNat_natCast] at hnx
        rw [hE] at e1 f1; rw [hD] at e2 f2
        have hpl := pair_lt (N := N) (e := E) (d := D) (by omega) (by omega)
        have hEN : ((E * N : Nat) : Int) = (E : Int) * (N : Int) := Int.natCast_mul E N
        have hle : E * N ≤ N * N := Nat.mul_le_mul_right N (by omega)
        have hlo := faces_in hM k f hfF
        have hlo2 := faces_in hM j f hfF
        have hix : (E : Int) * (N : Int) + gi (offL M i) (j : Int) + gi (facesL M j) (f : Int) = ((E * N + D : Nat) : Int) := by omega
        refine Gac O ?_
        refine Cd.drawP [29] [yS (A11) (N * N) (N * N), yS (A5) (i) (c5), yI ((k : Int)), yP (ptrAt (A5) ((k : Int)).toNat), yI (gi (offL M i) ((k : Int))), yS (A6) (i) (c6), yI ((k : Int)), yP (ptrAt (A6) ((k : Int)).toNat), yS ((rg (rs6) ((k : Int))).a) ((rg (rs6) ((k : Int))).n) ((rg (rs6) ((k : Int))).c), yI ((f : Int)), yP (ptrAt ((rg (rs6) ((k : Int))).a) ((f : Int)).toNat), yI (gi (facesL M k) ((f : Int))), yI ((gi (offL M i) ((k : Int))) + (gi (facesL M k) ((f : Int)))), yI ((N : Int)), yI ((E : Int) * (N : Int)), yS (A5) (i) (c5), yI ((j : Int)), yP (ptrAt (A5) ((j : Int)).toNat), yI (gi (offL M i) ((j : Int))), yI (((E : Int) * (N : Int)) + (gi (offL M i) ((j : Int)))), yS (A6) (i) (c6), yI ((j : Int)), yP (ptrAt (A6) ((j : Int)).toNat), yS ((rg (rs6) ((j : Int))).a) ((rg (rs6) ((j : Int))).n) ((rg (rs6) ((j : Int))).c), yI ((f : Int)), yP (ptrAt ((rg (rs6) ((j : Int))).a) ((f : Int)).toNat), yI (gi (facesL M j) ((f : Int))), yI ((((E : Int) * (N : Int)) + (gi (offL M i) ((j : Int)))) + (gi (facesL M j) ((f : Int)))), yP (ptrAt (A11) ((((E : Int) * (N : Int)) + (gi (offL M i) ((j : Int)))) + (gi (facesL M j) ((f : Int)))).toNat), .pr (fun _ w' => St w w' (CkB 4 A11 (N * N) (N * N) (G.set (E * N + D) true) :: poB A4 i AR N cR AD N cD :: (mat 32 2 AD N cD qsD (belL M k 0 0) ++ psQ A1 A2 A5 A6 A i c M AR N cR c5 c6 rs6)))] (by kernel_rfl) (by kernel_rfl) (ly (ly (ly (ly (ly (ly (ly (ly (ly (ly (ly (ly (ly (ly (ly (ly (ly (ly (ly (ly (ly (ly (ly (ly (ly (ly (ly (ly (ly (List.forall_mem_cons.2 ⟨Ye.lasts_pr (fun v w w' h hb => h.later hb), (fun _ h => by cases h)⟩)))))))))))))))))))))))))))))) ?_ ?_
        · refine ⟨DrP O, DrP O, DrP O, cP fun _ _ hb _ _ _ => Ops.idx (hL5.later hb).2 O O O (by omega) (by omega) (AzP O O), cP fun _ _ hb _ _ _ => Ops.ld_int (hL5.later hb) O (by omega) O O (AzP O O), DrP O, DrP O, cP fun _ _ hb _ _ _ => Ops.idx (hR6.top.later hb).2 O O O (by omega) (by omega) (AzP O O), cP fun _ _ hb _ _ _ => Ops.ld_sl (hR6.top.later hb) O (by omega) O O (AzP O O), DrP O, cP fun _ _ hb _ _ _ => Ops.idx (hrk.later hb).2 O O O (by omega) (by omega) (AzP O O), cP fun _ _ hb _ _ _ => Ops.ld_int (hrk.later hb) O (by omega) O O (AzP O O), aP fun _ _ => Ops.add O O O (by omega) (AzP O O), DrP O, aP fun _ _ => Ops.mul (i := (E : Int)) (j := (N : Int)) (by exact congrArg (Value.int .i64) f1) O O (by omega) (AzP O O), DrP O, DrP O, cP fun _ _ hb _ _ _ => Ops.idx (hL5.later hb).2 O O O (by omega) (by omega) (AzP O O), cP fun _ _ hb _ _ _ => Ops.ld_int (hL5.later hb) O (by omega) O O (AzP O O), aP fun _ _ => Ops.add O O O (by omega) (AzP O O), DrP O, DrP O, cP fun _ _ hb _ _ _ => Ops.idx (hR6.top.later hb).2 O O O (by omega) (by omega) (AzP O O), cP fun _ _ hb _ _ _ => Ops.ld_sl (hR6.top.later hb) O (by omega) O O (AzP O O), DrP O, cP fun _ _ hb _ _ _ => Ops.idx (hrj.later hb).2 O O O (by omega) (by omega) (AzP O O), cP fun _ _ hb _ _ _ => Ops.ld_int (hrj.later hb) O (by omega) O O (AzP O O), aP fun _ _ => Ops.add O O O (by omega) (AzP O O), cP fun _ _ hb _ _ _ => Ops.idx ((hS.rdB 0 O).later hb).2 O O O (by omega) (by omega) (AzP O O), ?_, trivial⟩
          · refine cPT fun e1 w1 hb hp hun hq => ?_
            refine Ops.st_bool 0 (hS.later hb) O O O (by omega) ?_
            intro w6 hS6
            refine Ops.n ?_
            exact AfterU.st O (by rw [hix, Int.toNat_natCast] at hS6; exact hS6)
        intro u w13 _ hu _ _
        have hT := hu 29 _ O (by kernel_rfl)
        refine Geo O (Ops.add O O O (by omega) (Gdn O (tQ ?_)))
        exact ⟨(j + 1, _), by show k - (j + 1) < k - j; omega, ⟨O, O, O, O, O, O, O, O, O, O, O, trivial⟩, by show j + 1 ≤ k; omega, hnx, hT⟩
      · have hjk : j = k := by omega
        subst hjk
        refine Gax O (thenQ_x (Gfo O (Ops.add O O O (by omega) (Gdn O (tQ ?_)))))
        exact ⟨(f + 1, G), by show (gl M 0).length - (f + 1) < (gl M 0).length - f; omega, ⟨O, O, O, O, O, O, O, O, O, O, trivial⟩, by show f + 1 ≤ (gl M 0).length; omega, hG.row, hS⟩
    · have hfF : f = (gl M 0).length := by omega
      subst hfF
      have hfin := fun e d he hd => hG.done hM (show k < M.length by omega) (e := e) (d := d) he hd
      rw [hNM] at hfin
      have hGl : G.length = N * N := by have := hG.1; rwa [hNM] at this
      refine Gax O (thenQ_x (Gfc O ?_))
      refine Cd.loop (α := Nat × List SlV) (fun z => [(1, .pointer A1), (2, .pointer A2), (3, .int .i64 (i : Int)), (4, .pointer A4), (5, .slice A5 i c5), (6, .slice A6 i c6), (9, .int .i64 (k : Int)), (10, .int .i64 (N : Int)), (11, .slice A11 (N * N) (N * N)), (14, .int .i64 (z.1 : Int))])
        (fun z w' => z.1 ≤ N ∧ z.2.length = N ∧ St w w' (CkB 4 A11 (N * N) (N * N) G :: poB A4 i AR N cR AD N cD :: (mat 32 2 AD N cD z.2 (belL M k z.1 0) ++ psQ A1 A2 A5 A6 A i c M AR N cR c5 c6 rs6))) (fun z => N - z.1) (0, qsD) ⟨rfl, rfl, rfl, rfl, rfl, rfl, rfl, rfl, rfl, rfl, trivial⟩ ⟨Nat.zero_le _, hqD, hS⟩ ?_
      clear hS hqD hG h5
      rintro ⟨E, q3⟩ e w12 ⟨hE, hq3, hS⟩
      dsimp only at hE hq3 hS ⊢
      refine Gbc O ?_
      refine Cd.cond_p _ O (fun h5 => ?_) (fun h5 => ?_)
      · have hEN : E < N := by omega
        have hEm : ((E * N : Nat) : Int) = (E : Int) * (N : Int) := Int.natCast_mul E N
        have hEle : E * N ≤ N * N := Nat.mul_le_mul_right N (by omega)
        refine Gac O ?_
        refine Cd.loop (α := Nat × List SlV) (fun z => [(1, .pointer A1), (2, .pointer A2), (3, .int .i64 (i : Int)), (4, .pointer A4), (5, .slice A5 i c5), (6, .slice A6 i c6), (9, .int .i64 (k : Int)), (10, .int .i64 (N : Int)), (11, .slice A11 (N * N) (N * N)), (14, .int .i64 (E : Int)), (15, .int .i64 (z.1 : Int))])
          (fun z w' => z.1 ≤ N ∧ z.2.length = N ∧ St w w' (CkB 4 A11 (N * N) (N * N) G :: poB A4 i AR N cR AD N cD :: (mat 32 2 AD N cD z.2 (belL M k E z.1) ++ psQ A1 A2 A5 A6 A i c M AR N cR c5 c6 rs6))) (fun z => N - z.1) (0, q3) ⟨rfl, rfl, rfl, rfl, rfl, rfl, rfl, rfl, rfl, rfl, rfl, trivial⟩ ⟨Nat.zero_le _, hq3, hS⟩ ?_
        clear hS hq3
        rintro ⟨D, q4⟩ e w13 ⟨hD, hq4, hS⟩
        dsimp only at hD hq4 hS ⊢
        refine Gbc O ?_
        refine Cd.cond_p _ O (fun h6 => ?_) (fun h6 => ?_)
        · have hDN : D < N := by omega
          have hpl := pair_lt (N := N) (e := E) (d := D) hEN hDN
          have hbl := belL_len M k E D
          rw [hNM] at hbl
          have hf9 := hfin E D hEN hDN
          have hGB : RdB w13 A11 (N * N) G := hS.rdB 0 O
          have hix : (E : Int) * (N : Int) + (D : Int) = ((E * N + D : Nat) : Int) := by omega
          refine Gao O (Ops.mul O O O (by omega) ?_)
          refine Gdo O (Ops.add O O O (by omega) ?_)
          refine Ops.idx hGB.2 O O O (by omega) (by omega) (Ops.ld_bool hGB O (by omega) O O ?_)
          rw [hix]
          refine Gdc O ?_
          generalize hgb : gb G ((E * N + D : Nat) : Int) = b at *
          cases b with
          | false => --dup 2
            have hsk := belL_skip (M := M) (i := k) (e := E) (d := D) (by omega) (by omega) (fun h => by have := hf9.2 h; cases this)
            refine Cd.cond_f O ?_
            refine Gao O (Ops.add O O O (by omega) (Gdn O (tQ ?_)))
            exact ⟨(D + 1, q4), by show N - (D + 1) < N - D; omega, ⟨O, O, O, O, O, O, O, O, O, O, O, trivial⟩, by show D + 1 ≤ N; omega, hq4, by rw [hsk]; exact hS⟩
          | true =>
            have hput := belL_put (M := M) (i := k) (e := E) (d := D) (by omega) (hf9.1 O)
            have hRM : RowsI w13 AD N q4 (belL M k E D) := by
              have h9 := hS.sub (show (mat 32 2 AD N cD q4 (belL M k E D)).Sublist _ from ((List.sublist_append_left _ _).cons _).cons _)
              exact h9.rowsI1 hbl
            have hrE := (hRM.at_ (i := (E : Int)) (by omega) (by omega)).1
            have hrn : (rg q4 (E : Int)).n ≤ N := by
              rw [← hrE, belL_at (by omega)]
              have hfl : (gl (fpB M) (E : Int)).length ≤ N := by
                refine nodup_le_int (fpB_sa M _).nodup fun x hx => ?_
                rw [fpB_at (by omega) (by omega)] at hx
                omega
              unfold belE
              split
              · exact hfl
              · split
                · exact Nat.zero_le _
                · split
                  · exact hfl
                  · split
                    · exact Nat.le_trans (List.length_filter_le _ _) hfl
                    · exact Nat.zero_le _
            have hB4 : Rd w13 A4 3 (fun q => [Value.int .i64 (i : Int), .slice AR N cR, .slice AD N cD].getD q undef) := hS.rd 1 O
            have hgQ : ∀ A9 : Option Addr, (CkI 2 A9 1 1 [(D : Int)] :: (CkB 4 A11 (N * N) (N * N) G :: poB A4 i AR N cR AD N cD :: (mat 32 2 AD N cD q4 (belL M k E D) ++ psQ A1 A2 A5 A6 A i c M AR N cR c5 c6 rs6)))[3 + 1 + E]? = some (CkI 2 (rg q4 (E : Int)).a (rg q4 (E : Int)).n (rg q4 (E : Int)).c (gl (belL M k E D) (E : Int))) := fun A9 => mat_get (t1 := 32) (t2 := 2) (A := AD) (n := N) (c := cD) (rs := q4) (xss := belL M k E D) (pre := [CkI 2 A9 1 1 [(D : Int)], CkB 4 A11 (N * N) (N * N) G, poB A4 i AR N cR AD N cD]) (ks := psQ A1 A2 A5 A6 A i c M AR N cR c5 c6 rs6) (i := E) (by omega) (by omega)
            have hap := fun (A9 : Option Addr) (s : SlV) (xs : List Int) => mat_apP (t1 := 32) (t2 := 2) (A := AD) (n := N) (c := cD) (rs := q4) (xss := belL M k E D) (ks := psQ A1 A2 A5 A6 A i c M AR N cR c5 c6 rs6) (pre := [CkI 2 A9 1 1 [(D : Int)], CkB 4 A11 (N * N) (N * N) G, poB A4 i AR N cR AD N cD]) (i := E) s xs (by omega) (by omega)
            refine Cd.cond_t O ?_
            refine Cd.drawP [10, 12] [yP (ptrAt A4 2), yS (AD) (N) (cD), yI ((E : Int)), yP (ptrAt (A4) 2), yS (AD) (N) (cD), yI ((E : Int)), yP (ptrAt (AD) ((E : Int)).toNat), yS ((rg (q4) ((E : Int))).a) ((rg (q4) ((E : Int))).n) ((rg (q4) ((E : Int))).c), yI ((D : Int)), .pr (fun v w' => ∃ A9, v = .slice A9 1 1 ∧ St w w' (CkI 2 A9 1 1 [(D : Int)] :: (CkB 4 A11 (N * N) (N * N) G :: poB A4 i AR N cR AD N cD :: (mat 32 2 AD N cD q4 (belL M k E D) ++ psQ A1 A2 A5 A6 A i c M AR N cR c5 c6 rs6)))), .pr (fun v w' => ∃ AZ cZ, v = .slice AZ ((rg q4 (E : Int)).n + 1) cZ ∧ St w w' (CkB 4 A11 (N * N) (N * N) G :: poB A4 i AR N cR AD N cD :: (CkR 32 AD N cD q4 :: (rowsCk 2 (q4.set E ⟨AZ, (rg q4 (E : Int)).n + 1, cZ⟩) ((belL M k E D).set E (gl (belL M k E D) (E : Int) ++ [(D : Int)])) ++ psQ A1 A2 A5 A6 A i c M AR N cR c5 c6 rs6)))), yP (ptrAt AD ((E : Int)).toNat), .pr (fun _ w' => ∃ AZ cZ, St w w' (CkB 4 A11 (N * N) (N * N) G :: poB A4 i AR N cR AD N cD :: (mat 32 2 AD N cD (q4.set E ⟨AZ, (rg q4 (E : Int)).n + 1, cZ⟩) ((belL M k E D).set E (gl (belL M k E D) (E : Int) ++ [(D : Int)])) ++ psQ A1 A2 A5 A6 A i c M AR N cR c5 c6 rs6)))] (by kernel_rfl) (by kernel_rfl) (ly (ly (ly (ly (ly (ly (ly (ly (ly (List.forall_mem_cons.2 ⟨Ye.lasts_pr (fun v w w' h hb => by obtain ⟨A9, hv, hT⟩ := h; exact ⟨A9, hv, hT.later hb⟩), (List.forall_mem_cons.2 ⟨Ye.lasts_pr (fun v w w' h hb => by obtain ⟨AZ, cZ, hv, hT⟩ := h; exact ⟨AZ, cZ, hv, hT.later hb⟩), (ly (List.forall_mem_cons.2 ⟨Ye.lasts_pr (fun v w w' h hb => by obtain ⟨AZ, cZ, hT⟩ := h; exact ⟨AZ, cZ, hT.later hb⟩), (fun _ h => by cases h)⟩))⟩)⟩)))))))))) ?_ ?_
            · refine ⟨?_, ?_, DrP O, cP fun _ _ hb _ _ _ => Ops.fld (hB4.below hb) O O O O inferInstance (AzP O O), cP fun _ _ hb _ _ _ => Ops.ldf_s (hB4.below hb) O O O O O (AzP O O), DrP O, cP fun _ _ hb _ _ _ => Ops.idx (hRM.top.later hb).2 O O O (by omega) (by omega) (AzP O O), cP fun _ _ hb _ _ _ => Ops.ld_sl (hRM.top.later hb) O (by omega) O O (AzP O O), DrP O, ?_, ?_, ?_, ?_, trivial⟩
              · intro e1 w1 cc hlo hhi hb0 hp hun hq
                show Ops _ _ _ _ _ _ _
                have hX : Rd w1 A4 3 (fun q => [Value.int .i64 (i : Int), .slice AR N cR, .slice AD N cD].getD q undef) := by { have hhi := le_of_hi hhi (b := 1) (by kernel_rfl); rcases (show cc = 0 ∨ cc = 1 by omega) with h | h; { exact Rd.below hB4 (hb0 h) }; { subst h; obtain ⟨AZ, cZ, _, hT⟩ := hq 10 _ _ (by kernel_rfl) (by kernel_rfl) (by kernel_rfl) rfl rfl (by kernel_rfl); exact hT.rd 1 rfl } }
                refine Ops.fld hX O O O O inferInstance (Ops.n (p0_ O (by exact O)))
              · intro e1 w1 cc hlo hhi hb0 hp hun hq
                show Ops _ _ _ _ _ _ _
                have hX : Rd w1 A4 3 (fun q => [Value.int .i64 (i : Int), .slice AR N cR, .slice AD N cD].getD q undef) := by { have hhi := le_of_hi hhi (b := 1) (by kernel_rfl); rcases (show cc = 0 ∨ cc = 1 by omega) with h | h; { exact Rd.below hB4 (hb0 h) }; { subst h; obtain ⟨AZ, cZ, _, hT⟩ := hq 10 _ _ (by kernel_rfl) (by kernel_rfl) (by kernel_rfl) rfl rfl (by kernel_rfl); exact hT.rd 1 rfl } }
                refine Ops.ldf_s hX O O O O O (Ops.n (p0_ O (by exact O)))
              · refine cP fun e1 w1 hb hp hun hq => ?_
                refine Ops.bs1I (St.refl _) O O O ?_
                intro A9 w9 hst
                refine Ops.n ?_
                exact AfterP.dn O hst.below ⟨A9, O, (hS.later hb).call hst⟩
              · refine cPT fun e1 w1 hb hp hun hq => ?_
                obtain ⟨A9, h140, hT⟩ := (hp 9 _ _ (by kernel_rfl) rfl rfl (by kernel_rfl))
                refine Ops.appI (3 + 1 + E) hT (hgQ A9) (hT.rdI 0 O) O (by exact h140) O (by omega) (by omega) O ?_
                intro AZ cZ wZ hZ
                have hZ := (hap A9 ⟨AZ, (rg q4 (E : Int)).n + 1, cZ⟩ (gl (belL M k E D) (E : Int) ++ [(D : Int)])) ▸ hZ
                refine Ops.n ?_
                exact AfterU.dn O ⟨AZ, cZ, O, hZ.tail⟩
              · intro e1 w1 cc hlo hhi hb0 hp hun hq
                show Ops _ _ _ _ _ _ _
                have hX : RdR w1 AD N q4 := by { have hhi := le_of_hi hhi (b := 1) (by kernel_rfl); rcases (show cc = 0 ∨ cc = 1 by omega) with h | h; { exact hRM.top.later (hb0 h) }; { subst h; obtain ⟨AZ, cZ, _, hT⟩ := hq 10 _ _ (by kernel_rfl) (by kernel_rfl) (by kernel_rfl) rfl rfl (by kernel_rfl); exact hT.rdR 2 rfl } }
                refine Ops.idx hX.2 O O O (by omega) (by omega) (Ops.n (p0_ O (by exact O)))
              · refine dPT 1 fun e1 w1 hp hun hq => ?_
                have hph := hp 10 _ _ (by kernel_rfl) O O (by kernel_rfl)
                obtain ⟨AZ, cZ, h141, hT⟩ := hph
                refine Ops.st_sl (te := 32) (n := N) (c := cD) (A := AD) (xs := q4) 2 hT O O (by exact h141) (by omega) ?_
                intro wY hY
                refine Ops.n ?_
                exact AfterU.st O ⟨AZ, cZ, hY⟩
            intro u w14 _ hu _ _
            obtain ⟨AZ, cZ, hT⟩ := hu 12 _ rfl (by kernel_rfl)
            rw [hput] at hT
            refine Geo O (Ops.add O O O (by omega) (Gdn O (tQ ?_)))
            exact ⟨(D + 1, _), by show N - (D + 1) < N - D; omega, ⟨O, O, O, O, O, O, O, O, O, O, O, trivial⟩, by show D + 1 ≤ N; omega, by simp [hq4], hT⟩
        · have hDN : D = N := by omega
          have hrow := belL_row (M := M) (i := k) (e := E)
          rw [hNM] at hrow
          rw [hDN, hrow] at hS
          refine Gax O (thenQ_x (Gfo O (Ops.add O O O (by omega) (Gdn O (tQ ?_)))))
          exact ⟨(E + 1, q4), by show N - (E + 1) < N - E; omega, ⟨O, O, O, O, O, O, O, O, O, O, trivial⟩, by show E + 1 ≤ N; omega, hq4, hS⟩
      · have hEN : E = N := by omega
        have hnx := belL_next (M := M) (i := k)
        rw [hNM] at hnx
        rw [hEN, hnx] at hS
        refine Gax O (thenQ_x (Gfo O (Ops.add O O O (by omega) (Gdn O (tQ ?_)))))
        exact ⟨(k + 1, q3), by show i - (k + 1) < i - k; omega, ⟨O, O, O, O, O, O, O, trivial⟩, ⟨by show 1 ≤ k + 1; omega, by show k + 1 ≤ i; omega⟩, hq3, hS.tail⟩
  · have hkn : k = M.length := by omega
    have hall := belL_all (M := M)
    rw [hkn, hall] at hS
    refine Gax O (thenQ_x (Gfo O ?_))
    refine Ops.ld_agg 2 (hS.rd 0 O) O O O ?_
    have hS2 : St w w8 (poB A2 0 none 0 0 none 0 0 :: (CkI 2 AR N cR (fpR M i) :: (mat 32 2 AD N cD qsD (fpB M) ++ []))) := by
      have hs : (mat 32 2 AD N cD qsD (fpB M) ++ [CkI 2 AR N cR (fpR M i), poB A2 0 none 0 0 none 0 0]).Sublist (poB A4 i AR N cR AD N cD :: (mat 32 2 AD N cD qsD (fpB M) ++ psQ A1 A2 A5 A6 A i c M AR N cR c5 c6 rs6)) :=
        List.Sublist.cons _ (List.Sublist.append_left (List.Sublist.cons_cons _ (List.Sublist.cons _ (List.Sublist.cons_cons _ (List.nil_sublist _)))) _)
      refine (hS.sub hs).perm ?_
      rw [List.append_nil]
      exact (List.perm_append_comm).trans (List.Perm.swap _ _ _)
    refine Ops.st_agg 3 0 hS2 O O O O O O O ?_
    intro w12 hS12
    refine Gdr O (retc_r O (hS12.rd 0 O) ?_)
    refine ⟨AR, cR, AD, cD, qsD, ?_, by rw [hNM]; exact hqD, ?_⟩
    · rw [hNM, hnl]; rfl
    · rw [hNM, hnl]; exact hS12.tail
/-
 The program's flags of a poset: its own recursive function, walked.
-/
section
variable {P : Program} {N : Nat} {ops : Array Oper} {K : Env → World → Prop} {rest : List Oper} {e : Env} {w : World} {d : Nat} {ty : TypeId} {pos : String} {af : Array Edge}
theorem Ops.fn4 {F : FuncId} {x y z u : Operand} {v1 v2 v3 v4 : Value} (hx : ev e x = v1) (hy : ev e y = v2) (hz : ev e z = v3) (hu : ev e u = v4) (hb : Nat.blt d N = true) (hK : Ops P N ops K rest (upd e d (.func (.func F) #[] #[v1, v2, v3, v4])) w) :
  Ops P N ops K (⟨some d, .makeFunc (.func F) #[] #[x, y, z, u], ty, pos, af, none⟩ :: rest) e w :=
 .val (by simp [execOp, Instr.makeFunc, hx, hy, hz, hu]) hb hK
end
theorem cap_all {l : List (List Int)} (h : l.length ≤ 401) : cap l = l := by
 unfold cap
 exact List.take_of_length_le h
def exU (U : List (List Int)) : Nat → Int → List (List Int)
 | 0, _ => [[]]
 | k + 1, e => (gl U e).flatMap fun f => (exU U k f).map (f :: ·)
def grU (U : List (List Int)) (k : Nat) (fl xs : List Int) : List (List Int) := xs.flatMap fun e => (exU U k e).map fun y => fl ++ e :: y
theorem grU_take {U : List (List Int)} {k : Nat} {fl xs : List Int} {j : Nat} (h : j < xs.length) : grU U k fl (xs.take (j + 1)) = grU U k fl (xs.take j) ++ (exU U k (gi xs (j : Int))).map fun y => fl ++ gi xs (j : Int) :: y := by
 unfold grU
 rw [List.take_succ_eq_append_getElem h, List.flatMap_append, gi_mem h]; simp
theorem grU_next (U : List (List Int)) (k : Nat) (fl : List Int) (e : Int) : (exU U (k + 1) e).map (fun y => fl ++ e :: y) = grU U k (fl ++ [e]) (gl U e) := by
 unfold grU
 rw [exU, List.map_flatMap]
 refine congrArg (fun g => List.flatMap g (gl U e)) (funext fun f => ?_)
 rw [List.map_map]
 refine List.map_congr_left fun y _ => ?_
 show fl ++ e :: f :: y = (fl ++ [e]) ++ f :: y
 rw [List.append_assoc]; rfl
abbrev gwK (PF A : Option Addr) (c : Nat) (rs : List SlV) (F : List (List Int)) (PB : Option Addr) (n : Int) (AR : Option Addr) (nR cR : Nat) (AD : Option Addr) (m d : Nat) (PG PU Au : Option Addr) (N cU : Nat) (rsU : List SlV) (U : List (List Int)) (ks1 : List Ck) : List Ck :=
 Bx 22 1 PF [.slice A F.length c] :: (mat 32 2 A F.length c rs F ++ (poB PB n AR nR cR AD m d :: Bx 121 1 PG [.func (.func 140) #[] #[.pointer PF, .pointer PB, .pointer PG, .pointer PU]] :: Bx 22 1 PU [.slice Au N cU] :: (mat 32 2 Au N cU rsU U ++ ks1)))
theorem perm_f {α : Type} (x b c : α) (X Y : List α) : (x :: b :: c :: (X ++ Y)).Perm (b :: c :: ((X ++ [x]) ++ Y)) := by
 classical
 refine List.perm_iff_count.2 fun z => ?_
 simp only [List.count_append, List.count_cons, List.count_nil]
 omega
theorem gw_sub (PF A : Option Addr) (c : Nat) (rs : List SlV) (F : List (List Int)) (PB : Option Addr) (n : Int) (AR : Option Addr) (nR cR : Nat) (AD : Option Addr) (m d : Nat) (PG PU Au : Option Addr) (N cU : Nat) (rsU : List SlV) (U : List (List Int)) (ks1 : List Ck) : (poB PB n AR nR cR AD m d :: Bx 121 1 PG [.func (.func 140) #[] #[.pointer PF, .pointer PB, .pointer PG, .pointer PU]] :: Bx 22 1 PU [.slice Au N cU] :: (mat 32 2 Au N cU rsU U ++ ks1)).Sublist (gwK PF A c rs F PB n AR nR cR AD m d PG PU Au N cU rsU U ks1) := (List.sublist_append_right _ _).cons _
theorem gw_app (PF A : Option Addr) (c : Nat) (rs : List SlV) (F : List (List Int)) (PB : Option Addr) (n : Int) (AR : Option Addr) (nR cR : Nat) (AD : Option Addr) (m d : Nat) (PG PU Au : Option Addr) (N cU : Nat) (rsU : List SlV) (U : List (List Int)) (ks1 : List Ck) (x : Ck) : (x :: gwK PF A c rs F PB n AR nR cR AD m d PG PU Au N cU rsU U ks1).Perm (gwK PF A c rs F PB n AR nR cR AD m d PG PU Au N cU rsU U (x :: ks1)) := by
 classical
 refine List.perm_iff_count.2 fun z => ?_
 simp only [gwK, List.count_append, List.count_cons]
 omega
theorem mem_rdI {w0 w' : World} {PF A : Option Addr} {c : Nat} {rs : List SlV} {F : List (List Int)} {PB : Option Addr} {n : Int} {AR : Option Addr} {nR cR : Nat} {AD : Option Addr} {m d : Nat} {PG PU Au : Option Addr} {N cU : Nat} {rsU : List SlV} {U : List (List Int)} {ks1 : List Ck} {t : TypeId} {B : Option Addr} {q r : Nat} {xs : List Int} (h : St w0 w' (gwK PF A c rs F PB n AR nR cR AD m d PG PU Au N cU rsU U (CkI t B q r xs :: ks1))) : RdI w' B q xs := (h.perm (gw_app ..).symm).rdI 0 rfl
theorem gw_drop (PF A : Option Addr) (c : Nat) (rs : List SlV) (F : List (List Int)) (PB : Option Addr) (n : Int) (AR : Option Addr) (nR cR : Nat) (AD : Option Addr) (m d : Nat) (PG PU Au : Option Addr) (N cU : Nat) (rsU : List SlV) (U : List (List Int)) (ks1 : List Ck) (x : Ck) : (gwK PF A c rs F PB n AR nR cR AD m d PG PU Au N cU rsU U ks1).Sublist (gwK PF A c rs F PB n AR nR cR AD m d PG PU Au N cU rsU U (x :: ks1)) := (((((((List.Sublist.refl ks1).cons x).append_left _).cons_cons _).cons_cons _).cons_cons _).append_left _).cons_cons _
theorem gw_u {w0 w' : World} {PF A : Option Addr} {c : Nat} {rs : List SlV} {F : List (List Int)} {PB : Option Addr} {n : Int} {AR : Option Addr} {nR cR : Nat} {AD : Option Addr} {m d : Nat} {PG PU Au : Option Addr} {N cU : Nat} {rsU : List SlV} {U : List (List Int)} {ks1 : List Ck} (hUl : U.length = N) (h : St w0 w' (gwK PF A c rs F PB n AR nR cR AD m d PG PU Au N cU rsU U ks1)) : RowsI w' Au N rsU U :=
 St.rowsI (t1 := 32) (t2 := 2) (c := cU) (h.sub (((((List.Sublist.refl (mat 32 2 Au N cU rsU U ++ ks1)).cons _).cons _).cons _).trans (gw_sub ..))) hUl
set_option maxHeartbeats 2000000 in
theorem grow_c (w0 : World) (n : Nat) (hn5 : n ≤ 5) (PF PB AR AD PG PU Au : Option Addr) (nR cR m d N cU : Nat) (rsU : List SlV) (U : List (List Int)) (hUl : U.length = N) (hN : N ≤ 500) (hUr : ∀ e : Nat, e < N → (gl U (e : Int)).length ≤ 500 ∧ ∀ x ∈ gl U (e : Int), 0 ≤ x ∧ x < (N : Int)) :
    ∀ (k nf nx : Nat) (fl xs : List Int) (Af Ax : Option Addr) (cf cx : Nat) (ks1 : List Ck) (w : World) (A : Option Addr) (c : Nat) (rs : List SlV) (F : List (List Int)), fl.length = nf → xs.length = nx → nf + (k + 1) = n → nx ≤ 500 → (∀ x ∈ xs, 0 ≤ x ∧ x < (N : Int)) →
      (∀ w' A c rs F, St w0 w' (gwK PF A c rs F PB n AR nR cR AD m d PG PU Au N cU rsU U ks1) → RdI w' Af nf fl) →
      (∀ w' A c rs F, St w0 w' (gwK PF A c rs F PB n AR nR cR AD m d PG PU Au N cU rsU U ks1) → RdI w' Ax nx xs) →
      rs.length = F.length → F.length ≤ 401 → St w0 w (gwK PF A c rs F PB n AR nR cR AD m d PG PU Au N cU rsU U ks1) →
      Ret Tryz.prog 140 [.slice Af nf cf, .slice Ax nx cx, .pointer PF, .pointer PB, .pointer PG, .pointer PU] w (fun v w' => v = .tuple #[] ∧ ∃ A' c' rs', rs'.length = (cap (F ++ grU U k fl xs)).length ∧ St w0 w' (gwK PF A' c' rs' (cap (F ++ grU U k fl xs)) PB n AR nR cR AD m d PG PU Au N cU rsU U ks1)) := by
  intro k
  induction k using Nat.strongRecOn with
  | _ k ih =>
    intro nf nx fl xs Af Ax cf cx ks1 w A c rs F hnf hnx hfl hxs hxr hf hx hrs hF hS
    refine Ret.of_cd Tryz.func140 O Tryz.ntmps140 O (post0 O) ?_
    refine Gbo O (Ops.len O O (Gdc O ?_))
    refine Cd.loop (α := Nat × Option Addr × Nat × List SlV) (fun z => [(0, .slice Af nf cf), (2, .pointer PF), (3, .pointer PB), (4, .pointer PG), (5, .pointer PU), (11, .slice Ax nx cx), (12, .int .i64 (nx : Int)), (13, .int .i64 (z.1 : Int))])
      (fun z w' => z.1 ≤ nx ∧ z.2.2.2.length = (cap (F ++ grU U k fl (xs.take z.1))).length ∧ St w0 w' (gwK PF z.2.1 z.2.2.1 z.2.2.2 (cap (F ++ grU U k fl (xs.take z.1))) PB n AR nR cR AD m d PG PU Au N cU rsU U ks1)) (fun z => nx - z.1) (0, A, c, rs) ⟨rfl, rfl, rfl, rfl, rfl, rfl, rfl, rfl, trivial⟩ ⟨Nat.zero_le _, by
        show rs.length = (cap (F ++ [])).length
        rw [List.append_nil, cap_all hF]; exact hrs, by
        show St w0 w (gwK PF A c rs (cap (F ++ [])) _ _ _ _ _ _ _ _ _ _ _ _ _ _ _ _)
        rw [List.append_nil, cap_all hF]; exact hS⟩ ?_
    clear hS hrs
    rintro ⟨j, A, c, rs⟩ e w1 ⟨hj, hrs, hS⟩
    dsimp only at hj hrs hS ⊢
    generalize hG : F ++ grU U k fl (xs.take j) = G at *
    refine Gbc O ?_
    refine Cd.cond_p _ O (fun h1 => ?_) (fun h1 => ?_)
    · have hjx : j < xs.length := by omega
      have hR := hx _ _ _ _ _ hS
      have hxm := hxr _ (gi_in hjx)
      have hGs : F ++ grU U k fl (xs.take (j + 1)) = G ++ (exU U k (gi xs (j : Int))).map fun y => fl ++ gi xs (j : Int) :: y := by
        rw [grU_take hjx, ← List.append_assoc, hG]
      have hlast : F ++ grU U k fl xs = G ++ grU U k fl (xs.drop j) := by
        rw [← hG, List.append_assoc]
        congr 1
        unfold grU
        rw [← List.flatMap_append, List.take_append_drop]
      refine Gao O (Ops.idx hR.2 O O O (by omega) (by omega) (Ops.ld_int hR O (by omega) O O (Gdo O ?_)))
      obtain ⟨E, hE⟩ : ∃ E : Nat, gi xs (j : Int) = E := ⟨(gi xs (j : Int)).toNat, by omega⟩
      rw [hE] at hGs hxm ⊢
      refine Ops.call (Clone_c Af nf cf fl _ (hf _ _ _ _ _ hS) (by omega)) O O O ?_
      rintro _ w2 ⟨A18, c18, rfl, hst⟩
      have hS2 := hS.call hst
      clear hst hS
      refine Gdo O (Ops.bs1I hS2 O O O ?_)
      intro A20 w3 hS3
      refine Ops.appI 1 hS3 O (hS3.rdI 0 O) O O O (by omega) (by omega) O ?_
      intro A21 c21 w4 hS4
      have hS4 : St w0 w4 (CkI 2 A21 (nf + 1) c21 (fl ++ [(E : Int)]) :: gwK PF A c rs (cap G) PB n AR nR cR AD m d PG PU Au N cU rsU U ks1) := hS4.tail
      clear hS3 hS2
      have hb1 : Rd w4 PF 1 (fun _ => .slice A (cap G).length c) := Rd.one (hS4.rd 1 O)
      refine Gdo O (Ops.ldf_s (j := 0) hb1 (by exact congrArg Value.pointer (ptrAt_zero _).symm) O O O O ?_)
      refine Ops.len O O (Gdc O ?_)
      refine Cd.cond_p _ O (fun h2 => ?_) (fun h2 => ?_)
      · refine Gar O (thenQ_r (Qk_ret ?_))
        refine ret0_r ?_
        refine ⟨O, A, c, rs, ?_, ?_⟩
        · rw [hlast, cap_full _ (by omega)]; exact hrs
        · rw [hlast, cap_full _ (by omega)]; exact hS4.tail
      have hcl := cap_few (l := G) (by omega)
      have hb2 := ((hS4.tail).sub (gw_sub ..)).rd 0 O
      by_cases hk0 : k = 0
      · --dup 2
        refine Gac O ?_
        refine Cd.draw [xS (A21) (nf + 1) (c21), xI ((nf + 1 : Nat) : Int), xP (ptrAt (PB) 0), xI ((n : Int)), xB (true), xB (true)] (by kernel_rfl) (by kernel_rfl) O (exL O) ?_ ?_
        · refine ⟨Dr O, ?_, fun _ _ hb _ _ => Ops.fld (hb2.below hb) O O O O inferInstance (Az O), fun _ _ hb _ _ => Ops.ldf_i (hb2.below hb) O O O O O (Az O), fun _ _ _ _ _ => Dk O (by exact congrArg Value.bool (decide_eq_true (by omega))), Dr O, trivial⟩
          · intro e1 w1 hb hp hun
            refine Ops.call (sizeI_c _ _ _ _) O O O ?_
            rintro _ w2 ⟨rfl, hst⟩
            subst hst
            refine Ops.n (d0 (by exact O))
        intro u w5 hb5 _
        have hS5 := hS4.later hb5
        clear hS4 hb2 hb1
        have hb1 : Rd w5 PF 1 (fun _ => .slice A (cap G).length c) := Rd.one (hS5.rd 1 O)
        refine Gec O (Cd.cond_t O (Gao O (Ops.ldf_s (j := 0) hb1 (by exact congrArg Value.pointer (ptrAt_zero _).symm) O O O O (Gdo O (Ops.bs1R hS5 O O O ?_)))))
        intro A41 w6 hS6
        refine Ops.appR 3 hS6 O (hS6.rdR 0 O) O O O (by omega) (by omega) O ?_
        intro A42 c42 w7 hS7
        refine Ops.st (i := 2) (j := 0) hS7 O (by exact congrArg Value.pointer (ptrAt_zero _).symm) O O (Nat.succ_pos _) ?_
        intro w8 hS8
        have hS9 : St w0 w8 (CkI 2 A21 (nf + 1) c21 (fl ++ [(E : Int)]) :: Bx 22 1 PF [.slice A42 ((cap G).length + 1) c42] :: CkR 32 A42 ((cap G).length + 1) c42 (rs ++ [⟨A21, nf + 1, c21⟩]) :: (rowsCk 2 rs (cap G) ++ _)) := hS8.tail
        have hS9 := hS9.perm (perm_f _ _ _ _ _)
        rw [← rowsCk_snoc hrs] at hS9
        have hex : (exU U k (E : Int)).map (fun y => fl ++ (E : Int) :: y) = [fl ++ [(E : Int)]] := by rw [hk0]; rfl
        rw [hex] at hGs
        have hcs := cap_snoc (l := G) (fl ++ [(E : Int)]) (by omega)
        refine Gdo O (Ops.add O O O (by omega) (Gdn O (tQ ?_)))
        refine ⟨(j + 1, A42, c42, rs ++ [⟨A21, nf + 1, c21⟩]), by show nx - (j + 1) < nx - j; omega, ⟨O, O, O, O, O, O, O, O, trivial⟩, by show j + 1 ≤ nx; omega, ?_, ?_⟩
        · show (rs ++ [_]).length = (cap (F ++ grU U k fl (xs.take (j + 1)))).length
          rw [hGs, hcs, List.length_append, List.length_append, hrs]; rfl
        · show St w0 w8 (gwK PF A42 c42 (rs ++ [_]) (cap (F ++ grU U k fl (xs.take (j + 1)))) PB n AR nR cR AD m d PG PU Au N cU rsU U ks1)
          rw [hGs, hcs]
          show St w0 w8 (Bx _ 1 PF [.slice A42 (cap G ++ [fl ++ [(E : Int)]]).length c42] :: (CkR _ A42 (cap G ++ [fl ++ [(E : Int)]]).length c42 _ :: _))
          rw [show (cap G ++ [fl ++ [(E : Int)]]).length = (cap G).length + 1 by simp]
          exact hS9
      · obtain ⟨k', rfl⟩ : ∃ k', k = k' + 1 := ⟨k - 1, by omega⟩
        rw [grU_next] at hGs
        refine Gac O ?_
        refine Cd.draw [xS (A21) (nf + 1) (c21), xI ((nf + 1 : Nat) : Int), xP (ptrAt (PB) 0), xI ((n : Int)), xB (false), xB (false)] (by kernel_rfl) (by kernel_rfl) O (exL O) ?_ ?_
        · refine ⟨Dr O, ?_, fun _ _ hb _ _ => Ops.fld (hb2.below hb) O O O O inferInstance (Az O), fun _ _ hb _ _ => Ops.ldf_i (hb2.below hb) O O O O O (Az O), fun _ _ _ _ _ => Dk O (by exact congrArg Value.bool (decide_eq_false (by omega))), Dr O, trivial⟩
          · intro e1 w1 hb hp hun
            refine Ops.call (sizeI_c _ _ _ _) O O O ?_
            rintro _ w2 ⟨rfl, hst⟩
            subst hst
            refine Ops.n (d0 (by exact O))
        intro u w5 hb5 _
        have hS5 := (hS4.later hb5).perm (gw_app ..)
        clear hS4 hb2 hb1
        have hb3 : Rd w5 PG 1 (fun _ => .func (.func 140) #[] #[.pointer PF, .pointer PB, .pointer PG, .pointer PU]) := Rd.one ((hS5.sub (gw_sub ..)).rd 1 O)
        have hb4 : Rd w5 PU 1 (fun _ => .slice Au N cU) := Rd.one ((hS5.sub (gw_sub ..)).rd 2 O)
        have hU := gw_u hUl hS5
        have hrowU := hU.at_ (i := (E : Int)) (by omega) (by omega)
        have hU5 := hUr E (by omega)
        refine Gec O (Cd.cond_f O ?_)
        refine Cd.drawP [6] [.ex (.func (.func 140) #[] #[.pointer PF, .pointer PB, .pointer PG, .pointer PU]), yS (A21) (nf + 1) (c21), yS (Au) (N) (cU), yI ((E : Int)), yP (ptrAt (Au) ((E : Int)).toNat), yS ((rg (rsU) ((E : Int))).a) ((rg (rsU) ((E : Int))).n) ((rg (rsU) ((E : Int))).c), .pr (fun v w' => ∃ A' c' rs', rs'.length = (cap (cap G ++ grU U k' (fl ++ [(E : Int)]) (gl U (E : Int)))).length ∧ St w0 w' (gwK PF A' c' rs' (cap (cap G ++ grU U k' (fl ++ [(E : Int)]) (gl U (E : Int)))) PB n AR nR cR AD m d PG PU Au N cU rsU U ks1))] (by kernel_rfl) (by kernel_rfl) (ly (ly (ly (ly (ly (ly (List.forall_mem_cons.2 ⟨Ye.lasts_pr (fun v w w' h hb => by obtain ⟨A', c', rs', hr', hT⟩ := h; exact ⟨A', c', rs', hr', hT.later hb⟩), (fun _ h => by cases h)⟩))))))) ?_ ?_
        · refine ⟨?_, DrP O, cP fun _ _ hb _ _ _ => Ops.ldf_s (j := 0) (hb4.below hb) (by exact congrArg Value.pointer (ptrAt_zero _).symm) O O O O (AzP O O), DrP O, cP fun _ _ hb _ _ _ => Ops.idx (hU.top.later hb).2 O O O (by omega) (by omega) (AzP O O), cP fun _ _ hb _ _ _ => Ops.ld_sl (hU.top.later hb) O (by omega) O O (AzP O O), ?_, trivial⟩
          · refine cP fun e1 w1 hb hp hun hq => ?_
            refine Ops.ld (Rd.below hb3 hb) (by exact congrArg Value.pointer (ptrAt_zero _).symm) (by decide) O O O ?_
            refine Ops.n (p0_ O (by exact O))
          · refine cPT fun e1 w1 hb hp hun hq => ?_
            refine Ops.call (ih k' (Nat.lt_succ_self _) (nf + 1) (rg rsU (E : Int)).n (fl ++ [(E : Int)]) (gl U (E : Int)) A21 (rg rsU (E : Int)).a c21 (rg rsU (E : Int)).c (CkI 2 A21 (nf + 1) c21 (fl ++ [(E : Int)]) :: ks1) _ A c rs (cap G) (by rw [List.length_append, hnf]; rfl) hrowU.1 (by omega) (by have := hrowU.1; omega) hU5.2 (fun w' A c rs F h => mem_rdI h) (fun w' A c rs F h => (gw_u hUl h).at_ (i := (E : Int)) (by omega) (by omega)) hrs (cap_len G) (hS5.later hb)) O O O ?_
            rintro _ w9 ⟨rfl, A', c', rs', hr', hS9⟩
            refine Ops.n ?_
            exact AfterU.dn O ⟨A', c', rs', hr', hS9.sub (gw_drop ..)⟩
        intro u w6 _ hu _ _
        obtain ⟨A', c', rs', hr', hT⟩ := hu 6 _ rfl (by kernel_rfl)
        rw [hcl, ← hGs] at hr' hT
        refine Geo O (Ops.add O O O (by omega) (Gdn O (tQ ?_)))
        exact ⟨(j + 1, A', c', rs'), by show nx - (j + 1) < nx - j; omega, ⟨O, O, O, O, O, O, O, O, trivial⟩, by show j + 1 ≤ nx; omega, hr', hT⟩
    · have hjx : j = xs.length := by omega
      rw [hjx, List.take_length] at hG
      rw [← hG] at hrs hS
      refine Gax O (thenQ_x (Gfn O ?_))
      refine ret0_n ?_
      exact ⟨O, A, c, rs, hrs, hS⟩
/-
 The program's flags of a poset, walked.
-/
def upE (n : Nat) (R : List Int) (B : List (List Int)) (E F x : Nat) : List Int :=
 if x < E then [] else (upsP R B (x : Int)).filter fun g => decide (alvP n R B g ∧ (x = E → g < (F : Int)))
def upL (n : Nat) (R : List Int) (B : List (List Int)) (E F : Nat) : List (List Int) := (List.range R.length).map (upE n R B E F)
def alE (n : Nat) (R : List Int) (B : List (List Int)) (E F x : Nat) : Bool :=
 if x < E then false else if x = E then decide (gi R (x : Int) = (n : Int) - 1 ∨ ∃ g ∈ upsP R B (x : Int), alvP n R B g ∧ g < (F : Int)) else decide (alvP n R B (x : Int))
def alL (n : Nat) (R : List Int) (B : List (List Int)) (E F : Nat) : List Bool := (List.range R.length).map (alE n R B E F)
section
variable {n : Nat} {R : List Int} {B : List (List Int)} {E F x : Nat}
theorem upL_len : (upL n R B E F).length = R.length := by simp [upL]
theorem alL_len : (alL n R B E F).length = R.length := by simp [alL]
theorem upL_at (h : x < R.length) : gl (upL n R B E F) (x : Int) = upE n R B E F x := by
 rw [gl_mem (by rw [upL_len]; exact h)]
 simp [upL]
theorem alL_at (h : x < R.length) : gb (alL n R B E F) (x : Int) = alE n R B E F x := by
 unfold gb
 rw [Int.toNat_natCast, List.getD_eq_getElem?_getD, List.getElem?_eq_getElem (by rw [alL_len]; exact h), Option.getD_some]
 simp [alL]
theorem upL_init : upL n R B R.length F = List.replicate R.length [] := by
 refine List.eq_replicate_iff.2 ⟨upL_len, fun y hy => ?_⟩
 obtain ⟨x, hx, rfl⟩ := List.mem_map.1 hy
 unfold upE
 rw [if_pos (List.mem_range.1 hx)]
theorem alL_init : alL n R B R.length F = List.replicate R.length false := by
 refine List.eq_replicate_iff.2 ⟨alL_len, fun y hy => ?_⟩
 obtain ⟨x, hx, rfl⟩ := List.mem_map.1 hy
 unfold alE
 rw [if_pos (List.mem_range.1 hx)]
theorem ups_gt (hP : PosP n R B) {e g : Int} (h : g ∈ upsP R B e) : e < g ∧ g < R.length := by
 obtain ⟨h1, _, h3⟩ := upsP_mem.1 h
 exact ⟨((hP.at_ h1.1 h1.2).2.1 e h3).1.2, h1.2⟩
theorem upL_start (hP : PosP n R B) (hE : E < R.length) : upL n R B E (E + 1) = upL n R B (E + 1) R.length := by
 refine List.map_congr_left fun x hx => ?_
 have hx := List.mem_range.1 hx
 unfold upE
 by_cases c1 : x < E
 ·rw [if_pos c1, if_pos (by omega)]
 rw [if_neg c1]
 by_cases c2 : x = E
 ·subst c2
  rw [if_pos (by omega), List.filter_eq_nil_iff]
  intro g hg h
  have h3 := (of_decide_eq_true h).2 O
  have := ups_gt hP hg
  omega
 rw [if_neg (by omega)]
 refine List.filter_congr fun g hg => decide_eq_decide.2 ?_
 have := ups_gt hP hg
 exact ⟨fun h => ⟨h.1, fun _ => by omega⟩, fun h => ⟨h.1, fun h => absurd h c2⟩⟩
theorem upL_skip (h : ¬ (alvP n R B (F : Int) ∧ (F : Int) ∈ upsP R B (E : Int))) : upL n R B E (F + 1) = upL n R B E F := by
 refine List.map_congr_left fun x hx => ?_
 unfold upE
 by_cases c1 : x < E
 ·rw [if_pos c1, if_pos c1]
 rw [if_neg c1, if_neg c1]
 refine List.filter_congr fun g hg => decide_eq_decide.2 ⟨fun h2 => ⟨h2.1, fun e => ?_⟩, fun h2 => ⟨h2.1, fun e => by have := h2.2 e; omega⟩⟩
 have h3 := h2.2 e
 subst e
 have : g ≠ (F : Int) := fun e => h ⟨e ▸ h2.1, e ▸ hg⟩
 omega
theorem upL_put (hE : E < R.length) (h : alvP n R B (F : Int) ∧ (F : Int) ∈ upsP R B (E : Int)) : (upL n R B E F).set E (gl (upL n R B E F) (E : Int) ++ [(F : Int)]) = upL n R B E (F + 1) := by
 apply List.ext_getElem (by rw [List.length_set, upL_len, upL_len])
 intro x h1 h2
 rw [upL_len] at h2
 have e2 : ∀ d' (hx : x < (upL n R B E d').length), (upL n R B E d')[x] = upE n R B E d' x := fun d' hx => by simp [upL]
 rw [List.getElem_set, e2 (F + 1) (by rw [upL_len]; exact h2), e2 F (by rw [upL_len]; exact h2)]
 by_cases c : E = x
 ·subst c
  rw [if_pos rfl, upL_at hE]
  unfold upE
  rw [if_neg (Nat.lt_irrefl _), if_neg (Nat.lt_irrefl _)]
  have hs := upsP_SA R B (E : Int)
  refine SA.eq ?_ (List.Pairwise.filter _ hs) fun y => ?_
  ·rw [SA, List.pairwise_append]
   refine ⟨List.Pairwise.filter _ hs, List.pairwise_singleton _ _, fun a ha b hb => ?_⟩
   obtain rfl := List.mem_singleton.1 hb
   exact (of_decide_eq_true (List.mem_filter.1 ha).2).2 O
  rw [List.mem_append, List.mem_filter, List.mem_filter, List.mem_singleton]
  simp only [decide_eq_true_eq]
  constructor
  ·rintro (⟨h3, h4, h5⟩ | rfl)
   ·exact ⟨h3, h4, fun e => by have := h5 e; omega⟩
   exact ⟨h.2, h.1, fun _ => by omega⟩
  rintro ⟨h3, h4, h5⟩
  by_cases e3 : y = (F : Int)
  ·exact .inr e3
  exact .inl ⟨h3, h4, fun e => by have := h5 e; omega⟩
 rw [if_neg c]
 unfold upE
 by_cases c1 : x < E
 ·rw [if_pos c1, if_pos c1]
 rw [if_neg c1, if_neg c1]
 exact List.filter_congr fun g hg => decide_eq_decide.2 ⟨fun h2 => ⟨h2.1, fun e => absurd e.symm c⟩, fun h2 => ⟨h2.1, fun e => absurd e.symm c⟩⟩
theorem alL_top {x : Nat} (hP : PosP n R B) (hx : x < R.length) (h : (gi R (x : Int) = (n : Int) - 1 ∨ ∃ g ∈ upsP R B (x : Int), alvP n R B g ∧ g < (R.length : Int))) : alvP n R B (x : Int) := by
 rcases h with h | ⟨g, h1, h2, _⟩
 ·exact alv_top h
 have h3 := (upsP_mem.1 h1)
 have := hP.ri h3.1.1 h3.1.2
 have := hP.ri (e := (x : Int)) (by omega) (by omega)
 exact (alv_up (by omega) (by omega)).2 ⟨g, h1, h2⟩
theorem alL_top' {x : Nat} (hP : PosP n R B) (hx : x < R.length) (h : alvP n R B (x : Int)) : (gi R (x : Int) = (n : Int) - 1 ∨ ∃ g ∈ upsP R B (x : Int), alvP n R B g ∧ g < (R.length : Int)) := by
 have := hP.ri (e := (x : Int)) (by omega) (by omega)
 by_cases c : gi R (x : Int) = (n : Int) - 1
 ·exact .inl c
 obtain ⟨g, h1, h2⟩ := (alv_up (by omega) (by omega)).1 h
 exact .inr ⟨g, h1, h2, (ups_gt hP h1).2⟩
theorem alL_start (hP : PosP n R B) (hE : E < R.length) : (alL n R B (E + 1) R.length).set E (decide (gi R (E : Int) = (n : Int) - 1)) = alL n R B E (E + 1) := by
 apply List.ext_getElem (by rw [List.length_set, alL_len, alL_len])
 intro x h1 h2
 rw [alL_len] at h2
 have e2 : ∀ e' d' (hx : x < (alL n R B e' d').length), (alL n R B e' d')[x] = alE n R B e' d' x := fun e' d' hx => by simp [alL]
 rw [List.getElem_set, e2 _ _ (by rw [alL_len]; exact h2), e2 _ _ (by rw [alL_len]; exact h2)]
 unfold alE
 by_cases c : E = x
 ·subst c
  rw [if_pos rfl, if_neg (Nat.lt_irrefl _), if_pos rfl]
  refine decide_eq_decide.2 ⟨fun h => .inl h, fun h => ?_⟩
  rcases h with h | ⟨g, h3, _, h4⟩
  ·exact h
  have := ups_gt hP h3; omega
 rw [if_neg c]
 by_cases c1 : x < E
 ·rw [if_pos (by omega), if_pos c1]
 rw [if_neg (by omega), if_neg c1, if_neg (show ¬ x = E from fun e => c e.symm)]
 split
 ·refine decide_eq_decide.2 ⟨fun h => alL_top hP h2 h, fun h => alL_top' hP h2 h⟩
 rfl
theorem alL_skip (h : ¬ (alvP n R B (F : Int) ∧ (F : Int) ∈ upsP R B (E : Int))) : alL n R B E (F + 1) = alL n R B E F := by
 refine List.map_congr_left fun x hx => ?_
 unfold alE
 by_cases c1 : x < E
 ·rw [if_pos c1, if_pos c1]
 rw [if_neg c1, if_neg c1]
 by_cases c2 : x = E
 ·subst c2
  rw [if_pos rfl, if_pos rfl]
  refine decide_eq_decide.2 (or_congr Iff.rfl ⟨?_, ?_⟩)
  ·rintro ⟨g, h1, h2, h3⟩
   have : g ≠ (F : Int) := fun e => h ⟨e ▸ h2, e ▸ h1⟩
   exact ⟨g, h1, h2, by omega⟩
  rintro ⟨g, h1, h2, h3⟩
  exact ⟨g, h1, h2, by omega⟩
 rw [if_neg c2, if_neg c2]
theorem alL_put (hE : E < R.length) (h : alvP n R B (F : Int) ∧ (F : Int) ∈ upsP R B (E : Int)) : (alL n R B E F).set E true = alL n R B E (F + 1) := by
 apply List.ext_getElem (by rw [List.length_set, alL_len, alL_len])
 intro x h1 h2
 rw [alL_len] at h2
 have e2 : ∀ e' d' (hx : x < (alL n R B e' d').length), (alL n R B e' d')[x] = alE n R B e' d' x := fun e' d' hx => by simp [alL]
 rw [List.getElem_set, e2 _ _ (by rw [alL_len]; exact h2), e2 _ _ (by rw [alL_len]; exact h2)]
 unfold alE
 by_cases c : E = x
 ·subst c
  rw [if_pos rfl, if_neg (Nat.lt_irrefl _), if_pos rfl]
  exact (decide_eq_true (.inr ⟨_, h.2, h.1, by omega⟩)).symm
 rw [if_neg c]
 by_cases c1 : x < E
 ·rw [if_pos c1, if_pos c1]
 rw [if_neg c1, if_neg c1, if_neg (fun e => c e.symm), if_neg (fun e => c e.symm)]
theorem alL_gt (hP : PosP n R B) (hEF : E < F) (hF : F < R.length) : gb (alL n R B E F) (F : Int) = decide (alvP n R B (F : Int)) := by
 rw [alL_at hF]
 unfold alE
 rw [if_neg (by omega), if_neg (by omega)]
theorem alL_fin (hP : PosP n R B) (hx : x < R.length) : gb (alL n R B 0 R.length) (x : Int) = decide (alvP n R B (x : Int)) := by
 rw [alL_at hx]
 unfold alE
 rw [if_neg (by omega)]
 split
 ·exact decide_eq_decide.2 ⟨fun h => alL_top hP hx h, fun h => alL_top' hP hx h⟩
 rfl
theorem upL_fin (hP : PosP n R B) (hx : x < R.length) : gl (upL n R B 0 R.length) (x : Int) = (upsP R B (x : Int)).filter fun g => decide (alvP n R B g) := by
 rw [upL_at hx]
 unfold upE
 rw [if_neg (by omega)]
 refine List.filter_congr fun g hg => decide_eq_decide.2 ⟨fun h => h.1, fun h => ⟨h, fun _ => (ups_gt hP hg).2⟩⟩
theorem flat_cg {α β : Type} {f g : α → List β} : ∀ {l : List α}, (∀ x ∈ l, f x = g x) → l.flatMap f = l.flatMap g
 | [], _ => rfl
 | a :: r, h => by rw [List.flatMap_cons, List.flatMap_cons, h a (List.mem_cons_self ..), flat_cg fun x hx => h x (List.mem_cons_of_mem _ hx)]
theorem exU_ext (hP : PosP n R B) : ∀ (k : Nat) (e : Int), 0 ≤ e → e < R.length → (gi R e).toNat + k = n - 1 → exU (upL n R B 0 R.length) k e = extP R B k e
 | 0, _, _, _, _ => rfl
 | k + 1, e, h0, h1, h2 => by
  have hr := hP.ri h0 h1
  obtain ⟨x, rfl⟩ : ∃ x : Nat, e = x := ⟨e.toNat, by omega⟩
  rw [exU, upL_fin hP (by omega), ups_prune hr.1 (by omega)]
  refine flat_cg fun f hf => ?_
  have hf := (upsP_mem.1 (List.mem_filter.1 hf).1)
  rw [exU_ext hP k f hf.1.1 hf.1.2 (by omega)]
theorem grU_flg (hn : 1 ≤ n) (hP : PosP n R B) : grU (upL n R B 0 R.length) (n - 1) [] ((botP R).filter fun f => decide (alvP n R B f)) = flgP n R B := by
 rw [bot_prune]
 unfold grU
 refine flat_cg fun e he => ?_
 have he := botP_mem.1 (List.mem_filter.1 he).1
 rw [exU_ext hP _ e he.1.1 he.1.2 (by omega)]
 rfl
theorem bot_take {m : Nat} (hm : m < R.length) : ((rngI (m + 1)).filter fun e => decide (gi R e = 0) && decide (alvP n R B e)) = ((rngI m).filter fun e => decide (gi R e = 0) && decide (alvP n R B e)) ++ (if gi R (m : Int) = 0 ∧ alvP n R B (m : Int) then [(m : Int)] else []) := by
 unfold rngI
 rw [List.range_succ, List.map_append, List.filter_append]
 congr 1
 by_cases c : gi R (m : Int) = 0 ∧ alvP n R B (m : Int)
 ·rw [if_pos c]; simp [c.1, c.2]
 rw [if_neg c]
 rw [List.filter_eq_nil_iff]
 intro a ha h
 obtain rfl := List.mem_singleton.1 ha
 simp at h
 exact c h
theorem bot_all : ((rngI R.length).filter fun e => decide (gi R e = 0) && decide (alvP n R B e)) = (botP R).filter fun f => decide (alvP n R B f) := by
 unfold botP
 rw [List.filter_filter]
 exact List.filter_congr fun x _ => Bool.and_comm _ _
end
/-
 Marks at the elements of lists; the library's search among bools.
-/
/-! marks at the elements of a list -/
def pnt (H : List Bool) (vs : List Int) : List Bool := vs.foldl (fun H v => H.set v.toNat true) H
theorem pnt_snoc (H : List Bool) (vs : List Int) (v : Int) : pnt H (vs ++ [v]) = (pnt H vs).set v.toNat true := by simp [pnt, List.foldl_append]
theorem pnt_len (H : List Bool) : ∀ vs, (pnt H vs).length = H.length := by
 intro vs
 unfold pnt
 induction vs generalizing H with
 | nil => rfl
 | cons a r ih => rw [List.foldl_cons, ih, List.length_set]
theorem pnt_gb (H : List Bool) (vs : List Int) (hv : ∀ v ∈ vs, 0 ≤ v ∧ v < H.length) (x : Int) (h0 : 0 ≤ x) : gb (pnt H vs) x = (gb H x || decide (x ∈ vs)) := by
 unfold pnt
 induction vs generalizing H with
 | nil => simp
 | cons a r ih =>
  have ha := hv a (by simp)
  rw [List.foldl_cons, ih _ (fun v h => by rw [List.length_set]; exact hv v (by simp [h])), gb_set ha.1 ha.2 h0]
  by_cases e : a = x
  ·subst e; simp
  ·have e' : ¬ x = a := fun h => e h.symm
   simp [e, e']
theorem gb_rep (n : Nat) (x : Int) : gb (List.replicate n false) x = false := by
 unfold gb
 rw [List.getD_eq_getElem?_getD, List.getElem?_replicate]
 split <;> rfl
theorem pnt_all {m : Nat} {F : List (List Int)} (h : ∀ l ∈ F, ∀ x ∈ l, 0 ≤ x ∧ x < (m : Int)) (x : Int) (h0 : 0 ≤ x) : gb (pnt (List.replicate m false) F.flatten) x = decide (∃ l ∈ F, x ∈ l) := by
 rw [pnt_gb _ _ (fun v hv => by
  obtain ⟨l, hl, hx⟩ := List.mem_flatten.1 hv
  rw [List.length_replicate]; exact h l hl v hx) x h0, gb_rep, Bool.false_or]
 exact decide_eq_decide.2 (by rw [List.mem_flatten])
def mk0 (m : Nat) : List Bool := List.replicate m false
theorem pnt0_len (m : Nat) (vs : List Int) : (pnt (mk0 m) vs).length = m := by rw [pnt_len]; simp [mk0]
theorem no_false {m : Nat} {F : List (List Int)} (h : ∀ l ∈ F, ∀ x ∈ l, 0 ≤ x ∧ x < (m : Int)) : ¬ (false ∈ pnt (mk0 m) F.flatten) ↔ ∀ x : Int, 0 ≤ x → x < (m : Int) → ∃ l ∈ F, x ∈ l := by
 have hl := pnt0_len m F.flatten
 have hg := fun (x : Int) (h0 : 0 ≤ x) => pnt_all h x h0
 constructor
 ·intro hn x h0 h1
  apply Classical.byContradiction
  intro hc
  have h2 : gb (pnt (mk0 m) F.flatten) x = false := (hg x h0).trans (decide_eq_false hc)
  apply hn
  have h3 : x.toNat < (pnt (mk0 m) F.flatten).length := by omega
  rw [← h2, gb, List.getD_eq_getElem?_getD, List.getElem?_eq_getElem h3]
  exact List.getElem_mem _
 intro ha hm
 obtain ⟨k, hk, e⟩ := List.mem_iff_getElem.1 hm
 have h2 := hg (k : Int) (by omega)
 rw [decide_eq_true (ha (k : Int) (by omega) (by omega))] at h2
 have h3 : gb (pnt (mk0 m) F.flatten) (k : Int) = (pnt (mk0 m) F.flatten)[k] := by simp [gb, List.getD_eq_getElem?_getD, hk]
 have h4 : gb (pnt (mk0 m) F.flatten) (k : Int) = true := h2
 rw [h3, e] at h4
 cases h4
theorem IndexB_c (A : Option Addr) (n c : Nat) (xs : List Bool) (v : Bool) (w : World) (hR : RdB w A n xs) (hn : n ≤ 9223372036854775807) :
  Ret Tryz.prog 210 [.slice A n c, .bool v] w (fun r w' => (∃ i : Int, r = .int .i64 i ∧ (0 ≤ i ↔ v ∈ xs)) ∧ w' = w) := by
 have hxl := hR.1
 refine Ret.of_cd Tryz.func210 O Tryz.ntmps210 O (post1 O) ?_
 refine Gbo O (Ops.len O O (Gdc O ?_))
 refine Cd.loop (α := Nat) (fun k => [(0, .slice A n c), (1, .bool v), (7, .int .i64 (n : Int)), (8, .int .i64 (k : Int))]) (fun k w' => w' = w ∧ k ≤ n ∧ ∀ j : Nat, j < k → gb xs (j : Int) ≠ v) (fun k => n - k) 0 ⟨O, O, O, O, trivial⟩ ⟨O, Nat.zero_le _, fun j hj => by omega⟩ ?_
 rintro k e w ⟨rfl, hk, hK⟩
 refine Gbc O ?_
 refine Cd.cond_p _ O (fun h3 => ?_) (fun h3 => ?_)
 ·have hg : gb xs (k : Int) = xs[k]'(by omega) := by simp [gb, List.getD_eq_getElem?_getD, show k < xs.length by omega]
  refine Gao O (Ops.idx hR.2 O O O (by omega) (by omega) (Ops.ld_bool hR O (by omega) O O (Ops.eqlB O O O (Gdc O ?_))))
  refine Cd.cond O (fun h4 => ?_) (fun h4 => ?_)
  ·refine Gar O (thenQ_r (Qk_ret ?_))
   refine ret1_i O ?_
   have h4 : v = gb xs (k : Int) := by simpa using h4
   exact ⟨⟨(k : Int), O, ⟨fun _ => by rw [h4, hg]; exact List.getElem_mem _, fun _ => by omega⟩⟩, O⟩
  refine Gao O (Ops.add O O O (by omega) (Gdn O (tQ ?_)))
  have h4 : ¬ v = gb xs (k : Int) := by simpa using h4
  refine ⟨k + 1, by show n - (k + 1) < n - k; omega, ⟨O, O, O, O, trivial⟩, O, by omega, fun j hj => ?_⟩
  by_cases ej : j = k
  ·subst ej; exact fun h => h4 h.symm
  exact hK j (by omega)
 refine Gax O (thenQ_x (Gfr O ?_))
 refine ret1_i O ?_
 refine ⟨⟨-1, O, ⟨fun h => absurd h (by decide), fun h => ?_⟩⟩, O⟩
 obtain ⟨j, hj, hjv⟩ := List.mem_iff_getElem.1 h
 exact absurd (by simpa [gb, List.getD_eq_getElem?_getD, hj] using hjv) (hK j (by omega))
theorem ContainsB_c (A : Option Addr) (n c : Nat) (xs : List Bool) (v : Bool) (w : World) (hR : RdB w A n xs) (hn : n ≤ 9223372036854775807) :
  Ret Tryz.prog 150 [.slice A n c, .bool v] w (fun r w' => r = .bool (decide (v ∈ xs)) ∧ w' = w) := by
 refine Ret.of_cd Tryz.func150 O Tryz.ntmps150 O (post1 O) (Gbo O (Ops.call (IndexB_c A n c xs v _ hR hn) O O O ?_))
 rintro _ w ⟨⟨i, rfl, hi⟩, rfl⟩
 refine Gdr O (ret1_b O ?_)
 exact ⟨congrArg Value.bool (decide_eq_decide.2 hi), O⟩
theorem Rd.some_of {w : World} {A : Option Addr} {n : Nat} {f : Nat → Value} (h : Rd w A n f) (hn : 0 < n) : A.isNone = false := by
 obtain ⟨p, hp, _⟩ := h 0 hn
 cases A with
 | none => simp [ptrAt] at hp
 | some q => rfl
/-
 A statement whose order Go leaves open, by a property of what is done so far.
-/
section
variable {P : Program} {N : Nat} {e : Env} {w : World}
end
/-
 The reference's way to the flags of a poset, walked.
-/
def aliS (n : Nat) (R : List Int) (B : List (List Int)) (f : Nat) (x : Nat) : Prop := (f ≤ x ∧ gi R (x : Int) = (n : Int) - 1) ∨ ∃ g : Nat, (g : Int) ∈ upsP R B (x : Int) ∧ alvP n R B (g : Int) ∧ f ≤ g
def aliT (n : Nat) (R : List Int) (B : List (List Int)) (f j : Nat) (x : Nat) : Prop := aliS n R B (f + 1) x ∨ (x = f ∧ gi R (x : Int) = (n : Int) - 1) ∨ (alvP n R B (f : Int) ∧ (x : Int) ∈ (gl B (f : Int)).take j ∧ gi R (f : Int) = gi R (x : Int) + 1)
section
variable {n : Nat} {R : List Int} {B : List (List Int)}
theorem aliS_ge (hP : PosP n R B) {f x : Nat} (hf : f ≤ x) (hx : x < R.length) : aliS n R B f x ↔ alvP n R B (x : Int) := by
 have hr := hP.ri (e := (x : Int)) (by omega) (by omega)
 constructor
 ·rintro (h | ⟨g, h1, h2, _⟩)
  ·exact alv_top h.2
  have h3 := upsP_mem.1 h1
  have := hP.ri h3.1.1 h3.1.2
  exact (alv_up (by omega) (by omega)).2 ⟨_, h1, h2⟩
 intro h
 by_cases c : gi R (x : Int) = (n : Int) - 1
 ·exact .inl ⟨hf, c⟩
 obtain ⟨g, h1, h2⟩ := (alv_up (by omega) (by omega)).1 h
 have h3 := ups_gt hP h1
 obtain ⟨g', rfl⟩ : ∃ g' : Nat, g = g' := ⟨g.toNat, by omega⟩
 exact .inr ⟨g', h1, h2, by omega⟩
theorem aliS_top (hP : PosP n R B) {x : Nat} (hx : x < R.length) : ¬ aliS n R B R.length x := by
 rintro (h | ⟨g, h1, _, h2⟩)
 ·omega
 have := ups_gt hP h1; omega
theorem aliT_self (hP : PosP n R B) {f j : Nat} (hf : f < R.length) : aliT n R B f j f ↔ alvP n R B (f : Int) := by
 rw [← aliS_ge hP (Nat.le_refl f) hf]
 constructor
 ·rintro (h | h | h)
  ·rcases h with h | ⟨g, h1, h2, h3⟩
   ·omega
   exact .inr ⟨g, h1, h2, by omega⟩
  ·exact .inl ⟨Nat.le_refl _, h.2⟩
  have := ((hP.at_ (e := (f : Int)) (by omega) (by omega)).2.1 _ (List.mem_of_mem_take h.2.1)).1; omega
 rintro (h | ⟨g, h1, h2, h3⟩)
 ·exact .inr (.inl ⟨O, h.2⟩)
 have := ups_gt hP h1
 exact .inl (.inr ⟨g, h1, h2, by omega⟩)
theorem aliT_done (hP : PosP n R B) {f j : Nat} (hf : f < R.length) (hj : ¬ alvP n R B (f : Int) ∨ (gl B (f : Int)).length ≤ j) {x : Nat} (hx : x < R.length) : aliT n R B f j x ↔ aliS n R B f x := by
 constructor
 ·rintro (h | h | h)
  ·rcases h with h | ⟨g, h1, h2, h3⟩
   ·exact .inl ⟨by omega, h.2⟩
   exact .inr ⟨g, h1, h2, by omega⟩
  ·exact .inl ⟨by omega, h.2⟩
  exact .inr ⟨f, upsP_mem.2 ⟨by omega, h.2.2, List.mem_of_mem_take h.2.1⟩, h.1, Nat.le_refl _⟩
 rintro (h | ⟨g, h1, h2, h3⟩)
 ·by_cases e : x = f
  ·exact .inr (.inl ⟨e, h.2⟩)
  exact .inl (.inl ⟨by omega, h.2⟩)
 by_cases e : g = f
 ·subst e
  have h4 := upsP_mem.1 h1
  rcases hj with hj | hj
  ·exact absurd h2 hj
  exact .inr (.inr ⟨h2, by rw [List.take_of_length_le hj]; exact h4.2.2, h4.2.1⟩)
 exact .inl (.inr ⟨g, h1, h2, by omega⟩)
theorem aliT_next {f j : Nat} (hj : j < (gl B (f : Int)).length) {x : Nat} : aliT n R B f (j + 1) x ↔ aliT n R B f j x ∨ (alvP n R B (f : Int) ∧ (x : Int) = gi (gl B (f : Int)) (j : Int) ∧ gi R (f : Int) = gi R (x : Int) + 1) := by
 have e9 : (gl B (f : Int)).take (j + 1) = (gl B (f : Int)).take j ++ [gi (gl B (f : Int)) (j : Int)] := by
  rw [List.take_succ_eq_append_getElem hj, gi_mem hj]
 unfold aliT
 rw [e9, List.mem_append, List.mem_singleton]
 constructor
 ·rintro (h | h | ⟨h1, h2 | h2, h3⟩)
  ·exact .inl (.inl h)
  ·exact .inl (.inr (.inl h))
  ·exact .inl (.inr (.inr ⟨h1, h2, h3⟩))
  exact .inr ⟨h1, h2, h3⟩
 rintro ((h | h | ⟨h1, h2, h3⟩) | ⟨h1, h2, h3⟩)
 ·exact .inl h
 ·exact .inr (.inl h)
 ·exact .inr (.inr ⟨h1, .inl h2, h3⟩)
 exact .inr (.inr ⟨h1, .inr h2, h3⟩)
end
def MkB (N : Nat) (L : List Bool) (P : Nat → Prop) : Prop := L.length = N ∧ ∀ x : Nat, x < N → (gb L (x : Int) = true ↔ P x)
theorem MkB.set {N : Nat} {L : List Bool} {P P' : Nat → Prop} (h : MkB N L P) {y : Nat} (hy : y < N) (hP : ∀ x, x < N → (P' x ↔ P x ∨ x = y)) : MkB N (L.set y true) P' := by
 refine ⟨by rw [List.length_set]; exact h.1, fun x hx => ?_⟩
 have := gb_set (S := L) (x := (y : Int)) (y := (x : Int)) (b := true) (by omega) (by rw [h.1]; omega) (by omega)
 rw [Int.toNat_natCast] at this
 rw [this, hP x hx, ← h.2 x hx]
 by_cases e : x = y
 ·subst e; simp
 rw [if_neg (by omega)]
 exact ⟨fun h => .inl h, fun h => h.resolve_right e⟩
theorem MkB.congr {N : Nat} {L : List Bool} {P P' : Nat → Prop} (h : MkB N L P) (hP : ∀ x, x < N → (P' x ↔ P x)) : MkB N L P' := ⟨h.1, fun x hx => (h.2 x hx).trans (hP x hx).symm⟩
set_option maxHeartbeats 2000000 in
theorem l03Alive_c (n : Nat) (A D : Option Addr) (cA cD : Nat) (R : List Int) (rs : List SlV) (B : List (List Int)) (w : World) (hR : RdI w A R.length R) (hB : RowsI w D B.length rs B) (hP : PosP n R B) :
  Ret Tryz.prog 202 [.agg #[.int .i64 n, .slice A R.length cA, .slice D B.length cD]] w (fun v w' => ∃ A' L, v = .slice A' R.length R.length ∧ MkB R.length L (fun x => alvP n R B (x : Int)) ∧ St w w' [CkB 4 A' R.length R.length L]) := by
 have hn := hP.n1
 have hbg := hP.big
 have hle := hP.len
 have hrow := fun (f : Nat) (h : f < R.length) => hP.at_ (e := (f : Int)) (by omega) (by omega)
 have hrl : ∀ f : Nat, f < R.length → (gl B (f : Int)).length ≤ 500 := fun f h => by
  have := nodup_le_int (N := R.length) (hrow f h).1.nodup fun x hx => by have := ((hrow f h).2.1 x hx).1; omega
  omega
 have hself := fun f j (h : f < R.length) => aliT_self (n := n) (j := j) hP h
 have hdone := fun f j x (h : f < R.length) hj (hx : x < R.length) => aliT_done (n := n) (j := j) hP h hj hx
 have htop := fun x (h : x < R.length) => aliS_top (n := n) hP h
 have hge := fun x (h : x < R.length) => aliS_ge (n := n) (f := 0) hP (Nat.zero_le _) h
 have hri := fun (x : Nat) (h : x < R.length) => hP.ri (e := (x : Int)) (by omega) (by omega)
 obtain ⟨N, hN⟩ : ∃ N, R.length = N := ⟨_, rfl⟩
 rw [hN] at hR hbg hle hrow hrl hself hdone htop hge hri ⊢
 rw [hle] at hB ⊢
 refine Ret.of_cd Tryz.func202 O Tryz.ntmps202 O (post1 O) (Gbo O (Ops.box3T (St.refl w) O O ?_))
 intro A1 w1 hS1
 have h1 : Rd w1 A1 3 (fun j => [Value.int .i64 (n : Int), .slice A N cA, .slice D N cD].getD j undef) := hS1.rd 0 O
 have hR := hS1.oldI hR; have hB := hS1.oldRows hB
 refine Gdo O (Ops.fld h1 O O O O inferInstance (Ops.ldf_s (j := 1) h1 (by exact congrArg Value.pointer O) O O O O (Ops.len O O (Ops.mkB (v := false) N (St.refl w1) O O (by omega) ?_))))
 intro A3 w2 hT2
 have h1b := Rd.below h1 hT2.below
 refine Gdo O (Ops.fld h1b O O O O inferInstance (Ops.ldf_s (j := 1) h1b (by exact congrArg Value.pointer O) O O O O ?_))
 have hM0 : MkB N (List.replicate N false) (aliS n R B N) := ⟨by simp, fun x hx => ⟨fun h => (by rw [gb_rep] at h; cases h), fun h => absurd h (htop x hx)⟩⟩
 clear h1b
 refine Ops.len O O (Ops.sub O O O (by omega) (Gdc O ?_))
 refine Cd.loop (α := Nat × List Bool) (fun z => [(1, .pointer A1), (3, .slice A3 N N), (4, .int .i64 ((z.1 : Int) - 1))]) (fun z w' => z.1 ≤ N ∧ MkB N z.2 (aliS n R B z.1) ∧ St w1 w' [CkB 4 A3 N N z.2]) (fun z => z.1) (N, List.replicate N false) ⟨O, O, O, trivial⟩ ⟨Nat.le_refl _, hM0, hT2⟩ ?_
 clear hT2 hM0
 rintro ⟨E', L⟩ e w3 ⟨hE, hL, hT⟩
 dsimp only at hE hL hT ⊢
 refine Gbc O ?_
 refine Cd.cond_p _ O (fun h2 => ?_) (fun h2 => ?_)
 ·obtain ⟨f, rfl⟩ : ∃ f, E' = f + 1 := ⟨E' - 1, by omega⟩
  have hfN : f < N := by omega
  rw [show ((f + 1 : Nat) : Int) - 1 = (f : Int) by omega]
  have h1c := Rd.below h1 hT.below
  have hRc := hR.later hT.below
  have hrf := hri f hfN
  refine Gaj 3 O ?_
  refine Cd.join (α := List Bool) (fun _ => [(1, .pointer A1), (3, .slice A3 N N), (4, .int .i64 (f : Int))]) (fun L' w' => MkB N L' (aliT n R B f 0) ∧ St w1 w' [CkB 4 A3 N N L']) ?_ ?_
  ·refine Gbc O ?_
   refine Cd.draw [xP (ptrAt (A1) 1), xS (A) (N) (cA), xI ((f : Int)), xP (ptrAt (A) ((f : Int)).toNat), xI (gi (R) ((f : Int))), xP (ptrAt (A1) 0), xI ((n : Int)), xI (((n : Int)) - ((1 : Int))), xB (decide ((gi (R) ((f : Int))) = (((n : Int)) - ((1 : Int)))))] (by kernel_rfl) (by kernel_rfl) O (exL O) ?_ ?_
   ·exact ⟨fun _ _ hb _ _ => Ops.fld (h1c.below hb) O O O O inferInstance (Az O), fun _ _ hb _ _ => Ops.ldf_s (h1c.below hb) O O O O O (Az O), Dr O, fun _ _ hb _ _ => Ops.idx (hRc.later hb).2 O O O (by omega) (by omega) (Az O), fun _ _ hb _ _ => Ops.ld_int (hRc.later hb) O (by omega) O O (Az O), fun _ _ hb _ _ => Ops.fld (h1c.below hb) O O O O inferInstance (Az O), fun _ _ hb _ _ => Ops.ldf_i (h1c.below hb) O O O O O (Az O), fun _ _ _ _ _ => Ops.sub O O O (by omega) (Az O), Dr O, trivial⟩
   intro u w4 hb4 _
   have hT4 := hT.later hb4
   clear hT h1c hRc
   refine Gec O ?_
   refine Cd.cond_p _ O (fun h3 => ?_) (fun h3 => ?_)
   ·refine Gao O (Ops.idx (hT4.rdB 0 O).2 O O O (by omega) (by omega) (Ops.st_bool 0 hT4 O O O (by omega) ?_))
    intro w5 hT5
    rw [Int.toNat_natCast] at hT5
    refine Gdn O (tQ ?_)
    refine ⟨L.set f true, ⟨O, O, O, trivial⟩, hL.set hfN fun x hx => ?_, hT5⟩
    unfold aliT
    rw [List.take_zero]
    constructor
    ·rintro (h | h | h)
     ·exact .inl h
     ·exact .inr h.1
     cases h.2.1
    rintro (h | h)
    ·exact .inl h
    subst h; exact .inr (.inl ⟨rfl, h3⟩)
   refine Gan O (tQ ?_)
   refine ⟨L, ⟨O, O, O, trivial⟩, hL.congr fun x hx => ?_, hT4⟩
   unfold aliT
   rw [List.take_zero]
   constructor
   ·rintro (h | h | h)
    ·exact h
    ·exact absurd (h.1 ▸ h.2) h3
    cases h.2.1
   exact fun h => .inl h
  clear hT hL h1c hRc
  rintro L e w5 ⟨hL, hT⟩
  have hro5 := hrow f hfN
  have hrl5 := hrl f hfN
  refine Gac O ?_
  refine Cd.loop (α := Nat × List Bool) (fun z => [(1, .pointer A1), (3, .slice A3 N N), (4, .int .i64 (f : Int)), (5, .int .i64 (z.1 : Int))]) (fun z w' => z.1 ≤ (gl B (f : Int)).length ∧ MkB N z.2 (aliT n R B f z.1) ∧ St w1 w' [CkB 4 A3 N N z.2]) (fun z => (gl B (f : Int)).length - z.1) (0, L) ⟨O, O, O, O, trivial⟩ ⟨Nat.zero_le _, hL, hT⟩ ?_
  clear hT hL
  rintro ⟨j, L⟩ e w6 ⟨hj, hL, hT⟩
  dsimp only at hj hL hT ⊢
  have h1c := Rd.below h1 hT.below
  have hBc := hB.later hT.below
  have hro := hBc.at_ (i := (f : Int)) (by omega) (by omega)
  have hrn := hro.1
  have hLl := hL.1
  have hgf := (hL.2 f hfN).trans (hself f j hfN)
  refine Gbo O (Ops.fld h1c O O O O inferInstance (Ops.ldf_s (j := 2) h1c (by exact congrArg Value.pointer O) O O O O (Gdo O (Ops.idx hBc.top.2 O O O (by omega) (by omega) (Ops.ld_sl hBc.top O (by omega) O O ?_)))))
  refine Ops.len O O (Gdo O ?_)
  refine Ops.split_p 39 O (fun h3 => ?_) (fun h3 => ?_)
  ·have hjl : j < (gl B (f : Int)).length := by omega
   refine Ops.g O O O (Gdo O (Ops.g O O O (Gdo O (Ops.g O O O ?_))))
   refine Ops.idx (hT.rdB 0 O).2 O O O (by omega) (by omega) (Ops.g O O O (Ops.ld_bool (hT.rdB 0 O) O (by omega) O O ?_))
   generalize hgb : gb L (f : Int) = bb at *
   rw [show bb = decide (bb = true) by cases bb <;> rfl]
   refine Gdc O ?_
   refine Cd.cond_p _ O (fun h4 => ?_) (fun h4 => ?_)
   ·have hal := hgf.1 h4
    have hdm := hro5.2.1 _ (gi_in hjl)
    have hnx := fun x => aliT_next (n := n) (R := R) (B := B) (f := f) (x := x) hjl
    have hRc := hR.later hT.below
    obtain ⟨d, hd⟩ : ∃ d : Nat, gi (gl B (f : Int)) (j : Int) = d := ⟨(gi (gl B (f : Int)) (j : Int)).toNat, by omega⟩
    rw [hd] at hdm hnx
    have hrd := hri d (by omega)
    refine Gao O (Ops.fld h1c O O O O inferInstance (Ops.ldf_s (j := 2) h1c (by exact congrArg Value.pointer O) O O O O (Gdo O (Ops.idx hBc.top.2 O O O (by omega) (by omega) (Ops.ld_sl hBc.top O (by omega) O O (Gdo O (Ops.idx hro.2 O O O (by omega) (by omega) (Ops.ld_int hro O (by omega) O O ?_))))))))
    rw [hd]
    refine Gdc O ?_
    refine Cd.draw [xP (ptrAt (A1) 1), xS (A) (N) (cA), xI ((d : Int)), xP (ptrAt (A) ((d : Int)).toNat), xI (gi (R) ((d : Int))), xP (ptrAt (A1) 1), xS (A) (N) (cA), xI ((f : Int)), xP (ptrAt (A) ((f : Int)).toNat), xI (gi (R) ((f : Int))), xI ((gi (R) ((f : Int))) - ((1 : Int))), xB (decide ((gi (R) ((d : Int))) = ((gi (R) ((f : Int))) - ((1 : Int)))))] (by kernel_rfl) (by kernel_rfl) O (exL O) ?_ ?_
    ·exact ⟨fun _ _ hb _ _ => Ops.fld (h1c.below hb) O O O O inferInstance (Az O), fun _ _ hb _ _ => Ops.ldf_s (h1c.below hb) O O O O O (Az O), Dr O, fun _ _ hb _ _ => Ops.idx (hRc.later hb).2 O O O (by omega) (by omega) (Az O), fun _ _ hb _ _ => Ops.ld_int (hRc.later hb) O (by omega) O O (Az O), fun _ _ hb _ _ => Ops.fld (h1c.below hb) O O O O inferInstance (Az O), fun _ _ hb _ _ => Ops.ldf_s (h1c.below hb) O O O O O (Az O), Dr O, fun _ _ hb _ _ => Ops.idx (hRc.later hb).2 O O O (by omega) (by omega) (Az O), fun _ _ hb _ _ => Ops.ld_int (hRc.later hb) O (by omega) O O (Az O), fun _ _ _ _ _ => Ops.sub O O O (by omega) (Az O), Dr O, trivial⟩
    intro u w7 hb7 _
    have hT7 := hT.later hb7
    refine Gec O ?_
    refine Cd.cond_p _ O (fun h5 => ?_) (fun h5 => ?_)
    ·refine Gao O (Ops.idx (hT7.rdB 0 O).2 O O O (by omega) (by omega) (Ops.st_bool 0 hT7 O O O (by omega) ?_))
     intro w8 hT8
     rw [Int.toNat_natCast] at hT8
     refine Gdo O (Ops.add O O O (by omega) (Gdn O (tQ ?_)))
     refine ⟨(j + 1, L.set d true), by show (gl B (f : Int)).length - (j + 1) < (gl B (f : Int)).length - j; omega, ⟨O, O, O, O, trivial⟩, by show j + 1 ≤ _; omega, hL.set (by omega) fun x hx => ?_, hT8⟩
     rw [hnx x]
     constructor
     ·rintro (h | h)
      ·exact .inl h
      exact .inr (by omega)
     rintro (h | h)
     ·exact .inl h
     subst h; exact .inr ⟨hal, rfl, by omega⟩
    refine Gao O (Ops.add O O O (by omega) (Gdn O (tQ ?_)))
    refine ⟨(j + 1, L), by show (gl B (f : Int)).length - (j + 1) < (gl B (f : Int)).length - j; omega, ⟨O, O, O, O, trivial⟩, by show j + 1 ≤ _; omega, hL.congr fun x hx => ?_, hT7⟩
    rw [hnx x]
    constructor
    ·rintro (h | h)
     ·exact h
     have h9 := h.2.1
     have h10 := h.2.2
     rw [h9] at h10
     omega
    exact fun h => .inl h
   have hal : ¬ alvP n R B (f : Int) := fun h => h4 (hgf.2 h)
   refine Gax O (thenQ_x (Gfo O (Ops.sub O O O (by omega) (Gdn O (tQ ?_)))))
   exact ⟨(f, L), by show f < f + 1; omega, ⟨O, O, O, trivial⟩, by show f ≤ N; omega, hL.congr fun x hx => (hdone f j x hfN (.inl hal) hx).symm, hT⟩
  refine Ops.k O O O O O (Ops.k O O O O O (Ops.k O O O O O (Ops.k O O O O O (Gdc O ?_))))
  refine Cd.cond_f O ?_
  refine Gax O (thenQ_x (Gfo O (Ops.sub O O O (by omega) (Gdn O (tQ ?_)))))
  exact ⟨(f, L), by show f < f + 1; omega, ⟨O, O, O, trivial⟩, by show f ≤ N; omega, hL.congr fun x hx => (hdone f j x hfN (.inr (by omega)) hx).symm, hT⟩
 obtain rfl : E' = 0 := by omega
 refine Gax O (thenQ_x (Gfr O ?_))
 refine ret1_s O ?_
 have h9 := hS1.none.call hT
 exact ⟨A3, L, O, hL.congr fun x hx => (hge x hx).symm, h9⟩
/-
 The program's flags of a poset, walked.
-/
def flgL (n : Nat) (R : List Int) (B : List (List Int)) : List (List Int) := if (flgP n R B).length ≤ 400 then flgP n R B else []
def flgK (n : Nat) (R : List Int) (B : List (List Int)) : Int := if (flgP n R B).length ≤ 400 then 0 else 3
abbrev flK (A1 PU Au A22 : Option Addr) (n : Nat) (A D : Option Addr) (N cA cD : Nat) (al : List Bool) (rsU : List SlV) (U : List (List Int)) : List Ck :=
 CkB 4 A22 N N al :: Bx 22 1 PU [.slice Au N N] :: poB A1 n A N cA D N cD :: (mat 32 2 Au N N rsU U ++ [])
set_option maxHeartbeats 4000000 in
theorem flagsOf_c (n : Nat) (A D : Option Addr) (cA cD : Nat) (R : List Int) (rs : List SlV) (B : List (List Int)) (w : World) (hR : RdI w A R.length R) (hB : RowsI w D B.length rs B) (hP : PosP n R B) :
  Ret Tryz.prog 81 [.agg #[.int .i64 n, .slice A R.length cA, .slice D B.length cD]] w (AnsSS (flgL n R B) (flgK n R B) w) := by
 have hn := hP.n1
 have hbg := hP.big
 have hle := hP.len
 have hrow := fun e (h : e < R.length) => hP.row e h
 have hrl : ∀ e : Nat, e < R.length → (gl B (e : Int)).length ≤ 500 := fun e h => by
  have := nodup_le_int (N := R.length) (hrow e h).1.nodup fun x hx => ((hrow e h).2 x hx).1
  omega
 have hul : ∀ E F : Nat, (upL n R B E F).length = R.length := fun E F => upL_len
 have hal : ∀ E F : Nat, (alL n R B E F).length = R.length := fun E F => alL_len
 have hstL := fun E (h : E < R.length) => upL_start (n := n) hP h
 have hstA := fun E (h : E < R.length) => alL_start (n := n) hP h
 have hin0 := upL_init (n := n) (R := R) (B := B) (F := R.length)
 have hin1 := alL_init (n := n) (R := R) (B := B) (F := R.length)
 have hgt := fun E F (h : E < F) (hF : F < R.length) => alL_gt (n := n) hP h hF
 have hpu := fun E F (hE : E < R.length) h => upL_put (n := n) (R := R) (B := B) (E := E) (F := F) hE h
 have hpa := fun E F (hE : E < R.length) h => alL_put (n := n) (R := R) (B := B) (E := E) (F := F) hE h
 have hBR : RowsI w D R.length rs B := hle ▸ hB
 have hisP := isPosetT_c n A D cA cD R rs B w hR hB hP
 have hfin := fun x (h : x < R.length) => alL_fin (n := n) hP h
 have hupf := fun x (h : x < R.length) => upL_fin (n := n) hP h
 have hgrf := grU_flg (n := n) (by omega) hP
 have hbt := fun m (h : m < R.length) => bot_take (n := n) (B := B) h
 have hba := bot_all (n := n) (R := R) (B := B)
 have hupm := fun (e f : Int) => upsP_mem (R := R) (B := B) (e := e) (f := f)
 obtain ⟨N, hN⟩ : ∃ N, R.length = N := ⟨_, rfl⟩
 rw [hN] at hR hbg hle hrow hrl hBR hstL hstA hin0 hin1 hgt hpu hpa hfin hupf hgrf hbt hba
 simp only [hN] at hul hal hupm
 rw [hN, hle] at hisP ⊢
 refine Ret.of_cd Tryz.func81 O Tryz.ntmps81 O (post2 O) (Gbo O (Ops.box3T (St.refl w) O O ?_))
 intro A1 w1 hS1
 have h1 : Rd w1 A1 3 (fun j => [Value.int .i64 (n : Int), .slice A N cA, .slice D N cD].getD j undef) := hS1.rd 0 O
 refine Gdo O (Ops.ld_agg 2 h1 O O O ?_)
 refine Ops.call (isPosetT_c n A D cA cD R rs B w1 (by rw [hN]; exact hS1.oldI hR) (by rw [hle]; exact hS1.oldRows hBR) hP) O (by rw [hN, hle]; rfl) O ?_
 rintro _ w2 ⟨rfl, hst⟩
 have hS2 := hS1.later hst.below
 have h1 := Rd.below h1 hst.below
 clear hst hS1
 first | refine Ops.not_p rfl rfl ?_ | refine Ops.not rfl rfl ?_
 refine Gdc O (Cd.cond_f O (Gao O (Ops.fld h1 O O O O inferInstance (Ops.ldf_s h1 O O O O O (Ops.call (sizeI_c _ _ _ _) O O O ?_)))))
 rintro _ w2 ⟨rfl, rfl⟩
 refine Gdo O (Ops.mkR N hS2 O O (by omega) ?_)
 intro Au w3 hS3
 have hS3 : St w w3 ([CkR 32 Au N N (List.replicate N slNil), poB A1 n A N cA D N cD]) := hS3
 refine Ops.new (z := .slice none 0 0) hS3 O O ?_
 intro PU w4 hS4
 refine Ops.st (i := 0) (j := 0) hS4 O (by exact congrArg Value.pointer (ptrAt_zero _).symm) O O (Nat.succ_pos _) ?_
 intro w5 hS5
 have hS5 : St w w5 (Bx 22 1 PU [.slice Au N N] :: [CkR 32 Au N N (List.replicate N slNil), poB A1 n A N cA D N cD]) := hS5
 refine Gdo O (Ops.mkB (v := false) N hS5 O O (by omega) ?_)
 intro A22 w6 hS6
 have hS6 := nilRows (t := 2) N hS6
 have hS7 : St w w6 (flK A1 PU Au A22 n A D N cA cD (alL n R B N N) (List.replicate N slNil) (upL n R B N N)) := by
  rw [hin0, hin1]
  refine hS6.perm ?_
  classical
  refine List.perm_iff_count.2 fun z => ?_
  simp only [flK, mat, List.count_append, List.count_cons, List.count_nil]
  omega
 clear hS6 hS5 hS4 hS3 hS2 h1
 refine Gdo O (Ops.sub O O O (by omega) (Gdc O ?_))
 refine Cd.loop (α := Nat × List SlV) (fun z => [(1, .pointer A1), (4, .int .i64 (N : Int)), (5, .pointer PU), (6, .slice A22 N N), (7, .int .i64 ((z.1 : Int) - 1))]) (fun z w' => z.1 ≤ N ∧ z.2.length = N ∧ St w w' (flK A1 PU Au A22 n A D N cA cD (alL n R B z.1 N) z.2 (upL n R B z.1 N))) (fun z => z.1) (N, List.replicate N slNil) ⟨O, O, O, O, O, trivial⟩ ⟨Nat.le_refl _, by simp, hS7⟩ ?_
 clear hS7
 rintro ⟨E', rsU⟩ e w7 ⟨hE, hrU, hS⟩
 dsimp only at hE hrU hS ⊢
 refine Gbc O ?_
 refine Cd.cond_p _ O (fun h2 => ?_) (fun h2 => ?_)
 ·obtain ⟨E, rfl⟩ : ∃ E, E' = E + 1 := ⟨E' - 1, by omega⟩
  have hEN : E < N := by omega
  rw [show ((E + 1 : Nat) : Int) - 1 = (E : Int) by omega]
  have hR7 := hS.oldI hR
  have hal7 := hal (E + 1) N
  refine Gac O ?_
  refine Cd.drawP [12] [yS (A22) (N) (N), yI ((E : Int)), yP (ptrAt (A1) 1), yS (A) (N) (cA), yI ((E : Int)), yP (ptrAt (A) ((E : Int)).toNat), yI (gi (R) ((E : Int))), yP (ptrAt (A1) 0), yI ((n : Int)), yI (((n : Int)) - ((1 : Int))), yB (decide ((gi (R) ((E : Int))) = (((n : Int)) - ((1 : Int))))), yP (ptrAt (A22) ((E : Int)).toNat), .pr (fun _ w' => St w w' (flK A1 PU Au A22 n A D N cA cD ((alL n R B (E + 1) N).set E (decide (gi R (E : Int) = (n : Int) - 1))) rsU (upL n R B (E + 1) N)))] (by kernel_rfl) (by kernel_rfl) (ly (ly (ly (ly (ly (ly (ly (ly (ly (ly (ly (ly (List.forall_mem_cons.2 ⟨Ye.lasts_pr (fun v w w' h hb => h.later hb), (fun _ h => by cases h)⟩))))))))))))) ?_ ?_
  ·refine ⟨DrP O, DrP O, cP fun _ _ hb _ _ _ => Ops.fld ((hS.rd 2 O).below hb) O O O O inferInstance (AzP O O), cP fun _ _ hb _ _ _ => Ops.ldf_s ((hS.rd 2 O).below hb) O O O O O (AzP O O), DrP O, cP fun _ _ hb _ _ _ => Ops.idx (hR7.later hb).2 O O O (by omega) (by omega) (AzP O O), cP fun _ _ hb _ _ _ => Ops.ld_int (hR7.later hb) O (by omega) O O (AzP O O), cP fun _ _ hb _ _ _ => Ops.fld ((hS.rd 2 O).below hb) O O O O inferInstance (AzP O O), cP fun _ _ hb _ _ _ => Ops.ldf_i ((hS.rd 2 O).below hb) O O O O O (AzP O O), aP fun _ _ => Ops.sub O O O (by omega) (AzP O O), DrP O, cP fun _ _ hb _ _ _ => Ops.idx ((hS.rdB 0 O).later hb).2 O O O (by omega) (by omega) (AzP O O), ?_, trivial⟩
   refine cPT fun e1 w1 hb hp hun hq => ?_
   refine Ops.st_bool 0 (hS.later hb) O O O (by omega) ?_
   intro w6 hS6
   refine Ops.n ?_
   exact AfterU.st O hS6
  intro u w8 _ hu hu2 hu3
  have hS8 := hu 12 _ O (by kernel_rfl)
  rw [hstA E hEN, ← hstL E hEN] at hS8
  clear hS hu hu2 hu3
  refine Geo O (Ops.add O O O (by omega) (Gdc O ?_))
  refine Cd.loop (α := Nat × List SlV) (fun z => [(1, .pointer A1), (4, .int .i64 (N : Int)), (5, .pointer PU), (6, .slice A22 N N), (7, .int .i64 (E : Int)), (8, .int .i64 (z.1 : Int))]) (fun z w' => (E < z.1 ∧ z.1 ≤ N) ∧ z.2.length = N ∧ St w w' (flK A1 PU Au A22 n A D N cA cD (alL n R B E z.1) z.2 (upL n R B E z.1))) (fun z => N - z.1) (E + 1, rsU) ⟨O, O, O, O, O, O, trivial⟩ ⟨⟨Nat.lt_succ_self _, by show E + 1 ≤ N; omega⟩, hrU, hS8⟩ ?_
  clear hS8 hrU rsU
  rintro ⟨F, rsU⟩ e w9 ⟨⟨hEF, hFN⟩, hrU, hS⟩
  dsimp only at hEF hFN hrU hS ⊢
  refine Gbc O ?_
  refine Cd.cond_p _ O (fun h3 => ?_) (fun h3 => ?_)
  ·have hF : F < N := by omega
   have hR9 := hS.oldI hR
   have hB9 := hS.oldRows hBR
   have hal9 := hal E F
   have hgF := hgt E F hEF hF
   have hrF := hrow F hF
   have hup := hupm (E : Int) (F : Int)
   have hri := hP.ri (e := (E : Int)) (by omega) (by omega)
   have h1 : Rd w9 A1 3 (fun j => [Value.int .i64 (n : Int), .slice A N cA, .slice D N cD].getD j undef) := hS.rd 2 O
   have hcase : gb (alL n R B E F) (F : Int) = false ∨ (gb (alL n R B E F) (F : Int) = true ∧ ¬ gi R (F : Int) = gi R (E : Int) + 1) ∨ (gb (alL n R B E F) (F : Int) = true ∧ gi R (F : Int) = gi R (E : Int) + 1) := by
    cases gb (alL n R B E F) (F : Int) <;> simp [Decidable.em, Classical.em]
    exact (Classical.em _).symm
   have hskip : ¬ (alvP n R B (F : Int) ∧ (F : Int) ∈ upsP R B (E : Int)) → St w w9 (flK A1 PU Au A22 n A D N cA cD (alL n R B E (F + 1)) rsU (upL n R B E (F + 1))) := fun h => by
    rw [alL_skip h, upL_skip h]; exact hS
   rcases hcase with hg | ⟨hg, hr⟩ | ⟨hg, hr⟩
   ·
    have hno : ¬ (alvP n R B (F : Int) ∧ (F : Int) ∈ upsP R B (E : Int)) := fun h => by
     rw [hg] at hgF
     have := decide_eq_true h.1
     rw [← hgF] at this
     cases this
    refine Gac O ?_
    refine Cd.draw [xS (A22) (N) (N), xI ((F : Int)), xP (ptrAt (A22) ((F : Int)).toNat), xB (gb (alL n R B E F) ((F : Int))), xB (false), xU, xU, xU, xU, xU, xU, xU, xU, xU, xU, xU, xU, xB (false), xB (false), xU, xU, xU, xB (false)] (by kernel_rfl) (by kernel_rfl) O (exL O) ?_ ?_
    ·exact ⟨Dr O, Dr O, fun _ _ hb _ _ => Ops.idx ((hS.rdB 0 O).later hb).2 O O O (by omega) (by omega) (Az O), fun _ _ hb _ _ => Ops.ld_bool ((hS.rdB 0 O).later hb) O (by omega) O O (Az O), fun _ _ _ _ _ => Dk O (by exact congrArg Value.bool (hg)), Dr O, Dr O, Dr O, Dr O, Dr O, Dr O, Dr O, Dr O, Dr O, Dr O, Dr O, Dr O, Dr O, fun _ _ _ _ _ => Dk O (by exact congrArg Value.bool (O)), Dr O, Dr O, Dr O, Dr O, trivial⟩
    intro u w10 hb _
    refine Gec O (Cd.cond_f O ?_)
    refine Gao O (Ops.add O O O (by omega) (Gdn O (tQ ?_)))
    exact ⟨(F + 1, rsU), by show N - (F + 1) < N - F; omega, ⟨O, O, O, O, O, O, trivial⟩, ⟨Nat.lt_succ_of_lt hEF, hF⟩, hrU, (hskip hno).later hb⟩
   ·have hno : ¬ (alvP n R B (F : Int) ∧ (F : Int) ∈ upsP R B (E : Int)) := fun h => hr (hup.1 h.2).2.1
    refine Gac O ?_
    refine Cd.draw [xS (A22) (N) (N), xI ((F : Int)), xP (ptrAt (A22) ((F : Int)).toNat), xB (gb (alL n R B E F) ((F : Int))), xB (true), xP (ptrAt (A1) 1), xS (A) (N) (cA), xI ((F : Int)), xP (ptrAt (A) ((F : Int)).toNat), xI (gi (R) ((F : Int))), xP (ptrAt (A1) 1), xS (A) (N) (cA), xI ((E : Int)), xP (ptrAt (A) ((E : Int)).toNat), xI (gi (R) ((E : Int))), xI ((gi (R) ((E : Int))) + ((1 : Int))), xB (decide ((gi (R) ((F : Int))) = ((gi (R) ((E : Int))) + ((1 : Int))))), xB (decide ((gi (R) ((F : Int))) = ((gi (R) ((E : Int))) + ((1 : Int))))), xB (false), xU, xU, xU, xB (false)] (by kernel_rfl) (by kernel_rfl) O (exL O) ?_ ?_
    ·exact ⟨Dr O, Dr O, fun _ _ hb _ _ => Ops.idx ((hS.rdB 0 O).later hb).2 O O O (by omega) (by omega) (Az O), fun _ _ hb _ _ => Ops.ld_bool ((hS.rdB 0 O).later hb) O (by omega) O O (Az O), fun _ _ _ _ _ => Dk O (by exact congrArg Value.bool (hg)), fun _ _ hb _ _ => Ops.g O O O (Ops.fld (h1.below hb) O O O O inferInstance (Az O)), fun _ _ hb _ _ => Ops.g O O O (Ops.ldf_s (h1.below hb) O O O O O (Az O)), Dr O, fun _ _ hb _ _ => Ops.g O O O (Ops.idx (hR9.later hb).2 O O O (by omega) (by omega) (Az O)), fun _ _ hb _ _ => Ops.g O O O (Ops.ld_int (hR9.later hb) O (by omega) O O (Az O)), fun _ _ hb _ _ => Ops.g O O O (Ops.fld (h1.below hb) O O O O inferInstance (Az O)), fun _ _ hb _ _ => Ops.g O O O (Ops.ldf_s (h1.below hb) O O O O O (Az O)), Dr O, fun _ _ hb _ _ => Ops.g O O O (Ops.idx (hR9.later hb).2 O O O (by omega) (by omega) (Az O)), fun _ _ hb _ _ => Ops.g O O O (Ops.ld_int (hR9.later hb) O (by omega) O O (Az O)), fun _ _ _ _ _ => Ops.g O O O (Ops.add O O O (by omega) (Az O)), Dr O, Dr O, fun _ _ _ _ _ => Dk O (by exact congrArg Value.bool (decide_eq_false hr)), Dr O, Dr O, Dr O, Dr O, trivial⟩
    intro u w10 hb _
    refine Gec O (Cd.cond_f O ?_)
    refine Gao O (Ops.add O O O (by omega) (Gdn O (tQ ?_)))
    exact ⟨(F + 1, rsU), by show N - (F + 1) < N - F; omega, ⟨O, O, O, O, O, O, trivial⟩, ⟨Nat.lt_succ_of_lt hEF, hF⟩, hrU, (hskip hno).later hb⟩
   have ha : alvP n R B (F : Int) := of_decide_eq_true (hgF ▸ hg)
   refine Gac O ?_
   refine Cd.draw [xS (A22) (N) (N), xI ((F : Int)), xP (ptrAt (A22) ((F : Int)).toNat), xB (gb (alL n R B E F) ((F : Int))), xB (true), xP (ptrAt (A1) 1), xS (A) (N) (cA), xI ((F : Int)), xP (ptrAt (A) ((F : Int)).toNat), xI (gi (R) ((F : Int))), xP (ptrAt (A1) 1), xS (A) (N) (cA), xI ((E : Int)), xP (ptrAt (A) ((E : Int)).toNat), xI (gi (R) ((E : Int))), xI ((gi (R) ((E : Int))) + ((1 : Int))), xB (decide ((gi (R) ((F : Int))) = ((gi (R) ((E : Int))) + ((1 : Int))))), xB (decide ((gi (R) ((F : Int))) = ((gi (R) ((E : Int))) + ((1 : Int))))), xB (true), xI ((E : Int)), xI ((F : Int)), xB (decide ((E : Int) ∈ gl B (F : Int))), xB (decide ((E : Int) ∈ gl B (F : Int)))] (by kernel_rfl) (by kernel_rfl) O (exL O) ?_ ?_
   ·refine ⟨Dr O, Dr O, fun _ _ hb _ _ => Ops.idx ((hS.rdB 0 O).later hb).2 O O O (by omega) (by omega) (Az O), fun _ _ hb _ _ => Ops.ld_bool ((hS.rdB 0 O).later hb) O (by omega) O O (Az O), fun _ _ _ _ _ => Dk O (by exact congrArg Value.bool (hg)), fun _ _ hb _ _ => Ops.g O O O (Ops.fld (h1.below hb) O O O O inferInstance (Az O)), fun _ _ hb _ _ => Ops.g O O O (Ops.ldf_s (h1.below hb) O O O O O (Az O)), Dr O, fun _ _ hb _ _ => Ops.g O O O (Ops.idx (hR9.later hb).2 O O O (by omega) (by omega) (Az O)), fun _ _ hb _ _ => Ops.g O O O (Ops.ld_int (hR9.later hb) O (by omega) O O (Az O)), fun _ _ hb _ _ => Ops.g O O O (Ops.fld (h1.below hb) O O O O inferInstance (Az O)), fun _ _ hb _ _ => Ops.g O O O (Ops.ldf_s (h1.below hb) O O O O O (Az O)), Dr O, fun _ _ hb _ _ => Ops.g O O O (Ops.idx (hR9.later hb).2 O O O (by omega) (by omega) (Az O)), fun _ _ hb _ _ => Ops.g O O O (Ops.ld_int (hR9.later hb) O (by omega) O O (Az O)), fun _ _ _ _ _ => Ops.g O O O (Ops.add O O O (by omega) (Az O)), Dr O, Dr O, fun _ _ _ _ _ => Dk O (by exact congrArg Value.bool (decide_eq_true hr)), Dr O, Dr O, ?_, Dr O, trivial⟩
    intro e1 w1 hb hp hun
    refine Ops.g O O O ?_
    refine Ops.call (isBelow_c A1 A D cA cD n R rs B (E : Int) (F : Int) _ (by rw [hN, hle]; exact Rd.below h1 hb) (by rw [hle]; exact hB9.later hb) (by omega) hrF.1 (by have := hrl F hF; omega)) O O O ?_
    rintro _ w2 ⟨rfl, hst⟩
    subst hst
    refine Ops.n (d0 (by exact O))
   intro u w10 hb _
   have hS10 := hS.later hb
   refine Gec O ?_
   refine Cd.cond_p _ O (fun h4 => ?_) (fun h4 => ?_)
   ·have hyes : alvP n R B (F : Int) ∧ (F : Int) ∈ upsP R B (E : Int) := ⟨ha, hup.2 ⟨by omega, hr, h4⟩⟩
    have hul9 := hul E F
    have hRM : RowsI w10 Au N rsU (upL n R B E F) := by
     have h9 := hS10.sub (show (mat 32 2 Au N N rsU (upL n R B E F)).Sublist _ from (((List.sublist_append_left _ _).cons _).cons _).cons _)
     exact h9.rowsI1 hul9
    have hrE := (hRM.at_ (i := (E : Int)) (by omega) (by omega)).1
    have hrn : (rg rsU (E : Int)).n ≤ 500 := by
     rw [← hrE, upL_at (by omega)]
     unfold upE
     split
     ·exact Nat.zero_le _
     refine Nat.le_trans (List.length_filter_le _ _) ?_
     have := nodup_le_int (N := R.length) (upsP_SA R B (E : Int)).nodup fun x hx => (upsP_mem.1 hx).1
     omega
    have hbU : Rd w10 PU 1 (fun _ => .slice Au N N) := Rd.one (hS10.rd 1 O)
    have hgQ : ∀ A9 : Option Addr, (CkI 2 A9 1 1 [(F : Int)] :: flK A1 PU Au A22 n A D N cA cD (alL n R B E F) rsU (upL n R B E F))[4 + 1 + E]? = some (CkI 2 (rg rsU (E : Int)).a (rg rsU (E : Int)).n (rg rsU (E : Int)).c (gl (upL n R B E F) (E : Int))) := fun A9 => mat_get (t1 := 32) (t2 := 2) (A := Au) (n := N) (c := N) (rs := rsU) (xss := upL n R B E F) (pre := [CkI 2 A9 1 1 [(F : Int)], CkB 4 A22 N N (alL n R B E F), Bx 22 1 PU [.slice Au N N], poB A1 n A N cA D N cD]) (ks := []) (i := E) (by omega) (by omega)
    have hap := fun (A9 : Option Addr) (s : SlV) (xs : List Int) => mat_apP (t1 := 32) (t2 := 2) (A := Au) (n := N) (c := N) (rs := rsU) (xss := upL n R B E F) (ks := []) (pre := [CkI 2 A9 1 1 [(F : Int)], CkB 4 A22 N N (alL n R B E F), Bx 22 1 PU [.slice Au N N], poB A1 n A N cA D N cD]) (i := E) s xs (by omega) (by omega)
    clear hS
    refine Gac O ?_
    refine Cd.drawP [8, 10] [yS Au N N, yI ((E : Int)), yS (Au) (N) (N), yI ((E : Int)), yP (ptrAt (Au) ((E : Int)).toNat), yS ((rg (rsU) ((E : Int))).a) ((rg (rsU) ((E : Int))).n) ((rg (rsU) ((E : Int))).c), yI ((F : Int)), .pr (fun v w' => ∃ A9, v = .slice A9 1 1 ∧ St w w' (CkI 2 A9 1 1 [(F : Int)] :: flK A1 PU Au A22 n A D N cA cD (alL n R B E F) rsU (upL n R B E F))), .pr (fun v w' => ∃ AZ cZ, v = .slice AZ ((rg rsU (E : Int)).n + 1) cZ ∧ St w w' (CkB 4 A22 N N (alL n R B E F) :: Bx 22 1 PU [.slice Au N N] :: poB A1 n A N cA D N cD :: (CkR 32 Au N N rsU :: (rowsCk 2 (rsU.set E ⟨AZ, (rg rsU (E : Int)).n + 1, cZ⟩) ((upL n R B E F).set E (gl (upL n R B E F) (E : Int) ++ [(F : Int)])) ++ [])))), yP (ptrAt Au ((E : Int)).toNat), .pr (fun _ w' => ∃ AZ cZ, St w w' (flK A1 PU Au A22 n A D N cA cD (alL n R B E F) (rsU.set E ⟨AZ, (rg rsU (E : Int)).n + 1, cZ⟩) ((upL n R B E F).set E (gl (upL n R B E F) (E : Int) ++ [(F : Int)]))))] (by kernel_rfl) (by kernel_rfl) (ly (ly (ly (ly (ly (ly (ly (List.forall_mem_cons.2 ⟨Ye.lasts_pr (fun v w w' h hb => by obtain ⟨A9, hv, hT⟩ := h; exact ⟨A9, hv, hT.later hb⟩), (List.forall_mem_cons.2 ⟨Ye.lasts_pr (fun v w w' h hb => by obtain ⟨AZ, cZ, hv, hT⟩ := h; exact ⟨AZ, cZ, hv, hT.later hb⟩), (ly (List.forall_mem_cons.2 ⟨Ye.lasts_pr (fun v w w' h hb => by obtain ⟨AZ, cZ, hT⟩ := h; exact ⟨AZ, cZ, hT.later hb⟩), (fun _ h => by cases h)⟩))⟩)⟩)))))))) ?_ ?_
    ·refine ⟨?_, DrP O, cP fun _ _ hb _ _ _ => Ops.ldf_s (j := 0) (hbU.below hb) (by exact congrArg Value.pointer (ptrAt_zero _).symm) O O O O (AzP O O), DrP O, cP fun _ _ hb _ _ _ => Ops.idx (hRM.top.later hb).2 O O O (by omega) (by omega) (AzP O O), cP fun _ _ hb _ _ _ => Ops.ld_sl (hRM.top.later hb) O (by omega) O O (AzP O O), DrP O, ?_, ?_, ?_, ?_, trivial⟩
     ·intro e1 w1 cc hlo hhi hb0 hp hun hq; show Ops _ _ _ _ _ _ _
      have hX : Rd w1 PU 1 (fun _ => .slice Au N N) := by { have hhi := le_of_hi hhi (b := 1) (by kernel_rfl); rcases (show cc = 0 ∨ cc = 1 by omega) with h | h; { exact Rd.below hbU (hb0 h) }; { subst h; obtain ⟨AZ, cZ, _, hT⟩ := hq 8 _ _ (by kernel_rfl) (by kernel_rfl) (by kernel_rfl) rfl rfl (by kernel_rfl); exact Rd.one (hT.rd 1 rfl) } }
      refine Ops.ldf_s (j := 0) hX (by exact congrArg Value.pointer (ptrAt_zero _).symm) O O O O (Ops.n (p0_ O (by exact O)))
     ·refine cP fun e1 w1 hb hp hun hq => ?_
      refine Ops.bs1I (St.refl _) O O O ?_
      intro A9 w9 hst
      refine Ops.n ?_
      exact AfterP.dn O hst.below ⟨A9, O, (hS10.later hb).call hst⟩
     ·refine cPT fun e1 w1 hb hp hun hq => ?_
      obtain ⟨A9, h78, hT⟩ := (hp 7 _ _ (by kernel_rfl) rfl rfl (by kernel_rfl))
      refine Ops.appI (4 + 1 + E) hT (hgQ A9) (hT.rdI 0 O) O (by exact h78) O (by omega) (by omega) O ?_
      intro AZ cZ wZ hZ
      have hZ := (hap A9 ⟨AZ, (rg rsU (E : Int)).n + 1, cZ⟩ (gl (upL n R B E F) (E : Int) ++ [(F : Int)])) ▸ hZ
      refine Ops.n ?_
      exact AfterU.dn O ⟨AZ, cZ, O, hZ.tail⟩
     ·intro e1 w1 cc hlo hhi hb0 hp hun hq; show Ops _ _ _ _ _ _ _
      have hX : RdR w1 Au N rsU := by { have hhi := le_of_hi hhi (b := 1) (by kernel_rfl); rcases (show cc = 0 ∨ cc = 1 by omega) with h | h; { exact hRM.top.later (hb0 h) }; { subst h; obtain ⟨AZ, cZ, _, hT⟩ := hq 8 _ _ (by kernel_rfl) (by kernel_rfl) (by kernel_rfl) rfl rfl (by kernel_rfl); exact hT.rdR 3 rfl } }
      refine Ops.idx hX.2 O O O (by omega) (by omega) (Ops.n (p0_ O (by exact O)))
     refine dPT 1 fun e1 w1 hp hun hq => ?_
     have hph := hp 8 _ _ (by kernel_rfl) O O (by kernel_rfl)
     obtain ⟨AZ, cZ, h79, hT⟩ := hph
     refine Ops.st_sl (te := 32) (n := N) (c := N) (A := Au) (xs := rsU) 3 hT O O (by exact h79) (by omega) ?_
     intro wY hY
     refine Ops.n ?_
     exact AfterU.st O ⟨AZ, cZ, hY⟩
    intro u w14 _ hu _ _
    obtain ⟨AZ, cZ, hT⟩ := hu 10 _ rfl (by kernel_rfl)
    rw [hpu E F hEN hyes] at hT
    refine Geo O (Ops.idx (hT.rdB 0 O).2 O O O (by omega) (by omega) (Ops.st_bool 0 hT O O O (by omega) ?_))
    intro w15 hS15
    rw [Int.toNat_natCast, hpa E F hEN hyes] at hS15
    refine Gdo O (Ops.add O O O (by omega) (Gdn O (tQ ?_)))
    exact ⟨(F + 1, _), by show N - (F + 1) < N - F; omega, ⟨O, O, O, O, O, O, trivial⟩, ⟨Nat.lt_succ_of_lt hEF, hF⟩, by simp [hrU], hS15⟩
   have hno : ¬ (alvP n R B (F : Int) ∧ (F : Int) ∈ upsP R B (E : Int)) := fun h => h4 (hup.1 h.2).2.2
   refine Gao O (Ops.add O O O (by omega) (Gdn O (tQ ?_)))
   exact ⟨(F + 1, rsU), by show N - (F + 1) < N - F; omega, ⟨O, O, O, O, O, O, trivial⟩, ⟨Nat.lt_succ_of_lt hEF, hF⟩, hrU, (hskip hno).later hb⟩
  have hF : F = N := by omega
  subst hF
  refine Gax O (thenQ_x (Gfo O (Ops.sub O O O (by omega) (Gdn O (tQ ?_)))))
  exact ⟨(E, rsU), by show E < E + 1; omega, ⟨O, O, O, O, O, trivial⟩, by show E ≤ F; omega, hrU, hS⟩
 obtain rfl : E' = 0 := by omega
 refine Gax O (thenQ_x (Gfo O ?_))
 refine Ops.new (z := .slice none 0 0) hS O O ?_
 intro PF w8 hS8
 refine Gdo O (Ops.new (z := .nilFunc) hS8 O O ?_)
 intro PG w9 hS9
 refine Gdo O (Ops.fn4 O O O O O (Ops.st (i := 0) (j := 0) hS9 O (by exact congrArg Value.pointer (ptrAt_zero _).symm) O O (Nat.succ_pos _) ?_))
 intro w10 hS10
 have hS10 := (hS10.nil 2)
 clear hS9 hS8 hS
 refine Gdc O ?_
 refine Cd.loop (α := Nat × Option Addr × Nat) (fun z => [(1, .pointer A1), (4, .int .i64 (N : Int)), (6, .slice A22 N N), (9, .pointer PF), (10, .pointer PG), (11, .slice z.2.1 ((rngI z.1).filter fun e => decide (gi R e = 0) && decide (alvP n R B e)).length z.2.2), (85, .int .i64 (N : Int)), (86, .int .i64 (z.1 : Int))]) (fun z w' => z.1 ≤ N ∧ St w w' (CkI 2 z.2.1 ((rngI z.1).filter fun e => decide (gi R e = 0) && decide (alvP n R B e)).length z.2.2 ((rngI z.1).filter fun e => decide (gi R e = 0) && decide (alvP n R B e)) :: Bx 121 1 PG [.func (.func 140) #[] #[.pointer PF, .pointer A1, .pointer PG, .pointer PU]] :: Bx 22 1 PF [.slice none 0 0] :: flK A1 PU Au A22 n A D N cA cD (alL n R B 0 N) rsU (upL n R B 0 N))) (fun z => N - z.1) (0, none, 0) ⟨O, O, O, O, O, O, O, O, trivial⟩ ⟨Nat.zero_le _, hS10⟩ ?_
 clear hS10
 rintro ⟨j, AF, cF⟩ e w11 ⟨hj, hS⟩
 dsimp only at hj hS ⊢
 have hfl : ((rngI j).filter fun e => decide (gi R e = 0) && decide (alvP n R B e)).length ≤ 500 := by
  refine Nat.le_trans (List.length_filter_le _ _) ?_
  rw [rngI, List.length_map, List.length_range]; omega
 refine Gbc O ?_
 refine Cd.cond_p _ O (fun h3 => ?_) (fun h3 => ?_)
 ·have hjN : j < N := by omega
  have hbj := hbt j hjN
  have hR11 := hS.oldI hR
  have h1 : Rd w11 A1 3 (fun j => [Value.int .i64 (n : Int), .slice A N cA, .slice D N cD].getD j undef) := hS.rd 5 O
  have hA11 : RdB w11 A22 N (alL n R B 0 N) := hS.rdB 3 O
  have hfj := hfin j hjN
  have hskip : ¬ (gi R (j : Int) = 0 ∧ alvP n R B (j : Int)) → ((rngI (j + 1)).filter fun e => decide (gi R e = 0) && decide (alvP n R B e)) = ((rngI j).filter fun e => decide (gi R e = 0) && decide (alvP n R B e)) := fun h => by
   rw [hbj, if_neg h, List.append_nil]
  refine Gao O (Ops.fld h1 O O O O inferInstance (Ops.ldf_s h1 O O O O O (Gdo O (Ops.idx hR11.2 O O O (by omega) (by omega) (Ops.ld_int hR11 O (by omega) O O (Gdo O ?_))))))
  refine Ops.split_p 95 O (fun h4 => ?_) (fun h4 => ?_)
  ·refine Ops.g O O O (Gdo O (Ops.g O O O (Gdo O (Ops.g O O O ?_))))
   refine Ops.idx hA11.2 O O O (by omega) (by omega) (Ops.g O O O (Ops.ld_bool hA11 O (by omega) O O (Gdc O ?_)))
   rw [hfj]
   refine Cd.cond_p _ O (fun h5 => ?_) (fun h5 => ?_)
   ·rw [if_pos ⟨h4, h5⟩] at hbj
    refine Gao O (Ops.bs1I hS O O O ?_)
    intro A9 w12 hS12
    refine Ops.appI 1 hS12 O (hS12.rdI 0 O) O O O (by omega) (by omega) O ?_
    intro AZ cZ w13 hS13
    have hS13 := hS13.tail
    refine Gdo O (Ops.add O O O (by omega) (Gdn O (tQ ?_)))
    refine ⟨(j + 1, AZ, cZ), by show N - (j + 1) < N - j; omega, ⟨O, O, O, O, O, ?_, O, O, trivial⟩, by show j + 1 ≤ N; omega, ?_⟩
    ·show Value.slice _ _ _ = _
     rw [hbj, List.length_append]; rfl
    show St w w13 (CkI _ _ (((rngI (j + 1)).filter _).length) _ ((rngI (j + 1)).filter _) :: _)
    rw [hbj, List.length_append]
    exact hS13
   refine Gao O (Ops.add O O O (by omega) (Gdn O (tQ ?_)))
   refine ⟨(j + 1, AF, cF), by show N - (j + 1) < N - j; omega, ⟨O, O, O, O, O, ?_, O, O, trivial⟩, by show j + 1 ≤ N; omega, ?_⟩
   ·show Value.slice _ _ _ = _
    rw [hskip (fun h => h5 h.2)]
   show St w w11 (CkI _ _ (((rngI (j + 1)).filter _).length) _ ((rngI (j + 1)).filter _) :: _)
   rw [hskip (fun h => h5 h.2)]
   exact hS
  refine Ops.k O O O O O (Ops.k O O O O O (Ops.k O O O O O (Ops.k O O O O O (Gdc O ?_))))
  refine Cd.cond_f O ?_
  refine Gao O (Ops.add O O O (by omega) (Gdn O (tQ ?_)))
  refine ⟨(j + 1, AF, cF), by show N - (j + 1) < N - j; omega, ⟨O, O, O, O, O, ?_, O, O, trivial⟩, by show j + 1 ≤ N; omega, ?_⟩
  ·show Value.slice _ _ _ = _
   rw [hskip (fun h => h4 h.1)]
  show St w w11 (CkI _ _ (((rngI (j + 1)).filter _).length) _ ((rngI (j + 1)).filter _) :: _)
  rw [hskip (fun h => h4 h.1)]
  exact hS
 obtain rfl : j = N := by omega
 rw [hba] at hS hfl ⊢
 generalize hfi : ((botP R).filter fun f => decide (alvP n R B f)) = fi at *
 have hfim : ∀ x ∈ fi, 0 ≤ x ∧ x < (j : Int) := fun x hx => by
  rw [← hfi] at hx
  have := (botP_mem.1 (List.mem_filter.1 hx).1).1
  omega
 have hb5 : Rd w11 PG 1 (fun _ => .func (.func 140) #[] #[.pointer PF, .pointer A1, .pointer PG, .pointer PU]) := Rd.one (hS.rd 1 O)
 have hSG : St w w11 (gwK PF none 0 [] [] A1 n A j cA D j cD PG PU Au j j rsU (upL n R B 0 j) [CkI 2 AF fi.length cF fi, CkB 4 A22 j j (alL n R B 0 j)]) := by
  have h9 := (hS.perm (show List.Perm _ (Bx 22 1 PF [.slice none 0 0] :: (poB A1 n A j cA D j cD :: Bx 121 1 PG [.func (.func 140) #[] #[.pointer PF, .pointer A1, .pointer PG, .pointer PU]] :: Bx 22 1 PU [.slice Au j j] :: (mat 32 2 Au j j rsU (upL n R B 0 j) ++ [CkI 2 AF fi.length cF fi, CkB 4 A22 j j (alL n R B 0 j)]))) from by
   classical
   refine List.perm_iff_count.2 fun z => ?_
   simp only [flK, List.count_append, List.count_cons, List.count_nil]
   omega))
  exact (h9.nil 32).perm (List.Perm.swap _ _ _)
 clear hS
 have hU5 : ∀ e : Nat, e < j → (gl (upL n R B 0 j) (e : Int)).length ≤ 500 ∧ ∀ x ∈ gl (upL n R B 0 j) (e : Int), 0 ≤ x ∧ x < (j : Int) := fun e he => by
  rw [hupf e he]
  refine ⟨Nat.le_trans (List.length_filter_le _ _) ?_, fun x hx => ?_⟩
  ·have := nodup_le_int (N := R.length) (upsP_SA R B (e : Int)).nodup fun x hx => (upsP_mem.1 hx).1
   omega
  have := (upsP_mem.1 (List.mem_filter.1 hx).1).1
  omega
 refine Gax O (thenQ_x (Gfo O ?_))
 refine Ops.ld hb5 (by exact congrArg Value.pointer (ptrAt_zero _).symm) (by decide) O O O ?_
 refine Gdo O ?_
 refine Ops.call (grow_c w n (by omega) PF A1 A D PG PU Au j cA j cD j j rsU (upL n R B 0 j) (hul 0 j) (by omega) hU5 (n - 1) 0 fi.length [] fi none AF 0 cF [CkI 2 AF fi.length cF fi, CkB 4 A22 j j (alL n R B 0 j)] _ none 0 [] [] O O (by omega) hfl hfim (fun _ _ _ _ _ _ => RdI.nil) (fun w' A c rs F h => mem_rdI h) O (Nat.zero_le _) hSG) O O O ?_
 rintro _ w12 ⟨rfl, A', c', rs', hr', hS⟩
 rw [List.nil_append, hgrf] at hr' hS
 have hb1 : Rd w12 PF 1 (fun _ => .slice A' (cap (flgP n R B)).length c') := Rd.one (hS.rd 0 O)
 refine Gdo O (Ops.ldf_s (j := 0) hb1 (by exact congrArg Value.pointer (ptrAt_zero _).symm) O O O O ?_)
 refine Ops.len O O (Gdc O ?_)
 have hcl := cap_len (flgP n R B)
 have hcf := cap_few' (l := flgP n R B)
 refine Cd.cond_p _ O (fun h4 => ?_) (fun h4 => ?_)
 ·have hno : ¬ (flgP n R B).length ≤ 400 := fun h => by have := hcf.2 h; omega
  refine Gar O (ret2_si O O ?_)
  unfold flgL flgK
  rw [if_neg hno, if_neg hno]
  exact AnsSS.none hS
 have hyes : (flgP n R B).length ≤ 400 := hcf.1 (by omega)
 rw [cap_all (by omega)] at hr' hS hb1 ⊢
 refine Gao O (Ops.ldf_s (j := 0) hb1 (by exact congrArg Value.pointer (ptrAt_zero _).symm) O O O O (Gdr O (ret2_si O O ?_)))
 unfold flgL flgK
 rw [if_pos hyes, if_pos hyes]
 exact ⟨A', c', rs', O, hr', St.matNil (pre := []) (hS.sub ((List.sublist_append_left _ _).cons _))⟩
/-
 The reference's flags of a poset: its recursive function, walked.
-/
theorem cap_cap (G X : List (List Int)) : cap (cap G ++ X) = cap (G ++ X) := by
 unfold cap
 by_cases h : G.length ≤ 401
 ·rw [List.take_of_length_le h]
 rw [List.take_append_of_le_length (by rw [List.length_take]; omega), List.take_append_of_le_length (by omega), List.take_take, Nat.min_self]
section
variable (n : Nat) (R : List Int) (B : List (List Int))
def nxT (st : List Int) (m : Nat) : List Int := (rngI m).filter fun e => decide (gi R e = (st.length : Int) ∧ alvP n R B e ∧ (st.length = 0 ∨ gi st ((st.length : Int) - 1) ∈ gl B e))
def exS : Nat → List Int → List (List Int)
 | 0, st => [st]
 | k + 1, st => (nxT n R B st R.length).flatMap fun e => exS k (st ++ [e])
end
section
variable {n : Nat} {R : List Int} {B : List (List Int)}
theorem nxT_next (st : List Int) (m : Nat) : nxT n R B st (m + 1) = if gi R (m : Int) = (st.length : Int) ∧ alvP n R B (m : Int) ∧ (st.length = 0 ∨ gi st ((st.length : Int) - 1) ∈ gl B (m : Int)) then nxT n R B st m ++ [(m : Int)] else nxT n R B st m := by
 have e9 : rngI (m + 1) = rngI m ++ [(m : Int)] := by
  unfold rngI
  rw [List.range_succ, List.map_append]; rfl
 unfold nxT
 rw [e9, List.filter_append]
 by_cases c : gi R (m : Int) = (st.length : Int) ∧ alvP n R B (m : Int) ∧ (st.length = 0 ∨ gi st ((st.length : Int) - 1) ∈ gl B (m : Int))
 ·rw [if_pos c, List.filter_cons_of_pos (by simpa using c)]; rfl
 rw [if_neg c, List.filter_cons_of_neg (by simpa using c)]; simp
theorem exS_ext : ∀ (k : Nat) (st : List Int) (e : Int), 0 < st.length → gi st ((st.length : Int) - 1) = e → (0 ≤ e ∧ e < R.length) → gi R e = (st.length : Int) - 1 → st.length + k = n → exS n R B k st = (extP R B k e).map (st ++ ·)
 | 0, st, e, _, _, _, _, _ => by simp [exS, extP]
 | k + 1, st, e, h0, hl, he, hr, hk => by
  rw [exS, ups_prune (n := n) (by omega) (by omega), List.map_flatMap]
  have hn : nxT n R B st R.length = (upsP R B e).filter fun f => decide (alvP n R B f) := by
   refine SA.eq (List.Pairwise.filter _ (rngI_SA _)) (List.Pairwise.filter _ (upsP_SA _ _ _)) fun y => ?_
   unfold nxT
   rw [List.mem_filter, List.mem_filter, rngI_mem, upsP_mem, decide_eq_true_eq, decide_eq_true_eq, hl]
   constructor
   ·rintro ⟨h1, h2, h3, h4⟩
    exact ⟨⟨h1, by omega, h4.resolve_left (by omega)⟩, h3⟩
   ·rintro ⟨⟨h1, h2, h4⟩, h3⟩
    exact ⟨h1, by omega, h3, .inr h4⟩
  rw [hn]
  refine flat_cg fun f hf => ?_
  have hf := upsP_mem.1 (List.mem_filter.1 hf).1
  have hlen : (st ++ [f]).length = st.length + 1 := by simp
  rw [exS_ext k (st ++ [f]) f (by omega) (by
   rw [hlen, show ((st.length + 1 : Nat) : Int) - 1 = (st.length : Int) by omega, gi_mem (by omega)]; simp) hf.1 (by rw [hlen]; omega) (by omega), List.map_map]
  refine List.map_congr_left fun y _ => ?_
  show (st ++ [f]) ++ y = st ++ (f :: y)
  rw [List.append_assoc]; rfl
theorem exS_all (hn : 1 ≤ n) : exS n R B n [] = flgP n R B := by
 obtain ⟨k, rfl⟩ : ∃ k, n = k + 1 := ⟨n - 1, by omega⟩
 rw [bot_prune, exS]
 have hb : nxT (k + 1) R B [] R.length = (botP R).filter fun f => decide (alvP (k + 1) R B f) := by
  refine SA.eq (List.Pairwise.filter _ (rngI_SA _)) (List.Pairwise.filter _ (List.Pairwise.filter _ (rngI_SA _))) fun y => ?_
  unfold nxT
  rw [List.mem_filter, List.mem_filter, rngI_mem, botP_mem, decide_eq_true_eq, decide_eq_true_eq]
  exact ⟨fun h => ⟨⟨h.1, h.2.1⟩, h.2.2.1⟩, fun h => ⟨h.1.1, h.1.2, h.2, .inl O⟩⟩
 rw [hb]
 refine flat_cg fun f hf => ?_
 have hf := botP_mem.1 (List.mem_filter.1 hf).1
 rw [List.nil_append, exS_ext k [f] f (by simp) (by simp [gi]) hf.1 (by rw [hf.2]; rfl) (by simp; omega)]
 rfl
end
theorem post_ext {Q : Post} {e : Env} {w : World} {F : List (Nat × Value)} (hM : Mt e F) (h : Q .normal (ext e F) w) : Q .normal e w := by rwa [ext_of_mt hM] at h
theorem mem_rdB {w0 w : World} {ks : List Ck} {t : TypeId} {A : Option Addr} {n c : Nat} {xs : List Bool} (h : St w0 w ks) (hm : CkB t A n c xs ∈ ks) : RdB w A n xs := by
 obtain ⟨i, hi, e⟩ := List.mem_iff_getElem.1 hm
 exact h.rdB i (by rw [List.getElem?_eq_getElem hi, e])
theorem perm_j {α : Type} (s m : α) (X K : List α) : (s :: m :: (X ++ K)).Perm (m :: ((X ++ [s]) ++ K)) := by
 classical
 refine List.perm_iff_count.2 fun z => ?_
 simp only [List.count_append, List.count_cons, List.count_nil]
 omega
theorem perm_k {α : Type} (p s : α) (X K : List α) : (p :: s :: (X ++ K)).Perm (X ++ (p :: s :: K)) := by
 classical
 refine List.perm_iff_count.2 fun z => ?_
 simp only [List.count_append, List.count_cons]
 omega
set_option maxHeartbeats 4000000 in
theorem l03Extend_c (w0 : World) (n : Nat) (AR AD : Option Addr) (cR cD : Nat) (R : List Int) (rsB : List SlV) (B : List (List Int)) (N : Nat) (hN : R.length = N) (hR : RdI w0 AR N R) (hB : RowsI w0 AD N rsB B) (hP : PosP n R B) (Aa : Option Addr) (La : List Bool) (hLa : MkB N La (fun x => alvP n R B (x : Int))) :
    ∀ (k r : Nat) (st : List Int) (As : Option Addr) (cs : Nat) (ks1 : List Ck) (w : World) (A : Option Addr) (c : Nat) (rs : List SlV) (F : List (List Int)), r + k = n → st.length = r → (∀ x ∈ st, 0 ≤ x ∧ x < (N : Int)) → CkB 4 Aa N N La ∈ ks1 → rs.length = F.length → F.length ≤ 401 →
      St w0 w (CkI 2 As r cs st :: (mat 32 2 A F.length c rs F ++ ks1)) →
      Ret Tryz.prog 201 [.agg #[.int .i64 n, .slice AR N cR, .slice AD N cD], .slice Aa N N, .slice As r cs, .slice A F.length c] w (fun v w' => ∃ A' c' rs', v = .slice A' (cap (F ++ exS n R B k st)).length c' ∧ rs'.length = (cap (F ++ exS n R B k st)).length ∧ St w0 w' (mat 32 2 A' (cap (F ++ exS n R B k st)).length c' rs' (cap (F ++ exS n R B k st)) ++ ks1)) := by
  have hn := hP.n1
  have hbg := hP.big
  have hle := hP.len
  have hrow := fun (f : Nat) (h : f < R.length) => hP.at_ (e := (f : Int)) (by omega) (by omega)
  have hrl : ∀ f : Nat, f < R.length → (gl B (f : Int)).length ≤ 500 := fun f h => by
    have := nodup_le_int (N := R.length) (hrow f h).1.nodup fun x hx => by have := ((hrow f h).2.1 x hx).1; omega
    omega
  have hri := fun (x : Nat) (h : x < R.length) => hP.ri (e := (x : Int)) (by omega) (by omega)
  rw [hN] at hbg hle hrl hri
  have hLl := hLa.1
  intro k
  induction k with
  | zero =>
    intro r st As cs ks1 w A c rs F hk hst hsr hAl hrs hF hS
    refine Ret.of_cd Tryz.func201 O Tryz.ntmps201 O (post1 O) (Gbo O (Ops.box3T hS O O ?_))
    intro A4 w1 hS1
    refine Gdo O (Ops.len O O (Gdc O ?_))
    refine Cd.cond_p _ O (fun h1 => ?_) (fun h1 => ?_)
    · have hc : cap (F ++ exS n R B 0 st) = F := by
        have h9 : cap F = F := cap_all hF
        rw [cap_full (l := F) _ (by rw [h9]; omega), h9]
      refine Gar O (ret1_s O ?_)
      rw [hc]
      exact ⟨A, c, rs, O, hrs, hS1.tail.tail⟩
    refine Gao O (Ops.len O O (Gdo O ?_))
    refine Ops.fld (hS1.rd 0 O) O O O O inferInstance (Ops.ldf_i (j := 0) (hS1.rd 0 O) (by exact congrArg Value.pointer O) O O O O (Gdc O (Cd.cond_pt O (by omega) ?_)))
    have hc : cap (F ++ exS n R B 0 st) = F ++ [st] := cap_all (by rw [exS, List.length_append]; show F.length + 1 ≤ 401; omega)
    have hS1 := hS1.tail
    refine Gao O (Ops.bs1R hS1 O O O ?_)
    intro A9 w2 hS2
    refine Ops.appR 2 hS2 O (hS2.rdR 0 O) O O O (by omega) (by omega) O ?_
    intro AZ cZ w3 hS3
    have hS3 := hS3.tail
    refine Gdr O (ret1_s O ?_)
    rw [hc]
    refine ⟨AZ, cZ, rs ++ [⟨As, r, cs⟩], by rw [List.length_append]; rfl, by simp [hrs], ?_⟩
    have hS4 : St w0 w3 (CkI 2 As r cs st :: CkR 32 AZ (F.length + 1) cZ (rs ++ [⟨As, r, cs⟩]) :: (rowsCk 2 rs F ++ ks1)) := hS3
    have hS4 := hS4.perm (perm_j _ _ _ _)
    rw [← rowsCk_snoc hrs] at hS4
    rw [List.length_append]
    exact hS4
  | succ k ih =>
    intro r st As cs ks1 w A c rs F hk hst hsr hAl hrs hF hS
    refine Ret.of_cd Tryz.func201 O Tryz.ntmps201 O (post1 O) (Gbo O (Ops.box3T hS O O ?_))
    intro A4 w1 hS1
    refine Gdo O (Ops.len O O (Gdc O ?_))
    refine Cd.cond_p _ O (fun h1 => ?_) (fun h1 => ?_)
    · have hc : cap (F ++ exS n R B (k + 1) st) = F := by
        have h9 : cap F = F := cap_all hF
        rw [cap_full (l := F) _ (by rw [h9]; omega), h9]
      refine Gar O (ret1_s O ?_)
      rw [hc]
      exact ⟨A, c, rs, O, hrs, hS1.tail.tail⟩
    refine Gao O (Ops.len O O (Gdo O ?_))
    refine Ops.fld (hS1.rd 0 O) O O O O inferInstance (Ops.ldf_i (j := 0) (hS1.rd 0 O) (by exact congrArg Value.pointer O) O O O O (Gdc O (Cd.cond_pf O (by omega) ?_)))
    have hS1 : St w0 w1 (poB A4 (n : Int) AR N cR AD N cD :: CkI 2 As r cs st :: (mat 32 2 A F.length c rs F ++ ks1)) := hS1
    have hS2 := hS1.perm (perm_k _ _ _ _)
    have hF0 : cap (F ++ (nxT n R B st 0).flatMap fun e => exS n R B k (st ++ [e])) = F := by
      show cap (F ++ []) = F
      rw [List.append_nil, cap_all hF]
    clear hS1 hS
    refine Gac O ?_
    refine Cd.loop (α := Nat × Option Addr × Nat × List SlV) (fun z => [(1, .slice Aa N N), (2, .slice As r cs), (3, .slice z.2.1 (cap (F ++ (nxT n R B st z.1).flatMap fun e => exS n R B k (st ++ [e]))).length z.2.2.1), (4, .pointer A4), (9, .int .i64 (r : Int)), (10, .int .i64 (z.1 : Int))])
      (fun z w' => z.1 ≤ N ∧ z.2.2.2.length = (cap (F ++ (nxT n R B st z.1).flatMap fun e => exS n R B k (st ++ [e]))).length ∧ St w0 w' (mat 32 2 z.2.1 (cap (F ++ (nxT n R B st z.1).flatMap fun e => exS n R B k (st ++ [e]))).length z.2.2.1 z.2.2.2 (cap (F ++ (nxT n R B st z.1).flatMap fun e => exS n R B k (st ++ [e]))) ++ (poB A4 (n : Int) AR N cR AD N cD :: CkI 2 As r cs st :: ks1))) (fun z => N - z.1) (0, A, c, rs) ⟨rfl, rfl, congrArg (fun m : List (List Int) => Value.slice A m.length c) hF0.symm, rfl, rfl, rfl, trivial⟩ ⟨Nat.zero_le _, by show rs.length = _; rw [hF0]; exact hrs, by show St w0 w1 (mat _ _ A (cap _).length c rs (cap _) ++ _); rw [hF0]; exact hS2⟩ ?_
    clear hS2 hrs
    rintro ⟨q, A, c, rs⟩ e w2 ⟨hq, hrs, hS⟩
    dsimp only at hq hrs hS ⊢
    have hnx := nxT_next (n := n) (R := R) (B := B) st q
    have hcl := cap_len (F ++ (nxT n R B st q).flatMap fun e => exS n R B k (st ++ [e]))
    have hcc := cap_cap (F ++ (nxT n R B st q).flatMap fun e => exS n R B k (st ++ [e]))
    generalize hG : (F ++ (nxT n R B st q).flatMap fun e => exS n R B k (st ++ [e])) = G at *
    have hbx : ∀ {w' : World} {A : Option Addr} {c : Nat} {rs : List SlV} {F : List (List Int)}, St w0 w' (mat 32 2 A F.length c rs F ++ (poB A4 (n : Int) AR N cR AD N cD :: CkI 2 As r cs st :: ks1)) → Rd w' A4 3 (fun q => [Value.int .i64 (n : Int), .slice AR N cR, .slice AD N cD].getD q undef) := fun h => (h.sub (List.sublist_append_right _ _)).rd 0 O
    have hbs : ∀ {w' : World} {A : Option Addr} {c : Nat} {rs : List SlV} {F : List (List Int)}, St w0 w' (mat 32 2 A F.length c rs F ++ (poB A4 (n : Int) AR N cR AD N cD :: CkI 2 As r cs st :: ks1)) → RdI w' As r st := fun h => (h.sub (List.sublist_append_right _ _)).rdI 1 O
    have hba : ∀ {w' : World} {A : Option Addr} {c : Nat} {rs : List SlV} {F : List (List Int)}, St w0 w' (mat 32 2 A F.length c rs F ++ (poB A4 (n : Int) AR N cR AD N cD :: CkI 2 As r cs st :: ks1)) → RdB w' Aa N La := fun h => mem_rdB h (List.mem_append_right _ (List.mem_cons_of_mem _ (List.mem_cons_of_mem _ hAl)))
    have h1x := hbx hS
    refine Gbo O (Ops.fld h1x O O O O inferInstance (Ops.ldf_s (j := 1) h1x (by exact congrArg Value.pointer O) O O O O ?_))
    refine Ops.len O O (Gdc O ?_)
    refine Cd.cond_p _ O (fun h3 => ?_) (fun h3 => ?_)
    · have hqN : q < N := by omega
      have hR2 := hS.oldI hR
      have hB2 := hS.oldRows hB
      have hst2 := hbs hS
      have hAa := hba hS
      have hgq := hLa.2 q hqN
      have hriq := hri q hqN
      have hrlq := hrl q (by omega)
      have hroq := hB2.at_ (i := (q : Int)) (by omega) (by omega)
      have hrn := hroq.1
      have hskip : ¬ (gi R (q : Int) = (st.length : Int) ∧ alvP n R B (q : Int) ∧ (st.length = 0 ∨ gi st ((st.length : Int) - 1) ∈ gl B (q : Int))) → F ++ ((nxT n R B st (q + 1)).flatMap fun e => exS n R B k (st ++ [e])) = G := fun h => by
        rw [hnx, if_neg h]; exact hG
      have hcase : ¬ gi R (q : Int) = (r : Int) ∨ (gi R (q : Int) = (r : Int) ∧ gb La (q : Int) = false) ∨ (gi R (q : Int) = (r : Int) ∧ gb La (q : Int) = true ∧ (r : Int) = 0) ∨ (gi R (q : Int) = (r : Int) ∧ gb La (q : Int) = true ∧ ¬ (r : Int) = 0) := by
        by_cases a : gi R (q : Int) = (r : Int)
        · cases gb La (q : Int)
          · exact .inr (.inl ⟨a, O⟩)
          · by_cases b : (r : Int) = 0
            · exact .inr (.inr (.inl ⟨a, O, b⟩))
            · exact .inr (.inr (.inr ⟨a, O, b⟩))
        · exact .inl a
      rcases hcase with a1 | ⟨a1, a2⟩ | ⟨a1, a2, a3⟩ | ⟨a1, a2, a3⟩
      · --dup 4
        have hsk := hskip (fun h => a1 (by rw [h.1, hst]))
        refine Gac O ?_
        refine Cd.draw [xP (ptrAt (A4) 1), xS (AR) (N) (cR), xI ((q : Int)), xP (ptrAt (AR) ((q : Int)).toNat), xI (gi (R) ((q : Int))), xI ((r : Int)), xB (decide ((gi (R) ((q : Int))) = ((r : Int)))), xB (false), xU, xU, xU, xU, xB (false), xB (false), xU, xU, xU, xU, xU, xU, xU, xU, xU, xU, xU, xU, xU, xU, xU, xB (false)] (by kernel_rfl) (by kernel_rfl) O (exL O) ?_ ?_
        · exact ⟨fun _ _ hb _ _ => Ops.fld (h1x.below hb) O O O O inferInstance (Az O), fun _ _ hb _ _ => Ops.ldf_s (h1x.below hb) O O O O O (Az O), Dr O, fun _ _ hb _ _ => Ops.idx (hR2.later hb).2 O O O (by omega) (by omega) (Az O), fun _ _ hb _ _ => Ops.ld_int (hR2.later hb) O (by omega) O O (Az O), Dr O, Dr O, fun _ _ _ _ _ => Dk O (by exact congrArg Value.bool (decide_eq_false a1)), Dr O, Dr O, Dr O, Dr O, Dr O, fun _ _ _ _ _ => Dk O (by exact congrArg Value.bool (O)), Dr O, Dr O, Dr O, Dr O, Dr O, Dr O, Dr O, Dr O, Dr O, Dr O, Dr O, Dr O, Dr O, Dr O, Dr O, Dr O, trivial⟩
        intro u w3 hb3 _
        refine Gec O (Cd.cond_f O ?_)
        refine Gao O (Ops.add O O O (by omega) (Gdn O (tQ ?_)))
        exact ⟨(q + 1, A, c, rs), by show N - (q + 1) < N - q; omega, ⟨O, O, congrArg (fun m : List (List Int) => Value.slice A (cap m).length c) hsk.symm, O, O, O, trivial⟩, by show q + 1 ≤ N; omega, by show rs.length = (cap _).length; rw [hsk]; exact hrs, by show St w0 w3 (mat _ _ A (cap _).length c rs (cap _) ++ _); rw [hsk]; exact hS.later hb3⟩
      · have hsk := hskip (fun h => by have := hgq.2 h.2.1; rw [a2] at this; cases this)
        refine Gac O ?_
        refine Cd.draw [xP (ptrAt (A4) 1), xS (AR) (N) (cR), xI ((q : Int)), xP (ptrAt (AR) ((q : Int)).toNat), xI (gi (R) ((q : Int))), xI ((r : Int)), xB (decide ((gi (R) ((q : Int))) = ((r : Int)))), xB (true), xS (Aa) (N) (N), xI ((q : Int)), xP (ptrAt (Aa) ((q : Int)).toNat), xB (gb (La) ((q : Int))), xB (gb (La) ((q : Int))), xB (false), xU, xU, xU, xU, xU, xU, xU, xU, xU, xU, xU, xU, xU, xU, xU, xB (false)] (by kernel_rfl) (by kernel_rfl) O (exL O) ?_ ?_
        · exact ⟨fun _ _ hb _ _ => Ops.fld (h1x.below hb) O O O O inferInstance (Az O), fun _ _ hb _ _ => Ops.ldf_s (h1x.below hb) O O O O O (Az O), Dr O, fun _ _ hb _ _ => Ops.idx (hR2.later hb).2 O O O (by omega) (by omega) (Az O), fun _ _ hb _ _ => Ops.ld_int (hR2.later hb) O (by omega) O O (Az O), Dr O, Dr O, fun _ _ _ _ _ => Dk O (by exact congrArg Value.bool (decide_eq_true a1)), Dr O, Dr O, fun _ _ hb _ _ => Ops.g O O O (Ops.idx (hAa.later hb).2 O O O (by omega) (by omega) (Az O)), fun _ _ hb _ _ => Ops.g O O O (Ops.ld_bool (hAa.later hb) O (by omega) O O (Az O)), Dr O, fun _ _ _ _ _ => Dk O (by exact congrArg Value.bool (a2)), Dr O, Dr O, Dr O, Dr O, Dr O, Dr O, Dr O, Dr O, Dr O, Dr O, Dr O, Dr O, Dr O, Dr O, Dr O, Dr O, trivial⟩
        intro u w3 hb3 _
        refine Gec O (Cd.cond_f O ?_)
        refine Gao O (Ops.add O O O (by omega) (Gdn O (tQ ?_)))
        exact ⟨(q + 1, A, c, rs), by show N - (q + 1) < N - q; omega, ⟨O, O, congrArg (fun m : List (List Int) => Value.slice A (cap m).length c) hsk.symm, O, O, O, trivial⟩, by show q + 1 ≤ N; omega, by show rs.length = (cap _).length; rw [hsk]; exact hrs, by show St w0 w3 (mat _ _ A (cap _).length c rs (cap _) ++ _); rw [hsk]; exact hS.later hb3⟩
      · have hyes : gi R (q : Int) = (st.length : Int) ∧ alvP n R B (q : Int) ∧ (st.length = 0 ∨ gi st ((st.length : Int) - 1) ∈ gl B (q : Int)) := ⟨by omega, hgq.1 a2, .inl (by omega)⟩
        refine Gac O ?_
        refine Cd.draw [xP (ptrAt (A4) 1), xS (AR) (N) (cR), xI ((q : Int)), xP (ptrAt (AR) ((q : Int)).toNat), xI (gi (R) ((q : Int))), xI ((r : Int)), xB (decide ((gi (R) ((q : Int))) = ((r : Int)))), xB (true), xS (Aa) (N) (N), xI ((q : Int)), xP (ptrAt (Aa) ((q : Int)).toNat), xB (gb (La) ((q : Int))), xB (gb (La) ((q : Int))), xB (true), xI ((r : Int)), xB (decide (((r : Int)) = ((0 : Int)))), xB (true), xU, xU, xU, xU, xU, xU, xU, xU, xU, xU, xU, xB (true), xB (true)] (by kernel_rfl) (by kernel_rfl) O (exL O) ?_ ?_
        · exact ⟨fun _ _ hb _ _ => Ops.fld (h1x.below hb) O O O O inferInstance (Az O), fun _ _ hb _ _ => Ops.ldf_s (h1x.below hb) O O O O O (Az O), Dr O, fun _ _ hb _ _ => Ops.idx (hR2.later hb).2 O O O (by omega) (by omega) (Az O), fun _ _ hb _ _ => Ops.ld_int (hR2.later hb) O (by omega) O O (Az O), Dr O, Dr O, fun _ _ _ _ _ => Dk O (by exact congrArg Value.bool (decide_eq_true a1)), Dr O, Dr O, fun _ _ hb _ _ => Ops.g O O O (Ops.idx (hAa.later hb).2 O O O (by omega) (by omega) (Az O)), fun _ _ hb _ _ => Ops.g O O O (Ops.ld_bool (hAa.later hb) O (by omega) O O (Az O)), Dr O, fun _ _ _ _ _ => Dk O (by exact congrArg Value.bool (a2)), Dr O, Dr O, fun _ _ _ _ _ => Dk O (by exact congrArg Value.bool (decide_eq_true a3)), Dr O, Dr O, Dr O, Dr O, Dr O, Dr O, Dr O, Dr O, Dr O, Dr O, Dr O, Dr O, Dr O, trivial⟩
        intro u w3 hb3 _
        have hS := hS.later hb3
        refine Gec O (Cd.cond_t O ?_)
        have hnx2 := hnx
        rw [if_pos hyes] at hnx2
        have hGn : F ++ ((nxT n R B st (q + 1)).flatMap fun e => exS n R B k (st ++ [e])) = G ++ exS n R B k (st ++ [(q : Int)]) := by
          rw [hnx2, List.flatMap_append, ← List.append_assoc, hG]; simp
        have hccq := hcc (exS n R B k (st ++ [(q : Int)]))
        have hsr2 : ∀ x ∈ st ++ [(q : Int)], 0 ≤ x ∧ x < (N : Int) := fun x hx => by
          rcases List.mem_append.1 hx with h | h
          · exact hsr x h
          · obtain rfl := List.mem_singleton.1 h; omega
        generalize hH : cap G = H at *
        refine Cd.drawP [6, 8] [.ex (.agg #[.int .i64 (n : Int), .slice AR N cR, .slice AD N cD]), yS (Aa) (N) (N), yS (As) (r) (cs), .pr (fun v w' => ∃ A9 c9, v = .slice A9 r c9 ∧ St w0 w' (CkI 2 A9 r c9 st :: (mat 32 2 A H.length c rs H ++ (poB A4 (n : Int) AR N cR AD N cD :: CkI 2 As r cs st :: ks1)))), yI ((q : Int)), .pr (fun v w' => ∃ A9, v = .slice A9 1 1 ∧ RdI w' A9 1 [(q : Int)]), .pr (fun v w' => ∃ AZ cZ, v = .slice AZ (r + 1) cZ ∧ St w0 w' (CkI 2 AZ (r + 1) cZ (st ++ [(q : Int)]) :: (mat 32 2 A H.length c rs H ++ (poB A4 (n : Int) AR N cR AD N cD :: CkI 2 As r cs st :: ks1)))), yS (A) (H.length) (c), .pr (fun v w' => ∃ A' c' rs', v = .slice A' (cap (G ++ exS n R B k (st ++ [(q : Int)]))).length c' ∧ rs'.length = (cap (G ++ exS n R B k (st ++ [(q : Int)]))).length ∧ St w0 w' (mat 32 2 A' (cap (G ++ exS n R B k (st ++ [(q : Int)]))).length c' rs' (cap (G ++ exS n R B k (st ++ [(q : Int)]))) ++ (poB A4 (n : Int) AR N cR AD N cD :: CkI 2 As r cs st :: ks1))), .pr (fun v w' => ∃ A' c' rs', v = .slice A' (cap (G ++ exS n R B k (st ++ [(q : Int)]))).length c' ∧ rs'.length = (cap (G ++ exS n R B k (st ++ [(q : Int)]))).length ∧ St w0 w' (mat 32 2 A' (cap (G ++ exS n R B k (st ++ [(q : Int)]))).length c' rs' (cap (G ++ exS n R B k (st ++ [(q : Int)]))) ++ (poB A4 (n : Int) AR N cR AD N cD :: CkI 2 As r cs st :: ks1)))] (by kernel_rfl) (by kernel_rfl) (ly (ly (ly (List.forall_mem_cons.2 ⟨Ye.lasts_pr (fun v w w' h hb => by obtain ⟨A9, c9, hv, hT⟩ := h; exact ⟨A9, c9, hv, hT.later hb⟩), (ly (List.forall_mem_cons.2 ⟨Ye.lasts_pr (fun v w w' h hb => by obtain ⟨A9, hv, hT⟩ := h; exact ⟨A9, hv, hT.later hb⟩), (List.forall_mem_cons.2 ⟨Ye.lasts_pr (fun v w w' h hb => by obtain ⟨AZ, cZ, hv, hT⟩ := h; exact ⟨AZ, cZ, hv, hT.later hb⟩), (ly (List.forall_mem_cons.2 ⟨Ye.lasts_pr (fun v w w' h hb => by obtain ⟨A', c', rs', hv, hr', hT⟩ := h; exact ⟨A', c', rs', hv, hr', hT.later hb⟩), (List.forall_mem_cons.2 ⟨Ye.lasts_pr (fun v w w' h hb => by obtain ⟨A', c', rs', hv, hr', hT⟩ := h; exact ⟨A', c', rs', hv, hr', hT.later hb⟩), (fun _ h => by cases h)⟩)⟩))⟩)⟩))⟩)))) ?_ ?_
        · refine ⟨?_, DrP O, DrP O, ?_, DrP O, ?_, ?_, ?_, ?_, ?_, trivial⟩
          · intro e1 w1 cc hlo hhi hb0 hp hun hq
            show Ops _ _ _ _ _ _ _
            have hX : Rd w1 A4 3 (fun q => [Value.int .i64 (n : Int), .slice AR N cR, .slice AD N cD].getD q undef) := by { have hhi := le_of_hi hhi (b := 1) (by kernel_rfl); rcases (show cc = 0 ∨ cc = 1 by omega) with h | h; { exact Rd.below (hbx hS) (hb0 h) }; { subst h; obtain ⟨AZ, cZ, _, hT⟩ := hq 6 _ _ (by kernel_rfl) (by kernel_rfl) (by kernel_rfl) rfl rfl (by kernel_rfl); exact hbx hT.tail } }
            refine Ops.ld_agg 2 hX O O O (Ops.n (p0_ O (by exact O)))
          · refine cP fun e1 w1 hb hp hun hq => ?_
            refine Ops.call (l01Own_c As r cs st _ (hbs (hS.later hb)) (by omega)) O O O ?_
            rintro _ w9 ⟨A9, c9, rfl, hst9⟩
            refine Ops.n ?_
            exact AfterP.dn O hst9.below ⟨A9, c9, O, (hS.later hb).call hst9⟩
          · intro e1 w1 cc hlo hhi hb0 hp hun hq
            show Ops _ _ _ _ _ _ _
            refine Ops.bs1I (St.refl _) O O O ?_
            intro A9 w9 hst9
            refine Ops.n ?_
            exact AfterP.dn O hst9.below ⟨A9, O, hst9.rdI 0 O⟩
          · refine cPT fun e1 w1 hb hp hun hq => ?_
            obtain ⟨A8, c8, h65, hT⟩ := (hp 3 _ _ (by kernel_rfl) rfl rfl (by kernel_rfl))
            obtain ⟨A9, h67, hT9⟩ := (hp 5 _ _ (by kernel_rfl) rfl rfl (by kernel_rfl))
            refine Ops.appI 0 hT O hT9 (by exact h65) (by exact h67) O (by omega) (by omega) O ?_
            intro AZ cZ wZ hZ
            refine Ops.n ?_
            exact AfterU.dn O ⟨AZ, cZ, O, hZ⟩
          · intro e1 w1 cc hlo hhi hb0 hp hun hq
            show Ops _ _ _ _ _ _ _
            refine Ops.ms O (by exact hun 9 _ O (by kernel_rfl)) O (Ops.n (p0_ O (by exact O)))
          · refine dPT 1 fun e1 w1 hp hun hq => ?_
            have hph := hp 6 _ _ (by kernel_rfl) O O (by kernel_rfl)
            obtain ⟨AZ, cZ, h68, hT⟩ := (hp 6 _ _ (by kernel_rfl) rfl rfl (by kernel_rfl))
            refine Ops.call (ih (r + 1) (st ++ [(q : Int)]) AZ cZ (poB A4 (n : Int) AR N cR AD N cD :: CkI 2 As r cs st :: ks1) _ A c rs H (by omega) (by rw [List.length_append, hst]; rfl) hsr2 (List.mem_cons_of_mem _ (List.mem_cons_of_mem _ hAl)) hrs (by omega) hT) O (by exact congrArg (fun v => [Value.agg #[.int .i64 (n : Int), .slice AR N cR, .slice AD N cD], .slice Aa N N, v, .slice A H.length c]) h68) O ?_
            rintro _ w9 ⟨A', c', rs', rfl, hr', hT'⟩
            rw [hccq] at hr' hT' ⊢
            refine Ops.n ?_
            exact AfterU.dn O ⟨A', c', rs', O, hr', hT'⟩
          · refine dP 2 fun e1 w1 hp hun hq => ?_
            have hph := hp 8 _ _ (by kernel_rfl) O O (by kernel_rfl)
            obtain ⟨A', c', rs', h70, hr', hT⟩ := (hp 8 _ _ (by kernel_rfl) rfl rfl (by kernel_rfl))
            refine Ops.ms O (by exact h70) O (Ops.n ?_)
            exact AfterP.dn O (Below.refl _ _) ⟨A', c', rs', O, hr', hT⟩
        intro u4 w4 _ hu4 _ _
        obtain ⟨A', c', rs', hv3, hr', hT⟩ := hu4 9 _ rfl (by kernel_rfl)
        rw [← hGn] at hv3 hr' hT
        refine post_ext (F := [(1, .slice Aa N N), (2, .slice As r cs), (3, .slice A' (cap (F ++ ((nxT n R B st (q + 1)).flatMap fun e => exS n R B k (st ++ [e])))).length c'), (4, .pointer A4), (9, .int .i64 (r : Int)), (10, .int .i64 (q : Int))]) ⟨O, O, hv3, O, O, O, trivial⟩ ?_
        refine Geo O (Ops.add O O O (by omega) (Gdn O (tQ ?_)))
        exact ⟨(q + 1, A', c', rs'), by show N - (q + 1) < N - q; omega, ⟨O, O, O, O, O, O, trivial⟩, by show q + 1 ≤ N; omega, hr', hT⟩
      · refine Gac O ?_
        refine Cd.draw [xP (ptrAt (A4) 1), xS (AR) (N) (cR), xI ((q : Int)), xP (ptrAt (AR) ((q : Int)).toNat), xI (gi (R) ((q : Int))), xI ((r : Int)), xB (decide ((gi (R) ((q : Int))) = ((r : Int)))), xB (true), xS (Aa) (N) (N), xI ((q : Int)), xP (ptrAt (Aa) ((q : Int)).toNat), xB (gb (La) ((q : Int))), xB (gb (La) ((q : Int))), xB (true), xI ((r : Int)), xB (decide (((r : Int)) = ((0 : Int)))), xB (false), xP (ptrAt (A4) 2), xS (AD) (N) (cD), xI ((q : Int)), xP (ptrAt (AD) ((q : Int)).toNat), xS ((rg (rsB) ((q : Int))).a) ((rg (rsB) ((q : Int))).n) ((rg (rsB) ((q : Int))).c), xS (As) (r) (cs), xI ((r : Int)), xI (((r : Int)) - ((1 : Int))), xP (ptrAt (As) (((r : Int)) - ((1 : Int))).toNat), xI (gi (st) (((r : Int)) - ((1 : Int)))), xB (decide (gi st ((r : Int) - 1) ∈ gl B (q : Int))), xB (decide (gi st ((r : Int) - 1) ∈ gl B (q : Int))), xB (decide (gi st ((r : Int) - 1) ∈ gl B (q : Int)))] (by kernel_rfl) (by kernel_rfl) O (exL O) ?_ ?_
        · refine ⟨fun _ _ hb _ _ => Ops.fld (h1x.below hb) O O O O inferInstance (Az O), fun _ _ hb _ _ => Ops.ldf_s (h1x.below hb) O O O O O (Az O), Dr O, fun _ _ hb _ _ => Ops.idx (hR2.later hb).2 O O O (by omega) (by omega) (Az O), fun _ _ hb _ _ => Ops.ld_int (hR2.later hb) O (by omega) O O (Az O), Dr O, Dr O, fun _ _ _ _ _ => Dk O (by exact congrArg Value.bool (decide_eq_true a1)), Dr O, Dr O, fun _ _ hb _ _ => Ops.g O O O (Ops.idx (hAa.later hb).2 O O O (by omega) (by omega) (Az O)), fun _ _ hb _ _ => Ops.g O O O (Ops.ld_bool (hAa.later hb) O (by omega) O O (Az O)), Dr O, fun _ _ _ _ _ => Dk O (by exact congrArg Value.bool (a2)), Dr O, Dr O, fun _ _ _ _ _ => Dk O (by exact congrArg Value.bool (decide_eq_false a3)), fun _ _ hb _ _ => Ops.g O O O (Ops.fld (h1x.below hb) O O O O inferInstance (Az O)), fun _ _ hb _ _ => Ops.g O O O (Ops.ldf_s (h1x.below hb) O O O O O (Az O)), Dr O, fun _ _ hb _ _ => Ops.g O O O (Ops.idx (hB2.top.later hb).2 O O O (by omega) (by omega) (Az O)), fun _ _ hb _ _ => Ops.g O O O (Ops.ld_sl (hB2.top.later hb) O (by omega) O O (Az O)), Dr O, Dr O, fun _ _ _ _ _ => Ops.g O O O (Ops.sub O O O (by omega) (Az O)), fun _ _ hb _ _ => Ops.g O O O (Ops.idx (hst2.later hb).2 O O O (by omega) (by omega) (Az O)), fun _ _ hb _ _ => Ops.g O O O (Ops.ld_int (hst2.later hb) O (by omega) O O (Az O)), ?_, Dr O, Dr O, trivial⟩
          · intro e1 w1 hb hp hun
            refine Ops.g O O O (Ops.call (l01Has_c _ _ _ _ _ _ (hroq.later hb) (by omega)) O O O ?_)
            rintro _ w2 ⟨rfl, hst⟩
            subst hst
            refine Ops.n (d0 (by exact O))
        intro u w3 hb3 _
        have hS := hS.later hb3
        refine Gec O ?_
        refine Cd.cond_p _ O (fun h5 => ?_) (fun h5 => ?_)
        · have hyes : gi R (q : Int) = (st.length : Int) ∧ alvP n R B (q : Int) ∧ (st.length = 0 ∨ gi st ((st.length : Int) - 1) ∈ gl B (q : Int)) := ⟨by omega, hgq.1 a2, .inr (by rw [hst]; exact h5)⟩
          have hnx2 := hnx
          rw [if_pos hyes] at hnx2
          have hGn : F ++ ((nxT n R B st (q + 1)).flatMap fun e => exS n R B k (st ++ [e])) = G ++ exS n R B k (st ++ [(q : Int)]) := by
            rw [hnx2, List.flatMap_append, ← List.append_assoc, hG]; simp
          have hccq := hcc (exS n R B k (st ++ [(q : Int)]))
          have hsr2 : ∀ x ∈ st ++ [(q : Int)], 0 ≤ x ∧ x < (N : Int) := fun x hx => by
            rcases List.mem_append.1 hx with h | h
            · exact hsr x h
            · obtain rfl := List.mem_singleton.1 h; omega
          generalize hH : cap G = H at *
          refine Cd.drawP [6, 8] [.ex (.agg #[.int .i64 (n : Int), .slice AR N cR, .slice AD N cD]), yS (Aa) (N) (N), yS (As) (r) (cs), .pr (fun v w' => ∃ A9 c9, v = .slice A9 r c9 ∧ St w0 w' (CkI 2 A9 r c9 st :: (mat 32 2 A H.length c rs H ++ (poB A4 (n : Int) AR N cR AD N cD :: CkI 2 As r cs st :: ks1)))), yI ((q : Int)), .pr (fun v w' => ∃ A9, v = .slice A9 1 1 ∧ RdI w' A9 1 [(q : Int)]), .pr (fun v w' => ∃ AZ cZ, v = .slice AZ (r + 1) cZ ∧ St w0 w' (CkI 2 AZ (r + 1) cZ (st ++ [(q : Int)]) :: (mat 32 2 A H.length c rs H ++ (poB A4 (n : Int) AR N cR AD N cD :: CkI 2 As r cs st :: ks1)))), yS (A) (H.length) (c), .pr (fun v w' => ∃ A' c' rs', v = .slice A' (cap (G ++ exS n R B k (st ++ [(q : Int)]))).length c' ∧ rs'.length = (cap (G ++ exS n R B k (st ++ [(q : Int)]))).length ∧ St w0 w' (mat 32 2 A' (cap (G ++ exS n R B k (st ++ [(q : Int)]))).length c' rs' (cap (G ++ exS n R B k (st ++ [(q : Int)]))) ++ (poB A4 (n : Int) AR N cR AD N cD :: CkI 2 As r cs st :: ks1))), .pr (fun v w' => ∃ A' c' rs', v = .slice A' (cap (G ++ exS n R B k (st ++ [(q : Int)]))).length c' ∧ rs'.length = (cap (G ++ exS n R B k (st ++ [(q : Int)]))).length ∧ St w0 w' (mat 32 2 A' (cap (G ++ exS n R B k (st ++ [(q : Int)]))).length c' rs' (cap (G ++ exS n R B k (st ++ [(q : Int)]))) ++ (poB A4 (n : Int) AR N cR AD N cD :: CkI 2 As r cs st :: ks1)))] (by kernel_rfl) (by kernel_rfl) (ly (ly (ly (List.forall_mem_cons.2 ⟨Ye.lasts_pr (fun v w w' h hb => by obtain ⟨A9, c9, hv, hT⟩ := h; exact ⟨A9, c9, hv, hT.later hb⟩), (ly (List.forall_mem_cons.2 ⟨Ye.lasts_pr (fun v w w' h hb => by obtain ⟨A9, hv, hT⟩ := h; exact ⟨A9, hv, hT.later hb⟩), (List.forall_mem_cons.2 ⟨Ye.lasts_pr (fun v w w' h hb => by obtain ⟨AZ, cZ, hv, hT⟩ := h; exact ⟨AZ, cZ, hv, hT.later hb⟩), (ly (List.forall_mem_cons.2 ⟨Ye.lasts_pr (fun v w w' h hb => by obtain ⟨A', c', rs', hv, hr', hT⟩ := h; exact ⟨A', c', rs', hv, hr', hT.later hb⟩), (List.forall_mem_cons.2 ⟨Ye.lasts_pr (fun v w w' h hb => by obtain ⟨A', c', rs', hv, hr', hT⟩ := h; exact ⟨A', c', rs', hv, hr', hT.later hb⟩), (fun _ h => by cases h)⟩)⟩))⟩)⟩))⟩)))) ?_ ?_
          · refine ⟨?_, DrP O, DrP O, ?_, DrP O, ?_, ?_, ?_, ?_, ?_, trivial⟩
            · intro e1 w1 cc hlo hhi hb0 hp hun hq
              show Ops _ _ _ _ _ _ _
              have hX : Rd w1 A4 3 (fun q => [Value.int .i64 (n : Int), .slice AR N cR, .slice AD N cD].getD q undef) := by { have hhi := le_of_hi hhi (b := 1) (by kernel_rfl); rcases (show cc = 0 ∨ cc = 1 by omega) with h | h; { exact Rd.below (hbx hS) (hb0 h) }; { subst h; obtain ⟨AZ, cZ, _, hT⟩ := hq 6 _ _ (by kernel_rfl) (by kernel_rfl) (by kernel_rfl) rfl rfl (by kernel_rfl); exact hbx hT.tail } }
              refine Ops.ld_agg 2 hX O O O (Ops.n (p0_ O (by exact O)))
            · refine cP fun e1 w1 hb hp hun hq => ?_
              refine Ops.call (l01Own_c As r cs st _ (hbs (hS.later hb)) (by omega)) O O O ?_
              rintro _ w9 ⟨A9, c9, rfl, hst9⟩
              refine Ops.n ?_
              exact AfterP.dn O hst9.below ⟨A9, c9, O, (hS.later hb).call hst9⟩
            · intro e1 w1 cc hlo hhi hb0 hp hun hq
              show Ops _ _ _ _ _ _ _
              refine Ops.bs1I (St.refl _) O O O ?_
              intro A9 w9 hst9
              refine Ops.n ?_
              exact AfterP.dn O hst9.below ⟨A9, O, hst9.rdI 0 O⟩
            · refine cPT fun e1 w1 hb hp hun hq => ?_
              obtain ⟨A8, c8, h65, hT⟩ := (hp 3 _ _ (by kernel_rfl) rfl rfl (by kernel_rfl))
              obtain ⟨A9, h67, hT9⟩ := (hp 5 _ _ (by kernel_rfl) rfl rfl (by kernel_rfl))
              refine Ops.appI 0 hT O hT9 (by exact h65) (by exact h67) O (by omega) (by omega) O ?_
              intro AZ cZ wZ hZ
              refine Ops.n ?_
              exact AfterU.dn O ⟨AZ, cZ, O, hZ⟩
            · intro e1 w1 cc hlo hhi hb0 hp hun hq
              show Ops _ _ _ _ _ _ _
              refine Ops.ms O (by exact hun 9 _ O (by kernel_rfl)) O (Ops.n (p0_ O (by exact O)))
            · refine dPT 1 fun e1 w1 hp hun hq => ?_
              have hph := hp 6 _ _ (by kernel_rfl) O O (by kernel_rfl)
              obtain ⟨AZ, cZ, h68, hT⟩ := (hp 6 _ _ (by kernel_rfl) rfl rfl (by kernel_rfl))
              refine Ops.call (ih (r + 1) (st ++ [(q : Int)]) AZ cZ (poB A4 (n : Int) AR N cR AD N cD :: CkI 2 As r cs st :: ks1) _ A c rs H (by omega) (by rw [List.length_append, hst]; rfl) hsr2 (List.mem_cons_of_mem _ (List.mem_cons_of_mem _ hAl)) hrs (by omega) hT) O (by exact congrArg (fun v => [Value.agg #[.int .i64 (n : Int), .slice AR N cR, .slice AD N cD], .slice Aa N N, v, .slice A H.length c]) h68) O ?_
              rintro _ w9 ⟨A', c', rs', rfl, hr', hT'⟩
              rw [hccq] at hr' hT' ⊢
              refine Ops.n ?_
              exact AfterU.dn O ⟨A', c', rs', O, hr', hT'⟩
            · refine dP 2 fun e1 w1 hp hun hq => ?_
              have hph := hp 8 _ _ (by kernel_rfl) O O (by kernel_rfl)
              obtain ⟨A', c', rs', h70, hr', hT⟩ := (hp 8 _ _ (by kernel_rfl) rfl rfl (by kernel_rfl))
              refine Ops.ms O (by exact h70) O (Ops.n ?_)
              exact AfterP.dn O (Below.refl _ _) ⟨A', c', rs', O, hr', hT⟩
          intro u4 w4 _ hu4 _ _
          obtain ⟨A', c', rs', hv3, hr', hT⟩ := hu4 9 _ rfl (by kernel_rfl)
          rw [← hGn] at hv3 hr' hT
          refine post_ext (F := [(1, .slice Aa N N), (2, .slice As r cs), (3, .slice A' (cap (F ++ ((nxT n R B st (q + 1)).flatMap fun e => exS n R B k (st ++ [e])))).length c'), (4, .pointer A4), (9, .int .i64 (r : Int)), (10, .int .i64 (q : Int))]) ⟨O, O, hv3, O, O, O, trivial⟩ ?_
          refine Geo O (Ops.add O O O (by omega) (Gdn O (tQ ?_)))
          exact ⟨(q + 1, A', c', rs'), by show N - (q + 1) < N - q; omega, ⟨O, O, O, O, O, O, trivial⟩, by show q + 1 ≤ N; omega, hr', hT⟩
        · have hsk := hskip (fun h => by rcases h.2.2 with h6 | h6; { omega }; { rw [hst] at h6; exact h5 h6 })
          refine Gao O (Ops.add O O O (by omega) (Gdn O (tQ ?_)))
          exact ⟨(q + 1, A, c, rs), by show N - (q + 1) < N - q; omega, ⟨O, O, congrArg (fun m : List (List Int) => Value.slice A (cap m).length c) hsk.symm, O, O, O, trivial⟩, by show q + 1 ≤ N; omega, by show rs.length = (cap _).length; rw [hsk]; exact hrs, by show St w0 w3 (mat _ _ A (cap _).length c rs (cap _) ++ _); rw [hsk]; exact hS⟩
    · have hqe : q = N := by omega
      subst hqe
      have hfin : F ++ exS n R B (k + 1) st = G := by rw [← hG, exS, hN]
      refine Gax O (thenQ_x (Gfr O ?_))
      refine ret1_s O ?_
      rw [hfin]
      exact ⟨A, c, rs, O, hrs, hS.sub ((List.Sublist.refl _).append (((List.Sublist.refl ks1).cons _).cons _))⟩
/-
 Two lots of memory of one's own, made beside one another.
-/
theorem St.merge {w0 w : World} {ks ks' : List Ck} (h : St w0 w ks) (h' : St w0 w ks') (hk : ∀ k ∈ ks, isM k.vs = false) (hk' : ∀ k ∈ ks', isM k.vs = false) (he : ∀ k ∈ ks, ∀ k' ∈ ks', k.e ≠ k'.e) : St w0 w (ks ++ ks') := by
 refine ⟨h.below, fun k hm => ?_, ?_⟩
 ·rcases List.mem_append.1 hm with hm | hm
  ·exact h.own k hm
  exact h'.own k hm
 rw [List.filterMap_append, List.nodup_append]
 refine ⟨h.apart, h'.apart, fun a ha b hb => ?_⟩
 rintro rfl
 obtain ⟨k, hm, hka⟩ := List.mem_filterMap.1 ha
 obtain ⟨k', hm', hkb⟩ := List.mem_filterMap.1 hb
 have one : ∀ {q : Ck}, OwnC w0.heap.size w q → q.blk = some a → ∃ cur, w.heap[a]? = some (.cells cur q.e (0, 0)) := fun {q} ho hq => by
  obtain ⟨_, _, _, ⟨h1, _⟩ | ⟨g, o, cur, h1, _, h2, _⟩⟩ := ho
  ·unfold Ck.blk at hq; rw [h1] at hq; cases hq
  unfold Ck.blk at hq
  rw [h1] at hq
  obtain rfl : g = a := Option.some.inj hq
  exact ⟨cur, h2⟩
 obtain ⟨c1, e1⟩ := one ((h.own k hm).toC (hk k hm)) hka
 obtain ⟨c2, e2⟩ := one ((h'.own k' hm').toC (hk' k' hm')) hkb
 rw [e1] at e2
 injection e2 with e2
 injection e2 with _ e2 _
 exact he k hm k' hm' e2
theorem rowsCk_e {t : TypeId} : ∀ {rs : List SlV} {xss : List (List Int)}, ∀ k ∈ rowsCk t rs xss, isM k.vs = false ∧ k.e = t
 | [], _, k, h => by simp [rowsCk] at h
 | _ :: _, [], k, h => by simp [rowsCk] at h
 | r :: rs, x :: xss, k, h => by
  simp only [rowsCk, List.mem_cons] at h
  rcases h with rfl | h
  ·exact ⟨isM_I _, O⟩
  ·exact rowsCk_e k h
theorem mat_e {t1 t2 : TypeId} {A : Option Addr} {n c : Nat} {rs : List SlV} {xss : List (List Int)} : ∀ k ∈ mat t1 t2 A n c rs xss ++ [], isM k.vs = false ∧ (k.e = t1 ∨ k.e = t2) := fun k h => by
 rw [List.append_nil] at h
 rcases List.mem_cons.1 h with rfl | h
 ·exact ⟨isM_R _, .inl O⟩
 exact ⟨(rowsCk_e k h).1, .inr (rowsCk_e k h).2⟩
/-
 The program's tests of posets: pure, diamonds; what flags have in common.
-/
def AnsI (L : List Int) (w : World) (v : Value) (w' : World) : Prop := ∃ A' c', v = .slice A' L.length c' ∧ St w w' [CkI 2 A' L.length c' L]
theorem take_snoc {xs : List Int} {j : Nat} (h : j < xs.length) : xs.take (j + 1) = xs.take j ++ [gi xs (j : Int)] := by
 rw [List.take_succ_eq_append_getElem h, gi_mem h]
theorem isPure_c (n : Int) (A D : Option Addr) (cA N m cD : Nat) (Af : Option Addr) (nf cf : Nat) (rs : List SlV) (fl : List (List Int)) (w : World) (hF : RowsI w Af nf rs fl) (hN : N ≤ 500) (hr : ∀ l ∈ fl, l.length ≤ 1000 ∧ ∀ x ∈ l, 0 ≤ x ∧ x < (N : Int)) (hnf : nf ≤ 100000) :
  Ret Tryz.prog 87 [.agg #[.int .i64 n, .slice A N cA, .slice D m cD], .slice Af nf cf] w (fun v w' => ∃ b : Bool, v = .bool b ∧ (b = true ↔ ∀ x : Int, 0 ≤ x → x < (N : Int) → ∃ l ∈ fl, x ∈ l) ∧ St w w' []) := by
 have hfl := hF.len
 refine Ret.of_cd Tryz.func87 O Tryz.ntmps87 O (post1 O) (Gbo O (Ops.box3T (St.refl w) O O ?_))
 intro A1 w1 hS1
 have h1 : Rd w1 A1 3 (fun j => [Value.int .i64 n, .slice A N cA, .slice D m cD].getD j undef) := hS1.rd 0 O
 refine Gdo O (Ops.fld h1 O O O O inferInstance (Ops.ldf_s h1 O O O O O (Ops.len O O (Ops.mkB (v := false) N hS1 O O (by omega) ?_))))
 intro A5 w2 hS2
 have hS2 : St w w2 [CkB 4 A5 N N (pnt (mk0 N) (fl.take 0).flatten), poB A1 n A N cA D m cD] := hS2
 refine Gdo O (Ops.len O O (Gdc O ?_))
 refine Cd.loop (α := Nat) (fun i => [(2, .pointer A1), (5, .slice A5 N N), (14, .slice Af nf cf), (15, .int .i64 (nf : Int)), (16, .int .i64 (i : Int))]) (fun i w' => i ≤ nf ∧ St w w' [CkB 4 A5 N N (pnt (mk0 N) (fl.take i).flatten), poB A1 n A N cA D m cD]) (fun i => nf - i) 0 ⟨O, O, O, O, O, trivial⟩ ⟨Nat.zero_le _, hS2⟩ ?_
 clear hS2 hS1 h1
 rintro i e w3 ⟨hi, hS⟩
 refine Gbc O ?_
 refine Cd.cond_p _ O (fun h2 => ?_) (fun h2 => ?_)
 ·have hiF : i < fl.length := by omega
  have hM := hS.oldRows hF
  have hro := hM.at_ (i := (i : Int)) (by omega) (by omega)
  have hrn := hro.1
  have hmem : gl fl (i : Int) ∈ fl := by rw [gl_mem hiF]; exact List.getElem_mem _
  have hri := hr _ hmem
  refine Gao O (Ops.idx hM.top.2 O O O (by omega) (by omega) (Ops.ld_sl hM.top O (by omega) O O ?_))
  refine Gdo O (Ops.len O O (Gdc O ?_))
  refine Cd.loop (α := Nat) (fun j => [(2, .pointer A1), (5, .slice A5 N N), (14, .slice Af nf cf), (15, .int .i64 (nf : Int)), (16, .int .i64 (i : Int)), (20, .slice (rg rs (i : Int)).a (rg rs (i : Int)).n (rg rs (i : Int)).c), (21, .int .i64 ((rg rs (i : Int)).n : Int)), (22, .int .i64 (j : Int))]) (fun j w' => j ≤ (rg rs (i : Int)).n ∧ St w w' [CkB 4 A5 N N (pnt (mk0 N) ((fl.take i).flatten ++ (gl fl (i : Int)).take j)), poB A1 n A N cA D m cD]) (fun j => (rg rs (i : Int)).n - j) 0 ⟨O, O, O, O, O, O, O, O, trivial⟩ ⟨Nat.zero_le _, by rw [List.take_zero, List.append_nil]; exact hS⟩ ?_
  clear hro hM hS
  rintro j e w4 ⟨hj, hS⟩
  refine Gbc O ?_
  refine Cd.cond_p _ O (fun h3 => ?_) (fun h3 => ?_)
  ·have hjl : j < (gl fl (i : Int)).length := by omega
   have hro := (hS.oldRows hF).at_ (i := (i : Int)) (by omega) (by omega)
   have hx := hri.2 _ (gi_in hjl)
   have hpl := pnt0_len N ((fl.take i).flatten ++ (gl fl (i : Int)).take j)
   refine Gao O (Ops.idx hro.2 O O O (by omega) (by omega) (Ops.ld_int hro O (by omega) O O (Gdo O (Ops.idx (hS.rdB 0 O).2 O O O (by omega) (by omega) (Ops.st_bool 0 hS O O O (by omega) ?_)))))
   intro w5 hS5
   have hS5 : St w w5 [CkB 4 A5 N N (pnt (mk0 N) ((fl.take i).flatten ++ (gl fl (i : Int)).take (j + 1))), poB A1 n A N cA D m cD] := by
    rw [take_snoc hjl, ← List.append_assoc, pnt_snoc]; exact hS5
   refine Gdo O (Ops.add O O O (by omega) (Gdn O (tQ ?_)))
   exact ⟨j + 1, by show (rg rs (i : Int)).n - (j + 1) < (rg rs (i : Int)).n - j; omega, ⟨O, O, O, O, O, O, O, O, trivial⟩, by omega, hS5⟩
  rw [show (gl fl (i : Int)).take j = gl fl (i : Int) from List.take_of_length_le (by omega)] at hS
  refine Gax O (thenQ_x (Gfo O (Ops.add O O O (by omega) (Gdn O (tQ ?_)))))
  refine ⟨i + 1, by show nf - (i + 1) < nf - i; omega, ⟨O, O, O, O, O, trivial⟩, by omega, ?_⟩
  rw [List.take_succ_eq_append_getElem hiF, List.flatten_append, ← gl_mem hiF]
  simpa using hS
 have hin : i = fl.length := by omega
 rw [hin, List.take_length] at hS
 have hnof := no_false (m := N) (F := fl) (fun l hl => (hr l hl).2)
 refine Gax O (thenQ_x (Gfo O ?_))
 refine Ops.call (ContainsB_c A5 N N _ false _ (hS.rdB 0 O) (by omega)) O O O ?_
 rintro _ _ ⟨rfl, rfl⟩
 first | refine Ops.not_p rfl rfl ?_ | refine Ops.not rfl rfl ?_
 refine Gdr O (ret1_b O ?_)
 refine ⟨_, O, ?_, hS.none⟩
 rw [← hnof]
 simp
def cmnT (a b : List Int) (i : Nat) : List Int := (List.range a.length).map fun k : Nat => if i ≤ k ∨ gi a (k : Int) = gi b (k : Int) then gi a (k : Int) else -1
theorem cmnT_len (a b : List Int) (i : Nat) : (cmnT a b i).length = a.length := by simp [cmnT]
theorem cmnT_at {a b : List Int} {i k : Nat} (h : k < a.length) : gi (cmnT a b i) (k : Int) = if i ≤ k ∨ gi a (k : Int) = gi b (k : Int) then gi a (k : Int) else -1 := by
 rw [gi_mem (by rw [cmnT_len]; exact h)]
 simp [cmnT]
theorem cmnT_0 (a b : List Int) : cmnT a b 0 = a := by
 apply List.ext_getElem (cmnT_len ..)
 intro k h1 h2
 rw [← gi_mem h1, ← gi_mem h2, cmnT_at h2, if_pos (.inl (Nat.zero_le _))]
theorem cmnT_all (a b : List Int) : cmnT a b a.length = cmnP a b := by
 apply List.ext_getElem (by rw [cmnT_len, cmnP_len])
 intro k h1 h2
 have h3 : k < a.length := by rw [cmnT_len] at h1; exact h1
 rw [← gi_mem h1, ← gi_mem h2, cmnT_at h3, cmnP_at h3]
 by_cases c : gi a (k : Int) = gi b (k : Int)
 ·rw [if_pos (.inr c), if_pos c]
 rw [if_neg (by omega), if_neg c]
theorem cmnT_next {a b : List Int} {i : Nat} : cmnT a b (i + 1) = if gi a (i : Int) = gi b (i : Int) then cmnT a b i else (cmnT a b i).set i (-1) := by
  by_cases c : gi a (i : Int) = gi b (i : Int)
  · rw [if_pos c]
    apply List.ext_getElem (by simp [cmnT_len])
    intro k h1 h4
    have h3 : k < a.length := by rw [cmnT_len] at h1; exact h1
    rw [← gi_mem h1, cmnT_at h3, ← gi_mem h4, cmnT_at h3]
    by_cases e : k = i
    · subst e; rw [if_pos (.inr c), if_pos (.inr c)]
    by_cases e2 : i + 1 ≤ k ∨ gi a (k : Int) = gi b (k : Int)
    · rw [if_pos e2, if_pos (by omega)]
    rw [if_neg e2, if_neg (by omega)]
  rw [if_neg c]
  apply List.ext_getElem (by simp [cmnT_len])
  intro k h1 h2
  have h3 : k < a.length := by rw [cmnT_len] at h1; exact h1
  have h4 : k < (cmnT a b i).length := by rw [cmnT_len]; exact h3
  rw [← gi_mem h1, cmnT_at h3, List.getElem_set]
  split
  · rename_i h
    rw [if_neg (fun e => by subst e; rcases h with h | h; · omega
                            exact c h), ← gi_mem h4, cmnT_at h3, if_pos (by omega)]
  rename_i h
  by_cases e : i = k
  · rw [if_pos e]
  rw [if_neg e, ← gi_mem h4, cmnT_at h3, if_neg (fun h' => h (by omega))]
theorem commonOf_c (A A2 : Option Addr) (n c m c2 : Nat) (a b : List Int) (w : World) (hA : RdI w A n a) (hB : RdI w A2 m b) (hm : n = m) (hn : n ≤ 1000) :
  Ret Tryz.prog 153 [.slice A n c, .slice A2 m c2] w (AnsI (cmnP a b) w) := by
 subst hm
 have ha := hA.1
 have hb := hB.1
 refine Ret.of_cd Tryz.func153 O Tryz.ntmps153 O (post1 O) (Gbo O (Ops.call (Clone_c A n c a w hA (by omega)) O O O ?_))
 rintro _ w1 ⟨A5, c5, rfl, hS⟩
 have hS : St w w1 [CkI 2 A5 n c5 (cmnT a b 0)] := by rw [cmnT_0]; exact hS
 refine Gdo O (Ops.len O O (Gdc O ?_))
 refine Cd.loop (α := Nat) (fun i => [(5, .slice A5 n c5), (10, .slice A2 n c2), (11, .int .i64 (n : Int)), (12, .int .i64 (i : Int))]) (fun i w' => i ≤ n ∧ St w w' [CkI 2 A5 n c5 (cmnT a b i)]) (fun i => n - i) 0 ⟨O, O, O, O, trivial⟩ ⟨Nat.zero_le _, hS⟩ ?_
 clear hS
 rintro i e w2 ⟨hi, hS⟩
 have hl := cmnT_len a b i
 refine Gbc O ?_
 refine Cd.cond_p _ O (fun h2 => ?_) (fun h2 => ?_)
 ·have hin : i < a.length := by omega
  have hnx := cmnT_next (a := a) (b := b) (i := i)
  have hat := cmnT_at (b := b) (i := i) hin
  rw [if_pos (.inl (Nat.le_refl _))] at hat
  have hB2 := hS.oldI hB
  have h5 := hS.rdI 0 O
  refine Gao O (Ops.idx hB2.2 O O O (by omega) (by omega) (Ops.ld_int hB2 O (by omega) O O (Gdo O (Ops.idx h5.2 O O O (by omega) (by omega) (Ops.ld_int h5 O (by omega) O O (Gdc O ?_))))))
  rw [hat]
  refine Cd.cond_p _ O (fun h3 => ?_) (fun h3 => ?_)
  ·rw [if_neg h3] at hnx
   refine Gao O (Ops.idx h5.2 O O O (by omega) (by omega) (Ops.st_int 0 hS O O O (by omega) ?_))
   intro w3 hS3
   refine Gdo O (Ops.add O O O (by omega) (Gdn O (tQ ?_)))
   exact ⟨i + 1, by show n - (i + 1) < n - i; omega, ⟨O, O, O, O, trivial⟩, by omega, by rw [hnx]; exact hS3⟩
  rw [if_pos (Classical.not_not.1 h3)] at hnx
  refine Gao O (Ops.add O O O (by omega) (Gdn O (tQ ?_)))
  exact ⟨i + 1, by show n - (i + 1) < n - i; omega, ⟨O, O, O, O, trivial⟩, by omega, by rw [hnx]; exact hS⟩
 have hin : i = a.length := by omega
 rw [hin, cmnT_all] at hS
 have hl2 := cmnP_len a b
 refine Gax O (thenQ_x (Gfr O ?_))
 refine ret1_s O ?_
 exact ⟨A5, c5, by rw [hl2, ha], by rw [hl2, ha]; exact hS⟩
def plcP (xs : List Int) (x : Int) : List Int := (rngI xs.length).filter fun e => decide (gi xs e = x)
theorem plc_next {xs : List Int} {x : Int} {m : Nat} : ((rngI (m + 1)).filter fun e => decide (gi xs e = x)) = if x = gi xs (m : Int) then ((rngI m).filter fun e => decide (gi xs e = x)) ++ [(m : Int)] else ((rngI m).filter fun e => decide (gi xs e = x)) := by
 have : rngI (m + 1) = rngI m ++ [(m : Int)] := by
  unfold rngI
  rw [List.range_succ, List.map_append]; rfl
 rw [this, List.filter_append]
 by_cases c : gi xs (m : Int) = x
 ·rw [if_pos c.symm]; simp [c]
 rw [if_neg (fun h => c h.symm)]; simp [c]
theorem placesOf_c (A : Option Addr) (n c : Nat) (xs : List Int) (x : Int) (w : World) (hA : RdI w A n xs) (hn : n ≤ 100000) :
  Ret Tryz.prog 211 [.slice A n c, .int .i64 x] w (AnsI (plcP xs x) w) := by
 have ha := hA.1
 refine Ret.of_cd Tryz.func211 O Tryz.ntmps211 O (post1 O) ?_
 refine Gbo O (Ops.len O O (Gdc O ?_))
 refine Cd.loop (α := Nat × Option Addr × Nat) (fun z => [(1, .int .i64 x), (5, .slice z.2.1 ((rngI z.1).filter fun e => decide (gi xs e = x)).length z.2.2), (8, .slice A n c), (9, .int .i64 (n : Int)), (10, .int .i64 (z.1 : Int))]) (fun z w' => z.1 ≤ n ∧ St w w' [CkI 2 z.2.1 ((rngI z.1).filter fun e => decide (gi xs e = x)).length z.2.2 ((rngI z.1).filter fun e => decide (gi xs e = x))]) (fun z => n - z.1) (0, none, 0) ⟨O, O, O, O, O, trivial⟩ ⟨Nat.zero_le _, (St.refl w).nil _⟩ ?_
 rintro ⟨i, A5, c5⟩ e w1 ⟨hi, hS⟩
 dsimp only at hi hS ⊢
 have hfl : ((rngI i).filter fun e => decide (gi xs e = x)).length ≤ 100000 := by
  refine Nat.le_trans (List.length_filter_le _ _) ?_
  rw [rngI, List.length_map, List.length_range]; omega
 have hnx := plc_next (xs := xs) (x := x) (m := i)
 refine Gbc O ?_
 refine Cd.cond_p _ O (fun h2 => ?_) (fun h2 => ?_)
 ·have hA1 := hS.oldI hA
  refine Gao O (Ops.idx hA1.2 O O O (by omega) (by omega) (Ops.ld_int hA1 O (by omega) O O (Gdc O ?_)))
  refine Cd.cond_p _ O (fun h3 => ?_) (fun h3 => ?_)
  ·rw [if_pos h3] at hnx
   refine Gao O (Ops.bs1I hS O O O ?_)
   intro A9 w2 hS2
   refine Ops.appI 1 hS2 O (hS2.rdI 0 O) O O O (by omega) (by omega) O ?_
   intro AZ cZ w3 hS3
   have hS3 := hS3.tail
   refine Gdo O (Ops.add O O O (by omega) (Gdn O (tQ ?_)))
   refine ⟨(i + 1, AZ, cZ), by show n - (i + 1) < n - i; omega, ⟨O, ?_, O, O, O, trivial⟩, by show i + 1 ≤ n; omega, ?_⟩
   ·show Value.slice _ _ _ = _
    rw [hnx, List.length_append]; rfl
   show St w w3 [CkI _ _ (((rngI (i + 1)).filter _).length) _ ((rngI (i + 1)).filter _)]
   rw [hnx, List.length_append]
   exact hS3
  rw [if_neg h3] at hnx
  refine Gao O (Ops.add O O O (by omega) (Gdn O (tQ ?_)))
  refine ⟨(i + 1, A5, c5), by show n - (i + 1) < n - i; omega, ⟨O, ?_, O, O, O, trivial⟩, by show i + 1 ≤ n; omega, ?_⟩
  ·show Value.slice _ _ _ = _
   rw [hnx]
  show St w w1 [CkI _ _ (((rngI (i + 1)).filter _).length) _ ((rngI (i + 1)).filter _)]
  rw [hnx]
  exact hS
 have hin : i = xs.length := by omega
 rw [hin] at hS ⊢
 refine Gax O (thenQ_x (Gfr O ?_))
 refine ret1_s O ?_
 exact ⟨A5, c5, O, hS⟩
def rkL (n : Int) (R : List Int) (i : Int) : List Int := if 0 ≤ i ∧ i ≤ n - 1 then plcP R i else [-1]
theorem ofRank_c (P A D : Option Addr) (n : Int) (N cA m cD : Nat) (R : List Int) (i : Int) (w : World) (hP : Rd w P 3 (fun j => [Value.int .i64 n, .slice A N cA, .slice D m cD].getD j undef)) (hR : RdI w A N R) (hN : N ≤ 1000) (hn : 0 ≤ n ∧ n ≤ 100) :
  Ret Tryz.prog 151 [.pointer P, .int .i64 i] w (AnsI (rkL n R i) w) := by
 refine Ret.of_cd Tryz.func151 O Tryz.ntmps151 O (post1 O) (Gbo O ?_)
 refine Ops.nilp hP (by decide) O O ?_
 refine Ops.fld hP O O O O inferInstance (Ops.ldf_i (j := 0) hP (by exact congrArg Value.pointer O) O O O O (Ops.sub O O O (by omega) (Ops.call (within_c _ _ _ _) O O O ?_)))
 rintro _ _ ⟨rfl, rfl⟩
 first | refine Ops.not_p rfl rfl ?_ | refine Ops.not rfl rfl ?_
 refine Gdc O ?_
 refine Cd.cond_p _ O (fun h2 => ?_) (fun h2 => ?_)
 ·refine Gao O (Ops.bs1I (i := -1) (St.refl _) O O O ?_)
  intro A9 w2 hS2
  refine Gdr O (ret1_s O ?_)
  unfold AnsI rkL
  rw [if_neg h2]
  exact ⟨A9, 1, O, hS2⟩
 refine Gao O ?_
 refine Ops.nilp hP (by decide) O O ?_
 refine Ops.fld hP O O O O inferInstance (Ops.ldf_s hP O O O O O (Gdo O (Ops.call (placesOf_c A N cA R i _ hR (by omega)) O O O ?_)))
 rintro _ w2 ⟨A9, c9, rfl, hS2⟩
 refine Gdr O (ret1_s O ?_)
 unfold AnsI rkL
 rw [if_pos (Classical.not_not.1 h2)]
 exact ⟨A9, c9, O, hS2⟩
/-
 The program's way to part flags, walked. Conditions: the library's table of powers of ten holds what the program's text lays there.
-/
theorem rest_c (PB A : Option Addr) (N c n : Nat) (rs : List SlV) (fl : List (List Int)) (f i : Nat) (w : World) (hT : Tab w) (hb : Rd w PB 1 (fun _ => .slice A N c)) (hM : RowsI w A N rs fl) (hf : f < N) (hN : N ≤ 1000) (hl : (gl fl (f : Int)).length = n) (hi : i < n) (hn : n ≤ 100) (hr : ∀ x ∈ gl fl (f : Int), 0 ≤ x ∧ x ≤ 1000000) :
  Ret Tryz.prog 213 [.int .i64 f, .int .i64 i, .pointer PB] w (fun v w' => v = kyV (rstP (gl fl (f : Int)) i) ∧ St w w' []) := by
 have hfl := hM.len
 have hro := hM.at_ (i := (f : Int)) (by omega) (by omega)
 have hrn := hro.1
 refine Ret.of_cd Tryz.func213 O Tryz.ntmps213 O (post1 O) (Gbo O (Ops.ldf_s (j := 0) hb (by exact congrArg Value.pointer (ptrAt_zero _).symm) O O O O (Gdo O (Ops.idx hM.top.2 O O O (by omega) (by omega) (Ops.ld_sl hM.top O (by omega) O O (Ops.call (Clone_c _ _ _ _ _ hro (by omega)) O O O ?_))))))
 rintro _ w1 ⟨A6, c6, rfl, hS⟩
 refine Gdo O (Ops.idx (hS.rdI 0 O).2 O O O (by omega) (by omega) (Ops.st_int 0 hS O O O (by omega) ?_))
 intro w2 hS2
 have hS2 : St w w2 [CkI 2 A6 (rg rs (f : Int)).n c6 (rstP (gl fl (f : Int)) i)] := hS2
 refine Gdo O ?_
 refine Ops.call (keyOf_c A6 _ c6 (rstP (gl fl (f : Int)) i) _ (hT.later hS2.below) (hS2.rdI 0 O) (fun x hx => by
  rcases List.mem_or_eq_of_mem_set hx with h | h
  ·have := hr x h; omega
  omega) (by omega)) rfl rfl rfl ?_
 rintro _ w3 ⟨rfl, hst⟩
 refine Gdr O (ret1_v O ?_)
 exact ⟨O, hS2.none.later hst.below⟩
abbrev ptK (PB A : Option Addr) (N c : Nat) (A22 : Option Addr) (L : List Int) (Aa : Option Addr) (ca : Nat) (al : List Int) (g : Nat) (M : List MpE) (ks : List Ck) : List Ck :=
 CkI 2 A22 N N L :: Bx 22 1 PB [.slice A N c] :: CkI 2 Aa al.length ca al :: CkM 132 g (prV kyV mpV M) :: (rwM 2 M ++ ks)
def intL (Q : List Nat) : List Int := Q.map fun x : Nat => (x : Int)
theorem intL_at {Q : List Nat} {k : Nat} (h : k < Q.length) : gi (intL Q) (k : Int) = (Q.getD k 0 : Nat) := by
 rw [gi_mem (by simp [intL, h])]
 simp [intL, List.getD_eq_getElem?_getD, h]
theorem getD_app {Q : List Nat} {k y : Nat} (h : k < Q.length) : (Q ++ [y]).getD k 0 = Q.getD k 0 := by
 rw [List.getD_eq_getElem?_getD, List.getElem?_append_left h, ← List.getD_eq_getElem?_getD]
theorem intL_drop_app {Q : List Nat} {k y : Nat} (h : k ≤ Q.length) : intL ((Q ++ [y]).drop k) = intL (Q.drop k) ++ [(y : Int)] := by
 rw [List.drop_append_of_le_length h]; simp [intL]
theorem gi_set_ge {L : List Int} {y f : Nat} {z : Nat} (h : 0 ≤ gi L (z : Int)) : 0 ≤ gi (L.set y (f : Int)) (z : Int) := by
 simp only [gi, Int.toNat_natCast, List.getD_eq_getElem?_getD, List.getElem?_set] at h ⊢
 split
 ·split
  ·simp
  exact Int.le_refl _
 exact h
theorem gi_set_eq {L : List Int} {y f : Nat} (h : y < L.length) : gi (L.set y (f : Int)) (y : Int) = f := by
 rw [gi_mem (by simpa using h)]; simp
set_option maxHeartbeats 4000000 in
theorem partsWith_c (A : Option Addr) (N c : Nat) (rs : List SlV) (fl : List (List Int)) (n : Nat) (A2 : Option Addr) (c2 : Nat) (cm : List Int) (w : World) (hT : Tab w) (hM : RowsI w A N rs fl) (hC : RdI w A2 n cm) (hN : N ≤ 401) (hn : n ≤ 5) (hl : ∀ x ∈ fl, x.length = n ∧ ∀ e ∈ x, 0 ≤ e ∧ e ≤ 1000000) (hnd : fl.Nodup) :
  Ret Tryz.prog 155 [.slice A N c, .slice A2 n c2] w (fun v w' => ∃ A' L, v = .slice A' N N ∧ LblP N (LkH n fl cm) N L ∧ St w w' [CkI 2 A' N N L]) := by
 have hfl := hM.len
 have hcl := hC.1
 have hgm : ∀ f : Nat, f < N → gl fl (f : Int) ∈ fl := fun f hf => by rw [gl_mem (by omega)]; exact List.getElem_mem _
 have hl' : ∀ x ∈ fl, x.length = n ∧ ∀ e ∈ x, 0 ≤ e := fun x hx => ⟨(hl x hx).1, fun e he => ((hl x hx).2 e he).1⟩
 have hll : ∀ x ∈ fl, x.length = n := fun x hx => (hl x hx).1
 refine Ret.of_cd Tryz.func155 O Tryz.ntmps155 O (post1 O) (Gbo O ?_)
 refine Ops.box (v := .slice A N c) (St.refl w) O O (by show (1 : Nat) ≤ maxLen; simp [maxLen]) ?_
 intro PB w1 hS1
 have hb1 : Rd w1 PB 1 (fun _ => .slice A N c) := Rd.one (hS1.rd 0 O)
 refine Gdo O (Ops.bs1I (i := -1) hS1 O O O ?_)
 intro A19 w2 hS2
 have hb1 : Rd w2 PB 1 (fun _ => .slice A N c) := Rd.one (hS2.rd 1 O)
 refine Ops.ldf_s (j := 0) hb1 (by exact congrArg Value.pointer (ptrAt_zero _).symm) O O O O (Ops.len O O (Ops.call (Repeat_c A19 1 (-1) N _ (hS2.rdI 0 O) (by omega)) O O O ?_))
 rintro _ w3 ⟨A22, rfl, hst⟩
 have hS3 := hS2.call hst
 clear hst
 refine Gdo O (Ops.mkmap hS3 O ?_)
 intro g w4 hS4
 have hb1 : Rd w4 PB 1 (fun _ => .slice A N c) := Rd.one (hS4.rd 3 O)
 refine Gdo O (Ops.fn1 O O (Gdo O (Ops.ldf_s (j := 0) hb1 (by exact congrArg Value.pointer (ptrAt_zero _).symm) O O O O (Ops.call (sizeR_c _ _ _ _) O O O ?_))))
 rintro _ w4 ⟨rfl, rfl⟩
 have hS5 : St w w4 [CkI 2 none 0 0 [], CkM 132 g [], CkI 2 A22 N N (List.replicate N (-1)), CkI 2 A19 1 1 [-1], Bx 22 1 PB [.slice A N c]] := hS4.nil 2
 have hS5 : St w w4 (ptK PB A N c A22 (List.replicate N (-1)) none 0 (alF n fl cm 0) g [] []) := by
  have h9 := hS5.perm (show List.Perm _ (CkI 2 A19 1 1 [-1] :: ptK PB A N c A22 (List.replicate N (-1)) none 0 (alF n fl cm 0) g [] []) from by
   classical
   refine List.perm_iff_count.2 fun z => ?_
   simp only [ptK, rwM, List.map_nil, List.count_append, List.count_cons, List.count_nil, alF, rngI, List.range_zero, List.filter_nil, List.length_nil]
   have : prV kyV mpV ([] : List MpE) = [] := O
   rw [this]
   omega)
  exact h9.tail
 clear hS4 hS3 hS2 hS1 hb1
 refine Gdc O ?_
 refine Cd.loop (α := Nat × Option Addr × Nat × List MpE) (fun z => [(1, .slice A2 n c2), (2, .pointer PB), (5, .slice A22 N N), (6, .map (some g)), (7, .func (.func 213) #[] #[.pointer PB]), (8, .slice z.2.1 (alF n fl cm z.1).length z.2.2.1), (26, .int .i64 (N : Int)), (27, .int .i64 (z.1 : Int))]) (fun z w' => z.1 ≤ N ∧ BrP n fl (putD n fl cm z.1 0) (fun _ => False) (5 * z.1) z.2.2.2 ∧ St w w' (ptK PB A N c A22 (List.replicate N (-1)) z.2.1 z.2.2.1 (alF n fl cm z.1) g z.2.2.2 [])) (fun z => N - z.1) (0, none, 0, []) ⟨O, O, O, O, O, O, O, O, trivial⟩ ⟨Nat.zero_le _, BrP.zero, hS5⟩ ?_
 clear hS5
 rintro ⟨f, Aa, ca, M⟩ e w5 ⟨hf, hBr, hS⟩
 dsimp only at hf hBr hS ⊢
 have hall : (alF n fl cm f).length ≤ 500 := by
  refine Nat.le_trans (List.length_filter_le _ _) ?_
  rw [rngI, List.length_map, List.length_range]; omega
 refine Gbc O ?_
 refine Cd.cond_p _ O (fun h1 => ?_) (fun h1 => ?_)
 ·have hfN : f < N := by omega
  have hb1 : Rd w5 PB 1 (fun _ => .slice A N c) := Rd.one (hS.rd 1 O)
  have hM5 := hS.oldRows hM
  have hro := hM5.at_ (i := (f : Int)) (by omega) (by omega)
  have hrn := hro.1
  have hlf := hl _ (hgm f hfN)
  have hnn : (rg rs (f : Int)).n = n := by omega
  have hch := cmn_has (n := n) (c := cm) (x := gl fl (f : Int)) hcl
  have hanx := alF_next (n := n) (fl := fl) (c := cm) (f := f)
  refine Gao O (Ops.ldf_s (j := 0) hb1 (by exact congrArg Value.pointer (ptrAt_zero _).symm) O O O O (Gdo O (Ops.idx hM5.top.2 O O O (by omega) (by omega) (Ops.ld_sl hM5.top O (by omega) O O (Ops.call (commonOf_c A2 (rg rs (f : Int)).a n c2 (rg rs (f : Int)).n (rg rs (f : Int)).c cm (gl fl (f : Int)) _ (hS.oldI hC) hro hnn.symm (by omega)) O O O ?_)))))
  rintro _ w6 ⟨A35, c35, rfl, hst⟩
  have hS6 := hS.later hst.below
  have hC6 := hS6.oldI hC
  have h35 := hst.rdI 0 O
  clear hst hS hb1 hM5 hro
  refine Gdo O ?_
  refine Ops.call (Equal_c A35 _ c35 (cmnP cm (gl fl (f : Int))) A2 n c2 cm _ h35 hC6 (by rw [cmnP_len]; omega)) O O O ?_
  rintro _ w7 ⟨rfl, hst⟩
  have hS7 := hS6.later hst.below
  clear hst hS6 h35 hC6
  first | refine Ops.not_p rfl rfl ?_ | refine Ops.not rfl rfl ?_
  refine Gdc O ?_
  refine Cd.cond_p _ O (fun h2 => ?_) (fun h2 => ?_)
  ·have hno : ¬ HasP n cm (gl fl (f : Int)) := fun h => h2 (hch.2 h)
   rw [if_neg hno] at hanx
   refine Gao O (Ops.add O O O (by omega) (Gdn O (tQ ?_)))
   refine ⟨(f + 1, Aa, ca, M), by show N - (f + 1) < N - f; omega, ⟨O, O, O, O, O, ?_, O, O, trivial⟩, by show f + 1 ≤ N; omega, (hBr.skip hno).more (by show 5 * f ≤ 5 * (f + 1); omega), ?_⟩
   ·show Value.slice _ _ _ = _
    rw [hanx]
   show St w w7 (ptK _ _ _ _ _ _ _ _ (alF n fl cm (f + 1)) _ _ _)
   rw [hanx]; exact hS7
  have hyes : HasP n cm (gl fl (f : Int)) := hch.1 (Classical.not_not.1 h2)
  rw [if_pos hyes] at hanx
  refine Gao O (Ops.bs1I hS7 O O O ?_)
  intro A9 w8 hS8
  refine Ops.appI 3 hS8 O (hS8.rdI 0 O) O O O (by omega) (by omega) O ?_
  intro AZ cZ w9 hS9
  have hS9 : St w w9 (ptK PB A N c A22 (List.replicate N (-1)) AZ cZ (alF n fl cm (f + 1)) g M []) := by
   have h9 := hS9.tail
   rw [hanx]
   show St w w9 (_ :: _ :: CkI _ AZ ((alF n fl cm f ++ [(f : Int)]).length) cZ _ :: _)
   rw [List.length_append]
   exact h9
  have hfl1 : (alF n fl cm f).length + 1 = (alF n fl cm (f + 1)).length := by rw [hanx, List.length_append]; rfl
  clear hS8 hS7
  refine Gdo O (Ops.len O O (Gdc O ?_))
  refine Cd.loop (α := Nat × List MpE) (fun z => [(1, .slice A2 n c2), (2, .pointer PB), (5, .slice A22 N N), (6, .map (some g)), (7, .func (.func 213) #[] #[.pointer PB]), (8, .slice AZ (alF n fl cm (f + 1)).length cZ), (26, .int .i64 (N : Int)), (27, .int .i64 (f : Int)), (9, .int .i64 (f : Int)), (44, .int .i64 (n : Int)), (45, .int .i64 (z.1 : Int))]) (fun z w' => z.1 ≤ n ∧ BrP n fl (putD n fl cm f z.1) (fun _ => False) (5 * f + z.1) z.2 ∧ St w w' (ptK PB A N c A22 (List.replicate N (-1)) AZ cZ (alF n fl cm (f + 1)) g z.2 [])) (fun z => n - z.1) (0, M) ⟨O, O, O, O, O, congrArg (fun m => Value.slice AZ m cZ) hfl1, O, O, O, O, O, trivial⟩ ⟨Nat.zero_le _, hBr, hS9⟩ ?_
  clear hS9 hBr
  rintro ⟨i, M⟩ e w10 ⟨hi, hBr, hS⟩
  dsimp only at hi hBr hS ⊢
  refine Gbc O ?_
  refine Cd.cond_p _ O (fun h3 => ?_) (fun h3 => ?_)
  ·have hin : i < n := by omega
   refine Gao O (Ops.call (rest_c PB A N c n rs fl f i _ (hT.later hS.below) (Rd.one (hS.rd 1 O)) (hS.oldRows hM) hfN (by omega) hlf.1 hin (by omega) hlf.2) O O O ?_)
   rintro _ w11 ⟨rfl, hst⟩
   have hS := hS.later hst.below
   have hlen := hBr.len (rstP (gl fl (f : Int)) i)
   have hput := hBr.put (by omega) hin hyes
   generalize hkx : rstP (gl fl (f : Int)) i = kx at *
   have hrx := (St.rdMx (pre := [_, _, _, _]) (x := kx) hS).1
   clear hst
   refine Gdo O ?_
   refine Ops.look (v := .slice (gmS M kx).a (gmS M kx).n (gmS M kx).c) keyLs (hS.rdM 3 rfl) rfl rfl (by unfold gmS; cases getA M kx <;> rfl) rfl ?_
   refine Gdo O (Ops.bs1I hS O O O ?_)
   intro A9 w12 hS12
   have hS12 := St.takeM (pre := [_, _, _, _, _]) (x := kx) hS12
   refine Ops.appI 0 hS12 O (hS12.rdI 1 O) O O O (by omega) (by omega) O ?_
   intro AY cY w13 hS13
   refine Ops.upm O keyLs 5 (a := kx) (u := (⟨AY, (gmS M kx).n + 1, cY⟩, gmX M kx ++ [(f : Int)])) hS13 O O O O ?_
   intro w14 hS14
   have hS15 := (St.putM (M := M) (x := kx) (u := (⟨AY, (gmS M kx).n + 1, cY⟩, gmX M kx ++ [(f : Int)])) (pre := [_, _, _, _, _]) hS14).tail
   refine Gdo O (Ops.add O O O (by omega) (Gdn O (tQ ?_)))
   exact ⟨(i + 1, putA M kx (⟨AY, (gmS M kx).n + 1, cY⟩, gmX M kx ++ [(f : Int)])), by show n - (i + 1) < n - i; omega, ⟨O, O, O, O, O, O, O, O, O, O, O, trivial⟩, by show i + 1 ≤ n; omega, hput _, hS15⟩
  obtain rfl : i = n := by omega
  refine Gax O (thenQ_x (Gfo O (Ops.add O O O (by omega) (Gdn O (tQ ?_)))))
  exact ⟨(f + 1, AZ, cZ, M), by show N - (f + 1) < N - f; omega, ⟨O, O, O, O, O, O, O, O, trivial⟩, by show f + 1 ≤ N; omega, hBr.row.more (by show 5 * f + i ≤ 5 * (f + 1); omega), hS⟩
 obtain rfl : f = N := by omega
 subst hfl
 have hPer := LkH.per n fl cm
 have hBr : BrP n fl (fun y _ => HasP n cm (gl fl (y : Int))) (fun y => 0 ≤ gi (List.replicate fl.length (-1 : Int)) (y : Int)) 2005 M := ((hBr.congr fun y i hy hi => ⟨fun h => h.1, fun h => ⟨h, .inl hy⟩⟩).mono fun y _ h => h.elim).more (by omega)
 have hL0 := lbl_first (n := n) (fl := fl) (c := cm) (LblP.zero fl.length (LkH n fl cm))
 have hnx := fun (L : List Int) (j f : Nat) (hj : j < (alF n fl cm fl.length).length) (hf : gi (alF n fl cm fl.length) (j : Int) = f) h => lbl_next (n := n) (fl := fl) (c := cm) (L := L) hj hf h
 have hmem := fun y : Int => alF_mem (n := n) (fl := fl) (c := cm) (f := fl.length) (y := y)
 generalize alF n fl cm fl.length = al at *
 refine Gax O (thenQ_x (Gfo O (Ops.len O O (Gdc O ?_))))
 refine Cd.loop (α := Nat × List Int × List MpE) (fun z => [(1, .slice A2 n c2), (2, .pointer PB), (5, .slice A22 fl.length fl.length), (6, .map (some g)), (7, .func (.func 213) #[] #[.pointer PB]), (62, .slice Aa al.length ca), (63, .int .i64 (al.length : Int)), (64, .int .i64 (z.1 : Int))]) (fun z w' => z.1 ≤ al.length ∧ LblP fl.length (LkH n fl cm) (bndA fl.length al z.1) z.2.1 ∧ BrP n fl (fun y _ => HasP n cm (gl fl (y : Int))) (fun y => 0 ≤ gi z.2.1 (y : Int)) 2005 z.2.2 ∧ St w w' (ptK PB A fl.length c A22 z.2.1 Aa ca al g z.2.2 [])) (fun z => al.length - z.1) (0, List.replicate fl.length (-1), M) ⟨O, O, O, O, O, O, O, O, trivial⟩ ⟨Nat.zero_le _, hL0, hBr, hS⟩ ?_
 clear hS hBr hL0 hf h1
 rintro ⟨j, L0, M⟩ e w6 ⟨hj, hL0, hBr, hS⟩
 dsimp only at hj hL0 hBr hS ⊢
 refine Gbc O ?_
 refine Cd.cond_p _ O (fun h1 => ?_) (fun h1 => ?_)
 ·have hja : j < al.length := by omega
  have hfm := (hmem _).1 (gi_in hja)
  obtain ⟨f, hf⟩ : ∃ f : Nat, gi al (j : Int) = f := ⟨(gi al (j : Int)).toNat, by omega⟩
  have hbd : bndA fl.length al j = f := by unfold bndA; rw [if_pos hja, hf]; rfl
  rw [hf] at hfm
  rw [hbd] at hL0
  have hLl := hL0.1
  have hKf : LkH n fl cm f f := ⟨hfm.2, .refl (by omega)⟩
  have hRL := hS.rdI 0 O
  refine Gao O (Ops.idx (hS.rdI 2 O).2 O O O (by omega) (by omega) (Ops.ld_int (hS.rdI 2 O) O (by omega) O O (Gdo O ?_)))
  rw [hf]
  refine Ops.idx hRL.2 O O O (by omega) (by omega) (Ops.ld_int hRL O (by omega) O O (Gdc O ?_))
  refine Cd.cond_p _ O (fun h2 => ?_) (fun h2 => ?_)
  ·refine Gao O (Ops.add O O O (by omega) (Gdn O (tQ ?_)))
   exact ⟨(j + 1, L0, M), by show al.length - (j + 1) < al.length - j; omega, ⟨O, O, O, O, O, O, O, O, trivial⟩, by show j + 1 ≤ al.length; omega, hnx _ j f hja hf (hL0.skip hPer (by omega) (.inl h2)), hBr, hS⟩
  have h0 : gi L0 (f : Int) < 0 := by omega
  refine Gao O (Ops.idx hRL.2 O O O (by omega) (by omega) (Ops.st_int 0 hS O O O (by omega) ?_))
  intro w7 hS7
  have hS7 : St w w7 (ptK PB A fl.length c A22 (L0.set f (f : Int)) Aa ca al g M []) := hS7
  refine Gdo O (Ops.bs1I hS7 O O O ?_)
  intro Ao w8 hS8
  have hSr := Srch.start (A := AdH n fl cm) hLl (show f < fl.length by omega) h0 hKf
  have hBr := hBr.mono (G' := fun y => 0 ≤ gi (L0.set f (f : Int)) (y : Int)) fun y _ h => gi_set_ge h
  refine Gdc O ?_
  refine Cd.loop (α := Nat × List Int × List Nat × Option Addr × Nat × List MpE) (fun z => [(1, .slice A2 n c2), (2, .pointer PB), (5, .slice A22 fl.length fl.length), (6, .map (some g)), (7, .func (.func 213) #[] #[.pointer PB]), (62, .slice Aa al.length ca), (63, .int .i64 (al.length : Int)), (64, .int .i64 (j : Int)), (13, .int .i64 (f : Int)), (14, .slice z.2.2.2.1 (z.2.2.1.length - z.1) z.2.2.2.2.1)]) (fun z w' => Srch fl.length (LkH n fl cm) (AdH n fl cm) f L0 z.2.1 z.2.2.1 z.1 ∧ BrP n fl (fun y _ => HasP n cm (gl fl (y : Int))) (fun y => 0 ≤ gi z.2.1 (y : Int)) 2005 z.2.2.2.2.2 ∧ St w w' (CkI 2 z.2.2.2.1 (z.2.2.1.length - z.1) z.2.2.2.2.1 (intL (z.2.2.1.drop z.1)) :: ptK PB A fl.length c A22 z.2.1 Aa ca al g z.2.2.2.2.2 [])) (fun z => fl.length + 1 - z.1) (0, L0.set f (f : Int), [f], Ao, 1, M) ⟨O, O, O, O, O, O, O, O, O, O, trivial⟩ ⟨hSr, hBr, hS8⟩ ?_
  clear hS8 hS7 hS hRL hSr hBr
  rintro ⟨k, L, Q, Ao, co, M⟩ e w9 ⟨hSr, hBr, hS⟩
  dsimp only at hSr hBr hS ⊢
  have hql := hSr.qlen
  have hkl := hSr.kle
  refine Gbo O (Ops.len O O (Gdc O ?_))
  refine Cd.cond_p _ O (fun h3 => ?_) (fun h3 => ?_)
  ·have hkQ : k < Q.length := by omega
   obtain ⟨x, hx⟩ : ∃ x, Q.getD k 0 = x := ⟨_, rfl⟩
   have hxQ : x ∈ Q := by rw [← hx, List.getD_eq_getElem?_getD, List.getElem?_eq_getElem hkQ]; exact List.getElem_mem _
   have hxi := hSr.in_ x hxQ
   have hHx : HasP n cm (gl fl (x : Int)) := (hxi.2.2.1.of hxi.2.2.2)
   have hlx := hl _ (hgm x hxi.1)
   refine Gao O (Ops.len O O (Gdc O ?_))
   refine Cd.loop (α := Nat × List Int × List Nat × Option Addr × Nat × List MpE) (fun z => [(1, .slice A2 n c2), (2, .pointer PB), (5, .slice A22 fl.length fl.length), (6, .map (some g)), (7, .func (.func 213) #[] #[.pointer PB]), (62, .slice Aa al.length ca), (63, .int .i64 (al.length : Int)), (64, .int .i64 (j : Int)), (13, .int .i64 (f : Int)), (14, .slice z.2.2.2.1 (z.2.2.1.length - k) z.2.2.2.2.1), (85, .int .i64 (n : Int)), (86, .int .i64 (z.1 : Int))]) (fun z w' => z.1 ≤ n ∧ Srch fl.length (LkH n fl cm) (AdH n fl cm) f L0 z.2.1 z.2.2.1 k ∧ (k < z.2.2.1.length ∧ z.2.2.1.getD k 0 = x) ∧ BrP n fl (fun y _ => HasP n cm (gl fl (y : Int))) (fun y => 0 ≤ gi z.2.1 (y : Int)) 2005 z.2.2.2.2.2 ∧ (∀ i' y : Nat, i' < z.1 → y < fl.length → HasP n cm (gl fl (y : Int)) → rstP (gl fl (y : Int)) i' = rstP (gl fl (x : Int)) i' → 0 ≤ gi z.2.1 (y : Int)) ∧ St w w' (CkI 2 z.2.2.2.1 (z.2.2.1.length - k) z.2.2.2.2.1 (intL (z.2.2.1.drop k)) :: ptK PB A fl.length c A22 z.2.1 Aa ca al g z.2.2.2.2.2 [])) (fun z => n - z.1) (0, L, Q, Ao, co, M) ⟨O, O, O, O, O, O, O, O, O, O, O, O, trivial⟩ ⟨Nat.zero_le _, hSr, ⟨hkQ, hx⟩, hBr, fun i' y h => absurd h (Nat.not_lt_zero _), hS⟩ ?_
   clear hS hBr hSr hx hxQ hkQ hql hkl h3
   rintro ⟨i, Li, Qi, Ao, co, M⟩ e w10 ⟨hi, hSr, ⟨hkQ, hx⟩, hBr, hdn, hS⟩
   dsimp only at hi hSr hkQ hx hBr hdn hS ⊢
   refine Gbc O ?_
   refine Cd.cond_p _ O (fun h4 => ?_) (fun h4 => ?_)
   ·have hin : i < n := by omega
    have hgo : gi (intL (Qi.drop k)) 0 = (x : Int) := by
     have h9 := intL_at hkQ
     rw [hx] at h9
     rw [← h9]
     unfold intL
     rw [List.map_drop, gi_drop]
    have hdl : (intL (Qi.drop k)).length = Qi.length - k := by simp [intL]
    have hRo := hS.rdI 0 O
    refine Gao O (Ops.idx (i := 0) hRo.2 O O O (by omega) (by omega) ?_)
    refine Ops.ld_int (i := 0) hRo O (by show 0 < _; omega) O O ?_
    refine Gdo O ?_
    rw [hgo]
    refine Ops.call (rest_c PB A fl.length c n rs fl x i _ (hT.later hS.below) (Rd.one (hS.rd 2 O)) (hS.oldRows hM) hxi.1 (by omega) hlx.1 hin (by omega) hlx.2) O O O ?_
    rintro _ w11 ⟨rfl, hst⟩
    have hS := hS.later hst.below
    have hadj := fun y hy => hBr.adj (N := fl.length) hl' hxi.1 hin hHx (y := y) hy
    have hblen := hBr.len (rstP (gl fl (x : Int)) i)
    have hbal := fun (y : Nat) (hy : y < fl.length) (hH : HasP n cm (gl fl (y : Int))) (he : rstP (gl fl (y : Int)) i = rstP (gl fl (x : Int)) i) => he ▸ hBr.al y i hy hin hH
    generalize hkx : rstP (gl fl (x : Int)) i = kx at *
    clear hst hRo
    obtain ⟨sx, hsx⟩ : ∃ sx, gmS M kx = sx := ⟨_, rfl⟩
    obtain ⟨ys, hys⟩ : ∃ ys, gmX M kx = ys := ⟨_, rfl⟩
    have hrd : ∀ {w' : World} {Ao : Option Addr} {no co : Nat} {qs : List Int} {L : List Int}, St w w' (CkI 2 Ao no co qs :: ptK PB A fl.length c A22 L Aa ca al g M []) → RdI w' sx.a sx.n ys := fun h => by
     rw [← hsx, ← hys]
     exact St.rdMx (pre := [_, _, _, _, _]) (x := kx) h
    rw [hys] at hblen hadj hbal
    have hyl := (hrd hS).1
    refine Gdo O ?_
    refine Ops.look (v := .slice sx.a sx.n sx.c) keyLs (hS.rdM 4 rfl) rfl rfl (by rw [← hsx]; unfold gmS; cases getA M kx <;> rfl) rfl ?_
    refine Ops.len O O (Gdc O ?_)
    refine Cd.loop (α := Nat × List Int × List Nat × Option Addr × Nat) (fun z => [(1, .slice A2 n c2), (2, .pointer PB), (5, .slice A22 fl.length fl.length), (6, .map (some g)), (7, .func (.func 213) #[] #[.pointer PB]), (62, .slice Aa al.length ca), (63, .int .i64 (al.length : Int)), (64, .int .i64 (j : Int)), (13, .int .i64 (f : Int)), (14, .slice z.2.2.2.1 (z.2.2.1.length - k) z.2.2.2.2), (85, .int .i64 (n : Int)), (86, .int .i64 (i : Int)), (16, kyV kx), (97, .slice sx.a sx.n sx.c), (98, .int .i64 (sx.n : Int)), (99, .int .i64 (z.1 : Int))]) (fun z w' => z.1 ≤ sx.n ∧ Srch fl.length (LkH n fl cm) (AdH n fl cm) f L0 z.2.1 z.2.2.1 k ∧ (k < z.2.2.1.length ∧ z.2.2.1.getD k 0 = x) ∧ (∀ p : Nat, p < z.1 → 0 ≤ gi z.2.1 (gi ys (p : Int))) ∧ (∀ y : Nat, 0 ≤ gi Li (y : Int) → 0 ≤ gi z.2.1 (y : Int)) ∧ St w w' (CkI 2 z.2.2.2.1 (z.2.2.1.length - k) z.2.2.2.2 (intL (z.2.2.1.drop k)) :: ptK PB A fl.length c A22 z.2.1 Aa ca al g M [])) (fun z => sx.n - z.1) (0, Li, Qi, Ao, co) ⟨O, O, O, O, O, O, O, O, O, O, O, O, O, O, O, O, trivial⟩ ⟨Nat.zero_le _, hSr, ⟨hkQ, hx⟩, fun p h => absurd h (Nat.not_lt_zero _), fun y h => h, hS⟩ ?_
    clear hS hSr hkQ hx hgo hdl
    rintro ⟨q, L, Q, Ao, co⟩ e w12 ⟨hq, hSr, ⟨hkQ, hx⟩, hlab, hmono, hS⟩
    dsimp only at hq hSr hkQ hx hlab hmono hS ⊢
    have hql := hSr.qlen
    have hLl2 := hSr.len
    refine Gbc O ?_
    refine Cd.cond_p _ O (fun h5 => ?_) (fun h5 => ?_)
    ·have hqy : q < ys.length := by omega
     have hry := hrd hS
     obtain ⟨y, hy, hyN, hya⟩ := hadj _ (gi_in hqy)
     have hRL := hS.rdI 1 O
     refine Gao O (Ops.idx hry.2 O O O (by omega) (by omega) (Ops.ld_int hry O (by omega) O O (Gdo O ?_)))
     rw [hy]
     refine Ops.idx hRL.2 O O O (by omega) (by omega) (Ops.ld_int hRL O (by omega) O O (Gdc O ?_))
     refine Cd.cond_p _ O (fun h6 => ?_) (fun h6 => ?_)
     ·have hmt := hSr.meet hyN h6 (hPer.trn _ _ _ hxi.2.2 (hya.link hnd hll))
      refine Gao O (Ops.idx hRL.2 O O O (by omega) (by omega) (Ops.st_int 1 hS O O O (by omega) ?_))
      intro w13 hS13
      refine Gdo O (Ops.bs1I hS13 O O O ?_)
      intro A9 w14 hS14
      refine Ops.appI 1 hS14 O (hS14.rdI 0 O) O O O (by omega) (by omega) O ?_
      intro AZ cZ w15 hS15
      have hS15 := hS15.tail
      have hlq : (Q ++ [y]).length - k = (Q.length - k) + 1 := by rw [List.length_append]; show Q.length + 1 - k = _; omega
      refine Gdo O (Ops.add O O O (by omega) (Gdn O (tQ ?_)))
      refine ⟨(q + 1, L.set y (f : Int), Q ++ [y], AZ, cZ), by show sx.n - (q + 1) < sx.n - q; omega, ⟨O, O, O, O, O, O, O, O, O, congrArg (fun m => Value.slice AZ m cZ) hlq.symm, O, O, O, O, O, O, trivial⟩, by show q + 1 ≤ sx.n; omega, hmt, ⟨by show k < (Q ++ [y]).length; rw [List.length_append]; omega, by show (Q ++ [y]).getD k 0 = x; rw [getD_app hkQ, hx]⟩, fun p hp => ?_, fun z hz => gi_set_ge (hmono z hz), ?_⟩
      ·by_cases ep : p = q
       ·subst ep
        rw [hy]
        have h9 := gi_set_eq (L := L) (y := y) (f := f) (by omega)
        show 0 ≤ gi (L.set y (f : Int)) (y : Int)
        omega
       have hp : p < q + 1 := hp
       obtain ⟨y9, hy9, _, _⟩ := hadj _ (gi_in (show p < ys.length by omega))
       have h9 := hlab p (by omega)
       rw [hy9] at h9 ⊢
       exact gi_set_ge h9
      show St w w15 (CkI _ AZ ((Q ++ [y]).length - k) cZ (intL ((Q ++ [y]).drop k)) :: _)
      rw [hlq, intL_drop_app (by omega)]
      exact hS15
     refine Gao O (Ops.add O O O (by omega) (Gdn O (tQ ?_)))
     refine ⟨(q + 1, L, Q, Ao, co), by show sx.n - (q + 1) < sx.n - q; omega, ⟨O, O, O, O, O, O, O, O, O, O, O, O, O, O, O, O, trivial⟩, by show q + 1 ≤ sx.n; omega, hSr, ⟨hkQ, hx⟩, fun p hp => ?_, hmono, hS⟩
     by_cases ep : p = q
     ·subst ep
      rw [hy]
      show 0 ≤ gi L (y : Int)
      omega
     have hp : p < q + 1 := hp
     exact hlab p (by omega)
    have hall : ∀ y : Nat, (y : Int) ∈ ys → 0 ≤ gi L (y : Int) := fun y hy => by
     obtain ⟨p, hp, e9⟩ := List.mem_iff_getElem.1 hy
     rw [← gi_mem hp] at e9
     have := hlab p (by omega)
     rwa [e9] at this
    have hBr2 := (hBr.mono (G' := fun y => 0 ≤ gi L (y : Int)) fun y _ h => hmono y h).del (x := kx) fun y hy => hall y (hys ▸ hy)
    refine Gax O (thenQ_x (Gfo O ?_))
    refine Ops.dlt keyLs 4 (a := kx) hS O O O ?_
    intro w13 hS13
    have hS13 := St.delM (pre := [_, _, _, _, _]) (x := kx) hS13
    refine Gdo O (Ops.add O O O (by omega) (Gdn O (tQ ?_)))
    refine ⟨(i + 1, L, Q, Ao, co, delA M kx), by show n - (i + 1) < n - i; omega, ⟨O, O, O, O, O, O, O, O, O, O, O, O, trivial⟩, by show i + 1 ≤ n; omega, hSr, ⟨hkQ, hx⟩, hBr2, fun i' y hi' hyN hH he => ?_, hS13⟩
    by_cases ei : i' = i
    ·subst ei
     rcases hbal y hyN hH (he.trans hkx) with h9 | h9
     ·exact hall y h9
     exact hmono y h9
    exact hmono y (hdn i' y (by have hi' : i' < i + 1 := hi'; omega) hyN hH he)
   obtain rfl : i = n := by omega
   have hql := hSr.qlen
   have hnext := hSr.next hkQ fun y hy => by
    rw [hx] at hy
    obtain ⟨_, hHy, i', hi', ha⟩ := hy
    exact hdn i' y hi' ha.2.1 hHy ((rst_same hlx.1 (hl _ (hgm y ha.2.1)).1).2 fun k9 h9 h10 => ha.2.2 k9 h9 h10).symm
   have hkQ2 : k < Qi.length := hkQ
   have hcut := St.cutl (i := 0) (l := 1) hS O (by show 1 ≤ Qi.length - k; omega)
   refine Gax O (thenQ_x (Gfo O ?_))
   refine Ops.cut_l (l := 1) O O O (by omega) ?_
   refine Gdn O (tQ ?_)
   refine ⟨(k + 1, Li, Qi, cutAt Ao co 1, co - 1, M), by show fl.length + 1 - (k + 1) < fl.length + 1 - k; omega, ⟨O, O, O, O, O, O, O, O, O, congrArg (fun m => Value.slice (cutAt Ao co 1) m (co - 1)) (Nat.sub_sub _ _ _), trivial⟩, hnext, hBr, ?_⟩
   show St w w10 (CkI _ (cutAt Ao co 1) (Qi.length - (k + 1)) (co - 1) (intL (Qi.drop (k + 1))) :: _)
   have e9 : intL (Qi.drop (k + 1)) = (intL (Qi.drop k)).drop 1 := by simp [intL]
   rw [e9, ← Nat.sub_sub]
   exact hcut
  have hkQ : k = Q.length := by omega
  subst hkQ
  have hend := hSr.end_ hPer hL0 (by omega) h0 (fun S hS1 hS2 => LkH.ind S hS1 hS2) (fun x y h => h.link hnd hll)
  refine Gax O (thenQ_x (Gfo O (Ops.add O O O (by omega) (Gdn O (tQ ?_)))))
  exact ⟨(j + 1, L, M), by show al.length - (j + 1) < al.length - j; omega, ⟨O, O, O, O, O, O, O, O, trivial⟩, by show j + 1 ≤ al.length; omega, hnx _ j f hja hf hend, hBr, hS.tail⟩
 have hje : j = al.length := by omega
 have hbd : bndA fl.length al j = fl.length := by unfold bndA; rw [if_neg (by omega)]
 rw [hbd] at hL0
 refine Gax O (thenQ_x (Gfr O ?_))
 refine ret1_s O ?_
 exact ⟨A22, L0, O, hL0, hS.sub ((List.nil_sublist _).cons_cons _)⟩
end Go.Proofs.YtopgfgdgfjddpaaGreatDoor.Vc
