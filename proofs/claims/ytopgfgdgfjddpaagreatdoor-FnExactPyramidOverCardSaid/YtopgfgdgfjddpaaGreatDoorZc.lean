/-
  The texts B6, B7, Agg, G1, G2, G3, Gct, G4, G5, F1, F2, Cyc, C1, C2 in one. Conditions: as each part states them.
-/
import Derived.Test.YtopgfgdgfjddpaaGreatDoorZb
import Derived.KernelRfl
import Derived.Test.YtopgfgdgfjddpaaGreatDoorZa
/-
 The walk of isManiplex.
-/
namespace Go.Proofs.YtopgfgdgfjddpaaGreatDoor.Vc
open Go.RowKit
theorem rg_cut {rs : List SlV} {l m : Nat} {j : Nat} (hj : j < m) : rg ((rs.drop l).take m) (j : Int) = rg rs ((l + j : Nat) : Int) := by
 have e : (((l + j : Nat) : Int)).toNat = l + j := by omega
 rw [rg, rg, e]
 simp [List.getD_eq_getElem?_getD, List.getElem?_take, hj]
theorem isManiplex_c (A : Option Addr) (n c : Nat) (rs : List SlV) (xss : List (List Int)) (w : World) (hR : RowsI w A n rs xss) (hn : n ≤ c) (hc : c ≤ 9223372036854775807) :
  Ret Tryz.prog 91 [.agg #[.slice A n c]] w (fun v w' => v = .bool (decide (Mani xss)) ∧ St w w' []) := by
 have hxl := hR.len
 have r0 : 0 < n → (gl xss 0).length = (rg rs 0).n := fun h => hR.rowLen (by omega) (by omega)
 refine Ret.of_cd Tryz.func91 O Tryz.ntmps91 O (post1 O) (Gbo O (Ops.box1 (St.refl w) O O ?_))
 intro Ab w1 hS
 refine Gdo O (Ops.call (rank_c _ _ _ _ _ _ (hS.rd 0 O) O) O O O ?_)
 rintro _ _ ⟨rfl, rfl⟩
 refine Ops.call (within_c _ _ _ _) O O O ?_
 rintro _ _ ⟨rfl, rfl⟩
 first | refine Ops.not_p rfl rfl ?_ | refine Ops.not rfl rfl ?_
 refine Gdo O ?_
 refine Ops.split_p 15 O (fun h1 => ?_) (fun h1 => ?_)
 ·refine Ops.k O O O O O (Ops.k O O O O O (Ops.k O O O O O (Gdc O ?_)))
  refine Cd.cond_t O (Gar O (ret1_b O ?_))
  exact ⟨by rw [decide_eq_false (fun h : Mani xss => by have := h.1; omega)], hS.none⟩
 have hM := hS.oldRows hR
 have r0 := r0 (by omega)
 refine Ops.g O O O (Ops.call (flags_c _ _ _ _ _ _ _ _ (hS.rd 0 O) O hM (by omega)) O O O ?_)
 rintro _ _ ⟨rfl, rfl⟩
 refine Ops.g O O O (Ops.call (within_c _ _ _ _) O O O ?_)
 rintro _ _ ⟨rfl, rfl⟩
 refine Ops.g O O O ?_
 first | refine Ops.not_p rfl rfl ?_ | refine Ops.not rfl rfl ?_
 refine Gdc O ?_
 refine Cd.cond_p _ O (fun h3 => ?_) (fun h3 => ?_)
 ·refine Gar O (ret1_b O ?_)
  exact ⟨by rw [decide_eq_false (fun h : Mani xss => by have := h.2.1; omega)], hS.none⟩
 refine Gao O (Ops.fld (hS.rd 0 O) O O O O inferInstance (Ops.ldf_s (hS.rd 0 O) O O O O O ?_))
 refine Ops.len O O (Gdc O ?_)
 refine Cd.loop (α := Nat) (fun k => [(1, .pointer Ab), (21, .slice A n c), (22, .int .i64 (n : Int)), (23, .int .i64 (k : Int))]) (fun k w' => St w w' [Bx 24 1 Ab [.slice A n c]] ∧ k ≤ n ∧ Part xss k) (fun k => n - k) 0 ⟨O, O, O, O, trivial⟩ ⟨hS, Nat.zero_le _, fun p hp => by simp at hp⟩ ?_
 rintro k e w2 ⟨hS2, hk, hP⟩
 have hM := hS2.oldRows hR
 refine Gbc O ?_
 refine Cd.cond_p _ O (fun h5 => ?_) (fun h5 => ?_)
 ·have hkx : k < xss.length := by omega
  have rk := hR.rowLen (k := (k : Int)) (by omega) (by omega)
  have hrow := hM.at_ (i := k) (by omega) h5
  refine Gao O (Ops.idx hM.top.2 O O O (by omega) h5 (Ops.ld_sl hM.top O (by omega) O O (Gdo O (Ops.call (isFreeInvolution_c _ _ _ _ _ hrow) O O O ?_))))
  rintro _ w3 ⟨rfl, hst⟩
  have hS3 := hS2.later hst.below
  have hM := hS3.oldRows hR
  first | refine Ops.not_p rfl rfl ?_ | refine Ops.not rfl rfl ?_
  refine Gdo O ?_
  refine Ops.split_p 30 O (fun h6 => ?_) (fun h6 => ?_)
  ·refine Ops.k O O O O O (Ops.k O O O O O (Ops.k O O O O O (Ops.k O O O O O (Gdc O ?_))))
   refine Cd.cond_t O ?_
   refine Gar O (thenQ_r (Qk_ret ?_))
   refine ret1_b O ?_
   exact ⟨by rw [decide_eq_false (fun h : Mani xss => h6 ⟨(h.2.2.1.at_ hkx).2.1, (h.2.2.1.at_ hkx).2.2⟩)], hS3.none⟩
  have h6 := Classical.not_not.1 h6
  refine Ops.g O O O (Gdo O (Ops.g O O O ?_))
  refine Ops.call (sizeI_c _ _ _ _) O O O ?_
  rintro _ _ ⟨rfl, rfl⟩
  refine Ops.g O O O (Ops.call (flags_c _ _ _ _ _ _ _ _ (hS3.rd 0 O) O hM (by omega)) O O O ?_)
  rintro _ _ ⟨rfl, rfl⟩
  refine Ops.g O O O (Gdc O ?_)
  refine Cd.cond_p _ O (fun h7 => ?_) (fun h7 => ?_)
  ·refine Gar O (thenQ_r (Qk_ret ?_))
   refine ret1_b O ?_
   exact ⟨by rw [decide_eq_false (fun h : Mani xss => h7 (by have := (h.2.2.1.at_ hkx).1; omega))], hS3.none⟩
  refine Gao O (Ops.add O O O (by omega) (Gdn O (tQ ?_)))
  exact ⟨k + 1, by omega, ⟨O, O, O, O, trivial⟩, hS3, by omega, hP.step hkx (by omega) h6.1 h6.2⟩
 have hr1 := hP.all (by omega)
 have hs := hr1.sys
 have hrk : ∀ i : Int, 0 ≤ i → i < n → (rg rs i).n = (rg rs 0).n := fun i h0 h1 => by
  have e1 := hR.rowLen h0 h1
  have e2 := (hr1 _ (gl_in h0 (by omega))).1
  omega
 refine Gax O (thenQ_x (Gfo O ?_))
 refine Ops.fld (hS2.rd 0 O) O O O O inferInstance (Ops.ldf_s (hS2.rd 0 O) O O O O O ?_)
 refine Ops.len O O (Gdc O ?_)
 refine Cd.loop (α := Nat) (fun i => [(1, .pointer Ab), (38, .slice A n c), (39, .int .i64 (n : Int)), (40, .int .i64 (i : Int))]) (fun i w' => St w w' [Bx 24 1 Ab [.slice A n c]] ∧ i ≤ n ∧ ∀ i', i' < i → ∀ k, k < n → i' + 2 ≤ k → ∀ f, f < (gl xss 0).length → Comm xss i' k f) (fun i => n - i) 0 ⟨O, O, O, O, trivial⟩ ⟨hS2, Nat.zero_le _, fun i' hi' => by omega⟩ ?_
 rintro i e w3 ⟨hS3, hi, hC⟩
 have hM := hS3.oldRows hR
 refine Gbc O ?_
 refine Cd.cond_p _ O (fun h6 => ?_) (fun h6 => ?_)
 ·refine Gao O (Ops.idx hM.top.2 O O O (by omega) h6 (Ops.ld_sl hM.top O (by omega) O O (Gdo O (Ops.fld (hS3.rd 0 O) O O O O inferInstance (Ops.ldf_s (hS3.rd 0 O) O O O O O ?_)))))
  refine Gdo O (Ops.add O O O (by omega) ?_)
  refine Ops.fld (hS3.rd 0 O) O O O O inferInstance (Ops.ldf_s (hS3.rd 0 O) O O O O O (Ops.len O O (Ops.minI O O O ?_)))
  obtain ⟨l, hl, hl1, hl2⟩ : ∃ l : Nat, min ((i : Int) + 2) (n : Int) = (l : Int) ∧ l ≤ n ∧ (l = i + 2 ∨ (l = n ∧ n ≤ i + 2)) := ⟨min (i + 2) n, by omega, by omega, by omega⟩
  rw [hl]
  refine Ops.cut_l O O O (by omega) ?_
  rw [Int.toNat_natCast]
  refine Ops.len O O (Gdc O ?_)
  refine Cd.loop (α := Nat) (fun j => [(1, .pointer Ab), (38, .slice A n c), (39, .int .i64 (n : Int)), (40, .int .i64 (i : Int)), (6, .slice (rg rs i).a (rg rs i).n (rg rs i).c), (53, .slice (cutAt A c l) (n - l) (c - l)), (54, .int .i64 ((n - l : Nat) : Int)), (55, .int .i64 (j : Int))]) (fun j w' => St w w' [Bx 24 1 Ab [.slice A n c]] ∧ j ≤ n - l ∧ ∀ k', k' < l + j → k' < n → i + 2 ≤ k' → ∀ f, f < (gl xss 0).length → Comm xss i k' f) (fun j => n - l - j) 0 ⟨O, O, O, O, O, O, O, O, trivial⟩ ⟨hS3, Nat.zero_le _, fun k' h1 _ _ => by omega⟩ ?_
  rintro j e w4 ⟨hS4, hj, hC4⟩
  have hM := hS4.oldRows hR
  have hcut := hM.top.cut (c := c) hl1 (Nat.le_refl n) hn
  refine Gbc O ?_
  refine Cd.cond_p _ O (fun h7 => ?_) (fun h7 => ?_)
  ·have hjl : j < n - l := by omega
   have hk : l + j < n := by omega
   have hik : i + 2 ≤ l + j := by omega
   refine Gao O (Ops.idx hcut.2 O O O (by omega) h7 (Ops.ld_sl hcut O (by omega) O O ?_))
   rw [rg_cut hjl]
   generalize hke : l + j = k at hk hik
   have rki := hrk i (by omega) h6
   have rkk := hrk k (by omega) (by omega)
   refine Gdo O (Ops.call (flags_c _ _ _ _ _ _ _ _ (hS4.rd 0 O) O hM (by omega)) O O O ?_)
   rintro _ w4 ⟨rfl, rfl⟩
   refine Gdc O ?_
   refine Cd.loop (α := Nat) (fun f => [(1, .pointer Ab), (38, .slice A n c), (39, .int .i64 (n : Int)), (40, .int .i64 (i : Int)), (6, .slice (rg rs i).a (rg rs i).n (rg rs i).c), (53, .slice (cutAt A c l) (n - l) (c - l)), (54, .int .i64 ((n - l : Nat) : Int)), (55, .int .i64 (j : Int)), (8, .slice (rg rs k).a (rg rs k).n (rg rs k).c), (59, .int .i64 ((rg rs 0).n : Int)), (60, .int .i64 (f : Int))]) (fun f w' => St w w' [Bx 24 1 Ab [.slice A n c]] ∧ f ≤ (gl xss 0).length ∧ ∀ f', f' < f → Comm xss i k f') (fun f => (gl xss 0).length - f) 0 ⟨O, O, O, O, O, O, O, O, O, O, O, trivial⟩ ⟨hS4, Nat.zero_le _, fun f' hf' => by omega⟩ ?_
   rintro f e w5 ⟨hS5, hf, hC5⟩
   have hM := hS5.oldRows hR
   have hri := hM.at_ (i := i) (by omega) h6
   have hrk' := hM.at_ (i := k) (by omega) (by omega)
   refine Gbc O ?_
   refine Cd.cond_p _ O (fun h8 => ?_) (fun h8 => ?_)
   ·have hii := (hs _ (gl_in (k := (i : Int)) (by omega) (by omega))).2 (f : Int) (by omega) (by omega)
    have hkk := (hs _ (gl_in (k := (k : Int)) (by omega) (by omega))).2 (f : Int) (by omega) (by omega)
    refine Gac O ?_
    by_cases h10 : gi (gl xss i) f = gi (gl xss k) f
    ·
     refine Cd.draw [xS ((rg rs i).a) ((rg rs i).n) ((rg rs i).c), xI ((f : Int)), xP (ptrAt ((rg rs i).a) ((f : Int)).toNat), xI (gi (gl xss i) ((f : Int))), xS ((rg rs k).a) ((rg rs k).n) ((rg rs k).c), xI ((f : Int)), xP (ptrAt ((rg rs k).a) ((f : Int)).toNat), xI (gi (gl xss k) ((f : Int))), xB (true), xB (true), xU, xU, xU, xU, xU, xU, xU, xU, xU, xU, xU, xU, xU, xU, xU, xB (true)] (by kernel_rfl) (by kernel_rfl) O (exL O) ?_ ?_
     ·exact ⟨Dr O, Dr O, fun _ _ hb _ _ => Ops.idx (hri.later hb).2 O O O (by omega) (by omega) (Az O), fun _ _ hb _ _ => Ops.ld_int (hri.later hb) O (by omega) O O (Az O), Dr O, Dr O, fun _ _ hb _ _ => Ops.idx (hrk'.later hb).2 O O O (by omega) (by omega) (Az O), fun _ _ hb _ _ => Ops.ld_int (hrk'.later hb) O (by omega) O O (Az O), fun _ _ _ _ _ => Dk O (by exact congrArg Value.bool (decide_eq_true h10)), Dr O, Dr O, Dr O, Dr O, Dr O, Dr O, Dr O, Dr O, Dr O, Dr O, Dr O, Dr O, Dr O, Dr O, Dr O, Dr O, Dr O, trivial⟩
     intro u w6 hb6 _
     have hS6 := hS5.later hb6
     refine Gec O (Cd.cond_t O ?_)
     refine Gar O (thenQ_r (Qk_ret (thenQ_r (Qk_ret (thenQ_r (Qk_ret ?_))))))
     refine ret1_b O ?_
     exact ⟨by rw [decide_eq_false (fun h : Mani xss => (h.2.2.2.1 i (by omega) k (by omega) hik f (by omega)).2 h10)], hS6.none⟩
    by_cases h9 : gi (gl xss k) (gi (gl xss i) f) = gi (gl xss i) (gi (gl xss k) f)
    ·refine Cd.draw [xS ((rg rs i).a) ((rg rs i).n) ((rg rs i).c), xI ((f : Int)), xP (ptrAt ((rg rs i).a) ((f : Int)).toNat), xI (gi (gl xss i) ((f : Int))), xS ((rg rs k).a) ((rg rs k).n) ((rg rs k).c), xI ((f : Int)), xP (ptrAt ((rg rs k).a) ((f : Int)).toNat), xI (gi (gl xss k) ((f : Int))), xB (false), xB (false), xS ((rg rs k).a) ((rg rs k).n) ((rg rs k).c), xS ((rg rs i).a) ((rg rs i).n) ((rg rs i).c), xI ((f : Int)), xP (ptrAt ((rg rs i).a) ((f : Int)).toNat), xI (gi (gl xss i) ((f : Int))), xP (ptrAt ((rg rs k).a) (gi (gl xss i) ((f : Int))).toNat), xI (gi (gl xss k) (gi (gl xss i) ((f : Int)))), xS ((rg rs i).a) ((rg rs i).n) ((rg rs i).c), xS ((rg rs k).a) ((rg rs k).n) ((rg rs k).c), xI ((f : Int)), xP (ptrAt ((rg rs k).a) ((f : Int)).toNat), xI (gi (gl xss k) ((f : Int))), xP (ptrAt ((rg rs i).a) (gi (gl xss k) ((f : Int))).toNat), xI (gi (gl xss i) (gi (gl xss k) ((f : Int)))), xB (false), xB (false)] (by kernel_rfl) (by kernel_rfl) O (exL O) ?_ ?_
     ·exact ⟨Dr O, Dr O, fun _ _ hb _ _ => Ops.idx (hri.later hb).2 O O O (by omega) (by omega) (Az O), fun _ _ hb _ _ => Ops.ld_int (hri.later hb) O (by omega) O O (Az O), Dr O, Dr O, fun _ _ hb _ _ => Ops.idx (hrk'.later hb).2 O O O (by omega) (by omega) (Az O), fun _ _ hb _ _ => Ops.ld_int (hrk'.later hb) O (by omega) O O (Az O), fun _ _ _ _ _ => Dk O (by exact congrArg Value.bool (decide_eq_false h10)), Dr O, Dr O, Dr O, Dr O, fun _ _ hb _ _ => Ops.g O O O (Ops.idx (hri.later hb).2 O O O (by omega) (by omega) (Az O)), fun _ _ hb _ _ => Ops.g O O O (Ops.ld_int (hri.later hb) O (by omega) O O (Az O)), fun _ _ hb _ _ => Ops.g O O O (Ops.idx (hrk'.later hb).2 O O O (by omega) (by omega) (Az O)), fun _ _ hb _ _ => Ops.g O O O (Ops.ld_int (hrk'.later hb) O (by omega) O O (Az O)), Dr O, Dr O, Dr O, fun _ _ hb _ _ => Ops.g O O O (Ops.idx (hrk'.later hb).2 O O O (by omega) (by omega) (Az O)), fun _ _ hb _ _ => Ops.g O O O (Ops.ld_int (hrk'.later hb) O (by omega) O O (Az O)), fun _ _ hb _ _ => Ops.g O O O (Ops.idx (hri.later hb).2 O O O (by omega) (by omega) (Az O)), fun _ _ hb _ _ => Ops.g O O O (Ops.ld_int (hri.later hb) O (by omega) O O (Az O)), fun _ _ _ _ _ => Dk O (by exact congrArg Value.bool (decide_eq_false (fun h => h h9))), Dr O, trivial⟩
     intro u w6 hb6 _
     have hS6 := hS5.later hb6
     refine Gec O (Cd.cond_f O ?_)
     refine Gao O (Ops.add O O O (by omega) (Gdn O (tQ ?_)))
     refine ⟨f + 1, by omega, ⟨O, O, O, O, O, O, O, O, O, O, O, trivial⟩, hS6, by omega, fun f' hf' => ?_⟩
     by_cases ef : f' = f
     ·subst ef; exact ⟨h9, h10⟩
     exact hC5 f' (by omega)
    refine Cd.draw [xS ((rg rs i).a) ((rg rs i).n) ((rg rs i).c), xI ((f : Int)), xP (ptrAt ((rg rs i).a) ((f : Int)).toNat), xI (gi (gl xss i) ((f : Int))), xS ((rg rs k).a) ((rg rs k).n) ((rg rs k).c), xI ((f : Int)), xP (ptrAt ((rg rs k).a) ((f : Int)).toNat), xI (gi (gl xss k) ((f : Int))), xB (false), xB (false), xS ((rg rs k).a) ((rg rs k).n) ((rg rs k).c), xS ((rg rs i).a) ((rg rs i).n) ((rg rs i).c), xI ((f : Int)), xP (ptrAt ((rg rs i).a) ((f : Int)).toNat), xI (gi (gl xss i) ((f : Int))), xP (ptrAt ((rg rs k).a) (gi (gl xss i) ((f : Int))).toNat), xI (gi (gl xss k) (gi (gl xss i) ((f : Int)))), xS ((rg rs i).a) ((rg rs i).n) ((rg rs i).c), xS ((rg rs k).a) ((rg rs k).n) ((rg rs k).c), xI ((f : Int)), xP (ptrAt ((rg rs k).a) ((f : Int)).toNat), xI (gi (gl xss k) ((f : Int))), xP (ptrAt ((rg rs i).a) (gi (gl xss k) ((f : Int))).toNat), xI (gi (gl xss i) (gi (gl xss k) ((f : Int)))), xB (true), xB (true)] (by kernel_rfl) (by kernel_rfl) O (exL O) ?_ ?_
    ·exact ⟨Dr O, Dr O, fun _ _ hb _ _ => Ops.idx (hri.later hb).2 O O O (by omega) (by omega) (Az O), fun _ _ hb _ _ => Ops.ld_int (hri.later hb) O (by omega) O O (Az O), Dr O, Dr O, fun _ _ hb _ _ => Ops.idx (hrk'.later hb).2 O O O (by omega) (by omega) (Az O), fun _ _ hb _ _ => Ops.ld_int (hrk'.later hb) O (by omega) O O (Az O), fun _ _ _ _ _ => Dk O (by exact congrArg Value.bool (decide_eq_false h10)), Dr O, Dr O, Dr O, Dr O, fun _ _ hb _ _ => Ops.g O O O (Ops.idx (hri.later hb).2 O O O (by omega) (by omega) (Az O)), fun _ _ hb _ _ => Ops.g O O O (Ops.ld_int (hri.later hb) O (by omega) O O (Az O)), fun _ _ hb _ _ => Ops.g O O O (Ops.idx (hrk'.later hb).2 O O O (by omega) (by omega) (Az O)), fun _ _ hb _ _ => Ops.g O O O (Ops.ld_int (hrk'.later hb) O (by omega) O O (Az O)), Dr O, Dr O, Dr O, fun _ _ hb _ _ => Ops.g O O O (Ops.idx (hrk'.later hb).2 O O O (by omega) (by omega) (Az O)), fun _ _ hb _ _ => Ops.g O O O (Ops.ld_int (hrk'.later hb) O (by omega) O O (Az O)), fun _ _ hb _ _ => Ops.g O O O (Ops.idx (hri.later hb).2 O O O (by omega) (by omega) (Az O)), fun _ _ hb _ _ => Ops.g O O O (Ops.ld_int (hri.later hb) O (by omega) O O (Az O)), fun _ _ _ _ _ => Dk O (by exact congrArg Value.bool (decide_eq_true h9)), Dr O, trivial⟩
    intro u w6 hb6 _
    have hS6 := hS5.later hb6
    refine Gec O (Cd.cond_t O ?_)
    refine Gar O (thenQ_r (Qk_ret (thenQ_r (Qk_ret (thenQ_r (Qk_ret ?_))))))
    refine ret1_b O ?_
    exact ⟨by rw [decide_eq_false (fun h : Mani xss => h9 (h.2.2.2.1 i (by omega) k (by omega) hik f (by omega)).1)], hS6.none⟩
   refine Gax O (thenQ_x (Gfo O (Ops.add O O O (by omega) (Gdn O (tQ ?_)))))
   refine ⟨j + 1, by omega, ⟨O, O, O, O, O, O, O, O, trivial⟩, hS5, by omega, fun k' hk' hkn hik' f' hf' => ?_⟩
   by_cases ek : k' = k
   ·subst ek; exact hC5 f' (by omega)
   exact hC4 k' (by omega) hkn hik' f' hf'
  refine Gax O (thenQ_x (Gfo O (Ops.add O O O (by omega) (Gdn O (tQ ?_)))))
  refine ⟨i + 1, by omega, ⟨O, O, O, O, trivial⟩, hS4, by omega, fun i' hi' k' hk' hik' f' hf' => ?_⟩
  by_cases ei : i' = i
  ·subst ei; exact hC4 k' (by omega) hk' hik' f' hf'
  exact hC i' (by omega) k' hk' hik' f' hf'
 have hB := hS3.rd 0 O
 refine Gax O (thenQ_x (Gfc O ?_))
 refine Cd.draw [xI (((rg rs 0).n : Int)), xP (ptrAt (Ab) 0), xS (A) (n) (c), .pr (fun v _ => ∃ A', v = .tuple #[.slice A' (gl xss 0).length (gl xss 0).length, .int .i64 (lab (gl xss 0).length xss (gl xss 0).length).2]), .pr (fun v _ => ∃ A', v = .tuple #[.slice A' (gl xss 0).length (gl xss 0).length, .int .i64 (lab (gl xss 0).length xss (gl xss 0).length).2]), .pr (fun v _ => ∃ A', v = .slice A' (gl xss 0).length (gl xss 0).length), xI ((lab (gl xss 0).length xss (gl xss 0).length).2), .pr (fun v _ => ∃ A', v = .slice A' (gl xss 0).length (gl xss 0).length), xI ((lab (gl xss 0).length xss (gl xss 0).length).2)] (by kernel_rfl) (by kernel_rfl) rfl (lx (lx (lx (List.forall_mem_cons.2 ⟨Yd.lasts_pr (fun _ _ _ h _ => h), (List.forall_mem_cons.2 ⟨Yd.lasts_pr (fun _ _ _ h _ => h), (List.forall_mem_cons.2 ⟨Yd.lasts_pr (fun _ _ _ h _ => h), (lx (List.forall_mem_cons.2 ⟨Yd.lasts_pr (fun _ _ _ h _ => h), (lx (fun _ h => by cases h))⟩))⟩)⟩)⟩)))) ?_ ?_
 ·refine ⟨?_, fun _ _ hb _ _ => Ops.fld (hB.below hb) O O O O inferInstance (Az O), fun _ _ hb _ _ => Ops.ldf_s (hB.below hb) O O O O O (Az O), ?_, ?_, ?_, ?_, ?_, Dr O, trivial⟩
  ·intro e1 w1 hb hp hun; refine Ops.call (flags_c _ _ _ _ _ _ _ _ (hB.below hb) O (hM.later hb) (by omega)) O O O ?_
   rintro _ w2 ⟨rfl, hst⟩
   subst hst
   refine Ops.n (d0 (by exact O))
  ·intro e1 w1 hb hp hun; refine Ops.call (orbitLabels_c A n c rs xss (gl xss 0).length _ (hM.later hb) (by omega) hs hr1.inj (by omega)) O (by rw [r0]; rfl) O ?_
   rintro _ w2 ⟨A', rfl, hst⟩
   refine Ops.n ?_
   exact After.dn hst.below ⟨A', O⟩
  ·intro e1 w1 hb hp hun
   obtain ⟨A', h96⟩ := (hp 3 (by decide) rfl _ _ rfl rfl)
   refine Ops.mv_tup O (by exact h96) O (Ops.n ?_)
   exact After.dn (Below.refl _ _) ⟨A', O⟩
  ·intro e1 w1 hb hp hun
   obtain ⟨A', h92⟩ := (hp 4 (by decide) rfl _ _ rfl rfl)
   refine Ops.extract (by exact h92) O O (Ops.n ?_)
   exact After.dn (Below.refl _ _) ⟨A', O⟩
  ·intro e1 w1 hb hp hun
   obtain ⟨A', h92⟩ := (hp 4 (by decide) rfl _ _ rfl rfl)
   refine Ops.extract (by exact h92) O O (Az O)
  intro e1 w1 hb hp hun
  obtain ⟨A', h97⟩ := (hp 5 (by decide) rfl _ _ rfl rfl)
  refine Ops.ms O (by exact h97) O (Ops.n ?_)
  exact After.dn (Below.refl _ _) ⟨A', O⟩
 intro u w6 hb6 _
 have hS6 := hS3.later hb6
 refine Ger O (ret1_b O ?_)
 refine ⟨?_, hS6.none⟩
 congr 1
 have ho := orbit_all hs (by omega)
 have hl := lab_one hs (by omega)
 exact decide_eq_decide.2 ⟨fun h => ⟨by omega, by omega, hr1, fun i' hi' k' hk' hik' f' hf' => hC i' (by omega) k' (by omega) hik' f' hf', ho.2 (hl.1 h)⟩, fun h => hl.2 (ho.1 h.2.2.2.2)⟩
/-
 The walks of the desk's small functions.
-/
section
variable {P : Program} {N : Nat} {ops : Array Oper} {K : Env → World → Prop} {rest : List Oper} {e : Env} {w : World} {d : Nat} {ty : TypeId} {pos : String} {af : Array Edge} {x y : Operand} {xt yt : TypeId}
theorem run_equal_bool [Und P xt .bool] (a b : Bool) : (Op.equal xt (.bool a) (.bool b)).run P w = .ok (a == b) w :=
 run_equalIn_bool w 9999 xt a b Und.out
theorem Ops.neqB [Und P xt .bool] {a b : Bool} (hx : ev e x = .bool a) (hy : ev e y = .bool b) (hb : Nat.blt d N = true) (hK : Ops P N ops K rest (upd e d (.bool (!(a == b)))) w) :
  Ops P N ops K (⟨some d, .binOp .neq xt x y yt, ty, pos, af, none⟩ :: rest) e w :=
 .val (by simp [execOp, hx, hy, eqGuard, binOp, run_equal_bool]) hb hK
theorem Ops.eqlB [Und P xt .bool] {a b : Bool} (hx : ev e x = .bool a) (hy : ev e y = .bool b) (hb : Nat.blt d N = true) (hK : Ops P N ops K rest (upd e d (.bool (a == b))) w) :
  Ops P N ops K (⟨some d, .binOp .eql xt x y yt, ty, pos, af, none⟩ :: rest) e w :=
 .val (by simp [execOp, hx, hy, eqGuard, binOp, run_equal_bool]) hb hK
end
theorem szGo_fits : ∀ (ns : List Nat) (l : Int), 0 ≤ l → 0 ≤ szGo ns l → szGo ns l ≤ l ∧ ∀ n ∈ ns, (n : Int) ≤ l
 | [], l, _, _ => ⟨by simp [szGo], fun n hn => by cases hn⟩
 | m :: r, l, h0, h => by
  simp only [szGo] at h ⊢
  split at h
  ·omega
  ·rename_i h1
   rw [if_neg h1]
   have hle := szI_le m l h0
   have ih := szGo_fits r (szI m l) (by omega) h
   refine ⟨by omega, fun n hn => ?_⟩
   rcases List.mem_cons.1 hn with rfl | hn
   ·unfold szI at h1; split at h1 <;> omega
   ·have := ih.2 n hn; omega
theorem szSS_fits {ns : List Nat} {l : Int} (h0 : 0 ≤ l) (h : 0 ≤ szSS ns l) : szSS ns l ≤ l ∧ (ns.length : Int) ≤ l ∧ ∀ n ∈ ns, (n : Int) ≤ l := by
 unfold szSS at h ⊢
 split at h
 ·omega
 rename_i h1
 rw [if_neg h1]
 have := szGo_fits ns (l - ns.length) (by omega) h
 exact ⟨by omega, by omega, fun n hn => by have := this.2 n hn; omega⟩
theorem fits_of {n : Nat} {rs : List SlV} {l : Int} (hl : rs.length = n) (h0 : 0 ≤ l ∧ l ≤ 1048576) (h : 0 ≤ szSS (lens rs) l) : Fits n rs := by
 have h1 := szSS_fits h0.1 h
 refine ⟨by have := h1.2.1; simp [lens] at this; omega, fun i hi => ?_⟩
 have := h1.2.2 (rs.getD i slNil).n (by
  simp only [lens, List.mem_map]
  exact ⟨rs[i]'(by omega), List.getElem_mem _, by simp [List.getD_eq_getElem?_getD, List.getElem?_eq_getElem (show i < rs.length by omega)]⟩)
 omega
/-
 Structs built, slices of structs, comparisons with nil, rows of a matrix turned.
-/
section
variable {P : Program} {N : Nat} {ops : Array Oper} {K : Env → World → Prop} {rest : List Oper} {e : Env} {w0 w w' : World} {ks : List Ck} {d : Nat} {ty : TypeId} {pos : String} {af : Array Edge}
theorem Ops.eqNil {t t' el : TypeId} [Und P t (.slice el)] {x y : Operand} {A : Option Addr} {n c : Nat} (hx : ev e x = .slice A n c) (hy : ev e y = .slice none 0 0) (hb : Nat.blt d N = true) (hK : Ops P N ops K rest (upd e d (.bool A.isNone)) w) :
  Ops P N ops K (⟨some d, .binOp .eql t x y t', ty, pos, af, none⟩ :: rest) e w := by
 have hr : (Op.equal t (.slice A n c) (.slice none 0 0)).run P w = .ok A.isNone w := by
  show (Op.equalIn (9999 + 1) t (.slice A n c) (.slice none 0 0)).run P w = _
  rw [Op.equalIn]
  cases A <;> simp [run_underlying (Und.out (P := P) (t := t))]
 exact .val (by simp [execOp, hx, hy, eqGuard, binOp, hr]) hb hK
end
/-! a row of a matrix of one's own -/
theorem rowsCk_set {t : TypeId} : ∀ {rs : List SlV} {xss : List (List Int)} {i : Nat} {xs : List Int}, rs.length = xss.length → i < rs.length → (rowsCk t rs xss).set i (CkI t (rs.getD i slNil).a (rs.getD i slNil).n (rs.getD i slNil).c xs) = rowsCk t rs (xss.set i xs)
 | [], _, _, _, _, h => by simp at h
 | r :: rs, [], _, _, h, _ => by simp at h
 | r :: rs, x :: xss, 0, xs, _, _ => rfl
 | r :: rs, x :: xss, i + 1, xs, h, hi => by
  have := rowsCk_set (t := t) (rs := rs) (xss := xss) (i := i) (xs := xs) (by simpa using h) (by simpa using hi)
  simpa [rowsCk] using this
theorem mat_get {t1 t2 : TypeId} {A : Option Addr} {n c : Nat} {rs : List SlV} {xss : List (List Int)} {pre ks : List Ck} {i : Nat} (hr : rs.length = xss.length) (hi : i < rs.length) : (pre ++ (mat t1 t2 A n c rs xss ++ ks))[pre.length + 1 + i]? = some (CkI t2 (rs.getD i slNil).a (rs.getD i slNil).n (rs.getD i slNil).c (xss.getD i [])) := by
 rw [List.getElem?_append_right (by omega), show pre.length + 1 + i - pre.length = i + 1 by omega, List.getElem?_append_left (by simp [mat, rowsCk_length hr]; omega)]
 simpa [mat] using rowsCk_get (t := t2) hr hi
theorem mat_set {t1 t2 : TypeId} {A : Option Addr} {n c : Nat} {rs : List SlV} {xss : List (List Int)} {pre ks : List Ck} {i : Nat} {xs : List Int} (hr : rs.length = xss.length) (hi : i < rs.length) : (pre ++ (mat t1 t2 A n c rs xss ++ ks)).set (pre.length + 1 + i) (CkI t2 (rs.getD i slNil).a (rs.getD i slNil).n (rs.getD i slNil).c xs) = pre ++ (mat t1 t2 A n c rs (xss.set i xs) ++ ks) := by
 rw [List.set_append_right _ _ (by omega), show pre.length + 1 + i - pre.length = i + 1 by omega, List.set_append_left _ _ (by simp [mat, rowsCk_length hr]; omega)]
 congr 2
 simp only [mat, List.set_cons_succ]
 rw [rowsCk_set hr hi]
section
variable {P : Program} {N : Nat} {ops : Array Oper} {K : Env → World → Prop} {rest : List Oper} {e : Env} {w0 w w' : World} {ks pre : List Ck} {ty : TypeId} {pos : String} {af : Array Edge}
end
structure MatV where
 top : SlV
 rs : List SlV
 xss : List (List Int)
def MatV.ok (m : MatV) : Prop := m.xss.length = m.top.n
/-
 The walks of copies and of the reference's tests of partial moves.
-/
theorem l01Own_c (A : Option Addr) (n c : Nat) (xs : List Int) (w : World) (hR : RdI w A n xs) (hn : n ≤ 1000000000) : Ret Tryz.prog 237 [.slice A n c] w (fun v w' => ∃ A' c', v = .slice A' n c' ∧ St w w' [CkI 2 A' n c' xs]) := by
 refine Ret.of_cd Tryz.func237 O Tryz.ntmps237 O (post1 O) (Gbo O (Ops.bs0 (St.refl w) O ?_))
 intro A1 w1 hS1
 have hS1 : St w w1 [CkI 2 A1 0 0 []] := hS1
 refine Gdo O (Ops.appI 0 hS1 O (hS1.oldI hR) O O O (by omega) (by omega) O ?_)
 intro A2 c2 w2 hS2
 rw [Nat.zero_add] at hS2 ⊢
 refine Gdr O (ret1_s O ?_)
 exact ⟨A2, c2, O, hS2⟩
/-
 The walk of the reference's search for rooted forms.
-/
def body (n F : Nat) (ok : List (List Int) → Nat → Nat → Bool) (fin : List (List Int) → Bool) (k at_ met : Nat) (M : List (List Int)) (g : Nat) : List (List (List Int)) :=
 if 0 ≤ cell M (at_ % n) (g : Nat) then [] else if ok (put M (at_ % n) (at_ / n) g) (at_ % n) (at_ / n) = true then grow n F ok fin k (at_ + 1) (max met (g + 1)) (put M (at_ % n) (at_ / n) g) else []
/-
 The walk of the reference's search for rooted forms.
-/
end Go.Proofs.YtopgfgdgfjddpaaGreatDoor.Vc
/-
 Plain mathematics: how many rooted forms there can be.
-/
namespace Go.Proofs.YtopgfgdgfjddpaaGreatDoor.Vc
section
variable {n F : Nat} {M : List (List Int)} {met at_ : Nat}
end
end Go.Proofs.YtopgfgdgfjddpaaGreatDoor.Vc
/-
 The walks of the reference's list of rooted forms and of its count.
-/
namespace Go.Proofs.YtopgfgdgfjddpaaGreatDoor.Vc
open Go.RowKit
def Small (rank flags : Int) : Prop := (1 ≤ rank ∧ rank ≤ 4) ∧ (2 ≤ flags ∧ flags ≤ 12)
instance (rank flags : Int) : Decidable (Small rank flags) := by unfold Small; exact inferInstance
/-
 The walks of the program's copies and of its test of a move.
-/
theorem Clone_c (A : Option Addr) (n c : Nat) (xs : List Int) (w : World) (hR : RdI w A n xs) (hn : n ≤ 1000000000) : Ret Tryz.prog 141 [.slice A n c] w (fun v w' => ∃ A' c', v = .slice A' n c' ∧ St w w' [CkI 2 A' n c' xs]) := by
 cases hA : A with
 | none =>
  subst hA
  have hn0 : n = 0 := by
   apply Classical.byContradiction
   intro h
   obtain ⟨p, hp, _⟩ := hR.2 0 (by omega)
   simp [ptrAt] at hp
  subst hn0
  have hx : xs = [] := List.eq_nil_of_length_eq_zero hR.1
  subst hx
  refine Ret.of_cd Tryz.func141 O Tryz.ntmps141 O (post1 O) (Gbo O (Ops.eqNil O O O (Gdc O (Cd.cond_t O (Gar O (ret1_s O ?_))))))
  exact ⟨none, 0, O, (St.refl w).nil _⟩
 | some a =>
  subst hA
  refine Ret.of_cd Tryz.func141 O Tryz.ntmps141 O (post1 O) (Gbo O (Ops.eqNil O O O (Gdc O (Cd.cond_f O (Gao O (Ops.bs0 (St.refl w) O ?_))))))
  intro A1 w1 hS1
  have hS1 : St w w1 [CkI 2 A1 0 0 []] := hS1
  refine Gdo O (Ops.appI 0 hS1 O (hS1.oldI hR) O O O (by omega) (by omega) O ?_)
  intro A2 c2 w2 hS2
  rw [Nat.zero_add] at hS2 ⊢
  refine Gdr O (ret1_s O ?_)
  exact ⟨A2, c2, O, hS2⟩
/-
 The walks of the reference's forms.
-/
section
variable {P : Program} {N : Nat} {ops : Array Oper} {K : Env → World → Prop} {rest : List Oper} {e : Env} {w : World} {d : Nat} {ty : TypeId} {pos : String} {af : Array Edge}
theorem Ops.bld0 {t : TypeId} {f0 : Field} {z0 zf : Value} {b bf : Nat} [Und P t (.struct #[f0])] [Inf P t (.agg #[z0]) 1 b] (hI : Inf P f0.type zf 1 bf) (hb : Nat.blt d N = true) (hK : Ops P N ops K rest (upd e d (.agg #[z0])) w) : Ops P N ops K (⟨some d, .build t #[], ty, pos, af, none⟩ :: rest) e w := by
 obtain ⟨inf, hi, hz0, hs, hby⟩ := Inf.get P t
 obtain ⟨inf', hi', hz0', hs', hby'⟩ := hI.get P f0.type
 have ez : (Value.agg #[z0]).cells = #[z0] := O
 refine .val (w' := w) ?_ hb hK
 simp [execOp, Instr.build, run_underlying (Und.out (P := P) (t := t)), sizeOf, typeInfo, zeroValue, hi, hz0, hs, hi', hs', ez, Instr.fill]
end
/-
 The walks of forms on both sides.
-/
/-
 The cycles of a list of numbers, by their least points, and lists in ascending order: a plain law, with no program in sight.
-/
/-! ascending lists -/
def Asc (l : List Int) : Prop := l.Pairwise (· ≤ ·)
def srt (l : List Int) : List Int := l.mergeSort fun x y => decide (x ≤ y)
theorem srt_perm (l : List Int) : (srt l).Perm l := List.mergeSort_perm _ _
theorem srt_asc (l : List Int) : Asc (srt l) := by
 have := List.pairwise_mergeSort (le := fun x y : Int => decide (x ≤ y)) (fun a b c h1 h2 => by simp at h1 h2 ⊢; omega) (fun a b => by simp; omega) l
 exact this.imp fun h => by simpa using h
theorem asc_unique {l l' : List Int} (h : l.Perm l') (h1 : Asc l) (h2 : Asc l') : l = l' :=
 List.Perm.eq_of_pairwise (le := (· ≤ ·)) (fun a b _ _ h1 h2 => by omega) h1 h2 h
/-
 The walks of the reference's runs of a word over flags, and of the lengths of a word.
-/
def Grph (xss : List (List Int)) : Prop := Mani xss ∧ 2 ≤ xss.length
instance (xss : List (List Int)) : Decidable (Grph xss) := by unfold Grph; exact inferInstance
theorem l02Flags_c (A : Option Addr) (n c : Nat) (rs : List SlV) (xss : List (List Int)) (w : World) (hR : RowsI w A n rs xss) (hn : 0 < n) :
  Ret Tryz.prog 161 [.agg #[.slice A n c]] w (fun v w' => v = .int .i64 ((gl xss 0).length : Int) ∧ St w w' []) := by
 refine Ret.of_cd Tryz.func161 O Tryz.ntmps161 O (post1 O) (Gbo O (Ops.box1 (St.refl w) O O ?_))
 intro Ab w1 hS
 have hR1 := hS.oldRows hR
 have e0 : (gl xss 0).length = (rg rs 0).n := hR.rowLen (by omega) (by omega)
 refine Gdo O (Ops.fld (hS.rd 0 O) O O O O inferInstance (Ops.ldf_s (hS.rd 0 O) O O O O O (Ops.idx hR1.top.2 O O O (by omega) (by omega) (Ops.ld_sl hR1.top O (by omega) O O ?_))))
 refine Ops.len O O (Gdr O ?_)
 refine ret1_i O ?_
 exact ⟨by rw [e0], hS.none⟩
/-
 The walk of the reference's lengths of a word.
-/
theorem RdI.take {w : World} {A : Option Addr} {n l : Nat} {xs : List Int} (h : RdI w A n xs) (hl : l ≤ n) : RdI w A l (xs.take l) := by
 have := h.cut (l := 0) (h := l) (c := 0) (Nat.zero_le _) hl
 refine ⟨by rw [List.length_take, h.1]; omega, fun k hk => ?_⟩
 obtain ⟨q, h1, h2⟩ := h.2 k (by omega)
 exact ⟨q, h1, by rw [h2]; simp [List.getElem?_take, hk, List.getD_eq_getElem?_getD]⟩
end Go.Proofs.YtopgfgdgfjddpaaGreatDoor.Vc
